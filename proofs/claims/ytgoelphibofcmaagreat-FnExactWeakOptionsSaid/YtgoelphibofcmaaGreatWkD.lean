/- The bonds of an assembly, by the reference. -/
import Derived.Test.YtgoelphibofcmaaGreatWkB
import Derived.Test.YtgoelphibofcmaaGreatWkC
set_option linter.unusedVariables false
set_option linter.unusedSimpArgs false
set_option maxRecDepth 100000
set_option maxHeartbeats 16000000
namespace Go.Proofs.YtgoelphibofcmaaGreat.V
open Go.RowKit
attribute [local irreducible] dG wpOps gz Call
attribute [local go_sem] aL fU eV gw gr cK upd cw K.av cU AV.cells AV.cell rowOf rowsOf part ld rowAt bJ cr dK ep iC bR dj eF gq fh dz ew dh de ec ee bV bh cX bU cZ cY eu ez ev cW cj di er bS aQ db cG iA bz cN bW aX dn aZ dL AV.undef bG bK ef eo dW ea cJ eE eH cD eB eA da dc List.getD_cons_zero List.getD_cons_succ List.getD_nil List.all_cons List.all_nil Bool.and_true Bool.true_and Bool.and_self Bool.not_true Bool.not_false Option.map_some Option.map_none Option.bind_some Option.bind_none List.length_cons List.length_nil List.take_succ_cons List.take_zero List.take_nil List.drop_succ_cons List.drop_zero List.drop_nil List.head?_cons List.map_cons List.map_nil List.getElem?_cons_zero List.getElem?_cons_succ List.cons_append List.nil_append List.append_nil List.length_map List.set_cons_zero List.set_cons_succ Nat.reduceMul eq_self Int.toNat_natCast Int.natCast_nonneg and_self true_and and_true decide_true decide_false Bool.false_eq_true Nat.zero_add Nat.add_zero List.contains_cons List.contains_nil Bool.or_false Bool.false_or beq_self_eq_true Nat.reduceBEq ne_eq not_true_eq_false not_false_eq_true Id.mk.injEq false_and and_false Nat.reduceLT Int.reduceLE Int.reduceLT Int.reduceToNat Int.reduceNeg Int.reduceAdd Nat.le_refl List.length_append beq_true beq_false Bool.not_eq_eq_eq_not or_false false_or dX ai aq aH bj bE cu aW br aU bp cV bP
def aC (b:PB):List AV:=[.int .i64 b.a,.int .i64 b.b,.int .i64 b.s]
theorem Ni:∀b:PB,(aC b).length=3/\(aC b).all AV.cell=true:=fun _=>⟨rfl,rfl⟩
theorem zo (g:Rows) (n:Nat) (b:PB):cL g (n+1) (aC b)=some (aC b):=by simp[aC,ai,aq,aH]
theorem uu (g:Rows) (n:Nat) (b:PB):eb g (n+1) (aC b)=some (aC b):=by simp[aC,bB,cz,eO]
theorem Ik:P9 aC (fun c=>.agg (aC c)) 3 true:=⟨fun _=>rfl,fun _=>rfl,fun x g=>by simp only[aC,ai,aq,br,aH,Option.map_some]⟩
def mN (s:aw) (l:List ah) (i:Nat) (d:Int):List PB:=
 if 0<=eL l (cq (aT l i).aO d)/\0<gQ s (aT l i).bd d (aT l (eL l (cq (aT l i).aO d)).toNat).bd then
  [⟨i,(eL l (cq (aT l i).aO d)).toNat,gQ s (aT l i).bd d (aT l (eL l (cq (aT l i).aO d)).toNat).bd⟩]else[]
def fX (s:aw) (l:List ah) (i m:Nat):List PB:=(List.range m).flatMap fun j:Nat=>mN s l i (1-(j:Int))
def gK (s:aw) (l:List ah) (n:Nat):List PB:=(List.range n).flatMap fun i=>fX s l i 2
def cF (s:aw) (l:List ah):List PB:=gK s l l.length
theorem pS (s:aw) (l:List ah) (i m:Nat):fX s l i (m+1)=fX s l i m++mN s l i (1-(m:Int)):=by simp[fX,List.range_succ]
theorem qW (s:aw) (l:List ah) (n:Nat):gK s l (n+1)=gK s l n++fX s l n 2:=by simp[gK,List.range_succ]
theorem Dc (s:aw) (l:List ah) (i:Nat) (d:Int):(mN s l i d).length<=1:=by unfold mN;split<;>simp
theorem qV (s:aw) (l:List ah) (i m:Nat):(fX s l i m).length<=m:=by
 induction m with
 |zero=>simp[fX]
 |succ m ih=>rw[pS,List.length_append];have:=Dc s l i (1-(m:Int));omega
theorem th (s:aw) (l:List ah) (n:Nat):(gK s l n).length<=2*n:=by
 induction n with
 |zero=>simp[gK]
 |succ n ih=>rw[qW,List.length_append];have:=qV s l n 2;omega
def sB:Id->Prop:=fun o=>o.site=193001000∨o.site=193012006
theorem DT (s:aw) (l:List ah) (hS:kE s) (hA:lN s l):aj Tryz.prog 193 [.cQ (ab s),.cQ [.sl (l.map ad)]] (.sl ((cF s l).map aC)):=by
 refine aj.body ek rfl fun hl n0=>?_
 clear hl
 have hF:=hA.1
 have Bv:=hF.w8
 (try((repeat(revert hN;revert N;apply Pn.out));refine wk @Nat.zero_add ?_;(repeat(refine Pn.mk ?_;intro N hN))))
 refine aI (fun n env st=>∃k:Nat,n=(l.length)-k/\k<=(l.length)/\env 6=.int .i64 (k:Int)/\(mK aC 3 (env 5) st.get sB (gK s l k))) (l.length) ⟨0,by omega,by omega,sl @Nat.zero_add,⟨⟨193001000,n0+1⟩,.inl rfl,by simp only[go_sem, ↓reduceIte,Nat.reduceEqDiff,Nat.reduceAdd,Nat.reduceSub,Nat.reduceLeDiff,reduceCtorEq];rfl,by simp only[go_sem, ↓reduceIte,Nat.reduceEqDiff,Nat.reduceAdd,Nat.reduceSub,Nat.reduceLeDiff,reduceCtorEq];rfl⟩⟩ ?_
 rintro n_a env_a st_a ⟨k,rfl,ale,a6,j9⟩ dp
 have a0:=dp 0 (by kernel_rfl);have a1:=dp 1 (by kernel_rfl)
 simp only[go_sem, ↓reduceIte,Nat.reduceEqDiff,Nat.reduceAdd,Nat.reduceSub,Nat.reduceLeDiff,reduceCtorEq]at a0 a1
 clear dp
 by_cases hk:(k:Int)<(l.length:Int)
 ·have ck:∀{e:Env} {gg:Rows},(e 6=.int .i64 (IntKind.i64.wrap ((k:Int)+1)))->(mK aC 3 (e 5) gg sB (gK s l (k+1)))->∃m0,m0<(l.length)-k/\∃k:Nat,m0=(l.length)-k/\k<=(l.length)/\e 6=.int .i64 (k:Int)/\(mK aC 3 (e 5) gg sB (gK s l k)):=fun x1 x2=>⟨_,by omega,k+1,rfl,by omega,(by rw[x1,aA (by omega)]),x2⟩
  have eZ:k<l.length:=by omega
  have eM:=fN eZ
  have Uy:=th s l k
  (try((repeat(revert hN;revert N;apply Pn.out));refine wk (tw @a6 (tw @a0 (tw @a1 @hk))) ?_;(repeat(refine Pn.mk ?_;intro N hN))))
  refine aI (fun n env st=>∃m:Nat,n=(2)-m/\m<=(2)/\env 7=(.int .i64 (1-(m:Int)))/\(mK aC 3 (env 5) st.get sB (gK s l k++fX s l k m))) (2) ⟨0,by omega,by omega,sl (tw @a6 (tw @a0 @a1)),by(simp only[go_sem, ↓reduceIte,Nat.reduceEqDiff,Nat.reduceAdd,Nat.reduceSub,Nat.reduceLeDiff,reduceCtorEq];exact j9.cast (by simp[fX]))⟩ ?_
  rintro n_b env_b st_b ⟨m,rfl,ble,b7,bI0⟩ eS
  have b0:=eS 0 (by kernel_rfl);have b1:=eS 1 (by kernel_rfl);have b6:=eS 6 (by kernel_rfl)
  simp only[go_sem, ↓reduceIte,Nat.reduceEqDiff,Nat.reduceAdd,Nat.reduceSub,Nat.reduceLeDiff,reduceCtorEq,a6,a0,a1]at b0 b1 b6
  clear eS
  have Sq:=qV s l k m
  have lH:=pS s l k m
  by_cases hm:(m:Int)<2
  ·have eR:∀{e:Env} {gg:Rows},(e 7=(.int .i64 (1-((m+1):Int))))->(mK aC 3 (e 5) gg sB (gK s l k++fX s l k (m+1)))->∃m0,m0<(2)-m/\∃m:Nat,m0=(2)-m/\m<=(2)/\e 7=(.int .i64 (1-(m:Int)))/\(mK aC 3 (e 5) gg sB (gK s l k++fX s l k m)):=fun x1 x2=>⟨_,by omega,m+1,rfl,by omega,x1,x2⟩
   have qq:(0:Int)<=1-(m:Int):=by omega
   have hd:iH (1-(m:Int)) 0 3=true:=js (by omega)
   have hw:IntKind.i64.wrap (1-(m:Int)-1)=1-((m:Int)+1):=by rw[aV (by omega)];omega
   have SC:=xH l hF k (1-(m:Int)) eZ hd
   unfold mN at lH
   have hT:=hA.2 _ (jx eZ)
   generalize CT:eL l (cq (aT l k).aO (1-(m:Int)))=ix at *
   by_cases hi:ix<0
   ·rw[if_neg (by omega),List.append_nil]at lH
    (repeat(first|((repeat(revert hN;revert N;apply Pn.out));refine wk (tw @b7 (tw @b0 (tw @b1 (tw @b6 (tw @qq (tw @hw @hi)))))) ?_;(repeat(refine Pn.mk ?_;intro N hN)))|((try apply Or.inl);refine⟨_,aj.x (SC) (sd (tw @b7 (tw @b0 (tw @b1 (tw @b6 (tw @qq (tw @hw @hi))))))),?_⟩;refine hN _ _ ?_;clear hN N)))
    exact eR (sd (tw @b7 (tw @b0 (tw @b1 (tw @b6 @hw))))) (by(simp only[go_sem, ↓reduceIte,Nat.reduceEqDiff,Nat.reduceAdd,Nat.reduceSub,Nat.reduceLeDiff,reduceCtorEq];exact bI0.cast (by rw[lH])))
   ·have Hy:0<=ix:=by omega
    have Oc:=pb (l:=l) (p:=cq (aT l k).aO (1-(m:Int))) (by omega)
    rw[CT]at Oc
    have lh:=fN Oc.1
    have w9:=yC s hS (aT l k).bd (1-(m:Int)) (aT l ix.toNat).bd hT (hA.2 _ (jx Oc.1)) hd
    generalize Sm:gQ s (aT l k).bd (1-(m:Int)) (aT l ix.toNat).bd=bv at *
    by_cases hb:0<bv
    ·rw[if_pos ⟨Hy,hb⟩]at lH
     (repeat(first|((repeat(revert hN;revert N;apply Pn.out));refine wa (tw @b7 (tw @b0 (tw @b1 (tw @b6 (tw @qq (tw @hw (tw @hi (tw @Hy (tw @eM (tw @lh (tw @hb @ad.eq_1))))))))))) ?_;(repeat(refine Pn.mk ?_;intro N hN)))|((try apply Or.inl);refine⟨_,aj.x (SC) (sd (tw @b7 (tw @b0 (tw @b1 (tw @b6 (tw @qq (tw @hw (tw @hi (tw @Hy (tw @eM (tw @lh (tw @hb @ad.eq_1)))))))))))),?_⟩;refine hN _ _ ?_;clear hN N)|((try apply Or.inl);refine⟨_,aj.x (w9) (sd (tw @b7 (tw @b0 (tw @b1 (tw @b6 (tw @qq (tw @hw (tw @hi (tw @Hy (tw @eM (tw @lh (tw @hb @ad.eq_1)))))))))))),?_⟩;refine hN _ _ ?_;clear hN N)))
     refine O8 (enc:=aC) (S:=sB) (L:=gK s l k++fX s l k m) (xv:=env_b 5) [⟨k,ix.toNat,bv⟩] rfl rfl (sd @Nat.zero_add) (bI0.frame fun o ho=>by rcases ho with ho|ho<;>simp only[go_sem, ↓reduceIte,Nat.reduceEqDiff,Nat.reduceAdd,Nat.reduceSub,Nat.reduceLeDiff,reduceCtorEq,Al ho]) (sd (tw @aC.eq_1 (Int.toNat_of_nonneg Hy))) Ni (.inr rfl) (by simp only[dL,List.length_append,List.length_cons,List.length_nil];omega) fun v g' hO kq=>?_
     rw[List.append_assoc,<-lH]at hO
     clear kq
     (try((repeat(revert hN;revert N;apply Pn.out));refine wk (tw @b7 (tw @b0 (tw @b1 (tw @b6 @hw)))) ?_;(repeat(refine Pn.mk ?_;intro N hN))))
     exact eR (sd (tw @b7 (tw @b0 (tw @b1 (tw @b6 @hw))))) (by(simp only[go_sem, ↓reduceIte,Nat.reduceEqDiff,Nat.reduceAdd,Nat.reduceSub,Nat.reduceLeDiff,reduceCtorEq];exact hO))
    ·rw[if_neg fun h=>hb h.2,List.append_nil]at lH
     (repeat(first|((repeat(revert hN;revert N;apply Pn.out));refine wk (tw @b7 (tw @b0 (tw @b1 (tw @b6 (tw @qq (tw @hw (tw @hi (tw @Hy (tw @eM (tw @lh (tw @hb @ad.eq_1))))))))))) ?_;(repeat(refine Pn.mk ?_;intro N hN)))|((try apply Or.inl);refine⟨_,aj.x (SC) (sd (tw @b7 (tw @b0 (tw @b1 (tw @b6 (tw @qq (tw @hw (tw @hi (tw @Hy (tw @eM (tw @lh (tw @hb @ad.eq_1)))))))))))),?_⟩;refine hN _ _ ?_;clear hN N)|((try apply Or.inl);refine⟨_,aj.x (w9) (sd (tw @b7 (tw @b0 (tw @b1 (tw @b6 (tw @qq (tw @hw (tw @hi (tw @Hy (tw @eM (tw @lh (tw @hb @ad.eq_1)))))))))))),?_⟩;refine hN _ _ ?_;clear hN N)))
     exact eR (sd (tw @b7 (tw @b0 (tw @b1 (tw @b6 @hw))))) (by(simp only[go_sem, ↓reduceIte,Nat.reduceEqDiff,Nat.reduceAdd,Nat.reduceSub,Nat.reduceLeDiff,reduceCtorEq];exact bI0.cast (by rw[lH])))
  ·have MS:m=2:=by omega
   subst MS
   have dM:¬(0:Int)<=1-((2:Nat):Int):=by omega
   (try((repeat(revert hN;revert N;apply Pn.out));refine wk (tw @b7 (tw @b0 (tw @b1 (tw @b6 @dM)))) ?_;(repeat(refine Pn.mk ?_;intro N hN))))
   exact ck (sd (tw @a6 (tw @a0 (tw @a1 (tw @b7 (tw @b0 (tw @b1 @b6))))))) (by(simp only[go_sem, ↓reduceIte,Nat.reduceEqDiff,Nat.reduceAdd,Nat.reduceSub,Nat.reduceLeDiff,reduceCtorEq];exact bI0.cast (by rw[qW])))
 ·have lj:k=l.length:=by omega
  (try((repeat(revert hN;revert N;apply Pn.out));refine wk (tw @a6 (tw @a0 (tw @a1 @hk))) ?_;(repeat(refine Pn.mk ?_;intro N hN))))
  exact tL (.inl rfl) (by simp only[go_sem, ↓reduceIte,Nat.reduceEqDiff,Nat.reduceAdd,Nat.reduceSub,Nat.reduceLeDiff,reduceCtorEq];rfl) (by rw[lj]at j9;exact j9.gp fun b=>uu _ _ b)
end Go.Proofs.YtgoelphibofcmaaGreat.V

namespace Go.Proofs.YtgoelphibofcmaaGreat.V
open Go.RowKit
attribute [local irreducible] dG wpOps gz Call
attribute [local go_sem] aL fU eV gw gr cK upd cw K.av cU AV.cells AV.cell rowOf rowsOf part ld rowAt bJ cr dK ep iC bR dj eF gq fh dz ew dh de ec ee bV bh cX bU cZ cY eu ez ev cW cj di er bS aQ db cG iA bz cN bW aX dn aZ dL AV.undef bG bK ef eo dW ea cJ eE eH cD eB eA da dc List.getD_cons_zero List.getD_cons_succ List.getD_nil List.all_cons List.all_nil Bool.and_true Bool.true_and Bool.and_self Bool.not_true Bool.not_false Option.map_some Option.map_none Option.bind_some Option.bind_none List.length_cons List.length_nil List.take_succ_cons List.take_zero List.take_nil List.drop_succ_cons List.drop_zero List.drop_nil List.head?_cons List.map_cons List.map_nil List.getElem?_cons_zero List.getElem?_cons_succ List.cons_append List.nil_append List.append_nil List.length_map List.set_cons_zero List.set_cons_succ Nat.reduceMul eq_self Int.toNat_natCast Int.natCast_nonneg and_self true_and and_true decide_true decide_false Bool.false_eq_true Nat.zero_add Nat.add_zero List.contains_cons List.contains_nil Bool.or_false Bool.false_or beq_self_eq_true Nat.reduceBEq ne_eq not_true_eq_false not_false_eq_true Id.mk.injEq false_and and_false Nat.reduceLT Int.reduceLE Int.reduceLT Int.reduceToNat Int.reduceNeg Int.reduceAdd Nat.le_refl List.length_append beq_true beq_false Bool.not_eq_eq_eq_not or_false false_or dX ai aq aH bj bE cu aW br aU bp cV bP
theorem BT (a b:Nat):aj Tryz.prog 215 [.int .i64 a,.int .i64 b] (.int .i64 (min a b:Nat)):=by
 refine aj.body ek rfl fun hl n0=>?_
 clear hl
 by_cases h:(a:Int)<(b:Int)
 ·(try((repeat(revert hN;revert N;apply Pn.out));refine wk @h ?_;(repeat(refine Pn.mk ?_;intro N hN))))
  exact bL (b:=(a:Int)) (.inl rfl) (sd @Nat.zero_add) (by omega)
 ·(try((repeat(revert hN;revert N;apply Pn.out));refine wk @h ?_;(repeat(refine Pn.mk ?_;intro N hN))))
  exact bL (b:=(b:Int)) (.inl rfl) (sd @Nat.zero_add) (by omega)
theorem BS (a b:Nat):aj Tryz.prog 216 [.int .i64 a,.int .i64 b] (.int .i64 (max a b:Nat)):=by
 refine aj.body ek rfl fun hl n0=>?_
 clear hl
 by_cases h:(b:Int)<(a:Int)
 ·(try((repeat(revert hN;revert N;apply Pn.out));refine wk @h ?_;(repeat(refine Pn.mk ?_;intro N hN))))
  exact bL (b:=(a:Int)) (.inl rfl) (sd @Nat.zero_add) (by omega)
 ·(try((repeat(revert hN;revert N;apply Pn.out));refine wk @h ?_;(repeat(refine Pn.mk ?_;intro N hN))))
  exact bL (b:=(b:Int)) (.inl rfl) (sd @Nat.zero_add) (by omega)
def dE (f:Nat->Nat) (n:Nat):List (List AV):=(List.range n).map fun i=>eN (f i)
theorem gh (f:Nat->Nat) (n:Nat):(dE f n).length=n:=by simp[dE]
theorem fw {f:Nat->Nat} {n i:Nat} (h:i<n):(dE f n)[i]? =some (eN (f i)):=by simp[dE,h]
theorem gV {f g:Nat->Nat} {n:Nat} (h:∀i,i<n->f i=g i):dE f n=dE g n:=List.map_congr_left fun i hi=>by rw[h i (List.mem_range.1 hi)]
theorem pr {f g:Nat->Nat} {n k v:Nat} (hk:k<n) (hv:g k=v) (h:∀i,i<n->i≠k->g i=f i):(dE f n).set k (eN v)=dE g n:=by
 refine List.ext_getElem? fun i=>?_
 rw[List.getElem?_set]
 by_cases hi:k=i
 ·subst hi
  rw[if_pos rfl,gh,if_pos hk,fw hk,hv]
 ·rw[if_neg hi]
  by_cases fP:i<n
  ·rw[fw fP,fw fP,h i fP (fun h=>hi h.symm)]
  ·rw[List.getElem?_eq_none (by rw[gh];omega),List.getElem?_eq_none (by rw[gh];omega)]
theorem BV (cnt:Nat) (hn:cnt<=1048576) (bs:List PB) (hb:∀b∈bs,b.a<cnt/\b.b<cnt) (oE:bs.length<=1048576):aj Tryz.prog 214 [.int .i64 cnt,.sl (bs.map aC)] (.sl ((fx cnt (ei bs)).map AJ)):=by
 refine aj.body ek rfl fun hl n0=>?_
 clear hl
 (try((repeat(revert hN;revert N;apply Pn.out));refine wk @Nat.zero_add ?_;(repeat(refine Pn.mk ?_;intro N hN))))
 refine aI (fun n env st=>∃k:Nat,n=(cnt)-k/\k<=(cnt)/\env 6=.int .i64 (k:Int)/\(∃o:Id,env 5=.own o 0 k/\st.get o=some ⟨true,1,dE id k⟩/\o.bq<st.next)) (cnt) ⟨0,by omega,by omega,sl @Nat.zero_add,⟨⟨214001000,n0+1⟩,sd @Nat.zero_add,by simp only[go_sem, ↓reduceIte,Nat.reduceEqDiff,Nat.reduceAdd,Nat.reduceSub,Nat.reduceLeDiff,reduceCtorEq];rfl,by(try dsimp only);omega⟩⟩ ?_
 rintro n_a env_a st_a ⟨k,rfl,ale,a6,j9⟩ dp
 have a0:=dp 0 (by kernel_rfl);have a1:=dp 1 (by kernel_rfl)
 simp only[go_sem, ↓reduceIte,Nat.reduceEqDiff,Nat.reduceAdd,Nat.reduceSub,Nat.reduceLeDiff,reduceCtorEq]at a0 a1
 clear dp
 obtain⟨o,a5,ag,pK⟩:=j9
 have tl:=gh id k
 have qv:=dq pK
 by_cases hk:(k:Int)<(cnt:Int)
 ·have ck:∀{e:Env} {gg:Rows} {nx:Nat},(e 6=.int .i64 (IntKind.i64.wrap ((k:Int)+1)))->(∃o:Id,e 5=.own o 0 (k+1)/\gg o=some ⟨true,1,dE id (k+1)⟩/\o.bq<nx)->∃m0,m0<(cnt)-k/\∃k:Nat,m0=(cnt)-k/\k<=(cnt)/\e 6=.int .i64 (k:Int)/\(∃o:Id,e 5=.own o 0 k/\gg o=some ⟨true,1,dE id k⟩/\o.bq<nx):=fun x1 x2=>⟨_,by omega,k+1,rfl,by omega,(by rw[x1,aA (by omega)]),x2⟩
  have eZ:k<cnt:=by omega
  have e1:k+1<=16777216:=by omega
  have pM:dE id k++[[.int .i64 (k:Int)]]=dE id (k+1):=by simp[dE,List.range_succ,eN]
  (try((repeat(revert hN;revert N;apply Pn.out));refine wk (tw @a6 (tw @a0 (tw @a1 (tw @a5 (tw @ag (tw @qv (tw @hk (tw @tl (tw @e1 @pM))))))))) ?_;(repeat(refine Pn.mk ?_;intro N hN))))
  exact ck (sd (tw @a6 (tw @a0 @a1))) (⟨⟨214005003,st_a.next+1⟩,sd @Nat.zero_add,sd @pM,by(try dsimp only);omega⟩)
 have lj:k=cnt:=by omega
 subst lj
 have Ul:st_a.get o=some ⟨true,1,dE (ei (bs.take 0)) k⟩:=ag
 clear ag
 (try((repeat(revert hN;revert N;apply Pn.out));refine wk (tw @a6 (tw @a0 (tw @a1 @hk))) ?_;(repeat(refine Pn.mk ?_;intro N hN))))
 refine aI (fun n env st=>∃j:Nat,n=(bs.length)-j/\j<=(bs.length)/\env 7=.int .i64 (j:Int)/\st.get o=some ⟨true,1,dE (ei (bs.take j)) k⟩/\(o.bq<st.next)) (bs.length) ⟨0,by omega,by omega,sl (tw @a6 (tw @a0 (tw @a1 (tw @a5 @Ul)))),sl (tw @a6 (tw @a0 (tw @a1 (tw @a5 @Ul)))),(by(try dsimp only);omega)⟩ ?_
 rintro n_b env_b st_b ⟨j,rfl,ble,b7,bg0,bI0⟩ eS
 have b0:=eS 0 (by kernel_rfl);have b1:=eS 1 (by kernel_rfl);have b5:=eS 5 (by kernel_rfl)
 simp only[go_sem, ↓reduceIte,Nat.reduceEqDiff,Nat.reduceAdd,Nat.reduceSub,Nat.reduceLeDiff,reduceCtorEq,a6,a0,a1,a5,Ul]at b0 b1 b5
 clear eS
 by_cases hj:(j:Int)<(bs.length:Int)
 ·have eR:∀{e:Env} {gg:Rows} {nx:Nat},(e 7=.int .i64 (IntKind.i64.wrap ((j:Int)+1)))->(gg o=some ⟨true,1,dE (ei (bs.take (j+1))) k⟩)->(o.bq<nx)->∃m0,m0<(bs.length)-j/\∃j:Nat,m0=(bs.length)-j/\j<=(bs.length)/\e 7=.int .i64 (j:Int)/\gg o=some ⟨true,1,dE (ei (bs.take j)) k⟩/\(o.bq<nx):=fun x1 x2 x3=>⟨_,by omega,j+1,rfl,by omega,(by rw[x1,aA (by omega)]),x2,x3⟩
  have iO:j<bs.length:=by omega
  have Hw:(bs.map aC)[j]? =some (aC bs[j]):=by simp[iO]
  have ML:=hb _ (List.getElem_mem iO)
  have pN:bs.take (j+1)=bs.take j++[bs[j]]:=List.take_succ_eq_append_getElem iO
  have lH:ei (bs.take (j+1))=eQ (ei (bs.take j)) bs[j]:=by rw[pN,vV]
  generalize ei (bs.take j)=L at *
  generalize bs[j]=b at *
  have hA:=fw (f:=L) ML.1
  have hB:=fw (f:=L) ML.2
  have Sd:=BT (L b.a) (L b.b)
  have Se:=BS (L b.a) (L b.b)
  have tl:=gh L k
  have gG:(b.a:Int)<(k:Int):=by omega
  have fF:(b.b:Int)<(k:Int):=by omega
  (try((repeat(revert hN;revert N;apply Pn.out));refine wk (tw @b7 (tw @bg0 (tw @b0 (tw @b1 (tw @b5 (tw @hj (tw @Hw (tw @aC.eq_1 (tw @hA (tw @hB (tw @gG (tw @fF (tw @tl @eN.eq_1))))))))))))) ?_;(repeat(refine Pn.mk ?_;intro N hN))))
  refine aI (fun n env st=>∃i:Nat,n=(k)-i/\i<=(k)/\env 10=.int .i64 (i:Int)/\st.get o=some ⟨true,1,dE (fun x=>if x<i then eQ L b x else L x) k⟩/\(o.bq<st.next)) (k) ⟨0,by omega,by omega,sl (tw @b7 (tw @bg0 (tw @b0 (tw @b1 (tw @b5 @Nat.not_lt_zero))))),sl (tw @b7 (tw @bg0 (tw @b0 (tw @b1 (tw @b5 @Nat.not_lt_zero))))),(by(try dsimp only);omega)⟩ ?_
  rintro n_c env_c st_c ⟨i,rfl,cle,jB,cg0,cI0⟩ cfr
  have c0:=cfr 0 (by kernel_rfl);have c1:=cfr 1 (by kernel_rfl);have c5:=cfr 5 (by kernel_rfl);have c7:=cfr 7 (by kernel_rfl);have c8:=cfr 8 (by kernel_rfl);have c9:=cfr 9 (by kernel_rfl)
  simp only[go_sem, ↓reduceIte,Nat.reduceEqDiff,Nat.reduceAdd,Nat.reduceSub,Nat.reduceLeDiff,reduceCtorEq,b7,bg0,b0,b1,b5,Nat.not_lt_zero]at c0 c1 c5 c7 c8 c9
  clear cfr
  have hC:=fw (f:=fun x=>if x<i then eQ L b x else L x) (n:=k) (i:=i)
  have tc:=gh (fun x=>if x<i then eQ L b x else L x) k
  by_cases hi:(i:Int)<(k:Int)
  ·have ib:∀{e:Env} {gg:Rows} {nx:Nat},(e 10=.int .i64 (IntKind.i64.wrap ((i:Int)+1)))->(gg o=some ⟨true,1,dE (fun x=>if x<(i+1)then eQ L b x else L x) k⟩)->(o.bq<nx)->∃m0,m0<(k)-i/\∃i:Nat,m0=(k)-i/\i<=(k)/\e 10=.int .i64 (i:Int)/\gg o=some ⟨true,1,dE (fun x=>if x<i then eQ L b x else L x) k⟩/\(o.bq<nx):=fun x1 x2 x3=>⟨_,by omega,i+1,rfl,by omega,(by rw[x1,aA (by omega)]),x2,x3⟩
   have fP:i<k:=by omega
   replace hC:=hC fP
   rw[if_neg (Nat.lt_irrefl i)]at hC
   by_cases he:L i=max (L b.a) (L b.b)
   ·have uA:decide ((L i:Int)=((max (L b.a) (L b.b):Nat):Int))=true:=decide_eq_true (by rw[he])
    have dO:(dE (fun x=>if x<i then eQ L b x else L x) k).set i (eN (min (L b.a) (L b.b)))=dE (fun x=>if x<i+1 then eQ L b x else L x) k:=pr fP (by rw[if_pos (by omega),eQ,if_pos he]) fun x hx CX=>by
     by_cases h:x<i
     ·rw[if_pos h,if_pos (by omega)]
     ·rw[if_neg h,if_neg (by omega)]
    rw[eN]at dO hC
    (repeat(first|((repeat(revert hN;revert N;apply Pn.out));refine wk (tw @jB (tw @cg0 (tw @c0 (tw @c1 (tw @c5 (tw @c7 (tw @c8 (tw @c9 (tw @hi (tw @hC (tw @tc (tw @uA @dO)))))))))))) ?_;(repeat(refine Pn.mk ?_;intro N hN)))|((try apply Or.inl);refine⟨_,aj.x (Sd) (sd (tw @jB (tw @cg0 (tw @c0 (tw @c1 (tw @c5 (tw @c7 (tw @c8 (tw @c9 (tw @hi (tw @hC (tw @tc (tw @uA @dO))))))))))))),?_⟩;refine hN _ _ ?_;clear hN N)|((try apply Or.inl);refine⟨_,aj.x (Se) (sd (tw @jB (tw @cg0 (tw @c0 (tw @c1 (tw @c5 (tw @c7 (tw @c8 (tw @c9 (tw @hi (tw @hC (tw @tc (tw @uA @dO))))))))))))),?_⟩;refine hN _ _ ?_;clear hN N)))
    refine ib ?_ ?_ (by(try dsimp only);omega)
    all_goals simp only[go_sem, ↓reduceIte,Nat.reduceEqDiff,Nat.reduceAdd,Nat.reduceSub,Nat.reduceLeDiff,reduceCtorEq,jB,cg0,c0,c1,c5,c7,c8,c9]
   ·have uA:decide ((L i:Int)=((max (L b.a) (L b.b):Nat):Int))=false:=decide_eq_false fun h=>he (by omega)
    have me:dE (fun x=>if x<i then eQ L b x else L x) k=dE (fun x=>if x<i+1 then eQ L b x else L x) k:=gV fun x hx=>by
     by_cases h:x<i
     ·rw[if_pos h,if_pos (by omega)]
     ·by_cases CX:x=i
      ·subst CX;rw[if_neg h,if_pos (by omega),eQ,if_neg he]
      ·rw[if_neg h,if_neg (by omega)]
    rw[eN]at hC
    (repeat(first|((repeat(revert hN;revert N;apply Pn.out));refine wk (tw @jB (tw @cg0 (tw @c0 (tw @c1 (tw @c5 (tw @c7 (tw @c8 (tw @c9 (tw @hi (tw @hC (tw @tc @uA))))))))))) ?_;(repeat(refine Pn.mk ?_;intro N hN)))|((try apply Or.inl);refine⟨_,aj.x (Sd) (sd (tw @jB (tw @cg0 (tw @c0 (tw @c1 (tw @c5 (tw @c7 (tw @c8 (tw @c9 (tw @hi (tw @hC (tw @tc @uA)))))))))))),?_⟩;refine hN _ _ ?_;clear hN N)|((try apply Or.inl);refine⟨_,aj.x (Se) (sd (tw @jB (tw @cg0 (tw @c0 (tw @c1 (tw @c5 (tw @c7 (tw @c8 (tw @c9 (tw @hi (tw @hC (tw @tc @uA)))))))))))),?_⟩;refine hN _ _ ?_;clear hN N)))
    rw[me]at cg0
    refine ib ?_ ?_ (by(try dsimp only);omega)
    all_goals simp only[go_sem, ↓reduceIte,Nat.reduceEqDiff,Nat.reduceAdd,Nat.reduceSub,Nat.reduceLeDiff,reduceCtorEq,jB,cg0,c0,c1,c5,c7,c8,c9]
  ·have yj:i=k:=by omega
   subst yj
   have dJ:dE (fun x=>if x<i then eQ L b x else L x) i=dE (eQ L b) i:=gV fun x hx=>if_pos hx
   rw[dJ]at cg0
   rw[<-lH]at cg0
   (try((repeat(revert hN;revert N;apply Pn.out));refine wk (tw @jB (tw @cg0 (tw @c0 (tw @c1 (tw @c5 (tw @c7 (tw @c8 (tw @c9 (tw @hi @tc))))))))) ?_;(repeat(refine Pn.mk ?_;intro N hN))))
   refine eR ?_ ?_ (by(try dsimp only);omega)
   all_goals simp only[go_sem, ↓reduceIte,Nat.reduceEqDiff,Nat.reduceAdd,Nat.reduceSub,Nat.reduceLeDiff,reduceCtorEq,b7,bg0,b0,b1,b5,jB,cg0,c0,c1,c5,c7,c8,c9]
 have gR:j=bs.length:=by omega
 subst gR
 rw[List.take_length]at bg0
 have hL:=tF bs
 generalize ei bs=L at *
 have tl:=gh L k
 (try((repeat(revert hN;revert N;apply Pn.out));refine wk (tw @b7 (tw @bg0 (tw @b0 (tw @b1 (tw @b5 @hj))))) ?_;(repeat(refine Pn.mk ?_;intro N hN))))
 have Oi:o.bq<st_b.next:=bI0
 refine aI (fun n env st=>∃i:Nat,n=(k)-i/\i<=(k)/\env 12=.int .i64 (i:Int)/\st.get o=some ⟨true,1,dE L k⟩/\(∃oo rows ids,env 11=.own oo 0 rows.length/\st.get oo=some ⟨true,1,rows⟩/\eD Pw st.get rows ((leads i L).map (members k L)) ids/\(∀x∈oo::ids,st_b.next<=x.bq/\x.bq<st.next)/\st_b.next<=st.next/\oo∉ids)) (k) ⟨0,by omega,by omega,sl (tw @b7 (tw @bg0 (tw @b0 (tw @b1 (tw @b5 (dq Oi)))))),sl (tw @b7 (tw @bg0 (tw @b0 (tw @b1 (tw @b5 (dq Oi)))))),⟨⟨214016000,st_b.next+1⟩,[],[],by(simp only[go_sem, ↓reduceIte,Nat.reduceEqDiff,Nat.reduceAdd,Nat.reduceSub,Nat.reduceLeDiff,reduceCtorEq])<;>rfl,sd @Nat.zero_add,.nil,fun x hx=>by rw[List.mem_singleton.1 hx];(try dsimp only);omega,by(try dsimp only);omega,by simp⟩⟩ ?_
 rintro n_d env_d st_d ⟨i,rfl,dle,d12,dg0,dI0⟩ dfr
 have d0:=dfr 0 (by kernel_rfl);have d5:=dfr 5 (by kernel_rfl)
 simp only[go_sem, ↓reduceIte,Nat.reduceEqDiff,Nat.reduceAdd,Nat.reduceSub,Nat.reduceLeDiff,reduceCtorEq,b7,bg0,b0,b1,b5,dq Oi]at d0 d5
 clear dfr
 obtain⟨oo,rows,ids,d11,dg,hR,nR,hle,yl⟩:=dI0
 have pM:=gM i L
 have sf:=hR.len
 by_cases hi:(i:Int)<(k:Int)
 ·have tH:∀{e:Env} {gg:Rows} {nx:Nat},(e 12=.int .i64 (IntKind.i64.wrap ((i:Int)+1)))->(gg o=some ⟨true,1,dE L k⟩)->(∃oo rows ids,e 11=.own oo 0 rows.length/\gg oo=some ⟨true,1,rows⟩/\eD Pw gg rows ((leads (i+1) L).map (members k L)) ids/\(∀x∈oo::ids,st_b.next<=x.bq/\x.bq<nx)/\st_b.next<=nx/\oo∉ids)->∃m0,m0<(k)-i/\∃i:Nat,m0=(k)-i/\i<=(k)/\e 12=.int .i64 (i:Int)/\gg o=some ⟨true,1,dE L k⟩/\(∃oo rows ids,e 11=.own oo 0 rows.length/\gg oo=some ⟨true,1,rows⟩/\eD Pw gg rows ((leads i L).map (members k L)) ids/\(∀x∈oo::ids,st_b.next<=x.bq/\x.bq<nx)/\st_b.next<=nx/\oo∉ids):=fun x1 x2 x3=>⟨_,by omega,i+1,rfl,by omega,(by rw[x1,aA (by omega)]),x2,x3⟩
  have fP:i<k:=by omega
  have hC:=fw (f:=L) fP
  have kG:=dq (i:=o) (n:=st_d.next) (by omega)
  have Rb:=dq (i:=oo) (n:=st_d.next) (nR oo (by simp)).2
  by_cases he:L i=i
  ·rw[if_pos he]at pM
   have uA:decide ((L i:Int)=(i:Int))=true:=decide_eq_true (by rw[he])
   rw[eN]at hC
   (try((repeat(revert hN;revert N;apply Pn.out));refine wk (tw @d12 (tw @dg0 (tw @d0 (tw @d5 (tw @d11 (tw @dg (tw @hi (tw @hC (tw @tl (tw @uA (tw @kG @Rb))))))))))) ?_;(repeat(refine Pn.mk ?_;intro N hN))))
   refine aI (fun n env st=>∃m:Nat,n=((k-i))-m/\m<=((k-i))/\env 14=(.int .i64 ((i+m:Nat):Int))/\(∃pp:Id,env 13=.own pp 0 (members (i+m) L i).length/\st.get pp=some ⟨true,1,(members (i+m) L i).map eN⟩/\st_d.next<=pp.bq/\pp.bq<st.next/\(∀x:Id,x.bq<st_d.next->st.get x=st_d.get x)/\st_d.next<=st.next)) ((k-i)) ⟨0,by omega,by omega,sl (tw @d12 (tw @dg0 (tw @d0 (tw @d5 @d11)))),⟨⟨214021000,st_d.next+1+1⟩,by rw[show members (i+0) L i=[]from nf hL (Nat.le_refl i)];(simp only[go_sem, ↓reduceIte,Nat.reduceEqDiff,Nat.reduceAdd,Nat.reduceSub,Nat.reduceLeDiff,reduceCtorEq])<;>rfl,by rw[show members (i+0) L i=[]from nf hL (Nat.le_refl i)];(simp only[go_sem, ↓reduceIte,Nat.reduceEqDiff,Nat.reduceAdd,Nat.reduceSub,Nat.reduceLeDiff,reduceCtorEq])<;>rfl,by(try dsimp only);omega,by(try dsimp only);omega,fun x hx=>sd (dq hx),by(try dsimp only);omega⟩⟩ ?_
   rintro n_f env_f st_f ⟨m,rfl,fle,f14,fI0⟩ ffr
   have f0:=ffr 0 (by kernel_rfl);have f5:=ffr 5 (by kernel_rfl);have f11:=ffr 11 (by kernel_rfl);have f12:=ffr 12 (by kernel_rfl)
   simp only[go_sem, ↓reduceIte,Nat.reduceEqDiff,Nat.reduceAdd,Nat.reduceSub,Nat.reduceLeDiff,reduceCtorEq,d12,dg0,d0,d5,d11]at f0 f5 f11 f12
   clear ffr
   obtain⟨pp,f13,fg,On,IS,kq,jf⟩:=fI0
   have vL:st_f.get o=some ⟨true,1,dE L k⟩:=(kq o (by omega)).trans dg0
   have T5:st_f.get oo=some ⟨true,1,rows⟩:=(kq oo (nR oo (by simp)).2).trans dg
   have si:=dq IS
   have BL:=dq (i:=o) (n:=st_f.next) (by omega)
   have Rc:=dq (i:=oo) (n:=st_f.next) (by have:=(nR oo (by simp)).2;omega)
   have Oh:members (i+(m+1)) L i=members (i+m) L i++if L (i+m)=i then[i+m]else[]:=ju (i+m) L i
   have Uf:(members (i+m) L i).length<=i+m:=by
    have:=List.length_filter_le (fun k=>L k==i) (List.range (i+m))
    simpa[members]using this
   have x1:=cP (a:=o) (b:=pp) (by omega)
   have x2:=cP (a:=oo) (b:=pp) (by have:=(nR oo (by simp)).2;omega)
   have x3:=cP (a:=o) (b:=oo) (by have:=(nR oo (by simp)).1;omega)
   by_cases hm:m<k-i
   ·have rK:∀{e:Env} {gg:Rows} {nx:Nat},(e 14=(.int .i64 ((i+(m+1):Nat):Int)))->(∃pp:Id,e 13=.own pp 0 (members (i+(m+1)) L i).length/\gg pp=some ⟨true,1,(members (i+(m+1)) L i).map eN⟩/\st_d.next<=pp.bq/\pp.bq<nx/\(∀x:Id,x.bq<st_d.next->gg x=st_d.get x)/\st_d.next<=nx)->∃m0,m0<((k-i))-m/\∃m:Nat,m0=((k-i))-m/\m<=((k-i))/\e 14=(.int .i64 ((i+m:Nat):Int))/\(∃pp:Id,e 13=.own pp 0 (members (i+m) L i).length/\gg pp=some ⟨true,1,(members (i+m) L i).map eN⟩/\st_d.next<=pp.bq/\pp.bq<nx/\(∀x:Id,x.bq<st_d.next->gg x=st_d.get x)/\st_d.next<=nx):=fun x1 x2=>⟨_,by omega,m+1,rfl,by omega,x1,x2⟩
    have QY:((i+m:Nat):Int)<(k:Int):=by omega
    have Tn:=fw (f:=L) (show i+m<k by omega)
    have hw:IntKind.i64.wrap (((i+m:Nat):Int)+1)=((i+(m+1):Nat):Int):=by rw[aV (by omega)];omega
    rw[eN]at Tn
    by_cases hq:L (i+m)=i
    ·have uc:decide ((L (i+m):Int)=(i:Int))=true:=decide_eq_true (by rw[hq])
     rw[if_pos hq]at Oh
     have e1:(members (i+m) L i).length+1<=16777216:=by omega
     have pa:((members (i+m) L i).map eN).length=(members (i+m) L i).length:=by simp
     (try((repeat(revert hN;revert N;apply Pn.out));refine wk (tw @f14 (tw @f0 (tw @f5 (tw @f11 (tw @f12 (tw @f13 (tw @fg (tw @vL (tw @QY (tw @Tn (tw @tl (tw @uc (tw @si (tw @BL (tw @x1 (tw @e1 @pa)))))))))))))))) ?_;(repeat(refine Pn.mk ?_;intro N hN))))
     exact rK (sd (tw @f14 (tw @f0 (tw @f5 (tw @f11 (tw @f12 (tw @vL (tw @hw (tw @BL @x1))))))))) (⟨⟨214026003,st_f.next+1+1⟩,by rw[Oh,List.length_append];simp only[go_sem, ↓reduceIte,Nat.reduceEqDiff,Nat.reduceAdd,Nat.reduceSub,Nat.reduceLeDiff,reduceCtorEq,List.length_cons,List.length_nil],by rw[Oh,List.map_append,List.map_cons,List.map_nil];simp only[go_sem, ↓reduceIte,Nat.reduceEqDiff,Nat.reduceAdd,Nat.reduceSub,Nat.reduceLeDiff,reduceCtorEq,eN],by(try dsimp only);omega,by(try dsimp only);omega,fun x hx=>by
      have y1:=kq x hx
      have y2:=cP (a:=x) (b:=pp) (by omega)
      simp only[go_sem, ↓reduceIte,Nat.reduceEqDiff,Nat.reduceAdd,Nat.reduceSub,Nat.reduceLeDiff,reduceCtorEq,dq (show x.bq<st_f.next by omega),y1,y2],by(try dsimp only);omega⟩)
    ·have uc:decide ((L (i+m):Int)=(i:Int))=false:=decide_eq_false fun h=>hq (by omega)
     rw[if_neg hq,List.append_nil]at Oh
     (try((repeat(revert hN;revert N;apply Pn.out));refine wk (tw @f14 (tw @f0 (tw @f5 (tw @f11 (tw @f12 (tw @f13 (tw @fg (tw @vL (tw @QY (tw @Tn (tw @tl (tw @uc (tw @si (tw @BL @x1)))))))))))))) ?_;(repeat(refine Pn.mk ?_;intro N hN))))
     exact rK (sd (tw @f14 (tw @f0 (tw @f5 (tw @f11 (tw @f12 (tw @vL @hw))))))) (⟨pp,by rw[Oh];simp only[go_sem, ↓reduceIte,Nat.reduceEqDiff,Nat.reduceAdd,Nat.reduceSub,Nat.reduceLeDiff,reduceCtorEq,f13],by rw[Oh];simp only[go_sem, ↓reduceIte,Nat.reduceEqDiff,Nat.reduceAdd,Nat.reduceSub,Nat.reduceLeDiff,reduceCtorEq,fg],On,by(try dsimp only);omega,kq,by(try dsimp only);omega⟩)
   ·have hmk:i+m=k:=by omega
    have QY:¬((i+m:Nat):Int)<(k:Int):=by omega
    rw[hmk]at f13 fg Uf
    have e1:rows.length+1<=16777216:=by
     have:=jN i L
     rw[sf,List.length_map];omega
    (try((repeat(revert hN;revert N;apply Pn.out));refine wk (tw @f14 (tw @f0 (tw @f5 (tw @f11 (tw @f12 (tw @f13 (tw @fg (tw @vL (tw @T5 (tw @QY (tw @si (tw @BL (tw @Rc (tw @x1 (tw @x2 @e1))))))))))))))) ?_;(repeat(refine Pn.mk ?_;intro N hN))))
    refine tH ?_ ?_ (⟨⟨214027003,st_f.next+1⟩,rows++[[.own pp 0 (members k L i).length]],ids++[pp],by rw[List.length_append];simp only[go_sem, ↓reduceIte,Nat.reduceEqDiff,Nat.reduceAdd,Nat.reduceSub,Nat.reduceLeDiff,reduceCtorEq,List.length_cons,List.length_nil],sd @Nat.zero_add,by
      rw[pM,List.map_append]
      refine(hR.frame LM fun x hx=>?_).app (.one ⟨pp,rfl,?_,rfl⟩)
      ·have h1:=nR x (by simp[hx])
       have y1:=kq x h1.2
       have y2:=cP (a:=x) (b:=pp) (by omega)
       have y3:(x=oo)=False:=by
        simp only[eq_iff_iff,iff_false]
        rintro rfl
        exact yl hx
       simp only[go_sem, ↓reduceIte,Nat.reduceEqDiff,Nat.reduceAdd,Nat.reduceSub,Nat.reduceLeDiff,reduceCtorEq,dq (show x.bq<st_f.next by omega),y1,y2,y3]
      ·simp only[go_sem, ↓reduceIte,Nat.reduceEqDiff,Nat.reduceAdd,Nat.reduceSub,Nat.reduceLeDiff,reduceCtorEq,si,x2,fg],fun x hx=>by
      rcases List.mem_cons.1 hx with rfl|hx
      ·(try dsimp only);omega
      ·rcases List.mem_append.1 hx with hx|hx
       ·have:=nR x (by simp[hx]);(try dsimp only);omega
       ·rw[List.mem_singleton.1 hx];(try dsimp only);omega,by(try dsimp only);omega,fun hc=>by
      rcases List.mem_append.1 hc with hc|hc
      ·have:=(nR _ (List.mem_cons_of_mem _ hc)).2;(try dsimp only at this);omega
      ·have:=List.mem_singleton.1 hc;rw[<-this]at IS;(try dsimp only at IS);omega⟩)
    all_goals simp only[go_sem, ↓reduceIte,Nat.reduceEqDiff,Nat.reduceAdd,Nat.reduceSub,Nat.reduceLeDiff,reduceCtorEq,f14,f0,f5,f11,f12,vL,BL,x3]
  ·rw[if_neg he,List.append_nil]at pM
   have uA:decide ((L i:Int)=(i:Int))=false:=decide_eq_false fun h=>he (by omega)
   rw[eN]at hC
   (try((repeat(revert hN;revert N;apply Pn.out));refine wk (tw @d12 (tw @dg0 (tw @d0 (tw @d5 (tw @d11 (tw @dg (tw @hi (tw @hC (tw @tl (tw @uA (tw @kG @Rb))))))))))) ?_;(repeat(refine Pn.mk ?_;intro N hN))))
   refine tH ?_ ?_ (⟨oo,rows,ids,sd @d11,sd @dg,by rw[pM];exact hR,fun x hx=>by have:=nR x hx;(try dsimp only);omega,by(try dsimp only);omega,yl⟩)
   all_goals simp only[go_sem, ↓reduceIte,Nat.reduceEqDiff,Nat.reduceAdd,Nat.reduceSub,Nat.reduceLeDiff,reduceCtorEq,d12,dg0,d0,d5]
 ·have yj:i=k:=by omega
  (try((repeat(revert hN;revert N;apply Pn.out));refine wk (tw @d12 (tw @dg0 (tw @d0 (tw @d5 (tw @d11 (tw @dg @hi)))))) ?_;(repeat(refine Pn.mk ?_;intro N hN))))
  refine tL (.inl rfl) (by simp only[go_sem, ↓reduceIte,Nat.reduceEqDiff,Nat.reduceAdd,Nat.reduceSub,Nat.reduceLeDiff,reduceCtorEq];rfl) ?_
  rw[uv dg (by simp) (rows':=(fx k L).map AJ) (by rw[List.drop_zero,List.take_of_length_le (Nat.le_refl _)];rw[yj]at hR;exact Jl 3 hR)]
end Go.Proofs.YtgoelphibofcmaaGreat.V

namespace Go.Proofs.YtgoelphibofcmaaGreat.V
open Go.RowKit
attribute [local irreducible] dG wpOps gz Call
attribute [local go_sem] aL fU eV gw gr cK upd cw K.av cU AV.cells AV.cell rowOf rowsOf part ld rowAt bJ cr dK ep iC bR dj eF gq fh dz ew dh de ec ee bV bh cX bU cZ cY eu ez ev cW cj di er bS aQ db cG iA bz cN bW aX dn aZ dL AV.undef bG bK ef eo dW ea cJ eE eH cD eB eA da dc List.getD_cons_zero List.getD_cons_succ List.getD_nil List.all_cons List.all_nil Bool.and_true Bool.true_and Bool.and_self Bool.not_true Bool.not_false Option.map_some Option.map_none Option.bind_some Option.bind_none List.length_cons List.length_nil List.take_succ_cons List.take_zero List.take_nil List.drop_succ_cons List.drop_zero List.drop_nil List.head?_cons List.map_cons List.map_nil List.getElem?_cons_zero List.getElem?_cons_succ List.cons_append List.nil_append List.append_nil List.length_map List.set_cons_zero List.set_cons_succ Nat.reduceMul eq_self Int.toNat_natCast Int.natCast_nonneg and_self true_and and_true decide_true decide_false Bool.false_eq_true Nat.zero_add Nat.add_zero List.contains_cons List.contains_nil Bool.or_false Bool.false_or beq_self_eq_true Nat.reduceBEq ne_eq not_true_eq_false not_false_eq_true Id.mk.injEq false_and and_false Nat.reduceLT Int.reduceLE Int.reduceLT Int.reduceToNat Int.reduceNeg Int.reduceAdd Nat.le_refl List.length_append beq_true beq_false Bool.not_eq_eq_eq_not or_false false_or dX ai aq aH bj bE cu aW br aU bp cV bP
theorem wT (n:Nat):List.replicate n [AV.int .i64 0]=dE (fun _=>0) n:=by
 refine List.ext_getElem? fun i=>?_
 by_cases h:i<n
 ·rw[fw h,List.getElem?_replicate,if_pos h];rfl
 ·rw[List.getElem?_eq_none (by simp;omega),List.getElem?_eq_none (by rw[gh];omega)]
def cI (cnt:Nat) (L:Nat->Nat) (i m:Nat):Nat->Nat:=fun x=>if bH L x<i then bH L x else if x∈(members cnt L ((leads cnt L).getD i 0)).take m then i else 0
theorem oI (cnt:Nat) (L:Nat->Nat):cI cnt L 0 0=fun _=>0:=by funext x;simp[cI]
theorem tP (t:Int) (bs:List PB) (k:Nat) (h:k<bs.length):aE t (bs.take (k+1))=aE t (bs.take k)++if t<=(bs[k]).s then[bs[k]]else[]:=by
 unfold aE
 rw[List.take_succ_eq_append_getElem h,List.filter_append]
 congr 1
 by_cases h:t<=bs[k].s<;>simp[h]
theorem wO {t:Int} {bs:List PB} {b:PB} (h:b∈aE t bs):b∈bs:=(List.mem_filter.1 h).1
theorem nr (t:Int) (bs:List PB):(aE t bs).length<=bs.length:=List.length_filter_le _ _
theorem BX (cnt:Nat) (hn:cnt<=1048576) (bs:List PB) (hb:∀b∈bs,b.a<cnt/\b.b<cnt) (oE:bs.length<=1048576) (t:Int):aj Tryz.prog 192 [.int .i64 cnt,.sl (bs.map aC),.int .i64 t] (.gP [.int .i64 (leads cnt (ei (aE t bs))).length,.sl ((e8 (ei (aE t bs)) bs).map aC)]):=by
 refine aj.body ek rfl fun hl n0=>?_
 clear hl
 (try((repeat(revert hN;revert N;apply Pn.out));refine wk @Nat.zero_add ?_;(repeat(refine Pn.mk ?_;intro N hN))))
 refine aI (fun n env st=>∃k:Nat,n=(bs.length)-k/\k<=(bs.length)/\env 9=.int .i64 (k:Int)/\(∃o:Id,env 8=.own o 0 (aE t (bs.take k)).length/\st.get o=some ⟨true,3,(aE t (bs.take k)).map aC⟩/\o.bq<st.next)) (bs.length) ⟨0,by omega,by omega,sl @Nat.zero_add,⟨⟨192001000,n0+1⟩,by(simp only[go_sem, ↓reduceIte,Nat.reduceEqDiff,Nat.reduceAdd,Nat.reduceSub,Nat.reduceLeDiff,reduceCtorEq])<;>rfl,by(simp only[go_sem, ↓reduceIte,Nat.reduceEqDiff,Nat.reduceAdd,Nat.reduceSub,Nat.reduceLeDiff,reduceCtorEq])<;>rfl,by(try dsimp only);omega⟩⟩ ?_
 rintro n_a env_a st_a ⟨k,rfl,ale,a9,j9⟩ dp
 have a0:=dp 0 (by kernel_rfl);have a1:=dp 1 (by kernel_rfl);have a2:=dp 2 (by kernel_rfl)
 simp only[go_sem, ↓reduceIte,Nat.reduceEqDiff,Nat.reduceAdd,Nat.reduceSub,Nat.reduceLeDiff,reduceCtorEq]at a0 a1 a2
 clear dp
 obtain⟨o,a8,ag,pK⟩:=j9
 have qv:=dq pK
 by_cases hk:(k:Int)<(bs.length:Int)
 ·have ck:∀{e:Env} {gg:Rows} {nx:Nat},(e 9=.int .i64 (IntKind.i64.wrap ((k:Int)+1)))->(∃o:Id,e 8=.own o 0 (aE t (bs.take (k+1))).length/\gg o=some ⟨true,3,(aE t (bs.take (k+1))).map aC⟩/\o.bq<nx)->∃m0,m0<(bs.length)-k/\∃k:Nat,m0=(bs.length)-k/\k<=(bs.length)/\e 9=.int .i64 (k:Int)/\(∃o:Id,e 8=.own o 0 (aE t (bs.take k)).length/\gg o=some ⟨true,3,(aE t (bs.take k)).map aC⟩/\o.bq<nx):=fun x1 x2=>⟨_,by omega,k+1,rfl,by omega,(by rw[x1,aA (by omega)]),x2⟩
  have eZ:k<bs.length:=by omega
  have eM:(bs.map aC)[k]? =some (aC bs[k]):=by simp[eZ]
  have hs:=tP t bs k eZ
  have DL:=nr t (bs.take k)
  rw[List.length_take]at DL
  by_cases hc:t<=(bs[k]).s
  ·rw[if_pos hc]at hs
   have e1:(aE t (bs.take k)).length+1<=16777216:=by omega
   have pa:((aE t (bs.take k)).map aC).length=(aE t (bs.take k)).length:=by simp
   generalize bs[k]=b at *
   (try((repeat(revert hN;revert N;apply Pn.out));refine wk (tw @a9 (tw @a0 (tw @a1 (tw @a2 (tw @a8 (tw @ag (tw @qv (tw @hk (tw @eM (tw @hc (tw @e1 (tw @pa @aC.eq_1)))))))))))) ?_;(repeat(refine Pn.mk ?_;intro N hN))))
   exact ck (sd (tw @a9 (tw @a0 (tw @a1 @a2)))) (⟨⟨192006006,st_a.next+1+1⟩,by rw[hs,List.length_append];simp only[go_sem, ↓reduceIte,Nat.reduceEqDiff,Nat.reduceAdd,Nat.reduceSub,Nat.reduceLeDiff,reduceCtorEq,List.length_cons,List.length_nil],by rw[hs,List.map_append,List.map_cons,List.map_nil];simp only[go_sem, ↓reduceIte,Nat.reduceEqDiff,Nat.reduceAdd,Nat.reduceSub,Nat.reduceLeDiff,reduceCtorEq,aC],by(try dsimp only);omega⟩)
  ·rw[if_neg hc,List.append_nil]at hs
   generalize bs[k]=b at *
   (try((repeat(revert hN;revert N;apply Pn.out));refine wk (tw @a9 (tw @a0 (tw @a1 (tw @a2 (tw @a8 (tw @ag (tw @qv (tw @hk (tw @eM (tw @hc @aC.eq_1)))))))))) ?_;(repeat(refine Pn.mk ?_;intro N hN))))
   exact ck (sd (tw @a9 (tw @a0 (tw @a1 @a2)))) (⟨o,by rw[hs];simp only[go_sem, ↓reduceIte,Nat.reduceEqDiff,Nat.reduceAdd,Nat.reduceSub,Nat.reduceLeDiff,reduceCtorEq,a8],by rw[hs];simp only[go_sem, ↓reduceIte,Nat.reduceEqDiff,Nat.reduceAdd,Nat.reduceSub,Nat.reduceLeDiff,reduceCtorEq,ag],by(try dsimp only);omega⟩)
 have lj:k=bs.length:=by omega
 subst lj
 rw[List.take_length]at a8 ag
 have Hx:=BV cnt hn (aE t bs) (fun b h=>hb b (wO h)) (by have:=nr t bs;omega)
 have hL:=tF (aE t bs)
 have CQ:fz (dX st_a.get) 6 (.own o 0 (aE t bs).length)=some (.sl ((aE t bs).map aC)):=ik (sz:=3) (by simp[dX,ag]) rfl fun b=>zo _ 4 b
 have TZ:∀x,cL (dX st_a.get) 6 [.int .i64 x,.own o 0 (aE t bs).length]=some [.int .i64 x,.sl ((aE t bs).map aC)]:=fun x=>by simp only[ai,aq,aH,CQ,Option.map_some]
 (try((repeat(revert hN;revert N;apply Pn.out));refine wk (tw @a9 (tw @a0 (tw @a1 (tw @a2 (tw @a8 @hk))))) ?_;(repeat(refine Pn.mk ?_;intro N hN))))
 refine .inl ⟨_,aj.x Hx (TZ _),?_⟩
 refine hN _ _ ?_
 clear hN N
 generalize ei (aE t bs)=L at *
 have sI:((fx cnt L).map AJ).length=(leads cnt L).length:=by simp[fx]
 have Sz:=jN cnt L
 have jI:(0:Int)<=(cnt:Int):=by omega
 have pU:(cnt:Int)<=((16777216:Nat):Int):=by omega
 have gH:List.replicate cnt [AV.int .i64 0]=dE (cI cnt L 0 0) cnt:=by rw[wT,oI]
 (try((repeat(revert hN;revert N;apply Pn.out));refine wk (tw @a9 (tw @a0 (tw @a1 (tw @a2 (tw @jI (tw @pU @Int.le_refl)))))) ?_;(repeat(refine Pn.mk ?_;intro N hN))))
 refine aI (fun n env st=>∃i:Nat,n=((leads cnt L).length)-i/\i<=((leads cnt L).length)/\env 12=.int .i64 (i:Int)/\st.get ⟨192008001,st_a.next+1+1⟩=some ⟨true,1,dE (cI cnt L i 0) cnt⟩/\(st_a.next+1+1<st.next)) ((leads cnt L).length) ⟨0,by omega,by omega,sl (tw @a9 (tw @a0 (tw @a1 (tw @a2 @gH)))),sl (tw @a9 (tw @a0 (tw @a1 (tw @a2 @gH)))),(by(try dsimp only);omega)⟩ ?_
 rintro n_c env_c st_c ⟨i,rfl,cle,zb,cg0,cI0⟩ cfr
 have c1:=cfr 1 (by kernel_rfl);have jB:=cfr 10 (by kernel_rfl);have nL:=cfr 11 (by kernel_rfl)
 simp only[go_sem, ↓reduceIte,Nat.reduceEqDiff,Nat.reduceAdd,Nat.reduceSub,Nat.reduceLeDiff,reduceCtorEq,a9,a0,a1,a2,gH]at c1 jB nL
 clear cfr
 by_cases hi:(i:Int)<((leads cnt L).length:Int)
 ·have ib:∀{e:Env} {gg:Rows} {nx:Nat},(e 12=.int .i64 (IntKind.i64.wrap ((i:Int)+1)))->(gg ⟨192008001,st_a.next+1+1⟩=some ⟨true,1,dE (cI cnt L (i+1) 0) cnt⟩)->(st_a.next+1+1<nx)->∃m0,m0<((leads cnt L).length)-i/\∃i:Nat,m0=((leads cnt L).length)-i/\i<=((leads cnt L).length)/\e 12=.int .i64 (i:Int)/\gg ⟨192008001,st_a.next+1+1⟩=some ⟨true,1,dE (cI cnt L i 0) cnt⟩/\(st_a.next+1+1<nx):=fun x1 x2 x3=>⟨_,by omega,i+1,rfl,by omega,(by rw[x1,aA (by omega)]),x2,x3⟩
  have fP:i<(leads cnt L).length:=by omega
  have lh:((fx cnt L).map AJ)[i]? =some (AJ (members cnt L (leads cnt L)[i])):=by simp[fx,fP]
  have uB:(leads cnt L).getD i 0=(leads cnt L)[i]:=by simp[List.getD_eq_getElem?_getD,fP]
  have BJ:∀m,cI cnt L i m=fun x=>if bH L x<i then bH L x else if x∈(members cnt L (leads cnt L)[i]).take m then i else 0:=fun m=>by unfold cI;rw[uB]
  have rm:=fun x (hx:x<cnt)=>sR hL (n:=cnt) (k:=x) (i:=i) hx fP
  have mc:(members cnt L (leads cnt L)[i]).Nodup:=List.nodup_range.filter _
  have KD:∀x∈members cnt L (leads cnt L)[i],x<cnt:=fun x hx=>(lI.1 hx).1
  have hMc:(members cnt L (leads cnt L)[i]).length<=cnt:=by
   have:=List.length_filter_le (fun k=>L k==(leads cnt L)[i]) (List.range cnt)
   simpa[members]using this
  generalize members cnt L (leads cnt L)[i]=M at *
  have CP:(M.map eN).length=M.length:=by simp
  (try((repeat(revert hN;revert N;apply Pn.out));refine wk (tw @zb (tw @cg0 (tw @c1 (tw @jB (tw @nL (tw @hi @sI)))))) ?_;(repeat(refine Pn.mk ?_;intro N hN))))
  refine aI (fun n env st=>∃m:Nat,n=(M.length)-m/\m<=(M.length)/\env 13=.int .i64 (m:Int)/\st.get ⟨192008001,st_a.next+1+1⟩=some ⟨true,1,dE (cI cnt L i m) cnt⟩/\(st_a.next+1+1<st.next)) (M.length) ⟨0,by omega,by omega,sl (tw @zb (tw @cg0 (tw @c1 (tw @jB @nL)))),sl (tw @zb (tw @cg0 (tw @c1 (tw @jB @nL)))),(by(try dsimp only);omega)⟩ ?_
  rintro n_d env_d st_d ⟨m,rfl,dle,d13,dg0,dI0⟩ dfr
  have d1:=dfr 1 (by kernel_rfl);have d10:=dfr 10 (by kernel_rfl);have d11:=dfr 11 (by kernel_rfl);have d12:=dfr 12 (by kernel_rfl)
  simp only[go_sem, ↓reduceIte,Nat.reduceEqDiff,Nat.reduceAdd,Nat.reduceSub,Nat.reduceLeDiff,reduceCtorEq,zb,cg0,c1,jB,nL]at d1 d10 d11 d12
  clear dfr
  have tl:=gh (cI cnt L i m) cnt
  by_cases hm:(m:Int)<(M.length:Int)
  ·have tH:∀{e:Env} {gg:Rows} {nx:Nat},(e 13=.int .i64 (IntKind.i64.wrap ((m:Int)+1)))->(gg ⟨192008001,st_a.next+1+1⟩=some ⟨true,1,dE (cI cnt L i (m+1)) cnt⟩)->(st_a.next+1+1<nx)->∃m0,m0<(M.length)-m/\∃m:Nat,m0=(M.length)-m/\m<=(M.length)/\e 13=.int .i64 (m:Int)/\gg ⟨192008001,st_a.next+1+1⟩=some ⟨true,1,dE (cI cnt L i m) cnt⟩/\(st_a.next+1+1<nx):=fun x1 x2 x3=>⟨_,by omega,m+1,rfl,by omega,(by rw[x1,aA (by omega)]),x2,x3⟩
   have zC:m<M.length:=by omega
   have vK:(M.map eN)[m]? =some (eN M[m]):=by simp[zC]
   have vQ:=KD _ (List.getElem_mem zC)
   have CX:(M[m]:Int)<(cnt:Int):=by omega
   have CW:=fw (f:=cI cnt L i m) vQ
   have dO:(dE (cI cnt L i m) cnt).set M[m] (eN i)=dE (cI cnt L i (m+1)) cnt:=pr vQ (by
    have h1:=(rm _ vQ).1 (List.getElem_mem zC)
    rw[BJ]
    simp only[]
    rw[if_neg (by omega),if_pos (by rw[List.take_succ_eq_append_getElem zC];exact List.mem_append_right _ (List.mem_singleton.2 rfl))]) fun x hx gU=>by
    rw[BJ,BJ]
    simp only[]
    rw[List.take_succ_eq_append_getElem zC]
    simp only[List.mem_append,List.mem_singleton,gU,or_false]
   rw[eN]at dO CW
   generalize M[m]=xm at *
   (try((repeat(revert hN;revert N;apply Pn.out));refine wk (tw @d13 (tw @dg0 (tw @d1 (tw @d10 (tw @d11 (tw @d12 (tw @hm (tw @hi (tw @lh (tw @sI (tw @vK (tw @CP (tw @CX (tw @CW (tw @tl (tw @dO (tw @AJ.eq_1 @eN.eq_1))))))))))))))))) ?_;(repeat(refine Pn.mk ?_;intro N hN))))
   refine tH ?_ ?_ (by(try dsimp only);omega)
   all_goals simp only[go_sem, ↓reduceIte,Nat.reduceEqDiff,Nat.reduceAdd,Nat.reduceSub,Nat.reduceLeDiff,reduceCtorEq,d13,dg0,d1,d10,d11,d12,dO]
  ·have pa:m=M.length:=by omega
   subst pa
   have jf:dE (cI cnt L i M.length) cnt=dE (cI cnt L (i+1) 0) cnt:=gV fun x hx=>by
    rw[BJ,List.take_length]
    simp only[cI,List.take_zero,List.not_mem_nil,if_false]
    have h1:=rm x hx
    by_cases h2:bH L x<i
    ·rw[if_pos h2,if_pos (by omega)]
    ·rw[if_neg h2]
     by_cases h3:x∈M
     ·rw[if_pos h3,if_pos (by have:=h1.1 h3;omega),h1.1 h3]
     ·rw[if_neg h3,if_neg fun h4=>h3 (h1.2 (by omega))]
   (try((repeat(revert hN;revert N;apply Pn.out));refine wk (tw @d13 (tw @dg0 (tw @d1 (tw @d10 (tw @d11 (tw @d12 (tw @hm (tw @hi (tw @lh (tw @sI (tw @CP @AJ.eq_1))))))))))) ?_;(repeat(refine Pn.mk ?_;intro N hN))))
   refine ib ?_ ?_ (by(try dsimp only);omega)
   all_goals simp only[go_sem, ↓reduceIte,Nat.reduceEqDiff,Nat.reduceAdd,Nat.reduceSub,Nat.reduceLeDiff,reduceCtorEq,zb,cg0,c1,jB,nL,d13,dg0,d1,d10,d11,d12,jf]
 have mb:i=(leads cnt L).length:=by omega
 subst mb
 have yl:dE (cI cnt L (leads cnt L).length 0) cnt=dE (bH L) cnt:=gV fun x hx=>by rw[cI,if_pos (j5 hL hx)]
 rw[yl]at cg0
 have tl:=gh (bH L) cnt
 (try((repeat(revert hN;revert N;apply Pn.out));refine wk (tw @zb (tw @cg0 (tw @c1 (tw @jB (tw @nL (tw @hi @sI)))))) ?_;(repeat(refine Pn.mk ?_;intro N hN))))
 have QC:st_a.next+1+1<st_c.next:=cI0
 refine aI (fun n env st=>∃j:Nat,n=(bs.length)-j/\j<=(bs.length)/\env 15=.int .i64 (j:Int)/\st.get ⟨192008001,st_a.next+1+1⟩=some ⟨true,1,dE (bH L) cnt⟩/\(∃p:Id,env 14=.own p 0 (e8 L (bs.take j)).length/\st.get p=some ⟨true,3,(e8 L (bs.take j)).map aC⟩/\st_c.next<=p.bq/\p.bq<st.next)) (bs.length) ⟨0,by omega,by omega,sl (tw @zb (tw @cg0 (tw @c1 (tw @jB @nL)))),sl (tw @zb (tw @cg0 (tw @c1 (tw @jB @nL)))),⟨⟨192016000,st_c.next+1⟩,by(simp only[go_sem, ↓reduceIte,Nat.reduceEqDiff,Nat.reduceAdd,Nat.reduceSub,Nat.reduceLeDiff,reduceCtorEq])<;>rfl,by(simp only[go_sem, ↓reduceIte,Nat.reduceEqDiff,Nat.reduceAdd,Nat.reduceSub,Nat.reduceLeDiff,reduceCtorEq])<;>rfl,by(try dsimp only);omega,by(try dsimp only);omega⟩⟩ ?_
 rintro n_f env_f st_f ⟨j,rfl,fle,f15,fg0,fI0⟩ ffr
 have f1:=ffr 1 (by kernel_rfl);have f10:=ffr 10 (by kernel_rfl);have f11:=ffr 11 (by kernel_rfl)
 simp only[go_sem, ↓reduceIte,Nat.reduceEqDiff,Nat.reduceAdd,Nat.reduceSub,Nat.reduceLeDiff,reduceCtorEq,zb,cg0,c1,jB,nL]at f1 f10 f11
 clear ffr
 obtain⟨p,f14,fg,On,IS⟩:=fI0
 have x1:=cP (a:=⟨192008001,st_a.next+1+1⟩) (b:=p) (by(try dsimp only);omega)
 have si:=dq IS
 have hvn:st_a.next+1+1<st_f.next:=by omega
 have I5:=dq (i:=⟨192008001,st_a.next+1+1⟩) (n:=st_f.next) hvn
 have DL:=(nq L (bs.take j)).2
 rw[List.length_take]at DL
 by_cases hj:(j:Int)<(bs.length:Int)
 ·have rK:∀{e:Env} {gg:Rows} {nx:Nat},(e 15=.int .i64 (IntKind.i64.wrap ((j:Int)+1)))->(gg ⟨192008001,st_a.next+1+1⟩=some ⟨true,1,dE (bH L) cnt⟩)->(∃p:Id,e 14=.own p 0 (e8 L (bs.take (j+1))).length/\gg p=some ⟨true,3,(e8 L (bs.take (j+1))).map aC⟩/\st_c.next<=p.bq/\p.bq<nx)->∃m0,m0<(bs.length)-j/\∃j:Nat,m0=(bs.length)-j/\j<=(bs.length)/\e 15=.int .i64 (j:Int)/\gg ⟨192008001,st_a.next+1+1⟩=some ⟨true,1,dE (bH L) cnt⟩/\(∃p:Id,e 14=.own p 0 (e8 L (bs.take j)).length/\gg p=some ⟨true,3,(e8 L (bs.take j)).map aC⟩/\st_c.next<=p.bq/\p.bq<nx):=fun x1 x2 x3=>⟨_,by omega,j+1,rfl,by omega,(by rw[x1,aA (by omega)]),x2,x3⟩
  have iO:j<bs.length:=by omega
  have Hw:(bs.map aC)[j]? =some (aC bs[j]):=by simp[iO]
  have ML:=hb _ (List.getElem_mem iO)
  have hs:=Ak L (bs.take j) bs[j]
  rw[<-List.take_succ_eq_append_getElem iO]at hs
  generalize bs[j]=b at *
  have hA:=fw (f:=bH L) ML.1
  have hB:=fw (f:=bH L) ML.2
  have gG:(b.a:Int)<(cnt:Int):=by omega
  have fF:(b.b:Int)<(cnt:Int):=by omega
  have Sd:=BT (bH L b.a) (bH L b.b)
  have Se:=BS (bH L b.a) (bH L b.b)
  rw[eN]at hA hB
  by_cases he:bH L b.a=bH L b.b
  ·rw[if_pos he,List.append_nil]at hs
   have uA:decide ((bH L b.a:Int)=(bH L b.b:Int))=true:=decide_eq_true (by rw[he])
   (try((repeat(revert hN;revert N;apply Pn.out));refine wk (tw @f15 (tw @fg0 (tw @f1 (tw @f10 (tw @f11 (tw @f14 (tw @fg (tw @hj (tw @Hw (tw @hA (tw @hB (tw @gG (tw @fF (tw @tl (tw @uA (tw @x1 (tw @si @aC.eq_1))))))))))))))))) ?_;(repeat(refine Pn.mk ?_;intro N hN))))
   refine rK ?_ ?_ (⟨p,by rw[hs];simp only[go_sem, ↓reduceIte,Nat.reduceEqDiff,Nat.reduceAdd,Nat.reduceSub,Nat.reduceLeDiff,reduceCtorEq,f14],by rw[hs];simp only[go_sem, ↓reduceIte,Nat.reduceEqDiff,Nat.reduceAdd,Nat.reduceSub,Nat.reduceLeDiff,reduceCtorEq,fg],On,by(try dsimp only);omega⟩)
   all_goals simp only[go_sem, ↓reduceIte,Nat.reduceEqDiff,Nat.reduceAdd,Nat.reduceSub,Nat.reduceLeDiff,reduceCtorEq,f15,fg0,f1,f10,f11]
  ·rw[if_neg he]at hs
   have uA:decide ((bH L b.a:Int)=(bH L b.b:Int))=false:=decide_eq_false fun h=>he (by omega)
   have e1:(e8 L (bs.take j)).length+1<=16777216:=by omega
   have pa:((e8 L (bs.take j)).map aC).length=(e8 L (bs.take j)).length:=by simp
   (repeat(first|((repeat(revert hN;revert N;apply Pn.out));refine wk (tw @f15 (tw @fg0 (tw @f1 (tw @f10 (tw @f11 (tw @f14 (tw @fg (tw @hj (tw @Hw (tw @hA (tw @hB (tw @gG (tw @fF (tw @tl (tw @uA (tw @x1 (tw @si (tw @I5 (tw @e1 (tw @pa @aC.eq_1)))))))))))))))))))) ?_;(repeat(refine Pn.mk ?_;intro N hN)))|((try apply Or.inl);refine⟨_,aj.x (Sd) (sd (tw @f15 (tw @fg0 (tw @f1 (tw @f10 (tw @f11 (tw @f14 (tw @fg (tw @hj (tw @Hw (tw @hA (tw @hB (tw @gG (tw @fF (tw @tl (tw @uA (tw @x1 (tw @si (tw @I5 (tw @e1 (tw @pa @aC.eq_1))))))))))))))))))))),?_⟩;refine hN _ _ ?_;clear hN N)|((try apply Or.inl);refine⟨_,aj.x (Se) (sd (tw @f15 (tw @fg0 (tw @f1 (tw @f10 (tw @f11 (tw @f14 (tw @fg (tw @hj (tw @Hw (tw @hA (tw @hB (tw @gG (tw @fF (tw @tl (tw @uA (tw @x1 (tw @si (tw @I5 (tw @e1 (tw @pa @aC.eq_1))))))))))))))))))))),?_⟩;refine hN _ _ ?_;clear hN N)))
   refine rK ?_ ?_ (⟨⟨192023014,st_f.next+1+1+1+1⟩,by rw[hs,List.length_append];simp only[go_sem, ↓reduceIte,Nat.reduceEqDiff,Nat.reduceAdd,Nat.reduceSub,Nat.reduceLeDiff,reduceCtorEq,List.length_cons,List.length_nil],by rw[hs,List.map_append,List.map_cons,List.map_nil];simp only[go_sem, ↓reduceIte,Nat.reduceEqDiff,Nat.reduceAdd,Nat.reduceSub,Nat.reduceLeDiff,reduceCtorEq,aC],by(try dsimp only);omega,by(try dsimp only);omega⟩)
   all_goals simp only[go_sem, ↓reduceIte,Nat.reduceEqDiff,Nat.reduceAdd,Nat.reduceSub,Nat.reduceLeDiff,reduceCtorEq,f15,fg0,f1,f10,f11,x1,I5]
 ·have gR:j=bs.length:=by omega
  subst gR
  rw[List.take_length]at f14 fg
  (try((repeat(revert hN;revert N;apply Pn.out));refine wk (tw @f15 (tw @fg0 (tw @f1 (tw @f10 (tw @f11 (tw @f14 (tw @hj @sI))))))) ?_;(repeat(refine Pn.mk ?_;intro N hN))))
  refine jy (.inl rfl) (r1:=.int .i64 ((leads cnt L).length:Int)) (sd @Nat.zero_add) (by simp only[go_sem, ↓reduceIte,Nat.reduceEqDiff,Nat.reduceAdd,Nat.reduceSub,Nat.reduceLeDiff,reduceCtorEq];rfl) ?_
  have h1:gp st_f.get 5 (.own p 0 (e8 L bs).length)=some (.sl ((e8 L bs).map aC)):=fY (sz:=3) fg rfl fun b=>uu _ 3 b
  simp only[fj,bB,cz,eO,h1,Option.map_some]
end Go.Proofs.YtgoelphibofcmaaGreat.V

namespace Go.Proofs.YtgoelphibofcmaaGreat.V
def EN (bs:List PB) (e v:Nat):Prop:=(cm bs e).a=v∨(cm bs e).b=v
def iT (bs:List PB) (m v:Nat):List Nat:=(List.range m).filter fun i=>(cm bs i).a==v||(cm bs i).b==v
theorem rD {bs:List PB} {m v e:Nat}:e∈iT bs m v↔e<m/\EN bs e v:=by simp[iT,EN]
theorem Gu (bs:List PB) (m v:Nat):iT bs (m+1) v=iT bs m v++if (cm bs m).a=v∨(cm bs m).b=v then[m]else[]:=by
 unfold iT
 rw[List.range_succ,List.filter_append]
 congr 1
 by_cases h:(cm bs m).a=v<;>by_cases h2:(cm bs m).b=v<;>simp[h,h2]
theorem rC (bs:List PB) (m v:Nat):(iT bs m v).length<=m:=by
 have:=List.length_filter_le (fun i=>(cm bs i).a==v||(cm bs i).b==v) (List.range m)
 simpa[iT]using this
def ny (cnt:Nat) (bs:List PB):Prop:=∀e,e<bs.length->(cm bs e).a<cnt/\(cm bs e).b<cnt/\(cm bs e).a≠(cm bs e).b
theorem oL {cnt:Nat} {bs:List PB} (h:ny cnt bs) {e v:Nat} (he:e<bs.length):bI bs e v<cnt:=by
 have:=h e he;unfold bI;split;exact this.2.1;exact this.1
theorem Jy {cnt:Nat} {bs:List PB} (h:ny cnt bs) {e v:Nat} (he:e<bs.length) (hi:EN bs e v):bI bs e v≠v:=by
 have h1:=(h e he).2.2
 unfold bI
 split
 ·rename_i ha;rw[<-ha];exact fun h=>h1 h.symm
 ·rename_i ha;rcases hi with hi|hi
  ·exact absurd hi ha
  ·rw[<-hi];exact h1
theorem yN {bs:List PB} {e v:Nat}:EN bs e (bI bs e v):=by
 unfold bI EN;split
 ·exact .inr rfl
 ·exact .inl rfl
theorem oM {cnt:Nat} {bs:List PB} (h:ny cnt bs) {e v:Nat} (he:e<bs.length) (hi:EN bs e v):bI bs e (bI bs e v)=v:=by
 have h1:=(h e he).2.2
 unfold bI
 by_cases ha:(cm bs e).a=v
 ·rw[if_pos ha,if_neg h1];exact ha
 ·rw[if_neg ha,if_pos rfl]
  rcases hi with hi|hi
  ·exact absurd hi ha
  ·exact hi
structure y6 (cnt:Nat) (bs:List PB) (f:Nat->Int) (y:Nat) (out:Nat->Int):Prop where
 lo:∀v,v<cnt->-1<=out v/\out v<=cnt
 first:out y=0
 zero:∀v,v<cnt->out v=0->v=y
 down:∀v,v<cnt->0<out v->∃e,e<bs.length/\EN bs e v/\0<fG bs f e v/\out (bI bs e v)=out v-1
 shut:∀e v,e<bs.length->EN bs e v->0<=out (bI bs e v)->0<fG bs f e v->0<=out v
structure AF (cnt:Nat) (bs:List PB) (f:Nat->Int) (y:Nat) (out:Nat->Int) (Q:List Nat) (i:Nat):Prop where
 nd:Q.Nodup
 lt:∀x∈Q,x<cnt
 iff:∀v,v<cnt->(0<=out v↔v∈Q)
 lo:∀v,v<cnt->-1<=out v
 first:out y=0
 up:∀j (h:j<Q.length),out Q[j]<=j
 zero:∀v,v<cnt->out v=0->v=y
 down:∀v,v<cnt->0<out v->∃e,e<bs.length/\EN bs e v/\0<fG bs f e v/\out (bI bs e v)=out v-1
 shut:∀j (h:j<Q.length),j<i->∀e,e<bs.length->EN bs e Q[j]->0<fG bs f e (bI bs e Q[j])->0<=out (bI bs e Q[j])
section
variable {cnt:Nat} {bs:List PB} {f:Nat->Int} {y:Nat} {out:Nat->Int} {Q:List Nat} {i:Nat}
theorem AF.start (hy:y<cnt):AF cnt bs f y (fun v=>if v=y then 0 else -1) [y] 0 where
 nd:=by simp
 lt:=fun x hx=>by rw[List.mem_singleton.1 hx];exact hy
 iff:=fun v _=>by
  by_cases h:v=y<;>simp[h]
 lo:=fun v _=>by split<;>omega
 first:=if_pos rfl
 up:=fun j h=>by
  have:j=0:=by simp at h;omega
  subst this;simp
 zero:=fun v _ h=>by
  by_cases hv:v=y
  ·exact hv
  ·rw[if_neg hv]at h;omega
 down:=fun v _ h=>by
  by_cases hv:v=y
  ·rw[if_pos hv]at h;omega
  ·rw[if_neg hv]at h;omega
 shut:=fun j h hj=>by omega
theorem AF.len (h:AF cnt bs f y out Q i):Q.length<=cnt:=oJ cnt Q h.nd h.lt
theorem AF.visit (h:AF cnt bs f y out Q i) (ok:ny cnt bs) (hi:i<Q.length) {e:Nat} (he:e<bs.length) (pJ:EN bs e Q[i]) (j0:out (bI bs e Q[i])<0) (fS:0<fG bs f e (bI bs e Q[i])):
  AF cnt bs f y (fun v=>if v=bI bs e Q[i]then out Q[i]+1 else out v) (Q++[bI bs e Q[i]]) i:=by
 have MZ:0<=out Q[i]:=(h.iff _ (h.lt _ (List.getElem_mem hi))).2 (List.getElem_mem hi)
 have hq:=oL ok (v:=Q[i]) he
 have gU:=Jy ok he pJ
 have Q3:=oM ok he pJ
 have Uj:bI bs e Q[i]∉Q:=fun hm=>by have:=(h.iff _ hq).2 hm;omega
 have BJ:=h.up i hi
 generalize hw:bI bs e Q[i]=w at *
 have qx:∀v,0<=out v->(if v=w then out Q[i]+1 else out v)=out v:=fun v hv=>by
  rw[if_neg];rintro rfl;omega
 have mono:∀v,0<=out v->0<=(if v=w then out Q[i]+1 else out v):=fun v hv=>by rw[qx v hv];exact hv
 refine⟨?_,?_,?_,?_,?_,?_,?_,?_,?_⟩
 ·rw[List.nodup_append]
  exact⟨h.nd,by simp,fun a ha b hb=>by rw[List.mem_singleton.1 hb];rintro rfl;exact Uj ha⟩
 ·intro x hx
  rcases List.mem_append.1 hx with hx|hx
  ·exact h.lt x hx
  ·rw[List.mem_singleton.1 hx];exact hq
 ·intro v hv
  by_cases HD:v=w
  ·subst HD;simp;omega
  ·rw[if_neg HD,h.iff v hv];simp[HD]
 ·intro v hv
  by_cases HD:v=w
  ·rw[if_pos HD];omega
  ·rw[if_neg HD];exact h.lo v hv
 ·rw[qx y (by rw[h.first];exact Int.le_refl _)];exact h.first
 ·intro j hj
  by_cases gR:j<Q.length
  ·rw[List.getElem_append_left gR,qx _ ((h.iff _ (h.lt _ (List.getElem_mem gR))).2 (List.getElem_mem gR))]
   exact h.up j gR
  ·have Li:j=Q.length:=by simp at hj;omega
   subst Li
   simp
   omega
 ·intro v hv h0
  by_cases HD:v=w
  ·rw[if_pos HD]at h0;omega
  ·rw[if_neg HD]at h0;exact h.zero v hv h0
 ·intro v hv h0
  by_cases HD:v=w
  ·subst HD
   rw[if_pos rfl]
   refine⟨e,he,by rw[<-hw];exact yN,fS,?_⟩
   rw[Q3,qx _ MZ];omega
  ·rw[if_neg HD]at h0 ⊢
   obtain⟨e',h1,h2,h3,h4⟩:=h.down v hv h0
   exact⟨e',h1,h2,h3,by rw[qx _ (by omega)];exact h4⟩
 ·intro j hj mE e' Ld MR hr
  have gR:j<Q.length:=by omega
  rw[List.getElem_append_left gR]at MR hr ⊢
  exact mono _ (h.shut j gR mE e' Ld MR hr)
theorem AF.next (h:AF cnt bs f y out Q i) (hi:i<Q.length) (hs:∀e∈iT bs bs.length Q[i],0<fG bs f e (bI bs e Q[i])->0<=out (bI bs e Q[i])):AF cnt bs f y out Q (i+1):=
 ⟨h.nd,h.lt,h.iff,h.lo,h.first,h.up,h.zero,h.down,fun j hj mE e he pJ hr=>by
  by_cases Li:j=i
  ·subst Li;exact hs e (rD.2 ⟨he,pJ⟩) hr
  ·exact h.shut j hj (by omega) e he pJ hr⟩
theorem AF.done (h:AF cnt bs f y out Q i) (ok:ny cnt bs) (hi:Q.length<=i):y6 cnt bs f y out where
 lo:=fun v hv=>⟨h.lo v hv,by
  by_cases h0:0<=out v
  ·obtain⟨j,hj,rfl⟩:=List.getElem_of_mem ((h.iff v hv).1 h0)
   have:=h.up j hj
   have:=h.len
   omega
  ·omega⟩
 first:=h.first
 zero:=h.zero
 down:=h.down
 shut:=fun e v he pJ h0 hr=>by
  obtain⟨j,hj,PJ⟩:=List.getElem_of_mem ((h.iff _ (oL ok he)).1 h0)
  have h2:=h.shut j hj (by omega) e he (by rw[PJ];exact yN)
  rw[PJ,oM ok he pJ]at h2
  exact h2 hr
end
end Go.Proofs.YtgoelphibofcmaaGreat.V

namespace Go.Proofs.YtgoelphibofcmaaGreat.V
open Go.RowKit
attribute [local irreducible] dG wpOps gz Call
attribute [local go_sem] aL fU eV gw gr cK upd cw K.av cU AV.cells AV.cell rowOf rowsOf part ld rowAt bJ cr dK ep iC bR dj eF gq fh dz ew dh de ec ee bV bh cX bU cZ cY eu ez ev cW cj di er bS aQ db cG iA bz cN bW aX dn aZ dL AV.undef bG bK ef eo dW ea cJ eE eH cD eB eA da dc List.getD_cons_zero List.getD_cons_succ List.getD_nil List.all_cons List.all_nil Bool.and_true Bool.true_and Bool.and_self Bool.not_true Bool.not_false Option.map_some Option.map_none Option.bind_some Option.bind_none List.length_cons List.length_nil List.take_succ_cons List.take_zero List.take_nil List.drop_succ_cons List.drop_zero List.drop_nil List.head?_cons List.map_cons List.map_nil List.getElem?_cons_zero List.getElem?_cons_succ List.cons_append List.nil_append List.append_nil List.length_map List.set_cons_zero List.set_cons_succ Nat.reduceMul eq_self Int.toNat_natCast Int.natCast_nonneg and_self true_and and_true decide_true decide_false Bool.false_eq_true Nat.zero_add Nat.add_zero List.contains_cons List.contains_nil Bool.or_false Bool.false_or beq_self_eq_true Nat.reduceBEq ne_eq not_true_eq_false not_false_eq_true Id.mk.injEq false_and and_false Nat.reduceLT Int.reduceLE Int.reduceLT Int.reduceToNat Int.reduceNeg Int.reduceAdd Nat.le_refl List.length_append beq_true beq_false Bool.not_eq_eq_eq_not or_false false_or dX ai aq aH bj bE cu aW br aU bp cV bP
def lW (P:Program) (f:Nat) (args:List AV) (R:AV->Prop):Prop:=∀n:Nat,Call P f args ⟨fun _=>none,n⟩ fun r0 σ'=>∃r',gp σ'.get 6 r0=some r'/\R r'
theorem aj.r {P:Program} {f:Nat} {args:List AV} {r:AV} (h:aj P f args r):lW P f args (fun r'=>r'=r):=h
theorem Gd {P:Program} {f:Nat} {args eK:List AV} {g:Rows} {n:Nat} {R:AV->Prop} (hv:cL (dX g) 6 args=some eK) (h:Sound P f eK ⟨fun _=>none,n⟩ fun r0 σ'=>∃r',gp σ'.get 6 r0=some r'/\R r'):Sound P f args ⟨g,n⟩ fun r σ'=>R r/\σ'=⟨g,n⟩:=by
 intro hs D ι w vs S U A
 refine(xP (g0:=g) (K:=R) ⟨eK,hv,h⟩ (fun _ _ h=>h) S U A).mono ?_
 rintro e w' ⟨r,D',u,rfl,hR,T,S',hr⟩
 exact⟨r,g,n,D',ι,u,rfl,⟨hR,rfl⟩,T,S',U,Nat.le_refl _,hr⟩
theorem lW.x {P:Program} (hm:P.follows .mixedOrders=true) {f:Nat} {args eK:List AV} {R:AV->Prop} (h:lW P f eK R) {σ:au} (hv:cL (dX σ.get) 6 args=some eK):Call P f args σ fun r σ'=>R r/\σ'=σ:=
 gJ (Gd hv (gj hm (h σ.next)))
theorem lW.body {P:Program} {f:Nat} {args:List AV} {R:AV->Prop} {nt na:Nat} {body:VC} {res:List nI} (hf:lV P f=some ⟨nt,na,body,res⟩) (ha:na=args.length) (h:(∀a∈args,eC a)->∀n:Nat,dG (Call P) body (ku res fun r0 σ'=>∃r',gp σ'.get 6 r0=some r'/\R r') (cw args) ⟨fun _=>none,n⟩):lW P f args R:=fun n=>lY hf ha fun hl=>h hl n
def dQ (f:Nat->Int) (n:Nat):List (List AV):=(List.range n).map fun i=>bf (f i)
theorem dD (f:Nat->Int) (n:Nat):(dQ f n).length=n:=by simp[dQ]
theorem dH {f:Nat->Int} {n i:Nat} (h:i<n):(dQ f n)[i]? =some (bf (f i)):=by simp[dQ,h]
theorem k8 {f g:Nat->Int} {n k:Nat} {v:Int} (hk:k<n) (hv:g k=v) (h:∀i,i<n->i≠k->g i=f i):(dQ f n).set k (bf v)=dQ g n:=by
 refine List.ext_getElem? fun i=>?_
 rw[List.getElem?_set]
 by_cases hi:k=i
 ·subst hi
  rw[if_pos rfl,dD,if_pos hk,dH hk,hv]
 ·rw[if_neg hi]
  by_cases fP:i<n
  ·rw[dH fP,dH fP,h i fP (fun h=>hi h.symm)]
  ·rw[List.getElem?_eq_none (by rw[dD];omega),List.getElem?_eq_none (by rw[dD];omega)]
theorem He (f:Nat->Int) (n:Nat):dQ f (n+1)=dQ f n++[bf (f n)]:=by simp[dQ,List.range_succ]
theorem fzI (g:Rows) (n:Nat) (a:Int):cL g (n+1) (bf a)=some (bf a):=by simp[bf,ai,aq,aH]
theorem Tj (g:Rows) (n:Nat) (a:Int):eb g (n+1) (bf a)=some (bf a):=by simp[bf,bB,cz,eO]
theorem J1 {g:Rows} {f:Nat->Int} {n m:Nat}:gY g (m+1) (dQ f n)=some (dQ f n):=by
 have:dQ f n=((List.range n).map f).map bf:=by simp[dQ]
 rw[this];exact tu fun x=>Tj g m x
theorem As {g:Rows} {f:Nat->Int} {n m:Nat}:dV g (m+1) (dQ f n)=some (dQ f n):=by
 have:dQ f n=((List.range n).map f).map bf:=by simp[dQ]
 rw[this];exact qm fun x=>fzI g m x
def O0 (l:List Nat):AV:=if l=[]then .cC else .sl (l.map eN)
def p9 (cnt:Nat) (bs:List PB) (m:Nat):List (List AV):=(List.range cnt).map fun v=>[O0 (iT bs m v)]
theorem C9 {cnt:Nat} {bs:List PB} {m v:Nat} (h:v<cnt):(p9 cnt bs m)[v]? =some [O0 (iT bs m v)]:=by simp[p9,h]
def fQ (cnt:Nat) (bs:List PB) (f:Nat->Int):List AV:=[.int .i64 cnt,.sl (bs.map aC),.sl (p9 cnt bs bs.length),.sl (dQ f bs.length)]
theorem uk {bs:List PB} {e:Nat} (h:e<bs.length):(bs.map aC)[e]? =some (aC (cm bs e)):=getD_map aC h
def Small (bs:List PB) (f:Nat->Int):Prop:=∀e,e<bs.length->(0<=(cm bs e).s/\(cm bs e).s<=4)/\-4<=f e/\f e<=4
theorem JN (cnt:Nat) (bs:List PB) (f:Nat->Int) (hs:Small bs f) (e v:Nat) (he:e<bs.length):aj Tryz.prog 260 [.cQ (fQ cnt bs f),.int .i64 v,.int .i64 e] (.gP [.int .i64 (fG bs f e v),.int .i64 (bI bs e v)]):=by
 refine aj.body ek rfl fun hl n0=>?_
 clear hl
 have hb:=uk he
 have hf:=dH (f:=f) he
 obtain⟨⟨s0,s1⟩,s2,s3⟩:=hs e he
 have w1:IntKind.i64.wrap ((cm bs e).s-f e)=(cm bs e).s-f e:=aV (by omega)
 have w2:IntKind.i64.wrap ((cm bs e).s+f e)=(cm bs e).s+f e:=aV (by omega)
 unfold fG bI
 generalize cm bs e=b at *
 by_cases h:b.a=v
 ·have hd:decide ((b.a:Int)=(v:Int))=true:=decide_eq_true (by rw[h])
  (try((repeat(revert hN;revert N;apply Pn.out));refine wk (tw @fQ.eq_1 (tw @hb (tw @hf (tw @aC.eq_1 (tw @bf.eq_1 (tw @hd (tw @w1 @w2))))))) ?_;(repeat(refine Pn.mk ?_;intro N hN))))
  refine jy (.inl rfl) (by simp only[go_sem, ↓reduceIte,Nat.reduceEqDiff,Nat.reduceAdd,Nat.reduceSub,Nat.reduceLeDiff,reduceCtorEq];rfl) (by simp only[go_sem, ↓reduceIte,Nat.reduceEqDiff,Nat.reduceAdd,Nat.reduceSub,Nat.reduceLeDiff,reduceCtorEq];rfl) ?_
  simp only[fj,bB,cz,eO,Option.map_some,if_pos h]
 ·have hd:decide ((b.a:Int)=(v:Int))=false:=decide_eq_false fun hc=>h (by omega)
  (try((repeat(revert hN;revert N;apply Pn.out));refine wk (tw @fQ.eq_1 (tw @hb (tw @hf (tw @aC.eq_1 (tw @bf.eq_1 (tw @hd (tw @w1 @w2))))))) ?_;(repeat(refine Pn.mk ?_;intro N hN))))
  refine jy (.inl rfl) (by simp only[go_sem, ↓reduceIte,Nat.reduceEqDiff,Nat.reduceAdd,Nat.reduceSub,Nat.reduceLeDiff,reduceCtorEq];rfl) (by simp only[go_sem, ↓reduceIte,Nat.reduceEqDiff,Nat.reduceAdd,Nat.reduceSub,Nat.reduceLeDiff,reduceCtorEq];rfl) ?_
  simp only[fj,bB,cz,eO,Option.map_some,if_neg h]
theorem FH (cnt:Nat) (hn:cnt<=1048576) (bs:List PB) (ok:ny cnt bs) (oE:bs.length<=1048576) (f:Nat->Int) (hs:Small bs f) (y:Nat) (hy:y<cnt):
  lW Tryz.prog 239 [.cQ (fQ cnt bs f),.int .i64 y] fun r=>∃out,r=.sl (dQ out cnt)/\y6 cnt bs f y out:=by
 refine lW.body ek rfl fun hl n0=>?_
 clear hl
 (try((repeat(revert hN;revert N;apply Pn.out));refine wk @fQ.eq_1 ?_;(repeat(refine Pn.mk ?_;intro N hN))))
 refine aI (fun n env st=>∃k:Nat,n=(cnt)-k/\k<=(cnt)/\env 6=.int .i64 (k:Int)/\(∃o:Id,env 5=.own o 0 k/\st.get o=some ⟨true,1,dQ (fun _=>-1) k⟩/\o.bq<st.next)) (cnt) ⟨0,by omega,by omega,sl @fQ.eq_1,⟨⟨239001000,n0+1⟩,by(simp only[go_sem, ↓reduceIte,Nat.reduceEqDiff,Nat.reduceAdd,Nat.reduceSub,Nat.reduceLeDiff,reduceCtorEq])<;>rfl,by(simp only[go_sem, ↓reduceIte,Nat.reduceEqDiff,Nat.reduceAdd,Nat.reduceSub,Nat.reduceLeDiff,reduceCtorEq])<;>rfl,by(try dsimp only);omega⟩⟩ ?_
 rintro n_a env_a st_a ⟨k,rfl,ale,a6,j9⟩ dp
 have a0:=dp 0 (by kernel_rfl);have a1:=dp 1 (by kernel_rfl)
 simp only[go_sem, ↓reduceIte,Nat.reduceEqDiff,Nat.reduceAdd,Nat.reduceSub,Nat.reduceLeDiff,reduceCtorEq,fQ]at a0 a1
 clear dp
 obtain⟨o,a5,ag,pK⟩:=j9
 have tl:=dD (fun _=>-1) k
 have qv:=dq pK
 by_cases hk:(k:Int)<(cnt:Int)
 ·have ck:∀{e:Env} {gg:Rows} {nx:Nat},(e 6=.int .i64 (IntKind.i64.wrap ((k:Int)+1)))->(∃o:Id,e 5=.own o 0 (k+1)/\gg o=some ⟨true,1,dQ (fun _=>-1) (k+1)⟩/\o.bq<nx)->∃m0,m0<(cnt)-k/\∃k:Nat,m0=(cnt)-k/\k<=(cnt)/\e 6=.int .i64 (k:Int)/\(∃o:Id,e 5=.own o 0 k/\gg o=some ⟨true,1,dQ (fun _=>-1) k⟩/\o.bq<nx):=fun x1 x2=>⟨_,by omega,k+1,rfl,by omega,(by rw[x1,aA (by omega)]),x2⟩
  have e1:k+1<=16777216:=by omega
  have pM:dQ (fun _=>-1) k++[[.int .i64 (-1)]]=dQ (fun _=>-1) (k+1):=(He _ _).symm
  (try((repeat(revert hN;revert N;apply Pn.out));refine wk (tw @a6 (tw @a0 (tw @a1 (tw @a5 (tw @ag (tw @qv (tw @hk (tw @tl (tw @e1 (tw @pM @fQ.eq_1)))))))))) ?_;(repeat(refine Pn.mk ?_;intro N hN))))
  exact ck (sd (tw @a6 (tw @a0 (tw @a1 @fQ.eq_1)))) (⟨⟨239005002,st_a.next+1⟩,sd @Nat.zero_add,sd @pM,by(try dsimp only);omega⟩)
 have lj:k=cnt:=by omega
 subst lj
 have SO:(y:Int)<(k:Int):=by omega
 have hym:=dH (f:=fun _=>-1) hy
 have BH:(dQ (fun _=>-1) k).set y (bf 0)=dQ (fun v=>if v=y then 0 else -1) k:=k8 hy (if_pos rfl) fun i _ hi=>if_neg hi
 rw[bf]at BH hym
 (try((repeat(revert hN;revert N;apply Pn.out));refine wk (tw @a6 (tw @a0 (tw @a1 (tw @a5 (tw @ag (tw @qv (tw @hk (tw @tl (tw @SO (tw @hym (tw @BH @fQ.eq_1))))))))))) ?_;(repeat(refine Pn.mk ?_;intro N hN))))
 refine aI (fun m env st=>∃(i:Nat) (out:Nat->Int) (Q:List Nat) (p:Id),m=k-i/\env 8=.int .i64 (i:Int)/\env 7=.own p 0 Q.length/\st.get p=some ⟨true,1,Q.map eN⟩/\st.get o=some ⟨true,1,dQ out k⟩/\o.bq<p.bq/\p.bq<st.next/\AF k bs f y out Q i/\i<=Q.length) k ⟨0,_,[y],⟨239007001,st_a.next+1+1⟩,by omega,by(simp only[go_sem, ↓reduceIte,Nat.reduceEqDiff,Nat.reduceAdd,Nat.reduceSub,Nat.reduceLeDiff,reduceCtorEq])<;>rfl,by(simp only[go_sem, ↓reduceIte,Nat.reduceEqDiff,Nat.reduceAdd,Nat.reduceSub,Nat.reduceLeDiff,reduceCtorEq])<;>rfl,by(simp only[go_sem, ↓reduceIte,Nat.reduceEqDiff,Nat.reduceAdd,Nat.reduceSub,Nat.reduceLeDiff,reduceCtorEq])<;>rfl,sd @qv,by(try dsimp only);omega,by(try dsimp only);omega,AF.start hy,by simp⟩ ?_
 rintro n env_b st_b ⟨i,out,Q,p,rfl,b8,b7,bgp,bgo,dY,hpn,hB,hiq⟩ eS
 have b0:=eS 0 (by kernel_rfl)
 have b5:=eS 5 (by kernel_rfl)
 simp only[go_sem, ↓reduceIte,Nat.reduceEqDiff,Nat.reduceAdd,Nat.reduceSub,Nat.reduceLeDiff,reduceCtorEq,a6,a0,a1,a5,fQ]at b0 b5
 clear eS
 have SF:=hB.len
 have SU:=dD out k
 have hqm:(Q.map eN).length=Q.length:=by simp
 have si:=dq hpn
 have kG:=dq (i:=o) (n:=st_b.next) (by omega)
 by_cases hi:(i:Int)<(Q.length:Int)
 ·have fP:i<Q.length:=by omega
  have lh:(Q.map eN)[i]? =some (eN Q[i]):=by simp[fP]
  have MZ:=hB.lt _ (List.getElem_mem fP)
  obtain⟨vt,OA⟩:∃vt,vt=Q[i]:=⟨_,rfl⟩
  rw[<-OA]at lh MZ
  have hA:=C9 (cnt:=k) (bs:=bs) (m:=bs.length) MZ
  have Lv:(vt:Int)<(k:Int):=by omega
  have mb:=rC bs bs.length vt
  have hme:∀x,x<(iT bs bs.length vt).length->(iT bs bs.length vt).getD x 0<bs.length/\EN bs ((iT bs bs.length vt).getD x 0) vt:=fun x hx=>by
   rw[List.getD_eq_getElem?_getD,List.getElem?_eq_getElem hx]
   exact rD.1 (List.getElem_mem hx)
  have QZ:∀e∈iT bs bs.length vt,∃x,x<(iT bs bs.length vt).length/\(iT bs bs.length vt).getD x 0=e:=fun e he=>by
   obtain⟨x,hx,rfl⟩:=List.getElem_of_mem he
   exact⟨x,hx,by rw[List.getD_eq_getElem?_getD,List.getElem?_eq_getElem hx];rfl⟩
  generalize hIn:iT bs bs.length vt=I at *
  unfold O0 at hA
  by_cases Tz:I=[]
  ·rw[if_pos Tz]at hA
   have hI1:I.length=0:=by rw[Tz];rfl
   (try((repeat(revert hN;revert N;apply Pn.out));refine wk (tw @b0 (tw @b5 (tw @b7 (tw @b8 (tw @bgp (tw @hi (tw @lh (tw @hqm (tw @eN.eq_1 @fQ.eq_1))))))))) ?_;(repeat(refine Pn.mk ?_;intro N hN))))
   refine aI (fun n env st=>∃x:Nat,n=(I.length)-x/\x<=(I.length)/\env 10=.int .i64 (x:Int)/\(∃(iN:Nat->Int) (Q':List Nat) (p':Id),env 7=.own p' 0 Q'.length/\st.get p'=some ⟨true,1,Q'.map eN⟩/\st.get o=some ⟨true,1,dQ iN k⟩/\o.bq<p'.bq/\p'.bq<st.next/\AF k bs f y iN Q' i/\(∃h:i<Q'.length,Q'[i]=vt)/\(∀z,z<x->0<fG bs f (I.getD z 0) (bI bs (I.getD z 0) vt)->0<=iN (bI bs (I.getD z 0) vt)))) (I.length) ⟨0,by omega,by omega,sl (tw @b0 (tw @b5 (tw @b8 @fQ.eq_1))),⟨out,Q,p,sd @b7,sd @bgp,sd @bgo,dY,by(try dsimp only);omega,hB,⟨fP,OA.symm⟩,fun z hz=>by omega⟩⟩ ?_
   rintro n_c env_c st_c ⟨x,rfl,cle,jB,cI0⟩ cfr
   have c0:=cfr 0 (by kernel_rfl);have c5:=cfr 5 (by kernel_rfl);have c8:=cfr 8 (by kernel_rfl);have c9:=cfr 9 (by kernel_rfl)
   simp only[go_sem, ↓reduceIte,Nat.reduceEqDiff,Nat.reduceAdd,Nat.reduceSub,Nat.reduceLeDiff,reduceCtorEq,b0,b5,b8,fQ]at c0 c5 c8 c9
   clear cfr
   obtain⟨iN,Q',p',c7,Ib,x7,DI,Oo,dC,⟨xz,qu⟩,KF⟩:=cI0
   have Ur:=dC.len
   have O3:=dD iN k
   have Oq:(Q'.map eN).length=Q'.length:=by simp
   have zF:=dq Oo
   have mh:=dq (i:=o) (n:=st_c.next) (by omega)
   have x1:=cP DI
   have hx:¬(x:Int)<((0:Nat):Int):=by omega
   have hxe:x=I.length:=by omega
   have hw:IntKind.i64.wrap ((i:Int)+1)=((i+1:Nat):Int):=aA (by omega)
   (try((repeat(revert hN;revert N;apply Pn.out));refine wk (tw @jB (tw @c0 (tw @c5 (tw @c8 (tw @c9 (tw @c7 (tw @hx (tw @hA (tw @Lv @fQ.eq_1))))))))) ?_;(repeat(refine Pn.mk ?_;intro N hN))))
   refine⟨_,?_,i+1,iN,Q',p',rfl,sd (tw @jB (tw @c0 (tw @c5 (tw @c8 (tw @c9 @hw))))),sd @c7,sd @Ib,sd @x7,DI,by(try dsimp only);omega,dC.next xz fun e he hr=>?_,by omega⟩
   ·omega
   ·rw[qu,hIn]at he
    rw[qu]at hr ⊢
    obtain⟨z,hz,rfl⟩:=QZ e he
    exact KF z (by omega) hr
  ·rw[if_neg Tz]at hA
   have qp:(I.map eN).length=I.length:=by simp
   (try((repeat(revert hN;revert N;apply Pn.out));refine wk (tw @b0 (tw @b5 (tw @b7 (tw @b8 (tw @bgp (tw @hi (tw @lh (tw @hqm (tw @eN.eq_1 @fQ.eq_1))))))))) ?_;(repeat(refine Pn.mk ?_;intro N hN))))
   refine aI (fun n env st=>∃x:Nat,n=(I.length)-x/\x<=(I.length)/\env 10=.int .i64 (x:Int)/\(∃(iN:Nat->Int) (Q':List Nat) (p':Id),env 7=.own p' 0 Q'.length/\st.get p'=some ⟨true,1,Q'.map eN⟩/\st.get o=some ⟨true,1,dQ iN k⟩/\o.bq<p'.bq/\p'.bq<st.next/\AF k bs f y iN Q' i/\(∃h:i<Q'.length,Q'[i]=vt)/\(∀z,z<x->0<fG bs f (I.getD z 0) (bI bs (I.getD z 0) vt)->0<=iN (bI bs (I.getD z 0) vt)))) (I.length) ⟨0,by omega,by omega,sl (tw @b0 (tw @b5 (tw @b8 @fQ.eq_1))),⟨out,Q,p,sd @b7,sd @bgp,sd @bgo,dY,by(try dsimp only);omega,hB,⟨fP,OA.symm⟩,fun z hz=>by omega⟩⟩ ?_
   rintro n_c env_c st_c ⟨x,rfl,cle,jB,cI0⟩ cfr
   have c0:=cfr 0 (by kernel_rfl);have c5:=cfr 5 (by kernel_rfl);have c8:=cfr 8 (by kernel_rfl);have c9:=cfr 9 (by kernel_rfl)
   simp only[go_sem, ↓reduceIte,Nat.reduceEqDiff,Nat.reduceAdd,Nat.reduceSub,Nat.reduceLeDiff,reduceCtorEq,b0,b5,b8,fQ]at c0 c5 c8 c9
   clear cfr
   obtain⟨iN,Q',p',c7,Ib,x7,DI,Oo,dC,⟨xz,qu⟩,KF⟩:=cI0
   have Ur:=dC.len
   have O3:=dD iN k
   have Oq:(Q'.map eN).length=Q'.length:=by simp
   have zF:=dq Oo
   have mh:=dq (i:=o) (n:=st_c.next) (by omega)
   have x1:=cP DI
   by_cases hx:(x:Int)<(I.length:Int)
   ·have ib:∀{e:Env} {gg:Rows} {nx:Nat},(e 10=.int .i64 (IntKind.i64.wrap ((x:Int)+1)))->(∃(iN:Nat->Int) (Q':List Nat) (p':Id),e 7=.own p' 0 Q'.length/\gg p'=some ⟨true,1,Q'.map eN⟩/\gg o=some ⟨true,1,dQ iN k⟩/\o.bq<p'.bq/\p'.bq<nx/\AF k bs f y iN Q' i/\(∃h:i<Q'.length,Q'[i]=vt)/\(∀z,z<(x+1)->0<fG bs f (I.getD z 0) (bI bs (I.getD z 0) vt)->0<=iN (bI bs (I.getD z 0) vt)))->∃m0,m0<(I.length)-x/\∃x:Nat,m0=(I.length)-x/\x<=(I.length)/\e 10=.int .i64 (x:Int)/\(∃(iN:Nat->Int) (Q':List Nat) (p':Id),e 7=.own p' 0 Q'.length/\gg p'=some ⟨true,1,Q'.map eN⟩/\gg o=some ⟨true,1,dQ iN k⟩/\o.bq<p'.bq/\p'.bq<nx/\AF k bs f y iN Q' i/\(∃h:i<Q'.length,Q'[i]=vt)/\(∀z,z<x->0<fG bs f (I.getD z 0) (bI bs (I.getD z 0) vt)->0<=iN (bI bs (I.getD z 0) vt))):=fun x1 x2=>⟨_,by omega,x+1,rfl,by omega,(by rw[x1,aA (by omega)]),x2⟩
    have P0:x<I.length:=by omega
    have NR:(I.map eN)[x]? =some (eN (I.getD x 0)):=getD_map eN P0
    obtain⟨he,pJ⟩:=hme x P0
    obtain⟨e,Sr⟩:∃e,e=I.getD x 0:=⟨_,rfl⟩
    rw[<-Sr]at NR he pJ
    have iL:=uk he
    have hq:=oL ok (v:=vt) he
    have Q3:=oM ok he pJ
    have Ou:=JN k bs f hs e (bI bs e vt) he
    have QL:=ok e he
    have mW:IntKind.i64.wrap (((cm bs e).a:Int)+((cm bs e).b:Int))=((cm bs e).a:Int)+((cm bs e).b:Int):=aV (by omega)
    have oF:IntKind.i64.wrap (((cm bs e).a:Int)+((cm bs e).b:Int)-(vt:Int))=(bI bs e vt:Int):=by
     rw[aV (by omega)]
     unfold bI
     rcases pJ with h1|h1
     ·rw[if_pos h1];omega
     ·rw[if_neg fun h2=>QL.2.2 (h2.trans h1.symm)];omega
    have PR:(bI bs e vt:Int)<(k:Int):=by omega
    have N8:=dH (f:=iN) hq
    have Lf:=dH (f:=iN) MZ
    rw[fQ]at Ou
    have BJ:=dC.up i xz
    rw[qu]at BJ
    have jM:=dC.lo vt MZ
    have I6:IntKind.i64.wrap (iN vt+1)=iN vt+1:=aV (by omega)
    rw[bf]at N8 Lf
    generalize w9:cm bs e=b at *
    by_cases j0:iN (bI bs e vt)<0
    ·by_cases fS:0<fG bs f e (bI bs e vt)
     ·have hV:=dC.visit ok xz (e:=e) he (by rw[qu];exact pJ) (by rw[qu];exact j0) (by rw[qu];exact fS)
      rw[qu]at hV
      have dO:(dQ iN k).set (bI bs e vt) (bf (iN vt+1))=dQ (fun v=>if v=bI bs e vt then iN vt+1 else iN v) k:=k8 hq (if_pos rfl) fun v _ hv=>if_neg hv
      rw[bf]at dO
      have e1:Q'.length+1<=16777216:=by omega
      (repeat(first|((repeat(revert hN;revert N;apply Pn.out));refine wk (tw @jB (tw @c0 (tw @c5 (tw @c8 (tw @c9 (tw @c7 (tw @Ib (tw @x7 (tw @hx (tw @hA (tw @qp (tw @NR (tw @Lv (tw @iL (tw @mW (tw @oF (tw @PR (tw @N8 (tw @Lf (tw @j0 (tw @fS (tw @I6 (tw @dO (tw @Oq (tw @O3 (tw @zF (tw @mh (tw @x1 (tw @e1 (tw @eN.eq_1 (tw @aC.eq_1 @fQ.eq_1))))))))))))))))))))))))))))))) ?_;(repeat(refine Pn.mk ?_;intro N hN)))|((try apply Or.inl);refine⟨_,aj.x (Ou) (sd (tw @jB (tw @c0 (tw @c5 (tw @c8 (tw @c9 (tw @c7 (tw @Ib (tw @x7 (tw @hx (tw @hA (tw @qp (tw @NR (tw @Lv (tw @iL (tw @mW (tw @oF (tw @PR (tw @N8 (tw @Lf (tw @j0 (tw @fS (tw @I6 (tw @dO (tw @Oq (tw @O3 (tw @zF (tw @mh (tw @x1 (tw @e1 (tw @eN.eq_1 (tw @aC.eq_1 @fQ.eq_1)))))))))))))))))))))))))))))))),?_⟩;refine hN _ _ ?_;clear hN N)))
      exact ib (sd (tw @jB (tw @c0 (tw @c5 (tw @c8 @c9))))) (⟨_,Q'++[bI bs e vt],⟨239020003,st_c.next+1+1+1+1+1+1⟩,by rw[List.length_append];simp only[go_sem, ↓reduceIte,Nat.reduceEqDiff,Nat.reduceAdd,Nat.reduceSub,Nat.reduceLeDiff,reduceCtorEq,List.length_cons,List.length_nil],by rw[List.map_append,List.map_cons,List.map_nil];simp only[go_sem, ↓reduceIte,Nat.reduceEqDiff,Nat.reduceAdd,Nat.reduceSub,Nat.reduceLeDiff,reduceCtorEq,eN],sd (tw @mh @x1),by(try dsimp only);omega,by(try dsimp only);omega,hV,⟨by simp;omega,by rw[List.getElem_append_left xz];exact qu⟩,fun z hz hr=>by
       by_cases Rj:z=x
       ·subst Rj
        rw[<-Sr,if_pos rfl]
        have:=(dC.iff vt MZ).2 (by rw[<-qu];exact List.getElem_mem xz)
        omega
       ·have:=KF z (by omega) hr
        split
        ·have:=(dC.iff vt MZ).2 (by rw[<-qu];exact List.getElem_mem xz)
         omega
        ·exact this⟩)
     ·(repeat(first|((repeat(revert hN;revert N;apply Pn.out));refine wk (tw @jB (tw @c0 (tw @c5 (tw @c8 (tw @c9 (tw @c7 (tw @Ib (tw @x7 (tw @hx (tw @hA (tw @qp (tw @NR (tw @Lv (tw @iL (tw @mW (tw @oF (tw @PR (tw @N8 (tw @j0 (tw @fS (tw @O3 (tw @zF (tw @mh (tw @x1 (tw @eN.eq_1 (tw @aC.eq_1 @fQ.eq_1)))))))))))))))))))))))))) ?_;(repeat(refine Pn.mk ?_;intro N hN)))|((try apply Or.inl);refine⟨_,aj.x (Ou) (sd (tw @jB (tw @c0 (tw @c5 (tw @c8 (tw @c9 (tw @c7 (tw @Ib (tw @x7 (tw @hx (tw @hA (tw @qp (tw @NR (tw @Lv (tw @iL (tw @mW (tw @oF (tw @PR (tw @N8 (tw @j0 (tw @fS (tw @O3 (tw @zF (tw @mh (tw @x1 (tw @eN.eq_1 (tw @aC.eq_1 @fQ.eq_1))))))))))))))))))))))))))),?_⟩;refine hN _ _ ?_;clear hN N)))
      exact ib (sd (tw @jB (tw @c0 (tw @c5 (tw @c8 @c9))))) (⟨iN,Q',p',sd @c7,sd (tw @Ib @zF),sd (tw @x7 @mh),DI,by(try dsimp only);omega,dC,⟨xz,qu⟩,fun z hz hr=>by
       by_cases Rj:z=x
       ·subst Rj;rw[<-Sr]at hr;exact absurd hr fS
       ·exact KF z (by omega) hr⟩)
    ·(repeat(first|((repeat(revert hN;revert N;apply Pn.out));refine wk (tw @jB (tw @c0 (tw @c5 (tw @c8 (tw @c9 (tw @c7 (tw @Ib (tw @x7 (tw @hx (tw @hA (tw @qp (tw @NR (tw @Lv (tw @iL (tw @mW (tw @oF (tw @PR (tw @N8 (tw @j0 (tw @O3 (tw @zF (tw @mh (tw @x1 (tw @eN.eq_1 (tw @aC.eq_1 @fQ.eq_1))))))))))))))))))))))))) ?_;(repeat(refine Pn.mk ?_;intro N hN)))|((try apply Or.inl);refine⟨_,aj.x (Ou) (sd (tw @jB (tw @c0 (tw @c5 (tw @c8 (tw @c9 (tw @c7 (tw @Ib (tw @x7 (tw @hx (tw @hA (tw @qp (tw @NR (tw @Lv (tw @iL (tw @mW (tw @oF (tw @PR (tw @N8 (tw @j0 (tw @O3 (tw @zF (tw @mh (tw @x1 (tw @eN.eq_1 (tw @aC.eq_1 @fQ.eq_1)))))))))))))))))))))))))),?_⟩;refine hN _ _ ?_;clear hN N)))
     exact ib (sd (tw @jB (tw @c0 (tw @c5 (tw @c8 @c9))))) (⟨iN,Q',p',sd @c7,sd (tw @Ib @zF),sd (tw @x7 @mh),DI,by(try dsimp only);omega,dC,⟨xz,qu⟩,fun z hz hr=>by
      by_cases Rj:z=x
      ·subst Rj;rw[<-Sr];omega
      ·exact KF z (by omega) hr⟩)
   ·have hxe:x=I.length:=by omega
    have hw:IntKind.i64.wrap ((i:Int)+1)=((i+1:Nat):Int):=aA (by omega)
    (try((repeat(revert hN;revert N;apply Pn.out));refine wk (tw @jB (tw @c0 (tw @c5 (tw @c8 (tw @c9 (tw @c7 (tw @hx (tw @hA (tw @qp (tw @Lv @fQ.eq_1)))))))))) ?_;(repeat(refine Pn.mk ?_;intro N hN))))
    refine⟨_,?_,i+1,iN,Q',p',rfl,sd (tw @jB (tw @c0 (tw @c5 (tw @c8 (tw @c9 @hw))))),sd @c7,sd @Ib,sd @x7,DI,by(try dsimp only);omega,dC.next xz fun e he hr=>?_,by omega⟩
    ·omega
    ·rw[qu,hIn]at he
     rw[qu]at hr ⊢
     obtain⟨z,hz,rfl⟩:=QZ e he
     exact KF z (by omega) hr
 ·(try((repeat(revert hN;revert N;apply Pn.out));refine wk (tw @b0 (tw @b5 (tw @b7 (tw @b8 (tw @hi @fQ.eq_1))))) ?_;(repeat(refine Pn.mk ?_;intro N hN))))
  have sH:gp st_b.get 6 (.own o 0 k)=some (.sl (dQ out k)):=uv bgo (by rw[SU];omega) (by rw[List.drop_zero,List.take_of_length_le (by rw[SU];omega)];exact J1)
  exact⟨_,rfl,_,by simp only[go_sem, ↓reduceIte,Nat.reduceEqDiff,Nat.reduceAdd,Nat.reduceSub,Nat.reduceLeDiff,reduceCtorEq,fA];exact sH,out,rfl,hB.done ok (by omega)⟩
end Go.Proofs.YtgoelphibofcmaaGreat.V

namespace Go.Proofs.YtgoelphibofcmaaGreat.V
open Go.RowKit
attribute [local irreducible] dG wpOps gz Call
attribute [local go_sem] aL fU eV gw gr cK upd cw K.av cU AV.cells AV.cell rowOf rowsOf part ld rowAt bJ cr dK ep iC bR dj eF gq fh dz ew dh de ec ee bV bh cX bU cZ cY eu ez ev cW cj di er bS aQ db cG iA bz cN bW aX dn aZ dL AV.undef bG bK ef eo dW ea cJ eE eH cD eB eA da dc List.getD_cons_zero List.getD_cons_succ List.getD_nil List.all_cons List.all_nil Bool.and_true Bool.true_and Bool.and_self Bool.not_true Bool.not_false Option.map_some Option.map_none Option.bind_some Option.bind_none List.length_cons List.length_nil List.take_succ_cons List.take_zero List.take_nil List.drop_succ_cons List.drop_zero List.drop_nil List.head?_cons List.map_cons List.map_nil List.getElem?_cons_zero List.getElem?_cons_succ List.cons_append List.nil_append List.append_nil List.length_map List.set_cons_zero List.set_cons_succ eq_self Int.toNat_natCast Int.natCast_nonneg and_self true_and and_true decide_true decide_false Bool.false_eq_true Nat.zero_add Nat.add_zero List.contains_cons List.contains_nil Bool.or_false Bool.false_or beq_self_eq_true ne_eq not_true_eq_false not_false_eq_true Id.mk.injEq false_and and_false Nat.le_refl List.length_append beq_true beq_false Bool.not_eq_eq_eq_not or_false false_or dX ai aq aH bj bE cu aW br aU bp cV bP
def Pv:CL (List Nat):=fun g cs x ids=>(x=[]/\cs=[.cC]/\ids=[])∨∃id,cs=[.own id 0 x.length]/\0<x.length/\g id=some ⟨true,1,x.map eN⟩/\ids=[id]
theorem M7:xg Pv 1 where
 frame:=fun h hf=>by
  rcases h with h|⟨id,h1,h0,h2,h3⟩
  ·exact .inl h
  ·subst h3;exact .inr ⟨id,h1,h0,(hf id (by simp)).trans h2,rfl⟩
 len:=fun h=>by rcases h with⟨_,h,_⟩|⟨id,h,_⟩<;>subst h<;>rfl
 cell:=fun h=>by rcases h with⟨_,h,_⟩|⟨id,h,_⟩<;>subst h<;>rfl
 live:=fun h i hi=>by
  rcases h with⟨_,_,h⟩|⟨id,h1,h0,h2,h3⟩
  ·subst h;cases hi
  ·subst h3
   have:i=id:=by simpa using hi
   subst this
   exact⟨_,h2,rfl,by simp[rI]⟩
 small:=by simp[rI]
theorem OH {g:Rows} {rows:List (List AV)} {xs:List (List Nat)} {ids:List Id} (n:Nat) (h:eD Pv g rows xs ids):dV (dX g) (n+2) rows=some (xs.map fun l=>[O0 l]):=
 h.fz (fun {cs x ids} h=>by
  rcases h with⟨h0,h1,_⟩|⟨id,h1,h0,h2,_⟩
  ·subst h0 h1;rw[ai,aq,aW];rfl
  ·have gU:x≠[]:=by rintro rfl;simp at h0
   subst h1
   rw[ai,aq,ik (e:=eN) (sz:=1) (by simp[dX,h2]) rfl fun a=>fzN _ n a]
   simp[O0,gU])
theorem eD.Rw {α:Type} {R:CL α} {sz:Nat} {g:Rows} {rows:List (List AV)} {xs:List α} {ids:List Id} (ok:xg R sz) (h:eD R g rows xs ids) (mc:ids.Nodup) (k:Nat) (hk:k<xs.length):
  ∃cs ic,rows[k]? =some cs/\R g cs xs[k] ic/\(∀i∈ic,i∈ids)/\∀(g':Rows) pT x' P4,R g' pT x' P4->(∀i∈ids,i∉ic->g' i=g i)->P4.Nodup->(∀i∈P4,i∉ids)->∃DP,eD R g' (rows.set k pT) (xs.set k x') DP/\DP.Nodup/\∀i∈DP,i∈P4∨i∈ids:=by
 obtain⟨r1,cs,r2,i1,ic,i2,rfl,rfl,rfl,h3,h4,h5⟩:=h.split k hk
 obtain⟨n1,n2,n3⟩:=List.nodup_append.1 mc
 obtain⟨nc,n5,n4⟩:=List.nodup_append.1 n2
 refine⟨cs,ic,by simp,h4,fun i hi=>by simp[hi],fun g' pT x' P4 hR hf hn' ke=>⟨i1++(P4++i2),?_,?_,fun i hi=>?_⟩⟩
 ·have e:xs.set r1.length x'=xs.take r1.length++x'::xs.drop (r1.length+1):=by rw[List.set_eq_take_append_cons_drop,if_pos hk]
  have e2:(r1++cs::r2).set r1.length pT=r1++pT::r2:=by simp
  rw[e,e2]
  refine(h3.frame ok fun i hi=>hf i (by simp[hi]) fun hc=>n3 i hi i (by simp[hc]) rfl).app (.cons hR (h5.frame ok fun i hi=>hf i (by simp[hi]) fun hc=>n4 i hc i hi rfl))
 ·rw[List.nodup_append,List.nodup_append]
  refine⟨n1,⟨hn',n5,fun x hx y hy he=>?_⟩,fun x hx y hy he=>?_⟩
  ·subst he;exact ke x hx (by simp[hy])
  ·subst he
   rcases List.mem_append.1 hy with hy|hy
   ·exact ke x hy (by simp[hx])
   ·exact n3 x hx x (by simp[hy]) rfl
 ·rcases List.mem_append.1 hi with hi|hi
  ·exact .inr (by simp[hi])
  ·rcases List.mem_append.1 hi with hi|hi
   ·exact .inl hi
   ·exact .inr (by simp[hi])
def qO (A:Id) (lo:Nat) (L:List (List Nat)) (g:Rows) (nx:Nat):Prop:=∃rows ids,g A=some ⟨true,1,rows⟩/\eD Pv g rows L ids/\ids.Nodup/\∀i∈ids,lo<i.bq/\i.bq<nx
def bw (cnt:Nat) (bs:List PB) (A F:Id):List AV:=[.int .i64 cnt,.sl (bs.map aC),.own A 0 cnt,.own F 0 bs.length]
def lq (cnt:Nat) (bs:List PB) (m:Nat):List (List Nat):=(List.range cnt).map fun v=>iT bs m v
theorem jt (cnt:Nat) (bs:List PB) (m:Nat):(lq cnt bs m).length=cnt:=by simp[lq]
structure n9 (cnt:Nat) (bs:List PB) (f:Nat->Int) (X A F:Id) (g:Rows) (nx:Nat):Prop where
 x:g X=some ⟨true,4,[bw cnt bs A F]⟩
 a:qO A F.bq (lq cnt bs bs.length) g nx
 f:g F=some ⟨true,1,dQ f bs.length⟩
 xa:X.bq<A.bq
 af:A.bq<F.bq
 fn:F.bq<nx
theorem qO.fz {A:Id} {lo cnt:Nat} {bs:List PB} {m nx n:Nat} {g:Rows} (h:qO A lo (lq cnt bs m) g nx):V.fz (dX g) (n+3) (.own A 0 cnt)=some (.sl (p9 cnt bs m)):=by
 obtain⟨rows,ids,h1,h2,_,_⟩:=h
 have hl:=h2.len
 rw[jt]at hl
 rw[gZ]
 simp only[dX,h1,Option.map_some,if_true]
 rw[if_pos (by omega),List.drop_zero,List.take_of_length_le (by omega)]
 have:=OH n h2
 rw[this]
 simp[lq,p9]
theorem n9.fz {cnt:Nat} {bs:List PB} {f:Nat->Int} {X A F:Id} {g:Rows} {nx:Nat} (h:n9 cnt bs f X A F g nx):V.fz (dX g) 6 (.ptr X 0 0)=some (.cQ (fQ cnt bs f)):=by
 have hF:dX g F=some ⟨true,1,dQ f bs.length⟩:=by simp[dX,h.f]
 have hX:dX g X=some ⟨true,4,[bw cnt bs A F]⟩:=by simp[dX,h.x]
 have hf:V.fz (dX g) 5 (.own F 0 bs.length)=some (.sl (dQ f bs.length)):=by
  rw[gZ]
  simp only[hF,if_true]
  rw[if_pos (by rw[dD];omega),List.drop_zero,List.take_of_length_le (by rw[dD];omega),As];rfl
 have ha:=h.a.fz (n:=2)
 rw[bp]
 simp only[hX,if_true,List.getElem?_cons_zero,List.drop_zero,bw,ai,aq,aH,cu,ha,hf,Option.map_some,fQ]
theorem Gt (cnt:Nat) (bs:List PB):lq cnt bs 0=List.replicate cnt []:=by
 refine List.ext_getElem? fun i=>?_
 simp only[lq,List.getElem?_map,List.getElem?_replicate]
 by_cases h:i<cnt
 ·rw[List.getElem?_range h,if_pos h];rfl
 ·rw[List.getElem?_eq_none (by simpa using h),if_neg h];rfl
theorem yS (g:Rows):∀n:Nat,eD Pv g (List.replicate n [.cC]) (List.replicate n []) []
 |0=>.nil
 |n+1=>.cons (i1:=[]) (.inl ⟨rfl,rfl,rfl⟩) (yS g n)
def xF (cnt:Nat) (bs:List PB) (m:Nat):List (List Nat):=(lq cnt bs m).set (cm bs m).a (iT bs m (cm bs m).a++[m])
theorem BP {cnt:Nat} {bs:List PB} {m v:Nat} (hv:v<cnt) (gU:(cm bs m).a≠v):(xF cnt bs m)[v]? =some (iT bs m v):=by
 unfold xF
 rw[List.getElem?_set_ne gU]
 simp[lq,hv]
theorem Gs {cnt:Nat} {bs:List PB} {m:Nat} (ha:(cm bs m).a<cnt) (hb:(cm bs m).b<cnt) (gU:(cm bs m).a≠(cm bs m).b):(xF cnt bs m).set (cm bs m).b (iT bs m (cm bs m).b++[m])=lq cnt bs (m+1):=by
 refine List.ext_getElem? fun i=>?_
 by_cases hi:i<cnt
 ·have hr:(lq cnt bs (m+1))[i]? =some (iT bs (m+1) i):=by simp[lq,hi]
  rw[hr,Gu]
  by_cases h1:(cm bs m).b=i
  ·rw[List.getElem?_set,if_pos h1,if_pos (by simp[xF,jt];omega),if_pos (.inr h1),h1]
  ·rw[List.getElem?_set_ne h1]
   by_cases h2:(cm bs m).a=i
   ·unfold xF
    rw[List.getElem?_set,if_pos h2,if_pos (by rw[jt];omega),if_pos (.inl h2),h2]
   ·rw[BP hi h2,if_neg (fun h=>h.elim h2 h1),List.append_nil]
 ·rw[List.getElem?_eq_none (by simp[xF,jt];omega),List.getElem?_eq_none (by rw[jt];omega)]
theorem kQ {α:Type} {l:List α} {k:Nat} {x:α} (h:l[k]? =some x) (hk:k<l.length):l[k]=x:=by
 rw[List.getElem?_eq_getElem hk]at h;exact Option.some.inj h
theorem Fz {A K:Id} {lo Rt nx k j:Nat} {L:List (List Nat)} {La:List Nat} {g:Rows} {rows:List (List AV)} {ids:List Id} (hR:eD Pv g rows L ids) (mc:ids.Nodup) (nR:∀i∈ids,lo<i.bq/\i.bq<Rt) (hA:A.bq<=lo) (hL:L[k]? =some La) (hK1:Rt<=K.bq) (N1:K.bq<nx) (jM:lo<Rt):
  ∃cs,rows[k]? =some cs/\((La=[]/\cs=[.cC])∨∃id:Id,cs=[.own id 0 La.length]/\0<La.length/\g id=some ⟨true,1,La.map eN⟩/\id.bq<Rt/\lo<id.bq)/\
   ∀g':Rows,g' A=some ⟨true,1,rows.set k [.own K 0 (La.length+1)]⟩->g' K=some ⟨true,1,La.map eN++[[.int .i64 j]]⟩->(∀i:Id,i.bq<Rt->(i=A)=False->(∀id,cs=[.own id 0 La.length]->(i=id)=False)->g' i=g i)->qO A lo (L.set k (La++[j])) g' nx:=by
 have hk:k<L.length:=(List.getElem?_eq_some_iff.1 hL).1
 have TB:=kQ hL hk
 obtain⟨cs,ic,dw,PF,QT,vP⟩:=hR.Rw M7 mc k hk
 rw[TB]at PF
 refine⟨cs,dw,?_,fun g' h1 h2 h3=>?_⟩
 ·rcases PF with⟨h1,h2,_⟩|⟨id,h1,h2,h3,h4⟩
  ·exact .inl ⟨h1,h2⟩
  ·subst h4
   have:=nR id (QT id (by simp))
   exact .inr ⟨id,h1,h2,h3,this.2,this.1⟩
 ·obtain⟨DP,q1,q2,q3⟩:=vP g' [.own K 0 (La.length+1)] (La++[j]) [K] (.inr ⟨K,by simp,by simp,by rw[h2];simp[eN],rfl⟩) (fun i hi SD=>by
   refine h3 i (nR i hi).2 ?_ fun id hid=>?_
   ·simp only[eq_iff_iff,iff_false];rintro rfl;have:=nR _ hi;omega
   ·simp only[eq_iff_iff,iff_false]
    rintro rfl
    rcases PF with⟨_,h4,_⟩|⟨jU,h4,_,_,h5⟩
    ·rw[hid]at h4;cases h4
    ·rw[hid]at h4
     simp only[List.cons.injEq,AV.own.injEq,and_true]at h4
     rw[h5,h4]at SD
     exact SD (by simp)) (by simp) fun i hi hc=>by
   rw[List.mem_singleton.1 hi]at hc;have:=nR _ hc;omega
  refine⟨_,DP,h1,q1,q2,fun i hi=>?_⟩
  rcases q3 i hi with h|h
  ·rw[List.mem_singleton.1 h];omega
  ·have:=nR i h;omega
theorem Mo {P:Program} {Q:Ex->Env->au->Prop} {c:VC} {env:Env} {σ:au} (I:Env->au->Prop) (h2:∀e s,I e s->Q .normal e s) (h1:∀N':Env->au->Prop,(∀e s,I e s->N' e s)->dG (Call P) c (dn N' Q) env σ):dG (Call P) c Q env σ:=by
 refine jA (fun _ _ _ _ h=>h) aG c _ _ env σ (fun x e s h=>?_) (h1 I fun _ _ h=>h)
 cases x with
 |normal=>exact h2 e s h
 |exit id=>exact h
 |ret=>exact h
end Go.Proofs.YtgoelphibofcmaaGreat.V

namespace Go.Proofs.YtgoelphibofcmaaGreat.V
open Go.RowKit
attribute [local irreducible] dG wpOps gz Call
attribute [local go_sem] aL fU eV gw gr cK upd cw K.av cU AV.cells AV.cell rowOf rowsOf part ld rowAt bJ cr dK ep iC bR dj eF gq fh dz ew dh de ec ee bV bh cX bU cZ cY eu ez ev cW cj di er bS aQ db cG iA bz cN bW aX dn aZ dL AV.undef bG bK ef eo dW ea cJ eE eH cD eB eA da dc List.getD_cons_zero List.getD_cons_succ List.getD_nil List.all_cons List.all_nil Bool.and_true Bool.true_and Bool.and_self Bool.not_true Bool.not_false Option.map_some Option.map_none Option.bind_some Option.bind_none List.length_cons List.length_nil List.take_succ_cons List.take_zero List.take_nil List.drop_succ_cons List.drop_zero List.drop_nil List.head?_cons List.map_cons List.map_nil List.getElem?_cons_zero List.getElem?_cons_succ List.cons_append List.nil_append List.append_nil List.length_map List.set_cons_zero List.set_cons_succ Nat.reduceMul eq_self Int.toNat_natCast Int.natCast_nonneg and_self true_and and_true decide_true decide_false Bool.false_eq_true Nat.zero_add Nat.add_zero List.contains_cons List.contains_nil Bool.or_false Bool.false_or beq_self_eq_true Nat.reduceBEq ne_eq not_true_eq_false not_false_eq_true Id.mk.injEq false_and and_false Nat.reduceLT Int.reduceLE Int.reduceLT Int.reduceToNat Int.reduceNeg Int.reduceAdd Nat.le_refl List.length_append beq_true beq_false Bool.not_eq_eq_eq_not or_false false_or dX ai aq aH bj bE cu aW br aU bp cV bP
theorem Je (cnt:Nat) (hn:cnt<=1048576) (bs:List PB) (ok:ny cnt bs) (oE:bs.length<=1048576) (σ:au):
  Call Tryz.prog 237 [.int .i64 cnt,.sl (bs.map aC)] σ fun r σ'=>∃X A F,r=.ptr X 0 0/\σ.next<=X.bq/\n9 cnt bs (fun _=>0) X A F σ'.get σ'.next:=by
 refine HI Nz rfl fun hl=>?_
 try simp only[q]
 clear hl
 have jI:(0:Int)<=(cnt:Int):=by omega
 have pU:(cnt:Int)<=((16777216:Nat):Int):=by omega
 have Qz:(0:Int)<=(bs.length:Int):=by omega
 have Kv:(bs.length:Int)<=((16777216:Nat):Int):=by omega
 have hz:List.replicate bs.length [AV.int .i64 0]=dQ (fun _=>0) bs.length:=by
  refine List.ext_getElem? fun i=>?_
  by_cases h:i<bs.length
  ·rw[dH h,List.getElem?_replicate,if_pos h];rfl
  ·rw[List.getElem?_eq_none (by simp;omega),List.getElem?_eq_none (by rw[dD];omega)]
 (try((repeat(revert hN;revert N;apply Pn.out));refine wk (tw @jI (tw @pU (tw @Qz (tw @Kv (tw @Int.le_refl @hz))))) ?_;(repeat(refine Pn.mk ?_;intro N hN))))
 obtain⟨X,hX⟩:∃X:Id,X=⟨237001003,σ.next+1⟩:=⟨_,rfl⟩
 obtain⟨A,hA⟩:∃X:Id,X=⟨237002002,σ.next+1+1⟩:=⟨_,rfl⟩
 obtain⟨F,hF⟩:∃X:Id,X=⟨237003003,σ.next+1+1+1⟩:=⟨_,rfl⟩
 have hXA:X.bq<A.bq:=by rw[hX,hA];(try dsimp only);omega
 have hAF:A.bq<F.bq:=by rw[hA,hF];(try dsimp only);omega
 have hXs:σ.next<=X.bq:=by rw[hX];(try dsimp only);omega
 refine aI (fun n env st=>∃j:Nat,n=(bs.length)-j/\j<=(bs.length)/\env 6=.int .i64 (j:Int)/\env 5=(.ptr X 0 0)/\st.get X=some ⟨true,4,[bw cnt bs A F]⟩/\st.get F=some ⟨true,1,dQ (fun _=>0) bs.length⟩/\(qO A F.bq (lq cnt bs j) st.get st.next/\F.bq<st.next)) (bs.length) ⟨0,by omega,by omega,by(try simp only[go_sem, ↓reduceIte,Nat.reduceEqDiff,Nat.reduceAdd,Nat.reduceSub,Nat.reduceLeDiff,reduceCtorEq,hX,hF,hA,bw,hz]);try rfl,by(try simp only[go_sem, ↓reduceIte,Nat.reduceEqDiff,Nat.reduceAdd,Nat.reduceSub,Nat.reduceLeDiff,reduceCtorEq,hX,hF,hA,bw,hz]);try rfl,by(try simp only[go_sem, ↓reduceIte,Nat.reduceEqDiff,Nat.reduceAdd,Nat.reduceSub,Nat.reduceLeDiff,reduceCtorEq,hX,hF,hA,bw,hz]);try rfl,by(try simp only[go_sem, ↓reduceIte,Nat.reduceEqDiff,Nat.reduceAdd,Nat.reduceSub,Nat.reduceLeDiff,reduceCtorEq,hX,hF,hA,bw,hz]);try rfl,⟨⟨List.replicate cnt [.cC],[],by rw[hA];(simp only[go_sem, ↓reduceIte,Nat.reduceEqDiff,Nat.reduceAdd,Nat.reduceSub,Nat.reduceLeDiff,reduceCtorEq])<;>rfl,by rw[Gt];exact yS _ _,List.nodup_nil,fun i hi=>by cases hi⟩,by rw[hF];(try dsimp only);omega⟩⟩ ?_
 rintro n_a env_a st_a ⟨j,rfl,ale,a6,a5,ag0,ag1,j9⟩ dp
 have a0:=dp 0 (by kernel_rfl);have a1:=dp 1 (by kernel_rfl)
 simp only[go_sem, ↓reduceIte,Nat.reduceEqDiff,Nat.reduceAdd,Nat.reduceSub,Nat.reduceLeDiff,reduceCtorEq,hX,hF,hA,bw,hz]at a0 a1
 clear dp
 obtain⟨⟨rows,ids,ag,hR,mc,nR⟩,hFn⟩:=j9
 have x1:=cP hXA
 have x2:=cP hAF
 have x3:=cP (a:=X) (b:=F) (by omega)
 have vX:=dq (i:=X) (n:=st_a.next) (by omega)
 have vA:=dq (i:=A) (n:=st_a.next) (by omega)
 have vF:=dq (i:=F) (n:=st_a.next) (by omega)
 by_cases hj:(j:Int)<(bs.length:Int)
 ·have ck:∀{e:Env} {gg:Rows} {nx:Nat},(e 6=.int .i64 (IntKind.i64.wrap ((j:Int)+1)))->(e 5=(.ptr X 0 0))->(gg X=some ⟨true,4,[bw cnt bs A F]⟩)->(gg F=some ⟨true,1,dQ (fun _=>0) bs.length⟩)->(qO A F.bq (lq cnt bs (j+1)) gg nx/\F.bq<nx)->∃m0,m0<(bs.length)-j/\∃j:Nat,m0=(bs.length)-j/\j<=(bs.length)/\e 6=.int .i64 (j:Int)/\e 5=(.ptr X 0 0)/\gg X=some ⟨true,4,[bw cnt bs A F]⟩/\gg F=some ⟨true,1,dQ (fun _=>0) bs.length⟩/\(qO A F.bq (lq cnt bs j) gg nx/\F.bq<nx):=fun x1 x2 x3 x4 x5=>⟨_,by omega,j+1,rfl,by omega,(by rw[x1,aA (by omega)]),x2,x3,x4,x5⟩
  have iO:j<bs.length:=by omega
  have iL:=uk iO
  obtain⟨ha1,QA,gU⟩:=ok j iO
  have gG:((cm bs j).a:Int)<(cnt:Int):=by omega
  have fF:((cm bs j).b:Int)<(cnt:Int):=by omega
  have jf:=Gs (m:=j) ha1 QA gU
  have e1:=rC bs j (cm bs j).a
  have e2:=rC bs j (cm bs j).b
  have QR:(xF cnt bs j)[(cm bs j).b]? =some (iT bs j (cm bs j).b):=BP QA gU
  have QQ:(lq cnt bs j)[(cm bs j).a]? =some (iT bs j (cm bs j).a):=by simp[lq,ha1]
  have Tl:xF cnt bs j=(lq cnt bs j).set (cm bs j).a (iT bs j (cm bs j).a++[j]):=rfl
  have Ku:(xF cnt bs j).length=cnt:=by rw[Tl,List.length_set,jt]
  have jg:=hR.len
  rw[jt]at jg
  obtain⟨cs7,jq,ID,IT⟩:=Fz (A:=A) (K:=⟨237007022,st_a.next+1⟩) (nx:=st_a.next+1+1) (j:=j) hR mc nR (by omega) QQ (by(try dsimp only);omega) (by(try dsimp only);omega) hFn
  rw[<-Tl]at IT
  obtain⟨c7,rfl⟩:∃c,cs7=[c]:=by
   rcases ID with⟨_,h⟩|⟨id,h,_⟩<;>exact⟨_,h⟩
  generalize iT bs j (cm bs j).a=La at *
  generalize iT bs j (cm bs j).b=Lb at *
  generalize cm bs j=b at *
  generalize xF cnt bs j=LA at *
  clear Tl
  (try((repeat(revert hN;revert N;apply Pn.out));refine wk (tw @a6 (tw @a5 (tw @ag0 (tw @ag1 (tw @a0 (tw @a1 (tw @hj (tw @iL (tw @aC.eq_1 (tw @ag (tw @jq (tw @gG (tw @fF (tw @jg (tw @x1 (tw @x2 (tw @x3 (tw @vX (tw @vA (tw @vF @bw.eq_1)))))))))))))))))))) ?_;(repeat(refine Pn.mk ?_;intro N hN))))
  refine EL (fun e s=>e 0=.int .i64 cnt/\e 1=.sl (bs.map aC)/\e 5=.ptr X 0 0/\e 6=.int .i64 j/\s.get X=some ⟨true,4,[bw cnt bs A F]⟩/\s.get F=some ⟨true,1,dQ (fun _=>0) bs.length⟩/\qO A F.bq LA s.get s.next/\F.bq<s.next) ?_ ?_
  ·rintro e1 s1 ⟨m0,m1,m5,m6,mX,mF,⟨rows1,ids1,mg,mR,mnd,mver⟩,mn⟩
   refine hN _ _ ?_
   clear hN N
   have jh:=mR.len
   rw[Ku]at jh
   have wX:=dq (i:=X) (n:=s1.next) (by omega)
   have wA:=dq (i:=A) (n:=s1.next) (by omega)
   have wF:=dq (i:=F) (n:=s1.next) (by omega)
   obtain⟨cs8,jr,IE,IU⟩:=Fz (A:=A) (K:=⟨237008022,s1.next⟩) (nx:=s1.next+1) (j:=j) mR mnd mver (by omega) QR (by(try dsimp only);omega) (by(try dsimp only);omega) mn
   rw[jf]at IU
   obtain⟨c8,rfl⟩:∃c,cs8=[c]:=by
    rcases IE with⟨_,h⟩|⟨id,h,_⟩<;>exact⟨_,h⟩
   (try((repeat(revert hN;revert N;apply Pn.out));refine wk (tw @m0 (tw @m1 (tw @m5 (tw @m6 (tw @mX (tw @mF (tw @hj (tw @iL (tw @aC.eq_1 (tw @mg (tw @jr (tw @gG (tw @fF (tw @jh (tw @x1 (tw @x2 (tw @x3 (tw @wX (tw @wA (tw @wF @bw.eq_1)))))))))))))))))))) ?_;(repeat(refine Pn.mk ?_;intro N hN))))
   refine Mo (fun e s=>e 0=.int .i64 cnt/\e 1=.sl (bs.map aC)/\e 5=.ptr X 0 0/\e 6=.int .i64 j/\s.get X=some ⟨true,4,[bw cnt bs A F]⟩/\s.get F=some ⟨true,1,dQ (fun _=>0) bs.length⟩/\qO A F.bq (lq cnt bs (j+1)) s.get s.next/\F.bq<s.next) ?_ ?_
   ·rintro e2 s2 ⟨p0,p1,p5,p6,pX,pF,pL,pn⟩
    simp only[dn,aZ]
    refine hN _ _ ?_
    clear hN N
    (try((repeat(revert hN;revert N;apply Pn.out));refine wk (tw @p0 (tw @p1 (tw @p5 @p6))) ?_;(repeat(refine Pn.mk ?_;intro N hN))))
    refine ck ?_ ?_ ?_ ?_ (⟨by obtain⟨r,i,q1,q2,q3,q4⟩:=pL;exact⟨r,i,sd @q1,q2,q3,fun x hx=>by have:=q4 x hx;(try dsimp only);omega⟩,by(try dsimp only);omega⟩)
    all_goals simp only[go_sem, ↓reduceIte,Nat.reduceEqDiff,Nat.reduceAdd,Nat.reduceSub,Nat.reduceLeDiff,reduceCtorEq,p0,p1,p5,p6,pX,pF]
   ·intro N hN
    rcases IE with⟨TA,zz⟩|⟨id,zz,hLp,hid,Lg,yi⟩
    ·simp only[List.cons.injEq,and_true]at zz
     subst zz
     subst TA
     refine fe ?_ ?_<;>(try((repeat(revert hN;revert N;apply Pn.out));refine wk (tw @m0 (tw @m1 (tw @m5 (tw @m6 (tw @mX (tw @mF (tw @hj (tw @iL (tw @aC.eq_1 (tw @mg (tw @jr (tw @gG (tw @fF (tw @jh (tw @x1 (tw @x2 (tw @x3 (tw @wX (tw @wA (tw @wF @bw.eq_1)))))))))))))))))))) ?_;(repeat(refine Pn.mk ?_;intro N hN))))<;>(try refine fe ?_ ?_)<;>(try((repeat(revert hN;revert N;apply Pn.out));refine wk (tw @m0 (tw @m1 (tw @m5 (tw @m6 (tw @mX (tw @mF (tw @hj (tw @iL (tw @aC.eq_1 (tw @mg (tw @jr (tw @gG (tw @fF (tw @jh (tw @x1 (tw @x2 (tw @x3 (tw @wX (tw @wA (tw @wF @bw.eq_1)))))))))))))))))))) ?_;(repeat(refine Pn.mk ?_;intro N hN))))<;>(try refine fe ?_ ?_)<;>(try((repeat(revert hN;revert N;apply Pn.out));refine wk (tw @m0 (tw @m1 (tw @m5 (tw @m6 (tw @mX (tw @mF (tw @hj (tw @iL (tw @aC.eq_1 (tw @mg (tw @jr (tw @gG (tw @fF (tw @jh (tw @x1 (tw @x2 (tw @x3 (tw @wX (tw @wA (tw @wF @bw.eq_1)))))))))))))))))))) ?_;(repeat(refine Pn.mk ?_;intro N hN))))<;>(try refine fe ?_ ?_)<;>(try((repeat(revert hN;revert N;apply Pn.out));refine wk (tw @m0 (tw @m1 (tw @m5 (tw @m6 (tw @mX (tw @mF (tw @hj (tw @iL (tw @aC.eq_1 (tw @mg (tw @jr (tw @gG (tw @fF (tw @jh (tw @x1 (tw @x2 (tw @x3 (tw @wX (tw @wA (tw @wF @bw.eq_1)))))))))))))))))))) ?_;(repeat(refine Pn.mk ?_;intro N hN))))<;>(try refine fe ?_ ?_)<;>(try((repeat(revert hN;revert N;apply Pn.out));refine wk (tw @m0 (tw @m1 (tw @m5 (tw @m6 (tw @mX (tw @mF (tw @hj (tw @iL (tw @aC.eq_1 (tw @mg (tw @jr (tw @gG (tw @fF (tw @jh (tw @x1 (tw @x2 (tw @x3 (tw @wX (tw @wA (tw @wF @bw.eq_1)))))))))))))))))))) ?_;(repeat(refine Pn.mk ?_;intro N hN))))<;>(try refine fe ?_ ?_)<;>(try((repeat(revert hN;revert N;apply Pn.out));refine wk (tw @m0 (tw @m1 (tw @m5 (tw @m6 (tw @mX (tw @mF (tw @hj (tw @iL (tw @aC.eq_1 (tw @mg (tw @jr (tw @gG (tw @fF (tw @jh (tw @x1 (tw @x2 (tw @x3 (tw @wX (tw @wA (tw @wF @bw.eq_1)))))))))))))))))))) ?_;(repeat(refine Pn.mk ?_;intro N hN))))
     all_goals
      refine⟨by simp only[go_sem, ↓reduceIte,Nat.reduceEqDiff,Nat.reduceAdd,Nat.reduceSub,Nat.reduceLeDiff,reduceCtorEq,m0,m1,m5,m6,mX,mF,hj,iL,aC,mg,jr,gG,fF,jh,x1,x2,x3,wX,wA,wF,bw],by simp only[go_sem, ↓reduceIte,Nat.reduceEqDiff,Nat.reduceAdd,Nat.reduceSub,Nat.reduceLeDiff,reduceCtorEq,m0,m1,m5,m6,mX,mF,hj,iL,aC,mg,jr,gG,fF,jh,x1,x2,x3,wX,wA,wF,bw],by simp only[go_sem, ↓reduceIte,Nat.reduceEqDiff,Nat.reduceAdd,Nat.reduceSub,Nat.reduceLeDiff,reduceCtorEq,m0,m1,m5,m6,mX,mF,hj,iL,aC,mg,jr,gG,fF,jh,x1,x2,x3,wX,wA,wF,bw],by simp only[go_sem, ↓reduceIte,Nat.reduceEqDiff,Nat.reduceAdd,Nat.reduceSub,Nat.reduceLeDiff,reduceCtorEq,m0,m1,m5,m6,mX,mF,hj,iL,aC,mg,jr,gG,fF,jh,x1,x2,x3,wX,wA,wF,bw],by simp only[go_sem, ↓reduceIte,Nat.reduceEqDiff,Nat.reduceAdd,Nat.reduceSub,Nat.reduceLeDiff,reduceCtorEq,m0,m1,m5,m6,mX,mF,hj,iL,aC,mg,jr,gG,fF,jh,x1,x2,x3,wX,wA,wF,bw],by simp only[go_sem, ↓reduceIte,Nat.reduceEqDiff,Nat.reduceAdd,Nat.reduceSub,Nat.reduceLeDiff,reduceCtorEq,m0,m1,m5,m6,mX,mF,hj,iL,aC,mg,jr,gG,fF,jh,x1,x2,x3,wX,wA,wF,bw],IU _ (by simp only[go_sem, ↓reduceIte,Nat.reduceEqDiff,Nat.reduceAdd,Nat.reduceSub,Nat.reduceLeDiff,reduceCtorEq,m0,m1,m5,m6,mX,mF,hj,iL,aC,mg,jr,gG,fF,jh,x1,x2,x3,wX,wA,wF,bw,List.length_nil]) (by simp only[go_sem, ↓reduceIte,Nat.reduceEqDiff,Nat.reduceAdd,Nat.reduceSub,Nat.reduceLeDiff,reduceCtorEq,m0,m1,m5,m6,mX,mF,hj,iL,aC,mg,jr,gG,fF,jh,x1,x2,x3,wX,wA,wF,bw,List.map_nil,List.nil_append]) (fun i hi Oa fP=>?_),by(try dsimp only);omega⟩
      clear fP
      simp only[go_sem, ↓reduceIte,Nat.reduceEqDiff,Nat.reduceAdd,Nat.reduceSub,Nat.reduceLeDiff,reduceCtorEq,wX,wA,wF,dq hi,Oa]
    ·simp only[List.cons.injEq,and_true]at zz
     subst zz
     have r6:=dq Lg
     have y1:=cP (a:=A) (b:=id) (by omega)
     have y2:=cP (a:=F) (b:=id) yi
     have y3:=cP (a:=X) (b:=id) (by omega)
     have e3:Lb.length+1<=16777216:=by omega
     have z1:(Lb.map eN).length=Lb.length:=by simp
     refine fe ?_ ?_<;>(try((repeat(revert hN;revert N;apply Pn.out));refine wk (tw @m0 (tw @m1 (tw @m5 (tw @m6 (tw @mX (tw @mF (tw @hj (tw @iL (tw @aC.eq_1 (tw @mg (tw @jr (tw @gG (tw @fF (tw @jh (tw @x1 (tw @x2 (tw @x3 (tw @wX (tw @wA (tw @wF (tw @bw.eq_1 (tw @hid (tw @r6 (tw @y1 (tw @y2 (tw @y3 (tw @e3 @z1))))))))))))))))))))))))))) ?_;(repeat(refine Pn.mk ?_;intro N hN))))<;>(try refine fe ?_ ?_)<;>(try((repeat(revert hN;revert N;apply Pn.out));refine wk (tw @m0 (tw @m1 (tw @m5 (tw @m6 (tw @mX (tw @mF (tw @hj (tw @iL (tw @aC.eq_1 (tw @mg (tw @jr (tw @gG (tw @fF (tw @jh (tw @x1 (tw @x2 (tw @x3 (tw @wX (tw @wA (tw @wF (tw @bw.eq_1 (tw @hid (tw @r6 (tw @y1 (tw @y2 (tw @y3 (tw @e3 @z1))))))))))))))))))))))))))) ?_;(repeat(refine Pn.mk ?_;intro N hN))))<;>(try refine fe ?_ ?_)<;>(try((repeat(revert hN;revert N;apply Pn.out));refine wk (tw @m0 (tw @m1 (tw @m5 (tw @m6 (tw @mX (tw @mF (tw @hj (tw @iL (tw @aC.eq_1 (tw @mg (tw @jr (tw @gG (tw @fF (tw @jh (tw @x1 (tw @x2 (tw @x3 (tw @wX (tw @wA (tw @wF (tw @bw.eq_1 (tw @hid (tw @r6 (tw @y1 (tw @y2 (tw @y3 (tw @e3 @z1))))))))))))))))))))))))))) ?_;(repeat(refine Pn.mk ?_;intro N hN))))<;>(try refine fe ?_ ?_)<;>(try((repeat(revert hN;revert N;apply Pn.out));refine wk (tw @m0 (tw @m1 (tw @m5 (tw @m6 (tw @mX (tw @mF (tw @hj (tw @iL (tw @aC.eq_1 (tw @mg (tw @jr (tw @gG (tw @fF (tw @jh (tw @x1 (tw @x2 (tw @x3 (tw @wX (tw @wA (tw @wF (tw @bw.eq_1 (tw @hid (tw @r6 (tw @y1 (tw @y2 (tw @y3 (tw @e3 @z1))))))))))))))))))))))))))) ?_;(repeat(refine Pn.mk ?_;intro N hN))))<;>(try refine fe ?_ ?_)<;>(try((repeat(revert hN;revert N;apply Pn.out));refine wk (tw @m0 (tw @m1 (tw @m5 (tw @m6 (tw @mX (tw @mF (tw @hj (tw @iL (tw @aC.eq_1 (tw @mg (tw @jr (tw @gG (tw @fF (tw @jh (tw @x1 (tw @x2 (tw @x3 (tw @wX (tw @wA (tw @wF (tw @bw.eq_1 (tw @hid (tw @r6 (tw @y1 (tw @y2 (tw @y3 (tw @e3 @z1))))))))))))))))))))))))))) ?_;(repeat(refine Pn.mk ?_;intro N hN))))<;>(try refine fe ?_ ?_)<;>(try((repeat(revert hN;revert N;apply Pn.out));refine wk (tw @m0 (tw @m1 (tw @m5 (tw @m6 (tw @mX (tw @mF (tw @hj (tw @iL (tw @aC.eq_1 (tw @mg (tw @jr (tw @gG (tw @fF (tw @jh (tw @x1 (tw @x2 (tw @x3 (tw @wX (tw @wA (tw @wF (tw @bw.eq_1 (tw @hid (tw @r6 (tw @y1 (tw @y2 (tw @y3 (tw @e3 @z1))))))))))))))))))))))))))) ?_;(repeat(refine Pn.mk ?_;intro N hN))))
     all_goals
      refine⟨by simp only[go_sem, ↓reduceIte,Nat.reduceEqDiff,Nat.reduceAdd,Nat.reduceSub,Nat.reduceLeDiff,reduceCtorEq,m0,m1,m5,m6,mX,mF,hj,iL,aC,mg,jr,gG,fF,jh,x1,x2,x3,wX,wA,wF,bw,hid,r6,y1,y2,y3,e3,z1],by simp only[go_sem, ↓reduceIte,Nat.reduceEqDiff,Nat.reduceAdd,Nat.reduceSub,Nat.reduceLeDiff,reduceCtorEq,m0,m1,m5,m6,mX,mF,hj,iL,aC,mg,jr,gG,fF,jh,x1,x2,x3,wX,wA,wF,bw,hid,r6,y1,y2,y3,e3,z1],by simp only[go_sem, ↓reduceIte,Nat.reduceEqDiff,Nat.reduceAdd,Nat.reduceSub,Nat.reduceLeDiff,reduceCtorEq,m0,m1,m5,m6,mX,mF,hj,iL,aC,mg,jr,gG,fF,jh,x1,x2,x3,wX,wA,wF,bw,hid,r6,y1,y2,y3,e3,z1],by simp only[go_sem, ↓reduceIte,Nat.reduceEqDiff,Nat.reduceAdd,Nat.reduceSub,Nat.reduceLeDiff,reduceCtorEq,m0,m1,m5,m6,mX,mF,hj,iL,aC,mg,jr,gG,fF,jh,x1,x2,x3,wX,wA,wF,bw,hid,r6,y1,y2,y3,e3,z1],by simp only[go_sem, ↓reduceIte,Nat.reduceEqDiff,Nat.reduceAdd,Nat.reduceSub,Nat.reduceLeDiff,reduceCtorEq,m0,m1,m5,m6,mX,mF,hj,iL,aC,mg,jr,gG,fF,jh,x1,x2,x3,wX,wA,wF,bw,hid,r6,y1,y2,y3,e3,z1],by simp only[go_sem, ↓reduceIte,Nat.reduceEqDiff,Nat.reduceAdd,Nat.reduceSub,Nat.reduceLeDiff,reduceCtorEq,m0,m1,m5,m6,mX,mF,hj,iL,aC,mg,jr,gG,fF,jh,x1,x2,x3,wX,wA,wF,bw,hid,r6,y1,y2,y3,e3,z1],IU _ (by simp only[go_sem, ↓reduceIte,Nat.reduceEqDiff,Nat.reduceAdd,Nat.reduceSub,Nat.reduceLeDiff,reduceCtorEq,m0,m1,m5,m6,mX,mF,hj,iL,aC,mg,jr,gG,fF,jh,x1,x2,x3,wX,wA,wF,bw,hid,r6,y1,y2,y3,e3,z1,List.length_nil]) (by simp only[go_sem, ↓reduceIte,Nat.reduceEqDiff,Nat.reduceAdd,Nat.reduceSub,Nat.reduceLeDiff,reduceCtorEq,m0,m1,m5,m6,mX,mF,hj,iL,aC,mg,jr,gG,fF,jh,x1,x2,x3,wX,wA,wF,bw,hid,r6,y1,y2,y3,e3,z1,List.map_nil,List.nil_append]) (fun i hi Oa fP=>?_),by(try dsimp only);omega⟩
      have gU:=fP id rfl
      simp only[go_sem, ↓reduceIte,Nat.reduceEqDiff,Nat.reduceAdd,Nat.reduceSub,Nat.reduceLeDiff,reduceCtorEq,wX,wA,wF,dq hi,Oa,gU]
  ·intro N hN
   rcases ID with⟨TA,zz⟩|⟨id,zz,hLp,hid,Lg,yi⟩
   ·simp only[List.cons.injEq,and_true]at zz
    subst zz
    subst TA
    refine fe ?_ ?_<;>(try((repeat(revert hN;revert N;apply Pn.out));refine wk (tw @a6 (tw @a5 (tw @ag0 (tw @ag1 (tw @a0 (tw @a1 (tw @hj (tw @iL (tw @aC.eq_1 (tw @ag (tw @jq (tw @gG (tw @fF (tw @jg (tw @x1 (tw @x2 (tw @x3 (tw @vX (tw @vA (tw @vF @bw.eq_1)))))))))))))))))))) ?_;(repeat(refine Pn.mk ?_;intro N hN))))<;>(try refine fe ?_ ?_)<;>(try((repeat(revert hN;revert N;apply Pn.out));refine wk (tw @a6 (tw @a5 (tw @ag0 (tw @ag1 (tw @a0 (tw @a1 (tw @hj (tw @iL (tw @aC.eq_1 (tw @ag (tw @jq (tw @gG (tw @fF (tw @jg (tw @x1 (tw @x2 (tw @x3 (tw @vX (tw @vA (tw @vF @bw.eq_1)))))))))))))))))))) ?_;(repeat(refine Pn.mk ?_;intro N hN))))<;>(try refine fe ?_ ?_)<;>(try((repeat(revert hN;revert N;apply Pn.out));refine wk (tw @a6 (tw @a5 (tw @ag0 (tw @ag1 (tw @a0 (tw @a1 (tw @hj (tw @iL (tw @aC.eq_1 (tw @ag (tw @jq (tw @gG (tw @fF (tw @jg (tw @x1 (tw @x2 (tw @x3 (tw @vX (tw @vA (tw @vF @bw.eq_1)))))))))))))))))))) ?_;(repeat(refine Pn.mk ?_;intro N hN))))<;>(try refine fe ?_ ?_)<;>(try((repeat(revert hN;revert N;apply Pn.out));refine wk (tw @a6 (tw @a5 (tw @ag0 (tw @ag1 (tw @a0 (tw @a1 (tw @hj (tw @iL (tw @aC.eq_1 (tw @ag (tw @jq (tw @gG (tw @fF (tw @jg (tw @x1 (tw @x2 (tw @x3 (tw @vX (tw @vA (tw @vF @bw.eq_1)))))))))))))))))))) ?_;(repeat(refine Pn.mk ?_;intro N hN))))<;>(try refine fe ?_ ?_)<;>(try((repeat(revert hN;revert N;apply Pn.out));refine wk (tw @a6 (tw @a5 (tw @ag0 (tw @ag1 (tw @a0 (tw @a1 (tw @hj (tw @iL (tw @aC.eq_1 (tw @ag (tw @jq (tw @gG (tw @fF (tw @jg (tw @x1 (tw @x2 (tw @x3 (tw @vX (tw @vA (tw @vF @bw.eq_1)))))))))))))))))))) ?_;(repeat(refine Pn.mk ?_;intro N hN))))<;>(try refine fe ?_ ?_)<;>(try((repeat(revert hN;revert N;apply Pn.out));refine wk (tw @a6 (tw @a5 (tw @ag0 (tw @ag1 (tw @a0 (tw @a1 (tw @hj (tw @iL (tw @aC.eq_1 (tw @ag (tw @jq (tw @gG (tw @fF (tw @jg (tw @x1 (tw @x2 (tw @x3 (tw @vX (tw @vA (tw @vF @bw.eq_1)))))))))))))))))))) ?_;(repeat(refine Pn.mk ?_;intro N hN))))
    all_goals
     refine⟨by simp only[go_sem, ↓reduceIte,Nat.reduceEqDiff,Nat.reduceAdd,Nat.reduceSub,Nat.reduceLeDiff,reduceCtorEq,a6,a5,ag0,ag1,a0,a1,hj,iL,aC,ag,jq,gG,fF,jg,x1,x2,x3,vX,vA,vF,bw],by simp only[go_sem, ↓reduceIte,Nat.reduceEqDiff,Nat.reduceAdd,Nat.reduceSub,Nat.reduceLeDiff,reduceCtorEq,a6,a5,ag0,ag1,a0,a1,hj,iL,aC,ag,jq,gG,fF,jg,x1,x2,x3,vX,vA,vF,bw],by simp only[go_sem, ↓reduceIte,Nat.reduceEqDiff,Nat.reduceAdd,Nat.reduceSub,Nat.reduceLeDiff,reduceCtorEq,a6,a5,ag0,ag1,a0,a1,hj,iL,aC,ag,jq,gG,fF,jg,x1,x2,x3,vX,vA,vF,bw],by simp only[go_sem, ↓reduceIte,Nat.reduceEqDiff,Nat.reduceAdd,Nat.reduceSub,Nat.reduceLeDiff,reduceCtorEq,a6,a5,ag0,ag1,a0,a1,hj,iL,aC,ag,jq,gG,fF,jg,x1,x2,x3,vX,vA,vF,bw],by simp only[go_sem, ↓reduceIte,Nat.reduceEqDiff,Nat.reduceAdd,Nat.reduceSub,Nat.reduceLeDiff,reduceCtorEq,a6,a5,ag0,ag1,a0,a1,hj,iL,aC,ag,jq,gG,fF,jg,x1,x2,x3,vX,vA,vF,bw],by simp only[go_sem, ↓reduceIte,Nat.reduceEqDiff,Nat.reduceAdd,Nat.reduceSub,Nat.reduceLeDiff,reduceCtorEq,a6,a5,ag0,ag1,a0,a1,hj,iL,aC,ag,jq,gG,fF,jg,x1,x2,x3,vX,vA,vF,bw],IT _ (by simp only[go_sem, ↓reduceIte,Nat.reduceEqDiff,Nat.reduceAdd,Nat.reduceSub,Nat.reduceLeDiff,reduceCtorEq,a6,a5,ag0,ag1,a0,a1,hj,iL,aC,ag,jq,gG,fF,jg,x1,x2,x3,vX,vA,vF,bw,List.length_nil]) (by simp only[go_sem, ↓reduceIte,Nat.reduceEqDiff,Nat.reduceAdd,Nat.reduceSub,Nat.reduceLeDiff,reduceCtorEq,a6,a5,ag0,ag1,a0,a1,hj,iL,aC,ag,jq,gG,fF,jg,x1,x2,x3,vX,vA,vF,bw,List.map_nil,List.nil_append]) (fun i hi Oa fP=>?_),by(try dsimp only);omega⟩
     clear fP
     simp only[go_sem, ↓reduceIte,Nat.reduceEqDiff,Nat.reduceAdd,Nat.reduceSub,Nat.reduceLeDiff,reduceCtorEq,vX,vA,vF,dq hi,Oa]
   ·simp only[List.cons.injEq,and_true]at zz
    subst zz
    have r6:=dq Lg
    have y1:=cP (a:=A) (b:=id) (by omega)
    have y2:=cP (a:=F) (b:=id) yi
    have y3:=cP (a:=X) (b:=id) (by omega)
    have e3:La.length+1<=16777216:=by omega
    have z1:(La.map eN).length=La.length:=by simp
    refine fe ?_ ?_<;>(try((repeat(revert hN;revert N;apply Pn.out));refine wk (tw @a6 (tw @a5 (tw @ag0 (tw @ag1 (tw @a0 (tw @a1 (tw @hj (tw @iL (tw @aC.eq_1 (tw @ag (tw @jq (tw @gG (tw @fF (tw @jg (tw @x1 (tw @x2 (tw @x3 (tw @vX (tw @vA (tw @vF (tw @bw.eq_1 (tw @hid (tw @r6 (tw @y1 (tw @y2 (tw @y3 (tw @e3 @z1))))))))))))))))))))))))))) ?_;(repeat(refine Pn.mk ?_;intro N hN))))<;>(try refine fe ?_ ?_)<;>(try((repeat(revert hN;revert N;apply Pn.out));refine wk (tw @a6 (tw @a5 (tw @ag0 (tw @ag1 (tw @a0 (tw @a1 (tw @hj (tw @iL (tw @aC.eq_1 (tw @ag (tw @jq (tw @gG (tw @fF (tw @jg (tw @x1 (tw @x2 (tw @x3 (tw @vX (tw @vA (tw @vF (tw @bw.eq_1 (tw @hid (tw @r6 (tw @y1 (tw @y2 (tw @y3 (tw @e3 @z1))))))))))))))))))))))))))) ?_;(repeat(refine Pn.mk ?_;intro N hN))))<;>(try refine fe ?_ ?_)<;>(try((repeat(revert hN;revert N;apply Pn.out));refine wk (tw @a6 (tw @a5 (tw @ag0 (tw @ag1 (tw @a0 (tw @a1 (tw @hj (tw @iL (tw @aC.eq_1 (tw @ag (tw @jq (tw @gG (tw @fF (tw @jg (tw @x1 (tw @x2 (tw @x3 (tw @vX (tw @vA (tw @vF (tw @bw.eq_1 (tw @hid (tw @r6 (tw @y1 (tw @y2 (tw @y3 (tw @e3 @z1))))))))))))))))))))))))))) ?_;(repeat(refine Pn.mk ?_;intro N hN))))<;>(try refine fe ?_ ?_)<;>(try((repeat(revert hN;revert N;apply Pn.out));refine wk (tw @a6 (tw @a5 (tw @ag0 (tw @ag1 (tw @a0 (tw @a1 (tw @hj (tw @iL (tw @aC.eq_1 (tw @ag (tw @jq (tw @gG (tw @fF (tw @jg (tw @x1 (tw @x2 (tw @x3 (tw @vX (tw @vA (tw @vF (tw @bw.eq_1 (tw @hid (tw @r6 (tw @y1 (tw @y2 (tw @y3 (tw @e3 @z1))))))))))))))))))))))))))) ?_;(repeat(refine Pn.mk ?_;intro N hN))))<;>(try refine fe ?_ ?_)<;>(try((repeat(revert hN;revert N;apply Pn.out));refine wk (tw @a6 (tw @a5 (tw @ag0 (tw @ag1 (tw @a0 (tw @a1 (tw @hj (tw @iL (tw @aC.eq_1 (tw @ag (tw @jq (tw @gG (tw @fF (tw @jg (tw @x1 (tw @x2 (tw @x3 (tw @vX (tw @vA (tw @vF (tw @bw.eq_1 (tw @hid (tw @r6 (tw @y1 (tw @y2 (tw @y3 (tw @e3 @z1))))))))))))))))))))))))))) ?_;(repeat(refine Pn.mk ?_;intro N hN))))<;>(try refine fe ?_ ?_)<;>(try((repeat(revert hN;revert N;apply Pn.out));refine wk (tw @a6 (tw @a5 (tw @ag0 (tw @ag1 (tw @a0 (tw @a1 (tw @hj (tw @iL (tw @aC.eq_1 (tw @ag (tw @jq (tw @gG (tw @fF (tw @jg (tw @x1 (tw @x2 (tw @x3 (tw @vX (tw @vA (tw @vF (tw @bw.eq_1 (tw @hid (tw @r6 (tw @y1 (tw @y2 (tw @y3 (tw @e3 @z1))))))))))))))))))))))))))) ?_;(repeat(refine Pn.mk ?_;intro N hN))))
    all_goals
     refine⟨by simp only[go_sem, ↓reduceIte,Nat.reduceEqDiff,Nat.reduceAdd,Nat.reduceSub,Nat.reduceLeDiff,reduceCtorEq,a6,a5,ag0,ag1,a0,a1,hj,iL,aC,ag,jq,gG,fF,jg,x1,x2,x3,vX,vA,vF,bw,hid,r6,y1,y2,y3,e3,z1],by simp only[go_sem, ↓reduceIte,Nat.reduceEqDiff,Nat.reduceAdd,Nat.reduceSub,Nat.reduceLeDiff,reduceCtorEq,a6,a5,ag0,ag1,a0,a1,hj,iL,aC,ag,jq,gG,fF,jg,x1,x2,x3,vX,vA,vF,bw,hid,r6,y1,y2,y3,e3,z1],by simp only[go_sem, ↓reduceIte,Nat.reduceEqDiff,Nat.reduceAdd,Nat.reduceSub,Nat.reduceLeDiff,reduceCtorEq,a6,a5,ag0,ag1,a0,a1,hj,iL,aC,ag,jq,gG,fF,jg,x1,x2,x3,vX,vA,vF,bw,hid,r6,y1,y2,y3,e3,z1],by simp only[go_sem, ↓reduceIte,Nat.reduceEqDiff,Nat.reduceAdd,Nat.reduceSub,Nat.reduceLeDiff,reduceCtorEq,a6,a5,ag0,ag1,a0,a1,hj,iL,aC,ag,jq,gG,fF,jg,x1,x2,x3,vX,vA,vF,bw,hid,r6,y1,y2,y3,e3,z1],by simp only[go_sem, ↓reduceIte,Nat.reduceEqDiff,Nat.reduceAdd,Nat.reduceSub,Nat.reduceLeDiff,reduceCtorEq,a6,a5,ag0,ag1,a0,a1,hj,iL,aC,ag,jq,gG,fF,jg,x1,x2,x3,vX,vA,vF,bw,hid,r6,y1,y2,y3,e3,z1],by simp only[go_sem, ↓reduceIte,Nat.reduceEqDiff,Nat.reduceAdd,Nat.reduceSub,Nat.reduceLeDiff,reduceCtorEq,a6,a5,ag0,ag1,a0,a1,hj,iL,aC,ag,jq,gG,fF,jg,x1,x2,x3,vX,vA,vF,bw,hid,r6,y1,y2,y3,e3,z1],IT _ (by simp only[go_sem, ↓reduceIte,Nat.reduceEqDiff,Nat.reduceAdd,Nat.reduceSub,Nat.reduceLeDiff,reduceCtorEq,a6,a5,ag0,ag1,a0,a1,hj,iL,aC,ag,jq,gG,fF,jg,x1,x2,x3,vX,vA,vF,bw,hid,r6,y1,y2,y3,e3,z1,List.length_nil]) (by simp only[go_sem, ↓reduceIte,Nat.reduceEqDiff,Nat.reduceAdd,Nat.reduceSub,Nat.reduceLeDiff,reduceCtorEq,a6,a5,ag0,ag1,a0,a1,hj,iL,aC,ag,jq,gG,fF,jg,x1,x2,x3,vX,vA,vF,bw,hid,r6,y1,y2,y3,e3,z1,List.map_nil,List.nil_append]) (fun i hi Oa fP=>?_),by(try dsimp only);omega⟩
     have gU:=fP id rfl
     simp only[go_sem, ↓reduceIte,Nat.reduceEqDiff,Nat.reduceAdd,Nat.reduceSub,Nat.reduceLeDiff,reduceCtorEq,vX,vA,vF,dq hi,Oa,gU]
 ·have gR:j=bs.length:=by omega
  subst gR
  (try((repeat(revert hN;revert N;apply Pn.out));refine wk (tw @a6 (tw @a5 (tw @ag0 (tw @ag1 (tw @a0 (tw @a1 @hj)))))) ?_;(repeat(refine Pn.mk ?_;intro N hN))))
  exact fc (.inl rfl) (by simp only[fm,ig,go_sem, ↓reduceIte,Nat.reduceEqDiff,Nat.reduceAdd,Nat.reduceSub,Nat.reduceLeDiff,reduceCtorEq];rfl) ⟨X,A,F,rfl,hXs,⟨ag0,⟨rows,ids,ag,hR,mc,fun x hx=>by have:=nR x hx;(try dsimp only);omega⟩,ag1,hXA,hAF,by(try dsimp only);omega⟩⟩
end Go.Proofs.YtgoelphibofcmaaGreat.V

namespace Go.Proofs.YtgoelphibofcmaaGreat.V
open Go.RowKit
attribute [local irreducible] dG wpOps gz Call
attribute [local go_sem] aL fU eV gw gr cK upd cw K.av cU AV.cells AV.cell rowOf rowsOf part ld rowAt bJ cr dK ep iC bR dj eF gq fh dz ew dh de ec ee bV bh cX bU cZ cY eu ez ev cW cj di er bS aQ db cG iA bz cN bW aX dn aZ dL AV.undef bG bK ef eo dW ea cJ eE eH cD eB eA da dc List.getD_cons_zero List.getD_cons_succ List.getD_nil List.all_cons List.all_nil Bool.and_true Bool.true_and Bool.and_self Bool.not_true Bool.not_false Option.map_some Option.map_none Option.bind_some Option.bind_none List.length_cons List.length_nil List.take_succ_cons List.take_zero List.take_nil List.drop_succ_cons List.drop_zero List.drop_nil List.head?_cons List.map_cons List.map_nil List.getElem?_cons_zero List.getElem?_cons_succ List.cons_append List.nil_append List.append_nil List.length_map List.set_cons_zero List.set_cons_succ Nat.reduceMul eq_self Int.toNat_natCast Int.natCast_nonneg and_self true_and and_true decide_true decide_false Bool.false_eq_true Nat.zero_add Nat.add_zero List.contains_cons List.contains_nil Bool.or_false Bool.false_or beq_self_eq_true Nat.reduceBEq ne_eq not_true_eq_false not_false_eq_true Id.mk.injEq false_and and_false Nat.reduceLT Int.reduceLE Int.reduceLT Int.reduceToNat Int.reduceNeg Int.reduceAdd Nat.le_refl List.length_append beq_true beq_false Bool.not_eq_eq_eq_not or_false false_or dX ai aq aH bj bE cu aW br aU bp cV bP
theorem qO.frame {A:Id} {lo nx uE:Nat} {L:List (List Nat)} {g g':Rows} (h:qO A lo L g nx) (hA:A.bq<nx) (hf:∀i:Id,i.bq<nx->lo<i.bq∨i=A->g' i=g i) (hn:nx<=uE):qO A lo L g' uE:=by
 obtain⟨rows,ids,h1,h2,h3,h4⟩:=h
 refine⟨rows,ids,(hf A hA (.inr rfl)).trans h1,h2.frame M7 fun i hi=>hf i (h4 i hi).2 (.inl (h4 i hi).1),h3,fun i hi=>?_⟩
 have:=h4 i hi;omega
theorem n9.frame {cnt:Nat} {bs:List PB} {f:Nat->Int} {X A F:Id} {g g':Rows} {nx uE:Nat} (h:n9 cnt bs f X A F g nx) (hf:∀i:Id,i.bq<nx->g' i=g i) (hn:nx<=uE):n9 cnt bs f X A F g' uE:=by
 have h1:=h.xa;have h2:=h.af;have h3:=h.fn
 exact⟨(hf X (by omega)).trans h.x,h.a.frame (by omega) (fun i hi _=>hf i hi) hn,(hf F h3).trans h.f,h1,h2,by omega⟩
theorem n9.Qr {cnt:Nat} {bs:List PB} {f f':Nat->Int} {X A F:Id} {g g':Rows} {nx uE:Nat} (h:n9 cnt bs f X A F g nx) (hF:g' F=some ⟨true,1,dQ f' bs.length⟩) (hf:∀i:Id,i.bq<nx->(i=F)=False->g' i=g i) (hn:nx<=uE):n9 cnt bs f' X A F g' uE:=by
 have h1:=h.xa;have h2:=h.af;have h3:=h.fn
 refine⟨(hf X (by omega) (cP (by omega)).1).trans h.x,h.a.frame (by omega) (fun i hi jM=>hf i hi ?_) hn,hF,h1,h2,by omega⟩
 rcases jM with jM|rfl
 ·exact(cP jM).2
 ·exact(cP h2).1
theorem OQ (cnt:Nat) (bs:List PB) (f:Nat->Int) (hs:Small bs f) (e v:Nat) (he:e<bs.length) (X A F:Id) (σ:au) (nx:Nat) (hS:n9 cnt bs f X A F σ.get nx) (hn:nx<=σ.next):
  Call Tryz.prog 261 [.ptr X 0 0,.int .i64 v,.int .i64 e] σ fun r σ'=>n9 cnt bs (tK bs f e v) X A F σ'.get nx/\σ.next<=σ'.next/\∀i:Id,(i=F)=False->σ'.get i=σ.get i:=by
 refine eW ek rfl fun hl=>?_
 clear hl
 have hX:=hS.x
 have hF:=hS.f
 have hb:=uk he
 have TX:=dH (f:=f) he
 have tl:=dD f bs.length
 obtain⟨⟨s0,s1⟩,s2,s3⟩:=hs e he
 have hei:(e:Int)<(bs.length:Int):=by omega
 have w1:IntKind.i64.wrap (f e+1)=f e+1:=aV (by omega)
 have w2:IntKind.i64.wrap (f e-1)=f e+-1:=by rw[aV (by omega)];omega
 rw[bf]at TX
 unfold tK
 by_cases h:(cm bs e).a=v
 ·have dO:(dQ f bs.length).set e (bf (f e+1))=dQ (fun j=>f j+if j=e then(if (cm bs e).a=v then 1 else -1)else 0) bs.length:=k8 he (by rw[if_pos rfl,if_pos h]) fun i _ hi=>by rw[if_neg hi,Int.add_zero]
  rw[bf]at dO
  generalize Sm:cm bs e=b at *
  have hd:decide ((b.a:Int)=(v:Int))=true:=decide_eq_true (by rw[h])
  (try((repeat(revert hN;revert N;apply Pn.out));refine wk (tw @hX (tw @hF (tw @hb (tw @TX (tw @tl (tw @hei (tw @w1 (tw @dO (tw @hd (tw @aC.eq_1 @bw.eq_1)))))))))) ?_;(repeat(refine Pn.mk ?_;intro N hN))))
  exact fc (.inr rfl) (vs:=[]) rfl ⟨hS.Qr (sd @Nat.zero_add) (fun i hi gU=>sd @gU) (Nat.le_refl _),by(try dsimp only);omega,fun i gU=>sd @gU⟩
 ·have dO:(dQ f bs.length).set e (bf (f e+-1))=dQ (fun j=>f j+if j=e then(if (cm bs e).a=v then 1 else -1)else 0) bs.length:=k8 he (by rw[if_pos rfl,if_neg h]) fun i _ hi=>by rw[if_neg hi,Int.add_zero]
  rw[bf]at dO
  generalize Sm:cm bs e=b at *
  have hd:decide ((b.a:Int)=(v:Int))=false:=decide_eq_false fun hc=>h (by omega)
  (try((repeat(revert hN;revert N;apply Pn.out));refine wk (tw @hX (tw @hF (tw @hb (tw @TX (tw @tl (tw @hei (tw @w2 (tw @dO (tw @hd (tw @aC.eq_1 @bw.eq_1)))))))))) ?_;(repeat(refine Pn.mk ?_;intro N hN))))
  exact fc (.inr rfl) (vs:=[]) rfl ⟨hS.Qr (sd @Nat.zero_add) (fun i hi gU=>sd @gU) (Nat.le_refl _),by(try dsimp only);omega,fun i gU=>sd @gU⟩
structure od (bs:List PB) (out:Nat->Int) (f f':Nat->Int) (x v:Nat):Prop where
 le:∀i,i<bs.length->f' i<=(cm bs i).s/\-(cm bs i).s<=f' i
 cut:∀S:Nat->Bool,F3 S bs f'=F3 S bs f+bi (S x)-bi (S v)
 yL:∀e,e<bs.length->out (cm bs e).a<=out v->out (cm bs e).b<=out v->f' e=f e
section
variable {cnt:Nat} {bs:List PB} {out:Nat->Int} {f f':Nat->Int} {x v y:Nat}
theorem od.start (h:∀i,i<bs.length->f i<=(cm bs i).s/\-(cm bs i).s<=f i):od bs out f f x x:=⟨h,fun S=>by omega,fun _ _ _ _=>rfl⟩
theorem od.step (h:od bs out f f' x v) {e:Nat} (he:e<bs.length) (hi:EN bs e v) (hr:0<fG bs f' e v) (hd:out (bI bs e v)=out v-1):od bs out f (tK bs f' e v) x (bI bs e v):=by
 refine⟨fun i mb=>?_,fun S=>?_,fun i mb ha hb=>?_⟩
 ·have h1:=h.le i mb
  unfold tK
  by_cases Hz:i=e
  ·subst Hz
   rw[if_pos rfl]
   unfold fG at hr
   split at hr<;>rename_i hc
   ·rw[if_pos hc];omega
   ·rw[if_neg hc];omega
  ·rw[if_neg Hz];omega
 ·rw[F4 he hi,h.cut S];omega
 ·have Hz:i≠e:=by
   rintro rfl
   rcases hi with hi|hi
   ·rw[hi]at ha;omega
   ·rw[hi]at hb;omega
  unfold tK
  rw[if_neg Hz,Int.add_zero]
  exact h.yL i mb (by omega) (by omega)
theorem od.goes (h:od bs out f f' x v) (hs:y6 cnt bs f y out) (hv:v<cnt) (h0:0<out v):∃e∈iT bs bs.length v,0<fG bs f' e v/\out (bI bs e v)=out v-1:=by
 obtain⟨e,h1,h2,h3,h4⟩:=hs.down v hv h0
 refine⟨e,rD.2 ⟨h1,h2⟩,?_,h4⟩
 have hf:f' e=f e:=by
  refine h.yL e h1 ?_ ?_
  ·unfold bI at h4
   split at h4
   ·rename_i ha;rw[ha];exact Int.le_refl _
   ·omega
  ·unfold bI at h4
   rcases h2 with h2|h2
   ·rw[if_pos h2]at h4;omega
   ·rw[h2];exact Int.le_refl _
 unfold fG at h3 ⊢
 rw[hf];exact h3
theorem od.done {val:Int} (h:od bs out f f' x y) (hf:jX bs f x y val):jX bs f' x y (val+1):=
 ⟨h.le,fun S hx hy=>by rw[h.cut S,hf.cut S hx hy,hx,hy];simp[bi]⟩
theorem Eu {val:Int} (hs:y6 cnt bs f y out) (ok:ny cnt bs) (hf:jX bs f x y val) (hx:out x<0):∃S:Nat->Bool,S x=true/\S y=false/\val=jd S bs:=by
 refine⟨fun v=>decide (out v<0),decide_eq_true hx,decide_eq_false (by rw[hs.first];omega),hf.full (decide_eq_true hx) (decide_eq_false (by rw[hs.first];omega)) fun i hi tz=>⟨fun h1 h2 hr=>?_,fun h1 h2 hr=>?_⟩⟩
 ·have NQ:=of_decide_eq_true h1
  have CN:=of_decide_eq_false h2
  have:=hs.shut i (cm bs i).a hi (.inl rfl) (by unfold bI;rw[if_pos rfl];omega) hr
  omega
 ·have NQ:=of_decide_eq_true h1
  have CN:=of_decide_eq_false h2
  have:=hs.shut i (cm bs i).b hi (.inr rfl) (by unfold bI;rw[if_neg tz];omega) hr
  omega
end
end Go.Proofs.YtgoelphibofcmaaGreat.V

namespace Go.Proofs.YtgoelphibofcmaaGreat.V
open Go.RowKit
attribute [local irreducible] dG wpOps gz Call
attribute [local go_sem] aL fU eV gw gr cK upd cw K.av cU AV.cells AV.cell rowOf rowsOf part ld rowAt bJ cr dK ep iC bR dj eF gq fh dz ew dh de ec ee bV bh cX bU cZ cY eu ez ev cW cj di er bS aQ db cG iA bz cN bW aX dn aZ dL AV.undef bG bK ef eo dW ea cJ eE eH cD eB eA da dc List.getD_cons_zero List.getD_cons_succ List.getD_nil List.all_cons List.all_nil Bool.and_true Bool.true_and Bool.and_self Bool.not_true Bool.not_false Option.map_some Option.map_none Option.bind_some Option.bind_none List.length_cons List.length_nil List.take_succ_cons List.take_zero List.take_nil List.drop_succ_cons List.drop_zero List.drop_nil List.head?_cons List.map_cons List.map_nil List.getElem?_cons_zero List.getElem?_cons_succ List.cons_append List.nil_append List.append_nil List.length_map List.set_cons_zero List.set_cons_succ Nat.reduceMul eq_self Int.toNat_natCast Int.natCast_nonneg and_self true_and and_true decide_true decide_false Bool.false_eq_true Nat.zero_add Nat.add_zero List.contains_cons List.contains_nil Bool.or_false Bool.false_or beq_self_eq_true Nat.reduceBEq ne_eq not_true_eq_false not_false_eq_true Id.mk.injEq false_and and_false Nat.reduceLT Int.reduceLE Int.reduceLT Int.reduceToNat Int.reduceNeg Int.reduceAdd Nat.le_refl List.length_append beq_true beq_false Bool.not_eq_eq_eq_not or_false false_or dX ai aq aH bj bE cu aW br aU bp cV bP
theorem wM {bs:List PB} {f:Nat->Int} (dB:∀e,e<bs.length->0<=(cm bs e).s/\(cm bs e).s<=4) (h:∀i,i<bs.length->f i<=(cm bs i).s/\-(cm bs i).s<=f i):Small bs f:=fun e he=>by
 have:=dB e he;have:=h e he;omega
theorem qO.at_ {A:Id} {lo nx v:Nat} {L:List (List Nat)} {l:List Nat} {g:Rows} (h:qO A lo L g nx) (hv:L[v]? =some l) (hl:0<l.length):∃(rows:List (List AV)) (id:Id),g A=some ⟨true,1,rows⟩/\rows.length=L.length/\rows[v]? =some [.own id 0 l.length]/\g id=some ⟨true,1,l.map eN⟩/\lo<id.bq/\id.bq<nx:=by
 obtain⟨rows,ids,h1,h2,h3,h4⟩:=h
 have hk:v<L.length:=(List.getElem?_eq_some_iff.1 hv).1
 obtain⟨cs,ic,dw,hR,QT⟩:=h2.at_ v hk
 rw[kQ hv hk]at hR
 rcases hR with⟨h5,_⟩|⟨id,rfl,_,h6,rfl⟩
 ·subst h5;simp at hl
 ·have:=h4 id (QT id (by simp))
  exact⟨rows,id,h1,h2.len,dw,h6,this.1,this.2⟩
theorem NP (cnt:Nat) (hn:cnt<=1048576) (bs:List PB) (ok:ny cnt bs) (oE:bs.length<=1048576) (dB:∀e,e<bs.length->0<=(cm bs e).s/\(cm bs e).s<=4) (f:Nat->Int) (x y:Nat) (hx:x<cnt) (hy:y<cnt) (M3:x≠y) (val:Int) (hf:jX bs f x y val)
  (X A F:Id) (σ:au) (nb:Nat) (hS:n9 cnt bs f X A F σ.get nb) (jf:nb<=σ.next):
  Call Tryz.prog 238 [.ptr X 0 0,.int .i64 x,.int .i64 y] σ fun r σ'=>∃b f',r=.bool b/\n9 cnt bs f' X A F σ'.get nb/\σ.next<=σ'.next/\(∀i:Id,i.bq<nb->(i=F)=False->σ'.get i=σ.get i)/\
   (b=false->f'=f/\∃S:Nat->Bool,S x=true/\S y=false/\val=jd S bs)/\(b=true->jX bs f' x y (val+1)):=by
 refine eW ek rfl fun hl=>?_
 clear hl
 have CX:(x:Int)<(cnt:Int):=by omega
 have hz:∀(g:Rows),(∀i:Id,i.bq<nb->g i=σ.get i)->cL (dX g) 6 [.ptr X 0 0,.int .i64 (y:Int)]=some [.cQ (fQ cnt bs f),.int .i64 y]:=fun g hg=>by
  have:=(hS.frame hg (Nat.le_refl _)).fz
  simp only[ai,aq,this,aH,Option.map_some]
 (try((repeat(revert hN;revert N;apply Pn.out));refine wk @Nat.zero_add ?_;(repeat(refine Pn.mk ?_;intro N hN))))
 refine .inr (aG _ _ _ _ _ (fun r σ1 hq=>?_) ((FH cnt hn bs ok oE f (wM dB hf.le) y hy).x mixed (hz _ (fun i hi=>rfl))))
 obtain⟨⟨out,rfl,Ow⟩,rfl⟩:=hq
 refine hN _ _ ?_
 clear hN N
 have SE:=dH (f:=out) hx
 have tl:=dD out cnt
 by_cases j0:out x<0
 ·(try((repeat(revert hN;revert N;apply Pn.out));refine wk (tw @SE (tw @j0 (tw @CX (tw @tl @bf.eq_1)))) ?_;(repeat(refine Pn.mk ?_;intro N hN))))
  exact fc (.inl rfl) (vs:=[.bool false]) (sd @Nat.zero_add) ⟨false,f,rfl,hS.frame (fun i hi=>rfl) (Nat.le_refl _),by(try dsimp only);omega,fun i _ _=>rfl,fun _=>⟨rfl,Eu Ow ok hf j0⟩,fun h=>by cases h⟩
 (try((repeat(revert hN;revert N;apply Pn.out));refine wk (tw @SE (tw @j0 (tw @CX (tw @tl @bf.eq_1)))) ?_;(repeat(refine Pn.mk ?_;intro N hN))))
 refine aI (fun m env st=>∃(v:Nat) (f':Nat->Int),m=(out v).toNat/\v<cnt/\0<=out v/\env 8=.int .i64 (v:Int)/\od bs out f f' x v/\n9 cnt bs f' X A F st.get nb/\(∀i:Id,i.bq<nb->(i=F)=False->st.get i=σ.get i)/\σ.next<=st.next) (out x).toNat ⟨x,f,rfl,hx,by omega,by(simp only[go_sem, ↓reduceIte,Nat.reduceEqDiff,Nat.reduceAdd,Nat.reduceSub,Nat.reduceLeDiff,reduceCtorEq]),od.start hf.le,hS.frame (fun i hi=>rfl) (Nat.le_refl _),fun i _ _=>rfl,by(try dsimp only);omega⟩ ?_
 rintro m env_b st_b ⟨v,f',rfl,hv,qv,b8,hW,hN1,kq,hle⟩ eS
 have b0:=eS 0 (by kernel_rfl)
 have b2:=eS 2 (by kernel_rfl)
 have b7:=eS 7 (by kernel_rfl)
 simp only[go_sem, ↓reduceIte,Nat.reduceEqDiff,Nat.reduceAdd,Nat.reduceSub,Nat.reduceLeDiff,reduceCtorEq]at b0 b2 b7
 clear eS
 by_cases SK:v=y
 ·have hd:decide ((v:Int)=(y:Int))=true:=decide_eq_true (by rw[SK])
  subst SK
  (try((repeat(revert hN;revert N;apply Pn.out));refine wk (tw @b0 (tw @b2 (tw @b7 (tw @b8 @hd)))) ?_;(repeat(refine Pn.mk ?_;intro N hN))))
  exact fc (.inl rfl) (vs:=[.bool true]) (sd @Nat.zero_add) ⟨true,f',rfl,hN1,by(try dsimp only);omega,kq,fun h=>(by cases h),fun _=>hW.done hf⟩
 have hd:decide ((v:Int)=(y:Int))=false:=decide_eq_false fun h=>SK (by omega)
 have si:0<out v:=by
  have:=Ow.zero v hv
  rcases Int.lt_or_eq_of_le qv with h|h
  ·exact h
  ·exact absurd (this h.symm) SK
 have MO:=hW.goes Ow hv si
 have hIm:∀ed∈iT bs bs.length v,ed<bs.length/\EN bs ed v:=fun ed h=>rD.1 h
 have hIL:(lq cnt bs bs.length)[v]? =some (iT bs bs.length v):=by simp[lq,hv]
 have hIl:=rC bs bs.length v
 generalize iT bs bs.length v=I at *
 have hIp:0<I.length:=by
  obtain⟨ed,h,_⟩:=MO
  exact List.length_pos_of_mem h
 obtain⟨rows,id,hgA,sf,lG,hid,hid1,hid2⟩:=hN1.a.at_ hIL hIp
 rw[jt]at sf
 have hgX:=hN1.x
 have DM:(v:Int)<(cnt:Int):=by omega
 have pK:=dH (f:=out) hv
 have mW:IntKind.i64.wrap (out v-1)=out v-1:=aV (by have:=Ow.lo v hv;omega)
 have qp:(I.map eN).length=I.length:=by simp
 have Lu:=wM dB hW.le
 have kh:∀(g:Rows),(∀i:Id,i.bq<nb->g i=st_b.get i)->∀ed:Nat,cL (dX g) 6 [.ptr X 0 0,.int .i64 (v:Int),.int .i64 (ed:Int)]=some [.cQ (fQ cnt bs f'),.int .i64 v,.int .i64 ed]:=fun g hg ed=>by
  have:=(hN1.frame hg (Nat.le_refl _)).fz
  simp only[ai,aq,this,aH,Option.map_some]
 rw[bf]at pK
 (try((repeat(revert hN;revert N;apply Pn.out));refine wk (tw @b0 (tw @b2 (tw @b7 (tw @b8 @hd)))) ?_;(repeat(refine Pn.mk ?_;intro N hN))))
 refine aI (fun n env st=>∃k:Nat,n=(I.length)-k/\k<=(I.length)/\env 11=.int .i64 (k:Int)/\(∃(tJ EW:Int),env 9=.int .i64 tJ/\env 10=.int .i64 EW/\((tJ<0/\∀z,z<k->¬(0<fG bs f' (I.getD z 0) v/\out (bI bs (I.getD z 0) v)=out v-1))∨∃ed:Nat,ed∈I/\EW=(ed:Int)/\tJ=(bI bs ed v:Int)/\0<fG bs f' ed v/\out (bI bs ed v)=out v-1))/\((∀i:Id,st.get i=st_b.get i)/\st_b.next<=st.next)) (I.length) ⟨0,by omega,by omega,sl (tw @b0 (tw @b2 (tw @b7 @b8))),⟨-1,0,by(simp only[go_sem, ↓reduceIte,Nat.reduceEqDiff,Nat.reduceAdd,Nat.reduceSub,Nat.reduceLeDiff,reduceCtorEq]),by(simp only[go_sem, ↓reduceIte,Nat.reduceEqDiff,Nat.reduceAdd,Nat.reduceSub,Nat.reduceLeDiff,reduceCtorEq]),.inl ⟨by omega,fun z hz=>by omega⟩⟩,⟨fun i=>rfl,by(try dsimp only);omega⟩⟩ ?_
 rintro n_c env_c st_c ⟨k,rfl,cle,nL,cI0,cI1⟩ cfr
 have c0:=cfr 0 (by kernel_rfl);have c2:=cfr 2 (by kernel_rfl);have c7:=cfr 7 (by kernel_rfl);have c8:=cfr 8 (by kernel_rfl)
 simp only[go_sem, ↓reduceIte,Nat.reduceEqDiff,Nat.reduceAdd,Nat.reduceSub,Nat.reduceLeDiff,reduceCtorEq,b0,b2,b7,b8]at c0 c2 c7 c8
 clear cfr
 obtain⟨tJ,EW,c9,jB,IC⟩:=cI0
 obtain⟨me,QC⟩:=cI1
 have DD:=(me X).trans hgX
 have Dz:=(me A).trans hgA
 have zA:=(me id).trans hid
 by_cases hk:(k:Int)<(I.length:Int)
 ·have ib:∀{e:Env} {gg:Rows} {nx:Nat},(e 11=.int .i64 (IntKind.i64.wrap ((k:Int)+1)))->(∃(tJ EW:Int),e 9=.int .i64 tJ/\e 10=.int .i64 EW/\((tJ<0/\∀z,z<(k+1)->¬(0<fG bs f' (I.getD z 0) v/\out (bI bs (I.getD z 0) v)=out v-1))∨∃ed:Nat,ed∈I/\EW=(ed:Int)/\tJ=(bI bs ed v:Int)/\0<fG bs f' ed v/\out (bI bs ed v)=out v-1))->((∀i:Id,gg i=st_b.get i)/\st_b.next<=nx)->∃m0,m0<(I.length)-k/\∃k:Nat,m0=(I.length)-k/\k<=(I.length)/\e 11=.int .i64 (k:Int)/\(∃(tJ EW:Int),e 9=.int .i64 tJ/\e 10=.int .i64 EW/\((tJ<0/\∀z,z<k->¬(0<fG bs f' (I.getD z 0) v/\out (bI bs (I.getD z 0) v)=out v-1))∨∃ed:Nat,ed∈I/\EW=(ed:Int)/\tJ=(bI bs ed v:Int)/\0<fG bs f' ed v/\out (bI bs ed v)=out v-1))/\((∀i:Id,gg i=st_b.get i)/\st_b.next<=nx):=fun x1 x2 x3=>⟨_,by omega,k+1,rfl,by omega,(by rw[x1,aA (by omega)]),x2,x3⟩
  have eZ:k<I.length:=by omega
  have eM:(I.map eN)[k]? =some (eN (I.getD k 0)):=getD_map eN eZ
  have sJ:I.getD k 0∈I:=by rw[List.getD_eq_getElem?_getD,List.getElem?_eq_getElem eZ];exact List.getElem_mem eZ
  obtain⟨he,pJ⟩:=hIm _ sJ
  have Ou:=JN cnt bs f' Lu (I.getD k 0) v he
  have tD:=kh st_c.get (fun i _=>me i) (I.getD k 0)
  have hq:=oL ok (v:=v) he
  have PN:=dH (f:=out) hq
  obtain⟨ed,hed⟩:∃ed,ed=I.getD k 0:=⟨_,rfl⟩
  rw[<-hed]at eM he pJ Ou tD hq PN sJ
  rw[bf]at PN
  rw[eN]at eM
  (try((repeat(revert hN;revert N;apply Pn.out));refine wk (tw @nL (tw @c0 (tw @c2 (tw @c7 (tw @c8 (tw @c9 (tw @jB (tw @hk (tw @DD (tw @Dz (tw @zA (tw @lG (tw @sf (tw @DM (tw @eM (tw @qp @bw.eq_1)))))))))))))))) ?_;(repeat(refine Pn.mk ?_;intro N hN))))
  refine .inl ⟨_,aj.x Ou tD,?_⟩
  refine hN _ _ ?_
  clear hN N
  have stay:∀k',k'=k+1->(¬(0<fG bs f' ed v/\out (bI bs ed v)=out v-1))->((tJ<0/\∀z,z<k'->¬(0<fG bs f' (I.getD z 0) v/\out (bI bs (I.getD z 0) v)=out v-1))∨∃ed:Nat,ed∈I/\EW=(ed:Int)/\tJ=(bI bs ed v:Int)/\0<fG bs f' ed v/\out (bI bs ed v)=out v-1):=fun k' Gj ll=>by
   rcases IC with⟨h1,h2⟩|h
   ·refine .inl ⟨h1,fun z hz=>?_⟩
    by_cases DO:z=k
    ·subst DO;rw[<-hed];exact ll
    ·exact h2 z (by omega)
   ·exact .inr h
  by_cases hr:0<fG bs f' ed v
  ·by_cases PG:out (bI bs ed v)=out v-1
   ·have uc:decide (out (bI bs ed v)=out v-1)=true:=decide_eq_true PG
    have found:∃Qn:Nat,Qn∈I/\(ed:Int)=(Qn:Int)/\(bI bs ed v:Int)=(bI bs Qn v:Int)/\0<fG bs f' Qn v/\out (bI bs Qn v)=out v-1:=⟨ed,sJ,rfl,rfl,hr,PG⟩
    by_cases HA:tJ<0
    ·(try((repeat(revert hN;revert N;apply Pn.out));refine wk (tw @nL (tw @c0 (tw @c2 (tw @c7 (tw @c8 (tw @c9 (tw @jB (tw @hk (tw @DD (tw @Dz (tw @zA (tw @lG (tw @sf (tw @DM (tw @eM (tw @qp (tw @hr (tw @PN (tw @pK (tw @mW (tw @uc (tw @HA @bw.eq_1)))))))))))))))))))))) ?_;(repeat(refine Pn.mk ?_;intro N hN))))
     exact ib (sd (tw @nL (tw @c0 (tw @c2 (tw @c7 @c8))))) (⟨_,_,sd @Nat.zero_add,sd @Nat.zero_add,.inr found⟩) (⟨me,by(try dsimp only);omega⟩)
    ·by_cases dM:(bI bs ed v:Int)<tJ
     ·(try((repeat(revert hN;revert N;apply Pn.out));refine wk (tw @nL (tw @c0 (tw @c2 (tw @c7 (tw @c8 (tw @c9 (tw @jB (tw @hk (tw @DD (tw @Dz (tw @zA (tw @lG (tw @sf (tw @DM (tw @eM (tw @qp (tw @hr (tw @PN (tw @pK (tw @mW (tw @uc (tw @HA (tw @dM @bw.eq_1))))))))))))))))))))))) ?_;(repeat(refine Pn.mk ?_;intro N hN))))
      exact ib (sd (tw @nL (tw @c0 (tw @c2 (tw @c7 @c8))))) (⟨_,_,sd @Nat.zero_add,sd @Nat.zero_add,.inr found⟩) (⟨me,by(try dsimp only);omega⟩)
     ·(try((repeat(revert hN;revert N;apply Pn.out));refine wk (tw @nL (tw @c0 (tw @c2 (tw @c7 (tw @c8 (tw @c9 (tw @jB (tw @hk (tw @DD (tw @Dz (tw @zA (tw @lG (tw @sf (tw @DM (tw @eM (tw @qp (tw @hr (tw @PN (tw @pK (tw @mW (tw @uc (tw @HA (tw @dM @bw.eq_1))))))))))))))))))))))) ?_;(repeat(refine Pn.mk ?_;intro N hN))))
      exact ib (sd (tw @nL (tw @c0 (tw @c2 (tw @c7 @c8))))) (⟨tJ,EW,sd @c9,sd @jB,by
       rcases IC with⟨h1,_⟩|h
       ·exact absurd h1 HA
       ·exact .inr h⟩) (⟨me,by(try dsimp only);omega⟩)
   ·have uc:decide (out (bI bs ed v)=out v-1)=false:=decide_eq_false PG
    (try((repeat(revert hN;revert N;apply Pn.out));refine wk (tw @nL (tw @c0 (tw @c2 (tw @c7 (tw @c8 (tw @c9 (tw @jB (tw @hk (tw @DD (tw @Dz (tw @zA (tw @lG (tw @sf (tw @DM (tw @eM (tw @qp (tw @hr (tw @PN (tw @pK (tw @mW (tw @uc @bw.eq_1))))))))))))))))))))) ?_;(repeat(refine Pn.mk ?_;intro N hN))))
    exact ib (sd (tw @nL (tw @c0 (tw @c2 (tw @c7 @c8))))) (⟨tJ,EW,sd @c9,sd @jB,stay _ rfl fun h=>PG h.2⟩) (⟨me,by(try dsimp only);omega⟩)
  ·(try((repeat(revert hN;revert N;apply Pn.out));refine wk (tw @nL (tw @c0 (tw @c2 (tw @c7 (tw @c8 (tw @c9 (tw @jB (tw @hk (tw @DD (tw @Dz (tw @zA (tw @lG (tw @sf (tw @DM (tw @eM (tw @qp (tw @hr @bw.eq_1))))))))))))))))) ?_;(repeat(refine Pn.mk ?_;intro N hN))))
   exact ib (sd (tw @nL (tw @c0 (tw @c2 (tw @c7 @c8))))) (⟨tJ,EW,sd @c9,sd @jB,stay _ rfl fun h=>hr h.1⟩) (⟨me,by(try dsimp only);omega⟩)
 ·have lj:k=I.length:=by omega
  have TY:∃ed:Nat,ed∈I/\EW=(ed:Int)/\tJ=(bI bs ed v:Int)/\0<fG bs f' ed v/\out (bI bs ed v)=out v-1:=by
   rcases IC with⟨h1,h2⟩|h
   ·exfalso
    obtain⟨ed,he,hq⟩:=MO
    obtain⟨z,hz,rfl⟩:=List.getElem_of_mem he
    refine h2 z (by omega) ?_
    rw[List.getD_eq_getElem?_getD,List.getElem?_eq_getElem hz];exact hq
   ·exact h
  obtain⟨ed,sJ,rfl,rfl,hr,PG⟩:=TY
  obtain⟨he,pJ⟩:=hIm _ sJ
  (try((repeat(revert hN;revert N;apply Pn.out));refine wk (tw @nL (tw @c0 (tw @c2 (tw @c7 (tw @c8 (tw @c9 (tw @jB (tw @hk (tw @DD (tw @Dz (tw @zA (tw @lG (tw @sf (tw @DM (tw @qp @bw.eq_1))))))))))))))) ?_;(repeat(refine Pn.mk ?_;intro N hN))))
  refine .inr (aG _ _ _ _ _ (fun r σ1 hq=>?_) (OQ cnt bs f' Lu ed v he X A F ⟨st_c.get,_⟩ nb (hN1.frame (fun i _=>me i) (Nat.le_refl _)) (by(try dsimp only);omega)))
  obtain⟨Sf,mU,Bz⟩:=hq
  (try dsimp only at mU Bz)
  refine hN _ _ ?_
  clear hN N
  (try((repeat(revert hN;revert N;apply Pn.out));refine wk (tw @nL (tw @c0 (tw @c2 (tw @c7 (tw @c8 @c9))))) ?_;(repeat(refine Pn.mk ?_;intro N hN))))
  refine⟨_,?_,bI bs ed v,tK bs f' ed v,rfl,oL ok he,by omega,sd @Nat.zero_add,hW.step he pJ hr PG,Sf,fun i hi hF=>by rw[Bz i hF,me i,kq i hi hF],by(try dsimp only);omega⟩
  omega
end Go.Proofs.YtgoelphibofcmaaGreat.V

namespace Go.Proofs.YtgoelphibofcmaaGreat.V
open Go.RowKit
attribute [local irreducible] dG wpOps gz Call
attribute [local go_sem] aL fU eV gw gr cK upd cw K.av cU AV.cells AV.cell rowOf rowsOf part ld rowAt bJ cr dK ep iC bR dj eF gq fh dz ew dh de ec ee bV bh cX bU cZ cY eu ez ev cW cj di er bS aQ db cG iA bz cN bW aX dn aZ dL AV.undef bG bK ef eo dW ea cJ eE eH cD eB eA da dc List.getD_cons_zero List.getD_cons_succ List.getD_nil List.all_cons List.all_nil Bool.and_true Bool.true_and Bool.and_self Bool.not_true Bool.not_false Option.map_some Option.map_none Option.bind_some Option.bind_none List.length_cons List.length_nil List.take_succ_cons List.take_zero List.take_nil List.drop_succ_cons List.drop_zero List.drop_nil List.head?_cons List.map_cons List.map_nil List.getElem?_cons_zero List.getElem?_cons_succ List.cons_append List.nil_append List.append_nil List.length_map List.set_cons_zero List.set_cons_succ Nat.reduceMul eq_self Int.toNat_natCast Int.natCast_nonneg and_self true_and and_true decide_true decide_false Bool.false_eq_true Nat.zero_add Nat.add_zero List.contains_cons List.contains_nil Bool.or_false Bool.false_or beq_self_eq_true Nat.reduceBEq ne_eq not_true_eq_false not_false_eq_true Id.mk.injEq false_and and_false Nat.reduceLT Int.reduceLE Int.reduceLT Int.reduceToNat Int.reduceNeg Int.reduceAdd Nat.le_refl List.length_append beq_true beq_false Bool.not_eq_eq_eq_not or_false false_or dX ai aq aH bj bE cu aW br aU bp cV bP
def td (P:Program) (f:Nat) (args:List AV) (R:AV->Prop):Prop:=∀σ:au,Call P f args ⟨V.ro σ.get,σ.next⟩ fun r0 σ'=>∃r',V.fz σ'.get 6 r0=some r'/\R r'
theorem Dr {P:Program} {f:Nat} {args:List AV} {g:Rows} {n:Nat} {R:AV->Prop} (h:Sound P f args ⟨V.ro g,n⟩ fun r0 σ'=>∃r',V.fz σ'.get 6 r0=some r'/\R r'):Sound P f args ⟨g,n⟩ fun r σ'=>R r/\σ'=⟨g,n⟩:=by
 intro hs D ι w vs S U A
 refine(AQ (g0:=g) (K:=R) h (fun _ _ h=>h) S U A).mono ?_
 rintro e w' ⟨r,D',u,rfl,hR,T,S',hr⟩
 exact⟨r,g,n,D',ι,u,rfl,⟨hR,rfl⟩,T,S',U,Nat.le_refl _,hr⟩
theorem td.x {P:Program} (hm:P.follows .mixedOrders=true) {f:Nat} {args:List AV} {R:AV->Prop} (h:td P f args R) {σ:au}:Call P f args σ fun r σ'=>R r/\σ'=σ:=
 gJ (Dr (gj hm (h σ)))
theorem td.body {P:Program} {f:Nat} {args:List AV} {R:AV->Prop} {nt na:Nat} {body:VC} {res:List nI} (hf:lV P f=some ⟨nt,na,body,res⟩) (ha:na=args.length) (h:(∀a∈args,eC a)->∀σ:au,dG (Call P) body (ku res fun r0 σ'=>∃r',V.fz σ'.get 6 r0=some r'/\R r') (cw args) ⟨V.ro σ.get,σ.next⟩):td P f args R:=fun σ=>lY hf ha fun hl=>h hl σ
theorem LN {g:Rows} {rows:List (List AV)} {xs:List (List Nat)} {ids:List Id} (n:Nat) (h:eD Pv g rows xs ids):dV g (n+2) rows=some (xs.map fun l=>[O0 l]):=by
 induction h with
 |nil=>rw[dV];rfl
 |cons h1 _ ih=>
  rename_i x _ _ _ _ _
  rcases h1 with⟨h0,h1,_⟩|⟨id,h1,h0,h2,_⟩
  ·subst h0 h1;rw[dV,ih,ai,aq,aW];rfl
  ·have gU:x≠[]:=by rintro rfl;simp at h0
   subst h1
   rw[dV,ih,ai,aq,ik (e:=eN) (sz:=1) h2 rfl fun a=>fzN _ n a]
   simp[O0,gU]
theorem n9.fz0 {cnt:Nat} {bs:List PB} {f:Nat->Int} {X A F:Id} {g:Rows} {nx:Nat} (h:n9 cnt bs f X A F g nx):V.fz g 5 (.ptr X 0 0)=some (.cQ (fQ cnt bs f)):=by
 have hf:V.fz g 4 (.own F 0 bs.length)=some (.sl (dQ f bs.length)):=by
  rw[gZ]
  simp only[h.f,if_true]
  rw[if_pos (by rw[dD];omega),List.drop_zero,List.take_of_length_le (by rw[dD];omega),As];rfl
 have ha:V.fz g 4 (.own A 0 cnt)=some (.sl (p9 cnt bs bs.length)):=by
  obtain⟨rows,ids,h1,h2,_,_⟩:=h.a
  have hl:=h2.len
  rw[jt]at hl
  rw[gZ]
  simp only[h1,if_true]
  rw[if_pos (by omega),List.drop_zero,List.take_of_length_le (by omega),LN 1 h2]
  simp[lq,p9]
 rw[bp]
 simp only[h.x,if_true,List.getElem?_cons_zero,List.drop_zero,bw,ai,aq,aH,cu,ha,hf,Option.map_some,fQ]
theorem EX {S:Nat->Bool}:∀bs:List PB,(∀b∈bs,b.s<=4)->jd S bs<=4*bs.length
 |[],_=>by simp[jd]
 |b::bs,h=>by
  rw[su]
  have:=EX (S:=S) bs fun x hx=>h x (List.mem_cons_of_mem _ hx)
  have:=h b (by simp)
  simp only[List.length_cons]
  split<;>omega
theorem jX.zero {bs:List PB} {x y:Nat} (h:∀e,e<bs.length->0<=(cm bs e).s/\(cm bs e).s<=4):jX bs (fun _=>0) x y 0:=
 ⟨fun i hi=>by have:=h i hi;omega,fun S _ _=>jS fun i _=>by simp⟩
theorem KO {bs:List PB} {b:PB} (h:b∈bs):∃e,e<bs.length/\cm bs e=b:=by
 obtain⟨e,he,rfl⟩:=List.getElem_of_mem h
 exact⟨e,he,by simp[cm,List.getD_eq_getElem?_getD,he]⟩
theorem GB (cnt:Nat) (hn:cnt<=1048576) (bs:List PB) (ok:ny cnt bs) (oE:bs.length<=1048576) (dB:∀e,e<bs.length->0<=(cm bs e).s/\(cm bs e).s<=4) (x y:Nat) (hx:x<cnt) (hy:y<cnt) (M3:x≠y):
  td Tryz.prog 218 [.int .i64 cnt,.sl (bs.map aC),.int .i64 x,.int .i64 y] fun r=>∃f val,r=.gP [.cQ (fQ cnt bs f),.int .i64 val]/\jX bs f x y val/\∃S:Nat->Bool,S x=true/\S y=false/\val=jd S bs:=by
 refine td.body ek rfl fun hl σ=>?_
 clear hl
 (try((repeat(revert hN;revert N;apply Pn.out));refine wk @Nat.zero_add ?_;(repeat(refine Pn.mk ?_;intro N hN))))
 refine .inr (aG _ _ _ _ _ (fun r σ1 hq=>?_) (Je cnt hn bs ok oE _))
 obtain⟨X,A,F,rfl,hX,hS⟩:=hq
 refine hN _ _ ?_
 clear hN N
 have hS0:∀f val,jX bs f x y val->val<=jd (fun v=>decide (v=x)) bs:=fun f val hf=>hf.bound (decide_eq_true rfl) (decide_eq_false fun h=>M3 h.symm)
 have htot:=EX (S:=fun v=>decide (v=x)) bs fun b hb=>by
  obtain⟨e,he,rfl⟩:=KO hb
  exact(dB e he).2
 generalize jd (fun v=>decide (v=x)) bs=T at *
 (try((repeat(revert hN;revert N;apply Pn.out));refine wk @Nat.zero_add ?_;(repeat(refine Pn.mk ?_;intro N hN))))
 refine aI (fun m env st=>∃(f:Nat->Int) (val:Int),m=(T-val).toNat/\0<=val/\env 10=.ptr X 0 0/\env 11=.int .i64 val/\jX bs f x y val/\n9 cnt bs f X A F st.get σ1.next/\σ1.next<=st.next) T.toNat ⟨_,0,by simp,by omega,by(simp only[go_sem, ↓reduceIte,Nat.reduceEqDiff,Nat.reduceAdd,Nat.reduceSub,Nat.reduceLeDiff,reduceCtorEq]),by(simp only[go_sem, ↓reduceIte,Nat.reduceEqDiff,Nat.reduceAdd,Nat.reduceSub,Nat.reduceLeDiff,reduceCtorEq]),jX.zero dB,hS.frame (fun i hi=>rfl) (Nat.le_refl _),by(try dsimp only);omega⟩ ?_
 rintro m env_b st_b ⟨f,val,rfl,qv,b10,ET,hf,hN1,hle⟩ eS
 have b2:=eS 2 (by kernel_rfl)
 have b3:=eS 3 (by kernel_rfl)
 simp only[go_sem, ↓reduceIte,Nat.reduceEqDiff,Nat.reduceAdd,Nat.reduceSub,Nat.reduceLeDiff,reduceCtorEq]at b2 b3
 clear eS
 (try((repeat(revert hN;revert N;apply Pn.out));refine wk (tw @b2 (tw @b3 @b10)) ?_;(repeat(refine Pn.mk ?_;intro N hN))))
 refine .inr (aG _ _ _ _ _ (fun r σ2 hq=>?_) (NP cnt hn bs ok oE dB f x y hx hy M3 val hf X A F ⟨st_b.get,_⟩ σ1.next hN1 (by(try dsimp only);omega)))
 obtain⟨b,f',rfl,Sf,mU,_,ll,UF⟩:=hq
 (try dsimp only at mU)
 refine hN _ _ ?_
 clear hN N
 cases b with
 |true=>
  have ko:=UF rfl
  have Kv:=hS0 _ _ hf
  have Gg:=hS0 _ _ ko
  have hw:IntKind.i64.wrap (val+1)=val+1:=aV (by omega)
  (try((repeat(revert hN;revert N;apply Pn.out));refine wk (tw @b10 (tw @ET @hw)) ?_;(repeat(refine Pn.mk ?_;intro N hN))))
  exact⟨_,by omega,f',val+1,rfl,by omega,sd @b10,sd (tw @ET @hw),ko,Sf,by(try dsimp only);omega⟩
 |false=>
  obtain⟨rfl,S,h1,h2,h3⟩:=ll rfl
  (try((repeat(revert hN;revert N;apply Pn.out));refine wk (tw @b10 @ET) ?_;(repeat(refine Pn.mk ?_;intro N hN))))
  have hz:=Sf.fz0
  exact⟨[.ptr X 0 0,.int .i64 val],sd @Nat.zero_add,.gP [.cQ (fQ cnt bs f'),.int .i64 val],by simp only[fA,bP,ai,aq,hz,aH,Option.map_some],f',val,rfl,hf,S,h1,h2,h3⟩
theorem GC (cnt:Nat) (hn:cnt<=1048576) (bs:List PB) (ok:ny cnt bs) (oE:bs.length<=1048576) (f:Nat->Int) (hs:Small bs f) (y:Nat) (hy:y<cnt):
  lW Tryz.prog 219 [.cQ (fQ cnt bs f),.int .i64 y] fun r=>∃l:List Nat,r=.sl (l.map eN)/\l.length<=cnt:=by
 refine lW.body ek rfl fun hl n0=>?_
 clear hl
 have hz:∀g:Rows,cL (dX g) 6 [.cQ (fQ cnt bs f),.int .i64 (y:Int)]=some [.cQ (fQ cnt bs f),.int .i64 y]:=fun g=>by simp only[ai,aq,aU,aH,Option.map_some]
 (try((repeat(revert hN;revert N;apply Pn.out));refine wk @Nat.zero_add ?_;(repeat(refine Pn.mk ?_;intro N hN))))
 refine .inr (aG _ _ _ _ _ (fun r σ1 hq=>?_) ((FH cnt hn bs ok oE f hs y hy).x mixed (hz _)))
 obtain⟨⟨out,rfl,Ow⟩,rfl⟩:=hq
 refine hN _ _ ?_
 clear hN N
 (try((repeat(revert hN;revert N;apply Pn.out));refine wk @fQ.eq_1 ?_;(repeat(refine Pn.mk ?_;intro N hN))))
 refine aI (fun n env st=>∃k:Nat,n=(cnt)-k/\k<=(cnt)/\env 7=.int .i64 (k:Int)/\(∃(o:Id) (l:List Nat),env 6=.own o 0 l.length/\st.get o=some ⟨true,1,l.map eN⟩/\o.bq<st.next/\l.length<=k)) (cnt) ⟨0,by omega,by omega,sl @fQ.eq_1,⟨⟨219002000,n0+1+1+1⟩,[],by(simp only[go_sem, ↓reduceIte,Nat.reduceEqDiff,Nat.reduceAdd,Nat.reduceSub,Nat.reduceLeDiff,reduceCtorEq])<;>rfl,by(simp only[go_sem, ↓reduceIte,Nat.reduceEqDiff,Nat.reduceAdd,Nat.reduceSub,Nat.reduceLeDiff,reduceCtorEq])<;>rfl,by(try dsimp only);omega,by simp⟩⟩ ?_
 rintro n_a env_a st_a ⟨k,rfl,ale,a7,j9⟩ dp
 have a0:=dp 0 (by kernel_rfl);have a5:=dp 5 (by kernel_rfl)
 simp only[go_sem, ↓reduceIte,Nat.reduceEqDiff,Nat.reduceAdd,Nat.reduceSub,Nat.reduceLeDiff,reduceCtorEq,fQ]at a0 a5
 clear dp
 obtain⟨o,l,a6,ag,pK,Lk⟩:=j9
 have qv:=dq pK
 have pa:(l.map eN).length=l.length:=by simp
 by_cases hk:(k:Int)<(cnt:Int)
 ·have ck:∀{e:Env} {gg:Rows} {nx:Nat},(e 7=.int .i64 (IntKind.i64.wrap ((k:Int)+1)))->(∃(o:Id) (l:List Nat),e 6=.own o 0 l.length/\gg o=some ⟨true,1,l.map eN⟩/\o.bq<nx/\l.length<=(k+1))->∃m0,m0<(cnt)-k/\∃k:Nat,m0=(cnt)-k/\k<=(cnt)/\e 7=.int .i64 (k:Int)/\(∃(o:Id) (l:List Nat),e 6=.own o 0 l.length/\gg o=some ⟨true,1,l.map eN⟩/\o.bq<nx/\l.length<=k):=fun x1 x2=>⟨_,by omega,k+1,rfl,by omega,(by rw[x1,aA (by omega)]),x2⟩
  have vO:=dH (f:=out) (show k<cnt by omega)
  rw[bf]at vO
  have e1:l.length+1<=16777216:=by omega
  by_cases h0:0<=out k
  ·(try((repeat(revert hN;revert N;apply Pn.out));refine wk (tw @a7 (tw @a0 (tw @a5 (tw @a6 (tw @ag (tw @qv (tw @hk (tw @vO (tw @h0 (tw @e1 (tw @pa @fQ.eq_1))))))))))) ?_;(repeat(refine Pn.mk ?_;intro N hN))))
   exact ck (sd (tw @a7 (tw @a0 (tw @a5 @fQ.eq_1)))) (⟨⟨219007003,st_a.next+1+1⟩,l++[k],by rw[List.length_append];simp only[go_sem, ↓reduceIte,Nat.reduceEqDiff,Nat.reduceAdd,Nat.reduceSub,Nat.reduceLeDiff,reduceCtorEq,List.length_cons,List.length_nil],by rw[List.map_append,List.map_cons,List.map_nil];simp only[go_sem, ↓reduceIte,Nat.reduceEqDiff,Nat.reduceAdd,Nat.reduceSub,Nat.reduceLeDiff,reduceCtorEq,eN],by(try dsimp only);omega,by simp;omega⟩)
  ·(try((repeat(revert hN;revert N;apply Pn.out));refine wk (tw @a7 (tw @a0 (tw @a5 (tw @a6 (tw @ag (tw @qv (tw @hk (tw @vO (tw @h0 (tw @pa @fQ.eq_1)))))))))) ?_;(repeat(refine Pn.mk ?_;intro N hN))))
   exact ck (sd (tw @a7 (tw @a0 (tw @a5 @fQ.eq_1)))) (⟨o,l,sd @a6,sd @ag,by(try dsimp only);omega,by omega⟩)
 ·(try((repeat(revert hN;revert N;apply Pn.out));refine wk (tw @a7 (tw @a0 (tw @a5 (tw @a6 (tw @hk @fQ.eq_1))))) ?_;(repeat(refine Pn.mk ?_;intro N hN))))
  have sH:gp st_a.get 6 (.own o 0 l.length)=some (.sl (l.map eN)):=fY ag rfl fun b=>NM _ 4 b
  exact⟨_,rfl,_,by simp only[go_sem, ↓reduceIte,Nat.reduceEqDiff,Nat.reduceAdd,Nat.reduceSub,Nat.reduceLeDiff,reduceCtorEq,fA];exact sH,l,rfl,by omega⟩
end Go.Proofs.YtgoelphibofcmaaGreat.V

namespace Go.Proofs.YtgoelphibofcmaaGreat.V
open Go.RowKit
attribute [local irreducible] dG wpOps gz Call
attribute [local go_sem] aL fU eV gw gr cK upd cw K.av cU AV.cells AV.cell rowOf rowsOf part ld rowAt bJ cr dK ep iC bR dj eF gq fh dz ew dh de ec ee bV bh cX bU cZ cY eu ez ev cW cj di er bS aQ db cG iA bz cN bW aX dn aZ dL AV.undef bG bK ef eo dW ea cJ eE eH cD eB eA da dc List.getD_cons_zero List.getD_cons_succ List.getD_nil List.all_cons List.all_nil Bool.and_true Bool.true_and Bool.and_self Bool.not_true Bool.not_false Option.map_some Option.map_none Option.bind_some Option.bind_none List.length_cons List.length_nil List.take_succ_cons List.take_zero List.take_nil List.drop_succ_cons List.drop_zero List.drop_nil List.head?_cons List.map_cons List.map_nil List.getElem?_cons_zero List.getElem?_cons_succ List.cons_append List.nil_append List.append_nil List.length_map List.set_cons_zero List.set_cons_succ Nat.reduceMul eq_self Int.toNat_natCast Int.natCast_nonneg and_self true_and and_true decide_true decide_false Bool.false_eq_true Nat.zero_add Nat.add_zero List.contains_cons List.contains_nil Bool.or_false Bool.false_or beq_self_eq_true Nat.reduceBEq ne_eq not_true_eq_false not_false_eq_true Id.mk.injEq false_and and_false Nat.reduceLT Int.reduceLE Int.reduceLT Int.reduceToNat Int.reduceNeg Int.reduceAdd Nat.le_refl List.length_append beq_true beq_false Bool.not_eq_eq_eq_not or_false false_or dX ai aq aH bj bE cu aW br aU bp cV bP
theorem BW (v1 v2:Int) (l1 l2:List Nat) (h1:l1.length<=1048576) (h2:l2.length<=1048576):
  lW Tryz.prog 220 [.int .i64 v1,.sl (l1.map eN),.int .i64 v2,.sl (l2.map eN)] fun r=>∃b,r=.bool b/\(v1<v2->b=true)/\(v2<v1->b=false):=by
 refine lW.body ek rfl fun hl n0=>?_
 clear hl
 have ret:∀{t:Nat} {env:Env} {σ:au} {b:Bool} {x:Ex},(x=.ret∨x=.normal)->env t=.bool b->((v1<v2->b=true)/\(v2<v1->b=false))->ku [.tmp t] (fun r0 σ'=>∃r',gp σ'.get 6 r0=some r'/\∃b,r'=.bool b/\(v1<v2->b=true)/\(v2<v1->b=false)) x env σ:=by
  intro t env σ b x hx he hb
  have:∃vs,fm env σ.get [.tmp t]=some vs/\∃r',gp σ.get 6 (fA vs)=some r'/\∃b,r'=.bool b/\(v1<v2->b=true)/\(v2<v1->b=false):=⟨[env t],rfl,.bool b,by rw[he];exact fK _ _ _,b,rfl,hb⟩
  rcases hx with rfl|rfl
  ·exact this
  ·exact this
 have m1:(l1.map eN).length=l1.length:=by simp
 have m2:(l2.map eN).length=l2.length:=by simp
 by_cases hv:v1=v2
 ·have hd:decide (v1=v2)=true:=decide_eq_true hv
  by_cases Lk:(l1.length:Int)=(l2.length:Int)
  ·have uc:decide ((l1.length:Int)=(l2.length:Int))=true:=decide_eq_true Lk
   have QH:decide (l1.length=l2.length)=true:=decide_eq_true (by omega)
   (try((repeat(revert hN;revert N;apply Pn.out));refine wk (tw @hd (tw @uc (tw @QH (tw @m1 @m2)))) ?_;(repeat(refine Pn.mk ?_;intro N hN))))
   refine aI (fun n env st=>∃k:Nat,n=(l1.length)-k/\k<=(l1.length)/\env 9=.int .i64 (k:Int)) (l1.length) ⟨0,by omega,by omega,sl @Nat.zero_add⟩ ?_
   rintro n_a env_a st_a ⟨k,rfl,ale,a9⟩ dp
   have a1:=dp 1 (by kernel_rfl);have a3:=dp 3 (by kernel_rfl)
   simp only[go_sem, ↓reduceIte,Nat.reduceEqDiff,Nat.reduceAdd,Nat.reduceSub,Nat.reduceLeDiff,reduceCtorEq]at a1 a3
   clear dp
   by_cases hk:(k:Int)<(l1.length:Int)
   ·have ck:∀{e:Env},(e 9=.int .i64 (IntKind.i64.wrap ((k:Int)+1)))->∃m0,m0<(l1.length)-k/\∃k:Nat,m0=(l1.length)-k/\k<=(l1.length)/\e 9=.int .i64 (k:Int):=fun x1=>⟨_,by omega,k+1,rfl,by omega,(by rw[x1,aA (by omega)])⟩
    have g1:(l1.map eN)[k]? =some (eN (l1.getD k 0)):=getD_map eN (by omega)
    have g2:(l2.map eN)[k]? =some (eN (l2.getD k 0)):=getD_map eN (by omega)
    rw[eN]at g1 g2
    by_cases he:((l1.getD k 0:Nat):Int)=((l2.getD k 0:Nat):Int)
    ·have IF:decide (((l1.getD k 0:Nat):Int)=((l2.getD k 0:Nat):Int))=true:=decide_eq_true he
     have TQ:decide (l1.getD k 0=l2.getD k 0)=true:=decide_eq_true (by omega)
     (try((repeat(revert hN;revert N;apply Pn.out));refine wk (tw @a9 (tw @a1 (tw @a3 (tw @hk (tw @m1 (tw @g1 (tw @g2 (tw @IF @TQ)))))))) ?_;(repeat(refine Pn.mk ?_;intro N hN))))
     exact ck (sd (tw @a9 (tw @a1 @a3)))
    ·have IF:decide (((l1.getD k 0:Nat):Int)=((l2.getD k 0:Nat):Int))=false:=decide_eq_false he
     have TQ:decide (l1.getD k 0=l2.getD k 0)=false:=decide_eq_false (by omega)
     (try((repeat(revert hN;revert N;apply Pn.out));refine wk (tw @a9 (tw @a1 (tw @a3 (tw @hk (tw @m1 (tw @g1 (tw @g2 (tw @IF @TQ)))))))) ?_;(repeat(refine Pn.mk ?_;intro N hN))))
     exact ret (.inl rfl) (by simp only[go_sem, ↓reduceIte,Nat.reduceEqDiff,Nat.reduceAdd,Nat.reduceSub,Nat.reduceLeDiff,reduceCtorEq];rfl) ⟨fun h=>by omega,fun h=>by omega⟩
   ·(try((repeat(revert hN;revert N;apply Pn.out));refine wk (tw @a9 (tw @a1 (tw @a3 (tw @hk @m1)))) ?_;(repeat(refine Pn.mk ?_;intro N hN))))
    exact ret (b:=false) (.inl rfl) (sd @Nat.zero_add) ⟨fun h=>by omega,fun h=>by omega⟩
  ·have uc:decide ((l1.length:Int)=(l2.length:Int))=false:=decide_eq_false Lk
   have QH:decide (l1.length=l2.length)=false:=decide_eq_false (by omega)
   (try((repeat(revert hN;revert N;apply Pn.out));refine wk (tw @hd (tw @uc (tw @QH (tw @m1 @m2)))) ?_;(repeat(refine Pn.mk ?_;intro N hN))))
   exact ret (.inl rfl) (by simp only[go_sem, ↓reduceIte,Nat.reduceEqDiff,Nat.reduceAdd,Nat.reduceSub,Nat.reduceLeDiff,reduceCtorEq];rfl) ⟨fun h=>by omega,fun h=>by omega⟩
 ·have hd:decide (v1=v2)=false:=decide_eq_false hv
  (try((repeat(revert hN;revert N;apply Pn.out));refine wk @hd ?_;(repeat(refine Pn.mk ?_;intro N hN))))
  exact ret (b:=decide (v1<v2)) (.inl rfl) (sd @Nat.zero_add) ⟨fun h=>decide_eq_true h,fun h=>decide_eq_false (by omega)⟩
def uK (bs:List PB) (cnt:Nat) (jm:Int) (k:Nat):Prop:=(k=1/\jm= -1)∨(0<=jm/\(∀z,1<=z->z<k->∀S:Nat->Bool,S 0=true->S z=false->jm<=jd S bs)/\∃S:Nat->Bool,S 0=true/\(∃z,z<cnt/\S z=false)/\jm=jd S bs)
theorem jX.nn {bs:List PB} {val:Int} {S:Nat->Bool} (dB:∀e,e<bs.length->0<=(cm bs e).s/\(cm bs e).s<=4) (h:val=jd S bs):0<=val:=by
 rw[h,ve]
 have:=rW (f:=fun _=>0) (g:=fun i=>if S (cm bs i).a=S (cm bs i).b then 0 else(cm bs i).s) (n:=bs.length) fun i hi=>by
  have:=dB i hi
  split<;>omega
 rw[jS fun _ _=>rfl]at this
 exact this
theorem uK.done {bs:List PB} {cnt:Nat} {jm:Int} (hc:2<=cnt) (h:uK bs cnt jm cnt) (t:Int):t<=jm↔kI cnt bs t:=by
 rcases h with⟨h,_⟩|⟨_,h1,S,h2,⟨z,hz,kh⟩,h3⟩
 ·omega
 ·constructor
  ·intro ht S h0 ⟨y,hy,hy2⟩
   have:y≠0:=by rintro rfl;rw[h0]at hy2;cases hy2
   have:=h1 y (by omega) hy S h0 hy2
   omega
  ·intro hH
   rw[h3];exact hH S h2 ⟨z,hz,kh⟩
theorem zJ (cnt:Nat) (h2:2<=cnt) (hn:cnt<=1048576) (bs:List PB) (ok:ny cnt bs) (oE:bs.length<=1048576) (dB:∀e,e<bs.length->0<=(cm bs e).s/\(cm bs e).s<=4):
  td Tryz.prog 194 [.int .i64 cnt,.sl (bs.map aC)] fun r=>∃jm p,r=.gP [.int .i64 jm,p]/\∀t:Int,t<=jm↔kI cnt bs t:=by
 refine td.body ek rfl fun hl σ=>?_
 clear hl
 (try((repeat(revert hN;revert N;apply Pn.out));refine wk @Nat.zero_add ?_;(repeat(refine Pn.mk ?_;intro N hN))))
 have z0:∀(g:Rows) (id:Id),g id=some ⟨true,1,[]⟩->V.fz (dX g) 6 (.own id 0 0)=some (.sl (([]:List Nat).map eN))/\V.fz g 5 (.own id 0 0)=some (.sl (([]:List Nat).map eN)):=fun g id h=>by
  have h':dX g id=some ⟨true,1,[]⟩:=by simp[dX,h]
  constructor
  ·rw[gZ];simp only[h',if_true];rw[if_pos (by simp)];simp[lE]
  ·rw[gZ];simp only[h,if_true];rw[if_pos (by simp)];simp[lE]
 refine aI (fun m env st=>∃(k:Nat) (jm:Int) (l:List Nat) (p:AV),m=cnt-k/\1<=k/\k<=cnt/\env 8=.int .i64 (k:Int)/\env 6=.int .i64 jm/\env 7=p/\V.fz (dX st.get) 6 p=some (.sl (l.map eN))/\V.fz st.get 5 p=some (.sl (l.map eN))/\l.length<=cnt/\uK bs cnt jm k) (cnt-1) ⟨1,-1,[],.own ⟨194002000,σ.next+1+1⟩ 0 0,rfl,by omega,by omega,by(simp only[go_sem, ↓reduceIte,Nat.reduceEqDiff,Nat.reduceAdd,Nat.reduceSub,Nat.reduceLeDiff,reduceCtorEq])<;>rfl,by(simp only[go_sem, ↓reduceIte,Nat.reduceEqDiff,Nat.reduceAdd,Nat.reduceSub,Nat.reduceLeDiff,reduceCtorEq])<;>rfl,by(simp only[go_sem, ↓reduceIte,Nat.reduceEqDiff,Nat.reduceAdd,Nat.reduceSub,Nat.reduceLeDiff,reduceCtorEq])<;>rfl,(z0 _ _ (sd @Nat.zero_add)).1,(z0 _ _ (sd @Nat.zero_add)).2,by simp,.inl ⟨rfl,rfl⟩⟩ ?_
 rintro m env_b st_b ⟨k,jm,l,p,rfl,xd,vM,b8,b6,b7,xe,kh,hl,hB⟩ eS
 have b0:=eS 0 (by kernel_rfl)
 have b1:=eS 1 (by kernel_rfl)
 simp only[go_sem, ↓reduceIte,Nat.reduceEqDiff,Nat.reduceAdd,Nat.reduceSub,Nat.reduceLeDiff,reduceCtorEq]at b0 b1
 clear eS z0
 by_cases hk:(k:Int)<(cnt:Int)
 ·have eZ:k<cnt:=by omega
  have hFl:=GB cnt hn bs ok oE dB 0 k (by omega) eZ (by omega)
  rw[show(((0:Nat):Int))=0 from rfl]at hFl
  (try((repeat(revert hN;revert N;apply Pn.out));refine wk (tw @b0 (tw @b1 (tw @b6 (tw @b7 (tw @b8 @hk))))) ?_;(repeat(refine Pn.mk ?_;intro N hN))))
  refine .inr (aG _ _ _ _ _ (fun r σ1 hq=>?_) (hFl.x mixed))
  obtain⟨⟨f,val,rfl,hf,S,N3,N4,Sg⟩,rfl⟩:=hq
  refine hN _ _ ?_
  clear hN N
  have Lu:=wM dB hf.le
  have sK:=jX.nn (val:=val) dB Sg
  (try((repeat(revert hN;revert N;apply Pn.out));refine wk (tw @b0 (tw @b1 (tw @b6 (tw @b7 @b8)))) ?_;(repeat(refine Pn.mk ?_;intro N hN))))
  refine .inr (aG _ _ _ _ _ (fun r σ1 hq=>?_) ((GC cnt hn bs ok oE f Lu k eZ).x mixed (by simp only[ai,aq,aU,aH,Option.map_some])))
  obtain⟨⟨l',rfl,KC⟩,rfl⟩:=hq
  refine hN _ _ ?_
  clear hN N
  have hw:IntKind.i64.wrap ((k:Int)+1)=((k+1:Nat):Int):=aA (by omega)
  have RG:(∀z,1<=z->z<k->∀S:Nat->Bool,S 0=true->S z=false->val<=jd S bs)->uK bs cnt val (k+1):=fun h=>.inr ⟨sK,fun z xe kh S' h0 h1=>by
   by_cases tD:z=k
   ·subst tD;exact hf.bound h0 h1
   ·exact h z xe (by omega) S' h0 h1,S,N3,⟨k,eZ,N4⟩,Sg⟩
  by_cases j0:jm<0
  ·have Bs:k=1:=by
    rcases hB with⟨h,_⟩|⟨h,_⟩
    ·exact h
    ·omega
   (try((repeat(revert hN;revert N;apply Pn.out));refine wk (tw @b0 (tw @b1 (tw @b6 (tw @b7 (tw @b8 (tw @j0 @hw)))))) ?_;(repeat(refine Pn.mk ?_;intro N hN))))
   refine⟨_,?_,k+1,val,l',.sl (l'.map eN),rfl,by omega,by omega,sd (tw @b8 @hw),sd @Nat.zero_add,sd @Nat.zero_add,cu _ _ _,cu _ _ _,KC,RG fun z h1 h2=>by omega⟩
   omega
  ·have Bs:(∀z,1<=z->z<k->∀S:Nat->Bool,S 0=true->S z=false->jm<=jd S bs)/\∃S:Nat->Bool,S 0=true/\(∃z,z<cnt/\S z=false)/\jm=jd S bs:=by
    rcases hB with⟨_,h⟩|⟨_,h⟩
    ·omega
    ·exact h
   (try((repeat(revert hN;revert N;apply Pn.out));refine wk (tw @b0 (tw @b1 (tw @b6 (tw @b7 (tw @b8 (tw @j0 @hw)))))) ?_;(repeat(refine Pn.mk ?_;intro N hN))))
   refine .inr (aG _ _ _ _ _ (fun r σ1 hq=>?_) ((BW val jm l' l (by omega) (by omega)).x mixed (by simp only[ai,aq,cu,aH,xe,Option.map_some])))
   obtain⟨⟨b,rfl,Kv,Gg⟩,rfl⟩:=hq
   refine hN _ _ ?_
   clear hN N
   cases b with
   |true=>
    have PV:val<=jm:=by
     rcases Int.lt_or_le jm val with h|h
     ·exact absurd (Gg h) (by simp)
     ·exact h
    (try((repeat(revert hN;revert N;apply Pn.out));refine wk (tw @b0 (tw @b1 (tw @b6 (tw @b7 (tw @b8 @hw))))) ?_;(repeat(refine Pn.mk ?_;intro N hN))))
    refine⟨_,?_,k+1,val,l',.sl (l'.map eN),rfl,by omega,by omega,sd (tw @b8 @hw),sd @Nat.zero_add,sd @Nat.zero_add,cu _ _ _,cu _ _ _,KC,RG fun z h1 h2 S' h3 h4=>by have:=Bs.1 z h1 h2 S' h3 h4;omega⟩
    omega
   |false=>
    have PV:jm<=val:=by
     rcases Int.lt_or_le val jm with h|h
     ·exact absurd (Kv h) (by simp)
     ·exact h
    (try((repeat(revert hN;revert N;apply Pn.out));refine wk (tw @b0 (tw @b1 (tw @b6 (tw @b7 (tw @b8 @hw))))) ?_;(repeat(refine Pn.mk ?_;intro N hN))))
    refine⟨_,?_,k+1,jm,l,p,rfl,by omega,by omega,sd (tw @b8 @hw),sd @b6,sd @b7,xe,kh,hl,.inr ⟨by omega,fun z h1 h2 S' h3 h4=>?_,Bs.2⟩⟩
    ·omega
    ·by_cases tD:z=k
     ·subst tD;have:=hf.bound h3 h4;omega
     ·exact Bs.1 z h1 (by omega) S' h3 h4
 ·have lj:k=cnt:=by omega
  (try((repeat(revert hN;revert N;apply Pn.out));refine wk (tw @b0 (tw @b1 (tw @b6 (tw @b7 (tw @b8 @hk))))) ?_;(repeat(refine Pn.mk ?_;intro N hN))))
  exact⟨[.int .i64 jm,p],sd @Nat.zero_add,.gP [.int .i64 jm,.sl (l.map eN)],by simp only[fA,bP,ai,aq,kh,aH,Option.map_some],jm,_,rfl,uK.done h2 (lj▸hB)⟩
end Go.Proofs.YtgoelphibofcmaaGreat.V

namespace Go.Proofs.YtgoelphibofcmaaGreat.V
open Go.RowKit
attribute [local irreducible] dG wpOps gz Call
attribute [local go_sem] aL fU eV gw gr cK upd cw K.av cU AV.cells AV.cell rowOf rowsOf part ld rowAt bJ cr dK ep iC bR dj eF gq fh dz ew dh de ec ee bV bh cX bU cZ cY eu ez ev cW cj di er bS aQ db cG iA bz cN bW aX dn aZ dL AV.undef bG bK ef eo dW ea cJ eE eH cD eB eA da dc List.getD_cons_zero List.getD_cons_succ List.getD_nil List.all_cons List.all_nil Bool.and_true Bool.true_and Bool.and_self Bool.not_true Bool.not_false Option.map_some Option.map_none Option.bind_some Option.bind_none List.length_cons List.length_nil List.take_succ_cons List.take_zero List.take_nil List.drop_succ_cons List.drop_zero List.drop_nil List.head?_cons List.map_cons List.map_nil List.getElem?_cons_zero List.getElem?_cons_succ List.cons_append List.nil_append List.append_nil List.length_map List.set_cons_zero List.set_cons_succ Nat.reduceMul eq_self Int.toNat_natCast Int.natCast_nonneg and_self true_and and_true decide_true decide_false Bool.false_eq_true Nat.zero_add Nat.add_zero List.contains_cons List.contains_nil Bool.or_false Bool.false_or beq_self_eq_true Nat.reduceBEq ne_eq not_true_eq_false not_false_eq_true Id.mk.injEq false_and and_false Nat.reduceLT Int.reduceLE Int.reduceLT Int.reduceToNat Int.reduceNeg Int.reduceAdd Nat.le_refl List.length_append beq_true beq_false Bool.not_eq_eq_eq_not or_false false_or dX ai aq aH bj bE cu aW br aU bp cV bP
theorem Mf {s:aw} (hS:iF s) (a d:Int):s5 s (du (dv s a) d)<=4:=by
 have hF:=hS.form
 have fP:du (dv s a) d=0∨(0<=du (dv s a) d/\du (dv s a) d<=s.aB.length):=by
  unfold du dv
  rw[List.getD_eq_getElem?_getD,List.getD_eq_getElem?_getD]
  rcases ht:s.ae[a.toNat]? with _|t
  ·exact .inl (by simp[z6])
  ·have Q9:=List.mem_of_getElem? ht
   simp only[Option.getD_some]
   rcases hg:t.bt[d.toNat]? with _|g
   ·exact .inl rfl
   ·exact .inr (hF.vG t Q9 g (List.mem_of_getElem? hg))
 unfold s5
 by_cases h0:du (dv s a) d=0
 ·rw[if_pos h0];omega
 ·rw[if_neg h0]
  have hk:(du (dv s a) d-1).toNat<s.aB.length:=by omega
  have:=dZ (hS.R7 _ hk).2.1
  unfold pH at this
  unfold qn
  omega
theorem A4 {s:aw} (hS:iF s) (a d b:Int):gQ s a d b<=4:=by
 unfold gQ
 split
 ·exact Mf hS a d
 ·omega
theorem FZ {s:aw} {l:List ah} (hS:iF s) {i:Nat} (hi:i<l.length) {d:Int}:∀b∈mN s l i d,b.a<l.length/\b.b<l.length/\0<=b.s/\b.s<=4:=by
 intro b hb
 unfold mN at hb
 split at hb
 ·rename_i h
  simp only[List.mem_singleton]at hb
  subst hb
  exact⟨hi,(pb h.1).1,by simp only;omega,A4 hS ..⟩
 ·cases hb
theorem xW {s:aw} {l:List ah} (hS:iF s):∀b∈cF s l,b.a<l.length/\b.b<l.length/\0<=b.s/\b.s<=4:=by
 intro b hb
 simp only[cF,gK,fX,List.mem_flatMap,List.mem_range]at hb
 obtain⟨i,hi,j,_,hb⟩:=hb
 exact FZ hS hi b hb
theorem qa {s:aw} {l:List ah} (hF:iW l):(cF s l).length<=1000:=by
 have:=th s l l.length
 have:=hF.w8
 rw[cF];omega
theorem HY {bs:List PB} {e:Nat} (h:e<bs.length):cm bs e∈bs:=by
 rw[cm,List.getD_eq_getElem?_getD,List.getElem?_eq_getElem h];exact List.getElem_mem h
theorem Gl {n:Nat} {bs:List PB} {t:Int} (h:n<2):kI n bs t:=fun S h0 ⟨y,hy,hf⟩=>by
 have:y=0:=by omega
 subst this;rw[h0]at hf;cases hf
def im (s:aw) (l:List ah) (t:Int):Nat:=(leads l.length (ei (aE t (cF s l)))).length
noncomputable def nG (s:aw) (l:List ah) (t:Int):Bool:=@decide (oZ l.length (cF s l) t) (Classical.propDecidable _)
def sC (s:aw) (l:List ah) (t:Int):Int:=if 64<im s l t then 4 else 0
theorem mu {s:aw} {l:List ah} {t:Int} {p:Prop} [Decidable p] (h:p↔oZ l.length (cF s l) t):decide p=nG s l t:=by
 letI:=Classical.propDecidable (oZ l.length (cF s l) t)
 unfold nG
 by_cases hp:p
 ·rw[decide_eq_true hp];exact(decide_eq_true (h.1 hp)).symm
 ·rw[decide_eq_false hp];exact(decide_eq_false fun k=>hp (h.2 k)).symm
theorem BY (s:aw) (l:List ah) (t:Int) (hS:iF s) (hA:lN s l):aj Tryz.prog 158 [.cQ (ab s),.cQ [.sl (l.map ad)],.int .i64 t] (.gP [.bool (nG s l t),.int .i64 (sC s l t)]):=by
 refine aj.body ek rfl fun hl n0=>?_
 clear hl
 have hb:=xW (l:=l) hS
 have oE:=qa (s:=s) hA.1
 have Bv:=hA.1.w8
 have w9:=DT s l hS.form hA
 have KF:=BX l.length (by omega) (cF s l) (fun b h=>⟨(hb b h).1,(hb b h).2.1⟩) (by omega) t
 have hL:=tF (aE t (cF s l))
 have fP:=Ep hL (fun b h=>⟨(hb b h).1,(hb b h).2.1⟩)
 have hlen:=(nq (ei (aE t (cF s l))) (cF s l)).2
 have mT:=jN l.length (ei (aE t (cF s l)))
 have fy:(l.map ad).length=l.length:=by simp
 by_cases tZ:(64:Int)<(im s l t:Int)
 ·have ua:64<im s l t:=by omega
  have hd:nG s l t=false:=(mu (p:=False) ⟨False.elim,fun h=>by have:=h.1;unfold im at ua;omega⟩).symm.trans (by simp)
  rw[im]at tZ
  (repeat(first|((repeat(revert hN;revert N;apply Pn.out));refine wk (tw @ab.eq_1 (tw @tZ @fy)) ?_;(repeat(refine Pn.mk ?_;intro N hN)))|((try apply Or.inl);refine⟨_,aj.x (w9) (sd (tw @ab.eq_1 (tw @tZ @fy))),?_⟩;refine hN _ _ ?_;clear hN N)|((try apply Or.inl);refine⟨_,aj.x (KF) (sd (tw @ab.eq_1 (tw @tZ @fy))),?_⟩;refine hN _ _ ?_;clear hN N)))
  exact jy (.inl rfl) (r1:=.bool false) (r2:=.int .i64 4) (sd @Nat.zero_add) (sd @Nat.zero_add) (by rw[hd,sC,if_pos ua];simp only[fj,bB,cz,fK,eO,Option.map_some])
 have ua:¬64<im s l t:=by omega
 have hf:sC s l t=0:=by rw[sC,if_neg ua]
 by_cases h2:(im s l t:Int)<2
 ·have hd:nG s l t=true:=(mu (p:=True) ⟨fun _=>⟨by unfold im at ua;omega,Gl (by unfold im at h2;omega)⟩,fun _=>trivial⟩).symm.trans (by simp)
  rw[im]at tZ h2
  (repeat(first|((repeat(revert hN;revert N;apply Pn.out));refine wk (tw @ab.eq_1 (tw @tZ (tw @h2 @fy))) ?_;(repeat(refine Pn.mk ?_;intro N hN)))|((try apply Or.inl);refine⟨_,aj.x (w9) (sd (tw @ab.eq_1 (tw @tZ (tw @h2 @fy)))),?_⟩;refine hN _ _ ?_;clear hN N)|((try apply Or.inl);refine⟨_,aj.x (KF) (sd (tw @ab.eq_1 (tw @tZ (tw @h2 @fy)))),?_⟩;refine hN _ _ ?_;clear hN N)))
  exact jy (.inl rfl) (r1:=.bool true) (r2:=.int .i64 0) (sd @Nat.zero_add) (sd @Nat.zero_add) (by rw[hd,hf];simp only[fj,bB,cz,fK,eO,Option.map_some])
 have OC:=zJ (im s l t) (by omega) (by unfold im;omega) (e8 (ei (aE t (cF s l))) (cF s l)) (fun e he=>by have:=fP _ (HY he);exact⟨this.1,this.2.1,this.2.2.1⟩) (by omega) (fun e he=>by
  obtain⟨_,_,_,c,hc,dw⟩:=fP _ (HY he)
  rw[dw];have:=hb c hc;omega)
 rw[im]at tZ h2 OC
 (repeat(first|((repeat(revert hN;revert N;apply Pn.out));refine wk (tw @ab.eq_1 (tw @tZ (tw @h2 @fy))) ?_;(repeat(refine Pn.mk ?_;intro N hN)))|((try apply Or.inl);refine⟨_,aj.x (w9) (sd (tw @ab.eq_1 (tw @tZ (tw @h2 @fy)))),?_⟩;refine hN _ _ ?_;clear hN N)|((try apply Or.inl);refine⟨_,aj.x (KF) (sd (tw @ab.eq_1 (tw @tZ (tw @h2 @fy)))),?_⟩;refine hN _ _ ?_;clear hN N)))
 refine .inr (aG _ _ _ _ _ (fun r σ1 hq=>?_) (OC.x mixed))
 obtain⟨⟨jm,p,rfl,QB⟩,rfl⟩:=hq
 refine hN _ _ ?_
 clear hN N
 (try((repeat(revert hN;revert N;apply Pn.out));refine wk @Nat.zero_add ?_;(repeat(refine Pn.mk ?_;intro N hN))))
 exact jy (.inl rfl) (r1:=.bool (decide (t<=jm))) (r2:=.int .i64 0) (sd @Nat.zero_add) (sd @Nat.zero_add) (by
  rw[hf,mu (s:=s) (l:=l) (t:=t) (p:=t<=jm) ((QB t).trans (DH.trans ⟨fun h=>⟨by unfold im at ua;omega,h⟩,fun h=>h.2⟩))]
  simp only[fj,bB,cz,fK,eO,Option.map_some])
theorem sP (t:Int):aj Tryz.prog 157 [.int .i64 t] (.bool (iH t 1 16)):=by
 refine aj.body ek rfl fun hl n0=>?_
 clear hl
 have h:=kr t 1 16
 (repeat(first|((repeat(revert hN;revert N;apply Pn.out));refine wk @Nat.zero_add ?_;(repeat(refine Pn.mk ?_;intro N hN)))|((try apply Or.inl);refine⟨_,aj.x (h) (sd @Nat.zero_add),?_⟩;refine hN _ _ ?_;clear hN N)))
 exact aP (b:=iH t 1 16) (.inl rfl) (sd @Nat.zero_add) rfl
structure tU (s:aM):Prop where
 set:iF s.ax
 G5:lN s.ax s.bF.ae
 some:1<=s.bF.ae.length
 J3:iH s.az 1 16=true
 holds:oZ s.bF.ae.length (cF s.ax s.bF.ae) s.az
noncomputable def ns (s:aM):Bool:=@decide (tU s) (Classical.propDecidable _)
theorem wQ {s:aM}:ns s=true↔tU s:=by simp[ns]
theorem jW {s:aM} (h:¬tU s):false=ns s:=by simp[ns,h]
theorem Cw {s:aM} (h:tU s):true=ns s:=by simp[ns,h]
theorem po {s:aw} {l:List ah} {t:Int}:nG s l t=true↔oZ l.length (cF s l) t:=by simp[nG]
theorem LJ (s:aM) (hn:fW s.ax) (hg:s.ax.aB.length<=1048576) (ht:s.ax.ae.length<=1048576):aj Tryz.prog 96 [.cQ (ay s)] (.bool (ns s)):=by
 refine aj.body ek rfl fun hl n0=>?_
 clear hl
 have h1:=(LI s.ax hn hg ht).cut mixed (.ptr _ [.sl (s.bF.ae.map ad),.int .i64 s.az] .nil)
 by_cases hS:iF s.ax
 ·rw[mo.2 hS]at h1
  have h2:=(Fw s.ax s.bF.ae).cut mixed (.ptr _ [.sl (s.bF.ae.map ad),.int .i64 s.az] (.ptr _ [.int .i64 s.az] .nil))
  by_cases hA:lN s.ax s.bF.ae
  ·rw[l6.2 hA]at h2
   by_cases h0:(s.bF.ae.length:Int)=0
   ·have hd:decide ((s.bF.ae.length:Int)=0)=true:=decide_eq_true h0
    have ll:false=ns s:=jW fun h=>by have:=h.some;omega
    generalize fy:(s.bF.ae.map ad).length=len at *
    (repeat(first|((repeat(revert hN;revert N;apply Pn.out));refine wk (tw @ay.eq_1 (tw @ab.eq_1 @hd)) ?_;(repeat(refine Pn.mk ?_;intro N hN)))|((try apply Or.inl);refine⟨_,aj.x (h1) (sd (tw @ay.eq_1 (tw @ab.eq_1 @hd))),?_⟩;refine hN _ _ ?_;clear hN N)|((try apply Or.inl);refine⟨_,aj.x (h2) (sd (tw @ay.eq_1 (tw @ab.eq_1 @hd))),?_⟩;refine hN _ _ ?_;clear hN N)))
    exact aP (b:=false) (.inl rfl) (sd @Nat.zero_add) ll
   ·have hd:decide ((s.bF.ae.length:Int)=0)=false:=decide_eq_false h0
    have h3:=sP s.az
    cases hT:iH s.az 1 16
    ·rw[hT]at h3
     (repeat(first|((repeat(revert hN;revert N;apply Pn.out));refine wk (tw @ay.eq_1 (tw @ab.eq_1 @hd)) ?_;(repeat(refine Pn.mk ?_;intro N hN)))|((try apply Or.inl);refine⟨_,aj.x (h1) (sd (tw @ay.eq_1 (tw @ab.eq_1 @hd))),?_⟩;refine hN _ _ ?_;clear hN N)|((try apply Or.inl);refine⟨_,aj.x (h2) (sd (tw @ay.eq_1 (tw @ab.eq_1 @hd))),?_⟩;refine hN _ _ ?_;clear hN N)|((try apply Or.inl);refine⟨_,aj.x (h3) (sd (tw @ay.eq_1 (tw @ab.eq_1 @hd))),?_⟩;refine hN _ _ ?_;clear hN N)))
     exact aP (b:=false) (.inl rfl) (sd @Nat.zero_add) (jW fun h=>by have:=h.J3;rw[hT]at this;cases this)
    ·rw[hT]at h3
     have h4:=(BY s.ax s.bF.ae s.az hS hA).cut mixed (.ptr _ [.sl (s.bF.ae.map ad),.int .i64 s.az] (.ptr _ [.int .i64 s.az] (.same _ .nil)))
     cases hB:nG s.ax s.bF.ae s.az
     ·rw[hB]at h4
      (repeat(first|((repeat(revert hN;revert N;apply Pn.out));refine wk (tw @ay.eq_1 (tw @ab.eq_1 @hd)) ?_;(repeat(refine Pn.mk ?_;intro N hN)))|((try apply Or.inl);refine⟨_,aj.x (h1) (sd (tw @ay.eq_1 (tw @ab.eq_1 @hd))),?_⟩;refine hN _ _ ?_;clear hN N)|((try apply Or.inl);refine⟨_,aj.x (h2) (sd (tw @ay.eq_1 (tw @ab.eq_1 @hd))),?_⟩;refine hN _ _ ?_;clear hN N)|((try apply Or.inl);refine⟨_,aj.x (h3) (sd (tw @ay.eq_1 (tw @ab.eq_1 @hd))),?_⟩;refine hN _ _ ?_;clear hN N)|((try apply Or.inl);refine⟨_,aj.x (h4) (sd (tw @ay.eq_1 (tw @ab.eq_1 @hd))),?_⟩;refine hN _ _ ?_;clear hN N)))
      exact aP (b:=false) (.inl rfl) (sd @Nat.zero_add) (jW fun h=>by have:=po.2 h.holds;rw[hB]at this;cases this)
     ·have hP:=po.1 hB
      have hf:sC s.ax s.bF.ae s.az=0:=by
       have:=hP.1
       rw[sC,if_neg (by unfold im;omega)]
      rw[hB,hf]at h4
      (repeat(first|((repeat(revert hN;revert N;apply Pn.out));refine wk (tw @ay.eq_1 (tw @ab.eq_1 @hd)) ?_;(repeat(refine Pn.mk ?_;intro N hN)))|((try apply Or.inl);refine⟨_,aj.x (h1) (sd (tw @ay.eq_1 (tw @ab.eq_1 @hd))),?_⟩;refine hN _ _ ?_;clear hN N)|((try apply Or.inl);refine⟨_,aj.x (h2) (sd (tw @ay.eq_1 (tw @ab.eq_1 @hd))),?_⟩;refine hN _ _ ?_;clear hN N)|((try apply Or.inl);refine⟨_,aj.x (h3) (sd (tw @ay.eq_1 (tw @ab.eq_1 @hd))),?_⟩;refine hN _ _ ?_;clear hN N)|((try apply Or.inl);refine⟨_,aj.x (h4) (sd (tw @ay.eq_1 (tw @ab.eq_1 @hd))),?_⟩;refine hN _ _ ?_;clear hN N)))
      exact aP (b:=true) (.inl rfl) (sd @Nat.zero_add) (Cw ⟨hS,hA,by omega,hT,hP⟩)
  ·have hb:pD s.ax s.bF.ae=false:=Bool.eq_false_iff.2 fun h=>hA (l6.1 h)
   rw[hb]at h2
   (repeat(first|((repeat(revert hN;revert N;apply Pn.out));refine wk (tw @ay.eq_1 @ab.eq_1) ?_;(repeat(refine Pn.mk ?_;intro N hN)))|((try apply Or.inl);refine⟨_,aj.x (h1) (sd (tw @ay.eq_1 @ab.eq_1)),?_⟩;refine hN _ _ ?_;clear hN N)|((try apply Or.inl);refine⟨_,aj.x (h2) (sd (tw @ay.eq_1 @ab.eq_1)),?_⟩;refine hN _ _ ?_;clear hN N)))
   exact aP (b:=false) (.inl rfl) (sd @Nat.zero_add) (jW fun h=>hA h.G5)
 ·have hb:qK s.ax=false:=Bool.eq_false_iff.2 fun h=>hS (mo.1 h)
  rw[hb]at h1
  (repeat(first|((repeat(revert hN;revert N;apply Pn.out));refine wk (tw @ay.eq_1 @ab.eq_1) ?_;(repeat(refine Pn.mk ?_;intro N hN)))|((try apply Or.inl);refine⟨_,aj.x (h1) (sd (tw @ay.eq_1 @ab.eq_1)),?_⟩;refine hN _ _ ?_;clear hN N)))
  exact aP (b:=false) (.inl rfl) (sd @Nat.zero_add) (jW fun h=>hS h.set)
end Go.Proofs.YtgoelphibofcmaaGreat.V

namespace Go.Proofs.YtgoelphibofcmaaGreat.V
open Go.RowKit
attribute [local irreducible] dG wpOps gz Call
attribute [local go_sem] aL fU eV gw gr cK upd cw K.av cU AV.cells AV.cell rowOf rowsOf part ld rowAt bJ cr dK ep iC bR dj eF gq fh dz ew dh de ec ee bV bh cX bU cZ cY eu ez ev cW cj di er bS aQ db cG iA bz cN bW aX dn aZ dL AV.undef bG bK ef eo dW ea cJ eE eH cD eB eA da dc List.getD_cons_zero List.getD_cons_succ List.getD_nil List.all_cons List.all_nil Bool.and_true Bool.true_and Bool.and_self Bool.not_true Bool.not_false Option.map_some Option.map_none Option.bind_some Option.bind_none List.length_cons List.length_nil List.take_succ_cons List.take_zero List.take_nil List.drop_succ_cons List.drop_zero List.drop_nil List.head?_cons List.map_cons List.map_nil List.getElem?_cons_zero List.getElem?_cons_succ List.cons_append List.nil_append List.append_nil List.length_map List.set_cons_zero List.set_cons_succ Nat.reduceMul eq_self Int.toNat_natCast Int.natCast_nonneg and_self true_and and_true decide_true decide_false Bool.false_eq_true Nat.zero_add Nat.add_zero List.contains_cons List.contains_nil Bool.or_false Bool.false_or beq_self_eq_true Nat.reduceBEq ne_eq not_true_eq_false not_false_eq_true Id.mk.injEq false_and and_false Nat.reduceLT Int.reduceLE Int.reduceLT Int.reduceToNat Int.reduceNeg Int.reduceAdd Nat.le_refl List.length_append beq_true beq_false Bool.not_eq_eq_eq_not or_false false_or dX ai aq aH bj bE cu aW br aU bp cV bP
theorem Me {s:aw} (hS:iF s) (a d:Int):0<=s5 s (du (dv s a) d):=by
 have hF:=hS.form
 have fP:du (dv s a) d=0∨(0<=du (dv s a) d/\du (dv s a) d<=s.aB.length):=by
  unfold du dv
  rw[List.getD_eq_getElem?_getD,List.getD_eq_getElem?_getD]
  rcases ht:s.ae[a.toNat]? with _|t
  ·exact .inl (by simp[z6])
  ·have Q9:=List.mem_of_getElem? ht
   simp only[Option.getD_some]
   rcases hg:t.bt[d.toNat]? with _|g
   ·exact .inl rfl
   ·exact .inr (hF.vG t Q9 g (List.mem_of_getElem? hg))
 unfold s5
 by_cases h0:du (dv s a) d=0
 ·rw[if_pos h0];omega
 ·rw[if_neg h0]
  have hk:(du (dv s a) d-1).toNat<s.aB.length:=by omega
  have:=dZ (hS.R7 _ hk).2.1
  unfold pH at this
  unfold qn
  omega
theorem uW {s:aw} (hS:iF s) (a d b:Int):0<=gQ s a d b/\gQ s a d b<=4:=by
 refine⟨?_,A4 hS a d b⟩
 unfold gQ
 split
 ·exact Me hS a d
 ·omega
def dP (s:aw) (f:ar->Int) (p:ar) (t:Int):Nat->Int
 |0=>0
 |d+1=>dP s f p t d+if 0<=f (cq p d)then gQ s t d (f (cq p d))else 0
def l9 (s:aw) (f:ar->Int) (p:ar) (t:Int):Int:=dP s f p t 4
theorem lz {s:aw} (hS:iF s) (f:ar->Int) (p:ar) (t:Int):∀d,0<=dP s f p t d/\dP s f p t d<=4*(d:Int)
 |0=>⟨Int.le_refl _,Int.le_refl _⟩
 |d+1=>by
  have:=lz hS f p t d
  have hb:=uW hS t d (f (cq p d))
  simp only[dP]
  split<;>omega
theorem AW {s:aw} {l:List ah} (hA:lN s l) {p:ar} (h:0<=gW l p):eJ s (gW l p)=true:=by
 unfold gW at h ⊢
 split at h
 ·rename_i h0
  rw[if_pos h0]
  exact hA.2 _ (jx (pb h0).1)
 ·omega
theorem zI (s:aw) (hS:iF s) (l:List ah) (hA:lN s l) (p:ar) (hx:iB p.eY) (hy:iB p.eU) (t:Int) (ht:eJ s t=true):aj Tryz.prog 138 [.cQ (ab s),.cQ [.sl (l.map ad)],.agg (aa p),.int .i64 t] (.int .i64 (l9 s (gW l) p t)):=by
 refine aj.body ek rfl fun hl n0=>?_
 clear hl
 have hR:=hA.1.M9
 have Gf:l.length<=1048576:=by have:=hA.1.w8;omega
 (try((repeat(revert hN;revert N;apply Pn.out));refine wk @aa.eq_1 ?_;(repeat(refine Pn.mk ?_;intro N hN))))
 refine aI (fun n env st=>∃k:Nat,n=(4)-k/\k<=(4)/\env 10=.int .i64 (k:Int)/\env 9=.int .i64 (dP s (gW l) p t k)/\st.get ⟨138000000,n0⟩=some ⟨true,2,[aa p]⟩) (4) ⟨0,by omega,by omega,sl @aa.eq_1,sl @aa.eq_1,sl @aa.eq_1⟩ ?_
 rintro n_a env_a st_a ⟨k,rfl,ale,xQ,a9,ag0⟩ dp
 have a0:=dp 0 (by kernel_rfl);have a1:=dp 1 (by kernel_rfl);have a3:=dp 3 (by kernel_rfl);have a6:=dp 6 (by kernel_rfl)
 simp only[go_sem, ↓reduceIte,Nat.reduceEqDiff,Nat.reduceAdd,Nat.reduceSub,Nat.reduceLeDiff,reduceCtorEq,aa]at a0 a1 a3 a6
 clear dp
 by_cases hk:(k:Int)<4
 ·have ck:∀{e:Env} {gg:Rows},(e 10=.int .i64 (IntKind.i64.wrap ((k:Int)+1)))->(e 9=.int .i64 (dP s (gW l) p t (k+1)))->(gg ⟨138000000,n0⟩=some ⟨true,2,[aa p]⟩)->∃m0,m0<(4)-k/\∃k:Nat,m0=(4)-k/\k<=(4)/\e 10=.int .i64 (k:Int)/\e 9=.int .i64 (dP s (gW l) p t k)/\gg ⟨138000000,n0⟩=some ⟨true,2,[aa p]⟩:=fun x1 x2 x3=>⟨_,by omega,k+1,rfl,by omega,(by rw[x1,aA (by omega)]),x2,x3⟩
  have dB:=sO p k (js (by omega)) hx hy
  have Fc:=Fv l (cq p k) hR Gf
  have fP:=lz hS (gW l) p t k
  by_cases h0:0<=gW l (cq p k)
  ·have w9:=yC s hS.form t k (gW l (cq p k)) ht (AW hA h0) (js (by omega))
   have fF:=uW hS t k (gW l (cq p k))
   have hw:IntKind.i64.wrap (dP s (gW l) p t k+gQ s t k (gW l (cq p k)))=dP s (gW l) p t (k+1):=by
    rw[aV (by omega),dP,if_pos h0]
   (repeat(first|((repeat(revert hN;revert N;apply Pn.out));refine wk (tw @xQ (tw @a9 (tw @ag0 (tw @a0 (tw @a1 (tw @a3 (tw @a6 (tw @hk (tw @h0 @aa.eq_1))))))))) ?_;(repeat(refine Pn.mk ?_;intro N hN)))|((try apply Or.inl);refine⟨_,aj.x (dB) (sd (tw @xQ (tw @a9 (tw @ag0 (tw @a0 (tw @a1 (tw @a3 (tw @a6 (tw @hk (tw @h0 @aa.eq_1)))))))))),?_⟩;refine hN _ _ ?_;clear hN N)|((try apply Or.inl);refine⟨_,aj.x (Fc) (sd (tw @xQ (tw @a9 (tw @ag0 (tw @a0 (tw @a1 (tw @a3 (tw @a6 (tw @hk (tw @h0 @aa.eq_1)))))))))),?_⟩;refine hN _ _ ?_;clear hN N)|((try apply Or.inl);refine⟨_,aj.x (w9) (sd (tw @xQ (tw @a9 (tw @ag0 (tw @a0 (tw @a1 (tw @a3 (tw @a6 (tw @hk (tw @h0 @aa.eq_1)))))))))),?_⟩;refine hN _ _ ?_;clear hN N)))
   refine ck ?_ ?_ ?_
   all_goals simp only[go_sem, ↓reduceIte,Nat.reduceEqDiff,Nat.reduceAdd,Nat.reduceSub,Nat.reduceLeDiff,reduceCtorEq,xQ,a9,ag0,a0,a1,a3,a6,hw,aa]
  ·have hw:dP s (gW l) p t (k+1)=dP s (gW l) p t k:=by rw[dP,if_neg h0,Int.add_zero]
   (repeat(first|((repeat(revert hN;revert N;apply Pn.out));refine wk (tw @xQ (tw @a9 (tw @ag0 (tw @a0 (tw @a1 (tw @a3 (tw @a6 (tw @hk (tw @h0 @aa.eq_1))))))))) ?_;(repeat(refine Pn.mk ?_;intro N hN)))|((try apply Or.inl);refine⟨_,aj.x (dB) (sd (tw @xQ (tw @a9 (tw @ag0 (tw @a0 (tw @a1 (tw @a3 (tw @a6 (tw @hk (tw @h0 @aa.eq_1)))))))))),?_⟩;refine hN _ _ ?_;clear hN N)|((try apply Or.inl);refine⟨_,aj.x (Fc) (sd (tw @xQ (tw @a9 (tw @ag0 (tw @a0 (tw @a1 (tw @a3 (tw @a6 (tw @hk (tw @h0 @aa.eq_1)))))))))),?_⟩;refine hN _ _ ?_;clear hN N)))
   refine ck ?_ ?_ ?_
   all_goals simp only[go_sem, ↓reduceIte,Nat.reduceEqDiff,Nat.reduceAdd,Nat.reduceSub,Nat.reduceLeDiff,reduceCtorEq,xQ,a9,ag0,a0,a1,a3,a6,hw,aa]
 ·(try((repeat(revert hN;revert N;apply Pn.out));refine wk (tw @xQ (tw @a9 (tw @ag0 (tw @a0 (tw @a1 (tw @a3 (tw @a6 @hk))))))) ?_;(repeat(refine Pn.mk ?_;intro N hN))))
  exact bL (b:=dP s (gW l) p t k) (.inl rfl) (sd (tw @xQ (tw @a9 (tw @ag0 (tw @a0 (tw @a1 (tw @a3 @a6))))))) (by rw[show k=4 by omega];rfl)
def kD (la lb:List ah):Bool:=la.all fun t=>decide (gW lb t.aO=t.bd)
theorem BU (la lb:List ah) (hR:xi lb) (Gf:lb.length<=1048576) (h81:la.length<=1048576):aj Tryz.prog 59 [.cQ [.sl (la.map ad)],.cQ [.sl (lb.map ad)]] (.bool (kD la lb)):=by
 refine aj.body ek rfl fun hl n0=>?_
 clear hl
 (try((repeat(revert hN;revert N;apply Pn.out));refine wk @Nat.zero_add ?_;(repeat(refine Pn.mk ?_;intro N hN))))
 refine aI (fun n env st=>∃k:Nat,n=(la.length)-k/\k<=(la.length)/\env 5=.int .i64 (k:Int)/\(∀j:Nat,j<k->gW lb (aT la j).aO=(aT la j).bd)) (la.length) ⟨0,by omega,by omega,sl @Nat.zero_add,fun _ h=>absurd h (Nat.not_lt_zero _)⟩ ?_
 rintro n_a env_a st_a ⟨k,rfl,ale,a5,lU⟩ dp
 have a0:=dp 0 (by kernel_rfl);have a1:=dp 1 (by kernel_rfl)
 simp only[go_sem, ↓reduceIte,Nat.reduceEqDiff,Nat.reduceAdd,Nat.reduceSub,Nat.reduceLeDiff,reduceCtorEq]at a0 a1
 clear dp
 by_cases hk:(k:Int)<(la.length:Int)
 ·have ck:∀{e:Env},(e 5=.int .i64 (IntKind.i64.wrap ((k:Int)+1)))->(gW lb (aT la k).aO=(aT la k).bd)->∃m0,m0<(la.length)-k/\∃k:Nat,m0=(la.length)-k/\k<=(la.length)/\e 5=.int .i64 (k:Int)/\(∀j:Nat,j<k->gW lb (aT la j).aO=(aT la j).bd):=fun x1 x2=>⟨_,by omega,k+1,rfl,by omega,(by rw[x1,aA (by omega)]),(all_succ lU x2)⟩
  have eZ:k<la.length:=by omega
  have eM:=fN eZ
  have Fc:=Fv lb (aT la k).aO hR Gf
  by_cases h0:gW lb (aT la k).aO=(aT la k).bd
  ·have hd:decide (gW lb (aT la k).aO=(aT la k).bd)=true:=decide_eq_true h0
   (repeat(first|((repeat(revert hN;revert N;apply Pn.out));refine wk (tw @a5 (tw @a0 (tw @a1 (tw @hk (tw @eM (tw @hd (tw @ad.eq_1 @aa.eq_1))))))) ?_;(repeat(refine Pn.mk ?_;intro N hN)))|((try apply Or.inl);refine⟨_,aj.x (Fc) (sd (tw @a5 (tw @a0 (tw @a1 (tw @hk (tw @eM (tw @hd (tw @ad.eq_1 @aa.eq_1)))))))),?_⟩;refine hN _ _ ?_;clear hN N)))
   exact ck (sd (tw @a5 (tw @a0 @a1))) (h0)
  ·have hd:decide (gW lb (aT la k).aO=(aT la k).bd)=false:=decide_eq_false h0
   (repeat(first|((repeat(revert hN;revert N;apply Pn.out));refine wk (tw @a5 (tw @a0 (tw @a1 (tw @hk (tw @eM (tw @hd (tw @ad.eq_1 @aa.eq_1))))))) ?_;(repeat(refine Pn.mk ?_;intro N hN)))|((try apply Or.inl);refine⟨_,aj.x (Fc) (sd (tw @a5 (tw @a0 (tw @a1 (tw @hk (tw @eM (tw @hd (tw @ad.eq_1 @aa.eq_1)))))))),?_⟩;refine hN _ _ ?_;clear hN N)))
   exact aP (b:=false) (.inl rfl) (sd @Nat.zero_add) (List.all_eq_false.2 ⟨_,jx eZ,by rw[hd];simp⟩).symm
 ·(try((repeat(revert hN;revert N;apply Pn.out));refine wk (tw @a5 (tw @a0 (tw @a1 @hk))) ?_;(repeat(refine Pn.mk ?_;intro N hN))))
  exact aP (b:=true) (.inl rfl) (sd @Nat.zero_add) (List.all_eq_true.2 fun t ht=>by
   obtain⟨j,hj,rfl⟩:=List.getElem_of_mem ht
   have:=lU j (by omega)
   rw[iw hj]at this
   exact decide_eq_true this).symm
noncomputable def qT (s:aM) (l:List ah):Bool:=ns s&&pD s.ax l
theorem DU (s:aM) (l:List ah) (hn:fW s.ax) (hg:s.ax.aB.length<=1048576) (ht:s.ax.ae.length<=1048576):aj Tryz.prog 58 [.cQ (ay s),.cQ [.sl (l.map ad)]] (.int .i64 (if qT s l then 0 else 1)):=by
 refine aj.body ek rfl fun hl n0=>?_
 clear hl
 have h1:=LJ s hn hg ht
 have h2:=(Fw s.ax l).cut mixed (.ptr _ [.sl (s.bF.ae.map ad),.int .i64 s.az] (.same _ .nil))
 cases b1:ns s
 ·rw[b1]at h1
  (repeat(first|((repeat(revert hN;revert N;apply Pn.out));refine wk @Nat.zero_add ?_;(repeat(refine Pn.mk ?_;intro N hN)))|((try apply Or.inl);refine⟨_,aj.x (h1) (sd @Nat.zero_add),?_⟩;refine hN _ _ ?_;clear hN N)))
  exact bL (b:=1) (.inl rfl) (sd @Nat.zero_add) (by rw[qT,b1];rfl)
 rw[b1]at h1
 rw[ay]at h1 ⊢
 cases b2:pD s.ax l
 ·rw[b2]at h2
  (repeat(first|((repeat(revert hN;revert N;apply Pn.out));refine wk @ab.eq_1 ?_;(repeat(refine Pn.mk ?_;intro N hN)))|((try apply Or.inl);refine⟨_,aj.x (h1) (sd @ab.eq_1),?_⟩;refine hN _ _ ?_;clear hN N)|((try apply Or.inl);refine⟨_,aj.x (h2) (sd @ab.eq_1),?_⟩;refine hN _ _ ?_;clear hN N)))
  exact bL (b:=1) (.inl rfl) (sd @Nat.zero_add) (by rw[qT,b1,b2];rfl)
 ·rw[b2]at h2
  (repeat(first|((repeat(revert hN;revert N;apply Pn.out));refine wk @ab.eq_1 ?_;(repeat(refine Pn.mk ?_;intro N hN)))|((try apply Or.inl);refine⟨_,aj.x (h1) (sd @ab.eq_1),?_⟩;refine hN _ _ ?_;clear hN N)|((try apply Or.inl);refine⟨_,aj.x (h2) (sd @ab.eq_1),?_⟩;refine hN _ _ ?_;clear hN N)))
  exact bL (b:=0) (.inl rfl) (sd @Nat.zero_add) (by rw[qT,b1,b2];rfl)
theorem qU {s:aM} {l:List ah}:qT s l=true↔tU s/\lN s.ax l:=by simp[qT,wQ,l6]
noncomputable def jb (s:aM) (l:List ah):Int:=if qT s l then(if kD s.bF.ae l then 0 else 2)else 1
theorem GF (s:aM) (l:List ah) (hn:fW s.ax) (hg:s.ax.aB.length<=1048576) (ht:s.ax.ae.length<=1048576):aj Tryz.prog 67 [.cQ (ay s),.cQ [.sl (l.map ad)]] (.int .i64 (jb s l)):=by
 refine aj.body ek rfl fun hl n0=>?_
 clear hl
 have h1:=DU s l hn hg ht
 cases b1:qT s l
 ·rw[b1]at h1
  (repeat(first|((repeat(revert hN;revert N;apply Pn.out));refine wk @Nat.zero_add ?_;(repeat(refine Pn.mk ?_;intro N hN)))|((try apply Or.inl);refine⟨_,aj.x (h1) (sd @Nat.zero_add),?_⟩;refine hN _ _ ?_;clear hN N)))
  exact bL (b:=1) (.inl rfl) (sd @Nat.zero_add) (by rw[jb,b1];rfl)
 obtain⟨hP,hA⟩:=qU.1 b1
 have h2:=(BU s.bF.ae l hA.1.M9 (by have:=hA.1.w8;omega) (by have:=hP.G5.1.w8;omega)).cut mixed (.ptr _ [.int .i64 s.az] (.same _ .nil))
 rw[b1]at h1
 rw[ay]at h1 ⊢
 cases b2:kD s.bF.ae l
 ·rw[b2]at h2
  (repeat(first|((repeat(revert hN;revert N;apply Pn.out));refine wk @Nat.zero_add ?_;(repeat(refine Pn.mk ?_;intro N hN)))|((try apply Or.inl);refine⟨_,aj.x (h1) (sd @Nat.zero_add),?_⟩;refine hN _ _ ?_;clear hN N)|((try apply Or.inl);refine⟨_,aj.x (h2) (sd @Nat.zero_add),?_⟩;refine hN _ _ ?_;clear hN N)))
  exact bL (b:=2) (.inl rfl) (sd @Nat.zero_add) (by rw[jb,b1,b2];rfl)
 ·rw[b2]at h2
  (repeat(first|((repeat(revert hN;revert N;apply Pn.out));refine wk @Nat.zero_add ?_;(repeat(refine Pn.mk ?_;intro N hN)))|((try apply Or.inl);refine⟨_,aj.x (h1) (sd @Nat.zero_add),?_⟩;refine hN _ _ ?_;clear hN N)|((try apply Or.inl);refine⟨_,aj.x (h2) (sd @Nat.zero_add),?_⟩;refine hN _ _ ?_;clear hN N)))
  exact bL (b:=0) (.inl rfl) (sd @Nat.zero_add) (by rw[jb,b1,b2];rfl)
theorem wV {s:aw} {k:Nat} (h:k<s.ae.length):eJ s k=true:=by
 unfold eJ;exact js (by omega)
theorem C8 {s:aw} {l:List ah} (hA:lN s l) (p:ar):gW l p<0↔eL l p<0:=by
 constructor
 ·intro h
  rcases Int.lt_or_le (eL l p) 0 with h0|h0
  ·exact h0
  ·exfalso
   obtain⟨h1,_⟩:=pb h0
   have h2:=(dZ (hA.2 _ (jx h1))).1
   rw[gW,if_pos h0]at h
   omega
 ·intro h
  rw[gW,if_neg (by omega)];omega
end Go.Proofs.YtgoelphibofcmaaGreat.V

namespace Go.Proofs.YtgoelphibofcmaaGreat.V
open Go.RowKit
attribute [local irreducible] dG wpOps gz Call
attribute [local go_sem] aL fU eV gw gr cK upd cw K.av cU AV.cells AV.cell rowOf rowsOf part ld rowAt bJ cr dK ep iC bR dj eF gq fh dz ew dh de ec ee bV bh cX bU cZ cY eu ez ev cW cj di er bS aQ db cG iA bz cN bW aX dn aZ dL AV.undef bG bK ef eo dW ea cJ eE eH cD eB eA da dc List.getD_cons_zero List.getD_cons_succ List.getD_nil List.all_cons List.all_nil Bool.and_true Bool.true_and Bool.and_self Bool.not_true Bool.not_false Option.map_some Option.map_none Option.bind_some Option.bind_none List.length_cons List.length_nil List.take_succ_cons List.take_zero List.take_nil List.drop_succ_cons List.drop_zero List.drop_nil List.head?_cons List.map_cons List.map_nil List.getElem?_cons_zero List.getElem?_cons_succ List.cons_append List.nil_append List.append_nil List.length_map List.set_cons_zero List.set_cons_succ Nat.reduceMul eq_self Int.toNat_natCast Int.natCast_nonneg and_self true_and and_true decide_true decide_false Bool.false_eq_true Nat.zero_add Nat.add_zero List.contains_cons List.contains_nil Bool.or_false Bool.false_or beq_self_eq_true Nat.reduceBEq ne_eq not_true_eq_false not_false_eq_true Id.mk.injEq false_and and_false Nat.reduceLT Int.reduceLE Int.reduceLT Int.reduceToNat Int.reduceNeg Int.reduceAdd Nat.le_refl List.length_append beq_true beq_false Bool.not_eq_eq_eq_not or_false false_or dX ai aq aH bj bE cu aW br aU bp cV bP
def fq (ps:List ar) (i:Nat):ar:=ps.getD i ⟨0,0⟩
theorem iV {ps:List ar} {i:Nat} (h:i<ps.length):fq ps i=ps[i]:=by simp[fq,List.getD_eq_getElem?_getD,h]
theorem Ac {ps:List ar} {i:Nat} (h:i<ps.length):fq ps i∈ps:=by rw[iV h];exact List.getElem_mem h
theorem rM {ps:List ar} {i:Nat} (h:i<ps.length):(ps.map aa)[i]? =some (aa (fq ps i)):=by simp[fq,List.getD_eq_getElem?_getD,h]
def lZ (ps:List ar):Prop:=ps.Pairwise fun a b=>kH a b=true
theorem lZ.at_ {ps:List ar} (h:lZ ps) {i j:Nat} (Fi:i<j) (hj:j<ps.length):kH (fq ps i) (fq ps j)=true:=by
 rw[iV hj,iV (by omega)]
 exact List.pairwise_iff_getElem.1 h i j (by omega) hj Fi
def jO (ps:List ar) (p:ar):Nat:=ps.findIdx fun q=> !kH q p
theorem zP (ps:List ar) (p:ar):jO ps p<=ps.length:=List.findIdx_le_length
theorem Fy {ps:List ar} {p:ar} {x:Nat} (h:x<jO ps p):kH (fq ps x) p=true:=by
 have hx:x<ps.length:=Nat.lt_of_lt_of_le h (zP ps p)
 have:=List.not_of_lt_findIdx h
 rw[iV hx]
 simpa using this
theorem zO {ps:List ar} {p:ar} (hR:lZ ps) {x:Nat} (h:jO ps p<=x) (hx:x<ps.length):kH (fq ps x) p=false:=by
 have h0:jO ps p<ps.length:=by omega
 have h1:kH (fq ps (jO ps p)) p=false:=by
  have:=List.findIdx_getElem (p:=fun q=> !kH q p) (xs:=ps) (w:=h0)
  rw[iV h0]
  have e:(!kH ps[jO ps p] p)=true:=this
  simpa using e
 by_cases he:jO ps p=x
 ·rw[<-he];exact h1
 ·have h2:=hR.at_ (show jO ps p<x by omega) hx
  cases hc:kH (fq ps x) p
  ·rfl
  ·rw[iu h2 hc]at h1;cases h1
def oN (ps:List ar) (p:ar):List ar:=if jO ps p<ps.length/\fq ps (jO ps p)=p then ps else ps.take (jO ps p)++p::ps.drop (jO ps p)
theorem Cl (ps:List ar) (p:ar):(oN ps p).length<=ps.length+1:=by
 unfold oN
 have:=zP ps p
 split
 ·omega
 ·simp;omega
theorem B6 (ps:List ar) (p x:ar):x∈oN ps p↔x=p∨x∈ps:=by
 unfold oN
 split
 ·rename_i h
  refine⟨.inr,fun hx=>hx.elim (fun e=>?_) id⟩
  rw[e,<-h.2];exact Ac h.1
 ·have:x∈ps↔x∈ps.take (jO ps p)++ps.drop (jO ps p):=by rw[List.take_append_drop]
  rw[this]
  simp only[List.mem_append,List.mem_cons]
  constructor
  ·rintro(h|h|h)
   ·exact .inr (.inl h)
   ·exact .inl h
   ·exact .inr (.inr h)
  ·rintro(h|h|h)
   ·exact .inr (.inl h)
   ·exact .inl h
   ·exact .inr (.inr h)
theorem Cm {ps:List ar} (hR:lZ ps) (p:ar):lZ (oN ps p):=by
 unfold oN
 split
 ·exact hR
 ·rename_i ll
  have hd:∀x∈ps.drop (jO ps p),kH p x=true:=fun x hx=>by
   obtain⟨j,hj,rfl⟩:=List.getElem_of_mem hx
   rw[List.length_drop]at hj
   rw[List.getElem_drop]
   have gR:jO ps p+j<ps.length:=by omega
   have h1:=zO (p:=p) hR (Nat.le_add_right _ j) gR
   rw[<-iV gR]
   refine zR h1 fun he=>?_
   by_cases h0:j=0
   ·subst h0
    exact ll ⟨by omega,by simpa using he⟩
   ·have:=hR.at_ (show jO ps p<jO ps p+j by omega) gR
    rw[he]at this
    have h2:=zO (p:=p) hR (Nat.le_refl _) (show jO ps p<ps.length by omega)
    rw[this]at h2;cases h2
  have ht:∀x∈ps.take (jO ps p),kH x p=true:=fun x hx=>by
   obtain⟨j,hj,rfl⟩:=List.getElem_of_mem hx
   rw[List.length_take]at hj
   rw[List.getElem_take]
   have:=Fy (ps:=ps) (p:=p) (x:=j) (by omega)
   rwa [iV (by omega)]at this
  refine List.pairwise_append.2 ⟨hR.sublist (List.take_sublist _ _),List.pairwise_cons.2 ⟨hd,hR.sublist (List.drop_sublist _ _)⟩,fun x hx y hy=>?_⟩
  rcases List.mem_cons.1 hy with rfl|hy
  ·exact ht x hx
  ·exact iu (ht x hx) (hd y hy)
theorem Ah:∀{ps qs:List ar},lZ ps->lZ qs->(∀x,x∈ps↔x∈qs)->ps=qs
 |[],[],_,_,_=>rfl
 |[],q::qs,_,_,h=>absurd ((h q).2 (by simp)) (by simp)
 |p::ps,[],_,_,h=>absurd ((h p).1 (by simp)) (by simp)
 |p::ps,q::qs,hp,hq,h=>by
  obtain⟨p1,p2⟩:=List.pairwise_cons.1 hp
  obtain⟨q1,q2⟩:=List.pairwise_cons.1 hq
  have e:p=q:=by
   rcases List.mem_cons.1 ((h p).1 (by simp))with e|e
   ·exact e
   ·rcases List.mem_cons.1 ((h q).2 (by simp))with e'|e'
    ·exact e'.symm
    ·have:=Jm (q1 p e)
     rw[p1 q e']at this;cases this
  subst e
  congr 1
  refine Ah p2 q2 fun x=>⟨fun hx=>?_,fun hx=>?_⟩
  ·rcases List.mem_cons.1 ((h x).1 (List.mem_cons_of_mem _ hx))with e|e
   ·subst e;have:=p1 x hx;rw[rE]at this;cases this
   ·exact e
  ·rcases List.mem_cons.1 ((h x).2 (List.mem_cons_of_mem _ hx))with e|e
   ·subst e;have:=q1 x hx;rw[rE]at this;cases this
   ·exact e
def Qb (σ:au) (kp:Id->Prop) (ps:List ar) (r:AV) (σ':au):Prop:=
 ∃o:Id,r=.own o 0 ps.length/\σ'.get o=some ⟨true,2,ps.map aa⟩/\σ.next<=σ'.next/\o.bq<σ'.next/\(σ.next<=o.bq∨¬kp o)/\∀x:Id,x.bq<σ.next->kp x->σ'.get x=σ.get x
theorem M8 {ps:List ar} {i:Nat} {q:ar}:(ps.map aa).set i (aa q)=(ps.set i q).map aa:=List.map_set.symm
def yX (ps:List ar) (p:ar) (i:Nat):List ar:=(ps++[p]).take (i+1)++ps.drop i
theorem pz (ps:List ar) (p:ar) {i:Nat} (h:i<=ps.length):(yX ps p i).length=ps.length+1:=by simp[yX];omega
theorem O4 {ps:List ar} {p:ar} {i j:Nat} (hi:i<=ps.length) (hj:j<i):fq (yX ps p i) j=fq ps j:=by
 unfold fq yX
 rw[List.getD_eq_getElem?_getD,List.getD_eq_getElem?_getD,List.getElem?_append_left (by simp;omega),List.getElem?_take,if_pos (by omega),List.getElem?_append_left (by omega)]
theorem Hn (ps:List ar) (p:ar):yX ps p ps.length=ps++[p]:=by
 unfold yX
 rw[List.drop_length,List.append_nil,List.take_of_length_le (by simp)]
theorem Kb {ps:List ar} {p:ar} {i:Nat} (hi:i<ps.length):(yX ps p (i+1)).set (i+1) (fq ps i)=yX ps p i:=by
 refine List.ext_getElem? fun j=>?_
 rw[List.getElem?_set,pz ps p (by omega)]
 unfold yX
 by_cases hj:i+1=j
 ·subst hj
  rw[if_pos rfl,if_pos (by omega),List.getElem?_append_right (by simp;omega)]
  simp only[List.length_take,List.length_append,List.length_cons,List.length_nil]
  rw[show i+1-min (i+1) (ps.length+(0+1))=0 by omega,List.getElem?_drop,Nat.add_zero,List.getElem?_eq_getElem hi,iV hi]
 ·rw[if_neg hj]
  by_cases dM:j<i+1
  ·rw[List.getElem?_append_left (by simp;omega),List.getElem?_append_left (by simp;omega),List.getElem?_take,List.getElem?_take,if_pos (by omega),if_pos dM]
  ·rw[List.getElem?_append_right (by simp;omega),List.getElem?_append_right (by simp;omega)]
   simp only[List.length_take,List.length_append,List.length_cons,List.length_nil,List.getElem?_drop]
   congr 1
   omega
theorem Ml {ps:List ar} {p:ar} {i:Nat} (hi:i<=ps.length):(yX ps p i).set i p=ps.take i++p::ps.drop i:=by
 refine List.ext_getElem? fun j=>?_
 rw[List.getElem?_set,pz ps p hi]
 unfold yX
 by_cases hj:i=j
 ·subst hj
  rw[if_pos rfl,if_pos (by omega),List.getElem?_append_right (by simp;omega)]
  simp[Nat.min_eq_left hi]
 ·rw[if_neg hj]
  by_cases dM:j<i
  ·rw[List.getElem?_append_left (by simp;omega),List.getElem?_append_left (by simp;omega),List.getElem?_take,List.getElem?_take,if_pos (by omega),if_pos dM,List.getElem?_append_left (by omega)]
  ·rw[List.getElem?_append_right (by simp;omega),List.getElem?_append_right (by simp;omega)]
   simp only[List.length_take,List.length_append,List.length_cons,List.length_nil]
   rw[show j-min i ps.length=(j-i-1)+1 by omega,List.getElem?_cons_succ]
   congr 1
   omega
theorem Mn {X:fE} {Q:Ex->Env->au->Prop} {N:Env->au->Prop} {c:VC} {env:Env} {σ:au} {id:Nat} (I:Env->au->Prop) (h2:∀e s,I e s->N e s) (h1:∀N':Env->au->Prop,(∀e s,I e s->N' e s)->dG X c (aZ id (dn N' Q)) env σ):dG X c (aZ id (dn N Q)) env σ:=h1 N h2
theorem xI (ps:List ar) (hR:lZ ps) (hlen:ps.length<=1048576) (p:ar) (o:Id) (σ:au) (ho:σ.get o=some ⟨true,2,ps.map aa⟩) (pK:o.bq<σ.next):
  Call Tryz.prog 112 [.own o 0 ps.length,.agg (aa p)] σ (Qb σ (fun x=>(x=o)=False) (oN ps p)):=by
 refine eW ek rfl fun mV=>?_
 clear mV
 have qv:=dq pK
 have SB:=zP ps p
 have AM:(ps.map aa).length=ps.length:=by simp
 (try((repeat(revert hN;revert N;apply Pn.out));refine wk (tw @aa.eq_1 @qv) ?_;(repeat(refine Pn.mk ?_;intro N hN))))
 refine Mn (fun e s=>e 5=.int .i64 (jO ps p:Int)/\e 0=.own o 0 ps.length/\e 3=.ptr ⟨112000000,σ.next⟩ 0 0/\s.get ⟨112000000,σ.next⟩=some ⟨true,2,[aa p]⟩/\s.get o=some ⟨true,2,ps.map aa⟩/\σ.next<s.next/\∀x:Id,x.bq<σ.next->s.get x=σ.get x) ?_ ?_
 ·rintro e s ⟨f5,f0,f3,fg0,fg1,fn,ffr⟩
  refine hN _ _ ?_
  clear hN N
  have Ly:=dq (i:=o) (n:=s.next) (by omega)
  obtain⟨a,ha⟩:∃a,jO ps p=a:=⟨_,rfl⟩
  rw[ha]at f5 SB
  by_cases hex:a<ps.length/\fq ps a=p
  ·have dM:(a:Int)<(ps.length:Int):=by omega
   have hg:=rM hex.1
   have hx:decide ((fq ps a).eY=p.eY)=true:=decide_eq_true (by rw[hex.2])
   have hy:decide ((fq ps a).eU=p.eU)=true:=decide_eq_true (by rw[hex.2])
   (try((repeat(revert hN;revert N;apply Pn.out));refine wk (tw @f5 (tw @f0 (tw @f3 (tw @fg0 (tw @fg1 (tw @dM (tw @hg (tw @hx (tw @hy (tw @AM @aa.eq_1)))))))))) ?_;(repeat(refine Pn.mk ?_;intro N hN))))
   have hp:oN ps p=ps:=by unfold oN;rw[ha,if_pos hex]
   rw[hp]
   exact fc (.inl rfl) (vs:=[.own o 0 ps.length]) (sd @Nat.zero_add) ⟨o,rfl,sd @fg1,by(try dsimp only);omega,by(try dsimp only);omega,.inr (by simp),fun x hx _=>sd (ffr x hx)⟩
  refine CI (fun N hN=>?_)
  refine EL (fun e s=>e 5=.int .i64 (a:Int)/\e 0=.own o 0 ps.length/\e 3=.ptr ⟨112000000,σ.next⟩ 0 0/\s.get ⟨112000000,σ.next⟩=some ⟨true,2,[aa p]⟩/\s.get o=some ⟨true,2,ps.map aa⟩/\σ.next<s.next/\∀x:Id,x.bq<σ.next->s.get x=σ.get x) ?_ ?_
  ·clear f5 f0 f3 fg0 fg1 fn ffr Ly
   rintro e s ⟨f5,f0,f3,fg0,fg1,fn,ffr⟩
   refine hN _ _ ?_
   clear hN N
   have Ly:=dq (i:=o) (n:=s.next) (by omega)
   have PV:=dq (i:=⟨112000000,σ.next⟩) (n:=s.next) fn
   have e1:ps.length+1<=16777216:=by omega
   have pM:ps.map aa++[[.int .i64 p.eY,.int .i64 p.eU]]=(yX ps p ps.length).map aa:=by rw[Hn];simp[aa]
   have mW:IntKind.i64.wrap ((ps.length:Int)+1-1)=(ps.length:Int):=by rw[aV (by omega)];omega
   have hp:oN ps p=ps.take a++p::ps.drop a:=by unfold oN;rw[ha,if_neg hex]
   have Oi:((⟨112000000,σ.next⟩:Id)=o)=False:=by
    refine eq_false fun h=>?_
    rw[<-h]at pK;exact Nat.lt_irrefl _ pK
   (try((repeat(revert hN;revert N;apply Pn.out));refine wk (tw @f5 (tw @f0 (tw @f3 (tw @fg0 (tw @fg1 (tw @Ly (tw @PV (tw @Oi (tw @AM (tw @e1 (tw @pM (tw @mW (tw @Int.natCast_add (tw @Int.cast_ofNat_Int @aa.eq_1)))))))))))))) ?_;(repeat(refine Pn.mk ?_;intro N hN))))
   refine aI (fun m env st=>∃i:Nat,m=i/\a<=i/\i<=ps.length/\env 6=.int .i64 (i:Int)/\st.get ⟨112006003,s.next⟩=some ⟨true,2,(yX ps p i).map aa⟩/\st.get ⟨112000000,σ.next⟩=some ⟨true,2,[aa p]⟩/\s.next<st.next/\∀x:Id,x.bq<σ.next->(x=o)=False->st.get x=σ.get x) ps.length ⟨ps.length,rfl,SB,Nat.le_refl _,sd (tw @mW (tw @Int.natCast_add @Int.cast_ofNat_Int)),sd @pM,sd (tw @fg0 (tw @PV (tw @Oi @aa.eq_1))),by(try dsimp only);omega,fun x hx AO=>by
    have h1:=dq (i:=x) (n:=s.next) (by omega)
    have h2:=ffr x hx
    simp only[go_sem, ↓reduceIte,Nat.reduceEqDiff,Nat.reduceAdd,Nat.reduceSub,Nat.reduceLeDiff,reduceCtorEq,h1,h2,AO]⟩ ?_
   rintro m env_b st_b ⟨i,hmi,bl,ble,b6,bg0,bg1,bn,eS⟩ bkp
   have b0:=bkp 0 (by kernel_rfl)
   have b3:=bkp 3 (by kernel_rfl)
   have b5:=bkp 5 (by kernel_rfl)
   simp only[go_sem, ↓reduceIte,Nat.reduceEqDiff,Nat.reduceAdd,Nat.reduceSub,Nat.reduceLeDiff,reduceCtorEq,f0,f3,f5,aa]at b0 b3 b5
   clear bkp
   have Uy:((yX ps p i).map aa).length=ps.length+1:=by rw[List.length_map,pz ps p ble]
   by_cases Ky:(a:Int)<(i:Int)
   ·obtain⟨k,rfl⟩:∃k,i=k+1:=⟨i-1,by omega⟩
    have eZ:k<ps.length:=by omega
    have oF:IntKind.i64.wrap (((k+1:Nat):Int)-1)=(k:Int):=by rw[aV (by omega)];omega
    have hq:((yX ps p (k+1)).map aa)[k]? =some (aa (fq ps k)):=by rw[rM (by rw[pz ps p ble];omega),O4 ble (Nat.lt_succ_self _)]
    have yn:∃z,((yX ps p (k+1)).map aa)[k+1]? =some (aa z):=⟨_,rM (by rw[pz ps p ble];omega)⟩
    obtain⟨z,yn⟩:=yn
    have dO:((yX ps p (k+1)).map aa).set (k+1) (aa (fq ps k))=(yX ps p k).map aa:=by rw[M8,Kb eZ]
    have c1:(k:Int)<(ps.length:Int)+1:=by omega
    have c2:(k:Int)+1<(ps.length:Int)+1:=by omega
    have c3:(0:Int)<=(k:Int)+1:=by omega
    have c4:((k:Int)+1).toNat=k+1:=by omega
    have c5:(a:Int)<(k:Int)+1:=by omega
    have c6:IntKind.i64.wrap ((k:Int)+1-1)=(k:Int):=by rw[aV (by omega)];omega
    rw[aa]at dO hq yn
    (try((repeat(revert hN;revert N;apply Pn.out));refine wk (tw @b0 (tw @b3 (tw @b5 (tw @b6 (tw @bg0 (tw @bg1 (tw @Ky (tw @oF (tw @hq (tw @yn (tw @dO (tw @Uy (tw @c1 (tw @c2 (tw @c3 (tw @c4 (tw @c5 (tw @c6 (tw @Int.natCast_add @Int.cast_ofNat_Int))))))))))))))))))) ?_;(repeat(refine Pn.mk ?_;intro N hN))))
    exact⟨k,by omega,k,rfl,by omega,by omega,sd @c6,sd @dO,sd (tw @bg1 @Oi),by(try dsimp only);omega,fun x hx AO=>by
     have h1:=dq (i:=x) (n:=s.next) (by omega)
     have h2:=eS x hx AO
     simp only[go_sem, ↓reduceIte,Nat.reduceEqDiff,Nat.reduceAdd,Nat.reduceSub,Nat.reduceLeDiff,reduceCtorEq,h1,h2]⟩
   ·obtain rfl:i=a:=by omega
    have dO:((yX ps p i).map aa).set i (aa p)=(oN ps p).map aa:=by rw[M8,Ml SB,hp]
    have yn:∃z,((yX ps p i).map aa)[i]? =some (aa z):=⟨_,rM (by rw[pz ps p ble];omega)⟩
    obtain⟨z,yn⟩:=yn
    have mH:(oN ps p).length=ps.length+1:=by rw[hp];simp;omega
    have c1:(i:Int)<(ps.length:Int)+1:=by omega
    rw[aa]at dO yn
    (try((repeat(revert hN;revert N;apply Pn.out));refine wk (tw @b0 (tw @b3 (tw @b5 (tw @b6 (tw @bg0 (tw @bg1 (tw @Ky (tw @yn (tw @dO (tw @Uy (tw @c1 (tw @Int.natCast_add (tw @Int.cast_ofNat_Int @aa.eq_1))))))))))))) ?_;(repeat(refine Pn.mk ?_;intro N hN))))
    rw[<-mH]
    exact fc (.inl rfl) (vs:=[.own ⟨112006003,s.next⟩ 0 (oN ps p).length]) (sd (tw @b0 @mH)) ⟨⟨112006003,s.next⟩,rfl,sd @dO,by(try dsimp only);omega,by(try dsimp only);omega,.inl (by(try dsimp only);omega),fun x hx AO=>by
     have h1:=dq (i:=x) (n:=s.next) (by omega)
     have h2:=eS x hx AO
     simp only[go_sem, ↓reduceIte,Nat.reduceEqDiff,Nat.reduceAdd,Nat.reduceSub,Nat.reduceLeDiff,reduceCtorEq,h1,h2]⟩
  ·intro N hN
   by_cases Ku:(a:Int)<(ps.length:Int)
   ·have hg:=rM (ps:=ps) (i:=a) (by omega)
    by_cases hx:(fq ps a).eY=p.eY
    ·have tC:decide ((fq ps a).eY=p.eY)=true:=decide_eq_true hx
     have SN:decide ((fq ps a).eU=p.eU)=false:=decide_eq_false fun h=>hex ⟨by omega,Ab hx h⟩
     (try((repeat(revert hN;revert N;apply Pn.out));refine wk (tw @f5 (tw @f0 (tw @f3 (tw @fg0 (tw @fg1 (tw @Ku (tw @hg (tw @tC (tw @SN (tw @AM @aa.eq_1)))))))))) ?_;(repeat(refine Pn.mk ?_;intro N hN))))
     exact⟨sd @f5,sd @f0,sd @f3,sd (tw @fg0 @aa.eq_1),sd @fg1,by(try dsimp only);omega,fun x hx=>sd (ffr x hx)⟩
    ·have tC:decide ((fq ps a).eY=p.eY)=false:=decide_eq_false hx
     (try((repeat(revert hN;revert N;apply Pn.out));refine wk (tw @f5 (tw @f0 (tw @f3 (tw @fg0 (tw @fg1 (tw @Ku (tw @hg (tw @tC (tw @Bool.false_and (tw @AM @aa.eq_1)))))))))) ?_;(repeat(refine Pn.mk ?_;intro N hN))))
     exact⟨sd @f5,sd @f0,sd @f3,sd (tw @fg0 @aa.eq_1),sd @fg1,by(try dsimp only);omega,fun x hx=>sd (ffr x hx)⟩
   ·(try((repeat(revert hN;revert N;apply Pn.out));refine wk (tw @f5 (tw @f0 (tw @f3 (tw @fg0 (tw @fg1 (tw @Ku (tw @AM @aa.eq_1))))))) ?_;(repeat(refine Pn.mk ?_;intro N hN))))
    exact⟨sd @f5,sd @f0,sd @f3,sd (tw @fg0 @aa.eq_1),sd @fg1,by(try dsimp only);omega,fun x hx=>sd (ffr x hx)⟩
 intro N hN
 refine aI (fun m env st=>∃a:Nat,m=a/\jO ps p<=a/\a<=ps.length/\env 5=.int .i64 (a:Int)/\st.get ⟨112000000,σ.next⟩=some ⟨true,2,[aa p]⟩/\st.get o=some ⟨true,2,ps.map aa⟩/\σ.next<st.next/\∀x:Id,x.bq<σ.next->st.get x=σ.get x) ps.length ⟨ps.length,rfl,SB,Nat.le_refl _,sd @Nat.zero_add,sd @aa.eq_1,sd (tw @qv @ho),by(try dsimp only);omega,fun x hx=>by have:=dq hx;simp only[go_sem, ↓reduceIte,Nat.reduceEqDiff,Nat.reduceAdd,Nat.reduceSub,Nat.reduceLeDiff,reduceCtorEq,this]⟩ ?_
 rintro m env_a st_a ⟨a,hma,al,ale,a5,ag0,ag1,an,dp⟩ akp
 have a0:=akp 0 (by kernel_rfl)
 have a3:=akp 3 (by kernel_rfl)
 simp only[go_sem, ↓reduceIte,Nat.reduceEqDiff,Nat.reduceAdd,Nat.reduceSub,Nat.reduceLeDiff,reduceCtorEq,aa]at a0 a3
 clear akp
 by_cases h0:(0:Int)<(a:Int)
 ·obtain⟨b,rfl⟩:∃b,a=b+1:=⟨a-1,by omega⟩
  have oE:b<ps.length:=by omega
  have fF:(b:Int)<(ps.length:Int):=by omega
  have hg:=rM oE
  have hw:IntKind.i64.wrap (((b+1:Nat):Int)-1)=(b:Int):=by rw[aV (by omega)];omega
  have hq:=nW (fq ps b) p
  cases hc:kH (fq ps b) p
  ·rw[hc]at hq
   (repeat(first|((repeat(revert hN;revert N;apply Pn.out));refine wk (tw @a0 (tw @a3 (tw @a5 (tw @ag0 (tw @ag1 (tw @h0 (tw @fF (tw @hg (tw @hw (tw @AM @aa.eq_1)))))))))) ?_;(repeat(refine Pn.mk ?_;intro N hN)))|((try apply Or.inl);refine⟨_,aj.x (hq) (sd (tw @a0 (tw @a3 (tw @a5 (tw @ag0 (tw @ag1 (tw @h0 (tw @fF (tw @hg (tw @hw (tw @AM @aa.eq_1))))))))))),?_⟩;refine hN _ _ ?_;clear hN N)))
   refine⟨b,by omega,b,rfl,?_,by omega,sd @hw,sd (tw @ag0 @aa.eq_1),sd @ag1,by(try dsimp only);omega,fun x hx=>sd (dp x hx)⟩
   rcases Nat.lt_or_ge b (jO ps p)with h|h
   ·rw[Fy h]at hc;cases hc
   ·exact h
  ·rw[hc]at hq
   have jM:jO ps p=b+1:=by
    rcases Nat.lt_or_ge b (jO ps p)with h|h
    ·omega
    ·have:=zO (p:=p) hR h oE
     rw[hc]at this;cases this
   (repeat(first|((repeat(revert hN;revert N;apply Pn.out));refine wk (tw @a0 (tw @a3 (tw @a5 (tw @ag0 (tw @ag1 (tw @h0 (tw @fF (tw @hg (tw @hw (tw @AM @aa.eq_1)))))))))) ?_;(repeat(refine Pn.mk ?_;intro N hN)))|((try apply Or.inl);refine⟨_,aj.x (hq) (sd (tw @a0 (tw @a3 (tw @a5 (tw @ag0 (tw @ag1 (tw @h0 (tw @fF (tw @hg (tw @hw (tw @AM @aa.eq_1))))))))))),?_⟩;refine hN _ _ ?_;clear hN N)))
   exact⟨sd (tw @a5 @jM),sd @a0,sd @a3,sd (tw @ag0 @aa.eq_1),sd @ag1,by(try dsimp only);omega,fun x hx=>sd (dp x hx)⟩
 ·have jM:jO ps p=a:=by omega
  (try((repeat(revert hN;revert N;apply Pn.out));refine wk (tw @a0 (tw @a3 (tw @a5 (tw @ag0 (tw @ag1 (tw @h0 (tw @AM @aa.eq_1))))))) ?_;(repeat(refine Pn.mk ?_;intro N hN))))
  exact⟨sd (tw @a5 @jM),sd @a0,sd @a3,sd (tw @ag0 @aa.eq_1),sd @ag1,by(try dsimp only);omega,fun x hx=>sd (dp x hx)⟩
end Go.Proofs.YtgoelphibofcmaaGreat.V

namespace Go.Proofs.YtgoelphibofcmaaGreat.V
open Go.RowKit
attribute [local irreducible] dG wpOps gz Call
attribute [local go_sem] aL fU eV gw gr cK upd cw K.av cU AV.cells AV.cell rowOf rowsOf part ld rowAt bJ cr dK ep iC bR dj eF gq fh dz ew dh de ec ee bV bh cX bU cZ cY eu ez ev cW cj di er bS aQ db cG iA bz cN bW aX dn aZ dL AV.undef bG bK ef eo dW ea cJ eE eH cD eB eA da dc List.getD_cons_zero List.getD_cons_succ List.getD_nil List.all_cons List.all_nil Bool.and_true Bool.true_and Bool.and_self Bool.not_true Bool.not_false Option.map_some Option.map_none Option.bind_some Option.bind_none List.length_cons List.length_nil List.take_succ_cons List.take_zero List.take_nil List.drop_succ_cons List.drop_zero List.drop_nil List.head?_cons List.map_cons List.map_nil List.getElem?_cons_zero List.getElem?_cons_succ List.cons_append List.nil_append List.append_nil List.length_map List.set_cons_zero List.set_cons_succ Nat.reduceMul eq_self Int.toNat_natCast Int.natCast_nonneg and_self true_and and_true decide_true decide_false Bool.false_eq_true Nat.zero_add Nat.add_zero List.contains_cons List.contains_nil Bool.or_false Bool.false_or beq_self_eq_true Nat.reduceBEq ne_eq not_true_eq_false not_false_eq_true Id.mk.injEq false_and and_false Nat.reduceLT Int.reduceLE Int.reduceLT Int.reduceToNat Int.reduceNeg Int.reduceAdd Nat.le_refl List.length_append beq_true beq_false Bool.not_eq_eq_eq_not or_false false_or dX ai aq aH bj bE cu aW br aU bp cV bP
def jw (l:List ah) (ps:List ar) (q:ar):List ar:=if qH q=true/\eL l q<0 then oN ps q else ps
def e7 (l:List ah) (ps:List ar) (p:ar):Nat->List ar
 |0=>ps
 |d+1=>jw l (e7 l ps p d) (cq p d)
def eI (l:List ah):Nat->List ar
 |0=>[]
 |i+1=>e7 l (eI l i) (aT l i).aO 4
def jv (l:List ah):List ar:=eI l l.length
theorem zX {l:List ah} {ps:List ar} (h:lZ ps) (q:ar):lZ (jw l ps q):=by
 unfold jw;split
 ·exact Cm h q
 ·exact h
theorem qF {l:List ah} {ps:List ar} (h:lZ ps) (p:ar):∀d,lZ (e7 l ps p d)
 |0=>h
 |d+1=>zX (qF h p d) _
theorem qG (l:List ah):∀i,lZ (eI l i)
 |0=>List.Pairwise.nil
 |i+1=>qF (qG l i) _ 4
theorem zW (l:List ah) (ps:List ar) (q:ar):(jw l ps q).length<=ps.length+1:=by
 unfold jw;split
 ·exact Cl ps q
 ·omega
theorem qE (l:List ah) (ps:List ar) (p:ar):∀d,(e7 l ps p d).length<=ps.length+d
 |0=>Nat.le_refl _
 |d+1=>by
  have:=qE l ps p d
  have:=zW l (e7 l ps p d) (cq p d)
  simp only[e7];omega
theorem ni (l:List ah):∀i,(eI l i).length<=i*4
 |0=>Nat.le_refl _
 |i+1=>by
  have:=ni l i
  have:=qE l (eI l i) (aT l i).aO 4
  simp only[eI];omega
theorem v7 (l:List ah) (ps:List ar) (p:ar) (x:ar):∀d,x∈e7 l ps p d↔x∈ps∨∃k,k<d/\x=cq p (k:Nat)/\qH x=true/\eL l x<0
 |0=>⟨.inl,fun h=>h.elim id fun⟨_,h,_⟩=>absurd h (Nat.not_lt_zero _)⟩
 |d+1=>by
  simp only[e7,jw]
  have ih:=v7 l ps p x d
  split
  ·rename_i h
   rw[B6,ih]
   constructor
   ·rintro(rfl|h1|⟨k,h1,h2⟩)
    ·exact .inr ⟨d,Nat.lt_succ_self _,rfl,h⟩
    ·exact .inl h1
    ·exact .inr ⟨k,by omega,h2⟩
   ·rintro(h1|⟨k,h1,h2⟩)
    ·exact .inr (.inl h1)
    ·by_cases hk:k=d
     ·subst hk;exact .inl h2.1
     ·exact .inr (.inr ⟨k,by omega,h2⟩)
  ·rename_i h
   rw[ih]
   constructor
   ·rintro(h1|⟨k,h1,h2⟩)
    ·exact .inl h1
    ·exact .inr ⟨k,by omega,h2⟩
   ·rintro(h1|⟨k,h1,h2⟩)
    ·exact .inl h1
    ·by_cases hk:k=d
     ·subst hk;rw[h2.1]at h2;exact absurd h2.2 h
     ·exact .inr ⟨k,by omega,h2⟩
def HO (l:List ah) (x:ar):Prop:=qH x=true/\eL l x<0/\∃i d:Nat,i<l.length/\d<4/\x=cq (aT l i).aO d
theorem v8 (l:List ah) (x:ar):∀i,x∈eI l i↔∃j d:Nat,j<i/\d<4/\x=cq (aT l j).aO d/\qH x=true/\eL l x<0
 |0=>⟨fun h=>(by cases h),fun⟨_,_,h,_⟩=>absurd h (Nat.not_lt_zero _)⟩
 |i+1=>by
  simp only[eI]
  rw[v7,v8 l x i]
  constructor
  ·rintro(⟨j,d,h1,h2⟩|⟨d,h1,h2⟩)
   ·exact⟨j,d,by omega,h2⟩
   ·exact⟨i,d,Nat.lt_succ_self _,h1,h2⟩
  ·rintro⟨j,d,h1,h2,h3⟩
   by_cases hj:j=i
   ·subst hj;exact .inr ⟨d,h2,h3⟩
   ·exact .inl ⟨j,d,by omega,h2,h3⟩
theorem yH (l:List ah) (x:ar):x∈jv l↔HO l x:=by
 unfold jv HO
 rw[v8]
 exact⟨fun⟨j,d,h1,h2,h3,h4,h5⟩=>⟨h4,h5,j,d,h1,h2,h3⟩,fun⟨h4,h5,j,d,h1,h2,h3⟩=>⟨j,d,h1,h2,h3,h4,h5⟩⟩
theorem GD (l:List ah) (hF:iW l) (σ:au):Call Tryz.prog 71 [.cQ [.sl (l.map ad)]] σ (Qb σ (fun _=>True) (jv l)):=by
 refine eW ek rfl fun mV=>?_
 clear mV
 have hR:=hF.M9
 have Bv:=hF.w8
 (try((repeat(revert hN;revert N;apply Pn.out));refine wk @Nat.zero_add ?_;(repeat(refine Pn.mk ?_;intro N hN))))
 refine aI (fun n env st=>∃i:Nat,n=(l.length)-i/\i<=(l.length)/\env 4=.int .i64 (i:Int)/\(∃o:Id,env 3=.own o 0 (eI l i).length/\st.get o=some ⟨true,2,(eI l i).map aa⟩/\o.bq<st.next/\σ.next<=o.bq/\∀x:Id,x.bq<σ.next->st.get x=σ.get x)) (l.length) ⟨0,by omega,by omega,sl @Nat.zero_add,⟨⟨71001000,σ.next+1⟩,by simp only[go_sem, ↓reduceIte,Nat.reduceEqDiff,Nat.reduceAdd,Nat.reduceSub,Nat.reduceLeDiff,reduceCtorEq];rfl,by simp only[go_sem, ↓reduceIte,Nat.reduceEqDiff,Nat.reduceAdd,Nat.reduceSub,Nat.reduceLeDiff,reduceCtorEq];rfl,by(try dsimp only);omega,by(try dsimp only);omega,fun x hx=>by
  have:=dq (i:=x) (n:=σ.next+1) (by omega)
  simp only[go_sem, ↓reduceIte,Nat.reduceEqDiff,Nat.reduceAdd,Nat.reduceSub,Nat.reduceLeDiff,reduceCtorEq,this]⟩⟩ ?_
 rintro n_a env_a st_a ⟨i,rfl,ale,a4,j9⟩ dp
 have a0:=dp 0 (by kernel_rfl)
 simp only[go_sem, ↓reduceIte,Nat.reduceEqDiff,Nat.reduceAdd,Nat.reduceSub,Nat.reduceLeDiff,reduceCtorEq]at a0
 clear dp
 obtain⟨o,a3,ag,aov,R0,dp⟩:=j9
 by_cases hi:(i:Int)<(l.length:Int)
 ·have ck:∀{e:Env} {gg:Rows} {nx:Nat},(e 4=.int .i64 (IntKind.i64.wrap ((i:Int)+1)))->(∃o:Id,e 3=.own o 0 (eI l (i+1)).length/\gg o=some ⟨true,2,(eI l (i+1)).map aa⟩/\o.bq<nx/\σ.next<=o.bq/\∀x:Id,x.bq<σ.next->gg x=σ.get x)->∃m0,m0<(l.length)-i/\∃i:Nat,m0=(l.length)-i/\i<=(l.length)/\e 4=.int .i64 (i:Int)/\(∃o:Id,e 3=.own o 0 (eI l i).length/\gg o=some ⟨true,2,(eI l i).map aa⟩/\o.bq<nx/\σ.next<=o.bq/\∀x:Id,x.bq<σ.next->gg x=σ.get x):=fun x1 x2=>⟨_,by omega,i+1,rfl,by omega,(by rw[x1,aA (by omega)]),x2⟩
  have fP:i<l.length:=by omega
  (try((repeat(revert hN;revert N;apply Pn.out));refine wk (tw @a4 (tw @a0 (tw @a3 @hi))) ?_;(repeat(refine Pn.mk ?_;intro N hN))))
  refine aI (fun n env st=>∃d:Nat,n=(4)-d/\d<=(4)/\env 5=.int .i64 (d:Int)/\(∃o:Id,env 3=.own o 0 (e7 l (eI l i) (aT l i).aO d).length/\st.get o=some ⟨true,2,(e7 l (eI l i) (aT l i).aO d).map aa⟩/\o.bq<st.next/\σ.next<=o.bq/\∀x:Id,x.bq<σ.next->st.get x=σ.get x)) (4) ⟨0,by omega,by omega,sl (tw @a4 @a0),⟨o,by simp only[go_sem, ↓reduceIte,Nat.reduceEqDiff,Nat.reduceAdd,Nat.reduceSub,Nat.reduceLeDiff,reduceCtorEq,a3,e7],by simp only[go_sem, ↓reduceIte,Nat.reduceEqDiff,Nat.reduceAdd,Nat.reduceSub,Nat.reduceLeDiff,reduceCtorEq,ag,e7],by(try dsimp only);omega,R0,fun x hx=>sd (dp x hx)⟩⟩ ?_
  rintro n_b env_b st_b ⟨d,rfl,ble,b5,bI0⟩ eS
  have b0:=eS 0 (by kernel_rfl);have b4:=eS 4 (by kernel_rfl)
  simp only[go_sem, ↓reduceIte,Nat.reduceEqDiff,Nat.reduceAdd,Nat.reduceSub,Nat.reduceLeDiff,reduceCtorEq,a4,a0]at b0 b4
  clear eS
  obtain⟨ob,b3,bg,bov,MC,eS⟩:=bI0
  by_cases hd:(d:Int)<4
  ·have eR:∀{e:Env} {gg:Rows} {nx:Nat},(e 5=.int .i64 (IntKind.i64.wrap ((d:Int)+1)))->(∃o:Id,e 3=.own o 0 (e7 l (eI l i) (aT l i).aO (d+1)).length/\gg o=some ⟨true,2,(e7 l (eI l i) (aT l i).aO (d+1)).map aa⟩/\o.bq<nx/\σ.next<=o.bq/\∀x:Id,x.bq<σ.next->gg x=σ.get x)->∃m0,m0<(4)-d/\∃d:Nat,m0=(4)-d/\d<=(4)/\e 5=.int .i64 (d:Int)/\(∃o:Id,e 3=.own o 0 (e7 l (eI l i) (aT l i).aO d).length/\gg o=some ⟨true,2,(e7 l (eI l i) (aT l i).aO d).map aa⟩/\o.bq<nx/\σ.next<=o.bq/\∀x:Id,x.bq<σ.next->gg x=σ.get x):=fun x1 x2=>⟨_,by omega,d+1,rfl,by omega,(by rw[x1,aA (by omega)]),x2⟩
   have lh:=fN fP
   have Lr:=nk (hF.pt fP)
   have dB:=sO (aT l i).aO d (js (by omega)) Lr.1 Lr.2
   have HB:=qz (cq (aT l i).aO d)
   have kG:=dq bov
   have AM:((e7 l (eI l i) (aT l i).aO d).map aa).length=(e7 l (eI l i) (aT l i).aO d).length:=by simp
   cases hp:qH (cq (aT l i).aO d)
   ·rw[hp]at HB
    have jf:e7 l (eI l i) (aT l i).aO (d+1)=e7 l (eI l i) (aT l i).aO d:=by
     simp only[e7,jw];rw[if_neg fun h=>by rw[hp]at h;cases h.1]
    (repeat(first|((repeat(revert hN;revert N;apply Pn.out));refine wk (tw @b5 (tw @b0 (tw @b4 (tw @b3 (tw @bg (tw @hd (tw @lh (tw @kG (tw @ad.eq_1 @aa.eq_1))))))))) ?_;(repeat(refine Pn.mk ?_;intro N hN)))|((try apply Or.inl);refine⟨_,aj.x (dB) (sd (tw @b5 (tw @b0 (tw @b4 (tw @b3 (tw @bg (tw @hd (tw @lh (tw @kG (tw @ad.eq_1 @aa.eq_1)))))))))),?_⟩;refine hN _ _ ?_;clear hN N)|((try apply Or.inl);refine⟨_,aj.x (HB) (sd (tw @b5 (tw @b0 (tw @b4 (tw @b3 (tw @bg (tw @hd (tw @lh (tw @kG (tw @ad.eq_1 @aa.eq_1)))))))))),?_⟩;refine hN _ _ ?_;clear hN N)))
    exact eR (sd (tw @b5 (tw @b0 (tw @b4 @aa.eq_1)))) (by exact⟨ob,sd (tw @b3 @jf),sd (tw @bg (tw @kG @jf)),by(try dsimp only);omega,MC,fun x hx=>by
     have h1:=dq (i:=x) (n:=st_b.next) (by omega)
     have h2:=dq (i:=x) (n:=st_b.next+1) (by omega)
     have h3:=eS x hx
     simp only[go_sem, ↓reduceIte,Nat.reduceEqDiff,Nat.reduceAdd,Nat.reduceSub,Nat.reduceLeDiff,reduceCtorEq,h1,h2,h3]⟩)
   ·rw[hp]at HB
    have CT:=mZ l (cq (aT l i).aO d) hR (by omega)
    by_cases hx:eL l (cq (aT l i).aO d)<0
    ·have jf:e7 l (eI l i) (aT l i).aO (d+1)=oN (e7 l (eI l i) (aT l i).aO d) (cq (aT l i).aO d):=by
      simp only[e7,jw];rw[if_pos ⟨hp,hx⟩]
     have hl1:=qE l (eI l i) (aT l i).aO d
     have QW:=ni l i
     (repeat(first|((repeat(revert hN;revert N;apply Pn.out));refine wk (tw @b5 (tw @b0 (tw @b4 (tw @b3 (tw @bg (tw @hd (tw @lh (tw @kG (tw @hx (tw @ad.eq_1 @aa.eq_1)))))))))) ?_;(repeat(refine Pn.mk ?_;intro N hN)))|((try apply Or.inl);refine⟨_,aj.x (dB) (sd (tw @b5 (tw @b0 (tw @b4 (tw @b3 (tw @bg (tw @hd (tw @lh (tw @kG (tw @hx (tw @ad.eq_1 @aa.eq_1))))))))))),?_⟩;refine hN _ _ ?_;clear hN N)|((try apply Or.inl);refine⟨_,aj.x (HB) (sd (tw @b5 (tw @b0 (tw @b4 (tw @b3 (tw @bg (tw @hd (tw @lh (tw @kG (tw @hx (tw @ad.eq_1 @aa.eq_1))))))))))),?_⟩;refine hN _ _ ?_;clear hN N)|((try apply Or.inl);refine⟨_,aj.x (CT) (sd (tw @b5 (tw @b0 (tw @b4 (tw @b3 (tw @bg (tw @hd (tw @lh (tw @kG (tw @hx (tw @ad.eq_1 @aa.eq_1))))))))))),?_⟩;refine hN _ _ ?_;clear hN N)))
     refine .inr (aG _ _ _ _ _ (fun r σ1 hq=>?_) (xI _ (qF (qG l i) _ d) (by omega) (cq (aT l i).aO d) ob _ (sd (tw @bg @kG)) (by(try dsimp only);omega)))
     obtain⟨g1,x1⟩:=σ1
     obtain⟨o1,rfl,q1,q2,q3,q4,q5⟩:=hq
     (try dsimp only at q1 q2 q3 q4 q5)
     refine hN _ _ ?_
     clear hN N
     (try((repeat(revert hN;revert N;apply Pn.out));refine wk (tw @b5 (tw @b0 @b4)) ?_;(repeat(refine Pn.mk ?_;intro N hN))))
     exact eR (sd (tw @b5 (tw @b0 (tw @b4 @aa.eq_1)))) (by exact⟨o1,sd @jf,sd (tw @q1 @jf),by(try dsimp only);omega,by
      rcases q4 with h|h
      ·omega
      ·have:o1=ob:=by simpa using h
       rw[this];exact MC,fun x hx=>by
      have h1:=dq (i:=x) (n:=st_b.next) (by omega)
      have h2:=dq (i:=x) (n:=st_b.next+1) (by omega)
      have h3:=eS x hx
      have h4:(x=ob)=False:=eq_false fun h=>by rw[h]at hx;omega
      have h5:=q5 x (by omega) h4
      simp only[go_sem, ↓reduceIte,Nat.reduceEqDiff,Nat.reduceAdd,Nat.reduceSub,Nat.reduceLeDiff,reduceCtorEq,h1,h2,h3,h5]⟩)
    ·have jf:e7 l (eI l i) (aT l i).aO (d+1)=e7 l (eI l i) (aT l i).aO d:=by
      simp only[e7,jw];rw[if_neg fun h=>hx h.2]
     (repeat(first|((repeat(revert hN;revert N;apply Pn.out));refine wk (tw @b5 (tw @b0 (tw @b4 (tw @b3 (tw @bg (tw @hd (tw @lh (tw @kG (tw @hx (tw @ad.eq_1 @aa.eq_1)))))))))) ?_;(repeat(refine Pn.mk ?_;intro N hN)))|((try apply Or.inl);refine⟨_,aj.x (dB) (sd (tw @b5 (tw @b0 (tw @b4 (tw @b3 (tw @bg (tw @hd (tw @lh (tw @kG (tw @hx (tw @ad.eq_1 @aa.eq_1))))))))))),?_⟩;refine hN _ _ ?_;clear hN N)|((try apply Or.inl);refine⟨_,aj.x (HB) (sd (tw @b5 (tw @b0 (tw @b4 (tw @b3 (tw @bg (tw @hd (tw @lh (tw @kG (tw @hx (tw @ad.eq_1 @aa.eq_1))))))))))),?_⟩;refine hN _ _ ?_;clear hN N)|((try apply Or.inl);refine⟨_,aj.x (CT) (sd (tw @b5 (tw @b0 (tw @b4 (tw @b3 (tw @bg (tw @hd (tw @lh (tw @kG (tw @hx (tw @ad.eq_1 @aa.eq_1))))))))))),?_⟩;refine hN _ _ ?_;clear hN N)))
     exact eR (sd (tw @b5 (tw @b0 (tw @b4 @aa.eq_1)))) (by exact⟨ob,sd (tw @b3 @jf),sd (tw @bg (tw @kG @jf)),by(try dsimp only);omega,MC,fun x hx=>by
      have h1:=dq (i:=x) (n:=st_b.next) (by omega)
      have h2:=dq (i:=x) (n:=st_b.next+1) (by omega)
      have h3:=eS x hx
      simp only[go_sem, ↓reduceIte,Nat.reduceEqDiff,Nat.reduceAdd,Nat.reduceSub,Nat.reduceLeDiff,reduceCtorEq,h1,h2,h3]⟩)
  ·have IF:d=4:=by omega
   rw[IF]at b3 bg
   have hnu:e7 l (eI l i) (aT l i).aO 4=eI l (i+1):=rfl
   rw[hnu]at b3 bg
   (try((repeat(revert hN;revert N;apply Pn.out));refine wk (tw @b5 (tw @b0 (tw @b4 (tw @b3 (tw @bg @hd))))) ?_;(repeat(refine Pn.mk ?_;intro N hN))))
   exact ck (sd (tw @b5 (tw @b0 (tw @b4 @aa.eq_1)))) (by exact⟨ob,sd @b3,sd @bg,by(try dsimp only);omega,MC,fun x hx=>sd (eS x hx)⟩)
 ·have mb:i=l.length:=by omega
  (try((repeat(revert hN;revert N;apply Pn.out));refine wk (tw @a4 (tw @a0 (tw @a3 (tw @ag @hi)))) ?_;(repeat(refine Pn.mk ?_;intro N hN))))
  exact fc (.inl rfl) (vs:=[.own o 0 (eI l i).length]) (sd @a3) ⟨o,by rw[jv,<-mb];rfl,by rw[jv,<-mb];simp only[go_sem, ↓reduceIte,Nat.reduceEqDiff,Nat.reduceAdd,Nat.reduceSub,Nat.reduceLeDiff,reduceCtorEq,ag],by(try dsimp only);omega,by(try dsimp only);omega,.inl R0,fun x hx _=>sd (dp x hx)⟩
end Go.Proofs.YtgoelphibofcmaaGreat.V

namespace Go.Proofs.YtgoelphibofcmaaGreat.V
open Go.RowKit
attribute [local irreducible] dG wpOps gz Call
attribute [local go_sem] aL fU eV gw gr cK upd cw K.av cU AV.cells AV.cell rowOf rowsOf part ld rowAt bJ cr dK ep iC bR dj eF gq fh dz ew dh de ec ee bV bh cX bU cZ cY eu ez ev cW cj di er bS aQ db cG iA bz cN bW aX dn aZ dL AV.undef bG bK ef eo dW ea cJ eE eH cD eB eA da dc List.getD_cons_zero List.getD_cons_succ List.getD_nil List.all_cons List.all_nil Bool.and_true Bool.true_and Bool.and_self Bool.not_true Bool.not_false Option.map_some Option.map_none Option.bind_some Option.bind_none List.length_cons List.length_nil List.take_succ_cons List.take_zero List.take_nil List.drop_succ_cons List.drop_zero List.drop_nil List.head?_cons List.map_cons List.map_nil List.getElem?_cons_zero List.getElem?_cons_succ List.cons_append List.nil_append List.append_nil List.length_map List.set_cons_zero List.set_cons_succ Nat.reduceMul eq_self Int.toNat_natCast Int.natCast_nonneg and_self true_and and_true decide_true decide_false Bool.false_eq_true Nat.zero_add Nat.add_zero List.contains_cons List.contains_nil Bool.or_false Bool.false_or beq_self_eq_true Nat.reduceBEq ne_eq not_true_eq_false not_false_eq_true Id.mk.injEq false_and and_false Nat.reduceLT Int.reduceLE Int.reduceLT Int.reduceToNat Int.reduceNeg Int.reduceAdd Nat.le_refl List.length_append beq_true beq_false Bool.not_eq_eq_eq_not or_false false_or dX ai aq aH bj bE cu aW br aU bp cV bP
end Go.Proofs.YtgoelphibofcmaaGreat.V

namespace Go.Proofs.YtgoelphibofcmaaGreat.V
open Go.RowKit
attribute [local irreducible] dG wpOps gz Call
attribute [local go_sem] aL fU eV gw gr cK upd cw K.av cU AV.cells AV.cell rowOf rowsOf part ld rowAt bJ cr dK ep iC bR dj eF gq fh dz ew dh de ec ee bV bh cX bU cZ cY eu ez ev cW cj di er bS aQ db cG iA bz cN bW aX dn aZ dL AV.undef bG bK ef eo dW ea cJ eE eH cD eB eA da dc List.getD_cons_zero List.getD_cons_succ List.getD_nil List.all_cons List.all_nil Bool.and_true Bool.true_and Bool.and_self Bool.not_true Bool.not_false Option.map_some Option.map_none Option.bind_some Option.bind_none List.length_cons List.length_nil List.take_succ_cons List.take_zero List.take_nil List.drop_succ_cons List.drop_zero List.drop_nil List.head?_cons List.map_cons List.map_nil List.getElem?_cons_zero List.getElem?_cons_succ List.cons_append List.nil_append List.append_nil List.length_map List.set_cons_zero List.set_cons_succ Nat.reduceMul eq_self Int.toNat_natCast Int.natCast_nonneg and_self true_and and_true decide_true decide_false Bool.false_eq_true Nat.zero_add Nat.add_zero List.contains_cons List.contains_nil Bool.or_false Bool.false_or beq_self_eq_true Nat.reduceBEq ne_eq not_true_eq_false not_false_eq_true Id.mk.injEq false_and and_false Nat.reduceLT Int.reduceLE Int.reduceLT Int.reduceToNat Int.reduceNeg Int.reduceAdd Nat.le_refl List.length_append beq_true beq_false Bool.not_eq_eq_eq_not or_false false_or dX ai aq aH bj bE cu aW br aU bp cV bP
theorem yO {s:aM} {l:List ah}:jb s l=0↔tU s/\lN s.ax l/\kD s.bF.ae l=true:=by
 unfold jb
 cases b:qT s l
 ·simp;intro h1 h2;exact absurd (qU.2 ⟨h1,h2⟩) (by rw[b];simp)
 ·obtain⟨h1,h2⟩:=qU.1 b
  cases kD s.bF.ae l<;>simp[h1,h2]
end Go.Proofs.YtgoelphibofcmaaGreat.V

namespace Go.Proofs.YtgoelphibofcmaaGreat.V
open Go.RowKit
attribute [local irreducible] dG wpOps gz Call
attribute [local go_sem] aL fU eV gw gr cK upd cw K.av cU AV.cells AV.cell rowOf rowsOf part ld rowAt bJ cr dK ep iC bR dj eF gq fh dz ew dh de ec ee bV bh cX bU cZ cY eu ez ev cW cj di er bS aQ db cG iA bz cN bW aX dn aZ dL AV.undef bG bK ef eo dW ea cJ eE eH cD eB eA da dc List.getD_cons_zero List.getD_cons_succ List.getD_nil List.all_cons List.all_nil Bool.and_true Bool.true_and Bool.and_self Bool.not_true Bool.not_false Option.map_some Option.map_none Option.bind_some Option.bind_none List.length_cons List.length_nil List.take_succ_cons List.take_zero List.take_nil List.drop_succ_cons List.drop_zero List.drop_nil List.head?_cons List.map_cons List.map_nil List.getElem?_cons_zero List.getElem?_cons_succ List.cons_append List.nil_append List.append_nil List.length_map List.set_cons_zero List.set_cons_succ Nat.reduceMul eq_self Int.toNat_natCast Int.natCast_nonneg and_self true_and and_true decide_true decide_false Bool.false_eq_true Nat.zero_add Nat.add_zero List.contains_cons List.contains_nil Bool.or_false Bool.false_or beq_self_eq_true Nat.reduceBEq ne_eq not_true_eq_false not_false_eq_true Id.mk.injEq false_and and_false Nat.reduceLT Int.reduceLE Int.reduceLT Int.reduceToNat Int.reduceNeg Int.reduceAdd Nat.le_refl List.length_append beq_true beq_false Bool.not_eq_eq_eq_not or_false false_or dX ai aq aH bj bE cu aW br aU bp cV bP
abbrev mP:MK:=⟨true,[.tI,.tI]⟩
theorem B9 (p:ar):∀(ts:List ah) (i:Nat),ga mP (aa p) (ts.map ad) i=some (if qw ts p<ts.length then some (i+qw ts p)else none)
 |[],i=>by simp[ga,qw]
 |t::ts,i=>by
  have e:fh mP.ts (aa p) ((ad t).take mP.ks)=some (decide (p=t.aO)):=by
   have h:(p=t.aO)↔(p.eY=t.aO.eY/\p.eU=t.aO.eU):=⟨fun h=>by rw[h];exact⟨rfl,rfl⟩,fun h=>Ab h.1 h.2⟩
   simp[MK.ks,aa,ad,fh,gq,h]
  have ih:=B9 p ts (i+1)
  rw[List.map_cons]
  unfold ga
  rw[e]
  by_cases h:p=t.aO
  ·rw[decide_eq_true h]
   have h0:qw (t::ts) p=0:=by simp[qw,List.findIdx_cons,h]
   simp[h0]
  ·rw[decide_eq_false h]
   have h0:qw (t::ts) p=qw ts p+1:=by
    simp[qw,List.findIdx_cons,Ne.symm h]
   simp only[ih,h0,List.length_cons,Nat.add_lt_add_iff_right]
   congr 1
   split<;>simp;omega
theorem yI (ts:List ah) (p:ar):fM mP (.agg [.int .i64 p.eY,.int .i64 p.eU]) (ts.map ad)=some (if 0<=eL ts p then some (eL ts p).toNat else none):=by
 have h:=B9 p ts 0
 unfold fM
 rw[if_pos ⟨rfl,rfl,rfl⟩]
 show ga mP (aa p) _ 0= _
 rw[h]
 unfold eL
 split<;>simp
theorem GN {ts:List ah} {p:ar} (h:0<=eL ts p):fM mP (.agg [.int .i64 p.eY,.int .i64 p.eU]) (ts.map ad)=some (some (eL ts p).toNat):=by rw[yI,if_pos h]
theorem we {ts:List ah} {p:ar} (h:eL ts p<0):fM mP (.agg [.int .i64 p.eY,.int .i64 p.eU]) (ts.map ad)=some none:=by rw[yI,if_neg (by omega)]
structure w7 (g:Rows) (n:Nat) (c T O:Id) (s:aM) (ts:List ah):Prop where
 row:∃b,g c=some ⟨b,6,[[.sl (s.ax.aB.map bD),.sl (s.ax.ae.map bx),.sl (s.bF.ae.map ad),.int .i64 s.az,.map T mP,.map O mP]]⟩
 tl:∃b,g T=some ⟨b,mP.nS,ts.map ad⟩
 cv:c.bq<n
 tv:T.bq<n
 ov:O.bq<n
theorem w7.ro {g:Rows} {n:Nat} {c T O:Id} {s:aM} {ts:List ah} (h:w7 g n c T O s ts):w7 (V.ro g) n c T O s ts:=by
 obtain⟨b,h1⟩:=h.row
 obtain⟨b2,h2⟩:=h.tl
 exact⟨⟨false,by simp[V.ro,h1]⟩,⟨false,by simp[V.ro,h2]⟩,h.cv,h.tv,h.ov⟩
theorem w7.frame {g g':Rows} {n n':Nat} {c T O:Id} {s:aM} {ts:List ah} (h:w7 g n c T O s ts) (hn:n<=n') (hc:g' c=g c) (hT:g' T=g T):w7 g' n' c T O s ts:=
 ⟨by rw[hc];exact h.row,by rw[hT];exact h.tl,Nat.lt_of_lt_of_le h.cv hn,Nat.lt_of_lt_of_le h.tv hn,Nat.lt_of_lt_of_le h.ov hn⟩
theorem Ta {σ:au} {c T O:Id} {s:aM} {ts:List ah} (h:w7 σ.get σ.next c T O s ts) (p:ar):Call Tryz.prog 121 [.ptr c 0 0,.agg (aa p)] σ (fun r _=>r=.int .i64 (gW ts p)):=by
 refine eW ek rfl fun mV=>?_
 clear mV
 obtain⟨b,h1⟩:=h.row
 obtain⟨b2,h2⟩:=h.tl
 have v1:=dq h.cv
 have v2:=dq h.tv
 by_cases h0:0<=eL ts p
 ·have hm:=GN h0
  have hg:=fN (pb h0).1
  have ho:(some (eL ts p).toNat).isSome=true:=rfl
  (try((repeat(revert hN;revert N;apply Pn.out));refine wk (tw @h1 (tw @h2 (tw @v1 (tw @v2 (tw @hm (tw @hg (tw @ho (tw @aa.eq_1 @ad.eq_1)))))))) ?_;(repeat(refine Pn.mk ?_;intro N hN))))
  exact fc (.inl rfl) (vs:=[.int .i64 (aT ts (eL ts p).toNat).bd]) (sd @Nat.zero_add) (by rw[gW,if_pos h0];rfl)
 ·have hm:=we (ts:=ts) (p:=p) (by omega)
  have ho:(none:Option Nat).isSome=false:=rfl
  (try((repeat(revert hN;revert N;apply Pn.out));refine wk (tw @h1 (tw @h2 (tw @v1 (tw @v2 (tw @hm (tw @ho @aa.eq_1)))))) ?_;(repeat(refine Pn.mk ?_;intro N hN))))
  exact fc (.inl rfl) (vs:=[.int .i64 (-1)]) (sd @Nat.zero_add) (by rw[gW,if_neg h0];rfl)
theorem HX {σ:au} {c T O:Id} {s:aM} {ts:List ah} (h:w7 σ.get σ.next c T O s ts) (p:ar):gz (Call Tryz.prog) 121 [.ptr c 0 0,.agg (aa p)] σ (fun r=>r=.int .i64 (gW ts p)):=by
 unfold gz PC
 exact Or.inl (aG _ _ _ _ _ (fun r σ' hr=>⟨_,by rw[hr];exact aH _ _ _ _,rfl⟩) (Ta (σ:=⟨V.ro σ.get,σ.next⟩) h.ro p))
theorem FY {σ:au} (s:aw) (hS:iF s) (F:ar->Int) (hF:∀q,0<=F q->eJ s (F q)=true) (p:ar) (hx:iB p.eY) (hy:iB p.eU) (t:Int) (ht:eJ s t=true) (f:Nat) (first:List AV)
  (Fc:∀σ':au,σ.next<=σ'.next->(∀x:Id,x.bq<σ.next->σ'.get x=σ.get x)->∀q,gz (Call Tryz.prog) f (first++[.agg (aa q)]) σ' (fun r=>r=.int .i64 (F q))):
  Call Tryz.prog 120 [.agg (ab s),.agg (aa p),.int .i64 t,.sQ f first] σ (fun r _=>r=.int .i64 (l9 s F p t)):=by
 refine eW ek rfl fun mV=>?_
 clear mV
 (try((repeat(revert hN;revert N;apply Pn.out));refine wk (tw @aa.eq_1 @ab.eq_1) ?_;(repeat(refine Pn.mk ?_;intro N hN))))
 refine aI (fun n env st=>∃k:Nat,n=(4)-k/\k<=(4)/\env 12=.int .i64 (k:Int)/\env 9=.int .i64 (dP s F p t k)/\st.get ⟨120000000,σ.next⟩=some ⟨true,2,[ab s]⟩/\st.get ⟨120000001,σ.next⟩=some ⟨true,2,[aa p]⟩/\(σ.next<st.next/\∀x:Id,x.bq<σ.next->st.get x=σ.get x)) (4) ⟨0,by omega,by omega,sl (tw @aa.eq_1 @ab.eq_1),sl (tw @aa.eq_1 @ab.eq_1),sl (tw @aa.eq_1 @ab.eq_1),sl (tw @aa.eq_1 @ab.eq_1),⟨by(try dsimp only);omega,fun x hx=>by
  have:=dq hx
  simp only[go_sem, ↓reduceIte,Nat.reduceEqDiff,Nat.reduceAdd,Nat.reduceSub,Nat.reduceLeDiff,reduceCtorEq,this]⟩⟩ ?_
 rintro n_a env_a st_a ⟨k,rfl,ale,a12,a9,ag0,ag1,j9⟩ dp
 have a2:=dp 2 (by kernel_rfl);have a3:=dp 3 (by kernel_rfl);have a4:=dp 4 (by kernel_rfl);have a5:=dp 5 (by kernel_rfl)
 simp only[go_sem, ↓reduceIte,Nat.reduceEqDiff,Nat.reduceAdd,Nat.reduceSub,Nat.reduceLeDiff,reduceCtorEq,aa,ab]at a2 a3 a4 a5
 clear dp
 obtain⟨an,dp⟩:=j9
 by_cases hk:(k:Int)<4
 ·have ck:∀{e:Env} {gg:Rows} {nx:Nat},(e 12=.int .i64 (IntKind.i64.wrap ((k:Int)+1)))->(e 9=.int .i64 (dP s F p t (k+1)))->(gg ⟨120000000,σ.next⟩=some ⟨true,2,[ab s]⟩)->(gg ⟨120000001,σ.next⟩=some ⟨true,2,[aa p]⟩)->(σ.next<nx/\∀x:Id,x.bq<σ.next->gg x=σ.get x)->∃m0,m0<(4)-k/\∃k:Nat,m0=(4)-k/\k<=(4)/\e 12=.int .i64 (k:Int)/\e 9=.int .i64 (dP s F p t k)/\gg ⟨120000000,σ.next⟩=some ⟨true,2,[ab s]⟩/\gg ⟨120000001,σ.next⟩=some ⟨true,2,[aa p]⟩/\(σ.next<nx/\∀x:Id,x.bq<σ.next->gg x=σ.get x):=fun x1 x2 x3 x4 x5=>⟨_,by omega,k+1,rfl,by omega,(by rw[x1,aA (by omega)]),x2,x3,x4,x5⟩
  have dB:=wN p k (js (by omega)) hx hy
  have fP:=lz hS F p t k
  (repeat(first|((repeat(revert hN;revert N;apply Pn.out));refine wk (tw @a12 (tw @a9 (tw @ag0 (tw @ag1 (tw @a2 (tw @a3 (tw @a4 (tw @a5 (tw @hk @aa.eq_1))))))))) ?_;(repeat(refine Pn.mk ?_;intro N hN)))|((try apply Or.inl);refine⟨_,aj.x (dB) (sd (tw @a12 (tw @a9 (tw @ag0 (tw @ag1 (tw @a2 (tw @a3 (tw @a4 (tw @a5 (tw @hk @aa.eq_1)))))))))),?_⟩;refine hN _ _ ?_;clear hN N)))
  refine .inl ⟨_,Fc _ (by(try dsimp only);omega) (fun x hx=>sd (dp x hx)) (cq p k),?_⟩
  refine hN _ _ ?_
  clear hN N
  by_cases h0:0<=F (cq p k)
  ·have w9:=H7 s hS.form t k (F (cq p k)) ht (hF _ h0) (js (by omega))
   have fF:=uW hS t k (F (cq p k))
   have hw:IntKind.i64.wrap (dP s F p t k+gQ s t k (F (cq p k)))=dP s F p t (k+1):=by
    rw[aV (by omega),dP,if_pos h0]
   rw[ab]at w9
   (repeat(first|((repeat(revert hN;revert N;apply Pn.out));refine wk (tw @a12 (tw @a9 (tw @ag0 (tw @ag1 (tw @a2 (tw @a3 (tw @a4 (tw @a5 (tw @h0 @ab.eq_1))))))))) ?_;(repeat(refine Pn.mk ?_;intro N hN)))|((try apply Or.inl);refine⟨_,aj.x (w9) (sd (tw @a12 (tw @a9 (tw @ag0 (tw @ag1 (tw @a2 (tw @a3 (tw @a4 (tw @a5 (tw @h0 @ab.eq_1)))))))))),?_⟩;refine hN _ _ ?_;clear hN N)))
   refine ck ?_ ?_ ?_ ?_ (⟨by(try dsimp only);omega,fun x hx=>by
    have h1:=dp x hx
    simp only[go_sem, ↓reduceIte,Nat.reduceEqDiff,Nat.reduceAdd,Nat.reduceSub,Nat.reduceLeDiff,reduceCtorEq,h1]⟩)
   all_goals simp only[go_sem, ↓reduceIte,Nat.reduceEqDiff,Nat.reduceAdd,Nat.reduceSub,Nat.reduceLeDiff,reduceCtorEq,a12,a9,ag0,ag1,a2,a3,a4,a5,hw,aa,ab]
  ·have hw:dP s F p t (k+1)=dP s F p t k:=by rw[dP,if_neg h0,Int.add_zero]
   (try((repeat(revert hN;revert N;apply Pn.out));refine wk (tw @a12 (tw @a9 (tw @ag0 (tw @ag1 (tw @a2 (tw @a3 (tw @a4 (tw @a5 @h0)))))))) ?_;(repeat(refine Pn.mk ?_;intro N hN))))
   refine ck ?_ ?_ ?_ ?_ (⟨by(try dsimp only);omega,fun x hx=>by
    have h1:=dp x hx
    simp only[go_sem, ↓reduceIte,Nat.reduceEqDiff,Nat.reduceAdd,Nat.reduceSub,Nat.reduceLeDiff,reduceCtorEq,h1]⟩)
   all_goals simp only[go_sem, ↓reduceIte,Nat.reduceEqDiff,Nat.reduceAdd,Nat.reduceSub,Nat.reduceLeDiff,reduceCtorEq,a12,a9,ag0,ag1,a2,a3,a4,a5,hw,aa,ab]
 ·(try((repeat(revert hN;revert N;apply Pn.out));refine wk (tw @a12 (tw @a9 (tw @ag0 (tw @ag1 (tw @a2 (tw @a3 (tw @a4 (tw @a5 @hk)))))))) ?_;(repeat(refine Pn.mk ?_;intro N hN))))
  exact fc (.inl rfl) (vs:=[.int .i64 (dP s F p t k)]) (sd (tw @a12 (tw @a9 (tw @ag0 (tw @ag1 (tw @a2 (tw @a3 (tw @a4 @a5)))))))) (by rw[show k=4 by omega];rfl)
end Go.Proofs.YtgoelphibofcmaaGreat.V

namespace Go.Proofs.YtgoelphibofcmaaGreat.V
open Go.RowKit
attribute [local irreducible] dG wpOps gz Call
attribute [local go_sem] aL fU eV gw gr cK upd cw K.av cU AV.cells AV.cell rowOf rowsOf part ld rowAt bJ cr dK ep iC bR dj eF gq fh dz ew dh de ec ee bV bh cX bU cZ cY eu ez ev cW cj di er bS aQ db cG iA bz cN bW aX dn aZ dL AV.undef bG bK ef eo dW ea cJ eE eH cD eB eA da dc List.getD_cons_zero List.getD_cons_succ List.getD_nil List.all_cons List.all_nil Bool.and_true Bool.true_and Bool.and_self Bool.not_true Bool.not_false Option.map_some Option.map_none Option.bind_some Option.bind_none List.length_cons List.length_nil List.take_succ_cons List.take_zero List.take_nil List.drop_succ_cons List.drop_zero List.drop_nil List.head?_cons List.map_cons List.map_nil List.getElem?_cons_zero List.getElem?_cons_succ List.cons_append List.nil_append List.append_nil List.length_map List.set_cons_zero List.set_cons_succ Nat.reduceMul eq_self Int.toNat_natCast Int.natCast_nonneg and_self true_and and_true decide_true decide_false Bool.false_eq_true Nat.zero_add Nat.add_zero List.contains_cons List.contains_nil Bool.or_false Bool.false_or beq_self_eq_true Nat.reduceBEq ne_eq not_true_eq_false not_false_eq_true Id.mk.injEq false_and and_false Nat.reduceLT Int.reduceLE Int.reduceLT Int.reduceToNat Int.reduceNeg Int.reduceAdd Nat.le_refl List.length_append beq_true beq_false Bool.not_eq_eq_eq_not or_false false_or dX ai aq aH bj bE cu aW br aU bp cV bP
noncomputable def zm (s:aM) (ts:List ah) (p:ar) (t:Int):Bool:=qH p&&decide (gW ts p<0)&&decide (s.az<=l9 s.ax (gW ts) p t)
theorem xV {σ:au} {c T O:Id} {s:aM} {ts:List ah} (h:w7 σ.get σ.next c T O s ts) (hS:iF s.ax) (hF:∀q,0<=gW ts q->eJ s.ax (gW ts q)=true) (p:ar) (hx:iB p.eY) (hy:iB p.eU) (t:Int) (ht:eJ s.ax t=true):
  gz (Call Tryz.prog) 120 [.agg (ab s.ax),.agg (aa p),.int .i64 t,.sQ 121 [.ptr c 0 0]] σ (fun r=>r=.int .i64 (l9 s.ax (gW ts) p t)):=by
 unfold gz PC
 exact Or.inl (aG _ _ _ _ _ (fun r σ' hr=>⟨_,by rw[hr];exact aH _ _ _ _,rfl⟩) (FY (σ:=⟨V.ro σ.get,σ.next⟩) s.ax hS (gW ts) hF p hx hy t ht _ _
  (fun σ' hn hk q=>HX (h.ro.frame hn (hk _ h.cv) (hk _ h.tv)) q)))
theorem NJ {σ:au} {c T O:Id} {s:aM} {ts:List ah} (h:w7 σ.get σ.next c T O s ts) (hS:iF s.ax) (hF:∀q,0<=gW ts q->eJ s.ax (gW ts q)=true) (p:ar) (t:Int) (ht:eJ s.ax t=true):
  Call Tryz.prog 133 [.ptr c 0 0,.agg (aa p),.int .i64 t] σ (fun r _=>r=.bool (zm s ts p t)):=by
 refine eW ek rfl fun mV=>?_
 clear mV
 obtain⟨b,h1⟩:=h.row
 have v1:=dq h.cv
 have hw:=jj p
 have v2:=dq h.tv
 by_cases h0:qH p=true
 ·rw[h0]at hw
  obtain⟨hx,hy⟩:=nk h0
  by_cases h2:gW ts p<0
  ·(repeat(first|((repeat(revert hN;revert N;apply Pn.out));refine wk (tw @h1 (tw @v1 (tw @h2 @aa.eq_1))) ?_;(repeat(refine Pn.mk ?_;intro N hN)))|((try apply Or.inl);refine⟨_,aj.x (hw) (sd (tw @h1 (tw @v1 (tw @h2 @aa.eq_1)))),?_⟩;refine hN _ _ ?_;clear hN N)))
   refine⟨_,HX (h.frame (by(try dsimp only);omega) (sd @v1) (sd @v2)) p,?_⟩
   refine hN _ _ ?_
   clear hN N
   (repeat(first|((repeat(revert hN;revert N;apply Pn.out));refine wk (tw @h1 (tw @v1 (tw @h2 (tw @aa.eq_1 @ab.eq_1)))) ?_;(repeat(refine Pn.mk ?_;intro N hN)))|((try apply Or.inl);refine⟨_,aj.x (hw) (sd (tw @h1 (tw @v1 (tw @h2 (tw @aa.eq_1 @ab.eq_1))))),?_⟩;refine hN _ _ ?_;clear hN N)))
   refine⟨_,xV (h.frame (by(try dsimp only);omega) (sd @v1) (sd @v2)) hS hF p hx hy t ht,?_⟩
   refine hN _ _ ?_
   clear hN N
   have hb:=lz hS (gW ts) p t 4
   (repeat(first|((repeat(revert hN;revert N;apply Pn.out));refine wk (tw @h1 (tw @v1 (tw @h2 (tw @aa.eq_1 @ab.eq_1)))) ?_;(repeat(refine Pn.mk ?_;intro N hN)))|((try apply Or.inl);refine⟨_,aj.x (hw) (sd (tw @h1 (tw @v1 (tw @h2 (tw @aa.eq_1 @ab.eq_1))))),?_⟩;refine hN _ _ ?_;clear hN N)))
   exact fc (.inl rfl) (vs:=[.bool (decide (s.az<=l9 s.ax (gW ts) p t))]) (sd @Nat.zero_add) (by rw[show zm s ts p t=decide (s.az<=l9 s.ax (gW ts) p t) by simp[zm,h0,h2]];rfl)
  ·(repeat(first|((repeat(revert hN;revert N;apply Pn.out));refine wk (tw @h1 (tw @v1 (tw @h2 @aa.eq_1))) ?_;(repeat(refine Pn.mk ?_;intro N hN)))|((try apply Or.inl);refine⟨_,aj.x (hw) (sd (tw @h1 (tw @v1 (tw @h2 @aa.eq_1)))),?_⟩;refine hN _ _ ?_;clear hN N)))
   refine⟨_,HX (h.frame (by(try dsimp only);omega) (sd @v1) (sd @v2)) p,?_⟩
   refine hN _ _ ?_
   clear hN N
   (repeat(first|((repeat(revert hN;revert N;apply Pn.out));refine wk (tw @h1 (tw @v1 (tw @h2 @aa.eq_1))) ?_;(repeat(refine Pn.mk ?_;intro N hN)))|((try apply Or.inl);refine⟨_,aj.x (hw) (sd (tw @h1 (tw @v1 (tw @h2 @aa.eq_1)))),?_⟩;refine hN _ _ ?_;clear hN N)))
   exact fc (.inl rfl) (vs:=[.bool false]) (sd @Nat.zero_add) (by rw[show zm s ts p t=false by simp[zm,h2]];rfl)
 ·rw[Bool.not_eq_true]at h0
  rw[h0]at hw
  (repeat(first|((repeat(revert hN;revert N;apply Pn.out));refine wk (tw @h1 (tw @v1 @aa.eq_1)) ?_;(repeat(refine Pn.mk ?_;intro N hN)))|((try apply Or.inl);refine⟨_,aj.x (hw) (sd (tw @h1 (tw @v1 @aa.eq_1))),?_⟩;refine hN _ _ ?_;clear hN N)))
  exact fc (.inl rfl) (vs:=[.bool false]) (sd @Nat.zero_add) (by rw[show zm s ts p t=false by simp[zm,h0]];rfl)
end Go.Proofs.YtgoelphibofcmaaGreat.V

namespace Go.Proofs.YtgoelphibofcmaaGreat.V
open Go.RowKit
attribute [local irreducible] dG wpOps gz Call
attribute [local go_sem] aL fU eV gw gr cK upd cw K.av cU AV.cells AV.cell rowOf rowsOf part ld rowAt bJ cr dK ep iC bR dj eF gq fh dz ew dh de ec ee bV bh cX bU cZ cY eu ez ev cW cj di er bS aQ db cG iA bz cN bW aX dn aZ dL AV.undef bG bK ef eo dW ea cJ eE eH cD eB eA da dc List.getD_cons_zero List.getD_cons_succ List.getD_nil List.all_cons List.all_nil Bool.and_true Bool.true_and Bool.and_self Bool.not_true Bool.not_false Option.map_some Option.map_none Option.bind_some Option.bind_none List.length_cons List.length_nil List.take_succ_cons List.take_zero List.take_nil List.drop_succ_cons List.drop_zero List.drop_nil List.head?_cons List.map_cons List.map_nil List.getElem?_cons_zero List.getElem?_cons_succ List.cons_append List.nil_append List.append_nil List.length_map List.set_cons_zero List.set_cons_succ Nat.reduceMul eq_self Int.toNat_natCast Int.natCast_nonneg and_self true_and and_true decide_true decide_false Bool.false_eq_true Nat.zero_add Nat.add_zero List.contains_cons List.contains_nil Bool.or_false Bool.false_or beq_self_eq_true Nat.reduceBEq ne_eq not_true_eq_false not_false_eq_true Id.mk.injEq false_and and_false Nat.reduceLT Int.reduceLE Int.reduceLT Int.reduceToNat Int.reduceNeg Int.reduceAdd Nat.le_refl List.length_append beq_true beq_false Bool.not_eq_eq_eq_not or_false false_or dX ai aq aH bj bE cu aW br aU bp cV bP
def OW (rows:List (List AV)):Prop:=∀r∈rows,∃(x y:Int) (v:AV),r=[.int .i64 x,.int .i64 y,v]
theorem FC (x y:Int):∀(rows:List (List AV)) (i:Nat),OW rows->∃fi,ga mP [.int .i64 x,.int .i64 y] rows i=some fi
 |[],i,_=>⟨none,by simp[ga]⟩
 |r::rs,i,h=>by
  obtain⟨fi,hf⟩:=FC x y rs (i+1) fun r hr=>h r (by simp[hr])
  obtain⟨x',y',v,rfl⟩:=h r (by simp)
  unfold ga
  have e:fh mP.ts [.int .i64 x,.int .i64 y] (([.int .i64 x',.int .i64 y',v]:List AV).take mP.ks)=some (decide (x=x')&&decide (y=y')):=by
   simp[MK.ks,fh,gq]
  rw[e]
  cases decide (x=x')&&decide (y=y')
  ·exact⟨fi,hf⟩
  ·exact⟨some i,rfl⟩
theorem Jz {rows:List (List AV)} (h:OW rows) (x y:Int):∃fi,fM mP (.agg [.int .i64 x,.int .i64 y]) rows=some fi:=by
 unfold fM
 rw[if_pos ⟨rfl,rfl,rfl⟩]
 exact FC x y rows 0 h
theorem OP {rows:List (List AV)} (h:OW rows) (x y:Int) (v:AV) (fi:Option Nat):OW (dW rows [.int .i64 x,.int .i64 y,v] fi):=by
 intro r hr
 cases fi with
 |none=>
  rcases List.mem_append.1 (show r∈rows++[_]from hr)with h1|h1
  ·exact h r h1
  ·simp at h1;exact⟨x,y,v,h1⟩
 |some i=>
  rcases List.mem_or_eq_of_mem_set (show r∈rows.set i _ from hr)with h1|h1
  ·exact h r h1
  ·exact⟨x,y,v,h1⟩
theorem ON {rows:List (List AV)} (h:OW rows) (fi:Option Nat):OW (ea rows fi):=by
 intro r hr
 cases fi with
 |none=>exact h r (by simpa[ea]using hr)
 |some i=>exact h r (List.mem_of_mem_eraseIdx (by simpa[ea]using hr))
def iK (σ:au) (O:Id) (g:Rows) (n:Nat):Prop:=σ.next<=n/\(∀x:Id,x.bq<σ.next->x≠O->g x=σ.get x)/\∃rows,g O=some ⟨true,mP.nS,rows⟩/\OW rows
theorem iK.KV {σ:au} {g:Rows} {n:Nat} {c T O:Id} {s:aM} {ts:List ah} (h:w7 σ.get σ.next c T O s ts) (hc:c≠O) (hT:T≠O) (k:iK σ O g n):w7 g n c T O s ts:=
 h.frame k.1 (k.2.1 _ h.cv hc) (k.2.1 _ h.tv hT)
theorem iK.trans {a b:au} {O:Id} {g:Rows} {n:Nat} (h:iK a O b.get b.next) (k:iK b O g n):iK a O g n:=
 ⟨Nat.le_trans h.1 k.1,fun x hx hO=>(k.2.1 x (Nat.lt_of_lt_of_le hx h.1) hO).trans (h.2.1 x hx hO),k.2.2⟩
theorem iK.frame {a:au} {O:Id} {g g':Rows} {n n' m:Nat} (h:iK a O g n) (ha:a.next<=m) (ho:O.bq<m) (hn:n<=n') (hf:∀x:Id,x.bq<m->g' x=g x):iK a O g' n':=by
 refine⟨Nat.le_trans h.1 hn,fun x hx hO=>(hf x (Nat.lt_of_lt_of_le hx ha)).trans (h.2.1 x hx hO),?_⟩
 obtain⟨rows,h1,h2⟩:=h.2.2
 exact⟨rows,(hf O ho).trans h1,h2⟩
theorem iK.write {a:au} {O:Id} {g g':Rows} {n n':Nat} (h:iK a O g n) (hn:n<=n') (hf:∀x:Id,x.bq<a.next->x≠O->g' x=g x) {rows:List (List AV)} (ho:g' O=some ⟨true,mP.nS,rows⟩) (hw:OW rows):iK a O g' n':=
 ⟨Nat.le_trans h.1 hn,fun x hx hO=>(hf x hx hO).trans (h.2.1 x hx hO),rows,ho,hw⟩
theorem NK {σ:au} {c T O:Id} {s:aM} {ts:List ah} (h:w7 σ.get σ.next c T O s ts) (hS:iF s.ax) (hF:∀q,0<=gW ts q->eJ s.ax (gW ts q)=true) (p:ar) (t:Int) (ht:eJ s.ax t=true):
  gz (Call Tryz.prog) 133 [.ptr c 0 0,.agg (aa p),.int .i64 t] σ (fun r=>r=.bool (zm s ts p t)):=by
 unfold gz PC
 exact Or.inl (aG _ _ _ _ _ (fun r σ' hr=>⟨_,by rw[hr];exact bj _ _ _,rfl⟩) (NJ (σ:=⟨V.ro σ.get,σ.next⟩) h.ro hS hF p t ht))
theorem zM {σ:au} {c T O:Id} {s:aM} {ts:List ah} (h:w7 σ.get σ.next c T O s ts) (hc:c≠O) (hT:T≠O) (hO:∃rows,σ.get O=some ⟨true,mP.nS,rows⟩/\OW rows) (hS:iF s.ax) (hF:∀q,0<=gW ts q->eJ s.ax (gW ts q)=true) (p:ar) (hx:iB p.eY) (hy:iB p.eU):
  Call Tryz.prog 127 [.ptr c 0 0,.agg (aa p)] σ (fun r σ'=>r=.gP []/\iK σ O σ'.get σ'.next):=by
 refine eW ek rfl fun mV=>?_
 clear mV
 have I4:=hS.Cz
 have h0:iK σ O σ.get σ.next:=⟨Nat.le_refl _,fun _ _ _=>rfl,hO⟩
 (try((repeat(revert hN;revert N;apply Pn.out));refine wk @aa.eq_1 ?_;(repeat(refine Pn.mk ?_;intro N hN))))
 refine aI (fun n env st=>∃k:Nat,n=(4)-k/\k<=(4)/\env 8=.int .i64 (k:Int)/\st.get ⟨127000000,σ.next⟩=some ⟨true,2,[aa p]⟩/\(σ.next<st.next/\iK σ O st.get st.next)) (4) ⟨0,by omega,by omega,sl @aa.eq_1,sl @aa.eq_1,⟨by(try dsimp only);omega,h0.frame (Nat.le_refl _) h.ov (by(try dsimp only);omega) fun x hx=>by
  have:=dq hx
  simp only[go_sem, ↓reduceIte,Nat.reduceEqDiff,Nat.reduceAdd,Nat.reduceSub,Nat.reduceLeDiff,reduceCtorEq,this]⟩⟩ ?_
 rintro n_a env_a st_a ⟨k,rfl,ale,a8,ag0,j9⟩ dp
 have a0:=dp 0 (by kernel_rfl);have a3:=dp 3 (by kernel_rfl)
 simp only[go_sem, ↓reduceIte,Nat.reduceEqDiff,Nat.reduceAdd,Nat.reduceSub,Nat.reduceLeDiff,reduceCtorEq,aa]at a0 a3
 clear dp
 obtain⟨an,ak⟩:=j9
 have ha:=ak.KV h hc hT
 by_cases hk:(k:Int)<4
 ·have ck:∀{e:Env} {gg:Rows} {nx:Nat},(e 8=.int .i64 (IntKind.i64.wrap ((k:Int)+1)))->(gg ⟨127000000,σ.next⟩=some ⟨true,2,[aa p]⟩)->(σ.next<nx/\iK σ O gg nx)->∃m0,m0<(4)-k/\∃k:Nat,m0=(4)-k/\k<=(4)/\e 8=.int .i64 (k:Int)/\gg ⟨127000000,σ.next⟩=some ⟨true,2,[aa p]⟩/\(σ.next<nx/\iK σ O gg nx):=fun x1 x2 x3=>⟨_,by omega,k+1,rfl,by omega,(by rw[x1,aA (by omega)]),x2,x3⟩
  have dB:=wN p k (js (by omega)) hx hy
  obtain⟨b,h1⟩:=ha.row
  have v1:=dq ha.cv
  (repeat(first|((repeat(revert hN;revert N;apply Pn.out));refine wk (tw @a8 (tw @ag0 (tw @a0 (tw @a3 (tw @hk (tw @h1 (tw @v1 @aa.eq_1))))))) ?_;(repeat(refine Pn.mk ?_;intro N hN)))|((try apply Or.inl);refine⟨_,aj.x (dB) (sd (tw @a8 (tw @ag0 (tw @a0 (tw @a3 (tw @hk (tw @h1 (tw @v1 @aa.eq_1)))))))),?_⟩;refine hN _ _ ?_;clear hN N)))
  refine aI (fun n env st=>∃t:Nat,n=(s.ax.ae.length)-t/\t<=(s.ax.ae.length)/\env 21=.int .i64 (t:Int)/\st.get ⟨127000000,σ.next⟩=some ⟨true,2,[aa p]⟩/\st.get ⟨127004003,st_a.next+1+1⟩=some ⟨true,2,[aa (cq p k)]⟩/\(st_a.next+3<=st.next/\iK σ O st.get st.next/\(env 6=.cC∨∃(o:Id) (n:Nat) (rows:List (List AV)),env 6=.own o 0 n/\st.get o=some ⟨true,1,rows⟩/\rows.length=n/\0<n/\n<=t/\st_a.next+3<=o.bq/\o.bq<st.next))) (s.ax.ae.length) ⟨0,by omega,by omega,sl (tw @a8 (tw @ag0 (tw @a0 (tw @a3 @aa.eq_1)))),sl (tw @a8 (tw @ag0 (tw @a0 (tw @a3 @aa.eq_1)))),sl (tw @a8 (tw @ag0 (tw @a0 (tw @a3 @aa.eq_1)))),⟨by(try dsimp only);omega,ak.frame ak.1 ha.ov (by(try dsimp only);omega) fun x hx=>(by
   have:=dq hx
   simp only[go_sem, ↓reduceIte,Nat.reduceEqDiff,Nat.reduceAdd,Nat.reduceSub,Nat.reduceLeDiff,reduceCtorEq,this]),.inl (sd @Nat.zero_add)⟩⟩ ?_
  rintro n_b env_b st_b ⟨t,rfl,ble,b21,bg0,bg1,bI0⟩ eS
  have b0:=eS 0 (by kernel_rfl);have b3:=eS 3 (by kernel_rfl);have b5:=eS 5 (by kernel_rfl);have b8:=eS 8 (by kernel_rfl);have pR:=eS 20 (by kernel_rfl)
  simp only[go_sem, ↓reduceIte,Nat.reduceEqDiff,Nat.reduceAdd,Nat.reduceSub,Nat.reduceLeDiff,reduceCtorEq,a8,ag0,a0,a3,aa]at b0 b3 b5 b8 pR
  clear eS
  obtain⟨bn,bk,b6⟩:=bI0
  have N6:=bk.KV h hc hT
  obtain⟨b2,h2⟩:=N6.row
  have v2:=dq N6.cv
  have vt:=dq (i:=⟨127000000,σ.next⟩) (n:=st_b.next) (by(try dsimp only);omega)
  have vq:=dq (i:=⟨127004003,st_a.next+1+1⟩) (n:=st_b.next) (by(try dsimp only);omega)
  by_cases ht:(t:Int)<(s.ax.ae.length:Int)
  ·have eR:∀{e:Env} {gg:Rows} {nx:Nat},(e 21=.int .i64 (IntKind.i64.wrap ((t:Int)+1)))->(gg ⟨127000000,σ.next⟩=some ⟨true,2,[aa p]⟩)->(gg ⟨127004003,st_a.next+1+1⟩=some ⟨true,2,[aa (cq p k)]⟩)->(st_a.next+3<=nx/\iK σ O gg nx/\(e 6=.cC∨∃(o:Id) (n:Nat) (rows:List (List AV)),e 6=.own o 0 n/\gg o=some ⟨true,1,rows⟩/\rows.length=n/\0<n/\n<=(t+1)/\st_a.next+3<=o.bq/\o.bq<nx))->∃m0,m0<(s.ax.ae.length)-t/\∃t:Nat,m0=(s.ax.ae.length)-t/\t<=(s.ax.ae.length)/\e 21=.int .i64 (t:Int)/\gg ⟨127000000,σ.next⟩=some ⟨true,2,[aa p]⟩/\gg ⟨127004003,st_a.next+1+1⟩=some ⟨true,2,[aa (cq p k)]⟩/\(st_a.next+3<=nx/\iK σ O gg nx/\(e 6=.cC∨∃(o:Id) (n:Nat) (rows:List (List AV)),e 6=.own o 0 n/\gg o=some ⟨true,1,rows⟩/\rows.length=n/\0<n/\n<=t/\st_a.next+3<=o.bq/\o.bq<nx)):=fun x1 x2 x3 x4=>⟨_,by omega,t+1,rfl,by omega,(by rw[x1,aA (by omega)]),x2,x3,x4⟩
   have Lw:t<s.ax.ae.length:=by omega
   (try((repeat(revert hN;revert N;apply Pn.out));refine wk (tw @b21 (tw @bg0 (tw @bg1 (tw @b0 (tw @b3 (tw @b5 (tw @b8 (tw @pR (tw @ht (tw @h2 (tw @v2 (tw @vt (tw @vq @aa.eq_1))))))))))))) ?_;(repeat(refine Pn.mk ?_;intro N hN))))
   refine .inl ⟨_,NK (N6.frame (by(try dsimp only);omega) (sd @v2) (by(have:=dq N6.tv);simp only[go_sem, ↓reduceIte,Nat.reduceEqDiff,Nat.reduceAdd,Nat.reduceSub,Nat.reduceLeDiff,reduceCtorEq,this])) hS hF (cq p k) t (wV Lw),?_⟩
   refine hN _ _ ?_
   clear hN N
   have kq:∀x:Id,x.bq<st_b.next->x≠⟨127010002,st_b.next+1+1+1⟩:=fun x hx h=>by rw[h]at hx;(try dsimp only at hx);omega
   cases hb:zm s ts (cq p k) t
   ·(try((repeat(revert hN;revert N;apply Pn.out));refine wk (tw @b21 (tw @bg0 (tw @bg1 (tw @b0 (tw @b3 (tw @b5 (tw @b8 (tw @pR @hb)))))))) ?_;(repeat(refine Pn.mk ?_;intro N hN))))
    refine eR ?_ ?_ ?_ (by(try dsimp only);exact⟨by omega,bk.frame bk.1 N6.ov (by omega) (fun x hx=>by
      have h1:=dq (i:=x) (n:=st_b.next) (by omega)
      simp only[go_sem, ↓reduceIte,Nat.reduceEqDiff,Nat.reduceAdd,Nat.reduceSub,Nat.reduceLeDiff,reduceCtorEq,h1]),by
     rcases b6 with h|⟨o,n,rows,h1,h2,h3,h4,h5,h6,h7⟩
     ·exact .inl (sd @h)
     ·have h8:=dq h7
      exact .inr ⟨o,n,rows,sd @h1,sd (tw @h2 @h8),h3,h4,by omega,h6,by omega⟩⟩)
    all_goals simp only[go_sem, ↓reduceIte,Nat.reduceEqDiff,Nat.reduceAdd,Nat.reduceSub,Nat.reduceLeDiff,reduceCtorEq,b21,bg0,bg1,b0,b3,b5,b8,pR,aa,vt,vq]
   ·rcases b6 with b6|⟨o,n,rows,b6,bo,o3,o4,o5,o6,o7⟩
    ·(try((repeat(revert hN;revert N;apply Pn.out));refine wk (tw @b21 (tw @bg0 (tw @bg1 (tw @b0 (tw @b3 (tw @b5 (tw @b8 (tw @pR (tw @b6 @hb))))))))) ?_;(repeat(refine Pn.mk ?_;intro N hN))))
     refine eR ?_ ?_ ?_ (by(try dsimp only);exact⟨by omega,bk.frame (m:=st_a.next) ak.1 ha.ov (by omega) (fun x hx=>by
      have h1:=dq (i:=x) (n:=st_b.next) (by omega)
      simp only[go_sem, ↓reduceIte,Nat.reduceEqDiff,Nat.reduceAdd,Nat.reduceSub,Nat.reduceLeDiff,reduceCtorEq,h1]),.inr ⟨⟨127010003,st_b.next+1+1+1⟩,1,[[.int .i64 t]],sl @Nat.zero_add,sd @Nat.zero_add,rfl,by omega,by omega,by(try dsimp only);omega,by(try dsimp only);omega⟩⟩)
     all_goals simp only[go_sem, ↓reduceIte,Nat.reduceEqDiff,Nat.reduceAdd,Nat.reduceSub,Nat.reduceLeDiff,reduceCtorEq,b21,bg0,bg1,b0,b3,b5,b8,pR,aa,vt,vq]
    ·subst o3
     have e1:rows.length<=16777215:=by omega
     have vo:=dq o7
     have vto:=cP (a:=⟨127000000,σ.next⟩) (b:=o) (by(try dsimp only);omega)
     have vqo:=cP (a:=⟨127004003,st_a.next+1+1⟩) (b:=o) (by(try dsimp only);omega)
     (try((repeat(revert hN;revert N;apply Pn.out));refine wk (tw @b21 (tw @bg0 (tw @bg1 (tw @b0 (tw @b3 (tw @b5 (tw @b8 (tw @pR (tw @b6 (tw @bo (tw @hb (tw @e1 @vo)))))))))))) ?_;(repeat(refine Pn.mk ?_;intro N hN))))
     refine eR ?_ ?_ ?_ (by(try dsimp only);exact⟨by omega,bk.frame (m:=st_a.next) ak.1 ha.ov (by omega) (fun x hx=>by
      have h1:=dq (i:=x) (n:=st_b.next) (by omega)
      have h2:=cP (a:=x) (b:=o) (by omega)
      simp only[go_sem, ↓reduceIte,Nat.reduceEqDiff,Nat.reduceAdd,Nat.reduceSub,Nat.reduceLeDiff,reduceCtorEq,h1,h2]),.inr ⟨⟨127010003,st_b.next+1+1+1⟩,rows.length+1,rows++[[.int .i64 t]],sl @Nat.zero_add,sd @Nat.zero_add,by simp,by omega,by omega,by(try dsimp only);omega,by(try dsimp only);omega⟩⟩)
     all_goals simp only[go_sem, ↓reduceIte,Nat.reduceEqDiff,Nat.reduceAdd,Nat.reduceSub,Nat.reduceLeDiff,reduceCtorEq,b21,bg0,bg1,b0,b3,b5,b8,pR,aa,vt,vq,vto,vqo]
  ·obtain⟨rows,hg,Up⟩:=bk.2.2
   have vo:=dq N6.ov
   obtain⟨fi,II⟩:=Jz Up (cq p k).eY (cq p k).eU
   have hq:((⟨127000000,σ.next⟩:Id)=O)=False:=(cP (a:=O) (b:=⟨127000000,σ.next⟩) (by have:=h.ov;(try dsimp only);omega)).2
   rcases b6 with b6|⟨o,n,Na,b6,bo,o3,o4,o5,o6,o7⟩
   ·have d0:decide ((0:Int)<((0:Nat):Int))=false:=rfl
    (try((repeat(revert hN;revert N;apply Pn.out));refine wk (tw @b21 (tw @bg0 (tw @bg1 (tw @b0 (tw @b3 (tw @b5 (tw @b8 (tw @pR (tw @b6 (tw @ht (tw @h2 (tw @v2 (tw @vt (tw @vq (tw @vo (tw @hg (tw @II (tw @aa.eq_1 @d0)))))))))))))))))) ?_;(repeat(refine Pn.mk ?_;intro N hN))))
    refine ck ?_ ?_ (by(try dsimp only);exact⟨by omega,bk.write (by omega) (fun x hx UC=>by
     have h1:=dq (i:=x) (n:=st_b.next) (by omega)
     have h2:(x=O)=False:=eq_false UC
     simp only[go_sem, ↓reduceIte,Nat.reduceEqDiff,Nat.reduceAdd,Nat.reduceSub,Nat.reduceLeDiff,reduceCtorEq,h1,h2]) (sl @Nat.zero_add) (ON Up _)⟩)
    all_goals simp only[go_sem, ↓reduceIte,Nat.reduceEqDiff,Nat.reduceAdd,Nat.reduceSub,Nat.reduceLeDiff,reduceCtorEq,a8,ag0,a0,a3,b21,bg0,bg1,b0,b3,b5,b8,pR,aa,vt,vo,hq]
   ·have d1:decide ((0:Int)<(n:Int))=true:=decide_eq_true (by omega)
    (try((repeat(revert hN;revert N;apply Pn.out));refine wk (tw @b21 (tw @bg0 (tw @bg1 (tw @b0 (tw @b3 (tw @b5 (tw @b8 (tw @pR (tw @b6 (tw @ht (tw @h2 (tw @v2 (tw @vt (tw @vq (tw @vo (tw @hg (tw @II (tw @aa.eq_1 @d1)))))))))))))))))) ?_;(repeat(refine Pn.mk ?_;intro N hN))))
    refine ck ?_ ?_ (by(try dsimp only);exact⟨by omega,bk.write (by omega) (fun x hx UC=>by
     have h1:=dq (i:=x) (n:=st_b.next) (by omega)
     have h2:(x=O)=False:=eq_false UC
     simp only[go_sem, ↓reduceIte,Nat.reduceEqDiff,Nat.reduceAdd,Nat.reduceSub,Nat.reduceLeDiff,reduceCtorEq,h1,h2]) (sl @Nat.zero_add) (OP Up _ _ _ _)⟩)
    all_goals simp only[go_sem, ↓reduceIte,Nat.reduceEqDiff,Nat.reduceAdd,Nat.reduceSub,Nat.reduceLeDiff,reduceCtorEq,a8,ag0,a0,a3,b21,bg0,bg1,b0,b3,b5,b8,pR,aa,vt,vo,hq]
 ·(try((repeat(revert hN;revert N;apply Pn.out));refine wk (tw @a8 (tw @ag0 (tw @a0 (tw @a3 @hk)))) ?_;(repeat(refine Pn.mk ?_;intro N hN))))
  exact fc (.inr rfl) (vs:=[]) rfl ⟨rfl,ak.frame ak.1 ha.ov (by(try dsimp only);omega) (fun x hx=>rfl)⟩
end Go.Proofs.YtgoelphibofcmaaGreat.V
