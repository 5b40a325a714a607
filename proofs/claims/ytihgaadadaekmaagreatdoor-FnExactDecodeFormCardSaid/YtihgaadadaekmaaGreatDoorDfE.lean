/- DecodeForm and ProductsIn: plain, and by the reference. -/
import Derived.Test.YtihgaadadaekmaaGreatDoorDfD
import Derived.Test.YtihgaadadaekmaaGreatDoorDfC
import Derived.RangeFuncNested
import Derived.RangeFuncBound
import Derived.RangeFuncCalls
import Derived.RangeFuncLeaves
import Derived.Shelf.Abstract
import Derived.Shelf.RegionOpen
import Derived.WalkKit
import Derived.OwnWalkIn
import Derived.TacticsInMore
import Derived.LoopNIn
import Derived.LoopIn
import Derived.BigQuiet
import Derived.RangeFuncBox
import Derived.RangeFuncWrites
import Derived.Maps.AppendAt
import Derived.Test.YtihgaadadaekmaaGreatDoorDfB
import Derived.OrdersIn
set_option linter.unusedVariables false
set_option linter.unusedSimpArgs false
set_option maxRecDepth 100000
set_option maxHeartbeats 16000000
namespace Go.Proofs.YtihgaadadaekmaaGreatDoor.V
open Go.RowKit
attribute [local irreducible] ea wpOps gR Call
attribute [local go_sem] aM fP eL gh ga cE upd cu K.av cL AV.cells AV.cell rowOf rowsOf part ld rowAt bY ck dI ef ig bL da ez gn e7 du ek cY cX dV dW bR bm cQ bQ cT cR ei eo ej cP bW cZ eh bP aQ cV cC ib bw cH bS aY dF bu dK AV.undef bF bH dY ee dU eb cF ew eD cw eu er cU cW List.getD_cons_zero List.getD_cons_succ List.getD_nil List.all_cons List.all_nil Bool.and_true Bool.true_and Bool.and_self Bool.not_true Bool.not_false Option.map_some Option.map_none Option.bind_some Option.bind_none List.length_cons List.length_nil List.take_succ_cons List.take_zero List.take_nil List.drop_succ_cons List.drop_zero List.drop_nil List.head?_cons List.map_cons List.map_nil List.getElem?_cons_zero List.getElem?_cons_succ List.cons_append List.nil_append List.append_nil List.length_map List.set_cons_zero List.set_cons_succ Nat.reduceMul eq_self Int.toNat_natCast Int.natCast_nonneg and_self true_and and_true decide_true decide_false Bool.false_eq_true Nat.zero_add Nat.add_zero List.contains_cons List.contains_nil Bool.or_false Bool.false_or beq_self_eq_true Nat.reduceBEq ne_eq not_true_eq_false not_false_eq_true Id.mk.injEq false_and and_false Nat.reduceLT Int.reduceLE Int.reduceLT Int.reduceToNat Int.reduceNeg Int.reduceAdd Nat.le_refl List.length_append beq_true beq_false Bool.not_eq_eq_eq_not or_false false_or dE ad aj aI bE cj aW bf aV bo cN bG
def fb (s:aw) (l:List ao) (f:dG) (j:Nat):Int:=jN (C9 s l ⟨f.aU+1+(j:Int),(f.aq.length:Int)⟩ 0) ⟨#[111]⟩ 2
def kQ (D:Nat->Int) (n:Nat):List Int:=(List.range n).map D
theorem nJ (D:Nat->Int) (n:Nat):(kQ D n).length=n:=by simp[kQ]
theorem wE (D:Nat->Int) (n:Nat):kQ D (n+1)=kQ D n++[D n]:=by simp[kQ,List.range_succ]
def xT (D:Nat->Int) (n:Nat):List Int×Int:=if (List.range n).all (fun j=>decide (0<=D j))=true then(kQ D n,0)else([],9)
theorem Du {D:Nat->Int} {n j:Nat} (hj:j<n) (h:D j<0):xT D n=([],9):=by
 have:(List.range n).all (fun j=>decide (0<=D j))=false:=by
  simp only[List.all_eq_false,List.mem_range]
  exact⟨j,hj,by simp;exact h⟩
 rw[xT,this];rfl
theorem z6 {D:Nat->Int} {n:Nat} (h:∀j,j<n->0<=D j):xT D n=(kQ D n,0):=by
 have:(List.range n).all (fun j=>decide (0<=D j))=true:=by
  simpa using h
 rw[xT,this];rfl
noncomputable def pj (s:cl) (a:dj) (f:dG):List Int×Int:=if (nu s a.ah&&nF f)=true then xT (fb s.aE a.ah f) f.aL.length else([],1)
theorem C7 {f:dG} (h:nF f=true):(1<=f.aU/\f.aU<=4)/\(1<=f.aL.length/\f.aL.length<=3)/\f.aq.length<=81:=by
 unfold nF at h
 simp only[Bool.and_eq_true,decide_eq_true_eq]at h
 have h1:=dB h.1.1.1.1
 have h2:=dB h.1.1.1.2
 exact⟨h1,ab,h.1.1.2⟩
theorem HK (D:Nat->Int) (n:Nat):(xT D n).1.length<=n:=by
 unfold xT
 split
 ·rw[nJ];exact Nat.le_refl _
 ·simp
theorem E4 (s:aw) (g:Int) (h0:0<=g) (h1:g<=s.au.length) (u:ByteArray) (hu:u.size<=1000):ae Tryz.prog 84 [.cJ (aa s),.int .i64 g,.str u] (.int .i64 (if g=0 then -1 else jN (iA s (g-1)).aB u 2)):=by
 refine ae.body dM rfl fun hl n0=>?_
 have hn:s.au.length<=9223372036854775807:=by
  have h1:=(hl (.cJ (aa s)) (by simp)).ua (a:=.sl (s.au.map bd)) (by simp[aa])
  simpa using h1.len
 clear hl
 by_cases hg:g=0
 ·have e:decide (g=0)=true:=decide_eq_true hg
  (try((repeat(revert hN;revert N;apply Pn.out));refine wk (tw @aa.eq_1 @e) ?_;(repeat(refine Pn.mk ?_;intro N hN))))
  exact aZ (b:=-1) (.inl rfl) (sd @Nat.zero_add) (by rw[if_pos hg])
 ·have e:decide (g=0)=false:=decide_eq_false hg
  have hw:IntKind.i64.wrap (g-1)=g-1:=aT ab
  have jx:0<=g-1:=ab
  have dR:(s.au.map bd)[(g-1).toNat]? =some (bd (iA s (g-1))):=getD_map bd ab
  have P9:IntKind.i64.wrap ((u.size:Int)+1)=(u.size:Int)+1:=aT ab
  rw[if_neg hg]
  obtain⟨nm0,EF⟩:∃u,iA s (g-1)=u:=⟨_,rfl⟩
  rw[EF]at dR ⊢
  obtain⟨nm,st⟩:=nm0
  (try dsimp only)
  by_cases hs:nm.size=u.size+1
  ·have es:decide ((nm.size:Int)=(u.size:Int)+1)=true:=decide_eq_true ab
   have JZ:(0:Int)<=(u.size:Int):=ab
   have Oy:(u.size:Int)<=(nm.size:Int):=ab
   have J0:u.size<=nm.size:=ab
   by_cases hp:nm.extract 0 u.size=u
   ·have ep:decide (nm.extract 0 u.size=u)=true:=decide_eq_true hp
    have b1:=vV (s:=nm) (i:=u.size) ab
    have c1:=tx (s:=nm) (i:=u.size) ab
    generalize nm[u.size]=x1 at b1 c1
    have J2:=x1.toNat_lt
    by_cases h48:x1.toNat=48
    ·have e1:decide ((x1.toNat:Int)=48)=true:=decide_eq_true ab
     have SV:IntKind.u8.wrap ((x1.toNat:Int)-48)=0:=by rw[h48];rfl
     have M1:IntKind.i64.wrap 0=0:=rfl
     (try((repeat(revert hN;revert N;apply Pn.out));refine wk (tw @aa.eq_1 (tw @bd.eq_1 (tw @e (tw @hw (tw @jx (tw @dR (tw @P9 (tw @es (tw @JZ (tw @Oy (tw @J0 (tw @ep (tw @b1 (tw @e1 (tw @SV @M1))))))))))))))) ?_;(repeat(refine Pn.mk ?_;intro N hN))))
     exact aZ (b:=0) (.inl rfl) (sd @Nat.zero_add) (by rw[jN,if_pos ⟨hs,hp,ab,ab⟩,c1];omega)
    ·have e1:decide ((x1.toNat:Int)=48)=false:=decide_eq_false ab
     by_cases h49:x1.toNat=49
     ·have e2:decide ((x1.toNat:Int)=49)=true:=decide_eq_true ab
      have SV:IntKind.u8.wrap ((x1.toNat:Int)-48)=1:=by rw[h49];rfl
      have M1:IntKind.i64.wrap 1=1:=rfl
      (try((repeat(revert hN;revert N;apply Pn.out));refine wk (tw @aa.eq_1 (tw @bd.eq_1 (tw @e (tw @hw (tw @jx (tw @dR (tw @P9 (tw @es (tw @JZ (tw @Oy (tw @J0 (tw @ep (tw @b1 (tw @e1 (tw @e2 (tw @SV @M1)))))))))))))))) ?_;(repeat(refine Pn.mk ?_;intro N hN))))
      exact aZ (b:=1) (.inl rfl) (sd @Nat.zero_add) (by rw[jN,if_pos ⟨hs,hp,ab,ab⟩,c1];omega)
     ·have e2:decide ((x1.toNat:Int)=49)=false:=decide_eq_false ab
      (try((repeat(revert hN;revert N;apply Pn.out));refine wk (tw @aa.eq_1 (tw @bd.eq_1 (tw @e (tw @hw (tw @jx (tw @dR (tw @P9 (tw @es (tw @JZ (tw @Oy (tw @J0 (tw @ep (tw @b1 (tw @e1 @e2)))))))))))))) ?_;(repeat(refine Pn.mk ?_;intro N hN))))
      exact aZ (b:=-1) (.inl rfl) (sd @Nat.zero_add) (by rw[jN,if_neg (fun q=>ab)])
   ·have ep:decide (nm.extract 0 u.size=u)=false:=decide_eq_false hp
    (try((repeat(revert hN;revert N;apply Pn.out));refine wk (tw @aa.eq_1 (tw @bd.eq_1 (tw @e (tw @hw (tw @jx (tw @dR (tw @P9 (tw @es (tw @JZ (tw @Oy (tw @J0 @ep))))))))))) ?_;(repeat(refine Pn.mk ?_;intro N hN))))
    exact aZ (b:=-1) (.inl rfl) (sd @Nat.zero_add) (by rw[jN,if_neg (fun q=>hp q.2.1)])
  ·have es:decide ((nm.size:Int)=(u.size:Int)+1)=false:=decide_eq_false ab
   (try((repeat(revert hN;revert N;apply Pn.out));refine wk (tw @aa.eq_1 (tw @bd.eq_1 (tw @e (tw @hw (tw @jx (tw @dR (tw @P9 @es))))))) ?_;(repeat(refine Pn.mk ?_;intro N hN))))
   exact aZ (b:=-1) (.inl rfl) (sd @Nat.zero_add) (by rw[jN,if_neg (fun q=>hs q.1)])
theorem Kf (s:cl) (hF:iE s.aE) (l:List ao) (hA:qU s.aE l) (p:cr) (d:Int) (hd:fI d 0 3=true) (u:ByteArray) (hu:u.size<=1000):
  ae Tryz.prog 55 [.cJ (az s),.cJ [.sl (l.map ai)],.agg (ak p),.int .i64 d,.str u] (.int .i64 (jN (C9 s.aE l p d) u 2)):=by
 refine ae.body dM rfl fun hl n0=>?_
 clear hl
 have xF:=Kd l p hA.1.Rh (by have:=hA.1.FW;omega)
 rw[ak]at xF ⊢
 rw[az]
 by_cases h0:vK l p<0
 ·(repeat(first|((repeat(revert hN;revert N;apply Pn.out));refine wk @h0 ?_;(repeat(refine Pn.mk ?_;intro N hN)))|((try apply Or.inl);refine⟨_,ae.x (xF) (sd @h0),?_⟩;refine hN _ _ ?_;clear hN N)))
  exact aZ (b:=-1) (.inl rfl) (sd @Nat.zero_add) (by rw[C9,if_pos h0,zi])
 ·have ht:=yV hA (p:=p) ab
  have Mz:jN (C9 s.aE l p d) u 2=if dc (dd s.aE (vK l p)) d=0 then -1 else jN (iA s.aE (dc (dd s.aE (vK l p)) d-1)).aB u 2:=by
   rw[C9,if_neg h0]
   split
   ·exact zi
   ·rfl
  rw[Mz]
  generalize vK l p=t at xF h0 ht
  obtain⟨S6,S7,S8⟩:=kD ht
  have s1:=kA (hF.nT _ S8) hd
  have gl:=hF.r6 _ S8 _ (qD (hF.nT _ S8) hd)
  have d0:=(dB hd).1
  have hv:=(E4 s.aE (dc (dd s.aE t) d) gl.1 gl.2 u hu).cut mixed (.ptr _ [.sl (s.bZ.ah.map ai),.int .i64 s.aH] (.same _ (.same _ .nil)))
  rw[aa]at hv
  simp only[List.cons_append,List.nil_append]at hv
  obtain⟨z,hz⟩:∃z:Int,(if dc (dd s.aE t) d=0 then -1 else jN (iA s.aE (dc (dd s.aE t) d-1)).aB u 2)=z:=⟨_,rfl⟩
  rw[hz]at hv ⊢
  (repeat(first|((repeat(revert hN;revert N;apply Pn.out));refine wk (tw @h0 (tw @S6 (tw @S7 (tw @bj.eq_1 (tw @s1 @d0))))) ?_;(repeat(refine Pn.mk ?_;intro N hN)))|((try apply Or.inl);refine⟨_,ae.x (xF) (sd (tw @h0 (tw @S6 (tw @S7 (tw @bj.eq_1 (tw @s1 @d0)))))),?_⟩;refine hN _ _ ?_;clear hN N)|((try apply Or.inl);refine⟨_,ae.x (hv) (sd (tw @h0 (tw @S6 (tw @S7 (tw @bj.eq_1 (tw @s1 @d0)))))),?_⟩;refine hN _ _ ?_;clear hN N)))
  exact aZ (b:=z) (.inl rfl) (sd @Nat.zero_add) rfl
theorem wW (s:cl) (a:dj) (f:dG) (hn:fx s.aE) (hg:s.aE.au.length<=1048576) (ht:s.aE.ah.length<=1048576) (xK:f.aL.length<=1048576) (yG:∀l∈f.aL,l.length<=1048576):
  ∃w,mD ar (pj s a f).1 w/\iN Tryz.prog 26 [.agg (az s),.agg (aD a),.agg (bc f)] (.iL [w,.int .i64 (pj s a f).2]):=by
 obtain⟨l⟩:=a
 have h1:=HD s l f hn hg ht xK yG
 rw[aD]
 (try dsimp only)
 cases hask:nu s l&&nF f
 ·rw[hask]at h1
  have hr:pj s ⟨l⟩ f=([],1):=by rw[pj,hask];rfl
  rw[hr]
  refine⟨.bK,.inl ⟨rfl,rfl⟩,?_⟩
  refine iN.body dM rfl fun vk σ=>?_
  clear vk
  rw[az,bc]at h1 ⊢
  (repeat(first|((repeat(revert hN;revert N;apply Pn.out));refine wk @Nat.zero_add ?_;(repeat(refine Pn.mk ?_;intro N hN)))|((try apply Or.inl);refine⟨_,ae.x (h1) (sd @Nat.zero_add),?_⟩;refine hN _ _ ?_;clear hN N)))
  exact sH (.inl rfl) (vs:=[.bK,.int .i64 1]) (sd @Nat.zero_add) (by simp[eF,bG,ad,aj,aI,aW])
 rw[hask]at h1
 have hr:pj s ⟨l⟩ f=xT (fb s.aE l f) f.aL.length:=by rw[pj,hask];rfl
 rw[hr]
 obtain⟨R7,lr⟩:=Bool.and_eq_true_iff.1 hask
 obtain⟨hP,hA⟩:=yU.1 R7
 obtain⟨M7,ksu,kcu⟩:=C7 lr
 have gO:(f.aq.map bh).length=f.aq.length:=by simp
 have ji:(f.aL.map j9).length=f.aL.length:=by simp
 have key:∀(w:AV) (c:Int),((∃j,j<f.aL.length/\fb s.aE l f j<0)->w=.bK/\c=9)->((∀j,j<f.aL.length->0<=fb s.aE l f j)->w=.sl ((kQ (fb s.aE l f) f.aL.length).map ar)/\c=0)->
   iN Tryz.prog 26 [.agg (az s),.agg [.sl (l.map ai)],.agg (bc f)] (.iL [w,.int .i64 c]):=by
  intro w c pv wo
  refine iN.body dM rfl fun vk σ=>?_
  clear vk
  have xF:=fun k:Nat=>Kf s hP.set.form l hA ⟨f.aU+1+(k:Int),(f.aq.length:Int)⟩ 0 (nI ab) ⟨#[111]⟩ (by decide)
  rw[az,bc]at h1
  rw[az]at xF
  rw[az,bc]
  (repeat(first|((repeat(revert hN;revert N;apply Pn.out));refine wk @Nat.zero_add ?_;(repeat(refine Pn.mk ?_;intro N hN)))|((try apply Or.inl);refine⟨_,ae.x (h1) (sd @Nat.zero_add),?_⟩;refine hN _ _ ?_;clear hN N)))
  refine aP (fun n env st=>∃k:Nat,n=(f.aL.length)-k/\k<=(f.aL.length)/\env 10=.int .i64 (k:Int)/\(∀j:Nat,j<k->0<=fb s.aE l f j)/\((∃o:Id,env 9=.own o 0 k/\st.get o=some ⟨true,1,(kQ (fb s.aE l f) k).map ar⟩/\o.cq<st.next/\σ.next<o.cq)/\st.get ⟨26000000,σ.next⟩=some ⟨true,4,[[.sl (s.aE.au.map bd),.sl (s.aE.ah.map bj),.sl (s.bZ.ah.map ai),.int .i64 s.aH]]⟩/\st.get ⟨26000001,σ.next⟩=some ⟨true,1,[[.sl (l.map ai)]]⟩/\st.get ⟨26000002,σ.next⟩=some ⟨true,3,[[.int .i64 f.aU,.sl (f.aq.map bh),.sl (f.aL.map j9)]]⟩)) (f.aL.length) ⟨0,ab,ab,sl (tw @gO @ji),fun _ h=>absurd h (Nat.not_lt_zero _),by(try dsimp only);exact⟨⟨⟨26004000,σ.next+1+1+1⟩,sl @Nat.zero_add,sl @Nat.zero_add,bt,bt⟩,sd @Nat.zero_add,sd @Nat.zero_add,sd @Nat.zero_add⟩⟩ ?_
  rintro n_a env_a st_a ⟨k,rfl,ale,AU,iM,jW⟩ dm
  have a3:=dm 3 (by kernel_rfl);have a4:=dm 4 (by kernel_rfl);have a5:=dm 5 (by kernel_rfl)
  simp only[go_sem, ↓reduceIte,Nat.reduceEqDiff,Nat.reduceAdd,Nat.reduceSub,Nat.reduceLeDiff,reduceCtorEq,gO,ji]at a3 a4 a5
  clear dm
  obtain⟨⟨o,a9,OO,aov,LQ⟩,g3,g4,g5⟩:=jW
  by_cases hk:(k:Int)<(f.aL.length:Int)
  ·have bD:∀{e:Env} {gg:Rows} {nx:Nat},(e 10=.int .i64 (IntKind.i64.wrap ((k:Int)+1)))->(0<=fb s.aE l f k)->((∃o:Id,e 9=.own o 0 (k+1)/\gg o=some ⟨true,1,(kQ (fb s.aE l f) (k+1)).map ar⟩/\o.cq<nx/\σ.next<o.cq)/\gg ⟨26000000,σ.next⟩=some ⟨true,4,[[.sl (s.aE.au.map bd),.sl (s.aE.ah.map bj),.sl (s.bZ.ah.map ai),.int .i64 s.aH]]⟩/\gg ⟨26000001,σ.next⟩=some ⟨true,1,[[.sl (l.map ai)]]⟩/\gg ⟨26000002,σ.next⟩=some ⟨true,3,[[.int .i64 f.aU,.sl (f.aq.map bh),.sl (f.aL.map j9)]]⟩)->∃m0,m0<(f.aL.length)-k/\∃k:Nat,m0=(f.aL.length)-k/\k<=(f.aL.length)/\e 10=.int .i64 (k:Int)/\(∀j:Nat,j<k->0<=fb s.aE l f j)/\((∃o:Id,e 9=.own o 0 k/\gg o=some ⟨true,1,(kQ (fb s.aE l f) k).map ar⟩/\o.cq<nx/\σ.next<o.cq)/\gg ⟨26000000,σ.next⟩=some ⟨true,4,[[.sl (s.aE.au.map bd),.sl (s.aE.ah.map bj),.sl (s.bZ.ah.map ai),.int .i64 s.aH]]⟩/\gg ⟨26000001,σ.next⟩=some ⟨true,1,[[.sl (l.map ai)]]⟩/\gg ⟨26000002,σ.next⟩=some ⟨true,3,[[.int .i64 f.aU,.sl (f.aq.map bh),.sl (f.aL.map j9)]]⟩):=fun x1 x2 x3=>⟨_,ab,k+1,rfl,ab,(by rw[x1,ay ab]),(all_succ iM x2),x3⟩
   have dX:k<f.aL.length:=ab
   have JE:=xF k
   rw[ak]at JE
   have qh:IntKind.i64.wrap (f.aU+1)=f.aU+1:=aT ab
   have qi:IntKind.i64.wrap (f.aU+1+(k:Int))=f.aU+1+(k:Int):=aT ab
   obtain⟨v,hv⟩:∃v,fb s.aE l f k=v:=⟨_,rfl⟩
   have SS:jN (C9 s.aE l ⟨f.aU+1+(k:Int),(f.aq.length:Int)⟩ 0) ⟨#[111]⟩ 2=v:=hv
   rw[SS]at JE
   by_cases kO:v<0
   ·obtain⟨rfl,rfl⟩:=pv ⟨k,dX,by rw[hv];exact kO⟩
    (repeat(first|((repeat(revert hN;revert N;apply Pn.out));refine wk (tw @AU (tw @a3 (tw @a4 (tw @a5 (tw @hk (tw @gO (tw @ji (tw @g3 (tw @g4 (tw @g5 (tw @kO (tw @qh @qi)))))))))))) ?_;(repeat(refine Pn.mk ?_;intro N hN)))|((try apply Or.inl);refine⟨_,ae.x (JE) (sd (tw @AU (tw @a3 (tw @a4 (tw @a5 (tw @hk (tw @gO (tw @ji (tw @g3 (tw @g4 (tw @g5 (tw @kO (tw @qh @qi))))))))))))),?_⟩;refine hN _ _ ?_;clear hN N)))
    exact sH (.inl rfl) (vs:=[.bK,.int .i64 9]) (sd @Nat.zero_add) (by simp[eF,bG,ad,aj,aI,aW])
   ·have Ow:(kQ (fb s.aE l f) (k+1)).map ar=(kQ (fb s.aE l f) k).map ar++[[.int .i64 v]]:=by rw[wE,List.map_append,hv];rfl
    have xI:((kQ (fb s.aE l f) k).map ar).length=k:=by rw[List.length_map,nJ]
    have r9:k<=16777215:=ab
    have vo:=eO aov
    have o3:=dr (a:=⟨26000000,σ.next⟩) (b:=o) LQ
    have o4:=dr (a:=⟨26000001,σ.next⟩) (b:=o) LQ
    have o5:=dr (a:=⟨26000002,σ.next⟩) (b:=o) LQ
    generalize (kQ (fb s.aE l f) k).map ar=M at OO Ow xI
    (repeat(first|((repeat(revert hN;revert N;apply Pn.out));refine wk (tw @AU (tw @a3 (tw @a4 (tw @a5 (tw @hk (tw @gO (tw @ji (tw @g3 (tw @g4 (tw @g5 (tw @kO (tw @a9 (tw @OO (tw @vo (tw @xI (tw @r9 (tw @qh @qi))))))))))))))))) ?_;(repeat(refine Pn.mk ?_;intro N hN)))|((try apply Or.inl);refine⟨_,ae.x (JE) (sd (tw @AU (tw @a3 (tw @a4 (tw @a5 (tw @hk (tw @gO (tw @ji (tw @g3 (tw @g4 (tw @g5 (tw @kO (tw @a9 (tw @OO (tw @vo (tw @xI (tw @r9 (tw @qh @qi)))))))))))))))))),?_⟩;refine hN _ _ ?_;clear hN N)))
    exact bD (sd (tw @AU (tw @a3 (tw @a4 @a5)))) (by rw[hv];omega) (by(try dsimp only);exact⟨⟨⟨26011003,st_a.next+1+1+1⟩,sl @Nat.zero_add,by rw[Ow];simp only[go_sem, ↓reduceIte,Nat.reduceEqDiff,Nat.reduceAdd,Nat.reduceSub,Nat.reduceLeDiff,reduceCtorEq]<;>rfl,bt,bt⟩,sd (tw @o3 @g3),sd (tw @o4 @g4),sd (tw @o5 @g5)⟩)
  ·have dX:k=f.aL.length:=ab
   rw[dX]at OO a9
   obtain⟨rfl,rfl⟩:=wo fun j hj=>iM j ab
   (try((repeat(revert hN;revert N;apply Pn.out));refine wk (tw @AU (tw @a3 (tw @a4 (tw @a5 (tw @hk (tw @gO (tw @ji (tw @g5 @a9)))))))) ?_;(repeat(refine Pn.mk ?_;intro N hN))))
   exact sH (.inl rfl) (vs:=[.own o 0 f.aL.length,.int .i64 0]) (sd @a9) (by
    have:=e6 (e:=ar) (g:=st_a.get) (sz:=1) (n:=4) (len:=f.aL.length) (l:=kQ (fb s.aE l f) f.aL.length) (id:=o) OO (by rw[nJ]) fun x=>by simp[ar,ad,aj,aI]
    simp only[eF,bG,ad,aj,aI,this,Option.map_some])
 by_cases dk:∀j,j<f.aL.length->0<=fb s.aE l f j
 ·rw[z6 dk]
  exact⟨_,.inr rfl,key _ _ (fun⟨j,hj,h⟩=>by have:=dk j hj;omega) fun _=>⟨rfl,rfl⟩⟩
 ·obtain⟨j,hj⟩:=Classical.not_forall.1 dk
  obtain⟨hj1,Sr⟩:=Classical.not_imp.1 hj
  rw[Du hj1 ab]
  exact⟨.bK,.inl ⟨rfl,rfl⟩,key _ _ (fun _=>⟨rfl,rfl⟩) fun h=>absurd h dk⟩
end Go.Proofs.YtihgaadadaekmaaGreatDoor.V

namespace Go.Proofs.YtihgaadadaekmaaGreatDoor.V
open Go.RowKit Go.Shelf
attribute [local go_sem] Oper.semAt_some
structure oB (W:World) (v:Value) (l:List ao):Prop where
 sl:∃A c,v=.slice A l.length c/\(l.length<=c/\c<=maxLen)/\(l=[]∨∃b o,A=some ⟨b,o,none⟩/\∀i,i<l.length->W.cell? ⟨b,o+(i*3+0),none⟩=some (.int .i64 (bC l i).cI.gE)/\W.cell? ⟨b,o+(i*3+1),none⟩=some (.int .i64 (bC l i).cI.fQ)/\W.cell? ⟨b,o+(i*3+2),none⟩=some (.int .i64 (bC l i).bJ))
structure Gf (K:World->World->Prop) (v:Value) (l:List ao):Prop where
 refl:∀W,K W W
 trans:∀{A B C:World},K A B->K B C->K A C
 of:∀{W W':World},Below W.heap.size W W'->K W W'
 size:∀{W W':World},K W W'->W.heap.size<=W'.heap.size
 typed:∀{W W':World},K W W'->∀(b:Nat) (cells:Array Value) (T:TypeId) (fr:Nat×Nat),W.heap[b]? =some (Obj.cells cells T fr)->T≠177->T≠196->W'.heap[b]? =W.heap[b]?
 pl:∀{W W':World},K W W'->oB W v l->oB W' v l
theorem sL {W:World} {b x:Nat} {v:Value} (h:W.cell? ⟨b,x,none⟩=some v):b<W.heap.size:=by
 rcases Nat.lt_or_ge b W.heap.size with h1|h1
 ·exact h1
 ·simp[World.cell?,Array.getElem?_eq_none h1]at h
theorem oB.below {W W':World} {v:Value} {l:List ao} (h:oB W v l) (k:Below W.heap.size W W'):oB W' v l:=by
 obtain⟨A,c,rfl,hm,hc⟩:=h.sl
 refine⟨A,c,rfl,hm,?_⟩
 rcases hc with h0|⟨b,o,rfl,jR⟩
 ·exact .inl h0
 ·refine .inr ⟨b,o,rfl,fun i hi=>?_⟩
  obtain⟨h1,h2,h3⟩:=jR i hi
  have hb:=sL h1
  exact⟨(k.cell (p:=⟨b,_,none⟩) hb).trans h1,(k.cell (p:=⟨b,_,none⟩) hb).trans h2,(k.cell (p:=⟨b,_,none⟩) hb).trans h3⟩
theorem oB.eJ {P:Program} {W:World} {v:Value} {l:List ao} (h:oB W v l):je P W (fun b=>b<W.heap.size) (.sl (l.map ai)) v:=by
 obtain⟨A,c,rfl,hm,hc⟩:=h.sl
 rcases hc with rfl|⟨b,o,rfl,jR⟩
 ·exact .AM A c (by simpa using hm.2)
 by_cases Ok:l=[]
 ·subst Ok;exact .AM _ c (by simpa using hm.2)
 ·have lf:0<l.length:=List.length_pos_iff.2 Ok
  have hb:=sL (jR 0 lf).1
  refine .sl (l.map ai) b o l.length c 3 (fun i j=>if j=0 then .int .i64 (bC l i).cI.gE else if j=1 then .int .i64 (bC l i).cI.fQ else .int .i64 (bC l i).bJ) (by simp) hm.1 hm.2 hb (fun cs dq=>?_) (fun cs dq a ha=>?_) (fun i j hi hj=>?_) (fun i j cs a hi hj=>?_)
  ·obtain⟨x,_,rfl⟩:=List.mem_map.1 dq;rfl
  ·obtain⟨x,_,rfl⟩:=List.mem_map.1 dq
   simp[ai]at ha
   rcases ha with rfl|rfl|rfl<;>rfl
  ·obtain⟨h1,h2,h3⟩:=jR i hi
   match j,hj with
   |0,_=>exact h1
   |1,_=>exact h2
   |2,_=>exact h3
   |j+3,hj=>omega
  ·have oR:i<l.length:=by have:=(List.getElem?_eq_some_iff.1 hi).1;simpa using this
   rw[gH oR]at hi
   injection hi with hi
   subst hi
   match j,hj with
   |0,hj=>simp[ai]at hj;subst hj;exact .int _ _
   |1,hj=>simp[ai]at hj;subst hj;exact .int _ _
   |2,hj=>simp[ai]at hj;subst hj;exact .int _ _
   |j+3,hj=>simp[ai]at hj
theorem y5 {P:Program} (hm:P.follows .mixedOrders=true) {f:Nat} {args:List AV} {vs:Array Value} {w:World} {r:AV} (h:ae P f args r) (hr:∀g r0,fC g 6 r0=some r->r0=r) (hA:e8 P w (fun b=>b<w.heap.size) (fun _=>none) args vs):
  Calls P f vs w fun e w'=>∃D ι u,e=.returned u/\cG P w' D ι r u/\Below w.heap.size w w':=by
 have hs:=gN hm (h 0) w.heap.size (fun b=>b<w.heap.size) (fun _=>none) w vs ⟨Nat.le_refl _,fun _ h=>h,fun id r h=>(by cases h),fun id kg r r' B B' h=>(by cases h)⟩ (fun id h=>absurd rfl h) hA
 refine hs.mono ?_
 rintro e w' ⟨r0,g',n',D',ι',u,rfl,⟨r',hz,rfl⟩,ev,hsim,_,_,gF⟩
 have:=hr _ _ hz
 subst this
 exact⟨D',ι',u,rfl,gF,ev.below⟩
theorem nH {g:Rows} {n:Nat} {a:AV} {k:IntKind} {m:Int} (h:fC g (n+1) a=some (.int k m)):a=.int k m:=by
 cases a<;>rw[fC]at h<;>simp_all
 all_goals (repeat' (split at h))<;>simp_all
theorem Bu {g:Rows} {a:AV} {x y:Int} (h:fC g 6 a=some (.agg [.int .i64 x,.int .i64 y])):a=.agg [.int .i64 x,.int .i64 y]:=by
 cases a with
 |agg cs=>
  rw[C8]at h
  simp only[Option.map_eq_some_iff,AV.agg.injEq,exists_eq_right]at h
  match cs,h with
  |[],h=>rw[bV]at h;simp at h
  |[a],h=>
   rw[br,bV]at h
   cases ha:fC g 5 a<;>simp[ha]at h
  |[a,b],h=>
   rw[br,br,bV]at h
   cases ha:fC g 5 a<;>cases hb:fC g 5 b<;>simp[ha,hb]at h
   obtain⟨rfl,rfl⟩:=h
   rw[nH ha,nH hb]
  |a::b::c::r,h=>
   rw[br,br,br]at h
   cases ha:fC g 5 a<;>cases hb:fC g 5 b<;>cases hc:fC g 5 c<;>cases hd:dH g 5 r<;>simp[ha,hb,hc,hd]at h
 |_=>rw[fC]at h<;>simp_all<;>(repeat' (split at h))<;>simp_all
theorem Cv (W:World) (p:cr) (d:Int) (hd:fI d 0 3=true) (hx:iB p.gE) (hy:iB p.fQ):Calls Tryz.prog 188 #[.agg #[.int .i64 p.gE,.int .i64 p.fQ],.int .i64 d] W fun e W'=>e=.returned (.agg #[.int .i64 (eK p d).gE,.int .i64 (eK p d).fQ])/\Below W.heap.size W W':=by
 refine(y5 mixed (Ny p d hd hx hy) (fun g r0 h=>Bu h) ?_:Calls _ _ _ _ _).mono ?_
 ·exact kp (vs:= #[.int .i64 d]) (.agg _ _ (fun j=>if j=0 then .int .i64 p.gE else .int .i64 p.fQ) rfl (fun a ha=>by simp[ak]at ha;rcases ha with rfl|rfl<;>rfl) (fun j hj=>by match j,hj with|0,_=>rfl|1,_=>rfl|j+2,hj=>simp[ak]at hj;omega) (fun j a ha=>by match j,ha with|0,ha=>simp[ak]at ha;subst ha;exact .int _ _|1,ha=>simp[ak]at ha;subst ha;exact .int _ _|j+2,ha=>simp[ak]at ha)) (kp (vs:= #[]) (.int _ _) uv)
 ·rintro e W' ⟨D,ι,u,rfl,hr,hB⟩
  refine⟨?_,hB⟩
  obtain⟨vs,f,rfl,fe,_,h1,h2⟩:=iu hr
  have v0:=h1 0 (by simp[ak])
  have v1:=h1 1 (by simp[ak])
  rw[dh (h2 0 _ rfl)]at v0
  rw[dh (h2 1 _ rfl)]at v1
  obtain⟨vl⟩:=vs
  match vl,fe with
  |[a,b],_=>
   simp at v0 v1
   rw[v0,v1]
theorem vC (W:World) (l:List ao) (v:Value) (hP:oB W v l) (p:cr) (hR:yO l) (JA:l.length<=1048576):Calls Tryz.prog 187 #[.agg #[v],.agg #[.int .i64 p.gE,.int .i64 p.fQ]] W fun e W'=>e=.returned (.int .i64 (fW l p))/\Below W.heap.size W W':=by
 refine(y5 mixed (Fo l p hR JA) (fun g r0 h=>nH h) ?_:Calls _ _ _ _ _).mono ?_
 ·exact kp (vs:= #[.agg #[.int .i64 p.gE,.int .i64 p.fQ]]) (.agg _ _ (fun _=>v) rfl (fun a ha=>by simp at ha;rw[ha];rfl) (fun j hj=>by match j,hj with|0,_=>rfl|j+1,hj=>simp at hj) (fun j a ha=>by match j,ha with|0,ha=>simp at ha;subst ha;exact hP.eJ|j+1,ha=>simp at ha)) (kp (vs:= #[]) (.agg _ _ (fun j=>if j=0 then .int .i64 p.gE else .int .i64 p.fQ) rfl (fun a ha=>by simp[ak]at ha;rcases ha with rfl|rfl<;>rfl) (fun j hj=>by match j,hj with|0,_=>rfl|1,_=>rfl|j+2,hj=>simp[ak]at hj;omega) (fun j a ha=>by match j,ha with|0,ha=>simp[ak]at ha;subst ha;exact .int _ _|1,ha=>simp[ak]at ha;subst ha;exact .int _ _|j+2,ha=>simp[ak]at ha)) uv)
 ·rintro e W' ⟨D,ι,u,rfl,hr,hB⟩
  exact⟨by rw[dh hr],hB⟩
theorem qc {W W':World} (h:Below W.heap.size W W'):W.grownBy W' none:=⟨h.os,h.tape,h.output,h.size,fun k hk _=>h.block k hk⟩
def Ae (l:List ao) (i:Nat) (d:Int):List (Nat×Nat×Int):=if 0<=fW l (eK (bC l i).cI d)then[(i,(fW l (eK (bC l i).cI d)).toNat,d)]else[]
def kj (l:List ao) (i m:Nat):List (Nat×Nat×Int):=(List.range m).flatMap fun j:Nat=>Ae l i (1-(j:Int))
def kR (l:List ao) (n:Nat):List (Nat×Nat×Int):=(List.range n).flatMap fun i=>kj l i 2
theorem lN (l:List ao) (n:Nat):kR l (n+1)=kR l n++kj l n 2:=by simp[kR,List.range_succ]
theorem mh (l:List ao) (i m:Nat):kj l i (m+1)=kj l i m++Ae l i (1-(m:Int)):=by simp[kj,List.range_succ]
theorem Nh (l:List ao) {k m:Nat} (hk:k<l.length) (hm:m<=2):kR l k++kj l k m <+:kR l l.length:=by
 have h1:∀d,kR l k <+:kR l (k+d):=fun d=>by
  induction d with
  |zero=>exact List.prefix_refl _
  |succ d ih=>rw[<-Nat.add_assoc,lN l (k+d)];exact ih.trans (List.prefix_append _ _)
 have h2:∀d,kR l (k+1) <+:kR l (k+1+d):=fun d=>by
  induction d with
  |zero=>exact List.prefix_refl _
  |succ d ih=>rw[<-Nat.add_assoc,lN l (k+1+d)];exact ih.trans (List.prefix_append _ _)
 have h3:=h2 (l.length-(k+1))
 rw[show k+1+(l.length-(k+1))=l.length by omega,lN]at h3
 refine List.IsPrefix.trans ?_ h3
 have h4:kj l k m <+:kj l k 2:=by
  have:m=0∨m=1∨m=2:=ab
  rcases this with rfl|rfl|rfl
  ·exact List.nil_prefix
  ·rw[mh l k 1];exact List.prefix_append _ _
  ·exact List.prefix_refl _
 exact(List.prefix_append_right_inj _).2 h4
def OJ (l:List ao) (x:Nat×Nat×Int):Prop:=x.1<l.length/\x.2.1<l.length/\(0<=x.2.2/\x.2.2<=1)
def C1 (x:Nat×Nat×Int):Array Value:= #[.agg #[.int .i64 (x.1:Int),.int .i64 (x.2.1:Int)],.int .i64 x.2.2]
theorem J5 (l:List ao) (p:cr) (h:0<l.length:=by omega):fW l p<(l.length:Int):=by
 unfold fW
 split<;>omega
theorem Qn (l:List ao) (hA:j6 l) (q Ba:Nat) (vS:Value) (K:World->World->Prop) (kl:Gf K vS l) (J Jx:List (Nat×Nat×Int)->World->Prop) (n:Nat) (hn:1<=n)
  (hY:∀pre x W,J pre W->pre.length<(kR l l.length).length->OJ l x->YieldAt Fence.wide (n-1) Tryz.prog q (C1 x) W fun e W'=>
   (e=.returned (.bool true)/\J (pre++[x]) W'/\K W W')∨(e=.returned (.bool false)/\Jx (pre++[x]) W'))
  (W:World) (hJ:AbidesFrom W.heap.size J) (Mn:W.heap[Ba]? =some (.cells #[vS] 42 (0,0))) (hP:oB W vS l) (h0:J [] W):
  CallsIn Fence.wide n Tryz.prog 186 #[.func (.yield q) #[] #[],.pointer (some ⟨Ba,0,none⟩)] W fun e W'=>(∃v,e=.returned v)/\
   ((∃ys,ys=kR l l.length/\J ys W')∨(∃pre,pre <+:kR l l.length/\Jx pre W')):=by
 obtain⟨A,cp,rfl,_,_⟩:=hP.sl
 refine callsIn_of_wp Tryz.func186 rfl trivial ?_ rfl
 simp only[Tryz.ntmps186,List.size_toArray,List.length_cons,List.length_nil,Nat.reduceAdd,Nat.reduceSub,Array.replicate_succ,Array.replicate_zero,List.push_toArray,List.append_toArray,List.nil_append,List.cons_append]
 have jm:W.cell? ⟨Ba,0,none⟩=some (.slice A l.length cp):=by simp[World.cell?,Mn]
 gi_wp2
 gi_loopw [11] (fun i wr=>∃k:Nat,k<=l.length/\i=.int .i64 k/\J (kR l k) wr/\K W wr)
  (fun i _=>l.length-(intOf i).toNat)
 case atStart=>exact⟨0,Nat.zero_le _,rfl,h0,kl.refl _⟩
 case round=>
  obtain⟨k,hk,rfl,hJs,hKt⟩:=hrel
  by_cases dD:k<l.length
  ·have dq:∃b o,A=some ⟨b,o,none⟩/\wr.cell? ⟨b,o+k*3,none⟩=some (.int .i64 (bC l k).cI.gE)/\wr.cell? ⟨b,o+k*3+1,none⟩=some (.int .i64 (bC l k).cI.fQ)/\wr.cell? ⟨b,o+k*3+2,none⟩=some (.int .i64 (bC l k).bJ):=by
    obtain⟨A',c',hv,_,hc⟩:=(kl.pl hKt hP).sl
    cases hv
    rcases hc with rfl|⟨b,o,rfl,jR⟩
    ·simp at dD
    ·obtain⟨h1,h2,h3⟩:=jR k dD
     exact⟨b,o,rfl,by simpa using h1,by rw[Nat.add_assoc];exact h2,by rw[Nat.add_assoc];exact h3⟩
   obtain⟨b,o,rfl,hx,hy',ht⟩:=dq
   gi_wp2
   obtain⟨W2,Pt⟩:∃W2,(wr.alloc (.cells #[.int .i64 (bC l k).cI.gE,.int .i64 (bC l k).cI.fQ,.int .i64 (bC l k).bJ] 114)).alloc (.cells #[.int .i64 1,.int .i64 0] 2)=W2:=⟨_,rfl⟩
   have oE:Below wr.heap.size wr W2:=by rw[<-Pt];exact((Below.refl _ wr).alloc (Nat.le_refl _) _).alloc (by simp) _
   have RW:W2.heap[wr.heap.size]? =some (.cells #[.int .i64 (bC l k).cI.gE,.int .i64 (bC l k).cI.fQ,.int .i64 (bC l k).bJ] 114 (0,0)):=by
    rw[<-Pt,Below.heap_alloc _ _ _ (by simp)];exact World.alloc_heap_new _ _
   have RV:W2.heap[wr.heap.size+1]? =some (.cells #[.int .i64 1,.int .i64 0] 2 (0,0)):=by
    have:=World.alloc_heap_new (wr.alloc (.cells #[.int .i64 (bC l k).cI.gE,.int .i64 (bC l k).cI.fQ,.int .i64 (bC l k).bJ] 114)) (.cells #[.int .i64 1,.int .i64 0] 2)
    rw[World.size_alloc]at this
    rw[<-Pt];exact this
   have Po:K W W2:=kl.trans hKt (kl.of oE)
   have hJ2:J (kR l k++kj l k 0) W2:=by
    have:=hJ _ _ _ none hJs (qc oE) (fun r h=>by cases h)
    simpa[kj]using this
   rw[Pt]
   clear Pt
   generalize wr=w1 at *
   gi_loopw [18] (fun j wr=>∃m:Nat,m<=2/\j=.int .i64 m/\J (kR l k++kj l k m) wr/\K W2 wr)
    (fun j _=>2-(intOf j).toNat)
   case atStart=>exact⟨0,ab,rfl,hJ2,kl.refl _⟩
   case round=>
    obtain⟨m,hm,rfl,hJm,K9⟩:=hrel
    have Su:m=0∨m=1∨m=2:=ab
    by_cases I6:m<2
    ·have hkd:=kl.typed K9 _ _ _ _ RV (by decide) (by decide)
     have I4:=kl.typed K9 _ _ _ _ RW (by decide) (by decide)
     have hka:=kl.typed (kl.trans Po K9) _ _ _ _ Mn (by decide) (by decide)
     have cd:wr.cell? ⟨w1.heap.size+1,m,none⟩=some (.int .i64 (1-(m:Int))):=by
      rw[World.cell?_of_block hkd]
      rcases Su with rfl|rfl|rfl
      ·simp[World.cell?,RV]
      ·simp[World.cell?,RV]
      ·omega
     have ct0:wr.cell? ⟨w1.heap.size,0,none⟩=some (.int .i64 (bC l k).cI.gE):=by rw[World.cell?_of_block I4];simp[World.cell?,RW]
     have ct1:wr.cell? ⟨w1.heap.size,1,none⟩=some (.int .i64 (bC l k).cI.fQ):=by rw[World.cell?_of_block I4];simp[World.cell?,RW]
     have ca:wr.cell? ⟨Ba,0,none⟩=some (.slice (some ⟨b,o,none⟩) l.length cp):=by rw[World.cell?_of_block hka];simp[World.cell?,Mn]
     have hPw:oB wr (.slice (some ⟨b,o,none⟩) l.length cp) l:=kl.pl (kl.trans Po K9) hP
     have hba:Ba<wr.heap.size:=by
      have h1:=(Array.getElem?_eq_some_iff.1 Mn).1
      have h2:=kl.size (kl.trans Po K9)
      omega
     have hdm:fI (1-(m:Int)) 0 3=true:=nI ab
     have hpb:=Ie (hA.pt dD)
     have Ov:=fun w0=>Cv w0 (bC l k).cI (1-(m:Int)) hdm hpb.1 hpb.2
     have hPd:oB wr.drew (.slice (some ⟨b,o,none⟩) l.length cp) l:=hPw.below ⟨rfl,rfl,rfl,Nat.le_refl _,fun _ _=>rfl⟩
     have cad:wr.drew.cell? ⟨Ba,0,none⟩=some (.slice (some ⟨b,o,none⟩) l.length cp):=ca
     have ctd0:wr.drew.cell? ⟨w1.heap.size,0,none⟩=some (.int .i64 (bC l k).cI.gE):=ct0
     have ctd1:wr.drew.cell? ⟨w1.heap.size,1,none⟩=some (.int .i64 (bC l k).cI.fQ):=ct1
     have hfw:=hA.FW
     have PN:=hA.Rh
     have Sv:=mixed
     gi_wp2
     gi_region_with_o (first|(refine⟨trivial,?_⟩;gi_at_call 188;refine(callsIn_wide.2 (Ov _)).mono ?_;rintro e w3 ⟨rfl,zG⟩;have ca3:=(zG.cell (p:=⟨Ba,0,none⟩) hba).trans cad)|(refine⟨trivial,?_⟩;gi_at_call 187;refine(callsIn_wide.2 (vC _ l _ (hPd.below zG) (eK (bC l k).cI (1-(m:Int))) PN ab)).mono ?_;rintro e w4 ⟨rfl,hB4⟩))
     all_goals
      have Mm:Below wr.heap.size wr w4:=(show Below wr.heap.size wr wr.drew from⟨rfl,rfl,rfl,Nat.le_refl _,fun _ _=>rfl⟩).trans (zG.trans (hB4.mono zG.size))
      have hJ4:J (kR l k++kj l k m) w4:=hJ _ _ _ none hJm (qc Mm) (fun r h=>by cases h)
      have vm:=Nh l dD (m:=m+1) ab
      rw[mh,<-List.append_assoc]at vm
      have tT:=mh l k m
      have hw:wrap64 ((m:Int)+1)=((m+1:Nat):Int):=by unfold wrap64;omega
      by_cases xH:0<=fW l (eK (bC l k).cI (1-(m:Int)))
      ·have fN:((fW l (eK (bC l k).cI (1-(m:Int)))).toNat:Int)=fW l (eK (bC l k).cI (1-(m:Int))):=ab
       rw[Ae,if_pos xH]at vm tT
       obtain⟨fn,tmps,assign,body,hy,hR⟩:=hY _ (k,(fW l (eK (bC l k).cI (1-(m:Int)))).toNat,1-(m:Int)) w4 hJ4 (by
        have:=vm.length_le
        simp only[List.length_append,List.length_cons,List.length_nil]at this ⊢
        omega) ⟨dD,by
        have:fW l (eK (bC l k).cI (1-(m:Int)))<(l.length:Int):=J5 _ _
        show(fW l (eK (bC l k).cI (1-(m:Int)))).toNat<l.length
        omega,by show 0<=1-(m:Int);omega,by show 1-(m:Int)<=1;omega⟩
       simp only[C1,fN]at hy
       gi_wp2
       refine hR.mono ?_
       rintro e W3 (⟨rfl,hJ3,hk3⟩|⟨rfl,hJx3⟩)
       ·gi_wp2
        go_roundw
        case rel=>exact⟨m+1,ab,by simp,by rw[tT,<-List.append_assoc];exact hJ3,kl.trans (kl.trans K9 (kl.of Mm)) hk3⟩
        case measure=>simp[intOf];omega
       ·gi_wp2
        refine bodyPost_ret (results_none rfl _ _ _) rfl ?_
        exact⟨⟨_,rfl⟩,.inr ⟨_,vm,hJx3⟩⟩
      ·rw[Ae,if_neg xH,List.append_nil]at tT
       gi_wp2
       refine⟨fun _ h=>(by cases h),?_⟩
       gi_wp2
       go_roundw
       case rel=>exact⟨m+1,ab,by simp,by rw[tT];exact hJ4,kl.trans K9 (kl.of Mm)⟩
       case measure=>simp[intOf];omega
    ·obtain rfl:m=2:=ab
     have hfw:=hA.FW
     gi_wp2
     go_roundw
     case rel=>exact⟨k+1,ab,by simp,by rw[lN];exact hJm,kl.trans Po K9⟩
     case measure=>simp[intOf];omega
  ·obtain rfl:k=l.length:=ab
   gi_wp2
   go_end0
   exact⟨⟨_,rfl⟩,.inl ⟨_,rfl,hJs⟩⟩
theorem xY (n:Nat) (vS:Value) (w:World):CallsIn Fence.wide n Tryz.prog 172 #[.agg #[vS]] w fun e w'=>e=.returned (.func (.func 186) #[] #[.pointer (some ⟨w.heap.size,0,none⟩)])/\w'=w.alloc (.cells #[vS] 42):=by
 refine callsIn_of_wp Tryz.func172 rfl trivial ?_ rfl
 simp only[Tryz.ntmps172,List.size_toArray,List.length_cons,List.length_nil,Nat.reduceAdd,Nat.reduceSub,Array.replicate_succ,Array.replicate_zero,List.push_toArray,List.append_toArray,List.nil_append,List.cons_append]
 gi_wp2
 go_ret
 exact⟨rfl,rfl⟩
abbrev LI (l:List ao):Type:={x:Nat×Nat×Int // OJ l x}
theorem HX (l:List ao) (hA:j6 l) (Ba n:Nat) (hn:1<=n) (vS:Value) (K:World->World->Prop) (kl:Gf K vS l) (w:World) (Mn:w.heap[Ba]? =some (.cells #[vS] 42 (0,0))) (hP:oB w vS l):
  SeqStopsK Fence.wide n Tryz.prog 186 #[.pointer (some ⟨Ba,0,none⟩)] (fun x:LI l=>C1 x.1) K (fun ys=>ys.map (·.1)=kR l l.length) (fun _=>True) (kR l l.length).length w:=fun q J Jx W hW hJ _ hY h0=>by
 refine(Qn l hA q Ba vS K kl (fun ys W=>∃zs:List (LI l),zs.map (·.1)=ys/\J zs W) (fun ys W=>∃zs:List (LI l),zs.map (·.1)=ys/\Jx zs W) n hn (fun pre x W1 hJ1 dD tU=>?_) W (fun s A B row ⟨zs,e,h⟩ hg hr=>⟨zs,e,hJ zs A B row h hg hr⟩) ((hW.block Ba (Array.getElem?_eq_some_iff.1 Mn).1).trans Mn) (hP.below hW) ⟨[],rfl,h0⟩).mono ?_
 ·obtain⟨zs,rfl,h1⟩:=hJ1
  refine YieldAt.mono (hY zs ⟨x,tU⟩ W1 h1 (by simpa using dD)) ?_
  rintro e W' (⟨h2,h3,h4⟩|⟨h2,h3⟩)
  ·exact .inl ⟨h2,⟨zs++[⟨x,tU⟩],by simp,h3⟩,h4⟩
  ·exact .inr ⟨h2,⟨zs++[⟨x,tU⟩],by simp,h3⟩⟩
 ·rintro e W' ⟨h1,⟨ys,rfl,zs,h2,h3⟩|⟨pre,_,zs,h2,h3⟩⟩
  ·exact⟨h1,.inl ⟨zs,h2,h3⟩⟩
  ·exact⟨h1,.inr ⟨zs,trivial,h3⟩⟩
def w9 (s:aw) (l:List ao) (x:Nat×Nat×Int):List PB:=if 0<iR s (bC l x.1).bJ x.2.2 (bC l x.2.1).bJ then[⟨x.1,x.2.1,iR s (bC l x.1).bJ x.2.2 (bC l x.2.1).bJ⟩]else[]
theorem GD (s:aw) (l:List ao):cv s l=(kR l l.length).flatMap (w9 s l):=by
 have h1:∀i d,l5 s l i d=(Ae l i d).flatMap (w9 s l):=fun i d=>by
  unfold l5 Ae
  by_cases h:0<=fW l (eK (bC l i).cI d)
  ·rw[if_pos h]
   simp only[List.flatMap_cons,List.flatMap_nil,List.append_nil,w9]
   by_cases h2:0<iR s (bC l i).bJ d (bC l (fW l (eK (bC l i).cI d)).toNat).bJ
   ·rw[if_pos ⟨h,h2⟩,if_pos h2]
   ·rw[if_neg fun hc=>h2 hc.2,if_neg h2]
  ·rw[if_neg h,if_neg fun hc=>h hc.1];rfl
 unfold cv gp kR
 rw[List.flatMap_assoc]
 congr 1
 funext i
 unfold fE kj
 rw[List.flatMap_assoc]
 congr 1
 funext j
 exact h1 i _
end Go.Proofs.YtihgaadadaekmaaGreatDoor.V

namespace Go.Proofs.YtihgaadadaekmaaGreatDoor.V
open Go.RowKit
attribute [local irreducible] ea wpOps gR Call
attribute [local go_sem] aM fP eL gh ga cE upd cu K.av cL AV.cells AV.cell rowOf rowsOf part ld rowAt bY ck dI ef ig bL da ez gn e7 du ek cY cX dV dW bR bm cQ bQ cT cR ei eo ej cP bW cZ eh bP aQ cV cC ib bw cH bS aY dF bu dK AV.undef bF bH dY ee dU eb cF ew eD cw eu er cU cW List.getD_cons_zero List.getD_cons_succ List.getD_nil List.all_cons List.all_nil Bool.and_true Bool.true_and Bool.and_self Bool.not_true Bool.not_false Option.map_some Option.map_none Option.bind_some Option.bind_none List.length_cons List.length_nil List.take_succ_cons List.take_zero List.take_nil List.drop_succ_cons List.drop_zero List.drop_nil List.head?_cons List.map_cons List.map_nil List.getElem?_cons_zero List.getElem?_cons_succ List.cons_append List.nil_append List.append_nil List.length_map List.set_cons_zero List.set_cons_succ Nat.reduceMul eq_self Int.toNat_natCast Int.natCast_nonneg and_self true_and and_true decide_true decide_false Bool.false_eq_true Nat.zero_add Nat.add_zero List.contains_cons List.contains_nil Bool.or_false Bool.false_or beq_self_eq_true Nat.reduceBEq ne_eq not_true_eq_false not_false_eq_true Id.mk.injEq false_and and_false Nat.reduceLT Int.reduceLE Int.reduceLT Int.reduceToNat Int.reduceNeg Int.reduceAdd Nat.le_refl List.length_append beq_true beq_false Bool.not_eq_eq_eq_not or_false false_or dE ad aj aI bE cj aW bf aV bo cN bG
structure mH (n:Nat) (px:Nat->Option Nat) (L:Nat->Nat):Prop where
 top:∀k,k<n->px k=none->L k=k
 up:∀k j,k<n->px k=some j->j<k/\L j=L k
theorem mH.root {n:Nat} {px:Nat->Option Nat} {L:Nat->Nat} (h:mH n px L) (hL:jk L) {k:Nat} (hk:k<n) (hr:L k=k):px k=none:=by
 rcases hp:px k with _|j
 ·rfl
 ·obtain⟨h1,h2⟩:=h.up k j hk hp
  have:=hL.le j
  omega
theorem mH.start (n:Nat):mH n (fun _=>none) id:=⟨fun _ _ _=>rfl,fun _ _ _ h=>by cases h⟩
theorem mH.join {n:Nat} {px:Nat->Option Nat} {L:Nat->Nat} (h:mH n px L) (hL:jk L) (b:PB) (dD:min (L b.a) (L b.b)<max (L b.a) (L b.b)):mH n (fun k=>if k=max (L b.a) (L b.b)then some (min (L b.a) (L b.b))else px k) (eC L b):=by
 have ha:=hL.idem b.a
 have hb:=hL.idem b.b
 have xJ:L (min (L b.a) (L b.b))=min (L b.a) (L b.b):=by
  rcases Nat.le_total (L b.a) (L b.b)with h|h
  ·rw[Nat.min_eq_left h,ha]
  ·rw[Nat.min_eq_right h,hb]
 have PR:L (max (L b.a) (L b.b))=max (L b.a) (L b.b):=by
  rcases Nat.le_total (L b.a) (L b.b)with h|h
  ·rw[Nat.max_eq_right h,hb]
  ·rw[Nat.max_eq_left h,ha]
 unfold eC
 generalize min (L b.a) (L b.b)=lo at *
 generalize max (L b.a) (L b.b)=hi at *
 refine⟨fun k hk hp=>?_,fun k j hk hp=>?_⟩
 ·by_cases I3:k=hi
  ·rw[if_pos I3]at hp;cases hp
  ·rw[if_neg I3]at hp
   have:=h.top k hk hp
   rw[if_neg ab];exact this
 ·by_cases I3:k=hi
  ·rw[if_pos I3]at hp
   cases hp
   subst I3
   exact⟨dD,by rw[if_neg ab,if_pos PR,xJ]⟩
  ·rw[if_neg I3]at hp
   obtain⟨h1,h2⟩:=h.up k j hk hp
   exact⟨h1,by rw[h2]⟩
theorem xP {L:Nat->Nat} {b:PB} (h:L b.a=L b.b):eC L b=L:=by
 funext k
 unfold eC
 rw[h,Nat.max_self,Nat.min_self]
 split
 ·rename_i h;exact h.symm
 ·rfl
def rl (G:Nat->Id) (px:Nat->Option Nat) (k:Nat):List AV:=[match px k with|none=>.gG|some j=>.ptr (G j) 0 0,.int .i64 (k:Int)]
def ss (g:Rows) (G:Nat->Id) (n:Nat) (px:Nat->Option Nat):Prop:=∀k,k<n->g (G k)=some ⟨true,2,[rl G px k]⟩
theorem ss.frame {g g':Rows} {G:Nat->Id} {n:Nat} {px:Nat->Option Nat} (h:ss g G n px) (hf:∀k,k<n->g' (G k)=g (G k)):ss g' G n px:=fun k hk=>(hf k hk).trans (h k hk)
theorem kY {G:Nat->Id} {px:Nat->Option Nat} {k:Nat} (h:px k=none):rl G px k=[.gG,.int .i64 (k:Int)]:=by rw[rl,h]
theorem r7 {G:Nat->Id} {px:Nat->Option Nat} {k j:Nat} (h:px k=some j):rl G px k=[.ptr (G j) 0 0,.int .i64 (k:Int)]:=by rw[rl,h]
theorem xr (G:Nat->Id) (n:Nat) (px:Nat->Option Nat) (L:Nat->Nat) (h:mH n px L) (k:Nat) (hk:k<n) (σ:ax) (hG:ss σ.get G n px):
  Call Tryz.prog 184 [.ptr (G k) 0 0] σ fun r σ'=>r=.ptr (G (L k)) 0 0/\σ'.get=σ.get/\σ.next<=σ'.next:=by
 refine eW dM rfl fun hl=>?_
 clear hl
 (try((repeat(revert hN;revert N;apply Pn.out));refine wk @Nat.zero_add ?_;(repeat(refine Pn.mk ?_;intro N hN))))
 refine aP (fun m env st=>∃j:Nat,m=j/\j<n/\env 0=.ptr (G j) 0 0/\L j=L k/\st.get=σ.get/\σ.next<=st.next) k ⟨k,rfl,hk,sd @Nat.zero_add,rfl,by(try dsimp only),bt⟩ ?_
 rintro m env_b st_b ⟨j,rfl,hj,b0,hLj,hg,hle⟩ bfr
 clear bfr
 have fH:=hG m hj
 rcases hp:px m with _|j
 ·rw[kY hp]at fH
  (try((repeat(revert hN;revert N;apply Pn.out));refine wk (tw @b0 (tw @hg @fH)) ?_;(repeat(refine Pn.mk ?_;intro N hN))))
  exact gm (.inl rfl) (vs:=[.ptr (G m) 0 0]) (sd @Nat.zero_add) ⟨by rw[<-hLj,h.top m hj hp];rfl,by first|trivial|rfl|exact hg,bt⟩
 ·rw[r7 hp]at fH
  obtain⟨h1,h2⟩:=h.up m j hj hp
  (try((repeat(revert hN;revert N;apply Pn.out));refine wk (tw @b0 (tw @hg @fH)) ?_;(repeat(refine Pn.mk ?_;intro N hN))))
  exact⟨j,h1,j,rfl,ab,sd @Nat.zero_add,ab,by first|trivial|rfl|exact hg,bt⟩
end Go.Proofs.YtihgaadadaekmaaGreatDoor.V

namespace Go.Proofs.YtihgaadadaekmaaGreatDoor.V
open Go.RowKit
attribute [local irreducible] ea wpOps gR Call
attribute [local go_sem] aM fP eL gh ga cE upd cu K.av cL AV.cells AV.cell rowOf rowsOf part ld rowAt bY ck dI ef ig bL da ez gn e7 du ek cY cX dV dW bR bm cQ bQ cT cR ei eo ej cP bW cZ eh bP aQ cV cC ib bw cH bS aY dF bu dK AV.undef bF bH dY ee dU eb cF ew eD cw eu er cU cW List.getD_cons_zero List.getD_cons_succ List.getD_nil List.all_cons List.all_nil Bool.and_true Bool.true_and Bool.and_self Bool.not_true Bool.not_false Option.map_some Option.map_none Option.bind_some Option.bind_none List.length_cons List.length_nil List.take_succ_cons List.take_zero List.take_nil List.drop_succ_cons List.drop_zero List.drop_nil List.head?_cons List.map_cons List.map_nil List.getElem?_cons_zero List.getElem?_cons_succ List.cons_append List.nil_append List.append_nil List.length_map List.set_cons_zero List.set_cons_succ eq_self Int.toNat_natCast Int.natCast_nonneg and_self true_and and_true decide_true decide_false Bool.false_eq_true Nat.zero_add Nat.add_zero List.contains_cons List.contains_nil Bool.or_false Bool.false_or beq_self_eq_true ne_eq not_true_eq_false not_false_eq_true Id.mk.injEq false_and and_false Nat.le_refl List.length_append beq_true beq_false Bool.not_eq_eq_eq_not or_false false_or dE ad aj aI bE cj aW bf aV bo cN bG
abbrev mI:MK:=⟨false,[.tI]⟩
def rC (l:List (Nat×Nat)):List (List AV):=l.map fun p=>[.int .i64 (p.1:Int),.int .i64 (p.2:Int)]
theorem zU (r:Nat):∀(l:List (Nat×Nat)) (i:Nat),((∀p∈l,p.1≠r)->gY mI [.int .i64 (r:Int)] (rC l) i=some none)/\(∀j v,l[j]? =some (r,v)->(∀x y,x<j->l[x]? =some y->y.1≠r)->gY mI [.int .i64 (r:Int)] (rC l) i=some (some (i+j)))
 |[],i=>⟨fun _=>rfl,fun j v h=>by simp at h⟩
 |p::l,i=>by
  obtain⟨h1,h2⟩:=zU r l (i+1)
  by_cases h:p.1=r
  ·refine⟨fun hp=>absurd h (hp p (by simp)),fun j v hj hf=>?_⟩
   have hj0:j=0:=by
    rcases Nat.eq_zero_or_pos j with h0|h0
    ·exact h0
    ·exact absurd h (hf 0 p h0 (by simp))
   subst hj0
   simp[rC,gY,e7,gn,MK.ks,h]
  ·have hd:¬((r:Int)=(p.1:Int)):=ab
   have sD:¬r=p.1:=fun he=>h he.symm
   have step:gY mI [.int .i64 (r:Int)] (rC (p::l)) i=gY mI [.int .i64 (r:Int)] (rC l) (i+1):=by
    unfold rC
    simp[gY,MK.ks,e7,gn,hd,sD,h]
   rw[step]
   refine⟨fun hp=>h1 fun q hq=>hp q (by simp[hq]),fun j v hj hf=>?_⟩
   cases j with
   |zero=>simp at hj;rw[hj]at h;exact absurd rfl h
   |succ j=>
    rw[h2 j v (by simpa using hj) fun x y hx hy=>hf (x+1) y ab (by simpa using hy)]
    congr 2;omega
theorem wv {r:Nat} {l:List (Nat×Nat)}:((∀p∈l,p.1≠r)->gP mI (.int .i64 (r:Int)) (rC l)=some none)/\(∀j v,l[j]? =some (r,v)->(∀x y,x<j->l[x]? =some y->y.1≠r)->gP mI (.int .i64 (r:Int)) (rC l)=some (some j)):=by
 have e:gP mI (.int .i64 (r:Int)) (rC l)=gY mI [.int .i64 (r:Int)] (rC l) 0:=by
  unfold gP
  rw[if_pos ⟨rfl,rfl,rfl⟩];rfl
 obtain⟨h1,h2⟩:=zU r l 0
 rw[e]
 exact⟨h1,fun j v hj hf=>by rw[h2 j v hj hf,Nat.zero_add]⟩
def kh (k:Nat) (L:Nat->Nat):List (List AV):=rC (leads k L).zipIdx
theorem B5 {k:Nat} {L:Nat->Nat} (h:L k=k):kh (k+1) L=kh k L++[[.int .i64 (k:Int),.int .i64 ((leads k L).length:Int)]]:=by
 unfold kh
 rw[gr,if_pos h,List.zipIdx_append]
 simp[rC]
theorem B4 {k:Nat} {L:Nat->Nat} (h:L k≠k):kh (k+1) L=kh k L:=by
 unfold kh
 rw[gr,if_neg h,List.append_nil]
theorem E5 {k:Nat} {L:Nat->Nat} (h:L k=k):gP mI (.int .i64 (k:Int)) (kh k L)=some none:=by
 refine wv.1 fun p hp=>?_
 have:=List.fst_mem_of_mem_zipIdx hp
 have:=(wD.1 this).1
 omega
theorem wC {n:Nat} {L:Nat->Nat} {x y:Nat} (hx:x<(leads n L).length) (hy:y<(leads n L).length) (h:(leads n L)[x]=(leads n L)[y]):x=y:=by
 have hp:=List.pairwise_iff_getElem.1 (sg n L)
 rcases Nat.lt_trichotomy x y with dD|he|dD
 ·exact absurd h (hp x y hx hy dD)
 ·exact he
 ·exact absurd h.symm (hp y x hy hx dD)
theorem wz {k:Nat} {L:Nat->Nat} (hL:jk L) (h:L k≠k):gP mI (.int .i64 (L k:Int)) (kh k L)=some (some (bx L k))/\(kh k L)[bx L k]? =some [.int .i64 (L k:Int),.int .i64 (bx L k:Int)]/\bx L k<(leads k L).length:=by
 have dD:L k<k:=Nat.lt_of_le_of_ne (hL.le k) h
 have hn:bx L (L k)=bx L k:=by rw[bx,hL.idem,bx]
 have hg:=oq hL dD
 rw[hn,hL.idem]at hg
 have hl:bx L k<(leads k L).length:=(List.getElem?_eq_some_iff.1 hg).1
 have hz:(leads k L).zipIdx[bx L k]? =some (L k,bx L k):=by simp[List.getElem?_zipIdx,hg]
 refine⟨wv.2 _ _ hz fun x y hx hy=>?_,by unfold kh rC;rw[List.getElem?_map,hz];rfl,hl⟩
 intro he
 rw[List.getElem?_zipIdx]at hy
 have OB:x<(leads k L).length:=ab
 rw[List.getElem?_eq_getElem OB]at hy
 simp at hy
 rw[<-hy]at he
 simp at he
 have e2:(leads k L)[bx L k]=L k:=(List.getElem?_eq_some_iff.1 hg).2
 have:=wC OB hl (he.trans e2.symm)
 omega
def jq (k:Nat) (L:Nat->Nat):List (List Nat):=(leads k L).map (members k L)
theorem pk (k:Nat) (L:Nat->Nat):(jq k L).length=(leads k L).length:=by simp[jq]
theorem Bw {k:Nat} {L:Nat->Nat} (hL:jk L) (h:L k=k):jq (k+1) L=jq k L++[[k]]:=by
 unfold jq
 rw[gr,if_pos h,List.map_append,List.map_cons,List.map_nil,iW,if_pos h,mc hL (Nat.le_refl k),List.nil_append]
 congr 1
 refine List.map_congr_left fun r hr=>?_
 have:=(wD.1 hr).1
 rw[iW,if_neg ab,List.append_nil]
theorem By {k:Nat} {L:Nat->Nat} (hL:jk L) (h:L k≠k):(jq k L)[bx L k]? =some (members k L (L k))/\jq (k+1) L=(jq k L).set (bx L k) (members k L (L k)++[k]):=by
 obtain⟨_,_,hl⟩:=wz hL h
 have dD:L k<k:=Nat.lt_of_le_of_ne (hL.le k) h
 have hg:=oq hL dD
 have hn:bx L (L k)=bx L k:=by rw[bx,hL.idem,bx]
 rw[hn,hL.idem]at hg
 refine⟨by unfold jq;rw[List.getElem?_map,hg];rfl,?_⟩
 unfold jq
 rw[gr,if_neg h,List.append_nil]
 refine List.ext_getElem? fun i=>?_
 rw[List.getElem?_set,List.getElem?_map,List.length_map]
 by_cases hi:bx L k=i
 ·subst hi
  rw[if_pos rfl,if_pos hl,hg,Option.map_some,iW,if_pos rfl]
 ·rw[if_neg hi,List.getElem?_map]
  rcases hr:(leads k L)[i]? with _|r
  ·rfl
  ·rw[Option.map_some,Option.map_some,iW,if_neg,List.append_nil]
   rintro rfl
   obtain⟨oR,he⟩:=List.getElem?_eq_some_iff.1 hr
   have e2:(leads k L)[bx L k]=L k:=(List.getElem?_eq_some_iff.1 hg).2
   exact hi (wC hl oR (e2.trans he.symm))
theorem Aa (k:Nat) (L:Nat->Nat) (r:Nat):(members k L r).length<=k:=by
 have:=List.length_filter_le (fun x=>L x==r) (List.range k)
 simpa[members]using this
def IW (g:Rows) (o:Id) (L:List (List Nat)) (nx:Nat):Prop:=∃rows ids,g o=some ⟨true,1,rows⟩/\dw N6 g rows L ids/\ids.Nodup/\(∀i∈ids,i.site=168026008/\i.cq<nx)/\o.site=168025002/\o.cq<nx
theorem Jz {g':Rows} {v v' vB j:Nat} (h1:g' ⟨168025002,v⟩=some ⟨true,1,[[.own ⟨168026008,v'⟩ 0 1]]⟩) (h2:g' ⟨168026008,v'⟩=some ⟨true,1,[eN j]⟩) (hv:v<vB) (mW:v'<vB):IW g' ⟨168025002,v⟩ [[j]] vB:=
 ⟨_,[⟨168026008,v'⟩],h1,.one ⟨_,rfl,h2,rfl⟩,by simp,fun i hi=>by rw[List.mem_singleton.1 hi];exact⟨rfl,mW⟩,rfl,hv⟩
theorem IW.new {g:Rows} {o:Id} {L:List (List Nat)} {nx:Nat} (h:IW g o L nx) (j:Nat):∃rows,g o=some ⟨true,1,rows⟩/\rows.length=L.length/\∀(g':Rows) (v v' vB:Nat),nx<=v'->v<vB->v'<vB->g' ⟨168025002,v⟩=some ⟨true,1,rows++[[.own ⟨168026008,v'⟩ 0 1]]⟩->g' ⟨168026008,v'⟩=some ⟨true,1,[eN j]⟩->(∀i:Id,i.site=168026008->i.cq<nx->g' i=g i)->IW g' ⟨168025002,v⟩ (L++[[j]]) vB:=by
 obtain⟨rows,ids,h1,h2,h3,h4,h5,h6⟩:=h
 refine⟨rows,h1,h2.len,fun g' v v' vB hv wm M0 q1 q2 q3=>⟨_,ids++[⟨168026008,v'⟩],q1,(h2.frame Nc fun i hi=>q3 i (h4 i hi).1 (h4 i hi).2).app (.one ⟨_,rfl,q2,rfl⟩),?_,fun i hi=>?_,rfl,wm⟩⟩
 ·refine List.nodup_append.2 ⟨h3,by simp,fun a ha b hb r8=>?_⟩
  rw[List.mem_singleton.1 hb]at r8
  have:=(h4 a ha).2
  rw[r8]at this
  simp only at this
  omega
 ·rcases List.mem_append.1 hi with hi|hi
  ·have:=h4 i hi;exact⟨this.1,ab⟩
  ·rw[List.mem_singleton.1 hi];exact⟨rfl,M0⟩
theorem IW.add {g:Rows} {o:Id} {L:List (List Nat)} {nx k:Nat} {La:List Nat} (h:IW g o L nx) (hk:L[k]? =some La) (j:Nat):∃rows id,g o=some ⟨true,1,rows⟩/\rows.length=L.length/\rows[k]? =some [.own id 0 La.length]/\g id=some ⟨true,1,La.map eN⟩/\id.site=168026008/\id.cq<nx/\∀(g':Rows) (v' vB:Nat),nx<=v'->v'<vB->g' o=some ⟨true,1,rows.set k [.own ⟨168026008,v'⟩ 0 (La.length+1)]⟩->g' ⟨168026008,v'⟩=some ⟨true,1,La.map eN++[[.int .i64 (j:Int)]]⟩->(∀i:Id,i.site=168026008->i.cq<nx->(i=id)=False->g' i=g i)->IW g' o (L.set k (La++[j])) vB:=by
 obtain⟨rows,ids,h1,h2,h3,h4,h5,h6⟩:=h
 have lu:k<L.length:=(List.getElem?_eq_some_iff.1 hk).1
 have RZ:=kc hk lu
 obtain⟨cs,ic,dq,Oe,ME,tV⟩:=h2.Qr Nc h3 k lu
 rw[RZ]at Oe
 obtain⟨id,rfl,q1,rfl⟩:=Oe
 have hid:=h4 id (ME id (by simp))
 refine⟨rows,id,h1,h2.len,dq,q1,hid.1,hid.2,fun g' v' vB hv wm r1 r2 r3=>?_⟩
 obtain⟨BR,s1,s2,s3⟩:=tV g' [.own ⟨168026008,v'⟩ 0 (La.length+1)] (La++[j]) [⟨168026008,v'⟩] ⟨_,by simp,by rw[r2];simp[eN],rfl⟩ (fun i hi Q9=>r3 i (h4 i hi).1 (h4 i hi).2 (by
  simp only[eq_iff_iff,iff_false];rintro rfl;exact Q9 (by simp))) (by simp) fun i hi hc=>by
   rw[List.mem_singleton.1 hi]at hc
   have:=(h4 _ hc).2
   simp only at this
   omega
 refine⟨_,BR,r1,s1,s2,fun i hi=>?_,h5,ab⟩
 rcases s3 i hi with h|h
 ·rw[List.mem_singleton.1 h];exact⟨rfl,wm⟩
 ·have:=h4 i h;exact⟨this.1,ab⟩
def lp (G:Nat->Id) (n k:Nat):List (List AV):=(List.range n).map fun i=>[if i<k then .ptr (G i) 0 0 else .gG]
theorem lS (G:Nat->Id) (n k:Nat):(lp G n k).length=n:=by simp[lp]
theorem FE (G:Nat->Id) (n:Nat):List.replicate n [AV.gG]=lp G n 0:=by
 refine List.ext_getElem? fun i=>?_
 by_cases h:i<n
 ·rw[List.getElem?_replicate,if_pos h];simp[lp,h]
 ·rw[List.getElem?_eq_none (by simp;omega),List.getElem?_eq_none (by rw[lS];omega)]
theorem uH {G:Nat->Id} {n i:Nat} (h:i<n):(lp G n n)[i]? =some [.ptr (G i) 0 0]:=by simp[lp,h]
theorem Ix {G:Nat->Id} {n k:Nat} (h:k<n):(lp G n k).set k [.ptr (G k) 0 0]=lp G n (k+1):=by
 refine List.ext_getElem? fun i=>?_
 rw[List.getElem?_set,lS]
 by_cases hi:k=i
 ·subst hi;rw[if_pos rfl,if_pos h];simp[lp,h]
 ·rw[if_neg hi]
  by_cases fN:i<n
  ·simp only[lp,List.getElem?_map,List.getElem?_range fN,Option.map_some]
   by_cases wg:i<k
   ·rw[if_pos wg,if_pos ab]
   ·rw[if_neg wg,if_neg ab]
  ·rw[List.getElem?_eq_none (by rw[lS];omega),List.getElem?_eq_none (by rw[lS];omega)]
end Go.Proofs.YtihgaadadaekmaaGreatDoor.V

namespace Go.Proofs.YtihgaadadaekmaaGreatDoor.V
open Go.RowKit
attribute [local irreducible] ea wpOps gR Call
attribute [local go_sem] aM fP eL gh ga cE upd cu K.av cL AV.cells AV.cell rowOf rowsOf part ld rowAt bY ck dI ef ig bL da ez gn e7 du ek cY cX dV dW bR bm cQ bQ cT cR ei eo ej cP bW cZ eh bP aQ cV cC ib bw cH bS aY dF bu dK AV.undef bF bH dY ee dU eb cF ew eD cw eu er cU cW List.getD_cons_zero List.getD_cons_succ List.getD_nil List.all_cons List.all_nil Bool.and_true Bool.true_and Bool.and_self Bool.not_true Bool.not_false Option.map_some Option.map_none Option.bind_some Option.bind_none List.length_cons List.length_nil List.take_succ_cons List.take_zero List.take_nil List.drop_succ_cons List.drop_zero List.drop_nil List.head?_cons List.map_cons List.map_nil List.getElem?_cons_zero List.getElem?_cons_succ List.cons_append List.nil_append List.append_nil List.length_map List.set_cons_zero List.set_cons_succ Nat.reduceMul eq_self Int.toNat_natCast Int.natCast_nonneg and_self true_and and_true decide_true decide_false Bool.false_eq_true Nat.zero_add Nat.add_zero List.contains_cons List.contains_nil Bool.or_false Bool.false_or beq_self_eq_true Nat.reduceBEq ne_eq not_true_eq_false not_false_eq_true Id.mk.injEq false_and and_false Nat.reduceLT Int.reduceLE Int.reduceLT Int.reduceToNat Int.reduceNeg Int.reduceAdd Nat.le_refl List.length_append beq_true beq_false Bool.not_eq_eq_eq_not or_false false_or dE ad aj aI bE cj aW bf aV bo cN bG
theorem gx {o:Id} {a:Nat} (h:o.site=a) {b v:Nat} (r8:(a==b)=false):(o=⟨b,v⟩)=False/\((⟨b,v⟩:Id)=o)=False:=by
 have h1:=yf h (v:=v) r8
 refine⟨h1,?_⟩
 simp only[eq_iff_iff,iff_false]at h1 ⊢
 exact fun h=>h1 h.symm
theorem tK (cnt:Nat) (tR:1<=cnt) (hn:cnt<=1048576) (bs:List PB) (hb:∀b∈bs,b.a<cnt/\b.b<cnt) (pI:bs.length<=1048576):ae Tryz.prog 168 [.int .i64 cnt,.sl (bs.map aA)] (.sl ((fa cnt (dS bs)).map yD)):=by
 intro n0
 refine Ga LY rfl fun hl=>?_
 try simp only[q]
 clear hl
 have jm:(0:Int)<=(cnt:Int):=ab
 have oQ:(cnt:Int)<=((16777216:Nat):Int):=ab
 obtain⟨G,hG⟩:∃G:Nat->Id,G=fun k=>⟨168005004,n0+3+4*k+2⟩:=⟨_,rfl⟩
 have QQ:∀k,(G k).site=168005004:=fun k=>by rw[hG]
 have RU:∀k,(G k).cq=n0+3+4*k+2:=fun k=>by rw[hG]
 have RS:∀i j,i≠j->(G i=G j)=False:=fun i j h=>by
  simp only[eq_iff_iff,iff_false]
  intro he
  have h1:=RU i
  rw[he,RU j]at h1
  omega
 have JB:∀i s v,(168005004==s)=false->(G i=⟨s,v⟩)=False:=fun i s v h=>yf (QQ i) h
 have hz:=FE G cnt
 (try((repeat(revert hN;revert N;apply Pn.out));refine wk (tw @jm (tw @oQ (tw @Int.le_refl @hz))) ?_;(repeat(refine Pn.mk ?_;intro N hN))))
 refine aP (fun n env st=>∃k:Nat,n=(cnt)-k/\k<=(cnt)/\env 21=.int .i64 (k:Int)/\st.get ⟨168001001,n0+1⟩=some ⟨true,1,lp G cnt k⟩/\(st.next=n0+3+4*k/\∀j:Nat,j<k->st.get (G j)=some ⟨true,2,[[.gG,.int .i64 (j:Int)]]⟩)) (cnt) ⟨0,ab,ab,sl @hz,sl @hz,⟨rfl,fun j hj=>ab⟩⟩ ?_
 rintro n_a env_a st_a ⟨k,rfl,ale,a21,ag0,jW⟩ dm
 have a0:=dm 0 (by kernel_rfl);have a1:=dm 1 (by kernel_rfl);have a5:=dm 5 (by kernel_rfl);have LM:=dm 19 (by kernel_rfl);have LN:=dm 20 (by kernel_rfl)
 simp only[go_sem, ↓reduceIte,Nat.reduceEqDiff,Nat.reduceAdd,Nat.reduceSub,Nat.reduceLeDiff,reduceCtorEq,hz]at a0 a1 a5 LM LN
 clear dm
 obtain⟨jW,iM⟩:=jW
 by_cases hk:(k:Int)<(cnt:Int)
 ·have bD:∀{e:Env} {gg:Rows} {nx:Nat},(e 21=.int .i64 (IntKind.i64.wrap ((k:Int)+1)))->(gg ⟨168001001,n0+1⟩=some ⟨true,1,lp G cnt (k+1)⟩)->(nx=n0+3+4*(k+1)/\∀j:Nat,j<(k+1)->gg (G j)=some ⟨true,2,[[.gG,.int .i64 (j:Int)]]⟩)->∃m0,m0<(cnt)-k/\∃k:Nat,m0=(cnt)-k/\k<=(cnt)/\e 21=.int .i64 (k:Int)/\gg ⟨168001001,n0+1⟩=some ⟨true,1,lp G cnt k⟩/\(nx=n0+3+4*k/\∀j:Nat,j<k->gg (G j)=some ⟨true,2,[[.gG,.int .i64 (j:Int)]]⟩):=fun x1 x2 x3=>⟨_,ab,k+1,rfl,ab,(by rw[x1,ay ab]),x2,x3⟩
  have dX:k<cnt:=ab
  have tl:=lS G cnt k
  have dP:=Ix (G:=G) dX
  have eB:(lp G cnt k)[k]? =some [.gG]:=by simp[lp,dX]
  have QO:(⟨168005004,st_a.next+1+1⟩:Id)=G k:=by rw[hG,jW]
  have hGf:∀j,j<k->(G j=G k)=False:=fun j hj=>RS j k ab
  have xD:∀j,(G j=(⟨168001001,n0+1⟩:Id))=False:=fun j=>JB j _ _ (by decide)
  have BB:∀j,((⟨168001001,n0+1⟩:Id)=G j)=False:=fun j=>by
   have:=xD j
   simp only[eq_iff_iff,iff_false]at this ⊢
   exact fun h=>this h.symm
  (try((repeat(revert hN;revert N;apply Pn.out));refine wk (tw @a21 (tw @ag0 (tw @a0 (tw @a1 (tw @a5 (tw @LM (tw @LN (tw @hk (tw @tl (tw @QO (tw @xD (tw @BB (tw @dP @eB))))))))))))) ?_;(repeat(refine Pn.mk ?_;intro N hN))))
  refine bD ?_ ?_ (by
   refine⟨by(try dsimp only)<;>omega,fun j hj=>?_⟩
   by_cases wh:j=k
   ·subst wh;simp only[go_sem, ↓reduceIte,Nat.reduceEqDiff,Nat.reduceAdd,Nat.reduceSub,Nat.reduceLeDiff,reduceCtorEq,QO,xD,BB]
   ·have hold:=iM j ab
    have gW:=hGf j ab
    simp only[go_sem, ↓reduceIte,Nat.reduceEqDiff,Nat.reduceAdd,Nat.reduceSub,Nat.reduceLeDiff,reduceCtorEq,QO,xD,BB,gW,hold])
  all_goals simp only[go_sem, ↓reduceIte,Nat.reduceEqDiff,Nat.reduceAdd,Nat.reduceSub,Nat.reduceLeDiff,reduceCtorEq,a21,ag0,a0,a1,a5,LM,LN,QO,xD,BB,dP]
 have lu:cnt=k:=ab
 subst lu
 (try((repeat(revert hN;revert N;apply Pn.out));refine wk (tw @a21 (tw @ag0 (tw @a0 (tw @a1 (tw @a5 (tw @LM (tw @LN @hk))))))) ?_;(repeat(refine Pn.mk ?_;intro N hN))))
 refine aP (fun n env st=>∃i:Nat,n=(bs.length)-i/\i<=(bs.length)/\env 33=.int .i64 (i:Int)/\st.get ⟨168001001,n0+1⟩=some ⟨true,1,lp G cnt cnt⟩/\(n0+3+4*cnt<=st.next)/\(∃px,mH cnt px (dS (bs.take i))/\ss st.get G cnt px)) (bs.length) ⟨0,ab,ab,sl (tw @a21 (tw @ag0 (tw @a0 (tw @a1 (tw @a5 (tw @LM @LN)))))),sl (tw @a21 (tw @ag0 (tw @a0 (tw @a1 (tw @a5 (tw @LM @LN)))))),bt,⟨fun _=>none,mH.start cnt,iM⟩⟩ ?_
 rintro n_b env_b st_b ⟨i,rfl,ble,b33,bg0,bI0,bI1⟩ bfr
 have b0:=bfr 0 (by kernel_rfl);have b1:=bfr 1 (by kernel_rfl);have b5:=bfr 5 (by kernel_rfl);have vL:=bfr 31 (by kernel_rfl);have vM:=bfr 32 (by kernel_rfl)
 simp only[go_sem, ↓reduceIte,Nat.reduceEqDiff,Nat.reduceAdd,Nat.reduceSub,Nat.reduceLeDiff,reduceCtorEq,a21,ag0,a0,a1,a5,LM,LN]at b0 b1 b5 vL vM
 clear bfr
 obtain⟨px,I8,QP⟩:=bI1
 have tl:=lS G cnt cnt
 have Pm:∀j v,(G j=(⟨168009002,v⟩:Id))=False:=fun j v=>JB j _ v (by decide)
 have xD:∀j v,(G j=(⟨168001001,v⟩:Id))=False:=fun j v=>JB j _ v (by decide)
 have BB:∀j v,((⟨168001001,v⟩:Id)=G j)=False:=fun j v=>by
  have:=xD j v
  simp only[eq_iff_iff,iff_false]at this ⊢
  exact fun h=>this h.symm
 have hGn:∀j,j<cnt->(G j).cq<st_b.next:=fun j hj=>by rw[RU];omega
 by_cases hi:(i:Int)<(bs.length:Int)
 ·have jo:∀{e:Env} {gg:Rows} {nx:Nat},(e 33=.int .i64 (IntKind.i64.wrap ((i:Int)+1)))->(gg ⟨168001001,n0+1⟩=some ⟨true,1,lp G cnt cnt⟩)->(n0+3+4*cnt<=nx)->(∃px,mH cnt px (dS (bs.take (i+1)))/\ss gg G cnt px)->∃m0,m0<(bs.length)-i/\∃i:Nat,m0=(bs.length)-i/\i<=(bs.length)/\e 33=.int .i64 (i:Int)/\gg ⟨168001001,n0+1⟩=some ⟨true,1,lp G cnt cnt⟩/\(n0+3+4*cnt<=nx)/\(∃px,mH cnt px (dS (bs.take i))/\ss gg G cnt px):=fun x1 x2 x3 x4=>⟨_,ab,i+1,rfl,ab,(by rw[x1,ay ab]),x2,x3,x4⟩
  have fN:i<bs.length:=ab
  have oi:(bs.map aA)[i]? =some (aA bs[i]):=by simp[fN]
  have EB:=hb _ (List.getElem_mem fN)
  have om:bs.take (i+1)=bs.take i++[bs[i]]:=List.take_succ_eq_append_getElem fN
  have kZ:dS (bs.take (i+1))=eC (dS (bs.take i)) bs[i]:=by rw[om,ud]
  have hL:=sf (bs.take i)
  generalize dS (bs.take i)=L at *
  generalize bs[i]=b at *
  have gA:=uH (G:=G) EB.1
  have gB:=uH (G:=G) EB.2
  have gi:(b.a:Int)<(cnt:Int):=ab
  have fB:(b.b:Int)<(cnt:Int):=ab
  (try((repeat(revert hN;revert N;apply Pn.out));refine wk (tw @b33 (tw @bg0 (tw @b0 (tw @b1 (tw @b5 (tw @vL (tw @vM (tw @hi (tw @oi (tw @aA.eq_1 (tw @gA (tw @gB (tw @gi (tw @fB @tl)))))))))))))) ?_;(repeat(refine Pn.mk ?_;intro N hN))))
  refine IP (fun e s=>e 0=.int .i64 cnt/\e 1=.sl (bs.map aA)/\e 5=.own ⟨168001001,n0+1⟩ 0 cnt/\e 31=.sl (bs.map aA)/\e 32=.int .i64 bs.length/\e 33=.int .i64 i/\e 9=.ptr (G (L b.a)) 0 0/\e 10=.ptr (G (L b.b)) 0 0/\(∀j:Id,j.cq<st_b.next->s.get j=st_b.get j)/\st_b.next<=s.next) ?_ ?_
  ·rintro e1 s1 ⟨m0,m1,m5,m31,m32,m33,m9,m10,mf,mn⟩
   refine hN _ _ ?_
   clear hN N
   have mG:ss s1.get G cnt px:=QP.frame fun k hk=>mf _ (hGn k hk)
   have mt:=(mf ⟨168001001,n0+1⟩ bt).trans bg0
   have Ss:L b.a<cnt:=Nat.lt_of_le_of_lt (hL.le _) EB.1
   have PN:L b.b<cnt:=Nat.lt_of_le_of_lt (hL.le _) EB.2
   have ra:=mG _ Ss
   have rb:=mG _ PN
   rw[kY (I8.root hL Ss (hL.idem _))]at ra
   rw[kY (I8.root hL PN (hL.idem _))]at rb
   have put:∀(g':Rows) (lo hi:Nat),hi<cnt->g' (G hi)=some ⟨true,2,[[.ptr (G lo) 0 0,.int .i64 (hi:Int)]]⟩->(∀k,k≠hi->k<cnt->g' (G k)=s1.get (G k))->ss g' G cnt (fun k=>if k=hi then some lo else px k):=fun g' lo hi _ h1 h2 k hk=>by
    by_cases I3:k=hi
    ·subst I3;rw[h1,r7 (j:=lo) (if_pos rfl)]
    ·rw[h2 k I3 hk,mG k hk]
     unfold rl
     simp only[if_neg I3]
   rcases Nat.lt_trichotomy (L b.a) (L b.b)with dD|heq|dD
   ·have MH:(L b.a:Int)<(L b.b:Int):=ab
    have hj:=I8.join hL b ab
    rw[Nat.max_eq_right ab,Nat.min_eq_left ab,<-kZ]at hj
    (try((repeat(revert hN;revert N;apply Pn.out));refine wk (tw @m0 (tw @m1 (tw @m5 (tw @m31 (tw @m32 (tw @m33 (tw @m9 (tw @m10 (tw @ra (tw @rb @MH)))))))))) ?_;(repeat(refine Pn.mk ?_;intro N hN))))
    refine jo ?_ ?_ bt (⟨_,hj,put _ _ _ PN (sd @Nat.zero_add) (fun k hk _=>by
     have gW:=RS k _ hk
     simp only[go_sem, ↓reduceIte,Nat.reduceEqDiff,Nat.reduceAdd,Nat.reduceSub,Nat.reduceLeDiff,reduceCtorEq,gW])⟩)
    all_goals simp only[go_sem, ↓reduceIte,Nat.reduceEqDiff,Nat.reduceAdd,Nat.reduceSub,Nat.reduceLeDiff,reduceCtorEq,m0,m1,m5,m31,m32,m33,mt,xD,BB]
   ·have tR:¬(L b.a:Int)<(L b.b:Int):=ab
    have MI:¬(L b.b:Int)<(L b.a:Int):=ab
    have JX:=xP heq
    rw[JX]at kZ
    (try((repeat(revert hN;revert N;apply Pn.out));refine wk (tw @m0 (tw @m1 (tw @m5 (tw @m31 (tw @m32 (tw @m33 (tw @m9 (tw @m10 (tw @ra (tw @rb (tw @tR @MI))))))))))) ?_;(repeat(refine Pn.mk ?_;intro N hN))))
    refine jo ?_ ?_ bt (⟨_,kZ▸I8,mG.frame fun k hk=>rfl⟩)
    all_goals simp only[go_sem, ↓reduceIte,Nat.reduceEqDiff,Nat.reduceAdd,Nat.reduceSub,Nat.reduceLeDiff,reduceCtorEq,m0,m1,m5,m31,m32,m33,mt]
   ·have MH:(L b.b:Int)<(L b.a:Int):=ab
    have tR:¬(L b.a:Int)<(L b.b:Int):=ab
    have hj:=I8.join hL b ab
    rw[Nat.max_eq_left ab,Nat.min_eq_right ab,<-kZ]at hj
    (try((repeat(revert hN;revert N;apply Pn.out));refine wk (tw @m0 (tw @m1 (tw @m5 (tw @m31 (tw @m32 (tw @m33 (tw @m9 (tw @m10 (tw @ra (tw @rb (tw @MH @tR))))))))))) ?_;(repeat(refine Pn.mk ?_;intro N hN))))
    refine jo ?_ ?_ bt (⟨_,hj,put _ _ _ Ss (sd @Nat.zero_add) (fun k hk _=>by
     have gW:=RS k _ hk
     simp only[go_sem, ↓reduceIte,Nat.reduceEqDiff,Nat.reduceAdd,Nat.reduceSub,Nat.reduceLeDiff,reduceCtorEq,gW])⟩)
    all_goals simp only[go_sem, ↓reduceIte,Nat.reduceEqDiff,Nat.reduceAdd,Nat.reduceSub,Nat.reduceLeDiff,reduceCtorEq,m0,m1,m5,m31,m32,m33,mt,xD,BB]
  ·intro N hN
   refine eR ?_ ?_<;>(try((repeat(revert hN;revert N;apply Pn.out));refine wk (tw @b33 (tw @bg0 (tw @b0 (tw @b1 (tw @b5 (tw @vL (tw @vM (tw @hi (tw @oi (tw @aA.eq_1 (tw @gA (tw @gB (tw @gi (tw @fB @tl)))))))))))))) ?_;(repeat(refine Pn.mk ?_;intro N hN))))<;>(try refine eR ?_ ?_)<;>(try((repeat(revert hN;revert N;apply Pn.out));refine wk (tw @b33 (tw @bg0 (tw @b0 (tw @b1 (tw @b5 (tw @vL (tw @vM (tw @hi (tw @oi (tw @aA.eq_1 (tw @gA (tw @gB (tw @gi (tw @fB @tl)))))))))))))) ?_;(repeat(refine Pn.mk ?_;intro N hN))))<;>(try refine eR ?_ ?_)<;>(try((repeat(revert hN;revert N;apply Pn.out));refine wk (tw @b33 (tw @bg0 (tw @b0 (tw @b1 (tw @b5 (tw @vL (tw @vM (tw @hi (tw @oi (tw @aA.eq_1 (tw @gA (tw @gB (tw @gi (tw @fB @tl)))))))))))))) ?_;(repeat(refine Pn.mk ?_;intro N hN))))
   all_goals
    refine .inr (aO _ _ _ _ _ (fun r σ1 hq=>?_) (xr G cnt px L I8 b.a EB.1 _ (QP.frame fun k hk=>sd @Pm)))
    obtain⟨g1,x1⟩:=σ1
    obtain⟨rfl,tN,JP⟩:=hq
    (try dsimp only at tN JP)
    subst tN
    refine hN _ _ ?_
    clear hN N
    (try((repeat(revert hN;revert N;apply Pn.out));refine wk (tw @b33 (tw @bg0 (tw @b0 (tw @b1 (tw @b5 (tw @vL (tw @vM (tw @hi (tw @oi (tw @aA.eq_1 (tw @gA (tw @gB (tw @gi (tw @fB @tl)))))))))))))) ?_;(repeat(refine Pn.mk ?_;intro N hN))))
    refine .inr (aO _ _ _ _ _ (fun r σ1 hq=>?_) (xr G cnt px L I8 b.b EB.2 _ (QP.frame fun k hk=>sd @Pm)))
    obtain⟨g1,x2⟩:=σ1
    obtain⟨rfl,tN,mb⟩:=hq
    (try dsimp only at tN mb)
    subst tN
    refine hN _ _ ?_
    clear hN N
    (try((repeat(revert hN;revert N;apply Pn.out));refine wk (tw @b33 (tw @bg0 (tw @b0 (tw @b1 (tw @b5 (tw @vL (tw @vM (tw @hi (tw @oi (tw @aA.eq_1 (tw @gA (tw @gB (tw @gi (tw @fB @tl)))))))))))))) ?_;(repeat(refine Pn.mk ?_;intro N hN))))
    exact⟨sd (tw @b33 (tw @bg0 (tw @b0 (tw @b1 (tw @b5 (tw @vL @vM)))))),sd (tw @b33 (tw @bg0 (tw @b0 (tw @b1 (tw @b5 (tw @vL @vM)))))),sd (tw @b33 (tw @bg0 (tw @b0 (tw @b1 (tw @b5 (tw @vL @vM)))))),sd (tw @b33 (tw @bg0 (tw @b0 (tw @b1 (tw @b5 (tw @vL @vM)))))),sd (tw @b33 (tw @bg0 (tw @b0 (tw @b1 (tw @b5 (tw @vL @vM)))))),sd (tw @b33 (tw @bg0 (tw @b0 (tw @b1 (tw @b5 (tw @vL @vM)))))),sd (tw @b33 (tw @bg0 (tw @b0 (tw @b1 (tw @b5 (tw @vL @vM)))))),sd (tw @b33 (tw @bg0 (tw @b0 (tw @b1 (tw @b5 (tw @vL @vM)))))),fun j hj=>by
     have hv:=eO hj
     simp only[go_sem, ↓reduceIte,Nat.reduceEqDiff,Nat.reduceAdd,Nat.reduceSub,Nat.reduceLeDiff,reduceCtorEq,hv],bt⟩
 have oR:i=bs.length:=ab
 subst oR
 rw[List.take_length]at I8
 have hL:=sf bs
 generalize dS bs=L at *
 (try((repeat(revert hN;revert N;apply Pn.out));refine wk (tw @b33 (tw @bg0 (tw @b0 (tw @b1 (tw @b5 (tw @vL (tw @vM (tw @hi @tl)))))))) ?_;(repeat(refine Pn.mk ?_;intro N hN))))
 have l0:kh 0 L=[]:=rfl
 have oS:(none:Option Nat).isSome=false:=rfl
 have oT:∀a:Nat,(some a).isSome=true:=fun _=>rfl
 refine aP (fun n env st=>∃x:Nat,n=(cnt)-x/\x<=(cnt)/\env 81=.int .i64 (x:Int)/\st.get ⟨168001001,n0+1⟩=some ⟨true,1,lp G cnt cnt⟩/\st.get ⟨168017000,st_b.next+1+1⟩=some ⟨true,mI.Cp,kh x L⟩/\(st_b.next+3<=st.next/\ss st.get G cnt px)/\((x=0/\env 11=.bK)∨∃o:Id,env 11=.own o 0 (leads x L).length/\IW st.get o (jq x L) st.next)) (cnt) ⟨0,ab,ab,sl (tw @b33 (tw @bg0 (tw @b0 (tw @b1 (tw @b5 (tw @vL (tw @vM @l0))))))),sl (tw @b33 (tw @bg0 (tw @b0 (tw @b1 (tw @b5 (tw @vL (tw @vM @l0))))))),sl (tw @b33 (tw @bg0 (tw @b0 (tw @b1 (tw @b5 (tw @vL (tw @vM @l0))))))),⟨bt,QP.frame fun k hk=>by(have gW:=JB k 168017000 (st_b.next+1+1) (by decide));simp only[go_sem, ↓reduceIte,Nat.reduceEqDiff,Nat.reduceAdd,Nat.reduceSub,Nat.reduceLeDiff,reduceCtorEq,gW]⟩,.inl ⟨rfl,sd @Nat.zero_add⟩⟩ ?_
 rintro n_c env_c st_c ⟨x,rfl,cle,c81,cg0,cg1,cI0,cI1⟩ cfr
 have xb:=cfr 12 (by kernel_rfl);have Jl:=cfr 79 (by kernel_rfl);have Jm:=cfr 80 (by kernel_rfl)
 simp only[go_sem, ↓reduceIte,Nat.reduceEqDiff,Nat.reduceAdd,Nat.reduceSub,Nat.reduceLeDiff,reduceCtorEq,b33,bg0,b0,b1,b5,vL,vM,l0]at xb Jl Jm
 clear cfr
 obtain⟨tT,OS⟩:=cI0
 have Mu:∀j v,(G j=(⟨168017000,v⟩:Id))=False:=fun j v=>JB j _ v (by decide)
 have Mq:∀j v,(G j=(⟨168025002,v⟩:Id))=False:=fun j v=>JB j _ v (by decide)
 have Ms:∀j v,(G j=(⟨168025001,v⟩:Id))=False:=fun j v=>JB j _ v (by decide)
 have Mt:∀j v,(G j=(⟨168026007,v⟩:Id))=False:=fun j v=>JB j _ v (by decide)
 have Mr:∀j v,(G j=(⟨168026008,v⟩:Id))=False:=fun j v=>JB j _ v (by decide)
 by_cases hx:(x:Int)<(cnt:Int)
 ·have gJ:∀{e:Env} {gg:Rows} {nx:Nat},(e 81=.int .i64 (IntKind.i64.wrap ((x:Int)+1)))->(gg ⟨168001001,n0+1⟩=some ⟨true,1,lp G cnt cnt⟩)->(gg ⟨168017000,st_b.next+1+1⟩=some ⟨true,mI.Cp,kh (x+1) L⟩)->(st_b.next+3<=nx/\ss gg G cnt px)->(((x+1)=0/\e 11=.bK)∨∃o:Id,e 11=.own o 0 (leads (x+1) L).length/\IW gg o (jq (x+1) L) nx)->∃m0,m0<(cnt)-x/\∃x:Nat,m0=(cnt)-x/\x<=(cnt)/\e 81=.int .i64 (x:Int)/\gg ⟨168001001,n0+1⟩=some ⟨true,1,lp G cnt cnt⟩/\gg ⟨168017000,st_b.next+1+1⟩=some ⟨true,mI.Cp,kh x L⟩/\(st_b.next+3<=nx/\ss gg G cnt px)/\((x=0/\e 11=.bK)∨∃o:Id,e 11=.own o 0 (leads x L).length/\IW gg o (jq x L) nx):=fun x1 x2 x3 x4 x5=>⟨_,ab,x+1,rfl,ab,(by rw[x1,ay ab]),x2,x3,x4,x5⟩
  have OC:x<cnt:=ab
  have gX:=uH (G:=G) OC
  have hlx:L x<cnt:=Nat.lt_of_le_of_lt (hL.le _) OC
  have ra:=OS _ hlx
  rw[kY (I8.root hL hlx (hL.idem _))]at ra
  have gw:=jr x L
  (try((repeat(revert hN;revert N;apply Pn.out));refine wk (tw @c81 (tw @cg0 (tw @cg1 (tw @xb (tw @Jl (tw @Jm (tw @hx (tw @gX @tl)))))))) ?_;(repeat(refine Pn.mk ?_;intro N hN))))
  refine .inr (aO _ _ _ _ _ (fun r σ1 hq=>?_) (xr G cnt px L I8 x OC _ (OS.frame fun k hk=>sd @Nat.zero_add)))
  obtain⟨g1,x1⟩:=σ1
  obtain⟨rfl,tN,JP⟩:=hq
  (try dsimp only at tN JP)
  subst tN
  refine hN _ _ ?_
  clear hN N
  by_cases hr:L x=x
  ·rw[hr]at ra ⊢
   have mV:=E5 hr
   have Q8:(leads (x+1) L).length=(leads x L).length+1:=by rw[gr,if_pos hr];simp
   have Ov:=B5 hr
   have Q2:=Bw hL hr
   rcases cI1 with⟨rfl,mQ⟩|⟨o,mQ,cS⟩
   ·have SK:kh 1 L=[[.int .i64 ((0:Nat):Int),.int .i64 ((0:Nat):Int)]]:=Ov
    (try((repeat(revert hN;revert N;apply Pn.out));refine wk (tw @c81 (tw @cg0 (tw @cg1 (tw @xb (tw @Jl (tw @Jm (tw @mQ (tw @ra (tw @mV (tw @l0 (tw @oS (tw @oT (tw @Bool.not_false @Bool.not_true))))))))))))) ?_;(repeat(refine Pn.mk ?_;intro N hN))))
    refine gJ ?_ ?_ ?_ (by(try dsimp only);exact⟨ab,OS.frame fun k hk=>sd (tw @Mu (tw @Mq (tw @Mr (tw @Ms @Mt))))⟩) (.inr ⟨⟨168025002,x1+1+1+1+1⟩,by simp only[go_sem, ↓reduceIte,Nat.reduceEqDiff,Nat.reduceAdd,Nat.reduceSub,Nat.reduceLeDiff,reduceCtorEq,Q8];rfl,by rw[Q2];exact Jz (v':=x1+1+1+1+1+1) (sd @Nat.zero_add) (sd @eN.eq_1) bt bt⟩)
    all_goals simp only[go_sem, ↓reduceIte,Nat.reduceEqDiff,Nat.reduceAdd,Nat.reduceSub,Nat.reduceLeDiff,reduceCtorEq,c81,cg0,cg1,xb,Jl,Jm,SK]
   ·obtain⟨rows,vg,oI,kf⟩:=cS.new x
    rw[pk]at oI
    have EH:o.site=168025002:=by obtain⟨_,_,_,_,_,_,h,_⟩:=cS;exact h
    have sE:o.cq<x1:=by obtain⟨_,_,_,_,_,_,_,h⟩:=cS;omega
    have kO:=eO sE
    have PV:=gx (o:=o) EH (b:=168017000) (v:=st_b.next+1+1) (by decide)
    have Oo:=gx (o:=o) EH (b:=168001001) (v:=n0+1) (by decide)
    have Mv:∀k,(G k=o)=False:=fun k=>by simp only[eq_iff_iff,iff_false];intro h;have h1:=QQ k;rw[h,EH]at h1;cases h1
    have pJ:(rows++[[AV.bK]])[(leads x L).length]? =some [.bK]:=by rw[<-oI];simp
    have sU:∀a:List AV,(rows++[[AV.bK]]).set (leads x L).length a=rows++[a]:=fun a=>by rw[<-oI];simp
    have e1:(leads x L).length+1<=16777216:=ab
    have e2:((leads x L).length:Int)<(((leads x L).length+1:Nat):Int):=ab
    (try((repeat(revert hN;revert N;apply Pn.out));refine wk (tw @c81 (tw @cg0 (tw @cg1 (tw @xb (tw @Jl (tw @Jm (tw @mQ (tw @ra (tw @mV (tw @vg (tw @oI (tw @kO (tw @PV (tw @pJ (tw @sU (tw @e1 (tw @e2 (tw @oS (tw @oT (tw @Bool.not_false @Bool.not_true)))))))))))))))))))) ?_;(repeat(refine Pn.mk ?_;intro N hN))))
    refine gJ ?_ ?_ ?_ (by(try dsimp only);exact⟨ab,OS.frame fun k hk=>sd (tw @Mu (tw @Mq (tw @Mr (tw @Ms (tw @Mt @Mv)))))⟩) (.inr ⟨⟨168025002,x1+1+1+1+1⟩,sd @Q8,by rw[Q2];exact kf _ _ (x1+1+1+1+1+1) _ ab bt bt (sd @sU) (sd @eN.eq_1) (fun j hj hv=>by
     have q1:=eO (i:=j) (n:=x1) ab
     have q2:=gx hj (b:=168017000) (v:=st_b.next+1+1) (by decide)
     have q3:(j=o)=False:=by simp only[eq_iff_iff,iff_false];intro h;rw[h,EH]at hj;cases hj
     simp only[go_sem, ↓reduceIte,Nat.reduceEqDiff,Nat.reduceAdd,Nat.reduceSub,Nat.reduceLeDiff,reduceCtorEq,q1,q2,q3])⟩)
    all_goals simp only[go_sem, ↓reduceIte,Nat.reduceEqDiff,Nat.reduceAdd,Nat.reduceSub,Nat.reduceLeDiff,reduceCtorEq,c81,cg0,cg1,xb,Jl,Jm,Ov,kO,PV,Oo]
  ·obtain⟨mV,Ho,dD⟩:=wz hL hr
   obtain⟨PI,Q2⟩:=By hL hr
   have Q8:(leads (x+1) L).length=(leads x L).length:=by rw[gr,if_neg hr];simp
   have JX:=B4 hr
   rcases cI1 with⟨rfl,mQ⟩|⟨o,mQ,cS⟩
   ·exact absurd (Nat.le_zero.1 (hL.le 0)) hr
   ·obtain⟨rows,id,vg,oI,hrk,hid,Hf,hidv,R6⟩:=cS.add PI x
    rw[pk]at oI
    have EH:o.site=168025002:=by obtain⟨_,_,_,_,_,_,h,_⟩:=cS;exact h
    have sE:o.cq<x1:=by obtain⟨_,_,_,_,_,_,_,h⟩:=cS;omega
    have kO:=eO sE
    have wm:=eO (i:=id) (n:=x1) ab
    have oi:(bx L x:Int)<((leads x L).length:Int):=ab
    have PR:=Aa x L (L x)
    have hma:((members x L (L x)).map eN).length=(members x L (L x)).length:=by simp
    have e1:(members x L (L x)).length+1<=16777216:=ab
    have Ln:(o=id)=False:=by simp only[eq_iff_iff,iff_false];rintro rfl;rw[Hf]at EH;cases EH
    have Lk:(id=o)=False:=by simp only[eq_iff_iff,iff_false];rintro rfl;rw[Hf]at EH;cases EH
    have PV:=gx (o:=o) EH (b:=168017000) (v:=st_b.next+1+1) (by decide)
    have Oo:=gx (o:=o) EH (b:=168001001) (v:=n0+1) (by decide)
    have hiM:=gx (o:=id) Hf (b:=168017000) (v:=st_b.next+1+1) (by decide)
    have hiT:=gx (o:=id) Hf (b:=168001001) (v:=n0+1) (by decide)
    have Mv:∀k,(G k=o)=False:=fun k=>by simp only[eq_iff_iff,iff_false];intro h;have h1:=QQ k;rw[h,EH]at h1;cases h1
    have RT:∀k,(G k=id)=False:=fun k=>by simp only[eq_iff_iff,iff_false];intro h;have h1:=QQ k;rw[h,Hf]at h1;cases h1
    (try((repeat(revert hN;revert N;apply Pn.out));refine wk (tw @c81 (tw @cg0 (tw @cg1 (tw @xb (tw @Jl (tw @Jm (tw @mQ (tw @ra (tw @mV (tw @Ho (tw @vg (tw @oI (tw @hrk (tw @hid (tw @kO (tw @wm (tw @oi (tw @hma (tw @e1 (tw @Ln (tw @Lk (tw @PV (tw @Oo (tw @hiM (tw @hiT (tw @oS (tw @oT (tw @Bool.not_false @Bool.not_true)))))))))))))))))))))))))))) ?_;(repeat(refine Pn.mk ?_;intro N hN))))
    refine gJ ?_ ?_ ?_ (by(try dsimp only);exact⟨ab,OS.frame fun k hk=>sd (tw @Mu (tw @Mq (tw @Mr (tw @Ms (tw @Mt (tw @Mv @RT))))))⟩) (.inr ⟨o,sd (tw @Q8 @mQ),by rw[Q2];exact R6 _ (x1+1+1) _ ab bt (sd @Nat.zero_add) (sd (tw @kO (tw @wm (tw @Ln @Lk)))) (fun j hj hv lU=>by
     have q1:=eO (i:=j) (n:=x1) ab
     have q2:=gx hj (b:=168017000) (v:=st_b.next+1+1) (by decide)
     have q3:(j=o)=False:=by simp only[eq_iff_iff,iff_false];intro h;rw[h,EH]at hj;cases hj
     simp only[go_sem, ↓reduceIte,Nat.reduceEqDiff,Nat.reduceAdd,Nat.reduceSub,Nat.reduceLeDiff,reduceCtorEq,q1,q2,q3,lU])⟩)
    all_goals simp only[go_sem, ↓reduceIte,Nat.reduceEqDiff,Nat.reduceAdd,Nat.reduceSub,Nat.reduceLeDiff,reduceCtorEq,c81,cg0,cg1,xb,Jl,Jm,JX,kO,wm,PV,Oo,hiM,hiT]
 have SW:x=cnt:=ab
 rcases cI1 with⟨h0,_⟩|⟨o,mQ,rows,ids,vg,hR,_,_,_,_⟩
 ·omega
 have oI:=hR.len
 rw[pk]at oI
 (try((repeat(revert hN;revert N;apply Pn.out));refine wk (tw @c81 (tw @cg0 (tw @cg1 (tw @xb (tw @Jl (tw @Jm (tw @hx (tw @mQ @vg)))))))) ?_;(repeat(refine Pn.mk ?_;intro N hN))))
 refine uz (.inl rfl) (by simp only[go_sem, ↓reduceIte,Nat.reduceEqDiff,Nat.reduceAdd,Nat.reduceSub,Nat.reduceLeDiff,reduceCtorEq];rfl) ?_
 rw[qa vg ab (rows':=(fa cnt L).map yD) (by
  rw[List.drop_zero,List.take_of_length_le ab]
  rw[SW]at hR;exact HJ 3 hR)]
theorem IQ (b:PB) (t:Int):ae Tryz.prog 171 [.agg (aA b),.cJ [.int .i64 t]] (.bool (decide (b.s<t))):=by
 refine ae.body dM rfl fun hl n0=>?_
 clear hl
 (try((repeat(revert hN;revert N;apply Pn.out));refine wk @aA.eq_1 ?_;(repeat(refine Pn.mk ?_;intro N hN))))
 exact aC (b:=decide (b.s<t)) (.inl rfl) (sd @Nat.zero_add) rfl
theorem wu (bs:List PB) (t:Int) (hl:bs.length<=1048576):ae Tryz.prog 185 [.sl (bs.map aA),.fn 171 [.cJ [.int .i64 t]]] (.int .i64 (jO (fun b:PB=>decide (b.s<t)) bs)):=
 se GL (show kK Tryz.prog 185=some (rz 185 3 true) by kernel_rfl) bs hl 171 _ _ (fun x _=>IQ x t) fun g=>by simp only[ad,aj,aV,Option.map_some]
theorem GH (bs:List PB) (hp:0<bs.length) (hl:bs.length<=1048576) (σ:ax):
  Call Tryz.prog 170 [.sl (bs.map aA)] σ fun r σ'=>∃o:Id,r=.own o 0 bs.length/\σ'.get o=some ⟨true,3,bs.map aA⟩/\σ.next<=o.cq/\o.cq<σ'.next/\∀i:Id,i.cq<σ.next->σ'.get i=σ.get i:=by
 refine eW dM rfl fun hl=>?_
 clear hl
 have hz:=all_map (l:=bs) LG
 obtain⟨b,r,rfl⟩:∃b r,bs=b::r:=by
  cases bs with
  |nil=>simp at hp
  |cons b r=>exact⟨b,r,rfl⟩
 have gw:(List.map aA (b::r)).length=(b::r).length:=by simp
 have e1:r.length<=16777215:=by simp at hl;omega
 rw[List.map_cons]at hz gw ⊢
 (try((repeat(revert hN;revert N;apply Pn.out));refine wk (tw @hz (tw @gw @e1)) ?_;(repeat(refine Pn.mk ?_;intro N hN))))
 refine gm (.inl rfl) (vs:=[.own ⟨170003002,σ.next+1+1⟩ 0 (b::r).length]) (by simp only[eU,gK,go_sem, ↓reduceIte,Nat.reduceEqDiff,Nat.reduceAdd,Nat.reduceSub,Nat.reduceLeDiff,reduceCtorEq,List.length_cons]) ⟨⟨170003002,σ.next+1+1⟩,rfl,sd @Nat.zero_add,bt,bt,fun i hi=>?_⟩
 have hv:=eO hi
 simp only[go_sem, ↓reduceIte,Nat.reduceEqDiff,Nat.reduceAdd,Nat.reduceSub,Nat.reduceLeDiff,reduceCtorEq,hv]
theorem nU {t:Int} {bs:List PB} {j:Nat} (hj:j<bs.length):aJ t (bs.take (j+1))=aJ t (bs.take j)++if decide (bs[j].s<t)=true then[]else[bs[j]]:=by
 rw[so t bs j hj]
 congr 1
 by_cases h:bs[j].s<t
 ·rw[if_neg ab,if_pos (decide_eq_true h)]
 ·rw[if_pos ab,if_neg (by simp only[decide_eq_true_eq];exact h)]
theorem sn {t:Int} {bs:List PB} (h:∀b∈bs,¬b.s<t):aJ t bs=bs:=by
 unfold aJ
 rw[List.filter_eq_self]
 intro b hb
 have:=h b hb
 exact decide_eq_true ab
structure sr (t:Int) (bs:List PB) (j:Nat) (R:List PB):Prop where
 len:R.length=bs.length
 pre:R.take (aJ t (bs.take j)).length=aJ t (bs.take j)
 post:∀x,j<=x->R[x]? =bs[x]?
 lt:(aJ t (bs.take j)).length<j
theorem sr.start {t:Int} {bs:List PB} {i:Nat} (hi:i<bs.length) (hw:bs[i].s<t) (hp:∀x (h:x<i),¬bs[x].s<t):sr t bs (i+1) bs/\(aJ t (bs.take (i+1))).length=i:=by
 have h1:aJ t (bs.take i)=bs.take i:=sn fun b hb=>by
  obtain⟨x,hx,rfl⟩:=List.getElem_of_mem hb
  rw[List.length_take]at hx
  rw[List.getElem_take]
  exact hp x ab
 have h2:aJ t (bs.take (i+1))=bs.take i:=by rw[nU hi,if_pos (decide_eq_true hw),List.append_nil,h1]
 have h3:(bs.take i).length=i:=by rw[List.length_take];omega
 exact⟨⟨rfl,by rw[h2,h3],fun _ _=>rfl,by rw[h2,h3];omega⟩,by rw[h2,h3]⟩
theorem sr.Ta {t:Int} {bs R:List PB} {j:Nat} (h:sr t bs j R) (hj:j<bs.length) (hw:bs[j].s<t):sr t bs (j+1) R/\(aJ t (bs.take (j+1))).length=(aJ t (bs.take j)).length:=by
 have h2:aJ t (bs.take (j+1))=aJ t (bs.take j):=by rw[nU hj,if_pos (decide_eq_true hw),List.append_nil]
 exact⟨⟨h.len,by rw[h2];exact h.pre,fun x hx=>h.post x ab,by rw[h2];have:=h.lt;omega⟩,by rw[h2]⟩
theorem sr.ub {t:Int} {bs R:List PB} {j:Nat} (h:sr t bs j R) (hj:j<bs.length) (hw:¬bs[j].s<t):sr t bs (j+1) (R.set (aJ t (bs.take j)).length bs[j])/\(aJ t (bs.take (j+1))).length=(aJ t (bs.take j)).length+1:=by
 have h2:aJ t (bs.take (j+1))=aJ t (bs.take j)++[bs[j]]:=by rw[nU hj,if_neg (by simp only[decide_eq_true_eq];exact hw)]
 have dD:=h.lt
 have hlen:=h.len
 have vm:=h.pre
 generalize hc:(aJ t (bs.take j)).length=c at *
 refine⟨⟨by rw[List.length_set];exact hlen,?_,fun x hx=>?_,by rw[h2,List.length_append,hc];simp;omega⟩,by rw[h2,List.length_append,hc];rfl⟩
 ·rw[h2,List.length_append,hc,List.length_singleton,List.take_succ_eq_append_getElem (by rw[List.length_set];omega),List.getElem_set_self,List.take_set_of_le (Nat.le_refl _),vm]
 ·rw[List.getElem?_set_ne ab];exact h.post x ab
theorem sr.at_ {t:Int} {bs R:List PB} {j:Nat} (h:sr t bs j R) (hj:j<bs.length):(R.map aA)[j]? =some (aA bs[j]):=by
 rw[List.getElem?_map,h.post j (Nat.le_refl j),List.getElem?_eq_getElem hj];rfl
theorem Bi {p:PB->Bool} {bs:List PB} (h:¬0<=jO p bs):∀b∈bs,p b=false:=by
 intro b hb
 unfold jO at h
 split at h
 ·omega
 ·rename_i h1
  rw[List.findIdx_lt_length]at h1
  cases hp:p b
  ·rfl
  ·exact absurd ⟨b,hb,hp⟩ h1
theorem Bj {p:PB->Bool} {bs:List PB} (h:0<=jO p bs):∃i,∃hi:i<bs.length,jO p bs=(i:Int)/\p bs[i]=true/\∀x (hx:x<i),p (bs[x]'ab)=false:=by
 unfold jO at h ⊢
 split
 ·rename_i h1
  exact⟨bs.findIdx p,h1,rfl,List.findIdx_getElem,fun x hx=>by simpa using List.not_of_lt_findIdx hx⟩
 ·rename_i h1;rw[if_neg h1]at h;omega
theorem El (bs:List PB) (t:Int) (hl:bs.length<=1048576) (o T:Id) (σ:ax) (ho:σ.get o=some ⟨true,3,bs.map aA⟩) (hT:σ.get T=some ⟨true,1,[[.int .i64 t]]⟩) (sE:o.cq<σ.next) (hTv:T.cq<σ.next) (Oo:o≠T):
  Call Tryz.prog 169 [.own o 0 bs.length,.fn 171 [.ptr T 0 0]] σ fun r σ'=>∃rows,r=.own o 0 (aJ t bs).length/\σ'.get o=some ⟨true,3,rows⟩/\rows.take (aJ t bs).length=(aJ t bs).map aA/\(aJ t bs).length<=rows.length/\σ.next<=σ'.next/\∀i:Id,i.cq<σ.next->i≠o->σ'.get i=σ.get i:=by
 refine eW dM rfl fun vk=>?_
 clear vk
 have EE:=wu bs t hl
 have hzT:∀(g:Rows),g T=some ⟨true,1,[[.int .i64 t]]⟩->V.fz (dE g) 5 (.ptr T 0 0)=some (.cJ [.int .i64 t]):=fun g hg=>xu (sz:=1) (rows:=[[.int .i64 t]]) (by simp[dE,hg]) rfl (by simp only[List.drop_zero,ad,aj,aI,Option.map_some])
 have yL:∀(g:Rows),g T=some ⟨true,1,[[.int .i64 t]]⟩->g o=some ⟨true,3,bs.map aA⟩->cm (dE g) 6 [.own o 0 bs.length,.fn 171 [.ptr T 0 0]]=some [.sl (bs.map aA),.fn 171 [.cJ [.int .i64 t]]]:=fun g h1 h2=>by
  have q1:=e6 (g:=dE g) (n:=5) (e:=aA) (sz:=3) (len:=bs.length) (l:=bs) (id:=o) (by simp[dE,h2]) rfl fun b=>xt _ 4 b
  have q2:=hzT g h1
  simp only[ad,aj,q1,cN,List.all_cons,List.all_nil,AV.cell,Bool.and_true,if_true,q2,Option.map_some]
 have k5:∀(g:Rows),g T=some ⟨true,1,[[.int .i64 t]]⟩->∀b:PB,cm (dE g) 6 [.agg (aA b),.ptr T 0 0]=some [.agg (aA b),.cJ [.int .i64 t]]:=fun g h1 b=>by
  have q3:V.fz (dE g) 6 (.ptr T 0 0)=some (.cJ [.int .i64 t]):=xu (sz:=1) (rows:=[[.int .i64 t]]) (by simp[dE,h1]) rfl (by simp only[List.drop_zero,ad,aj,aI,Option.map_some])
  simp only[ad,aj,bf,xt,q3,Option.map_some]
 (try((repeat(revert hN;revert N;apply Pn.out));refine wk @Nat.zero_add ?_;(repeat(refine Pn.mk ?_;intro N hN))))
 refine .inl ⟨_,ae.x EE (yL _ hT ho),?_⟩
 refine hN _ _ ?_
 clear hN N
 by_cases h0:0<=jO (fun b:PB=>decide (b.s<t)) bs
 ·obtain⟨i,hi,I2,hpi,MO⟩:=Bj h0
  rw[I2]at *
  have JR:decide ((i:Int)= -1)=false:=decide_eq_false ab
  have P8:IntKind.i64.wrap ((i:Int)+1)=((i+1:Nat):Int):=ay ab
  obtain⟨ev,sU⟩:=sr.start (t:=t) hi (by simpa using hpi) (fun x hx=>by simpa using MO x hx)
  (try((repeat(revert hN;revert N;apply Pn.out));refine wk (tw @JR @P8) ?_;(repeat(refine Pn.mk ?_;intro N hN))))
  refine aP (fun m env st=>∃(j:Nat) (R:List PB),m=bs.length-j/\env 6=.int .i64 (j:Int)/\env 5=.int .i64 ((aJ t (bs.take j)).length:Int)/\st.get o=some ⟨true,3,R.map aA⟩/\sr t bs j R/\j<=bs.length/\σ.next<=st.next/\∀x:Id,x.cq<σ.next->(x=o)=False->st.get x=σ.get x) (bs.length-(i+1)) ⟨i+1,bs,rfl,sd @P8,sd @sU,sd @ho,ev,ab,bt,fun x _ _=>sd @Nat.zero_add⟩ ?_
  rintro m env_b st_b ⟨j,R,rfl,b6,b5,bg,hD,gL,hle,lr⟩ bfr
  have b0:=bfr 0 (by kernel_rfl)
  have b1:=bfr 1 (by kernel_rfl)
  simp only[go_sem, ↓reduceIte,Nat.reduceEqDiff,Nat.reduceAdd,Nat.reduceSub,Nat.reduceLeDiff,reduceCtorEq]at b0 b1
  clear bfr
  have bT:=(lr T hTv (by simp only[eq_iff_iff,iff_false];exact fun h=>Oo h.symm)).trans hT
  have oJ:=eO (i:=o) (n:=st_b.next) ab
  have SQ:=eO (i:=T) (n:=st_b.next) ab
  have hRl:=hD.len
  have R4:(R.map aA).length=bs.length:=by rw[List.length_map,hRl]
  have dD:=hD.lt
  by_cases hj:(j:Int)<(bs.length:Int)
  ·have gj:j<bs.length:=ab
   have FZ:=hD.at_ gj
   have M3:=IQ bs[j] t
   have Rf:IntKind.i64.wrap ((j:Int)+1)=((j+1:Nat):Int):=ay ab
   have hD1:=hD.Ta gj
   have hD2:=hD.ub gj
   generalize bs[j]=b at *
   (try((repeat(revert hN;revert N;apply Pn.out));refine wk (tw @b0 (tw @b1 (tw @b5 (tw @b6 (tw @bg (tw @hj (tw @FZ (tw @aA.eq_1 (tw @oJ (tw @SQ @R4)))))))))) ?_;(repeat(refine Pn.mk ?_;intro N hN))))
   refine .inl ⟨_,ae.x M3 (k5 _ (sd (tw @SQ @bT)) b),?_⟩
   refine hN _ _ ?_
   clear hN N
   by_cases hw:b.s<t
   ·obtain⟨RN,RM⟩:=hD1 hw
    have hd:decide (b.s<t)=true:=decide_eq_true hw
    (try((repeat(revert hN;revert N;apply Pn.out));refine wk (tw @b0 (tw @b1 (tw @b5 (tw @b6 (tw @hd @Rf))))) ?_;(repeat(refine Pn.mk ?_;intro N hN))))
    refine⟨_,?_,j+1,R,rfl,sd @Rf,sd (tw @b5 @RM),sd (tw @bg @oJ),RN,ab,bt,fun x hx F5=>?_⟩
    ·omega
    ·have Oz:=eO (i:=x) (n:=st_b.next) ab
     have:=lr x hx F5
     simp only[go_sem, ↓reduceIte,Nat.reduceEqDiff,Nat.reduceAdd,Nat.reduceSub,Nat.reduceLeDiff,reduceCtorEq,Oz,this]
   ·obtain⟨RN,RM⟩:=hD2 hw
    have hd:decide (b.s<t)=false:=decide_eq_false hw
    have R9:((aJ t (bs.take j)).length:Int)<(bs.length:Int):=ab
    have hwc:IntKind.i64.wrap (((aJ t (bs.take j)).length:Int)+1)=(((aJ t (bs.take j)).length+1:Nat):Int):=ay ab
    have dP:(R.map aA).set (aJ t (bs.take j)).length [.int .i64 (b.a:Int),.int .i64 (b.b:Int),.int .i64 b.s]=(R.set (aJ t (bs.take j)).length b).map aA:=by rw[List.map_set];rfl
    have Oh:∃y,(R.map aA)[(aJ t (bs.take j)).length]? =some (aA y):=⟨R[(aJ t (bs.take j)).length]'ab,by rw[List.getElem?_map,List.getElem?_eq_getElem ab];rfl⟩
    obtain⟨y,Oh⟩:=Oh
    rw[aA]at Oh
    (try((repeat(revert hN;revert N;apply Pn.out));refine wk (tw @b0 (tw @b1 (tw @b5 (tw @b6 (tw @bg (tw @hd (tw @Rf (tw @hwc (tw @R9 (tw @dP (tw @Oh (tw @oJ (tw @SQ @R4))))))))))))) ?_;(repeat(refine Pn.mk ?_;intro N hN))))
    refine⟨_,?_,j+1,_,rfl,sd @Rf,sd (tw @hwc @RM),sd @dP,RN,ab,bt,fun x hx F5=>?_⟩
    ·omega
    ·have Oz:=eO (i:=x) (n:=st_b.next) ab
     have:=lr x hx F5
     simp only[go_sem, ↓reduceIte,Nat.reduceEqDiff,Nat.reduceAdd,Nat.reduceSub,Nat.reduceLeDiff,reduceCtorEq,Oz,this,F5]
  ·have gL:j=bs.length:=ab
   subst gL
   have vm:=hD.pre
   rw[List.take_length]at b5 dD vm
   have R9:((aJ t bs).length:Int)<=(bs.length:Int):=ab
   have QX:(aJ t bs).length<=bs.length:=ab
   have pq:(aJ t bs).length+(bs.length-(aJ t bs).length)=bs.length:=ab
   have sU:=ml t bs
   (try((repeat(revert hN;revert N;apply Pn.out));refine wk (tw @b0 (tw @b1 (tw @b5 (tw @b6 (tw @bg (tw @hj (tw @R4 (tw @R9 (tw @QX (tw @pq (tw @Nat.le_refl (tw @Nat.sub_zero (tw @Int.le_refl @oJ))))))))))))) ?_;(repeat(refine Pn.mk ?_;intro N hN))))
   refine gm (.inl rfl) (vs:=[.own o 0 (aJ t bs).length]) (sd @Nat.zero_add) ⟨_,rfl,by simp only[go_sem, ↓reduceIte,Nat.reduceEqDiff,Nat.reduceAdd,Nat.reduceSub,Nat.reduceLeDiff,reduceCtorEq];rfl,?_,?_,bt,fun x hx F5=>?_⟩
   ·have hm:List.take (aJ t bs).length (List.map aA R)=(aJ t bs).map aA:=by rw[<-List.map_take,vm]
    rw[hm,List.append_assoc,List.take_append_of_le_length (by simp),List.take_of_length_le (by simp)]
   ·have hm:List.take (aJ t bs).length (List.map aA R)=(aJ t bs).map aA:=by rw[<-List.map_take,vm]
    rw[hm]
    simp only[List.length_append,List.length_map]
    omega
   ·have Qa:(x=o)=False:=by simp only[eq_iff_iff,iff_false];exact F5
    have:=lr x hx Qa
    simp only[go_sem, ↓reduceIte,Nat.reduceEqDiff,Nat.reduceAdd,Nat.reduceSub,Nat.reduceLeDiff,reduceCtorEq,Qa,this]
 ·have hn:=Bi h0
  have ev:=sn (t:=t) (bs:=bs) fun b hb=>by simpa using hn b hb
  have hd:decide (jO (fun b:PB=>decide (b.s<t)) bs= -1)=true:=decide_eq_true (by
   unfold jO at h0 ⊢
   split
   ·rename_i h;rw[if_pos h]at h0;omega
   ·rfl)
  (try((repeat(revert hN;revert N;apply Pn.out));refine wk @hd ?_;(repeat(refine Pn.mk ?_;intro N hN))))
  refine gm (.inl rfl) (vs:=[.own o 0 bs.length]) (sd @Nat.zero_add) ⟨bs.map aA,by rw[ev];rfl,sd @ho,by rw[ev,List.take_of_length_le (by simp)],by rw[ev];simp,bt,fun x _ _=>rfl⟩
def yg (bs:List PB):AV:=if bs=[]then .bK else .sl (bs.map aA)
theorem KM:yg []=.bK:=rfl
theorem yh {bs:List PB} (h:0<bs.length):yg bs=.sl (bs.map aA):=by
 unfold yg
 rw[if_neg (by rintro rfl;simp at h)]
theorem u6 (cnt:Nat) (tR:1<=cnt) (hn:cnt<=1048576) (bs:List PB) (hb:∀b∈bs,b.a<cnt/\b.b<cnt) (hp:0<bs.length) (pI:bs.length<=1048576) (t:Int):ae Tryz.prog 153 [.int .i64 cnt,.sl (bs.map aA),.int .i64 t] (.iL [.int .i64 (leads cnt (dS (aJ t bs))).length,yg (di (dS (aJ t bs)) bs)]):=by
 refine ae.body dM rfl fun hl n0=>?_
 clear hl
 (try((repeat(revert hN;revert N;apply Pn.out));refine wk @Nat.zero_add ?_;(repeat(refine Pn.mk ?_;intro N hN))))
 refine .inr (aO _ _ _ _ _ (fun r σ1 hq=>?_) (GH bs hp pI _))
 obtain⟨o,rfl,ho,JU,JV,PH⟩:=hq
 (try dsimp only at ho JU JV PH)
 refine hN _ _ ?_
 clear hN N
 (try((repeat(revert hN;revert N;apply Pn.out));refine wk @Nat.zero_add ?_;(repeat(refine Pn.mk ?_;intro N hN))))
 refine .inr (aO _ _ _ _ _ (fun r σ2 hq=>?_) (El bs t pI o ⟨153000000,n0⟩ _ ho (by rw[PH _ bt];simp only[go_sem, ↓reduceIte,Nat.reduceEqDiff,Nat.reduceAdd,Nat.reduceSub,Nat.reduceLeDiff,reduceCtorEq]) bt bt (by rintro rfl;simp only at JU;omega)))
 obtain⟨rows,rfl,fH,hrt,oI,mb,Hc⟩:=hq
 (try dsimp only at mb Hc)
 refine hN _ _ ?_
 clear hN N
 have F0:=tK cnt tR hn (aJ t bs) (fun b h=>hb b (uF h)) (by have:=ml t bs;omega)
 have hL:=sf (aJ t bs)
 have hz:∀x,cm (dE σ2.get) 6 [.int .i64 x,.own o 0 (aJ t bs).length]=some [.int .i64 x,.sl ((aJ t bs).map aA)]:=fun x=>by
  have:V.fz (dE σ2.get) 6 (.own o 0 (aJ t bs).length)=some (.sl ((aJ t bs).map aA)):=by
   rw[fS];simp only[dE,fH,Option.map_some,if_true]
   rw[if_pos ab,List.drop_zero,hrt,l8 fun b=>xt _ 4 b];rfl
  simp only[ad,aj,aI,this,Option.map_some]
 (try((repeat(revert hN;revert N;apply Pn.out));refine wk @Nat.zero_add ?_;(repeat(refine Pn.mk ?_;intro N hN))))
 refine .inl ⟨_,ae.x F0 (hz _),?_⟩
 refine hN _ _ ?_
 clear hN N
 generalize dS (aJ t bs)=L at *
 have pJ:((fa cnt L).map yD).length=(leads cnt L).length:=by simp[fa]
 have Q7:=jr cnt L
 have jm:(0:Int)<=(cnt:Int):=ab
 have oQ:(cnt:Int)<=((16777216:Nat):Int):=ab
 have gF:List.replicate cnt [AV.int .i64 0]=dv (cz cnt L 0 0) cnt:=by rw[uJ,nM]
 (try((repeat(revert hN;revert N;apply Pn.out));refine wk (tw @jm (tw @oQ (tw @Int.le_refl (tw @pJ @gF)))) ?_;(repeat(refine Pn.mk ?_;intro N hN))))
 refine aP (fun n env st=>∃i:Nat,n=((leads cnt L).length)-i/\i<=((leads cnt L).length)/\env 27=.int .i64 (i:Int)/\st.get ⟨153002001,σ2.next+1⟩=some ⟨true,1,dv (cz cnt L i 0) cnt⟩/\(σ2.next+1<st.next)) ((leads cnt L).length) ⟨0,ab,ab,sl (tw @gF @pJ),sl (tw @gF @pJ),bt⟩ ?_
 rintro n_c env_c st_c ⟨i,rfl,cle,c27,cg0,cI0⟩ cfr
 have c1:=cfr 1 (by kernel_rfl);have c8:=cfr 8 (by kernel_rfl);have c9:=cfr 9 (by kernel_rfl);have uW:=cfr 25 (by kernel_rfl);have uX:=cfr 26 (by kernel_rfl)
 simp only[go_sem, ↓reduceIte,Nat.reduceEqDiff,Nat.reduceAdd,Nat.reduceSub,Nat.reduceLeDiff,reduceCtorEq,gF,pJ]at c1 c8 c9 uW uX
 clear cfr
 by_cases hi:(i:Int)<((leads cnt L).length:Int)
 ·have gJ:∀{e:Env} {gg:Rows} {nx:Nat},(e 27=.int .i64 (IntKind.i64.wrap ((i:Int)+1)))->(gg ⟨153002001,σ2.next+1⟩=some ⟨true,1,dv (cz cnt L (i+1) 0) cnt⟩)->(σ2.next+1<nx)->∃m0,m0<((leads cnt L).length)-i/\∃i:Nat,m0=((leads cnt L).length)-i/\i<=((leads cnt L).length)/\e 27=.int .i64 (i:Int)/\gg ⟨153002001,σ2.next+1⟩=some ⟨true,1,dv (cz cnt L i 0) cnt⟩/\(σ2.next+1<nx):=fun x1 x2 x3=>⟨_,ab,i+1,rfl,ab,(by rw[x1,ay ab]),x2,x3⟩
  have fN:i<(leads cnt L).length:=ab
  have oi:((fa cnt L).map yD)[i]? =some (yD (members cnt L (leads cnt L)[i])):=by simp[fa,fN]
  have sS:(leads cnt L).getD i 0=(leads cnt L)[i]:=by simp[List.getD_eq_getElem?_getD,fN]
  have yH:∀m,cz cnt L i m=fun x=>if bx L x<i then bx L x else if x∈(members cnt L (leads cnt L)[i]).take m then i else 0:=fun m=>by unfold cz;rw[sS]
  have oG:=fun x (hx:x<cnt)=>rG hL (n:=cnt) (k:=x) (i:=i) hx fN
  have kN:(members cnt L (leads cnt L)[i]).Nodup:=List.nodup_range.filter _
  have Hi:∀x∈members cnt L (leads cnt L)[i],x<cnt:=fun x hx=>(k6.1 hx).1
  have hMc:(members cnt L (leads cnt L)[i]).length<=cnt:=by
   have:=List.length_filter_le (fun k=>L k==(leads cnt L)[i]) (List.range cnt)
   simpa[members]using this
  generalize members cnt L (leads cnt L)[i]=M at *
  have AI:(M.map eN).length=M.length:=by simp
  (try((repeat(revert hN;revert N;apply Pn.out));refine wk (tw @c27 (tw @cg0 (tw @c1 (tw @c8 (tw @c9 (tw @uW (tw @uX (tw @hi (tw @pJ (tw @oi (tw @yD.eq_1 @AI))))))))))) ?_;(repeat(refine Pn.mk ?_;intro N hN))))
  refine aP (fun n env st=>∃m:Nat,n=(M.length)-m/\m<=(M.length)/\env 34=.int .i64 (m:Int)/\st.get ⟨153002001,σ2.next+1⟩=some ⟨true,1,dv (cz cnt L i m) cnt⟩/\(σ2.next+1<st.next)) (M.length) ⟨0,ab,ab,sl (tw @c27 (tw @cg0 (tw @c1 (tw @c8 (tw @c9 (tw @uW (tw @uX @AI))))))),sl (tw @c27 (tw @cg0 (tw @c1 (tw @c8 (tw @c9 (tw @uW (tw @uX @AI))))))),bt⟩ ?_
  rintro n_d env_d st_d ⟨m,rfl,dle,d34,dg0,dI0⟩ dfr
  have d1:=dfr 1 (by kernel_rfl);have d8:=dfr 8 (by kernel_rfl);have d9:=dfr 9 (by kernel_rfl);have d10:=dfr 10 (by kernel_rfl);have d25:=dfr 25 (by kernel_rfl);have d26:=dfr 26 (by kernel_rfl);have d27:=dfr 27 (by kernel_rfl);have d32:=dfr 32 (by kernel_rfl);have d33:=dfr 33 (by kernel_rfl)
  simp only[go_sem, ↓reduceIte,Nat.reduceEqDiff,Nat.reduceAdd,Nat.reduceSub,Nat.reduceLeDiff,reduceCtorEq,c27,cg0,c1,c8,c9,uW,uX,AI]at d1 d8 d9 d10 d25 d26 d27 d32 d33
  clear dfr
  have tl:=fJ (cz cnt L i m) cnt
  by_cases hm:(m:Int)<(M.length:Int)
  ·have si:∀{e:Env} {gg:Rows} {nx:Nat},(e 34=.int .i64 (IntKind.i64.wrap ((m:Int)+1)))->(gg ⟨153002001,σ2.next+1⟩=some ⟨true,1,dv (cz cnt L i (m+1)) cnt⟩)->(σ2.next+1<nx)->∃m0,m0<(M.length)-m/\∃m:Nat,m0=(M.length)-m/\m<=(M.length)/\e 34=.int .i64 (m:Int)/\gg ⟨153002001,σ2.next+1⟩=some ⟨true,1,dv (cz cnt L i m) cnt⟩/\(σ2.next+1<nx):=fun x1 x2 x3=>⟨_,ab,m+1,rfl,ab,(by rw[x1,ay ab]),x2,x3⟩
   have xJ:m<M.length:=ab
   have tO:(M.map eN)[m]? =some (eN M[m]):=by simp[xJ]
   have tX:=Hi _ (List.getElem_mem xJ)
   have yK:(M[m]:Int)<(cnt:Int):=ab
   have AL:=eZ (f:=cz cnt L i m) tX
   have dP:(dv (cz cnt L i m) cnt).set M[m] (eN i)=dv (cz cnt L i (m+1)) cnt:=oA tX (by
    have h1:=(oG _ tX).1 (List.getElem_mem xJ)
    rw[yH]
    simp only[]
    rw[if_neg ab,if_pos (by rw[List.take_succ_eq_append_getElem xJ];exact List.mem_append_right _ (List.mem_singleton.2 rfl))]) fun x hx gW=>by
    rw[yH,yH]
    simp only[]
    rw[List.take_succ_eq_append_getElem xJ]
    simp only[List.mem_append,List.mem_singleton,gW,or_false]
   rw[eN]at dP AL
   generalize M[m]=xm at *
   (try((repeat(revert hN;revert N;apply Pn.out));refine wk (tw @d34 (tw @dg0 (tw @d1 (tw @d8 (tw @d9 (tw @d10 (tw @d25 (tw @d26 (tw @d27 (tw @d32 (tw @d33 (tw @hm (tw @hi (tw @tO (tw @AI (tw @yK (tw @AL (tw @tl (tw @dP @eN.eq_1))))))))))))))))))) ?_;(repeat(refine Pn.mk ?_;intro N hN))))
   refine si ?_ ?_ bt
   all_goals simp only[go_sem, ↓reduceIte,Nat.reduceEqDiff,Nat.reduceAdd,Nat.reduceSub,Nat.reduceLeDiff,reduceCtorEq,d34,dg0,d1,d8,d9,d10,d25,d26,d27,d32,d33,dP]
  ·have gw:m=M.length:=ab
   subst gw
   have tT:dv (cz cnt L i M.length) cnt=dv (cz cnt L (i+1) 0) cnt:=gD fun x hx=>by
    rw[yH,List.take_length]
    simp only[cz,List.take_zero,List.not_mem_nil,if_false]
    have h1:=oG x hx
    by_cases h2:bx L x<i
    ·rw[if_pos h2,if_pos ab]
    ·rw[if_neg h2]
     by_cases h3:x∈M
     ·rw[if_pos h3,if_pos (by have:=h1.1 h3;omega),h1.1 h3]
     ·rw[if_neg h3,if_neg fun h4=>h3 (h1.2 ab)]
   (try((repeat(revert hN;revert N;apply Pn.out));refine wk (tw @d34 (tw @dg0 (tw @d1 (tw @d8 (tw @d9 (tw @d10 (tw @d25 (tw @d26 (tw @d27 (tw @d32 (tw @d33 (tw @hm (tw @hi (tw @pJ @AI)))))))))))))) ?_;(repeat(refine Pn.mk ?_;intro N hN))))
   refine gJ ?_ ?_ bt
   all_goals simp only[go_sem, ↓reduceIte,Nat.reduceEqDiff,Nat.reduceAdd,Nat.reduceSub,Nat.reduceLeDiff,reduceCtorEq,c27,cg0,c1,c8,c9,uW,uX,d34,dg0,d1,d8,d9,d10,d25,d26,d27,d32,d33,tT]
 have oR:i=(leads cnt L).length:=ab
 subst oR
 have EF:dv (cz cnt L (leads cnt L).length 0) cnt=dv (bx L) cnt:=gD fun x hx=>by rw[cz,if_pos (jI hL hx)]
 rw[EF]at cg0
 have tl:=fJ (bx L) cnt
 have QU:(bs.map aA).length=bs.length:=by simp
 (try((repeat(revert hN;revert N;apply Pn.out));refine wk (tw @c27 (tw @cg0 (tw @c1 (tw @c8 (tw @c9 (tw @uW (tw @uX (tw @hi (tw @pJ @QU))))))))) ?_;(repeat(refine Pn.mk ?_;intro N hN))))
 have QX:σ2.next+1<st_c.next:=cI0
 refine aP (fun n env st=>∃j:Nat,n=(bs.length)-j/\j<=(bs.length)/\env 46=.int .i64 (j:Int)/\st.get ⟨153002001,σ2.next+1⟩=some ⟨true,1,dv (bx L) cnt⟩/\(st_c.next<=st.next/\((di L (bs.take j)=[]/\env 14=.bK)∨∃p:Id,env 14=.own p 0 (di L (bs.take j)).length/\st.get p=some ⟨true,3,(di L (bs.take j)).map aA⟩/\st_c.next<=p.cq/\p.cq<st.next/\0<(di L (bs.take j)).length))) (bs.length) ⟨0,ab,ab,sl (tw @c27 (tw @cg0 (tw @c1 (tw @c8 (tw @c9 (tw @uW (tw @uX @QU))))))),sl (tw @c27 (tw @cg0 (tw @c1 (tw @c8 (tw @c9 (tw @uW (tw @uX @QU))))))),⟨bt,.inl ⟨rfl,by(simp only[go_sem, ↓reduceIte,Nat.reduceEqDiff,Nat.reduceAdd,Nat.reduceSub,Nat.reduceLeDiff,reduceCtorEq])⟩⟩⟩ ?_
 rintro n_f env_f st_f ⟨j,rfl,fle,f46,fg0,fI0⟩ ffr
 have f1:=ffr 1 (by kernel_rfl);have f8:=ffr 8 (by kernel_rfl);have f9:=ffr 9 (by kernel_rfl);have f44:=ffr 44 (by kernel_rfl);have f45:=ffr 45 (by kernel_rfl)
 simp only[go_sem, ↓reduceIte,Nat.reduceEqDiff,Nat.reduceAdd,Nat.reduceSub,Nat.reduceLeDiff,reduceCtorEq,c27,cg0,c1,c8,c9,uW,uX,QU]at f1 f8 f9 f44 f45
 clear ffr
 obtain⟨JK,fO⟩:=fI0
 have Hu:=eO (i:=⟨153002001,σ2.next+1⟩) (n:=st_f.next) bt
 have sU:=(mj L (bs.take j)).1
 rw[List.length_take]at sU
 by_cases hj:(j:Int)<(bs.length:Int)
 ·have qt:∀{e:Env} {gg:Rows} {nx:Nat},(e 46=.int .i64 (IntKind.i64.wrap ((j:Int)+1)))->(gg ⟨153002001,σ2.next+1⟩=some ⟨true,1,dv (bx L) cnt⟩)->(st_c.next<=nx/\((di L (bs.take (j+1))=[]/\e 14=.bK)∨∃p:Id,e 14=.own p 0 (di L (bs.take (j+1))).length/\gg p=some ⟨true,3,(di L (bs.take (j+1))).map aA⟩/\st_c.next<=p.cq/\p.cq<nx/\0<(di L (bs.take (j+1))).length))->∃m0,m0<(bs.length)-j/\∃j:Nat,m0=(bs.length)-j/\j<=(bs.length)/\e 46=.int .i64 (j:Int)/\gg ⟨153002001,σ2.next+1⟩=some ⟨true,1,dv (bx L) cnt⟩/\(st_c.next<=nx/\((di L (bs.take j)=[]/\e 14=.bK)∨∃p:Id,e 14=.own p 0 (di L (bs.take j)).length/\gg p=some ⟨true,3,(di L (bs.take j)).map aA⟩/\st_c.next<=p.cq/\p.cq<nx/\0<(di L (bs.take j)).length)):=fun x1 x2 x3=>⟨_,ab,j+1,rfl,ab,(by rw[x1,ay ab]),x2,x3⟩
  have gj:j<bs.length:=ab
  have FZ:(bs.map aA)[j]? =some (aA bs[j]):=by simp[gj]
  have Ld:=hb _ (List.getElem_mem gj)
  have hs:=yd L (bs.take j) bs[j]
  rw[<-List.take_succ_eq_append_getElem gj]at hs
  generalize bs[j]=b at *
  have hA:=eZ (f:=bx L) Ld.1
  have hB:=eZ (f:=bx L) Ld.2
  have gi:(b.a:Int)<(cnt:Int):=ab
  have fB:(b.b:Int)<(cnt:Int):=ab
  rw[eN]at hA hB
  have e1:(di L (bs.take j)).length+1<=16777216:=ab
  have gw:((di L (bs.take j)).map aA).length=(di L (bs.take j)).length:=by simp
  by_cases he:bx L b.a=bx L b.b
  ·rw[if_pos he,List.append_nil]at hs
   have uR:decide ((bx L b.a:Int)=(bx L b.b:Int))=true:=decide_eq_true (by rw[he])
   (try((repeat(revert hN;revert N;apply Pn.out));refine wk (tw @f46 (tw @fg0 (tw @f1 (tw @f8 (tw @f9 (tw @f44 (tw @f45 (tw @hj (tw @FZ (tw @hA (tw @hB (tw @gi (tw @fB (tw @tl (tw @uR (tw @Hu (tw @aA.eq_1 (tw @Bool.not_true @Bool.not_false)))))))))))))))))) ?_;(repeat(refine Pn.mk ?_;intro N hN))))
   refine qt ?_ ?_ (by(try dsimp only);exact⟨ab,by
    rw[hs]
    rcases fO with⟨h1,h2⟩|⟨p,h1,h2,h3,h4,h5⟩
    ·exact .inl ⟨h1,sd @h2⟩
    ·have yI:=eO h4
     exact .inr ⟨p,sd @h1,sd (tw @h2 @yI),h3,ab,h5⟩⟩)
   all_goals simp only[go_sem, ↓reduceIte,Nat.reduceEqDiff,Nat.reduceAdd,Nat.reduceSub,Nat.reduceLeDiff,reduceCtorEq,f46,fg0,f1,f8,f9,f44,f45,Hu]
  ·rw[if_neg he]at hs
   have uR:decide ((bx L b.a:Int)=(bx L b.b:Int))=false:=decide_eq_false fun h=>he ab
   rcases fO with⟨h1,f14⟩|⟨p,f14,fg,MM,Lp,hp3⟩
   ·rw[h1]at hs
    (try((repeat(revert hN;revert N;apply Pn.out));refine wk (tw @f46 (tw @fg0 (tw @f1 (tw @f8 (tw @f9 (tw @f44 (tw @f45 (tw @f14 (tw @hj (tw @FZ (tw @hA (tw @hB (tw @gi (tw @fB (tw @tl (tw @uR (tw @Hu (tw @aA.eq_1 (tw @Bool.not_true @Bool.not_false))))))))))))))))))) ?_;(repeat(refine Pn.mk ?_;intro N hN))))
    refine qt ?_ ?_ (by(try dsimp only);exact⟨ab,.inr ⟨⟨153017015,st_f.next+1+1+1⟩,by rw[hs];simp only[go_sem, ↓reduceIte,Nat.reduceEqDiff,Nat.reduceAdd,Nat.reduceSub,Nat.reduceLeDiff,reduceCtorEq,List.nil_append,List.length_cons,List.length_nil],by rw[hs];simp only[go_sem, ↓reduceIte,Nat.reduceEqDiff,Nat.reduceAdd,Nat.reduceSub,Nat.reduceLeDiff,reduceCtorEq,aA,List.nil_append,List.map_cons,List.map_nil],bt,bt,by rw[hs];simp⟩⟩)
    all_goals simp only[go_sem, ↓reduceIte,Nat.reduceEqDiff,Nat.reduceAdd,Nat.reduceSub,Nat.reduceLeDiff,reduceCtorEq,f46,fg0,f1,f8,f9,f44,f45,Hu]
   ·have x1:=dr (a:=⟨153002001,σ2.next+1⟩) (b:=p) bt
    have yI:=eO Lp
    (try((repeat(revert hN;revert N;apply Pn.out));refine wk (tw @f46 (tw @fg0 (tw @f1 (tw @f8 (tw @f9 (tw @f44 (tw @f45 (tw @f14 (tw @fg (tw @hj (tw @FZ (tw @hA (tw @hB (tw @gi (tw @fB (tw @tl (tw @uR (tw @x1 (tw @yI (tw @Hu (tw @e1 (tw @gw (tw @aA.eq_1 (tw @Bool.not_true @Bool.not_false)))))))))))))))))))))))) ?_;(repeat(refine Pn.mk ?_;intro N hN))))
    refine qt ?_ ?_ (by(try dsimp only);exact⟨ab,.inr ⟨⟨153017015,st_f.next+1+1+1⟩,by rw[hs,List.length_append];simp only[go_sem, ↓reduceIte,Nat.reduceEqDiff,Nat.reduceAdd,Nat.reduceSub,Nat.reduceLeDiff,reduceCtorEq,List.length_cons,List.length_nil],by rw[hs,List.map_append,List.map_cons,List.map_nil];simp only[go_sem, ↓reduceIte,Nat.reduceEqDiff,Nat.reduceAdd,Nat.reduceSub,Nat.reduceLeDiff,reduceCtorEq,aA],bt,bt,by rw[hs];simp⟩⟩)
    all_goals simp only[go_sem, ↓reduceIte,Nat.reduceEqDiff,Nat.reduceAdd,Nat.reduceSub,Nat.reduceLeDiff,reduceCtorEq,f46,fg0,f1,f8,f9,f44,f45,x1,Hu]
 ·have gL:j=bs.length:=ab
  subst gL
  rw[List.take_length]at fO
  rcases fO with⟨h1,f14⟩|⟨p,f14,fg,MM,Lp,hp3⟩
  ·(try((repeat(revert hN;revert N;apply Pn.out));refine wk (tw @f46 (tw @fg0 (tw @f1 (tw @f8 (tw @f9 (tw @f44 (tw @f45 (tw @f14 (tw @hj @pJ))))))))) ?_;(repeat(refine Pn.mk ?_;intro N hN))))
   refine jc (.inl rfl) (r1:=.int .i64 ((leads cnt L).length:Int)) (sd @Nat.zero_add) (by simp only[go_sem, ↓reduceIte,Nat.reduceEqDiff,Nat.reduceAdd,Nat.reduceSub,Nat.reduceLeDiff,reduceCtorEq];rfl) ?_
   simp only[eX,br,bV,eA,kb,h1,KM,Option.map_some]
  ·(try((repeat(revert hN;revert N;apply Pn.out));refine wk (tw @f46 (tw @fg0 (tw @f1 (tw @f8 (tw @f9 (tw @f44 (tw @f45 (tw @f14 (tw @hj @pJ))))))))) ?_;(repeat(refine Pn.mk ?_;intro N hN))))
   refine jc (.inl rfl) (r1:=.int .i64 ((leads cnt L).length:Int)) (sd @Nat.zero_add) (by simp only[go_sem, ↓reduceIte,Nat.reduceEqDiff,Nat.reduceAdd,Nat.reduceSub,Nat.reduceLeDiff,reduceCtorEq];rfl) ?_
   have h1:fC st_f.get 5 (.own p 0 (di L bs).length)=some (.sl ((di L bs).map aA)):=fG (sz:=3) fg rfl fun b=>sO _ 3 b
   simp only[eX,br,bV,eA,h1,yh hp3,Option.map_some]
theorem uZ (cnt:Nat) (tR:1<=cnt) (hn:cnt<=1048576) (t:Int):ae Tryz.prog 153 [.int .i64 cnt,.bK,.int .i64 t] (.iL [.int .i64 cnt,.bK]):=by
 refine ae.body dM rfl fun hl n0=>?_
 clear hl
 have h1:ae Tryz.prog 170 [.bK] .bK:=by
  refine ae.body dM rfl fun hl n0=>?_
  clear hl
  (try((repeat(revert hN;revert N;apply Pn.out));refine wk @Nat.zero_add ?_;(repeat(refine Pn.mk ?_;intro N hN))))
  exact uz (.inl rfl) (r0:=.bK) (sd @Nat.zero_add) (kb _ _)
 have h2:ae Tryz.prog 169 [.bK,.fn 171 [.cJ [.int .i64 t]]] .bK:=by
  have EE:=(wu [] t (by simp)).cut mixed (.bK (.same _ .nil))
  refine ae.body dM rfl fun hl n0=>?_
  clear hl
  (try((repeat(revert hN;revert N;apply Pn.out));refine wk @Nat.zero_add ?_;(repeat(refine Pn.mk ?_;intro N hN))))
  refine .inl ⟨_,ae.x EE (by simp only[ad,aj,aW,cN,aV,List.all_cons,List.all_nil,AV.cell,Bool.and_true,if_true,Option.map_some]),?_⟩
  refine hN _ _ ?_
  clear hN N
  have hd:decide (jO (fun b:PB=>decide (b.s<t)) []= -1)=true:=rfl
  (try((repeat(revert hN;revert N;apply Pn.out));refine wk @hd ?_;(repeat(refine Pn.mk ?_;intro N hN))))
  exact uz (.inl rfl) (r0:=.bK) (sd @Nat.zero_add) (kb _ _)
 have F0:=(tK cnt tR hn [] (fun b h=>by cases h) (by simp)).cut mixed (.same _ (.bK .nil))
 (repeat(first|((repeat(revert hN;revert N;apply Pn.out));refine wk @Nat.zero_add ?_;(repeat(refine Pn.mk ?_;intro N hN)))|((try apply Or.inl);refine⟨_,ae.x (h1) (sd @Nat.zero_add),?_⟩;refine hN _ _ ?_;clear hN N)))
 refine .inl ⟨_,ae.x h2 ?_,?_⟩
 ·have:V.fz (dE (bY (fun _=>none) ⟨153000000,n0⟩ ⟨true,1,[[.int .i64 t]]⟩)) 5 (.ptr ⟨153000000,n0⟩ 0 0)=some (.cJ [.int .i64 t]):=xu (sz:=1) (rows:=[[.int .i64 t]]) (by simp[dE,bY]) rfl (by simp only[List.drop_zero,ad,aj,aI,Option.map_some])
  simp only[ad,aj,aW,cN,this,List.all_cons,List.all_nil,AV.cell,Bool.and_true,if_true,Option.map_some]
 refine hN _ _ ?_
 clear hN N
 have fB:dS ([]:List PB)=id:=rfl
 rw[fB]at F0
 have hL:jk id:=fB▸sf ([]:List PB)
 have Ol:(leads cnt id).length=cnt:=by rw[leads,List.filter_eq_self.2 (fun a _=>by simp)];simp
 generalize (id:Nat->Nat)=L at *
 have pJ:((fa cnt L).map yD).length=(leads cnt L).length:=by simp[fa]
 have Q7:=jr cnt L
 have jm:(0:Int)<=(cnt:Int):=ab
 have oQ:(cnt:Int)<=((16777216:Nat):Int):=ab
 have gF:List.replicate cnt [AV.int .i64 0]=dv (cz cnt L 0 0) cnt:=by rw[uJ,nM]
 (repeat(first|((repeat(revert hN;revert N;apply Pn.out));refine wk (tw @jm (tw @oQ (tw @Int.le_refl (tw @pJ @gF)))) ?_;(repeat(refine Pn.mk ?_;intro N hN)))|((try apply Or.inl);refine⟨_,ae.x (F0) (sd (tw @jm (tw @oQ (tw @Int.le_refl (tw @pJ @gF))))),?_⟩;refine hN _ _ ?_;clear hN N)))
 refine aP (fun n env st=>∃i:Nat,n=((leads cnt L).length)-i/\i<=((leads cnt L).length)/\env 27=.int .i64 (i:Int)/\st.get ⟨153002001,n0+1+1⟩=some ⟨true,1,dv (cz cnt L i 0) cnt⟩/\(n0+1+1<st.next)) ((leads cnt L).length) ⟨0,ab,ab,sl (tw @gF @pJ),sl (tw @gF @pJ),bt⟩ ?_
 rintro n_c env_c st_c ⟨i,rfl,cle,c27,cg0,cI0⟩ cfr
 have c1:=cfr 1 (by kernel_rfl);have c8:=cfr 8 (by kernel_rfl);have c9:=cfr 9 (by kernel_rfl);have uW:=cfr 25 (by kernel_rfl);have uX:=cfr 26 (by kernel_rfl)
 simp only[go_sem, ↓reduceIte,Nat.reduceEqDiff,Nat.reduceAdd,Nat.reduceSub,Nat.reduceLeDiff,reduceCtorEq,gF,pJ]at c1 c8 c9 uW uX
 clear cfr
 by_cases hi:(i:Int)<((leads cnt L).length:Int)
 ·have gJ:∀{e:Env} {gg:Rows} {nx:Nat},(e 27=.int .i64 (IntKind.i64.wrap ((i:Int)+1)))->(gg ⟨153002001,n0+1+1⟩=some ⟨true,1,dv (cz cnt L (i+1) 0) cnt⟩)->(n0+1+1<nx)->∃m0,m0<((leads cnt L).length)-i/\∃i:Nat,m0=((leads cnt L).length)-i/\i<=((leads cnt L).length)/\e 27=.int .i64 (i:Int)/\gg ⟨153002001,n0+1+1⟩=some ⟨true,1,dv (cz cnt L i 0) cnt⟩/\(n0+1+1<nx):=fun x1 x2 x3=>⟨_,ab,i+1,rfl,ab,(by rw[x1,ay ab]),x2,x3⟩
  have fN:i<(leads cnt L).length:=ab
  have oi:((fa cnt L).map yD)[i]? =some (yD (members cnt L (leads cnt L)[i])):=by simp[fa,fN]
  have sS:(leads cnt L).getD i 0=(leads cnt L)[i]:=by simp[List.getD_eq_getElem?_getD,fN]
  have yH:∀m,cz cnt L i m=fun x=>if bx L x<i then bx L x else if x∈(members cnt L (leads cnt L)[i]).take m then i else 0:=fun m=>by unfold cz;rw[sS]
  have oG:=fun x (hx:x<cnt)=>rG hL (n:=cnt) (k:=x) (i:=i) hx fN
  have kN:(members cnt L (leads cnt L)[i]).Nodup:=List.nodup_range.filter _
  have Hi:∀x∈members cnt L (leads cnt L)[i],x<cnt:=fun x hx=>(k6.1 hx).1
  have hMc:(members cnt L (leads cnt L)[i]).length<=cnt:=by
   have:=List.length_filter_le (fun k=>L k==(leads cnt L)[i]) (List.range cnt)
   simpa[members]using this
  generalize members cnt L (leads cnt L)[i]=M at *
  have AI:(M.map eN).length=M.length:=by simp
  (try((repeat(revert hN;revert N;apply Pn.out));refine wk (tw @c27 (tw @cg0 (tw @c1 (tw @c8 (tw @c9 (tw @uW (tw @uX (tw @hi (tw @pJ (tw @oi (tw @yD.eq_1 @AI))))))))))) ?_;(repeat(refine Pn.mk ?_;intro N hN))))
  refine aP (fun n env st=>∃m:Nat,n=(M.length)-m/\m<=(M.length)/\env 34=.int .i64 (m:Int)/\st.get ⟨153002001,n0+1+1⟩=some ⟨true,1,dv (cz cnt L i m) cnt⟩/\(n0+1+1<st.next)) (M.length) ⟨0,ab,ab,sl (tw @c27 (tw @cg0 (tw @c1 (tw @c8 (tw @c9 (tw @uW (tw @uX @AI))))))),sl (tw @c27 (tw @cg0 (tw @c1 (tw @c8 (tw @c9 (tw @uW (tw @uX @AI))))))),bt⟩ ?_
  rintro n_d env_d st_d ⟨m,rfl,dle,d34,dg0,dI0⟩ dfr
  have d1:=dfr 1 (by kernel_rfl);have d8:=dfr 8 (by kernel_rfl);have d9:=dfr 9 (by kernel_rfl);have d10:=dfr 10 (by kernel_rfl);have d25:=dfr 25 (by kernel_rfl);have d26:=dfr 26 (by kernel_rfl);have d27:=dfr 27 (by kernel_rfl);have d32:=dfr 32 (by kernel_rfl);have d33:=dfr 33 (by kernel_rfl)
  simp only[go_sem, ↓reduceIte,Nat.reduceEqDiff,Nat.reduceAdd,Nat.reduceSub,Nat.reduceLeDiff,reduceCtorEq,c27,cg0,c1,c8,c9,uW,uX,AI]at d1 d8 d9 d10 d25 d26 d27 d32 d33
  clear dfr
  have tl:=fJ (cz cnt L i m) cnt
  by_cases hm:(m:Int)<(M.length:Int)
  ·have si:∀{e:Env} {gg:Rows} {nx:Nat},(e 34=.int .i64 (IntKind.i64.wrap ((m:Int)+1)))->(gg ⟨153002001,n0+1+1⟩=some ⟨true,1,dv (cz cnt L i (m+1)) cnt⟩)->(n0+1+1<nx)->∃m0,m0<(M.length)-m/\∃m:Nat,m0=(M.length)-m/\m<=(M.length)/\e 34=.int .i64 (m:Int)/\gg ⟨153002001,n0+1+1⟩=some ⟨true,1,dv (cz cnt L i m) cnt⟩/\(n0+1+1<nx):=fun x1 x2 x3=>⟨_,ab,m+1,rfl,ab,(by rw[x1,ay ab]),x2,x3⟩
   have xJ:m<M.length:=ab
   have tO:(M.map eN)[m]? =some (eN M[m]):=by simp[xJ]
   have tX:=Hi _ (List.getElem_mem xJ)
   have yK:(M[m]:Int)<(cnt:Int):=ab
   have AL:=eZ (f:=cz cnt L i m) tX
   have dP:(dv (cz cnt L i m) cnt).set M[m] (eN i)=dv (cz cnt L i (m+1)) cnt:=oA tX (by
    have h1:=(oG _ tX).1 (List.getElem_mem xJ)
    rw[yH]
    simp only[]
    rw[if_neg ab,if_pos (by rw[List.take_succ_eq_append_getElem xJ];exact List.mem_append_right _ (List.mem_singleton.2 rfl))]) fun x hx gW=>by
    rw[yH,yH]
    simp only[]
    rw[List.take_succ_eq_append_getElem xJ]
    simp only[List.mem_append,List.mem_singleton,gW,or_false]
   rw[eN]at dP AL
   generalize M[m]=xm at *
   (try((repeat(revert hN;revert N;apply Pn.out));refine wk (tw @d34 (tw @dg0 (tw @d1 (tw @d8 (tw @d9 (tw @d10 (tw @d25 (tw @d26 (tw @d27 (tw @d32 (tw @d33 (tw @hm (tw @hi (tw @tO (tw @AI (tw @yK (tw @AL (tw @tl (tw @dP @eN.eq_1))))))))))))))))))) ?_;(repeat(refine Pn.mk ?_;intro N hN))))
   refine si ?_ ?_ bt
   all_goals simp only[go_sem, ↓reduceIte,Nat.reduceEqDiff,Nat.reduceAdd,Nat.reduceSub,Nat.reduceLeDiff,reduceCtorEq,d34,dg0,d1,d8,d9,d10,d25,d26,d27,d32,d33,dP]
  ·have gw:m=M.length:=ab
   subst gw
   have tT:dv (cz cnt L i M.length) cnt=dv (cz cnt L (i+1) 0) cnt:=gD fun x hx=>by
    rw[yH,List.take_length]
    simp only[cz,List.take_zero,List.not_mem_nil,if_false]
    have h1:=oG x hx
    by_cases h2:bx L x<i
    ·rw[if_pos h2,if_pos ab]
    ·rw[if_neg h2]
     by_cases h3:x∈M
     ·rw[if_pos h3,if_pos (by have:=h1.1 h3;omega),h1.1 h3]
     ·rw[if_neg h3,if_neg fun h4=>h3 (h1.2 ab)]
   (try((repeat(revert hN;revert N;apply Pn.out));refine wk (tw @d34 (tw @dg0 (tw @d1 (tw @d8 (tw @d9 (tw @d10 (tw @d25 (tw @d26 (tw @d27 (tw @d32 (tw @d33 (tw @hm (tw @hi (tw @pJ @AI)))))))))))))) ?_;(repeat(refine Pn.mk ?_;intro N hN))))
   refine gJ ?_ ?_ bt
   all_goals simp only[go_sem, ↓reduceIte,Nat.reduceEqDiff,Nat.reduceAdd,Nat.reduceSub,Nat.reduceLeDiff,reduceCtorEq,c27,cg0,c1,c8,c9,uW,uX,d34,dg0,d1,d8,d9,d10,d25,d26,d27,d32,d33,tT]
 have oR:i=(leads cnt L).length:=ab
 subst oR
 have EF:dv (cz cnt L (leads cnt L).length 0) cnt=dv (bx L) cnt:=gD fun x hx=>by rw[cz,if_pos (jI hL hx)]
 rw[EF]at cg0
 have tl:=fJ (bx L) cnt
 (try((repeat(revert hN;revert N;apply Pn.out));refine wk (tw @c27 (tw @cg0 (tw @c1 (tw @c8 (tw @c9 (tw @uW (tw @uX (tw @hi @pJ)))))))) ?_;(repeat(refine Pn.mk ?_;intro N hN))))
 refine aP (fun n env st=>∃j:Nat,n=(0)-j/\j<=(0)/\env 46=.int .i64 (j:Int)/\env 14=.bK) (0) ⟨0,ab,ab,sl (tw @c27 (tw @cg0 (tw @c1 (tw @c8 (tw @c9 (tw @uW @uX)))))),sl (tw @c27 (tw @cg0 (tw @c1 (tw @c8 (tw @c9 (tw @uW @uX))))))⟩ ?_
 rintro n_f env_f st_f ⟨j,rfl,fle,f46,f14⟩ ffr
 have f8:=ffr 8 (by kernel_rfl);have f44:=ffr 44 (by kernel_rfl);have f45:=ffr 45 (by kernel_rfl)
 simp only[go_sem, ↓reduceIte,Nat.reduceEqDiff,Nat.reduceAdd,Nat.reduceSub,Nat.reduceLeDiff,reduceCtorEq,c27,cg0,c1,c8,c9,uW,uX]at f8 f44 f45
 clear ffr
 have hj:¬(j:Int)<((0:Nat):Int):=ab
 (try((repeat(revert hN;revert N;apply Pn.out));refine wk (tw @f46 (tw @f14 (tw @f8 (tw @f44 (tw @f45 (tw @hj @pJ)))))) ?_;(repeat(refine Pn.mk ?_;intro N hN))))
 refine jc (.inl rfl) (r1:=.int .i64 ((leads cnt L).length:Int)) (r2:=.bK) (sd @Nat.zero_add) (sd @Nat.zero_add) ?_
 simp only[eX,br,bV,eA,kb,Ol,Option.map_some]
theorem xh (cnt:Nat) (tR:1<=cnt) (hn:cnt<=1048576) (bs:List PB) (hb:∀b∈bs,b.a<cnt/\b.b<cnt) (pI:bs.length<=1048576) (t:Int):ae Tryz.prog 153 [.int .i64 cnt,yg bs,.int .i64 t] (.iL [.int .i64 (leads cnt (dS (aJ t bs))).length,yg (di (dS (aJ t bs)) bs)]):=by
 cases bs with
 |nil=>
  have h:=uZ cnt tR hn t
  have Ol:(leads cnt (dS (aJ t []))).length=cnt:=by
   show(leads cnt id).length=cnt
   rw[leads,List.filter_eq_self.2 (fun a _=>by simp)];simp
  rw[Ol]
  exact h
 |cons b r=>
  rw[yh (by simp)]
  exact u6 cnt tR hn (b::r) hb (by simp) pI t
end Go.Proofs.YtihgaadadaekmaaGreatDoor.V

namespace Go.Proofs.YtihgaadadaekmaaGreatDoor.V
open Go.RowKit
attribute [local irreducible] ea wpOps gR Call
attribute [local go_sem] aM fP eL gh ga cE upd cu K.av cL AV.cells AV.cell rowOf rowsOf part ld rowAt bY ck dI ef ig bL da ez gn e7 du ek cY cX dV dW bR bm cQ bQ cT cR ei eo ej cP bW cZ eh bP aQ cV cC ib bw cH bS aY dF bu dK AV.undef bF bH dY ee dU eb cF ew eD cw eu er cU cW List.getD_cons_zero List.getD_cons_succ List.getD_nil List.all_cons List.all_nil Bool.and_true Bool.true_and Bool.and_self Bool.not_true Bool.not_false Option.map_some Option.map_none Option.bind_some Option.bind_none List.length_cons List.length_nil List.take_succ_cons List.take_zero List.take_nil List.drop_succ_cons List.drop_zero List.drop_nil List.head?_cons List.map_cons List.map_nil List.getElem?_cons_zero List.getElem?_cons_succ List.cons_append List.nil_append List.append_nil List.length_map List.set_cons_zero List.set_cons_succ Nat.reduceMul eq_self Int.toNat_natCast Int.natCast_nonneg and_self true_and and_true decide_true decide_false Bool.false_eq_true Nat.zero_add Nat.add_zero List.contains_cons List.contains_nil Bool.or_false Bool.false_or beq_self_eq_true Nat.reduceBEq ne_eq not_true_eq_false not_false_eq_true Id.mk.injEq false_and and_false Nat.reduceLT Int.reduceLE Int.reduceLT Int.reduceToNat Int.reduceNeg Int.reduceAdd Nat.le_refl List.length_append beq_true beq_false Bool.not_eq_eq_eq_not or_false false_or dE ad aj aI bE cj aW bf aV bo cN bG
attribute [local go_sem] DM
section
attribute [-go_sem] dI
theorem Kp (n:Nat) (hn:n<=1048576):ae Tryz.prog 200 [.int .u64 1,.int .u64 n] (.iL [.int .u64 0,.int .u64 n]):=by
 refine ae.body dM rfl fun hl n0=>?_
 clear hl
 have b1:(BitVec.ofInt 64 (n:Int)&&& BitVec.ofInt 64 4294967295).toNat=n:=by
  rw[BitVec.toNat_and]
  have e1:(BitVec.ofInt 64 (n:Int)).toNat=n:=by rw[BitVec.toNat_ofInt];omega
  have e2:(BitVec.ofInt 64 4294967295).toNat=2 ^ 32-1:=by decide
  rw[e1,e2]
  exact Nat.and_two_pow_sub_one_of_lt_two_pow ab
 have zn:IntKind.u64.wrap (n:Int)=n:=by rw[IntKind.wrap_u64];omega
 have i1:dI .and .u64 (n:Int) 4294967295=some (.int .u64 n):=by
  show some (AV.int .u64 (IntKind.u64.wrap (((BitVec.ofInt 64 (n:Int)&&& BitVec.ofInt 64 4294967295).toNat:Nat):Int)))= _
  rw[b1,zn]
 have i2:dI .and .u64 1 4294967295=some (.int .u64 1):=rfl
 have i3:dI .and .u64 0 4294967295=some (.int .u64 0):=rfl
 have i4:dI .mul .u64 1 (n:Int)=some (.int .u64 n):=by simp only[dI,Int.one_mul,zn]
 have i5:dI .mul .u64 0 (n:Int)=some (.int .u64 0):=by simp only[dI,Int.zero_mul];rfl
 have i6:dI .mul .u64 1 0=some (.int .u64 0):=rfl
 have i7:dI .mul .u64 0 0=some (.int .u64 0):=rfl
 have i8:dI .add .u64 0 0=some (.int .u64 0):=rfl
 have a3:Int.fdiv 1 (2 ^ min 32 64)=0:=by decide
 have a4:Int.fdiv (n:Int) (2 ^ min 32 64)=0:=by
  rw[Int.fdiv_eq_ediv_of_nonneg _ (by decide)]
  have h32:(2:Int) ^ min 32 64=4294967296:=by decide
  exact Int.ediv_eq_zero_of_lt ab ab
 have z1:Int.fdiv 0 (2 ^ min 32 64)=0:=by decide
 (try((repeat(revert hN;revert N;apply Pn.out));refine wk (tw @i1 (tw @i2 (tw @i3 (tw @i4 (tw @i5 (tw @i6 (tw @i7 (tw @i8 (tw @a3 (tw @a4 @z1)))))))))) ?_;(repeat(refine Pn.mk ?_;intro N hN))))
 refine jc (.inl rfl) (r1:=.int .u64 0) (r2:=.int .u64 n) (sd @Nat.zero_add) (sd @Nat.zero_add) ?_
 simp only[eX,br,bV,eA,Option.map_some]
end
theorem Qm (n:Nat) (hn:n<=1048576):ae Tryz.prog 198 [.int .u64 1,.int .u64 n] (.iL [.int .u64 0,.int .u64 n]):=by
 refine ae.body dM rfl fun hl n0=>?_
 clear hl
 have h:=Kp n hn
 (repeat(first|((repeat(revert hN;revert N;apply Pn.out));refine wk @Nat.zero_add ?_;(repeat(refine Pn.mk ?_;intro N hN)))|((try apply Or.inl);refine⟨_,ae.x (h) (sd @Nat.zero_add),?_⟩;refine hN _ _ ?_;clear hN N)))
 refine jc (.inl rfl) (r1:=.int .u64 0) (r2:=.int .u64 n) (sd @Nat.zero_add) (sd @Nat.zero_add) ?_
 simp only[eX,br,bV,eA,Option.map_some]
theorem Ih (cnt:Nat) (tR:1<=cnt) (hn:cnt<=1048576) (v:Int) (x:Id) (σ:ax) (hx:σ.get x=some ⟨true,1,[[.int .i64 v]]⟩) (SY:x.cq<σ.next):
  Call Tryz.prog 195 [.own x 0 1,.int .i64 cnt] σ fun r σ'=>∃o:Id,r=.own o 0 cnt/\σ'.get o=some ⟨true,1,List.replicate cnt [.int .i64 v]⟩/\σ.next<=o.cq/\o.cq<σ'.next/\∀i:Id,i.cq<σ.next->σ'.get i=σ.get i:=by
 refine eW dM rfl fun hl=>?_
 clear hl
 have h:=Qm cnt hn
 have w1:IntKind.u64.wrap (cnt:Int)=cnt:=by rw[IntKind.wrap_u64];omega
 have w2:IntKind.i64.wrap (cnt:Int)=cnt:=IS ab
 have w0:IntKind.u64.wrap ((1:Nat):Int)=1:=by decide
 have g1:¬(cnt:Int)<0:=ab
 have g2:¬(9223372036854775807:Int)<cnt:=ab
 have jm:(0:Int)<=(cnt:Int):=ab
 have oQ:(cnt:Int)<=((16777216:Nat):Int):=ab
 have Oz:=eO SY
 have oI:(List.replicate cnt [AV.int .i64 0]).length=cnt:=List.length_replicate
 have m1:min 1 cnt=1:=ab
 (repeat(first|((repeat(revert hN;revert N;apply Pn.out));refine wk (tw @w0 (tw @w1 (tw @w2 (tw @g1 (tw @g2 (tw @jm (tw @oQ (tw @Int.le_refl (tw @Nat.le_refl (tw @hx (tw @Oz (tw @oI @m1)))))))))))) ?_;(repeat(refine Pn.mk ?_;intro N hN)))|((try apply Or.inl);refine⟨_,ae.x (h) (sd (tw @w0 (tw @w1 (tw @w2 (tw @g1 (tw @g2 (tw @jm (tw @oQ (tw @Int.le_refl (tw @Nat.le_refl (tw @hx (tw @Oz (tw @oI @m1))))))))))))),?_⟩;refine hN _ _ ?_;clear hN N)))
 refine aP (fun m env st=>∃k:Nat,m=cnt-k/\1<=k/\k<=cnt/\env 8=.int .i64 (k:Int)/\st.get ⟨195006002,σ.next+1+1+1+1⟩=some ⟨true,1,List.replicate k [.int .i64 v]++List.replicate (cnt-k) [.int .i64 0]⟩/\σ.next+4<st.next/\∀i:Id,i.cq<σ.next->st.get i=σ.get i) (cnt-1) ⟨1,rfl,Nat.le_refl _,tR,by(simp only[go_sem, ↓reduceIte,Nat.reduceEqDiff,Nat.reduceAdd,Nat.reduceSub,Nat.reduceLeDiff,reduceCtorEq,m1])<;>rfl,?_,bt,fun i hi=>?_⟩ ?_
 ·simp only[go_sem, ↓reduceIte,Nat.reduceEqDiff,Nat.reduceAdd,Nat.reduceSub,Nat.reduceLeDiff,reduceCtorEq]
  rw[List.drop_replicate];rfl
 ·have BO:=eO hi
  simp only[go_sem, ↓reduceIte,Nat.reduceEqDiff,Nat.reduceAdd,Nat.reduceSub,Nat.reduceLeDiff,reduceCtorEq,BO]
 rintro m env_b st_b ⟨k,rfl,r9,tP,b8,bg,bn,bfr⟩ bkp
 have b7:=bkp 7 (by kernel_rfl)
 simp only[go_sem, ↓reduceIte,Nat.reduceEqDiff,Nat.reduceAdd,Nat.reduceSub,Nat.reduceLeDiff,reduceCtorEq]at b7
 clear bkp
 have PX:(List.replicate k [AV.int .i64 v]++List.replicate (cnt-k) [AV.int .i64 0]).length=cnt:=by simp;omega
 by_cases hk:(k:Int)<(cnt:Int)
 ·have dX:k<cnt:=ab
  have kJ:(k:Int)<=(cnt:Int):=ab
  have hw:IntKind.i64.wrap ((k:Int)+((min k (cnt-k):Nat):Int))=((k+min k (cnt-k):Nat):Int):=by rw[aT ab];omega
  have om:List.take k (List.replicate k [AV.int .i64 v]++List.replicate (cnt-k) [AV.int .i64 0])=List.replicate k [AV.int .i64 v]:=List.take_left' (by simp)
  have dk:(List.replicate k [AV.int .i64 v]).all (fun c=>c.length==1&&c.all AV.cell)=true:=List.all_eq_true.2 fun c hc=>by rw[List.eq_of_mem_replicate hc];rfl
  have hlr:(List.replicate k [AV.int .i64 v]).length=k:=List.length_replicate
  have Ht:k+(cnt-k)=cnt:=ab
  have tV:List.replicate k [AV.int .i64 v]++List.take (min k (cnt-k)) (List.replicate k [AV.int .i64 v])++List.drop (k+min k (cnt-k)) (List.replicate k [AV.int .i64 v]++List.replicate (cnt-k) [AV.int .i64 0])=List.replicate (k+min k (cnt-k)) [AV.int .i64 v]++List.replicate (cnt-(k+min k (cnt-k))) [AV.int .i64 0]:=by
   rw[List.take_replicate,List.drop_append,List.drop_of_length_le (by simp),List.nil_append,hlr,List.drop_replicate,List.replicate_append_replicate]
   congr 2
   ·omega
   ·omega
  (try((repeat(revert hN;revert N;apply Pn.out));refine wk (tw @b7 (tw @b8 (tw @bg (tw @PX (tw @hk (tw @kJ (tw @tP (tw @hw (tw @dX (tw @Nat.sub_zero (tw @om (tw @dk (tw @hlr (tw @Ht (tw @Nat.le_refl @tV))))))))))))))) ?_;(repeat(refine Pn.mk ?_;intro N hN))))
  refine⟨_,?_,k+min k (cnt-k),rfl,ab,ab,sd @hw,sd @tV,bt,fun i hi=>?_⟩
  ·omega
  ·have BO:=eO hi
   have:=bfr i hi
   simp only[go_sem, ↓reduceIte,Nat.reduceEqDiff,Nat.reduceAdd,Nat.reduceSub,Nat.reduceLeDiff,reduceCtorEq,BO,this]
 ·have lu:k=cnt:=ab
  subst lu
  (try((repeat(revert hN;revert N;apply Pn.out));refine wk (tw @b7 (tw @b8 (tw @bg (tw @PX @hk)))) ?_;(repeat(refine Pn.mk ?_;intro N hN))))
  refine gm (.inl rfl) (vs:=[.own ⟨195006002,σ.next+1+1+1+1⟩ 0 k]) (sd @Nat.zero_add) ⟨⟨195006002,σ.next+1+1+1+1⟩,rfl,by simp only[go_sem, ↓reduceIte,Nat.reduceEqDiff,Nat.reduceAdd,Nat.reduceSub,Nat.reduceLeDiff,reduceCtorEq,bg];simp,bt,bt,fun i hi=>bfr i hi⟩
end Go.Proofs.YtihgaadadaekmaaGreatDoor.V

namespace Go.Proofs.YtihgaadadaekmaaGreatDoor.V
open Go.RowKit
attribute [local irreducible] ea wpOps gR Call
attribute [local go_sem] aM fP eL gh ga cE upd cu K.av cL AV.cells AV.cell rowOf rowsOf part ld rowAt bY ck dI ef ig bL da ez gn e7 du ek cY cX dV dW bR bm cQ bQ cT cR ei eo ej cP bW cZ eh bP aQ cV cC ib bw cH bS aY dF bu dK AV.undef bF bH dY ee dU eb cF ew eD cw eu er cU cW List.getD_cons_zero List.getD_cons_succ List.getD_nil List.all_cons List.all_nil Bool.and_true Bool.true_and Bool.and_self Bool.not_true Bool.not_false Option.map_some Option.map_none Option.bind_some Option.bind_none List.length_cons List.length_nil List.take_succ_cons List.take_zero List.take_nil List.drop_succ_cons List.drop_zero List.drop_nil List.head?_cons List.map_cons List.map_nil List.getElem?_cons_zero List.getElem?_cons_succ List.cons_append List.nil_append List.append_nil List.length_map List.set_cons_zero List.set_cons_succ Nat.reduceMul eq_self Int.toNat_natCast Int.natCast_nonneg and_self true_and and_true decide_true decide_false Bool.false_eq_true Nat.zero_add Nat.add_zero List.contains_cons List.contains_nil Bool.or_false Bool.false_or beq_self_eq_true Nat.reduceBEq ne_eq not_true_eq_false not_false_eq_true Id.mk.injEq false_and and_false Nat.reduceLT Int.reduceLE Int.reduceLT Int.reduceToNat Int.reduceNeg Int.reduceAdd Nat.le_refl List.length_append beq_true beq_false Bool.not_eq_eq_eq_not or_false false_or dE ad aj aI bE cj aW bf aV bo cN bG
def kB (R:Nat->Id) (n k:Nat):List (List AV):=(List.range k).map fun i=>[.own (R i) 0 n]
theorem jK (R:Nat->Id) (n k:Nat):(kB R n k).length=k:=by simp[kB]
theorem qJ {R:Nat->Id} {n k i:Nat} (h:i<k):(kB R n k)[i]? =some [.own (R i) 0 n]:=by simp[kB,h]
theorem rM (R:Nat->Id) (n k:Nat):kB R n (k+1)=kB R n k++[[.own (R k) 0 n]]:=by simp[kB,List.range_succ]
def vE (c:Nat->Nat->Int) (n:Nat):List (List AV):=(List.range n).map fun i=>[.sl (dJ (c i) n)]
theorem Ax {c:Nat->Nat->Int} {n i:Nat} (h:i<n):(vE c n)[i]? =some [.sl (dJ (c i) n)]:=by simp[vE,h]
theorem uI (c:Nat->Nat->Int) (n:Nat):(vE c n).length=n:=by simp[vE]
structure DY (X o1 o2:Id) (R1 R2:Nat->Id) (n nb:Nat):Prop where
 sx:X.site=174001001
 s1:o1.site=174004008
 s2:o2.site=174005008
 Rj:∀i,i<n->(R1 i).site=174004006
 Lx:∀i,i<n->(R2 i).site=174005006
 i1:∀i j,i<n->j<n->R1 i=R1 j->i=j
 i2:∀i j,i<n->j<n->R2 i=R2 j->i=j
 vx:X.cq<nb
 v1:o1.cq<nb
 v2:o2.cq<nb
 S9:∀i,i<n->(R1 i).cq<nb
 Qx:∀i,i<n->(R2 i).cq<nb
structure nf (g:Rows) (X o1 o2:Id) (R1 R2:Nat->Id) (n:Nat) (c f:Nat->Nat->Int):Prop where
 x:g X=some ⟨true,2,[[.own o1 0 n,.own o2 0 n]]⟩
 t1:g o1=some ⟨true,1,kB R1 n n⟩
 t2:g o2=some ⟨true,1,kB R2 n n⟩
 r1:∀i,i<n->g (R1 i)=some ⟨true,1,dJ (c i) n⟩
 r2:∀i,i<n->g (R2 i)=some ⟨true,1,dJ (f i) n⟩
theorem nv {f:Nat->Nat->Int} {a b:Nat} {d:Int} {n:Nat} (hb:b<n):(dJ (f a) n).set b (ar (f a b+d))=dJ (bump f a b d a) n:=kC hb (by simp[bump]) fun i _ hi=>by simp[bump,hi]
theorem jE {f:Nat->Nat->Int} {a b i:Nat} {d:Int} (h:i≠a):bump f a b d i=f i:=by funext v;simp[bump,h]
theorem nf.add {g g':Rows} {X o1 o2:Id} {R1 R2:Nat->Id} {n nb:Nat} {c f:Nat->Nat->Int} (I:DY X o1 o2 R1 R2 n nb) (h:nf g X o1 o2 R1 R2 n c f) (b:PB) (ha:b.a<n) (hb:b.b<n) (hA:b.a≠b.b->g' (R1 b.a)=some ⟨true,1,dJ (bump c b.a b.b b.s b.a) n⟩) (hB:g' (R1 b.b)=some ⟨true,1,dJ (mO c b b.b) n⟩) (hf:∀i:Id,i.cq<nb->(i=R1 b.a)=False->(i=R1 b.b)=False->g' i=g i):nf g' X o1 o2 R1 R2 n (mO c b) f:=by
 have ne:∀{i:Id} {s:Nat},i.site=s->(s==174004006)=false->∀a,a<n->(i=R1 a)=False:=fun {i s} hi hs a ha=>by
  simp only[eq_iff_iff,iff_false]
  rintro rfl
  rw[I.Rj a ha]at hi
  subst hi
  simp at hs
 refine⟨(hf _ I.vx (ne I.sx (by decide) _ ha) (ne I.sx (by decide) _ hb)).trans h.x,(hf _ I.v1 (ne I.s1 (by decide) _ ha) (ne I.s1 (by decide) _ hb)).trans h.t1,(hf _ I.v2 (ne I.s2 (by decide) _ ha) (ne I.s2 (by decide) _ hb)).trans h.t2,fun i hi=>?_,fun i hi=>(hf _ (I.Qx i hi) (ne (I.Lx i hi) (by decide) _ ha) (ne (I.Lx i hi) (by decide) _ hb)).trans (h.r2 i hi)⟩
 by_cases ED:i=b.b
 ·subst ED;exact hB
 ·by_cases MD:i=b.a
  ·subst MD
   rw[hA ED,mO,jE ED]
  ·rw[mO,jE ED,jE MD,hf _ (I.S9 i hi) (by simp only[eq_iff_iff,iff_false];exact fun he=>MD (I.i1 i _ hi ha he)) (by simp only[eq_iff_iff,iff_false];exact fun he=>ED (I.i1 i _ hi hb he))]
   exact h.r1 i hi
def kV (n:Nat) (c f:Nat->Nat->Int):List AV:=[.sl (vE c n),.sl (vE f n)]
theorem DL {g:Rows} {R:Nat->Id} {n k:Nat} {c:Nat->Nat->Int} (h:∀i,i<k->g (R i)=some ⟨true,1,dJ (c i) n⟩) (m:Nat):dz (dE g) (m+3) (kB R n k)=some ((List.range k).map fun i=>[.sl (dJ (c i) n)]):=by
 induction k with
 |zero=>rw[show kB R n 0=[]from rfl,dz];rfl
 |succ k ih=>
  have e1:V.fz (dE g) (m+3) (.own (R k) 0 n)=some (.sl (dJ (c k) n)):=by
   rw[fS];simp only[dE,h k ab,Option.map_some,if_true]
   rw[if_pos (by rw[dt];omega),List.drop_zero,List.take_of_length_le (by rw[dt];omega),ym];rfl
  have app:∀(xs ys:List (List AV)) (Rl QI:List (List AV)),dz (dE g) (m+3) xs=some Rl->dz (dE g) (m+3) ys=some QI->dz (dE g) (m+3) (xs++ys)=some (Rl++QI):=by
   intro xs
   induction xs with
   |nil=>intro ys Rl QI h1 h2;rw[dz]at h1;cases h1;exact h2
   |cons a xs ih2=>
    intro ys Rl QI h1 h2
    rw[dz]at h1
    rw[List.cons_append,dz]
    cases ha:cm (dE g) (m+3) a with
    |none=>simp[ha]at h1
    |some a'=>
     cases hb:dz (dE g) (m+3) xs with
     |none=>simp[ha,hb]at h1
     |some b'=>
      simp[ha,hb]at h1
      subst h1
      rw[ih2 ys b' QI hb h2];rfl
  rw[rM,List.range_succ,List.map_append]
  refine app _ _ _ _ (ih fun i hi=>h i ab) ?_
  rw[dz,ad,aj,e1,dz];rfl
theorem nf.fz {g:Rows} {X o1 o2:Id} {R1 R2:Nat->Id} {n:Nat} {c f:Nat->Nat->Int} (h:nf g X o1 o2 R1 R2 n c f):V.fz (dE g) 6 (.ptr X 0 0)=some (.cJ (kV n c f)):=by
 refine xu (sz:=2) (rows:=[[.own o1 0 n,.own o2 0 n]]) (by simp[dE,h.x]) rfl ?_
 have e1:V.fz (dE g) 5 (.own o1 0 n)=some (.sl (vE c n)):=by
  rw[fS];simp only[dE,h.t1,Option.map_some,if_true]
  rw[if_pos (by rw[jK];omega),List.drop_zero,List.take_of_length_le (by rw[jK];omega)]
  rw[show dz _ 4 _=some (vE c n)from DL h.r1 1];rfl
 have e2:V.fz (dE g) 5 (.own o2 0 n)=some (.sl (vE f n)):=by
  rw[fS];simp only[dE,h.t2,Option.map_some,if_true]
  rw[if_pos (by rw[jK];omega),List.drop_zero,List.take_of_length_le (by rw[jK];omega)]
  rw[show dz _ 4 _=some (vE f n)from DL h.r2 1];rfl
 simp only[List.drop_zero,ad,aj,e1,e2,kV,Option.map_some]
theorem Mg (n:Nat) (c f:Nat->Nat->Int) (u v:Nat) (hu:u<n) (hv:v<n):ae Tryz.prog 196 [.cJ (kV n c f),.int .i64 u,.int .i64 v] (.bool (decide (f u v<c u v))):=by
 refine ae.body dM rfl fun hl n0=>?_
 clear hl
 have h1:=Ax (c:=c) hu
 have h2:=Ax (c:=f) hu
 have h3:=dC (f:=c u) hv
 have h4:=dC (f:=f u) hv
 have hui:(u:Int)<(n:Int):=ab
 have BO:(v:Int)<(n:Int):=ab
 have l1:=uI c n
 have l2:=uI f n
 have l3:=dt (c u) n
 have l4:=dt (f u) n
 rw[ar]at h3 h4
 (try((repeat(revert hN;revert N;apply Pn.out));refine wk (tw @kV.eq_1 (tw @h1 (tw @h2 (tw @h3 (tw @h4 (tw @hui (tw @BO (tw @l1 (tw @l2 (tw @l3 @l4)))))))))) ?_;(repeat(refine Pn.mk ?_;intro N hN))))
 exact aC (b:=decide (f u v<c u v)) (.inl rfl) (sd @Nat.zero_add) rfl
theorem FG (n:Nat):List.replicate n [AV.int .i64 0]=dJ (fun _=>0) n:=by
 refine List.ext_getElem? fun i=>?_
 by_cases h:i<n
 ·rw[dC h,List.getElem?_replicate,if_pos h];rfl
 ·rw[List.getElem?_eq_none (by simp;omega),List.getElem?_eq_none (by rw[dt];omega)]
theorem yj {i j:Id} {s t:Nat} (hi:i.site=s) (hj:j.site=t) (h:(s==t)=false):(i=j)=False/\(j=i)=False:=by
 constructor<;>(simp only[eq_iff_iff,iff_false];rintro rfl;rw[hi]at hj;subst hj;simp at h)
theorem Ah (cnt:Nat) (tR:1<=cnt) (hn:cnt<=1048576) (bs:List PB) (hb:∀b∈bs,b.a<cnt/\b.b<cnt) (ev:∀b∈bs,0<=b.s/\b.s<=4) (pI:bs.length<=1048576) (σ:ax):
  Call Tryz.prog 174 [.int .i64 cnt,.sl (bs.map aA)] σ fun r σ'=>∃X o1 o2 R1 R2,r=.ptr X 0 0/\DY X o1 o2 R1 R2 cnt σ'.next/\σ.next<=σ'.next/\nf σ'.get X o1 o2 R1 R2 cnt (ku bs) (fun _ _=>0)/\∀i:Id,i.cq<σ.next->σ'.get i=σ.get i:=by
 refine eW dM rfl fun hl=>?_
 clear hl
 (try((repeat(revert hN;revert N;apply Pn.out));refine wk @Nat.zero_add ?_;(repeat(refine Pn.mk ?_;intro N hN))))
 obtain⟨X,hX⟩:∃X:Id,X=⟨174001001,σ.next+1⟩:=⟨_,rfl⟩
 obtain⟨R1,Pq⟩:∃R:Nat->Id,R=fun k=>⟨174004006,σ.next+3+4*k+1⟩:=⟨_,rfl⟩
 obtain⟨R2,Pr⟩:∃R:Nat->Id,R=fun k=>⟨174005006,σ.next+3+4*k+2⟩:=⟨_,rfl⟩
 have sX:X.site=174001001:=by rw[hX]
 have vX:X.cq=σ.next+1:=by rw[hX]
 have s1:∀k,(R1 k).site=174004006:=fun k=>by rw[Pq]
 have s2:∀k,(R2 k).site=174005006:=fun k=>by rw[Pr]
 have v1:∀k,(R1 k).cq=σ.next+3+4*k+1:=fun k=>by rw[Pq]
 have v2:∀k,(R2 k).cq=σ.next+3+4*k+2:=fun k=>by rw[Pr]
 have jm:(0:Int)<=(cnt:Int):=ab
 have oQ:(cnt:Int)<=((16777216:Nat):Int):=ab
 have hz:=FG cnt
 have t1:kB R1 cnt 0=[]:=rfl
 have t2:kB R2 cnt 0=[]:=rfl
 refine aP (fun n env st=>∃k:Nat,n=(cnt)-k/\k<=(cnt)/\env 11=.int .i64 (k:Int)/\env 5=(.ptr X 0 0)/\(st.next=σ.next+3+4*k/\(∀i:Id,i.cq<σ.next->st.get i=σ.get i)/\∀j,j<k->st.get (R1 j)=some ⟨true,1,dJ (fun _=>0) cnt⟩/\st.get (R2 j)=some ⟨true,1,dJ (fun _=>0) cnt⟩)/\((k=0/\st.get X=some ⟨true,2,[[.bK,.bK]]⟩)∨∃o1 o2:Id,o1.site=174004008/\o2.site=174005008/\o1.cq<st.next/\o2.cq<st.next/\σ.next<=o1.cq/\σ.next<=o2.cq/\st.get X=some ⟨true,2,[[.own o1 0 k,.own o2 0 k]]⟩/\st.get o1=some ⟨true,1,kB R1 cnt k⟩/\st.get o2=some ⟨true,1,kB R2 cnt k⟩)) (cnt) ⟨0,ab,ab,sl @hX,sl @hX,⟨rfl,fun i hi=>by(have BO:=eO hi);simp only[go_sem, ↓reduceIte,Nat.reduceEqDiff,Nat.reduceAdd,Nat.reduceSub,Nat.reduceLeDiff,reduceCtorEq,BO],fun j hj=>absurd hj (Nat.not_lt_zero j)⟩,.inl ⟨rfl,by rw[hX];simp only[go_sem, ↓reduceIte,Nat.reduceEqDiff,Nat.reduceAdd,Nat.reduceSub,Nat.reduceLeDiff,reduceCtorEq]⟩⟩ ?_
 rintro n_a env_a st_a ⟨k,rfl,ale,a11,a5,jW,aI1⟩ dm
 have a0:=dm 0 (by kernel_rfl);have a1:=dm 1 (by kernel_rfl);have AU:=dm 10 (by kernel_rfl)
 simp only[go_sem, ↓reduceIte,Nat.reduceEqDiff,Nat.reduceAdd,Nat.reduceSub,Nat.reduceLeDiff,reduceCtorEq,hX]at a0 a1 AU
 clear dm
 obtain⟨anx,dm,aR⟩:=jW
 have wX:=eO (i:=X) (n:=st_a.next) ab
 by_cases hk:(k:Int)<(cnt:Int)
 ·have bD:∀{e:Env} {gg:Rows} {nx:Nat},(e 11=.int .i64 (IntKind.i64.wrap ((k:Int)+1)))->(e 5=(.ptr X 0 0))->(nx=σ.next+3+4*(k+1)/\(∀i:Id,i.cq<σ.next->gg i=σ.get i)/\∀j,j<(k+1)->gg (R1 j)=some ⟨true,1,dJ (fun _=>0) cnt⟩/\gg (R2 j)=some ⟨true,1,dJ (fun _=>0) cnt⟩)->(((k+1)=0/\gg X=some ⟨true,2,[[.bK,.bK]]⟩)∨∃o1 o2:Id,o1.site=174004008/\o2.site=174005008/\o1.cq<nx/\o2.cq<nx/\σ.next<=o1.cq/\σ.next<=o2.cq/\gg X=some ⟨true,2,[[.own o1 0 (k+1),.own o2 0 (k+1)]]⟩/\gg o1=some ⟨true,1,kB R1 cnt (k+1)⟩/\gg o2=some ⟨true,1,kB R2 cnt (k+1)⟩)->∃m0,m0<(cnt)-k/\∃k:Nat,m0=(cnt)-k/\k<=(cnt)/\e 11=.int .i64 (k:Int)/\e 5=(.ptr X 0 0)/\(nx=σ.next+3+4*k/\(∀i:Id,i.cq<σ.next->gg i=σ.get i)/\∀j,j<k->gg (R1 j)=some ⟨true,1,dJ (fun _=>0) cnt⟩/\gg (R2 j)=some ⟨true,1,dJ (fun _=>0) cnt⟩)/\((k=0/\gg X=some ⟨true,2,[[.bK,.bK]]⟩)∨∃o1 o2:Id,o1.site=174004008/\o2.site=174005008/\o1.cq<nx/\o2.cq<nx/\σ.next<=o1.cq/\σ.next<=o2.cq/\gg X=some ⟨true,2,[[.own o1 0 k,.own o2 0 k]]⟩/\gg o1=some ⟨true,1,kB R1 cnt k⟩/\gg o2=some ⟨true,1,kB R2 cnt k⟩):=fun x1 x2 x3 x4=>⟨_,ab,k+1,rfl,ab,(by rw[x1,ay ab]),x2,x3,x4⟩
  have dX:k<cnt:=ab
  have r9:R1 k=⟨174004006,st_a.next+1⟩:=by rw[Pq,anx]
  have tP:R2 k=⟨174005006,st_a.next+1+1⟩:=by rw[Pr,anx]
  have xK:kB R1 cnt (k+1)=kB R1 cnt k++[[.own ⟨174004006,st_a.next+1⟩ 0 cnt]]:=by rw[rM,r9]
  have yG:kB R2 cnt (k+1)=kB R2 cnt k++[[.own ⟨174005006,st_a.next+1+1⟩ 0 cnt]]:=by rw[rM,tP]
  rcases aI1 with⟨rfl,ON⟩|⟨o1,o2,so1,so2,vo1,vo2,vn1,vn2,ON,ag1,ag2⟩
  ·(try((repeat(revert hN;revert N;apply Pn.out));refine wk (tw @a11 (tw @a5 (tw @a0 (tw @a1 (tw @AU (tw @hk (tw @wX (tw @ON (tw @jm (tw @oQ (tw @Int.le_refl @hz))))))))))) ?_;(repeat(refine Pn.mk ?_;intro N hN))))
   refine bD ?_ ?_ (by
    (try dsimp only)
    refine⟨ab,fun i hi=>?_,fun j hj=>?_⟩
    ·have q1:=eO (i:=i) (n:=st_a.next) ab
     have q2:=dr (a:=i) (b:=X) ab
     have:=dm i hi
     simp only[go_sem, ↓reduceIte,Nat.reduceEqDiff,Nat.reduceAdd,Nat.reduceSub,Nat.reduceLeDiff,reduceCtorEq,q1,q2,this]
    ·by_cases wh:j=0
     ·subst wh
      rw[r9,tP]
      have q1:=gx sX (b:=174004006) (v:=st_a.next+1) (by decide)
      have q2:=gx sX (b:=174005006) (v:=st_a.next+1+1) (by decide)
      simp only[go_sem, ↓reduceIte,Nat.reduceEqDiff,Nat.reduceAdd,Nat.reduceSub,Nat.reduceLeDiff,reduceCtorEq,q1,q2]
     ·obtain⟨r1,r2⟩:=aR j ab
      have q1:=eO (i:=R1 j) (n:=st_a.next) (by rw[v1];omega)
      have q2:=eO (i:=R2 j) (n:=st_a.next) (by rw[v2];omega)
      have q3:=yj (s1 j) sX (by decide)
      have q4:=yj (s2 j) sX (by decide)
      constructor
      ·simp only[go_sem, ↓reduceIte,Nat.reduceEqDiff,Nat.reduceAdd,Nat.reduceSub,Nat.reduceLeDiff,reduceCtorEq,q1,q3,r1]
      ·simp only[go_sem, ↓reduceIte,Nat.reduceEqDiff,Nat.reduceAdd,Nat.reduceSub,Nat.reduceLeDiff,reduceCtorEq,q2,q4,r2]) (.inr ⟨⟨174004008,st_a.next+1⟩,⟨174005008,st_a.next+1+1⟩,rfl,rfl,bt,bt,bt,bt,sd @wX,by rw[xK,t1];simp only[go_sem, ↓reduceIte,Nat.reduceEqDiff,Nat.reduceAdd,Nat.reduceSub,Nat.reduceLeDiff,reduceCtorEq,wX,List.nil_append],by rw[yG,t2];simp only[go_sem, ↓reduceIte,Nat.reduceEqDiff,Nat.reduceAdd,Nat.reduceSub,Nat.reduceLeDiff,reduceCtorEq,wX,List.nil_append]⟩)
   all_goals simp only[go_sem, ↓reduceIte,Nat.reduceEqDiff,Nat.reduceAdd,Nat.reduceSub,Nat.reduceLeDiff,reduceCtorEq,a11,a5,a0,a1,AU,wX]
  ·have l1:=jK R1 cnt k
   have l2:=jK R2 cnt k
   have e1:k+1<=16777216:=ab
   have w1:=eO vo1
   have w2:=eO vo2
   have x1:=yj sX so1 (by decide)
   have x2:=yj sX so2 (by decide)
   have x3:=yj so1 so2 (by decide)
   (try((repeat(revert hN;revert N;apply Pn.out));refine wk (tw @a11 (tw @a5 (tw @a0 (tw @a1 (tw @AU (tw @hk (tw @wX (tw @ON (tw @ag1 (tw @ag2 (tw @l1 (tw @l2 (tw @e1 (tw @w1 (tw @w2 (tw @x1 (tw @x2 (tw @x3 (tw @jm (tw @oQ (tw @Int.le_refl @hz))))))))))))))))))))) ?_;(repeat(refine Pn.mk ?_;intro N hN))))
   refine bD ?_ ?_ (by
    (try dsimp only)
    refine⟨ab,fun i hi=>?_,fun j hj=>?_⟩
    ·have q1:=eO (i:=i) (n:=st_a.next) ab
     have q2:=dr (a:=i) (b:=X) ab
     have q3:=dr (a:=i) (b:=o1) ab
     have q4:=dr (a:=i) (b:=o2) ab
     have:=dm i hi
     simp only[go_sem, ↓reduceIte,Nat.reduceEqDiff,Nat.reduceAdd,Nat.reduceSub,Nat.reduceLeDiff,reduceCtorEq,q1,q2,this,q3,q4]
    ·by_cases wh:j=k
     ·subst wh
      rw[r9,tP]
      have q1:=gx sX (b:=174004006) (v:=st_a.next+1) (by decide)
      have q2:=gx sX (b:=174005006) (v:=st_a.next+1+1) (by decide)
      simp only[go_sem, ↓reduceIte,Nat.reduceEqDiff,Nat.reduceAdd,Nat.reduceSub,Nat.reduceLeDiff,reduceCtorEq,q1,q2,w1,w2]
     ·obtain⟨r1,r2⟩:=aR j ab
      have q1:=eO (i:=R1 j) (n:=st_a.next) (by rw[v1];omega)
      have q2:=eO (i:=R2 j) (n:=st_a.next) (by rw[v2];omega)
      have q3:=yj (s1 j) sX (by decide)
      have q4:=yj (s2 j) sX (by decide)
      have q5:=yj (s1 j) so1 (by decide)
      have q6:=yj (s1 j) so2 (by decide)
      have q7:=yj (s2 j) so1 (by decide)
      have q8:=yj (s2 j) so2 (by decide)
      constructor
      ·simp only[go_sem, ↓reduceIte,Nat.reduceEqDiff,Nat.reduceAdd,Nat.reduceSub,Nat.reduceLeDiff,reduceCtorEq,q1,q3,r1,q5,q6]
      ·simp only[go_sem, ↓reduceIte,Nat.reduceEqDiff,Nat.reduceAdd,Nat.reduceSub,Nat.reduceLeDiff,reduceCtorEq,q2,q4,r2,q7,q8]) (.inr ⟨⟨174004008,st_a.next+1⟩,⟨174005008,st_a.next+1+1⟩,rfl,rfl,bt,bt,bt,bt,sd @wX,by rw[xK];simp only[go_sem, ↓reduceIte,Nat.reduceEqDiff,Nat.reduceAdd,Nat.reduceSub,Nat.reduceLeDiff,reduceCtorEq,wX,w1,w2],by rw[yG];simp only[go_sem, ↓reduceIte,Nat.reduceEqDiff,Nat.reduceAdd,Nat.reduceSub,Nat.reduceLeDiff,reduceCtorEq,wX,w1,w2]⟩)
   all_goals simp only[go_sem, ↓reduceIte,Nat.reduceEqDiff,Nat.reduceAdd,Nat.reduceSub,Nat.reduceLeDiff,reduceCtorEq,a11,a5,a0,a1,AU,wX,w1,w2,x1,x2,x3]
 have lu:cnt=k:=ab
 subst lu
 rcases aI1 with⟨h0,_⟩|⟨o1,o2,so1,so2,vo1,vo2,vn1,vn2,ON,ag1,ag2⟩
 ·omega
 (try((repeat(revert hN;revert N;apply Pn.out));refine wk (tw @a11 (tw @a5 (tw @a0 (tw @a1 (tw @AU @hk))))) ?_;(repeat(refine Pn.mk ?_;intro N hN))))
 have I:DY X o1 o2 R1 R2 cnt st_a.next:=⟨sX,so1,so2,fun i _=>s1 i,fun i _=>s2 i,fun i j _ _ h=>by have:=v1 i;rw[h,v1]at this;omega,fun i j _ _ h=>by have:=v2 i;rw[h,v2]at this;omega,ab,vo1,vo2,fun i hi=>by rw[v1];omega,fun i hi=>by rw[v2];omega⟩
 refine aP (fun n env st=>∃i:Nat,n=(bs.length)-i/\i<=(bs.length)/\env 38=.int .i64 (i:Int)/\(st_a.next<=st.next/\(∀x:Id,x.cq<σ.next->st.get x=σ.get x)/\nf st.get X o1 o2 R1 R2 cnt (ku (bs.take i)) (fun _ _=>0))) (bs.length) ⟨0,ab,ab,sl (tw @a11 (tw @a5 (tw @a0 (tw @a1 @AU)))),⟨bt,dm,ON,ag1,ag2,fun j hj=>(aR j hj).1,fun j hj=>(aR j hj).2⟩⟩ ?_
 rintro n_b env_b st_b ⟨i,rfl,ble,b38,bI0⟩ bfr
 have b0:=bfr 0 (by kernel_rfl);have b1:=bfr 1 (by kernel_rfl);have b5:=bfr 5 (by kernel_rfl);have N7:=bfr 36 (by kernel_rfl);have N8:=bfr 37 (by kernel_rfl)
 simp only[go_sem, ↓reduceIte,Nat.reduceEqDiff,Nat.reduceAdd,Nat.reduceSub,Nat.reduceLeDiff,reduceCtorEq,a11,a5,a0,a1,AU]at b0 b1 b5 N7 N8
 clear bfr
 obtain⟨bn,LR,bM⟩:=bI0
 by_cases hi:(i:Int)<(bs.length:Int)
 ·have jo:∀{e:Env} {gg:Rows} {nx:Nat},(e 38=.int .i64 (IntKind.i64.wrap ((i:Int)+1)))->(st_a.next<=nx/\(∀x:Id,x.cq<σ.next->gg x=σ.get x)/\nf gg X o1 o2 R1 R2 cnt (ku (bs.take (i+1))) (fun _ _=>0))->∃m0,m0<(bs.length)-i/\∃i:Nat,m0=(bs.length)-i/\i<=(bs.length)/\e 38=.int .i64 (i:Int)/\(st_a.next<=nx/\(∀x:Id,x.cq<σ.next->gg x=σ.get x)/\nf gg X o1 o2 R1 R2 cnt (ku (bs.take i)) (fun _ _=>0)):=fun x1 x2=>⟨_,ab,i+1,rfl,ab,(by rw[x1,ay ab]),x2⟩
  have fN:i<bs.length:=ab
  have oi:(bs.map aA)[i]? =some (aA bs[i]):=by simp[fN]
  have fB:=hb _ (List.getElem_mem fN)
  have hsi:=ev _ (List.getElem_mem fN)
  have rr:ku (bs.take (i+1))=mO (ku (bs.take i)) bs[i]:=by rw[List.take_succ_eq_append_getElem fN,Cn]
  have jx:=yc (bs.take i) (fun _ _=>0) (fun b hb=>(ev b (List.mem_of_mem_take hb)).1) (fun _ _=>Int.le_refl _)
  have hle:=room_le (bs.take i) (fun _ _=>0) 0 (fun b hb=>(ev b (List.mem_of_mem_take hb)).2) (fun _ _=>Int.le_refl _) (Int.le_refl _)
  rw[List.length_take]at hle
  have fA:(bs.take i).foldl mO (fun _ _=>0)=ku (bs.take i):=rfl
  rw[fA]at jx hle
  generalize ku (bs.take i)=c at *
  generalize bs[i]=b at *
  obtain⟨ha,rm⟩:=fB
  have gA:=qJ (R:=R1) (n:=cnt) ha
  have gB:=qJ (R:=R1) (n:=cnt) rm
  have rA:=bM.r1 _ ha
  have rB:=bM.r1 _ rm
  have cA:=dC (f:=c b.a) rm
  have cB:=dC (f:=c b.b) ha
  have sA:=nv (f:=c) (a:=b.a) (d:=b.s) rm
  have gX:=bM.x
  have g1:=bM.t1
  have gi:(b.a:Int)<(cnt:Int):=ab
  have fB:(b.b:Int)<(cnt:Int):=ab
  have qX:=eO (i:=X) (n:=st_b.next) ab
  have q1:=eO (i:=o1) (n:=st_b.next) ab
  have qA:=eO (i:=R1 b.a) (n:=st_b.next) (by rw[v1];omega)
  have qB:=eO (i:=R1 b.b) (n:=st_b.next) (by rw[v1];omega)
  have xA:=yj sX (s1 b.a) (by decide)
  have xB:=yj sX (s1 b.b) (by decide)
  have yA:=yj so1 (s1 b.a) (by decide)
  have yB:=yj so1 (s1 b.b) (by decide)
  have l1:=jK R1 cnt cnt
  have lA:=dt (c b.a) cnt
  have lB:=dt (c b.b) cnt
  have hAB:=hle b.a b.b
  have hBA:=hle b.b b.a
  have gAB:=jx b.a b.b
  have gBA:=jx b.b b.a
  have wA:IntKind.i64.wrap (c b.a b.b+b.s)=c b.a b.b+b.s:=aT ab
  by_cases r8:b.a=b.b
  ·obtain⟨ba,bb,s⟩:=b
   dsimp only at *
   subst r8
   have MU:=nv (f:=bump c ba ba s) (a:=ba) (b:=ba) (d:=s) (n:=cnt) ha
   have R8:=dC (f:=bump c ba ba s ba) ha
   have hv:bump c ba ba s ba ba=c ba ba+s:=by simp[bump]
   have lC:=dt (bump c ba ba s ba) cnt
   have wB:IntKind.i64.wrap (c ba ba+s+s)=c ba ba+s+s:=aT ab
   rw[hv]at MU R8
   have rn:mO c ⟨ba,ba,s⟩ ba=bump (bump c ba ba s) ba ba s ba:=rfl
   rw[ar]at cA sA MU R8
   (try((repeat(revert hN;revert N;apply Pn.out));refine wk (tw @b38 (tw @b0 (tw @b1 (tw @b5 (tw @N7 (tw @N8 (tw @hi (tw @oi (tw @aA.eq_1 (tw @gA (tw @rA (tw @cA (tw @sA (tw @gX (tw @g1 (tw @gi (tw @qX (tw @q1 (tw @qA (tw @xA (tw @yA (tw @l1 (tw @lA (tw @wA (tw @MU (tw @R8 (tw @lC @wB))))))))))))))))))))))))))) ?_;(repeat(refine Pn.mk ?_;intro N hN))))
   exact jo (sd (tw @b38 (tw @b0 (tw @b1 (tw @b5 (tw @N7 @N8)))))) (by
    (try dsimp only)
    refine⟨ab,fun x hx=>?_,?_⟩
    ·have p1:=eO (i:=x) (n:=st_b.next) ab
     have p2:=dr (a:=x) (b:=R1 ba) (by rw[v1];omega)
     have:=LR x hx
     simp only[go_sem, ↓reduceIte,Nat.reduceEqDiff,Nat.reduceAdd,Nat.reduceSub,Nat.reduceLeDiff,reduceCtorEq,p1,p2,this]
    ·rw[rr]
     refine bM.add I ⟨ba,ba,s⟩ ha ha (fun h=>absurd rfl h) ?_ fun x hx h1 h2=>?_
     ·rw[rn]
      simp only[go_sem, ↓reduceIte,Nat.reduceEqDiff,Nat.reduceAdd,Nat.reduceSub,Nat.reduceLeDiff,reduceCtorEq]
     ·have p1:=eO (i:=x) (n:=st_b.next) ab
      (try dsimp only at h2)
      simp only[go_sem, ↓reduceIte,Nat.reduceEqDiff,Nat.reduceAdd,Nat.reduceSub,Nat.reduceLeDiff,reduceCtorEq,p1,h2])
  ·have gW:(R1 b.a=R1 b.b)=False:=by simp only[eq_iff_iff,iff_false];exact fun h=>r8 (I.i1 _ _ ha rm h)
   have Hj:(R1 b.b=R1 b.a)=False:=by simp only[eq_iff_iff,iff_false];exact fun h=>r8 (I.i1 _ _ ha rm h.symm)
   have MJ:bump c b.a b.b b.s b.b=c b.b:=jE fun h=>r8 h.symm
   have MU:=nv (f:=bump c b.a b.b b.s) (a:=b.b) (b:=b.a) (d:=b.s) (n:=cnt) ha
   rw[MJ]at MU
   have wB:IntKind.i64.wrap (c b.b b.a+b.s)=c b.b b.a+b.s:=aT ab
   have rn:mO c b b.b=bump (bump c b.a b.b b.s) b.b b.a b.s b.b:=rfl
   rw[ar]at cA cB sA MU
   (try((repeat(revert hN;revert N;apply Pn.out));refine wk (tw @b38 (tw @b0 (tw @b1 (tw @b5 (tw @N7 (tw @N8 (tw @hi (tw @oi (tw @aA.eq_1 (tw @gA (tw @gB (tw @rA (tw @rB (tw @cA (tw @cB (tw @sA (tw @gX (tw @g1 (tw @gi (tw @fB (tw @qX (tw @q1 (tw @qA (tw @qB (tw @xA (tw @xB (tw @yA (tw @yB (tw @l1 (tw @lA (tw @lB (tw @wA (tw @MU (tw @wB (tw @gW @Hj))))))))))))))))))))))))))))))))))) ?_;(repeat(refine Pn.mk ?_;intro N hN))))
   exact jo (sd (tw @b38 (tw @b0 (tw @b1 (tw @b5 (tw @N7 @N8)))))) (by
    (try dsimp only)
    refine⟨ab,fun x hx=>?_,?_⟩
    ·have p1:=eO (i:=x) (n:=st_b.next) ab
     have p2:=dr (a:=x) (b:=R1 b.b) (by rw[v1];omega)
     have p3:=dr (a:=x) (b:=R1 b.a) (by rw[v1];omega)
     have:=LR x hx
     simp only[go_sem, ↓reduceIte,Nat.reduceEqDiff,Nat.reduceAdd,Nat.reduceSub,Nat.reduceLeDiff,reduceCtorEq,p1,p2,p3,this]
    ·rw[rr]
     refine bM.add I b ha rm (fun h=>?_) ?_ fun x hx h1 h2=>?_
     ·simp only[go_sem, ↓reduceIte,Nat.reduceEqDiff,Nat.reduceAdd,Nat.reduceSub,Nat.reduceLeDiff,reduceCtorEq,gW]
     ·rw[rn]
      simp only[go_sem, ↓reduceIte,Nat.reduceEqDiff,Nat.reduceAdd,Nat.reduceSub,Nat.reduceLeDiff,reduceCtorEq,gW]
     ·have p1:=eO (i:=x) (n:=st_b.next) ab
      simp only[go_sem, ↓reduceIte,Nat.reduceEqDiff,Nat.reduceAdd,Nat.reduceSub,Nat.reduceLeDiff,reduceCtorEq,p1,h1,h2])
 ·have oR:i=bs.length:=ab
  subst oR
  rw[List.take_length]at bM
  (try((repeat(revert hN;revert N;apply Pn.out));refine wk (tw @b38 (tw @b0 (tw @b1 (tw @b5 (tw @N7 (tw @N8 @hi)))))) ?_;(repeat(refine Pn.mk ?_;intro N hN))))
  exact gm (.inl rfl) (vs:=[.ptr X 0 0]) (sd @Nat.zero_add) ⟨X,o1,o2,R1,R2,rfl,⟨I.sx,I.s1,I.s2,I.Rj,I.Lx,I.i1,I.i2,by have:=I.vx;(try dsimp only);omega,by have:=I.v1;(try dsimp only);omega,by have:=I.v2;(try dsimp only);omega,fun j hj=>by have:=I.S9 j hj;(try dsimp only);omega,fun j hj=>by have:=I.Qx j hj;(try dsimp only);omega⟩,bt,bM,LR⟩
end Go.Proofs.YtihgaadadaekmaaGreatDoor.V

namespace Go.Proofs.YtihgaadadaekmaaGreatDoor.V
structure Bq (n:Nat) (c f:Nat->Nat->Int) (x:Nat) (par:Nat->Int) (Q:List Nat) (i:Nat):Prop where
 nodup:Q.Nodup
 lt:∀v∈Q,v<n
 root:par x=(x:Int)
 mem:x∈Q
 iff:∀v,v<n->(0<=par v↔v∈Q)
 up:∀v∈Q,v≠x->∃u,u∈Q/\par v=(u:Int)/\Q.idxOf u<Q.idxOf v/\f u v<c u v
 done:∀j (_:j<i) (hl:j<Q.length) (v:Nat),v<n->f Q[j] v<c Q[j] v->v∈Q
 ile:i<=Q.length
section
variable {n:Nat} {c f:Nat->Nat->Int} {x:Nat} {par:Nat->Int} {Q:List Nat} {i:Nat}
theorem Bq.len (h:Bq n c f x par Q i):Q.length<=n:=nN n Q h.nodup h.lt
theorem Bq.start (hx:x<n):Bq n c f x (fun v=>if v=x then(x:Int)else -1) [x] 0:=by
 refine⟨by simp,fun v hv=>by simp at hv;omega,by simp,by simp,fun v hv=>?_,fun v hv gW=>absurd (by simpa using hv) gW,fun j hj=>ab,by simp⟩
 by_cases h:v=x
 ·simp[h]
 ·simp[h]
theorem Bq.visit (h:Bq n c f x par Q i) (hi:i<Q.length) {v:Nat} (hv:v<n) (hp:par v<0) (hr:f Q[i] v<c Q[i] v):Bq n c f x (fun w=>if w=v then(Q[i]:Int)else par w) (Q++[v]) i:=by
 have SP:v∉Q:=fun hm=>by have:=(h.iff v hv).2 hm;omega
 have SY:x≠v:=fun e=>SP (e▸h.mem)
 have xH:∀u∈Q,(Q++[v]).idxOf u=Q.idxOf u:=fun u hu=>by rw[List.idxOf_append,if_pos hu]
 have tQ:(Q++[v]).idxOf v=Q.length:=by rw[List.idxOf_append,if_neg SP];simp
 refine⟨?_,fun w hw=>?_,by simp only[if_neg SY];exact h.root,by simp[h.mem],fun w hw=>?_,fun w hw gW=>?_,fun j hj hl w hw Ho=>?_,by simp;omega⟩
 ·refine List.nodup_append.2 ⟨h.nodup,by simp,fun a ha b hb=>?_⟩
  rw[List.mem_singleton.1 hb]
  rintro rfl;exact SP ha
 ·rcases List.mem_append.1 hw with hw|hw
  ·exact h.lt w hw
  ·rw[List.mem_singleton.1 hw];exact hv
 ·by_cases Dm:w=v
  ·subst Dm;simp
  ·rw[if_neg Dm,h.iff w hw];simp[Dm]
 ·by_cases Dm:w=v
  ·subst Dm
   refine⟨Q[i],by simp,by simp,?_,hr⟩
   rw[xH _ (List.getElem_mem hi),tQ]
   exact List.idxOf_lt_length_of_mem (List.getElem_mem hi)
  ·have hwQ:w∈Q:=by
    rcases List.mem_append.1 hw with hw|hw
    ·exact hw
    ·exact absurd (List.mem_singleton.1 hw) Dm
   obtain⟨u,h1,h2,h3,h4⟩:=h.up w hwQ gW
   exact⟨u,by simp[h1],by rw[if_neg Dm];exact h2,by rw[xH u h1,xH w hwQ];exact h3,h4⟩
 ·have gL:j<Q.length:=by have:=h.ile;omega
  rw[List.getElem_append_left gL]at Ho
  exact List.mem_append_left _ (h.done j hj gL w hw Ho)
theorem Bq.next (h:Bq n c f x par Q i) (hi:i<Q.length) (dk:∀v,v<n->f Q[i] v<c Q[i] v->0<=par v):Bq n c f x par Q (i+1):=by
 refine⟨h.nodup,h.lt,h.root,h.mem,h.iff,h.up,fun j hj hl v hv hr=>?_,ab⟩
 by_cases lU:j=i
 ·subst lU;exact(h.iff v hv).1 (dk v hv hr)
 ·exact h.done j ab hl v hv hr
theorem Bq.cut (h:Bq n c f x par Q Q.length) {y:Nat} (hy:y<n) (hp:par y<0):∃S:Nat->Bool,S x=true/\S y=false/\∀u v,u<n->v<n->S u=true->S v=false->¬f u v<c u v:=by
 refine⟨fun v=>decide (v∈Q),by simp[h.mem],?_,fun u v hu hv h1 h2 hr=>?_⟩
 ·have:y∉Q:=fun hm=>by have:=(h.iff y hy).2 hm;omega
  simp[this]
 ·simp only[decide_eq_true_eq,decide_eq_false_iff_not]at h1 h2
  obtain⟨j,hj,rfl⟩:=List.getElem_of_mem h1
  exact h2 (h.done j hj hj v hv hr)
def s9 (c f:Nat->Nat->Int) (Q:List Nat) (y k:Nat) (out:List Nat):Prop:=∃rest,out.reverse=k::rest/\(k::rest).getLast (by simp)=y/\pO f c (k::rest)/\(k::rest).Pairwise (fun a b=>Q.idxOf a<Q.idxOf b)/\∀v∈k::rest,v∈Q
theorem s9.start {y:Nat} (hy:y∈Q):s9 c f Q y y [y]:=⟨[],rfl,rfl,trivial,by simp,by simpa using hy⟩
theorem s9.step {y k u:Nat} {out:List Nat} (h:s9 c f Q y k out) (hu:u∈Q) (hi:Q.idxOf u<Q.idxOf k) (hr:f u k<c u k):s9 c f Q y u (out++[u]):=by
 obtain⟨rest,h1,h2,h3,h4,h5⟩:=h
 refine⟨k::rest,by rw[List.reverse_append,h1];rfl,by rw[List.getLast_cons (by simp)];exact h2,⟨hr,h3⟩,?_,?_⟩
 ·refine List.pairwise_cons.2 ⟨fun b hb=>?_,h4⟩
  rcases List.mem_cons.1 hb with rfl|hb
  ·exact hi
  ·have:=(List.pairwise_cons.1 h4).1 b hb;omega
 ·intro v hv
  rcases List.mem_cons.1 hv with rfl|hv
  ·exact hu
  ·exact h5 v hv
theorem s9.len {y k:Nat} {out:List Nat} (h:s9 c f Q y k out) (hq:∀v∈Q,v<n):out.length<=n:=by
 obtain⟨rest,h1,_,_,h4,h5⟩:=h
 rw[<-List.length_reverse,h1]
 refine nN n _ (h4.imp fun dD he=>?_) fun v hv=>hq v (h5 v hv)
 subst he;omega
structure OM (n:Nat) (c f:Nat->Nat->Int) (x y:Nat) (p:List Nat):Prop where
 way:∃r,p=x::r/\(x::r).getLast (by simp)=y
 nodup:p.Nodup
 room:pO f c p
 lt:∀v∈p,v<n
theorem s9.way {y:Nat} {out:List Nat} (h:s9 c f Q y x out) (hq:∀v∈Q,v<n):OM n c f x y out.reverse:=by
 obtain⟨rest,h1,h2,h3,h4,h5⟩:=h
 rw[h1]
 exact⟨⟨rest,rfl,h2⟩,h4.imp fun dD he=>by subst he;omega,h3,fun v hv=>hq v (h5 v hv)⟩
end
end Go.Proofs.YtihgaadadaekmaaGreatDoor.V

namespace Go.Proofs.YtihgaadadaekmaaGreatDoor.V
open Go.RowKit
attribute [local irreducible] ea wpOps gR Call
attribute [local go_sem] aM fP eL gh ga cE upd cu K.av cL AV.cells AV.cell rowOf rowsOf part ld rowAt bY ck dI ef ig bL da ez gn e7 du ek cY cX dV dW bR bm cQ bQ cT cR ei eo ej cP bW cZ eh bP aQ cV cC ib bw cH bS aY dF bu dK AV.undef bF bH dY ee dU eb cF ew eD cw eu er cU cW List.getD_cons_zero List.getD_cons_succ List.getD_nil List.all_cons List.all_nil Bool.and_true Bool.true_and Bool.and_self Bool.not_true Bool.not_false Option.map_some Option.map_none Option.bind_some Option.bind_none List.length_cons List.length_nil List.take_succ_cons List.take_zero List.take_nil List.drop_succ_cons List.drop_zero List.drop_nil List.head?_cons List.map_cons List.map_nil List.getElem?_cons_zero List.getElem?_cons_succ List.cons_append List.nil_append List.append_nil List.length_map List.set_cons_zero List.set_cons_succ Nat.reduceMul eq_self Int.toNat_natCast Int.natCast_nonneg and_self true_and and_true decide_true decide_false Bool.false_eq_true Nat.zero_add Nat.add_zero List.contains_cons List.contains_nil Bool.or_false Bool.false_or beq_self_eq_true Nat.reduceBEq ne_eq not_true_eq_false not_false_eq_true Id.mk.injEq false_and and_false Nat.reduceLT Int.reduceLE Int.reduceLT Int.reduceToNat Int.reduceNeg Int.reduceAdd Nat.le_refl List.length_append beq_true beq_false Bool.not_eq_eq_eq_not or_false false_or dE ad aj aI bE cj aW bf aV bo cN bG
def lk (l:List Nat) (i x:Nat):Nat:=if x<i∨l.length-i<=x then l.getD (l.length-1-x) 0 else l.getD x 0
theorem wP (l:List Nat):l.map eN=dv (fun x=>l.getD x 0) l.length:=by
 refine List.ext_getElem? fun i=>?_
 by_cases h:i<l.length
 ·rw[eZ h,List.getElem?_map,List.getElem?_eq_getElem h];simp[List.getD_eq_getElem?_getD,h]
 ·rw[List.getElem?_eq_none (by simp;omega),List.getElem?_eq_none (by rw[fJ];omega)]
theorem Ft (l:List Nat):dv (lk l 0) l.length=l.map eN:=by
 rw[wP]
 exact gD fun x hx=>by unfold lk;rw[if_neg ab]
theorem Ij (l:List Nat) {i:Nat} (h:l.length<=2*i+1) (hi:i<=l.length):dv (lk l i) l.length=l.reverse.map eN:=by
 rw[wP l.reverse,List.length_reverse]
 refine gD fun x hx=>?_
 have hr:l.reverse.getD x 0=l.getD (l.length-1-x) 0:=by
  rw[List.getD_eq_getElem?_getD,List.getElem?_reverse hx,List.getD_eq_getElem?_getD]
 rw[hr]
 unfold lk
 by_cases hc:x<i∨l.length-i<=x
 ·rw[if_pos hc]
 ·rw[if_neg hc]
  have:x=l.length-1-x:=ab
  rw[<-this]
theorem Fu (l:List Nat) (hp:0<l.length) (hl:l.length<=1048576) (o:Id) (σ:ax) (ho:σ.get o=some ⟨true,1,l.map eN⟩) (sE:o.cq<σ.next):
  Call Tryz.prog 197 [.own o 0 l.length] σ fun r σ'=>σ'.get o=some ⟨true,1,l.reverse.map eN⟩/\σ.next<=σ'.next/\∀i:Id,i.cq<σ.next->(i=o)=False->σ'.get i=σ.get i:=by
 refine eW dM rfl fun vk=>?_
 clear vk
 rw[<-Ft]at ho
 have F4:IntKind.i64.wrap ((l.length:Int)-1)=((l.length-1:Nat):Int):=by rw[aT ab];omega
 (try((repeat(revert hN;revert N;apply Pn.out));refine wk @F4 ?_;(repeat(refine Pn.mk ?_;intro N hN))))
 refine aP (fun m env st=>∃i:Nat,m=l.length-i/\2*i<=l.length+1/\i<=l.length/\env 2=.int .i64 (i:Int)/\env 3=.int .i64 ((l.length:Int)-1-i)/\st.get o=some ⟨true,1,dv (lk l i) l.length⟩/\σ.next<=st.next/\∀x:Id,x.cq<σ.next->(x=o)=False->st.get x=σ.get x) l.length ⟨0,rfl,ab,ab,by(simp only[go_sem, ↓reduceIte,Nat.reduceEqDiff,Nat.reduceAdd,Nat.reduceSub,Nat.reduceLeDiff,reduceCtorEq])<;>rfl,by(simp only[go_sem, ↓reduceIte,Nat.reduceEqDiff,Nat.reduceAdd,Nat.reduceSub,Nat.reduceLeDiff,reduceCtorEq,F4]);congr 1;omega,ho,bt,fun x _ _=>rfl⟩ ?_
 rintro m env_b st_b ⟨i,rfl,we,oR,b2,b3,bg,bn,bfr⟩ bkp
 have b0:=bkp 0 (by kernel_rfl)
 simp only[go_sem, ↓reduceIte,Nat.reduceEqDiff,Nat.reduceAdd,Nat.reduceSub,Nat.reduceLeDiff,reduceCtorEq]at b0
 clear bkp
 have tl:=fJ (lk l i) l.length
 have oJ:=eO (i:=o) (n:=st_b.next) ab
 by_cases hi:(i:Int)<(l.length:Int)-1-i
 ·have fN:i<l.length:=ab
  obtain⟨j,hj⟩:∃j,j=l.length-1-i:=⟨_,rfl⟩
  have gj:j<l.length:=ab
  have JN:(l.length:Int)-1-i=(j:Int):=ab
  rw[JN]at b3 hi
  have g1:=eZ (f:=lk l i) fN
  have g2:=eZ (f:=lk l i) gj
  have e1:lk l i i=l.getD i 0:=by unfold lk;rw[if_neg ab]
  have e2:lk l i j=l.getD j 0:=by unfold lk;rw[if_neg ab]
  have Lq:(dv (lk l i) l.length).set i (eN (l.getD j 0))=dv (fun x=>if x=i then l.getD j 0 else lk l i x) l.length:=oA fN (if_pos rfl) fun x _ hx=>if_neg hx
  have Hp:(dv (fun x=>if x=i then l.getD j 0 else lk l i x) l.length).set j (eN (l.getD i 0))=dv (lk l (i+1)) l.length:=oA gj (by unfold lk;rw[if_pos ab];congr 1;omega) fun x hx OA=>by
   by_cases yK:x=i
   ·rw[if_pos yK];unfold lk;rw[if_pos ab];congr 1;omega
   ·rw[if_neg yK];unfold lk
    by_cases hc:x<i∨l.length-i<=x
    ·rw[if_pos hc,if_pos ab]
    ·rw[if_neg hc,if_neg ab]
  have Rk:=fJ (fun x=>if x=i then l.getD j 0 else lk l i x) l.length
  have g3:=eZ (f:=fun x=>if x=i then l.getD j 0 else lk l i x) gj
  rw[e1]at g1
  rw[e2]at g2
  rw[if_neg ab,e2]at g3
  rw[eN]at g1 g2 g3 Lq Hp
  have PK:(i:Int)<(l.length:Int):=ab
  have lU:(j:Int)<(l.length:Int):=ab
  have pv:IntKind.i64.wrap ((i:Int)+1)=((i+1:Nat):Int):=ay ab
  have wo:IntKind.i64.wrap ((j:Int)-1)=(l.length:Int)-1-((i+1:Nat):Int):=by rw[aT ab];omega
  (try((repeat(revert hN;revert N;apply Pn.out));refine wk (tw @b0 (tw @b2 (tw @b3 (tw @bg (tw @hi (tw @PK (tw @lU (tw @g1 (tw @g2 (tw @g3 (tw @Lq (tw @Hp (tw @tl (tw @Rk (tw @oJ (tw @pv @wo)))))))))))))))) ?_;(repeat(refine Pn.mk ?_;intro N hN))))
  refine⟨_,?_,i+1,rfl,ab,ab,sd @pv,sd @wo,sd @Hp,bt,fun x hx F5=>?_⟩
  ·omega
  ·have:=bfr x hx F5
   simp only[go_sem, ↓reduceIte,Nat.reduceEqDiff,Nat.reduceAdd,Nat.reduceSub,Nat.reduceLeDiff,reduceCtorEq,F5,this]
 ·rw[Ij l ab oR]at bg
  (try((repeat(revert hN;revert N;apply Pn.out));refine wk (tw @b0 (tw @b2 (tw @b3 (tw @bg @hi)))) ?_;(repeat(refine Pn.mk ?_;intro N hN))))
  exact gm (.inr rfl) (vs:=[]) (by simp only[eU,go_sem, ↓reduceIte,Nat.reduceEqDiff,Nat.reduceAdd,Nat.reduceSub,Nat.reduceLeDiff,reduceCtorEq]) ⟨bg,bt,bfr⟩
theorem Qy (cnt:Nat) (tR:1<=cnt) (hn:cnt<=1048576) (c f:Nat->Nat->Int) (x y:Nat) (hx:x<cnt) (hy:y<cnt):
  mB Tryz.prog 191 [.cJ (kV cnt c f),.int .i64 x,.int .i64 y] fun r=>(r=.bK/\∃S:Nat->Bool,S x=true/\S y=false/\∀u v,u<cnt->v<cnt->S u=true->S v=false->¬f u v<c u v)∨∃p:List Nat,r=.sl (p.map eN)/\OM cnt c f x y p:=by
 refine mB.body dM rfl fun hl n0=>?_
 clear hl
 have lM:=uI c cnt
 have jm:(0:Int)<=(cnt:Int):=ab
 have yK:(x:Int)<(cnt:Int):=ab
 have Rg:(y:Int)<(cnt:Int):=ab
 (try((repeat(revert hN;revert N;apply Pn.out));refine wk (tw @kV.eq_1 @lM) ?_;(repeat(refine Pn.mk ?_;intro N hN))))
 refine .inr (aO _ _ _ _ _ (fun r σ1 hq=>?_) (Ih cnt tR hn (-1) ⟨191002000,n0+1+1⟩ _ (sd @Nat.zero_add) bt))
 obtain⟨o,rfl,ho,JU,JV,lr⟩:=hq
 (try dsimp only at ho JU JV lr)
 refine hN _ _ ?_
 clear hN N
 have oJ:=eO JV
 have oQ:(cnt:Int)<=1048576:=ab
 have PA:pZ<pZ+cnt:=ab
 have gF:List.replicate cnt [AV.int .i64 (-1)]=dJ (fun _=>-1) cnt:=by
  refine List.ext_getElem? fun i=>?_
  by_cases h:i<cnt
  ·rw[dC h,List.getElem?_replicate,if_pos h];rfl
  ·rw[List.getElem?_eq_none (by simp;omega),List.getElem?_eq_none (by rw[dt];omega)]
 rw[gF]at ho
 have zQ:(dJ (fun _=>-1) cnt).set x (ar (x:Int))=dJ (fun v=>if v=x then(x:Int)else -1) cnt:=kC hx (if_pos rfl) fun v _ hv=>if_neg hv
 have My:=dC (f:=fun _=>-1) hx
 have tl0:=dt (fun _=>-1) cnt
 rw[ar]at zQ My
 (try((repeat(revert hN;revert N;apply Pn.out));refine wk (tw @kV.eq_1 (tw @lM (tw @jm (tw @oQ @oJ)))) ?_;(repeat(refine Pn.mk ?_;intro N hN))))
 refine IM ?_
 simp only[go_sem, ↓reduceIte,Nat.reduceEqDiff,Nat.reduceAdd,Nat.reduceSub,Nat.reduceLeDiff,reduceCtorEq,PA]
 refine hN _ _ ?_
 clear hN N
 (try((repeat(revert hN;revert N;apply Pn.out));refine wk (tw @ho (tw @oJ (tw @zQ (tw @My (tw @tl0 @yK))))) ?_;(repeat(refine Pn.mk ?_;intro N hN))))
 obtain⟨C,hC⟩:∃C:Id,C=⟨191003001,σ1.next+1⟩:=⟨_,rfl⟩
 have PU:=dr (a:=o) (b:=C) (by rw[hC];(try dsimp only);omega)
 have hCv:C.cq=σ1.next+1:=by rw[hC]
 refine aP (fun m env st=>∃(par:Nat->Int) (Q:List Nat) (i:Nat),m=cnt-i/\Bq cnt c f x par Q i/\st.get o=some ⟨true,1,dJ par cnt⟩/\st.get C=some ⟨true,pZ+cnt,(Q.drop i).map eN⟩/\σ1.next+1<st.next) cnt ⟨_,[x],0,rfl,Bq.start hx,sd @oJ,by rw[hC];simp only[go_sem, ↓reduceIte,Nat.reduceEqDiff,Nat.reduceAdd,Nat.reduceSub,Nat.reduceLeDiff,reduceCtorEq,oJ];rfl,bt⟩ ?_
 rintro m env_b st_b ⟨par,Q,i,rfl,hB,bgo,bgC,bn⟩ bkp
 have b0:=bkp 0 (by kernel_rfl)
 have b1:=bkp 1 (by kernel_rfl)
 have b2:=bkp 2 (by kernel_rfl)
 have b7:=bkp 7 (by kernel_rfl)
 have b8:=bkp 8 (by kernel_rfl)
 have b9:=bkp 9 (by kernel_rfl)
 rw[<-hC]at b9
 simp only[go_sem, ↓reduceIte,Nat.reduceEqDiff,Nat.reduceAdd,Nat.reduceSub,Nat.reduceLeDiff,reduceCtorEq]at b0 b1 b2 b7 b8 b9
 clear bkp
 have hQn:=hB.len
 have oR:=hB.ile
 have QZ:((Q.drop i).map eN).length=Q.length-i:=by simp
 by_cases hi:i<Q.length
 ·have lf:(0:Int)<((Q.length-i:Nat):Int):=ab
  have qQ:Q.drop i=Q[i]::Q.drop (i+1):=List.drop_eq_getElem_cons hi
  obtain⟨u,hu⟩:∃u,u=Q[i]:=⟨_,rfl⟩
  have Oy:u<cnt:=by rw[hu];exact hB.lt _ (List.getElem_mem hi)
  rw[<-hu]at qQ
  (try((repeat(revert hN;revert N;apply Pn.out));refine wk (tw @b0 (tw @b1 (tw @b2 (tw @b7 (tw @b8 (tw @b9 (tw @bgC (tw @QZ @lf)))))))) ?_;(repeat(refine Pn.mk ?_;intro N hN))))
  refine IM ?_
  rw[qQ,List.map_cons,show eN u=[.int .i64 (u:Int)]from rfl]at bgC
  simp only[go_sem, ↓reduceIte,Nat.reduceEqDiff,Nat.reduceAdd,Nat.reduceSub,Nat.reduceLeDiff,reduceCtorEq,b9,bgC]
  refine hN _ _ ?_
  clear hN N
  (try((repeat(revert hN;revert N;apply Pn.out));refine wk @b7 ?_;(repeat(refine Pn.mk ?_;intro N hN))))
  refine aP (fun m env st=>∃(v:Nat) (par':Nat->Int) (Q':List Nat),m=cnt-v/\v<=cnt/\env 36=.int .i64 (v:Int)/\Bq cnt c f x par' Q' i/\(∃h:i<Q'.length,Q'[i]=u)/\st.get o=some ⟨true,1,dJ par' cnt⟩/\st.get C=some ⟨true,pZ+cnt,(Q'.drop (i+1)).map eN⟩/\σ1.next+1<st.next/\∀w,w<v->f u w<c u w->0<=par' w) cnt ⟨0,par,Q,rfl,Nat.zero_le _,by(simp only[go_sem, ↓reduceIte,Nat.reduceEqDiff,Nat.reduceAdd,Nat.reduceSub,Nat.reduceLeDiff,reduceCtorEq])<;>rfl,hB,⟨hi,hu.symm⟩,sd (tw @PU @bgo),sd @PU,bt,fun w hw=>absurd hw (Nat.not_lt_zero w)⟩ ?_
  rintro m env_c st_c ⟨v,par',Q',rfl,hvn,c36,dx,⟨pK,Dl⟩,vT,cgC,cn,dk⟩ ckp
  have c0:=ckp 0 (by kernel_rfl)
  have c1:=ckp 1 (by kernel_rfl)
  have c2:=ckp 2 (by kernel_rfl)
  have c7:=ckp 7 (by kernel_rfl)
  have c8:=ckp 8 (by kernel_rfl)
  have c9:=ckp 9 (by kernel_rfl)
  have jf:=ckp 10 (by kernel_rfl)
  have LW:=ckp 35 (by kernel_rfl)
  simp only[go_sem, ↓reduceIte,Nat.reduceEqDiff,Nat.reduceAdd,Nat.reduceSub,Nat.reduceLeDiff,reduceCtorEq,b0,b1,b2,b7,b8,b9]at c0 c1 c2 c7 c8 c9 jf LW
  clear ckp
  have tl:=dt par' cnt
  by_cases hv:(v:Int)<(cnt:Int)
  ·have BP:v<cnt:=ab
   have MB:=dC (f:=par') BP
   have lr:=Mg cnt c f u v Oy BP
   have hw:IntKind.i64.wrap ((v:Int)+1)=((v+1:Nat):Int):=ay ab
   rw[ar]at MB
   rw[kV]at lr
   by_cases jH:par' v<0
   ·by_cases hr:f u v<c u v
    ·rw[decide_eq_true hr]at lr
     have dP:(dJ par' cnt).set v (ar (u:Int))=dJ (fun w=>if w=v then(u:Int)else par' w) cnt:=kC BP (if_pos rfl) fun w _ hw=>if_neg hw
     rw[ar]at dP
     have oE:=dx.visit pK BP jH (by rw[Dl];exact hr)
     rw[Dl]at oE
     have hQ2:=oE.len
     rw[List.length_append]at hQ2
     simp only[List.length_singleton]at hQ2
     have fA:pZ+(Q'.drop (i+1)).length<pZ+cnt:=by rw[List.length_drop];omega
     (repeat(first|((repeat(revert hN;revert N;apply Pn.out));refine wk (tw @kV.eq_1 (tw @c0 (tw @c7 (tw @c8 (tw @c9 (tw @jf (tw @c36 (tw @LW (tw @hv (tw @vT (tw @MB (tw @tl (tw @jH @dP))))))))))))) ?_;(repeat(refine Pn.mk ?_;intro N hN)))|((try apply Or.inl);refine⟨_,ae.x (lr) (sd (tw @kV.eq_1 (tw @c0 (tw @c7 (tw @c8 (tw @c9 (tw @jf (tw @c36 (tw @LW (tw @hv (tw @vT (tw @MB (tw @tl (tw @jH @dP)))))))))))))),?_⟩;refine hN _ _ ?_;clear hN N)))
     refine IM ?_
     have hq:(Q'.drop (i+1)).map eN++[[.int .i64 (v:Int)]]=((Q'++[v]).drop (i+1)).map eN:=by rw[List.drop_append_of_le_length ab,List.map_append];rfl
     simp only[go_sem, ↓reduceIte,Nat.reduceEqDiff,Nat.reduceAdd,Nat.reduceSub,Nat.reduceLeDiff,reduceCtorEq,c9,cgC,fA,PU,hq]
     refine hN _ _ ?_
     clear hN N
     (try((repeat(revert hN;revert N;apply Pn.out));refine wk (tw @c36 @hw) ?_;(repeat(refine Pn.mk ?_;intro N hN))))
     refine⟨_,?_,v+1,_,_,rfl,BP,sd @hw,oE,⟨by rw[List.length_append];omega,by rw[List.getElem_append_left pK];exact Dl⟩,sd @PU,sd @PU,bt,fun w hw Ho=>?_⟩
     ·omega
     ·by_cases Dm:w=v
      ·rw[if_pos Dm];omega
      ·rw[if_neg Dm];exact dk w ab Ho
    ·rw[decide_eq_false hr]at lr
     (repeat(first|((repeat(revert hN;revert N;apply Pn.out));refine wk (tw @kV.eq_1 (tw @c0 (tw @c7 (tw @c8 (tw @c9 (tw @jf (tw @c36 (tw @LW (tw @hv (tw @vT (tw @MB (tw @tl (tw @jH @hw))))))))))))) ?_;(repeat(refine Pn.mk ?_;intro N hN)))|((try apply Or.inl);refine⟨_,ae.x (lr) (sd (tw @kV.eq_1 (tw @c0 (tw @c7 (tw @c8 (tw @c9 (tw @jf (tw @c36 (tw @LW (tw @hv (tw @vT (tw @MB (tw @tl (tw @jH @hw)))))))))))))),?_⟩;refine hN _ _ ?_;clear hN N)))
     refine⟨_,?_,v+1,par',Q',rfl,BP,sd @hw,dx,⟨pK,Dl⟩,sd @vT,sd @cgC,bt,fun w hw Ho=>?_⟩
     ·omega
     ·by_cases Dm:w=v
      ·subst Dm;exact absurd Ho hr
      ·exact dk w ab Ho
   ·(try((repeat(revert hN;revert N;apply Pn.out));refine wk (tw @kV.eq_1 (tw @c0 (tw @c7 (tw @c8 (tw @c9 (tw @jf (tw @c36 (tw @LW (tw @hv (tw @vT (tw @MB (tw @tl (tw @jH @hw))))))))))))) ?_;(repeat(refine Pn.mk ?_;intro N hN))))
    refine⟨_,?_,v+1,par',Q',rfl,BP,sd @hw,dx,⟨pK,Dl⟩,sd @vT,sd @cgC,bt,fun w hw Ho=>?_⟩
    ·omega
    ·by_cases Dm:w=v
     ·subst Dm;omega
     ·exact dk w ab Ho
  ·have hvc:v=cnt:=ab
   subst hvc
   (try((repeat(revert hN;revert N;apply Pn.out));refine wk (tw @c36 (tw @LW @hv)) ?_;(repeat(refine Pn.mk ?_;intro N hN))))
   refine⟨_,?_,par',Q',i+1,rfl,dx.next pK fun w hw hr=>dk w hw (by rw[<-Dl];exact hr),sd @vT,sd @cgC,bt⟩
   omega
 ·have hiQ:i=Q.length:=ab
  subst hiQ
  have lf:¬(0:Int)<((Q.length-Q.length:Nat):Int):=ab
  have So:=dC (f:=par) hy
  have tl:=dt par cnt
  rw[ar]at So
  by_cases jH:par y<0
  ·(try((repeat(revert hN;revert N;apply Pn.out));refine wk (tw @b0 (tw @b1 (tw @b2 (tw @b7 (tw @b8 (tw @b9 (tw @bgC (tw @QZ (tw @lf (tw @bgo (tw @So (tw @tl (tw @Rg @jH))))))))))))) ?_;(repeat(refine Pn.mk ?_;intro N hN))))
   exact⟨[.bK],sd @Nat.zero_add,.bK,kb _ _,.inl ⟨rfl,hB.cut hy jH⟩⟩
  ·(try((repeat(revert hN;revert N;apply Pn.out));refine wk (tw @b0 (tw @b1 (tw @b2 (tw @b7 (tw @b8 (tw @b9 (tw @bgC (tw @QZ (tw @lf (tw @bgo (tw @So (tw @tl (tw @Rg @jH))))))))))))) ?_;(repeat(refine Pn.mk ?_;intro N hN))))
   refine aP (fun m env st=>∃(k:Nat) (out:List Nat) (p:Id),m=Q.idxOf k/\env 13=.int .i64 (k:Int)/\env 12=.own p 0 out.length/\st.get p=some ⟨true,1,out.map eN⟩/\p.cq<st.next/\st_b.next<=p.cq/\k∈Q/\s9 c f Q y k out/\st.get o=some ⟨true,1,dJ par cnt⟩) (Q.idxOf y) ⟨y,[y],⟨191017001,st_b.next+1+1⟩,rfl,by(simp only[go_sem, ↓reduceIte,Nat.reduceEqDiff,Nat.reduceAdd,Nat.reduceSub,Nat.reduceLeDiff,reduceCtorEq]),by(simp only[go_sem, ↓reduceIte,Nat.reduceEqDiff,Nat.reduceAdd,Nat.reduceSub,Nat.reduceLeDiff,reduceCtorEq])<;>rfl,by(simp only[go_sem, ↓reduceIte,Nat.reduceEqDiff,Nat.reduceAdd,Nat.reduceSub,Nat.reduceLeDiff,reduceCtorEq])<;>rfl,bt,bt,(hB.iff y hy).1 ab,s9.start ((hB.iff y hy).1 ab),by(have SR:=eO (i:=o) (n:=st_b.next) ab);simp only[go_sem, ↓reduceIte,Nat.reduceEqDiff,Nat.reduceAdd,Nat.reduceSub,Nat.reduceLeDiff,reduceCtorEq,SR,bgo]⟩ ?_
   rintro m env_d st_d ⟨k,out,p,rfl,d13,d12,dgp,dpn,dpo,hkQ,sQ,dgo⟩ dkp
   have d1:=dkp 1 (by kernel_rfl)
   have d8:=dkp 8 (by kernel_rfl)
   simp only[go_sem, ↓reduceIte,Nat.reduceEqDiff,Nat.reduceAdd,Nat.reduceSub,Nat.reduceLeDiff,reduceCtorEq,b1,b8]at d1 d8
   clear dkp
   have yI:=eO dpn
   have zS:=eO (i:=o) (n:=st_d.next) ab
   have dO:=dr (a:=o) (b:=p) ab
   have hol:=sQ.len hB.lt
   have dX:=hB.lt k hkQ
   have gw:(out.map eN).length=out.length:=by simp
   by_cases Q5:k=x
   ·have hd:decide ((k:Int)=(x:Int))=true:=decide_eq_true (by rw[Q5])
    have SG:0<out.length:=by
     obtain⟨rest,h1,_⟩:=sQ
     rw[<-List.length_reverse,h1];simp
    (try((repeat(revert hN;revert N;apply Pn.out));refine wk (tw @d1 (tw @d8 (tw @d12 (tw @d13 (tw @hd @Bool.not_true))))) ?_;(repeat(refine Pn.mk ?_;intro N hN))))
    refine .inr (aO _ _ _ _ _ (fun r σ2 hq=>?_) (Fu out SG ab p _ dgp bt))
    obtain⟨oF,mb,Hc⟩:=hq
    refine hN _ _ ?_
    clear hN N
    (try((repeat(revert hN;revert N;apply Pn.out));refine wk @d12 ?_;(repeat(refine Pn.mk ?_;intro N hN))))
    refine⟨[.own p 0 out.length],sd @d12,.sl (out.reverse.map eN),?_,.inr ⟨out.reverse,rfl,by subst Q5;exact sQ.way hB.lt⟩⟩
    exact fG (sz:=1) oF (by simp) fun a=>Mh _ 4 a
   ·have hd:decide ((k:Int)=(x:Int))=false:=decide_eq_false fun h=>Q5 ab
    obtain⟨u,huQ,hpu,xH,hr⟩:=hB.up k hkQ Q5
    have eB:=dC (f:=par) dX
    rw[ar,hpu]at eB
    have hki:(k:Int)<(cnt:Int):=ab
    have e1:out.length+1<=16777216:=ab
    (try((repeat(revert hN;revert N;apply Pn.out));refine wk (tw @d1 (tw @d8 (tw @d12 (tw @d13 (tw @hd (tw @Bool.not_false (tw @dgo (tw @dgp (tw @eB (tw @tl (tw @hki (tw @yI (tw @zS (tw @dO (tw @gw @e1))))))))))))))) ?_;(repeat(refine Pn.mk ?_;intro N hN))))
    refine⟨_,xH,u,out++[u],⟨191021003,st_d.next+1+1⟩,rfl,sd @Nat.zero_add,by rw[List.length_append];simp only[go_sem, ↓reduceIte,Nat.reduceEqDiff,Nat.reduceAdd,Nat.reduceSub,Nat.reduceLeDiff,reduceCtorEq,List.length_cons,List.length_nil],by rw[List.map_append,List.map_cons,List.map_nil];simp only[go_sem, ↓reduceIte,Nat.reduceEqDiff,Nat.reduceAdd,Nat.reduceSub,Nat.reduceLeDiff,reduceCtorEq,eN],bt,bt,huQ,sQ.step huQ xH hr,sd (tw @zS (tw @dO @dgo))⟩
theorem yW (b:Nat):∀(l:List Nat) (a:Nat) (f:Nat->Nat->Int),lD f ((a::l)++[b])=jU (lD f (a::l)) ((a::l).getLast (by simp)) b
 |[],a,f=>rfl
 |c::l,a,f=>by
  rw[List.cons_append,List.cons_append,lD,<-List.cons_append,yW b l c (jU f a c),lD,List.getLast_cons_cons]
theorem D8 {p:List Nat} {f:Nat->Nat->Int} {i:Nat} (h1:1<=i) (hi:i<p.length):lD f (p.take (i+1))=jU (lD f (p.take i)) (p[i-1]'ab) p[i]:=by
 rw[List.take_succ_eq_append_getElem hi]
 have gW:p.take i≠[]:=by
  intro h
  have:(p.take i).length=0:=by rw[h];rfl
  rw[List.length_take]at this;omega
 obtain⟨a,l,Pu⟩:∃a l,p.take i=a::l:=by
  cases h:p.take i with
  |nil=>exact absurd h gW
  |cons a l=>exact⟨a,l,rfl⟩
 have tQ:(p.take i).getLast gW=p[i-1]'ab:=by
  rw[List.getLast_eq_getElem,List.getElem_take]
  congr 1
  rw[List.length_take];omega
 simp only[Pu]at tQ ⊢
 rw[yW,tQ]
theorem Fp (f:Nat->Nat->Int) (a b u v:Nat):jU f a b u v<=f u v+1/\f u v-1<=jU f a b u v:=by
 unfold jU bump
 split<;>split<;>constructor<;>omega
theorem lE:∀(p:List Nat) (f:Nat->Nat->Int) (u v:Nat),lD f p u v<=f u v+p.length/\f u v-p.length<=lD f p u v
 |[],f,u,v=>by simp[lD]
 |[_],f,u,v=>by simp[lD];omega
 |a::b::r,f,u,v=>by
  rw[lD]
  have h1:=lE (b::r) (jU f a b) u v
  have h2:=Fp f a b u v
  simp only[List.length_cons]at h1 ⊢
  omega
theorem nf.push {g g':Rows} {X o1 o2:Id} {R1 R2:Nat->Id} {n nb:Nat} {c f:Nat->Nat->Int} (I:DY X o1 o2 R1 R2 n nb) (h:nf g X o1 o2 R1 R2 n c f) {a b:Nat} (ha:a<n) (hb:b<n) (r8:a≠b) (hA:g' (R2 a)=some ⟨true,1,dJ (bump f a b 1 a) n⟩) (hB:g' (R2 b)=some ⟨true,1,dJ (bump (bump f a b 1) b a (-1) b) n⟩) (hf:∀i:Id,i.cq<nb->(i=R2 a)=False->(i=R2 b)=False->g' i=g i):nf g' X o1 o2 R1 R2 n c (jU f a b):=by
 have ne:∀{i:Id} {s:Nat},i.site=s->(s==174005006)=false->∀a,a<n->(i=R2 a)=False:=fun {i s} hi hs a ha=>by
  simp only[eq_iff_iff,iff_false]
  rintro rfl
  rw[I.Lx a ha]at hi
  subst hi
  simp at hs
 refine⟨(hf _ I.vx (ne I.sx (by decide) _ ha) (ne I.sx (by decide) _ hb)).trans h.x,(hf _ I.v1 (ne I.s1 (by decide) _ ha) (ne I.s1 (by decide) _ hb)).trans h.t1,(hf _ I.v2 (ne I.s2 (by decide) _ ha) (ne I.s2 (by decide) _ hb)).trans h.t2,fun i hi=>(hf _ (I.S9 i hi) (ne (I.Rj i hi) (by decide) _ ha) (ne (I.Rj i hi) (by decide) _ hb)).trans (h.r1 i hi),fun i hi=>?_⟩
 by_cases ED:i=b
 ·subst ED;exact hB
 ·by_cases MD:i=a
  ·subst MD
   rw[hA,jU,jE ED]
  ·rw[jU,jE ED,jE MD,hf _ (I.Qx i hi) (by simp only[eq_iff_iff,iff_false];exact fun he=>MD (I.i2 i _ hi ha he)) (by simp only[eq_iff_iff,iff_false];exact fun he=>ED (I.i2 i _ hi hb he))]
   exact h.r2 i hi
theorem Nv (cnt:Nat) (tR:1<=cnt) (hn:cnt<=1048576) (c:Nat->Nat->Int) (hc:∀u v,u<cnt->v<cnt->0<=c u v/\c u v<=16777216) (x y:Nat) (hx:x<cnt) (hy:y<cnt) (M5:x≠y) (t:Int) (ht:t<=1099511627776)
  (X o1 o2:Id) (R1 R2:Nat->Id) (nb:Nat) (I:DY X o1 o2 R1 R2 cnt nb) (σ:ax) (hM:nf σ.get X o1 o2 R1 R2 cnt c (fun _ _=>0)) (JQ:nb<=σ.next):
  Call Tryz.prog 175 [.ptr X 0 0,.int .i64 x,.int .i64 y,.int .i64 t] σ fun r σ'=>∃(k:Nat) (f:Nat->Nat->Int),r=.int .i64 k/\mC cnt c f x y k/\nf σ'.get X o1 o2 R1 R2 cnt c f/\((∃S:Nat->Bool,S x=true/\S y=false/\∀u v,u<cnt->v<cnt->S u=true->S v=false->¬f u v<c u v)∨t<=k)/\σ.next<=σ'.next:=by
 refine eW dM rfl fun hl=>?_
 clear hl
 have hxS:(fun v=>decide (v=x)) x=true:=by simp
 have hyS:(fun v=>decide (v=x)) y=false:=by simp;exact fun h=>M5 h.symm
 obtain⟨top,SN⟩:∃top,top=lG cnt (fun v=>decide (v=x)) c:=⟨_,rfl⟩
 (try((repeat(revert hN;revert N;apply Pn.out));refine wk @Nat.zero_add ?_;(repeat(refine Pn.mk ?_;intro N hN))))
 refine aP (fun m env st=>∃(k:Nat) (f:Nat->Nat->Int),m=(top-k).toNat/\env 9=.int .i64 (k:Int)/\mC cnt c f x y k/\nf st.get X o1 o2 R1 R2 cnt c f/\σ.next<=st.next/\(0<k->(k:Int)<=t)/\∀u v,-((k:Int)*(cnt:Int))<=f u v) (top-0).toNat ⟨0,fun _ _=>0,rfl,by(simp only[go_sem, ↓reduceIte,Nat.reduceEqDiff,Nat.reduceAdd,Nat.reduceSub,Nat.reduceLeDiff,reduceCtorEq])<;>rfl,mC.zero fun u v hu hv=>(hc u v hu hv).1,hM,bt,fun h=>absurd h (Nat.lt_irrefl 0),fun u v=>by simp⟩ ?_
 rintro m env_b st_b ⟨k,f,rfl,b9,hF,bM,bn,bk,blo⟩ bkp
 have b0:=bkp 0 (by kernel_rfl)
 have b1:=bkp 1 (by kernel_rfl)
 have b2:=bkp 2 (by kernel_rfl)
 have b3:=bkp 3 (by kernel_rfl)
 simp only[go_sem, ↓reduceIte,Nat.reduceEqDiff,Nat.reduceAdd,Nat.reduceSub,Nat.reduceLeDiff,reduceCtorEq]at b0 b1 b2 b3
 clear bkp
 have hz:cm (dE st_b.get) 6 [.ptr X 0 0,.int .i64 (x:Int),.int .i64 (y:Int)]=some [.cJ (kV cnt c f),.int .i64 x,.int .i64 y]:=by simp only[ad,aj,bM.fz,aI,Option.map_some]
 (try((repeat(revert hN;revert N;apply Pn.out));refine wk (tw @b0 (tw @b1 (tw @b2 (tw @b3 @b9)))) ?_;(repeat(refine Pn.mk ?_;intro N hN))))
 refine .inr (aO _ _ _ _ _ (fun r σ1 hq=>?_) ((Qy cnt tR hn c f x y hx hy).x mixed hz))
 obtain⟨MS,rfl⟩:=hq
 refine hN _ _ ?_
 clear hN N
 rcases MS with⟨rfl,S,JC,JD,Of⟩|⟨p,rfl,hW⟩
 ·(try((repeat(revert hN;revert N;apply Pn.out));refine wk (tw @b0 (tw @b1 (tw @b2 (tw @b3 (tw @b9 (tw @Bool.not_true @Bool.not_false)))))) ?_;(repeat(refine Pn.mk ?_;intro N hN))))
  refine gm (.inl rfl) (vs:=[.int .i64 (k:Int)]) (sd @Nat.zero_add) ⟨k,f,rfl,hF,by(try dsimp only);exact bM,.inl ⟨S,JC,JD,Of⟩,bt⟩
 ·obtain⟨⟨rs,rfl,tQ⟩,kN,fA,hplt⟩:=hW
  by_cases I4:t<=(k:Int)
  ·(try((repeat(revert hN;revert N;apply Pn.out));refine wk (tw @b0 (tw @b1 (tw @b2 (tw @b3 (tw @b9 (tw @I4 (tw @Bool.not_true @Bool.not_false))))))) ?_;(repeat(refine Pn.mk ?_;intro N hN))))
   refine gm (.inl rfl) (vs:=[.int .i64 (k:Int)]) (sd @Nat.zero_add) ⟨k,f,rfl,hF,by(try dsimp only);exact bM,.inr I4,bt⟩
  ·(try((repeat(revert hN;revert N;apply Pn.out));refine wk (tw @b0 (tw @b1 (tw @b2 (tw @b3 (tw @b9 (tw @I4 (tw @Bool.not_true @Bool.not_false))))))) ?_;(repeat(refine Pn.mk ?_;intro N hN))))
   have mV:=nN cnt _ kN hplt
   have hkc:(k:Int)*(cnt:Int)<=1099511627776*1048576:=Int.mul_le_mul ab ab ab ab
   have hfb:=hF.bound (S:=fun v=>decide (v=x)) hxS hyS
   have hnear:=lE
   obtain⟨p,hp⟩:∃p,p=x::rs:=⟨_,rfl⟩
   have hmp:eN x::List.map eN rs=p.map eN:=by rw[hp];rfl
   rw[hmp]
   have MM:1<=p.length:=by rw[hp];simp
   have RQ:=hF.aug tQ kN fA hplt
   rw[<-hp]at RQ kN fA hplt mV
   have MY:p.take 1=[x]:=by rw[hp];rfl
   clear hmp tQ
   refine aP (fun m env st=>∃i:Nat,m=p.length-i/\1<=i/\i<=p.length/\env 11=.int .i64 (i:Int)/\nf st.get X o1 o2 R1 R2 cnt c (lD f (p.take i))/\st_b.next<=st.next) (p.length-1) ⟨1,rfl,Nat.le_refl _,MM,by(simp only[go_sem, ↓reduceIte,Nat.reduceEqDiff,Nat.reduceAdd,Nat.reduceSub,Nat.reduceLeDiff,reduceCtorEq])<;>rfl,by rw[MY];exact bM,bt⟩ ?_
   rintro m env_c st_c ⟨i,rfl,JM,oR,mQ,cM,cn⟩ ckp
   have c0:=ckp 0 (by kernel_rfl)
   have c1:=ckp 1 (by kernel_rfl)
   have c2:=ckp 2 (by kernel_rfl)
   have c3:=ckp 3 (by kernel_rfl)
   have c9:=ckp 9 (by kernel_rfl)
   have jf:=ckp 10 (by kernel_rfl)
   simp only[go_sem, ↓reduceIte,Nat.reduceEqDiff,Nat.reduceAdd,Nat.reduceSub,Nat.reduceLeDiff,reduceCtorEq,b0,b1,b2,b3,b9]at c0 c1 c2 c3 c9 jf
   clear ckp
   have gw:(p.map eN).length=p.length:=by simp
   by_cases hi:(i:Int)<(p.length:Int)
   ·have fN:i<p.length:=ab
    have vp:=D8 (f:=f) JM fN
    obtain⟨a,ha⟩:∃a,a=p[i-1]'ab:=⟨_,rfl⟩
    obtain⟨b,hb⟩:∃b,b=p[i]:=⟨_,rfl⟩
    have Dc:a<cnt:=by rw[ha];exact hplt _ (List.getElem_mem _)
    have Dd:b<cnt:=by rw[hb];exact hplt _ (List.getElem_mem _)
    have r8:a≠b:=by
     rw[ha,hb]
     exact List.pairwise_iff_getElem.1 kN (i-1) i ab fN ab
    have PI:(p.map eN)[i-1]? =some [.int .i64 (a:Int)]:=by rw[List.getElem?_map,List.getElem?_eq_getElem ab,ha];rfl
    have PJ:(p.map eN)[i]? =some [.int .i64 (b:Int)]:=by rw[List.getElem?_map,List.getElem?_eq_getElem fN,hb];rfl
    rw[<-ha,<-hb]at vp
    have Sy:=lE (p.take i) f a b
    have Sz:=lE (p.take i) f b a
    rw[List.length_take]at Sy Sz
    have hl1:=blo b a
    have hl2:=blo a b
    have P0:=hF.le a b Dc Dd
    have Ox:=hF.le b a Dd Dc
    have hca:=hc a b Dc Dd
    have De:=hc b a Dd Dc
    generalize lD f (p.take i)=fl at *
    have gA:=qJ (R:=R2) (n:=cnt) Dc
    have gB:=qJ (R:=R2) (n:=cnt) Dd
    have rA:=cM.r2 _ Dc
    have rB:=cM.r2 _ Dd
    have cA:=dC (f:=fl a) Dd
    have cB:=dC (f:=fl b) Dc
    have sA:=nv (f:=fl) (a:=a) (d:=1) Dd
    have MJ:bump fl a b 1 b=fl b:=jE fun h=>r8 h.symm
    have sB:=nv (f:=bump fl a b 1) (a:=b) (b:=a) (d:=-1) (n:=cnt) Dc
    rw[MJ]at sB
    have gX:=cM.x
    have g2:=cM.t2
    have gi:(a:Int)<(cnt:Int):=ab
    have fB:(b:Int)<(cnt:Int):=ab
    have F4:IntKind.i64.wrap ((i:Int)-1)=((i-1:Nat):Int):=by rw[aT ab];omega
    have we:((i-1:Nat):Int)<(p.length:Int):=ab
    have wA:IntKind.i64.wrap (fl a b+1)=fl a b+1:=aT ab
    have wB:IntKind.i64.wrap (fl b a-1)=fl b a+-1:=by rw[aT ab];omega
    have P8:IntKind.i64.wrap ((i:Int)+1)=((i+1:Nat):Int):=ay ab
    have l2:=jK R2 cnt cnt
    have lA:=dt (fl a) cnt
    have lB:=dt (fl b) cnt
    have gW:(R2 a=R2 b)=False:=by simp only[eq_iff_iff,iff_false];exact fun h=>r8 (I.i2 _ _ Dc Dd h)
    have Hj:(R2 b=R2 a)=False:=by simp only[eq_iff_iff,iff_false];exact fun h=>r8 (I.i2 _ _ Dc Dd h.symm)
    have xA:=yj I.sx (I.Lx a Dc) (by decide)
    have xB:=yj I.sx (I.Lx b Dd) (by decide)
    have yA:=yj I.s2 (I.Lx a Dc) (by decide)
    have yB:=yj I.s2 (I.Lx b Dd) (by decide)
    have qX:=eO (i:=X) (n:=st_c.next) (by have:=I.vx;omega)
    have q2:=eO (i:=o2) (n:=st_c.next) (by have:=I.v2;omega)
    have qA:=eO (i:=R2 a) (n:=st_c.next) (by have:=I.Qx a Dc;omega)
    have qB:=eO (i:=R2 b) (n:=st_c.next) (by have:=I.Qx b Dd;omega)
    rw[ar]at cA cB sA sB
    (try((repeat(revert hN;revert N;apply Pn.out));refine wk (tw @c0 (tw @c9 (tw @jf (tw @mQ (tw @gw (tw @hi (tw @we (tw @PI (tw @PJ (tw @gA (tw @gB (tw @rA (tw @rB (tw @cA (tw @cB (tw @sA (tw @sB (tw @gX (tw @g2 (tw @gi (tw @fB (tw @F4 (tw @wA (tw @wB (tw @P8 (tw @l2 (tw @lA (tw @lB (tw @gW (tw @Hj (tw @xA (tw @xB (tw @yA (tw @yB (tw @qX (tw @q2 (tw @qA @qB))))))))))))))))))))))))))))))))))))) ?_;(repeat(refine Pn.mk ?_;intro N hN))))
    refine⟨_,?_,i+1,rfl,ab,ab,sd @P8,?_,bt⟩
    ·omega
    ·rw[vp]
     refine cM.push I Dc Dd r8 ?_ ?_ fun j hj h1 h2=>?_
     ·simp only[go_sem, ↓reduceIte,Nat.reduceEqDiff,Nat.reduceAdd,Nat.reduceSub,Nat.reduceLeDiff,reduceCtorEq,gW]
     ·simp only[go_sem, ↓reduceIte,Nat.reduceEqDiff,Nat.reduceAdd,Nat.reduceSub,Nat.reduceLeDiff,reduceCtorEq,gW]
     ·simp only[go_sem, ↓reduceIte,Nat.reduceEqDiff,Nat.reduceAdd,Nat.reduceSub,Nat.reduceLeDiff,reduceCtorEq,h1,h2]
   ·have I2:i=p.length:=ab
    subst I2
    rw[List.take_length]at cM
    have M3:IntKind.i64.wrap ((k:Int)+1)=((k+1:Nat):Int):=ay ab
    have Sh:=RQ.bound (S:=fun v=>decide (v=x)) hxS hyS
    (try((repeat(revert hN;revert N;apply Pn.out));refine wk (tw @c0 (tw @c9 (tw @jf (tw @mQ (tw @gw (tw @hi @M3)))))) ?_;(repeat(refine Pn.mk ?_;intro N hN))))
    refine⟨_,?_,k+1,_,rfl,sd @M3,by rw[Int.natCast_add];exact RQ,cM,bt,fun _=>ab,fun u v=>?_⟩
    ·rw[<-SN]at Sh;omega
    ·have h1:=(lE p f u v).2
     have h2:=blo u v
     rw[Int.natCast_add,Int.add_mul]
     omega
theorem Nu (cnt:Nat) (tR:1<=cnt) (hn:cnt<=1048576) (c:Nat->Nat->Int) (hc:∀u v,u<cnt->v<cnt->0<=c u v/\c u v<=16777216) (x y:Nat) (hx:x<cnt) (hy:y<cnt) (M5:x≠y) (t:Int) (ht:t<=1099511627776)
  (X o1 o2:Id) (R1 R2:Nat->Id) (nb:Nat) (I:DY X o1 o2 R1 R2 cnt nb) (σ:ax) (hM:nf σ.get X o1 o2 R1 R2 cnt c (fun _ _=>0)) (JQ:nb<=σ.next):
  Call Tryz.prog 175 [.ptr X 0 0,.int .i64 x,.int .i64 y,.int .i64 t] σ fun r σ'=>∃val:Int,r=.int .i64 val/\(val<t↔∃S:Nat->Bool,S x=true/\S y=false/\lG cnt S c<t)/\σ.next<=σ'.next:=by
 refine aO _ _ _ _ _ (fun r σ1 hq=>?_) (Nv cnt tR hn c hc x y hx hy M5 t ht X o1 o2 R1 R2 nb I σ hM JQ)
 obtain⟨k,f,rfl,hF,_,hS,hle⟩:=hq
 refine⟨(k:Int),rfl,⟨fun h=>?_,fun⟨S',h1,h2,h3⟩=>by have:=hF.bound h1 h2;omega⟩,hle⟩
 rcases hS with⟨S,JC,JD,Of⟩|h2
 ·exact⟨S,JC,JD,by rw[<-hF.full JC JD Of];exact h⟩
 ·omega
noncomputable def sa (n:Nat) (bs:List PB) (t:Int):Bool:=@decide (j7 n bs t) (Classical.propDecidable _)
theorem wi {n:Nat} {bs:List PB} {t:Int} (h:j7 n bs t):true=sa n bs t:=by simp[sa,h]
theorem zN {n:Nat} {bs:List PB} {t:Int} (h:¬j7 n bs t):false=sa n bs t:=by simp[sa,h]
theorem JS (cnt:Nat) (hn:cnt<=1048576) (bs:List PB) (hb:∀b∈bs,b.a<cnt/\b.b<cnt) (ev:∀b∈bs,0<=b.s/\b.s<=4) (pI:bs.length<=1048576) (t:Int) (ht:t<=1099511627776):
  ae Tryz.prog 155 [.int .i64 cnt,.sl (bs.map aA),.int .i64 t] (.bool (sa cnt bs t)):=by
 refine ae.body dM rfl fun hl n0=>?_
 clear hl
 have jx:=yc bs (fun _ _=>0) (fun b h=>(ev b h).1) (fun _ _=>Int.le_refl _)
 have hle:=room_le bs (fun _ _=>0) 0 (fun b h=>(ev b h).2) (fun _ _=>Int.le_refl _) (Int.le_refl _)
 have fA:bs.foldl mO (fun _ _=>0)=ku bs:=rfl
 rw[fA]at jx hle
 (try((repeat(revert hN;revert N;apply Pn.out));refine wk @Nat.zero_add ?_;(repeat(refine Pn.mk ?_;intro N hN))))
 refine aP (fun m env st=>∃y:Nat,m=cnt+1-y/\1<=y/\env 7=.int .i64 (y:Int)/\y<=cnt+1/\∀z,1<=z->z<y->z<cnt->∀S:Nat->Bool,S 0=true->S z=false->t<=iI S bs) (cnt+1-1) ⟨1,rfl,Nat.le_refl _,by(simp only[go_sem, ↓reduceIte,Nat.reduceEqDiff,Nat.reduceAdd,Nat.reduceSub,Nat.reduceLeDiff,reduceCtorEq])<;>rfl,ab,fun z h1 h2=>ab⟩ ?_
 rintro m env_b st_b ⟨y,rfl,hy1,b7,hyl,dk⟩ bkp
 have b0:=bkp 0 (by kernel_rfl)
 have b1:=bkp 1 (by kernel_rfl)
 have b2:=bkp 2 (by kernel_rfl)
 simp only[go_sem, ↓reduceIte,Nat.reduceEqDiff,Nat.reduceAdd,Nat.reduceSub,Nat.reduceLeDiff,reduceCtorEq]at b0 b1 b2
 clear bkp
 by_cases hy:(y:Int)<(cnt:Int)
 ·have hyn:y<cnt:=ab
  (try((repeat(revert hN;revert N;apply Pn.out));refine wk (tw @b0 (tw @b1 (tw @b2 (tw @b7 @hy)))) ?_;(repeat(refine Pn.mk ?_;intro N hN))))
  refine .inr (aO _ _ _ _ _ (fun r σ1 hq=>?_) (Ah cnt ab hn bs hb ev pI _))
  obtain⟨X,o1,o2,R1,R2,rfl,I,JP,hM,_⟩:=hq
  refine hN _ _ ?_
  clear hN N
  (try((repeat(revert hN;revert N;apply Pn.out));refine wk (tw @b0 (tw @b1 (tw @b2 @b7))) ?_;(repeat(refine Pn.mk ?_;intro N hN))))
  have hsd:=Nu cnt ab hn (ku bs) (fun u v _ _=>⟨jx u v,by have:=hle u v;omega⟩) 0 y ab hyn ab t ht X o1 o2 R1 R2 σ1.next I
  refine .inr (aO _ _ _ _ _ (fun r σ2 hq=>?_) (hsd _ hM bt))
  obtain⟨val,rfl,qg,mb⟩:=hq
  refine hN _ _ ?_
  clear hN N
  by_cases dD:val<t
  ·(try((repeat(revert hN;revert N;apply Pn.out));refine wk (tw @b0 (tw @b1 (tw @b2 (tw @b7 @dD)))) ?_;(repeat(refine Pn.mk ?_;intro N hN))))
   obtain⟨S,h1,h2,h3⟩:=qg.1 dD
   rw[zb hb]at h3
   exact aC (b:=false) (.inl rfl) (sd @Nat.zero_add) (zN fun h=>by have:=h S h1 ⟨y,hyn,h2⟩;omega)
  ·have hw:IntKind.i64.wrap ((y:Int)+1)=((y+1:Nat):Int):=ay ab
   (try((repeat(revert hN;revert N;apply Pn.out));refine wk (tw @b0 (tw @b1 (tw @b2 (tw @b7 (tw @dD @hw))))) ?_;(repeat(refine Pn.mk ?_;intro N hN))))
   refine⟨_,?_,y+1,rfl,ab,sd (tw @b7 @hw),ab,fun z h1 h2 h3 S JC JD=>?_⟩
   ·omega
   ·by_cases hzy:z=y
    ·subst hzy
     rcases Int.lt_or_le (iI S bs) t with h|h
     ·exact absurd (qg.2 ⟨S,JC,JD,by rw[zb hb];exact h⟩) dD
     ·exact h
    ·exact dk z h1 ab h3 S JC JD
 ·(try((repeat(revert hN;revert N;apply Pn.out));refine wk (tw @b0 (tw @b1 (tw @b2 (tw @b7 @hy)))) ?_;(repeat(refine Pn.mk ?_;intro N hN))))
  exact aC (b:=true) (.inl rfl) (sd @Nat.zero_add) (wi fun S h0 ⟨z,hz,hzf⟩=>by
   have:z≠0:=by rintro rfl;rw[h0]at hzf;cases hzf
   exact dk z ab ab hz S h0 hzf)
theorem Hk (cnt:Nat) (hn:cnt<=1048576) (bs:List PB) (hb:∀b∈bs,b.a<cnt/\b.b<cnt) (ev:∀b∈bs,0<=b.s/\b.s<=4) (pI:bs.length<=1048576) (t:Int) (ht:t<=1099511627776):
  ae Tryz.prog 155 [.int .i64 cnt,yg bs,.int .i64 t] (.bool (sa cnt bs t)):=by
 have h:=JS cnt hn bs hb ev pI t ht
 cases bs with
 |nil=>exact h.cut mixed (.same _ (.bK (.same _ .nil)))
 |cons b r=>rw[yh (by simp)];exact h
def AN:Prop:=∀(s:aw) (l:List ao),lY s->qU s l->ae Tryz.prog 154 [.agg (aa s),.agg [.sl (l.map ai)]] (yg (cv s l))
noncomputable def sW (s:aw) (l:List ao) (t:Int):Bool:=if 64<gS s l t then false else sa (gS s l t) (di (dS (aJ t (cv s l))) (cv s l)) t
theorem BS (s:aw) (l:List ao) (t:Int):sW s l t=mN s l t:=by
 letI:=Classical.propDecidable (n8 l.length (cv s l) t)
 unfold sW
 by_cases h:64<gS s l t
 ·rw[if_pos h]
  exact(lR (p:=False) ⟨False.elim,fun k=>by have:=k.1;unfold gS at h;omega⟩).symm.trans (by simp) |>.symm
 ·rw[if_neg h]
  by_cases hp:j7 (gS s l t) (di (dS (aJ t (cv s l))) (cv s l)) t
  ·rw[<-wi hp]
   exact((lR (p:=True) ⟨fun _=>⟨by unfold gS at h;omega,hp⟩,fun _=>trivial⟩).symm.trans (by simp)).symm
  ·rw[<-zN hp]
   exact((lR (p:=False) ⟨False.elim,fun k=>hp k.2⟩).symm.trans (by simp)).symm
theorem Ip (RK:AN) (s:aw) (l:List ao) (t:Int) (ht:t<=1099511627776) (h1:1<=l.length) (hS:lY s) (hA:qU s l):ae Tryz.prog 131 [.agg (aa s),.agg [.sl (l.map ai)],.int .i64 t] (.iL [.bool (mN s l t),.bool (decide ¬64<gS s l t)]):=by
 rw[<-BS]
 refine ae.body dM rfl fun hl n0=>?_
 clear hl
 have hb:=vO (l:=l) hS
 have pI:=o8 (s:=s) hA.1
 have PF:=hA.1.FW
 have zH:=RK s l hS hA
 have PA:=xh l.length h1 ab (cv s l) (fun b h=>⟨(hb b h).1,(hb b h).2.1⟩) ab t
 have hL:=sf (aJ t (cv s l))
 have fN:=Ct hL (fun b h=>⟨(hb b h).1,(hb b h).2.1⟩)
 have hlen:=(mj (dS (aJ t (cv s l))) (cv s l)).1
 have lq:=jr l.length (dS (aJ t (cv s l)))
 have hho:=Hk (gS s l t) (by unfold gS;omega) (di (dS (aJ t (cv s l))) (cv s l)) (fun b h=>⟨(fN b h).1,(fN b h).2.1⟩) (fun b h=>by
  obtain⟨_,_,_,c,hc,dq⟩:=fN b h
  rw[dq];have:=hb c hc;omega) ab t ht
 have fH:(l.map ai).length=l.length:=by simp
 have hzB:∀(g:Rows) (n:Nat) (bs:List PB),V.fz g (n+1) (yg bs)=some (yg bs):=fun g n bs=>by
  unfold yg;split
  ·exact aW _ _
  ·exact cj _ _ _
 rw[aa]at zH
 rw[<-gS]at PA
 have wq:∀(g:Rows) (x:Int),cm (dE g) 6 [.int .i64 l.length,yg (cv s l),.int .i64 x]=some [.int .i64 l.length,yg (cv s l),.int .i64 x]:=fun g x=>by simp only[ad,aj,aI,hzB,Option.map_some]
 have hzh:∀(g:Rows) (x y:Int),cm (dE g) 6 [.int .i64 x,yg (di (dS (aJ t (cv s l))) (cv s l)),.int .i64 y]=some [.int .i64 x,yg (di (dS (aJ t (cv s l))) (cv s l)),.int .i64 y]:=fun g x y=>by simp only[ad,aj,aI,hzB,Option.map_some]
 generalize yg (cv s l)=B1 at *
 generalize yg (di (dS (aJ t (cv s l))) (cv s l))=B2 at *
 by_cases sy:(64:Int)<(gS s l t:Int)
 ·have sC:64<gS s l t:=ab
  (repeat(first|((repeat(revert hN;revert N;apply Pn.out));refine wk (tw @aa.eq_1 (tw @sy @fH)) ?_;(repeat(refine Pn.mk ?_;intro N hN)))|((try apply Or.inl);refine⟨_,ae.x (zH) (sd (tw @aa.eq_1 (tw @sy @fH))),?_⟩;refine hN _ _ ?_;clear hN N)))
  refine⟨_,ae.x PA (wq _ _),?_⟩
  refine hN _ _ ?_
  clear hN N
  (try((repeat(revert hN;revert N;apply Pn.out));refine wk @sy ?_;(repeat(refine Pn.mk ?_;intro N hN))))
  exact jc (.inl rfl) (r1:=.bool false) (r2:=.bool false) (sd @Nat.zero_add) (sd @Nat.zero_add) (by rw[sW,if_pos sC,decide_eq_false fun h=>h sC];simp only[eX,br,bV,e9,Option.map_some])
 ·have sC:¬64<gS s l t:=ab
  (repeat(first|((repeat(revert hN;revert N;apply Pn.out));refine wk (tw @aa.eq_1 (tw @sy @fH)) ?_;(repeat(refine Pn.mk ?_;intro N hN)))|((try apply Or.inl);refine⟨_,ae.x (zH) (sd (tw @aa.eq_1 (tw @sy @fH))),?_⟩;refine hN _ _ ?_;clear hN N)))
  refine⟨_,ae.x PA (wq _ _),?_⟩
  refine hN _ _ ?_
  clear hN N
  (try((repeat(revert hN;revert N;apply Pn.out));refine wk @sy ?_;(repeat(refine Pn.mk ?_;intro N hN))))
  refine .inl ⟨_,ae.x hho (hzh _ _ _),?_⟩
  refine hN _ _ ?_
  clear hN N
  (try((repeat(revert hN;revert N;apply Pn.out));refine wk @Nat.zero_add ?_;(repeat(refine Pn.mk ?_;intro N hN))))
  exact jc (.inl rfl) (r1:=.bool (sa (gS s l t) (di (dS (aJ t (cv s l))) (cv s l)) t)) (r2:=.bool true) (sd @Nat.zero_add) (sd @Nat.zero_add) (by rw[sW,if_neg sC,decide_eq_true sC];simp only[eX,br,bV,e9,Option.map_some])
theorem sF (t:Int):ae Tryz.prog 130 [.int .i64 t] (.bool (fI t 1 16)):=by
 refine ae.body dM rfl fun hl n0=>?_
 clear hl
 have h:=iq t 1 16
 (repeat(first|((repeat(revert hN;revert N;apply Pn.out));refine wk @Nat.zero_add ?_;(repeat(refine Pn.mk ?_;intro N hN)))|((try apply Or.inl);refine⟨_,ae.x (h) (sd @Nat.zero_add),?_⟩;refine hN _ _ ?_;clear hN N)))
 exact aC (b:=fI t 1 16) (.inl rfl) (sd @Nat.zero_add) rfl
theorem uV (RK:AN) (s:cl) (hn:fx s.aE) (hg:s.aE.au.length<=1048576) (ht:s.aE.ah.length<=1048576) (hs:∀t∈s.aE.ah,t.bp.length<=1048576) (hl:s.bZ.ah.length<=1048576):ae Tryz.prog 72 [.agg (az s)] (.bool (mo s)):=by
 refine ae.body dM rfl fun vk n0=>?_
 clear vk
 by_cases h0:(s.bZ.ah.length:Int)=0
 ·have hd:decide ((s.bZ.ah.length:Int)=0)=true:=decide_eq_true h0
  (try((repeat(revert hN;revert N;apply Pn.out));refine wk (tw @az.eq_1 @hd) ?_;(repeat(refine Pn.mk ?_;intro N hN))))
  exact aC (b:=false) (.inl rfl) (sd @Nat.zero_add) (jB fun h=>by have:=h.some;omega)
 have hd:decide ((s.bZ.ah.length:Int)=0)=false:=decide_eq_false h0
 have Mw:=mJ s.aE s.bZ.ah hn hg ht hs hl
 have Ps:=sF s.aH
 have key:ae Tryz.prog 101 [.agg (aa s.aE),.agg [.sl (s.bZ.ah.map ai)],.int .i64 s.aH] (.iL [.bool (mo s),.int .i64 (if pE s.aE&&oD s.aE s.bZ.ah then(if fI s.aH 1 16 then(if 64<gS s.aE s.bZ.ah s.aH then 4 else 0)else 2)else 1)]):=by
  refine ae.body dM rfl fun vk n0=>?_
  clear vk
  rw[aa]at Mw
  cases hA:pE s.aE&&oD s.aE s.bZ.ah
  ·rw[hA]at Mw
   have la:mo s=false:=(jB fun h=>by rw[lP.2 h.set,lz.2 h.Nt]at hA;cases hA).symm
   (repeat(first|((repeat(revert hN;revert N;apply Pn.out));refine wk @aa.eq_1 ?_;(repeat(refine Pn.mk ?_;intro N hN)))|((try apply Or.inl);refine⟨_,ae.x (Mw) (sd @aa.eq_1),?_⟩;refine hN _ _ ?_;clear hN N)))
   exact jc (.inl rfl) (r1:=.bool false) (r2:=.int .i64 1) (sd @Nat.zero_add) (sd @Nat.zero_add) (by rw[la];simp only[eX,br,bV,e9,eA,Option.map_some];rfl)
  rw[hA]at Mw
  simp only[Bool.and_eq_true]at hA
  have hS:=lP.1 hA.1
  have hP:=lz.1 hA.2
  cases hT:fI s.aH 1 16
  ·rw[hT]at Ps
   have la:mo s=false:=(jB fun h=>by have:=h.NC;rw[hT]at this;cases this).symm
   (repeat(first|((repeat(revert hN;revert N;apply Pn.out));refine wk @aa.eq_1 ?_;(repeat(refine Pn.mk ?_;intro N hN)))|((try apply Or.inl);refine⟨_,ae.x (Mw) (sd @aa.eq_1),?_⟩;refine hN _ _ ?_;clear hN N)|((try apply Or.inl);refine⟨_,ae.x (Ps) (sd @aa.eq_1),?_⟩;refine hN _ _ ?_;clear hN N)))
   exact jc (.inl rfl) (r1:=.bool false) (r2:=.int .i64 2) (sd @Nat.zero_add) (sd @Nat.zero_add) (by rw[la];simp only[eX,br,bV,e9,eA,Option.map_some];rfl)
  have JY:=dB hT
  rw[hT]at Ps
  have ev:=Ip RK s.aE s.bZ.ah s.aH ab ab hS hP
  rw[aa]at ev
  have hsy:mo s=mN s.aE s.bZ.ah s.aH:=by
   cases hB:mN s.aE s.bZ.ah s.aH
   ·exact(jB fun h=>by have:=oy.2 h.holds;rw[hB]at this;cases this).symm
   ·exact(Au ⟨hS,hP,ab,hT,oy.1 hB⟩).symm
  by_cases sy:64<gS s.aE s.bZ.ah s.aH
  ·rw[decide_eq_false fun h=>h sy]at ev
   have la:mo s=false:=(jB fun h=>by have:=h.holds.1;unfold gS at sy;omega).symm
   (repeat(first|((repeat(revert hN;revert N;apply Pn.out));refine wk @aa.eq_1 ?_;(repeat(refine Pn.mk ?_;intro N hN)))|((try apply Or.inl);refine⟨_,ae.x (Mw) (sd @aa.eq_1),?_⟩;refine hN _ _ ?_;clear hN N)|((try apply Or.inl);refine⟨_,ae.x (Ps) (sd @aa.eq_1),?_⟩;refine hN _ _ ?_;clear hN N)|((try apply Or.inl);refine⟨_,ae.x (ev) (sd @aa.eq_1),?_⟩;refine hN _ _ ?_;clear hN N)))
   exact jc (.inl rfl) (r1:=.bool false) (r2:=.int .i64 4) (sd @Nat.zero_add) (sd @Nat.zero_add) (by rw[la,if_pos sy];simp only[eX,br,bV,e9,eA,Option.map_some])
  ·rw[decide_eq_true sy,<-hsy]at ev
   (repeat(first|((repeat(revert hN;revert N;apply Pn.out));refine wk @aa.eq_1 ?_;(repeat(refine Pn.mk ?_;intro N hN)))|((try apply Or.inl);refine⟨_,ae.x (Mw) (sd @aa.eq_1),?_⟩;refine hN _ _ ?_;clear hN N)|((try apply Or.inl);refine⟨_,ae.x (Ps) (sd @aa.eq_1),?_⟩;refine hN _ _ ?_;clear hN N)|((try apply Or.inl);refine⟨_,ae.x (ev) (sd @aa.eq_1),?_⟩;refine hN _ _ ?_;clear hN N)))
   exact jc (.inl rfl) (r1:=.bool (mo s)) (r2:=.int .i64 0) (sd @Nat.zero_add) (sd @Nat.zero_add) (by rw[if_neg sy];simp only[eX,br,bV,e9,eA,Option.map_some])
 generalize hcode:(if pE s.aE&&oD s.aE s.bZ.ah then(if fI s.aH 1 16 then(if 64<gS s.aE s.bZ.ah s.aH then(4:Int)else 0)else 2)else 1)=code at key
 rw[aa]at key
 cases hB:mo s
 ·rw[hB]at key
  (repeat(first|((repeat(revert hN;revert N;apply Pn.out));refine wk (tw @az.eq_1 @hd) ?_;(repeat(refine Pn.mk ?_;intro N hN)))|((try apply Or.inl);refine⟨_,ae.x (key) (sd (tw @az.eq_1 @hd)),?_⟩;refine hN _ _ ?_;clear hN N)))
  exact aC (b:=false) (.inl rfl) (sd @Nat.zero_add) rfl
 ·rw[hB]at key
  have hP:=uG.1 hB
  have hc:code=0:=by
   rw[<-hcode,lP.2 hP.set,lz.2 hP.Nt,hP.NC]
   have:=hP.holds.1
   simp only[Bool.and_self,if_true]
   rw[if_neg (by unfold gS;omega)]
  rw[hc]at key
  (repeat(first|((repeat(revert hN;revert N;apply Pn.out));refine wk (tw @az.eq_1 @hd) ?_;(repeat(refine Pn.mk ?_;intro N hN)))|((try apply Or.inl);refine⟨_,ae.x (key) (sd (tw @az.eq_1 @hd)),?_⟩;refine hN _ _ ?_;clear hN N)))
  exact aC (b:=true) (.inl rfl) (sd @Nat.zero_add) rfl
end Go.Proofs.YtihgaadadaekmaaGreatDoor.V

namespace Go.Proofs.YtihgaadadaekmaaGreatDoor.V
open Go.RowKit
variable {P:Program} {hs:Nat}
theorem FR {q n i:Nat} {ops:Array Oper} {Q:Exit->Act->World->Prop} {K K':Act->World->Prop} {a:Act} {w:World} (kN:∀(j:Nat) (o:Oper),ops[j]? =some o->∀c,o.op≠.defer c) (la:¬LetsOut Q) (hK:∀a w,K a w->K' a w) (h:wpOp P ops Q i K a w):wpOpIn (Fence.wide.inRound q) n P ops Q i K' a w:=by
 unfold wpOp at h
 unfold wpOpIn
 split at h
 ·rename_i ho;simp only[ho];exact hK _ _ h
 ·rename_i o ho
  simp only[ho]
  split at h
  ·rename_i hw
   rw[if_pos hw]
   replace h:=h.resolve_right fun hc=>la hc.2
   refine⟨fun _ _=>trivial,?_⟩
   rw[Oper.semAt_eq _ _ _ (kN i o ho)]
   unfold Oper.wp at h
   generalize (execOp a.eval o).run P w=r at *
   cases r with
   |ok m w'=>
    cases m<;>simp only[Oper.upon,Oper.uponIn]at h ⊢
    case value=>exact hK _ _ h
    case skip=>exact hK _ _ h
    case defer=>exact hK _ _ h
    case enter f args=>
     refine⟨fun h=>by simp[Fence.wide]at h,CallsIn.inRound q (callsIn_wide.2 (h.mono fun e Jd he=>?_))⟩
     cases e with
     |returned v=>exact hK _ _ he
     |panicked c=>exact he
     |outgrown=>exact he
    case row r args=>exact⟨fun h=>by simp[Fence.wide]at h,fun c cs _=>let ⟨v,Jd,h1,s⟩:=h c cs;⟨v,Jd,hK _ _ h1,stepsIn_wide.2 s⟩⟩
   |halt x w'=>cases x<;>simp only[Oper.upon,Oper.uponIn]at h ⊢;exact h
  ·rename_i hw
   rw[if_neg hw]
   exact⟨fun _ _=>trivial,hK _ _ h⟩
theorem uP {q n:Nat} {md:Region.Mode} {ops:Array Oper} {Q:Exit->Act->World->Prop} (kN:∀(j:Nat) (o:Oper),ops[j]? =some o->∀c,o.op≠.defer c) (la:¬LetsOut Q):∀(fuel:Nat) (listed:Array Bool) (a:Act) (w:World),wpAny P md ops Q fuel listed a w->wpAnyIn (Fence.wide.inRound q) n P md ops Q fuel listed a w
 |0,_,_,_,h=>h
 |fuel+1,listed,_,_,h=>⟨h.1,fun i hi=>FR kN la (fun a w=>uP kN la fuel _ a w) (h.2 i hi)⟩
def Dr:Op->Bool
 | .defer _=>true
 |_=>false
theorem H0 {ops:Array Oper} (h:(ops.all fun o=> !Dr o.op)=true):∀(j:Nat) (o:Oper),ops[j]? =some o->∀c,o.op≠.defer c:=fun j o hj c hc=>by
 have:=Array.all_eq_true_iff_forall_mem.1 h o (Array.mem_of_getElem? hj)
 rw[hc]at this
 simp[Dr]at this
theorem ya (hm:P.follows .mixedOrders=true) {nt site0 id q n:Nat} {ops:Array Oper} {vl:List bl} (h:pY P nt site0 ops true false=some vl) (kN:∀(j:Nat) (o:Oper),ops[j]? =some o->∀c,o.op≠.defer c)
  {K:Env->ax->Prop} {env:Env} {σ:ax} {a:Act} {w:World} {D:Nat->Prop} {ι:Names} {Q:Exit->Act->World->Prop} (hv:wpOps (Sound P) true vl K env σ) (ev:St P hs nt D ι env σ a w)
  (hK:∀g9 σ' a' w' D' ι',K g9 σ'->Step hs D ι w D' ι' w'->St P hs nt D' ι' g9 σ' a' w'->a'.defers=a.defers->Q .normal a' w'):(Code.region id ops true).wpIn (Fence.wide.inRound q) n P Q a w:=by
 have dk:∃hidden rP,allM (lF P ops nt site0 true false (jg ops) hidden) ops.toList 0=some rP/\vl=rP/\nB ops rP (jg ops)=true:=by
  unfold pY at h
  simp only[if_true,Bool.not_true,Bool.false_or]at h
  split at h
  ·rename_i rP h'
   split at h
   ·rename_i tU;simp at h;exact⟨_,rP,h',h.symm,tU⟩
   ·cases h
  ·cases h
 obtain⟨hidden,rP,dk,rfl,tU⟩:=dk
 obtain⟨qf,T0⟩:=ev.drew
 obtain⟨hlen,_⟩:=nq dk
 have ke:vl.length=ops.size:=by rw[hlen];simp
 have Bz:=uO (X:=Sound P) (K:=K) (n:=σ.next) tU ke vl 0 (Array.replicate ops.size false) env σ.get (by simp) (by simp) (fun i hi=>by simp[hi]) (by simp[ke]) (fun k i h=>by
  exfalso
  rcases Nat.lt_or_ge k ops.size with hk|hk
  ·simp[hk]at h
  ·simp[Nat.not_lt.2 hk]at h) hv
 rw[ke]at Bz
 have hw:=vJ (Q:=fun e a w=>e=.normal/\Q .normal a w) dk ops.size _ env σ.get a w.drew D ι (fun _=>False) Bz qf.Jc qf.used (fun _ h=>h.elim) qf.env qf.size fun jF g1 a1 w1 D1 ι1 U1 hk T S1 Rp E1 yL hd=>⟨rfl,hK jF ⟨g1,σ.next+1⟩ a1 w1 D1 ι1 hk (T0.trans T) ⟨S1,Rp.next,E1,yL⟩ hd⟩
 have fN:=uP (q:=q) (n:=n) (Q:=fun e a w=>e=.normal/\Q .normal a w) kN (by rintro⟨_,_,hc,_⟩;cases hc) ops.size _ a w.drew hw
 refine wpIn_mono (wpIn_region_any (id:=id) hm fN) ?_
 rintro e a w ⟨rfl,h⟩
 exact h
end Go.Proofs.YtihgaadadaekmaaGreatDoor.V

namespace Go.Proofs.YtihgaadadaekmaaGreatDoor.V
open Go.RowKit Go.Shelf
attribute [local go_sem] Oper.semAt_some
def gM (n₀:Nat) (W W':World):Prop:=W.heap.size<=W'.heap.size/\(∀(b:Nat) (cells:Array Value) (T:TypeId) (fr:Nat×Nat),W.heap[b]? =some (Obj.cells cells T fr)->T≠177->T≠196->W'.heap[b]? =W.heap[b]?)/\∀k,k<n₀->k<W.heap.size->W'.heap[k]? =W.heap[k]?
theorem gM.trans {n₀:Nat} {A B C:World} (h:gM n₀ A B) (k:gM n₀ B C):gM n₀ A C:=⟨Nat.le_trans h.1 k.1,fun b cells T fr hb h1 h2=>by
 have e:=h.2.1 b cells T fr hb h1 h2
 rw[<-e]at hb ⊢
 exact k.2.1 b cells T fr hb h1 h2,fun b hb hs=>(k.2.2 b hb (Nat.lt_of_lt_of_le hs h.1)).trans (h.2.2 b hb hs)⟩
theorem gM.of {n₀:Nat} {W W':World} (h:Below W.heap.size W W'):gM n₀ W W':=⟨h.size,fun b cells T fr hb _ _=>h.block b (Array.getElem?_eq_some_iff.1 hb).1,fun k _ hs=>h.block k hs⟩
theorem gM.refl (n₀:Nat) (W:World):gM n₀ W W:=⟨Nat.le_refl _,fun _ _ _ _ _ _ _=>rfl,fun _ _ _=>rfl⟩
theorem gM.b {n₀ m:Nat} (hm:n₀<=m) (W:World) (l:Nat) (o o':Obj) (hl:m<=l) (h:W.heap[l]? =some o) (hc:o.isCells=false) (_:o.isWalk=false):gM n₀ W (W.putObj l o'):=by
 refine⟨by simp,fun b cells T fr hb _ _=>?_,fun k hk _=>World.putObj_heap_other ab⟩
 by_cases pI:b=l
 ·subst pI;rw[h]at hb;cases hb;cases hc
 ·exact World.putObj_heap_other pI
def Jj (bs:List PB):List Value:=bs.flatMap fun b=>[.int .i64 b.a,.int .i64 b.b,.int .i64 b.s]
theorem Gy (bs:List PB) (b:PB):Jj (bs++[b])=Jj bs++[.int .i64 b.a,.int .i64 b.b,.int .i64 b.s]:=by simp[Jj]
def mP (s:aw) (l:List ao) (pre:List (LI l)):List PB:=(pre.map (·.1)).flatMap (w9 s l)
theorem vN (s:aw) (l:List ao) (pre:List (LI l)) (x:LI l):mP s l (pre++[x])=mP s l pre++w9 s l x.1:=by simp[mP]
theorem Gx (s:aw) (l:List ao) (x:Nat×Nat×Int):(w9 s l x).length<=1:=by
 unfold w9;split<;>simp
theorem Gz (s:aw) (l:List ao) (pre:List (LI l)):(mP s l pre).length<=pre.length:=by
 unfold mP
 induction pre with
 |nil=>simp
 |cons x r ih=>
  have:=Gx s l x.1
  simp only[List.map_cons,List.flatMap_cons,List.length_append,List.length_cons]at ih ⊢
  omega
theorem wJ (l:List ao) (i:Nat):∀m,(kj l i m).length<=m
 |0=>by simp[kj]
 |m+1=>by
  rw[mh,List.length_append]
  have:=wJ l i m
  have:(Ae l i (1-(m:Int))).length<=1:=by unfold Ae;split<;>simp
  omega
theorem Af (l:List ao):∀n,(kR l n).length<=n*2
 |0=>by simp[kR]
 |n+1=>by
  rw[lN,List.length_append]
  have:=Af l n
  have:=wJ l n 2
  omega
theorem zI {β:Type} (B:Nat) (c:Array Value) (t:TypeId) (fr:Nat×Nat):Own (fun(_:β) W=>W.heap[B]? =some (.cells c t fr)):=fun _ X _ row h hg hr=>(hg.block B (Array.getElem?_eq_some_iff.1 h).1 (fun e=>by
 obtain⟨o,ho,hc⟩:=hr B e.symm
 rw[h]at ho;cases ho;cases hc)).trans h
theorem gM.app {n₀:Nat} {W w1:World} {B k:Nat} {v v':Value} {xs:List Value} {tmp:Obj} (hv:Boxed W B 177 v) (fH:W.ownsRow n₀ 196 3 v k xs) (Dg:(W.alloc tmp).grownBy w1 v.ownBlock) (hb:Below n₀ W (w1.setCell ⟨B,0,none⟩ v')):gM n₀ W (w1.setCell ⟨B,0,none⟩ v'):=by
 refine⟨hb.size,fun b cells T fr h h1 h2=>?_,fun k hk _=>hb.block k hk⟩
 have dD:=(Array.getElem?_eq_some_iff.1 h).1
 have hbB:b≠B:=by
  rintro rfl
  rw[show W.heap[b]? = _ from hv]at h
  cases h
  exact h1 rfl
 have QV:some b≠v.ownBlock:=by
  rcases fH.2 with⟨rfl,_⟩|⟨g,cap,cur,rfl,_,hg,_⟩
  ·simp[Value.ownBlock]
  ·intro e
   obtain rfl:b=g:=by simpa[Value.ownBlock]using e
   rw[hg]at h;cases h
   exact h2 rfl
 refine(Below.heap_setCell w1 ⟨B,0,none⟩ v' b hbB).trans ?_
 exact(Dg.block b (by simp;omega) QV).trans (Below.heap_alloc W tmp b dD)
theorem Qg {w:World} {vS:Value} {l:List ao} (hP:oB w vS l):Gf (gM w.heap.size) vS l where
 refl:=gM.refl _
 trans:=gM.trans
 of:=gM.of
 size h:=h.1
 typed h:=h.2.1
 pl {W W'} h hp:=by
  obtain⟨A,c,rfl,hm,hc⟩:=hp.sl
  refine⟨A,c,rfl,hm,?_⟩
  by_cases hl:l=[]
  ·exact .inl hl
  have lf:0<l.length:=List.length_pos_iff.2 hl
  rcases hc with h0|⟨b,o,rfl,jR⟩
  ·exact absurd h0 hl
  obtain⟨A',c',e,_,kd⟩:=hP.sl
  cases e
  rcases kd with h0|⟨b',o',e,hcell'⟩
  ·exact absurd h0 hl
  cases e
  have hb:=sL (hcell' 0 lf).1
  have hk:=h.2.2 b hb (sL (jR 0 lf).1)
  refine .inr ⟨b,o,rfl,fun i hi=>?_⟩
  have xG:∀x,W'.cell? ⟨b,x,none⟩=W.cell? ⟨b,x,none⟩:=fun x=>World.cell?_of_block hk
  rw[xG,xG,xG]
  exact jR i hi
theorem rrE {P:Program} {nt site0:Nat} {ops:Array Oper} {vl:List bl} (_:xc P ops site0 false (jg ops) (qm P false ops.toList 0) ops.toList 0=some vl:=by(conv=>lhs;cbv)<;>exact rfl) (h:pY P nt site0 ops true false=some vl:=by kernel_rfl):pY P nt site0 ops true false=some vl:=h
theorem HH (l:List Value) (d:Value):l=(List.range l.length).map fun i=>(⟨l⟩:Array Value).getD i d:=by
 refine List.ext_getElem (by simp) fun i h1 h2=>?_
 simp[h1]
theorem Cg {X:fv} {d:Bool} {ops:List bl} {K:Env->ax->Prop} {env:Env} {σ:ax} (h:ea X (.eG d ops) (fun _=>K) env σ):wpOps X d ops K env σ:=h
theorem tu (W:World) (T:TypeId) (x y z:Value):∀(j:Nat) (u:Value),[x,y,z][j]? =some u->(W.alloc (.cells #[x,y,z] T)).cell? ((⟨W.heap.size,0,none⟩:Addr).add j)=some u:=fun j u h=>by
 have hb:(W.alloc (.cells #[x,y,z] T)).heap[W.heap.size]? =some (.cells #[x,y,z] T (0,0)):=World.alloc_heap_new _ _
 have e:∀k,(W.alloc (.cells #[x,y,z] T)).cell? ⟨W.heap.size,k,none⟩=(#[x,y,z]:Array Value)[k]? :=fun k=>by
  unfold World.cell?
  rw[show(W.alloc (.cells #[x,y,z] T)).heap[(⟨W.heap.size,k,none⟩:Addr).block]? = _ from hb]
  rfl
 rw[show(⟨W.heap.size,0,none⟩:Addr).add j=⟨W.heap.size,j,none⟩ by simp[Addr.add];exact fun h=>h.symm,e]
 simpa using h
def GF (n b:Nat):Names:=fun id=>if id=⟨1,0⟩then some ⟨n,2,2,none⟩else if id=⟨2,0⟩then some ⟨n+1,1,1,none⟩else if id=⟨3,0⟩then some ⟨n+1+1,1,1,none⟩else if id=⟨4,0⟩then some ⟨b,2,2,none⟩else if id=⟨5,0⟩then some ⟨n+1+1+1,1,1,none⟩else none
def K4 (s:aw) (l:List ao) (i k:Nat):Rows:=fun id=>if id=⟨1,0⟩then some ⟨false,2,[aa s]⟩else if id=⟨2,0⟩then some ⟨false,1,[[.sl (l.map ai)]]⟩else if id=⟨4,0⟩then some ⟨false,2,[[.int .i64 (i:Int),.int .i64 (k:Int)]]⟩else none
def LV (s:aw) (l:List ao) (i k:Nat) (d:Int):Env:=cu [.agg (aa s),.agg [.sl (l.map ai)],.ptr ⟨1,0⟩ 0 0,.ptr ⟨2,0⟩ 0 0,.bK,.ptr ⟨3,0⟩ 0 0,.ptr ⟨4,0⟩ 0 0,.int .i64 d,.undef,.agg [.sl (l.map ai)],.fn 186 [.ptr ⟨5,0⟩ 0 0],.agg [.int .i64 (i:Int),.int .i64 (k:Int)],.int .i64 d]
theorem Co {P:Program} {W:World} {D:Nat->Prop} {ι:Names} {B:rR} {cells:Array Value} {T:TypeId} {cs:List AV} (hk:B.k=none) (hb:W.heap[B.b]? =some (.cells cells T (0,0))) (hC:cells.size=B.C) (hz:B.sz=cs.length) (hl:cs.length=cells.size) (hf:∀a∈cs,a.cell=true) (hr:∀(j:Nat) (a:AV),cs[j]? =some a->∃v,cells[j]? =some v/\cG P W D ι a v):ij P W D ι B ⟨false,cs.length,[cs]⟩:=
 kU.obj ⟨hz,⟨cells,T,hb,hC⟩,by simp;omega,fun c hc=>by simp at hc;rw[hc],fun c hc=>by simp at hc;rw[hc];exact hf,fun i j c a hi hj=>by
  match i,hi with
  |0,hi=>
   simp at hi;subst hi
   obtain⟨v,h1,h2⟩:=hr j a hj
   exact⟨v,by simp[World.cell?,hb,h1],h2⟩
  |i+1,hi=>simp at hi⟩ hk
theorem Hv:(Tryz.prog.info? 196).map (fun i=>(i.zero,i.size,i.bytes))=some (some (.agg #[.int .i64 0,.int .i64 0,.int .i64 0]),3,24):=by kernel_rfl
end Go.Proofs.YtihgaadadaekmaaGreatDoor.V

namespace Go.Proofs.YtihgaadadaekmaaGreatDoor.V
open Go.RowKit Go.Shelf
attribute [local go_sem] Oper.semAt_some
attribute [local irreducible] ea wpOps gR Call
attribute [local go_sem] aM fP eL gh ga cE upd cu K.av cL AV.cells AV.cell rowOf rowsOf part ld rowAt bY ck dI ef ig bL da ez gn e7 du ek cY cX dV dW bR bm cQ bQ cT cR ei eo ej cP bW cZ eh bP aQ cV cC ib bw cH bS aY dF bu dK AV.undef bF bH dY ee dU eb cF ew eD cw eu er cU cW List.getD_cons_zero List.getD_cons_succ List.getD_nil List.all_cons List.all_nil Bool.and_true Bool.true_and Bool.and_self Bool.not_true Bool.not_false Option.map_some Option.map_none Option.bind_some Option.bind_none List.length_cons List.length_nil List.take_succ_cons List.take_zero List.take_nil List.drop_succ_cons List.drop_zero List.drop_nil List.head?_cons List.map_cons List.map_nil List.getElem?_cons_zero List.getElem?_cons_succ List.cons_append List.nil_append List.append_nil List.length_map List.set_cons_zero List.set_cons_succ Nat.reduceMul eq_self Int.toNat_natCast Int.natCast_nonneg and_self true_and and_true decide_true decide_false Bool.false_eq_true Nat.zero_add Nat.add_zero List.contains_cons List.contains_nil Bool.or_false Bool.false_or beq_self_eq_true Nat.reduceBEq ne_eq not_true_eq_false not_false_eq_true Id.mk.injEq false_and and_false Nat.reduceLT Int.reduceLE Int.reduceLT Int.reduceToNat Int.reduceNeg Int.reduceAdd Nat.le_refl List.length_append beq_true beq_false Bool.not_eq_eq_eq_not or_false false_or dE ad aj aI bE cj aW bf aV bo cN bG
theorem GC (s:aw) (l:List ao) (hF:iE s) (hA:qU s l) (w:World) (Ag At:Option Addr) (ng cg nt ct:Nat) (vS:Value) (hT:je Tryz.prog w (fun b=>b<w.heap.size) (.agg (aa s)) (.agg #[.slice Ag ng cg,.slice At nt ct])) (hP:oB w vS l):
  CallsIn Fence.wide 5 Tryz.prog 154 #[.agg #[.slice Ag ng cg,.slice At nt ct],.agg #[vS]] w fun e W'=>∃v,e=.returned v/\W'.ownsRow w.heap.size 196 3 v (cv s l).length (Jj (cv s l))/\(v=.slice none 0 0↔cv s l=[])/\Below w.heap.size w W':=by
 obtain⟨A,cp,rfl,_,_⟩:=hP.sl
 obtain⟨i0,hi,F6,yL,k5⟩:=info_parts Hv
 refine callsIn_of_wp_marks Tryz.func154 rfl trivial ?_ rfl
 simp only[Tryz.ntmps154,List.size_toArray,List.length_cons,List.length_nil,Nat.reduceAdd,Nat.reduceSub,Array.replicate_succ,Array.replicate_zero,List.push_toArray,List.append_toArray,List.nil_append,List.cons_append]
 gi_wp2_with (refine⟨trivial,?_⟩;gi_at_call 172;refine(xY _ _ _).mono ?_;rintro e w' ⟨rfl,rfl⟩)
 have bT:((w.alloc (.cells #[.slice Ag ng cg,.slice At nt ct] 39)).heap[w.heap.size]?)=some (.cells #[.slice Ag ng cg,.slice At nt ct] 39 (0,0)):=World.alloc_heap_new _ _
 obtain⟨w1,pv⟩:∃w1,w.alloc (.cells #[.slice Ag ng cg,.slice At nt ct] 39)=w1:=⟨_,rfl⟩
 have OD:w1.heap.size=w.heap.size+1:=by rw[<-pv];simp
 have yF:Below w.heap.size w w1:=by rw[<-pv];exact(Below.refl _ w).alloc (Nat.le_refl _) _
 rw[pv]at bT ⊢
 clear pv
 have bA:=Boxed.new w1 42 (.slice A l.length cp)
 have bO:=Boxed.new (w1.alloc (.cells #[.slice A l.length cp] 42)) 177 (.slice none 0 0)
 have bN:=Boxed.new ((w1.alloc (.cells #[.slice A l.length cp] 42)).alloc (.cells #[.slice none 0 0] 177)) 42 (.slice A l.length cp)
 replace bA:=(bA.alloc (.cells #[.slice none 0 0] 177)).alloc (.cells #[.slice A l.length cp] 42)
 replace bO:=bO.alloc (.cells #[.slice A l.length cp] 42)
 simp only[World.size_alloc,OD]at bA bO bN
 have oE:Below w1.heap.size w1 (((w1.alloc (.cells #[.slice A l.length cp] 42)).alloc (.cells #[.slice none 0 0] 177)).alloc (.cells #[.slice A l.length cp] 42)):=(((Below.refl _ w1).alloc (Nat.le_refl _) _).alloc (by simp) _).alloc (by simp;omega) _
 have fe:(((w1.alloc (.cells #[.slice A l.length cp] 42)).alloc (.cells #[.slice none 0 0] 177)).alloc (.cells #[.slice A l.length cp] 42)).heap.size=w.heap.size+4:=by simp;omega
 obtain⟨W0,hW0⟩:∃W0,((w1.alloc (.cells #[.slice A l.length cp] 42)).alloc (.cells #[.slice none 0 0] 177)).alloc (.cells #[.slice A l.length cp] 42)=W0:=⟨_,rfl⟩
 rw[hW0]at bA bO bN oE fe ⊢
 clear hW0
 have zF:Below w.heap.size w W0:=yF.trans (oE.mono ab)
 replace bT:=(oE.block w.heap.size ab).trans bT
 have hP0:oB W0 (.slice A l.length cp) l:=hP.below zF
 have kl:=Qg hP
 have pI:=o8 (s:=s) hA.1
 refine wpIn_rangeFunc_ownH (n:=5) rfl ab (gf:=186) (lb:= #[.pointer (some ⟨w.heap.size+1+1+1,0,none⟩)]) rfl trivial (enters_of Tryz.func186 (by kernel_rfl) rfl)
  (HX l hA.1 (w.heap.size+1+1+1) (5-1) ab (.slice A l.length cp) (gM w.heap.size) kl W0 bN hP0) gM.trans (gM.b ab) (Below.refl _ _) (fun _=>rfl)
  (fun pre W=>((∃v,Boxed W (w.heap.size+1+1) 177 v/\W.ownsRow w.heap.size 196 3 v (mP s l pre).length (Jj (mP s l pre))/\(v=.slice none 0 0↔mP s l pre=[]))/\(Boxed W (w.heap.size+1) 42 (.slice A l.length cp)/\W.heap[w.heap.size]? =some (.cells #[.slice Ag ng cg,.slice At nt ct] 39 (0,0))))/\Below w.heap.size w W)
  (fun _ _ _=>False)
  (OwnFrom.and (OwnFrom.and (Own.from (holdsRow_own w.heap.size (w.heap.size+1+1) 177 196 3 (fun pre=>(mP s l pre).length) (fun pre=>Jj (mP s l pre)) (fun pre v=>v=.slice none 0 0↔mP s l pre=[])) _) (OwnFrom.and (Own.from (boxed_own _ _ _) _) (Own.from (zI _ _ _ _) _))) (ownFrom_below (Nat.le_refl _) ab))
  (fun _ _ _ _ _ hs _ _=>hs)
  ⟨⟨⟨_,bO,World.ownsRow_nil _ _ _ _,by simp[mP]⟩,bA,bT⟩,zF⟩
  (fun x a' W=>∃Bx,w.heap.size+1+1<Bx/\W.heap[Bx]? =some (.cells #[.int .i64 (x.1.1:Int),.int .i64 (x.1.2.1:Int)] 230 (0,0))/\a'={tmps:= #[.agg #[.slice Ag ng cg,.slice At nt ct],.agg #[.slice A l.length cp],.pointer (some ⟨w.heap.size,0,none⟩),.pointer (some ⟨w.heap.size+1,0,none⟩),.slice none 0 0,.pointer (some ⟨w.heap.size+1+1,0,none⟩),.pointer (some ⟨Bx,0,none⟩),.int .i64 x.1.2.2,undef,.agg #[.slice A l.length cp],.func (.func 186) #[] #[.pointer (some ⟨w.heap.size+1+1+1,0,none⟩)],.agg #[.int .i64 (x.1.1:Int),.int .i64 (x.1.2.1:Int)],.int .i64 x.1.2.2,undef,undef,undef,undef,undef,undef,undef,undef,undef,undef,undef,undef,undef,undef,undef,undef,undef,undef,undef,undef,undef,undef,undef,undef,undef,undef,undef,undef,undef],defers:=[]})
  (fun x a' _ X Y row hs hg hr=>by obtain⟨Bx,h1,h2,h3⟩:=hs;exact⟨Bx,h1,zI Bx _ _ _ () X Y row h2 hg (fun r e=>(hr r e).2),h3⟩)
  ?assign ?body ?done ?stop
 case assign=>
  rintro q pre ⟨⟨x0,x1,x2⟩,hx⟩ W K ⟨⟨⟨v,hv,fH,hnil⟩,bA1,bT1⟩,hB⟩ hK
  simp only[C1]
  gi_wp2
  exact hK _ _ ((KeepsOthers.alloc _ _).from _) (gM.of ((Below.refl _ W).alloc (Nat.le_refl _) _)) ⟨⟨⟨v,hv.alloc _,fH.alloc _,hnil⟩,bA1.alloc _,(Below.heap_alloc _ _ _ (Array.getElem?_eq_some_iff.1 bT1).1).trans bT1⟩,hB.alloc hB.size _⟩ ⟨W.heap.size,hv.lt,World.alloc_heap_new _ _,rfl⟩
 case body=>
  rintro q pre ⟨⟨x0,x1,x2⟩,hx⟩ a' W hq hqr ⟨⟨⟨v,hv,fH,hnil⟩,bA1,bT1⟩,hB⟩ ⟨Bx,hBx,bX,rfl⟩ dD
  obtain⟨AL,J2,yJ⟩:=hx
  simp only at AL J2 yJ bX
  obtain⟨A',c',e',_,hc⟩:=(hP.below hB).sl
  cases e'
  have dq:∃b o,A=some ⟨b,o,none⟩/\W.cell? ⟨b,o+x0*3+2,none⟩=some (.int .i64 (bC l x0).bJ)/\W.cell? ⟨b,o+x1*3+2,none⟩=some (.int .i64 (bC l x1).bJ):=by
   rcases hc with rfl|⟨b,o,rfl,jR⟩
   ·simp at AL
   ·exact⟨b,o,rfl,by rw[Nat.add_assoc];exact(jR x0 AL).2.2,by rw[Nat.add_assoc];exact(jR x1 J2).2.2⟩
  obtain⟨b,o,rfl,cP0,cP1⟩:=dq
  have cT0:W.cell? ⟨w.heap.size,0,none⟩=some (.slice Ag ng cg):=by simp[World.cell?,bT1]
  have cT1:W.cell? ⟨w.heap.size,1,none⟩=some (.slice At nt ct):=by simp[World.cell?,bT1]
  have cX0:W.cell? ⟨Bx,0,none⟩=some (.int .i64 (x0:Int)):=by simp[World.cell?,bX]
  have cX1:W.cell? ⟨Bx,1,none⟩=some (.int .i64 (x1:Int)):=by simp[World.cell?,bX]
  have cA:=bA1.cell
  have dP0:W.drew.cell? ⟨b,o+x0*3+2,none⟩=some (.int .i64 (bC l x0).bJ):=cP0
  have dP1:W.drew.cell? ⟨b,o+x1*3+2,none⟩=some (.int .i64 (bC l x1).bJ):=cP1
  have dT0:W.drew.cell? ⟨w.heap.size,0,none⟩=some (.slice Ag ng cg):=cT0
  have dT1:W.drew.cell? ⟨w.heap.size,1,none⟩=some (.slice At nt ct):=cT1
  have dX0:W.drew.cell? ⟨Bx,0,none⟩=some (.int .i64 (x0:Int)):=cX0
  have dX1:W.drew.cell? ⟨Bx,1,none⟩=some (.int .i64 (x1:Int)):=cX1
  have dA:W.drew.cell? ⟨w.heap.size+1,0,none⟩=some (.slice (some ⟨b,o,none⟩) l.length cp):=cA
  have rq:∀i,i<l.length->bC l i∈l:=fun i hi=>by
   unfold bC
   rw[List.getD_eq_getElem?_getD,List.getElem?_eq_getElem hi]
   exact List.getElem_mem hi
  have Sv:=mixed
  have hfw:=hA.1.FW
  have QW:=LS s hF (bC l x0).bJ x2 (bC l x1).bJ (hA.2 _ (rq x0 AL)) (hA.2 _ (rq x1 J2)) (nI ab)
  have hTW:je Tryz.prog W (fun b=>b<w.heap.size) (.agg (aa s)) (.agg #[.slice Ag ng cg,.slice At nt ct]):=hT.frame (fun b hb=>hB.block b hb) (fun _ h=>h)
  have hAW:je Tryz.prog W (fun b=>b<w.heap.size) (.sl (l.map ai)) (.slice (some ⟨b,o,none⟩) l.length cp):=hP.eJ.frame (fun b hb=>hB.block b hb) (fun _ h=>h)
  obtain⟨fT,hT0,hT1⟩:∃f:Nat->Value,(∀j,j<(aa s).length->(#[Value.slice Ag ng cg,.slice At nt ct])[j]? =some (f j))/\∀j a,(aa s)[j]? =some a->je Tryz.prog W (fun b=>b<w.heap.size) a (f j):=by
   cases hTW with
   |agg _ _ f _ _ h3 h4=>exact⟨f,h3,h4⟩
  have ev:St Tryz.prog W.heap.size 42 (fun b=>b<w.heap.size) (GF w.heap.size Bx) (LV s l x0 x1 x2) ⟨K4 s l x0 x1,1⟩ {tmps:= #[.agg #[.slice Ag ng cg,.slice At nt ct],.agg #[.slice (some ⟨b,o,none⟩) l.length cp],.pointer (some ⟨w.heap.size,0,none⟩),.pointer (some ⟨w.heap.size+1,0,none⟩),.slice none 0 0,.pointer (some ⟨w.heap.size+1+1,0,none⟩),.pointer (some ⟨Bx,0,none⟩),.int .i64 x2,undef,.agg #[.slice (some ⟨b,o,none⟩) l.length cp],.func (.func 186) #[] #[.pointer (some ⟨w.heap.size+1+1+1,0,none⟩)],.agg #[.int .i64 (x0:Int),.int .i64 (x1:Int)],.int .i64 x2,undef,undef,undef,undef,undef,undef,undef,undef,undef,undef,undef,undef,undef,undef,undef,undef,undef,undef,undef,undef,undef,undef,undef,undef,undef,undef,undef,undef,undef],defers:=[]} W:=by
   have n1:(GF w.heap.size Bx) ⟨1,0⟩=some ⟨w.heap.size,2,2,none⟩:=rfl
   have n2:(GF w.heap.size Bx) ⟨2,0⟩=some ⟨w.heap.size+1,1,1,none⟩:=rfl
   have n3:(GF w.heap.size Bx) ⟨3,0⟩=some ⟨w.heap.size+1+1,1,1,none⟩:=rfl
   have n4:(GF w.heap.size Bx) ⟨4,0⟩=some ⟨Bx,2,2,none⟩:=rfl
   have n5:(GF w.heap.size Bx) ⟨5,0⟩=some ⟨w.heap.size+1+1+1,1,1,none⟩:=rfl
   have rp:∀(id:Id) (B:rR),(GF w.heap.size Bx) id=some B->B.k=none->cG Tryz.prog W (fun b=>b<w.heap.size) (GF w.heap.size Bx) (.ptr id 0 0) (.pointer (some ⟨B.b,0,none⟩)):=fun id B h hk=>by
    have:=cG.ptr (P:=Tryz.prog) (w:=W) (D:=fun b=>b<w.heap.size) id 0 0 B h hk
    simpa using this
   have ri:∀n:Int,cG Tryz.prog W (fun b=>b<w.heap.size) (GF w.heap.size Bx) (.int .i64 n) (.int .i64 n):=fun n=>.eJ _ _ (.int _ _)
   have hA1:je Tryz.prog W (fun b=>b<w.heap.size) (.agg [.sl (l.map ai)]) (.agg #[.slice (some ⟨b,o,none⟩) l.length cp]):=.agg _ _ (fun _=>.slice (some ⟨b,o,none⟩) l.length cp) rfl (fun a ha=>by simp at ha;rw[ha];rfl) (fun j hj=>by match j,hj with|0,_=>rfl|j+1,hj=>simp at hj) (fun j a ha=>by match j,ha with|0,ha=>simp at ha;subst ha;exact hAW|j+1,ha=>simp at ha)
   refine⟨⟨Nat.le_refl _,fun b hb=>Nat.lt_of_lt_of_le hb hB.size,fun id r hg=>?_,fun id kg r r' B B' h _ hw=>?_⟩,fun id hid=>?_,fun t=>?_,rfl⟩
   ·replace hg:K4 s l x0 x1 id=some r:=hg
    unfold K4 at hg
    split at hg
    ·rename_i e;subst e;injection hg with hg;subst hg
     exact⟨_,n1,Co (cs:=aa s) rfl bT1 rfl rfl rfl (fun a ha=>by simp[aa]at ha;rcases ha with rfl|rfl<;>rfl) (fun j a ha=>⟨_,hT0 j (List.getElem?_eq_some_iff.1 ha).1,.eJ _ _ (hT1 j a ha)⟩),fun h=>(by cases h),fun h=>(by cases h)⟩
    ·split at hg
     ·rename_i e;subst e;injection hg with hg;subst hg
      exact⟨_,n2,Co (cs:=[.sl (l.map ai)]) rfl bA1 rfl rfl rfl (fun a ha=>by simp at ha;rw[ha];rfl) (fun j a ha=>by match j,ha with|0,ha=>simp at ha;subst ha;exact⟨_,rfl,.eJ _ _ hAW⟩|j+1,ha=>simp at ha),fun h=>(by cases h),fun h=>(by cases h)⟩
     ·split at hg
      ·rename_i e;subst e;injection hg with hg;subst hg
       exact⟨_,n4,Co (cs:=[.int .i64 (x0:Int),.int .i64 (x1:Int)]) rfl bX rfl rfl rfl (fun a ha=>by simp at ha;rcases ha with rfl|rfl<;>rfl) (fun j a ha=>by match j,ha with|0,ha=>simp at ha;subst ha;exact⟨_,rfl,ri _⟩|1,ha=>simp at ha;subst ha;exact⟨_,rfl,ri _⟩|j+2,ha=>simp at ha),fun h=>(by cases h),fun h=>(by cases h)⟩
      ·cases hg
   ·exfalso
    replace h:K4 s l x0 x1 id=some r:=h
    unfold K4 at h
    split at h
    ·injection h with h;subst h;cases hw
    ·split at h
     ·injection h with h;subst h;cases hw
     ·split at h
      ·injection h with h;subst h;cases hw
      ·cases h
   ·left
    unfold GF at hid
    repeat' (split at hid)
    all_goals first|(rename_i e;subst e;exact Nat.zero_lt_one)|exact absurd rfl hid
   ·match t with
    |0=>exact .eJ _ _ hTW
    |1=>exact .eJ _ _ hA1
    |2=>exact rp _ _ n1 rfl
    |3=>exact rp _ _ n2 rfl
    |4=>exact .eJ _ _ .bK
    |5=>exact rp _ _ n3 rfl
    |6=>exact rp _ _ n4 rfl
    |7=>exact ri _
    |8=>exact cG.undef
    |9=>exact .eJ _ _ hA1
    |10=>exact .fn _ _ _ (fun _=>.pointer (some ⟨w.heap.size+1+1+1,0,none⟩)) (by kernel_rfl) rfl (fun j hj=>by match j,hj with|0,_=>rfl|j+1,hj=>simp at hj) (fun j a ha=>by match j,ha with|0,ha=>simp at ha;subst ha;exact rp _ _ n5 rfl|j+1,ha=>simp at ha)
    |11=>exact .agg _ _ (fun j=>if j=0 then .int .i64 (x0:Int)else .int .i64 (x1:Int)) rfl (fun a ha=>by simp at ha;rcases ha with rfl|rfl<;>rfl) (fun j hj=>by match j,hj with|0,_=>rfl|1,_=>rfl|j+2,hj=>simp at hj;omega) (fun j a ha=>by match j,ha with|0,ha=>simp at ha;subst ha;exact ri _|1,ha=>simp at ha;subst ha;exact ri _|j+2,ha=>simp at ha)
    |12=>exact ri _
    |13=>exact cG.undef
    |14=>exact cG.undef
    |15=>exact cG.undef
    |16=>exact cG.undef
    |17=>exact cG.undef
    |18=>exact cG.undef
    |19=>exact cG.undef
    |20=>exact cG.undef
    |21=>exact cG.undef
    |22=>exact cG.undef
    |23=>exact cG.undef
    |24=>exact cG.undef
    |25=>exact cG.undef
    |26=>exact cG.undef
    |27=>exact cG.undef
    |28=>exact cG.undef
    |29=>exact cG.undef
    |30=>exact cG.undef
    |31=>exact cG.undef
    |32=>exact cG.undef
    |33=>exact cG.undef
    |34=>exact cG.undef
    |35=>exact cG.undef
    |36=>exact cG.undef
    |37=>exact cG.undef
    |38=>exact cG.undef
    |39=>exact cG.undef
    |40=>exact cG.undef
    |41=>exact cG.undef
    |t+42=>exact cG.undef
  have hV:wpOps (Call Tryz.prog) true ?vl (fun e _=>e 5=.ptr ⟨3,0⟩ 0 0/\e 6=.ptr ⟨4,0⟩ 0 0/\e 8=.int .i64 (iR s (bC l x0).bJ x2 (bC l x1).bJ)) (LV s l x0 x1 x2) ⟨K4 s l x0 x1,1⟩:= ?hv
  gi_wp2
  refine ya mixed (rrE (nt:=42) (site0:=154005000)) (H0 (by kernel_rfl)) (mA (fun _ _ _ _ h=>gN mixed h) oZ (fun _ _ h=>h) _ _ _ hV) ev ?_
  rintro e1 σ1 ⟨tm,df⟩ w3 D1 ι1 ⟨h5,h6,h8⟩ T1 St1 BD
  case hv=>
   refine Cg ?_
   have e0:=gH AL
   have e1:=gH J2
   (repeat(first|((repeat(revert hN;revert N;apply Pn.out));refine wk (tw @e0 (tw @e1 (tw @LV.eq_1 (tw @K4.eq_1 (tw @ai.eq_1 @aa.eq_1))))) ?_;(repeat(refine Pn.mk ?_;intro N hN)))|((try apply Or.inl);refine⟨_,ae.x (QW) (sd (tw @e0 (tw @e1 (tw @LV.eq_1 (tw @K4.eq_1 (tw @ai.eq_1 @aa.eq_1)))))),?_⟩;refine hN _ _ ?_;clear hN N)))
   exact⟨sd @LV.eq_1,sd @LV.eq_1,sd @LV.eq_1⟩
  ·have zG:Below W.heap.size W w3:=T1.below
   have EF:∀id B,GF w.heap.size Bx id=some B->ι1 id=some B:=T1.names
   have p5:tm.getD 5 undef=.pointer (some ⟨w.heap.size+1+1,0,none⟩):=by
    have g:=St1.env 5
    rw[h5]at g
    obtain⟨B,e,hB,_⟩:=jb g
    have h:=EF ⟨3,0⟩ ⟨w.heap.size+1+1,1,1,none⟩ rfl
    rw[h]at hB;injection hB with hB;subst hB
    simpa using e
   have p6:tm.getD 6 undef=.pointer (some ⟨Bx,0,none⟩):=by
    have g:=St1.env 6
    rw[h6]at g
    obtain⟨B,e,hB,_⟩:=jb g
    have h:=EF ⟨4,0⟩ ⟨Bx,2,2,none⟩ rfl
    rw[h]at hB;injection hB with hB;subst hB
    simpa using e
   have p8:tm.getD 8 undef=.int .i64 (iR s (bC l x0).bJ x2 (bC l x1).bJ):=by
    have g:=St1.env 8
    rw[h8]at g
    exact dh g
   have fe:=St1.size
   obtain⟨tl⟩:=tm
   obtain⟨f,htl,hf⟩:∃f:Nat->Value,tl=[f 0,f 1,f 2,f 3,f 4,f 5,f 6,f 7,f 8,f 9,f 10,f 11,f 12,f 13,f 14,f 15,f 16,f 17,f 18,f 19,f 20,f 21,f 22,f 23,f 24,f 25,f 26,f 27,f 28,f 29,f 30,f 31,f 32,f 33,f 34,f 35,f 36,f 37,f 38,f 39,f 40,f 41]/\∀i,f i=(⟨tl⟩:Array Value).getD i undef:=by
    refine⟨fun i=>(⟨tl⟩:Array Value).getD i undef,?_,fun _=>rfl⟩
    have h:=HH tl undef
    rw[show tl.length=42 from fe]at h
    exact h
   rw[<-hf]at p5 p6 p8
   have Se:df=[]:=BD
   subst Se
   clear hf St1 ev hV
   subst htl
   rw[p5,p6,p8]
   have Rd:=hv.kept (qc zG) (by simp)
   have Dk:=fH.kept (qc zG) (by rcases fH.2 with⟨e,_⟩|⟨_,_,_,e,_⟩<;>rw[e]<;>simp[Value.ownBlock])
   have hc3:=Rd.cell
   have hn3:w.heap.size<=w3.heap.size:=Nat.le_trans hB.size zG.size
   have eX0:w3.cell? ⟨Bx,0,none⟩=some (.int .i64 (x0:Int)):=(zG.cell (p:=⟨Bx,0,none⟩) (Array.getElem?_eq_some_iff.1 bX).1).trans cX0
   have eX1:w3.cell? ⟨Bx,1,none⟩=some (.int .i64 (x1:Int)):=(zG.cell (p:=⟨Bx,1,none⟩) (Array.getElem?_eq_some_iff.1 bX).1).trans cX1
   have mV:(mP s l pre).length<=2097152:=by
    have h1:=Gz s l pre
    have h2:=Af l l.length
    omega
   have hKF:KeepsFrom (w.heap.size+4) W w3:=⟨zG.size,fun k o _ hk _=>(zG.block k (Array.getElem?_eq_some_iff.1 hk).1).trans hk⟩
   have hKT:gM w.heap.size W w3:=gM.of zG
   have Rt:w3.heap[w.heap.size+1]? = _:=(zG.block _ bA1.lt).trans bA1
   have Ru:=(zG.block _ (Array.getElem?_eq_some_iff.1 bT1).1).trans bT1
   by_cases lf:0<iR s (bC l x0).bJ x2 (bC l x1).bJ
   ·have zH:mP s l (pre++[⟨(x0,x1,x2),AL,J2,yJ⟩])=mP s l pre++[⟨x0,x1,iR s (bC l x0).bJ x2 (bC l x1).bJ⟩]:=by
     rw[vN];simp only[w9,if_pos lf]
    gi_wp2_with (gi_at_builtin;refine wpListIn_append_own _ rfl _ _ 177 rfl w.heap.size 196 i0 (.agg #[.int .i64 0,.int .i64 0,.int .i64 0]) 3 24 (by kernel_rfl) hi F6 yL k5 rfl (by decide) _ _ _ rfl (Dk.alloc _) ⟨w3.heap.size,0,none⟩ 1 1 [.int .i64 (x0:Int),.int .i64 (x1:Int),.int .i64 (iR s (bC l x0).bJ x2 (bC l x1).bJ)] rfl rfl (tu _ _ _ _ _) (by simp[Value.oneCell']) (by unfold maxLen;omega) ab (by simp;omega) ?_;intro v' w4 Lo Dg _;obtain⟨g',cap',rfl⟩:=ownsRow_succ Lo;obtain⟨wm,M0,AK,tP,FY⟩:=Rd.appended (by decide) Dk hn3 ab Lo Dg;have I4:=gM.app Rd Dk Dg FY;have oQ:=wm.cell;have PE:=wm.frozen)
    exact⟨hKF.trans (tP.from _),hKT.trans I4,⟨⟨_,M0,by rw[zH,Gy,List.length_append];exact AK,by rw[zH];simp⟩,(I4.2.1 _ _ _ _ Rt (by decide) (by decide)).trans Rt,(I4.2.1 _ _ _ _ Ru (by decide) (by decide)).trans Ru⟩,hB.trans ((zG.mono hB.size).trans FY)⟩
   ·have zH:mP s l (pre++[⟨(x0,x1,x2),AL,J2,yJ⟩])=mP s l pre:=by
     rw[vN];simp only[w9,if_neg lf,List.append_nil]
    gi_wp2
    exact⟨hKF,hKT,⟨⟨v,Rd,by rw[zH];exact Dk,by rw[zH];exact hnil⟩,Rt,Ru⟩,hB.trans (zG.mono hB.size)⟩
 case done=>
  rintro D ys W hD Dn ⟨⟨⟨v,hv,fH,hnil⟩,_⟩,hB⟩ hK
  have hc:=hv.cell
  have IY:mP s l ys=cv s l:=by rw[GD,<-Dn];rfl
  rw[IY]at fH hnil
  gi_wp2
  refine⟨by simp,.inl ⟨_,_,rfl,run_takeDeferred hK,?_⟩⟩
  exact⟨_,results_tmp rfl _ _ _,v,rfl,ownsRow_putObj fH _ hK rfl,hnil,hB.trans (belowK_b (w:=w) (Nat.le_refl _) W D _ _ ab hK rfl rfl)⟩
 case stop=>
  rintro D c pre W _ _ h _
  exact h.elim
end Go.Proofs.YtihgaadadaekmaaGreatDoor.V

namespace Go.Proofs.YtihgaadadaekmaaGreatDoor.V
open Go.RowKit Go.Shelf
theorem CS:∀{bs:List PB} {i j:Nat} {b:PB},bs[i]? =some b->j<3->(Jj bs)[i*3+j]? =([.int .i64 b.a,.int .i64 b.b,.int .i64 b.s]:List Value)[j]?
 |c::bs,0,j,b,h,hj=>by
  simp at h;subst h
  simp only[Jj,List.flatMap_cons,Nat.zero_mul,Nat.zero_add]
  rw[List.getElem?_append_left (by simpa using hj)]
 |c::bs,i+1,j,b,h,hj=>by
  simp only[List.getElem?_cons_succ]at h
  have:=CS (bs:=bs) (i:=i) (j:=j) h hj
  simp only[Jj,List.flatMap_cons]at this ⊢
  rw[List.getElem?_append_right (by simp;omega),<-this]
  congr 1
  simp;omega
theorem qj {P:Program} {w:World} {D:Nat->Prop} {rows:List (List AV)} {v:Value} (h:je P w D (.sl rows) v):∃A n c,v=.slice A n c:=by
 cases h with
 |AM a c _=>exact⟨_,_,_,rfl⟩
 |sl=>exact⟨_,_,_,rfl⟩
theorem pD {P:Program} {w:World} {D:Nat->Prop} {ι:Names} {rows:List (List AV)} {v:Value} (h:cG P w D ι (.sl rows) v):je P w D (.sl rows) v:=by
 cases h with
 |eJ _ _ h=>exact h
theorem KA {P:Program} {w:World} {D:Nat->Prop} {l:List ao} {v:Value} (h:je P w D (.sl (l.map ai)) v):oB w v l:=by
 generalize hr:l.map ai=rows at h
 cases h with
 |AM a c hc=>
  have:l=[]:=by simpa using hr
  subst this
  exact⟨a,c,rfl,⟨Nat.zero_le _,hc⟩,.inl rfl⟩
 |sl _ b o n c sz vs h1 h2 h3 h4 h5 h5' h6 h7=>
  have hn:n=l.length:=by rw[<-h1,<-hr];simp
  subst hn
  refine⟨some ⟨b,o,none⟩,c,rfl,⟨h2,h3⟩,?_⟩
  by_cases hl:l=[]
  ·exact .inl hl
  refine .inr ⟨b,o,rfl,fun i hi=>?_⟩
  have hg:rows[i]? =some (ai (bC l i)):=by rw[<-hr];exact gH hi
  have fe:sz=3:=by rw[<-h5 _ (List.mem_of_getElem? hg)];rfl
  subst fe
  have k:∀(j:Nat) (x:Int),(ai (bC l i))[j]? =some (.int .i64 x)->j<3->w.cell? ⟨b,o+(i*3+j),none⟩=some (.int .i64 x):=fun j x hj h3=>by
   have:=h7 i j _ _ hg hj
   rw[h6 i j hi h3,dh (.eJ (ι:=fun _=>none) _ _ this)]
  exact⟨k 0 _ rfl ab,k 1 _ rfl ab,k 2 _ rfl ab⟩
theorem LU:AN:=by
 intro s l hS hA n
 refine iv ?_
 intro hs D ι w vs S U A
 obtain⟨u0,JZ,r0⟩:=A.2 0 _ rfl
 obtain⟨u1,P0,r1⟩:=A.2 1 _ rfl
 have dD:∀b,D b->b<w.heap.size:=S.dead
 obtain⟨v0,f0,rfl,F6,_,Q1,SJ⟩:=iu r0
 obtain⟨v1,f1,rfl,yL,_,PE,MR⟩:=iu r1
 have g0:=pD (SJ 0 _ rfl)
 have g1:=pD (SJ 1 _ rfl)
 have a0:=pD (MR 0 _ rfl)
 obtain⟨Ag,ng,cg,eg⟩:=qj g0
 obtain⟨At,nt,ct,et⟩:=qj g1
 have e0:v0= #[.slice Ag ng cg,.slice At nt ct]:=by
  obtain⟨vl⟩:=v0
  have q0:=Q1 0 (by simp[aa])
  have q1:=Q1 1 (by simp[aa])
  rw[eg]at q0;rw[et]at q1
  match vl,F6 with
  |[a,b],_=>simp at q0 q1;rw[q0,q1]
 have e1:v1= #[f1 0]:=by
  obtain⟨vl⟩:=v1
  have q0:=PE 0 (by simp)
  match vl,yL with
  |[a],_=>simp at q0;rw[q0]
 subst e0 e1
 have evs:vs= #[.agg #[.slice Ag ng cg,.slice At nt ct],.agg #[f1 0]]:=by
  obtain⟨vl⟩:=vs
  have hz:=A.1
  match vl,hz with
  |[a,b],_=>simp at JZ P0;rw[JZ,P0]
 subst evs
 have up:∀{a v},je Tryz.prog w D a v->je Tryz.prog w (fun b=>b<w.heap.size) a v:=fun h=>h.frame (fun _ _=>rfl) dD
 have hT:je Tryz.prog w (fun b=>b<w.heap.size) (.agg (aa s)) (.agg #[.slice Ag ng cg,.slice At nt ct]):=
  .agg _ _ f0 F6 (fun a ha=>by simp[aa]at ha;rcases ha with rfl|rfl<;>rfl) Q1 (fun j a ha=>by
   match j,ha with
   |0,ha=>simp[aa]at ha;subst ha;exact up g0
   |1,ha=>simp[aa]at ha;subst ha;exact up g1
   |j+2,ha=>simp[aa]at ha)
 refine(callsIn_wide.1 (GC s l hS.form hA w Ag At ng cg nt ct (f1 0) hT (KA a0))).mono ?_
 rintro e W' ⟨v,rfl,⟨hl,hown⟩,hnil,hB⟩
 have S':fZ Tryz.prog hs D ι (fun _=>none) W':=S.stay (fun b hb=>hB.block b hb) hB.size (fun _ h=>h) (fun b hb=>Nat.lt_of_lt_of_le (dD b hb) hB.size) (fun _ h=>.inl h) (fun _ _ h=>h)
 have T:Step hs D ι w D ι W':=Step.stay S (fun b hb=>hB.block b hb) hB.size hB.os hB.tape hB.output (fun _ h=>h) (fun _ h=>.inl h) (fun _ _ h=>h)
 rcases hown with⟨rfl,h0⟩|⟨gb,cap,cur,rfl,PJ,l9,hle,JF,dq,om⟩
 ·have Pv:cv s l=[]:=hnil.1 rfl
  exact⟨.bK,_,n,D,ι,_,rfl,⟨.bK,kb _ _,by rw[Pv];rfl⟩,T,S',U,Nat.le_refl _,.eJ _ _ .bK⟩
 ·have Pv:cv s l≠[]:=fun h=>by have:=hnil.2 h;cases this
  have lr:ι ⟨0,n⟩=none:=fresh U (fun h=>h)
  have gF:∀{a v},cG Tryz.prog W' D ι a v->cG Tryz.prog W' D (kE ι ⟨0,n⟩ ⟨gb,3,cap*3,none⟩) a v:=fun h=>h.frame (fun _ _=>rfl) (fun _ h=>h) (fM lr)
  have hR:ij Tryz.prog W' D (kE ι ⟨0,n⟩ ⟨gb,3,cap*3,none⟩) ⟨gb,3,cap*3,none⟩ ⟨true,3,(cv s l).map aA⟩:=by
   refine kU.obj ⟨rfl,⟨cur,_,l9,dq⟩,?_,fun cs hc=>?_,fun cs hc a ha=>?_,fun i j cs a hi hj=>?_⟩ rfl
   ·simp only[List.length_map];exact Nat.mul_le_mul_right 3 hle
   ·obtain⟨b,_,rfl⟩:=List.mem_map.1 hc;rfl
   ·obtain⟨b,_,rfl⟩:=List.mem_map.1 hc
    simp[aA]at ha
    rcases ha with rfl|rfl|rfl<;>rfl
   ·rw[List.getElem?_map]at hi
    simp only[Option.map_eq_some_iff]at hi
    obtain⟨b,hb,rfl⟩:=hi
    have hj3:j<3:=by have:=(List.getElem?_eq_some_iff.1 hj).1;simpa[aA]using this
    have oR:=(List.getElem?_eq_some_iff.1 hb).1
    have hg:=CS hb hj3
    rw[<-om,List.getElem?_take,if_pos ab]at hg
    have key:∀x:Value,([.int .i64 b.a,.int .i64 b.b,.int .i64 b.s]:List Value)[j]? =some x->W'.cell? ⟨gb,i*3+j,none⟩=some x:=fun x hx=>by
     rw[hx]at hg
     have e:W'.cell? ⟨gb,i*3+j,none⟩=cur[i*3+j]? :=by
      unfold World.cell?
      rw[show W'.heap[(⟨gb,i*3+j,none⟩:Addr).block]? = _ from l9]
      rfl
     rw[e,<-Array.getElem?_toList];exact hg
    match j,hj with
    |0,hj=>simp[aA]at hj;subst hj;exact⟨_,key _ rfl,.eJ _ _ (.int _ _)⟩
    |1,hj=>simp[aA]at hj;subst hj;exact⟨_,key _ rfl,.eJ _ _ (.int _ _)⟩
    |2,hj=>simp[aA]at hj;subst hj;exact⟨_,key _ rfl,.eJ _ _ (.int _ _)⟩
    |j+3,hj=>simp[aA]at hj
  have S2:=fZ.add (r:=⟨true,3,(cv s l).map aA⟩) S S' lr PJ hR
  refine⟨.own ⟨0,n⟩ 0 (cv s l).length,bY (fun _=>none) ⟨0,n⟩ ⟨true,3,(cv s l).map aA⟩,n+1,D,kE ι ⟨0,n⟩ ⟨gb,3,cap*3,none⟩,_,rfl,⟨yg (cv s l),?_,rfl⟩,T.trans (Step.stay S' (fun _ _=>rfl) (Nat.le_refl _) rfl rfl rfl (fun _ h=>h) (fun _ h=>.inl h) (fM lr)),S2,U.upd.next,Nat.le_succ _,.own _ _ _ _ _ _ (dZ _ _ _) rfl hle (.inr (by simp)) (by simp) JF⟩
  unfold yg
  rw[if_neg Pv]
  have hg:(bY (fun _=>none) (⟨0,n⟩:Id) ⟨true,3,(cv s l).map aA⟩:Rows) ⟨0,n⟩=some ⟨true,3,(cv s l).map aA⟩:=by simp[bY]
  have:=fG (n:=5) hg rfl fun b=>sO _ 4 b
  simpa using this
end Go.Proofs.YtihgaadadaekmaaGreatDoor.V

namespace Go.Proofs.YtihgaadadaekmaaGreatDoor.V
open Go.RowKit
attribute [local irreducible] ea wpOps gR Call
attribute [local go_sem] aM fP eL gh ga cE upd cu K.av cL AV.cells AV.cell rowOf rowsOf part ld rowAt bY ck dI ef ig bL da ez gn e7 du ek cY cX dV dW bR bm cQ bQ cT cR ei eo ej cP bW cZ eh bP aQ cV cC ib bw cH bS aY dF bu dK AV.undef bF bH dY ee dU eb cF ew eD cw eu er cU cW List.getD_cons_zero List.getD_cons_succ List.getD_nil List.all_cons List.all_nil Bool.and_true Bool.true_and Bool.and_self Bool.not_true Bool.not_false Option.map_some Option.map_none Option.bind_some Option.bind_none List.length_cons List.length_nil List.take_succ_cons List.take_zero List.take_nil List.drop_succ_cons List.drop_zero List.drop_nil List.head?_cons List.map_cons List.map_nil List.getElem?_cons_zero List.getElem?_cons_succ List.cons_append List.nil_append List.append_nil List.length_map List.set_cons_zero List.set_cons_succ Nat.reduceMul eq_self Int.toNat_natCast Int.natCast_nonneg and_self true_and and_true decide_true decide_false Bool.false_eq_true Nat.zero_add Nat.add_zero List.contains_cons List.contains_nil Bool.or_false Bool.false_or beq_self_eq_true Nat.reduceBEq ne_eq not_true_eq_false not_false_eq_true Id.mk.injEq false_and and_false Nat.reduceLT Int.reduceLE Int.reduceLT Int.reduceToNat Int.reduceNeg Int.reduceAdd Nat.le_refl List.length_append beq_true beq_false Bool.not_eq_eq_eq_not or_false false_or dE ad aj aI bE cj aW bf aV bo cN bG
theorem xz (s:cl) (l:List ao) (hn:fx s.aE) (hm:pS s) (hl:l.length<=1048576):ae Tryz.prog 41 [.agg (az s),.agg [.sl (l.map ai)]] (.int .i64 (if nu s l then 0 else 1)):=by
 refine ae.body dM rfl fun vk n0=>?_
 clear vk
 have h1:=uV LU s hn hm.s.g hm.s.t hm.s.s hm.a
 have h2:=mJ s.aE l hn hm.s.g hm.s.t hm.s.s hl
 cases b1:mo s
 ·rw[b1]at h1
  rw[az]at h1 ⊢
  (repeat(first|((repeat(revert hN;revert N;apply Pn.out));refine wk @Nat.zero_add ?_;(repeat(refine Pn.mk ?_;intro N hN)))|((try apply Or.inl);refine⟨_,ae.x (h1) (sd @Nat.zero_add),?_⟩;refine hN _ _ ?_;clear hN N)))
  exact aZ (b:=1) (.inl rfl) (sd @Nat.zero_add) (by simp[nu,b1])
 have dP:pE s.aE=true:=lP.2 (uG.1 b1).set
 rw[b1]at h1
 rw[dP,Bool.true_and]at h2
 rw[az]at h1 ⊢
 rw[aa]at h2
 cases b2:oD s.aE l
 ·rw[b2]at h2
  (repeat(first|((repeat(revert hN;revert N;apply Pn.out));refine wk @Nat.zero_add ?_;(repeat(refine Pn.mk ?_;intro N hN)))|((try apply Or.inl);refine⟨_,ae.x (h1) (sd @Nat.zero_add),?_⟩;refine hN _ _ ?_;clear hN N)|((try apply Or.inl);refine⟨_,ae.x (h2) (sd @Nat.zero_add),?_⟩;refine hN _ _ ?_;clear hN N)))
  exact aZ (b:=1) (.inl rfl) (sd @Nat.zero_add) (by simp[nu,b1,b2])
 ·rw[b2]at h2
  (repeat(first|((repeat(revert hN;revert N;apply Pn.out));refine wk @Nat.zero_add ?_;(repeat(refine Pn.mk ?_;intro N hN)))|((try apply Or.inl);refine⟨_,ae.x (h1) (sd @Nat.zero_add),?_⟩;refine hN _ _ ?_;clear hN N)|((try apply Or.inl);refine⟨_,ae.x (h2) (sd @Nat.zero_add),?_⟩;refine hN _ _ ?_;clear hN N)))
  exact aZ (b:=0) (.inl rfl) (sd @Nat.zero_add) (by simp[nu,b1,b2])
end Go.Proofs.YtihgaadadaekmaaGreatDoor.V
