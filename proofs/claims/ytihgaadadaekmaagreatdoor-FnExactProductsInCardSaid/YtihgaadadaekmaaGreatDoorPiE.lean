/- DecodeForm and ProductsIn: plain, and by the reference. -/
import Derived.Test.YtihgaadadaekmaaGreatDoorPiD
import Derived.Test.YtihgaadadaekmaaGreatDoorPiC
import Derived.RangeFuncNested
import Derived.RangeFuncBound
import Derived.RangeFuncCalls
import Derived.RangeFuncLeaves
import Derived.Shelf.Abstract
import Derived.Shelf.RegionOpen
import Derived.WalkKit
import Derived.OwnWalkIn
import Derived.TacticsInMore
import Derived.LoopNIn
import Derived.LoopIn
import Derived.BigQuiet
import Derived.RangeFuncBox
import Derived.RangeFuncWrites
import Derived.Maps.AppendAt
import Derived.Test.YtihgaadadaekmaaGreatDoorPiB
import Derived.OrdersIn
set_option linter.unusedVariables false
set_option linter.unusedSimpArgs false
set_option maxRecDepth 100000
set_option maxHeartbeats 16000000
namespace Go.Proofs.YtihgaadadaekmaaGreatDoor.V
open Go.RowKit
attribute [local irreducible] ea wpOps gS Call
attribute [local go_sem] aM fQ eM gi gh cE upd cu K.av cL AV.cells AV.cell rowOf rowsOf part ld rowAt bY ck dI eh ij bL da eA gp e8 du eo cY cX dV dW bR bm cQ bQ cT cR ej er ek cP bW cZ ei bP aQ cV cC ig bw cH bS aX dG bu dL AV.undef bF bH dY ef dU ec cF ez eF cw ev eu cU cW List.getD_cons_zero List.getD_cons_succ List.getD_nil List.all_cons List.all_nil Bool.and_true Bool.true_and Bool.and_self Bool.not_true Bool.not_false Option.map_some Option.map_none Option.bind_some Option.bind_none List.length_cons List.length_nil List.take_succ_cons List.take_zero List.take_nil List.drop_succ_cons List.drop_zero List.drop_nil List.head?_cons List.map_cons List.map_nil List.getElem?_cons_zero List.getElem?_cons_succ List.cons_append List.nil_append List.append_nil List.length_map List.set_cons_zero List.set_cons_succ Nat.reduceMul eq_self Int.toNat_natCast Int.natCast_nonneg and_self true_and and_true decide_true decide_false Bool.false_eq_true Nat.zero_add Nat.add_zero List.contains_cons List.contains_nil Bool.or_false Bool.false_or beq_self_eq_true Nat.reduceBEq ne_eq not_true_eq_false not_false_eq_true Id.mk.injEq false_and and_false Nat.reduceLT Int.reduceLE Int.reduceLT Int.reduceToNat Int.reduceNeg Int.reduceAdd Nat.le_refl List.length_append beq_true beq_false Bool.not_eq_eq_eq_not or_false false_or dE ad aj aI bE cj aV bf aU bo cN bG
def outFD (s:ar) (l:List aq) (f:dF) (j:Nat):Int:=jH (BL s l ⟨f.aL+1+(j:Int),(f.ak.length:Int)⟩ 0) ⟨#[111]⟩ 2
def vN (k n:Nat):ByteArray:=(((⟨#[112]⟩++eb k)++⟨#[95]⟩)++eb n)++⟨#[95]⟩
def fc (s:ar) (l:List aq) (f:dF) (k:Nat):Int:=jH (BL s l ⟨f.aL,(k:Int)+1⟩ 1) (vN k f.aL.toNat) 2
def kS (D:Nat->Int) (n:Nat):List Int:=(List.range n).map D
theorem nL (D:Nat->Int) (n:Nat):(kS D n).length=n:=by simp[kS]
theorem wP (D:Nat->Int) (n:Nat):kS D (n+1)=kS D n++[D n]:=by simp[kS,List.range_succ]
def ye (D:Nat->Int) (n:Nat):List Int×Int:=if (List.range n).all (fun j=>decide (0<=D j))=true then(kS D n,0)else([],9)
theorem DO {D:Nat->Int} {n j:Nat} (hj:j<n) (h:D j<0):ye D n=([],9):=by
 have:(List.range n).all (fun j=>decide (0<=D j))=false:=by
  simp only[List.all_eq_false,List.mem_range]
  exact⟨j,hj,by simp;exact h⟩
 rw[ye,this];rfl
theorem Ak {D:Nat->Int} {n:Nat} (h:∀j,j<n->0<=D j):ye D n=(kS D n,0):=by
 have:(List.range n).all (fun j=>decide (0<=D j))=true:=by
  simpa using h
 rw[ye,this];rfl
noncomputable def pH (s:cl) (a:dj) (f:dF):List Int×Int:=if (nw s a.ah&&nH f)=true then ye (fc s.aE a.ah f) f.ak.length else([],1)
theorem Dp {f:dF} (h:nH f=true):(1<=f.aL/\f.aL<=4)/\(1<=f.aY.length/\f.aY.length<=3)/\f.ak.length<=81:=by
 unfold nH at h
 simp only[Bool.and_eq_true,decide_eq_true_eq]at h
 have h1:=dB h.1.1.1.1
 have h2:=dB h.1.1.1.2
 exact⟨h1,ab,h.1.1.2⟩
theorem wW (k n:Nat):(vN k n).size<=7:=by
 have h1:=iV k
 have h2:=iV n
 have e1:(⟨#[112]⟩:ByteArray).size=1:=rfl
 have e2:(⟨#[95]⟩:ByteArray).size=1:=rfl
 unfold vN
 simp only[ByteArray.size_append]
 omega
theorem HU (D:Nat->Int) (n:Nat):(ye D n).1.length<=n:=by
 unfold ye
 split
 ·rw[nL];exact Nat.le_refl _
 ·simp
theorem Fk (s:ar) (g:Int) (h0:0<=g) (h1:g<=s.aw.length) (u:ByteArray) (hu:u.size<=1000):ae Tryz.prog 84 [.cJ (aa s),.int .i64 g,.str u] (.int .i64 (if g=0 then -1 else jH (iD s (g-1)).aB u 2)):=by
 refine ae.body dK rfl fun hl n0=>?_
 have hn:s.aw.length<=9223372036854775807:=by
  have h1:=(hl (.cJ (aa s)) (by simp)).uh (a:=.sl (s.aw.map bd)) (by simp[aa])
  simpa using h1.len
 clear hl
 by_cases hg:g=0
 ·have e:decide (g=0)=true:=decide_eq_true hg
  (try((repeat(revert hN;revert N;apply Pn.out));refine wk (tw @aa.eq_1 @e) ?_;(repeat(refine Pn.mk ?_;intro N hN))))
  exact aZ (b:=-1) (.inl rfl) (sd @Nat.zero_add) (by rw[if_pos hg])
 ·have e:decide (g=0)=false:=decide_eq_false hg
  have hw:IntKind.i64.wrap (g-1)=g-1:=aT ab
  have jA:0<=g-1:=ab
  have dR:(s.aw.map bd)[(g-1).toNat]? =some (bd (iD s (g-1))):=getD_map bd ab
  have Qj:IntKind.i64.wrap ((u.size:Int)+1)=(u.size:Int)+1:=aT ab
  rw[if_neg hg]
  obtain⟨nm0,EV⟩:∃u,iD s (g-1)=u:=⟨_,rfl⟩
  rw[EV]at dR ⊢
  obtain⟨nm,st⟩:=nm0
  (try dsimp only)
  by_cases hs:nm.size=u.size+1
  ·have es:decide ((nm.size:Int)=(u.size:Int)+1)=true:=decide_eq_true ab
   have J8:(0:Int)<=(u.size:Int):=ab
   have OJ:(u.size:Int)<=(nm.size:Int):=ab
   have J9:u.size<=nm.size:=ab
   by_cases hp:nm.extract 0 u.size=u
   ·have ep:decide (nm.extract 0 u.size=u)=true:=decide_eq_true hp
    have b1:=wg (s:=nm) (i:=u.size) ab
    have c1:=tF (s:=nm) (i:=u.size) ab
    generalize nm[u.size]=x1 at b1 c1
    have Kc:=x1.toNat_lt
    by_cases h48:x1.toNat=48
    ·have e1:decide ((x1.toNat:Int)=48)=true:=decide_eq_true ab
     have Td:IntKind.u8.wrap ((x1.toNat:Int)-48)=0:=by rw[h48];rfl
     have Nf:IntKind.i64.wrap 0=0:=rfl
     (try((repeat(revert hN;revert N;apply Pn.out));refine wk (tw @aa.eq_1 (tw @bd.eq_1 (tw @e (tw @hw (tw @jA (tw @dR (tw @Qj (tw @es (tw @J8 (tw @OJ (tw @J9 (tw @ep (tw @b1 (tw @e1 (tw @Td @Nf))))))))))))))) ?_;(repeat(refine Pn.mk ?_;intro N hN))))
     exact aZ (b:=0) (.inl rfl) (sd @Nat.zero_add) (by rw[jH,if_pos ⟨hs,hp,ab,ab⟩,c1];omega)
    ·have e1:decide ((x1.toNat:Int)=48)=false:=decide_eq_false ab
     by_cases h49:x1.toNat=49
     ·have e2:decide ((x1.toNat:Int)=49)=true:=decide_eq_true ab
      have Td:IntKind.u8.wrap ((x1.toNat:Int)-48)=1:=by rw[h49];rfl
      have Nf:IntKind.i64.wrap 1=1:=rfl
      (try((repeat(revert hN;revert N;apply Pn.out));refine wk (tw @aa.eq_1 (tw @bd.eq_1 (tw @e (tw @hw (tw @jA (tw @dR (tw @Qj (tw @es (tw @J8 (tw @OJ (tw @J9 (tw @ep (tw @b1 (tw @e1 (tw @e2 (tw @Td @Nf)))))))))))))))) ?_;(repeat(refine Pn.mk ?_;intro N hN))))
      exact aZ (b:=1) (.inl rfl) (sd @Nat.zero_add) (by rw[jH,if_pos ⟨hs,hp,ab,ab⟩,c1];omega)
     ·have e2:decide ((x1.toNat:Int)=49)=false:=decide_eq_false ab
      (try((repeat(revert hN;revert N;apply Pn.out));refine wk (tw @aa.eq_1 (tw @bd.eq_1 (tw @e (tw @hw (tw @jA (tw @dR (tw @Qj (tw @es (tw @J8 (tw @OJ (tw @J9 (tw @ep (tw @b1 (tw @e1 @e2)))))))))))))) ?_;(repeat(refine Pn.mk ?_;intro N hN))))
      exact aZ (b:=-1) (.inl rfl) (sd @Nat.zero_add) (by rw[jH,if_neg (fun q=>ab)])
   ·have ep:decide (nm.extract 0 u.size=u)=false:=decide_eq_false hp
    (try((repeat(revert hN;revert N;apply Pn.out));refine wk (tw @aa.eq_1 (tw @bd.eq_1 (tw @e (tw @hw (tw @jA (tw @dR (tw @Qj (tw @es (tw @J8 (tw @OJ (tw @J9 @ep))))))))))) ?_;(repeat(refine Pn.mk ?_;intro N hN))))
    exact aZ (b:=-1) (.inl rfl) (sd @Nat.zero_add) (by rw[jH,if_neg (fun q=>hp q.2.1)])
  ·have es:decide ((nm.size:Int)=(u.size:Int)+1)=false:=decide_eq_false ab
   (try((repeat(revert hN;revert N;apply Pn.out));refine wk (tw @aa.eq_1 (tw @bd.eq_1 (tw @e (tw @hw (tw @jA (tw @dR (tw @Qj @es))))))) ?_;(repeat(refine Pn.mk ?_;intro N hN))))
   exact aZ (b:=-1) (.inl rfl) (sd @Nat.zero_add) (by rw[jH,if_neg (fun q=>hs q.1)])
theorem Ko (s:cl) (hF:iG s.aE) (l:List aq) (hA:re s.aE l) (p:cr) (d:Int) (hd:fJ d 0 3=true) (u:ByteArray) (hu:u.size<=1000):
  ae Tryz.prog 55 [.cJ (az s),.cJ [.sl (l.map ai)],.agg (ao p),.int .i64 d,.str u] (.int .i64 (jH (BL s.aE l p d) u 2)):=by
 refine ae.body dK rfl fun hl n0=>?_
 clear hl
 have xR:=Km l p hA.1.Rt (by have:=hA.1.Gc;omega)
 rw[ao]at xR ⊢
 rw[az]
 by_cases h0:vW l p<0
 ·(repeat(first|((repeat(revert hN;revert N;apply Pn.out));refine wk @h0 ?_;(repeat(refine Pn.mk ?_;intro N hN)))|((try apply Or.inl);refine⟨_,ae.x (xR) (sd @h0),?_⟩;refine hN _ _ ?_;clear hN N)))
  exact aZ (b:=-1) (.inl rfl) (sd @Nat.zero_add) (by rw[BL,if_pos h0,zx])
 ·have ht:=zb hA (p:=p) ab
  have ML:jH (BL s.aE l p d) u 2=if dc (dd s.aE (vW l p)) d=0 then -1 else jH (iD s.aE (dc (dd s.aE (vW l p)) d-1)).aB u 2:=by
   rw[BL,if_neg h0]
   split
   ·exact zx
   ·rfl
  rw[ML]
  generalize vW l p=t at xR h0 ht
  obtain⟨Tl,Tm,Tn⟩:=kH ht
  have s1:=kE (hF.nV _ Tn) hd
  have gl:=hF.sf _ Tn _ (qI (hF.nV _ Tn) hd)
  have d0:=(dB hd).1
  have hv:=(Fk s.aE (dc (dd s.aE t) d) gl.1 gl.2 u hu).cut mixed (.ptr _ [.sl (s.bZ.ah.map ai),.int .i64 s.aH] (.same _ (.same _ .nil)))
  rw[aa]at hv
  simp only[List.cons_append,List.nil_append]at hv
  obtain⟨z,hz⟩:∃z:Int,(if dc (dd s.aE t) d=0 then -1 else jH (iD s.aE (dc (dd s.aE t) d-1)).aB u 2)=z:=⟨_,rfl⟩
  rw[hz]at hv ⊢
  (repeat(first|((repeat(revert hN;revert N;apply Pn.out));refine wk (tw @h0 (tw @Tl (tw @Tm (tw @bj.eq_1 (tw @s1 @d0))))) ?_;(repeat(refine Pn.mk ?_;intro N hN)))|((try apply Or.inl);refine⟨_,ae.x (xR) (sd (tw @h0 (tw @Tl (tw @Tm (tw @bj.eq_1 (tw @s1 @d0)))))),?_⟩;refine hN _ _ ?_;clear hN N)|((try apply Or.inl);refine⟨_,ae.x (hv) (sd (tw @h0 (tw @Tl (tw @Tm (tw @bj.eq_1 (tw @s1 @d0)))))),?_⟩;refine hN _ _ ?_;clear hN N)))
  exact aZ (b:=z) (.inl rfl) (sd @Nat.zero_add) rfl
theorem Bp:∀n:Fin 100,kX (n.1:Int)=eb n.1:=by
 intro n
 have h:∀k:Nat,k<100->0<k->(oJ k:List UInt8)=if k<10 then[UInt8.ofNat (48+k)]else[UInt8.ofNat (48+k / 10),UInt8.ofNat (48+k % 10)]:=by
  intro k hk h0
  rw[qd ab]
  by_cases Dr:k<10
  ·rw[show k / 10=0 by omega,oj,if_pos Dr,show k % 10=k by omega];rfl
  ·rw[qd (show k / 10≠0 by omega),show k / 10 / 10=0 by omega,oj,if_neg Dr,show k / 10 % 10=k / 10 by omega];rfl
 unfold kX eb
 by_cases hn:n.1=0
 ·rw[if_pos ab,hn];rfl
 ·rw[if_neg ab,Int.toNat_natCast,h n.1 n.2 ab]
theorem uK (n:Nat) (h:n<100):ae Tryz.prog 61 [.int .i64 (n:Int)] (.str (eb n)):=by
 have h1:=ED (n:Int) ab ab
 rw[Bp ⟨n,h⟩]at h1
 exact h1
theorem xe (s:cl) (a:dj) (f:dF) (hn:fA s.aE) (hg:s.aE.aw.length<=1048576) (ht:s.aE.ah.length<=1048576) (xV:f.aY.length<=1048576) (yR:∀l∈f.aY,l.length<=1048576):
  ∃w,mH au (pH s a f).1 w/\iP Tryz.prog 31 [.agg (az s),.agg (aD a),.agg (bc f)] (.iN [w,.int .i64 (pH s a f).2]):=by
 obtain⟨l⟩:=a
 have h1:=HN s l f hn hg ht xV yR
 rw[aD]
 (try dsimp only)
 cases hask:nw s l&&nH f
 ·rw[hask]at h1
  have hr:pH s ⟨l⟩ f=([],1):=by rw[pH,hask];rfl
  rw[hr]
  refine⟨.bK,.inl ⟨rfl,rfl⟩,?_⟩
  refine iP.body dK rfl fun vC σ=>?_
  clear vC
  rw[az,bc]at h1 ⊢
  (repeat(first|((repeat(revert hN;revert N;apply Pn.out));refine wk @Nat.zero_add ?_;(repeat(refine Pn.mk ?_;intro N hN)))|((try apply Or.inl);refine⟨_,ae.x (h1) (sd @Nat.zero_add),?_⟩;refine hN _ _ ?_;clear hN N)))
  exact sM (.inl rfl) (vs:=[.bK,.int .i64 1]) (sd @Nat.zero_add) (by simp[eB,bG,ad,aj,aI,aV])
 rw[hask]at h1
 have hr:pH s ⟨l⟩ f=ye (fc s.aE l f) f.ak.length:=by rw[pH,hask];rfl
 rw[hr]
 obtain⟨Si,lv⟩:=Bool.and_eq_true_iff.1 hask
 obtain⟨hP,hA⟩:=za.1 Si
 obtain⟨Nk,ksu,kcu⟩:=Dp lv
 have gx:(f.ak.map bh).length=f.ak.length:=by simp
 have iv:(f.aY.map kf).length=f.aY.length:=by simp
 have key:∀(w:AV) (c:Int),((∃j,j<f.ak.length/\fc s.aE l f j<0)->w=.bK/\c=9)->((∀j,j<f.ak.length->0<=fc s.aE l f j)->w=.sl ((kS (fc s.aE l f) f.ak.length).map au)/\c=0)->
   iP Tryz.prog 31 [.agg (az s),.agg [.sl (l.map ai)],.agg (bc f)] (.iN [w,.int .i64 c]):=by
  intro w c pB wI
  refine iP.body dK rfl fun vC σ=>?_
  clear vC
  have xR:=fun k:Nat=>Ko s hP.set.form l hA ⟨f.aL,(k:Int)+1⟩ 1 (nK ab) (vN k f.aL.toNat) (by have:=wW k f.aL.toNat;omega)
  rw[az,bc]at h1
  rw[az]at xR
  rw[az,bc]
  (repeat(first|((repeat(revert hN;revert N;apply Pn.out));refine wk @Nat.zero_add ?_;(repeat(refine Pn.mk ?_;intro N hN)))|((try apply Or.inl);refine⟨_,ae.x (h1) (sd @Nat.zero_add),?_⟩;refine hN _ _ ?_;clear hN N)))
  refine aP (fun n env st=>∃k:Nat,n=(f.ak.length)-k/\k<=(f.ak.length)/\env 10=.int .i64 (k:Int)/\(∀j:Nat,j<k->0<=fc s.aE l f j)/\((∃o:Id,env 9=.own o 0 k/\st.get o=some ⟨true,1,(kS (fc s.aE l f) k).map au⟩/\o.cq<st.next/\σ.next<o.cq)/\st.get ⟨31000000,σ.next⟩=some ⟨true,4,[[.sl (s.aE.aw.map bd),.sl (s.aE.ah.map bj),.sl (s.bZ.ah.map ai),.int .i64 s.aH]]⟩/\st.get ⟨31000001,σ.next⟩=some ⟨true,1,[[.sl (l.map ai)]]⟩/\st.get ⟨31000002,σ.next⟩=some ⟨true,3,[[.int .i64 f.aL,.sl (f.ak.map bh),.sl (f.aY.map kf)]]⟩)) (f.ak.length) ⟨0,ab,ab,sl (tw @gx @iv),fun _ h=>absurd h (Nat.not_lt_zero _),by(try dsimp only);exact⟨⟨⟨31004000,σ.next+1+1+1⟩,sl @Nat.zero_add,sl @Nat.zero_add,bt,bt⟩,sd @Nat.zero_add,sd @Nat.zero_add,sd @Nat.zero_add⟩⟩ ?_
  rintro n_a env_a st_a ⟨k,rfl,ale,xk,iO,j0⟩ dm
  have a3:=dm 3 (by kernel_rfl);have a4:=dm 4 (by kernel_rfl);have a5:=dm 5 (by kernel_rfl)
  simp only[go_sem, ↓reduceIte,Nat.reduceEqDiff,Nat.reduceAdd,Nat.reduceSub,Nat.reduceLeDiff,reduceCtorEq,gx,iv]at a3 a4 a5
  clear dm
  obtain⟨⟨o,a9,LZ,aov,L3⟩,g3,g4,g5⟩:=j0
  by_cases hk:(k:Int)<(f.ak.length:Int)
  ·have bD:∀{e:Env} {gg:Rows} {nx:Nat},(e 10=.int .i64 (IntKind.i64.wrap ((k:Int)+1)))->(0<=fc s.aE l f k)->((∃o:Id,e 9=.own o 0 (k+1)/\gg o=some ⟨true,1,(kS (fc s.aE l f) (k+1)).map au⟩/\o.cq<nx/\σ.next<o.cq)/\gg ⟨31000000,σ.next⟩=some ⟨true,4,[[.sl (s.aE.aw.map bd),.sl (s.aE.ah.map bj),.sl (s.bZ.ah.map ai),.int .i64 s.aH]]⟩/\gg ⟨31000001,σ.next⟩=some ⟨true,1,[[.sl (l.map ai)]]⟩/\gg ⟨31000002,σ.next⟩=some ⟨true,3,[[.int .i64 f.aL,.sl (f.ak.map bh),.sl (f.aY.map kf)]]⟩)->∃m0,m0<(f.ak.length)-k/\∃k:Nat,m0=(f.ak.length)-k/\k<=(f.ak.length)/\e 10=.int .i64 (k:Int)/\(∀j:Nat,j<k->0<=fc s.aE l f j)/\((∃o:Id,e 9=.own o 0 k/\gg o=some ⟨true,1,(kS (fc s.aE l f) k).map au⟩/\o.cq<nx/\σ.next<o.cq)/\gg ⟨31000000,σ.next⟩=some ⟨true,4,[[.sl (s.aE.aw.map bd),.sl (s.aE.ah.map bj),.sl (s.bZ.ah.map ai),.int .i64 s.aH]]⟩/\gg ⟨31000001,σ.next⟩=some ⟨true,1,[[.sl (l.map ai)]]⟩/\gg ⟨31000002,σ.next⟩=some ⟨true,3,[[.int .i64 f.aL,.sl (f.ak.map bh),.sl (f.aY.map kf)]]⟩):=fun x1 x2 x3=>⟨_,ab,k+1,rfl,ab,(by rw[x1,ay ab]),(all_succ iO x2),x3⟩
   have dX:k<f.ak.length:=ab
   have Hg:=xR k
   rw[ao]at Hg
   have j5:IntKind.i64.wrap ((k:Int)+1)=(k:Int)+1:=aT ab
   have sI:=uK k ab
   have qj:=uK f.aL.toNat ab
   rw[show(f.aL.toNat:Int)=f.aL by omega]at qj
   have z1:=iV k
   have z2:=iV f.aL.toNat
   have y1:(#[112]:Array UInt8).size=1:=rfl
   have y3:(⟨#[112]⟩:ByteArray).size=1:=rfl
   have y2:(#[95]:Array UInt8).size=1:=rfl
   have y4:(⟨#[95]⟩:ByteArray).size=1:=rfl
   rw[vN]at Hg
   have q1:(#[112]:Array UInt8).size+(eb k).size<=9223372036854775807:=ab
   have q2:(#[112]:Array UInt8).size+(eb k).size+(#[95]:Array UInt8).size<=9223372036854775807:=ab
   have q3:(#[112]:Array UInt8).size+(eb k).size+(#[95]:Array UInt8).size+(eb f.aL.toNat).size<=9223372036854775807:=ab
   have q4:(#[112]:Array UInt8).size+(eb k).size+(#[95]:Array UInt8).size+(eb f.aL.toNat).size+(#[95]:Array UInt8).size<=9223372036854775807:=ab
   obtain⟨v,hv⟩:∃v,fc s.aE l f k=v:=⟨_,rfl⟩
   have Tb:jH (BL s.aE l ⟨f.aL,(k:Int)+1⟩ 1) ((((⟨#[112]⟩++eb k)++⟨#[95]⟩)++eb f.aL.toNat)++⟨#[95]⟩) 2=v:=hv
   rw[Tb]at Hg
   by_cases jO:v<0
   ·obtain⟨rfl,rfl⟩:=pB ⟨k,dX,by rw[hv];exact jO⟩
    (repeat(first|((repeat(revert hN;revert N;apply Pn.out));refine wk (tw @xk (tw @a3 (tw @a4 (tw @a5 (tw @hk (tw @gx (tw @iv (tw @g3 (tw @g4 (tw @g5 (tw @jO (tw @j5 (tw @q1 (tw @q2 (tw @q3 @q4))))))))))))))) ?_;(repeat(refine Pn.mk ?_;intro N hN)))|((try apply Or.inl);refine⟨_,ae.x (sI) (sd (tw @xk (tw @a3 (tw @a4 (tw @a5 (tw @hk (tw @gx (tw @iv (tw @g3 (tw @g4 (tw @g5 (tw @jO (tw @j5 (tw @q1 (tw @q2 (tw @q3 @q4)))))))))))))))),?_⟩;refine hN _ _ ?_;clear hN N)|((try apply Or.inl);refine⟨_,ae.x (qj) (sd (tw @xk (tw @a3 (tw @a4 (tw @a5 (tw @hk (tw @gx (tw @iv (tw @g3 (tw @g4 (tw @g5 (tw @jO (tw @j5 (tw @q1 (tw @q2 (tw @q3 @q4)))))))))))))))),?_⟩;refine hN _ _ ?_;clear hN N)|((try apply Or.inl);refine⟨_,ae.x (Hg) (sd (tw @xk (tw @a3 (tw @a4 (tw @a5 (tw @hk (tw @gx (tw @iv (tw @g3 (tw @g4 (tw @g5 (tw @jO (tw @j5 (tw @q1 (tw @q2 (tw @q3 @q4)))))))))))))))),?_⟩;refine hN _ _ ?_;clear hN N)))
    exact sM (.inl rfl) (vs:=[.bK,.int .i64 9]) (sd @Nat.zero_add) (by simp[eB,bG,ad,aj,aI,aV])
   ·have OH:(kS (fc s.aE l f) (k+1)).map au=(kS (fc s.aE l f) k).map au++[[.int .i64 v]]:=by rw[wP,List.map_append,hv];rfl
    have vD:((kS (fc s.aE l f) k).map au).length=k:=by rw[List.length_map,nL]
    have qW:k<=16777215:=ab
    have vo:=eP aov
    have o3:=dr (a:=⟨31000000,σ.next⟩) (b:=o) L3
    have o4:=dr (a:=⟨31000001,σ.next⟩) (b:=o) L3
    have o5:=dr (a:=⟨31000002,σ.next⟩) (b:=o) L3
    generalize (kS (fc s.aE l f) k).map au=M at LZ OH vD
    (repeat(first|((repeat(revert hN;revert N;apply Pn.out));refine wk (tw @xk (tw @a3 (tw @a4 (tw @a5 (tw @hk (tw @gx (tw @iv (tw @g3 (tw @g4 (tw @g5 (tw @jO (tw @a9 (tw @LZ (tw @vo (tw @vD (tw @qW (tw @j5 (tw @q1 (tw @q2 (tw @q3 @q4)))))))))))))))))))) ?_;(repeat(refine Pn.mk ?_;intro N hN)))|((try apply Or.inl);refine⟨_,ae.x (sI) (sd (tw @xk (tw @a3 (tw @a4 (tw @a5 (tw @hk (tw @gx (tw @iv (tw @g3 (tw @g4 (tw @g5 (tw @jO (tw @a9 (tw @LZ (tw @vo (tw @vD (tw @qW (tw @j5 (tw @q1 (tw @q2 (tw @q3 @q4))))))))))))))))))))),?_⟩;refine hN _ _ ?_;clear hN N)|((try apply Or.inl);refine⟨_,ae.x (qj) (sd (tw @xk (tw @a3 (tw @a4 (tw @a5 (tw @hk (tw @gx (tw @iv (tw @g3 (tw @g4 (tw @g5 (tw @jO (tw @a9 (tw @LZ (tw @vo (tw @vD (tw @qW (tw @j5 (tw @q1 (tw @q2 (tw @q3 @q4))))))))))))))))))))),?_⟩;refine hN _ _ ?_;clear hN N)|((try apply Or.inl);refine⟨_,ae.x (Hg) (sd (tw @xk (tw @a3 (tw @a4 (tw @a5 (tw @hk (tw @gx (tw @iv (tw @g3 (tw @g4 (tw @g5 (tw @jO (tw @a9 (tw @LZ (tw @vo (tw @vD (tw @qW (tw @j5 (tw @q1 (tw @q2 (tw @q3 @q4))))))))))))))))))))),?_⟩;refine hN _ _ ?_;clear hN N)))
    exact bD (sd (tw @xk (tw @a3 (tw @a4 (tw @a5 @j5))))) (by rw[hv];omega) (by(try dsimp only);exact⟨⟨⟨31011003,st_a.next+1+1+1⟩,sl @Nat.zero_add,by rw[OH];simp only[go_sem, ↓reduceIte,Nat.reduceEqDiff,Nat.reduceAdd,Nat.reduceSub,Nat.reduceLeDiff,reduceCtorEq]<;>rfl,bt,bt⟩,sd (tw @o3 @g3),sd (tw @o4 @g4),sd (tw @o5 @g5)⟩)
  ·have dX:k=f.ak.length:=ab
   rw[dX]at LZ a9
   obtain⟨rfl,rfl⟩:=wI fun j hj=>iO j ab
   (try((repeat(revert hN;revert N;apply Pn.out));refine wk (tw @xk (tw @a3 (tw @a4 (tw @a5 (tw @hk (tw @gx (tw @iv (tw @g5 @a9)))))))) ?_;(repeat(refine Pn.mk ?_;intro N hN))))
   exact sM (.inl rfl) (vs:=[.own o 0 f.ak.length,.int .i64 0]) (sd @a9) (by
    have:=e7 (e:=au) (g:=st_a.get) (sz:=1) (n:=4) (len:=f.ak.length) (l:=kS (fc s.aE l f) f.ak.length) (id:=o) LZ (by rw[nL]) fun x=>by simp[au,ad,aj,aI]
    simp only[eB,bG,ad,aj,aI,this,Option.map_some])
 by_cases dk:∀j,j<f.ak.length->0<=fc s.aE l f j
 ·rw[Ak dk]
  exact⟨_,.inr rfl,key _ _ (fun⟨j,hj,h⟩=>by have:=dk j hj;omega) fun _=>⟨rfl,rfl⟩⟩
 ·obtain⟨j,hj⟩:=Classical.not_forall.1 dk
  obtain⟨SF,SG⟩:=Classical.not_imp.1 hj
  rw[DO SF ab]
  exact⟨.bK,.inl ⟨rfl,rfl⟩,key _ _ (fun _=>⟨rfl,rfl⟩) fun h=>absurd h dk⟩
end Go.Proofs.YtihgaadadaekmaaGreatDoor.V

namespace Go.Proofs.YtihgaadadaekmaaGreatDoor.V
open Go.RowKit Go.Shelf
attribute [local go_sem] Oper.semAt_some
structure oE (W:World) (v:Value) (l:List aq):Prop where
 sl:∃A c,v=.slice A l.length c/\(l.length<=c/\c<=maxLen)/\(l=[]∨∃b o,A=some ⟨b,o,none⟩/\∀i,i<l.length->W.cell? ⟨b,o+(i*3+0),none⟩=some (.int .i64 (bC l i).cI.gG)/\W.cell? ⟨b,o+(i*3+1),none⟩=some (.int .i64 (bC l i).cI.fR)/\W.cell? ⟨b,o+(i*3+2),none⟩=some (.int .i64 (bC l i).bJ))
structure Gx (K:World->World->Prop) (v:Value) (l:List aq):Prop where
 refl:∀W,K W W
 trans:∀{A B C:World},K A B->K B C->K A C
 of:∀{W W':World},Below W.heap.size W W'->K W W'
 size:∀{W W':World},K W W'->W.heap.size<=W'.heap.size
 typed:∀{W W':World},K W W'->∀(b:Nat) (cells:Array Value) (T:TypeId) (fr:Nat×Nat),W.heap[b]? =some (Obj.cells cells T fr)->T≠177->T≠196->W'.heap[b]? =W.heap[b]?
 pl:∀{W W':World},K W W'->oE W v l->oE W' v l
theorem sQ {W:World} {b x:Nat} {v:Value} (h:W.cell? ⟨b,x,none⟩=some v):b<W.heap.size:=by
 rcases Nat.lt_or_ge b W.heap.size with h1|h1
 ·exact h1
 ·simp[World.cell?,Array.getElem?_eq_none h1]at h
theorem oE.below {W W':World} {v:Value} {l:List aq} (h:oE W v l) (k:Below W.heap.size W W'):oE W' v l:=by
 obtain⟨A,c,rfl,hm,hc⟩:=h.sl
 refine⟨A,c,rfl,hm,?_⟩
 rcases hc with h0|⟨b,o,rfl,jU⟩
 ·exact .inl h0
 ·refine .inr ⟨b,o,rfl,fun i hi=>?_⟩
  obtain⟨h1,h2,h3⟩:=jU i hi
  have hb:=sQ h1
  exact⟨(k.cell (p:=⟨b,_,none⟩) hb).trans h1,(k.cell (p:=⟨b,_,none⟩) hb).trans h2,(k.cell (p:=⟨b,_,none⟩) hb).trans h3⟩
theorem oE.eK {P:Program} {W:World} {v:Value} {l:List aq} (h:oE W v l):jh P W (fun b=>b<W.heap.size) (.sl (l.map ai)) v:=by
 obtain⟨A,c,rfl,hm,hc⟩:=h.sl
 rcases hc with rfl|⟨b,o,rfl,jU⟩
 ·exact .A4 A c (by simpa using hm.2)
 by_cases Oy:l=[]
 ·subst Oy;exact .A4 _ c (by simpa using hm.2)
 ·have lh:0<l.length:=List.length_pos_iff.2 Oy
  have hb:=sQ (jU 0 lh).1
  refine .sl (l.map ai) b o l.length c 3 (fun i j=>if j=0 then .int .i64 (bC l i).cI.gG else if j=1 then .int .i64 (bC l i).cI.fR else .int .i64 (bC l i).bJ) (by simp) hm.1 hm.2 hb (fun cs dq=>?_) (fun cs dq a ha=>?_) (fun i j hi hj=>?_) (fun i j cs a hi hj=>?_)
  ·obtain⟨x,_,rfl⟩:=List.mem_map.1 dq;rfl
  ·obtain⟨x,_,rfl⟩:=List.mem_map.1 dq
   simp[ai]at ha
   rcases ha with rfl|rfl|rfl<;>rfl
  ·obtain⟨h1,h2,h3⟩:=jU i hi
   match j,hj with
   |0,_=>exact h1
   |1,_=>exact h2
   |2,_=>exact h3
   |j+3,hj=>omega
  ·have oZ:i<l.length:=by have:=(List.getElem?_eq_some_iff.1 hi).1;simpa using this
   rw[gJ oZ]at hi
   injection hi with hi
   subst hi
   match j,hj with
   |0,hj=>simp[ai]at hj;subst hj;exact .int _ _
   |1,hj=>simp[ai]at hj;subst hj;exact .int _ _
   |2,hj=>simp[ai]at hj;subst hj;exact .int _ _
   |j+3,hj=>simp[ai]at hj
theorem zi {P:Program} (hm:P.follows .mixedOrders=true) {f:Nat} {args:List AV} {vs:Array Value} {w:World} {r:AV} (h:ae P f args r) (hr:∀g r0,fD g 6 r0=some r->r0=r) (hA:e9 P w (fun b=>b<w.heap.size) (fun _=>none) args vs):
  Calls P f vs w fun e w'=>∃D ι u,e=.returned u/\cG P w' D ι r u/\Below w.heap.size w w':=by
 have hs:=gP hm (h 0) w.heap.size (fun b=>b<w.heap.size) (fun _=>none) w vs ⟨Nat.le_refl _,fun _ h=>h,fun id r h=>(by cases h),fun id kn r r' B B' h=>(by cases h)⟩ (fun id h=>absurd rfl h) hA
 refine hs.mono ?_
 rintro e w' ⟨r0,g',n',D',ι',u,rfl,⟨r',hz,rfl⟩,ew,hsim,_,_,gH⟩
 have:=hr _ _ hz
 subst this
 exact⟨D',ι',u,rfl,gH,ew.below⟩
theorem nJ {g:Rows} {n:Nat} {a:AV} {k:IntKind} {m:Int} (h:fD g (n+1) a=some (.int k m)):a=.int k m:=by
 cases a<;>rw[fD]at h<;>simp_all
 all_goals (repeat' (split at h))<;>simp_all
theorem BI {g:Rows} {a:AV} {x y:Int} (h:fD g 6 a=some (.agg [.int .i64 x,.int .i64 y])):a=.agg [.int .i64 x,.int .i64 y]:=by
 cases a with
 |agg cs=>
  rw[Dq]at h
  simp only[Option.map_eq_some_iff,AV.agg.injEq,exists_eq_right]at h
  match cs,h with
  |[],h=>rw[bV]at h;simp at h
  |[a],h=>
   rw[br,bV]at h
   cases ha:fD g 5 a<;>simp[ha]at h
  |[a,b],h=>
   rw[br,br,bV]at h
   cases ha:fD g 5 a<;>cases hb:fD g 5 b<;>simp[ha,hb]at h
   obtain⟨rfl,rfl⟩:=h
   rw[nJ ha,nJ hb]
  |a::b::c::r,h=>
   rw[br,br,br]at h
   cases ha:fD g 5 a<;>cases hb:fD g 5 b<;>cases hc:fD g 5 c<;>cases hd:dH g 5 r<;>simp[ha,hb,hc,hd]at h
 |_=>rw[fD]at h<;>simp_all<;>(repeat' (split at h))<;>simp_all
theorem CI (W:World) (p:cr) (d:Int) (hd:fJ d 0 3=true) (hx:iB p.gG) (hy:iB p.fR):Calls Tryz.prog 188 #[.agg #[.int .i64 p.gG,.int .i64 p.fR],.int .i64 d] W fun e W'=>e=.returned (.agg #[.int .i64 (eL p d).gG,.int .i64 (eL p d).fR])/\Below W.heap.size W W':=by
 refine(zi mixed (NL p d hd hx hy) (fun g r0 h=>BI h) ?_:Calls _ _ _ _ _).mono ?_
 ·exact kA (vs:= #[.int .i64 d]) (.agg _ _ (fun j=>if j=0 then .int .i64 p.gG else .int .i64 p.fR) rfl (fun a ha=>by simp[ao]at ha;rcases ha with rfl|rfl<;>rfl) (fun j hj=>by match j,hj with|0,_=>rfl|1,_=>rfl|j+2,hj=>simp[ao]at hj;omega) (fun j a ha=>by match j,ha with|0,ha=>simp[ao]at ha;subst ha;exact .int _ _|1,ha=>simp[ao]at ha;subst ha;exact .int _ _|j+2,ha=>simp[ao]at ha)) (kA (vs:= #[]) (.int _ _) uD)
 ·rintro e W' ⟨D,ι,u,rfl,hr,hB⟩
  refine⟨?_,hB⟩
  obtain⟨vs,f,rfl,fh,_,h1,h2⟩:=iw hr
  have v0:=h1 0 (by simp[ao])
  have v1:=h1 1 (by simp[ao])
  rw[dh (h2 0 _ rfl)]at v0
  rw[dh (h2 1 _ rfl)]at v1
  obtain⟨vl⟩:=vs
  match vl,fh with
  |[a,b],_=>
   simp at v0 v1
   rw[v0,v1]
theorem vM (W:World) (l:List aq) (v:Value) (hP:oE W v l) (p:cr) (hR:yZ l) (JL:l.length<=1048576):Calls Tryz.prog 187 #[.agg #[v],.agg #[.int .i64 p.gG,.int .i64 p.fR]] W fun e W'=>e=.returned (.int .i64 (fX l p))/\Below W.heap.size W W':=by
 refine(zi mixed (FF l p hR JL) (fun g r0 h=>nJ h) ?_:Calls _ _ _ _ _).mono ?_
 ·exact kA (vs:= #[.agg #[.int .i64 p.gG,.int .i64 p.fR]]) (.agg _ _ (fun _=>v) rfl (fun a ha=>by simp at ha;rw[ha];rfl) (fun j hj=>by match j,hj with|0,_=>rfl|j+1,hj=>simp at hj) (fun j a ha=>by match j,ha with|0,ha=>simp at ha;subst ha;exact hP.eK|j+1,ha=>simp at ha)) (kA (vs:= #[]) (.agg _ _ (fun j=>if j=0 then .int .i64 p.gG else .int .i64 p.fR) rfl (fun a ha=>by simp[ao]at ha;rcases ha with rfl|rfl<;>rfl) (fun j hj=>by match j,hj with|0,_=>rfl|1,_=>rfl|j+2,hj=>simp[ao]at hj;omega) (fun j a ha=>by match j,ha with|0,ha=>simp[ao]at ha;subst ha;exact .int _ _|1,ha=>simp[ao]at ha;subst ha;exact .int _ _|j+2,ha=>simp[ao]at ha)) uD)
 ·rintro e W' ⟨D,ι,u,rfl,hr,hB⟩
  exact⟨by rw[dh hr],hB⟩
theorem qi {W W':World} (h:Below W.heap.size W W'):W.grownBy W' none:=⟨h.os,h.tape,h.output,h.size,fun k hk _=>h.block k hk⟩
def Au (l:List aq) (i:Nat) (d:Int):List (Nat×Nat×Int):=if 0<=fX l (eL (bC l i).cI d)then[(i,(fX l (eL (bC l i).cI d)).toNat,d)]else[]
def kq (l:List aq) (i m:Nat):List (Nat×Nat×Int):=(List.range m).flatMap fun j:Nat=>Au l i (1-(j:Int))
def kT (l:List aq) (n:Nat):List (Nat×Nat×Int):=(List.range n).flatMap fun i=>kq l i 2
theorem lP (l:List aq) (n:Nat):kT l (n+1)=kT l n++kq l n 2:=by simp[kT,List.range_succ]
theorem mj (l:List aq) (i m:Nat):kq l i (m+1)=kq l i m++Au l i (1-(m:Int)):=by simp[kq,List.range_succ]
theorem Nu (l:List aq) {k m:Nat} (hk:k<l.length) (hm:m<=2):kT l k++kq l k m <+:kT l l.length:=by
 have h1:∀d,kT l k <+:kT l (k+d):=fun d=>by
  induction d with
  |zero=>exact List.prefix_refl _
  |succ d ih=>rw[<-Nat.add_assoc,lP l (k+d)];exact ih.trans (List.prefix_append _ _)
 have h2:∀d,kT l (k+1) <+:kT l (k+1+d):=fun d=>by
  induction d with
  |zero=>exact List.prefix_refl _
  |succ d ih=>rw[<-Nat.add_assoc,lP l (k+1+d)];exact ih.trans (List.prefix_append _ _)
 have h3:=h2 (l.length-(k+1))
 rw[show k+1+(l.length-(k+1))=l.length by omega,lP]at h3
 refine List.IsPrefix.trans ?_ h3
 have h4:kq l k m <+:kq l k 2:=by
  have:m=0∨m=1∨m=2:=ab
  rcases this with rfl|rfl|rfl
  ·exact List.nil_prefix
  ·rw[mj l k 1];exact List.prefix_append _ _
  ·exact List.prefix_refl _
 exact(List.prefix_append_right_inj _).2 h4
def OU (l:List aq) (x:Nat×Nat×Int):Prop:=x.1<l.length/\x.2.1<l.length/\(0<=x.2.2/\x.2.2<=1)
def Di (x:Nat×Nat×Int):Array Value:= #[.agg #[.int .i64 (x.1:Int),.int .i64 (x.2.1:Int)],.int .i64 x.2.2]
theorem Kf (l:List aq) (p:cr) (h:0<l.length:=by omega):fX l p<(l.length:Int):=by
 unfold fX
 split<;>omega
theorem Qx (l:List aq) (hA:kc l) (q Ba:Nat) (vS:Value) (K:World->World->Prop) (kl:Gx K vS l) (J Jx:List (Nat×Nat×Int)->World->Prop) (n:Nat) (hn:1<=n)
  (hY:∀pre x W,J pre W->pre.length<(kT l l.length).length->OU l x->YieldAt Fence.wide (n-1) Tryz.prog q (Di x) W fun e W'=>
   (e=.returned (.bool true)/\J (pre++[x]) W'/\K W W')∨(e=.returned (.bool false)/\Jx (pre++[x]) W'))
  (W:World) (hJ:AbidesFrom W.heap.size J) (My:W.heap[Ba]? =some (.cells #[vS] 42 (0,0))) (hP:oE W vS l) (h0:J [] W):
  CallsIn Fence.wide n Tryz.prog 186 #[.func (.yield q) #[] #[],.pointer (some ⟨Ba,0,none⟩)] W fun e W'=>(∃v,e=.returned v)/\
   ((∃ys,ys=kT l l.length/\J ys W')∨(∃pre,pre <+:kT l l.length/\Jx pre W')):=by
 obtain⟨A,cp,rfl,_,_⟩:=hP.sl
 refine callsIn_of_wp Tryz.func186 rfl trivial ?_ rfl
 simp only[Tryz.ntmps186,List.size_toArray,List.length_cons,List.length_nil,Nat.reduceAdd,Nat.reduceSub,Array.replicate_succ,Array.replicate_zero,List.push_toArray,List.append_toArray,List.nil_append,List.cons_append]
 have jo:W.cell? ⟨Ba,0,none⟩=some (.slice A l.length cp):=by simp[World.cell?,My]
 gi_wp2
 gi_loopw [11] (fun i wr=>∃k:Nat,k<=l.length/\i=.int .i64 k/\J (kT l k) wr/\K W wr)
  (fun i _=>l.length-(intOf i).toNat)
 case atStart=>exact⟨0,Nat.zero_le _,rfl,h0,kl.refl _⟩
 case round=>
  obtain⟨k,hk,rfl,hJs,hKt⟩:=hrel
  by_cases dD:k<l.length
  ·have dq:∃b o,A=some ⟨b,o,none⟩/\wr.cell? ⟨b,o+k*3,none⟩=some (.int .i64 (bC l k).cI.gG)/\wr.cell? ⟨b,o+k*3+1,none⟩=some (.int .i64 (bC l k).cI.fR)/\wr.cell? ⟨b,o+k*3+2,none⟩=some (.int .i64 (bC l k).bJ):=by
    obtain⟨A',c',hv,_,hc⟩:=(kl.pl hKt hP).sl
    cases hv
    rcases hc with rfl|⟨b,o,rfl,jU⟩
    ·simp at dD
    ·obtain⟨h1,h2,h3⟩:=jU k dD
     exact⟨b,o,rfl,by simpa using h1,by rw[Nat.add_assoc];exact h2,by rw[Nat.add_assoc];exact h3⟩
   obtain⟨b,o,rfl,hx,hy',ht⟩:=dq
   gi_wp2
   obtain⟨W2,PF⟩:∃W2,(wr.alloc (.cells #[.int .i64 (bC l k).cI.gG,.int .i64 (bC l k).cI.fR,.int .i64 (bC l k).bJ] 114)).alloc (.cells #[.int .i64 1,.int .i64 0] 2)=W2:=⟨_,rfl⟩
   have oK:Below wr.heap.size wr W2:=by rw[<-PF];exact((Below.refl _ wr).alloc (Nat.le_refl _) _).alloc (by simp) _
   have Sa:W2.heap[wr.heap.size]? =some (.cells #[.int .i64 (bC l k).cI.gG,.int .i64 (bC l k).cI.fR,.int .i64 (bC l k).bJ] 114 (0,0)):=by
    rw[<-PF,Below.heap_alloc _ _ _ (by simp)];exact World.alloc_heap_new _ _
   have R9:W2.heap[wr.heap.size+1]? =some (.cells #[.int .i64 1,.int .i64 0] 2 (0,0)):=by
    have:=World.alloc_heap_new (wr.alloc (.cells #[.int .i64 (bC l k).cI.gG,.int .i64 (bC l k).cI.fR,.int .i64 (bC l k).bJ] 114)) (.cells #[.int .i64 1,.int .i64 0] 2)
    rw[World.size_alloc]at this
    rw[<-PF];exact this
   have Py:K W W2:=kl.trans hKt (kl.of oK)
   have hJ2:J (kT l k++kq l k 0) W2:=by
    have:=hJ _ _ _ none hJs (qi oK) (fun r h=>by cases h)
    simpa[kq]using this
   rw[PF]
   clear PF
   generalize wr=w1 at *
   gi_loopw [18] (fun j wr=>∃m:Nat,m<=2/\j=.int .i64 m/\J (kT l k++kq l k m) wr/\K W2 wr)
    (fun j _=>2-(intOf j).toNat)
   case atStart=>exact⟨0,ab,rfl,hJ2,kl.refl _⟩
   case round=>
    obtain⟨m,hm,rfl,hJm,Ll⟩:=hrel
    have SI:m=0∨m=1∨m=2:=ab
    by_cases Jj:m<2
    ·have hkd:=kl.typed Ll _ _ _ _ R9 (by decide) (by decide)
     have Jh:=kl.typed Ll _ _ _ _ Sa (by decide) (by decide)
     have hka:=kl.typed (kl.trans Py Ll) _ _ _ _ My (by decide) (by decide)
     have cd:wr.cell? ⟨w1.heap.size+1,m,none⟩=some (.int .i64 (1-(m:Int))):=by
      rw[World.cell?_of_block hkd]
      rcases SI with rfl|rfl|rfl
      ·simp[World.cell?,R9]
      ·simp[World.cell?,R9]
      ·omega
     have ct0:wr.cell? ⟨w1.heap.size,0,none⟩=some (.int .i64 (bC l k).cI.gG):=by rw[World.cell?_of_block Jh];simp[World.cell?,Sa]
     have ct1:wr.cell? ⟨w1.heap.size,1,none⟩=some (.int .i64 (bC l k).cI.fR):=by rw[World.cell?_of_block Jh];simp[World.cell?,Sa]
     have ca:wr.cell? ⟨Ba,0,none⟩=some (.slice (some ⟨b,o,none⟩) l.length cp):=by rw[World.cell?_of_block hka];simp[World.cell?,My]
     have hPw:oE wr (.slice (some ⟨b,o,none⟩) l.length cp) l:=kl.pl (kl.trans Py Ll) hP
     have hba:Ba<wr.heap.size:=by
      have h1:=(Array.getElem?_eq_some_iff.1 My).1
      have h2:=kl.size (kl.trans Py Ll)
      omega
     have hdm:fJ (1-(m:Int)) 0 3=true:=nK ab
     have hpb:=Is (hA.pt dD)
     have OG:=fun w0=>CI w0 (bC l k).cI (1-(m:Int)) hdm hpb.1 hpb.2
     have hPd:oE wr.drew (.slice (some ⟨b,o,none⟩) l.length cp) l:=hPw.below ⟨rfl,rfl,rfl,Nat.le_refl _,fun _ _=>rfl⟩
     have cad:wr.drew.cell? ⟨Ba,0,none⟩=some (.slice (some ⟨b,o,none⟩) l.length cp):=ca
     have ctd0:wr.drew.cell? ⟨w1.heap.size,0,none⟩=some (.int .i64 (bC l k).cI.gG):=ct0
     have ctd1:wr.drew.cell? ⟨w1.heap.size,1,none⟩=some (.int .i64 (bC l k).cI.fR):=ct1
     have hfw:=hA.Gc
     have PY:=hA.Rt
     have SJ:=mixed
     gi_wp2
     gi_region_with_o (first|(refine⟨trivial,?_⟩;gi_at_call 188;refine(callsIn_wide.2 (OG _)).mono ?_;rintro e w3 ⟨rfl,zS⟩;have ca3:=(zS.cell (p:=⟨Ba,0,none⟩) hba).trans cad)|(refine⟨trivial,?_⟩;gi_at_call 187;refine(callsIn_wide.2 (vM _ l _ (hPd.below zS) (eL (bC l k).cI (1-(m:Int))) PY ab)).mono ?_;rintro e w4 ⟨rfl,hB4⟩))
     all_goals
      have Mx:Below wr.heap.size wr w4:=(show Below wr.heap.size wr wr.drew from⟨rfl,rfl,rfl,Nat.le_refl _,fun _ _=>rfl⟩).trans (zS.trans (hB4.mono zS.size))
      have hJ4:J (kT l k++kq l k m) w4:=hJ _ _ _ none hJm (qi Mx) (fun r h=>by cases h)
      have vE:=Nu l dD (m:=m+1) ab
      rw[mj,<-List.append_assoc]at vE
      have ua:=mj l k m
      have hw:wrap64 ((m:Int)+1)=((m+1:Nat):Int):=by unfold wrap64;omega
      by_cases xT:0<=fX l (eL (bC l k).cI (1-(m:Int)))
      ·have fP:((fX l (eL (bC l k).cI (1-(m:Int)))).toNat:Int)=fX l (eL (bC l k).cI (1-(m:Int))):=ab
       rw[Au,if_pos xT]at vE ua
       obtain⟨fn,tmps,assign,body,hy,hR⟩:=hY _ (k,(fX l (eL (bC l k).cI (1-(m:Int)))).toNat,1-(m:Int)) w4 hJ4 (by
        have:=vE.length_le
        simp only[List.length_append,List.length_cons,List.length_nil]at this ⊢
        omega) ⟨dD,by
        have:fX l (eL (bC l k).cI (1-(m:Int)))<(l.length:Int):=Kf _ _
        show(fX l (eL (bC l k).cI (1-(m:Int)))).toNat<l.length
        omega,by show 0<=1-(m:Int);omega,by show 1-(m:Int)<=1;omega⟩
       simp only[Di,fP]at hy
       gi_wp2
       refine hR.mono ?_
       rintro e W3 (⟨rfl,hJ3,hk3⟩|⟨rfl,hJx3⟩)
       ·gi_wp2
        go_roundw
        case rel=>exact⟨m+1,ab,by simp,by rw[ua,<-List.append_assoc];exact hJ3,kl.trans (kl.trans Ll (kl.of Mx)) hk3⟩
        case measure=>simp[intOf];omega
       ·gi_wp2
        refine bodyPost_ret (results_none rfl _ _ _) rfl ?_
        exact⟨⟨_,rfl⟩,.inr ⟨_,vE,hJx3⟩⟩
      ·rw[Au,if_neg xT,List.append_nil]at ua
       gi_wp2
       refine⟨fun _ h=>(by cases h),?_⟩
       gi_wp2
       go_roundw
       case rel=>exact⟨m+1,ab,by simp,by rw[ua];exact hJ4,kl.trans Ll (kl.of Mx)⟩
       case measure=>simp[intOf];omega
    ·obtain rfl:m=2:=ab
     have hfw:=hA.Gc
     gi_wp2
     go_roundw
     case rel=>exact⟨k+1,ab,by simp,by rw[lP];exact hJm,kl.trans Py Ll⟩
     case measure=>simp[intOf];omega
  ·obtain rfl:k=l.length:=ab
   gi_wp2
   go_end0
   exact⟨⟨_,rfl⟩,.inl ⟨_,rfl,hJs⟩⟩
theorem yj (n:Nat) (vS:Value) (w:World):CallsIn Fence.wide n Tryz.prog 172 #[.agg #[vS]] w fun e w'=>e=.returned (.func (.func 186) #[] #[.pointer (some ⟨w.heap.size,0,none⟩)])/\w'=w.alloc (.cells #[vS] 42):=by
 refine callsIn_of_wp Tryz.func172 rfl trivial ?_ rfl
 simp only[Tryz.ntmps172,List.size_toArray,List.length_cons,List.length_nil,Nat.reduceAdd,Nat.reduceSub,Array.replicate_succ,Array.replicate_zero,List.push_toArray,List.append_toArray,List.nil_append,List.cons_append]
 gi_wp2
 go_ret
 exact⟨rfl,rfl⟩
abbrev LS (l:List aq):Type:={x:Nat×Nat×Int // OU l x}
theorem H9 (l:List aq) (hA:kc l) (Ba n:Nat) (hn:1<=n) (vS:Value) (K:World->World->Prop) (kl:Gx K vS l) (w:World) (My:w.heap[Ba]? =some (.cells #[vS] 42 (0,0))) (hP:oE w vS l):
  SeqStopsK Fence.wide n Tryz.prog 186 #[.pointer (some ⟨Ba,0,none⟩)] (fun x:LS l=>Di x.1) K (fun ys=>ys.map (·.1)=kT l l.length) (fun _=>True) (kT l l.length).length w:=fun q J Jx W hW hJ _ hY h0=>by
 refine(Qx l hA q Ba vS K kl (fun ys W=>∃zs:List (LS l),zs.map (·.1)=ys/\J zs W) (fun ys W=>∃zs:List (LS l),zs.map (·.1)=ys/\Jx zs W) n hn (fun pre x W1 hJ1 dD ub=>?_) W (fun s A B row ⟨zs,e,h⟩ hg hr=>⟨zs,e,hJ zs A B row h hg hr⟩) ((hW.block Ba (Array.getElem?_eq_some_iff.1 My).1).trans My) (hP.below hW) ⟨[],rfl,h0⟩).mono ?_
 ·obtain⟨zs,rfl,h1⟩:=hJ1
  refine YieldAt.mono (hY zs ⟨x,ub⟩ W1 h1 (by simpa using dD)) ?_
  rintro e W' (⟨h2,h3,h4⟩|⟨h2,h3⟩)
  ·exact .inl ⟨h2,⟨zs++[⟨x,ub⟩],by simp,h3⟩,h4⟩
  ·exact .inr ⟨h2,⟨zs++[⟨x,ub⟩],by simp,h3⟩⟩
 ·rintro e W' ⟨h1,⟨ys,rfl,zs,h2,h3⟩|⟨pre,_,zs,h2,h3⟩⟩
  ·exact⟨h1,.inl ⟨zs,h2,h3⟩⟩
  ·exact⟨h1,.inr ⟨zs,trivial,h3⟩⟩
def xn (s:ar) (l:List aq) (x:Nat×Nat×Int):List PB:=if 0<iT s (bC l x.1).bJ x.2.2 (bC l x.2.1).bJ then[⟨x.1,x.2.1,iT s (bC l x.1).bJ x.2.2 (bC l x.2.1).bJ⟩]else[]
theorem GU (s:ar) (l:List aq):cv s l=(kT l l.length).flatMap (xn s l):=by
 have h1:∀i d,l7 s l i d=(Au l i d).flatMap (xn s l):=fun i d=>by
  unfold l7 Au
  by_cases h:0<=fX l (eL (bC l i).cI d)
  ·rw[if_pos h]
   simp only[List.flatMap_cons,List.flatMap_nil,List.append_nil,xn]
   by_cases h2:0<iT s (bC l i).bJ d (bC l (fX l (eL (bC l i).cI d)).toNat).bJ
   ·rw[if_pos ⟨h,h2⟩,if_pos h2]
   ·rw[if_neg fun hc=>h2 hc.2,if_neg h2]
  ·rw[if_neg h,if_neg fun hc=>h hc.1];rfl
 unfold cv gq kT
 rw[List.flatMap_assoc]
 congr 1
 funext i
 unfold fF kq
 rw[List.flatMap_assoc]
 congr 1
 funext j
 exact h1 i _
end Go.Proofs.YtihgaadadaekmaaGreatDoor.V

namespace Go.Proofs.YtihgaadadaekmaaGreatDoor.V
open Go.RowKit
attribute [local irreducible] ea wpOps gS Call
attribute [local go_sem] aM fQ eM gi gh cE upd cu K.av cL AV.cells AV.cell rowOf rowsOf part ld rowAt bY ck dI eh ij bL da eA gp e8 du eo cY cX dV dW bR bm cQ bQ cT cR ej er ek cP bW cZ ei bP aQ cV cC ig bw cH bS aX dG bu dL AV.undef bF bH dY ef dU ec cF ez eF cw ev eu cU cW List.getD_cons_zero List.getD_cons_succ List.getD_nil List.all_cons List.all_nil Bool.and_true Bool.true_and Bool.and_self Bool.not_true Bool.not_false Option.map_some Option.map_none Option.bind_some Option.bind_none List.length_cons List.length_nil List.take_succ_cons List.take_zero List.take_nil List.drop_succ_cons List.drop_zero List.drop_nil List.head?_cons List.map_cons List.map_nil List.getElem?_cons_zero List.getElem?_cons_succ List.cons_append List.nil_append List.append_nil List.length_map List.set_cons_zero List.set_cons_succ Nat.reduceMul eq_self Int.toNat_natCast Int.natCast_nonneg and_self true_and and_true decide_true decide_false Bool.false_eq_true Nat.zero_add Nat.add_zero List.contains_cons List.contains_nil Bool.or_false Bool.false_or beq_self_eq_true Nat.reduceBEq ne_eq not_true_eq_false not_false_eq_true Id.mk.injEq false_and and_false Nat.reduceLT Int.reduceLE Int.reduceLT Int.reduceToNat Int.reduceNeg Int.reduceAdd Nat.le_refl List.length_append beq_true beq_false Bool.not_eq_eq_eq_not or_false false_or dE ad aj aI bE cj aV bf aU bo cN bG
structure mK (n:Nat) (px:Nat->Option Nat) (L:Nat->Nat):Prop where
 top:∀k,k<n->px k=none->L k=k
 up:∀k j,k<n->px k=some j->j<k/\L j=L k
theorem mK.root {n:Nat} {px:Nat->Option Nat} {L:Nat->Nat} (h:mK n px L) (hL:jm L) {k:Nat} (hk:k<n) (hr:L k=k):px k=none:=by
 rcases hp:px k with _|j
 ·rfl
 ·obtain⟨h1,h2⟩:=h.up k j hk hp
  have:=hL.le j
  omega
theorem mK.start (n:Nat):mK n (fun _=>none) id:=⟨fun _ _ _=>rfl,fun _ _ _ h=>by cases h⟩
theorem mK.join {n:Nat} {px:Nat->Option Nat} {L:Nat->Nat} (h:mK n px L) (hL:jm L) (b:PB) (dD:min (L b.a) (L b.b)<max (L b.a) (L b.b)):mK n (fun k=>if k=max (L b.a) (L b.b)then some (min (L b.a) (L b.b))else px k) (eE L b):=by
 have ha:=hL.idem b.a
 have hb:=hL.idem b.b
 have xU:L (min (L b.a) (L b.b))=min (L b.a) (L b.b):=by
  rcases Nat.le_total (L b.a) (L b.b)with h|h
  ·rw[Nat.min_eq_left h,ha]
  ·rw[Nat.min_eq_right h,hb]
 have P3:L (max (L b.a) (L b.b))=max (L b.a) (L b.b):=by
  rcases Nat.le_total (L b.a) (L b.b)with h|h
  ·rw[Nat.max_eq_right h,hb]
  ·rw[Nat.max_eq_left h,ha]
 unfold eE
 generalize min (L b.a) (L b.b)=lo at *
 generalize max (L b.a) (L b.b)=hi at *
 refine⟨fun k hk hp=>?_,fun k j hk hp=>?_⟩
 ·by_cases Jg:k=hi
  ·rw[if_pos Jg]at hp;cases hp
  ·rw[if_neg Jg]at hp
   have:=h.top k hk hp
   rw[if_neg ab];exact this
 ·by_cases Jg:k=hi
  ·rw[if_pos Jg]at hp
   cases hp
   subst Jg
   exact⟨dD,by rw[if_neg ab,if_pos P3,xU]⟩
  ·rw[if_neg Jg]at hp
   obtain⟨h1,h2⟩:=h.up k j hk hp
   exact⟨h1,by rw[h2]⟩
theorem x9 {L:Nat->Nat} {b:PB} (h:L b.a=L b.b):eE L b=L:=by
 funext k
 unfold eE
 rw[h,Nat.max_self,Nat.min_self]
 split
 ·rename_i h;exact h.symm
 ·rfl
def rD (G:Nat->Id) (px:Nat->Option Nat) (k:Nat):List AV:=[match px k with|none=>.gI|some j=>.ptr (G j) 0 0,.int .i64 (k:Int)]
def sD (g:Rows) (G:Nat->Id) (n:Nat) (px:Nat->Option Nat):Prop:=∀k,k<n->g (G k)=some ⟨true,2,[rD G px k]⟩
theorem sD.frame {g g':Rows} {G:Nat->Id} {n:Nat} {px:Nat->Option Nat} (h:sD g G n px) (hf:∀k,k<n->g' (G k)=g (G k)):sD g' G n px:=fun k hk=>(hf k hk).trans (h k hk)
theorem k5 {G:Nat->Id} {px:Nat->Option Nat} {k:Nat} (h:px k=none):rD G px k=[.gI,.int .i64 (k:Int)]:=by rw[rD,h]
theorem sg {G:Nat->Id} {px:Nat->Option Nat} {k j:Nat} (h:px k=some j):rD G px k=[.ptr (G j) 0 0,.int .i64 (k:Int)]:=by rw[rD,h]
theorem xI (G:Nat->Id) (n:Nat) (px:Nat->Option Nat) (L:Nat->Nat) (h:mK n px L) (k:Nat) (hk:k<n) (σ:ax) (hG:sD σ.get G n px):
  Call Tryz.prog 184 [.ptr (G k) 0 0] σ fun r σ'=>r=.ptr (G (L k)) 0 0/\σ'.get=σ.get/\σ.next<=σ'.next:=by
 refine eX dK rfl fun hl=>?_
 clear hl
 (try((repeat(revert hN;revert N;apply Pn.out));refine wk @Nat.zero_add ?_;(repeat(refine Pn.mk ?_;intro N hN))))
 refine aP (fun m env st=>∃j:Nat,m=j/\j<n/\env 0=.ptr (G j) 0 0/\L j=L k/\st.get=σ.get/\σ.next<=st.next) k ⟨k,rfl,hk,sd @Nat.zero_add,rfl,by(try dsimp only),bt⟩ ?_
 rintro m env_b st_b ⟨j,rfl,hj,b0,hLj,hg,hle⟩ bfr
 clear bfr
 have fI:=hG m hj
 rcases hp:px m with _|j
 ·rw[k5 hp]at fI
  (try((repeat(revert hN;revert N;apply Pn.out));refine wk (tw @b0 (tw @hg @fI)) ?_;(repeat(refine Pn.mk ?_;intro N hN))))
  exact gn (.inl rfl) (vs:=[.ptr (G m) 0 0]) (sd @Nat.zero_add) ⟨by rw[<-hLj,h.top m hj hp];rfl,by first|trivial|rfl|exact hg,bt⟩
 ·rw[sg hp]at fI
  obtain⟨h1,h2⟩:=h.up m j hj hp
  (try((repeat(revert hN;revert N;apply Pn.out));refine wk (tw @b0 (tw @hg @fI)) ?_;(repeat(refine Pn.mk ?_;intro N hN))))
  exact⟨j,h1,j,rfl,ab,sd @Nat.zero_add,ab,by first|trivial|rfl|exact hg,bt⟩
end Go.Proofs.YtihgaadadaekmaaGreatDoor.V

namespace Go.Proofs.YtihgaadadaekmaaGreatDoor.V
open Go.RowKit
attribute [local irreducible] ea wpOps gS Call
attribute [local go_sem] aM fQ eM gi gh cE upd cu K.av cL AV.cells AV.cell rowOf rowsOf part ld rowAt bY ck dI eh ij bL da eA gp e8 du eo cY cX dV dW bR bm cQ bQ cT cR ej er ek cP bW cZ ei bP aQ cV cC ig bw cH bS aX dG bu dL AV.undef bF bH dY ef dU ec cF ez eF cw ev eu cU cW List.getD_cons_zero List.getD_cons_succ List.getD_nil List.all_cons List.all_nil Bool.and_true Bool.true_and Bool.and_self Bool.not_true Bool.not_false Option.map_some Option.map_none Option.bind_some Option.bind_none List.length_cons List.length_nil List.take_succ_cons List.take_zero List.take_nil List.drop_succ_cons List.drop_zero List.drop_nil List.head?_cons List.map_cons List.map_nil List.getElem?_cons_zero List.getElem?_cons_succ List.cons_append List.nil_append List.append_nil List.length_map List.set_cons_zero List.set_cons_succ eq_self Int.toNat_natCast Int.natCast_nonneg and_self true_and and_true decide_true decide_false Bool.false_eq_true Nat.zero_add Nat.add_zero List.contains_cons List.contains_nil Bool.or_false Bool.false_or beq_self_eq_true ne_eq not_true_eq_false not_false_eq_true Id.mk.injEq false_and and_false Nat.le_refl List.length_append beq_true beq_false Bool.not_eq_eq_eq_not or_false false_or dE ad aj aI bE cj aV bf aU bo cN bG
abbrev mI:MK:=⟨false,[.tI]⟩
def rJ (l:List (Nat×Nat)):List (List AV):=l.map fun p=>[.int .i64 (p.1:Int),.int .i64 (p.2:Int)]
theorem z9 (r:Nat):∀(l:List (Nat×Nat)) (i:Nat),((∀p∈l,p.1≠r)->gZ mI [.int .i64 (r:Int)] (rJ l) i=some none)/\(∀j v,l[j]? =some (r,v)->(∀x y,x<j->l[x]? =some y->y.1≠r)->gZ mI [.int .i64 (r:Int)] (rJ l) i=some (some (i+j)))
 |[],i=>⟨fun _=>rfl,fun j v h=>by simp at h⟩
 |p::l,i=>by
  obtain⟨h1,h2⟩:=z9 r l (i+1)
  by_cases h:p.1=r
  ·refine⟨fun hp=>absurd h (hp p (by simp)),fun j v hj hf=>?_⟩
   have SE:j=0:=by
    rcases Nat.eq_zero_or_pos j with h0|h0
    ·exact h0
    ·exact absurd h (hf 0 p h0 (by simp))
   subst SE
   simp[rJ,gZ,e8,gp,MK.ks,h]
  ·have hd:¬((r:Int)=(p.1:Int)):=ab
   have qj:¬r=p.1:=fun he=>h he.symm
   have step:gZ mI [.int .i64 (r:Int)] (rJ (p::l)) i=gZ mI [.int .i64 (r:Int)] (rJ l) (i+1):=by
    unfold rJ
    simp[gZ,MK.ks,e8,gp,hd,qj,h]
   rw[step]
   refine⟨fun hp=>h1 fun q hq=>hp q (by simp[hq]),fun j v hj hf=>?_⟩
   cases j with
   |zero=>simp at hj;rw[hj]at h;exact absurd rfl h
   |succ j=>
    rw[h2 j v (by simpa using hj) fun x y hx hy=>hf (x+1) y ab (by simpa using hy)]
    congr 2;omega
theorem wL {r:Nat} {l:List (Nat×Nat)}:((∀p∈l,p.1≠r)->gQ mI (.int .i64 (r:Int)) (rJ l)=some none)/\(∀j v,l[j]? =some (r,v)->(∀x y,x<j->l[x]? =some y->y.1≠r)->gQ mI (.int .i64 (r:Int)) (rJ l)=some (some j)):=by
 have e:gQ mI (.int .i64 (r:Int)) (rJ l)=gZ mI [.int .i64 (r:Int)] (rJ l) 0:=by
  unfold gQ
  rw[if_pos ⟨rfl,rfl,rfl⟩];rfl
 obtain⟨h1,h2⟩:=z9 r l 0
 rw[e]
 exact⟨h1,fun j v hj hf=>by rw[h2 j v hj hf,Nat.zero_add]⟩
def ko (k:Nat) (L:Nat->Nat):List (List AV):=rJ (leads k L).zipIdx
theorem Cj {k:Nat} {L:Nat->Nat} (h:L k=k):ko (k+1) L=ko k L++[[.int .i64 (k:Int),.int .i64 ((leads k L).length:Int)]]:=by
 unfold ko
 rw[gu,if_pos h,List.zipIdx_append]
 simp[rJ]
theorem Ci {k:Nat} {L:Nat->Nat} (h:L k≠k):ko (k+1) L=ko k L:=by
 unfold ko
 rw[gu,if_neg h,List.append_nil]
theorem Fl {k:Nat} {L:Nat->Nat} (h:L k=k):gQ mI (.int .i64 (k:Int)) (ko k L)=some none:=by
 refine wL.1 fun p hp=>?_
 have:=List.fst_mem_of_mem_zipIdx hp
 have:=(wO.1 this).1
 omega
theorem wN {n:Nat} {L:Nat->Nat} {x y:Nat} (hx:x<(leads n L).length) (hy:y<(leads n L).length) (h:(leads n L)[x]=(leads n L)[y]):x=y:=by
 have hp:=List.pairwise_iff_getElem.1 (sq n L)
 rcases Nat.lt_trichotomy x y with dD|he|dD
 ·exact absurd h (hp x y hx hy dD)
 ·exact he
 ·exact absurd h.symm (hp y x hy hx dD)
theorem wM {k:Nat} {L:Nat->Nat} (hL:jm L) (h:L k≠k):gQ mI (.int .i64 (L k:Int)) (ko k L)=some (some (bx L k))/\(ko k L)[bx L k]? =some [.int .i64 (L k:Int),.int .i64 (bx L k:Int)]/\bx L k<(leads k L).length:=by
 have dD:L k<k:=Nat.lt_of_le_of_ne (hL.le k) h
 have hn:bx L (L k)=bx L k:=by rw[bx,hL.idem,bx]
 have hg:=ov hL dD
 rw[hn,hL.idem]at hg
 have hl:bx L k<(leads k L).length:=(List.getElem?_eq_some_iff.1 hg).1
 have hz:(leads k L).zipIdx[bx L k]? =some (L k,bx L k):=by simp[List.getElem?_zipIdx,hg]
 refine⟨wL.2 _ _ hz fun x y hx hy=>?_,by unfold ko rJ;rw[List.getElem?_map,hz];rfl,hl⟩
 intro he
 rw[List.getElem?_zipIdx]at hy
 have OM:x<(leads k L).length:=ab
 rw[List.getElem?_eq_getElem OM]at hy
 simp at hy
 rw[<-hy]at he
 simp at he
 have e2:(leads k L)[bx L k]=L k:=(List.getElem?_eq_some_iff.1 hg).2
 have:=wN OM hl (he.trans e2.symm)
 omega
def js (k:Nat) (L:Nat->Nat):List (List Nat):=(leads k L).map (members k L)
theorem pv (k:Nat) (L:Nat->Nat):(js k L).length=(leads k L).length:=by simp[js]
theorem BM {k:Nat} {L:Nat->Nat} (hL:jm L) (h:L k=k):js (k+1) L=js k L++[[k]]:=by
 unfold js
 rw[gu,if_pos h,List.map_append,List.map_cons,List.map_nil,ja,if_pos h,mh hL (Nat.le_refl k),List.nil_append]
 congr 1
 refine List.map_congr_left fun r hr=>?_
 have:=(wO.1 hr).1
 rw[ja,if_neg ab,List.append_nil]
theorem BN {k:Nat} {L:Nat->Nat} (hL:jm L) (h:L k≠k):(js k L)[bx L k]? =some (members k L (L k))/\js (k+1) L=(js k L).set (bx L k) (members k L (L k)++[k]):=by
 obtain⟨_,_,hl⟩:=wM hL h
 have dD:L k<k:=Nat.lt_of_le_of_ne (hL.le k) h
 have hg:=ov hL dD
 have hn:bx L (L k)=bx L k:=by rw[bx,hL.idem,bx]
 rw[hn,hL.idem]at hg
 refine⟨by unfold js;rw[List.getElem?_map,hg];rfl,?_⟩
 unfold js
 rw[gu,if_neg h,List.append_nil]
 refine List.ext_getElem? fun i=>?_
 rw[List.getElem?_set,List.getElem?_map,List.length_map]
 by_cases hi:bx L k=i
 ·subst hi
  rw[if_pos rfl,if_pos hl,hg,Option.map_some,ja,if_pos rfl]
 ·rw[if_neg hi,List.getElem?_map]
  rcases hr:(leads k L)[i]? with _|r
  ·rfl
  ·rw[Option.map_some,Option.map_some,ja,if_neg,List.append_nil]
   rintro rfl
   obtain⟨oZ,he⟩:=List.getElem?_eq_some_iff.1 hr
   have e2:(leads k L)[bx L k]=L k:=(List.getElem?_eq_some_iff.1 hg).2
   exact hi (wN hl oZ (e2.trans he.symm))
theorem Ao (k:Nat) (L:Nat->Nat) (r:Nat):(members k L r).length<=k:=by
 have:=List.length_filter_le (fun x=>L x==r) (List.range k)
 simpa[members]using this
def I8 (g:Rows) (o:Id) (L:List (List Nat)) (nx:Nat):Prop:=∃rows ids,g o=some ⟨true,1,rows⟩/\dw Oh g rows L ids/\ids.Nodup/\(∀i∈ids,i.site=168026008/\i.cq<nx)/\o.site=168025002/\o.cq<nx
theorem JK {g':Rows} {v v' vL j:Nat} (h1:g' ⟨168025002,v⟩=some ⟨true,1,[[.own ⟨168026008,v'⟩ 0 1]]⟩) (h2:g' ⟨168026008,v'⟩=some ⟨true,1,[eN j]⟩) (hv:v<vL) (mZ:v'<vL):I8 g' ⟨168025002,v⟩ [[j]] vL:=
 ⟨_,[⟨168026008,v'⟩],h1,.one ⟨_,rfl,h2,rfl⟩,by simp,fun i hi=>by rw[List.mem_singleton.1 hi];exact⟨rfl,mZ⟩,rfl,hv⟩
theorem I8.new {g:Rows} {o:Id} {L:List (List Nat)} {nx:Nat} (h:I8 g o L nx) (j:Nat):∃rows,g o=some ⟨true,1,rows⟩/\rows.length=L.length/\∀(g':Rows) (v v' vL:Nat),nx<=v'->v<vL->v'<vL->g' ⟨168025002,v⟩=some ⟨true,1,rows++[[.own ⟨168026008,v'⟩ 0 1]]⟩->g' ⟨168026008,v'⟩=some ⟨true,1,[eN j]⟩->(∀i:Id,i.site=168026008->i.cq<nx->g' i=g i)->I8 g' ⟨168025002,v⟩ (L++[[j]]) vL:=by
 obtain⟨rows,ids,h1,h2,h3,h4,h5,h6⟩:=h
 refine⟨rows,h1,h2.len,fun g' v v' vL hv wH Nd q1 q2 q3=>⟨_,ids++[⟨168026008,v'⟩],q1,(h2.frame Np fun i hi=>q3 i (h4 i hi).1 (h4 i hi).2).app (.one ⟨_,rfl,q2,rfl⟩),?_,fun i hi=>?_,rfl,wH⟩⟩
 ·refine List.nodup_append.2 ⟨h3,by simp,fun a ha b hb si=>?_⟩
  rw[List.mem_singleton.1 hb]at si
  have:=(h4 a ha).2
  rw[si]at this
  simp only at this
  omega
 ·rcases List.mem_append.1 hi with hi|hi
  ·have:=h4 i hi;exact⟨this.1,ab⟩
  ·rw[List.mem_singleton.1 hi];exact⟨rfl,Nd⟩
theorem I8.add {g:Rows} {o:Id} {L:List (List Nat)} {nx k:Nat} {La:List Nat} (h:I8 g o L nx) (hk:L[k]? =some La) (j:Nat):∃rows id,g o=some ⟨true,1,rows⟩/\rows.length=L.length/\rows[k]? =some [.own id 0 La.length]/\g id=some ⟨true,1,La.map eN⟩/\id.site=168026008/\id.cq<nx/\∀(g':Rows) (v' vL:Nat),nx<=v'->v'<vL->g' o=some ⟨true,1,rows.set k [.own ⟨168026008,v'⟩ 0 (La.length+1)]⟩->g' ⟨168026008,v'⟩=some ⟨true,1,La.map eN++[[.int .i64 (j:Int)]]⟩->(∀i:Id,i.site=168026008->i.cq<nx->(i=id)=False->g' i=g i)->I8 g' o (L.set k (La++[j])) vL:=by
 obtain⟨rows,ids,h1,h2,h3,h4,h5,h6⟩:=h
 have lx:k<L.length:=(List.getElem?_eq_some_iff.1 hk).1
 have Sd:=kh hk lx
 obtain⟨cs,ic,dq,Oq,MR,uc⟩:=h2.QB Np h3 k lx
 rw[Sd]at Oq
 obtain⟨id,rfl,q1,rfl⟩:=Oq
 have hid:=h4 id (MR id (by simp))
 refine⟨rows,id,h1,h2.len,dq,q1,hid.1,hid.2,fun g' v' vL hv wH r1 r2 r3=>?_⟩
 obtain⟨B8,s1,s2,s3⟩:=uc g' [.own ⟨168026008,v'⟩ 0 (La.length+1)] (La++[j]) [⟨168026008,v'⟩] ⟨_,by simp,by rw[r2];simp[eN],rfl⟩ (fun i hi Rk=>r3 i (h4 i hi).1 (h4 i hi).2 (by
  simp only[eq_iff_iff,iff_false];rintro rfl;exact Rk (by simp))) (by simp) fun i hi hc=>by
   rw[List.mem_singleton.1 hi]at hc
   have:=(h4 _ hc).2
   simp only at this
   omega
 refine⟨_,B8,r1,s1,s2,fun i hi=>?_,h5,ab⟩
 rcases s3 i hi with h|h
 ·rw[List.mem_singleton.1 h];exact⟨rfl,wH⟩
 ·have:=h4 i h;exact⟨this.1,ab⟩
def lr (G:Nat->Id) (n k:Nat):List (List AV):=(List.range n).map fun i=>[if i<k then .ptr (G i) 0 0 else .gI]
theorem lU (G:Nat->Id) (n k:Nat):(lr G n k).length=n:=by simp[lr]
theorem FV (G:Nat->Id) (n:Nat):List.replicate n [AV.gI]=lr G n 0:=by
 refine List.ext_getElem? fun i=>?_
 by_cases h:i<n
 ·rw[List.getElem?_replicate,if_pos h];simp[lr,h]
 ·rw[List.getElem?_eq_none (by simp;omega),List.getElem?_eq_none (by rw[lU];omega)]
theorem uQ {G:Nat->Id} {n i:Nat} (h:i<n):(lr G n n)[i]? =some [.ptr (G i) 0 0]:=by simp[lr,h]
theorem IJ {G:Nat->Id} {n k:Nat} (h:k<n):(lr G n k).set k [.ptr (G k) 0 0]=lr G n (k+1):=by
 refine List.ext_getElem? fun i=>?_
 rw[List.getElem?_set,lU]
 by_cases hi:k=i
 ·subst hi;rw[if_pos rfl,if_pos h];simp[lr,h]
 ·rw[if_neg hi]
  by_cases fP:i<n
  ·simp only[lr,List.getElem?_map,List.getElem?_range fP,Option.map_some]
   by_cases wC:i<k
   ·rw[if_pos wC,if_pos ab]
   ·rw[if_neg wC,if_neg ab]
  ·rw[List.getElem?_eq_none (by rw[lU];omega),List.getElem?_eq_none (by rw[lU];omega)]
end Go.Proofs.YtihgaadadaekmaaGreatDoor.V

namespace Go.Proofs.YtihgaadadaekmaaGreatDoor.V
open Go.RowKit
attribute [local irreducible] ea wpOps gS Call
attribute [local go_sem] aM fQ eM gi gh cE upd cu K.av cL AV.cells AV.cell rowOf rowsOf part ld rowAt bY ck dI eh ij bL da eA gp e8 du eo cY cX dV dW bR bm cQ bQ cT cR ej er ek cP bW cZ ei bP aQ cV cC ig bw cH bS aX dG bu dL AV.undef bF bH dY ef dU ec cF ez eF cw ev eu cU cW List.getD_cons_zero List.getD_cons_succ List.getD_nil List.all_cons List.all_nil Bool.and_true Bool.true_and Bool.and_self Bool.not_true Bool.not_false Option.map_some Option.map_none Option.bind_some Option.bind_none List.length_cons List.length_nil List.take_succ_cons List.take_zero List.take_nil List.drop_succ_cons List.drop_zero List.drop_nil List.head?_cons List.map_cons List.map_nil List.getElem?_cons_zero List.getElem?_cons_succ List.cons_append List.nil_append List.append_nil List.length_map List.set_cons_zero List.set_cons_succ Nat.reduceMul eq_self Int.toNat_natCast Int.natCast_nonneg and_self true_and and_true decide_true decide_false Bool.false_eq_true Nat.zero_add Nat.add_zero List.contains_cons List.contains_nil Bool.or_false Bool.false_or beq_self_eq_true Nat.reduceBEq ne_eq not_true_eq_false not_false_eq_true Id.mk.injEq false_and and_false Nat.reduceLT Int.reduceLE Int.reduceLT Int.reduceToNat Int.reduceNeg Int.reduceAdd Nat.le_refl List.length_append beq_true beq_false Bool.not_eq_eq_eq_not or_false false_or dE ad aj aI bE cj aV bf aU bo cN bG
theorem gz {o:Id} {a:Nat} (h:o.site=a) {b v:Nat} (si:(a==b)=false):(o=⟨b,v⟩)=False/\((⟨b,v⟩:Id)=o)=False:=by
 have h1:=yu h (v:=v) si
 refine⟨h1,?_⟩
 simp only[eq_iff_iff,iff_false]at h1 ⊢
 exact fun h=>h1 h.symm
theorem tR (cnt:Nat) (tZ:1<=cnt) (hn:cnt<=1048576) (bs:List PB) (hb:∀b∈bs,b.a<cnt/\b.b<cnt) (pO:bs.length<=1048576):ae Tryz.prog 168 [.int .i64 cnt,.sl (bs.map aA)] (.sl ((fb cnt (dS bs)).map yO)):=by
 intro n0
 refine Gs Ma rfl fun hl=>?_
 try simp only[q]
 clear hl
 have jo:(0:Int)<=(cnt:Int):=ab
 have oY:(cnt:Int)<=((16777216:Nat):Int):=ab
 obtain⟨G,hG⟩:∃G:Nat->Id,G=fun k=>⟨168005004,n0+3+4*k+2⟩:=⟨_,rfl⟩
 have Q0:∀k,(G k).site=168005004:=fun k=>by rw[hG]
 have R8:∀k,(G k).cq=n0+3+4*k+2:=fun k=>by rw[hG]
 have R6:∀i j,i≠j->(G i=G j)=False:=fun i j h=>by
  simp only[eq_iff_iff,iff_false]
  intro he
  have h1:=R8 i
  rw[he,R8 j]at h1
  omega
 have JM:∀i s v,(168005004==s)=false->(G i=⟨s,v⟩)=False:=fun i s v h=>yu (Q0 i) h
 have hz:=FV G cnt
 (try((repeat(revert hN;revert N;apply Pn.out));refine wk (tw @jo (tw @oY (tw @Int.le_refl @hz))) ?_;(repeat(refine Pn.mk ?_;intro N hN))))
 refine aP (fun n env st=>∃k:Nat,n=(cnt)-k/\k<=(cnt)/\env 21=.int .i64 (k:Int)/\st.get ⟨168001001,n0+1⟩=some ⟨true,1,lr G cnt k⟩/\(st.next=n0+3+4*k/\∀j:Nat,j<k->st.get (G j)=some ⟨true,2,[[.gI,.int .i64 (j:Int)]]⟩)) (cnt) ⟨0,ab,ab,sl @hz,sl @hz,⟨rfl,fun j hj=>ab⟩⟩ ?_
 rintro n_a env_a st_a ⟨k,rfl,ale,tt,ag0,j0⟩ dm
 have a0:=dm 0 (by kernel_rfl);have a1:=dm 1 (by kernel_rfl);have a5:=dm 5 (by kernel_rfl);have LX:=dm 19 (by kernel_rfl);have LY:=dm 20 (by kernel_rfl)
 simp only[go_sem, ↓reduceIte,Nat.reduceEqDiff,Nat.reduceAdd,Nat.reduceSub,Nat.reduceLeDiff,reduceCtorEq,hz]at a0 a1 a5 LX LY
 clear dm
 obtain⟨j0,iO⟩:=j0
 by_cases hk:(k:Int)<(cnt:Int)
 ·have bD:∀{e:Env} {gg:Rows} {nx:Nat},(e 21=.int .i64 (IntKind.i64.wrap ((k:Int)+1)))->(gg ⟨168001001,n0+1⟩=some ⟨true,1,lr G cnt (k+1)⟩)->(nx=n0+3+4*(k+1)/\∀j:Nat,j<(k+1)->gg (G j)=some ⟨true,2,[[.gI,.int .i64 (j:Int)]]⟩)->∃m0,m0<(cnt)-k/\∃k:Nat,m0=(cnt)-k/\k<=(cnt)/\e 21=.int .i64 (k:Int)/\gg ⟨168001001,n0+1⟩=some ⟨true,1,lr G cnt k⟩/\(nx=n0+3+4*k/\∀j:Nat,j<k->gg (G j)=some ⟨true,2,[[.gI,.int .i64 (j:Int)]]⟩):=fun x1 x2 x3=>⟨_,ab,k+1,rfl,ab,(by rw[x1,ay ab]),x2,x3⟩
  have dX:k<cnt:=ab
  have tl:=lU G cnt k
  have dP:=IJ (G:=G) dX
  have eD:(lr G cnt k)[k]? =some [.gI]:=by simp[lr,dX]
  have QY:(⟨168005004,st_a.next+1+1⟩:Id)=G k:=by rw[hG,j0]
  have hGf:∀j,j<k->(G j=G k)=False:=fun j hj=>R6 j k ab
  have xP:∀j,(G j=(⟨168001001,n0+1⟩:Id))=False:=fun j=>JM j _ _ (by decide)
  have BQ:∀j,((⟨168001001,n0+1⟩:Id)=G j)=False:=fun j=>by
   have:=xP j
   simp only[eq_iff_iff,iff_false]at this ⊢
   exact fun h=>this h.symm
  (try((repeat(revert hN;revert N;apply Pn.out));refine wk (tw @tt (tw @ag0 (tw @a0 (tw @a1 (tw @a5 (tw @LX (tw @LY (tw @hk (tw @tl (tw @QY (tw @xP (tw @BQ (tw @dP @eD))))))))))))) ?_;(repeat(refine Pn.mk ?_;intro N hN))))
  refine bD ?_ ?_ (by
   refine⟨by(try dsimp only)<;>omega,fun j hj=>?_⟩
   by_cases wD:j=k
   ·subst wD;simp only[go_sem, ↓reduceIte,Nat.reduceEqDiff,Nat.reduceAdd,Nat.reduceSub,Nat.reduceLeDiff,reduceCtorEq,QY,xP,BQ]
   ·have hold:=iO j ab
    have gY:=hGf j ab
    simp only[go_sem, ↓reduceIte,Nat.reduceEqDiff,Nat.reduceAdd,Nat.reduceSub,Nat.reduceLeDiff,reduceCtorEq,QY,xP,BQ,gY,hold])
  all_goals simp only[go_sem, ↓reduceIte,Nat.reduceEqDiff,Nat.reduceAdd,Nat.reduceSub,Nat.reduceLeDiff,reduceCtorEq,tt,ag0,a0,a1,a5,LX,LY,QY,xP,BQ,dP]
 have lx:cnt=k:=ab
 subst lx
 (try((repeat(revert hN;revert N;apply Pn.out));refine wk (tw @tt (tw @ag0 (tw @a0 (tw @a1 (tw @a5 (tw @LX (tw @LY @hk))))))) ?_;(repeat(refine Pn.mk ?_;intro N hN))))
 refine aP (fun n env st=>∃i:Nat,n=(bs.length)-i/\i<=(bs.length)/\env 33=.int .i64 (i:Int)/\st.get ⟨168001001,n0+1⟩=some ⟨true,1,lr G cnt cnt⟩/\(n0+3+4*cnt<=st.next)/\(∃px,mK cnt px (dS (bs.take i))/\sD st.get G cnt px)) (bs.length) ⟨0,ab,ab,sl (tw @tt (tw @ag0 (tw @a0 (tw @a1 (tw @a5 (tw @LX @LY)))))),sl (tw @tt (tw @ag0 (tw @a0 (tw @a1 (tw @a5 (tw @LX @LY)))))),bt,⟨fun _=>none,mK.start cnt,iO⟩⟩ ?_
 rintro n_b env_b st_b ⟨i,rfl,ble,b33,bg0,bI0,bI1⟩ bfr
 have b0:=bfr 0 (by kernel_rfl);have b1:=bfr 1 (by kernel_rfl);have b5:=bfr 5 (by kernel_rfl);have vY:=bfr 31 (by kernel_rfl);have vZ:=bfr 32 (by kernel_rfl)
 simp only[go_sem, ↓reduceIte,Nat.reduceEqDiff,Nat.reduceAdd,Nat.reduceSub,Nat.reduceLeDiff,reduceCtorEq,tt,ag0,a0,a1,a5,LX,LY]at b0 b1 b5 vY vZ
 clear bfr
 obtain⟨px,Jl,QZ⟩:=bI1
 have tl:=lU G cnt cnt
 have Px:∀j v,(G j=(⟨168009002,v⟩:Id))=False:=fun j v=>JM j _ v (by decide)
 have xP:∀j v,(G j=(⟨168001001,v⟩:Id))=False:=fun j v=>JM j _ v (by decide)
 have BQ:∀j v,((⟨168001001,v⟩:Id)=G j)=False:=fun j v=>by
  have:=xP j v
  simp only[eq_iff_iff,iff_false]at this ⊢
  exact fun h=>this h.symm
 have hGn:∀j,j<cnt->(G j).cq<st_b.next:=fun j hj=>by rw[R8];omega
 by_cases hi:(i:Int)<(bs.length:Int)
 ·have jr:∀{e:Env} {gg:Rows} {nx:Nat},(e 33=.int .i64 (IntKind.i64.wrap ((i:Int)+1)))->(gg ⟨168001001,n0+1⟩=some ⟨true,1,lr G cnt cnt⟩)->(n0+3+4*cnt<=nx)->(∃px,mK cnt px (dS (bs.take (i+1)))/\sD gg G cnt px)->∃m0,m0<(bs.length)-i/\∃i:Nat,m0=(bs.length)-i/\i<=(bs.length)/\e 33=.int .i64 (i:Int)/\gg ⟨168001001,n0+1⟩=some ⟨true,1,lr G cnt cnt⟩/\(n0+3+4*cnt<=nx)/\(∃px,mK cnt px (dS (bs.take i))/\sD gg G cnt px):=fun x1 x2 x3 x4=>⟨_,ab,i+1,rfl,ab,(by rw[x1,ay ab]),x2,x3,x4⟩
  have fP:i<bs.length:=ab
  have oq:(bs.map aA)[i]? =some (aA bs[i]):=by simp[fP]
  have ER:=hb _ (List.getElem_mem fP)
  have ou:bs.take (i+1)=bs.take i++[bs[i]]:=List.take_succ_eq_append_getElem fP
  have k6:dS (bs.take (i+1))=eE (dS (bs.take i)) bs[i]:=by rw[ou,uk]
  have hL:=so (bs.take i)
  generalize dS (bs.take i)=L at *
  generalize bs[i]=b at *
  have gA:=uQ (G:=G) ER.1
  have gB:=uQ (G:=G) ER.2
  have gj:(b.a:Int)<(cnt:Int):=ab
  have fC:(b.b:Int)<(cnt:Int):=ab
  (try((repeat(revert hN;revert N;apply Pn.out));refine wk (tw @b33 (tw @bg0 (tw @b0 (tw @b1 (tw @b5 (tw @vY (tw @vZ (tw @hi (tw @oq (tw @aA.eq_1 (tw @gA (tw @gB (tw @gj (tw @fC @tl)))))))))))))) ?_;(repeat(refine Pn.mk ?_;intro N hN))))
  refine I2 (fun e s=>e 0=.int .i64 cnt/\e 1=.sl (bs.map aA)/\e 5=.own ⟨168001001,n0+1⟩ 0 cnt/\e 31=.sl (bs.map aA)/\e 32=.int .i64 bs.length/\e 33=.int .i64 i/\e 9=.ptr (G (L b.a)) 0 0/\e 10=.ptr (G (L b.b)) 0 0/\(∀j:Id,j.cq<st_b.next->s.get j=st_b.get j)/\st_b.next<=s.next) ?_ ?_
  ·rintro e1 s1 ⟨m0,m1,m5,m31,m32,m33,m9,m10,mf,mn⟩
   refine hN _ _ ?_
   clear hN N
   have mG:sD s1.get G cnt px:=QZ.frame fun k hk=>mf _ (hGn k hk)
   have mt:=(mf ⟨168001001,n0+1⟩ bt).trans bg0
   have SH:L b.a<cnt:=Nat.lt_of_le_of_lt (hL.le _) ER.1
   have PY:L b.b<cnt:=Nat.lt_of_le_of_lt (hL.le _) ER.2
   have ra:=mG _ SH
   have rb:=mG _ PY
   rw[k5 (Jl.root hL SH (hL.idem _))]at ra
   rw[k5 (Jl.root hL PY (hL.idem _))]at rb
   have put:∀(g':Rows) (lo hi:Nat),hi<cnt->g' (G hi)=some ⟨true,2,[[.ptr (G lo) 0 0,.int .i64 (hi:Int)]]⟩->(∀k,k≠hi->k<cnt->g' (G k)=s1.get (G k))->sD g' G cnt (fun k=>if k=hi then some lo else px k):=fun g' lo hi _ h1 h2 k hk=>by
    by_cases Jg:k=hi
    ·subst Jg;rw[h1,sg (j:=lo) (if_pos rfl)]
    ·rw[h2 k Jg hk,mG k hk]
     unfold rD
     simp only[if_neg Jg]
   rcases Nat.lt_trichotomy (L b.a) (L b.b)with dD|heq|dD
   ·have MU:(L b.a:Int)<(L b.b:Int):=ab
    have hj:=Jl.join hL b ab
    rw[Nat.max_eq_right ab,Nat.min_eq_left ab,<-k6]at hj
    (try((repeat(revert hN;revert N;apply Pn.out));refine wk (tw @m0 (tw @m1 (tw @m5 (tw @m31 (tw @m32 (tw @m33 (tw @m9 (tw @m10 (tw @ra (tw @rb @MU)))))))))) ?_;(repeat(refine Pn.mk ?_;intro N hN))))
    refine jr ?_ ?_ bt (⟨_,hj,put _ _ _ PY (sd @Nat.zero_add) (fun k hk _=>by
     have gY:=R6 k _ hk
     simp only[go_sem, ↓reduceIte,Nat.reduceEqDiff,Nat.reduceAdd,Nat.reduceSub,Nat.reduceLeDiff,reduceCtorEq,gY])⟩)
    all_goals simp only[go_sem, ↓reduceIte,Nat.reduceEqDiff,Nat.reduceAdd,Nat.reduceSub,Nat.reduceLeDiff,reduceCtorEq,m0,m1,m5,m31,m32,m33,mt,xP,BQ]
   ·have tZ:¬(L b.a:Int)<(L b.b:Int):=ab
    have MV:¬(L b.b:Int)<(L b.a:Int):=ab
    have J6:=x9 heq
    rw[J6]at k6
    (try((repeat(revert hN;revert N;apply Pn.out));refine wk (tw @m0 (tw @m1 (tw @m5 (tw @m31 (tw @m32 (tw @m33 (tw @m9 (tw @m10 (tw @ra (tw @rb (tw @tZ @MV))))))))))) ?_;(repeat(refine Pn.mk ?_;intro N hN))))
    refine jr ?_ ?_ bt (⟨_,k6▸Jl,mG.frame fun k hk=>rfl⟩)
    all_goals simp only[go_sem, ↓reduceIte,Nat.reduceEqDiff,Nat.reduceAdd,Nat.reduceSub,Nat.reduceLeDiff,reduceCtorEq,m0,m1,m5,m31,m32,m33,mt]
   ·have MU:(L b.b:Int)<(L b.a:Int):=ab
    have tZ:¬(L b.a:Int)<(L b.b:Int):=ab
    have hj:=Jl.join hL b ab
    rw[Nat.max_eq_left ab,Nat.min_eq_right ab,<-k6]at hj
    (try((repeat(revert hN;revert N;apply Pn.out));refine wk (tw @m0 (tw @m1 (tw @m5 (tw @m31 (tw @m32 (tw @m33 (tw @m9 (tw @m10 (tw @ra (tw @rb (tw @MU @tZ))))))))))) ?_;(repeat(refine Pn.mk ?_;intro N hN))))
    refine jr ?_ ?_ bt (⟨_,hj,put _ _ _ SH (sd @Nat.zero_add) (fun k hk _=>by
     have gY:=R6 k _ hk
     simp only[go_sem, ↓reduceIte,Nat.reduceEqDiff,Nat.reduceAdd,Nat.reduceSub,Nat.reduceLeDiff,reduceCtorEq,gY])⟩)
    all_goals simp only[go_sem, ↓reduceIte,Nat.reduceEqDiff,Nat.reduceAdd,Nat.reduceSub,Nat.reduceLeDiff,reduceCtorEq,m0,m1,m5,m31,m32,m33,mt,xP,BQ]
  ·intro N hN
   refine eS ?_ ?_<;>(try((repeat(revert hN;revert N;apply Pn.out));refine wk (tw @b33 (tw @bg0 (tw @b0 (tw @b1 (tw @b5 (tw @vY (tw @vZ (tw @hi (tw @oq (tw @aA.eq_1 (tw @gA (tw @gB (tw @gj (tw @fC @tl)))))))))))))) ?_;(repeat(refine Pn.mk ?_;intro N hN))))<;>(try refine eS ?_ ?_)<;>(try((repeat(revert hN;revert N;apply Pn.out));refine wk (tw @b33 (tw @bg0 (tw @b0 (tw @b1 (tw @b5 (tw @vY (tw @vZ (tw @hi (tw @oq (tw @aA.eq_1 (tw @gA (tw @gB (tw @gj (tw @fC @tl)))))))))))))) ?_;(repeat(refine Pn.mk ?_;intro N hN))))<;>(try refine eS ?_ ?_)<;>(try((repeat(revert hN;revert N;apply Pn.out));refine wk (tw @b33 (tw @bg0 (tw @b0 (tw @b1 (tw @b5 (tw @vY (tw @vZ (tw @hi (tw @oq (tw @aA.eq_1 (tw @gA (tw @gB (tw @gj (tw @fC @tl)))))))))))))) ?_;(repeat(refine Pn.mk ?_;intro N hN))))
   all_goals
    refine .inr (aO _ _ _ _ _ (fun r σ1 hq=>?_) (xI G cnt px L Jl b.a ER.1 _ (QZ.frame fun k hk=>sd @Px)))
    obtain⟨g1,x1⟩:=σ1
    obtain⟨rfl,tV,JY⟩:=hq
    (try dsimp only at tV JY)
    subst tV
    refine hN _ _ ?_
    clear hN N
    (try((repeat(revert hN;revert N;apply Pn.out));refine wk (tw @b33 (tw @bg0 (tw @b0 (tw @b1 (tw @b5 (tw @vY (tw @vZ (tw @hi (tw @oq (tw @aA.eq_1 (tw @gA (tw @gB (tw @gj (tw @fC @tl)))))))))))))) ?_;(repeat(refine Pn.mk ?_;intro N hN))))
    refine .inr (aO _ _ _ _ _ (fun r σ1 hq=>?_) (xI G cnt px L Jl b.b ER.2 _ (QZ.frame fun k hk=>sd @Px)))
    obtain⟨g1,x2⟩:=σ1
    obtain⟨rfl,tV,me⟩:=hq
    (try dsimp only at tV me)
    subst tV
    refine hN _ _ ?_
    clear hN N
    (try((repeat(revert hN;revert N;apply Pn.out));refine wk (tw @b33 (tw @bg0 (tw @b0 (tw @b1 (tw @b5 (tw @vY (tw @vZ (tw @hi (tw @oq (tw @aA.eq_1 (tw @gA (tw @gB (tw @gj (tw @fC @tl)))))))))))))) ?_;(repeat(refine Pn.mk ?_;intro N hN))))
    exact⟨sd (tw @b33 (tw @bg0 (tw @b0 (tw @b1 (tw @b5 (tw @vY @vZ)))))),sd (tw @b33 (tw @bg0 (tw @b0 (tw @b1 (tw @b5 (tw @vY @vZ)))))),sd (tw @b33 (tw @bg0 (tw @b0 (tw @b1 (tw @b5 (tw @vY @vZ)))))),sd (tw @b33 (tw @bg0 (tw @b0 (tw @b1 (tw @b5 (tw @vY @vZ)))))),sd (tw @b33 (tw @bg0 (tw @b0 (tw @b1 (tw @b5 (tw @vY @vZ)))))),sd (tw @b33 (tw @bg0 (tw @b0 (tw @b1 (tw @b5 (tw @vY @vZ)))))),sd (tw @b33 (tw @bg0 (tw @b0 (tw @b1 (tw @b5 (tw @vY @vZ)))))),sd (tw @b33 (tw @bg0 (tw @b0 (tw @b1 (tw @b5 (tw @vY @vZ)))))),fun j hj=>by
     have hv:=eP hj
     simp only[go_sem, ↓reduceIte,Nat.reduceEqDiff,Nat.reduceAdd,Nat.reduceSub,Nat.reduceLeDiff,reduceCtorEq,hv],bt⟩
 have oZ:i=bs.length:=ab
 subst oZ
 rw[List.take_length]at Jl
 have hL:=so bs
 generalize dS bs=L at *
 (try((repeat(revert hN;revert N;apply Pn.out));refine wk (tw @b33 (tw @bg0 (tw @b0 (tw @b1 (tw @b5 (tw @vY (tw @vZ (tw @hi @tl)))))))) ?_;(repeat(refine Pn.mk ?_;intro N hN))))
 have l0:ko 0 L=[]:=rfl
 have oS:(none:Option Nat).isSome=false:=rfl
 have oT:∀a:Nat,(some a).isSome=true:=fun _=>rfl
 refine aP (fun n env st=>∃x:Nat,n=(cnt)-x/\x<=(cnt)/\env 81=.int .i64 (x:Int)/\st.get ⟨168001001,n0+1⟩=some ⟨true,1,lr G cnt cnt⟩/\st.get ⟨168017000,st_b.next+1+1⟩=some ⟨true,mI.CD,ko x L⟩/\(st_b.next+3<=st.next/\sD st.get G cnt px)/\((x=0/\env 11=.bK)∨∃o:Id,env 11=.own o 0 (leads x L).length/\I8 st.get o (js x L) st.next)) (cnt) ⟨0,ab,ab,sl (tw @b33 (tw @bg0 (tw @b0 (tw @b1 (tw @b5 (tw @vY (tw @vZ @l0))))))),sl (tw @b33 (tw @bg0 (tw @b0 (tw @b1 (tw @b5 (tw @vY (tw @vZ @l0))))))),sl (tw @b33 (tw @bg0 (tw @b0 (tw @b1 (tw @b5 (tw @vY (tw @vZ @l0))))))),⟨bt,QZ.frame fun k hk=>by(have gY:=JM k 168017000 (st_b.next+1+1) (by decide));simp only[go_sem, ↓reduceIte,Nat.reduceEqDiff,Nat.reduceAdd,Nat.reduceSub,Nat.reduceLeDiff,reduceCtorEq,gY]⟩,.inl ⟨rfl,sd @Nat.zero_add⟩⟩ ?_
 rintro n_c env_c st_c ⟨x,rfl,cle,c81,cg0,cg1,cI0,cI1⟩ cfr
 have xo:=cfr 12 (by kernel_rfl);have Jz:=cfr 79 (by kernel_rfl);have JA:=cfr 80 (by kernel_rfl)
 simp only[go_sem, ↓reduceIte,Nat.reduceEqDiff,Nat.reduceAdd,Nat.reduceSub,Nat.reduceLeDiff,reduceCtorEq,b33,bg0,b0,b1,b5,vY,vZ,l0]at xo Jz JA
 clear cfr
 obtain⟨ua,O2⟩:=cI0
 have MF:∀j v,(G j=(⟨168017000,v⟩:Id))=False:=fun j v=>JM j _ v (by decide)
 have MB:∀j v,(G j=(⟨168025002,v⟩:Id))=False:=fun j v=>JM j _ v (by decide)
 have MD:∀j v,(G j=(⟨168025001,v⟩:Id))=False:=fun j v=>JM j _ v (by decide)
 have ME:∀j v,(G j=(⟨168026007,v⟩:Id))=False:=fun j v=>JM j _ v (by decide)
 have MC:∀j v,(G j=(⟨168026008,v⟩:Id))=False:=fun j v=>JM j _ v (by decide)
 by_cases hx:(x:Int)<(cnt:Int)
 ·have gL:∀{e:Env} {gg:Rows} {nx:Nat},(e 81=.int .i64 (IntKind.i64.wrap ((x:Int)+1)))->(gg ⟨168001001,n0+1⟩=some ⟨true,1,lr G cnt cnt⟩)->(gg ⟨168017000,st_b.next+1+1⟩=some ⟨true,mI.CD,ko (x+1) L⟩)->(st_b.next+3<=nx/\sD gg G cnt px)->(((x+1)=0/\e 11=.bK)∨∃o:Id,e 11=.own o 0 (leads (x+1) L).length/\I8 gg o (js (x+1) L) nx)->∃m0,m0<(cnt)-x/\∃x:Nat,m0=(cnt)-x/\x<=(cnt)/\e 81=.int .i64 (x:Int)/\gg ⟨168001001,n0+1⟩=some ⟨true,1,lr G cnt cnt⟩/\gg ⟨168017000,st_b.next+1+1⟩=some ⟨true,mI.CD,ko x L⟩/\(st_b.next+3<=nx/\sD gg G cnt px)/\((x=0/\e 11=.bK)∨∃o:Id,e 11=.own o 0 (leads x L).length/\I8 gg o (js x L) nx):=fun x1 x2 x3 x4 x5=>⟨_,ab,x+1,rfl,ab,(by rw[x1,ay ab]),x2,x3,x4,x5⟩
  have ON:x<cnt:=ab
  have gX:=uQ (G:=G) ON
  have hlx:L x<cnt:=Nat.lt_of_le_of_lt (hL.le _) ON
  have ra:=O2 _ hlx
  rw[k5 (Jl.root hL hlx (hL.idem _))]at ra
  have gy:=jt x L
  (try((repeat(revert hN;revert N;apply Pn.out));refine wk (tw @c81 (tw @cg0 (tw @cg1 (tw @xo (tw @Jz (tw @JA (tw @hx (tw @gX @tl)))))))) ?_;(repeat(refine Pn.mk ?_;intro N hN))))
  refine .inr (aO _ _ _ _ _ (fun r σ1 hq=>?_) (xI G cnt px L Jl x ON _ (O2.frame fun k hk=>sd @Nat.zero_add)))
  obtain⟨g1,x1⟩:=σ1
  obtain⟨rfl,tV,JY⟩:=hq
  (try dsimp only at tV JY)
  subst tV
  refine hN _ _ ?_
  clear hN N
  by_cases hr:L x=x
  ·rw[hr]at ra ⊢
   have mY:=Fl hr
   have Rj:(leads (x+1) L).length=(leads x L).length+1:=by rw[gu,if_pos hr];simp
   have OG:=Cj hr
   have Rd:=BM hL hr
   rcases cI1 with⟨rfl,mU⟩|⟨o,mU,cS⟩
   ·have S4:ko 1 L=[[.int .i64 ((0:Nat):Int),.int .i64 ((0:Nat):Int)]]:=OG
    (try((repeat(revert hN;revert N;apply Pn.out));refine wk (tw @c81 (tw @cg0 (tw @cg1 (tw @xo (tw @Jz (tw @JA (tw @mU (tw @ra (tw @mY (tw @l0 (tw @oS (tw @oT (tw @Bool.not_false @Bool.not_true))))))))))))) ?_;(repeat(refine Pn.mk ?_;intro N hN))))
    refine gL ?_ ?_ ?_ (by(try dsimp only);exact⟨ab,O2.frame fun k hk=>sd (tw @MF (tw @MB (tw @MC (tw @MD @ME))))⟩) (.inr ⟨⟨168025002,x1+1+1+1+1⟩,by simp only[go_sem, ↓reduceIte,Nat.reduceEqDiff,Nat.reduceAdd,Nat.reduceSub,Nat.reduceLeDiff,reduceCtorEq,Rj];rfl,by rw[Rd];exact JK (v':=x1+1+1+1+1+1) (sd @Nat.zero_add) (sd @eN.eq_1) bt bt⟩)
    all_goals simp only[go_sem, ↓reduceIte,Nat.reduceEqDiff,Nat.reduceAdd,Nat.reduceSub,Nat.reduceLeDiff,reduceCtorEq,c81,cg0,cg1,xo,Jz,JA,S4]
   ·obtain⟨rows,vz,oO,km⟩:=cS.new x
    rw[pv]at oO
    have EX:o.site=168025002:=by obtain⟨_,_,_,_,_,_,h,_⟩:=cS;exact h
    have sJ:o.cq<x1:=by obtain⟨_,_,_,_,_,_,_,h⟩:=cS;omega
    have jO:=eP sJ
    have P7:=gz (o:=o) EX (b:=168017000) (v:=st_b.next+1+1) (by decide)
    have OC:=gz (o:=o) EX (b:=168001001) (v:=n0+1) (by decide)
    have MG:∀k,(G k=o)=False:=fun k=>by simp only[eq_iff_iff,iff_false];intro h;have h1:=Q0 k;rw[h,EX]at h1;cases h1
    have pP:(rows++[[AV.bK]])[(leads x L).length]? =some [.bK]:=by rw[<-oO];simp
    have s4:∀a:List AV,(rows++[[AV.bK]]).set (leads x L).length a=rows++[a]:=fun a=>by rw[<-oO];simp
    have e1:(leads x L).length+1<=16777216:=ab
    have e2:((leads x L).length:Int)<(((leads x L).length+1:Nat):Int):=ab
    (try((repeat(revert hN;revert N;apply Pn.out));refine wk (tw @c81 (tw @cg0 (tw @cg1 (tw @xo (tw @Jz (tw @JA (tw @mU (tw @ra (tw @mY (tw @vz (tw @oO (tw @jO (tw @P7 (tw @pP (tw @s4 (tw @e1 (tw @e2 (tw @oS (tw @oT (tw @Bool.not_false @Bool.not_true)))))))))))))))))))) ?_;(repeat(refine Pn.mk ?_;intro N hN))))
    refine gL ?_ ?_ ?_ (by(try dsimp only);exact⟨ab,O2.frame fun k hk=>sd (tw @MF (tw @MB (tw @MC (tw @MD (tw @ME @MG)))))⟩) (.inr ⟨⟨168025002,x1+1+1+1+1⟩,sd @Rj,by rw[Rd];exact km _ _ (x1+1+1+1+1+1) _ ab bt bt (sd @s4) (sd @eN.eq_1) (fun j hj hv=>by
     have q1:=eP (i:=j) (n:=x1) ab
     have q2:=gz hj (b:=168017000) (v:=st_b.next+1+1) (by decide)
     have q3:(j=o)=False:=by simp only[eq_iff_iff,iff_false];intro h;rw[h,EX]at hj;cases hj
     simp only[go_sem, ↓reduceIte,Nat.reduceEqDiff,Nat.reduceAdd,Nat.reduceSub,Nat.reduceLeDiff,reduceCtorEq,q1,q2,q3])⟩)
    all_goals simp only[go_sem, ↓reduceIte,Nat.reduceEqDiff,Nat.reduceAdd,Nat.reduceSub,Nat.reduceLeDiff,reduceCtorEq,c81,cg0,cg1,xo,Jz,JA,OG,jO,P7,OC]
  ·obtain⟨mY,HA,dD⟩:=wM hL hr
   obtain⟨PT,Rd⟩:=BN hL hr
   have Rj:(leads (x+1) L).length=(leads x L).length:=by rw[gu,if_neg hr];simp
   have J6:=Ci hr
   rcases cI1 with⟨rfl,mU⟩|⟨o,mU,cS⟩
   ·exact absurd (Nat.le_zero.1 (hL.le 0)) hr
   ·obtain⟨rows,id,vz,oO,hrk,hid,Hq,hidv,Sh⟩:=cS.add PT x
    rw[pv]at oO
    have EX:o.site=168025002:=by obtain⟨_,_,_,_,_,_,h,_⟩:=cS;exact h
    have sJ:o.cq<x1:=by obtain⟨_,_,_,_,_,_,_,h⟩:=cS;omega
    have jO:=eP sJ
    have wH:=eP (i:=id) (n:=x1) ab
    have oq:(bx L x:Int)<((leads x L).length:Int):=ab
    have P3:=Ao x L (L x)
    have hma:((members x L (L x)).map eN).length=(members x L (L x)).length:=by simp
    have e1:(members x L (L x)).length+1<=16777216:=ab
    have Lx:(o=id)=False:=by simp only[eq_iff_iff,iff_false];rintro rfl;rw[Hq]at EX;cases EX
    have Lu:(id=o)=False:=by simp only[eq_iff_iff,iff_false];rintro rfl;rw[Hq]at EX;cases EX
    have P7:=gz (o:=o) EX (b:=168017000) (v:=st_b.next+1+1) (by decide)
    have OC:=gz (o:=o) EX (b:=168001001) (v:=n0+1) (by decide)
    have hiM:=gz (o:=id) Hq (b:=168017000) (v:=st_b.next+1+1) (by decide)
    have hiT:=gz (o:=id) Hq (b:=168001001) (v:=n0+1) (by decide)
    have MG:∀k,(G k=o)=False:=fun k=>by simp only[eq_iff_iff,iff_false];intro h;have h1:=Q0 k;rw[h,EX]at h1;cases h1
    have R7:∀k,(G k=id)=False:=fun k=>by simp only[eq_iff_iff,iff_false];intro h;have h1:=Q0 k;rw[h,Hq]at h1;cases h1
    (try((repeat(revert hN;revert N;apply Pn.out));refine wk (tw @c81 (tw @cg0 (tw @cg1 (tw @xo (tw @Jz (tw @JA (tw @mU (tw @ra (tw @mY (tw @HA (tw @vz (tw @oO (tw @hrk (tw @hid (tw @jO (tw @wH (tw @oq (tw @hma (tw @e1 (tw @Lx (tw @Lu (tw @P7 (tw @OC (tw @hiM (tw @hiT (tw @oS (tw @oT (tw @Bool.not_false @Bool.not_true)))))))))))))))))))))))))))) ?_;(repeat(refine Pn.mk ?_;intro N hN))))
    refine gL ?_ ?_ ?_ (by(try dsimp only);exact⟨ab,O2.frame fun k hk=>sd (tw @MF (tw @MB (tw @MC (tw @MD (tw @ME (tw @MG @R7))))))⟩) (.inr ⟨o,sd (tw @Rj @mU),by rw[Rd];exact Sh _ (x1+1+1) _ ab bt (sd @Nat.zero_add) (sd (tw @jO (tw @wH (tw @Lx @Lu)))) (fun j hj hv lW=>by
     have q1:=eP (i:=j) (n:=x1) ab
     have q2:=gz hj (b:=168017000) (v:=st_b.next+1+1) (by decide)
     have q3:(j=o)=False:=by simp only[eq_iff_iff,iff_false];intro h;rw[h,EX]at hj;cases hj
     simp only[go_sem, ↓reduceIte,Nat.reduceEqDiff,Nat.reduceAdd,Nat.reduceSub,Nat.reduceLeDiff,reduceCtorEq,q1,q2,q3,lW])⟩)
    all_goals simp only[go_sem, ↓reduceIte,Nat.reduceEqDiff,Nat.reduceAdd,Nat.reduceSub,Nat.reduceLeDiff,reduceCtorEq,c81,cg0,cg1,xo,Jz,JA,J6,jO,wH,P7,OC,hiM,hiT]
 have Te:x=cnt:=ab
 rcases cI1 with⟨h0,_⟩|⟨o,mU,rows,ids,vz,hR,_,_,_,_⟩
 ·omega
 have oO:=hR.len
 rw[pv]at oO
 (try((repeat(revert hN;revert N;apply Pn.out));refine wk (tw @c81 (tw @cg0 (tw @cg1 (tw @xo (tw @Jz (tw @JA (tw @hx (tw @mU @vz)))))))) ?_;(repeat(refine Pn.mk ?_;intro N hN))))
 refine uH (.inl rfl) (by simp only[go_sem, ↓reduceIte,Nat.reduceEqDiff,Nat.reduceAdd,Nat.reduceSub,Nat.reduceLeDiff,reduceCtorEq];rfl) ?_
 rw[qg vz ab (rows':=(fb cnt L).map yO) (by
  rw[List.drop_zero,List.take_of_length_le ab]
  rw[Te]at hR;exact HT 3 hR)]
theorem I3 (b:PB) (t:Int):ae Tryz.prog 171 [.agg (aA b),.cJ [.int .i64 t]] (.bool (decide (b.s<t))):=by
 refine ae.body dK rfl fun hl n0=>?_
 clear hl
 (try((repeat(revert hN;revert N;apply Pn.out));refine wk @aA.eq_1 ?_;(repeat(refine Pn.mk ?_;intro N hN))))
 exact aC (b:=decide (b.s<t)) (.inl rfl) (sd @Nat.zero_add) rfl
theorem wK (bs:List PB) (t:Int) (hl:bs.length<=1048576):ae Tryz.prog 185 [.sl (bs.map aA),.fn 171 [.cJ [.int .i64 t]]] (.int .i64 (jR (fun b:PB=>decide (b.s<t)) bs)):=
 sn GZ (show kO Tryz.prog 185=some (rI 185 3 true) by kernel_rfl) bs hl 171 _ _ (fun x _=>I3 x t) fun g=>by simp only[ad,aj,aU,Option.map_some]
theorem GX (bs:List PB) (hp:0<bs.length) (hl:bs.length<=1048576) (σ:ax):
  Call Tryz.prog 170 [.sl (bs.map aA)] σ fun r σ'=>∃o:Id,r=.own o 0 bs.length/\σ'.get o=some ⟨true,3,bs.map aA⟩/\σ.next<=o.cq/\o.cq<σ'.next/\∀i:Id,i.cq<σ.next->σ'.get i=σ.get i:=by
 refine eX dK rfl fun hl=>?_
 clear hl
 have hz:=all_map (l:=bs) LQ
 obtain⟨b,r,rfl⟩:∃b r,bs=b::r:=by
  cases bs with
  |nil=>simp at hp
  |cons b r=>exact⟨b,r,rfl⟩
 have gy:(List.map aA (b::r)).length=(b::r).length:=by simp
 have e1:r.length<=16777215:=by simp at hl;omega
 rw[List.map_cons]at hz gy ⊢
 (try((repeat(revert hN;revert N;apply Pn.out));refine wk (tw @hz (tw @gy @e1)) ?_;(repeat(refine Pn.mk ?_;intro N hN))))
 refine gn (.inl rfl) (vs:=[.own ⟨170003002,σ.next+1+1⟩ 0 (b::r).length]) (by simp only[eV,gM,go_sem, ↓reduceIte,Nat.reduceEqDiff,Nat.reduceAdd,Nat.reduceSub,Nat.reduceLeDiff,reduceCtorEq,List.length_cons]) ⟨⟨170003002,σ.next+1+1⟩,rfl,sd @Nat.zero_add,bt,bt,fun i hi=>?_⟩
 have hv:=eP hi
 simp only[go_sem, ↓reduceIte,Nat.reduceEqDiff,Nat.reduceAdd,Nat.reduceSub,Nat.reduceLeDiff,reduceCtorEq,hv]
theorem nW {t:Int} {bs:List PB} {j:Nat} (hj:j<bs.length):aJ t (bs.take (j+1))=aJ t (bs.take j)++if decide (bs[j].s<t)=true then[]else[bs[j]]:=by
 rw[sw t bs j hj]
 congr 1
 by_cases h:bs[j].s<t
 ·rw[if_neg ab,if_pos (decide_eq_true h)]
 ·rw[if_pos ab,if_neg (by simp only[decide_eq_true_eq];exact h)]
theorem sv {t:Int} {bs:List PB} (h:∀b∈bs,¬b.s<t):aJ t bs=bs:=by
 unfold aJ
 rw[List.filter_eq_self]
 intro b hb
 have:=h b hb
 exact decide_eq_true ab
structure sC (t:Int) (bs:List PB) (j:Nat) (R:List PB):Prop where
 len:R.length=bs.length
 pre:R.take (aJ t (bs.take j)).length=aJ t (bs.take j)
 post:∀x,j<=x->R[x]? =bs[x]?
 lt:(aJ t (bs.take j)).length<j
theorem sC.start {t:Int} {bs:List PB} {i:Nat} (hi:i<bs.length) (hw:bs[i].s<t) (hp:∀x (h:x<i),¬bs[x].s<t):sC t bs (i+1) bs/\(aJ t (bs.take (i+1))).length=i:=by
 have h1:aJ t (bs.take i)=bs.take i:=sv fun b hb=>by
  obtain⟨x,hx,rfl⟩:=List.getElem_of_mem hb
  rw[List.length_take]at hx
  rw[List.getElem_take]
  exact hp x ab
 have h2:aJ t (bs.take (i+1))=bs.take i:=by rw[nW hi,if_pos (decide_eq_true hw),List.append_nil,h1]
 have h3:(bs.take i).length=i:=by rw[List.length_take];omega
 exact⟨⟨rfl,by rw[h2,h3],fun _ _=>rfl,by rw[h2,h3];omega⟩,by rw[h2,h3]⟩
theorem sC.Tp {t:Int} {bs R:List PB} {j:Nat} (h:sC t bs j R) (hj:j<bs.length) (hw:bs[j].s<t):sC t bs (j+1) R/\(aJ t (bs.take (j+1))).length=(aJ t (bs.take j)).length:=by
 have h2:aJ t (bs.take (j+1))=aJ t (bs.take j):=by rw[nW hj,if_pos (decide_eq_true hw),List.append_nil]
 exact⟨⟨h.len,by rw[h2];exact h.pre,fun x hx=>h.post x ab,by rw[h2];have:=h.lt;omega⟩,by rw[h2]⟩
theorem sC.ui {t:Int} {bs R:List PB} {j:Nat} (h:sC t bs j R) (hj:j<bs.length) (hw:¬bs[j].s<t):sC t bs (j+1) (R.set (aJ t (bs.take j)).length bs[j])/\(aJ t (bs.take (j+1))).length=(aJ t (bs.take j)).length+1:=by
 have h2:aJ t (bs.take (j+1))=aJ t (bs.take j)++[bs[j]]:=by rw[nW hj,if_neg (by simp only[decide_eq_true_eq];exact hw)]
 have dD:=h.lt
 have hlen:=h.len
 have vE:=h.pre
 generalize hc:(aJ t (bs.take j)).length=c at *
 refine⟨⟨by rw[List.length_set];exact hlen,?_,fun x hx=>?_,by rw[h2,List.length_append,hc];simp;omega⟩,by rw[h2,List.length_append,hc];rfl⟩
 ·rw[h2,List.length_append,hc,List.length_singleton,List.take_succ_eq_append_getElem (by rw[List.length_set];omega),List.getElem_set_self,List.take_set_of_le (Nat.le_refl _),vE]
 ·rw[List.getElem?_set_ne ab];exact h.post x ab
theorem sC.at_ {t:Int} {bs R:List PB} {j:Nat} (h:sC t bs j R) (hj:j<bs.length):(R.map aA)[j]? =some (aA bs[j]):=by
 rw[List.getElem?_map,h.post j (Nat.le_refl j),List.getElem?_eq_getElem hj];rfl
theorem By {p:PB->Bool} {bs:List PB} (h:¬0<=jR p bs):∀b∈bs,p b=false:=by
 intro b hb
 unfold jR at h
 split at h
 ·omega
 ·rename_i h1
  rw[List.findIdx_lt_length]at h1
  cases hp:p b
  ·rfl
  ·exact absurd ⟨b,hb,hp⟩ h1
theorem Bz {p:PB->Bool} {bs:List PB} (h:0<=jR p bs):∃i,∃hi:i<bs.length,jR p bs=(i:Int)/\p bs[i]=true/\∀x (hx:x<i),p (bs[x]'ab)=false:=by
 unfold jR at h ⊢
 split
 ·rename_i h1
  exact⟨bs.findIdx p,h1,rfl,List.findIdx_getElem,fun x hx=>by simpa using List.not_of_lt_findIdx hx⟩
 ·rename_i h1;rw[if_neg h1]at h;omega
theorem EE (bs:List PB) (t:Int) (hl:bs.length<=1048576) (o T:Id) (σ:ax) (ho:σ.get o=some ⟨true,3,bs.map aA⟩) (hT:σ.get T=some ⟨true,1,[[.int .i64 t]]⟩) (sJ:o.cq<σ.next) (hTv:T.cq<σ.next) (OC:o≠T):
  Call Tryz.prog 169 [.own o 0 bs.length,.fn 171 [.ptr T 0 0]] σ fun r σ'=>∃rows,r=.own o 0 (aJ t bs).length/\σ'.get o=some ⟨true,3,rows⟩/\rows.take (aJ t bs).length=(aJ t bs).map aA/\(aJ t bs).length<=rows.length/\σ.next<=σ'.next/\∀i:Id,i.cq<σ.next->i≠o->σ'.get i=σ.get i:=by
 refine eX dK rfl fun vC=>?_
 clear vC
 have EU:=wK bs t hl
 have hzT:∀(g:Rows),g T=some ⟨true,1,[[.int .i64 t]]⟩->V.fz (dE g) 5 (.ptr T 0 0)=some (.cJ [.int .i64 t]):=fun g hg=>xK (sz:=1) (rows:=[[.int .i64 t]]) (by simp[dE,hg]) rfl (by simp only[List.drop_zero,ad,aj,aI,Option.map_some])
 have yW:∀(g:Rows),g T=some ⟨true,1,[[.int .i64 t]]⟩->g o=some ⟨true,3,bs.map aA⟩->cm (dE g) 6 [.own o 0 bs.length,.fn 171 [.ptr T 0 0]]=some [.sl (bs.map aA),.fn 171 [.cJ [.int .i64 t]]]:=fun g h1 h2=>by
  have q1:=e7 (g:=dE g) (n:=5) (e:=aA) (sz:=3) (len:=bs.length) (l:=bs) (id:=o) (by simp[dE,h2]) rfl fun b=>xJ _ 4 b
  have q2:=hzT g h1
  simp only[ad,aj,q1,cN,List.all_cons,List.all_nil,AV.cell,Bool.and_true,if_true,q2,Option.map_some]
 have k7:∀(g:Rows),g T=some ⟨true,1,[[.int .i64 t]]⟩->∀b:PB,cm (dE g) 6 [.agg (aA b),.ptr T 0 0]=some [.agg (aA b),.cJ [.int .i64 t]]:=fun g h1 b=>by
  have q3:V.fz (dE g) 6 (.ptr T 0 0)=some (.cJ [.int .i64 t]):=xK (sz:=1) (rows:=[[.int .i64 t]]) (by simp[dE,h1]) rfl (by simp only[List.drop_zero,ad,aj,aI,Option.map_some])
  simp only[ad,aj,bf,xJ,q3,Option.map_some]
 (try((repeat(revert hN;revert N;apply Pn.out));refine wk @Nat.zero_add ?_;(repeat(refine Pn.mk ?_;intro N hN))))
 refine .inl ⟨_,ae.x EU (yW _ hT ho),?_⟩
 refine hN _ _ ?_
 clear hN N
 by_cases h0:0<=jR (fun b:PB=>decide (b.s<t)) bs
 ·obtain⟨i,hi,Je,hpi,M1⟩:=Bz h0
  rw[Je]at *
  have J0:decide ((i:Int)= -1)=false:=decide_eq_false ab
  have Qi:IntKind.i64.wrap ((i:Int)+1)=((i+1:Nat):Int):=ay ab
  obtain⟨ew,s4⟩:=sC.start (t:=t) hi (by simpa using hpi) (fun x hx=>by simpa using M1 x hx)
  (try((repeat(revert hN;revert N;apply Pn.out));refine wk (tw @J0 @Qi) ?_;(repeat(refine Pn.mk ?_;intro N hN))))
  refine aP (fun m env st=>∃(j:Nat) (R:List PB),m=bs.length-j/\env 6=.int .i64 (j:Int)/\env 5=.int .i64 ((aJ t (bs.take j)).length:Int)/\st.get o=some ⟨true,3,R.map aA⟩/\sC t bs j R/\j<=bs.length/\σ.next<=st.next/\∀x:Id,x.cq<σ.next->(x=o)=False->st.get x=σ.get x) (bs.length-(i+1)) ⟨i+1,bs,rfl,sd @Qi,sd @s4,sd @ho,ew,ab,bt,fun x _ _=>sd @Nat.zero_add⟩ ?_
  rintro m env_b st_b ⟨j,R,rfl,b6,b5,bg,hD,gN,hle,lv⟩ bfr
  have b0:=bfr 0 (by kernel_rfl)
  have b1:=bfr 1 (by kernel_rfl)
  simp only[go_sem, ↓reduceIte,Nat.reduceEqDiff,Nat.reduceAdd,Nat.reduceSub,Nat.reduceLeDiff,reduceCtorEq]at b0 b1
  clear bfr
  have bT:=(lv T hTv (by simp only[eq_iff_iff,iff_false];exact fun h=>OC h.symm)).trans hT
  have oP:=eP (i:=o) (n:=st_b.next) ab
  have S9:=eP (i:=T) (n:=st_b.next) ab
  have hRl:=hD.len
  have Sf:(R.map aA).length=bs.length:=by rw[List.length_map,hRl]
  have dD:=hD.lt
  by_cases hj:(j:Int)<(bs.length:Int)
  ·have gm:j<bs.length:=ab
   have Gf:=hD.at_ gm
   have Ng:=I3 bs[j] t
   have Rr:IntKind.i64.wrap ((j:Int)+1)=((j+1:Nat):Int):=ay ab
   have hD1:=hD.Tp gm
   have hD2:=hD.ui gm
   generalize bs[j]=b at *
   (try((repeat(revert hN;revert N;apply Pn.out));refine wk (tw @b0 (tw @b1 (tw @b5 (tw @b6 (tw @bg (tw @hj (tw @Gf (tw @aA.eq_1 (tw @oP (tw @S9 @Sf)))))))))) ?_;(repeat(refine Pn.mk ?_;intro N hN))))
   refine .inl ⟨_,ae.x Ng (k7 _ (sd (tw @S9 @bT)) b),?_⟩
   refine hN _ _ ?_
   clear hN N
   by_cases hw:b.s<t
   ·obtain⟨R3,R0⟩:=hD1 hw
    have hd:decide (b.s<t)=true:=decide_eq_true hw
    (try((repeat(revert hN;revert N;apply Pn.out));refine wk (tw @b0 (tw @b1 (tw @b5 (tw @b6 (tw @hd @Rr))))) ?_;(repeat(refine Pn.mk ?_;intro N hN))))
    refine⟨_,?_,j+1,R,rfl,sd @Rr,sd (tw @b5 @R0),sd (tw @bg @oP),R3,ab,bt,fun x hx Gm=>?_⟩
    ·omega
    ·have OK:=eP (i:=x) (n:=st_b.next) ab
     have:=lv x hx Gm
     simp only[go_sem, ↓reduceIte,Nat.reduceEqDiff,Nat.reduceAdd,Nat.reduceSub,Nat.reduceLeDiff,reduceCtorEq,OK,this]
   ·obtain⟨R3,R0⟩:=hD2 hw
    have hd:decide (b.s<t)=false:=decide_eq_false hw
    have Sk:((aJ t (bs.take j)).length:Int)<(bs.length:Int):=ab
    have hwc:IntKind.i64.wrap (((aJ t (bs.take j)).length:Int)+1)=(((aJ t (bs.take j)).length+1:Nat):Int):=ay ab
    have dP:(R.map aA).set (aJ t (bs.take j)).length [.int .i64 (b.a:Int),.int .i64 (b.b:Int),.int .i64 b.s]=(R.set (aJ t (bs.take j)).length b).map aA:=by rw[List.map_set];rfl
    have Ov:∃y,(R.map aA)[(aJ t (bs.take j)).length]? =some (aA y):=⟨R[(aJ t (bs.take j)).length]'ab,by rw[List.getElem?_map,List.getElem?_eq_getElem ab];rfl⟩
    obtain⟨y,Ov⟩:=Ov
    rw[aA]at Ov
    (try((repeat(revert hN;revert N;apply Pn.out));refine wk (tw @b0 (tw @b1 (tw @b5 (tw @b6 (tw @bg (tw @hd (tw @Rr (tw @hwc (tw @Sk (tw @dP (tw @Ov (tw @oP (tw @S9 @Sf))))))))))))) ?_;(repeat(refine Pn.mk ?_;intro N hN))))
    refine⟨_,?_,j+1,_,rfl,sd @Rr,sd (tw @hwc @R0),sd @dP,R3,ab,bt,fun x hx Gm=>?_⟩
    ·omega
    ·have OK:=eP (i:=x) (n:=st_b.next) ab
     have:=lv x hx Gm
     simp only[go_sem, ↓reduceIte,Nat.reduceEqDiff,Nat.reduceAdd,Nat.reduceSub,Nat.reduceLeDiff,reduceCtorEq,OK,this,Gm]
  ·have gN:j=bs.length:=ab
   subst gN
   have vE:=hD.pre
   rw[List.take_length]at b5 dD vE
   have Sk:((aJ t bs).length:Int)<=(bs.length:Int):=ab
   have Q8:(aJ t bs).length<=bs.length:=ab
   have pz:(aJ t bs).length+(bs.length-(aJ t bs).length)=bs.length:=ab
   have s4:=mo t bs
   (try((repeat(revert hN;revert N;apply Pn.out));refine wk (tw @b0 (tw @b1 (tw @b5 (tw @b6 (tw @bg (tw @hj (tw @Sf (tw @Sk (tw @Q8 (tw @pz (tw @Nat.le_refl (tw @Nat.sub_zero (tw @Int.le_refl @oP))))))))))))) ?_;(repeat(refine Pn.mk ?_;intro N hN))))
   refine gn (.inl rfl) (vs:=[.own o 0 (aJ t bs).length]) (sd @Nat.zero_add) ⟨_,rfl,by simp only[go_sem, ↓reduceIte,Nat.reduceEqDiff,Nat.reduceAdd,Nat.reduceSub,Nat.reduceLeDiff,reduceCtorEq];rfl,?_,?_,bt,fun x hx Gm=>?_⟩
   ·have hm:List.take (aJ t bs).length (List.map aA R)=(aJ t bs).map aA:=by rw[<-List.map_take,vE]
    rw[hm,List.append_assoc,List.take_append_of_le_length (by simp),List.take_of_length_le (by simp)]
   ·have hm:List.take (aJ t bs).length (List.map aA R)=(aJ t bs).map aA:=by rw[<-List.map_take,vE]
    rw[hm]
    simp only[List.length_append,List.length_map]
    omega
   ·have Qk:(x=o)=False:=by simp only[eq_iff_iff,iff_false];exact Gm
    have:=lv x hx Qk
    simp only[go_sem, ↓reduceIte,Nat.reduceEqDiff,Nat.reduceAdd,Nat.reduceSub,Nat.reduceLeDiff,reduceCtorEq,Qk,this]
 ·have hn:=By h0
  have ew:=sv (t:=t) (bs:=bs) fun b hb=>by simpa using hn b hb
  have hd:decide (jR (fun b:PB=>decide (b.s<t)) bs= -1)=true:=decide_eq_true (by
   unfold jR at h0 ⊢
   split
   ·rename_i h;rw[if_pos h]at h0;omega
   ·rfl)
  (try((repeat(revert hN;revert N;apply Pn.out));refine wk @hd ?_;(repeat(refine Pn.mk ?_;intro N hN))))
  refine gn (.inl rfl) (vs:=[.own o 0 bs.length]) (sd @Nat.zero_add) ⟨bs.map aA,by rw[ew];rfl,sd @ho,by rw[ew,List.take_of_length_le (by simp)],by rw[ew];simp,bt,fun x _ _=>rfl⟩
def yv (bs:List PB):AV:=if bs=[]then .bK else .sl (bs.map aA)
theorem KW:yv []=.bK:=rfl
theorem yw {bs:List PB} (h:0<bs.length):yv bs=.sl (bs.map aA):=by
 unfold yv
 rw[if_neg (by rintro rfl;simp at h)]
theorem vm (cnt:Nat) (tZ:1<=cnt) (hn:cnt<=1048576) (bs:List PB) (hb:∀b∈bs,b.a<cnt/\b.b<cnt) (hp:0<bs.length) (pO:bs.length<=1048576) (t:Int):ae Tryz.prog 153 [.int .i64 cnt,.sl (bs.map aA),.int .i64 t] (.iN [.int .i64 (leads cnt (dS (aJ t bs))).length,yv (di (dS (aJ t bs)) bs)]):=by
 refine ae.body dK rfl fun hl n0=>?_
 clear hl
 (try((repeat(revert hN;revert N;apply Pn.out));refine wk @Nat.zero_add ?_;(repeat(refine Pn.mk ?_;intro N hN))))
 refine .inr (aO _ _ _ _ _ (fun r σ1 hq=>?_) (GX bs hp pO _))
 obtain⟨o,rfl,ho,J3,J4,PS⟩:=hq
 (try dsimp only at ho J3 J4 PS)
 refine hN _ _ ?_
 clear hN N
 (try((repeat(revert hN;revert N;apply Pn.out));refine wk @Nat.zero_add ?_;(repeat(refine Pn.mk ?_;intro N hN))))
 refine .inr (aO _ _ _ _ _ (fun r σ2 hq=>?_) (EE bs t pO o ⟨153000000,n0⟩ _ ho (by rw[PS _ bt];simp only[go_sem, ↓reduceIte,Nat.reduceEqDiff,Nat.reduceAdd,Nat.reduceSub,Nat.reduceLeDiff,reduceCtorEq]) bt bt (by rintro rfl;simp only at J3;omega)))
 obtain⟨rows,rfl,fI,hrt,oO,me,Hn⟩:=hq
 (try dsimp only at me Hn)
 refine hN _ _ ?_
 clear hN N
 have Gg:=tR cnt tZ hn (aJ t bs) (fun b h=>hb b (uO h)) (by have:=mo t bs;omega)
 have hL:=so (aJ t bs)
 have hz:∀x,cm (dE σ2.get) 6 [.int .i64 x,.own o 0 (aJ t bs).length]=some [.int .i64 x,.sl ((aJ t bs).map aA)]:=fun x=>by
  have:V.fz (dE σ2.get) 6 (.own o 0 (aJ t bs).length)=some (.sl ((aJ t bs).map aA)):=by
   rw[fU];simp only[dE,fI,Option.map_some,if_true]
   rw[if_pos ab,List.drop_zero,hrt,mb fun b=>xJ _ 4 b];rfl
  simp only[ad,aj,aI,this,Option.map_some]
 (try((repeat(revert hN;revert N;apply Pn.out));refine wk @Nat.zero_add ?_;(repeat(refine Pn.mk ?_;intro N hN))))
 refine .inl ⟨_,ae.x Gg (hz _),?_⟩
 refine hN _ _ ?_
 clear hN N
 generalize dS (aJ t bs)=L at *
 have pP:((fb cnt L).map yO).length=(leads cnt L).length:=by simp[fb]
 have Ri:=jt cnt L
 have jo:(0:Int)<=(cnt:Int):=ab
 have oY:(cnt:Int)<=((16777216:Nat):Int):=ab
 have gH:List.replicate cnt [AV.int .i64 0]=dv (cz cnt L 0 0) cnt:=by rw[uS,nO]
 (try((repeat(revert hN;revert N;apply Pn.out));refine wk (tw @jo (tw @oY (tw @Int.le_refl (tw @pP @gH)))) ?_;(repeat(refine Pn.mk ?_;intro N hN))))
 refine aP (fun n env st=>∃i:Nat,n=((leads cnt L).length)-i/\i<=((leads cnt L).length)/\env 27=.int .i64 (i:Int)/\st.get ⟨153002001,σ2.next+1⟩=some ⟨true,1,dv (cz cnt L i 0) cnt⟩/\(σ2.next+1<st.next)) ((leads cnt L).length) ⟨0,ab,ab,sl (tw @gH @pP),sl (tw @gH @pP),bt⟩ ?_
 rintro n_c env_c st_c ⟨i,rfl,cle,c27,cg0,cI0⟩ cfr
 have c1:=cfr 1 (by kernel_rfl);have c8:=cfr 8 (by kernel_rfl);have c9:=cfr 9 (by kernel_rfl);have ve:=cfr 25 (by kernel_rfl);have vg:=cfr 26 (by kernel_rfl)
 simp only[go_sem, ↓reduceIte,Nat.reduceEqDiff,Nat.reduceAdd,Nat.reduceSub,Nat.reduceLeDiff,reduceCtorEq,gH,pP]at c1 c8 c9 ve vg
 clear cfr
 by_cases hi:(i:Int)<((leads cnt L).length:Int)
 ·have gL:∀{e:Env} {gg:Rows} {nx:Nat},(e 27=.int .i64 (IntKind.i64.wrap ((i:Int)+1)))->(gg ⟨153002001,σ2.next+1⟩=some ⟨true,1,dv (cz cnt L (i+1) 0) cnt⟩)->(σ2.next+1<nx)->∃m0,m0<((leads cnt L).length)-i/\∃i:Nat,m0=((leads cnt L).length)-i/\i<=((leads cnt L).length)/\e 27=.int .i64 (i:Int)/\gg ⟨153002001,σ2.next+1⟩=some ⟨true,1,dv (cz cnt L i 0) cnt⟩/\(σ2.next+1<nx):=fun x1 x2 x3=>⟨_,ab,i+1,rfl,ab,(by rw[x1,ay ab]),x2,x3⟩
  have fP:i<(leads cnt L).length:=ab
  have oq:((fb cnt L).map yO)[i]? =some (yO (members cnt L (leads cnt L)[i])):=by simp[fb,fP]
  have sZ:(leads cnt L).getD i 0=(leads cnt L)[i]:=by simp[List.getD_eq_getElem?_getD,fP]
  have yS:∀m,cz cnt L i m=fun x=>if bx L x<i then bx L x else if x∈(members cnt L (leads cnt L)[i]).take m then i else 0:=fun m=>by unfold cz;rw[sZ]
  have oM:=fun x (hx:x<cnt)=>rN hL (n:=cnt) (k:=x) (i:=i) hx fP
  have kQ:(members cnt L (leads cnt L)[i]).Nodup:=List.nodup_range.filter _
  have Gi:∀x∈members cnt L (leads cnt L)[i],x<cnt:=fun x hx=>(k8.1 hx).1
  have hMc:(members cnt L (leads cnt L)[i]).length<=cnt:=by
   have:=List.length_filter_le (fun k=>L k==(leads cnt L)[i]) (List.range cnt)
   simpa[members]using this
  generalize members cnt L (leads cnt L)[i]=M at *
  have AW:(M.map eN).length=M.length:=by simp
  (try((repeat(revert hN;revert N;apply Pn.out));refine wk (tw @c27 (tw @cg0 (tw @c1 (tw @c8 (tw @c9 (tw @ve (tw @vg (tw @hi (tw @pP (tw @oq (tw @yO.eq_1 @AW))))))))))) ?_;(repeat(refine Pn.mk ?_;intro N hN))))
  refine aP (fun n env st=>∃m:Nat,n=(M.length)-m/\m<=(M.length)/\env 34=.int .i64 (m:Int)/\st.get ⟨153002001,σ2.next+1⟩=some ⟨true,1,dv (cz cnt L i m) cnt⟩/\(σ2.next+1<st.next)) (M.length) ⟨0,ab,ab,sl (tw @c27 (tw @cg0 (tw @c1 (tw @c8 (tw @c9 (tw @ve (tw @vg @AW))))))),sl (tw @c27 (tw @cg0 (tw @c1 (tw @c8 (tw @c9 (tw @ve (tw @vg @AW))))))),bt⟩ ?_
  rintro n_d env_d st_d ⟨m,rfl,dle,d34,dg0,dI0⟩ dfr
  have d1:=dfr 1 (by kernel_rfl);have d8:=dfr 8 (by kernel_rfl);have d9:=dfr 9 (by kernel_rfl);have d10:=dfr 10 (by kernel_rfl);have d25:=dfr 25 (by kernel_rfl);have d26:=dfr 26 (by kernel_rfl);have d27:=dfr 27 (by kernel_rfl);have d32:=dfr 32 (by kernel_rfl);have d33:=dfr 33 (by kernel_rfl)
  simp only[go_sem, ↓reduceIte,Nat.reduceEqDiff,Nat.reduceAdd,Nat.reduceSub,Nat.reduceLeDiff,reduceCtorEq,c27,cg0,c1,c8,c9,ve,vg,AW]at d1 d8 d9 d10 d25 d26 d27 d32 d33
  clear dfr
  have tl:=fK (cz cnt L i m) cnt
  by_cases hm:(m:Int)<(M.length:Int)
  ·have sr:∀{e:Env} {gg:Rows} {nx:Nat},(e 34=.int .i64 (IntKind.i64.wrap ((m:Int)+1)))->(gg ⟨153002001,σ2.next+1⟩=some ⟨true,1,dv (cz cnt L i (m+1)) cnt⟩)->(σ2.next+1<nx)->∃m0,m0<(M.length)-m/\∃m:Nat,m0=(M.length)-m/\m<=(M.length)/\e 34=.int .i64 (m:Int)/\gg ⟨153002001,σ2.next+1⟩=some ⟨true,1,dv (cz cnt L i m) cnt⟩/\(σ2.next+1<nx):=fun x1 x2 x3=>⟨_,ab,m+1,rfl,ab,(by rw[x1,ay ab]),x2,x3⟩
   have xU:m<M.length:=ab
   have tW:(M.map eN)[m]? =some (eN M[m]):=by simp[xU]
   have ue:=Gi _ (List.getElem_mem xU)
   have yV:(M[m]:Int)<(cnt:Int):=ab
   have AZ:=e6 (f:=cz cnt L i m) ue
   have dP:(dv (cz cnt L i m) cnt).set M[m] (eN i)=dv (cz cnt L i (m+1)) cnt:=oD ue (by
    have h1:=(oM _ ue).1 (List.getElem_mem xU)
    rw[yS]
    simp only[]
    rw[if_neg ab,if_pos (by rw[List.take_succ_eq_append_getElem xU];exact List.mem_append_right _ (List.mem_singleton.2 rfl))]) fun x hx gY=>by
    rw[yS,yS]
    simp only[]
    rw[List.take_succ_eq_append_getElem xU]
    simp only[List.mem_append,List.mem_singleton,gY,or_false]
   rw[eN]at dP AZ
   generalize M[m]=xm at *
   (try((repeat(revert hN;revert N;apply Pn.out));refine wk (tw @d34 (tw @dg0 (tw @d1 (tw @d8 (tw @d9 (tw @d10 (tw @d25 (tw @d26 (tw @d27 (tw @d32 (tw @d33 (tw @hm (tw @hi (tw @tW (tw @AW (tw @yV (tw @AZ (tw @tl (tw @dP @eN.eq_1))))))))))))))))))) ?_;(repeat(refine Pn.mk ?_;intro N hN))))
   refine sr ?_ ?_ bt
   all_goals simp only[go_sem, ↓reduceIte,Nat.reduceEqDiff,Nat.reduceAdd,Nat.reduceSub,Nat.reduceLeDiff,reduceCtorEq,d34,dg0,d1,d8,d9,d10,d25,d26,d27,d32,d33,dP]
  ·have gy:m=M.length:=ab
   subst gy
   have ua:dv (cz cnt L i M.length) cnt=dv (cz cnt L (i+1) 0) cnt:=gF fun x hx=>by
    rw[yS,List.take_length]
    simp only[cz,List.take_zero,List.not_mem_nil,if_false]
    have h1:=oM x hx
    by_cases h2:bx L x<i
    ·rw[if_pos h2,if_pos ab]
    ·rw[if_neg h2]
     by_cases h3:x∈M
     ·rw[if_pos h3,if_pos (by have:=h1.1 h3;omega),h1.1 h3]
     ·rw[if_neg h3,if_neg fun h4=>h3 (h1.2 ab)]
   (try((repeat(revert hN;revert N;apply Pn.out));refine wk (tw @d34 (tw @dg0 (tw @d1 (tw @d8 (tw @d9 (tw @d10 (tw @d25 (tw @d26 (tw @d27 (tw @d32 (tw @d33 (tw @hm (tw @hi (tw @pP @AW)))))))))))))) ?_;(repeat(refine Pn.mk ?_;intro N hN))))
   refine gL ?_ ?_ bt
   all_goals simp only[go_sem, ↓reduceIte,Nat.reduceEqDiff,Nat.reduceAdd,Nat.reduceSub,Nat.reduceLeDiff,reduceCtorEq,c27,cg0,c1,c8,c9,ve,vg,d34,dg0,d1,d8,d9,d10,d25,d26,d27,d32,d33,ua]
 have oZ:i=(leads cnt L).length:=ab
 subst oZ
 have EV:dv (cz cnt L (leads cnt L).length 0) cnt=dv (bx L) cnt:=gF fun x hx=>by rw[cz,if_pos (jL hL hx)]
 rw[EV]at cg0
 have tl:=fK (bx L) cnt
 have Q5:(bs.map aA).length=bs.length:=by simp
 (try((repeat(revert hN;revert N;apply Pn.out));refine wk (tw @c27 (tw @cg0 (tw @c1 (tw @c8 (tw @c9 (tw @ve (tw @vg (tw @hi (tw @pP @Q5))))))))) ?_;(repeat(refine Pn.mk ?_;intro N hN))))
 have Q8:σ2.next+1<st_c.next:=cI0
 refine aP (fun n env st=>∃j:Nat,n=(bs.length)-j/\j<=(bs.length)/\env 46=.int .i64 (j:Int)/\st.get ⟨153002001,σ2.next+1⟩=some ⟨true,1,dv (bx L) cnt⟩/\(st_c.next<=st.next/\((di L (bs.take j)=[]/\env 14=.bK)∨∃p:Id,env 14=.own p 0 (di L (bs.take j)).length/\st.get p=some ⟨true,3,(di L (bs.take j)).map aA⟩/\st_c.next<=p.cq/\p.cq<st.next/\0<(di L (bs.take j)).length))) (bs.length) ⟨0,ab,ab,sl (tw @c27 (tw @cg0 (tw @c1 (tw @c8 (tw @c9 (tw @ve (tw @vg @Q5))))))),sl (tw @c27 (tw @cg0 (tw @c1 (tw @c8 (tw @c9 (tw @ve (tw @vg @Q5))))))),⟨bt,.inl ⟨rfl,by(simp only[go_sem, ↓reduceIte,Nat.reduceEqDiff,Nat.reduceAdd,Nat.reduceSub,Nat.reduceLeDiff,reduceCtorEq])⟩⟩⟩ ?_
 rintro n_f env_f st_f ⟨j,rfl,fle,f46,fg0,fI0⟩ ffr
 have f1:=ffr 1 (by kernel_rfl);have f8:=ffr 8 (by kernel_rfl);have f9:=ffr 9 (by kernel_rfl);have f44:=ffr 44 (by kernel_rfl);have f45:=ffr 45 (by kernel_rfl)
 simp only[go_sem, ↓reduceIte,Nat.reduceEqDiff,Nat.reduceAdd,Nat.reduceSub,Nat.reduceLeDiff,reduceCtorEq,c27,cg0,c1,c8,c9,ve,vg,Q5]at f1 f8 f9 f44 f45
 clear ffr
 obtain⟨JU,fO⟩:=fI0
 have HF:=eP (i:=⟨153002001,σ2.next+1⟩) (n:=st_f.next) bt
 have s4:=(mm L (bs.take j)).1
 rw[List.length_take]at s4
 by_cases hj:(j:Int)<(bs.length:Int)
 ·have qy:∀{e:Env} {gg:Rows} {nx:Nat},(e 46=.int .i64 (IntKind.i64.wrap ((j:Int)+1)))->(gg ⟨153002001,σ2.next+1⟩=some ⟨true,1,dv (bx L) cnt⟩)->(st_c.next<=nx/\((di L (bs.take (j+1))=[]/\e 14=.bK)∨∃p:Id,e 14=.own p 0 (di L (bs.take (j+1))).length/\gg p=some ⟨true,3,(di L (bs.take (j+1))).map aA⟩/\st_c.next<=p.cq/\p.cq<nx/\0<(di L (bs.take (j+1))).length))->∃m0,m0<(bs.length)-j/\∃j:Nat,m0=(bs.length)-j/\j<=(bs.length)/\e 46=.int .i64 (j:Int)/\gg ⟨153002001,σ2.next+1⟩=some ⟨true,1,dv (bx L) cnt⟩/\(st_c.next<=nx/\((di L (bs.take j)=[]/\e 14=.bK)∨∃p:Id,e 14=.own p 0 (di L (bs.take j)).length/\gg p=some ⟨true,3,(di L (bs.take j)).map aA⟩/\st_c.next<=p.cq/\p.cq<nx/\0<(di L (bs.take j)).length)):=fun x1 x2 x3=>⟨_,ab,j+1,rfl,ab,(by rw[x1,ay ab]),x2,x3⟩
  have gm:j<bs.length:=ab
  have Gf:(bs.map aA)[j]? =some (aA bs[j]):=by simp[gm]
  have Ln:=hb _ (List.getElem_mem gm)
  have hs:=yp L (bs.take j) bs[j]
  rw[<-List.take_succ_eq_append_getElem gm]at hs
  generalize bs[j]=b at *
  have hA:=e6 (f:=bx L) Ln.1
  have hB:=e6 (f:=bx L) Ln.2
  have gj:(b.a:Int)<(cnt:Int):=ab
  have fC:(b.b:Int)<(cnt:Int):=ab
  rw[eN]at hA hB
  have e1:(di L (bs.take j)).length+1<=16777216:=ab
  have gy:((di L (bs.take j)).map aA).length=(di L (bs.take j)).length:=by simp
  by_cases he:bx L b.a=bx L b.b
  ·rw[if_pos he,List.append_nil]at hs
   have sI:decide ((bx L b.a:Int)=(bx L b.b:Int))=true:=decide_eq_true (by rw[he])
   (try((repeat(revert hN;revert N;apply Pn.out));refine wk (tw @f46 (tw @fg0 (tw @f1 (tw @f8 (tw @f9 (tw @f44 (tw @f45 (tw @hj (tw @Gf (tw @hA (tw @hB (tw @gj (tw @fC (tw @tl (tw @sI (tw @HF (tw @aA.eq_1 (tw @Bool.not_true @Bool.not_false)))))))))))))))))) ?_;(repeat(refine Pn.mk ?_;intro N hN))))
   refine qy ?_ ?_ (by(try dsimp only);exact⟨ab,by
    rw[hs]
    rcases fO with⟨h1,h2⟩|⟨p,h1,h2,h3,h4,h5⟩
    ·exact .inl ⟨h1,sd @h2⟩
    ·have yT:=eP h4
     exact .inr ⟨p,sd @h1,sd (tw @h2 @yT),h3,ab,h5⟩⟩)
   all_goals simp only[go_sem, ↓reduceIte,Nat.reduceEqDiff,Nat.reduceAdd,Nat.reduceSub,Nat.reduceLeDiff,reduceCtorEq,f46,fg0,f1,f8,f9,f44,f45,HF]
  ·rw[if_neg he]at hs
   have sI:decide ((bx L b.a:Int)=(bx L b.b:Int))=false:=decide_eq_false fun h=>he ab
   rcases fO with⟨h1,f14⟩|⟨p,f14,fg,MZ,Lz,hp3⟩
   ·rw[h1]at hs
    (try((repeat(revert hN;revert N;apply Pn.out));refine wk (tw @f46 (tw @fg0 (tw @f1 (tw @f8 (tw @f9 (tw @f44 (tw @f45 (tw @f14 (tw @hj (tw @Gf (tw @hA (tw @hB (tw @gj (tw @fC (tw @tl (tw @sI (tw @HF (tw @aA.eq_1 (tw @Bool.not_true @Bool.not_false))))))))))))))))))) ?_;(repeat(refine Pn.mk ?_;intro N hN))))
    refine qy ?_ ?_ (by(try dsimp only);exact⟨ab,.inr ⟨⟨153017015,st_f.next+1+1+1⟩,by rw[hs];simp only[go_sem, ↓reduceIte,Nat.reduceEqDiff,Nat.reduceAdd,Nat.reduceSub,Nat.reduceLeDiff,reduceCtorEq,List.nil_append,List.length_cons,List.length_nil],by rw[hs];simp only[go_sem, ↓reduceIte,Nat.reduceEqDiff,Nat.reduceAdd,Nat.reduceSub,Nat.reduceLeDiff,reduceCtorEq,aA,List.nil_append,List.map_cons,List.map_nil],bt,bt,by rw[hs];simp⟩⟩)
    all_goals simp only[go_sem, ↓reduceIte,Nat.reduceEqDiff,Nat.reduceAdd,Nat.reduceSub,Nat.reduceLeDiff,reduceCtorEq,f46,fg0,f1,f8,f9,f44,f45,HF]
   ·have x1:=dr (a:=⟨153002001,σ2.next+1⟩) (b:=p) bt
    have yT:=eP Lz
    (try((repeat(revert hN;revert N;apply Pn.out));refine wk (tw @f46 (tw @fg0 (tw @f1 (tw @f8 (tw @f9 (tw @f44 (tw @f45 (tw @f14 (tw @fg (tw @hj (tw @Gf (tw @hA (tw @hB (tw @gj (tw @fC (tw @tl (tw @sI (tw @x1 (tw @yT (tw @HF (tw @e1 (tw @gy (tw @aA.eq_1 (tw @Bool.not_true @Bool.not_false)))))))))))))))))))))))) ?_;(repeat(refine Pn.mk ?_;intro N hN))))
    refine qy ?_ ?_ (by(try dsimp only);exact⟨ab,.inr ⟨⟨153017015,st_f.next+1+1+1⟩,by rw[hs,List.length_append];simp only[go_sem, ↓reduceIte,Nat.reduceEqDiff,Nat.reduceAdd,Nat.reduceSub,Nat.reduceLeDiff,reduceCtorEq,List.length_cons,List.length_nil],by rw[hs,List.map_append,List.map_cons,List.map_nil];simp only[go_sem, ↓reduceIte,Nat.reduceEqDiff,Nat.reduceAdd,Nat.reduceSub,Nat.reduceLeDiff,reduceCtorEq,aA],bt,bt,by rw[hs];simp⟩⟩)
    all_goals simp only[go_sem, ↓reduceIte,Nat.reduceEqDiff,Nat.reduceAdd,Nat.reduceSub,Nat.reduceLeDiff,reduceCtorEq,f46,fg0,f1,f8,f9,f44,f45,x1,HF]
 ·have gN:j=bs.length:=ab
  subst gN
  rw[List.take_length]at fO
  rcases fO with⟨h1,f14⟩|⟨p,f14,fg,MZ,Lz,hp3⟩
  ·(try((repeat(revert hN;revert N;apply Pn.out));refine wk (tw @f46 (tw @fg0 (tw @f1 (tw @f8 (tw @f9 (tw @f44 (tw @f45 (tw @f14 (tw @hj @pP))))))))) ?_;(repeat(refine Pn.mk ?_;intro N hN))))
   refine jf (.inl rfl) (r1:=.int .i64 ((leads cnt L).length:Int)) (sd @Nat.zero_add) (by simp only[go_sem, ↓reduceIte,Nat.reduceEqDiff,Nat.reduceAdd,Nat.reduceSub,Nat.reduceLeDiff,reduceCtorEq];rfl) ?_
   simp only[eY,br,bV,eC,kg,h1,KW,Option.map_some]
  ·(try((repeat(revert hN;revert N;apply Pn.out));refine wk (tw @f46 (tw @fg0 (tw @f1 (tw @f8 (tw @f9 (tw @f44 (tw @f45 (tw @f14 (tw @hj @pP))))))))) ?_;(repeat(refine Pn.mk ?_;intro N hN))))
   refine jf (.inl rfl) (r1:=.int .i64 ((leads cnt L).length:Int)) (sd @Nat.zero_add) (by simp only[go_sem, ↓reduceIte,Nat.reduceEqDiff,Nat.reduceAdd,Nat.reduceSub,Nat.reduceLeDiff,reduceCtorEq];rfl) ?_
   have h1:fD st_f.get 5 (.own p 0 (di L bs).length)=some (.sl ((di L bs).map aA)):=fH (sz:=3) fg rfl fun b=>sU _ 3 b
   simp only[eY,br,bV,eC,h1,yw hp3,Option.map_some]
theorem vk (cnt:Nat) (tZ:1<=cnt) (hn:cnt<=1048576) (t:Int):ae Tryz.prog 153 [.int .i64 cnt,.bK,.int .i64 t] (.iN [.int .i64 cnt,.bK]):=by
 refine ae.body dK rfl fun hl n0=>?_
 clear hl
 have h1:ae Tryz.prog 170 [.bK] .bK:=by
  refine ae.body dK rfl fun hl n0=>?_
  clear hl
  (try((repeat(revert hN;revert N;apply Pn.out));refine wk @Nat.zero_add ?_;(repeat(refine Pn.mk ?_;intro N hN))))
  exact uH (.inl rfl) (r0:=.bK) (sd @Nat.zero_add) (kg _ _)
 have h2:ae Tryz.prog 169 [.bK,.fn 171 [.cJ [.int .i64 t]]] .bK:=by
  have EU:=(wK [] t (by simp)).cut mixed (.bK (.same _ .nil))
  refine ae.body dK rfl fun hl n0=>?_
  clear hl
  (try((repeat(revert hN;revert N;apply Pn.out));refine wk @Nat.zero_add ?_;(repeat(refine Pn.mk ?_;intro N hN))))
  refine .inl ⟨_,ae.x EU (by simp only[ad,aj,aV,cN,aU,List.all_cons,List.all_nil,AV.cell,Bool.and_true,if_true,Option.map_some]),?_⟩
  refine hN _ _ ?_
  clear hN N
  have hd:decide (jR (fun b:PB=>decide (b.s<t)) []= -1)=true:=rfl
  (try((repeat(revert hN;revert N;apply Pn.out));refine wk @hd ?_;(repeat(refine Pn.mk ?_;intro N hN))))
  exact uH (.inl rfl) (r0:=.bK) (sd @Nat.zero_add) (kg _ _)
 have Gg:=(tR cnt tZ hn [] (fun b h=>by cases h) (by simp)).cut mixed (.same _ (.bK .nil))
 (repeat(first|((repeat(revert hN;revert N;apply Pn.out));refine wk @Nat.zero_add ?_;(repeat(refine Pn.mk ?_;intro N hN)))|((try apply Or.inl);refine⟨_,ae.x (h1) (sd @Nat.zero_add),?_⟩;refine hN _ _ ?_;clear hN N)))
 refine .inl ⟨_,ae.x h2 ?_,?_⟩
 ·have:V.fz (dE (bY (fun _=>none) ⟨153000000,n0⟩ ⟨true,1,[[.int .i64 t]]⟩)) 5 (.ptr ⟨153000000,n0⟩ 0 0)=some (.cJ [.int .i64 t]):=xK (sz:=1) (rows:=[[.int .i64 t]]) (by simp[dE,bY]) rfl (by simp only[List.drop_zero,ad,aj,aI,Option.map_some])
  simp only[ad,aj,aV,cN,this,List.all_cons,List.all_nil,AV.cell,Bool.and_true,if_true,Option.map_some]
 refine hN _ _ ?_
 clear hN N
 have fC:dS ([]:List PB)=id:=rfl
 rw[fC]at Gg
 have hL:jm id:=fC▸so ([]:List PB)
 have Oz:(leads cnt id).length=cnt:=by rw[leads,List.filter_eq_self.2 (fun a _=>by simp)];simp
 generalize (id:Nat->Nat)=L at *
 have pP:((fb cnt L).map yO).length=(leads cnt L).length:=by simp[fb]
 have Ri:=jt cnt L
 have jo:(0:Int)<=(cnt:Int):=ab
 have oY:(cnt:Int)<=((16777216:Nat):Int):=ab
 have gH:List.replicate cnt [AV.int .i64 0]=dv (cz cnt L 0 0) cnt:=by rw[uS,nO]
 (repeat(first|((repeat(revert hN;revert N;apply Pn.out));refine wk (tw @jo (tw @oY (tw @Int.le_refl (tw @pP @gH)))) ?_;(repeat(refine Pn.mk ?_;intro N hN)))|((try apply Or.inl);refine⟨_,ae.x (Gg) (sd (tw @jo (tw @oY (tw @Int.le_refl (tw @pP @gH))))),?_⟩;refine hN _ _ ?_;clear hN N)))
 refine aP (fun n env st=>∃i:Nat,n=((leads cnt L).length)-i/\i<=((leads cnt L).length)/\env 27=.int .i64 (i:Int)/\st.get ⟨153002001,n0+1+1⟩=some ⟨true,1,dv (cz cnt L i 0) cnt⟩/\(n0+1+1<st.next)) ((leads cnt L).length) ⟨0,ab,ab,sl (tw @gH @pP),sl (tw @gH @pP),bt⟩ ?_
 rintro n_c env_c st_c ⟨i,rfl,cle,c27,cg0,cI0⟩ cfr
 have c1:=cfr 1 (by kernel_rfl);have c8:=cfr 8 (by kernel_rfl);have c9:=cfr 9 (by kernel_rfl);have ve:=cfr 25 (by kernel_rfl);have vg:=cfr 26 (by kernel_rfl)
 simp only[go_sem, ↓reduceIte,Nat.reduceEqDiff,Nat.reduceAdd,Nat.reduceSub,Nat.reduceLeDiff,reduceCtorEq,gH,pP]at c1 c8 c9 ve vg
 clear cfr
 by_cases hi:(i:Int)<((leads cnt L).length:Int)
 ·have gL:∀{e:Env} {gg:Rows} {nx:Nat},(e 27=.int .i64 (IntKind.i64.wrap ((i:Int)+1)))->(gg ⟨153002001,n0+1+1⟩=some ⟨true,1,dv (cz cnt L (i+1) 0) cnt⟩)->(n0+1+1<nx)->∃m0,m0<((leads cnt L).length)-i/\∃i:Nat,m0=((leads cnt L).length)-i/\i<=((leads cnt L).length)/\e 27=.int .i64 (i:Int)/\gg ⟨153002001,n0+1+1⟩=some ⟨true,1,dv (cz cnt L i 0) cnt⟩/\(n0+1+1<nx):=fun x1 x2 x3=>⟨_,ab,i+1,rfl,ab,(by rw[x1,ay ab]),x2,x3⟩
  have fP:i<(leads cnt L).length:=ab
  have oq:((fb cnt L).map yO)[i]? =some (yO (members cnt L (leads cnt L)[i])):=by simp[fb,fP]
  have sZ:(leads cnt L).getD i 0=(leads cnt L)[i]:=by simp[List.getD_eq_getElem?_getD,fP]
  have yS:∀m,cz cnt L i m=fun x=>if bx L x<i then bx L x else if x∈(members cnt L (leads cnt L)[i]).take m then i else 0:=fun m=>by unfold cz;rw[sZ]
  have oM:=fun x (hx:x<cnt)=>rN hL (n:=cnt) (k:=x) (i:=i) hx fP
  have kQ:(members cnt L (leads cnt L)[i]).Nodup:=List.nodup_range.filter _
  have Gi:∀x∈members cnt L (leads cnt L)[i],x<cnt:=fun x hx=>(k8.1 hx).1
  have hMc:(members cnt L (leads cnt L)[i]).length<=cnt:=by
   have:=List.length_filter_le (fun k=>L k==(leads cnt L)[i]) (List.range cnt)
   simpa[members]using this
  generalize members cnt L (leads cnt L)[i]=M at *
  have AW:(M.map eN).length=M.length:=by simp
  (try((repeat(revert hN;revert N;apply Pn.out));refine wk (tw @c27 (tw @cg0 (tw @c1 (tw @c8 (tw @c9 (tw @ve (tw @vg (tw @hi (tw @pP (tw @oq (tw @yO.eq_1 @AW))))))))))) ?_;(repeat(refine Pn.mk ?_;intro N hN))))
  refine aP (fun n env st=>∃m:Nat,n=(M.length)-m/\m<=(M.length)/\env 34=.int .i64 (m:Int)/\st.get ⟨153002001,n0+1+1⟩=some ⟨true,1,dv (cz cnt L i m) cnt⟩/\(n0+1+1<st.next)) (M.length) ⟨0,ab,ab,sl (tw @c27 (tw @cg0 (tw @c1 (tw @c8 (tw @c9 (tw @ve (tw @vg @AW))))))),sl (tw @c27 (tw @cg0 (tw @c1 (tw @c8 (tw @c9 (tw @ve (tw @vg @AW))))))),bt⟩ ?_
  rintro n_d env_d st_d ⟨m,rfl,dle,d34,dg0,dI0⟩ dfr
  have d1:=dfr 1 (by kernel_rfl);have d8:=dfr 8 (by kernel_rfl);have d9:=dfr 9 (by kernel_rfl);have d10:=dfr 10 (by kernel_rfl);have d25:=dfr 25 (by kernel_rfl);have d26:=dfr 26 (by kernel_rfl);have d27:=dfr 27 (by kernel_rfl);have d32:=dfr 32 (by kernel_rfl);have d33:=dfr 33 (by kernel_rfl)
  simp only[go_sem, ↓reduceIte,Nat.reduceEqDiff,Nat.reduceAdd,Nat.reduceSub,Nat.reduceLeDiff,reduceCtorEq,c27,cg0,c1,c8,c9,ve,vg,AW]at d1 d8 d9 d10 d25 d26 d27 d32 d33
  clear dfr
  have tl:=fK (cz cnt L i m) cnt
  by_cases hm:(m:Int)<(M.length:Int)
  ·have sr:∀{e:Env} {gg:Rows} {nx:Nat},(e 34=.int .i64 (IntKind.i64.wrap ((m:Int)+1)))->(gg ⟨153002001,n0+1+1⟩=some ⟨true,1,dv (cz cnt L i (m+1)) cnt⟩)->(n0+1+1<nx)->∃m0,m0<(M.length)-m/\∃m:Nat,m0=(M.length)-m/\m<=(M.length)/\e 34=.int .i64 (m:Int)/\gg ⟨153002001,n0+1+1⟩=some ⟨true,1,dv (cz cnt L i m) cnt⟩/\(n0+1+1<nx):=fun x1 x2 x3=>⟨_,ab,m+1,rfl,ab,(by rw[x1,ay ab]),x2,x3⟩
   have xU:m<M.length:=ab
   have tW:(M.map eN)[m]? =some (eN M[m]):=by simp[xU]
   have ue:=Gi _ (List.getElem_mem xU)
   have yV:(M[m]:Int)<(cnt:Int):=ab
   have AZ:=e6 (f:=cz cnt L i m) ue
   have dP:(dv (cz cnt L i m) cnt).set M[m] (eN i)=dv (cz cnt L i (m+1)) cnt:=oD ue (by
    have h1:=(oM _ ue).1 (List.getElem_mem xU)
    rw[yS]
    simp only[]
    rw[if_neg ab,if_pos (by rw[List.take_succ_eq_append_getElem xU];exact List.mem_append_right _ (List.mem_singleton.2 rfl))]) fun x hx gY=>by
    rw[yS,yS]
    simp only[]
    rw[List.take_succ_eq_append_getElem xU]
    simp only[List.mem_append,List.mem_singleton,gY,or_false]
   rw[eN]at dP AZ
   generalize M[m]=xm at *
   (try((repeat(revert hN;revert N;apply Pn.out));refine wk (tw @d34 (tw @dg0 (tw @d1 (tw @d8 (tw @d9 (tw @d10 (tw @d25 (tw @d26 (tw @d27 (tw @d32 (tw @d33 (tw @hm (tw @hi (tw @tW (tw @AW (tw @yV (tw @AZ (tw @tl (tw @dP @eN.eq_1))))))))))))))))))) ?_;(repeat(refine Pn.mk ?_;intro N hN))))
   refine sr ?_ ?_ bt
   all_goals simp only[go_sem, ↓reduceIte,Nat.reduceEqDiff,Nat.reduceAdd,Nat.reduceSub,Nat.reduceLeDiff,reduceCtorEq,d34,dg0,d1,d8,d9,d10,d25,d26,d27,d32,d33,dP]
  ·have gy:m=M.length:=ab
   subst gy
   have ua:dv (cz cnt L i M.length) cnt=dv (cz cnt L (i+1) 0) cnt:=gF fun x hx=>by
    rw[yS,List.take_length]
    simp only[cz,List.take_zero,List.not_mem_nil,if_false]
    have h1:=oM x hx
    by_cases h2:bx L x<i
    ·rw[if_pos h2,if_pos ab]
    ·rw[if_neg h2]
     by_cases h3:x∈M
     ·rw[if_pos h3,if_pos (by have:=h1.1 h3;omega),h1.1 h3]
     ·rw[if_neg h3,if_neg fun h4=>h3 (h1.2 ab)]
   (try((repeat(revert hN;revert N;apply Pn.out));refine wk (tw @d34 (tw @dg0 (tw @d1 (tw @d8 (tw @d9 (tw @d10 (tw @d25 (tw @d26 (tw @d27 (tw @d32 (tw @d33 (tw @hm (tw @hi (tw @pP @AW)))))))))))))) ?_;(repeat(refine Pn.mk ?_;intro N hN))))
   refine gL ?_ ?_ bt
   all_goals simp only[go_sem, ↓reduceIte,Nat.reduceEqDiff,Nat.reduceAdd,Nat.reduceSub,Nat.reduceLeDiff,reduceCtorEq,c27,cg0,c1,c8,c9,ve,vg,d34,dg0,d1,d8,d9,d10,d25,d26,d27,d32,d33,ua]
 have oZ:i=(leads cnt L).length:=ab
 subst oZ
 have EV:dv (cz cnt L (leads cnt L).length 0) cnt=dv (bx L) cnt:=gF fun x hx=>by rw[cz,if_pos (jL hL hx)]
 rw[EV]at cg0
 have tl:=fK (bx L) cnt
 (try((repeat(revert hN;revert N;apply Pn.out));refine wk (tw @c27 (tw @cg0 (tw @c1 (tw @c8 (tw @c9 (tw @ve (tw @vg (tw @hi @pP)))))))) ?_;(repeat(refine Pn.mk ?_;intro N hN))))
 refine aP (fun n env st=>∃j:Nat,n=(0)-j/\j<=(0)/\env 46=.int .i64 (j:Int)/\env 14=.bK) (0) ⟨0,ab,ab,sl (tw @c27 (tw @cg0 (tw @c1 (tw @c8 (tw @c9 (tw @ve @vg)))))),sl (tw @c27 (tw @cg0 (tw @c1 (tw @c8 (tw @c9 (tw @ve @vg))))))⟩ ?_
 rintro n_f env_f st_f ⟨j,rfl,fle,f46,f14⟩ ffr
 have f8:=ffr 8 (by kernel_rfl);have f44:=ffr 44 (by kernel_rfl);have f45:=ffr 45 (by kernel_rfl)
 simp only[go_sem, ↓reduceIte,Nat.reduceEqDiff,Nat.reduceAdd,Nat.reduceSub,Nat.reduceLeDiff,reduceCtorEq,c27,cg0,c1,c8,c9,ve,vg]at f8 f44 f45
 clear ffr
 have hj:¬(j:Int)<((0:Nat):Int):=ab
 (try((repeat(revert hN;revert N;apply Pn.out));refine wk (tw @f46 (tw @f14 (tw @f8 (tw @f44 (tw @f45 (tw @hj @pP)))))) ?_;(repeat(refine Pn.mk ?_;intro N hN))))
 refine jf (.inl rfl) (r1:=.int .i64 ((leads cnt L).length:Int)) (r2:=.bK) (sd @Nat.zero_add) (sd @Nat.zero_add) ?_
 simp only[eY,br,bV,eC,kg,Oz,Option.map_some]
theorem xw (cnt:Nat) (tZ:1<=cnt) (hn:cnt<=1048576) (bs:List PB) (hb:∀b∈bs,b.a<cnt/\b.b<cnt) (pO:bs.length<=1048576) (t:Int):ae Tryz.prog 153 [.int .i64 cnt,yv bs,.int .i64 t] (.iN [.int .i64 (leads cnt (dS (aJ t bs))).length,yv (di (dS (aJ t bs)) bs)]):=by
 cases bs with
 |nil=>
  have h:=vk cnt tZ hn t
  have Oz:(leads cnt (dS (aJ t []))).length=cnt:=by
   show(leads cnt id).length=cnt
   rw[leads,List.filter_eq_self.2 (fun a _=>by simp)];simp
  rw[Oz]
  exact h
 |cons b r=>
  rw[yw (by simp)]
  exact vm cnt tZ hn (b::r) hb (by simp) pO t
end Go.Proofs.YtihgaadadaekmaaGreatDoor.V

namespace Go.Proofs.YtihgaadadaekmaaGreatDoor.V
open Go.RowKit
attribute [local irreducible] ea wpOps gS Call
attribute [local go_sem] aM fQ eM gi gh cE upd cu K.av cL AV.cells AV.cell rowOf rowsOf part ld rowAt bY ck dI eh ij bL da eA gp e8 du eo cY cX dV dW bR bm cQ bQ cT cR ej er ek cP bW cZ ei bP aQ cV cC ig bw cH bS aX dG bu dL AV.undef bF bH dY ef dU ec cF ez eF cw ev eu cU cW List.getD_cons_zero List.getD_cons_succ List.getD_nil List.all_cons List.all_nil Bool.and_true Bool.true_and Bool.and_self Bool.not_true Bool.not_false Option.map_some Option.map_none Option.bind_some Option.bind_none List.length_cons List.length_nil List.take_succ_cons List.take_zero List.take_nil List.drop_succ_cons List.drop_zero List.drop_nil List.head?_cons List.map_cons List.map_nil List.getElem?_cons_zero List.getElem?_cons_succ List.cons_append List.nil_append List.append_nil List.length_map List.set_cons_zero List.set_cons_succ Nat.reduceMul eq_self Int.toNat_natCast Int.natCast_nonneg and_self true_and and_true decide_true decide_false Bool.false_eq_true Nat.zero_add Nat.add_zero List.contains_cons List.contains_nil Bool.or_false Bool.false_or beq_self_eq_true Nat.reduceBEq ne_eq not_true_eq_false not_false_eq_true Id.mk.injEq false_and and_false Nat.reduceLT Int.reduceLE Int.reduceLT Int.reduceToNat Int.reduceNeg Int.reduceAdd Nat.le_refl List.length_append beq_true beq_false Bool.not_eq_eq_eq_not or_false false_or dE ad aj aI bE cj aV bf aU bo cN bG
attribute [local go_sem] D7
section
attribute [-go_sem] dI
theorem KA (n:Nat) (hn:n<=1048576):ae Tryz.prog 200 [.int .u64 1,.int .u64 n] (.iN [.int .u64 0,.int .u64 n]):=by
 refine ae.body dK rfl fun hl n0=>?_
 clear hl
 have b1:(BitVec.ofInt 64 (n:Int)&&& BitVec.ofInt 64 4294967295).toNat=n:=by
  rw[BitVec.toNat_and]
  have e1:(BitVec.ofInt 64 (n:Int)).toNat=n:=by rw[BitVec.toNat_ofInt];omega
  have e2:(BitVec.ofInt 64 4294967295).toNat=2 ^ 32-1:=by decide
  rw[e1,e2]
  exact Nat.and_two_pow_sub_one_of_lt_two_pow ab
 have zn:IntKind.u64.wrap (n:Int)=n:=by rw[IntKind.wrap_u64];omega
 have i1:dI .and .u64 (n:Int) 4294967295=some (.int .u64 n):=by
  show some (AV.int .u64 (IntKind.u64.wrap (((BitVec.ofInt 64 (n:Int)&&& BitVec.ofInt 64 4294967295).toNat:Nat):Int)))= _
  rw[b1,zn]
 have i2:dI .and .u64 1 4294967295=some (.int .u64 1):=rfl
 have i3:dI .and .u64 0 4294967295=some (.int .u64 0):=rfl
 have i4:dI .mul .u64 1 (n:Int)=some (.int .u64 n):=by simp only[dI,Int.one_mul,zn]
 have i5:dI .mul .u64 0 (n:Int)=some (.int .u64 0):=by simp only[dI,Int.zero_mul];rfl
 have i6:dI .mul .u64 1 0=some (.int .u64 0):=rfl
 have i7:dI .mul .u64 0 0=some (.int .u64 0):=rfl
 have i8:dI .add .u64 0 0=some (.int .u64 0):=rfl
 have a3:Int.fdiv 1 (2 ^ min 32 64)=0:=by decide
 have a4:Int.fdiv (n:Int) (2 ^ min 32 64)=0:=by
  rw[Int.fdiv_eq_ediv_of_nonneg _ (by decide)]
  have h32:(2:Int) ^ min 32 64=4294967296:=by decide
  exact Int.ediv_eq_zero_of_lt ab ab
 have z1:Int.fdiv 0 (2 ^ min 32 64)=0:=by decide
 (try((repeat(revert hN;revert N;apply Pn.out));refine wk (tw @i1 (tw @i2 (tw @i3 (tw @i4 (tw @i5 (tw @i6 (tw @i7 (tw @i8 (tw @a3 (tw @a4 @z1)))))))))) ?_;(repeat(refine Pn.mk ?_;intro N hN))))
 refine jf (.inl rfl) (r1:=.int .u64 0) (r2:=.int .u64 n) (sd @Nat.zero_add) (sd @Nat.zero_add) ?_
 simp only[eY,br,bV,eC,Option.map_some]
end
theorem Qw (n:Nat) (hn:n<=1048576):ae Tryz.prog 198 [.int .u64 1,.int .u64 n] (.iN [.int .u64 0,.int .u64 n]):=by
 refine ae.body dK rfl fun hl n0=>?_
 clear hl
 have h:=KA n hn
 (repeat(first|((repeat(revert hN;revert N;apply Pn.out));refine wk @Nat.zero_add ?_;(repeat(refine Pn.mk ?_;intro N hN)))|((try apply Or.inl);refine⟨_,ae.x (h) (sd @Nat.zero_add),?_⟩;refine hN _ _ ?_;clear hN N)))
 refine jf (.inl rfl) (r1:=.int .u64 0) (r2:=.int .u64 n) (sd @Nat.zero_add) (sd @Nat.zero_add) ?_
 simp only[eY,br,bV,eC,Option.map_some]
theorem Iu (cnt:Nat) (tZ:1<=cnt) (hn:cnt<=1048576) (v:Int) (x:Id) (σ:ax) (hx:σ.get x=some ⟨true,1,[[.int .i64 v]]⟩) (Tg:x.cq<σ.next):
  Call Tryz.prog 195 [.own x 0 1,.int .i64 cnt] σ fun r σ'=>∃o:Id,r=.own o 0 cnt/\σ'.get o=some ⟨true,1,List.replicate cnt [.int .i64 v]⟩/\σ.next<=o.cq/\o.cq<σ'.next/\∀i:Id,i.cq<σ.next->σ'.get i=σ.get i:=by
 refine eX dK rfl fun hl=>?_
 clear hl
 have h:=Qw cnt hn
 have w1:IntKind.u64.wrap (cnt:Int)=cnt:=by rw[IntKind.wrap_u64];omega
 have w2:IntKind.i64.wrap (cnt:Int)=cnt:=I4 ab
 have w0:IntKind.u64.wrap ((1:Nat):Int)=1:=by decide
 have g1:¬(cnt:Int)<0:=ab
 have g2:¬(9223372036854775807:Int)<cnt:=ab
 have jo:(0:Int)<=(cnt:Int):=ab
 have oY:(cnt:Int)<=((16777216:Nat):Int):=ab
 have OK:=eP Tg
 have oO:(List.replicate cnt [AV.int .i64 0]).length=cnt:=List.length_replicate
 have m1:min 1 cnt=1:=ab
 (repeat(first|((repeat(revert hN;revert N;apply Pn.out));refine wk (tw @w0 (tw @w1 (tw @w2 (tw @g1 (tw @g2 (tw @jo (tw @oY (tw @Int.le_refl (tw @Nat.le_refl (tw @hx (tw @OK (tw @oO @m1)))))))))))) ?_;(repeat(refine Pn.mk ?_;intro N hN)))|((try apply Or.inl);refine⟨_,ae.x (h) (sd (tw @w0 (tw @w1 (tw @w2 (tw @g1 (tw @g2 (tw @jo (tw @oY (tw @Int.le_refl (tw @Nat.le_refl (tw @hx (tw @OK (tw @oO @m1))))))))))))),?_⟩;refine hN _ _ ?_;clear hN N)))
 refine aP (fun m env st=>∃k:Nat,m=cnt-k/\1<=k/\k<=cnt/\env 8=.int .i64 (k:Int)/\st.get ⟨195006002,σ.next+1+1+1+1⟩=some ⟨true,1,List.replicate k [.int .i64 v]++List.replicate (cnt-k) [.int .i64 0]⟩/\σ.next+4<st.next/\∀i:Id,i.cq<σ.next->st.get i=σ.get i) (cnt-1) ⟨1,rfl,Nat.le_refl _,tZ,by(simp only[go_sem, ↓reduceIte,Nat.reduceEqDiff,Nat.reduceAdd,Nat.reduceSub,Nat.reduceLeDiff,reduceCtorEq,m1])<;>rfl,?_,bt,fun i hi=>?_⟩ ?_
 ·simp only[go_sem, ↓reduceIte,Nat.reduceEqDiff,Nat.reduceAdd,Nat.reduceSub,Nat.reduceLeDiff,reduceCtorEq]
  rw[List.drop_replicate];rfl
 ·have B5:=eP hi
  simp only[go_sem, ↓reduceIte,Nat.reduceEqDiff,Nat.reduceAdd,Nat.reduceSub,Nat.reduceLeDiff,reduceCtorEq,B5]
 rintro m env_b st_b ⟨k,rfl,qW,tX,b8,bg,bn,bfr⟩ bkp
 have b7:=bkp 7 (by kernel_rfl)
 simp only[go_sem, ↓reduceIte,Nat.reduceEqDiff,Nat.reduceAdd,Nat.reduceSub,Nat.reduceLeDiff,reduceCtorEq]at b7
 clear bkp
 have P9:(List.replicate k [AV.int .i64 v]++List.replicate (cnt-k) [AV.int .i64 0]).length=cnt:=by simp;omega
 by_cases hk:(k:Int)<(cnt:Int)
 ·have dX:k<cnt:=ab
  have kN:(k:Int)<=(cnt:Int):=ab
  have hw:IntKind.i64.wrap ((k:Int)+((min k (cnt-k):Nat):Int))=((k+min k (cnt-k):Nat):Int):=by rw[aT ab];omega
  have ou:List.take k (List.replicate k [AV.int .i64 v]++List.replicate (cnt-k) [AV.int .i64 0])=List.replicate k [AV.int .i64 v]:=List.take_left' (by simp)
  have dk:(List.replicate k [AV.int .i64 v]).all (fun c=>c.length==1&&c.all AV.cell)=true:=List.all_eq_true.2 fun c hc=>by rw[List.eq_of_mem_replicate hc];rfl
  have hlr:(List.replicate k [AV.int .i64 v]).length=k:=List.length_replicate
  have HE:k+(cnt-k)=cnt:=ab
  have uc:List.replicate k [AV.int .i64 v]++List.take (min k (cnt-k)) (List.replicate k [AV.int .i64 v])++List.drop (k+min k (cnt-k)) (List.replicate k [AV.int .i64 v]++List.replicate (cnt-k) [AV.int .i64 0])=List.replicate (k+min k (cnt-k)) [AV.int .i64 v]++List.replicate (cnt-(k+min k (cnt-k))) [AV.int .i64 0]:=by
   rw[List.take_replicate,List.drop_append,List.drop_of_length_le (by simp),List.nil_append,hlr,List.drop_replicate,List.replicate_append_replicate]
   congr 2
   ·omega
   ·omega
  (try((repeat(revert hN;revert N;apply Pn.out));refine wk (tw @b7 (tw @b8 (tw @bg (tw @P9 (tw @hk (tw @kN (tw @tX (tw @hw (tw @dX (tw @Nat.sub_zero (tw @ou (tw @dk (tw @hlr (tw @HE (tw @Nat.le_refl @uc))))))))))))))) ?_;(repeat(refine Pn.mk ?_;intro N hN))))
  refine⟨_,?_,k+min k (cnt-k),rfl,ab,ab,sd @hw,sd @uc,bt,fun i hi=>?_⟩
  ·omega
  ·have B5:=eP hi
   have:=bfr i hi
   simp only[go_sem, ↓reduceIte,Nat.reduceEqDiff,Nat.reduceAdd,Nat.reduceSub,Nat.reduceLeDiff,reduceCtorEq,B5,this]
 ·have lx:k=cnt:=ab
  subst lx
  (try((repeat(revert hN;revert N;apply Pn.out));refine wk (tw @b7 (tw @b8 (tw @bg (tw @P9 @hk)))) ?_;(repeat(refine Pn.mk ?_;intro N hN))))
  refine gn (.inl rfl) (vs:=[.own ⟨195006002,σ.next+1+1+1+1⟩ 0 k]) (sd @Nat.zero_add) ⟨⟨195006002,σ.next+1+1+1+1⟩,rfl,by simp only[go_sem, ↓reduceIte,Nat.reduceEqDiff,Nat.reduceAdd,Nat.reduceSub,Nat.reduceLeDiff,reduceCtorEq,bg];simp,bt,bt,fun i hi=>bfr i hi⟩
end Go.Proofs.YtihgaadadaekmaaGreatDoor.V

namespace Go.Proofs.YtihgaadadaekmaaGreatDoor.V
open Go.RowKit
attribute [local irreducible] ea wpOps gS Call
attribute [local go_sem] aM fQ eM gi gh cE upd cu K.av cL AV.cells AV.cell rowOf rowsOf part ld rowAt bY ck dI eh ij bL da eA gp e8 du eo cY cX dV dW bR bm cQ bQ cT cR ej er ek cP bW cZ ei bP aQ cV cC ig bw cH bS aX dG bu dL AV.undef bF bH dY ef dU ec cF ez eF cw ev eu cU cW List.getD_cons_zero List.getD_cons_succ List.getD_nil List.all_cons List.all_nil Bool.and_true Bool.true_and Bool.and_self Bool.not_true Bool.not_false Option.map_some Option.map_none Option.bind_some Option.bind_none List.length_cons List.length_nil List.take_succ_cons List.take_zero List.take_nil List.drop_succ_cons List.drop_zero List.drop_nil List.head?_cons List.map_cons List.map_nil List.getElem?_cons_zero List.getElem?_cons_succ List.cons_append List.nil_append List.append_nil List.length_map List.set_cons_zero List.set_cons_succ Nat.reduceMul eq_self Int.toNat_natCast Int.natCast_nonneg and_self true_and and_true decide_true decide_false Bool.false_eq_true Nat.zero_add Nat.add_zero List.contains_cons List.contains_nil Bool.or_false Bool.false_or beq_self_eq_true Nat.reduceBEq ne_eq not_true_eq_false not_false_eq_true Id.mk.injEq false_and and_false Nat.reduceLT Int.reduceLE Int.reduceLT Int.reduceToNat Int.reduceNeg Int.reduceAdd Nat.le_refl List.length_append beq_true beq_false Bool.not_eq_eq_eq_not or_false false_or dE ad aj aI bE cj aV bf aU bo cN bG
def kF (R:Nat->Id) (n k:Nat):List (List AV):=(List.range k).map fun i=>[.own (R i) 0 n]
theorem jN (R:Nat->Id) (n k:Nat):(kF R n k).length=k:=by simp[kF]
theorem qO {R:Nat->Id} {n k i:Nat} (h:i<k):(kF R n k)[i]? =some [.own (R i) 0 n]:=by simp[kF,h]
theorem rT (R:Nat->Id) (n k:Nat):kF R n (k+1)=kF R n k++[[.own (R k) 0 n]]:=by simp[kF,List.range_succ]
def vP (c:Nat->Nat->Int) (n:Nat):List (List AV):=(List.range n).map fun i=>[.sl (dJ (c i) n)]
theorem AL {c:Nat->Nat->Int} {n i:Nat} (h:i<n):(vP c n)[i]? =some [.sl (dJ (c i) n)]:=by simp[vP,h]
theorem uR (c:Nat->Nat->Int) (n:Nat):(vP c n).length=n:=by simp[vP]
structure Ei (X o1 o2:Id) (R1 R2:Nat->Id) (n nb:Nat):Prop where
 sx:X.site=174001001
 s1:o1.site=174004008
 s2:o2.site=174005008
 Rv:∀i,i<n->(R1 i).site=174004006
 LJ:∀i,i<n->(R2 i).site=174005006
 i1:∀i j,i<n->j<n->R1 i=R1 j->i=j
 i2:∀i j,i<n->j<n->R2 i=R2 j->i=j
 vx:X.cq<nb
 v1:o1.cq<nb
 v2:o2.cq<nb
 To:∀i,i<n->(R1 i).cq<nb
 QH:∀i,i<n->(R2 i).cq<nb
structure ni (g:Rows) (X o1 o2:Id) (R1 R2:Nat->Id) (n:Nat) (c f:Nat->Nat->Int):Prop where
 x:g X=some ⟨true,2,[[.own o1 0 n,.own o2 0 n]]⟩
 t1:g o1=some ⟨true,1,kF R1 n n⟩
 t2:g o2=some ⟨true,1,kF R2 n n⟩
 r1:∀i,i<n->g (R1 i)=some ⟨true,1,dJ (c i) n⟩
 r2:∀i,i<n->g (R2 i)=some ⟨true,1,dJ (f i) n⟩
theorem ny {f:Nat->Nat->Int} {a b:Nat} {d:Int} {n:Nat} (hb:b<n):(dJ (f a) n).set b (au (f a b+d))=dJ (bump f a b d a) n:=kG hb (by simp[bump]) fun i _ hi=>by simp[bump,hi]
theorem jG {f:Nat->Nat->Int} {a b i:Nat} {d:Int} (h:i≠a):bump f a b d i=f i:=by funext v;simp[bump,h]
theorem ni.add {g g':Rows} {X o1 o2:Id} {R1 R2:Nat->Id} {n nb:Nat} {c f:Nat->Nat->Int} (I:Ei X o1 o2 R1 R2 n nb) (h:ni g X o1 o2 R1 R2 n c f) (b:PB) (ha:b.a<n) (hb:b.b<n) (hA:b.a≠b.b->g' (R1 b.a)=some ⟨true,1,dJ (bump c b.a b.b b.s b.a) n⟩) (hB:g' (R1 b.b)=some ⟨true,1,dJ (mQ c b b.b) n⟩) (hf:∀i:Id,i.cq<nb->(i=R1 b.a)=False->(i=R1 b.b)=False->g' i=g i):ni g' X o1 o2 R1 R2 n (mQ c b) f:=by
 have ne:∀{i:Id} {s:Nat},i.site=s->(s==174004006)=false->∀a,a<n->(i=R1 a)=False:=fun {i s} hi hs a ha=>by
  simp only[eq_iff_iff,iff_false]
  rintro rfl
  rw[I.Rv a ha]at hi
  subst hi
  simp at hs
 refine⟨(hf _ I.vx (ne I.sx (by decide) _ ha) (ne I.sx (by decide) _ hb)).trans h.x,(hf _ I.v1 (ne I.s1 (by decide) _ ha) (ne I.s1 (by decide) _ hb)).trans h.t1,(hf _ I.v2 (ne I.s2 (by decide) _ ha) (ne I.s2 (by decide) _ hb)).trans h.t2,fun i hi=>?_,fun i hi=>(hf _ (I.QH i hi) (ne (I.LJ i hi) (by decide) _ ha) (ne (I.LJ i hi) (by decide) _ hb)).trans (h.r2 i hi)⟩
 by_cases ET:i=b.b
 ·subst ET;exact hB
 ·by_cases MP:i=b.a
  ·subst MP
   rw[hA ET,mQ,jG ET]
  ·rw[mQ,jG ET,jG MP,hf _ (I.To i hi) (by simp only[eq_iff_iff,iff_false];exact fun he=>MP (I.i1 i _ hi ha he)) (by simp only[eq_iff_iff,iff_false];exact fun he=>ET (I.i1 i _ hi hb he))]
   exact h.r1 i hi
def kY (n:Nat) (c f:Nat->Nat->Int):List AV:=[.sl (vP c n),.sl (vP f n)]
theorem D6 {g:Rows} {R:Nat->Id} {n k:Nat} {c:Nat->Nat->Int} (h:∀i,i<k->g (R i)=some ⟨true,1,dJ (c i) n⟩) (m:Nat):dz (dE g) (m+3) (kF R n k)=some ((List.range k).map fun i=>[.sl (dJ (c i) n)]):=by
 induction k with
 |zero=>rw[show kF R n 0=[]from rfl,dz];rfl
 |succ k ih=>
  have e1:V.fz (dE g) (m+3) (.own (R k) 0 n)=some (.sl (dJ (c k) n)):=by
   rw[fU];simp only[dE,h k ab,Option.map_some,if_true]
   rw[if_pos (by rw[dt];omega),List.drop_zero,List.take_of_length_le (by rw[dt];omega),yE];rfl
  have app:∀(xs ys:List (List AV)) (Rx QS:List (List AV)),dz (dE g) (m+3) xs=some Rx->dz (dE g) (m+3) ys=some QS->dz (dE g) (m+3) (xs++ys)=some (Rx++QS):=by
   intro xs
   induction xs with
   |nil=>intro ys Rx QS h1 h2;rw[dz]at h1;cases h1;exact h2
   |cons a xs ih2=>
    intro ys Rx QS h1 h2
    rw[dz]at h1
    rw[List.cons_append,dz]
    cases ha:cm (dE g) (m+3) a with
    |none=>simp[ha]at h1
    |some a'=>
     cases hb:dz (dE g) (m+3) xs with
     |none=>simp[ha,hb]at h1
     |some b'=>
      simp[ha,hb]at h1
      subst h1
      rw[ih2 ys b' QS hb h2];rfl
  rw[rT,List.range_succ,List.map_append]
  refine app _ _ _ _ (ih fun i hi=>h i ab) ?_
  rw[dz,ad,aj,e1,dz];rfl
theorem ni.fz {g:Rows} {X o1 o2:Id} {R1 R2:Nat->Id} {n:Nat} {c f:Nat->Nat->Int} (h:ni g X o1 o2 R1 R2 n c f):V.fz (dE g) 6 (.ptr X 0 0)=some (.cJ (kY n c f)):=by
 refine xK (sz:=2) (rows:=[[.own o1 0 n,.own o2 0 n]]) (by simp[dE,h.x]) rfl ?_
 have e1:V.fz (dE g) 5 (.own o1 0 n)=some (.sl (vP c n)):=by
  rw[fU];simp only[dE,h.t1,Option.map_some,if_true]
  rw[if_pos (by rw[jN];omega),List.drop_zero,List.take_of_length_le (by rw[jN];omega)]
  rw[show dz _ 4 _=some (vP c n)from D6 h.r1 1];rfl
 have e2:V.fz (dE g) 5 (.own o2 0 n)=some (.sl (vP f n)):=by
  rw[fU];simp only[dE,h.t2,Option.map_some,if_true]
  rw[if_pos (by rw[jN];omega),List.drop_zero,List.take_of_length_le (by rw[jN];omega)]
  rw[show dz _ 4 _=some (vP f n)from D6 h.r2 1];rfl
 simp only[List.drop_zero,ad,aj,e1,e2,kY,Option.map_some]
theorem Ms (n:Nat) (c f:Nat->Nat->Int) (u v:Nat) (hu:u<n) (hv:v<n):ae Tryz.prog 196 [.cJ (kY n c f),.int .i64 u,.int .i64 v] (.bool (decide (f u v<c u v))):=by
 refine ae.body dK rfl fun hl n0=>?_
 clear hl
 have h1:=AL (c:=c) hu
 have h2:=AL (c:=f) hu
 have h3:=dC (f:=c u) hv
 have h4:=dC (f:=f u) hv
 have hui:(u:Int)<(n:Int):=ab
 have B5:(v:Int)<(n:Int):=ab
 have l1:=uR c n
 have l2:=uR f n
 have l3:=dt (c u) n
 have l4:=dt (f u) n
 rw[au]at h3 h4
 (try((repeat(revert hN;revert N;apply Pn.out));refine wk (tw @kY.eq_1 (tw @h1 (tw @h2 (tw @h3 (tw @h4 (tw @hui (tw @B5 (tw @l1 (tw @l2 (tw @l3 @l4)))))))))) ?_;(repeat(refine Pn.mk ?_;intro N hN))))
 exact aC (b:=decide (f u v<c u v)) (.inl rfl) (sd @Nat.zero_add) rfl
theorem FX (n:Nat):List.replicate n [AV.int .i64 0]=dJ (fun _=>0) n:=by
 refine List.ext_getElem? fun i=>?_
 by_cases h:i<n
 ·rw[dC h,List.getElem?_replicate,if_pos h];rfl
 ·rw[List.getElem?_eq_none (by simp;omega),List.getElem?_eq_none (by rw[dt];omega)]
theorem yz {i j:Id} {s t:Nat} (hi:i.site=s) (hj:j.site=t) (h:(s==t)=false):(i=j)=False/\(j=i)=False:=by
 constructor<;>(simp only[eq_iff_iff,iff_false];rintro rfl;rw[hi]at hj;subst hj;simp at h)
theorem Aw (cnt:Nat) (tZ:1<=cnt) (hn:cnt<=1048576) (bs:List PB) (hb:∀b∈bs,b.a<cnt/\b.b<cnt) (ew:∀b∈bs,0<=b.s/\b.s<=4) (pO:bs.length<=1048576) (σ:ax):
  Call Tryz.prog 174 [.int .i64 cnt,.sl (bs.map aA)] σ fun r σ'=>∃X o1 o2 R1 R2,r=.ptr X 0 0/\Ei X o1 o2 R1 R2 cnt σ'.next/\σ.next<=σ'.next/\ni σ'.get X o1 o2 R1 R2 cnt (kC bs) (fun _ _=>0)/\∀i:Id,i.cq<σ.next->σ'.get i=σ.get i:=by
 refine eX dK rfl fun hl=>?_
 clear hl
 (try((repeat(revert hN;revert N;apply Pn.out));refine wk @Nat.zero_add ?_;(repeat(refine Pn.mk ?_;intro N hN))))
 obtain⟨X,hX⟩:∃X:Id,X=⟨174001001,σ.next+1⟩:=⟨_,rfl⟩
 obtain⟨R1,PA⟩:∃R:Nat->Id,R=fun k=>⟨174004006,σ.next+3+4*k+1⟩:=⟨_,rfl⟩
 obtain⟨R2,PD⟩:∃R:Nat->Id,R=fun k=>⟨174005006,σ.next+3+4*k+2⟩:=⟨_,rfl⟩
 have sX:X.site=174001001:=by rw[hX]
 have vX:X.cq=σ.next+1:=by rw[hX]
 have s1:∀k,(R1 k).site=174004006:=fun k=>by rw[PA]
 have s2:∀k,(R2 k).site=174005006:=fun k=>by rw[PD]
 have v1:∀k,(R1 k).cq=σ.next+3+4*k+1:=fun k=>by rw[PA]
 have v2:∀k,(R2 k).cq=σ.next+3+4*k+2:=fun k=>by rw[PD]
 have jo:(0:Int)<=(cnt:Int):=ab
 have oY:(cnt:Int)<=((16777216:Nat):Int):=ab
 have hz:=FX cnt
 have t1:kF R1 cnt 0=[]:=rfl
 have t2:kF R2 cnt 0=[]:=rfl
 refine aP (fun n env st=>∃k:Nat,n=(cnt)-k/\k<=(cnt)/\env 11=.int .i64 (k:Int)/\env 5=(.ptr X 0 0)/\(st.next=σ.next+3+4*k/\(∀i:Id,i.cq<σ.next->st.get i=σ.get i)/\∀j,j<k->st.get (R1 j)=some ⟨true,1,dJ (fun _=>0) cnt⟩/\st.get (R2 j)=some ⟨true,1,dJ (fun _=>0) cnt⟩)/\((k=0/\st.get X=some ⟨true,2,[[.bK,.bK]]⟩)∨∃o1 o2:Id,o1.site=174004008/\o2.site=174005008/\o1.cq<st.next/\o2.cq<st.next/\σ.next<=o1.cq/\σ.next<=o2.cq/\st.get X=some ⟨true,2,[[.own o1 0 k,.own o2 0 k]]⟩/\st.get o1=some ⟨true,1,kF R1 cnt k⟩/\st.get o2=some ⟨true,1,kF R2 cnt k⟩)) (cnt) ⟨0,ab,ab,sl @hX,sl @hX,⟨rfl,fun i hi=>by(have B5:=eP hi);simp only[go_sem, ↓reduceIte,Nat.reduceEqDiff,Nat.reduceAdd,Nat.reduceSub,Nat.reduceLeDiff,reduceCtorEq,B5],fun j hj=>absurd hj (Nat.not_lt_zero j)⟩,.inl ⟨rfl,by rw[hX];simp only[go_sem, ↓reduceIte,Nat.reduceEqDiff,Nat.reduceAdd,Nat.reduceSub,Nat.reduceLeDiff,reduceCtorEq]⟩⟩ ?_
 rintro n_a env_a st_a ⟨k,rfl,ale,a11,a5,j0,aI1⟩ dm
 have a0:=dm 0 (by kernel_rfl);have a1:=dm 1 (by kernel_rfl);have xk:=dm 10 (by kernel_rfl)
 simp only[go_sem, ↓reduceIte,Nat.reduceEqDiff,Nat.reduceAdd,Nat.reduceSub,Nat.reduceLeDiff,reduceCtorEq,hX]at a0 a1 xk
 clear dm
 obtain⟨anx,dm,aR⟩:=j0
 have wX:=eP (i:=X) (n:=st_a.next) ab
 by_cases hk:(k:Int)<(cnt:Int)
 ·have bD:∀{e:Env} {gg:Rows} {nx:Nat},(e 11=.int .i64 (IntKind.i64.wrap ((k:Int)+1)))->(e 5=(.ptr X 0 0))->(nx=σ.next+3+4*(k+1)/\(∀i:Id,i.cq<σ.next->gg i=σ.get i)/\∀j,j<(k+1)->gg (R1 j)=some ⟨true,1,dJ (fun _=>0) cnt⟩/\gg (R2 j)=some ⟨true,1,dJ (fun _=>0) cnt⟩)->(((k+1)=0/\gg X=some ⟨true,2,[[.bK,.bK]]⟩)∨∃o1 o2:Id,o1.site=174004008/\o2.site=174005008/\o1.cq<nx/\o2.cq<nx/\σ.next<=o1.cq/\σ.next<=o2.cq/\gg X=some ⟨true,2,[[.own o1 0 (k+1),.own o2 0 (k+1)]]⟩/\gg o1=some ⟨true,1,kF R1 cnt (k+1)⟩/\gg o2=some ⟨true,1,kF R2 cnt (k+1)⟩)->∃m0,m0<(cnt)-k/\∃k:Nat,m0=(cnt)-k/\k<=(cnt)/\e 11=.int .i64 (k:Int)/\e 5=(.ptr X 0 0)/\(nx=σ.next+3+4*k/\(∀i:Id,i.cq<σ.next->gg i=σ.get i)/\∀j,j<k->gg (R1 j)=some ⟨true,1,dJ (fun _=>0) cnt⟩/\gg (R2 j)=some ⟨true,1,dJ (fun _=>0) cnt⟩)/\((k=0/\gg X=some ⟨true,2,[[.bK,.bK]]⟩)∨∃o1 o2:Id,o1.site=174004008/\o2.site=174005008/\o1.cq<nx/\o2.cq<nx/\σ.next<=o1.cq/\σ.next<=o2.cq/\gg X=some ⟨true,2,[[.own o1 0 k,.own o2 0 k]]⟩/\gg o1=some ⟨true,1,kF R1 cnt k⟩/\gg o2=some ⟨true,1,kF R2 cnt k⟩):=fun x1 x2 x3 x4=>⟨_,ab,k+1,rfl,ab,(by rw[x1,ay ab]),x2,x3,x4⟩
  have dX:k<cnt:=ab
  have qW:R1 k=⟨174004006,st_a.next+1⟩:=by rw[PA,anx]
  have tX:R2 k=⟨174005006,st_a.next+1+1⟩:=by rw[PD,anx]
  have xV:kF R1 cnt (k+1)=kF R1 cnt k++[[.own ⟨174004006,st_a.next+1⟩ 0 cnt]]:=by rw[rT,qW]
  have yR:kF R2 cnt (k+1)=kF R2 cnt k++[[.own ⟨174005006,st_a.next+1+1⟩ 0 cnt]]:=by rw[rT,tX]
  rcases aI1 with⟨rfl,OY⟩|⟨o1,o2,so1,so2,vo1,vo2,vn1,vn2,OY,ag1,ag2⟩
  ·(try((repeat(revert hN;revert N;apply Pn.out));refine wk (tw @a11 (tw @a5 (tw @a0 (tw @a1 (tw @xk (tw @hk (tw @wX (tw @OY (tw @jo (tw @oY (tw @Int.le_refl @hz))))))))))) ?_;(repeat(refine Pn.mk ?_;intro N hN))))
   refine bD ?_ ?_ (by
    (try dsimp only)
    refine⟨ab,fun i hi=>?_,fun j hj=>?_⟩
    ·have q1:=eP (i:=i) (n:=st_a.next) ab
     have q2:=dr (a:=i) (b:=X) ab
     have:=dm i hi
     simp only[go_sem, ↓reduceIte,Nat.reduceEqDiff,Nat.reduceAdd,Nat.reduceSub,Nat.reduceLeDiff,reduceCtorEq,q1,q2,this]
    ·by_cases wD:j=0
     ·subst wD
      rw[qW,tX]
      have q1:=gz sX (b:=174004006) (v:=st_a.next+1) (by decide)
      have q2:=gz sX (b:=174005006) (v:=st_a.next+1+1) (by decide)
      simp only[go_sem, ↓reduceIte,Nat.reduceEqDiff,Nat.reduceAdd,Nat.reduceSub,Nat.reduceLeDiff,reduceCtorEq,q1,q2]
     ·obtain⟨r1,r2⟩:=aR j ab
      have q1:=eP (i:=R1 j) (n:=st_a.next) (by rw[v1];omega)
      have q2:=eP (i:=R2 j) (n:=st_a.next) (by rw[v2];omega)
      have q3:=yz (s1 j) sX (by decide)
      have q4:=yz (s2 j) sX (by decide)
      constructor
      ·simp only[go_sem, ↓reduceIte,Nat.reduceEqDiff,Nat.reduceAdd,Nat.reduceSub,Nat.reduceLeDiff,reduceCtorEq,q1,q3,r1]
      ·simp only[go_sem, ↓reduceIte,Nat.reduceEqDiff,Nat.reduceAdd,Nat.reduceSub,Nat.reduceLeDiff,reduceCtorEq,q2,q4,r2]) (.inr ⟨⟨174004008,st_a.next+1⟩,⟨174005008,st_a.next+1+1⟩,rfl,rfl,bt,bt,bt,bt,sd @wX,by rw[xV,t1];simp only[go_sem, ↓reduceIte,Nat.reduceEqDiff,Nat.reduceAdd,Nat.reduceSub,Nat.reduceLeDiff,reduceCtorEq,wX,List.nil_append],by rw[yR,t2];simp only[go_sem, ↓reduceIte,Nat.reduceEqDiff,Nat.reduceAdd,Nat.reduceSub,Nat.reduceLeDiff,reduceCtorEq,wX,List.nil_append]⟩)
   all_goals simp only[go_sem, ↓reduceIte,Nat.reduceEqDiff,Nat.reduceAdd,Nat.reduceSub,Nat.reduceLeDiff,reduceCtorEq,a11,a5,a0,a1,xk,wX]
  ·have l1:=jN R1 cnt k
   have l2:=jN R2 cnt k
   have e1:k+1<=16777216:=ab
   have w1:=eP vo1
   have w2:=eP vo2
   have x1:=yz sX so1 (by decide)
   have x2:=yz sX so2 (by decide)
   have x3:=yz so1 so2 (by decide)
   (try((repeat(revert hN;revert N;apply Pn.out));refine wk (tw @a11 (tw @a5 (tw @a0 (tw @a1 (tw @xk (tw @hk (tw @wX (tw @OY (tw @ag1 (tw @ag2 (tw @l1 (tw @l2 (tw @e1 (tw @w1 (tw @w2 (tw @x1 (tw @x2 (tw @x3 (tw @jo (tw @oY (tw @Int.le_refl @hz))))))))))))))))))))) ?_;(repeat(refine Pn.mk ?_;intro N hN))))
   refine bD ?_ ?_ (by
    (try dsimp only)
    refine⟨ab,fun i hi=>?_,fun j hj=>?_⟩
    ·have q1:=eP (i:=i) (n:=st_a.next) ab
     have q2:=dr (a:=i) (b:=X) ab
     have q3:=dr (a:=i) (b:=o1) ab
     have q4:=dr (a:=i) (b:=o2) ab
     have:=dm i hi
     simp only[go_sem, ↓reduceIte,Nat.reduceEqDiff,Nat.reduceAdd,Nat.reduceSub,Nat.reduceLeDiff,reduceCtorEq,q1,q2,this,q3,q4]
    ·by_cases wD:j=k
     ·subst wD
      rw[qW,tX]
      have q1:=gz sX (b:=174004006) (v:=st_a.next+1) (by decide)
      have q2:=gz sX (b:=174005006) (v:=st_a.next+1+1) (by decide)
      simp only[go_sem, ↓reduceIte,Nat.reduceEqDiff,Nat.reduceAdd,Nat.reduceSub,Nat.reduceLeDiff,reduceCtorEq,q1,q2,w1,w2]
     ·obtain⟨r1,r2⟩:=aR j ab
      have q1:=eP (i:=R1 j) (n:=st_a.next) (by rw[v1];omega)
      have q2:=eP (i:=R2 j) (n:=st_a.next) (by rw[v2];omega)
      have q3:=yz (s1 j) sX (by decide)
      have q4:=yz (s2 j) sX (by decide)
      have q5:=yz (s1 j) so1 (by decide)
      have q6:=yz (s1 j) so2 (by decide)
      have q7:=yz (s2 j) so1 (by decide)
      have q8:=yz (s2 j) so2 (by decide)
      constructor
      ·simp only[go_sem, ↓reduceIte,Nat.reduceEqDiff,Nat.reduceAdd,Nat.reduceSub,Nat.reduceLeDiff,reduceCtorEq,q1,q3,r1,q5,q6]
      ·simp only[go_sem, ↓reduceIte,Nat.reduceEqDiff,Nat.reduceAdd,Nat.reduceSub,Nat.reduceLeDiff,reduceCtorEq,q2,q4,r2,q7,q8]) (.inr ⟨⟨174004008,st_a.next+1⟩,⟨174005008,st_a.next+1+1⟩,rfl,rfl,bt,bt,bt,bt,sd @wX,by rw[xV];simp only[go_sem, ↓reduceIte,Nat.reduceEqDiff,Nat.reduceAdd,Nat.reduceSub,Nat.reduceLeDiff,reduceCtorEq,wX,w1,w2],by rw[yR];simp only[go_sem, ↓reduceIte,Nat.reduceEqDiff,Nat.reduceAdd,Nat.reduceSub,Nat.reduceLeDiff,reduceCtorEq,wX,w1,w2]⟩)
   all_goals simp only[go_sem, ↓reduceIte,Nat.reduceEqDiff,Nat.reduceAdd,Nat.reduceSub,Nat.reduceLeDiff,reduceCtorEq,a11,a5,a0,a1,xk,wX,w1,w2,x1,x2,x3]
 have lx:cnt=k:=ab
 subst lx
 rcases aI1 with⟨h0,_⟩|⟨o1,o2,so1,so2,vo1,vo2,vn1,vn2,OY,ag1,ag2⟩
 ·omega
 (try((repeat(revert hN;revert N;apply Pn.out));refine wk (tw @a11 (tw @a5 (tw @a0 (tw @a1 (tw @xk @hk))))) ?_;(repeat(refine Pn.mk ?_;intro N hN))))
 have I:Ei X o1 o2 R1 R2 cnt st_a.next:=⟨sX,so1,so2,fun i _=>s1 i,fun i _=>s2 i,fun i j _ _ h=>by have:=v1 i;rw[h,v1]at this;omega,fun i j _ _ h=>by have:=v2 i;rw[h,v2]at this;omega,ab,vo1,vo2,fun i hi=>by rw[v1];omega,fun i hi=>by rw[v2];omega⟩
 refine aP (fun n env st=>∃i:Nat,n=(bs.length)-i/\i<=(bs.length)/\env 38=.int .i64 (i:Int)/\(st_a.next<=st.next/\(∀x:Id,x.cq<σ.next->st.get x=σ.get x)/\ni st.get X o1 o2 R1 R2 cnt (kC (bs.take i)) (fun _ _=>0))) (bs.length) ⟨0,ab,ab,sl (tw @a11 (tw @a5 (tw @a0 (tw @a1 @xk)))),⟨bt,dm,OY,ag1,ag2,fun j hj=>(aR j hj).1,fun j hj=>(aR j hj).2⟩⟩ ?_
 rintro n_b env_b st_b ⟨i,rfl,ble,b38,bI0⟩ bfr
 have b0:=bfr 0 (by kernel_rfl);have b1:=bfr 1 (by kernel_rfl);have b5:=bfr 5 (by kernel_rfl);have Oi:=bfr 36 (by kernel_rfl);have Oj:=bfr 37 (by kernel_rfl)
 simp only[go_sem, ↓reduceIte,Nat.reduceEqDiff,Nat.reduceAdd,Nat.reduceSub,Nat.reduceLeDiff,reduceCtorEq,a11,a5,a0,a1,xk]at b0 b1 b5 Oi Oj
 clear bfr
 obtain⟨bn,L4,bM⟩:=bI0
 by_cases hi:(i:Int)<(bs.length:Int)
 ·have jr:∀{e:Env} {gg:Rows} {nx:Nat},(e 38=.int .i64 (IntKind.i64.wrap ((i:Int)+1)))->(st_a.next<=nx/\(∀x:Id,x.cq<σ.next->gg x=σ.get x)/\ni gg X o1 o2 R1 R2 cnt (kC (bs.take (i+1))) (fun _ _=>0))->∃m0,m0<(bs.length)-i/\∃i:Nat,m0=(bs.length)-i/\i<=(bs.length)/\e 38=.int .i64 (i:Int)/\(st_a.next<=nx/\(∀x:Id,x.cq<σ.next->gg x=σ.get x)/\ni gg X o1 o2 R1 R2 cnt (kC (bs.take i)) (fun _ _=>0)):=fun x1 x2=>⟨_,ab,i+1,rfl,ab,(by rw[x1,ay ab]),x2⟩
  have fP:i<bs.length:=ab
  have oq:(bs.map aA)[i]? =some (aA bs[i]):=by simp[fP]
  have fC:=hb _ (List.getElem_mem fP)
  have hsi:=ew _ (List.getElem_mem fP)
  have rH:kC (bs.take (i+1))=mQ (kC (bs.take i)) bs[i]:=by rw[List.take_succ_eq_append_getElem fP,CB]
  have jA:=yn (bs.take i) (fun _ _=>0) (fun b hb=>(ew b (List.mem_of_mem_take hb)).1) (fun _ _=>Int.le_refl _)
  have hle:=room_le (bs.take i) (fun _ _=>0) 0 (fun b hb=>(ew b (List.mem_of_mem_take hb)).2) (fun _ _=>Int.le_refl _) (Int.le_refl _)
  rw[List.length_take]at hle
  have fv:(bs.take i).foldl mQ (fun _ _=>0)=kC (bs.take i):=rfl
  rw[fv]at jA hle
  generalize kC (bs.take i)=c at *
  generalize bs[i]=b at *
  obtain⟨ha,rE⟩:=fC
  have gA:=qO (R:=R1) (n:=cnt) ha
  have gB:=qO (R:=R1) (n:=cnt) rE
  have rA:=bM.r1 _ ha
  have rB:=bM.r1 _ rE
  have cA:=dC (f:=c b.a) rE
  have cB:=dC (f:=c b.b) ha
  have sA:=ny (f:=c) (a:=b.a) (d:=b.s) rE
  have gX:=bM.x
  have g1:=bM.t1
  have gj:(b.a:Int)<(cnt:Int):=ab
  have fC:(b.b:Int)<(cnt:Int):=ab
  have qX:=eP (i:=X) (n:=st_b.next) ab
  have q1:=eP (i:=o1) (n:=st_b.next) ab
  have qA:=eP (i:=R1 b.a) (n:=st_b.next) (by rw[v1];omega)
  have qB:=eP (i:=R1 b.b) (n:=st_b.next) (by rw[v1];omega)
  have xA:=yz sX (s1 b.a) (by decide)
  have xB:=yz sX (s1 b.b) (by decide)
  have yA:=yz so1 (s1 b.a) (by decide)
  have yB:=yz so1 (s1 b.b) (by decide)
  have l1:=jN R1 cnt cnt
  have lA:=dt (c b.a) cnt
  have lB:=dt (c b.b) cnt
  have hAB:=hle b.a b.b
  have hBA:=hle b.b b.a
  have gAB:=jA b.a b.b
  have gBA:=jA b.b b.a
  have wA:IntKind.i64.wrap (c b.a b.b+b.s)=c b.a b.b+b.s:=aT ab
  by_cases si:b.a=b.b
  ·obtain⟨ba,bb,s⟩:=b
   dsimp only at *
   subst si
   have M7:=ny (f:=bump c ba ba s) (a:=ba) (b:=ba) (d:=s) (n:=cnt) ha
   have Sj:=dC (f:=bump c ba ba s ba) ha
   have hv:bump c ba ba s ba ba=c ba ba+s:=by simp[bump]
   have lC:=dt (bump c ba ba s ba) cnt
   have wB:IntKind.i64.wrap (c ba ba+s+s)=c ba ba+s+s:=aT ab
   rw[hv]at M7 Sj
   have rF:mQ c ⟨ba,ba,s⟩ ba=bump (bump c ba ba s) ba ba s ba:=rfl
   rw[au]at cA sA M7 Sj
   (try((repeat(revert hN;revert N;apply Pn.out));refine wk (tw @b38 (tw @b0 (tw @b1 (tw @b5 (tw @Oi (tw @Oj (tw @hi (tw @oq (tw @aA.eq_1 (tw @gA (tw @rA (tw @cA (tw @sA (tw @gX (tw @g1 (tw @gj (tw @qX (tw @q1 (tw @qA (tw @xA (tw @yA (tw @l1 (tw @lA (tw @wA (tw @M7 (tw @Sj (tw @lC @wB))))))))))))))))))))))))))) ?_;(repeat(refine Pn.mk ?_;intro N hN))))
   exact jr (sd (tw @b38 (tw @b0 (tw @b1 (tw @b5 (tw @Oi @Oj)))))) (by
    (try dsimp only)
    refine⟨ab,fun x hx=>?_,?_⟩
    ·have p1:=eP (i:=x) (n:=st_b.next) ab
     have p2:=dr (a:=x) (b:=R1 ba) (by rw[v1];omega)
     have:=L4 x hx
     simp only[go_sem, ↓reduceIte,Nat.reduceEqDiff,Nat.reduceAdd,Nat.reduceSub,Nat.reduceLeDiff,reduceCtorEq,p1,p2,this]
    ·rw[rH]
     refine bM.add I ⟨ba,ba,s⟩ ha ha (fun h=>absurd rfl h) ?_ fun x hx h1 h2=>?_
     ·rw[rF]
      simp only[go_sem, ↓reduceIte,Nat.reduceEqDiff,Nat.reduceAdd,Nat.reduceSub,Nat.reduceLeDiff,reduceCtorEq]
     ·have p1:=eP (i:=x) (n:=st_b.next) ab
      (try dsimp only at h2)
      simp only[go_sem, ↓reduceIte,Nat.reduceEqDiff,Nat.reduceAdd,Nat.reduceSub,Nat.reduceLeDiff,reduceCtorEq,p1,h2])
  ·have gY:(R1 b.a=R1 b.b)=False:=by simp only[eq_iff_iff,iff_false];exact fun h=>si (I.i1 _ _ ha rE h)
   have Hu:(R1 b.b=R1 b.a)=False:=by simp only[eq_iff_iff,iff_false];exact fun h=>si (I.i1 _ _ ha rE h.symm)
   have MX:bump c b.a b.b b.s b.b=c b.b:=jG fun h=>si h.symm
   have M7:=ny (f:=bump c b.a b.b b.s) (a:=b.b) (b:=b.a) (d:=b.s) (n:=cnt) ha
   rw[MX]at M7
   have wB:IntKind.i64.wrap (c b.b b.a+b.s)=c b.b b.a+b.s:=aT ab
   have rF:mQ c b b.b=bump (bump c b.a b.b b.s) b.b b.a b.s b.b:=rfl
   rw[au]at cA cB sA M7
   (try((repeat(revert hN;revert N;apply Pn.out));refine wk (tw @b38 (tw @b0 (tw @b1 (tw @b5 (tw @Oi (tw @Oj (tw @hi (tw @oq (tw @aA.eq_1 (tw @gA (tw @gB (tw @rA (tw @rB (tw @cA (tw @cB (tw @sA (tw @gX (tw @g1 (tw @gj (tw @fC (tw @qX (tw @q1 (tw @qA (tw @qB (tw @xA (tw @xB (tw @yA (tw @yB (tw @l1 (tw @lA (tw @lB (tw @wA (tw @M7 (tw @wB (tw @gY @Hu))))))))))))))))))))))))))))))))))) ?_;(repeat(refine Pn.mk ?_;intro N hN))))
   exact jr (sd (tw @b38 (tw @b0 (tw @b1 (tw @b5 (tw @Oi @Oj)))))) (by
    (try dsimp only)
    refine⟨ab,fun x hx=>?_,?_⟩
    ·have p1:=eP (i:=x) (n:=st_b.next) ab
     have p2:=dr (a:=x) (b:=R1 b.b) (by rw[v1];omega)
     have p3:=dr (a:=x) (b:=R1 b.a) (by rw[v1];omega)
     have:=L4 x hx
     simp only[go_sem, ↓reduceIte,Nat.reduceEqDiff,Nat.reduceAdd,Nat.reduceSub,Nat.reduceLeDiff,reduceCtorEq,p1,p2,p3,this]
    ·rw[rH]
     refine bM.add I b ha rE (fun h=>?_) ?_ fun x hx h1 h2=>?_
     ·simp only[go_sem, ↓reduceIte,Nat.reduceEqDiff,Nat.reduceAdd,Nat.reduceSub,Nat.reduceLeDiff,reduceCtorEq,gY]
     ·rw[rF]
      simp only[go_sem, ↓reduceIte,Nat.reduceEqDiff,Nat.reduceAdd,Nat.reduceSub,Nat.reduceLeDiff,reduceCtorEq,gY]
     ·have p1:=eP (i:=x) (n:=st_b.next) ab
      simp only[go_sem, ↓reduceIte,Nat.reduceEqDiff,Nat.reduceAdd,Nat.reduceSub,Nat.reduceLeDiff,reduceCtorEq,p1,h1,h2])
 ·have oZ:i=bs.length:=ab
  subst oZ
  rw[List.take_length]at bM
  (try((repeat(revert hN;revert N;apply Pn.out));refine wk (tw @b38 (tw @b0 (tw @b1 (tw @b5 (tw @Oi (tw @Oj @hi)))))) ?_;(repeat(refine Pn.mk ?_;intro N hN))))
  exact gn (.inl rfl) (vs:=[.ptr X 0 0]) (sd @Nat.zero_add) ⟨X,o1,o2,R1,R2,rfl,⟨I.sx,I.s1,I.s2,I.Rv,I.LJ,I.i1,I.i2,by have:=I.vx;(try dsimp only);omega,by have:=I.v1;(try dsimp only);omega,by have:=I.v2;(try dsimp only);omega,fun j hj=>by have:=I.To j hj;(try dsimp only);omega,fun j hj=>by have:=I.QH j hj;(try dsimp only);omega⟩,bt,bM,L4⟩
end Go.Proofs.YtihgaadadaekmaaGreatDoor.V

namespace Go.Proofs.YtihgaadadaekmaaGreatDoor.V
structure Bq (n:Nat) (c f:Nat->Nat->Int) (x:Nat) (par:Nat->Int) (Q:List Nat) (i:Nat):Prop where
 nodup:Q.Nodup
 lt:∀v∈Q,v<n
 root:par x=(x:Int)
 mem:x∈Q
 iff:∀v,v<n->(0<=par v↔v∈Q)
 up:∀v∈Q,v≠x->∃u,u∈Q/\par v=(u:Int)/\Q.idxOf u<Q.idxOf v/\f u v<c u v
 done:∀j (_:j<i) (hl:j<Q.length) (v:Nat),v<n->f Q[j] v<c Q[j] v->v∈Q
 ile:i<=Q.length
section
variable {n:Nat} {c f:Nat->Nat->Int} {x:Nat} {par:Nat->Int} {Q:List Nat} {i:Nat}
theorem Bq.len (h:Bq n c f x par Q i):Q.length<=n:=nP n Q h.nodup h.lt
theorem Bq.start (hx:x<n):Bq n c f x (fun v=>if v=x then(x:Int)else -1) [x] 0:=by
 refine⟨by simp,fun v hv=>by simp at hv;omega,by simp,by simp,fun v hv=>?_,fun v hv gY=>absurd (by simpa using hv) gY,fun j hj=>ab,by simp⟩
 by_cases h:v=x
 ·simp[h]
 ·simp[h]
theorem Bq.visit (h:Bq n c f x par Q i) (hi:i<Q.length) {v:Nat} (hv:v<n) (hp:par v<0) (hr:f Q[i] v<c Q[i] v):Bq n c f x (fun w=>if w=v then(Q[i]:Int)else par w) (Q++[v]) i:=by
 have S8:v∉Q:=fun hm=>by have:=(h.iff v hv).2 hm;omega
 have Tg:x≠v:=fun e=>S8 (e▸h.mem)
 have xT:∀u∈Q,(Q++[v]).idxOf u=Q.idxOf u:=fun u hu=>by rw[List.idxOf_append,if_pos hu]
 have tY:(Q++[v]).idxOf v=Q.length:=by rw[List.idxOf_append,if_neg S8];simp
 refine⟨?_,fun w hw=>?_,by simp only[if_neg Tg];exact h.root,by simp[h.mem],fun w hw=>?_,fun w hw gY=>?_,fun j hj hl w hw HA=>?_,by simp;omega⟩
 ·refine List.nodup_append.2 ⟨h.nodup,by simp,fun a ha b hb=>?_⟩
  rw[List.mem_singleton.1 hb]
  rintro rfl;exact S8 ha
 ·rcases List.mem_append.1 hw with hw|hw
  ·exact h.lt w hw
  ·rw[List.mem_singleton.1 hw];exact hv
 ·by_cases DH:w=v
  ·subst DH;simp
  ·rw[if_neg DH,h.iff w hw];simp[DH]
 ·by_cases DH:w=v
  ·subst DH
   refine⟨Q[i],by simp,by simp,?_,hr⟩
   rw[xT _ (List.getElem_mem hi),tY]
   exact List.idxOf_lt_length_of_mem (List.getElem_mem hi)
  ·have hwQ:w∈Q:=by
    rcases List.mem_append.1 hw with hw|hw
    ·exact hw
    ·exact absurd (List.mem_singleton.1 hw) DH
   obtain⟨u,h1,h2,h3,h4⟩:=h.up w hwQ gY
   exact⟨u,by simp[h1],by rw[if_neg DH];exact h2,by rw[xT u h1,xT w hwQ];exact h3,h4⟩
 ·have gN:j<Q.length:=by have:=h.ile;omega
  rw[List.getElem_append_left gN]at HA
  exact List.mem_append_left _ (h.done j hj gN w hw HA)
theorem Bq.next (h:Bq n c f x par Q i) (hi:i<Q.length) (dk:∀v,v<n->f Q[i] v<c Q[i] v->0<=par v):Bq n c f x par Q (i+1):=by
 refine⟨h.nodup,h.lt,h.root,h.mem,h.iff,h.up,fun j hj hl v hv hr=>?_,ab⟩
 by_cases lW:j=i
 ·subst lW;exact(h.iff v hv).1 (dk v hv hr)
 ·exact h.done j ab hl v hv hr
theorem Bq.cut (h:Bq n c f x par Q Q.length) {y:Nat} (hy:y<n) (hp:par y<0):∃S:Nat->Bool,S x=true/\S y=false/\∀u v,u<n->v<n->S u=true->S v=false->¬f u v<c u v:=by
 refine⟨fun v=>decide (v∈Q),by simp[h.mem],?_,fun u v hu hv h1 h2 hr=>?_⟩
 ·have:y∉Q:=fun hm=>by have:=(h.iff y hy).2 hm;omega
  simp[this]
 ·simp only[decide_eq_true_eq,decide_eq_false_iff_not]at h1 h2
  obtain⟨j,hj,rfl⟩:=List.getElem_of_mem h1
  exact h2 (h.done j hj hj v hv hr)
def tf (c f:Nat->Nat->Int) (Q:List Nat) (y k:Nat) (out:List Nat):Prop:=∃rest,out.reverse=k::rest/\(k::rest).getLast (by simp)=y/\pT f c (k::rest)/\(k::rest).Pairwise (fun a b=>Q.idxOf a<Q.idxOf b)/\∀v∈k::rest,v∈Q
theorem tf.start {y:Nat} (hy:y∈Q):tf c f Q y y [y]:=⟨[],rfl,rfl,trivial,by simp,by simpa using hy⟩
theorem tf.step {y k u:Nat} {out:List Nat} (h:tf c f Q y k out) (hu:u∈Q) (hi:Q.idxOf u<Q.idxOf k) (hr:f u k<c u k):tf c f Q y u (out++[u]):=by
 obtain⟨rest,h1,h2,h3,h4,h5⟩:=h
 refine⟨k::rest,by rw[List.reverse_append,h1];rfl,by rw[List.getLast_cons (by simp)];exact h2,⟨hr,h3⟩,?_,?_⟩
 ·refine List.pairwise_cons.2 ⟨fun b hb=>?_,h4⟩
  rcases List.mem_cons.1 hb with rfl|hb
  ·exact hi
  ·have:=(List.pairwise_cons.1 h4).1 b hb;omega
 ·intro v hv
  rcases List.mem_cons.1 hv with rfl|hv
  ·exact hu
  ·exact h5 v hv
theorem tf.len {y k:Nat} {out:List Nat} (h:tf c f Q y k out) (hq:∀v∈Q,v<n):out.length<=n:=by
 obtain⟨rest,h1,_,_,h4,h5⟩:=h
 rw[<-List.length_reverse,h1]
 refine nP n _ (h4.imp fun dD he=>?_) fun v hv=>hq v (h5 v hv)
 subst he;omega
structure OX (n:Nat) (c f:Nat->Nat->Int) (x y:Nat) (p:List Nat):Prop where
 way:∃r,p=x::r/\(x::r).getLast (by simp)=y
 nodup:p.Nodup
 room:pT f c p
 lt:∀v∈p,v<n
theorem tf.way {y:Nat} {out:List Nat} (h:tf c f Q y x out) (hq:∀v∈Q,v<n):OX n c f x y out.reverse:=by
 obtain⟨rest,h1,h2,h3,h4,h5⟩:=h
 rw[h1]
 exact⟨⟨rest,rfl,h2⟩,h4.imp fun dD he=>by subst he;omega,h3,fun v hv=>hq v (h5 v hv)⟩
end
end Go.Proofs.YtihgaadadaekmaaGreatDoor.V

namespace Go.Proofs.YtihgaadadaekmaaGreatDoor.V
open Go.RowKit
attribute [local irreducible] ea wpOps gS Call
attribute [local go_sem] aM fQ eM gi gh cE upd cu K.av cL AV.cells AV.cell rowOf rowsOf part ld rowAt bY ck dI eh ij bL da eA gp e8 du eo cY cX dV dW bR bm cQ bQ cT cR ej er ek cP bW cZ ei bP aQ cV cC ig bw cH bS aX dG bu dL AV.undef bF bH dY ef dU ec cF ez eF cw ev eu cU cW List.getD_cons_zero List.getD_cons_succ List.getD_nil List.all_cons List.all_nil Bool.and_true Bool.true_and Bool.and_self Bool.not_true Bool.not_false Option.map_some Option.map_none Option.bind_some Option.bind_none List.length_cons List.length_nil List.take_succ_cons List.take_zero List.take_nil List.drop_succ_cons List.drop_zero List.drop_nil List.head?_cons List.map_cons List.map_nil List.getElem?_cons_zero List.getElem?_cons_succ List.cons_append List.nil_append List.append_nil List.length_map List.set_cons_zero List.set_cons_succ Nat.reduceMul eq_self Int.toNat_natCast Int.natCast_nonneg and_self true_and and_true decide_true decide_false Bool.false_eq_true Nat.zero_add Nat.add_zero List.contains_cons List.contains_nil Bool.or_false Bool.false_or beq_self_eq_true Nat.reduceBEq ne_eq not_true_eq_false not_false_eq_true Id.mk.injEq false_and and_false Nat.reduceLT Int.reduceLE Int.reduceLT Int.reduceToNat Int.reduceNeg Int.reduceAdd Nat.le_refl List.length_append beq_true beq_false Bool.not_eq_eq_eq_not or_false false_or dE ad aj aI bE cj aV bf aU bo cN bG
def lp (l:List Nat) (i x:Nat):Nat:=if x<i∨l.length-i<=x then l.getD (l.length-1-x) 0 else l.getD x 0
theorem w6 (l:List Nat):l.map eN=dv (fun x=>l.getD x 0) l.length:=by
 refine List.ext_getElem? fun i=>?_
 by_cases h:i<l.length
 ·rw[e6 h,List.getElem?_map,List.getElem?_eq_getElem h];simp[List.getD_eq_getElem?_getD,h]
 ·rw[List.getElem?_eq_none (by simp;omega),List.getElem?_eq_none (by rw[fK];omega)]
theorem FJ (l:List Nat):dv (lp l 0) l.length=l.map eN:=by
 rw[w6]
 exact gF fun x hx=>by unfold lp;rw[if_neg ab]
theorem Iw (l:List Nat) {i:Nat} (h:l.length<=2*i+1) (hi:i<=l.length):dv (lp l i) l.length=l.reverse.map eN:=by
 rw[w6 l.reverse,List.length_reverse]
 refine gF fun x hx=>?_
 have hr:l.reverse.getD x 0=l.getD (l.length-1-x) 0:=by
  rw[List.getD_eq_getElem?_getD,List.getElem?_reverse hx,List.getD_eq_getElem?_getD]
 rw[hr]
 unfold lp
 by_cases hc:x<i∨l.length-i<=x
 ·rw[if_pos hc]
 ·rw[if_neg hc]
  have:x=l.length-1-x:=ab
  rw[<-this]
theorem FK (l:List Nat) (hp:0<l.length) (hl:l.length<=1048576) (o:Id) (σ:ax) (ho:σ.get o=some ⟨true,1,l.map eN⟩) (sJ:o.cq<σ.next):
  Call Tryz.prog 197 [.own o 0 l.length] σ fun r σ'=>σ'.get o=some ⟨true,1,l.reverse.map eN⟩/\σ.next<=σ'.next/\∀i:Id,i.cq<σ.next->(i=o)=False->σ'.get i=σ.get i:=by
 refine eX dK rfl fun vC=>?_
 clear vC
 rw[<-FJ]at ho
 have Gl:IntKind.i64.wrap ((l.length:Int)-1)=((l.length-1:Nat):Int):=by rw[aT ab];omega
 (try((repeat(revert hN;revert N;apply Pn.out));refine wk @Gl ?_;(repeat(refine Pn.mk ?_;intro N hN))))
 refine aP (fun m env st=>∃i:Nat,m=l.length-i/\2*i<=l.length+1/\i<=l.length/\env 2=.int .i64 (i:Int)/\env 3=.int .i64 ((l.length:Int)-1-i)/\st.get o=some ⟨true,1,dv (lp l i) l.length⟩/\σ.next<=st.next/\∀x:Id,x.cq<σ.next->(x=o)=False->st.get x=σ.get x) l.length ⟨0,rfl,ab,ab,by(simp only[go_sem, ↓reduceIte,Nat.reduceEqDiff,Nat.reduceAdd,Nat.reduceSub,Nat.reduceLeDiff,reduceCtorEq])<;>rfl,by(simp only[go_sem, ↓reduceIte,Nat.reduceEqDiff,Nat.reduceAdd,Nat.reduceSub,Nat.reduceLeDiff,reduceCtorEq,Gl]);congr 1;omega,ho,bt,fun x _ _=>rfl⟩ ?_
 rintro m env_b st_b ⟨i,rfl,wz,oZ,b2,b3,bg,bn,bfr⟩ bkp
 have b0:=bkp 0 (by kernel_rfl)
 simp only[go_sem, ↓reduceIte,Nat.reduceEqDiff,Nat.reduceAdd,Nat.reduceSub,Nat.reduceLeDiff,reduceCtorEq]at b0
 clear bkp
 have tl:=fK (lp l i) l.length
 have oP:=eP (i:=o) (n:=st_b.next) ab
 by_cases hi:(i:Int)<(l.length:Int)-1-i
 ·have fP:i<l.length:=ab
  obtain⟨j,hj⟩:∃j,j=l.length-1-i:=⟨_,rfl⟩
  have gm:j<l.length:=ab
  have JX:(l.length:Int)-1-i=(j:Int):=ab
  rw[JX]at b3 hi
  have g1:=e6 (f:=lp l i) fP
  have g2:=e6 (f:=lp l i) gm
  have e1:lp l i i=l.getD i 0:=by unfold lp;rw[if_neg ab]
  have e2:lp l i j=l.getD j 0:=by unfold lp;rw[if_neg ab]
  have LB:(dv (lp l i) l.length).set i (eN (l.getD j 0))=dv (fun x=>if x=i then l.getD j 0 else lp l i x) l.length:=oD fP (if_pos rfl) fun x _ hx=>if_neg hx
  have HB:(dv (fun x=>if x=i then l.getD j 0 else lp l i x) l.length).set j (eN (l.getD i 0))=dv (lp l (i+1)) l.length:=oD gm (by unfold lp;rw[if_pos ab];congr 1;omega) fun x hx OL=>by
   by_cases yV:x=i
   ·rw[if_pos yV];unfold lp;rw[if_pos ab];congr 1;omega
   ·rw[if_neg yV];unfold lp
    by_cases hc:x<i∨l.length-i<=x
    ·rw[if_pos hc,if_pos ab]
    ·rw[if_neg hc,if_neg ab]
  have Rw:=fK (fun x=>if x=i then l.getD j 0 else lp l i x) l.length
  have g3:=e6 (f:=fun x=>if x=i then l.getD j 0 else lp l i x) gm
  rw[e1]at g1
  rw[e2]at g2
  rw[if_neg ab,e2]at g3
  rw[eN]at g1 g2 g3 LB HB
  have PV:(i:Int)<(l.length:Int):=ab
  have lW:(j:Int)<(l.length:Int):=ab
  have pB:IntKind.i64.wrap ((i:Int)+1)=((i+1:Nat):Int):=ay ab
  have wI:IntKind.i64.wrap ((j:Int)-1)=(l.length:Int)-1-((i+1:Nat):Int):=by rw[aT ab];omega
  (try((repeat(revert hN;revert N;apply Pn.out));refine wk (tw @b0 (tw @b2 (tw @b3 (tw @bg (tw @hi (tw @PV (tw @lW (tw @g1 (tw @g2 (tw @g3 (tw @LB (tw @HB (tw @tl (tw @Rw (tw @oP (tw @pB @wI)))))))))))))))) ?_;(repeat(refine Pn.mk ?_;intro N hN))))
  refine⟨_,?_,i+1,rfl,ab,ab,sd @pB,sd @wI,sd @HB,bt,fun x hx Gm=>?_⟩
  ·omega
  ·have:=bfr x hx Gm
   simp only[go_sem, ↓reduceIte,Nat.reduceEqDiff,Nat.reduceAdd,Nat.reduceSub,Nat.reduceLeDiff,reduceCtorEq,Gm,this]
 ·rw[Iw l ab oZ]at bg
  (try((repeat(revert hN;revert N;apply Pn.out));refine wk (tw @b0 (tw @b2 (tw @b3 (tw @bg @hi)))) ?_;(repeat(refine Pn.mk ?_;intro N hN))))
  exact gn (.inr rfl) (vs:=[]) (by simp only[eV,go_sem, ↓reduceIte,Nat.reduceEqDiff,Nat.reduceAdd,Nat.reduceSub,Nat.reduceLeDiff,reduceCtorEq]) ⟨bg,bt,bfr⟩
theorem QI (cnt:Nat) (tZ:1<=cnt) (hn:cnt<=1048576) (c f:Nat->Nat->Int) (x y:Nat) (hx:x<cnt) (hy:y<cnt):
  mD Tryz.prog 191 [.cJ (kY cnt c f),.int .i64 x,.int .i64 y] fun r=>(r=.bK/\∃S:Nat->Bool,S x=true/\S y=false/\∀u v,u<cnt->v<cnt->S u=true->S v=false->¬f u v<c u v)∨∃p:List Nat,r=.sl (p.map eN)/\OX cnt c f x y p:=by
 refine mD.body dK rfl fun hl n0=>?_
 clear hl
 have lM:=uR c cnt
 have jo:(0:Int)<=(cnt:Int):=ab
 have yV:(x:Int)<(cnt:Int):=ab
 have Rs:(y:Int)<(cnt:Int):=ab
 (try((repeat(revert hN;revert N;apply Pn.out));refine wk (tw @kY.eq_1 @lM) ?_;(repeat(refine Pn.mk ?_;intro N hN))))
 refine .inr (aO _ _ _ _ _ (fun r σ1 hq=>?_) (Iu cnt tZ hn (-1) ⟨191002000,n0+1+1⟩ _ (sd @Nat.zero_add) bt))
 obtain⟨o,rfl,ho,J3,J4,lv⟩:=hq
 (try dsimp only at ho J3 J4 lv)
 refine hN _ _ ?_
 clear hN N
 have oP:=eP J4
 have oY:(cnt:Int)<=1048576:=ab
 have PM:qb<qb+cnt:=ab
 have gH:List.replicate cnt [AV.int .i64 (-1)]=dJ (fun _=>-1) cnt:=by
  refine List.ext_getElem? fun i=>?_
  by_cases h:i<cnt
  ·rw[dC h,List.getElem?_replicate,if_pos h];rfl
  ·rw[List.getElem?_eq_none (by simp;omega),List.getElem?_eq_none (by rw[dt];omega)]
 rw[gH]at ho
 have z5:(dJ (fun _=>-1) cnt).set x (au (x:Int))=dJ (fun v=>if v=x then(x:Int)else -1) cnt:=kG hx (if_pos rfl) fun v _ hv=>if_neg hv
 have MJ:=dC (f:=fun _=>-1) hx
 have tl0:=dt (fun _=>-1) cnt
 rw[au]at z5 MJ
 (try((repeat(revert hN;revert N;apply Pn.out));refine wk (tw @kY.eq_1 (tw @lM (tw @jo (tw @oY @oP)))) ?_;(repeat(refine Pn.mk ?_;intro N hN))))
 refine I0 ?_
 simp only[go_sem, ↓reduceIte,Nat.reduceEqDiff,Nat.reduceAdd,Nat.reduceSub,Nat.reduceLeDiff,reduceCtorEq,PM]
 refine hN _ _ ?_
 clear hN N
 (try((repeat(revert hN;revert N;apply Pn.out));refine wk (tw @ho (tw @oP (tw @z5 (tw @MJ (tw @tl0 @yV))))) ?_;(repeat(refine Pn.mk ?_;intro N hN))))
 obtain⟨C,hC⟩:∃C:Id,C=⟨191003001,σ1.next+1⟩:=⟨_,rfl⟩
 have P6:=dr (a:=o) (b:=C) (by rw[hC];(try dsimp only);omega)
 have hCv:C.cq=σ1.next+1:=by rw[hC]
 refine aP (fun m env st=>∃(par:Nat->Int) (Q:List Nat) (i:Nat),m=cnt-i/\Bq cnt c f x par Q i/\st.get o=some ⟨true,1,dJ par cnt⟩/\st.get C=some ⟨true,qb+cnt,(Q.drop i).map eN⟩/\σ1.next+1<st.next) cnt ⟨_,[x],0,rfl,Bq.start hx,sd @oP,by rw[hC];simp only[go_sem, ↓reduceIte,Nat.reduceEqDiff,Nat.reduceAdd,Nat.reduceSub,Nat.reduceLeDiff,reduceCtorEq,oP];rfl,bt⟩ ?_
 rintro m env_b st_b ⟨par,Q,i,rfl,hB,bgo,bgC,bn⟩ bkp
 have b0:=bkp 0 (by kernel_rfl)
 have b1:=bkp 1 (by kernel_rfl)
 have b2:=bkp 2 (by kernel_rfl)
 have b7:=bkp 7 (by kernel_rfl)
 have b8:=bkp 8 (by kernel_rfl)
 have b9:=bkp 9 (by kernel_rfl)
 rw[<-hC]at b9
 simp only[go_sem, ↓reduceIte,Nat.reduceEqDiff,Nat.reduceAdd,Nat.reduceSub,Nat.reduceLeDiff,reduceCtorEq]at b0 b1 b2 b7 b8 b9
 clear bkp
 have hQn:=hB.len
 have oZ:=hB.ile
 have Ra:((Q.drop i).map eN).length=Q.length-i:=by simp
 by_cases hi:i<Q.length
 ·have lh:(0:Int)<((Q.length-i:Nat):Int):=ab
  have qV:Q.drop i=Q[i]::Q.drop (i+1):=List.drop_eq_getElem_cons hi
  obtain⟨u,hu⟩:∃u,u=Q[i]:=⟨_,rfl⟩
  have OJ:u<cnt:=by rw[hu];exact hB.lt _ (List.getElem_mem hi)
  rw[<-hu]at qV
  (try((repeat(revert hN;revert N;apply Pn.out));refine wk (tw @b0 (tw @b1 (tw @b2 (tw @b7 (tw @b8 (tw @b9 (tw @bgC (tw @Ra @lh)))))))) ?_;(repeat(refine Pn.mk ?_;intro N hN))))
  refine I0 ?_
  rw[qV,List.map_cons,show eN u=[.int .i64 (u:Int)]from rfl]at bgC
  simp only[go_sem, ↓reduceIte,Nat.reduceEqDiff,Nat.reduceAdd,Nat.reduceSub,Nat.reduceLeDiff,reduceCtorEq,b9,bgC]
  refine hN _ _ ?_
  clear hN N
  (try((repeat(revert hN;revert N;apply Pn.out));refine wk @b7 ?_;(repeat(refine Pn.mk ?_;intro N hN))))
  refine aP (fun m env st=>∃(v:Nat) (par':Nat->Int) (Q':List Nat),m=cnt-v/\v<=cnt/\env 36=.int .i64 (v:Int)/\Bq cnt c f x par' Q' i/\(∃h:i<Q'.length,Q'[i]=u)/\st.get o=some ⟨true,1,dJ par' cnt⟩/\st.get C=some ⟨true,qb+cnt,(Q'.drop (i+1)).map eN⟩/\σ1.next+1<st.next/\∀w,w<v->f u w<c u w->0<=par' w) cnt ⟨0,par,Q,rfl,Nat.zero_le _,by(simp only[go_sem, ↓reduceIte,Nat.reduceEqDiff,Nat.reduceAdd,Nat.reduceSub,Nat.reduceLeDiff,reduceCtorEq])<;>rfl,hB,⟨hi,hu.symm⟩,sd (tw @P6 @bgo),sd @P6,bt,fun w hw=>absurd hw (Nat.not_lt_zero w)⟩ ?_
  rintro m env_c st_c ⟨v,par',Q',rfl,hvn,c36,dx,⟨pQ,DF⟩,wc,cgC,cn,dk⟩ ckp
  have c0:=ckp 0 (by kernel_rfl)
  have c1:=ckp 1 (by kernel_rfl)
  have c2:=ckp 2 (by kernel_rfl)
  have c7:=ckp 7 (by kernel_rfl)
  have c8:=ckp 8 (by kernel_rfl)
  have c9:=ckp 9 (by kernel_rfl)
  have ji:=ckp 10 (by kernel_rfl)
  have L8:=ckp 35 (by kernel_rfl)
  simp only[go_sem, ↓reduceIte,Nat.reduceEqDiff,Nat.reduceAdd,Nat.reduceSub,Nat.reduceLeDiff,reduceCtorEq,b0,b1,b2,b7,b8,b9]at c0 c1 c2 c7 c8 c9 ji L8
  clear ckp
  have tl:=dt par' cnt
  by_cases hv:(v:Int)<(cnt:Int)
  ·have B6:v<cnt:=ab
   have MN:=dC (f:=par') B6
   have lv:=Ms cnt c f u v OJ B6
   have hw:IntKind.i64.wrap ((v:Int)+1)=((v+1:Nat):Int):=ay ab
   rw[au]at MN
   rw[kY]at lv
   by_cases jK:par' v<0
   ·by_cases hr:f u v<c u v
    ·rw[decide_eq_true hr]at lv
     have dP:(dJ par' cnt).set v (au (u:Int))=dJ (fun w=>if w=v then(u:Int)else par' w) cnt:=kG B6 (if_pos rfl) fun w _ hw=>if_neg hw
     rw[au]at dP
     have oK:=dx.visit pQ B6 jK (by rw[DF];exact hr)
     rw[DF]at oK
     have hQ2:=oK.len
     rw[List.length_append]at hQ2
     simp only[List.length_singleton]at hQ2
     have fv:qb+(Q'.drop (i+1)).length<qb+cnt:=by rw[List.length_drop];omega
     (repeat(first|((repeat(revert hN;revert N;apply Pn.out));refine wk (tw @kY.eq_1 (tw @c0 (tw @c7 (tw @c8 (tw @c9 (tw @ji (tw @c36 (tw @L8 (tw @hv (tw @wc (tw @MN (tw @tl (tw @jK @dP))))))))))))) ?_;(repeat(refine Pn.mk ?_;intro N hN)))|((try apply Or.inl);refine⟨_,ae.x (lv) (sd (tw @kY.eq_1 (tw @c0 (tw @c7 (tw @c8 (tw @c9 (tw @ji (tw @c36 (tw @L8 (tw @hv (tw @wc (tw @MN (tw @tl (tw @jK @dP)))))))))))))),?_⟩;refine hN _ _ ?_;clear hN N)))
     refine I0 ?_
     have hq:(Q'.drop (i+1)).map eN++[[.int .i64 (v:Int)]]=((Q'++[v]).drop (i+1)).map eN:=by rw[List.drop_append_of_le_length ab,List.map_append];rfl
     simp only[go_sem, ↓reduceIte,Nat.reduceEqDiff,Nat.reduceAdd,Nat.reduceSub,Nat.reduceLeDiff,reduceCtorEq,c9,cgC,fv,P6,hq]
     refine hN _ _ ?_
     clear hN N
     (try((repeat(revert hN;revert N;apply Pn.out));refine wk (tw @c36 @hw) ?_;(repeat(refine Pn.mk ?_;intro N hN))))
     refine⟨_,?_,v+1,_,_,rfl,B6,sd @hw,oK,⟨by rw[List.length_append];omega,by rw[List.getElem_append_left pQ];exact DF⟩,sd @P6,sd @P6,bt,fun w hw HA=>?_⟩
     ·omega
     ·by_cases DH:w=v
      ·rw[if_pos DH];omega
      ·rw[if_neg DH];exact dk w ab HA
    ·rw[decide_eq_false hr]at lv
     (repeat(first|((repeat(revert hN;revert N;apply Pn.out));refine wk (tw @kY.eq_1 (tw @c0 (tw @c7 (tw @c8 (tw @c9 (tw @ji (tw @c36 (tw @L8 (tw @hv (tw @wc (tw @MN (tw @tl (tw @jK @hw))))))))))))) ?_;(repeat(refine Pn.mk ?_;intro N hN)))|((try apply Or.inl);refine⟨_,ae.x (lv) (sd (tw @kY.eq_1 (tw @c0 (tw @c7 (tw @c8 (tw @c9 (tw @ji (tw @c36 (tw @L8 (tw @hv (tw @wc (tw @MN (tw @tl (tw @jK @hw)))))))))))))),?_⟩;refine hN _ _ ?_;clear hN N)))
     refine⟨_,?_,v+1,par',Q',rfl,B6,sd @hw,dx,⟨pQ,DF⟩,sd @wc,sd @cgC,bt,fun w hw HA=>?_⟩
     ·omega
     ·by_cases DH:w=v
      ·subst DH;exact absurd HA hr
      ·exact dk w ab HA
   ·(try((repeat(revert hN;revert N;apply Pn.out));refine wk (tw @kY.eq_1 (tw @c0 (tw @c7 (tw @c8 (tw @c9 (tw @ji (tw @c36 (tw @L8 (tw @hv (tw @wc (tw @MN (tw @tl (tw @jK @hw))))))))))))) ?_;(repeat(refine Pn.mk ?_;intro N hN))))
    refine⟨_,?_,v+1,par',Q',rfl,B6,sd @hw,dx,⟨pQ,DF⟩,sd @wc,sd @cgC,bt,fun w hw HA=>?_⟩
    ·omega
    ·by_cases DH:w=v
     ·subst DH;omega
     ·exact dk w ab HA
  ·have hvc:v=cnt:=ab
   subst hvc
   (try((repeat(revert hN;revert N;apply Pn.out));refine wk (tw @c36 (tw @L8 @hv)) ?_;(repeat(refine Pn.mk ?_;intro N hN))))
   refine⟨_,?_,par',Q',i+1,rfl,dx.next pQ fun w hw hr=>dk w hw (by rw[<-DF];exact hr),sd @wc,sd @cgC,bt⟩
   omega
 ·have hiQ:i=Q.length:=ab
  subst hiQ
  have lh:¬(0:Int)<((Q.length-Q.length:Nat):Int):=ab
  have SB:=dC (f:=par) hy
  have tl:=dt par cnt
  rw[au]at SB
  by_cases jK:par y<0
  ·(try((repeat(revert hN;revert N;apply Pn.out));refine wk (tw @b0 (tw @b1 (tw @b2 (tw @b7 (tw @b8 (tw @b9 (tw @bgC (tw @Ra (tw @lh (tw @bgo (tw @SB (tw @tl (tw @Rs @jK))))))))))))) ?_;(repeat(refine Pn.mk ?_;intro N hN))))
   exact⟨[.bK],sd @Nat.zero_add,.bK,kg _ _,.inl ⟨rfl,hB.cut hy jK⟩⟩
  ·(try((repeat(revert hN;revert N;apply Pn.out));refine wk (tw @b0 (tw @b1 (tw @b2 (tw @b7 (tw @b8 (tw @b9 (tw @bgC (tw @Ra (tw @lh (tw @bgo (tw @SB (tw @tl (tw @Rs @jK))))))))))))) ?_;(repeat(refine Pn.mk ?_;intro N hN))))
   refine aP (fun m env st=>∃(k:Nat) (out:List Nat) (p:Id),m=Q.idxOf k/\env 13=.int .i64 (k:Int)/\env 12=.own p 0 out.length/\st.get p=some ⟨true,1,out.map eN⟩/\p.cq<st.next/\st_b.next<=p.cq/\k∈Q/\tf c f Q y k out/\st.get o=some ⟨true,1,dJ par cnt⟩) (Q.idxOf y) ⟨y,[y],⟨191017001,st_b.next+1+1⟩,rfl,by(simp only[go_sem, ↓reduceIte,Nat.reduceEqDiff,Nat.reduceAdd,Nat.reduceSub,Nat.reduceLeDiff,reduceCtorEq]),by(simp only[go_sem, ↓reduceIte,Nat.reduceEqDiff,Nat.reduceAdd,Nat.reduceSub,Nat.reduceLeDiff,reduceCtorEq])<;>rfl,by(simp only[go_sem, ↓reduceIte,Nat.reduceEqDiff,Nat.reduceAdd,Nat.reduceSub,Nat.reduceLeDiff,reduceCtorEq])<;>rfl,bt,bt,(hB.iff y hy).1 ab,tf.start ((hB.iff y hy).1 ab),by(have Ta:=eP (i:=o) (n:=st_b.next) ab);simp only[go_sem, ↓reduceIte,Nat.reduceEqDiff,Nat.reduceAdd,Nat.reduceSub,Nat.reduceLeDiff,reduceCtorEq,Ta,bgo]⟩ ?_
   rintro m env_d st_d ⟨k,out,p,rfl,d13,d12,dgp,dpn,dpo,hkQ,sW,dgo⟩ dkp
   have d1:=dkp 1 (by kernel_rfl)
   have d8:=dkp 8 (by kernel_rfl)
   simp only[go_sem, ↓reduceIte,Nat.reduceEqDiff,Nat.reduceAdd,Nat.reduceSub,Nat.reduceLeDiff,reduceCtorEq,b1,b8]at d1 d8
   clear dkp
   have yT:=eP dpn
   have z7:=eP (i:=o) (n:=st_d.next) ab
   have dO:=dr (a:=o) (b:=p) ab
   have hol:=sW.len hB.lt
   have dX:=hB.lt k hkQ
   have gy:(out.map eN).length=out.length:=by simp
   by_cases Rg:k=x
   ·have hd:decide ((k:Int)=(x:Int))=true:=decide_eq_true (by rw[Rg])
    have SW:0<out.length:=by
     obtain⟨rest,h1,_⟩:=sW
     rw[<-List.length_reverse,h1];simp
    (try((repeat(revert hN;revert N;apply Pn.out));refine wk (tw @d1 (tw @d8 (tw @d12 (tw @d13 (tw @hd @Bool.not_true))))) ?_;(repeat(refine Pn.mk ?_;intro N hN))))
    refine .inr (aO _ _ _ _ _ (fun r σ2 hq=>?_) (FK out SW ab p _ dgp bt))
    obtain⟨oL,me,Hn⟩:=hq
    refine hN _ _ ?_
    clear hN N
    (try((repeat(revert hN;revert N;apply Pn.out));refine wk @d12 ?_;(repeat(refine Pn.mk ?_;intro N hN))))
    refine⟨[.own p 0 out.length],sd @d12,.sl (out.reverse.map eN),?_,.inr ⟨out.reverse,rfl,by subst Rg;exact sW.way hB.lt⟩⟩
    exact fH (sz:=1) oL (by simp) fun a=>Mt _ 4 a
   ·have hd:decide ((k:Int)=(x:Int))=false:=decide_eq_false fun h=>Rg ab
    obtain⟨u,huQ,hpu,xT,hr⟩:=hB.up k hkQ Rg
    have eD:=dC (f:=par) dX
    rw[au,hpu]at eD
    have hki:(k:Int)<(cnt:Int):=ab
    have e1:out.length+1<=16777216:=ab
    (try((repeat(revert hN;revert N;apply Pn.out));refine wk (tw @d1 (tw @d8 (tw @d12 (tw @d13 (tw @hd (tw @Bool.not_false (tw @dgo (tw @dgp (tw @eD (tw @tl (tw @hki (tw @yT (tw @z7 (tw @dO (tw @gy @e1))))))))))))))) ?_;(repeat(refine Pn.mk ?_;intro N hN))))
    refine⟨_,xT,u,out++[u],⟨191021003,st_d.next+1+1⟩,rfl,sd @Nat.zero_add,by rw[List.length_append];simp only[go_sem, ↓reduceIte,Nat.reduceEqDiff,Nat.reduceAdd,Nat.reduceSub,Nat.reduceLeDiff,reduceCtorEq,List.length_cons,List.length_nil],by rw[List.map_append,List.map_cons,List.map_nil];simp only[go_sem, ↓reduceIte,Nat.reduceEqDiff,Nat.reduceAdd,Nat.reduceSub,Nat.reduceLeDiff,reduceCtorEq,eN],bt,bt,huQ,sW.step huQ xT hr,sd (tw @z7 (tw @dO @dgo))⟩
theorem zd (b:Nat):∀(l:List Nat) (a:Nat) (f:Nat->Nat->Int),lF f ((a::l)++[b])=jX (lF f (a::l)) ((a::l).getLast (by simp)) b
 |[],a,f=>rfl
 |c::l,a,f=>by
  rw[List.cons_append,List.cons_append,lF,<-List.cons_append,zd b l c (jX f a c),lF,List.getLast_cons_cons]
theorem Eo {p:List Nat} {f:Nat->Nat->Int} {i:Nat} (h1:1<=i) (hi:i<p.length):lF f (p.take (i+1))=jX (lF f (p.take i)) (p[i-1]'ab) p[i]:=by
 rw[List.take_succ_eq_append_getElem hi]
 have gY:p.take i≠[]:=by
  intro h
  have:(p.take i).length=0:=by rw[h];rfl
  rw[List.length_take]at this;omega
 obtain⟨a,l,PG⟩:∃a l,p.take i=a::l:=by
  cases h:p.take i with
  |nil=>exact absurd h gY
  |cons a l=>exact⟨a,l,rfl⟩
 have tY:(p.take i).getLast gY=p[i-1]'ab:=by
  rw[List.getLast_eq_getElem,List.getElem_take]
  congr 1
  rw[List.length_take];omega
 simp only[PG]at tY ⊢
 rw[zd,tY]
theorem FG (f:Nat->Nat->Int) (a b u v:Nat):jX f a b u v<=f u v+1/\f u v-1<=jX f a b u v:=by
 unfold jX bump
 split<;>split<;>constructor<;>omega
theorem lG:∀(p:List Nat) (f:Nat->Nat->Int) (u v:Nat),lF f p u v<=f u v+p.length/\f u v-p.length<=lF f p u v
 |[],f,u,v=>by simp[lF]
 |[_],f,u,v=>by simp[lF];omega
 |a::b::r,f,u,v=>by
  rw[lF]
  have h1:=lG (b::r) (jX f a b) u v
  have h2:=FG f a b u v
  simp only[List.length_cons]at h1 ⊢
  omega
theorem ni.push {g g':Rows} {X o1 o2:Id} {R1 R2:Nat->Id} {n nb:Nat} {c f:Nat->Nat->Int} (I:Ei X o1 o2 R1 R2 n nb) (h:ni g X o1 o2 R1 R2 n c f) {a b:Nat} (ha:a<n) (hb:b<n) (si:a≠b) (hA:g' (R2 a)=some ⟨true,1,dJ (bump f a b 1 a) n⟩) (hB:g' (R2 b)=some ⟨true,1,dJ (bump (bump f a b 1) b a (-1) b) n⟩) (hf:∀i:Id,i.cq<nb->(i=R2 a)=False->(i=R2 b)=False->g' i=g i):ni g' X o1 o2 R1 R2 n c (jX f a b):=by
 have ne:∀{i:Id} {s:Nat},i.site=s->(s==174005006)=false->∀a,a<n->(i=R2 a)=False:=fun {i s} hi hs a ha=>by
  simp only[eq_iff_iff,iff_false]
  rintro rfl
  rw[I.LJ a ha]at hi
  subst hi
  simp at hs
 refine⟨(hf _ I.vx (ne I.sx (by decide) _ ha) (ne I.sx (by decide) _ hb)).trans h.x,(hf _ I.v1 (ne I.s1 (by decide) _ ha) (ne I.s1 (by decide) _ hb)).trans h.t1,(hf _ I.v2 (ne I.s2 (by decide) _ ha) (ne I.s2 (by decide) _ hb)).trans h.t2,fun i hi=>(hf _ (I.To i hi) (ne (I.Rv i hi) (by decide) _ ha) (ne (I.Rv i hi) (by decide) _ hb)).trans (h.r1 i hi),fun i hi=>?_⟩
 by_cases ET:i=b
 ·subst ET;exact hB
 ·by_cases MP:i=a
  ·subst MP
   rw[hA,jX,jG ET]
  ·rw[jX,jG ET,jG MP,hf _ (I.QH i hi) (by simp only[eq_iff_iff,iff_false];exact fun he=>MP (I.i2 i _ hi ha he)) (by simp only[eq_iff_iff,iff_false];exact fun he=>ET (I.i2 i _ hi hb he))]
   exact h.r2 i hi
theorem NI (cnt:Nat) (tZ:1<=cnt) (hn:cnt<=1048576) (c:Nat->Nat->Int) (hc:∀u v,u<cnt->v<cnt->0<=c u v/\c u v<=16777216) (x y:Nat) (hx:x<cnt) (hy:y<cnt) (Ni:x≠y) (t:Int) (ht:t<=1099511627776)
  (X o1 o2:Id) (R1 R2:Nat->Id) (nb:Nat) (I:Ei X o1 o2 R1 R2 cnt nb) (σ:ax) (hM:ni σ.get X o1 o2 R1 R2 cnt c (fun _ _=>0)) (JZ:nb<=σ.next):
  Call Tryz.prog 175 [.ptr X 0 0,.int .i64 x,.int .i64 y,.int .i64 t] σ fun r σ'=>∃(k:Nat) (f:Nat->Nat->Int),r=.int .i64 k/\mE cnt c f x y k/\ni σ'.get X o1 o2 R1 R2 cnt c f/\((∃S:Nat->Bool,S x=true/\S y=false/\∀u v,u<cnt->v<cnt->S u=true->S v=false->¬f u v<c u v)∨t<=k)/\σ.next<=σ'.next:=by
 refine eX dK rfl fun hl=>?_
 clear hl
 have hxS:(fun v=>decide (v=x)) x=true:=by simp
 have hyS:(fun v=>decide (v=x)) y=false:=by simp;exact fun h=>Ni h.symm
 obtain⟨top,S6⟩:∃top,top=lI cnt (fun v=>decide (v=x)) c:=⟨_,rfl⟩
 (try((repeat(revert hN;revert N;apply Pn.out));refine wk @Nat.zero_add ?_;(repeat(refine Pn.mk ?_;intro N hN))))
 refine aP (fun m env st=>∃(k:Nat) (f:Nat->Nat->Int),m=(top-k).toNat/\env 9=.int .i64 (k:Int)/\mE cnt c f x y k/\ni st.get X o1 o2 R1 R2 cnt c f/\σ.next<=st.next/\(0<k->(k:Int)<=t)/\∀u v,-((k:Int)*(cnt:Int))<=f u v) (top-0).toNat ⟨0,fun _ _=>0,rfl,by(simp only[go_sem, ↓reduceIte,Nat.reduceEqDiff,Nat.reduceAdd,Nat.reduceSub,Nat.reduceLeDiff,reduceCtorEq])<;>rfl,mE.zero fun u v hu hv=>(hc u v hu hv).1,hM,bt,fun h=>absurd h (Nat.lt_irrefl 0),fun u v=>by simp⟩ ?_
 rintro m env_b st_b ⟨k,f,rfl,b9,hF,bM,bn,bk,blo⟩ bkp
 have b0:=bkp 0 (by kernel_rfl)
 have b1:=bkp 1 (by kernel_rfl)
 have b2:=bkp 2 (by kernel_rfl)
 have b3:=bkp 3 (by kernel_rfl)
 simp only[go_sem, ↓reduceIte,Nat.reduceEqDiff,Nat.reduceAdd,Nat.reduceSub,Nat.reduceLeDiff,reduceCtorEq]at b0 b1 b2 b3
 clear bkp
 have hz:cm (dE st_b.get) 6 [.ptr X 0 0,.int .i64 (x:Int),.int .i64 (y:Int)]=some [.cJ (kY cnt c f),.int .i64 x,.int .i64 y]:=by simp only[ad,aj,bM.fz,aI,Option.map_some]
 (try((repeat(revert hN;revert N;apply Pn.out));refine wk (tw @b0 (tw @b1 (tw @b2 (tw @b3 @b9)))) ?_;(repeat(refine Pn.mk ?_;intro N hN))))
 refine .inr (aO _ _ _ _ _ (fun r σ1 hq=>?_) ((QI cnt tZ hn c f x y hx hy).x mixed hz))
 obtain⟨M5,rfl⟩:=hq
 refine hN _ _ ?_
 clear hN N
 rcases M5 with⟨rfl,S,JN,JO,Ot⟩|⟨p,rfl,hW⟩
 ·(try((repeat(revert hN;revert N;apply Pn.out));refine wk (tw @b0 (tw @b1 (tw @b2 (tw @b3 (tw @b9 (tw @Bool.not_true @Bool.not_false)))))) ?_;(repeat(refine Pn.mk ?_;intro N hN))))
  refine gn (.inl rfl) (vs:=[.int .i64 (k:Int)]) (sd @Nat.zero_add) ⟨k,f,rfl,hF,by(try dsimp only);exact bM,.inl ⟨S,JN,JO,Ot⟩,bt⟩
 ·obtain⟨⟨rs,rfl,tY⟩,kQ,fv,hplt⟩:=hW
  by_cases Jh:t<=(k:Int)
  ·(try((repeat(revert hN;revert N;apply Pn.out));refine wk (tw @b0 (tw @b1 (tw @b2 (tw @b3 (tw @b9 (tw @Jh (tw @Bool.not_true @Bool.not_false))))))) ?_;(repeat(refine Pn.mk ?_;intro N hN))))
   refine gn (.inl rfl) (vs:=[.int .i64 (k:Int)]) (sd @Nat.zero_add) ⟨k,f,rfl,hF,by(try dsimp only);exact bM,.inr Jh,bt⟩
  ·(try((repeat(revert hN;revert N;apply Pn.out));refine wk (tw @b0 (tw @b1 (tw @b2 (tw @b3 (tw @b9 (tw @Jh (tw @Bool.not_true @Bool.not_false))))))) ?_;(repeat(refine Pn.mk ?_;intro N hN))))
   have mY:=nP cnt _ kQ hplt
   have hkc:(k:Int)*(cnt:Int)<=1099511627776*1048576:=Int.mul_le_mul ab ab ab ab
   have hfb:=hF.bound (S:=fun v=>decide (v=x)) hxS hyS
   have hnear:=lG
   obtain⟨p,hp⟩:∃p,p=x::rs:=⟨_,rfl⟩
   have hmp:eN x::List.map eN rs=p.map eN:=by rw[hp];rfl
   rw[hmp]
   have MZ:1<=p.length:=by rw[hp];simp
   have R5:=hF.aug tY kQ fv hplt
   rw[<-hp]at R5 kQ fv hplt mY
   have Nb:p.take 1=[x]:=by rw[hp];rfl
   clear hmp tY
   refine aP (fun m env st=>∃i:Nat,m=p.length-i/\1<=i/\i<=p.length/\env 11=.int .i64 (i:Int)/\ni st.get X o1 o2 R1 R2 cnt c (lF f (p.take i))/\st_b.next<=st.next) (p.length-1) ⟨1,rfl,Nat.le_refl _,MZ,by(simp only[go_sem, ↓reduceIte,Nat.reduceEqDiff,Nat.reduceAdd,Nat.reduceSub,Nat.reduceLeDiff,reduceCtorEq])<;>rfl,by rw[Nb];exact bM,bt⟩ ?_
   rintro m env_c st_c ⟨i,rfl,JW,oZ,mU,cM,cn⟩ ckp
   have c0:=ckp 0 (by kernel_rfl)
   have c1:=ckp 1 (by kernel_rfl)
   have c2:=ckp 2 (by kernel_rfl)
   have c3:=ckp 3 (by kernel_rfl)
   have c9:=ckp 9 (by kernel_rfl)
   have ji:=ckp 10 (by kernel_rfl)
   simp only[go_sem, ↓reduceIte,Nat.reduceEqDiff,Nat.reduceAdd,Nat.reduceSub,Nat.reduceLeDiff,reduceCtorEq,b0,b1,b2,b3,b9]at c0 c1 c2 c3 c9 ji
   clear ckp
   have gy:(p.map eN).length=p.length:=by simp
   by_cases hi:(i:Int)<(p.length:Int)
   ·have fP:i<p.length:=ab
    have vH:=Eo (f:=f) JW fP
    obtain⟨a,ha⟩:∃a,a=p[i-1]'ab:=⟨_,rfl⟩
    obtain⟨b,hb⟩:∃b,b=p[i]:=⟨_,rfl⟩
    have Dt:a<cnt:=by rw[ha];exact hplt _ (List.getElem_mem _)
    have Du:b<cnt:=by rw[hb];exact hplt _ (List.getElem_mem _)
    have si:a≠b:=by
     rw[ha,hb]
     exact List.pairwise_iff_getElem.1 kQ (i-1) i ab fP ab
    have PT:(p.map eN)[i-1]? =some [.int .i64 (a:Int)]:=by rw[List.getElem?_map,List.getElem?_eq_getElem ab,ha];rfl
    have PU:(p.map eN)[i]? =some [.int .i64 (b:Int)]:=by rw[List.getElem?_map,List.getElem?_eq_getElem fP,hb];rfl
    rw[<-ha,<-hb]at vH
    have SN:=lG (p.take i) f a b
    have SO:=lG (p.take i) f b a
    rw[List.length_take]at SN SO
    have hl1:=blo b a
    have hl2:=blo a b
    have Qc:=hF.le a b Dt Du
    have OI:=hF.le b a Du Dt
    have hca:=hc a b Dt Du
    have Dv:=hc b a Du Dt
    generalize lF f (p.take i)=fl at *
    have gA:=qO (R:=R2) (n:=cnt) Dt
    have gB:=qO (R:=R2) (n:=cnt) Du
    have rA:=cM.r2 _ Dt
    have rB:=cM.r2 _ Du
    have cA:=dC (f:=fl a) Du
    have cB:=dC (f:=fl b) Dt
    have sA:=ny (f:=fl) (a:=a) (d:=1) Du
    have MX:bump fl a b 1 b=fl b:=jG fun h=>si h.symm
    have sB:=ny (f:=bump fl a b 1) (a:=b) (b:=a) (d:=-1) (n:=cnt) Dt
    rw[MX]at sB
    have gX:=cM.x
    have g2:=cM.t2
    have gj:(a:Int)<(cnt:Int):=ab
    have fC:(b:Int)<(cnt:Int):=ab
    have Gl:IntKind.i64.wrap ((i:Int)-1)=((i-1:Nat):Int):=by rw[aT ab];omega
    have wz:((i-1:Nat):Int)<(p.length:Int):=ab
    have wA:IntKind.i64.wrap (fl a b+1)=fl a b+1:=aT ab
    have wB:IntKind.i64.wrap (fl b a-1)=fl b a+-1:=by rw[aT ab];omega
    have Qi:IntKind.i64.wrap ((i:Int)+1)=((i+1:Nat):Int):=ay ab
    have l2:=jN R2 cnt cnt
    have lA:=dt (fl a) cnt
    have lB:=dt (fl b) cnt
    have gY:(R2 a=R2 b)=False:=by simp only[eq_iff_iff,iff_false];exact fun h=>si (I.i2 _ _ Dt Du h)
    have Hu:(R2 b=R2 a)=False:=by simp only[eq_iff_iff,iff_false];exact fun h=>si (I.i2 _ _ Dt Du h.symm)
    have xA:=yz I.sx (I.LJ a Dt) (by decide)
    have xB:=yz I.sx (I.LJ b Du) (by decide)
    have yA:=yz I.s2 (I.LJ a Dt) (by decide)
    have yB:=yz I.s2 (I.LJ b Du) (by decide)
    have qX:=eP (i:=X) (n:=st_c.next) (by have:=I.vx;omega)
    have q2:=eP (i:=o2) (n:=st_c.next) (by have:=I.v2;omega)
    have qA:=eP (i:=R2 a) (n:=st_c.next) (by have:=I.QH a Dt;omega)
    have qB:=eP (i:=R2 b) (n:=st_c.next) (by have:=I.QH b Du;omega)
    rw[au]at cA cB sA sB
    (try((repeat(revert hN;revert N;apply Pn.out));refine wk (tw @c0 (tw @c9 (tw @ji (tw @mU (tw @gy (tw @hi (tw @wz (tw @PT (tw @PU (tw @gA (tw @gB (tw @rA (tw @rB (tw @cA (tw @cB (tw @sA (tw @sB (tw @gX (tw @g2 (tw @gj (tw @fC (tw @Gl (tw @wA (tw @wB (tw @Qi (tw @l2 (tw @lA (tw @lB (tw @gY (tw @Hu (tw @xA (tw @xB (tw @yA (tw @yB (tw @qX (tw @q2 (tw @qA @qB))))))))))))))))))))))))))))))))))))) ?_;(repeat(refine Pn.mk ?_;intro N hN))))
    refine⟨_,?_,i+1,rfl,ab,ab,sd @Qi,?_,bt⟩
    ·omega
    ·rw[vH]
     refine cM.push I Dt Du si ?_ ?_ fun j hj h1 h2=>?_
     ·simp only[go_sem, ↓reduceIte,Nat.reduceEqDiff,Nat.reduceAdd,Nat.reduceSub,Nat.reduceLeDiff,reduceCtorEq,gY]
     ·simp only[go_sem, ↓reduceIte,Nat.reduceEqDiff,Nat.reduceAdd,Nat.reduceSub,Nat.reduceLeDiff,reduceCtorEq,gY]
     ·simp only[go_sem, ↓reduceIte,Nat.reduceEqDiff,Nat.reduceAdd,Nat.reduceSub,Nat.reduceLeDiff,reduceCtorEq,h1,h2]
   ·have Je:i=p.length:=ab
    subst Je
    rw[List.take_length]at cM
    have Ng:IntKind.i64.wrap ((k:Int)+1)=((k+1:Nat):Int):=ay ab
    have Sv:=R5.bound (S:=fun v=>decide (v=x)) hxS hyS
    (try((repeat(revert hN;revert N;apply Pn.out));refine wk (tw @c0 (tw @c9 (tw @ji (tw @mU (tw @gy (tw @hi @Ng)))))) ?_;(repeat(refine Pn.mk ?_;intro N hN))))
    refine⟨_,?_,k+1,_,rfl,sd @Ng,by rw[Int.natCast_add];exact R5,cM,bt,fun _=>ab,fun u v=>?_⟩
    ·rw[<-S6]at Sv;omega
    ·have h1:=(lG p f u v).2
     have h2:=blo u v
     rw[Int.natCast_add,Int.add_mul]
     omega
theorem NH (cnt:Nat) (tZ:1<=cnt) (hn:cnt<=1048576) (c:Nat->Nat->Int) (hc:∀u v,u<cnt->v<cnt->0<=c u v/\c u v<=16777216) (x y:Nat) (hx:x<cnt) (hy:y<cnt) (Ni:x≠y) (t:Int) (ht:t<=1099511627776)
  (X o1 o2:Id) (R1 R2:Nat->Id) (nb:Nat) (I:Ei X o1 o2 R1 R2 cnt nb) (σ:ax) (hM:ni σ.get X o1 o2 R1 R2 cnt c (fun _ _=>0)) (JZ:nb<=σ.next):
  Call Tryz.prog 175 [.ptr X 0 0,.int .i64 x,.int .i64 y,.int .i64 t] σ fun r σ'=>∃val:Int,r=.int .i64 val/\(val<t↔∃S:Nat->Bool,S x=true/\S y=false/\lI cnt S c<t)/\σ.next<=σ'.next:=by
 refine aO _ _ _ _ _ (fun r σ1 hq=>?_) (NI cnt tZ hn c hc x y hx hy Ni t ht X o1 o2 R1 R2 nb I σ hM JZ)
 obtain⟨k,f,rfl,hF,_,hS,hle⟩:=hq
 refine⟨(k:Int),rfl,⟨fun h=>?_,fun⟨S',h1,h2,h3⟩=>by have:=hF.bound h1 h2;omega⟩,hle⟩
 rcases hS with⟨S,JN,JO,Ot⟩|h2
 ·exact⟨S,JN,JO,by rw[<-hF.full JN JO Ot];exact h⟩
 ·omega
noncomputable def sj (n:Nat) (bs:List PB) (t:Int):Bool:=@decide (kd n bs t) (Classical.propDecidable _)
theorem wE {n:Nat} {bs:List PB} {t:Int} (h:kd n bs t):true=sj n bs t:=by simp[sj,h]
theorem zZ {n:Nat} {bs:List PB} {t:Int} (h:¬kd n bs t):false=sj n bs t:=by simp[sj,h]
theorem J1 (cnt:Nat) (hn:cnt<=1048576) (bs:List PB) (hb:∀b∈bs,b.a<cnt/\b.b<cnt) (ew:∀b∈bs,0<=b.s/\b.s<=4) (pO:bs.length<=1048576) (t:Int) (ht:t<=1099511627776):
  ae Tryz.prog 155 [.int .i64 cnt,.sl (bs.map aA),.int .i64 t] (.bool (sj cnt bs t)):=by
 refine ae.body dK rfl fun hl n0=>?_
 clear hl
 have jA:=yn bs (fun _ _=>0) (fun b h=>(ew b h).1) (fun _ _=>Int.le_refl _)
 have hle:=room_le bs (fun _ _=>0) 0 (fun b h=>(ew b h).2) (fun _ _=>Int.le_refl _) (Int.le_refl _)
 have fv:bs.foldl mQ (fun _ _=>0)=kC bs:=rfl
 rw[fv]at jA hle
 (try((repeat(revert hN;revert N;apply Pn.out));refine wk @Nat.zero_add ?_;(repeat(refine Pn.mk ?_;intro N hN))))
 refine aP (fun m env st=>∃y:Nat,m=cnt+1-y/\1<=y/\env 7=.int .i64 (y:Int)/\y<=cnt+1/\∀z,1<=z->z<y->z<cnt->∀S:Nat->Bool,S 0=true->S z=false->t<=iK S bs) (cnt+1-1) ⟨1,rfl,Nat.le_refl _,by(simp only[go_sem, ↓reduceIte,Nat.reduceEqDiff,Nat.reduceAdd,Nat.reduceSub,Nat.reduceLeDiff,reduceCtorEq])<;>rfl,ab,fun z h1 h2=>ab⟩ ?_
 rintro m env_b st_b ⟨y,rfl,hy1,b7,hyl,dk⟩ bkp
 have b0:=bkp 0 (by kernel_rfl)
 have b1:=bkp 1 (by kernel_rfl)
 have b2:=bkp 2 (by kernel_rfl)
 simp only[go_sem, ↓reduceIte,Nat.reduceEqDiff,Nat.reduceAdd,Nat.reduceSub,Nat.reduceLeDiff,reduceCtorEq]at b0 b1 b2
 clear bkp
 by_cases hy:(y:Int)<(cnt:Int)
 ·have hyn:y<cnt:=ab
  (try((repeat(revert hN;revert N;apply Pn.out));refine wk (tw @b0 (tw @b1 (tw @b2 (tw @b7 @hy)))) ?_;(repeat(refine Pn.mk ?_;intro N hN))))
  refine .inr (aO _ _ _ _ _ (fun r σ1 hq=>?_) (Aw cnt ab hn bs hb ew pO _))
  obtain⟨X,o1,o2,R1,R2,rfl,I,JY,hM,_⟩:=hq
  refine hN _ _ ?_
  clear hN N
  (try((repeat(revert hN;revert N;apply Pn.out));refine wk (tw @b0 (tw @b1 (tw @b2 @b7))) ?_;(repeat(refine Pn.mk ?_;intro N hN))))
  have hsd:=NH cnt ab hn (kC bs) (fun u v _ _=>⟨jA u v,by have:=hle u v;omega⟩) 0 y ab hyn ab t ht X o1 o2 R1 R2 σ1.next I
  refine .inr (aO _ _ _ _ _ (fun r σ2 hq=>?_) (hsd _ hM bt))
  obtain⟨val,rfl,qn,me⟩:=hq
  refine hN _ _ ?_
  clear hN N
  by_cases dD:val<t
  ·(try((repeat(revert hN;revert N;apply Pn.out));refine wk (tw @b0 (tw @b1 (tw @b2 (tw @b7 @dD)))) ?_;(repeat(refine Pn.mk ?_;intro N hN))))
   obtain⟨S,h1,h2,h3⟩:=qn.1 dD
   rw[zp hb]at h3
   exact aC (b:=false) (.inl rfl) (sd @Nat.zero_add) (zZ fun h=>by have:=h S h1 ⟨y,hyn,h2⟩;omega)
  ·have hw:IntKind.i64.wrap ((y:Int)+1)=((y+1:Nat):Int):=ay ab
   (try((repeat(revert hN;revert N;apply Pn.out));refine wk (tw @b0 (tw @b1 (tw @b2 (tw @b7 (tw @dD @hw))))) ?_;(repeat(refine Pn.mk ?_;intro N hN))))
   refine⟨_,?_,y+1,rfl,ab,sd (tw @b7 @hw),ab,fun z h1 h2 h3 S JN JO=>?_⟩
   ·omega
   ·by_cases hzy:z=y
    ·subst hzy
     rcases Int.lt_or_le (iK S bs) t with h|h
     ·exact absurd (qn.2 ⟨S,JN,JO,by rw[zp hb];exact h⟩) dD
     ·exact h
    ·exact dk z h1 ab h3 S JN JO
 ·(try((repeat(revert hN;revert N;apply Pn.out));refine wk (tw @b0 (tw @b1 (tw @b2 (tw @b7 @hy)))) ?_;(repeat(refine Pn.mk ?_;intro N hN))))
  exact aC (b:=true) (.inl rfl) (sd @Nat.zero_add) (wE fun S h0 ⟨z,hz,hzf⟩=>by
   have:z≠0:=by rintro rfl;rw[h0]at hzf;cases hzf
   exact dk z ab ab hz S h0 hzf)
theorem Hv (cnt:Nat) (hn:cnt<=1048576) (bs:List PB) (hb:∀b∈bs,b.a<cnt/\b.b<cnt) (ew:∀b∈bs,0<=b.s/\b.s<=4) (pO:bs.length<=1048576) (t:Int) (ht:t<=1099511627776):
  ae Tryz.prog 155 [.int .i64 cnt,yv bs,.int .i64 t] (.bool (sj cnt bs t)):=by
 have h:=J1 cnt hn bs hb ew pO t ht
 cases bs with
 |nil=>exact h.cut mixed (.same _ (.bK (.same _ .nil)))
 |cons b r=>rw[yw (by simp)];exact h
def A5:Prop:=∀(s:ar) (l:List aq),l5 s->re s l->ae Tryz.prog 154 [.agg (aa s),.agg [.sl (l.map ai)]] (yv (cv s l))
noncomputable def s6 (s:ar) (l:List aq) (t:Int):Bool:=if 64<gT s l t then false else sj (gT s l t) (di (dS (aJ t (cv s l))) (cv s l)) t
theorem B9 (s:ar) (l:List aq) (t:Int):s6 s l t=mP s l t:=by
 letI:=Classical.propDecidable (od l.length (cv s l) t)
 unfold s6
 by_cases h:64<gT s l t
 ·rw[if_pos h]
  exact(lT (p:=False) ⟨False.elim,fun k=>by have:=k.1;unfold gT at h;omega⟩).symm.trans (by simp) |>.symm
 ·rw[if_neg h]
  by_cases hp:kd (gT s l t) (di (dS (aJ t (cv s l))) (cv s l)) t
  ·rw[<-wE hp]
   exact((lT (p:=True) ⟨fun _=>⟨by unfold gT at h;omega,hp⟩,fun _=>trivial⟩).symm.trans (by simp)).symm
  ·rw[<-zZ hp]
   exact((lT (p:=False) ⟨False.elim,fun k=>hp k.2⟩).symm.trans (by simp)).symm
theorem IB (RY:A5) (s:ar) (l:List aq) (t:Int) (ht:t<=1099511627776) (h1:1<=l.length) (hS:l5 s) (hA:re s l):ae Tryz.prog 131 [.agg (aa s),.agg [.sl (l.map ai)],.int .i64 t] (.iN [.bool (mP s l t),.bool (decide ¬64<gT s l t)]):=by
 rw[<-B9]
 refine ae.body dK rfl fun hl n0=>?_
 clear hl
 have hb:=v5 (l:=l) hS
 have pO:=pd (s:=s) hA.1
 have PQ:=hA.1.Gc
 have zT:=RY s l hS hA
 have PM:=xw l.length h1 ab (cv s l) (fun b h=>⟨(hb b h).1,(hb b h).2.1⟩) ab t
 have hL:=so (aJ t (cv s l))
 have fP:=CG hL (fun b h=>⟨(hb b h).1,(hb b h).2.1⟩)
 have hlen:=(mm (dS (aJ t (cv s l))) (cv s l)).1
 have lu:=jt l.length (dS (aJ t (cv s l)))
 have hho:=Hv (gT s l t) (by unfold gT;omega) (di (dS (aJ t (cv s l))) (cv s l)) (fun b h=>⟨(fP b h).1,(fP b h).2.1⟩) (fun b h=>by
  obtain⟨_,_,_,c,hc,dq⟩:=fP b h
  rw[dq];have:=hb c hc;omega) ab t ht
 have fI:(l.map ai).length=l.length:=by simp
 have hzB:∀(g:Rows) (n:Nat) (bs:List PB),V.fz g (n+1) (yv bs)=some (yv bs):=fun g n bs=>by
  unfold yv;split
  ·exact aV _ _
  ·exact cj _ _ _
 rw[aa]at zT
 rw[<-gT]at PM
 have wJ:∀(g:Rows) (x:Int),cm (dE g) 6 [.int .i64 l.length,yv (cv s l),.int .i64 x]=some [.int .i64 l.length,yv (cv s l),.int .i64 x]:=fun g x=>by simp only[ad,aj,aI,hzB,Option.map_some]
 have hzh:∀(g:Rows) (x y:Int),cm (dE g) 6 [.int .i64 x,yv (di (dS (aJ t (cv s l))) (cv s l)),.int .i64 y]=some [.int .i64 x,yv (di (dS (aJ t (cv s l))) (cv s l)),.int .i64 y]:=fun g x y=>by simp only[ad,aj,aI,hzB,Option.map_some]
 generalize yv (cv s l)=B1 at *
 generalize yv (di (dS (aJ t (cv s l))) (cv s l))=B2 at *
 by_cases sG:(64:Int)<(gT s l t:Int)
 ·have sH:64<gT s l t:=ab
  (repeat(first|((repeat(revert hN;revert N;apply Pn.out));refine wk (tw @aa.eq_1 (tw @sG @fI)) ?_;(repeat(refine Pn.mk ?_;intro N hN)))|((try apply Or.inl);refine⟨_,ae.x (zT) (sd (tw @aa.eq_1 (tw @sG @fI))),?_⟩;refine hN _ _ ?_;clear hN N)))
  refine⟨_,ae.x PM (wJ _ _),?_⟩
  refine hN _ _ ?_
  clear hN N
  (try((repeat(revert hN;revert N;apply Pn.out));refine wk @sG ?_;(repeat(refine Pn.mk ?_;intro N hN))))
  exact jf (.inl rfl) (r1:=.bool false) (r2:=.bool false) (sd @Nat.zero_add) (sd @Nat.zero_add) (by rw[s6,if_pos sH,decide_eq_false fun h=>h sH];simp only[eY,br,bV,fa,Option.map_some])
 ·have sH:¬64<gT s l t:=ab
  (repeat(first|((repeat(revert hN;revert N;apply Pn.out));refine wk (tw @aa.eq_1 (tw @sG @fI)) ?_;(repeat(refine Pn.mk ?_;intro N hN)))|((try apply Or.inl);refine⟨_,ae.x (zT) (sd (tw @aa.eq_1 (tw @sG @fI))),?_⟩;refine hN _ _ ?_;clear hN N)))
  refine⟨_,ae.x PM (wJ _ _),?_⟩
  refine hN _ _ ?_
  clear hN N
  (try((repeat(revert hN;revert N;apply Pn.out));refine wk @sG ?_;(repeat(refine Pn.mk ?_;intro N hN))))
  refine .inl ⟨_,ae.x hho (hzh _ _ _),?_⟩
  refine hN _ _ ?_
  clear hN N
  (try((repeat(revert hN;revert N;apply Pn.out));refine wk @Nat.zero_add ?_;(repeat(refine Pn.mk ?_;intro N hN))))
  exact jf (.inl rfl) (r1:=.bool (sj (gT s l t) (di (dS (aJ t (cv s l))) (cv s l)) t)) (r2:=.bool true) (sd @Nat.zero_add) (sd @Nat.zero_add) (by rw[s6,if_neg sH,decide_eq_true sH];simp only[eY,br,bV,fa,Option.map_some])
theorem sK (t:Int):ae Tryz.prog 130 [.int .i64 t] (.bool (fJ t 1 16)):=by
 refine ae.body dK rfl fun hl n0=>?_
 clear hl
 have h:=iu t 1 16
 (repeat(first|((repeat(revert hN;revert N;apply Pn.out));refine wk @Nat.zero_add ?_;(repeat(refine Pn.mk ?_;intro N hN)))|((try apply Or.inl);refine⟨_,ae.x (h) (sd @Nat.zero_add),?_⟩;refine hN _ _ ?_;clear hN N)))
 exact aC (b:=fJ t 1 16) (.inl rfl) (sd @Nat.zero_add) rfl
theorem vd (RY:A5) (s:cl) (hn:fA s.aE) (hg:s.aE.aw.length<=1048576) (ht:s.aE.ah.length<=1048576) (hs:∀t∈s.aE.ah,t.bp.length<=1048576) (hl:s.bZ.ah.length<=1048576):ae Tryz.prog 72 [.agg (az s)] (.bool (mv s)):=by
 refine ae.body dK rfl fun vC n0=>?_
 clear vC
 by_cases h0:(s.bZ.ah.length:Int)=0
 ·have hd:decide ((s.bZ.ah.length:Int)=0)=true:=decide_eq_true h0
  (try((repeat(revert hN;revert N;apply Pn.out));refine wk (tw @az.eq_1 @hd) ?_;(repeat(refine Pn.mk ?_;intro N hN))))
  exact aC (b:=false) (.inl rfl) (sd @Nat.zero_add) (jD fun h=>by have:=h.some;omega)
 have hd:decide ((s.bZ.ah.length:Int)=0)=false:=decide_eq_false h0
 have MH:=mL s.aE s.bZ.ah hn hg ht hs hl
 have PE:=sK s.aH
 have key:ae Tryz.prog 101 [.agg (aa s.aE),.agg [.sl (s.bZ.ah.map ai)],.int .i64 s.aH] (.iN [.bool (mv s),.int .i64 (if pK s.aE&&oI s.aE s.bZ.ah then(if fJ s.aH 1 16 then(if 64<gT s.aE s.bZ.ah s.aH then 4 else 0)else 2)else 1)]):=by
  refine ae.body dK rfl fun vC n0=>?_
  clear vC
  rw[aa]at MH
  cases hA:pK s.aE&&oI s.aE s.bZ.ah
  ·rw[hA]at MH
   have lg:mv s=false:=(jD fun h=>by rw[lR.2 h.set,lE.2 h.NG]at hA;cases hA).symm
   (repeat(first|((repeat(revert hN;revert N;apply Pn.out));refine wk @aa.eq_1 ?_;(repeat(refine Pn.mk ?_;intro N hN)))|((try apply Or.inl);refine⟨_,ae.x (MH) (sd @aa.eq_1),?_⟩;refine hN _ _ ?_;clear hN N)))
   exact jf (.inl rfl) (r1:=.bool false) (r2:=.int .i64 1) (sd @Nat.zero_add) (sd @Nat.zero_add) (by rw[lg];simp only[eY,br,bV,fa,eC,Option.map_some];rfl)
  rw[hA]at MH
  simp only[Bool.and_eq_true]at hA
  have hS:=lR.1 hA.1
  have hP:=lE.1 hA.2
  cases hT:fJ s.aH 1 16
  ·rw[hT]at PE
   have lg:mv s=false:=(jD fun h=>by have:=h.NO;rw[hT]at this;cases this).symm
   (repeat(first|((repeat(revert hN;revert N;apply Pn.out));refine wk @aa.eq_1 ?_;(repeat(refine Pn.mk ?_;intro N hN)))|((try apply Or.inl);refine⟨_,ae.x (MH) (sd @aa.eq_1),?_⟩;refine hN _ _ ?_;clear hN N)|((try apply Or.inl);refine⟨_,ae.x (PE) (sd @aa.eq_1),?_⟩;refine hN _ _ ?_;clear hN N)))
   exact jf (.inl rfl) (r1:=.bool false) (r2:=.int .i64 2) (sd @Nat.zero_add) (sd @Nat.zero_add) (by rw[lg];simp only[eY,br,bV,fa,eC,Option.map_some];rfl)
  have J7:=dB hT
  rw[hT]at PE
  have ew:=IB RY s.aE s.bZ.ah s.aH ab ab hS hP
  rw[aa]at ew
  have hsy:mv s=mP s.aE s.bZ.ah s.aH:=by
   cases hB:mP s.aE s.bZ.ah s.aH
   ·exact(jD fun h=>by have:=oB.2 h.holds;rw[hB]at this;cases this).symm
   ·exact(AI ⟨hS,hP,ab,hT,oB.1 hB⟩).symm
  by_cases sG:64<gT s.aE s.bZ.ah s.aH
  ·rw[decide_eq_false fun h=>h sG]at ew
   have lg:mv s=false:=(jD fun h=>by have:=h.holds.1;unfold gT at sG;omega).symm
   (repeat(first|((repeat(revert hN;revert N;apply Pn.out));refine wk @aa.eq_1 ?_;(repeat(refine Pn.mk ?_;intro N hN)))|((try apply Or.inl);refine⟨_,ae.x (MH) (sd @aa.eq_1),?_⟩;refine hN _ _ ?_;clear hN N)|((try apply Or.inl);refine⟨_,ae.x (PE) (sd @aa.eq_1),?_⟩;refine hN _ _ ?_;clear hN N)|((try apply Or.inl);refine⟨_,ae.x (ew) (sd @aa.eq_1),?_⟩;refine hN _ _ ?_;clear hN N)))
   exact jf (.inl rfl) (r1:=.bool false) (r2:=.int .i64 4) (sd @Nat.zero_add) (sd @Nat.zero_add) (by rw[lg,if_pos sG];simp only[eY,br,bV,fa,eC,Option.map_some])
  ·rw[decide_eq_true sG,<-hsy]at ew
   (repeat(first|((repeat(revert hN;revert N;apply Pn.out));refine wk @aa.eq_1 ?_;(repeat(refine Pn.mk ?_;intro N hN)))|((try apply Or.inl);refine⟨_,ae.x (MH) (sd @aa.eq_1),?_⟩;refine hN _ _ ?_;clear hN N)|((try apply Or.inl);refine⟨_,ae.x (PE) (sd @aa.eq_1),?_⟩;refine hN _ _ ?_;clear hN N)|((try apply Or.inl);refine⟨_,ae.x (ew) (sd @aa.eq_1),?_⟩;refine hN _ _ ?_;clear hN N)))
   exact jf (.inl rfl) (r1:=.bool (mv s)) (r2:=.int .i64 0) (sd @Nat.zero_add) (sd @Nat.zero_add) (by rw[if_neg sG];simp only[eY,br,bV,fa,eC,Option.map_some])
 generalize hcode:(if pK s.aE&&oI s.aE s.bZ.ah then(if fJ s.aH 1 16 then(if 64<gT s.aE s.bZ.ah s.aH then(4:Int)else 0)else 2)else 1)=code at key
 rw[aa]at key
 cases hB:mv s
 ·rw[hB]at key
  (repeat(first|((repeat(revert hN;revert N;apply Pn.out));refine wk (tw @az.eq_1 @hd) ?_;(repeat(refine Pn.mk ?_;intro N hN)))|((try apply Or.inl);refine⟨_,ae.x (key) (sd (tw @az.eq_1 @hd)),?_⟩;refine hN _ _ ?_;clear hN N)))
  exact aC (b:=false) (.inl rfl) (sd @Nat.zero_add) rfl
 ·rw[hB]at key
  have hP:=uP.1 hB
  have hc:code=0:=by
   rw[<-hcode,lR.2 hP.set,lE.2 hP.NG,hP.NO]
   have:=hP.holds.1
   simp only[Bool.and_self,if_true]
   rw[if_neg (by unfold gT;omega)]
  rw[hc]at key
  (repeat(first|((repeat(revert hN;revert N;apply Pn.out));refine wk (tw @az.eq_1 @hd) ?_;(repeat(refine Pn.mk ?_;intro N hN)))|((try apply Or.inl);refine⟨_,ae.x (key) (sd (tw @az.eq_1 @hd)),?_⟩;refine hN _ _ ?_;clear hN N)))
  exact aC (b:=true) (.inl rfl) (sd @Nat.zero_add) rfl
end Go.Proofs.YtihgaadadaekmaaGreatDoor.V

namespace Go.Proofs.YtihgaadadaekmaaGreatDoor.V
open Go.RowKit
variable {P:Program} {hs:Nat}
theorem F8 {q n i:Nat} {ops:Array Oper} {Q:Exit->Act->World->Prop} {K K':Act->World->Prop} {a:Act} {w:World} (kQ:∀(j:Nat) (o:Oper),ops[j]? =some o->∀c,o.op≠.defer c) (lg:¬LetsOut Q) (hK:∀a w,K a w->K' a w) (h:wpOp P ops Q i K a w):wpOpIn (Fence.wide.inRound q) n P ops Q i K' a w:=by
 unfold wpOp at h
 unfold wpOpIn
 split at h
 ·rename_i ho;simp only[ho];exact hK _ _ h
 ·rename_i o ho
  simp only[ho]
  split at h
  ·rename_i hw
   rw[if_pos hw]
   replace h:=h.resolve_right fun hc=>lg hc.2
   refine⟨fun _ _=>trivial,?_⟩
   rw[Oper.semAt_eq _ _ _ (kQ i o ho)]
   unfold Oper.wp at h
   generalize (execOp a.eval o).run P w=r at *
   cases r with
   |ok m w'=>
    cases m<;>simp only[Oper.upon,Oper.uponIn]at h ⊢
    case value=>exact hK _ _ h
    case skip=>exact hK _ _ h
    case defer=>exact hK _ _ h
    case enter f args=>
     refine⟨fun h=>by simp[Fence.wide]at h,CallsIn.inRound q (callsIn_wide.2 (h.mono fun e Jq he=>?_))⟩
     cases e with
     |returned v=>exact hK _ _ he
     |panicked c=>exact he
     |outgrown=>exact he
    case row r args=>exact⟨fun h=>by simp[Fence.wide]at h,fun c cs _=>let ⟨v,Jq,h1,s⟩:=h c cs;⟨v,Jq,hK _ _ h1,stepsIn_wide.2 s⟩⟩
   |halt x w'=>cases x<;>simp only[Oper.upon,Oper.uponIn]at h ⊢;exact h
  ·rename_i hw
   rw[if_neg hw]
   exact⟨fun _ _=>trivial,hK _ _ h⟩
theorem uY {q n:Nat} {md:Region.Mode} {ops:Array Oper} {Q:Exit->Act->World->Prop} (kQ:∀(j:Nat) (o:Oper),ops[j]? =some o->∀c,o.op≠.defer c) (lg:¬LetsOut Q):∀(fuel:Nat) (listed:Array Bool) (a:Act) (w:World),wpAny P md ops Q fuel listed a w->wpAnyIn (Fence.wide.inRound q) n P md ops Q fuel listed a w
 |0,_,_,_,h=>h
 |fuel+1,listed,_,_,h=>⟨h.1,fun i hi=>F8 kQ lg (fun a w=>uY kQ lg fuel _ a w) (h.2 i hi)⟩
def DL:Op->Bool
 | .defer _=>true
 |_=>false
theorem Ic {ops:Array Oper} (h:(ops.all fun o=> !DL o.op)=true):∀(j:Nat) (o:Oper),ops[j]? =some o->∀c,o.op≠.defer c:=fun j o hj c hc=>by
 have:=Array.all_eq_true_iff_forall_mem.1 h o (Array.mem_of_getElem? hj)
 rw[hc]at this
 simp[DL]at this
theorem ym (hm:P.follows .mixedOrders=true) {nt site0 id q n:Nat} {ops:Array Oper} {vl:List bl} (h:qa P nt site0 ops true false=some vl) (kQ:∀(j:Nat) (o:Oper),ops[j]? =some o->∀c,o.op≠.defer c)
  {K:Env->ax->Prop} {env:Env} {σ:ax} {a:Act} {w:World} {D:Nat->Prop} {ι:Names} {Q:Exit->Act->World->Prop} (hv:wpOps (Sound P) true vl K env σ) (ew:St P hs nt D ι env σ a w)
  (hK:∀hZ σ' a' w' D' ι',K hZ σ'->Step hs D ι w D' ι' w'->St P hs nt D' ι' hZ σ' a' w'->a'.defers=a.defers->Q .normal a' w'):(Code.region id ops true).wpIn (Fence.wide.inRound q) n P Q a w:=by
 have dk:∃hidden rW,allM (lH P ops nt site0 true false (jj ops) hidden) ops.toList 0=some rW/\vl=rW/\nD ops rW (jj ops)=true:=by
  unfold qa at h
  simp only[if_true,Bool.not_true,Bool.false_or]at h
  split at h
  ·rename_i rW h'
   split at h
   ·rename_i ub;simp at h;exact⟨_,rW,h',h.symm,ub⟩
   ·cases h
  ·cases h
 obtain⟨hidden,rW,dk,rfl,ub⟩:=dk
 obtain⟨qm,T0⟩:=ew.drew
 obtain⟨hlen,_⟩:=nu dk
 have kj:vl.length=ops.size:=by rw[hlen];simp
 have BO:=uX (X:=Sound P) (K:=K) (n:=σ.next) ub kj vl 0 (Array.replicate ops.size false) env σ.get (by simp) (by simp) (fun i hi=>by simp[hi]) (by simp[kj]) (fun k i h=>by
  exfalso
  rcases Nat.lt_or_ge k ops.size with hk|hk
  ·simp[hk]at h
  ·simp[Nat.not_lt.2 hk]at h) hv
 rw[kj]at BO
 have hw:=vV (Q:=fun e a w=>e=.normal/\Q .normal a w) dk ops.size _ env σ.get a w.drew D ι (fun _=>False) BO qm.Jp qm.used (fun _ h=>h.elim) qm.env qm.size fun jI g1 a1 w1 D1 ι1 U1 hk T S1 RB E1 yW hd=>⟨rfl,hK jI ⟨g1,σ.next+1⟩ a1 w1 D1 ι1 hk (T0.trans T) ⟨S1,RB.next,E1,yW⟩ hd⟩
 have fP:=uY (q:=q) (n:=n) (Q:=fun e a w=>e=.normal/\Q .normal a w) kQ (by rintro⟨_,_,hc,_⟩;cases hc) ops.size _ a w.drew hw
 refine wpIn_mono (wpIn_region_any (id:=id) hm fP) ?_
 rintro e a w ⟨rfl,h⟩
 exact h
end Go.Proofs.YtihgaadadaekmaaGreatDoor.V

namespace Go.Proofs.YtihgaadadaekmaaGreatDoor.V
open Go.RowKit Go.Shelf
attribute [local go_sem] Oper.semAt_some
def gO (n₀:Nat) (W W':World):Prop:=W.heap.size<=W'.heap.size/\(∀(b:Nat) (cells:Array Value) (T:TypeId) (fr:Nat×Nat),W.heap[b]? =some (Obj.cells cells T fr)->T≠177->T≠196->W'.heap[b]? =W.heap[b]?)/\∀k,k<n₀->k<W.heap.size->W'.heap[k]? =W.heap[k]?
theorem gO.trans {n₀:Nat} {A B C:World} (h:gO n₀ A B) (k:gO n₀ B C):gO n₀ A C:=⟨Nat.le_trans h.1 k.1,fun b cells T fr hb h1 h2=>by
 have e:=h.2.1 b cells T fr hb h1 h2
 rw[<-e]at hb ⊢
 exact k.2.1 b cells T fr hb h1 h2,fun b hb hs=>(k.2.2 b hb (Nat.lt_of_lt_of_le hs h.1)).trans (h.2.2 b hb hs)⟩
theorem gO.of {n₀:Nat} {W W':World} (h:Below W.heap.size W W'):gO n₀ W W':=⟨h.size,fun b cells T fr hb _ _=>h.block b (Array.getElem?_eq_some_iff.1 hb).1,fun k _ hs=>h.block k hs⟩
theorem gO.refl (n₀:Nat) (W:World):gO n₀ W W:=⟨Nat.le_refl _,fun _ _ _ _ _ _ _=>rfl,fun _ _ _=>rfl⟩
theorem gO.b {n₀ m:Nat} (hm:n₀<=m) (W:World) (l:Nat) (o o':Obj) (hl:m<=l) (h:W.heap[l]? =some o) (hc:o.isCells=false) (_:o.isWalk=false):gO n₀ W (W.putObj l o'):=by
 refine⟨by simp,fun b cells T fr hb _ _=>?_,fun k hk _=>World.putObj_heap_other ab⟩
 by_cases pO:b=l
 ·subst pO;rw[h]at hb;cases hb;cases hc
 ·exact World.putObj_heap_other pO
def Jw (bs:List PB):List Value:=bs.flatMap fun b=>[.int .i64 b.a,.int .i64 b.b,.int .i64 b.s]
theorem GN (bs:List PB) (b:PB):Jw (bs++[b])=Jw bs++[.int .i64 b.a,.int .i64 b.b,.int .i64 b.s]:=by simp[Jw]
def mT (s:ar) (l:List aq) (pre:List (LS l)):List PB:=(pre.map (·.1)).flatMap (xn s l)
theorem v3 (s:ar) (l:List aq) (pre:List (LS l)) (x:LS l):mT s l (pre++[x])=mT s l pre++xn s l x.1:=by simp[mT]
theorem GM (s:ar) (l:List aq) (x:Nat×Nat×Int):(xn s l x).length<=1:=by
 unfold xn;split<;>simp
theorem GO (s:ar) (l:List aq) (pre:List (LS l)):(mT s l pre).length<=pre.length:=by
 unfold mT
 induction pre with
 |nil=>simp
 |cons x r ih=>
  have:=GM s l x.1
  simp only[List.map_cons,List.flatMap_cons,List.length_append,List.length_cons]at ih ⊢
  omega
theorem wT (l:List aq) (i:Nat):∀m,(kq l i m).length<=m
 |0=>by simp[kq]
 |m+1=>by
  rw[mj,List.length_append]
  have:=wT l i m
  have:(Au l i (1-(m:Int))).length<=1:=by unfold Au;split<;>simp
  omega
theorem Av (l:List aq):∀n,(kT l n).length<=n*2
 |0=>by simp[kT]
 |n+1=>by
  rw[lP,List.length_append]
  have:=Av l n
  have:=wT l n 2
  omega
theorem zU {β:Type} (B:Nat) (c:Array Value) (t:TypeId) (fr:Nat×Nat):Own (fun(_:β) W=>W.heap[B]? =some (.cells c t fr)):=fun _ X _ row h hg hr=>(hg.block B (Array.getElem?_eq_some_iff.1 h).1 (fun e=>by
 obtain⟨o,ho,hc⟩:=hr B e.symm
 rw[h]at ho;cases ho;cases hc)).trans h
theorem gO.app {n₀:Nat} {W w1:World} {B k:Nat} {v v':Value} {xs:List Value} {tmp:Obj} (hv:Boxed W B 177 v) (fI:W.ownsRow n₀ 196 3 v k xs) (Dx:(W.alloc tmp).grownBy w1 v.ownBlock) (hb:Below n₀ W (w1.setCell ⟨B,0,none⟩ v')):gO n₀ W (w1.setCell ⟨B,0,none⟩ v'):=by
 refine⟨hb.size,fun b cells T fr h h1 h2=>?_,fun k hk _=>hb.block k hk⟩
 have dD:=(Array.getElem?_eq_some_iff.1 h).1
 have hbB:b≠B:=by
  rintro rfl
  rw[show W.heap[b]? = _ from hv]at h
  cases h
  exact h1 rfl
 have Q6:some b≠v.ownBlock:=by
  rcases fI.2 with⟨rfl,_⟩|⟨g,cap,cur,rfl,_,hg,_⟩
  ·simp[Value.ownBlock]
  ·intro e
   obtain rfl:b=g:=by simpa[Value.ownBlock]using e
   rw[hg]at h;cases h
   exact h2 rfl
 refine(Below.heap_setCell w1 ⟨B,0,none⟩ v' b hbB).trans ?_
 exact(Dx.block b (by simp;omega) Q6).trans (Below.heap_alloc W tmp b dD)
theorem Qq {w:World} {vS:Value} {l:List aq} (hP:oE w vS l):Gx (gO w.heap.size) vS l where
 refl:=gO.refl _
 trans:=gO.trans
 of:=gO.of
 size h:=h.1
 typed h:=h.2.1
 pl {W W'} h hp:=by
  obtain⟨A,c,rfl,hm,hc⟩:=hp.sl
  refine⟨A,c,rfl,hm,?_⟩
  by_cases hl:l=[]
  ·exact .inl hl
  have lh:0<l.length:=List.length_pos_iff.2 hl
  rcases hc with h0|⟨b,o,rfl,jU⟩
  ·exact absurd h0 hl
  obtain⟨A',c',e,_,ki⟩:=hP.sl
  cases e
  rcases ki with h0|⟨b',o',e,hcell'⟩
  ·exact absurd h0 hl
  cases e
  have hb:=sQ (hcell' 0 lh).1
  have hk:=h.2.2 b hb (sQ (jU 0 lh).1)
  refine .inr ⟨b,o,rfl,fun i hi=>?_⟩
  have xS:∀x,W'.cell? ⟨b,x,none⟩=W.cell? ⟨b,x,none⟩:=fun x=>World.cell?_of_block hk
  rw[xS,xS,xS]
  exact jU i hi
theorem rrE {P:Program} {nt site0:Nat} {ops:Array Oper} {vl:List bl} (_:xp P ops site0 false (jj ops) (qt P false ops.toList 0) ops.toList 0=some vl:=by(conv=>lhs;cbv)<;>exact rfl) (h:qa P nt site0 ops true false=some vl:=by kernel_rfl):qa P nt site0 ops true false=some vl:=h
theorem HR (l:List Value) (d:Value):l=(List.range l.length).map fun i=>(⟨l⟩:Array Value).getD i d:=by
 refine List.ext_getElem (by simp) fun i h1 h2=>?_
 simp[h1]
theorem Cu {X:fx} {d:Bool} {ops:List bl} {K:Env->ax->Prop} {env:Env} {σ:ax} (h:ea X (.eH d ops) (fun _=>K) env σ):wpOps X d ops K env σ:=h
theorem tD (W:World) (T:TypeId) (x y z:Value):∀(j:Nat) (u:Value),[x,y,z][j]? =some u->(W.alloc (.cells #[x,y,z] T)).cell? ((⟨W.heap.size,0,none⟩:Addr).add j)=some u:=fun j u h=>by
 have hb:(W.alloc (.cells #[x,y,z] T)).heap[W.heap.size]? =some (.cells #[x,y,z] T (0,0)):=World.alloc_heap_new _ _
 have e:∀k,(W.alloc (.cells #[x,y,z] T)).cell? ⟨W.heap.size,k,none⟩=(#[x,y,z]:Array Value)[k]? :=fun k=>by
  unfold World.cell?
  rw[show(W.alloc (.cells #[x,y,z] T)).heap[(⟨W.heap.size,k,none⟩:Addr).block]? = _ from hb]
  rfl
 rw[show(⟨W.heap.size,0,none⟩:Addr).add j=⟨W.heap.size,j,none⟩ by simp[Addr.add];exact fun h=>h.symm,e]
 simpa using h
def GV (n b:Nat):Names:=fun id=>if id=⟨1,0⟩then some ⟨n,2,2,none⟩else if id=⟨2,0⟩then some ⟨n+1,1,1,none⟩else if id=⟨3,0⟩then some ⟨n+1+1,1,1,none⟩else if id=⟨4,0⟩then some ⟨b,2,2,none⟩else if id=⟨5,0⟩then some ⟨n+1+1+1,1,1,none⟩else none
def Lg (s:ar) (l:List aq) (i k:Nat):Rows:=fun id=>if id=⟨1,0⟩then some ⟨false,2,[aa s]⟩else if id=⟨2,0⟩then some ⟨false,1,[[.sl (l.map ai)]]⟩else if id=⟨4,0⟩then some ⟨false,2,[[.int .i64 (i:Int),.int .i64 (k:Int)]]⟩else none
def L7 (s:ar) (l:List aq) (i k:Nat) (d:Int):Env:=cu [.agg (aa s),.agg [.sl (l.map ai)],.ptr ⟨1,0⟩ 0 0,.ptr ⟨2,0⟩ 0 0,.bK,.ptr ⟨3,0⟩ 0 0,.ptr ⟨4,0⟩ 0 0,.int .i64 d,.undef,.agg [.sl (l.map ai)],.fn 186 [.ptr ⟨5,0⟩ 0 0],.agg [.int .i64 (i:Int),.int .i64 (k:Int)],.int .i64 d]
theorem CC {P:Program} {W:World} {D:Nat->Prop} {ι:Names} {B:rY} {cells:Array Value} {T:TypeId} {cs:List AV} (hk:B.k=none) (hb:W.heap[B.b]? =some (.cells cells T (0,0))) (hC:cells.size=B.C) (hz:B.sz=cs.length) (hl:cs.length=cells.size) (hf:∀a∈cs,a.cell=true) (hr:∀(j:Nat) (a:AV),cs[j]? =some a->∃v,cells[j]? =some v/\cG P W D ι a v):ik P W D ι B ⟨false,cs.length,[cs]⟩:=
 kW.obj ⟨hz,⟨cells,T,hb,hC⟩,by simp;omega,fun c hc=>by simp at hc;rw[hc],fun c hc=>by simp at hc;rw[hc];exact hf,fun i j c a hi hj=>by
  match i,hi with
  |0,hi=>
   simp at hi;subst hi
   obtain⟨v,h1,h2⟩:=hr j a hj
   exact⟨v,by simp[World.cell?,hb,h1],h2⟩
  |i+1,hi=>simp at hi⟩ hk
theorem HG:(Tryz.prog.info? 196).map (fun i=>(i.zero,i.size,i.bytes))=some (some (.agg #[.int .i64 0,.int .i64 0,.int .i64 0]),3,24):=by kernel_rfl
end Go.Proofs.YtihgaadadaekmaaGreatDoor.V

namespace Go.Proofs.YtihgaadadaekmaaGreatDoor.V
open Go.RowKit Go.Shelf
attribute [local go_sem] Oper.semAt_some
attribute [local irreducible] ea wpOps gS Call
attribute [local go_sem] aM fQ eM gi gh cE upd cu K.av cL AV.cells AV.cell rowOf rowsOf part ld rowAt bY ck dI eh ij bL da eA gp e8 du eo cY cX dV dW bR bm cQ bQ cT cR ej er ek cP bW cZ ei bP aQ cV cC ig bw cH bS aX dG bu dL AV.undef bF bH dY ef dU ec cF ez eF cw ev eu cU cW List.getD_cons_zero List.getD_cons_succ List.getD_nil List.all_cons List.all_nil Bool.and_true Bool.true_and Bool.and_self Bool.not_true Bool.not_false Option.map_some Option.map_none Option.bind_some Option.bind_none List.length_cons List.length_nil List.take_succ_cons List.take_zero List.take_nil List.drop_succ_cons List.drop_zero List.drop_nil List.head?_cons List.map_cons List.map_nil List.getElem?_cons_zero List.getElem?_cons_succ List.cons_append List.nil_append List.append_nil List.length_map List.set_cons_zero List.set_cons_succ Nat.reduceMul eq_self Int.toNat_natCast Int.natCast_nonneg and_self true_and and_true decide_true decide_false Bool.false_eq_true Nat.zero_add Nat.add_zero List.contains_cons List.contains_nil Bool.or_false Bool.false_or beq_self_eq_true Nat.reduceBEq ne_eq not_true_eq_false not_false_eq_true Id.mk.injEq false_and and_false Nat.reduceLT Int.reduceLE Int.reduceLT Int.reduceToNat Int.reduceNeg Int.reduceAdd Nat.le_refl List.length_append beq_true beq_false Bool.not_eq_eq_eq_not or_false false_or dE ad aj aI bE cj aV bf aU bo cN bG
theorem GR (s:ar) (l:List aq) (hF:iG s) (hA:re s l) (w:World) (Ag At:Option Addr) (ng cg nt ct:Nat) (vS:Value) (hT:jh Tryz.prog w (fun b=>b<w.heap.size) (.agg (aa s)) (.agg #[.slice Ag ng cg,.slice At nt ct])) (hP:oE w vS l):
  CallsIn Fence.wide 5 Tryz.prog 154 #[.agg #[.slice Ag ng cg,.slice At nt ct],.agg #[vS]] w fun e W'=>∃v,e=.returned v/\W'.ownsRow w.heap.size 196 3 v (cv s l).length (Jw (cv s l))/\(v=.slice none 0 0↔cv s l=[])/\Below w.heap.size w W':=by
 obtain⟨A,cp,rfl,_,_⟩:=hP.sl
 obtain⟨i0,hi,Gn,yW,k7⟩:=info_parts HG
 refine callsIn_of_wp_marks Tryz.func154 rfl trivial ?_ rfl
 simp only[Tryz.ntmps154,List.size_toArray,List.length_cons,List.length_nil,Nat.reduceAdd,Nat.reduceSub,Array.replicate_succ,Array.replicate_zero,List.push_toArray,List.append_toArray,List.nil_append,List.cons_append]
 gi_wp2_with (refine⟨trivial,?_⟩;gi_at_call 172;refine(yj _ _ _).mono ?_;rintro e w' ⟨rfl,rfl⟩)
 have bT:((w.alloc (.cells #[.slice Ag ng cg,.slice At nt ct] 39)).heap[w.heap.size]?)=some (.cells #[.slice Ag ng cg,.slice At nt ct] 39 (0,0)):=World.alloc_heap_new _ _
 obtain⟨w1,pB⟩:∃w1,w.alloc (.cells #[.slice Ag ng cg,.slice At nt ct] 39)=w1:=⟨_,rfl⟩
 have OO:w1.heap.size=w.heap.size+1:=by rw[<-pB];simp
 have yQ:Below w.heap.size w w1:=by rw[<-pB];exact(Below.refl _ w).alloc (Nat.le_refl _) _
 rw[pB]at bT ⊢
 clear pB
 have bA:=Boxed.new w1 42 (.slice A l.length cp)
 have bO:=Boxed.new (w1.alloc (.cells #[.slice A l.length cp] 42)) 177 (.slice none 0 0)
 have bN:=Boxed.new ((w1.alloc (.cells #[.slice A l.length cp] 42)).alloc (.cells #[.slice none 0 0] 177)) 42 (.slice A l.length cp)
 replace bA:=(bA.alloc (.cells #[.slice none 0 0] 177)).alloc (.cells #[.slice A l.length cp] 42)
 replace bO:=bO.alloc (.cells #[.slice A l.length cp] 42)
 simp only[World.size_alloc,OO]at bA bO bN
 have oK:Below w1.heap.size w1 (((w1.alloc (.cells #[.slice A l.length cp] 42)).alloc (.cells #[.slice none 0 0] 177)).alloc (.cells #[.slice A l.length cp] 42)):=(((Below.refl _ w1).alloc (Nat.le_refl _) _).alloc (by simp) _).alloc (by simp;omega) _
 have fh:(((w1.alloc (.cells #[.slice A l.length cp] 42)).alloc (.cells #[.slice none 0 0] 177)).alloc (.cells #[.slice A l.length cp] 42)).heap.size=w.heap.size+4:=by simp;omega
 obtain⟨W0,hW0⟩:∃W0,((w1.alloc (.cells #[.slice A l.length cp] 42)).alloc (.cells #[.slice none 0 0] 177)).alloc (.cells #[.slice A l.length cp] 42)=W0:=⟨_,rfl⟩
 rw[hW0]at bA bO bN oK fh ⊢
 clear hW0
 have zR:Below w.heap.size w W0:=yQ.trans (oK.mono ab)
 replace bT:=(oK.block w.heap.size ab).trans bT
 have hP0:oE W0 (.slice A l.length cp) l:=hP.below zR
 have kl:=Qq hP
 have pO:=pd (s:=s) hA.1
 refine wpIn_rangeFunc_ownH (n:=5) rfl ab (gf:=186) (lb:= #[.pointer (some ⟨w.heap.size+1+1+1,0,none⟩)]) rfl trivial (enters_of Tryz.func186 (by kernel_rfl) rfl)
  (H9 l hA.1 (w.heap.size+1+1+1) (5-1) ab (.slice A l.length cp) (gO w.heap.size) kl W0 bN hP0) gO.trans (gO.b ab) (Below.refl _ _) (fun _=>rfl)
  (fun pre W=>((∃v,Boxed W (w.heap.size+1+1) 177 v/\W.ownsRow w.heap.size 196 3 v (mT s l pre).length (Jw (mT s l pre))/\(v=.slice none 0 0↔mT s l pre=[]))/\(Boxed W (w.heap.size+1) 42 (.slice A l.length cp)/\W.heap[w.heap.size]? =some (.cells #[.slice Ag ng cg,.slice At nt ct] 39 (0,0))))/\Below w.heap.size w W)
  (fun _ _ _=>False)
  (OwnFrom.and (OwnFrom.and (Own.from (holdsRow_own w.heap.size (w.heap.size+1+1) 177 196 3 (fun pre=>(mT s l pre).length) (fun pre=>Jw (mT s l pre)) (fun pre v=>v=.slice none 0 0↔mT s l pre=[])) _) (OwnFrom.and (Own.from (boxed_own _ _ _) _) (Own.from (zU _ _ _ _) _))) (ownFrom_below (Nat.le_refl _) ab))
  (fun _ _ _ _ _ hs _ _=>hs)
  ⟨⟨⟨_,bO,World.ownsRow_nil _ _ _ _,by simp[mT]⟩,bA,bT⟩,zR⟩
  (fun x a' W=>∃Bx,w.heap.size+1+1<Bx/\W.heap[Bx]? =some (.cells #[.int .i64 (x.1.1:Int),.int .i64 (x.1.2.1:Int)] 230 (0,0))/\a'={tmps:= #[.agg #[.slice Ag ng cg,.slice At nt ct],.agg #[.slice A l.length cp],.pointer (some ⟨w.heap.size,0,none⟩),.pointer (some ⟨w.heap.size+1,0,none⟩),.slice none 0 0,.pointer (some ⟨w.heap.size+1+1,0,none⟩),.pointer (some ⟨Bx,0,none⟩),.int .i64 x.1.2.2,undef,.agg #[.slice A l.length cp],.func (.func 186) #[] #[.pointer (some ⟨w.heap.size+1+1+1,0,none⟩)],.agg #[.int .i64 (x.1.1:Int),.int .i64 (x.1.2.1:Int)],.int .i64 x.1.2.2,undef,undef,undef,undef,undef,undef,undef,undef,undef,undef,undef,undef,undef,undef,undef,undef,undef,undef,undef,undef,undef,undef,undef,undef,undef,undef,undef,undef,undef],defers:=[]})
  (fun x a' _ X Y row hs hg hr=>by obtain⟨Bx,h1,h2,h3⟩:=hs;exact⟨Bx,h1,zU Bx _ _ _ () X Y row h2 hg (fun r e=>(hr r e).2),h3⟩)
  ?assign ?body ?done ?stop
 case assign=>
  rintro q pre ⟨⟨x0,x1,x2⟩,hx⟩ W K ⟨⟨⟨v,hv,fI,hnil⟩,bA1,bT1⟩,hB⟩ hK
  simp only[Di]
  gi_wp2
  exact hK _ _ ((KeepsOthers.alloc _ _).from _) (gO.of ((Below.refl _ W).alloc (Nat.le_refl _) _)) ⟨⟨⟨v,hv.alloc _,fI.alloc _,hnil⟩,bA1.alloc _,(Below.heap_alloc _ _ _ (Array.getElem?_eq_some_iff.1 bT1).1).trans bT1⟩,hB.alloc hB.size _⟩ ⟨W.heap.size,hv.lt,World.alloc_heap_new _ _,rfl⟩
 case body=>
  rintro q pre ⟨⟨x0,x1,x2⟩,hx⟩ a' W hq hqr ⟨⟨⟨v,hv,fI,hnil⟩,bA1,bT1⟩,hB⟩ ⟨Bx,hBx,bX,rfl⟩ dD
  obtain⟨AZ,Kc,yU⟩:=hx
  simp only at AZ Kc yU bX
  obtain⟨A',c',e',_,hc⟩:=(hP.below hB).sl
  cases e'
  have dq:∃b o,A=some ⟨b,o,none⟩/\W.cell? ⟨b,o+x0*3+2,none⟩=some (.int .i64 (bC l x0).bJ)/\W.cell? ⟨b,o+x1*3+2,none⟩=some (.int .i64 (bC l x1).bJ):=by
   rcases hc with rfl|⟨b,o,rfl,jU⟩
   ·simp at AZ
   ·exact⟨b,o,rfl,by rw[Nat.add_assoc];exact(jU x0 AZ).2.2,by rw[Nat.add_assoc];exact(jU x1 Kc).2.2⟩
  obtain⟨b,o,rfl,cP0,cP1⟩:=dq
  have cT0:W.cell? ⟨w.heap.size,0,none⟩=some (.slice Ag ng cg):=by simp[World.cell?,bT1]
  have cT1:W.cell? ⟨w.heap.size,1,none⟩=some (.slice At nt ct):=by simp[World.cell?,bT1]
  have cX0:W.cell? ⟨Bx,0,none⟩=some (.int .i64 (x0:Int)):=by simp[World.cell?,bX]
  have cX1:W.cell? ⟨Bx,1,none⟩=some (.int .i64 (x1:Int)):=by simp[World.cell?,bX]
  have cA:=bA1.cell
  have dP0:W.drew.cell? ⟨b,o+x0*3+2,none⟩=some (.int .i64 (bC l x0).bJ):=cP0
  have dP1:W.drew.cell? ⟨b,o+x1*3+2,none⟩=some (.int .i64 (bC l x1).bJ):=cP1
  have dT0:W.drew.cell? ⟨w.heap.size,0,none⟩=some (.slice Ag ng cg):=cT0
  have dT1:W.drew.cell? ⟨w.heap.size,1,none⟩=some (.slice At nt ct):=cT1
  have dX0:W.drew.cell? ⟨Bx,0,none⟩=some (.int .i64 (x0:Int)):=cX0
  have dX1:W.drew.cell? ⟨Bx,1,none⟩=some (.int .i64 (x1:Int)):=cX1
  have dA:W.drew.cell? ⟨w.heap.size+1,0,none⟩=some (.slice (some ⟨b,o,none⟩) l.length cp):=cA
  have rG:∀i,i<l.length->bC l i∈l:=fun i hi=>by
   unfold bC
   rw[List.getD_eq_getElem?_getD,List.getElem?_eq_getElem hi]
   exact List.getElem_mem hi
  have SJ:=mixed
  have hfw:=hA.1.Gc
  have Q7:=L5 s hF (bC l x0).bJ x2 (bC l x1).bJ (hA.2 _ (rG x0 AZ)) (hA.2 _ (rG x1 Kc)) (nK ab)
  have hTW:jh Tryz.prog W (fun b=>b<w.heap.size) (.agg (aa s)) (.agg #[.slice Ag ng cg,.slice At nt ct]):=hT.frame (fun b hb=>hB.block b hb) (fun _ h=>h)
  have hAW:jh Tryz.prog W (fun b=>b<w.heap.size) (.sl (l.map ai)) (.slice (some ⟨b,o,none⟩) l.length cp):=hP.eK.frame (fun b hb=>hB.block b hb) (fun _ h=>h)
  obtain⟨fT,hT0,hT1⟩:∃f:Nat->Value,(∀j,j<(aa s).length->(#[Value.slice Ag ng cg,.slice At nt ct])[j]? =some (f j))/\∀j a,(aa s)[j]? =some a->jh Tryz.prog W (fun b=>b<w.heap.size) a (f j):=by
   cases hTW with
   |agg _ _ f _ _ h3 h4=>exact⟨f,h3,h4⟩
  have ew:St Tryz.prog W.heap.size 42 (fun b=>b<w.heap.size) (GV w.heap.size Bx) (L7 s l x0 x1 x2) ⟨Lg s l x0 x1,1⟩ {tmps:= #[.agg #[.slice Ag ng cg,.slice At nt ct],.agg #[.slice (some ⟨b,o,none⟩) l.length cp],.pointer (some ⟨w.heap.size,0,none⟩),.pointer (some ⟨w.heap.size+1,0,none⟩),.slice none 0 0,.pointer (some ⟨w.heap.size+1+1,0,none⟩),.pointer (some ⟨Bx,0,none⟩),.int .i64 x2,undef,.agg #[.slice (some ⟨b,o,none⟩) l.length cp],.func (.func 186) #[] #[.pointer (some ⟨w.heap.size+1+1+1,0,none⟩)],.agg #[.int .i64 (x0:Int),.int .i64 (x1:Int)],.int .i64 x2,undef,undef,undef,undef,undef,undef,undef,undef,undef,undef,undef,undef,undef,undef,undef,undef,undef,undef,undef,undef,undef,undef,undef,undef,undef,undef,undef,undef,undef],defers:=[]} W:=by
   have n1:(GV w.heap.size Bx) ⟨1,0⟩=some ⟨w.heap.size,2,2,none⟩:=rfl
   have n2:(GV w.heap.size Bx) ⟨2,0⟩=some ⟨w.heap.size+1,1,1,none⟩:=rfl
   have n3:(GV w.heap.size Bx) ⟨3,0⟩=some ⟨w.heap.size+1+1,1,1,none⟩:=rfl
   have n4:(GV w.heap.size Bx) ⟨4,0⟩=some ⟨Bx,2,2,none⟩:=rfl
   have n5:(GV w.heap.size Bx) ⟨5,0⟩=some ⟨w.heap.size+1+1+1,1,1,none⟩:=rfl
   have rp:∀(id:Id) (B:rY),(GV w.heap.size Bx) id=some B->B.k=none->cG Tryz.prog W (fun b=>b<w.heap.size) (GV w.heap.size Bx) (.ptr id 0 0) (.pointer (some ⟨B.b,0,none⟩)):=fun id B h hk=>by
    have:=cG.ptr (P:=Tryz.prog) (w:=W) (D:=fun b=>b<w.heap.size) id 0 0 B h hk
    simpa using this
   have ri:∀n:Int,cG Tryz.prog W (fun b=>b<w.heap.size) (GV w.heap.size Bx) (.int .i64 n) (.int .i64 n):=fun n=>.eK _ _ (.int _ _)
   have hA1:jh Tryz.prog W (fun b=>b<w.heap.size) (.agg [.sl (l.map ai)]) (.agg #[.slice (some ⟨b,o,none⟩) l.length cp]):=.agg _ _ (fun _=>.slice (some ⟨b,o,none⟩) l.length cp) rfl (fun a ha=>by simp at ha;rw[ha];rfl) (fun j hj=>by match j,hj with|0,_=>rfl|j+1,hj=>simp at hj) (fun j a ha=>by match j,ha with|0,ha=>simp at ha;subst ha;exact hAW|j+1,ha=>simp at ha)
   refine⟨⟨Nat.le_refl _,fun b hb=>Nat.lt_of_lt_of_le hb hB.size,fun id r hg=>?_,fun id kn r r' B B' h _ hw=>?_⟩,fun id hid=>?_,fun t=>?_,rfl⟩
   ·replace hg:Lg s l x0 x1 id=some r:=hg
    unfold Lg at hg
    split at hg
    ·rename_i e;subst e;injection hg with hg;subst hg
     exact⟨_,n1,CC (cs:=aa s) rfl bT1 rfl rfl rfl (fun a ha=>by simp[aa]at ha;rcases ha with rfl|rfl<;>rfl) (fun j a ha=>⟨_,hT0 j (List.getElem?_eq_some_iff.1 ha).1,.eK _ _ (hT1 j a ha)⟩),fun h=>(by cases h),fun h=>(by cases h)⟩
    ·split at hg
     ·rename_i e;subst e;injection hg with hg;subst hg
      exact⟨_,n2,CC (cs:=[.sl (l.map ai)]) rfl bA1 rfl rfl rfl (fun a ha=>by simp at ha;rw[ha];rfl) (fun j a ha=>by match j,ha with|0,ha=>simp at ha;subst ha;exact⟨_,rfl,.eK _ _ hAW⟩|j+1,ha=>simp at ha),fun h=>(by cases h),fun h=>(by cases h)⟩
     ·split at hg
      ·rename_i e;subst e;injection hg with hg;subst hg
       exact⟨_,n4,CC (cs:=[.int .i64 (x0:Int),.int .i64 (x1:Int)]) rfl bX rfl rfl rfl (fun a ha=>by simp at ha;rcases ha with rfl|rfl<;>rfl) (fun j a ha=>by match j,ha with|0,ha=>simp at ha;subst ha;exact⟨_,rfl,ri _⟩|1,ha=>simp at ha;subst ha;exact⟨_,rfl,ri _⟩|j+2,ha=>simp at ha),fun h=>(by cases h),fun h=>(by cases h)⟩
      ·cases hg
   ·exfalso
    replace h:Lg s l x0 x1 id=some r:=h
    unfold Lg at h
    split at h
    ·injection h with h;subst h;cases hw
    ·split at h
     ·injection h with h;subst h;cases hw
     ·split at h
      ·injection h with h;subst h;cases hw
      ·cases h
   ·left
    unfold GV at hid
    repeat' (split at hid)
    all_goals first|(rename_i e;subst e;exact Nat.zero_lt_one)|exact absurd rfl hid
   ·match t with
    |0=>exact .eK _ _ hTW
    |1=>exact .eK _ _ hA1
    |2=>exact rp _ _ n1 rfl
    |3=>exact rp _ _ n2 rfl
    |4=>exact .eK _ _ .bK
    |5=>exact rp _ _ n3 rfl
    |6=>exact rp _ _ n4 rfl
    |7=>exact ri _
    |8=>exact cG.undef
    |9=>exact .eK _ _ hA1
    |10=>exact .fn _ _ _ (fun _=>.pointer (some ⟨w.heap.size+1+1+1,0,none⟩)) (by kernel_rfl) rfl (fun j hj=>by match j,hj with|0,_=>rfl|j+1,hj=>simp at hj) (fun j a ha=>by match j,ha with|0,ha=>simp at ha;subst ha;exact rp _ _ n5 rfl|j+1,ha=>simp at ha)
    |11=>exact .agg _ _ (fun j=>if j=0 then .int .i64 (x0:Int)else .int .i64 (x1:Int)) rfl (fun a ha=>by simp at ha;rcases ha with rfl|rfl<;>rfl) (fun j hj=>by match j,hj with|0,_=>rfl|1,_=>rfl|j+2,hj=>simp at hj;omega) (fun j a ha=>by match j,ha with|0,ha=>simp at ha;subst ha;exact ri _|1,ha=>simp at ha;subst ha;exact ri _|j+2,ha=>simp at ha)
    |12=>exact ri _
    |13=>exact cG.undef
    |14=>exact cG.undef
    |15=>exact cG.undef
    |16=>exact cG.undef
    |17=>exact cG.undef
    |18=>exact cG.undef
    |19=>exact cG.undef
    |20=>exact cG.undef
    |21=>exact cG.undef
    |22=>exact cG.undef
    |23=>exact cG.undef
    |24=>exact cG.undef
    |25=>exact cG.undef
    |26=>exact cG.undef
    |27=>exact cG.undef
    |28=>exact cG.undef
    |29=>exact cG.undef
    |30=>exact cG.undef
    |31=>exact cG.undef
    |32=>exact cG.undef
    |33=>exact cG.undef
    |34=>exact cG.undef
    |35=>exact cG.undef
    |36=>exact cG.undef
    |37=>exact cG.undef
    |38=>exact cG.undef
    |39=>exact cG.undef
    |40=>exact cG.undef
    |41=>exact cG.undef
    |t+42=>exact cG.undef
  have hV:wpOps (Call Tryz.prog) true ?vl (fun e _=>e 5=.ptr ⟨3,0⟩ 0 0/\e 6=.ptr ⟨4,0⟩ 0 0/\e 8=.int .i64 (iT s (bC l x0).bJ x2 (bC l x1).bJ)) (L7 s l x0 x1 x2) ⟨Lg s l x0 x1,1⟩:= ?hv
  gi_wp2
  refine ym mixed (rrE (nt:=42) (site0:=154005000)) (Ic (by kernel_rfl)) (mC (fun _ _ _ _ h=>gP mixed h) pb (fun _ _ h=>h) _ _ _ hV) ew ?_
  rintro e1 σ1 ⟨tm,df⟩ w3 D1 ι1 ⟨h5,h6,h8⟩ T1 St1 BS
  case hv=>
   refine Cu ?_
   have e0:=gJ AZ
   have e1:=gJ Kc
   (repeat(first|((repeat(revert hN;revert N;apply Pn.out));refine wk (tw @e0 (tw @e1 (tw @L7.eq_1 (tw @Lg.eq_1 (tw @ai.eq_1 @aa.eq_1))))) ?_;(repeat(refine Pn.mk ?_;intro N hN)))|((try apply Or.inl);refine⟨_,ae.x (Q7) (sd (tw @e0 (tw @e1 (tw @L7.eq_1 (tw @Lg.eq_1 (tw @ai.eq_1 @aa.eq_1)))))),?_⟩;refine hN _ _ ?_;clear hN N)))
   exact⟨sd @L7.eq_1,sd @L7.eq_1,sd @L7.eq_1⟩
  ·have zS:Below W.heap.size W w3:=T1.below
   have EV:∀id B,GV w.heap.size Bx id=some B->ι1 id=some B:=T1.names
   have p5:tm.getD 5 undef=.pointer (some ⟨w.heap.size+1+1,0,none⟩):=by
    have g:=St1.env 5
    rw[h5]at g
    obtain⟨B,e,hB,_⟩:=je g
    have h:=EV ⟨3,0⟩ ⟨w.heap.size+1+1,1,1,none⟩ rfl
    rw[h]at hB;injection hB with hB;subst hB
    simpa using e
   have p6:tm.getD 6 undef=.pointer (some ⟨Bx,0,none⟩):=by
    have g:=St1.env 6
    rw[h6]at g
    obtain⟨B,e,hB,_⟩:=je g
    have h:=EV ⟨4,0⟩ ⟨Bx,2,2,none⟩ rfl
    rw[h]at hB;injection hB with hB;subst hB
    simpa using e
   have p8:tm.getD 8 undef=.int .i64 (iT s (bC l x0).bJ x2 (bC l x1).bJ):=by
    have g:=St1.env 8
    rw[h8]at g
    exact dh g
   have fh:=St1.size
   obtain⟨tl⟩:=tm
   obtain⟨f,htl,hf⟩:∃f:Nat->Value,tl=[f 0,f 1,f 2,f 3,f 4,f 5,f 6,f 7,f 8,f 9,f 10,f 11,f 12,f 13,f 14,f 15,f 16,f 17,f 18,f 19,f 20,f 21,f 22,f 23,f 24,f 25,f 26,f 27,f 28,f 29,f 30,f 31,f 32,f 33,f 34,f 35,f 36,f 37,f 38,f 39,f 40,f 41]/\∀i,f i=(⟨tl⟩:Array Value).getD i undef:=by
    refine⟨fun i=>(⟨tl⟩:Array Value).getD i undef,?_,fun _=>rfl⟩
    have h:=HR tl undef
    rw[show tl.length=42 from fh]at h
    exact h
   rw[<-hf]at p5 p6 p8
   have Sr:df=[]:=BS
   subst Sr
   clear hf St1 ew hV
   subst htl
   rw[p5,p6,p8]
   have Rp:=hv.kept (qi zS) (by simp)
   have DE:=fI.kept (qi zS) (by rcases fI.2 with⟨e,_⟩|⟨_,_,_,e,_⟩<;>rw[e]<;>simp[Value.ownBlock])
   have hc3:=Rp.cell
   have hn3:w.heap.size<=w3.heap.size:=Nat.le_trans hB.size zS.size
   have eX0:w3.cell? ⟨Bx,0,none⟩=some (.int .i64 (x0:Int)):=(zS.cell (p:=⟨Bx,0,none⟩) (Array.getElem?_eq_some_iff.1 bX).1).trans cX0
   have eX1:w3.cell? ⟨Bx,1,none⟩=some (.int .i64 (x1:Int)):=(zS.cell (p:=⟨Bx,1,none⟩) (Array.getElem?_eq_some_iff.1 bX).1).trans cX1
   have mY:(mT s l pre).length<=2097152:=by
    have h1:=GO s l pre
    have h2:=Av l l.length
    omega
   have hKF:KeepsFrom (w.heap.size+4) W w3:=⟨zS.size,fun k o _ hk _=>(zS.block k (Array.getElem?_eq_some_iff.1 hk).1).trans hk⟩
   have hKT:gO w.heap.size W w3:=gO.of zS
   have RG:w3.heap[w.heap.size+1]? = _:=(zS.block _ bA1.lt).trans bA1
   have RH:=(zS.block _ (Array.getElem?_eq_some_iff.1 bT1).1).trans bT1
   by_cases lh:0<iT s (bC l x0).bJ x2 (bC l x1).bJ
   ·have zT:mT s l (pre++[⟨(x0,x1,x2),AZ,Kc,yU⟩])=mT s l pre++[⟨x0,x1,iT s (bC l x0).bJ x2 (bC l x1).bJ⟩]:=by
     rw[v3];simp only[xn,if_pos lh]
    gi_wp2_with (gi_at_builtin;refine wpListIn_append_own _ rfl _ _ 177 rfl w.heap.size 196 i0 (.agg #[.int .i64 0,.int .i64 0,.int .i64 0]) 3 24 (by kernel_rfl) hi Gn yW k7 rfl (by decide) _ _ _ rfl (DE.alloc _) ⟨w3.heap.size,0,none⟩ 1 1 [.int .i64 (x0:Int),.int .i64 (x1:Int),.int .i64 (iT s (bC l x0).bJ x2 (bC l x1).bJ)] rfl rfl (tD _ _ _ _ _) (by simp[Value.oneCell']) (by unfold maxLen;omega) ab (by simp;omega) ?_;intro v' w4 Ly Dx _;obtain⟨g',cap',rfl⟩:=ownsRow_succ Ly;obtain⟨wH,Nd,AY,tX,Ge⟩:=Rp.appended (by decide) DE hn3 ab Ly Dx;have Jh:=gO.app Rp DE Dx Ge;have oY:=wH.cell;have PO:=wH.frozen)
    exact⟨hKF.trans (tX.from _),hKT.trans Jh,⟨⟨_,Nd,by rw[zT,GN,List.length_append];exact AY,by rw[zT];simp⟩,(Jh.2.1 _ _ _ _ RG (by decide) (by decide)).trans RG,(Jh.2.1 _ _ _ _ RH (by decide) (by decide)).trans RH⟩,hB.trans ((zS.mono hB.size).trans Ge)⟩
   ·have zT:mT s l (pre++[⟨(x0,x1,x2),AZ,Kc,yU⟩])=mT s l pre:=by
     rw[v3];simp only[xn,if_neg lh,List.append_nil]
    gi_wp2
    exact⟨hKF,hKT,⟨⟨v,Rp,by rw[zT];exact DE,by rw[zT];exact hnil⟩,RG,RH⟩,hB.trans (zS.mono hB.size)⟩
 case done=>
  rintro D ys W hD DI ⟨⟨⟨v,hv,fI,hnil⟩,_⟩,hB⟩ hK
  have hc:=hv.cell
  have Ja:mT s l ys=cv s l:=by rw[GU,<-DI];rfl
  rw[Ja]at fI hnil
  gi_wp2
  refine⟨by simp,.inl ⟨_,_,rfl,run_takeDeferred hK,?_⟩⟩
  exact⟨_,results_tmp rfl _ _ _,v,rfl,ownsRow_putObj fI _ hK rfl,hnil,hB.trans (belowK_b (w:=w) (Nat.le_refl _) W D _ _ ab hK rfl rfl)⟩
 case stop=>
  rintro D c pre W _ _ h _
  exact h.elim
end Go.Proofs.YtihgaadadaekmaaGreatDoor.V

namespace Go.Proofs.YtihgaadadaekmaaGreatDoor.V
open Go.RowKit Go.Shelf
theorem C8:∀{bs:List PB} {i j:Nat} {b:PB},bs[i]? =some b->j<3->(Jw bs)[i*3+j]? =([.int .i64 b.a,.int .i64 b.b,.int .i64 b.s]:List Value)[j]?
 |c::bs,0,j,b,h,hj=>by
  simp at h;subst h
  simp only[Jw,List.flatMap_cons,Nat.zero_mul,Nat.zero_add]
  rw[List.getElem?_append_left (by simpa using hj)]
 |c::bs,i+1,j,b,h,hj=>by
  simp only[List.getElem?_cons_succ]at h
  have:=C8 (bs:=bs) (i:=i) (j:=j) h hj
  simp only[Jw,List.flatMap_cons]at this ⊢
  rw[List.getElem?_append_right (by simp;omega),<-this]
  congr 1
  simp;omega
theorem qo {P:Program} {w:World} {D:Nat->Prop} {rows:List (List AV)} {v:Value} (h:jh P w D (.sl rows) v):∃A n c,v=.slice A n c:=by
 cases h with
 |A4 a c _=>exact⟨_,_,_,rfl⟩
 |sl=>exact⟨_,_,_,rfl⟩
theorem pJ {P:Program} {w:World} {D:Nat->Prop} {ι:Names} {rows:List (List AV)} {v:Value} (h:cG P w D ι (.sl rows) v):jh P w D (.sl rows) v:=by
 cases h with
 |eK _ _ h=>exact h
theorem KK {P:Program} {w:World} {D:Nat->Prop} {l:List aq} {v:Value} (h:jh P w D (.sl (l.map ai)) v):oE w v l:=by
 generalize hr:l.map ai=rows at h
 cases h with
 |A4 a c hc=>
  have:l=[]:=by simpa using hr
  subst this
  exact⟨a,c,rfl,⟨Nat.zero_le _,hc⟩,.inl rfl⟩
 |sl _ b o n c sz vs h1 h2 h3 h4 h5 h5' h6 h7=>
  have hn:n=l.length:=by rw[<-h1,<-hr];simp
  subst hn
  refine⟨some ⟨b,o,none⟩,c,rfl,⟨h2,h3⟩,?_⟩
  by_cases hl:l=[]
  ·exact .inl hl
  refine .inr ⟨b,o,rfl,fun i hi=>?_⟩
  have hg:rows[i]? =some (ai (bC l i)):=by rw[<-hr];exact gJ hi
  have fh:sz=3:=by rw[<-h5 _ (List.mem_of_getElem? hg)];rfl
  subst fh
  have k:∀(j:Nat) (x:Int),(ai (bC l i))[j]? =some (.int .i64 x)->j<3->w.cell? ⟨b,o+(i*3+j),none⟩=some (.int .i64 x):=fun j x hj h3=>by
   have:=h7 i j _ _ hg hj
   rw[h6 i j hi h3,dh (.eK (ι:=fun _=>none) _ _ this)]
  exact⟨k 0 _ rfl ab,k 1 _ rfl ab,k 2 _ rfl ab⟩
theorem L6:A5:=by
 intro s l hS hA n
 refine iy ?_
 intro hs D ι w vs S U A
 obtain⟨u0,J8,r0⟩:=A.2 0 _ rfl
 obtain⟨u1,Qc,r1⟩:=A.2 1 _ rfl
 have dD:∀b,D b->b<w.heap.size:=S.dead
 obtain⟨v0,f0,rfl,Gn,_,Rc,S3⟩:=iw r0
 obtain⟨v1,f1,rfl,yW,_,PO,M4⟩:=iw r1
 have g0:=pJ (S3 0 _ rfl)
 have g1:=pJ (S3 1 _ rfl)
 have a0:=pJ (M4 0 _ rfl)
 obtain⟨Ag,ng,cg,eg⟩:=qo g0
 obtain⟨At,nt,ct,et⟩:=qo g1
 have e0:v0= #[.slice Ag ng cg,.slice At nt ct]:=by
  obtain⟨vl⟩:=v0
  have q0:=Rc 0 (by simp[aa])
  have q1:=Rc 1 (by simp[aa])
  rw[eg]at q0;rw[et]at q1
  match vl,Gn with
  |[a,b],_=>simp at q0 q1;rw[q0,q1]
 have e1:v1= #[f1 0]:=by
  obtain⟨vl⟩:=v1
  have q0:=PO 0 (by simp)
  match vl,yW with
  |[a],_=>simp at q0;rw[q0]
 subst e0 e1
 have evs:vs= #[.agg #[.slice Ag ng cg,.slice At nt ct],.agg #[f1 0]]:=by
  obtain⟨vl⟩:=vs
  have hz:=A.1
  match vl,hz with
  |[a,b],_=>simp at J8 Qc;rw[J8,Qc]
 subst evs
 have up:∀{a v},jh Tryz.prog w D a v->jh Tryz.prog w (fun b=>b<w.heap.size) a v:=fun h=>h.frame (fun _ _=>rfl) dD
 have hT:jh Tryz.prog w (fun b=>b<w.heap.size) (.agg (aa s)) (.agg #[.slice Ag ng cg,.slice At nt ct]):=
  .agg _ _ f0 Gn (fun a ha=>by simp[aa]at ha;rcases ha with rfl|rfl<;>rfl) Rc (fun j a ha=>by
   match j,ha with
   |0,ha=>simp[aa]at ha;subst ha;exact up g0
   |1,ha=>simp[aa]at ha;subst ha;exact up g1
   |j+2,ha=>simp[aa]at ha)
 refine(callsIn_wide.1 (GR s l hS.form hA w Ag At ng cg nt ct (f1 0) hT (KK a0))).mono ?_
 rintro e W' ⟨v,rfl,⟨hl,hown⟩,hnil,hB⟩
 have S':ga Tryz.prog hs D ι (fun _=>none) W':=S.stay (fun b hb=>hB.block b hb) hB.size (fun _ h=>h) (fun b hb=>Nat.lt_of_lt_of_le (dD b hb) hB.size) (fun _ h=>.inl h) (fun _ _ h=>h)
 have T:Step hs D ι w D ι W':=Step.stay S (fun b hb=>hB.block b hb) hB.size hB.os hB.tape hB.output (fun _ h=>h) (fun _ h=>.inl h) (fun _ _ h=>h)
 rcases hown with⟨rfl,h0⟩|⟨gb,cap,cur,rfl,PU,mc,hle,JP,dq,ou⟩
 ·have PH:cv s l=[]:=hnil.1 rfl
  exact⟨.bK,_,n,D,ι,_,rfl,⟨.bK,kg _ _,by rw[PH];rfl⟩,T,S',U,Nat.le_refl _,.eK _ _ .bK⟩
 ·have PH:cv s l≠[]:=fun h=>by have:=hnil.2 h;cases this
  have lv:ι ⟨0,n⟩=none:=fresh U (fun h=>h)
  have gH:∀{a v},cG Tryz.prog W' D ι a v->cG Tryz.prog W' D (kI ι ⟨0,n⟩ ⟨gb,3,cap*3,none⟩) a v:=fun h=>h.frame (fun _ _=>rfl) (fun _ h=>h) (fN lv)
  have hR:ik Tryz.prog W' D (kI ι ⟨0,n⟩ ⟨gb,3,cap*3,none⟩) ⟨gb,3,cap*3,none⟩ ⟨true,3,(cv s l).map aA⟩:=by
   refine kW.obj ⟨rfl,⟨cur,_,mc,dq⟩,?_,fun cs hc=>?_,fun cs hc a ha=>?_,fun i j cs a hi hj=>?_⟩ rfl
   ·simp only[List.length_map];exact Nat.mul_le_mul_right 3 hle
   ·obtain⟨b,_,rfl⟩:=List.mem_map.1 hc;rfl
   ·obtain⟨b,_,rfl⟩:=List.mem_map.1 hc
    simp[aA]at ha
    rcases ha with rfl|rfl|rfl<;>rfl
   ·rw[List.getElem?_map]at hi
    simp only[Option.map_eq_some_iff]at hi
    obtain⟨b,hb,rfl⟩:=hi
    have hj3:j<3:=by have:=(List.getElem?_eq_some_iff.1 hj).1;simpa[aA]using this
    have oZ:=(List.getElem?_eq_some_iff.1 hb).1
    have hg:=C8 hb hj3
    rw[<-ou,List.getElem?_take,if_pos ab]at hg
    have key:∀x:Value,([.int .i64 b.a,.int .i64 b.b,.int .i64 b.s]:List Value)[j]? =some x->W'.cell? ⟨gb,i*3+j,none⟩=some x:=fun x hx=>by
     rw[hx]at hg
     have e:W'.cell? ⟨gb,i*3+j,none⟩=cur[i*3+j]? :=by
      unfold World.cell?
      rw[show W'.heap[(⟨gb,i*3+j,none⟩:Addr).block]? = _ from mc]
      rfl
     rw[e,<-Array.getElem?_toList];exact hg
    match j,hj with
    |0,hj=>simp[aA]at hj;subst hj;exact⟨_,key _ rfl,.eK _ _ (.int _ _)⟩
    |1,hj=>simp[aA]at hj;subst hj;exact⟨_,key _ rfl,.eK _ _ (.int _ _)⟩
    |2,hj=>simp[aA]at hj;subst hj;exact⟨_,key _ rfl,.eK _ _ (.int _ _)⟩
    |j+3,hj=>simp[aA]at hj
  have S2:=ga.add (r:=⟨true,3,(cv s l).map aA⟩) S S' lv PU hR
  refine⟨.own ⟨0,n⟩ 0 (cv s l).length,bY (fun _=>none) ⟨0,n⟩ ⟨true,3,(cv s l).map aA⟩,n+1,D,kI ι ⟨0,n⟩ ⟨gb,3,cap*3,none⟩,_,rfl,⟨yv (cv s l),?_,rfl⟩,T.trans (Step.stay S' (fun _ _=>rfl) (Nat.le_refl _) rfl rfl rfl (fun _ h=>h) (fun _ h=>.inl h) (fN lv)),S2,U.upd.next,Nat.le_succ _,.own _ _ _ _ _ _ (dZ _ _ _) rfl hle (.inr (by simp)) (by simp) JP⟩
  unfold yv
  rw[if_neg PH]
  have hg:(bY (fun _=>none) (⟨0,n⟩:Id) ⟨true,3,(cv s l).map aA⟩:Rows) ⟨0,n⟩=some ⟨true,3,(cv s l).map aA⟩:=by simp[bY]
  have:=fH (n:=5) hg rfl fun b=>sU _ 4 b
  simpa using this
end Go.Proofs.YtihgaadadaekmaaGreatDoor.V

namespace Go.Proofs.YtihgaadadaekmaaGreatDoor.V
open Go.RowKit
attribute [local irreducible] ea wpOps gS Call
attribute [local go_sem] aM fQ eM gi gh cE upd cu K.av cL AV.cells AV.cell rowOf rowsOf part ld rowAt bY ck dI eh ij bL da eA gp e8 du eo cY cX dV dW bR bm cQ bQ cT cR ej er ek cP bW cZ ei bP aQ cV cC ig bw cH bS aX dG bu dL AV.undef bF bH dY ef dU ec cF ez eF cw ev eu cU cW List.getD_cons_zero List.getD_cons_succ List.getD_nil List.all_cons List.all_nil Bool.and_true Bool.true_and Bool.and_self Bool.not_true Bool.not_false Option.map_some Option.map_none Option.bind_some Option.bind_none List.length_cons List.length_nil List.take_succ_cons List.take_zero List.take_nil List.drop_succ_cons List.drop_zero List.drop_nil List.head?_cons List.map_cons List.map_nil List.getElem?_cons_zero List.getElem?_cons_succ List.cons_append List.nil_append List.append_nil List.length_map List.set_cons_zero List.set_cons_succ Nat.reduceMul eq_self Int.toNat_natCast Int.natCast_nonneg and_self true_and and_true decide_true decide_false Bool.false_eq_true Nat.zero_add Nat.add_zero List.contains_cons List.contains_nil Bool.or_false Bool.false_or beq_self_eq_true Nat.reduceBEq ne_eq not_true_eq_false not_false_eq_true Id.mk.injEq false_and and_false Nat.reduceLT Int.reduceLE Int.reduceLT Int.reduceToNat Int.reduceNeg Int.reduceAdd Nat.le_refl List.length_append beq_true beq_false Bool.not_eq_eq_eq_not or_false false_or dE ad aj aI bE cj aV bf aU bo cN bG
theorem xN (s:cl) (l:List aq) (hn:fA s.aE) (hm:pY s) (hl:l.length<=1048576):ae Tryz.prog 41 [.agg (az s),.agg [.sl (l.map ai)]] (.int .i64 (if nw s l then 0 else 1)):=by
 refine ae.body dK rfl fun vC n0=>?_
 clear vC
 have h1:=vd L6 s hn hm.s.g hm.s.t hm.s.s hm.a
 have h2:=mL s.aE l hn hm.s.g hm.s.t hm.s.s hl
 cases b1:mv s
 ·rw[b1]at h1
  rw[az]at h1 ⊢
  (repeat(first|((repeat(revert hN;revert N;apply Pn.out));refine wk @Nat.zero_add ?_;(repeat(refine Pn.mk ?_;intro N hN)))|((try apply Or.inl);refine⟨_,ae.x (h1) (sd @Nat.zero_add),?_⟩;refine hN _ _ ?_;clear hN N)))
  exact aZ (b:=1) (.inl rfl) (sd @Nat.zero_add) (by simp[nw,b1])
 have dP:pK s.aE=true:=lR.2 (uP.1 b1).set
 rw[b1]at h1
 rw[dP,Bool.true_and]at h2
 rw[az]at h1 ⊢
 rw[aa]at h2
 cases b2:oI s.aE l
 ·rw[b2]at h2
  (repeat(first|((repeat(revert hN;revert N;apply Pn.out));refine wk @Nat.zero_add ?_;(repeat(refine Pn.mk ?_;intro N hN)))|((try apply Or.inl);refine⟨_,ae.x (h1) (sd @Nat.zero_add),?_⟩;refine hN _ _ ?_;clear hN N)|((try apply Or.inl);refine⟨_,ae.x (h2) (sd @Nat.zero_add),?_⟩;refine hN _ _ ?_;clear hN N)))
  exact aZ (b:=1) (.inl rfl) (sd @Nat.zero_add) (by simp[nw,b1,b2])
 ·rw[b2]at h2
  (repeat(first|((repeat(revert hN;revert N;apply Pn.out));refine wk @Nat.zero_add ?_;(repeat(refine Pn.mk ?_;intro N hN)))|((try apply Or.inl);refine⟨_,ae.x (h1) (sd @Nat.zero_add),?_⟩;refine hN _ _ ?_;clear hN N)|((try apply Or.inl);refine⟨_,ae.x (h2) (sd @Nat.zero_add),?_⟩;refine hN _ _ ?_;clear hN N)))
  exact aZ (b:=0) (.inl rfl) (sd @Nat.zero_add) (by simp[nw,b1,b2])
end Go.Proofs.YtihgaadadaekmaaGreatDoor.V
