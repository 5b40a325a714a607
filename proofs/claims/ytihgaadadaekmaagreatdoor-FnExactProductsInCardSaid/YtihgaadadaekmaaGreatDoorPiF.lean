/- Forms: the program's test. -/
import Derived.Test.YtihgaadadaekmaaGreatDoorPiC
import Derived.Test.YtihgaadadaekmaaGreatDoorPiE
import Derived.Test.YtihgaadadaekmaaGreatDoorPiB
import Derived.Test.YtihgaadadaekmaaGreatDoorPiD
import Derived.Lib.ItoaWalk
import Derived.Lib.ItoaNum
import Derived.Lib.Strings
import Derived.Test.YtihgaadadaekmaaGreatDoorChecked
import Derived.ProofKit
import Derived.Deep.Slices
import Derived.ChangeSame
import Derived.Test.YtihgaadadaekmaaGreatDoorRows
import Derived.OpenShut
import Derived.ShutString
import Derived.ChangeOld
import Derived.Below
import Derived.Lay
import Derived.Handed
import Derived.MakeChecks
import Derived.Test.YtihgaadadaekmaaGreatDoorCards
import Derived.Test.YtihgaadadaekmaaGreatDoorTie
import Derived.SevenTiedAt
set_option linter.unusedVariables false
set_option linter.unusedSimpArgs false
set_option maxRecDepth 100000
set_option maxHeartbeats 16000000
namespace Go.Proofs.YtihgaadadaekmaaGreatDoor.V
open Go.RowKit
attribute [local irreducible] ea wpOps gS Call
attribute [local go_sem] aM fQ eM gi gh cE upd cu K.av cL AV.cells AV.cell rowOf rowsOf part ld rowAt bY ck dI eh ij bL da eA gp e8 du eo cY cX dV dW bR bm cQ bQ cT cR ej er ek cP bW cZ ei bP aQ cV cC ig bw cH bS aX dG bu dL AV.undef bF bH dY ef dU ec cF ez eF cw ev eu cU cW List.getD_cons_zero List.getD_cons_succ List.getD_nil List.all_cons List.all_nil Bool.and_true Bool.true_and Bool.and_self Bool.not_true Bool.not_false Option.map_some Option.map_none Option.bind_some Option.bind_none List.length_cons List.length_nil List.take_succ_cons List.take_zero List.take_nil List.drop_succ_cons List.drop_zero List.drop_nil List.head?_cons List.map_cons List.map_nil List.getElem?_cons_zero List.getElem?_cons_succ List.cons_append List.nil_append List.append_nil List.length_map List.set_cons_zero List.set_cons_succ Nat.reduceMul eq_self Int.toNat_natCast Int.natCast_nonneg and_self true_and and_true decide_true decide_false Bool.false_eq_true Nat.zero_add Nat.add_zero List.contains_cons List.contains_nil Bool.or_false Bool.false_or beq_self_eq_true Nat.reduceBEq ne_eq not_true_eq_false not_false_eq_true Id.mk.injEq false_and and_false Nat.reduceLT Int.reduceLE Int.reduceLT Int.reduceToNat Int.reduceNeg Int.reduceAdd Nat.le_refl List.length_append beq_true beq_false Bool.not_eq_eq_eq_not or_false false_or dE ad aj aI bE cj aV bf aU bo cN bG
theorem HJ (n:Int) (h0:1<=n) (h1:n<=4) (c:eI):ae Tryz.prog 117 [.int .i64 n,.agg (bh c)] (.bool (oW n c)):=by
 refine ae.body dK rfl fun hl n0=>?_
 clear hl
 have hn:¬n<0:=ab
 have hs:=IA h0 h1
 have h2:=yG h0 h1
 have hw:IntKind.i64.wrap (mz n-1)=mz n-1:=aT ab
 have i1:=iu c.dn 0 (mz n-1)
 have ha:=Lf c.de c.dn
 simp only[go_sem, ↓reduceIte,Nat.reduceEqDiff,Nat.reduceAdd,Nat.reduceSub,Nat.reduceLeDiff,reduceCtorEq,Option.some.injEq,AV.int.injEq,true_and]at ha
 cases hc:fJ c.dn 0 (mz n-1)
 ·rw[hc]at i1
  (repeat(first|((repeat(revert hN;revert N;apply Pn.out));refine wk (tw @bh.eq_1 (tw @hn (tw @hs @hw))) ?_;(repeat(refine Pn.mk ?_;intro N hN)))|((try apply Or.inl);refine⟨_,ae.x (i1) (sd (tw @bh.eq_1 (tw @hn (tw @hs @hw)))),?_⟩;refine hN _ _ ?_;clear hN N)))
  exact aC (b:=false) (.inl rfl) (sd @Nat.zero_add) (by rw[oW,hc];rfl)
 ·rw[hc]at i1
  (repeat(first|((repeat(revert hN;revert N;apply Pn.out));refine wk (tw @bh.eq_1 (tw @hn (tw @hs (tw @hw @ha)))) ?_;(repeat(refine Pn.mk ?_;intro N hN)))|((try apply Or.inl);refine⟨_,ae.x (i1) (sd (tw @bh.eq_1 (tw @hn (tw @hs (tw @hw @ha))))),?_⟩;refine hN _ _ ?_;clear hN N)))
  exact aC (b:=decide (Bd c.de c.dn=c.de)) (.inl rfl) (sd @ha) (by rw[oW,hc];rfl)
section
attribute [local go_sem] List.drop_zero List.take_succ_cons List.take_zero List.length_cons List.length_nil fU qf kZ
theorem tG (a b:eI):ae Tryz.prog 118 [.agg (bh a),.agg (bh b)] (.int .i64 (Eu a b)):=by
 refine ae.body dK rfl fun hl n0=>?_
 clear hl
 have h1:=og a.dn b.dn
 have h2:=og a.de b.de
 have h3:=Dc [ph a.dn b.dn,ph a.de b.de]
 rw[DU,List.map_cons,List.map_cons,List.map_nil,au,au]at h3
 (repeat(first|((repeat(revert hN;revert N;apply Pn.out));refine wk @bh.eq_1 ?_;(repeat(refine Pn.mk ?_;intro N hN)))|((try apply Or.inl);refine⟨_,ae.x (h1) (sd @bh.eq_1),?_⟩;refine hN _ _ ?_;clear hN N)|((try apply Or.inl);refine⟨_,ae.x (h2) (sd @bh.eq_1),?_⟩;refine hN _ _ ?_;clear hN N)|((try apply Or.inl);refine⟨_,ae.x (h3) (sd @bh.eq_1),?_⟩;refine hN _ _ ?_;clear hN N)))
 exact aZ (b:=Eu a b) (.inl rfl) (by simp only[go_sem, ↓reduceIte,Nat.reduceEqDiff,Nat.reduceAdd,Nat.reduceSub,Nat.reduceLeDiff,reduceCtorEq,Eu]) rfl
end
theorem wv {l:List Int} {k:Nat} (h:k<l.length):(l.map au)[k]? =some [.int .i64 (l.getD k 0)]:=getD_map au h
theorem y9 (l:List Int) (Oy:l.length<=9223372036854775806) (m:Int) (SI:0<=m) (hm1:m<=9223372036854775807):ae Tryz.prog 121 [.sl (l.map au),.int .i64 m] (.bool (m4 m l)):=by
 refine ae.body dK rfl fun hl n0=>?_
 clear hl
 have gy:(l.map au).length=l.length:=by simp
 (try((repeat(revert hN;revert N;apply Pn.out));refine wk @gy ?_;(repeat(refine Pn.mk ?_;intro N hN))))
 refine aP (fun n env st=>∃k:Nat,n=(l.length)-k/\k<=(l.length)/\env 9=.int .i64 (k:Int)/\(∀j:Nat,j<k->np m l j)) (l.length) ⟨0,ab,ab,sl @gy,fun _ h=>absurd h (Nat.not_lt_zero _)⟩ ?_
 rintro n_a env_a st_a ⟨k,rfl,ale,a9,iO⟩ dm
 have a0:=dm 0 (by kernel_rfl);have a1:=dm 1 (by kernel_rfl);have a7:=dm 7 (by kernel_rfl);have a8:=dm 8 (by kernel_rfl)
 simp only[go_sem, ↓reduceIte,Nat.reduceEqDiff,Nat.reduceAdd,Nat.reduceSub,Nat.reduceLeDiff,reduceCtorEq,gy]at a0 a1 a7 a8
 clear dm
 by_cases hk:(k:Int)<(l.length:Int)
 ·have bD:∀{e:Env},(e 9=.int .i64 (IntKind.i64.wrap ((k:Int)+1)))->(np m l k)->∃m0,m0<(l.length)-k/\∃k:Nat,m0=(l.length)-k/\k<=(l.length)/\e 9=.int .i64 (k:Int)/\(∀j:Nat,j<k->np m l j):=fun x1 x2=>⟨_,ab,k+1,rfl,ab,(by rw[x1,ay ab]),(all_succ iO x2)⟩
  have dX:k<l.length:=ab
  have hg:=wv dX
  have hI:=rL (l.getD k 0) m SI hm1
  cases hc:fJ (l.getD k 0) 0 (m-1)
  ·rw[hc]at hI
   (repeat(first|((repeat(revert hN;revert N;apply Pn.out));refine wk (tw @a9 (tw @a0 (tw @a1 (tw @a7 (tw @a8 (tw @hk (tw @gy @hg))))))) ?_;(repeat(refine Pn.mk ?_;intro N hN)))|((try apply Or.inl);refine⟨_,ae.x (hI) (sd (tw @a9 (tw @a0 (tw @a1 (tw @a7 (tw @a8 (tw @hk (tw @gy @hg)))))))),?_⟩;refine hN _ _ ?_;clear hN N)))
   exact aC (b:=false) (.inl rfl) (sd @Nat.zero_add) (s9 dX fun h=>by rw[np,hc]at h;cases h.1)
  rw[hc]at hI
  rcases k with _|k
  ·have hd:¬(0:Int)<((0:Nat):Int):=ab
   (repeat(first|((repeat(revert hN;revert N;apply Pn.out));refine wk (tw @a9 (tw @a0 (tw @a1 (tw @a7 (tw @a8 (tw @hk (tw @gy (tw @hg @hd)))))))) ?_;(repeat(refine Pn.mk ?_;intro N hN)))|((try apply Or.inl);refine⟨_,ae.x (hI) (sd (tw @a9 (tw @a0 (tw @a1 (tw @a7 (tw @a8 (tw @hk (tw @gy (tw @hg @hd))))))))),?_⟩;refine hN _ _ ?_;clear hN N)))
   exact bD (sd (tw @a9 (tw @a0 (tw @a1 (tw @a7 @a8))))) (⟨hc,fun h=>absurd h (Nat.lt_irrefl 0)⟩)
  ·have hd:(0:Int)<((k+1:Nat):Int):=ab
   have hw:IntKind.i64.wrap (((k+1:Nat):Int)-1)=(k:Int):=by rw[aT ab];omega
   have oL:=wv (l:=l) (k:=k) ab
   have kN:(0:Int)<=(k:Int):=ab
   by_cases dD:l.getD k 0<l.getD (k+1) 0
   ·have jA:¬l.getD (k+1) 0<=l.getD k 0:=ab
    have hr:np m l (k+1):=⟨hc,fun _=>dD⟩
    (repeat(first|((repeat(revert hN;revert N;apply Pn.out));refine wk (tw @a9 (tw @a0 (tw @a1 (tw @a7 (tw @a8 (tw @hk (tw @gy (tw @hg (tw @hd (tw @hw (tw @oL (tw @kN @jA)))))))))))) ?_;(repeat(refine Pn.mk ?_;intro N hN)))|((try apply Or.inl);refine⟨_,ae.x (hI) (sd (tw @a9 (tw @a0 (tw @a1 (tw @a7 (tw @a8 (tw @hk (tw @gy (tw @hg (tw @hd (tw @hw (tw @oL (tw @kN @jA))))))))))))),?_⟩;refine hN _ _ ?_;clear hN N)))
    exact bD (sd (tw @a9 (tw @a0 (tw @a1 (tw @a7 @a8))))) (hr)
   ·have jA:l.getD (k+1) 0<=l.getD k 0:=ab
    have hr:¬np m l (k+1):=fun h=>dD (h.2 ab)
    (repeat(first|((repeat(revert hN;revert N;apply Pn.out));refine wk (tw @a9 (tw @a0 (tw @a1 (tw @a7 (tw @a8 (tw @hk (tw @gy (tw @hg (tw @hd (tw @hw (tw @oL (tw @kN @jA)))))))))))) ?_;(repeat(refine Pn.mk ?_;intro N hN)))|((try apply Or.inl);refine⟨_,ae.x (hI) (sd (tw @a9 (tw @a0 (tw @a1 (tw @a7 (tw @a8 (tw @hk (tw @gy (tw @hg (tw @hd (tw @hw (tw @oL (tw @kN @jA))))))))))))),?_⟩;refine hN _ _ ?_;clear hN N)))
    exact aC (b:=false) (.inl rfl) (sd @Nat.zero_add) (s9 dX hr)
 ·have dX:k=l.length:=ab
  subst dX
  (try((repeat(revert hN;revert N;apply Pn.out));refine wk (tw @a9 (tw @a0 (tw @a1 (tw @a7 (tw @a8 (tw @hk @gy)))))) ?_;(repeat(refine Pn.mk ?_;intro N hN))))
  exact aC (b:=true) (.inl rfl) (sd @Nat.zero_add) (AD fun i hi=>iO i hi)
theorem G0:Of kf (fun c=>.sl (c.map au)) 1 false:=⟨fun _=>rfl,fun _=>rfl,fun x g=>by simp only[kf,ad,aj,cj,Option.map_some]⟩
theorem Ie (f:dF) (hc:f.ak.length<=9223372036854775807) (l:List Int) (hl:l.length<=1048576):ae Tryz.prog 120 [.sl (l.map au),.cJ (bc f)] (.bool (!m4 f.ak.length l)):=by
 refine ae.body dK rfl fun vC n0=>?_
 clear vC
 have h:=y9 l ab (f.ak.length:Int) ab ab
 have gx:(f.ak.map bh).length=f.ak.length:=by simp
 (repeat(first|((repeat(revert hN;revert N;apply Pn.out));refine wk (tw @bc.eq_1 @gx) ?_;(repeat(refine Pn.mk ?_;intro N hN)))|((try apply Or.inl);refine⟨_,ae.x (h) (sd (tw @bc.eq_1 @gx)),?_⟩;refine hN _ _ ?_;clear hN N)))
 exact aC (b:= !m4 f.ak.length l) (.inl rfl) (sd @Nat.zero_add) rfl
theorem Ca (n:Int):ae Tryz.prog 116 [.int .i64 n] (.bool (fJ n 1 4)):=by
 refine ae.body dK rfl fun hl n0=>?_
 clear hl
 have h:=iu n 1 4
 (repeat(first|((repeat(revert hN;revert N;apply Pn.out));refine wk @Nat.zero_add ?_;(repeat(refine Pn.mk ?_;intro N hN)))|((try apply Or.inl);refine⟨_,ae.x (h) (sd @Nat.zero_add),?_⟩;refine hN _ _ ?_;clear hN N)))
 exact aC (b:=fJ n 1 4) (.inl rfl) (sd @Nat.zero_add) rfl
theorem y8 (f:dF) (xV:f.aY.length<=1048576) (yR:∀l∈f.aY,l.length<=1048576):ae Tryz.prog 87 [.agg (bc f)] (.bool (nH f)):=by
 refine ae.body dK rfl fun hl n0=>?_
 have lu:f.ak.length<=9223372036854775807:=by
  have h1:=(hl (.agg (bc f)) (by simp)).GI (a:=.sl (f.ak.map bh)) (by simp[bc])
  simpa using h1.len
 clear hl
 have gx:(f.ak.map bh).length=f.ak.length:=by simp
 have iv:(f.aY.map kf).length=f.aY.length:=by simp
 have i1:=Ca f.aL
 have i2:=iu (f.aY.length:Int) 1 3
 have JU:ae Tryz.prog 119 [.sl (f.aY.map kf),.fn 120 [.cJ (bc f)]] (.bool (f.aY.any fun l=> !m4 f.ak.length l)):=
  ke G0 (show kO Tryz.prog 119=some (xQ 119 142) by kernel_rfl)
   (show kO Tryz.prog 142=some (rI 142 1 false) by kernel_rfl) f.aY xV _ _ _ rfl (fun g=>by rw[ad,aU,aj];rfl) (fun x hx=>Ie f lu x (yR x hx)) fun g=>by rw[ad,aU,aj];rfl
 have dk:(!(f.aY.any fun l=> !m4 f.ak.length l))=f.aY.all fun l=>m4 f.ak.length l:=by rw[List.all_eq_not_any_not]
 cases b1:fJ f.aL 1 4
 ·rw[b1]at i1
  (repeat(first|((repeat(revert hN;revert N;apply Pn.out));refine wk @bc.eq_1 ?_;(repeat(refine Pn.mk ?_;intro N hN)))|((try apply Or.inl);refine⟨_,ae.x (i1) (sd @bc.eq_1),?_⟩;refine hN _ _ ?_;clear hN N)))
  exact aC (b:=false) (.inl rfl) (sd @Nat.zero_add) (j9 (by rw[b1];rfl))
 rw[b1]at i1
 by_cases b3:(81:Int)<(f.ak.length:Int)
 ·(repeat(first|((repeat(revert hN;revert N;apply Pn.out));refine wk (tw @bc.eq_1 (tw @gx @b3)) ?_;(repeat(refine Pn.mk ?_;intro N hN)))|((try apply Or.inl);refine⟨_,ae.x (i1) (sd (tw @bc.eq_1 (tw @gx @b3))),?_⟩;refine hN _ _ ?_;clear hN N)))
  exact aC (b:=false) (.inl rfl) (sd @Nat.zero_add) (j9 (by rw[decide_eq_false (by omega:¬f.ak.length<=81),Bool.and_false]))
 cases b2:fJ (f.aY.length:Int) 1 3
 ·rw[b2]at i2
  (repeat(first|((repeat(revert hN;revert N;apply Pn.out));refine wk (tw @bc.eq_1 (tw @iv (tw @gx @b3))) ?_;(repeat(refine Pn.mk ?_;intro N hN)))|((try apply Or.inl);refine⟨_,ae.x (i1) (sd (tw @bc.eq_1 (tw @iv (tw @gx @b3)))),?_⟩;refine hN _ _ ?_;clear hN N)|((try apply Or.inl);refine⟨_,ae.x (i2) (sd (tw @bc.eq_1 (tw @iv (tw @gx @b3)))),?_⟩;refine hN _ _ ?_;clear hN N)))
  exact aC (b:=false) (.inl rfl) (sd @Nat.zero_add) (j9 (by rw[b1,b2];rfl))
 rw[b2]at i2
 have SC:(fJ f.aL 1 4&&fJ (f.aY.length:Int) 1 3&&decide (f.ak.length<=81))=true:=by rw[b1,b2,decide_eq_true ab];rfl
 have Nk:=dB b1
 rw[bc]at JU
 (repeat(first|((repeat(revert hN;revert N;apply Pn.out));refine wk (tw @bc.eq_1 (tw @iv (tw @gx @b3))) ?_;(repeat(refine Pn.mk ?_;intro N hN)))|((try apply Or.inl);refine⟨_,ae.x (i1) (sd (tw @bc.eq_1 (tw @iv (tw @gx @b3)))),?_⟩;refine hN _ _ ?_;clear hN N)|((try apply Or.inl);refine⟨_,ae.x (i2) (sd (tw @bc.eq_1 (tw @iv (tw @gx @b3)))),?_⟩;refine hN _ _ ?_;clear hN N)))
 refine aP (fun n env st=>∃k:Nat,n=(f.ak.length)-k/\k<=(f.ak.length)/\env 25=.int .i64 (k:Int)/\(∀j:Nat,j<k->lX f.aL f.ak j)/\(n0<st.next/\st.get ⟨87000000,n0⟩=some ⟨true,3,[[.int .i64 f.aL,.sl (f.ak.map bh),.sl (f.aY.map kf)]]⟩)) (f.ak.length) ⟨0,ab,ab,sl (tw @gx @iv),fun _ h=>absurd h (Nat.not_lt_zero _),by(try dsimp only);exact⟨ab,sd @Nat.zero_add⟩⟩ ?_
 rintro n_a env_a st_a ⟨k,rfl,ale,a25,iO,j0⟩ dm
 have a1:=dm 1 (by kernel_rfl);have oH:=dm 23 (by kernel_rfl);have oU:=dm 24 (by kernel_rfl)
 simp only[go_sem, ↓reduceIte,Nat.reduceEqDiff,Nat.reduceAdd,Nat.reduceSub,Nat.reduceLeDiff,reduceCtorEq,gx,iv]at a1 oH oU
 clear dm
 obtain⟨an,ag⟩:=j0
 by_cases hk:(k:Int)<(f.ak.length:Int)
 ·have bD:∀{e:Env} {gg:Rows} {nx:Nat},(e 25=.int .i64 (IntKind.i64.wrap ((k:Int)+1)))->(lX f.aL f.ak k)->(n0<nx/\gg ⟨87000000,n0⟩=some ⟨true,3,[[.int .i64 f.aL,.sl (f.ak.map bh),.sl (f.aY.map kf)]]⟩)->∃m0,m0<(f.ak.length)-k/\∃k:Nat,m0=(f.ak.length)-k/\k<=(f.ak.length)/\e 25=.int .i64 (k:Int)/\(∀j:Nat,j<k->lX f.aL f.ak j)/\(n0<nx/\gg ⟨87000000,n0⟩=some ⟨true,3,[[.int .i64 f.aL,.sl (f.ak.map bh),.sl (f.aY.map kf)]]⟩):=fun x1 x2 x3=>⟨_,ab,k+1,rfl,ab,(by rw[x1,ay ab]),(all_succ iO x2),x3⟩
  have dX:k<f.ak.length:=ab
  have hg:=sR dX
  have hC:=HJ f.aL Nk.1 Nk.2 (iI f.ak k)
  cases hc:oW f.aL (iI f.ak k)
  ·rw[hc]at hC
   rw[bh]at hC hg
   (repeat(first|((repeat(revert hN;revert N;apply Pn.out));refine wk (tw @a25 (tw @a1 (tw @oH (tw @oU (tw @hk (tw @gx (tw @hg @ag))))))) ?_;(repeat(refine Pn.mk ?_;intro N hN)))|((try apply Or.inl);refine⟨_,ae.x (hC) (sd (tw @a25 (tw @a1 (tw @oH (tw @oU (tw @hk (tw @gx (tw @hg @ag)))))))),?_⟩;refine hN _ _ ?_;clear hN N)))
   exact aC (b:=false) (.inl rfl) (sd @Nat.zero_add) (om dX fun h=>by rw[lX,hc]at h;cases h.1)
  rw[hc]at hC
  rcases k with _|k
  ·have hd:¬(0:Int)<((0:Nat):Int):=ab
   rw[bh]at hC hg
   (repeat(first|((repeat(revert hN;revert N;apply Pn.out));refine wk (tw @a25 (tw @a1 (tw @oH (tw @oU (tw @hk (tw @gx (tw @hg (tw @hd @ag)))))))) ?_;(repeat(refine Pn.mk ?_;intro N hN)))|((try apply Or.inl);refine⟨_,ae.x (hC) (sd (tw @a25 (tw @a1 (tw @oH (tw @oU (tw @hk (tw @gx (tw @hg (tw @hd @ag))))))))),?_⟩;refine hN _ _ ?_;clear hN N)))
   exact bD (sd (tw @a25 (tw @a1 (tw @oH @oU)))) (⟨hc,fun h=>absurd h (Nat.lt_irrefl 0)⟩) (by(try dsimp only);exact⟨ab,sd @ag⟩)
  ·have hd:(0:Int)<((k+1:Nat):Int):=ab
   have hw:IntKind.i64.wrap (((k+1:Nat):Int)-1)=(k:Int):=by rw[aT ab];omega
   have oL:=sR (l:=f.ak) (k:=k) ab
   have kN:(0:Int)<=(k:Int):=ab
   have hB:=tG (iI f.ak k) (iI f.ak (k+1))
   have Mz:=JB (iI f.ak k) (iI f.ak (k+1))
   generalize Eu (iI f.ak k) (iI f.ak (k+1))=z at hB Mz
   cases dD:qc (iI f.ak k) (iI f.ak (k+1))
   ·have hr:¬lX f.aL f.ak (k+1):=fun h=>by have h9:=h.2 ab;rw[Nat.add_sub_cancel,dD]at h9;cases h9
    rw[dD]at Mz
    have hz:0<=z:=of_decide_eq_true Mz
    rw[bh]at hC hg
    rw[bh]at oL
    rw[bh,bh]at hB
    (repeat(first|((repeat(revert hN;revert N;apply Pn.out));refine wk (tw @a25 (tw @a1 (tw @oH (tw @oU (tw @hk (tw @gx (tw @hg (tw @hd (tw @hw (tw @oL (tw @kN (tw @hz @ag)))))))))))) ?_;(repeat(refine Pn.mk ?_;intro N hN)))|((try apply Or.inl);refine⟨_,ae.x (hC) (sd (tw @a25 (tw @a1 (tw @oH (tw @oU (tw @hk (tw @gx (tw @hg (tw @hd (tw @hw (tw @oL (tw @kN (tw @hz @ag))))))))))))),?_⟩;refine hN _ _ ?_;clear hN N)|((try apply Or.inl);refine⟨_,ae.x (hB) (sd (tw @a25 (tw @a1 (tw @oH (tw @oU (tw @hk (tw @gx (tw @hg (tw @hd (tw @hw (tw @oL (tw @kN (tw @hz @ag))))))))))))),?_⟩;refine hN _ _ ?_;clear hN N)))
    exact aC (b:=false) (.inl rfl) (sd @Nat.zero_add) (om dX hr)
   ·have hr:lX f.aL f.ak (k+1):=⟨hc,fun _=>by rw[Nat.add_sub_cancel];exact dD⟩
    rw[dD]at Mz
    have hz:¬0<=z:=of_decide_eq_false Mz
    rw[bh]at hC hg
    rw[bh]at oL
    rw[bh,bh]at hB
    (repeat(first|((repeat(revert hN;revert N;apply Pn.out));refine wk (tw @a25 (tw @a1 (tw @oH (tw @oU (tw @hk (tw @gx (tw @hg (tw @hd (tw @hw (tw @oL (tw @kN (tw @hz @ag)))))))))))) ?_;(repeat(refine Pn.mk ?_;intro N hN)))|((try apply Or.inl);refine⟨_,ae.x (hC) (sd (tw @a25 (tw @a1 (tw @oH (tw @oU (tw @hk (tw @gx (tw @hg (tw @hd (tw @hw (tw @oL (tw @kN (tw @hz @ag))))))))))))),?_⟩;refine hN _ _ ?_;clear hN N)|((try apply Or.inl);refine⟨_,ae.x (hB) (sd (tw @a25 (tw @a1 (tw @oH (tw @oU (tw @hk (tw @gx (tw @hg (tw @hd (tw @hw (tw @oL (tw @kN (tw @hz @ag))))))))))))),?_⟩;refine hN _ _ ?_;clear hN N)))
    exact bD (sd (tw @a25 (tw @a1 (tw @oH @oU)))) (hr) (by(try dsimp only);exact⟨ab,sd @ag⟩)
 ·have dX:k=f.ak.length:=ab
  subst dX
  have ud:=wu SC fun i hi=>iO i hi
  (repeat(first|((repeat(revert hN;revert N;apply Pn.out));refine wk (tw @a25 (tw @a1 (tw @oH (tw @oU (tw @hk @ag))))) ?_;(repeat(refine Pn.mk ?_;intro N hN)))|((try apply Or.inl);refine⟨_,ae.x (JU) (sd (tw @a25 (tw @a1 (tw @oH (tw @oU (tw @hk @ag)))))),?_⟩;refine hN _ _ ?_;clear hN N)))
  exact aC (b:= !(f.aY.any fun l=> !m4 f.ak.length l)) (.inl rfl) (sd @Nat.zero_add) (by rw[dk,ud])
theorem BE (s:cl) (l:List aq) (f:dF) (hn:fA s.aE) (hm:pY s) (hl:l.length<=1048576) (xV:f.aY.length<=1048576) (yR:∀l∈f.aY,l.length<=1048576):ae Tryz.prog 58 [.agg (az s),.agg [.sl (l.map ai)],.agg (bc f)] (.int .i64 (if nw s l&&nH f then 0 else 1)):=by
 refine ae.body dK rfl fun vC n0=>?_
 clear vC
 have h1:=xN s l hn hm hl
 have h2:=y8 f xV yR
 rw[az]at h1 ⊢
 rw[bc]at h2 ⊢
 cases b1:nw s l
 ·rw[b1]at h1
  (repeat(first|((repeat(revert hN;revert N;apply Pn.out));refine wk @Nat.zero_add ?_;(repeat(refine Pn.mk ?_;intro N hN)))|((try apply Or.inl);refine⟨_,ae.x (h1) (sd @Nat.zero_add),?_⟩;refine hN _ _ ?_;clear hN N)))
  exact aZ (b:=1) (.inl rfl) (sd @Nat.zero_add) rfl
 rw[b1]at h1
 cases b2:nH f
 ·rw[b2]at h2
  (repeat(first|((repeat(revert hN;revert N;apply Pn.out));refine wk @Nat.zero_add ?_;(repeat(refine Pn.mk ?_;intro N hN)))|((try apply Or.inl);refine⟨_,ae.x (h1) (sd @Nat.zero_add),?_⟩;refine hN _ _ ?_;clear hN N)|((try apply Or.inl);refine⟨_,ae.x (h2) (sd @Nat.zero_add),?_⟩;refine hN _ _ ?_;clear hN N)))
  exact aZ (b:=1) (.inl rfl) (sd @Nat.zero_add) rfl
 ·rw[b2]at h2
  (repeat(first|((repeat(revert hN;revert N;apply Pn.out));refine wk @Nat.zero_add ?_;(repeat(refine Pn.mk ?_;intro N hN)))|((try apply Or.inl);refine⟨_,ae.x (h1) (sd @Nat.zero_add),?_⟩;refine hN _ _ ?_;clear hN N)|((try apply Or.inl);refine⟨_,ae.x (h2) (sd @Nat.zero_add),?_⟩;refine hN _ _ ?_;clear hN N)))
  exact aZ (b:=0) (.inl rfl) (sd @Nat.zero_add) rfl
end Go.Proofs.YtihgaadadaekmaaGreatDoor.V

namespace Go.Proofs.YtihgaadadaekmaaGreatDoor
open Go.RowKit
theorem AG (x:ByteArray) (l:List UInt8) (h:x.data.toList=l):x=⟨l.toArray⟩:=by
 subst h
 cases x
 simp
theorem FN (i:Nat) (h:i<100) (w:World):
  Calls Tryz.prog 158 #[.int .i64 i] w fun e w'=>e=.returned (.string ⟨(Lib.decDigits i).toArray⟩)/\w'=w:=by
 go_enter Tryz.func158,Tryz.ntmps158
 go_name_bytes_deep 45 SM hSM
 have eSM:SM=Lib.smalls:=by rw[<-hSM];decide+kernel
 subst eSM
 clear hSM
 go_name_bytes_deep 30 DG hDG
 have eDG:DG=Lib.digits36:=by rw[<-hDG];decide+kernel
 subst eDG
 clear hDG
 by_cases Dr:i<10
 ·have s4:∀w,(Instr.slice 9 (.string Lib.digits36) (some (.int .i64 (i:Int))) (some (.int .i64 ((i:Int)+1))) none).run Tryz.prog w=.ok (.string (Lib.digits36.extract i (i+1))) w:=fun w=>by
   rw[run_slice_string w 9 Lib.digits36 .i64 .i64 _ _ Tryz.underlying9 (by omega) (by omega) (by rw[Lib.digits36_size];omega),show((i:Int)).toNat=i by omega,show((i:Int)+1).toNat=i+1 by omega]
  go_wp2
  go_ret
  refine⟨?_,rfl⟩
  show Ending.returned (Value.string (Lib.digits36.extract i (i+1)))= _
  rw[AG (Lib.digits36.extract i (i+1)) (Lib.decDigits i) (by rw[Lib.extract_data];exact Lib.digits36_piece Dr)]
 ·have s4:∀w,(Instr.slice 9 (.string Lib.smalls) (some (.int .i64 ((i:Int)*2))) (some (.int .i64 ((i:Int)*2+2))) none).run Tryz.prog w=.ok (.string (Lib.smalls.extract (i*2) (i*2+2))) w:=fun w=>by
   rw[run_slice_string w 9 Lib.smalls .i64 .i64 _ _ Tryz.underlying9 (by omega) (by omega) (by rw[Lib.smalls_size];omega),show((i:Int)*2).toNat=i*2 by omega,show((i:Int)*2+2).toNat=i*2+2 by omega]
  go_wp2
  go_ret
  refine⟨?_,rfl⟩
  show Ending.returned (Value.string (Lib.smalls.extract (i*2) (i*2+2)))= _
  rw[AG (Lib.smalls.extract (i*2) (i*2+2)) (Lib.decDigits i) (by rw[Lib.extract_data];exact Lib.smalls_piece Dr h)]
theorem BG (i:Nat) (hi:i<100) (w:World):
  Calls Tryz.prog 143 #[.int .i64 i,.int .i64 10] w fun e w'=>e=.returned (.string ⟨(Lib.decDigits i).toArray⟩)/\w'=w:=by
 go_enter Tryz.func143,Tryz.ntmps143
 go_wp2_with (go_at_call 158;refine(FN i hi _).mono ?_;rintro e w' ⟨rfl,rfl⟩)
 go_ret
 exact⟨rfl,rfl⟩
theorem xx:∀n:Fin 100,(⟨(Lib.decDigits n.1).toArray⟩:ByteArray)=V.eb n.1:=by decide+kernel
namespace V
attribute [local irreducible] ea wpOps gS Call
attribute [local go_sem] aM fQ eM gi gh cE upd cu K.av cL AV.cells AV.cell rowOf rowsOf part ld rowAt bY ck dI eh ij bL da eA gp e8 du eo cY cX dV dW bR bm cQ bQ cT cR ej er ek cP bW cZ ei bP aQ cV cC ig bw cH bS aX dG bu dL AV.undef bF bH dY ef dU ec cF ez eF cw ev eu cU cW List.getD_cons_zero List.getD_cons_succ List.getD_nil List.all_cons List.all_nil Bool.and_true Bool.true_and Bool.and_self Bool.not_true Bool.not_false Option.map_some Option.map_none Option.bind_some Option.bind_none List.length_cons List.length_nil List.take_succ_cons List.take_zero List.take_nil List.drop_succ_cons List.drop_zero List.drop_nil List.head?_cons List.map_cons List.map_nil List.getElem?_cons_zero List.getElem?_cons_succ List.cons_append List.nil_append List.append_nil List.length_map List.set_cons_zero List.set_cons_succ Nat.reduceMul eq_self Int.toNat_natCast Int.natCast_nonneg and_self true_and and_true decide_true decide_false Bool.false_eq_true Nat.zero_add Nat.add_zero List.contains_cons List.contains_nil Bool.or_false Bool.false_or beq_self_eq_true Nat.reduceBEq ne_eq not_true_eq_false not_false_eq_true Id.mk.injEq false_and and_false Nat.reduceLT Int.reduceLE Int.reduceLT Int.reduceToNat Int.reduceNeg Int.reduceAdd Nat.le_refl List.length_append beq_true beq_false Bool.not_eq_eq_eq_not or_false false_or dE ad aj aI bE cj aV bf aU bo cN bG
theorem KP {P:Program} {w:World} {D:Nat->Prop} {ι:Names} {k m:Int} {vs:Array Value} (h:e9 P w D ι [.int .i64 k,.int .i64 m] vs):vs= #[.int .i64 k,.int .i64 m]:=by
 obtain⟨h1,h2⟩:=h
 obtain⟨u,hu,hr⟩:=h2 0 _ rfl
 rw[dh hr]at hu
 obtain⟨u2,OI,AY⟩:=h2 1 _ rfl
 rw[dh AY]at OI
 obtain⟨l⟩:=vs
 match l,h1 with
 |[a,b],_=>
  simp at hu OI
  rw[hu,OI]
theorem Hd (n:Nat) (h:n<100):ae Tryz.prog 143 [.int .i64 (n:Int),.int .i64 10] (.str (eb n)):=
 iq (vs0:= #[.int .i64 (n:Int),.int .i64 10]) (u0:=.string (eb n)) (fun _ _ _ _=>KP) (fun _ _ _=>.eK _ _ (.str _)) (fun g=>jz g 5 _) fun w=>(BG n h w).mono (by
  rintro e w' ⟨rfl,rfl⟩
  exact⟨by rw[xx ⟨n,h⟩],Below.refl _ _⟩)
theorem zJ (n:Nat) (h:n<100):ae Tryz.prog 122 [.int .i64 (n:Int),.int .i64 10] (.str (eb n)):=by
 refine ae.body dK rfl fun hl n0=>?_
 clear hl
 have h1:=Hd n h
 (repeat(first|((repeat(revert hN;revert N;apply Pn.out));refine wk @Nat.zero_add ?_;(repeat(refine Pn.mk ?_;intro N hN)))|((try apply Or.inl);refine⟨_,ae.x (h1) (sd @Nat.zero_add),?_⟩;refine hN _ _ ?_;clear hN N)))
 exact jY (.inl rfl) (vs:=[.str (eb n)]) (sd @Nat.zero_add) (by simp only[eB,jz])
theorem vR (n:Nat) (h:n<100):ae Tryz.prog 89 [.int .i64 (n:Int)] (.str (eb n)):=by
 refine ae.body dK rfl fun hl n0=>?_
 clear hl
 have h1:=zJ n h
 (repeat(first|((repeat(revert hN;revert N;apply Pn.out));refine wk @Nat.zero_add ?_;(repeat(refine Pn.mk ?_;intro N hN)))|((try apply Or.inl);refine⟨_,ae.x (h1) (sd @Nat.zero_add),?_⟩;refine hN _ _ ?_;clear hN N)))
 exact jY (.inl rfl) (vs:=[.str (eb n)]) (sd @Nat.zero_add) (by simp only[eB,jz])
theorem ux (u:ByteArray) (hu:u.size<=1000) (n:Nat) (h:n<100):ae Tryz.prog 74 [.str u,.int .i64 (n:Int)] (.str (u++eb n)):=by
 refine ae.body dK rfl fun hl n0=>?_
 clear hl
 have h1:=vR n h
 have h2:u.size+(eb n).size<=9223372036854775807:=by have:=iV n;omega
 generalize eb n=d at h1 h2 ⊢
 (repeat(first|((repeat(revert hN;revert N;apply Pn.out));refine wk @h2 ?_;(repeat(refine Pn.mk ?_;intro N hN)))|((try apply Or.inl);refine⟨_,ae.x (h1) (sd @h2),?_⟩;refine hN _ _ ?_;clear hN N)))
 exact jY (.inl rfl) (vs:=[.str (u++d)]) (sd @Nat.zero_add) (by simp only[eB,jz])
theorem Cq (nm u:ByteArray) (hu:u.size<=1000) (pC:Nat) (PX:pC<=10):ae Tryz.prog 43 [.str nm,.str u,.int .i64 (pC:Int)] (.int .i64 (jH nm u pC)):=by
 refine ae.body dK rfl fun hl n0=>?_
 clear hl
 (try((repeat(revert hN;revert N;apply Pn.out));refine wk @Nat.zero_add ?_;(repeat(refine Pn.mk ?_;intro N hN))))
 refine aP (fun n env st=>∃k:Nat,n=(pC)-k/\k<=(pC)/\env 9=.int .i64 (k:Int)/\(∀j:Nat,j<k->nm≠u++eb j)) (pC) ⟨0,by omega,by omega,sl @Nat.zero_add,fun _ h=>absurd h (Nat.not_lt_zero _)⟩ ?_
 rintro n_a env_a st_a ⟨k,rfl,ale,a9,iO⟩ dm
 have a0:=dm 0 (by kernel_rfl);have a1:=dm 1 (by kernel_rfl);have a8:=dm 8 (by kernel_rfl)
 simp only[go_sem, ↓reduceIte,Nat.reduceEqDiff,Nat.reduceAdd,Nat.reduceSub,Nat.reduceLeDiff,reduceCtorEq]at a0 a1 a8
 clear dm
 by_cases hk:(k:Int)<(pC:Int)
 ·have bD:∀{e:Env},(e 9=.int .i64 (IntKind.i64.wrap ((k:Int)+1)))->(nm≠u++eb k)->∃m0,m0<(pC)-k/\∃k:Nat,m0=(pC)-k/\k<=(pC)/\e 9=.int .i64 (k:Int)/\(∀j:Nat,j<k->nm≠u++eb j):=fun x1 x2=>⟨_,by omega,k+1,rfl,by omega,(by rw[x1,ay (by omega)]),(all_succ iO x2)⟩
  have dX:k<pC:=by omega
  have JZ:=ux u hu k (by omega)
  have oM:=zw (nm:=nm) (pre:=u) dX PX
  by_cases he:nm=u++eb k
  ·have hd:=decide_eq_true he
   have hv:=oM.1 he
   (repeat(first|((repeat(revert hN;revert N;apply Pn.out));refine wk (tw @a9 (tw @a0 (tw @a1 (tw @a8 (tw @hk @hd))))) ?_;(repeat(refine Pn.mk ?_;intro N hN)))|((try apply Or.inl);refine⟨_,ae.x (JZ) (sd (tw @a9 (tw @a0 (tw @a1 (tw @a8 (tw @hk @hd)))))),?_⟩;refine hN _ _ ?_;clear hN N)))
   exact aZ (b:=(k:Int)) (.inl rfl) (sd @Nat.zero_add) hv.symm
  ·have hd:=decide_eq_false he
   (repeat(first|((repeat(revert hN;revert N;apply Pn.out));refine wk (tw @a9 (tw @a0 (tw @a1 (tw @a8 (tw @hk @hd))))) ?_;(repeat(refine Pn.mk ?_;intro N hN)))|((try apply Or.inl);refine⟨_,ae.x (JZ) (sd (tw @a9 (tw @a0 (tw @a1 (tw @a8 (tw @hk @hd)))))),?_⟩;refine hN _ _ ?_;clear hN N)))
   exact bD (sd (tw @a9 (tw @a0 (tw @a1 @a8)))) (he)
 ·have lx:k=pC:=by omega
  subst lx
  (try((repeat(revert hN;revert N;apply Pn.out));refine wk (tw @a9 (tw @a0 (tw @a1 (tw @a8 @hk)))) ?_;(repeat(refine Pn.mk ?_;intro N hN))))
  exact aZ (b:=-1) (.inl rfl) (sd @Nat.zero_add) (EH PX fun n hn=>iO n hn).symm
theorem zP (s:ar) (hF:iG s) (l:List aq) (hA:re s l) (p:cr) (d:Int) (hd:fJ d 0 3=true):ae Tryz.prog 44 [.agg (aa s),.agg [.sl (l.map ai)],.agg (ao p),.int .i64 d] (.str (BL s l p d)):=by
 refine ae.body dK rfl fun hl n0=>?_
 have hn:s.aw.length<=9223372036854775807:=by
  have h1:=(hl (.agg (aa s)) (by simp)).GI (a:=.sl (s.aw.map bd)) (by simp[aa])
  simpa using h1.len
 clear hl
 have xR:=RF l p hA.1.Rt (by have:=hA.1.Gc;omega)
 rw[ao]at xR ⊢
 by_cases h0:vW l p<0
 ·(repeat(first|((repeat(revert hN;revert N;apply Pn.out));refine wk (tw @aa.eq_1 @h0) ?_;(repeat(refine Pn.mk ?_;intro N hN)))|((try apply Or.inl);refine⟨_,ae.x (xR) (sd (tw @aa.eq_1 @h0)),?_⟩;refine hN _ _ ?_;clear hN N)))
  exact jY (.inl rfl) (vs:=[.str ⟨#[]⟩]) (sd @Nat.zero_add) (by rw[BL,if_pos h0];simp only[eB,jz])
 ·have ht:=zb hA (p:=p) (by omega)
  have hg:BL s l p d=if dc (dd s (vW l p)) d=0 then⟨#[]⟩else(iD s (dc (dd s (vW l p)) d-1)).aB:=by rw[BL,if_neg h0]
  rw[hg]
  generalize vW l p=t at xR h0 ht
  obtain⟨a0,a1,a2⟩:=kH ht
  have s1:=kE (hF.nV _ a2) hd
  have gl:=hF.sf _ a2 _ (qI (hF.nV _ a2) hd)
  have d0:=(dB hd).1
  generalize dc (dd s t) d=g at s1 gl ⊢
  by_cases MJ:g=0
  ·have e:=decide_eq_true MJ
   (repeat(first|((repeat(revert hN;revert N;apply Pn.out));refine wk (tw @aa.eq_1 (tw @bj.eq_1 (tw @h0 (tw @a0 (tw @a1 (tw @s1 (tw @d0 @e))))))) ?_;(repeat(refine Pn.mk ?_;intro N hN)))|((try apply Or.inl);refine⟨_,ae.x (xR) (sd (tw @aa.eq_1 (tw @bj.eq_1 (tw @h0 (tw @a0 (tw @a1 (tw @s1 (tw @d0 @e)))))))),?_⟩;refine hN _ _ ?_;clear hN N)))
   exact jY (.inl rfl) (vs:=[.str ⟨#[]⟩]) (sd @Nat.zero_add) (by rw[if_pos MJ];simp only[eB,jz])
  ·have e:=decide_eq_false MJ
   have hw:IntKind.i64.wrap (g-1)=g-1:=aT (by omega)
   have jA:0<=g-1:=by omega
   have dR:(s.aw.map bd)[(g-1).toNat]? =some (bd (iD s (g-1))):=getD_map bd (by omega)
   (repeat(first|((repeat(revert hN;revert N;apply Pn.out));refine wk (tw @aa.eq_1 (tw @bj.eq_1 (tw @h0 (tw @a0 (tw @a1 (tw @s1 (tw @d0 (tw @e (tw @hw (tw @jA (tw @dR @bd.eq_1))))))))))) ?_;(repeat(refine Pn.mk ?_;intro N hN)))|((try apply Or.inl);refine⟨_,ae.x (xR) (sd (tw @aa.eq_1 (tw @bj.eq_1 (tw @h0 (tw @a0 (tw @a1 (tw @s1 (tw @d0 (tw @e (tw @hw (tw @jA (tw @dR @bd.eq_1)))))))))))),?_⟩;refine hN _ _ ?_;clear hN N)))
   exact jY (.inl rfl) (vs:=[.str (iD s (g-1)).aB]) (sd @Nat.zero_add) (by rw[if_neg MJ];simp only[eB,jz])
end V
end Go.Proofs.YtihgaadadaekmaaGreatDoor

namespace Go.Proofs.YtihgaadadaekmaaGreatDoor.V
open Go.RowKit
attribute [local irreducible] ea wpOps gS Call
attribute [local go_sem] aM fQ eM gi gh cE upd cu K.av cL AV.cells AV.cell rowOf rowsOf part ld rowAt bY ck dI eh ij bL da eA gp e8 du eo cY cX dV dW bR bm cQ bQ cT cR ej er ek cP bW cZ ei bP aQ cV cC ig bw cH bS aX dG bu dL AV.undef bF bH dY ef dU ec cF ez eF cw ev eu cU cW List.getD_cons_zero List.getD_cons_succ List.getD_nil List.all_cons List.all_nil Bool.and_true Bool.true_and Bool.and_self Bool.not_true Bool.not_false Option.map_some Option.map_none Option.bind_some Option.bind_none List.length_cons List.length_nil List.take_succ_cons List.take_zero List.take_nil List.drop_succ_cons List.drop_zero List.drop_nil List.head?_cons List.map_cons List.map_nil List.getElem?_cons_zero List.getElem?_cons_succ List.cons_append List.nil_append List.append_nil List.length_map List.set_cons_zero List.set_cons_succ Nat.reduceMul eq_self Int.toNat_natCast Int.natCast_nonneg and_self true_and and_true decide_true decide_false Bool.false_eq_true Nat.zero_add Nat.add_zero List.contains_cons List.contains_nil Bool.or_false Bool.false_or beq_self_eq_true Nat.reduceBEq ne_eq not_true_eq_false not_false_eq_true Id.mk.injEq false_and and_false Nat.reduceLT Int.reduceLE Int.reduceLT Int.reduceToNat Int.reduceNeg Int.reduceAdd Nat.le_refl List.length_append beq_true beq_false Bool.not_eq_eq_eq_not or_false false_or dE ad aj aI bE cj aV bf aU bo cN bG
theorem Ip (u:ByteArray) (hu:u.size<=900) (a b:Nat) (ha:a<100) (hb:b<100):ae Tryz.prog 62 [.str u,.int .i64 (a:Int),.int .i64 (b:Int)] (.str (((u++eb a)++⟨#[95]⟩)++eb b)):=by
 refine ae.body dK rfl fun hl n0=>?_
 clear hl
 have h1:=ux u ab a ha
 have h2:=vR b hb
 have z1:=iV a
 have z2:=iV b
 have y2:(#[95]:Array UInt8).size=1:=rfl
 have q1:u.size+(eb a).size+(#[95]:Array UInt8).size<=9223372036854775807:=ab
 have q2:u.size+(eb a).size+(#[95]:Array UInt8).size+(eb b).size<=9223372036854775807:=ab
 (repeat(first|((repeat(revert hN;revert N;apply Pn.out));refine wk (tw @q1 @q2) ?_;(repeat(refine Pn.mk ?_;intro N hN)))|((try apply Or.inl);refine⟨_,ae.x (h1) (sd (tw @q1 @q2)),?_⟩;refine hN _ _ ?_;clear hN N)|((try apply Or.inl);refine⟨_,ae.x (h2) (sd (tw @q1 @q2)),?_⟩;refine hN _ _ ?_;clear hN N)))
 exact jY (.inl rfl) (vs:=[.str (((u++eb a)++⟨#[95]⟩)++eb b)]) (sd @Nat.zero_add) (by simp only[eB,jz])
theorem xd (s:cl) (a:dj) (f:dF) (hn:fA s.aE) (hm:pY s) (hl:a.ah.length<=1048576) (xV:f.aY.length<=1048576) (yR:∀l∈f.aY,l.length<=1048576):
  LR Tryz.prog 32 [.agg (az s),.agg (aD a),.agg (bc f)] (pH s a f):=by
 obtain⟨l⟩:=a
 intro n0
 have h1:=BE s l f hn hm hl xV yR
 rw[aD]
 (try dsimp only)
 cases hask:nw s l&&nH f
 ·rw[hask]at h1
  have hr:pH s ⟨l⟩ f=([],1):=by rw[pH,hask];rfl
  rw[hr]
  refine eX dK rfl fun vC=>?_
  clear vC
  rw[az,bc]at h1 ⊢
  (repeat(first|((repeat(revert hN;revert N;apply Pn.out));refine wk @Nat.zero_add ?_;(repeat(refine Pn.mk ?_;intro N hN)))|((try apply Or.inl);refine⟨_,ae.x (h1) (sd @Nat.zero_add),?_⟩;refine hN _ _ ?_;clear hN N)))
  exact gn (.inl rfl) (vs:=[.bK,.int .i64 1]) (sd @Nat.zero_add) ⟨[],⟨.bK,[],rfl,.inl ⟨rfl,rfl,rfl⟩,rfl⟩,⟨List.nodup_nil,fun i hi=>by cases hi⟩⟩
 rw[hask]at h1
 have hr:pH s ⟨l⟩ f=ye (fc s.aE l f) f.ak.length:=by rw[pH,hask];rfl
 obtain⟨R,hR⟩:∃R:List Int×Int,pH s ⟨l⟩ f=R:=⟨_,rfl⟩
 rw[hR]at hr ⊢
 clear hR
 obtain⟨Si,lv⟩:=Bool.and_eq_true_iff.1 hask
 obtain⟨hP,hA⟩:=za.1 Si
 obtain⟨Nk,ksu,kcu⟩:=Dp lv
 have gx:(f.ak.map bh).length=f.ak.length:=by simp
 have iv:(f.aY.map kf).length=f.aY.length:=by simp
 refine eX dK rfl fun vC=>?_
 clear vC
 rw[az,bc]at h1
 have pP:=fun k:Nat=>zP s.aE hP.set.form l hA ⟨f.aL,(k:Int)+1⟩ 1 (nK ab)
 rw[aa]at pP
 rw[az,bc]
 (repeat(first|((repeat(revert hN;revert N;apply Pn.out));refine wk (tw @gx @iv) ?_;(repeat(refine Pn.mk ?_;intro N hN)))|((try apply Or.inl);refine⟨_,ae.x (h1) (sd (tw @gx @iv)),?_⟩;refine hN _ _ ?_;clear hN N)))
 refine aP (fun n env st=>∃k:Nat,n=(f.ak.length)-k/\k<=(f.ak.length)/\env 22=.int .i64 (k:Int)/\(∀j:Nat,j<k->0<=fc s.aE l f j)/\(OT 32011003 n0 (kS (fc s.aE l f) k) (env 9) st.get st.next/\n0<st.next/\st.get ⟨32000000,n0⟩=some ⟨true,4,[[.sl (s.aE.aw.map bd),.sl (s.aE.ah.map bj),.sl (s.bZ.ah.map ai),.int .i64 s.aH]]⟩/\st.get ⟨32000001,n0⟩=some ⟨true,1,[[.sl (l.map ai)]]⟩/\st.get ⟨32000002,n0⟩=some ⟨true,3,[[.int .i64 f.aL,.sl (f.ak.map bh),.sl (f.aY.map kf)]]⟩)) (f.ak.length) ⟨0,ab,ab,sl (tw @gx @iv),fun _ h=>absurd h (Nat.not_lt_zero _),by(try dsimp only);exact⟨.inl ⟨rfl,sd @Nat.zero_add⟩,ab,sd @Nat.zero_add,sd @Nat.zero_add,sd @Nat.zero_add⟩⟩ ?_
 rintro n_a env_a st_a ⟨k,rfl,ale,oG,iO,j0⟩ dm
 have a3:=dm 3 (by kernel_rfl);have a4:=dm 4 (by kernel_rfl);have a5:=dm 5 (by kernel_rfl);have tt:=dm 21 (by kernel_rfl)
 simp only[go_sem, ↓reduceIte,Nat.reduceEqDiff,Nat.reduceAdd,Nat.reduceSub,Nat.reduceLeDiff,reduceCtorEq,gx,iv]at a3 a4 a5 tt
 clear dm
 obtain⟨aG,an,C3,C4,C5⟩:=j0
 by_cases hk:(k:Int)<(f.ak.length:Int)
 ·have bD:∀{e:Env} {gg:Rows} {nx:Nat},(e 22=.int .i64 (IntKind.i64.wrap ((k:Int)+1)))->(0<=fc s.aE l f k)->(OT 32011003 n0 (kS (fc s.aE l f) (k+1)) (e 9) gg nx/\n0<nx/\gg ⟨32000000,n0⟩=some ⟨true,4,[[.sl (s.aE.aw.map bd),.sl (s.aE.ah.map bj),.sl (s.bZ.ah.map ai),.int .i64 s.aH]]⟩/\gg ⟨32000001,n0⟩=some ⟨true,1,[[.sl (l.map ai)]]⟩/\gg ⟨32000002,n0⟩=some ⟨true,3,[[.int .i64 f.aL,.sl (f.ak.map bh),.sl (f.aY.map kf)]]⟩)->∃m0,m0<(f.ak.length)-k/\∃k:Nat,m0=(f.ak.length)-k/\k<=(f.ak.length)/\e 22=.int .i64 (k:Int)/\(∀j:Nat,j<k->0<=fc s.aE l f j)/\(OT 32011003 n0 (kS (fc s.aE l f) k) (e 9) gg nx/\n0<nx/\gg ⟨32000000,n0⟩=some ⟨true,4,[[.sl (s.aE.aw.map bd),.sl (s.aE.ah.map bj),.sl (s.bZ.ah.map ai),.int .i64 s.aH]]⟩/\gg ⟨32000001,n0⟩=some ⟨true,1,[[.sl (l.map ai)]]⟩/\gg ⟨32000002,n0⟩=some ⟨true,3,[[.int .i64 f.aL,.sl (f.ak.map bh),.sl (f.aY.map kf)]]⟩):=fun x1 x2 x3=>⟨_,ab,k+1,rfl,ab,(by rw[x1,ay ab]),(all_succ iO x2),x3⟩
  have dX:k<f.ak.length:=ab
  have Ho:=pP k
  rw[ao]at Ho
  have P5:ae Tryz.prog 43 [.str (BL s.aE l ⟨f.aL,(k:Int)+1⟩ 1),.str (vN k f.aL.toNat),.int .i64 2] (.int .i64 (jH (BL s.aE l ⟨f.aL,(k:Int)+1⟩ 1) (vN k f.aL.toNat) 2)):=Cq _ (vN k f.aL.toNat) (by have:=wW k f.aL.toNat;omega) 2 ab
  have j5:IntKind.i64.wrap ((k:Int)+1)=(k:Int)+1:=aT ab
  have Rn:=Ip ⟨#[112]⟩ (by decide) k f.aL.toNat ab ab
  rw[show(f.aL.toNat:Int)=f.aL by omega]at Rn
  have SY:vN k f.aL.toNat=(((⟨#[112]⟩++eb k)++⟨#[95]⟩)++eb f.aL.toNat)++⟨#[95]⟩:=rfl
  have z1:=iV k
  have z2:=iV f.aL.toNat
  have y1:(#[112]:Array UInt8).size=1:=rfl
  have y2:(#[95]:Array UInt8).size=1:=rfl
  have q4:(#[112]:Array UInt8).size+(eb k).size+(#[95]:Array UInt8).size+(eb f.aL.toNat).size+(#[95]:Array UInt8).size<=9223372036854775807:=ab
  obtain⟨v,hv⟩:∃v,fc s.aE l f k=v:=⟨_,rfl⟩
  have Tb:jH (BL s.aE l ⟨f.aL,(k:Int)+1⟩ 1) (vN k f.aL.toNat) 2=v:=hv
  rw[Tb,SY]at P5
  generalize BL s.aE l ⟨f.aL,(k:Int)+1⟩ 1=nm at Ho P5
  by_cases jO:v<0
  ·rw[DO dX (by rw[hv];exact jO)]at hr
   subst hr
   (repeat(first|((repeat(revert hN;revert N;apply Pn.out));refine wk (tw @oG (tw @a3 (tw @a4 (tw @a5 (tw @tt (tw @hk (tw @gx (tw @iv (tw @C3 (tw @C4 (tw @C5 (tw @jO (tw @j5 @q4))))))))))))) ?_;(repeat(refine Pn.mk ?_;intro N hN)))|((try apply Or.inl);refine⟨_,ae.x (Ho) (sd (tw @oG (tw @a3 (tw @a4 (tw @a5 (tw @tt (tw @hk (tw @gx (tw @iv (tw @C3 (tw @C4 (tw @C5 (tw @jO (tw @j5 @q4)))))))))))))),?_⟩;refine hN _ _ ?_;clear hN N)|((try apply Or.inl);refine⟨_,ae.x (Rn) (sd (tw @oG (tw @a3 (tw @a4 (tw @a5 (tw @tt (tw @hk (tw @gx (tw @iv (tw @C3 (tw @C4 (tw @C5 (tw @jO (tw @j5 @q4)))))))))))))),?_⟩;refine hN _ _ ?_;clear hN N)|((try apply Or.inl);refine⟨_,ae.x (P5) (sd (tw @oG (tw @a3 (tw @a4 (tw @a5 (tw @tt (tw @hk (tw @gx (tw @iv (tw @C3 (tw @C4 (tw @C5 (tw @jO (tw @j5 @q4)))))))))))))),?_⟩;refine hN _ _ ?_;clear hN N)))
   exact gn (.inl rfl) (vs:=[.bK,.int .i64 9]) (sd @Nat.zero_add) ⟨[],⟨.bK,[],rfl,.inl ⟨rfl,rfl,rfl⟩,rfl⟩,⟨List.nodup_nil,fun i hi=>by cases hi⟩⟩
  ·have OH:(kS (fc s.aE l f) (k+1)).map au=(kS (fc s.aE l f) k).map au++[[.int .i64 v]]:=by rw[wP,List.map_append,hv];rfl
   have s4:=nL (fc s.aE l f) (k+1)
   have vD:=nL (fc s.aE l f) k
   have qW:k<=16777215:=ab
   generalize kS (fc s.aE l f) k=M at aG OH vD
   rcases aG with⟨hM,a9⟩|⟨u,a9,hu,hum,Jo,yS,Qd⟩
   ·subst hM
    (repeat(first|((repeat(revert hN;revert N;apply Pn.out));refine wk (tw @oG (tw @a3 (tw @a4 (tw @a5 (tw @tt (tw @hk (tw @gx (tw @iv (tw @C3 (tw @C4 (tw @C5 (tw @jO (tw @a9 (tw @j5 @q4)))))))))))))) ?_;(repeat(refine Pn.mk ?_;intro N hN)))|((try apply Or.inl);refine⟨_,ae.x (Ho) (sd (tw @oG (tw @a3 (tw @a4 (tw @a5 (tw @tt (tw @hk (tw @gx (tw @iv (tw @C3 (tw @C4 (tw @C5 (tw @jO (tw @a9 (tw @j5 @q4))))))))))))))),?_⟩;refine hN _ _ ?_;clear hN N)|((try apply Or.inl);refine⟨_,ae.x (Rn) (sd (tw @oG (tw @a3 (tw @a4 (tw @a5 (tw @tt (tw @hk (tw @gx (tw @iv (tw @C3 (tw @C4 (tw @C5 (tw @jO (tw @a9 (tw @j5 @q4))))))))))))))),?_⟩;refine hN _ _ ?_;clear hN N)|((try apply Or.inl);refine⟨_,ae.x (P5) (sd (tw @oG (tw @a3 (tw @a4 (tw @a5 (tw @tt (tw @hk (tw @gx (tw @iv (tw @C3 (tw @C4 (tw @C5 (tw @jO (tw @a9 (tw @j5 @q4))))))))))))))),?_⟩;refine hN _ _ ?_;clear hN N)))
    exact bD (sd (tw @oG (tw @a3 (tw @a4 (tw @a5 (tw @tt @j5)))))) (by rw[hv];omega) (by(try dsimp only);exact⟨.inr ⟨⟨32011003,st_a.next+1+1+1+1⟩,by rw[s4,<-vD];simp only[go_sem, ↓reduceIte,Nat.reduceEqDiff,Nat.reduceAdd,Nat.reduceSub,Nat.reduceLeDiff,reduceCtorEq]<;>rfl,by rw[OH];simp only[go_sem, ↓reduceIte,Nat.reduceEqDiff,Nat.reduceAdd,Nat.reduceSub,Nat.reduceLeDiff,reduceCtorEq]<;>rfl,bt,bt,by rw[s4];omega,rfl⟩,ab,sd @C3,sd @C4,sd @C5⟩)
   ·have vu:=eP Jo
    have Gi:(M.map au).length=M.length:=by simp
    have Q1:M.length<=16777215:=ab
    have u3:((⟨32000000,n0⟩:Id)=u)=False:=eq_false fun e=>by
     have h:=congrArg Id.site e
     rw[Qd]at h
     exact absurd (show(32000000:Nat)=32011003 from h) (by decide)
    have u4:((⟨32000001,n0⟩:Id)=u)=False:=eq_false fun e=>by
     have h:=congrArg Id.site e
     rw[Qd]at h
     exact absurd (show(32000001:Nat)=32011003 from h) (by decide)
    have u5:((⟨32000002,n0⟩:Id)=u)=False:=eq_false fun e=>by
     have h:=congrArg Id.site e
     rw[Qd]at h
     exact absurd (show(32000002:Nat)=32011003 from h) (by decide)
    (repeat(first|((repeat(revert hN;revert N;apply Pn.out));refine wk (tw @oG (tw @a3 (tw @a4 (tw @a5 (tw @tt (tw @hk (tw @gx (tw @iv (tw @C3 (tw @C4 (tw @C5 (tw @jO (tw @a9 (tw @hu (tw @vu (tw @Gi (tw @Q1 (tw @j5 @q4)))))))))))))))))) ?_;(repeat(refine Pn.mk ?_;intro N hN)))|((try apply Or.inl);refine⟨_,ae.x (Ho) (sd (tw @oG (tw @a3 (tw @a4 (tw @a5 (tw @tt (tw @hk (tw @gx (tw @iv (tw @C3 (tw @C4 (tw @C5 (tw @jO (tw @a9 (tw @hu (tw @vu (tw @Gi (tw @Q1 (tw @j5 @q4))))))))))))))))))),?_⟩;refine hN _ _ ?_;clear hN N)|((try apply Or.inl);refine⟨_,ae.x (Rn) (sd (tw @oG (tw @a3 (tw @a4 (tw @a5 (tw @tt (tw @hk (tw @gx (tw @iv (tw @C3 (tw @C4 (tw @C5 (tw @jO (tw @a9 (tw @hu (tw @vu (tw @Gi (tw @Q1 (tw @j5 @q4))))))))))))))))))),?_⟩;refine hN _ _ ?_;clear hN N)|((try apply Or.inl);refine⟨_,ae.x (P5) (sd (tw @oG (tw @a3 (tw @a4 (tw @a5 (tw @tt (tw @hk (tw @gx (tw @iv (tw @C3 (tw @C4 (tw @C5 (tw @jO (tw @a9 (tw @hu (tw @vu (tw @Gi (tw @Q1 (tw @j5 @q4))))))))))))))))))),?_⟩;refine hN _ _ ?_;clear hN N)))
    exact bD (sd (tw @oG (tw @a3 (tw @a4 (tw @a5 (tw @tt @j5)))))) (by rw[hv];omega) (by(try dsimp only);exact⟨.inr ⟨⟨32011003,st_a.next+1+1+1+1⟩,by rw[s4,<-vD];simp only[go_sem, ↓reduceIte,Nat.reduceEqDiff,Nat.reduceAdd,Nat.reduceSub,Nat.reduceLeDiff,reduceCtorEq]<;>rfl,by rw[OH];simp only[go_sem, ↓reduceIte,Nat.reduceEqDiff,Nat.reduceAdd,Nat.reduceSub,Nat.reduceLeDiff,reduceCtorEq]<;>rfl,bt,bt,by rw[s4];omega,rfl⟩,ab,sd (tw @u3 @C3),sd (tw @u4 @C4),sd (tw @u5 @C5)⟩)
 ·have dX:k=f.ak.length:=ab
  have hy:=Ak (D:=fc s.aE l f) (n:=f.ak.length) fun j hj=>iO j ab
  rw[hy]at hr
  subst hr
  rw[dX]at aG
  obtain⟨ids,ho,hi⟩:=aG.out
  obtain⟨v9,S7⟩:∃v,env_a 9=v:=⟨_,rfl⟩
  rw[S7]at ho
  (try((repeat(revert hN;revert N;apply Pn.out));refine wk (tw @oG (tw @a3 (tw @a4 (tw @a5 (tw @tt (tw @hk @S7)))))) ?_;(repeat(refine Pn.mk ?_;intro N hN))))
  exact gn (.inl rfl) (vs:=[v9,.int .i64 0]) (sd @S7) ⟨ids,⟨v9,ids,rfl,ho,rfl⟩,hi.wide (Nat.le_refl _) bt⟩
end Go.Proofs.YtihgaadadaekmaaGreatDoor.V

namespace Go.Proofs.YtihgaadadaekmaaGreatDoor
open Go.ChangeShapes Go.WideShapes Go.ChangeAt Go.RowKit Go.Deep
section
variable {H:Type} {enc:TypeId×Value->H} {P:Program} {w:World}
theorem lf.Qv {α:Type} {rep:World->List Nat->List Value->α->Prop} {sz:Nat} {w:World} {b o len cap:Nat} (nC:Nat->List Value) (fs:Nat->List Nat) (ds:Nat->α) (hc:len<=cap) (hm:cap<=maxLen)
  (hl:∀i,i<len->(nC i).length=sz) (hr:∀i,i<len->rep w (fs i) (nC i) (ds i)) (xR:∀i,i<len->∀j u,(nC i)[j]? =some u->w.cell? ⟨b,o+(i*sz+j),none⟩=some u):
  lf rep sz w ([b]++((List.range len).map fs).flatten) (.slice (some ⟨b,o,none⟩) len cap) ((List.range len).map ds):=by
 refine⟨(List.range len).map nC,(List.range len).map fs,[b],rfl,⟨some ⟨b,o,none⟩,cap,by simp,by simpa using hc,hm,.inr ⟨b,o,rfl,rfl,fun j u hj=>?_⟩⟩,by simp,by simp,fun i cs f d h1 h2 h3=>?_⟩
 ·have hlen:∀cs∈(List.range len).map nC,cs.length=sz:=fun cs dq=>by
   obtain⟨i,hi,rfl⟩:=List.mem_map.1 dq
   exact hl i (List.mem_range.1 hi)
  have gN:=(List.getElem?_eq_some_iff.1 hj).1
  have JT:((List.range len).map nC).flatten.length=len*sz:=by
   rw[List.length_flatten,List.map_map]
   have:∀(l:List Nat),(∀i∈l,i<len)->(l.map (List.length∘nC)).sum=l.length*sz:=by
    intro l
    induction l with
    |nil=>intro _;simp
    |cons a l ih=>intro h;rw[List.map_cons,List.sum_cons,ih fun i hi=>h i (List.mem_cons_of_mem _ hi)];simp only[Function.comp,hl a (h a (by simp)),List.length_cons,Nat.add_mul];omega
   rw[this _ fun i hi=>List.mem_range.1 hi,List.length_range]
  rw[JT]at gN
  have EZ:0<sz:=by
   rcases Nat.eq_zero_or_pos sz with h|h
   ·subst h;simp at gN
   ·exact h
  have hi:j / sz<len:=(Nat.div_lt_iff_lt_mul EZ).2 gN
  have Jj:j % sz<sz:=Nat.mod_lt _ EZ
  have JX:j=(j / sz)*sz+j % sz:=by rw[Nat.mul_comm];exact(Nat.div_add_mod j sz).symm
  rw[JX,sa hlen (i:=j / sz) (cs:=nC (j / sz)) (by simp[hi]) Jj]at hj
  rw[JX]
  have:=xR (j / sz) hi (j % sz) u hj
  rw[<-JX]at this ⊢
  exact this
 ·have hi:i<len:=by
   have:=(List.getElem?_eq_some_iff.1 h1).1
   simpa using this
  simp[hi]at h1 h2 h3
  subst h1 h2 h3
  exact⟨hr i hi,hl i hi⟩
theorem jP (b o k:Nat):(⟨b,o,none⟩:Addr).add k=⟨b,o+k,none⟩:=by
 unfold Addr.add;split
 ·rename_i h;subst h;rfl
 ·rfl
theorem kb {α:Type} {rep:World->List Nat->List Value->α->Prop} {Q:α->Prop} {t e:TypeId} {sz fuel:Nat} {cs:List Value} {x:DataW H×List MemPlace} (ht:P.underlying t=some (.slice e)) (hC:P.cellsOf e=sz) (EZ:0<sz)
  (h:DataW.trod enc P w 0 (fun _=>true) true fuel t cs=some x) (hel:∀n oh y,oh.length=sz->DataW.trod enc P w 0 (fun _=>true) true n e oh=some y->∃f d,eU f 0 w.heap.size/\rep w f oh d/\Q d):
  ∃A n c f xs,cs=[.slice A n c]/\eU f 0 w.heap.size/\lf rep sz w f (.slice A n c) xs/\∀d∈xs,Q d:=by
 rcases open_slice ht h with⟨rfl,_⟩|⟨a,len,cap,m,n,D,Pl,rfl,_,hl,hm,Gi,_,hi⟩
 ·exact⟨none,0,0,[],[],rfl,eU.nil _ _,lf.nil _ _ _,fun d h=>by cases h⟩
 rw[hC]at hi
 simp only[if_true]at Gi
 by_cases h0:len=0
 ·subst h0
  exact⟨some a,0,cap,[],[],rfl,eU.nil _ _,⟨[],[],[],rfl,⟨some a,cap,rfl,Nat.zero_le _,hm,.inl ⟨rfl,rfl⟩⟩,rfl,rfl,fun i cs f d hc=>by simp at hc⟩,fun d h=>by cases h⟩
 obtain⟨b,o,sp⟩:=a
 have cell0:∃v,w.cell? ⟨b,o,sp⟩=some v:=by
  obtain⟨oh,hc,_⟩:=hi 0 (by omega)
  obtain⟨_,lu,xR⟩:=World.cells?_some hc
  refine⟨oh[0]'(by omega),?_⟩
  have:=xR 0 EZ
  rw[List.getElem?_eq_getElem (by omega)]at this
  simpa[Addr.add]using this
 obtain⟨v0,jO⟩:=cell0
 have hb:b<w.heap.size:=World.block_lt_of_cell? w _ jO
 have M8:sp=none:=by
  unfold World.cell? at jO
  split at jO
  ·split at jO
   ·cases jO
   ·rename_i h;simpa using h
  ·cases jO
 subst M8
 have key:∀i,i<len->∃oh f d,oh.length=sz/\eU f 0 w.heap.size/\rep w f oh d/\Q d/\∀j u,oh[j]? =some u->w.cell? ⟨b,o+(i*sz+j),none⟩=some u:=fun i oZ=>by
  obtain⟨oh,hc,htr⟩:=hi i (by omega)
  obtain⟨_,lu,xR⟩:=World.cells?_some hc
  obtain⟨f,d,h1,h2,h3⟩:=hel n oh _ lu htr
  refine⟨oh,f,d,lu,h1,h2,h3,fun j u hj=>?_⟩
  have gN:=(List.getElem?_eq_some_iff.1 hj).1
  have:=xR j (by omega)
  rw[hj]at this
  rw[<-this,Go.Deep.add_add,jP]
 have:Nonempty α:=by
  obtain⟨_,_,d,_⟩:=key 0 (by omega)
  exact⟨d⟩
 let cf:Nat->List Value:=fun i=>if hi:i<len then(key i hi).choose else[]
 let ff:Nat->List Nat:=fun i=>if hi:i<len then(key i hi).choose_spec.choose else[]
 let df:Nat->α:=fun i=>if hi:i<len then(key i hi).choose_spec.choose_spec.choose else Classical.choice this
 have dk:∀i,i<len->(cf i).length=sz/\eU (ff i) 0 w.heap.size/\rep w (ff i) (cf i) (df i)/\Q (df i)/\∀j u,(cf i)[j]? =some u->w.cell? ⟨b,o+(i*sz+j),none⟩=some u:=fun i hi=>by
  have:=(key i hi).choose_spec.choose_spec.choose_spec
  simp only[cf,ff,df,dif_pos hi]
  exact this
 refine⟨some ⟨b,o,none⟩,len,cap,_,(List.range len).map df,rfl,?_,lf.Qv cf ff df hl hm (fun i hi=>(dk i hi).1) (fun i hi=>(dk i hi).2.2.1) (fun i hi=>(dk i hi).2.2.2.2),fun d hd=>?_⟩
 ·intro x hx
  rcases List.mem_append.1 hx with hx|hx
  ·simp at hx;subst hx;exact⟨Nat.zero_le _,hb⟩
  ·obtain⟨l,OA,OM⟩:=List.mem_flatten.1 hx
   obtain⟨i,hi,rfl⟩:=List.mem_map.1 OA
   exact(dk i (List.mem_range.1 hi)).2.1 x OM
 ·obtain⟨i,hi,rfl⟩:=List.mem_map.1 hd
  exact(dk i (List.mem_range.1 hi)).2.2.2.1
end
section
variable {H:Type} {enc:TypeId×Value->H} {w:World} {fuel:Nat} {cs:List Value} {x:DataW H×List MemPlace}
abbrev TT (enc:TypeId×Value->H) (w:World) (fuel t:Nat) (cs:List Value) (x:DataW H×List MemPlace):Prop:=DataW.trod enc Tryz.prog w 0 (fun _=>true) true fuel t cs=some x
theorem Ii (h:TT enc w fuel 54 cs x):∃A n c f xs,cs=[.slice A n c]/\eU f 0 w.heap.size/\pV w f (.slice A n c) xs:=by
 obtain⟨A,n,c,f,xs,h1,h2,h3,_⟩:=kb (rep:=C2) (Q:=fun _=>True) Tryz.underlying54 (sz:=1) (by kernel_rfl) (by omega) h fun n oh y hl hy=>by
  obtain⟨b,rfl,_⟩:=DataW.trod_int Tryz.underlying2 hy
  exact⟨[],b,eU.nil _ _,⟨rfl,rfl⟩,trivial⟩
 exact⟨A,n,c,f,xs,h1,h2,h3⟩
theorem j6 {t:TypeId} {fs:Array Field} (ht:Tryz.prog.underlying t=some (.struct fs)) (h:TT enc w fuel t cs x):cs.length=Tryz.prog.cellsOf t/\∃n,∀(i:Nat) (f:Field),fs[i]? =some f->∃y,TT enc w n f.type ((cs.drop f.offset).take (Tryz.prog.cellsOf f.type)) y:=by
 obtain⟨xs,n,_,_,hl,OM,hf⟩:=DataW.trod_struct ht h
 refine⟨hl,n,fun i f hi=>?_⟩
 have oZ:i<xs.length:=by rw[OM];exact(Array.getElem?_eq_some_iff.1 hi).1
 exact⟨xs[i],(hf i f hi).trans (List.getElem?_eq_getElem oZ)⟩
theorem Nm {l:List Value} (h:l.length=2):∃a b,l=[a,b]:=by
 match l,h with
 |[a,b],_=>exact⟨a,b,rfl⟩
theorem Qr {l:List Value} (h:l.length=3):∃a b c,l=[a,b,c]:=by
 match l,h with
 |[a,b,c],_=>exact⟨a,b,c,rfl⟩
theorem Tj {l:List Value} (h:l.length=1):∃a,l=[a]:=by
 match l,h with
 |[a],_=>exact⟨a,rfl⟩
theorem Tk {l:List Value} (h:l.length=4):∃a b c d,l=[a,b,c,d]:=by
 match l,h with
 |[a,b,c,d],_=>exact⟨a,b,c,d,rfl⟩
theorem KE (h:TT enc w fuel 22 cs x):∃A n c f xs,cs=[.slice A n c]/\eU f 0 w.heap.size/\pU w f (.slice A n c) xs/\∀d∈xs,d.aB.size<=9223372036854775807:=by
 exact kb (rep:=GA) (Q:=fun d=>d.aB.size<=9223372036854775807) Tryz.underlying22 (sz:=2) (by kernel_rfl) (by omega) h fun n oh y hl hy=>by
  obtain⟨_,m,hf⟩:=j6 Tryz.underlying144 hy
  obtain⟨a,b,rfl⟩:=Nm hl
  ·skip
   obtain⟨y0,h0⟩:=hf 0 _ rfl
   obtain⟨y1,h1⟩:=hf 1 _ rfl
   rw[show Tryz.prog.cellsOf _=1 from by kernel_rfl]at h0 h1
   obtain⟨p,e0,_,ws⟩:=DataW.trod_string Tryz.underlying9 h0
   obtain⟨q,e1,_⟩:=DataW.trod_int Tryz.underlying2 h1
   simp at e0 e1
   subst e0 e1
   exact⟨[],⟨p,q⟩,eU.nil _ _,⟨rfl,rfl⟩,by simpa[maxLen]using ws⟩
theorem KG (h:TT enc w fuel 23 cs x):∃A n c f xs,cs=[.slice A n c]/\eU f 0 w.heap.size/\pW w f (.slice A n c) xs/\∀d∈xs,d.aB.size<=9223372036854775807:=by
 exact kb (rep:=GC) (Q:=fun d=>d.aB.size<=9223372036854775807) Tryz.underlying23 (sz:=2) (by kernel_rfl) (by omega) h fun n oh y hl hy=>by
  obtain⟨_,m,hf⟩:=j6 Tryz.underlying146 hy
  obtain⟨a,b,rfl⟩:=Nm hl
  ·skip
   obtain⟨y0,h0⟩:=hf 0 _ rfl
   obtain⟨y1,h1⟩:=hf 1 _ rfl
   rw[show Tryz.prog.cellsOf _=1 from by kernel_rfl]at h0 h1
   obtain⟨p,e0,_,ws⟩:=DataW.trod_string Tryz.underlying9 h0
   obtain⟨A1,n1,c1,f1,NX,e1,k1,s1⟩:=Ii h1
   simp at e0 e1
   subst e0 e1
   exact⟨_,⟨p,NX⟩,k1,⟨_,f1,rfl,rfl,s1⟩,by simpa[maxLen]using ws⟩
theorem FC (h:TT enc w fuel 26 cs x):∃A n c f xs,cs=[.slice A n c]/\eU f 0 w.heap.size/\iF w f (.slice A n c) xs:=by
 obtain⟨A,n,c,f,xs,h1,h2,h3,_⟩:=kb (rep:=yY) (Q:=fun _=>True) Tryz.underlying26 (sz:=3) (by kernel_rfl) (by omega) h fun n oh y hl hy=>by
  obtain⟨_,m,hf⟩:=j6 Tryz.underlying123 hy
  obtain⟨a,b,c,rfl⟩:=Qr hl
  ·skip
   obtain⟨y0,h0⟩:=hf 0 _ rfl
   obtain⟨y1,h1⟩:=hf 1 _ rfl
   rw[show Tryz.prog.cellsOf _=2 from by kernel_rfl]at h0
   rw[show Tryz.prog.cellsOf _=1 from by kernel_rfl]at h1
   obtain⟨_,m2,Lo⟩:=j6 Tryz.underlying121 h0
   obtain⟨z0,g0⟩:=Lo 0 _ rfl
   obtain⟨z1,g1⟩:=Lo 1 _ rfl
   rw[show Tryz.prog.cellsOf _=1 from by kernel_rfl]at g0 g1
   obtain⟨px,e0,_⟩:=DataW.trod_int Tryz.underlying2 g0
   obtain⟨py,e1,_⟩:=DataW.trod_int Tryz.underlying2 g1
   obtain⟨ti,e2,_⟩:=DataW.trod_int Tryz.underlying2 h1
   simp at e0 e1 e2
   subst e0 e1 e2
   exact⟨[],⟨⟨px,py⟩,ti⟩,eU.nil _ _,⟨rfl,rfl⟩,trivial⟩
 exact⟨A,n,c,f,xs,h1,h2,h3⟩
theorem uy (h:TT enc w fuel 28 cs x):∃A n c f,∃d:dj,cs=[.slice A n c]/\eU f 0 w.heap.size/\iF w f (.slice A n c) d.ah:=by
 obtain⟨hl,m,hf⟩:=j6 Tryz.underlying28 h
 rw[show Tryz.prog.cellsOf _=1 from by kernel_rfl]at hl
 obtain⟨a,rfl⟩:=Tj hl
 ·skip
  obtain⟨y0,h0⟩:=hf 0 _ rfl
  rw[show Tryz.prog.cellsOf _=1 from by kernel_rfl]at h0
  obtain⟨A1,n1,c1,f1,NX,e1,k1,s1⟩:=FC h0
  simp at e1
  subst e1
  exact⟨A1,n1,c1,f1,⟨NX⟩,rfl,k1,s1⟩
theorem Ij (h:TT enc w fuel 30 cs x):∃A0 n0 c0 f0 A1 n1 c1 f1 A2 n2 c2 f2,∃d:cl,cs=[.slice A0 n0 c0,.slice A1 n1 c1,.slice A2 n2 c2,.int .i64 d.aH]/\eU f0 0 w.heap.size/\pU w f0 (.slice A0 n0 c0) d.aE.aw/\eU f1 0 w.heap.size/\pW w f1 (.slice A1 n1 c1) d.aE.ah/\eU f2 0 w.heap.size/\iF w f2 (.slice A2 n2 c2) d.bZ.ah/\(∀g∈d.aE.aw,g.aB.size<=9223372036854775807)/\∀t∈d.aE.ah,t.aB.size<=9223372036854775807:=by
 obtain⟨hl,m,hf⟩:=j6 Tryz.underlying30 h
 rw[show Tryz.prog.cellsOf _=4 from by kernel_rfl]at hl
 obtain⟨a,b,c,d,rfl⟩:=Tk hl
 ·skip
  obtain⟨y0,h0⟩:=hf 0 _ rfl
  obtain⟨y1,h1⟩:=hf 1 _ rfl
  obtain⟨y2,h2⟩:=hf 2 _ rfl
  rw[show Tryz.prog.cellsOf _=2 from by kernel_rfl]at h0
  rw[show Tryz.prog.cellsOf _=1 from by kernel_rfl]at h1 h2
  obtain⟨_,m2,Lo⟩:=j6 Tryz.underlying25 h0
  obtain⟨z0,g0⟩:=Lo 0 _ rfl
  obtain⟨z1,g1⟩:=Lo 1 _ rfl
  rw[show Tryz.prog.cellsOf _=1 from by kernel_rfl]at g0 g1
  obtain⟨A0,n0,c0,f0,xs0,e0,k0,s0,o0⟩:=KE g0
  obtain⟨A1,n1,c1,f1,NX,e1,k1,s1,o1⟩:=KG g1
  obtain⟨A2,n2,c2,f2,d2,e2,k2,s2⟩:=uy h1
  obtain⟨t,e3,_⟩:=DataW.trod_int Tryz.underlying2 h2
  simp at e0 e1 e2 e3
  subst e0 e1 e2 e3
  exact⟨A0,n0,c0,f0,A1,n1,c1,f1,A2,n2,c2,f2,⟨⟨xs0,NX⟩,d2,t⟩,rfl,k0,s0,k1,s1,k2,s2,o0,o1⟩
end
end Go.Proofs.YtihgaadadaekmaaGreatDoor

namespace Go.Proofs.YtihgaadadaekmaaGreatDoor
open Go.ChangeShapes Go.WideShapes Go.ChangeAt Go.RowKit Go.Deep V
section
variable {H:Type} {enc:TypeId×Value->H} {w:World}
def zu (d:eI):List Value:=[.int .i64 d.dn,.int .i64 d.de]
def xf:=lf (Flat zu) 2
def GB (w:World) (f:List Nat) (cs:List Value) (d:List Int):Prop:=∃v,cs=[v]/\pV w f v d
def xg:=lf GB 1
section
variable {P:Program} {D:Nat->Prop}
theorem Ef {f:List Nat} {v:Value} {xs:List eI} (h:xf w f v xs) (hD:∀b∈f,D b):jh P w D (.sl (xs.map bh)) v:=
 lS h hD (fun _ _=>rfl) (fun x _ a ha=>by simp[bh]at ha;rcases ha with rfl|rfl<;>rfl) fun x _ f' cs hr hf=>by
  obtain⟨_,rfl⟩:=hr
  intro j a ha
  match j,ha with
  |0,ha=>simp[bh]at ha;subst ha;exact⟨_,rfl,.int _ _⟩
  |1,ha=>simp[bh]at ha;subst ha;exact⟨_,rfl,.int _ _⟩
  |j+2,ha=>simp[bh]at ha
theorem Eh {f:List Nat} {v:Value} {xs:List (List Int)} (h:xg w f v xs) (hD:∀b∈f,D b):jh P w D (.sl (xs.map kf)) v:=
 lS h hD (fun _ _=>rfl) (fun x _ a ha=>by simp[kf]at ha;rcases ha with rfl<;>rfl) fun x _ f' cs hr hf=>by
  obtain⟨v1,rfl,h1⟩:=hr
  intro j a ha
  match j,ha with
  |0,ha=>simp[kf]at ha;subst ha;exact⟨_,rfl,tk h1 hf⟩
  |j+1,ha=>simp[kf]at ha
theorem Gw {m:dF} {f1 f2:List Nat} {v1 v2:Value} (h1:xf w f1 v1 m.ak) (d1:∀b∈f1,D b) (h2:xg w f2 v2 m.aY) (d2:∀b∈f2,D b):jh P w D (.agg (bc m)) (.agg #[.int .i64 m.aL,v1,v2]):=by
 refine .agg _ _ (fun j=>(#[.int .i64 m.aL,v1,v2]:Array Value).getD j Go.undef) rfl (fun a ha=>by simp[bc]at ha;rcases ha with rfl|rfl|rfl<;>rfl) (fun j hj=>?_) (fun j a ha=>?_)
 ·match j,hj with
  |0,_=>rfl
  |1,_=>rfl
  |2,_=>rfl
  |j+3,hj=>simp[bc]at hj<;>omega
 ·match j,ha with
  |0,ha=>simp[bc]at ha;subst ha;exact .int _ _
  |1,ha=>simp[bc]at ha;subst ha;exact Ef h1 d1
  |2,ha=>simp[bc]at ha;subst ha;exact Eh h2 d2
  |j+3,ha=>simp[bc]at ha
end
variable {fuel:Nat} {cs:List Value} {x:DataW H×List MemPlace}
theorem KD (h:TT enc w fuel 59 cs x):∃A n c f xs,cs=[.slice A n c]/\eU f 0 w.heap.size/\xf w f (.slice A n c) xs:=by
 obtain⟨A,n,c,f,xs,h1,h2,h3,_⟩:=kb (rep:=Flat zu) (Q:=fun _=>True) Tryz.underlying59 (sz:=2) (by kernel_rfl) (by omega) h fun n oh y hl hy=>by
  obtain⟨_,m,hf⟩:=j6 Tryz.underlying138 hy
  obtain⟨a,b,rfl⟩:=Nm hl
  ·skip
   obtain⟨y0,h0⟩:=hf 0 _ rfl
   obtain⟨y1,h1⟩:=hf 1 _ rfl
   rw[show Tryz.prog.cellsOf _=1 from by kernel_rfl]at h0 h1
   obtain⟨p,e0,_⟩:=DataW.trod_int Tryz.underlying2 h0
   obtain⟨q,e1,_⟩:=DataW.trod_int Tryz.underlying2 h1
   simp at e0 e1
   subst e0 e1
   exact⟨[],⟨p,q⟩,eU.nil _ _,⟨rfl,rfl⟩,trivial⟩
 exact⟨A,n,c,f,xs,h1,h2,h3⟩
theorem KF (h:TT enc w fuel 33 cs x):∃A n c f xs,cs=[.slice A n c]/\eU f 0 w.heap.size/\xg w f (.slice A n c) xs:=by
 obtain⟨A,n,c,f,xs,h1,h2,h3,_⟩:=kb (rep:=GB) (Q:=fun _=>True) Tryz.underlying33 (sz:=1) (by kernel_rfl) (by omega) h fun n oh y hl hy=>by
  obtain⟨A1,n1,c1,f1,NX,e1,k1,s1⟩:=Ii hy
  subst e1
  exact⟨f1,NX,k1,⟨_,rfl,s1⟩,trivial⟩
 exact⟨A,n,c,f,xs,h1,h2,h3⟩
theorem Nw (h:TT enc w fuel 61 cs x):∃m:dF,jh Tryz.prog w (fun b=>b<w.heap.size) (.agg (bc m)) (.agg cs.toArray):=by
 obtain⟨hl,m,hf⟩:=j6 Tryz.underlying61 h
 rw[show Tryz.prog.cellsOf _=3 from by kernel_rfl]at hl
 obtain⟨c0,c1,c2,rfl⟩:=Qr hl
 ·skip
  obtain⟨y0,h0⟩:=hf 0 _ rfl
  obtain⟨y1,h1⟩:=hf 1 _ rfl
  obtain⟨y2,h2⟩:=hf 2 _ rfl
  rw[show Tryz.prog.cellsOf _=1 from by kernel_rfl]at h0 h1 h2
  obtain⟨z,e0,_⟩:=DataW.trod_int Tryz.underlying2 h0
  obtain⟨A1,n1,k1,f1,ls1,e1,w1,s1⟩:=KD h1
  obtain⟨A2,n2,k2,f2,ls2,e2,w2,s2⟩:=KF h2
  simp at e0 e1 e2
  subst e0 e1 e2
  exact⟨⟨z,ls1,ls2⟩,Gw (m:=⟨z,ls1,ls2⟩) s1 (fun b hb=>(w1 b hb).2) s2 (fun b hb=>(w2 b hb).2)⟩
end
end Go.Proofs.YtihgaadadaekmaaGreatDoor

namespace Go.Proofs.YtihgaadadaekmaaGreatDoor
open Go.ChangeShapes Go.WideShapes Go.ChangeAt Go.RowKit V
theorem Qz:ownKnob Tryz.prog.godebug=none:=by kernel_rfl
theorem Ch:laidOutB Tryz.prog=true:=by kernel_rfl
theorem Ir (s:cl) (a:dj) (f:dF) (hs:nh f):(pH s a f).1.length<=1099511627776:=by
 unfold pH
 split
 ·have h1:=HU (fc s.aE a.ah f) f.ak.length
  have h2:=hs.c
  omega
 ·simp
theorem KL (s:cl) (a:dj) (f:dF) (hn:fA s.aE):ae Tryz.prog 6 [.agg (az s),.agg (aD a),.agg (bc f)] (.bool true):=
 Kp pH (fun s a f hn hm _ fm=>xe s a f hn hm.s.g hm.s.t fm.s fm.x) (fun s a f hn hm hl fm=>xd s a f hn hm hl fm.s fm.x) (fun s a f _ _ _ fm=>Ir s a f fm) s a f hn
theorem FE (os:Os) (started:os.Started) (H:Type) (enc:TypeId×Value->H):
  ReturnsInHanded {} Tryz.checked os 6 .any (fun w args=>(Rows.fnExactProductsInSpec.pre enc Tryz.prog Tryz.f6 [] false w args/\laidMetH Tryz.prog Rows.fnExactProductsInRow.laid w)/\sizedMet enc Tryz.prog Tryz.f6 (OpenSpec.ofChange Rows.fnExactProductsInSpec) false w args) (Rows.fnExactProductsInSpec.post enc Tryz.prog Tryz.f6 false true false false):=by
 refine returnsInHanded_of_change_and (C:=Tryz.checked) (X:=fun w _=>laidMetH Tryz.prog Rows.fnExactProductsInRow.laid w) (fun _ _ _ hh h=>h.of_heap hh) Qz started (by kernel_rfl) Tryz.func6
  (ChangeSpec.witness_shaped (enc:=enc) (C:=Tryz.checked) (os:=os) (X:=fun w _=>laidMetH Tryz.prog Rows.fnExactProductsInRow.laid w) false (World.laidAll Tryz.prog os Rows.fnExactProductsInRow.laid) #[.agg #[.slice none 0 0,.slice none 0 0,.slice none 0 0,.int .i64 0],.agg #[.slice none 0 0],.agg #[.int .i64 0,.slice none 0 0,.slice none 0 0]] 8 (World.laidAll_os _ _ _)
   (World.shaped_of_ZipB (by kernel_rfl) (by kernel_rfl)) (by kernel_rfl) (by kernel_rfl) (by kernel_rfl)
   (by rw[MakeChecks.laidMetH_plain _ _ _ (by kernel_rfl)];exact laidMet_laidAll _ (by kernel_rfl) (by kernel_rfl))) ?_
 intro W base args ds gs before LD hW hcnd _ hL _
 have qn:∀(j:Nat) t v,Tryz.f6.params[j]? =some t->args[j]? =some v->Value.okWide Tryz.prog W .any base t v:=LD
 have hW':=hW
 obtain⟨p,q,hA0,hV,rfl,Dw,kQ⟩:=hW
 have hA:DataW.TrodAll enc Tryz.prog W 0 (fun _=>true) true Tryz.f6.params.toList args.toList ds p:=hA0
 rw[Tryz.params6]at hA qn
 obtain⟨v0,vs0,d0,ds0,p0,q0,mO,rfl,rfl,h0,r0⟩:=trodAll_cons hA
 obtain⟨v1,vs1,d1,ds1,p1,q1,rfl,rfl,rfl,h1,r1⟩:=trodAll_cons r0
 obtain⟨v2,vs2,d2,ds2,p2,q2,rfl,rfl,rfl,h2,r2⟩:=trodAll_cons r1
 obtain⟨rfl,rfl,rfl⟩:=trodAll_nil r2
 obtain rfl:args= #[v0,v1,v2]:=by cases args;simp_all
 obtain⟨rfl,rfl⟩:=trodVars_none hV
 obtain⟨Ok,rfl,_⟩:=okWide_struct Tryz.underlying30 (qn 0 30 v0 rfl rfl)
 obtain⟨RK,rfl,_⟩:=okWide_struct Tryz.underlying28 (qn 1 28 v1 rfl rfl)
 obtain⟨QU,rfl,_⟩:=okWide_struct Tryz.underlying61 (qn 2 61 v2 rfl rfl)
 have k0:=h0
 have k1:=h1
 have k2:=h2
 have lt0:∀x∈p0,x.block<W.heap.size:=by obtain⟨m,hm⟩:=k0;exact DataW.trod_lt m _ _ _ hm
 have lt1:∀x∈p1,x.block<W.heap.size:=by obtain⟨m,hm⟩:=k1;exact DataW.trod_lt m _ _ _ hm
 have lt2:∀x∈p2,x.block<W.heap.size:=by obtain⟨m,hm⟩:=k2;exact DataW.trod_lt m _ _ _ hm
 obtain⟨A0,n0,c0,f0,A1,n1,c1,f1,A2,n2,c2,f2,s,BR,w0,s0,w1,s1,w2,s2,o0,o1⟩:∃A0 n0 c0 f0 A1 n1 c1 f1 A2 n2 c2 f2,∃d:cl,(Value.agg Ok).cells.toList=[.slice A0 n0 c0,.slice A1 n1 c1,.slice A2 n2 c2,.int .i64 d.aH]/\eU f0 0 W.heap.size/\pU W f0 (.slice A0 n0 c0) d.aE.aw/\eU f1 0 W.heap.size/\pW W f1 (.slice A1 n1 c1) d.aE.ah/\eU f2 0 W.heap.size/\iF W f2 (.slice A2 n2 c2) d.bZ.ah/\(∀g∈d.aE.aw,g.aB.size<=9223372036854775807)/\∀t∈d.aE.ah,t.aB.size<=9223372036854775807:=by
  obtain⟨fuel,hf⟩:=h0
  exact Ij hf
 obtain rfl:Ok= #[.slice A0 n0 c0,.slice A1 n1 c1,.slice A2 n2 c2,.int .i64 s.aH]:=by
  cases Ok;simp[Value.cells]at BR;subst BR;rfl
 obtain⟨A3,n3,c3,f3,a,PL,w3,s3⟩:∃A n c f,∃d:dj,(Value.agg RK).cells.toList=[.slice A n c]/\eU f 0 W.heap.size/\iF W f (.slice A n c) d.ah:=by
  obtain⟨fuel,hf⟩:=h1
  exact uy hf
 obtain rfl:RK= #[.slice A3 n3 c3]:=by
  cases RK;simp[Value.cells]at PL;subst PL;rfl
 obtain⟨m,Sc⟩:∃d:dF,jh Tryz.prog W (fun b=>b<W.heap.size) (.agg (bc d)) (.agg (Value.agg QU).cells.toList.toArray):=by
  obtain⟨fuel,hf⟩:=h2
  exact Nw hf
 rw[show(Value.agg QU).cells.toList.toArray=QU by simp[Value.cells]]at Sc
 clear hA0 LD
 have gH:e9 Tryz.prog W (fun b=>b<W.heap.size) (fun _=>none) [.agg (az s),.agg (aD a),.agg (bc m)] #[.agg #[.slice A0 n0 c0,.slice A1 n1 c1,.slice A2 n2 c2,.int .i64 s.aH],.agg #[.slice A3 n3 c3],.agg QU]:=by
  have h:=kA (Bb s0 (fun b hb=>(w0 b hb).2) s1 (fun b hb=>(w1 b hb).2) s2 (fun b hb=>(w2 b hb).2)) (kA (xc s3 (fun b hb=>(w3 b hb).2)) (kA Sc (⟨rfl,fun j b hj=>by cases j<;>cases hj⟩:e9 Tryz.prog W (fun b=>b<W.heap.size) (fun _=>none) [] #[])))
  simpa using h
 have fu:=Nl mixed (KL s a m ⟨o0,o1⟩) gH
 clear s0 s1 s2 w0 w1 w2 s3 w3 Sc gH
 refine(fu.mono fun e W' ⟨he,bel⟩=>?_)
 subst he
 exact⟨_,rfl,_,_,_,[],_,[],hW',trodAll_mk1 (shut_bool Tryz.underlying4 _),(trodAll_cons_mk (Below.trod Ch (by kernel_rfl) (of_decide_eq_true (by kernel_rfl)) k0 bel lt0) (trodAll_cons_mk (Below.trod Ch (by kernel_rfl) (of_decide_eq_true (by kernel_rfl)) k1 bel lt1) (trodAll_cons_mk (Below.trod Ch (by kernel_rfl) (of_decide_eq_true (by kernel_rfl)) k2 bel lt2) trodAll_mk0))),rfl,bel.frame _,fun h=>by cases h⟩
end Go.Proofs.YtihgaadadaekmaaGreatDoor

namespace Go.Proofs.YtihgaadadaekmaaGreatDoor
open Go.ChangeShapes Go.WideShapes Go.ChangeAt Go.RowKit
theorem piN:Tryz.pinned.checked.prog.funcNamed Rows.fnExactProductsInRow.func=some 6:=by kernel_rfl
theorem piJ:joinedFacts Tryz.pinned.checked.prog 6 Tryz.f6 Rows.fnExactProductsInSpec Rows.fnExactProductsInRow=true:=by
 unfold joinedFacts
 repeat(with_reducible refine Bool.and_eq_true_iff.2 ⟨?_,by as_aux_lemma=>kernel_rfl⟩)
 as_aux_lemma=>kernel_rfl
theorem piI:Tryz.f6.isInstance Tryz.pinned.checked.prog Rows.fnExactProductsInRow.origin Rows.fnExactProductsInRow.targs:=of_decide_eq_true (by kernel_rfl)
theorem piW:Tryz.f6.isWrapper Tryz.pinned.checked.prog Rows.fnExactProductsInRow.wrapper Rows.fnExactProductsInRow.mainSum:=by
 unfold Func.isWrapper;first|(rw[if_pos (by decide+kernel)];kernel_rfl)|(rw[if_neg (by decide+kernel)];exact⟨rfl,rfl⟩)
theorem KJ:Rows.fnExactProductsInRow.holds Tryz.pinned (OpenSpec.ofChange Rows.fnExactProductsInSpec):=
 OpenClaim.holds_of_wide 6 Tryz.f6 rfl rfl rfl rfl rfl rfl rfl ⟨rfl,rfl,rfl,rfl,rfl⟩ rfl rfl rfl rfl rfl piN Tryz.func6 piJ piI piW
  (fun os started H enc _=>FE os started H enc)
theorem fnExactProductsIn_proved:Rows.FnExactProductsInCardSaid:=
 Claim7.holds_tied_plain_at .later [] [.data,.data,.data] true Rows.fnExactProductsInCard.stood.harness false
  KJ (fun _ h=>by cases h) (by kernel_rfl) (fun _ h=>by cases h) fnExactProductsIn_row_tie rfl ⟨rfl,rfl⟩ (by kernel_rfl) rfl
  (fun f fn hf JU=>by
   obtain rfl:f=6:=(Option.some.inj (piN.symm.trans hf)).symm
   obtain rfl:fn=Tryz.f6:=(Option.some.inj (Tryz.func6.symm.trans JU)).symm
   exact⟨by kernel_rfl,fun j t ht=>by
    rw[Tryz.params6]at ht
    have hm:t∈[30,28,61]:=by simpa using Array.mem_of_getElem? ht
    have dk:([30,28,61].all fun u=> !Tryz.prog.wantsStandIn u)=true:=by kernel_rfl
    exact(show Tryz.prog.wantsStandIn t=false by simpa using List.all_eq_true.1 dk t hm)⟩)
  (by kernel_rfl)
end Go.Proofs.YtihgaadadaekmaaGreatDoor
