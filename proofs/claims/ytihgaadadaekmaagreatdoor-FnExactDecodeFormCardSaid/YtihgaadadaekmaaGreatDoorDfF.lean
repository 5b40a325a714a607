/- Forms: the program's test. -/
import Derived.Test.YtihgaadadaekmaaGreatDoorDfC
import Derived.Test.YtihgaadadaekmaaGreatDoorDfE
import Derived.Test.YtihgaadadaekmaaGreatDoorDfB
import Derived.Test.YtihgaadadaekmaaGreatDoorDfD
import Derived.Lib.ItoaWalk
import Derived.Lib.ItoaNum
import Derived.Lib.Strings
import Derived.Test.YtihgaadadaekmaaGreatDoorChecked
import Derived.ProofKit
import Derived.Deep.Slices
import Derived.ChangeSame
import Derived.Test.YtihgaadadaekmaaGreatDoorRows
import Derived.OpenShut
import Derived.ShutString
import Derived.ChangeOld
import Derived.Below
import Derived.Lay
import Derived.Handed
import Derived.MakeChecks
import Derived.Test.YtihgaadadaekmaaGreatDoorCards
import Derived.Test.YtihgaadadaekmaaGreatDoorTie
import Derived.SevenTiedAt
set_option linter.unusedVariables false
set_option linter.unusedSimpArgs false
set_option maxRecDepth 100000
set_option maxHeartbeats 16000000
namespace Go.Proofs.YtihgaadadaekmaaGreatDoor.V
open Go.RowKit
attribute [local irreducible] ea wpOps gR Call
attribute [local go_sem] aM fP eL gh ga cE upd cu K.av cL AV.cells AV.cell rowOf rowsOf part ld rowAt bY ck dI ef ig bL da ez gn e7 du ek cY cX dV dW bR bm cQ bQ cT cR ei eo ej cP bW cZ eh bP aQ cV cC ib bw cH bS aY dF bu dK AV.undef bF bH dY ee dU eb cF ew eD cw eu er cU cW List.getD_cons_zero List.getD_cons_succ List.getD_nil List.all_cons List.all_nil Bool.and_true Bool.true_and Bool.and_self Bool.not_true Bool.not_false Option.map_some Option.map_none Option.bind_some Option.bind_none List.length_cons List.length_nil List.take_succ_cons List.take_zero List.take_nil List.drop_succ_cons List.drop_zero List.drop_nil List.head?_cons List.map_cons List.map_nil List.getElem?_cons_zero List.getElem?_cons_succ List.cons_append List.nil_append List.append_nil List.length_map List.set_cons_zero List.set_cons_succ Nat.reduceMul eq_self Int.toNat_natCast Int.natCast_nonneg and_self true_and and_true decide_true decide_false Bool.false_eq_true Nat.zero_add Nat.add_zero List.contains_cons List.contains_nil Bool.or_false Bool.false_or beq_self_eq_true Nat.reduceBEq ne_eq not_true_eq_false not_false_eq_true Id.mk.injEq false_and and_false Nat.reduceLT Int.reduceLE Int.reduceLT Int.reduceToNat Int.reduceNeg Int.reduceAdd Nat.le_refl List.length_append beq_true beq_false Bool.not_eq_eq_eq_not or_false false_or dE ad aj aI bE cj aW bf aV bo cN bG
theorem Hy (n:Int) (h0:1<=n) (h1:n<=4) (c:eH):ae Tryz.prog 117 [.int .i64 n,.agg (bh c)] (.bool (oO n c)):=by
 refine ae.body dM rfl fun hl n0=>?_
 clear hl
 have hn:¬n<0:=ab
 have hs:=Io h0 h1
 have h2:=yp h0 h1
 have hw:IntKind.i64.wrap (mu n-1)=mu n-1:=aT ab
 have i1:=iq c.dn 0 (mu n-1)
 have ha:=K3 c.de c.dn
 simp only[go_sem, ↓reduceIte,Nat.reduceEqDiff,Nat.reduceAdd,Nat.reduceSub,Nat.reduceLeDiff,reduceCtorEq,Option.some.injEq,AV.int.injEq,true_and]at ha
 cases hc:fI c.dn 0 (mu n-1)
 ·rw[hc]at i1
  (repeat(first|((repeat(revert hN;revert N;apply Pn.out));refine wk (tw @bh.eq_1 (tw @hn (tw @hs @hw))) ?_;(repeat(refine Pn.mk ?_;intro N hN)))|((try apply Or.inl);refine⟨_,ae.x (i1) (sd (tw @bh.eq_1 (tw @hn (tw @hs @hw)))),?_⟩;refine hN _ _ ?_;clear hN N)))
  exact aC (b:=false) (.inl rfl) (sd @Nat.zero_add) (by rw[oO,hc];rfl)
 ·rw[hc]at i1
  (repeat(first|((repeat(revert hN;revert N;apply Pn.out));refine wk (tw @bh.eq_1 (tw @hn (tw @hs (tw @hw @ha)))) ?_;(repeat(refine Pn.mk ?_;intro N hN)))|((try apply Or.inl);refine⟨_,ae.x (i1) (sd (tw @bh.eq_1 (tw @hn (tw @hs (tw @hw @ha))))),?_⟩;refine hN _ _ ?_;clear hN N)))
  exact aC (b:=decide (AW c.de c.dn=c.de)) (.inl rfl) (sd @ha) (by rw[oO,hc];rfl)
section
attribute [local go_sem] List.drop_zero List.take_succ_cons List.take_zero List.length_cons List.length_nil fS p9 kW
theorem tz (a b:eH):ae Tryz.prog 118 [.agg (bh a),.agg (bh b)] (.int .i64 (Ed a b)):=by
 refine ae.body dM rfl fun hl n0=>?_
 clear hl
 have h1:=od a.dn b.dn
 have h2:=od a.de b.de
 have h3:=CV [pc a.dn b.dn,pc a.de b.de]
 rw[DD,List.map_cons,List.map_cons,List.map_nil,ar,ar]at h3
 (repeat(first|((repeat(revert hN;revert N;apply Pn.out));refine wk @bh.eq_1 ?_;(repeat(refine Pn.mk ?_;intro N hN)))|((try apply Or.inl);refine⟨_,ae.x (h1) (sd @bh.eq_1),?_⟩;refine hN _ _ ?_;clear hN N)|((try apply Or.inl);refine⟨_,ae.x (h2) (sd @bh.eq_1),?_⟩;refine hN _ _ ?_;clear hN N)|((try apply Or.inl);refine⟨_,ae.x (h3) (sd @bh.eq_1),?_⟩;refine hN _ _ ?_;clear hN N)))
 exact aZ (b:=Ed a b) (.inl rfl) (by simp only[go_sem, ↓reduceIte,Nat.reduceEqDiff,Nat.reduceAdd,Nat.reduceSub,Nat.reduceLeDiff,reduceCtorEq,Ed]) rfl
end
theorem wc {l:List Int} {k:Nat} (h:k<l.length):(l.map ar)[k]? =some [.int .i64 (l.getD k 0)]:=getD_map ar h
theorem yT (l:List Int) (Ok:l.length<=9223372036854775806) (m:Int) (Su:0<=m) (hm1:m<=9223372036854775807):ae Tryz.prog 121 [.sl (l.map ar),.int .i64 m] (.bool (mZ m l)):=by
 refine ae.body dM rfl fun hl n0=>?_
 clear hl
 have gw:(l.map ar).length=l.length:=by simp
 (try((repeat(revert hN;revert N;apply Pn.out));refine wk @gw ?_;(repeat(refine Pn.mk ?_;intro N hN))))
 refine aP (fun n env st=>∃k:Nat,n=(l.length)-k/\k<=(l.length)/\env 9=.int .i64 (k:Int)/\(∀j:Nat,j<k->nj m l j)) (l.length) ⟨0,ab,ab,sl @gw,fun _ h=>absurd h (Nat.not_lt_zero _)⟩ ?_
 rintro n_a env_a st_a ⟨k,rfl,ale,a9,iM⟩ dm
 have a0:=dm 0 (by kernel_rfl);have a1:=dm 1 (by kernel_rfl);have a7:=dm 7 (by kernel_rfl);have a8:=dm 8 (by kernel_rfl)
 simp only[go_sem, ↓reduceIte,Nat.reduceEqDiff,Nat.reduceAdd,Nat.reduceSub,Nat.reduceLeDiff,reduceCtorEq,gw]at a0 a1 a7 a8
 clear dm
 by_cases hk:(k:Int)<(l.length:Int)
 ·have bD:∀{e:Env},(e 9=.int .i64 (IntKind.i64.wrap ((k:Int)+1)))->(nj m l k)->∃m0,m0<(l.length)-k/\∃k:Nat,m0=(l.length)-k/\k<=(l.length)/\e 9=.int .i64 (k:Int)/\(∀j:Nat,j<k->nj m l j):=fun x1 x2=>⟨_,ab,k+1,rfl,ab,(by rw[x1,ay ab]),(all_succ iM x2)⟩
  have dX:k<l.length:=ab
  have hg:=wc dX
  have hI:=rE (l.getD k 0) m Su hm1
  cases hc:fI (l.getD k 0) 0 (m-1)
  ·rw[hc]at hI
   (repeat(first|((repeat(revert hN;revert N;apply Pn.out));refine wk (tw @a9 (tw @a0 (tw @a1 (tw @a7 (tw @a8 (tw @hk (tw @gw @hg))))))) ?_;(repeat(refine Pn.mk ?_;intro N hN)))|((try apply Or.inl);refine⟨_,ae.x (hI) (sd (tw @a9 (tw @a0 (tw @a1 (tw @a7 (tw @a8 (tw @hk (tw @gw @hg)))))))),?_⟩;refine hN _ _ ?_;clear hN N)))
   exact aC (b:=false) (.inl rfl) (sd @Nat.zero_add) (s4 dX fun h=>by rw[nj,hc]at h;cases h.1)
  rw[hc]at hI
  rcases k with _|k
  ·have hd:¬(0:Int)<((0:Nat):Int):=ab
   (repeat(first|((repeat(revert hN;revert N;apply Pn.out));refine wk (tw @a9 (tw @a0 (tw @a1 (tw @a7 (tw @a8 (tw @hk (tw @gw (tw @hg @hd)))))))) ?_;(repeat(refine Pn.mk ?_;intro N hN)))|((try apply Or.inl);refine⟨_,ae.x (hI) (sd (tw @a9 (tw @a0 (tw @a1 (tw @a7 (tw @a8 (tw @hk (tw @gw (tw @hg @hd))))))))),?_⟩;refine hN _ _ ?_;clear hN N)))
   exact bD (sd (tw @a9 (tw @a0 (tw @a1 (tw @a7 @a8))))) (⟨hc,fun h=>absurd h (Nat.lt_irrefl 0)⟩)
  ·have hd:(0:Int)<((k+1:Nat):Int):=ab
   have hw:IntKind.i64.wrap (((k+1:Nat):Int)-1)=(k:Int):=by rw[aT ab];omega
   have oF:=wc (l:=l) (k:=k) ab
   have kJ:(0:Int)<=(k:Int):=ab
   by_cases dD:l.getD k 0<l.getD (k+1) 0
   ·have jx:¬l.getD (k+1) 0<=l.getD k 0:=ab
    have hr:nj m l (k+1):=⟨hc,fun _=>dD⟩
    (repeat(first|((repeat(revert hN;revert N;apply Pn.out));refine wk (tw @a9 (tw @a0 (tw @a1 (tw @a7 (tw @a8 (tw @hk (tw @gw (tw @hg (tw @hd (tw @hw (tw @oF (tw @kJ @jx)))))))))))) ?_;(repeat(refine Pn.mk ?_;intro N hN)))|((try apply Or.inl);refine⟨_,ae.x (hI) (sd (tw @a9 (tw @a0 (tw @a1 (tw @a7 (tw @a8 (tw @hk (tw @gw (tw @hg (tw @hd (tw @hw (tw @oF (tw @kJ @jx))))))))))))),?_⟩;refine hN _ _ ?_;clear hN N)))
    exact bD (sd (tw @a9 (tw @a0 (tw @a1 (tw @a7 @a8))))) (hr)
   ·have jx:l.getD (k+1) 0<=l.getD k 0:=ab
    have hr:¬nj m l (k+1):=fun h=>dD (h.2 ab)
    (repeat(first|((repeat(revert hN;revert N;apply Pn.out));refine wk (tw @a9 (tw @a0 (tw @a1 (tw @a7 (tw @a8 (tw @hk (tw @gw (tw @hg (tw @hd (tw @hw (tw @oF (tw @kJ @jx)))))))))))) ?_;(repeat(refine Pn.mk ?_;intro N hN)))|((try apply Or.inl);refine⟨_,ae.x (hI) (sd (tw @a9 (tw @a0 (tw @a1 (tw @a7 (tw @a8 (tw @hk (tw @gw (tw @hg (tw @hd (tw @hw (tw @oF (tw @kJ @jx))))))))))))),?_⟩;refine hN _ _ ?_;clear hN N)))
    exact aC (b:=false) (.inl rfl) (sd @Nat.zero_add) (s4 dX hr)
 ·have dX:k=l.length:=ab
  subst dX
  (try((repeat(revert hN;revert N;apply Pn.out));refine wk (tw @a9 (tw @a0 (tw @a1 (tw @a7 (tw @a8 (tw @hk @gw)))))) ?_;(repeat(refine Pn.mk ?_;intro N hN))))
  exact aC (b:=true) (.inl rfl) (sd @Nat.zero_add) (An fun i hi=>iM i hi)
theorem GM:N4 j9 (fun c=>.sl (c.map ar)) 1 false:=⟨fun _=>rfl,fun _=>rfl,fun x g=>by simp only[j9,ad,aj,cj,Option.map_some]⟩
theorem H3 (f:dG) (hc:f.aq.length<=9223372036854775807) (l:List Int) (hl:l.length<=1048576):ae Tryz.prog 120 [.sl (l.map ar),.cJ (bc f)] (.bool (!mZ f.aq.length l)):=by
 refine ae.body dM rfl fun vk n0=>?_
 clear vk
 have h:=yT l ab (f.aq.length:Int) ab ab
 have gO:(f.aq.map bh).length=f.aq.length:=by simp
 (repeat(first|((repeat(revert hN;revert N;apply Pn.out));refine wk (tw @bc.eq_1 @gO) ?_;(repeat(refine Pn.mk ?_;intro N hN)))|((try apply Or.inl);refine⟨_,ae.x (h) (sd (tw @bc.eq_1 @gO)),?_⟩;refine hN _ _ ?_;clear hN N)))
 exact aC (b:= !mZ f.aq.length l) (.inl rfl) (sd @Nat.zero_add) rfl
theorem BT (n:Int):ae Tryz.prog 116 [.int .i64 n] (.bool (fI n 1 4)):=by
 refine ae.body dM rfl fun hl n0=>?_
 clear hl
 have h:=iq n 1 4
 (repeat(first|((repeat(revert hN;revert N;apply Pn.out));refine wk @Nat.zero_add ?_;(repeat(refine Pn.mk ?_;intro N hN)))|((try apply Or.inl);refine⟨_,ae.x (h) (sd @Nat.zero_add),?_⟩;refine hN _ _ ?_;clear hN N)))
 exact aC (b:=fI n 1 4) (.inl rfl) (sd @Nat.zero_add) rfl
theorem yS (f:dG) (xK:f.aL.length<=1048576) (yG:∀l∈f.aL,l.length<=1048576):ae Tryz.prog 87 [.agg (bc f)] (.bool (nF f)):=by
 refine ae.body dM rfl fun hl n0=>?_
 have lq:f.aq.length<=9223372036854775807:=by
  have h1:=(hl (.agg (bc f)) (by simp)).Gt (a:=.sl (f.aq.map bh)) (by simp[bc])
  simpa using h1.len
 clear hl
 have gO:(f.aq.map bh).length=f.aq.length:=by simp
 have ji:(f.aL.map j9).length=f.aL.length:=by simp
 have i1:=BT f.aU
 have i2:=iq (f.aL.length:Int) 1 3
 have JK:ae Tryz.prog 119 [.sl (f.aL.map j9),.fn 120 [.cJ (bc f)]] (.bool (f.aL.any fun l=> !mZ f.aq.length l)):=
  j8 GM (show kK Tryz.prog 119=some (xE 119 142) by kernel_rfl)
   (show kK Tryz.prog 142=some (rz 142 1 false) by kernel_rfl) f.aL xK _ _ _ rfl (fun g=>by rw[ad,aV,aj];rfl) (fun x hx=>H3 f lq x (yG x hx)) fun g=>by rw[ad,aV,aj];rfl
 have dk:(!(f.aL.any fun l=> !mZ f.aq.length l))=f.aL.all fun l=>mZ f.aq.length l:=by rw[List.all_eq_not_any_not]
 cases b1:fI f.aU 1 4
 ·rw[b1]at i1
  (repeat(first|((repeat(revert hN;revert N;apply Pn.out));refine wk @bc.eq_1 ?_;(repeat(refine Pn.mk ?_;intro N hN)))|((try apply Or.inl);refine⟨_,ae.x (i1) (sd @bc.eq_1),?_⟩;refine hN _ _ ?_;clear hN N)))
  exact aC (b:=false) (.inl rfl) (sd @Nat.zero_add) (j4 (by rw[b1];rfl))
 rw[b1]at i1
 by_cases b3:(81:Int)<(f.aq.length:Int)
 ·(repeat(first|((repeat(revert hN;revert N;apply Pn.out));refine wk (tw @bc.eq_1 (tw @gO @b3)) ?_;(repeat(refine Pn.mk ?_;intro N hN)))|((try apply Or.inl);refine⟨_,ae.x (i1) (sd (tw @bc.eq_1 (tw @gO @b3))),?_⟩;refine hN _ _ ?_;clear hN N)))
  exact aC (b:=false) (.inl rfl) (sd @Nat.zero_add) (j4 (by rw[decide_eq_false (by omega:¬f.aq.length<=81),Bool.and_false]))
 cases b2:fI (f.aL.length:Int) 1 3
 ·rw[b2]at i2
  (repeat(first|((repeat(revert hN;revert N;apply Pn.out));refine wk (tw @bc.eq_1 (tw @ji (tw @gO @b3))) ?_;(repeat(refine Pn.mk ?_;intro N hN)))|((try apply Or.inl);refine⟨_,ae.x (i1) (sd (tw @bc.eq_1 (tw @ji (tw @gO @b3)))),?_⟩;refine hN _ _ ?_;clear hN N)|((try apply Or.inl);refine⟨_,ae.x (i2) (sd (tw @bc.eq_1 (tw @ji (tw @gO @b3)))),?_⟩;refine hN _ _ ?_;clear hN N)))
  exact aC (b:=false) (.inl rfl) (sd @Nat.zero_add) (j4 (by rw[b1,b2];rfl))
 rw[b2]at i2
 have Sp:(fI f.aU 1 4&&fI (f.aL.length:Int) 1 3&&decide (f.aq.length<=81))=true:=by rw[b1,b2,decide_eq_true ab];rfl
 have M7:=dB b1
 rw[bc]at JK
 (repeat(first|((repeat(revert hN;revert N;apply Pn.out));refine wk (tw @bc.eq_1 (tw @ji (tw @gO @b3))) ?_;(repeat(refine Pn.mk ?_;intro N hN)))|((try apply Or.inl);refine⟨_,ae.x (i1) (sd (tw @bc.eq_1 (tw @ji (tw @gO @b3)))),?_⟩;refine hN _ _ ?_;clear hN N)|((try apply Or.inl);refine⟨_,ae.x (i2) (sd (tw @bc.eq_1 (tw @ji (tw @gO @b3)))),?_⟩;refine hN _ _ ?_;clear hN N)))
 refine aP (fun n env st=>∃k:Nat,n=(f.aq.length)-k/\k<=(f.aq.length)/\env 25=.int .i64 (k:Int)/\(∀j:Nat,j<k->lV f.aU f.aq j)/\(n0<st.next/\st.get ⟨87000000,n0⟩=some ⟨true,3,[[.int .i64 f.aU,.sl (f.aq.map bh),.sl (f.aL.map j9)]]⟩)) (f.aq.length) ⟨0,ab,ab,sl (tw @gO @ji),fun _ h=>absurd h (Nat.not_lt_zero _),by(try dsimp only);exact⟨ab,sd @Nat.zero_add⟩⟩ ?_
 rintro n_a env_a st_a ⟨k,rfl,ale,a25,iM,jW⟩ dm
 have a1:=dm 1 (by kernel_rfl);have kG:=dm 23 (by kernel_rfl);have oM:=dm 24 (by kernel_rfl)
 simp only[go_sem, ↓reduceIte,Nat.reduceEqDiff,Nat.reduceAdd,Nat.reduceSub,Nat.reduceLeDiff,reduceCtorEq,gO,ji]at a1 kG oM
 clear dm
 obtain⟨an,ag⟩:=jW
 by_cases hk:(k:Int)<(f.aq.length:Int)
 ·have bD:∀{e:Env} {gg:Rows} {nx:Nat},(e 25=.int .i64 (IntKind.i64.wrap ((k:Int)+1)))->(lV f.aU f.aq k)->(n0<nx/\gg ⟨87000000,n0⟩=some ⟨true,3,[[.int .i64 f.aU,.sl (f.aq.map bh),.sl (f.aL.map j9)]]⟩)->∃m0,m0<(f.aq.length)-k/\∃k:Nat,m0=(f.aq.length)-k/\k<=(f.aq.length)/\e 25=.int .i64 (k:Int)/\(∀j:Nat,j<k->lV f.aU f.aq j)/\(n0<nx/\gg ⟨87000000,n0⟩=some ⟨true,3,[[.int .i64 f.aU,.sl (f.aq.map bh),.sl (f.aL.map j9)]]⟩):=fun x1 x2 x3=>⟨_,ab,k+1,rfl,ab,(by rw[x1,ay ab]),(all_succ iM x2),x3⟩
  have dX:k<f.aq.length:=ab
  have hg:=sM dX
  have hC:=Hy f.aU M7.1 M7.2 (iG f.aq k)
  cases hc:oO f.aU (iG f.aq k)
  ·rw[hc]at hC
   rw[bh]at hC hg
   (repeat(first|((repeat(revert hN;revert N;apply Pn.out));refine wk (tw @a25 (tw @a1 (tw @kG (tw @oM (tw @hk (tw @gO (tw @hg @ag))))))) ?_;(repeat(refine Pn.mk ?_;intro N hN)))|((try apply Or.inl);refine⟨_,ae.x (hC) (sd (tw @a25 (tw @a1 (tw @kG (tw @oM (tw @hk (tw @gO (tw @hg @ag)))))))),?_⟩;refine hN _ _ ?_;clear hN N)))
   exact aC (b:=false) (.inl rfl) (sd @Nat.zero_add) (oh dX fun h=>by rw[lV,hc]at h;cases h.1)
  rw[hc]at hC
  rcases k with _|k
  ·have hd:¬(0:Int)<((0:Nat):Int):=ab
   rw[bh]at hC hg
   (repeat(first|((repeat(revert hN;revert N;apply Pn.out));refine wk (tw @a25 (tw @a1 (tw @kG (tw @oM (tw @hk (tw @gO (tw @hg (tw @hd @ag)))))))) ?_;(repeat(refine Pn.mk ?_;intro N hN)))|((try apply Or.inl);refine⟨_,ae.x (hC) (sd (tw @a25 (tw @a1 (tw @kG (tw @oM (tw @hk (tw @gO (tw @hg (tw @hd @ag))))))))),?_⟩;refine hN _ _ ?_;clear hN N)))
   exact bD (sd (tw @a25 (tw @a1 (tw @kG @oM)))) (⟨hc,fun h=>absurd h (Nat.lt_irrefl 0)⟩) (by(try dsimp only);exact⟨ab,sd @ag⟩)
  ·have hd:(0:Int)<((k+1:Nat):Int):=ab
   have hw:IntKind.i64.wrap (((k+1:Nat):Int)-1)=(k:Int):=by rw[aT ab];omega
   have oF:=sM (l:=f.aq) (k:=k) ab
   have kJ:(0:Int)<=(k:Int):=ab
   have hB:=tz (iG f.aq k) (iG f.aq (k+1))
   have Mo:=Jn (iG f.aq k) (iG f.aq (k+1))
   generalize Ed (iG f.aq k) (iG f.aq (k+1))=z at hB Mo
   cases dD:p4 (iG f.aq k) (iG f.aq (k+1))
   ·have hr:¬lV f.aU f.aq (k+1):=fun h=>by have h9:=h.2 ab;rw[Nat.add_sub_cancel,dD]at h9;cases h9
    rw[dD]at Mo
    have hz:0<=z:=of_decide_eq_true Mo
    rw[bh]at hC hg
    rw[bh]at oF
    rw[bh,bh]at hB
    (repeat(first|((repeat(revert hN;revert N;apply Pn.out));refine wk (tw @a25 (tw @a1 (tw @kG (tw @oM (tw @hk (tw @gO (tw @hg (tw @hd (tw @hw (tw @oF (tw @kJ (tw @hz @ag)))))))))))) ?_;(repeat(refine Pn.mk ?_;intro N hN)))|((try apply Or.inl);refine⟨_,ae.x (hC) (sd (tw @a25 (tw @a1 (tw @kG (tw @oM (tw @hk (tw @gO (tw @hg (tw @hd (tw @hw (tw @oF (tw @kJ (tw @hz @ag))))))))))))),?_⟩;refine hN _ _ ?_;clear hN N)|((try apply Or.inl);refine⟨_,ae.x (hB) (sd (tw @a25 (tw @a1 (tw @kG (tw @oM (tw @hk (tw @gO (tw @hg (tw @hd (tw @hw (tw @oF (tw @kJ (tw @hz @ag))))))))))))),?_⟩;refine hN _ _ ?_;clear hN N)))
    exact aC (b:=false) (.inl rfl) (sd @Nat.zero_add) (oh dX hr)
   ·have hr:lV f.aU f.aq (k+1):=⟨hc,fun _=>by rw[Nat.add_sub_cancel];exact dD⟩
    rw[dD]at Mo
    have hz:¬0<=z:=of_decide_eq_false Mo
    rw[bh]at hC hg
    rw[bh]at oF
    rw[bh,bh]at hB
    (repeat(first|((repeat(revert hN;revert N;apply Pn.out));refine wk (tw @a25 (tw @a1 (tw @kG (tw @oM (tw @hk (tw @gO (tw @hg (tw @hd (tw @hw (tw @oF (tw @kJ (tw @hz @ag)))))))))))) ?_;(repeat(refine Pn.mk ?_;intro N hN)))|((try apply Or.inl);refine⟨_,ae.x (hC) (sd (tw @a25 (tw @a1 (tw @kG (tw @oM (tw @hk (tw @gO (tw @hg (tw @hd (tw @hw (tw @oF (tw @kJ (tw @hz @ag))))))))))))),?_⟩;refine hN _ _ ?_;clear hN N)|((try apply Or.inl);refine⟨_,ae.x (hB) (sd (tw @a25 (tw @a1 (tw @kG (tw @oM (tw @hk (tw @gO (tw @hg (tw @hd (tw @hw (tw @oF (tw @kJ (tw @hz @ag))))))))))))),?_⟩;refine hN _ _ ?_;clear hN N)))
    exact bD (sd (tw @a25 (tw @a1 (tw @kG @oM)))) (hr) (by(try dsimp only);exact⟨ab,sd @ag⟩)
 ·have dX:k=f.aq.length:=ab
  subst dX
  have tW:=wb Sp fun i hi=>iM i hi
  (repeat(first|((repeat(revert hN;revert N;apply Pn.out));refine wk (tw @a25 (tw @a1 (tw @kG (tw @oM (tw @hk @ag))))) ?_;(repeat(refine Pn.mk ?_;intro N hN)))|((try apply Or.inl);refine⟨_,ae.x (JK) (sd (tw @a25 (tw @a1 (tw @kG (tw @oM (tw @hk @ag)))))),?_⟩;refine hN _ _ ?_;clear hN N)))
  exact aC (b:= !(f.aL.any fun l=> !mZ f.aq.length l)) (.inl rfl) (sd @Nat.zero_add) (by rw[dk,tW])
theorem Bo (s:cl) (l:List ao) (f:dG) (hn:fx s.aE) (hm:pS s) (hl:l.length<=1048576) (xK:f.aL.length<=1048576) (yG:∀l∈f.aL,l.length<=1048576):ae Tryz.prog 58 [.agg (az s),.agg [.sl (l.map ai)],.agg (bc f)] (.int .i64 (if nu s l&&nF f then 0 else 1)):=by
 refine ae.body dM rfl fun vk n0=>?_
 clear vk
 have h1:=xz s l hn hm hl
 have h2:=yS f xK yG
 rw[az]at h1 ⊢
 rw[bc]at h2 ⊢
 cases b1:nu s l
 ·rw[b1]at h1
  (repeat(first|((repeat(revert hN;revert N;apply Pn.out));refine wk @Nat.zero_add ?_;(repeat(refine Pn.mk ?_;intro N hN)))|((try apply Or.inl);refine⟨_,ae.x (h1) (sd @Nat.zero_add),?_⟩;refine hN _ _ ?_;clear hN N)))
  exact aZ (b:=1) (.inl rfl) (sd @Nat.zero_add) rfl
 rw[b1]at h1
 cases b2:nF f
 ·rw[b2]at h2
  (repeat(first|((repeat(revert hN;revert N;apply Pn.out));refine wk @Nat.zero_add ?_;(repeat(refine Pn.mk ?_;intro N hN)))|((try apply Or.inl);refine⟨_,ae.x (h1) (sd @Nat.zero_add),?_⟩;refine hN _ _ ?_;clear hN N)|((try apply Or.inl);refine⟨_,ae.x (h2) (sd @Nat.zero_add),?_⟩;refine hN _ _ ?_;clear hN N)))
  exact aZ (b:=1) (.inl rfl) (sd @Nat.zero_add) rfl
 ·rw[b2]at h2
  (repeat(first|((repeat(revert hN;revert N;apply Pn.out));refine wk @Nat.zero_add ?_;(repeat(refine Pn.mk ?_;intro N hN)))|((try apply Or.inl);refine⟨_,ae.x (h1) (sd @Nat.zero_add),?_⟩;refine hN _ _ ?_;clear hN N)|((try apply Or.inl);refine⟨_,ae.x (h2) (sd @Nat.zero_add),?_⟩;refine hN _ _ ?_;clear hN N)))
  exact aZ (b:=0) (.inl rfl) (sd @Nat.zero_add) rfl
end Go.Proofs.YtihgaadadaekmaaGreatDoor.V

namespace Go.Proofs.YtihgaadadaekmaaGreatDoor
open Go.RowKit
theorem Aq (x:ByteArray) (l:List UInt8) (h:x.data.toList=l):x=⟨l.toArray⟩:=by
 subst h
 cases x
 simp
theorem Fx (i:Nat) (h:i<100) (w:World):
  Calls Tryz.prog 158 #[.int .i64 i] w fun e w'=>e=.returned (.string ⟨(Lib.decDigits i).toArray⟩)/\w'=w:=by
 go_enter Tryz.func158,Tryz.ntmps158
 go_name_bytes_deep 45 SM hSM
 have eSM:SM=Lib.smalls:=by rw[<-hSM];decide+kernel
 subst eSM
 clear hSM
 go_name_bytes_deep 30 DG hDG
 have eDG:DG=Lib.digits36:=by rw[<-hDG];decide+kernel
 subst eDG
 clear hDG
 by_cases G2:i<10
 ·have sU:∀w,(Instr.slice 9 (.string Lib.digits36) (some (.int .i64 (i:Int))) (some (.int .i64 ((i:Int)+1))) none).run Tryz.prog w=.ok (.string (Lib.digits36.extract i (i+1))) w:=fun w=>by
   rw[run_slice_string w 9 Lib.digits36 .i64 .i64 _ _ Tryz.underlying9 (by omega) (by omega) (by rw[Lib.digits36_size];omega),show((i:Int)).toNat=i by omega,show((i:Int)+1).toNat=i+1 by omega]
  go_wp2
  go_ret
  refine⟨?_,rfl⟩
  show Ending.returned (Value.string (Lib.digits36.extract i (i+1)))= _
  rw[Aq (Lib.digits36.extract i (i+1)) (Lib.decDigits i) (by rw[Lib.extract_data];exact Lib.digits36_piece G2)]
 ·have sU:∀w,(Instr.slice 9 (.string Lib.smalls) (some (.int .i64 ((i:Int)*2))) (some (.int .i64 ((i:Int)*2+2))) none).run Tryz.prog w=.ok (.string (Lib.smalls.extract (i*2) (i*2+2))) w:=fun w=>by
   rw[run_slice_string w 9 Lib.smalls .i64 .i64 _ _ Tryz.underlying9 (by omega) (by omega) (by rw[Lib.smalls_size];omega),show((i:Int)*2).toNat=i*2 by omega,show((i:Int)*2+2).toNat=i*2+2 by omega]
  go_wp2
  go_ret
  refine⟨?_,rfl⟩
  show Ending.returned (Value.string (Lib.smalls.extract (i*2) (i*2+2)))= _
  rw[Aq (Lib.smalls.extract (i*2) (i*2+2)) (Lib.decDigits i) (by rw[Lib.extract_data];exact Lib.smalls_piece G2 h)]
theorem Br (i:Nat) (hi:i<100) (w:World):
  Calls Tryz.prog 143 #[.int .i64 i,.int .i64 10] w fun e w'=>e=.returned (.string ⟨(Lib.decDigits i).toArray⟩)/\w'=w:=by
 go_enter Tryz.func143,Tryz.ntmps143
 go_wp2_with (go_at_call 158;refine(Fx i hi _).mono ?_;rintro e w' ⟨rfl,rfl⟩)
 go_ret
 exact⟨rfl,rfl⟩
theorem xi:∀n:Fin 100,(⟨(Lib.decDigits n.1).toArray⟩:ByteArray)=V.ik n.1:=by decide+kernel
namespace V
attribute [local irreducible] ea wpOps gR Call
attribute [local go_sem] aM fP eL gh ga cE upd cu K.av cL AV.cells AV.cell rowOf rowsOf part ld rowAt bY ck dI ef ig bL da ez gn e7 du ek cY cX dV dW bR bm cQ bQ cT cR ei eo ej cP bW cZ eh bP aQ cV cC ib bw cH bS aY dF bu dK AV.undef bF bH dY ee dU eb cF ew eD cw eu er cU cW List.getD_cons_zero List.getD_cons_succ List.getD_nil List.all_cons List.all_nil Bool.and_true Bool.true_and Bool.and_self Bool.not_true Bool.not_false Option.map_some Option.map_none Option.bind_some Option.bind_none List.length_cons List.length_nil List.take_succ_cons List.take_zero List.take_nil List.drop_succ_cons List.drop_zero List.drop_nil List.head?_cons List.map_cons List.map_nil List.getElem?_cons_zero List.getElem?_cons_succ List.cons_append List.nil_append List.append_nil List.length_map List.set_cons_zero List.set_cons_succ Nat.reduceMul eq_self Int.toNat_natCast Int.natCast_nonneg and_self true_and and_true decide_true decide_false Bool.false_eq_true Nat.zero_add Nat.add_zero List.contains_cons List.contains_nil Bool.or_false Bool.false_or beq_self_eq_true Nat.reduceBEq ne_eq not_true_eq_false not_false_eq_true Id.mk.injEq false_and and_false Nat.reduceLT Int.reduceLE Int.reduceLT Int.reduceToNat Int.reduceNeg Int.reduceAdd Nat.le_refl List.length_append beq_true beq_false Bool.not_eq_eq_eq_not or_false false_or dE ad aj aI bE cj aW bf aV bo cN bG
theorem KF {P:Program} {w:World} {D:Nat->Prop} {ι:Names} {k m:Int} {vs:Array Value} (h:e8 P w D ι [.int .i64 k,.int .i64 m] vs):vs= #[.int .i64 k,.int .i64 m]:=by
 obtain⟨h1,h2⟩:=h
 obtain⟨u,hu,hr⟩:=h2 0 _ rfl
 rw[dh hr]at hu
 obtain⟨u2,Ox,AK⟩:=h2 1 _ rfl
 rw[dh AK]at Ox
 obtain⟨l⟩:=vs
 match l,h1 with
 |[a,b],_=>
  simp at hu Ox
  rw[hu,Ox]
theorem G0 (n:Nat) (h:n<100):ae Tryz.prog 143 [.int .i64 (n:Int),.int .i64 10] (.str (ik n)):=
 jz (vs0:= #[.int .i64 (n:Int),.int .i64 10]) (u0:=.string (ik n)) (fun _ _ _ _=>KF) (fun _ _ _=>.eJ _ _ (.str _)) (fun g=>kX g 5 _) fun w=>(Br n h w).mono (by
  rintro e w' ⟨rfl,rfl⟩
  exact⟨by rw[xi ⟨n,h⟩],Below.refl _ _⟩)
theorem zx (n:Nat) (h:n<100):ae Tryz.prog 122 [.int .i64 (n:Int),.int .i64 10] (.str (ik n)):=by
 refine ae.body dM rfl fun hl n0=>?_
 clear hl
 have h1:=G0 n h
 (repeat(first|((repeat(revert hN;revert N;apply Pn.out));refine wk @Nat.zero_add ?_;(repeat(refine Pn.mk ?_;intro N hN)))|((try apply Or.inl);refine⟨_,ae.x (h1) (sd @Nat.zero_add),?_⟩;refine hN _ _ ?_;clear hN N)))
 exact kr (.inl rfl) (vs:=[.str (ik n)]) (sd @Nat.zero_add) (by simp only[eF,kX])
theorem DV (n:Nat) (h:n<100):ae Tryz.prog 89 [.int .i64 (n:Int)] (.str (ik n)):=by
 refine ae.body dM rfl fun hl n0=>?_
 clear hl
 have h1:=zx n h
 (repeat(first|((repeat(revert hN;revert N;apply Pn.out));refine wk @Nat.zero_add ?_;(repeat(refine Pn.mk ?_;intro N hN)))|((try apply Or.inl);refine⟨_,ae.x (h1) (sd @Nat.zero_add),?_⟩;refine hN _ _ ?_;clear hN N)))
 exact kr (.inl rfl) (vs:=[.str (ik n)]) (sd @Nat.zero_add) (by simp only[eF,kX])
theorem Cd (u:ByteArray) (hu:u.size<=1000) (n:Nat) (h:n<100):ae Tryz.prog 74 [.str u,.int .i64 (n:Int)] (.str (u++ik n)):=by
 refine ae.body dM rfl fun hl n0=>?_
 clear hl
 have h1:=DV n h
 have h2:u.size+(ik n).size<=9223372036854775807:=by have:=GI n;omega
 generalize ik n=d at h1 h2 ⊢
 (repeat(first|((repeat(revert hN;revert N;apply Pn.out));refine wk @h2 ?_;(repeat(refine Pn.mk ?_;intro N hN)))|((try apply Or.inl);refine⟨_,ae.x (h1) (sd @h2),?_⟩;refine hN _ _ ?_;clear hN N)))
 exact kr (.inl rfl) (vs:=[.str (u++d)]) (sd @Nat.zero_add) (by simp only[eF,kX])
theorem Cc (nm u:ByteArray) (hu:u.size<=1000) (pw:Nat) (PM:pw<=10):ae Tryz.prog 43 [.str nm,.str u,.int .i64 (pw:Int)] (.int .i64 (jN nm u pw)):=by
 refine ae.body dM rfl fun hl n0=>?_
 clear hl
 (try((repeat(revert hN;revert N;apply Pn.out));refine wk @Nat.zero_add ?_;(repeat(refine Pn.mk ?_;intro N hN))))
 refine aP (fun n env st=>∃k:Nat,n=(pw)-k/\k<=(pw)/\env 9=.int .i64 (k:Int)/\(∀j:Nat,j<k->nm≠u++ik j)) (pw) ⟨0,by omega,by omega,sl @Nat.zero_add,fun _ h=>absurd h (Nat.not_lt_zero _)⟩ ?_
 rintro n_a env_a st_a ⟨k,rfl,ale,a9,iM⟩ dm
 have a0:=dm 0 (by kernel_rfl);have a1:=dm 1 (by kernel_rfl);have a8:=dm 8 (by kernel_rfl)
 simp only[go_sem, ↓reduceIte,Nat.reduceEqDiff,Nat.reduceAdd,Nat.reduceSub,Nat.reduceLeDiff,reduceCtorEq]at a0 a1 a8
 clear dm
 by_cases hk:(k:Int)<(pw:Int)
 ·have bD:∀{e:Env},(e 9=.int .i64 (IntKind.i64.wrap ((k:Int)+1)))->(nm≠u++ik k)->∃m0,m0<(pw)-k/\∃k:Nat,m0=(pw)-k/\k<=(pw)/\e 9=.int .i64 (k:Int)/\(∀j:Nat,j<k->nm≠u++ik j):=fun x1 x2=>⟨_,by omega,k+1,rfl,by omega,(by rw[x1,ay (by omega)]),(all_succ iM x2)⟩
  have dX:k<pw:=by omega
  have JQ:=Cd u hu k (by omega)
  have oG:=zh (nm:=nm) (pre:=u) dX PM
  by_cases he:nm=u++ik k
  ·have hd:=decide_eq_true he
   have hv:=oG.1 he
   (repeat(first|((repeat(revert hN;revert N;apply Pn.out));refine wk (tw @a9 (tw @a0 (tw @a1 (tw @a8 (tw @hk @hd))))) ?_;(repeat(refine Pn.mk ?_;intro N hN)))|((try apply Or.inl);refine⟨_,ae.x (JQ) (sd (tw @a9 (tw @a0 (tw @a1 (tw @a8 (tw @hk @hd)))))),?_⟩;refine hN _ _ ?_;clear hN N)))
   exact aZ (b:=(k:Int)) (.inl rfl) (sd @Nat.zero_add) hv.symm
  ·have hd:=decide_eq_false he
   (repeat(first|((repeat(revert hN;revert N;apply Pn.out));refine wk (tw @a9 (tw @a0 (tw @a1 (tw @a8 (tw @hk @hd))))) ?_;(repeat(refine Pn.mk ?_;intro N hN)))|((try apply Or.inl);refine⟨_,ae.x (JQ) (sd (tw @a9 (tw @a0 (tw @a1 (tw @a8 (tw @hk @hd)))))),?_⟩;refine hN _ _ ?_;clear hN N)))
   exact bD (sd (tw @a9 (tw @a0 (tw @a1 @a8)))) (he)
 ·have lu:k=pw:=by omega
  subst lu
  (try((repeat(revert hN;revert N;apply Pn.out));refine wk (tw @a9 (tw @a0 (tw @a1 (tw @a8 @hk)))) ?_;(repeat(refine Pn.mk ?_;intro N hN))))
  exact aZ (b:=-1) (.inl rfl) (sd @Nat.zero_add) (Er PM fun n hn=>iM n hn).symm
theorem zD (s:aw) (hF:iE s) (l:List ao) (hA:qU s l) (p:cr) (d:Int) (hd:fI d 0 3=true):ae Tryz.prog 44 [.agg (aa s),.agg [.sl (l.map ai)],.agg (ak p),.int .i64 d] (.str (C9 s l p d)):=by
 refine ae.body dM rfl fun hl n0=>?_
 have hn:s.au.length<=9223372036854775807:=by
  have h1:=(hl (.agg (aa s)) (by simp)).Gt (a:=.sl (s.au.map bd)) (by simp[aa])
  simpa using h1.len
 clear hl
 have xF:=Rs l p hA.1.Rh (by have:=hA.1.FW;omega)
 rw[ak]at xF ⊢
 by_cases h0:vK l p<0
 ·(repeat(first|((repeat(revert hN;revert N;apply Pn.out));refine wk (tw @aa.eq_1 @h0) ?_;(repeat(refine Pn.mk ?_;intro N hN)))|((try apply Or.inl);refine⟨_,ae.x (xF) (sd (tw @aa.eq_1 @h0)),?_⟩;refine hN _ _ ?_;clear hN N)))
  exact kr (.inl rfl) (vs:=[.str ⟨#[]⟩]) (sd @Nat.zero_add) (by rw[C9,if_pos h0];simp only[eF,kX])
 ·have ht:=yV hA (p:=p) (by omega)
  have hg:C9 s l p d=if dc (dd s (vK l p)) d=0 then⟨#[]⟩else(iA s (dc (dd s (vK l p)) d-1)).aB:=by rw[C9,if_neg h0]
  rw[hg]
  generalize vK l p=t at xF h0 ht
  obtain⟨a0,a1,a2⟩:=kD ht
  have s1:=kA (hF.nT _ a2) hd
  have gl:=hF.r6 _ a2 _ (qD (hF.nT _ a2) hd)
  have d0:=(dB hd).1
  generalize dc (dd s t) d=g at s1 gl ⊢
  by_cases My:g=0
  ·have e:=decide_eq_true My
   (repeat(first|((repeat(revert hN;revert N;apply Pn.out));refine wk (tw @aa.eq_1 (tw @bj.eq_1 (tw @h0 (tw @a0 (tw @a1 (tw @s1 (tw @d0 @e))))))) ?_;(repeat(refine Pn.mk ?_;intro N hN)))|((try apply Or.inl);refine⟨_,ae.x (xF) (sd (tw @aa.eq_1 (tw @bj.eq_1 (tw @h0 (tw @a0 (tw @a1 (tw @s1 (tw @d0 @e)))))))),?_⟩;refine hN _ _ ?_;clear hN N)))
   exact kr (.inl rfl) (vs:=[.str ⟨#[]⟩]) (sd @Nat.zero_add) (by rw[if_pos My];simp only[eF,kX])
  ·have e:=decide_eq_false My
   have hw:IntKind.i64.wrap (g-1)=g-1:=aT (by omega)
   have jx:0<=g-1:=by omega
   have dR:(s.au.map bd)[(g-1).toNat]? =some (bd (iA s (g-1))):=getD_map bd (by omega)
   (repeat(first|((repeat(revert hN;revert N;apply Pn.out));refine wk (tw @aa.eq_1 (tw @bj.eq_1 (tw @h0 (tw @a0 (tw @a1 (tw @s1 (tw @d0 (tw @e (tw @hw (tw @jx (tw @dR @bd.eq_1))))))))))) ?_;(repeat(refine Pn.mk ?_;intro N hN)))|((try apply Or.inl);refine⟨_,ae.x (xF) (sd (tw @aa.eq_1 (tw @bj.eq_1 (tw @h0 (tw @a0 (tw @a1 (tw @s1 (tw @d0 (tw @e (tw @hw (tw @jx (tw @dR @bd.eq_1)))))))))))),?_⟩;refine hN _ _ ?_;clear hN N)))
   exact kr (.inl rfl) (vs:=[.str (iA s (g-1)).aB]) (sd @Nat.zero_add) (by rw[if_neg My];simp only[eF,kX])
end V
end Go.Proofs.YtihgaadadaekmaaGreatDoor

namespace Go.Proofs.YtihgaadadaekmaaGreatDoor.V
open Go.RowKit
attribute [local irreducible] ea wpOps gR Call
attribute [local go_sem] aM fP eL gh ga cE upd cu K.av cL AV.cells AV.cell rowOf rowsOf part ld rowAt bY ck dI ef ig bL da ez gn e7 du ek cY cX dV dW bR bm cQ bQ cT cR ei eo ej cP bW cZ eh bP aQ cV cC ib bw cH bS aY dF bu dK AV.undef bF bH dY ee dU eb cF ew eD cw eu er cU cW List.getD_cons_zero List.getD_cons_succ List.getD_nil List.all_cons List.all_nil Bool.and_true Bool.true_and Bool.and_self Bool.not_true Bool.not_false Option.map_some Option.map_none Option.bind_some Option.bind_none List.length_cons List.length_nil List.take_succ_cons List.take_zero List.take_nil List.drop_succ_cons List.drop_zero List.drop_nil List.head?_cons List.map_cons List.map_nil List.getElem?_cons_zero List.getElem?_cons_succ List.cons_append List.nil_append List.append_nil List.length_map List.set_cons_zero List.set_cons_succ Nat.reduceMul eq_self Int.toNat_natCast Int.natCast_nonneg and_self true_and and_true decide_true decide_false Bool.false_eq_true Nat.zero_add Nat.add_zero List.contains_cons List.contains_nil Bool.or_false Bool.false_or beq_self_eq_true Nat.reduceBEq ne_eq not_true_eq_false not_false_eq_true Id.mk.injEq false_and and_false Nat.reduceLT Int.reduceLE Int.reduceLT Int.reduceToNat Int.reduceNeg Int.reduceAdd Nat.le_refl List.length_append beq_true beq_false Bool.not_eq_eq_eq_not or_false false_or dE ad aj aI bE cj aW bf aV bo cN bG
theorem wV (s:cl) (a:dj) (f:dG) (hn:fx s.aE) (hm:pS s) (hl:a.ah.length<=1048576) (xK:f.aL.length<=1048576) (yG:∀l∈f.aL,l.length<=1048576):
  LH Tryz.prog 28 [.agg (az s),.agg (aD a),.agg (bc f)] (pj s a f):=by
 obtain⟨l⟩:=a
 intro n0
 have h1:=Bo s l f hn hm hl xK yG
 rw[aD]
 (try dsimp only)
 cases hask:nu s l&&nF f
 ·rw[hask]at h1
  have hr:pj s ⟨l⟩ f=([],1):=by rw[pj,hask];rfl
  rw[hr]
  refine eW dM rfl fun vk=>?_
  clear vk
  rw[az,bc]at h1 ⊢
  (repeat(first|((repeat(revert hN;revert N;apply Pn.out));refine wk @Nat.zero_add ?_;(repeat(refine Pn.mk ?_;intro N hN)))|((try apply Or.inl);refine⟨_,ae.x (h1) (sd @Nat.zero_add),?_⟩;refine hN _ _ ?_;clear hN N)))
  exact gm (.inl rfl) (vs:=[.bK,.int .i64 1]) (sd @Nat.zero_add) ⟨[],⟨.bK,[],rfl,.inl ⟨rfl,rfl,rfl⟩,rfl⟩,⟨List.nodup_nil,fun i hi=>by cases hi⟩⟩
 rw[hask]at h1
 have hr:pj s ⟨l⟩ f=xT (fb s.aE l f) f.aL.length:=by rw[pj,hask];rfl
 obtain⟨R,hR⟩:∃R:List Int×Int,pj s ⟨l⟩ f=R:=⟨_,rfl⟩
 rw[hR]at hr ⊢
 clear hR
 obtain⟨R7,lr⟩:=Bool.and_eq_true_iff.1 hask
 obtain⟨hP,hA⟩:=yU.1 R7
 obtain⟨M7,ksu,kcu⟩:=C7 lr
 have gO:(f.aq.map bh).length=f.aq.length:=by simp
 have ji:(f.aL.map j9).length=f.aL.length:=by simp
 refine eW dM rfl fun vk=>?_
 clear vk
 rw[az,bc]at h1
 have pJ:=fun k:Nat=>zD s.aE hP.set.form l hA ⟨f.aU+1+(k:Int),(f.aq.length:Int)⟩ 0 (nI ab)
 rw[aa]at pJ
 rw[az,bc]
 (repeat(first|((repeat(revert hN;revert N;apply Pn.out));refine wk (tw @gO @ji) ?_;(repeat(refine Pn.mk ?_;intro N hN)))|((try apply Or.inl);refine⟨_,ae.x (h1) (sd (tw @gO @ji)),?_⟩;refine hN _ _ ?_;clear hN N)))
 refine aP (fun n env st=>∃k:Nat,n=(f.aL.length)-k/\k<=(f.aL.length)/\env 23=.int .i64 (k:Int)/\(∀j:Nat,j<k->0<=fb s.aE l f j)/\(OI 28012003 n0 (kQ (fb s.aE l f) k) (env 9) st.get st.next/\n0<st.next/\st.get ⟨28000000,n0⟩=some ⟨true,4,[[.sl (s.aE.au.map bd),.sl (s.aE.ah.map bj),.sl (s.bZ.ah.map ai),.int .i64 s.aH]]⟩/\st.get ⟨28000001,n0⟩=some ⟨true,1,[[.sl (l.map ai)]]⟩/\st.get ⟨28000002,n0⟩=some ⟨true,3,[[.int .i64 f.aU,.sl (f.aq.map bh),.sl (f.aL.map j9)]]⟩)) (f.aL.length) ⟨0,ab,ab,sl (tw @gO @ji),fun _ h=>absurd h (Nat.not_lt_zero _),by(try dsimp only);exact⟨.inl ⟨rfl,sd @Nat.zero_add⟩,ab,sd @Nat.zero_add,sd @Nat.zero_add,sd @Nat.zero_add⟩⟩ ?_
 rintro n_a env_a st_a ⟨k,rfl,ale,kG,iM,jW⟩ dm
 have a3:=dm 3 (by kernel_rfl);have a4:=dm 4 (by kernel_rfl);have a5:=dm 5 (by kernel_rfl);have o6:=dm 22 (by kernel_rfl)
 simp only[go_sem, ↓reduceIte,Nat.reduceEqDiff,Nat.reduceAdd,Nat.reduceSub,Nat.reduceLeDiff,reduceCtorEq,gO,ji]at a3 a4 a5 o6
 clear dm
 obtain⟨aG,an,Gq,Gr,Gs⟩:=jW
 by_cases hk:(k:Int)<(f.aL.length:Int)
 ·have bD:∀{e:Env} {gg:Rows} {nx:Nat},(e 23=.int .i64 (IntKind.i64.wrap ((k:Int)+1)))->(0<=fb s.aE l f k)->(OI 28012003 n0 (kQ (fb s.aE l f) (k+1)) (e 9) gg nx/\n0<nx/\gg ⟨28000000,n0⟩=some ⟨true,4,[[.sl (s.aE.au.map bd),.sl (s.aE.ah.map bj),.sl (s.bZ.ah.map ai),.int .i64 s.aH]]⟩/\gg ⟨28000001,n0⟩=some ⟨true,1,[[.sl (l.map ai)]]⟩/\gg ⟨28000002,n0⟩=some ⟨true,3,[[.int .i64 f.aU,.sl (f.aq.map bh),.sl (f.aL.map j9)]]⟩)->∃m0,m0<(f.aL.length)-k/\∃k:Nat,m0=(f.aL.length)-k/\k<=(f.aL.length)/\e 23=.int .i64 (k:Int)/\(∀j:Nat,j<k->0<=fb s.aE l f j)/\(OI 28012003 n0 (kQ (fb s.aE l f) k) (e 9) gg nx/\n0<nx/\gg ⟨28000000,n0⟩=some ⟨true,4,[[.sl (s.aE.au.map bd),.sl (s.aE.ah.map bj),.sl (s.bZ.ah.map ai),.int .i64 s.aH]]⟩/\gg ⟨28000001,n0⟩=some ⟨true,1,[[.sl (l.map ai)]]⟩/\gg ⟨28000002,n0⟩=some ⟨true,3,[[.int .i64 f.aU,.sl (f.aq.map bh),.sl (f.aL.map j9)]]⟩):=fun x1 x2 x3=>⟨_,ab,k+1,rfl,ab,(by rw[x1,ay ab]),(all_succ iM x2),x3⟩
  have dX:k<f.aL.length:=ab
  have Hd:=pJ k
  rw[ak]at Hd
  have PT:ae Tryz.prog 43 [.str (C9 s.aE l ⟨f.aU+1+(k:Int),(f.aq.length:Int)⟩ 0),.str ⟨#[111]⟩,.int .i64 2] (.int .i64 (jN (C9 s.aE l ⟨f.aU+1+(k:Int),(f.aq.length:Int)⟩ 0) ⟨#[111]⟩ 2)):=Cc _ ⟨#[111]⟩ (by decide) 2 ab
  have qh:IntKind.i64.wrap (f.aU+1)=f.aU+1:=aT ab
  have qi:IntKind.i64.wrap (f.aU+1+(k:Int))=f.aU+1+(k:Int):=aT ab
  obtain⟨v,hv⟩:∃v,fb s.aE l f k=v:=⟨_,rfl⟩
  have SS:jN (C9 s.aE l ⟨f.aU+1+(k:Int),(f.aq.length:Int)⟩ 0) ⟨#[111]⟩ 2=v:=hv
  rw[SS]at PT
  generalize C9 s.aE l ⟨f.aU+1+(k:Int),(f.aq.length:Int)⟩ 0=nm at Hd PT
  by_cases kO:v<0
  ·rw[Du dX (by rw[hv];exact kO)]at hr
   subst hr
   (repeat(first|((repeat(revert hN;revert N;apply Pn.out));refine wk (tw @kG (tw @a3 (tw @a4 (tw @a5 (tw @o6 (tw @hk (tw @gO (tw @ji (tw @Gq (tw @Gr (tw @Gs (tw @kO (tw @qh @qi))))))))))))) ?_;(repeat(refine Pn.mk ?_;intro N hN)))|((try apply Or.inl);refine⟨_,ae.x (Hd) (sd (tw @kG (tw @a3 (tw @a4 (tw @a5 (tw @o6 (tw @hk (tw @gO (tw @ji (tw @Gq (tw @Gr (tw @Gs (tw @kO (tw @qh @qi)))))))))))))),?_⟩;refine hN _ _ ?_;clear hN N)|((try apply Or.inl);refine⟨_,ae.x (PT) (sd (tw @kG (tw @a3 (tw @a4 (tw @a5 (tw @o6 (tw @hk (tw @gO (tw @ji (tw @Gq (tw @Gr (tw @Gs (tw @kO (tw @qh @qi)))))))))))))),?_⟩;refine hN _ _ ?_;clear hN N)))
   exact gm (.inl rfl) (vs:=[.bK,.int .i64 9]) (sd @Nat.zero_add) ⟨[],⟨.bK,[],rfl,.inl ⟨rfl,rfl,rfl⟩,rfl⟩,⟨List.nodup_nil,fun i hi=>by cases hi⟩⟩
  ·have Ow:(kQ (fb s.aE l f) (k+1)).map ar=(kQ (fb s.aE l f) k).map ar++[[.int .i64 v]]:=by rw[wE,List.map_append,hv];rfl
   have sU:=nJ (fb s.aE l f) (k+1)
   have xI:=nJ (fb s.aE l f) k
   have r9:k<=16777215:=ab
   generalize kQ (fb s.aE l f) k=M at aG Ow xI
   rcases aG with⟨hM,a9⟩|⟨u,a9,hu,hum,Jb,yH,P3⟩
   ·subst hM
    (repeat(first|((repeat(revert hN;revert N;apply Pn.out));refine wk (tw @kG (tw @a3 (tw @a4 (tw @a5 (tw @o6 (tw @hk (tw @gO (tw @ji (tw @Gq (tw @Gr (tw @Gs (tw @kO (tw @a9 (tw @qh @qi)))))))))))))) ?_;(repeat(refine Pn.mk ?_;intro N hN)))|((try apply Or.inl);refine⟨_,ae.x (Hd) (sd (tw @kG (tw @a3 (tw @a4 (tw @a5 (tw @o6 (tw @hk (tw @gO (tw @ji (tw @Gq (tw @Gr (tw @Gs (tw @kO (tw @a9 (tw @qh @qi))))))))))))))),?_⟩;refine hN _ _ ?_;clear hN N)|((try apply Or.inl);refine⟨_,ae.x (PT) (sd (tw @kG (tw @a3 (tw @a4 (tw @a5 (tw @o6 (tw @hk (tw @gO (tw @ji (tw @Gq (tw @Gr (tw @Gs (tw @kO (tw @a9 (tw @qh @qi))))))))))))))),?_⟩;refine hN _ _ ?_;clear hN N)))
    exact bD (sd (tw @kG (tw @a3 (tw @a4 (tw @a5 @o6))))) (by rw[hv];omega) (by(try dsimp only);exact⟨.inr ⟨⟨28012003,st_a.next+1+1+1+1+1⟩,by rw[sU,<-xI];simp only[go_sem, ↓reduceIte,Nat.reduceEqDiff,Nat.reduceAdd,Nat.reduceSub,Nat.reduceLeDiff,reduceCtorEq]<;>rfl,by rw[Ow];simp only[go_sem, ↓reduceIte,Nat.reduceEqDiff,Nat.reduceAdd,Nat.reduceSub,Nat.reduceLeDiff,reduceCtorEq]<;>rfl,bt,bt,by rw[sU];omega,rfl⟩,ab,sd @Gq,sd @Gr,sd @Gs⟩)
   ·have vu:=eO Jb
    have Hi:(M.map ar).length=M.length:=by simp
    have R0:M.length<=16777215:=ab
    have u3:((⟨28000000,n0⟩:Id)=u)=False:=eq_false fun e=>by
     have h:=congrArg Id.site e
     rw[P3]at h
     exact absurd (show(28000000:Nat)=28012003 from h) (by decide)
    have u4:((⟨28000001,n0⟩:Id)=u)=False:=eq_false fun e=>by
     have h:=congrArg Id.site e
     rw[P3]at h
     exact absurd (show(28000001:Nat)=28012003 from h) (by decide)
    have u5:((⟨28000002,n0⟩:Id)=u)=False:=eq_false fun e=>by
     have h:=congrArg Id.site e
     rw[P3]at h
     exact absurd (show(28000002:Nat)=28012003 from h) (by decide)
    (repeat(first|((repeat(revert hN;revert N;apply Pn.out));refine wk (tw @kG (tw @a3 (tw @a4 (tw @a5 (tw @o6 (tw @hk (tw @gO (tw @ji (tw @Gq (tw @Gr (tw @Gs (tw @kO (tw @a9 (tw @hu (tw @vu (tw @Hi (tw @R0 (tw @qh @qi)))))))))))))))))) ?_;(repeat(refine Pn.mk ?_;intro N hN)))|((try apply Or.inl);refine⟨_,ae.x (Hd) (sd (tw @kG (tw @a3 (tw @a4 (tw @a5 (tw @o6 (tw @hk (tw @gO (tw @ji (tw @Gq (tw @Gr (tw @Gs (tw @kO (tw @a9 (tw @hu (tw @vu (tw @Hi (tw @R0 (tw @qh @qi))))))))))))))))))),?_⟩;refine hN _ _ ?_;clear hN N)|((try apply Or.inl);refine⟨_,ae.x (PT) (sd (tw @kG (tw @a3 (tw @a4 (tw @a5 (tw @o6 (tw @hk (tw @gO (tw @ji (tw @Gq (tw @Gr (tw @Gs (tw @kO (tw @a9 (tw @hu (tw @vu (tw @Hi (tw @R0 (tw @qh @qi))))))))))))))))))),?_⟩;refine hN _ _ ?_;clear hN N)))
    exact bD (sd (tw @kG (tw @a3 (tw @a4 (tw @a5 @o6))))) (by rw[hv];omega) (by(try dsimp only);exact⟨.inr ⟨⟨28012003,st_a.next+1+1+1+1+1⟩,by rw[sU,<-xI];simp only[go_sem, ↓reduceIte,Nat.reduceEqDiff,Nat.reduceAdd,Nat.reduceSub,Nat.reduceLeDiff,reduceCtorEq]<;>rfl,by rw[Ow];simp only[go_sem, ↓reduceIte,Nat.reduceEqDiff,Nat.reduceAdd,Nat.reduceSub,Nat.reduceLeDiff,reduceCtorEq]<;>rfl,bt,bt,by rw[sU];omega,rfl⟩,ab,sd (tw @u3 @Gq),sd (tw @u4 @Gr),sd (tw @u5 @Gs)⟩)
 ·have dX:k=f.aL.length:=ab
  have hy:=z6 (D:=fb s.aE l f) (n:=f.aL.length) fun j hj=>iM j ab
  rw[hy]at hr
  subst hr
  rw[dX]at aG
  obtain⟨ids,ho,hi⟩:=aG.out
  obtain⟨v9,SO⟩:∃v,env_a 9=v:=⟨_,rfl⟩
  rw[SO]at ho
  (try((repeat(revert hN;revert N;apply Pn.out));refine wk (tw @kG (tw @a3 (tw @a4 (tw @a5 (tw @o6 (tw @hk @SO)))))) ?_;(repeat(refine Pn.mk ?_;intro N hN))))
  exact gm (.inl rfl) (vs:=[v9,.int .i64 0]) (sd @SO) ⟨ids,⟨v9,ids,rfl,ho,rfl⟩,hi.wide (Nat.le_refl _) bt⟩
end Go.Proofs.YtihgaadadaekmaaGreatDoor.V

namespace Go.Proofs.YtihgaadadaekmaaGreatDoor
open Go.ChangeShapes Go.WideShapes Go.ChangeAt Go.RowKit Go.Deep
section
variable {H:Type} {enc:TypeId×Value->H} {P:Program} {w:World}
theorem k9.Ql {α:Type} {rep:World->List Nat->List Value->α->Prop} {sz:Nat} {w:World} {b o len cap:Nat} (nA:Nat->List Value) (fs:Nat->List Nat) (ds:Nat->α) (hc:len<=cap) (hm:cap<=maxLen)
  (hl:∀i,i<len->(nA i).length=sz) (hr:∀i,i<len->rep w (fs i) (nA i) (ds i)) (xF:∀i,i<len->∀j u,(nA i)[j]? =some u->w.cell? ⟨b,o+(i*sz+j),none⟩=some u):
  k9 rep sz w ([b]++((List.range len).map fs).flatten) (.slice (some ⟨b,o,none⟩) len cap) ((List.range len).map ds):=by
 refine⟨(List.range len).map nA,(List.range len).map fs,[b],rfl,⟨some ⟨b,o,none⟩,cap,by simp,by simpa using hc,hm,.inr ⟨b,o,rfl,rfl,fun j u hj=>?_⟩⟩,by simp,by simp,fun i cs f d h1 h2 h3=>?_⟩
 ·have hlen:∀cs∈(List.range len).map nA,cs.length=sz:=fun cs dq=>by
   obtain⟨i,hi,rfl⟩:=List.mem_map.1 dq
   exact hl i (List.mem_range.1 hi)
  have gL:=(List.getElem?_eq_some_iff.1 hj).1
  have JJ:((List.range len).map nA).flatten.length=len*sz:=by
   rw[List.length_flatten,List.map_map]
   have:∀(l:List Nat),(∀i∈l,i<len)->(l.map (List.length∘nA)).sum=l.length*sz:=by
    intro l
    induction l with
    |nil=>intro _;simp
    |cons a l ih=>intro h;rw[List.map_cons,List.sum_cons,ih fun i hi=>h i (List.mem_cons_of_mem _ hi)];simp only[Function.comp,hl a (h a (by simp)),List.length_cons,Nat.add_mul];omega
   rw[this _ fun i hi=>List.mem_range.1 hi,List.length_range]
  rw[JJ]at gL
  have EJ:0<sz:=by
   rcases Nat.eq_zero_or_pos sz with h|h
   ·subst h;simp at gL
   ·exact h
  have hi:j / sz<len:=(Nat.div_lt_iff_lt_mul EJ).2 gL
  have I6:j % sz<sz:=Nat.mod_lt _ EJ
  have JN:j=(j / sz)*sz+j % sz:=by rw[Nat.mul_comm];exact(Nat.div_add_mod j sz).symm
  rw[JN,rZ hlen (i:=j / sz) (cs:=nA (j / sz)) (by simp[hi]) I6]at hj
  rw[JN]
  have:=xF (j / sz) hi (j % sz) u hj
  rw[<-JN]at this ⊢
  exact this
 ·have hi:i<len:=by
   have:=(List.getElem?_eq_some_iff.1 h1).1
   simpa using this
  simp[hi]at h1 h2 h3
  subst h1 h2 h3
  exact⟨hr i hi,hl i hi⟩
theorem jL (b o k:Nat):(⟨b,o,none⟩:Addr).add k=⟨b,o+k,none⟩:=by
 unfold Addr.add;split
 ·rename_i h;subst h;rfl
 ·rfl
theorem j5 {α:Type} {rep:World->List Nat->List Value->α->Prop} {Q:α->Prop} {t e:TypeId} {sz fuel:Nat} {cs:List Value} {x:DataW H×List MemPlace} (ht:P.underlying t=some (.slice e)) (hC:P.cellsOf e=sz) (EJ:0<sz)
  (h:DataW.trod enc P w 0 (fun _=>true) true fuel t cs=some x) (hel:∀n oe y,oe.length=sz->DataW.trod enc P w 0 (fun _=>true) true n e oe=some y->∃f d,eT f 0 w.heap.size/\rep w f oe d/\Q d):
  ∃A n c f xs,cs=[.slice A n c]/\eT f 0 w.heap.size/\k9 rep sz w f (.slice A n c) xs/\∀d∈xs,Q d:=by
 rcases open_slice ht h with⟨rfl,_⟩|⟨a,len,cap,m,n,D,Pl,rfl,_,hl,hm,Hi,_,hi⟩
 ·exact⟨none,0,0,[],[],rfl,eT.nil _ _,k9.nil _ _ _,fun d h=>by cases h⟩
 rw[hC]at hi
 simp only[if_true]at Hi
 by_cases h0:len=0
 ·subst h0
  exact⟨some a,0,cap,[],[],rfl,eT.nil _ _,⟨[],[],[],rfl,⟨some a,cap,rfl,Nat.zero_le _,hm,.inl ⟨rfl,rfl⟩⟩,rfl,rfl,fun i cs f d hc=>by simp at hc⟩,fun d h=>by cases h⟩
 obtain⟨b,o,sp⟩:=a
 have cell0:∃v,w.cell? ⟨b,o,sp⟩=some v:=by
  obtain⟨oe,hc,_⟩:=hi 0 (by omega)
  obtain⟨_,lq,xF⟩:=World.cells?_some hc
  refine⟨oe[0]'(by omega),?_⟩
  have:=xF 0 EJ
  rw[List.getElem?_eq_getElem (by omega)]at this
  simpa[Addr.add]using this
 obtain⟨v0,kO⟩:=cell0
 have hb:b<w.heap.size:=World.block_lt_of_cell? w _ kO
 have MV:sp=none:=by
  unfold World.cell? at kO
  split at kO
  ·split at kO
   ·cases kO
   ·rename_i h;simpa using h
  ·cases kO
 subst MV
 have key:∀i,i<len->∃oe f d,oe.length=sz/\eT f 0 w.heap.size/\rep w f oe d/\Q d/\∀j u,oe[j]? =some u->w.cell? ⟨b,o+(i*sz+j),none⟩=some u:=fun i oR=>by
  obtain⟨oe,hc,htr⟩:=hi i (by omega)
  obtain⟨_,lq,xF⟩:=World.cells?_some hc
  obtain⟨f,d,h1,h2,h3⟩:=hel n oe _ lq htr
  refine⟨oe,f,d,lq,h1,h2,h3,fun j u hj=>?_⟩
  have gL:=(List.getElem?_eq_some_iff.1 hj).1
  have:=xF j (by omega)
  rw[hj]at this
  rw[<-this,Go.Deep.add_add,jL]
 have:Nonempty α:=by
  obtain⟨_,_,d,_⟩:=key 0 (by omega)
  exact⟨d⟩
 let cf:Nat->List Value:=fun i=>if hi:i<len then(key i hi).choose else[]
 let ff:Nat->List Nat:=fun i=>if hi:i<len then(key i hi).choose_spec.choose else[]
 let df:Nat->α:=fun i=>if hi:i<len then(key i hi).choose_spec.choose_spec.choose else Classical.choice this
 have dk:∀i,i<len->(cf i).length=sz/\eT (ff i) 0 w.heap.size/\rep w (ff i) (cf i) (df i)/\Q (df i)/\∀j u,(cf i)[j]? =some u->w.cell? ⟨b,o+(i*sz+j),none⟩=some u:=fun i hi=>by
  have:=(key i hi).choose_spec.choose_spec.choose_spec
  simp only[cf,ff,df,dif_pos hi]
  exact this
 refine⟨some ⟨b,o,none⟩,len,cap,_,(List.range len).map df,rfl,?_,k9.Ql cf ff df hl hm (fun i hi=>(dk i hi).1) (fun i hi=>(dk i hi).2.2.1) (fun i hi=>(dk i hi).2.2.2.2),fun d hd=>?_⟩
 ·intro x hx
  rcases List.mem_append.1 hx with hx|hx
  ·simp at hx;subst hx;exact⟨Nat.zero_le _,hb⟩
  ·obtain⟨l,Om,OB⟩:=List.mem_flatten.1 hx
   obtain⟨i,hi,rfl⟩:=List.mem_map.1 Om
   exact(dk i (List.mem_range.1 hi)).2.1 x OB
 ·obtain⟨i,hi,rfl⟩:=List.mem_map.1 hd
  exact(dk i (List.mem_range.1 hi)).2.2.2.1
end
section
variable {H:Type} {enc:TypeId×Value->H} {w:World} {fuel:Nat} {cs:List Value} {x:DataW H×List MemPlace}
abbrev TT (enc:TypeId×Value->H) (w:World) (fuel t:Nat) (cs:List Value) (x:DataW H×List MemPlace):Prop:=DataW.trod enc Tryz.prog w 0 (fun _=>true) true fuel t cs=some x
theorem H6 (h:TT enc w fuel 54 cs x):∃A n c f xs,cs=[.slice A n c]/\eT f 0 w.heap.size/\pQ w f (.slice A n c) xs:=by
 obtain⟨A,n,c,f,xs,h1,h2,h3,_⟩:=j5 (rep:=CP) (Q:=fun _=>True) Tryz.underlying54 (sz:=1) (by kernel_rfl) (by omega) h fun n oe y hl hy=>by
  obtain⟨b,rfl,_⟩:=DataW.trod_int Tryz.underlying2 hy
  exact⟨[],b,eT.nil _ _,⟨rfl,rfl⟩,trivial⟩
 exact⟨A,n,c,f,xs,h1,h2,h3⟩
theorem jZ {t:TypeId} {fs:Array Field} (ht:Tryz.prog.underlying t=some (.struct fs)) (h:TT enc w fuel t cs x):cs.length=Tryz.prog.cellsOf t/\∃n,∀(i:Nat) (f:Field),fs[i]? =some f->∃y,TT enc w n f.type ((cs.drop f.offset).take (Tryz.prog.cellsOf f.type)) y:=by
 obtain⟨xs,n,_,_,hl,OB,hf⟩:=DataW.trod_struct ht h
 refine⟨hl,n,fun i f hi=>?_⟩
 have oR:i<xs.length:=by rw[OB];exact(Array.getElem?_eq_some_iff.1 hi).1
 exact⟨xs[i],(hf i f hi).trans (List.getElem?_eq_getElem oR)⟩
theorem M9 {l:List Value} (h:l.length=2):∃a b,l=[a,b]:=by
 match l,h with
 |[a,b],_=>exact⟨a,b,rfl⟩
theorem Qh {l:List Value} (h:l.length=3):∃a b c,l=[a,b,c]:=by
 match l,h with
 |[a,b,c],_=>exact⟨a,b,c,rfl⟩
theorem S4 {l:List Value} (h:l.length=1):∃a,l=[a]:=by
 match l,h with
 |[a],_=>exact⟨a,rfl⟩
theorem S5 {l:List Value} (h:l.length=4):∃a b c d,l=[a,b,c,d]:=by
 match l,h with
 |[a,b,c,d],_=>exact⟨a,b,c,d,rfl⟩
theorem Ku (h:TT enc w fuel 22 cs x):∃A n c f xs,cs=[.slice A n c]/\eT f 0 w.heap.size/\pP w f (.slice A n c) xs/\∀d∈xs,d.aB.size<=9223372036854775807:=by
 exact j5 (rep:=Gi) (Q:=fun d=>d.aB.size<=9223372036854775807) Tryz.underlying22 (sz:=2) (by kernel_rfl) (by omega) h fun n oe y hl hy=>by
  obtain⟨_,m,hf⟩:=jZ Tryz.underlying144 hy
  obtain⟨a,b,rfl⟩:=M9 hl
  ·skip
   obtain⟨y0,h0⟩:=hf 0 _ rfl
   obtain⟨y1,h1⟩:=hf 1 _ rfl
   rw[show Tryz.prog.cellsOf _=1 from by kernel_rfl]at h0 h1
   obtain⟨p,e0,_,ws⟩:=DataW.trod_string Tryz.underlying9 h0
   obtain⟨q,e1,_⟩:=DataW.trod_int Tryz.underlying2 h1
   simp at e0 e1
   subst e0 e1
   exact⟨[],⟨p,q⟩,eT.nil _ _,⟨rfl,rfl⟩,by simpa[maxLen]using ws⟩
theorem Kw (h:TT enc w fuel 23 cs x):∃A n c f xs,cs=[.slice A n c]/\eT f 0 w.heap.size/\pR w f (.slice A n c) xs/\∀d∈xs,d.aB.size<=9223372036854775807:=by
 exact j5 (rep:=Gk) (Q:=fun d=>d.aB.size<=9223372036854775807) Tryz.underlying23 (sz:=2) (by kernel_rfl) (by omega) h fun n oe y hl hy=>by
  obtain⟨_,m,hf⟩:=jZ Tryz.underlying146 hy
  obtain⟨a,b,rfl⟩:=M9 hl
  ·skip
   obtain⟨y0,h0⟩:=hf 0 _ rfl
   obtain⟨y1,h1⟩:=hf 1 _ rfl
   rw[show Tryz.prog.cellsOf _=1 from by kernel_rfl]at h0 h1
   obtain⟨p,e0,_,ws⟩:=DataW.trod_string Tryz.underlying9 h0
   obtain⟨A1,n1,c1,f1,NM,e1,k1,s1⟩:=H6 h1
   simp at e0 e1
   subst e0 e1
   exact⟨_,⟨p,NM⟩,k1,⟨_,f1,rfl,rfl,s1⟩,by simpa[maxLen]using ws⟩
theorem Fl (h:TT enc w fuel 26 cs x):∃A n c f xs,cs=[.slice A n c]/\eT f 0 w.heap.size/\iD w f (.slice A n c) xs:=by
 obtain⟨A,n,c,f,xs,h1,h2,h3,_⟩:=j5 (rep:=yN) (Q:=fun _=>True) Tryz.underlying26 (sz:=3) (by kernel_rfl) (by omega) h fun n oe y hl hy=>by
  obtain⟨_,m,hf⟩:=jZ Tryz.underlying123 hy
  obtain⟨a,b,c,rfl⟩:=Qh hl
  ·skip
   obtain⟨y0,h0⟩:=hf 0 _ rfl
   obtain⟨y1,h1⟩:=hf 1 _ rfl
   rw[show Tryz.prog.cellsOf _=2 from by kernel_rfl]at h0
   rw[show Tryz.prog.cellsOf _=1 from by kernel_rfl]at h1
   obtain⟨_,m2,Le⟩:=jZ Tryz.underlying121 h0
   obtain⟨z0,g0⟩:=Le 0 _ rfl
   obtain⟨z1,g1⟩:=Le 1 _ rfl
   rw[show Tryz.prog.cellsOf _=1 from by kernel_rfl]at g0 g1
   obtain⟨px,e0,_⟩:=DataW.trod_int Tryz.underlying2 g0
   obtain⟨py,e1,_⟩:=DataW.trod_int Tryz.underlying2 g1
   obtain⟨ti,e2,_⟩:=DataW.trod_int Tryz.underlying2 h1
   simp at e0 e1 e2
   subst e0 e1 e2
   exact⟨[],⟨⟨px,py⟩,ti⟩,eT.nil _ _,⟨rfl,rfl⟩,trivial⟩
 exact⟨A,n,c,f,xs,h1,h2,h3⟩
theorem um (h:TT enc w fuel 28 cs x):∃A n c f,∃d:dj,cs=[.slice A n c]/\eT f 0 w.heap.size/\iD w f (.slice A n c) d.ah:=by
 obtain⟨hl,m,hf⟩:=jZ Tryz.underlying28 h
 rw[show Tryz.prog.cellsOf _=1 from by kernel_rfl]at hl
 obtain⟨a,rfl⟩:=S4 hl
 ·skip
  obtain⟨y0,h0⟩:=hf 0 _ rfl
  rw[show Tryz.prog.cellsOf _=1 from by kernel_rfl]at h0
  obtain⟨A1,n1,c1,f1,NM,e1,k1,s1⟩:=Fl h0
  simp at e1
  subst e1
  exact⟨A1,n1,c1,f1,⟨NM⟩,rfl,k1,s1⟩
theorem H7 (h:TT enc w fuel 30 cs x):∃A0 n0 c0 f0 A1 n1 c1 f1 A2 n2 c2 f2,∃d:cl,cs=[.slice A0 n0 c0,.slice A1 n1 c1,.slice A2 n2 c2,.int .i64 d.aH]/\eT f0 0 w.heap.size/\pP w f0 (.slice A0 n0 c0) d.aE.au/\eT f1 0 w.heap.size/\pR w f1 (.slice A1 n1 c1) d.aE.ah/\eT f2 0 w.heap.size/\iD w f2 (.slice A2 n2 c2) d.bZ.ah/\(∀g∈d.aE.au,g.aB.size<=9223372036854775807)/\∀t∈d.aE.ah,t.aB.size<=9223372036854775807:=by
 obtain⟨hl,m,hf⟩:=jZ Tryz.underlying30 h
 rw[show Tryz.prog.cellsOf _=4 from by kernel_rfl]at hl
 obtain⟨a,b,c,d,rfl⟩:=S5 hl
 ·skip
  obtain⟨y0,h0⟩:=hf 0 _ rfl
  obtain⟨y1,h1⟩:=hf 1 _ rfl
  obtain⟨y2,h2⟩:=hf 2 _ rfl
  rw[show Tryz.prog.cellsOf _=2 from by kernel_rfl]at h0
  rw[show Tryz.prog.cellsOf _=1 from by kernel_rfl]at h1 h2
  obtain⟨_,m2,Le⟩:=jZ Tryz.underlying25 h0
  obtain⟨z0,g0⟩:=Le 0 _ rfl
  obtain⟨z1,g1⟩:=Le 1 _ rfl
  rw[show Tryz.prog.cellsOf _=1 from by kernel_rfl]at g0 g1
  obtain⟨A0,n0,c0,f0,xs0,e0,k0,s0,o0⟩:=Ku g0
  obtain⟨A1,n1,c1,f1,NM,e1,k1,s1,o1⟩:=Kw g1
  obtain⟨A2,n2,c2,f2,d2,e2,k2,s2⟩:=um h1
  obtain⟨t,e3,_⟩:=DataW.trod_int Tryz.underlying2 h2
  simp at e0 e1 e2 e3
  subst e0 e1 e2 e3
  exact⟨A0,n0,c0,f0,A1,n1,c1,f1,A2,n2,c2,f2,⟨⟨xs0,NM⟩,d2,t⟩,rfl,k0,s0,k1,s1,k2,s2,o0,o1⟩
end
end Go.Proofs.YtihgaadadaekmaaGreatDoor

namespace Go.Proofs.YtihgaadadaekmaaGreatDoor
open Go.ChangeShapes Go.WideShapes Go.ChangeAt Go.RowKit Go.Deep V
section
variable {H:Type} {enc:TypeId×Value->H} {w:World}
def zg (d:eH):List Value:=[.int .i64 d.dn,.int .i64 d.de]
def wY:=k9 (Flat zg) 2
def Gj (w:World) (f:List Nat) (cs:List Value) (d:List Int):Prop:=∃v,cs=[v]/\pQ w f v d
def wZ:=k9 Gj 1
section
variable {P:Program} {D:Nat->Prop}
theorem DU {f:List Nat} {v:Value} {xs:List eH} (h:wY w f v xs) (hD:∀b∈f,D b):je P w D (.sl (xs.map bh)) v:=
 lQ h hD (fun _ _=>rfl) (fun x _ a ha=>by simp[bh]at ha;rcases ha with rfl|rfl<;>rfl) fun x _ f' cs hr hf=>by
  obtain⟨_,rfl⟩:=hr
  intro j a ha
  match j,ha with
  |0,ha=>simp[bh]at ha;subst ha;exact⟨_,rfl,.int _ _⟩
  |1,ha=>simp[bh]at ha;subst ha;exact⟨_,rfl,.int _ _⟩
  |j+2,ha=>simp[bh]at ha
theorem DX {f:List Nat} {v:Value} {xs:List (List Int)} (h:wZ w f v xs) (hD:∀b∈f,D b):je P w D (.sl (xs.map j9)) v:=
 lQ h hD (fun _ _=>rfl) (fun x _ a ha=>by simp[j9]at ha;rcases ha with rfl<;>rfl) fun x _ f' cs hr hf=>by
  obtain⟨v1,rfl,h1⟩:=hr
  intro j a ha
  match j,ha with
  |0,ha=>simp[j9]at ha;subst ha;exact⟨_,rfl,te h1 hf⟩
  |j+1,ha=>simp[j9]at ha
theorem Ge {m:dG} {f1 f2:List Nat} {v1 v2:Value} (h1:wY w f1 v1 m.aq) (d1:∀b∈f1,D b) (h2:wZ w f2 v2 m.aL) (d2:∀b∈f2,D b):je P w D (.agg (bc m)) (.agg #[.int .i64 m.aU,v1,v2]):=by
 refine .agg _ _ (fun j=>(#[.int .i64 m.aU,v1,v2]:Array Value).getD j Go.undef) rfl (fun a ha=>by simp[bc]at ha;rcases ha with rfl|rfl|rfl<;>rfl) (fun j hj=>?_) (fun j a ha=>?_)
 ·match j,hj with
  |0,_=>rfl
  |1,_=>rfl
  |2,_=>rfl
  |j+3,hj=>simp[bc]at hj<;>omega
 ·match j,ha with
  |0,ha=>simp[bc]at ha;subst ha;exact .int _ _
  |1,ha=>simp[bc]at ha;subst ha;exact DU h1 d1
  |2,ha=>simp[bc]at ha;subst ha;exact DX h2 d2
  |j+3,ha=>simp[bc]at ha
end
variable {fuel:Nat} {cs:List Value} {x:DataW H×List MemPlace}
theorem Kt (h:TT enc w fuel 59 cs x):∃A n c f xs,cs=[.slice A n c]/\eT f 0 w.heap.size/\wY w f (.slice A n c) xs:=by
 obtain⟨A,n,c,f,xs,h1,h2,h3,_⟩:=j5 (rep:=Flat zg) (Q:=fun _=>True) Tryz.underlying59 (sz:=2) (by kernel_rfl) (by omega) h fun n oe y hl hy=>by
  obtain⟨_,m,hf⟩:=jZ Tryz.underlying138 hy
  obtain⟨a,b,rfl⟩:=M9 hl
  ·skip
   obtain⟨y0,h0⟩:=hf 0 _ rfl
   obtain⟨y1,h1⟩:=hf 1 _ rfl
   rw[show Tryz.prog.cellsOf _=1 from by kernel_rfl]at h0 h1
   obtain⟨p,e0,_⟩:=DataW.trod_int Tryz.underlying2 h0
   obtain⟨q,e1,_⟩:=DataW.trod_int Tryz.underlying2 h1
   simp at e0 e1
   subst e0 e1
   exact⟨[],⟨p,q⟩,eT.nil _ _,⟨rfl,rfl⟩,trivial⟩
 exact⟨A,n,c,f,xs,h1,h2,h3⟩
theorem Kv (h:TT enc w fuel 33 cs x):∃A n c f xs,cs=[.slice A n c]/\eT f 0 w.heap.size/\wZ w f (.slice A n c) xs:=by
 obtain⟨A,n,c,f,xs,h1,h2,h3,_⟩:=j5 (rep:=Gj) (Q:=fun _=>True) Tryz.underlying33 (sz:=1) (by kernel_rfl) (by omega) h fun n oe y hl hy=>by
  obtain⟨A1,n1,c1,f1,NM,e1,k1,s1⟩:=H6 hy
  subst e1
  exact⟨f1,NM,k1,⟨_,rfl,s1⟩,trivial⟩
 exact⟨A,n,c,f,xs,h1,h2,h3⟩
theorem Nj (h:TT enc w fuel 61 cs x):∃m:dG,je Tryz.prog w (fun b=>b<w.heap.size) (.agg (bc m)) (.agg cs.toArray):=by
 obtain⟨hl,m,hf⟩:=jZ Tryz.underlying61 h
 rw[show Tryz.prog.cellsOf _=3 from by kernel_rfl]at hl
 obtain⟨c0,c1,c2,rfl⟩:=Qh hl
 ·skip
  obtain⟨y0,h0⟩:=hf 0 _ rfl
  obtain⟨y1,h1⟩:=hf 1 _ rfl
  obtain⟨y2,h2⟩:=hf 2 _ rfl
  rw[show Tryz.prog.cellsOf _=1 from by kernel_rfl]at h0 h1 h2
  obtain⟨z,e0,_⟩:=DataW.trod_int Tryz.underlying2 h0
  obtain⟨A1,n1,k1,f1,ls1,e1,w1,s1⟩:=Kt h1
  obtain⟨A2,n2,k2,f2,ls2,e2,w2,s2⟩:=Kv h2
  simp at e0 e1 e2
  subst e0 e1 e2
  exact⟨⟨z,ls1,ls2⟩,Ge (m:=⟨z,ls1,ls2⟩) s1 (fun b hb=>(w1 b hb).2) s2 (fun b hb=>(w2 b hb).2)⟩
end
end Go.Proofs.YtihgaadadaekmaaGreatDoor

namespace Go.Proofs.YtihgaadadaekmaaGreatDoor
open Go.ChangeShapes Go.WideShapes Go.ChangeAt Go.RowKit V
theorem Qp:ownKnob Tryz.prog.godebug=none:=by kernel_rfl
theorem B3:laidOutB Tryz.prog=true:=by kernel_rfl
theorem G1 (s:cl) (a:dj) (f:dG) (hs:m8 f):(pj s a f).1.length<=1099511627776:=by
 unfold pj
 split
 ·have h1:=HK (fb s.aE a.ah f) f.aL.length
  have h2:=hs.s
  omega
 ·simp
theorem Js (s:cl) (a:dj) (f:dG) (hn:fx s.aE):ae Tryz.prog 5 [.agg (az s),.agg (aD a),.agg (bc f)] (.bool true):=
 Kg pj (fun s a f hn hm _ fm=>wW s a f hn hm.s.g hm.s.t fm.s fm.x) (fun s a f hn hm hl fm=>wV s a f hn hm hl fm.s fm.x) (fun s a f _ _ _ fm=>G1 s a f fm) s a f hn
theorem Em (os:Os) (started:os.Started) (H:Type) (enc:TypeId×Value->H):
  ReturnsInHanded {} Tryz.checked os 5 .any (fun w args=>(Rows.fnExactDecodeFormSpec.pre enc Tryz.prog Tryz.f5 [] false w args/\laidMetH Tryz.prog Rows.fnExactDecodeFormRow.laid w)/\sizedMet enc Tryz.prog Tryz.f5 (OpenSpec.ofChange Rows.fnExactDecodeFormSpec) false w args) (Rows.fnExactDecodeFormSpec.post enc Tryz.prog Tryz.f5 false true false false):=by
 refine returnsInHanded_of_change_and (C:=Tryz.checked) (X:=fun w _=>laidMetH Tryz.prog Rows.fnExactDecodeFormRow.laid w) (fun _ _ _ hh h=>h.of_heap hh) Qp started (by kernel_rfl) Tryz.func5
  (ChangeSpec.witness_shaped (enc:=enc) (C:=Tryz.checked) (os:=os) (X:=fun w _=>laidMetH Tryz.prog Rows.fnExactDecodeFormRow.laid w) false (World.laidAll Tryz.prog os Rows.fnExactDecodeFormRow.laid) #[.agg #[.slice none 0 0,.slice none 0 0,.slice none 0 0,.int .i64 0],.agg #[.slice none 0 0],.agg #[.int .i64 0,.slice none 0 0,.slice none 0 0]] 8 (World.laidAll_os _ _ _)
   (World.shaped_of_ZipB (by kernel_rfl) (by kernel_rfl)) (by kernel_rfl) (by kernel_rfl) (by kernel_rfl)
   (by rw[MakeChecks.laidMetH_plain _ _ _ (by kernel_rfl)];exact laidMet_laidAll _ (by kernel_rfl) (by kernel_rfl))) ?_
 intro W base args ds gs before Ls hW hcnd _ hL _
 have qg:∀(j:Nat) t v,Tryz.f5.params[j]? =some t->args[j]? =some v->Value.okWide Tryz.prog W .any base t v:=Ls
 have hW':=hW
 obtain⟨p,q,hA0,hV,rfl,Df,kN⟩:=hW
 have hA:DataW.TrodAll enc Tryz.prog W 0 (fun _=>true) true Tryz.f5.params.toList args.toList ds p:=hA0
 rw[Tryz.params5]at hA qg
 obtain⟨v0,vs0,d0,ds0,p0,q0,mM,rfl,rfl,h0,r0⟩:=trodAll_cons hA
 obtain⟨v1,vs1,d1,ds1,p1,q1,rfl,rfl,rfl,h1,r1⟩:=trodAll_cons r0
 obtain⟨v2,vs2,d2,ds2,p2,q2,rfl,rfl,rfl,h2,r2⟩:=trodAll_cons r1
 obtain⟨rfl,rfl,rfl⟩:=trodAll_nil r2
 obtain rfl:args= #[v0,v1,v2]:=by cases args;simp_all
 obtain⟨rfl,rfl⟩:=trodVars_none hV
 obtain⟨N9,rfl,_⟩:=okWide_struct Tryz.underlying30 (qg 0 30 v0 rfl rfl)
 obtain⟨Rx,rfl,_⟩:=okWide_struct Tryz.underlying28 (qg 1 28 v1 rfl rfl)
 obtain⟨QK,rfl,_⟩:=okWide_struct Tryz.underlying61 (qg 2 61 v2 rfl rfl)
 have k0:=h0
 have k1:=h1
 have k2:=h2
 have lt0:∀x∈p0,x.block<W.heap.size:=by obtain⟨m,hm⟩:=k0;exact DataW.trod_lt m _ _ _ hm
 have lt1:∀x∈p1,x.block<W.heap.size:=by obtain⟨m,hm⟩:=k1;exact DataW.trod_lt m _ _ _ hm
 have lt2:∀x∈p2,x.block<W.heap.size:=by obtain⟨m,hm⟩:=k2;exact DataW.trod_lt m _ _ _ hm
 obtain⟨A0,n0,c0,f0,A1,n1,c1,f1,A2,n2,c2,f2,s,BC,w0,s0,w1,s1,w2,s2,o0,o1⟩:∃A0 n0 c0 f0 A1 n1 c1 f1 A2 n2 c2 f2,∃d:cl,(Value.agg N9).cells.toList=[.slice A0 n0 c0,.slice A1 n1 c1,.slice A2 n2 c2,.int .i64 d.aH]/\eT f0 0 W.heap.size/\pP W f0 (.slice A0 n0 c0) d.aE.au/\eT f1 0 W.heap.size/\pR W f1 (.slice A1 n1 c1) d.aE.ah/\eT f2 0 W.heap.size/\iD W f2 (.slice A2 n2 c2) d.bZ.ah/\(∀g∈d.aE.au,g.aB.size<=9223372036854775807)/\∀t∈d.aE.ah,t.aB.size<=9223372036854775807:=by
  obtain⟨fuel,hf⟩:=h0
  exact H7 hf
 obtain rfl:N9= #[.slice A0 n0 c0,.slice A1 n1 c1,.slice A2 n2 c2,.int .i64 s.aH]:=by
  cases N9;simp[Value.cells]at BC;subst BC;rfl
 obtain⟨A3,n3,c3,f3,a,Pz,w3,s3⟩:∃A n c f,∃d:dj,(Value.agg Rx).cells.toList=[.slice A n c]/\eT f 0 W.heap.size/\iD W f (.slice A n c) d.ah:=by
  obtain⟨fuel,hf⟩:=h1
  exact um hf
 obtain rfl:Rx= #[.slice A3 n3 c3]:=by
  cases Rx;simp[Value.cells]at Pz;subst Pz;rfl
 obtain⟨m,RY⟩:∃d:dG,je Tryz.prog W (fun b=>b<W.heap.size) (.agg (bc d)) (.agg (Value.agg QK).cells.toList.toArray):=by
  obtain⟨fuel,hf⟩:=h2
  exact Nj hf
 rw[show(Value.agg QK).cells.toList.toArray=QK by simp[Value.cells]]at RY
 clear hA0 Ls
 have gF:e8 Tryz.prog W (fun b=>b<W.heap.size) (fun _=>none) [.agg (az s),.agg (aD a),.agg (bc m)] #[.agg #[.slice A0 n0 c0,.slice A1 n1 c1,.slice A2 n2 c2,.int .i64 s.aH],.agg #[.slice A3 n3 c3],.agg QK]:=by
  have h:=kp (AS s0 (fun b hb=>(w0 b hb).2) s1 (fun b hb=>(w1 b hb).2) s2 (fun b hb=>(w2 b hb).2)) (kp (wU s3 (fun b hb=>(w3 b hb).2)) (kp RY (⟨rfl,fun j b hj=>by cases j<;>cases hj⟩:e8 Tryz.prog W (fun b=>b<W.heap.size) (fun _=>none) [] #[])))
  simpa using h
 have ft:=M8 mixed (Js s a m ⟨o0,o1⟩) gF
 clear s0 s1 s2 w0 w1 w2 s3 w3 RY gF
 refine(ft.mono fun e W' ⟨he,bel⟩=>?_)
 subst he
 exact⟨_,rfl,_,_,_,[],_,[],hW',trodAll_mk1 (shut_bool Tryz.underlying4 _),(trodAll_cons_mk (Below.trod B3 (by kernel_rfl) (of_decide_eq_true (by kernel_rfl)) k0 bel lt0) (trodAll_cons_mk (Below.trod B3 (by kernel_rfl) (of_decide_eq_true (by kernel_rfl)) k1 bel lt1) (trodAll_cons_mk (Below.trod B3 (by kernel_rfl) (of_decide_eq_true (by kernel_rfl)) k2 bel lt2) trodAll_mk0))),rfl,bel.frame _,fun h=>by cases h⟩
end Go.Proofs.YtihgaadadaekmaaGreatDoor

namespace Go.Proofs.YtihgaadadaekmaaGreatDoor
open Go.ChangeShapes Go.WideShapes Go.ChangeAt Go.RowKit
theorem dfN:Tryz.pinned.checked.prog.funcNamed Rows.fnExactDecodeFormRow.func=some 5:=by kernel_rfl
theorem dfJ:joinedFacts Tryz.pinned.checked.prog 5 Tryz.f5 Rows.fnExactDecodeFormSpec Rows.fnExactDecodeFormRow=true:=by
 unfold joinedFacts
 repeat(with_reducible refine Bool.and_eq_true_iff.2 ⟨?_,by as_aux_lemma=>kernel_rfl⟩)
 as_aux_lemma=>kernel_rfl
theorem dfI:Tryz.f5.isInstance Tryz.pinned.checked.prog Rows.fnExactDecodeFormRow.origin Rows.fnExactDecodeFormRow.targs:=of_decide_eq_true (by kernel_rfl)
theorem dfW:Tryz.f5.isWrapper Tryz.pinned.checked.prog Rows.fnExactDecodeFormRow.wrapper Rows.fnExactDecodeFormRow.mainSum:=by
 unfold Func.isWrapper;first|(rw[if_pos (by decide+kernel)];kernel_rfl)|(rw[if_neg (by decide+kernel)];exact⟨rfl,rfl⟩)
theorem Jr:Rows.fnExactDecodeFormRow.holds Tryz.pinned (OpenSpec.ofChange Rows.fnExactDecodeFormSpec):=
 OpenClaim.holds_of_wide 5 Tryz.f5 rfl rfl rfl rfl rfl rfl rfl ⟨rfl,rfl,rfl,rfl,rfl⟩ rfl rfl rfl rfl rfl dfN Tryz.func5 dfJ dfI dfW
  (fun os started H enc _=>Em os started H enc)
theorem fnExactDecodeForm_proved:Rows.FnExactDecodeFormCardSaid:=
 Claim7.holds_tied_plain_at .later [] [.data,.data,.data] true Rows.fnExactDecodeFormCard.stood.harness false
  Jr (fun _ h=>by cases h) (by kernel_rfl) (fun _ h=>by cases h) fnExactDecodeForm_row_tie rfl ⟨rfl,rfl⟩ (by kernel_rfl) rfl
  (fun f fn hf JK=>by
   obtain rfl:f=5:=(Option.some.inj (dfN.symm.trans hf)).symm
   obtain rfl:fn=Tryz.f5:=(Option.some.inj (Tryz.func5.symm.trans JK)).symm
   exact⟨by kernel_rfl,fun j t ht=>by
    rw[Tryz.params5]at ht
    have hm:t∈[30,28,61]:=by simpa using Array.mem_of_getElem? ht
    have dk:([30,28,61].all fun u=> !Tryz.prog.wantsStandIn u)=true:=by kernel_rfl
    exact(show Tryz.prog.wantsStandIn t=false by simpa using List.all_eq_true.1 dk t hm)⟩)
  (by kernel_rfl)
end Go.Proofs.YtihgaadadaekmaaGreatDoor
