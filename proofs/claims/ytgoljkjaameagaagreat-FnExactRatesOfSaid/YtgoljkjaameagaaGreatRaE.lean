/- The options, by the reference. -/
import Derived.Test.YtgoljkjaameagaaGreatRaB
import Derived.Test.YtgoljkjaameagaaGreatRaD
import Derived.Test.YtgoljkjaameagaaGreatRaC
import Derived.Maps.RangeRun
import Derived.RangeFuncCalls
import Derived.OrdersIn
import Derived.RangeFuncNested
import Derived.RangeFuncBound
import Derived.RangeFuncLeaves
import Derived.Shelf.Abstract
import Derived.Shelf.RegionOpen
import Derived.WalkKit
import Derived.OwnWalkIn
import Derived.TacticsInMore
import Derived.LoopNIn
import Derived.LoopIn
import Derived.BigQuiet
import Derived.RangeFuncBox
import Derived.RangeFuncWrites
import Derived.Maps.AppendAt
import Derived.Maps.OwnIn
import Derived.Shelf.SlSortCmp.WholeK
import Derived.Shelf.SlSortCmp.NoneTotal
import Derived.Ground.SlsfProg
import Derived.Test.YtgoljkjaameagaaGreatProg
set_option linter.unusedVariables false
set_option linter.unusedSimpArgs false
set_option maxRecDepth 100000
set_option maxHeartbeats 16000000
namespace Go.Proofs.YtgoljkjaameagaaGreat.V
open Go.RowKit
attribute [local irreducible] eu wpOps gq Call
attribute [local go_sem] aI fJ eP fZ fY dc upd cz K.av cJ AV.cells AV.cell rowOf rowsOf part ld rowAt bR cq dC ea gV bJ cZ eo fX eY dr ef cX cW dM dO bP aX cN bL cQ cP ec eh ee cL bU cY eb bK aO cU cG gU bp cI bQ aW dx bf dD AV.undef bD bF dR dY dI dP cH ek ew cF ej ei cR cV List.getD_cons_zero List.getD_cons_succ List.getD_nil List.all_cons List.all_nil Bool.and_true Bool.true_and Bool.and_self Bool.not_true Bool.not_false Option.map_some Option.map_none Option.bind_some Option.bind_none List.length_cons List.length_nil List.take_succ_cons List.take_zero List.take_nil List.drop_succ_cons List.drop_zero List.drop_nil List.head?_cons List.map_cons List.map_nil List.getElem?_cons_zero List.getElem?_cons_succ List.cons_append List.nil_append List.append_nil List.length_map List.set_cons_zero List.set_cons_succ Nat.reduceMul eq_self Int.toNat_natCast Int.natCast_nonneg and_self true_and and_true decide_true decide_false Bool.false_eq_true Nat.zero_add Nat.add_zero List.contains_cons List.contains_nil Bool.or_false Bool.false_or beq_self_eq_true Nat.reduceBEq ne_eq not_true_eq_false not_false_eq_true Id.mk.injEq false_and and_false Nat.reduceLT Int.reduceLE Int.reduceLT Int.reduceToNat Int.reduceNeg Int.reduceAdd Nat.le_refl List.length_append beq_true beq_false Bool.not_eq_eq_eq_not or_false false_or dJ aj aq aH aZ bB ck aT bc aU aY cK bG
def oX (s:au) (F:ah->Int) (p:ah) (d:Nat):Int:=if F (bd p d)<0 then 0 else dj (dm s (F (bd p d))) (kP d)
def oY (s:au) (F:ah->Int) (p:ah) (k:Nat):List Int:=(List.range k).map (oX s F p)
theorem BN (s:au) (F:ah->Int) (p:ah) (k:Nat):(oY s F p k).length=k:=by simp[oY]
theorem GR (s:au) (F:ah->Int) (p:ah) (k:Nat):oY s F p (k+1)=oY s F p k++[oX s F p k]:=by simp[oY,List.range_succ]
theorem Jg {s:au} {F:ah->Int} {p:ah} {k d:Nat} (h:d<k):((oY s F p k).map aw)[d]? =some [.int .i64 (oX s F p d)]:=by simp[oY,h,aw]
theorem GI {s:au} (hF:jd s) {F:ah->Int} (hT:∀q,0<=F q->eV s (F q)=true) {p:ah} {t:Int} (ht:eV s t=true) {d:Nat} (hd:d<4):
  du s F p t (d+1)=if dj (dm s t) d=oX s F p d then du s F p t d+qf s (oX s F p d)else du s F p t d:=by
 rw[du]
 unfold oX
 by_cases h0:F (bd p d)<0
 ·rw[if_neg (by omega),if_pos h0]
  have:qf s 0=0:=if_pos rfl
  rw[this,Int.add_zero]
  split<;>rfl
 ·rw[if_pos (by omega),if_neg h0]
  unfold gS
  split
  ·rename_i e;rw[e]
  ·rw[Int.add_zero]
theorem LI {s:au} (hF:jd s) {F:ah->Int} (hT:∀q,0<=F q->eV s (F q)=true) (p:ah) {d:Nat} (hd:d<4):0<=oX s F p d/\oX s F p d<=s.aA.length:=by
 unfold oX
 split
 ·exact⟨Int.le_refl _,by omega⟩
 ·rename_i h0
  obtain⟨_,_,a2⟩:=kj (hT _ (by omega:0<=F (bd p d)))
  exact hF.tV _ a2 _ (xe (hF.qq _ a2) (rf (jr (by omega))))
noncomputable def zq (s:au) (l:List ae) (T:Int) (p:ah) (t:Int):Bool:=decide (T<=qj s (gR l) p t)
theorem Lq {s:aE} {l:List ae} {p:ah} (h:A8 l p) (hA:kn s.aB l) (t:Int):eJ s l p t=zq s.aB l s.az p t:=by
 obtain⟨h1,h2,_⟩:=h
 simp[eJ,zq,h1,(IE hA p).2 h2]
theorem Mo (s:au) (hS:ik s) (l:List ae) (hA:kn s l) (p:ah) (hx:iB p.eR) (hy:iB p.eM) (T:Int):
  ar Tryz.prog 148 [.dn (aa s),.dn [.sl (l.map ai)],.agg (ab p),.int .i64 T] (.sl ((ku (zq s l T) p s.ad.length).map aw)):=by
 refine ar.body eG rfl fun lG n0=>?_
 clear lG
 have hF:=hS.form
 have Ih:=hS.xl
 have UH:∀q,0<=gR l q->eV s (gR l q)=true:=ik.Nq hA
 (try((repeat(revert hN;revert N;apply Pn.out));refine wk @ab.eq_1 ?_;(repeat(refine Pn.mk ?_;intro N hN))))
 refine aM (fun n env st=>∃k:Nat,n=(4)-k/\k<=(4)/\env 10=.int .i64 (k:Int)/\st.get ⟨148000000,n0⟩=some ⟨true,2,[ab p]⟩/\(n0+2<=st.next/\∃o:Id,env 9=.own o 0 k/\st.get o=some ⟨true,1,(oY s (gR l) p k).map aw⟩/\n0<o.bj/\o.bj<st.next)) (4) ⟨0,by omega,by omega,sl @ab.eq_1,sl @ab.eq_1,by(try dsimp only);exact⟨by omega,⟨148001000,n0+1⟩,sl @Nat.zero_add,sl @Nat.zero_add,by(try dsimp only);omega,by(try dsimp only);omega⟩⟩ ?_
 rintro n_a env_a st_a ⟨k,rfl,ale,lR,ag0,j8⟩ di
 have a0:=di 0 (by kernel_rfl);have a1:=di 1 (by kernel_rfl);have a3:=di 3 (by kernel_rfl);have a6:=di 6 (by kernel_rfl)
 simp only[go_sem, ↓reduceIte,Nat.reduceEqDiff,Nat.reduceAdd,Nat.reduceSub,Nat.reduceLeDiff,reduceCtorEq,ab]at a0 a1 a3 a6
 clear di
 obtain⟨an,o,a9,ag,Q3,aox⟩:=j8
 have vo:=dB aox
 have vb:=dB (i:=⟨148000000,n0⟩) (n:=st_a.next) (by(try dsimp only);omega)
 have ob:=dv (a:=⟨148000000,n0⟩) (b:=o) (by(try dsimp only);omega)
 by_cases hk:(k:Int)<4
 ·have cm:∀{e:Env} {gg:Rows} {nx:Nat},(e 10=.int .i64 (IntKind.i64.wrap ((k:Int)+1)))->(gg ⟨148000000,n0⟩=some ⟨true,2,[ab p]⟩)->(n0+2<=nx/\∃o:Id,e 9=.own o 0 (k+1)/\gg o=some ⟨true,1,(oY s (gR l) p (k+1)).map aw⟩/\n0<o.bj/\o.bj<nx)->∃m0,m0<(4)-k/\∃k:Nat,m0=(4)-k/\k<=(4)/\e 10=.int .i64 (k:Int)/\gg ⟨148000000,n0⟩=some ⟨true,2,[ab p]⟩/\(n0+2<=nx/\∃o:Id,e 9=.own o 0 k/\gg o=some ⟨true,1,(oY s (gR l) p k).map aw⟩/\n0<o.bj/\o.bj<nx):=fun x1 x2 x3=>⟨_,by omega,k+1,rfl,by omega,(by rw[x1,ay (by omega)]),x2,x3⟩
  have hd:gJ (k:Int) 0 3=true:=jr (by omega)
  have dQ:=tp p k hd hx hy
  have AS:=Mn l (bd p k) hA.1.NS (by have:=hA.1.BC;omega)
  rw[ab]at dQ AS
  have gY:((oY s (gR l) p k).map aw).length=k:=by rw[List.length_map,BN]
  have qb:k<=16777215:=by omega
  have Jr:=GR s (gR l) p k
  have sQ:(oY s (gR l) p (k+1)).map aw=(oY s (gR l) p k).map aw++[[.int .i64 (oX s (gR l) p k)]]:=by rw[Jr,List.map_append];rfl
  by_cases h0:gR l (bd p k)<0
  ·have sO:oX s (gR l) p k=0:=if_pos h0
   rw[sO]at sQ
   (repeat(first|((repeat(revert hN;revert N;apply Pn.out));refine wk (tw @lR (tw @ag0 (tw @a0 (tw @a1 (tw @a3 (tw @a6 (tw @hk (tw @a9 (tw @ag (tw @vo (tw @vb (tw @ob (tw @gY (tw @qb (tw @h0 @ab.eq_1))))))))))))))) ?_;(repeat(refine Pn.mk ?_;intro N hN)))|((try apply Or.inl);refine⟨_,ar.x (dQ) (sd (tw @lR (tw @ag0 (tw @a0 (tw @a1 (tw @a3 (tw @a6 (tw @hk (tw @a9 (tw @ag (tw @vo (tw @vb (tw @ob (tw @gY (tw @qb (tw @h0 @ab.eq_1)))))))))))))))),?_⟩;refine hN _ _ ?_;clear hN N)|((try apply Or.inl);refine⟨_,ar.x (AS) (sd (tw @lR (tw @ag0 (tw @a0 (tw @a1 (tw @a3 (tw @a6 (tw @hk (tw @a9 (tw @ag (tw @vo (tw @vb (tw @ob (tw @gY (tw @qb (tw @h0 @ab.eq_1)))))))))))))))),?_⟩;refine hN _ _ ?_;clear hN N)))
   refine cm ?_ ?_ (by(try dsimp only);exact⟨by omega,⟨148007002,st_a.next+1+1+1⟩,sl @Nat.zero_add,by rw[sQ];simp only[go_sem, ↓reduceIte,Nat.reduceEqDiff,Nat.reduceAdd,Nat.reduceSub,Nat.reduceLeDiff,reduceCtorEq]<;>rfl,by(try dsimp only);omega,by(try dsimp only);omega⟩)
   all_goals simp only[go_sem, ↓reduceIte,Nat.reduceEqDiff,Nat.reduceAdd,Nat.reduceSub,Nat.reduceLeDiff,reduceCtorEq,lR,ag0,a0,a1,a3,a6,vb,ob,ab]
  ·have sO:oX s (gR l) p k=dj (dm s (gR l (bd p k))) (kP k):=if_neg h0
   rw[sO]at sQ
   obtain⟨b0,b1,b2⟩:=kj (UH _ (by omega:0<=gR l (bd p k)))
   have s2:=lx (hF.qq _ b2) (rf hd)
   have d1:=(dX (rf hd)).1
   have dK:=vp k hd
   (repeat(first|((repeat(revert hN;revert N;apply Pn.out));refine wk (tw @lR (tw @ag0 (tw @a0 (tw @a1 (tw @a3 (tw @a6 (tw @hk (tw @a9 (tw @ag (tw @vo (tw @vb (tw @ob (tw @gY (tw @qb (tw @h0 (tw @b0 (tw @b1 (tw @s2 (tw @d1 (tw @ab.eq_1 (tw @aa.eq_1 @bm.eq_1))))))))))))))))))))) ?_;(repeat(refine Pn.mk ?_;intro N hN)))|((try apply Or.inl);refine⟨_,ar.x (dQ) (sd (tw @lR (tw @ag0 (tw @a0 (tw @a1 (tw @a3 (tw @a6 (tw @hk (tw @a9 (tw @ag (tw @vo (tw @vb (tw @ob (tw @gY (tw @qb (tw @h0 (tw @b0 (tw @b1 (tw @s2 (tw @d1 (tw @ab.eq_1 (tw @aa.eq_1 @bm.eq_1)))))))))))))))))))))),?_⟩;refine hN _ _ ?_;clear hN N)|((try apply Or.inl);refine⟨_,ar.x (AS) (sd (tw @lR (tw @ag0 (tw @a0 (tw @a1 (tw @a3 (tw @a6 (tw @hk (tw @a9 (tw @ag (tw @vo (tw @vb (tw @ob (tw @gY (tw @qb (tw @h0 (tw @b0 (tw @b1 (tw @s2 (tw @d1 (tw @ab.eq_1 (tw @aa.eq_1 @bm.eq_1)))))))))))))))))))))),?_⟩;refine hN _ _ ?_;clear hN N)|((try apply Or.inl);refine⟨_,ar.x (dK) (sd (tw @lR (tw @ag0 (tw @a0 (tw @a1 (tw @a3 (tw @a6 (tw @hk (tw @a9 (tw @ag (tw @vo (tw @vb (tw @ob (tw @gY (tw @qb (tw @h0 (tw @b0 (tw @b1 (tw @s2 (tw @d1 (tw @ab.eq_1 (tw @aa.eq_1 @bm.eq_1)))))))))))))))))))))),?_⟩;refine hN _ _ ?_;clear hN N)))
   refine cm ?_ ?_ (by(try dsimp only);exact⟨by omega,⟨148008014,st_a.next+1+1+1⟩,sl @Nat.zero_add,by rw[sQ];simp only[go_sem, ↓reduceIte,Nat.reduceEqDiff,Nat.reduceAdd,Nat.reduceSub,Nat.reduceLeDiff,reduceCtorEq]<;>rfl,by(try dsimp only);omega,by(try dsimp only);omega⟩)
   all_goals simp only[go_sem, ↓reduceIte,Nat.reduceEqDiff,Nat.reduceAdd,Nat.reduceSub,Nat.reduceLeDiff,reduceCtorEq,lR,ag0,a0,a1,a3,a6,vb,ob,ab]
 ·have Vc:k=4:=by omega
  subst Vc
  (try((repeat(revert hN;revert N;apply Pn.out));refine wk (tw @lR (tw @ag0 (tw @a0 (tw @a1 (tw @a3 (tw @a6 (tw @hk @aa.eq_1))))))) ?_;(repeat(refine Pn.mk ?_;intro N hN))))
  refine aM (fun n env st=>∃i:Nat,n=(s.ad.length)-i/\i<=(s.ad.length)/\env 13=.int .i64 (i:Int)/\(st_a.next<=st.next/\st.get o=some ⟨true,1,(oY s (gR l) p 4).map aw⟩/\∃u:Id,env 12=.own u 0 (ku (zq s l T) p i).length/\st.get u=some ⟨true,1,(ku (zq s l T) p i).map aw⟩/\st_a.next<=u.bj/\u.bj<st.next)) (s.ad.length) ⟨0,by omega,by omega,sl (tw @lR (tw @ag0 (tw @a0 (tw @a1 (tw @a3 (tw @a6 (tw @a9 @aa.eq_1))))))),by(try dsimp only);exact⟨by omega,sd (tw @vo @ag),⟨148009000,st_a.next+1⟩,sl @Nat.zero_add,sl @Nat.zero_add,by(try dsimp only);omega,by(try dsimp only);omega⟩⟩ ?_
  rintro n_b env_b st_b ⟨i,rfl,ble,Dl,bI0⟩ e7
  have b0:=e7 0 (by kernel_rfl);have b1:=e7 1 (by kernel_rfl);have b3:=e7 3 (by kernel_rfl);have b9:=e7 9 (by kernel_rfl)
  simp only[go_sem, ↓reduceIte,Nat.reduceEqDiff,Nat.reduceAdd,Nat.reduceSub,Nat.reduceLeDiff,reduceCtorEq,lR,ag0,a0,a1,a3,a6,a9,aa]at b0 b1 b3 b9
  clear e7
  obtain⟨bn,bo,u,Q4,bu,bum,bux⟩:=bI0
  have vob:=dB (i:=o) (n:=st_b.next) (by omega)
  have vub:=dB bux
  have G0:=rT (zq s l T) p i
  have ou:=dv (a:=o) (b:=u) (by omega)
  by_cases hi:(i:Int)<(s.ad.length:Int)
  ·have ft:∀{e:Env} {gg:Rows} {nx:Nat},(e 13=.int .i64 (IntKind.i64.wrap ((i:Int)+1)))->(st_a.next<=nx/\gg o=some ⟨true,1,(oY s (gR l) p 4).map aw⟩/\∃u:Id,e 12=.own u 0 (ku (zq s l T) p (i+1)).length/\gg u=some ⟨true,1,(ku (zq s l T) p (i+1)).map aw⟩/\st_a.next<=u.bj/\u.bj<nx)->∃m0,m0<(s.ad.length)-i/\∃i:Nat,m0=(s.ad.length)-i/\i<=(s.ad.length)/\e 13=.int .i64 (i:Int)/\(st_a.next<=nx/\gg o=some ⟨true,1,(oY s (gR l) p 4).map aw⟩/\∃u:Id,e 12=.own u 0 (ku (zq s l T) p i).length/\gg u=some ⟨true,1,(ku (zq s l T) p i).map aw⟩/\st_a.next<=u.bj/\u.bj<nx):=fun x1 x2=>⟨_,by omega,i+1,rfl,by omega,(by rw[x1,ay (by omega)]),x2⟩
   have fB:i<s.ad.length:=by omega
   have htb:=CP fB
   obtain⟨t0,t1,t2⟩:=kj htb
   rw[Int.toNat_natCast]at t1
   have DS:du s (gR l) p i 0=0:=rfl
   (try((repeat(revert hN;revert N;apply Pn.out));refine wk (tw @Dl (tw @b0 (tw @b1 (tw @b3 (tw @b9 @hi))))) ?_;(repeat(refine Pn.mk ?_;intro N hN))))
   refine aM (fun n env st=>∃j:Nat,n=(4)-j/\j<=(4)/\env 15=.int .i64 (j:Int)/\env 14=.int .i64 (du s (gR l) p i j)/\(st_b.next<=st.next/\∀x:Id,x.bj<st_b.next->st.get x=st_b.get x)) (4) ⟨0,by omega,by omega,sl (tw @Dl (tw @b0 (tw @b1 (tw @b3 (tw @b9 (tw @a9 (tw @DS @aa.eq_1))))))),sl (tw @Dl (tw @b0 (tw @b1 (tw @b3 (tw @b9 (tw @a9 (tw @DS @aa.eq_1))))))),by(try dsimp only);exact⟨by omega,fun x hx=>by
    have h1:=dB hx
    simp only[go_sem, ↓reduceIte,Nat.reduceEqDiff,Nat.reduceAdd,Nat.reduceSub,Nat.reduceLeDiff,reduceCtorEq,h1]⟩⟩ ?_
   rintro n_c env_c st_c ⟨j,rfl,cle,c15,c14,cI0⟩ iM
   have c0:=iM 0 (by kernel_rfl);have c3:=iM 3 (by kernel_rfl);have c9:=iM 9 (by kernel_rfl);have qx:=iM 12 (by kernel_rfl);have IW:=iM 13 (by kernel_rfl)
   simp only[go_sem, ↓reduceIte,Nat.reduceEqDiff,Nat.reduceAdd,Nat.reduceSub,Nat.reduceLeDiff,reduceCtorEq,Dl,b0,b1,b3,b9,a9,DS,aa]at c0 c3 c9 qx IW
   clear iM
   obtain⟨cn,iM⟩:=cI0
   have go:=(iM o (by omega)).trans bo
   have gu:=(iM u bux).trans bu
   have SI:=dB (i:=o) (n:=st_c.next) (by omega)
   have vuc:=dB (i:=u) (n:=st_c.next) (by omega)
   by_cases hj:(j:Int)<4
   ·have gF:∀{e:Env} {gg:Rows} {nx:Nat},(e 15=.int .i64 (IntKind.i64.wrap ((j:Int)+1)))->(e 14=.int .i64 (du s (gR l) p i (j+1)))->(st_b.next<=nx/\∀x:Id,x.bj<st_b.next->gg x=st_b.get x)->∃m0,m0<(4)-j/\∃j:Nat,m0=(4)-j/\j<=(4)/\e 15=.int .i64 (j:Int)/\e 14=.int .i64 (du s (gR l) p i j)/\(st_b.next<=nx/\∀x:Id,x.bj<st_b.next->gg x=st_b.get x):=fun x1 x2 x3=>⟨_,by omega,j+1,rfl,by omega,(by rw[x1,ay (by omega)]),x2,x3⟩
    have hdj:gJ (j:Int) 0 3=true:=jr (by omega)
    have O0:(j:Int)<((4:Nat):Int):=by omega
    have s1:=lx (hF.qq _ t2) hdj
    rw[Int.toNat_natCast]at s1
    have RJ:=Jg (s:=s) (F:=gR l) (p:=p) (k:=4) (d:=j) (by omega)
    have sP:((oY s (gR l) p 4).map aw).length=4:=by rw[List.length_map,BN]
    have dQ:=GI hF UH (p:=p) htb (d:=j) (by omega)
    have fD:=j9 hS (gR l) p i (j+1)
    have LR:=j9 hS (gR l) p i j
    have kJ:=LI hF UH p (d:=j) (by omega)
    have hss:=qn s (oX s (gR l) p j) kJ.1 kJ.2
    rw[aa]at hss
    by_cases he:dj (dm s i) j=oX s (gR l) p j
    ·have zM:decide (dj (dm s i) j=oX s (gR l) p j)=true:=decide_eq_true he
     rw[if_pos he]at dQ
     have hw:IntKind.i64.wrap (du s (gR l) p i j+qf s (oX s (gR l) p j))=du s (gR l) p i (j+1):=by rw[<-dQ,br (by omega)]
     (repeat(first|((repeat(revert hN;revert N;apply Pn.out));refine wk (tw @c15 (tw @c14 (tw @c0 (tw @c3 (tw @c9 (tw @qx (tw @IW (tw @hj (tw @O0 (tw @t1 (tw @s1 (tw @RJ (tw @go (tw @SI (tw @zM (tw @aa.eq_1 @bm.eq_1)))))))))))))))) ?_;(repeat(refine Pn.mk ?_;intro N hN)))|((try apply Or.inl);refine⟨_,ar.x (hss) (sd (tw @c15 (tw @c14 (tw @c0 (tw @c3 (tw @c9 (tw @qx (tw @IW (tw @hj (tw @O0 (tw @t1 (tw @s1 (tw @RJ (tw @go (tw @SI (tw @zM (tw @aa.eq_1 @bm.eq_1))))))))))))))))),?_⟩;refine hN _ _ ?_;clear hN N)))
     refine gF ?_ ?_ (by(try dsimp only);exact⟨by omega,fun x hx=>by exact iM x hx⟩)
     all_goals simp only[go_sem, ↓reduceIte,Nat.reduceEqDiff,Nat.reduceAdd,Nat.reduceSub,Nat.reduceLeDiff,reduceCtorEq,c15,c14,c0,c3,c9,qx,IW,hw,aa]
    ·have zM:decide (dj (dm s i) j=oX s (gR l) p j)=false:=decide_eq_false he
     rw[if_neg he]at dQ
     (try((repeat(revert hN;revert N;apply Pn.out));refine wk (tw @c15 (tw @c14 (tw @c0 (tw @c3 (tw @c9 (tw @qx (tw @IW (tw @hj (tw @O0 (tw @t1 (tw @s1 (tw @RJ (tw @go (tw @SI (tw @zM (tw @aa.eq_1 @bm.eq_1)))))))))))))))) ?_;(repeat(refine Pn.mk ?_;intro N hN))))
     refine gF ?_ ?_ (by(try dsimp only);exact⟨by omega,fun x hx=>by exact iM x hx⟩)
     all_goals simp only[go_sem, ↓reduceIte,Nat.reduceEqDiff,Nat.reduceAdd,Nat.reduceSub,Nat.reduceLeDiff,reduceCtorEq,c15,c14,c0,c3,c9,qx,IW,dQ,aa]
   ·have hj4:j=4:=by omega
    subst hj4
    have iG:du s (gR l) p i 4=qj s (gR l) p i:=rfl
    have r5:ku (zq s l T) p (i+1)=if zq s l T p i=true then ku (zq s l T) p i++[(i:Int)]else ku (zq s l T) p i:=rfl
    have od:zq s l T p i=decide (T<=qj s (gR l) p i):=rfl
    generalize ku (zq s l T) p i=L at r5 Q4 bu G0 gu
    cases hb:zq s l T p i
    ·rw[hb,if_neg (by simp)]at r5
     rw[hb]at od
     (try((repeat(revert hN;revert N;apply Pn.out));refine wk (tw @c15 (tw @c14 (tw @c0 (tw @c3 (tw @c9 (tw @qx (tw @IW (tw @hj (tw @iG @od.symm))))))))) ?_;(repeat(refine Pn.mk ?_;intro N hN))))
     exact ft (sd (tw @Dl (tw @b0 (tw @b1 (tw @b3 (tw @b9 (tw @c15 (tw @c14 (tw @c0 (tw @c3 (tw @c9 (tw @qx (tw @IW @aa.eq_1))))))))))))) (by(try dsimp only);exact⟨by omega,go,⟨u,by rw[r5];simp only[go_sem, ↓reduceIte,Nat.reduceEqDiff,Nat.reduceAdd,Nat.reduceSub,Nat.reduceLeDiff,reduceCtorEq,c15,c14,c0,c3,c9,qx,IW,Q4],by rw[r5];simp only[go_sem, ↓reduceIte,Nat.reduceEqDiff,Nat.reduceAdd,Nat.reduceSub,Nat.reduceLeDiff,reduceCtorEq,gu],by omega,by(try dsimp only);omega⟩⟩)
    ·rw[hb,if_pos rfl]at r5
     rw[hb]at od
     have gY:(L.map aw).length=L.length:=by simp
     have hL1:L.length<=16777215:=by omega
     have yF:(L++[(i:Int)]).length=L.length+1:=by simp
     have xN:(L++[(i:Int)]).map aw=L.map aw++[[.int .i64 i]]:=by rw[List.map_append];rfl
     (try((repeat(revert hN;revert N;apply Pn.out));refine wk (tw @c15 (tw @c14 (tw @c0 (tw @c3 (tw @c9 (tw @qx (tw @IW (tw @hj (tw @iG (tw @od.symm (tw @Q4 (tw @gu (tw @vuc (tw @gY (tw @hL1 (tw @SI @ou)))))))))))))))) ?_;(repeat(refine Pn.mk ?_;intro N hN))))
     exact ft (sd (tw @Dl (tw @b0 (tw @b1 (tw @b3 (tw @b9 (tw @c15 (tw @c14 (tw @c0 (tw @c3 (tw @c9 (tw @qx (tw @IW @aa.eq_1))))))))))))) (by(try dsimp only);exact⟨by omega,sd (tw @go (tw @SI @ou)),⟨⟨148020003,st_c.next+1+1⟩,by rw[r5,yF];simp only[go_sem, ↓reduceIte,Nat.reduceEqDiff,Nat.reduceAdd,Nat.reduceSub,Nat.reduceLeDiff,reduceCtorEq]<;>rfl,by rw[r5,xN];simp only[go_sem, ↓reduceIte,Nat.reduceEqDiff,Nat.reduceAdd,Nat.reduceSub,Nat.reduceLeDiff,reduceCtorEq]<;>rfl,by(try dsimp only);omega,by(try dsimp only);omega⟩⟩)
  ·have nR:i=s.ad.length:=by omega
   subst nR
   (try((repeat(revert hN;revert N;apply Pn.out));refine wk (tw @Dl (tw @b0 (tw @b1 (tw @b3 (tw @b9 (tw @hi @Q4)))))) ?_;(repeat(refine Pn.mk ?_;intro N hN))))
   exact pg (.inl rfl) (vs:=[.own u 0 (ku (zq s l T) p s.ad.length).length]) (sd @Q4) (by
    simp only[fm]
    exact fj (e:=aw) (n:=5) bu rfl fun x=>by simp[aw,bz,cD,eC])
noncomputable def iO (s:aE) (ts:List ae) (q:ah):List Int:=ku (eJ s ts) q s.aB.ad.length
def iF (σ:ax) (O:Id) (s:aE) (ts:List ae) (A:ah->Prop) (g:Rows) (n:Nat):Prop:=σ.next<=n/\(∀x:Id,x.bj<σ.next->x≠O->g x=σ.get x)/\∃es:List En,g O=some ⟨true,mP.ma,es.map pZ⟩/\vn g n es (iO s ts) A
theorem iF.KZ {σ:ax} {g:Rows} {n:Nat} {c T O:Id} {s s':aE} {ts Lh:List ae} {A:ah->Prop} (h:zj σ.get σ.next c T O s ts) (hc:c≠O) (hT:T≠O) (k:iF σ O s' Lh A g n):zj g n c T O s ts:=
 h.frame k.1 (k.2.1 _ h.cv hc) (k.2.1 _ h.tv hT)
theorem iF.frame {a:ax} {O:Id} {s:aE} {ts:List ae} {A:ah->Prop} {g g':Rows} {n n' m:Nat} (h:iF a O s ts A g n) (ha:n<=m) (ho:O.bj<m) (hn:n<=n') (hf:∀x:Id,x.bj<m->g' x=g x):iF a O s ts A g' n':=by
 refine⟨Nat.le_trans h.1 hn,fun x hx hO=>(hf x (Nat.lt_of_lt_of_le hx (Nat.le_trans h.1 ha))).trans (h.2.1 x hx hO),?_⟩
 obtain⟨es,h1,h2⟩:=h.2.2
 exact⟨es,(hf O ho).trans h1,h2.frame hn fun x hx _=>hf x (Nat.lt_of_lt_of_le hx ha)⟩
theorem EK:¬mP.ma=1:=by decide
theorem iF.put {a:ax} {O:Id} {s:aE} {ts:List ae} {A A':ah->Prop} {g g':Rows} {n n':Nat} {es:List En} (h:iF a O s ts A g n) (hg:g O=some ⟨true,mP.ma,es.map pZ⟩) (hw:vn g n es (iO s ts) A) (hn:n<=n') (hf:∀x:Id,x.bj<n->x≠O->g' x=g x) {q:ah} {o:Id} (h0:iO s ts q≠[]) (ho:o.bj<n') (uA:g' o=some ⟨true,1,(iO s ts q).map aw⟩) (hO:g' O=some ⟨true,mP.ma,(nw es q (.own o 0 (iO s ts q).length)).map pZ⟩) (hA:∀p,A' p->A p∨p=q):iF a O s ts A' g' n':=
 ⟨Nat.le_trans h.1 hn,fun x hx Mc=>(hf x (Nat.lt_of_lt_of_le hx h.1) Mc).trans (h.2.1 x hx Mc),_,hO,((hw.frame hn fun x hx hr=>hf x hx (by
  rintro rfl
  obtain⟨k,r,hr⟩:=hr
  rw[hg]at hr
  injection hr with hr
  injection hr with _ hr _
  exact EK hr)).put h0 ho uA).mono hA⟩
theorem iF.cut {a:ax} {O:Id} {s:aE} {ts:List ae} {A A':ah->Prop} {g g':Rows} {n n':Nat} {es:List En} (h:iF a O s ts A g n) (hg:g O=some ⟨true,mP.ma,es.map pZ⟩) (hw:vn g n es (iO s ts) A) (hn:n<=n') (hf:∀x:Id,x.bj<n->x≠O->g' x=g x) {q:ah} (h0:iO s ts q=[]) (hO:g' O=some ⟨true,mP.ma,(rQ es q).map pZ⟩) (hA:∀p,A' p->A p∨p=q):iF a O s ts A' g' n':=
 ⟨Nat.le_trans h.1 hn,fun x hx Mc=>(hf x (Nat.lt_of_lt_of_le hx h.1) Mc).trans (h.2.1 x hx Mc),_,hO,((hw.frame hn fun x hx hr=>hf x hx (by
  rintro rfl
  obtain⟨k,r,hr⟩:=hr
  rw[hg]at hr
  injection hr with hr
  injection hr with _ hr _
  exact EK hr)).cut h0).mono hA⟩
theorem iF.ow {a:ax} {O:Id} {s:aE} {ts:List ae} {A:ah->Prop} {g:Rows} {n:Nat} (h:iF a O s ts A g n):lQ a O g n:=by
 obtain⟨h1,h2,es,h3,_⟩:=h
 refine⟨h1,h2,_,h3,fun r hr=>?_⟩
 obtain⟨e,_,rfl⟩:=List.mem_map.1 hr
 exact⟨_,_,_,rfl⟩
theorem zZ {σ:ax} {c T O:Id} {s:aE} {ts:List ae} (h:zj σ.get σ.next c T O s ts) (hc:c≠O) (hT:T≠O) (A:ah->Prop) (hO:∃es:List En,σ.get O=some ⟨true,mP.ma,es.map pZ⟩/\vn σ.get σ.next es (iO s ts) A) (hS:ik s.aB) (hF:∀q,0<=gR ts q->eV s.aB (gR ts q)=true) (p:ah) (hx:iB p.eR) (hy:iB p.eM):
  Call Tryz.prog 151 [.ptr c 0 0,.agg (ab p)] σ (fun r σ'=>r=.iD []/\iF σ O s ts (fun q=>A q∨∃k:Nat,k<4/\q=bd p k) σ'.get σ'.next):=by
 refine eZ eG rfl fun lG=>?_
 clear lG
 have Ih:=hS.xl
 have h0:iF σ O s ts (fun q=>A q∨∃k:Nat,k<0/\q=bd p k) σ.get σ.next:=⟨Nat.le_refl _,fun _ _ _=>rfl,by
  obtain⟨es,h1,h2⟩:=hO
  exact⟨es,h1,h2.mono fun q hq=>hq.elim id fun⟨k,hk,_⟩=>absurd hk (Nat.not_lt_zero k)⟩⟩
 (try((repeat(revert hN;revert N;apply Pn.out));refine wk @ab.eq_1 ?_;(repeat(refine Pn.mk ?_;intro N hN))))
 refine aM (fun n env st=>∃k:Nat,n=(4)-k/\k<=(4)/\env 8=.int .i64 (k:Int)/\st.get ⟨151000000,σ.next⟩=some ⟨true,2,[ab p]⟩/\(σ.next<st.next/\iF σ O s ts (fun q=>A q∨∃j:Nat,j<k/\q=bd p j) st.get st.next)) (4) ⟨0,by omega,by omega,sl @ab.eq_1,sl @ab.eq_1,⟨by(try dsimp only);omega,h0.frame (Nat.le_refl _) h.ov (by(try dsimp only);omega) (fun x hx=>by
  have:=dB hx
  simp only[go_sem, ↓reduceIte,Nat.reduceEqDiff,Nat.reduceAdd,Nat.reduceSub,Nat.reduceLeDiff,reduceCtorEq,this])⟩⟩ ?_
 rintro n_a env_a st_a ⟨k,rfl,ale,a8,ag0,j8⟩ di
 have a0:=di 0 (by kernel_rfl);have a3:=di 3 (by kernel_rfl)
 simp only[go_sem, ↓reduceIte,Nat.reduceEqDiff,Nat.reduceAdd,Nat.reduceSub,Nat.reduceLeDiff,reduceCtorEq,ab]at a0 a3
 clear di
 obtain⟨an,ak⟩:=j8
 have ha:=ak.KZ h hc hT
 by_cases hk:(k:Int)<4
 ·have cm:∀{e:Env} {gg:Rows} {nx:Nat},(e 8=.int .i64 (IntKind.i64.wrap ((k:Int)+1)))->(gg ⟨151000000,σ.next⟩=some ⟨true,2,[ab p]⟩)->(σ.next<nx/\iF σ O s ts (fun q=>A q∨∃j:Nat,j<(k+1)/\q=bd p j) gg nx)->∃m0,m0<(4)-k/\∃k:Nat,m0=(4)-k/\k<=(4)/\e 8=.int .i64 (k:Int)/\gg ⟨151000000,σ.next⟩=some ⟨true,2,[ab p]⟩/\(σ.next<nx/\iF σ O s ts (fun q=>A q∨∃j:Nat,j<k/\q=bd p j) gg nx):=fun x1 x2 x3=>⟨_,by omega,k+1,rfl,by omega,(by rw[x1,ay (by omega)]),x2,x3⟩
  have dQ:=ET p k (jr (by omega)) hx hy
  obtain⟨b,h1⟩:=ha.row
  have v1:=dB ha.cv
  (repeat(first|((repeat(revert hN;revert N;apply Pn.out));refine wk (tw @a8 (tw @ag0 (tw @a0 (tw @a3 (tw @hk (tw @h1 (tw @v1 @ab.eq_1))))))) ?_;(repeat(refine Pn.mk ?_;intro N hN)))|((try apply Or.inl);refine⟨_,ar.x (dQ) (sd (tw @a8 (tw @ag0 (tw @a0 (tw @a3 (tw @hk (tw @h1 (tw @v1 @ab.eq_1)))))))),?_⟩;refine hN _ _ ?_;clear hN N)))
  refine aM (fun n env st=>∃t:Nat,n=(s.aB.ad.length)-t/\t<=(s.aB.ad.length)/\env 21=.int .i64 (t:Int)/\st.get ⟨151000000,σ.next⟩=some ⟨true,2,[ab p]⟩/\st.get ⟨151004003,st_a.next+1+1⟩=some ⟨true,2,[ab (bd p k)]⟩/\(st_a.next+3<=st.next/\iF σ O s ts (fun q=>A q∨∃j:Nat,j<k/\q=bd p j) st.get st_a.next/\((ku (eJ s ts) (bd p k) t=[]/\env 6=.cu)∨∃o:Id,env 6=.own o 0 (ku (eJ s ts) (bd p k) t).length/\st.get o=some ⟨true,1,(ku (eJ s ts) (bd p k) t).map aw⟩/\0<(ku (eJ s ts) (bd p k) t).length/\st_a.next+3<=o.bj/\o.bj<st.next))) (s.aB.ad.length) ⟨0,by omega,by omega,sl (tw @a8 (tw @ag0 (tw @a0 (tw @a3 @ab.eq_1)))),sl (tw @a8 (tw @ag0 (tw @a0 (tw @a3 @ab.eq_1)))),sl (tw @a8 (tw @ag0 (tw @a0 (tw @a3 @ab.eq_1)))),⟨by(try dsimp only);omega,ak.frame (Nat.le_refl _) ha.ov (Nat.le_refl _) (fun x hx=>(by
   have:=dB hx
   simp only[go_sem, ↓reduceIte,Nat.reduceEqDiff,Nat.reduceAdd,Nat.reduceSub,Nat.reduceLeDiff,reduceCtorEq,this])),.inl ⟨rfl,sd @Nat.zero_add⟩⟩⟩ ?_
  rintro n_b env_b st_b ⟨t,rfl,ble,b21,bg0,bg1,bI0⟩ e7
  have b0:=e7 0 (by kernel_rfl);have b3:=e7 3 (by kernel_rfl);have b5:=e7 5 (by kernel_rfl);have b8:=e7 8 (by kernel_rfl);have H8:=e7 20 (by kernel_rfl)
  simp only[go_sem, ↓reduceIte,Nat.reduceEqDiff,Nat.reduceAdd,Nat.reduceSub,Nat.reduceLeDiff,reduceCtorEq,a8,ag0,a0,a3,ab]at b0 b3 b5 b8 H8
  clear e7
  obtain⟨bn,bk,b6⟩:=bI0
  have Qu:zj st_b.get st_b.next c T O s ts:=(bk.KZ h hc hT).frame (by omega) rfl rfl
  obtain⟨b2,h2⟩:=Qu.row
  have v2:=dB Qu.cv
  have vt:=dB (i:=⟨151000000,σ.next⟩) (n:=st_b.next) (by(try dsimp only);omega)
  have vq:=dB (i:=⟨151004003,st_a.next+1+1⟩) (n:=st_b.next) (by(try dsimp only);omega)
  by_cases ht:(t:Int)<(s.aB.ad.length:Int)
  ·have ft:∀{e:Env} {gg:Rows} {nx:Nat},(e 21=.int .i64 (IntKind.i64.wrap ((t:Int)+1)))->(gg ⟨151000000,σ.next⟩=some ⟨true,2,[ab p]⟩)->(gg ⟨151004003,st_a.next+1+1⟩=some ⟨true,2,[ab (bd p k)]⟩)->(st_a.next+3<=nx/\iF σ O s ts (fun q=>A q∨∃j:Nat,j<k/\q=bd p j) gg st_a.next/\((ku (eJ s ts) (bd p k) (t+1)=[]/\e 6=.cu)∨∃o:Id,e 6=.own o 0 (ku (eJ s ts) (bd p k) (t+1)).length/\gg o=some ⟨true,1,(ku (eJ s ts) (bd p k) (t+1)).map aw⟩/\0<(ku (eJ s ts) (bd p k) (t+1)).length/\st_a.next+3<=o.bj/\o.bj<nx))->∃m0,m0<(s.aB.ad.length)-t/\∃t:Nat,m0=(s.aB.ad.length)-t/\t<=(s.aB.ad.length)/\e 21=.int .i64 (t:Int)/\gg ⟨151000000,σ.next⟩=some ⟨true,2,[ab p]⟩/\gg ⟨151004003,st_a.next+1+1⟩=some ⟨true,2,[ab (bd p k)]⟩/\(st_a.next+3<=nx/\iF σ O s ts (fun q=>A q∨∃j:Nat,j<k/\q=bd p j) gg st_a.next/\((ku (eJ s ts) (bd p k) t=[]/\e 6=.cu)∨∃o:Id,e 6=.own o 0 (ku (eJ s ts) (bd p k) t).length/\gg o=some ⟨true,1,(ku (eJ s ts) (bd p k) t).map aw⟩/\0<(ku (eJ s ts) (bd p k) t).length/\st_a.next+3<=o.bj/\o.bj<nx)):=fun x1 x2 x3 x4=>⟨_,by omega,t+1,rfl,by omega,(by rw[x1,ay (by omega)]),x2,x3,x4⟩
   have R7:t<s.aB.ad.length:=by omega
   have G0:=rT (eJ s ts) (bd p k) t
   have r5:ku (eJ s ts) (bd p k) (t+1)=if eJ s ts (bd p k) t=true then ku (eJ s ts) (bd p k) t++[(t:Int)]else ku (eJ s ts) (bd p k) t:=rfl
   generalize ku (eJ s ts) (bd p k) t=L at b6 G0 r5
   (try((repeat(revert hN;revert N;apply Pn.out));refine wk (tw @b21 (tw @bg0 (tw @bg1 (tw @b0 (tw @b3 (tw @b5 (tw @b8 (tw @H8 (tw @ht (tw @h2 (tw @v2 (tw @vt (tw @vq @ab.eq_1))))))))))))) ?_;(repeat(refine Pn.mk ?_;intro N hN))))
   refine .inl ⟨_,Ov (Qu.frame (by(try dsimp only);omega) (sd @v2) (by(have:=dB Qu.tv;simp only[go_sem, ↓reduceIte,Nat.reduceEqDiff,Nat.reduceAdd,Nat.reduceSub,Nat.reduceLeDiff,reduceCtorEq,this]))) hS hF (bd p k) t (CP R7),?_⟩
   refine hN _ _ ?_
   clear hN N
   cases hb:eJ s ts (bd p k) t
   ·rw[hb,if_neg (by simp)]at r5
    (try((repeat(revert hN;revert N;apply Pn.out));refine wk (tw @b21 (tw @bg0 (tw @bg1 (tw @b0 (tw @b3 (tw @b5 (tw @b8 (tw @H8 @hb)))))))) ?_;(repeat(refine Pn.mk ?_;intro N hN))))
    refine ft ?_ ?_ ?_ (by(try dsimp only);exact⟨by omega,bk.frame (Nat.le_refl _) ha.ov (Nat.le_refl _) (fun x hx=>by
      have h1:=dB (i:=x) (n:=st_b.next) (by omega)
      simp only[go_sem, ↓reduceIte,Nat.reduceEqDiff,Nat.reduceAdd,Nat.reduceSub,Nat.reduceLeDiff,reduceCtorEq,h1]),by
     rw[r5]
     rcases b6 with⟨hL,h⟩|⟨o,h1,h2,h3,h4,h5⟩
     ·exact .inl ⟨hL,sd @h⟩
     ·have h8:=dB h5
      exact .inr ⟨o,sd @h1,sd (tw @h2 @h8),h3,h4,by omega⟩⟩)
    all_goals simp only[go_sem, ↓reduceIte,Nat.reduceEqDiff,Nat.reduceAdd,Nat.reduceSub,Nat.reduceLeDiff,reduceCtorEq,b21,bg0,bg1,b0,b3,b5,b8,H8,ab,vt,vq]
   ·rw[hb,if_pos rfl]at r5
    have yF:(L++[(t:Int)]).length=L.length+1:=by simp
    have xN:(L++[(t:Int)]).map aw=L.map aw++[[.int .i64 t]]:=by rw[List.map_append];rfl
    rcases b6 with⟨hL,b6⟩|⟨o,b6,bo,o4,o6,o7⟩
    ·subst hL
     (try((repeat(revert hN;revert N;apply Pn.out));refine wk (tw @b21 (tw @bg0 (tw @bg1 (tw @b0 (tw @b3 (tw @b5 (tw @b8 (tw @H8 (tw @b6 @hb))))))))) ?_;(repeat(refine Pn.mk ?_;intro N hN))))
     refine ft ?_ ?_ ?_ (by(try dsimp only);exact⟨by omega,bk.frame (Nat.le_refl _) ha.ov (Nat.le_refl _) (fun x hx=>by
      have h1:=dB (i:=x) (n:=st_b.next) (by omega)
      simp only[go_sem, ↓reduceIte,Nat.reduceEqDiff,Nat.reduceAdd,Nat.reduceSub,Nat.reduceLeDiff,reduceCtorEq,h1]),.inr ⟨⟨151010003,st_b.next+1+1+1⟩,by rw[r5,yF];simp only[go_sem, ↓reduceIte,Nat.reduceEqDiff,Nat.reduceAdd,Nat.reduceSub,Nat.reduceLeDiff,reduceCtorEq]<;>rfl,by rw[r5,xN];simp only[go_sem, ↓reduceIte,Nat.reduceEqDiff,Nat.reduceAdd,Nat.reduceSub,Nat.reduceLeDiff,reduceCtorEq]<;>rfl,by rw[r5,yF];omega,by(try dsimp only);omega,by(try dsimp only);omega⟩⟩)
     all_goals simp only[go_sem, ↓reduceIte,Nat.reduceEqDiff,Nat.reduceAdd,Nat.reduceSub,Nat.reduceLeDiff,reduceCtorEq,b21,bg0,bg1,b0,b3,b5,b8,H8,ab,vt,vq]
    ·have e1:L.length<=16777215:=by omega
     have yE:(L.map aw).length=L.length:=by simp
     have vo:=dB o7
     have vto:=dv (a:=⟨151000000,σ.next⟩) (b:=o) (by(try dsimp only);omega)
     have vqo:=dv (a:=⟨151004003,st_a.next+1+1⟩) (b:=o) (by(try dsimp only);omega)
     (try((repeat(revert hN;revert N;apply Pn.out));refine wk (tw @b21 (tw @bg0 (tw @bg1 (tw @b0 (tw @b3 (tw @b5 (tw @b8 (tw @H8 (tw @b6 (tw @bo (tw @hb (tw @e1 (tw @yE @vo))))))))))))) ?_;(repeat(refine Pn.mk ?_;intro N hN))))
     refine ft ?_ ?_ ?_ (by(try dsimp only);exact⟨by omega,bk.frame (Nat.le_refl _) ha.ov (Nat.le_refl _) (fun x hx=>by
      have h1:=dB (i:=x) (n:=st_b.next) (by omega)
      have h2:=dv (a:=x) (b:=o) (by omega)
      simp only[go_sem, ↓reduceIte,Nat.reduceEqDiff,Nat.reduceAdd,Nat.reduceSub,Nat.reduceLeDiff,reduceCtorEq,h1,h2]),.inr ⟨⟨151010003,st_b.next+1+1+1⟩,by rw[r5,yF];simp only[go_sem, ↓reduceIte,Nat.reduceEqDiff,Nat.reduceAdd,Nat.reduceSub,Nat.reduceLeDiff,reduceCtorEq]<;>rfl,by rw[r5,xN];simp only[go_sem, ↓reduceIte,Nat.reduceEqDiff,Nat.reduceAdd,Nat.reduceSub,Nat.reduceLeDiff,reduceCtorEq]<;>rfl,by rw[r5,yF];omega,by(try dsimp only);omega,by(try dsimp only);omega⟩⟩)
     all_goals simp only[go_sem, ↓reduceIte,Nat.reduceEqDiff,Nat.reduceAdd,Nat.reduceSub,Nat.reduceLeDiff,reduceCtorEq,b21,bg0,bg1,b0,b3,b5,b8,H8,ab,vt,vq,vto,vqo]
  ·obtain⟨es,hg,how⟩:=bk.2.2
   have vo:=dB Qu.ov
   obtain⟨fi,FJ,rY,OQ,_,_⟩:=yU (bd p k) es
   unfold dI at rY
   unfold dP at OQ
   have hq:((⟨151000000,σ.next⟩:Id)=O)=False:=(dv (a:=O) (b:=⟨151000000,σ.next⟩) (by have:=h.ov;(try dsimp only);omega)).2
   have htt:t=s.aB.ad.length:=by omega
   subst htt
   have tf:ku (eJ s ts) (bd p k) s.aB.ad.length=iO s ts (bd p k):=rfl
   rw[tf]at b6
   have hAk:∀q,(A q∨∃j:Nat,j<k+1/\q=bd p j)->(A q∨∃j:Nat,j<k/\q=bd p j)∨q=bd p k:=fun q hq=>by
    rcases hq with hq|⟨j,hj,hq⟩
    ·exact .inl (.inl hq)
    ·rcases Nat.lt_or_ge j k with h|h
     ·exact .inl (.inr ⟨j,h,hq⟩)
     ·exact .inr (by rw[hq,show j=k by omega])
   rcases b6 with⟨hL,b6⟩|⟨o,b6,bo,o4,o6,o7⟩
   ·have d0:decide ((0:Int)<((0:Nat):Int))=false:=rfl
    (try((repeat(revert hN;revert N;apply Pn.out));refine wk (tw @b21 (tw @bg0 (tw @bg1 (tw @b0 (tw @b3 (tw @b5 (tw @b8 (tw @H8 (tw @b6 (tw @ht (tw @h2 (tw @v2 (tw @vt (tw @vq (tw @vo (tw @hg (tw @FJ (tw @OQ (tw @ab.eq_1 @d0))))))))))))))))))) ?_;(repeat(refine Pn.mk ?_;intro N hN))))
    refine cm ?_ ?_ (by(try dsimp only);exact⟨by omega,bk.cut hg how (by omega) (fun x hx Mc=>by
     have h1:=dB (i:=x) (n:=st_b.next) (by omega)
     have h2:(x=O)=False:=eq_false Mc
     simp only[go_sem, ↓reduceIte,Nat.reduceEqDiff,Nat.reduceAdd,Nat.reduceSub,Nat.reduceLeDiff,reduceCtorEq,h1,h2]) hL (sl @OQ) hAk⟩)
    all_goals simp only[go_sem, ↓reduceIte,Nat.reduceEqDiff,Nat.reduceAdd,Nat.reduceSub,Nat.reduceLeDiff,reduceCtorEq,a8,ag0,a0,a3,b21,bg0,bg1,b0,b3,b5,b8,H8,ab,vt,vo,hq]
   ·have il:iO s ts (bd p k)≠[]:=fun e=>by rw[e]at o4;cases o4
    have d1:decide ((0:Int)<((iO s ts (bd p k)).length:Int))=true:=decide_eq_true (by omega)
    have JA:=rY (.own o 0 (iO s ts (bd p k)).length)
    have v8:=dB o7
    have oO:(o=O)=False:=eq_false (by
     rintro rfl
     rw[hg]at bo
     injection bo with bo
     injection bo with _ bo _
     exact EK bo)
    (try((repeat(revert hN;revert N;apply Pn.out));refine wk (tw @b21 (tw @bg0 (tw @bg1 (tw @b0 (tw @b3 (tw @b5 (tw @b8 (tw @H8 (tw @b6 (tw @ht (tw @h2 (tw @v2 (tw @vt (tw @vq (tw @vo (tw @hg (tw @FJ (tw @JA (tw @ab.eq_1 @d1))))))))))))))))))) ?_;(repeat(refine Pn.mk ?_;intro N hN))))
    refine cm ?_ ?_ (by(try dsimp only);exact⟨by omega,bk.put hg how (by omega) (fun x hx Mc=>by
     have h1:=dB (i:=x) (n:=st_b.next) (by omega)
     have h2:(x=O)=False:=eq_false Mc
     simp only[go_sem, ↓reduceIte,Nat.reduceEqDiff,Nat.reduceAdd,Nat.reduceSub,Nat.reduceLeDiff,reduceCtorEq,h1,h2]) (o:=o) il (by omega) (sd (tw @oO (tw @v8 @bo))) (sl @JA) hAk⟩)
    all_goals simp only[go_sem, ↓reduceIte,Nat.reduceEqDiff,Nat.reduceAdd,Nat.reduceSub,Nat.reduceLeDiff,reduceCtorEq,a8,ag0,a0,a3,b21,bg0,bg1,b0,b3,b5,b8,H8,ab,vt,vo,hq]
 ·have Vc:k=4:=by omega
  subst Vc
  (try((repeat(revert hN;revert N;apply Pn.out));refine wk (tw @a8 (tw @ag0 (tw @a0 (tw @a3 @hk)))) ?_;(repeat(refine Pn.mk ?_;intro N hN))))
  exact fq (.inr rfl) (vs:=[]) rfl ⟨rfl,ak.frame (Nat.le_refl _) ha.ov (by(try dsimp only);omega) (fun x hx=>rfl)⟩
structure Iq (g:Rows) (n:Nat) (c T O:Id) (s:aE) (ts:List ae):Prop where
 o:pU g n c T O s ts
 op:∃es:List En,g O=some ⟨true,mP.ma,es.map pZ⟩/\vn g n es (iO s ts) (fun _=>True)
theorem Iq.frame {g g':Rows} {n n':Nat} {c T O:Id} {s:aE} {ts:List ae} (h:Iq g n c T O s ts) (hn:n<=n') (hf:∀x:Id,x.bj<n->g' x=g x):Iq g' n' c T O s ts:=
 ⟨h.o.frame hn hf,by
  obtain⟨es,h1,h2⟩:=h.op
  exact⟨es,(hf _ h.o.ov).trans h1,h2.frame hn fun x hx _=>hf x hx⟩⟩
theorem pU.Sq {σ:ax} {g:Rows} {n:Nat} {c T O:Id} {s:aE} {ts:List ae} {A:ah->Prop} (h:pU σ.get σ.next c T O s ts) (k:iF σ O s ts A g n):pU g n c T O s ts:=h.look k.ow
theorem I7 {s:aE} (hT:1<=s.az) {ts:List ae} {q:ah} (h:∀t∈ts,∀k:Nat,k<4->q≠bd t.bH k):iO s ts q=[]:=by
 unfold iO
 refine FF (fun t=>?_) _
 cases hb:eJ s ts q t
 ·rfl
 ·exfalso
  simp[eJ]at hb
  obtain⟨⟨h1,h2⟩,h3⟩:=hb
  obtain⟨k,hk,h4⟩:=bind_some (s:=s.aB) (F:=gR ts) (p:=q) (t:=t) 4 (by have:qj s.aB (gR ts) q t=du s.aB (gR ts) q t 4:=rfl;omega)
  have h5:0<=eO ts (bd q k):=by
   unfold gR at h4
   split at h4
   ·assumption
   ·omega
  obtain⟨h6,h7⟩:=kM h5
  have O1:(kP k).toNat<4/\((kP k).toNat:Int)=kP k:=by
   have:k=0∨k=1∨k=2∨k=3:=by omega
   rcases this with rfl|rfl|rfl|rfl<;>decide
  refine h _ (gT h6) (kP k).toNat O1.1 ?_
  rw[h7,O1.2,za q k hk]
theorem CC {l:List ae} {t:ae} (h:t∈l):∃j,j<l.length/\t=aV l j:=by
 obtain⟨j,hj,rfl⟩:=List.getElem_of_mem h
 exact⟨j,hj,(gQ hj).symm⟩
def Dj (s:aE) (l:List ae) (j:Nat) (q:ah):Prop:=iO s l q=[]/\(∀i:Nat,i<l.length->∀k:Nat,k<4->q≠bd (aV l i).bH k)∨∃i:Nat,i<j/\∃k:Nat,k<4/\q=bd (aV l i).bH k
theorem KO {s:aE} (hT:1<=s.az) (l:List ae) (q:ah):Dj s l l.length q:=by
 by_cases h:∃i:Nat,i<l.length/\∃k:Nat,k<4/\q=bd (aV l i).bH k
 ·exact .inr h
 ·have h2:∀i:Nat,i<l.length->∀k:Nat,k<4->q≠bd (aV l i).bH k:=fun i hi k hk e=>h ⟨i,hi,k,hk,e⟩
  exact .inl ⟨I7 hT fun t ht k hk=>by
   obtain⟨j,hj,rfl⟩:=CC ht
   exact h2 j hj k hk,h2⟩
def TY (σ:ax) (s:aE) (ts:List ae) (r:AV) (σ':ax):Prop:=
 ∃c T O:Id,r=.ptr c 0 0/\Iq σ'.get σ'.next c T O s ts/\σ.next<=c.bj/\σ.next<=T.bj/\σ.next<=O.bj/\σ.next<=σ'.next/\∀x:Id,x.bj<σ.next->σ'.get x=σ.get x
theorem Aj (s:aE) (hS:ik s.aB) (UG:1<=s.az) (l:List ae) (hA:kn s.aB l) (σ:ax):Call Tryz.prog 83 [.agg (aD s),.agg [.sl (l.map ai)]] σ (TY σ s l):=by
 refine eZ eG rfl fun lG=>?_
 clear lG
 have GZ:=hA.1.BC
 (try((repeat(revert hN;revert N;apply Pn.out));refine wk @aD.eq_1 ?_;(repeat(refine Pn.mk ?_;intro N hN))))
 refine aM (fun n env st=>∃k:Nat,n=(l.length)-k/\k<=(l.length)/\env 18=.int .i64 (k:Int)/\st.get ⟨83001004,σ.next+1⟩=some ⟨true,6,[[.sl (s.aB.aA.map bV),.sl (s.aB.ad.map bm),.sl (s.cw.ad.map ai),.int .i64 s.az,.map ⟨83001001,σ.next+1⟩ mP,.map ⟨83001002,σ.next+1⟩ mP]]⟩/\st.get ⟨83001001,σ.next+1⟩=some ⟨true,mP.ma,(l.take k).map ai⟩/\st.get ⟨83001002,σ.next+1⟩=some ⟨true,mP.ma,[]⟩/\st.get ⟨83000001,σ.next⟩=some ⟨true,1,[[.sl (l.map ai)]]⟩/\(σ.next+3<=st.next/\∀x:Id,x.bj<σ.next->st.get x=σ.get x)) (l.length) ⟨0,by omega,by omega,sl @Nat.zero_add,sl @Nat.zero_add,sl @Nat.zero_add,sl @Nat.zero_add,sl @Nat.zero_add,⟨by(try dsimp only);omega,fun x hx=>by
  have:=dB hx
  simp only[go_sem, ↓reduceIte,Nat.reduceEqDiff,Nat.reduceAdd,Nat.reduceSub,Nat.reduceLeDiff,reduceCtorEq,this]⟩⟩ ?_
 rintro n_a env_a st_a ⟨k,rfl,ale,a18,ag0,ag1,ag2,ag3,j8⟩ di
 have a3:=di 3 (by kernel_rfl);have a5:=di 5 (by kernel_rfl);have Qm:=di 16 (by kernel_rfl);have a17:=di 17 (by kernel_rfl)
 simp only[go_sem, ↓reduceIte,Nat.reduceEqDiff,Nat.reduceAdd,Nat.reduceSub,Nat.reduceLeDiff,reduceCtorEq]at a3 a5 Qm a17
 clear di
 obtain⟨an,di⟩:=j8
 have v1:=dB (i:=⟨83001004,σ.next+1⟩) (n:=st_a.next) (by(try dsimp only);omega)
 have v2:=dB (i:=⟨83001001,σ.next+1⟩) (n:=st_a.next) (by(try dsimp only);omega)
 have v3:=dB (i:=⟨83001002,σ.next+1⟩) (n:=st_a.next) (by(try dsimp only);omega)
 have v4:=dB (i:=⟨83000001,σ.next⟩) (n:=st_a.next) (by(try dsimp only);omega)
 by_cases hk:(k:Int)<(l.length:Int)
 ·have cm:∀{e:Env} {gg:Rows} {nx:Nat},(e 18=.int .i64 (IntKind.i64.wrap ((k:Int)+1)))->(gg ⟨83001004,σ.next+1⟩=some ⟨true,6,[[.sl (s.aB.aA.map bV),.sl (s.aB.ad.map bm),.sl (s.cw.ad.map ai),.int .i64 s.az,.map ⟨83001001,σ.next+1⟩ mP,.map ⟨83001002,σ.next+1⟩ mP]]⟩)->(gg ⟨83001001,σ.next+1⟩=some ⟨true,mP.ma,(l.take (k+1)).map ai⟩)->(gg ⟨83001002,σ.next+1⟩=some ⟨true,mP.ma,[]⟩)->(gg ⟨83000001,σ.next⟩=some ⟨true,1,[[.sl (l.map ai)]]⟩)->(σ.next+3<=nx/\∀x:Id,x.bj<σ.next->gg x=σ.get x)->∃m0,m0<(l.length)-k/\∃k:Nat,m0=(l.length)-k/\k<=(l.length)/\e 18=.int .i64 (k:Int)/\gg ⟨83001004,σ.next+1⟩=some ⟨true,6,[[.sl (s.aB.aA.map bV),.sl (s.aB.ad.map bm),.sl (s.cw.ad.map ai),.int .i64 s.az,.map ⟨83001001,σ.next+1⟩ mP,.map ⟨83001002,σ.next+1⟩ mP]]⟩/\gg ⟨83001001,σ.next+1⟩=some ⟨true,mP.ma,(l.take k).map ai⟩/\gg ⟨83001002,σ.next+1⟩=some ⟨true,mP.ma,[]⟩/\gg ⟨83000001,σ.next⟩=some ⟨true,1,[[.sl (l.map ai)]]⟩/\(σ.next+3<=nx/\∀x:Id,x.bj<σ.next->gg x=σ.get x):=fun x1 x2 x3 x4 x5 x6=>⟨_,by omega,k+1,rfl,by omega,(by rw[x1,ay (by omega)]),x2,x3,x4,x5,x6⟩
  have eU:k<l.length:=by omega
  have hg:=fC eU
  have hm:=wK (KH hA.1.NS eU)
  have pD:=M4 eU
  (try((repeat(revert hN;revert N;apply Pn.out));refine wk (tw @a18 (tw @ag0 (tw @ag1 (tw @ag2 (tw @ag3 (tw @a3 (tw @a5 (tw @Qm (tw @a17 (tw @hk (tw @hg (tw @hm (tw @v1 (tw @v2 (tw @v3 (tw @v4 @ai.eq_1)))))))))))))))) ?_;(repeat(refine Pn.mk ?_;intro N hN))))
  refine cm ?_ ?_ ?_ ?_ ?_ (by(try dsimp only);exact⟨by omega,fun x hx=>by
   have h1:=dB (i:=x) (n:=st_a.next) (by omega)
   have h2:=dv (a:=x) (b:=⟨83001001,σ.next+1⟩) (by(try dsimp only);omega)
   have h3:=di x hx
   simp only[go_sem, ↓reduceIte,Nat.reduceEqDiff,Nat.reduceAdd,Nat.reduceSub,Nat.reduceLeDiff,reduceCtorEq,h1,h2,h3]⟩)
  all_goals simp only[go_sem, ↓reduceIte,Nat.reduceEqDiff,Nat.reduceAdd,Nat.reduceSub,Nat.reduceLeDiff,reduceCtorEq,a18,ag0,ag1,ag2,ag3,a3,a5,Qm,a17,ai,v1,v2,v3,v4,pD]
 ·have jN:k=l.length:=by omega
  subst jN
  have oZ:l.take l.length=l:=List.take_length
  (try((repeat(revert hN;revert N;apply Pn.out));refine wk (tw @a18 (tw @ag0 (tw @ag1 (tw @ag2 (tw @ag3 (tw @a3 (tw @a5 (tw @Qm (tw @a17 (tw @hk (tw @v1 (tw @v2 (tw @v3 @v4))))))))))))) ?_;(repeat(refine Pn.mk ?_;intro N hN))))
  refine aM (fun n env st=>∃j:Nat,n=(l.length)-j/\j<=(l.length)/\env 34=.int .i64 (j:Int)/\(σ.next+3<=st.next/\pU st.get st.next ⟨83001004,σ.next+1⟩ ⟨83001001,σ.next+1⟩ ⟨83001002,σ.next+1⟩ s l/\(∀x:Id,x.bj<σ.next->st.get x=σ.get x)/\∃es:List En,st.get ⟨83001002,σ.next+1⟩=some ⟨true,mP.ma,es.map pZ⟩/\vn st.get st.next es (iO s l) (Dj s l j))) (l.length) ⟨0,by omega,by omega,sl (tw @a18 (tw @ag0 (tw @ag1 (tw @ag2 (tw @ag3 (tw @a3 (tw @a5 (tw @Qm @a17)))))))),by(try dsimp only);exact⟨by omega,⟨sd @ag0,sd (tw @ag1 @oZ),⟨[],sd @ag2,by intro r hr;cases hr⟩,by(try dsimp only);omega,by(try dsimp only);omega,by(try dsimp only);omega,(by intro e;injection e with e1 e2;revert e1;decide),(by intro e;injection e with e1 e2;revert e1;decide),(by intro e;injection e with e1 e2;revert e1;decide)⟩,fun x hx=>by
   have h3:=di x hx
   simp only[go_sem, ↓reduceIte,Nat.reduceEqDiff,Nat.reduceAdd,Nat.reduceSub,Nat.reduceLeDiff,reduceCtorEq,h3],[],sl @ag2,List.nodup_nil,fun q hq=>.inl ⟨by
    rcases hq with hq|⟨i,hi,_⟩
    ·exact hq.1
    ·exact absurd hi (Nat.not_lt_zero i),fun e he=>by cases he⟩⟩⟩ ?_
  rintro n_b env_b st_b ⟨j,rfl,ble,b34,bI0⟩ e7
  have b5:=e7 5 (by kernel_rfl);have tL:=e7 32 (by kernel_rfl);have uq:=e7 33 (by kernel_rfl)
  simp only[go_sem, ↓reduceIte,Nat.reduceEqDiff,Nat.reduceAdd,Nat.reduceSub,Nat.reduceLeDiff,reduceCtorEq,a18,ag0,ag1,ag2,ag3,a3,a5,Qm,a17]at b5 tL uq
  clear e7
  obtain⟨bn,bC,e7,es,bO,bS⟩:=bI0
  by_cases hj:(j:Int)<(l.length:Int)
  ·have ft:∀{e:Env} {gg:Rows} {nx:Nat},(e 34=.int .i64 (IntKind.i64.wrap ((j:Int)+1)))->(σ.next+3<=nx/\pU gg nx ⟨83001004,σ.next+1⟩ ⟨83001001,σ.next+1⟩ ⟨83001002,σ.next+1⟩ s l/\(∀x:Id,x.bj<σ.next->gg x=σ.get x)/\∃es:List En,gg ⟨83001002,σ.next+1⟩=some ⟨true,mP.ma,es.map pZ⟩/\vn gg nx es (iO s l) (Dj s l (j+1)))->∃m0,m0<(l.length)-j/\∃j:Nat,m0=(l.length)-j/\j<=(l.length)/\e 34=.int .i64 (j:Int)/\(σ.next+3<=nx/\pU gg nx ⟨83001004,σ.next+1⟩ ⟨83001001,σ.next+1⟩ ⟨83001002,σ.next+1⟩ s l/\(∀x:Id,x.bj<σ.next->gg x=σ.get x)/\∃es:List En,gg ⟨83001002,σ.next+1⟩=some ⟨true,mP.ma,es.map pZ⟩/\vn gg nx es (iO s l) (Dj s l j)):=fun x1 x2=>⟨_,by omega,j+1,rfl,by omega,(by rw[x1,ay (by omega)]),x2⟩
   have iy:j<l.length:=by omega
   have hg:=fC iy
   have NG:=tu (hA.1.pt iy)
   (try((repeat(revert hN;revert N;apply Pn.out));refine wk (tw @b34 (tw @b5 (tw @tL (tw @uq (tw @hj (tw @hg @ai.eq_1)))))) ?_;(repeat(refine Pn.mk ?_;intro N hN))))
   have hG:∀x:Id,x.bj<st_b.next->(bR (bR st_b.get ⟨83009002,st_b.next+1⟩ ⟨true,3,[[.int .i64 0,.int .i64 0,.int .i64 0]]⟩) ⟨83009002,st_b.next+1⟩ ⟨true,3,[[.int .i64 (aV l j).bH.eR,.int .i64 (aV l j).bH.eM,.int .i64 (aV l j).bx]]⟩) x=st_b.get x:=fun x hx=>by
    have h1:=dB hx
    simp only[go_sem, ↓reduceIte,Nat.reduceEqDiff,Nat.reduceAdd,Nat.reduceSub,Nat.reduceLeDiff,reduceCtorEq,h1]
   have S8:pU (bR (bR st_b.get ⟨83009002,st_b.next+1⟩ ⟨true,3,[[.int .i64 0,.int .i64 0,.int .i64 0]]⟩) ⟨83009002,st_b.next+1⟩ ⟨true,3,[[.int .i64 (aV l j).bH.eR,.int .i64 (aV l j).bH.eM,.int .i64 (aV l j).bx]]⟩) (st_b.next+1+1+1) ⟨83001004,σ.next+1⟩ ⟨83001001,σ.next+1⟩ ⟨83001002,σ.next+1⟩ s l:=bC.frame (by omega) hG
   refine .inr (aJ _ _ _ _ _ (fun r σ1 hq=>?_) (zZ (σ:=⟨bR (bR st_b.get ⟨83009002,st_b.next+1⟩ ⟨true,3,[[.int .i64 0,.int .i64 0,.int .i64 0]]⟩) ⟨83009002,st_b.next+1⟩ ⟨true,3,[[.int .i64 (aV l j).bH.eR,.int .i64 (aV l j).bH.eM,.int .i64 (aV l j).bx]]⟩,st_b.next+1+1+1⟩) S8.KZ S8.cO S8.TO (Dj s l j) ⟨es,(hG _ (by(try dsimp only);omega)).trans bO,bS.frame (by(try dsimp only);omega) fun x hx _=>hG x hx⟩ hS (ik.Nq hA) (aV l j).bH NG.1 NG.2))
   obtain⟨g1,x1⟩:=σ1
   obtain⟨rfl,hL⟩:=hq
   (try dsimp only at hL)
   have hC2:=S8.Sq hL
   have hLn:=hL.1
   have hLf:=hL.2.1
   obtain⟨es2,UC,LQ⟩:=hL.2.2
   (try dsimp only at hLn hLf)
   have hAj:∀q,Dj s l (j+1) q->Dj s l j q∨∃k:Nat,k<4/\q=bd (aV l j).bH k:=fun q hq=>by
    rcases hq with hq|⟨i,hi,hq⟩
    ·exact .inl (.inl hq)
    ·rcases Nat.lt_or_ge i j with h|h
     ·exact .inl (.inr ⟨i,h,hq⟩)
     ·exact .inr (by rw[show i=j by omega]at hq;exact hq)
   refine hN _ _ ?_
   clear hN N
   (try((repeat(revert hN;revert N;apply Pn.out));refine wk (tw @b34 (tw @b5 (tw @tL @uq))) ?_;(repeat(refine Pn.mk ?_;intro N hN))))
   exact ft (sd (tw @b34 (tw @b5 (tw @tL @uq)))) (by(try dsimp only);exact⟨by omega,hC2.frame (by omega) (fun x hx=>rfl),fun x hx=>by
    have h1:=dB (i:=x) (n:=st_b.next) (by omega)
    have h2:=hLf x (by omega) (fun e=>by rw[e]at hx;(try dsimp only at hx);omega)
    have h3:=e7 x hx
    simp only[h2]
    simp only[go_sem, ↓reduceIte,Nat.reduceEqDiff,Nat.reduceAdd,Nat.reduceSub,Nat.reduceLeDiff,reduceCtorEq,h1,h3],es2,UC,(LQ.frame (by omega) fun x hx _=>rfl).mono hAj⟩)
  ·have gM:j=l.length:=by omega
   subst gM
   (try((repeat(revert hN;revert N;apply Pn.out));refine wk (tw @b34 (tw @b5 (tw @tL (tw @uq @hj)))) ?_;(repeat(refine Pn.mk ?_;intro N hN))))
   exact fq (.inl rfl) (vs:=[.ptr ⟨83001004,σ.next+1⟩ 0 0]) (sd @Nat.zero_add) ⟨_,_,_,rfl,⟨bC.frame (by(try dsimp only);omega) (fun x hx=>rfl),es,bO,(bS.frame (by(try dsimp only);omega) fun x hx _=>rfl).mono fun q _=>KO UG l q⟩,by(try dsimp only);omega,by(try dsimp only);omega,by(try dsimp only);omega,by(try dsimp only);omega,e7⟩
end Go.Proofs.YtgoljkjaameagaaGreat.V

namespace Go.Proofs.YtgoljkjaameagaaGreat.V
open Go.RowKit
variable {P:Program} {w w':World} {D D':Nat->Prop} {ι ι':Names} {hs:Nat} {g:Rows}
theorem jH.Je (hc:∀b x,D b->w'.cell? ⟨b,x,none⟩=w.cell? ⟨b,x,none⟩) {a:AV} {v:Value} (h:jH P w D a v):jH P w' D a v:=by
 induction h with
 |int k n=>exact .int k n
 |bool b=>exact .bool b
 |str s=>exact .str s
 |cu=>exact .cu
 |gO=>exact .gO
 |jb=>exact .jb
 |ji=>exact .ji
 |A6 a c h=>exact .A6 a c h
 |sl rows b o n c sz vs h1 h2 h3 h4 h5 h5' h6 _ ih=>exact .sl rows b o n c sz vs h1 h2 h3 h4 h5 h5' (fun i j hi hj=>(hc b _ h4).trans (h6 i j hi hj)) ih
 |dn cs b o vs h1 OA h2 _ ih=>exact .dn cs b o vs h1 OA (fun j hj=>(hc b _ h1).trans (h2 j hj)) ih
 |agg cs vs f h1 h2 h3 _ ih=>exact .agg cs vs f h1 h2 h3 ih
 |fn f db vs g h1 h2 h3 _ ih=>exact .fn f db vs g h1 h2 h3 ih
theorem dh.Je (hc:∀b x,D b->w'.cell? ⟨b,x,none⟩=w.cell? ⟨b,x,none⟩) {a:AV} {v:Value} (h:dh P w D ι a v):dh P w' D ι a v:=by
 induction h with
 |eS a v h=>exact .eS a v (h.Je hc)
 |map id m B h1 h2=>exact .map id m B h1 h2
 |rO id c B h1 h2=>exact .rO id c B h1 h2
 |own id off len o cap B h1 h2 h3 h4 h5 h6=>exact .own id off len o cap B h1 h2 h3 h4 h5 h6
 |ptr id i off B h1 h2=>exact .ptr id i off B h1 h2
 |agg cs vs f h1 h2 h3 _ ih=>exact .agg cs vs f h1 h2 h3 ih
 |iD cs vs f h1 h2 _ ih=>exact .iD cs vs f h1 h2 ih
 |fn f db vs g h1 h2 h3 _ ih=>exact .fn f db vs g h1 h2 h3 ih
 |ud f db vs g h1 h2 h3 _ ih=>exact .ud f db vs g h1 h2 h3 ih
def Iu (w:World) (rr:Nat):Prop:=∃m s seen c,w.heap[rr]? =some (.mapIter m s seen c)
theorem Iu.cell {rr:Nat} (h:Iu w rr) (x:Nat):w.cell? ⟨rr,x,none⟩=none:=by
 obtain⟨m,s,seen,c,h⟩:=h
 simp[World.cell?,h]
structure Qi (P:Program) (w:World) (D:Nat->Prop) (ι:Names) (m:MK) (L:List MapEntry) (left:List (List AV)):Prop where
 len:left.length=L.length
 at_:∀(i:Nat) (cs:List AV),left[i]? =some cs->∃(e:MapEntry) (kv vv:AV),L[i]? =some e/\part m.ka m.ks cs=some kv/\cs[m.ks]? =some vv/\dh P w D ι kv e.key/\dh P w D ι vv e.val
theorem Qi.rep {m:MK} {L:List MapEntry} {left:List (List AV)} (h:Qi P w D ι m L left) (hr:∀{a v},dh P w D ι a v->dh P w' D' ι' a v):Qi P w' D' ι' m L left:=⟨h.len,fun i cs hi=>by
 obtain⟨e,kv,vv,h1,h2,h3,h4,h5⟩:=h.at_ i cs hi
 exact⟨e,kv,vv,h1,h2,h3,hr h4,hr h5⟩⟩
theorem nk {α β:Type} {l:List α} {k:List β} {i j:Nat} {x:α} (hl:l.length=k.length) (h:(l.eraseIdx i)[j]? =some x):∃q:Nat,l[q]? =some x/\(k.eraseIdx i)[j]? =k[q]? :=by
 rw[List.getElem?_eraseIdx]at h
 split at h
 ·rename_i hj;exact⟨j,h,by rw[List.getElem?_eraseIdx,if_pos hj]⟩
 ·rename_i hj;exact⟨j+1,h,by rw[List.getElem?_eraseIdx,if_neg hj]⟩
theorem Qi.erase {m:MK} {L:List MapEntry} {left:List (List AV)} (h:Qi P w D ι m L left) {i:Nat} (hi:i<L.length):Qi P w D ι m (L.eraseIdx i) (left.eraseIdx i):=⟨by
 rw[List.length_eraseIdx,List.length_eraseIdx,h.len],fun j cs hj=>by
 obtain⟨q,hq,he⟩:=nk h.len hj
 obtain⟨e,kv,vv,h1,h2⟩:=h.at_ q cs hq
 exact⟨e,kv,vv,he.trans h1,h2⟩⟩
theorem nP:∀{l:List MapEntry} {i:Nat} {e:MapEntry},(l.map (·.born)).Nodup->l[i]? =some e->l.filter (fun x=>x.born !=e.born)=l.eraseIdx i
 |x::l,0,e,hn,h=>by
  simp at h;subst h
  obtain⟨h1,h2⟩:=List.nodup_cons.1 (show(x.born::l.map (·.born)).Nodup from hn)
  rw[List.filter_cons,if_neg (by simp),List.eraseIdx_cons_zero]
  refine List.filter_eq_self.2 fun y hy=>?_
  have:y.born≠x.born:=fun hc=>h1 (by rw[<-hc];exact List.mem_map_of_mem hy)
  simpa using this
 |x::l,i+1,e,hn,h=>by
  obtain⟨h1,h2⟩:=List.nodup_cons.1 (show(x.born::l.map (·.born)).Nodup from hn)
  simp only[List.getElem?_cons_succ]at h
  have hx:x.born≠e.born:=fun hc=>h1 (by rw[hc];exact List.mem_map_of_mem (List.mem_of_getElem? h))
  rw[List.filter_cons,if_pos (by simpa using hx),List.eraseIdx_cons_succ,nP h2 h]
theorem Eu {es:Array MapEntry} {clock:Nat} {seen:Array Nat} {i:Nat} {e:MapEntry} (hs:Gp es clock) (h:(leftOf es seen).toList[i]? =some e):(leftOf es (seen.push e.born)).toList=(leftOf es seen).toList.eraseIdx i:=by
 have hn:((leftOf es seen).toList.map (·.born)).Nodup:=by
  unfold leftOf
  rw[Array.toList_filter]
  exact((List.filter_sublist (p:=fun e=> !seen.contains e.born) (l:=es.toList)).map MapEntry.born).nodup hs.2
 rw[<-nP hn h]
 unfold leftOf
 rw[Array.toList_filter,Array.toList_filter,List.filter_filter]
 refine List.filter_congr fun x _=>?_
 rw[contains_push]
 cases seen.contains x.born<;>cases hb:(x.born==e.born)<;>simp_all
def CS (P:Program) (nt:Nat) (c:Code) (W:(Ex->Env->ax->Prop)->Env->ax->Prop):Prop:=
 ∀(hs:Nat) (Q:Ex->Env->ax->Prop) (env:Env) (σ:ax) (a:Act) (w:World) (D:Nat->Prop) (ι:Names) (Q':Exit->Act->World->Prop),W Q env σ->St P hs nt D ι env σ a w->vw P hs nt a.defers Q σ.next D ι w Q'->Dh P c Q' a w
theorem CS.code (hm:P.follows .mixedOrders=true) {md:List (Nat×Nat)} {nt vR:Nat} {c:Code} {vc:VC} (h:jK P md nt vR c=some vc):CS P nt c (eu (Sound P) vc):=
 fun _ Q env σ a w D ι Q' hv dQ hQ=>vO hm c vc h Q env σ a w D ι Q' hv dQ hQ
theorem CS.seq {nt:Nat} {x y:Code} {V W:(Ex->Env->ax->Prop)->Env->ax->Prop} (h:CS P nt x V) (k:CS P nt y W):CS P nt (.seq x y) (fun Q=>V (dx (W Q) Q)):=fun hs Q env σ a w D ι Q' hv dQ hQ=>by
 refine F3 (h hs _ env σ a w D ι _ hv dQ fun ex jE σ1 a1 w1 D1 ι1 hq T kg hd hle=>?_)
 cases ex with
 |normal=>exact k hs Q jE σ1 a1 w1 D1 ι1 Q' hq kg (by rw[hd];exact hQ.later T hle)
 |exit id=>exact hQ (.exit id) jE σ1 a1 w1 D1 ι1 hq T kg hd hle
 |ret=>exact hQ .ret jE σ1 a1 w1 D1 ι1 hq T kg hd hle
theorem CS.fn {f:Nat} {fn:Func} {c:Code} {args:List AV} {σ:ax} {K:AV->ax->Prop} {vr:List oH} {W:(Ex->Env->ax->Prop)->Env->ax->Prop} (Qw:P.funcs[f]? =some fn) (hc:fn.body=some c) (hr:fn.results.toList.mapM (Dt P)=some vr) (ha:fn.params.size+fn.nfree=args.length) (hle:fn.params.size+fn.nfree<=fn.ntmps)
  (h:CS P fn.ntmps c W) (hv:W (lq vr K) (cz args) σ):Call P f args σ K:=
 fP (vG Qw hc hr ha hle fun hs w D ι a Q' dQ hQ=>h hs (lq vr K) (cz args) σ a w D ι Q' hv dQ hQ)
theorem wO {α:Type}:∀{l:List α} {i:Nat} {x:α},l[i]? =some x->(x::l.eraseIdx i).Perm l
 |y::l,0,x,h=>by simp at h;subst h;exact List.Perm.refl _
 |y::l,i+1,x,h=>by
  simp only[List.getElem?_cons_succ]at h
  rw[List.eraseIdx_cons_succ]
  exact(List.Perm.swap _ _ _).trans ((wO h).cons _)
end Go.Proofs.YtgoljkjaameagaaGreat.V

namespace Go.Proofs.YtgoljkjaameagaaGreat.V
open Go.RowKit
variable {P:Program} {hs:Nat}
theorem H4 {q n i:Nat} {ops:Array Oper} {Q:Exit->Act->World->Prop} {K K':Act->World->Prop} {a:Act} {w:World} (mh:∀(j:Nat) (o:Oper),ops[j]? =some o->∀c,o.op≠.defer c) (lH:¬LetsOut Q) (hK:∀a w,K a w->K' a w) (h:wpOp P ops Q i K a w):wpOpIn (Fence.wide.inRound q) n P ops Q i K' a w:=by
 unfold wpOp at h
 unfold wpOpIn
 split at h
 ·rename_i ho;simp only[ho];exact hK _ _ h
 ·rename_i o ho
  simp only[ho]
  split at h
  ·rename_i hw
   rw[if_pos hw]
   replace h:=h.resolve_right fun hc=>lH hc.2
   refine⟨fun _ _=>trivial,?_⟩
   rw[Oper.semAt_eq _ _ _ (mh i o ho)]
   unfold Oper.wp at h
   generalize (execOp a.eval o).run P w=r at *
   cases r with
   |ok m w'=>
    cases m<;>simp only[Oper.upon,Oper.uponIn]at h ⊢
    case value=>exact hK _ _ h
    case skip=>exact hK _ _ h
    case defer=>exact hK _ _ h
    case enter f args=>
     refine⟨fun h=>by simp[Fence.wide]at h,CallsIn.inRound q (callsIn_wide.2 (h.mono fun e Li he=>?_))⟩
     cases e with
     |returned v=>exact hK _ _ he
     |panicked c=>exact he
     |outgrown=>exact he
    case row r args=>exact⟨fun h=>by simp[Fence.wide]at h,fun c cs _=>let ⟨v,Li,h1,s⟩:=h c cs;⟨v,Li,hK _ _ h1,stepsIn_wide.2 s⟩⟩
   |halt x w'=>cases x<;>simp only[Oper.upon,Oper.uponIn]at h ⊢;exact h
  ·rename_i hw
   rw[if_neg hw]
   exact⟨fun _ _=>trivial,hK _ _ h⟩
theorem xr {q n:Nat} {md:Region.Mode} {ops:Array Oper} {Q:Exit->Act->World->Prop} (mh:∀(j:Nat) (o:Oper),ops[j]? =some o->∀c,o.op≠.defer c) (lH:¬LetsOut Q):∀(fuel:Nat) (listed:Array Bool) (a:Act) (w:World),wpAny P md ops Q fuel listed a w->wpAnyIn (Fence.wide.inRound q) n P md ops Q fuel listed a w
 |0,_,_,_,h=>h
 |fuel+1,listed,_,_,h=>⟨h.1,fun i hi=>H4 mh lH (fun a w=>xr mh lH fuel _ a w) (h.2 i hi)⟩
def FV:Op->Bool
 | .defer _=>true
 |_=>false
theorem J6 {ops:Array Oper} (h:(ops.all fun o=> !FV o.op)=true):∀(j:Nat) (o:Oper),ops[j]? =some o->∀c,o.op≠.defer c:=fun j o hj c hc=>by
 have:=Array.all_eq_true_iff_forall_mem.1 h o (Array.mem_of_getElem? hj)
 rw[hc]at this
 simp[FV]at this
theorem Ar (hm:P.follows .mixedOrders=true) {nt site0 id q n:Nat} {ops:Array Oper} {vl:List bt} (h:rN P nt site0 ops true false=some vl) (mh:∀(j:Nat) (o:Oper),ops[j]? =some o->∀c,o.op≠.defer c)
  {K:Env->ax->Prop} {env:Env} {σ:ax} {a:Act} {w:World} {D:Nat->Prop} {ι:Names} {Q:Exit->Act->World->Prop} (hv:wpOps (Sound P) true vl K env σ) (dQ:St P hs nt D ι env σ a w)
  (hK:∀iJ σ' a' w' D' ι',K iJ σ'->Step hs D ι w D' ι' w'->St P hs nt D' ι' iJ σ' a' w'->a'.defers=a.defers->Q .normal a' w'):(Code.region id ops true).wpIn (Fence.wide.inRound q) n P Q a w:=by
 have dE:∃hidden tG,allM (mu P ops nt site0 true false (jD ops) hidden) ops.toList 0=some tG/\vl=tG/\oP ops tG (jD ops)=true:=by
  unfold rN at h
  simp only[if_true,Bool.not_true,Bool.false_or]at h
  split at h
  ·rename_i tG h'
   split at h
   ·rename_i we;simp at h;exact⟨_,tG,h',h.symm,we⟩
   ·cases h
  ·cases h
 obtain⟨hidden,tG,dE,rfl,we⟩:=dE
 obtain⟨r4,T0⟩:=dQ.drew
 obtain⟨hlen,_⟩:=oJ dE
 have kZ:vl.length=ops.size:=by rw[hlen];simp
 have DP:=xp (X:=Sound P) (K:=K) (n:=σ.next) we kZ vl 0 (Array.replicate ops.size false) env σ.get (by simp) (by simp) (fun i hi=>by simp[hi]) (by simp[kZ]) (fun k i h=>by
  exfalso
  rcases Nat.lt_or_ge k ops.size with hk|hk
  ·simp[hk]at h
  ·simp[Nat.not_lt.2 hk]at h) hv
 rw[kZ]at DP
 have hw:=ya (Q:=fun e a w=>e=.normal/\Q .normal a w) dE ops.size _ env σ.get a w.drew D ι (fun _=>False) DP r4.Lg r4.used (fun _ h=>h.elim) r4.env r4.size fun jE g1 a1 w1 D1 ι1 U1 hk T S1 T3 E1 yJ hd=>⟨rfl,hK jE ⟨g1,σ.next+1⟩ a1 w1 D1 ι1 hk (T0.trans T) ⟨S1,T3.next,E1,yJ⟩ hd⟩
 have fB:=xr (q:=q) (n:=n) (Q:=fun e a w=>e=.normal/\Q .normal a w) mh (by rintro⟨_,_,hc,_⟩;cases hc) ops.size _ a w.drew hw
 refine wpIn_mono (wpIn_region_any (id:=id) hm fB) ?_
 rintro e a w ⟨rfl,h⟩
 exact h
end Go.Proofs.YtgoljkjaameagaaGreat.V

namespace Go.Proofs.YtgoljkjaameagaaGreat.V
open Go.RowKit Go.Shelf
attribute [local go_sem] Oper.semAt_some
structure pV (W:World) (v:Value) (l:List ae):Prop where
 sl:∃A c,v=.slice A l.length c/\(l.length<=c/\c<=maxLen)/\(l=[]∨∃b o,A=some ⟨b,o,none⟩/\∀i,i<l.length->W.cell? ⟨b,o+(i*3+0),none⟩=some (.int .i64 (aV l i).bH.eR)/\W.cell? ⟨b,o+(i*3+1),none⟩=some (.int .i64 (aV l i).bH.eM)/\W.cell? ⟨b,o+(i*3+2),none⟩=some (.int .i64 (aV l i).bx))
structure Iv (K:World->World->Prop) (v:Value) (l:List ae):Prop where
 refl:∀W,K W W
 trans:∀{A B C:World},K A B->K B C->K A C
 of:∀{W W':World},Below W.heap.size W W'->K W W'
 size:∀{W W':World},K W W'->W.heap.size<=W'.heap.size
 typed:∀{W W':World},K W W'->∀(b:Nat) (cells:Array Value) (T:TypeId) (fr:Nat×Nat),W.heap[b]? =some (Obj.cells cells T fr)->T≠179->T≠254->W'.heap[b]? =W.heap[b]?
 pl:∀{W W':World},K W W'->pV W v l->pV W' v l
theorem uL {W:World} {b x:Nat} {v:Value} (h:W.cell? ⟨b,x,none⟩=some v):b<W.heap.size:=by
 rcases Nat.lt_or_ge b W.heap.size with h1|h1
 ·exact h1
 ·simp[World.cell?,Array.getElem?_eq_none h1]at h
theorem pV.below {W W':World} {v:Value} {l:List ae} (h:pV W v l) (k:Below W.heap.size W W'):pV W' v l:=by
 obtain⟨A,c,rfl,hm,hc⟩:=h.sl
 refine⟨A,c,rfl,hm,?_⟩
 rcases hc with h0|⟨b,o,rfl,kE⟩
 ·exact .inl h0
 ·refine .inr ⟨b,o,rfl,fun i hi=>?_⟩
  obtain⟨h1,h2,h3⟩:=kE i hi
  have hb:=uL h1
  exact⟨(k.cell (p:=⟨b,_,none⟩) hb).trans h1,(k.cell (p:=⟨b,_,none⟩) hb).trans h2,(k.cell (p:=⟨b,_,none⟩) hb).trans h3⟩
theorem pV.eS {P:Program} {W:World} {v:Value} {l:List ae} (h:pV W v l):jH P W (fun b=>b<W.heap.size) (.sl (l.map ai)) v:=by
 obtain⟨A,c,rfl,hm,hc⟩:=h.sl
 rcases hc with rfl|⟨b,o,rfl,kE⟩
 ·exact .A6 A c (by simpa using hm.2)
 by_cases QB:l=[]
 ·subst QB;exact .A6 _ c (by simpa using hm.2)
 ·have lJ:0<l.length:=List.length_pos_iff.2 QB
  have hb:=uL (kE 0 lJ).1
  refine .sl (l.map ai) b o l.length c 3 (fun i j=>if j=0 then .int .i64 (aV l i).bH.eR else if j=1 then .int .i64 (aV l i).bH.eM else .int .i64 (aV l i).bx) (by simp) hm.1 hm.2 hb (fun cs dw=>?_) (fun cs dw a ha=>?_) (fun i j hi hj=>?_) (fun i j cs a hi hj=>?_)
  ·obtain⟨x,_,rfl⟩:=List.mem_map.1 dw;rfl
  ·obtain⟨x,_,rfl⟩:=List.mem_map.1 dw
   simp[ai]at ha
   rcases ha with rfl|rfl|rfl<;>rfl
  ·obtain⟨h1,h2,h3⟩:=kE i hi
   match j,hj with
   |0,_=>exact h1
   |1,_=>exact h2
   |2,_=>exact h3
   |j+3,hj=>omega
  ·have nR:i<l.length:=by have:=(List.getElem?_eq_some_iff.1 hi).1;simpa using this
   rw[fC nR]at hi
   injection hi with hi
   subst hi
   match j,hj with
   |0,hj=>simp[ai]at hj;subst hj;exact .int _ _
   |1,hj=>simp[ai]at hj;subst hj;exact .int _ _
   |2,hj=>simp[ai]at hj;subst hj;exact .int _ _
   |j+3,hj=>simp[ai]at hj
theorem Bp {P:Program} (hm:P.follows .mixedOrders=true) {f:Nat} {args:List AV} {vs:Array Value} {w:World} {r:AV} (h:ar P f args r) (hr:∀g r0,gx g 6 r0=some r->r0=r) (hA:fo P w (fun b=>b<w.heap.size) (fun _=>none) args vs):
  Calls P f vs w fun e w'=>∃D ι u,e=.returned u/\dh P w' D ι r u/\Below w.heap.size w w':=by
 have hs:=iq hm (h 0) w.heap.size (fun b=>b<w.heap.size) (fun _=>none) w vs ⟨Nat.le_refl _,fun _ h=>h,fun id r h=>(by cases h),fun id k6 r r' B B' h=>(by cases h)⟩ (fun id h=>absurd rfl h) hA
 refine hs.mono ?_
 rintro e w' ⟨r0,g',n',D',ι',u,rfl,⟨r',hz,rfl⟩,dQ,hsim,_,_,ia⟩
 have:=hr _ _ hz
 subst this
 exact⟨D',ι',u,rfl,ia,dQ.below⟩
theorem oW {g:Rows} {n:Nat} {a:AV} {k:IntKind} {m:Int} (h:gx g (n+1) a=some (.int k m)):a=.int k m:=by
 cases a<;>rw[gx]at h<;>simp_all
 all_goals (repeat' (split at h))<;>simp_all
theorem DL {g:Rows} {a:AV} {x y:Int} (h:gx g 6 a=some (.agg [.int .i64 x,.int .i64 y])):a=.agg [.int .i64 x,.int .i64 y]:=by
 cases a with
 |agg cs=>
  rw[LF]at h
  simp only[Option.map_eq_some_iff,AV.agg.injEq,exists_eq_right]at h
  match cs,h with
  |[],h=>rw[cD]at h;simp at h
  |[a],h=>
   rw[bz,cD]at h
   cases ha:gx g 5 a<;>simp[ha]at h
  |[a,b],h=>
   rw[bz,bz,cD]at h
   cases ha:gx g 5 a<;>cases hb:gx g 5 b<;>simp[ha,hb]at h
   obtain⟨rfl,rfl⟩:=h
   rw[oW ha,oW hb]
  |a::b::c::r,h=>
   rw[bz,bz,bz]at h
   cases ha:gx g 5 a<;>cases hb:gx g 5 b<;>cases hc:gx g 5 c<;>cases hd:ez g 5 r<;>simp[ha,hb,hc,hd]at h
 |_=>rw[gx]at h<;>simp_all<;>(repeat' (split at h))<;>simp_all
theorem ER (W:World) (p:ah) (d:Int) (hd:gJ d 0 3=true) (hx:iB p.eR) (hy:iB p.eM):Calls Tryz.prog 228 #[.agg #[.int .i64 p.eR,.int .i64 p.eM],.int .i64 d] W fun e W'=>e=.returned (.agg #[.int .i64 (bd p d).eR,.int .i64 (bd p d).eM])/\Below W.heap.size W W':=by
 refine(Bp mixed (ET p d hd hx hy) (fun g r0 h=>DL h) ?_:Calls _ _ _ _ _).mono ?_
 ·exact ll (vs:= #[.int .i64 d]) (.agg _ _ (fun j=>if j=0 then .int .i64 p.eR else .int .i64 p.eM) rfl (fun a ha=>by simp[ab]at ha;rcases ha with rfl|rfl<;>rfl) (fun j hj=>by match j,hj with|0,_=>rfl|1,_=>rfl|j+2,hj=>simp[ab]at hj;omega) (fun j a ha=>by match j,ha with|0,ha=>simp[ab]at ha;subst ha;exact .int _ _|1,ha=>simp[ab]at ha;subst ha;exact .int _ _|j+2,ha=>simp[ab]at ha)) (ll (vs:= #[]) (.int _ _) wV)
 ·rintro e W' ⟨D,ι,u,rfl,hr,hB⟩
  refine⟨?_,hB⟩
  obtain⟨vs,f,rfl,fh,_,h1,h2⟩:=iA hr
  have v0:=h1 0 (by simp[ab])
  have v1:=h1 1 (by simp[ab])
  rw[dt (h2 0 _ rfl)]at v0
  rw[dt (h2 1 _ rfl)]at v1
  obtain⟨vl⟩:=vs
  match vl,fh with
  |[a,b],_=>
   simp at v0 v1
   rw[v0,v1]
theorem xU (W:World) (l:List ae) (v:Value) (hP:pV W v l) (p:ah) (hR:sW l) (OB:l.length<=1048576):Calls Tryz.prog 303 #[.agg #[v],.agg #[.int .i64 p.eR,.int .i64 p.eM]] W fun e W'=>e=.returned (.int .i64 (eO l p))/\Below W.heap.size W W':=by
 refine(Bp mixed (Hy l p hR OB) (fun g r0 h=>oW h) ?_:Calls _ _ _ _ _).mono ?_
 ·exact ll (vs:= #[.agg #[.int .i64 p.eR,.int .i64 p.eM]]) (.agg _ _ (fun _=>v) rfl (fun a ha=>by simp at ha;rw[ha];rfl) (fun j hj=>by match j,hj with|0,_=>rfl|j+1,hj=>simp at hj) (fun j a ha=>by match j,ha with|0,ha=>simp at ha;subst ha;exact hP.eS|j+1,ha=>simp at ha)) (ll (vs:= #[]) (.agg _ _ (fun j=>if j=0 then .int .i64 p.eR else .int .i64 p.eM) rfl (fun a ha=>by simp[ab]at ha;rcases ha with rfl|rfl<;>rfl) (fun j hj=>by match j,hj with|0,_=>rfl|1,_=>rfl|j+2,hj=>simp[ab]at hj;omega) (fun j a ha=>by match j,ha with|0,ha=>simp[ab]at ha;subst ha;exact .int _ _|1,ha=>simp[ab]at ha;subst ha;exact .int _ _|j+2,ha=>simp[ab]at ha)) wV)
 ·rintro e W' ⟨D,ι,u,rfl,hr,hB⟩
  exact⟨by rw[dt hr],hB⟩
theorem grown_of {W W':World} (h:Below W.heap.size W W'):W.grownBy W' none:=⟨h.os,h.tape,h.output,h.size,fun k hk _=>h.block k hk⟩
def Cv (l:List ae) (i:Nat) (d:Int):List (Nat×Nat×Int):=if 0<=eO l (bd (aV l i).bH d)then[(i,(eO l (bd (aV l i).bH d)).toNat,d)]else[]
def la (l:List ae) (i m:Nat):List (Nat×Nat×Int):=(List.range m).flatMap fun j:Nat=>Cv l i (1-(j:Int))
def lL (l:List ae) (n:Nat):List (Nat×Nat×Int):=(List.range n).flatMap fun i=>la l i 2
theorem mE (l:List ae) (n:Nat):lL l (n+1)=lL l n++la l n 2:=by simp[lL,List.range_succ]
theorem nu (l:List ae) (i m:Nat):la l i (m+1)=la l i m++Cv l i (1-(m:Int)):=by simp[la,List.range_succ]
theorem PE (l:List ae) {k m:Nat} (hk:k<l.length) (hm:m<=2):lL l k++la l k m <+:lL l l.length:=by
 have h1:∀d,lL l k <+:lL l (k+d):=fun d=>by
  induction d with
  |zero=>exact List.prefix_refl _
  |succ d ih=>rw[<-Nat.add_assoc,mE l (k+d)];exact ih.trans (List.prefix_append _ _)
 have h2:∀d,lL l (k+1) <+:lL l (k+1+d):=fun d=>by
  induction d with
  |zero=>exact List.prefix_refl _
  |succ d ih=>rw[<-Nat.add_assoc,mE l (k+1+d)];exact ih.trans (List.prefix_append _ _)
 have h3:=h2 (l.length-(k+1))
 rw[show k+1+(l.length-(k+1))=l.length by omega,mE]at h3
 refine List.IsPrefix.trans ?_ h3
 have h4:la l k m <+:la l k 2:=by
  have:m=0∨m=1∨m=2:=by omega
  rcases this with rfl|rfl|rfl
  ·exact List.nil_prefix
  ·rw[nu l k 1];exact List.prefix_append _ _
  ·exact List.prefix_refl _
 exact(List.prefix_append_right_inj _).2 h4
def QW (l:List ae) (x:Nat×Nat×Int):Prop:=x.1<l.length/\x.2.1<l.length/\(0<=x.2.2/\x.2.2<=1)
def Fy (x:Nat×Nat×Int):Array Value:= #[.agg #[.int .i64 (x.1:Int),.int .i64 (x.2.1:Int)],.int .i64 x.2.2]
theorem Mf (l:List ae) (p:ah) (h:0<l.length:=by omega):eO l p<(l.length:Int):=by
 unfold eO
 split<;>omega
theorem Sx (l:List ae) (hA:kD l) (q Ba:Nat) (vS:Value) (K:World->World->Prop) (kl:Iv K vS l) (J Jx:List (Nat×Nat×Int)->World->Prop) (n:Nat) (hn:1<=n)
  (hY:∀pre x W,J pre W->pre.length<(lL l l.length).length->QW l x->YieldAt Fence.wide (n-1) Tryz.prog q (Fy x) W fun e W'=>
   (e=.returned (.bool true)/\J (pre++[x]) W'/\K W W')∨(e=.returned (.bool false)/\Jx (pre++[x]) W'))
  (W:World) (hJ:AbidesFrom W.heap.size J) (OE:W.heap[Ba]? =some (.cells #[vS] 42 (0,0))) (hP:pV W vS l) (h0:J [] W):
  CallsIn Fence.wide n Tryz.prog 302 #[.func (.yield q) #[] #[],.pointer (some ⟨Ba,0,none⟩)] W fun e W'=>(∃v,e=.returned v)/\
   ((∃ys,ys=lL l l.length/\J ys W')∨(∃pre,pre <+:lL l l.length/\Jx pre W')):=by
 obtain⟨A,cp,rfl,_,_⟩:=hP.sl
 refine callsIn_of_wp Tryz.func302 rfl trivial ?_ rfl
 simp only[Tryz.ntmps302,List.size_toArray,List.length_cons,List.length_nil,Nat.reduceAdd,Nat.reduceSub,Array.replicate_succ,Array.replicate_zero,List.push_toArray,List.append_toArray,List.nil_append,List.cons_append]
 have jM:W.cell? ⟨Ba,0,none⟩=some (.slice A l.length cp):=by simp[World.cell?,OE]
 gi_wp2
 gi_loopw [11] (fun i wr=>∃k:Nat,k<=l.length/\i=.int .i64 k/\J (lL l k) wr/\K W wr)
  (fun i _=>l.length-(intOf i).toNat)
 case atStart=>exact⟨0,Nat.zero_le _,rfl,h0,kl.refl _⟩
 case round=>
  obtain⟨k,hk,rfl,Rl,hKt⟩:=hrel
  by_cases dV:k<l.length
  ·have dw:∃b o,A=some ⟨b,o,none⟩/\wr.cell? ⟨b,o+k*3,none⟩=some (.int .i64 (aV l k).bH.eR)/\wr.cell? ⟨b,o+k*3+1,none⟩=some (.int .i64 (aV l k).bH.eM)/\wr.cell? ⟨b,o+k*3+2,none⟩=some (.int .i64 (aV l k).bx):=by
    obtain⟨A',c',hv,_,hc⟩:=(kl.pl hKt hP).sl
    cases hv
    rcases hc with rfl|⟨b,o,rfl,kE⟩
    ·simp at dV
    ·obtain⟨h1,h2,h3⟩:=kE k dV
     exact⟨b,o,rfl,by simpa using h1,by rw[Nat.add_assoc];exact h2,by rw[Nat.add_assoc];exact h3⟩
   obtain⟨b,o,rfl,hx,TL,ht⟩:=dw
   gi_wp2
   obtain⟨W2,Rt⟩:∃W2,(wr.alloc (.cells #[.int .i64 (aV l k).bH.eR,.int .i64 (aV l k).bH.eM,.int .i64 (aV l k).bx] 171)).alloc (.cells #[.int .i64 1,.int .i64 0] 2)=W2:=⟨_,rfl⟩
   have p7:Below wr.heap.size wr W2:=by rw[<-Rt];exact((Below.refl _ wr).alloc (Nat.le_refl _) _).alloc (by simp) _
   have Ux:W2.heap[wr.heap.size]? =some (.cells #[.int .i64 (aV l k).bH.eR,.int .i64 (aV l k).bH.eM,.int .i64 (aV l k).bx] 171 (0,0)):=by
    rw[<-Rt,Below.heap_alloc _ _ _ (by simp)];exact World.alloc_heap_new _ _
   have Uw:W2.heap[wr.heap.size+1]? =some (.cells #[.int .i64 1,.int .i64 0] 2 (0,0)):=by
    have:=World.alloc_heap_new (wr.alloc (.cells #[.int .i64 (aV l k).bH.eR,.int .i64 (aV l k).bH.eM,.int .i64 (aV l k).bx] 171)) (.cells #[.int .i64 1,.int .i64 0] 2)
    rw[World.size_alloc]at this
    rw[<-Rt];exact this
   have Rm:K W W2:=kl.trans hKt (kl.of p7)
   have Uz:J (lL l k++la l k 0) W2:=by
    have:=hJ _ _ _ none Rl (grown_of p7) (fun r h=>by cases h)
    simpa[la]using this
   rw[Rt]
   clear Rt
   generalize wr=w1 at *
   gi_loopw [18] (fun j wr=>∃m:Nat,m<=2/\j=.int .i64 m/\J (lL l k++la l k m) wr/\K W2 wr)
    (fun j _=>2-(intOf j).toNat)
   case atStart=>exact⟨0,by omega,rfl,Uz,kl.refl _⟩
   case round=>
    obtain⟨m,hm,rfl,hJm,Nw⟩:=hrel
    have Vg:m=0∨m=1∨m=2:=by omega
    by_cases NF:m<2
    ·have hkd:=kl.typed Nw _ _ _ _ Uw (by decide) (by decide)
     have LW:=kl.typed Nw _ _ _ _ Ux (by decide) (by decide)
     have hka:=kl.typed (kl.trans Rm Nw) _ _ _ _ OE (by decide) (by decide)
     have cd:wr.cell? ⟨w1.heap.size+1,m,none⟩=some (.int .i64 (1-(m:Int))):=by
      rw[World.cell?_of_block hkd]
      rcases Vg with rfl|rfl|rfl
      ·simp[World.cell?,Uw]
      ·simp[World.cell?,Uw]
      ·omega
     have ct0:wr.cell? ⟨w1.heap.size,0,none⟩=some (.int .i64 (aV l k).bH.eR):=by rw[World.cell?_of_block LW];simp[World.cell?,Ux]
     have ct1:wr.cell? ⟨w1.heap.size,1,none⟩=some (.int .i64 (aV l k).bH.eM):=by rw[World.cell?_of_block LW];simp[World.cell?,Ux]
     have ca:wr.cell? ⟨Ba,0,none⟩=some (.slice (some ⟨b,o,none⟩) l.length cp):=by rw[World.cell?_of_block hka];simp[World.cell?,OE]
     have hPw:pV wr (.slice (some ⟨b,o,none⟩) l.length cp) l:=kl.pl (kl.trans Rm Nw) hP
     have hba:Ba<wr.heap.size:=by
      have h1:=(Array.getElem?_eq_some_iff.1 OE).1
      have h2:=kl.size (kl.trans Rm Nw)
      omega
     have hdm:gJ (1-(m:Int)) 0 3=true:=jr (by omega)
     have NG:=tu (hA.pt dV)
     have QK:=fun w0=>ER w0 (aV l k).bH (1-(m:Int)) hdm NG.1 NG.2
     have hPd:pV wr.drew (.slice (some ⟨b,o,none⟩) l.length cp) l:=hPw.below ⟨rfl,rfl,rfl,Nat.le_refl _,fun _ _=>rfl⟩
     have cad:wr.drew.cell? ⟨Ba,0,none⟩=some (.slice (some ⟨b,o,none⟩) l.length cp):=ca
     have ctd0:wr.drew.cell? ⟨w1.heap.size,0,none⟩=some (.int .i64 (aV l k).bH.eR):=ct0
     have ctd1:wr.drew.cell? ⟨w1.heap.size,1,none⟩=some (.int .i64 (aV l k).bH.eM):=ct1
     have hfw:=hA.BC
     have RP:=hA.NS
     have Vh:=mixed
     gi_wp2
     gi_region_with_o (first|(refine⟨trivial,?_⟩;gi_at_call 228;refine(callsIn_wide.2 (QK _)).mono ?_;rintro e w3 ⟨rfl,BQ⟩;have ca3:=(BQ.cell (p:=⟨Ba,0,none⟩) hba).trans cad)|(refine⟨trivial,?_⟩;gi_at_call 303;refine(callsIn_wide.2 (xU _ l _ (hPd.below BQ) (bd (aV l k).bH (1-(m:Int))) RP (by omega))).mono ?_;rintro e w4 ⟨rfl,hB4⟩))
     all_goals
      have OD:Below wr.heap.size wr w4:=(show Below wr.heap.size wr wr.drew from⟨rfl,rfl,rfl,Nat.le_refl _,fun _ _=>rfl⟩).trans (BQ.trans (hB4.mono BQ.size))
      have hJ4:J (lL l k++la l k m) w4:=hJ _ _ _ none hJm (grown_of OD) (fun r h=>by cases h)
      have uB:=PE l dV (m:=m+1) (by omega)
      rw[nu,<-List.append_assoc]at uB
      have pD:=nu l k m
      have hw:wrap64 ((m:Int)+1)=((m+1:Nat):Int):=by unfold wrap64;omega
      by_cases zO:0<=eO l (bd (aV l k).bH (1-(m:Int)))
      ·have fB:((eO l (bd (aV l k).bH (1-(m:Int)))).toNat:Int)=eO l (bd (aV l k).bH (1-(m:Int))):=by omega
       rw[Cv,if_pos zO]at uB pD
       obtain⟨fn,tmps,assign,body,hy,hR⟩:=hY _ (k,(eO l (bd (aV l k).bH (1-(m:Int)))).toNat,1-(m:Int)) w4 hJ4 (by
        have:=uB.length_le
        simp only[List.length_append,List.length_cons,List.length_nil]at this ⊢
        omega) ⟨dV,by
        have:eO l (bd (aV l k).bH (1-(m:Int)))<(l.length:Int):=Mf _ _
        show(eO l (bd (aV l k).bH (1-(m:Int)))).toNat<l.length
        omega,by show 0<=1-(m:Int);omega,by show 1-(m:Int)<=1;omega⟩
       simp only[Fy,fB]at hy
       gi_wp2
       refine hR.mono ?_
       rintro e W3 (⟨rfl,hJ3,O1⟩|⟨rfl,hJx3⟩)
       ·gi_wp2
        go_roundw
        case rel=>exact⟨m+1,by omega,by simp,by rw[pD,<-List.append_assoc];exact hJ3,kl.trans (kl.trans Nw (kl.of OD)) O1⟩
        case measure=>simp[intOf];omega
       ·gi_wp2
        refine bodyPost_ret (results_none rfl _ _ _) rfl ?_
        exact⟨⟨_,rfl⟩,.inr ⟨_,uB,hJx3⟩⟩
      ·rw[Cv,if_neg zO,List.append_nil]at pD
       gi_wp2
       refine⟨fun _ h=>(by cases h),?_⟩
       gi_wp2
       go_roundw
       case rel=>exact⟨m+1,by omega,by simp,by rw[pD];exact hJ4,kl.trans Nw (kl.of OD)⟩
       case measure=>simp[intOf];omega
    ·obtain rfl:m=2:=by omega
     have hfw:=hA.BC
     gi_wp2
     go_roundw
     case rel=>exact⟨k+1,by omega,by simp,by rw[mE];exact hJm,kl.trans Rm Nw⟩
     case measure=>simp[intOf];omega
  ·obtain rfl:k=l.length:=by omega
   gi_wp2
   go_end0
   exact⟨⟨_,rfl⟩,.inl ⟨_,rfl,Rl⟩⟩
theorem Ai (n:Nat) (vS:Value) (w:World):CallsIn Fence.wide n Tryz.prog 260 #[.agg #[vS]] w fun e w'=>e=.returned (.func (.func 302) #[] #[.pointer (some ⟨w.heap.size,0,none⟩)])/\w'=w.alloc (.cells #[vS] 42):=by
 refine callsIn_of_wp Tryz.func260 rfl trivial ?_ rfl
 simp only[Tryz.ntmps260,List.size_toArray,List.length_cons,List.length_nil,Nat.reduceAdd,Nat.reduceSub,Array.replicate_succ,Array.replicate_zero,List.push_toArray,List.append_toArray,List.nil_append,List.cons_append]
 gi_wp2
 go_ret
 exact⟨rfl,rfl⟩
abbrev N0 (l:List ae):Type:={x:Nat×Nat×Int // QW l x}
theorem J4 (l:List ae) (hA:kD l) (Ba n:Nat) (hn:1<=n) (vS:Value) (K:World->World->Prop) (kl:Iv K vS l) (w:World) (OE:w.heap[Ba]? =some (.cells #[vS] 42 (0,0))) (hP:pV w vS l):
  SeqStopsK Fence.wide n Tryz.prog 302 #[.pointer (some ⟨Ba,0,none⟩)] (fun x:N0 l=>Fy x.1) K (fun ys=>ys.map (·.1)=lL l l.length) (fun _=>True) (lL l l.length).length w:=fun q J Jx W hW hJ _ hY h0=>by
 refine(Sx l hA q Ba vS K kl (fun ys W=>∃zs:List (N0 l),zs.map (·.1)=ys/\J zs W) (fun ys W=>∃zs:List (N0 l),zs.map (·.1)=ys/\Jx zs W) n hn (fun pre x W1 Uy dV we=>?_) W (fun s A B row ⟨zs,e,h⟩ hg hr=>⟨zs,e,hJ zs A B row h hg hr⟩) ((hW.block Ba (Array.getElem?_eq_some_iff.1 OE).1).trans OE) (hP.below hW) ⟨[],rfl,h0⟩).mono ?_
 ·obtain⟨zs,rfl,h1⟩:=Uy
  refine YieldAt.mono (hY zs ⟨x,we⟩ W1 h1 (by simpa using dV)) ?_
  rintro e W' (⟨h2,h3,h4⟩|⟨h2,h3⟩)
  ·exact .inl ⟨h2,⟨zs++[⟨x,we⟩],by simp,h3⟩,h4⟩
  ·exact .inr ⟨h2,⟨zs++[⟨x,we⟩],by simp,h3⟩⟩
 ·rintro e W' ⟨h1,⟨ys,rfl,zs,h2,h3⟩|⟨pre,_,zs,h2,h3⟩⟩
  ·exact⟨h1,.inl ⟨zs,h2,h3⟩⟩
  ·exact⟨h1,.inr ⟨zs,trivial,h3⟩⟩
def zt (s:au) (l:List ae) (x:Nat×Nat×Int):List PB:=if 0<gS s (aV l x.1).bx x.2.2 (aV l x.2.1).bx then[⟨x.1,x.2.1,gS s (aV l x.1).bx x.2.2 (aV l x.2.1).bx⟩]else[]
theorem IU (s:au) (l:List ae):da s l=(lL l l.length).flatMap (zt s l):=by
 have h1:∀i d,nf s l i d=(Cv l i d).flatMap (zt s l):=fun i d=>by
  unfold nf Cv
  by_cases h:0<=eO l (bd (aV l i).bH d)
  ·rw[if_pos h]
   simp only[List.flatMap_cons,List.flatMap_nil,List.append_nil,zt]
   by_cases h2:0<gS s (aV l i).bx d (aV l (eO l (bd (aV l i).bH d)).toNat).bx
   ·rw[if_pos ⟨h,h2⟩,if_pos h2]
   ·rw[if_neg fun hc=>h2 hc.2,if_neg h2]
  ·rw[if_neg h,if_neg fun hc=>h hc.1];rfl
 unfold da gK lL
 rw[List.flatMap_assoc]
 congr 1
 funext i
 unfold gj la
 rw[List.flatMap_assoc]
 congr 1
 funext j
 exact h1 i _
section
variable {F:Fence} {n:Nat} {P:Program} {ops:Array Oper} {Q:Exit->Act->World->Prop} {rest:List Oper} {a:Act} {w:World} {o:Oper}
theorem Fc (hg:o.guard=none) (m:Operand) (t:TypeId) (dK:o.op=Op.range t m) {v:Value} {w':World} (gD:(Instr.range t (a.eval m)).run P w=.ok v w') (h:wpListIn F n P ops Q rest (a.put o.dst v) w'):wpListIn F n P ops Q (o::rest) a w:=by
 refine wpListIn_plain hg fun K' Td=>?_
 unfold Oper.wpIn
 refine⟨by simp[Oper.about,dK],?_⟩
 rw[Oper.semAt_plain F _ _ (by rw[dK];intro c kz;cases kz)]
 simp[execOp,dK,gD,Result.andThen]
 exact Td _ _ h
theorem H3 (hg:o.guard=none) (it:Operand) (dK:o.op=Op.next it false) (rr b clock:Nat) (seen:Array Nat) (es:Array MapEntry) (Qy:a.eval it=.pointer (some ⟨rr,0,none⟩)) (hr:w.heap[rr]? =some (.mapIter (some b) clock seen clock)) (hb:w.heap[b]? =some (.map es clock)) (dQ:Gp es clock)
  (Ri:(leftOf es seen).toList=[]->wpListIn F n P ops Q rest (a.put o.dst (.tuple #[.bool false])) w)
  (Rp:∀e∈(leftOf es seen).toList,∀w',w'.heap[rr]? =some (.mapIter (some b) clock (seen.push e.born) clock)->w'.heap[b]? =some (.map es clock)->w.grownBy w' (some rr)->w'.heap.size=w.heap.size->(Instr.entry (.pointer (some ⟨rr,0,none⟩))).run P w'=.ok (.tuple #[e.key,e.val]) w'->wpListIn F n P ops Q rest (a.put o.dst (.tuple #[.bool true,e.key,e.val])) w'):
  wpListIn F n P ops Q (o::rest) a w:=by
 refine wpListIn_plain hg fun K' Td=>?_
 unfold Oper.wpIn
 refine⟨by simp[Oper.about,dK],?_⟩
 rw[Oper.semAt_plain F _ _ (by rw[dK];intro c kz;cases kz)]
 rcases run_next_at (P:=P) w o.type rr b clock clock seen es clock hr hb dQ.1 (Nat.le_refl _)with⟨h0,gD⟩|⟨e,he,w1,o3,gD⟩
 ·simp[execOp,dK,Qy,gD,Result.andThen]
  exact Td _ _ (Ri (List.eq_nil_of_length_eq_zero (by simpa using h0)))
 ·have L4:w1.heap[rr]? =some (.mapIter (some b) clock seen clock):=by rcases o3 with rfl|rfl<;>exact hr
  have dW:=MapKept.heap_set (o':=.mapIter (some b) clock (seen.push e.born) clock) L4
  obtain⟨w2,wh⟩:∃w2,ChangeMaps.setBlock w1 rr (.mapIter (some b) clock (seen.push e.born) clock)=w2:=⟨_,rfl⟩
  have ho:∀k,k≠rr->w2.heap[k]? =w.heap[k]? :=fun k hk=>by
   rw[<-wh]
   refine(dW.2 k hk).trans ?_
   rcases o3 with rfl|rfl<;>rfl
  have hz:w2.heap.size=w.heap.size:=by
   rw[<-wh]
   rcases o3 with rfl|rfl<;>simp[ChangeMaps.setBlock]
  have AW:w2.heap[rr]? =some (.mapIter (some b) clock (seen.push e.born) clock):=by rw[<-wh];exact dW.1
  have zR:w2.os=w.os/\w2.tape=w.tape/\w2.output=w.output:=by
   rw[<-wh]
   rcases o3 with rfl|rfl<;>exact⟨rfl,rfl,rfl⟩
  have UQ:b≠rr:=fun e=>by subst e;rw[hr]at hb;cases hb
  have BR:w2.heap[b]? =some (.map es clock):=(ho b UQ).trans hb
  have DW:=run_entry_at (P:=P) w2 rr b clock seen es clock e AW BR (mem_left he).1 dQ.2
  rw[wh]at gD
  simp[execOp,dK,Qy,gD,Result.andThen]
  exact Td _ _ (Rp e he w2 AW BR ⟨zR.1,zR.2.1,zR.2.2,by omega,fun k _ hk=>ho k fun e=>hk (by rw[e])⟩ hz DW)
end
def rR (p:ah):Value:=.agg #[.int .i64 p.eR,.int .i64 p.eM]
def Et (es:Array MapEntry) (rr:Nat) (w:World):Nat:=match w.heap[rr]? with
 |some (.mapIter _ _ seen _)=>(leftOf es seen).size
 |_=>0
theorem yQ {es:Array MapEntry} {rr b clock:Nat} {seen:Array Nat} {w:World} (h:w.heap[rr]? =some (.mapIter (some b) clock seen clock)):Et es rr w=(leftOf es seen).size:=by unfold Et;rw[h]
theorem Hn {es:Array MapEntry} {clock:Nat} {seen:Array Nat} {e:MapEntry} (hs:Gp es clock) (he:e∈(leftOf es seen).toList):((e.key::(leftOf es (seen.push e.born)).toList.map (·.key)).Perm ((leftOf es seen).toList.map (·.key)))/\(leftOf es (seen.push e.born)).size+1=(leftOf es seen).size:=by
 obtain⟨i,hi,G1⟩:=List.getElem_of_mem he
 have h2:=Eu hs (i:=i) (e:=e) (seen:=seen) (by rw[List.getElem?_eq_getElem hi,G1])
 have hp:=wO (l:=(leftOf es seen).toList) (i:=i) (x:=e) (by rw[List.getElem?_eq_getElem hi,G1])
 rw[h2]
 refine⟨by simpa using hp.map fun e:MapEntry=>e.key,?_⟩
 have h3:=congrArg List.length h2
 have h4:=hp.length_eq
 simp only[Array.length_toList,List.length_cons]at h3 h4
 rw[<-h3]at h4;exact h4
theorem GJ {a b:List ah} (h:(a.map rR).Perm (b.map rR)):a.Perm b:=by
 have h2:=h.map (fun v:Value=>match v with| .agg ⟨[.int _ x,.int _ y]⟩=>(⟨x,y⟩:ah)|_=>⟨0,0⟩)
 simpa[List.map_map,Function.comp_def,rR]using h2
theorem JL (q Bm b:Nat) (es:Array MapEntry) (clock:Nat) (dQ:Gp es clock) (ks:List ah) (hk:es.toList.map (·.key)=ks.map rR) (J Jx:List ah->World->Prop) (n:Nat) (hn:1<=n)
  (hY:∀pre x W,J pre W->pre.length<ks.length->YieldAt Fence.wide (n-1) Tryz.prog q #[rR x] W fun e W'=>
   (e=.returned (.bool true)/\J (pre++[x]) W'/\KeepsWalks W W')∨(e=.returned (.bool false)/\Jx (pre++[x]) W'))
  (W:World) (hJ:AbidesFrom W.heap.size J) (hm:W.cell? ⟨Bm,0,none⟩=some (.map (some b))) (hb:W.heap[b]? =some (.map es clock)) (h0:J [] W):
  CallsIn Fence.wide n Tryz.prog 232 #[.func (.yield q) #[] #[],.pointer (some ⟨Bm,0,none⟩)] W fun e W'=>(∃v,e=.returned v)/\
   ((∃ss:List ah,ss.Perm ks/\J ss W')∨(∃pre,Jx pre W')):=by
 refine callsIn_of_wp Tryz.func232 rfl trivial ?_ rfl
 simp only[Tryz.ntmps232,List.size_toArray,List.length_cons,List.length_nil,Nat.reduceAdd,Nat.reduceSub,Array.replicate_succ,Array.replicate_zero,List.push_toArray,List.append_toArray,List.nil_append,List.cons_append]
 have hrg:=fun(wx:World) (h:wx.heap[b]? =some (.map es clock))=>run_range_map (P:=Tryz.prog) wx 149 _ _ b es clock Tryz.underlying149 h
 gi_wp2_with (first
  |(refine Fc rfl _ _ rfl (hrg _ hb) ?_)
  |gi_in)
 have oe:b<W.heap.size:=(Array.getElem?_eq_some_iff.1 hb).1
 have Uy:J [] (W.alloc (.mapIter (some b) clock #[] clock)):=hJ _ _ _ none h0 (grown_of ((Below.refl _ W).alloc (Nat.le_refl _) _)) (fun r h=>by cases h)
 have L4:(W.alloc (.mapIter (some b) clock #[] clock)).heap[W.heap.size]? =some (.mapIter (some b) clock #[] clock):=World.alloc_heap_new _ _
 have H9:(W.alloc (.mapIter (some b) clock #[] clock)).heap[b]? =some (.map es clock):=(Below.heap_alloc _ _ _ oe).trans hb
 go_frame
 gi_loopw [3] (fun _ wr=>∃(seen:Array Nat) (ss:List ah),wr.heap[W.heap.size]? =some (.mapIter (some b) clock seen clock)/\wr.heap[b]? =some (.map es clock)/\(ss.map rR++(leftOf es seen).toList.map (·.key)).Perm (ks.map rR)/\J ss wr)
  (fun _ wr=>Et es W.heap.size wr)
 case atStart=>
  exact⟨#[],[],L4,H9,by rw[<-hk,show(leftOf es #[]).toList=es.toList by simp[leftOf]];exact List.Perm.refl _,Uy⟩
 case round=>
  obtain⟨seen,ss,hr,UQ,hp,Rl⟩:=hrel
  gi_wp2_with (first
   |(refine H3 rfl _ rfl W.heap.size b clock seen es rfl hr UQ dQ ?_ ?_)
   |gi_in)
  ·intro QB
   gi_wp2
   go_end0
   rw[QB]at hp
   exact⟨⟨_,rfl⟩,.inl ⟨ss,GJ (by simpa using hp),Rl⟩⟩
  ·intro e he0 w2 AW BR OS kK DW
   have he:e∈(leftOf es seen).toList:=by simpa using he0
   obtain⟨B3,dV⟩:=Hn dQ he
   obtain⟨x,hx⟩:∃x,e.key=rR x:=by
    have h1:e.key∈es.toList.map (·.key):=List.mem_map_of_mem (mem_left he).1
    rw[hk]at h1
    obtain⟨x,_,hx⟩:=List.mem_map.1 h1
    exact⟨x,hx.symm⟩
   have Uz:J ss w2:=hJ ss wr w2 (some W.heap.size) Rl OS (fun r e=>by cases e;exact⟨Nat.le_refl _,_,hr,rfl⟩)
   have hlen:ss.length<ks.length:=by
    have h1:=hp.length_eq
    have h2:0<(leftOf es seen).toList.length:=List.length_pos_of_mem he
    simp only[List.length_append,List.length_map]at h1
    omega
   obtain⟨fn,tmps,assign,body,hy,hR⟩:=hY ss x (w2.alloc (.cells #[.int .i64 x.eR,.int .i64 x.eM] 123)) (hJ _ _ _ none Uz (grown_of ((Below.refl _ w2).alloc (Nat.le_refl _) _)) (fun r h=>by cases h)) hlen
   rw[hx]at DW ⊢
   simp only[rR]at DW hy ⊢
   gi_wp2
   refine hR.mono ?_
   rintro e3 W3 (⟨rfl,hJ3,O1⟩|⟨rfl,hJx3⟩)
   ·gi_wp2
    have Jj:=KeepsWalks.alloc w2 (.cells #[.int .i64 x.eR,.int .i64 x.eM] 123)
    have hr3:=O1.same _ _ (Jj.same _ _ AW rfl) rfl
    have hb3:=O1.same _ _ (Jj.same _ _ BR rfl) rfl
    go_roundw
    case rel=>
     refine⟨_,ss++[x],hr3,hb3,?_,hJ3⟩
     rw[List.map_append,List.append_assoc]
     refine List.Perm.trans ?_ hp
     rw[hx]at B3
     exact B3.append_left _
    case measure=>rw[yQ hr3,yQ hr];omega
   ·gi_wp2
    refine bodyPost_ret (results_none rfl _ _ _) rfl ?_
    exact⟨⟨_,rfl⟩,.inr ⟨_,hJx3⟩⟩
theorem Ej (Bm b:Nat) (es:Array MapEntry) (clock:Nat) (dQ:Gp es clock) (ks:List ah) (hk:es.toList.map (·.key)=ks.map rR) (n:Nat) (hn:1<=n) (w:World) (Um:Bm<w.heap.size) (hm:w.cell? ⟨Bm,0,none⟩=some (.map (some b))) (hb:w.heap[b]? =some (.map es clock)):
  SeqStopsK Fence.wide n Tryz.prog 232 #[.pointer (some ⟨Bm,0,none⟩)] (fun x:ah=> #[rR x]) KeepsWalks (fun ss=>ss.Perm ks) (fun _=>True) ks.length w:=fun q J Jx W hW hJ _ hY h0=>by
 refine(JL q Bm b es clock dQ ks hk J Jx n hn hY W hJ ((hW.cell (p:=⟨Bm,0,none⟩) Um).trans hm) ((hW.block b (Array.getElem?_eq_some_iff.1 hb).1).trans hb) h0).mono ?_
 rintro e W' ⟨h1,⟨ss,h2,h3⟩|⟨pre,h3⟩⟩
 ·exact⟨h1,.inl ⟨ss,h2,h3⟩⟩
 ·exact⟨h1,.inr ⟨pre,trivial,h3⟩⟩
def NQ (ps:List ah):List Value:=ps.flatMap fun p=>[.int .i64 p.eR,.int .i64 p.eM]
theorem Kg (ps:List ah) (p:ah):NQ (ps++[p])=NQ ps++[.int .i64 p.eR,.int .i64 p.eM]:=by simp[NQ]
theorem ML {ps:List ah} {i j:Nat} {p:ah} (h:ps[i]? =some p) (hj:j<2):(NQ ps)[i*2+j]? =([.int .i64 p.eR,.int .i64 p.eM]:List Value)[j]? :=by
 induction ps generalizing i with
 |nil=>simp at h
 |cons q r ih=>
  cases i with
  |zero=>
   simp at h;subst h
   match j,hj with
   |0,_=>rfl
   |1,_=>rfl
  |succ i=>
   simp only[List.getElem?_cons_succ]at h
   have:=ih h
   have e:(i+1)*2+j=i*2+j+2:=by omega
   rw[e]
   simpa[NQ]using this
theorem cell_two_new (W:World) (T:TypeId) (x y:Value):∀(j:Nat) (u:Value),[x,y][j]? =some u->(W.alloc (.cells #[x,y] T)).cell? ((⟨W.heap.size,0,none⟩:Addr).add j)=some u:=fun j u h=>by
 have hb:(W.alloc (.cells #[x,y] T)).heap[W.heap.size]? =some (.cells #[x,y] T (0,0)):=World.alloc_heap_new _ _
 have e:∀k,(W.alloc (.cells #[x,y] T)).cell? ⟨W.heap.size,k,none⟩=(#[x,y]:Array Value)[k]? :=fun k=>by
  unfold World.cell?
  rw[show(W.alloc (.cells #[x,y] T)).heap[(⟨W.heap.size,k,none⟩:Addr).block]? = _ from hb]
  rfl
 rw[show(⟨W.heap.size,0,none⟩:Addr).add j=⟨W.heap.size,j,none⟩ by simp[Addr.add];exact fun h=>h.symm,e]
 simpa using h
theorem Pu:(Tryz.prog.info? 123).map (fun i=>(i.zero,i.size,i.bytes))=some (some (.agg #[.int .i64 0,.int .i64 0]),2,16):=by kernel_rfl
theorem GX {β:Type} (B:Nat) (c:Array Value) (t:TypeId) (fr:Nat×Nat):Own (fun(_:β) W=>W.heap[B]? =some (.cells c t fr)):=fun _ X _ row h hg hr=>(hg.block B (Array.getElem?_eq_some_iff.1 h).1 (fun e=>by
 obtain⟨o,ho,hc⟩:=hr B e.symm
 rw[h]at ho;cases ho;cases hc)).trans h
theorem zo (Bm b:Nat) (es:Array MapEntry) (clock:Nat) (dQ:Gp es clock) (ks:List ah) (hk:es.toList.map (·.key)=ks.map rR) (hl:ks.length<=1000000) (w:World) (Um:Bm<w.heap.size) (hm:w.cell? ⟨Bm,0,none⟩=some (.map (some b))) (hb:w.heap[b]? =some (.map es clock)):
  CallsIn Fence.wide 5 Tryz.prog 282 #[.slice none 0 0,.func (.func 232) #[] #[.pointer (some ⟨Bm,0,none⟩)]] w fun e W'=>∃(ss:List ah) (v:Value),ss.Perm ks/\e=.returned v/\W'.ownsRow w.heap.size 123 2 v ss.length (NQ ss)/\(v=.slice none 0 0↔ss=[])/\Below w.heap.size w W':=by
 obtain⟨i0,hi,FO,yJ,kK⟩:=info_parts Pu
 refine callsIn_of_wp_marks Tryz.func282 rfl trivial ?_ rfl
 simp only[Tryz.ntmps282,List.size_toArray,List.length_cons,List.length_nil,Nat.reduceAdd,Nat.reduceSub,Array.replicate_succ,Array.replicate_zero,List.push_toArray,List.append_toArray,List.nil_append,List.cons_append]
 gi_wp2
 have bO:=Boxed.new w 89 (.slice none 0 0)
 have xt:Below w.heap.size w (w.alloc (.cells #[.slice none 0 0] 89)):=(Below.refl _ w).alloc (Nat.le_refl _) _
 have fh:(w.alloc (.cells #[.slice none 0 0] 89)).heap.size=w.heap.size+1:=by simp
 obtain⟨W0,Rs⟩:∃W0,w.alloc (.cells #[.slice none 0 0] 89)=W0:=⟨_,rfl⟩
 rw[Rs]at bO xt fh ⊢
 clear Rs
 have Vg:W0.cell? ⟨Bm,0,none⟩=some (.map (some b)):=(xt.cell (p:=⟨Bm,0,none⟩) Um).trans hm
 have DS:=(xt.block b (Array.getElem?_eq_some_iff.1 hb).1).trans hb
 refine wpIn_rangeFunc_ownH (n:=5) rfl (by omega) (gf:=232) (lb:= #[.pointer (some ⟨Bm,0,none⟩)]) rfl trivial (enters_of Tryz.func232 (by kernel_rfl) rfl)
  (Ej Bm b es clock dQ ks hk (5-1) (by omega) W0 (by omega) Vg DS) walksK_t (walksK_b (w:=W0)) (Below.refl _ _) (fun _=>rfl)
  (fun pre W=>(∃v,Boxed W w.heap.size 89 v/\W.ownsRow w.heap.size 123 2 v pre.length (NQ pre)/\(v=.slice none 0 0↔pre=[]))/\Below w.heap.size w W)
  (fun _ _ _=>False)
  (OwnFrom.and (Own.from (holdsRow_own w.heap.size w.heap.size 89 123 2 (fun pre=>pre.length) (fun pre=>NQ pre) (fun pre v=>v=.slice none 0 0↔pre=[])) _) (ownFrom_below (Nat.le_refl _) (by omega)))
  (fun _ _ _ _ _ hs _ _=>hs)
  ⟨⟨_,bO,World.ownsRow_nil _ _ _ _,by simp⟩,xt⟩
  (fun x a' W=>∃Bx,w.heap.size<Bx/\W.heap[Bx]? =some (.cells #[.int .i64 x.eR,.int .i64 x.eM] 123 (0,0))/\a'={tmps:= #[.slice none 0 0,.func (.func 232) #[] #[.pointer (some ⟨Bm,0,none⟩)],.pointer (some ⟨w.heap.size,0,none⟩),undef,.slice none 0 0,.pointer (some ⟨Bx,0,none⟩),.func (.func 232) #[] #[.pointer (some ⟨Bm,0,none⟩)],.agg #[.int .i64 x.eR,.int .i64 x.eM],undef,undef,undef,undef,undef],defers:=[]})
  (fun x a' _ X Y row hs hg hr=>by obtain⟨Bx,h1,h2,h3⟩:=hs;exact⟨Bx,h1,GX Bx _ _ _ () X Y row h2 hg (fun r e=>(hr r e).2),h3⟩)
  ?assign ?body ?done ?stop
 case assign=>
  rintro q pre x W K ⟨⟨v,hv,fe,hnil⟩,hB⟩ hK
  simp only[rR]
  gi_wp2
  exact hK _ _ ((KeepsOthers.alloc _ _).from _) (KeepsWalks.alloc _ _) ⟨⟨v,hv.alloc _,fe.alloc _,hnil⟩,hB.alloc hB.size _⟩ ⟨W.heap.size,hv.lt,World.alloc_heap_new _ _,rfl⟩
 case body=>
  rintro q pre x a' W hq hqr ⟨⟨v,hv,fe,hnil⟩,hB⟩ ⟨Bx,hBx,bX,rfl⟩ dV
  have hc:=hv.cell
  have Uc:W.cell? ⟨Bx,0,none⟩=some (.int .i64 x.eR):=by simp[World.cell?,bX]
  have Ud:W.cell? ⟨Bx,1,none⟩=some (.int .i64 x.eM):=by simp[World.cell?,bX]
  have Vm:=hB.size
  gi_wp2_with (gi_at_builtin;refine wpListIn_append_own _ rfl _ _ 89 rfl w.heap.size 123 i0 (.agg #[.int .i64 0,.int .i64 0]) 2 16 (by kernel_rfl) hi FO yJ kK rfl (by decide) _ _ _ rfl (fe.alloc _) ⟨W.heap.size,0,none⟩ 1 1 [.int .i64 x.eR,.int .i64 x.eM] rfl rfl (cell_two_new _ _ _ _) (by simp[Value.oneCell']) (by unfold maxLen;omega) (by omega) (by simp;omega) ?_;intro v' w4 BZ yy _;obtain⟨g',Ue,rfl⟩:=ownsRow_succ BZ;obtain⟨wg,L9,AW,tg,BR⟩:=hv.appended (by decide) fe Vm (by omega) BZ yy;have p9:=wg.cell;have U0:=wg.frozen)
  exact⟨tg.from _,⟨tg.size,fun k o hk hw=>tg.same k o hk (Obj.not_cells_of_walk hw)⟩,⟨⟨_,L9,by rw[Kg,List.length_append];exact AW,by simp⟩,hB.trans BR⟩⟩
 case done=>
  rintro D ys W hD Dc ⟨⟨v,hv,fe,hnil⟩,hB⟩ hK
  have hc:=hv.cell
  gi_wp2
  refine⟨by simp,.inl ⟨_,_,rfl,run_takeDeferred hK,?_⟩⟩
  exact⟨_,results_tmp rfl _ _ _,ys,v,Dc,rfl,ownsRow_putObj fe _ hK rfl,hnil,hB.trans (belowK_b (w:=w) (Nat.le_refl _) W D _ _ (by omega) hK rfl rfl)⟩
 case stop=>
  rintro D c pre W _ _ h _
  exact h.elim
end Go.Proofs.YtgoljkjaameagaaGreat.V

namespace Go.Proofs.YtgoljkjaameagaaGreat.V
open Go.RowKit Go.Shelf Go.Lib Go.Sort
instance:Inhabited ah:=⟨⟨0,0⟩⟩
variable {P:Program} {w:World} {D:Nat->Prop} {ι:Names}
theorem wW {vs:Array Value} (h:fo P w D ι [] vs):vs= #[]:=Array.eq_empty_of_size_eq_zero h.1
theorem kT {a:AV} {r:List AV} {vs:Array Value} (h:fo P w D ι (a::r) vs):∃u us,vs=(u::us).toArray/\dh P w D ι a u/\fo P w D ι r us.toArray:=by
 obtain⟨h1,h2⟩:=h
 obtain⟨l⟩:=vs
 cases l with
 |nil=>simp at h1
 |cons u us=>
  obtain⟨u',hu,hr⟩:=h2 0 a rfl
  simp at hu;subst hu
  exact⟨u,us,rfl,hr,by simpa using h1,fun j b hj=>by
   obtain⟨v,hv,lU⟩:=h2 (j+1) b (by simpa using hj)
   exact⟨v,by simpa using hv,lU⟩⟩
def Nn:Prop:=∀(ye off cap:Nat) (d:Array ah) (w:World),HoldsK fN 2 w ye off d->ye<w.heap.size->d.size<4611686018427387904->
 Calls Tryz.prog 231 #[.slice (some ⟨ye,off,none⟩) d.size cap,.func (.func 154) #[] #[]] w fun e w'=>e=.returned (.tuple #[])/\∃d' n os,PermIn 0 d.size d d'/\SortedIn (ltOf pW) 0 d.size d'/\w'=sortWorldK fN 2 w ye off n d' os
def Np:Prop:=∀(p:Option Addr) (cap:Nat) (fv:Value) (w:World),Calls Tryz.prog 231 #[.slice p 0 cap,fv] w fun e w'=>e=.returned (.tuple #[])/\w'=w
theorem LD (p:ah) (j:Nat) (a:AV) (h:(ab p)[j]? =some a) (P:Program) (w:World) (D:Nat->Prop) (ι:Names):dh P w D ι a (fN p)[j]! :=by
 match j,h with
 |0,h=>simp[ab]at h;subst h;exact .eS _ _ (.int _ _)
 |1,h=>simp[ab]at h;subst h;exact .eS _ _ (.int _ _)
 |j+2,h=>simp[ab]at h
theorem HI (hC:Nn) (hN:Np) (ps:List ah) (hlen:ps.length<=1048576) (σ:ax) (id:Id) (hg:σ.get id=some ⟨true,2,ps.map ab⟩):
  Call Tryz.prog 231 [.own id 0 ps.length,.fn 154 []] σ fun r σ'=>σ'.next=σ.next/\(∀x,x≠id->σ'.get x=σ.get x)/\∃qs,σ'.get id=some ⟨true,2,qs.map ab⟩/\qs.length=ps.length/\(∀x,x∈qs↔x∈ps)/\∀i j:Nat,i<j->j<qs.length->kO (jG qs j) (jG qs i)=false:=by
 refine fP fun hs D ι w vs S U A=>?_
 obtain⟨u1,us1,rfl,h1,h2⟩:=kT A
 obtain⟨u2,us2,h3,h4,h5⟩:=kT h2
 simp at h3;subst h3
 have:=wW h5
 simp at this;subst this
 obtain⟨o,cap,B,rfl,hB,DU,ho,tf,hmax,hk⟩:=iT h1
 obtain⟨VO,gf,rfl,_,hz,_,_⟩:=wY h4
 have hz':VO= #[]:=Array.eq_empty_of_size_eq_zero (by simpa using hz)
 subst hz'
 by_cases h0:ps=[]
 ·subst h0
  refine(hN _ _ _ w).mono ?_
  rintro e w' ⟨rfl,rfl⟩
  exact⟨.iD [],σ.get,σ.next,D,ι,_,rfl,⟨rfl,fun _ _=>rfl,[],hg,rfl,fun x=>Iff.rfl,fun i j _ hj=>by simp at hj⟩,Step.refl _ _ _ _,S,U,Nat.le_refl _,.iD [] #[] (fun _=>Go.undef) rfl (fun j hj=>by simp at hj) (fun j a h=>by simp at h)⟩
 have lJ:0<ps.length:=List.length_pos_iff.2 h0
 obtain⟨B',dH,R,ke,mh⟩:=S.row id _ hg
 rw[hB]at dH;injection dH with dH;subst dH
 replace R:=R.row hk
 have fh:B.sz=2:=R.sz
 have C9:o=0:=by rcases ho with h|h<;>omega
 subst C9
 obtain⟨cur,T,hblk,dw,AS⟩:=R.cur
 have BU:ps.length*2<=B.C:=by simpa using R.fits
 have hH:HoldsK fN 2 w B.b 0 ps.toArray:=by
  intro t ht
  rw[size_flatK]at ht
  have ht2:t<ps.length*2:=by simpa using ht
  have hi:t / 2<ps.length:=by omega
  have C5:w.frozen? ⟨B.b,0+t,none⟩=false:=by
   simp only[World.frozen?,hblk];simp
  refine⟨?_,C5⟩
  rw[get_flatK _ _ _ _ ht]
  have hd:(ps.toArray)[t / 2]! =ps[t / 2]:=by simp[getElem!_pos,hi]
  rw[hd]
  have hj:t % 2=0∨t % 2=1:=by omega
  have ht3:0+t=(t / 2)*2+t % 2:=by omega
  rw[ht3]
  rcases hj with hj|hj
  ·obtain⟨v,hv,hr⟩:=R.at_ (t / 2) 0 (ab ps[t / 2]) _ (by simp[hi]) rfl
   rw[dt hr]at hv
   rw[hj];exact hv
  ·obtain⟨v,hv,hr⟩:=R.at_ (t / 2) 1 (ab ps[t / 2]) _ (by simp[hi]) rfl
   rw[dt hr]at hv
   rw[hj];exact hv
 have oe:B.b<w.heap.size:=(Array.getElem?_eq_some_iff.1 hblk).1
 have Ry:=hC B.b 0 cap ps.toArray w hH oe (by simp;omega)
 rw[show ps.toArray.size=ps.length from by simp]at Ry
 refine Ry.mono ?_
 rintro e w' ⟨rfl,d',m,os,⟨Lc,_,hperm⟩,hsort,rfl⟩
 have RE:d'.size=ps.length:=by rw[Lc];simp
 have TB:d'.toList.length=ps.length:=by simpa using RE
 have hP:d'.toList.Perm ps:=by
  have e1:d'.extract 0 ps.length=d':=by rw[<-RE];exact Array.extract_size
  have e2:ps.toArray.extract 0 ps.length=ps.toArray:=by
   have:ps.length=ps.toArray.size:=by simp
   rw[this];exact Array.extract_size
  rw[e1,e2]at hperm
  simpa using hperm
 have hF:∀t,t<ps.length*2->(flatK fN 2 d')[t]! =(fN d'[t / 2]!)[t % 2]! :=fun t ht=>get_flatK _ _ _ _ (by rw[RE];exact ht)
 have hFs:(flatK fN 2 d').size=ps.length*2:=by rw[size_flatK,RE]
 have hw:sortWorldK fN 2 w B.b 0 m d' os=Go.Sort.grow (Go.Sort.putRow (fun v:Value=>v) (Go.Sort.ahead w m) B.b 0 (flatK fN 2 d')) os:=rfl
 rw[hw]
 clear hw hH
 generalize flatK fN 2 d'=Fl at hF hFs ⊢
 have rY:=S.put (r':=⟨true,2,d'.toList.map ab⟩) (cur':=Go.Sort.putCells (fun v:Value=>v) 0 Fl cur) hg rfl hB hblk (by simp[Go.Sort.putCells]) rfl rfl (by simpa[RE]using BU) (fun cs dw=>by
   obtain⟨x,_,rfl⟩:=List.mem_map.1 dw;rfl) (fun cs dw a ha=>by
   obtain⟨x,_,rfl⟩:=List.mem_map.1 dw
   simp[ab]at ha;rcases ha with rfl|rfl<;>rfl) (fun i j cs a hi hj=>by
   have yz:i<d'.toList.length:=by
    have:=(List.getElem?_eq_some_iff.1 hi).1
    simpa using this
   have O0:j<2:=by
    have:=List.mem_of_getElem? hi
    obtain⟨x,_,rfl⟩:=List.mem_map.1 this
    exact(List.getElem?_eq_some_iff.1 hj).1
   have UT:cs=ab d'[i]! :=by
    rw[List.getElem?_map,List.getElem?_eq_getElem yz]at hi
    simp at hi
    rw[<-hi,getElem!_pos d' i (by simpa using yz)]
   subst UT
   have Ih:i*2+j<ps.length*2:=by omega
   refine⟨(fN d'[i]!)[j]!,?_,LD _ _ _ hj _ _ _ _⟩
   have og:i*2+j<cur.size:=by rw[dw];omega
   show(Go.Sort.putCells (fun v:Value=>v) 0 Fl cur)[i*2+j]? = _
   simp only[Go.Sort.putCells,Array.getElem?_mapIdx,Array.getElem?_eq_getElem og,Option.map_some]
   rw[if_pos ⟨Nat.zero_le _,by rw[hFs];omega⟩,Nat.sub_zero,hF _ Ih,show(i*2+j) / 2=i from by omega,show(i*2+j) % 2=j from by omega])
 obtain⟨S1,N2⟩:=rY
 have L6:(Go.Sort.putRow (fun v:Value=>v) (Go.Sort.ahead w m) B.b 0 Fl).heap.size=w.heap.size:=by simp
 have NC:∀k,k<(w.setRow B.b (Go.Sort.putCells (fun v:Value=>v) 0 Fl cur)).heap.size->(Go.Sort.grow (Go.Sort.putRow (fun v:Value=>v) (Go.Sort.ahead w m) B.b 0 Fl) os).heap[k]? =(w.setRow B.b (Go.Sort.putCells (fun v:Value=>v) 0 Fl cur)).heap[k]? :=fun k hk=>by
  have Jv:k<w.heap.size:=by simpa using hk
  rw[heap_grow_old _ _ (by rw[L6];exact Jv)]
  simp only[Go.Sort.putRow,Go.Sort.mapBlock,heap_ahead,Array.getElem?_modify]
  by_cases Vd:B.b=k
  ·subst Vd
   rw[setRow_heap w B.b cur _ T _ hblk,if_pos rfl,hblk];rfl
  ·rw[if_neg Vd,setRow_other w B.b k _ (fun h=>Vd h.symm)]
 have kK:(w.setRow B.b (Go.Sort.putCells (fun v:Value=>v) 0 Fl cur)).heap.size<=(Go.Sort.grow (Go.Sort.putRow (fun v:Value=>v) (Go.Sort.ahead w m) B.b 0 Fl) os).heap.size:=by
  rw[size_grow,L6];simp
 have S2:=S1.stay (D':=D) (ι':=ι) NC kK (fun _ h=>h) (fun b hb=>Nat.lt_of_lt_of_le (S1.dead b hb) kK) (fun _ h=>.inl h) (fun _ _ h=>h)
 have N3:=N2.trans (Step.stay (D':=D) (ι':=ι) S1 NC kK (by simp[Go.Sort.grow,Go.Sort.putRow,Go.Sort.mapBlock,Go.Sort.ahead]) (by simp[Go.Sort.grow,Go.Sort.putRow,Go.Sort.mapBlock,Go.Sort.ahead]) (by simp[Go.Sort.grow,Go.Sort.putRow,Go.Sort.mapBlock,Go.Sort.ahead]) (fun _ h=>h) (fun _ h=>.inl h) (fun _ _ h=>h))
 refine⟨.iD [],bR σ.get id ⟨true,2,d'.toList.map ab⟩,σ.next,D,ι,_,rfl,⟨rfl,fun x hx=>by simp[bR,hx],d'.toList,by simp[bR],TB,fun x=>hP.mem_iff,fun i j D6 hj=>?_⟩,N3,S2,U,Nat.le_refl _,.iD [] #[] (fun _=>Go.undef) rfl (fun j hj=>by simp at hj) (fun j a h=>by simp at h)⟩
 have h:=hsort i j (Nat.zero_le _) D6 (by omega)
 rw[ltOf,ni]at h
 have e1:d'[j]! =jG d'.toList j:=by rw[jU hj,getElem!_pos d' j (by simpa using hj)];rfl
 have hi:i<d'.toList.length:=by omega
 have e2:d'[i]! =jG d'.toList i:=by rw[jU hi,getElem!_pos d' i (by simpa using hi)];rfl
 rw[<-e1,<-e2];exact h
end Go.Proofs.YtgoljkjaameagaaGreat.V

namespace Go.Proofs
open Go.Shelf
def Tryz.EP:Go.Shelf.Ren:=⟨fun|6=>231|15=>209|14=>283|28=>271|29=>272|20=>311|21=>312|22=>313|23=>314|24=>315|25=>316|26=>317|27=>318|46=>331|47=>307|48=>308|49=>332|50=>333|57=>338|n=>n,fun|22=>89|24=>123|25=>215|3=>3|39=>273|0=>0|53=>333|55=>335|4=>4|46=>327|45=>326|50=>223|5=>5|9=>9|66=>360|70=>364|76=>382|77=>383|n=>n,fun|n=>n⟩
theorem Tryz.Ku:Go.Proofs.SlLaysF0.n6 Tryz.prog Tryz.EP:={
 mixed:=by kernel_rfl
 f6:=⟨Tryz.f231.name,by decide,Tryz.func231.trans (congrArg some (by kernel_rfl))⟩
 f14:=⟨Tryz.f283.name,by decide,Tryz.func283.trans (congrArg some (by kernel_rfl))⟩
 f15:=Tryz.func209.trans (congrArg some (by kernel_rfl))
 f20:=⟨Tryz.f311.name,by decide,Tryz.func311.trans (congrArg some (by kernel_rfl))⟩
 f21:=⟨Tryz.f312.name,by decide,Tryz.func312.trans (congrArg some (by kernel_rfl))⟩
 f22:=⟨Tryz.f313.name,by decide,Tryz.func313.trans (congrArg some (by kernel_rfl))⟩
 f23:=⟨Tryz.f314.name,by decide,Tryz.func314.trans (congrArg some (by kernel_rfl))⟩
 f24:=⟨Tryz.f315.name,by decide,Tryz.func315.trans (congrArg some (by kernel_rfl))⟩
 f25:=⟨Tryz.f316.name,by decide,Tryz.func316.trans (congrArg some (by kernel_rfl))⟩
 f26:=⟨Tryz.f317.name,by decide,Tryz.func317.trans (congrArg some (by kernel_rfl))⟩
 f27:=⟨Tryz.f318.name,by decide,Tryz.func318.trans (congrArg some (by kernel_rfl))⟩
 f28:=Tryz.func271.trans (congrArg some (by kernel_rfl))
 f29:=Tryz.func272.trans (congrArg some (by kernel_rfl))
 f46:=⟨Tryz.f331.name,by decide,Tryz.func331.trans (congrArg some (by kernel_rfl))⟩
 f47:=Tryz.func307.trans (congrArg some (by kernel_rfl))
 f48:=Tryz.func308.trans (congrArg some (by kernel_rfl))
 f49:=⟨Tryz.f332.name,by decide,Tryz.func332.trans (congrArg some (by kernel_rfl))⟩
 f50:=⟨Tryz.f333.name,by decide,Tryz.func333.trans (congrArg some (by kernel_rfl))⟩
 f57:=⟨Tryz.f338.name,by decide,Tryz.func338.trans (congrArg some (by kernel_rfl))⟩
 t0:=Tryz.underlying0
 a0:=Tryz.isAgg0
 z0:=Tryz.sizeOf0
 v0:=Tryz.zeroValue0
 t3:=Tryz.underlying3
 a3:=Tryz.isAgg3
 z3:=Tryz.sizeOf3
 v3:=Tryz.zeroValue3
 t4:=Tryz.underlying4
 a4:=Tryz.isAgg4
 z4:=Tryz.sizeOf4
 v4:=Tryz.zeroValue4
 t5:=Tryz.underlying5
 a5:=Tryz.isAgg5
 z5:=Tryz.sizeOf5
 v5:=Tryz.zeroValue5
 t9:=Tryz.underlying9
 a9:=Tryz.isAgg9
 z9:=Tryz.sizeOf9
 v9:=Tryz.zeroValue9
 t22:=Tryz.underlying89
 a22:=Tryz.isAgg89
 z22:=Tryz.sizeOf89
 v22:=Tryz.zeroValue89
 t25:=Tryz.underlying215
 a25:=Tryz.isAgg215
 z25:=Tryz.sizeOf215
 v25:=Tryz.zeroValue215
 t39:=Tryz.underlying273
 a39:=Tryz.isAgg273
 z39:=Tryz.sizeOf273
 v39:=Tryz.zeroValue273
 t45:=Tryz.underlying326
 a45:=Tryz.isAgg326
 z45:=Tryz.sizeOf326
 v45:=Tryz.zeroValue326
 t46:=Tryz.underlying327
 a46:=Tryz.isAgg327
 z46:=Tryz.sizeOf327
 v46:=Tryz.zeroValue327
 t50:=Tryz.underlying223
 a50:=Tryz.isAgg223
 z50:=Tryz.sizeOf223
 v50:=Tryz.zeroValue223
 t53:=Tryz.underlying333
 a53:=Tryz.isAgg333
 z53:=Tryz.sizeOf333
 v53:=Tryz.zeroValue333
 t55:=Tryz.underlying335
 a55:=Tryz.isAgg335
 z55:=Tryz.sizeOf335
 v55:=Tryz.zeroValue335
 t66:=Tryz.underlying360
 a66:=Tryz.isAgg360
 z66:=Tryz.sizeOf360
 v66:=Tryz.zeroValue360
 t70:=Tryz.underlying364
 a70:=Tryz.isAgg364
 z70:=Tryz.sizeOf364
 v70:=Tryz.zeroValue364
 t76:=Tryz.underlying382
 a76:=Tryz.isAgg382
 z76:=Tryz.sizeOf382
 v76:=Tryz.zeroValue382
 t77:=Tryz.underlying383
 a77:=Tryz.isAgg383
 z77:=Tryz.sizeOf383
 v77:=Tryz.zeroValue383}
end Go.Proofs

namespace Go.Proofs.YtgoljkjaameagaaGreat.V
open Go.RowKit Go.Shelf Go.Lib Go.Sort
theorem Bu (w:World) (a b:Int):Calls Tryz.prog 210 #[.int .i64 a,.int .i64 b] w fun e w'=>e=.returned (.int .i64 (rP a b))/\w=w':=by
 go_enter Tryz.func210,Tryz.ntmps210
 go_wp2_with go_in
 all_goals
  go_ret
  exact⟨F6 (by unfold rP;split<;>(try split)<;>omega),rfl⟩
theorem ME (w:World) (a b:Int) (g:Nat) (ha:w.cell? ⟨g,0,none⟩=some (.int .i64 a)) (hb:w.cell? ⟨g,1,none⟩=some (.int .i64 b)):Calls Tryz.prog 233 #[.slice (some ⟨g,0,none⟩) 2 2] w fun e w'=>e=.returned (.int .i64 (MF a b))/\w=w':=by
 go_enter Tryz.func233,Tryz.ntmps233
 go_wp2_with fail
 go_loop [8] (fun i=>∃k:Nat,k<=2/\i=.int .i64 k/\Hid ((1<=k->a=0)/\(2<=k->b=0))) (fun i=>2-(intOf i).toNat)
 case atStart=>exact⟨0,by omega,rfl,Lib.hid ⟨fun h=>by omega,fun h=>by omega⟩⟩
 case round=>
  obtain⟨k,hk,rfl,hz⟩:=hrel
  have h3:k=0∨k=1∨k=2:=by omega
  rcases h3 with rfl|rfl|rfl
  ·go_wp2_with fail
   ·rename_i h
    go_ret
    exact⟨F6 (by unfold MF;simp_all),rfl⟩
   ·rename_i h
    go_round
    case rel=>exact⟨1,by omega,rfl,Lib.hid ⟨fun _=>by simpa using h,fun h=>by omega⟩⟩
    case measure=>simp[intOf]
  ·have h0:=hz.out.1 (by omega)
   replace h0:=Lib.hid h0
   go_wp2_with fail
   ·go_ret
    exact⟨F6 (by unfold MF;rw[if_pos h0.out]),rfl⟩
   ·rename_i h
    go_round
    case rel=>exact⟨2,by omega,rfl,Lib.hid ⟨fun _=>h0.out,fun _=>by simpa using h⟩⟩
    case measure=>simp[intOf]
  ·have h0:=Lib.hid (hz.out.1 (by omega))
   have h1:=Lib.hid (hz.out.2 (by omega))
   go_wp2_with fail
   go_ret
   exact⟨F6 (by unfold MF;rw[if_pos h0.out,h1.out]),rfl⟩
def Grown (w w':World):Prop:=∃(q:Nat) (os:Array Obj),w'=Go.Sort.grow (w.drewN q) os
theorem Grown.refl (w:World):Grown w w:=⟨0, #[],by rw[grow_empty];rfl⟩
theorem Grown.alloc {w w':World} (h:Grown w w') (o:Obj):Grown w (w'.alloc o):=by
 obtain⟨q,os,rfl⟩:=h
 exact⟨q,os++ #[o],by rw[alloc_eq_grow,grow_grow]⟩
theorem Grown.drew {w w':World} (h:Grown w w'):Grown w w'.drew:=by
 obtain⟨q,os,rfl⟩:=h
 exact⟨q+1,os,by rw[drew_grow];rfl⟩
theorem Grown.dN {w w':World} (h:Grown w w') (n:Nat):Grown w (w'.drewN n):=by
 obtain⟨q,os,rfl⟩:=h
 exact⟨q+n,os,by
  show Go.Sort.grow ((w.drewN q).drewN n) os=Go.Sort.grow (w.drewN (q+n)) os
  simp[World.drewN,Nat.add_assoc]⟩
theorem uu (w:World) (a b:ah):Calls Tryz.prog 154 #[.agg #[.int .i64 a.eR,.int .i64 a.eM],.agg #[.int .i64 b.eR,.int .i64 b.eM]] w fun e w'=>e=.returned (.int .i64 (pW a b))/\Grown w w':=by
 go_enter Tryz.func154,Tryz.ntmps154
 go_wp2_with fail
 go_region_held3 (fun w'=>w'.cell? ⟨w.heap.size,0,none⟩=some (.int .i64 a.eR)/\w'.cell? ⟨w.heap.size,1,none⟩=some (.int .i64 a.eM)/\
   w'.cell? ⟨w.heap.size+1,0,none⟩=some (.int .i64 b.eR)/\w'.cell? ⟨w.heap.size+1,1,none⟩=some (.int .i64 b.eM))
  (first|go_keep)
  (first|(go_at_call 210;refine(Bu _ _ _).mono ?_;rintro e w' ⟨rfl,rfl⟩)|(go_at_call 233;refine(ME _ (rP a.eM b.eM) (rP a.eR b.eR) _ (by simp[go_sem]) (by simp[go_sem])).mono ?_;rintro e w' ⟨rfl,rfl⟩))
 go_wp2_with fail
 go_ret
 refine⟨rfl,?_⟩
 repeat(first|(with_reducible exact Grown.refl _)|(refine Grown.alloc ?_ _)|(refine Grown.drew ?_)|(refine Grown.dN ?_ _))
theorem VN:SWO (ltOf pW) where
 irrefl x:=by rw[ltOf,ni];exact nq
 trans x y z h1 h2:=by rw[ltOf,ni]at *;exact iz h1 h2
 ntrans x y z h1 h2:=by rw[ltOf,ni]at *;rw[pG]at *;omega
theorem SE:Nn:=fun ye off cap d w hH hblk fh=>by
 have eg:∀args w,(callFunc 154 args).run Tryz.prog w=.ok (.enter 154 args) w:=enters_of Tryz.func154 (by kernel_rfl) rfl
 have h:=AnyQ.slices_SortFunc Tryz.Ku 2 Tryz.isAgg123 Tryz.sizeOf123 fN (fun _=>rfl) (fun x v hv=>by simp[fN]at hv;rcases hv with rfl|rfl<;>rfl) pW VN 154 #[] ye off cap d w eg (fun m os dk _ x y=>(uu _ x y).mono fun _ _ ⟨he,q,os',hw⟩=>⟨he,q,os',hw⟩) hH hblk fh
 exact h
theorem NT:Np:=fun p cap fv w=>AnyF.slices_SortFunc_none Tryz.Ku p cap fv w
end Go.Proofs.YtgoljkjaameagaaGreat.V

namespace Go.Proofs.YtgoljkjaameagaaGreat.V
open Go.RowKit
attribute [local irreducible] eu wpOps gq Call
attribute [local go_sem] aI fJ eP fZ fY dc upd cz K.av cJ AV.cells AV.cell rowOf rowsOf part ld rowAt bR cq dC ea gV bJ cZ eo fX eY dr ef cX cW dM dO bP aX cN bL cQ cP ec eh ee cL bU cY eb bK aO cU cG gU bp cI bQ aW dx bf dD AV.undef bD bF dR dY dI dP cH ek ew cF ej ei cR cV List.getD_cons_zero List.getD_cons_succ List.getD_nil List.all_cons List.all_nil Bool.and_true Bool.true_and Bool.and_self Bool.not_true Bool.not_false Option.map_some Option.map_none Option.bind_some Option.bind_none List.length_cons List.length_nil List.take_succ_cons List.take_zero List.take_nil List.drop_succ_cons List.drop_zero List.drop_nil List.head?_cons List.map_cons List.map_nil List.getElem?_cons_zero List.getElem?_cons_succ List.cons_append List.nil_append List.append_nil List.length_map List.set_cons_zero List.set_cons_succ Nat.reduceMul eq_self Int.toNat_natCast Int.natCast_nonneg and_self true_and and_true decide_true decide_false Bool.false_eq_true Nat.zero_add Nat.add_zero List.contains_cons List.contains_nil Bool.or_false Bool.false_or beq_self_eq_true Nat.reduceBEq ne_eq not_true_eq_false not_false_eq_true Id.mk.injEq false_and and_false Nat.reduceLT Int.reduceLE Int.reduceLT Int.reduceToNat Int.reduceNeg Int.reduceAdd Nat.le_refl List.length_append beq_true beq_false Bool.not_eq_eq_eq_not or_false false_or dJ aj aq aH aZ bB ck aT bc aU aY cK bG
structure nH (n:Nat) (px:Nat->Option Nat) (L:Nat->Nat):Prop where
 top:∀k,k<n->px k=none->L k=k
 up:∀k j,k<n->px k=some j->j<k/\L j=L k
theorem nH.root {n:Nat} {px:Nat->Option Nat} {L:Nat->Nat} (h:nH n px L) (hL:jI L) {k:Nat} (hk:k<n) (hr:L k=k):px k=none:=by
 rcases hp:px k with _|j
 ·rfl
 ·obtain⟨h1,h2⟩:=h.up k j hk hp
  have:=hL.le j
  omega
theorem nH.start (n:Nat):nH n (fun _=>none) id:=⟨fun _ _ _=>rfl,fun _ _ _ h=>by cases h⟩
theorem nH.join {n:Nat} {px:Nat->Option Nat} {L:Nat->Nat} (h:nH n px L) (hL:jI L) (b:PB) (dV:min (L b.a) (L b.b)<max (L b.a) (L b.b)):nH n (fun k=>if k=max (L b.a) (L b.b)then some (min (L b.a) (L b.b))else px k) (eQ L b):=by
 have ha:=hL.idem b.a
 have hb:=hL.idem b.b
 have zP:L (min (L b.a) (L b.b))=min (L b.a) (L b.b):=by
  rcases Nat.le_total (L b.a) (L b.b)with h|h
  ·rw[Nat.min_eq_left h,ha]
  ·rw[Nat.min_eq_right h,hb]
 have RS:L (max (L b.a) (L b.b))=max (L b.a) (L b.b):=by
  rcases Nat.le_total (L b.a) (L b.b)with h|h
  ·rw[Nat.max_eq_right h,hb]
  ·rw[Nat.max_eq_left h,ha]
 unfold eQ
 generalize min (L b.a) (L b.b)=lo at *
 generalize max (L b.a) (L b.b)=hi at *
 refine⟨fun k hk hp=>?_,fun k j hk hp=>?_⟩
 ·by_cases K7:k=hi
  ·rw[if_pos K7]at hp;cases hp
  ·rw[if_neg K7]at hp
   have:=h.top k hk hp
   rw[if_neg (by omega)];exact this
 ·by_cases K7:k=hi
  ·rw[if_pos K7]at hp
   cases hp
   subst K7
   exact⟨dV,by rw[if_neg (by omega),if_pos RS,zP]⟩
  ·rw[if_neg K7]at hp
   obtain⟨h1,h2⟩:=h.up k j hk hp
   exact⟨h1,by rw[h2]⟩
theorem zX {L:Nat->Nat} {b:PB} (h:L b.a=L b.b):eQ L b=L:=by
 funext k
 unfold eQ
 rw[h,Nat.max_self,Nat.min_self]
 split
 ·rename_i h;exact h.symm
 ·rfl
def tb (G:Nat->Id) (px:Nat->Option Nat) (k:Nat):List AV:=[match px k with|none=>.gO|some j=>.ptr (G j) 0 0,.int .i64 (k:Int)]
def uo (g:Rows) (G:Nat->Id) (n:Nat) (px:Nat->Option Nat):Prop:=∀k,k<n->g (G k)=some ⟨true,2,[tb G px k]⟩
theorem uo.frame {g g':Rows} {G:Nat->Id} {n:Nat} {px:Nat->Option Nat} (h:uo g G n px) (hf:∀k,k<n->g' (G k)=g (G k)):uo g' G n px:=fun k hk=>(hf k hk).trans (h k hk)
theorem lT {G:Nat->Id} {px:Nat->Option Nat} {k:Nat} (h:px k=none):tb G px k=[.gO,.int .i64 (k:Int)]:=by rw[tb,h]
theorem tW {G:Nat->Id} {px:Nat->Option Nat} {k j:Nat} (h:px k=some j):tb G px k=[.ptr (G j) 0 0,.int .i64 (k:Int)]:=by rw[tb,h]
theorem zB (G:Nat->Id) (n:Nat) (px:Nat->Option Nat) (L:Nat->Nat) (h:nH n px L) (k:Nat) (hk:k<n) (σ:ax) (hG:uo σ.get G n px):
  Call Tryz.prog 334 [.ptr (G k) 0 0] σ fun r σ'=>r=.ptr (G (L k)) 0 0/\σ'.get=σ.get/\σ.next<=σ'.next:=by
 refine eZ eG rfl fun hl=>?_
 clear hl
 (try((repeat(revert hN;revert N;apply Pn.out));refine wk @Nat.zero_add ?_;(repeat(refine Pn.mk ?_;intro N hN))))
 refine aM (fun m env st=>∃j:Nat,m=j/\j<n/\env 0=.ptr (G j) 0 0/\L j=L k/\st.get=σ.get/\σ.next<=st.next) k ⟨k,rfl,hk,sd @Nat.zero_add,rfl,by(try dsimp only),by(try dsimp only);omega⟩ ?_
 rintro m env_b st_b ⟨j,rfl,hj,b0,hLj,hg,hle⟩ e7
 clear e7
 have fe:=hG m hj
 rcases hp:px m with _|j
 ·rw[lT hp]at fe
  (try((repeat(revert hN;revert N;apply Pn.out));refine wk (tw @b0 (tw @hg @fe)) ?_;(repeat(refine Pn.mk ?_;intro N hN))))
  exact fq (.inl rfl) (vs:=[.ptr (G m) 0 0]) (sd @Nat.zero_add) ⟨by rw[<-hLj,h.top m hj hp];rfl,by first|trivial|rfl|exact hg,by(try dsimp only);omega⟩
 ·rw[tW hp]at fe
  obtain⟨h1,h2⟩:=h.up m j hj hp
  (try((repeat(revert hN;revert N;apply Pn.out));refine wk (tw @b0 (tw @hg @fe)) ?_;(repeat(refine Pn.mk ?_;intro N hN))))
  exact⟨j,h1,j,rfl,by omega,sd @Nat.zero_add,by omega,by first|trivial|rfl|exact hg,by(try dsimp only);omega⟩
end Go.Proofs.YtgoljkjaameagaaGreat.V

namespace Go.Proofs.YtgoljkjaameagaaGreat.V
open Go.RowKit
attribute [local irreducible] eu wpOps gq Call
attribute [local go_sem] aI fJ eP fZ fY dc upd cz K.av cJ AV.cells AV.cell rowOf rowsOf part ld rowAt bR cq dC ea gV bJ cZ eo fX eY dr ef cX cW dM dO bP aX cN bL cQ cP ec eh ee cL bU cY eb bK aO cU cG gU bp cI bQ aW dx bf dD AV.undef bD bF dR dY dI dP cH ek ew cF ej ei cR cV List.getD_cons_zero List.getD_cons_succ List.getD_nil List.all_cons List.all_nil Bool.and_true Bool.true_and Bool.and_self Bool.not_true Bool.not_false Option.map_some Option.map_none Option.bind_some Option.bind_none List.length_cons List.length_nil List.take_succ_cons List.take_zero List.take_nil List.drop_succ_cons List.drop_zero List.drop_nil List.head?_cons List.map_cons List.map_nil List.getElem?_cons_zero List.getElem?_cons_succ List.cons_append List.nil_append List.append_nil List.length_map List.set_cons_zero List.set_cons_succ eq_self Int.toNat_natCast Int.natCast_nonneg and_self true_and and_true decide_true decide_false Bool.false_eq_true Nat.zero_add Nat.add_zero List.contains_cons List.contains_nil Bool.or_false Bool.false_or beq_self_eq_true ne_eq not_true_eq_false not_false_eq_true Id.mk.injEq false_and and_false Nat.le_refl List.length_append beq_true beq_false Bool.not_eq_eq_eq_not or_false false_or dJ aj aq aH aZ bB ck aT bc aU aY cK bG
abbrev mI:MK:=⟨false,[.tI]⟩
def tk (l:List (Nat×Nat)):List (List AV):=l.map fun p=>[.int .i64 (p.1:Int),.int .i64 (p.2:Int)]
theorem Cc (r:Nat):∀(l:List (Nat×Nat)) (i:Nat),((∀p∈l,p.1≠r)->gh mI [.int .i64 (r:Int)] (tk l) i=some none)/\(∀j v,l[j]? =some (r,v)->(∀x y,x<j->l[x]? =some y->y.1≠r)->gh mI [.int .i64 (r:Int)] (tk l) i=some (some (i+j)))
 |[],i=>⟨fun _=>rfl,fun j v h=>by simp at h⟩
 |p::l,i=>by
  obtain⟨h1,h2⟩:=Cc r l (i+1)
  by_cases h:p.1=r
  ·refine⟨fun hp=>absurd h (hp p (by simp)),fun j v hj hf=>?_⟩
   have Qz:j=0:=by
    rcases Nat.eq_zero_or_pos j with h0|h0
    ·exact h0
    ·exact absurd h (hf 0 p h0 (by simp))
   subst Qz
   simp[tk,gh,eY,fX,MK.ks,h]
  ·have hd:¬((r:Int)=(p.1:Int)):=by omega
   have uz:¬r=p.1:=fun he=>h he.symm
   have step:gh mI [.int .i64 (r:Int)] (tk (p::l)) i=gh mI [.int .i64 (r:Int)] (tk l) (i+1):=by
    unfold tk
    simp[gh,MK.ks,eY,fX,hd,uz,h]
   rw[step]
   refine⟨fun hp=>h1 fun q hq=>hp q (by simp[hq]),fun j v hj hf=>?_⟩
   cases j with
   |zero=>simp at hj;rw[hj]at h;exact absurd rfl h
   |succ j=>
    rw[h2 j v (by simpa using hj) fun x y hx hy=>hf (x+1) y (by omega) (by simpa using hy)]
    congr 2;omega
theorem yL {r:Nat} {l:List (Nat×Nat)}:((∀p∈l,p.1≠r)->fS mI (.int .i64 (r:Int)) (tk l)=some none)/\(∀j v,l[j]? =some (r,v)->(∀x y,x<j->l[x]? =some y->y.1≠r)->fS mI (.int .i64 (r:Int)) (tk l)=some (some j)):=by
 have e:fS mI (.int .i64 (r:Int)) (tk l)=gh mI [.int .i64 (r:Int)] (tk l) 0:=by
  unfold fS
  rw[if_pos ⟨rfl,rfl,rfl⟩];rfl
 obtain⟨h1,h2⟩:=Cc r l 0
 rw[e]
 exact⟨h1,fun j v hj hf=>by rw[h2 j v hj hf,Nat.zero_add]⟩
def k8 (k:Nat) (L:Nat->Nat):List (List AV):=tk (leads k L).zipIdx
theorem Es {k:Nat} {L:Nat->Nat} (h:L k=k):k8 (k+1) L=k8 k L++[[.int .i64 (k:Int),.int .i64 ((leads k L).length:Int)]]:=by
 unfold k8
 rw[gN,if_pos h,List.zipIdx_append]
 simp[tk]
theorem Er {k:Nat} {L:Nat->Nat} (h:L k≠k):k8 (k+1) L=k8 k L:=by
 unfold k8
 rw[gN,if_neg h,List.append_nil]
theorem Hl {k:Nat} {L:Nat->Nat} (h:L k=k):fS mI (.int .i64 (k:Int)) (k8 k L)=some none:=by
 refine yL.1 fun p hp=>?_
 have:=List.fst_mem_of_mem_zipIdx hp
 have:=(yP.1 this).1
 omega
theorem yO {n:Nat} {L:Nat->Nat} {x y:Nat} (hx:x<(leads n L).length) (hy:y<(leads n L).length) (h:(leads n L)[x]=(leads n L)[y]):x=y:=by
 have hp:=List.pairwise_iff_getElem.1 (uc n L)
 rcases Nat.lt_trichotomy x y with dV|he|dV
 ·exact absurd h (hp x y hx hy dV)
 ·exact he
 ·exact absurd h.symm (hp y x hy hx dV)
theorem yN {k:Nat} {L:Nat->Nat} (hL:jI L) (h:L k≠k):fS mI (.int .i64 (L k:Int)) (k8 k L)=some (some (bW L k))/\(k8 k L)[bW L k]? =some [.int .i64 (L k:Int),.int .i64 (bW L k:Int)]/\bW L k<(leads k L).length:=by
 have dV:L k<k:=Nat.lt_of_le_of_ne (hL.le k) h
 have hn:bW L (L k)=bW L k:=by rw[bW,hL.idem,bW]
 have hg:=pE hL dV
 rw[hn,hL.idem]at hg
 have hl:bW L k<(leads k L).length:=(List.getElem?_eq_some_iff.1 hg).1
 have hz:(leads k L).zipIdx[bW L k]? =some (L k,bW L k):=by simp[List.getElem?_zipIdx,hg]
 refine⟨yL.2 _ _ hz fun x y hx hy=>?_,by unfold k8 tk;rw[List.getElem?_map,hz];rfl,hl⟩
 intro he
 rw[List.getElem?_zipIdx]at hy
 have QO:x<(leads k L).length:=by omega
 rw[List.getElem?_eq_getElem QO]at hy
 simp at hy
 rw[<-hy]at he
 simp at he
 have e2:(leads k L)[bW L k]=L k:=(List.getElem?_eq_some_iff.1 hg).2
 have:=yO QO hl (he.trans e2.symm)
 omega
def jP (k:Nat) (L:Nat->Nat):List (List Nat):=(leads k L).map (members k L)
theorem qM (k:Nat) (L:Nat->Nat):(jP k L).length=(leads k L).length:=by simp[jP]
theorem DN {k:Nat} {L:Nat->Nat} (hL:jI L) (h:L k=k):jP (k+1) L=jP k L++[[k]]:=by
 unfold jP
 rw[gN,if_pos h,List.map_append,List.map_cons,List.map_nil,jt,if_pos h,nr hL (Nat.le_refl k),List.nil_append]
 congr 1
 refine List.map_congr_left fun r hr=>?_
 have:=(yP.1 hr).1
 rw[jt,if_neg (by omega),List.append_nil]
theorem DO {k:Nat} {L:Nat->Nat} (hL:jI L) (h:L k≠k):(jP k L)[bW L k]? =some (members k L (L k))/\jP (k+1) L=(jP k L).set (bW L k) (members k L (L k)++[k]):=by
 obtain⟨_,_,hl⟩:=yN hL h
 have dV:L k<k:=Nat.lt_of_le_of_ne (hL.le k) h
 have hg:=pE hL dV
 have hn:bW L (L k)=bW L k:=by rw[bW,hL.idem,bW]
 rw[hn,hL.idem]at hg
 refine⟨by unfold jP;rw[List.getElem?_map,hg];rfl,?_⟩
 unfold jP
 rw[gN,if_neg h,List.append_nil]
 refine List.ext_getElem? fun i=>?_
 rw[List.getElem?_set,List.getElem?_map,List.length_map]
 by_cases hi:bW L k=i
 ·subst hi
  rw[if_pos rfl,if_pos hl,hg,Option.map_some,jt,if_pos rfl]
 ·rw[if_neg hi,List.getElem?_map]
  rcases hr:(leads k L)[i]? with _|r
  ·rfl
  ·rw[Option.map_some,Option.map_some,jt,if_neg,List.append_nil]
   rintro rfl
   obtain⟨nR,he⟩:=List.getElem?_eq_some_iff.1 hr
   have e2:(leads k L)[bW L k]=L k:=(List.getElem?_eq_some_iff.1 hg).2
   exact hi (yO hl nR (e2.trans he.symm))
theorem Cq (k:Nat) (L:Nat->Nat) (r:Nat):(members k L r).length<=k:=by
 have:=List.length_filter_le (fun x=>L x==r) (List.range k)
 simpa[members]using this
def Gh (g:Rows) (o:Id) (L:List (List Nat)) (nx:Nat):Prop:=∃rows ids,g o=some ⟨true,1,rows⟩/\eI Qk g rows L ids/\ids.Nodup/\(∀i∈ids,i.site=320026008/\i.bj<nx)/\o.site=320025002/\o.bj<nx
theorem Gh.frame {g g':Rows} {o:Id} {L:List (List Nat)} {nx uV:Nat} (h:Gh g o L nx) (hn:nx<=uV) (hf:∀i:Id,(i.site=320026008∨i.site=320025002)->i.bj<nx->g' i=g i):Gh g' o L uV:=by
 obtain⟨rows,ids,h1,h2,h3,h4,h5,h6⟩:=h
 exact⟨rows,ids,(hf o (.inr h5) h6).trans h1,h2.frame Mt fun i hi=>hf i (.inl (h4 i hi).1) (h4 i hi).2,h3,fun i hi=>⟨(h4 i hi).1,by have:=(h4 i hi).2;omega⟩,h5,by omega⟩
theorem LJ {g':Rows} {v v' uV j:Nat} (h1:g' ⟨320025002,v⟩=some ⟨true,1,[[.own ⟨320026008,v'⟩ 0 1]]⟩) (h2:g' ⟨320026008,v'⟩=some ⟨true,1,[eN j]⟩) (hv:v<uV) (oi:v'<uV):Gh g' ⟨320025002,v⟩ [[j]] uV:=
 ⟨_,[⟨320026008,v'⟩],h1,.one ⟨_,rfl,h2,rfl⟩,by simp,fun i hi=>by rw[List.mem_singleton.1 hi];exact⟨rfl,oi⟩,rfl,hv⟩
theorem Gh.new {g:Rows} {o:Id} {L:List (List Nat)} {nx:Nat} (h:Gh g o L nx) (j:Nat):∃rows,g o=some ⟨true,1,rows⟩/\rows.length=L.length/\∀(g':Rows) (v v' uV:Nat),nx<=v'->v<uV->v'<uV->g' ⟨320025002,v⟩=some ⟨true,1,rows++[[.own ⟨320026008,v'⟩ 0 1]]⟩->g' ⟨320026008,v'⟩=some ⟨true,1,[eN j]⟩->(∀i:Id,i.site=320026008->i.bj<nx->g' i=g i)->Gh g' ⟨320025002,v⟩ (L++[[j]]) uV:=by
 obtain⟨rows,ids,h1,h2,h3,h4,h5,h6⟩:=h
 refine⟨rows,h1,h2.len,fun g' v v' uV hv wg L9 q1 q2 q3=>⟨_,ids++[⟨320026008,v'⟩],q1,(h2.frame Mt fun i hi=>q3 i (h4 i hi).1 (h4 i hi).2).app (.one ⟨_,rfl,q2,rfl⟩),?_,fun i hi=>?_,rfl,wg⟩⟩
 ·refine List.nodup_append.2 ⟨h3,by simp,fun a ha b hb od=>?_⟩
  rw[List.mem_singleton.1 hb]at od
  have:=(h4 a ha).2
  rw[od]at this
  simp only at this
  omega
 ·rcases List.mem_append.1 hi with hi|hi
  ·have:=h4 i hi;exact⟨this.1,by omega⟩
  ·rw[List.mem_singleton.1 hi];exact⟨rfl,L9⟩
theorem Gh.add {g:Rows} {o:Id} {L:List (List Nat)} {nx k:Nat} {La:List Nat} (h:Gh g o L nx) (hk:L[k]? =some La) (j:Nat):∃rows id,g o=some ⟨true,1,rows⟩/\rows.length=L.length/\rows[k]? =some [.own id 0 La.length]/\g id=some ⟨true,1,La.map eN⟩/\id.site=320026008/\id.bj<nx/\∀(g':Rows) (v' uV:Nat),nx<=v'->v'<uV->g' o=some ⟨true,1,rows.set k [.own ⟨320026008,v'⟩ 0 (La.length+1)]⟩->g' ⟨320026008,v'⟩=some ⟨true,1,La.map eN++[[.int .i64 (j:Int)]]⟩->(∀i:Id,i.site=320026008->i.bj<nx->(i=id)=False->g' i=g i)->Gh g' o (L.set k (La++[j])) uV:=by
 obtain⟨rows,ids,h1,h2,h3,h4,h5,h6⟩:=h
 have jN:k<L.length:=(List.getElem?_eq_some_iff.1 hk).1
 have UA:=kY hk jN
 obtain⟨cs,ic,dw,Qt,RM,rY⟩:=h2.SB Mt h3 k jN
 rw[UA]at Qt
 obtain⟨id,rfl,q1,rfl⟩:=Qt
 have hid:=h4 id (RM id (by simp))
 refine⟨rows,id,h1,h2.len,dw,q1,hid.1,hid.2,fun g' v' uV hv wg r1 r2 r3=>?_⟩
 obtain⟨Ef,s1,s2,s3⟩:=rY g' [.own ⟨320026008,v'⟩ 0 (La.length+1)] (La++[j]) [⟨320026008,v'⟩] ⟨_,by simp,by rw[r2];simp[eN],rfl⟩ (fun i hi Tz=>r3 i (h4 i hi).1 (h4 i hi).2 (by
  simp only[eq_iff_iff,iff_false];rintro rfl;exact Tz (by simp))) (by simp) fun i hi hc=>by
   rw[List.mem_singleton.1 hi]at hc
   have:=(h4 _ hc).2
   simp only at this
   omega
 refine⟨_,Ef,r1,s1,s2,fun i hi=>?_,h5,by omega⟩
 rcases s3 i hi with h|h
 ·rw[List.mem_singleton.1 h];exact⟨rfl,wg⟩
 ·have:=h4 i h;exact⟨this.1,by omega⟩
def mc (G:Nat->Id) (n k:Nat):List (List AV):=(List.range n).map fun i=>[if i<k then .ptr (G i) 0 0 else .gO]
theorem mM (G:Nat->Id) (n k:Nat):(mc G n k).length=n:=by simp[mc]
theorem HO (G:Nat->Id) (n:Nat):List.replicate n [AV.gO]=mc G n 0:=by
 refine List.ext_getElem? fun i=>?_
 by_cases h:i<n
 ·rw[List.getElem?_replicate,if_pos h];simp[mc,h]
 ·rw[List.getElem?_eq_none (by simp;omega),List.getElem?_eq_none (by rw[mM];omega)]
theorem xi {G:Nat->Id} {n i:Nat} (h:i<n):(mc G n n)[i]? =some [.ptr (G i) 0 0]:=by simp[mc,h]
theorem KF {G:Nat->Id} {n k:Nat} (h:k<n):(mc G n k).set k [.ptr (G k) 0 0]=mc G n (k+1):=by
 refine List.ext_getElem? fun i=>?_
 rw[List.getElem?_set,mM]
 by_cases hi:k=i
 ·subst hi;rw[if_pos rfl,if_pos h];simp[mc,h]
 ·rw[if_neg hi]
  by_cases fB:i<n
  ·simp only[mc,List.getElem?_map,List.getElem?_range fB,Option.map_some]
   by_cases yC:i<k
   ·rw[if_pos yC,if_pos (by omega)]
   ·rw[if_neg yC,if_neg (by omega)]
  ·rw[List.getElem?_eq_none (by rw[mM];omega),List.getElem?_eq_none (by rw[mM];omega)]
end Go.Proofs.YtgoljkjaameagaaGreat.V

namespace Go.Proofs.YtgoljkjaameagaaGreat.V
open Go.RowKit
attribute [local irreducible] eu wpOps gq Call
attribute [local go_sem] aI fJ eP fZ fY dc upd cz K.av cJ AV.cells AV.cell rowOf rowsOf part ld rowAt bR cq dC ea gV bJ cZ eo fX eY dr ef cX cW dM dO bP aX cN bL cQ cP ec eh ee cL bU cY eb bK aO cU cG gU bp cI bQ aW dx bf dD AV.undef bD bF dR dY dI dP cH ek ew cF ej ei cR cV List.getD_cons_zero List.getD_cons_succ List.getD_nil List.all_cons List.all_nil Bool.and_true Bool.true_and Bool.and_self Bool.not_true Bool.not_false Option.map_some Option.map_none Option.bind_some Option.bind_none List.length_cons List.length_nil List.take_succ_cons List.take_zero List.take_nil List.drop_succ_cons List.drop_zero List.drop_nil List.head?_cons List.map_cons List.map_nil List.getElem?_cons_zero List.getElem?_cons_succ List.cons_append List.nil_append List.append_nil List.length_map List.set_cons_zero List.set_cons_succ Nat.reduceMul eq_self Int.toNat_natCast Int.natCast_nonneg and_self true_and and_true decide_true decide_false Bool.false_eq_true Nat.zero_add Nat.add_zero List.contains_cons List.contains_nil Bool.or_false Bool.false_or beq_self_eq_true Nat.reduceBEq ne_eq not_true_eq_false not_false_eq_true Id.mk.injEq false_and and_false Nat.reduceLT Int.reduceLE Int.reduceLT Int.reduceToNat Int.reduceNeg Int.reduceAdd Nat.le_refl List.length_append beq_true beq_false Bool.not_eq_eq_eq_not or_false false_or dJ aj aq aH aZ bB ck aT bc aU aY cK bG
theorem gG {o:Id} {a:Nat} (h:o.site=a) {b v:Nat} (od:(a==b)=false):(o=⟨b,v⟩)=False/\((⟨b,v⟩:Id)=o)=False:=by
 have h1:=Ax h (v:=v) od
 refine⟨h1,?_⟩
 simp only[eq_iff_iff,iff_false]at h1 ⊢
 exact fun h=>h1 h.symm
theorem v7 (cnt:Nat) (zQ:1<=cnt) (hn:cnt<=1048576) (bs:List PB) (hb:∀b∈bs,b.a<cnt/\b.b<cnt) (oe:bs.length<=1048576):ar Tryz.prog 320 [.int .i64 cnt,.sl (bs.map aC)] (.sl ((fE cnt (eE bs)).map AQ)):=by
 intro n0
 refine Im Oj rfl fun hl=>?_
 try simp only[q]
 clear hl
 have jM:(0:Int)<=(cnt:Int):=by omega
 have p9:(cnt:Int)<=((16777216:Nat):Int):=by omega
 obtain⟨G,hG⟩:∃G:Nat->Id,G=fun k=>⟨320005004,n0+3+4*k+2⟩:=⟨_,rfl⟩
 have Tb:∀k,(G k).site=320005004:=fun k=>by rw[hG]
 have Uv:∀k,(G k).bj=n0+3+4*k+2:=fun k=>by rw[hG]
 have Ut:∀i j,i≠j->(G i=G j)=False:=fun i j h=>by
  simp only[eq_iff_iff,iff_false]
  intro he
  have h1:=Uv i
  rw[he,Uv j]at h1
  omega
 have LM:∀i s v,(320005004==s)=false->(G i=⟨s,v⟩)=False:=fun i s v h=>Ax (Tb i) h
 have hz:=HO G cnt
 (try((repeat(revert hN;revert N;apply Pn.out));refine wk (tw @jM (tw @p9 (tw @Int.le_refl @hz))) ?_;(repeat(refine Pn.mk ?_;intro N hN))))
 refine aM (fun n env st=>∃k:Nat,n=(cnt)-k/\k<=(cnt)/\env 21=.int .i64 (k:Int)/\st.get ⟨320001001,n0+1⟩=some ⟨true,1,mc G cnt k⟩/\(st.next=n0+3+4*k/\∀j:Nat,j<k->st.get (G j)=some ⟨true,2,[[.gO,.int .i64 (j:Int)]]⟩)) (cnt) ⟨0,by omega,by omega,sl @hz,sl @hz,⟨rfl,fun j hj=>by omega⟩⟩ ?_
 rintro n_a env_a st_a ⟨k,rfl,ale,a21,ag0,j8⟩ di
 have a0:=di 0 (by kernel_rfl);have a1:=di 1 (by kernel_rfl);have a5:=di 5 (by kernel_rfl);have N6:=di 19 (by kernel_rfl);have a20:=di 20 (by kernel_rfl)
 simp only[go_sem, ↓reduceIte,Nat.reduceEqDiff,Nat.reduceAdd,Nat.reduceSub,Nat.reduceLeDiff,reduceCtorEq,hz]at a0 a1 a5 N6 a20
 clear di
 obtain⟨j8,me⟩:=j8
 by_cases hk:(k:Int)<(cnt:Int)
 ·have cm:∀{e:Env} {gg:Rows} {nx:Nat},(e 21=.int .i64 (IntKind.i64.wrap ((k:Int)+1)))->(gg ⟨320001001,n0+1⟩=some ⟨true,1,mc G cnt (k+1)⟩)->(nx=n0+3+4*(k+1)/\∀j:Nat,j<(k+1)->gg (G j)=some ⟨true,2,[[.gO,.int .i64 (j:Int)]]⟩)->∃m0,m0<(cnt)-k/\∃k:Nat,m0=(cnt)-k/\k<=(cnt)/\e 21=.int .i64 (k:Int)/\gg ⟨320001001,n0+1⟩=some ⟨true,1,mc G cnt k⟩/\(nx=n0+3+4*k/\∀j:Nat,j<k->gg (G j)=some ⟨true,2,[[.gO,.int .i64 (j:Int)]]⟩):=fun x1 x2 x3=>⟨_,by omega,k+1,rfl,by omega,(by rw[x1,ay (by omega)]),x2,x3⟩
  have eU:k<cnt:=by omega
  have tl:=mM G cnt k
  have dW:=KF (G:=G) eU
  have eB:(mc G cnt k)[k]? =some [.gO]:=by simp[mc,eU]
  have S9:(⟨320005004,st_a.next+1+1⟩:Id)=G k:=by rw[hG,j8]
  have hGf:∀j,j<k->(G j=G k)=False:=fun j hj=>Ut j k (by omega)
  have zJ:∀j,(G j=(⟨320001001,n0+1⟩:Id))=False:=fun j=>LM j _ _ (by decide)
  have DR:∀j,((⟨320001001,n0+1⟩:Id)=G j)=False:=fun j=>by
   have:=zJ j
   simp only[eq_iff_iff,iff_false]at this ⊢
   exact fun h=>this h.symm
  (try((repeat(revert hN;revert N;apply Pn.out));refine wk (tw @a21 (tw @ag0 (tw @a0 (tw @a1 (tw @a5 (tw @N6 (tw @a20 (tw @hk (tw @tl (tw @S9 (tw @zJ (tw @DR (tw @dW @eB))))))))))))) ?_;(repeat(refine Pn.mk ?_;intro N hN))))
  refine cm ?_ ?_ (by
   refine⟨by(try dsimp only)<;>omega,fun j hj=>?_⟩
   by_cases yD:j=k
   ·subst yD;simp only[go_sem, ↓reduceIte,Nat.reduceEqDiff,Nat.reduceAdd,Nat.reduceSub,Nat.reduceLeDiff,reduceCtorEq,S9,zJ,DR]
   ·have hold:=me j (by omega)
    have il:=hGf j (by omega)
    simp only[go_sem, ↓reduceIte,Nat.reduceEqDiff,Nat.reduceAdd,Nat.reduceSub,Nat.reduceLeDiff,reduceCtorEq,S9,zJ,DR,il,hold])
  all_goals simp only[go_sem, ↓reduceIte,Nat.reduceEqDiff,Nat.reduceAdd,Nat.reduceSub,Nat.reduceLeDiff,reduceCtorEq,a21,ag0,a0,a1,a5,N6,a20,S9,zJ,DR,dW]
 have jN:cnt=k:=by omega
 subst jN
 (try((repeat(revert hN;revert N;apply Pn.out));refine wk (tw @a21 (tw @ag0 (tw @a0 (tw @a1 (tw @a5 (tw @N6 (tw @a20 @hk))))))) ?_;(repeat(refine Pn.mk ?_;intro N hN))))
 refine aM (fun n env st=>∃i:Nat,n=(bs.length)-i/\i<=(bs.length)/\env 33=.int .i64 (i:Int)/\st.get ⟨320001001,n0+1⟩=some ⟨true,1,mc G cnt cnt⟩/\(n0+3+4*cnt<=st.next)/\(∃px,nH cnt px (eE (bs.take i))/\uo st.get G cnt px)) (bs.length) ⟨0,by omega,by omega,sl (tw @a21 (tw @ag0 (tw @a0 (tw @a1 (tw @a5 (tw @N6 @a20)))))),sl (tw @a21 (tw @ag0 (tw @a0 (tw @a1 (tw @a5 (tw @N6 @a20)))))),(by(try dsimp only);omega),⟨fun _=>none,nH.start cnt,me⟩⟩ ?_
 rintro n_b env_b st_b ⟨i,rfl,ble,uq,bg0,bI0,bI1⟩ e7
 have b0:=e7 0 (by kernel_rfl);have b1:=e7 1 (by kernel_rfl);have b5:=e7 5 (by kernel_rfl);have yc:=e7 31 (by kernel_rfl);have tL:=e7 32 (by kernel_rfl)
 simp only[go_sem, ↓reduceIte,Nat.reduceEqDiff,Nat.reduceAdd,Nat.reduceSub,Nat.reduceLeDiff,reduceCtorEq,a21,ag0,a0,a1,a5,N6,a20]at b0 b1 b5 yc tL
 clear e7
 obtain⟨px,K9,Ta⟩:=bI1
 have tl:=mM G cnt cnt
 have Rj:∀j v,(G j=(⟨320009002,v⟩:Id))=False:=fun j v=>LM j _ v (by decide)
 have zJ:∀j v,(G j=(⟨320001001,v⟩:Id))=False:=fun j v=>LM j _ v (by decide)
 have DR:∀j v,((⟨320001001,v⟩:Id)=G j)=False:=fun j v=>by
  have:=zJ j v
  simp only[eq_iff_iff,iff_false]at this ⊢
  exact fun h=>this h.symm
 have hGn:∀j,j<cnt->(G j).bj<st_b.next:=fun j hj=>by rw[Uv];omega
 by_cases hi:(i:Int)<(bs.length:Int)
 ·have ft:∀{e:Env} {gg:Rows} {nx:Nat},(e 33=.int .i64 (IntKind.i64.wrap ((i:Int)+1)))->(gg ⟨320001001,n0+1⟩=some ⟨true,1,mc G cnt cnt⟩)->(n0+3+4*cnt<=nx)->(∃px,nH cnt px (eE (bs.take (i+1)))/\uo gg G cnt px)->∃m0,m0<(bs.length)-i/\∃i:Nat,m0=(bs.length)-i/\i<=(bs.length)/\e 33=.int .i64 (i:Int)/\gg ⟨320001001,n0+1⟩=some ⟨true,1,mc G cnt cnt⟩/\(n0+3+4*cnt<=nx)/\(∃px,nH cnt px (eE (bs.take i))/\uo gg G cnt px):=fun x1 x2 x3 x4=>⟨_,by omega,i+1,rfl,by omega,(by rw[x1,ay (by omega)]),x2,x3,x4⟩
  have fB:i<bs.length:=by omega
  have kJ:(bs.map aC)[i]? =some (aC bs[i]):=by simp[fB]
  have GW:=hb _ (List.getElem_mem fB)
  have oZ:bs.take (i+1)=bs.take i++[bs[i]]:=List.take_succ_eq_append_getElem fB
  have lV:eE (bs.take (i+1))=eQ (eE (bs.take i)) bs[i]:=by rw[oZ,wo]
  have hL:=ub (bs.take i)
  generalize eE (bs.take i)=L at *
  generalize bs[i]=b at *
  have gA:=xi (G:=G) GW.1
  have gB:=xi (G:=G) GW.2
  have gI:(b.a:Int)<(cnt:Int):=by omega
  have fD:(b.b:Int)<(cnt:Int):=by omega
  (try((repeat(revert hN;revert N;apply Pn.out));refine wk (tw @uq (tw @bg0 (tw @b0 (tw @b1 (tw @b5 (tw @yc (tw @tL (tw @hi (tw @kJ (tw @aC.eq_1 (tw @gA (tw @gB (tw @gI (tw @fD @tl)))))))))))))) ?_;(repeat(refine Pn.mk ?_;intro N hN))))
  refine Fb (fun e s=>e 0=.int .i64 cnt/\e 1=.sl (bs.map aC)/\e 5=.own ⟨320001001,n0+1⟩ 0 cnt/\e 31=.sl (bs.map aC)/\e 32=.int .i64 bs.length/\e 33=.int .i64 i/\e 9=.ptr (G (L b.a)) 0 0/\e 10=.ptr (G (L b.b)) 0 0/\(∀j:Id,j.bj<st_b.next->s.get j=st_b.get j)/\st_b.next<=s.next) ?_ ?_
  ·rintro e1 s1 ⟨m0,m1,m5,m31,m32,m33,m9,m10,mf,mn⟩
   refine hN _ _ ?_
   clear hN N
   have mG:uo s1.get G cnt px:=Ta.frame fun k hk=>mf _ (hGn k hk)
   have mt:=(mf ⟨320001001,n0+1⟩ (by(try dsimp only);omega)).trans bg0
   have Vf:L b.a<cnt:=Nat.lt_of_le_of_lt (hL.le _) GW.1
   have RP:L b.b<cnt:=Nat.lt_of_le_of_lt (hL.le _) GW.2
   have ra:=mG _ Vf
   have rb:=mG _ RP
   rw[lT (K9.root hL Vf (hL.idem _))]at ra
   rw[lT (K9.root hL RP (hL.idem _))]at rb
   have put:∀(g':Rows) (lo hi:Nat),hi<cnt->g' (G hi)=some ⟨true,2,[[.ptr (G lo) 0 0,.int .i64 (hi:Int)]]⟩->(∀k,k≠hi->k<cnt->g' (G k)=s1.get (G k))->uo g' G cnt (fun k=>if k=hi then some lo else px k):=fun g' lo hi _ h1 h2 k hk=>by
    by_cases K7:k=hi
    ·subst K7;rw[h1,tW (j:=lo) (if_pos rfl)]
    ·rw[h2 k K7 hk,mG k hk]
     unfold tb
     simp only[if_neg K7]
   rcases Nat.lt_trichotomy (L b.a) (L b.b)with dV|heq|dV
   ·have O3:(L b.a:Int)<(L b.b:Int):=by omega
    have hj:=K9.join hL b (by omega)
    rw[Nat.max_eq_right (by omega),Nat.min_eq_left (by omega),<-lV]at hj
    (try((repeat(revert hN;revert N;apply Pn.out));refine wk (tw @m0 (tw @m1 (tw @m5 (tw @m31 (tw @m32 (tw @m33 (tw @m9 (tw @m10 (tw @ra (tw @rb @O3)))))))))) ?_;(repeat(refine Pn.mk ?_;intro N hN))))
    refine ft ?_ ?_ (by(try dsimp only);omega) (⟨_,hj,put _ _ _ RP (sd @Nat.zero_add) (fun k hk _=>by
     have il:=Ut k _ hk
     simp only[go_sem, ↓reduceIte,Nat.reduceEqDiff,Nat.reduceAdd,Nat.reduceSub,Nat.reduceLeDiff,reduceCtorEq,il])⟩)
    all_goals simp only[go_sem, ↓reduceIte,Nat.reduceEqDiff,Nat.reduceAdd,Nat.reduceSub,Nat.reduceLeDiff,reduceCtorEq,m0,m1,m5,m31,m32,m33,mt,zJ,DR]
   ·have zQ:¬(L b.a:Int)<(L b.b:Int):=by omega
    have O6:¬(L b.b:Int)<(L b.a:Int):=by omega
    have Eb:=zX heq
    rw[Eb]at lV
    (try((repeat(revert hN;revert N;apply Pn.out));refine wk (tw @m0 (tw @m1 (tw @m5 (tw @m31 (tw @m32 (tw @m33 (tw @m9 (tw @m10 (tw @ra (tw @rb (tw @zQ @O6))))))))))) ?_;(repeat(refine Pn.mk ?_;intro N hN))))
    refine ft ?_ ?_ (by(try dsimp only);omega) (⟨_,lV▸K9,mG.frame fun k hk=>rfl⟩)
    all_goals simp only[go_sem, ↓reduceIte,Nat.reduceEqDiff,Nat.reduceAdd,Nat.reduceSub,Nat.reduceLeDiff,reduceCtorEq,m0,m1,m5,m31,m32,m33,mt]
   ·have O3:(L b.b:Int)<(L b.a:Int):=by omega
    have zQ:¬(L b.a:Int)<(L b.b:Int):=by omega
    have hj:=K9.join hL b (by omega)
    rw[Nat.max_eq_left (by omega),Nat.min_eq_right (by omega),<-lV]at hj
    (try((repeat(revert hN;revert N;apply Pn.out));refine wk (tw @m0 (tw @m1 (tw @m5 (tw @m31 (tw @m32 (tw @m33 (tw @m9 (tw @m10 (tw @ra (tw @rb (tw @O3 @zQ))))))))))) ?_;(repeat(refine Pn.mk ?_;intro N hN))))
    refine ft ?_ ?_ (by(try dsimp only);omega) (⟨_,hj,put _ _ _ Vf (sd @Nat.zero_add) (fun k hk _=>by
     have il:=Ut k _ hk
     simp only[go_sem, ↓reduceIte,Nat.reduceEqDiff,Nat.reduceAdd,Nat.reduceSub,Nat.reduceLeDiff,reduceCtorEq,il])⟩)
    all_goals simp only[go_sem, ↓reduceIte,Nat.reduceEqDiff,Nat.reduceAdd,Nat.reduceSub,Nat.reduceLeDiff,reduceCtorEq,m0,m1,m5,m31,m32,m33,mt,zJ,DR]
  ·intro N hN
   refine fc ?_ ?_<;>(try((repeat(revert hN;revert N;apply Pn.out));refine wk (tw @uq (tw @bg0 (tw @b0 (tw @b1 (tw @b5 (tw @yc (tw @tL (tw @hi (tw @kJ (tw @aC.eq_1 (tw @gA (tw @gB (tw @gI (tw @fD @tl)))))))))))))) ?_;(repeat(refine Pn.mk ?_;intro N hN))))<;>(try refine fc ?_ ?_)<;>(try((repeat(revert hN;revert N;apply Pn.out));refine wk (tw @uq (tw @bg0 (tw @b0 (tw @b1 (tw @b5 (tw @yc (tw @tL (tw @hi (tw @kJ (tw @aC.eq_1 (tw @gA (tw @gB (tw @gI (tw @fD @tl)))))))))))))) ?_;(repeat(refine Pn.mk ?_;intro N hN))))<;>(try refine fc ?_ ?_)<;>(try((repeat(revert hN;revert N;apply Pn.out));refine wk (tw @uq (tw @bg0 (tw @b0 (tw @b1 (tw @b5 (tw @yc (tw @tL (tw @hi (tw @kJ (tw @aC.eq_1 (tw @gA (tw @gB (tw @gI (tw @fD @tl)))))))))))))) ?_;(repeat(refine Pn.mk ?_;intro N hN))))
   all_goals
    refine .inr (aJ _ _ _ _ _ (fun r σ1 hq=>?_) (zB G cnt px L K9 b.a GW.1 _ (Ta.frame fun k hk=>sd @Rj)))
    obtain⟨g1,x1⟩:=σ1
    obtain⟨rfl,AU,LX⟩:=hq
    (try dsimp only at AU LX)
    subst AU
    refine hN _ _ ?_
    clear hN N
    (try((repeat(revert hN;revert N;apply Pn.out));refine wk (tw @uq (tw @bg0 (tw @b0 (tw @b1 (tw @b5 (tw @yc (tw @tL (tw @hi (tw @kJ (tw @aC.eq_1 (tw @gA (tw @gB (tw @gI (tw @fD @tl)))))))))))))) ?_;(repeat(refine Pn.mk ?_;intro N hN))))
    refine .inr (aJ _ _ _ _ _ (fun r σ1 hq=>?_) (zB G cnt px L K9 b.b GW.2 _ (Ta.frame fun k hk=>sd @Rj)))
    obtain⟨g1,x2⟩:=σ1
    obtain⟨rfl,AU,np⟩:=hq
    (try dsimp only at AU np)
    subst AU
    refine hN _ _ ?_
    clear hN N
    (try((repeat(revert hN;revert N;apply Pn.out));refine wk (tw @uq (tw @bg0 (tw @b0 (tw @b1 (tw @b5 (tw @yc (tw @tL (tw @hi (tw @kJ (tw @aC.eq_1 (tw @gA (tw @gB (tw @gI (tw @fD @tl)))))))))))))) ?_;(repeat(refine Pn.mk ?_;intro N hN))))
    exact⟨sd (tw @uq (tw @bg0 (tw @b0 (tw @b1 (tw @b5 (tw @yc @tL)))))),sd (tw @uq (tw @bg0 (tw @b0 (tw @b1 (tw @b5 (tw @yc @tL)))))),sd (tw @uq (tw @bg0 (tw @b0 (tw @b1 (tw @b5 (tw @yc @tL)))))),sd (tw @uq (tw @bg0 (tw @b0 (tw @b1 (tw @b5 (tw @yc @tL)))))),sd (tw @uq (tw @bg0 (tw @b0 (tw @b1 (tw @b5 (tw @yc @tL)))))),sd (tw @uq (tw @bg0 (tw @b0 (tw @b1 (tw @b5 (tw @yc @tL)))))),sd (tw @uq (tw @bg0 (tw @b0 (tw @b1 (tw @b5 (tw @yc @tL)))))),sd (tw @uq (tw @bg0 (tw @b0 (tw @b1 (tw @b5 (tw @yc @tL)))))),fun j hj=>by
     have hv:=dB hj
     simp only[go_sem, ↓reduceIte,Nat.reduceEqDiff,Nat.reduceAdd,Nat.reduceSub,Nat.reduceLeDiff,reduceCtorEq,hv],by(try dsimp only);omega⟩
 have nR:i=bs.length:=by omega
 subst nR
 rw[List.take_length]at K9
 have hL:=ub bs
 generalize eE bs=L at *
 (try((repeat(revert hN;revert N;apply Pn.out));refine wk (tw @uq (tw @bg0 (tw @b0 (tw @b1 (tw @b5 (tw @yc (tw @tL (tw @hi @tl)))))))) ?_;(repeat(refine Pn.mk ?_;intro N hN))))
 have l0:k8 0 L=[]:=rfl
 have oS:(none:Option Nat).isSome=false:=rfl
 have oT:∀a:Nat,(some a).isSome=true:=fun _=>rfl
 refine aM (fun n env st=>∃x:Nat,n=(cnt)-x/\x<=(cnt)/\env 81=.int .i64 (x:Int)/\st.get ⟨320001001,n0+1⟩=some ⟨true,1,mc G cnt cnt⟩/\st.get ⟨320017000,st_b.next+1+1⟩=some ⟨true,mI.ma,k8 x L⟩/\(st_b.next+3<=st.next/\uo st.get G cnt px)/\((x=0/\env 11=.cu)∨∃o:Id,env 11=.own o 0 (leads x L).length/\Gh st.get o (jP x L) st.next)) (cnt) ⟨0,by omega,by omega,sl (tw @uq (tw @bg0 (tw @b0 (tw @b1 (tw @b5 (tw @yc (tw @tL @l0))))))),sl (tw @uq (tw @bg0 (tw @b0 (tw @b1 (tw @b5 (tw @yc (tw @tL @l0))))))),sl (tw @uq (tw @bg0 (tw @b0 (tw @b1 (tw @b5 (tw @yc (tw @tL @l0))))))),⟨by(try dsimp only);omega,Ta.frame fun k hk=>by(have il:=LM k 320017000 (st_b.next+1+1) (by decide));simp only[go_sem, ↓reduceIte,Nat.reduceEqDiff,Nat.reduceAdd,Nat.reduceSub,Nat.reduceLeDiff,reduceCtorEq,il]⟩,.inl ⟨rfl,sd @Nat.zero_add⟩⟩ ?_
 rintro n_c env_c st_c ⟨x,rfl,cle,c81,cg0,cg1,cI0,cI1⟩ iM
 have qx:=iM 12 (by kernel_rfl);have Lu:=iM 79 (by kernel_rfl);have Lv:=iM 80 (by kernel_rfl)
 simp only[go_sem, ↓reduceIte,Nat.reduceEqDiff,Nat.reduceAdd,Nat.reduceSub,Nat.reduceLeDiff,reduceCtorEq,uq,bg0,b0,b1,b5,yc,tL,l0]at qx Lu Lv
 clear iM
 obtain⟨pD,Q6⟩:=cI0
 have OK:∀j v,(G j=(⟨320017000,v⟩:Id))=False:=fun j v=>LM j _ v (by decide)
 have OG:∀j v,(G j=(⟨320025002,v⟩:Id))=False:=fun j v=>LM j _ v (by decide)
 have OI:∀j v,(G j=(⟨320025001,v⟩:Id))=False:=fun j v=>LM j _ v (by decide)
 have OJ:∀j v,(G j=(⟨320026007,v⟩:Id))=False:=fun j v=>LM j _ v (by decide)
 have OH:∀j v,(G j=(⟨320026008,v⟩:Id))=False:=fun j v=>LM j _ v (by decide)
 by_cases hx:(x:Int)<(cnt:Int)
 ·have gF:∀{e:Env} {gg:Rows} {nx:Nat},(e 81=.int .i64 (IntKind.i64.wrap ((x:Int)+1)))->(gg ⟨320001001,n0+1⟩=some ⟨true,1,mc G cnt cnt⟩)->(gg ⟨320017000,st_b.next+1+1⟩=some ⟨true,mI.ma,k8 (x+1) L⟩)->(st_b.next+3<=nx/\uo gg G cnt px)->(((x+1)=0/\e 11=.cu)∨∃o:Id,e 11=.own o 0 (leads (x+1) L).length/\Gh gg o (jP (x+1) L) nx)->∃m0,m0<(cnt)-x/\∃x:Nat,m0=(cnt)-x/\x<=(cnt)/\e 81=.int .i64 (x:Int)/\gg ⟨320001001,n0+1⟩=some ⟨true,1,mc G cnt cnt⟩/\gg ⟨320017000,st_b.next+1+1⟩=some ⟨true,mI.ma,k8 x L⟩/\(st_b.next+3<=nx/\uo gg G cnt px)/\((x=0/\e 11=.cu)∨∃o:Id,e 11=.own o 0 (leads x L).length/\Gh gg o (jP x L) nx):=fun x1 x2 x3 x4 x5=>⟨_,by omega,x+1,rfl,by omega,(by rw[x1,ay (by omega)]),x2,x3,x4,x5⟩
  have QP:x<cnt:=by omega
  have gX:=xi (G:=G) QP
  have hlx:L x<cnt:=Nat.lt_of_le_of_lt (hL.le _) QP
  have ra:=Q6 _ hlx
  rw[lT (K9.root hL hlx (hL.idem _))]at ra
  have gY:=jR x L
  (try((repeat(revert hN;revert N;apply Pn.out));refine wk (tw @c81 (tw @cg0 (tw @cg1 (tw @qx (tw @Lu (tw @Lv (tw @hx (tw @gX @tl)))))))) ?_;(repeat(refine Pn.mk ?_;intro N hN))))
  refine .inr (aJ _ _ _ _ _ (fun r σ1 hq=>?_) (zB G cnt px L K9 x QP _ (Q6.frame fun k hk=>sd @Nat.zero_add)))
  obtain⟨g1,x1⟩:=σ1
  obtain⟨rfl,AU,LX⟩:=hq
  (try dsimp only at AU LX)
  subst AU
  refine hN _ _ ?_
  clear hN N
  by_cases hr:L x=x
  ·rw[hr]at ra ⊢
   have mQ:=Hl hr
   have Tw:(leads (x+1) L).length=(leads x L).length+1:=by rw[gN,if_pos hr];simp
   have QK:=Es hr
   have Tr:=DN hL hr
   rcases cI1 with⟨rfl,nW⟩|⟨o,nW,cS⟩
   ·have Vv:k8 1 L=[[.int .i64 ((0:Nat):Int),.int .i64 ((0:Nat):Int)]]:=QK
    (try((repeat(revert hN;revert N;apply Pn.out));refine wk (tw @c81 (tw @cg0 (tw @cg1 (tw @qx (tw @Lu (tw @Lv (tw @nW (tw @ra (tw @mQ (tw @l0 (tw @oS (tw @oT (tw @Bool.not_false @Bool.not_true))))))))))))) ?_;(repeat(refine Pn.mk ?_;intro N hN))))
    refine gF ?_ ?_ ?_ (by(try dsimp only);exact⟨by omega,Q6.frame fun k hk=>sd (tw @OK (tw @OG (tw @OH (tw @OI @OJ))))⟩) (.inr ⟨⟨320025002,x1+1+1+1+1⟩,by simp only[go_sem, ↓reduceIte,Nat.reduceEqDiff,Nat.reduceAdd,Nat.reduceSub,Nat.reduceLeDiff,reduceCtorEq,Tw];rfl,by rw[Tr];exact LJ (v':=x1+1+1+1+1+1) (sd @Nat.zero_add) (sd @eN.eq_1) (by(try dsimp only);omega) (by(try dsimp only);omega)⟩)
    all_goals simp only[go_sem, ↓reduceIte,Nat.reduceEqDiff,Nat.reduceAdd,Nat.reduceSub,Nat.reduceLeDiff,reduceCtorEq,c81,cg0,cg1,qx,Lu,Lv,Vv]
   ·obtain⟨rows,uA,sR,k5⟩:=cS.new x
    rw[qM]at sR
    have zR:o.site=320025002:=by obtain⟨_,_,_,_,_,_,h,_⟩:=cS;exact h
    have rX:o.bj<x1:=by obtain⟨_,_,_,_,_,_,_,h⟩:=cS;omega
    have qS:=dB rX
    have RW:=gG (o:=o) zR (b:=320017000) (v:=st_b.next+1+1) (by decide)
    have QE:=gG (o:=o) zR (b:=320001001) (v:=n0+1) (by decide)
    have OL:∀k,(G k=o)=False:=fun k=>by simp only[eq_iff_iff,iff_false];intro h;have h1:=Tb k;rw[h,zR]at h1;cases h1
    have sP:(rows++[[AV.cu]])[(leads x L).length]? =some [.cu]:=by rw[<-sR];simp
    have xx:∀a:List AV,(rows++[[AV.cu]]).set (leads x L).length a=rows++[a]:=fun a=>by rw[<-sR];simp
    have e1:(leads x L).length+1<=16777216:=by omega
    have e2:((leads x L).length:Int)<(((leads x L).length+1:Nat):Int):=by omega
    (try((repeat(revert hN;revert N;apply Pn.out));refine wk (tw @c81 (tw @cg0 (tw @cg1 (tw @qx (tw @Lu (tw @Lv (tw @nW (tw @ra (tw @mQ (tw @uA (tw @sR (tw @qS (tw @RW (tw @sP (tw @xx (tw @e1 (tw @e2 (tw @oS (tw @oT (tw @Bool.not_false @Bool.not_true)))))))))))))))))))) ?_;(repeat(refine Pn.mk ?_;intro N hN))))
    refine gF ?_ ?_ ?_ (by(try dsimp only);exact⟨by omega,Q6.frame fun k hk=>sd (tw @OK (tw @OG (tw @OH (tw @OI (tw @OJ @OL)))))⟩) (.inr ⟨⟨320025002,x1+1+1+1+1⟩,sd @Tw,by rw[Tr];exact k5 _ _ (x1+1+1+1+1+1) _ (by omega) (by(try dsimp only);omega) (by(try dsimp only);omega) (sd @xx) (sd @eN.eq_1) (fun j hj hv=>by
     have q1:=dB (i:=j) (n:=x1) (by omega)
     have q2:=gG hj (b:=320017000) (v:=st_b.next+1+1) (by decide)
     have q3:(j=o)=False:=by simp only[eq_iff_iff,iff_false];intro h;rw[h,zR]at hj;cases hj
     simp only[go_sem, ↓reduceIte,Nat.reduceEqDiff,Nat.reduceAdd,Nat.reduceSub,Nat.reduceLeDiff,reduceCtorEq,q1,q2,q3])⟩)
    all_goals simp only[go_sem, ↓reduceIte,Nat.reduceEqDiff,Nat.reduceAdd,Nat.reduceSub,Nat.reduceLeDiff,reduceCtorEq,c81,cg0,cg1,qx,Lu,Lv,QK,qS,RW,QE]
  ·obtain⟨mQ,JE,dV⟩:=yN hL hr
   obtain⟨RI,Tr⟩:=DO hL hr
   have Tw:(leads (x+1) L).length=(leads x L).length:=by rw[gN,if_neg hr];simp
   have Eb:=Er hr
   rcases cI1 with⟨rfl,nW⟩|⟨o,nW,cS⟩
   ·exact absurd (Nat.le_zero.1 (hL.le 0)) hr
   ·obtain⟨rows,id,uA,sR,hrk,hid,Jt,hidv,UO⟩:=cS.add RI x
    rw[qM]at sR
    have zR:o.site=320025002:=by obtain⟨_,_,_,_,_,_,h,_⟩:=cS;exact h
    have rX:o.bj<x1:=by obtain⟨_,_,_,_,_,_,_,h⟩:=cS;omega
    have qS:=dB rX
    have wg:=dB (i:=id) (n:=x1) (by omega)
    have kJ:(bW L x:Int)<((leads x L).length:Int):=by omega
    have RS:=Cq x L (L x)
    have hma:((members x L (L x)).map eN).length=(members x L (L x)).length:=by simp
    have e1:(members x L (L x)).length+1<=16777216:=by omega
    have QF:(o=id)=False:=by simp only[eq_iff_iff,iff_false];rintro rfl;rw[Jt]at zR;cases zR
    have Qx:(id=o)=False:=by simp only[eq_iff_iff,iff_false];rintro rfl;rw[Jt]at zR;cases zR
    have RW:=gG (o:=o) zR (b:=320017000) (v:=st_b.next+1+1) (by decide)
    have QE:=gG (o:=o) zR (b:=320001001) (v:=n0+1) (by decide)
    have hiM:=gG (o:=id) Jt (b:=320017000) (v:=st_b.next+1+1) (by decide)
    have hiT:=gG (o:=id) Jt (b:=320001001) (v:=n0+1) (by decide)
    have OL:∀k,(G k=o)=False:=fun k=>by simp only[eq_iff_iff,iff_false];intro h;have h1:=Tb k;rw[h,zR]at h1;cases h1
    have Uu:∀k,(G k=id)=False:=fun k=>by simp only[eq_iff_iff,iff_false];intro h;have h1:=Tb k;rw[h,Jt]at h1;cases h1
    (try((repeat(revert hN;revert N;apply Pn.out));refine wk (tw @c81 (tw @cg0 (tw @cg1 (tw @qx (tw @Lu (tw @Lv (tw @nW (tw @ra (tw @mQ (tw @JE (tw @uA (tw @sR (tw @hrk (tw @hid (tw @qS (tw @wg (tw @kJ (tw @hma (tw @e1 (tw @QF (tw @Qx (tw @RW (tw @QE (tw @hiM (tw @hiT (tw @oS (tw @oT (tw @Bool.not_false @Bool.not_true)))))))))))))))))))))))))))) ?_;(repeat(refine Pn.mk ?_;intro N hN))))
    refine gF ?_ ?_ ?_ (by(try dsimp only);exact⟨by omega,Q6.frame fun k hk=>sd (tw @OK (tw @OG (tw @OH (tw @OI (tw @OJ (tw @OL @Uu))))))⟩) (.inr ⟨o,sd (tw @Tw @nW),by rw[Tr];exact UO _ (x1+1+1) _ (by omega) (by(try dsimp only);omega) (sd @Nat.zero_add) (sd (tw @qS (tw @wg (tw @QF @Qx)))) (fun j hj hv mO=>by
     have q1:=dB (i:=j) (n:=x1) (by omega)
     have q2:=gG hj (b:=320017000) (v:=st_b.next+1+1) (by decide)
     have q3:(j=o)=False:=by simp only[eq_iff_iff,iff_false];intro h;rw[h,zR]at hj;cases hj
     simp only[go_sem, ↓reduceIte,Nat.reduceEqDiff,Nat.reduceAdd,Nat.reduceSub,Nat.reduceLeDiff,reduceCtorEq,q1,q2,q3,mO])⟩)
    all_goals simp only[go_sem, ↓reduceIte,Nat.reduceEqDiff,Nat.reduceAdd,Nat.reduceSub,Nat.reduceLeDiff,reduceCtorEq,c81,cg0,cg1,qx,Lu,Lv,Eb,qS,wg,RW,QE,hiM,hiT]
 have VE:x=cnt:=by omega
 rcases cI1 with⟨h0,_⟩|⟨o,nW,rows,ids,uA,hR,_,_,_,_⟩
 ·omega
 have sR:=hR.len
 rw[qM]at sR
 (try((repeat(revert hN;revert N;apply Pn.out));refine wk (tw @c81 (tw @cg0 (tw @cg1 (tw @qx (tw @Lu (tw @Lv (tw @hx (tw @nW @uA)))))))) ?_;(repeat(refine Pn.mk ?_;intro N hN))))
 refine w7 (.inl rfl) (by simp only[go_sem, ↓reduceIte,Nat.reduceEqDiff,Nat.reduceAdd,Nat.reduceSub,Nat.reduceLeDiff,reduceCtorEq];rfl) ?_
 rw[uO uA (by omega) (rows':=(fE cnt L).map AQ) (by
  rw[List.drop_zero,List.take_of_length_le (by omega)]
  rw[VE]at hR;exact JT 3 hR)]
theorem KT (b:PB) (t:Int):ar Tryz.prog 323 [.agg (aC b),.dn [.int .i64 t]] (.bool (decide (b.s<t))):=by
 refine ar.body eG rfl fun hl n0=>?_
 clear hl
 (try((repeat(revert hN;revert N;apply Pn.out));refine wk @aC.eq_1 ?_;(repeat(refine Pn.mk ?_;intro N hN))))
 exact aQ (b:=decide (b.s<t)) (.inl rfl) (sd @Nat.zero_add) rfl
theorem yK (bs:List PB) (t:Int) (hl:bs.length<=1048576):ar Tryz.prog 335 [.sl (bs.map aC),.fn 323 [.dn [.int .i64 t]]] (.int .i64 (kr (fun b:PB=>decide (b.s<t)) bs)):=
 ua I1 (show mo Tryz.prog 335=some (tj 335 3 true) by kernel_rfl) bs hl 323 _ _ (fun x _=>KT x t) fun g=>by simp only[aj,aq,aU,Option.map_some]
theorem IY (bs:List PB) (hp:0<bs.length) (hl:bs.length<=1048576) (σ:ax):
  Call Tryz.prog 322 [.sl (bs.map aC)] σ fun r σ'=>∃o:Id,r=.own o 0 bs.length/\σ'.get o=some ⟨true,3,bs.map aC⟩/\σ.next<=o.bj/\o.bj<σ'.next/\∀i:Id,i.bj<σ.next->σ'.get i=σ.get i:=by
 refine eZ eG rfl fun hl=>?_
 clear hl
 have hz:=all_map (l:=bs) NZ
 obtain⟨b,r,rfl⟩:∃b r,bs=b::r:=by
  cases bs with
  |nil=>simp at hp
  |cons b r=>exact⟨b,r,rfl⟩
 have gY:(List.map aC (b::r)).length=(b::r).length:=by simp
 have e1:r.length<=16777215:=by simp at hl;omega
 rw[List.map_cons]at hz gY ⊢
 (try((repeat(revert hN;revert N;apply Pn.out));refine wk (tw @hz (tw @gY @e1)) ?_;(repeat(refine Pn.mk ?_;intro N hN))))
 refine fq (.inl rfl) (vs:=[.own ⟨322003002,σ.next+1+1⟩ 0 (b::r).length]) (by simp only[fy,iv,go_sem, ↓reduceIte,Nat.reduceEqDiff,Nat.reduceAdd,Nat.reduceSub,Nat.reduceLeDiff,reduceCtorEq,List.length_cons]) ⟨⟨322003002,σ.next+1+1⟩,rfl,sd @Nat.zero_add,by(try dsimp only);omega,by(try dsimp only);omega,fun i hi=>?_⟩
 have hv:=dB hi
 simp only[go_sem, ↓reduceIte,Nat.reduceEqDiff,Nat.reduceAdd,Nat.reduceSub,Nat.reduceLeDiff,reduceCtorEq,hv]
theorem pj {t:Int} {bs:List PB} {j:Nat} (hj:j<bs.length):aL t (bs.take (j+1))=aL t (bs.take j)++if decide (bs[j].s<t)=true then[]else[bs[j]]:=by
 rw[uj t bs j hj]
 congr 1
 by_cases h:bs[j].s<t
 ·rw[if_neg (by omega),if_pos (decide_eq_true h)]
 ·rw[if_pos (by omega),if_neg (by simp only[decide_eq_true_eq];exact h)]
theorem ui {t:Int} {bs:List PB} (h:∀b∈bs,¬b.s<t):aL t bs=bs:=by
 unfold aL
 rw[List.filter_eq_self]
 intro b hb
 have:=h b hb
 exact decide_eq_true (by omega)
structure um (t:Int) (bs:List PB) (j:Nat) (R:List PB):Prop where
 len:R.length=bs.length
 pre:R.take (aL t (bs.take j)).length=aL t (bs.take j)
 post:∀x,j<=x->R[x]? =bs[x]?
 lt:(aL t (bs.take j)).length<j
theorem um.start {t:Int} {bs:List PB} {i:Nat} (hi:i<bs.length) (hw:bs[i].s<t) (hp:∀x (h:x<i),¬bs[x].s<t):um t bs (i+1) bs/\(aL t (bs.take (i+1))).length=i:=by
 have h1:aL t (bs.take i)=bs.take i:=ui fun b hb=>by
  obtain⟨x,hx,rfl⟩:=List.getElem_of_mem hb
  rw[List.length_take]at hx
  rw[List.getElem_take]
  exact hp x (by omega)
 have h2:aL t (bs.take (i+1))=bs.take i:=by rw[pj hi,if_pos (decide_eq_true hw),List.append_nil,h1]
 have h3:(bs.take i).length=i:=by rw[List.length_take];omega
 exact⟨⟨rfl,by rw[h2,h3],fun _ _=>rfl,by rw[h2,h3];omega⟩,by rw[h2,h3]⟩
theorem um.SK {t:Int} {bs R:List PB} {j:Nat} (h:um t bs j R) (hj:j<bs.length) (hw:bs[j].s<t):um t bs (j+1) R/\(aL t (bs.take (j+1))).length=(aL t (bs.take j)).length:=by
 have h2:aL t (bs.take (j+1))=aL t (bs.take j):=by rw[pj hj,if_pos (decide_eq_true hw),List.append_nil]
 exact⟨⟨h.len,by rw[h2];exact h.pre,fun x hx=>h.post x (by omega),by rw[h2];have:=h.lt;omega⟩,by rw[h2]⟩
theorem um.uE {t:Int} {bs R:List PB} {j:Nat} (h:um t bs j R) (hj:j<bs.length) (hw:¬bs[j].s<t):um t bs (j+1) (R.set (aL t (bs.take j)).length bs[j])/\(aL t (bs.take (j+1))).length=(aL t (bs.take j)).length+1:=by
 have h2:aL t (bs.take (j+1))=aL t (bs.take j)++[bs[j]]:=by rw[pj hj,if_neg (by simp only[decide_eq_true_eq];exact hw)]
 have dV:=h.lt
 have hlen:=h.len
 have uB:=h.pre
 generalize hc:(aL t (bs.take j)).length=c at *
 refine⟨⟨by rw[List.length_set];exact hlen,?_,fun x hx=>?_,by rw[h2,List.length_append,hc];simp;omega⟩,by rw[h2,List.length_append,hc];rfl⟩
 ·rw[h2,List.length_append,hc,List.length_singleton,List.take_succ_eq_append_getElem (by rw[List.length_set];omega),List.getElem_set_self,List.take_set_of_le (Nat.le_refl _),uB]
 ·rw[List.getElem?_set_ne (by omega)];exact h.post x (by omega)
theorem um.at_ {t:Int} {bs R:List PB} {j:Nat} (h:um t bs j R) (hj:j<bs.length):(R.map aC)[j]? =some (aC bs[j]):=by
 rw[List.getElem?_map,h.post j (Nat.le_refl j),List.getElem?_eq_getElem hj];rfl
theorem DE {p:PB->Bool} {bs:List PB} (h:¬0<=kr p bs):∀b∈bs,p b=false:=by
 intro b hb
 unfold kr at h
 split at h
 ·omega
 ·rename_i h1
  rw[List.findIdx_lt_length]at h1
  cases hp:p b
  ·rfl
  ·exact absurd ⟨b,hb,hp⟩ h1
theorem DF {p:PB->Bool} {bs:List PB} (h:0<=kr p bs):∃i,∃hi:i<bs.length,kr p bs=(i:Int)/\p bs[i]=true/\∀x (hx:x<i),p (bs[x]'(by omega))=false:=by
 unfold kr at h ⊢
 split
 ·rename_i h1
  exact⟨bs.findIdx p,h1,rfl,List.findIdx_getElem,fun x hx=>by simpa using List.not_of_lt_findIdx hx⟩
 ·rename_i h1;rw[if_neg h1]at h;omega
theorem GF (bs:List PB) (t:Int) (hl:bs.length<=1048576) (o T:Id) (σ:ax) (ho:σ.get o=some ⟨true,3,bs.map aC⟩) (hT:σ.get T=some ⟨true,1,[[.int .i64 t]]⟩) (rX:o.bj<σ.next) (UI:T.bj<σ.next) (QE:o≠T):
  Call Tryz.prog 321 [.own o 0 bs.length,.fn 323 [.ptr T 0 0]] σ fun r σ'=>∃rows,r=.own o 0 (aL t bs).length/\σ'.get o=some ⟨true,3,rows⟩/\rows.take (aL t bs).length=(aL t bs).map aC/\(aL t bs).length<=rows.length/\σ.next<=σ'.next/\∀i:Id,i.bj<σ.next->i≠o->σ'.get i=σ.get i:=by
 refine eZ eG rfl fun lG=>?_
 clear lG
 have C7:=yK bs t hl
 have hzT:∀(g:Rows),g T=some ⟨true,1,[[.int .i64 t]]⟩->V.fz (dJ g) 5 (.ptr T 0 0)=some (.dn [.int .i64 t]):=fun g hg=>zE (sz:=1) (rows:=[[.int .i64 t]]) (by simp[dJ,hg]) rfl (by simp only[List.drop_zero,aj,aq,aH,Option.map_some])
 have yJ:∀(g:Rows),g T=some ⟨true,1,[[.int .i64 t]]⟩->g o=some ⟨true,3,bs.map aC⟩->dd (dJ g) 6 [.own o 0 bs.length,.fn 323 [.ptr T 0 0]]=some [.sl (bs.map aC),.fn 323 [.dn [.int .i64 t]]]:=fun g h1 h2=>by
  have q1:=fA (g:=dJ g) (n:=5) (e:=aC) (sz:=3) (len:=bs.length) (l:=bs) (id:=o) (by simp[dJ,h2]) rfl fun b=>zC _ 4 b
  have q2:=hzT g h1
  simp only[aj,aq,q1,cK,List.all_cons,List.all_nil,AV.cell,Bool.and_true,if_true,q2,Option.map_some]
 have kK:∀(g:Rows),g T=some ⟨true,1,[[.int .i64 t]]⟩->∀b:PB,dd (dJ g) 6 [.agg (aC b),.ptr T 0 0]=some [.agg (aC b),.dn [.int .i64 t]]:=fun g h1 b=>by
  have q3:V.fz (dJ g) 6 (.ptr T 0 0)=some (.dn [.int .i64 t]):=zE (sz:=1) (rows:=[[.int .i64 t]]) (by simp[dJ,h1]) rfl (by simp only[List.drop_zero,aj,aq,aH,Option.map_some])
  simp only[aj,aq,bc,zC,q3,Option.map_some]
 (try((repeat(revert hN;revert N;apply Pn.out));refine wk @Nat.zero_add ?_;(repeat(refine Pn.mk ?_;intro N hN))))
 refine .inl ⟨_,ar.x C7 (yJ _ hT ho),?_⟩
 refine hN _ _ ?_
 clear hN N
 by_cases h0:0<=kr (fun b:PB=>decide (b.s<t)) bs
 ·obtain⟨i,hi,G1,hpi,Pf⟩:=DF h0
  rw[G1]at *
  have LZ:decide ((i:Int)= -1)=false:=decide_eq_false (by omega)
  have Pr:IntKind.i64.wrap ((i:Int)+1)=((i+1:Nat):Int):=ay (by omega)
  obtain⟨dQ,xx⟩:=um.start (t:=t) hi (by simpa using hpi) (fun x hx=>by simpa using Pf x hx)
  (try((repeat(revert hN;revert N;apply Pn.out));refine wk (tw @LZ @Pr) ?_;(repeat(refine Pn.mk ?_;intro N hN))))
  refine aM (fun m env st=>∃(j:Nat) (R:List PB),m=bs.length-j/\env 6=.int .i64 (j:Int)/\env 5=.int .i64 ((aL t (bs.take j)).length:Int)/\st.get o=some ⟨true,3,R.map aC⟩/\um t bs j R/\j<=bs.length/\σ.next<=st.next/\∀x:Id,x.bj<σ.next->(x=o)=False->st.get x=σ.get x) (bs.length-(i+1)) ⟨i+1,bs,rfl,sd @Pr,sd @xx,sd @ho,dQ,by omega,by(try dsimp only);omega,fun x _ _=>sd @Nat.zero_add⟩ ?_
  rintro m env_b st_b ⟨j,R,rfl,b6,b5,bg,hD,gM,hle,mz⟩ e7
  have b0:=e7 0 (by kernel_rfl)
  have b1:=e7 1 (by kernel_rfl)
  simp only[go_sem, ↓reduceIte,Nat.reduceEqDiff,Nat.reduceAdd,Nat.reduceSub,Nat.reduceLeDiff,reduceCtorEq]at b0 b1
  clear e7
  have bT:=(mz T UI (by simp only[eq_iff_iff,iff_false];exact fun h=>QE h.symm)).trans hT
  have kS:=dB (i:=o) (n:=st_b.next) (by omega)
  have VA:=dB (i:=T) (n:=st_b.next) (by omega)
  have hRl:=hD.len
  have UF:(R.map aC).length=bs.length:=by rw[List.length_map,hRl]
  have dV:=hD.lt
  by_cases hj:(j:Int)<(bs.length:Int)
  ·have iy:j<bs.length:=by omega
   have zN:=hD.at_ iy
   have Ps:=KT bs[j] t
   have TK:IntKind.i64.wrap ((j:Int)+1)=((j+1:Nat):Int):=ay (by omega)
   have hD1:=hD.SK iy
   have hD2:=hD.uE iy
   generalize bs[j]=b at *
   (try((repeat(revert hN;revert N;apply Pn.out));refine wk (tw @b0 (tw @b1 (tw @b5 (tw @b6 (tw @bg (tw @hj (tw @zN (tw @aC.eq_1 (tw @kS (tw @VA @UF)))))))))) ?_;(repeat(refine Pn.mk ?_;intro N hN))))
   refine .inl ⟨_,ar.x Ps (kK _ (sd (tw @VA @bT)) b),?_⟩
   refine hN _ _ ?_
   clear hN N
   by_cases hw:b.s<t
   ·obtain⟨Uq,Up⟩:=hD1 hw
    have hd:decide (b.s<t)=true:=decide_eq_true hw
    (try((repeat(revert hN;revert N;apply Pn.out));refine wk (tw @b0 (tw @b1 (tw @b5 (tw @b6 (tw @hd @TK))))) ?_;(repeat(refine Pn.mk ?_;intro N hN))))
    refine⟨_,?_,j+1,R,rfl,sd @TK,sd (tw @b5 @Up),sd (tw @bg @kS),Uq,by omega,by(try dsimp only);omega,fun x hx A5=>?_⟩
    ·omega
    ·have QM:=dB (i:=x) (n:=st_b.next) (by omega)
     have:=mz x hx A5
     simp only[go_sem, ↓reduceIte,Nat.reduceEqDiff,Nat.reduceAdd,Nat.reduceSub,Nat.reduceLeDiff,reduceCtorEq,QM,this]
   ·obtain⟨Uq,Up⟩:=hD2 hw
    have hd:decide (b.s<t)=false:=decide_eq_false hw
    have US:((aL t (bs.take j)).length:Int)<(bs.length:Int):=by omega
    have hwc:IntKind.i64.wrap (((aL t (bs.take j)).length:Int)+1)=(((aL t (bs.take j)).length+1:Nat):Int):=ay (by omega)
    have dW:(R.map aC).set (aL t (bs.take j)).length [.int .i64 (b.a:Int),.int .i64 (b.b:Int),.int .i64 b.s]=(R.set (aL t (bs.take j)).length b).map aC:=by rw[List.map_set];rfl
    have Nz:∃y,(R.map aC)[(aL t (bs.take j)).length]? =some (aC y):=⟨R[(aL t (bs.take j)).length]'(by omega),by rw[List.getElem?_map,List.getElem?_eq_getElem (by omega)];rfl⟩
    obtain⟨y,Nz⟩:=Nz
    rw[aC]at Nz
    (try((repeat(revert hN;revert N;apply Pn.out));refine wk (tw @b0 (tw @b1 (tw @b5 (tw @b6 (tw @bg (tw @hd (tw @TK (tw @hwc (tw @US (tw @dW (tw @Nz (tw @kS (tw @VA @UF))))))))))))) ?_;(repeat(refine Pn.mk ?_;intro N hN))))
    refine⟨_,?_,j+1,_,rfl,sd @TK,sd (tw @hwc @Up),sd @dW,Uq,by omega,by(try dsimp only);omega,fun x hx A5=>?_⟩
    ·omega
    ·have QM:=dB (i:=x) (n:=st_b.next) (by omega)
     have:=mz x hx A5
     simp only[go_sem, ↓reduceIte,Nat.reduceEqDiff,Nat.reduceAdd,Nat.reduceSub,Nat.reduceLeDiff,reduceCtorEq,QM,this,A5]
  ·have gM:j=bs.length:=by omega
   subst gM
   have uB:=hD.pre
   rw[List.take_length]at b5 dV uB
   have US:((aL t bs).length:Int)<=(bs.length:Int):=by omega
   have Tm:(aL t bs).length<=bs.length:=by omega
   have qQ:(aL t bs).length+(bs.length-(aL t bs).length)=bs.length:=by omega
   have xx:=nB t bs
   (try((repeat(revert hN;revert N;apply Pn.out));refine wk (tw @b0 (tw @b1 (tw @b5 (tw @b6 (tw @bg (tw @hj (tw @UF (tw @US (tw @Tm (tw @qQ (tw @Nat.le_refl (tw @Nat.sub_zero (tw @Int.le_refl @kS))))))))))))) ?_;(repeat(refine Pn.mk ?_;intro N hN))))
   refine fq (.inl rfl) (vs:=[.own o 0 (aL t bs).length]) (sd @Nat.zero_add) ⟨_,rfl,by simp only[go_sem, ↓reduceIte,Nat.reduceEqDiff,Nat.reduceAdd,Nat.reduceSub,Nat.reduceLeDiff,reduceCtorEq];rfl,?_,?_,by(try dsimp only);omega,fun x hx A5=>?_⟩
   ·have hm:List.take (aL t bs).length (List.map aC R)=(aL t bs).map aC:=by rw[<-List.map_take,uB]
    rw[hm,List.append_assoc,List.take_append_of_le_length (by simp),List.take_of_length_le (by simp)]
   ·have hm:List.take (aL t bs).length (List.map aC R)=(aL t bs).map aC:=by rw[<-List.map_take,uB]
    rw[hm]
    simp only[List.length_append,List.length_map]
    omega
   ·have Se:(x=o)=False:=by simp only[eq_iff_iff,iff_false];exact A5
    have:=mz x hx Se
    simp only[go_sem, ↓reduceIte,Nat.reduceEqDiff,Nat.reduceAdd,Nat.reduceSub,Nat.reduceLeDiff,reduceCtorEq,Se,this]
 ·have hn:=DE h0
  have dQ:=ui (t:=t) (bs:=bs) fun b hb=>by simpa using hn b hb
  have hd:decide (kr (fun b:PB=>decide (b.s<t)) bs= -1)=true:=decide_eq_true (by
   unfold kr at h0 ⊢
   split
   ·rename_i h;rw[if_pos h]at h0;omega
   ·rfl)
  (try((repeat(revert hN;revert N;apply Pn.out));refine wk @hd ?_;(repeat(refine Pn.mk ?_;intro N hN))))
  refine fq (.inl rfl) (vs:=[.own o 0 bs.length]) (sd @Nat.zero_add) ⟨bs.map aC,by rw[dQ];rfl,sd @ho,by rw[dQ,List.take_of_length_le (by simp)],by rw[dQ];simp,by(try dsimp only);omega,fun x _ _=>rfl⟩
def Ay (bs:List PB):AV:=if bs=[]then .cu else .sl (bs.map aC)
theorem MY:Ay []=.cu:=rfl
theorem Az {bs:List PB} (h:0<bs.length):Ay bs=.sl (bs.map aC):=by
 unfold Ay
 rw[if_neg (by rintro rfl;simp at h)]
theorem xI (cnt:Nat) (zQ:1<=cnt) (hn:cnt<=1048576) (bs:List PB) (hb:∀b∈bs,b.a<cnt/\b.b<cnt) (hp:0<bs.length) (oe:bs.length<=1048576) (t:Int):ar Tryz.prog 287 [.int .i64 cnt,.sl (bs.map aC),.int .i64 t] (.iD [.int .i64 (leads cnt (eE (aL t bs))).length,Ay (dy (eE (aL t bs)) bs)]):=by
 refine ar.body eG rfl fun hl n0=>?_
 clear hl
 (try((repeat(revert hN;revert N;apply Pn.out));refine wk @Nat.zero_add ?_;(repeat(refine Pn.mk ?_;intro N hN))))
 refine .inr (aJ _ _ _ _ _ (fun r σ1 hq=>?_) (IY bs hp oe _))
 obtain⟨o,rfl,ho,L2,L3,RH⟩:=hq
 (try dsimp only at ho L2 L3 RH)
 refine hN _ _ ?_
 clear hN N
 (try((repeat(revert hN;revert N;apply Pn.out));refine wk @Nat.zero_add ?_;(repeat(refine Pn.mk ?_;intro N hN))))
 refine .inr (aJ _ _ _ _ _ (fun r σ2 hq=>?_) (GF bs t oe o ⟨287000000,n0⟩ _ ho (by rw[RH _ (by(try dsimp only);omega)];simp only[go_sem, ↓reduceIte,Nat.reduceEqDiff,Nat.reduceAdd,Nat.reduceSub,Nat.reduceLeDiff,reduceCtorEq]) (by(try dsimp only);omega) (by(try dsimp only);omega) (by rintro rfl;simp only at L2;omega)))
 obtain⟨rows,rfl,fe,TD,sR,np,Jq⟩:=hq
 (try dsimp only at np Jq)
 refine hN _ _ ?_
 clear hN N
 have Ib:=v7 cnt zQ hn (aL t bs) (fun b h=>hb b (xg h)) (by have:=nB t bs;omega)
 have hL:=ub (aL t bs)
 have hz:∀x,dd (dJ σ2.get) 6 [.int .i64 x,.own o 0 (aL t bs).length]=some [.int .i64 x,.sl ((aL t bs).map aC)]:=fun x=>by
  have:V.fz (dJ σ2.get) 6 (.own o 0 (aL t bs).length)=some (.sl ((aL t bs).map aC)):=by
   rw[ij];simp only[dJ,fe,Option.map_some,if_true]
   rw[if_pos (by omega),List.drop_zero,TD,qK fun b=>zC _ 4 b];rfl
  simp only[aj,aq,aH,this,Option.map_some]
 (try((repeat(revert hN;revert N;apply Pn.out));refine wk @Nat.zero_add ?_;(repeat(refine Pn.mk ?_;intro N hN))))
 refine .inl ⟨_,ar.x Ib (hz _),?_⟩
 refine hN _ _ ?_
 clear hN N
 generalize eE (aL t bs)=L at *
 have sP:((fE cnt L).map AQ).length=(leads cnt L).length:=by simp[fE]
 have Tv:=jR cnt L
 have jM:(0:Int)<=(cnt:Int):=by omega
 have p9:(cnt:Int)<=((16777216:Nat):Int):=by omega
 have ia:List.replicate cnt [AV.int .i64 0]=dG (de cnt L 0 0) cnt:=by rw[xk,o8]
 (try((repeat(revert hN;revert N;apply Pn.out));refine wk (tw @jM (tw @p9 (tw @Int.le_refl (tw @sP @ia)))) ?_;(repeat(refine Pn.mk ?_;intro N hN))))
 refine aM (fun n env st=>∃i:Nat,n=((leads cnt L).length)-i/\i<=((leads cnt L).length)/\env 27=.int .i64 (i:Int)/\st.get ⟨287002001,σ2.next+1⟩=some ⟨true,1,dG (de cnt L i 0) cnt⟩/\(σ2.next+1<st.next)) ((leads cnt L).length) ⟨0,by omega,by omega,sl (tw @ia @sP),sl (tw @ia @sP),(by(try dsimp only);omega)⟩ ?_
 rintro n_c env_c st_c ⟨i,rfl,cle,c27,cg0,cI0⟩ iM
 have c1:=iM 1 (by kernel_rfl);have c8:=iM 8 (by kernel_rfl);have c9:=iM 9 (by kernel_rfl);have xE:=iM 25 (by kernel_rfl);have xF:=iM 26 (by kernel_rfl)
 simp only[go_sem, ↓reduceIte,Nat.reduceEqDiff,Nat.reduceAdd,Nat.reduceSub,Nat.reduceLeDiff,reduceCtorEq,ia,sP]at c1 c8 c9 xE xF
 clear iM
 by_cases hi:(i:Int)<((leads cnt L).length:Int)
 ·have gF:∀{e:Env} {gg:Rows} {nx:Nat},(e 27=.int .i64 (IntKind.i64.wrap ((i:Int)+1)))->(gg ⟨287002001,σ2.next+1⟩=some ⟨true,1,dG (de cnt L (i+1) 0) cnt⟩)->(σ2.next+1<nx)->∃m0,m0<((leads cnt L).length)-i/\∃i:Nat,m0=((leads cnt L).length)-i/\i<=((leads cnt L).length)/\e 27=.int .i64 (i:Int)/\gg ⟨287002001,σ2.next+1⟩=some ⟨true,1,dG (de cnt L i 0) cnt⟩/\(σ2.next+1<nx):=fun x1 x2 x3=>⟨_,by omega,i+1,rfl,by omega,(by rw[x1,ay (by omega)]),x2,x3⟩
  have fB:i<(leads cnt L).length:=by omega
  have kJ:((fE cnt L).map AQ)[i]? =some (AQ (members cnt L (leads cnt L)[i])):=by simp[fE,fB]
  have sO:(leads cnt L).getD i 0=(leads cnt L)[i]:=by simp[List.getD_eq_getElem?_getD,fB]
  have AX:∀m,de cnt L i m=fun x=>if bW L x<i then bW L x else if x∈(members cnt L (leads cnt L)[i]).take m then i else 0:=fun m=>by unfold de;rw[sO]
  have rW:=fun x (hx:x<cnt)=>tr hL (n:=cnt) (k:=x) (i:=i) hx fB
  have mh:(members cnt L (leads cnt L)[i]).Nodup:=List.nodup_range.filter _
  have LY:∀x∈members cnt L (leads cnt L)[i],x<cnt:=fun x hx=>(lW.1 hx).1
  have hMc:(members cnt L (leads cnt L)[i]).length<=cnt:=by
   have:=List.length_filter_le (fun k=>L k==(leads cnt L)[i]) (List.range cnt)
   simpa[members]using this
  generalize members cnt L (leads cnt L)[i]=M at *
  have C4:(M.map eN).length=M.length:=by simp
  (try((repeat(revert hN;revert N;apply Pn.out));refine wk (tw @c27 (tw @cg0 (tw @c1 (tw @c8 (tw @c9 (tw @xE (tw @xF (tw @hi (tw @sP (tw @kJ (tw @AQ.eq_1 @C4))))))))))) ?_;(repeat(refine Pn.mk ?_;intro N hN))))
  refine aM (fun n env st=>∃m:Nat,n=(M.length)-m/\m<=(M.length)/\env 34=.int .i64 (m:Int)/\st.get ⟨287002001,σ2.next+1⟩=some ⟨true,1,dG (de cnt L i m) cnt⟩/\(σ2.next+1<st.next)) (M.length) ⟨0,by omega,by omega,sl (tw @c27 (tw @cg0 (tw @c1 (tw @c8 (tw @c9 (tw @xE (tw @xF @C4))))))),sl (tw @c27 (tw @cg0 (tw @c1 (tw @c8 (tw @c9 (tw @xE (tw @xF @C4))))))),(by(try dsimp only);omega)⟩ ?_
  rintro n_d env_d st_d ⟨m,rfl,dle,d34,dg0,dI0⟩ dfr
  have d1:=dfr 1 (by kernel_rfl);have d8:=dfr 8 (by kernel_rfl);have d9:=dfr 9 (by kernel_rfl);have d10:=dfr 10 (by kernel_rfl);have d25:=dfr 25 (by kernel_rfl);have d26:=dfr 26 (by kernel_rfl);have d27:=dfr 27 (by kernel_rfl);have d32:=dfr 32 (by kernel_rfl);have d33:=dfr 33 (by kernel_rfl)
  simp only[go_sem, ↓reduceIte,Nat.reduceEqDiff,Nat.reduceAdd,Nat.reduceSub,Nat.reduceLeDiff,reduceCtorEq,c27,cg0,c1,c8,c9,xE,xF,C4]at d1 d8 d9 d10 d25 d26 d27 d32 d33
  clear dfr
  have tl:=gn (de cnt L i m) cnt
  by_cases hm:(m:Int)<(M.length:Int)
  ·have ue:∀{e:Env} {gg:Rows} {nx:Nat},(e 34=.int .i64 (IntKind.i64.wrap ((m:Int)+1)))->(gg ⟨287002001,σ2.next+1⟩=some ⟨true,1,dG (de cnt L i (m+1)) cnt⟩)->(σ2.next+1<nx)->∃m0,m0<(M.length)-m/\∃m:Nat,m0=(M.length)-m/\m<=(M.length)/\e 34=.int .i64 (m:Int)/\gg ⟨287002001,σ2.next+1⟩=some ⟨true,1,dG (de cnt L i m) cnt⟩/\(σ2.next+1<nx):=fun x1 x2 x3=>⟨_,by omega,m+1,rfl,by omega,(by rw[x1,ay (by omega)]),x2,x3⟩
   have zP:m<M.length:=by omega
   have sQ:(M.map eN)[m]? =some (eN M[m]):=by simp[zP]
   have wi:=LY _ (List.getElem_mem zP)
   have Db:(M[m]:Int)<(cnt:Int):=by omega
   have Da:=fx (f:=de cnt L i m) wi
   have dW:(dG (de cnt L i m) cnt).set M[m] (eN i)=dG (de cnt L i (m+1)) cnt:=pQ wi (by
    have h1:=(rW _ wi).1 (List.getElem_mem zP)
    rw[AX]
    simp only[]
    rw[if_neg (by omega),if_pos (by rw[List.take_succ_eq_append_getElem zP];exact List.mem_append_right _ (List.mem_singleton.2 rfl))]) fun x hx il=>by
    rw[AX,AX]
    simp only[]
    rw[List.take_succ_eq_append_getElem zP]
    simp only[List.mem_append,List.mem_singleton,il,or_false]
   rw[eN]at dW Da
   generalize M[m]=xm at *
   (try((repeat(revert hN;revert N;apply Pn.out));refine wk (tw @d34 (tw @dg0 (tw @d1 (tw @d8 (tw @d9 (tw @d10 (tw @d25 (tw @d26 (tw @d27 (tw @d32 (tw @d33 (tw @hm (tw @hi (tw @sQ (tw @C4 (tw @Db (tw @Da (tw @tl (tw @dW @eN.eq_1))))))))))))))))))) ?_;(repeat(refine Pn.mk ?_;intro N hN))))
   refine ue ?_ ?_ (by(try dsimp only);omega)
   all_goals simp only[go_sem, ↓reduceIte,Nat.reduceEqDiff,Nat.reduceAdd,Nat.reduceSub,Nat.reduceLeDiff,reduceCtorEq,d34,dg0,d1,d8,d9,d10,d25,d26,d27,d32,d33,dW]
  ·have gY:m=M.length:=by omega
   subst gY
   have pD:dG (de cnt L i M.length) cnt=dG (de cnt L (i+1) 0) cnt:=gZ fun x hx=>by
    rw[AX,List.take_length]
    simp only[de,List.take_zero,List.not_mem_nil,if_false]
    have h1:=rW x hx
    by_cases h2:bW L x<i
    ·rw[if_pos h2,if_pos (by omega)]
    ·rw[if_neg h2]
     by_cases h3:x∈M
     ·rw[if_pos h3,if_pos (by have:=h1.1 h3;omega),h1.1 h3]
     ·rw[if_neg h3,if_neg fun h4=>h3 (h1.2 (by omega))]
   (try((repeat(revert hN;revert N;apply Pn.out));refine wk (tw @d34 (tw @dg0 (tw @d1 (tw @d8 (tw @d9 (tw @d10 (tw @d25 (tw @d26 (tw @d27 (tw @d32 (tw @d33 (tw @hm (tw @hi (tw @sP @C4)))))))))))))) ?_;(repeat(refine Pn.mk ?_;intro N hN))))
   refine gF ?_ ?_ (by(try dsimp only);omega)
   all_goals simp only[go_sem, ↓reduceIte,Nat.reduceEqDiff,Nat.reduceAdd,Nat.reduceSub,Nat.reduceLeDiff,reduceCtorEq,c27,cg0,c1,c8,c9,xE,xF,d34,dg0,d1,d8,d9,d10,d25,d26,d27,d32,d33,pD]
 have nR:i=(leads cnt L).length:=by omega
 subst nR
 have xN:dG (de cnt L (leads cnt L).length 0) cnt=dG (bW L) cnt:=gZ fun x hx=>by rw[de,if_pos (kh hL hx)]
 rw[xN]at cg0
 have tl:=gn (bW L) cnt
 have Tj:(bs.map aC).length=bs.length:=by simp
 (try((repeat(revert hN;revert N;apply Pn.out));refine wk (tw @c27 (tw @cg0 (tw @c1 (tw @c8 (tw @c9 (tw @xE (tw @xF (tw @hi (tw @sP @Tj))))))))) ?_;(repeat(refine Pn.mk ?_;intro N hN))))
 have Tm:σ2.next+1<st_c.next:=cI0
 refine aM (fun n env st=>∃j:Nat,n=(bs.length)-j/\j<=(bs.length)/\env 46=.int .i64 (j:Int)/\st.get ⟨287002001,σ2.next+1⟩=some ⟨true,1,dG (bW L) cnt⟩/\(st_c.next<=st.next/\((dy L (bs.take j)=[]/\env 14=.cu)∨∃p:Id,env 14=.own p 0 (dy L (bs.take j)).length/\st.get p=some ⟨true,3,(dy L (bs.take j)).map aC⟩/\st_c.next<=p.bj/\p.bj<st.next/\0<(dy L (bs.take j)).length))) (bs.length) ⟨0,by omega,by omega,sl (tw @c27 (tw @cg0 (tw @c1 (tw @c8 (tw @c9 (tw @xE (tw @xF @Tj))))))),sl (tw @c27 (tw @cg0 (tw @c1 (tw @c8 (tw @c9 (tw @xE (tw @xF @Tj))))))),⟨by(try dsimp only);omega,.inl ⟨rfl,by(simp only[go_sem, ↓reduceIte,Nat.reduceEqDiff,Nat.reduceAdd,Nat.reduceSub,Nat.reduceLeDiff,reduceCtorEq])⟩⟩⟩ ?_
 rintro n_f env_f st_f ⟨j,rfl,fle,f46,fg0,fI0⟩ ffr
 have f1:=ffr 1 (by kernel_rfl);have f8:=ffr 8 (by kernel_rfl);have f9:=ffr 9 (by kernel_rfl);have f44:=ffr 44 (by kernel_rfl);have f45:=ffr 45 (by kernel_rfl)
 simp only[go_sem, ↓reduceIte,Nat.reduceEqDiff,Nat.reduceAdd,Nat.reduceSub,Nat.reduceLeDiff,reduceCtorEq,c27,cg0,c1,c8,c9,xE,xF,Tj]at f1 f8 f9 f44 f45
 clear ffr
 obtain⟨Qw,fO⟩:=fI0
 have G5:=dB (i:=⟨287002001,σ2.next+1⟩) (n:=st_f.next) (by(try dsimp only);omega)
 have xx:=(nA L (bs.take j)).1
 rw[List.length_take]at xx
 by_cases hj:(j:Int)<(bs.length:Int)
 ·have sj:∀{e:Env} {gg:Rows} {nx:Nat},(e 46=.int .i64 (IntKind.i64.wrap ((j:Int)+1)))->(gg ⟨287002001,σ2.next+1⟩=some ⟨true,1,dG (bW L) cnt⟩)->(st_c.next<=nx/\((dy L (bs.take (j+1))=[]/\e 14=.cu)∨∃p:Id,e 14=.own p 0 (dy L (bs.take (j+1))).length/\gg p=some ⟨true,3,(dy L (bs.take (j+1))).map aC⟩/\st_c.next<=p.bj/\p.bj<nx/\0<(dy L (bs.take (j+1))).length))->∃m0,m0<(bs.length)-j/\∃j:Nat,m0=(bs.length)-j/\j<=(bs.length)/\e 46=.int .i64 (j:Int)/\gg ⟨287002001,σ2.next+1⟩=some ⟨true,1,dG (bW L) cnt⟩/\(st_c.next<=nx/\((dy L (bs.take j)=[]/\e 14=.cu)∨∃p:Id,e 14=.own p 0 (dy L (bs.take j)).length/\gg p=some ⟨true,3,(dy L (bs.take j)).map aC⟩/\st_c.next<=p.bj/\p.bj<nx/\0<(dy L (bs.take j)).length)):=fun x1 x2 x3=>⟨_,by omega,j+1,rfl,by omega,(by rw[x1,ay (by omega)]),x2,x3⟩
  have iy:j<bs.length:=by omega
  have zN:(bs.map aC)[j]? =some (aC bs[j]):=by simp[iy]
  have LR:=hb _ (List.getElem_mem iy)
  have hs:=Av L (bs.take j) bs[j]
  rw[<-List.take_succ_eq_append_getElem iy]at hs
  generalize bs[j]=b at *
  have hA:=fx (f:=bW L) LR.1
  have hB:=fx (f:=bW L) LR.2
  have gI:(b.a:Int)<(cnt:Int):=by omega
  have fD:(b.b:Int)<(cnt:Int):=by omega
  rw[eN]at hA hB
  have e1:(dy L (bs.take j)).length+1<=16777216:=by omega
  have gY:((dy L (bs.take j)).map aC).length=(dy L (bs.take j)).length:=by simp
  by_cases he:bW L b.a=bW L b.b
  ·rw[if_pos he,List.append_nil]at hs
   have xu:decide ((bW L b.a:Int)=(bW L b.b:Int))=true:=decide_eq_true (by rw[he])
   (try((repeat(revert hN;revert N;apply Pn.out));refine wk (tw @f46 (tw @fg0 (tw @f1 (tw @f8 (tw @f9 (tw @f44 (tw @f45 (tw @hj (tw @zN (tw @hA (tw @hB (tw @gI (tw @fD (tw @tl (tw @xu (tw @G5 (tw @aC.eq_1 (tw @Bool.not_true @Bool.not_false)))))))))))))))))) ?_;(repeat(refine Pn.mk ?_;intro N hN))))
   refine sj ?_ ?_ (by(try dsimp only);exact⟨by omega,by
    rw[hs]
    rcases fO with⟨h1,h2⟩|⟨p,h1,h2,h3,h4,h5⟩
    ·exact .inl ⟨h1,sd @h2⟩
    ·have AY:=dB h4
     exact .inr ⟨p,sd @h1,sd (tw @h2 @AY),h3,by omega,h5⟩⟩)
   all_goals simp only[go_sem, ↓reduceIte,Nat.reduceEqDiff,Nat.reduceAdd,Nat.reduceSub,Nat.reduceLeDiff,reduceCtorEq,f46,fg0,f1,f8,f9,f44,f45,G5]
  ·rw[if_neg he]at hs
   have xu:decide ((bW L b.a:Int)=(bW L b.b:Int))=false:=decide_eq_false fun h=>he (by omega)
   rcases fO with⟨h1,f14⟩|⟨p,f14,fg,Pd,JA,hp3⟩
   ·rw[h1]at hs
    (try((repeat(revert hN;revert N;apply Pn.out));refine wk (tw @f46 (tw @fg0 (tw @f1 (tw @f8 (tw @f9 (tw @f44 (tw @f45 (tw @f14 (tw @hj (tw @zN (tw @hA (tw @hB (tw @gI (tw @fD (tw @tl (tw @xu (tw @G5 (tw @aC.eq_1 (tw @Bool.not_true @Bool.not_false))))))))))))))))))) ?_;(repeat(refine Pn.mk ?_;intro N hN))))
    refine sj ?_ ?_ (by(try dsimp only);exact⟨by omega,.inr ⟨⟨287017015,st_f.next+1+1+1⟩,by rw[hs];simp only[go_sem, ↓reduceIte,Nat.reduceEqDiff,Nat.reduceAdd,Nat.reduceSub,Nat.reduceLeDiff,reduceCtorEq,List.nil_append,List.length_cons,List.length_nil],by rw[hs];simp only[go_sem, ↓reduceIte,Nat.reduceEqDiff,Nat.reduceAdd,Nat.reduceSub,Nat.reduceLeDiff,reduceCtorEq,aC,List.nil_append,List.map_cons,List.map_nil],by(try dsimp only);omega,by(try dsimp only);omega,by rw[hs];simp⟩⟩)
    all_goals simp only[go_sem, ↓reduceIte,Nat.reduceEqDiff,Nat.reduceAdd,Nat.reduceSub,Nat.reduceLeDiff,reduceCtorEq,f46,fg0,f1,f8,f9,f44,f45,G5]
   ·have x1:=dv (a:=⟨287002001,σ2.next+1⟩) (b:=p) (by(try dsimp only);omega)
    have AY:=dB JA
    (try((repeat(revert hN;revert N;apply Pn.out));refine wk (tw @f46 (tw @fg0 (tw @f1 (tw @f8 (tw @f9 (tw @f44 (tw @f45 (tw @f14 (tw @fg (tw @hj (tw @zN (tw @hA (tw @hB (tw @gI (tw @fD (tw @tl (tw @xu (tw @x1 (tw @AY (tw @G5 (tw @e1 (tw @gY (tw @aC.eq_1 (tw @Bool.not_true @Bool.not_false)))))))))))))))))))))))) ?_;(repeat(refine Pn.mk ?_;intro N hN))))
    refine sj ?_ ?_ (by(try dsimp only);exact⟨by omega,.inr ⟨⟨287017015,st_f.next+1+1+1⟩,by rw[hs,List.length_append];simp only[go_sem, ↓reduceIte,Nat.reduceEqDiff,Nat.reduceAdd,Nat.reduceSub,Nat.reduceLeDiff,reduceCtorEq,List.length_cons,List.length_nil],by rw[hs,List.map_append,List.map_cons,List.map_nil];simp only[go_sem, ↓reduceIte,Nat.reduceEqDiff,Nat.reduceAdd,Nat.reduceSub,Nat.reduceLeDiff,reduceCtorEq,aC],by(try dsimp only);omega,by(try dsimp only);omega,by rw[hs];simp⟩⟩)
    all_goals simp only[go_sem, ↓reduceIte,Nat.reduceEqDiff,Nat.reduceAdd,Nat.reduceSub,Nat.reduceLeDiff,reduceCtorEq,f46,fg0,f1,f8,f9,f44,f45,x1,G5]
 ·have gM:j=bs.length:=by omega
  subst gM
  rw[List.take_length]at fO
  rcases fO with⟨h1,f14⟩|⟨p,f14,fg,Pd,JA,hp3⟩
  ·(try((repeat(revert hN;revert N;apply Pn.out));refine wk (tw @f46 (tw @fg0 (tw @f1 (tw @f8 (tw @f9 (tw @f44 (tw @f45 (tw @f14 (tw @hj @sP))))))))) ?_;(repeat(refine Pn.mk ?_;intro N hN))))
   refine jy (.inl rfl) (r1:=.int .i64 ((leads cnt L).length:Int)) (sd @Nat.zero_add) (by simp only[go_sem, ↓reduceIte,Nat.reduceEqDiff,Nat.reduceAdd,Nat.reduceSub,Nat.reduceLeDiff,reduceCtorEq];rfl) ?_
   simp only[eX,bz,cD,eC,kd,h1,MY,Option.map_some]
  ·(try((repeat(revert hN;revert N;apply Pn.out));refine wk (tw @f46 (tw @fg0 (tw @f1 (tw @f8 (tw @f9 (tw @f44 (tw @f45 (tw @f14 (tw @hj @sP))))))))) ?_;(repeat(refine Pn.mk ?_;intro N hN))))
   refine jy (.inl rfl) (r1:=.int .i64 ((leads cnt L).length:Int)) (sd @Nat.zero_add) (by simp only[go_sem, ↓reduceIte,Nat.reduceEqDiff,Nat.reduceAdd,Nat.reduceSub,Nat.reduceLeDiff,reduceCtorEq];rfl) ?_
   have h1:gx st_f.get 5 (.own p 0 (dy L bs).length)=some (.sl ((dy L bs).map aC)):=fj (sz:=3) fg rfl fun b=>uN _ 3 b
   simp only[eX,bz,cD,eC,h1,Az hp3,Option.map_some]
theorem xH (cnt:Nat) (zQ:1<=cnt) (hn:cnt<=1048576) (t:Int):ar Tryz.prog 287 [.int .i64 cnt,.cu,.int .i64 t] (.iD [.int .i64 cnt,.cu]):=by
 refine ar.body eG rfl fun hl n0=>?_
 clear hl
 have h1:ar Tryz.prog 322 [.cu] .cu:=by
  refine ar.body eG rfl fun hl n0=>?_
  clear hl
  (try((repeat(revert hN;revert N;apply Pn.out));refine wk @Nat.zero_add ?_;(repeat(refine Pn.mk ?_;intro N hN))))
  exact w7 (.inl rfl) (r0:=.cu) (sd @Nat.zero_add) (kd _ _)
 have h2:ar Tryz.prog 321 [.cu,.fn 323 [.dn [.int .i64 t]]] .cu:=by
  have C7:=(yK [] t (by simp)).cut mixed (.cu (.same _ .nil))
  refine ar.body eG rfl fun hl n0=>?_
  clear hl
  (try((repeat(revert hN;revert N;apply Pn.out));refine wk @Nat.zero_add ?_;(repeat(refine Pn.mk ?_;intro N hN))))
  refine .inl ⟨_,ar.x C7 (by simp only[aj,aq,aT,cK,aU,List.all_cons,List.all_nil,AV.cell,Bool.and_true,if_true,Option.map_some]),?_⟩
  refine hN _ _ ?_
  clear hN N
  have hd:decide (kr (fun b:PB=>decide (b.s<t)) []= -1)=true:=rfl
  (try((repeat(revert hN;revert N;apply Pn.out));refine wk @hd ?_;(repeat(refine Pn.mk ?_;intro N hN))))
  exact w7 (.inl rfl) (r0:=.cu) (sd @Nat.zero_add) (kd _ _)
 have Ib:=(v7 cnt zQ hn [] (fun b h=>by cases h) (by simp)).cut mixed (.same _ (.cu .nil))
 (repeat(first|((repeat(revert hN;revert N;apply Pn.out));refine wk @Nat.zero_add ?_;(repeat(refine Pn.mk ?_;intro N hN)))|((try apply Or.inl);refine⟨_,ar.x (h1) (sd @Nat.zero_add),?_⟩;refine hN _ _ ?_;clear hN N)))
 refine .inl ⟨_,ar.x h2 ?_,?_⟩
 ·have:V.fz (dJ (bR (fun _=>none) ⟨287000000,n0⟩ ⟨true,1,[[.int .i64 t]]⟩)) 5 (.ptr ⟨287000000,n0⟩ 0 0)=some (.dn [.int .i64 t]):=zE (sz:=1) (rows:=[[.int .i64 t]]) (by simp[dJ,bR]) rfl (by simp only[List.drop_zero,aj,aq,aH,Option.map_some])
  simp only[aj,aq,aT,cK,this,List.all_cons,List.all_nil,AV.cell,Bool.and_true,if_true,Option.map_some]
 refine hN _ _ ?_
 clear hN N
 have fD:eE ([]:List PB)=id:=rfl
 rw[fD]at Ib
 have hL:jI id:=fD▸ub ([]:List PB)
 have QC:(leads cnt id).length=cnt:=by rw[leads,List.filter_eq_self.2 (fun a _=>by simp)];simp
 generalize (id:Nat->Nat)=L at *
 have sP:((fE cnt L).map AQ).length=(leads cnt L).length:=by simp[fE]
 have Tv:=jR cnt L
 have jM:(0:Int)<=(cnt:Int):=by omega
 have p9:(cnt:Int)<=((16777216:Nat):Int):=by omega
 have ia:List.replicate cnt [AV.int .i64 0]=dG (de cnt L 0 0) cnt:=by rw[xk,o8]
 (repeat(first|((repeat(revert hN;revert N;apply Pn.out));refine wk (tw @jM (tw @p9 (tw @Int.le_refl (tw @sP @ia)))) ?_;(repeat(refine Pn.mk ?_;intro N hN)))|((try apply Or.inl);refine⟨_,ar.x (Ib) (sd (tw @jM (tw @p9 (tw @Int.le_refl (tw @sP @ia))))),?_⟩;refine hN _ _ ?_;clear hN N)))
 refine aM (fun n env st=>∃i:Nat,n=((leads cnt L).length)-i/\i<=((leads cnt L).length)/\env 27=.int .i64 (i:Int)/\st.get ⟨287002001,n0+1+1⟩=some ⟨true,1,dG (de cnt L i 0) cnt⟩/\(n0+1+1<st.next)) ((leads cnt L).length) ⟨0,by omega,by omega,sl (tw @ia @sP),sl (tw @ia @sP),(by(try dsimp only);omega)⟩ ?_
 rintro n_c env_c st_c ⟨i,rfl,cle,c27,cg0,cI0⟩ iM
 have c1:=iM 1 (by kernel_rfl);have c8:=iM 8 (by kernel_rfl);have c9:=iM 9 (by kernel_rfl);have xE:=iM 25 (by kernel_rfl);have xF:=iM 26 (by kernel_rfl)
 simp only[go_sem, ↓reduceIte,Nat.reduceEqDiff,Nat.reduceAdd,Nat.reduceSub,Nat.reduceLeDiff,reduceCtorEq,ia,sP]at c1 c8 c9 xE xF
 clear iM
 by_cases hi:(i:Int)<((leads cnt L).length:Int)
 ·have gF:∀{e:Env} {gg:Rows} {nx:Nat},(e 27=.int .i64 (IntKind.i64.wrap ((i:Int)+1)))->(gg ⟨287002001,n0+1+1⟩=some ⟨true,1,dG (de cnt L (i+1) 0) cnt⟩)->(n0+1+1<nx)->∃m0,m0<((leads cnt L).length)-i/\∃i:Nat,m0=((leads cnt L).length)-i/\i<=((leads cnt L).length)/\e 27=.int .i64 (i:Int)/\gg ⟨287002001,n0+1+1⟩=some ⟨true,1,dG (de cnt L i 0) cnt⟩/\(n0+1+1<nx):=fun x1 x2 x3=>⟨_,by omega,i+1,rfl,by omega,(by rw[x1,ay (by omega)]),x2,x3⟩
  have fB:i<(leads cnt L).length:=by omega
  have kJ:((fE cnt L).map AQ)[i]? =some (AQ (members cnt L (leads cnt L)[i])):=by simp[fE,fB]
  have sO:(leads cnt L).getD i 0=(leads cnt L)[i]:=by simp[List.getD_eq_getElem?_getD,fB]
  have AX:∀m,de cnt L i m=fun x=>if bW L x<i then bW L x else if x∈(members cnt L (leads cnt L)[i]).take m then i else 0:=fun m=>by unfold de;rw[sO]
  have rW:=fun x (hx:x<cnt)=>tr hL (n:=cnt) (k:=x) (i:=i) hx fB
  have mh:(members cnt L (leads cnt L)[i]).Nodup:=List.nodup_range.filter _
  have LY:∀x∈members cnt L (leads cnt L)[i],x<cnt:=fun x hx=>(lW.1 hx).1
  have hMc:(members cnt L (leads cnt L)[i]).length<=cnt:=by
   have:=List.length_filter_le (fun k=>L k==(leads cnt L)[i]) (List.range cnt)
   simpa[members]using this
  generalize members cnt L (leads cnt L)[i]=M at *
  have C4:(M.map eN).length=M.length:=by simp
  (try((repeat(revert hN;revert N;apply Pn.out));refine wk (tw @c27 (tw @cg0 (tw @c1 (tw @c8 (tw @c9 (tw @xE (tw @xF (tw @hi (tw @sP (tw @kJ (tw @AQ.eq_1 @C4))))))))))) ?_;(repeat(refine Pn.mk ?_;intro N hN))))
  refine aM (fun n env st=>∃m:Nat,n=(M.length)-m/\m<=(M.length)/\env 34=.int .i64 (m:Int)/\st.get ⟨287002001,n0+1+1⟩=some ⟨true,1,dG (de cnt L i m) cnt⟩/\(n0+1+1<st.next)) (M.length) ⟨0,by omega,by omega,sl (tw @c27 (tw @cg0 (tw @c1 (tw @c8 (tw @c9 (tw @xE (tw @xF @C4))))))),sl (tw @c27 (tw @cg0 (tw @c1 (tw @c8 (tw @c9 (tw @xE (tw @xF @C4))))))),(by(try dsimp only);omega)⟩ ?_
  rintro n_d env_d st_d ⟨m,rfl,dle,d34,dg0,dI0⟩ dfr
  have d1:=dfr 1 (by kernel_rfl);have d8:=dfr 8 (by kernel_rfl);have d9:=dfr 9 (by kernel_rfl);have d10:=dfr 10 (by kernel_rfl);have d25:=dfr 25 (by kernel_rfl);have d26:=dfr 26 (by kernel_rfl);have d27:=dfr 27 (by kernel_rfl);have d32:=dfr 32 (by kernel_rfl);have d33:=dfr 33 (by kernel_rfl)
  simp only[go_sem, ↓reduceIte,Nat.reduceEqDiff,Nat.reduceAdd,Nat.reduceSub,Nat.reduceLeDiff,reduceCtorEq,c27,cg0,c1,c8,c9,xE,xF,C4]at d1 d8 d9 d10 d25 d26 d27 d32 d33
  clear dfr
  have tl:=gn (de cnt L i m) cnt
  by_cases hm:(m:Int)<(M.length:Int)
  ·have ue:∀{e:Env} {gg:Rows} {nx:Nat},(e 34=.int .i64 (IntKind.i64.wrap ((m:Int)+1)))->(gg ⟨287002001,n0+1+1⟩=some ⟨true,1,dG (de cnt L i (m+1)) cnt⟩)->(n0+1+1<nx)->∃m0,m0<(M.length)-m/\∃m:Nat,m0=(M.length)-m/\m<=(M.length)/\e 34=.int .i64 (m:Int)/\gg ⟨287002001,n0+1+1⟩=some ⟨true,1,dG (de cnt L i m) cnt⟩/\(n0+1+1<nx):=fun x1 x2 x3=>⟨_,by omega,m+1,rfl,by omega,(by rw[x1,ay (by omega)]),x2,x3⟩
   have zP:m<M.length:=by omega
   have sQ:(M.map eN)[m]? =some (eN M[m]):=by simp[zP]
   have wi:=LY _ (List.getElem_mem zP)
   have Db:(M[m]:Int)<(cnt:Int):=by omega
   have Da:=fx (f:=de cnt L i m) wi
   have dW:(dG (de cnt L i m) cnt).set M[m] (eN i)=dG (de cnt L i (m+1)) cnt:=pQ wi (by
    have h1:=(rW _ wi).1 (List.getElem_mem zP)
    rw[AX]
    simp only[]
    rw[if_neg (by omega),if_pos (by rw[List.take_succ_eq_append_getElem zP];exact List.mem_append_right _ (List.mem_singleton.2 rfl))]) fun x hx il=>by
    rw[AX,AX]
    simp only[]
    rw[List.take_succ_eq_append_getElem zP]
    simp only[List.mem_append,List.mem_singleton,il,or_false]
   rw[eN]at dW Da
   generalize M[m]=xm at *
   (try((repeat(revert hN;revert N;apply Pn.out));refine wk (tw @d34 (tw @dg0 (tw @d1 (tw @d8 (tw @d9 (tw @d10 (tw @d25 (tw @d26 (tw @d27 (tw @d32 (tw @d33 (tw @hm (tw @hi (tw @sQ (tw @C4 (tw @Db (tw @Da (tw @tl (tw @dW @eN.eq_1))))))))))))))))))) ?_;(repeat(refine Pn.mk ?_;intro N hN))))
   refine ue ?_ ?_ (by(try dsimp only);omega)
   all_goals simp only[go_sem, ↓reduceIte,Nat.reduceEqDiff,Nat.reduceAdd,Nat.reduceSub,Nat.reduceLeDiff,reduceCtorEq,d34,dg0,d1,d8,d9,d10,d25,d26,d27,d32,d33,dW]
  ·have gY:m=M.length:=by omega
   subst gY
   have pD:dG (de cnt L i M.length) cnt=dG (de cnt L (i+1) 0) cnt:=gZ fun x hx=>by
    rw[AX,List.take_length]
    simp only[de,List.take_zero,List.not_mem_nil,if_false]
    have h1:=rW x hx
    by_cases h2:bW L x<i
    ·rw[if_pos h2,if_pos (by omega)]
    ·rw[if_neg h2]
     by_cases h3:x∈M
     ·rw[if_pos h3,if_pos (by have:=h1.1 h3;omega),h1.1 h3]
     ·rw[if_neg h3,if_neg fun h4=>h3 (h1.2 (by omega))]
   (try((repeat(revert hN;revert N;apply Pn.out));refine wk (tw @d34 (tw @dg0 (tw @d1 (tw @d8 (tw @d9 (tw @d10 (tw @d25 (tw @d26 (tw @d27 (tw @d32 (tw @d33 (tw @hm (tw @hi (tw @sP @C4)))))))))))))) ?_;(repeat(refine Pn.mk ?_;intro N hN))))
   refine gF ?_ ?_ (by(try dsimp only);omega)
   all_goals simp only[go_sem, ↓reduceIte,Nat.reduceEqDiff,Nat.reduceAdd,Nat.reduceSub,Nat.reduceLeDiff,reduceCtorEq,c27,cg0,c1,c8,c9,xE,xF,d34,dg0,d1,d8,d9,d10,d25,d26,d27,d32,d33,pD]
 have nR:i=(leads cnt L).length:=by omega
 subst nR
 have xN:dG (de cnt L (leads cnt L).length 0) cnt=dG (bW L) cnt:=gZ fun x hx=>by rw[de,if_pos (kh hL hx)]
 rw[xN]at cg0
 have tl:=gn (bW L) cnt
 (try((repeat(revert hN;revert N;apply Pn.out));refine wk (tw @c27 (tw @cg0 (tw @c1 (tw @c8 (tw @c9 (tw @xE (tw @xF (tw @hi @sP)))))))) ?_;(repeat(refine Pn.mk ?_;intro N hN))))
 refine aM (fun n env st=>∃j:Nat,n=(0)-j/\j<=(0)/\env 46=.int .i64 (j:Int)/\env 14=.cu) (0) ⟨0,by omega,by omega,sl (tw @c27 (tw @cg0 (tw @c1 (tw @c8 (tw @c9 (tw @xE @xF)))))),sl (tw @c27 (tw @cg0 (tw @c1 (tw @c8 (tw @c9 (tw @xE @xF))))))⟩ ?_
 rintro n_f env_f st_f ⟨j,rfl,fle,f46,f14⟩ ffr
 have f8:=ffr 8 (by kernel_rfl);have f44:=ffr 44 (by kernel_rfl);have f45:=ffr 45 (by kernel_rfl)
 simp only[go_sem, ↓reduceIte,Nat.reduceEqDiff,Nat.reduceAdd,Nat.reduceSub,Nat.reduceLeDiff,reduceCtorEq,c27,cg0,c1,c8,c9,xE,xF]at f8 f44 f45
 clear ffr
 have hj:¬(j:Int)<((0:Nat):Int):=by omega
 (try((repeat(revert hN;revert N;apply Pn.out));refine wk (tw @f46 (tw @f14 (tw @f8 (tw @f44 (tw @f45 (tw @hj @sP)))))) ?_;(repeat(refine Pn.mk ?_;intro N hN))))
 refine jy (.inl rfl) (r1:=.int .i64 ((leads cnt L).length:Int)) (r2:=.cu) (sd @Nat.zero_add) (sd @Nat.zero_add) ?_
 simp only[eX,bz,cD,eC,kd,QC,Option.map_some]
theorem zz (cnt:Nat) (zQ:1<=cnt) (hn:cnt<=1048576) (bs:List PB) (hb:∀b∈bs,b.a<cnt/\b.b<cnt) (oe:bs.length<=1048576) (t:Int):ar Tryz.prog 287 [.int .i64 cnt,Ay bs,.int .i64 t] (.iD [.int .i64 (leads cnt (eE (aL t bs))).length,Ay (dy (eE (aL t bs)) bs)]):=by
 cases bs with
 |nil=>
  have h:=xH cnt zQ hn t
  have QC:(leads cnt (eE (aL t []))).length=cnt:=by
   show(leads cnt id).length=cnt
   rw[leads,List.filter_eq_self.2 (fun a _=>by simp)];simp
  rw[QC]
  exact h
 |cons b r=>
  rw[Az (by simp)]
  exact xI cnt zQ hn (b::r) hb (by simp) oe t
end Go.Proofs.YtgoljkjaameagaaGreat.V

namespace Go.Proofs.YtgoljkjaameagaaGreat.V
open Go.RowKit
attribute [local irreducible] eu wpOps gq Call
attribute [local go_sem] aI fJ eP fZ fY dc upd cz K.av cJ AV.cells AV.cell rowOf rowsOf part ld rowAt bR cq dC ea gV bJ cZ eo fX eY dr ef cX cW dM dO bP aX cN bL cQ cP ec eh ee cL bU cY eb bK aO cU cG gU bp cI bQ aW dx bf dD AV.undef bD bF dR dY dI dP cH ek ew cF ej ei cR cV List.getD_cons_zero List.getD_cons_succ List.getD_nil List.all_cons List.all_nil Bool.and_true Bool.true_and Bool.and_self Bool.not_true Bool.not_false Option.map_some Option.map_none Option.bind_some Option.bind_none List.length_cons List.length_nil List.take_succ_cons List.take_zero List.take_nil List.drop_succ_cons List.drop_zero List.drop_nil List.head?_cons List.map_cons List.map_nil List.getElem?_cons_zero List.getElem?_cons_succ List.cons_append List.nil_append List.append_nil List.length_map List.set_cons_zero List.set_cons_succ Nat.reduceMul eq_self Int.toNat_natCast Int.natCast_nonneg and_self true_and and_true decide_true decide_false Bool.false_eq_true Nat.zero_add Nat.add_zero List.contains_cons List.contains_nil Bool.or_false Bool.false_or beq_self_eq_true Nat.reduceBEq ne_eq not_true_eq_false not_false_eq_true Id.mk.injEq false_and and_false Nat.reduceLT Int.reduceLE Int.reduceLT Int.reduceToNat Int.reduceNeg Int.reduceAdd Nat.le_refl List.length_append beq_true beq_false Bool.not_eq_eq_eq_not or_false false_or dJ aj aq aH aZ bB ck aT bc aU aY cK bG
attribute [local go_sem] Gc
section
attribute [-go_sem] dC
theorem MA (n:Nat) (hn:n<=1048576):ar Tryz.prog 340 [.int .u64 1,.int .u64 n] (.iD [.int .u64 0,.int .u64 n]):=by
 refine ar.body eG rfl fun hl n0=>?_
 clear hl
 have b1:(BitVec.ofInt 64 (n:Int)&&& BitVec.ofInt 64 4294967295).toNat=n:=by
  rw[BitVec.toNat_and]
  have e1:(BitVec.ofInt 64 (n:Int)).toNat=n:=by rw[BitVec.toNat_ofInt];omega
  have e2:(BitVec.ofInt 64 4294967295).toNat=2 ^ 32-1:=by decide
  rw[e1,e2]
  exact Nat.and_two_pow_sub_one_of_lt_two_pow (by omega)
 have zn:IntKind.u64.wrap (n:Int)=n:=by rw[IntKind.wrap_u64];omega
 have i1:dC .and .u64 (n:Int) 4294967295=some (.int .u64 n):=by
  show some (AV.int .u64 (IntKind.u64.wrap (((BitVec.ofInt 64 (n:Int)&&& BitVec.ofInt 64 4294967295).toNat:Nat):Int)))= _
  rw[b1,zn]
 have i2:dC .and .u64 1 4294967295=some (.int .u64 1):=rfl
 have i3:dC .and .u64 0 4294967295=some (.int .u64 0):=rfl
 have i4:dC .mul .u64 1 (n:Int)=some (.int .u64 n):=by simp only[dC,Int.one_mul,zn]
 have i5:dC .mul .u64 0 (n:Int)=some (.int .u64 0):=by simp only[dC,Int.zero_mul];rfl
 have i6:dC .mul .u64 1 0=some (.int .u64 0):=rfl
 have i7:dC .mul .u64 0 0=some (.int .u64 0):=rfl
 have i8:dC .add .u64 0 0=some (.int .u64 0):=rfl
 have a3:Int.fdiv 1 (2 ^ min 32 64)=0:=by decide
 have a4:Int.fdiv (n:Int) (2 ^ min 32 64)=0:=by
  rw[Int.fdiv_eq_ediv_of_nonneg _ (by decide)]
  have h32:(2:Int) ^ min 32 64=4294967296:=by decide
  exact Int.ediv_eq_zero_of_lt (by omega) (by omega)
 have z1:Int.fdiv 0 (2 ^ min 32 64)=0:=by decide
 (try((repeat(revert hN;revert N;apply Pn.out));refine wk (tw @i1 (tw @i2 (tw @i3 (tw @i4 (tw @i5 (tw @i6 (tw @i7 (tw @i8 (tw @a3 (tw @a4 @z1)))))))))) ?_;(repeat(refine Pn.mk ?_;intro N hN))))
 refine jy (.inl rfl) (r1:=.int .u64 0) (r2:=.int .u64 n) (sd @Nat.zero_add) (sd @Nat.zero_add) ?_
 simp only[eX,bz,cD,eC,Option.map_some]
end
theorem Sw (n:Nat) (hn:n<=1048576):ar Tryz.prog 337 [.int .u64 1,.int .u64 n] (.iD [.int .u64 0,.int .u64 n]):=by
 refine ar.body eG rfl fun hl n0=>?_
 clear hl
 have h:=MA n hn
 (repeat(first|((repeat(revert hN;revert N;apply Pn.out));refine wk @Nat.zero_add ?_;(repeat(refine Pn.mk ?_;intro N hN)))|((try apply Or.inl);refine⟨_,ar.x (h) (sd @Nat.zero_add),?_⟩;refine hN _ _ ?_;clear hN N)))
 refine jy (.inl rfl) (r1:=.int .u64 0) (r2:=.int .u64 n) (sd @Nat.zero_add) (sd @Nat.zero_add) ?_
 simp only[eX,bz,cD,eC,Option.map_some]
theorem Kn (cnt:Nat) (zQ:1<=cnt) (hn:cnt<=1048576) (v:Int) (x:Id) (σ:ax) (hx:σ.get x=some ⟨true,1,[[.int .i64 v]]⟩) (VF:x.bj<σ.next):
  Call Tryz.prog 327 [.own x 0 1,.int .i64 cnt] σ fun r σ'=>∃o:Id,r=.own o 0 cnt/\σ'.get o=some ⟨true,1,List.replicate cnt [.int .i64 v]⟩/\σ.next<=o.bj/\o.bj<σ'.next/\∀i:Id,i.bj<σ.next->σ'.get i=σ.get i:=by
 refine eZ eG rfl fun hl=>?_
 clear hl
 have h:=Sw cnt hn
 have w1:IntKind.u64.wrap (cnt:Int)=cnt:=by rw[IntKind.wrap_u64];omega
 have w2:IntKind.i64.wrap (cnt:Int)=cnt:=KU (by omega)
 have w0:IntKind.u64.wrap ((1:Nat):Int)=1:=by decide
 have g1:¬(cnt:Int)<0:=by omega
 have g2:¬(9223372036854775807:Int)<cnt:=by omega
 have jM:(0:Int)<=(cnt:Int):=by omega
 have p9:(cnt:Int)<=((16777216:Nat):Int):=by omega
 have QM:=dB VF
 have sR:(List.replicate cnt [AV.int .i64 0]).length=cnt:=List.length_replicate
 have m1:min 1 cnt=1:=by omega
 (repeat(first|((repeat(revert hN;revert N;apply Pn.out));refine wk (tw @w0 (tw @w1 (tw @w2 (tw @g1 (tw @g2 (tw @jM (tw @p9 (tw @Int.le_refl (tw @Nat.le_refl (tw @hx (tw @QM (tw @sR @m1)))))))))))) ?_;(repeat(refine Pn.mk ?_;intro N hN)))|((try apply Or.inl);refine⟨_,ar.x (h) (sd (tw @w0 (tw @w1 (tw @w2 (tw @g1 (tw @g2 (tw @jM (tw @p9 (tw @Int.le_refl (tw @Nat.le_refl (tw @hx (tw @QM (tw @sR @m1))))))))))))),?_⟩;refine hN _ _ ?_;clear hN N)))
 refine aM (fun m env st=>∃k:Nat,m=cnt-k/\1<=k/\k<=cnt/\env 8=.int .i64 (k:Int)/\st.get ⟨327006002,σ.next+1+1+1+1⟩=some ⟨true,1,List.replicate k [.int .i64 v]++List.replicate (cnt-k) [.int .i64 0]⟩/\σ.next+4<st.next/\∀i:Id,i.bj<σ.next->st.get i=σ.get i) (cnt-1) ⟨1,rfl,Nat.le_refl _,zQ,by(simp only[go_sem, ↓reduceIte,Nat.reduceEqDiff,Nat.reduceAdd,Nat.reduceSub,Nat.reduceLeDiff,reduceCtorEq,m1])<;>rfl,?_,by(try dsimp only);omega,fun i hi=>?_⟩ ?_
 ·simp only[go_sem, ↓reduceIte,Nat.reduceEqDiff,Nat.reduceAdd,Nat.reduceSub,Nat.reduceLeDiff,reduceCtorEq]
  rw[List.drop_replicate];rfl
 ·have Ec:=dB hi
  simp only[go_sem, ↓reduceIte,Nat.reduceEqDiff,Nat.reduceAdd,Nat.reduceSub,Nat.reduceLeDiff,reduceCtorEq,Ec]
 rintro m env_b st_b ⟨k,rfl,qb,tg,b8,bg,bn,e7⟩ bkp
 have b7:=bkp 7 (by kernel_rfl)
 simp only[go_sem, ↓reduceIte,Nat.reduceEqDiff,Nat.reduceAdd,Nat.reduceSub,Nat.reduceLeDiff,reduceCtorEq]at b7
 clear bkp
 have R4:(List.replicate k [AV.int .i64 v]++List.replicate (cnt-k) [AV.int .i64 0]).length=cnt:=by simp;omega
 by_cases hk:(k:Int)<(cnt:Int)
 ·have eU:k<cnt:=by omega
  have xw:(k:Int)<=(cnt:Int):=by omega
  have hw:IntKind.i64.wrap ((k:Int)+((min k (cnt-k):Nat):Int))=((k+min k (cnt-k):Nat):Int):=by rw[br (by omega)];omega
  have oZ:List.take k (List.replicate k [AV.int .i64 v]++List.replicate (cnt-k) [AV.int .i64 0])=List.replicate k [AV.int .i64 v]:=List.take_left' (by simp)
  have dE:(List.replicate k [AV.int .i64 v]).all (fun c=>c.length==1&&c.all AV.cell)=true:=List.all_eq_true.2 fun c hc=>by rw[List.eq_of_mem_replicate hc];rfl
  have hlr:(List.replicate k [AV.int .i64 v]).length=k:=List.length_replicate
  have Po:k+(cnt-k)=cnt:=by omega
  have rY:List.replicate k [AV.int .i64 v]++List.take (min k (cnt-k)) (List.replicate k [AV.int .i64 v])++List.drop (k+min k (cnt-k)) (List.replicate k [AV.int .i64 v]++List.replicate (cnt-k) [AV.int .i64 0])=List.replicate (k+min k (cnt-k)) [AV.int .i64 v]++List.replicate (cnt-(k+min k (cnt-k))) [AV.int .i64 0]:=by
   rw[List.take_replicate,List.drop_append,List.drop_of_length_le (by simp),List.nil_append,hlr,List.drop_replicate,List.replicate_append_replicate]
   congr 2
   ·omega
   ·omega
  (try((repeat(revert hN;revert N;apply Pn.out));refine wk (tw @b7 (tw @b8 (tw @bg (tw @R4 (tw @hk (tw @xw (tw @tg (tw @hw (tw @eU (tw @Nat.sub_zero (tw @oZ (tw @dE (tw @hlr (tw @Po (tw @Nat.le_refl @rY))))))))))))))) ?_;(repeat(refine Pn.mk ?_;intro N hN))))
  refine⟨_,?_,k+min k (cnt-k),rfl,by omega,by omega,sd @hw,sd @rY,by(try dsimp only);omega,fun i hi=>?_⟩
  ·omega
  ·have Ec:=dB hi
   have:=e7 i hi
   simp only[go_sem, ↓reduceIte,Nat.reduceEqDiff,Nat.reduceAdd,Nat.reduceSub,Nat.reduceLeDiff,reduceCtorEq,Ec,this]
 ·have jN:k=cnt:=by omega
  subst jN
  (try((repeat(revert hN;revert N;apply Pn.out));refine wk (tw @b7 (tw @b8 (tw @bg (tw @R4 @hk)))) ?_;(repeat(refine Pn.mk ?_;intro N hN))))
  refine fq (.inl rfl) (vs:=[.own ⟨327006002,σ.next+1+1+1+1⟩ 0 k]) (sd @Nat.zero_add) ⟨⟨327006002,σ.next+1+1+1+1⟩,rfl,by simp only[go_sem, ↓reduceIte,Nat.reduceEqDiff,Nat.reduceAdd,Nat.reduceSub,Nat.reduceLeDiff,reduceCtorEq,bg];simp,by(try dsimp only);omega,by(try dsimp only);omega,fun i hi=>e7 i hi⟩
end Go.Proofs.YtgoljkjaameagaaGreat.V

namespace Go.Proofs.YtgoljkjaameagaaGreat.V
open Go.RowKit
attribute [local irreducible] eu wpOps gq Call
attribute [local go_sem] aI fJ eP fZ fY dc upd cz K.av cJ AV.cells AV.cell rowOf rowsOf part ld rowAt bR cq dC ea gV bJ cZ eo fX eY dr ef cX cW dM dO bP aX cN bL cQ cP ec eh ee cL bU cY eb bK aO cU cG gU bp cI bQ aW dx bf dD AV.undef bD bF dR dY dI dP cH ek ew cF ej ei cR cV List.getD_cons_zero List.getD_cons_succ List.getD_nil List.all_cons List.all_nil Bool.and_true Bool.true_and Bool.and_self Bool.not_true Bool.not_false Option.map_some Option.map_none Option.bind_some Option.bind_none List.length_cons List.length_nil List.take_succ_cons List.take_zero List.take_nil List.drop_succ_cons List.drop_zero List.drop_nil List.head?_cons List.map_cons List.map_nil List.getElem?_cons_zero List.getElem?_cons_succ List.cons_append List.nil_append List.append_nil List.length_map List.set_cons_zero List.set_cons_succ Nat.reduceMul eq_self Int.toNat_natCast Int.natCast_nonneg and_self true_and and_true decide_true decide_false Bool.false_eq_true Nat.zero_add Nat.add_zero List.contains_cons List.contains_nil Bool.or_false Bool.false_or beq_self_eq_true Nat.reduceBEq ne_eq not_true_eq_false not_false_eq_true Id.mk.injEq false_and and_false Nat.reduceLT Int.reduceLE Int.reduceLT Int.reduceToNat Int.reduceNeg Int.reduceAdd Nat.le_refl List.length_append beq_true beq_false Bool.not_eq_eq_eq_not or_false false_or dJ aj aq aH aZ bB ck aT bc aU aY cK bG
def ly (R:Nat->Id) (n k:Nat):List (List AV):=(List.range k).map fun i=>[.own (R i) 0 n]
theorem ki (R:Nat->Id) (n k:Nat):(ly R n k).length=k:=by simp[ly]
theorem sG {R:Nat->Id} {n k i:Nat} (h:i<k):(ly R n k)[i]? =some [.own (R i) 0 n]:=by simp[ly,h]
theorem tD (R:Nat->Id) (n k:Nat):ly R n (k+1)=ly R n k++[[.own (R k) 0 n]]:=by simp[ly,List.range_succ]
def xX (c:Nat->Nat->Int) (n:Nat):List (List AV):=(List.range n).map fun i=>[.sl (dZ (c i) n)]
theorem CO {c:Nat->Nat->Int} {n i:Nat} (h:i<n):(xX c n)[i]? =some [.sl (dZ (c i) n)]:=by simp[xX,h]
theorem xj (c:Nat->Nat->Int) (n:Nat):(xX c n).length=n:=by simp[xX]
structure Gj (X o1 o2:Id) (R1 R2:Nat->Id) (n nb:Nat):Prop where
 sx:X.site=299001001
 s1:o1.site=299004008
 s2:o2.site=299005008
 TN:∀i,i<n->(R1 i).site=299004006
 NU:∀i,i<n->(R2 i).site=299005006
 i1:∀i j,i<n->j<n->R1 i=R1 j->i=j
 i2:∀i j,i<n->j<n->R2 i=R2 j->i=j
 vx:X.bj<nb
 v1:o1.bj<nb
 v2:o2.bj<nb
 TQ:∀i,i<n->(R1 i).bj<nb
 QU:∀i,i<n->(R2 i).bj<nb
structure nT (g:Rows) (X o1 o2:Id) (R1 R2:Nat->Id) (n:Nat) (c f:Nat->Nat->Int):Prop where
 x:g X=some ⟨true,2,[[.own o1 0 n,.own o2 0 n]]⟩
 t1:g o1=some ⟨true,1,ly R1 n n⟩
 t2:g o2=some ⟨true,1,ly R2 n n⟩
 r1:∀i,i<n->g (R1 i)=some ⟨true,1,dZ (c i) n⟩
 r2:∀i,i<n->g (R2 i)=some ⟨true,1,dZ (f i) n⟩
theorem nT.frame {g g':Rows} {X o1 o2:Id} {R1 R2:Nat->Id} {n nb:Nat} {c f:Nat->Nat->Int} (I:Gj X o1 o2 R1 R2 n nb) (h:nT g X o1 o2 R1 R2 n c f) (hf:∀i:Id,i.bj<nb->g' i=g i):nT g' X o1 o2 R1 R2 n c f:=
 ⟨(hf _ I.vx).trans h.x,(hf _ I.v1).trans h.t1,(hf _ I.v2).trans h.t2,fun i hi=>(hf _ (I.TQ i hi)).trans (h.r1 i hi),fun i hi=>(hf _ (I.QU i hi)).trans (h.r2 i hi)⟩
theorem oL {f:Nat->Nat->Int} {a b:Nat} {d:Int} {n:Nat} (hb:b<n):(dZ (f a) n).set b (aw (f a b+d))=dZ (bump f a b d a) n:=lz hb (by simp[bump]) fun i _ hi=>by simp[bump,hi]
theorem kb {f:Nat->Nat->Int} {a b i:Nat} {d:Int} (h:i≠a):bump f a b d i=f i:=by funext v;simp[bump,h]
theorem nT.add {g g':Rows} {X o1 o2:Id} {R1 R2:Nat->Id} {n nb:Nat} {c f:Nat->Nat->Int} (I:Gj X o1 o2 R1 R2 n nb) (h:nT g X o1 o2 R1 R2 n c f) (b:PB) (ha:b.a<n) (hb:b.b<n) (hA:b.a≠b.b->g' (R1 b.a)=some ⟨true,1,dZ (bump c b.a b.b b.s b.a) n⟩) (hB:g' (R1 b.b)=some ⟨true,1,dZ (nU c b b.b) n⟩) (hf:∀i:Id,i.bj<nb->(i=R1 b.a)=False->(i=R1 b.b)=False->g' i=g i):nT g' X o1 o2 R1 R2 n (nU c b) f:=by
 have ne:∀{i:Id} {s:Nat},i.site=s->(s==299004006)=false->∀a,a<n->(i=R1 a)=False:=fun {i s} hi hs a ha=>by
  simp only[eq_iff_iff,iff_false]
  rintro rfl
  rw[I.TN a ha]at hi
  subst hi
  simp at hs
 refine⟨(hf _ I.vx (ne I.sx (by decide) _ ha) (ne I.sx (by decide) _ hb)).trans h.x,(hf _ I.v1 (ne I.s1 (by decide) _ ha) (ne I.s1 (by decide) _ hb)).trans h.t1,(hf _ I.v2 (ne I.s2 (by decide) _ ha) (ne I.s2 (by decide) _ hb)).trans h.t2,fun i hi=>?_,fun i hi=>(hf _ (I.QU i hi) (ne (I.NU i hi) (by decide) _ ha) (ne (I.NU i hi) (by decide) _ hb)).trans (h.r2 i hi)⟩
 by_cases K5:i=b.b
 ·subst K5;exact hB
 ·by_cases K4:i=b.a
  ·subst K4
   rw[hA K5,nU,kb K5]
  ·rw[nU,kb K5,kb K4,hf _ (I.TQ i hi) (by simp only[eq_iff_iff,iff_false];exact fun he=>K4 (I.i1 i _ hi ha he)) (by simp only[eq_iff_iff,iff_false];exact fun he=>K5 (I.i1 i _ hi hb he))]
   exact h.r1 i hi
def lS (n:Nat) (c f:Nat->Nat->Int):List AV:=[.sl (xX c n),.sl (xX f n)]
theorem Gb {g:Rows} {R:Nat->Id} {n k:Nat} {c:Nat->Nat->Int} (h:∀i,i<k->g (R i)=some ⟨true,1,dZ (c i) n⟩) (m:Nat):dU (dJ g) (m+3) (ly R n k)=some ((List.range k).map fun i=>[.sl (dZ (c i) n)]):=by
 induction k with
 |zero=>rw[show ly R n 0=[]from rfl,dU];rfl
 |succ k ih=>
  have e1:V.fz (dJ g) (m+3) (.own (R k) 0 n)=some (.sl (dZ (c k) n)):=by
   rw[ij];simp only[dJ,h k (by omega),Option.map_some,if_true]
   rw[if_pos (by rw[dF];omega),List.drop_zero,List.take_of_length_le (by rw[dF];omega),AF];rfl
  have app:∀(xs ys:List (List AV)) (TU SX:List (List AV)),dU (dJ g) (m+3) xs=some TU->dU (dJ g) (m+3) ys=some SX->dU (dJ g) (m+3) (xs++ys)=some (TU++SX):=by
   intro xs
   induction xs with
   |nil=>intro ys TU SX h1 h2;rw[dU]at h1;cases h1;exact h2
   |cons a xs ih2=>
    intro ys TU SX h1 h2
    rw[dU]at h1
    rw[List.cons_append,dU]
    cases ha:dd (dJ g) (m+3) a with
    |none=>simp[ha]at h1
    |some a'=>
     cases hb:dU (dJ g) (m+3) xs with
     |none=>simp[ha,hb]at h1
     |some b'=>
      simp[ha,hb]at h1
      subst h1
      rw[ih2 ys b' SX hb h2];rfl
  rw[tD,List.range_succ,List.map_append]
  refine app _ _ _ _ (ih fun i hi=>h i (by omega)) ?_
  rw[dU,aj,aq,e1,dU];rfl
theorem nT.fz {g:Rows} {X o1 o2:Id} {R1 R2:Nat->Id} {n:Nat} {c f:Nat->Nat->Int} (h:nT g X o1 o2 R1 R2 n c f):V.fz (dJ g) 6 (.ptr X 0 0)=some (.dn (lS n c f)):=by
 refine zE (sz:=2) (rows:=[[.own o1 0 n,.own o2 0 n]]) (by simp[dJ,h.x]) rfl ?_
 have e1:V.fz (dJ g) 5 (.own o1 0 n)=some (.sl (xX c n)):=by
  rw[ij];simp only[dJ,h.t1,Option.map_some,if_true]
  rw[if_pos (by rw[ki];omega),List.drop_zero,List.take_of_length_le (by rw[ki];omega)]
  rw[show dU _ 4 _=some (xX c n)from Gb h.r1 1];rfl
 have e2:V.fz (dJ g) 5 (.own o2 0 n)=some (.sl (xX f n)):=by
  rw[ij];simp only[dJ,h.t2,Option.map_some,if_true]
  rw[if_pos (by rw[ki];omega),List.drop_zero,List.take_of_length_le (by rw[ki];omega)]
  rw[show dU _ 4 _=some (xX f n)from Gb h.r2 1];rfl
 simp only[List.drop_zero,aj,aq,e1,e2,lS,Option.map_some]
theorem Ow (n:Nat) (c f:Nat->Nat->Int) (u v:Nat) (hu:u<n) (hv:v<n):ar Tryz.prog 328 [.dn (lS n c f),.int .i64 u,.int .i64 v] (.bool (decide (f u v<c u v))):=by
 refine ar.body eG rfl fun hl n0=>?_
 clear hl
 have h1:=CO (c:=c) hu
 have h2:=CO (c:=f) hu
 have h3:=dS (f:=c u) hv
 have h4:=dS (f:=f u) hv
 have hui:(u:Int)<(n:Int):=by omega
 have Ec:(v:Int)<(n:Int):=by omega
 have l1:=xj c n
 have l2:=xj f n
 have l3:=dF (c u) n
 have l4:=dF (f u) n
 rw[aw]at h3 h4
 (try((repeat(revert hN;revert N;apply Pn.out));refine wk (tw @lS.eq_1 (tw @h1 (tw @h2 (tw @h3 (tw @h4 (tw @hui (tw @Ec (tw @l1 (tw @l2 (tw @l3 @l4)))))))))) ?_;(repeat(refine Pn.mk ?_;intro N hN))))
 exact aQ (b:=decide (f u v<c u v)) (.inl rfl) (sd @Nat.zero_add) rfl
theorem HQ (n:Nat):List.replicate n [AV.int .i64 0]=dZ (fun _=>0) n:=by
 refine List.ext_getElem? fun i=>?_
 by_cases h:i<n
 ·rw[dS h,List.getElem?_replicate,if_pos h];rfl
 ·rw[List.getElem?_eq_none (by simp;omega),List.getElem?_eq_none (by rw[dF];omega)]
theorem AB {i j:Id} {s t:Nat} (hi:i.site=s) (hj:j.site=t) (h:(s==t)=false):(i=j)=False/\(j=i)=False:=by
 constructor<;>(simp only[eq_iff_iff,iff_false];rintro rfl;rw[hi]at hj;subst hj;simp at h)
theorem Cx (cnt:Nat) (zQ:1<=cnt) (hn:cnt<=1048576) (bs:List PB) (hb:∀b∈bs,b.a<cnt/\b.b<cnt) (dQ:∀b∈bs,0<=b.s/\b.s<=4) (oe:bs.length<=1048576) (σ:ax):
  Call Tryz.prog 299 [.int .i64 cnt,.sl (bs.map aC)] σ fun r σ'=>∃X o1 o2 R1 R2,r=.ptr X 0 0/\Gj X o1 o2 R1 R2 cnt σ'.next/\σ.next<=σ'.next/\nT σ'.get X o1 o2 R1 R2 cnt (lr bs) (fun _ _=>0)/\∀i:Id,i.bj<σ.next->σ'.get i=σ.get i:=by
 refine eZ eG rfl fun hl=>?_
 clear hl
 (try((repeat(revert hN;revert N;apply Pn.out));refine wk @Nat.zero_add ?_;(repeat(refine Pn.mk ?_;intro N hN))))
 obtain⟨X,hX⟩:∃X:Id,X=⟨299001001,σ.next+1⟩:=⟨_,rfl⟩
 obtain⟨R1,UE⟩:∃R:Nat->Id,R=fun k=>⟨299004006,σ.next+3+4*k+1⟩:=⟨_,rfl⟩
 obtain⟨R2,Rq⟩:∃R:Nat->Id,R=fun k=>⟨299005006,σ.next+3+4*k+2⟩:=⟨_,rfl⟩
 have sX:X.site=299001001:=by rw[hX]
 have vX:X.bj=σ.next+1:=by rw[hX]
 have s1:∀k,(R1 k).site=299004006:=fun k=>by rw[UE]
 have s2:∀k,(R2 k).site=299005006:=fun k=>by rw[Rq]
 have v1:∀k,(R1 k).bj=σ.next+3+4*k+1:=fun k=>by rw[UE]
 have v2:∀k,(R2 k).bj=σ.next+3+4*k+2:=fun k=>by rw[Rq]
 have jM:(0:Int)<=(cnt:Int):=by omega
 have p9:(cnt:Int)<=((16777216:Nat):Int):=by omega
 have hz:=HQ cnt
 have t1:ly R1 cnt 0=[]:=rfl
 have t2:ly R2 cnt 0=[]:=rfl
 refine aM (fun n env st=>∃k:Nat,n=(cnt)-k/\k<=(cnt)/\env 11=.int .i64 (k:Int)/\env 5=(.ptr X 0 0)/\(st.next=σ.next+3+4*k/\(∀i:Id,i.bj<σ.next->st.get i=σ.get i)/\∀j,j<k->st.get (R1 j)=some ⟨true,1,dZ (fun _=>0) cnt⟩/\st.get (R2 j)=some ⟨true,1,dZ (fun _=>0) cnt⟩)/\((k=0/\st.get X=some ⟨true,2,[[.cu,.cu]]⟩)∨∃o1 o2:Id,o1.site=299004008/\o2.site=299005008/\o1.bj<st.next/\o2.bj<st.next/\σ.next<=o1.bj/\σ.next<=o2.bj/\st.get X=some ⟨true,2,[[.own o1 0 k,.own o2 0 k]]⟩/\st.get o1=some ⟨true,1,ly R1 cnt k⟩/\st.get o2=some ⟨true,1,ly R2 cnt k⟩)) (cnt) ⟨0,by omega,by omega,sl @hX,sl @hX,⟨rfl,fun i hi=>by(have Ec:=dB hi);simp only[go_sem, ↓reduceIte,Nat.reduceEqDiff,Nat.reduceAdd,Nat.reduceSub,Nat.reduceLeDiff,reduceCtorEq,Ec],fun j hj=>absurd hj (Nat.not_lt_zero j)⟩,.inl ⟨rfl,by rw[hX];simp only[go_sem, ↓reduceIte,Nat.reduceEqDiff,Nat.reduceAdd,Nat.reduceSub,Nat.reduceLeDiff,reduceCtorEq]⟩⟩ ?_
 rintro n_a env_a st_a ⟨k,rfl,ale,H7,a5,j8,aI1⟩ di
 have a0:=di 0 (by kernel_rfl);have a1:=di 1 (by kernel_rfl);have lR:=di 10 (by kernel_rfl)
 simp only[go_sem, ↓reduceIte,Nat.reduceEqDiff,Nat.reduceAdd,Nat.reduceSub,Nat.reduceLeDiff,reduceCtorEq,hX]at a0 a1 lR
 clear di
 obtain⟨anx,di,aR⟩:=j8
 have wX:=dB (i:=X) (n:=st_a.next) (by omega)
 by_cases hk:(k:Int)<(cnt:Int)
 ·have cm:∀{e:Env} {gg:Rows} {nx:Nat},(e 11=.int .i64 (IntKind.i64.wrap ((k:Int)+1)))->(e 5=(.ptr X 0 0))->(nx=σ.next+3+4*(k+1)/\(∀i:Id,i.bj<σ.next->gg i=σ.get i)/\∀j,j<(k+1)->gg (R1 j)=some ⟨true,1,dZ (fun _=>0) cnt⟩/\gg (R2 j)=some ⟨true,1,dZ (fun _=>0) cnt⟩)->(((k+1)=0/\gg X=some ⟨true,2,[[.cu,.cu]]⟩)∨∃o1 o2:Id,o1.site=299004008/\o2.site=299005008/\o1.bj<nx/\o2.bj<nx/\σ.next<=o1.bj/\σ.next<=o2.bj/\gg X=some ⟨true,2,[[.own o1 0 (k+1),.own o2 0 (k+1)]]⟩/\gg o1=some ⟨true,1,ly R1 cnt (k+1)⟩/\gg o2=some ⟨true,1,ly R2 cnt (k+1)⟩)->∃m0,m0<(cnt)-k/\∃k:Nat,m0=(cnt)-k/\k<=(cnt)/\e 11=.int .i64 (k:Int)/\e 5=(.ptr X 0 0)/\(nx=σ.next+3+4*k/\(∀i:Id,i.bj<σ.next->gg i=σ.get i)/\∀j,j<k->gg (R1 j)=some ⟨true,1,dZ (fun _=>0) cnt⟩/\gg (R2 j)=some ⟨true,1,dZ (fun _=>0) cnt⟩)/\((k=0/\gg X=some ⟨true,2,[[.cu,.cu]]⟩)∨∃o1 o2:Id,o1.site=299004008/\o2.site=299005008/\o1.bj<nx/\o2.bj<nx/\σ.next<=o1.bj/\σ.next<=o2.bj/\gg X=some ⟨true,2,[[.own o1 0 k,.own o2 0 k]]⟩/\gg o1=some ⟨true,1,ly R1 cnt k⟩/\gg o2=some ⟨true,1,ly R2 cnt k⟩):=fun x1 x2 x3 x4=>⟨_,by omega,k+1,rfl,by omega,(by rw[x1,ay (by omega)]),x2,x3,x4⟩
  have eU:k<cnt:=by omega
  have qb:R1 k=⟨299004006,st_a.next+1⟩:=by rw[UE,anx]
  have tg:R2 k=⟨299005006,st_a.next+1+1⟩:=by rw[Rq,anx]
  have Lc:ly R1 cnt (k+1)=ly R1 cnt k++[[.own ⟨299004006,st_a.next+1⟩ 0 cnt]]:=by rw[tD,qb]
  have QJ:ly R2 cnt (k+1)=ly R2 cnt k++[[.own ⟨299005006,st_a.next+1+1⟩ 0 cnt]]:=by rw[tD,tg]
  rcases aI1 with⟨rfl,Q1⟩|⟨o1,o2,so1,so2,vo1,vo2,vn1,vn2,Q1,ag1,ag2⟩
  ·(try((repeat(revert hN;revert N;apply Pn.out));refine wk (tw @H7 (tw @a5 (tw @a0 (tw @a1 (tw @lR (tw @hk (tw @wX (tw @Q1 (tw @jM (tw @p9 (tw @Int.le_refl @hz))))))))))) ?_;(repeat(refine Pn.mk ?_;intro N hN))))
   refine cm ?_ ?_ (by
    (try dsimp only)
    refine⟨by omega,fun i hi=>?_,fun j hj=>?_⟩
    ·have q1:=dB (i:=i) (n:=st_a.next) (by omega)
     have q2:=dv (a:=i) (b:=X) (by omega)
     have:=di i hi
     simp only[go_sem, ↓reduceIte,Nat.reduceEqDiff,Nat.reduceAdd,Nat.reduceSub,Nat.reduceLeDiff,reduceCtorEq,q1,q2,this]
    ·by_cases yD:j=0
     ·subst yD
      rw[qb,tg]
      have q1:=gG sX (b:=299004006) (v:=st_a.next+1) (by decide)
      have q2:=gG sX (b:=299005006) (v:=st_a.next+1+1) (by decide)
      simp only[go_sem, ↓reduceIte,Nat.reduceEqDiff,Nat.reduceAdd,Nat.reduceSub,Nat.reduceLeDiff,reduceCtorEq,q1,q2]
     ·obtain⟨r1,r2⟩:=aR j (by omega)
      have q1:=dB (i:=R1 j) (n:=st_a.next) (by rw[v1];omega)
      have q2:=dB (i:=R2 j) (n:=st_a.next) (by rw[v2];omega)
      have q3:=AB (s1 j) sX (by decide)
      have q4:=AB (s2 j) sX (by decide)
      constructor
      ·simp only[go_sem, ↓reduceIte,Nat.reduceEqDiff,Nat.reduceAdd,Nat.reduceSub,Nat.reduceLeDiff,reduceCtorEq,q1,q3,r1]
      ·simp only[go_sem, ↓reduceIte,Nat.reduceEqDiff,Nat.reduceAdd,Nat.reduceSub,Nat.reduceLeDiff,reduceCtorEq,q2,q4,r2]) (.inr ⟨⟨299004008,st_a.next+1⟩,⟨299005008,st_a.next+1+1⟩,rfl,rfl,by(try dsimp only);omega,by(try dsimp only);omega,by(try dsimp only);omega,by(try dsimp only);omega,sd @wX,by rw[Lc,t1];simp only[go_sem, ↓reduceIte,Nat.reduceEqDiff,Nat.reduceAdd,Nat.reduceSub,Nat.reduceLeDiff,reduceCtorEq,wX,List.nil_append],by rw[QJ,t2];simp only[go_sem, ↓reduceIte,Nat.reduceEqDiff,Nat.reduceAdd,Nat.reduceSub,Nat.reduceLeDiff,reduceCtorEq,wX,List.nil_append]⟩)
   all_goals simp only[go_sem, ↓reduceIte,Nat.reduceEqDiff,Nat.reduceAdd,Nat.reduceSub,Nat.reduceLeDiff,reduceCtorEq,H7,a5,a0,a1,lR,wX]
  ·have l1:=ki R1 cnt k
   have l2:=ki R2 cnt k
   have e1:k+1<=16777216:=by omega
   have w1:=dB vo1
   have w2:=dB vo2
   have x1:=AB sX so1 (by decide)
   have x2:=AB sX so2 (by decide)
   have x3:=AB so1 so2 (by decide)
   (try((repeat(revert hN;revert N;apply Pn.out));refine wk (tw @H7 (tw @a5 (tw @a0 (tw @a1 (tw @lR (tw @hk (tw @wX (tw @Q1 (tw @ag1 (tw @ag2 (tw @l1 (tw @l2 (tw @e1 (tw @w1 (tw @w2 (tw @x1 (tw @x2 (tw @x3 (tw @jM (tw @p9 (tw @Int.le_refl @hz))))))))))))))))))))) ?_;(repeat(refine Pn.mk ?_;intro N hN))))
   refine cm ?_ ?_ (by
    (try dsimp only)
    refine⟨by omega,fun i hi=>?_,fun j hj=>?_⟩
    ·have q1:=dB (i:=i) (n:=st_a.next) (by omega)
     have q2:=dv (a:=i) (b:=X) (by omega)
     have q3:=dv (a:=i) (b:=o1) (by omega)
     have q4:=dv (a:=i) (b:=o2) (by omega)
     have:=di i hi
     simp only[go_sem, ↓reduceIte,Nat.reduceEqDiff,Nat.reduceAdd,Nat.reduceSub,Nat.reduceLeDiff,reduceCtorEq,q1,q2,this,q3,q4]
    ·by_cases yD:j=k
     ·subst yD
      rw[qb,tg]
      have q1:=gG sX (b:=299004006) (v:=st_a.next+1) (by decide)
      have q2:=gG sX (b:=299005006) (v:=st_a.next+1+1) (by decide)
      simp only[go_sem, ↓reduceIte,Nat.reduceEqDiff,Nat.reduceAdd,Nat.reduceSub,Nat.reduceLeDiff,reduceCtorEq,q1,q2,w1,w2]
     ·obtain⟨r1,r2⟩:=aR j (by omega)
      have q1:=dB (i:=R1 j) (n:=st_a.next) (by rw[v1];omega)
      have q2:=dB (i:=R2 j) (n:=st_a.next) (by rw[v2];omega)
      have q3:=AB (s1 j) sX (by decide)
      have q4:=AB (s2 j) sX (by decide)
      have q5:=AB (s1 j) so1 (by decide)
      have q6:=AB (s1 j) so2 (by decide)
      have q7:=AB (s2 j) so1 (by decide)
      have q8:=AB (s2 j) so2 (by decide)
      constructor
      ·simp only[go_sem, ↓reduceIte,Nat.reduceEqDiff,Nat.reduceAdd,Nat.reduceSub,Nat.reduceLeDiff,reduceCtorEq,q1,q3,r1,q5,q6]
      ·simp only[go_sem, ↓reduceIte,Nat.reduceEqDiff,Nat.reduceAdd,Nat.reduceSub,Nat.reduceLeDiff,reduceCtorEq,q2,q4,r2,q7,q8]) (.inr ⟨⟨299004008,st_a.next+1⟩,⟨299005008,st_a.next+1+1⟩,rfl,rfl,by(try dsimp only);omega,by(try dsimp only);omega,by(try dsimp only);omega,by(try dsimp only);omega,sd @wX,by rw[Lc];simp only[go_sem, ↓reduceIte,Nat.reduceEqDiff,Nat.reduceAdd,Nat.reduceSub,Nat.reduceLeDiff,reduceCtorEq,wX,w1,w2],by rw[QJ];simp only[go_sem, ↓reduceIte,Nat.reduceEqDiff,Nat.reduceAdd,Nat.reduceSub,Nat.reduceLeDiff,reduceCtorEq,wX,w1,w2]⟩)
   all_goals simp only[go_sem, ↓reduceIte,Nat.reduceEqDiff,Nat.reduceAdd,Nat.reduceSub,Nat.reduceLeDiff,reduceCtorEq,H7,a5,a0,a1,lR,wX,w1,w2,x1,x2,x3]
 have jN:cnt=k:=by omega
 subst jN
 rcases aI1 with⟨h0,_⟩|⟨o1,o2,so1,so2,vo1,vo2,vn1,vn2,Q1,ag1,ag2⟩
 ·omega
 (try((repeat(revert hN;revert N;apply Pn.out));refine wk (tw @H7 (tw @a5 (tw @a0 (tw @a1 (tw @lR @hk))))) ?_;(repeat(refine Pn.mk ?_;intro N hN))))
 have I:Gj X o1 o2 R1 R2 cnt st_a.next:=⟨sX,so1,so2,fun i _=>s1 i,fun i _=>s2 i,fun i j _ _ h=>by have:=v1 i;rw[h,v1]at this;omega,fun i j _ _ h=>by have:=v2 i;rw[h,v2]at this;omega,by omega,vo1,vo2,fun i hi=>by rw[v1];omega,fun i hi=>by rw[v2];omega⟩
 refine aM (fun n env st=>∃i:Nat,n=(bs.length)-i/\i<=(bs.length)/\env 38=.int .i64 (i:Int)/\(st_a.next<=st.next/\(∀x:Id,x.bj<σ.next->st.get x=σ.get x)/\nT st.get X o1 o2 R1 R2 cnt (lr (bs.take i)) (fun _ _=>0))) (bs.length) ⟨0,by omega,by omega,sl (tw @H7 (tw @a5 (tw @a0 (tw @a1 @lR)))),⟨by(try dsimp only);omega,di,Q1,ag1,ag2,fun j hj=>(aR j hj).1,fun j hj=>(aR j hj).2⟩⟩ ?_
 rintro n_b env_b st_b ⟨i,rfl,ble,b38,bI0⟩ e7
 have b0:=e7 0 (by kernel_rfl);have b1:=e7 1 (by kernel_rfl);have b5:=e7 5 (by kernel_rfl);have Qo:=e7 36 (by kernel_rfl);have Qp:=e7 37 (by kernel_rfl)
 simp only[go_sem, ↓reduceIte,Nat.reduceEqDiff,Nat.reduceAdd,Nat.reduceSub,Nat.reduceLeDiff,reduceCtorEq,H7,a5,a0,a1,lR]at b0 b1 b5 Qo Qp
 clear e7
 obtain⟨bn,Of,bM⟩:=bI0
 by_cases hi:(i:Int)<(bs.length:Int)
 ·have ft:∀{e:Env} {gg:Rows} {nx:Nat},(e 38=.int .i64 (IntKind.i64.wrap ((i:Int)+1)))->(st_a.next<=nx/\(∀x:Id,x.bj<σ.next->gg x=σ.get x)/\nT gg X o1 o2 R1 R2 cnt (lr (bs.take (i+1))) (fun _ _=>0))->∃m0,m0<(bs.length)-i/\∃i:Nat,m0=(bs.length)-i/\i<=(bs.length)/\e 38=.int .i64 (i:Int)/\(st_a.next<=nx/\(∀x:Id,x.bj<σ.next->gg x=σ.get x)/\nT gg X o1 o2 R1 R2 cnt (lr (bs.take i)) (fun _ _=>0)):=fun x1 x2=>⟨_,by omega,i+1,rfl,by omega,(by rw[x1,ay (by omega)]),x2⟩
  have fB:i<bs.length:=by omega
  have kJ:(bs.map aC)[i]? =some (aC bs[i]):=by simp[fB]
  have fD:=hb _ (List.getElem_mem fB)
  have hsi:=dQ _ (List.getElem_mem fB)
  have qd:lr (bs.take (i+1))=nU (lr (bs.take i)) bs[i]:=by rw[List.take_succ_eq_append_getElem fB,EI]
  have qO:=Au (bs.take i) (fun _ _=>0) (fun b hb=>(dQ b (List.mem_of_mem_take hb)).1) (fun _ _=>Int.le_refl _)
  have hle:=room_le (bs.take i) (fun _ _=>0) 0 (fun b hb=>(dQ b (List.mem_of_mem_take hb)).2) (fun _ _=>Int.le_refl _) (Int.le_refl _)
  rw[List.length_take]at hle
  have ga:(bs.take i).foldl nU (fun _ _=>0)=lr (bs.take i):=rfl
  rw[ga]at qO hle
  generalize lr (bs.take i)=c at *
  generalize bs[i]=b at *
  obtain⟨ha,td⟩:=fD
  have gA:=sG (R:=R1) (n:=cnt) ha
  have gB:=sG (R:=R1) (n:=cnt) td
  have rA:=bM.r1 _ ha
  have rB:=bM.r1 _ td
  have cA:=dS (f:=c b.a) td
  have cB:=dS (f:=c b.b) ha
  have sA:=oL (f:=c) (a:=b.a) (d:=b.s) td
  have gX:=bM.x
  have g1:=bM.t1
  have gI:(b.a:Int)<(cnt:Int):=by omega
  have fD:(b.b:Int)<(cnt:Int):=by omega
  have qX:=dB (i:=X) (n:=st_b.next) (by omega)
  have q1:=dB (i:=o1) (n:=st_b.next) (by omega)
  have qA:=dB (i:=R1 b.a) (n:=st_b.next) (by rw[v1];omega)
  have qB:=dB (i:=R1 b.b) (n:=st_b.next) (by rw[v1];omega)
  have xA:=AB sX (s1 b.a) (by decide)
  have xB:=AB sX (s1 b.b) (by decide)
  have yA:=AB so1 (s1 b.a) (by decide)
  have yB:=AB so1 (s1 b.b) (by decide)
  have l1:=ki R1 cnt cnt
  have lA:=dF (c b.a) cnt
  have lB:=dF (c b.b) cnt
  have hAB:=hle b.a b.b
  have hBA:=hle b.b b.a
  have gAB:=qO b.a b.b
  have gBA:=qO b.b b.a
  have wA:IntKind.i64.wrap (c b.a b.b+b.s)=c b.a b.b+b.s:=br (by omega)
  by_cases od:b.a=b.b
  ·obtain⟨ba,bb,s⟩:=b
   dsimp only at *
   subst od
   have Pj:=oL (f:=bump c ba ba s) (a:=ba) (b:=ba) (d:=s) (n:=cnt) ha
   have UR:=dS (f:=bump c ba ba s ba) ha
   have hv:bump c ba ba s ba ba=c ba ba+s:=by simp[bump]
   have lC:=dF (bump c ba ba s ba) cnt
   have wB:IntKind.i64.wrap (c ba ba+s+s)=c ba ba+s+s:=br (by omega)
   rw[hv]at Pj UR
   have te:nU c ⟨ba,ba,s⟩ ba=bump (bump c ba ba s) ba ba s ba:=rfl
   rw[aw]at cA sA Pj UR
   (try((repeat(revert hN;revert N;apply Pn.out));refine wk (tw @b38 (tw @b0 (tw @b1 (tw @b5 (tw @Qo (tw @Qp (tw @hi (tw @kJ (tw @aC.eq_1 (tw @gA (tw @rA (tw @cA (tw @sA (tw @gX (tw @g1 (tw @gI (tw @qX (tw @q1 (tw @qA (tw @xA (tw @yA (tw @l1 (tw @lA (tw @wA (tw @Pj (tw @UR (tw @lC @wB))))))))))))))))))))))))))) ?_;(repeat(refine Pn.mk ?_;intro N hN))))
   exact ft (sd (tw @b38 (tw @b0 (tw @b1 (tw @b5 (tw @Qo @Qp)))))) (by
    (try dsimp only)
    refine⟨by omega,fun x hx=>?_,?_⟩
    ·have p1:=dB (i:=x) (n:=st_b.next) (by omega)
     have p2:=dv (a:=x) (b:=R1 ba) (by rw[v1];omega)
     have:=Of x hx
     simp only[go_sem, ↓reduceIte,Nat.reduceEqDiff,Nat.reduceAdd,Nat.reduceSub,Nat.reduceLeDiff,reduceCtorEq,p1,p2,this]
    ·rw[qd]
     refine bM.add I ⟨ba,ba,s⟩ ha ha (fun h=>absurd rfl h) ?_ fun x hx h1 h2=>?_
     ·rw[te]
      simp only[go_sem, ↓reduceIte,Nat.reduceEqDiff,Nat.reduceAdd,Nat.reduceSub,Nat.reduceLeDiff,reduceCtorEq]
     ·have p1:=dB (i:=x) (n:=st_b.next) (by omega)
      (try dsimp only at h2)
      simp only[go_sem, ↓reduceIte,Nat.reduceEqDiff,Nat.reduceAdd,Nat.reduceSub,Nat.reduceLeDiff,reduceCtorEq,p1,h2])
  ·have il:(R1 b.a=R1 b.b)=False:=by simp only[eq_iff_iff,iff_false];exact fun h=>od (I.i1 _ _ ha td h)
   have Jy:(R1 b.b=R1 b.a)=False:=by simp only[eq_iff_iff,iff_false];exact fun h=>od (I.i1 _ _ ha td h.symm)
   have O9:bump c b.a b.b b.s b.b=c b.b:=kb fun h=>od h.symm
   have Pj:=oL (f:=bump c b.a b.b b.s) (a:=b.b) (b:=b.a) (d:=b.s) (n:=cnt) ha
   rw[O9]at Pj
   have wB:IntKind.i64.wrap (c b.b b.a+b.s)=c b.b b.a+b.s:=br (by omega)
   have te:nU c b b.b=bump (bump c b.a b.b b.s) b.b b.a b.s b.b:=rfl
   rw[aw]at cA cB sA Pj
   (try((repeat(revert hN;revert N;apply Pn.out));refine wk (tw @b38 (tw @b0 (tw @b1 (tw @b5 (tw @Qo (tw @Qp (tw @hi (tw @kJ (tw @aC.eq_1 (tw @gA (tw @gB (tw @rA (tw @rB (tw @cA (tw @cB (tw @sA (tw @gX (tw @g1 (tw @gI (tw @fD (tw @qX (tw @q1 (tw @qA (tw @qB (tw @xA (tw @xB (tw @yA (tw @yB (tw @l1 (tw @lA (tw @lB (tw @wA (tw @Pj (tw @wB (tw @il @Jy))))))))))))))))))))))))))))))))))) ?_;(repeat(refine Pn.mk ?_;intro N hN))))
   exact ft (sd (tw @b38 (tw @b0 (tw @b1 (tw @b5 (tw @Qo @Qp)))))) (by
    (try dsimp only)
    refine⟨by omega,fun x hx=>?_,?_⟩
    ·have p1:=dB (i:=x) (n:=st_b.next) (by omega)
     have p2:=dv (a:=x) (b:=R1 b.b) (by rw[v1];omega)
     have p3:=dv (a:=x) (b:=R1 b.a) (by rw[v1];omega)
     have:=Of x hx
     simp only[go_sem, ↓reduceIte,Nat.reduceEqDiff,Nat.reduceAdd,Nat.reduceSub,Nat.reduceLeDiff,reduceCtorEq,p1,p2,p3,this]
    ·rw[qd]
     refine bM.add I b ha td (fun h=>?_) ?_ fun x hx h1 h2=>?_
     ·simp only[go_sem, ↓reduceIte,Nat.reduceEqDiff,Nat.reduceAdd,Nat.reduceSub,Nat.reduceLeDiff,reduceCtorEq,il]
     ·rw[te]
      simp only[go_sem, ↓reduceIte,Nat.reduceEqDiff,Nat.reduceAdd,Nat.reduceSub,Nat.reduceLeDiff,reduceCtorEq,il]
     ·have p1:=dB (i:=x) (n:=st_b.next) (by omega)
      simp only[go_sem, ↓reduceIte,Nat.reduceEqDiff,Nat.reduceAdd,Nat.reduceSub,Nat.reduceLeDiff,reduceCtorEq,p1,h1,h2])
 ·have nR:i=bs.length:=by omega
  subst nR
  rw[List.take_length]at bM
  (try((repeat(revert hN;revert N;apply Pn.out));refine wk (tw @b38 (tw @b0 (tw @b1 (tw @b5 (tw @Qo (tw @Qp @hi)))))) ?_;(repeat(refine Pn.mk ?_;intro N hN))))
  exact fq (.inl rfl) (vs:=[.ptr X 0 0]) (sd @Nat.zero_add) ⟨X,o1,o2,R1,R2,rfl,⟨I.sx,I.s1,I.s2,I.TN,I.NU,I.i1,I.i2,by have:=I.vx;(try dsimp only);omega,by have:=I.v1;(try dsimp only);omega,by have:=I.v2;(try dsimp only);omega,fun j hj=>by have:=I.TQ j hj;(try dsimp only);omega,fun j hj=>by have:=I.QU j hj;(try dsimp only);omega⟩,by(try dsimp only);omega,bM,Of⟩
end Go.Proofs.YtgoljkjaameagaaGreat.V

namespace Go.Proofs.YtgoljkjaameagaaGreat.V
structure Bq (n:Nat) (c f:Nat->Nat->Int) (x:Nat) (par:Nat->Int) (Q:List Nat) (i:Nat):Prop where
 nodup:Q.Nodup
 lt:∀v∈Q,v<n
 root:par x=(x:Int)
 mem:x∈Q
 iff:∀v,v<n->(0<=par v↔v∈Q)
 up:∀v∈Q,v≠x->∃u,u∈Q/\par v=(u:Int)/\Q.idxOf u<Q.idxOf v/\f u v<c u v
 done:∀j (_:j<i) (hl:j<Q.length) (v:Nat),v<n->f Q[j] v<c Q[j] v->v∈Q
 ile:i<=Q.length
section
variable {n:Nat} {c f:Nat->Nat->Int} {x:Nat} {par:Nat->Int} {Q:List Nat} {i:Nat}
theorem Bq.len (h:Bq n c f x par Q i):Q.length<=n:=o9 n Q h.nodup h.lt
theorem Bq.start (hx:x<n):Bq n c f x (fun v=>if v=x then(x:Int)else -1) [x] 0:=by
 refine⟨by simp,fun v hv=>by simp at hv;omega,by simp,by simp,fun v hv=>?_,fun v hv il=>absurd (by simpa using hv) il,fun j hj=>by omega,by simp⟩
 by_cases h:v=x
 ·simp[h]
 ·simp[h]
theorem Bq.visit (h:Bq n c f x par Q i) (hi:i<Q.length) {v:Nat} (hv:v<n) (hp:par v<0) (hr:f Q[i] v<c Q[i] v):Bq n c f x (fun w=>if w=v then(Q[i]:Int)else par w) (Q++[v]) i:=by
 have Vz:v∉Q:=fun hm=>by have:=(h.iff v hv).2 hm;omega
 have VF:x≠v:=fun e=>Vz (e▸h.mem)
 have zO:∀u∈Q,(Q++[v]).idxOf u=Q.idxOf u:=fun u hu=>by rw[List.idxOf_append,if_pos hu]
 have wc:(Q++[v]).idxOf v=Q.length:=by rw[List.idxOf_append,if_neg Vz];simp
 refine⟨?_,fun w hw=>?_,by simp only[if_neg VF];exact h.root,by simp[h.mem],fun w hw=>?_,fun w hw il=>?_,fun j hj hl w hw JE=>?_,by simp;omega⟩
 ·refine List.nodup_append.2 ⟨h.nodup,by simp,fun a ha b hb=>?_⟩
  rw[List.mem_singleton.1 hb]
  rintro rfl;exact Vz ha
 ·rcases List.mem_append.1 hw with hw|hw
  ·exact h.lt w hw
  ·rw[List.mem_singleton.1 hw];exact hv
 ·by_cases FN:w=v
  ·subst FN;simp
  ·rw[if_neg FN,h.iff w hw];simp[FN]
 ·by_cases FN:w=v
  ·subst FN
   refine⟨Q[i],by simp,by simp,?_,hr⟩
   rw[zO _ (List.getElem_mem hi),wc]
   exact List.idxOf_lt_length_of_mem (List.getElem_mem hi)
  ·have hwQ:w∈Q:=by
    rcases List.mem_append.1 hw with hw|hw
    ·exact hw
    ·exact absurd (List.mem_singleton.1 hw) FN
   obtain⟨u,h1,h2,h3,h4⟩:=h.up w hwQ il
   exact⟨u,by simp[h1],by rw[if_neg FN];exact h2,by rw[zO u h1,zO w hwQ];exact h3,h4⟩
 ·have gM:j<Q.length:=by have:=h.ile;omega
  rw[List.getElem_append_left gM]at JE
  exact List.mem_append_left _ (h.done j hj gM w hw JE)
theorem Bq.next (h:Bq n c f x par Q i) (hi:i<Q.length) (dE:∀v,v<n->f Q[i] v<c Q[i] v->0<=par v):Bq n c f x par Q (i+1):=by
 refine⟨h.nodup,h.lt,h.root,h.mem,h.iff,h.up,fun j hj hl v hv hr=>?_,by omega⟩
 by_cases mO:j=i
 ·subst mO;exact(h.iff v hv).1 (dE v hv hr)
 ·exact h.done j (by omega) hl v hv hr
theorem Bq.cut (h:Bq n c f x par Q Q.length) {y:Nat} (hy:y<n) (hp:par y<0):∃S:Nat->Bool,S x=true/\S y=false/\∀u v,u<n->v<n->S u=true->S v=false->¬f u v<c u v:=by
 refine⟨fun v=>decide (v∈Q),by simp[h.mem],?_,fun u v hu hv h1 h2 hr=>?_⟩
 ·have:y∉Q:=fun hm=>by have:=(h.iff y hy).2 hm;omega
  simp[this]
 ·simp only[decide_eq_true_eq,decide_eq_false_iff_not]at h1 h2
  obtain⟨j,hj,rfl⟩:=List.getElem_of_mem h1
  exact h2 (h.done j hj hj v hv hr)
def u9 (c f:Nat->Nat->Int) (Q:List Nat) (y k:Nat) (out:List Nat):Prop:=∃rest,out.reverse=k::rest/\(k::rest).getLast (by simp)=y/\rD f c (k::rest)/\(k::rest).Pairwise (fun a b=>Q.idxOf a<Q.idxOf b)/\∀v∈k::rest,v∈Q
theorem u9.start {y:Nat} (hy:y∈Q):u9 c f Q y y [y]:=⟨[],rfl,rfl,trivial,by simp,by simpa using hy⟩
theorem u9.step {y k u:Nat} {out:List Nat} (h:u9 c f Q y k out) (hu:u∈Q) (hi:Q.idxOf u<Q.idxOf k) (hr:f u k<c u k):u9 c f Q y u (out++[u]):=by
 obtain⟨rest,h1,h2,h3,h4,h5⟩:=h
 refine⟨k::rest,by rw[List.reverse_append,h1];rfl,by rw[List.getLast_cons (by simp)];exact h2,⟨hr,h3⟩,?_,?_⟩
 ·refine List.pairwise_cons.2 ⟨fun b hb=>?_,h4⟩
  rcases List.mem_cons.1 hb with rfl|hb
  ·exact hi
  ·have:=(List.pairwise_cons.1 h4).1 b hb;omega
 ·intro v hv
  rcases List.mem_cons.1 hv with rfl|hv
  ·exact hu
  ·exact h5 v hv
theorem u9.len {y k:Nat} {out:List Nat} (h:u9 c f Q y k out) (hq:∀v∈Q,v<n):out.length<=n:=by
 obtain⟨rest,h1,_,_,h4,h5⟩:=h
 rw[<-List.length_reverse,h1]
 refine o9 n _ (h4.imp fun dV he=>?_) fun v hv=>hq v (h5 v hv)
 subst he;omega
structure QZ (n:Nat) (c f:Nat->Nat->Int) (x y:Nat) (p:List Nat):Prop where
 way:∃r,p=x::r/\(x::r).getLast (by simp)=y
 nodup:p.Nodup
 room:rD f c p
 lt:∀v∈p,v<n
theorem u9.way {y:Nat} {out:List Nat} (h:u9 c f Q y x out) (hq:∀v∈Q,v<n):QZ n c f x y out.reverse:=by
 obtain⟨rest,h1,h2,h3,h4,h5⟩:=h
 rw[h1]
 exact⟨⟨rest,rfl,h2⟩,h4.imp fun dV he=>by subst he;omega,h3,fun v hv=>hq v (h5 v hv)⟩
end
end Go.Proofs.YtgoljkjaameagaaGreat.V

namespace Go.Proofs.YtgoljkjaameagaaGreat.V
open Go.RowKit
attribute [local irreducible] eu wpOps gq Call
attribute [local go_sem] aI fJ eP fZ fY dc upd cz K.av cJ AV.cells AV.cell rowOf rowsOf part ld rowAt bR cq dC ea gV bJ cZ eo fX eY dr ef cX cW dM dO bP aX cN bL cQ cP ec eh ee cL bU cY eb bK aO cU cG gU bp cI bQ aW dx bf dD AV.undef bD bF dR dY dI dP cH ek ew cF ej ei cR cV List.getD_cons_zero List.getD_cons_succ List.getD_nil List.all_cons List.all_nil Bool.and_true Bool.true_and Bool.and_self Bool.not_true Bool.not_false Option.map_some Option.map_none Option.bind_some Option.bind_none List.length_cons List.length_nil List.take_succ_cons List.take_zero List.take_nil List.drop_succ_cons List.drop_zero List.drop_nil List.head?_cons List.map_cons List.map_nil List.getElem?_cons_zero List.getElem?_cons_succ List.cons_append List.nil_append List.append_nil List.length_map List.set_cons_zero List.set_cons_succ Nat.reduceMul eq_self Int.toNat_natCast Int.natCast_nonneg and_self true_and and_true decide_true decide_false Bool.false_eq_true Nat.zero_add Nat.add_zero List.contains_cons List.contains_nil Bool.or_false Bool.false_or beq_self_eq_true Nat.reduceBEq ne_eq not_true_eq_false not_false_eq_true Id.mk.injEq false_and and_false Nat.reduceLT Int.reduceLE Int.reduceLT Int.reduceToNat Int.reduceNeg Int.reduceAdd Nat.le_refl List.length_append beq_true beq_false Bool.not_eq_eq_eq_not or_false false_or dJ aj aq aH aZ bB ck aT bc aU aY cK bG
def l9 (l:List Nat) (i x:Nat):Nat:=if x<i∨l.length-i<=x then l.getD (l.length-1-x) 0 else l.getD x 0
theorem zb (l:List Nat):l.map eN=dG (fun x=>l.getD x 0) l.length:=by
 refine List.ext_getElem? fun i=>?_
 by_cases h:i<l.length
 ·rw[fx h,List.getElem?_map,List.getElem?_eq_getElem h];simp[List.getD_eq_getElem?_getD,h]
 ·rw[List.getElem?_eq_none (by simp;omega),List.getElem?_eq_none (by rw[gn];omega)]
theorem HC (l:List Nat):dG (l9 l 0) l.length=l.map eN:=by
 rw[zb]
 exact gZ fun x hx=>by unfold l9;rw[if_neg (by omega)]
theorem Kp (l:List Nat) {i:Nat} (h:l.length<=2*i+1) (hi:i<=l.length):dG (l9 l i) l.length=l.reverse.map eN:=by
 rw[zb l.reverse,List.length_reverse]
 refine gZ fun x hx=>?_
 have hr:l.reverse.getD x 0=l.getD (l.length-1-x) 0:=by
  rw[List.getD_eq_getElem?_getD,List.getElem?_reverse hx,List.getD_eq_getElem?_getD]
 rw[hr]
 unfold l9
 by_cases hc:x<i∨l.length-i<=x
 ·rw[if_pos hc]
 ·rw[if_neg hc]
  have:x=l.length-1-x:=by omega
  rw[<-this]
theorem HD (l:List Nat) (hp:0<l.length) (hl:l.length<=1048576) (o:Id) (σ:ax) (ho:σ.get o=some ⟨true,1,l.map eN⟩) (rX:o.bj<σ.next):
  Call Tryz.prog 329 [.own o 0 l.length] σ fun r σ'=>σ'.get o=some ⟨true,1,l.reverse.map eN⟩/\σ.next<=σ'.next/\∀i:Id,i.bj<σ.next->(i=o)=False->σ'.get i=σ.get i:=by
 refine eZ eG rfl fun lG=>?_
 clear lG
 rw[<-HC]at ho
 have TJ:IntKind.i64.wrap ((l.length:Int)-1)=((l.length-1:Nat):Int):=by rw[br (by omega)];omega
 (try((repeat(revert hN;revert N;apply Pn.out));refine wk @TJ ?_;(repeat(refine Pn.mk ?_;intro N hN))))
 refine aM (fun m env st=>∃i:Nat,m=l.length-i/\2*i<=l.length+1/\i<=l.length/\env 2=.int .i64 (i:Int)/\env 3=.int .i64 ((l.length:Int)-1-i)/\st.get o=some ⟨true,1,dG (l9 l i) l.length⟩/\σ.next<=st.next/\∀x:Id,x.bj<σ.next->(x=o)=False->st.get x=σ.get x) l.length ⟨0,rfl,by omega,by omega,by(simp only[go_sem, ↓reduceIte,Nat.reduceEqDiff,Nat.reduceAdd,Nat.reduceSub,Nat.reduceLeDiff,reduceCtorEq])<;>rfl,by(simp only[go_sem, ↓reduceIte,Nat.reduceEqDiff,Nat.reduceAdd,Nat.reduceSub,Nat.reduceLeDiff,reduceCtorEq,TJ]);congr 1;omega,ho,by(try dsimp only);omega,fun x _ _=>rfl⟩ ?_
 rintro m env_b st_b ⟨i,rfl,yz,nR,b2,b3,bg,bn,e7⟩ bkp
 have b0:=bkp 0 (by kernel_rfl)
 simp only[go_sem, ↓reduceIte,Nat.reduceEqDiff,Nat.reduceAdd,Nat.reduceSub,Nat.reduceLeDiff,reduceCtorEq]at b0
 clear bkp
 have tl:=gn (l9 l i) l.length
 have kS:=dB (i:=o) (n:=st_b.next) (by omega)
 by_cases hi:(i:Int)<(l.length:Int)-1-i
 ·have fB:i<l.length:=by omega
  obtain⟨j,hj⟩:∃j,j=l.length-1-i:=⟨_,rfl⟩
  have iy:j<l.length:=by omega
  have LV:(l.length:Int)-1-i=(j:Int):=by omega
  rw[LV]at b3 hi
  have g1:=fx (f:=l9 l i) fB
  have g2:=fx (f:=l9 l i) iy
  have e1:l9 l i i=l.getD i 0:=by unfold l9;rw[if_neg (by omega)]
  have e2:l9 l i j=l.getD j 0:=by unfold l9;rw[if_neg (by omega)]
  have NJ:(dG (l9 l i) l.length).set i (eN (l.getD j 0))=dG (fun x=>if x=i then l.getD j 0 else l9 l i x) l.length:=pQ fB (if_pos rfl) fun x _ hx=>if_neg hx
  have JF:(dG (fun x=>if x=i then l.getD j 0 else l9 l i x) l.length).set j (eN (l.getD i 0))=dG (l9 l (i+1)) l.length:=pQ iy (by unfold l9;rw[if_pos (by omega)];congr 1;omega) fun x hx QN=>by
   by_cases Db:x=i
   ·rw[if_pos Db];unfold l9;rw[if_pos (by omega)];congr 1;omega
   ·rw[if_neg Db];unfold l9
    by_cases hc:x<i∨l.length-i<=x
    ·rw[if_pos hc,if_pos (by omega)]
    ·rw[if_neg hc,if_neg (by omega)]
  have TP:=gn (fun x=>if x=i then l.getD j 0 else l9 l i x) l.length
  have g3:=fx (f:=fun x=>if x=i then l.getD j 0 else l9 l i x) iy
  rw[e1]at g1
  rw[e2]at g2
  rw[if_neg (by omega),e2]at g3
  rw[eN]at g1 g2 g3 NJ JF
  have hii:(i:Int)<(l.length:Int):=by omega
  have mO:(j:Int)<(l.length:Int):=by omega
  have o3:IntKind.i64.wrap ((i:Int)+1)=((i+1:Nat):Int):=ay (by omega)
  have wh:IntKind.i64.wrap ((j:Int)-1)=(l.length:Int)-1-((i+1:Nat):Int):=by rw[br (by omega)];omega
  (try((repeat(revert hN;revert N;apply Pn.out));refine wk (tw @b0 (tw @b2 (tw @b3 (tw @bg (tw @hi (tw @hii (tw @mO (tw @g1 (tw @g2 (tw @g3 (tw @NJ (tw @JF (tw @tl (tw @TP (tw @kS (tw @o3 @wh)))))))))))))))) ?_;(repeat(refine Pn.mk ?_;intro N hN))))
  refine⟨_,?_,i+1,rfl,by omega,by omega,sd @o3,sd @wh,sd @JF,by(try dsimp only);omega,fun x hx A5=>?_⟩
  ·omega
  ·have:=e7 x hx A5
   simp only[go_sem, ↓reduceIte,Nat.reduceEqDiff,Nat.reduceAdd,Nat.reduceSub,Nat.reduceLeDiff,reduceCtorEq,A5,this]
 ·rw[Kp l (by omega) nR]at bg
  (try((repeat(revert hN;revert N;apply Pn.out));refine wk (tw @b0 (tw @b2 (tw @b3 (tw @bg @hi)))) ?_;(repeat(refine Pn.mk ?_;intro N hN))))
  exact fq (.inr rfl) (vs:=[]) (by simp only[fy,go_sem, ↓reduceIte,Nat.reduceEqDiff,Nat.reduceAdd,Nat.reduceSub,Nat.reduceLeDiff,reduceCtorEq]) ⟨bg,by(try dsimp only);omega,e7⟩
theorem SJ (cnt:Nat) (zQ:1<=cnt) (hn:cnt<=1048576) (c f:Nat->Nat->Int) (x y:Nat) (hx:x<cnt) (hy:y<cnt):
  mi Tryz.prog 301 [.dn (lS cnt c f),.int .i64 x,.int .i64 y] fun r=>(r=.cu/\∃S:Nat->Bool,S x=true/\S y=false/\∀u v,u<cnt->v<cnt->S u=true->S v=false->¬f u v<c u v)∨∃p:List Nat,r=.sl (p.map eN)/\QZ cnt c f x y p:=by
 refine mi.body eG rfl fun hl n0=>?_
 clear hl
 have lM:=xj c cnt
 have jM:(0:Int)<=(cnt:Int):=by omega
 have Db:(x:Int)<(cnt:Int):=by omega
 have TM:(y:Int)<(cnt:Int):=by omega
 (try((repeat(revert hN;revert N;apply Pn.out));refine wk (tw @lS.eq_1 @lM) ?_;(repeat(refine Pn.mk ?_;intro N hN))))
 refine .inr (aJ _ _ _ _ _ (fun r σ1 hq=>?_) (Kn cnt zQ hn (-1) ⟨301002000,n0+1+1⟩ _ (sd @Nat.zero_add) (by(try dsimp only);omega)))
 obtain⟨o,rfl,ho,L2,L3,mz⟩:=hq
 (try dsimp only at ho L2 L3 mz)
 refine hN _ _ ?_
 clear hN N
 have kS:=dB L3
 have p9:(cnt:Int)<=1048576:=by omega
 have RA:qH<qH+cnt:=by omega
 have ia:List.replicate cnt [AV.int .i64 (-1)]=dZ (fun _=>-1) cnt:=by
  refine List.ext_getElem? fun i=>?_
  by_cases h:i<cnt
  ·rw[dS h,List.getElem?_replicate,if_pos h];rfl
  ·rw[List.getElem?_eq_none (by simp;omega),List.getElem?_eq_none (by rw[dF];omega)]
 rw[ia]at ho
 have B6:(dZ (fun _=>-1) cnt).set x (aw (x:Int))=dZ (fun v=>if v=x then(x:Int)else -1) cnt:=lz hx (if_pos rfl) fun v _ hv=>if_neg hv
 have hg0:=dS (f:=fun _=>-1) hx
 have tl0:=dF (fun _=>-1) cnt
 rw[aw]at B6 hg0
 (try((repeat(revert hN;revert N;apply Pn.out));refine wk (tw @lS.eq_1 (tw @lM (tw @jM (tw @p9 @kS)))) ?_;(repeat(refine Pn.mk ?_;intro N hN))))
 refine KR ?_
 simp only[go_sem, ↓reduceIte,Nat.reduceEqDiff,Nat.reduceAdd,Nat.reduceSub,Nat.reduceLeDiff,reduceCtorEq,RA]
 refine hN _ _ ?_
 clear hN N
 (try((repeat(revert hN;revert N;apply Pn.out));refine wk (tw @ho (tw @kS (tw @B6 (tw @hg0 (tw @tl0 @Db))))) ?_;(repeat(refine Pn.mk ?_;intro N hN))))
 obtain⟨C,hC⟩:∃C:Id,C=⟨301003001,σ1.next+1⟩:=⟨_,rfl⟩
 have RV:=dv (a:=o) (b:=C) (by rw[hC];(try dsimp only);omega)
 have hCv:C.bj=σ1.next+1:=by rw[hC]
 refine aM (fun m env st=>∃(par:Nat->Int) (Q:List Nat) (i:Nat),m=cnt-i/\Bq cnt c f x par Q i/\st.get o=some ⟨true,1,dZ par cnt⟩/\st.get C=some ⟨true,qH+cnt,(Q.drop i).map eN⟩/\σ1.next+1<st.next) cnt ⟨_,[x],0,rfl,Bq.start hx,sd @kS,by rw[hC];simp only[go_sem, ↓reduceIte,Nat.reduceEqDiff,Nat.reduceAdd,Nat.reduceSub,Nat.reduceLeDiff,reduceCtorEq,kS];rfl,by(try dsimp only);omega⟩ ?_
 rintro m env_b st_b ⟨par,Q,i,rfl,hB,bgo,bgC,bn⟩ bkp
 have b0:=bkp 0 (by kernel_rfl)
 have b1:=bkp 1 (by kernel_rfl)
 have b2:=bkp 2 (by kernel_rfl)
 have b7:=bkp 7 (by kernel_rfl)
 have b8:=bkp 8 (by kernel_rfl)
 have b9:=bkp 9 (by kernel_rfl)
 rw[<-hC]at b9
 simp only[go_sem, ↓reduceIte,Nat.reduceEqDiff,Nat.reduceAdd,Nat.reduceSub,Nat.reduceLeDiff,reduceCtorEq]at b0 b1 b2 b7 b8 b9
 clear bkp
 have hQn:=hB.len
 have nR:=hB.ile
 have To:((Q.drop i).map eN).length=Q.length-i:=by simp
 by_cases hi:i<Q.length
 ·have lJ:(0:Int)<((Q.length-i:Nat):Int):=by omega
  have sN:Q.drop i=Q[i]::Q.drop (i+1):=List.drop_eq_getElem_cons hi
  obtain⟨u,hu⟩:∃u,u=Q[i]:=⟨_,rfl⟩
  have hun:u<cnt:=by rw[hu];exact hB.lt _ (List.getElem_mem hi)
  rw[<-hu]at sN
  (try((repeat(revert hN;revert N;apply Pn.out));refine wk (tw @b0 (tw @b1 (tw @b2 (tw @b7 (tw @b8 (tw @b9 (tw @bgC (tw @To @lJ)))))))) ?_;(repeat(refine Pn.mk ?_;intro N hN))))
  refine KR ?_
  rw[sN,List.map_cons,show eN u=[.int .i64 (u:Int)]from rfl]at bgC
  simp only[go_sem, ↓reduceIte,Nat.reduceEqDiff,Nat.reduceAdd,Nat.reduceSub,Nat.reduceLeDiff,reduceCtorEq,b9,bgC]
  refine hN _ _ ?_
  clear hN N
  (try((repeat(revert hN;revert N;apply Pn.out));refine wk @b7 ?_;(repeat(refine Pn.mk ?_;intro N hN))))
  refine aM (fun m env st=>∃(v:Nat) (par':Nat->Int) (Q':List Nat),m=cnt-v/\v<=cnt/\env 36=.int .i64 (v:Int)/\Bq cnt c f x par' Q' i/\(∃h:i<Q'.length,Q'[i]=u)/\st.get o=some ⟨true,1,dZ par' cnt⟩/\st.get C=some ⟨true,qH+cnt,(Q'.drop (i+1)).map eN⟩/\σ1.next+1<st.next/\∀w,w<v->f u w<c u w->0<=par' w) cnt ⟨0,par,Q,rfl,Nat.zero_le _,by(simp only[go_sem, ↓reduceIte,Nat.reduceEqDiff,Nat.reduceAdd,Nat.reduceSub,Nat.reduceLeDiff,reduceCtorEq])<;>rfl,hB,⟨hi,hu.symm⟩,sd (tw @RV @bgo),sd @RV,by(try dsimp only);omega,fun w hw=>absurd hw (Nat.not_lt_zero w)⟩ ?_
  rintro m env_c st_c ⟨v,par',Q',rfl,hvn,c36,dH,⟨rq,FM⟩,yi,cgC,cn,dE⟩ ckp
  have c0:=ckp 0 (by kernel_rfl)
  have c1:=ckp 1 (by kernel_rfl)
  have c2:=ckp 2 (by kernel_rfl)
  have c7:=ckp 7 (by kernel_rfl)
  have c8:=ckp 8 (by kernel_rfl)
  have c9:=ckp 9 (by kernel_rfl)
  have jC:=ckp 10 (by kernel_rfl)
  have Oh:=ckp 35 (by kernel_rfl)
  simp only[go_sem, ↓reduceIte,Nat.reduceEqDiff,Nat.reduceAdd,Nat.reduceSub,Nat.reduceLeDiff,reduceCtorEq,b0,b1,b2,b7,b8,b9]at c0 c1 c2 c7 c8 c9 jC Oh
  clear ckp
  have tl:=dF par' cnt
  by_cases hv:(v:Int)<(cnt:Int)
  ·have Ed:v<cnt:=by omega
   have OV:=dS (f:=par') Ed
   have mz:=Ow cnt c f u v hun Ed
   have hw:IntKind.i64.wrap ((v:Int)+1)=((v+1:Nat):Int):=ay (by omega)
   rw[aw]at OV
   rw[lS]at mz
   by_cases kf:par' v<0
   ·by_cases hr:f u v<c u v
    ·rw[decide_eq_true hr]at mz
     have dW:(dZ par' cnt).set v (aw (u:Int))=dZ (fun w=>if w=v then(u:Int)else par' w) cnt:=lz Ed (if_pos rfl) fun w _ hw=>if_neg hw
     rw[aw]at dW
     have p7:=dH.visit rq Ed kf (by rw[FM];exact hr)
     rw[FM]at p7
     have hQ2:=p7.len
     rw[List.length_append]at hQ2
     simp only[List.length_singleton]at hQ2
     have ga:qH+(Q'.drop (i+1)).length<qH+cnt:=by rw[List.length_drop];omega
     (repeat(first|((repeat(revert hN;revert N;apply Pn.out));refine wk (tw @lS.eq_1 (tw @c0 (tw @c7 (tw @c8 (tw @c9 (tw @jC (tw @c36 (tw @Oh (tw @hv (tw @yi (tw @OV (tw @tl (tw @kf @dW))))))))))))) ?_;(repeat(refine Pn.mk ?_;intro N hN)))|((try apply Or.inl);refine⟨_,ar.x (mz) (sd (tw @lS.eq_1 (tw @c0 (tw @c7 (tw @c8 (tw @c9 (tw @jC (tw @c36 (tw @Oh (tw @hv (tw @yi (tw @OV (tw @tl (tw @kf @dW)))))))))))))),?_⟩;refine hN _ _ ?_;clear hN N)))
     refine KR ?_
     have hq:(Q'.drop (i+1)).map eN++[[.int .i64 (v:Int)]]=((Q'++[v]).drop (i+1)).map eN:=by rw[List.drop_append_of_le_length (by omega),List.map_append];rfl
     simp only[go_sem, ↓reduceIte,Nat.reduceEqDiff,Nat.reduceAdd,Nat.reduceSub,Nat.reduceLeDiff,reduceCtorEq,c9,cgC,ga,RV,hq]
     refine hN _ _ ?_
     clear hN N
     (try((repeat(revert hN;revert N;apply Pn.out));refine wk (tw @c36 @hw) ?_;(repeat(refine Pn.mk ?_;intro N hN))))
     refine⟨_,?_,v+1,_,_,rfl,Ed,sd @hw,p7,⟨by rw[List.length_append];omega,by rw[List.getElem_append_left rq];exact FM⟩,sd @RV,sd @RV,by(try dsimp only);omega,fun w hw JE=>?_⟩
     ·omega
     ·by_cases FN:w=v
      ·rw[if_pos FN];omega
      ·rw[if_neg FN];exact dE w (by omega) JE
    ·rw[decide_eq_false hr]at mz
     (repeat(first|((repeat(revert hN;revert N;apply Pn.out));refine wk (tw @lS.eq_1 (tw @c0 (tw @c7 (tw @c8 (tw @c9 (tw @jC (tw @c36 (tw @Oh (tw @hv (tw @yi (tw @OV (tw @tl (tw @kf @hw))))))))))))) ?_;(repeat(refine Pn.mk ?_;intro N hN)))|((try apply Or.inl);refine⟨_,ar.x (mz) (sd (tw @lS.eq_1 (tw @c0 (tw @c7 (tw @c8 (tw @c9 (tw @jC (tw @c36 (tw @Oh (tw @hv (tw @yi (tw @OV (tw @tl (tw @kf @hw)))))))))))))),?_⟩;refine hN _ _ ?_;clear hN N)))
     refine⟨_,?_,v+1,par',Q',rfl,Ed,sd @hw,dH,⟨rq,FM⟩,sd @yi,sd @cgC,by(try dsimp only);omega,fun w hw JE=>?_⟩
     ·omega
     ·by_cases FN:w=v
      ·subst FN;exact absurd JE hr
      ·exact dE w (by omega) JE
   ·(try((repeat(revert hN;revert N;apply Pn.out));refine wk (tw @lS.eq_1 (tw @c0 (tw @c7 (tw @c8 (tw @c9 (tw @jC (tw @c36 (tw @Oh (tw @hv (tw @yi (tw @OV (tw @tl (tw @kf @hw))))))))))))) ?_;(repeat(refine Pn.mk ?_;intro N hN))))
    refine⟨_,?_,v+1,par',Q',rfl,Ed,sd @hw,dH,⟨rq,FM⟩,sd @yi,sd @cgC,by(try dsimp only);omega,fun w hw JE=>?_⟩
    ·omega
    ·by_cases FN:w=v
     ·subst FN;omega
     ·exact dE w (by omega) JE
  ·have VB:v=cnt:=by omega
   subst VB
   (try((repeat(revert hN;revert N;apply Pn.out));refine wk (tw @c36 (tw @Oh @hv)) ?_;(repeat(refine Pn.mk ?_;intro N hN))))
   refine⟨_,?_,par',Q',i+1,rfl,dH.next rq fun w hw hr=>dE w hw (by rw[<-FM];exact hr),sd @yi,sd @cgC,by(try dsimp only);omega⟩
   omega
 ·have hiQ:i=Q.length:=by omega
  subst hiQ
  have lJ:¬(0:Int)<((Q.length-Q.length:Nat):Int):=by omega
  have U9:=dS (f:=par) hy
  have tl:=dF par cnt
  rw[aw]at U9
  by_cases kf:par y<0
  ·(try((repeat(revert hN;revert N;apply Pn.out));refine wk (tw @b0 (tw @b1 (tw @b2 (tw @b7 (tw @b8 (tw @b9 (tw @bgC (tw @To (tw @lJ (tw @bgo (tw @U9 (tw @tl (tw @TM @kf))))))))))))) ?_;(repeat(refine Pn.mk ?_;intro N hN))))
   exact⟨[.cu],sd @Nat.zero_add,.cu,kd _ _,.inl ⟨rfl,hB.cut hy kf⟩⟩
  ·(try((repeat(revert hN;revert N;apply Pn.out));refine wk (tw @b0 (tw @b1 (tw @b2 (tw @b7 (tw @b8 (tw @b9 (tw @bgC (tw @To (tw @lJ (tw @bgo (tw @U9 (tw @tl (tw @TM @kf))))))))))))) ?_;(repeat(refine Pn.mk ?_;intro N hN))))
   refine aM (fun m env st=>∃(k:Nat) (out:List Nat) (p:Id),m=Q.idxOf k/\env 13=.int .i64 (k:Int)/\env 12=.own p 0 out.length/\st.get p=some ⟨true,1,out.map eN⟩/\p.bj<st.next/\st_b.next<=p.bj/\k∈Q/\u9 c f Q y k out/\st.get o=some ⟨true,1,dZ par cnt⟩) (Q.idxOf y) ⟨y,[y],⟨301017001,st_b.next+1+1⟩,rfl,by(simp only[go_sem, ↓reduceIte,Nat.reduceEqDiff,Nat.reduceAdd,Nat.reduceSub,Nat.reduceLeDiff,reduceCtorEq]),by(simp only[go_sem, ↓reduceIte,Nat.reduceEqDiff,Nat.reduceAdd,Nat.reduceSub,Nat.reduceLeDiff,reduceCtorEq])<;>rfl,by(simp only[go_sem, ↓reduceIte,Nat.reduceEqDiff,Nat.reduceAdd,Nat.reduceSub,Nat.reduceLeDiff,reduceCtorEq])<;>rfl,by(try dsimp only);omega,by(try dsimp only);omega,(hB.iff y hy).1 (by omega),u9.start ((hB.iff y hy).1 (by omega)),by(have QL:=dB (i:=o) (n:=st_b.next) (by omega));simp only[go_sem, ↓reduceIte,Nat.reduceEqDiff,Nat.reduceAdd,Nat.reduceSub,Nat.reduceLeDiff,reduceCtorEq,QL,bgo]⟩ ?_
   rintro m env_d st_d ⟨k,out,p,rfl,d13,d12,dgp,dpn,dpo,hkQ,uQ,dgo⟩ dkp
   have d1:=dkp 1 (by kernel_rfl)
   have d8:=dkp 8 (by kernel_rfl)
   simp only[go_sem, ↓reduceIte,Nat.reduceEqDiff,Nat.reduceAdd,Nat.reduceSub,Nat.reduceLeDiff,reduceCtorEq,b1,b8]at d1 d8
   clear dkp
   have AY:=dB dpn
   have B9:=dB (i:=o) (n:=st_d.next) (by omega)
   have dK:=dv (a:=o) (b:=p) (by omega)
   have hol:=uQ.len hB.lt
   have eU:=hB.lt k hkQ
   have gY:(out.map eN).length=out.length:=by simp
   by_cases Tt:k=x
   ·have hd:decide ((k:Int)=(x:Int))=true:=decide_eq_true (by rw[Tt])
    have Vr:0<out.length:=by
     obtain⟨rest,h1,_⟩:=uQ
     rw[<-List.length_reverse,h1];simp
    (try((repeat(revert hN;revert N;apply Pn.out));refine wk (tw @d1 (tw @d8 (tw @d12 (tw @d13 (tw @hd @Bool.not_true))))) ?_;(repeat(refine Pn.mk ?_;intro N hN))))
    refine .inr (aJ _ _ _ _ _ (fun r σ2 hq=>?_) (HD out Vr (by omega) p _ dgp (by(try dsimp only);omega)))
    obtain⟨OS,np,Jq⟩:=hq
    refine hN _ _ ?_
    clear hN N
    (try((repeat(revert hN;revert N;apply Pn.out));refine wk @d12 ?_;(repeat(refine Pn.mk ?_;intro N hN))))
    refine⟨[.own p 0 out.length],sd @d12,.sl (out.reverse.map eN),?_,.inr ⟨out.reverse,rfl,by subst Tt;exact uQ.way hB.lt⟩⟩
    exact fj (sz:=1) OS (by simp) fun a=>Ox _ 4 a
   ·have hd:decide ((k:Int)=(x:Int))=false:=decide_eq_false fun h=>Tt (by omega)
    obtain⟨u,huQ,hpu,zO,hr⟩:=hB.up k hkQ Tt
    have eB:=dS (f:=par) eU
    rw[aw,hpu]at eB
    have hki:(k:Int)<(cnt:Int):=by omega
    have e1:out.length+1<=16777216:=by omega
    (try((repeat(revert hN;revert N;apply Pn.out));refine wk (tw @d1 (tw @d8 (tw @d12 (tw @d13 (tw @hd (tw @Bool.not_false (tw @dgo (tw @dgp (tw @eB (tw @tl (tw @hki (tw @AY (tw @B9 (tw @dK (tw @gY @e1))))))))))))))) ?_;(repeat(refine Pn.mk ?_;intro N hN))))
    refine⟨_,zO,u,out++[u],⟨301021003,st_d.next+1+1⟩,rfl,sd @Nat.zero_add,by rw[List.length_append];simp only[go_sem, ↓reduceIte,Nat.reduceEqDiff,Nat.reduceAdd,Nat.reduceSub,Nat.reduceLeDiff,reduceCtorEq,List.length_cons,List.length_nil],by rw[List.map_append,List.map_cons,List.map_nil];simp only[go_sem, ↓reduceIte,Nat.reduceEqDiff,Nat.reduceAdd,Nat.reduceSub,Nat.reduceLeDiff,reduceCtorEq,eN],by(try dsimp only);omega,by(try dsimp only);omega,huQ,uQ.step huQ zO hr,sd (tw @B9 (tw @dK @dgo))⟩
end Go.Proofs.YtgoljkjaameagaaGreat.V
