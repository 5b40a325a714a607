/- A new crystal. -/
import Derived.Test.YtgoelphibofcmaaGreatWkD
import Derived.Test.YtgoelphibofcmaaGreatWkB
import Derived.Shelf.SlSortCmp.WholeK
import Derived.Shelf.SlSortCmp.NoneTotal
import Derived.Ground.SlsfProg
import Derived.Test.YtgoelphibofcmaaGreatProg
import Derived.Test.YtgoelphibofcmaaGreatWkC
import Derived.Maps.RangeRun
import Derived.Test.YtgoelphibofcmaaGreatChecked
import Derived.RangeFuncNested
import Derived.RangeFuncBound
import Derived.RangeFuncCalls
import Derived.RangeFuncLeaves
import Derived.Shelf.Abstract
import Derived.Shelf.RegionOpen
import Derived.WalkKit
import Derived.OwnWalkIn
import Derived.TacticsInMore
import Derived.LoopNIn
import Derived.LoopIn
import Derived.BigQuiet
import Derived.RangeFuncBox
import Derived.RangeFuncWrites
import Derived.Maps.AppendAt
set_option linter.unusedVariables false
set_option linter.unusedSimpArgs false
set_option maxRecDepth 100000
set_option maxHeartbeats 16000000
namespace Go.Proofs.YtgoelphibofcmaaGreat.V
open Go.RowKit
attribute [local irreducible] dG wpOps gz Call
attribute [local go_sem] aL fU eV gw gr cK upd cw K.av cU AV.cells AV.cell rowOf rowsOf part ld rowAt bJ cr dK ep iC bR dj eF gq fh dz ew dh de ec ee bV bh cX bU cZ cY eu ez ev cW cj di er bS aQ db cG iA bz cN bW aX dn aZ dL AV.undef bG bK ef eo dW ea cJ eE eH cD eB eA da dc List.getD_cons_zero List.getD_cons_succ List.getD_nil List.all_cons List.all_nil Bool.and_true Bool.true_and Bool.and_self Bool.not_true Bool.not_false Option.map_some Option.map_none Option.bind_some Option.bind_none List.length_cons List.length_nil List.take_succ_cons List.take_zero List.take_nil List.drop_succ_cons List.drop_zero List.drop_nil List.head?_cons List.map_cons List.map_nil List.getElem?_cons_zero List.getElem?_cons_succ List.cons_append List.nil_append List.append_nil List.length_map List.set_cons_zero List.set_cons_succ Nat.reduceMul eq_self Int.toNat_natCast Int.natCast_nonneg and_self true_and and_true decide_true decide_false Bool.false_eq_true Nat.zero_add Nat.add_zero List.contains_cons List.contains_nil Bool.or_false Bool.false_or beq_self_eq_true Nat.reduceBEq ne_eq not_true_eq_false not_false_eq_true Id.mk.injEq false_and and_false Nat.reduceLT Int.reduceLE Int.reduceLT Int.reduceToNat Int.reduceNeg Int.reduceAdd Nat.le_refl List.length_append beq_true beq_false Bool.not_eq_eq_eq_not or_false false_or dX ai aq aH bj bE cu aW br aU bp cV bP
structure p7 (g:Rows) (n:Nat) (c T O:Id) (s:aM) (ts:List ah):Prop where
 row:g c=some ⟨true,6,[[.sl (s.ax.aB.map bD),.sl (s.ax.ae.map bx),.sl (s.bF.ae.map ad),.int .i64 s.az,.map T mP,.map O mP]]⟩
 tl:g T=some ⟨true,mP.nS,ts.map ad⟩
 op:∃rows,g O=some ⟨true,mP.nS,rows⟩/\OW rows
 cv:c.bq<n
 tv:T.bq<n
 ov:O.bq<n
 cT:c≠T
 cO:c≠O
 TO:T≠O
theorem p7.KV {g:Rows} {n:Nat} {c T O:Id} {s:aM} {ts:List ah} (h:p7 g n c T O s ts):w7 g n c T O s ts:=⟨⟨_,h.row⟩,⟨_,h.tl⟩,h.cv,h.tv,h.ov⟩
theorem p7.look {σ:au} {g:Rows} {n:Nat} {c T O:Id} {s:aM} {ts:List ah} (h:p7 σ.get σ.next c T O s ts) (k:iK σ O g n):p7 g n c T O s ts:=
 ⟨(k.2.1 _ h.cv h.cO).trans h.row,(k.2.1 _ h.tv h.TO).trans h.tl,k.2.2,Nat.lt_of_lt_of_le h.cv k.1,Nat.lt_of_lt_of_le h.tv k.1,Nat.lt_of_lt_of_le h.ov k.1,h.cT,h.cO,h.TO⟩
theorem p7.frame {g g':Rows} {n n':Nat} {c T O:Id} {s:aM} {ts:List ah} (h:p7 g n c T O s ts) (hn:n<=n') (hf:∀x:Id,x.bq<n->g' x=g x):p7 g' n' c T O s ts:=
 ⟨(hf _ h.cv).trans h.row,(hf _ h.tv).trans h.tl,by rw[hf _ h.ov];exact h.op,Nat.lt_of_lt_of_le h.cv hn,Nat.lt_of_lt_of_le h.tv hn,Nat.lt_of_lt_of_le h.ov hn,h.cT,h.cO,h.TO⟩
def S4 (σ:au) (s:aM) (ts:List ah) (r:AV) (σ':au):Prop:=
 ∃c T O:Id,r=.ptr c 0 0/\p7 σ'.get σ'.next c T O s ts/\σ.next<=c.bq/\σ.next<=T.bq/\σ.next<=O.bq/\σ.next<=σ'.next/\∀x:Id,x.bq<σ.next->σ'.get x=σ.get x
theorem BN {l:List ah} {p:ar}:eL l p<0↔∀t∈l,t.aO≠p:=by
 unfold eL qw
 by_cases h:(l.findIdx fun c=>decide (c.aO=p))<l.length
 ·rw[if_pos h]
  obtain⟨t,ht,h2⟩:=List.findIdx_lt_length.1 h
  exact⟨fun h=>by omega,fun h=>absurd (by simpa using h2) (h t ht)⟩
 ·rw[if_neg h]
  exact⟨fun _ t ht e=>h (List.findIdx_lt_length.2 ⟨t,ht,by simp[e]⟩),fun _=>by omega⟩
theorem J2 {l:List ah} (h:xi l) {k:Nat} (hk:k<l.length):eL (l.take k) (aT l k).aO<0:=by
 rw[BN]
 intro t ht e
 obtain⟨j,hj,rfl⟩:=List.getElem_of_mem ht
 have KA:j<k:=by rw[List.length_take]at hj;omega
 have:=h j k KA hk
 rw[List.getElem_take]at e
 have e2:aT l j=l[j]'(by omega):=by unfold aT;rw[List.getD_eq_getElem?_getD,List.getElem?_eq_getElem (by omega)];rfl
 rw[e2,e]at this
 simp[kH]at this
theorem Mh {l:List ah} {k:Nat} (hk:k<l.length):(l.take k).map ad++[[.int .i64 (aT l k).aO.eY,.int .i64 (aT l k).aO.eU,.int .i64 (aT l k).bd]]=(l.take (k+1)).map ad:=by
 have e2:aT l k=l[k]:=by unfold aT;rw[List.getD_eq_getElem?_getD,List.getElem?_eq_getElem hk];rfl
 rw[List.take_succ_eq_append_getElem hk,List.map_append,e2]
 rfl
theorem iF.MB {s:aw} {l:List ah} (hA:lN s l):∀q,0<=gW l q->eJ s (gW l q)=true:=fun _ h=>AW hA h
theorem zZ (s:aM) (hS:iF s.ax) (l:List ah) (hA:lN s.ax l) (σ:au):Call Tryz.prog 73 [.agg (ay s),.agg [.sl (l.map ad)]] σ (S4 σ s l):=by
 refine eW ek rfl fun mV=>?_
 clear mV
 have Bv:=hA.1.w8
 (try((repeat(revert hN;revert N;apply Pn.out));refine wk @ay.eq_1 ?_;(repeat(refine Pn.mk ?_;intro N hN))))
 refine aI (fun n env st=>∃k:Nat,n=(l.length)-k/\k<=(l.length)/\env 18=.int .i64 (k:Int)/\st.get ⟨73001004,σ.next+1⟩=some ⟨true,6,[[.sl (s.ax.aB.map bD),.sl (s.ax.ae.map bx),.sl (s.bF.ae.map ad),.int .i64 s.az,.map ⟨73001001,σ.next+1⟩ mP,.map ⟨73001002,σ.next+1⟩ mP]]⟩/\st.get ⟨73001001,σ.next+1⟩=some ⟨true,mP.nS,(l.take k).map ad⟩/\st.get ⟨73001002,σ.next+1⟩=some ⟨true,mP.nS,[]⟩/\st.get ⟨73000001,σ.next⟩=some ⟨true,1,[[.sl (l.map ad)]]⟩/\(σ.next+3<=st.next/\∀x:Id,x.bq<σ.next->st.get x=σ.get x)) (l.length) ⟨0,by omega,by omega,sl @Nat.zero_add,sl @Nat.zero_add,sl @Nat.zero_add,sl @Nat.zero_add,sl @Nat.zero_add,⟨by(try dsimp only);omega,fun x hx=>by
  have:=dq hx
  simp only[go_sem, ↓reduceIte,Nat.reduceEqDiff,Nat.reduceAdd,Nat.reduceSub,Nat.reduceLeDiff,reduceCtorEq,this]⟩⟩ ?_
 rintro n_a env_a st_a ⟨k,rfl,ale,a18,ag0,ag1,ag2,ag3,j9⟩ dp
 have a3:=dp 3 (by kernel_rfl);have a5:=dp 5 (by kernel_rfl);have Py:=dp 16 (by kernel_rfl);have a17:=dp 17 (by kernel_rfl)
 simp only[go_sem, ↓reduceIte,Nat.reduceEqDiff,Nat.reduceAdd,Nat.reduceSub,Nat.reduceLeDiff,reduceCtorEq]at a3 a5 Py a17
 clear dp
 obtain⟨an,dp⟩:=j9
 have v1:=dq (i:=⟨73001004,σ.next+1⟩) (n:=st_a.next) (by(try dsimp only);omega)
 have v2:=dq (i:=⟨73001001,σ.next+1⟩) (n:=st_a.next) (by(try dsimp only);omega)
 have v3:=dq (i:=⟨73001002,σ.next+1⟩) (n:=st_a.next) (by(try dsimp only);omega)
 have v4:=dq (i:=⟨73000001,σ.next⟩) (n:=st_a.next) (by(try dsimp only);omega)
 by_cases hk:(k:Int)<(l.length:Int)
 ·have ck:∀{e:Env} {gg:Rows} {nx:Nat},(e 18=.int .i64 (IntKind.i64.wrap ((k:Int)+1)))->(gg ⟨73001004,σ.next+1⟩=some ⟨true,6,[[.sl (s.ax.aB.map bD),.sl (s.ax.ae.map bx),.sl (s.bF.ae.map ad),.int .i64 s.az,.map ⟨73001001,σ.next+1⟩ mP,.map ⟨73001002,σ.next+1⟩ mP]]⟩)->(gg ⟨73001001,σ.next+1⟩=some ⟨true,mP.nS,(l.take (k+1)).map ad⟩)->(gg ⟨73001002,σ.next+1⟩=some ⟨true,mP.nS,[]⟩)->(gg ⟨73000001,σ.next⟩=some ⟨true,1,[[.sl (l.map ad)]]⟩)->(σ.next+3<=nx/\∀x:Id,x.bq<σ.next->gg x=σ.get x)->∃m0,m0<(l.length)-k/\∃k:Nat,m0=(l.length)-k/\k<=(l.length)/\e 18=.int .i64 (k:Int)/\gg ⟨73001004,σ.next+1⟩=some ⟨true,6,[[.sl (s.ax.aB.map bD),.sl (s.ax.ae.map bx),.sl (s.bF.ae.map ad),.int .i64 s.az,.map ⟨73001001,σ.next+1⟩ mP,.map ⟨73001002,σ.next+1⟩ mP]]⟩/\gg ⟨73001001,σ.next+1⟩=some ⟨true,mP.nS,(l.take k).map ad⟩/\gg ⟨73001002,σ.next+1⟩=some ⟨true,mP.nS,[]⟩/\gg ⟨73000001,σ.next⟩=some ⟨true,1,[[.sl (l.map ad)]]⟩/\(σ.next+3<=nx/\∀x:Id,x.bq<σ.next->gg x=σ.get x):=fun x1 x2 x3 x4 x5 x6=>⟨_,by omega,k+1,rfl,by omega,(by rw[x1,aA (by omega)]),x2,x3,x4,x5,x6⟩
  have eZ:k<l.length:=by omega
  have hg:=fN eZ
  have hm:=we (J2 hA.1.M9 eZ)
  have jf:=Mh eZ
  (try((repeat(revert hN;revert N;apply Pn.out));refine wk (tw @a18 (tw @ag0 (tw @ag1 (tw @ag2 (tw @ag3 (tw @a3 (tw @a5 (tw @Py (tw @a17 (tw @hk (tw @hg (tw @hm (tw @v1 (tw @v2 (tw @v3 (tw @v4 @ad.eq_1)))))))))))))))) ?_;(repeat(refine Pn.mk ?_;intro N hN))))
  refine ck ?_ ?_ ?_ ?_ ?_ (by(try dsimp only);exact⟨by omega,fun x hx=>by
   have h1:=dq (i:=x) (n:=st_a.next) (by omega)
   have h2:=cP (a:=x) (b:=⟨73001001,σ.next+1⟩) (by(try dsimp only);omega)
   have h3:=dp x hx
   simp only[go_sem, ↓reduceIte,Nat.reduceEqDiff,Nat.reduceAdd,Nat.reduceSub,Nat.reduceLeDiff,reduceCtorEq,h1,h2,h3]⟩)
  all_goals simp only[go_sem, ↓reduceIte,Nat.reduceEqDiff,Nat.reduceAdd,Nat.reduceSub,Nat.reduceLeDiff,reduceCtorEq,a18,ag0,ag1,ag2,ag3,a3,a5,Py,a17,ad,v1,v2,v3,v4,jf]
 ·have lj:k=l.length:=by omega
  subst lj
  have pN:l.take l.length=l:=List.take_length
  (try((repeat(revert hN;revert N;apply Pn.out));refine wk (tw @a18 (tw @ag0 (tw @ag1 (tw @ag2 (tw @ag3 (tw @a3 (tw @a5 (tw @Py (tw @a17 (tw @hk (tw @v1 (tw @v2 (tw @v3 @v4))))))))))))) ?_;(repeat(refine Pn.mk ?_;intro N hN))))
  refine aI (fun n env st=>∃j:Nat,n=(l.length)-j/\j<=(l.length)/\env 34=.int .i64 (j:Int)/\(σ.next+3<=st.next/\p7 st.get st.next ⟨73001004,σ.next+1⟩ ⟨73001001,σ.next+1⟩ ⟨73001002,σ.next+1⟩ s l/\∀x:Id,x.bq<σ.next->st.get x=σ.get x)) (l.length) ⟨0,by omega,by omega,sl (tw @a18 (tw @ag0 (tw @ag1 (tw @ag2 (tw @ag3 (tw @a3 (tw @a5 (tw @Py @a17)))))))),by(try dsimp only);exact⟨by omega,⟨sd @ag0,sd (tw @ag1 @pN),⟨[],sd @ag2,by intro r hr;cases hr⟩,by(try dsimp only);omega,by(try dsimp only);omega,by(try dsimp only);omega,(by intro e;injection e with e1 e2;revert e1;decide),(by intro e;injection e with e1 e2;revert e1;decide),(by intro e;injection e with e1 e2;revert e1;decide)⟩,fun x hx=>by
   have h3:=dp x hx
   simp only[go_sem, ↓reduceIte,Nat.reduceEqDiff,Nat.reduceAdd,Nat.reduceSub,Nat.reduceLeDiff,reduceCtorEq,h3]⟩⟩ ?_
  rintro n_b env_b st_b ⟨j,rfl,ble,b34,bI0⟩ eS
  have b5:=eS 5 (by kernel_rfl);have tg:=eS 32 (by kernel_rfl);have tV:=eS 33 (by kernel_rfl)
  simp only[go_sem, ↓reduceIte,Nat.reduceEqDiff,Nat.reduceAdd,Nat.reduceSub,Nat.reduceLeDiff,reduceCtorEq,a18,ag0,ag1,ag2,ag3,a3,a5,Py,a17]at b5 tg tV
  clear eS
  obtain⟨bn,bC,eS⟩:=bI0
  by_cases hj:(j:Int)<(l.length:Int)
  ·have eR:∀{e:Env} {gg:Rows} {nx:Nat},(e 34=.int .i64 (IntKind.i64.wrap ((j:Int)+1)))->(σ.next+3<=nx/\p7 gg nx ⟨73001004,σ.next+1⟩ ⟨73001001,σ.next+1⟩ ⟨73001002,σ.next+1⟩ s l/\∀x:Id,x.bq<σ.next->gg x=σ.get x)->∃m0,m0<(l.length)-j/\∃j:Nat,m0=(l.length)-j/\j<=(l.length)/\e 34=.int .i64 (j:Int)/\(σ.next+3<=nx/\p7 gg nx ⟨73001004,σ.next+1⟩ ⟨73001001,σ.next+1⟩ ⟨73001002,σ.next+1⟩ s l/\∀x:Id,x.bq<σ.next->gg x=σ.get x):=fun x1 x2=>⟨_,by omega,j+1,rfl,by omega,(by rw[x1,aA (by omega)]),x2⟩
   have iO:j<l.length:=by omega
   have hg:=fN iO
   have Lr:=nk (hA.1.pt iO)
   (try((repeat(revert hN;revert N;apply Pn.out));refine wk (tw @b34 (tw @b5 (tw @tg (tw @tV (tw @hj (tw @hg @ad.eq_1)))))) ?_;(repeat(refine Pn.mk ?_;intro N hN))))
   have Qs:p7 (bJ (bJ st_b.get ⟨73009002,st_b.next+1⟩ ⟨true,3,[[.int .i64 0,.int .i64 0,.int .i64 0]]⟩) ⟨73009002,st_b.next+1⟩ ⟨true,3,[[.int .i64 (aT l j).aO.eY,.int .i64 (aT l j).aO.eU,.int .i64 (aT l j).bd]]⟩) (st_b.next+1+1+1) ⟨73001004,σ.next+1⟩ ⟨73001001,σ.next+1⟩ ⟨73001002,σ.next+1⟩ s l:=bC.frame (by omega) fun x hx=>by
    have h1:=dq hx
    simp only[go_sem, ↓reduceIte,Nat.reduceEqDiff,Nat.reduceAdd,Nat.reduceSub,Nat.reduceLeDiff,reduceCtorEq,h1]
   refine .inr (aG _ _ _ _ _ (fun r σ1 hq=>?_) (zM (σ:=⟨bJ (bJ st_b.get ⟨73009002,st_b.next+1⟩ ⟨true,3,[[.int .i64 0,.int .i64 0,.int .i64 0]]⟩) ⟨73009002,st_b.next+1⟩ ⟨true,3,[[.int .i64 (aT l j).aO.eY,.int .i64 (aT l j).aO.eU,.int .i64 (aT l j).bd]]⟩,st_b.next+1+1+1⟩) Qs.KV Qs.cO Qs.TO Qs.op hS (iF.MB hA) (aT l j).aO Lr.1 Lr.2))
   obtain⟨g1,x1⟩:=σ1
   obtain⟨rfl,hL⟩:=hq
   (try dsimp only at hL)
   have hC2:=Qs.look hL
   have hLn:=hL.1
   have hLf:=hL.2.1
   (try dsimp only at hLn hLf)
   refine hN _ _ ?_
   clear hN N
   (try((repeat(revert hN;revert N;apply Pn.out));refine wk (tw @b34 (tw @b5 (tw @tg @tV))) ?_;(repeat(refine Pn.mk ?_;intro N hN))))
   exact eR (sd (tw @b34 (tw @b5 (tw @tg @tV)))) (by(try dsimp only);exact⟨by omega,hC2.frame (by omega) (fun x hx=>rfl),fun x hx=>by
    have h1:=dq (i:=x) (n:=st_b.next) (by omega)
    have h2:=hLf x (by omega) (fun e=>by rw[e]at hx;(try dsimp only at hx);omega)
    have h3:=eS x hx
    simp only[h2]
    simp only[go_sem, ↓reduceIte,Nat.reduceEqDiff,Nat.reduceAdd,Nat.reduceSub,Nat.reduceLeDiff,reduceCtorEq,h1,h3]⟩)
  ·(try((repeat(revert hN;revert N;apply Pn.out));refine wk (tw @b34 (tw @b5 (tw @tg (tw @tV @hj)))) ?_;(repeat(refine Pn.mk ?_;intro N hN))))
   exact fc (.inl rfl) (vs:=[.ptr ⟨73001004,σ.next+1⟩ 0 0]) (sd @Nat.zero_add) ⟨_,_,_,rfl,bC.frame (by(try dsimp only);omega) (fun x hx=>rfl),by(try dsimp only);omega,by(try dsimp only);omega,by(try dsimp only);omega,by(try dsimp only);omega,eS⟩
end Go.Proofs.YtgoelphibofcmaaGreat.V

namespace Go.Proofs.YtgoelphibofcmaaGreat.V
open Go.RowKit
attribute [local irreducible] dG wpOps gz Call
attribute [local go_sem] aL fU eV gw gr cK upd cw K.av cU AV.cells AV.cell rowOf rowsOf part ld rowAt bJ cr dK ep iC bR dj eF gq fh dz ew dh de ec ee bV bh cX bU cZ cY eu ez ev cW cj di er bS aQ db cG iA bz cN bW aX dn aZ dL AV.undef bG bK ef eo dW ea cJ eE eH cD eB eA da dc List.getD_cons_zero List.getD_cons_succ List.getD_nil List.all_cons List.all_nil Bool.and_true Bool.true_and Bool.and_self Bool.not_true Bool.not_false Option.map_some Option.map_none Option.bind_some Option.bind_none List.length_cons List.length_nil List.take_succ_cons List.take_zero List.take_nil List.drop_succ_cons List.drop_zero List.drop_nil List.head?_cons List.map_cons List.map_nil List.getElem?_cons_zero List.getElem?_cons_succ List.cons_append List.nil_append List.append_nil List.length_map List.set_cons_zero List.set_cons_succ Nat.reduceMul eq_self Int.toNat_natCast Int.natCast_nonneg and_self true_and and_true decide_true decide_false Bool.false_eq_true Nat.zero_add Nat.add_zero List.contains_cons List.contains_nil Bool.or_false Bool.false_or beq_self_eq_true Nat.reduceBEq ne_eq not_true_eq_false not_false_eq_true Id.mk.injEq false_and and_false Nat.reduceLT Int.reduceLE Int.reduceLT Int.reduceToNat Int.reduceNeg Int.reduceAdd Nat.le_refl List.length_append beq_true beq_false Bool.not_eq_eq_eq_not or_false false_or dX ai aq aH bj bE cu aW br aU bp cV bP
structure Px (g:Rows) (n:Nat) (A S C c T O:Id) (s:aM) (l:List ah):Prop where
 a:∃b,g A=some ⟨b,1,[[.sl (l.map ad)]]⟩
 sy:∃b,g S=some ⟨b,4,[ay s]⟩
 p:∃b,g C=some ⟨b,1,[[.ptr c 0 0]]⟩
 KV:w7 g n c T O s l
 av:A.bq<n
 sv:S.bq<n
 pv:C.bq<n
theorem Px.ro {g:Rows} {n:Nat} {A S C c T O:Id} {s:aM} {l:List ah} (h:Px g n A S C c T O s l):Px (V.ro g) n A S C c T O s l:=by
 obtain⟨b,h1⟩:=h.a
 obtain⟨b2,h2⟩:=h.sy
 obtain⟨b3,h3⟩:=h.p
 exact⟨⟨false,by simp[V.ro,h1]⟩,⟨false,by simp[V.ro,h2]⟩,⟨false,by simp[V.ro,h3]⟩,h.KV.ro,h.av,h.sv,h.pv⟩
theorem Px.frame {g g':Rows} {n n':Nat} {A S C c T O:Id} {s:aM} {l:List ah} (h:Px g n A S C c T O s l) (hn:n<=n') (hf:∀x:Id,x.bq<n->g' x=g x):Px g' n' A S C c T O s l:=
 ⟨by rw[hf _ h.av];exact h.a,by rw[hf _ h.sv];exact h.sy,by rw[hf _ h.pv];exact h.p,h.KV.frame hn (hf _ h.KV.cv) (hf _ h.KV.tv),Nat.lt_of_lt_of_le h.av hn,Nat.lt_of_lt_of_le h.sv hn,Nat.lt_of_lt_of_le h.pv hn⟩
def My (m:Nat) (L:List ah) (v:AV) (g:Rows) (n:Nat):Prop:=(L=[]/\v=.cC)∨∃o:Id,v=.own o 0 L.length/\g o=some ⟨true,3,L.map ad⟩/\m<=o.bq/\o.bq<n/\0<L.length/\o.site=118009005
end Go.Proofs.YtgoelphibofcmaaGreat.V

namespace Go.Proofs.YtgoelphibofcmaaGreat.V
open Go.RowKit
attribute [local irreducible] dG wpOps gz Call
attribute [local go_sem] aL fU eV gw gr cK upd cw K.av cU AV.cells AV.cell rowOf rowsOf part ld rowAt bJ cr dK ep iC bR dj eF gq fh dz ew dh de ec ee bV bh cX bU cZ cY eu ez ev cW cj di er bS aQ db cG iA bz cN bW aX dn aZ dL AV.undef bG bK ef eo dW ea cJ eE eH cD eB eA da dc List.getD_cons_zero List.getD_cons_succ List.getD_nil List.all_cons List.all_nil Bool.and_true Bool.true_and Bool.and_self Bool.not_true Bool.not_false Option.map_some Option.map_none Option.bind_some Option.bind_none List.length_cons List.length_nil List.take_succ_cons List.take_zero List.take_nil List.drop_succ_cons List.drop_zero List.drop_nil List.head?_cons List.map_cons List.map_nil List.getElem?_cons_zero List.getElem?_cons_succ List.cons_append List.nil_append List.append_nil List.length_map List.set_cons_zero List.set_cons_succ Nat.reduceMul eq_self Int.toNat_natCast Int.natCast_nonneg and_self true_and and_true decide_true decide_false Bool.false_eq_true Nat.zero_add Nat.add_zero List.contains_cons List.contains_nil Bool.or_false Bool.false_or beq_self_eq_true Nat.reduceBEq ne_eq not_true_eq_false not_false_eq_true Id.mk.injEq false_and and_false Nat.reduceLT Int.reduceLE Int.reduceLT Int.reduceToNat Int.reduceNeg Int.reduceAdd Nat.le_refl List.length_append beq_true beq_false Bool.not_eq_eq_eq_not or_false false_or dX ai aq aH bj bE cu aW br aU bp cV bP
def pE (B:ar->Int->Bool) (p:ar):Nat->List ah
 |0=>[]
 |t+1=>if B p (t:Nat)=true then pE B p t++[⟨p,(t:Nat)⟩]else pE B p t
def kF (B:ar->Int->Bool) (m:Nat) (ps:List ar):List ah:=ps.flatMap fun p=>pE B p m
theorem um (B:ar->Int->Bool) (p:ar):∀t,(pE B p t).length<=t
 |0=>by simp[pE]
 |t+1=>by
  have:=um B p t
  rw[pE]
  split
  ·rw[List.length_append,List.length_singleton];omega
  ·omega
theorem uo (B:ar->Int->Bool) (m:Nat):∀ps:List ar,(kF B m ps).length<=ps.length*m
 |[]=>by simp[kF]
 |p::ps=>by
  have h:=uo B m ps
  have h2:=um B p m
  unfold kF at *
  rw[List.flatMap_cons,List.length_append,List.length_cons,Nat.add_mul,Nat.one_mul]
  omega
theorem uU {B:ar->Int->Bool} {m:Nat} {ps:List ar} {k:Nat} (hk:k<ps.length):kF B m (ps.take (k+1))=kF B m (ps.take k)++pE B (fq ps k) m:=by
 unfold kF
 rw[List.take_succ_eq_append_getElem hk,List.flatMap_append,iV hk]
 simp
theorem Hg {σ:au} {c T O:Id} {s:aM} {l:List ah} (h:w7 σ.get σ.next c T O s l) (hS:iF s.ax) (B:ar->Int->Bool) (f:Nat) (first:List AV)
  (hpr:∀σ':au,σ.next<=σ'.next->(∀y:Id,y.bq<σ.next->σ'.get y=σ.get y)->∀p,iB p.eY->iB p.eU->∀t,eJ s.ax t=true->gz (Call Tryz.prog) f (first++[.agg (aa p),.int .i64 t]) σ' (fun r=>r=.bool (B p t)))
  (ps:List ar) (X:List (List AV)) (hl:ps.length<=10000) (HB:∀p∈ps,qH p=true) (o:Id) (pK:o.bq<σ.next) (ho:σ.get o=some ⟨true,2,ps.map aa++X⟩):
  Call Tryz.prog 118 [.ptr c 0 0,.own o 0 ps.length,.sQ f first] σ (fun r σ'=>My σ.next (kF B s.ax.ae.length ps) r σ'.get σ'.next):=by
 refine eW ek rfl fun mV=>?_
 clear mV
 have I4:=hS.Cz
 have vo:=dq pK
 (try((repeat(revert hN;revert N;apply Pn.out));refine wk (tw @ho @vo) ?_;(repeat(refine Pn.mk ?_;intro N hN))))
 refine aI (fun n env st=>∃k:Nat,n=(ps.length)-k/\k<=(ps.length)/\env 13=.int .i64 (k:Int)/\(σ.next<=st.next/\(∀y:Id,y.bq<σ.next->st.get y=σ.get y)/\My σ.next (kF B s.ax.ae.length (ps.take k)) (env 7) st.get st.next)) (ps.length) ⟨0,by omega,by omega,sl @Nat.zero_add,by(try dsimp only);exact⟨by omega,fun y hy=>by
  have h1:=dq hy
  simp only[go_sem, ↓reduceIte,Nat.reduceEqDiff,Nat.reduceAdd,Nat.reduceSub,Nat.reduceLeDiff,reduceCtorEq,h1],.inl ⟨rfl,sd @Nat.zero_add⟩⟩⟩ ?_
 rintro n_a env_a st_a ⟨k,rfl,ale,a13,j9⟩ dp
 have a0:=dp 0 (by kernel_rfl);have a2:=dp 2 (by kernel_rfl);have C7:=dp 11 (by kernel_rfl);have a12:=dp 12 (by kernel_rfl)
 simp only[go_sem, ↓reduceIte,Nat.reduceEqDiff,Nat.reduceAdd,Nat.reduceSub,Nat.reduceLeDiff,reduceCtorEq]at a0 a2 C7 a12
 clear dp
 obtain⟨an,dp,a7⟩:=j9
 by_cases hk:(k:Int)<(ps.length:Int)
 ·have ck:∀{e:Env} {gg:Rows} {nx:Nat},(e 13=.int .i64 (IntKind.i64.wrap ((k:Int)+1)))->(σ.next<=nx/\(∀y:Id,y.bq<σ.next->gg y=σ.get y)/\My σ.next (kF B s.ax.ae.length (ps.take (k+1))) (e 7) gg nx)->∃m0,m0<(ps.length)-k/\∃k:Nat,m0=(ps.length)-k/\k<=(ps.length)/\e 13=.int .i64 (k:Int)/\(σ.next<=nx/\(∀y:Id,y.bq<σ.next->gg y=σ.get y)/\My σ.next (kF B s.ax.ae.length (ps.take k)) (e 7) gg nx):=fun x1 x2=>⟨_,by omega,k+1,rfl,by omega,(by rw[x1,aA (by omega)]),x2⟩
  have eZ:k<ps.length:=by omega
  have CV:=HB _ (Ac eZ)
  obtain⟨hx,hy⟩:=nk CV
  have ha:w7 st_a.get st_a.next c T O s l:=h.frame an (dp _ h.cv) (dp _ h.tv)
  obtain⟨b,h1⟩:=ha.row
  have v1:=dq ha.cv
  have vL:=(dp o pK).trans ho
  have vao:=dq (i:=o) (n:=st_a.next) (by omega)
  have fb:(ps.map aa++X)[k]? =some (aa (fq ps k)):=by rw[List.getElem?_append_left (by simp;omega),rM eZ]
  (try((repeat(revert hN;revert N;apply Pn.out));refine wk (tw @a13 (tw @a0 (tw @a2 (tw @C7 (tw @a12 (tw @hk (tw @h1 (tw @v1 (tw @vL (tw @vao (tw @fb @aa.eq_1))))))))))) ?_;(repeat(refine Pn.mk ?_;intro N hN))))
  have hB:(kF B s.ax.ae.length (ps.take k)).length<=10000*160:=by
   have h2:=uo B s.ax.ae.length (ps.take k)
   have h3:(ps.take k).length*s.ax.ae.length<=10000*160:=Nat.mul_le_mul (by rw[List.length_take];omega) I4
   omega
  refine aI (fun n env st=>∃t:Nat,n=(s.ax.ae.length)-t/\t<=(s.ax.ae.length)/\env 24=.int .i64 (t:Int)/\st.get ⟨118004002,st_a.next+1⟩=some ⟨true,2,[aa (fq ps k)]⟩/\(st_a.next+2<=st.next/\(∀y:Id,y.bq<σ.next->st.get y=σ.get y)/\My σ.next (kF B s.ax.ae.length (ps.take k)++pE B (fq ps k) t) (env 7) st.get st.next)) (s.ax.ae.length) ⟨0,by omega,by omega,sl (tw @a13 (tw @a0 (tw @a2 (tw @C7 (tw @a12 @aa.eq_1))))),sl (tw @a13 (tw @a0 (tw @a2 (tw @C7 (tw @a12 @aa.eq_1))))),by(try dsimp only);exact⟨by omega,fun y hy=>by
   have h2:=dq (i:=y) (n:=st_a.next) (by omega)
   have h3:=dp y hy
   simp only[go_sem, ↓reduceIte,Nat.reduceEqDiff,Nat.reduceAdd,Nat.reduceSub,Nat.reduceLeDiff,reduceCtorEq,h2,h3],by
   rw[show pE B (fq ps k) 0=[]from rfl,List.append_nil]
   rcases a7 with⟨h2,h3⟩|⟨u,h2,h3,h4,h5,h6,h8⟩
   ·exact .inl ⟨h2,sd @h3⟩
   ·have h7:=dq h5
    exact .inr ⟨u,sd @h2,sd (tw @h3 @h7),h4,by omega,h6,h8⟩⟩⟩ ?_
  rintro n_b env_b st_b ⟨t,rfl,ble,b24,bg0,bI0⟩ eS
  have b0:=eS 0 (by kernel_rfl);have b2:=eS 2 (by kernel_rfl);have b9:=eS 9 (by kernel_rfl);have ET:=eS 11 (by kernel_rfl);have Kq:=eS 12 (by kernel_rfl);have Kr:=eS 13 (by kernel_rfl);have Ks:=eS 23 (by kernel_rfl)
  simp only[go_sem, ↓reduceIte,Nat.reduceEqDiff,Nat.reduceAdd,Nat.reduceSub,Nat.reduceLeDiff,reduceCtorEq,a13,a0,a2,C7,a12,aa]at b0 b2 b9 ET Kq Kr Ks
  clear eS
  obtain⟨bn,eS,b7⟩:=bI0
  have uG:=dq (i:=⟨118004002,st_a.next+1⟩) (n:=st_b.next) (by(try dsimp only);omega)
  have CO:(kF B s.ax.ae.length (ps.take k)++pE B (fq ps k) t).length<=16777215:=by
   have:=um B (fq ps k) t
   rw[List.length_append];omega
  obtain⟨L,hL⟩:∃L,kF B s.ax.ae.length (ps.take k)++pE B (fq ps k) t=L:=⟨_,rfl⟩
  rw[hL]at b7 CO
  by_cases ht:(t:Int)<(s.ax.ae.length:Int)
  ·have eR:∀{e:Env} {gg:Rows} {nx:Nat},(e 24=.int .i64 (IntKind.i64.wrap ((t:Int)+1)))->(gg ⟨118004002,st_a.next+1⟩=some ⟨true,2,[aa (fq ps k)]⟩)->(st_a.next+2<=nx/\(∀y:Id,y.bq<σ.next->gg y=σ.get y)/\My σ.next (kF B s.ax.ae.length (ps.take k)++pE B (fq ps k) (t+1)) (e 7) gg nx)->∃m0,m0<(s.ax.ae.length)-t/\∃t:Nat,m0=(s.ax.ae.length)-t/\t<=(s.ax.ae.length)/\e 24=.int .i64 (t:Int)/\gg ⟨118004002,st_a.next+1⟩=some ⟨true,2,[aa (fq ps k)]⟩/\(st_a.next+2<=nx/\(∀y:Id,y.bq<σ.next->gg y=σ.get y)/\My σ.next (kF B s.ax.ae.length (ps.take k)++pE B (fq ps k) t) (e 7) gg nx):=fun x1 x2 x3=>⟨_,by omega,t+1,rfl,by omega,(by rw[x1,aA (by omega)]),x2,x3⟩
   have Lw:t<s.ax.ae.length:=by omega
   (try((repeat(revert hN;revert N;apply Pn.out));refine wk (tw @b24 (tw @bg0 (tw @b0 (tw @b2 (tw @b9 (tw @ET (tw @Kq (tw @Kr (tw @Ks (tw @ht (tw @uG @aa.eq_1))))))))))) ?_;(repeat(refine Pn.mk ?_;intro N hN))))
   refine .inl ⟨_,hpr _ (by(try dsimp only);omega) (fun y hy=>by
    have h2:=dq (i:=y) (n:=st_b.next) (by omega)
    have h3:=eS y hy
    simp only[go_sem, ↓reduceIte,Nat.reduceEqDiff,Nat.reduceAdd,Nat.reduceSub,Nat.reduceLeDiff,reduceCtorEq,h2,h3]) (fq ps k) hx hy t (wV Lw),?_⟩
   refine hN _ _ ?_
   clear hN N
   cases hw:B (fq ps k) t
   ·have jf:kF B s.ax.ae.length (ps.take k)++pE B (fq ps k) (t+1)=L:=by rw[pE,hw];exact hL
    (try((repeat(revert hN;revert N;apply Pn.out));refine wk (tw @b24 (tw @bg0 (tw @b0 (tw @b2 (tw @b9 (tw @ET (tw @Kq (tw @Kr (tw @Ks @hw))))))))) ?_;(repeat(refine Pn.mk ?_;intro N hN))))
    refine eR ?_ ?_ (by(try dsimp only);exact⟨by omega,fun y hy=>by
     have h2:=dq (i:=y) (n:=st_b.next) (by omega)
     have h3:=eS y hy
     simp only[go_sem, ↓reduceIte,Nat.reduceEqDiff,Nat.reduceAdd,Nat.reduceSub,Nat.reduceLeDiff,reduceCtorEq,h2,h3],by
     rw[jf]
     rcases b7 with⟨h2,h3⟩|⟨u,h2,h3,h4,h5,h6,h8⟩
     ·exact .inl ⟨h2,sd @h3⟩
     ·have h7:=dq h5
      exact .inr ⟨u,sd @h2,sd (tw @h3 @h7),h4,by omega,h6,h8⟩⟩)
    all_goals simp only[go_sem, ↓reduceIte,Nat.reduceEqDiff,Nat.reduceAdd,Nat.reduceSub,Nat.reduceLeDiff,reduceCtorEq,b24,bg0,b0,b2,b9,ET,Kq,Kr,Ks,uG,aa]
   ·have jf:kF B s.ax.ae.length (ps.take k)++pE B (fq ps k) (t+1)=L++[⟨fq ps k,(t:Nat)⟩]:=by rw[pE,hw,if_pos rfl,<-hL,List.append_assoc]
    have BD:(L++[(⟨fq ps k,(t:Nat)⟩:ah)]).length=L.length+1:=by rw[List.length_append];rfl
    have yl:(L++[(⟨fq ps k,(t:Nat)⟩:ah)]).map ad=L.map ad++[[.int .i64 (fq ps k).eY,.int .i64 (fq ps k).eU,.int .i64 (t:Int)]]:=by rw[List.map_append];rfl
    rcases b7 with⟨h2,b7⟩|⟨u,b7,bu,h4,h5,h6,h8⟩
    ·subst h2
     (try((repeat(revert hN;revert N;apply Pn.out));refine wk (tw @b24 (tw @bg0 (tw @b0 (tw @b2 (tw @b9 (tw @ET (tw @Kq (tw @Kr (tw @Ks (tw @b7 (tw @hw (tw @uG @aa.eq_1)))))))))))) ?_;(repeat(refine Pn.mk ?_;intro N hN))))
     refine eR ?_ ?_ (by(try dsimp only);exact⟨by omega,fun y hy=>by
      have h2:=dq (i:=y) (n:=st_b.next) (by omega)
      have h3:=eS y hy
      simp only[go_sem, ↓reduceIte,Nat.reduceEqDiff,Nat.reduceAdd,Nat.reduceSub,Nat.reduceLeDiff,reduceCtorEq,h2,h3],.inr ⟨⟨118009005,st_b.next+1+1+1⟩,by rw[jf,BD];simp only[go_sem, ↓reduceIte,Nat.reduceEqDiff,Nat.reduceAdd,Nat.reduceSub,Nat.reduceLeDiff,reduceCtorEq]<;>rfl,by rw[jf,yl];simp only[go_sem, ↓reduceIte,Nat.reduceEqDiff,Nat.reduceAdd,Nat.reduceSub,Nat.reduceLeDiff,reduceCtorEq]<;>rfl,by(try dsimp only);omega,by(try dsimp only);omega,by rw[jf,BD];omega,rfl⟩⟩)
     all_goals simp only[go_sem, ↓reduceIte,Nat.reduceEqDiff,Nat.reduceAdd,Nat.reduceSub,Nat.reduceLeDiff,reduceCtorEq,b24,bg0,b0,b2,b9,ET,Kq,Kr,Ks,uG,aa]
    ·have Kg:=dq h5
     have ux:((⟨118004002,st_a.next+1⟩:Id)=u)=False:=eq_false fun e=>by rw[<-e]at h8;exact absurd (show(118004002:Nat)=118009005 from h8) (by decide)
     have pa:(L.map ad).length=L.length:=by simp
     (try((repeat(revert hN;revert N;apply Pn.out));refine wk (tw @b24 (tw @bg0 (tw @b0 (tw @b2 (tw @b9 (tw @ET (tw @Kq (tw @Kr (tw @Ks (tw @b7 (tw @bu (tw @hw (tw @uG (tw @Kg (tw @ux (tw @pa (tw @CO @aa.eq_1))))))))))))))))) ?_;(repeat(refine Pn.mk ?_;intro N hN))))
     refine eR ?_ ?_ (by(try dsimp only);exact⟨by omega,fun y hy=>by
      have h2:=dq (i:=y) (n:=st_b.next) (by omega)
      have h3:=eS y hy
      have h9:=cP (a:=y) (b:=u) (by omega)
      simp only[go_sem, ↓reduceIte,Nat.reduceEqDiff,Nat.reduceAdd,Nat.reduceSub,Nat.reduceLeDiff,reduceCtorEq,h2,h3,h9],.inr ⟨⟨118009005,st_b.next+1+1+1⟩,by rw[jf,BD];simp only[go_sem, ↓reduceIte,Nat.reduceEqDiff,Nat.reduceAdd,Nat.reduceSub,Nat.reduceLeDiff,reduceCtorEq]<;>rfl,by rw[jf,yl];simp only[go_sem, ↓reduceIte,Nat.reduceEqDiff,Nat.reduceAdd,Nat.reduceSub,Nat.reduceLeDiff,reduceCtorEq]<;>rfl,by(try dsimp only);omega,by(try dsimp only);omega,by rw[jf,BD];omega,rfl⟩⟩)
     all_goals simp only[go_sem, ↓reduceIte,Nat.reduceEqDiff,Nat.reduceAdd,Nat.reduceSub,Nat.reduceLeDiff,reduceCtorEq,b24,bg0,b0,b2,b9,ET,Kq,Kr,Ks,uG,ux,aa]
  ·have Uw:t=s.ax.ae.length:=by omega
   subst Uw
   (try((repeat(revert hN;revert N;apply Pn.out));refine wk (tw @b24 (tw @bg0 (tw @b0 (tw @b2 (tw @b9 (tw @ET (tw @Kq (tw @Kr (tw @Ks @ht))))))))) ?_;(repeat(refine Pn.mk ?_;intro N hN))))
   exact ck (sd (tw @a13 (tw @a0 (tw @a2 (tw @C7 (tw @a12 (tw @b24 (tw @bg0 (tw @b0 (tw @b2 (tw @b9 (tw @ET (tw @Kq (tw @Kr @Ks)))))))))))))) (by(try dsimp only);exact⟨by omega,fun y hy=>eS y hy,by
    rw[uU eZ,hL]
    rcases b7 with⟨h2,h3⟩|⟨u,h2,h3,h4,h5,h6,h8⟩
    ·exact .inl ⟨h2,sd @h3⟩
    ·exact .inr ⟨u,sd @h2,sd @h3,h4,by omega,h6,h8⟩⟩)
 ·have lj:k=ps.length:=by omega
  subst lj
  rw[List.take_length]at a7
  (try((repeat(revert hN;revert N;apply Pn.out));refine wk (tw @a13 (tw @a0 (tw @a2 (tw @C7 (tw @a12 @hk))))) ?_;(repeat(refine Pn.mk ?_;intro N hN))))
  refine fc (.inl rfl) (vs:=[env_a 7]) (sd @Nat.zero_add) ?_
  rcases a7 with⟨h2,h3⟩|⟨u,h2,h3,h4,h5,h6,h8⟩
  ·exact .inl ⟨h2,h3⟩
  ·exact .inr ⟨u,h2,h3,h4,by(try dsimp only);omega,h6,h8⟩
end Go.Proofs.YtgoelphibofcmaaGreat.V

namespace Go.Proofs.YtgoelphibofcmaaGreat.V
open Go.RowKit
attribute [local irreducible] dG wpOps gz Call
attribute [local go_sem] aL fU eV gw gr cK upd cw K.av cU AV.cells AV.cell rowOf rowsOf part ld rowAt bJ cr dK ep iC bR dj eF gq fh dz ew dh de ec ee bV bh cX bU cZ cY eu ez ev cW cj di er bS aQ db cG iA bz cN bW aX dn aZ dL AV.undef bG bK ef eo dW ea cJ eE eH cD eB eA da dc List.getD_cons_zero List.getD_cons_succ List.getD_nil List.all_cons List.all_nil Bool.and_true Bool.true_and Bool.and_self Bool.not_true Bool.not_false Option.map_some Option.map_none Option.bind_some Option.bind_none List.length_cons List.length_nil List.take_succ_cons List.take_zero List.take_nil List.drop_succ_cons List.drop_zero List.drop_nil List.head?_cons List.map_cons List.map_nil List.getElem?_cons_zero List.getElem?_cons_succ List.cons_append List.nil_append List.append_nil List.length_map List.set_cons_zero List.set_cons_succ Nat.reduceMul eq_self Int.toNat_natCast Int.natCast_nonneg and_self true_and and_true decide_true decide_false Bool.false_eq_true Nat.zero_add Nat.add_zero List.contains_cons List.contains_nil Bool.or_false Bool.false_or beq_self_eq_true Nat.reduceBEq ne_eq not_true_eq_false not_false_eq_true Id.mk.injEq false_and and_false Nat.reduceLT Int.reduceLE Int.reduceLT Int.reduceToNat Int.reduceNeg Int.reduceAdd Nat.le_refl List.length_append beq_true beq_false Bool.not_eq_eq_eq_not or_false false_or dX ai aq aH bj bE cu aW br aU bp cV bP
noncomputable def dy (s:aM) (l:List ah) (p:ar) (t:Int):Bool:=qH p&&decide (gW l p<0)&&iH (l9 s.ax (gW l) p t) 1 (s.az-1)
theorem GG (s:aM) (hP:tU s) (l:List ah) (hA:lN s.ax l) (p:ar) (t:Int) (ht:eJ s.ax t=true):aj Tryz.prog 80 [.cQ (ay s),.cQ [.sl (l.map ad)],.agg [.int .i64 p.eY,.int .i64 p.eU,.int .i64 t]] (.bool (dy s l p t)):=by
 refine aj.body ek rfl fun mV n0=>?_
 clear mV
 have h1:=qz p
 have h2:=(vU s.ax t).cut mixed (.ptr _ [.sl (s.bF.ae.map ad),.int .i64 s.az] (.same _ .nil))
 have h3:=mZ l p hA.1.M9 (by have:=hA.1.w8;omega)
 rw[ht]at h2
 have hw:IntKind.i64.wrap (s.az-1)=s.az-1:=aV (by have:=dZ hP.J3;omega)
 by_cases h0:qH p=true
 ·rw[h0]at h1
  obtain⟨hx,hy⟩:=nk h0
  by_cases hi:eL l p<0
  ·have h4:=(zI s.ax hP.set l hA p hx hy t ht).cut mixed (.ptr _ [.sl (s.bF.ae.map ad),.int .i64 s.az] (.same _ (.same _ (.same _ .nil))))
   have h5:=kr (l9 s.ax (gW l) p t) 1 (s.az-1)
   have hd:decide ((0:Int)<=eL l p)=false:=decide_eq_false (by omega)
   have e:dy s l p t=iH (l9 s.ax (gW l) p t) 1 (s.az-1):=by simp[dy,h0,(C8 hA p).2 hi]
   rw[e]
   (repeat(first|((repeat(revert hN;revert N;apply Pn.out));refine wk (tw @ay.eq_1 (tw @ab.eq_1 (tw @aa.eq_1 (tw @hd @hw)))) ?_;(repeat(refine Pn.mk ?_;intro N hN)))|((try apply Or.inl);refine⟨_,aj.x (h1) (sd (tw @ay.eq_1 (tw @ab.eq_1 (tw @aa.eq_1 (tw @hd @hw))))),?_⟩;refine hN _ _ ?_;clear hN N)|((try apply Or.inl);refine⟨_,aj.x (h2) (sd (tw @ay.eq_1 (tw @ab.eq_1 (tw @aa.eq_1 (tw @hd @hw))))),?_⟩;refine hN _ _ ?_;clear hN N)|((try apply Or.inl);refine⟨_,aj.x (h3) (sd (tw @ay.eq_1 (tw @ab.eq_1 (tw @aa.eq_1 (tw @hd @hw))))),?_⟩;refine hN _ _ ?_;clear hN N)|((try apply Or.inl);refine⟨_,aj.x (h4) (sd (tw @ay.eq_1 (tw @ab.eq_1 (tw @aa.eq_1 (tw @hd @hw))))),?_⟩;refine hN _ _ ?_;clear hN N)|((try apply Or.inl);refine⟨_,aj.x (h5) (sd (tw @ay.eq_1 (tw @ab.eq_1 (tw @aa.eq_1 (tw @hd @hw))))),?_⟩;refine hN _ _ ?_;clear hN N)))
   exact aP (b:=iH (l9 s.ax (gW l) p t) 1 (s.az-1)) (.inl rfl) (sd @Nat.zero_add) rfl
  ·have hd:decide ((0:Int)<=eL l p)=true:=decide_eq_true (by omega)
   have e:dy s l p t=false:=by
    have:¬gW l p<0:=fun h=>hi ((C8 hA p).1 h)
    simp[dy,this]
   rw[e]
   (repeat(first|((repeat(revert hN;revert N;apply Pn.out));refine wk (tw @ay.eq_1 (tw @ab.eq_1 (tw @aa.eq_1 @hd))) ?_;(repeat(refine Pn.mk ?_;intro N hN)))|((try apply Or.inl);refine⟨_,aj.x (h1) (sd (tw @ay.eq_1 (tw @ab.eq_1 (tw @aa.eq_1 @hd)))),?_⟩;refine hN _ _ ?_;clear hN N)|((try apply Or.inl);refine⟨_,aj.x (h2) (sd (tw @ay.eq_1 (tw @ab.eq_1 (tw @aa.eq_1 @hd)))),?_⟩;refine hN _ _ ?_;clear hN N)|((try apply Or.inl);refine⟨_,aj.x (h3) (sd (tw @ay.eq_1 (tw @ab.eq_1 (tw @aa.eq_1 @hd)))),?_⟩;refine hN _ _ ?_;clear hN N)))
   exact aP (b:=false) (.inl rfl) (sd @Nat.zero_add) rfl
 ·rw[Bool.not_eq_true]at h0
  rw[h0]at h1
  have e:dy s l p t=false:=by simp[dy,h0]
  rw[e]
  (repeat(first|((repeat(revert hN;revert N;apply Pn.out));refine wk (tw @ay.eq_1 (tw @ab.eq_1 @aa.eq_1)) ?_;(repeat(refine Pn.mk ?_;intro N hN)))|((try apply Or.inl);refine⟨_,aj.x (h1) (sd (tw @ay.eq_1 (tw @ab.eq_1 @aa.eq_1))),?_⟩;refine hN _ _ ?_;clear hN N)))
  exact aP (b:=false) (.inl rfl) (sd @Nat.zero_add) rfl
theorem EU (B:ar->Int->Bool) (m:Nat):kF B m []=[]:=rfl
theorem uS {B:ar->Int->Bool} {P:ar->Bool} (h:∀p,P p=false->∀t,B p t=false) (m:Nat):∀qs:List ar,kF B m qs=kF B m (qs.filter P)
 |[]=>rfl
 |q::qs=>by
  have ih:=uS h m qs
  unfold kF at *
  rw[List.flatMap_cons,List.filter_cons,ih]
  split
  ·rw[List.flatMap_cons]
  ·rename_i hq
   rw[Bool.not_eq_true]at hq
   have:∀n,pE B q n=[]:=fun n=>by
    induction n with
    |zero=>rfl
    |succ n ih=>rw[pE,if_neg (by rw[h q hq];simp),ih]
   rw[this,List.nil_append]
theorem DV (s:aM) (hP:tU s) (l:List ah) (hA:lN s.ax l):aj Tryz.prog 87 [.cQ (ay s),.cQ [.sl (l.map ad)]] (.sl ((kF (dy s l) s.ax.ae.length (jv l)).map ad)):=by
 refine aj.body ek rfl fun mV n0=>?_
 clear mV
 have Bv:=hA.1.w8
 have I4:=hP.set.Cz
 have hlen:=ni l l.length
 have BD:eI l l.length=jv l:=rfl
 rw[BD]at hlen
 have HB:∀x∈jv l,qH x=true:=fun x hx=>((yH l x).1 hx).1
 have hnv:=fun σ=>GD l hA.1 σ
 clear BD
 generalize jv l=ps at hlen HB hnv ⊢
 (try((repeat(revert hN;revert N;apply Pn.out));refine wk @Nat.zero_add ?_;(repeat(refine Pn.mk ?_;intro N hN))))
 refine .inr (aG _ _ _ _ _ (fun r σ1 hq=>?_) (hnv _))
 obtain⟨g1,x1⟩:=σ1
 obtain⟨o0,rfl,q1,q2,q3,q4,q5⟩:=hq
 (try dsimp only at q1 q2 q3 q4 q5)
 have q6:=q5 ⟨87001000,n0+1⟩ (by(try dsimp only);omega) trivial
 simp only[go_sem, ↓reduceIte,Nat.reduceEqDiff,Nat.reduceAdd,Nat.reduceSub,Nat.reduceLeDiff,reduceCtorEq]at q6
 have on:n0+2<=o0.bq:=by rcases q4 with h|h;omega;exact absurd trivial h
 clear q4 q5
 refine hN _ _ ?_
 clear hN N
 (try((repeat(revert hN;revert N;apply Pn.out));refine wk (tw @q1 @q6) ?_;(repeat(refine Pn.mk ?_;intro N hN))))
 refine aI (fun n env st=>∃k:Nat,n=(ps.length)-k/\k<=(ps.length)/\env 7=.int .i64 (k:Int)/\st.get o0=some ⟨true,2,ps.map aa⟩/\(∃o:Id,env 5=.own o 0 (kF (dy s l) s.ax.ae.length (ps.take k)).length/\st.get o=some ⟨true,3,(kF (dy s l) s.ax.ae.length (ps.take k)).map ad⟩/\o.bq<st.next/\o0.bq<st.next/\o≠o0)) (ps.length) ⟨0,by omega,by omega,sl @q1,sl @q1,by(try dsimp only);exact⟨⟨87001000,n0+1⟩,by rw[List.take_zero,EU];simp only[go_sem, ↓reduceIte,Nat.reduceEqDiff,Nat.reduceAdd,Nat.reduceSub,Nat.reduceLeDiff,reduceCtorEq]<;>rfl,by rw[List.take_zero,EU];simp only[go_sem, ↓reduceIte,Nat.reduceEqDiff,Nat.reduceAdd,Nat.reduceSub,Nat.reduceLeDiff,reduceCtorEq,q6]<;>rfl,by(try dsimp only);omega,by omega,fun e=>by rw[<-e]at on;(try dsimp only at on);omega⟩⟩ ?_
 rintro n_a env_a st_a ⟨k,rfl,ale,a7,ag0,j9⟩ dp
 have a0:=dp 0 (by kernel_rfl);have a1:=dp 1 (by kernel_rfl);have a6:=dp 6 (by kernel_rfl)
 simp only[go_sem, ↓reduceIte,Nat.reduceEqDiff,Nat.reduceAdd,Nat.reduceSub,Nat.reduceLeDiff,reduceCtorEq,q1]at a0 a1 a6
 clear dp
 obtain⟨o,a5,ao,aov,R0,S9⟩:=j9
 have vo:=dq aov
 have v0:=dq R0
 have Q3:=eq_false S9
 have hoo2:=eq_false (fun e:o0=o=>S9 e.symm)
 have hB:(kF (dy s l) s.ax.ae.length (ps.take k)).length<=10000*160:=by
  have h2:=uo (dy s l) s.ax.ae.length (ps.take k)
  have h3:(ps.take k).length*s.ax.ae.length<=10000*160:=Nat.mul_le_mul (by rw[List.length_take];omega) I4
  omega
 by_cases hk:(k:Int)<(ps.length:Int)
 ·have ck:∀{e:Env} {gg:Rows} {nx:Nat},(e 7=.int .i64 (IntKind.i64.wrap ((k:Int)+1)))->(gg o0=some ⟨true,2,ps.map aa⟩)->(∃o:Id,e 5=.own o 0 (kF (dy s l) s.ax.ae.length (ps.take (k+1))).length/\gg o=some ⟨true,3,(kF (dy s l) s.ax.ae.length (ps.take (k+1))).map ad⟩/\o.bq<nx/\o0.bq<nx/\o≠o0)->∃m0,m0<(ps.length)-k/\∃k:Nat,m0=(ps.length)-k/\k<=(ps.length)/\e 7=.int .i64 (k:Int)/\gg o0=some ⟨true,2,ps.map aa⟩/\(∃o:Id,e 5=.own o 0 (kF (dy s l) s.ax.ae.length (ps.take k)).length/\gg o=some ⟨true,3,(kF (dy s l) s.ax.ae.length (ps.take k)).map ad⟩/\o.bq<nx/\o0.bq<nx/\o≠o0):=fun x1 x2 x3=>⟨_,by omega,k+1,rfl,by omega,(by rw[x1,aA (by omega)]),x2,x3⟩
  have eZ:k<ps.length:=by omega
  have eM:=rM eZ
  have Lr:=HB _ (Ac eZ)
  (try((repeat(revert hN;revert N;apply Pn.out));refine wk (tw @a7 (tw @ag0 (tw @a0 (tw @a1 (tw @a6 @hk))))) ?_;(repeat(refine Pn.mk ?_;intro N hN))))
  refine aI (fun n env st=>∃t:Nat,n=(s.ax.ae.length)-t/\t<=(s.ax.ae.length)/\env 8=.int .i64 (t:Int)/\st.get o0=some ⟨true,2,ps.map aa⟩/\(∃o:Id,env 5=.own o 0 (kF (dy s l) s.ax.ae.length (ps.take k)++pE (dy s l) (fq ps k) t).length/\st.get o=some ⟨true,3,(kF (dy s l) s.ax.ae.length (ps.take k)++pE (dy s l) (fq ps k) t).map ad⟩/\o.bq<st.next/\o0.bq<st.next/\o≠o0)) (s.ax.ae.length) ⟨0,by omega,by omega,sl (tw @a7 (tw @ag0 (tw @a0 (tw @a1 @a6)))),sl (tw @a7 (tw @ag0 (tw @a0 (tw @a1 @a6)))),by(try dsimp only);exact⟨o,by rw[show pE (dy s l) (fq ps k) 0=[]from rfl,List.append_nil];simp only[go_sem, ↓reduceIte,Nat.reduceEqDiff,Nat.reduceAdd,Nat.reduceSub,Nat.reduceLeDiff,reduceCtorEq,a5],by rw[show pE (dy s l) (fq ps k) 0=[]from rfl,List.append_nil];simp only[go_sem, ↓reduceIte,Nat.reduceEqDiff,Nat.reduceAdd,Nat.reduceSub,Nat.reduceLeDiff,reduceCtorEq,ao],by omega,by omega,S9⟩⟩ ?_
  rintro n_b env_b st_b ⟨t,rfl,ble,b8,bg0,bI0⟩ eS
  have b0:=eS 0 (by kernel_rfl);have b1:=eS 1 (by kernel_rfl);have b6:=eS 6 (by kernel_rfl);have b7:=eS 7 (by kernel_rfl)
  simp only[go_sem, ↓reduceIte,Nat.reduceEqDiff,Nat.reduceAdd,Nat.reduceSub,Nat.reduceLeDiff,reduceCtorEq,a7,ag0,a0,a1,a6]at b0 b1 b6 b7
  clear eS
  obtain⟨u,b5,bu,Qg,MC,R3⟩:=bI0
  have CO:(kF (dy s l) s.ax.ae.length (ps.take k)++pE (dy s l) (fq ps k) t).length<=16777215:=by
   have:=um (dy s l) (fq ps k) t
   rw[List.length_append];omega
  obtain⟨L,hL⟩:∃L,kF (dy s l) s.ax.ae.length (ps.take k)++pE (dy s l) (fq ps k) t=L:=⟨_,rfl⟩
  rw[hL]at b5 bu CO
  have vu:=dq Qg
  have P7:=dq MC
  have hou:=eq_false R3
  have Ol:=eq_false (fun e:o0=u=>R3 e.symm)
  by_cases ht:(t:Int)<(s.ax.ae.length:Int)
  ·have eR:∀{e:Env} {gg:Rows} {nx:Nat},(e 8=.int .i64 (IntKind.i64.wrap ((t:Int)+1)))->(gg o0=some ⟨true,2,ps.map aa⟩)->(∃o:Id,e 5=.own o 0 (kF (dy s l) s.ax.ae.length (ps.take k)++pE (dy s l) (fq ps k) (t+1)).length/\gg o=some ⟨true,3,(kF (dy s l) s.ax.ae.length (ps.take k)++pE (dy s l) (fq ps k) (t+1)).map ad⟩/\o.bq<nx/\o0.bq<nx/\o≠o0)->∃m0,m0<(s.ax.ae.length)-t/\∃t:Nat,m0=(s.ax.ae.length)-t/\t<=(s.ax.ae.length)/\e 8=.int .i64 (t:Int)/\gg o0=some ⟨true,2,ps.map aa⟩/\(∃o:Id,e 5=.own o 0 (kF (dy s l) s.ax.ae.length (ps.take k)++pE (dy s l) (fq ps k) t).length/\gg o=some ⟨true,3,(kF (dy s l) s.ax.ae.length (ps.take k)++pE (dy s l) (fq ps k) t).map ad⟩/\o.bq<nx/\o0.bq<nx/\o≠o0):=fun x1 x2 x3=>⟨_,by omega,t+1,rfl,by omega,(by rw[x1,aA (by omega)]),x2,x3⟩
   have Lw:t<s.ax.ae.length:=by omega
   have hw:=GG s hP l hA (fq ps k) t (wV Lw)
   have pa:(L.map ad).length=L.length:=by simp
   have Og:(ps.map aa).length=ps.length:=by simp
   cases hb:dy s l (fq ps k) t
   ·rw[hb]at hw
    have jf:kF (dy s l) s.ax.ae.length (ps.take k)++pE (dy s l) (fq ps k) (t+1)=L:=by rw[pE,hb];exact hL
    rw[ay]at hw
    (repeat(first|((repeat(revert hN;revert N;apply Pn.out));refine wk (tw @b8 (tw @bg0 (tw @b0 (tw @b1 (tw @b6 (tw @b7 (tw @b5 (tw @ht (tw @hk (tw @eM (tw @P7 (tw @Og (tw @ay.eq_1 @aa.eq_1))))))))))))) ?_;(repeat(refine Pn.mk ?_;intro N hN)))|((try apply Or.inl);refine⟨_,aj.x (hw) (sd (tw @b8 (tw @bg0 (tw @b0 (tw @b1 (tw @b6 (tw @b7 (tw @b5 (tw @ht (tw @hk (tw @eM (tw @P7 (tw @Og (tw @ay.eq_1 @aa.eq_1)))))))))))))),?_⟩;refine hN _ _ ?_;clear hN N)))
    refine eR ?_ ?_ (by(try dsimp only);exact⟨u,by rw[jf];simp only[go_sem, ↓reduceIte,Nat.reduceEqDiff,Nat.reduceAdd,Nat.reduceSub,Nat.reduceLeDiff,reduceCtorEq,b5],by rw[jf];simp only[go_sem, ↓reduceIte,Nat.reduceEqDiff,Nat.reduceAdd,Nat.reduceSub,Nat.reduceLeDiff,reduceCtorEq,bu,vu],by omega,by omega,R3⟩)
    all_goals simp only[go_sem, ↓reduceIte,Nat.reduceEqDiff,Nat.reduceAdd,Nat.reduceSub,Nat.reduceLeDiff,reduceCtorEq,b8,bg0,b0,b1,b6,b7,P7]
   ·rw[hb]at hw
    have jf:kF (dy s l) s.ax.ae.length (ps.take k)++pE (dy s l) (fq ps k) (t+1)=L++[⟨fq ps k,(t:Nat)⟩]:=by rw[pE,hb,if_pos rfl,<-hL,List.append_assoc]
    have BD:(L++[(⟨fq ps k,(t:Nat)⟩:ah)]).length=L.length+1:=by rw[List.length_append];rfl
    have yl:(L++[(⟨fq ps k,(t:Nat)⟩:ah)]).map ad=L.map ad++[[.int .i64 (fq ps k).eY,.int .i64 (fq ps k).eU,.int .i64 (t:Int)]]:=by rw[List.map_append];rfl
    rw[ay]at hw
    (repeat(first|((repeat(revert hN;revert N;apply Pn.out));refine wk (tw @b8 (tw @bg0 (tw @b0 (tw @b1 (tw @b6 (tw @b7 (tw @b5 (tw @bu (tw @ht (tw @hk (tw @eM (tw @vu (tw @P7 (tw @hou (tw @Ol (tw @Og (tw @pa (tw @CO (tw @ay.eq_1 @aa.eq_1))))))))))))))))))) ?_;(repeat(refine Pn.mk ?_;intro N hN)))|((try apply Or.inl);refine⟨_,aj.x (hw) (sd (tw @b8 (tw @bg0 (tw @b0 (tw @b1 (tw @b6 (tw @b7 (tw @b5 (tw @bu (tw @ht (tw @hk (tw @eM (tw @vu (tw @P7 (tw @hou (tw @Ol (tw @Og (tw @pa (tw @CO (tw @ay.eq_1 @aa.eq_1)))))))))))))))))))),?_⟩;refine hN _ _ ?_;clear hN N)))
    refine eR ?_ ?_ (by(try dsimp only);exact⟨⟨87011003,st_b.next+1+1+1⟩,by rw[jf,BD];simp only[go_sem, ↓reduceIte,Nat.reduceEqDiff,Nat.reduceAdd,Nat.reduceSub,Nat.reduceLeDiff,reduceCtorEq]<;>rfl,by rw[jf,yl];simp only[go_sem, ↓reduceIte,Nat.reduceEqDiff,Nat.reduceAdd,Nat.reduceSub,Nat.reduceLeDiff,reduceCtorEq]<;>rfl,by(try dsimp only);omega,by(try dsimp only);omega,fun e=>by rw[<-e]at MC;(try dsimp only at MC);omega⟩)
    all_goals simp only[go_sem, ↓reduceIte,Nat.reduceEqDiff,Nat.reduceAdd,Nat.reduceSub,Nat.reduceLeDiff,reduceCtorEq,b8,bg0,b0,b1,b6,b7,P7,Ol]
  ·have Uw:t=s.ax.ae.length:=by omega
   subst Uw
   (try((repeat(revert hN;revert N;apply Pn.out));refine wk (tw @b8 (tw @bg0 (tw @b0 (tw @b1 (tw @b6 (tw @b7 @ht)))))) ?_;(repeat(refine Pn.mk ?_;intro N hN))))
   refine ck ?_ ?_ (by(try dsimp only);exact⟨u,by rw[uU eZ,hL];simp only[go_sem, ↓reduceIte,Nat.reduceEqDiff,Nat.reduceAdd,Nat.reduceSub,Nat.reduceLeDiff,reduceCtorEq,b5],by rw[uU eZ,hL];simp only[go_sem, ↓reduceIte,Nat.reduceEqDiff,Nat.reduceAdd,Nat.reduceSub,Nat.reduceLeDiff,reduceCtorEq,bu],by omega,by omega,R3⟩)
   all_goals simp only[go_sem, ↓reduceIte,Nat.reduceEqDiff,Nat.reduceAdd,Nat.reduceSub,Nat.reduceLeDiff,reduceCtorEq,a7,ag0,a0,a1,a6,b8,bg0,b0,b1,b6,b7]
 ·have lj:k=ps.length:=by omega
  subst lj
  rw[List.take_length]at a5 ao
  (try((repeat(revert hN;revert N;apply Pn.out));refine wk (tw @a7 (tw @ag0 (tw @a0 (tw @a1 (tw @a6 (tw @hk @a5)))))) ?_;(repeat(refine Pn.mk ?_;intro N hN))))
  exact tL (.inl rfl) (r0:=.own o 0 (kF (dy s l) s.ax.ae.length ps).length) (sd @a5) (fY ao rfl fun x=>by simp[ad,bB,cz,eO])
end Go.Proofs.YtgoelphibofcmaaGreat.V

namespace Go.Proofs.YtgoelphibofcmaaGreat.V
open Go.RowKit
attribute [local irreducible] dG wpOps gz Call
attribute [local go_sem] aL fU eV gw gr cK upd cw K.av cU AV.cells AV.cell rowOf rowsOf part ld rowAt bJ cr dK ep iC bR dj eF gq fh dz ew dh de ec ee bV bh cX bU cZ cY eu ez ev cW cj di er bS aQ db cG iA bz cN bW aX dn aZ dL AV.undef bG bK ef eo dW ea cJ eE eH cD eB eA da dc List.getD_cons_zero List.getD_cons_succ List.getD_nil List.all_cons List.all_nil Bool.and_true Bool.true_and Bool.and_self Bool.not_true Bool.not_false Option.map_some Option.map_none Option.bind_some Option.bind_none List.length_cons List.length_nil List.take_succ_cons List.take_zero List.take_nil List.drop_succ_cons List.drop_zero List.drop_nil List.head?_cons List.map_cons List.map_nil List.getElem?_cons_zero List.getElem?_cons_succ List.cons_append List.nil_append List.append_nil List.length_map List.set_cons_zero List.set_cons_succ Nat.reduceMul eq_self Int.toNat_natCast Int.natCast_nonneg and_self true_and and_true decide_true decide_false Bool.false_eq_true Nat.zero_add Nat.add_zero List.contains_cons List.contains_nil Bool.or_false Bool.false_or beq_self_eq_true Nat.reduceBEq ne_eq not_true_eq_false not_false_eq_true Id.mk.injEq false_and and_false Nat.reduceLT Int.reduceLE Int.reduceLT Int.reduceToNat Int.reduceNeg Int.reduceAdd Nat.le_refl List.length_append beq_true beq_false Bool.not_eq_eq_eq_not or_false false_or dX ai aq aH bj bE cu aW br aU bp cV bP
theorem FD (a b:ar):(decide (a.eY=b.eY)&&decide (a.eU=b.eU))=decide (a=b):=by
 cases a;cases b;simp[Bool.decide_and]
theorem Dg (ps:List ar) (h0:ps≠[]) (hlen:ps.length<=1048576) (σ:au) (id:Id) (hv:id.bq<σ.next) (hg:σ.get id=some ⟨true,2,ps.map aa⟩):
  Call Tryz.prog 203 [.own id 0 ps.length] σ fun a σ'=>∃o:Id,a=.own o 0 ps.length/\σ'.get o=some ⟨true,2,ps.map aa⟩/\σ.next<=o.bq/\o.bq<σ'.next/\∀x:Id,x.bq<σ.next->σ'.get x=σ.get x:=by
 refine eW ek rfl fun hl=>?_
 clear hl
 have h2:ps.length<=16777216:=by omega
 have hm:(ps.map aa).length=ps.length:=by simp
 have v1:=dq hv
 have ht:(ps.map aa).take ps.length=ps.map aa:=by rw[<-hm,List.take_length]
 have ha:(ps.map aa).all (fun c=>c.length==2&&c.all AV.cell)=true:=all_map fun x=>by simp[aa,AV.cell]
 (try((repeat(revert hN;revert N;apply Pn.out));refine wk (tw @hg (tw @h2 (tw @hm (tw @v1 (tw @ht @ha))))) ?_;(repeat(refine Pn.mk ?_;intro N hN))))
 exact fc (vs:=[.own ⟨203003002,σ.next+2⟩ 0 ps.length]) (.inl rfl) (sd @Nat.zero_add) ⟨_,rfl,sd @Nat.zero_add,by(try dsimp only);omega,by(try dsimp only);omega,fun x hx=>by
  have:=dq hx
  simp only[go_sem, ↓reduceIte,Nat.reduceEqDiff,Nat.reduceAdd,Nat.reduceSub,Nat.reduceLeDiff,reduceCtorEq,this]⟩
def dd (L:List ar):Nat->List ar
 |0=>[]
 |j+1=>if 0<j/\fq L j=fq L (j-1)then dd L j else dd L j++[fq L j]
theorem Ie (L:List ar):∀j,0<j->0<(dd L j).length
 |j+1,_=>by
  rw[dd]
  split
  ·rename_i h;exact Ie L j h.1
  ·simp
theorem zi {L:List ar} {x:ar}:∀j,x∈dd L j↔∃i,i<j/\fq L i=x
 |0=>by simp[dd]
 |j+1=>by
  rw[dd]
  split
  ·rename_i h
   rw[zi j]
   constructor
   ·rintro⟨i,hi,e⟩;exact⟨i,by omega,e⟩
   ·rintro⟨i,hi,e⟩
    by_cases Fi:i=j
    ·subst Fi;exact⟨i-1,by omega,by rw[<-h.2];exact e⟩
    ·exact⟨i,by omega,e⟩
  ·rw[List.mem_append,zi j]
   constructor
   ·rintro(⟨i,hi,e⟩|h)
    ·exact⟨i,by omega,e⟩
    ·exact⟨j,by omega,(List.mem_singleton.1 h).symm⟩
   ·rintro⟨i,hi,e⟩
    by_cases Fi:i=j
    ·subst Fi;exact .inr (List.mem_singleton.2 e.symm)
    ·exact .inl ⟨i,by omega,e⟩
theorem Ig {L:List ar} (hs:∀i j:Nat,i<j->j<L.length->kH (fq L j) (fq L i)=false):∀j,j<=L.length->lZ (dd L j)
 |0,_=>List.Pairwise.nil
 |j+1,hj=>by
  have ih:=Ig hs j (by omega)
  rw[dd]
  split
  ·exact ih
  ·rename_i gU
   unfold lZ
   rw[List.pairwise_append]
   refine⟨ih,List.pairwise_singleton _ _,fun a ha b hb=>?_⟩
   rw[List.mem_singleton.1 hb]
   obtain⟨i,hi,rfl⟩:=(zi j).1 ha
   have h0:0<j:=by omega
   have hn:fq L j≠fq L (j-1):=fun e=>gU ⟨h0,e⟩
   have dM:kH (fq L (j-1)) (fq L j)=true:=zR (hs (j-1) j (by omega) (by omega)) hn
   by_cases Fi:i=j-1
   ·subst Fi;exact dM
   ·have h1:=hs i (j-1) (by omega) (by omega)
    by_cases he:fq L (j-1)=fq L i
    ·rw[<-he];exact dM
    ·exact iu (zR h1 he) dM
theorem F2 (L:List ar) (hlen:L.length<=1000000) (σ:au) (id:Id) (hg:σ.get id=some ⟨true,2,L.map aa⟩):
  Call Tryz.prog 204 [.own id 0 L.length] σ fun a σ'=>σ.next<=σ'.next/\(∀x:Id,x.bq<σ.next->x≠id->σ'.get x=σ.get x)/\∃X:List ar,a=.own id 0 (dd L L.length).length/\σ'.get id=some ⟨true,2,(dd L L.length++X).map aa⟩:=by
 refine eW ek rfl fun hl=>?_
 clear hl
 by_cases h2:(L.length:Int)<2
 ·have hd:dd L L.length=L:=by
   match L,h2 with
   |[],_=>rfl
   |[a],_=>rfl
   |a::b::r,h=>simp at h;omega
  (try((repeat(revert hN;revert N;apply Pn.out));refine wk @h2 ?_;(repeat(refine Pn.mk ?_;intro N hN))))
  exact fc (vs:=[.own id 0 L.length]) (.inl rfl) (sd @Nat.zero_add) ⟨by(try dsimp only);omega,fun _ _ _=>rfl,[],by rw[hd];rfl,by simp only[hd,List.append_nil];exact hg⟩
 (try((repeat(revert hN;revert N;apply Pn.out));refine wk @h2 ?_;(repeat(refine Pn.mk ?_;intro N hN))))
 have Ll:2<=L.length:=by omega
 refine aI (fun n env st=>∃k:Nat,n=(L.length-1)-k/\k<=(L.length-1)/\env 3=.int .i64 ((1+k:Nat):Int)/\(dd L (1+k)=L.take (1+k))/\(σ.next<=st.next/\∀x:Id,x.bq<σ.next->x≠id->st.get x=σ.get x)/\st.get id=some ⟨true,2,L.map aa⟩) (L.length-1) ⟨0,by omega,by omega,sl @hg,by(match L,Ll with|a::b::r,_=>rfl),⟨by(try dsimp only);omega,fun _ _ _=>rfl⟩,sl @hg⟩ ?_
 rintro n_a env_a st_a ⟨k,rfl,ale,a3,j9,aI1,ag0⟩ dp
 have a0:=dp 0 (by kernel_rfl)
 simp only[go_sem, ↓reduceIte,Nat.reduceEqDiff,Nat.reduceAdd,Nat.reduceSub,Nat.reduceLeDiff,reduceCtorEq,hg]at a0
 clear dp
 have hR:∀{q:Nat},q<L.length->(L.map aa)[q]? =some (aa (fq L q)):=fun h=>rM h
 by_cases hk:((1+k:Nat):Int)<(L.length:Int)
 ·have ck:∀{e:Env} {gg:Rows} {nx:Nat},(e 3=.int .i64 ((1+(k+1):Nat):Int))->(dd L (1+(k+1))=L.take (1+(k+1)))->(σ.next<=nx/\∀x:Id,x.bq<σ.next->x≠id->gg x=σ.get x)->(gg id=some ⟨true,2,L.map aa⟩)->∃m0,m0<(L.length-1)-k/\∃k:Nat,m0=(L.length-1)-k/\k<=(L.length-1)/\e 3=.int .i64 ((1+k:Nat):Int)/\(dd L (1+k)=L.take (1+k))/\(σ.next<=nx/\∀x:Id,x.bq<σ.next->x≠id->gg x=σ.get x)/\gg id=some ⟨true,2,L.map aa⟩:=fun x1 x2 x3 x4=>⟨_,by omega,k+1,rfl,by omega,x1,x2,x3,x4⟩
  have eZ:1+k<L.length:=by omega
  have e1:IntKind.i64.wrap (((1+k:Nat):Int)-1)=(k:Int):=by rw[aV (by omega)];omega
  have e2:IntKind.i64.wrap (((1+k:Nat):Int)+1)=((1+(k+1):Nat):Int):=by rw[aV (by omega)];omega
  have g1:=hR eZ
  have g2:=hR (show k<L.length by omega)
  have b2:(k:Int)<(L.length:Int):=by omega
  have K9:dd L (1+k+1)=if 0<1+k/\fq L (1+k)=fq L (1+k-1)then dd L (1+k)else dd L (1+k)++[fq L (1+k)]:=rfl
  rw[show 1+k-1=k from by omega]at K9
  cases he:(decide ((fq L (1+k)).eY=(fq L k).eY)&&decide ((fq L (1+k)).eU=(fq L k).eU))
  ·(try((repeat(revert hN;revert N;apply Pn.out));refine wk (tw @a3 (tw @ag0 (tw @a0 (tw @hk (tw @e1 (tw @g1 (tw @g2 (tw @b2 (tw @he @aa.eq_1))))))))) ?_;(repeat(refine Pn.mk ?_;intro N hN))))
   rw[FD,decide_eq_false_iff_not]at he
   refine ck ?_ (by rw[show 1+(k+1)=1+k+1 from by omega,K9,if_neg (fun h=>he h.2),j9,List.take_succ_eq_append_getElem eZ,iV eZ]) (by exact⟨by(try dsimp only);omega,fun x hx hi=>aI1.2 x hx hi⟩) ?_
   all_goals simp only[go_sem, ↓reduceIte,Nat.reduceEqDiff,Nat.reduceAdd,Nat.reduceSub,Nat.reduceLeDiff,reduceCtorEq,a3,ag0,a0,e2]
  ·have QK:=he
   rw[FD,decide_eq_true_eq]at QK
   rw[if_pos ⟨by omega,QK⟩,j9]at K9
   have BA:(dd L (1+k+1)).length=1+k:=by rw[K9,List.length_take];omega
   have PS:L.map aa=(dd L (1+k+1)++L.drop (dd L (1+k+1)).length).map aa:=by rw[BA,K9,List.take_append_drop]
   have b3:((1+k:Nat):Int)<=(L.length:Int):=by omega
   have Gm:(dd L (1+k+1)++L.drop (1+k)).map aa=L.map aa:=by rw[PS,BA]
   (try((repeat(revert hN;revert N;apply Pn.out));refine wk (tw @a3 (tw @ag0 (tw @a0 (tw @hk (tw @e1 (tw @g1 (tw @g2 (tw @b2 (tw @b3 (tw @he @aa.eq_1)))))))))) ?_;(repeat(refine Pn.mk ?_;intro N hN))))
   refine aI (fun n env st=>∃m:Nat,n=(L.length-(1+k)-1)-m/\m<=(L.length-(1+k)-1)/\env 5=.int .i64 ((1+m:Nat):Int)/\env 3=.int .i64 ((dd L (1+k+1+m)).length:Int)/\((dd L (1+k+1+m)).length<=1+k+m)/\(σ.next<=st.next/\∀x:Id,x.bq<σ.next->x≠id->st.get x=σ.get x)/\st.get id=some ⟨true,2,(dd L (1+k+1+m)++L.drop (dd L (1+k+1+m)).length).map aa⟩) (L.length-(1+k)-1) ⟨0,by omega,by omega,sl (tw @a3 (tw @ag0 (tw @a0 (tw @BA @Gm)))),sl (tw @a3 (tw @ag0 (tw @a0 (tw @BA @Gm)))),by(rw[Nat.add_zero,BA];omega),⟨by(try dsimp only);omega,fun x hx hi=>aI1.2 x hx hi⟩,sl (tw @a3 (tw @ag0 (tw @a0 (tw @BA @Gm))))⟩ ?_
   rintro n_b env_b st_b ⟨m,rfl,ble,b5,b3,bI0,bI1,bg0⟩ eS
   have b0:=eS 0 (by kernel_rfl);have b4:=eS 4 (by kernel_rfl)
   simp only[go_sem, ↓reduceIte,Nat.reduceEqDiff,Nat.reduceAdd,Nat.reduceSub,Nat.reduceLeDiff,reduceCtorEq,a3,ag0,a0,BA,Gm]at b0 b4
   clear eS
   clear PS Gm he ag0
   have fy:∀{q:Nat},(dd L (1+k+1+m)).length<=q->q<L.length->((dd L (1+k+1+m)++L.drop (dd L (1+k+1+m)).length).map aa)[q]? =some (aa (fq L q)):=fun {q} h1 h2=>by
    rw[List.getElem?_map,List.getElem?_append_right h1,List.getElem?_drop,show(dd L (1+k+1+m)).length+(q-(dd L (1+k+1+m)).length)=q from by omega,List.getElem?_eq_getElem h2,iV h2];rfl
   have Lc:dd L (1+k+1+(m+1))=if 0<1+k+1+m/\fq L (1+k+1+m)=fq L (1+k+1+m-1)then dd L (1+k+1+m)else dd L (1+k+1+m)++[fq L (1+k+1+m)]:=rfl
   rw[show 1+k+1+m-1=1+k+m from by omega]at Lc
   have hKn:=Ie L (1+k+1+m) (by omega)
   by_cases hm:((1+m:Nat):Int)<((L.length-(1+k):Nat):Int)
   ·have eR:∀{e:Env} {gg:Rows} {nx:Nat},(e 5=.int .i64 ((1+(m+1):Nat):Int))->(e 3=.int .i64 ((dd L (1+k+1+(m+1))).length:Int))->((dd L (1+k+1+(m+1))).length<=1+k+(m+1))->(σ.next<=nx/\∀x:Id,x.bq<σ.next->x≠id->gg x=σ.get x)->(gg id=some ⟨true,2,(dd L (1+k+1+(m+1))++L.drop (dd L (1+k+1+(m+1))).length).map aa⟩)->∃m0,m0<(L.length-(1+k)-1)-m/\∃m:Nat,m0=(L.length-(1+k)-1)-m/\m<=(L.length-(1+k)-1)/\e 5=.int .i64 ((1+m:Nat):Int)/\e 3=.int .i64 ((dd L (1+k+1+m)).length:Int)/\((dd L (1+k+1+m)).length<=1+k+m)/\(σ.next<=nx/\∀x:Id,x.bq<σ.next->x≠id->gg x=σ.get x)/\gg id=some ⟨true,2,(dd L (1+k+1+m)++L.drop (dd L (1+k+1+m)).length).map aa⟩:=fun x1 x2 x3 x4 x5=>⟨_,by omega,m+1,rfl,by omega,x1,x2,x3,x4,x5⟩
    have f1:IntKind.i64.wrap (((1+m:Nat):Int)-1)=(m:Int):=by rw[aV (by omega)];omega
    have f2:IntKind.i64.wrap (((1+m:Nat):Int)+1)=((1+(m+1):Nat):Int):=by rw[aV (by omega)];omega
    have f3:(m:Int)<((L.length-(1+k):Nat):Int):=by omega
    have r1:=fy (q:=1+k+(1+m)) (by omega) (by omega)
    have r2:=fy (q:=1+k+m) (by omega) (by omega)
    rw[show 1+k+1+m=1+k+(1+m)from by omega]at *
    generalize hD:dd L (1+k+(1+m))=D at *
    have hK:D.length<L.length:=by omega
    have s1:=fy (q:=D.length) (Nat.le_refl _) hK
    have u4:(D.length:Int)<(L.length:Int):=by omega
    have f4:IntKind.i64.wrap ((D.length:Int)+1)=((D.length+1:Nat):Int):=aA (by omega)
    cases hc:(decide ((fq L (1+k+(1+m))).eY=(fq L (1+k+m)).eY)&&decide ((fq L (1+k+(1+m))).eU=(fq L (1+k+m)).eU))
    ·have xb:=hc
     rw[FD,decide_eq_false_iff_not]at xb
     rw[if_neg (fun h=>xb h.2)]at Lc
     have e6:((D++L.drop D.length).map aa).set D.length [.int .i64 (fq L (1+k+(1+m))).eY,.int .i64 (fq L (1+k+(1+m))).eU]=((D++[fq L (1+k+(1+m))])++L.drop (D.length+1)).map aa:=by
      have:(D++L.drop D.length).set D.length (fq L (1+k+(1+m)))=(D++[fq L (1+k+(1+m))])++L.drop (D.length+1):=by
       rw[List.set_append_right _ _ (Nat.le_refl _),Nat.sub_self,List.drop_eq_getElem_cons hK,List.set_cons_zero,List.append_assoc];rfl
      rw[<-this,List.map_set];rfl
     (try((repeat(revert hN;revert N;apply Pn.out));refine wk (tw @b5 (tw @b3 (tw @bg0 (tw @b0 (tw @b4 (tw @hm (tw @f1 (tw @f3 (tw @r1 (tw @r2 (tw @s1 (tw @u4 (tw @hc (tw @e6 @aa.eq_1)))))))))))))) ?_;(repeat(refine Pn.mk ?_;intro N hN))))
     refine eR ?_ ?_ (by rw[Lc];simp;omega) (by exact⟨by(try dsimp only);omega,fun x hx hi=>by
      have h1:=eq_false hi
      have h2:=bI1.2 x hx hi
      simp only[go_sem, ↓reduceIte,Nat.reduceEqDiff,Nat.reduceAdd,Nat.reduceSub,Nat.reduceLeDiff,reduceCtorEq,h1,h2]⟩) ?_
     all_goals simp only[go_sem, ↓reduceIte,Nat.reduceEqDiff,Nat.reduceAdd,Nat.reduceSub,Nat.reduceLeDiff,reduceCtorEq,b5,b3,bg0,b0,b4,f2,f4,Lc,e6,aa]
    ·have xb:=hc
     rw[FD,decide_eq_true_eq]at xb
     rw[if_pos ⟨by omega,xb⟩]at Lc
     (try((repeat(revert hN;revert N;apply Pn.out));refine wk (tw @b5 (tw @b3 (tw @bg0 (tw @b0 (tw @b4 (tw @hm (tw @f1 (tw @f3 (tw @r1 (tw @r2 (tw @s1 (tw @u4 (tw @hc @aa.eq_1))))))))))))) ?_;(repeat(refine Pn.mk ?_;intro N hN))))
     refine eR ?_ ?_ (by rw[Lc];omega) (by exact⟨by(try dsimp only);omega,fun x hx hi=>bI1.2 x hx hi⟩) ?_
     all_goals simp only[go_sem, ↓reduceIte,Nat.reduceEqDiff,Nat.reduceAdd,Nat.reduceSub,Nat.reduceLeDiff,reduceCtorEq,b5,b3,bg0,b0,b4,f2,Lc,aa]
   ·have hJ:1+k+1+m=L.length:=by omega
    rw[hJ]at bI0 bg0 b3
    generalize hD:dd L L.length=D at *
    have hK:D.length<L.length:=by omega
    have u4:(D.length:Int)<=(L.length:Int):=by omega
    have u5:D.length+(L.length-D.length)=L.length:=by omega
    have u6:(L.length-D.length)=(L.drop D.length).length:=by simp
    have c1:((D++L.drop D.length).map aa).take D.length=D.map aa:=by rw[<-List.map_take,List.take_append_of_le_length (Nat.le_refl _),List.take_length]
    have c2:((D++L.drop D.length).map aa).drop L.length=[]:=List.drop_eq_nil_of_le (by simp;omega)
    have c3:D.length+(L.length-D.length)<=((D++L.drop D.length).map aa).length:=by simp
    have u7:L.length<=D.length+(L.drop D.length).length:=by simp;omega
    (try((repeat(revert hN;revert N;apply Pn.out));refine wk (tw @b5 (tw @b3 (tw @bg0 (tw @b0 (tw @b4 (tw @hm (tw @u4 (tw @u5 (tw @u7 (tw @c1 (tw @c2 @aa.eq_1))))))))))) ?_;(repeat(refine Pn.mk ?_;intro N hN))))
    refine fc (vs:=[.own id 0 D.length]) (.inl rfl) (by simp only[fm,ig,Nat.sub_zero,go_sem, ↓reduceIte,Nat.reduceEqDiff,Nat.reduceAdd,Nat.reduceSub,Nat.reduceLeDiff,reduceCtorEq]) ⟨by(try dsimp only);omega,fun x hx hi=>by
      have h1:=eq_false hi
      have h2:=bI1.2 x hx hi
      simp only[go_sem, ↓reduceIte,Nat.reduceEqDiff,Nat.reduceAdd,Nat.reduceSub,Nat.reduceLeDiff,reduceCtorEq,h1,h2],List.replicate (L.length-D.length) ⟨0,0⟩,rfl,?_⟩
    simp only[go_sem, ↓reduceIte,Nat.reduceEqDiff,Nat.reduceAdd,Nat.reduceSub,Nat.reduceLeDiff,reduceCtorEq,bg0,c1,c2]
    simp[aa]
 ·have hkf:1+k=L.length:=by omega
  have hd:dd L L.length=L:=by rw[<-hkf,j9,hkf,List.take_length]
  (try((repeat(revert hN;revert N;apply Pn.out));refine wk (tw @a3 (tw @ag0 (tw @a0 @hk))) ?_;(repeat(refine Pn.mk ?_;intro N hN))))
  exact fc (vs:=[.own id 0 L.length]) (.inl rfl) (sd (tw @a3 (tw @ag0 @a0))) ⟨by(try dsimp only);omega,fun x hx hi=>aI1.2 x hx hi,[],by rw[hd];rfl,by simp only[hd,List.append_nil];exact ag0⟩
end Go.Proofs.YtgoelphibofcmaaGreat.V

namespace Go.Proofs.YtgoelphibofcmaaGreat.V
open Go.RowKit Go.Shelf Go.Lib Go.Sort
instance:Inhabited ar:=⟨⟨0,0⟩⟩
variable {P:Program} {w:World} {D:Nat->Prop} {ι:Names}
theorem JD {vs:Array Value} (h:fo P w D ι [] vs):vs= #[]:=Array.eq_empty_of_size_eq_zero h.1
theorem yQ {a:AV} {r:List AV} {vs:Array Value} (h:fo P w D ι (a::r) vs):∃u us,vs=(u::us).toArray/\cE P w D ι a u/\fo P w D ι r us.toArray:=by
 obtain⟨h1,h2⟩:=h
 obtain⟨l⟩:=vs
 cases l with
 |nil=>simp at h1
 |cons u us=>
  obtain⟨u',hu,hr⟩:=h2 0 a rfl
  simp at hu;subst hu
  exact⟨u,us,rfl,hr,by simpa using h1,fun j b hj=>by
   obtain⟨v,hv,lG⟩:=h2 (j+1) b (by simpa using hj)
   exact⟨v,by simpa using hv,lG⟩⟩
def Mz:Prop:=∀(xn off cap:Nat) (d:Array ar) (w:World),HoldsK fH 2 w xn off d->xn<w.heap.size->d.size<4611686018427387904->
 Calls Tryz.prog 175 #[.slice (some ⟨xn,off,none⟩) d.size cap,.func (.func 130) #[] #[]] w fun e w'=>e=.returned (.tuple #[])/\∃d' n os,PermIn 0 d.size d d'/\SortedIn (ltOf pG) 0 d.size d'/\w'=sortWorldK fH 2 w xn off n d' os
def MA:Prop:=∀(p:Option Addr) (cap:Nat) (fv:Value) (w:World),Calls Tryz.prog 175 #[.slice p 0 cap,fv] w fun e w'=>e=.returned (.tuple #[])/\w'=w
theorem K1 (p:ar) (j:Nat) (a:AV) (h:(aa p)[j]? =some a) (P:Program) (w:World) (D:Nat->Prop) (ι:Names):cE P w D ι a (fH p)[j]! :=by
 match j,h with
 |0,h=>simp[aa]at h;subst h;exact .eP _ _ (.int _ _)
 |1,h=>simp[aa]at h;subst h;exact .eP _ _ (.int _ _)
 |j+2,h=>simp[aa]at h
theorem G6 (hC:Mz) (hN:MA) (ps:List ar) (hlen:ps.length<=1048576) (σ:au) (id:Id) (hg:σ.get id=some ⟨true,2,ps.map aa⟩):
  Call Tryz.prog 175 [.own id 0 ps.length,.fn 130 []] σ fun r σ'=>σ'.next=σ.next/\(∀x,x≠id->σ'.get x=σ.get x)/\∃qs,σ'.get id=some ⟨true,2,qs.map aa⟩/\qs.length=ps.length/\(∀x,x∈qs↔x∈ps)/\∀i j:Nat,i<j->j<qs.length->kH (fq qs j) (fq qs i)=false:=by
 refine gJ fun hs D ι w vs S U A=>?_
 obtain⟨u1,us1,rfl,h1,h2⟩:=yQ A
 obtain⟨u2,us2,h3,h4,h5⟩:=yQ h2
 simp at h3;subst h3
 have:=JD h5
 simp at this;subst this
 obtain⟨o,cap,B,rfl,hB,IB,ho,Bw,hmax,hk⟩:=iQ h1
 obtain⟨UM,gf,rfl,_,hz,_,_⟩:=Ae h4
 have hz':UM= #[]:=Array.eq_empty_of_size_eq_zero (by simpa using hz)
 subst hz'
 by_cases h0:ps=[]
 ·subst h0
  refine(hN _ _ _ w).mono ?_
  rintro e w' ⟨rfl,rfl⟩
  exact⟨.gP [],σ.get,σ.next,D,ι,_,rfl,⟨rfl,fun _ _=>rfl,[],hg,rfl,fun x=>Iff.rfl,fun i j _ hj=>by simp at hj⟩,Step.refl _ _ _ _,S,U,Nat.le_refl _,.gP [] #[] (fun _=>Go.undef) rfl (fun j hj=>by simp at hj) (fun j a h=>by simp at h)⟩
 have lp:0<ps.length:=List.length_pos_iff.2 h0
 obtain⟨B',dC,R,jM,mc⟩:=S.row id _ hg
 rw[hB]at dC;injection dC with dC;subst dC
 replace R:=R.row hk
 have ft:B.sz=2:=R.sz
 have CU:o=0:=by rcases ho with h|h<;>omega
 subst CU
 obtain⟨cur,T,hblk,dw,Fc⟩:=R.cur
 have By:ps.length*2<=B.C:=by simpa using R.fits
 have hH:HoldsK fH 2 w B.b 0 ps.toArray:=by
  intro t ht
  rw[size_flatK]at ht
  have ht2:t<ps.length*2:=by simpa using ht
  have hi:t / 2<ps.length:=by omega
  have CQ:w.frozen? ⟨B.b,0+t,none⟩=false:=by
   simp only[World.frozen?,hblk];simp
  refine⟨?_,CQ⟩
  rw[get_flatK _ _ _ _ ht]
  have hd:(ps.toArray)[t / 2]! =ps[t / 2]:=by simp[getElem!_pos,hi]
  rw[hd]
  have hj:t % 2=0∨t % 2=1:=by omega
  have ht3:0+t=(t / 2)*2+t % 2:=by omega
  rw[ht3]
  rcases hj with hj|hj
  ·obtain⟨v,hv,hr⟩:=R.at_ (t / 2) 0 (aa ps[t / 2]) _ (by simp[hi]) rfl
   rw[dr hr]at hv
   rw[hj];exact hv
  ·obtain⟨v,hv,hr⟩:=R.at_ (t / 2) 1 (aa ps[t / 2]) _ (by simp[hi]) rfl
   rw[dr hr]at hv
   rw[hj];exact hv
 have oE:B.b<w.heap.size:=(Array.getElem?_eq_some_iff.1 hblk).1
 have QE:=hC B.b 0 cap ps.toArray w hH oE (by simp;omega)
 rw[show ps.toArray.size=ps.length from by simp]at QE
 refine QE.mono ?_
 rintro e w' ⟨rfl,d',m,os,⟨Fm,_,Fj⟩,hsort,rfl⟩
 have QJ:d'.size=ps.length:=by rw[Fm];simp
 have SF:d'.toList.length=ps.length:=by simpa using QJ
 have hP:d'.toList.Perm ps:=by
  have e1:d'.extract 0 ps.length=d':=by rw[<-QJ];exact Array.extract_size
  have e2:ps.toArray.extract 0 ps.length=ps.toArray:=by
   have:ps.length=ps.toArray.size:=by simp
   rw[this];exact Array.extract_size
  rw[e1,e2]at Fj
  simpa using Fj
 have hF:∀t,t<ps.length*2->(flatK fH 2 d')[t]! =(fH d'[t / 2]!)[t % 2]! :=fun t ht=>get_flatK _ _ _ _ (by rw[QJ];exact ht)
 have hFs:(flatK fH 2 d').size=ps.length*2:=by rw[size_flatK,QJ]
 have hw:sortWorldK fH 2 w B.b 0 m d' os=Go.Sort.grow (Go.Sort.putRow (fun v:Value=>v) (Go.Sort.ahead w m) B.b 0 (flatK fH 2 d')) os:=rfl
 rw[hw]
 clear hw hH
 generalize flatK fH 2 d'=Fl at hF hFs ⊢
 have vP:=S.put (r':=⟨true,2,d'.toList.map aa⟩) (cur':=Go.Sort.putCells (fun v:Value=>v) 0 Fl cur) hg rfl hB hblk (by simp[Go.Sort.putCells]) rfl rfl (by simpa[QJ]using By) (fun cs dw=>by
   obtain⟨x,_,rfl⟩:=List.mem_map.1 dw;rfl) (fun cs dw a ha=>by
   obtain⟨x,_,rfl⟩:=List.mem_map.1 dw
   simp[aa]at ha;rcases ha with rfl|rfl<;>rfl) (fun i j cs a hi hj=>by
   have yi:i<d'.toList.length:=by
    have:=(List.getElem?_eq_some_iff.1 hi).1
    simpa using this
   have T8:j<2:=by
    have:=List.mem_of_getElem? hi
    obtain⟨x,_,rfl⟩:=List.mem_map.1 this
    exact(List.getElem?_eq_some_iff.1 hj).1
   have TP:cs=aa d'[i]! :=by
    rw[List.getElem?_map,List.getElem?_eq_getElem yi]at hi
    simp at hi
    rw[<-hi,getElem!_pos d' i (by simpa using yi)]
   subst TP
   have I4:i*2+j<ps.length*2:=by omega
   refine⟨(fH d'[i]!)[j]!,?_,K1 _ _ _ hj _ _ _ _⟩
   have mT:i*2+j<cur.size:=by rw[dw];omega
   show(Go.Sort.putCells (fun v:Value=>v) 0 Fl cur)[i*2+j]? = _
   simp only[Go.Sort.putCells,Array.getElem?_mapIdx,Array.getElem?_eq_getElem mT,Option.map_some]
   rw[if_pos ⟨Nat.zero_le _,by rw[hFs];omega⟩,Nat.sub_zero,hF _ I4,show(i*2+j) / 2=i from by omega,show(i*2+j) % 2=j from by omega])
 obtain⟨S1,sj⟩:=vP
 have Q8:(Go.Sort.putRow (fun v:Value=>v) (Go.Sort.ahead w m) B.b 0 Fl).heap.size=w.heap.size:=by simp
 have MP:∀k,k<(w.setRow B.b (Go.Sort.putCells (fun v:Value=>v) 0 Fl cur)).heap.size->(Go.Sort.grow (Go.Sort.putRow (fun v:Value=>v) (Go.Sort.ahead w m) B.b 0 Fl) os).heap[k]? =(w.setRow B.b (Go.Sort.putCells (fun v:Value=>v) 0 Fl cur)).heap[k]? :=fun k hk=>by
  have Gj:k<w.heap.size:=by simpa using hk
  rw[heap_grow_old _ _ (by rw[Q8];exact Gj)]
  simp only[Go.Sort.putRow,Go.Sort.mapBlock,heap_ahead,Array.getElem?_modify]
  by_cases T9:B.b=k
  ·subst T9
   rw[setRow_heap w B.b cur _ T _ hblk,if_pos rfl,hblk];rfl
  ·rw[if_neg T9,setRow_other w B.b k _ (fun h=>T9 h.symm)]
 have kh:(w.setRow B.b (Go.Sort.putCells (fun v:Value=>v) 0 Fl cur)).heap.size<=(Go.Sort.grow (Go.Sort.putRow (fun v:Value=>v) (Go.Sort.ahead w m) B.b 0 Fl) os).heap.size:=by
  rw[size_grow,Q8];simp
 have S2:=S1.stay (D':=D) (ι':=ι) MP kh (fun _ h=>h) (fun b hb=>Nat.lt_of_lt_of_le (S1.dead b hb) kh) (fun _ h=>.inl h) (fun _ _ h=>h)
 have Nn:=sj.trans (Step.stay (D':=D) (ι':=ι) S1 MP kh (by simp[Go.Sort.grow,Go.Sort.putRow,Go.Sort.mapBlock,Go.Sort.ahead]) (by simp[Go.Sort.grow,Go.Sort.putRow,Go.Sort.mapBlock,Go.Sort.ahead]) (by simp[Go.Sort.grow,Go.Sort.putRow,Go.Sort.mapBlock,Go.Sort.ahead]) (fun _ h=>h) (fun _ h=>.inl h) (fun _ _ h=>h))
 refine⟨.gP [],bJ σ.get id ⟨true,2,d'.toList.map aa⟩,σ.next,D,ι,_,rfl,⟨rfl,fun x hx=>by simp[bJ,hx],d'.toList,by simp[bJ],SF,fun x=>hP.mem_iff,fun i j Fi hj=>?_⟩,Nn,S2,U,Nat.le_refl _,.gP [] #[] (fun _=>Go.undef) rfl (fun j hj=>by simp at hj) (fun j a h=>by simp at h)⟩
 have h:=hsort i j (Nat.zero_le _) Fi (by omega)
 rw[ltOf,mO]at h
 have e1:d'[j]! =fq d'.toList j:=by rw[iV hj,getElem!_pos d' j (by simpa using hj)];rfl
 have hi:i<d'.toList.length:=by omega
 have e2:d'[i]! =fq d'.toList i:=by rw[iV hi,getElem!_pos d' i (by simpa using hi)];rfl
 rw[<-e1,<-e2];exact h
end Go.Proofs.YtgoelphibofcmaaGreat.V

namespace Go.Proofs
open Go.Shelf
def Tryz.Er:Go.Shelf.Ren:=⟨fun|6=>175|15=>207|14=>206|28=>233|29=>234|20=>225|21=>226|22=>227|23=>228|24=>229|25=>230|26=>231|27=>232|46=>247|47=>248|48=>249|49=>250|50=>251|57=>267|n=>n,fun|22=>100|24=>50|25=>168|3=>3|39=>216|0=>0|53=>268|55=>270|4=>4|46=>262|45=>261|50=>177|5=>5|9=>9|66=>287|70=>291|76=>312|77=>313|n=>n,fun|n=>n⟩
theorem Tryz.JQ:Go.Proofs.SlLaysF0.n6 Tryz.prog Tryz.Er:={
 mixed:=by kernel_rfl
 f6:=⟨Tryz.f175.name,by decide,Tryz.func175.trans (congrArg some (by kernel_rfl))⟩
 f14:=⟨Tryz.f206.name,by decide,Tryz.func206.trans (congrArg some (by kernel_rfl))⟩
 f15:=Tryz.func207.trans (congrArg some (by kernel_rfl))
 f20:=⟨Tryz.f225.name,by decide,Tryz.func225.trans (congrArg some (by kernel_rfl))⟩
 f21:=⟨Tryz.f226.name,by decide,Tryz.func226.trans (congrArg some (by kernel_rfl))⟩
 f22:=⟨Tryz.f227.name,by decide,Tryz.func227.trans (congrArg some (by kernel_rfl))⟩
 f23:=⟨Tryz.f228.name,by decide,Tryz.func228.trans (congrArg some (by kernel_rfl))⟩
 f24:=⟨Tryz.f229.name,by decide,Tryz.func229.trans (congrArg some (by kernel_rfl))⟩
 f25:=⟨Tryz.f230.name,by decide,Tryz.func230.trans (congrArg some (by kernel_rfl))⟩
 f26:=⟨Tryz.f231.name,by decide,Tryz.func231.trans (congrArg some (by kernel_rfl))⟩
 f27:=⟨Tryz.f232.name,by decide,Tryz.func232.trans (congrArg some (by kernel_rfl))⟩
 f28:=Tryz.func233.trans (congrArg some (by kernel_rfl))
 f29:=Tryz.func234.trans (congrArg some (by kernel_rfl))
 f46:=⟨Tryz.f247.name,by decide,Tryz.func247.trans (congrArg some (by kernel_rfl))⟩
 f47:=Tryz.func248.trans (congrArg some (by kernel_rfl))
 f48:=Tryz.func249.trans (congrArg some (by kernel_rfl))
 f49:=⟨Tryz.f250.name,by decide,Tryz.func250.trans (congrArg some (by kernel_rfl))⟩
 f50:=⟨Tryz.f251.name,by decide,Tryz.func251.trans (congrArg some (by kernel_rfl))⟩
 f57:=⟨Tryz.f267.name,by decide,Tryz.func267.trans (congrArg some (by kernel_rfl))⟩
 t0:=Tryz.underlying0
 a0:=Tryz.isAgg0
 z0:=Tryz.sizeOf0
 v0:=Tryz.zeroValue0
 t3:=Tryz.underlying3
 a3:=Tryz.isAgg3
 z3:=Tryz.sizeOf3
 v3:=Tryz.zeroValue3
 t4:=Tryz.underlying4
 a4:=Tryz.isAgg4
 z4:=Tryz.sizeOf4
 v4:=Tryz.zeroValue4
 t5:=Tryz.underlying5
 a5:=Tryz.isAgg5
 z5:=Tryz.sizeOf5
 v5:=Tryz.zeroValue5
 t9:=Tryz.underlying9
 a9:=Tryz.isAgg9
 z9:=Tryz.sizeOf9
 v9:=Tryz.zeroValue9
 t22:=Tryz.underlying100
 a22:=Tryz.isAgg100
 z22:=Tryz.sizeOf100
 v22:=Tryz.zeroValue100
 t25:=Tryz.underlying168
 a25:=Tryz.isAgg168
 z25:=Tryz.sizeOf168
 v25:=Tryz.zeroValue168
 t39:=Tryz.underlying216
 a39:=Tryz.isAgg216
 z39:=Tryz.sizeOf216
 v39:=Tryz.zeroValue216
 t45:=Tryz.underlying261
 a45:=Tryz.isAgg261
 z45:=Tryz.sizeOf261
 v45:=Tryz.zeroValue261
 t46:=Tryz.underlying262
 a46:=Tryz.isAgg262
 z46:=Tryz.sizeOf262
 v46:=Tryz.zeroValue262
 t50:=Tryz.underlying177
 a50:=Tryz.isAgg177
 z50:=Tryz.sizeOf177
 v50:=Tryz.zeroValue177
 t53:=Tryz.underlying268
 a53:=Tryz.isAgg268
 z53:=Tryz.sizeOf268
 v53:=Tryz.zeroValue268
 t55:=Tryz.underlying270
 a55:=Tryz.isAgg270
 z55:=Tryz.sizeOf270
 v55:=Tryz.zeroValue270
 t66:=Tryz.underlying287
 a66:=Tryz.isAgg287
 z66:=Tryz.sizeOf287
 v66:=Tryz.zeroValue287
 t70:=Tryz.underlying291
 a70:=Tryz.isAgg291
 z70:=Tryz.sizeOf291
 v70:=Tryz.zeroValue291
 t76:=Tryz.underlying312
 a76:=Tryz.isAgg312
 z76:=Tryz.sizeOf312
 v76:=Tryz.zeroValue312
 t77:=Tryz.underlying313
 a77:=Tryz.isAgg313
 z77:=Tryz.sizeOf313
 v77:=Tryz.zeroValue313}
end Go.Proofs

namespace Go.Proofs.YtgoelphibofcmaaGreat.V
open Go.RowKit Go.Shelf Go.Lib Go.Sort
theorem Bb (w:World) (a b:Int):Calls Tryz.prog 178 #[.int .i64 a,.int .i64 b] w fun e w'=>e=.returned (.int .i64 (rf a b))/\w=w':=by
 go_enter Tryz.func178,Tryz.ntmps178
 go_wp2_with go_in
 all_goals
  go_ret
  exact⟨FF (by unfold rf;split<;>(try split)<;>omega),rfl⟩
theorem LX (w:World) (a b:Int) (g:Nat) (ha:w.cell? ⟨g,0,none⟩=some (.int .i64 a)) (hb:w.cell? ⟨g,1,none⟩=some (.int .i64 b)):Calls Tryz.prog 177 #[.slice (some ⟨g,0,none⟩) 2 2] w fun e w'=>e=.returned (.int .i64 (LY a b))/\w=w':=by
 go_enter Tryz.func177,Tryz.ntmps177
 go_wp2_with fail
 go_loop [8] (fun i=>∃k:Nat,k<=2/\i=.int .i64 k/\Hid ((1<=k->a=0)/\(2<=k->b=0))) (fun i=>2-(intOf i).toNat)
 case atStart=>exact⟨0,by omega,rfl,Lib.hid ⟨fun h=>by omega,fun h=>by omega⟩⟩
 case round=>
  obtain⟨k,hk,rfl,hz⟩:=hrel
  have h3:k=0∨k=1∨k=2:=by omega
  rcases h3 with rfl|rfl|rfl
  ·go_wp2_with fail
   ·rename_i h
    go_ret
    exact⟨FF (by unfold LY;simp_all),rfl⟩
   ·rename_i h
    go_round
    case rel=>exact⟨1,by omega,rfl,Lib.hid ⟨fun _=>by simpa using h,fun h=>by omega⟩⟩
    case measure=>simp[intOf]
  ·have h0:=hz.out.1 (by omega)
   replace h0:=Lib.hid h0
   go_wp2_with fail
   ·go_ret
    exact⟨FF (by unfold LY;rw[if_pos h0.out]),rfl⟩
   ·rename_i h
    go_round
    case rel=>exact⟨2,by omega,rfl,Lib.hid ⟨fun _=>h0.out,fun _=>by simpa using h⟩⟩
    case measure=>simp[intOf]
  ·have h0:=Lib.hid (hz.out.1 (by omega))
   have h1:=Lib.hid (hz.out.2 (by omega))
   go_wp2_with fail
   go_ret
   exact⟨FF (by unfold LY;rw[if_pos h0.out,h1.out]),rfl⟩
def Grown (w w':World):Prop:=∃(q:Nat) (os:Array Obj),w'=Go.Sort.grow (w.drewN q) os
theorem Grown.refl (w:World):Grown w w:=⟨0, #[],by rw[grow_empty];rfl⟩
theorem Grown.alloc {w w':World} (h:Grown w w') (o:Obj):Grown w (w'.alloc o):=by
 obtain⟨q,os,rfl⟩:=h
 exact⟨q,os++ #[o],by rw[alloc_eq_grow,grow_grow]⟩
theorem Grown.drew {w w':World} (h:Grown w w'):Grown w w'.drew:=by
 obtain⟨q,os,rfl⟩:=h
 exact⟨q+1,os,by rw[drew_grow];rfl⟩
theorem Grown.dN {w w':World} (h:Grown w w') (n:Nat):Grown w (w'.drewN n):=by
 obtain⟨q,os,rfl⟩:=h
 exact⟨q+n,os,by
  show Go.Sort.grow ((w.drewN q).drewN n) os=Go.Sort.grow (w.drewN (q+n)) os
  simp[World.drewN,Nat.add_assoc]⟩
theorem tX (w:World) (a b:ar):Calls Tryz.prog 130 #[.agg #[.int .i64 a.eY,.int .i64 a.eU],.agg #[.int .i64 b.eY,.int .i64 b.eU]] w fun e w'=>e=.returned (.int .i64 (pG a b))/\Grown w w':=by
 go_enter Tryz.func130,Tryz.ntmps130
 go_wp2_with fail
 go_region_held3 (fun w'=>w'.cell? ⟨w.heap.size,0,none⟩=some (.int .i64 a.eY)/\w'.cell? ⟨w.heap.size,1,none⟩=some (.int .i64 a.eU)/\
   w'.cell? ⟨w.heap.size+1,0,none⟩=some (.int .i64 b.eY)/\w'.cell? ⟨w.heap.size+1,1,none⟩=some (.int .i64 b.eU))
  (first|go_keep)
  (first|(go_at_call 178;refine(Bb _ _ _).mono ?_;rintro e w' ⟨rfl,rfl⟩)|(go_at_call 177;refine(LX _ (rf a.eU b.eU) (rf a.eY b.eY) _ (by simp[go_sem]) (by simp[go_sem])).mono ?_;rintro e w' ⟨rfl,rfl⟩))
 go_wp2_with fail
 go_ret
 refine⟨rfl,?_⟩
 repeat(first|(with_reducible exact Grown.refl _)|(refine Grown.alloc ?_ _)|(refine Grown.drew ?_)|(refine Grown.dN ?_ _))
theorem UL:SWO (ltOf pG) where
 irrefl x:=by rw[ltOf,mO];exact rE
 trans x y z h1 h2:=by rw[ltOf,mO]at *;exact iu h1 h2
 ntrans x y z h1 h2:=by rw[ltOf,mO]at *;rw[pd]at *;omega
theorem RB:Mz:=fun xn off cap d w hH hblk ft=>by
 have eg:∀args w,(callFunc 130 args).run Tryz.prog w=.ok (.enter 130 args) w:=enters_of Tryz.func130 (by kernel_rfl) rfl
 have h:=AnyQ.slices_SortFunc Tryz.JQ 2 Tryz.isAgg50 Tryz.sizeOf50 fH (fun _=>rfl) (fun x v hv=>by simp[fH]at hv;rcases hv with rfl|rfl<;>rfl) pG UL 130 #[] xn off cap d w eg (fun m os dk _ x y=>(tX _ x y).mono fun _ _ ⟨he,q,os',hw⟩=>⟨he,q,os',hw⟩) hH hblk ft
 exact h
theorem RD:MA:=fun p cap fv w=>AnyF.slices_SortFunc_none Tryz.JQ p cap fv w
end Go.Proofs.YtgoelphibofcmaaGreat.V

namespace Go.Proofs.YtgoelphibofcmaaGreat.V
open Go.RowKit
attribute [local irreducible] dG wpOps gz Call
attribute [local go_sem] aL fU eV gw gr cK upd cw K.av cU AV.cells AV.cell rowOf rowsOf part ld rowAt bJ cr dK ep iC bR dj eF gq fh dz ew dh de ec ee bV bh cX bU cZ cY eu ez ev cW cj di er bS aQ db cG iA bz cN bW aX dn aZ dL AV.undef bG bK ef eo dW ea cJ eE eH cD eB eA da dc List.getD_cons_zero List.getD_cons_succ List.getD_nil List.all_cons List.all_nil Bool.and_true Bool.true_and Bool.and_self Bool.not_true Bool.not_false Option.map_some Option.map_none Option.bind_some Option.bind_none List.length_cons List.length_nil List.take_succ_cons List.take_zero List.take_nil List.drop_succ_cons List.drop_zero List.drop_nil List.head?_cons List.map_cons List.map_nil List.getElem?_cons_zero List.getElem?_cons_succ List.cons_append List.nil_append List.append_nil List.length_map List.set_cons_zero List.set_cons_succ Nat.reduceMul eq_self Int.toNat_natCast Int.natCast_nonneg and_self true_and and_true decide_true decide_false Bool.false_eq_true Nat.zero_add Nat.add_zero List.contains_cons List.contains_nil Bool.or_false Bool.false_or beq_self_eq_true Nat.reduceBEq ne_eq not_true_eq_false not_false_eq_true Id.mk.injEq false_and and_false Nat.reduceLT Int.reduceLE Int.reduceLT Int.reduceToNat Int.reduceNeg Int.reduceAdd Nat.le_refl List.length_append beq_true beq_false Bool.not_eq_eq_eq_not or_false false_or dX ai aq aH bj bE cu aW br aU bp cV bP
theorem xL (ps qs:List ar) (hlen:ps.length<=1000000) (h0:ps≠[]) (hR:lZ qs) (hm:∀x,x∈qs↔x∈ps) (σ:au) (id:Id) (hv:id.bq<σ.next) (hg:σ.get id=some ⟨true,2,ps.map aa⟩):
  Call Tryz.prog 172 [.own id 0 ps.length] σ fun a σ'=>∃(o:Id) (X:List ar),a=.own o 0 qs.length/\σ'.get o=some ⟨true,2,(qs++X).map aa⟩/\σ.next<=o.bq/\o.bq<σ'.next/\∀x:Id,x.bq<σ.next->σ'.get x=σ.get x:=by
 refine eW ek rfl fun hl=>?_
 clear hl
 have v1:=dq hv
 (try((repeat(revert hN;revert N;apply Pn.out));refine wk (tw @hg @v1) ?_;(repeat(refine Pn.mk ?_;intro N hN))))
 refine .inr (aG _ _ _ _ _ (fun r σ1 hq=>?_) (Dg ps h0 (by omega) ⟨σ.get,_⟩ id (by(try dsimp only);omega) hg))
 obtain⟨g1,x1⟩:=σ1
 obtain⟨o,rfl,q1,q2,q3,q4⟩:=hq
 (try dsimp only at q1 q2 q3 q4)
 refine hN _ _ ?_
 clear hN N
 (try((repeat(revert hN;revert N;apply Pn.out));refine wk @Nat.zero_add ?_;(repeat(refine Pn.mk ?_;intro N hN))))
 refine .inr (aG _ _ _ _ _ (fun r σ2 hq=>?_) (G6 RB RD ps (by omega) ⟨g1,_⟩ o q1))
 obtain⟨g2,x2⟩:=σ2
 obtain⟨u1,u2,ss,u3,u4,u5,u6⟩:=hq
 (try dsimp only at u1 u2 u3)
 refine hN _ _ ?_
 clear hN N
 (try((repeat(revert hN;revert N;apply Pn.out));refine wk @Nat.zero_add ?_;(repeat(refine Pn.mk ?_;intro N hN))))
 rw[<-u4]
 refine .inr (aG _ _ _ _ _ (fun r σ3 hq=>?_) (F2 ss (by omega) ⟨g2,_⟩ o u3))
 obtain⟨g3,x3⟩:=σ3
 obtain⟨y1,y2,X,rfl,y3⟩:=hq
 (try dsimp only at y1 y2 y3)
 have hD:dd ss ss.length=qs:=Ah (Ig u6 ss.length (Nat.le_refl _)) hR fun x=>by
  rw[zi,hm,<-u5]
  constructor
  ·rintro⟨i,hi,rfl⟩
   rw[iV hi];exact List.getElem_mem hi
  ·intro hx
   obtain⟨i,hi,rfl⟩:=List.getElem_of_mem hx
   exact⟨i,hi,iV hi⟩
 rw[hD]at y3 ⊢
 refine hN _ _ ?_
 clear hN N
 (try((repeat(revert hN;revert N;apply Pn.out));refine wk @Nat.zero_add ?_;(repeat(refine Pn.mk ?_;intro N hN))))
 exact fc (.inl rfl) (vs:=[.own o 0 qs.length]) (sd @Nat.zero_add) ⟨o,X,rfl,y3,by omega,by(try dsimp only);omega,fun x hx=>by
  have h1:x≠o:=fun e=>by rw[e]at hx;omega
  have h2:=y2 x (by(try dsimp only);omega) h1
  have h3:=u2 x h1
  have h4:=q4 x (by omega)
  exact h2.trans (h3.trans h4)⟩
end Go.Proofs.YtgoelphibofcmaaGreat.V

namespace Go.Proofs.YtgoelphibofcmaaGreat.V
open Go.RowKit
def Cq (m:MK) (it nx ok en:Nat) (id:Id) (B:(Ex->Env->au->Prop)->Env->au->Prop) (b b1:Nat) (Q:Ex->Env->au->Prop):Nat->List (List AV)->Env->au->Prop
 |0,_,env,σ=>env it=.ptr id 0 0/\Q .normal (upd (upd env (some nx) (.gP [.bool false])) (some ok) (.bool false)) ⟨σ.get,σ.next+1⟩
 |n+1,left,env,σ=>env it=.ptr id 0 0/\∀i cs kv vv,left[i]? =some cs->part m.ka m.ks cs=some kv->cs[m.ks]? =some vv->
   B (aZ b1 (dn (Cq m it nx ok en id B b b1 Q n (left.eraseIdx i)) (aZ b Q))) (upd (upd (upd env (some nx) (.gP [.bool true,kv,vv])) (some ok) (.bool true)) (some en) (.gP [kv,vv])) ⟨σ.get,σ.next+1⟩
def G1 (m:MK) (tm:O) (site it nx ok en:Nat) (B:(Ex->Env->au->Prop)->Env->au->Prop) (b b1:Nat) (Q:Ex->Env->au->Prop) (env:Env) (σ:au):Prop:=
 ∃id r,cK env tm=.map id m/\σ.get id=some r/\r.w=true/\Cq m it nx ok en ⟨site,σ.next⟩ B b b1 Q r.rows.length r.rows (upd env (some it) (.ptr ⟨site,σ.next⟩ 0 0)) ⟨bJ σ.get id {r with w:=false},σ.next+1⟩
variable {P:Program} {w w':World} {D D':Nat->Prop} {ι ι':Names} {hs:Nat} {g:Rows}
theorem jF.Dq (hc:∀b x,D b->w'.cell? ⟨b,x,none⟩=w.cell? ⟨b,x,none⟩) {a:AV} {v:Value} (h:jF P w D a v):jF P w' D a v:=by
 induction h with
 |int k n=>exact .int k n
 |bool b=>exact .bool b
 |str s=>exact .str s
 |cC=>exact .cC
 |gN=>exact .gN
 |iU=>exact .iU
 |ji=>exact .ji
 |AP a c h=>exact .AP a c h
 |sl rows b o n c sz vs h1 h2 h3 h4 h5 h5' h6 _ ih=>exact .sl rows b o n c sz vs h1 h2 h3 h4 h5 h5' (fun i j hi hj=>(hc b _ h4).trans (h6 i j hi hj)) ih
 |cQ cs b o vs h1 NQ h2 _ ih=>exact .cQ cs b o vs h1 NQ (fun j hj=>(hc b _ h1).trans (h2 j hj)) ih
 |agg cs vs f h1 h2 h3 _ ih=>exact .agg cs vs f h1 h2 h3 ih
 |fn f cH vs g h1 h2 h3 _ ih=>exact .fn f cH vs g h1 h2 h3 ih
theorem cE.Dq (hc:∀b x,D b->w'.cell? ⟨b,x,none⟩=w.cell? ⟨b,x,none⟩) {a:AV} {v:Value} (h:cE P w D ι a v):cE P w' D ι a v:=by
 induction h with
 |eP a v h=>exact .eP a v (h.Dq hc)
 |map id m B h1 h2=>exact .map id m B h1 h2
 |re id c B h1 h2=>exact .re id c B h1 h2
 |own id off len o cap B h1 h2 h3 h4 h5 h6=>exact .own id off len o cap B h1 h2 h3 h4 h5 h6
 |ptr id i off B h1 h2=>exact .ptr id i off B h1 h2
 |agg cs vs f h1 h2 h3 _ ih=>exact .agg cs vs f h1 h2 h3 ih
 |gP cs vs f h1 h2 _ ih=>exact .gP cs vs f h1 h2 ih
 |fn f cH vs g h1 h2 h3 _ ih=>exact .fn f cH vs g h1 h2 h3 ih
 |sQ f cH vs g h1 h2 h3 _ ih=>exact .sQ f cH vs g h1 h2 h3 ih
def mJ (w:World) (rr:Nat):Prop:=∃m s seen c,w.heap[rr]? =some (.mapIter m s seen c)
theorem mJ.cell {rr:Nat} (h:mJ w rr) (x:Nat):w.cell? ⟨rr,x,none⟩=none:=by
 obtain⟨m,s,seen,c,h⟩:=h
 simp[World.cell?,h]
theorem gI.Jt {B:sa} {r:Row} (R:gI P w D ι B r):¬mJ w B.b:=by
 rintro⟨m,s,seen,c,h⟩
 cases hk:B.k with
 |none=>obtain⟨c',T,h3,_⟩:=(R.row hk).xn;rw[h]at h3;cases h3
 |some k=>
  cases k with
  |map m=>obtain⟨_,es,c',h3,_⟩:=R.map m hk;rw[h]at h3;cases h3
  |chan c=>obtain⟨_,buf,s',q,h3,_⟩:=R.chan c hk;rw[h]at h3;cases h3
theorem yz {rr:Nat} (h:mJ w rr) (h':mJ w' rr) (ho:∀b,b≠rr->w'.heap[b]? =w.heap[b]?):(∀{a v},cE P w D ι a v->cE P w' D ι a v):=fun hr=>hr.Dq fun b x _=>by
 by_cases hb:b=rr
 ·subst hb;rw[h.cell,h'.cell]
 ·exact World.cell?_of_block (ho b hb)
theorem gn.iter {rr:Nat} (S:gn P hs D ι g w) (h:mJ w rr) (h':mJ w' rr) (ho:∀b,b≠rr->w'.heap[b]? =w.heap[b]?) (hz:w'.heap.size=w.heap.size):gn P hs D ι g w':=
 ⟨by rw[hz];exact S.lo,fun b hb=>by rw[hz];exact S.dead b hb,fun id r hg=>by
  obtain⟨B,hB,R,k1,k2⟩:=S.row id r hg
  exact⟨B,hB,R.frame (ho _ fun e=>R.Jt (e▸h)) fun a v hr=>yz h h' ho hr,k1,k2⟩,S.inj⟩
theorem mD {ops:Array Oper} {Q:Exit->Act->World->Prop} {a:Act} {o:Oper} {l:List Oper} {v:Value} (hg:o.guard=none) (fZ:(execOp a.eval o).run P w=.ok (.value v) w') (h:wpList P ops Q l (a.put o.dst v) w'):wpList P ops Q (o::l) a w:=by
 unfold wpList
 rw[if_pos (by simp[Region.wanted,hg])]
 exact .inl (by unfold Oper.wp;rw[fZ];exact h)
theorem JG {x y:AV} {u v:Value} (h1:cE P w D ι x u) (h2:cE P w D ι y v):cE P w D ι (.gP [x,y]) (.tuple #[u,v]):=
 .gP _ _ (fun j=>if j=0 then u else v) rfl (fun j hj=>by match j,hj with|0,_=>rfl|1,_=>rfl|j+2,hj=>simp at hj;omega) (fun j a ha=>by match j,ha with|0,ha=>simp at ha;subst ha;exact h1|1,ha=>simp at ha;subst ha;exact h2|j+2,ha=>simp at ha)
theorem JH {x y z:AV} {u v t:Value} (h1:cE P w D ι x u) (h2:cE P w D ι y v) (h3:cE P w D ι z t):cE P w D ι (.gP [x,y,z]) (.tuple #[u,v,t]):=
 .gP _ _ (fun j=>if j=0 then u else if j=1 then v else t) rfl (fun j hj=>by match j,hj with|0,_=>rfl|1,_=>rfl|2,_=>rfl|j+3,hj=>simp at hj;omega) (fun j a ha=>by match j,ha with|0,ha=>simp at ha;subst ha;exact h1|1,ha=>simp at ha;subst ha;exact h2|2,ha=>simp at ha;subst ha;exact h3|j+3,ha=>simp at ha)
theorem JF {x:AV} {u:Value} (h1:cE P w D ι x u):cE P w D ι (.gP [x]) (.tuple #[u]):=
 .gP _ _ (fun _=>u) rfl (fun j hj=>by match j,hj with|0,_=>rfl|j+1,hj=>simp at hj) (fun j a ha=>by match j,ha with|0,ha=>simp at ha;subst ha;exact h1|j+1,ha=>simp at ha)
structure Mw (P:Program) (w:World) (D:Nat->Prop) (ι:Names) (m:MK) (L:List MapEntry) (left:List (List AV)):Prop where
 len:left.length=L.length
 at_:∀(i:Nat) (cs:List AV),left[i]? =some cs->∃(e:MapEntry) (kv vv:AV),L[i]? =some e/\part m.ka m.ks cs=some kv/\cs[m.ks]? =some vv/\cE P w D ι kv e.key/\cE P w D ι vv e.val
theorem Mw.rep {m:MK} {L:List MapEntry} {left:List (List AV)} (h:Mw P w D ι m L left) (hr:∀{a v},cE P w D ι a v->cE P w' D' ι' a v):Mw P w' D' ι' m L left:=⟨h.len,fun i cs hi=>by
 obtain⟨e,kv,vv,h1,h2,h3,h4,h5⟩:=h.at_ i cs hi
 exact⟨e,kv,vv,h1,h2,h3,hr h4,hr h5⟩⟩
theorem mQ {α β:Type} {l:List α} {k:List β} {i j:Nat} {x:α} (hl:l.length=k.length) (h:(l.eraseIdx i)[j]? =some x):∃q:Nat,l[q]? =some x/\(k.eraseIdx i)[j]? =k[q]? :=by
 rw[List.getElem?_eraseIdx]at h
 split at h
 ·rename_i hj;exact⟨j,h,by rw[List.getElem?_eraseIdx,if_pos hj]⟩
 ·rename_i hj;exact⟨j+1,h,by rw[List.getElem?_eraseIdx,if_neg hj]⟩
theorem Mw.erase {m:MK} {L:List MapEntry} {left:List (List AV)} (h:Mw P w D ι m L left) {i:Nat} (hi:i<L.length):Mw P w D ι m (L.eraseIdx i) (left.eraseIdx i):=⟨by
 rw[List.length_eraseIdx,List.length_eraseIdx,h.len],fun j cs hj=>by
 obtain⟨q,hq,he⟩:=mQ h.len hj
 obtain⟨e,kv,vv,h1,h2⟩:=h.at_ q cs hq
 exact⟨e,kv,vv,he.trans h1,h2⟩⟩
theorem nE:∀{l:List MapEntry} {i:Nat} {e:MapEntry},(l.map (·.born)).Nodup->l[i]? =some e->l.filter (fun x=>x.born !=e.born)=l.eraseIdx i
 |x::l,0,e,hn,h=>by
  simp at h;subst h
  obtain⟨h1,h2⟩:=List.nodup_cons.1 (show(x.born::l.map (·.born)).Nodup from hn)
  rw[List.filter_cons,if_neg (by simp),List.eraseIdx_cons_zero]
  refine List.filter_eq_self.2 fun y hy=>?_
  have:y.born≠x.born:=fun hc=>h1 (by rw[<-hc];exact List.mem_map_of_mem hy)
  simpa using this
 |x::l,i+1,e,hn,h=>by
  obtain⟨h1,h2⟩:=List.nodup_cons.1 (show(x.born::l.map (·.born)).Nodup from hn)
  simp only[List.getElem?_cons_succ]at h
  have hx:x.born≠e.born:=fun hc=>h1 (by rw[hc];exact List.mem_map_of_mem (List.mem_of_getElem? h))
  rw[List.filter_cons,if_pos (by simpa using hx),List.eraseIdx_cons_succ,nE h2 h]
theorem DY {es:Array MapEntry} {clock:Nat} {seen:Array Nat} {i:Nat} {e:MapEntry} (hs:KM es clock) (h:(leftOf es seen).toList[i]? =some e):(leftOf es (seen.push e.born)).toList=(leftOf es seen).toList.eraseIdx i:=by
 have hn:((leftOf es seen).toList.map (·.born)).Nodup:=by
  unfold leftOf
  rw[Array.toList_filter]
  exact((List.filter_sublist (p:=fun e=> !seen.contains e.born) (l:=es.toList)).map MapEntry.born).nodup hs.2
 rw[<-nE hn h]
 unfold leftOf
 rw[Array.toList_filter,Array.toList_filter,List.filter_filter]
 refine List.filter_congr fun x _=>?_
 rw[contains_push]
 cases seen.contains x.born<;>cases hb:(x.born==e.born)<;>simp_all
theorem eval_put {a:Act} {d:Nat} {v:Value} (h:d<a.tmps.size):(a.put (some d) v).eval (.tmp d)=v:=by
 simp[Act.put,Act.eval,h]
def JL (ix ie b b1 ok:Nat) (Eb GR Ea:Oper) (rL:List Oper) (nD:Code):Code:=
 .seq (.region ix #[Eb,GR] false) (.seq (.cond (.tmp ok) .skip (.exit b)) (.block b1 (.seq (.region ie (Ea::rL).toArray false) nD)))
structure HS (P:Program) (md:List (Nat×Nat)) (nt fid s0 it nx ok en:Nat) (Eb GR Ea:Oper) (rL:List Oper) (nD:Code) (vE:List aY) (r8:VC):Prop where
 h1:Eb.op=.next (.tmp it) false
 h2:Eb.dst=some nx
 h3:Eb.guard=none
 h4:GR.op=.extract (.tmp nx) 0
 h5:GR.dst=some ok
 h6:GR.guard=none
 h7:Ea.op=.entry (.tmp it)
 h8:Ea.dst=some en
 h9:Ea.guard=none
 P5:nx<nt
 SP:ok<nt
 lt3:en<nt
 ne1:it≠nx
 ne2:it≠ok
 hE:allM (kN P (Ea::rL).toArray nt s0 false false #[] []) rL 1=some vE
 hR:jn P md nt fid nD=some r8
theorem Ej (hm:P.follows .mixedOrders=true) {md:List (Nat×Nat)} {nt fid s0 ix ie b b1 it nx ok en:Nat} {m:MK} {id:Id} {Eb GR Ea:Oper} {rL:List Oper} {nD:Code} {vE:List aY} {r8:VC}
  (O:HS P md nt fid s0 it nx ok en Eb GR Ea rL nD vE r8) {rr bm:Nat} {es:Array MapEntry} {clock:Nat} (Gp:KM es clock) {ds:List Deferred} {n0:Nat} {D0:Nat->Prop} {ι0:Names} {w0:World} {Q:Ex->Env->au->Prop} {Q':Exit->Act->World->Prop}
  (hQ:tf P hs nt ds Q n0 D0 ι0 w0 Q') (hD0:¬D0 rr) (hrr:hs<=rr) (gU:bm≠rr):
  ∀(n:Nat) (left:List (List AV)) (env:Env) (σ:au) (a:Act) (w:World) (D:Nat->Prop) (ι:Names) (seen:Array Nat),
   Cq m it nx ok en id (dG (Sound P) (.seq (.ej false vE) r8)) b b1 Q n left env σ->St P hs nt D ι env σ a w->a.defers=ds->n0<=σ.next->Step hs D0 ι0 w0 D ι w->
   (∃sz C,ι id=some ⟨rr,sz,C,none⟩)->D rr->D bm->w.heap[rr]? =some (.mapIter (some bm) clock seen clock)->w.heap[bm]? =some (.map es clock)->left.length=n->Mw P w D ι m (leftOf es seen).toList left->
   pe P (JL ix ie b b1 ok Eb GR Ea rL nD) (Exit.inBlock b Q') (n+1) a w:=by
 intro n
 induction n with
 |zero=>
  intro left env σ a w D ι seen hv dB hd HA T hid Tr To hr hb hlen hL
  obtain⟨Lh,hq⟩:=hv
  have ha:a.tmps.getD it undef=.pointer (some ⟨rr,0,none⟩):=by
   have:=dB.env it
   rw[Lh]at this
   obtain⟨B,e,hB,_⟩:=iy this
   obtain⟨sz,C,hid⟩:=hid
   rw[hid]at hB;injection hB with hB;subst hB
   simpa using e
  have Si:a.eval (.tmp it)=.pointer (some ⟨rr,0,none⟩):=ha
  rcases run_next_at (P:=P) w Eb.type rr bm clock clock seen es clock hr hb Gp.1 (Nat.le_refl _)with⟨_,fZ⟩|⟨e,he,_⟩
  rotate_left
  ·have h0:(leftOf es seen).toList=[]:=List.eq_nil_of_length_eq_zero (by rw[<-hL.len,hlen])
   rw[h0]at he;simp at he
  have Fm:nx<a.tmps.size:=by rw[dB.size];exact O.P5
  have E2:=iq (iq dB.env (JF (.eP _ _ (.bool false))) (dst:=some nx) (fun d h=>by cases h;exact O.P5) dB.size) (.eP _ _ (.bool false)) (dst:=some ok) (fun d h=>by cases h;exact O.SP) (by rw[eX];exact dB.size)
  show AG P (.seq _ _) _ a w
  refine lJ (kf (wp_region_list ?_))
  refine mD (v:=.tuple #[.bool false]) (w':=w) O.h3 (by simp[execOp,O.h1,Si,fZ,Result.andThen]) ?_
  refine mD (v:=.bool false) (w':=w) O.h6 (by rw[O.h2];simp[execOp,O.h4,eval_put Fm,Instr.extract]) ?_
  rw[O.h2,O.h5]
  refine lJ (wh (t:=false) (eval_put (by rw[eX,dB.size];exact O.SP)) (kf (wp_exit ?_)))
  show Exit.inBlock b Q' (.exit b) _ _
  simp only[Exit.inBlock,if_true]
  exact hQ .normal _ ⟨σ.get,σ.next+1⟩ _ w D ι hq T ⟨dB.sY,dB.used.next,E2,by rw[eX,eX];exact dB.size⟩ (by rw[put_defers,put_defers];exact hd) (Nat.le_succ_of_le HA)
 |succ n ih=>
  intro left env σ a w D ι seen hv dB hd HA T hid Tr To hr hb hlen hL
  obtain⟨Lh,hq⟩:=hv
  have ha:a.tmps.getD it undef=.pointer (some ⟨rr,0,none⟩):=by
   have:=dB.env it
   rw[Lh]at this
   obtain⟨B,e,hB,_⟩:=iy this
   obtain⟨sz,C,hid⟩:=hid
   rw[hid]at hB;injection hB with hB;subst hB
   simpa using e
  have Si:a.eval (.tmp it)=.pointer (some ⟨rr,0,none⟩):=ha
  rcases run_next_at (P:=P) w Eb.type rr bm clock clock seen es clock hr hb Gp.1 (Nat.le_refl _)with⟨h0,_⟩|⟨e,he,w1,mW,fZ⟩
  ·have:=hL.len
   rw[hlen,Array.length_toList]at this;omega
  obtain⟨i,hi,Hz⟩:=List.getElem_of_mem he
  have QU:(leftOf es seen).toList[i]? =some e:=by rw[List.getElem?_eq_getElem hi,Hz]
  have mb:i<left.length:=by rw[hL.len];exact hi
  obtain⟨e',kv,vv,q1,q2,q3,q4,q5⟩:=hL.at_ i left[i] (List.getElem?_eq_getElem mb)
  rw[QU]at q1;injection q1 with q1;subst q1
  replace hq:=hq i left[i] kv vv (List.getElem?_eq_getElem mb) q2 q3
  have Gm:w1.heap[rr]? =some (.mapIter (some bm) clock seen clock):=by rcases mW with rfl|rfl<;>exact hr
  have dO:=MapKept.heap_set (o':=.mapIter (some bm) clock (seen.push e.born) clock) Gm
  obtain⟨w2,oF⟩:∃w2,ChangeMaps.setBlock w1 rr (.mapIter (some bm) clock (seen.push e.born) clock)=w2:=⟨_,rfl⟩
  have ho:∀k,k≠rr->w2.heap[k]? =w.heap[k]? :=fun k hk=>by
   rw[<-oF]
   refine(dO.2 k hk).trans ?_
   rcases mW with rfl|rfl<;>rfl
  have hz:w2.heap.size=w.heap.size:=by
   rw[<-oF]
   rcases mW with rfl|rfl<;>simp[ChangeMaps.setBlock]
  have DJ:w2.heap[rr]? =some (.mapIter (some bm) clock (seen.push e.born) clock):=by rw[<-oF];exact dO.1
  have xC:w2.os=w.os/\w2.tape=w.tape/\w2.output=w.output:=by
   rw[<-oF]
   rcases mW with rfl|rfl<;>exact⟨rfl,rfl,rfl⟩
  rw[oF]at fZ
  clear oF dO
  have I1:mJ w rr:=⟨_,_,_,_,hr⟩
  have I2:mJ w2 rr:=⟨_,_,_,_,DJ⟩
  have rt:∀{a v},cE P w D ι a v->cE P w2 D ι a v:=yz I1 I2 ho
  have S2:=dB.sY.iter I1 I2 ho hz
  have T2:Step hs D0 ι0 w0 D ι w2:=⟨⟨xC.1.trans T.below.os,xC.2.1.trans T.below.tape,xC.2.2.trans T.below.output,by rw[hz];exact T.below.size,fun k hk=>(ho k (by omega)).trans (T.below.block k hk)⟩,fun k hk=>(ho k (fun hc=>hD0 (hc▸hk))).trans (T.qx k hk),T.dead,T.names,T.new⟩
  have Gg:w2.heap[bm]? =some (.map es clock):=(ho bm gU).trans hb
  have Fm:nx<a.tmps.size:=by rw[dB.size];exact O.P5
  have E1:bQ P w2 D ι env a:=fun t=>rt (dB.env t)
  have E2:=iq (iq E1 (JH (.eP _ _ (.bool true)) (rt q4) (rt q5)) (dst:=some nx) (fun d h=>by cases h;exact O.P5) dB.size) (.eP _ _ (.bool true)) (dst:=some ok) (fun d h=>by cases h;exact O.SP) (by rw[eX];exact dB.size)
  have E3:=iq E2 (JG (rt q4) (rt q5)) (dst:=some en) (fun d h=>by cases h;exact O.lt3) (by rw[eX,eX];exact dB.size)
  have Hv:=run_entry_at (P:=P) w2 rr bm clock seen es clock e DJ Gg (mem_left he).1 Gp.2
  show AG P (.seq _ _) _ a w
  refine lJ (kf (wp_region_list ?_))
  refine mD (v:=.tuple #[.bool true,e.key,e.val]) (w':=w2) O.h3 (by simp[execOp,O.h1,Si,fZ,Result.andThen]) ?_
  refine mD (v:=.bool true) (w':=w2) O.h6 (by rw[O.h2];simp[execOp,O.h4,eval_put Fm,Instr.extract]) ?_
  rw[O.h2,O.h5]
  refine lJ (wh (t:=true) (eval_put (by rw[eX,dB.size];exact O.SP)) (kf (wp_skip ?_)))
  refine sS (lJ (kf (wp_region_list ?_)))
  show wpList P _ _ (Ea::rL) _ _
  have ha3:(((a.put (some nx) (.tuple #[.bool true,e.key,e.val])).put (some ok) (.bool true)).eval (.tmp it))=.pointer (some ⟨rr,0,none⟩):=by
   have n1:=O.ne1
   have n2:=O.ne2
   rw[<-Si]
   simp[Act.put,Act.eval,Array.getD_eq_getD_getElem?,Array.getElem?_setIfInBounds,Ne.symm n1,Ne.symm n2]
  refine mD (v:=.tuple #[e.key,e.val]) (w':=w2) O.h9 (by simp[execOp,O.h7,ha3,Hv,Result.andThen]) ?_
  rw[O.h8]
  refine yM rL vE 1 _ ⟨σ.get,σ.next+1⟩ _ w2 D ι (fun _=>False) O.hE hq S2 dB.used.next (fun _ h=>h.elim) E3 (by rw[eX,eX,eX];exact dB.size) fun Tg σ3 a3 w3 D3 ι3 hk T3 St3 QH Uc=>?_
  refine qf hm nD r8 O.hR _ Tg σ3 a3 w3 D3 ι3 _ hk St3 fun ex Im σ4 a4 w4 D4 ι4 IV T4 S5 IF Ud=>?_
  have K9:a4.defers=ds:=by rw[IF,QH,put_defers,put_defers,put_defers];exact hd
  have Uk:n0<=σ4.next:=Nat.le_trans HA (Nat.le_trans (Nat.le_succ _) (Nat.le_trans Uc Ud))
  have Np:=T3.trans T4
  have TT:=T2.trans Np
  have tJ:Cq m it nx ok en id (dG (Sound P) (.seq (.ej false vE) r8)) b b1 Q n (left.eraseIdx i) Im σ4->pe P (JL ix ie b b1 ok Eb GR Ea rL nD) (Exit.inBlock b Q') (n+1) a4 w4:=fun hq5=>by
   refine ih (left.eraseIdx i) Im σ4 a4 w4 D4 ι4 (seen.push e.born) hq5 S5 K9 Uk TT ?_ (Np.dead _ Tr) (Np.dead _ To) ((Np.qx _ Tr).trans DJ) ((Np.qx _ To).trans Gg) ?_ ?_
   ·obtain⟨sz,C,hid⟩:=hid;exact⟨sz,C,Np.names _ _ hid⟩
   ·rw[List.length_eraseIdx,if_pos mb,hlen];rfl
   ·rw[DY Gp QU]
    exact(hL.erase hi).rep fun hr=>Np.rep (rt hr)
  have out:∀ex,ex≠.normal->Q ex Im σ4->Q' (R6 ex) a4 w4:=fun ex _ h=>hQ ex Im σ4 a4 w4 D4 ι4 h TT S5 K9 Uk
  cases ex with
  |normal=>exact tJ IV
  |ret=>exact out .ret (by simp) IV
  |exit jU=>
   simp only[aZ]at IV
   simp only[R6,Exit.inBlock]
   by_cases h1:jU=b1
   ·rw[if_pos h1]at IV ⊢
    exact tJ IV
   ·rw[if_neg h1]at IV ⊢
    simp only[dn,aZ]at IV
    show Exit.inBlock b Q' (.exit jU) a4 w4
    simp only[Exit.inBlock]
    by_cases h2:jU=b
    ·rw[if_pos h2]at IV ⊢
     exact hQ .normal Im σ4 a4 w4 D4 ι4 IV TT S5 K9 Uk
    ·rw[if_neg h2]at IV ⊢
     exact out (.exit jU) (by simp) IV
def CS (P:Program) (nt:Nat) (c:Code) (W:(Ex->Env->au->Prop)->Env->au->Prop):Prop:=
 ∀(hs:Nat) (Q:Ex->Env->au->Prop) (env:Env) (σ:au) (a:Act) (w:World) (D:Nat->Prop) (ι:Names) (Q':Exit->Act->World->Prop),W Q env σ->St P hs nt D ι env σ a w->tf P hs nt a.defers Q σ.next D ι w Q'->AG P c Q' a w
theorem CS.code (hm:P.follows .mixedOrders=true) {md:List (Nat×Nat)} {nt fid:Nat} {c:Code} {vc:VC} (h:jn P md nt fid c=some vc):CS P nt c (dG (Sound P) vc):=
 fun _ Q env σ a w D ι Q' hv dB hQ=>qf hm c vc h Q env σ a w D ι Q' hv dB hQ
theorem CS.seq {nt:Nat} {x y:Code} {V W:(Ex->Env->au->Prop)->Env->au->Prop} (h:CS P nt x V) (k:CS P nt y W):CS P nt (.seq x y) (fun Q=>V (dn (W Q) Q)):=fun hs Q env σ a w D ι Q' hv dB hQ=>by
 refine lJ (h hs _ env σ a w D ι _ hv dB fun ex je σ1 a1 w1 D1 ι1 hq T j4 hd hle=>?_)
 cases ex with
 |normal=>exact k hs Q je σ1 a1 w1 D1 ι1 Q' hq j4 (by rw[hd];exact hQ.later T hle)
 |exit id=>exact hQ (.exit id) je σ1 a1 w1 D1 ι1 hq T j4 hd hle
 |ret=>exact hQ .ret je σ1 a1 w1 D1 ι1 hq T j4 hd hle
theorem CS.rng (hm:P.follows .mixedOrders=true) {md:List (Nat×Nat)} {nt fid s0 sA site ia ix ie b b1 it nx ok en:Nat} {m:MK} {Eb GR Ea Ee:Oper} {JC rL:List Oper} {nD:Code} {vA vE:List aY} {r8:VC} {t k e:TypeId} {tm:Operand} {tm':O}
  (O:HS P md nt fid s0 it nx ok en Eb GR Ea rL nD vE r8) (h1:Ee.op=.range t tm) (h2:Ee.dst=some it) (h3:Ee.guard=none) (dM:it<nt) (ht:P.underlying t=some (.map k e)) (Q9:cO P tm=some tm') (hA:allM (kN P (JC++[Ee]).toArray nt sA false false #[] []) JC 0=some vA):
  CS P nt (.seq (.region ia (JC++[Ee]).toArray false) (.block b (.loop (JL ix ie b b1 ok Eb GR Ea rL nD))))
   (fun Q=>wpOps (Sound P) false vA (G1 m tm' site it nx ok en (dG (Sound P) (.seq (.ej false vE) r8)) b b1 Q)):=fun hs Q env σ a w D ι Q' hv dB hQ=>by
 refine lJ (kf (wp_region_list ?_))
 show wpList P _ _ (JC++[Ee]) a w
 refine wj [Ee] JC vA 0 env σ a w D ι (fun _=>False) hA hv dB.sY dB.used (fun _ h=>h.elim) dB.env dB.size fun je σ1 a1 w1 D1 ι1 hk T sj uA Gk=>?_
 obtain⟨id,r,hid,hg,hw,hr⟩:=hk
 have gH:=dm sj.env Q9
 rw[hid]at gH
 obtain⟨B,hv,hB,hk⟩:=FE gH
 obtain⟨B',dC,R,jM,mc⟩:=sj.sY.row id r hg
 rw[hB]at dC;injection dC with dC;subst dC
 obtain⟨hrsz,es,clock,hb,ft,⟨hlen,Gp⟩,hM⟩:=R.map m hk
 have R8:=R.lt
 have fZ:=run_range_map (P:=P) w1 t k e B.b es clock ht hb
 refine mD (v:=.pointer (some ⟨w1.heap.size,0,none⟩)) (w':=w1.alloc (.mapIter (some B.b) clock #[] clock)) h3 (by simp[execOp,h1,hv,fZ,Result.andThen]) ?_
 rw[h2]
 obtain⟨w2,oF⟩:∃w2,w1.alloc (.mapIter (some B.b) clock #[] clock)=w2:=⟨_,rfl⟩
 have hblk:∀b,b<w1.heap.size->w2.heap[b]? =w1.heap[b]? :=fun b hb=>by rw[<-oF];exact Below.heap_alloc _ _ _ hb
 have ke:w2.heap[w1.heap.size]? =some (.mapIter (some B.b) clock #[] clock):=by rw[<-oF];exact heap_alloc_new _ _
 have hz:w2.heap.size=w1.heap.size+1:=by rw[<-oF];simp
 have xC:w2.os=w1.os/\w2.tape=w1.tape/\w2.output=w1.output:=by rw[<-oF];exact⟨rfl,rfl,rfl⟩
 rw[oF]
 clear oF fZ
 let D2:Nat->Prop:=fun x=>D1 x∨x=B.b∨x=w1.heap.size
 let ι2:Names:=kC ι1 ⟨site,σ1.next⟩ ⟨w1.heap.size,1,0,none⟩
 have kq:ι1 ⟨site,σ1.next⟩=none:=fresh sj.used (fun h=>h)
 have SG:∀{a v},cE P w1 D1 ι1 a v->cE P w2 D2 ι2 a v:=fun h=>h.frame (fun b hd=>hblk b (sj.sY.dead b hd)) (fun _ h=>.inl h) (fa kq)
 have yL:∀{j q C},σ1.get j=some q->ι2 j=some C->ι1 j=some C:=fun {j q C} hj hC=>by
  obtain⟨C',ub,_⟩:=sj.sY.row j q hj
  have:=fa (B:=⟨w1.heap.size,1,0,none⟩) kq j C' ub
  have e:=this.symm.trans hC
  injection e with e;rw[<-e];exact ub
 have lt:∀{j q C},σ1.get j=some q->ι1 j=some C->C.b<w1.heap.size:=fun {j q C} hj hC=>by
  obtain⟨C',ub,R',_⟩:=sj.sY.row j q hj
  rw[hC]at ub;injection ub with ub;subst ub
  exact R'.lt
 have NO:∀{j q},bJ σ1.get id {r with w:=false} j=some q->∃q0,σ1.get j=some q0/\(q.w=true->q=q0/\j≠id)/\(j=id->q={r with w:=false}/\q0=r)/\(j≠id->q=q0):=fun {j q} h=>by
  unfold bJ at h
  split at h
  ·rename_i e
   injection h with h;subst h
   exact⟨r,e▸hg,fun h=>(by cases h),fun _=>⟨rfl,rfl⟩,fun hc=>absurd e hc⟩
  ·rename_i e
   exact⟨q,h,fun _=>⟨rfl,e⟩,fun hc=>absurd hc e,fun _=>rfl⟩
 have S2:gn P hs D2 ι2 (bJ σ1.get id {r with w:=false}) w2:=by
  refine⟨by rw[hz];exact Nat.le_succ_of_le sj.sY.lo,fun b hb=>?_,fun j q h=>?_,fun j j' q q' C C' h h' IW hC ub he=>?_⟩
  ·rw[hz]
   rcases hb with hb|rfl|rfl
   ·exact Nat.lt_succ_of_lt (sj.sY.dead b hb)
   ·exact Nat.lt_succ_of_lt R8
   ·exact Nat.lt_succ_self _
  ·obtain⟨q0,MU,IW,zA,gU⟩:=NO h
   obtain⟨C,hC,RC,k1,k2⟩:=sj.sY.row j q0 MU
   have hCl:=lt MU hC
   refine⟨C,fa kq j C hC,?_,fun PX=>k1 ((IW PX).1▸PX),fun PX hD=>?_⟩
   ·have RF:gI P w2 D2 ι2 C q0:=RC.frame (hblk _ hCl) fun a v h=>SG h
    by_cases hj:j=id
    ·obtain⟨e1,e2⟩:=zA hj
     rw[e1,<-e2];exact RF.flag false
    ·rw[gU hj];exact RF
   ·obtain⟨e1,e2⟩:=IW PX
    rcases hD with hD|hD|hD
    ·exact k2 (e1▸PX) hD
    ·exact e2 (sj.sY.inj j id q0 r C B MU hg (e1▸PX) hC hB hD)
    ·omega
  ·obtain⟨q0,MU,Ut,_⟩:=NO h
   obtain⟨q0',Q4,_⟩:=NO h'
   exact sj.sY.inj j j' q0 q0' C C' MU Q4 ((Ut IW).1▸IW) (yL MU hC) (yL Q4 ub) he
 have T2:Step hs D1 ι1 w1 D2 ι2 w2:=⟨⟨xC.1,xC.2.1,xC.2.2,by omega,fun k hk=>hblk k (Nat.lt_of_lt_of_le hk sj.sY.lo)⟩,fun b hb=>hblk b (sj.sY.dead b hb),fun _ h=>.inl h,fa kq,fun b hb=>by
  rcases hb with hb|rfl|rfl
  ·exact .inl hb
  ·exact .inr (jM hw)
  ·exact .inr sj.sY.lo⟩
 have E2:bQ P w2 D2 ι2 (upd je (some it) (.ptr ⟨site,σ1.next⟩ 0 0)) (a1.put (some it) (.pointer (some ⟨w1.heap.size,0,none⟩))):=
  iq (fun t=>SG (sj.env t)) (by have:=cE.ptr (P:=P) (w:=w2) (D:=D2) (ι:=ι2) ⟨site,σ1.next⟩ 0 0 ⟨w1.heap.size,1,0,none⟩ (dR _ _ _) rfl;simpa using this) (fun d h=>by cases h;exact dM) sj.size
 have L2:Mw P w2 D2 ι2 m (leftOf es #[]).toList r.rows:=by
  have he:(leftOf es #[]).toList=es.toList:=by simp[leftOf]
  rw[he]
  refine⟨by simpa using ft.symm,fun i cs hi=>?_⟩
  obtain⟨Qo,kv,vv,q1,q2,q3,q4,q5⟩:=hM i cs hi
  exact⟨Qo,kv,vv,by simpa using q1,q2,q3,SG q4,SG q5⟩
 show AG P (.block b (.loop (JL ix ie b b1 ok Eb GR Ea rL nD))) Q' _ w2
 exact sS (Cj (r.rows.length+1) (Ej hm O Gp (ds:=a.defers) (n0:=σ.next) (D0:=D) (ι0:=ι) (w0:=w) hQ
  (fun hc=>by have:=dB.sY.dead _ hc;have:=T.below.size;omega) sj.sY.lo (by omega) r.rows.length r.rows _ ⟨bJ σ1.get id {r with w:=false},σ1.next+1⟩ _ w2 D2 ι2 #[] hr
  ⟨S2,sj.used.upd.next,E2,by rw[eX];exact sj.size⟩ (by rw[put_defers];exact uA) (Nat.le_succ_of_le Gk) (T.trans T2) ⟨1,0,dR _ _ _⟩ (.inr (.inr rfl)) (.inr (.inl rfl)) ke ((hblk _ R8).trans hb) rfl L2))
theorem CS.fn {f:Nat} {fn:Func} {c:Code} {args:List AV} {σ:au} {K:AV->au->Prop} {vr:List nI} {W:(Ex->Env->au->Prop)->Env->au->Prop} (PH:P.funcs[f]? =some fn) (hc:fn.body=some c) (hr:fn.results.toList.mapM (Df P)=some vr) (ha:fn.params.size+fn.nfree=args.length) (hle:fn.params.size+fn.nfree<=fn.ntmps)
  (h:CS P fn.ntmps c W) (hv:W (ku vr K) (cw args) σ):Call P f args σ K:=
 gJ (uV PH hc hr ha hle fun hs w D ι a Q' dB hQ=>h hs (ku vr K) (cw args) σ a w D ι Q' hv dB hQ)
theorem r9 (hm:P.follows .mixedOrders=true) {c:VC} {Q Q':Ex->Env->au->Prop} {env:Env} {σ:au} (hQ:∀x e s,Q x e s->Q' x e s) (h:dG (Call P) c Q env σ):dG (Sound P) c Q' env σ:=
 jA (fun _ _ _ _ h=>gj hm h) kJ c Q Q' env σ hQ h
theorem yR {m:MK} {it nx ok en:Nat} {id:Id} {B B':(Ex->Env->au->Prop)->Env->au->Prop} {b b1:Nat} {Q Q':Ex->Env->au->Prop} (hB:∀R R' e s,(∀x e s,R x e s->R' x e s)->B R e s->B' R' e s) (hQ:∀x e s,Q x e s->Q' x e s):
  ∀(n:Nat) (left:List (List AV)) (env:Env) (σ:au),Cq m it nx ok en id B b b1 Q n left env σ->Cq m it nx ok en id B' b b1 Q' n left env σ
 |0,_,env,σ,h=>⟨h.1,hQ _ _ _ h.2⟩
 |n+1,left,env,σ,h=>⟨h.1,fun i cs kv vv h1 h2 h3=>hB _ _ _ _ (fun x e s hx=>by
  have hn:=yR (id:=id) (m:=m) (it:=it) (nx:=nx) (ok:=ok) (en:=en) (b:=b) (b1:=b1) hB hQ n (left.eraseIdx i) e s
  cases x with
  |normal=>exact hn hx
  |ret=>exact hQ _ _ _ hx
  |exit jU=>
   simp only[aZ]at hx ⊢
   split at hx
   ·rename_i h1;rw[if_pos h1];exact hn hx
   ·rename_i h1
    rw[if_neg h1]
    simp only[dn,aZ]at hx ⊢
    split at hx
    ·rename_i h2;rw[if_pos h2];exact hQ _ _ _ hx
    ·rename_i h2;rw[if_neg h2];exact hQ _ _ _ hx) (h.2 i cs kv vv h1 h2 h3)⟩
theorem G2 (hm:P.follows .mixedOrders=true) {m:MK} {tm:O} {site it nx ok en:Nat} {c:VC} {b b1:Nat} {Q Q':Ex->Env->au->Prop} {env:Env} {σ:au} (hQ:∀x e s,Q x e s->Q' x e s) (h:G1 m tm site it nx ok en (dG (Call P) c) b b1 Q env σ):G1 m tm site it nx ok en (dG (Sound P) c) b b1 Q' env σ:=by
 obtain⟨id,r,h1,h2,h3,h4⟩:=h
 exact⟨id,r,h1,h2,h3,yR (B':=dG (Sound P) c) (fun R R' e s hR hb=>r9 hm hR hb) hQ _ _ _ _ h4⟩
theorem wo {α:Type}:∀{l:List α} {i:Nat} {x:α},l[i]? =some x->(x::l.eraseIdx i).Perm l
 |y::l,0,x,h=>by simp at h;subst h;exact List.Perm.refl _
 |y::l,i+1,x,h=>by
  simp only[List.getElem?_cons_succ]at h
  rw[List.eraseIdx_cons_succ]
  exact(List.Perm.swap _ _ _).trans ((wo h).cons _)
theorem RI {m:MK} {tm:O} {site it nx ok en:Nat} {c:VC} {b b1:Nat} {Q:Ex->Env->au->Prop} {env:Env} {σ:au} {id:Id} {r:Row} (I:List (List AV)->Env->au->Prop) (h1:cK env tm=.map id m) (h2:σ.get id=some r) (h3:r.w=true) (Lh:([nx,ok,en]++xS c).contains it=false)
  (h0:I [] (upd env (some it) (.ptr ⟨site,σ.next⟩ 0 0)) ⟨bJ σ.get id {r with w:=false},σ.next+1⟩)
  (step:∀pre cs rest e s kv vv,(pre++cs::rest).Perm r.rows->I pre e s->gx ([nx,ok,en]++xS c) (upd env (some it) (.ptr ⟨site,σ.next⟩ 0 0)) e->part m.ka m.ks cs=some kv->cs[m.ks]? =some vv->
   dG (Call P) c (aZ b1 (dn (I (pre++[cs])) (aZ b Q))) (upd (upd (upd e (some nx) (.gP [.bool true,kv,vv])) (some ok) (.bool true)) (some en) (.gP [kv,vv])) ⟨s.get,s.next+1⟩)
  (fin:∀pre e s,pre.Perm r.rows->I pre e s->gx ([nx,ok,en]++xS c) (upd env (some it) (.ptr ⟨site,σ.next⟩ 0 0)) e->Q .normal (upd (upd e (some nx) (.gP [.bool false])) (some ok) (.bool false)) ⟨s.get,s.next+1⟩):
  G1 m tm site it nx ok en (dG (Call P) c) b b1 Q env σ:=by
 refine⟨id,r,h1,h2,h3,?_⟩
 have QI:∀e,gx ([nx,ok,en]++xS c) (upd env (some it) (.ptr ⟨site,σ.next⟩ 0 0)) e->e it=.ptr ⟨site,σ.next⟩ 0 0:=fun e h=>by
  rw[h it Lh];simp[upd]
 have key:∀n left pre e s,(pre++left).Perm r.rows->left.length=n->I pre e s->gx ([nx,ok,en]++xS c) (upd env (some it) (.ptr ⟨site,σ.next⟩ 0 0)) e->Cq m it nx ok en ⟨site,σ.next⟩ (dG (Call P) c) b b1 Q n left e s:=by
  intro n
  induction n with
  |zero=>
   intro left pre e s hp hl hI hK
   have:left=[]:=List.eq_nil_of_length_eq_zero hl
   subst this
   rw[List.append_nil]at hp
   exact⟨QI e hK,fin pre e s hp hI hK⟩
  |succ n ih=>
   intro left pre e s hp hl hI hK
   refine⟨QI e hK,fun i cs kv vv hi hk hv=>?_⟩
   have mb:=(List.getElem?_eq_some_iff.1 hi).1
   have Fj:(cs::left.eraseIdx i).Perm left:=by
    exact wo hi
   have IS:(pre++cs::left.eraseIdx i).Perm r.rows:=(Fj.append_left pre).trans hp
   have N1:gx ([nx,ok,en]++xS c) (upd env (some it) (.ptr ⟨site,σ.next⟩ 0 0)) (upd (upd (upd e (some nx) (.gP [.bool true,kv,vv])) (some ok) (.bool true)) (some en) (.gP [kv,vv])):=
    ((hK.upd (fun t h=>by cases h;simp)).upd (fun t h=>by cases h;simp)).upd (fun t h=>by cases h;simp)
   refine jA (fun _ _ _ _ h=>h) aG c _ _ _ _ (fun x e' s' hx=>?_) (yZ c _ _ _ (fun t ht=>List.mem_append_right _ ht) N1 (step pre cs (left.eraseIdx i) e s kv vv IS hI hK hk hv))
   obtain⟨hx,Gj⟩:=hx
   have tJ:I (pre++[cs]) e' s'->Cq m it nx ok en ⟨site,σ.next⟩ (dG (Call P) c) b b1 Q n (left.eraseIdx i) e' s':=fun Ty=>
    ih (left.eraseIdx i) (pre++[cs]) e' s' (by rw[List.append_assoc];exact IS) (by rw[List.length_eraseIdx,if_pos mb];omega) Ty Gj
   cases x with
   |normal=>exact tJ hx
   |ret=>exact hx
   |exit jU=>
    simp only[aZ]at hx ⊢
    split at hx
    ·rename_i h1;rw[if_pos h1];exact tJ hx
    ·rename_i h1;rw[if_neg h1];exact hx
 exact key _ r.rows [] _ _ (List.Perm.refl _) rfl h0 (gx.refl _ _)
end Go.Proofs.YtgoelphibofcmaaGreat.V

namespace Go.Proofs.YtgoelphibofcmaaGreat.V
open Go.RowKit
def Nj:Code->Code
 | .seq a _=>a
 |c=>c
def HG:Code->Code
 | .seq _ b=>b
 |c=>c
def SY:Code->Code
 | .block _ c=>c
 |c=>c
def UN:Code->Code
 | .loop c=>c
 |c=>c
def RY:Code->List Oper
 | .region _ o _=>o.toList
 |_=>[]
def rg2 (k:Code):Code:=Nj (Nj (HG (HG k)))
def UK (k:Code):Code:=HG (Nj (HG (HG k)))
def rgL (k:Code):Code:=UN (SY (UK k))
def OU (k:Code):Code:=HG (HG (rgL k))
def Pu:Oper:={dst:=none,op:=.nilCheck (.tmp 0),type:=0,pos:= "",after:= #[],guard:=none}
def rgP (k:Code):List Oper:=(RY (rg2 k)).dropLast
def rgO (k:Code):Oper:=(RY (rg2 k)).getLastD Pu
def SR (k:Code) (i:Nat):Oper:=(RY (Nj (rgL k))).getD i Pu
def Ry (k:Code):Oper:=(RY (Nj (SY (OU k)))).headD Pu
def Rz (k:Code):List Oper:=(RY (Nj (SY (OU k)))).tail
def rgR (k:Code):Code:=HG (SY (OU k))
def RA (P:Program) (v0 v1:VC) (vA:List aY) (m:MK) (tm:O) (site it nx ok en:Nat) (vE:List aY) (vR:VC) (b b1:Nat) (vT:VC) (Q:Ex->Env->au->Prop):Env->au->Prop:=
 dG (Sound P) v0 (dn (dG (Sound P) v1 (dn (wpOps (Sound P) false vA (G1 m tm site it nx ok en (dG (Sound P) (.seq (.ej false vE) vR)) b b1 (dn (dG (Sound P) vT Q) Q))) Q)) Q)
def OV (P:Program) (v0 v1:VC) (vA:List aY) (m:MK) (tm:O) (site it nx ok en:Nat) (vE:List aY) (vR:VC) (b b1:Nat) (vT:VC) (Q:Ex->Env->au->Prop):Env->au->Prop:=
 dG (Call P) v0 (dn (dG (Call P) v1 (dn (wpOps (Call P) false vA (G1 m tm site it nx ok en (dG (Call P) (.seq (.ej false vE) vR)) b b1 (dn (dG (Call P) vT Q) Q))) Q)) Q)
theorem wK {F F':Env->au->Prop} {Q:Ex->Env->au->Prop} (h:∀e s,F e s->F' e s):∀x e s,dn F Q x e s->dn F' Q x e s:=fun x e s hx=>by
 cases x with
 |normal=>exact h e s hx
 |ret=>exact hx
 |exit id=>exact hx
theorem JM {P:Program} (hm:P.follows .mixedOrders=true) {v0 v1:VC} {vA:List aY} {m:MK} {tm:O} {site it nx ok en:Nat} {vE:List aY} {vR:VC} {b b1:Nat} {vT:VC} {Q:Ex->Env->au->Prop} {env:Env} {σ:au}
  (h:OV P v0 v1 vA m tm site it nx ok en vE vR b b1 vT Q env σ):RA P v0 v1 vA m tm site it nx ok en vE vR b b1 vT Q env σ:=
 r9 hm (wK fun _ _ h=>r9 hm (wK fun _ _ h=>lf (fun _ _ _ _ h=>gj hm h) kJ (fun _ _ h=>G2 hm (wK fun _ _ h=>r9 hm (fun _ _ _ h=>h) h) h) _ _ _ h) h) h
end Go.Proofs.YtgoelphibofcmaaGreat.V

namespace Go.Proofs.YtgoelphibofcmaaGreat.V
open Go.RowKit
noncomputable def oG:Go.Code:=Tryz.f115.body.getD .skip
def EH:VC:=(.ej false [⟨(some 2),(.cR (.k .cC)),none,115000000,[]⟩])
def Kc:VC:=(.ej false [⟨(some 3),(.cR (.k .cC)),none,115001000,[]⟩])
def Kd:List aY:=[⟨(some 7),(.cR (.t 0)),none,115002000,[]⟩,⟨(some 8),(.AI (.t 7)),none,115002001,[]⟩,⟨(some 9),(.fR 4 (.t 8)),none,115002002,[]⟩,⟨(some 10),(.load false 1 (.t 9)),none,115002003,[]⟩]
def Av:List aY:=[⟨(some 15),(.extract 0 (.t 14)),none,115004001,[]⟩,⟨(some 4),(.new [(.int .i64 0),(.int .i64 0)]),none,115004002,[]⟩,⟨none,(.store 2 (.t 4) (.t 15)),none,115004003,[]⟩]
def Aw:VC:=(.seq (.ej false [⟨(some 16),(.cR (.t 3)),none,115005000,[]⟩,⟨(some 17),(.load true 2 (.t 4)),none,115005001,[]⟩,⟨(some 18),(.kM 2 1 [(.t 17)]),none,115005002,[]⟩,⟨(some 19),(.append 2 (.t 16) (.t 18)),none,115005003,[]⟩,⟨(some 3),(.cR (.t 19)),none,115005004,[]⟩]) (.seq (.ej false [⟨(some 20),(.cR (.k (.int .i64 0))),none,115006000,[]⟩]) (.block 2 (.loop (.seq (.ej false [⟨(some 21),(.bin .lss .i64 (.t 20) (.k (.int .i64 4))),none,115007000,[]⟩]) (.seq (.cond (.t 21) .skip (.exit 2)) (.seq (.block 3 (.seq (.ej false [⟨(some 22),(.cR (.t 20)),none,115008000,[]⟩,⟨(some 5),(.cR (.t 22)),none,115008001,[]⟩]) (.seq (.ej false [⟨(some 23),(.load true 2 (.t 4)),none,115009000,[]⟩,⟨(some 24),(.cR (.t 5)),none,115009001,[]⟩,⟨(some 25),(.call 149 [(.t 23),(.t 24)]),none,115009002,[]⟩,⟨(some 6),(.new [(.int .i64 0),(.int .i64 0)]),none,115009003,[]⟩,⟨none,(.store 2 (.t 6) (.t 25)),none,115009004,[]⟩]) (.seq (.ej false [⟨(some 26),(.load true 2 (.t 6)),none,115010000,[]⟩,⟨(some 27),(.call 140 [(.t 26)]),none,115010001,[]⟩]) (.cond (.t 27) (.ej false [⟨(some 28),(.cR (.t 3)),none,115011000,[]⟩,⟨(some 29),(.load true 2 (.t 6)),none,115011001,[]⟩,⟨(some 30),(.kM 2 1 [(.t 29)]),none,115011002,[]⟩,⟨(some 31),(.append 2 (.t 28) (.t 30)),none,115011003,[]⟩,⟨(some 3),(.cR (.t 31)),none,115011004,[]⟩]) .skip))))) (.ej false [⟨(some 32),(.bin .add .i64 (.t 20) (.k (.int .i64 1))),none,115012000,[]⟩,⟨(some 20),(.cR (.t 32)),none,115012001,[]⟩]))))))))
def Ax:VC:=(.seq (.ej false [⟨(some 33),(.cR (.t 3)),none,115013000,[]⟩,⟨(some 34),(.call 172 [(.t 33)]),none,115013001,[]⟩,⟨(some 2),(.cR (.t 34)),none,115013002,[]⟩]) .ret)
def Az:List nI:=[(.tmp 2)]
def EA:O:=(.t 10)
theorem OM:HS Tryz.prog [] Tryz.f115.ntmps 115 115004000 11 12 13 14 (SR oG 0) (SR oG 1) (Ry oG) (Rz oG) (rgR oG) Av Aw:=⟨by kernel_rfl,by kernel_rfl,by kernel_rfl,by kernel_rfl,by kernel_rfl,by kernel_rfl,by kernel_rfl,by kernel_rfl,by kernel_rfl,by decide,by decide,by decide,by decide,by decide,by kernel_rfl,by kernel_rfl⟩
theorem OY:oG=.seq (Nj oG) (.seq (Nj (HG oG)) (.seq (.seq (.region 2 (rgP oG++[rgO oG]).toArray false) (.block 0 (.loop (JL 3 4 0 1 13 (SR oG 0) (SR oG 1) (Ry oG) (Rz oG) (rgR oG))))) (HG (HG (HG oG))))):=by kernel_rfl
theorem NC (m:MK):CS Tryz.prog Tryz.f115.ntmps oG (RA Tryz.prog EH Kc Kd m EA 115002999 11 12 13 14 Av Aw 0 1 Ax):=by
 rw[OY]
 exact CS.seq (CS.code (md:=[]) (fid:=115) mixed (by kernel_rfl)) (CS.seq (CS.code (md:=[]) (fid:=115) mixed (by kernel_rfl)) (CS.seq (CS.rng (tm:=.tmp 10) (sA:=115002000) (t:=107) (k:=50) (e:=2) mixed OM (by kernel_rfl) (by kernel_rfl) (by kernel_rfl) (by decide) (by kernel_rfl) (by kernel_rfl) (by kernel_rfl)) (CS.code (md:=[]) (fid:=115) mixed (by kernel_rfl))))
theorem OT {args:List AV} {σ:au} {K:AV->au->Prop} (ha:args.length=Tryz.f115.params.size) (m:MK) (h:OV Tryz.prog EH Kc Kd m EA 115002999 11 12 13 14 Av Aw 0 1 Ax (ku Az K) (cw args) σ):Call Tryz.prog 115 args σ K:=
 CS.fn Tryz.func115 (by kernel_rfl) (by kernel_rfl) ha.symm (by decide) (NC m) (JM mixed h)
end Go.Proofs.YtgoelphibofcmaaGreat.V

namespace Go.Proofs.YtgoelphibofcmaaGreat.V
open Go.RowKit
attribute [local irreducible] dG wpOps gz Call
attribute [local go_sem] aL fU eV gw gr cK upd cw K.av cU AV.cells AV.cell rowOf rowsOf part ld rowAt bJ cr dK ep iC bR dj eF gq fh dz ew dh de ec ee bV bh cX bU cZ cY eu ez ev cW cj di er bS aQ db cG iA bz cN bW aX dn aZ dL AV.undef bG bK ef eo dW ea cJ eE eH cD eB eA da dc List.getD_cons_zero List.getD_cons_succ List.getD_nil List.all_cons List.all_nil Bool.and_true Bool.true_and Bool.and_self Bool.not_true Bool.not_false Option.map_some Option.map_none Option.bind_some Option.bind_none List.length_cons List.length_nil List.take_succ_cons List.take_zero List.take_nil List.drop_succ_cons List.drop_zero List.drop_nil List.head?_cons List.map_cons List.map_nil List.getElem?_cons_zero List.getElem?_cons_succ List.cons_append List.nil_append List.append_nil List.length_map List.set_cons_zero List.set_cons_succ Nat.reduceMul eq_self Int.toNat_natCast Int.natCast_nonneg and_self true_and and_true decide_true decide_false Bool.false_eq_true Nat.zero_add Nat.add_zero List.contains_cons List.contains_nil Bool.or_false Bool.false_or beq_self_eq_true Nat.reduceBEq ne_eq not_true_eq_false not_false_eq_true Id.mk.injEq false_and and_false Nat.reduceLT Int.reduceLE Int.reduceLT Int.reduceToNat Int.reduceNeg Int.reduceAdd Nat.le_refl List.length_append beq_true beq_false Bool.not_eq_eq_eq_not or_false false_or dX ai aq aH bj bE cu aW br aU bp cV bP
def gC (p:ar):Nat->List ar
 |0=>[p]
 |d+1=>if qH (cq p (d:Nat))=true then gC p d++[cq p (d:Nat)]else gC p d
def kK (l:List ah):List ar:=l.flatMap fun t=>gC t.aO 4
theorem l5 (p:ar):∀d,0<(gC p d).length/\(gC p d).length<=d+1
 |0=>by simp[gC]
 |d+1=>by
  have:=l5 p d
  rw[gC]
  split<;>(try simp)<;>omega
theorem B5 (p x:ar):∀d,x∈gC p d↔x=p∨∃k:Nat,k<d/\x=cq p k/\qH x=true
 |0=>by simp[gC]
 |d+1=>by
  have ih:=B5 p x d
  rw[gC]
  split
  ·rename_i h
   rw[List.mem_append,ih,List.mem_singleton]
   constructor
   ·rintro((h1|⟨k,h1,h2⟩)|rfl)
    ·exact .inl h1
    ·exact .inr ⟨k,by omega,h2⟩
    ·exact .inr ⟨d,by omega,rfl,h⟩
   ·rintro(h1|⟨k,h1,h2,h3⟩)
    ·exact .inl (.inl h1)
    ·by_cases hk:k=d
     ·subst hk;exact .inr h2
     ·exact .inl (.inr ⟨k,by omega,h2,h3⟩)
  ·rename_i h
   rw[ih]
   constructor
   ·rintro(h1|⟨k,h1,h2⟩)
    ·exact .inl h1
    ·exact .inr ⟨k,by omega,h2⟩
   ·rintro(h1|⟨k,h1,h2,h3⟩)
    ·exact .inl h1
    ·by_cases hk:k=d
     ·subst hk;rw[h2]at h3;exact absurd h3 h
     ·exact .inr ⟨k,by omega,h2,h3⟩
theorem rH {l:List ah} {x:ar}:x∈kK l↔∃t∈l,x=t.aO∨∃k:Nat,k<4/\x=cq t.aO k/\qH x=true:=by
 unfold kK
 rw[List.mem_flatMap]
 simp only[B5]
theorem qS (l:List ah) (t:ah):kK (l++[t])=kK l++gC t.aO 4:=by simp[kK]
theorem ui:∀l:List ah,(kK l).length<=l.length*5
 |[]=>by simp[kK]
 |t::l=>by
  have h:=ui l
  have h2:=(l5 t.aO 4).2
  unfold kK at *
  rw[List.flatMap_cons,List.length_append,List.length_cons]
  omega
theorem tk {a b:ah} (h:ad a=ad b):a=b:=by
 cases a with|mk p t=>cases b with|mk p' t'=>cases p;cases p';simp[ad]at h;simp[h]
theorem zT {l:List ah} {ts:List ah} (h:(l.map ad).Perm (ts.map ad)) (x:ah):x∈l↔x∈ts:=by
 have h2:ad x∈l.map ad↔ad x∈ts.map ad:=h.mem_iff
 constructor
 ·intro hx
  obtain⟨y,hy,e⟩:=List.mem_map.1 (h2.1 (List.mem_map_of_mem hx))
  rw[<-tk e];exact hy
 ·intro hx
  obtain⟨y,hy,e⟩:=List.mem_map.1 (h2.2 (List.mem_map_of_mem hx))
  rw[<-tk e];exact hy
def ArI (σ:au) (T:Id) (ts:List ah) (pre:List (List AV)) (e0:Env) (s0:au):Prop:=
 ∃l':List ah,pre=l'.map ad/\((l'=[]/\e0 3=.cC)∨∃o:Id,e0 3=.own o 0 (kK l').length/\s0.get o=some ⟨true,2,(kK l').map aa⟩/\σ.next<=o.bq/\o.bq<s0.next)/\σ.next<=s0.next/\(∀x:Id,x.bq<σ.next->x≠T->s0.get x=σ.get x)/\s0.get T=some ⟨false,mP.nS,ts.map ad⟩
theorem HW {σ:au} {c T O:Id} {s:aM} {ts:List ah} (h:p7 σ.get σ.next c T O s ts) (hF:iW ts) (h0:ts≠[]) (qs:List ar) (hR:lZ qs) (hm:∀x,x∈qs↔x∈kK ts):
  Call Tryz.prog 115 [.ptr c 0 0] σ (fun r σ'=>∃(o:Id) (X:List ar),r=.own o 0 qs.length/\σ'.get o=some ⟨true,2,(qs++X).map aa⟩/\σ.next<=o.bq/\o.bq<σ'.next/\σ.next<=σ'.next/\(∀x:Id,x.bq<σ.next->x≠T->σ'.get x=σ.get x)/\σ'.get T=some ⟨false,mP.nS,ts.map ad⟩):=by
 refine OT rfl mP ?_
 have fy:=h.row
 have I4:=h.tl
 have v1:=dq h.cv
 have v2:=dq h.tv
 unfold OV
 rw[EH]
 (try((repeat(revert hN;revert N;apply Pn.out));refine wk @fy ?_;(repeat(refine Pn.mk ?_;intro N hN))))
 have hTw:((⟨115002999,σ.next+1+1+1⟩:Id)=T)=False:=eq_false fun e=>by have:=h.tv;rw[<-e]at this;(try dsimp only at this);omega
 refine CH (RI (id:=T) (r:=⟨true,mP.nS,ts.map ad⟩) (ArI σ T ts) (sd @EA.eq_1) (sd (tw @I4 @v2)) rfl (by decide) ?_ ?_ ?_)
 ·exact⟨[],rfl,.inl ⟨rfl,sd @Nat.zero_add⟩,by(try dsimp only);omega,fun x hx hT=>by
   have h1:=dq hx
   have h2:=eq_false hT
   simp only[go_sem, ↓reduceIte,Nat.reduceEqDiff,Nat.reduceAdd,Nat.reduceSub,Nat.reduceLeDiff,reduceCtorEq,h1,h2],sd @Nat.zero_add⟩
 ·rintro pre cs rest e0 s0 kv vv hp ⟨l',rfl,hout,HA,kq,hT⟩ hK hpart hvv
  have sJ:cs∈ts.map ad:=hp.subset (by simp)
  obtain⟨tl,hx,rfl⟩:=List.mem_map.1 sJ
  have hlen:=hp.length_eq
  simp only[List.length_append,List.length_map,List.length_cons]at hlen
  have Bv:=hF.w8
  have Ku:=ui l'
  have Ls:qH tl.aO=true:=by
   obtain⟨i,hi,rfl⟩:=List.getElem_of_mem hx
   have:=hF.pt hi
   rwa [iw hi]at this
  obtain⟨hxx,M3⟩:=nk Ls
  simp[part,ad,MK.ks]at hpart hvv
  subst hpart hvv
  rw[Av,Aw]
  have Sh:=h.tv
  have vT:=dq (i:=T) (n:=s0.next) (by omega)
  clear hp sJ hK
  rcases hout with⟨BA,e3⟩|⟨o,e3,og,on,ov⟩
  ·have xe:(kK l'++gC tl.aO 0).length=1:=by rw[BA];rfl
   have kh:(kK l'++gC tl.aO 0).map aa=[aa tl.aO]:=by rw[BA];rfl
   (try((repeat(revert hN;revert N;apply Pn.out));refine wk (tw @e3 @aa.eq_1) ?_;(repeat(refine Pn.mk ?_;intro N hN))))
   refine aI (fun n env st=>∃d:Nat,n=(4)-d/\d<=(4)/\env 20=.int .i64 (d:Int)/\st.get ⟨115004002,s0.next+1⟩=some ⟨true,2,[aa tl.aO]⟩/\((∃u:Id,env 3=.own u 0 (kK l'++gC tl.aO d).length/\st.get u=some ⟨true,2,(kK l'++gC tl.aO d).map aa⟩/\s0.next+2<=u.bq/\u.bq<st.next)/\s0.next+3<=st.next/\(∀y:Id,y.bq<σ.next->y≠T->st.get y=σ.get y)/\st.get T=some ⟨false,mP.nS,ts.map ad⟩)) (4) ⟨0,by omega,by omega,sl @aa.eq_1,sl @aa.eq_1,by(try dsimp only);exact⟨⟨⟨115005003,s0.next+1+1⟩,sd @xe,sd (tw @kh @aa.eq_1),by(try dsimp only);omega,by(try dsimp only);omega⟩,by omega,fun y hy Gr=>by
    have h1:=dq (i:=y) (n:=s0.next) (by omega)
    have h2:=kq y hy Gr
    simp only[go_sem, ↓reduceIte,Nat.reduceEqDiff,Nat.reduceAdd,Nat.reduceSub,Nat.reduceLeDiff,reduceCtorEq,h1,h2],sd (tw @vT @hT)⟩⟩ ?_
   rintro n_b env_b st_b ⟨d,rfl,ble,pR,bg0,bI0⟩ eS
   have b4:=eS 4 (by kernel_rfl)
   simp only[go_sem, ↓reduceIte,Nat.reduceEqDiff,Nat.reduceAdd,Nat.reduceSub,Nat.reduceLeDiff,reduceCtorEq,aa]at b4
   clear eS
   obtain⟨⟨u,b3,bu,bun,Qg⟩,bn,eS,bT⟩:=bI0
   have CO:(kK l'++gC tl.aO d).length<=16777215:=by
    have:=(l5 tl.aO d).2
    rw[List.length_append];omega
   obtain⟨L,hL⟩:∃L,kK l'++gC tl.aO d=L:=⟨_,rfl⟩
   rw[hL]at b3 bu CO
   have Od:=(l5 tl.aO d).2
   have RH:=dq (i:=T) (n:=st_b.next) (by omega)
   have Kg:=dq Qg
   have uG:=dq (i:=⟨115004002,s0.next+1⟩) (n:=st_b.next) (by(try dsimp only);omega)
   by_cases hd:(d:Int)<4
   ·have eR:∀{e:Env} {gg:Rows} {nx:Nat},(e 20=.int .i64 (IntKind.i64.wrap ((d:Int)+1)))->(gg ⟨115004002,s0.next+1⟩=some ⟨true,2,[aa tl.aO]⟩)->((∃u:Id,e 3=.own u 0 (kK l'++gC tl.aO (d+1)).length/\gg u=some ⟨true,2,(kK l'++gC tl.aO (d+1)).map aa⟩/\s0.next+2<=u.bq/\u.bq<nx)/\s0.next+3<=nx/\(∀y:Id,y.bq<σ.next->y≠T->gg y=σ.get y)/\gg T=some ⟨false,mP.nS,ts.map ad⟩)->∃m0,m0<(4)-d/\∃d:Nat,m0=(4)-d/\d<=(4)/\e 20=.int .i64 (d:Int)/\gg ⟨115004002,s0.next+1⟩=some ⟨true,2,[aa tl.aO]⟩/\((∃u:Id,e 3=.own u 0 (kK l'++gC tl.aO d).length/\gg u=some ⟨true,2,(kK l'++gC tl.aO d).map aa⟩/\s0.next+2<=u.bq/\u.bq<nx)/\s0.next+3<=nx/\(∀y:Id,y.bq<σ.next->y≠T->gg y=σ.get y)/\gg T=some ⟨false,mP.nS,ts.map ad⟩):=fun x1 x2 x3=>⟨_,by omega,d+1,rfl,by omega,(by rw[x1,aA (by omega)]),x2,x3⟩
    have dB:=wN tl.aO d (js (by omega)) hxx M3
    have si:=jj (cq tl.aO d)
    have DG:(L.map aa).length=L.length:=by simp
    cases hpd:qH (cq tl.aO d)
    ·rw[hpd]at si
     have jf:kK l'++gC tl.aO (d+1)=L:=by rw[gC,hpd];exact hL
     (repeat(first|((repeat(revert hN;revert N;apply Pn.out));refine wk (tw @pR (tw @bg0 (tw @b4 (tw @b3 (tw @hd (tw @uG @aa.eq_1)))))) ?_;(repeat(refine Pn.mk ?_;intro N hN)))|((try apply Or.inl);refine⟨_,aj.x (dB) (sd (tw @pR (tw @bg0 (tw @b4 (tw @b3 (tw @hd (tw @uG @aa.eq_1))))))),?_⟩;refine hN _ _ ?_;clear hN N)|((try apply Or.inl);refine⟨_,aj.x (si) (sd (tw @pR (tw @bg0 (tw @b4 (tw @b3 (tw @hd (tw @uG @aa.eq_1))))))),?_⟩;refine hN _ _ ?_;clear hN N)))
     refine eR ?_ ?_ (by(try dsimp only);exact⟨⟨u,by rw[jf];simp only[go_sem, ↓reduceIte,Nat.reduceEqDiff,Nat.reduceAdd,Nat.reduceSub,Nat.reduceLeDiff,reduceCtorEq,b3],by rw[jf];simp only[go_sem, ↓reduceIte,Nat.reduceEqDiff,Nat.reduceAdd,Nat.reduceSub,Nat.reduceLeDiff,reduceCtorEq,bu,Kg],by omega,by omega⟩,by omega,fun y hy Gr=>by
      have h1:=dq (i:=y) (n:=st_b.next) (by omega)
      have h2:=eS y hy Gr
      simp only[go_sem, ↓reduceIte,Nat.reduceEqDiff,Nat.reduceAdd,Nat.reduceSub,Nat.reduceLeDiff,reduceCtorEq,h1,h2],sd (tw @RH @bT)⟩)
     all_goals simp only[go_sem, ↓reduceIte,Nat.reduceEqDiff,Nat.reduceAdd,Nat.reduceSub,Nat.reduceLeDiff,reduceCtorEq,pR,bg0,b4,uG,aa]
    ·rw[hpd]at si
     have jf:kK l'++gC tl.aO (d+1)=L++[cq tl.aO d]:=by rw[gC,hpd,if_pos rfl,<-hL,List.append_assoc]
     have BD:(L++[cq tl.aO d]).length=L.length+1:=by rw[List.length_append];rfl
     have yl:(L++[cq tl.aO d]).map aa=L.map aa++[aa (cq tl.aO d)]:=by simp
     have uT:=cP (a:=T) (b:=u) (by omega)
     have ux:=cP (a:=⟨115004002,s0.next+1⟩) (b:=u) (by(try dsimp only);omega)
     (repeat(first|((repeat(revert hN;revert N;apply Pn.out));refine wk (tw @pR (tw @bg0 (tw @b4 (tw @b3 (tw @bu (tw @hd (tw @Kg (tw @uG (tw @ux (tw @DG (tw @CO @aa.eq_1))))))))))) ?_;(repeat(refine Pn.mk ?_;intro N hN)))|((try apply Or.inl);refine⟨_,aj.x (dB) (sd (tw @pR (tw @bg0 (tw @b4 (tw @b3 (tw @bu (tw @hd (tw @Kg (tw @uG (tw @ux (tw @DG (tw @CO @aa.eq_1)))))))))))),?_⟩;refine hN _ _ ?_;clear hN N)|((try apply Or.inl);refine⟨_,aj.x (si) (sd (tw @pR (tw @bg0 (tw @b4 (tw @b3 (tw @bu (tw @hd (tw @Kg (tw @uG (tw @ux (tw @DG (tw @CO @aa.eq_1)))))))))))),?_⟩;refine hN _ _ ?_;clear hN N)))
     refine eR ?_ ?_ (by(try dsimp only);exact⟨⟨⟨115011003,st_b.next+1+1+1+1⟩,by rw[jf,BD];simp only[go_sem, ↓reduceIte,Nat.reduceEqDiff,Nat.reduceAdd,Nat.reduceSub,Nat.reduceLeDiff,reduceCtorEq],by rw[jf,yl];simp only[go_sem, ↓reduceIte,Nat.reduceEqDiff,Nat.reduceAdd,Nat.reduceSub,Nat.reduceLeDiff,reduceCtorEq,aa],by(try dsimp only);omega,by(try dsimp only);omega⟩,by omega,fun y hy Gr=>by
      have h1:=dq (i:=y) (n:=st_b.next) (by omega)
      have h2:=eS y hy Gr
      have h3:=cP (a:=y) (b:=u) (by omega)
      simp only[go_sem, ↓reduceIte,Nat.reduceEqDiff,Nat.reduceAdd,Nat.reduceSub,Nat.reduceLeDiff,reduceCtorEq,h1,h2,h3],sd (tw @RH (tw @uT @bT))⟩)
     all_goals simp only[go_sem, ↓reduceIte,Nat.reduceEqDiff,Nat.reduceAdd,Nat.reduceSub,Nat.reduceLeDiff,reduceCtorEq,pR,bg0,b4,uG,ux,aa]
   ·have IF:d=4:=by omega
    subst IF
    (try((repeat(revert hN;revert N;apply Pn.out));refine wk (tw @pR (tw @bg0 (tw @b4 @hd))) ?_;(repeat(refine Pn.mk ?_;intro N hN))))
    exact⟨l'++[tl],by rw[List.map_append];rfl,.inr ⟨u,by rw[qS,hL];simp only[go_sem, ↓reduceIte,Nat.reduceEqDiff,Nat.reduceAdd,Nat.reduceSub,Nat.reduceLeDiff,reduceCtorEq,b3],by rw[qS,hL];exact bu,by omega,by(try dsimp only);omega⟩,by(try dsimp only);omega,eS,bT⟩
  ·have vo:=dq ov
   have oT:=cP (a:=T) (b:=o) (by omega)
   have pa:((kK l').map aa).length=(kK l').length:=by simp
   have xe:(kK l'++gC tl.aO 0).length=(kK l').length+1:=by simp[gC]
   have kh:(kK l'++gC tl.aO 0).map aa=(kK l').map aa++[aa tl.aO]:=by simp[gC]
   have e1:(kK l').length<=16777215:=by omega
   have xo:=cP (a:=o) (b:=⟨115004002,s0.next+1⟩) (by(try dsimp only);omega)
   (try((repeat(revert hN;revert N;apply Pn.out));refine wk (tw @e3 (tw @og (tw @vo (tw @pa (tw @e1 @aa.eq_1))))) ?_;(repeat(refine Pn.mk ?_;intro N hN))))
   refine aI (fun n env st=>∃d:Nat,n=(4)-d/\d<=(4)/\env 20=.int .i64 (d:Int)/\st.get ⟨115004002,s0.next+1⟩=some ⟨true,2,[aa tl.aO]⟩/\((∃u:Id,env 3=.own u 0 (kK l'++gC tl.aO d).length/\st.get u=some ⟨true,2,(kK l'++gC tl.aO d).map aa⟩/\s0.next+2<=u.bq/\u.bq<st.next)/\s0.next+3<=st.next/\(∀y:Id,y.bq<σ.next->y≠T->st.get y=σ.get y)/\st.get T=some ⟨false,mP.nS,ts.map ad⟩)) (4) ⟨0,by omega,by omega,sl (tw @aa.eq_1 @xo),sl (tw @aa.eq_1 @xo),by(try dsimp only);exact⟨⟨⟨115005003,s0.next+1+1⟩,sd @xe,sd (tw @kh @aa.eq_1),by(try dsimp only);omega,by(try dsimp only);omega⟩,by omega,fun y hy Gr=>by
    have h1:=dq (i:=y) (n:=s0.next) (by omega)
    have h2:=kq y hy Gr
    have h3:=cP (a:=y) (b:=o) (by omega)
    simp only[go_sem, ↓reduceIte,Nat.reduceEqDiff,Nat.reduceAdd,Nat.reduceSub,Nat.reduceLeDiff,reduceCtorEq,h1,h2,h3],sd (tw @vT (tw @hT @oT))⟩⟩ ?_
   rintro n_b env_b st_b ⟨d,rfl,ble,pR,bg0,bI0⟩ eS
   have b4:=eS 4 (by kernel_rfl)
   simp only[go_sem, ↓reduceIte,Nat.reduceEqDiff,Nat.reduceAdd,Nat.reduceSub,Nat.reduceLeDiff,reduceCtorEq,aa,xo]at b4
   clear eS
   obtain⟨⟨u,b3,bu,bun,Qg⟩,bn,eS,bT⟩:=bI0
   have CO:(kK l'++gC tl.aO d).length<=16777215:=by
    have:=(l5 tl.aO d).2
    rw[List.length_append];omega
   obtain⟨L,hL⟩:∃L,kK l'++gC tl.aO d=L:=⟨_,rfl⟩
   rw[hL]at b3 bu CO
   have Od:=(l5 tl.aO d).2
   have RH:=dq (i:=T) (n:=st_b.next) (by omega)
   have Kg:=dq Qg
   have uG:=dq (i:=⟨115004002,s0.next+1⟩) (n:=st_b.next) (by(try dsimp only);omega)
   by_cases hd:(d:Int)<4
   ·have eR:∀{e:Env} {gg:Rows} {nx:Nat},(e 20=.int .i64 (IntKind.i64.wrap ((d:Int)+1)))->(gg ⟨115004002,s0.next+1⟩=some ⟨true,2,[aa tl.aO]⟩)->((∃u:Id,e 3=.own u 0 (kK l'++gC tl.aO (d+1)).length/\gg u=some ⟨true,2,(kK l'++gC tl.aO (d+1)).map aa⟩/\s0.next+2<=u.bq/\u.bq<nx)/\s0.next+3<=nx/\(∀y:Id,y.bq<σ.next->y≠T->gg y=σ.get y)/\gg T=some ⟨false,mP.nS,ts.map ad⟩)->∃m0,m0<(4)-d/\∃d:Nat,m0=(4)-d/\d<=(4)/\e 20=.int .i64 (d:Int)/\gg ⟨115004002,s0.next+1⟩=some ⟨true,2,[aa tl.aO]⟩/\((∃u:Id,e 3=.own u 0 (kK l'++gC tl.aO d).length/\gg u=some ⟨true,2,(kK l'++gC tl.aO d).map aa⟩/\s0.next+2<=u.bq/\u.bq<nx)/\s0.next+3<=nx/\(∀y:Id,y.bq<σ.next->y≠T->gg y=σ.get y)/\gg T=some ⟨false,mP.nS,ts.map ad⟩):=fun x1 x2 x3=>⟨_,by omega,d+1,rfl,by omega,(by rw[x1,aA (by omega)]),x2,x3⟩
    have dB:=wN tl.aO d (js (by omega)) hxx M3
    have si:=jj (cq tl.aO d)
    have DG:(L.map aa).length=L.length:=by simp
    cases hpd:qH (cq tl.aO d)
    ·rw[hpd]at si
     have jf:kK l'++gC tl.aO (d+1)=L:=by rw[gC,hpd];exact hL
     (repeat(first|((repeat(revert hN;revert N;apply Pn.out));refine wk (tw @pR (tw @bg0 (tw @b4 (tw @b3 (tw @hd (tw @uG @aa.eq_1)))))) ?_;(repeat(refine Pn.mk ?_;intro N hN)))|((try apply Or.inl);refine⟨_,aj.x (dB) (sd (tw @pR (tw @bg0 (tw @b4 (tw @b3 (tw @hd (tw @uG @aa.eq_1))))))),?_⟩;refine hN _ _ ?_;clear hN N)|((try apply Or.inl);refine⟨_,aj.x (si) (sd (tw @pR (tw @bg0 (tw @b4 (tw @b3 (tw @hd (tw @uG @aa.eq_1))))))),?_⟩;refine hN _ _ ?_;clear hN N)))
     refine eR ?_ ?_ (by(try dsimp only);exact⟨⟨u,by rw[jf];simp only[go_sem, ↓reduceIte,Nat.reduceEqDiff,Nat.reduceAdd,Nat.reduceSub,Nat.reduceLeDiff,reduceCtorEq,b3],by rw[jf];simp only[go_sem, ↓reduceIte,Nat.reduceEqDiff,Nat.reduceAdd,Nat.reduceSub,Nat.reduceLeDiff,reduceCtorEq,bu,Kg],by omega,by omega⟩,by omega,fun y hy Gr=>by
      have h1:=dq (i:=y) (n:=st_b.next) (by omega)
      have h2:=eS y hy Gr
      simp only[go_sem, ↓reduceIte,Nat.reduceEqDiff,Nat.reduceAdd,Nat.reduceSub,Nat.reduceLeDiff,reduceCtorEq,h1,h2],sd (tw @RH @bT)⟩)
     all_goals simp only[go_sem, ↓reduceIte,Nat.reduceEqDiff,Nat.reduceAdd,Nat.reduceSub,Nat.reduceLeDiff,reduceCtorEq,pR,bg0,b4,uG,aa]
    ·rw[hpd]at si
     have jf:kK l'++gC tl.aO (d+1)=L++[cq tl.aO d]:=by rw[gC,hpd,if_pos rfl,<-hL,List.append_assoc]
     have BD:(L++[cq tl.aO d]).length=L.length+1:=by rw[List.length_append];rfl
     have yl:(L++[cq tl.aO d]).map aa=L.map aa++[aa (cq tl.aO d)]:=by simp
     have uT:=cP (a:=T) (b:=u) (by omega)
     have ux:=cP (a:=⟨115004002,s0.next+1⟩) (b:=u) (by(try dsimp only);omega)
     (repeat(first|((repeat(revert hN;revert N;apply Pn.out));refine wk (tw @pR (tw @bg0 (tw @b4 (tw @b3 (tw @bu (tw @hd (tw @Kg (tw @uG (tw @ux (tw @DG (tw @CO @aa.eq_1))))))))))) ?_;(repeat(refine Pn.mk ?_;intro N hN)))|((try apply Or.inl);refine⟨_,aj.x (dB) (sd (tw @pR (tw @bg0 (tw @b4 (tw @b3 (tw @bu (tw @hd (tw @Kg (tw @uG (tw @ux (tw @DG (tw @CO @aa.eq_1)))))))))))),?_⟩;refine hN _ _ ?_;clear hN N)|((try apply Or.inl);refine⟨_,aj.x (si) (sd (tw @pR (tw @bg0 (tw @b4 (tw @b3 (tw @bu (tw @hd (tw @Kg (tw @uG (tw @ux (tw @DG (tw @CO @aa.eq_1)))))))))))),?_⟩;refine hN _ _ ?_;clear hN N)))
     refine eR ?_ ?_ (by(try dsimp only);exact⟨⟨⟨115011003,st_b.next+1+1+1+1⟩,by rw[jf,BD];simp only[go_sem, ↓reduceIte,Nat.reduceEqDiff,Nat.reduceAdd,Nat.reduceSub,Nat.reduceLeDiff,reduceCtorEq],by rw[jf,yl];simp only[go_sem, ↓reduceIte,Nat.reduceEqDiff,Nat.reduceAdd,Nat.reduceSub,Nat.reduceLeDiff,reduceCtorEq,aa],by(try dsimp only);omega,by(try dsimp only);omega⟩,by omega,fun y hy Gr=>by
      have h1:=dq (i:=y) (n:=st_b.next) (by omega)
      have h2:=eS y hy Gr
      have h3:=cP (a:=y) (b:=u) (by omega)
      simp only[go_sem, ↓reduceIte,Nat.reduceEqDiff,Nat.reduceAdd,Nat.reduceSub,Nat.reduceLeDiff,reduceCtorEq,h1,h2,h3],sd (tw @RH (tw @uT @bT))⟩)
     all_goals simp only[go_sem, ↓reduceIte,Nat.reduceEqDiff,Nat.reduceAdd,Nat.reduceSub,Nat.reduceLeDiff,reduceCtorEq,pR,bg0,b4,uG,ux,aa]
   ·have IF:d=4:=by omega
    subst IF
    (try((repeat(revert hN;revert N;apply Pn.out));refine wk (tw @pR (tw @bg0 (tw @b4 @hd))) ?_;(repeat(refine Pn.mk ?_;intro N hN))))
    exact⟨l'++[tl],by rw[List.map_append];rfl,.inr ⟨u,by rw[qS,hL];simp only[go_sem, ↓reduceIte,Nat.reduceEqDiff,Nat.reduceAdd,Nat.reduceSub,Nat.reduceLeDiff,reduceCtorEq,b3],by rw[qS,hL];exact bu,by omega,by(try dsimp only);omega⟩,by(try dsimp only);omega,eS,bT⟩
 ·rintro pre e0 s0 hp ⟨l',rfl,hout,HA,kq,hT⟩ hK
  clear hK
  have KD:=zT hp
  have QW:=hp.length_eq
  simp only[List.length_map]at QW
  have Bv:=hF.w8
  rcases hout with⟨BA,e3⟩|⟨o,e3,og,on,ov⟩
  ·exfalso
   subst BA
   exact h0 (List.eq_nil_of_length_eq_zero QW.symm)
  have hq:∀x,x∈qs↔x∈kK l':=fun x=>by
   rw[hm,rH,rH]
   constructor<;>(rintro⟨t,ht,h⟩;exact⟨t,by first|exact(KD t).1 ht|exact(KD t).2 ht,h⟩)
  have PO:kK l'≠[]:=by
   intro e
   cases l' with
   |nil=>exact h0 (List.eq_nil_of_length_eq_zero QW.symm)
   |cons t r=>
    have:t.aO∈kK (t::r):=rH.2 ⟨t,by simp,.inl rfl⟩
    rw[e]at this;cases this
  have Ku:=ui l'
  (try((repeat(revert hN;revert N;apply Pn.out));refine wk (tw @Ax.eq_1 (tw @Az.eq_1 @e3)) ?_;(repeat(refine Pn.mk ?_;intro N hN))))
  refine .inr (aG _ _ _ _ _ (fun r σ1 hq=>?_) (xL (kK l') qs (by omega) PO hR hq ⟨s0.get,_⟩ o (by(try dsimp only);omega) og))
  obtain⟨g1,x1⟩:=σ1
  obtain⟨o2,X,rfl,q1,q2,q3,q4⟩:=hq
  (try dsimp only at q1 q2 q3 q4)
  refine hN _ _ ?_
  clear hN N
  (try((repeat(revert hN;revert N;apply Pn.out));refine wk (tw @Ax.eq_1 @Az.eq_1) ?_;(repeat(refine Pn.mk ?_;intro N hN))))
  exact fc (.inl rfl) (vs:=[.own o2 0 qs.length]) (by rw[Az];simp only[fm,ig,go_sem, ↓reduceIte,Nat.reduceEqDiff,Nat.reduceAdd,Nat.reduceSub,Nat.reduceLeDiff,reduceCtorEq]) ⟨o2,X,rfl,q1,by omega,by(try dsimp only);omega,by(try dsimp only);omega,fun y hy Gr=>(q4 y (by omega)).trans (kq y hy Gr),(q4 T (by have:=h.tv;omega)).trans hT⟩
end Go.Proofs.YtgoelphibofcmaaGreat.V

namespace Go.Proofs.YtgoelphibofcmaaGreat.V
open Go.RowKit
attribute [local irreducible] dG wpOps gz Call
attribute [local go_sem] aL fU eV gw gr cK upd cw K.av cU AV.cells AV.cell rowOf rowsOf part ld rowAt bJ cr dK ep iC bR dj eF gq fh dz ew dh de ec ee bV bh cX bU cZ cY eu ez ev cW cj di er bS aQ db cG iA bz cN bW aX dn aZ dL AV.undef bG bK ef eo dW ea cJ eE eH cD eB eA da dc List.getD_cons_zero List.getD_cons_succ List.getD_nil List.all_cons List.all_nil Bool.and_true Bool.true_and Bool.and_self Bool.not_true Bool.not_false Option.map_some Option.map_none Option.bind_some Option.bind_none List.length_cons List.length_nil List.take_succ_cons List.take_zero List.take_nil List.drop_succ_cons List.drop_zero List.drop_nil List.head?_cons List.map_cons List.map_nil List.getElem?_cons_zero List.getElem?_cons_succ List.cons_append List.nil_append List.append_nil List.length_map List.set_cons_zero List.set_cons_succ Nat.reduceMul eq_self Int.toNat_natCast Int.natCast_nonneg and_self true_and and_true decide_true decide_false Bool.false_eq_true Nat.zero_add Nat.add_zero List.contains_cons List.contains_nil Bool.or_false Bool.false_or beq_self_eq_true Nat.reduceBEq ne_eq not_true_eq_false not_false_eq_true Id.mk.injEq false_and and_false Nat.reduceLT Int.reduceLE Int.reduceLT Int.reduceToNat Int.reduceNeg Int.reduceAdd Nat.le_refl List.length_append beq_true beq_false Bool.not_eq_eq_eq_not or_false false_or dX ai aq aH bj bE cu aW br aU bp cV bP
def iM (p:ar->Bool) (l:List ar):List ar:=l.filter fun x=> !p x
theorem qy {p:ar->Bool} {l:List ar} {j:Nat} (hj:j<l.length):iM p (l.take (j+1))=iM p (l.take j)++if p l[j]=true then[]else[l[j]]:=by
 unfold iM
 rw[List.take_succ_eq_append_getElem hj,List.filter_append]
 congr 1
 cases h:p l[j]<;>simp[h]
theorem DS {p:ar->Bool} {l:List ar} (h:∀b∈l,p b=false):iM p l=l:=by
 unfold iM
 rw[List.filter_eq_self]
 intro b hb
 rw[h b hb];rfl
structure Kp (p:ar->Bool) (bs:List ar) (j:Nat) (R:List ar):Prop where
 len:R.length=bs.length
 pre:R.take (iM p (bs.take j)).length=iM p (bs.take j)
 post:∀x,j<=x->R[x]? =bs[x]?
 lt:(iM p (bs.take j)).length<j
theorem Kp.start {p:ar->Bool} {bs:List ar} {i:Nat} (hi:i<bs.length) (hw:p bs[i]=true) (hp:∀x (h:x<i),p bs[x]=false):Kp p bs (i+1) bs/\(iM p (bs.take (i+1))).length=i:=by
 have h1:iM p (bs.take i)=bs.take i:=DS fun b hb=>by
  obtain⟨x,hx,rfl⟩:=List.getElem_of_mem hb
  rw[List.length_take]at hx
  rw[List.getElem_take]
  exact hp x (by omega)
 have h2:iM p (bs.take (i+1))=bs.take i:=by rw[qy hi,if_pos hw,List.append_nil,h1]
 have h3:(bs.take i).length=i:=by rw[List.length_take];omega
 exact⟨⟨rfl,by rw[h2,h3],fun _ _=>rfl,by rw[h2,h3];omega⟩,by rw[h2,h3]⟩
theorem Kp.RK {p:ar->Bool} {bs R:List ar} {j:Nat} (h:Kp p bs j R) (hj:j<bs.length) (hw:p bs[j]=true):Kp p bs (j+1) R/\(iM p (bs.take (j+1))).length=(iM p (bs.take j)).length:=by
 have h2:iM p (bs.take (j+1))=iM p (bs.take j):=by rw[qy hj,if_pos hw,List.append_nil]
 exact⟨⟨h.len,by rw[h2];exact h.pre,fun x hx=>h.post x (by omega),by rw[h2];have:=h.lt;omega⟩,by rw[h2]⟩
theorem Kp.qx {p:ar->Bool} {bs R:List ar} {j:Nat} (h:Kp p bs j R) (hj:j<bs.length) (hw:p bs[j]=false):Kp p bs (j+1) (R.set (iM p (bs.take j)).length bs[j])/\(iM p (bs.take (j+1))).length=(iM p (bs.take j)).length+1:=by
 have h2:iM p (bs.take (j+1))=iM p (bs.take j)++[bs[j]]:=by rw[qy hj,hw];rfl
 have dM:=h.lt
 have hlen:=h.len
 have ud:=h.pre
 generalize hc:(iM p (bs.take j)).length=c at *
 refine⟨⟨by rw[List.length_set];exact hlen,?_,fun x hx=>?_,by rw[h2,List.length_append,hc];simp;omega⟩,by rw[h2,List.length_append,hc];rfl⟩
 ·rw[h2,List.length_append,hc,List.length_singleton,List.take_succ_eq_append_getElem (by rw[List.length_set];omega),List.getElem_set_self,List.take_set_of_le (Nat.le_refl _),ud]
 ·rw[List.getElem?_set_ne (by omega)];exact h.post x (by omega)
theorem Kp.at_ {p:ar->Bool} {bs R:List ar} {j:Nat} (h:Kp p bs j R) (hj:j<bs.length):(R.map aa)[j]? =some (aa bs[j]):=by
 rw[List.getElem?_map,h.post j (Nat.le_refl j),List.getElem?_eq_getElem hj];rfl
end Go.Proofs.YtgoelphibofcmaaGreat.V

namespace Go.Proofs.YtgoelphibofcmaaGreat.V
open Go.RowKit
attribute [local irreducible] dG wpOps gz Call
attribute [local go_sem] aL fU eV gw gr cK upd cw K.av cU AV.cells AV.cell rowOf rowsOf part ld rowAt bJ cr dK ep iC bR dj eF gq fh dz ew dh de ec ee bV bh cX bU cZ cY eu ez ev cW cj di er bS aQ db cG iA bz cN bW aX dn aZ dL AV.undef bG bK ef eo dW ea cJ eE eH cD eB eA da dc List.getD_cons_zero List.getD_cons_succ List.getD_nil List.all_cons List.all_nil Bool.and_true Bool.true_and Bool.and_self Bool.not_true Bool.not_false Option.map_some Option.map_none Option.bind_some Option.bind_none List.length_cons List.length_nil List.take_succ_cons List.take_zero List.take_nil List.drop_succ_cons List.drop_zero List.drop_nil List.head?_cons List.map_cons List.map_nil List.getElem?_cons_zero List.getElem?_cons_succ List.cons_append List.nil_append List.append_nil List.length_map List.set_cons_zero List.set_cons_succ Nat.reduceMul eq_self Int.toNat_natCast Int.natCast_nonneg and_self true_and and_true decide_true decide_false Bool.false_eq_true Nat.zero_add Nat.add_zero List.contains_cons List.contains_nil Bool.or_false Bool.false_or beq_self_eq_true Nat.reduceBEq ne_eq not_true_eq_false not_false_eq_true Id.mk.injEq false_and and_false Nat.reduceLT Int.reduceLE Int.reduceLT Int.reduceToNat Int.reduceNeg Int.reduceAdd Nat.le_refl List.length_append beq_true beq_false Bool.not_eq_eq_eq_not or_false false_or dX ai aq aH bj bE cu aW br aU bp cV bP
structure nz (n:Nat) (px:Nat->Option Nat) (L:Nat->Nat):Prop where
 top:∀k,k<n->px k=none->L k=k
 up:∀k j,k<n->px k=some j->j<k/\L j=L k
theorem nz.root {n:Nat} {px:Nat->Option Nat} {L:Nat->Nat} (h:nz n px L) (hL:jG L) {k:Nat} (hk:k<n) (hr:L k=k):px k=none:=by
 rcases hp:px k with _|j
 ·rfl
 ·obtain⟨h1,h2⟩:=h.up k j hk hp
  have:=hL.le j
  omega
theorem nz.start (n:Nat):nz n (fun _=>none) id:=⟨fun _ _ _=>rfl,fun _ _ _ h=>by cases h⟩
theorem nz.join {n:Nat} {px:Nat->Option Nat} {L:Nat->Nat} (h:nz n px L) (hL:jG L) (b:PB) (dM:min (L b.a) (L b.b)<max (L b.a) (L b.b)):nz n (fun k=>if k=max (L b.a) (L b.b)then some (min (L b.a) (L b.b))else px k) (eQ L b):=by
 have ha:=hL.idem b.a
 have hb:=hL.idem b.b
 have zC:L (min (L b.a) (L b.b))=min (L b.a) (L b.b):=by
  rcases Nat.le_total (L b.a) (L b.b)with h|h
  ·rw[Nat.min_eq_left h,ha]
  ·rw[Nat.min_eq_right h,hb]
 have QZ:L (max (L b.a) (L b.b))=max (L b.a) (L b.b):=by
  rcases Nat.le_total (L b.a) (L b.b)with h|h
  ·rw[Nat.max_eq_right h,hb]
  ·rw[Nat.max_eq_left h,ha]
 unfold eQ
 generalize min (L b.a) (L b.b)=lo at *
 generalize max (L b.a) (L b.b)=hi at *
 refine⟨fun k hk hp=>?_,fun k j hk hp=>?_⟩
 ·by_cases KB:k=hi
  ·rw[if_pos KB]at hp;cases hp
  ·rw[if_neg KB]at hp
   have:=h.top k hk hp
   rw[if_neg (by omega)];exact this
 ·by_cases KB:k=hi
  ·rw[if_pos KB]at hp
   cases hp
   subst KB
   exact⟨dM,by rw[if_neg (by omega),if_pos QZ,zC]⟩
  ·rw[if_neg KB]at hp
   obtain⟨h1,h2⟩:=h.up k j hk hp
   exact⟨h1,by rw[h2]⟩
theorem zK {L:Nat->Nat} {b:PB} (h:L b.a=L b.b):eQ L b=L:=by
 funext k
 unfold eQ
 rw[h,Nat.max_self,Nat.min_self]
 split
 ·rename_i h;exact h.symm
 ·rfl
def sE (G:Nat->Id) (px:Nat->Option Nat) (k:Nat):List AV:=[match px k with|none=>.gN|some j=>.ptr (G j) 0 0,.int .i64 (k:Int)]
def tT (g:Rows) (G:Nat->Id) (n:Nat) (px:Nat->Option Nat):Prop:=∀k,k<n->g (G k)=some ⟨true,2,[sE G px k]⟩
theorem tT.frame {g g':Rows} {G:Nat->Id} {n:Nat} {px:Nat->Option Nat} (h:tT g G n px) (hf:∀k,k<n->g' (G k)=g (G k)):tT g' G n px:=fun k hk=>(hf k hk).trans (h k hk)
theorem lF {G:Nat->Id} {px:Nat->Option Nat} {k:Nat} (h:px k=none):sE G px k=[.gN,.int .i64 (k:Int)]:=by rw[sE,h]
theorem tx {G:Nat->Id} {px:Nat->Option Nat} {k j:Nat} (h:px k=some j):sE G px k=[.ptr (G j) 0 0,.int .i64 (k:Int)]:=by rw[sE,h]
theorem zl (G:Nat->Id) (n:Nat) (px:Nat->Option Nat) (L:Nat->Nat) (h:nz n px L) (k:Nat) (hk:k<n) (σ:au) (hG:tT σ.get G n px):
  Call Tryz.prog 262 [.ptr (G k) 0 0] σ fun r σ'=>r=.ptr (G (L k)) 0 0/\σ'.get=σ.get/\σ.next<=σ'.next:=by
 refine eW ek rfl fun hl=>?_
 clear hl
 (try((repeat(revert hN;revert N;apply Pn.out));refine wk @Nat.zero_add ?_;(repeat(refine Pn.mk ?_;intro N hN))))
 refine aI (fun m env st=>∃j:Nat,m=j/\j<n/\env 0=.ptr (G j) 0 0/\L j=L k/\st.get=σ.get/\σ.next<=st.next) k ⟨k,rfl,hk,sd @Nat.zero_add,rfl,by(try dsimp only),by(try dsimp only);omega⟩ ?_
 rintro m env_b st_b ⟨j,rfl,hj,b0,hLj,hg,hle⟩ eS
 clear eS
 have fy:=hG m hj
 rcases hp:px m with _|j
 ·rw[lF hp]at fy
  (try((repeat(revert hN;revert N;apply Pn.out));refine wk (tw @b0 (tw @hg @fy)) ?_;(repeat(refine Pn.mk ?_;intro N hN))))
  exact fc (.inl rfl) (vs:=[.ptr (G m) 0 0]) (sd @Nat.zero_add) ⟨by rw[<-hLj,h.top m hj hp];rfl,by first|trivial|rfl|exact hg,by(try dsimp only);omega⟩
 ·rw[tx hp]at fy
  obtain⟨h1,h2⟩:=h.up m j hj hp
  (try((repeat(revert hN;revert N;apply Pn.out));refine wk (tw @b0 (tw @hg @fy)) ?_;(repeat(refine Pn.mk ?_;intro N hN))))
  exact⟨j,h1,j,rfl,by omega,sd @Nat.zero_add,by omega,by first|trivial|rfl|exact hg,by(try dsimp only);omega⟩
end Go.Proofs.YtgoelphibofcmaaGreat.V

namespace Go.Proofs.YtgoelphibofcmaaGreat.V
open Go.RowKit
attribute [local irreducible] dG wpOps gz Call
attribute [local go_sem] aL fU eV gw gr cK upd cw K.av cU AV.cells AV.cell rowOf rowsOf part ld rowAt bJ cr dK ep iC bR dj eF gq fh dz ew dh de ec ee bV bh cX bU cZ cY eu ez ev cW cj di er bS aQ db cG iA bz cN bW aX dn aZ dL AV.undef bG bK ef eo dW ea cJ eE eH cD eB eA da dc List.getD_cons_zero List.getD_cons_succ List.getD_nil List.all_cons List.all_nil Bool.and_true Bool.true_and Bool.and_self Bool.not_true Bool.not_false Option.map_some Option.map_none Option.bind_some Option.bind_none List.length_cons List.length_nil List.take_succ_cons List.take_zero List.take_nil List.drop_succ_cons List.drop_zero List.drop_nil List.head?_cons List.map_cons List.map_nil List.getElem?_cons_zero List.getElem?_cons_succ List.cons_append List.nil_append List.append_nil List.length_map List.set_cons_zero List.set_cons_succ eq_self Int.toNat_natCast Int.natCast_nonneg and_self true_and and_true decide_true decide_false Bool.false_eq_true Nat.zero_add Nat.add_zero List.contains_cons List.contains_nil Bool.or_false Bool.false_or beq_self_eq_true ne_eq not_true_eq_false not_false_eq_true Id.mk.injEq false_and and_false Nat.le_refl List.length_append beq_true beq_false Bool.not_eq_eq_eq_not or_false false_or dX ai aq aH bj bE cu aW br aU bp cV bP
abbrev mI:MK:=⟨false,[.tI]⟩
def sM (l:List (Nat×Nat)):List (List AV):=l.map fun p=>[.int .i64 (p.1:Int),.int .i64 (p.2:Int)]
theorem BO (r:Nat):∀(l:List (Nat×Nat)) (i:Nat),((∀p∈l,p.1≠r)->ga mI [.int .i64 (r:Int)] (sM l) i=some none)/\(∀j v,l[j]? =some (r,v)->(∀x y,x<j->l[x]? =some y->y.1≠r)->ga mI [.int .i64 (r:Int)] (sM l) i=some (some (i+j)))
 |[],i=>⟨fun _=>rfl,fun j v h=>by simp at h⟩
 |p::l,i=>by
  obtain⟨h1,h2⟩:=BO r l (i+1)
  by_cases h:p.1=r
  ·refine⟨fun hp=>absurd h (hp p (by simp)),fun j v hj hf=>?_⟩
   have hj0:j=0:=by
    rcases Nat.eq_zero_or_pos j with h0|h0
    ·exact h0
    ·exact absurd h (hf 0 p h0 (by simp))
   subst hj0
   simp[sM,ga,fh,gq,MK.ks,h]
  ·have hd:¬((r:Int)=(p.1:Int)):=by omega
   have uc:¬r=p.1:=fun he=>h he.symm
   have step:ga mI [.int .i64 (r:Int)] (sM (p::l)) i=ga mI [.int .i64 (r:Int)] (sM l) (i+1):=by
    unfold sM
    simp[ga,MK.ks,fh,gq,hd,uc,h]
   rw[step]
   refine⟨fun hp=>h1 fun q hq=>hp q (by simp[hq]),fun j v hj hf=>?_⟩
   cases j with
   |zero=>simp at hj;rw[hj]at h;exact absurd rfl h
   |succ j=>
    rw[h2 j v (by simpa using hj) fun x y hx hy=>hf (x+1) y (by omega) (by simpa using hy)]
    congr 2;omega
theorem yw {r:Nat} {l:List (Nat×Nat)}:((∀p∈l,p.1≠r)->fM mI (.int .i64 (r:Int)) (sM l)=some none)/\(∀j v,l[j]? =some (r,v)->(∀x y,x<j->l[x]? =some y->y.1≠r)->fM mI (.int .i64 (r:Int)) (sM l)=some (some j)):=by
 have e:fM mI (.int .i64 (r:Int)) (sM l)=ga mI [.int .i64 (r:Int)] (sM l) 0:=by
  unfold fM
  rw[if_pos ⟨rfl,rfl,rfl⟩];rfl
 obtain⟨h1,h2⟩:=BO r l 0
 rw[e]
 exact⟨h1,fun j v hj hf=>by rw[h2 j v hj hf,Nat.zero_add]⟩
def kU (k:Nat) (L:Nat->Nat):List (List AV):=sM (leads k L).zipIdx
theorem DX {k:Nat} {L:Nat->Nat} (h:L k=k):kU (k+1) L=kU k L++[[.int .i64 (k:Int),.int .i64 ((leads k L).length:Int)]]:=by
 unfold kU
 rw[gM,if_pos h,List.zipIdx_append]
 simp[sM]
theorem DW {k:Nat} {L:Nat->Nat} (h:L k≠k):kU (k+1) L=kU k L:=by
 unfold kU
 rw[gM,if_neg h,List.append_nil]
theorem GH {k:Nat} {L:Nat->Nat} (h:L k=k):fM mI (.int .i64 (k:Int)) (kU k L)=some none:=by
 refine yw.1 fun p hp=>?_
 have:=List.fst_mem_of_mem_zipIdx hp
 have:=(yF.1 this).1
 omega
theorem yE {n:Nat} {L:Nat->Nat} {x y:Nat} (hx:x<(leads n L).length) (hy:y<(leads n L).length) (h:(leads n L)[x]=(leads n L)[y]):x=y:=by
 have hp:=List.pairwise_iff_getElem.1 (tG n L)
 rcases Nat.lt_trichotomy x y with dM|he|dM
 ·exact absurd h (hp x y hx hy dM)
 ·exact he
 ·exact absurd h.symm (hp y x hy hx dM)
theorem yD {k:Nat} {L:Nat->Nat} (hL:jG L) (h:L k≠k):fM mI (.int .i64 (L k:Int)) (kU k L)=some (some (bH L k))/\(kU k L)[bH L k]? =some [.int .i64 (L k:Int),.int .i64 (bH L k:Int)]/\bH L k<(leads k L).length:=by
 have dM:L k<k:=Nat.lt_of_le_of_ne (hL.le k) h
 have hn:bH L (L k)=bH L k:=by rw[bH,hL.idem,bH]
 have hg:=pc hL dM
 rw[hn,hL.idem]at hg
 have hl:bH L k<(leads k L).length:=(List.getElem?_eq_some_iff.1 hg).1
 have hz:(leads k L).zipIdx[bH L k]? =some (L k,bH L k):=by simp[List.getElem?_zipIdx,hg]
 refine⟨yw.2 _ _ hz fun x y hx hy=>?_,by unfold kU sM;rw[List.getElem?_map,hz];rfl,hl⟩
 intro he
 rw[List.getElem?_zipIdx]at hy
 have PZ:x<(leads k L).length:=by omega
 rw[List.getElem?_eq_getElem PZ]at hy
 simp at hy
 rw[<-hy]at he
 simp at he
 have e2:(leads k L)[bH L k]=L k:=(List.getElem?_eq_some_iff.1 hg).2
 have:=yE PZ hl (he.trans e2.symm)
 omega
def jK (k:Nat) (L:Nat->Nat):List (List Nat):=(leads k L).map (members k L)
theorem qo (k:Nat) (L:Nat->Nat):(jK k L).length=(leads k L).length:=by simp[jK]
theorem Dt {k:Nat} {L:Nat->Nat} (hL:jG L) (h:L k=k):jK (k+1) L=jK k L++[[k]]:=by
 unfold jK
 rw[gM,if_pos h,List.map_append,List.map_cons,List.map_nil,ju,if_pos h,nf hL (Nat.le_refl k),List.nil_append]
 congr 1
 refine List.map_congr_left fun r hr=>?_
 have:=(yF.1 hr).1
 rw[ju,if_neg (by omega),List.append_nil]
theorem Du {k:Nat} {L:Nat->Nat} (hL:jG L) (h:L k≠k):(jK k L)[bH L k]? =some (members k L (L k))/\jK (k+1) L=(jK k L).set (bH L k) (members k L (L k)++[k]):=by
 obtain⟨_,_,hl⟩:=yD hL h
 have dM:L k<k:=Nat.lt_of_le_of_ne (hL.le k) h
 have hg:=pc hL dM
 have hn:bH L (L k)=bH L k:=by rw[bH,hL.idem,bH]
 rw[hn,hL.idem]at hg
 refine⟨by unfold jK;rw[List.getElem?_map,hg];rfl,?_⟩
 unfold jK
 rw[gM,if_neg h,List.append_nil]
 refine List.ext_getElem? fun i=>?_
 rw[List.getElem?_set,List.getElem?_map,List.length_map]
 by_cases hi:bH L k=i
 ·subst hi
  rw[if_pos rfl,if_pos hl,hg,Option.map_some,ju,if_pos rfl]
 ·rw[if_neg hi,List.getElem?_map]
  rcases hr:(leads k L)[i]? with _|r
  ·rfl
  ·rw[Option.map_some,Option.map_some,ju,if_neg,List.append_nil]
   rintro rfl
   obtain⟨mb,he⟩:=List.getElem?_eq_some_iff.1 hr
   have e2:(leads k L)[bH L k]=L k:=(List.getElem?_eq_some_iff.1 hg).2
   exact hi (yE hl mb (e2.trans he.symm))
theorem B7 (k:Nat) (L:Nat->Nat) (r:Nat):(members k L r).length<=k:=by
 have:=List.length_filter_le (fun x=>L x==r) (List.range k)
 simpa[members]using this
def FP (g:Rows) (o:Id) (L:List (List Nat)) (nx:Nat):Prop:=∃rows ids,g o=some ⟨true,1,rows⟩/\eD Pw g rows L ids/\ids.Nodup/\(∀i∈ids,i.site=240026008/\i.bq<nx)/\o.site=240025002/\o.bq<nx
theorem FP.frame {g g':Rows} {o:Id} {L:List (List Nat)} {nx uE:Nat} (h:FP g o L nx) (hn:nx<=uE) (hf:∀i:Id,(i.site=240026008∨i.site=240025002)->i.bq<nx->g' i=g i):FP g' o L uE:=by
 obtain⟨rows,ids,h1,h2,h3,h4,h5,h6⟩:=h
 exact⟨rows,ids,(hf o (.inr h5) h6).trans h1,h2.frame LM fun i hi=>hf i (.inl (h4 i hi).1) (h4 i hi).2,h3,fun i hi=>⟨(h4 i hi).1,by have:=(h4 i hi).2;omega⟩,h5,by omega⟩
theorem K6 {g':Rows} {v v' uE j:Nat} (h1:g' ⟨240025002,v⟩=some ⟨true,1,[[.own ⟨240026008,v'⟩ 0 1]]⟩) (h2:g' ⟨240026008,v'⟩=some ⟨true,1,[eN j]⟩) (hv:v<uE) (nQ:v'<uE):FP g' ⟨240025002,v⟩ [[j]] uE:=
 ⟨_,[⟨240026008,v'⟩],h1,.one ⟨_,rfl,h2,rfl⟩,by simp,fun i hi=>by rw[List.mem_singleton.1 hi];exact⟨rfl,nQ⟩,rfl,hv⟩
theorem FP.new {g:Rows} {o:Id} {L:List (List Nat)} {nx:Nat} (h:FP g o L nx) (j:Nat):∃rows,g o=some ⟨true,1,rows⟩/\rows.length=L.length/\∀(g':Rows) (v v' uE:Nat),nx<=v'->v<uE->v'<uE->g' ⟨240025002,v⟩=some ⟨true,1,rows++[[.own ⟨240026008,v'⟩ 0 1]]⟩->g' ⟨240026008,v'⟩=some ⟨true,1,[eN j]⟩->(∀i:Id,i.site=240026008->i.bq<nx->g' i=g i)->FP g' ⟨240025002,v⟩ (L++[[j]]) uE:=by
 obtain⟨rows,ids,h1,h2,h3,h4,h5,h6⟩:=h
 refine⟨rows,h1,h2.len,fun g' v v' uE hv yq OB q1 q2 q3=>⟨_,ids++[⟨240026008,v'⟩],q1,(h2.frame LM fun i hi=>q3 i (h4 i hi).1 (h4 i hi).2).app (.one ⟨_,rfl,q2,rfl⟩),?_,fun i hi=>?_,rfl,yq⟩⟩
 ·refine List.nodup_append.2 ⟨h3,by simp,fun a ha b hb tz=>?_⟩
  rw[List.mem_singleton.1 hb]at tz
  have:=(h4 a ha).2
  rw[tz]at this
  simp only at this
  omega
 ·rcases List.mem_append.1 hi with hi|hi
  ·have:=h4 i hi;exact⟨this.1,by omega⟩
  ·rw[List.mem_singleton.1 hi];exact⟨rfl,OB⟩
theorem FP.add {g:Rows} {o:Id} {L:List (List Nat)} {nx k:Nat} {La:List Nat} (h:FP g o L nx) (hk:L[k]? =some La) (j:Nat):∃rows id,g o=some ⟨true,1,rows⟩/\rows.length=L.length/\rows[k]? =some [.own id 0 La.length]/\g id=some ⟨true,1,La.map eN⟩/\id.site=240026008/\id.bq<nx/\∀(g':Rows) (v' uE:Nat),nx<=v'->v'<uE->g' o=some ⟨true,1,rows.set k [.own ⟨240026008,v'⟩ 0 (La.length+1)]⟩->g' ⟨240026008,v'⟩=some ⟨true,1,La.map eN++[[.int .i64 (j:Int)]]⟩->(∀i:Id,i.site=240026008->i.bq<nx->(i=id)=False->g' i=g i)->FP g' o (L.set k (La++[j])) uE:=by
 obtain⟨rows,ids,h1,h2,h3,h4,h5,h6⟩:=h
 have lj:k<L.length:=(List.getElem?_eq_some_iff.1 hk).1
 have TB:=kQ hk lj
 obtain⟨cs,ic,dw,PF,QT,vP⟩:=h2.Rw LM h3 k lj
 rw[TB]at PF
 obtain⟨id,rfl,q1,rfl⟩:=PF
 have hid:=h4 id (QT id (by simp))
 refine⟨rows,id,h1,h2.len,dw,q1,hid.1,hid.2,fun g' v' uE hv yq r1 r2 r3=>?_⟩
 obtain⟨DP,s1,s2,s3⟩:=vP g' [.own ⟨240026008,v'⟩ 0 (La.length+1)] (La++[j]) [⟨240026008,v'⟩] ⟨_,by simp,by rw[r2];simp[eN],rfl⟩ (fun i hi SD=>r3 i (h4 i hi).1 (h4 i hi).2 (by
  simp only[eq_iff_iff,iff_false];rintro rfl;exact SD (by simp))) (by simp) fun i hi hc=>by
   rw[List.mem_singleton.1 hi]at hc
   have:=(h4 _ hc).2
   simp only at this
   omega
 refine⟨_,DP,r1,s1,s2,fun i hi=>?_,h5,by omega⟩
 rcases s3 i hi with h|h
 ·rw[List.mem_singleton.1 h];exact⟨rfl,yq⟩
 ·have:=h4 i h;exact⟨this.1,by omega⟩
def lT (G:Nat->Id) (n k:Nat):List (List AV):=(List.range n).map fun i=>[if i<k then .ptr (G i) 0 0 else .gN]
theorem mz (G:Nat->Id) (n k:Nat):(lT G n k).length=n:=by simp[lT]
theorem Hd (G:Nat->Id) (n:Nat):List.replicate n [AV.gN]=lT G n 0:=by
 refine List.ext_getElem? fun i=>?_
 by_cases h:i<n
 ·rw[List.getElem?_replicate,if_pos h];simp[lT,h]
 ·rw[List.getElem?_eq_none (by simp;omega),List.getElem?_eq_none (by rw[mz];omega)]
theorem wR {G:Nat->Id} {n i:Nat} (h:i<n):(lT G n n)[i]? =some [.ptr (G i) 0 0]:=by simp[lT,h]
theorem J0 {G:Nat->Id} {n k:Nat} (h:k<n):(lT G n k).set k [.ptr (G k) 0 0]=lT G n (k+1):=by
 refine List.ext_getElem? fun i=>?_
 rw[List.getElem?_set,mz]
 by_cases hi:k=i
 ·subst hi;rw[if_pos rfl,if_pos h];simp[lT,h]
 ·rw[if_neg hi]
  by_cases fP:i<n
  ·simp only[lT,List.getElem?_map,List.getElem?_range fP,Option.map_some]
   by_cases yj:i<k
   ·rw[if_pos yj,if_pos (by omega)]
   ·rw[if_neg yj,if_neg (by omega)]
  ·rw[List.getElem?_eq_none (by rw[mz];omega),List.getElem?_eq_none (by rw[mz];omega)]
end Go.Proofs.YtgoelphibofcmaaGreat.V

namespace Go.Proofs.YtgoelphibofcmaaGreat.V
open Go.RowKit
attribute [local irreducible] dG wpOps gz Call
attribute [local go_sem] aL fU eV gw gr cK upd cw K.av cU AV.cells AV.cell rowOf rowsOf part ld rowAt bJ cr dK ep iC bR dj eF gq fh dz ew dh de ec ee bV bh cX bU cZ cY eu ez ev cW cj di er bS aQ db cG iA bz cN bW aX dn aZ dL AV.undef bG bK ef eo dW ea cJ eE eH cD eB eA da dc List.getD_cons_zero List.getD_cons_succ List.getD_nil List.all_cons List.all_nil Bool.and_true Bool.true_and Bool.and_self Bool.not_true Bool.not_false Option.map_some Option.map_none Option.bind_some Option.bind_none List.length_cons List.length_nil List.take_succ_cons List.take_zero List.take_nil List.drop_succ_cons List.drop_zero List.drop_nil List.head?_cons List.map_cons List.map_nil List.getElem?_cons_zero List.getElem?_cons_succ List.cons_append List.nil_append List.append_nil List.length_map List.set_cons_zero List.set_cons_succ Nat.reduceMul eq_self Int.toNat_natCast Int.natCast_nonneg and_self true_and and_true decide_true decide_false Bool.false_eq_true Nat.zero_add Nat.add_zero List.contains_cons List.contains_nil Bool.or_false Bool.false_or beq_self_eq_true Nat.reduceBEq ne_eq not_true_eq_false not_false_eq_true Id.mk.injEq false_and and_false Nat.reduceLT Int.reduceLE Int.reduceLT Int.reduceToNat Int.reduceNeg Int.reduceAdd Nat.le_refl List.length_append beq_true beq_false Bool.not_eq_eq_eq_not or_false false_or dX ai aq aH bj bE cu aW br aU bp cV bP
theorem gS {o:Id} {a:Nat} (h:o.site=a) {b v:Nat} (tz:(a==b)=false):(o=⟨b,v⟩)=False/\((⟨b,v⟩:Id)=o)=False:=by
 have h1:=Al h (v:=v) tz
 refine⟨h1,?_⟩
 simp only[eq_iff_iff,iff_false]at h1 ⊢
 exact fun h=>h1 h.symm
theorem vH (cnt:Nat) (zD:1<=cnt) (hn:cnt<=1048576) (bs:List PB) (hb:∀b∈bs,b.a<cnt/\b.b<cnt) (oE:bs.length<=1048576):aj Tryz.prog 240 [.int .i64 cnt,.sl (bs.map aC)] (.sl ((fx cnt (ei bs)).map AJ)):=by
 intro n0
 refine HI NA rfl fun hl=>?_
 try simp only[q]
 clear hl
 have jI:(0:Int)<=(cnt:Int):=by omega
 have pU:(cnt:Int)<=((16777216:Nat):Int):=by omega
 obtain⟨G,hG⟩:∃G:Nat->Id,G=fun k=>⟨240005004,n0+3+4*k+2⟩:=⟨_,rfl⟩
 have Sb:∀k,(G k).site=240005004:=fun k=>by rw[hG]
 have Tv:∀k,(G k).bq=n0+3+4*k+2:=fun k=>by rw[hG]
 have Tt:∀i j,i≠j->(G i=G j)=False:=fun i j h=>by
  simp only[eq_iff_iff,iff_false]
  intro he
  have h1:=Tv i
  rw[he,Tv j]at h1
  omega
 have K7:∀i s v,(240005004==s)=false->(G i=⟨s,v⟩)=False:=fun i s v h=>Al (Sb i) h
 have hz:=Hd G cnt
 (try((repeat(revert hN;revert N;apply Pn.out));refine wk (tw @jI (tw @pU (tw @Int.le_refl @hz))) ?_;(repeat(refine Pn.mk ?_;intro N hN))))
 refine aI (fun n env st=>∃k:Nat,n=(cnt)-k/\k<=(cnt)/\env 21=.int .i64 (k:Int)/\st.get ⟨240001001,n0+1⟩=some ⟨true,1,lT G cnt k⟩/\(st.next=n0+3+4*k/\∀j:Nat,j<k->st.get (G j)=some ⟨true,2,[[.gN,.int .i64 (j:Int)]]⟩)) (cnt) ⟨0,by omega,by omega,sl @hz,sl @hz,⟨rfl,fun j hj=>by omega⟩⟩ ?_
 rintro n_a env_a st_a ⟨k,rfl,ale,a21,ag0,j9⟩ dp
 have a0:=dp 0 (by kernel_rfl);have a1:=dp 1 (by kernel_rfl);have a5:=dp 5 (by kernel_rfl);have Nr:=dp 19 (by kernel_rfl);have a20:=dp 20 (by kernel_rfl)
 simp only[go_sem, ↓reduceIte,Nat.reduceEqDiff,Nat.reduceAdd,Nat.reduceSub,Nat.reduceLeDiff,reduceCtorEq,hz]at a0 a1 a5 Nr a20
 clear dp
 obtain⟨j9,lU⟩:=j9
 by_cases hk:(k:Int)<(cnt:Int)
 ·have ck:∀{e:Env} {gg:Rows} {nx:Nat},(e 21=.int .i64 (IntKind.i64.wrap ((k:Int)+1)))->(gg ⟨240001001,n0+1⟩=some ⟨true,1,lT G cnt (k+1)⟩)->(nx=n0+3+4*(k+1)/\∀j:Nat,j<(k+1)->gg (G j)=some ⟨true,2,[[.gN,.int .i64 (j:Int)]]⟩)->∃m0,m0<(cnt)-k/\∃k:Nat,m0=(cnt)-k/\k<=(cnt)/\e 21=.int .i64 (k:Int)/\gg ⟨240001001,n0+1⟩=some ⟨true,1,lT G cnt k⟩/\(nx=n0+3+4*k/\∀j:Nat,j<k->gg (G j)=some ⟨true,2,[[.gN,.int .i64 (j:Int)]]⟩):=fun x1 x2 x3=>⟨_,by omega,k+1,rfl,by omega,(by rw[x1,aA (by omega)]),x2,x3⟩
  have eZ:k<cnt:=by omega
  have tl:=mz G cnt k
  have dO:=J0 (G:=G) eZ
  have eM:(lT G cnt k)[k]? =some [.gN]:=by simp[lT,eZ]
  have R9:(⟨240005004,st_a.next+1+1⟩:Id)=G k:=by rw[hG,j9]
  have hGf:∀j,j<k->(G j=G k)=False:=fun j hj=>Tt j k (by omega)
  have zx:∀j,(G j=(⟨240001001,n0+1⟩:Id))=False:=fun j=>K7 j _ _ (by decide)
  have Dw:∀j,((⟨240001001,n0+1⟩:Id)=G j)=False:=fun j=>by
   have:=zx j
   simp only[eq_iff_iff,iff_false]at this ⊢
   exact fun h=>this h.symm
  (try((repeat(revert hN;revert N;apply Pn.out));refine wk (tw @a21 (tw @ag0 (tw @a0 (tw @a1 (tw @a5 (tw @Nr (tw @a20 (tw @hk (tw @tl (tw @R9 (tw @zx (tw @Dw (tw @dO @eM))))))))))))) ?_;(repeat(refine Pn.mk ?_;intro N hN))))
  refine ck ?_ ?_ (by
   refine⟨by(try dsimp only)<;>omega,fun j hj=>?_⟩
   by_cases yk:j=k
   ·subst yk;simp only[go_sem, ↓reduceIte,Nat.reduceEqDiff,Nat.reduceAdd,Nat.reduceSub,Nat.reduceLeDiff,reduceCtorEq,R9,zx,Dw]
   ·have hold:=lU j (by omega)
    have gU:=hGf j (by omega)
    simp only[go_sem, ↓reduceIte,Nat.reduceEqDiff,Nat.reduceAdd,Nat.reduceSub,Nat.reduceLeDiff,reduceCtorEq,R9,zx,Dw,gU,hold])
  all_goals simp only[go_sem, ↓reduceIte,Nat.reduceEqDiff,Nat.reduceAdd,Nat.reduceSub,Nat.reduceLeDiff,reduceCtorEq,a21,ag0,a0,a1,a5,Nr,a20,R9,zx,Dw,dO]
 have lj:cnt=k:=by omega
 subst lj
 (try((repeat(revert hN;revert N;apply Pn.out));refine wk (tw @a21 (tw @ag0 (tw @a0 (tw @a1 (tw @a5 (tw @Nr (tw @a20 @hk))))))) ?_;(repeat(refine Pn.mk ?_;intro N hN))))
 refine aI (fun n env st=>∃i:Nat,n=(bs.length)-i/\i<=(bs.length)/\env 33=.int .i64 (i:Int)/\st.get ⟨240001001,n0+1⟩=some ⟨true,1,lT G cnt cnt⟩/\(n0+3+4*cnt<=st.next)/\(∃px,nz cnt px (ei (bs.take i))/\tT st.get G cnt px)) (bs.length) ⟨0,by omega,by omega,sl (tw @a21 (tw @ag0 (tw @a0 (tw @a1 (tw @a5 (tw @Nr @a20)))))),sl (tw @a21 (tw @ag0 (tw @a0 (tw @a1 (tw @a5 (tw @Nr @a20)))))),(by(try dsimp only);omega),⟨fun _=>none,nz.start cnt,lU⟩⟩ ?_
 rintro n_b env_b st_b ⟨i,rfl,ble,tV,bg0,bI0,bI1⟩ eS
 have b0:=eS 0 (by kernel_rfl);have b1:=eS 1 (by kernel_rfl);have b5:=eS 5 (by kernel_rfl);have xT:=eS 31 (by kernel_rfl);have tg:=eS 32 (by kernel_rfl)
 simp only[go_sem, ↓reduceIte,Nat.reduceEqDiff,Nat.reduceAdd,Nat.reduceSub,Nat.reduceLeDiff,reduceCtorEq,a21,ag0,a0,a1,a5,Nr,a20]at b0 b1 b5 xT tg
 clear eS
 obtain⟨px,KE,Sa⟩:=bI1
 have tl:=mz G cnt cnt
 have Qt:∀j v,(G j=(⟨240009002,v⟩:Id))=False:=fun j v=>K7 j _ v (by decide)
 have zx:∀j v,(G j=(⟨240001001,v⟩:Id))=False:=fun j v=>K7 j _ v (by decide)
 have Dw:∀j v,((⟨240001001,v⟩:Id)=G j)=False:=fun j v=>by
  have:=zx j v
  simp only[eq_iff_iff,iff_false]at this ⊢
  exact fun h=>this h.symm
 have hGn:∀j,j<cnt->(G j).bq<st_b.next:=fun j hj=>by rw[Tv];omega
 by_cases hi:(i:Int)<(bs.length:Int)
 ·have eR:∀{e:Env} {gg:Rows} {nx:Nat},(e 33=.int .i64 (IntKind.i64.wrap ((i:Int)+1)))->(gg ⟨240001001,n0+1⟩=some ⟨true,1,lT G cnt cnt⟩)->(n0+3+4*cnt<=nx)->(∃px,nz cnt px (ei (bs.take (i+1)))/\tT gg G cnt px)->∃m0,m0<(bs.length)-i/\∃i:Nat,m0=(bs.length)-i/\i<=(bs.length)/\e 33=.int .i64 (i:Int)/\gg ⟨240001001,n0+1⟩=some ⟨true,1,lT G cnt cnt⟩/\(n0+3+4*cnt<=nx)/\(∃px,nz cnt px (ei (bs.take i))/\tT gg G cnt px):=fun x1 x2 x3 x4=>⟨_,by omega,i+1,rfl,by omega,(by rw[x1,aA (by omega)]),x2,x3,x4⟩
  have fP:i<bs.length:=by omega
  have lh:(bs.map aC)[i]? =some (aC bs[i]):=by simp[fP]
  have Gh:=hb _ (List.getElem_mem fP)
  have pN:bs.take (i+1)=bs.take i++[bs[i]]:=List.take_succ_eq_append_getElem fP
  have lH:ei (bs.take (i+1))=eQ (ei (bs.take i)) bs[i]:=by rw[pN,vV]
  have hL:=tF (bs.take i)
  generalize ei (bs.take i)=L at *
  generalize bs[i]=b at *
  have gA:=wR (G:=G) Gh.1
  have gB:=wR (G:=G) Gh.2
  have gG:(b.a:Int)<(cnt:Int):=by omega
  have fF:(b.b:Int)<(cnt:Int):=by omega
  (try((repeat(revert hN;revert N;apply Pn.out));refine wk (tw @tV (tw @bg0 (tw @b0 (tw @b1 (tw @b5 (tw @xT (tw @tg (tw @hi (tw @lh (tw @aC.eq_1 (tw @gA (tw @gB (tw @gG (tw @fF @tl)))))))))))))) ?_;(repeat(refine Pn.mk ?_;intro N hN))))
  refine EL (fun e s=>e 0=.int .i64 cnt/\e 1=.sl (bs.map aC)/\e 5=.own ⟨240001001,n0+1⟩ 0 cnt/\e 31=.sl (bs.map aC)/\e 32=.int .i64 bs.length/\e 33=.int .i64 i/\e 9=.ptr (G (L b.a)) 0 0/\e 10=.ptr (G (L b.b)) 0 0/\(∀j:Id,j.bq<st_b.next->s.get j=st_b.get j)/\st_b.next<=s.next) ?_ ?_
  ·rintro e1 s1 ⟨m0,m1,m5,m31,m32,m33,m9,m10,mf,mn⟩
   refine hN _ _ ?_
   clear hN N
   have mG:tT s1.get G cnt px:=Sa.frame fun k hk=>mf _ (hGn k hk)
   have mt:=(mf ⟨240001001,n0+1⟩ (by(try dsimp only);omega)).trans bg0
   have Ub:L b.a<cnt:=Nat.lt_of_le_of_lt (hL.le _) Gh.1
   have Od:L b.b<cnt:=Nat.lt_of_le_of_lt (hL.le _) Gh.2
   have ra:=mG _ Ub
   have rb:=mG _ Od
   rw[lF (KE.root hL Ub (hL.idem _))]at ra
   rw[lF (KE.root hL Od (hL.idem _))]at rb
   have put:∀(g':Rows) (lo hi:Nat),hi<cnt->g' (G hi)=some ⟨true,2,[[.ptr (G lo) 0 0,.int .i64 (hi:Int)]]⟩->(∀k,k≠hi->k<cnt->g' (G k)=s1.get (G k))->tT g' G cnt (fun k=>if k=hi then some lo else px k):=fun g' lo hi _ h1 h2 k hk=>by
    by_cases KB:k=hi
    ·subst KB;rw[h1,tx (j:=lo) (if_pos rfl)]
    ·rw[h2 k KB hk,mG k hk]
     unfold sE
     simp only[if_neg KB]
   rcases Nat.lt_trichotomy (L b.a) (L b.b)with dM|heq|dM
   ·have Oe:(L b.a:Int)<(L b.b:Int):=by omega
    have hj:=KE.join hL b (by omega)
    rw[Nat.max_eq_right (by omega),Nat.min_eq_left (by omega),<-lH]at hj
    (try((repeat(revert hN;revert N;apply Pn.out));refine wk (tw @m0 (tw @m1 (tw @m5 (tw @m31 (tw @m32 (tw @m33 (tw @m9 (tw @m10 (tw @ra (tw @rb @Oe)))))))))) ?_;(repeat(refine Pn.mk ?_;intro N hN))))
    refine eR ?_ ?_ (by(try dsimp only);omega) (⟨_,hj,put _ _ _ Od (sd @Nat.zero_add) (fun k hk _=>by
     have gU:=Tt k _ hk
     simp only[go_sem, ↓reduceIte,Nat.reduceEqDiff,Nat.reduceAdd,Nat.reduceSub,Nat.reduceLeDiff,reduceCtorEq,gU])⟩)
    all_goals simp only[go_sem, ↓reduceIte,Nat.reduceEqDiff,Nat.reduceAdd,Nat.reduceSub,Nat.reduceLeDiff,reduceCtorEq,m0,m1,m5,m31,m32,m33,mt,zx,Dw]
   ·have zD:¬(L b.a:Int)<(L b.b:Int):=by omega
    have Ll:¬(L b.b:Int)<(L b.a:Int):=by omega
    have Lu:=zK heq
    rw[Lu]at lH
    (try((repeat(revert hN;revert N;apply Pn.out));refine wk (tw @m0 (tw @m1 (tw @m5 (tw @m31 (tw @m32 (tw @m33 (tw @m9 (tw @m10 (tw @ra (tw @rb (tw @zD @Ll))))))))))) ?_;(repeat(refine Pn.mk ?_;intro N hN))))
    refine eR ?_ ?_ (by(try dsimp only);omega) (⟨_,lH▸KE,mG.frame fun k hk=>rfl⟩)
    all_goals simp only[go_sem, ↓reduceIte,Nat.reduceEqDiff,Nat.reduceAdd,Nat.reduceSub,Nat.reduceLeDiff,reduceCtorEq,m0,m1,m5,m31,m32,m33,mt]
   ·have Oe:(L b.b:Int)<(L b.a:Int):=by omega
    have zD:¬(L b.a:Int)<(L b.b:Int):=by omega
    have hj:=KE.join hL b (by omega)
    rw[Nat.max_eq_left (by omega),Nat.min_eq_right (by omega),<-lH]at hj
    (try((repeat(revert hN;revert N;apply Pn.out));refine wk (tw @m0 (tw @m1 (tw @m5 (tw @m31 (tw @m32 (tw @m33 (tw @m9 (tw @m10 (tw @ra (tw @rb (tw @Oe @zD))))))))))) ?_;(repeat(refine Pn.mk ?_;intro N hN))))
    refine eR ?_ ?_ (by(try dsimp only);omega) (⟨_,hj,put _ _ _ Ub (sd @Nat.zero_add) (fun k hk _=>by
     have gU:=Tt k _ hk
     simp only[go_sem, ↓reduceIte,Nat.reduceEqDiff,Nat.reduceAdd,Nat.reduceSub,Nat.reduceLeDiff,reduceCtorEq,gU])⟩)
    all_goals simp only[go_sem, ↓reduceIte,Nat.reduceEqDiff,Nat.reduceAdd,Nat.reduceSub,Nat.reduceLeDiff,reduceCtorEq,m0,m1,m5,m31,m32,m33,mt,zx,Dw]
  ·intro N hN
   refine fe ?_ ?_<;>(try((repeat(revert hN;revert N;apply Pn.out));refine wk (tw @tV (tw @bg0 (tw @b0 (tw @b1 (tw @b5 (tw @xT (tw @tg (tw @hi (tw @lh (tw @aC.eq_1 (tw @gA (tw @gB (tw @gG (tw @fF @tl)))))))))))))) ?_;(repeat(refine Pn.mk ?_;intro N hN))))<;>(try refine fe ?_ ?_)<;>(try((repeat(revert hN;revert N;apply Pn.out));refine wk (tw @tV (tw @bg0 (tw @b0 (tw @b1 (tw @b5 (tw @xT (tw @tg (tw @hi (tw @lh (tw @aC.eq_1 (tw @gA (tw @gB (tw @gG (tw @fF @tl)))))))))))))) ?_;(repeat(refine Pn.mk ?_;intro N hN))))<;>(try refine fe ?_ ?_)<;>(try((repeat(revert hN;revert N;apply Pn.out));refine wk (tw @tV (tw @bg0 (tw @b0 (tw @b1 (tw @b5 (tw @xT (tw @tg (tw @hi (tw @lh (tw @aC.eq_1 (tw @gA (tw @gB (tw @gG (tw @fF @tl)))))))))))))) ?_;(repeat(refine Pn.mk ?_;intro N hN))))
   all_goals
    refine .inr (aG _ _ _ _ _ (fun r σ1 hq=>?_) (zl G cnt px L KE b.a Gh.1 _ (Sa.frame fun k hk=>sd @Qt)))
    obtain⟨g1,x1⟩:=σ1
    obtain⟨rfl,AL,Gk⟩:=hq
    (try dsimp only at AL Gk)
    subst AL
    refine hN _ _ ?_
    clear hN N
    (try((repeat(revert hN;revert N;apply Pn.out));refine wk (tw @tV (tw @bg0 (tw @b0 (tw @b1 (tw @b5 (tw @xT (tw @tg (tw @hi (tw @lh (tw @aC.eq_1 (tw @gA (tw @gB (tw @gG (tw @fF @tl)))))))))))))) ?_;(repeat(refine Pn.mk ?_;intro N hN))))
    refine .inr (aG _ _ _ _ _ (fun r σ1 hq=>?_) (zl G cnt px L KE b.b Gh.2 _ (Sa.frame fun k hk=>sd @Qt)))
    obtain⟨g1,x2⟩:=σ1
    obtain⟨rfl,AL,mU⟩:=hq
    (try dsimp only at AL mU)
    subst AL
    refine hN _ _ ?_
    clear hN N
    (try((repeat(revert hN;revert N;apply Pn.out));refine wk (tw @tV (tw @bg0 (tw @b0 (tw @b1 (tw @b5 (tw @xT (tw @tg (tw @hi (tw @lh (tw @aC.eq_1 (tw @gA (tw @gB (tw @gG (tw @fF @tl)))))))))))))) ?_;(repeat(refine Pn.mk ?_;intro N hN))))
    exact⟨sd (tw @tV (tw @bg0 (tw @b0 (tw @b1 (tw @b5 (tw @xT @tg)))))),sd (tw @tV (tw @bg0 (tw @b0 (tw @b1 (tw @b5 (tw @xT @tg)))))),sd (tw @tV (tw @bg0 (tw @b0 (tw @b1 (tw @b5 (tw @xT @tg)))))),sd (tw @tV (tw @bg0 (tw @b0 (tw @b1 (tw @b5 (tw @xT @tg)))))),sd (tw @tV (tw @bg0 (tw @b0 (tw @b1 (tw @b5 (tw @xT @tg)))))),sd (tw @tV (tw @bg0 (tw @b0 (tw @b1 (tw @b5 (tw @xT @tg)))))),sd (tw @tV (tw @bg0 (tw @b0 (tw @b1 (tw @b5 (tw @xT @tg)))))),sd (tw @tV (tw @bg0 (tw @b0 (tw @b1 (tw @b5 (tw @xT @tg)))))),fun j hj=>by
     have hv:=dq hj
     simp only[go_sem, ↓reduceIte,Nat.reduceEqDiff,Nat.reduceAdd,Nat.reduceSub,Nat.reduceLeDiff,reduceCtorEq,hv],by(try dsimp only);omega⟩
 have mb:i=bs.length:=by omega
 subst mb
 rw[List.take_length]at KE
 have hL:=tF bs
 generalize ei bs=L at *
 (try((repeat(revert hN;revert N;apply Pn.out));refine wk (tw @tV (tw @bg0 (tw @b0 (tw @b1 (tw @b5 (tw @xT (tw @tg (tw @hi @tl)))))))) ?_;(repeat(refine Pn.mk ?_;intro N hN))))
 have l0:kU 0 L=[]:=rfl
 have oS:(none:Option Nat).isSome=false:=rfl
 have oT:∀a:Nat,(some a).isSome=true:=fun _=>rfl
 refine aI (fun n env st=>∃x:Nat,n=(cnt)-x/\x<=(cnt)/\env 81=.int .i64 (x:Int)/\st.get ⟨240001001,n0+1⟩=some ⟨true,1,lT G cnt cnt⟩/\st.get ⟨240017000,st_b.next+1+1⟩=some ⟨true,mI.nS,kU x L⟩/\(st_b.next+3<=st.next/\tT st.get G cnt px)/\((x=0/\env 11=.cC)∨∃o:Id,env 11=.own o 0 (leads x L).length/\FP st.get o (jK x L) st.next)) (cnt) ⟨0,by omega,by omega,sl (tw @tV (tw @bg0 (tw @b0 (tw @b1 (tw @b5 (tw @xT (tw @tg @l0))))))),sl (tw @tV (tw @bg0 (tw @b0 (tw @b1 (tw @b5 (tw @xT (tw @tg @l0))))))),sl (tw @tV (tw @bg0 (tw @b0 (tw @b1 (tw @b5 (tw @xT (tw @tg @l0))))))),⟨by(try dsimp only);omega,Sa.frame fun k hk=>by(have gU:=K7 k 240017000 (st_b.next+1+1) (by decide));simp only[go_sem, ↓reduceIte,Nat.reduceEqDiff,Nat.reduceAdd,Nat.reduceSub,Nat.reduceLeDiff,reduceCtorEq,gU]⟩,.inl ⟨rfl,sd @Nat.zero_add⟩⟩ ?_
 rintro n_c env_c st_c ⟨x,rfl,cle,c81,cg0,cg1,cI0,cI1⟩ cfr
 have zb:=cfr 12 (by kernel_rfl);have KR:=cfr 79 (by kernel_rfl);have KS:=cfr 80 (by kernel_rfl)
 simp only[go_sem, ↓reduceIte,Nat.reduceEqDiff,Nat.reduceAdd,Nat.reduceSub,Nat.reduceLeDiff,reduceCtorEq,tV,bg0,b0,b1,b5,xT,tg,l0]at zb KR KS
 clear cfr
 obtain⟨jf,Qi⟩:=cI0
 have NZ:∀j v,(G j=(⟨240017000,v⟩:Id))=False:=fun j v=>K7 j _ v (by decide)
 have NV:∀j v,(G j=(⟨240025002,v⟩:Id))=False:=fun j v=>K7 j _ v (by decide)
 have NX:∀j v,(G j=(⟨240025001,v⟩:Id))=False:=fun j v=>K7 j _ v (by decide)
 have NY:∀j v,(G j=(⟨240026007,v⟩:Id))=False:=fun j v=>K7 j _ v (by decide)
 have NW:∀j v,(G j=(⟨240026008,v⟩:Id))=False:=fun j v=>K7 j _ v (by decide)
 by_cases hx:(x:Int)<(cnt:Int)
 ·have ib:∀{e:Env} {gg:Rows} {nx:Nat},(e 81=.int .i64 (IntKind.i64.wrap ((x:Int)+1)))->(gg ⟨240001001,n0+1⟩=some ⟨true,1,lT G cnt cnt⟩)->(gg ⟨240017000,st_b.next+1+1⟩=some ⟨true,mI.nS,kU (x+1) L⟩)->(st_b.next+3<=nx/\tT gg G cnt px)->(((x+1)=0/\e 11=.cC)∨∃o:Id,e 11=.own o 0 (leads (x+1) L).length/\FP gg o (jK (x+1) L) nx)->∃m0,m0<(cnt)-x/\∃x:Nat,m0=(cnt)-x/\x<=(cnt)/\e 81=.int .i64 (x:Int)/\gg ⟨240001001,n0+1⟩=some ⟨true,1,lT G cnt cnt⟩/\gg ⟨240017000,st_b.next+1+1⟩=some ⟨true,mI.nS,kU x L⟩/\(st_b.next+3<=nx/\tT gg G cnt px)/\((x=0/\e 11=.cC)∨∃o:Id,e 11=.own o 0 (leads x L).length/\FP gg o (jK x L) nx):=fun x1 x2 x3 x4 x5=>⟨_,by omega,x+1,rfl,by omega,(by rw[x1,aA (by omega)]),x2,x3,x4,x5⟩
  have P0:x<cnt:=by omega
  have gX:=wR (G:=G) P0
  have hlx:L x<cnt:=Nat.lt_of_le_of_lt (hL.le _) P0
  have ra:=Qi _ hlx
  rw[lF (KE.root hL hlx (hL.idem _))]at ra
  have pa:=jN x L
  (try((repeat(revert hN;revert N;apply Pn.out));refine wk (tw @c81 (tw @cg0 (tw @cg1 (tw @zb (tw @KR (tw @KS (tw @hx (tw @gX @tl)))))))) ?_;(repeat(refine Pn.mk ?_;intro N hN))))
  refine .inr (aG _ _ _ _ _ (fun r σ1 hq=>?_) (zl G cnt px L KE x P0 _ (Qi.frame fun k hk=>sd @Nat.zero_add)))
  obtain⟨g1,x1⟩:=σ1
  obtain⟨rfl,AL,Gk⟩:=hq
  (try dsimp only at AL Gk)
  subst AL
  refine hN _ _ ?_
  clear hN N
  by_cases hr:L x=x
  ·rw[hr]at ra ⊢
   have mH:=GH hr
   have SA:(leads (x+1) L).length=(leads x L).length+1:=by rw[gM,if_pos hr];simp
   have PU:=DX hr
   have Sv:=Dt hL hr
   rcases cI1 with⟨rfl,nL⟩|⟨o,nL,cS⟩
   ·have Uu:kU 1 L=[[.int .i64 ((0:Nat):Int),.int .i64 ((0:Nat):Int)]]:=PU
    (try((repeat(revert hN;revert N;apply Pn.out));refine wk (tw @c81 (tw @cg0 (tw @cg1 (tw @zb (tw @KR (tw @KS (tw @nL (tw @ra (tw @mH (tw @l0 (tw @oS (tw @oT (tw @Bool.not_false @Bool.not_true))))))))))))) ?_;(repeat(refine Pn.mk ?_;intro N hN))))
    refine ib ?_ ?_ ?_ (by(try dsimp only);exact⟨by omega,Qi.frame fun k hk=>sd (tw @NZ (tw @NV (tw @NW (tw @NX @NY))))⟩) (.inr ⟨⟨240025002,x1+1+1+1+1⟩,by simp only[go_sem, ↓reduceIte,Nat.reduceEqDiff,Nat.reduceAdd,Nat.reduceSub,Nat.reduceLeDiff,reduceCtorEq,SA];rfl,by rw[Sv];exact K6 (v':=x1+1+1+1+1+1) (sd @Nat.zero_add) (sd @eN.eq_1) (by(try dsimp only);omega) (by(try dsimp only);omega)⟩)
    all_goals simp only[go_sem, ↓reduceIte,Nat.reduceEqDiff,Nat.reduceAdd,Nat.reduceSub,Nat.reduceLeDiff,reduceCtorEq,c81,cg0,cg1,zb,KR,KS,Uu]
   ·obtain⟨rows,vL,sf,ke⟩:=cS.new x
    rw[qo]at sf
    have xC:o.site=240025002:=by obtain⟨_,_,_,_,_,_,h,_⟩:=cS;exact h
    have pK:o.bq<x1:=by obtain⟨_,_,_,_,_,_,_,h⟩:=cS;omega
    have qv:=dq pK
    have Q2:=gS (o:=o) xC (b:=240017000) (v:=st_b.next+1+1) (by decide)
    have PL:=gS (o:=o) xC (b:=240001001) (v:=n0+1) (by decide)
    have N0:∀k,(G k=o)=False:=fun k=>by simp only[eq_iff_iff,iff_false];intro h;have h1:=Sb k;rw[h,xC]at h1;cases h1
    have sI:(rows++[[AV.cC]])[(leads x L).length]? =some [.cC]:=by rw[<-sf];simp
    have DL:∀a:List AV,(rows++[[AV.cC]]).set (leads x L).length a=rows++[a]:=fun a=>by rw[<-sf];simp
    have e1:(leads x L).length+1<=16777216:=by omega
    have e2:((leads x L).length:Int)<(((leads x L).length+1:Nat):Int):=by omega
    (try((repeat(revert hN;revert N;apply Pn.out));refine wk (tw @c81 (tw @cg0 (tw @cg1 (tw @zb (tw @KR (tw @KS (tw @nL (tw @ra (tw @mH (tw @vL (tw @sf (tw @qv (tw @Q2 (tw @sI (tw @DL (tw @e1 (tw @e2 (tw @oS (tw @oT (tw @Bool.not_false @Bool.not_true)))))))))))))))))))) ?_;(repeat(refine Pn.mk ?_;intro N hN))))
    refine ib ?_ ?_ ?_ (by(try dsimp only);exact⟨by omega,Qi.frame fun k hk=>sd (tw @NZ (tw @NV (tw @NW (tw @NX (tw @NY @N0)))))⟩) (.inr ⟨⟨240025002,x1+1+1+1+1⟩,sd @SA,by rw[Sv];exact ke _ _ (x1+1+1+1+1+1) _ (by omega) (by(try dsimp only);omega) (by(try dsimp only);omega) (sd @DL) (sd @eN.eq_1) (fun j hj hv=>by
     have q1:=dq (i:=j) (n:=x1) (by omega)
     have q2:=gS hj (b:=240017000) (v:=st_b.next+1+1) (by decide)
     have q3:(j=o)=False:=by simp only[eq_iff_iff,iff_false];intro h;rw[h,xC]at hj;cases hj
     simp only[go_sem, ↓reduceIte,Nat.reduceEqDiff,Nat.reduceAdd,Nat.reduceSub,Nat.reduceLeDiff,reduceCtorEq,q1,q2,q3])⟩)
    all_goals simp only[go_sem, ↓reduceIte,Nat.reduceEqDiff,Nat.reduceAdd,Nat.reduceSub,Nat.reduceLeDiff,reduceCtorEq,c81,cg0,cg1,zb,KR,KS,PU,qv,Q2,PL]
  ·obtain⟨mH,IY,dM⟩:=yD hL hr
   obtain⟨QQ,Sv⟩:=Du hL hr
   have SA:(leads (x+1) L).length=(leads x L).length:=by rw[gM,if_neg hr];simp
   have Lu:=DW hr
   rcases cI1 with⟨rfl,nL⟩|⟨o,nL,cS⟩
   ·exact absurd (Nat.le_zero.1 (hL.le 0)) hr
   ·obtain⟨rows,id,vL,sf,hrk,hid,IK,hidv,TK⟩:=cS.add QQ x
    rw[qo]at sf
    have xC:o.site=240025002:=by obtain⟨_,_,_,_,_,_,h,_⟩:=cS;exact h
    have pK:o.bq<x1:=by obtain⟨_,_,_,_,_,_,_,h⟩:=cS;omega
    have qv:=dq pK
    have yq:=dq (i:=id) (n:=x1) (by omega)
    have lh:(bH L x:Int)<((leads x L).length:Int):=by omega
    have QZ:=B7 x L (L x)
    have hma:((members x L (L x)).map eN).length=(members x L (L x)).length:=by simp
    have e1:(members x L (L x)).length+1<=16777216:=by omega
    have PM:(o=id)=False:=by simp only[eq_iff_iff,iff_false];rintro rfl;rw[IK]at xC;cases xC
    have PI:(id=o)=False:=by simp only[eq_iff_iff,iff_false];rintro rfl;rw[IK]at xC;cases xC
    have Q2:=gS (o:=o) xC (b:=240017000) (v:=st_b.next+1+1) (by decide)
    have PL:=gS (o:=o) xC (b:=240001001) (v:=n0+1) (by decide)
    have hiM:=gS (o:=id) IK (b:=240017000) (v:=st_b.next+1+1) (by decide)
    have hiT:=gS (o:=id) IK (b:=240001001) (v:=n0+1) (by decide)
    have N0:∀k,(G k=o)=False:=fun k=>by simp only[eq_iff_iff,iff_false];intro h;have h1:=Sb k;rw[h,xC]at h1;cases h1
    have Tu:∀k,(G k=id)=False:=fun k=>by simp only[eq_iff_iff,iff_false];intro h;have h1:=Sb k;rw[h,IK]at h1;cases h1
    (try((repeat(revert hN;revert N;apply Pn.out));refine wk (tw @c81 (tw @cg0 (tw @cg1 (tw @zb (tw @KR (tw @KS (tw @nL (tw @ra (tw @mH (tw @IY (tw @vL (tw @sf (tw @hrk (tw @hid (tw @qv (tw @yq (tw @lh (tw @hma (tw @e1 (tw @PM (tw @PI (tw @Q2 (tw @PL (tw @hiM (tw @hiT (tw @oS (tw @oT (tw @Bool.not_false @Bool.not_true)))))))))))))))))))))))))))) ?_;(repeat(refine Pn.mk ?_;intro N hN))))
    refine ib ?_ ?_ ?_ (by(try dsimp only);exact⟨by omega,Qi.frame fun k hk=>sd (tw @NZ (tw @NV (tw @NW (tw @NX (tw @NY (tw @N0 @Tu))))))⟩) (.inr ⟨o,sd (tw @SA @nL),by rw[Sv];exact TK _ (x1+1+1) _ (by omega) (by(try dsimp only);omega) (sd @Nat.zero_add) (sd (tw @qv (tw @yq (tw @PM @PI)))) (fun j hj hv mE=>by
     have q1:=dq (i:=j) (n:=x1) (by omega)
     have q2:=gS hj (b:=240017000) (v:=st_b.next+1+1) (by decide)
     have q3:(j=o)=False:=by simp only[eq_iff_iff,iff_false];intro h;rw[h,xC]at hj;cases hj
     simp only[go_sem, ↓reduceIte,Nat.reduceEqDiff,Nat.reduceAdd,Nat.reduceSub,Nat.reduceLeDiff,reduceCtorEq,q1,q2,q3,mE])⟩)
    all_goals simp only[go_sem, ↓reduceIte,Nat.reduceEqDiff,Nat.reduceAdd,Nat.reduceSub,Nat.reduceLeDiff,reduceCtorEq,c81,cg0,cg1,zb,KR,KS,Lu,qv,yq,Q2,PL,hiM,hiT]
 have UD:x=cnt:=by omega
 rcases cI1 with⟨h0,_⟩|⟨o,nL,rows,ids,vL,hR,_,_,_,_⟩
 ·omega
 have sf:=hR.len
 rw[qo]at sf
 (try((repeat(revert hN;revert N;apply Pn.out));refine wk (tw @c81 (tw @cg0 (tw @cg1 (tw @zb (tw @KR (tw @KS (tw @hx (tw @nL @vL)))))))) ?_;(repeat(refine Pn.mk ?_;intro N hN))))
 refine tL (.inl rfl) (by simp only[go_sem, ↓reduceIte,Nat.reduceEqDiff,Nat.reduceAdd,Nat.reduceSub,Nat.reduceLeDiff,reduceCtorEq];rfl) ?_
 rw[uv vL (by omega) (rows':=(fx cnt L).map AJ) (by
  rw[List.drop_zero,List.take_of_length_le (by omega)]
  rw[UD]at hR;exact Jl 3 hR)]
end Go.Proofs.YtgoelphibofcmaaGreat.V

namespace Go.Proofs.YtgoelphibofcmaaGreat.V
open Go.RowKit
attribute [local irreducible] dG wpOps gz Call
attribute [local go_sem] aL fU eV gw gr cK upd cw K.av cU AV.cells AV.cell rowOf rowsOf part ld rowAt bJ cr dK ep iC bR dj eF gq fh dz ew dh de ec ee bV bh cX bU cZ cY eu ez ev cW cj di er bS aQ db cG iA bz cN bW aX dn aZ dL AV.undef bG bK ef eo dW ea cJ eE eH cD eB eA da dc List.getD_cons_zero List.getD_cons_succ List.getD_nil List.all_cons List.all_nil Bool.and_true Bool.true_and Bool.and_self Bool.not_true Bool.not_false Option.map_some Option.map_none Option.bind_some Option.bind_none List.length_cons List.length_nil List.take_succ_cons List.take_zero List.take_nil List.drop_succ_cons List.drop_zero List.drop_nil List.head?_cons List.map_cons List.map_nil List.getElem?_cons_zero List.getElem?_cons_succ List.cons_append List.nil_append List.append_nil List.length_map List.set_cons_zero List.set_cons_succ Nat.reduceMul eq_self Int.toNat_natCast Int.natCast_nonneg and_self true_and and_true decide_true decide_false Bool.false_eq_true Nat.zero_add Nat.add_zero List.contains_cons List.contains_nil Bool.or_false Bool.false_or beq_self_eq_true Nat.reduceBEq ne_eq not_true_eq_false not_false_eq_true Id.mk.injEq false_and and_false Nat.reduceLT Int.reduceLE Int.reduceLT Int.reduceToNat Int.reduceNeg Int.reduceAdd Nat.le_refl List.length_append beq_true beq_false Bool.not_eq_eq_eq_not or_false false_or dX ai aq aH bj bE cu aW br aU bp cV bP
theorem Kk (b:PB) (t:Int):aj Tryz.prog 243 [.agg (aC b),.cQ [.int .i64 t]] (.bool (decide (b.s<t))):=by
 refine aj.body ek rfl fun hl n0=>?_
 clear hl
 (try((repeat(revert hN;revert N;apply Pn.out));refine wk @aC.eq_1 ?_;(repeat(refine Pn.mk ?_;intro N hN))))
 exact aP (b:=decide (b.s<t)) (.inl rfl) (sd @Nat.zero_add) rfl
theorem yv (bs:List PB) (t:Int) (hl:bs.length<=1048576):aj Tryz.prog 263 [.sl (bs.map aC),.fn 243 [.cQ [.int .i64 t]]] (.int .i64 (kd (fun b:PB=>decide (b.s<t)) bs)):=
 tE Ik (show lV Tryz.prog 263=some (sL 263 3 true) by kernel_rfl) bs hl 243 _ _ (fun x _=>Kk x t) fun g=>by simp only[ai,aq,aU,Option.map_some]
theorem Ic (bs:List PB) (hp:0<bs.length) (hl:bs.length<=1048576) (σ:au):
  Call Tryz.prog 242 [.sl (bs.map aC)] σ fun r σ'=>∃o:Id,r=.own o 0 bs.length/\σ'.get o=some ⟨true,3,bs.map aC⟩/\σ.next<=o.bq/\o.bq<σ'.next/\∀i:Id,i.bq<σ.next->σ'.get i=σ.get i:=by
 refine eW ek rfl fun hl=>?_
 clear hl
 have hz:=all_map (l:=bs) Ni
 obtain⟨b,r,rfl⟩:∃b r,bs=b::r:=by
  cases bs with
  |nil=>simp at hp
  |cons b r=>exact⟨b,r,rfl⟩
 have pa:(List.map aC (b::r)).length=(b::r).length:=by simp
 have e1:r.length<=16777215:=by simp at hl;omega
 rw[List.map_cons]at hz pa ⊢
 (try((repeat(revert hN;revert N;apply Pn.out));refine wk (tw @hz (tw @pa @e1)) ?_;(repeat(refine Pn.mk ?_;intro N hN))))
 refine fc (.inl rfl) (vs:=[.own ⟨242003002,σ.next+1+1⟩ 0 (b::r).length]) (by simp only[fm,ig,go_sem, ↓reduceIte,Nat.reduceEqDiff,Nat.reduceAdd,Nat.reduceSub,Nat.reduceLeDiff,reduceCtorEq,List.length_cons]) ⟨⟨242003002,σ.next+1+1⟩,rfl,sd @Nat.zero_add,by(try dsimp only);omega,by(try dsimp only);omega,fun i hi=>?_⟩
 have hv:=dq hi
 simp only[go_sem, ↓reduceIte,Nat.reduceEqDiff,Nat.reduceAdd,Nat.reduceSub,Nat.reduceLeDiff,reduceCtorEq,hv]
theorem oR {t:Int} {bs:List PB} {j:Nat} (hj:j<bs.length):aE t (bs.take (j+1))=aE t (bs.take j)++if decide (bs[j].s<t)=true then[]else[bs[j]]:=by
 rw[tP t bs j hj]
 congr 1
 by_cases h:bs[j].s<t
 ·rw[if_neg (by omega),if_pos (decide_eq_true h)]
 ·rw[if_pos (by omega),if_neg (by simp only[decide_eq_true_eq];exact h)]
theorem tO {t:Int} {bs:List PB} (h:∀b∈bs,¬b.s<t):aE t bs=bs:=by
 unfold aE
 rw[List.filter_eq_self]
 intro b hb
 have:=h b hb
 exact decide_eq_true (by omega)
structure tR (t:Int) (bs:List PB) (j:Nat) (R:List PB):Prop where
 len:R.length=bs.length
 pre:R.take (aE t (bs.take j)).length=aE t (bs.take j)
 post:∀x,j<=x->R[x]? =bs[x]?
 lt:(aE t (bs.take j)).length<j
theorem tR.start {t:Int} {bs:List PB} {i:Nat} (hi:i<bs.length) (hw:bs[i].s<t) (hp:∀x (h:x<i),¬bs[x].s<t):tR t bs (i+1) bs/\(aE t (bs.take (i+1))).length=i:=by
 have h1:aE t (bs.take i)=bs.take i:=tO fun b hb=>by
  obtain⟨x,hx,rfl⟩:=List.getElem_of_mem hb
  rw[List.length_take]at hx
  rw[List.getElem_take]
  exact hp x (by omega)
 have h2:aE t (bs.take (i+1))=bs.take i:=by rw[oR hi,if_pos (decide_eq_true hw),List.append_nil,h1]
 have h3:(bs.take i).length=i:=by rw[List.length_take];omega
 exact⟨⟨rfl,by rw[h2,h3],fun _ _=>rfl,by rw[h2,h3];omega⟩,by rw[h2,h3]⟩
theorem tR.RK {t:Int} {bs R:List PB} {j:Nat} (h:tR t bs j R) (hj:j<bs.length) (hw:bs[j].s<t):tR t bs (j+1) R/\(aE t (bs.take (j+1))).length=(aE t (bs.take j)).length:=by
 have h2:aE t (bs.take (j+1))=aE t (bs.take j):=by rw[oR hj,if_pos (decide_eq_true hw),List.append_nil]
 exact⟨⟨h.len,by rw[h2];exact h.pre,fun x hx=>h.post x (by omega),by rw[h2];have:=h.lt;omega⟩,by rw[h2]⟩
theorem tR.qx {t:Int} {bs R:List PB} {j:Nat} (h:tR t bs j R) (hj:j<bs.length) (hw:¬bs[j].s<t):tR t bs (j+1) (R.set (aE t (bs.take j)).length bs[j])/\(aE t (bs.take (j+1))).length=(aE t (bs.take j)).length+1:=by
 have h2:aE t (bs.take (j+1))=aE t (bs.take j)++[bs[j]]:=by rw[oR hj,if_neg (by simp only[decide_eq_true_eq];exact hw)]
 have dM:=h.lt
 have hlen:=h.len
 have ud:=h.pre
 generalize hc:(aE t (bs.take j)).length=c at *
 refine⟨⟨by rw[List.length_set];exact hlen,?_,fun x hx=>?_,by rw[h2,List.length_append,hc];simp;omega⟩,by rw[h2,List.length_append,hc];rfl⟩
 ·rw[h2,List.length_append,hc,List.length_singleton,List.take_succ_eq_append_getElem (by rw[List.length_set];omega),List.getElem_set_self,List.take_set_of_le (Nat.le_refl _),ud]
 ·rw[List.getElem?_set_ne (by omega)];exact h.post x (by omega)
theorem tR.at_ {t:Int} {bs R:List PB} {j:Nat} (h:tR t bs j R) (hj:j<bs.length):(R.map aC)[j]? =some (aC bs[j]):=by
 rw[List.getElem?_map,h.post j (Nat.le_refl j),List.getElem?_eq_getElem hj];rfl
theorem Dk {p:PB->Bool} {bs:List PB} (h:¬0<=kd p bs):∀b∈bs,p b=false:=by
 intro b hb
 unfold kd at h
 split at h
 ·omega
 ·rename_i h1
  rw[List.findIdx_lt_length]at h1
  cases hp:p b
  ·rfl
  ·exact absurd ⟨b,hb,hp⟩ h1
theorem Dl {p:PB->Bool} {bs:List PB} (h:0<=kd p bs):∃i,∃hi:i<bs.length,kd p bs=(i:Int)/\p bs[i]=true/\∀x (hx:x<i),p (bs[x]'(by omega))=false:=by
 unfold kd at h ⊢
 split
 ·rename_i h1
  exact⟨bs.findIdx p,h1,rfl,List.findIdx_getElem,fun x hx=>by simpa using List.not_of_lt_findIdx hx⟩
 ·rename_i h1;rw[if_neg h1]at h;omega
theorem F7 (bs:List PB) (t:Int) (hl:bs.length<=1048576) (o T:Id) (σ:au) (ho:σ.get o=some ⟨true,3,bs.map aC⟩) (hT:σ.get T=some ⟨true,1,[[.int .i64 t]]⟩) (pK:o.bq<σ.next) (Sh:T.bq<σ.next) (PL:o≠T):
  Call Tryz.prog 241 [.own o 0 bs.length,.fn 243 [.ptr T 0 0]] σ fun r σ'=>∃rows,r=.own o 0 (aE t bs).length/\σ'.get o=some ⟨true,3,rows⟩/\rows.take (aE t bs).length=(aE t bs).map aC/\(aE t bs).length<=rows.length/\σ.next<=σ'.next/\∀i:Id,i.bq<σ.next->i≠o->σ'.get i=σ.get i:=by
 refine eW ek rfl fun mV=>?_
 clear mV
 have CT:=yv bs t hl
 have hzT:∀(g:Rows),g T=some ⟨true,1,[[.int .i64 t]]⟩->V.fz (dX g) 5 (.ptr T 0 0)=some (.cQ [.int .i64 t]):=fun g hg=>zq (sz:=1) (rows:=[[.int .i64 t]]) (by simp[dX,hg]) rfl (by simp only[List.drop_zero,ai,aq,aH,Option.map_some])
 have xe:∀(g:Rows),g T=some ⟨true,1,[[.int .i64 t]]⟩->g o=some ⟨true,3,bs.map aC⟩->cL (dX g) 6 [.own o 0 bs.length,.fn 243 [.ptr T 0 0]]=some [.sl (bs.map aC),.fn 243 [.cQ [.int .i64 t]]]:=fun g h1 h2=>by
  have q1:=ik (g:=dX g) (n:=5) (e:=aC) (sz:=3) (len:=bs.length) (l:=bs) (id:=o) (by simp[dX,h2]) rfl fun b=>zo _ 4 b
  have q2:=hzT g h1
  simp only[ai,aq,q1,cV,List.all_cons,List.all_nil,AV.cell,Bool.and_true,if_true,q2,Option.map_some]
 have kh:∀(g:Rows),g T=some ⟨true,1,[[.int .i64 t]]⟩->∀b:PB,cL (dX g) 6 [.agg (aC b),.ptr T 0 0]=some [.agg (aC b),.cQ [.int .i64 t]]:=fun g h1 b=>by
  have q3:V.fz (dX g) 6 (.ptr T 0 0)=some (.cQ [.int .i64 t]):=zq (sz:=1) (rows:=[[.int .i64 t]]) (by simp[dX,h1]) rfl (by simp only[List.drop_zero,ai,aq,aH,Option.map_some])
  simp only[ai,aq,br,zo,q3,Option.map_some]
 (try((repeat(revert hN;revert N;apply Pn.out));refine wk @Nat.zero_add ?_;(repeat(refine Pn.mk ?_;intro N hN))))
 refine .inl ⟨_,aj.x CT (xe _ hT ho),?_⟩
 refine hN _ _ ?_
 clear hN N
 by_cases h0:0<=kd (fun b:PB=>decide (b.s<t)) bs
 ·obtain⟨i,hi,Hz,hpi,Ls⟩:=Dl h0
  rw[Hz]at *
  have Lm:decide ((i:Int)= -1)=false:=decide_eq_false (by omega)
  have Re:IntKind.i64.wrap ((i:Int)+1)=((i+1:Nat):Int):=aA (by omega)
  obtain⟨dB,DL⟩:=tR.start (t:=t) hi (by simpa using hpi) (fun x hx=>by simpa using Ls x hx)
  (try((repeat(revert hN;revert N;apply Pn.out));refine wk (tw @Lm @Re) ?_;(repeat(refine Pn.mk ?_;intro N hN))))
  refine aI (fun m env st=>∃(j:Nat) (R:List PB),m=bs.length-j/\env 6=.int .i64 (j:Int)/\env 5=.int .i64 ((aE t (bs.take j)).length:Int)/\st.get o=some ⟨true,3,R.map aC⟩/\tR t bs j R/\j<=bs.length/\σ.next<=st.next/\∀x:Id,x.bq<σ.next->(x=o)=False->st.get x=σ.get x) (bs.length-(i+1)) ⟨i+1,bs,rfl,sd @Re,sd @DL,sd @ho,dB,by omega,by(try dsimp only);omega,fun x _ _=>sd @Nat.zero_add⟩ ?_
  rintro m env_b st_b ⟨j,R,rfl,b6,b5,bg,hD,gR,hle,kq⟩ eS
  have b0:=eS 0 (by kernel_rfl)
  have b1:=eS 1 (by kernel_rfl)
  simp only[go_sem, ↓reduceIte,Nat.reduceEqDiff,Nat.reduceAdd,Nat.reduceSub,Nat.reduceLeDiff,reduceCtorEq]at b0 b1
  clear eS
  have bT:=(kq T Sh (by simp only[eq_iff_iff,iff_false];exact fun h=>PL h.symm)).trans hT
  have kG:=dq (i:=o) (n:=st_b.next) (by omega)
  have UA:=dq (i:=T) (n:=st_b.next) (by omega)
  have hRl:=hD.len
  have TE:(R.map aC).length=bs.length:=by rw[List.length_map,hRl]
  have dM:=hD.lt
  by_cases hj:(j:Int)<(bs.length:Int)
  ·have iO:j<bs.length:=by omega
   have Hw:=hD.at_ iO
   have OC:=Kk bs[j] t
   have SM:IntKind.i64.wrap ((j:Int)+1)=((j+1:Nat):Int):=aA (by omega)
   have hD1:=hD.RK iO
   have hD2:=hD.qx iO
   generalize bs[j]=b at *
   (try((repeat(revert hN;revert N;apply Pn.out));refine wk (tw @b0 (tw @b1 (tw @b5 (tw @b6 (tw @bg (tw @hj (tw @Hw (tw @aC.eq_1 (tw @kG (tw @UA @TE)))))))))) ?_;(repeat(refine Pn.mk ?_;intro N hN))))
   refine .inl ⟨_,aj.x OC (kh _ (sd (tw @UA @bT)) b),?_⟩
   refine hN _ _ ?_
   clear hN N
   by_cases hw:b.s<t
   ·obtain⟨Tq,Tp⟩:=hD1 hw
    have hd:decide (b.s<t)=true:=decide_eq_true hw
    (try((repeat(revert hN;revert N;apply Pn.out));refine wk (tw @b0 (tw @b1 (tw @b5 (tw @b6 (tw @hd @SM))))) ?_;(repeat(refine Pn.mk ?_;intro N hN))))
    refine⟨_,?_,j+1,R,rfl,sd @SM,sd (tw @b5 @Tp),sd (tw @bg @kG),Tq,by omega,by(try dsimp only);omega,fun x hx AO=>?_⟩
    ·omega
    ·have PW:=dq (i:=x) (n:=st_b.next) (by omega)
     have:=kq x hx AO
     simp only[go_sem, ↓reduceIte,Nat.reduceEqDiff,Nat.reduceAdd,Nat.reduceSub,Nat.reduceLeDiff,reduceCtorEq,PW,this]
   ·obtain⟨Tq,Tp⟩:=hD2 hw
    have hd:decide (b.s<t)=false:=decide_eq_false hw
    have TM:((aE t (bs.take j)).length:Int)<(bs.length:Int):=by omega
    have hwc:IntKind.i64.wrap (((aE t (bs.take j)).length:Int)+1)=(((aE t (bs.take j)).length+1:Nat):Int):=aA (by omega)
    have dO:(R.map aC).set (aE t (bs.take j)).length [.int .i64 (b.a:Int),.int .i64 (b.b:Int),.int .i64 b.s]=(R.set (aE t (bs.take j)).length b).map aC:=by rw[List.map_set];rfl
    have Su:∃y,(R.map aC)[(aE t (bs.take j)).length]? =some (aC y):=⟨R[(aE t (bs.take j)).length]'(by omega),by rw[List.getElem?_map,List.getElem?_eq_getElem (by omega)];rfl⟩
    obtain⟨y,Su⟩:=Su
    rw[aC]at Su
    (try((repeat(revert hN;revert N;apply Pn.out));refine wk (tw @b0 (tw @b1 (tw @b5 (tw @b6 (tw @bg (tw @hd (tw @SM (tw @hwc (tw @TM (tw @dO (tw @Su (tw @kG (tw @UA @TE))))))))))))) ?_;(repeat(refine Pn.mk ?_;intro N hN))))
    refine⟨_,?_,j+1,_,rfl,sd @SM,sd (tw @hwc @Tp),sd @dO,Tq,by omega,by(try dsimp only);omega,fun x hx AO=>?_⟩
    ·omega
    ·have PW:=dq (i:=x) (n:=st_b.next) (by omega)
     have:=kq x hx AO
     simp only[go_sem, ↓reduceIte,Nat.reduceEqDiff,Nat.reduceAdd,Nat.reduceSub,Nat.reduceLeDiff,reduceCtorEq,PW,this,AO]
  ·have gR:j=bs.length:=by omega
   subst gR
   have ud:=hD.pre
   rw[List.take_length]at b5 dM ud
   have TM:((aE t bs).length:Int)<=(bs.length:Int):=by omega
   have QC:(aE t bs).length<=bs.length:=by omega
   have qt:(aE t bs).length+(bs.length-(aE t bs).length)=bs.length:=by omega
   have DL:=nr t bs
   (try((repeat(revert hN;revert N;apply Pn.out));refine wk (tw @b0 (tw @b1 (tw @b5 (tw @b6 (tw @bg (tw @hj (tw @TE (tw @TM (tw @QC (tw @qt (tw @Nat.le_refl (tw @Nat.sub_zero (tw @Int.le_refl @kG))))))))))))) ?_;(repeat(refine Pn.mk ?_;intro N hN))))
   refine fc (.inl rfl) (vs:=[.own o 0 (aE t bs).length]) (sd @Nat.zero_add) ⟨_,rfl,by simp only[go_sem, ↓reduceIte,Nat.reduceEqDiff,Nat.reduceAdd,Nat.reduceSub,Nat.reduceLeDiff,reduceCtorEq];rfl,?_,?_,by(try dsimp only);omega,fun x hx AO=>?_⟩
   ·have hm:List.take (aE t bs).length (List.map aC R)=(aE t bs).map aC:=by rw[<-List.map_take,ud]
    rw[hm,List.append_assoc,List.take_append_of_le_length (by simp),List.take_of_length_le (by simp)]
   ·have hm:List.take (aE t bs).length (List.map aC R)=(aE t bs).map aC:=by rw[<-List.map_take,ud]
    rw[hm]
    simp only[List.length_append,List.length_map]
    omega
   ·have Rf:(x=o)=False:=by simp only[eq_iff_iff,iff_false];exact AO
    have:=kq x hx Rf
    simp only[go_sem, ↓reduceIte,Nat.reduceEqDiff,Nat.reduceAdd,Nat.reduceSub,Nat.reduceLeDiff,reduceCtorEq,Rf,this]
 ·have hn:=Dk h0
  have dB:=tO (t:=t) (bs:=bs) fun b hb=>by simpa using hn b hb
  have hd:decide (kd (fun b:PB=>decide (b.s<t)) bs= -1)=true:=decide_eq_true (by
   unfold kd at h0 ⊢
   split
   ·rename_i h;rw[if_pos h]at h0;omega
   ·rfl)
  (try((repeat(revert hN;revert N;apply Pn.out));refine wk @hd ?_;(repeat(refine Pn.mk ?_;intro N hN))))
  refine fc (.inl rfl) (vs:=[.own o 0 bs.length]) (sd @Nat.zero_add) ⟨bs.map aC,by rw[dB];rfl,sd @ho,by rw[dB,List.take_of_length_le (by simp)],by rw[dB];simp,by(try dsimp only);omega,fun x _ _=>rfl⟩
end Go.Proofs.YtgoelphibofcmaaGreat.V

namespace Go.Proofs.YtgoelphibofcmaaGreat.V
open Go.RowKit
attribute [local irreducible] dG wpOps gz Call
attribute [local go_sem] aL fU eV gw gr cK upd cw K.av cU AV.cells AV.cell rowOf rowsOf part ld rowAt bJ cr dK ep iC bR dj eF gq fh dz ew dh de ec ee bV bh cX bU cZ cY eu ez ev cW cj di er bS aQ db cG iA bz cN bW aX dn aZ dL AV.undef bG bK ef eo dW ea cJ eE eH cD eB eA da dc List.getD_cons_zero List.getD_cons_succ List.getD_nil List.all_cons List.all_nil Bool.and_true Bool.true_and Bool.and_self Bool.not_true Bool.not_false Option.map_some Option.map_none Option.bind_some Option.bind_none List.length_cons List.length_nil List.take_succ_cons List.take_zero List.take_nil List.drop_succ_cons List.drop_zero List.drop_nil List.head?_cons List.map_cons List.map_nil List.getElem?_cons_zero List.getElem?_cons_succ List.cons_append List.nil_append List.append_nil List.length_map List.set_cons_zero List.set_cons_succ Nat.reduceMul eq_self Int.toNat_natCast Int.natCast_nonneg and_self true_and and_true decide_true decide_false Bool.false_eq_true Nat.zero_add Nat.add_zero List.contains_cons List.contains_nil Bool.or_false Bool.false_or beq_self_eq_true Nat.reduceBEq ne_eq not_true_eq_false not_false_eq_true Id.mk.injEq false_and and_false Nat.reduceLT Int.reduceLE Int.reduceLT Int.reduceToNat Int.reduceNeg Int.reduceAdd Nat.le_refl List.length_append beq_true beq_false Bool.not_eq_eq_eq_not or_false false_or dX ai aq aH bj bE cu aW br aU bp cV bP
end Go.Proofs.YtgoelphibofcmaaGreat.V

namespace Go.Proofs.YtgoelphibofcmaaGreat.V
open Go.RowKit
attribute [local irreducible] dG wpOps gz Call
attribute [local go_sem] aL fU eV gw gr cK upd cw K.av cU AV.cells AV.cell rowOf rowsOf part ld rowAt bJ cr dK ep iC bR dj eF gq fh dz ew dh de ec ee bV bh cX bU cZ cY eu ez ev cW cj di er bS aQ db cG iA bz cN bW aX dn aZ dL AV.undef bG bK ef eo dW ea cJ eE eH cD eB eA da dc List.getD_cons_zero List.getD_cons_succ List.getD_nil List.all_cons List.all_nil Bool.and_true Bool.true_and Bool.and_self Bool.not_true Bool.not_false Option.map_some Option.map_none Option.bind_some Option.bind_none List.length_cons List.length_nil List.take_succ_cons List.take_zero List.take_nil List.drop_succ_cons List.drop_zero List.drop_nil List.head?_cons List.map_cons List.map_nil List.getElem?_cons_zero List.getElem?_cons_succ List.cons_append List.nil_append List.append_nil List.length_map List.set_cons_zero List.set_cons_succ Nat.reduceMul eq_self Int.toNat_natCast Int.natCast_nonneg and_self true_and and_true decide_true decide_false Bool.false_eq_true Nat.zero_add Nat.add_zero List.contains_cons List.contains_nil Bool.or_false Bool.false_or beq_self_eq_true Nat.reduceBEq ne_eq not_true_eq_false not_false_eq_true Id.mk.injEq false_and and_false Nat.reduceLT Int.reduceLE Int.reduceLT Int.reduceToNat Int.reduceNeg Int.reduceAdd Nat.le_refl List.length_append beq_true beq_false Bool.not_eq_eq_eq_not or_false false_or dX ai aq aH bj bE cu aW br aU bp cV bP
theorem tM:∀ps:List ar,∃qs,lZ qs/\(∀x,x∈qs↔x∈ps)/\qs.length<=ps.length
 |[]=>⟨[],List.Pairwise.nil,fun x=>Iff.rfl,Nat.le_refl _⟩
 |p::r=>by
  obtain⟨qs,h1,h2,h3⟩:=tM r
  exact⟨oN qs p,Cm h1 p,fun x=>by rw[B6,h2,List.mem_cons],by have:=Cl qs p;rw[List.length_cons];omega⟩
end Go.Proofs.YtgoelphibofcmaaGreat.V

namespace Go.Proofs.YtgoelphibofcmaaGreat.V
open Go.RowKit Go.Shelf
attribute [local go_sem] Oper.semAt_some
structure pC (W:World) (v:Value) (l:List ah):Prop where
 sl:∃A c,v=.slice A l.length c/\(l.length<=c/\c<=maxLen)/\(l=[]∨∃b o,A=some ⟨b,o,none⟩/\∀i,i<l.length->W.cell? ⟨b,o+(i*3+0),none⟩=some (.int .i64 (aT l i).aO.eY)/\W.cell? ⟨b,o+(i*3+1),none⟩=some (.int .i64 (aT l i).aO.eU)/\W.cell? ⟨b,o+(i*3+2),none⟩=some (.int .i64 (aT l i).bd))
structure HN (K:World->World->Prop) (v:Value) (l:List ah):Prop where
 refl:∀W,K W W
 trans:∀{A B C:World},K A B->K B C->K A C
 of:∀{W W':World},Below W.heap.size W W'->K W W'
 size:∀{W W':World},K W W'->W.heap.size<=W'.heap.size
 typed:∀{W W':World},K W W'->∀(b:Nat) (cells:Array Value) (T:TypeId) (fr:Nat×Nat),W.heap[b]? =some (Obj.cells cells T fr)->T≠226->T≠246->W'.heap[b]? =W.heap[b]?
 pl:∀{W W':World},K W W'->pC W v l->pC W' v l
theorem uq {W:World} {b x:Nat} {v:Value} (h:W.cell? ⟨b,x,none⟩=some v):b<W.heap.size:=by
 rcases Nat.lt_or_ge b W.heap.size with h1|h1
 ·exact h1
 ·simp[World.cell?,Array.getElem?_eq_none h1]at h
theorem pC.below {W W':World} {v:Value} {l:List ah} (h:pC W v l) (k:Below W.heap.size W W'):pC W' v l:=by
 obtain⟨A,c,rfl,hm,hc⟩:=h.sl
 refine⟨A,c,rfl,hm,?_⟩
 rcases hc with h0|⟨b,o,rfl,kg⟩
 ·exact .inl h0
 ·refine .inr ⟨b,o,rfl,fun i hi=>?_⟩
  obtain⟨h1,h2,h3⟩:=kg i hi
  have hb:=uq h1
  exact⟨(k.cell (p:=⟨b,_,none⟩) hb).trans h1,(k.cell (p:=⟨b,_,none⟩) hb).trans h2,(k.cell (p:=⟨b,_,none⟩) hb).trans h3⟩
theorem pC.eP {P:Program} {W:World} {v:Value} {l:List ah} (h:pC W v l):jF P W (fun b=>b<W.heap.size) (.sl (l.map ad)) v:=by
 obtain⟨A,c,rfl,hm,hc⟩:=h.sl
 rcases hc with rfl|⟨b,o,rfl,kg⟩
 ·exact .AP A c (by simpa using hm.2)
 by_cases BA:l=[]
 ·subst BA;exact .AP _ c (by simpa using hm.2)
 ·have lp:0<l.length:=List.length_pos_iff.2 BA
  have hb:=uq (kg 0 lp).1
  refine .sl (l.map ad) b o l.length c 3 (fun i j=>if j=0 then .int .i64 (aT l i).aO.eY else if j=1 then .int .i64 (aT l i).aO.eU else .int .i64 (aT l i).bd) (by simp) hm.1 hm.2 hb (fun cs dw=>?_) (fun cs dw a ha=>?_) (fun i j hi hj=>?_) (fun i j cs a hi hj=>?_)
  ·obtain⟨x,_,rfl⟩:=List.mem_map.1 dw;rfl
  ·obtain⟨x,_,rfl⟩:=List.mem_map.1 dw
   simp[ad]at ha
   rcases ha with rfl|rfl|rfl<;>rfl
  ·obtain⟨h1,h2,h3⟩:=kg i hi
   match j,hj with
   |0,_=>exact h1
   |1,_=>exact h2
   |2,_=>exact h3
   |j+3,hj=>omega
  ·have mb:i<l.length:=by have:=(List.getElem?_eq_some_iff.1 hi).1;simpa using this
   rw[fN mb]at hi
   injection hi with hi
   subst hi
   match j,hj with
   |0,hj=>simp[ad]at hj;subst hj;exact .int _ _
   |1,hj=>simp[ad]at hj;subst hj;exact .int _ _
   |2,hj=>simp[ad]at hj;subst hj;exact .int _ _
   |j+3,hj=>simp[ad]at hj
theorem A7 {P:Program} (hm:P.follows .mixedOrders=true) {f:Nat} {args:List AV} {vs:Array Value} {w:World} {r:AV} (h:aj P f args r) (hr:∀g r0,gp g 6 r0=some r->r0=r) (hA:fo P w (fun b=>b<w.heap.size) (fun _=>none) args vs):
  Calls P f vs w fun e w'=>∃D ι u,e=.returned u/\cE P w' D ι r u/\Below w.heap.size w w':=by
 have hs:=gj hm (h 0) w.heap.size (fun b=>b<w.heap.size) (fun _=>none) w vs ⟨Nat.le_refl _,fun _ h=>h,fun id r h=>(by cases h),fun id jU r r' B B' h=>(by cases h)⟩ (fun id h=>absurd rfl h) hA
 refine hs.mono ?_
 rintro e w' ⟨r0,g',n',D',ι',u,rfl,⟨r',hz,rfl⟩,dB,hsim,_,_,gH⟩
 have:=hr _ _ hz
 subst this
 exact⟨D',ι',u,rfl,gH,dB.below⟩
theorem oz {g:Rows} {n:Nat} {a:AV} {k:IntKind} {m:Int} (h:gp g (n+1) a=some (.int k m)):a=.int k m:=by
 cases a<;>rw[gp]at h<;>simp_all
 all_goals (repeat' (split at h))<;>simp_all
theorem Ds {g:Rows} {a:AV} {x y:Int} (h:gp g 6 a=some (.agg [.int .i64 x,.int .i64 y])):a=.agg [.int .i64 x,.int .i64 y]:=by
 cases a with
 |agg cs=>
  rw[K3]at h
  simp only[Option.map_eq_some_iff,AV.agg.injEq,exists_eq_right]at h
  match cs,h with
  |[],h=>rw[cz]at h;simp at h
  |[a],h=>
   rw[bB,cz]at h
   cases ha:gp g 5 a<;>simp[ha]at h
  |[a,b],h=>
   rw[bB,bB,cz]at h
   cases ha:gp g 5 a<;>cases hb:gp g 5 b<;>simp[ha,hb]at h
   obtain⟨rfl,rfl⟩:=h
   rw[oz ha,oz hb]
  |a::b::c::r,h=>
   rw[bB,bB,bB]at h
   cases ha:gp g 5 a<;>cases hb:gp g 5 b<;>cases hc:gp g 5 c<;>cases hd:eb g 5 r<;>simp[ha,hb,hc,hd]at h
 |_=>rw[gp]at h<;>simp_all<;>(repeat' (split at h))<;>simp_all
theorem Es (W:World) (p:ar) (d:Int) (hd:iH d 0 3=true) (hx:iB p.eY) (hy:iB p.eU):Calls Tryz.prog 149 #[.agg #[.int .i64 p.eY,.int .i64 p.eU],.int .i64 d] W fun e W'=>e=.returned (.agg #[.int .i64 (cq p d).eY,.int .i64 (cq p d).eU])/\Below W.heap.size W W':=by
 refine(A7 mixed (wN p d hd hx hy) (fun g r0 h=>Ds h) ?_:Calls _ _ _ _ _).mono ?_
 ·exact ml (vs:= #[.int .i64 d]) (.agg _ _ (fun j=>if j=0 then .int .i64 p.eY else .int .i64 p.eU) rfl (fun a ha=>by simp[aa]at ha;rcases ha with rfl|rfl<;>rfl) (fun j hj=>by match j,hj with|0,_=>rfl|1,_=>rfl|j+2,hj=>simp[aa]at hj;omega) (fun j a ha=>by match j,ha with|0,ha=>simp[aa]at ha;subst ha;exact .int _ _|1,ha=>simp[aa]at ha;subst ha;exact .int _ _|j+2,ha=>simp[aa]at ha)) (ml (vs:= #[]) (.int _ _) wC)
 ·rintro e W' ⟨D,ι,u,rfl,hr,hB⟩
  refine⟨?_,hB⟩
  obtain⟨vs,f,rfl,ft,_,h1,h2⟩:=iP hr
  have v0:=h1 0 (by simp[aa])
  have v1:=h1 1 (by simp[aa])
  rw[dr (h2 0 _ rfl)]at v0
  rw[dr (h2 1 _ rfl)]at v1
  obtain⟨vl⟩:=vs
  match vl,ft with
  |[a,b],_=>
   simp at v0 v1
   rw[v0,v1]
theorem xJ (W:World) (l:List ah) (v:Value) (hP:pC W v l) (p:ar) (hR:xi l) (Gf:l.length<=1048576):Calls Tryz.prog 265 #[.agg #[v],.agg #[.int .i64 p.eY,.int .i64 p.eU]] W fun e W'=>e=.returned (.int .i64 (eL l p))/\Below W.heap.size W W':=by
 refine(A7 mixed (GU l p hR Gf) (fun g r0 h=>oz h) ?_:Calls _ _ _ _ _).mono ?_
 ·exact ml (vs:= #[.agg #[.int .i64 p.eY,.int .i64 p.eU]]) (.agg _ _ (fun _=>v) rfl (fun a ha=>by simp at ha;rw[ha];rfl) (fun j hj=>by match j,hj with|0,_=>rfl|j+1,hj=>simp at hj) (fun j a ha=>by match j,ha with|0,ha=>simp at ha;subst ha;exact hP.eP|j+1,ha=>simp at ha)) (ml (vs:= #[]) (.agg _ _ (fun j=>if j=0 then .int .i64 p.eY else .int .i64 p.eU) rfl (fun a ha=>by simp[aa]at ha;rcases ha with rfl|rfl<;>rfl) (fun j hj=>by match j,hj with|0,_=>rfl|1,_=>rfl|j+2,hj=>simp[aa]at hj;omega) (fun j a ha=>by match j,ha with|0,ha=>simp[aa]at ha;subst ha;exact .int _ _|1,ha=>simp[aa]at ha;subst ha;exact .int _ _|j+2,ha=>simp[aa]at ha)) wC)
 ·rintro e W' ⟨D,ι,u,rfl,hr,hB⟩
  exact⟨by rw[dr hr],hB⟩
theorem grown_of {W W':World} (h:Below W.heap.size W W'):W.grownBy W' none:=⟨h.os,h.tape,h.output,h.size,fun k hk _=>h.block k hk⟩
def Ce (l:List ah) (i:Nat) (d:Int):List (Nat×Nat×Int):=if 0<=eL l (cq (aT l i).aO d)then[(i,(eL l (cq (aT l i).aO d)).toNat,d)]else[]
def kW (l:List ah) (i m:Nat):List (Nat×Nat×Int):=(List.range m).flatMap fun j:Nat=>Ce l i (1-(j:Int))
def lr (l:List ah) (n:Nat):List (Nat×Nat×Int):=(List.range n).flatMap fun i=>kW l i 2
theorem mj (l:List ah) (n:Nat):lr l (n+1)=lr l n++kW l n 2:=by simp[lr,List.range_succ]
theorem nh (l:List ah) (i m:Nat):kW l i (m+1)=kW l i m++Ce l i (1-(m:Int)):=by simp[kW,List.range_succ]
theorem OK (l:List ah) {k m:Nat} (hk:k<l.length) (hm:m<=2):lr l k++kW l k m <+:lr l l.length:=by
 have h1:∀d,lr l k <+:lr l (k+d):=fun d=>by
  induction d with
  |zero=>exact List.prefix_refl _
  |succ d ih=>rw[<-Nat.add_assoc,mj l (k+d)];exact ih.trans (List.prefix_append _ _)
 have h2:∀d,lr l (k+1) <+:lr l (k+1+d):=fun d=>by
  induction d with
  |zero=>exact List.prefix_refl _
  |succ d ih=>rw[<-Nat.add_assoc,mj l (k+1+d)];exact ih.trans (List.prefix_append _ _)
 have h3:=h2 (l.length-(k+1))
 rw[show k+1+(l.length-(k+1))=l.length by omega,mj]at h3
 refine List.IsPrefix.trans ?_ h3
 have h4:kW l k m <+:kW l k 2:=by
  have:m=0∨m=1∨m=2:=by omega
  rcases this with rfl|rfl|rfl
  ·exact List.nil_prefix
  ·rw[nh l k 1];exact List.prefix_append _ _
  ·exact List.prefix_refl _
 exact(List.prefix_append_right_inj _).2 h4
def Qa (l:List ah) (x:Nat×Nat×Int):Prop:=x.1<l.length/\x.2.1<l.length/\(0<=x.2.2/\x.2.2<=1)
def E5 (x:Nat×Nat×Int):Array Value:= #[.agg #[.int .i64 (x.1:Int),.int .i64 (x.2.1:Int)],.int .i64 x.2.2]
theorem LC (l:List ah) (p:ar) (h:0<l.length:=by omega):eL l p<(l.length:Int):=by
 unfold eL
 split<;>omega
theorem Rs (l:List ah) (hA:iW l) (q Ba:Nat) (vS:Value) (K:World->World->Prop) (kl:HN K vS l) (J Jx:List (Nat×Nat×Int)->World->Prop) (n:Nat) (hn:1<=n)
  (hY:∀pre x W,J pre W->pre.length<(lr l l.length).length->Qa l x->YieldAt Fence.wide (n-1) Tryz.prog q (E5 x) W fun e W'=>
   (e=.returned (.bool true)/\J (pre++[x]) W'/\K W W')∨(e=.returned (.bool false)/\Jx (pre++[x]) W'))
  (W:World) (hJ:AbidesFrom W.heap.size J) (NT:W.heap[Ba]? =some (.cells #[vS] 41 (0,0))) (hP:pC W vS l) (h0:J [] W):
  CallsIn Fence.wide n Tryz.prog 264 #[.func (.yield q) #[] #[],.pointer (some ⟨Ba,0,none⟩)] W fun e W'=>(∃v,e=.returned v)/\
   ((∃ys,ys=lr l l.length/\J ys W')∨(∃pre,pre <+:lr l l.length/\Jx pre W')):=by
 obtain⟨A,cp,rfl,_,_⟩:=hP.sl
 refine callsIn_of_wp Tryz.func264 rfl trivial ?_ rfl
 simp only[Tryz.ntmps264,List.size_toArray,List.length_cons,List.length_nil,Nat.reduceAdd,Nat.reduceSub,Array.replicate_succ,Array.replicate_zero,List.push_toArray,List.append_toArray,List.nil_append,List.cons_append]
 have jI:W.cell? ⟨Ba,0,none⟩=some (.slice A l.length cp):=by simp[World.cell?,NT]
 gi_wp2
 gi_loopw [11] (fun i wr=>∃k:Nat,k<=l.length/\i=.int .i64 k/\J (lr l k) wr/\K W wr)
  (fun i _=>l.length-(intOf i).toNat)
 case atStart=>exact⟨0,Nat.zero_le _,rfl,h0,kl.refl _⟩
 case round=>
  obtain⟨k,hk,rfl,hJs,hKt⟩:=hrel
  by_cases dM:k<l.length
  ·have dw:∃b o,A=some ⟨b,o,none⟩/\wr.cell? ⟨b,o+k*3,none⟩=some (.int .i64 (aT l k).aO.eY)/\wr.cell? ⟨b,o+k*3+1,none⟩=some (.int .i64 (aT l k).aO.eU)/\wr.cell? ⟨b,o+k*3+2,none⟩=some (.int .i64 (aT l k).bd):=by
    obtain⟨A',c',hv,_,hc⟩:=(kl.pl hKt hP).sl
    cases hv
    rcases hc with rfl|⟨b,o,rfl,kg⟩
    ·simp at dM
    ·obtain⟨h1,h2,h3⟩:=kg k dM
     exact⟨b,o,rfl,by simpa using h1,by rw[Nat.add_assoc];exact h2,by rw[Nat.add_assoc];exact h3⟩
   obtain⟨b,o,rfl,hx,SN,ht⟩:=dw
   gi_wp2
   obtain⟨W2,Qy⟩:∃W2,(wr.alloc (.cells #[.int .i64 (aT l k).aO.eY,.int .i64 (aT l k).aO.eU,.int .i64 (aT l k).bd] 137)).alloc (.cells #[.int .i64 1,.int .i64 0] 2)=W2:=⟨_,rfl⟩
   have pI:Below wr.heap.size wr W2:=by rw[<-Qy];exact((Below.refl _ wr).alloc (Nat.le_refl _) _).alloc (by simp) _
   have Tx:W2.heap[wr.heap.size]? =some (.cells #[.int .i64 (aT l k).aO.eY,.int .i64 (aT l k).aO.eU,.int .i64 (aT l k).bd] 137 (0,0)):=by
    rw[<-Qy,Below.heap_alloc _ _ _ (by simp)];exact World.alloc_heap_new _ _
   have Tw:W2.heap[wr.heap.size+1]? =some (.cells #[.int .i64 1,.int .i64 0] 2 (0,0)):=by
    have:=World.alloc_heap_new (wr.alloc (.cells #[.int .i64 (aT l k).aO.eY,.int .i64 (aT l k).aO.eU,.int .i64 (aT l k).bd] 137)) (.cells #[.int .i64 1,.int .i64 0] 2)
    rw[World.size_alloc]at this
    rw[<-Qy];exact this
   have N1:K W W2:=kl.trans hKt (kl.of pI)
   have hJ2:J (lr l k++kW l k 0) W2:=by
    have:=hJ _ _ _ none hJs (grown_of pI) (fun r h=>by cases h)
    simpa[kW]using this
   rw[Qy]
   clear Qy
   generalize wr=w1 at *
   gi_loopw [18] (fun j wr=>∃m:Nat,m<=2/\j=.int .i64 m/\J (lr l k++kW l k m) wr/\K W2 wr)
    (fun j _=>2-(intOf j).toNat)
   case atStart=>exact⟨0,by omega,rfl,hJ2,kl.refl _⟩
   case round=>
    obtain⟨m,hm,rfl,hJm,MI⟩:=hrel
    have hm0:m=0∨m=1∨m=2:=by omega
    by_cases MS:m<2
    ·have hkd:=kl.typed MI _ _ _ _ Tw (by decide) (by decide)
     have Lj:=kl.typed MI _ _ _ _ Tx (by decide) (by decide)
     have hka:=kl.typed (kl.trans N1 MI) _ _ _ _ NT (by decide) (by decide)
     have cd:wr.cell? ⟨w1.heap.size+1,m,none⟩=some (.int .i64 (1-(m:Int))):=by
      rw[World.cell?_of_block hkd]
      rcases hm0 with rfl|rfl|rfl
      ·simp[World.cell?,Tw]
      ·simp[World.cell?,Tw]
      ·omega
     have ct0:wr.cell? ⟨w1.heap.size,0,none⟩=some (.int .i64 (aT l k).aO.eY):=by rw[World.cell?_of_block Lj];simp[World.cell?,Tx]
     have ct1:wr.cell? ⟨w1.heap.size,1,none⟩=some (.int .i64 (aT l k).aO.eU):=by rw[World.cell?_of_block Lj];simp[World.cell?,Tx]
     have ca:wr.cell? ⟨Ba,0,none⟩=some (.slice (some ⟨b,o,none⟩) l.length cp):=by rw[World.cell?_of_block hka];simp[World.cell?,NT]
     have hPw:pC wr (.slice (some ⟨b,o,none⟩) l.length cp) l:=kl.pl (kl.trans N1 MI) hP
     have hba:Ba<wr.heap.size:=by
      have h1:=(Array.getElem?_eq_some_iff.1 NT).1
      have h2:=kl.size (kl.trans N1 MI)
      omega
     have Lc:iH (1-(m:Int)) 0 3=true:=js (by omega)
     have Lr:=nk (hA.pt dM)
     have PU:=fun w0=>Es w0 (aT l k).aO (1-(m:Int)) Lc Lr.1 Lr.2
     have hPd:pC wr.drew (.slice (some ⟨b,o,none⟩) l.length cp) l:=hPw.below ⟨rfl,rfl,rfl,Nat.le_refl _,fun _ _=>rfl⟩
     have cad:wr.drew.cell? ⟨Ba,0,none⟩=some (.slice (some ⟨b,o,none⟩) l.length cp):=ca
     have ctd0:wr.drew.cell? ⟨w1.heap.size,0,none⟩=some (.int .i64 (aT l k).aO.eY):=ct0
     have ctd1:wr.drew.cell? ⟨w1.heap.size,1,none⟩=some (.int .i64 (aT l k).aO.eU):=ct1
     have hfw:=hA.w8
     have Od:=hA.M9
     have Ue:=mixed
     gi_wp2
     gi_region_with_o (first|(refine⟨trivial,?_⟩;gi_at_call 149;refine(callsIn_wide.2 (PU _)).mono ?_;rintro e w3 ⟨rfl,Bt⟩;have ca3:=(Bt.cell (p:=⟨Ba,0,none⟩) hba).trans cad)|(refine⟨trivial,?_⟩;gi_at_call 265;refine(callsIn_wide.2 (xJ _ l _ (hPd.below Bt) (cq (aT l k).aO (1-(m:Int))) Od (by omega))).mono ?_;rintro e w4 ⟨rfl,hB4⟩))
     all_goals
      have NS:Below wr.heap.size wr w4:=(show Below wr.heap.size wr wr.drew from⟨rfl,rfl,rfl,Nat.le_refl _,fun _ _=>rfl⟩).trans (Bt.trans (hB4.mono Bt.size))
      have hJ4:J (lr l k++kW l k m) w4:=hJ _ _ _ none hJm (grown_of NS) (fun r h=>by cases h)
      have ud:=OK l dM (m:=m+1) (by omega)
      rw[nh,<-List.append_assoc]at ud
      have jf:=nh l k m
      have hw:wrap64 ((m:Int)+1)=((m+1:Nat):Int):=by unfold wrap64;omega
      by_cases zB:0<=eL l (cq (aT l k).aO (1-(m:Int)))
      ·have fP:((eL l (cq (aT l k).aO (1-(m:Int)))).toNat:Int)=eL l (cq (aT l k).aO (1-(m:Int))):=by omega
       rw[Ce,if_pos zB]at ud jf
       obtain⟨fn,tmps,assign,body,hy,hR⟩:=hY _ (k,(eL l (cq (aT l k).aO (1-(m:Int)))).toNat,1-(m:Int)) w4 hJ4 (by
        have:=ud.length_le
        simp only[List.length_append,List.length_cons,List.length_nil]at this ⊢
        omega) ⟨dM,by
        have:eL l (cq (aT l k).aO (1-(m:Int)))<(l.length:Int):=LC _ _
        show(eL l (cq (aT l k).aO (1-(m:Int)))).toNat<l.length
        omega,by show 0<=1-(m:Int);omega,by show 1-(m:Int)<=1;omega⟩
       simp only[E5,fP]at hy
       gi_wp2
       refine hR.mono ?_
       rintro e W3 (⟨rfl,hJ3,hk3⟩|⟨rfl,hJx3⟩)
       ·gi_wp2
        go_roundw
        case rel=>exact⟨m+1,by omega,by simp,by rw[jf,<-List.append_assoc];exact hJ3,kl.trans (kl.trans MI (kl.of NS)) hk3⟩
        case measure=>simp[intOf];omega
       ·gi_wp2
        refine bodyPost_ret (results_none rfl _ _ _) rfl ?_
        exact⟨⟨_,rfl⟩,.inr ⟨_,ud,hJx3⟩⟩
      ·rw[Ce,if_neg zB,List.append_nil]at jf
       gi_wp2
       refine⟨fun _ h=>(by cases h),?_⟩
       gi_wp2
       go_roundw
       case rel=>exact⟨m+1,by omega,by simp,by rw[jf];exact hJ4,kl.trans MI (kl.of NS)⟩
       case measure=>simp[intOf];omega
    ·obtain rfl:m=2:=by omega
     have hfw:=hA.w8
     gi_wp2
     go_roundw
     case rel=>exact⟨k+1,by omega,by simp,by rw[mj];exact hJm,kl.trans N1 MI⟩
     case measure=>simp[intOf];omega
  ·obtain rfl:k=l.length:=by omega
   gi_wp2
   go_end0
   exact⟨⟨_,rfl⟩,.inl ⟨_,rfl,hJs⟩⟩
end Go.Proofs.YtgoelphibofcmaaGreat.V

namespace Go.Proofs.YtgoelphibofcmaaGreat.V
open Go.RowKit Go.Shelf
attribute [local go_sem] Oper.semAt_some
theorem zY (n:Nat) (vS:Value) (w:World):CallsIn Fence.wide n Tryz.prog 244 #[.agg #[vS]] w fun e w'=>e=.returned (.func (.func 264) #[] #[.pointer (some ⟨w.heap.size,0,none⟩)])/\w'=w.alloc (.cells #[vS] 41):=by
 refine callsIn_of_wp Tryz.func244 rfl trivial ?_ rfl
 simp only[Tryz.ntmps244,List.size_toArray,List.length_cons,List.length_nil,Nat.reduceAdd,Nat.reduceSub,Array.replicate_succ,Array.replicate_zero,List.push_toArray,List.append_toArray,List.nil_append,List.cons_append]
 gi_wp2
 go_ret
 exact⟨rfl,rfl⟩
abbrev Nk (l:List ah):Type:={x:Nat×Nat×Int // Qa l x}
theorem Jq (l:List ah) (hA:iW l) (Ba n:Nat) (hn:1<=n) (vS:Value) (K:World->World->Prop) (kl:HN K vS l) (w:World) (NT:w.heap[Ba]? =some (.cells #[vS] 41 (0,0))) (hP:pC w vS l):
  SeqStopsK Fence.wide n Tryz.prog 264 #[.pointer (some ⟨Ba,0,none⟩)] (fun x:Nk l=>E5 x.1) K (fun ys=>ys.map (·.1)=lr l l.length) (fun _=>True) (lr l l.length).length w:=fun q J Jx W hW hJ _ hY h0=>by
 refine(Rs l hA q Ba vS K kl (fun ys W=>∃zs:List (Nk l),zs.map (·.1)=ys/\J zs W) (fun ys W=>∃zs:List (Nk l),zs.map (·.1)=ys/\Jx zs W) n hn (fun pre x W1 hJ1 dM vO=>?_) W (fun s A B row ⟨zs,e,h⟩ hg hr=>⟨zs,e,hJ zs A B row h hg hr⟩) ((hW.block Ba (Array.getElem?_eq_some_iff.1 NT).1).trans NT) (hP.below hW) ⟨[],rfl,h0⟩).mono ?_
 ·obtain⟨zs,rfl,h1⟩:=hJ1
  refine YieldAt.mono (hY zs ⟨x,vO⟩ W1 h1 (by simpa using dM)) ?_
  rintro e W' (⟨h2,h3,h4⟩|⟨h2,h3⟩)
  ·exact .inl ⟨h2,⟨zs++[⟨x,vO⟩],by simp,h3⟩,h4⟩
  ·exact .inr ⟨h2,⟨zs++[⟨x,vO⟩],by simp,h3⟩⟩
 ·rintro e W' ⟨h1,⟨ys,rfl,zs,h2,h3⟩|⟨pre,_,zs,h2,h3⟩⟩
  ·exact⟨h1,.inl ⟨zs,h2,h3⟩⟩
  ·exact⟨h1,.inr ⟨zs,trivial,h3⟩⟩
def za (s:aw) (l:List ah) (x:Nat×Nat×Int):List PB:=if 0<gQ s (aT l x.1).bd x.2.2 (aT l x.2.1).bd then[⟨x.1,x.2.1,gQ s (aT l x.1).bd x.2.2 (aT l x.2.1).bd⟩]else[]
theorem H9 (s:aw) (l:List ah):cF s l=(lr l l.length).flatMap (za s l):=by
 have h1:∀i d,mN s l i d=(Ce l i d).flatMap (za s l):=fun i d=>by
  unfold mN Ce
  by_cases h:0<=eL l (cq (aT l i).aO d)
  ·rw[if_pos h]
   simp only[List.flatMap_cons,List.flatMap_nil,List.append_nil,za]
   by_cases h2:0<gQ s (aT l i).bd d (aT l (eL l (cq (aT l i).aO d)).toNat).bd
   ·rw[if_pos ⟨h,h2⟩,if_pos h2]
   ·rw[if_neg fun hc=>h2 hc.2,if_neg h2]
  ·rw[if_neg h,if_neg fun hc=>h hc.1];rfl
 unfold cF gK lr
 rw[List.flatMap_assoc]
 congr 1
 funext i
 unfold fX kW
 rw[List.flatMap_assoc]
 congr 1
 funext j
 exact h1 i _
end Go.Proofs.YtgoelphibofcmaaGreat.V

namespace Go.Proofs.YtgoelphibofcmaaGreat.V
open Go.RowKit
attribute [local irreducible] dG wpOps gz Call
attribute [local go_sem] aL fU eV gw gr cK upd cw K.av cU AV.cells AV.cell rowOf rowsOf part ld rowAt bJ cr dK ep iC bR dj eF gq fh dz ew dh de ec ee bV bh cX bU cZ cY eu ez ev cW cj di er bS aQ db cG iA bz cN bW aX dn aZ dL AV.undef bG bK ef eo dW ea cJ eE eH cD eB eA da dc List.getD_cons_zero List.getD_cons_succ List.getD_nil List.all_cons List.all_nil Bool.and_true Bool.true_and Bool.and_self Bool.not_true Bool.not_false Option.map_some Option.map_none Option.bind_some Option.bind_none List.length_cons List.length_nil List.take_succ_cons List.take_zero List.take_nil List.drop_succ_cons List.drop_zero List.drop_nil List.head?_cons List.map_cons List.map_nil List.getElem?_cons_zero List.getElem?_cons_succ List.cons_append List.nil_append List.append_nil List.length_map List.set_cons_zero List.set_cons_succ Nat.reduceMul eq_self Int.toNat_natCast Int.natCast_nonneg and_self true_and and_true decide_true decide_false Bool.false_eq_true Nat.zero_add Nat.add_zero List.contains_cons List.contains_nil Bool.or_false Bool.false_or beq_self_eq_true Nat.reduceBEq ne_eq not_true_eq_false not_false_eq_true Id.mk.injEq false_and and_false Nat.reduceLT Int.reduceLE Int.reduceLT Int.reduceToNat Int.reduceNeg Int.reduceAdd Nat.le_refl List.length_append beq_true beq_false Bool.not_eq_eq_eq_not or_false false_or dX ai aq aH bj bE cu aW br aU bp cV bP
def Am (bs:List PB):AV:=if bs=[]then .cC else .sl (bs.map aC)
theorem Md:Am []=.cC:=rfl
theorem An {bs:List PB} (h:0<bs.length):Am bs=.sl (bs.map aC):=by
 unfold Am
 rw[if_neg (by rintro rfl;simp at h)]
theorem xu (cnt:Nat) (zD:1<=cnt) (hn:cnt<=1048576) (bs:List PB) (hb:∀b∈bs,b.a<cnt/\b.b<cnt) (hp:0<bs.length) (oE:bs.length<=1048576) (t:Int):aj Tryz.prog 221 [.int .i64 cnt,.sl (bs.map aC),.int .i64 t] (.gP [.int .i64 (leads cnt (ei (aE t bs))).length,Am (dt (ei (aE t bs)) bs)]):=by
 refine aj.body ek rfl fun hl n0=>?_
 clear hl
 (try((repeat(revert hN;revert N;apply Pn.out));refine wk @Nat.zero_add ?_;(repeat(refine Pn.mk ?_;intro N hN))))
 refine .inr (aG _ _ _ _ _ (fun r σ1 hq=>?_) (Ic bs hp oE _))
 obtain⟨o,rfl,ho,Lp,Lq,QO⟩:=hq
 (try dsimp only at ho Lp Lq QO)
 refine hN _ _ ?_
 clear hN N
 (try((repeat(revert hN;revert N;apply Pn.out));refine wk @Nat.zero_add ?_;(repeat(refine Pn.mk ?_;intro N hN))))
 refine .inr (aG _ _ _ _ _ (fun r σ2 hq=>?_) (F7 bs t oE o ⟨221000000,n0⟩ _ ho (by rw[QO _ (by(try dsimp only);omega)];simp only[go_sem, ↓reduceIte,Nat.reduceEqDiff,Nat.reduceAdd,Nat.reduceSub,Nat.reduceLeDiff,reduceCtorEq]) (by(try dsimp only);omega) (by(try dsimp only);omega) (by rintro rfl;simp only at Lp;omega)))
 obtain⟨rows,rfl,fy,hrt,sf,mU,Bz⟩:=hq
 (try dsimp only at mU Bz)
 refine hN _ _ ?_
 clear hN N
 have Hx:=vH cnt zD hn (aE t bs) (fun b h=>hb b (wO h)) (by have:=nr t bs;omega)
 have hL:=tF (aE t bs)
 have hz:∀x,cL (dX σ2.get) 6 [.int .i64 x,.own o 0 (aE t bs).length]=some [.int .i64 x,.sl ((aE t bs).map aC)]:=fun x=>by
  have:V.fz (dX σ2.get) 6 (.own o 0 (aE t bs).length)=some (.sl ((aE t bs).map aC)):=by
   rw[gZ];simp only[dX,fy,Option.map_some,if_true]
   rw[if_pos (by omega),List.drop_zero,hrt,qm fun b=>zo _ 4 b];rfl
  simp only[ai,aq,aH,this,Option.map_some]
 (try((repeat(revert hN;revert N;apply Pn.out));refine wk @Nat.zero_add ?_;(repeat(refine Pn.mk ?_;intro N hN))))
 refine .inl ⟨_,aj.x Hx (hz _),?_⟩
 refine hN _ _ ?_
 clear hN N
 generalize ei (aE t bs)=L at *
 have sI:((fx cnt L).map AJ).length=(leads cnt L).length:=by simp[fx]
 have Sz:=jN cnt L
 have jI:(0:Int)<=(cnt:Int):=by omega
 have pU:(cnt:Int)<=((16777216:Nat):Int):=by omega
 have gH:List.replicate cnt [AV.int .i64 0]=dE (cI cnt L 0 0) cnt:=by rw[wT,oI]
 (try((repeat(revert hN;revert N;apply Pn.out));refine wk (tw @jI (tw @pU (tw @Int.le_refl (tw @sI @gH)))) ?_;(repeat(refine Pn.mk ?_;intro N hN))))
 refine aI (fun n env st=>∃i:Nat,n=((leads cnt L).length)-i/\i<=((leads cnt L).length)/\env 27=.int .i64 (i:Int)/\st.get ⟨221002001,σ2.next+1⟩=some ⟨true,1,dE (cI cnt L i 0) cnt⟩/\(σ2.next+1<st.next)) ((leads cnt L).length) ⟨0,by omega,by omega,sl (tw @gH @sI),sl (tw @gH @sI),(by(try dsimp only);omega)⟩ ?_
 rintro n_c env_c st_c ⟨i,rfl,cle,c27,cg0,cI0⟩ cfr
 have c1:=cfr 1 (by kernel_rfl);have c8:=cfr 8 (by kernel_rfl);have c9:=cfr 9 (by kernel_rfl);have xp:=cfr 25 (by kernel_rfl);have xq:=cfr 26 (by kernel_rfl)
 simp only[go_sem, ↓reduceIte,Nat.reduceEqDiff,Nat.reduceAdd,Nat.reduceSub,Nat.reduceLeDiff,reduceCtorEq,gH,sI]at c1 c8 c9 xp xq
 clear cfr
 by_cases hi:(i:Int)<((leads cnt L).length:Int)
 ·have ib:∀{e:Env} {gg:Rows} {nx:Nat},(e 27=.int .i64 (IntKind.i64.wrap ((i:Int)+1)))->(gg ⟨221002001,σ2.next+1⟩=some ⟨true,1,dE (cI cnt L (i+1) 0) cnt⟩)->(σ2.next+1<nx)->∃m0,m0<((leads cnt L).length)-i/\∃i:Nat,m0=((leads cnt L).length)-i/\i<=((leads cnt L).length)/\e 27=.int .i64 (i:Int)/\gg ⟨221002001,σ2.next+1⟩=some ⟨true,1,dE (cI cnt L i 0) cnt⟩/\(σ2.next+1<nx):=fun x1 x2 x3=>⟨_,by omega,i+1,rfl,by omega,(by rw[x1,aA (by omega)]),x2,x3⟩
  have fP:i<(leads cnt L).length:=by omega
  have lh:((fx cnt L).map AJ)[i]? =some (AJ (members cnt L (leads cnt L)[i])):=by simp[fx,fP]
  have uB:(leads cnt L).getD i 0=(leads cnt L)[i]:=by simp[List.getD_eq_getElem?_getD,fP]
  have BJ:∀m,cI cnt L i m=fun x=>if bH L x<i then bH L x else if x∈(members cnt L (leads cnt L)[i]).take m then i else 0:=fun m=>by unfold cI;rw[uB]
  have rm:=fun x (hx:x<cnt)=>sR hL (n:=cnt) (k:=x) (i:=i) hx fP
  have mc:(members cnt L (leads cnt L)[i]).Nodup:=List.nodup_range.filter _
  have KD:∀x∈members cnt L (leads cnt L)[i],x<cnt:=fun x hx=>(lI.1 hx).1
  have hMc:(members cnt L (leads cnt L)[i]).length<=cnt:=by
   have:=List.length_filter_le (fun k=>L k==(leads cnt L)[i]) (List.range cnt)
   simpa[members]using this
  generalize members cnt L (leads cnt L)[i]=M at *
  have CP:(M.map eN).length=M.length:=by simp
  (try((repeat(revert hN;revert N;apply Pn.out));refine wk (tw @c27 (tw @cg0 (tw @c1 (tw @c8 (tw @c9 (tw @xp (tw @xq (tw @hi (tw @sI (tw @lh (tw @AJ.eq_1 @CP))))))))))) ?_;(repeat(refine Pn.mk ?_;intro N hN))))
  refine aI (fun n env st=>∃m:Nat,n=(M.length)-m/\m<=(M.length)/\env 34=.int .i64 (m:Int)/\st.get ⟨221002001,σ2.next+1⟩=some ⟨true,1,dE (cI cnt L i m) cnt⟩/\(σ2.next+1<st.next)) (M.length) ⟨0,by omega,by omega,sl (tw @c27 (tw @cg0 (tw @c1 (tw @c8 (tw @c9 (tw @xp (tw @xq @CP))))))),sl (tw @c27 (tw @cg0 (tw @c1 (tw @c8 (tw @c9 (tw @xp (tw @xq @CP))))))),(by(try dsimp only);omega)⟩ ?_
  rintro n_d env_d st_d ⟨m,rfl,dle,d34,dg0,dI0⟩ dfr
  have d1:=dfr 1 (by kernel_rfl);have d8:=dfr 8 (by kernel_rfl);have d9:=dfr 9 (by kernel_rfl);have d10:=dfr 10 (by kernel_rfl);have d25:=dfr 25 (by kernel_rfl);have d26:=dfr 26 (by kernel_rfl);have d27:=dfr 27 (by kernel_rfl);have d32:=dfr 32 (by kernel_rfl);have d33:=dfr 33 (by kernel_rfl)
  simp only[go_sem, ↓reduceIte,Nat.reduceEqDiff,Nat.reduceAdd,Nat.reduceSub,Nat.reduceLeDiff,reduceCtorEq,c27,cg0,c1,c8,c9,xp,xq,CP]at d1 d8 d9 d10 d25 d26 d27 d32 d33
  clear dfr
  have tl:=gh (cI cnt L i m) cnt
  by_cases hm:(m:Int)<(M.length:Int)
  ·have tH:∀{e:Env} {gg:Rows} {nx:Nat},(e 34=.int .i64 (IntKind.i64.wrap ((m:Int)+1)))->(gg ⟨221002001,σ2.next+1⟩=some ⟨true,1,dE (cI cnt L i (m+1)) cnt⟩)->(σ2.next+1<nx)->∃m0,m0<(M.length)-m/\∃m:Nat,m0=(M.length)-m/\m<=(M.length)/\e 34=.int .i64 (m:Int)/\gg ⟨221002001,σ2.next+1⟩=some ⟨true,1,dE (cI cnt L i m) cnt⟩/\(σ2.next+1<nx):=fun x1 x2 x3=>⟨_,by omega,m+1,rfl,by omega,(by rw[x1,aA (by omega)]),x2,x3⟩
   have zC:m<M.length:=by omega
   have vK:(M.map eN)[m]? =some (eN M[m]):=by simp[zC]
   have vQ:=KD _ (List.getElem_mem zC)
   have CX:(M[m]:Int)<(cnt:Int):=by omega
   have CW:=fw (f:=cI cnt L i m) vQ
   have dO:(dE (cI cnt L i m) cnt).set M[m] (eN i)=dE (cI cnt L i (m+1)) cnt:=pr vQ (by
    have h1:=(rm _ vQ).1 (List.getElem_mem zC)
    rw[BJ]
    simp only[]
    rw[if_neg (by omega),if_pos (by rw[List.take_succ_eq_append_getElem zC];exact List.mem_append_right _ (List.mem_singleton.2 rfl))]) fun x hx gU=>by
    rw[BJ,BJ]
    simp only[]
    rw[List.take_succ_eq_append_getElem zC]
    simp only[List.mem_append,List.mem_singleton,gU,or_false]
   rw[eN]at dO CW
   generalize M[m]=xm at *
   (try((repeat(revert hN;revert N;apply Pn.out));refine wk (tw @d34 (tw @dg0 (tw @d1 (tw @d8 (tw @d9 (tw @d10 (tw @d25 (tw @d26 (tw @d27 (tw @d32 (tw @d33 (tw @hm (tw @hi (tw @vK (tw @CP (tw @CX (tw @CW (tw @tl (tw @dO @eN.eq_1))))))))))))))))))) ?_;(repeat(refine Pn.mk ?_;intro N hN))))
   refine tH ?_ ?_ (by(try dsimp only);omega)
   all_goals simp only[go_sem, ↓reduceIte,Nat.reduceEqDiff,Nat.reduceAdd,Nat.reduceSub,Nat.reduceLeDiff,reduceCtorEq,d34,dg0,d1,d8,d9,d10,d25,d26,d27,d32,d33,dO]
  ·have pa:m=M.length:=by omega
   subst pa
   have jf:dE (cI cnt L i M.length) cnt=dE (cI cnt L (i+1) 0) cnt:=gV fun x hx=>by
    rw[BJ,List.take_length]
    simp only[cI,List.take_zero,List.not_mem_nil,if_false]
    have h1:=rm x hx
    by_cases h2:bH L x<i
    ·rw[if_pos h2,if_pos (by omega)]
    ·rw[if_neg h2]
     by_cases h3:x∈M
     ·rw[if_pos h3,if_pos (by have:=h1.1 h3;omega),h1.1 h3]
     ·rw[if_neg h3,if_neg fun h4=>h3 (h1.2 (by omega))]
   (try((repeat(revert hN;revert N;apply Pn.out));refine wk (tw @d34 (tw @dg0 (tw @d1 (tw @d8 (tw @d9 (tw @d10 (tw @d25 (tw @d26 (tw @d27 (tw @d32 (tw @d33 (tw @hm (tw @hi (tw @sI @CP)))))))))))))) ?_;(repeat(refine Pn.mk ?_;intro N hN))))
   refine ib ?_ ?_ (by(try dsimp only);omega)
   all_goals simp only[go_sem, ↓reduceIte,Nat.reduceEqDiff,Nat.reduceAdd,Nat.reduceSub,Nat.reduceLeDiff,reduceCtorEq,c27,cg0,c1,c8,c9,xp,xq,d34,dg0,d1,d8,d9,d10,d25,d26,d27,d32,d33,jf]
 have mb:i=(leads cnt L).length:=by omega
 subst mb
 have yl:dE (cI cnt L (leads cnt L).length 0) cnt=dE (bH L) cnt:=gV fun x hx=>by rw[cI,if_pos (j5 hL hx)]
 rw[yl]at cg0
 have tl:=gh (bH L) cnt
 have Sj:(bs.map aC).length=bs.length:=by simp
 (try((repeat(revert hN;revert N;apply Pn.out));refine wk (tw @c27 (tw @cg0 (tw @c1 (tw @c8 (tw @c9 (tw @xp (tw @xq (tw @hi (tw @sI @Sj))))))))) ?_;(repeat(refine Pn.mk ?_;intro N hN))))
 have QC:σ2.next+1<st_c.next:=cI0
 refine aI (fun n env st=>∃j:Nat,n=(bs.length)-j/\j<=(bs.length)/\env 46=.int .i64 (j:Int)/\st.get ⟨221002001,σ2.next+1⟩=some ⟨true,1,dE (bH L) cnt⟩/\(st_c.next<=st.next/\((dt L (bs.take j)=[]/\env 14=.cC)∨∃p:Id,env 14=.own p 0 (dt L (bs.take j)).length/\st.get p=some ⟨true,3,(dt L (bs.take j)).map aC⟩/\st_c.next<=p.bq/\p.bq<st.next/\0<(dt L (bs.take j)).length))) (bs.length) ⟨0,by omega,by omega,sl (tw @c27 (tw @cg0 (tw @c1 (tw @c8 (tw @c9 (tw @xp (tw @xq @Sj))))))),sl (tw @c27 (tw @cg0 (tw @c1 (tw @c8 (tw @c9 (tw @xp (tw @xq @Sj))))))),⟨by(try dsimp only);omega,.inl ⟨rfl,by(simp only[go_sem, ↓reduceIte,Nat.reduceEqDiff,Nat.reduceAdd,Nat.reduceSub,Nat.reduceLeDiff,reduceCtorEq])⟩⟩⟩ ?_
 rintro n_f env_f st_f ⟨j,rfl,fle,f46,fg0,fI0⟩ ffr
 have f1:=ffr 1 (by kernel_rfl);have f8:=ffr 8 (by kernel_rfl);have f9:=ffr 9 (by kernel_rfl);have f44:=ffr 44 (by kernel_rfl);have f45:=ffr 45 (by kernel_rfl)
 simp only[go_sem, ↓reduceIte,Nat.reduceEqDiff,Nat.reduceAdd,Nat.reduceSub,Nat.reduceLeDiff,reduceCtorEq,c27,cg0,c1,c8,c9,xp,xq,Sj]at f1 f8 f9 f44 f45
 clear ffr
 obtain⟨PH,fO⟩:=fI0
 have I5:=dq (i:=⟨221002001,σ2.next+1⟩) (n:=st_f.next) (by(try dsimp only);omega)
 have DL:=(nq L (bs.take j)).1
 rw[List.length_take]at DL
 by_cases hj:(j:Int)<(bs.length:Int)
 ·have rK:∀{e:Env} {gg:Rows} {nx:Nat},(e 46=.int .i64 (IntKind.i64.wrap ((j:Int)+1)))->(gg ⟨221002001,σ2.next+1⟩=some ⟨true,1,dE (bH L) cnt⟩)->(st_c.next<=nx/\((dt L (bs.take (j+1))=[]/\e 14=.cC)∨∃p:Id,e 14=.own p 0 (dt L (bs.take (j+1))).length/\gg p=some ⟨true,3,(dt L (bs.take (j+1))).map aC⟩/\st_c.next<=p.bq/\p.bq<nx/\0<(dt L (bs.take (j+1))).length))->∃m0,m0<(bs.length)-j/\∃j:Nat,m0=(bs.length)-j/\j<=(bs.length)/\e 46=.int .i64 (j:Int)/\gg ⟨221002001,σ2.next+1⟩=some ⟨true,1,dE (bH L) cnt⟩/\(st_c.next<=nx/\((dt L (bs.take j)=[]/\e 14=.cC)∨∃p:Id,e 14=.own p 0 (dt L (bs.take j)).length/\gg p=some ⟨true,3,(dt L (bs.take j)).map aC⟩/\st_c.next<=p.bq/\p.bq<nx/\0<(dt L (bs.take j)).length)):=fun x1 x2 x3=>⟨_,by omega,j+1,rfl,by omega,(by rw[x1,aA (by omega)]),x2,x3⟩
  have iO:j<bs.length:=by omega
  have Hw:(bs.map aC)[j]? =some (aC bs[j]):=by simp[iO]
  have ML:=hb _ (List.getElem_mem iO)
  have hs:=Aj L (bs.take j) bs[j]
  rw[<-List.take_succ_eq_append_getElem iO]at hs
  generalize bs[j]=b at *
  have hA:=fw (f:=bH L) ML.1
  have hB:=fw (f:=bH L) ML.2
  have gG:(b.a:Int)<(cnt:Int):=by omega
  have fF:(b.b:Int)<(cnt:Int):=by omega
  rw[eN]at hA hB
  have e1:(dt L (bs.take j)).length+1<=16777216:=by omega
  have pa:((dt L (bs.take j)).map aC).length=(dt L (bs.take j)).length:=by simp
  by_cases he:bH L b.a=bH L b.b
  ·rw[if_pos he,List.append_nil]at hs
   have uA:decide ((bH L b.a:Int)=(bH L b.b:Int))=true:=decide_eq_true (by rw[he])
   (try((repeat(revert hN;revert N;apply Pn.out));refine wk (tw @f46 (tw @fg0 (tw @f1 (tw @f8 (tw @f9 (tw @f44 (tw @f45 (tw @hj (tw @Hw (tw @hA (tw @hB (tw @gG (tw @fF (tw @tl (tw @uA (tw @I5 (tw @aC.eq_1 (tw @Bool.not_true @Bool.not_false)))))))))))))))))) ?_;(repeat(refine Pn.mk ?_;intro N hN))))
   refine rK ?_ ?_ (by(try dsimp only);exact⟨by omega,by
    rw[hs]
    rcases fO with⟨h1,h2⟩|⟨p,h1,h2,h3,h4,h5⟩
    ·exact .inl ⟨h1,sd @h2⟩
    ·have si:=dq h4
     exact .inr ⟨p,sd @h1,sd (tw @h2 @si),h3,by omega,h5⟩⟩)
   all_goals simp only[go_sem, ↓reduceIte,Nat.reduceEqDiff,Nat.reduceAdd,Nat.reduceSub,Nat.reduceLeDiff,reduceCtorEq,f46,fg0,f1,f8,f9,f44,f45,I5]
  ·rw[if_neg he]at hs
   have uA:decide ((bH L b.a:Int)=(bH L b.b:Int))=false:=decide_eq_false fun h=>he (by omega)
   rcases fO with⟨h1,f14⟩|⟨p,f14,fg,On,IS,hp3⟩
   ·rw[h1]at hs
    (try((repeat(revert hN;revert N;apply Pn.out));refine wk (tw @f46 (tw @fg0 (tw @f1 (tw @f8 (tw @f9 (tw @f44 (tw @f45 (tw @f14 (tw @hj (tw @Hw (tw @hA (tw @hB (tw @gG (tw @fF (tw @tl (tw @uA (tw @I5 (tw @aC.eq_1 (tw @Bool.not_true @Bool.not_false))))))))))))))))))) ?_;(repeat(refine Pn.mk ?_;intro N hN))))
    refine rK ?_ ?_ (by(try dsimp only);exact⟨by omega,.inr ⟨⟨221017015,st_f.next+1+1+1⟩,by rw[hs];simp only[go_sem, ↓reduceIte,Nat.reduceEqDiff,Nat.reduceAdd,Nat.reduceSub,Nat.reduceLeDiff,reduceCtorEq,List.nil_append,List.length_cons,List.length_nil],by rw[hs];simp only[go_sem, ↓reduceIte,Nat.reduceEqDiff,Nat.reduceAdd,Nat.reduceSub,Nat.reduceLeDiff,reduceCtorEq,aC,List.nil_append,List.map_cons,List.map_nil],by(try dsimp only);omega,by(try dsimp only);omega,by rw[hs];simp⟩⟩)
    all_goals simp only[go_sem, ↓reduceIte,Nat.reduceEqDiff,Nat.reduceAdd,Nat.reduceSub,Nat.reduceLeDiff,reduceCtorEq,f46,fg0,f1,f8,f9,f44,f45,I5]
   ·have x1:=cP (a:=⟨221002001,σ2.next+1⟩) (b:=p) (by(try dsimp only);omega)
    have si:=dq IS
    (try((repeat(revert hN;revert N;apply Pn.out));refine wk (tw @f46 (tw @fg0 (tw @f1 (tw @f8 (tw @f9 (tw @f44 (tw @f45 (tw @f14 (tw @fg (tw @hj (tw @Hw (tw @hA (tw @hB (tw @gG (tw @fF (tw @tl (tw @uA (tw @x1 (tw @si (tw @I5 (tw @e1 (tw @pa (tw @aC.eq_1 (tw @Bool.not_true @Bool.not_false)))))))))))))))))))))))) ?_;(repeat(refine Pn.mk ?_;intro N hN))))
    refine rK ?_ ?_ (by(try dsimp only);exact⟨by omega,.inr ⟨⟨221017015,st_f.next+1+1+1⟩,by rw[hs,List.length_append];simp only[go_sem, ↓reduceIte,Nat.reduceEqDiff,Nat.reduceAdd,Nat.reduceSub,Nat.reduceLeDiff,reduceCtorEq,List.length_cons,List.length_nil],by rw[hs,List.map_append,List.map_cons,List.map_nil];simp only[go_sem, ↓reduceIte,Nat.reduceEqDiff,Nat.reduceAdd,Nat.reduceSub,Nat.reduceLeDiff,reduceCtorEq,aC],by(try dsimp only);omega,by(try dsimp only);omega,by rw[hs];simp⟩⟩)
    all_goals simp only[go_sem, ↓reduceIte,Nat.reduceEqDiff,Nat.reduceAdd,Nat.reduceSub,Nat.reduceLeDiff,reduceCtorEq,f46,fg0,f1,f8,f9,f44,f45,x1,I5]
 ·have gR:j=bs.length:=by omega
  subst gR
  rw[List.take_length]at fO
  rcases fO with⟨h1,f14⟩|⟨p,f14,fg,On,IS,hp3⟩
  ·(try((repeat(revert hN;revert N;apply Pn.out));refine wk (tw @f46 (tw @fg0 (tw @f1 (tw @f8 (tw @f9 (tw @f44 (tw @f45 (tw @f14 (tw @hj @sI))))))))) ?_;(repeat(refine Pn.mk ?_;intro N hN))))
   refine jy (.inl rfl) (r1:=.int .i64 ((leads cnt L).length:Int)) (sd @Nat.zero_add) (by simp only[go_sem, ↓reduceIte,Nat.reduceEqDiff,Nat.reduceAdd,Nat.reduceSub,Nat.reduceLeDiff,reduceCtorEq];rfl) ?_
   simp only[fj,bB,cz,eO,kP,h1,Md,Option.map_some]
  ·(try((repeat(revert hN;revert N;apply Pn.out));refine wk (tw @f46 (tw @fg0 (tw @f1 (tw @f8 (tw @f9 (tw @f44 (tw @f45 (tw @f14 (tw @hj @sI))))))))) ?_;(repeat(refine Pn.mk ?_;intro N hN))))
   refine jy (.inl rfl) (r1:=.int .i64 ((leads cnt L).length:Int)) (sd @Nat.zero_add) (by simp only[go_sem, ↓reduceIte,Nat.reduceEqDiff,Nat.reduceAdd,Nat.reduceSub,Nat.reduceLeDiff,reduceCtorEq];rfl) ?_
   have h1:gp st_f.get 5 (.own p 0 (dt L bs).length)=some (.sl ((dt L bs).map aC)):=fY (sz:=3) fg rfl fun b=>uu _ 3 b
   simp only[fj,bB,cz,eO,h1,An hp3,Option.map_some]
theorem xt (cnt:Nat) (zD:1<=cnt) (hn:cnt<=1048576) (t:Int):aj Tryz.prog 221 [.int .i64 cnt,.cC,.int .i64 t] (.gP [.int .i64 cnt,.cC]):=by
 refine aj.body ek rfl fun hl n0=>?_
 clear hl
 have h1:aj Tryz.prog 242 [.cC] .cC:=by
  refine aj.body ek rfl fun hl n0=>?_
  clear hl
  (try((repeat(revert hN;revert N;apply Pn.out));refine wk @Nat.zero_add ?_;(repeat(refine Pn.mk ?_;intro N hN))))
  exact tL (.inl rfl) (r0:=.cC) (sd @Nat.zero_add) (kP _ _)
 have h2:aj Tryz.prog 241 [.cC,.fn 243 [.cQ [.int .i64 t]]] .cC:=by
  have CT:=(yv [] t (by simp)).cut mixed (.cC (.same _ .nil))
  refine aj.body ek rfl fun hl n0=>?_
  clear hl
  (try((repeat(revert hN;revert N;apply Pn.out));refine wk @Nat.zero_add ?_;(repeat(refine Pn.mk ?_;intro N hN))))
  refine .inl ⟨_,aj.x CT (by simp only[ai,aq,aW,cV,aU,List.all_cons,List.all_nil,AV.cell,Bool.and_true,if_true,Option.map_some]),?_⟩
  refine hN _ _ ?_
  clear hN N
  have hd:decide (kd (fun b:PB=>decide (b.s<t)) []= -1)=true:=rfl
  (try((repeat(revert hN;revert N;apply Pn.out));refine wk @hd ?_;(repeat(refine Pn.mk ?_;intro N hN))))
  exact tL (.inl rfl) (r0:=.cC) (sd @Nat.zero_add) (kP _ _)
 have Hx:=(vH cnt zD hn [] (fun b h=>by cases h) (by simp)).cut mixed (.same _ (.cC .nil))
 (repeat(first|((repeat(revert hN;revert N;apply Pn.out));refine wk @Nat.zero_add ?_;(repeat(refine Pn.mk ?_;intro N hN)))|((try apply Or.inl);refine⟨_,aj.x (h1) (sd @Nat.zero_add),?_⟩;refine hN _ _ ?_;clear hN N)))
 refine .inl ⟨_,aj.x h2 ?_,?_⟩
 ·have:V.fz (dX (bJ (fun _=>none) ⟨221000000,n0⟩ ⟨true,1,[[.int .i64 t]]⟩)) 5 (.ptr ⟨221000000,n0⟩ 0 0)=some (.cQ [.int .i64 t]):=zq (sz:=1) (rows:=[[.int .i64 t]]) (by simp[dX,bJ]) rfl (by simp only[List.drop_zero,ai,aq,aH,Option.map_some])
  simp only[ai,aq,aW,cV,this,List.all_cons,List.all_nil,AV.cell,Bool.and_true,if_true,Option.map_some]
 refine hN _ _ ?_
 clear hN N
 have fF:ei ([]:List PB)=id:=rfl
 rw[fF]at Hx
 have hL:jG id:=fF▸tF ([]:List PB)
 have PK:(leads cnt id).length=cnt:=by rw[leads,List.filter_eq_self.2 (fun a _=>by simp)];simp
 generalize (id:Nat->Nat)=L at *
 have sI:((fx cnt L).map AJ).length=(leads cnt L).length:=by simp[fx]
 have Sz:=jN cnt L
 have jI:(0:Int)<=(cnt:Int):=by omega
 have pU:(cnt:Int)<=((16777216:Nat):Int):=by omega
 have gH:List.replicate cnt [AV.int .i64 0]=dE (cI cnt L 0 0) cnt:=by rw[wT,oI]
 (repeat(first|((repeat(revert hN;revert N;apply Pn.out));refine wk (tw @jI (tw @pU (tw @Int.le_refl (tw @sI @gH)))) ?_;(repeat(refine Pn.mk ?_;intro N hN)))|((try apply Or.inl);refine⟨_,aj.x (Hx) (sd (tw @jI (tw @pU (tw @Int.le_refl (tw @sI @gH))))),?_⟩;refine hN _ _ ?_;clear hN N)))
 refine aI (fun n env st=>∃i:Nat,n=((leads cnt L).length)-i/\i<=((leads cnt L).length)/\env 27=.int .i64 (i:Int)/\st.get ⟨221002001,n0+1+1⟩=some ⟨true,1,dE (cI cnt L i 0) cnt⟩/\(n0+1+1<st.next)) ((leads cnt L).length) ⟨0,by omega,by omega,sl (tw @gH @sI),sl (tw @gH @sI),(by(try dsimp only);omega)⟩ ?_
 rintro n_c env_c st_c ⟨i,rfl,cle,c27,cg0,cI0⟩ cfr
 have c1:=cfr 1 (by kernel_rfl);have c8:=cfr 8 (by kernel_rfl);have c9:=cfr 9 (by kernel_rfl);have xp:=cfr 25 (by kernel_rfl);have xq:=cfr 26 (by kernel_rfl)
 simp only[go_sem, ↓reduceIte,Nat.reduceEqDiff,Nat.reduceAdd,Nat.reduceSub,Nat.reduceLeDiff,reduceCtorEq,gH,sI]at c1 c8 c9 xp xq
 clear cfr
 by_cases hi:(i:Int)<((leads cnt L).length:Int)
 ·have ib:∀{e:Env} {gg:Rows} {nx:Nat},(e 27=.int .i64 (IntKind.i64.wrap ((i:Int)+1)))->(gg ⟨221002001,n0+1+1⟩=some ⟨true,1,dE (cI cnt L (i+1) 0) cnt⟩)->(n0+1+1<nx)->∃m0,m0<((leads cnt L).length)-i/\∃i:Nat,m0=((leads cnt L).length)-i/\i<=((leads cnt L).length)/\e 27=.int .i64 (i:Int)/\gg ⟨221002001,n0+1+1⟩=some ⟨true,1,dE (cI cnt L i 0) cnt⟩/\(n0+1+1<nx):=fun x1 x2 x3=>⟨_,by omega,i+1,rfl,by omega,(by rw[x1,aA (by omega)]),x2,x3⟩
  have fP:i<(leads cnt L).length:=by omega
  have lh:((fx cnt L).map AJ)[i]? =some (AJ (members cnt L (leads cnt L)[i])):=by simp[fx,fP]
  have uB:(leads cnt L).getD i 0=(leads cnt L)[i]:=by simp[List.getD_eq_getElem?_getD,fP]
  have BJ:∀m,cI cnt L i m=fun x=>if bH L x<i then bH L x else if x∈(members cnt L (leads cnt L)[i]).take m then i else 0:=fun m=>by unfold cI;rw[uB]
  have rm:=fun x (hx:x<cnt)=>sR hL (n:=cnt) (k:=x) (i:=i) hx fP
  have mc:(members cnt L (leads cnt L)[i]).Nodup:=List.nodup_range.filter _
  have KD:∀x∈members cnt L (leads cnt L)[i],x<cnt:=fun x hx=>(lI.1 hx).1
  have hMc:(members cnt L (leads cnt L)[i]).length<=cnt:=by
   have:=List.length_filter_le (fun k=>L k==(leads cnt L)[i]) (List.range cnt)
   simpa[members]using this
  generalize members cnt L (leads cnt L)[i]=M at *
  have CP:(M.map eN).length=M.length:=by simp
  (try((repeat(revert hN;revert N;apply Pn.out));refine wk (tw @c27 (tw @cg0 (tw @c1 (tw @c8 (tw @c9 (tw @xp (tw @xq (tw @hi (tw @sI (tw @lh (tw @AJ.eq_1 @CP))))))))))) ?_;(repeat(refine Pn.mk ?_;intro N hN))))
  refine aI (fun n env st=>∃m:Nat,n=(M.length)-m/\m<=(M.length)/\env 34=.int .i64 (m:Int)/\st.get ⟨221002001,n0+1+1⟩=some ⟨true,1,dE (cI cnt L i m) cnt⟩/\(n0+1+1<st.next)) (M.length) ⟨0,by omega,by omega,sl (tw @c27 (tw @cg0 (tw @c1 (tw @c8 (tw @c9 (tw @xp (tw @xq @CP))))))),sl (tw @c27 (tw @cg0 (tw @c1 (tw @c8 (tw @c9 (tw @xp (tw @xq @CP))))))),(by(try dsimp only);omega)⟩ ?_
  rintro n_d env_d st_d ⟨m,rfl,dle,d34,dg0,dI0⟩ dfr
  have d1:=dfr 1 (by kernel_rfl);have d8:=dfr 8 (by kernel_rfl);have d9:=dfr 9 (by kernel_rfl);have d10:=dfr 10 (by kernel_rfl);have d25:=dfr 25 (by kernel_rfl);have d26:=dfr 26 (by kernel_rfl);have d27:=dfr 27 (by kernel_rfl);have d32:=dfr 32 (by kernel_rfl);have d33:=dfr 33 (by kernel_rfl)
  simp only[go_sem, ↓reduceIte,Nat.reduceEqDiff,Nat.reduceAdd,Nat.reduceSub,Nat.reduceLeDiff,reduceCtorEq,c27,cg0,c1,c8,c9,xp,xq,CP]at d1 d8 d9 d10 d25 d26 d27 d32 d33
  clear dfr
  have tl:=gh (cI cnt L i m) cnt
  by_cases hm:(m:Int)<(M.length:Int)
  ·have tH:∀{e:Env} {gg:Rows} {nx:Nat},(e 34=.int .i64 (IntKind.i64.wrap ((m:Int)+1)))->(gg ⟨221002001,n0+1+1⟩=some ⟨true,1,dE (cI cnt L i (m+1)) cnt⟩)->(n0+1+1<nx)->∃m0,m0<(M.length)-m/\∃m:Nat,m0=(M.length)-m/\m<=(M.length)/\e 34=.int .i64 (m:Int)/\gg ⟨221002001,n0+1+1⟩=some ⟨true,1,dE (cI cnt L i m) cnt⟩/\(n0+1+1<nx):=fun x1 x2 x3=>⟨_,by omega,m+1,rfl,by omega,(by rw[x1,aA (by omega)]),x2,x3⟩
   have zC:m<M.length:=by omega
   have vK:(M.map eN)[m]? =some (eN M[m]):=by simp[zC]
   have vQ:=KD _ (List.getElem_mem zC)
   have CX:(M[m]:Int)<(cnt:Int):=by omega
   have CW:=fw (f:=cI cnt L i m) vQ
   have dO:(dE (cI cnt L i m) cnt).set M[m] (eN i)=dE (cI cnt L i (m+1)) cnt:=pr vQ (by
    have h1:=(rm _ vQ).1 (List.getElem_mem zC)
    rw[BJ]
    simp only[]
    rw[if_neg (by omega),if_pos (by rw[List.take_succ_eq_append_getElem zC];exact List.mem_append_right _ (List.mem_singleton.2 rfl))]) fun x hx gU=>by
    rw[BJ,BJ]
    simp only[]
    rw[List.take_succ_eq_append_getElem zC]
    simp only[List.mem_append,List.mem_singleton,gU,or_false]
   rw[eN]at dO CW
   generalize M[m]=xm at *
   (try((repeat(revert hN;revert N;apply Pn.out));refine wk (tw @d34 (tw @dg0 (tw @d1 (tw @d8 (tw @d9 (tw @d10 (tw @d25 (tw @d26 (tw @d27 (tw @d32 (tw @d33 (tw @hm (tw @hi (tw @vK (tw @CP (tw @CX (tw @CW (tw @tl (tw @dO @eN.eq_1))))))))))))))))))) ?_;(repeat(refine Pn.mk ?_;intro N hN))))
   refine tH ?_ ?_ (by(try dsimp only);omega)
   all_goals simp only[go_sem, ↓reduceIte,Nat.reduceEqDiff,Nat.reduceAdd,Nat.reduceSub,Nat.reduceLeDiff,reduceCtorEq,d34,dg0,d1,d8,d9,d10,d25,d26,d27,d32,d33,dO]
  ·have pa:m=M.length:=by omega
   subst pa
   have jf:dE (cI cnt L i M.length) cnt=dE (cI cnt L (i+1) 0) cnt:=gV fun x hx=>by
    rw[BJ,List.take_length]
    simp only[cI,List.take_zero,List.not_mem_nil,if_false]
    have h1:=rm x hx
    by_cases h2:bH L x<i
    ·rw[if_pos h2,if_pos (by omega)]
    ·rw[if_neg h2]
     by_cases h3:x∈M
     ·rw[if_pos h3,if_pos (by have:=h1.1 h3;omega),h1.1 h3]
     ·rw[if_neg h3,if_neg fun h4=>h3 (h1.2 (by omega))]
   (try((repeat(revert hN;revert N;apply Pn.out));refine wk (tw @d34 (tw @dg0 (tw @d1 (tw @d8 (tw @d9 (tw @d10 (tw @d25 (tw @d26 (tw @d27 (tw @d32 (tw @d33 (tw @hm (tw @hi (tw @sI @CP)))))))))))))) ?_;(repeat(refine Pn.mk ?_;intro N hN))))
   refine ib ?_ ?_ (by(try dsimp only);omega)
   all_goals simp only[go_sem, ↓reduceIte,Nat.reduceEqDiff,Nat.reduceAdd,Nat.reduceSub,Nat.reduceLeDiff,reduceCtorEq,c27,cg0,c1,c8,c9,xp,xq,d34,dg0,d1,d8,d9,d10,d25,d26,d27,d32,d33,jf]
 have mb:i=(leads cnt L).length:=by omega
 subst mb
 have yl:dE (cI cnt L (leads cnt L).length 0) cnt=dE (bH L) cnt:=gV fun x hx=>by rw[cI,if_pos (j5 hL hx)]
 rw[yl]at cg0
 have tl:=gh (bH L) cnt
 (try((repeat(revert hN;revert N;apply Pn.out));refine wk (tw @c27 (tw @cg0 (tw @c1 (tw @c8 (tw @c9 (tw @xp (tw @xq (tw @hi @sI)))))))) ?_;(repeat(refine Pn.mk ?_;intro N hN))))
 refine aI (fun n env st=>∃j:Nat,n=(0)-j/\j<=(0)/\env 46=.int .i64 (j:Int)/\env 14=.cC) (0) ⟨0,by omega,by omega,sl (tw @c27 (tw @cg0 (tw @c1 (tw @c8 (tw @c9 (tw @xp @xq)))))),sl (tw @c27 (tw @cg0 (tw @c1 (tw @c8 (tw @c9 (tw @xp @xq))))))⟩ ?_
 rintro n_f env_f st_f ⟨j,rfl,fle,f46,f14⟩ ffr
 have f8:=ffr 8 (by kernel_rfl);have f44:=ffr 44 (by kernel_rfl);have f45:=ffr 45 (by kernel_rfl)
 simp only[go_sem, ↓reduceIte,Nat.reduceEqDiff,Nat.reduceAdd,Nat.reduceSub,Nat.reduceLeDiff,reduceCtorEq,c27,cg0,c1,c8,c9,xp,xq]at f8 f44 f45
 clear ffr
 have hj:¬(j:Int)<((0:Nat):Int):=by omega
 (try((repeat(revert hN;revert N;apply Pn.out));refine wk (tw @f46 (tw @f14 (tw @f8 (tw @f44 (tw @f45 (tw @hj @sI)))))) ?_;(repeat(refine Pn.mk ?_;intro N hN))))
 refine jy (.inl rfl) (r1:=.int .i64 ((leads cnt L).length:Int)) (r2:=.cC) (sd @Nat.zero_add) (sd @Nat.zero_add) ?_
 simp only[fj,bB,cz,eO,kP,PK,Option.map_some]
theorem zh (cnt:Nat) (zD:1<=cnt) (hn:cnt<=1048576) (bs:List PB) (hb:∀b∈bs,b.a<cnt/\b.b<cnt) (oE:bs.length<=1048576) (t:Int):aj Tryz.prog 221 [.int .i64 cnt,Am bs,.int .i64 t] (.gP [.int .i64 (leads cnt (ei (aE t bs))).length,Am (dt (ei (aE t bs)) bs)]):=by
 cases bs with
 |nil=>
  have h:=xt cnt zD hn t
  have PK:(leads cnt (ei (aE t []))).length=cnt:=by
   show(leads cnt id).length=cnt
   rw[leads,List.filter_eq_self.2 (fun a _=>by simp)];simp
  rw[PK]
  exact h
 |cons b r=>
  rw[An (by simp)]
  exact xu cnt zD hn (b::r) hb (by simp) oE t
end Go.Proofs.YtgoelphibofcmaaGreat.V

namespace Go.Proofs.YtgoelphibofcmaaGreat.V
open Go.RowKit
attribute [local irreducible] dG wpOps gz Call
attribute [local go_sem] aL fU eV gw gr cK upd cw K.av cU AV.cells AV.cell rowOf rowsOf part ld rowAt bJ cr dK ep iC bR dj eF gq fh dz ew dh de ec ee bV bh cX bU cZ cY eu ez ev cW cj di er bS aQ db cG iA bz cN bW aX dn aZ dL AV.undef bG bK ef eo dW ea cJ eE eH cD eB eA da dc List.getD_cons_zero List.getD_cons_succ List.getD_nil List.all_cons List.all_nil Bool.and_true Bool.true_and Bool.and_self Bool.not_true Bool.not_false Option.map_some Option.map_none Option.bind_some Option.bind_none List.length_cons List.length_nil List.take_succ_cons List.take_zero List.take_nil List.drop_succ_cons List.drop_zero List.drop_nil List.head?_cons List.map_cons List.map_nil List.getElem?_cons_zero List.getElem?_cons_succ List.cons_append List.nil_append List.append_nil List.length_map List.set_cons_zero List.set_cons_succ Nat.reduceMul eq_self Int.toNat_natCast Int.natCast_nonneg and_self true_and and_true decide_true decide_false Bool.false_eq_true Nat.zero_add Nat.add_zero List.contains_cons List.contains_nil Bool.or_false Bool.false_or beq_self_eq_true Nat.reduceBEq ne_eq not_true_eq_false not_false_eq_true Id.mk.injEq false_and and_false Nat.reduceLT Int.reduceLE Int.reduceLT Int.reduceToNat Int.reduceNeg Int.reduceAdd Nat.le_refl List.length_append beq_true beq_false Bool.not_eq_eq_eq_not or_false false_or dX ai aq aH bj bE cu aW br aU bp cV bP
attribute [local go_sem] FK
section
attribute [-go_sem] dK
theorem LR (n:Nat) (hn:n<=1048576):aj Tryz.prog 277 [.int .u64 1,.int .u64 n] (.gP [.int .u64 0,.int .u64 n]):=by
 refine aj.body ek rfl fun hl n0=>?_
 clear hl
 have b1:(BitVec.ofInt 64 (n:Int)&&& BitVec.ofInt 64 4294967295).toNat=n:=by
  rw[BitVec.toNat_and]
  have e1:(BitVec.ofInt 64 (n:Int)).toNat=n:=by rw[BitVec.toNat_ofInt];omega
  have e2:(BitVec.ofInt 64 4294967295).toNat=2 ^ 32-1:=by decide
  rw[e1,e2]
  exact Nat.and_two_pow_sub_one_of_lt_two_pow (by omega)
 have zn:IntKind.u64.wrap (n:Int)=n:=by rw[IntKind.wrap_u64];omega
 have i1:dK .and .u64 (n:Int) 4294967295=some (.int .u64 n):=by
  show some (AV.int .u64 (IntKind.u64.wrap (((BitVec.ofInt 64 (n:Int)&&& BitVec.ofInt 64 4294967295).toNat:Nat):Int)))= _
  rw[b1,zn]
 have i2:dK .and .u64 1 4294967295=some (.int .u64 1):=rfl
 have i3:dK .and .u64 0 4294967295=some (.int .u64 0):=rfl
 have i4:dK .mul .u64 1 (n:Int)=some (.int .u64 n):=by simp only[dK,Int.one_mul,zn]
 have i5:dK .mul .u64 0 (n:Int)=some (.int .u64 0):=by simp only[dK,Int.zero_mul];rfl
 have i6:dK .mul .u64 1 0=some (.int .u64 0):=rfl
 have i7:dK .mul .u64 0 0=some (.int .u64 0):=rfl
 have i8:dK .add .u64 0 0=some (.int .u64 0):=rfl
 have a3:Int.fdiv 1 (2 ^ min 32 64)=0:=by decide
 have a4:Int.fdiv (n:Int) (2 ^ min 32 64)=0:=by
  rw[Int.fdiv_eq_ediv_of_nonneg _ (by decide)]
  have h32:(2:Int) ^ min 32 64=4294967296:=by decide
  exact Int.ediv_eq_zero_of_lt (by omega) (by omega)
 have z1:Int.fdiv 0 (2 ^ min 32 64)=0:=by decide
 (try((repeat(revert hN;revert N;apply Pn.out));refine wk (tw @i1 (tw @i2 (tw @i3 (tw @i4 (tw @i5 (tw @i6 (tw @i7 (tw @i8 (tw @a3 (tw @a4 @z1)))))))))) ?_;(repeat(refine Pn.mk ?_;intro N hN))))
 refine jy (.inl rfl) (r1:=.int .u64 0) (r2:=.int .u64 n) (sd @Nat.zero_add) (sd @Nat.zero_add) ?_
 simp only[fj,bB,cz,eO,Option.map_some]
end
theorem Rr (n:Nat) (hn:n<=1048576):aj Tryz.prog 275 [.int .u64 1,.int .u64 n] (.gP [.int .u64 0,.int .u64 n]):=by
 refine aj.body ek rfl fun hl n0=>?_
 clear hl
 have h:=LR n hn
 (repeat(first|((repeat(revert hN;revert N;apply Pn.out));refine wk @Nat.zero_add ?_;(repeat(refine Pn.mk ?_;intro N hN)))|((try apply Or.inl);refine⟨_,aj.x (h) (sd @Nat.zero_add),?_⟩;refine hN _ _ ?_;clear hN N)))
 refine jy (.inl rfl) (r1:=.int .u64 0) (r2:=.int .u64 n) (sd @Nat.zero_add) (sd @Nat.zero_add) ?_
 simp only[fj,bB,cz,eO,Option.map_some]
theorem JI (cnt:Nat) (zD:1<=cnt) (hn:cnt<=1048576) (v:Int) (x:Id) (σ:au) (hx:σ.get x=some ⟨true,1,[[.int .i64 v]]⟩) (UE:x.bq<σ.next):
  Call Tryz.prog 271 [.own x 0 1,.int .i64 cnt] σ fun r σ'=>∃o:Id,r=.own o 0 cnt/\σ'.get o=some ⟨true,1,List.replicate cnt [.int .i64 v]⟩/\σ.next<=o.bq/\o.bq<σ'.next/\∀i:Id,i.bq<σ.next->σ'.get i=σ.get i:=by
 refine eW ek rfl fun hl=>?_
 clear hl
 have h:=Rr cnt hn
 have w1:IntKind.u64.wrap (cnt:Int)=cnt:=by rw[IntKind.wrap_u64];omega
 have w2:IntKind.i64.wrap (cnt:Int)=cnt:=Kl (by omega)
 have w0:IntKind.u64.wrap ((1:Nat):Int)=1:=by decide
 have g1:¬(cnt:Int)<0:=by omega
 have g2:¬(9223372036854775807:Int)<cnt:=by omega
 have jI:(0:Int)<=(cnt:Int):=by omega
 have pU:(cnt:Int)<=((16777216:Nat):Int):=by omega
 have PW:=dq UE
 have sf:(List.replicate cnt [AV.int .i64 0]).length=cnt:=List.length_replicate
 have m1:min 1 cnt=1:=by omega
 (repeat(first|((repeat(revert hN;revert N;apply Pn.out));refine wk (tw @w0 (tw @w1 (tw @w2 (tw @g1 (tw @g2 (tw @jI (tw @pU (tw @Int.le_refl (tw @Nat.le_refl (tw @hx (tw @PW (tw @sf @m1)))))))))))) ?_;(repeat(refine Pn.mk ?_;intro N hN)))|((try apply Or.inl);refine⟨_,aj.x (h) (sd (tw @w0 (tw @w1 (tw @w2 (tw @g1 (tw @g2 (tw @jI (tw @pU (tw @Int.le_refl (tw @Nat.le_refl (tw @hx (tw @PW (tw @sf @m1))))))))))))),?_⟩;refine hN _ _ ?_;clear hN N)))
 refine aI (fun m env st=>∃k:Nat,m=cnt-k/\1<=k/\k<=cnt/\env 8=.int .i64 (k:Int)/\st.get ⟨271006002,σ.next+1+1+1+1⟩=some ⟨true,1,List.replicate k [.int .i64 v]++List.replicate (cnt-k) [.int .i64 0]⟩/\σ.next+4<st.next/\∀i:Id,i.bq<σ.next->st.get i=σ.get i) (cnt-1) ⟨1,rfl,Nat.le_refl _,zD,by(simp only[go_sem, ↓reduceIte,Nat.reduceEqDiff,Nat.reduceAdd,Nat.reduceSub,Nat.reduceLeDiff,reduceCtorEq,m1])<;>rfl,?_,by(try dsimp only);omega,fun i hi=>?_⟩ ?_
 ·simp only[go_sem, ↓reduceIte,Nat.reduceEqDiff,Nat.reduceAdd,Nat.reduceSub,Nat.reduceLeDiff,reduceCtorEq]
  rw[List.drop_replicate];rfl
 ·have DM:=dq hi
  simp only[go_sem, ↓reduceIte,Nat.reduceEqDiff,Nat.reduceAdd,Nat.reduceSub,Nat.reduceLeDiff,reduceCtorEq,DM]
 rintro m env_b st_b ⟨k,rfl,xd,vM,b8,bg,bn,eS⟩ bkp
 have b7:=bkp 7 (by kernel_rfl)
 simp only[go_sem, ↓reduceIte,Nat.reduceEqDiff,Nat.reduceAdd,Nat.reduceSub,Nat.reduceLeDiff,reduceCtorEq]at b7
 clear bkp
 have Q5:(List.replicate k [AV.int .i64 v]++List.replicate (cnt-k) [AV.int .i64 0]).length=cnt:=by simp;omega
 by_cases hk:(k:Int)<(cnt:Int)
 ·have eZ:k<cnt:=by omega
  have xc:(k:Int)<=(cnt:Int):=by omega
  have hw:IntKind.i64.wrap ((k:Int)+((min k (cnt-k):Nat):Int))=((k+min k (cnt-k):Nat):Int):=by rw[aV (by omega)];omega
  have pN:List.take k (List.replicate k [AV.int .i64 v]++List.replicate (cnt-k) [AV.int .i64 0])=List.replicate k [AV.int .i64 v]:=List.take_left' (by simp)
  have dJ:(List.replicate k [AV.int .i64 v]).all (fun c=>c.length==1&&c.all AV.cell)=true:=List.all_eq_true.2 fun c hc=>by rw[List.eq_of_mem_replicate hc];rfl
  have hlr:(List.replicate k [AV.int .i64 v]).length=k:=List.length_replicate
  have Oy:k+(cnt-k)=cnt:=by omega
  have vP:List.replicate k [AV.int .i64 v]++List.take (min k (cnt-k)) (List.replicate k [AV.int .i64 v])++List.drop (k+min k (cnt-k)) (List.replicate k [AV.int .i64 v]++List.replicate (cnt-k) [AV.int .i64 0])=List.replicate (k+min k (cnt-k)) [AV.int .i64 v]++List.replicate (cnt-(k+min k (cnt-k))) [AV.int .i64 0]:=by
   rw[List.take_replicate,List.drop_append,List.drop_of_length_le (by simp),List.nil_append,hlr,List.drop_replicate,List.replicate_append_replicate]
   congr 2
   ·omega
   ·omega
  (try((repeat(revert hN;revert N;apply Pn.out));refine wk (tw @b7 (tw @b8 (tw @bg (tw @Q5 (tw @hk (tw @xc (tw @vM (tw @hw (tw @eZ (tw @Nat.sub_zero (tw @pN (tw @dJ (tw @hlr (tw @Oy (tw @Nat.le_refl @vP))))))))))))))) ?_;(repeat(refine Pn.mk ?_;intro N hN))))
  refine⟨_,?_,k+min k (cnt-k),rfl,by omega,by omega,sd @hw,sd @vP,by(try dsimp only);omega,fun i hi=>?_⟩
  ·omega
  ·have DM:=dq hi
   have:=eS i hi
   simp only[go_sem, ↓reduceIte,Nat.reduceEqDiff,Nat.reduceAdd,Nat.reduceSub,Nat.reduceLeDiff,reduceCtorEq,DM,this]
 ·have lj:k=cnt:=by omega
  subst lj
  (try((repeat(revert hN;revert N;apply Pn.out));refine wk (tw @b7 (tw @b8 (tw @bg (tw @Q5 @hk)))) ?_;(repeat(refine Pn.mk ?_;intro N hN))))
  refine fc (.inl rfl) (vs:=[.own ⟨271006002,σ.next+1+1+1+1⟩ 0 k]) (sd @Nat.zero_add) ⟨⟨271006002,σ.next+1+1+1+1⟩,rfl,by simp only[go_sem, ↓reduceIte,Nat.reduceEqDiff,Nat.reduceAdd,Nat.reduceSub,Nat.reduceLeDiff,reduceCtorEq,bg];simp,by(try dsimp only);omega,by(try dsimp only);omega,fun i hi=>eS i hi⟩
end Go.Proofs.YtgoelphibofcmaaGreat.V

namespace Go.Proofs.YtgoelphibofcmaaGreat.V
open Go.RowKit
attribute [local irreducible] dG wpOps gz Call
attribute [local go_sem] aL fU eV gw gr cK upd cw K.av cU AV.cells AV.cell rowOf rowsOf part ld rowAt bJ cr dK ep iC bR dj eF gq fh dz ew dh de ec ee bV bh cX bU cZ cY eu ez ev cW cj di er bS aQ db cG iA bz cN bW aX dn aZ dL AV.undef bG bK ef eo dW ea cJ eE eH cD eB eA da dc List.getD_cons_zero List.getD_cons_succ List.getD_nil List.all_cons List.all_nil Bool.and_true Bool.true_and Bool.and_self Bool.not_true Bool.not_false Option.map_some Option.map_none Option.bind_some Option.bind_none List.length_cons List.length_nil List.take_succ_cons List.take_zero List.take_nil List.drop_succ_cons List.drop_zero List.drop_nil List.head?_cons List.map_cons List.map_nil List.getElem?_cons_zero List.getElem?_cons_succ List.cons_append List.nil_append List.append_nil List.length_map List.set_cons_zero List.set_cons_succ Nat.reduceMul eq_self Int.toNat_natCast Int.natCast_nonneg and_self true_and and_true decide_true decide_false Bool.false_eq_true Nat.zero_add Nat.add_zero List.contains_cons List.contains_nil Bool.or_false Bool.false_or beq_self_eq_true Nat.reduceBEq ne_eq not_true_eq_false not_false_eq_true Id.mk.injEq false_and and_false Nat.reduceLT Int.reduceLE Int.reduceLT Int.reduceToNat Int.reduceNeg Int.reduceAdd Nat.le_refl List.length_append beq_true beq_false Bool.not_eq_eq_eq_not or_false false_or dX ai aq aH bj bE cu aW br aU bp cV bP
def k7 (R:Nat->Id) (n k:Nat):List (List AV):=(List.range k).map fun i=>[.own (R i) 0 n]
theorem j7 (R:Nat->Id) (n k:Nat):(k7 R n k).length=k:=by simp[k7]
theorem rY {R:Nat->Id} {n k i:Nat} (h:i<k):(k7 R n k)[i]? =some [.own (R i) 0 n]:=by simp[k7,h]
theorem s6 (R:Nat->Id) (n k:Nat):k7 R n (k+1)=k7 R n k++[[.own (R k) 0 n]]:=by simp[k7,List.range_succ]
def xN (c:Nat->Nat->Int) (n:Nat):List (List AV):=(List.range n).map fun i=>[.sl (dQ (c i) n)]
theorem Cy {c:Nat->Nat->Int} {n i:Nat} (h:i<n):(xN c n)[i]? =some [.sl (dQ (c i) n)]:=by simp[xN,h]
theorem wS (c:Nat->Nat->Int) (n:Nat):(xN c n).length=n:=by simp[xN]
structure FR (X o1 o2:Id) (R1 R2:Nat->Id) (n nb:Nat):Prop where
 sx:X.site=245001001
 s1:o1.site=245004008
 s2:o2.site=245005008
 SS:∀i,i<n->(R1 i).site=245004006
 Nb:∀i,i<n->(R2 i).site=245005006
 i1:∀i j,i<n->j<n->R1 i=R1 j->i=j
 i2:∀i j,i<n->j<n->R2 i=R2 j->i=j
 vx:X.bq<nb
 v1:o1.bq<nb
 v2:o2.bq<nb
 SV:∀i,i<n->(R1 i).bq<nb
 P8:∀i,i<n->(R2 i).bq<nb
structure nH (g:Rows) (X o1 o2:Id) (R1 R2:Nat->Id) (n:Nat) (c f:Nat->Nat->Int):Prop where
 x:g X=some ⟨true,2,[[.own o1 0 n,.own o2 0 n]]⟩
 t1:g o1=some ⟨true,1,k7 R1 n n⟩
 t2:g o2=some ⟨true,1,k7 R2 n n⟩
 r1:∀i,i<n->g (R1 i)=some ⟨true,1,dQ (c i) n⟩
 r2:∀i,i<n->g (R2 i)=some ⟨true,1,dQ (f i) n⟩
theorem nH.frame {g g':Rows} {X o1 o2:Id} {R1 R2:Nat->Id} {n nb:Nat} {c f:Nat->Nat->Int} (I:FR X o1 o2 R1 R2 n nb) (h:nH g X o1 o2 R1 R2 n c f) (hf:∀i:Id,i.bq<nb->g' i=g i):nH g' X o1 o2 R1 R2 n c f:=
 ⟨(hf _ I.vx).trans h.x,(hf _ I.v1).trans h.t1,(hf _ I.v2).trans h.t2,fun i hi=>(hf _ (I.SV i hi)).trans (h.r1 i hi),fun i hi=>(hf _ (I.P8 i hi)).trans (h.r2 i hi)⟩
theorem om {f:Nat->Nat->Int} {a b:Nat} {d:Int} {n:Nat} (hb:b<n):(dQ (f a) n).set b (bf (f a b+d))=dQ (bump f a b d a) n:=k8 hb (by simp[bump]) fun i _ hi=>by simp[bump,hi]
theorem jY {f:Nat->Nat->Int} {a b i:Nat} {d:Int} (h:i≠a):bump f a b d i=f i:=by funext v;simp[bump,h]
theorem nH.add {g g':Rows} {X o1 o2:Id} {R1 R2:Nat->Id} {n nb:Nat} {c f:Nat->Nat->Int} (I:FR X o1 o2 R1 R2 n nb) (h:nH g X o1 o2 R1 R2 n c f) (b:PB) (ha:b.a<n) (hb:b.b<n) (hA:b.a≠b.b->g' (R1 b.a)=some ⟨true,1,dQ (bump c b.a b.b b.s b.a) n⟩) (hB:g' (R1 b.b)=some ⟨true,1,dQ (nJ c b b.b) n⟩) (hf:∀i:Id,i.bq<nb->(i=R1 b.a)=False->(i=R1 b.b)=False->g' i=g i):nH g' X o1 o2 R1 R2 n (nJ c b) f:=by
 have ne:∀{i:Id} {s:Nat},i.site=s->(s==245004006)=false->∀a,a<n->(i=R1 a)=False:=fun {i s} hi hs a ha=>by
  simp only[eq_iff_iff,iff_false]
  rintro rfl
  rw[I.SS a ha]at hi
  subst hi
  simp at hs
 refine⟨(hf _ I.vx (ne I.sx (by decide) _ ha) (ne I.sx (by decide) _ hb)).trans h.x,(hf _ I.v1 (ne I.s1 (by decide) _ ha) (ne I.s1 (by decide) _ hb)).trans h.t1,(hf _ I.v2 (ne I.s2 (by decide) _ ha) (ne I.s2 (by decide) _ hb)).trans h.t2,fun i hi=>?_,fun i hi=>(hf _ (I.P8 i hi) (ne (I.Nb i hi) (by decide) _ ha) (ne (I.Nb i hi) (by decide) _ hb)).trans (h.r2 i hi)⟩
 by_cases Kz:i=b.b
 ·subst Kz;exact hB
 ·by_cases Ky:i=b.a
  ·subst Ky
   rw[hA Kz,nJ,jY Kz]
  ·rw[nJ,jY Kz,jY Ky,hf _ (I.SV i hi) (by simp only[eq_iff_iff,iff_false];exact fun he=>Ky (I.i1 i _ hi ha he)) (by simp only[eq_iff_iff,iff_false];exact fun he=>Kz (I.i1 i _ hi hb he))]
   exact h.r1 i hi
def lD (n:Nat) (c f:Nat->Nat->Int):List AV:=[.sl (xN c n),.sl (xN f n)]
theorem FJ {g:Rows} {R:Nat->Id} {n k:Nat} {c:Nat->Nat->Int} (h:∀i,i<k->g (R i)=some ⟨true,1,dQ (c i) n⟩) (m:Nat):dV (dX g) (m+3) (k7 R n k)=some ((List.range k).map fun i=>[.sl (dQ (c i) n)]):=by
 induction k with
 |zero=>rw[show k7 R n 0=[]from rfl,dV];rfl
 |succ k ih=>
  have e1:V.fz (dX g) (m+3) (.own (R k) 0 n)=some (.sl (dQ (c k) n)):=by
   rw[gZ];simp only[dX,h k (by omega),Option.map_some,if_true]
   rw[if_pos (by rw[dD];omega),List.drop_zero,List.take_of_length_le (by rw[dD];omega),As];rfl
  have app:∀(xs ys:List (List AV)) (SX RX:List (List AV)),dV (dX g) (m+3) xs=some SX->dV (dX g) (m+3) ys=some RX->dV (dX g) (m+3) (xs++ys)=some (SX++RX):=by
   intro xs
   induction xs with
   |nil=>intro ys SX RX h1 h2;rw[dV]at h1;cases h1;exact h2
   |cons a xs ih2=>
    intro ys SX RX h1 h2
    rw[dV]at h1
    rw[List.cons_append,dV]
    cases ha:cL (dX g) (m+3) a with
    |none=>simp[ha]at h1
    |some a'=>
     cases hb:dV (dX g) (m+3) xs with
     |none=>simp[ha,hb]at h1
     |some b'=>
      simp[ha,hb]at h1
      subst h1
      rw[ih2 ys b' RX hb h2];rfl
  rw[s6,List.range_succ,List.map_append]
  refine app _ _ _ _ (ih fun i hi=>h i (by omega)) ?_
  rw[dV,ai,aq,e1,dV];rfl
theorem nH.fz {g:Rows} {X o1 o2:Id} {R1 R2:Nat->Id} {n:Nat} {c f:Nat->Nat->Int} (h:nH g X o1 o2 R1 R2 n c f):V.fz (dX g) 6 (.ptr X 0 0)=some (.cQ (lD n c f)):=by
 refine zq (sz:=2) (rows:=[[.own o1 0 n,.own o2 0 n]]) (by simp[dX,h.x]) rfl ?_
 have e1:V.fz (dX g) 5 (.own o1 0 n)=some (.sl (xN c n)):=by
  rw[gZ];simp only[dX,h.t1,Option.map_some,if_true]
  rw[if_pos (by rw[j7];omega),List.drop_zero,List.take_of_length_le (by rw[j7];omega)]
  rw[show dV _ 4 _=some (xN c n)from FJ h.r1 1];rfl
 have e2:V.fz (dX g) 5 (.own o2 0 n)=some (.sl (xN f n)):=by
  rw[gZ];simp only[dX,h.t2,Option.map_some,if_true]
  rw[if_pos (by rw[j7];omega),List.drop_zero,List.take_of_length_le (by rw[j7];omega)]
  rw[show dV _ 4 _=some (xN f n)from FJ h.r2 1];rfl
 simp only[List.drop_zero,ai,aq,e1,e2,lD,Option.map_some]
theorem NL (n:Nat) (c f:Nat->Nat->Int) (u v:Nat) (hu:u<n) (hv:v<n):aj Tryz.prog 272 [.cQ (lD n c f),.int .i64 u,.int .i64 v] (.bool (decide (f u v<c u v))):=by
 refine aj.body ek rfl fun hl n0=>?_
 clear hl
 have h1:=Cy (c:=c) hu
 have h2:=Cy (c:=f) hu
 have h3:=dH (f:=c u) hv
 have h4:=dH (f:=f u) hv
 have hui:(u:Int)<(n:Int):=by omega
 have DM:(v:Int)<(n:Int):=by omega
 have l1:=wS c n
 have l2:=wS f n
 have l3:=dD (c u) n
 have l4:=dD (f u) n
 rw[bf]at h3 h4
 (try((repeat(revert hN;revert N;apply Pn.out));refine wk (tw @lD.eq_1 (tw @h1 (tw @h2 (tw @h3 (tw @h4 (tw @hui (tw @DM (tw @l1 (tw @l2 (tw @l3 @l4)))))))))) ?_;(repeat(refine Pn.mk ?_;intro N hN))))
 exact aP (b:=decide (f u v<c u v)) (.inl rfl) (sd @Nat.zero_add) rfl
end Go.Proofs.YtgoelphibofcmaaGreat.V
