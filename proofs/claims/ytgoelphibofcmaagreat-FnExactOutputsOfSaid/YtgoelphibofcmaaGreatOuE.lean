/- Sequences are played: plain, and by the reference. -/
import Derived.Test.YtgoelphibofcmaaGreatOuB
import Derived.Test.YtgoelphibofcmaaGreatOuD
import Derived.Shelf.SlSortCmp.WholeK
import Derived.Shelf.SlSortCmp.NoneTotal
import Derived.Ground.SlsfProg
import Derived.Test.YtgoelphibofcmaaGreatProg
import Derived.Test.YtgoelphibofcmaaGreatOuC
import Derived.Maps.RangeRun
import Derived.Test.YtgoelphibofcmaaGreatChecked
import Derived.RangeFuncNested
import Derived.RangeFuncBound
import Derived.RangeFuncCalls
import Derived.RangeFuncLeaves
import Derived.Shelf.Abstract
import Derived.Shelf.RegionOpen
import Derived.WalkKit
import Derived.OwnWalkIn
import Derived.TacticsInMore
import Derived.LoopNIn
import Derived.LoopIn
import Derived.BigQuiet
import Derived.RangeFuncBox
import Derived.RangeFuncWrites
import Derived.Maps.AppendAt
set_option linter.unusedVariables false
set_option linter.unusedSimpArgs false
set_option maxRecDepth 100000
set_option maxHeartbeats 16000000
namespace Go.Proofs.YtgoelphibofcmaaGreat.V
open Go.RowKit
attribute [local irreducible] dQ wpOps fX Call
attribute [local go_sem] aQ fM eU fY fW dm upd cG K.av cQ AV.cells AV.cell rowOf rowsOf part ld rowAt bQ cC dE ea gZ bS dh eo fV fj dB ef dd dc dS dU b4 bj cV bW cY cW ec eh ee cU ck de eb bV aU da cK gY bx cP cj bd dv bl dG AV.undef bH bK dW dZ dO dL cN ek eu cJ ej ei cZ db List.getD_cons_zero List.getD_cons_succ List.getD_nil List.all_cons List.all_nil Bool.and_true Bool.true_and Bool.and_self Bool.not_true Bool.not_false Option.map_some Option.map_none Option.bind_some Option.bind_none List.length_cons List.length_nil List.take_succ_cons List.take_zero List.take_nil List.drop_succ_cons List.drop_zero List.drop_nil List.head?_cons List.map_cons List.map_nil List.getElem?_cons_zero List.getElem?_cons_succ List.cons_append List.nil_append List.append_nil List.length_map List.set_cons_zero List.set_cons_succ Nat.reduceMul eq_self Int.toNat_natCast Int.natCast_nonneg and_self true_and and_true decide_true decide_false Bool.false_eq_true Nat.zero_add Nat.add_zero List.contains_cons List.contains_nil Bool.or_false Bool.false_or beq_self_eq_true Nat.reduceBEq ne_eq not_true_eq_false not_false_eq_true Id.mk.injEq false_and and_false Nat.reduceLT Int.reduceLE Int.reduceLT Int.reduceToNat Int.reduceNeg Int.reduceAdd Nat.le_refl List.length_append beq_true beq_false Bool.not_eq_eq_eq_not or_false false_or dX ae aj aJ bq bG cr aY bf aW bp cR bB
def ez (s:aw) (es:List ab) (i:Nat):List ab:=(es.take i).foldl (fun n x=>iJ n x) s.bh.ai
noncomputable def Fw (s:aw) (es:List ab) (i:Nat):Bool:=ev s.aI (aA es i).aT&&iI s (ez s es i) (aA es i).aL (aA es i).aT
noncomputable def fb (s:aw) (es:List ab) (i:Nat):Bool:=Fw s es i&&decide ((ez s es i).length<500)
noncomputable def Il (s:aw) (es:List ab):Int×Int:=match (List.range es.length).find? (fun i=> !fb s es i)with
 |none=>(0,0)
 |some i=>if Fw s es i then(0,4)else((i:Int),5)
theorem zM (s:aw) (es:List ab):ez s es 0=s.bh.ai:=rfl
theorem nh (s:aw) (es:List ab) {i:Nat} (hi:i<es.length):ez s es (i+1)=iJ (ez s es i) (aA es i):=by
 unfold ez
 rw[nq hi,List.foldl_append];rfl
theorem pD {s:aw} {es:List ab} {i:Nat} (hi:i<es.length) (h:∀j,j<i->fb s es j=true) (hb:fb s es i=false):Il s es=if Fw s es i then(0,4)else((i:Int),5):=by
 rw[Il,Ey hi (by rw[hb];rfl) (fun j hj=>by rw[h j hj];rfl)]
theorem GO {s:aw} {es:List ab} (h:∀j,j<es.length->fb s es j=true):Il s es=(0,0):=by
 rw[Il,uU (fun j hj=>by rw[h j hj];rfl)]
theorem Mq {s:aw} {l:List ab} (hA:lN s.aI l) {x:ab} (hlen:l.length<500) (ht:ev s.aI x.aT=true) (hf:iI s l x.aL x.aT=true) (hs:s.aI.ai.length<=160):lN s.aI (iJ l x):=by
 have fe:jl x.aT 0 159=true:=gr (by have h:=ht;unfold ev at h;have:=eM h;omega)
 have hp:vk x.aL=true:=by simp[iI]at hf;exact hf.1.1
 have h0:eY l x.aL<0:=(Ai hA x.aL).1 (by simp[iI]at hf;exact hf.1.2)
 have hR:=Dm hA.1.Lo h0
 refine⟨⟨by rw[pE];omega,fun i vV=>?_⟩,fun t ht2=>?_⟩
 ·rcases lr.1 (lv vV)with h|h
  ·rw[Ec,h]
   exact⟨hp,fe,fun h1=>by have z:=hR (i-1) i (by omega) vV;rw[h]at z;exact z⟩
  ·obtain⟨j,hj,iA⟩:=List.getElem_of_mem h
   have h1:=hA.1.ok j hj
   rw[Ec,fx hj,iA]at h1
   exact⟨h1.1,h1.2.1,fun h0=>hR _ _ (by omega) vV⟩
 ·rcases lr.1 ht2 with rfl|h
  ·exact ht
  ·exact hA.2 t h
theorem lx {s:aw} (hP:uN s) {es:List ab}:∀i,i<=es.length->(∀j,j<i->fb s es j=true)->lN s.aI (ez s es i)
 |0,_,_=>hP.yU
 |i+1,hi,h=>by
  have ih:=lx hP (es:=es) i (by omega) fun j hj=>h j (by omega)
  have hg:=h i (by omega)
  rw[fb,Bool.and_eq_true,Fw,Bool.and_eq_true]at hg
  rw[nh s es (by omega)]
  exact Mq ih (of_decide_eq_true hg.2) hg.1.1 hg.1.2 hP.set.G0
theorem KC (s:aw) (l:List ab) (p:aM) (t:Int) (ht:ev s.aI t=false):aq Tryz.prog 100 [.du (ar s),.du [.sl (l.map aa)],.agg [.int .i64 p.fc,.int .i64 p.eR,.int .i64 t]] (.bool false):=by
 refine aq.body eF rfl fun iQ n0=>?_
 clear iQ
 have h1:=rG p
 have h2:=(rH s.aI t).cut mixed (.ptr _ [.sl (s.bh.ai.map aa),.int .i64 s.ay] (.same _ .nil))
 rw[ht]at h2
 cases h0:vk p
 ·rw[h0]at h1
  (repeat(first|((repeat(revert hN;revert N;apply Pn.out));refine wk (tw @ar.eq_1 (tw @ad.eq_1 @ah.eq_1)) ?_;(repeat(refine Pn.mk ?_;intro N hN)))|((try apply Or.inl);refine⟨_,aq.x (h1) (sd (tw @ar.eq_1 (tw @ad.eq_1 @ah.eq_1))),?_⟩;refine hN _ _ ?_;clear hN N)))
  exact bc (b:=false) (.inl rfl) (sd @Nat.zero_add) rfl
 ·rw[h0]at h1
  (repeat(first|((repeat(revert hN;revert N;apply Pn.out));refine wk (tw @ar.eq_1 (tw @ad.eq_1 @ah.eq_1)) ?_;(repeat(refine Pn.mk ?_;intro N hN)))|((try apply Or.inl);refine⟨_,aq.x (h1) (sd (tw @ar.eq_1 (tw @ad.eq_1 @ah.eq_1))),?_⟩;refine hN _ _ ?_;clear hN N)|((try apply Or.inl);refine⟨_,aq.x (h2) (sd (tw @ar.eq_1 (tw @ad.eq_1 @ah.eq_1))),?_⟩;refine hN _ _ ?_;clear hN N)))
  exact bc (b:=false) (.inl rfl) (sd @Nat.zero_add) rfl
theorem HX (s:aw) (hP:uN s) (l:List ab) (hA:lN s.aI l) (p:aM) (t:Int):aq Tryz.prog 100 [.du (ar s),.du [.sl (l.map aa)],.agg [.int .i64 p.fc,.int .i64 p.eR,.int .i64 t]] (.bool (ev s.aI t&&iI s l p t)):=by
 cases ht:ev s.aI t
 ·exact KC s l p t ht
 ·exact KD s hP l hA p t ht
def AtK (n:Nat) (l:List ab) (x:ab) (r:AV) (σ':au):Prop:=(500<=l.length/\r=.gD [.agg [.bD],.int .i64 4])∨(l.length<500/\∃o:Id,r=.gD [.agg [.own o 0 (iJ l x).length],.int .i64 0]/\σ'.get o=some ⟨true,3,(iJ l x).map aa⟩/\n<=o.bE/\o.bE<σ'.next)
theorem C0 (l:List ab) (hl:l.length<=1048576) (x:ab) (n0:Nat):Call Tryz.prog 81 [.du [.sl (l.map aa)],.agg (aa x)] ⟨fun _=>none,n0⟩ (AtK n0 l x):=by
 refine eJ eF rfl fun iQ=>?_
 clear iQ
 by_cases h5:500<=l.length
 ·have hd:((500:Nat):Int)<=(l.length:Int):=by omega
  have mT:(500:Int)<=(l.length:Int):=by omega
  (try((repeat(revert hN;revert N;apply Pn.out));refine wk (tw @aa.eq_1 (tw @hd @mT)) ?_;(repeat(refine Pn.mk ?_;intro N hN))))
  exact eV (.inl rfl) (vs:=[.agg [.bD],.int .i64 4]) (sd @Nat.zero_add) (.inl ⟨h5,rfl⟩)
 ·have mT:¬(500:Int)<=(l.length:Int):=by omega
  (try((repeat(revert hN;revert N;apply Pn.out));refine wk (tw @aa.eq_1 @mT) ?_;(repeat(refine Pn.mk ?_;intro N hN))))
  refine .inr (aE _ _ _ _ _ (fun r σ1 hq=>?_) (Mm.val (fun n=>CV l hl x.aL x.aT n) (by simp only[ae,aj,aW,bf,aJ,Option.map_some];rfl)))
  obtain⟨⟨o,rfl,q1,q2,q3⟩,hK⟩:=hq
  obtain⟨g1,x1⟩:=σ1
  (try dsimp only at q1 q2 q3 hK)
  have hx:(⟨x.aL,x.aT⟩:ab)=x:=rfl
  rw[hx]at q1 ⊢
  have k4:=hK.2 ⟨81000001,n0⟩ (by(try dsimp only);omega)
  simp only[go_sem, ↓reduceIte,Nat.reduceEqDiff,Nat.reduceAdd,Nat.reduceSub,Nat.reduceLeDiff,reduceCtorEq]at k4
  have vo:=cm (a:=⟨81000001,n0⟩) (b:=o) (by(try dsimp only at q2);(try dsimp only);omega)
  refine hN _ _ ?_
  clear hN N
  (try((repeat(revert hN;revert N;apply Pn.out));refine wk @k4 ?_;(repeat(refine Pn.mk ?_;intro N hN))))
  exact eV (.inl rfl) (vs:=[.agg [.own o 0 (iJ l x).length],.int .i64 0]) (sd @Nat.zero_add) (.inr ⟨by omega,o,rfl,sd (tw @vo @q1),by(try dsimp only at q2);omega,by(try dsimp only);omega⟩)
theorem Js {X o:Id} {l:List ab} {σ:au} (hl:l.length<=1048576) (x:ab) (hX:σ.get X=some ⟨true,1,[[.own o 0 l.length]]⟩) (ho:σ.get o=some ⟨true,3,l.map aa⟩):
  Call Tryz.prog 81 [.ptr X 0 0,.agg (aa x)] σ (fun r σ'=>AtK σ.next l x r σ'/\Kept σ σ'):=by
 refine wj mixed (args':=[.du [.sl (l.map aa)],.agg (aa x)]) (by
  have hp:=sK hX ho
  simp only[ae,aj,hp,Option.map_some,aa,bf,aJ]) (aE _ _ _ _ _ (fun r σ' hq=>?_) (th mixed (C0 l hl x σ.next)))
 obtain⟨hq,hn⟩:=hq
 rcases hq with⟨h5,rfl⟩|⟨h5,o2,rfl,h2,h3,h4⟩
 ·exact⟨[],rfl,fun i hi=>by(cases hi),.inl ⟨h5,rfl⟩,hn,fun j hj=>k8 (g':=σ'.get) (List.not_mem_nil)⟩
 ·refine⟨[o2],rfl,fun i hi=>?_,.inr ⟨h5,o2,rfl,(pN (by simp)).trans h2,h3,h4⟩,hn,fun j hj=>k8 fun hc=>?_⟩
  ·rw[List.mem_singleton.1 hi]
   exact⟨_,h2,rfl,fun cs dC a ha=>by
    obtain⟨y,_,rfl⟩:=List.mem_map.1 dC
    simp[aa]at ha
    rcases ha with rfl|rfl|rfl<;>rfl⟩
  ·rw[List.mem_singleton.1 hc]at hj;omega
noncomputable def Mi (s:aw) (es:List ab):AV:=if (Il s es).2=0 then .sl ((ez s es es.length).map aa)else .bD
theorem HY (s:aw) (hP:uN s) (es:List ab) (hq:es.length<=500):aq Tryz.prog 183 [.du (ar s),.sl (es.map aa)] (.gD [.agg [Mi s es],.int .i64 (Il s es).1,.int .i64 (Il s es).2]):=by
 refine aq.body eF rfl fun iQ n0=>?_
 clear iQ
 have S6:=hP.yU.1.yi
 (try((repeat(revert hN;revert N;apply Pn.out));refine wk @ar.eq_1 ?_;(repeat(refine Pn.mk ?_;intro N hN))))
 refine .inr (aE _ _ _ _ _ (fun r σ1 Gr=>?_) (Mm.val (fun n=>(CU s.bh.ai (by omega) n).cut mixed (.ptr _ [.int .i64 s.ay] .nil)) (by simp only[ae,aj,aW,Option.map_some];rfl)))
 obtain⟨⟨o,rfl,q1,q2,q3⟩,hK⟩:=Gr
 obtain⟨g1,x1⟩:=σ1
 (try dsimp only at q1 q2 q3 hK)
 have rm:=hK.1
 (try dsimp only at rm)
 have k4:=hK.2 ⟨183000000,n0⟩ (by(try dsimp only);omega)
 simp only[go_sem, ↓reduceIte,Nat.reduceEqDiff,Nat.reduceAdd,Nat.reduceSub,Nat.reduceLeDiff,reduceCtorEq]at k4
 refine hN _ _ ?_
 clear hN N
 (try((repeat(revert hN;revert N;apply Pn.out));refine wk (tw @k4 @ar.eq_1) ?_;(repeat(refine Pn.mk ?_;intro N hN))))
 have hz:=zM s es
 refine aZ (fun n env st=>∃i:Nat,n=(es.length)-i/\i<=(es.length)/\env 8=.int .i64 (i:Int)/\st.get ⟨183000000,n0⟩=some ⟨true,1,[[.bD]]⟩/\(x1<st.next/\∃o:Id,st.get ⟨183001004,x1⟩=some ⟨true,1,[[.own o 0 (ez s es i).length]]⟩/\st.get o=some ⟨true,3,(ez s es i).map aa⟩/\o.bE<st.next/\o≠⟨183001004,x1⟩)/\(∀j:Nat,j<i->fb s es j=true)) (es.length) ⟨0,by omega,by omega,sl (tw @k4 @ar.eq_1),sl (tw @k4 @ar.eq_1),by(try dsimp only);exact⟨by omega,o,by rw[hz];simp only[go_sem, ↓reduceIte,Nat.reduceEqDiff,Nat.reduceAdd,Nat.reduceSub,Nat.reduceLeDiff,reduceCtorEq],by(have vo:=dr (i:=o) (n:=x1) (by omega));rw[hz];simp only[go_sem, ↓reduceIte,Nat.reduceEqDiff,Nat.reduceAdd,Nat.reduceSub,Nat.reduceLeDiff,reduceCtorEq,vo,q1],by omega,fun e=>by rw[e]at q3;(try dsimp only at q3);omega⟩,fun _ h=>absurd h (Nat.not_lt_zero _)⟩ ?_
 rintro n_a env_a st_a ⟨i,rfl,ale,a8,ag0,jO,kj⟩ dy
 have a0:=dy 0 (by kernel_rfl);have a1:=dy 1 (by kernel_rfl);have a4:=dy 4 (by kernel_rfl);have a7:=dy 7 (by kernel_rfl)
 simp only[go_sem, ↓reduceIte,Nat.reduceEqDiff,Nat.reduceAdd,Nat.reduceSub,Nat.reduceLeDiff,reduceCtorEq,k4,ar]at a0 a1 a4 a7
 clear dy
 obtain⟨an,o,aX,ao,Ae,aoX⟩:=jO
 have Ct:=lx hP (es:=es) i (by omega) kj
 have Cx:=Ct.1.yi
 by_cases hi:(i:Int)<(es.length:Int)
 ·have cw:∀{e:Env} {gg:Rows} {nx:Nat},(e 8=.int .i64 (IntKind.i64.wrap ((i:Int)+1)))->(gg ⟨183000000,n0⟩=some ⟨true,1,[[.bD]]⟩)->(x1<nx/\∃o:Id,gg ⟨183001004,x1⟩=some ⟨true,1,[[.own o 0 (ez s es (i+1)).length]]⟩/\gg o=some ⟨true,3,(ez s es (i+1)).map aa⟩/\o.bE<nx/\o≠⟨183001004,x1⟩)->(fb s es i=true)->∃m0,m0<(es.length)-i/\∃i:Nat,m0=(es.length)-i/\i<=(es.length)/\e 8=.int .i64 (i:Int)/\gg ⟨183000000,n0⟩=some ⟨true,1,[[.bD]]⟩/\(x1<nx/\∃o:Id,gg ⟨183001004,x1⟩=some ⟨true,1,[[.own o 0 (ez s es i).length]]⟩/\gg o=some ⟨true,3,(ez s es i).map aa⟩/\o.bE<nx/\o≠⟨183001004,x1⟩)/\(∀j:Nat,j<i->fb s es j=true):=fun x1 x2 x3 x4=>⟨_,by omega,i+1,rfl,by omega,(by rw[x1,aD (by omega)]),x2,x3,(all_succ kj x4)⟩
  have fe:i<es.length:=by omega
  have iV:=fw fe
  have Kv:=nh s es fe
  have VN:=HX s hP _ Ct (aA es i).aL (aA es i).aT
  have jc:(es.map aa).length=es.length:=by simp
  have v4:=dr (i:=⟨183000000,n0⟩) (n:=st_a.next) (by(try dsimp only);omega)
  have vX:=dr (i:=⟨183001004,x1⟩) (n:=st_a.next) an
  have vo:=dr Ae
  (try((repeat(revert hN;revert N;apply Pn.out));refine wk (tw @a8 (tw @ag0 (tw @a0 (tw @a1 (tw @a4 (tw @a7 (tw @hi (tw @iV (tw @jc @aa.eq_1))))))))) ?_;(repeat(refine Pn.mk ?_;intro N hN))))
  refine .inl ⟨_,aq.x VN (by
   have hp:=sK aX ao
   simp only[ae,aj,aW,hp,bf,aJ,Option.map_some]
   rfl),?_⟩
  refine hN _ _ ?_
  clear hN N
  have EX:(ev s.aI (aA es i).aT&&iI s (ez s es i) (aA es i).aL (aA es i).aT)=Fw s es i:=rfl
  rw[EX]
  cases hB:Fw s es i
  ·have hr:=pD fe kj (by rw[fb,hB];rfl)
   rw[hB]at hr
   have hw:Mi s es=.bD:=by rw[Mi,hr];rfl
   (try((repeat(revert hN;revert N;apply Pn.out));refine wk (tw @a8 (tw @ag0 (tw @a0 (tw @a1 (tw @a4 (tw @a7 (tw @iV (tw @jc @aa.eq_1)))))))) ?_;(repeat(refine Pn.mk ?_;intro N hN))))
   exact l9 (.inl rfl) (vs:=[.agg [.bD],.int .i64 (i:Int),.int .i64 5]) (sd (tw @a8 (tw @ag0 (tw @a0 (tw @a1 (tw @a4 @a7)))))) (by
    rw[hw,hr];simp only[eW,e9,vK,bt,cz,jE,er,Option.map_some];rfl)
  ·(try((repeat(revert hN;revert N;apply Pn.out));refine wk (tw @a8 (tw @ag0 (tw @a0 (tw @a1 (tw @a4 (tw @a7 (tw @iV (tw @jc (tw @hi @aa.eq_1))))))))) ?_;(repeat(refine Pn.mk ?_;intro N hN))))
   refine .inr (aE _ _ _ _ _ (fun r σ2 nz=>?_) (Js (X:=⟨183001004,x1⟩) (o:=o) (l:=ez s es i) (by omega) (aA es i) aX ao))
   obtain⟨xf,hK⟩:=nz
   obtain⟨g2,x2⟩:=σ2
   (try dsimp only at xf hK)
   have EU:=hK.1
   (try dsimp only at EU)
   have k4:=hK.2 ⟨183000000,n0⟩ (by(try dsimp only);omega)
   have kX:=hK.2 ⟨183001004,x1⟩ (by(try dsimp only);omega)
   simp only[go_sem, ↓reduceIte,Nat.reduceEqDiff,Nat.reduceAdd,Nat.reduceSub,Nat.reduceLeDiff,reduceCtorEq,v4,vX,ag0,aX]at k4 kX
   have w4:=dr (i:=⟨183000000,n0⟩) (n:=x2) (by(try dsimp only);omega)
   have wX:=dr (i:=⟨183001004,x1⟩) (n:=x2) (by(try dsimp only);omega)
   refine hN _ _ ?_
   clear hN N
   rcases xf with⟨h5,rfl⟩|⟨h5,o2,rfl,p1,p2,p3⟩
   ·have hr:=pD fe kj (by rw[fb,hB,Bool.true_and];exact decide_eq_false (by omega))
    rw[hB]at hr
    have hw:Mi s es=.bD:=by rw[Mi,hr];rfl
    (try((repeat(revert hN;revert N;apply Pn.out));refine wk (tw @a8 (tw @ag0 (tw @a0 (tw @a1 (tw @a4 (tw @a7 (tw @k4 (tw @kX (tw @w4 @wX))))))))) ?_;(repeat(refine Pn.mk ?_;intro N hN))))
    exact l9 (.inl rfl) (vs:=[.agg [.bD],.int .i64 0,.int .i64 4]) (sd (tw @a8 (tw @ag0 (tw @a0 (tw @a1 (tw @a4 @a7)))))) (by
     rw[hw,hr];simp only[eW,e9,vK,bt,cz,jE,er,Option.map_some];rfl)
   ·(try dsimp only at p1 p2 p3)
    have tb:fb s es i=true:=by rw[fb,hB,Bool.true_and];exact decide_eq_true h5
    have wo:=dr (i:=o2) (n:=x2) p3
    have oX:=cm (a:=⟨183001004,x1⟩) (b:=o2) (by(try dsimp only at p2);(try dsimp only);omega)
    (try((repeat(revert hN;revert N;apply Pn.out));refine wk (tw @a8 (tw @ag0 (tw @a0 (tw @a1 (tw @a4 (tw @a7 (tw @k4 (tw @kX (tw @w4 @wX))))))))) ?_;(repeat(refine Pn.mk ?_;intro N hN))))
    refine cw ?_ ?_ (by(try dsimp only);exact⟨by omega,o2,by rw[Kv];simp only[go_sem, ↓reduceIte,Nat.reduceEqDiff,Nat.reduceAdd,Nat.reduceSub,Nat.reduceLeDiff,reduceCtorEq,wX]<;>rfl,by rw[Kv];simp only[go_sem, ↓reduceIte,Nat.reduceEqDiff,Nat.reduceAdd,Nat.reduceSub,Nat.reduceLeDiff,reduceCtorEq,wo,oX,p1],by omega,fun e=>by rw[e]at p2;(try dsimp only at p2);omega⟩) (tb)
    all_goals simp only[go_sem, ↓reduceIte,Nat.reduceEqDiff,Nat.reduceAdd,Nat.reduceSub,Nat.reduceLeDiff,reduceCtorEq,a8,ag0,a0,a1,a4,a7,k4,w4]
 ·have kF:i=es.length:=by omega
  subst kF
  have hr:=GO kj
  have hw:Mi s es=.sl ((ez s es es.length).map aa):=by rw[Mi,hr];rfl
  have v4:=dr (i:=⟨183000000,n0⟩) (n:=st_a.next) (by(try dsimp only);omega)
  have n4:(o=(⟨183000000,n0⟩:Id))=False:=eq_false fun e=>by rw[e,ag0]at ao;simp at ao
  (try((repeat(revert hN;revert N;apply Pn.out));refine wk (tw @a8 (tw @ag0 (tw @a0 (tw @a1 (tw @a4 (tw @a7 (tw @hi @aX))))))) ?_;(repeat(refine Pn.mk ?_;intro N hN))))
  exact l9 (.inl rfl) (vs:=[.agg [.own o 0 (ez s es es.length).length],.int .i64 0,.int .i64 0]) (sd (tw @a8 (tw @ag0 (tw @a0 (tw @a1 (tw @a4 @a7)))))) (by
   rw[hw,hr]
   simp only[eW,e9,vK,bt,cz,er]
   rw[fu (e:=aa) (l:=ez s es es.length) (sz:=3) (sd (tw @n4 @ao)) rfl (fun x=>Sf _ 2 x)];rfl)
end Go.Proofs.YtgoelphibofcmaaGreat.V

namespace Go.Proofs.YtgoelphibofcmaaGreat.V
open Go.RowKit
attribute [local irreducible] dQ wpOps fX Call
attribute [local go_sem] aQ fM eU fY fW dm upd cG K.av cQ AV.cells AV.cell rowOf rowsOf part ld rowAt bQ cC dE ea gZ bS dh eo fV fj dB ef dd dc dS dU b4 bj cV bW cY cW ec eh ee cU ck de eb bV aU da cK gY bx cP cj bd dv bl dG AV.undef bH bK dW dZ dO dL cN ek eu cJ ej ei cZ db List.getD_cons_zero List.getD_cons_succ List.getD_nil List.all_cons List.all_nil Bool.and_true Bool.true_and Bool.and_self Bool.not_true Bool.not_false Option.map_some Option.map_none Option.bind_some Option.bind_none List.length_cons List.length_nil List.take_succ_cons List.take_zero List.take_nil List.drop_succ_cons List.drop_zero List.drop_nil List.head?_cons List.map_cons List.map_nil List.getElem?_cons_zero List.getElem?_cons_succ List.cons_append List.nil_append List.append_nil List.length_map List.set_cons_zero List.set_cons_succ Nat.reduceMul eq_self Int.toNat_natCast Int.natCast_nonneg and_self true_and and_true decide_true decide_false Bool.false_eq_true Nat.zero_add Nat.add_zero List.contains_cons List.contains_nil Bool.or_false Bool.false_or beq_self_eq_true Nat.reduceBEq ne_eq not_true_eq_false not_false_eq_true Id.mk.injEq false_and and_false Nat.reduceLT Int.reduceLE Int.reduceLT Int.reduceToNat Int.reduceNeg Int.reduceAdd Nat.le_refl List.length_append beq_true beq_false Bool.not_eq_eq_eq_not or_false false_or dX ae aj aJ bq bG cr aY bf aW bp cR bB
noncomputable def k7 (s:aw) (es:List ab):Int×Int:=if nT s then(if es.length<=500 then Il s es else(0,2))else(0,1)
noncomputable def AY (s:aw) (es:List ab):AV:=if (k7 s es).2=0 then .sl ((ez s es es.length).map aa)else .bD
theorem wD (s:aw) (es:List ab) (hn:fm s.aI) (hg:s.aI.aB.length<=1048576) (ht:s.aI.ai.length<=1048576):iM Tryz.prog 146 [.agg (ar s),.sl (es.map aa)] (.gD [.agg [AY s es],.int .i64 (k7 s es).1,.int .i64 (k7 s es).2]):=by
 have h1:=Nn s hn hg ht
 cases h0:nT s
 ·have hr:k7 s es=(0,1):=by rw[k7,h0];rfl
  have hw:AY s es=.bD:=by rw[AY,hr];rfl
  rw[hr,hw]
  rw[h0]at h1
  refine iM.body eF rfl fun iQ σ=>?_
  clear iQ
  rw[ar]at h1 ⊢
  (repeat(first|((repeat(revert hN;revert N;apply Pn.out));refine wk @Nat.zero_add ?_;(repeat(refine Pn.mk ?_;intro N hN)))|((try apply Or.inl);refine⟨_,aq.x (h1) (sd @Nat.zero_add),?_⟩;refine hN _ _ ?_;clear hN N)))
  exact rP (.inl rfl) (vs:=[.agg [.bD],.int .i64 0,.int .i64 1]) (sd @Nat.zero_add) (by simp only[eW,bB,bf,ae,aj,aY,aJ,Option.map_some])
 ·rw[h0]at h1
  have hP:=sY.1 h0
  by_cases h5:es.length<=500
  ·have hr:k7 s es=Il s es:=by rw[k7,h0,if_pos rfl,if_pos h5]
   have hw:AY s es=Mi s es:=by rw[AY,hr];rfl
   have h2:=HY s hP es h5
   rw[hr,hw]
   have hd:decide ((500:Int)<(es.length:Int))=false:=decide_eq_false (by omega)
   obtain⟨w,Tf⟩:∃w,Mi s es=w:=⟨_,rfl⟩
   rw[Tf]at h2 ⊢
   have oq:w.cells=[w]/\w.cell=true/\∀g,fz g 5 w=some w/\fz g 4 w=some w:=by
    rw[<-Tf];unfold Mi
    split
    ·exact⟨rfl,rfl,fun g=>⟨cr _ _ _,cr _ _ _⟩⟩
    ·exact⟨rfl,rfl,fun g=>⟨aY _ _,aY _ _⟩⟩
   obtain⟨nw,yF,hc3⟩:=oq
   unfold AV.cells at nw
   unfold AV.cell at yF
   have hc4:=fun g=>(hc3 g).2
   refine iM.body eF rfl fun iQ σ=>?_
   clear iQ
   rw[ar]at h1 h2 ⊢
   (repeat(first|((repeat(revert hN;revert N;apply Pn.out));refine wk (tw @hd (tw @nw @yF)) ?_;(repeat(refine Pn.mk ?_;intro N hN)))|((try apply Or.inl);refine⟨_,aq.x (h1) (sd (tw @hd (tw @nw @yF))),?_⟩;refine hN _ _ ?_;clear hN N)|((try apply Or.inl);refine⟨_,aq.x (h2) (sd (tw @hd (tw @nw @yF))),?_⟩;refine hN _ _ ?_;clear hN N)))
   exact rP (.inl rfl) (vs:=[.agg [w],.int .i64 (Il s es).1,.int .i64 (Il s es).2]) (sd @Nat.zero_add) (by simp only[eW,bB,bf,ae,aj,hc4,aJ,Option.map_some])
  ·have hr:k7 s es=(0,2):=by rw[k7,h0,if_pos rfl,if_neg h5]
   have hw:AY s es=.bD:=by rw[AY,hr];rfl
   rw[hr,hw]
   have hd:decide ((500:Int)<(es.length:Int))=true:=decide_eq_true (by omega)
   refine iM.body eF rfl fun iQ σ=>?_
   clear iQ
   rw[ar]at h1 ⊢
   (repeat(first|((repeat(revert hN;revert N;apply Pn.out));refine wk @hd ?_;(repeat(refine Pn.mk ?_;intro N hN)))|((try apply Or.inl);refine⟨_,aq.x (h1) (sd @hd),?_⟩;refine hN _ _ ?_;clear hN N)))
   exact rP (.inl rfl) (vs:=[.agg [.bD],.int .i64 0,.int .i64 2]) (sd @Nat.zero_add) (by simp only[eW,bB,bf,ae,aj,aY,aJ,Option.map_some])
theorem xq (s:aw) (es:List ab) (hn:fm s.aI) (hg:s.aI.aB.length<=1048576) (ht:s.aI.ai.length<=1048576):aq Tryz.prog 89 [.du (ar s),.sl (es.map aa)] (.int .i64 (k7 s es).2):=by
 refine aq.body eF rfl fun iQ n0=>?_
 clear iQ
 have h1:=wD s es hn hg ht
 obtain⟨w,Tf⟩:∃w,AY s es=w:=⟨_,rfl⟩
 rw[Tf]at h1
 have oq:w.cells=[w]/\w.cell=true:=by
  rw[<-Tf];unfold AY
  split<;>exact⟨rfl,rfl⟩
 obtain⟨nw,yF⟩:=oq
 unfold AV.cells at nw
 unfold AV.cell at yF
 rw[ar]at h1
 (repeat(first|((repeat(revert hN;revert N;apply Pn.out));refine wk (tw @ar.eq_1 (tw @nw @yF)) ?_;(repeat(refine Pn.mk ?_;intro N hN)))|((try apply Or.inl);refine⟨_,iM.x (h1) _,?_⟩;refine hN _ _ ?_;clear hN N)))
 exact dj (b:=(k7 s es).2) (.inl rfl) (sd @Nat.zero_add) rfl
def p2 (d:Nat):Int:=2 ^ d
noncomputable def iR (s:aw) (l:List ab) (x:ab):Nat->Int
 |0=>0
 |d+1=>if 0<=gV l (cH x.aL d)/\0<gw s.aI x.aT d (gV l (cH x.aL d))then iR s l x d+p2 d else iR s l x d
theorem AQ (s:aw) (l:List ab) (x:ab):∀d,0<=iR s l x d/\iR s l x d<p2 d
 |0=>by simp[iR,p2]
 |d+1=>by
  have ih:=AQ s l x d
  have h:p2 (d+1)=p2 d+p2 d:=by unfold p2;rw[Int.pow_succ];omega
  rw[iR,h]
  split<;>omega
noncomputable def jx (s:aw) (es:List ab) (i:Nat):List Int:=(List.range i).map fun j=>iR s (ez s es j) (aA es j) 4
noncomputable def yV (s:aw) (es:List ab) (i:Nat):List Int:=(List.range i).map fun j=>qC s.aI (gV (ez s es j)) (aA es j).aL (aA es j).aT
theorem kz (s:aw) (es:List ab) (i:Nat):(jx s es i).length=i:=by simp[jx]
theorem Dw (s:aw) (es:List ab) (i:Nat):(yV s es i).length=i:=by simp[yV]
theorem zD (s:aw) (es:List ab) (i:Nat):(jx s es (i+1)).map az=(jx s es i).map az++[[.int .i64 (iR s (ez s es i) (aA es i) 4)]]:=by simp[jx,List.range_succ,az]
theorem IA (s:aw) (es:List ab) (i:Nat):(yV s es (i+1)).map az=(yV s es i).map az++[[.int .i64 (qC s.aI (gV (ez s es i)) (aA es i).aL (aA es i).aT)]]:=by simp[yV,List.range_succ,az]
theorem GU {d:Nat} (h:d<4):IntKind.i64.wrap (1*2 ^ min d 64)=p2 d:=by
 have:d=0∨d=1∨d=2∨d=3:=by omega
 rcases this with rfl|rfl|rfl|rfl<;>rfl
theorem K7 {d:Nat} (h:d<4):p2 d<=8:=by
 have:d=0∨d=1∨d=2∨d=3:=by omega
 rcases this with rfl|rfl|rfl|rfl<;>decide
def L4 (s:aw) (es:List ab) (i:Nat) (X:Id) (e7 e8:AV) (g:Rows) (n:Nat):Prop:=∃o u v:Id,g X=some ⟨true,1,[[.own o 0 (ez s es i).length]]⟩/\g o=some ⟨true,3,(ez s es i).map aa⟩/\e7=.own u 0 i/\g u=some ⟨true,1,(jx s es i).map az⟩/\e8=.own v 0 i/\g v=some ⟨true,1,(yV s es i).map az⟩/\X.bE<n/\o.bE<n/\u.bE<n/\v.bE<n/\o≠X/\u≠X/\v≠X/\o≠u/\o≠v/\u≠v
theorem L4.frame {s:aw} {es:List ab} {i:Nat} {X:Id} {e7 e8 Oa e8':AV} {g g':Rows} {n n':Nat} (h:L4 s es i X e7 e8 g n) (h7:Oa=e7) (h8:e8'=e8) (hn:n<=n') (hf:∀x:Id,x.bE<n->g' x=g x):L4 s es i X Oa e8' g' n':=by
 obtain⟨o,u,v,a1,a2,a3,a4,a5,a6,a7,a8,a9,mD,Jr⟩:=h
 exact⟨o,u,v,(hf X a7).trans a1,(hf o a8).trans a2,h7.trans a3,(hf u a9).trans a4,h8.trans a5,(hf v mD).trans a6,by omega,by omega,by omega,by omega,Jr⟩
theorem uB (s:aw) (hP:uN s) (es:List ab) (dx:∀j,j<es.length->fb s es j=true) (hq:es.length<=500):aq Tryz.prog 90 [.du (ar s),.sl (es.map aa)] (.gD [.sl ((jx s es es.length).map az),.sl ((yV s es es.length).map az)]):=by
 refine aq.body eF rfl fun iQ n0=>?_
 clear iQ
 have S6:=hP.yU.1.yi
 (try((repeat(revert hN;revert N;apply Pn.out));refine wk @ar.eq_1 ?_;(repeat(refine Pn.mk ?_;intro N hN))))
 refine .inr (aE _ _ _ _ _ (fun r σ1 Gr=>?_) (Mm.val (fun n=>(CU s.bh.ai (by omega) n).cut mixed (.ptr _ [.int .i64 s.ay] .nil)) (by simp only[ae,aj,aW,Option.map_some];rfl)))
 obtain⟨⟨o,rfl,q1,q2,q3⟩,hK⟩:=Gr
 obtain⟨g1,x1⟩:=σ1
 (try dsimp only at q1 q2 q3 hK)
 have rm:=hK.1
 (try dsimp only at rm)
 refine hN _ _ ?_
 clear hN N
 (try((repeat(revert hN;revert N;apply Pn.out));refine wk @ar.eq_1 ?_;(repeat(refine Pn.mk ?_;intro N hN))))
 refine aZ (fun n env st=>∃i:Nat,n=(es.length)-i/\i<=(es.length)/\env 9=.int .i64 (i:Int)/\(L4 s es i ⟨90001004,x1⟩ (env 7) (env 8) st.get st.next)) (es.length) ⟨0,by omega,by omega,sl @ar.eq_1,by
  have vo:=dr (i:=o) (n:=x1) (by omega)
  have hz:=zM s es
  exact⟨o,⟨90002000,x1+1⟩,⟨90003000,x1+1+1⟩,by rw[hz]<;>simp only[go_sem, ↓reduceIte,Nat.reduceEqDiff,Nat.reduceAdd,Nat.reduceSub,Nat.reduceLeDiff,reduceCtorEq],by rw[hz]<;>simp only[go_sem, ↓reduceIte,Nat.reduceEqDiff,Nat.reduceAdd,Nat.reduceSub,Nat.reduceLeDiff,reduceCtorEq,vo,q1],sl @Nat.zero_add,sl @Nat.zero_add,sl @Nat.zero_add,sl @Nat.zero_add,by(try dsimp only);omega,by(try dsimp only);omega,by(try dsimp only);omega,by(try dsimp only);omega,fun e=>by rw[e]at q3;(try dsimp only at q3);omega,by simp,by simp,fun e=>by rw[e]at q3;(try dsimp only at q3);omega,fun e=>by rw[e]at q3;(try dsimp only at q3);omega,by simp⟩⟩ ?_
 rintro n_a env_a st_a ⟨i,rfl,ale,a9,jO⟩ dy
 have a0:=dy 0 (by kernel_rfl);have a1:=dy 1 (by kernel_rfl);have a6:=dy 6 (by kernel_rfl)
 simp only[go_sem, ↓reduceIte,Nat.reduceEqDiff,Nat.reduceAdd,Nat.reduceSub,Nat.reduceLeDiff,reduceCtorEq,ar]at a0 a1 a6
 clear dy
 have Ct:=lx hP (es:=es) i (by omega) fun j hj=>dx j (by omega)
 have Cx:=Ct.1.yi
 by_cases hi:(i:Int)<(es.length:Int)
 ·have cw:∀{e:Env} {gg:Rows} {nx:Nat},(e 9=.int .i64 (IntKind.i64.wrap ((i:Int)+1)))->(L4 s es (i+1) ⟨90001004,x1⟩ (e 7) (e 8) gg nx)->∃m0,m0<(es.length)-i/\∃i:Nat,m0=(es.length)-i/\i<=(es.length)/\e 9=.int .i64 (i:Int)/\(L4 s es i ⟨90001004,x1⟩ (e 7) (e 8) gg nx):=fun x1 x2=>⟨_,by omega,i+1,rfl,by omega,(by rw[x1,aD (by omega)]),x2⟩
  have fe:i<es.length:=by omega
  have hg:=dx i fe
  rw[fb,Bool.and_eq_true,Fw,Bool.and_eq_true]at hg
  obtain⟨⟨Gu,Ru⟩,HC⟩:=hg
  have Kl:vk (aA es i).aL=true:=by simp[iI]at Ru;exact Ru.1.1
  obtain⟨hx,hy⟩:=ml Kl
  have iV:=fw fe
  have Kv:=nh s es fe
  have Ry:=zD s es i
  have IZ:=IA s es i
  have jc:(es.map aa).length=es.length:=by simp
  (try((repeat(revert hN;revert N;apply Pn.out));refine wk (tw @a9 (tw @a0 (tw @a1 (tw @a6 (tw @hi (tw @iV (tw @jc @aa.eq_1))))))) ?_;(repeat(refine Pn.mk ?_;intro N hN))))
  refine aZ (fun n env st=>∃d:Nat,n=(4)-d/\d<=(4)/\env 12=.int .i64 (d:Int)/\env 11=.int .i64 (iR s (ez s es i) (aA es i) d)/\st.get ⟨90007004,st_a.next+1⟩=some ⟨true,3,[[.int .i64 (aA es i).aL.fc,.int .i64 (aA es i).aL.eR,.int .i64 (aA es i).aT]]⟩/\(st_a.next+2<=st.next/\L4 s es i ⟨90001004,x1⟩ (env 7) (env 8) st.get st.next)) (4) ⟨0,by omega,by omega,sl (tw @a9 (tw @a0 (tw @a1 (tw @a6 @ar.eq_1)))),sl (tw @a9 (tw @a0 (tw @a1 (tw @a6 @ar.eq_1)))),sl (tw @a9 (tw @a0 (tw @a1 (tw @a6 @ar.eq_1)))),by(try dsimp only);exact⟨by omega,jO.frame (sd @Nat.zero_add) (sd @Nat.zero_add) (by(try dsimp only);omega) fun x hx=>by
   have h1:=dr hx
   simp only[go_sem, ↓reduceIte,Nat.reduceEqDiff,Nat.reduceAdd,Nat.reduceSub,Nat.reduceLeDiff,reduceCtorEq,h1]⟩⟩ ?_
  rintro n_b env_b st_b ⟨d,rfl,ble,qz,b11,bg0,bI0⟩ fK
  have b0:=fK 0 (by kernel_rfl);have b1:=fK 1 (by kernel_rfl);have b6:=fK 6 (by kernel_rfl);have b9:=fK 9 (by kernel_rfl);have od:=fK 10 (by kernel_rfl)
  simp only[go_sem, ↓reduceIte,Nat.reduceEqDiff,Nat.reduceAdd,Nat.reduceSub,Nat.reduceLeDiff,reduceCtorEq,a9,a0,a1,a6,ar]at b0 b1 b6 b9 od
  clear fK
  obtain⟨bn,bP⟩:=bI0
  obtain⟨o,u,v,a1,a2,a3,a4,a5,a6,a7,a8,a9,mD,n1,n2,n3,n4,n5,n6⟩:=bP
  by_cases hd:(d:Int)<4
  ·have fE:∀{e:Env} {gg:Rows} {nx:Nat},(e 12=.int .i64 (IntKind.i64.wrap ((d:Int)+1)))->(e 11=.int .i64 (iR s (ez s es i) (aA es i) (d+1)))->(gg ⟨90007004,st_a.next+1⟩=some ⟨true,3,[[.int .i64 (aA es i).aL.fc,.int .i64 (aA es i).aL.eR,.int .i64 (aA es i).aT]]⟩)->(st_a.next+2<=nx/\L4 s es i ⟨90001004,x1⟩ (e 7) (e 8) gg nx)->∃m0,m0<(4)-d/\∃d:Nat,m0=(4)-d/\d<=(4)/\e 12=.int .i64 (d:Int)/\e 11=.int .i64 (iR s (ez s es i) (aA es i) d)/\gg ⟨90007004,st_a.next+1⟩=some ⟨true,3,[[.int .i64 (aA es i).aL.fc,.int .i64 (aA es i).aL.eR,.int .i64 (aA es i).aT]]⟩/\(st_a.next+2<=nx/\L4 s es i ⟨90001004,x1⟩ (e 7) (e 8) gg nx):=fun x1 x2 x3 x4=>⟨_,by omega,d+1,rfl,by omega,(by rw[x1,aD (by omega)]),x2,x3,x4⟩
   have ux:d<4:=by omega
   have dJ:=pY (aA es i).aL d (gr (by omega)) hx hy
   have xf:=GD (ez s es i) (cH (aA es i).aL d) Ct.1.Lo (by omega)
   have hm:=AQ s (ez s es i) (aA es i) d
   have hp:=K7 ux
   have te:=GU ux
   have Qo:=dr (i:=⟨90007004,st_a.next+1⟩) (n:=st_b.next) (by(try dsimp only);omega)
   (repeat(first|((repeat(revert hN;revert N;apply Pn.out));refine wk (tw @qz (tw @b11 (tw @bg0 (tw @b0 (tw @b1 (tw @b6 (tw @b9 (tw @od (tw @hd @ah.eq_1))))))))) ?_;(repeat(refine Pn.mk ?_;intro N hN)))|((try apply Or.inl);refine⟨_,aq.x (dJ) (sd (tw @qz (tw @b11 (tw @bg0 (tw @b0 (tw @b1 (tw @b6 (tw @b9 (tw @od (tw @hd @ah.eq_1)))))))))),?_⟩;refine hN _ _ ?_;clear hN N)))
   refine .inl ⟨_,aq.x xf (by
    have Qd:=sK a1 a2
    simp only[ae,aj,Qd,bf,aJ,Option.map_some,ah]),?_⟩
   refine hN _ _ ?_
   clear hN N
   have VE:L4 s es i ⟨90001004,x1⟩ (env_b 7) (env_b 8) st_b.get st_b.next:=⟨o,u,v,a1,a2,a3,a4,a5,a6,a7,a8,a9,mD,n1,n2,n3,n4,n5,n6⟩
   by_cases h0:0<=gV (ez s es i) (cH (aA es i).aL d)
   ·have om:=(tP s.aI hP.set.form (aA es i).aT d (gV (ez s es i) (cH (aA es i).aL d)) Gu (iH.BW Ct _ h0) (gr (by omega))).cut mixed (.ptr _ [.sl (s.bh.ai.map aa),.int .i64 s.ay] (.same _ (.same _ (.same _ .nil))))
    by_cases hb:0<gw s.aI (aA es i).aT d (gV (ez s es i) (cH (aA es i).aL d))
    ·have uy:iR s (ez s es i) (aA es i) (d+1)=iR s (ez s es i) (aA es i) d+p2 d:=by rw[iR,if_pos ⟨h0,hb⟩]
     have hw:IntKind.i64.wrap (iR s (ez s es i) (aA es i) d+p2 d)=iR s (ez s es i) (aA es i) (d+1):=by rw[bI (by omega),uy]
     (repeat(first|((repeat(revert hN;revert N;apply Pn.out));refine wk (tw @qz (tw @b11 (tw @bg0 (tw @b0 (tw @b1 (tw @b6 (tw @b9 (tw @od (tw @h0 (tw @hb (tw @te (tw @hw (tw @ad.eq_1 @hd))))))))))))) ?_;(repeat(refine Pn.mk ?_;intro N hN)))|((try apply Or.inl);refine⟨_,aq.x (om) (sd (tw @qz (tw @b11 (tw @bg0 (tw @b0 (tw @b1 (tw @b6 (tw @b9 (tw @od (tw @h0 (tw @hb (tw @te (tw @hw (tw @ad.eq_1 @hd)))))))))))))),?_⟩;refine hN _ _ ?_;clear hN N)))
     refine fE ?_ ?_ ?_ (by(try dsimp only);exact⟨by omega,VE.frame (sd @Nat.zero_add) (sd @Nat.zero_add) (by(try dsimp only);omega) fun x hx=>rfl⟩)
     all_goals simp only[go_sem, ↓reduceIte,Nat.reduceEqDiff,Nat.reduceAdd,Nat.reduceSub,Nat.reduceLeDiff,reduceCtorEq,qz,b11,bg0,b0,b1,b6,b9,od,hw,Qo]
    ·have uy:iR s (ez s es i) (aA es i) (d+1)=iR s (ez s es i) (aA es i) d:=by rw[iR,if_neg (fun h=>hb h.2)]
     (repeat(first|((repeat(revert hN;revert N;apply Pn.out));refine wk (tw @qz (tw @b11 (tw @bg0 (tw @b0 (tw @b1 (tw @b6 (tw @b9 (tw @od (tw @h0 (tw @hb (tw @ad.eq_1 @hd))))))))))) ?_;(repeat(refine Pn.mk ?_;intro N hN)))|((try apply Or.inl);refine⟨_,aq.x (om) (sd (tw @qz (tw @b11 (tw @bg0 (tw @b0 (tw @b1 (tw @b6 (tw @b9 (tw @od (tw @h0 (tw @hb (tw @ad.eq_1 @hd)))))))))))),?_⟩;refine hN _ _ ?_;clear hN N)))
     refine fE ?_ ?_ ?_ (by(try dsimp only);exact⟨by omega,VE.frame (sd @Nat.zero_add) (sd @Nat.zero_add) (by(try dsimp only);omega) fun x hx=>rfl⟩)
     all_goals simp only[go_sem, ↓reduceIte,Nat.reduceEqDiff,Nat.reduceAdd,Nat.reduceSub,Nat.reduceLeDiff,reduceCtorEq,qz,b11,bg0,b0,b1,b6,b9,od,uy,Qo]
   ·have uy:iR s (ez s es i) (aA es i) (d+1)=iR s (ez s es i) (aA es i) d:=by rw[iR,if_neg (fun h=>h0 h.1)]
    (try((repeat(revert hN;revert N;apply Pn.out));refine wk (tw @qz (tw @b11 (tw @bg0 (tw @b0 (tw @b1 (tw @b6 (tw @b9 (tw @od (tw @h0 @hd))))))))) ?_;(repeat(refine Pn.mk ?_;intro N hN))))
    refine fE ?_ ?_ ?_ (by(try dsimp only);exact⟨by omega,VE.frame (sd @Nat.zero_add) (sd @Nat.zero_add) (by(try dsimp only);omega) fun x hx=>rfl⟩)
    all_goals simp only[go_sem, ↓reduceIte,Nat.reduceEqDiff,Nat.reduceAdd,Nat.reduceSub,Nat.reduceLeDiff,reduceCtorEq,qz,b11,bg0,b0,b1,b6,b9,od,uy,Qo]
  ·have ux:d=4:=by omega
   subst ux
   have Qo:=dr (i:=⟨90007004,st_a.next+1⟩) (n:=st_b.next) (by(try dsimp only);omega)
   have vX:=dr a7
   have vo:=dr a8
   have vu:=dr a9
   have vv:=dr mD
   have e1:=eq_false n1
   have e2:=eq_false n2
   have e3:=eq_false n3
   have e4:=eq_false n4
   have e5:=eq_false n5
   have e6:=eq_false n6
   have f1:=eq_false (Ne.symm n1)
   have f2:=eq_false (Ne.symm n2)
   have f3:=eq_false (Ne.symm n3)
   have f4:=eq_false (Ne.symm n4)
   have f5:=eq_false (Ne.symm n5)
   have f6:=eq_false (Ne.symm n6)
   have tu:((⟨90007004,st_a.next+1⟩:Id)=u)=False:=eq_false fun e=>by rw[<-e,bg0]at a4;simp at a4
   have tv:((⟨90007004,st_a.next+1⟩:Id)=v)=False:=eq_false fun e=>by rw[<-e,bg0]at a6;simp at a6
   have yJ:((jx s es i).map az).length=i:=by rw[List.length_map,kz]
   have P6:((yV s es i).map az).length=i:=by rw[List.length_map,Dw]
   have On:i<=16777215:=by omega
   generalize hML:(jx s es i).map az=ML at a4 Ry yJ
   generalize hSL:(yV s es i).map az=SL at a6 IZ P6
   have DS:=(so s.aI hP.set (ez s es i) Ct (aA es i).aL hx hy (aA es i).aT Gu).cut mixed (.ptr _ [.sl (s.bh.ai.map aa),.int .i64 s.ay] (.same _ (.same _ (.same _ .nil))))
   (try((repeat(revert hN;revert N;apply Pn.out));refine wk (tw @qz (tw @b11 (tw @bg0 (tw @b0 (tw @b1 (tw @b6 (tw @b9 (tw @od (tw @hd (tw @a3 (tw @a4 (tw @Qo (tw @vX (tw @vo (tw @vu (tw @vv (tw @yJ (tw @On (tw @e1 (tw @e2 (tw @e3 (tw @e4 (tw @e5 (tw @e6 (tw @f1 (tw @f2 (tw @f3 (tw @f4 (tw @f5 (tw @f6 (tw @tu @tv))))))))))))))))))))))))))))))) ?_;(repeat(refine Pn.mk ?_;intro N hN))))
   refine⟨_,aq.x DS (by
    rw[ae,aW,ae,sK (o:=o) (L:=ez s es i)]
    ·simp only[ae,aj,bf,aJ,Option.map_some];rfl
    ·simp only[go_sem, ↓reduceIte,Nat.reduceEqDiff,Nat.reduceAdd,Nat.reduceSub,Nat.reduceLeDiff,reduceCtorEq,vX,f2,f3,a1]
    ·simp only[go_sem, ↓reduceIte,Nat.reduceEqDiff,Nat.reduceAdd,Nat.reduceSub,Nat.reduceLeDiff,reduceCtorEq,vo,e4,e5,a2]),?_⟩
   refine hN _ _ ?_
   clear hN N
   (try((repeat(revert hN;revert N;apply Pn.out));refine wk (tw @qz (tw @b11 (tw @bg0 (tw @b0 (tw @b1 (tw @b6 (tw @b9 (tw @od (tw @hd (tw @a5 (tw @a6 (tw @Qo (tw @vX (tw @vo (tw @vu (tw @vv (tw @P6 (tw @On (tw @e1 (tw @e2 (tw @e3 (tw @e4 (tw @e5 (tw @e6 (tw @f1 (tw @f2 (tw @f3 (tw @f4 (tw @f5 (tw @f6 (tw @tu @tv))))))))))))))))))))))))))))))) ?_;(repeat(refine Pn.mk ?_;intro N hN))))
   refine .inr (aE _ _ _ _ _ (fun r σ2 nz=>?_) (Mm.val (fun n=>CV (ez s es i) (by omega) (aA es i).aL (aA es i).aT n) (by
    rw[ae,sK (o:=o) (L:=ez s es i)]
    ·simp only[ae,aj,bf,aJ,Option.map_some];rfl
    ·simp only[go_sem, ↓reduceIte,Nat.reduceEqDiff,Nat.reduceAdd,Nat.reduceSub,Nat.reduceLeDiff,reduceCtorEq,vX,f2,f3,a1]
    ·simp only[go_sem, ↓reduceIte,Nat.reduceEqDiff,Nat.reduceAdd,Nat.reduceSub,Nat.reduceLeDiff,reduceCtorEq,vo,e4,e5,a2])))
   obtain⟨⟨o2,rfl,p1,p2,p3⟩,hK⟩:=nz
   obtain⟨g2,x2⟩:=σ2
   (try dsimp only at p1 p2 p3 hK)
   have EU:=hK.1
   (try dsimp only at EU)
   have kt:=hK.2 ⟨90007004,st_a.next+1⟩ (by(try dsimp only);omega)
   have kX:=hK.2 ⟨90001004,x1⟩ (by(try dsimp only at a7);(try dsimp only);omega)
   have ku:=hK.2 ⟨90015003,st_b.next+1⟩ (by(try dsimp only);omega)
   have kv:=hK.2 ⟨90016010,st_b.next+1+1⟩ (by(try dsimp only);omega)
   have WQ:((⟨90015003,st_b.next+1⟩:Id)=v)=False:=eq_false fun e=>by rw[<-e]at mD;(try dsimp only at mD);omega
   simp only[go_sem, ↓reduceIte,Nat.reduceEqDiff,Nat.reduceAdd,Nat.reduceSub,Nat.reduceLeDiff,reduceCtorEq,vX,Qo,vv,f2,f3,tu,tv,a1,bg0,WQ]at kt kX ku kv
   have vd:(⟨(aA es i).aL,(aA es i).aT⟩:ab)=aA es i:=rfl
   rw[vd,<-Kv]at p1 ⊢
   have wX:=dr (i:=⟨90001004,x1⟩) (n:=x2) (by(try dsimp only at a7);(try dsimp only);omega)
   have wu:=dr (i:=⟨90015003,st_b.next+1⟩) (n:=x2) (by(try dsimp only);omega)
   have wv:=dr (i:=⟨90016010,st_b.next+1+1⟩) (n:=x2) (by(try dsimp only);omega)
   have wo:=dr (i:=o2) (n:=x2) p3
   have oX:=cm (a:=⟨90001004,x1⟩) (b:=o2) (by(try dsimp only at a7);(try dsimp only);omega)
   refine hN _ _ ?_
   clear hN N
   (try((repeat(revert hN;revert N;apply Pn.out));refine wk (tw @qz (tw @b11 (tw @bg0 (tw @b0 (tw @b1 (tw @b6 (tw @b9 (tw @od @kX)))))))) ?_;(repeat(refine Pn.mk ?_;intro N hN))))
   exact cw (sd (tw @a9 (tw @a0 (tw @a1 (tw @a6 (tw @qz (tw @b11 (tw @bg0 (tw @b0 (tw @b1 (tw @b6 (tw @b9 @od)))))))))))) (by(try dsimp only);exact⟨o2,⟨90015003,st_b.next+1⟩,⟨90016010,st_b.next+1+1⟩,sl @wX,sd (tw @wo (tw @oX @p1)),sl @Nat.zero_add,by rw[Ry];simp only[go_sem, ↓reduceIte,Nat.reduceEqDiff,Nat.reduceAdd,Nat.reduceSub,Nat.reduceLeDiff,reduceCtorEq,wu,ku],sl @Nat.zero_add,by rw[IZ];simp only[go_sem, ↓reduceIte,Nat.reduceEqDiff,Nat.reduceAdd,Nat.reduceSub,Nat.reduceLeDiff,reduceCtorEq,wv,kv],by(try dsimp only at a7);(try dsimp only);omega,by omega,by(try dsimp only);omega,by(try dsimp only);omega,fun e=>by rw[e]at p2;(try dsimp only at a7 p2);omega,by simp,by simp,fun e=>by rw[e]at p2;(try dsimp only at p2);omega,fun e=>by rw[e]at p2;(try dsimp only at p2);omega,by simp⟩)
 ·have kF:i=es.length:=by omega
  subst kF
  obtain⟨o,u,v,m1,m2,m3,m4,m5,m6,m7,m8,m9,m10,n1,n2,n3,n4,n5,n6⟩:=jO
  (try((repeat(revert hN;revert N;apply Pn.out));refine wk (tw @a9 (tw @a0 (tw @a1 (tw @a6 (tw @hi (tw @m3 @m5)))))) ?_;(repeat(refine Pn.mk ?_;intro N hN))))
  exact l9 (.inl rfl) (vs:=[.own u 0 es.length,.own v 0 es.length]) (sd (tw @a9 (tw @a0 (tw @a1 (tw @a6 (tw @m3 @m5)))))) (by
   simp only[eW,e9,bt,cz]
   rw[fu (e:=az) (l:=jx s es es.length) (sz:=1) m4 (kz _ _ _).symm (fun x=>by simp[az,bt,cz,er]),fu (e:=az) (l:=yV s es es.length) (sz:=1) m6 (Dw _ _ _).symm (fun x=>by simp[az,bt,cz,er])];rfl)
end Go.Proofs.YtgoelphibofcmaaGreat.V

namespace Go.Proofs.YtgoelphibofcmaaGreat.V
open Go.RowKit
attribute [local irreducible] dQ wpOps fX Call
attribute [local go_sem] aQ fM eU fY fW dm upd cG K.av cQ AV.cells AV.cell rowOf rowsOf part ld rowAt bQ cC dE ea gZ bS dh eo fV fj dB ef dd dc dS dU b4 bj cV bW cY cW ec eh ee cU ck de eb bV aU da cK gY bx cP cj bd dv bl dG AV.undef bH bK dW dZ dO dL cN ek eu cJ ej ei cZ db List.getD_cons_zero List.getD_cons_succ List.getD_nil List.all_cons List.all_nil Bool.and_true Bool.true_and Bool.and_self Bool.not_true Bool.not_false Option.map_some Option.map_none Option.bind_some Option.bind_none List.length_cons List.length_nil List.take_succ_cons List.take_zero List.take_nil List.drop_succ_cons List.drop_zero List.drop_nil List.head?_cons List.map_cons List.map_nil List.getElem?_cons_zero List.getElem?_cons_succ List.cons_append List.nil_append List.append_nil List.length_map List.set_cons_zero List.set_cons_succ Nat.reduceMul eq_self Int.toNat_natCast Int.natCast_nonneg and_self true_and and_true decide_true decide_false Bool.false_eq_true Nat.zero_add Nat.add_zero List.contains_cons List.contains_nil Bool.or_false Bool.false_or beq_self_eq_true Nat.reduceBEq ne_eq not_true_eq_false not_false_eq_true Id.mk.injEq false_and and_false Nat.reduceLT Int.reduceLE Int.reduceLT Int.reduceToNat Int.reduceNeg Int.reduceAdd Nat.le_refl List.length_append beq_true beq_false Bool.not_eq_eq_eq_not or_false false_or dX ae aj aJ bq bG cr aY bf aW bp cR bB
def US (ps:List aM) (i:Nat):aM:=ps.getD i ⟨0,0⟩
theorem Le {ps:List aM} {i:Nat} (h:i<ps.length):US ps i=ps[i]:=by simp[US,List.getD_eq_getElem?_getD,h]
def RV (ps:List aM):Prop:=ps.Pairwise fun a b=>jY a b=true
theorem RV.at_ {ps:List aM} (h:RV ps) {i j:Nat} (xi:i<j) (hj:j<ps.length):jY (US ps i) (US ps j)=true:=by
 rw[Le hj,Le (by omega)]
 exact List.pairwise_iff_getElem.1 h i j (by omega) hj xi
end Go.Proofs.YtgoelphibofcmaaGreat.V

namespace Go.Proofs.YtgoelphibofcmaaGreat.V
open Go.RowKit Go.Shelf Go.Lib Go.Sort
instance:Inhabited aM:=⟨⟨0,0⟩⟩
variable {P:Program} {w:World} {D:Nat->Prop} {ι:Names}
theorem Lg {vs:Array Value} (h:fF P w D ι [] vs):vs= #[]:=Array.eq_empty_of_size_eq_zero h.1
theorem zS {a:AV} {r:List AV} {vs:Array Value} (h:fF P w D ι (a::r) vs):∃u us,vs=(u::us).toArray/\di P w D ι a u/\fF P w D ι r us.toArray:=by
 obtain⟨h1,h2⟩:=h
 obtain⟨l⟩:=vs
 cases l with
 |nil=>simp at h1
 |cons u us=>
  obtain⟨u',hu,hr⟩:=h2 0 a rfl
  simp at hu;subst hu
  exact⟨u,us,rfl,hr,by simpa using h1,fun j b hj=>by
   obtain⟨v,hv,lZ⟩:=h2 (j+1) b (by simpa using hj)
   exact⟨v,by simpa using hv,lZ⟩⟩
end Go.Proofs.YtgoelphibofcmaaGreat.V

namespace Go.Proofs
open Go.Shelf
def Tryz.FI:Go.Shelf.Ren:=⟨fun|6=>209|15=>207|14=>235|28=>233|29=>234|20=>252|21=>253|22=>254|23=>255|24=>256|25=>257|26=>258|27=>259|46=>268|47=>248|48=>249|49=>269|50=>270|57=>274|n=>n,fun|22=>39|24=>137|25=>243|3=>3|39=>216|0=>0|53=>268|55=>270|4=>4|46=>262|45=>261|50=>177|5=>5|9=>9|66=>287|70=>291|76=>312|77=>313|n=>n,fun|n=>n⟩
theorem Tryz.Lu:Go.Proofs.SlLaysF0.n6 Tryz.prog Tryz.FI:={
 mixed:=by kernel_rfl
 f6:=⟨Tryz.f209.name,by decide,Tryz.func209.trans (congrArg some (by kernel_rfl))⟩
 f14:=⟨Tryz.f235.name,by decide,Tryz.func235.trans (congrArg some (by kernel_rfl))⟩
 f15:=Tryz.func207.trans (congrArg some (by kernel_rfl))
 f20:=⟨Tryz.f252.name,by decide,Tryz.func252.trans (congrArg some (by kernel_rfl))⟩
 f21:=⟨Tryz.f253.name,by decide,Tryz.func253.trans (congrArg some (by kernel_rfl))⟩
 f22:=⟨Tryz.f254.name,by decide,Tryz.func254.trans (congrArg some (by kernel_rfl))⟩
 f23:=⟨Tryz.f255.name,by decide,Tryz.func255.trans (congrArg some (by kernel_rfl))⟩
 f24:=⟨Tryz.f256.name,by decide,Tryz.func256.trans (congrArg some (by kernel_rfl))⟩
 f25:=⟨Tryz.f257.name,by decide,Tryz.func257.trans (congrArg some (by kernel_rfl))⟩
 f26:=⟨Tryz.f258.name,by decide,Tryz.func258.trans (congrArg some (by kernel_rfl))⟩
 f27:=⟨Tryz.f259.name,by decide,Tryz.func259.trans (congrArg some (by kernel_rfl))⟩
 f28:=Tryz.func233.trans (congrArg some (by kernel_rfl))
 f29:=Tryz.func234.trans (congrArg some (by kernel_rfl))
 f46:=⟨Tryz.f268.name,by decide,Tryz.func268.trans (congrArg some (by kernel_rfl))⟩
 f47:=Tryz.func248.trans (congrArg some (by kernel_rfl))
 f48:=Tryz.func249.trans (congrArg some (by kernel_rfl))
 f49:=⟨Tryz.f269.name,by decide,Tryz.func269.trans (congrArg some (by kernel_rfl))⟩
 f50:=⟨Tryz.f270.name,by decide,Tryz.func270.trans (congrArg some (by kernel_rfl))⟩
 f57:=⟨Tryz.f274.name,by decide,Tryz.func274.trans (congrArg some (by kernel_rfl))⟩
 t0:=Tryz.underlying0
 a0:=Tryz.isAgg0
 z0:=Tryz.sizeOf0
 v0:=Tryz.zeroValue0
 t3:=Tryz.underlying3
 a3:=Tryz.isAgg3
 z3:=Tryz.sizeOf3
 v3:=Tryz.zeroValue3
 t4:=Tryz.underlying4
 a4:=Tryz.isAgg4
 z4:=Tryz.sizeOf4
 v4:=Tryz.zeroValue4
 t5:=Tryz.underlying5
 a5:=Tryz.isAgg5
 z5:=Tryz.sizeOf5
 v5:=Tryz.zeroValue5
 t9:=Tryz.underlying9
 a9:=Tryz.isAgg9
 z9:=Tryz.sizeOf9
 v9:=Tryz.zeroValue9
 t22:=Tryz.underlying39
 a22:=Tryz.isAgg39
 z22:=Tryz.sizeOf39
 v22:=Tryz.zeroValue39
 t25:=Tryz.underlying243
 a25:=Tryz.isAgg243
 z25:=Tryz.sizeOf243
 v25:=Tryz.zeroValue243
 t39:=Tryz.underlying216
 a39:=Tryz.isAgg216
 z39:=Tryz.sizeOf216
 v39:=Tryz.zeroValue216
 t45:=Tryz.underlying261
 a45:=Tryz.isAgg261
 z45:=Tryz.sizeOf261
 v45:=Tryz.zeroValue261
 t46:=Tryz.underlying262
 a46:=Tryz.isAgg262
 z46:=Tryz.sizeOf262
 v46:=Tryz.zeroValue262
 t50:=Tryz.underlying177
 a50:=Tryz.isAgg177
 z50:=Tryz.sizeOf177
 v50:=Tryz.zeroValue177
 t53:=Tryz.underlying268
 a53:=Tryz.isAgg268
 z53:=Tryz.sizeOf268
 v53:=Tryz.zeroValue268
 t55:=Tryz.underlying270
 a55:=Tryz.isAgg270
 z55:=Tryz.sizeOf270
 v55:=Tryz.zeroValue270
 t66:=Tryz.underlying287
 a66:=Tryz.isAgg287
 z66:=Tryz.sizeOf287
 v66:=Tryz.zeroValue287
 t70:=Tryz.underlying291
 a70:=Tryz.isAgg291
 z70:=Tryz.sizeOf291
 v70:=Tryz.zeroValue291
 t76:=Tryz.underlying312
 a76:=Tryz.isAgg312
 z76:=Tryz.sizeOf312
 v76:=Tryz.zeroValue312
 t77:=Tryz.underlying313
 a77:=Tryz.isAgg313
 z77:=Tryz.sizeOf313
 v77:=Tryz.zeroValue313}
end Go.Proofs

namespace Go.Proofs.YtgoelphibofcmaaGreat.V
open Go.RowKit Go.Shelf Go.Lib Go.Sort
theorem Ca (w:World) (a b:Int):Calls Tryz.prog 178 #[.int .i64 a,.int .i64 b] w fun e w'=>e=.returned (.int .i64 (r7 a b))/\w=w':=by
 go_enter Tryz.func178,Tryz.ntmps178
 go_wp2_with go_in
 all_goals
  go_ret
  exact⟨GQ (by unfold r7;split<;>(try split)<;>omega),rfl⟩
theorem NB (w:World) (a b:Int) (g:Nat) (ha:w.cell? ⟨g,0,none⟩=some (.int .i64 a)) (hb:w.cell? ⟨g,1,none⟩=some (.int .i64 b)):Calls Tryz.prog 177 #[.slice (some ⟨g,0,none⟩) 2 2] w fun e w'=>e=.returned (.int .i64 (NC a b))/\w=w':=by
 go_enter Tryz.func177,Tryz.ntmps177
 go_wp2_with fail
 go_loop [8] (fun i=>∃k:Nat,k<=2/\i=.int .i64 k/\Hid ((1<=k->a=0)/\(2<=k->b=0))) (fun i=>2-(intOf i).toNat)
 case atStart=>exact⟨0,by omega,rfl,Lib.hid ⟨fun h=>by omega,fun h=>by omega⟩⟩
 case round=>
  obtain⟨k,hk,rfl,hz⟩:=hrel
  have h3:k=0∨k=1∨k=2:=by omega
  rcases h3 with rfl|rfl|rfl
  ·go_wp2_with fail
   ·rename_i h
    go_ret
    exact⟨GQ (by unfold NC;simp_all),rfl⟩
   ·rename_i h
    go_round
    case rel=>exact⟨1,by omega,rfl,Lib.hid ⟨fun _=>by simpa using h,fun h=>by omega⟩⟩
    case measure=>simp[intOf]
  ·have h0:=hz.out.1 (by omega)
   replace h0:=Lib.hid h0
   go_wp2_with fail
   ·go_ret
    exact⟨GQ (by unfold NC;rw[if_pos h0.out]),rfl⟩
   ·rename_i h
    go_round
    case rel=>exact⟨2,by omega,rfl,Lib.hid ⟨fun _=>h0.out,fun _=>by simpa using h⟩⟩
    case measure=>simp[intOf]
  ·have h0:=Lib.hid (hz.out.1 (by omega))
   have h1:=Lib.hid (hz.out.2 (by omega))
   go_wp2_with fail
   go_ret
   exact⟨GQ (by unfold NC;rw[if_pos h0.out,h1.out]),rfl⟩
def Grown (w w':World):Prop:=∃(q:Nat) (os:Array Obj),w'=Go.Sort.grow (w.drewN q) os
theorem Grown.refl (w:World):Grown w w:=⟨0, #[],by rw[grow_empty];rfl⟩
theorem Grown.alloc {w w':World} (h:Grown w w') (o:Obj):Grown w (w'.alloc o):=by
 obtain⟨q,os,rfl⟩:=h
 exact⟨q,os++ #[o],by rw[alloc_eq_grow,grow_grow]⟩
theorem Grown.drew {w w':World} (h:Grown w w'):Grown w w'.drew:=by
 obtain⟨q,os,rfl⟩:=h
 exact⟨q+1,os,by rw[drew_grow];rfl⟩
theorem Grown.dN {w w':World} (h:Grown w w') (n:Nat):Grown w (w'.drewN n):=by
 obtain⟨q,os,rfl⟩:=h
 exact⟨q+n,os,by
  show Go.Sort.grow ((w.drewN q).drewN n) os=Go.Sort.grow (w.drewN (q+n)) os
  simp[World.drewN,Nat.add_assoc]⟩
theorem uR (w:World) (a b:aM):Calls Tryz.prog 130 #[.agg #[.int .i64 a.fc,.int .i64 a.eR],.agg #[.int .i64 b.fc,.int .i64 b.eR]] w fun e w'=>e=.returned (.int .i64 (r8 a b))/\Grown w w':=by
 go_enter Tryz.func130,Tryz.ntmps130
 go_wp2_with fail
 go_region_held3 (fun w'=>w'.cell? ⟨w.heap.size,0,none⟩=some (.int .i64 a.fc)/\w'.cell? ⟨w.heap.size,1,none⟩=some (.int .i64 a.eR)/\
   w'.cell? ⟨w.heap.size+1,0,none⟩=some (.int .i64 b.fc)/\w'.cell? ⟨w.heap.size+1,1,none⟩=some (.int .i64 b.eR))
  (first|go_keep)
  (first|(go_at_call 178;refine(Ca _ _ _).mono ?_;rintro e w' ⟨rfl,rfl⟩)|(go_at_call 177;refine(NB _ (r7 a.eR b.eR) (r7 a.fc b.fc) _ (by simp[go_sem]) (by simp[go_sem])).mono ?_;rintro e w' ⟨rfl,rfl⟩))
 go_wp2_with fail
 go_ret
 refine⟨rfl,?_⟩
 repeat(first|(with_reducible exact Grown.refl _)|(refine Grown.alloc ?_ _)|(refine Grown.drew ?_)|(refine Grown.dN ?_ _))
end Go.Proofs.YtgoelphibofcmaaGreat.V

namespace Go.Proofs.YtgoelphibofcmaaGreat.V
open Go.RowKit Go.Shelf Go.Lib Go.Sort
instance:Inhabited ab:=⟨⟨⟨0,0⟩,0⟩⟩
variable {P:Program} {w:World} {D:Nat->Prop} {ι:Names}
def Hh (a b:ab):Int:=r8 a.aL b.aL
theorem vD (a b:ab):ltOf Hh a b=jY a.aL b.aL:=by rw[ltOf,Hh,vG]
def Jn:Prop:=∀(yv off cap:Nat) (d:Array ab) (w:World),HoldsK fq 3 w yv off d->yv<w.heap.size->d.size<4611686018427387904->
 Calls Tryz.prog 209 #[.slice (some ⟨yv,off,none⟩) d.size cap,.func (.func 210) #[] #[]] w fun e w'=>e=.returned (.tuple #[])/\∃d' n os,PermIn 0 d.size d d'/\SortedIn (ltOf Hh) 0 d.size d'/\w'=sortWorldK fq 3 w yv off n d' os
def Jo:Prop:=∀(p:Option Addr) (cap:Nat) (fv:Value) (w:World),Calls Tryz.prog 209 #[.slice p 0 cap,fv] w fun e w'=>e=.returned (.tuple #[])/\w'=w
theorem JJ (p:ab) (j:Nat) (a:AV) (h:(aa p)[j]? =some a) (P:Program) (w:World) (D:Nat->Prop) (ι:Names):di P w D ι a (fq p)[j]! :=by
 match j,h with
 |0,h=>simp[aa]at h;subst h;exact .eZ _ _ (.int _ _)
 |1,h=>simp[aa]at h;subst h;exact .eZ _ _ (.int _ _)
 |2,h=>simp[aa]at h;subst h;exact .eZ _ _ (.int _ _)
 |j+3,h=>simp[aa]at h
theorem Ix (hC:Jn) (hN:Jo) (ps:List ab) (hlen:ps.length<=1048576) (σ:au) (id:Id) (hg:σ.get id=some ⟨true,3,ps.map aa⟩):
  Call Tryz.prog 209 [.own id 0 ps.length,.fn 210 []] σ fun r σ'=>σ'.next=σ.next/\(∀x,x≠id->σ'.get x=σ.get x)/\∃qs,σ'.get id=some ⟨true,3,qs.map aa⟩/\qs.length=ps.length/\qs.Perm ps/\∀i j:Nat,i<j->j<qs.length->jY (aA qs j).aL (aA qs i).aL=false:=by
 refine ig fun hs D ι w vs S U A=>?_
 obtain⟨u1,us1,rfl,h1,h2⟩:=zS A
 obtain⟨u2,us2,h3,h4,h5⟩:=zS h2
 simp at h3;subst h3
 have:=Lg h5
 simp at this;subst this
 obtain⟨o,cap,B,rfl,hB,J4,ho,rj,hmax,hk⟩:=ji h1
 obtain⟨WR,gf,rfl,_,hz,_,_⟩:=A6 h4
 have hz':WR= #[]:=Array.eq_empty_of_size_eq_zero (by simpa using hz)
 subst hz'
 by_cases h0:ps=[]
 ·subst h0
  refine(hN _ _ _ w).mono ?_
  rintro e w' ⟨rfl,rfl⟩
  exact⟨.gD [],σ.get,σ.next,D,ι,_,rfl,⟨rfl,fun _ _=>rfl,[],hg,rfl,List.Perm.refl _,fun i j _ hj=>by simp at hj⟩,Step.refl _ _ _ _,S,U,Nat.le_refl _,.gD [] #[] (fun _=>Go.undef) rfl (fun j hj=>by simp at hj) (fun j a h=>by simp at h)⟩
 have kK:0<ps.length:=List.length_pos_iff.2 h0
 obtain⟨B',dM,R,kI,mE⟩:=S.row id _ hg
 rw[hB]at dM;injection dM with dM;subst dM
 replace R:=R.row hk
 have fH:B.sz=3:=R.sz
 have DV:o=0:=by rcases ho with h|h<;>omega
 subst DV
 obtain⟨cur,T,hblk,dC,xf⟩:=R.cur
 have Cy:ps.length*3<=B.C:=by simpa using R.fits
 have hH:HoldsK fq 3 w B.b 0 ps.toArray:=by
  intro t ht
  rw[size_flatK]at ht
  have ht2:t<ps.length*3:=by simpa using ht
  have hi:t / 3<ps.length:=by omega
  have Cz:w.frozen? ⟨B.b,0+t,none⟩=false:=by
   simp only[World.frozen?,hblk];simp
  refine⟨?_,Cz⟩
  rw[get_flatK _ _ _ _ ht]
  have hd:(ps.toArray)[t / 3]! =ps[t / 3]:=by simp[getElem!_pos,hi]
  rw[hd]
  have hj:t % 3=0∨t % 3=1∨t % 3=2:=by omega
  have ht3:0+t=(t / 3)*3+t % 3:=by omega
  rw[ht3]
  rcases hj with hj|hj|hj
  ·obtain⟨v,hv,hr⟩:=R.at_ (t / 3) 0 (aa ps[t / 3]) _ (by simp[hi]) rfl
   rw[dD hr]at hv
   rw[hj];exact hv
  ·obtain⟨v,hv,hr⟩:=R.at_ (t / 3) 1 (aa ps[t / 3]) _ (by simp[hi]) rfl
   rw[dD hr]at hv
   rw[hj];exact hv
  ·obtain⟨v,hv,hr⟩:=R.at_ (t / 3) 2 (aa ps[t / 3]) _ (by simp[hi]) rfl
   rw[dD hr]at hv
   rw[hj];exact hv
 have qE:B.b<w.heap.size:=(Array.getElem?_eq_some_iff.1 hblk).1
 have SB:=hC B.b 0 cap ps.toArray w hH qE (by simp;omega)
 rw[show ps.toArray.size=ps.length from by simp]at SB
 refine SB.mono ?_
 rintro e w' ⟨rfl,d',m,os,⟨Gt,_,Gp⟩,hsort,rfl⟩
 have SG:d'.size=ps.length:=by rw[Gt];simp
 have hql:d'.toList.length=ps.length:=by simpa using SG
 have hP:d'.toList.Perm ps:=by
  have e1:d'.extract 0 ps.length=d':=by rw[<-SG];exact Array.extract_size
  have e2:ps.toArray.extract 0 ps.length=ps.toArray:=by
   have:ps.length=ps.toArray.size:=by simp
   rw[this];exact Array.extract_size
  rw[e1,e2]at Gp
  simpa using Gp
 have hF:∀t,t<ps.length*3->(flatK fq 3 d')[t]! =(fq d'[t / 3]!)[t % 3]! :=fun t ht=>get_flatK _ _ _ _ (by rw[SG];exact ht)
 have hFs:(flatK fq 3 d').size=ps.length*3:=by rw[size_flatK,SG]
 have hw:sortWorldK fq 3 w B.b 0 m d' os=Go.Sort.grow (Go.Sort.putRow (fun v:Value=>v) (Go.Sort.ahead w m) B.b 0 (flatK fq 3 d')) os:=rfl
 rw[hw]
 clear hw hH
 generalize flatK fq 3 d'=Fl at hF hFs ⊢
 have xo:=S.put (r':=⟨true,3,d'.toList.map aa⟩) (cur':=Go.Sort.putCells (fun v:Value=>v) 0 Fl cur) hg rfl hB hblk (by simp[Go.Sort.putCells]) rfl rfl (by simpa[SG]using Cy) (fun cs dC=>by
   obtain⟨x,_,rfl⟩:=List.mem_map.1 dC;rfl) (fun cs dC a ha=>by
   obtain⟨x,_,rfl⟩:=List.mem_map.1 dC
   simp[aa]at ha;rcases ha with rfl|rfl|rfl<;>rfl) (fun i j cs a hi hj=>by
   have vV:i<d'.toList.length:=by
    have:=(List.getElem?_eq_some_iff.1 hi).1
    simpa using this
   have V5:j<3:=by
    have:=List.mem_of_getElem? hi
    obtain⟨x,_,rfl⟩:=List.mem_map.1 this
    exact(List.getElem?_eq_some_iff.1 hj).1
   have VR:cs=aa d'[i]! :=by
    rw[List.getElem?_map,List.getElem?_eq_getElem vV]at hi
    simp at hi
    rw[<-hi,getElem!_pos d' i (by simpa using vV)]
   subst VR
   have Gu:i*3+j<ps.length*3:=by omega
   refine⟨(fq d'[i]!)[j]!,?_,JJ _ _ _ hj _ _ _ _⟩
   have nG:i*3+j<cur.size:=by rw[dC];omega
   show(Go.Sort.putCells (fun v:Value=>v) 0 Fl cur)[i*3+j]? = _
   simp only[Go.Sort.putCells,Array.getElem?_mapIdx,Array.getElem?_eq_getElem nG,Option.map_some]
   rw[if_pos ⟨Nat.zero_le _,by rw[hFs];omega⟩,Nat.sub_zero,hF _ Gu,show(i*3+j) / 3=i from by omega,show(i*3+j) % 3=j from by omega])
 obtain⟨S1,tk⟩:=xo
 have S7:(Go.Sort.putRow (fun v:Value=>v) (Go.Sort.ahead w m) B.b 0 Fl).heap.size=w.heap.size:=by simp
 have Om:∀k,k<(w.setRow B.b (Go.Sort.putCells (fun v:Value=>v) 0 Fl cur)).heap.size->(Go.Sort.grow (Go.Sort.putRow (fun v:Value=>v) (Go.Sort.ahead w m) B.b 0 Fl) os).heap[k]? =(w.setRow B.b (Go.Sort.putCells (fun v:Value=>v) 0 Fl cur)).heap[k]? :=fun k hk=>by
  have HE:k<w.heap.size:=by simpa using hk
  rw[heap_grow_old _ _ (by rw[S7];exact HE)]
  simp only[Go.Sort.putRow,Go.Sort.mapBlock,heap_ahead,Array.getElem?_modify]
  by_cases V7:B.b=k
  ·subst V7
   rw[setRow_heap w B.b cur _ T _ hblk,if_pos rfl,hblk];rfl
  ·rw[if_neg V7,setRow_other w B.b k _ (fun h=>V7 h.symm)]
 have k6:(w.setRow B.b (Go.Sort.putCells (fun v:Value=>v) 0 Fl cur)).heap.size<=(Go.Sort.grow (Go.Sort.putRow (fun v:Value=>v) (Go.Sort.ahead w m) B.b 0 Fl) os).heap.size:=by
  rw[size_grow,S7];simp
 have S2:=S1.stay (D':=D) (ι':=ι) Om k6 (fun _ h=>h) (fun b hb=>Nat.lt_of_lt_of_le (S1.dead b hb) k6) (fun _ h=>.inl h) (fun _ _ h=>h)
 have O4:=tk.trans (Step.stay (D':=D) (ι':=ι) S1 Om k6 (by simp[Go.Sort.grow,Go.Sort.putRow,Go.Sort.mapBlock,Go.Sort.ahead]) (by simp[Go.Sort.grow,Go.Sort.putRow,Go.Sort.mapBlock,Go.Sort.ahead]) (by simp[Go.Sort.grow,Go.Sort.putRow,Go.Sort.mapBlock,Go.Sort.ahead]) (fun _ h=>h) (fun _ h=>.inl h) (fun _ _ h=>h))
 refine⟨.gD [],bQ σ.get id ⟨true,3,d'.toList.map aa⟩,σ.next,D,ι,_,rfl,⟨rfl,fun x hx=>by simp[bQ,hx],d'.toList,by simp[bQ],hql,hP,fun i j xi hj=>?_⟩,O4,S2,U,Nat.le_refl _,.gD [] #[] (fun _=>Go.undef) rfl (fun j hj=>by simp at hj) (fun j a h=>by simp at h)⟩
 have h:=hsort i j (Nat.zero_le _) xi (by omega)
 rw[vD]at h
 have e1:d'[j]! =aA d'.toList j:=by rw[fx hj,getElem!_pos d' j (by simpa using hj)];rfl
 have hi:i<d'.toList.length:=by omega
 have e2:d'[i]! =aA d'.toList i:=by rw[fx hi,getElem!_pos d' i (by simpa using hi)];rfl
 rw[<-e1,<-e2];exact h
theorem O1 {w w':World} (h:Grown w w') (os:Array Obj):Grown w (Go.Sort.grow w' os):=by
 obtain⟨q,os0,rfl⟩:=h
 exact⟨q,os0++os,by rw[grow_grow]⟩
theorem My (w:World) (a b:ab):Calls Tryz.prog 210 #[.agg #[.int .i64 a.aL.fc,.int .i64 a.aL.eR,.int .i64 a.aT],.agg #[.int .i64 b.aL.fc,.int .i64 b.aL.eR,.int .i64 b.aT]] w fun e w'=>e=.returned (.int .i64 (Hh a b))/\Grown w w':=by
 go_enter Tryz.func210,Tryz.ntmps210
 go_wp2_with (first|(go_at_call 130;refine(uR _ a.aL b.aL).mono ?_;rintro e w' ⟨rfl,hG⟩))
 obtain⟨q,os,rfl⟩:=hG
 go_ret
 refine⟨rfl,O1 (Grown.dN ?_ q) os⟩
 repeat(first|(with_reducible exact Grown.refl _)|(refine Grown.alloc ?_ _)|(refine Grown.drew ?_)|(refine Grown.dN ?_ _))
theorem WO:SWO (ltOf Hh) where
 irrefl x:=by rw[vD];exact nK
 trans x y z h1 h2:=by rw[vD]at *;exact j8 h1 h2
 ntrans x y z h1 h2:=by rw[vD]at *;rw[qa]at *;omega
theorem QO:Jn:=fun yv off cap d w hH hblk fH=>by
 have eg:∀args w,(callFunc 210 args).run Tryz.prog w=.ok (.enter 210 args) w:=enters_of Tryz.func210 (by kernel_rfl) rfl
 have h:=AnyQ.slices_SortFunc Tryz.Lu 3 Tryz.isAgg137 Tryz.sizeOf137 fq (fun _=>rfl) (fun x v hv=>by simp[fq]at hv;rcases hv with rfl|rfl|rfl<;>rfl) Hh WO 210 #[] yv off cap d w eg (fun m os dk _ x y=>(My _ x y).mono fun _ _ ⟨he,q,os',hw⟩=>⟨he,q,os',hw⟩) hH hblk fH
 exact h
theorem QP:Jo:=fun p cap fv w=>AnyF.slices_SortFunc_none Tryz.Lu p cap fv w
end Go.Proofs.YtgoelphibofcmaaGreat.V

namespace Go.Proofs.YtgoelphibofcmaaGreat.V
open Go.RowKit
attribute [local irreducible] dQ wpOps fX Call
attribute [local go_sem] aQ fM eU fY fW dm upd cG K.av cQ AV.cells AV.cell rowOf rowsOf part ld rowAt bQ cC dE ea gZ bS dh eo fV fj dB ef dd dc dS dU b4 bj cV bW cY cW ec eh ee cU ck de eb bV aU da cK gY bx cP cj bd dv bl dG AV.undef bH bK dW dZ dO dL cN ek eu cJ ej ei cZ db List.getD_cons_zero List.getD_cons_succ List.getD_nil List.all_cons List.all_nil Bool.and_true Bool.true_and Bool.and_self Bool.not_true Bool.not_false Option.map_some Option.map_none Option.bind_some Option.bind_none List.length_cons List.length_nil List.take_succ_cons List.take_zero List.take_nil List.drop_succ_cons List.drop_zero List.drop_nil List.head?_cons List.map_cons List.map_nil List.getElem?_cons_zero List.getElem?_cons_succ List.cons_append List.nil_append List.append_nil List.length_map List.set_cons_zero List.set_cons_succ Nat.reduceMul eq_self Int.toNat_natCast Int.natCast_nonneg and_self true_and and_true decide_true decide_false Bool.false_eq_true Nat.zero_add Nat.add_zero List.contains_cons List.contains_nil Bool.or_false Bool.false_or beq_self_eq_true Nat.reduceBEq ne_eq not_true_eq_false not_false_eq_true Id.mk.injEq false_and and_false Nat.reduceLT Int.reduceLE Int.reduceLT Int.reduceToNat Int.reduceNeg Int.reduceAdd Nat.le_refl List.length_append beq_true beq_false Bool.not_eq_eq_eq_not or_false false_or dX ae aj aJ bq bG cr aY bf aW bp cR bB
theorem Ld {σ:au} {c T O:Id} {s:aw} {ts:List ab} (h:jQ σ.get σ.next c T O s ts) (hS:iH s.aI) (hF:∀q,0<=gV ts q->ev s.aI (gV ts q)=true) (p:aM) (hp:vk p=true) (t:Int) (ht:ev s.aI t=true) (h0:eY ts p<0):
  Call Tryz.prog 134 [.ptr c 0 0,.agg (ah p),.int .i64 t] σ (fun r σ'=>r=.gD []/\jQ σ'.get σ'.next c T O s (ts++[⟨p,t⟩])/\σ.next<=σ'.next/\∀x:Id,x.bE<σ.next->x≠T->x≠O->σ'.get x=σ.get x):=by
 refine eJ eF rfl fun iQ=>?_
 clear iQ
 obtain⟨hx,hy⟩:=ml hp
 have kq:=nJ.1 h0
 have Si:∀q,0<=gV (ts++[⟨p,t⟩]) q->ev s.aI (gV (ts++[⟨p,t⟩]) q)=true:=fun q hq=>by
  rw[Ah q kq]at hq ⊢
  split at hq
  ·rename_i he;rw[if_pos he];exact ht
  ·rename_i he;rw[if_neg he];exact hF q hq
 obtain⟨rows,ho,hw⟩:=h.op
 obtain⟨fi,Cx⟩:=Dj hw p.fc p.eR
 have h1:=h.row
 have h2:=h.tl
 have v1:=dr h.cv
 have v2:=dr h.tv
 have v3:=dr h.ov
 have hm:=rL h0
 have cT:=eq_false h.cT
 have cO:=eq_false h.cO
 have TO:=eq_false h.TO
 have Tc:=eq_false (fun e:T=c=>h.cT e.symm)
 have Oc:=eq_false (fun e:O=c=>h.cO e.symm)
 have OT:=eq_false (fun e:O=T=>h.TO e.symm)
 (try((repeat(revert hN;revert N;apply Pn.out));refine wk (tw @h1 (tw @h2 (tw @ho (tw @v1 (tw @v2 (tw @v3 (tw @hm (tw @Cx (tw @cT (tw @cO (tw @TO (tw @Tc (tw @Oc (tw @OT @ah.eq_1)))))))))))))) ?_;(repeat(refine Pn.mk ?_;intro N hN))))
 have hG:∀x:Id,x.bE<σ.next->x≠T->x≠O->(bQ (bQ (bQ σ.get ⟨134000000,σ.next⟩ ⟨true,2,[[.int .i64 p.fc,.int .i64 p.eR]]⟩) T ⟨true,mP.qe,ts.map aa++[[.int .i64 p.fc,.int .i64 p.eR,.int .i64 t]]⟩) O ⟨true,mP.qe,dL rows fi⟩) x=σ.get x:=fun x Qs WG OF=>by
  have a1:=eq_false WG
  have a2:=eq_false OF
  have a3:=dr Qs
  simp only[go_sem, ↓reduceIte,Nat.reduceEqDiff,Nat.reduceAdd,Nat.reduceSub,Nat.reduceLeDiff,reduceCtorEq,a1,a2,a3]
 have hC:jQ (bQ (bQ (bQ σ.get ⟨134000000,σ.next⟩ ⟨true,2,[[.int .i64 p.fc,.int .i64 p.eR]]⟩) T ⟨true,mP.qe,ts.map aa++[[.int .i64 p.fc,.int .i64 p.eR,.int .i64 t]]⟩) O ⟨true,mP.qe,dL rows fi⟩) (σ.next+1+1+1+1) c T O s (ts++[⟨p,t⟩]):=
  ⟨(hG c h.cv h.cT h.cO).trans h1,by simp only[go_sem, ↓reduceIte,Nat.reduceEqDiff,Nat.reduceAdd,Nat.reduceSub,Nat.reduceLeDiff,reduceCtorEq,TO];rw[List.map_append];rfl,⟨_,sd @Nat.zero_add,K5 hw fi⟩,by have:=h.cv;omega,by have:=h.tv;omega,by have:=h.ov;omega,h.cT,h.cO,h.TO⟩
 refine .inr (aE _ _ _ _ _ (fun r σ1 hq=>?_) (sr (σ:=⟨_,σ.next+1+1+1+1⟩) hC.Es hC.cO hC.TO hC.op hS Si p hx hy))
 obtain⟨g1,x1⟩:=σ1
 obtain⟨rfl,hL⟩:=hq
 (try dsimp only at hL)
 have EI:=hC.look (σ:=⟨_,σ.next+1+1+1+1⟩) hL
 have hn:=hL.1
 have hf:=hL.2.1
 (try dsimp only at hn hf)
 refine hN _ _ ?_
 clear hN N
 (try((repeat(revert hN;revert N;apply Pn.out));refine wk @Nat.zero_add ?_;(repeat(refine Pn.mk ?_;intro N hN))))
 exact eV (.inr rfl) (vs:=[]) rfl ⟨rfl,EI.frame (by(try dsimp only);omega) fun _ _=>rfl,by(try dsimp only);omega,fun x Qs WG OF=>(hf x (by omega) OF).trans (hG x Qs WG OF)⟩
end Go.Proofs.YtgoelphibofcmaaGreat.V

namespace Go.Proofs.YtgoelphibofcmaaGreat.V
open Go.RowKit
def Dr (m:MK) (it nx ok en:Nat) (id:Id) (B:(Ex->Env->au->Prop)->Env->au->Prop) (b b1:Nat) (Q:Ex->Env->au->Prop):Nat->List (List AV)->Env->au->Prop
 |0,_,env,σ=>env it=.ptr id 0 0/\Q .normal (upd (upd env (some nx) (.gD [.bool false])) (some ok) (.bool false)) ⟨σ.get,σ.next+1⟩
 |n+1,left,env,σ=>env it=.ptr id 0 0/\∀i cs kv vv,left[i]? =some cs->part m.ka m.ks cs=some kv->cs[m.ks]? =some vv->
   B (bl b1 (dv (Dr m it nx ok en id B b b1 Q n (left.eraseIdx i)) (bl b Q))) (upd (upd (upd env (some nx) (.gD [.bool true,kv,vv])) (some ok) (.bool true)) (some en) (.gD [kv,vv])) ⟨σ.get,σ.next+1⟩
def It (m:MK) (tm:O) (site it nx ok en:Nat) (B:(Ex->Env->au->Prop)->Env->au->Prop) (b b1:Nat) (Q:Ex->Env->au->Prop) (env:Env) (σ:au):Prop:=
 ∃id r,dm env tm=.map id m/\σ.get id=some r/\r.w=true/\Dr m it nx ok en ⟨site,σ.next⟩ B b b1 Q r.rows.length r.rows (upd env (some it) (.ptr ⟨site,σ.next⟩ 0 0)) ⟨bQ σ.get id {r with w:=false},σ.next+1⟩
variable {P:Program} {w w':World} {D D':Nat->Prop} {ι ι':Names} {hs:Nat} {g:Rows}
theorem j0.EC (hc:∀b x,D b->w'.cell? ⟨b,x,none⟩=w.cell? ⟨b,x,none⟩) {a:AV} {v:Value} (h:j0 P w D a v):j0 P w' D a v:=by
 induction h with
 |int k n=>exact .int k n
 |bool b=>exact .bool b
 |str s=>exact .str s
 |bD=>exact .bD
 |gT=>exact .gT
 |jo=>exact .jo
 |jy=>exact .jy
 |BM a c h=>exact .BM a c h
 |sl rows b o n c sz vs h1 h2 h3 h4 h5 h5' h6 _ ih=>exact .sl rows b o n c sz vs h1 h2 h3 h4 h5 h5' (fun i j hi hj=>(hc b _ h4).trans (h6 i j hi hj)) ih
 |du cs b o vs h1 Px h2 _ ih=>exact .du cs b o vs h1 Px (fun j hj=>(hc b _ h1).trans (h2 j hj)) ih
 |agg cs vs f h1 h2 h3 _ ih=>exact .agg cs vs f h1 h2 h3 ih
 |fn f dp vs g h1 h2 h3 _ ih=>exact .fn f dp vs g h1 h2 h3 ih
theorem di.EC (hc:∀b x,D b->w'.cell? ⟨b,x,none⟩=w.cell? ⟨b,x,none⟩) {a:AV} {v:Value} (h:di P w D ι a v):di P w' D ι a v:=by
 induction h with
 |eZ a v h=>exact .eZ a v (h.EC hc)
 |map id m B h1 h2=>exact .map id m B h1 h2
 |r6 id c B h1 h2=>exact .r6 id c B h1 h2
 |own id off len o cap B h1 h2 h3 h4 h5 h6=>exact .own id off len o cap B h1 h2 h3 h4 h5 h6
 |ptr id i off B h1 h2=>exact .ptr id i off B h1 h2
 |agg cs vs f h1 h2 h3 _ ih=>exact .agg cs vs f h1 h2 h3 ih
 |gD cs vs f h1 h2 _ ih=>exact .gD cs vs f h1 h2 ih
 |fn f dp vs g h1 h2 h3 _ ih=>exact .fn f dp vs g h1 h2 h3 ih
 |uE f dp vs g h1 h2 h3 _ ih=>exact .uE f dp vs g h1 h2 h3 ih
def nA (w:World) (rr:Nat):Prop:=∃m s seen c,w.heap[rr]? =some (.mapIter m s seen c)
theorem nA.cell {rr:Nat} (h:nA w rr) (x:Nat):w.cell? ⟨rr,x,none⟩=none:=by
 obtain⟨m,s,seen,c,h⟩:=h
 simp[World.cell?,h]
theorem ib.KW {B:s9} {r:Row} (R:ib P w D ι B r):¬nA w B.b:=by
 rintro⟨m,s,seen,c,h⟩
 cases hk:B.k with
 |none=>obtain⟨c',T,h3,_⟩:=(R.row hk).yv;rw[h]at h3;cases h3
 |some k=>
  cases k with
  |map m=>obtain⟨_,es,c',h3,_⟩:=R.map m hk;rw[h]at h3;cases h3
  |chan c=>obtain⟨_,buf,s',q,h3,_⟩:=R.chan c hk;rw[h]at h3;cases h3
theorem zw {rr:Nat} (h:nA w rr) (h':nA w' rr) (ho:∀b,b≠rr->w'.heap[b]? =w.heap[b]?):(∀{a v},di P w D ι a v->di P w' D ι a v):=fun hr=>hr.EC fun b x _=>by
 by_cases hb:b=rr
 ·subst hb;rw[h.cell,h'.cell]
 ·exact World.cell?_of_block (ho b hb)
theorem gJ.iter {rr:Nat} (S:gJ P hs D ι g w) (h:nA w rr) (h':nA w' rr) (ho:∀b,b≠rr->w'.heap[b]? =w.heap[b]?) (hz:w'.heap.size=w.heap.size):gJ P hs D ι g w':=
 ⟨by rw[hz];exact S.lo,fun b hb=>by rw[hz];exact S.dead b hb,fun id r hg=>by
  obtain⟨B,hB,R,k1,k2⟩:=S.row id r hg
  exact⟨B,hB,R.frame (ho _ fun e=>R.KW (e▸h)) fun a v hr=>zw h h' ho hr,k1,k2⟩,S.inj⟩
theorem nu {ops:Array Oper} {Q:Exit->Act->World->Prop} {a:Act} {o:Oper} {l:List Oper} {v:Value} (hg:o.guard=none) (gy:(execOp a.eval o).run P w=.ok (.value v) w') (h:wpList P ops Q l (a.put o.dst v) w'):wpList P ops Q (o::l) a w:=by
 unfold wpList
 rw[if_pos (by simp[Region.wanted,hg])]
 exact .inl (by unfold Oper.wp;rw[gy];exact h)
theorem Lj {x y:AV} {u v:Value} (h1:di P w D ι x u) (h2:di P w D ι y v):di P w D ι (.gD [x,y]) (.tuple #[u,v]):=
 .gD _ _ (fun j=>if j=0 then u else v) rfl (fun j hj=>by match j,hj with|0,_=>rfl|1,_=>rfl|j+2,hj=>simp at hj;omega) (fun j a ha=>by match j,ha with|0,ha=>simp at ha;subst ha;exact h1|1,ha=>simp at ha;subst ha;exact h2|j+2,ha=>simp at ha)
theorem Lk {x y z:AV} {u v t:Value} (h1:di P w D ι x u) (h2:di P w D ι y v) (h3:di P w D ι z t):di P w D ι (.gD [x,y,z]) (.tuple #[u,v,t]):=
 .gD _ _ (fun j=>if j=0 then u else if j=1 then v else t) rfl (fun j hj=>by match j,hj with|0,_=>rfl|1,_=>rfl|2,_=>rfl|j+3,hj=>simp at hj;omega) (fun j a ha=>by match j,ha with|0,ha=>simp at ha;subst ha;exact h1|1,ha=>simp at ha;subst ha;exact h2|2,ha=>simp at ha;subst ha;exact h3|j+3,ha=>simp at ha)
theorem Li {x:AV} {u:Value} (h1:di P w D ι x u):di P w D ι (.gD [x]) (.tuple #[u]):=
 .gD _ _ (fun _=>u) rfl (fun j hj=>by match j,hj with|0,_=>rfl|j+1,hj=>simp at hj) (fun j a ha=>by match j,ha with|0,ha=>simp at ha;subst ha;exact h1|j+1,ha=>simp at ha)
structure N7 (P:Program) (w:World) (D:Nat->Prop) (ι:Names) (m:MK) (L:List MapEntry) (left:List (List AV)):Prop where
 len:left.length=L.length
 at_:∀(i:Nat) (cs:List AV),left[i]? =some cs->∃(e:MapEntry) (kv vv:AV),L[i]? =some e/\part m.ka m.ks cs=some kv/\cs[m.ks]? =some vv/\di P w D ι kv e.key/\di P w D ι vv e.val
theorem N7.rep {m:MK} {L:List MapEntry} {left:List (List AV)} (h:N7 P w D ι m L left) (hr:∀{a v},di P w D ι a v->di P w' D' ι' a v):N7 P w' D' ι' m L left:=⟨h.len,fun i cs hi=>by
 obtain⟨e,kv,vv,h1,h2,h3,h4,h5⟩:=h.at_ i cs hi
 exact⟨e,kv,vv,h1,h2,h3,hr h4,hr h5⟩⟩
theorem nF {α β:Type} {l:List α} {k:List β} {i j:Nat} {x:α} (hl:l.length=k.length) (h:(l.eraseIdx i)[j]? =some x):∃q:Nat,l[q]? =some x/\(k.eraseIdx i)[j]? =k[q]? :=by
 rw[List.getElem?_eraseIdx]at h
 split at h
 ·rename_i hj;exact⟨j,h,by rw[List.getElem?_eraseIdx,if_pos hj]⟩
 ·rename_i hj;exact⟨j+1,h,by rw[List.getElem?_eraseIdx,if_neg hj]⟩
theorem N7.erase {m:MK} {L:List MapEntry} {left:List (List AV)} (h:N7 P w D ι m L left) {i:Nat} (hi:i<L.length):N7 P w D ι m (L.eraseIdx i) (left.eraseIdx i):=⟨by
 rw[List.length_eraseIdx,List.length_eraseIdx,h.len],fun j cs hj=>by
 obtain⟨q,hq,he⟩:=nF h.len hj
 obtain⟨e,kv,vv,h1,h2⟩:=h.at_ q cs hq
 exact⟨e,kv,vv,he.trans h1,h2⟩⟩
theorem oj:∀{l:List MapEntry} {i:Nat} {e:MapEntry},(l.map (·.born)).Nodup->l[i]? =some e->l.filter (fun x=>x.born !=e.born)=l.eraseIdx i
 |x::l,0,e,hn,h=>by
  simp at h;subst h
  obtain⟨h1,h2⟩:=List.nodup_cons.1 (show(x.born::l.map (·.born)).Nodup from hn)
  rw[List.filter_cons,if_neg (by simp),List.eraseIdx_cons_zero]
  refine List.filter_eq_self.2 fun y hy=>?_
  have:y.born≠x.born:=fun hc=>h1 (by rw[<-hc];exact List.mem_map_of_mem hy)
  simpa using this
 |x::l,i+1,e,hn,h=>by
  obtain⟨h1,h2⟩:=List.nodup_cons.1 (show(x.born::l.map (·.born)).Nodup from hn)
  simp only[List.getElem?_cons_succ]at h
  have hx:x.born≠e.born:=fun hc=>h1 (by rw[hc];exact List.mem_map_of_mem (List.mem_of_getElem? h))
  rw[List.filter_cons,if_pos (by simpa using hx),List.eraseIdx_cons_succ,oj h2 h]
theorem Fh {es:Array MapEntry} {clock:Nat} {seen:Array Nat} {i:Nat} {e:MapEntry} (hs:Mo es clock) (h:(leftOf es seen).toList[i]? =some e):(leftOf es (seen.push e.born)).toList=(leftOf es seen).toList.eraseIdx i:=by
 have hn:((leftOf es seen).toList.map (·.born)).Nodup:=by
  unfold leftOf
  rw[Array.toList_filter]
  exact((List.filter_sublist (p:=fun e=> !seen.contains e.born) (l:=es.toList)).map MapEntry.born).nodup hs.2
 rw[<-oj hn h]
 unfold leftOf
 rw[Array.toList_filter,Array.toList_filter,List.filter_filter]
 refine List.filter_congr fun x _=>?_
 rw[contains_push]
 cases seen.contains x.born<;>cases hb:(x.born==e.born)<;>simp_all
theorem eval_put {a:Act} {d:Nat} {v:Value} (h:d<a.tmps.size):(a.put (some d) v).eval (.tmp d)=v:=by
 simp[Act.put,Act.eval,h]
def Lp (ix ie b b1 ok:Nat) (Fq Ie Fp:Oper) (sJ:List Oper) (oi:Code):Code:=
 .seq (.region ix #[Fq,Ie] false) (.seq (.cond (.tmp ok) .skip (.exit b)) (.block b1 (.seq (.region ie (Fp::sJ).toArray false) oi)))
structure Jl (P:Program) (md:List (Nat×Nat)) (nt fid s0 it nx ok en:Nat) (Fq Ie Fp:Oper) (sJ:List Oper) (oi:Code) (vE:List br) (s7:VC):Prop where
 h1:Fq.op=.next (.tmp it) false
 h2:Fq.dst=some nx
 h3:Fq.guard=none
 h4:Ie.op=.extract (.tmp nx) 0
 h5:Ie.dst=some ok
 h6:Ie.guard=none
 h7:Fp.op=.entry (.tmp it)
 h8:Fp.dst=some en
 h9:Fp.guard=none
 OK:nx<nt
 UQ:ok<nt
 lt3:en<nt
 ne1:it≠nx
 ne2:it≠ok
 hE:allM (lh P (Fp::sJ).toArray nt s0 false false #[] []) sJ 1=some vE
 hR:jC P md nt fid oi=some s7
theorem FB (hm:P.follows .mixedOrders=true) {md:List (Nat×Nat)} {nt fid s0 ix ie b b1 it nx ok en:Nat} {m:MK} {id:Id} {Fq Ie Fp:Oper} {sJ:List Oper} {oi:Code} {vE:List br} {s7:VC}
  (O:Jl P md nt fid s0 it nx ok en Fq Ie Fp sJ oi vE s7) {rr bm:Nat} {es:Array MapEntry} {clock:Nat} (HI:Mo es clock) {ds:List Deferred} {n0:Nat} {D0:Nat->Prop} {ι0:Names} {w0:World} {Q:Ex->Env->au->Prop} {Q':Exit->Act->World->Prop}
  (hQ:uh P hs nt ds Q n0 D0 ι0 w0 Q') (hD0:¬D0 rr) (hrr:hs<=rr) (gM:bm≠rr):
  ∀(n:Nat) (left:List (List AV)) (env:Env) (σ:au) (a:Act) (w:World) (D:Nat->Prop) (ι:Names) (seen:Array Nat),
   Dr m it nx ok en id (dQ (Sound P) (.seq (.eS false vE) s7)) b b1 Q n left env σ->St P hs nt D ι env σ a w->a.defers=ds->n0<=σ.next->Step hs D0 ι0 w0 D ι w->
   (∃sz C,ι id=some ⟨rr,sz,C,none⟩)->D rr->D bm->w.heap[rr]? =some (.mapIter (some bm) clock seen clock)->w.heap[bm]? =some (.map es clock)->left.length=n->N7 P w D ι m (leftOf es seen).toList left->
   qb P (Lp ix ie b b1 ok Fq Ie Fp sJ oi) (Exit.inBlock b Q') (n+1) a w:=by
 intro n
 induction n with
 |zero=>
  intro left env σ a w D ι seen hv dJ hd IY T hid Vs Vp hr hb hlen hL
  obtain⟨MY,hq⟩:=hv
  have ha:a.tmps.getD it undef=.pointer (some ⟨rr,0,none⟩):=by
   have:=dJ.env it
   rw[MY]at this
   obtain⟨B,e,hB,_⟩:=iS this
   obtain⟨sz,C,hid⟩:=hid
   rw[hid]at hB;injection hB with hB;subst hB
   simpa using e
  have Ul:a.eval (.tmp it)=.pointer (some ⟨rr,0,none⟩):=ha
  rcases run_next_at (P:=P) w Fq.type rr bm clock clock seen es clock hr hb HI.1 (Nat.le_refl _)with⟨_,gy⟩|⟨e,he,_⟩
  rotate_left
  ·have h0:(leftOf es seen).toList=[]:=List.eq_nil_of_length_eq_zero (by rw[<-hL.len,hlen])
   rw[h0]at he;simp at he
  have Gt:nx<a.tmps.size:=by rw[dJ.size];exact O.OK
  have E2:=iO (iO dJ.env (Li (.eZ _ _ (.bool false))) (dst:=some nx) (fun d h=>by cases h;exact O.OK) dJ.size) (.eZ _ _ (.bool false)) (dst:=some ok) (fun d h=>by cases h;exact O.UQ) (by rw[ft];exact dJ.size)
  show Bz P (.seq _ _) _ a w
  refine l8 (kM (wp_region_list ?_))
  refine nu (v:=.tuple #[.bool false]) (w':=w) O.h3 (by simp[execOp,O.h1,Ul,gy,Result.andThen]) ?_
  refine nu (v:=.bool false) (w':=w) O.h6 (by rw[O.h2];simp[execOp,O.h4,eval_put Gt,Instr.extract]) ?_
  rw[O.h2,O.h5]
  refine l8 (xE (t:=false) (eval_put (by rw[ft,dJ.size];exact O.UQ)) (kM (wp_exit ?_)))
  show Exit.inBlock b Q' (.exit b) _ _
  simp only[Exit.inBlock,if_true]
  exact hQ .normal _ ⟨σ.get,σ.next+1⟩ _ w D ι hq T ⟨dJ.tX,dJ.used.next,E2,by rw[ft,ft];exact dJ.size⟩ (by rw[put_defers,put_defers];exact hd) (Nat.le_succ_of_le IY)
 |succ n ih=>
  intro left env σ a w D ι seen hv dJ hd IY T hid Vs Vp hr hb hlen hL
  obtain⟨MY,hq⟩:=hv
  have ha:a.tmps.getD it undef=.pointer (some ⟨rr,0,none⟩):=by
   have:=dJ.env it
   rw[MY]at this
   obtain⟨B,e,hB,_⟩:=iS this
   obtain⟨sz,C,hid⟩:=hid
   rw[hid]at hB;injection hB with hB;subst hB
   simpa using e
  have Ul:a.eval (.tmp it)=.pointer (some ⟨rr,0,none⟩):=ha
  rcases run_next_at (P:=P) w Fq.type rr bm clock clock seen es clock hr hb HI.1 (Nat.le_refl _)with⟨h0,_⟩|⟨e,he,w1,oq,gy⟩
  ·have:=hL.len
   rw[hlen,Array.length_toList]at this;omega
  obtain⟨i,hi,IX⟩:=List.getElem_of_mem he
  have SP:(leftOf es seen).toList[i]? =some e:=by rw[List.getElem?_eq_getElem hi,IX]
  have kF:i<left.length:=by rw[hL.len];exact hi
  obtain⟨e',kv,vv,q1,q2,q3,q4,q5⟩:=hL.at_ i left[i] (List.getElem?_eq_getElem kF)
  rw[SP]at q1;injection q1 with q1;subst q1
  replace hq:=hq i left[i] kv vv (List.getElem?_eq_getElem kF) q2 q3
  have Qf:w1.heap[rr]? =some (.mapIter (some bm) clock seen clock):=by rcases oq with rfl|rfl<;>exact hr
  have eL:=MapKept.heap_set (o':=.mapIter (some bm) clock (seen.push e.born) clock) Qf
  obtain⟨w2,rD⟩:∃w2,ChangeMaps.setBlock w1 rr (.mapIter (some bm) clock (seen.push e.born) clock)=w2:=⟨_,rfl⟩
  have ho:∀k,k≠rr->w2.heap[k]? =w.heap[k]? :=fun k hk=>by
   rw[<-rD]
   refine(eL.2 k hk).trans ?_
   rcases oq with rfl|rfl<;>rfl
  have hz:w2.heap.size=w.heap.size:=by
   rw[<-rD]
   rcases oq with rfl|rfl<;>simp[ChangeMaps.setBlock]
  have EY:w2.heap[rr]? =some (.mapIter (some bm) clock (seen.push e.born) clock):=by rw[<-rD];exact eL.1
  have yK:w2.os=w.os/\w2.tape=w.tape/\w2.output=w.output:=by
   rw[<-rD]
   rcases oq with rfl|rfl<;>exact⟨rfl,rfl,rfl⟩
  rw[rD]at gy
  clear rD eL
  have I1:nA w rr:=⟨_,_,_,_,hr⟩
  have I2:nA w2 rr:=⟨_,_,_,_,EY⟩
  have rt:∀{a v},di P w D ι a v->di P w2 D ι a v:=zw I1 I2 ho
  have S2:=dJ.tX.iter I1 I2 ho hz
  have T2:Step hs D0 ι0 w0 D ι w2:=⟨⟨yK.1.trans T.below.os,yK.2.1.trans T.below.tape,yK.2.2.trans T.below.output,by rw[hz];exact T.below.size,fun k hk=>(ho k (by omega)).trans (T.below.block k hk)⟩,fun k hk=>(ho k (fun hc=>hD0 (hc▸hk))).trans (T.rE k hk),T.dead,T.names,T.new⟩
  have BE:w2.heap[bm]? =some (.map es clock):=(ho bm gM).trans hb
  have Gt:nx<a.tmps.size:=by rw[dJ.size];exact O.OK
  have E1:cI P w2 D ι env a:=fun t=>rt (dJ.env t)
  have E2:=iO (iO E1 (Lk (.eZ _ _ (.bool true)) (rt q4) (rt q5)) (dst:=some nx) (fun d h=>by cases h;exact O.OK) dJ.size) (.eZ _ _ (.bool true)) (dst:=some ok) (fun d h=>by cases h;exact O.UQ) (by rw[ft];exact dJ.size)
  have E3:=iO E2 (Lj (rt q4) (rt q5)) (dst:=some en) (fun d h=>by cases h;exact O.lt3) (by rw[ft,ft];exact dJ.size)
  have IV:=run_entry_at (P:=P) w2 rr bm clock seen es clock e EY BE (mem_left he).1 HI.2
  show Bz P (.seq _ _) _ a w
  refine l8 (kM (wp_region_list ?_))
  refine nu (v:=.tuple #[.bool true,e.key,e.val]) (w':=w2) O.h3 (by simp[execOp,O.h1,Ul,gy,Result.andThen]) ?_
  refine nu (v:=.bool true) (w':=w2) O.h6 (by rw[O.h2];simp[execOp,O.h4,eval_put Gt,Instr.extract]) ?_
  rw[O.h2,O.h5]
  refine l8 (xE (t:=true) (eval_put (by rw[ft,dJ.size];exact O.UQ)) (kM (wp_skip ?_)))
  refine tT (l8 (kM (wp_region_list ?_)))
  show wpList P _ _ (Fp::sJ) _ _
  have ha3:(((a.put (some nx) (.tuple #[.bool true,e.key,e.val])).put (some ok) (.bool true)).eval (.tmp it))=.pointer (some ⟨rr,0,none⟩):=by
   have n1:=O.ne1
   have n2:=O.ne2
   rw[<-Ul]
   simp[Act.put,Act.eval,Array.getD_eq_getD_getElem?,Array.getElem?_setIfInBounds,Ne.symm n1,Ne.symm n2]
  refine nu (v:=.tuple #[e.key,e.val]) (w':=w2) O.h9 (by simp[execOp,O.h7,ha3,IV,Result.andThen]) ?_
  rw[O.h8]
  refine zJ sJ vE 1 _ ⟨σ.get,σ.next+1⟩ _ w2 D ι (fun _=>False) O.hE hq S2 dJ.used.next (fun _ h=>h.elim) E3 (by rw[ft,ft,ft];exact dJ.size) fun Vh σ3 a3 w3 D3 ι3 hk T3 St3 SE Wb=>?_
  refine qQ hm oi s7 O.hR _ Vh σ3 a3 w3 D3 ι3 _ hk St3 fun ex JL σ4 a4 w4 D4 ι4 Ko T4 U9 ux Wc=>?_
  have VT:a4.defers=ds:=by rw[ux,SE,put_defers,put_defers,put_defers];exact hd
  have Wl:n0<=σ4.next:=Nat.le_trans IY (Nat.le_trans (Nat.le_succ _) (Nat.le_trans Wb Wc))
  have O5:=T3.trans T4
  have TT:=T2.trans O5
  have uG:Dr m it nx ok en id (dQ (Sound P) (.seq (.eS false vE) s7)) b b1 Q n (left.eraseIdx i) JL σ4->qb P (Lp ix ie b b1 ok Fq Ie Fp sJ oi) (Exit.inBlock b Q') (n+1) a4 w4:=fun hq5=>by
   refine ih (left.eraseIdx i) JL σ4 a4 w4 D4 ι4 (seen.push e.born) hq5 U9 VT Wl TT ?_ (O5.dead _ Vs) (O5.dead _ Vp) ((O5.rE _ Vs).trans EY) ((O5.rE _ Vp).trans BE) ?_ ?_
   ·obtain⟨sz,C,hid⟩:=hid;exact⟨sz,C,O5.names _ _ hid⟩
   ·rw[List.length_eraseIdx,if_pos kF,hlen];rfl
   ·rw[Fh HI SP]
    exact(hL.erase hi).rep fun hr=>O5.rep (rt hr)
  have out:∀ex,ex≠.normal->Q ex JL σ4->Q' (Ub ex) a4 w4:=fun ex _ h=>hQ ex JL σ4 a4 w4 D4 ι4 h TT U9 VT Wl
  cases ex with
  |normal=>exact uG Ko
  |ret=>exact out .ret (by simp) Ko
  |exit kf=>
   simp only[bl]at Ko
   simp only[Ub,Exit.inBlock]
   by_cases h1:kf=b1
   ·rw[if_pos h1]at Ko ⊢
    exact uG Ko
   ·rw[if_neg h1]at Ko ⊢
    simp only[dv,bl]at Ko
    show Exit.inBlock b Q' (.exit kf) a4 w4
    simp only[Exit.inBlock]
    by_cases h2:kf=b
    ·rw[if_pos h2]at Ko ⊢
     exact hQ .normal JL σ4 a4 w4 D4 ι4 Ko TT U9 VT Wl
    ·rw[if_neg h2]at Ko ⊢
     exact out (.exit kf) (by simp) Ko
def CS (P:Program) (nt:Nat) (c:Code) (W:(Ex->Env->au->Prop)->Env->au->Prop):Prop:=
 ∀(hs:Nat) (Q:Ex->Env->au->Prop) (env:Env) (σ:au) (a:Act) (w:World) (D:Nat->Prop) (ι:Names) (Q':Exit->Act->World->Prop),W Q env σ->St P hs nt D ι env σ a w->uh P hs nt a.defers Q σ.next D ι w Q'->Bz P c Q' a w
theorem CS.code (hm:P.follows .mixedOrders=true) {md:List (Nat×Nat)} {nt fid:Nat} {c:Code} {vc:VC} (h:jC P md nt fid c=some vc):CS P nt c (dQ (Sound P) vc):=
 fun _ Q env σ a w D ι Q' hv dJ hQ=>qQ hm c vc h Q env σ a w D ι Q' hv dJ hQ
theorem CS.seq {nt:Nat} {x y:Code} {V W:(Ex->Env->au->Prop)->Env->au->Prop} (h:CS P nt x V) (k:CS P nt y W):CS P nt (.seq x y) (fun Q=>V (dv (W Q) Q)):=fun hs Q env σ a w D ι Q' hv dJ hQ=>by
 refine l8 (h hs _ env σ a w D ι _ hv dJ fun ex ju σ1 a1 w1 D1 ι1 hq T kr hd hle=>?_)
 cases ex with
 |normal=>exact k hs Q ju σ1 a1 w1 D1 ι1 Q' hq kr (by rw[hd];exact hQ.later T hle)
 |exit id=>exact hQ (.exit id) ju σ1 a1 w1 D1 ι1 hq T kr hd hle
 |ret=>exact hQ .ret ju σ1 a1 w1 D1 ι1 hq T kr hd hle
theorem CS.rng (hm:P.follows .mixedOrders=true) {md:List (Nat×Nat)} {nt fid s0 sA site ia ix ie b b1 it nx ok en:Nat} {m:MK} {Fq Ie Fp Ft:Oper} {Lc sJ:List Oper} {oi:Code} {vA vE:List br} {s7:VC} {t k e:TypeId} {tm:Operand} {tm':O}
  (O:Jl P md nt fid s0 it nx ok en Fq Ie Fp sJ oi vE s7) (h1:Ft.op=.range t tm) (h2:Ft.dst=some it) (h3:Ft.guard=none) (ew:it<nt) (ht:P.underlying t=some (.map k e)) (S8:cO P tm=some tm') (hA:allM (lh P (Lc++[Ft]).toArray nt sA false false #[] []) Lc 0=some vA):
  CS P nt (.seq (.region ia (Lc++[Ft]).toArray false) (.block b (.loop (Lp ix ie b b1 ok Fq Ie Fp sJ oi))))
   (fun Q=>wpOps (Sound P) false vA (It m tm' site it nx ok en (dQ (Sound P) (.seq (.eS false vE) s7)) b b1 Q)):=fun hs Q env σ a w D ι Q' hv dJ hQ=>by
 refine l8 (kM (wp_region_list ?_))
 show wpList P _ _ (Lc++[Ft]) a w
 refine xG [Ft] Lc vA 0 env σ a w D ι (fun _=>False) hA hv dJ.tX dJ.used (fun _ h=>h.elim) dJ.env dJ.size fun ju σ1 a1 w1 D1 ι1 hk T tk vQ HF=>?_
 obtain⟨id,r,hid,hg,hw,hr⟩:=hk
 have gH:=dw tk.env S8
 rw[hid]at gH
 obtain⟨B,hv,hB,hk⟩:=GP gH
 obtain⟨B',dM,R,kI,mE⟩:=tk.tX.row id r hg
 rw[hB]at dM;injection dM with dM;subst dM
 obtain⟨hrsz,es,clock,hb,fH,⟨hlen,HI⟩,hM⟩:=R.map m hk
 have Ud:=R.lt
 have gy:=run_range_map (P:=P) w1 t k e B.b es clock ht hb
 refine nu (v:=.pointer (some ⟨w1.heap.size,0,none⟩)) (w':=w1.alloc (.mapIter (some B.b) clock #[] clock)) h3 (by simp[execOp,h1,hv,gy,Result.andThen]) ?_
 rw[h2]
 obtain⟨w2,rD⟩:∃w2,w1.alloc (.mapIter (some B.b) clock #[] clock)=w2:=⟨_,rfl⟩
 have hblk:∀b,b<w1.heap.size->w2.heap[b]? =w1.heap[b]? :=fun b hb=>by rw[<-rD];exact Below.heap_alloc _ _ _ hb
 have kJ:w2.heap[w1.heap.size]? =some (.mapIter (some B.b) clock #[] clock):=by rw[<-rD];exact heap_alloc_new _ _
 have hz:w2.heap.size=w1.heap.size+1:=by rw[<-rD];simp
 have yK:w2.os=w1.os/\w2.tape=w1.tape/\w2.output=w1.output:=by rw[<-rD];exact⟨rfl,rfl,rfl⟩
 rw[rD]
 clear rD gy
 let D2:Nat->Prop:=fun x=>D1 x∨x=B.b∨x=w1.heap.size
 let ι2:Names:=kY ι1 ⟨site,σ1.next⟩ ⟨w1.heap.size,1,0,none⟩
 have jH:ι1 ⟨site,σ1.next⟩=none:=fresh tk.used (fun h=>h)
 have UJ:∀{a v},di P w1 D1 ι1 a v->di P w2 D2 ι2 a v:=fun h=>h.frame (fun b hd=>hblk b (tk.tX.dead b hd)) (fun _ h=>.inl h) (fB jH)
 have zI:∀{j q C},σ1.get j=some q->ι2 j=some C->ι1 j=some C:=fun {j q C} hj hC=>by
  obtain⟨C',uY,_⟩:=tk.tX.row j q hj
  have:=fB (B:=⟨w1.heap.size,1,0,none⟩) jH j C' uY
  have e:=this.symm.trans hC
  injection e with e;rw[<-e];exact uY
 have lt:∀{j q C},σ1.get j=some q->ι1 j=some C->C.b<w1.heap.size:=fun {j q C} hj hC=>by
  obtain⟨C',uY,R',_⟩:=tk.tX.row j q hj
  rw[hC]at uY;injection uY with uY;subst uY
  exact R'.lt
 have Pv:∀{j q},bQ σ1.get id {r with w:=false} j=some q->∃q0,σ1.get j=some q0/\(q.w=true->q=q0/\j≠id)/\(j=id->q={r with w:=false}/\q0=r)/\(j≠id->q=q0):=fun {j q} h=>by
  unfold bQ at h
  split at h
  ·rename_i e
   injection h with h;subst h
   exact⟨r,e▸hg,fun h=>(by cases h),fun _=>⟨rfl,rfl⟩,fun hc=>absurd e hc⟩
  ·rename_i e
   exact⟨q,h,fun _=>⟨rfl,e⟩,fun hc=>absurd hc e,fun _=>rfl⟩
 have S2:gJ P hs D2 ι2 (bQ σ1.get id {r with w:=false}) w2:=by
  refine⟨by rw[hz];exact Nat.le_succ_of_le tk.tX.lo,fun b hb=>?_,fun j q h=>?_,fun j j' q q' C C' h h' Kp hC uY he=>?_⟩
  ·rw[hz]
   rcases hb with hb|rfl|rfl
   ·exact Nat.lt_succ_of_lt (tk.tX.dead b hb)
   ·exact Nat.lt_succ_of_lt Ud
   ·exact Nat.lt_succ_self _
  ·obtain⟨q0,Ox,Kp,AB,gM⟩:=Pv h
   obtain⟨C,hC,RC,k1,k2⟩:=tk.tX.row j q0 Ox
   have hCl:=lt Ox hC
   refine⟨C,fB jH j C hC,?_,fun RJ=>k1 ((Kp RJ).1▸RJ),fun RJ hD=>?_⟩
   ·have RF:ib P w2 D2 ι2 C q0:=RC.frame (hblk _ hCl) fun a v h=>UJ h
    by_cases hj:j=id
    ·obtain⟨e1,e2⟩:=AB hj
     rw[e1,<-e2];exact RF.flag false
    ·rw[gM hj];exact RF
   ·obtain⟨e1,e2⟩:=Kp RJ
    rcases hD with hD|hD|hD
    ·exact k2 (e1▸RJ) hD
    ·exact e2 (tk.tX.inj j id q0 r C B Ox hg (e1▸RJ) hC hB hD)
    ·omega
  ·obtain⟨q0,Ox,Ww,_⟩:=Pv h
   obtain⟨q0',S3,_⟩:=Pv h'
   exact tk.tX.inj j j' q0 q0' C C' Ox S3 ((Ww Kp).1▸Kp) (zI Ox hC) (zI S3 uY) he
 have T2:Step hs D1 ι1 w1 D2 ι2 w2:=⟨⟨yK.1,yK.2.1,yK.2.2,by omega,fun k hk=>hblk k (Nat.lt_of_lt_of_le hk tk.tX.lo)⟩,fun b hb=>hblk b (tk.tX.dead b hb),fun _ h=>.inl h,fB jH,fun b hb=>by
  rcases hb with hb|rfl|rfl
  ·exact .inl hb
  ·exact .inr (kI hw)
  ·exact .inr tk.tX.lo⟩
 have E2:cI P w2 D2 ι2 (upd ju (some it) (.ptr ⟨site,σ1.next⟩ 0 0)) (a1.put (some it) (.pointer (some ⟨w1.heap.size,0,none⟩))):=
  iO (fun t=>UJ (tk.env t)) (by have:=di.ptr (P:=P) (w:=w2) (D:=D2) (ι:=ι2) ⟨site,σ1.next⟩ 0 0 ⟨w1.heap.size,1,0,none⟩ (eD _ _ _) rfl;simpa using this) (fun d h=>by cases h;exact ew) tk.size
 have L2:N7 P w2 D2 ι2 m (leftOf es #[]).toList r.rows:=by
  have he:(leftOf es #[]).toList=es.toList:=by simp[leftOf]
  rw[he]
  refine⟨by simpa using fH.symm,fun i cs hi=>?_⟩
  obtain⟨Sa,kv,vv,q1,q2,q3,q4,q5⟩:=hM i cs hi
  exact⟨Sa,kv,vv,by simpa using q1,q2,q3,UJ q4,UJ q5⟩
 show Bz P (.block b (.loop (Lp ix ie b b1 ok Fq Ie Fp sJ oi))) Q' _ w2
 exact tT (De (r.rows.length+1) (FB hm O HI (ds:=a.defers) (n0:=σ.next) (D0:=D) (ι0:=ι) (w0:=w) hQ
  (fun hc=>by have:=dJ.tX.dead _ hc;have:=T.below.size;omega) tk.tX.lo (by omega) r.rows.length r.rows _ ⟨bQ σ1.get id {r with w:=false},σ1.next+1⟩ _ w2 D2 ι2 #[] hr
  ⟨S2,tk.used.upd.next,E2,by rw[ft];exact tk.size⟩ (by rw[put_defers];exact vQ) (Nat.le_succ_of_le HF) (T.trans T2) ⟨1,0,eD _ _ _⟩ (.inr (.inr rfl)) (.inr (.inl rfl)) kJ ((hblk _ Ud).trans hb) rfl L2))
theorem CS.fn {f:Nat} {fn:Func} {c:Code} {args:List AV} {σ:au} {K:AV->au->Prop} {vr:List ox} {W:(Ex->Env->au->Prop)->Env->au->Prop} (Rt:P.funcs[f]? =some fn) (hc:fn.body=some c) (hr:fn.results.toList.mapM (Ep P)=some vr) (ha:fn.params.size+fn.nfree=args.length) (hle:fn.params.size+fn.nfree<=fn.ntmps)
  (h:CS P fn.ntmps c W) (hv:W (kV vr K) (cG args) σ):Call P f args σ K:=
 ig (wM Rt hc hr ha hle fun hs w D ι a Q' dJ hQ=>h hs (kV vr K) (cG args) σ a w D ι Q' hv dJ hQ)
theorem s8 (hm:P.follows .mixedOrders=true) {c:VC} {Q Q':Ex->Env->au->Prop} {env:Env} {σ:au} (hQ:∀x e s,Q x e s->Q' x e s) (h:dQ (Call P) c Q env σ):dQ (Sound P) c Q' env σ:=
 jN (fun _ _ _ _ h=>gG hm h) lg c Q Q' env σ hQ h
theorem zU {m:MK} {it nx ok en:Nat} {id:Id} {B B':(Ex->Env->au->Prop)->Env->au->Prop} {b b1:Nat} {Q Q':Ex->Env->au->Prop} (hB:∀R R' e s,(∀x e s,R x e s->R' x e s)->B R e s->B' R' e s) (hQ:∀x e s,Q x e s->Q' x e s):
  ∀(n:Nat) (left:List (List AV)) (env:Env) (σ:au),Dr m it nx ok en id B b b1 Q n left env σ->Dr m it nx ok en id B' b b1 Q' n left env σ
 |0,_,env,σ,h=>⟨h.1,hQ _ _ _ h.2⟩
 |n+1,left,env,σ,h=>⟨h.1,fun i cs kv vv h1 h2 h3=>hB _ _ _ _ (fun x e s hx=>by
  have hn:=zU (id:=id) (m:=m) (it:=it) (nx:=nx) (ok:=ok) (en:=en) (b:=b) (b1:=b1) hB hQ n (left.eraseIdx i) e s
  cases x with
  |normal=>exact hn hx
  |ret=>exact hQ _ _ _ hx
  |exit kf=>
   simp only[bl]at hx ⊢
   split at hx
   ·rename_i h1;rw[if_pos h1];exact hn hx
   ·rename_i h1
    rw[if_neg h1]
    simp only[dv,bl]at hx ⊢
    split at hx
    ·rename_i h2;rw[if_pos h2];exact hQ _ _ _ hx
    ·rename_i h2;rw[if_neg h2];exact hQ _ _ _ hx) (h.2 i cs kv vv h1 h2 h3)⟩
theorem Iu (hm:P.follows .mixedOrders=true) {m:MK} {tm:O} {site it nx ok en:Nat} {c:VC} {b b1:Nat} {Q Q':Ex->Env->au->Prop} {env:Env} {σ:au} (hQ:∀x e s,Q x e s->Q' x e s) (h:It m tm site it nx ok en (dQ (Call P) c) b b1 Q env σ):It m tm site it nx ok en (dQ (Sound P) c) b b1 Q' env σ:=by
 obtain⟨id,r,h1,h2,h3,h4⟩:=h
 exact⟨id,r,h1,h2,h3,zU (B':=dQ (Sound P) c) (fun R R' e s hR hb=>s8 hm hR hb) hQ _ _ _ _ h4⟩
theorem xI {α:Type}:∀{l:List α} {i:Nat} {x:α},l[i]? =some x->(x::l.eraseIdx i).Perm l
 |y::l,0,x,h=>by simp at h;subst h;exact List.Perm.refl _
 |y::l,i+1,x,h=>by
  simp only[List.getElem?_cons_succ]at h
  rw[List.eraseIdx_cons_succ]
  exact(List.Perm.swap _ _ _).trans ((xI h).cons _)
theorem TK {m:MK} {tm:O} {site it nx ok en:Nat} {c:VC} {b b1:Nat} {Q:Ex->Env->au->Prop} {env:Env} {σ:au} {id:Id} {r:Row} (I:List (List AV)->Env->au->Prop) (h1:dm env tm=.map id m) (h2:σ.get id=some r) (h3:r.w=true) (MY:([nx,ok,en]++y4 c).contains it=false)
  (h0:I [] (upd env (some it) (.ptr ⟨site,σ.next⟩ 0 0)) ⟨bQ σ.get id {r with w:=false},σ.next+1⟩)
  (step:∀pre cs rest e s kv vv,(pre++cs::rest).Perm r.rows->I pre e s->gO ([nx,ok,en]++y4 c) (upd env (some it) (.ptr ⟨site,σ.next⟩ 0 0)) e->part m.ka m.ks cs=some kv->cs[m.ks]? =some vv->
   dQ (Call P) c (bl b1 (dv (I (pre++[cs])) (bl b Q))) (upd (upd (upd e (some nx) (.gD [.bool true,kv,vv])) (some ok) (.bool true)) (some en) (.gD [kv,vv])) ⟨s.get,s.next+1⟩)
  (fin:∀pre e s,pre.Perm r.rows->I pre e s->gO ([nx,ok,en]++y4 c) (upd env (some it) (.ptr ⟨site,σ.next⟩ 0 0)) e->Q .normal (upd (upd e (some nx) (.gD [.bool false])) (some ok) (.bool false)) ⟨s.get,s.next+1⟩):
  It m tm site it nx ok en (dQ (Call P) c) b b1 Q env σ:=by
 refine⟨id,r,h1,h2,h3,?_⟩
 have SF:∀e,gO ([nx,ok,en]++y4 c) (upd env (some it) (.ptr ⟨site,σ.next⟩ 0 0)) e->e it=.ptr ⟨site,σ.next⟩ 0 0:=fun e h=>by
  rw[h it MY];simp[upd]
 have key:∀n left pre e s,(pre++left).Perm r.rows->left.length=n->I pre e s->gO ([nx,ok,en]++y4 c) (upd env (some it) (.ptr ⟨site,σ.next⟩ 0 0)) e->Dr m it nx ok en ⟨site,σ.next⟩ (dQ (Call P) c) b b1 Q n left e s:=by
  intro n
  induction n with
  |zero=>
   intro left pre e s hp hl hI hK
   have:left=[]:=List.eq_nil_of_length_eq_zero hl
   subst this
   rw[List.append_nil]at hp
   exact⟨SF e hK,fin pre e s hp hI hK⟩
  |succ n ih=>
   intro left pre e s hp hl hI hK
   refine⟨SF e hK,fun i cs kv vv hi hk hv=>?_⟩
   have kF:=(List.getElem?_eq_some_iff.1 hi).1
   have Gp:(cs::left.eraseIdx i).Perm left:=by
    exact xI hi
   have Kk:(pre++cs::left.eraseIdx i).Perm r.rows:=(Gp.append_left pre).trans hp
   have PL:gO ([nx,ok,en]++y4 c) (upd env (some it) (.ptr ⟨site,σ.next⟩ 0 0)) (upd (upd (upd e (some nx) (.gD [.bool true,kv,vv])) (some ok) (.bool true)) (some en) (.gD [kv,vv])):=
    ((hK.upd (fun t h=>by cases h;simp)).upd (fun t h=>by cases h;simp)).upd (fun t h=>by cases h;simp)
   refine jN (fun _ _ _ _ h=>h) aE c _ _ _ _ (fun x e' s' hx=>?_) (z8 c _ _ _ (fun t ht=>List.mem_append_right _ ht) PL (step pre cs (left.eraseIdx i) e s kv vv Kk hI hK hk hv))
   obtain⟨hx,HE⟩:=hx
   have uG:I (pre++[cs]) e' s'->Dr m it nx ok en ⟨site,σ.next⟩ (dQ (Call P) c) b b1 Q n (left.eraseIdx i) e' s':=fun Vy=>
    ih (left.eraseIdx i) (pre++[cs]) e' s' (by rw[List.append_assoc];exact Kk) (by rw[List.length_eraseIdx,if_pos kF];omega) Vy HE
   cases x with
   |normal=>exact uG hx
   |ret=>exact hx
   |exit kf=>
    simp only[bl]at hx ⊢
    split at hx
    ·rename_i h1;rw[if_pos h1];exact uG hx
    ·rename_i h1;rw[if_neg h1];exact hx
 exact key _ r.rows [] _ _ (List.Perm.refl _) rfl h0 (gO.refl _ _)
end Go.Proofs.YtgoelphibofcmaaGreat.V

namespace Go.Proofs.YtgoelphibofcmaaGreat.V
open Go.RowKit
def OZ:Code->Code
 | .seq a _=>a
 |c=>c
def I9:Code->Code
 | .seq _ b=>b
 |c=>c
def UZ:Code->Code
 | .block _ c=>c
 |c=>c
def WS:Code->Code
 | .loop c=>c
 |c=>c
def T7:Code->List Oper
 | .region _ o _=>o.toList
 |_=>[]
def rg2 (k:Code):Code:=OZ (OZ (I9 (I9 k)))
def WN (k:Code):Code:=I9 (OZ (I9 (I9 k)))
def rgL (k:Code):Code:=WS (UZ (WN k))
def QI (k:Code):Code:=I9 (I9 (rgL k))
def Rg:Oper:={dst:=none,op:=.nilCheck (.tmp 0),type:=0,pos:= "",after:= #[],guard:=none}
def rgP (k:Code):List Oper:=(T7 (rg2 k)).dropLast
def rgO (k:Code):Oper:=(T7 (rg2 k)).getLastD Rg
def UT (k:Code) (i:Nat):Oper:=(T7 (OZ (rgL k))).getD i Rg
def TF (k:Code):Oper:=(T7 (OZ (UZ (QI k)))).headD Rg
def TG (k:Code):List Oper:=(T7 (OZ (UZ (QI k)))).tail
def rgR (k:Code):Code:=I9 (UZ (QI k))
def TH (P:Program) (v0 v1:VC) (vA:List br) (m:MK) (tm:O) (site it nx ok en:Nat) (vE:List br) (vR:VC) (b b1:Nat) (vT:VC) (Q:Ex->Env->au->Prop):Env->au->Prop:=
 dQ (Sound P) v0 (dv (dQ (Sound P) v1 (dv (wpOps (Sound P) false vA (It m tm site it nx ok en (dQ (Sound P) (.seq (.eS false vE) vR)) b b1 (dv (dQ (Sound P) vT Q) Q))) Q)) Q)
def QJ (P:Program) (v0 v1:VC) (vA:List br) (m:MK) (tm:O) (site it nx ok en:Nat) (vE:List br) (vR:VC) (b b1:Nat) (vT:VC) (Q:Ex->Env->au->Prop):Env->au->Prop:=
 dQ (Call P) v0 (dv (dQ (Call P) v1 (dv (wpOps (Call P) false vA (It m tm site it nx ok en (dQ (Call P) (.seq (.eS false vE) vR)) b b1 (dv (dQ (Call P) vT Q) Q))) Q)) Q)
theorem xU {F F':Env->au->Prop} {Q:Ex->Env->au->Prop} (h:∀e s,F e s->F' e s):∀x e s,dv F Q x e s->dv F' Q x e s:=fun x e s hx=>by
 cases x with
 |normal=>exact h e s hx
 |ret=>exact hx
 |exit id=>exact hx
theorem Lq {P:Program} (hm:P.follows .mixedOrders=true) {v0 v1:VC} {vA:List br} {m:MK} {tm:O} {site it nx ok en:Nat} {vE:List br} {vR:VC} {b b1:Nat} {vT:VC} {Q:Ex->Env->au->Prop} {env:Env} {σ:au}
  (h:QJ P v0 v1 vA m tm site it nx ok en vE vR b b1 vT Q env σ):TH P v0 v1 vA m tm site it nx ok en vE vR b b1 vT Q env σ:=
 s8 hm (xU fun _ _ h=>s8 hm (xU fun _ _ h=>lJ (fun _ _ _ _ h=>gG hm h) lg (fun _ _ h=>Iu hm (xU fun _ _ h=>s8 hm (fun _ _ _ h=>h) h) h) _ _ _ h) h) h
end Go.Proofs.YtgoelphibofcmaaGreat.V

namespace Go.Proofs.YtgoelphibofcmaaGreat.V
open Go.RowKit
noncomputable def po:Go.Code:=Tryz.f135.body.getD .skip
def FY:VC:=(.eS false [⟨(some 2),(.new [.bD]),none,135000000,[]⟩])
def LP:VC:=(.eS false [⟨(some 3),(.dz (.k .bD)),none,135001000,[]⟩])
def LQ:List br:=[⟨(some 6),(.dz (.t 0)),none,135002000,[]⟩,⟨(some 7),(.BB (.t 6)),none,135002001,[]⟩,⟨(some 8),(.gp 4 (.t 7)),none,135002002,[]⟩,⟨(some 9),(.load false 1 (.t 8)),none,135002003,[]⟩]
def Bn:List br:=[⟨(some 14),(.extract 0 (.t 13)),none,135004001,[]⟩,⟨(some 15),(.extract 1 (.t 13)),none,135004002,[]⟩,⟨(some 4),(.new [(.int .i64 0),(.int .i64 0)]),none,135004003,[]⟩,⟨none,(.store 2 (.t 4) (.t 14)),none,135004004,[]⟩,⟨(some 5),(.dz (.t 15)),none,135004005,[]⟩]
def Bo:VC:=(.eS false [⟨(some 16),(.dz (.t 3)),none,135005000,[]⟩,⟨(some 17),(.load true 2 (.t 4)),none,135005001,[]⟩,⟨(some 18),(.dz (.t 5)),none,135005002,[]⟩,⟨(some 19),(.build [(.int .i64 0),(.int .i64 0),(.int .i64 0)] [(0,(2,(.t 17))),(2,(1,(.t 18)))]),none,135005003,[]⟩,⟨(some 20),(.mc 3 1 [(.t 19)]),none,135005004,[]⟩,⟨(some 21),(.append 3 (.t 16) (.t 20)),none,135005005,[]⟩,⟨(some 3),(.dz (.t 21)),none,135005006,[]⟩])
def Bp:VC:=(.seq (.eS false [⟨(some 22),(.dz (.t 3)),none,135006000,[]⟩,⟨(some 23),(.call 180 [(.t 22)]),none,135006001,[]⟩,⟨none,(.store 1 (.t 2) (.t 23)),none,135006002,[]⟩]) .ret)
def Bs:List ox:=[(.cell true 1 2)]
def FR:O:=(.t 9)
theorem QB:Jl Tryz.prog [] Tryz.f135.ntmps 135 135004000 10 11 12 13 (UT po 0) (UT po 1) (TF po) (TG po) (rgR po) Bn Bo:=⟨by kernel_rfl,by kernel_rfl,by kernel_rfl,by kernel_rfl,by kernel_rfl,by kernel_rfl,by kernel_rfl,by kernel_rfl,by kernel_rfl,by decide,by decide,by decide,by decide,by decide,by kernel_rfl,by kernel_rfl⟩
theorem QL:po=.seq (OZ po) (.seq (OZ (I9 po)) (.seq (.seq (.region 2 (rgP po++[rgO po]).toArray false) (.block 0 (.loop (Lp 3 4 0 1 12 (UT po 0) (UT po 1) (TF po) (TG po) (rgR po))))) (I9 (I9 (I9 po))))):=by kernel_rfl
theorem Ph (m:MK):CS Tryz.prog Tryz.f135.ntmps po (TH Tryz.prog FY LP LQ m FR 135002999 10 11 12 13 Bn Bo 0 1 Bp):=by
 rw[QL]
 exact CS.seq (CS.code (md:=[]) (fid:=135) mixed (by kernel_rfl)) (CS.seq (CS.code (md:=[]) (fid:=135) mixed (by kernel_rfl)) (CS.seq (CS.rng (tm:=.tmp 9) (sA:=135002000) (t:=107) (k:=50) (e:=2) mixed QB (by kernel_rfl) (by kernel_rfl) (by kernel_rfl) (by decide) (by kernel_rfl) (by kernel_rfl) (by kernel_rfl)) (CS.code (md:=[]) (fid:=135) mixed (by kernel_rfl))))
theorem QH {args:List AV} {σ:au} {K:AV->au->Prop} (ha:args.length=Tryz.f135.params.size) (m:MK) (h:QJ Tryz.prog FY LP LQ m FR 135002999 10 11 12 13 Bn Bo 0 1 Bp (kV Bs K) (cG args) σ):Call Tryz.prog 135 args σ K:=
 CS.fn Tryz.func135 (by kernel_rfl) (by kernel_rfl) ha.symm (by decide) (Ph m) (Lq mixed h)
end Go.Proofs.YtgoelphibofcmaaGreat.V

namespace Go.Proofs.YtgoelphibofcmaaGreat.V
open Go.RowKit
attribute [local irreducible] dQ wpOps fX Call
attribute [local go_sem] aQ fM eU fY fW dm upd cG K.av cQ AV.cells AV.cell rowOf rowsOf part ld rowAt bQ cC dE ea gZ bS dh eo fV fj dB ef dd dc dS dU b4 bj cV bW cY cW ec eh ee cU ck de eb bV aU da cK gY bx cP cj bd dv bl dG AV.undef bH bK dW dZ dO dL cN ek eu cJ ej ei cZ db List.getD_cons_zero List.getD_cons_succ List.getD_nil List.all_cons List.all_nil Bool.and_true Bool.true_and Bool.and_self Bool.not_true Bool.not_false Option.map_some Option.map_none Option.bind_some Option.bind_none List.length_cons List.length_nil List.take_succ_cons List.take_zero List.take_nil List.drop_succ_cons List.drop_zero List.drop_nil List.head?_cons List.map_cons List.map_nil List.getElem?_cons_zero List.getElem?_cons_succ List.cons_append List.nil_append List.append_nil List.length_map List.set_cons_zero List.set_cons_succ Nat.reduceMul eq_self Int.toNat_natCast Int.natCast_nonneg and_self true_and and_true decide_true decide_false Bool.false_eq_true Nat.zero_add Nat.add_zero List.contains_cons List.contains_nil Bool.or_false Bool.false_or beq_self_eq_true Nat.reduceBEq ne_eq not_true_eq_false not_false_eq_true Id.mk.injEq false_and and_false Nat.reduceLT Int.reduceLE Int.reduceLT Int.reduceToNat Int.reduceNeg Int.reduceAdd Nat.le_refl List.length_append beq_true beq_false Bool.not_eq_eq_eq_not or_false false_or dX ae aj aJ bq bG cr aY bf aW bp cR bB
end Go.Proofs.YtgoelphibofcmaaGreat.V

namespace Go.Proofs.YtgoelphibofcmaaGreat.V
open Go.RowKit
attribute [local irreducible] dQ wpOps fX Call
attribute [local go_sem] aQ fM eU fY fW dm upd cG K.av cQ AV.cells AV.cell rowOf rowsOf part ld rowAt bQ cC dE ea gZ bS dh eo fV fj dB ef dd dc dS dU b4 bj cV bW cY cW ec eh ee cU ck de eb bV aU da cK gY bx cP cj bd dv bl dG AV.undef bH bK dW dZ dO dL cN ek eu cJ ej ei cZ db List.getD_cons_zero List.getD_cons_succ List.getD_nil List.all_cons List.all_nil Bool.and_true Bool.true_and Bool.and_self Bool.not_true Bool.not_false Option.map_some Option.map_none Option.bind_some Option.bind_none List.length_cons List.length_nil List.take_succ_cons List.take_zero List.take_nil List.drop_succ_cons List.drop_zero List.drop_nil List.head?_cons List.map_cons List.map_nil List.getElem?_cons_zero List.getElem?_cons_succ List.cons_append List.nil_append List.append_nil List.length_map List.set_cons_zero List.set_cons_succ Nat.reduceMul eq_self Int.toNat_natCast Int.natCast_nonneg and_self true_and and_true decide_true decide_false Bool.false_eq_true Nat.zero_add Nat.add_zero List.contains_cons List.contains_nil Bool.or_false Bool.false_or beq_self_eq_true Nat.reduceBEq ne_eq not_true_eq_false not_false_eq_true Id.mk.injEq false_and and_false Nat.reduceLT Int.reduceLE Int.reduceLT Int.reduceToNat Int.reduceNeg Int.reduceAdd Nat.le_refl List.length_append beq_true beq_false Bool.not_eq_eq_eq_not or_false false_or dX ae aj aJ bq bG cr aY bf aW bp cR bB
end Go.Proofs.YtgoelphibofcmaaGreat.V

namespace Go.Proofs.YtgoelphibofcmaaGreat.V
open Go.RowKit
attribute [local irreducible] dQ wpOps fX Call
attribute [local go_sem] aQ fM eU fY fW dm upd cG K.av cQ AV.cells AV.cell rowOf rowsOf part ld rowAt bQ cC dE ea gZ bS dh eo fV fj dB ef dd dc dS dU b4 bj cV bW cY cW ec eh ee cU ck de eb bV aU da cK gY bx cP cj bd dv bl dG AV.undef bH bK dW dZ dO dL cN ek eu cJ ej ei cZ db List.getD_cons_zero List.getD_cons_succ List.getD_nil List.all_cons List.all_nil Bool.and_true Bool.true_and Bool.and_self Bool.not_true Bool.not_false Option.map_some Option.map_none Option.bind_some Option.bind_none List.length_cons List.length_nil List.take_succ_cons List.take_zero List.take_nil List.drop_succ_cons List.drop_zero List.drop_nil List.head?_cons List.map_cons List.map_nil List.getElem?_cons_zero List.getElem?_cons_succ List.cons_append List.nil_append List.append_nil List.length_map List.set_cons_zero List.set_cons_succ Nat.reduceMul eq_self Int.toNat_natCast Int.natCast_nonneg and_self true_and and_true decide_true decide_false Bool.false_eq_true Nat.zero_add Nat.add_zero List.contains_cons List.contains_nil Bool.or_false Bool.false_or beq_self_eq_true Nat.reduceBEq ne_eq not_true_eq_false not_false_eq_true Id.mk.injEq false_and and_false Nat.reduceLT Int.reduceLE Int.reduceLT Int.reduceToNat Int.reduceNeg Int.reduceAdd Nat.le_refl List.length_append beq_true beq_false Bool.not_eq_eq_eq_not or_false false_or dX ae aj aJ bq bG cr aY bf aW bp cR bB
end Go.Proofs.YtgoelphibofcmaaGreat.V

namespace Go.Proofs.YtgoelphibofcmaaGreat.V
open Go.RowKit
attribute [local irreducible] dQ wpOps fX Call
attribute [local go_sem] aQ fM eU fY fW dm upd cG K.av cQ AV.cells AV.cell rowOf rowsOf part ld rowAt bQ cC dE ea gZ bS dh eo fV fj dB ef dd dc dS dU b4 bj cV bW cY cW ec eh ee cU ck de eb bV aU da cK gY bx cP cj bd dv bl dG AV.undef bH bK dW dZ dO dL cN ek eu cJ ej ei cZ db List.getD_cons_zero List.getD_cons_succ List.getD_nil List.all_cons List.all_nil Bool.and_true Bool.true_and Bool.and_self Bool.not_true Bool.not_false Option.map_some Option.map_none Option.bind_some Option.bind_none List.length_cons List.length_nil List.take_succ_cons List.take_zero List.take_nil List.drop_succ_cons List.drop_zero List.drop_nil List.head?_cons List.map_cons List.map_nil List.getElem?_cons_zero List.getElem?_cons_succ List.cons_append List.nil_append List.append_nil List.length_map List.set_cons_zero List.set_cons_succ Nat.reduceMul eq_self Int.toNat_natCast Int.natCast_nonneg and_self true_and and_true decide_true decide_false Bool.false_eq_true Nat.zero_add Nat.add_zero List.contains_cons List.contains_nil Bool.or_false Bool.false_or beq_self_eq_true Nat.reduceBEq ne_eq not_true_eq_false not_false_eq_true Id.mk.injEq false_and and_false Nat.reduceLT Int.reduceLE Int.reduceLT Int.reduceToNat Int.reduceNeg Int.reduceAdd Nat.le_refl List.length_append beq_true beq_false Bool.not_eq_eq_eq_not or_false false_or dX ae aj aJ bq bG cr aY bf aW bp cR bB
theorem zT:∀{ps qs:List ab},(ps.Pairwise fun a b=>jY a.aL b.aL=true)->(qs.Pairwise fun a b=>jY a.aL b.aL=true)->(∀x,x∈ps↔x∈qs)->ps=qs
 |[],[],_,_,_=>rfl
 |[],q::qs,_,_,h=>absurd ((h q).2 (by simp)) (by simp)
 |p::ps,[],_,_,h=>absurd ((h p).1 (by simp)) (by simp)
 |p::ps,q::qs,hp,hq,h=>by
  obtain⟨p1,p2⟩:=List.pairwise_cons.1 hp
  obtain⟨q1,q2⟩:=List.pairwise_cons.1 hq
  have e:p=q:=by
   rcases List.mem_cons.1 ((h p).1 (by simp))with e|e
   ·exact e
   ·rcases List.mem_cons.1 ((h q).2 (by simp))with e'|e'
    ·exact e'.symm
    ·have:=KN (q1 p e)
     rw[p1 q e']at this;cases this
  subst e
  congr 1
  refine zT p2 q2 fun x=>⟨fun hx=>?_,fun hx=>?_⟩
  ·rcases List.mem_cons.1 ((h x).1 (List.mem_cons_of_mem _ hx))with e|e
   ·subst e;have:=p1 x hx;rw[nK]at this;cases this
   ·exact e
  ·rcases List.mem_cons.1 ((h x).2 (List.mem_cons_of_mem _ hx))with e|e
   ·subst e;have:=q1 x hx;rw[nK]at this;cases this
   ·exact e
theorem FJ {L qs:List ab} (hR:qo L) (hp:qs.Perm L) (hs:∀i j:Nat,i<j->j<qs.length->jY (aA qs j).aL (aA qs i).aL=false):qs=L:=by
 rw[sM]at hR
 have hd:L.Pairwise fun a b=>a.aL≠b.aL:=hR.imp fun {a b} h e=>by rw[e,nK]at h;cases h
 have hdq:qs.Pairwise fun a b=>a.aL≠b.aL:=hp.symm.pairwise hd fun {a b} h e=>h e.symm
 refine zT ?_ hR fun x=>hp.mem_iff
 rw[List.pairwise_iff_getElem]at hdq ⊢
 intro i j hi hj xi
 have h1:=hs i j xi hj
 rw[fx hj,fx hi]at h1
 exact GI h1 fun e=>hdq i j hi hj xi e.symm
theorem Er (ps:List ab) (h0:ps≠[]) (hlen:ps.length<=1048576) (σ:au) (id:Id) (hv:id.bE<σ.next) (hg:σ.get id=some ⟨true,3,ps.map aa⟩):
  Call Tryz.prog 145 [.own id 0 ps.length] σ fun a σ'=>∃o:Id,a=.own o 0 ps.length/\σ'.get o=some ⟨true,3,ps.map aa⟩/\σ.next<=o.bE/\o.bE<σ'.next/\∀x:Id,x.bE<σ.next->σ'.get x=σ.get x:=by
 refine eJ eF rfl fun hl=>?_
 clear hl
 have h2:ps.length<=16777216:=by omega
 have hm:(ps.map aa).length=ps.length:=by simp
 have v1:=dr hv
 have ht:(ps.map aa).take ps.length=ps.map aa:=by rw[<-hm,List.take_length]
 have ha:(ps.map aa).all (fun c=>c.length==3&&c.all AV.cell)=true:=all_map fun x=>by simp[aa,AV.cell]
 (try((repeat(revert hN;revert N;apply Pn.out));refine wk (tw @hg (tw @h2 (tw @hm (tw @v1 (tw @ht @ha))))) ?_;(repeat(refine Pn.mk ?_;intro N hN))))
 exact eV (vs:=[.own ⟨145003002,σ.next+2⟩ 0 ps.length]) (.inl rfl) (sd @Nat.zero_add) ⟨_,rfl,sd @Nat.zero_add,by(try dsimp only);omega,by(try dsimp only);omega,fun x hx=>by
  have:=dr hx
  simp only[go_sem, ↓reduceIte,Nat.reduceEqDiff,Nat.reduceAdd,Nat.reduceSub,Nat.reduceLeDiff,reduceCtorEq,this]⟩
theorem Af (ps L:List ab) (hlen:ps.length<=1000000) (h0:ps≠[]) (hR:qo L) (hp:ps.Perm L) (σ:au) (id:Id) (hv:id.bE<σ.next) (hg:σ.get id=some ⟨true,3,ps.map aa⟩):
  Call Tryz.prog 180 [.own id 0 ps.length] σ fun a σ'=>∃o:Id,a=.agg [.own o 0 L.length]/\σ'.get o=some ⟨true,3,L.map aa⟩/\σ.next<=o.bE/\o.bE<σ'.next/\∀x:Id,x.bE<σ.next->σ'.get x=σ.get x:=by
 refine eJ eF rfl fun hl=>?_
 clear hl
 have v1:=dr hv
 (try((repeat(revert hN;revert N;apply Pn.out));refine wk (tw @hg @v1) ?_;(repeat(refine Pn.mk ?_;intro N hN))))
 refine .inr (aE _ _ _ _ _ (fun r σ1 hq=>?_) (Er ps h0 (by omega) ⟨_,_⟩ id (by(try dsimp only);omega) (sd (tw @v1 @hg))))
 obtain⟨g1,x1⟩:=σ1
 obtain⟨o,rfl,q1,q2,q3,q4⟩:=hq
 (try dsimp only at q1 q2 q3 q4)
 have k2:=q4 ⟨180000000,σ.next⟩ (by(try dsimp only);omega)
 simp only[go_sem, ↓reduceIte,Nat.reduceEqDiff,Nat.reduceAdd,Nat.reduceSub,Nat.reduceLeDiff,reduceCtorEq]at k2
 refine hN _ _ ?_
 clear hN N
 (try((repeat(revert hN;revert N;apply Pn.out));refine wk @Nat.zero_add ?_;(repeat(refine Pn.mk ?_;intro N hN))))
 refine .inr (aE _ _ _ _ _ (fun r σ2 hq=>?_) (Ix QO QP ps (by omega) ⟨g1,_⟩ o q1))
 obtain⟨g2,x2⟩:=σ2
 obtain⟨u1,u2,ss,u3,u4,u5,u6⟩:=hq
 (try dsimp only at u1 u2 u3)
 have hss:ss=L:=FJ hR (u5.trans hp) u6
 rw[hss]at u3 u4
 have o2:(⟨180000000,σ.next⟩:Id)≠o:=fun e=>by rw[<-e]at q2;(try dsimp only at q2);omega
 have k3:=(u2 _ o2).trans k2
 have of:=eq_false (fun e:o=(⟨180000000,σ.next⟩:Id)=>o2 e.symm)
 refine hN _ _ ?_
 clear hN N
 (try((repeat(revert hN;revert N;apply Pn.out));refine wk @k3 ?_;(repeat(refine Pn.mk ?_;intro N hN))))
 exact eV (.inl rfl) (vs:=[.agg [.own o 0 ps.length]]) (sd @Nat.zero_add) ⟨o,by rw[u4];rfl,sd (tw @of @u3),by omega,by(try dsimp only);omega,fun x hx=>by
  have h1:x≠o:=fun e=>by rw[e]at hx;omega
  have h2:=u2 x h1
  have h3:=q4 x (by(try dsimp only);omega)
  have h4:=dr hx
  simp only[go_sem, ↓reduceIte,Nat.reduceEqDiff,Nat.reduceAdd,Nat.reduceSub,Nat.reduceLeDiff,reduceCtorEq,h4]at h3
  simp only[go_sem, ↓reduceIte,Nat.reduceEqDiff,Nat.reduceAdd,Nat.reduceSub,Nat.reduceLeDiff,reduceCtorEq,h4,h2,h3]⟩
end Go.Proofs.YtgoelphibofcmaaGreat.V

namespace Go.Proofs.YtgoelphibofcmaaGreat.V
open Go.RowKit
attribute [local irreducible] dQ wpOps fX Call
attribute [local go_sem] aQ fM eU fY fW dm upd cG K.av cQ AV.cells AV.cell rowOf rowsOf part ld rowAt bQ cC dE ea gZ bS dh eo fV fj dB ef dd dc dS dU b4 bj cV bW cY cW ec eh ee cU ck de eb bV aU da cK gY bx cP cj bd dv bl dG AV.undef bH bK dW dZ dO dL cN ek eu cJ ej ei cZ db List.getD_cons_zero List.getD_cons_succ List.getD_nil List.all_cons List.all_nil Bool.and_true Bool.true_and Bool.and_self Bool.not_true Bool.not_false Option.map_some Option.map_none Option.bind_some Option.bind_none List.length_cons List.length_nil List.take_succ_cons List.take_zero List.take_nil List.drop_succ_cons List.drop_zero List.drop_nil List.head?_cons List.map_cons List.map_nil List.getElem?_cons_zero List.getElem?_cons_succ List.cons_append List.nil_append List.append_nil List.length_map List.set_cons_zero List.set_cons_succ Nat.reduceMul eq_self Int.toNat_natCast Int.natCast_nonneg and_self true_and and_true decide_true decide_false Bool.false_eq_true Nat.zero_add Nat.add_zero List.contains_cons List.contains_nil Bool.or_false Bool.false_or beq_self_eq_true Nat.reduceBEq ne_eq not_true_eq_false not_false_eq_true Id.mk.injEq false_and and_false Nat.reduceLT Int.reduceLE Int.reduceLT Int.reduceToNat Int.reduceNeg Int.reduceAdd Nat.le_refl List.length_append beq_true beq_false Bool.not_eq_eq_eq_not or_false false_or dX ae aj aJ bq bG cr aY bf aW bp cR bB
def AsI (σ:au) (T:Id) (ts:List ab) (pre:List (List AV)) (e0:Env) (s0:au):Prop:=
 ∃l':List ab,pre=l'.map aa/\((l'=[]/\e0 3=.bD)∨∃o:Id,e0 3=.own o 0 l'.length/\s0.get o=some ⟨true,3,l'.map aa⟩/\σ.next<o.bE/\o.bE<s0.next)/\σ.next<s0.next/\(∀x:Id,x.bE<σ.next->x≠T->s0.get x=σ.get x)/\s0.get T=some ⟨false,mP.qe,ts.map aa⟩/\s0.get ⟨135000000,σ.next⟩=some ⟨true,1,[[.bD]]⟩/\e0 2=.ptr ⟨135000000,σ.next⟩ 0 0
theorem H3 (L:List ab) (x:ab):(L++[x]).length=L.length+1:=by rw[List.length_append];rfl
theorem Eh {σ:au} {c T O:Id} {s:aw} {ts L:List ab} (h:jQ σ.get σ.next c T O s ts) (hlen:ts.length<=100000) (h0:ts≠[]) (hR:qo L) (hp:ts.Perm L):
  Call Tryz.prog 135 [.ptr c 0 0] σ (fun r σ'=>∃o:Id,r=.agg [.own o 0 L.length]/\σ'.get o=some ⟨true,3,L.map aa⟩/\σ.next<=o.bE/\o.bE<σ'.next/\σ.next<=σ'.next/\∀x:Id,x.bE<σ.next->x≠T->σ'.get x=σ.get x):=by
 refine QH rfl mP ?_
 have gn:=h.row
 have Gu:=h.tl
 have v1:=dr h.cv
 have v2:=dr h.tv
 unfold QJ
 rw[FY]
 (try((repeat(revert hN;revert N;apply Pn.out));refine wk (tw @gn @v1) ?_;(repeat(refine Pn.mk ?_;intro N hN))))
 refine DO (TK (id:=T) (r:=⟨true,mP.qe,ts.map aa⟩) (AsI σ T ts) (sd @FR.eq_1) (sd (tw @Gu @v2)) rfl (by decide) ?_ ?_ ?_)
 ·have vT:(T=(⟨135000000,σ.next⟩:Id))=False:=eq_false fun e=>by have:=h.tv;rw[e]at this;(try dsimp only at this);omega
  have vT2:((⟨135000000,σ.next⟩:Id)=T)=False:=eq_false fun e=>by have:=h.tv;rw[<-e]at this;(try dsimp only at this);omega
  exact⟨[],rfl,.inl ⟨rfl,sd @Nat.zero_add⟩,by(try dsimp only);omega,fun x hx hT=>by
   have h1:=dr hx
   have h2:=eq_false hT
   simp only[go_sem, ↓reduceIte,Nat.reduceEqDiff,Nat.reduceAdd,Nat.reduceSub,Nat.reduceLeDiff,reduceCtorEq,h1,h2],sd @Nat.zero_add,sd @vT2,sd @Nat.zero_add⟩
 ·rintro pre cs rest e0 s0 kv vv Qd ⟨l',rfl,hout,IY,jH,hT,h5,e2⟩ hK hpart hvv
  have tJ:cs∈ts.map aa:=Qd.subset (by simp)
  obtain⟨tl,hx,rfl⟩:=List.mem_map.1 tJ
  have Gn:=Qd.length_eq
  simp only[List.length_append,List.length_map,List.length_cons]at Gn
  simp[part,aa,MK.ks]at hpart hvv
  subst hpart hvv
  rw[Bn,Bo]
  have Rr:=h.tv
  have vT:=dr (i:=T) (n:=s0.next) (by omega)
  have v5:=dr (i:=⟨135000000,σ.next⟩) (n:=s0.next) (by(try dsimp only);omega)
  clear Qd tJ hK
  have hm1:l'.map aa++[aa tl]=(l'++[tl]).map aa:=by simp
  have DU:=H3 l' tl
  have vW:(l'++[tl]).map aa=l'.map aa++[[.int .i64 tl.aL.fc,.int .i64 tl.aL.eR,.int .i64 tl.aT]]:=by rw[List.map_append];rfl
  rcases hout with⟨Oq,e3⟩|⟨o,e3,og,on,ov⟩
  ·subst Oq
   (try((repeat(revert hN;revert N;apply Pn.out));refine wk (tw @e3 @e2) ?_;(repeat(refine Pn.mk ?_;intro N hN))))
   exact⟨[]++[tl],hm1,.inr ⟨⟨135005005,s0.next+1+1⟩,sl @Nat.zero_add,sl @Nat.zero_add,by(try dsimp only);omega,by(try dsimp only);omega⟩,by(try dsimp only);omega,fun y hy Ti=>by
    have h1:=dr (i:=y) (n:=s0.next) (by omega)
    have h2:=jH y hy Ti
    simp only[go_sem, ↓reduceIte,Nat.reduceEqDiff,Nat.reduceAdd,Nat.reduceSub,Nat.reduceLeDiff,reduceCtorEq,h1,h2],sd (tw @vT @hT),sd (tw @v5 @h5),sd @e2⟩
  ·have vo:=dr ov
   have oT:=cm (a:=T) (b:=o) (by omega)
   have o5:=cm (a:=⟨135000000,σ.next⟩) (b:=o) (by(try dsimp only);omega)
   have jc:(l'.map aa).length=l'.length:=by simp
   have e1:l'.length<=16777215:=by omega
   (try((repeat(revert hN;revert N;apply Pn.out));refine wk (tw @e3 (tw @e2 (tw @og (tw @vo (tw @jc @e1))))) ?_;(repeat(refine Pn.mk ?_;intro N hN))))
   exact⟨l'++[tl],hm1,.inr ⟨⟨135005005,s0.next+1+1⟩,by rw[DU];simp only[go_sem, ↓reduceIte,Nat.reduceEqDiff,Nat.reduceAdd,Nat.reduceSub,Nat.reduceLeDiff,reduceCtorEq]<;>rfl,by rw[vW];simp only[go_sem, ↓reduceIte,Nat.reduceEqDiff,Nat.reduceAdd,Nat.reduceSub,Nat.reduceLeDiff,reduceCtorEq]<;>rfl,by(try dsimp only);omega,by(try dsimp only);omega⟩,by(try dsimp only);omega,fun y hy Ti=>by
    have h1:=dr (i:=y) (n:=s0.next) (by omega)
    have h2:=jH y hy Ti
    have h3:=cm (a:=y) (b:=o) (by omega)
    simp only[go_sem, ↓reduceIte,Nat.reduceEqDiff,Nat.reduceAdd,Nat.reduceSub,Nat.reduceLeDiff,reduceCtorEq,h1,h2,h3],sd (tw @vT (tw @oT @hT)),sd (tw @v5 (tw @o5 @h5)),sd @e2⟩
 ·rintro pre e0 s0 Qd ⟨l',rfl,hout,IY,jH,hT,h5,e2⟩ hK
  clear hK
  have me:l'.Perm ts:=by
   have:∀{a b:List ab},(a.map aa).Perm (b.map aa)->a.Perm b:=fun {a b} rh=>by
    have h2:=rh.map (fun cs:List AV=>match cs with|[.int _ x,.int _ y,.int _ t]=>(⟨⟨x,y⟩,t⟩:ab)|_=>default)
    simpa[List.map_map,Function.comp_def,aa]using h2
   exact this Qd
  have V9:=me.length_eq
  rcases hout with⟨Oq,e3⟩|⟨o,e3,og,on,ov⟩
  ·exfalso
   subst Oq
   exact h0 (List.eq_nil_of_length_eq_zero V9.symm)
  have gM:l'≠[]:=fun e=>h0 (List.eq_nil_of_length_eq_zero (by rw[<-V9,e];rfl))
  (try((repeat(revert hN;revert N;apply Pn.out));refine wk (tw @Bp.eq_1 (tw @Bs.eq_1 (tw @e3 @e2))) ?_;(repeat(refine Pn.mk ?_;intro N hN))))
  refine .inr (aE _ _ _ _ _ (fun r σ1 hq=>?_) (Af l' L (by omega) gM hR (me.trans hp) ⟨s0.get,_⟩ o (by(try dsimp only);omega) og))
  obtain⟨g1,x1⟩:=σ1
  obtain⟨o2,rfl,q1,q2,q3,q4⟩:=hq
  (try dsimp only at q1 q2 q3 q4)
  have k5:=(q4 ⟨135000000,σ.next⟩ (by(try dsimp only);omega)).trans h5
  have o25:=cm (a:=⟨135000000,σ.next⟩) (b:=o2) (by(try dsimp only);omega)
  refine hN _ _ ?_
  clear hN N
  (try((repeat(revert hN;revert N;apply Pn.out));refine wk (tw @Bp.eq_1 (tw @Bs.eq_1 (tw @e2 @k5))) ?_;(repeat(refine Pn.mk ?_;intro N hN))))
  exact eV (.inl rfl) (vs:=[.agg [.own o2 0 L.length]]) (by rw[Bs];simp only[fG,iG,go_sem, ↓reduceIte,Nat.reduceEqDiff,Nat.reduceAdd,Nat.reduceSub,Nat.reduceLeDiff,reduceCtorEq,e2]) ⟨o2,rfl,sd (tw @o25 @q1),by omega,by(try dsimp only);omega,by(try dsimp only);omega,fun y hy Ti=>by
   have h1:=dr (i:=y) (n:=σ.next) hy
   simp only[go_sem, ↓reduceIte,Nat.reduceEqDiff,Nat.reduceAdd,Nat.reduceSub,Nat.reduceLeDiff,reduceCtorEq,h1]
   exact(q4 y (by omega)).trans (jH y hy Ti)⟩
end Go.Proofs.YtgoelphibofcmaaGreat.V

namespace Go.Proofs.YtgoelphibofcmaaGreat.V
open Go.RowKit
attribute [local irreducible] dQ wpOps fX Call
attribute [local go_sem] aQ fM eU fY fW dm upd cG K.av cQ AV.cells AV.cell rowOf rowsOf part ld rowAt bQ cC dE ea gZ bS dh eo fV fj dB ef dd dc dS dU b4 bj cV bW cY cW ec eh ee cU ck de eb bV aU da cK gY bx cP cj bd dv bl dG AV.undef bH bK dW dZ dO dL cN ek eu cJ ej ei cZ db List.getD_cons_zero List.getD_cons_succ List.getD_nil List.all_cons List.all_nil Bool.and_true Bool.true_and Bool.and_self Bool.not_true Bool.not_false Option.map_some Option.map_none Option.bind_some Option.bind_none List.length_cons List.length_nil List.take_succ_cons List.take_zero List.take_nil List.drop_succ_cons List.drop_zero List.drop_nil List.head?_cons List.map_cons List.map_nil List.getElem?_cons_zero List.getElem?_cons_succ List.cons_append List.nil_append List.append_nil List.length_map List.set_cons_zero List.set_cons_succ Nat.reduceMul eq_self Int.toNat_natCast Int.natCast_nonneg and_self true_and and_true decide_true decide_false Bool.false_eq_true Nat.zero_add Nat.add_zero List.contains_cons List.contains_nil Bool.or_false Bool.false_or beq_self_eq_true Nat.reduceBEq ne_eq not_true_eq_false not_false_eq_true Id.mk.injEq false_and and_false Nat.reduceLT Int.reduceLE Int.reduceLT Int.reduceToNat Int.reduceNeg Int.reduceAdd Nat.le_refl List.length_append beq_true beq_false Bool.not_eq_eq_eq_not or_false false_or dX ae aj aJ bq bG cr aY bf aW bp cR bB
theorem jQ.three {g g':Rows} {n n':Nat} {c T O:Id} {s:aw} {ts:List ab} (h:jQ g n c T O s ts) (hn:n<=n') (hc:g' c=g c) (hT:g' T=g T) (hO:g' O=g O):jQ g' n' c T O s ts:=
 ⟨hc.trans h.row,hT.trans h.tl,by rw[hO];exact h.op,Nat.lt_of_lt_of_le h.cv hn,Nat.lt_of_lt_of_le h.tv hn,Nat.lt_of_lt_of_le h.ov hn,h.cT,h.cO,h.TO⟩
theorem zO (q:ab):∀l:List ab,(l++[q]).Perm (iJ l q)
 |[]=>List.Perm.refl _
 |x::l=>by
  have ih:=zO q l
  rw[iJ]
  split
  ·exact List.perm_append_comm (l₁:=x::l) (l₂:=[q])
  ·exact ih.cons x
structure ui (s:aw) (S:tj):Prop where
 at_:∀q,gV (s.bh.ai++S.1) q=gV S.2 q
 perm:(s.bh.ai++S.1).Perm S.2
theorem ui.fit {s:aw} {S:tj} (h:ui s S) (p:aM) (t:Int):iI s (s.bh.ai++S.1) p t=iI s S.2 p t:=by
 have e:gV (s.bh.ai++S.1)=gV S.2:=funext h.at_
 unfold iI
 rw[e]
theorem ui.no {s:aw} {S:tj} (h:ui s S) {p:aM} (h0:eY S.2 p<0):eY (s.bh.ai++S.1) p<0:=nJ.2 fun t ht=>nJ.1 h0 t (h.perm.subset ht)
theorem ui.put {s:aw} {S:tj} (h:ui s S) {x:ab} (h0:eY S.2 x.aL<0):ui s (S.1++[x],iJ S.2 x) where
 at_ q:=by
  show gV (s.bh.ai++(S.1++[x])) q=gV (iJ S.2 x) q
  rw[<-List.append_assoc,Ah q (nJ.1 (h.no h0)),BU q (nJ.1 h0),h.at_]
 perm:=by
  show(s.bh.ai++(S.1++[x])).Perm (iJ S.2 x)
  rw[<-List.append_assoc]
  exact(h.perm.append_right [x]).trans (zO x S.2)
structure U6 (σ:au) (m:Nat) (c T O:Id) (s:aw) (l:List ab) (S:tj) (e7:AV) (g:Rows) (n:Nat):Prop where
 Es:jQ g n c T O s (s.bh.ai++S.1)
 u:(S.1=[]/\e7=.bD)∨∃u:Id,e7=.own u 0 S.1.length/\g u=some ⟨true,3,S.1.map aa⟩/\m<=u.bE/\u.bE<n/\0<S.1.length
 lo:m<=n
 fr:∀x:Id,x.bE<m->x≠T->x≠O->x≠c->g x=σ.get x
theorem U6.frame {σ:au} {m:Nat} {c T O:Id} {s:aw} {l:List ab} {S:tj} {e7 Oa:AV} {g g':Rows} {n n':Nat} (h:U6 σ m c T O s l S e7 g n) (he:Oa=e7) (hn:n<=n') (hf:∀x:Id,x.bE<n->g' x=g x):U6 σ m c T O s l S Oa g' n' where
 Es:=h.Es.frame hn hf
 u:=by
  subst he
  rcases h.u with h1|⟨u,h1,h2,h3,h4,h5⟩
  ·exact .inl h1
  ·exact .inr ⟨u,h1,(hf u h4).trans h2,h3,by omega,h5⟩
 lo:=Nat.le_trans h.lo hn
 fr x hx h1 h2 h3:=(hf x (Nat.lt_of_lt_of_le hx h.lo)).trans (h.fr x hx h1 h2 h3)
end Go.Proofs.YtgoelphibofcmaaGreat.V

namespace Go.Proofs.YtgoelphibofcmaaGreat.V
open Go.RowKit
attribute [local irreducible] dQ wpOps fX Call
attribute [local go_sem] aQ fM eU fY fW dm upd cG K.av cQ AV.cells AV.cell rowOf rowsOf part ld rowAt bQ cC dE ea gZ bS dh eo fV fj dB ef dd dc dS dU b4 bj cV bW cY cW ec eh ee cU ck de eb bV aU da cK gY bx cP cj bd dv bl dG AV.undef bH bK dW dZ dO dL cN ek eu cJ ej ei cZ db List.getD_cons_zero List.getD_cons_succ List.getD_nil List.all_cons List.all_nil Bool.and_true Bool.true_and Bool.and_self Bool.not_true Bool.not_false Option.map_some Option.map_none Option.bind_some Option.bind_none List.length_cons List.length_nil List.take_succ_cons List.take_zero List.take_nil List.drop_succ_cons List.drop_zero List.drop_nil List.head?_cons List.map_cons List.map_nil List.getElem?_cons_zero List.getElem?_cons_succ List.cons_append List.nil_append List.append_nil List.length_map List.set_cons_zero List.set_cons_succ Nat.reduceMul eq_self Int.toNat_natCast Int.natCast_nonneg and_self true_and and_true decide_true decide_false Bool.false_eq_true Nat.zero_add Nat.add_zero List.contains_cons List.contains_nil Bool.or_false Bool.false_or beq_self_eq_true Nat.reduceBEq ne_eq not_true_eq_false not_false_eq_true Id.mk.injEq false_and and_false Nat.reduceLT Int.reduceLE Int.reduceLT Int.reduceToNat Int.reduceNeg Int.reduceAdd Nat.le_refl List.length_append beq_true beq_false Bool.not_eq_eq_eq_not or_false false_or dX ae aj aJ bq bG cr aY bf aW bp cR bB
end Go.Proofs.YtgoelphibofcmaaGreat.V

namespace Go.Proofs.YtgoelphibofcmaaGreat.V
open Go.RowKit
attribute [local irreducible] dQ wpOps fX Call
attribute [local go_sem] aQ fM eU fY fW dm upd cG K.av cQ AV.cells AV.cell rowOf rowsOf part ld rowAt bQ cC dE ea gZ bS dh eo fV fj dB ef dd dc dS dU b4 bj cV bW cY cW ec eh ee cU ck de eb bV aU da cK gY bx cP cj bd dv bl dG AV.undef bH bK dW dZ dO dL cN ek eu cJ ej ei cZ db List.getD_cons_zero List.getD_cons_succ List.getD_nil List.all_cons List.all_nil Bool.and_true Bool.true_and Bool.and_self Bool.not_true Bool.not_false Option.map_some Option.map_none Option.bind_some Option.bind_none List.length_cons List.length_nil List.take_succ_cons List.take_zero List.take_nil List.drop_succ_cons List.drop_zero List.drop_nil List.head?_cons List.map_cons List.map_nil List.getElem?_cons_zero List.getElem?_cons_succ List.cons_append List.nil_append List.append_nil List.length_map List.set_cons_zero List.set_cons_succ Nat.reduceMul eq_self Int.toNat_natCast Int.natCast_nonneg and_self true_and and_true decide_true decide_false Bool.false_eq_true Nat.zero_add Nat.add_zero List.contains_cons List.contains_nil Bool.or_false Bool.false_or beq_self_eq_true Nat.reduceBEq ne_eq not_true_eq_false not_false_eq_true Id.mk.injEq false_and and_false Nat.reduceLT Int.reduceLE Int.reduceLT Int.reduceToNat Int.reduceNeg Int.reduceAdd Nat.le_refl List.length_append beq_true beq_false Bool.not_eq_eq_eq_not or_false false_or dX ae aj aJ bq bG cr aY bf aW bp cR bB
end Go.Proofs.YtgoelphibofcmaaGreat.V

namespace Go.Proofs.YtgoelphibofcmaaGreat.V
open Go.RowKit
attribute [local irreducible] dQ wpOps fX Call
attribute [local go_sem] aQ fM eU fY fW dm upd cG K.av cQ AV.cells AV.cell rowOf rowsOf part ld rowAt bQ cC dE ea gZ bS dh eo fV fj dB ef dd dc dS dU b4 bj cV bW cY cW ec eh ee cU ck de eb bV aU da cK gY bx cP cj bd dv bl dG AV.undef bH bK dW dZ dO dL cN ek eu cJ ej ei cZ db List.getD_cons_zero List.getD_cons_succ List.getD_nil List.all_cons List.all_nil Bool.and_true Bool.true_and Bool.and_self Bool.not_true Bool.not_false Option.map_some Option.map_none Option.bind_some Option.bind_none List.length_cons List.length_nil List.take_succ_cons List.take_zero List.take_nil List.drop_succ_cons List.drop_zero List.drop_nil List.head?_cons List.map_cons List.map_nil List.getElem?_cons_zero List.getElem?_cons_succ List.cons_append List.nil_append List.append_nil List.length_map List.set_cons_zero List.set_cons_succ Nat.reduceMul eq_self Int.toNat_natCast Int.natCast_nonneg and_self true_and and_true decide_true decide_false Bool.false_eq_true Nat.zero_add Nat.add_zero List.contains_cons List.contains_nil Bool.or_false Bool.false_or beq_self_eq_true Nat.reduceBEq ne_eq not_true_eq_false not_false_eq_true Id.mk.injEq false_and and_false Nat.reduceLT Int.reduceLE Int.reduceLT Int.reduceToNat Int.reduceNeg Int.reduceAdd Nat.le_refl List.length_append beq_true beq_false Bool.not_eq_eq_eq_not or_false false_or dX ae aj aJ bq bG cr aY bf aW bp cR bB
end Go.Proofs.YtgoelphibofcmaaGreat.V

namespace Go.Proofs.YtgoelphibofcmaaGreat.V
open Go.RowKit
attribute [local irreducible] dQ wpOps fX Call
attribute [local go_sem] aQ fM eU fY fW dm upd cG K.av cQ AV.cells AV.cell rowOf rowsOf part ld rowAt bQ cC dE ea gZ bS dh eo fV fj dB ef dd dc dS dU b4 bj cV bW cY cW ec eh ee cU ck de eb bV aU da cK gY bx cP cj bd dv bl dG AV.undef bH bK dW dZ dO dL cN ek eu cJ ej ei cZ db List.getD_cons_zero List.getD_cons_succ List.getD_nil List.all_cons List.all_nil Bool.and_true Bool.true_and Bool.and_self Bool.not_true Bool.not_false Option.map_some Option.map_none Option.bind_some Option.bind_none List.length_cons List.length_nil List.take_succ_cons List.take_zero List.take_nil List.drop_succ_cons List.drop_zero List.drop_nil List.head?_cons List.map_cons List.map_nil List.getElem?_cons_zero List.getElem?_cons_succ List.cons_append List.nil_append List.append_nil List.length_map List.set_cons_zero List.set_cons_succ Nat.reduceMul eq_self Int.toNat_natCast Int.natCast_nonneg and_self true_and and_true decide_true decide_false Bool.false_eq_true Nat.zero_add Nat.add_zero List.contains_cons List.contains_nil Bool.or_false Bool.false_or beq_self_eq_true Nat.reduceBEq ne_eq not_true_eq_false not_false_eq_true Id.mk.injEq false_and and_false Nat.reduceLT Int.reduceLE Int.reduceLT Int.reduceToNat Int.reduceNeg Int.reduceAdd Nat.le_refl List.length_append beq_true beq_false Bool.not_eq_eq_eq_not or_false false_or dX ae aj aJ bq bG cr aY bf aW bp cR bB
structure Rl (g:Rows) (n:Nat) (A S C c T O:Id) (s:aw) (l:List ab):Prop where
 a:∃b,g A=some ⟨b,1,[[.sl (l.map aa)]]⟩
 sy:∃b,g S=some ⟨b,4,[ar s]⟩
 p:∃b,g C=some ⟨b,1,[[.ptr c 0 0]]⟩
 Es:BO g n c T O s l
 av:A.bE<n
 sv:S.bE<n
 pv:C.bE<n
theorem Rl.ro {g:Rows} {n:Nat} {A S C c T O:Id} {s:aw} {l:List ab} (h:Rl g n A S C c T O s l):Rl (V.ro g) n A S C c T O s l:=by
 obtain⟨b,h1⟩:=h.a
 obtain⟨b2,h2⟩:=h.sy
 obtain⟨b3,h3⟩:=h.p
 exact⟨⟨false,by simp[V.ro,h1]⟩,⟨false,by simp[V.ro,h2]⟩,⟨false,by simp[V.ro,h3]⟩,h.Es.ro,h.av,h.sv,h.pv⟩
theorem Rl.frame {g g':Rows} {n n':Nat} {A S C c T O:Id} {s:aw} {l:List ab} (h:Rl g n A S C c T O s l) (hn:n<=n') (hf:∀x:Id,x.bE<n->g' x=g x):Rl g' n' A S C c T O s l:=
 ⟨by rw[hf _ h.av];exact h.a,by rw[hf _ h.sv];exact h.sy,by rw[hf _ h.pv];exact h.p,h.Es.frame hn (hf _ h.Es.cv) (hf _ h.Es.tv),Nat.lt_of_lt_of_le h.av hn,Nat.lt_of_lt_of_le h.sv hn,Nat.lt_of_lt_of_le h.pv hn⟩
end Go.Proofs.YtgoelphibofcmaaGreat.V

namespace Go.Proofs.YtgoelphibofcmaaGreat.V
open Go.RowKit
attribute [local irreducible] dQ wpOps fX Call
attribute [local go_sem] aQ fM eU fY fW dm upd cG K.av cQ AV.cells AV.cell rowOf rowsOf part ld rowAt bQ cC dE ea gZ bS dh eo fV fj dB ef dd dc dS dU b4 bj cV bW cY cW ec eh ee cU ck de eb bV aU da cK gY bx cP cj bd dv bl dG AV.undef bH bK dW dZ dO dL cN ek eu cJ ej ei cZ db List.getD_cons_zero List.getD_cons_succ List.getD_nil List.all_cons List.all_nil Bool.and_true Bool.true_and Bool.and_self Bool.not_true Bool.not_false Option.map_some Option.map_none Option.bind_some Option.bind_none List.length_cons List.length_nil List.take_succ_cons List.take_zero List.take_nil List.drop_succ_cons List.drop_zero List.drop_nil List.head?_cons List.map_cons List.map_nil List.getElem?_cons_zero List.getElem?_cons_succ List.cons_append List.nil_append List.append_nil List.length_map List.set_cons_zero List.set_cons_succ Nat.reduceMul eq_self Int.toNat_natCast Int.natCast_nonneg and_self true_and and_true decide_true decide_false Bool.false_eq_true Nat.zero_add Nat.add_zero List.contains_cons List.contains_nil Bool.or_false Bool.false_or beq_self_eq_true Nat.reduceBEq ne_eq not_true_eq_false not_false_eq_true Id.mk.injEq false_and and_false Nat.reduceLT Int.reduceLE Int.reduceLT Int.reduceToNat Int.reduceNeg Int.reduceAdd Nat.le_refl List.length_append beq_true beq_false Bool.not_eq_eq_eq_not or_false false_or dX ae aj aJ bq bG cr aY bf aW bp cR bB
def jd (p:aM->Bool) (l:List aM):List aM:=l.filter fun x=> !p x
theorem rF {p:aM->Bool} {l:List aM} {j:Nat} (hj:j<l.length):jd p (l.take (j+1))=jd p (l.take j)++if p l[j]=true then[]else[l[j]]:=by
 unfold jd
 rw[List.take_succ_eq_append_getElem hj,List.filter_append]
 congr 1
 cases h:p l[j]<;>simp[h]
theorem Fc {p:aM->Bool} {l:List aM} (h:∀b∈l,p b=false):jd p l=l:=by
 unfold jd
 rw[List.filter_eq_self]
 intro b hb
 rw[h b hb];rfl
structure L3 (p:aM->Bool) (bs:List aM) (j:Nat) (R:List aM):Prop where
 len:R.length=bs.length
 pre:R.take (jd p (bs.take j)).length=jd p (bs.take j)
 post:∀x,j<=x->R[x]? =bs[x]?
 lt:(jd p (bs.take j)).length<j
theorem L3.start {p:aM->Bool} {bs:List aM} {i:Nat} (hi:i<bs.length) (hw:p bs[i]=true) (hp:∀x (h:x<i),p bs[x]=false):L3 p bs (i+1) bs/\(jd p (bs.take (i+1))).length=i:=by
 have h1:jd p (bs.take i)=bs.take i:=Fc fun b hb=>by
  obtain⟨x,hx,rfl⟩:=List.getElem_of_mem hb
  rw[List.length_take]at hx
  rw[List.getElem_take]
  exact hp x (by omega)
 have h2:jd p (bs.take (i+1))=bs.take i:=by rw[rF hi,if_pos hw,List.append_nil,h1]
 have h3:(bs.take i).length=i:=by rw[List.length_take];omega
 exact⟨⟨rfl,by rw[h2,h3],fun _ _=>rfl,by rw[h2,h3];omega⟩,by rw[h2,h3]⟩
theorem L3.TM {p:aM->Bool} {bs R:List aM} {j:Nat} (h:L3 p bs j R) (hj:j<bs.length) (hw:p bs[j]=true):L3 p bs (j+1) R/\(jd p (bs.take (j+1))).length=(jd p (bs.take j)).length:=by
 have h2:jd p (bs.take (j+1))=jd p (bs.take j):=by rw[rF hj,if_pos hw,List.append_nil]
 exact⟨⟨h.len,by rw[h2];exact h.pre,fun x hx=>h.post x (by omega),by rw[h2];have:=h.lt;omega⟩,by rw[h2]⟩
theorem L3.rE {p:aM->Bool} {bs R:List aM} {j:Nat} (h:L3 p bs j R) (hj:j<bs.length) (hw:p bs[j]=false):L3 p bs (j+1) (R.set (jd p (bs.take j)).length bs[j])/\(jd p (bs.take (j+1))).length=(jd p (bs.take j)).length+1:=by
 have h2:jd p (bs.take (j+1))=jd p (bs.take j)++[bs[j]]:=by rw[rF hj,hw];rfl
 have ew:=h.lt
 have hlen:=h.len
 have u9:=h.pre
 generalize hc:(jd p (bs.take j)).length=c at *
 refine⟨⟨by rw[List.length_set];exact hlen,?_,fun x hx=>?_,by rw[h2,List.length_append,hc];simp;omega⟩,by rw[h2,List.length_append,hc];rfl⟩
 ·rw[h2,List.length_append,hc,List.length_singleton,List.take_succ_eq_append_getElem (by rw[List.length_set];omega),List.getElem_set_self,List.take_set_of_le (Nat.le_refl _),u9]
 ·rw[List.getElem?_set_ne (by omega)];exact h.post x (by omega)
theorem L3.at_ {p:aM->Bool} {bs R:List aM} {j:Nat} (h:L3 p bs j R) (hj:j<bs.length):(R.map ah)[j]? =some (ah bs[j]):=by
 rw[List.getElem?_map,h.post j (Nat.le_refl j),List.getElem?_eq_getElem hj];rfl
end Go.Proofs.YtgoelphibofcmaaGreat.V

namespace Go.Proofs.YtgoelphibofcmaaGreat.V
open Go.RowKit
attribute [local irreducible] dQ wpOps fX Call
attribute [local go_sem] aQ fM eU fY fW dm upd cG K.av cQ AV.cells AV.cell rowOf rowsOf part ld rowAt bQ cC dE ea gZ bS dh eo fV fj dB ef dd dc dS dU b4 bj cV bW cY cW ec eh ee cU ck de eb bV aU da cK gY bx cP cj bd dv bl dG AV.undef bH bK dW dZ dO dL cN ek eu cJ ej ei cZ db List.getD_cons_zero List.getD_cons_succ List.getD_nil List.all_cons List.all_nil Bool.and_true Bool.true_and Bool.and_self Bool.not_true Bool.not_false Option.map_some Option.map_none Option.bind_some Option.bind_none List.length_cons List.length_nil List.take_succ_cons List.take_zero List.take_nil List.drop_succ_cons List.drop_zero List.drop_nil List.head?_cons List.map_cons List.map_nil List.getElem?_cons_zero List.getElem?_cons_succ List.cons_append List.nil_append List.append_nil List.length_map List.set_cons_zero List.set_cons_succ Nat.reduceMul eq_self Int.toNat_natCast Int.natCast_nonneg and_self true_and and_true decide_true decide_false Bool.false_eq_true Nat.zero_add Nat.add_zero List.contains_cons List.contains_nil Bool.or_false Bool.false_or beq_self_eq_true Nat.reduceBEq ne_eq not_true_eq_false not_false_eq_true Id.mk.injEq false_and and_false Nat.reduceLT Int.reduceLE Int.reduceLT Int.reduceToNat Int.reduceNeg Int.reduceAdd Nat.le_refl List.length_append beq_true beq_false Bool.not_eq_eq_eq_not or_false false_or dX ae aj aJ bq bG cr aY bf aW bp cR bB
structure n9 (n:Nat) (px:Nat->Option Nat) (L:Nat->Nat):Prop where
 top:∀k,k<n->px k=none->L k=k
 up:∀k j,k<n->px k=some j->j<k/\L j=L k
theorem n9.root {n:Nat} {px:Nat->Option Nat} {L:Nat->Nat} (h:n9 n px L) (hL:jU L) {k:Nat} (hk:k<n) (hr:L k=k):px k=none:=by
 rcases hp:px k with _|j
 ·rfl
 ·obtain⟨h1,h2⟩:=h.up k j hk hp
  have:=hL.le j
  omega
theorem n9.start (n:Nat):n9 n (fun _=>none) id:=⟨fun _ _ _=>rfl,fun _ _ _ h=>by cases h⟩
theorem n9.join {n:Nat} {px:Nat->Option Nat} {L:Nat->Nat} (h:n9 n px L) (hL:jU L) (b:PB) (ew:min (L b.a) (L b.b)<max (L b.a) (L b.b)):n9 n (fun k=>if k=max (L b.a) (L b.b)then some (min (L b.a) (L b.b))else px k) (fa L b):=by
 have ha:=hL.idem b.a
 have hb:=hL.idem b.b
 have AE:L (min (L b.a) (L b.b))=min (L b.a) (L b.b):=by
  rcases Nat.le_total (L b.a) (L b.b)with h|h
  ·rw[Nat.min_eq_left h,ha]
  ·rw[Nat.min_eq_right h,hb]
 have SU:L (max (L b.a) (L b.b))=max (L b.a) (L b.b):=by
  rcases Nat.le_total (L b.a) (L b.b)with h|h
  ·rw[Nat.max_eq_right h,hb]
  ·rw[Nat.max_eq_left h,ha]
 unfold fa
 generalize min (L b.a) (L b.b)=lo at *
 generalize max (L b.a) (L b.b)=hi at *
 refine⟨fun k hk hp=>?_,fun k j hk hp=>?_⟩
 ·by_cases Me:k=hi
  ·rw[if_pos Me]at hp;cases hp
  ·rw[if_neg Me]at hp
   have:=h.top k hk hp
   rw[if_neg (by omega)];exact this
 ·by_cases Me:k=hi
  ·rw[if_pos Me]at hp
   cases hp
   subst Me
   exact⟨ew,by rw[if_neg (by omega),if_pos SU,AE]⟩
  ·rw[if_neg Me]at hp
   obtain⟨h1,h2⟩:=h.up k j hk hp
   exact⟨h1,by rw[h2]⟩
theorem AK {L:Nat->Nat} {b:PB} (h:L b.a=L b.b):fa L b=L:=by
 funext k
 unfold fa
 rw[h,Nat.max_self,Nat.min_self]
 split
 ·rename_i h;exact h.symm
 ·rfl
def tD (G:Nat->Id) (px:Nat->Option Nat) (k:Nat):List AV:=[match px k with|none=>.gT|some j=>.ptr (G j) 0 0,.int .i64 (k:Int)]
def uM (g:Rows) (G:Nat->Id) (n:Nat) (px:Nat->Option Nat):Prop:=∀k,k<n->g (G k)=some ⟨true,2,[tD G px k]⟩
theorem uM.frame {g g':Rows} {G:Nat->Id} {n:Nat} {px:Nat->Option Nat} (h:uM g G n px) (hf:∀k,k<n->g' (G k)=g (G k)):uM g' G n px:=fun k hk=>(hf k hk).trans (h k hk)
theorem lY {G:Nat->Id} {px:Nat->Option Nat} {k:Nat} (h:px k=none):tD G px k=[.gT,.int .i64 (k:Int)]:=by rw[tD,h]
theorem uw {G:Nat->Id} {px:Nat->Option Nat} {k j:Nat} (h:px k=some j):tD G px k=[.ptr (G j) 0 0,.int .i64 (k:Int)]:=by rw[tD,h]
theorem As (G:Nat->Id) (n:Nat) (px:Nat->Option Nat) (L:Nat->Nat) (h:n9 n px L) (k:Nat) (hk:k<n) (σ:au) (hG:uM σ.get G n px):
  Call Tryz.prog 262 [.ptr (G k) 0 0] σ fun r σ'=>r=.ptr (G (L k)) 0 0/\σ'.get=σ.get/\σ.next<=σ'.next:=by
 refine eJ eF rfl fun hl=>?_
 clear hl
 (try((repeat(revert hN;revert N;apply Pn.out));refine wk @Nat.zero_add ?_;(repeat(refine Pn.mk ?_;intro N hN))))
 refine aZ (fun m env st=>∃j:Nat,m=j/\j<n/\env 0=.ptr (G j) 0 0/\L j=L k/\st.get=σ.get/\σ.next<=st.next) k ⟨k,rfl,hk,sd @Nat.zero_add,rfl,by(try dsimp only),by(try dsimp only);omega⟩ ?_
 rintro m env_b st_b ⟨j,rfl,hj,b0,hLj,hg,hle⟩ fK
 clear fK
 have gn:=hG m hj
 rcases hp:px m with _|j
 ·rw[lY hp]at gn
  (try((repeat(revert hN;revert N;apply Pn.out));refine wk (tw @b0 (tw @hg @gn)) ?_;(repeat(refine Pn.mk ?_;intro N hN))))
  exact eV (.inl rfl) (vs:=[.ptr (G m) 0 0]) (sd @Nat.zero_add) ⟨by rw[<-hLj,h.top m hj hp];rfl,by first|trivial|rfl|exact hg,by(try dsimp only);omega⟩
 ·rw[uw hp]at gn
  obtain⟨h1,h2⟩:=h.up m j hj hp
  (try((repeat(revert hN;revert N;apply Pn.out));refine wk (tw @b0 (tw @hg @gn)) ?_;(repeat(refine Pn.mk ?_;intro N hN))))
  exact⟨j,h1,j,rfl,by omega,sd @Nat.zero_add,by omega,by first|trivial|rfl|exact hg,by(try dsimp only);omega⟩
end Go.Proofs.YtgoelphibofcmaaGreat.V

namespace Go.Proofs.YtgoelphibofcmaaGreat.V
open Go.RowKit
attribute [local irreducible] dQ wpOps fX Call
attribute [local go_sem] aQ fM eU fY fW dm upd cG K.av cQ AV.cells AV.cell rowOf rowsOf part ld rowAt bQ cC dE ea gZ bS dh eo fV fj dB ef dd dc dS dU b4 bj cV bW cY cW ec eh ee cU ck de eb bV aU da cK gY bx cP cj bd dv bl dG AV.undef bH bK dW dZ dO dL cN ek eu cJ ej ei cZ db List.getD_cons_zero List.getD_cons_succ List.getD_nil List.all_cons List.all_nil Bool.and_true Bool.true_and Bool.and_self Bool.not_true Bool.not_false Option.map_some Option.map_none Option.bind_some Option.bind_none List.length_cons List.length_nil List.take_succ_cons List.take_zero List.take_nil List.drop_succ_cons List.drop_zero List.drop_nil List.head?_cons List.map_cons List.map_nil List.getElem?_cons_zero List.getElem?_cons_succ List.cons_append List.nil_append List.append_nil List.length_map List.set_cons_zero List.set_cons_succ eq_self Int.toNat_natCast Int.natCast_nonneg and_self true_and and_true decide_true decide_false Bool.false_eq_true Nat.zero_add Nat.add_zero List.contains_cons List.contains_nil Bool.or_false Bool.false_or beq_self_eq_true ne_eq not_true_eq_false not_false_eq_true Id.mk.injEq false_and and_false Nat.le_refl List.length_append beq_true beq_false Bool.not_eq_eq_eq_not or_false false_or dX ae aj aJ bq bG cr aY bf aW bp cR bB
abbrev mI:MK:=⟨false,[.tI]⟩
def tN (l:List (Nat×Nat)):List (List AV):=l.map fun p=>[.int .i64 (p.1:Int),.int .i64 (p.2:Int)]
theorem CL (r:Nat):∀(l:List (Nat×Nat)) (i:Nat),((∀p∈l,p.1≠r)->gz mI [.int .i64 (r:Int)] (tN l) i=some none)/\(∀j v,l[j]? =some (r,v)->(∀x y,x<j->l[x]? =some y->y.1≠r)->gz mI [.int .i64 (r:Int)] (tN l) i=some (some (i+j)))
 |[],i=>⟨fun _=>rfl,fun j v h=>by simp at h⟩
 |p::l,i=>by
  obtain⟨h1,h2⟩:=CL r l (i+1)
  by_cases h:p.1=r
  ·refine⟨fun hp=>absurd h (hp p (by simp)),fun j v hj hf=>?_⟩
   have Uz:j=0:=by
    rcases Nat.eq_zero_or_pos j with h0|h0
    ·exact h0
    ·exact absurd h (hf 0 p h0 (by simp))
   subst Uz
   simp[tN,gz,fj,fV,MK.ks,h]
  ·have hd:¬((r:Int)=(p.1:Int)):=by omega
   have mT:¬r=p.1:=fun he=>h he.symm
   have step:gz mI [.int .i64 (r:Int)] (tN (p::l)) i=gz mI [.int .i64 (r:Int)] (tN l) (i+1):=by
    unfold tN
    simp[gz,MK.ks,fj,fV,hd,mT,h]
   rw[step]
   refine⟨fun hp=>h1 fun q hq=>hp q (by simp[hq]),fun j v hj hf=>?_⟩
   cases j with
   |zero=>simp at hj;rw[hj]at h;exact absurd rfl h
   |succ j=>
    rw[h2 j v (by simpa using hj) fun x y hx hy=>hf (x+1) y (by omega) (by simpa using hy)]
    congr 2;omega
theorem zr {r:Nat} {l:List (Nat×Nat)}:((∀p∈l,p.1≠r)->gi mI (.int .i64 (r:Int)) (tN l)=some none)/\(∀j v,l[j]? =some (r,v)->(∀x y,x<j->l[x]? =some y->y.1≠r)->gi mI (.int .i64 (r:Int)) (tN l)=some (some j)):=by
 have e:gi mI (.int .i64 (r:Int)) (tN l)=gz mI [.int .i64 (r:Int)] (tN l) 0:=by
  unfold gi
  rw[if_pos ⟨rfl,rfl,rfl⟩];rfl
 obtain⟨h1,h2⟩:=CL r l 0
 rw[e]
 exact⟨h1,fun j v hj hf=>by rw[h2 j v hj hf,Nat.zero_add]⟩
def lp (k:Nat) (L:Nat->Nat):List (List AV):=tN (leads k L).zipIdx
theorem Fg {k:Nat} {L:Nat->Nat} (h:L k=k):lp (k+1) L=lp k L++[[.int .i64 (k:Int),.int .i64 ((leads k L).length:Int)]]:=by
 unfold lp
 rw[im,if_pos h,List.zipIdx_append]
 simp[tN]
theorem Ff {k:Nat} {L:Nat->Nat} (h:L k≠k):lp (k+1) L=lp k L:=by
 unfold lp
 rw[im,if_neg h,List.append_nil]
theorem HZ {k:Nat} {L:Nat->Nat} (h:L k=k):gi mI (.int .i64 (k:Int)) (lp k L)=some none:=by
 refine zr.1 fun p hp=>?_
 have:=List.fst_mem_of_mem_zipIdx hp
 have:=(zz.1 this).1
 omega
theorem zy {n:Nat} {L:Nat->Nat} {x y:Nat} (hx:x<(leads n L).length) (hy:y<(leads n L).length) (h:(leads n L)[x]=(leads n L)[y]):x=y:=by
 have hp:=List.pairwise_iff_getElem.1 (uD n L)
 rcases Nat.lt_trichotomy x y with ew|he|ew
 ·exact absurd h (hp x y hx hy ew)
 ·exact he
 ·exact absurd h.symm (hp y x hy hx ew)
theorem zx {k:Nat} {L:Nat->Nat} (hL:jU L) (h:L k≠k):gi mI (.int .i64 (L k:Int)) (lp k L)=some (some (cD L k))/\(lp k L)[cD L k]? =some [.int .i64 (L k:Int),.int .i64 (cD L k:Int)]/\cD L k<(leads k L).length:=by
 have ew:L k<k:=Nat.lt_of_le_of_ne (hL.le k) h
 have hn:cD L (L k)=cD L k:=by rw[cD,hL.idem,cD]
 have hg:=pZ hL ew
 rw[hn,hL.idem]at hg
 have hl:cD L k<(leads k L).length:=(List.getElem?_eq_some_iff.1 hg).1
 have hz:(leads k L).zipIdx[cD L k]? =some (L k,cD L k):=by simp[List.getElem?_zipIdx,hg]
 refine⟨zr.2 _ _ hz fun x y hx hy=>?_,by unfold lp tN;rw[List.getElem?_map,hz];rfl,hl⟩
 intro he
 rw[List.getElem?_zipIdx]at hy
 have RL:x<(leads k L).length:=by omega
 rw[List.getElem?_eq_getElem RL]at hy
 simp at hy
 rw[<-hy]at he
 simp at he
 have e2:(leads k L)[cD L k]=L k:=(List.getElem?_eq_some_iff.1 hg).2
 have:=zy RL hl (he.trans e2.symm)
 omega
def j4 (k:Nat) (L:Nat->Nat):List (List Nat):=(leads k L).map (members k L)
theorem re (k:Nat) (L:Nat->Nat):(j4 k L).length=(leads k L).length:=by simp[j4]
theorem EF {k:Nat} {L:Nat->Nat} (hL:jU L) (h:L k=k):j4 (k+1) L=j4 k L++[[k]]:=by
 unfold j4
 rw[im,if_pos h,List.map_append,List.map_cons,List.map_nil,jJ,if_pos h,nL hL (Nat.le_refl k),List.nil_append]
 congr 1
 refine List.map_congr_left fun r hr=>?_
 have:=(zz.1 hr).1
 rw[jJ,if_neg (by omega),List.append_nil]
theorem EG {k:Nat} {L:Nat->Nat} (hL:jU L) (h:L k≠k):(j4 k L)[cD L k]? =some (members k L (L k))/\j4 (k+1) L=(j4 k L).set (cD L k) (members k L (L k)++[k]):=by
 obtain⟨_,_,hl⟩:=zx hL h
 have ew:L k<k:=Nat.lt_of_le_of_ne (hL.le k) h
 have hg:=pZ hL ew
 have hn:cD L (L k)=cD L k:=by rw[cD,hL.idem,cD]
 rw[hn,hL.idem]at hg
 refine⟨by unfold j4;rw[List.getElem?_map,hg];rfl,?_⟩
 unfold j4
 rw[im,if_neg h,List.append_nil]
 refine List.ext_getElem? fun i=>?_
 rw[List.getElem?_set,List.getElem?_map,List.length_map]
 by_cases hi:cD L k=i
 ·subst hi
  rw[if_pos rfl,if_pos hl,hg,Option.map_some,jJ,if_pos rfl]
 ·rw[if_neg hi,List.getElem?_map]
  rcases hr:(leads k L)[i]? with _|r
  ·rfl
  ·rw[Option.map_some,Option.map_some,jJ,if_neg,List.append_nil]
   rintro rfl
   obtain⟨kF,he⟩:=List.getElem?_eq_some_iff.1 hr
   have e2:(leads k L)[cD L k]=L k:=(List.getElem?_eq_some_iff.1 hg).2
   exact hi (zy hl kF (e2.trans he.symm))
theorem C5 (k:Nat) (L:Nat->Nat) (r:Nat):(members k L r).length<=k:=by
 have:=List.length_filter_le (fun x=>L x==r) (List.range k)
 simpa[members]using this
def G6 (g:Rows) (o:Id) (L:List (List Nat)) (nx:Nat):Prop:=∃rows ids,g o=some ⟨true,1,rows⟩/\eQ Rj g rows L ids/\ids.Nodup/\(∀i∈ids,i.site=240026008/\i.bE<nx)/\o.site=240025002/\o.bE<nx
theorem G6.frame {g g':Rows} {o:Id} {L:List (List Nat)} {nx v7:Nat} (h:G6 g o L nx) (hn:nx<=v7) (hf:∀i:Id,(i.site=240026008∨i.site=240025002)->i.bE<nx->g' i=g i):G6 g' o L v7:=by
 obtain⟨rows,ids,h1,h2,h3,h4,h5,h6⟩:=h
 exact⟨rows,ids,(hf o (.inr h5) h6).trans h1,h2.frame Ns fun i hi=>hf i (.inl (h4 i hi).1) (h4 i hi).2,h3,fun i hi=>⟨(h4 i hi).1,by have:=(h4 i hi).2;omega⟩,h5,by omega⟩
theorem MJ {g':Rows} {v v' v7 j:Nat} (h1:g' ⟨240025002,v⟩=some ⟨true,1,[[.own ⟨240026008,v'⟩ 0 1]]⟩) (h2:g' ⟨240026008,v'⟩=some ⟨true,1,[eN j]⟩) (hv:v<v7) (oI:v'<v7):G6 g' ⟨240025002,v⟩ [[j]] v7:=
 ⟨_,[⟨240026008,v'⟩],h1,.one ⟨_,rfl,h2,rfl⟩,by simp,fun i hi=>by rw[List.mem_singleton.1 hi];exact⟨rfl,oI⟩,rfl,hv⟩
theorem G6.new {g:Rows} {o:Id} {L:List (List Nat)} {nx:Nat} (h:G6 g o L nx) (j:Nat):∃rows,g o=some ⟨true,1,rows⟩/\rows.length=L.length/\∀(g':Rows) (v v' v7:Nat),nx<=v'->v<v7->v'<v7->g' ⟨240025002,v⟩=some ⟨true,1,rows++[[.own ⟨240026008,v'⟩ 0 1]]⟩->g' ⟨240026008,v'⟩=some ⟨true,1,[eN j]⟩->(∀i:Id,i.site=240026008->i.bE<nx->g' i=g i)->G6 g' ⟨240025002,v⟩ (L++[[j]]) v7:=by
 obtain⟨rows,ids,h1,h2,h3,h4,h5,h6⟩:=h
 refine⟨rows,h1,h2.len,fun g' v v' v7 hv zo Qn q1 q2 q3=>⟨_,ids++[⟨240026008,v'⟩],q1,(h2.frame Ns fun i hi=>q3 i (h4 i hi).1 (h4 i hi).2).app (.one ⟨_,rfl,q2,rfl⟩),?_,fun i hi=>?_,rfl,zo⟩⟩
 ·refine List.nodup_append.2 ⟨h3,by simp,fun a ha b hb rh=>?_⟩
  rw[List.mem_singleton.1 hb]at rh
  have:=(h4 a ha).2
  rw[rh]at this
  simp only at this
  omega
 ·rcases List.mem_append.1 hi with hi|hi
  ·have:=h4 i hi;exact⟨this.1,by omega⟩
  ·rw[List.mem_singleton.1 hi];exact⟨rfl,Qn⟩
theorem G6.add {g:Rows} {o:Id} {L:List (List Nat)} {nx k:Nat} {La:List Nat} (h:G6 g o L nx) (hk:L[k]? =some La) (j:Nat):∃rows id,g o=some ⟨true,1,rows⟩/\rows.length=L.length/\rows[k]? =some [.own id 0 La.length]/\g id=some ⟨true,1,La.map eN⟩/\id.site=240026008/\id.bE<nx/\∀(g':Rows) (v' v7:Nat),nx<=v'->v'<v7->g' o=some ⟨true,1,rows.set k [.own ⟨240026008,v'⟩ 0 (La.length+1)]⟩->g' ⟨240026008,v'⟩=some ⟨true,1,La.map eN++[[.int .i64 (j:Int)]]⟩->(∀i:Id,i.site=240026008->i.bE<nx->(i=id)=False->g' i=g i)->G6 g' o (L.set k (La++[j])) v7:=by
 obtain⟨rows,ids,h1,h2,h3,h4,h5,h6⟩:=h
 have kT:k<L.length:=(List.getElem?_eq_some_iff.1 hk).1
 have VB:=lj hk kT
 obtain⟨cs,ic,dC,Rq,SO,xo⟩:=h2.TD Ns h3 k kT
 rw[VB]at Rq
 obtain⟨id,rfl,q1,rfl⟩:=Rq
 have hid:=h4 id (SO id (by simp))
 refine⟨rows,id,h1,h2.len,dC,q1,hid.1,hid.2,fun g' v' v7 hv zo r1 r2 r3=>?_⟩
 obtain⟨E8,s1,s2,s3⟩:=xo g' [.own ⟨240026008,v'⟩ 0 (La.length+1)] (La++[j]) [⟨240026008,v'⟩] ⟨_,by simp,by rw[r2];simp[eN],rfl⟩ (fun i hi UF=>r3 i (h4 i hi).1 (h4 i hi).2 (by
  simp only[eq_iff_iff,iff_false];rintro rfl;exact UF (by simp))) (by simp) fun i hi hc=>by
   rw[List.mem_singleton.1 hi]at hc
   have:=(h4 _ hc).2
   simp only at this
   omega
 refine⟨_,E8,r1,s1,s2,fun i hi=>?_,h5,by omega⟩
 rcases s3 i hi with h|h
 ·rw[List.mem_singleton.1 h];exact⟨rfl,zo⟩
 ·have:=h4 i h;exact⟨this.1,by omega⟩
def mC (G:Nat->Id) (n k:Nat):List (List AV):=(List.range n).map fun i=>[if i<k then .ptr (G i) 0 0 else .gT]
theorem np (G:Nat->Id) (n k:Nat):(mC G n k).length=n:=by simp[mC]
theorem ID (G:Nat->Id) (n:Nat):List.replicate n [AV.gT]=mC G n 0:=by
 refine List.ext_getElem? fun i=>?_
 by_cases h:i<n
 ·rw[List.getElem?_replicate,if_pos h];simp[mC,h]
 ·rw[List.getElem?_eq_none (by simp;omega),List.getElem?_eq_none (by rw[np];omega)]
theorem x8 {G:Nat->Id} {n i:Nat} (h:i<n):(mC G n n)[i]? =some [.ptr (G i) 0 0]:=by simp[mC,h]
theorem LD {G:Nat->Id} {n k:Nat} (h:k<n):(mC G n k).set k [.ptr (G k) 0 0]=mC G n (k+1):=by
 refine List.ext_getElem? fun i=>?_
 rw[List.getElem?_set,np]
 by_cases hi:k=i
 ·subst hi;rw[if_pos rfl,if_pos h];simp[mC,h]
 ·rw[if_neg hi]
  by_cases fe:i<n
  ·simp only[mC,List.getElem?_map,List.getElem?_range fe,Option.map_some]
   by_cases zk:i<k
   ·rw[if_pos zk,if_pos (by omega)]
   ·rw[if_neg zk,if_neg (by omega)]
  ·rw[List.getElem?_eq_none (by rw[np];omega),List.getElem?_eq_none (by rw[np];omega)]
end Go.Proofs.YtgoelphibofcmaaGreat.V

namespace Go.Proofs.YtgoelphibofcmaaGreat.V
open Go.RowKit
attribute [local irreducible] dQ wpOps fX Call
attribute [local go_sem] aQ fM eU fY fW dm upd cG K.av cQ AV.cells AV.cell rowOf rowsOf part ld rowAt bQ cC dE ea gZ bS dh eo fV fj dB ef dd dc dS dU b4 bj cV bW cY cW ec eh ee cU ck de eb bV aU da cK gY bx cP cj bd dv bl dG AV.undef bH bK dW dZ dO dL cN ek eu cJ ej ei cZ db List.getD_cons_zero List.getD_cons_succ List.getD_nil List.all_cons List.all_nil Bool.and_true Bool.true_and Bool.and_self Bool.not_true Bool.not_false Option.map_some Option.map_none Option.bind_some Option.bind_none List.length_cons List.length_nil List.take_succ_cons List.take_zero List.take_nil List.drop_succ_cons List.drop_zero List.drop_nil List.head?_cons List.map_cons List.map_nil List.getElem?_cons_zero List.getElem?_cons_succ List.cons_append List.nil_append List.append_nil List.length_map List.set_cons_zero List.set_cons_succ Nat.reduceMul eq_self Int.toNat_natCast Int.natCast_nonneg and_self true_and and_true decide_true decide_false Bool.false_eq_true Nat.zero_add Nat.add_zero List.contains_cons List.contains_nil Bool.or_false Bool.false_or beq_self_eq_true Nat.reduceBEq ne_eq not_true_eq_false not_false_eq_true Id.mk.injEq false_and and_false Nat.reduceLT Int.reduceLE Int.reduceLT Int.reduceToNat Int.reduceNeg Int.reduceAdd Nat.le_refl List.length_append beq_true beq_false Bool.not_eq_eq_eq_not or_false false_or dX ae aj aJ bq bG cr aY bf aW bp cR bB
theorem iw {o:Id} {a:Nat} (h:o.site=a) {b v:Nat} (rh:(a==b)=false):(o=⟨b,v⟩)=False/\((⟨b,v⟩:Id)=o)=False:=by
 have h1:=Bb h (v:=v) rh
 refine⟨h1,?_⟩
 simp only[eq_iff_iff,iff_false]at h1 ⊢
 exact fun h=>h1 h.symm
theorem xe (cnt:Nat) (rm:1<=cnt) (hn:cnt<=1048576) (bs:List PB) (hb:∀b∈bs,b.a<cnt/\b.b<cnt) (qE:bs.length<=1048576):aq Tryz.prog 240 [.int .i64 cnt,.sl (bs.map aH)] (.sl ((fN cnt (eO bs)).map BC)):=by
 intro n0
 refine Jb Pf rfl fun hl=>?_
 try simp only[q]
 clear hl
 have jW:(0:Int)<=(cnt:Int):=by omega
 have nw:(cnt:Int)<=((16777216:Nat):Int):=by omega
 obtain⟨G,hG⟩:∃G:Nat->Id,G=fun k=>⟨240005004,n0+3+4*k+2⟩:=⟨_,rfl⟩
 have Ug:∀k,(G k).site=240005004:=fun k=>by rw[hG]
 have Vv:∀k,(G k).bE=n0+3+4*k+2:=fun k=>by rw[hG]
 have Vt:∀i j,i≠j->(G i=G j)=False:=fun i j h=>by
  simp only[eq_iff_iff,iff_false]
  intro he
  have h1:=Vv i
  rw[he,Vv j]at h1
  omega
 have MN:∀i s v,(240005004==s)=false->(G i=⟨s,v⟩)=False:=fun i s v h=>Bb (Ug i) h
 have hz:=ID G cnt
 (try((repeat(revert hN;revert N;apply Pn.out));refine wk (tw @jW (tw @nw (tw @Int.le_refl @hz))) ?_;(repeat(refine Pn.mk ?_;intro N hN))))
 refine aZ (fun n env st=>∃k:Nat,n=(cnt)-k/\k<=(cnt)/\env 21=.int .i64 (k:Int)/\st.get ⟨240001001,n0+1⟩=some ⟨true,1,mC G cnt k⟩/\(st.next=n0+3+4*k/\∀j:Nat,j<k->st.get (G j)=some ⟨true,2,[[.gT,.int .i64 (j:Int)]]⟩)) (cnt) ⟨0,by omega,by omega,sl @hz,sl @hz,⟨rfl,fun j hj=>by omega⟩⟩ ?_
 rintro n_a env_a st_a ⟨k,rfl,ale,a21,ag0,jO⟩ dy
 have a0:=dy 0 (by kernel_rfl);have a1:=dy 1 (by kernel_rfl);have a5:=dy 5 (by kernel_rfl);have Ef:=dy 19 (by kernel_rfl);have a20:=dy 20 (by kernel_rfl)
 simp only[go_sem, ↓reduceIte,Nat.reduceEqDiff,Nat.reduceAdd,Nat.reduceSub,Nat.reduceLeDiff,reduceCtorEq,hz]at a0 a1 a5 Ef a20
 clear dy
 obtain⟨jO,kj⟩:=jO
 by_cases hk:(k:Int)<(cnt:Int)
 ·have cw:∀{e:Env} {gg:Rows} {nx:Nat},(e 21=.int .i64 (IntKind.i64.wrap ((k:Int)+1)))->(gg ⟨240001001,n0+1⟩=some ⟨true,1,mC G cnt (k+1)⟩)->(nx=n0+3+4*(k+1)/\∀j:Nat,j<(k+1)->gg (G j)=some ⟨true,2,[[.gT,.int .i64 (j:Int)]]⟩)->∃m0,m0<(cnt)-k/\∃k:Nat,m0=(cnt)-k/\k<=(cnt)/\e 21=.int .i64 (k:Int)/\gg ⟨240001001,n0+1⟩=some ⟨true,1,mC G cnt k⟩/\(nx=n0+3+4*k/\∀j:Nat,j<k->gg (G j)=some ⟨true,2,[[.gT,.int .i64 (j:Int)]]⟩):=fun x1 x2 x3=>⟨_,by omega,k+1,rfl,by omega,(by rw[x1,aD (by omega)]),x2,x3⟩
  have fP:k<cnt:=by omega
  have tl:=np G cnt k
  have eL:=LD (G:=G) fP
  have eX:(mC G cnt k)[k]? =some [.gT]:=by simp[mC,fP]
  have Ue:(⟨240005004,st_a.next+1+1⟩:Id)=G k:=by rw[hG,jO]
  have hGf:∀j,j<k->(G j=G k)=False:=fun j hj=>Vt j k (by omega)
  have Az:∀j,(G j=(⟨240001001,n0+1⟩:Id))=False:=fun j=>MN j _ _ (by decide)
  have EJ:∀j,((⟨240001001,n0+1⟩:Id)=G j)=False:=fun j=>by
   have:=Az j
   simp only[eq_iff_iff,iff_false]at this ⊢
   exact fun h=>this h.symm
  (try((repeat(revert hN;revert N;apply Pn.out));refine wk (tw @a21 (tw @ag0 (tw @a0 (tw @a1 (tw @a5 (tw @Ef (tw @a20 (tw @hk (tw @tl (tw @Ue (tw @Az (tw @EJ (tw @eL @eX))))))))))))) ?_;(repeat(refine Pn.mk ?_;intro N hN))))
  refine cw ?_ ?_ (by
   refine⟨by(try dsimp only)<;>omega,fun j hj=>?_⟩
   by_cases xj:j=k
   ·subst xj;simp only[go_sem, ↓reduceIte,Nat.reduceEqDiff,Nat.reduceAdd,Nat.reduceSub,Nat.reduceLeDiff,reduceCtorEq,Ue,Az,EJ]
   ·have hold:=kj j (by omega)
    have gM:=hGf j (by omega)
    simp only[go_sem, ↓reduceIte,Nat.reduceEqDiff,Nat.reduceAdd,Nat.reduceSub,Nat.reduceLeDiff,reduceCtorEq,Ue,Az,EJ,gM,hold])
  all_goals simp only[go_sem, ↓reduceIte,Nat.reduceEqDiff,Nat.reduceAdd,Nat.reduceSub,Nat.reduceLeDiff,reduceCtorEq,a21,ag0,a0,a1,a5,Ef,a20,Ue,Az,EJ,eL]
 have kT:cnt=k:=by omega
 subst kT
 (try((repeat(revert hN;revert N;apply Pn.out));refine wk (tw @a21 (tw @ag0 (tw @a0 (tw @a1 (tw @a5 (tw @Ef (tw @a20 @hk))))))) ?_;(repeat(refine Pn.mk ?_;intro N hN))))
 refine aZ (fun n env st=>∃i:Nat,n=(bs.length)-i/\i<=(bs.length)/\env 33=.int .i64 (i:Int)/\st.get ⟨240001001,n0+1⟩=some ⟨true,1,mC G cnt cnt⟩/\(n0+3+4*cnt<=st.next)/\(∃px,n9 cnt px (eO (bs.take i))/\uM st.get G cnt px)) (bs.length) ⟨0,by omega,by omega,sl (tw @a21 (tw @ag0 (tw @a0 (tw @a1 (tw @a5 (tw @Ef @a20)))))),sl (tw @a21 (tw @ag0 (tw @a0 (tw @a1 (tw @a5 (tw @Ef @a20)))))),(by(try dsimp only);omega),⟨fun _=>none,n9.start cnt,kj⟩⟩ ?_
 rintro n_b env_b st_b ⟨i,rfl,ble,uP,bg0,bI0,bI1⟩ fK
 have b0:=fK 0 (by kernel_rfl);have b1:=fK 1 (by kernel_rfl);have b5:=fK 5 (by kernel_rfl);have y5:=fK 31 (by kernel_rfl);have uj:=fK 32 (by kernel_rfl)
 simp only[go_sem, ↓reduceIte,Nat.reduceEqDiff,Nat.reduceAdd,Nat.reduceSub,Nat.reduceLeDiff,reduceCtorEq,a21,ag0,a0,a1,a5,Ef,a20]at b0 b1 b5 y5 uj
 clear fK
 obtain⟨px,Mg,Uf⟩:=bI1
 have tl:=np G cnt cnt
 have Sj:∀j v,(G j=(⟨240009002,v⟩:Id))=False:=fun j v=>MN j _ v (by decide)
 have Az:∀j v,(G j=(⟨240001001,v⟩:Id))=False:=fun j v=>MN j _ v (by decide)
 have EJ:∀j v,((⟨240001001,v⟩:Id)=G j)=False:=fun j v=>by
  have:=Az j v
  simp only[eq_iff_iff,iff_false]at this ⊢
  exact fun h=>this h.symm
 have hGn:∀j,j<cnt->(G j).bE<st_b.next:=fun j hj=>by rw[Vv];omega
 by_cases hi:(i:Int)<(bs.length:Int)
 ·have fE:∀{e:Env} {gg:Rows} {nx:Nat},(e 33=.int .i64 (IntKind.i64.wrap ((i:Int)+1)))->(gg ⟨240001001,n0+1⟩=some ⟨true,1,mC G cnt cnt⟩)->(n0+3+4*cnt<=nx)->(∃px,n9 cnt px (eO (bs.take (i+1)))/\uM gg G cnt px)->∃m0,m0<(bs.length)-i/\∃i:Nat,m0=(bs.length)-i/\i<=(bs.length)/\e 33=.int .i64 (i:Int)/\gg ⟨240001001,n0+1⟩=some ⟨true,1,mC G cnt cnt⟩/\(n0+3+4*cnt<=nx)/\(∃px,n9 cnt px (eO (bs.take i))/\uM gg G cnt px):=fun x1 x2 x3 x4=>⟨_,by omega,i+1,rfl,by omega,(by rw[x1,aD (by omega)]),x2,x3,x4⟩
  have fe:i<bs.length:=by omega
  have iV:(bs.map aH)[i]? =some (aH bs[i]):=by simp[fe]
  have HB:=hb _ (List.getElem_mem fe)
  have oH:bs.take (i+1)=bs.take i++[bs[i]]:=List.take_succ_eq_append_getElem fe
  have l5:eO (bs.take (i+1))=fa (eO (bs.take i)) bs[i]:=by rw[oH,xr]
  have hL:=uC (bs.take i)
  generalize eO (bs.take i)=L at *
  generalize bs[i]=b at *
  have gA:=x8 (G:=G) HB.1
  have gB:=x8 (G:=G) HB.2
  have gW:(b.a:Int)<(cnt:Int):=by omega
  have gm:(b.b:Int)<(cnt:Int):=by omega
  (try((repeat(revert hN;revert N;apply Pn.out));refine wk (tw @uP (tw @bg0 (tw @b0 (tw @b1 (tw @b5 (tw @y5 (tw @uj (tw @hi (tw @iV (tw @aH.eq_1 (tw @gA (tw @gB (tw @gW (tw @gm @tl)))))))))))))) ?_;(repeat(refine Pn.mk ?_;intro N hN))))
  refine LW (fun e s=>e 0=.int .i64 cnt/\e 1=.sl (bs.map aH)/\e 5=.own ⟨240001001,n0+1⟩ 0 cnt/\e 31=.sl (bs.map aH)/\e 32=.int .i64 bs.length/\e 33=.int .i64 i/\e 9=.ptr (G (L b.a)) 0 0/\e 10=.ptr (G (L b.b)) 0 0/\(∀j:Id,j.bE<st_b.next->s.get j=st_b.get j)/\st_b.next<=s.next) ?_ ?_
  ·rintro e1 s1 ⟨m0,m1,m5,m31,m32,m33,m9,m10,mf,mn⟩
   refine hN _ _ ?_
   clear hN N
   have mG:uM s1.get G cnt px:=Uf.frame fun k hk=>mf _ (hGn k hk)
   have mt:=(mf ⟨240001001,n0+1⟩ (by(try dsimp only);omega)).trans bg0
   have Wa:L b.a<cnt:=Nat.lt_of_le_of_lt (hL.le _) HB.1
   have SQ:L b.b<cnt:=Nat.lt_of_le_of_lt (hL.le _) HB.2
   have ra:=mG _ Wa
   have rb:=mG _ SQ
   rw[lY (Mg.root hL Wa (hL.idem _))]at ra
   rw[lY (Mg.root hL SQ (hL.idem _))]at rb
   have put:∀(g':Rows) (lo hi:Nat),hi<cnt->g' (G hi)=some ⟨true,2,[[.ptr (G lo) 0 0,.int .i64 (hi:Int)]]⟩->(∀k,k≠hi->k<cnt->g' (G k)=s1.get (G k))->uM g' G cnt (fun k=>if k=hi then some lo else px k):=fun g' lo hi _ h1 h2 k hk=>by
    by_cases Me:k=hi
    ·subst Me;rw[h1,uw (j:=lo) (if_pos rfl)]
    ·rw[h2 k Me hk,mG k hk]
     unfold tD
     simp only[if_neg Me]
   rcases Nat.lt_trichotomy (L b.a) (L b.b)with ew|heq|ew
   ·have P7:(L b.a:Int)<(L b.b:Int):=by omega
    have hj:=Mg.join hL b (by omega)
    rw[Nat.max_eq_right (by omega),Nat.min_eq_left (by omega),<-l5]at hj
    (try((repeat(revert hN;revert N;apply Pn.out));refine wk (tw @m0 (tw @m1 (tw @m5 (tw @m31 (tw @m32 (tw @m33 (tw @m9 (tw @m10 (tw @ra (tw @rb @P7)))))))))) ?_;(repeat(refine Pn.mk ?_;intro N hN))))
    refine fE ?_ ?_ (by(try dsimp only);omega) (⟨_,hj,put _ _ _ SQ (sd @Nat.zero_add) (fun k hk _=>by
     have gM:=Vt k _ hk
     simp only[go_sem, ↓reduceIte,Nat.reduceEqDiff,Nat.reduceAdd,Nat.reduceSub,Nat.reduceLeDiff,reduceCtorEq,gM])⟩)
    all_goals simp only[go_sem, ↓reduceIte,Nat.reduceEqDiff,Nat.reduceAdd,Nat.reduceSub,Nat.reduceLeDiff,reduceCtorEq,m0,m1,m5,m31,m32,m33,mt,Az,EJ]
   ·have rm:¬(L b.a:Int)<(L b.b:Int):=by omega
    have EU:¬(L b.b:Int)<(L b.a:Int):=by omega
    have IZ:=AK heq
    rw[IZ]at l5
    (try((repeat(revert hN;revert N;apply Pn.out));refine wk (tw @m0 (tw @m1 (tw @m5 (tw @m31 (tw @m32 (tw @m33 (tw @m9 (tw @m10 (tw @ra (tw @rb (tw @rm @EU))))))))))) ?_;(repeat(refine Pn.mk ?_;intro N hN))))
    refine fE ?_ ?_ (by(try dsimp only);omega) (⟨_,l5▸Mg,mG.frame fun k hk=>rfl⟩)
    all_goals simp only[go_sem, ↓reduceIte,Nat.reduceEqDiff,Nat.reduceAdd,Nat.reduceSub,Nat.reduceLeDiff,reduceCtorEq,m0,m1,m5,m31,m32,m33,mt]
   ·have P7:(L b.b:Int)<(L b.a:Int):=by omega
    have rm:¬(L b.a:Int)<(L b.b:Int):=by omega
    have hj:=Mg.join hL b (by omega)
    rw[Nat.max_eq_left (by omega),Nat.min_eq_right (by omega),<-l5]at hj
    (try((repeat(revert hN;revert N;apply Pn.out));refine wk (tw @m0 (tw @m1 (tw @m5 (tw @m31 (tw @m32 (tw @m33 (tw @m9 (tw @m10 (tw @ra (tw @rb (tw @P7 @rm))))))))))) ?_;(repeat(refine Pn.mk ?_;intro N hN))))
    refine fE ?_ ?_ (by(try dsimp only);omega) (⟨_,hj,put _ _ _ Wa (sd @Nat.zero_add) (fun k hk _=>by
     have gM:=Vt k _ hk
     simp only[go_sem, ↓reduceIte,Nat.reduceEqDiff,Nat.reduceAdd,Nat.reduceSub,Nat.reduceLeDiff,reduceCtorEq,gM])⟩)
    all_goals simp only[go_sem, ↓reduceIte,Nat.reduceEqDiff,Nat.reduceAdd,Nat.reduceSub,Nat.reduceLeDiff,reduceCtorEq,m0,m1,m5,m31,m32,m33,mt,Az,EJ]
  ·intro N hN
   refine fD ?_ ?_<;>(try((repeat(revert hN;revert N;apply Pn.out));refine wk (tw @uP (tw @bg0 (tw @b0 (tw @b1 (tw @b5 (tw @y5 (tw @uj (tw @hi (tw @iV (tw @aH.eq_1 (tw @gA (tw @gB (tw @gW (tw @gm @tl)))))))))))))) ?_;(repeat(refine Pn.mk ?_;intro N hN))))<;>(try refine fD ?_ ?_)<;>(try((repeat(revert hN;revert N;apply Pn.out));refine wk (tw @uP (tw @bg0 (tw @b0 (tw @b1 (tw @b5 (tw @y5 (tw @uj (tw @hi (tw @iV (tw @aH.eq_1 (tw @gA (tw @gB (tw @gW (tw @gm @tl)))))))))))))) ?_;(repeat(refine Pn.mk ?_;intro N hN))))<;>(try refine fD ?_ ?_)<;>(try((repeat(revert hN;revert N;apply Pn.out));refine wk (tw @uP (tw @bg0 (tw @b0 (tw @b1 (tw @b5 (tw @y5 (tw @uj (tw @hi (tw @iV (tw @aH.eq_1 (tw @gA (tw @gB (tw @gW (tw @gm @tl)))))))))))))) ?_;(repeat(refine Pn.mk ?_;intro N hN))))
   all_goals
    refine .inr (aE _ _ _ _ _ (fun r σ1 hq=>?_) (As G cnt px L Mg b.a HB.1 _ (Uf.frame fun k hk=>sd @Sj)))
    obtain⟨g1,x1⟩:=σ1
    obtain⟨rfl,BG,HF⟩:=hq
    (try dsimp only at BG HF)
    subst BG
    refine hN _ _ ?_
    clear hN N
    (try((repeat(revert hN;revert N;apply Pn.out));refine wk (tw @uP (tw @bg0 (tw @b0 (tw @b1 (tw @b5 (tw @y5 (tw @uj (tw @hi (tw @iV (tw @aH.eq_1 (tw @gA (tw @gB (tw @gW (tw @gm @tl)))))))))))))) ?_;(repeat(refine Pn.mk ?_;intro N hN))))
    refine .inr (aE _ _ _ _ _ (fun r σ1 hq=>?_) (As G cnt px L Mg b.b HB.2 _ (Uf.frame fun k hk=>sd @Sj)))
    obtain⟨g1,x2⟩:=σ1
    obtain⟨rfl,BG,nH⟩:=hq
    (try dsimp only at BG nH)
    subst BG
    refine hN _ _ ?_
    clear hN N
    (try((repeat(revert hN;revert N;apply Pn.out));refine wk (tw @uP (tw @bg0 (tw @b0 (tw @b1 (tw @b5 (tw @y5 (tw @uj (tw @hi (tw @iV (tw @aH.eq_1 (tw @gA (tw @gB (tw @gW (tw @gm @tl)))))))))))))) ?_;(repeat(refine Pn.mk ?_;intro N hN))))
    exact⟨sd (tw @uP (tw @bg0 (tw @b0 (tw @b1 (tw @b5 (tw @y5 @uj)))))),sd (tw @uP (tw @bg0 (tw @b0 (tw @b1 (tw @b5 (tw @y5 @uj)))))),sd (tw @uP (tw @bg0 (tw @b0 (tw @b1 (tw @b5 (tw @y5 @uj)))))),sd (tw @uP (tw @bg0 (tw @b0 (tw @b1 (tw @b5 (tw @y5 @uj)))))),sd (tw @uP (tw @bg0 (tw @b0 (tw @b1 (tw @b5 (tw @y5 @uj)))))),sd (tw @uP (tw @bg0 (tw @b0 (tw @b1 (tw @b5 (tw @y5 @uj)))))),sd (tw @uP (tw @bg0 (tw @b0 (tw @b1 (tw @b5 (tw @y5 @uj)))))),sd (tw @uP (tw @bg0 (tw @b0 (tw @b1 (tw @b5 (tw @y5 @uj)))))),fun j hj=>by
     have hv:=dr hj
     simp only[go_sem, ↓reduceIte,Nat.reduceEqDiff,Nat.reduceAdd,Nat.reduceSub,Nat.reduceLeDiff,reduceCtorEq,hv],by(try dsimp only);omega⟩
 have kF:i=bs.length:=by omega
 subst kF
 rw[List.take_length]at Mg
 have hL:=uC bs
 generalize eO bs=L at *
 (try((repeat(revert hN;revert N;apply Pn.out));refine wk (tw @uP (tw @bg0 (tw @b0 (tw @b1 (tw @b5 (tw @y5 (tw @uj (tw @hi @tl)))))))) ?_;(repeat(refine Pn.mk ?_;intro N hN))))
 have l0:lp 0 L=[]:=rfl
 have oS:(none:Option Nat).isSome=false:=rfl
 have oT:∀a:Nat,(some a).isSome=true:=fun _=>rfl
 refine aZ (fun n env st=>∃x:Nat,n=(cnt)-x/\x<=(cnt)/\env 81=.int .i64 (x:Int)/\st.get ⟨240001001,n0+1⟩=some ⟨true,1,mC G cnt cnt⟩/\st.get ⟨240017000,st_b.next+1+1⟩=some ⟨true,mI.qe,lp x L⟩/\(st_b.next+3<=st.next/\uM st.get G cnt px)/\((x=0/\env 11=.bD)∨∃o:Id,env 11=.own o 0 (leads x L).length/\G6 st.get o (j4 x L) st.next)) (cnt) ⟨0,by omega,by omega,sl (tw @uP (tw @bg0 (tw @b0 (tw @b1 (tw @b5 (tw @y5 (tw @uj @l0))))))),sl (tw @uP (tw @bg0 (tw @b0 (tw @b1 (tw @b5 (tw @y5 (tw @uj @l0))))))),sl (tw @uP (tw @bg0 (tw @b0 (tw @b1 (tw @b5 (tw @y5 (tw @uj @l0))))))),⟨by(try dsimp only);omega,Uf.frame fun k hk=>by(have gM:=MN k 240017000 (st_b.next+1+1) (by decide));simp only[go_sem, ↓reduceIte,Nat.reduceEqDiff,Nat.reduceAdd,Nat.reduceSub,Nat.reduceLeDiff,reduceCtorEq,gM]⟩,.inl ⟨rfl,sd @Nat.zero_add⟩⟩ ?_
 rintro n_c env_c st_c ⟨x,rfl,cle,c81,cg0,cg1,cI0,cI1⟩ cfr
 have Al:=cfr 12 (by kernel_rfl);have Mw:=cfr 79 (by kernel_rfl);have Mx:=cfr 80 (by kernel_rfl)
 simp only[go_sem, ↓reduceIte,Nat.reduceEqDiff,Nat.reduceAdd,Nat.reduceSub,Nat.reduceLeDiff,reduceCtorEq,uP,bg0,b0,b1,b5,y5,uj,l0]at Al Mw Mx
 clear cfr
 obtain⟨tK,R4⟩:=cI0
 have PI:∀j v,(G j=(⟨240017000,v⟩:Id))=False:=fun j v=>MN j _ v (by decide)
 have PE:∀j v,(G j=(⟨240025002,v⟩:Id))=False:=fun j v=>MN j _ v (by decide)
 have PG:∀j v,(G j=(⟨240025001,v⟩:Id))=False:=fun j v=>MN j _ v (by decide)
 have PH:∀j v,(G j=(⟨240026007,v⟩:Id))=False:=fun j v=>MN j _ v (by decide)
 have PF:∀j v,(G j=(⟨240026008,v⟩:Id))=False:=fun j v=>MN j _ v (by decide)
 by_cases hx:(x:Int)<(cnt:Int)
 ·have iF:∀{e:Env} {gg:Rows} {nx:Nat},(e 81=.int .i64 (IntKind.i64.wrap ((x:Int)+1)))->(gg ⟨240001001,n0+1⟩=some ⟨true,1,mC G cnt cnt⟩)->(gg ⟨240017000,st_b.next+1+1⟩=some ⟨true,mI.qe,lp (x+1) L⟩)->(st_b.next+3<=nx/\uM gg G cnt px)->(((x+1)=0/\e 11=.bD)∨∃o:Id,e 11=.own o 0 (leads (x+1) L).length/\G6 gg o (j4 (x+1) L) nx)->∃m0,m0<(cnt)-x/\∃x:Nat,m0=(cnt)-x/\x<=(cnt)/\e 81=.int .i64 (x:Int)/\gg ⟨240001001,n0+1⟩=some ⟨true,1,mC G cnt cnt⟩/\gg ⟨240017000,st_b.next+1+1⟩=some ⟨true,mI.qe,lp x L⟩/\(st_b.next+3<=nx/\uM gg G cnt px)/\((x=0/\e 11=.bD)∨∃o:Id,e 11=.own o 0 (leads x L).length/\G6 gg o (j4 x L) nx):=fun x1 x2 x3 x4 x5=>⟨_,by omega,x+1,rfl,by omega,(by rw[x1,aD (by omega)]),x2,x3,x4,x5⟩
  have RM:x<cnt:=by omega
  have gX:=x8 (G:=G) RM
  have hlx:L x<cnt:=Nat.lt_of_le_of_lt (hL.le _) RM
  have ra:=R4 _ hlx
  rw[lY (Mg.root hL hlx (hL.idem _))]at ra
  have jc:=j7 x L
  (try((repeat(revert hN;revert N;apply Pn.out));refine wk (tw @c81 (tw @cg0 (tw @cg1 (tw @Al (tw @Mw (tw @Mx (tw @hx (tw @gX @tl)))))))) ?_;(repeat(refine Pn.mk ?_;intro N hN))))
  refine .inr (aE _ _ _ _ _ (fun r σ1 hq=>?_) (As G cnt px L Mg x RM _ (R4.frame fun k hk=>sd @Nat.zero_add)))
  obtain⟨g1,x1⟩:=σ1
  obtain⟨rfl,BG,HF⟩:=hq
  (try dsimp only at BG HF)
  subst BG
  refine hN _ _ ?_
  clear hN N
  by_cases hr:L x=x
  ·rw[hr]at ra ⊢
   have me:=HZ hr
   have P6:(leads (x+1) L).length=(leads x L).length+1:=by rw[im,if_pos hr];simp
   have RH:=Fg hr
   have Ux:=EF hL hr
   rcases cI1 with⟨rfl,oE⟩|⟨o,oE,cS⟩
   ·have Wy:lp 1 L=[[.int .i64 ((0:Nat):Int),.int .i64 ((0:Nat):Int)]]:=RH
    (try((repeat(revert hN;revert N;apply Pn.out));refine wk (tw @c81 (tw @cg0 (tw @cg1 (tw @Al (tw @Mw (tw @Mx (tw @oE (tw @ra (tw @me (tw @l0 (tw @oS (tw @oT (tw @Bool.not_false @Bool.not_true))))))))))))) ?_;(repeat(refine Pn.mk ?_;intro N hN))))
    refine iF ?_ ?_ ?_ (by(try dsimp only);exact⟨by omega,R4.frame fun k hk=>sd (tw @PI (tw @PE (tw @PF (tw @PG @PH))))⟩) (.inr ⟨⟨240025002,x1+1+1+1+1⟩,by simp only[go_sem, ↓reduceIte,Nat.reduceEqDiff,Nat.reduceAdd,Nat.reduceSub,Nat.reduceLeDiff,reduceCtorEq,P6];rfl,by rw[Ux];exact MJ (v':=x1+1+1+1+1+1) (sd @Nat.zero_add) (sd @eN.eq_1) (by(try dsimp only);omega) (by(try dsimp only);omega)⟩)
    all_goals simp only[go_sem, ↓reduceIte,Nat.reduceEqDiff,Nat.reduceAdd,Nat.reduceSub,Nat.reduceLeDiff,reduceCtorEq,c81,cg0,cg1,Al,Mw,Mx,Wy]
   ·obtain⟨rows,yH,rn,kJ⟩:=cS.new x
    rw[re]at rn
    have yK:o.site=240025002:=by obtain⟨_,_,_,_,_,_,h,_⟩:=cS;exact h
    have u7:o.bE<x1:=by obtain⟨_,_,_,_,_,_,_,h⟩:=cS;omega
    have tf:=dr u7
    have SY:=iw (o:=o) yK (b:=240017000) (v:=st_b.next+1+1) (by decide)
    have Rz:=iw (o:=o) yK (b:=240001001) (v:=n0+1) (by decide)
    have PJ:∀k,(G k=o)=False:=fun k=>by simp only[eq_iff_iff,iff_false];intro h;have h1:=Ug k;rw[h,yK]at h1;cases h1
    have tH:(rows++[[AV.bD]])[(leads x L).length]? =some [.bD]:=by rw[<-rn];simp
    have E0:∀a:List AV,(rows++[[AV.bD]]).set (leads x L).length a=rows++[a]:=fun a=>by rw[<-rn];simp
    have e1:(leads x L).length+1<=16777216:=by omega
    have e2:((leads x L).length:Int)<(((leads x L).length+1:Nat):Int):=by omega
    (try((repeat(revert hN;revert N;apply Pn.out));refine wk (tw @c81 (tw @cg0 (tw @cg1 (tw @Al (tw @Mw (tw @Mx (tw @oE (tw @ra (tw @me (tw @yH (tw @rn (tw @tf (tw @SY (tw @tH (tw @E0 (tw @e1 (tw @e2 (tw @oS (tw @oT (tw @Bool.not_false @Bool.not_true)))))))))))))))))))) ?_;(repeat(refine Pn.mk ?_;intro N hN))))
    refine iF ?_ ?_ ?_ (by(try dsimp only);exact⟨by omega,R4.frame fun k hk=>sd (tw @PI (tw @PE (tw @PF (tw @PG (tw @PH @PJ)))))⟩) (.inr ⟨⟨240025002,x1+1+1+1+1⟩,sd @P6,by rw[Ux];exact kJ _ _ (x1+1+1+1+1+1) _ (by omega) (by(try dsimp only);omega) (by(try dsimp only);omega) (sd @E0) (sd @eN.eq_1) (fun j hj hv=>by
     have q1:=dr (i:=j) (n:=x1) (by omega)
     have q2:=iw hj (b:=240017000) (v:=st_b.next+1+1) (by decide)
     have q3:(j=o)=False:=by simp only[eq_iff_iff,iff_false];intro h;rw[h,yK]at hj;cases hj
     simp only[go_sem, ↓reduceIte,Nat.reduceEqDiff,Nat.reduceAdd,Nat.reduceSub,Nat.reduceLeDiff,reduceCtorEq,q1,q2,q3])⟩)
    all_goals simp only[go_sem, ↓reduceIte,Nat.reduceEqDiff,Nat.reduceAdd,Nat.reduceSub,Nat.reduceLeDiff,reduceCtorEq,c81,cg0,cg1,Al,Mw,Mx,RH,tf,SY,Rz]
  ·obtain⟨me,DW,ew⟩:=zx hL hr
   obtain⟨SK,Ux⟩:=EG hL hr
   have P6:(leads (x+1) L).length=(leads x L).length:=by rw[im,if_neg hr];simp
   have IZ:=Ff hr
   rcases cI1 with⟨rfl,oE⟩|⟨o,oE,cS⟩
   ·exact absurd (Nat.le_zero.1 (hL.le 0)) hr
   ·obtain⟨rows,id,yH,rn,hrk,hid,Kb,hidv,VL⟩:=cS.add SK x
    rw[re]at rn
    have yK:o.site=240025002:=by obtain⟨_,_,_,_,_,_,h,_⟩:=cS;exact h
    have u7:o.bE<x1:=by obtain⟨_,_,_,_,_,_,_,h⟩:=cS;omega
    have tf:=dr u7
    have zo:=dr (i:=id) (n:=x1) (by omega)
    have iV:(cD L x:Int)<((leads x L).length:Int):=by omega
    have SU:=C5 x L (L x)
    have hma:((members x L (L x)).map eN).length=(members x L (L x)).length:=by simp
    have e1:(members x L (L x)).length+1<=16777216:=by omega
    have RA:(o=id)=False:=by simp only[eq_iff_iff,iff_false];rintro rfl;rw[Kb]at yK;cases yK
    have Rv:(id=o)=False:=by simp only[eq_iff_iff,iff_false];rintro rfl;rw[Kb]at yK;cases yK
    have SY:=iw (o:=o) yK (b:=240017000) (v:=st_b.next+1+1) (by decide)
    have Rz:=iw (o:=o) yK (b:=240001001) (v:=n0+1) (by decide)
    have hiM:=iw (o:=id) Kb (b:=240017000) (v:=st_b.next+1+1) (by decide)
    have hiT:=iw (o:=id) Kb (b:=240001001) (v:=n0+1) (by decide)
    have PJ:∀k,(G k=o)=False:=fun k=>by simp only[eq_iff_iff,iff_false];intro h;have h1:=Ug k;rw[h,yK]at h1;cases h1
    have Vu:∀k,(G k=id)=False:=fun k=>by simp only[eq_iff_iff,iff_false];intro h;have h1:=Ug k;rw[h,Kb]at h1;cases h1
    (try((repeat(revert hN;revert N;apply Pn.out));refine wk (tw @c81 (tw @cg0 (tw @cg1 (tw @Al (tw @Mw (tw @Mx (tw @oE (tw @ra (tw @me (tw @DW (tw @yH (tw @rn (tw @hrk (tw @hid (tw @tf (tw @zo (tw @iV (tw @hma (tw @e1 (tw @RA (tw @Rv (tw @SY (tw @Rz (tw @hiM (tw @hiT (tw @oS (tw @oT (tw @Bool.not_false @Bool.not_true)))))))))))))))))))))))))))) ?_;(repeat(refine Pn.mk ?_;intro N hN))))
    refine iF ?_ ?_ ?_ (by(try dsimp only);exact⟨by omega,R4.frame fun k hk=>sd (tw @PI (tw @PE (tw @PF (tw @PG (tw @PH (tw @PJ @Vu))))))⟩) (.inr ⟨o,sd (tw @P6 @oE),by rw[Ux];exact VL _ (x1+1+1) _ (by omega) (by(try dsimp only);omega) (sd @Nat.zero_add) (sd (tw @tf (tw @zo (tw @RA @Rv)))) (fun j hj hv ny=>by
     have q1:=dr (i:=j) (n:=x1) (by omega)
     have q2:=iw hj (b:=240017000) (v:=st_b.next+1+1) (by decide)
     have q3:(j=o)=False:=by simp only[eq_iff_iff,iff_false];intro h;rw[h,yK]at hj;cases hj
     simp only[go_sem, ↓reduceIte,Nat.reduceEqDiff,Nat.reduceAdd,Nat.reduceSub,Nat.reduceLeDiff,reduceCtorEq,q1,q2,q3,ny])⟩)
    all_goals simp only[go_sem, ↓reduceIte,Nat.reduceEqDiff,Nat.reduceAdd,Nat.reduceSub,Nat.reduceLeDiff,reduceCtorEq,c81,cg0,cg1,Al,Mw,Mx,IZ,tf,zo,SY,Rz,hiM,hiT]
 have WH:x=cnt:=by omega
 rcases cI1 with⟨h0,_⟩|⟨o,oE,rows,ids,yH,hR,_,_,_,_⟩
 ·omega
 have rn:=hR.len
 rw[re]at rn
 (try((repeat(revert hN;revert N;apply Pn.out));refine wk (tw @c81 (tw @cg0 (tw @cg1 (tw @Al (tw @Mw (tw @Mx (tw @hx (tw @oE @yH)))))))) ?_;(repeat(refine Pn.mk ?_;intro N hN))))
 refine xQ (.inl rfl) (by simp only[go_sem, ↓reduceIte,Nat.reduceEqDiff,Nat.reduceAdd,Nat.reduceSub,Nat.reduceLeDiff,reduceCtorEq];rfl) ?_
 rw[vL yH (by omega) (rows':=(fN cnt L).map BC) (by
  rw[List.drop_zero,List.take_of_length_le (by omega)]
  rw[WH]at hR;exact KM 3 hR)]
end Go.Proofs.YtgoelphibofcmaaGreat.V

namespace Go.Proofs.YtgoelphibofcmaaGreat.V
open Go.RowKit
attribute [local irreducible] dQ wpOps fX Call
attribute [local go_sem] aQ fM eU fY fW dm upd cG K.av cQ AV.cells AV.cell rowOf rowsOf part ld rowAt bQ cC dE ea gZ bS dh eo fV fj dB ef dd dc dS dU b4 bj cV bW cY cW ec eh ee cU ck de eb bV aU da cK gY bx cP cj bd dv bl dG AV.undef bH bK dW dZ dO dL cN ek eu cJ ej ei cZ db List.getD_cons_zero List.getD_cons_succ List.getD_nil List.all_cons List.all_nil Bool.and_true Bool.true_and Bool.and_self Bool.not_true Bool.not_false Option.map_some Option.map_none Option.bind_some Option.bind_none List.length_cons List.length_nil List.take_succ_cons List.take_zero List.take_nil List.drop_succ_cons List.drop_zero List.drop_nil List.head?_cons List.map_cons List.map_nil List.getElem?_cons_zero List.getElem?_cons_succ List.cons_append List.nil_append List.append_nil List.length_map List.set_cons_zero List.set_cons_succ Nat.reduceMul eq_self Int.toNat_natCast Int.natCast_nonneg and_self true_and and_true decide_true decide_false Bool.false_eq_true Nat.zero_add Nat.add_zero List.contains_cons List.contains_nil Bool.or_false Bool.false_or beq_self_eq_true Nat.reduceBEq ne_eq not_true_eq_false not_false_eq_true Id.mk.injEq false_and and_false Nat.reduceLT Int.reduceLE Int.reduceLT Int.reduceToNat Int.reduceNeg Int.reduceAdd Nat.le_refl List.length_append beq_true beq_false Bool.not_eq_eq_eq_not or_false false_or dX ae aj aJ bq bG cr aY bf aW bp cR bB
theorem LX (b:PB) (t:Int):aq Tryz.prog 243 [.agg (aH b),.du [.int .i64 t]] (.bool (decide (b.s<t))):=by
 refine aq.body eF rfl fun hl n0=>?_
 clear hl
 (try((repeat(revert hN;revert N;apply Pn.out));refine wk @aH.eq_1 ?_;(repeat(refine Pn.mk ?_;intro N hN))))
 exact bc (b:=decide (b.s<t)) (.inl rfl) (sd @Nat.zero_add) rfl
theorem zq (bs:List PB) (t:Int) (hl:bs.length<=1048576):aq Tryz.prog 263 [.sl (bs.map aH),.fn 243 [.du [.int .i64 t]]] (.int .i64 (gL (fun b:PB=>decide (b.s<t)) bs)):=
 pk JI (show lV Tryz.prog 263=some (tM 263 3 true) by kernel_rfl) bs hl 243 _ _ (fun x _=>LX x t) fun g=>by simp only[ae,aj,aW,Option.map_some]
theorem JF (bs:List PB) (hp:0<bs.length) (hl:bs.length<=1048576) (σ:au):
  Call Tryz.prog 242 [.sl (bs.map aH)] σ fun r σ'=>∃o:Id,r=.own o 0 bs.length/\σ'.get o=some ⟨true,3,bs.map aH⟩/\σ.next<=o.bE/\o.bE<σ'.next/\∀i:Id,i.bE<σ.next->σ'.get i=σ.get i:=by
 refine eJ eF rfl fun hl=>?_
 clear hl
 have hz:=all_map (l:=bs) OY
 obtain⟨b,r,rfl⟩:∃b r,bs=b::r:=by
  cases bs with
  |nil=>simp at hp
  |cons b r=>exact⟨b,r,rfl⟩
 have jc:(List.map aH (b::r)).length=(b::r).length:=by simp
 have e1:r.length<=16777215:=by simp at hl;omega
 rw[List.map_cons]at hz jc ⊢
 (try((repeat(revert hN;revert N;apply Pn.out));refine wk (tw @hz (tw @jc @e1)) ?_;(repeat(refine Pn.mk ?_;intro N hN))))
 refine eV (.inl rfl) (vs:=[.own ⟨242003002,σ.next+1+1⟩ 0 (b::r).length]) (by simp only[fG,iG,go_sem, ↓reduceIte,Nat.reduceEqDiff,Nat.reduceAdd,Nat.reduceSub,Nat.reduceLeDiff,reduceCtorEq,List.length_cons]) ⟨⟨242003002,σ.next+1+1⟩,rfl,sd @Nat.zero_add,by(try dsimp only);omega,by(try dsimp only);omega,fun i hi=>?_⟩
 have hv:=dr hi
 simp only[go_sem, ↓reduceIte,Nat.reduceEqDiff,Nat.reduceAdd,Nat.reduceSub,Nat.reduceLeDiff,reduceCtorEq,hv]
theorem pK {t:Int} {bs:List PB} {j:Nat} (hj:j<bs.length):aV t (bs.take (j+1))=aV t (bs.take j)++if decide (bs[j].s<t)=true then[]else[bs[j]]:=by
 rw[uK t bs j hj]
 congr 1
 by_cases h:bs[j].s<t
 ·rw[if_neg (by omega),if_pos (decide_eq_true h)]
 ·rw[if_pos (by omega),if_neg (by simp only[decide_eq_true_eq];exact h)]
theorem uJ {t:Int} {bs:List PB} (h:∀b∈bs,¬b.s<t):aV t bs=bs:=by
 unfold aV
 rw[List.filter_eq_self]
 intro b hb
 have:=h b hb
 exact decide_eq_true (by omega)
structure uL (t:Int) (bs:List PB) (j:Nat) (R:List PB):Prop where
 len:R.length=bs.length
 pre:R.take (aV t (bs.take j)).length=aV t (bs.take j)
 post:∀x,j<=x->R[x]? =bs[x]?
 lt:(aV t (bs.take j)).length<j
theorem uL.start {t:Int} {bs:List PB} {i:Nat} (hi:i<bs.length) (hw:bs[i].s<t) (hp:∀x (h:x<i),¬bs[x].s<t):uL t bs (i+1) bs/\(aV t (bs.take (i+1))).length=i:=by
 have h1:aV t (bs.take i)=bs.take i:=uJ fun b hb=>by
  obtain⟨x,hx,rfl⟩:=List.getElem_of_mem hb
  rw[List.length_take]at hx
  rw[List.getElem_take]
  exact hp x (by omega)
 have h2:aV t (bs.take (i+1))=bs.take i:=by rw[pK hi,if_pos (decide_eq_true hw),List.append_nil,h1]
 have h3:(bs.take i).length=i:=by rw[List.length_take];omega
 exact⟨⟨rfl,by rw[h2,h3],fun _ _=>rfl,by rw[h2,h3];omega⟩,by rw[h2,h3]⟩
theorem uL.TM {t:Int} {bs R:List PB} {j:Nat} (h:uL t bs j R) (hj:j<bs.length) (hw:bs[j].s<t):uL t bs (j+1) R/\(aV t (bs.take (j+1))).length=(aV t (bs.take j)).length:=by
 have h2:aV t (bs.take (j+1))=aV t (bs.take j):=by rw[pK hj,if_pos (decide_eq_true hw),List.append_nil]
 exact⟨⟨h.len,by rw[h2];exact h.pre,fun x hx=>h.post x (by omega),by rw[h2];have:=h.lt;omega⟩,by rw[h2]⟩
theorem uL.rE {t:Int} {bs R:List PB} {j:Nat} (h:uL t bs j R) (hj:j<bs.length) (hw:¬bs[j].s<t):uL t bs (j+1) (R.set (aV t (bs.take j)).length bs[j])/\(aV t (bs.take (j+1))).length=(aV t (bs.take j)).length+1:=by
 have h2:aV t (bs.take (j+1))=aV t (bs.take j)++[bs[j]]:=by rw[pK hj,if_neg (by simp only[decide_eq_true_eq];exact hw)]
 have ew:=h.lt
 have hlen:=h.len
 have u9:=h.pre
 generalize hc:(aV t (bs.take j)).length=c at *
 refine⟨⟨by rw[List.length_set];exact hlen,?_,fun x hx=>?_,by rw[h2,List.length_append,hc];simp;omega⟩,by rw[h2,List.length_append,hc];rfl⟩
 ·rw[h2,List.length_append,hc,List.length_singleton,List.take_succ_eq_append_getElem (by rw[List.length_set];omega),List.getElem_set_self,List.take_set_of_le (Nat.le_refl _),u9]
 ·rw[List.getElem?_set_ne (by omega)];exact h.post x (by omega)
theorem uL.at_ {t:Int} {bs R:List PB} {j:Nat} (h:uL t bs j R) (hj:j<bs.length):(R.map aH)[j]? =some (aH bs[j]):=by
 rw[List.getElem?_map,h.post j (Nat.le_refl j),List.getElem?_eq_getElem hj];rfl
theorem Ev {p:PB->Bool} {bs:List PB} (h:¬0<=gL p bs):∀b∈bs,p b=false:=by
 intro b hb
 unfold gL at h
 split at h
 ·omega
 ·rename_i h1
  rw[List.findIdx_lt_length]at h1
  cases hp:p b
  ·rfl
  ·exact absurd ⟨b,hb,hp⟩ h1
theorem Ew {p:PB->Bool} {bs:List PB} (h:0<=gL p bs):∃i,∃hi:i<bs.length,gL p bs=(i:Int)/\p bs[i]=true/\∀x (hx:x<i),p (bs[x]'(by omega))=false:=by
 unfold gL at h ⊢
 split
 ·rename_i h1
  exact⟨bs.findIdx p,h1,rfl,List.findIdx_getElem,fun x hx=>by simpa using List.not_of_lt_findIdx hx⟩
 ·rename_i h1;rw[if_neg h1]at h;omega
theorem Ho (bs:List PB) (t:Int) (hl:bs.length<=1048576) (o T:Id) (σ:au) (ho:σ.get o=some ⟨true,3,bs.map aH⟩) (hT:σ.get T=some ⟨true,1,[[.int .i64 t]]⟩) (u7:o.bE<σ.next) (Rr:T.bE<σ.next) (Rz:o≠T):
  Call Tryz.prog 241 [.own o 0 bs.length,.fn 243 [.ptr T 0 0]] σ fun r σ'=>∃rows,r=.own o 0 (aV t bs).length/\σ'.get o=some ⟨true,3,rows⟩/\rows.take (aV t bs).length=(aV t bs).map aH/\(aV t bs).length<=rows.length/\σ.next<=σ'.next/\∀i:Id,i.bE<σ.next->i≠o->σ'.get i=σ.get i:=by
 refine eJ eF rfl fun iQ=>?_
 clear iQ
 have BI:=zq bs t hl
 have hzT:∀(g:Rows),g T=some ⟨true,1,[[.int .i64 t]]⟩->V.fz (dX g) 5 (.ptr T 0 0)=some (.du [.int .i64 t]):=fun g hg=>xb (sz:=1) (rows:=[[.int .i64 t]]) (by simp[dX,hg]) rfl (by simp only[List.drop_zero,ae,aj,aJ,Option.map_some])
 have BL:∀(g:Rows),g T=some ⟨true,1,[[.int .i64 t]]⟩->g o=some ⟨true,3,bs.map aH⟩->dt (dX g) 6 [.own o 0 bs.length,.fn 243 [.ptr T 0 0]]=some [.sl (bs.map aH),.fn 243 [.du [.int .i64 t]]]:=fun g h1 h2=>by
  have q1:=il (g:=dX g) (n:=5) (e:=aH) (sz:=3) (len:=bs.length) (l:=bs) (id:=o) (by simp[dX,h2]) rfl fun b=>Au _ 4 b
  have q2:=hzT g h1
  simp only[ae,aj,q1,cR,List.all_cons,List.all_nil,AV.cell,Bool.and_true,if_true,q2,Option.map_some]
 have k6:∀(g:Rows),g T=some ⟨true,1,[[.int .i64 t]]⟩->∀b:PB,dt (dX g) 6 [.agg (aH b),.ptr T 0 0]=some [.agg (aH b),.du [.int .i64 t]]:=fun g h1 b=>by
  have q3:V.fz (dX g) 6 (.ptr T 0 0)=some (.du [.int .i64 t]):=xb (sz:=1) (rows:=[[.int .i64 t]]) (by simp[dX,h1]) rfl (by simp only[List.drop_zero,ae,aj,aJ,Option.map_some])
  simp only[ae,aj,bf,Au,q3,Option.map_some]
 (try((repeat(revert hN;revert N;apply Pn.out));refine wk @Nat.zero_add ?_;(repeat(refine Pn.mk ?_;intro N hN))))
 refine .inl ⟨_,aq.x BI (BL _ hT ho),?_⟩
 refine hN _ _ ?_
 clear hN N
 by_cases h0:0<=gL (fun b:PB=>decide (b.s<t)) bs
 ·obtain⟨i,hi,IX,hpi,M7⟩:=Ew h0
  rw[IX]at *
  have M0:decide ((i:Int)= -1)=false:=decide_eq_false (by omega)
  have Qp:IntKind.i64.wrap ((i:Int)+1)=((i+1:Nat):Int):=aD (by omega)
  obtain⟨dJ,E0⟩:=uL.start (t:=t) hi (by simpa using hpi) (fun x hx=>by simpa using M7 x hx)
  (try((repeat(revert hN;revert N;apply Pn.out));refine wk (tw @M0 @Qp) ?_;(repeat(refine Pn.mk ?_;intro N hN))))
  refine aZ (fun m env st=>∃(j:Nat) (R:List PB),m=bs.length-j/\env 6=.int .i64 (j:Int)/\env 5=.int .i64 ((aV t (bs.take j)).length:Int)/\st.get o=some ⟨true,3,R.map aH⟩/\uL t bs j R/\j<=bs.length/\σ.next<=st.next/\∀x:Id,x.bE<σ.next->(x=o)=False->st.get x=σ.get x) (bs.length-(i+1)) ⟨i+1,bs,rfl,sd @Qp,sd @E0,sd @ho,dJ,by omega,by(try dsimp only);omega,fun x _ _=>sd @Nat.zero_add⟩ ?_
  rintro m env_b st_b ⟨j,R,rfl,b6,b5,bg,hD,iA,hle,jH⟩ fK
  have b0:=fK 0 (by kernel_rfl)
  have b1:=fK 1 (by kernel_rfl)
  simp only[go_sem, ↓reduceIte,Nat.reduceEqDiff,Nat.reduceAdd,Nat.reduceSub,Nat.reduceLeDiff,reduceCtorEq]at b0 b1
  clear fK
  have bT:=(jH T Rr (by simp only[eq_iff_iff,iff_false];exact fun h=>Rz h.symm)).trans hT
  have qv:=dr (i:=o) (n:=st_b.next) (by omega)
  have WC:=dr (i:=T) (n:=st_b.next) (by omega)
  have hRl:=hD.len
  have VH:(R.map aH).length=bs.length:=by rw[List.length_map,hRl]
  have ew:=hD.lt
  by_cases hj:(j:Int)<(bs.length:Int)
  ·have iK:j<bs.length:=by omega
   have BH:=hD.at_ iK
   have Qq:=LX bs[j] t
   have OE:IntKind.i64.wrap ((j:Int)+1)=((j+1:Nat):Int):=aD (by omega)
   have hD1:=hD.TM iK
   have hD2:=hD.rE iK
   generalize bs[j]=b at *
   (try((repeat(revert hN;revert N;apply Pn.out));refine wk (tw @b0 (tw @b1 (tw @b5 (tw @b6 (tw @bg (tw @hj (tw @BH (tw @aH.eq_1 (tw @qv (tw @WC @VH)))))))))) ?_;(repeat(refine Pn.mk ?_;intro N hN))))
   refine .inl ⟨_,aq.x Qq (k6 _ (sd (tw @WC @bT)) b),?_⟩
   refine hN _ _ ?_
   clear hN N
   by_cases hw:b.s<t
   ·obtain⟨Vr,Vq⟩:=hD1 hw
    have hd:decide (b.s<t)=true:=decide_eq_true hw
    (try((repeat(revert hN;revert N;apply Pn.out));refine wk (tw @b0 (tw @b1 (tw @b5 (tw @b6 (tw @hd @OE))))) ?_;(repeat(refine Pn.mk ?_;intro N hN))))
    refine⟨_,?_,j+1,R,rfl,sd @OE,sd (tw @b5 @Vq),sd (tw @bg @qv),Vr,by omega,by(try dsimp only);omega,fun x hx I4=>?_⟩
    ·omega
    ·have RI:=dr (i:=x) (n:=st_b.next) (by omega)
     have:=jH x hx I4
     simp only[go_sem, ↓reduceIte,Nat.reduceEqDiff,Nat.reduceAdd,Nat.reduceSub,Nat.reduceLeDiff,reduceCtorEq,RI,this]
   ·obtain⟨Vr,Vq⟩:=hD2 hw
    have hd:decide (b.s<t)=false:=decide_eq_false hw
    have VO:((aV t (bs.take j)).length:Int)<(bs.length:Int):=by omega
    have hwc:IntKind.i64.wrap (((aV t (bs.take j)).length:Int)+1)=(((aV t (bs.take j)).length+1:Nat):Int):=aD (by omega)
    have eL:(R.map aH).set (aV t (bs.take j)).length [.int .i64 (b.a:Int),.int .i64 (b.b:Int),.int .i64 b.s]=(R.set (aV t (bs.take j)).length b).map aH:=by rw[List.map_set];rfl
    have Uw:∃y,(R.map aH)[(aV t (bs.take j)).length]? =some (aH y):=⟨R[(aV t (bs.take j)).length]'(by omega),by rw[List.getElem?_map,List.getElem?_eq_getElem (by omega)];rfl⟩
    obtain⟨y,Uw⟩:=Uw
    rw[aH]at Uw
    (try((repeat(revert hN;revert N;apply Pn.out));refine wk (tw @b0 (tw @b1 (tw @b5 (tw @b6 (tw @bg (tw @hd (tw @OE (tw @hwc (tw @VO (tw @eL (tw @Uw (tw @qv (tw @WC @VH))))))))))))) ?_;(repeat(refine Pn.mk ?_;intro N hN))))
    refine⟨_,?_,j+1,_,rfl,sd @OE,sd (tw @hwc @Vq),sd @eL,Vr,by omega,by(try dsimp only);omega,fun x hx I4=>?_⟩
    ·omega
    ·have RI:=dr (i:=x) (n:=st_b.next) (by omega)
     have:=jH x hx I4
     simp only[go_sem, ↓reduceIte,Nat.reduceEqDiff,Nat.reduceAdd,Nat.reduceSub,Nat.reduceLeDiff,reduceCtorEq,RI,this,I4]
  ·have iA:j=bs.length:=by omega
   subst iA
   have u9:=hD.pre
   rw[List.take_length]at b5 ew u9
   have VO:((aV t bs).length:Int)<=(bs.length:Int):=by omega
   have Uq:(aV t bs).length<=bs.length:=by omega
   have rq:(aV t bs).length+(bs.length-(aV t bs).length)=bs.length:=by omega
   have E0:=nS t bs
   (try((repeat(revert hN;revert N;apply Pn.out));refine wk (tw @b0 (tw @b1 (tw @b5 (tw @b6 (tw @bg (tw @hj (tw @VH (tw @VO (tw @Uq (tw @rq (tw @Nat.le_refl (tw @Nat.sub_zero (tw @Int.le_refl @qv))))))))))))) ?_;(repeat(refine Pn.mk ?_;intro N hN))))
   refine eV (.inl rfl) (vs:=[.own o 0 (aV t bs).length]) (sd @Nat.zero_add) ⟨_,rfl,by simp only[go_sem, ↓reduceIte,Nat.reduceEqDiff,Nat.reduceAdd,Nat.reduceSub,Nat.reduceLeDiff,reduceCtorEq];rfl,?_,?_,by(try dsimp only);omega,fun x hx I4=>?_⟩
   ·have hm:List.take (aV t bs).length (List.map aH R)=(aV t bs).map aH:=by rw[<-List.map_take,u9]
    rw[hm,List.append_assoc,List.take_append_of_le_length (by simp),List.take_of_length_le (by simp)]
   ·have hm:List.take (aV t bs).length (List.map aH R)=(aV t bs).map aH:=by rw[<-List.map_take,u9]
    rw[hm]
    simp only[List.length_append,List.length_map]
    omega
   ·have Tg:(x=o)=False:=by simp only[eq_iff_iff,iff_false];exact I4
    have:=jH x hx Tg
    simp only[go_sem, ↓reduceIte,Nat.reduceEqDiff,Nat.reduceAdd,Nat.reduceSub,Nat.reduceLeDiff,reduceCtorEq,Tg,this]
 ·have hn:=Ev h0
  have dJ:=uJ (t:=t) (bs:=bs) fun b hb=>by simpa using hn b hb
  have hd:decide (gL (fun b:PB=>decide (b.s<t)) bs= -1)=true:=decide_eq_true (by
   unfold gL at h0 ⊢
   split
   ·rename_i h;rw[if_pos h]at h0;omega
   ·rfl)
  (try((repeat(revert hN;revert N;apply Pn.out));refine wk @hd ?_;(repeat(refine Pn.mk ?_;intro N hN))))
  refine eV (.inl rfl) (vs:=[.own o 0 bs.length]) (sd @Nat.zero_add) ⟨bs.map aH,by rw[dJ];rfl,sd @ho,by rw[dJ,List.take_of_length_le (by simp)],by rw[dJ];simp,by(try dsimp only);omega,fun x _ _=>rfl⟩
end Go.Proofs.YtgoelphibofcmaaGreat.V

namespace Go.Proofs.YtgoelphibofcmaaGreat.V
open Go.RowKit
attribute [local irreducible] dQ wpOps fX Call
attribute [local go_sem] aQ fM eU fY fW dm upd cG K.av cQ AV.cells AV.cell rowOf rowsOf part ld rowAt bQ cC dE ea gZ bS dh eo fV fj dB ef dd dc dS dU b4 bj cV bW cY cW ec eh ee cU ck de eb bV aU da cK gY bx cP cj bd dv bl dG AV.undef bH bK dW dZ dO dL cN ek eu cJ ej ei cZ db List.getD_cons_zero List.getD_cons_succ List.getD_nil List.all_cons List.all_nil Bool.and_true Bool.true_and Bool.and_self Bool.not_true Bool.not_false Option.map_some Option.map_none Option.bind_some Option.bind_none List.length_cons List.length_nil List.take_succ_cons List.take_zero List.take_nil List.drop_succ_cons List.drop_zero List.drop_nil List.head?_cons List.map_cons List.map_nil List.getElem?_cons_zero List.getElem?_cons_succ List.cons_append List.nil_append List.append_nil List.length_map List.set_cons_zero List.set_cons_succ Nat.reduceMul eq_self Int.toNat_natCast Int.natCast_nonneg and_self true_and and_true decide_true decide_false Bool.false_eq_true Nat.zero_add Nat.add_zero List.contains_cons List.contains_nil Bool.or_false Bool.false_or beq_self_eq_true Nat.reduceBEq ne_eq not_true_eq_false not_false_eq_true Id.mk.injEq false_and and_false Nat.reduceLT Int.reduceLE Int.reduceLT Int.reduceToNat Int.reduceNeg Int.reduceAdd Nat.le_refl List.length_append beq_true beq_false Bool.not_eq_eq_eq_not or_false false_or dX ae aj aJ bq bG cr aY bf aW bp cR bB
end Go.Proofs.YtgoelphibofcmaaGreat.V

namespace Go.Proofs.YtgoelphibofcmaaGreat.V
open Go.RowKit
attribute [local irreducible] dQ wpOps fX Call
attribute [local go_sem] aQ fM eU fY fW dm upd cG K.av cQ AV.cells AV.cell rowOf rowsOf part ld rowAt bQ cC dE ea gZ bS dh eo fV fj dB ef dd dc dS dU b4 bj cV bW cY cW ec eh ee cU ck de eb bV aU da cK gY bx cP cj bd dv bl dG AV.undef bH bK dW dZ dO dL cN ek eu cJ ej ei cZ db List.getD_cons_zero List.getD_cons_succ List.getD_nil List.all_cons List.all_nil Bool.and_true Bool.true_and Bool.and_self Bool.not_true Bool.not_false Option.map_some Option.map_none Option.bind_some Option.bind_none List.length_cons List.length_nil List.take_succ_cons List.take_zero List.take_nil List.drop_succ_cons List.drop_zero List.drop_nil List.head?_cons List.map_cons List.map_nil List.getElem?_cons_zero List.getElem?_cons_succ List.cons_append List.nil_append List.append_nil List.length_map List.set_cons_zero List.set_cons_succ Nat.reduceMul eq_self Int.toNat_natCast Int.natCast_nonneg and_self true_and and_true decide_true decide_false Bool.false_eq_true Nat.zero_add Nat.add_zero List.contains_cons List.contains_nil Bool.or_false Bool.false_or beq_self_eq_true Nat.reduceBEq ne_eq not_true_eq_false not_false_eq_true Id.mk.injEq false_and and_false Nat.reduceLT Int.reduceLE Int.reduceLT Int.reduceToNat Int.reduceNeg Int.reduceAdd Nat.le_refl List.length_append beq_true beq_false Bool.not_eq_eq_eq_not or_false false_or dX ae aj aJ bq bG cr aY bf aW bp cR bB
end Go.Proofs.YtgoelphibofcmaaGreat.V

namespace Go.Proofs.YtgoelphibofcmaaGreat.V
open Go.RowKit Go.Shelf
attribute [local go_sem] Oper.semAt_some
structure qn (W:World) (v:Value) (l:List ab):Prop where
 sl:∃A c,v=.slice A l.length c/\(l.length<=c/\c<=maxLen)/\(l=[]∨∃b o,A=some ⟨b,o,none⟩/\∀i,i<l.length->W.cell? ⟨b,o+(i*3+0),none⟩=some (.int .i64 (aA l i).aL.fc)/\W.cell? ⟨b,o+(i*3+1),none⟩=some (.int .i64 (aA l i).aL.eR)/\W.cell? ⟨b,o+(i*3+2),none⟩=some (.int .i64 (aA l i).aT))
structure Jf (K:World->World->Prop) (v:Value) (l:List ab):Prop where
 refl:∀W,K W W
 trans:∀{A B C:World},K A B->K B C->K A C
 of:∀{W W':World},Below W.heap.size W W'->K W W'
 size:∀{W W':World},K W W'->W.heap.size<=W'.heap.size
 typed:∀{W W':World},K W W'->∀(b:Nat) (cells:Array Value) (T:TypeId) (fr:Nat×Nat),W.heap[b]? =some (Obj.cells cells T fr)->T≠226->T≠246->W'.heap[b]? =W.heap[b]?
 pl:∀{W W':World},K W W'->qn W v l->qn W' v l
theorem vz {W:World} {b x:Nat} {v:Value} (h:W.cell? ⟨b,x,none⟩=some v):b<W.heap.size:=by
 rcases Nat.lt_or_ge b W.heap.size with h1|h1
 ·exact h1
 ·simp[World.cell?,Array.getElem?_eq_none h1]at h
theorem qn.below {W W':World} {v:Value} {l:List ab} (h:qn W v l) (k:Below W.heap.size W W'):qn W' v l:=by
 obtain⟨A,c,rfl,hm,hc⟩:=h.sl
 refine⟨A,c,rfl,hm,?_⟩
 rcases hc with h0|⟨b,o,rfl,kP⟩
 ·exact .inl h0
 ·refine .inr ⟨b,o,rfl,fun i hi=>?_⟩
  obtain⟨h1,h2,h3⟩:=kP i hi
  have hb:=vz h1
  exact⟨(k.cell (p:=⟨b,_,none⟩) hb).trans h1,(k.cell (p:=⟨b,_,none⟩) hb).trans h2,(k.cell (p:=⟨b,_,none⟩) hb).trans h3⟩
theorem qn.eZ {P:Program} {W:World} {v:Value} {l:List ab} (h:qn W v l):j0 P W (fun b=>b<W.heap.size) (.sl (l.map aa)) v:=by
 obtain⟨A,c,rfl,hm,hc⟩:=h.sl
 rcases hc with rfl|⟨b,o,rfl,kP⟩
 ·exact .BM A c (by simpa using hm.2)
 by_cases Oq:l=[]
 ·subst Oq;exact .BM _ c (by simpa using hm.2)
 ·have kK:0<l.length:=List.length_pos_iff.2 Oq
  have hb:=vz (kP 0 kK).1
  refine .sl (l.map aa) b o l.length c 3 (fun i j=>if j=0 then .int .i64 (aA l i).aL.fc else if j=1 then .int .i64 (aA l i).aL.eR else .int .i64 (aA l i).aT) (by simp) hm.1 hm.2 hb (fun cs dC=>?_) (fun cs dC a ha=>?_) (fun i j hi hj=>?_) (fun i j cs a hi hj=>?_)
  ·obtain⟨x,_,rfl⟩:=List.mem_map.1 dC;rfl
  ·obtain⟨x,_,rfl⟩:=List.mem_map.1 dC
   simp[aa]at ha
   rcases ha with rfl|rfl|rfl<;>rfl
  ·obtain⟨h1,h2,h3⟩:=kP i hi
   match j,hj with
   |0,_=>exact h1
   |1,_=>exact h2
   |2,_=>exact h3
   |j+3,hj=>omega
  ·have kF:i<l.length:=by have:=(List.getElem?_eq_some_iff.1 hi).1;simpa using this
   rw[fw kF]at hi
   injection hi with hi
   subst hi
   match j,hj with
   |0,hj=>simp[aa]at hj;subst hj;exact .int _ _
   |1,hj=>simp[aa]at hj;subst hj;exact .int _ _
   |2,hj=>simp[aa]at hj;subst hj;exact .int _ _
   |j+3,hj=>simp[aa]at hj
theorem B7 {P:Program} (hm:P.follows .mixedOrders=true) {f:Nat} {args:List AV} {vs:Array Value} {w:World} {r:AV} (h:aq P f args r) (hr:∀g r0,gK g 6 r0=some r->r0=r) (hA:fF P w (fun b=>b<w.heap.size) (fun _=>none) args vs):
  Calls P f vs w fun e w'=>∃D ι u,e=.returned u/\di P w' D ι r u/\Below w.heap.size w w':=by
 have hs:=gG hm (h 0) w.heap.size (fun b=>b<w.heap.size) (fun _=>none) w vs ⟨Nat.le_refl _,fun _ h=>h,fun id r h=>(by cases h),fun id kf r r' B B' h=>(by cases h)⟩ (fun id h=>absurd rfl h) hA
 refine hs.mono ?_
 rintro e w' ⟨r0,g',n',D',ι',u,rfl,⟨r',hz,rfl⟩,dJ,hsim,_,_,gH⟩
 have:=hr _ _ hz
 subst this
 exact⟨D',ι',u,rfl,gH,dJ.below⟩
theorem pg {g:Rows} {n:Nat} {a:AV} {k:IntKind} {m:Int} (h:gK g (n+1) a=some (.int k m)):a=.int k m:=by
 cases a<;>rw[gK]at h<;>simp_all
 all_goals (repeat' (split at h))<;>simp_all
theorem EE {g:Rows} {a:AV} {x y:Int} (h:gK g 6 a=some (.agg [.int .i64 x,.int .i64 y])):a=.agg [.int .i64 x,.int .i64 y]:=by
 cases a with
 |agg cs=>
  rw[vK]at h
  simp only[Option.map_eq_some_iff,AV.agg.injEq,exists_eq_right]at h
  match cs,h with
  |[],h=>rw[cz]at h;simp at h
  |[a],h=>
   rw[bt,cz]at h
   cases ha:gK g 5 a<;>simp[ha]at h
  |[a,b],h=>
   rw[bt,bt,cz]at h
   cases ha:gK g 5 a<;>cases hb:gK g 5 b<;>simp[ha,hb]at h
   obtain⟨rfl,rfl⟩:=h
   rw[pg ha,pg hb]
  |a::b::c::r,h=>
   rw[bt,bt,bt]at h
   cases ha:gK g 5 a<;>cases hb:gK g 5 b<;>cases hc:gK g 5 c<;>cases hd:eI g 5 r<;>simp[ha,hb,hc,hd]at h
 |_=>rw[gK]at h<;>simp_all<;>(repeat' (split at h))<;>simp_all
theorem FK (W:World) (p:aM) (d:Int) (hd:jl d 0 3=true) (hx:iB p.fc) (hy:iB p.eR):Calls Tryz.prog 149 #[.agg #[.int .i64 p.fc,.int .i64 p.eR],.int .i64 d] W fun e W'=>e=.returned (.agg #[.int .i64 (cH p d).fc,.int .i64 (cH p d).eR])/\Below W.heap.size W W':=by
 refine(B7 mixed (xX p d hd hx hy) (fun g r0 h=>EE h) ?_:Calls _ _ _ _ _).mono ?_
 ·exact kC (vs:= #[.int .i64 d]) (.agg _ _ (fun j=>if j=0 then .int .i64 p.fc else .int .i64 p.eR) rfl (fun a ha=>by simp[ah]at ha;rcases ha with rfl|rfl<;>rfl) (fun j hj=>by match j,hj with|0,_=>rfl|1,_=>rfl|j+2,hj=>simp[ah]at hj;omega) (fun j a ha=>by match j,ha with|0,ha=>simp[ah]at ha;subst ha;exact .int _ _|1,ha=>simp[ah]at ha;subst ha;exact .int _ _|j+2,ha=>simp[ah]at ha)) (kC (vs:= #[]) (.int _ _) xM)
 ·rintro e W' ⟨D,ι,u,rfl,hr,hB⟩
  refine⟨?_,hB⟩
  obtain⟨vs,f,rfl,fH,_,h1,h2⟩:=jh hr
  have v0:=h1 0 (by simp[ah])
  have v1:=h1 1 (by simp[ah])
  rw[dD (h2 0 _ rfl)]at v0
  rw[dD (h2 1 _ rfl)]at v1
  obtain⟨vl⟩:=vs
  match vl,fH with
  |[a,b],_=>
   simp at v0 v1
   rw[v0,v1]
theorem yS (W:World) (l:List ab) (v:Value) (hP:qn W v l) (p:aM) (hR:qo l) (MM:l.length<=1048576):Calls Tryz.prog 265 #[.agg #[v],.agg #[.int .i64 p.fc,.int .i64 p.eR]] W fun e W'=>e=.returned (.int .i64 (eY l p))/\Below W.heap.size W W':=by
 refine(B7 mixed (Im l p hR MM) (fun g r0 h=>pg h) ?_:Calls _ _ _ _ _).mono ?_
 ·exact kC (vs:= #[.agg #[.int .i64 p.fc,.int .i64 p.eR]]) (.agg _ _ (fun _=>v) rfl (fun a ha=>by simp at ha;rw[ha];rfl) (fun j hj=>by match j,hj with|0,_=>rfl|j+1,hj=>simp at hj) (fun j a ha=>by match j,ha with|0,ha=>simp at ha;subst ha;exact hP.eZ|j+1,ha=>simp at ha)) (kC (vs:= #[]) (.agg _ _ (fun j=>if j=0 then .int .i64 p.fc else .int .i64 p.eR) rfl (fun a ha=>by simp[ah]at ha;rcases ha with rfl|rfl<;>rfl) (fun j hj=>by match j,hj with|0,_=>rfl|1,_=>rfl|j+2,hj=>simp[ah]at hj;omega) (fun j a ha=>by match j,ha with|0,ha=>simp[ah]at ha;subst ha;exact .int _ _|1,ha=>simp[ah]at ha;subst ha;exact .int _ _|j+2,ha=>simp[ah]at ha)) xM)
 ·rintro e W' ⟨D,ι,u,rfl,hr,hB⟩
  exact⟨by rw[dD hr],hB⟩
theorem grown_of {W W':World} (h:Below W.heap.size W W'):W.grownBy W' none:=⟨h.os,h.tape,h.output,h.size,fun k hk _=>h.block k hk⟩
def Db (l:List ab) (i:Nat) (d:Int):List (Nat×Nat×Int):=if 0<=eY l (cH (aA l i).aL d)then[(i,(eY l (cH (aA l i).aL d)).toNat,d)]else[]
def lu (l:List ab) (i m:Nat):List (Nat×Nat×Int):=(List.range m).flatMap fun j:Nat=>Db l i (1-(j:Int))
def lQ (l:List ab) (n:Nat):List (Nat×Nat×Int):=(List.range n).flatMap fun i=>lu l i 2
theorem mZ (l:List ab) (n:Nat):lQ l (n+1)=lQ l n++lu l n 2:=by simp[lQ,List.range_succ]
theorem nO (l:List ab) (i m:Nat):lu l i (m+1)=lu l i m++Db l i (1-(m:Int)):=by simp[lu,List.range_succ]
theorem Qz (l:List ab) {k m:Nat} (hk:k<l.length) (hm:m<=2):lQ l k++lu l k m <+:lQ l l.length:=by
 have h1:∀d,lQ l k <+:lQ l (k+d):=fun d=>by
  induction d with
  |zero=>exact List.prefix_refl _
  |succ d ih=>rw[<-Nat.add_assoc,mZ l (k+d)];exact ih.trans (List.prefix_append _ _)
 have h2:∀d,lQ l (k+1) <+:lQ l (k+1+d):=fun d=>by
  induction d with
  |zero=>exact List.prefix_refl _
  |succ d ih=>rw[<-Nat.add_assoc,mZ l (k+1+d)];exact ih.trans (List.prefix_append _ _)
 have h3:=h2 (l.length-(k+1))
 rw[show k+1+(l.length-(k+1))=l.length by omega,mZ]at h3
 refine List.IsPrefix.trans ?_ h3
 have h4:lu l k m <+:lu l k 2:=by
  have:m=0∨m=1∨m=2:=by omega
  rcases this with rfl|rfl|rfl
  ·exact List.nil_prefix
  ·rw[nO l k 1];exact List.prefix_append _ _
  ·exact List.prefix_refl _
 exact(List.prefix_append_right_inj _).2 h4
def RU (l:List ab) (x:Nat×Nat×Int):Prop:=x.1<l.length/\x.2.1<l.length/\(0<=x.2.2/\x.2.2<=1)
def Gd (x:Nat×Nat×Int):Array Value:= #[.agg #[.int .i64 (x.1:Int),.int .i64 (x.2.1:Int)],.int .i64 x.2.2]
theorem Nc (l:List ab) (p:aM) (h:0<l.length:=by omega):eY l p<(l.length:Int):=by
 unfold eY
 split<;>omega
theorem Tx (l:List ab) (hA:k9 l) (q Ba:Nat) (vS:Value) (K:World->World->Prop) (kl:Jf K vS l) (J Jx:List (Nat×Nat×Int)->World->Prop) (n:Nat) (hn:1<=n)
  (hY:∀pre x W,J pre W->pre.length<(lQ l l.length).length->RU l x->YieldAt Fence.wide (n-1) Tryz.prog q (Gd x) W fun e W'=>
   (e=.returned (.bool true)/\J (pre++[x]) W'/\K W W')∨(e=.returned (.bool false)/\Jx (pre++[x]) W'))
  (W:World) (hJ:AbidesFrom W.heap.size J) (PA:W.heap[Ba]? =some (.cells #[vS] 41 (0,0))) (hP:qn W vS l) (h0:J [] W):
  CallsIn Fence.wide n Tryz.prog 264 #[.func (.yield q) #[] #[],.pointer (some ⟨Ba,0,none⟩)] W fun e W'=>(∃v,e=.returned v)/\
   ((∃ys,ys=lQ l l.length/\J ys W')∨(∃pre,pre <+:lQ l l.length/\Jx pre W')):=by
 obtain⟨A,cp,rfl,_,_⟩:=hP.sl
 refine callsIn_of_wp Tryz.func264 rfl trivial ?_ rfl
 simp only[Tryz.ntmps264,List.size_toArray,List.length_cons,List.length_nil,Nat.reduceAdd,Nat.reduceSub,Array.replicate_succ,Array.replicate_zero,List.push_toArray,List.append_toArray,List.nil_append,List.cons_append]
 have jW:W.cell? ⟨Ba,0,none⟩=some (.slice A l.length cp):=by simp[World.cell?,PA]
 gi_wp2
 gi_loopw [11] (fun i wr=>∃k:Nat,k<=l.length/\i=.int .i64 k/\J (lQ l k) wr/\K W wr)
  (fun i _=>l.length-(intOf i).toNat)
 case atStart=>exact⟨0,Nat.zero_le _,rfl,h0,kl.refl _⟩
 case round=>
  obtain⟨k,hk,rfl,hJs,hKt⟩:=hrel
  by_cases ew:k<l.length
  ·have dC:∃b o,A=some ⟨b,o,none⟩/\wr.cell? ⟨b,o+k*3,none⟩=some (.int .i64 (aA l k).aL.fc)/\wr.cell? ⟨b,o+k*3+1,none⟩=some (.int .i64 (aA l k).aL.eR)/\wr.cell? ⟨b,o+k*3+2,none⟩=some (.int .i64 (aA l k).aT):=by
    obtain⟨A',c',hv,_,hc⟩:=(kl.pl hKt hP).sl
    cases hv
    rcases hc with rfl|⟨b,o,rfl,kP⟩
    ·simp at ew
    ·obtain⟨h1,h2,h3⟩:=kP k ew
     exact⟨b,o,rfl,by simpa using h1,by rw[Nat.add_assoc];exact h2,by rw[Nat.add_assoc];exact h3⟩
   obtain⟨b,o,rfl,hx,hy',ht⟩:=dC
   gi_wp2
   obtain⟨W2,Sr⟩:∃W2,(wr.alloc (.cells #[.int .i64 (aA l k).aL.fc,.int .i64 (aA l k).aL.eR,.int .i64 (aA l k).aT] 137)).alloc (.cells #[.int .i64 1,.int .i64 0] 2)=W2:=⟨_,rfl⟩
   have qt:Below wr.heap.size wr W2:=by rw[<-Sr];exact((Below.refl _ wr).alloc (Nat.le_refl _) _).alloc (by simp) _
   have Vx:W2.heap[wr.heap.size]? =some (.cells #[.int .i64 (aA l k).aL.fc,.int .i64 (aA l k).aL.eR,.int .i64 (aA l k).aT] 137 (0,0)):=by
    rw[<-Sr,Below.heap_alloc _ _ _ (by simp)];exact World.alloc_heap_new _ _
   have Vw:W2.heap[wr.heap.size+1]? =some (.cells #[.int .i64 1,.int .i64 0] 2 (0,0)):=by
    have:=World.alloc_heap_new (wr.alloc (.cells #[.int .i64 (aA l k).aL.fc,.int .i64 (aA l k).aL.eR,.int .i64 (aA l k).aT] 137)) (.cells #[.int .i64 1,.int .i64 0] 2)
    rw[World.size_alloc]at this
    rw[<-Sr];exact this
   have PL:K W W2:=kl.trans hKt (kl.of qt)
   have hJ2:J (lQ l k++lu l k 0) W2:=by
    have:=hJ _ _ _ none hJs (grown_of qt) (fun r h=>by cases h)
    simpa[lu]using this
   rw[Sr]
   clear Sr
   generalize wr=w1 at *
   gi_loopw [18] (fun j wr=>∃m:Nat,m<=2/\j=.int .i64 m/\J (lQ l k++lu l k m) wr/\K W2 wr)
    (fun j _=>2-(intOf j).toNat)
   case atStart=>exact⟨0,by omega,rfl,hJ2,kl.refl _⟩
   case round=>
    obtain⟨m,hm,rfl,hJm,Oe⟩:=hrel
    have hm0:m=0∨m=1∨m=2:=by omega
    by_cases uy:m<2
    ·have hkd:=kl.typed Oe _ _ _ _ Vw (by decide) (by decide)
     have MZ:=kl.typed Oe _ _ _ _ Vx (by decide) (by decide)
     have hka:=kl.typed (kl.trans PL Oe) _ _ _ _ PA (by decide) (by decide)
     have cd:wr.cell? ⟨w1.heap.size+1,m,none⟩=some (.int .i64 (1-(m:Int))):=by
      rw[World.cell?_of_block hkd]
      rcases hm0 with rfl|rfl|rfl
      ·simp[World.cell?,Vw]
      ·simp[World.cell?,Vw]
      ·omega
     have ct0:wr.cell? ⟨w1.heap.size,0,none⟩=some (.int .i64 (aA l k).aL.fc):=by rw[World.cell?_of_block MZ];simp[World.cell?,Vx]
     have ct1:wr.cell? ⟨w1.heap.size,1,none⟩=some (.int .i64 (aA l k).aL.eR):=by rw[World.cell?_of_block MZ];simp[World.cell?,Vx]
     have ca:wr.cell? ⟨Ba,0,none⟩=some (.slice (some ⟨b,o,none⟩) l.length cp):=by rw[World.cell?_of_block hka];simp[World.cell?,PA]
     have hPw:qn wr (.slice (some ⟨b,o,none⟩) l.length cp) l:=kl.pl (kl.trans PL Oe) hP
     have hba:Ba<wr.heap.size:=by
      have h1:=(Array.getElem?_eq_some_iff.1 PA).1
      have h2:=kl.size (kl.trans PL Oe)
      omega
     have hdm:jl (1-(m:Int)) 0 3=true:=gr (by omega)
     have EX:=ml (hA.pt ew)
     have RH:=fun w0=>FK w0 (aA l k).aL (1-(m:Int)) hdm EX.1 EX.2
     have hPd:qn wr.drew (.slice (some ⟨b,o,none⟩) l.length cp) l:=hPw.below ⟨rfl,rfl,rfl,Nat.le_refl _,fun _ _=>rfl⟩
     have cad:wr.drew.cell? ⟨Ba,0,none⟩=some (.slice (some ⟨b,o,none⟩) l.length cp):=ca
     have ctd0:wr.drew.cell? ⟨w1.heap.size,0,none⟩=some (.int .i64 (aA l k).aL.fc):=ct0
     have ctd1:wr.drew.cell? ⟨w1.heap.size,1,none⟩=some (.int .i64 (aA l k).aL.eR):=ct1
     have hfw:=hA.yi
     have SQ:=hA.Lo
     have Wd:=mixed
     gi_wp2
     gi_region_with_o (first|(refine⟨trivial,?_⟩;gi_at_call 149;refine(callsIn_wide.2 (RH _)).mono ?_;rintro e w3 ⟨rfl,Cv⟩;have ca3:=(Cv.cell (p:=⟨Ba,0,none⟩) hba).trans cad)|(refine⟨trivial,?_⟩;gi_at_call 265;refine(callsIn_wide.2 (yS _ l _ (hPd.below Cv) (cH (aA l k).aL (1-(m:Int))) SQ (by omega))).mono ?_;rintro e w4 ⟨rfl,hB4⟩))
     all_goals
      have Pz:Below wr.heap.size wr w4:=(show Below wr.heap.size wr wr.drew from⟨rfl,rfl,rfl,Nat.le_refl _,fun _ _=>rfl⟩).trans (Cv.trans (hB4.mono Cv.size))
      have hJ4:J (lQ l k++lu l k m) w4:=hJ _ _ _ none hJm (grown_of Pz) (fun r h=>by cases h)
      have u9:=Qz l ew (m:=m+1) (by omega)
      rw[nO,<-List.append_assoc]at u9
      have tK:=nO l k m
      have hw:wrap64 ((m:Int)+1)=((m+1:Nat):Int):=by unfold wrap64;omega
      by_cases AD:0<=eY l (cH (aA l k).aL (1-(m:Int)))
      ·have fe:((eY l (cH (aA l k).aL (1-(m:Int)))).toNat:Int)=eY l (cH (aA l k).aL (1-(m:Int))):=by omega
       rw[Db,if_pos AD]at u9 tK
       obtain⟨fn,tmps,assign,body,hy,hR⟩:=hY _ (k,(eY l (cH (aA l k).aL (1-(m:Int)))).toNat,1-(m:Int)) w4 hJ4 (by
        have:=u9.length_le
        simp only[List.length_append,List.length_cons,List.length_nil]at this ⊢
        omega) ⟨ew,by
        have:eY l (cH (aA l k).aL (1-(m:Int)))<(l.length:Int):=Nc _ _
        show(eY l (cH (aA l k).aL (1-(m:Int)))).toNat<l.length
        omega,by show 0<=1-(m:Int);omega,by show 1-(m:Int)<=1;omega⟩
       simp only[Gd,fe]at hy
       gi_wp2
       refine hR.mono ?_
       rintro e W3 (⟨rfl,hJ3,hk3⟩|⟨rfl,hJx3⟩)
       ·gi_wp2
        go_roundw
        case rel=>exact⟨m+1,by omega,by simp,by rw[tK,<-List.append_assoc];exact hJ3,kl.trans (kl.trans Oe (kl.of Pz)) hk3⟩
        case measure=>simp[intOf];omega
       ·gi_wp2
        refine bodyPost_ret (results_none rfl _ _ _) rfl ?_
        exact⟨⟨_,rfl⟩,.inr ⟨_,u9,hJx3⟩⟩
      ·rw[Db,if_neg AD,List.append_nil]at tK
       gi_wp2
       refine⟨fun _ h=>(by cases h),?_⟩
       gi_wp2
       go_roundw
       case rel=>exact⟨m+1,by omega,by simp,by rw[tK];exact hJ4,kl.trans Oe (kl.of Pz)⟩
       case measure=>simp[intOf];omega
    ·obtain rfl:m=2:=by omega
     have hfw:=hA.yi
     gi_wp2
     go_roundw
     case rel=>exact⟨k+1,by omega,by simp,by rw[mZ];exact hJm,kl.trans PL Oe⟩
     case measure=>simp[intOf];omega
  ·obtain rfl:k=l.length:=by omega
   gi_wp2
   go_end0
   exact⟨⟨_,rfl⟩,.inl ⟨_,rfl,hJs⟩⟩
end Go.Proofs.YtgoelphibofcmaaGreat.V

namespace Go.Proofs.YtgoelphibofcmaaGreat.V
open Go.RowKit Go.Shelf
attribute [local go_sem] Oper.semAt_some
theorem AR (n:Nat) (vS:Value) (w:World):CallsIn Fence.wide n Tryz.prog 244 #[.agg #[vS]] w fun e w'=>e=.returned (.func (.func 264) #[] #[.pointer (some ⟨w.heap.size,0,none⟩)])/\w'=w.alloc (.cells #[vS] 41):=by
 refine callsIn_of_wp Tryz.func244 rfl trivial ?_ rfl
 simp only[Tryz.ntmps244,List.size_toArray,List.length_cons,List.length_nil,Nat.reduceAdd,Nat.reduceSub,Array.replicate_succ,Array.replicate_zero,List.push_toArray,List.append_toArray,List.nil_append,List.cons_append]
 gi_wp2
 go_ret
 exact⟨rfl,rfl⟩
abbrev O2 (l:List ab):Type:={x:Nat×Nat×Int // RU l x}
theorem KT (l:List ab) (hA:k9 l) (Ba n:Nat) (hn:1<=n) (vS:Value) (K:World->World->Prop) (kl:Jf K vS l) (w:World) (PA:w.heap[Ba]? =some (.cells #[vS] 41 (0,0))) (hP:qn w vS l):
  SeqStopsK Fence.wide n Tryz.prog 264 #[.pointer (some ⟨Ba,0,none⟩)] (fun x:O2 l=>Gd x.1) K (fun ys=>ys.map (·.1)=lQ l l.length) (fun _=>True) (lQ l l.length).length w:=fun q J Jx W hW hJ _ hY h0=>by
 refine(Tx l hA q Ba vS K kl (fun ys W=>∃zs:List (O2 l),zs.map (·.1)=ys/\J zs W) (fun ys W=>∃zs:List (O2 l),zs.map (·.1)=ys/\Jx zs W) n hn (fun pre x W1 hJ1 ew xn=>?_) W (fun s A B row ⟨zs,e,h⟩ hg hr=>⟨zs,e,hJ zs A B row h hg hr⟩) ((hW.block Ba (Array.getElem?_eq_some_iff.1 PA).1).trans PA) (hP.below hW) ⟨[],rfl,h0⟩).mono ?_
 ·obtain⟨zs,rfl,h1⟩:=hJ1
  refine YieldAt.mono (hY zs ⟨x,xn⟩ W1 h1 (by simpa using ew)) ?_
  rintro e W' (⟨h2,h3,h4⟩|⟨h2,h3⟩)
  ·exact .inl ⟨h2,⟨zs++[⟨x,xn⟩],by simp,h3⟩,h4⟩
  ·exact .inr ⟨h2,⟨zs++[⟨x,xn⟩],by simp,h3⟩⟩
 ·rintro e W' ⟨h1,⟨ys,rfl,zs,h2,h3⟩|⟨pre,_,zs,h2,h3⟩⟩
  ·exact⟨h1,.inl ⟨zs,h2,h3⟩⟩
  ·exact⟨h1,.inr ⟨zs,trivial,h3⟩⟩
def Ak (s:ax) (l:List ab) (x:Nat×Nat×Int):List PB:=if 0<gw s (aA l x.1).aT x.2.2 (aA l x.2.1).aT then[⟨x.1,x.2.1,gw s (aA l x.1).aT x.2.2 (aA l x.2.1).aT⟩]else[]
theorem JC (s:ax) (l:List ab):dn s l=(lQ l l.length).flatMap (Ak s l):=by
 have h1:∀i d,nE s l i d=(Db l i d).flatMap (Ak s l):=fun i d=>by
  unfold nE Db
  by_cases h:0<=eY l (cH (aA l i).aL d)
  ·rw[if_pos h]
   simp only[List.flatMap_cons,List.flatMap_nil,List.append_nil,Ak]
   by_cases h2:0<gw s (aA l i).aT d (aA l (eY l (cH (aA l i).aL d)).toNat).aT
   ·rw[if_pos ⟨h,h2⟩,if_pos h2]
   ·rw[if_neg fun hc=>h2 hc.2,if_neg h2]
  ·rw[if_neg h,if_neg fun hc=>h hc.1];rfl
 unfold dn ij lQ
 rw[List.flatMap_assoc]
 congr 1
 funext i
 unfold gx lu
 rw[List.flatMap_assoc]
 congr 1
 funext j
 exact h1 i _
end Go.Proofs.YtgoelphibofcmaaGreat.V

namespace Go.Proofs.YtgoelphibofcmaaGreat.V
open Go.RowKit
attribute [local irreducible] dQ wpOps fX Call
attribute [local go_sem] aQ fM eU fY fW dm upd cG K.av cQ AV.cells AV.cell rowOf rowsOf part ld rowAt bQ cC dE ea gZ bS dh eo fV fj dB ef dd dc dS dU b4 bj cV bW cY cW ec eh ee cU ck de eb bV aU da cK gY bx cP cj bd dv bl dG AV.undef bH bK dW dZ dO dL cN ek eu cJ ej ei cZ db List.getD_cons_zero List.getD_cons_succ List.getD_nil List.all_cons List.all_nil Bool.and_true Bool.true_and Bool.and_self Bool.not_true Bool.not_false Option.map_some Option.map_none Option.bind_some Option.bind_none List.length_cons List.length_nil List.take_succ_cons List.take_zero List.take_nil List.drop_succ_cons List.drop_zero List.drop_nil List.head?_cons List.map_cons List.map_nil List.getElem?_cons_zero List.getElem?_cons_succ List.cons_append List.nil_append List.append_nil List.length_map List.set_cons_zero List.set_cons_succ Nat.reduceMul eq_self Int.toNat_natCast Int.natCast_nonneg and_self true_and and_true decide_true decide_false Bool.false_eq_true Nat.zero_add Nat.add_zero List.contains_cons List.contains_nil Bool.or_false Bool.false_or beq_self_eq_true Nat.reduceBEq ne_eq not_true_eq_false not_false_eq_true Id.mk.injEq false_and and_false Nat.reduceLT Int.reduceLE Int.reduceLT Int.reduceToNat Int.reduceNeg Int.reduceAdd Nat.le_refl List.length_append beq_true beq_false Bool.not_eq_eq_eq_not or_false false_or dX ae aj aJ bq bG cr aY bf aW bp cR bB
def Bc (bs:List PB):AV:=if bs=[]then .bD else .sl (bs.map aH)
theorem NS:Bc []=.bD:=rfl
theorem Bd {bs:List PB} (h:0<bs.length):Bc bs=.sl (bs.map aH):=by
 unfold Bc
 rw[if_neg (by rintro rfl;simp at h)]
theorem yD (cnt:Nat) (rm:1<=cnt) (hn:cnt<=1048576) (bs:List PB) (hb:∀b∈bs,b.a<cnt/\b.b<cnt) (hp:0<bs.length) (qE:bs.length<=1048576) (t:Int):aq Tryz.prog 221 [.int .i64 cnt,.sl (bs.map aH),.int .i64 t] (.gD [.int .i64 (leads cnt (eO (aV t bs))).length,Bc (dF (eO (aV t bs)) bs)]):=by
 refine aq.body eF rfl fun hl n0=>?_
 clear hl
 (try((repeat(revert hN;revert N;apply Pn.out));refine wk @Nat.zero_add ?_;(repeat(refine Pn.mk ?_;intro N hN))))
 refine .inr (aE _ _ _ _ _ (fun r σ1 hq=>?_) (JF bs hp qE _))
 obtain⟨o,rfl,ho,M6,Kj,HD⟩:=hq
 (try dsimp only at ho M6 Kj HD)
 refine hN _ _ ?_
 clear hN N
 (try((repeat(revert hN;revert N;apply Pn.out));refine wk @Nat.zero_add ?_;(repeat(refine Pn.mk ?_;intro N hN))))
 refine .inr (aE _ _ _ _ _ (fun r σ2 hq=>?_) (Ho bs t qE o ⟨221000000,n0⟩ _ ho (by rw[HD _ (by(try dsimp only);omega)];simp only[go_sem, ↓reduceIte,Nat.reduceEqDiff,Nat.reduceAdd,Nat.reduceSub,Nat.reduceLeDiff,reduceCtorEq]) (by(try dsimp only);omega) (by(try dsimp only);omega) (by rintro rfl;simp only at M6;omega)))
 obtain⟨rows,rfl,gn,hrt,rn,nH,EM⟩:=hq
 (try dsimp only at nH EM)
 refine hN _ _ ?_
 clear hN N
 have IW:=xe cnt rm hn (aV t bs) (fun b h=>hb b (xY h)) (by have:=nS t bs;omega)
 have hL:=uC (aV t bs)
 have hz:∀x,dt (dX σ2.get) 6 [.int .i64 x,.own o 0 (aV t bs).length]=some [.int .i64 x,.sl ((aV t bs).map aH)]:=fun x=>by
  have:V.fz (dX σ2.get) 6 (.own o 0 (aV t bs).length)=some (.sl ((aV t bs).map aH)):=by
   rw[iP];simp only[dX,gn,Option.map_some,if_true]
   rw[if_pos (by omega),List.drop_zero,hrt,qY fun b=>Au _ 4 b];rfl
  simp only[ae,aj,aJ,this,Option.map_some]
 (try((repeat(revert hN;revert N;apply Pn.out));refine wk @Nat.zero_add ?_;(repeat(refine Pn.mk ?_;intro N hN))))
 refine .inl ⟨_,aq.x IW (hz _),?_⟩
 refine hN _ _ ?_
 clear hN N
 generalize eO (aV t bs)=L at *
 have tH:((fN cnt L).map BC).length=(leads cnt L).length:=by simp[fN]
 have UD:=j7 cnt L
 have jW:(0:Int)<=(cnt:Int):=by omega
 have nw:(cnt:Int)<=((16777216:Nat):Int):=by omega
 have gH:List.replicate cnt [AV.int .i64 0]=dV (dq cnt L 0 0) cnt:=by rw[ya,pr]
 (try((repeat(revert hN;revert N;apply Pn.out));refine wk (tw @jW (tw @nw (tw @Int.le_refl (tw @tH @gH)))) ?_;(repeat(refine Pn.mk ?_;intro N hN))))
 refine aZ (fun n env st=>∃i:Nat,n=((leads cnt L).length)-i/\i<=((leads cnt L).length)/\env 27=.int .i64 (i:Int)/\st.get ⟨221002001,σ2.next+1⟩=some ⟨true,1,dV (dq cnt L i 0) cnt⟩/\(σ2.next+1<st.next)) ((leads cnt L).length) ⟨0,by omega,by omega,sl (tw @gH @tH),sl (tw @gH @tH),(by(try dsimp only);omega)⟩ ?_
 rintro n_c env_c st_c ⟨i,rfl,cle,c27,cg0,cI0⟩ cfr
 have c1:=cfr 1 (by kernel_rfl);have c8:=cfr 8 (by kernel_rfl);have c9:=cfr 9 (by kernel_rfl);have yw:=cfr 25 (by kernel_rfl);have yy:=cfr 26 (by kernel_rfl)
 simp only[go_sem, ↓reduceIte,Nat.reduceEqDiff,Nat.reduceAdd,Nat.reduceSub,Nat.reduceLeDiff,reduceCtorEq,gH,tH]at c1 c8 c9 yw yy
 clear cfr
 by_cases hi:(i:Int)<((leads cnt L).length:Int)
 ·have iF:∀{e:Env} {gg:Rows} {nx:Nat},(e 27=.int .i64 (IntKind.i64.wrap ((i:Int)+1)))->(gg ⟨221002001,σ2.next+1⟩=some ⟨true,1,dV (dq cnt L (i+1) 0) cnt⟩)->(σ2.next+1<nx)->∃m0,m0<((leads cnt L).length)-i/\∃i:Nat,m0=((leads cnt L).length)-i/\i<=((leads cnt L).length)/\e 27=.int .i64 (i:Int)/\gg ⟨221002001,σ2.next+1⟩=some ⟨true,1,dV (dq cnt L i 0) cnt⟩/\(σ2.next+1<nx):=fun x1 x2 x3=>⟨_,by omega,i+1,rfl,by omega,(by rw[x1,aD (by omega)]),x2,x3⟩
  have fe:i<(leads cnt L).length:=by omega
  have iV:((fN cnt L).map BC)[i]? =some (BC (members cnt L (leads cnt L)[i])):=by simp[fN,fe]
  have tb:(leads cnt L).getD i 0=(leads cnt L)[i]:=by simp[List.getD_eq_getElem?_getD,fe]
  have lL:∀m,dq cnt L i m=fun x=>if cD L x<i then cD L x else if x∈(members cnt L (leads cnt L)[i]).take m then i else 0:=fun m=>by unfold dq;rw[tb]
  have sg:=fun x (hx:x<cnt)=>tR hL (n:=cnt) (k:=x) (i:=i) hx fe
  have mE:(members cnt L (leads cnt L)[i]).Nodup:=List.nodup_range.filter _
  have P8:∀x∈members cnt L (leads cnt L)[i],x<cnt:=fun x hx=>(l7.1 hx).1
  have hMc:(members cnt L (leads cnt L)[i]).length<=cnt:=by
   have:=List.length_filter_le (fun k=>L k==(leads cnt L)[i]) (List.range cnt)
   simpa[members]using this
  generalize members cnt L (leads cnt L)[i]=M at *
  have DR:(M.map eN).length=M.length:=by simp
  (try((repeat(revert hN;revert N;apply Pn.out));refine wk (tw @c27 (tw @cg0 (tw @c1 (tw @c8 (tw @c9 (tw @yw (tw @yy (tw @hi (tw @tH (tw @iV (tw @BC.eq_1 @DR))))))))))) ?_;(repeat(refine Pn.mk ?_;intro N hN))))
  refine aZ (fun n env st=>∃m:Nat,n=(M.length)-m/\m<=(M.length)/\env 34=.int .i64 (m:Int)/\st.get ⟨221002001,σ2.next+1⟩=some ⟨true,1,dV (dq cnt L i m) cnt⟩/\(σ2.next+1<st.next)) (M.length) ⟨0,by omega,by omega,sl (tw @c27 (tw @cg0 (tw @c1 (tw @c8 (tw @c9 (tw @yw (tw @yy @DR))))))),sl (tw @c27 (tw @cg0 (tw @c1 (tw @c8 (tw @c9 (tw @yw (tw @yy @DR))))))),(by(try dsimp only);omega)⟩ ?_
  rintro n_d env_d st_d ⟨m,rfl,dle,d34,dg0,dI0⟩ dfr
  have d1:=dfr 1 (by kernel_rfl);have d8:=dfr 8 (by kernel_rfl);have d9:=dfr 9 (by kernel_rfl);have d10:=dfr 10 (by kernel_rfl);have d25:=dfr 25 (by kernel_rfl);have d26:=dfr 26 (by kernel_rfl);have d27:=dfr 27 (by kernel_rfl);have d32:=dfr 32 (by kernel_rfl);have d33:=dfr 33 (by kernel_rfl)
  simp only[go_sem, ↓reduceIte,Nat.reduceEqDiff,Nat.reduceAdd,Nat.reduceSub,Nat.reduceLeDiff,reduceCtorEq,c27,cg0,c1,c8,c9,yw,yy,DR]at d1 d8 d9 d10 d25 d26 d27 d32 d33
  clear dfr
  have tl:=gC (dq cnt L i m) cnt
  by_cases hm:(m:Int)<(M.length:Int)
  ·have uF:∀{e:Env} {gg:Rows} {nx:Nat},(e 34=.int .i64 (IntKind.i64.wrap ((m:Int)+1)))->(gg ⟨221002001,σ2.next+1⟩=some ⟨true,1,dV (dq cnt L i (m+1)) cnt⟩)->(σ2.next+1<nx)->∃m0,m0<(M.length)-m/\∃m:Nat,m0=(M.length)-m/\m<=(M.length)/\e 34=.int .i64 (m:Int)/\gg ⟨221002001,σ2.next+1⟩=some ⟨true,1,dV (dq cnt L i m) cnt⟩/\(σ2.next+1<nx):=fun x1 x2 x3=>⟨_,by omega,m+1,rfl,by omega,(by rw[x1,aD (by omega)]),x2,x3⟩
   have AE:m<M.length:=by omega
   have xh:(M.map eN)[m]? =some (eN M[m]):=by simp[AE]
   have xp:=P8 _ (List.getElem_mem AE)
   have DY:(M[m]:Int)<(cnt:Int):=by omega
   have DX:=fJ (f:=dq cnt L i m) xp
   have eL:(dV (dq cnt L i m) cnt).set M[m] (eN i)=dV (dq cnt L i (m+1)) cnt:=ql xp (by
    have h1:=(sg _ xp).1 (List.getElem_mem AE)
    rw[lL]
    simp only[]
    rw[if_neg (by omega),if_pos (by rw[List.take_succ_eq_append_getElem AE];exact List.mem_append_right _ (List.mem_singleton.2 rfl))]) fun x hx gM=>by
    rw[lL,lL]
    simp only[]
    rw[List.take_succ_eq_append_getElem AE]
    simp only[List.mem_append,List.mem_singleton,gM,or_false]
   rw[eN]at eL DX
   generalize M[m]=xm at *
   (try((repeat(revert hN;revert N;apply Pn.out));refine wk (tw @d34 (tw @dg0 (tw @d1 (tw @d8 (tw @d9 (tw @d10 (tw @d25 (tw @d26 (tw @d27 (tw @d32 (tw @d33 (tw @hm (tw @hi (tw @xh (tw @DR (tw @DY (tw @DX (tw @tl (tw @eL @eN.eq_1))))))))))))))))))) ?_;(repeat(refine Pn.mk ?_;intro N hN))))
   refine uF ?_ ?_ (by(try dsimp only);omega)
   all_goals simp only[go_sem, ↓reduceIte,Nat.reduceEqDiff,Nat.reduceAdd,Nat.reduceSub,Nat.reduceLeDiff,reduceCtorEq,d34,dg0,d1,d8,d9,d10,d25,d26,d27,d32,d33,eL]
  ·have jc:m=M.length:=by omega
   subst jc
   have tK:dV (dq cnt L i M.length) cnt=dV (dq cnt L (i+1) 0) cnt:=iC fun x hx=>by
    rw[lL,List.take_length]
    simp only[dq,List.take_zero,List.not_mem_nil,if_false]
    have h1:=sg x hx
    by_cases h2:cD L x<i
    ·rw[if_pos h2,if_pos (by omega)]
    ·rw[if_neg h2]
     by_cases h3:x∈M
     ·rw[if_pos h3,if_pos (by have:=h1.1 h3;omega),h1.1 h3]
     ·rw[if_neg h3,if_neg fun h4=>h3 (h1.2 (by omega))]
   (try((repeat(revert hN;revert N;apply Pn.out));refine wk (tw @d34 (tw @dg0 (tw @d1 (tw @d8 (tw @d9 (tw @d10 (tw @d25 (tw @d26 (tw @d27 (tw @d32 (tw @d33 (tw @hm (tw @hi (tw @tH @DR)))))))))))))) ?_;(repeat(refine Pn.mk ?_;intro N hN))))
   refine iF ?_ ?_ (by(try dsimp only);omega)
   all_goals simp only[go_sem, ↓reduceIte,Nat.reduceEqDiff,Nat.reduceAdd,Nat.reduceSub,Nat.reduceLeDiff,reduceCtorEq,c27,cg0,c1,c8,c9,yw,yy,d34,dg0,d1,d8,d9,d10,d25,d26,d27,d32,d33,tK]
 have kF:i=(leads cnt L).length:=by omega
 subst kF
 have vW:dV (dq cnt L (leads cnt L).length 0) cnt=dV (cD L) cnt:=iC fun x hx=>by rw[dq,if_pos (kB hL hx)]
 rw[vW]at cg0
 have tl:=gC (cD L) cnt
 have Un:(bs.map aH).length=bs.length:=by simp
 (try((repeat(revert hN;revert N;apply Pn.out));refine wk (tw @c27 (tw @cg0 (tw @c1 (tw @c8 (tw @c9 (tw @yw (tw @yy (tw @hi (tw @tH @Un))))))))) ?_;(repeat(refine Pn.mk ?_;intro N hN))))
 have Uq:σ2.next+1<st_c.next:=cI0
 refine aZ (fun n env st=>∃j:Nat,n=(bs.length)-j/\j<=(bs.length)/\env 46=.int .i64 (j:Int)/\st.get ⟨221002001,σ2.next+1⟩=some ⟨true,1,dV (cD L) cnt⟩/\(st_c.next<=st.next/\((dF L (bs.take j)=[]/\env 14=.bD)∨∃p:Id,env 14=.own p 0 (dF L (bs.take j)).length/\st.get p=some ⟨true,3,(dF L (bs.take j)).map aH⟩/\st_c.next<=p.bE/\p.bE<st.next/\0<(dF L (bs.take j)).length))) (bs.length) ⟨0,by omega,by omega,sl (tw @c27 (tw @cg0 (tw @c1 (tw @c8 (tw @c9 (tw @yw (tw @yy @Un))))))),sl (tw @c27 (tw @cg0 (tw @c1 (tw @c8 (tw @c9 (tw @yw (tw @yy @Un))))))),⟨by(try dsimp only);omega,.inl ⟨rfl,by(simp only[go_sem, ↓reduceIte,Nat.reduceEqDiff,Nat.reduceAdd,Nat.reduceSub,Nat.reduceLeDiff,reduceCtorEq])⟩⟩⟩ ?_
 rintro n_f env_f st_f ⟨j,rfl,fle,f46,fg0,fI0⟩ ffr
 have f1:=ffr 1 (by kernel_rfl);have f8:=ffr 8 (by kernel_rfl);have f9:=ffr 9 (by kernel_rfl);have f44:=ffr 44 (by kernel_rfl);have f45:=ffr 45 (by kernel_rfl)
 simp only[go_sem, ↓reduceIte,Nat.reduceEqDiff,Nat.reduceAdd,Nat.reduceSub,Nat.reduceLeDiff,reduceCtorEq,c27,cg0,c1,c8,c9,yw,yy,Un]at f1 f8 f9 f44 f45
 clear ffr
 obtain⟨Rt,fO⟩:=fI0
 have Kw:=dr (i:=⟨221002001,σ2.next+1⟩) (n:=st_f.next) (by(try dsimp only);omega)
 have E0:=(nR L (bs.take j)).1
 rw[List.length_take]at E0
 by_cases hj:(j:Int)<(bs.length:Int)
 ·have sH:∀{e:Env} {gg:Rows} {nx:Nat},(e 46=.int .i64 (IntKind.i64.wrap ((j:Int)+1)))->(gg ⟨221002001,σ2.next+1⟩=some ⟨true,1,dV (cD L) cnt⟩)->(st_c.next<=nx/\((dF L (bs.take (j+1))=[]/\e 14=.bD)∨∃p:Id,e 14=.own p 0 (dF L (bs.take (j+1))).length/\gg p=some ⟨true,3,(dF L (bs.take (j+1))).map aH⟩/\st_c.next<=p.bE/\p.bE<nx/\0<(dF L (bs.take (j+1))).length))->∃m0,m0<(bs.length)-j/\∃j:Nat,m0=(bs.length)-j/\j<=(bs.length)/\e 46=.int .i64 (j:Int)/\gg ⟨221002001,σ2.next+1⟩=some ⟨true,1,dV (cD L) cnt⟩/\(st_c.next<=nx/\((dF L (bs.take j)=[]/\e 14=.bD)∨∃p:Id,e 14=.own p 0 (dF L (bs.take j)).length/\gg p=some ⟨true,3,(dF L (bs.take j)).map aH⟩/\st_c.next<=p.bE/\p.bE<nx/\0<(dF L (bs.take j)).length)):=fun x1 x2 x3=>⟨_,by omega,j+1,rfl,by omega,(by rw[x1,aD (by omega)]),x2,x3⟩
  have iK:j<bs.length:=by omega
  have BH:(bs.map aH)[j]? =some (aH bs[j]):=by simp[iK]
  have Oh:=hb _ (List.getElem_mem iK)
  have hs:=A8 L (bs.take j) bs[j]
  rw[<-List.take_succ_eq_append_getElem iK]at hs
  generalize bs[j]=b at *
  have hA:=fJ (f:=cD L) Oh.1
  have hB:=fJ (f:=cD L) Oh.2
  have gW:(b.a:Int)<(cnt:Int):=by omega
  have gm:(b.b:Int)<(cnt:Int):=by omega
  rw[eN]at hA hB
  have e1:(dF L (bs.take j)).length+1<=16777216:=by omega
  have jc:((dF L (bs.take j)).map aH).length=(dF L (bs.take j)).length:=by simp
  by_cases he:cD L b.a=cD L b.b
  ·rw[if_pos he,List.append_nil]at hs
   have vQ:decide ((cD L b.a:Int)=(cD L b.b:Int))=true:=decide_eq_true (by rw[he])
   (try((repeat(revert hN;revert N;apply Pn.out));refine wk (tw @f46 (tw @fg0 (tw @f1 (tw @f8 (tw @f9 (tw @f44 (tw @f45 (tw @hj (tw @BH (tw @hA (tw @hB (tw @gW (tw @gm (tw @tl (tw @vQ (tw @Kw (tw @aH.eq_1 (tw @Bool.not_true @Bool.not_false)))))))))))))))))) ?_;(repeat(refine Pn.mk ?_;intro N hN))))
   refine sH ?_ ?_ (by(try dsimp only);exact⟨by omega,by
    rw[hs]
    rcases fO with⟨h1,h2⟩|⟨p,h1,h2,h3,h4,h5⟩
    ·exact .inl ⟨h1,sd @h2⟩
    ·have BJ:=dr h4
     exact .inr ⟨p,sd @h1,sd (tw @h2 @BJ),h3,by omega,h5⟩⟩)
   all_goals simp only[go_sem, ↓reduceIte,Nat.reduceEqDiff,Nat.reduceAdd,Nat.reduceSub,Nat.reduceLeDiff,reduceCtorEq,f46,fg0,f1,f8,f9,f44,f45,Kw]
  ·rw[if_neg he]at hs
   have vQ:decide ((cD L b.a:Int)=(cD L b.b:Int))=false:=decide_eq_false fun h=>he (by omega)
   rcases fO with⟨h1,f14⟩|⟨p,f14,fg,Qb,Kk,hp3⟩
   ·rw[h1]at hs
    (try((repeat(revert hN;revert N;apply Pn.out));refine wk (tw @f46 (tw @fg0 (tw @f1 (tw @f8 (tw @f9 (tw @f44 (tw @f45 (tw @f14 (tw @hj (tw @BH (tw @hA (tw @hB (tw @gW (tw @gm (tw @tl (tw @vQ (tw @Kw (tw @aH.eq_1 (tw @Bool.not_true @Bool.not_false))))))))))))))))))) ?_;(repeat(refine Pn.mk ?_;intro N hN))))
    refine sH ?_ ?_ (by(try dsimp only);exact⟨by omega,.inr ⟨⟨221017015,st_f.next+1+1+1⟩,by rw[hs];simp only[go_sem, ↓reduceIte,Nat.reduceEqDiff,Nat.reduceAdd,Nat.reduceSub,Nat.reduceLeDiff,reduceCtorEq,List.nil_append,List.length_cons,List.length_nil],by rw[hs];simp only[go_sem, ↓reduceIte,Nat.reduceEqDiff,Nat.reduceAdd,Nat.reduceSub,Nat.reduceLeDiff,reduceCtorEq,aH,List.nil_append,List.map_cons,List.map_nil],by(try dsimp only);omega,by(try dsimp only);omega,by rw[hs];simp⟩⟩)
    all_goals simp only[go_sem, ↓reduceIte,Nat.reduceEqDiff,Nat.reduceAdd,Nat.reduceSub,Nat.reduceLeDiff,reduceCtorEq,f46,fg0,f1,f8,f9,f44,f45,Kw]
   ·have x1:=cm (a:=⟨221002001,σ2.next+1⟩) (b:=p) (by(try dsimp only);omega)
    have BJ:=dr Kk
    (try((repeat(revert hN;revert N;apply Pn.out));refine wk (tw @f46 (tw @fg0 (tw @f1 (tw @f8 (tw @f9 (tw @f44 (tw @f45 (tw @f14 (tw @fg (tw @hj (tw @BH (tw @hA (tw @hB (tw @gW (tw @gm (tw @tl (tw @vQ (tw @x1 (tw @BJ (tw @Kw (tw @e1 (tw @jc (tw @aH.eq_1 (tw @Bool.not_true @Bool.not_false)))))))))))))))))))))))) ?_;(repeat(refine Pn.mk ?_;intro N hN))))
    refine sH ?_ ?_ (by(try dsimp only);exact⟨by omega,.inr ⟨⟨221017015,st_f.next+1+1+1⟩,by rw[hs,List.length_append];simp only[go_sem, ↓reduceIte,Nat.reduceEqDiff,Nat.reduceAdd,Nat.reduceSub,Nat.reduceLeDiff,reduceCtorEq,List.length_cons,List.length_nil],by rw[hs,List.map_append,List.map_cons,List.map_nil];simp only[go_sem, ↓reduceIte,Nat.reduceEqDiff,Nat.reduceAdd,Nat.reduceSub,Nat.reduceLeDiff,reduceCtorEq,aH],by(try dsimp only);omega,by(try dsimp only);omega,by rw[hs];simp⟩⟩)
    all_goals simp only[go_sem, ↓reduceIte,Nat.reduceEqDiff,Nat.reduceAdd,Nat.reduceSub,Nat.reduceLeDiff,reduceCtorEq,f46,fg0,f1,f8,f9,f44,f45,x1,Kw]
 ·have iA:j=bs.length:=by omega
  subst iA
  rw[List.take_length]at fO
  rcases fO with⟨h1,f14⟩|⟨p,f14,fg,Qb,Kk,hp3⟩
  ·(try((repeat(revert hN;revert N;apply Pn.out));refine wk (tw @f46 (tw @fg0 (tw @f1 (tw @f8 (tw @f9 (tw @f44 (tw @f45 (tw @f14 (tw @hj @tH))))))))) ?_;(repeat(refine Pn.mk ?_;intro N hN))))
   refine jL (.inl rfl) (r1:=.int .i64 ((leads cnt L).length:Int)) (sd @Nat.zero_add) (by simp only[go_sem, ↓reduceIte,Nat.reduceEqDiff,Nat.reduceAdd,Nat.reduceSub,Nat.reduceLeDiff,reduceCtorEq];rfl) ?_
   simp only[e9,bt,cz,er,jE,h1,NS,Option.map_some]
  ·(try((repeat(revert hN;revert N;apply Pn.out));refine wk (tw @f46 (tw @fg0 (tw @f1 (tw @f8 (tw @f9 (tw @f44 (tw @f45 (tw @f14 (tw @hj @tH))))))))) ?_;(repeat(refine Pn.mk ?_;intro N hN))))
   refine jL (.inl rfl) (r1:=.int .i64 ((leads cnt L).length:Int)) (sd @Nat.zero_add) (by simp only[go_sem, ↓reduceIte,Nat.reduceEqDiff,Nat.reduceAdd,Nat.reduceSub,Nat.reduceLeDiff,reduceCtorEq];rfl) ?_
   have h1:gK st_f.get 5 (.own p 0 (dF L bs).length)=some (.sl ((dF L bs).map aH)):=fu (sz:=3) fg rfl fun b=>vJ _ 3 b
   simp only[e9,bt,cz,er,h1,Bd hp3,Option.map_some]
theorem yC (cnt:Nat) (rm:1<=cnt) (hn:cnt<=1048576) (t:Int):aq Tryz.prog 221 [.int .i64 cnt,.bD,.int .i64 t] (.gD [.int .i64 cnt,.bD]):=by
 refine aq.body eF rfl fun hl n0=>?_
 clear hl
 have h1:aq Tryz.prog 242 [.bD] .bD:=by
  refine aq.body eF rfl fun hl n0=>?_
  clear hl
  (try((repeat(revert hN;revert N;apply Pn.out));refine wk @Nat.zero_add ?_;(repeat(refine Pn.mk ?_;intro N hN))))
  exact xQ (.inl rfl) (r0:=.bD) (sd @Nat.zero_add) (jE _ _)
 have h2:aq Tryz.prog 241 [.bD,.fn 243 [.du [.int .i64 t]]] .bD:=by
  have BI:=(zq [] t (by simp)).cut mixed (.bD (.same _ .nil))
  refine aq.body eF rfl fun hl n0=>?_
  clear hl
  (try((repeat(revert hN;revert N;apply Pn.out));refine wk @Nat.zero_add ?_;(repeat(refine Pn.mk ?_;intro N hN))))
  refine .inl ⟨_,aq.x BI (by simp only[ae,aj,aY,cR,aW,List.all_cons,List.all_nil,AV.cell,Bool.and_true,if_true,Option.map_some]),?_⟩
  refine hN _ _ ?_
  clear hN N
  have hd:decide (gL (fun b:PB=>decide (b.s<t)) []= -1)=true:=rfl
  (try((repeat(revert hN;revert N;apply Pn.out));refine wk @hd ?_;(repeat(refine Pn.mk ?_;intro N hN))))
  exact xQ (.inl rfl) (r0:=.bD) (sd @Nat.zero_add) (jE _ _)
 have IW:=(xe cnt rm hn [] (fun b h=>by cases h) (by simp)).cut mixed (.same _ (.bD .nil))
 (repeat(first|((repeat(revert hN;revert N;apply Pn.out));refine wk @Nat.zero_add ?_;(repeat(refine Pn.mk ?_;intro N hN)))|((try apply Or.inl);refine⟨_,aq.x (h1) (sd @Nat.zero_add),?_⟩;refine hN _ _ ?_;clear hN N)))
 refine .inl ⟨_,aq.x h2 ?_,?_⟩
 ·have:V.fz (dX (bQ (fun _=>none) ⟨221000000,n0⟩ ⟨true,1,[[.int .i64 t]]⟩)) 5 (.ptr ⟨221000000,n0⟩ 0 0)=some (.du [.int .i64 t]):=xb (sz:=1) (rows:=[[.int .i64 t]]) (by simp[dX,bQ]) rfl (by simp only[List.drop_zero,ae,aj,aJ,Option.map_some])
  simp only[ae,aj,aY,cR,this,List.all_cons,List.all_nil,AV.cell,Bool.and_true,if_true,Option.map_some]
 refine hN _ _ ?_
 clear hN N
 have gm:eO ([]:List PB)=id:=rfl
 rw[gm]at IW
 have hL:jU id:=gm▸uC ([]:List PB)
 have Rx:(leads cnt id).length=cnt:=by rw[leads,List.filter_eq_self.2 (fun a _=>by simp)];simp
 generalize (id:Nat->Nat)=L at *
 have tH:((fN cnt L).map BC).length=(leads cnt L).length:=by simp[fN]
 have UD:=j7 cnt L
 have jW:(0:Int)<=(cnt:Int):=by omega
 have nw:(cnt:Int)<=((16777216:Nat):Int):=by omega
 have gH:List.replicate cnt [AV.int .i64 0]=dV (dq cnt L 0 0) cnt:=by rw[ya,pr]
 (repeat(first|((repeat(revert hN;revert N;apply Pn.out));refine wk (tw @jW (tw @nw (tw @Int.le_refl (tw @tH @gH)))) ?_;(repeat(refine Pn.mk ?_;intro N hN)))|((try apply Or.inl);refine⟨_,aq.x (IW) (sd (tw @jW (tw @nw (tw @Int.le_refl (tw @tH @gH))))),?_⟩;refine hN _ _ ?_;clear hN N)))
 refine aZ (fun n env st=>∃i:Nat,n=((leads cnt L).length)-i/\i<=((leads cnt L).length)/\env 27=.int .i64 (i:Int)/\st.get ⟨221002001,n0+1+1⟩=some ⟨true,1,dV (dq cnt L i 0) cnt⟩/\(n0+1+1<st.next)) ((leads cnt L).length) ⟨0,by omega,by omega,sl (tw @gH @tH),sl (tw @gH @tH),(by(try dsimp only);omega)⟩ ?_
 rintro n_c env_c st_c ⟨i,rfl,cle,c27,cg0,cI0⟩ cfr
 have c1:=cfr 1 (by kernel_rfl);have c8:=cfr 8 (by kernel_rfl);have c9:=cfr 9 (by kernel_rfl);have yw:=cfr 25 (by kernel_rfl);have yy:=cfr 26 (by kernel_rfl)
 simp only[go_sem, ↓reduceIte,Nat.reduceEqDiff,Nat.reduceAdd,Nat.reduceSub,Nat.reduceLeDiff,reduceCtorEq,gH,tH]at c1 c8 c9 yw yy
 clear cfr
 by_cases hi:(i:Int)<((leads cnt L).length:Int)
 ·have iF:∀{e:Env} {gg:Rows} {nx:Nat},(e 27=.int .i64 (IntKind.i64.wrap ((i:Int)+1)))->(gg ⟨221002001,n0+1+1⟩=some ⟨true,1,dV (dq cnt L (i+1) 0) cnt⟩)->(n0+1+1<nx)->∃m0,m0<((leads cnt L).length)-i/\∃i:Nat,m0=((leads cnt L).length)-i/\i<=((leads cnt L).length)/\e 27=.int .i64 (i:Int)/\gg ⟨221002001,n0+1+1⟩=some ⟨true,1,dV (dq cnt L i 0) cnt⟩/\(n0+1+1<nx):=fun x1 x2 x3=>⟨_,by omega,i+1,rfl,by omega,(by rw[x1,aD (by omega)]),x2,x3⟩
  have fe:i<(leads cnt L).length:=by omega
  have iV:((fN cnt L).map BC)[i]? =some (BC (members cnt L (leads cnt L)[i])):=by simp[fN,fe]
  have tb:(leads cnt L).getD i 0=(leads cnt L)[i]:=by simp[List.getD_eq_getElem?_getD,fe]
  have lL:∀m,dq cnt L i m=fun x=>if cD L x<i then cD L x else if x∈(members cnt L (leads cnt L)[i]).take m then i else 0:=fun m=>by unfold dq;rw[tb]
  have sg:=fun x (hx:x<cnt)=>tR hL (n:=cnt) (k:=x) (i:=i) hx fe
  have mE:(members cnt L (leads cnt L)[i]).Nodup:=List.nodup_range.filter _
  have P8:∀x∈members cnt L (leads cnt L)[i],x<cnt:=fun x hx=>(l7.1 hx).1
  have hMc:(members cnt L (leads cnt L)[i]).length<=cnt:=by
   have:=List.length_filter_le (fun k=>L k==(leads cnt L)[i]) (List.range cnt)
   simpa[members]using this
  generalize members cnt L (leads cnt L)[i]=M at *
  have DR:(M.map eN).length=M.length:=by simp
  (try((repeat(revert hN;revert N;apply Pn.out));refine wk (tw @c27 (tw @cg0 (tw @c1 (tw @c8 (tw @c9 (tw @yw (tw @yy (tw @hi (tw @tH (tw @iV (tw @BC.eq_1 @DR))))))))))) ?_;(repeat(refine Pn.mk ?_;intro N hN))))
  refine aZ (fun n env st=>∃m:Nat,n=(M.length)-m/\m<=(M.length)/\env 34=.int .i64 (m:Int)/\st.get ⟨221002001,n0+1+1⟩=some ⟨true,1,dV (dq cnt L i m) cnt⟩/\(n0+1+1<st.next)) (M.length) ⟨0,by omega,by omega,sl (tw @c27 (tw @cg0 (tw @c1 (tw @c8 (tw @c9 (tw @yw (tw @yy @DR))))))),sl (tw @c27 (tw @cg0 (tw @c1 (tw @c8 (tw @c9 (tw @yw (tw @yy @DR))))))),(by(try dsimp only);omega)⟩ ?_
  rintro n_d env_d st_d ⟨m,rfl,dle,d34,dg0,dI0⟩ dfr
  have d1:=dfr 1 (by kernel_rfl);have d8:=dfr 8 (by kernel_rfl);have d9:=dfr 9 (by kernel_rfl);have d10:=dfr 10 (by kernel_rfl);have d25:=dfr 25 (by kernel_rfl);have d26:=dfr 26 (by kernel_rfl);have d27:=dfr 27 (by kernel_rfl);have d32:=dfr 32 (by kernel_rfl);have d33:=dfr 33 (by kernel_rfl)
  simp only[go_sem, ↓reduceIte,Nat.reduceEqDiff,Nat.reduceAdd,Nat.reduceSub,Nat.reduceLeDiff,reduceCtorEq,c27,cg0,c1,c8,c9,yw,yy,DR]at d1 d8 d9 d10 d25 d26 d27 d32 d33
  clear dfr
  have tl:=gC (dq cnt L i m) cnt
  by_cases hm:(m:Int)<(M.length:Int)
  ·have uF:∀{e:Env} {gg:Rows} {nx:Nat},(e 34=.int .i64 (IntKind.i64.wrap ((m:Int)+1)))->(gg ⟨221002001,n0+1+1⟩=some ⟨true,1,dV (dq cnt L i (m+1)) cnt⟩)->(n0+1+1<nx)->∃m0,m0<(M.length)-m/\∃m:Nat,m0=(M.length)-m/\m<=(M.length)/\e 34=.int .i64 (m:Int)/\gg ⟨221002001,n0+1+1⟩=some ⟨true,1,dV (dq cnt L i m) cnt⟩/\(n0+1+1<nx):=fun x1 x2 x3=>⟨_,by omega,m+1,rfl,by omega,(by rw[x1,aD (by omega)]),x2,x3⟩
   have AE:m<M.length:=by omega
   have xh:(M.map eN)[m]? =some (eN M[m]):=by simp[AE]
   have xp:=P8 _ (List.getElem_mem AE)
   have DY:(M[m]:Int)<(cnt:Int):=by omega
   have DX:=fJ (f:=dq cnt L i m) xp
   have eL:(dV (dq cnt L i m) cnt).set M[m] (eN i)=dV (dq cnt L i (m+1)) cnt:=ql xp (by
    have h1:=(sg _ xp).1 (List.getElem_mem AE)
    rw[lL]
    simp only[]
    rw[if_neg (by omega),if_pos (by rw[List.take_succ_eq_append_getElem AE];exact List.mem_append_right _ (List.mem_singleton.2 rfl))]) fun x hx gM=>by
    rw[lL,lL]
    simp only[]
    rw[List.take_succ_eq_append_getElem AE]
    simp only[List.mem_append,List.mem_singleton,gM,or_false]
   rw[eN]at eL DX
   generalize M[m]=xm at *
   (try((repeat(revert hN;revert N;apply Pn.out));refine wk (tw @d34 (tw @dg0 (tw @d1 (tw @d8 (tw @d9 (tw @d10 (tw @d25 (tw @d26 (tw @d27 (tw @d32 (tw @d33 (tw @hm (tw @hi (tw @xh (tw @DR (tw @DY (tw @DX (tw @tl (tw @eL @eN.eq_1))))))))))))))))))) ?_;(repeat(refine Pn.mk ?_;intro N hN))))
   refine uF ?_ ?_ (by(try dsimp only);omega)
   all_goals simp only[go_sem, ↓reduceIte,Nat.reduceEqDiff,Nat.reduceAdd,Nat.reduceSub,Nat.reduceLeDiff,reduceCtorEq,d34,dg0,d1,d8,d9,d10,d25,d26,d27,d32,d33,eL]
  ·have jc:m=M.length:=by omega
   subst jc
   have tK:dV (dq cnt L i M.length) cnt=dV (dq cnt L (i+1) 0) cnt:=iC fun x hx=>by
    rw[lL,List.take_length]
    simp only[dq,List.take_zero,List.not_mem_nil,if_false]
    have h1:=sg x hx
    by_cases h2:cD L x<i
    ·rw[if_pos h2,if_pos (by omega)]
    ·rw[if_neg h2]
     by_cases h3:x∈M
     ·rw[if_pos h3,if_pos (by have:=h1.1 h3;omega),h1.1 h3]
     ·rw[if_neg h3,if_neg fun h4=>h3 (h1.2 (by omega))]
   (try((repeat(revert hN;revert N;apply Pn.out));refine wk (tw @d34 (tw @dg0 (tw @d1 (tw @d8 (tw @d9 (tw @d10 (tw @d25 (tw @d26 (tw @d27 (tw @d32 (tw @d33 (tw @hm (tw @hi (tw @tH @DR)))))))))))))) ?_;(repeat(refine Pn.mk ?_;intro N hN))))
   refine iF ?_ ?_ (by(try dsimp only);omega)
   all_goals simp only[go_sem, ↓reduceIte,Nat.reduceEqDiff,Nat.reduceAdd,Nat.reduceSub,Nat.reduceLeDiff,reduceCtorEq,c27,cg0,c1,c8,c9,yw,yy,d34,dg0,d1,d8,d9,d10,d25,d26,d27,d32,d33,tK]
 have kF:i=(leads cnt L).length:=by omega
 subst kF
 have vW:dV (dq cnt L (leads cnt L).length 0) cnt=dV (cD L) cnt:=iC fun x hx=>by rw[dq,if_pos (kB hL hx)]
 rw[vW]at cg0
 have tl:=gC (cD L) cnt
 (try((repeat(revert hN;revert N;apply Pn.out));refine wk (tw @c27 (tw @cg0 (tw @c1 (tw @c8 (tw @c9 (tw @yw (tw @yy (tw @hi @tH)))))))) ?_;(repeat(refine Pn.mk ?_;intro N hN))))
 refine aZ (fun n env st=>∃j:Nat,n=(0)-j/\j<=(0)/\env 46=.int .i64 (j:Int)/\env 14=.bD) (0) ⟨0,by omega,by omega,sl (tw @c27 (tw @cg0 (tw @c1 (tw @c8 (tw @c9 (tw @yw @yy)))))),sl (tw @c27 (tw @cg0 (tw @c1 (tw @c8 (tw @c9 (tw @yw @yy))))))⟩ ?_
 rintro n_f env_f st_f ⟨j,rfl,fle,f46,f14⟩ ffr
 have f8:=ffr 8 (by kernel_rfl);have f44:=ffr 44 (by kernel_rfl);have f45:=ffr 45 (by kernel_rfl)
 simp only[go_sem, ↓reduceIte,Nat.reduceEqDiff,Nat.reduceAdd,Nat.reduceSub,Nat.reduceLeDiff,reduceCtorEq,c27,cg0,c1,c8,c9,yw,yy]at f8 f44 f45
 clear ffr
 have hj:¬(j:Int)<((0:Nat):Int):=by omega
 (try((repeat(revert hN;revert N;apply Pn.out));refine wk (tw @f46 (tw @f14 (tw @f8 (tw @f44 (tw @f45 (tw @hj @tH)))))) ?_;(repeat(refine Pn.mk ?_;intro N hN))))
 refine jL (.inl rfl) (r1:=.int .i64 ((leads cnt L).length:Int)) (r2:=.bD) (sd @Nat.zero_add) (sd @Nat.zero_add) ?_
 simp only[e9,bt,cz,er,jE,Rx,Option.map_some]
theorem Aq (cnt:Nat) (rm:1<=cnt) (hn:cnt<=1048576) (bs:List PB) (hb:∀b∈bs,b.a<cnt/\b.b<cnt) (qE:bs.length<=1048576) (t:Int):aq Tryz.prog 221 [.int .i64 cnt,Bc bs,.int .i64 t] (.gD [.int .i64 (leads cnt (eO (aV t bs))).length,Bc (dF (eO (aV t bs)) bs)]):=by
 cases bs with
 |nil=>
  have h:=yC cnt rm hn t
  have Rx:(leads cnt (eO (aV t []))).length=cnt:=by
   show(leads cnt id).length=cnt
   rw[leads,List.filter_eq_self.2 (fun a _=>by simp)];simp
  rw[Rx]
  exact h
 |cons b r=>
  rw[Bd (by simp)]
  exact yD cnt rm hn (b::r) hb (by simp) qE t
end Go.Proofs.YtgoelphibofcmaaGreat.V

namespace Go.Proofs.YtgoelphibofcmaaGreat.V
open Go.RowKit
attribute [local irreducible] dQ wpOps fX Call
attribute [local go_sem] aQ fM eU fY fW dm upd cG K.av cQ AV.cells AV.cell rowOf rowsOf part ld rowAt bQ cC dE ea gZ bS dh eo fV fj dB ef dd dc dS dU b4 bj cV bW cY cW ec eh ee cU ck de eb bV aU da cK gY bx cP cj bd dv bl dG AV.undef bH bK dW dZ dO dL cN ek eu cJ ej ei cZ db List.getD_cons_zero List.getD_cons_succ List.getD_nil List.all_cons List.all_nil Bool.and_true Bool.true_and Bool.and_self Bool.not_true Bool.not_false Option.map_some Option.map_none Option.bind_some Option.bind_none List.length_cons List.length_nil List.take_succ_cons List.take_zero List.take_nil List.drop_succ_cons List.drop_zero List.drop_nil List.head?_cons List.map_cons List.map_nil List.getElem?_cons_zero List.getElem?_cons_succ List.cons_append List.nil_append List.append_nil List.length_map List.set_cons_zero List.set_cons_succ Nat.reduceMul eq_self Int.toNat_natCast Int.natCast_nonneg and_self true_and and_true decide_true decide_false Bool.false_eq_true Nat.zero_add Nat.add_zero List.contains_cons List.contains_nil Bool.or_false Bool.false_or beq_self_eq_true Nat.reduceBEq ne_eq not_true_eq_false not_false_eq_true Id.mk.injEq false_and and_false Nat.reduceLT Int.reduceLE Int.reduceLT Int.reduceToNat Int.reduceNeg Int.reduceAdd Nat.le_refl List.length_append beq_true beq_false Bool.not_eq_eq_eq_not or_false false_or dX ae aj aJ bq bG cr aY bf aW bp cR bB
attribute [local go_sem] G1
section
attribute [-go_sem] dE
theorem Nx (n:Nat) (hn:n<=1048576):aq Tryz.prog 277 [.int .u64 1,.int .u64 n] (.gD [.int .u64 0,.int .u64 n]):=by
 refine aq.body eF rfl fun hl n0=>?_
 clear hl
 have b1:(BitVec.ofInt 64 (n:Int)&&& BitVec.ofInt 64 4294967295).toNat=n:=by
  rw[BitVec.toNat_and]
  have e1:(BitVec.ofInt 64 (n:Int)).toNat=n:=by rw[BitVec.toNat_ofInt];omega
  have e2:(BitVec.ofInt 64 4294967295).toNat=2 ^ 32-1:=by decide
  rw[e1,e2]
  exact Nat.and_two_pow_sub_one_of_lt_two_pow (by omega)
 have zn:IntKind.u64.wrap (n:Int)=n:=by rw[IntKind.wrap_u64];omega
 have i1:dE .and .u64 (n:Int) 4294967295=some (.int .u64 n):=by
  show some (AV.int .u64 (IntKind.u64.wrap (((BitVec.ofInt 64 (n:Int)&&& BitVec.ofInt 64 4294967295).toNat:Nat):Int)))= _
  rw[b1,zn]
 have i2:dE .and .u64 1 4294967295=some (.int .u64 1):=rfl
 have i3:dE .and .u64 0 4294967295=some (.int .u64 0):=rfl
 have i4:dE .mul .u64 1 (n:Int)=some (.int .u64 n):=by simp only[dE,Int.one_mul,zn]
 have i5:dE .mul .u64 0 (n:Int)=some (.int .u64 0):=by simp only[dE,Int.zero_mul];rfl
 have i6:dE .mul .u64 1 0=some (.int .u64 0):=rfl
 have i7:dE .mul .u64 0 0=some (.int .u64 0):=rfl
 have i8:dE .add .u64 0 0=some (.int .u64 0):=rfl
 have a3:Int.fdiv 1 (2 ^ min 32 64)=0:=by decide
 have a4:Int.fdiv (n:Int) (2 ^ min 32 64)=0:=by
  rw[Int.fdiv_eq_ediv_of_nonneg _ (by decide)]
  have h32:(2:Int) ^ min 32 64=4294967296:=by decide
  exact Int.ediv_eq_zero_of_lt (by omega) (by omega)
 have z1:Int.fdiv 0 (2 ^ min 32 64)=0:=by decide
 (try((repeat(revert hN;revert N;apply Pn.out));refine wk (tw @i1 (tw @i2 (tw @i3 (tw @i4 (tw @i5 (tw @i6 (tw @i7 (tw @i8 (tw @a3 (tw @a4 @z1)))))))))) ?_;(repeat(refine Pn.mk ?_;intro N hN))))
 refine jL (.inl rfl) (r1:=.int .u64 0) (r2:=.int .u64 n) (sd @Nat.zero_add) (sd @Nat.zero_add) ?_
 simp only[e9,bt,cz,er,Option.map_some]
end
theorem Tw (n:Nat) (hn:n<=1048576):aq Tryz.prog 275 [.int .u64 1,.int .u64 n] (.gD [.int .u64 0,.int .u64 n]):=by
 refine aq.body eF rfl fun hl n0=>?_
 clear hl
 have h:=Nx n hn
 (repeat(first|((repeat(revert hN;revert N;apply Pn.out));refine wk @Nat.zero_add ?_;(repeat(refine Pn.mk ?_;intro N hN)))|((try apply Or.inl);refine⟨_,aq.x (h) (sd @Nat.zero_add),?_⟩;refine hN _ _ ?_;clear hN N)))
 refine jL (.inl rfl) (r1:=.int .u64 0) (r2:=.int .u64 n) (sd @Nat.zero_add) (sd @Nat.zero_add) ?_
 simp only[e9,bt,cz,er,Option.map_some]
theorem Ll (cnt:Nat) (rm:1<=cnt) (hn:cnt<=1048576) (v:Int) (x:Id) (σ:au) (hx:σ.get x=some ⟨true,1,[[.int .i64 v]]⟩) (Qs:x.bE<σ.next):
  Call Tryz.prog 271 [.own x 0 1,.int .i64 cnt] σ fun r σ'=>∃o:Id,r=.own o 0 cnt/\σ'.get o=some ⟨true,1,List.replicate cnt [.int .i64 v]⟩/\σ.next<=o.bE/\o.bE<σ'.next/\∀i:Id,i.bE<σ.next->σ'.get i=σ.get i:=by
 refine eJ eF rfl fun hl=>?_
 clear hl
 have h:=Tw cnt hn
 have w1:IntKind.u64.wrap (cnt:Int)=cnt:=by rw[IntKind.wrap_u64];omega
 have w2:IntKind.i64.wrap (cnt:Int)=cnt:=LY (by omega)
 have w0:IntKind.u64.wrap ((1:Nat):Int)=1:=by decide
 have g1:¬(cnt:Int)<0:=by omega
 have g2:¬(9223372036854775807:Int)<cnt:=by omega
 have jW:(0:Int)<=(cnt:Int):=by omega
 have nw:(cnt:Int)<=((16777216:Nat):Int):=by omega
 have RI:=dr Qs
 have rn:(List.replicate cnt [AV.int .i64 0]).length=cnt:=List.length_replicate
 have m1:min 1 cnt=1:=by omega
 (repeat(first|((repeat(revert hN;revert N;apply Pn.out));refine wk (tw @w0 (tw @w1 (tw @w2 (tw @g1 (tw @g2 (tw @jW (tw @nw (tw @Int.le_refl (tw @Nat.le_refl (tw @hx (tw @RI (tw @rn @m1)))))))))))) ?_;(repeat(refine Pn.mk ?_;intro N hN)))|((try apply Or.inl);refine⟨_,aq.x (h) (sd (tw @w0 (tw @w1 (tw @w2 (tw @g1 (tw @g2 (tw @jW (tw @nw (tw @Int.le_refl (tw @Nat.le_refl (tw @hx (tw @RI (tw @rn @m1))))))))))))),?_⟩;refine hN _ _ ?_;clear hN N)))
 refine aZ (fun m env st=>∃k:Nat,m=cnt-k/\1<=k/\k<=cnt/\env 8=.int .i64 (k:Int)/\st.get ⟨271006002,σ.next+1+1+1+1⟩=some ⟨true,1,List.replicate k [.int .i64 v]++List.replicate (cnt-k) [.int .i64 0]⟩/\σ.next+4<st.next/\∀i:Id,i.bE<σ.next->st.get i=σ.get i) (cnt-1) ⟨1,rfl,Nat.le_refl _,rm,by(simp only[go_sem, ↓reduceIte,Nat.reduceEqDiff,Nat.reduceAdd,Nat.reduceSub,Nat.reduceLeDiff,reduceCtorEq,m1])<;>rfl,?_,by(try dsimp only);omega,fun i hi=>?_⟩ ?_
 ·simp only[go_sem, ↓reduceIte,Nat.reduceEqDiff,Nat.reduceAdd,Nat.reduceSub,Nat.reduceLeDiff,reduceCtorEq]
  rw[List.drop_replicate];rfl
 ·have E5:=dr hi
  simp only[go_sem, ↓reduceIte,Nat.reduceEqDiff,Nat.reduceAdd,Nat.reduceSub,Nat.reduceLeDiff,reduceCtorEq,E5]
 rintro m env_b st_b ⟨k,rfl,yk,xk,b8,bg,bn,fK⟩ bkp
 have b7:=bkp 7 (by kernel_rfl)
 simp only[go_sem, ↓reduceIte,Nat.reduceEqDiff,Nat.reduceAdd,Nat.reduceSub,Nat.reduceLeDiff,reduceCtorEq]at b7
 clear bkp
 have S4:(List.replicate k [AV.int .i64 v]++List.replicate (cnt-k) [AV.int .i64 0]).length=cnt:=by simp;omega
 by_cases hk:(k:Int)<(cnt:Int)
 ·have fP:k<cnt:=by omega
  have yj:(k:Int)<=(cnt:Int):=by omega
  have hw:IntKind.i64.wrap ((k:Int)+((min k (cnt-k):Nat):Int))=((k+min k (cnt-k):Nat):Int):=by rw[bI (by omega)];omega
  have oH:List.take k (List.replicate k [AV.int .i64 v]++List.replicate (cnt-k) [AV.int .i64 0])=List.replicate k [AV.int .i64 v]:=List.take_left' (by simp)
  have dx:(List.replicate k [AV.int .i64 v]).all (fun c=>c.length==1&&c.all AV.cell)=true:=List.all_eq_true.2 fun c hc=>by rw[List.eq_of_mem_replicate hc];rfl
  have hlr:(List.replicate k [AV.int .i64 v]).length=k:=List.length_replicate
  have Qk:k+(cnt-k)=cnt:=by omega
  have xo:List.replicate k [AV.int .i64 v]++List.take (min k (cnt-k)) (List.replicate k [AV.int .i64 v])++List.drop (k+min k (cnt-k)) (List.replicate k [AV.int .i64 v]++List.replicate (cnt-k) [AV.int .i64 0])=List.replicate (k+min k (cnt-k)) [AV.int .i64 v]++List.replicate (cnt-(k+min k (cnt-k))) [AV.int .i64 0]:=by
   rw[List.take_replicate,List.drop_append,List.drop_of_length_le (by simp),List.nil_append,hlr,List.drop_replicate,List.replicate_append_replicate]
   congr 2
   ·omega
   ·omega
  (try((repeat(revert hN;revert N;apply Pn.out));refine wk (tw @b7 (tw @b8 (tw @bg (tw @S4 (tw @hk (tw @yj (tw @xk (tw @hw (tw @fP (tw @Nat.sub_zero (tw @oH (tw @dx (tw @hlr (tw @Qk (tw @Nat.le_refl @xo))))))))))))))) ?_;(repeat(refine Pn.mk ?_;intro N hN))))
  refine⟨_,?_,k+min k (cnt-k),rfl,by omega,by omega,sd @hw,sd @xo,by(try dsimp only);omega,fun i hi=>?_⟩
  ·omega
  ·have E5:=dr hi
   have:=fK i hi
   simp only[go_sem, ↓reduceIte,Nat.reduceEqDiff,Nat.reduceAdd,Nat.reduceSub,Nat.reduceLeDiff,reduceCtorEq,E5,this]
 ·have kT:k=cnt:=by omega
  subst kT
  (try((repeat(revert hN;revert N;apply Pn.out));refine wk (tw @b7 (tw @b8 (tw @bg (tw @S4 @hk)))) ?_;(repeat(refine Pn.mk ?_;intro N hN))))
  refine eV (.inl rfl) (vs:=[.own ⟨271006002,σ.next+1+1+1+1⟩ 0 k]) (sd @Nat.zero_add) ⟨⟨271006002,σ.next+1+1+1+1⟩,rfl,by simp only[go_sem, ↓reduceIte,Nat.reduceEqDiff,Nat.reduceAdd,Nat.reduceSub,Nat.reduceLeDiff,reduceCtorEq,bg];simp,by(try dsimp only);omega,by(try dsimp only);omega,fun i hi=>fK i hi⟩
end Go.Proofs.YtgoelphibofcmaaGreat.V

namespace Go.Proofs.YtgoelphibofcmaaGreat.V
open Go.RowKit
attribute [local irreducible] dQ wpOps fX Call
attribute [local go_sem] aQ fM eU fY fW dm upd cG K.av cQ AV.cells AV.cell rowOf rowsOf part ld rowAt bQ cC dE ea gZ bS dh eo fV fj dB ef dd dc dS dU b4 bj cV bW cY cW ec eh ee cU ck de eb bV aU da cK gY bx cP cj bd dv bl dG AV.undef bH bK dW dZ dO dL cN ek eu cJ ej ei cZ db List.getD_cons_zero List.getD_cons_succ List.getD_nil List.all_cons List.all_nil Bool.and_true Bool.true_and Bool.and_self Bool.not_true Bool.not_false Option.map_some Option.map_none Option.bind_some Option.bind_none List.length_cons List.length_nil List.take_succ_cons List.take_zero List.take_nil List.drop_succ_cons List.drop_zero List.drop_nil List.head?_cons List.map_cons List.map_nil List.getElem?_cons_zero List.getElem?_cons_succ List.cons_append List.nil_append List.append_nil List.length_map List.set_cons_zero List.set_cons_succ Nat.reduceMul eq_self Int.toNat_natCast Int.natCast_nonneg and_self true_and and_true decide_true decide_false Bool.false_eq_true Nat.zero_add Nat.add_zero List.contains_cons List.contains_nil Bool.or_false Bool.false_or beq_self_eq_true Nat.reduceBEq ne_eq not_true_eq_false not_false_eq_true Id.mk.injEq false_and and_false Nat.reduceLT Int.reduceLE Int.reduceLT Int.reduceToNat Int.reduceNeg Int.reduceAdd Nat.le_refl List.length_append beq_true beq_false Bool.not_eq_eq_eq_not or_false false_or dX ae aj aJ bq bG cr aY bf aW bp cR bB
def lG (R:Nat->Id) (n k:Nat):List (List AV):=(List.range k).map fun i=>[.own (R i) 0 n]
theorem kE (R:Nat->Id) (n k:Nat):(lG R n k).length=k:=by simp[lG]
theorem sZ {R:Nat->Id} {n k i:Nat} (h:i<k):(lG R n k)[i]? =some [.own (R i) 0 n]:=by simp[lG,h]
theorem uc (R:Nat->Id) (n k:Nat):lG R n (k+1)=lG R n k++[[.own (R k) 0 n]]:=by simp[lG,List.range_succ]
def yW (c:Nat->Nat->Int) (n:Nat):List (List AV):=(List.range n).map fun i=>[.sl (eC (c i) n)]
theorem DE {c:Nat->Nat->Int} {n i:Nat} (h:i<n):(yW c n)[i]? =some [.sl (eC (c i) n)]:=by simp[yW,h]
theorem x9 (c:Nat->Nat->Int) (n:Nat):(yW c n).length=n:=by simp[yW]
structure G8 (X o1 o2:Id) (R1 R2:Nat->Id) (n nb:Nat):Prop where
 sx:X.site=245001001
 s1:o1.site=245004008
 s2:o2.site=245005008
 UU:∀i,i<n->(R1 i).site=245004006
 OP:∀i,i<n->(R2 i).site=245005006
 i1:∀i j,i<n->j<n->R1 i=R1 j->i=j
 i2:∀i j,i<n->j<n->R2 i=R2 j->i=j
 vx:X.bE<nb
 v1:o1.bE<nb
 v2:o2.bE<nb
 UX:∀i,i<n->(R1 i).bE<nb
 RT:∀i,i<n->(R2 i).bE<nb
structure ow (g:Rows) (X o1 o2:Id) (R1 R2:Nat->Id) (n:Nat) (c f:Nat->Nat->Int):Prop where
 x:g X=some ⟨true,2,[[.own o1 0 n,.own o2 0 n]]⟩
 t1:g o1=some ⟨true,1,lG R1 n n⟩
 t2:g o2=some ⟨true,1,lG R2 n n⟩
 r1:∀i,i<n->g (R1 i)=some ⟨true,1,eC (c i) n⟩
 r2:∀i,i<n->g (R2 i)=some ⟨true,1,eC (f i) n⟩
theorem ow.frame {g g':Rows} {X o1 o2:Id} {R1 R2:Nat->Id} {n nb:Nat} {c f:Nat->Nat->Int} (I:G8 X o1 o2 R1 R2 n nb) (h:ow g X o1 o2 R1 R2 n c f) (hf:∀i:Id,i.bE<nb->g' i=g i):ow g' X o1 o2 R1 R2 n c f:=
 ⟨(hf _ I.vx).trans h.x,(hf _ I.v1).trans h.t1,(hf _ I.v2).trans h.t2,fun i hi=>(hf _ (I.UX i hi)).trans (h.r1 i hi),fun i hi=>(hf _ (I.RT i hi)).trans (h.r2 i hi)⟩
theorem oZ {f:Nat->Nat->Int} {a b:Nat} {d:Int} {n:Nat} (hb:b<n):(eC (f a) n).set b (az (f a b+d))=eC (bump f a b d a) n:=lH hb (by simp[bump]) fun i _ hi=>by simp[bump,hi]
theorem km {f:Nat->Nat->Int} {a b i:Nat} {d:Int} (h:i≠a):bump f a b d i=f i:=by funext v;simp[bump,h]
theorem ow.add {g g':Rows} {X o1 o2:Id} {R1 R2:Nat->Id} {n nb:Nat} {c f:Nat->Nat->Int} (I:G8 X o1 o2 R1 R2 n nb) (h:ow g X o1 o2 R1 R2 n c f) (b:PB) (ha:b.a<n) (hb:b.b<n) (hA:b.a≠b.b->g' (R1 b.a)=some ⟨true,1,eC (bump c b.a b.b b.s b.a) n⟩) (hB:g' (R1 b.b)=some ⟨true,1,eC (oy c b b.b) n⟩) (hf:∀i:Id,i.bE<nb->(i=R1 b.a)=False->(i=R1 b.b)=False->g' i=g i):ow g' X o1 o2 R1 R2 n (oy c b) f:=by
 have ne:∀{i:Id} {s:Nat},i.site=s->(s==245004006)=false->∀a,a<n->(i=R1 a)=False:=fun {i s} hi hs a ha=>by
  simp only[eq_iff_iff,iff_false]
  rintro rfl
  rw[I.UU a ha]at hi
  subst hi
  simp at hs
 refine⟨(hf _ I.vx (ne I.sx (by decide) _ ha) (ne I.sx (by decide) _ hb)).trans h.x,(hf _ I.v1 (ne I.s1 (by decide) _ ha) (ne I.s1 (by decide) _ hb)).trans h.t1,(hf _ I.v2 (ne I.s2 (by decide) _ ha) (ne I.s2 (by decide) _ hb)).trans h.t2,fun i hi=>?_,fun i hi=>(hf _ (I.RT i hi) (ne (I.OP i hi) (by decide) _ ha) (ne (I.OP i hi) (by decide) _ hb)).trans (h.r2 i hi)⟩
 by_cases Mc:i=b.b
 ·subst Mc;exact hB
 ·by_cases P3:i=b.a
  ·subst P3
   rw[hA Mc,oy,km Mc]
  ·rw[oy,km Mc,km P3,hf _ (I.UX i hi) (by simp only[eq_iff_iff,iff_false];exact fun he=>P3 (I.i1 i _ hi ha he)) (by simp only[eq_iff_iff,iff_false];exact fun he=>Mc (I.i1 i _ hi hb he))]
   exact h.r1 i hi
def lW (n:Nat) (c f:Nat->Nat->Int):List AV:=[.sl (yW c n),.sl (yW f n)]
theorem GZ {g:Rows} {R:Nat->Id} {n k:Nat} {c:Nat->Nat->Int} (h:∀i,i<k->g (R i)=some ⟨true,1,eC (c i) n⟩) (m:Nat):eH (dX g) (m+3) (lG R n k)=some ((List.range k).map fun i=>[.sl (eC (c i) n)]):=by
 induction k with
 |zero=>rw[show lG R n 0=[]from rfl,eH];rfl
 |succ k ih=>
  have e1:V.fz (dX g) (m+3) (.own (R k) 0 n)=some (.sl (eC (c k) n)):=by
   rw[iP];simp only[dX,h k (by omega),Option.map_some,if_true]
   rw[if_pos (by rw[dR];omega),List.drop_zero,List.take_of_length_le (by rw[dR];omega),Bj];rfl
  have app:∀(xs ys:List (List AV)) (UY T6:List (List AV)),eH (dX g) (m+3) xs=some UY->eH (dX g) (m+3) ys=some T6->eH (dX g) (m+3) (xs++ys)=some (UY++T6):=by
   intro xs
   induction xs with
   |nil=>intro ys UY T6 h1 h2;rw[eH]at h1;cases h1;exact h2
   |cons a xs ih2=>
    intro ys UY T6 h1 h2
    rw[eH]at h1
    rw[List.cons_append,eH]
    cases ha:dt (dX g) (m+3) a with
    |none=>simp[ha]at h1
    |some a'=>
     cases hb:eH (dX g) (m+3) xs with
     |none=>simp[ha,hb]at h1
     |some b'=>
      simp[ha,hb]at h1
      subst h1
      rw[ih2 ys b' T6 hb h2];rfl
  rw[uc,List.range_succ,List.map_append]
  refine app _ _ _ _ (ih fun i hi=>h i (by omega)) ?_
  rw[eH,ae,aj,e1,eH];rfl
theorem ow.fz {g:Rows} {X o1 o2:Id} {R1 R2:Nat->Id} {n:Nat} {c f:Nat->Nat->Int} (h:ow g X o1 o2 R1 R2 n c f):V.fz (dX g) 6 (.ptr X 0 0)=some (.du (lW n c f)):=by
 refine xb (sz:=2) (rows:=[[.own o1 0 n,.own o2 0 n]]) (by simp[dX,h.x]) rfl ?_
 have e1:V.fz (dX g) 5 (.own o1 0 n)=some (.sl (yW c n)):=by
  rw[iP];simp only[dX,h.t1,Option.map_some,if_true]
  rw[if_pos (by rw[kE];omega),List.drop_zero,List.take_of_length_le (by rw[kE];omega)]
  rw[show eH _ 4 _=some (yW c n)from GZ h.r1 1];rfl
 have e2:V.fz (dX g) 5 (.own o2 0 n)=some (.sl (yW f n)):=by
  rw[iP];simp only[dX,h.t2,Option.map_some,if_true]
  rw[if_pos (by rw[kE];omega),List.drop_zero,List.take_of_length_le (by rw[kE];omega)]
  rw[show eH _ 4 _=some (yW f n)from GZ h.r2 1];rfl
 simp only[List.drop_zero,ae,aj,e1,e2,lW,Option.map_some]
theorem Ps (n:Nat) (c f:Nat->Nat->Int) (u v:Nat) (hu:u<n) (hv:v<n):aq Tryz.prog 272 [.du (lW n c f),.int .i64 u,.int .i64 v] (.bool (decide (f u v<c u v))):=by
 refine aq.body eF rfl fun hl n0=>?_
 clear hl
 have h1:=DE (c:=c) hu
 have h2:=DE (c:=f) hu
 have h3:=ep (f:=c u) hv
 have h4:=ep (f:=f u) hv
 have hui:(u:Int)<(n:Int):=by omega
 have E5:(v:Int)<(n:Int):=by omega
 have l1:=x9 c n
 have l2:=x9 f n
 have l3:=dR (c u) n
 have l4:=dR (f u) n
 rw[az]at h3 h4
 (try((repeat(revert hN;revert N;apply Pn.out));refine wk (tw @lW.eq_1 (tw @h1 (tw @h2 (tw @h3 (tw @h4 (tw @hui (tw @E5 (tw @l1 (tw @l2 (tw @l3 @l4)))))))))) ?_;(repeat(refine Pn.mk ?_;intro N hN))))
 exact bc (b:=decide (f u v<c u v)) (.inl rfl) (sd @Nat.zero_add) rfl
end Go.Proofs.YtgoelphibofcmaaGreat.V
