/- Sequences are played: plain, and by the reference. -/
import Derived.Test.YtgoelphibofcmaaGreatInB
import Derived.Test.YtgoelphibofcmaaGreatInD
import Derived.Shelf.SlSortCmp.WholeK
import Derived.Shelf.SlSortCmp.NoneTotal
import Derived.Ground.SlsfProg
import Derived.Test.YtgoelphibofcmaaGreatProg
import Derived.Test.YtgoelphibofcmaaGreatInC
import Derived.Maps.RangeRun
import Derived.Test.YtgoelphibofcmaaGreatChecked
import Derived.RangeFuncNested
import Derived.RangeFuncBound
import Derived.RangeFuncCalls
import Derived.RangeFuncLeaves
import Derived.Shelf.Abstract
import Derived.Shelf.RegionOpen
import Derived.WalkKit
import Derived.OwnWalkIn
import Derived.TacticsInMore
import Derived.LoopNIn
import Derived.LoopIn
import Derived.BigQuiet
import Derived.RangeFuncBox
import Derived.RangeFuncWrites
import Derived.Maps.AppendAt
set_option linter.unusedVariables false
set_option linter.unusedSimpArgs false
set_option maxRecDepth 100000
set_option maxHeartbeats 16000000
namespace Go.Proofs.YtgoelphibofcmaaGreat.V
open Go.RowKit
attribute [local irreducible] dO wpOps gy Call
attribute [local go_sem] aT fK eS ga fZ dj upd cF K.av cP AV.cells AV.cell rowOf rowsOf part ld rowAt bL cD dG ef ik bV de ew fW fe dw ek dc db dU dV cj bl cU b4 cW cV ei eo ej cR cm dd eh bW aV cZ cI ij bx cK ck bd du bj dI AV.undef bH bS dW eb dQ dP cJ ev eE cH er ep cY da List.getD_cons_zero List.getD_cons_succ List.getD_nil List.all_cons List.all_nil Bool.and_true Bool.true_and Bool.and_self Bool.not_true Bool.not_false Option.map_some Option.map_none Option.bind_some Option.bind_none List.length_cons List.length_nil List.take_succ_cons List.take_zero List.take_nil List.drop_succ_cons List.drop_zero List.drop_nil List.head?_cons List.map_cons List.map_nil List.getElem?_cons_zero List.getElem?_cons_succ List.cons_append List.nil_append List.append_nil List.length_map List.set_cons_zero List.set_cons_succ Nat.reduceMul eq_self Int.toNat_natCast Int.natCast_nonneg and_self true_and and_true decide_true decide_false Bool.false_eq_true Nat.zero_add Nat.add_zero List.contains_cons List.contains_nil Bool.or_false Bool.false_or beq_self_eq_true Nat.reduceBEq ne_eq not_true_eq_false not_false_eq_true Id.mk.injEq false_and and_false Nat.reduceLT Int.reduceLE Int.reduceLT Int.reduceToNat Int.reduceNeg Int.reduceAdd Nat.le_refl List.length_append beq_true beq_false Bool.not_eq_eq_eq_not or_false false_or dR ae aj aI bq bG cC aY bh aW bp cQ bJ
def ec (s:az) (es:List ad) (i:Nat):List ad:=(es.take i).foldl (fun n x=>iz n x) s.bf.ai
noncomputable def Ho (s:az) (es:List ad) (i:Nat):Bool:=dY s.aH (aD es i).aO&&iC s (ec s es i) (aD es i).aQ (aD es i).aO
noncomputable def ft (s:az) (es:List ad) (i:Nat):Bool:=Ho s es i&&decide ((ec s es i).length<500)
noncomputable def Hp (s:az) (es:List ad):Int×Int:=match (List.range es.length).find? (fun i=> !ft s es i)with
 |none=>(0,0)
 |some i=>if Ho s es i then(0,4)else((i:Int),5)
theorem yZ (s:az) (es:List ad):ec s es 0=s.bf.ai:=rfl
theorem pE (s:az) (es:List ad) {i:Nat} (hi:i<es.length):ec s es (i+1)=iz (ec s es i) (aD es i):=by
 unfold ec
 rw[mJ hi,List.foldl_append];rfl
theorem oY {s:az} {es:List ad} {i:Nat} (hi:i<es.length) (h:∀j,j<i->ft s es j=true) (hb:ft s es i=false):Hp s es=if Ho s es i then(0,4)else((i:Int),5):=by
 rw[Hp,DD hi (by rw[hb];rfl) (fun j hj=>by rw[h j hj];rfl)]
theorem F1 {s:az} {es:List ad} (h:∀j,j<es.length->ft s es j=true):Hp s es=(0,0):=by
 rw[Hp,uy (fun j hj=>by rw[h j hj];rfl)]
theorem Ll {s:az} {l:List ad} (hA:lu s.aH l) {x:ad} (hlen:l.length<500) (ht:dY s.aH x.aO=true) (hf:iC s l x.aQ x.aO=true) (hs:s.aH.ai.length<=160):lu s.aH (iz l x):=by
 have fh:jc x.aO 0 159=true:=iN (by have h:=ht;unfold dY at h;have:=eI h;omega)
 have hp:x7 x.aQ=true:=by simp[iC]at hf;exact hf.1.1
 have h0:eR l x.aQ<0:=(zr hA x.aQ).1 (by simp[iC]at hf;exact hf.1.2)
 have hR:=Cu hA.1.Kl h0
 refine⟨⟨by rw[o8];omega,fun i uW=>?_⟩,fun t ht2=>?_⟩
 ·rcases oO.1 (k8 uW)with h|h
  ·rw[Dd,h]
   exact⟨hp,fh,fun h1=>by have z:=hR (i-1) i (by omega) uW;rw[h]at z;exact z⟩
  ·obtain⟨j,hj,iq⟩:=List.getElem_of_mem h
   have h1:=hA.1.ok j hj
   rw[Dd,fH hj,iq]at h1
   exact⟨h1.1,h1.2.1,fun h0=>hR _ _ (by omega) uW⟩
 ·rcases oO.1 ht2 with rfl|h
  ·exact ht
  ·exact hA.2 t h
theorem mo {s:az} (hP:vL s) {es:List ad}:∀i,i<=es.length->(∀j,j<i->ft s es j=true)->lu s.aH (ec s es i)
 |0,_,_=>hP.x9
 |i+1,hi,h=>by
  have ih:=mo hP (es:=es) i (by omega) fun j hj=>h j (by omega)
  have hg:=h i (by omega)
  rw[ft,Bool.and_eq_true,Ho,Bool.and_eq_true]at hg
  rw[pE s es (by omega)]
  exact Ll ih (of_decide_eq_true hg.2) hg.1.1 hg.1.2 hP.set.F9
theorem JH (s:az) (l:List ad) (p:aL) (t:Int) (ht:dY s.aH t=false):aq Tryz.prog 100 [.dq (au s),.dq [.sl (l.map aa)],.agg [.int .i64 p.fb,.int .i64 p.eV,.int .i64 t]] (.bool false):=by
 refine aq.body eK rfl fun kd n0=>?_
 clear kd
 have h1:=qO p
 have h2:=(qP s.aH t).cut mixed (.ptr _ [.sl (s.bf.ai.map aa),.int .i64 s.ay] (.same _ .nil))
 rw[ht]at h2
 cases h0:x7 p
 ·rw[h0]at h1
  (repeat(first|((repeat(revert hN;revert N;apply Pn.out));refine wk (tw @au.eq_1 (tw @ab.eq_1 @ah.eq_1)) ?_;(repeat(refine Pn.mk ?_;intro N hN)))|((try apply Or.inl);refine⟨_,aq.x (h1) (sd (tw @au.eq_1 (tw @ab.eq_1 @ah.eq_1))),?_⟩;refine hN _ _ ?_;clear hN N)))
  exact bc (b:=false) (.inl rfl) (sd @Nat.zero_add) rfl
 ·rw[h0]at h1
  (repeat(first|((repeat(revert hN;revert N;apply Pn.out));refine wk (tw @au.eq_1 (tw @ab.eq_1 @ah.eq_1)) ?_;(repeat(refine Pn.mk ?_;intro N hN)))|((try apply Or.inl);refine⟨_,aq.x (h1) (sd (tw @au.eq_1 (tw @ab.eq_1 @ah.eq_1))),?_⟩;refine hN _ _ ?_;clear hN N)|((try apply Or.inl);refine⟨_,aq.x (h2) (sd (tw @au.eq_1 (tw @ab.eq_1 @ah.eq_1))),?_⟩;refine hN _ _ ?_;clear hN N)))
  exact bc (b:=false) (.inl rfl) (sd @Nat.zero_add) rfl
theorem G6 (s:az) (hP:vL s) (l:List ad) (hA:lu s.aH l) (p:aL) (t:Int):aq Tryz.prog 100 [.dq (au s),.dq [.sl (l.map aa)],.agg [.int .i64 p.fb,.int .i64 p.eV,.int .i64 t]] (.bool (dY s.aH t&&iC s l p t)):=by
 cases ht:dY s.aH t
 ·exact JH s l p t ht
 ·exact JI s hP l hA p t ht
def AtK (n:Nat) (l:List ad) (x:ad) (r:AV) (σ':ar):Prop:=(500<=l.length/\r=.gE [.agg [.bE],.int .i64 4])∨(l.length<500/\∃o:Id,r=.gE [.agg [.own o 0 (iz l x).length],.int .i64 0]/\σ'.get o=some ⟨true,3,(iz l x).map aa⟩/\n<=o.bQ/\o.bQ<σ'.next)
theorem Ca (l:List ad) (hl:l.length<=1048576) (x:ad) (n0:Nat):Call Tryz.prog 81 [.dq [.sl (l.map aa)],.agg (aa x)] ⟨fun _=>none,n0⟩ (AtK n0 l x):=by
 refine eQ eK rfl fun kd=>?_
 clear kd
 by_cases h5:500<=l.length
 ·have hd:((500:Nat):Int)<=(l.length:Int):=by omega
  have me:(500:Int)<=(l.length:Int):=by omega
  (try((repeat(revert hN;revert N;apply Pn.out));refine wk (tw @aa.eq_1 (tw @hd @me)) ?_;(repeat(refine Pn.mk ?_;intro N hN))))
  exact eX (.inl rfl) (vs:=[.agg [.bE],.int .i64 4]) (sd @Nat.zero_add) (.inl ⟨h5,rfl⟩)
 ·have me:¬(500:Int)<=(l.length:Int):=by omega
  (try((repeat(revert hN;revert N;apply Pn.out));refine wk (tw @aa.eq_1 @me) ?_;(repeat(refine Pn.mk ?_;intro N hN))))
  refine .inr (aJ _ _ _ _ _ (fun r σ1 hq=>?_) (Lh.val (fun n=>B5 l hl x.aQ x.aO n) (by simp only[ae,aj,aW,bh,aI,Option.map_some];rfl)))
  obtain⟨⟨o,rfl,q1,q2,q3⟩,hK⟩:=hq
  obtain⟨g1,x1⟩:=σ1
  (try dsimp only at q1 q2 q3 hK)
  have hx:(⟨x.aQ,x.aO⟩:ad)=x:=rfl
  rw[hx]at q1 ⊢
  have k4:=hK.2 ⟨81000001,n0⟩ (by(try dsimp only);omega)
  simp only[go_sem, ↓reduceIte,Nat.reduceEqDiff,Nat.reduceAdd,Nat.reduceSub,Nat.reduceLeDiff,reduceCtorEq]at k4
  have vo:=bU (a:=⟨81000001,n0⟩) (b:=o) (by(try dsimp only at q2);(try dsimp only);omega)
  refine hN _ _ ?_
  clear hN N
  (try((repeat(revert hN;revert N;apply Pn.out));refine wk @k4 ?_;(repeat(refine Pn.mk ?_;intro N hN))))
  exact eX (.inl rfl) (vs:=[.agg [.own o 0 (iz l x).length],.int .i64 0]) (sd @Nat.zero_add) (.inr ⟨by omega,o,rfl,sd (tw @vo @q1),by(try dsimp only at q2);omega,by(try dsimp only);omega⟩)
theorem Iz {X o:Id} {l:List ad} {σ:ar} (hl:l.length<=1048576) (x:ad) (hX:σ.get X=some ⟨true,1,[[.own o 0 l.length]]⟩) (ho:σ.get o=some ⟨true,3,l.map aa⟩):
  Call Tryz.prog 81 [.ptr X 0 0,.agg (aa x)] σ (fun r σ'=>AtK σ.next l x r σ'/\Kept σ σ'):=by
 refine vw mixed (args':=[.dq [.sl (l.map aa)],.agg (aa x)]) (by
  have hp:=r9 hX ho
  simp only[ae,aj,hp,Option.map_some,aa,bh,aI]) (aJ _ _ _ _ _ (fun r σ' hq=>?_) (sM mixed (Ca l hl x σ.next)))
 obtain⟨hq,hn⟩:=hq
 rcases hq with⟨h5,rfl⟩|⟨h5,o2,rfl,h2,h3,h4⟩
 ·exact⟨[],rfl,fun i hi=>by(cases hi),.inl ⟨h5,rfl⟩,hn,fun j hj=>kP (g':=σ'.get) (List.not_mem_nil)⟩
 ·refine⟨[o2],rfl,fun i hi=>?_,.inr ⟨h5,o2,rfl,(pf (by simp)).trans h2,h3,h4⟩,hn,fun j hj=>kP fun hc=>?_⟩
  ·rw[List.mem_singleton.1 hi]
   exact⟨_,h2,rfl,fun cs dy a ha=>by
    obtain⟨y,_,rfl⟩:=List.mem_map.1 dy
    simp[aa]at ha
    rcases ha with rfl|rfl|rfl<;>rfl⟩
  ·rw[List.mem_singleton.1 hc]at hj;omega
noncomputable def Le (s:az) (es:List ad):AV:=if (Hp s es).2=0 then .sl ((ec s es es.length).map aa)else .bE
theorem G7 (s:az) (hP:vL s) (es:List ad) (hq:es.length<=500):aq Tryz.prog 183 [.dq (au s),.sl (es.map aa)] (.gE [.agg [Le s es],.int .i64 (Hp s es).1,.int .i64 (Hp s es).2]):=by
 refine aq.body eK rfl fun kd n0=>?_
 clear kd
 have RM:=hP.x9.1.xx
 (try((repeat(revert hN;revert N;apply Pn.out));refine wk @au.eq_1 ?_;(repeat(refine Pn.mk ?_;intro N hN))))
 refine .inr (aJ _ _ _ _ _ (fun r σ1 FH=>?_) (Lh.val (fun n=>(B4 s.bf.ai (by omega) n).cut mixed (.ptr _ [.int .i64 s.ay] .nil)) (by simp only[ae,aj,aW,Option.map_some];rfl)))
 obtain⟨⟨o,rfl,q1,q2,q3⟩,hK⟩:=FH
 obtain⟨g1,x1⟩:=σ1
 (try dsimp only at q1 q2 q3 hK)
 have rN:=hK.1
 (try dsimp only at rN)
 have k4:=hK.2 ⟨183000000,n0⟩ (by(try dsimp only);omega)
 simp only[go_sem, ↓reduceIte,Nat.reduceEqDiff,Nat.reduceAdd,Nat.reduceSub,Nat.reduceLeDiff,reduceCtorEq]at k4
 refine hN _ _ ?_
 clear hN N
 (try((repeat(revert hN;revert N;apply Pn.out));refine wk (tw @k4 @au.eq_1) ?_;(repeat(refine Pn.mk ?_;intro N hN))))
 have hz:=yZ s es
 refine aZ (fun n env st=>∃i:Nat,n=(es.length)-i/\i<=(es.length)/\env 8=.int .i64 (i:Int)/\st.get ⟨183000000,n0⟩=some ⟨true,1,[[.bE]]⟩/\(x1<st.next/\∃o:Id,st.get ⟨183001004,x1⟩=some ⟨true,1,[[.own o 0 (ec s es i).length]]⟩/\st.get o=some ⟨true,3,(ec s es i).map aa⟩/\o.bQ<st.next/\o≠⟨183001004,x1⟩)/\(∀j:Nat,j<i->ft s es j=true)) (es.length) ⟨0,by omega,by omega,sl (tw @k4 @au.eq_1),sl (tw @k4 @au.eq_1),by(try dsimp only);exact⟨by omega,o,by rw[hz];simp only[go_sem, ↓reduceIte,Nat.reduceEqDiff,Nat.reduceAdd,Nat.reduceSub,Nat.reduceLeDiff,reduceCtorEq],by(have vo:=dr (i:=o) (n:=x1) (by omega));rw[hz];simp only[go_sem, ↓reduceIte,Nat.reduceEqDiff,Nat.reduceAdd,Nat.reduceSub,Nat.reduceLeDiff,reduceCtorEq,vo,q1],by omega,fun e=>by rw[e]at q3;(try dsimp only at q3);omega⟩,fun _ h=>absurd h (Nat.not_lt_zero _)⟩ ?_
 rintro n_a env_a st_a ⟨i,rfl,ale,a8,ag0,j4,j9⟩ dx
 have a0:=dx 0 (by kernel_rfl);have a1:=dx 1 (by kernel_rfl);have a4:=dx 4 (by kernel_rfl);have a7:=dx 7 (by kernel_rfl)
 simp only[go_sem, ↓reduceIte,Nat.reduceEqDiff,Nat.reduceAdd,Nat.reduceSub,Nat.reduceLeDiff,reduceCtorEq,k4,au]at a0 a1 a4 a7
 clear dx
 obtain⟨an,o,aX,ao,zo,aoX⟩:=j4
 have BB:=mo hP (es:=es) i (by omega) j9
 have BG:=BB.1.xx
 by_cases hi:(i:Int)<(es.length:Int)
 ·have cz:∀{e:Env} {gg:Rows} {nx:Nat},(e 8=.int .i64 (IntKind.i64.wrap ((i:Int)+1)))->(gg ⟨183000000,n0⟩=some ⟨true,1,[[.bE]]⟩)->(x1<nx/\∃o:Id,gg ⟨183001004,x1⟩=some ⟨true,1,[[.own o 0 (ec s es (i+1)).length]]⟩/\gg o=some ⟨true,3,(ec s es (i+1)).map aa⟩/\o.bQ<nx/\o≠⟨183001004,x1⟩)->(ft s es i=true)->∃m0,m0<(es.length)-i/\∃i:Nat,m0=(es.length)-i/\i<=(es.length)/\e 8=.int .i64 (i:Int)/\gg ⟨183000000,n0⟩=some ⟨true,1,[[.bE]]⟩/\(x1<nx/\∃o:Id,gg ⟨183001004,x1⟩=some ⟨true,1,[[.own o 0 (ec s es i).length]]⟩/\gg o=some ⟨true,3,(ec s es i).map aa⟩/\o.bQ<nx/\o≠⟨183001004,x1⟩)/\(∀j:Nat,j<i->ft s es j=true):=fun x1 x2 x3 x4=>⟨_,by omega,i+1,rfl,by omega,(by rw[x1,aA (by omega)]),x2,x3,(all_succ j9 x4)⟩
  have fh:i<es.length:=by omega
  have jl:=fE fh
  have Tt:=pE s es fh
  have UK:=G6 s hP _ BB (aD es i).aQ (aD es i).aO
  have ke:(es.map aa).length=es.length:=by simp
  have v4:=dr (i:=⟨183000000,n0⟩) (n:=st_a.next) (by(try dsimp only);omega)
  have vX:=dr (i:=⟨183001004,x1⟩) (n:=st_a.next) an
  have vo:=dr zo
  (try((repeat(revert hN;revert N;apply Pn.out));refine wk (tw @a8 (tw @ag0 (tw @a0 (tw @a1 (tw @a4 (tw @a7 (tw @hi (tw @jl (tw @ke @aa.eq_1))))))))) ?_;(repeat(refine Pn.mk ?_;intro N hN))))
  refine .inl ⟨_,aq.x UK (by
   have hp:=r9 aX ao
   simp only[ae,aj,aW,hp,bh,aI,Option.map_some]
   rfl),?_⟩
  refine hN _ _ ?_
  clear hN N
  have D7:(dY s.aH (aD es i).aO&&iC s (ec s es i) (aD es i).aQ (aD es i).aO)=Ho s es i:=rfl
  rw[D7]
  cases hB:Ho s es i
  ·have hr:=oY fh j9 (by rw[ft,hB];rfl)
   rw[hB]at hr
   have hw:Le s es=.bE:=by rw[Le,hr];rfl
   (try((repeat(revert hN;revert N;apply Pn.out));refine wk (tw @a8 (tw @ag0 (tw @a0 (tw @a1 (tw @a4 (tw @a7 (tw @jl (tw @ke @aa.eq_1)))))))) ?_;(repeat(refine Pn.mk ?_;intro N hN))))
   exact mB (.inl rfl) (vs:=[.agg [.bE],.int .i64 (i:Int),.int .i64 5]) (sd (tw @a8 (tw @ag0 (tw @a0 (tw @a1 (tw @a4 @a7)))))) (by
    rw[hw,hr];simp only[eY,eU,uQ,bw,cr,jw,eu,Option.map_some];rfl)
  ·(try((repeat(revert hN;revert N;apply Pn.out));refine wk (tw @a8 (tw @ag0 (tw @a0 (tw @a1 (tw @a4 (tw @a7 (tw @jl (tw @ke (tw @hi @aa.eq_1))))))))) ?_;(repeat(refine Pn.mk ?_;intro N hN))))
   refine .inr (aJ _ _ _ _ _ (fun r σ2 mQ=>?_) (Iz (X:=⟨183001004,x1⟩) (o:=o) (l:=ec s es i) (by omega) (aD es i) aX ao))
   obtain⟨wE,hK⟩:=mQ
   obtain⟨g2,x2⟩:=σ2
   (try dsimp only at wE hK)
   have DZ:=hK.1
   (try dsimp only at DZ)
   have k4:=hK.2 ⟨183000000,n0⟩ (by(try dsimp only);omega)
   have kX:=hK.2 ⟨183001004,x1⟩ (by(try dsimp only);omega)
   simp only[go_sem, ↓reduceIte,Nat.reduceEqDiff,Nat.reduceAdd,Nat.reduceSub,Nat.reduceLeDiff,reduceCtorEq,v4,vX,ag0,aX]at k4 kX
   have w4:=dr (i:=⟨183000000,n0⟩) (n:=x2) (by(try dsimp only);omega)
   have wX:=dr (i:=⟨183001004,x1⟩) (n:=x2) (by(try dsimp only);omega)
   refine hN _ _ ?_
   clear hN N
   rcases wE with⟨h5,rfl⟩|⟨h5,o2,rfl,p1,p2,p3⟩
   ·have hr:=oY fh j9 (by rw[ft,hB,Bool.true_and];exact decide_eq_false (by omega))
    rw[hB]at hr
    have hw:Le s es=.bE:=by rw[Le,hr];rfl
    (try((repeat(revert hN;revert N;apply Pn.out));refine wk (tw @a8 (tw @ag0 (tw @a0 (tw @a1 (tw @a4 (tw @a7 (tw @k4 (tw @kX (tw @w4 @wX))))))))) ?_;(repeat(refine Pn.mk ?_;intro N hN))))
    exact mB (.inl rfl) (vs:=[.agg [.bE],.int .i64 0,.int .i64 4]) (sd (tw @a8 (tw @ag0 (tw @a0 (tw @a1 (tw @a4 @a7)))))) (by
     rw[hw,hr];simp only[eY,eU,uQ,bw,cr,jw,eu,Option.map_some];rfl)
   ·(try dsimp only at p1 p2 p3)
    have sI:ft s es i=true:=by rw[ft,hB,Bool.true_and];exact decide_eq_true h5
    have wo:=dr (i:=o2) (n:=x2) p3
    have oX:=bU (a:=⟨183001004,x1⟩) (b:=o2) (by(try dsimp only at p2);(try dsimp only);omega)
    (try((repeat(revert hN;revert N;apply Pn.out));refine wk (tw @a8 (tw @ag0 (tw @a0 (tw @a1 (tw @a4 (tw @a7 (tw @k4 (tw @kX (tw @w4 @wX))))))))) ?_;(repeat(refine Pn.mk ?_;intro N hN))))
    refine cz ?_ ?_ (by(try dsimp only);exact⟨by omega,o2,by rw[Tt];simp only[go_sem, ↓reduceIte,Nat.reduceEqDiff,Nat.reduceAdd,Nat.reduceSub,Nat.reduceLeDiff,reduceCtorEq,wX]<;>rfl,by rw[Tt];simp only[go_sem, ↓reduceIte,Nat.reduceEqDiff,Nat.reduceAdd,Nat.reduceSub,Nat.reduceLeDiff,reduceCtorEq,wo,oX,p1],by omega,fun e=>by rw[e]at p2;(try dsimp only at p2);omega⟩) (sI)
    all_goals simp only[go_sem, ↓reduceIte,Nat.reduceEqDiff,Nat.reduceAdd,Nat.reduceSub,Nat.reduceLeDiff,reduceCtorEq,a8,ag0,a0,a1,a4,a7,k4,w4]
 ·have kN:i=es.length:=by omega
  subst kN
  have hr:=F1 j9
  have hw:Le s es=.sl ((ec s es es.length).map aa):=by rw[Le,hr];rfl
  have v4:=dr (i:=⟨183000000,n0⟩) (n:=st_a.next) (by(try dsimp only);omega)
  have n4:(o=(⟨183000000,n0⟩:Id))=False:=eq_false fun e=>by rw[e,ag0]at ao;simp at ao
  (try((repeat(revert hN;revert N;apply Pn.out));refine wk (tw @a8 (tw @ag0 (tw @a0 (tw @a1 (tw @a4 (tw @a7 (tw @hi @aX))))))) ?_;(repeat(refine Pn.mk ?_;intro N hN))))
  exact mB (.inl rfl) (vs:=[.agg [.own o 0 (ec s es es.length).length],.int .i64 0,.int .i64 0]) (sd (tw @a8 (tw @ag0 (tw @a0 (tw @a1 (tw @a4 @a7)))))) (by
   rw[hw,hr]
   simp only[eY,eU,uQ,bw,cr,eu]
   rw[fw (e:=aa) (l:=ec s es es.length) (sz:=3) (sd (tw @n4 @ao)) rfl (fun x=>Q5 _ 2 x)];rfl)
end Go.Proofs.YtgoelphibofcmaaGreat.V

namespace Go.Proofs.YtgoelphibofcmaaGreat.V
open Go.RowKit
attribute [local irreducible] dO wpOps gy Call
attribute [local go_sem] aT fK eS ga fZ dj upd cF K.av cP AV.cells AV.cell rowOf rowsOf part ld rowAt bL cD dG ef ik bV de ew fW fe dw ek dc db dU dV cj bl cU b4 cW cV ei eo ej cR cm dd eh bW aV cZ cI ij bx cK ck bd du bj dI AV.undef bH bS dW eb dQ dP cJ ev eE cH er ep cY da List.getD_cons_zero List.getD_cons_succ List.getD_nil List.all_cons List.all_nil Bool.and_true Bool.true_and Bool.and_self Bool.not_true Bool.not_false Option.map_some Option.map_none Option.bind_some Option.bind_none List.length_cons List.length_nil List.take_succ_cons List.take_zero List.take_nil List.drop_succ_cons List.drop_zero List.drop_nil List.head?_cons List.map_cons List.map_nil List.getElem?_cons_zero List.getElem?_cons_succ List.cons_append List.nil_append List.append_nil List.length_map List.set_cons_zero List.set_cons_succ Nat.reduceMul eq_self Int.toNat_natCast Int.natCast_nonneg and_self true_and and_true decide_true decide_false Bool.false_eq_true Nat.zero_add Nat.add_zero List.contains_cons List.contains_nil Bool.or_false Bool.false_or beq_self_eq_true Nat.reduceBEq ne_eq not_true_eq_false not_false_eq_true Id.mk.injEq false_and and_false Nat.reduceLT Int.reduceLE Int.reduceLT Int.reduceToNat Int.reduceNeg Int.reduceAdd Nat.le_refl List.length_append beq_true beq_false Bool.not_eq_eq_eq_not or_false false_or dR ae aj aI bq bG cC aY bh aW bp cQ bJ
noncomputable def nI (s:az) (es:List ad):Int×Int:=if nu s then(if es.length<=500 then Hp s es else(0,2))else(0,1)
noncomputable def Aa (s:az) (es:List ad):AV:=if (nI s es).2=0 then .sl ((ec s es es.length).map aa)else .bE
theorem vI (s:az) (es:List ad) (hn:gn s.aH) (hg:s.aH.ax.length<=1048576) (ht:s.aH.ai.length<=1048576):jq Tryz.prog 146 [.agg (au s),.sl (es.map aa)] (.gE [.agg [Aa s es],.int .i64 (nI s es).1,.int .i64 (nI s es).2]):=by
 have h1:=Md s hn hg ht
 cases h0:nu s
 ·have hr:nI s es=(0,1):=by rw[nI,h0];rfl
  have hw:Aa s es=.bE:=by rw[Aa,hr];rfl
  rw[hr,hw]
  rw[h0]at h1
  refine jq.body eK rfl fun kd σ=>?_
  clear kd
  rw[au]at h1 ⊢
  (repeat(first|((repeat(revert hN;revert N;apply Pn.out));refine wk @Nat.zero_add ?_;(repeat(refine Pn.mk ?_;intro N hN)))|((try apply Or.inl);refine⟨_,aq.x (h1) (sd @Nat.zero_add),?_⟩;refine hN _ _ ?_;clear hN N)))
  exact tt (.inl rfl) (vs:=[.agg [.bE],.int .i64 0,.int .i64 1]) (sd @Nat.zero_add) (by simp only[eY,bJ,bh,ae,aj,aY,aI,Option.map_some])
 ·rw[h0]at h1
  have hP:=sr.1 h0
  by_cases h5:es.length<=500
  ·have hr:nI s es=Hp s es:=by rw[nI,h0,if_pos rfl,if_pos h5]
   have hw:Aa s es=Le s es:=by rw[Aa,hr];rfl
   have h2:=G7 s hP es h5
   rw[hr,hw]
   have hd:decide ((500:Int)<(es.length:Int))=false:=decide_eq_false (by omega)
   obtain⟨w,RX⟩:∃w,Le s es=w:=⟨_,rfl⟩
   rw[RX]at h2 ⊢
   have nH:w.cells=[w]/\w.cell=true/\∀g,fz g 5 w=some w/\fz g 4 w=some w:=by
    rw[<-RX];unfold Le
    split
    ·exact⟨rfl,rfl,fun g=>⟨cC _ _ _,cC _ _ _⟩⟩
    ·exact⟨rfl,rfl,fun g=>⟨aY _ _,aY _ _⟩⟩
   obtain⟨mN,xP,hc3⟩:=nH
   unfold AV.cells at mN
   unfold AV.cell at xP
   have hc4:=fun g=>(hc3 g).2
   refine jq.body eK rfl fun kd σ=>?_
   clear kd
   rw[au]at h1 h2 ⊢
   (repeat(first|((repeat(revert hN;revert N;apply Pn.out));refine wk (tw @hd (tw @mN @xP)) ?_;(repeat(refine Pn.mk ?_;intro N hN)))|((try apply Or.inl);refine⟨_,aq.x (h1) (sd (tw @hd (tw @mN @xP))),?_⟩;refine hN _ _ ?_;clear hN N)|((try apply Or.inl);refine⟨_,aq.x (h2) (sd (tw @hd (tw @mN @xP))),?_⟩;refine hN _ _ ?_;clear hN N)))
   exact tt (.inl rfl) (vs:=[.agg [w],.int .i64 (Hp s es).1,.int .i64 (Hp s es).2]) (sd @Nat.zero_add) (by simp only[eY,bJ,bh,ae,aj,hc4,aI,Option.map_some])
  ·have hr:nI s es=(0,2):=by rw[nI,h0,if_pos rfl,if_neg h5]
   have hw:Aa s es=.bE:=by rw[Aa,hr];rfl
   rw[hr,hw]
   have hd:decide ((500:Int)<(es.length:Int))=true:=decide_eq_true (by omega)
   refine jq.body eK rfl fun kd σ=>?_
   clear kd
   rw[au]at h1 ⊢
   (repeat(first|((repeat(revert hN;revert N;apply Pn.out));refine wk @hd ?_;(repeat(refine Pn.mk ?_;intro N hN)))|((try apply Or.inl);refine⟨_,aq.x (h1) (sd @hd),?_⟩;refine hN _ _ ?_;clear hN N)))
   exact tt (.inl rfl) (vs:=[.agg [.bE],.int .i64 0,.int .i64 2]) (sd @Nat.zero_add) (by simp only[eY,bJ,bh,ae,aj,aY,aI,Option.map_some])
theorem Em (s:az) (es:List ad) (hn:gn s.aH) (hg:s.aH.ax.length<=1048576) (ht:s.aH.ai.length<=1048576):aq Tryz.prog 89 [.dq (au s),.sl (es.map aa)] (.int .i64 (nI s es).2):=by
 refine aq.body eK rfl fun kd n0=>?_
 clear kd
 have h1:=vI s es hn hg ht
 obtain⟨w,RX⟩:∃w,Aa s es=w:=⟨_,rfl⟩
 rw[RX]at h1
 have nH:w.cells=[w]/\w.cell=true:=by
  rw[<-RX];unfold Aa
  split<;>exact⟨rfl,rfl⟩
 obtain⟨mN,xP⟩:=nH
 unfold AV.cells at mN
 unfold AV.cell at xP
 rw[au]at h1
 (repeat(first|((repeat(revert hN;revert N;apply Pn.out));refine wk (tw @au.eq_1 (tw @mN @xP)) ?_;(repeat(refine Pn.mk ?_;intro N hN)))|((try apply Or.inl);refine⟨_,jq.x (h1) _,?_⟩;refine hN _ _ ?_;clear hN N)))
 exact cN (b:=(nI s es).2) (.inl rfl) (sd @Nat.zero_add) rfl
def p2 (d:Nat):Int:=2 ^ d
noncomputable def iI (s:az) (l:List ad) (x:ad):Nat->Int
 |0=>0
 |d+1=>if 0<=gQ l (dp x.aQ d)/\0<gp s.aH x.aO d (gQ l (dp x.aQ d))then iI s l x d+p2 d else iI s l x d
theorem zZ (s:az) (l:List ad) (x:ad):∀d,0<=iI s l x d/\iI s l x d<p2 d
 |0=>by simp[iI,p2]
 |d+1=>by
  have ih:=zZ s l x d
  have h:p2 (d+1)=p2 d+p2 d:=by unfold p2;rw[Int.pow_succ];omega
  rw[iI,h]
  split<;>omega
noncomputable def n9 (s:az) (es:List ad) (i:Nat):List Int:=(List.range i).map fun j=>iI s (ec s es j) (aD es j) 4
noncomputable def ya (s:az) (es:List ad) (i:Nat):List Int:=(List.range i).map fun j=>qb s.aH (gQ (ec s es j)) (aD es j).aQ (aD es j).aO
theorem ml (s:az) (es:List ad) (i:Nat):(n9 s es i).length=i:=by simp[n9]
theorem CD (s:az) (es:List ad) (i:Nat):(ya s es i).length=i:=by simp[ya]
theorem yS (s:az) (es:List ad) (i:Nat):(n9 s es (i+1)).map aE=(n9 s es i).map aE++[[.int .i64 (iI s (ec s es i) (aD es i) 4)]]:=by simp[n9,List.range_succ,aE]
theorem HD (s:az) (es:List ad) (i:Nat):(ya s es (i+1)).map aE=(ya s es i).map aE++[[.int .i64 (qb s.aH (gQ (ec s es i)) (aD es i).aQ (aD es i).aO)]]:=by simp[ya,List.range_succ,aE]
theorem ND {d:Nat} (h:d<4):IntKind.i64.wrap (1*2 ^ min d 64)=p2 d:=by
 have:d=0∨d=1∨d=2∨d=3:=by omega
 rcases this with rfl|rfl|rfl|rfl<;>rfl
theorem NB {d:Nat} (h:d<4):p2 d<=8:=by
 have:d=0∨d=1∨d=2∨d=3:=by omega
 rcases this with rfl|rfl|rfl|rfl<;>decide
def K0 (s:az) (es:List ad) (i:Nat) (X:Id) (e7 e8:AV) (g:Rows) (n:Nat):Prop:=∃o u v:Id,g X=some ⟨true,1,[[.own o 0 (ec s es i).length]]⟩/\g o=some ⟨true,3,(ec s es i).map aa⟩/\e7=.own u 0 i/\g u=some ⟨true,1,(n9 s es i).map aE⟩/\e8=.own v 0 i/\g v=some ⟨true,1,(ya s es i).map aE⟩/\X.bQ<n/\o.bQ<n/\u.bQ<n/\v.bQ<n/\o≠X/\u≠X/\v≠X/\o≠u/\o≠v/\u≠v
theorem K0.frame {s:az} {es:List ad} {i:Nat} {X:Id} {e7 e8 M6 e8':AV} {g g':Rows} {n n':Nat} (h:K0 s es i X e7 e8 g n) (h7:M6=e7) (h8:e8'=e8) (hn:n<=n') (hf:∀x:Id,x.bQ<n->g' x=g x):K0 s es i X M6 e8' g' n':=by
 obtain⟨o,u,v,a1,a2,a3,a4,a5,a6,a7,a8,a9,l5,Iy⟩:=h
 exact⟨o,u,v,(hf X a7).trans a1,(hf o a8).trans a2,h7.trans a3,(hf u a9).trans a4,h8.trans a5,(hf v l5).trans a6,by omega,by omega,by omega,by omega,Iy⟩
theorem Cb (s:az) (hP:vL s) (es:List ad) (dC:∀j,j<es.length->ft s es j=true) (hq:es.length<=500):aq Tryz.prog 90 [.dq (au s),.sl (es.map aa)] (.gE [.sl ((n9 s es es.length).map aE),.sl ((ya s es es.length).map aE)]):=by
 refine aq.body eK rfl fun kd n0=>?_
 clear kd
 have RM:=hP.x9.1.xx
 (try((repeat(revert hN;revert N;apply Pn.out));refine wk @au.eq_1 ?_;(repeat(refine Pn.mk ?_;intro N hN))))
 refine .inr (aJ _ _ _ _ _ (fun r σ1 FH=>?_) (Lh.val (fun n=>(B4 s.bf.ai (by omega) n).cut mixed (.ptr _ [.int .i64 s.ay] .nil)) (by simp only[ae,aj,aW,Option.map_some];rfl)))
 obtain⟨⟨o,rfl,q1,q2,q3⟩,hK⟩:=FH
 obtain⟨g1,x1⟩:=σ1
 (try dsimp only at q1 q2 q3 hK)
 have rN:=hK.1
 (try dsimp only at rN)
 refine hN _ _ ?_
 clear hN N
 (try((repeat(revert hN;revert N;apply Pn.out));refine wk @au.eq_1 ?_;(repeat(refine Pn.mk ?_;intro N hN))))
 refine aZ (fun n env st=>∃i:Nat,n=(es.length)-i/\i<=(es.length)/\env 9=.int .i64 (i:Int)/\(K0 s es i ⟨90001004,x1⟩ (env 7) (env 8) st.get st.next)) (es.length) ⟨0,by omega,by omega,sl @au.eq_1,by
  have vo:=dr (i:=o) (n:=x1) (by omega)
  have hz:=yZ s es
  exact⟨o,⟨90002000,x1+1⟩,⟨90003000,x1+1+1⟩,by rw[hz]<;>simp only[go_sem, ↓reduceIte,Nat.reduceEqDiff,Nat.reduceAdd,Nat.reduceSub,Nat.reduceLeDiff,reduceCtorEq],by rw[hz]<;>simp only[go_sem, ↓reduceIte,Nat.reduceEqDiff,Nat.reduceAdd,Nat.reduceSub,Nat.reduceLeDiff,reduceCtorEq,vo,q1],sl @Nat.zero_add,sl @Nat.zero_add,sl @Nat.zero_add,sl @Nat.zero_add,by(try dsimp only);omega,by(try dsimp only);omega,by(try dsimp only);omega,by(try dsimp only);omega,fun e=>by rw[e]at q3;(try dsimp only at q3);omega,by simp,by simp,fun e=>by rw[e]at q3;(try dsimp only at q3);omega,fun e=>by rw[e]at q3;(try dsimp only at q3);omega,by simp⟩⟩ ?_
 rintro n_a env_a st_a ⟨i,rfl,ale,a9,j4⟩ dx
 have a0:=dx 0 (by kernel_rfl);have a1:=dx 1 (by kernel_rfl);have a6:=dx 6 (by kernel_rfl)
 simp only[go_sem, ↓reduceIte,Nat.reduceEqDiff,Nat.reduceAdd,Nat.reduceSub,Nat.reduceLeDiff,reduceCtorEq,au]at a0 a1 a6
 clear dx
 have BB:=mo hP (es:=es) i (by omega) fun j hj=>dC j (by omega)
 have BG:=BB.1.xx
 by_cases hi:(i:Int)<(es.length:Int)
 ·have cz:∀{e:Env} {gg:Rows} {nx:Nat},(e 9=.int .i64 (IntKind.i64.wrap ((i:Int)+1)))->(K0 s es (i+1) ⟨90001004,x1⟩ (e 7) (e 8) gg nx)->∃m0,m0<(es.length)-i/\∃i:Nat,m0=(es.length)-i/\i<=(es.length)/\e 9=.int .i64 (i:Int)/\(K0 s es i ⟨90001004,x1⟩ (e 7) (e 8) gg nx):=fun x1 x2=>⟨_,by omega,i+1,rfl,by omega,(by rw[x1,aA (by omega)]),x2⟩
  have fh:i<es.length:=by omega
  have hg:=dC i fh
  rw[ft,Bool.and_eq_true,Ho,Bool.and_eq_true]at hg
  obtain⟨⟨FK,Qr⟩,Ji⟩:=hg
  have RI:x7 (aD es i).aQ=true:=by simp[iC]at Qr;exact Qr.1.1
  obtain⟨hx,hy⟩:=oZ RI
  have jl:=fE fh
  have Tt:=pE s es fh
  have Qv:=yS s es i
  have H4:=HD s es i
  have ke:(es.map aa).length=es.length:=by simp
  (try((repeat(revert hN;revert N;apply Pn.out));refine wk (tw @a9 (tw @a0 (tw @a1 (tw @a6 (tw @hi (tw @jl (tw @ke @aa.eq_1))))))) ?_;(repeat(refine Pn.mk ?_;intro N hN))))
  refine aZ (fun n env st=>∃d:Nat,n=(4)-d/\d<=(4)/\env 12=.int .i64 (d:Int)/\env 11=.int .i64 (iI s (ec s es i) (aD es i) d)/\st.get ⟨90007004,st_a.next+1⟩=some ⟨true,3,[[.int .i64 (aD es i).aQ.fb,.int .i64 (aD es i).aQ.eV,.int .i64 (aD es i).aO]]⟩/\(st_a.next+2<=st.next/\K0 s es i ⟨90001004,x1⟩ (env 7) (env 8) st.get st.next)) (4) ⟨0,by omega,by omega,sl (tw @a9 (tw @a0 (tw @a1 (tw @a6 @au.eq_1)))),sl (tw @a9 (tw @a0 (tw @a1 (tw @a6 @au.eq_1)))),sl (tw @a9 (tw @a0 (tw @a1 (tw @a6 @au.eq_1)))),by(try dsimp only);exact⟨by omega,j4.frame (sd @Nat.zero_add) (sd @Nat.zero_add) (by(try dsimp only);omega) fun x hx=>by
   have h1:=dr hx
   simp only[go_sem, ↓reduceIte,Nat.reduceEqDiff,Nat.reduceAdd,Nat.reduceSub,Nat.reduceLeDiff,reduceCtorEq,h1]⟩⟩ ?_
  rintro n_b env_b st_b ⟨d,rfl,ble,qa,b11,bg0,bI0⟩ fU
  have b0:=fU 0 (by kernel_rfl);have b1:=fU 1 (by kernel_rfl);have b6:=fU 6 (by kernel_rfl);have b9:=fU 9 (by kernel_rfl);have nB:=fU 10 (by kernel_rfl)
  simp only[go_sem, ↓reduceIte,Nat.reduceEqDiff,Nat.reduceAdd,Nat.reduceSub,Nat.reduceLeDiff,reduceCtorEq,a9,a0,a1,a6,au]at b0 b1 b6 b9 nB
  clear fU
  obtain⟨bn,bP⟩:=bI0
  obtain⟨o,u,v,a1,a2,a3,a4,a5,a6,a7,a8,a9,l5,n1,n2,n3,n4,n5,n6⟩:=bP
  by_cases hd:(d:Int)<4
  ·have gj:∀{e:Env} {gg:Rows} {nx:Nat},(e 12=.int .i64 (IntKind.i64.wrap ((d:Int)+1)))->(e 11=.int .i64 (iI s (ec s es i) (aD es i) (d+1)))->(gg ⟨90007004,st_a.next+1⟩=some ⟨true,3,[[.int .i64 (aD es i).aQ.fb,.int .i64 (aD es i).aQ.eV,.int .i64 (aD es i).aO]]⟩)->(st_a.next+2<=nx/\K0 s es i ⟨90001004,x1⟩ (e 7) (e 8) gg nx)->∃m0,m0<(4)-d/\∃d:Nat,m0=(4)-d/\d<=(4)/\e 12=.int .i64 (d:Int)/\e 11=.int .i64 (iI s (ec s es i) (aD es i) d)/\gg ⟨90007004,st_a.next+1⟩=some ⟨true,3,[[.int .i64 (aD es i).aQ.fb,.int .i64 (aD es i).aQ.eV,.int .i64 (aD es i).aO]]⟩/\(st_a.next+2<=nx/\K0 s es i ⟨90001004,x1⟩ (e 7) (e 8) gg nx):=fun x1 x2 x3 x4=>⟨_,by omega,d+1,rfl,by omega,(by rw[x1,aA (by omega)]),x2,x3,x4⟩
   have CW:d<4:=by omega
   have dK:=tf (aD es i).aQ d (iN (by omega)) hx hy
   have wE:=FT (ec s es i) (dp (aD es i).aQ d) BB.1.Kl (by omega)
   have hm:=zZ s (ec s es i) (aD es i) d
   have hp:=NB CW
   have C2:=ND CW
   have Pa:=dr (i:=⟨90007004,st_a.next+1⟩) (n:=st_b.next) (by(try dsimp only);omega)
   (repeat(first|((repeat(revert hN;revert N;apply Pn.out));refine wk (tw @qa (tw @b11 (tw @bg0 (tw @b0 (tw @b1 (tw @b6 (tw @b9 (tw @nB (tw @hd @ah.eq_1))))))))) ?_;(repeat(refine Pn.mk ?_;intro N hN)))|((try apply Or.inl);refine⟨_,aq.x (dK) (sd (tw @qa (tw @b11 (tw @bg0 (tw @b0 (tw @b1 (tw @b6 (tw @b9 (tw @nB (tw @hd @ah.eq_1)))))))))),?_⟩;refine hN _ _ ?_;clear hN N)))
   refine .inl ⟨_,aq.x wE (by
    have OY:=r9 a1 a2
    simp only[ae,aj,OY,bh,aI,Option.map_some,ah]),?_⟩
   refine hN _ _ ?_
   clear hN N
   have Uz:K0 s es i ⟨90001004,x1⟩ (env_b 7) (env_b 8) st_b.get st_b.next:=⟨o,u,v,a1,a2,a3,a4,a5,a6,a7,a8,a9,l5,n1,n2,n3,n4,n5,n6⟩
   by_cases h0:0<=gQ (ec s es i) (dp (aD es i).aQ d)
   ·have rK:=(tg s.aH hP.set.form (aD es i).aO d (gQ (ec s es i) (dp (aD es i).aQ d)) FK (iy.A4 BB _ h0) (iN (by omega))).cut mixed (.ptr _ [.sl (s.bf.ai.map aa),.int .i64 s.ay] (.same _ (.same _ (.same _ .nil))))
    by_cases hb:0<gp s.aH (aD es i).aO d (gQ (ec s es i) (dp (aD es i).aQ d))
    ·have yE:iI s (ec s es i) (aD es i) (d+1)=iI s (ec s es i) (aD es i) d+p2 d:=by rw[iI,if_pos ⟨h0,hb⟩]
     have hw:IntKind.i64.wrap (iI s (ec s es i) (aD es i) d+p2 d)=iI s (ec s es i) (aD es i) (d+1):=by rw[bI (by omega),yE]
     (repeat(first|((repeat(revert hN;revert N;apply Pn.out));refine wk (tw @qa (tw @b11 (tw @bg0 (tw @b0 (tw @b1 (tw @b6 (tw @b9 (tw @nB (tw @h0 (tw @hb (tw @C2 (tw @hw (tw @ab.eq_1 @hd))))))))))))) ?_;(repeat(refine Pn.mk ?_;intro N hN)))|((try apply Or.inl);refine⟨_,aq.x (rK) (sd (tw @qa (tw @b11 (tw @bg0 (tw @b0 (tw @b1 (tw @b6 (tw @b9 (tw @nB (tw @h0 (tw @hb (tw @C2 (tw @hw (tw @ab.eq_1 @hd)))))))))))))),?_⟩;refine hN _ _ ?_;clear hN N)))
     refine gj ?_ ?_ ?_ (by(try dsimp only);exact⟨by omega,Uz.frame (sd @Nat.zero_add) (sd @Nat.zero_add) (by(try dsimp only);omega) fun x hx=>rfl⟩)
     all_goals simp only[go_sem, ↓reduceIte,Nat.reduceEqDiff,Nat.reduceAdd,Nat.reduceSub,Nat.reduceLeDiff,reduceCtorEq,qa,b11,bg0,b0,b1,b6,b9,nB,hw,Pa]
    ·have yE:iI s (ec s es i) (aD es i) (d+1)=iI s (ec s es i) (aD es i) d:=by rw[iI,if_neg (fun h=>hb h.2)]
     (repeat(first|((repeat(revert hN;revert N;apply Pn.out));refine wk (tw @qa (tw @b11 (tw @bg0 (tw @b0 (tw @b1 (tw @b6 (tw @b9 (tw @nB (tw @h0 (tw @hb (tw @ab.eq_1 @hd))))))))))) ?_;(repeat(refine Pn.mk ?_;intro N hN)))|((try apply Or.inl);refine⟨_,aq.x (rK) (sd (tw @qa (tw @b11 (tw @bg0 (tw @b0 (tw @b1 (tw @b6 (tw @b9 (tw @nB (tw @h0 (tw @hb (tw @ab.eq_1 @hd)))))))))))),?_⟩;refine hN _ _ ?_;clear hN N)))
     refine gj ?_ ?_ ?_ (by(try dsimp only);exact⟨by omega,Uz.frame (sd @Nat.zero_add) (sd @Nat.zero_add) (by(try dsimp only);omega) fun x hx=>rfl⟩)
     all_goals simp only[go_sem, ↓reduceIte,Nat.reduceEqDiff,Nat.reduceAdd,Nat.reduceSub,Nat.reduceLeDiff,reduceCtorEq,qa,b11,bg0,b0,b1,b6,b9,nB,yE,Pa]
   ·have yE:iI s (ec s es i) (aD es i) (d+1)=iI s (ec s es i) (aD es i) d:=by rw[iI,if_neg (fun h=>h0 h.1)]
    (try((repeat(revert hN;revert N;apply Pn.out));refine wk (tw @qa (tw @b11 (tw @bg0 (tw @b0 (tw @b1 (tw @b6 (tw @b9 (tw @nB (tw @h0 @hd))))))))) ?_;(repeat(refine Pn.mk ?_;intro N hN))))
    refine gj ?_ ?_ ?_ (by(try dsimp only);exact⟨by omega,Uz.frame (sd @Nat.zero_add) (sd @Nat.zero_add) (by(try dsimp only);omega) fun x hx=>rfl⟩)
    all_goals simp only[go_sem, ↓reduceIte,Nat.reduceEqDiff,Nat.reduceAdd,Nat.reduceSub,Nat.reduceLeDiff,reduceCtorEq,qa,b11,bg0,b0,b1,b6,b9,nB,yE,Pa]
  ·have CW:d=4:=by omega
   subst CW
   have Pa:=dr (i:=⟨90007004,st_a.next+1⟩) (n:=st_b.next) (by(try dsimp only);omega)
   have vX:=dr a7
   have vo:=dr a8
   have vu:=dr a9
   have vv:=dr l5
   have e1:=eq_false n1
   have e2:=eq_false n2
   have e3:=eq_false n3
   have e4:=eq_false n4
   have e5:=eq_false n5
   have e6:=eq_false n6
   have f1:=eq_false (Ne.symm n1)
   have f2:=eq_false (Ne.symm n2)
   have f3:=eq_false (Ne.symm n3)
   have f4:=eq_false (Ne.symm n4)
   have f5:=eq_false (Ne.symm n5)
   have f6:=eq_false (Ne.symm n6)
   have tu:((⟨90007004,st_a.next+1⟩:Id)=u)=False:=eq_false fun e=>by rw[<-e,bg0]at a4;simp at a4
   have tv:((⟨90007004,st_a.next+1⟩:Id)=v)=False:=eq_false fun e=>by rw[<-e,bg0]at a6;simp at a6
   have DX:((n9 s es i).map aE).length=i:=by rw[List.length_map,ml]
   have OM:((ya s es i).map aE).length=i:=by rw[List.length_map,CD]
   have Ti:i<=16777215:=by omega
   generalize hML:(n9 s es i).map aE=ML at a4 Qv DX
   generalize hSL:(ya s es i).map aE=SL at a6 H4 OM
   have CV:=(rS s.aH hP.set (ec s es i) BB (aD es i).aQ hx hy (aD es i).aO FK).cut mixed (.ptr _ [.sl (s.bf.ai.map aa),.int .i64 s.ay] (.same _ (.same _ (.same _ .nil))))
   (try((repeat(revert hN;revert N;apply Pn.out));refine wk (tw @qa (tw @b11 (tw @bg0 (tw @b0 (tw @b1 (tw @b6 (tw @b9 (tw @nB (tw @hd (tw @a3 (tw @a4 (tw @Pa (tw @vX (tw @vo (tw @vu (tw @vv (tw @DX (tw @Ti (tw @e1 (tw @e2 (tw @e3 (tw @e4 (tw @e5 (tw @e6 (tw @f1 (tw @f2 (tw @f3 (tw @f4 (tw @f5 (tw @f6 (tw @tu @tv))))))))))))))))))))))))))))))) ?_;(repeat(refine Pn.mk ?_;intro N hN))))
   refine⟨_,aq.x CV (by
    rw[ae,aW,ae,r9 (o:=o) (L:=ec s es i)]
    ·simp only[ae,aj,bh,aI,Option.map_some];rfl
    ·simp only[go_sem, ↓reduceIte,Nat.reduceEqDiff,Nat.reduceAdd,Nat.reduceSub,Nat.reduceLeDiff,reduceCtorEq,vX,f2,f3,a1]
    ·simp only[go_sem, ↓reduceIte,Nat.reduceEqDiff,Nat.reduceAdd,Nat.reduceSub,Nat.reduceLeDiff,reduceCtorEq,vo,e4,e5,a2]),?_⟩
   refine hN _ _ ?_
   clear hN N
   (try((repeat(revert hN;revert N;apply Pn.out));refine wk (tw @qa (tw @b11 (tw @bg0 (tw @b0 (tw @b1 (tw @b6 (tw @b9 (tw @nB (tw @hd (tw @a5 (tw @a6 (tw @Pa (tw @vX (tw @vo (tw @vu (tw @vv (tw @OM (tw @Ti (tw @e1 (tw @e2 (tw @e3 (tw @e4 (tw @e5 (tw @e6 (tw @f1 (tw @f2 (tw @f3 (tw @f4 (tw @f5 (tw @f6 (tw @tu @tv))))))))))))))))))))))))))))))) ?_;(repeat(refine Pn.mk ?_;intro N hN))))
   refine .inr (aJ _ _ _ _ _ (fun r σ2 mQ=>?_) (Lh.val (fun n=>B5 (ec s es i) (by omega) (aD es i).aQ (aD es i).aO n) (by
    rw[ae,r9 (o:=o) (L:=ec s es i)]
    ·simp only[ae,aj,bh,aI,Option.map_some];rfl
    ·simp only[go_sem, ↓reduceIte,Nat.reduceEqDiff,Nat.reduceAdd,Nat.reduceSub,Nat.reduceLeDiff,reduceCtorEq,vX,f2,f3,a1]
    ·simp only[go_sem, ↓reduceIte,Nat.reduceEqDiff,Nat.reduceAdd,Nat.reduceSub,Nat.reduceLeDiff,reduceCtorEq,vo,e4,e5,a2])))
   obtain⟨⟨o2,rfl,p1,p2,p3⟩,hK⟩:=mQ
   obtain⟨g2,x2⟩:=σ2
   (try dsimp only at p1 p2 p3 hK)
   have DZ:=hK.1
   (try dsimp only at DZ)
   have kt:=hK.2 ⟨90007004,st_a.next+1⟩ (by(try dsimp only);omega)
   have kX:=hK.2 ⟨90001004,x1⟩ (by(try dsimp only at a7);(try dsimp only);omega)
   have ku:=hK.2 ⟨90015003,st_b.next+1⟩ (by(try dsimp only);omega)
   have kv:=hK.2 ⟨90016010,st_b.next+1+1⟩ (by(try dsimp only);omega)
   have VJ:((⟨90015003,st_b.next+1⟩:Id)=v)=False:=eq_false fun e=>by rw[<-e]at l5;(try dsimp only at l5);omega
   simp only[go_sem, ↓reduceIte,Nat.reduceEqDiff,Nat.reduceAdd,Nat.reduceSub,Nat.reduceLeDiff,reduceCtorEq,vX,Pa,vv,f2,f3,tu,tv,a1,bg0,VJ]at kt kX ku kv
   have uE:(⟨(aD es i).aQ,(aD es i).aO⟩:ad)=aD es i:=rfl
   rw[uE,<-Tt]at p1 ⊢
   have wX:=dr (i:=⟨90001004,x1⟩) (n:=x2) (by(try dsimp only at a7);(try dsimp only);omega)
   have wu:=dr (i:=⟨90015003,st_b.next+1⟩) (n:=x2) (by(try dsimp only);omega)
   have wv:=dr (i:=⟨90016010,st_b.next+1+1⟩) (n:=x2) (by(try dsimp only);omega)
   have wo:=dr (i:=o2) (n:=x2) p3
   have oX:=bU (a:=⟨90001004,x1⟩) (b:=o2) (by(try dsimp only at a7);(try dsimp only);omega)
   refine hN _ _ ?_
   clear hN N
   (try((repeat(revert hN;revert N;apply Pn.out));refine wk (tw @qa (tw @b11 (tw @bg0 (tw @b0 (tw @b1 (tw @b6 (tw @b9 (tw @nB @kX)))))))) ?_;(repeat(refine Pn.mk ?_;intro N hN))))
   exact cz (sd (tw @a9 (tw @a0 (tw @a1 (tw @a6 (tw @qa (tw @b11 (tw @bg0 (tw @b0 (tw @b1 (tw @b6 (tw @b9 @nB)))))))))))) (by(try dsimp only);exact⟨o2,⟨90015003,st_b.next+1⟩,⟨90016010,st_b.next+1+1⟩,sl @wX,sd (tw @wo (tw @oX @p1)),sl @Nat.zero_add,by rw[Qv];simp only[go_sem, ↓reduceIte,Nat.reduceEqDiff,Nat.reduceAdd,Nat.reduceSub,Nat.reduceLeDiff,reduceCtorEq,wu,ku],sl @Nat.zero_add,by rw[H4];simp only[go_sem, ↓reduceIte,Nat.reduceEqDiff,Nat.reduceAdd,Nat.reduceSub,Nat.reduceLeDiff,reduceCtorEq,wv,kv],by(try dsimp only at a7);(try dsimp only);omega,by omega,by(try dsimp only);omega,by(try dsimp only);omega,fun e=>by rw[e]at p2;(try dsimp only at a7 p2);omega,by simp,by simp,fun e=>by rw[e]at p2;(try dsimp only at p2);omega,fun e=>by rw[e]at p2;(try dsimp only at p2);omega,by simp⟩)
 ·have kN:i=es.length:=by omega
  subst kN
  obtain⟨o,u,v,m1,m2,m3,m4,m5,m6,m7,m8,m9,m10,n1,n2,n3,n4,n5,n6⟩:=j4
  (try((repeat(revert hN;revert N;apply Pn.out));refine wk (tw @a9 (tw @a0 (tw @a1 (tw @a6 (tw @hi (tw @m3 @m5)))))) ?_;(repeat(refine Pn.mk ?_;intro N hN))))
  exact mB (.inl rfl) (vs:=[.own u 0 es.length,.own v 0 es.length]) (sd (tw @a9 (tw @a0 (tw @a1 (tw @a6 (tw @m3 @m5)))))) (by
   simp only[eY,eU,bw,cr]
   rw[fw (e:=aE) (l:=n9 s es es.length) (sz:=1) m4 (ml _ _ _).symm (fun x=>by simp[aE,bw,cr,eu]),fw (e:=aE) (l:=ya s es es.length) (sz:=1) m6 (CD _ _ _).symm (fun x=>by simp[aE,bw,cr,eu])];rfl)
end Go.Proofs.YtgoelphibofcmaaGreat.V

namespace Go.Proofs.YtgoelphibofcmaaGreat.V
open Go.RowKit
attribute [local irreducible] dO wpOps gy Call
attribute [local go_sem] aT fK eS ga fZ dj upd cF K.av cP AV.cells AV.cell rowOf rowsOf part ld rowAt bL cD dG ef ik bV de ew fW fe dw ek dc db dU dV cj bl cU b4 cW cV ei eo ej cR cm dd eh bW aV cZ cI ij bx cK ck bd du bj dI AV.undef bH bS dW eb dQ dP cJ ev eE cH er ep cY da List.getD_cons_zero List.getD_cons_succ List.getD_nil List.all_cons List.all_nil Bool.and_true Bool.true_and Bool.and_self Bool.not_true Bool.not_false Option.map_some Option.map_none Option.bind_some Option.bind_none List.length_cons List.length_nil List.take_succ_cons List.take_zero List.take_nil List.drop_succ_cons List.drop_zero List.drop_nil List.head?_cons List.map_cons List.map_nil List.getElem?_cons_zero List.getElem?_cons_succ List.cons_append List.nil_append List.append_nil List.length_map List.set_cons_zero List.set_cons_succ Nat.reduceMul eq_self Int.toNat_natCast Int.natCast_nonneg and_self true_and and_true decide_true decide_false Bool.false_eq_true Nat.zero_add Nat.add_zero List.contains_cons List.contains_nil Bool.or_false Bool.false_or beq_self_eq_true Nat.reduceBEq ne_eq not_true_eq_false not_false_eq_true Id.mk.injEq false_and and_false Nat.reduceLT Int.reduceLE Int.reduceLT Int.reduceToNat Int.reduceNeg Int.reduceAdd Nat.le_refl List.length_append beq_true beq_false Bool.not_eq_eq_eq_not or_false false_or dR ae aj aI bq bG cC aY bh aW bp cQ bJ
def TG (ps:List aL) (i:Nat):aL:=ps.getD i ⟨0,0⟩
theorem Kc {ps:List aL} {i:Nat} (h:i<ps.length):TG ps i=ps[i]:=by simp[TG,List.getD_eq_getElem?_getD,h]
def QP (ps:List aL):Prop:=ps.Pairwise fun a b=>jO a b=true
theorem QP.at_ {ps:List aL} (h:QP ps) {i j:Nat} (DW:i<j) (hj:j<ps.length):jO (TG ps i) (TG ps j)=true:=by
 rw[Kc hj,Kc (by omega)]
 exact List.pairwise_iff_getElem.1 h i j (by omega) hj DW
end Go.Proofs.YtgoelphibofcmaaGreat.V

namespace Go.Proofs.YtgoelphibofcmaaGreat.V
open Go.RowKit Go.Shelf Go.Lib Go.Sort
instance:Inhabited aL:=⟨⟨0,0⟩⟩
variable {P:Program} {w:World} {D:Nat->Prop} {ι:Names}
theorem Kd {vs:Array Value} (h:fy P w D ι [] vs):vs= #[]:=Array.eq_empty_of_size_eq_zero h.1
theorem y9 {a:AV} {r:List AV} {vs:Array Value} (h:fy P w D ι (a::r) vs):∃u us,vs=(u::us).toArray/\cL P w D ι a u/\fy P w D ι r us.toArray:=by
 obtain⟨h1,h2⟩:=h
 obtain⟨l⟩:=vs
 cases l with
 |nil=>simp at h1
 |cons u us=>
  obtain⟨u',hu,hr⟩:=h2 0 a rfl
  simp at hu;subst hu
  exact⟨u,us,rfl,hr,by simpa using h1,fun j b hj=>by
   obtain⟨v,hv,lI⟩:=h2 (j+1) b (by simpa using hj)
   exact⟨v,by simpa using hv,lI⟩⟩
end Go.Proofs.YtgoelphibofcmaaGreat.V

namespace Go.Proofs
open Go.Shelf
def Tryz.EP:Go.Shelf.Ren:=⟨fun|6=>209|15=>207|14=>235|28=>233|29=>234|20=>252|21=>253|22=>254|23=>255|24=>256|25=>257|26=>258|27=>259|46=>268|47=>248|48=>249|49=>269|50=>270|57=>274|n=>n,fun|22=>39|24=>137|25=>243|3=>3|39=>216|0=>0|53=>268|55=>270|4=>4|46=>262|45=>261|50=>177|5=>5|9=>9|66=>287|70=>291|76=>312|77=>313|n=>n,fun|n=>n⟩
theorem Tryz.Kr:Go.Proofs.SlLaysF0.n6 Tryz.prog Tryz.EP:={
 mixed:=by kernel_rfl
 f6:=⟨Tryz.f209.name,by decide,Tryz.func209.trans (congrArg some (by kernel_rfl))⟩
 f14:=⟨Tryz.f235.name,by decide,Tryz.func235.trans (congrArg some (by kernel_rfl))⟩
 f15:=Tryz.func207.trans (congrArg some (by kernel_rfl))
 f20:=⟨Tryz.f252.name,by decide,Tryz.func252.trans (congrArg some (by kernel_rfl))⟩
 f21:=⟨Tryz.f253.name,by decide,Tryz.func253.trans (congrArg some (by kernel_rfl))⟩
 f22:=⟨Tryz.f254.name,by decide,Tryz.func254.trans (congrArg some (by kernel_rfl))⟩
 f23:=⟨Tryz.f255.name,by decide,Tryz.func255.trans (congrArg some (by kernel_rfl))⟩
 f24:=⟨Tryz.f256.name,by decide,Tryz.func256.trans (congrArg some (by kernel_rfl))⟩
 f25:=⟨Tryz.f257.name,by decide,Tryz.func257.trans (congrArg some (by kernel_rfl))⟩
 f26:=⟨Tryz.f258.name,by decide,Tryz.func258.trans (congrArg some (by kernel_rfl))⟩
 f27:=⟨Tryz.f259.name,by decide,Tryz.func259.trans (congrArg some (by kernel_rfl))⟩
 f28:=Tryz.func233.trans (congrArg some (by kernel_rfl))
 f29:=Tryz.func234.trans (congrArg some (by kernel_rfl))
 f46:=⟨Tryz.f268.name,by decide,Tryz.func268.trans (congrArg some (by kernel_rfl))⟩
 f47:=Tryz.func248.trans (congrArg some (by kernel_rfl))
 f48:=Tryz.func249.trans (congrArg some (by kernel_rfl))
 f49:=⟨Tryz.f269.name,by decide,Tryz.func269.trans (congrArg some (by kernel_rfl))⟩
 f50:=⟨Tryz.f270.name,by decide,Tryz.func270.trans (congrArg some (by kernel_rfl))⟩
 f57:=⟨Tryz.f274.name,by decide,Tryz.func274.trans (congrArg some (by kernel_rfl))⟩
 t0:=Tryz.underlying0
 a0:=Tryz.isAgg0
 z0:=Tryz.sizeOf0
 v0:=Tryz.zeroValue0
 t3:=Tryz.underlying3
 a3:=Tryz.isAgg3
 z3:=Tryz.sizeOf3
 v3:=Tryz.zeroValue3
 t4:=Tryz.underlying4
 a4:=Tryz.isAgg4
 z4:=Tryz.sizeOf4
 v4:=Tryz.zeroValue4
 t5:=Tryz.underlying5
 a5:=Tryz.isAgg5
 z5:=Tryz.sizeOf5
 v5:=Tryz.zeroValue5
 t9:=Tryz.underlying9
 a9:=Tryz.isAgg9
 z9:=Tryz.sizeOf9
 v9:=Tryz.zeroValue9
 t22:=Tryz.underlying39
 a22:=Tryz.isAgg39
 z22:=Tryz.sizeOf39
 v22:=Tryz.zeroValue39
 t25:=Tryz.underlying243
 a25:=Tryz.isAgg243
 z25:=Tryz.sizeOf243
 v25:=Tryz.zeroValue243
 t39:=Tryz.underlying216
 a39:=Tryz.isAgg216
 z39:=Tryz.sizeOf216
 v39:=Tryz.zeroValue216
 t45:=Tryz.underlying261
 a45:=Tryz.isAgg261
 z45:=Tryz.sizeOf261
 v45:=Tryz.zeroValue261
 t46:=Tryz.underlying262
 a46:=Tryz.isAgg262
 z46:=Tryz.sizeOf262
 v46:=Tryz.zeroValue262
 t50:=Tryz.underlying177
 a50:=Tryz.isAgg177
 z50:=Tryz.sizeOf177
 v50:=Tryz.zeroValue177
 t53:=Tryz.underlying268
 a53:=Tryz.isAgg268
 z53:=Tryz.sizeOf268
 v53:=Tryz.zeroValue268
 t55:=Tryz.underlying270
 a55:=Tryz.isAgg270
 z55:=Tryz.sizeOf270
 v55:=Tryz.zeroValue270
 t66:=Tryz.underlying287
 a66:=Tryz.isAgg287
 z66:=Tryz.sizeOf287
 v66:=Tryz.zeroValue287
 t70:=Tryz.underlying291
 a70:=Tryz.isAgg291
 z70:=Tryz.sizeOf291
 v70:=Tryz.zeroValue291
 t76:=Tryz.underlying312
 a76:=Tryz.isAgg312
 z76:=Tryz.sizeOf312
 v76:=Tryz.zeroValue312
 t77:=Tryz.underlying313
 a77:=Tryz.isAgg313
 z77:=Tryz.sizeOf313
 v77:=Tryz.zeroValue313}
end Go.Proofs

namespace Go.Proofs.YtgoelphibofcmaaGreat.V
open Go.RowKit Go.Shelf Go.Lib Go.Sort
theorem Bg (w:World) (a b:Int):Calls Tryz.prog 178 #[.int .i64 a,.int .i64 b] w fun e w'=>e=.returned (.int .i64 (rG a b))/\w=w':=by
 go_enter Tryz.func178,Tryz.ntmps178
 go_wp2_with go_in
 all_goals
  go_ret
  exact⟨F3 (by unfold rG;split<;>(try split)<;>omega),rfl⟩
theorem Mt (w:World) (a b:Int) (g:Nat) (ha:w.cell? ⟨g,0,none⟩=some (.int .i64 a)) (hb:w.cell? ⟨g,1,none⟩=some (.int .i64 b)):Calls Tryz.prog 177 #[.slice (some ⟨g,0,none⟩) 2 2] w fun e w'=>e=.returned (.int .i64 (Mu a b))/\w=w':=by
 go_enter Tryz.func177,Tryz.ntmps177
 go_wp2_with fail
 go_loop [8] (fun i=>∃k:Nat,k<=2/\i=.int .i64 k/\Hid ((1<=k->a=0)/\(2<=k->b=0))) (fun i=>2-(intOf i).toNat)
 case atStart=>exact⟨0,by omega,rfl,Lib.hid ⟨fun h=>by omega,fun h=>by omega⟩⟩
 case round=>
  obtain⟨k,hk,rfl,hz⟩:=hrel
  have h3:k=0∨k=1∨k=2:=by omega
  rcases h3 with rfl|rfl|rfl
  ·go_wp2_with fail
   ·rename_i h
    go_ret
    exact⟨F3 (by unfold Mu;simp_all),rfl⟩
   ·rename_i h
    go_round
    case rel=>exact⟨1,by omega,rfl,Lib.hid ⟨fun _=>by simpa using h,fun h=>by omega⟩⟩
    case measure=>simp[intOf]
  ·have h0:=hz.out.1 (by omega)
   replace h0:=Lib.hid h0
   go_wp2_with fail
   ·go_ret
    exact⟨F3 (by unfold Mu;rw[if_pos h0.out]),rfl⟩
   ·rename_i h
    go_round
    case rel=>exact⟨2,by omega,rfl,Lib.hid ⟨fun _=>h0.out,fun _=>by simpa using h⟩⟩
    case measure=>simp[intOf]
  ·have h0:=Lib.hid (hz.out.1 (by omega))
   have h1:=Lib.hid (hz.out.2 (by omega))
   go_wp2_with fail
   go_ret
   exact⟨F3 (by unfold Mu;rw[if_pos h0.out,h1.out]),rfl⟩
def Grown (w w':World):Prop:=∃(q:Nat) (os:Array Obj),w'=Go.Sort.grow (w.drewN q) os
theorem Grown.refl (w:World):Grown w w:=⟨0, #[],by rw[grow_empty];rfl⟩
theorem Grown.alloc {w w':World} (h:Grown w w') (o:Obj):Grown w (w'.alloc o):=by
 obtain⟨q,os,rfl⟩:=h
 exact⟨q,os++ #[o],by rw[alloc_eq_grow,grow_grow]⟩
theorem Grown.drew {w w':World} (h:Grown w w'):Grown w w'.drew:=by
 obtain⟨q,os,rfl⟩:=h
 exact⟨q+1,os,by rw[drew_grow];rfl⟩
theorem Grown.dN {w w':World} (h:Grown w w') (n:Nat):Grown w (w'.drewN n):=by
 obtain⟨q,os,rfl⟩:=h
 exact⟨q+n,os,by
  show Go.Sort.grow ((w.drewN q).drewN n) os=Go.Sort.grow (w.drewN (q+n)) os
  simp[World.drewN,Nat.add_assoc]⟩
theorem uv (w:World) (a b:aL):Calls Tryz.prog 130 #[.agg #[.int .i64 a.fb,.int .i64 a.eV],.agg #[.int .i64 b.fb,.int .i64 b.eV]] w fun e w'=>e=.returned (.int .i64 (rH a b))/\Grown w w':=by
 go_enter Tryz.func130,Tryz.ntmps130
 go_wp2_with fail
 go_region_held3 (fun w'=>w'.cell? ⟨w.heap.size,0,none⟩=some (.int .i64 a.fb)/\w'.cell? ⟨w.heap.size,1,none⟩=some (.int .i64 a.eV)/\
   w'.cell? ⟨w.heap.size+1,0,none⟩=some (.int .i64 b.fb)/\w'.cell? ⟨w.heap.size+1,1,none⟩=some (.int .i64 b.eV))
  (first|go_keep)
  (first|(go_at_call 178;refine(Bg _ _ _).mono ?_;rintro e w' ⟨rfl,rfl⟩)|(go_at_call 177;refine(Mt _ (rG a.eV b.eV) (rG a.fb b.fb) _ (by simp[go_sem]) (by simp[go_sem])).mono ?_;rintro e w' ⟨rfl,rfl⟩))
 go_wp2_with fail
 go_ret
 refine⟨rfl,?_⟩
 repeat(first|(with_reducible exact Grown.refl _)|(refine Grown.alloc ?_ _)|(refine Grown.drew ?_)|(refine Grown.dN ?_ _))
end Go.Proofs.YtgoelphibofcmaaGreat.V

namespace Go.Proofs.YtgoelphibofcmaaGreat.V
open Go.RowKit Go.Shelf Go.Lib Go.Sort
instance:Inhabited ad:=⟨⟨⟨0,0⟩,0⟩⟩
variable {P:Program} {w:World} {D:Nat->Prop} {ι:Names}
def Gr (a b:ad):Int:=rH a.aQ b.aQ
theorem uM (a b:ad):ltOf Gr a b=jO a.aQ b.aQ:=by rw[ltOf,Gr,uN]
def Iu:Prop:=∀(xI off cap:Nat) (d:Array ad) (w:World),HoldsK fa 3 w xI off d->xI<w.heap.size->d.size<4611686018427387904->
 Calls Tryz.prog 209 #[.slice (some ⟨xI,off,none⟩) d.size cap,.func (.func 210) #[] #[]] w fun e w'=>e=.returned (.tuple #[])/\∃d' n os,PermIn 0 d.size d d'/\SortedIn (ltOf Gr) 0 d.size d'/\w'=sortWorldK fa 3 w xI off n d' os
def Iv:Prop:=∀(p:Option Addr) (cap:Nat) (fv:Value) (w:World),Calls Tryz.prog 209 #[.slice p 0 cap,fv] w fun e w'=>e=.returned (.tuple #[])/\w'=w
theorem IS (p:ad) (j:Nat) (a:AV) (h:(aa p)[j]? =some a) (P:Program) (w:World) (D:Nat->Prop) (ι:Names):cL P w D ι a (fa p)[j]! :=by
 match j,h with
 |0,h=>simp[aa]at h;subst h;exact .eT _ _ (.int _ _)
 |1,h=>simp[aa]at h;subst h;exact .eT _ _ (.int _ _)
 |2,h=>simp[aa]at h;subst h;exact .eT _ _ (.int _ _)
 |j+3,h=>simp[aa]at h
theorem HA (hC:Iu) (hN:Iv) (ps:List ad) (hlen:ps.length<=1048576) (σ:ar) (id:Id) (hg:σ.get id=some ⟨true,3,ps.map aa⟩):
  Call Tryz.prog 209 [.own id 0 ps.length,.fn 210 []] σ fun r σ'=>σ'.next=σ.next/\(∀x,x≠id->σ'.get x=σ.get x)/\∃qs,σ'.get id=some ⟨true,3,qs.map aa⟩/\qs.length=ps.length/\qs.Perm ps/\∀i j:Nat,i<j->j<qs.length->jO (aD qs j).aQ (aD qs i).aQ=false:=by
 refine gU fun hs D ι w vs S U A=>?_
 obtain⟨u1,us1,rfl,h1,h2⟩:=y9 A
 obtain⟨u2,us2,h3,h4,h5⟩:=y9 h2
 simp at h3;subst h3
 have:=Kd h5
 simp at this;subst this
 obtain⟨o,cap,B,rfl,hB,Jc,ho,qG,hmax,hk⟩:=iW h1
 obtain⟨VK,gf,rfl,_,hz,_,_⟩:=Af h4
 have hz':VK= #[]:=Array.eq_empty_of_size_eq_zero (by simpa using hz)
 subst hz'
 by_cases h0:ps=[]
 ·subst h0
  refine(hN _ _ _ w).mono ?_
  rintro e w' ⟨rfl,rfl⟩
  exact⟨.gE [],σ.get,σ.next,D,ι,_,rfl,⟨rfl,fun _ _=>rfl,[],hg,rfl,List.Perm.refl _,fun i j _ hj=>by simp at hj⟩,Step.refl _ _ _ _,S,U,Nat.le_refl _,.gE [] #[] (fun _=>Go.undef) rfl (fun j hj=>by simp at hj) (fun j a h=>by simp at h)⟩
 have kz:0<ps.length:=List.length_pos_iff.2 h0
 obtain⟨B',dH,R,kq,mh⟩:=S.row id _ hg
 rw[hB]at dH;injection dH with dH;subst dH
 replace R:=R.row hk
 have fA:B.sz=3:=R.sz
 have C0:o=0:=by rcases ho with h|h<;>omega
 subst C0
 obtain⟨cur,T,hblk,dy,wE⟩:=R.cur
 have BH:ps.length*3<=B.C:=by simpa using R.fits
 have hH:HoldsK fa 3 w B.b 0 ps.toArray:=by
  intro t ht
  rw[size_flatK]at ht
  have ht2:t<ps.length*3:=by simpa using ht
  have hi:t / 3<ps.length:=by omega
  have CX:w.frozen? ⟨B.b,0+t,none⟩=false:=by
   simp only[World.frozen?,hblk];simp
  refine⟨?_,CX⟩
  rw[get_flatK _ _ _ _ ht]
  have hd:(ps.toArray)[t / 3]! =ps[t / 3]:=by simp[getElem!_pos,hi]
  rw[hd]
  have hj:t % 3=0∨t % 3=1∨t % 3=2:=by omega
  have ht3:0+t=(t / 3)*3+t % 3:=by omega
  rw[ht3]
  rcases hj with hj|hj|hj
  ·obtain⟨v,hv,hr⟩:=R.at_ (t / 3) 0 (aa ps[t / 3]) _ (by simp[hi]) rfl
   rw[dz hr]at hv
   rw[hj];exact hv
  ·obtain⟨v,hv,hr⟩:=R.at_ (t / 3) 1 (aa ps[t / 3]) _ (by simp[hi]) rfl
   rw[dz hr]at hv
   rw[hj];exact hv
  ·obtain⟨v,hv,hr⟩:=R.at_ (t / 3) 2 (aa ps[t / 3]) _ (by simp[hi]) rfl
   rw[dz hr]at hv
   rw[hj];exact hv
 have qe:B.b<w.heap.size:=(Array.getElem?_eq_some_iff.1 hblk).1
 have Rk:=hC B.b 0 cap ps.toArray w hH qe (by simp;omega)
 rw[show ps.toArray.size=ps.length from by simp]at Rk
 refine Rk.mono ?_
 rintro e w' ⟨rfl,d',m,os,⟨FJ,_,FF⟩,hsort,rfl⟩
 have Rp:d'.size=ps.length:=by rw[FJ];simp
 have hql:d'.toList.length=ps.length:=by simpa using Rp
 have hP:d'.toList.Perm ps:=by
  have e1:d'.extract 0 ps.length=d':=by rw[<-Rp];exact Array.extract_size
  have e2:ps.toArray.extract 0 ps.length=ps.toArray:=by
   have:ps.length=ps.toArray.size:=by simp
   rw[this];exact Array.extract_size
  rw[e1,e2]at FF
  simpa using FF
 have hF:∀t,t<ps.length*3->(flatK fa 3 d')[t]! =(fa d'[t / 3]!)[t % 3]! :=fun t ht=>get_flatK _ _ _ _ (by rw[Rp];exact ht)
 have hFs:(flatK fa 3 d').size=ps.length*3:=by rw[size_flatK,Rp]
 have hw:sortWorldK fa 3 w B.b 0 m d' os=Go.Sort.grow (Go.Sort.putRow (fun v:Value=>v) (Go.Sort.ahead w m) B.b 0 (flatK fa 3 d')) os:=rfl
 rw[hw]
 clear hw hH
 generalize flatK fa 3 d'=Fl at hF hFs ⊢
 have wL:=S.put (r':=⟨true,3,d'.toList.map aa⟩) (cur':=Go.Sort.putCells (fun v:Value=>v) 0 Fl cur) hg rfl hB hblk (by simp[Go.Sort.putCells]) rfl rfl (by simpa[Rp]using BH) (fun cs dy=>by
   obtain⟨x,_,rfl⟩:=List.mem_map.1 dy;rfl) (fun cs dy a ha=>by
   obtain⟨x,_,rfl⟩:=List.mem_map.1 dy
   simp[aa]at ha;rcases ha with rfl|rfl|rfl<;>rfl) (fun i j cs a hi hj=>by
   have uW:i<d'.toList.length:=by
    have:=(List.getElem?_eq_some_iff.1 hi).1
    simpa using this
   have U3:j<3:=by
    have:=List.mem_of_getElem? hi
    obtain⟨x,_,rfl⟩:=List.mem_map.1 this
    exact(List.getElem?_eq_some_iff.1 hj).1
   have UN:cs=aa d'[i]! :=by
    rw[List.getElem?_map,List.getElem?_eq_getElem uW]at hi
    simp at hi
    rw[<-hi,getElem!_pos d' i (by simpa using uW)]
   subst UN
   have FK:i*3+j<ps.length*3:=by omega
   refine⟨(fa d'[i]!)[j]!,?_,IS _ _ _ hj _ _ _ _⟩
   have nf:i*3+j<cur.size:=by rw[dy];omega
   show(Go.Sort.putCells (fun v:Value=>v) 0 Fl cur)[i*3+j]? = _
   simp only[Go.Sort.putCells,Array.getElem?_mapIdx,Array.getElem?_eq_getElem nf,Option.map_some]
   rw[if_pos ⟨Nat.zero_le _,by rw[hFs];omega⟩,Nat.sub_zero,hF _ FK,show(i*3+j) / 3=i from by omega,show(i*3+j) % 3=j from by omega])
 obtain⟨S1,sO⟩:=wL
 have RP:(Go.Sort.putRow (fun v:Value=>v) (Go.Sort.ahead w m) B.b 0 Fl).heap.size=w.heap.size:=by simp
 have Ni:∀k,k<(w.setRow B.b (Go.Sort.putCells (fun v:Value=>v) 0 Fl cur)).heap.size->(Go.Sort.grow (Go.Sort.putRow (fun v:Value=>v) (Go.Sort.ahead w m) B.b 0 Fl) os).heap[k]? =(w.setRow B.b (Go.Sort.putCells (fun v:Value=>v) 0 Fl cur)).heap[k]? :=fun k hk=>by
  have GN:k<w.heap.size:=by simpa using hk
  rw[heap_grow_old _ _ (by rw[RP];exact GN)]
  simp only[Go.Sort.putRow,Go.Sort.mapBlock,heap_ahead,Array.getElem?_modify]
  by_cases U4:B.b=k
  ·subst U4
   rw[setRow_heap w B.b cur _ T _ hblk,if_pos rfl,hblk];rfl
  ·rw[if_neg U4,setRow_other w B.b k _ (fun h=>U4 h.symm)]
 have kO:(w.setRow B.b (Go.Sort.putCells (fun v:Value=>v) 0 Fl cur)).heap.size<=(Go.Sort.grow (Go.Sort.putRow (fun v:Value=>v) (Go.Sort.ahead w m) B.b 0 Fl) os).heap.size:=by
  rw[size_grow,RP];simp
 have S2:=S1.stay (D':=D) (ι':=ι) Ni kO (fun _ h=>h) (fun b hb=>Nat.lt_of_lt_of_le (S1.dead b hb) kO) (fun _ h=>.inl h) (fun _ _ h=>h)
 have NQ:=sO.trans (Step.stay (D':=D) (ι':=ι) S1 Ni kO (by simp[Go.Sort.grow,Go.Sort.putRow,Go.Sort.mapBlock,Go.Sort.ahead]) (by simp[Go.Sort.grow,Go.Sort.putRow,Go.Sort.mapBlock,Go.Sort.ahead]) (by simp[Go.Sort.grow,Go.Sort.putRow,Go.Sort.mapBlock,Go.Sort.ahead]) (fun _ h=>h) (fun _ h=>.inl h) (fun _ _ h=>h))
 refine⟨.gE [],bL σ.get id ⟨true,3,d'.toList.map aa⟩,σ.next,D,ι,_,rfl,⟨rfl,fun x hx=>by simp[bL,hx],d'.toList,by simp[bL],hql,hP,fun i j DW hj=>?_⟩,NQ,S2,U,Nat.le_refl _,.gE [] #[] (fun _=>Go.undef) rfl (fun j hj=>by simp at hj) (fun j a h=>by simp at h)⟩
 have h:=hsort i j (Nat.zero_le _) DW (by omega)
 rw[uM]at h
 have e1:d'[j]! =aD d'.toList j:=by rw[fH hj,getElem!_pos d' j (by simpa using hj)];rfl
 have hi:i<d'.toList.length:=by omega
 have e2:d'[i]! =aD d'.toList i:=by rw[fH hi,getElem!_pos d' i (by simpa using hi)];rfl
 rw[<-e1,<-e2];exact h
theorem NN {w w':World} (h:Grown w w') (os:Array Obj):Grown w (Go.Sort.grow w' os):=by
 obtain⟨q,os0,rfl⟩:=h
 exact⟨q,os0++os,by rw[grow_grow]⟩
theorem Lt (w:World) (a b:ad):Calls Tryz.prog 210 #[.agg #[.int .i64 a.aQ.fb,.int .i64 a.aQ.eV,.int .i64 a.aO],.agg #[.int .i64 b.aQ.fb,.int .i64 b.aQ.eV,.int .i64 b.aO]] w fun e w'=>e=.returned (.int .i64 (Gr a b))/\Grown w w':=by
 go_enter Tryz.func210,Tryz.ntmps210
 go_wp2_with (first|(go_at_call 130;refine(uv _ a.aQ b.aQ).mono ?_;rintro e w' ⟨rfl,hG⟩))
 obtain⟨q,os,rfl⟩:=hG
 go_ret
 refine⟨rfl,NN (Grown.dN ?_ q) os⟩
 repeat(first|(with_reducible exact Grown.refl _)|(refine Grown.alloc ?_ _)|(refine Grown.drew ?_)|(refine Grown.dN ?_ _))
theorem VI:SWO (ltOf Gr) where
 irrefl x:=by rw[uM];exact nj
 trans x y z h1 h2:=by rw[uM]at *;exact jV h1 h2
 ntrans x y z h1 h2:=by rw[uM]at *;rw[pB]at *;omega
theorem PG:Iu:=fun xI off cap d w hH hblk fA=>by
 have eg:∀args w,(callFunc 210 args).run Tryz.prog w=.ok (.enter 210 args) w:=enters_of Tryz.func210 (by kernel_rfl) rfl
 have h:=AnyQ.slices_SortFunc Tryz.Kr 3 Tryz.isAgg137 Tryz.sizeOf137 fa (fun _=>rfl) (fun x v hv=>by simp[fa]at hv;rcases hv with rfl|rfl|rfl<;>rfl) Gr VI 210 #[] xI off cap d w eg (fun m os dk _ x y=>(Lt _ x y).mono fun _ _ ⟨he,q,os',hw⟩=>⟨he,q,os',hw⟩) hH hblk fA
 exact h
theorem PH:Iv:=fun p cap fv w=>AnyF.slices_SortFunc_none Tryz.Kr p cap fv w
end Go.Proofs.YtgoelphibofcmaaGreat.V

namespace Go.Proofs.YtgoelphibofcmaaGreat.V
open Go.RowKit
attribute [local irreducible] dO wpOps gy Call
attribute [local go_sem] aT fK eS ga fZ dj upd cF K.av cP AV.cells AV.cell rowOf rowsOf part ld rowAt bL cD dG ef ik bV de ew fW fe dw ek dc db dU dV cj bl cU b4 cW cV ei eo ej cR cm dd eh bW aV cZ cI ij bx cK ck bd du bj dI AV.undef bH bS dW eb dQ dP cJ ev eE cH er ep cY da List.getD_cons_zero List.getD_cons_succ List.getD_nil List.all_cons List.all_nil Bool.and_true Bool.true_and Bool.and_self Bool.not_true Bool.not_false Option.map_some Option.map_none Option.bind_some Option.bind_none List.length_cons List.length_nil List.take_succ_cons List.take_zero List.take_nil List.drop_succ_cons List.drop_zero List.drop_nil List.head?_cons List.map_cons List.map_nil List.getElem?_cons_zero List.getElem?_cons_succ List.cons_append List.nil_append List.append_nil List.length_map List.set_cons_zero List.set_cons_succ Nat.reduceMul eq_self Int.toNat_natCast Int.natCast_nonneg and_self true_and and_true decide_true decide_false Bool.false_eq_true Nat.zero_add Nat.add_zero List.contains_cons List.contains_nil Bool.or_false Bool.false_or beq_self_eq_true Nat.reduceBEq ne_eq not_true_eq_false not_false_eq_true Id.mk.injEq false_and and_false Nat.reduceLT Int.reduceLE Int.reduceLT Int.reduceToNat Int.reduceNeg Int.reduceAdd Nat.le_refl List.length_append beq_true beq_false Bool.not_eq_eq_eq_not or_false false_or dR ae aj aI bq bG cC aY bh aW bp cQ bJ
theorem Kb {σ:ar} {c T O:Id} {s:az} {ts:List ad} (h:jH σ.get σ.next c T O s ts) (hS:iy s.aH) (hF:∀q,0<=gQ ts q->dY s.aH (gQ ts q)=true) (p:aL) (hp:x7 p=true) (t:Int) (ht:dY s.aH t=true) (h0:eR ts p<0):
  Call Tryz.prog 134 [.ptr c 0 0,.agg (ah p),.int .i64 t] σ (fun r σ'=>r=.gE []/\jH σ'.get σ'.next c T O s (ts++[⟨p,t⟩])/\σ.next<=σ'.next/\∀x:Id,x.bQ<σ.next->x≠T->x≠O->σ'.get x=σ.get x):=by
 refine eQ eK rfl fun kd=>?_
 clear kd
 obtain⟨hx,hy⟩:=oZ hp
 have kg:=pw.1 h0
 have Q7:∀q,0<=gQ (ts++[⟨p,t⟩]) q->dY s.aH (gQ (ts++[⟨p,t⟩]) q)=true:=fun q hq=>by
  rw[zq q kg]at hq ⊢
  split at hq
  ·rename_i he;rw[if_pos he];exact ht
  ·rename_i he;rw[if_neg he];exact hF q hq
 obtain⟨rows,ho,hw⟩:=h.op
 obtain⟨fi,BG⟩:=Cs hw p.fb p.eV
 have h1:=h.row
 have h2:=h.tl
 have v1:=dr h.cv
 have v2:=dr h.tv
 have v3:=dr h.ov
 have hm:=qT h0
 have cT:=eq_false h.cT
 have cO:=eq_false h.cO
 have TO:=eq_false h.TO
 have Tc:=eq_false (fun e:T=c=>h.cT e.symm)
 have Oc:=eq_false (fun e:O=c=>h.cO e.symm)
 have OT:=eq_false (fun e:O=T=>h.TO e.symm)
 (try((repeat(revert hN;revert N;apply Pn.out));refine wk (tw @h1 (tw @h2 (tw @ho (tw @v1 (tw @v2 (tw @v3 (tw @hm (tw @BG (tw @cT (tw @cO (tw @TO (tw @Tc (tw @Oc (tw @OT @ah.eq_1)))))))))))))) ?_;(repeat(refine Pn.mk ?_;intro N hN))))
 have hG:∀x:Id,x.bQ<σ.next->x≠T->x≠O->(bL (bL (bL σ.get ⟨134000000,σ.next⟩ ⟨true,2,[[.int .i64 p.fb,.int .i64 p.eV]]⟩) T ⟨true,mP.pG,ts.map aa++[[.int .i64 p.fb,.int .i64 p.eV,.int .i64 t]]⟩) O ⟨true,mP.pG,dP rows fi⟩) x=σ.get x:=fun x Pd VA Nw=>by
  have a1:=eq_false VA
  have a2:=eq_false Nw
  have a3:=dr Pd
  simp only[go_sem, ↓reduceIte,Nat.reduceEqDiff,Nat.reduceAdd,Nat.reduceSub,Nat.reduceLeDiff,reduceCtorEq,a1,a2,a3]
 have hC:jH (bL (bL (bL σ.get ⟨134000000,σ.next⟩ ⟨true,2,[[.int .i64 p.fb,.int .i64 p.eV]]⟩) T ⟨true,mP.pG,ts.map aa++[[.int .i64 p.fb,.int .i64 p.eV,.int .i64 t]]⟩) O ⟨true,mP.pG,dP rows fi⟩) (σ.next+1+1+1+1) c T O s (ts++[⟨p,t⟩]):=
  ⟨(hG c h.cv h.cT h.cO).trans h1,by simp only[go_sem, ↓reduceIte,Nat.reduceEqDiff,Nat.reduceAdd,Nat.reduceSub,Nat.reduceLeDiff,reduceCtorEq,TO];rw[List.map_append];rfl,⟨_,sd @Nat.zero_add,J6 hw fi⟩,by have:=h.cv;omega,by have:=h.tv;omega,by have:=h.ov;omega,h.cT,h.cO,h.TO⟩
 refine .inr (aJ _ _ _ _ _ (fun r σ1 hq=>?_) (rV (σ:=⟨_,σ.next+1+1+1+1⟩) hC.Dt hC.cO hC.TO hC.op hS Q7 p hx hy))
 obtain⟨g1,x1⟩:=σ1
 obtain⟨rfl,hL⟩:=hq
 (try dsimp only at hL)
 have DN:=hC.look (σ:=⟨_,σ.next+1+1+1+1⟩) hL
 have hn:=hL.1
 have hf:=hL.2.1
 (try dsimp only at hn hf)
 refine hN _ _ ?_
 clear hN N
 (try((repeat(revert hN;revert N;apply Pn.out));refine wk @Nat.zero_add ?_;(repeat(refine Pn.mk ?_;intro N hN))))
 exact eX (.inr rfl) (vs:=[]) rfl ⟨rfl,DN.frame (by(try dsimp only);omega) fun _ _=>rfl,by(try dsimp only);omega,fun x Pd VA Nw=>(hf x (by omega) Nw).trans (hG x Pd VA Nw)⟩
end Go.Proofs.YtgoelphibofcmaaGreat.V

namespace Go.Proofs.YtgoelphibofcmaaGreat.V
open Go.RowKit
def Cy (m:MK) (it nx ok en:Nat) (id:Id) (B:(Ex->Env->ar->Prop)->Env->ar->Prop) (b b1:Nat) (Q:Ex->Env->ar->Prop):Nat->List (List AV)->Env->ar->Prop
 |0,_,env,σ=>env it=.ptr id 0 0/\Q .normal (upd (upd env (some nx) (.gE [.bool false])) (some ok) (.bool false)) ⟨σ.get,σ.next+1⟩
 |n+1,left,env,σ=>env it=.ptr id 0 0/\∀i cs kv vv,left[i]? =some cs->part m.ka m.ks cs=some kv->cs[m.ks]? =some vv->
   B (bj b1 (du (Cy m it nx ok en id B b b1 Q n (left.eraseIdx i)) (bj b Q))) (upd (upd (upd env (some nx) (.gE [.bool true,kv,vv])) (some ok) (.bool true)) (some en) (.gE [kv,vv])) ⟨σ.get,σ.next+1⟩
def Hw (m:MK) (tm:O) (site it nx ok en:Nat) (B:(Ex->Env->ar->Prop)->Env->ar->Prop) (b b1:Nat) (Q:Ex->Env->ar->Prop) (env:Env) (σ:ar):Prop:=
 ∃id r,dj env tm=.map id m/\σ.get id=some r/\r.w=true/\Cy m it nx ok en ⟨site,σ.next⟩ B b b1 Q r.rows.length r.rows (upd env (some it) (.ptr ⟨site,σ.next⟩ 0 0)) ⟨bL σ.get id {r with w:=false},σ.next+1⟩
variable {P:Program} {w w':World} {D D':Nat->Prop} {ι ι':Names} {hs:Nat} {g:Rows}
theorem jQ.DH (hc:∀b x,D b->w'.cell? ⟨b,x,none⟩=w.cell? ⟨b,x,none⟩) {a:AV} {v:Value} (h:jQ P w D a v):jQ P w' D a v:=by
 induction h with
 |int k n=>exact .int k n
 |bool b=>exact .bool b
 |str s=>exact .str s
 |bE=>exact .bE
 |gN=>exact .gN
 |je=>exact .je
 |jo=>exact .jo
 |AR a c h=>exact .AR a c h
 |sl rows b o n c sz vs h1 h2 h3 h4 h5 h5' h6 _ ih=>exact .sl rows b o n c sz vs h1 h2 h3 h4 h5 h5' (fun i j hi hj=>(hc b _ h4).trans (h6 i j hi hj)) ih
 |dq cs b o vs h1 Oh h2 _ ih=>exact .dq cs b o vs h1 Oh (fun j hj=>(hc b _ h1).trans (h2 j hj)) ih
 |agg cs vs f h1 h2 h3 _ ih=>exact .agg cs vs f h1 h2 h3 ih
 |fn f di vs g h1 h2 h3 _ ih=>exact .fn f di vs g h1 h2 h3 ih
theorem cL.DH (hc:∀b x,D b->w'.cell? ⟨b,x,none⟩=w.cell? ⟨b,x,none⟩) {a:AV} {v:Value} (h:cL P w D ι a v):cL P w' D ι a v:=by
 induction h with
 |eT a v h=>exact .eT a v (h.DH hc)
 |map id m B h1 h2=>exact .map id m B h1 h2
 |rF id c B h1 h2=>exact .rF id c B h1 h2
 |own id off len o cap B h1 h2 h3 h4 h5 h6=>exact .own id off len o cap B h1 h2 h3 h4 h5 h6
 |ptr id i off B h1 h2=>exact .ptr id i off B h1 h2
 |agg cs vs f h1 h2 h3 _ ih=>exact .agg cs vs f h1 h2 h3 ih
 |gE cs vs f h1 h2 _ ih=>exact .gE cs vs f h1 h2 ih
 |fn f di vs g h1 h2 h3 _ ih=>exact .fn f di vs g h1 h2 h3 ih
 |ue f di vs g h1 h2 h3 _ ih=>exact .ue f di vs g h1 h2 h3 ih
def mT (w:World) (rr:Nat):Prop:=∃m s seen c,w.heap[rr]? =some (.mapIter m s seen c)
theorem mT.cell {rr:Nat} (h:mT w rr) (x:Nat):w.cell? ⟨rr,x,none⟩=none:=by
 obtain⟨m,s,seen,c,h⟩:=h
 simp[World.cell?,h]
theorem gT.JZ {B:sG} {r:Row} (R:gT P w D ι B r):¬mT w B.b:=by
 rintro⟨m,s,seen,c,h⟩
 cases hk:B.k with
 |none=>obtain⟨c',T,h3,_⟩:=(R.row hk).xI;rw[h]at h3;cases h3
 |some k=>
  cases k with
  |map m=>obtain⟨_,es,c',h3,_⟩:=R.map m hk;rw[h]at h3;cases h3
  |chan c=>obtain⟨_,buf,s',q,h3,_⟩:=R.chan c hk;rw[h]at h3;cases h3
theorem yM {rr:Nat} (h:mT w rr) (h':mT w' rr) (ho:∀b,b≠rr->w'.heap[b]? =w.heap[b]?):(∀{a v},cL P w D ι a v->cL P w' D ι a v):=fun hr=>hr.DH fun b x _=>by
 by_cases hb:b=rr
 ·subst hb;rw[h.cell,h'.cell]
 ·exact World.cell?_of_block (ho b hb)
theorem gF.iter {rr:Nat} (S:gF P hs D ι g w) (h:mT w rr) (h':mT w' rr) (ho:∀b,b≠rr->w'.heap[b]? =w.heap[b]?) (hz:w'.heap.size=w.heap.size):gF P hs D ι g w':=
 ⟨by rw[hz];exact S.lo,fun b hb=>by rw[hz];exact S.dead b hb,fun id r hg=>by
  obtain⟨B,hB,R,k1,k2⟩:=S.row id r hg
  exact⟨B,hB,R.frame (ho _ fun e=>R.JZ (e▸h)) fun a v hr=>yM h h' ho hr,k1,k2⟩,S.inj⟩
theorem mM {ops:Array Oper} {Q:Exit->Act->World->Prop} {a:Act} {o:Oper} {l:List Oper} {v:Value} (hg:o.guard=none) (gr:(execOp a.eval o).run P w=.ok (.value v) w') (h:wpList P ops Q l (a.put o.dst v) w'):wpList P ops Q (o::l) a w:=by
 unfold wpList
 rw[if_pos (by simp[Region.wanted,hg])]
 exact .inl (by unfold Oper.wp;rw[gr];exact h)
theorem Kg {x y:AV} {u v:Value} (h1:cL P w D ι x u) (h2:cL P w D ι y v):cL P w D ι (.gE [x,y]) (.tuple #[u,v]):=
 .gE _ _ (fun j=>if j=0 then u else v) rfl (fun j hj=>by match j,hj with|0,_=>rfl|1,_=>rfl|j+2,hj=>simp at hj;omega) (fun j a ha=>by match j,ha with|0,ha=>simp at ha;subst ha;exact h1|1,ha=>simp at ha;subst ha;exact h2|j+2,ha=>simp at ha)
theorem Kh {x y z:AV} {u v t:Value} (h1:cL P w D ι x u) (h2:cL P w D ι y v) (h3:cL P w D ι z t):cL P w D ι (.gE [x,y,z]) (.tuple #[u,v,t]):=
 .gE _ _ (fun j=>if j=0 then u else if j=1 then v else t) rfl (fun j hj=>by match j,hj with|0,_=>rfl|1,_=>rfl|2,_=>rfl|j+3,hj=>simp at hj;omega) (fun j a ha=>by match j,ha with|0,ha=>simp at ha;subst ha;exact h1|1,ha=>simp at ha;subst ha;exact h2|2,ha=>simp at ha;subst ha;exact h3|j+3,ha=>simp at ha)
theorem Kf {x:AV} {u:Value} (h1:cL P w D ι x u):cL P w D ι (.gE [x]) (.tuple #[u]):=
 .gE _ _ (fun _=>u) rfl (fun j hj=>by match j,hj with|0,_=>rfl|j+1,hj=>simp at hj) (fun j a ha=>by match j,ha with|0,ha=>simp at ha;subst ha;exact h1|j+1,ha=>simp at ha)
structure M3 (P:Program) (w:World) (D:Nat->Prop) (ι:Names) (m:MK) (L:List MapEntry) (left:List (List AV)):Prop where
 len:left.length=L.length
 at_:∀(i:Nat) (cs:List AV),left[i]? =some cs->∃(e:MapEntry) (kv vv:AV),L[i]? =some e/\part m.ka m.ks cs=some kv/\cs[m.ks]? =some vv/\cL P w D ι kv e.key/\cL P w D ι vv e.val
theorem M3.rep {m:MK} {L:List MapEntry} {left:List (List AV)} (h:M3 P w D ι m L left) (hr:∀{a v},cL P w D ι a v->cL P w' D' ι' a v):M3 P w' D' ι' m L left:=⟨h.len,fun i cs hi=>by
 obtain⟨e,kv,vv,h1,h2,h3,h4,h5⟩:=h.at_ i cs hi
 exact⟨e,kv,vv,h1,h2,h3,hr h4,hr h5⟩⟩
theorem mZ {α β:Type} {l:List α} {k:List β} {i j:Nat} {x:α} (hl:l.length=k.length) (h:(l.eraseIdx i)[j]? =some x):∃q:Nat,l[q]? =some x/\(k.eraseIdx i)[j]? =k[q]? :=by
 rw[List.getElem?_eraseIdx]at h
 split at h
 ·rename_i hj;exact⟨j,h,by rw[List.getElem?_eraseIdx,if_pos hj]⟩
 ·rename_i hj;exact⟨j+1,h,by rw[List.getElem?_eraseIdx,if_neg hj]⟩
theorem M3.erase {m:MK} {L:List MapEntry} {left:List (List AV)} (h:M3 P w D ι m L left) {i:Nat} (hi:i<L.length):M3 P w D ι m (L.eraseIdx i) (left.eraseIdx i):=⟨by
 rw[List.length_eraseIdx,List.length_eraseIdx,h.len],fun j cs hj=>by
 obtain⟨q,hq,he⟩:=mZ h.len hj
 obtain⟨e,kv,vv,h1,h2⟩:=h.at_ q cs hq
 exact⟨e,kv,vv,he.trans h1,h2⟩⟩
theorem nF:∀{l:List MapEntry} {i:Nat} {e:MapEntry},(l.map (·.born)).Nodup->l[i]? =some e->l.filter (fun x=>x.born !=e.born)=l.eraseIdx i
 |x::l,0,e,hn,h=>by
  simp at h;subst h
  obtain⟨h1,h2⟩:=List.nodup_cons.1 (show(x.born::l.map (·.born)).Nodup from hn)
  rw[List.filter_cons,if_neg (by simp),List.eraseIdx_cons_zero]
  refine List.filter_eq_self.2 fun y hy=>?_
  have:y.born≠x.born:=fun hc=>h1 (by rw[<-hc];exact List.mem_map_of_mem hy)
  simpa using this
 |x::l,i+1,e,hn,h=>by
  obtain⟨h1,h2⟩:=List.nodup_cons.1 (show(x.born::l.map (·.born)).Nodup from hn)
  simp only[List.getElem?_cons_succ]at h
  have hx:x.born≠e.born:=fun hc=>h1 (by rw[hc];exact List.mem_map_of_mem (List.mem_of_getElem? h))
  rw[List.filter_cons,if_pos (by simpa using hx),List.eraseIdx_cons_succ,nF h2 h]
theorem Ep {es:Array MapEntry} {clock:Nat} {seen:Array Nat} {i:Nat} {e:MapEntry} (hs:Lj es clock) (h:(leftOf es seen).toList[i]? =some e):(leftOf es (seen.push e.born)).toList=(leftOf es seen).toList.eraseIdx i:=by
 have hn:((leftOf es seen).toList.map (·.born)).Nodup:=by
  unfold leftOf
  rw[Array.toList_filter]
  exact((List.filter_sublist (p:=fun e=> !seen.contains e.born) (l:=es.toList)).map MapEntry.born).nodup hs.2
 rw[<-nF hn h]
 unfold leftOf
 rw[Array.toList_filter,Array.toList_filter,List.filter_filter]
 refine List.filter_congr fun x _=>?_
 rw[contains_push]
 cases seen.contains x.born<;>cases hb:(x.born==e.born)<;>simp_all
theorem eval_put {a:Act} {d:Nat} {v:Value} (h:d<a.tmps.size):(a.put (some d) v).eval (.tmp d)=v:=by
 simp[Act.put,Act.eval,h]
def Km (ix ie b b1 ok:Nat) (Ez Hm Ey:Oper) (r8:List Oper) (nE:Code):Code:=
 .seq (.region ix #[Ez,Hm] false) (.seq (.cond (.tmp ok) .skip (.exit b)) (.block b1 (.seq (.region ie (Ey::r8).toArray false) nE)))
structure Is (P:Program) (md:List (Nat×Nat)) (nt fid s0 it nx ok en:Nat) (Ez Hm Ey:Oper) (r8:List Oper) (nE:Code) (vE:List br) (sE:VC):Prop where
 h1:Ez.op=.next (.tmp it) false
 h2:Ez.dst=some nx
 h3:Ez.guard=none
 h4:Hm.op=.extract (.tmp nx) 0
 h5:Hm.dst=some ok
 h6:Hm.guard=none
 h7:Ey.op=.entry (.tmp it)
 h8:Ey.dst=some en
 h9:Ey.guard=none
 QK:nx<nt
 TE:ok<nt
 lt3:en<nt
 ne1:it≠nx
 ne2:it≠ok
 hE:allM (kT P (Ey::r8).toArray nt s0 false false #[] []) r8 1=some vE
 hR:ju P md nt fid nE=some sE
theorem EI (hm:P.follows .mixedOrders=true) {md:List (Nat×Nat)} {nt fid s0 ix ie b b1 it nx ok en:Nat} {m:MK} {id:Id} {Ez Hm Ey:Oper} {r8:List Oper} {nE:Code} {vE:List br} {sE:VC}
  (O:Is P md nt fid s0 it nx ok en Ez Hm Ey r8 nE vE sE) {rr bm:Nat} {es:Array MapEntry} {clock:Nat} (GR:Lj es clock) {ds:List Deferred} {n0:Nat} {D0:Nat->Prop} {ι0:Names} {w0:World} {Q:Ex->Env->ar->Prop} {Q':Exit->Act->World->Prop}
  (hQ:tM P hs nt ds Q n0 D0 ι0 w0 Q') (hD0:¬D0 rr) (hrr:hs<=rr) (gP:bm≠rr):
  ∀(n:Nat) (left:List (List AV)) (env:Env) (σ:ar) (a:Act) (w:World) (D:Nat->Prop) (ι:Names) (seen:Array Nat),
   Cy m it nx ok en id (dO (Sound P) (.seq (.eO false vE) sE)) b b1 Q n left env σ->St P hs nt D ι env σ a w->a.defers=ds->n0<=σ.next->Step hs D0 ι0 w0 D ι w->
   (∃sz C,ι id=some ⟨rr,sz,C,none⟩)->D rr->D bm->w.heap[rr]? =some (.mapIter (some bm) clock seen clock)->w.heap[bm]? =some (.map es clock)->left.length=n->M3 P w D ι m (leftOf es seen).toList left->
   pC P (Km ix ie b b1 ok Ez Hm Ey r8 nE) (Exit.inBlock b Q') (n+1) a w:=by
 intro n
 induction n with
 |zero=>
  intro left env σ a w D ι seen hv dK hd H3 T hid Um Uj hr hb hlen hL
  obtain⟨LP,hq⟩:=hv
  have ha:a.tmps.getD it undef=.pointer (some ⟨rr,0,none⟩):=by
   have:=dK.env it
   rw[LP]at this
   obtain⟨B,e,hB,_⟩:=iJ this
   obtain⟨sz,C,hid⟩:=hid
   rw[hid]at hB;injection hB with hB;subst hB
   simpa using e
  have S5:a.eval (.tmp it)=.pointer (some ⟨rr,0,none⟩):=ha
  rcases run_next_at (P:=P) w Ez.type rr bm clock clock seen es clock hr hb GR.1 (Nat.le_refl _)with⟨_,gr⟩|⟨e,he,_⟩
  rotate_left
  ·have h0:(leftOf es seen).toList=[]:=List.eq_nil_of_length_eq_zero (by rw[<-hL.len,hlen])
   rw[h0]at he;simp at he
  have FJ:nx<a.tmps.size:=by rw[dK.size];exact O.QK
  have E2:=iF (iF dK.env (Kf (.eT _ _ (.bool false))) (dst:=some nx) (fun d h=>by cases h;exact O.QK) dK.size) (.eT _ _ (.bool false)) (dst:=some ok) (fun d h=>by cases h;exact O.TE) (by rw[fc];exact dK.size)
  show AJ P (.seq _ _) _ a w
  refine lN (kB (wp_region_list ?_))
  refine mM (v:=.tuple #[.bool false]) (w':=w) O.h3 (by simp[execOp,O.h1,S5,gr,Result.andThen]) ?_
  refine mM (v:=.bool false) (w':=w) O.h6 (by rw[O.h2];simp[execOp,O.h4,eval_put FJ,Instr.extract]) ?_
  rw[O.h2,O.h5]
  refine lN (wV (t:=false) (eval_put (by rw[fc,dK.size];exact O.TE)) (kB (wp_exit ?_)))
  show Exit.inBlock b Q' (.exit b) _ _
  simp only[Exit.inBlock,if_true]
  exact hQ .normal _ ⟨σ.get,σ.next+1⟩ _ w D ι hq T ⟨dK.tz,dK.used.next,E2,by rw[fc,fc];exact dK.size⟩ (by rw[put_defers,put_defers];exact hd) (Nat.le_succ_of_le H3)
 |succ n ih=>
  intro left env σ a w D ι seen hv dK hd H3 T hid Um Uj hr hb hlen hL
  obtain⟨LP,hq⟩:=hv
  have ha:a.tmps.getD it undef=.pointer (some ⟨rr,0,none⟩):=by
   have:=dK.env it
   rw[LP]at this
   obtain⟨B,e,hB,_⟩:=iJ this
   obtain⟨sz,C,hid⟩:=hid
   rw[hid]at hB;injection hB with hB;subst hB
   simpa using e
  have S5:a.eval (.tmp it)=.pointer (some ⟨rr,0,none⟩):=ha
  rcases run_next_at (P:=P) w Ez.type rr bm clock clock seen es clock hr hb GR.1 (Nat.le_refl _)with⟨h0,_⟩|⟨e,he,w1,nH,gr⟩
  ·have:=hL.len
   rw[hlen,Array.length_toList]at this;omega
  obtain⟨i,hi,H0⟩:=List.getElem_of_mem he
  have Rx:(leftOf es seen).toList[i]? =some e:=by rw[List.getElem?_eq_getElem hi,H0]
  have kN:i<left.length:=by rw[hL.len];exact hi
  obtain⟨e',kv,vv,q1,q2,q3,q4,q5⟩:=hL.at_ i left[i] (List.getElem?_eq_getElem kN)
  rw[Rx]at q1;injection q1 with q1;subst q1
  replace hq:=hq i left[i] kv vv (List.getElem?_eq_getElem kN) q2 q3
  have O0:w1.heap[rr]? =some (.mapIter (some bm) clock seen clock):=by rcases nH with rfl|rfl<;>exact hr
  have eH:=MapKept.heap_set (o':=.mapIter (some bm) clock (seen.push e.born) clock) O0
  obtain⟨w2,qL⟩:∃w2,ChangeMaps.setBlock w1 rr (.mapIter (some bm) clock (seen.push e.born) clock)=w2:=⟨_,rfl⟩
  have ho:∀k,k≠rr->w2.heap[k]? =w.heap[k]? :=fun k hk=>by
   rw[<-qL]
   refine(eH.2 k hk).trans ?_
   rcases nH with rfl|rfl<;>rfl
  have hz:w2.heap.size=w.heap.size:=by
   rw[<-qL]
   rcases nH with rfl|rfl<;>simp[ChangeMaps.setBlock]
  have D8:w2.heap[rr]? =some (.mapIter (some bm) clock (seen.push e.born) clock):=by rw[<-qL];exact eH.1
  have xT:w2.os=w.os/\w2.tape=w.tape/\w2.output=w.output:=by
   rw[<-qL]
   rcases nH with rfl|rfl<;>exact⟨rfl,rfl,rfl⟩
  rw[qL]at gr
  clear qL eH
  have I1:mT w rr:=⟨_,_,_,_,hr⟩
  have I2:mT w2 rr:=⟨_,_,_,_,D8⟩
  have rt:∀{a v},cL P w D ι a v->cL P w2 D ι a v:=yM I1 I2 ho
  have S2:=dK.tz.iter I1 I2 ho hz
  have T2:Step hs D0 ι0 w0 D ι w2:=⟨⟨xT.1.trans T.below.os,xT.2.1.trans T.below.tape,xT.2.2.trans T.below.output,by rw[hz];exact T.below.size,fun k hk=>(ho k (by omega)).trans (T.below.block k hk)⟩,fun k hk=>(ho k (fun hc=>hD0 (hc▸hk))).trans (T.qM k hk),T.dead,T.names,T.new⟩
  have GJ:w2.heap[bm]? =some (.map es clock):=(ho bm gP).trans hb
  have FJ:nx<a.tmps.size:=by rw[dK.size];exact O.QK
  have E1:cE P w2 D ι env a:=fun t=>rt (dK.env t)
  have E2:=iF (iF E1 (Kh (.eT _ _ (.bool true)) (rt q4) (rt q5)) (dst:=some nx) (fun d h=>by cases h;exact O.QK) dK.size) (.eT _ _ (.bool true)) (dst:=some ok) (fun d h=>by cases h;exact O.TE) (by rw[fc];exact dK.size)
  have E3:=iF E2 (Kg (rt q4) (rt q5)) (dst:=some en) (fun d h=>by cases h;exact O.lt3) (by rw[fc,fc];exact dK.size)
  have HX:=run_entry_at (P:=P) w2 rr bm clock seen es clock e D8 GJ (mem_left he).1 GR.2
  show AJ P (.seq _ _) _ a w
  refine lN (kB (wp_region_list ?_))
  refine mM (v:=.tuple #[.bool true,e.key,e.val]) (w':=w2) O.h3 (by simp[execOp,O.h1,S5,gr,Result.andThen]) ?_
  refine mM (v:=.bool true) (w':=w2) O.h6 (by rw[O.h2];simp[execOp,O.h4,eval_put FJ,Instr.extract]) ?_
  rw[O.h2,O.h5]
  refine lN (wV (t:=true) (eval_put (by rw[fc,dK.size];exact O.TE)) (kB (wp_skip ?_)))
  refine tk (lN (kB (wp_region_list ?_)))
  show wpList P _ _ (Ey::r8) _ _
  have ha3:(((a.put (some nx) (.tuple #[.bool true,e.key,e.val])).put (some ok) (.bool true)).eval (.tmp it))=.pointer (some ⟨rr,0,none⟩):=by
   have n1:=O.ne1
   have n2:=O.ne2
   rw[<-S5]
   simp[Act.put,Act.eval,Array.getD_eq_getD_getElem?,Array.getElem?_setIfInBounds,Ne.symm n1,Ne.symm n2]
  refine mM (v:=.tuple #[e.key,e.val]) (w':=w2) O.h9 (by simp[execOp,O.h7,ha3,HX,Result.andThen]) ?_
  rw[O.h8]
  refine yX r8 vE 1 _ ⟨σ.get,σ.next+1⟩ _ w2 D ι (fun _=>False) O.hE hq S2 dK.used.next (fun _ h=>h.elim) E3 (by rw[fc,fc,fc];exact dK.size) fun Ub σ3 a3 w3 D3 ι3 hk T3 St3 Rn U8=>?_
  refine qq hm nE sE O.hR _ Ub σ3 a3 w3 D3 ι3 _ hk St3 fun ex IU σ4 a4 w4 D4 ι4 Jt T4 TY CW U9=>?_
  have UO:a4.defers=ds:=by rw[CW,Rn,put_defers,put_defers,put_defers];exact hd
  have Vi:n0<=σ4.next:=Nat.le_trans H3 (Nat.le_trans (Nat.le_succ _) (Nat.le_trans U8 U9))
  have NR:=T3.trans T4
  have TT:=T2.trans NR
  have ug:Cy m it nx ok en id (dO (Sound P) (.seq (.eO false vE) sE)) b b1 Q n (left.eraseIdx i) IU σ4->pC P (Km ix ie b b1 ok Ez Hm Ey r8 nE) (Exit.inBlock b Q') (n+1) a4 w4:=fun hq5=>by
   refine ih (left.eraseIdx i) IU σ4 a4 w4 D4 ι4 (seen.push e.born) hq5 TY UO Vi TT ?_ (NR.dead _ Um) (NR.dead _ Uj) ((NR.qM _ Um).trans D8) ((NR.qM _ Uj).trans GJ) ?_ ?_
   ·obtain⟨sz,C,hid⟩:=hid;exact⟨sz,C,NR.names _ _ hid⟩
   ·rw[List.length_eraseIdx,if_pos kN,hlen];rfl
   ·rw[Ep GR Rx]
    exact(hL.erase hi).rep fun hr=>NR.rep (rt hr)
  have out:∀ex,ex≠.normal->Q ex IU σ4->Q' (SO ex) a4 w4:=fun ex _ h=>hQ ex IU σ4 a4 w4 D4 ι4 h TT TY UO Vi
  cases ex with
  |normal=>exact ug Jt
  |ret=>exact out .ret (by simp) Jt
  |exit j5=>
   simp only[bj]at Jt
   simp only[SO,Exit.inBlock]
   by_cases h1:j5=b1
   ·rw[if_pos h1]at Jt ⊢
    exact ug Jt
   ·rw[if_neg h1]at Jt ⊢
    simp only[du,bj]at Jt
    show Exit.inBlock b Q' (.exit j5) a4 w4
    simp only[Exit.inBlock]
    by_cases h2:j5=b
    ·rw[if_pos h2]at Jt ⊢
     exact hQ .normal IU σ4 a4 w4 D4 ι4 Jt TT TY UO Vi
    ·rw[if_neg h2]at Jt ⊢
     exact out (.exit j5) (by simp) Jt
def CS (P:Program) (nt:Nat) (c:Code) (W:(Ex->Env->ar->Prop)->Env->ar->Prop):Prop:=
 ∀(hs:Nat) (Q:Ex->Env->ar->Prop) (env:Env) (σ:ar) (a:Act) (w:World) (D:Nat->Prop) (ι:Names) (Q':Exit->Act->World->Prop),W Q env σ->St P hs nt D ι env σ a w->tM P hs nt a.defers Q σ.next D ι w Q'->AJ P c Q' a w
theorem CS.code (hm:P.follows .mixedOrders=true) {md:List (Nat×Nat)} {nt fid:Nat} {c:Code} {vc:VC} (h:ju P md nt fid c=some vc):CS P nt c (dO (Sound P) vc):=
 fun _ Q env σ a w D ι Q' hv dK hQ=>qq hm c vc h Q env σ a w D ι Q' hv dK hQ
theorem CS.seq {nt:Nat} {x y:Code} {V W:(Ex->Env->ar->Prop)->Env->ar->Prop} (h:CS P nt x V) (k:CS P nt y W):CS P nt (.seq x y) (fun Q=>V (du (W Q) Q)):=fun hs Q env σ a w D ι Q' hv dK hQ=>by
 refine lN (h hs _ env σ a w D ι _ hv dK fun ex jk σ1 a1 w1 D1 ι1 hq T kh hd hle=>?_)
 cases ex with
 |normal=>exact k hs Q jk σ1 a1 w1 D1 ι1 Q' hq kh (by rw[hd];exact hQ.later T hle)
 |exit id=>exact hQ (.exit id) jk σ1 a1 w1 D1 ι1 hq T kh hd hle
 |ret=>exact hQ .ret jk σ1 a1 w1 D1 ι1 hq T kh hd hle
theorem CS.rng (hm:P.follows .mixedOrders=true) {md:List (Nat×Nat)} {nt fid s0 sA site ia ix ie b b1 it nx ok en:Nat} {m:MK} {Ez Hm Ey EC:Oper} {Ka r8:List Oper} {nE:Code} {vA vE:List br} {sE:VC} {t k e:TypeId} {tm:Operand} {tm':O}
  (O:Is P md nt fid s0 it nx ok en Ez Hm Ey r8 nE vE sE) (h1:EC.op=.range t tm) (h2:EC.dst=some it) (h3:EC.guard=none) (dZ:it<nt) (ht:P.underlying t=some (.map k e)) (RQ:cO P tm=some tm') (hA:allM (kT P (Ka++[EC]).toArray nt sA false false #[] []) Ka 0=some vA):
  CS P nt (.seq (.region ia (Ka++[EC]).toArray false) (.block b (.loop (Km ix ie b b1 ok Ez Hm Ey r8 nE))))
   (fun Q=>wpOps (Sound P) false vA (Hw m tm' site it nx ok en (dO (Sound P) (.seq (.eO false vE) sE)) b b1 Q)):=fun hs Q env σ a w D ι Q' hv dK hQ=>by
 refine lN (kB (wp_region_list ?_))
 show wpList P _ _ (Ka++[EC]) a w
 refine wW [EC] Ka vA 0 env σ a w D ι (fun _=>False) hA hv dK.tz dK.used (fun _ h=>h.elim) dK.env dK.size fun jk σ1 a1 w1 D1 ι1 hk T sO uV GO=>?_
 obtain⟨id,r,hid,hg,hw,hr⟩:=hk
 have gS:=dt sO.env RQ
 rw[hid]at gS
 obtain⟨B,hv,hB,hk⟩:=F2 gS
 obtain⟨B',dH,R,kq,mh⟩:=sO.tz.row id r hg
 rw[hB]at dH;injection dH with dH;subst dH
 obtain⟨hrsz,es,clock,hb,fA,⟨hlen,GR⟩,hM⟩:=R.map m hk
 have SQ:=R.lt
 have gr:=run_range_map (P:=P) w1 t k e B.b es clock ht hb
 refine mM (v:=.pointer (some ⟨w1.heap.size,0,none⟩)) (w':=w1.alloc (.mapIter (some B.b) clock #[] clock)) h3 (by simp[execOp,h1,hv,gr,Result.andThen]) ?_
 rw[h2]
 obtain⟨w2,qL⟩:∃w2,w1.alloc (.mapIter (some B.b) clock #[] clock)=w2:=⟨_,rfl⟩
 have hblk:∀b,b<w1.heap.size->w2.heap[b]? =w1.heap[b]? :=fun b hb=>by rw[<-qL];exact Below.heap_alloc _ _ _ hb
 have kr:w2.heap[w1.heap.size]? =some (.mapIter (some B.b) clock #[] clock):=by rw[<-qL];exact heap_alloc_new _ _
 have hz:w2.heap.size=w1.heap.size+1:=by rw[<-qL];simp
 have xT:w2.os=w1.os/\w2.tape=w1.tape/\w2.output=w1.output:=by rw[<-qL];exact⟨rfl,rfl,rfl⟩
 rw[qL]
 clear qL gr
 let D2:Nat->Prop:=fun x=>D1 x∨x=B.b∨x=w1.heap.size
 let ι2:Names:=kK ι1 ⟨site,σ1.next⟩ ⟨w1.heap.size,1,0,none⟩
 have jz:ι1 ⟨site,σ1.next⟩=none:=fresh sO.used (fun h=>h)
 have Ts:∀{a v},cL P w1 D1 ι1 a v->cL P w2 D2 ι2 a v:=fun h=>h.frame (fun b hd=>hblk b (sO.tz.dead b hd)) (fun _ h=>.inl h) (fo jz)
 have yW:∀{j q C},σ1.get j=some q->ι2 j=some C->ι1 j=some C:=fun {j q C} hj hC=>by
  obtain⟨C',uB,_⟩:=sO.tz.row j q hj
  have:=fo (B:=⟨w1.heap.size,1,0,none⟩) jz j C' uB
  have e:=this.symm.trans hC
  injection e with e;rw[<-e];exact uB
 have lt:∀{j q C},σ1.get j=some q->ι1 j=some C->C.b<w1.heap.size:=fun {j q C} hj hC=>by
  obtain⟨C',uB,R',_⟩:=sO.tz.row j q hj
  rw[hC]at uB;injection uB with uB;subst uB
  exact R'.lt
 have Of:∀{j q},bL σ1.get id {r with w:=false} j=some q->∃q0,σ1.get j=some q0/\(q.w=true->q=q0/\j≠id)/\(j=id->q={r with w:=false}/\q0=r)/\(j≠id->q=q0):=fun {j q} h=>by
  unfold bL at h
  split at h
  ·rename_i e
   injection h with h;subst h
   exact⟨r,e▸hg,fun h=>(by cases h),fun _=>⟨rfl,rfl⟩,fun hc=>absurd e hc⟩
  ·rename_i e
   exact⟨q,h,fun _=>⟨rfl,e⟩,fun hc=>absurd hc e,fun _=>rfl⟩
 have S2:gF P hs D2 ι2 (bL σ1.get id {r with w:=false}) w2:=by
  refine⟨by rw[hz];exact Nat.le_succ_of_le sO.tz.lo,fun b hb=>?_,fun j q h=>?_,fun j j' q q' C C' h h' Ju hC uB he=>?_⟩
  ·rw[hz]
   rcases hb with hb|rfl|rfl
   ·exact Nat.lt_succ_of_lt (sO.tz.dead b hb)
   ·exact Nat.lt_succ_of_lt SQ
   ·exact Nat.lt_succ_self _
  ·obtain⟨q0,Nn,Ju,zM,gP⟩:=Of h
   obtain⟨C,hC,RC,k1,k2⟩:=sO.tz.row j q0 Nn
   have hCl:=lt Nn hC
   refine⟨C,fo jz j C hC,?_,fun QE=>k1 ((Ju QE).1▸QE),fun QE hD=>?_⟩
   ·have RF:gT P w2 D2 ι2 C q0:=RC.frame (hblk _ hCl) fun a v h=>Ts h
    by_cases hj:j=id
    ·obtain⟨e1,e2⟩:=zM hj
     rw[e1,<-e2];exact RF.flag false
    ·rw[gP hj];exact RF
   ·obtain⟨e1,e2⟩:=Ju QE
    rcases hD with hD|hD|hD
    ·exact k2 (e1▸QE) hD
    ·exact e2 (sO.tz.inj j id q0 r C B Nn hg (e1▸QE) hC hB hD)
    ·omega
  ·obtain⟨q0,Nn,Vs,_⟩:=Of h
   obtain⟨q0',RJ,_⟩:=Of h'
   exact sO.tz.inj j j' q0 q0' C C' Nn RJ ((Vs Ju).1▸Ju) (yW Nn hC) (yW RJ uB) he
 have T2:Step hs D1 ι1 w1 D2 ι2 w2:=⟨⟨xT.1,xT.2.1,xT.2.2,by omega,fun k hk=>hblk k (Nat.lt_of_lt_of_le hk sO.tz.lo)⟩,fun b hb=>hblk b (sO.tz.dead b hb),fun _ h=>.inl h,fo jz,fun b hb=>by
  rcases hb with hb|rfl|rfl
  ·exact .inl hb
  ·exact .inr (kq hw)
  ·exact .inr sO.tz.lo⟩
 have E2:cE P w2 D2 ι2 (upd jk (some it) (.ptr ⟨site,σ1.next⟩ 0 0)) (a1.put (some it) (.pointer (some ⟨w1.heap.size,0,none⟩))):=
  iF (fun t=>Ts (sO.env t)) (by have:=cL.ptr (P:=P) (w:=w2) (D:=D2) (ι:=ι2) ⟨site,σ1.next⟩ 0 0 ⟨w1.heap.size,1,0,none⟩ (ez _ _ _) rfl;simpa using this) (fun d h=>by cases h;exact dZ) sO.size
 have L2:M3 P w2 D2 ι2 m (leftOf es #[]).toList r.rows:=by
  have he:(leftOf es #[]).toList=es.toList:=by simp[leftOf]
  rw[he]
  refine⟨by simpa using fA.symm,fun i cs hi=>?_⟩
  obtain⟨Q1,kv,vv,q1,q2,q3,q4,q5⟩:=hM i cs hi
  exact⟨Q1,kv,vv,by simpa using q1,q2,q3,Ts q4,Ts q5⟩
 show AJ P (.block b (.loop (Km ix ie b b1 ok Ez Hm Ey r8 nE))) Q' _ w2
 exact tk (Cq (r.rows.length+1) (EI hm O GR (ds:=a.defers) (n0:=σ.next) (D0:=D) (ι0:=ι) (w0:=w) hQ
  (fun hc=>by have:=dK.tz.dead _ hc;have:=T.below.size;omega) sO.tz.lo (by omega) r.rows.length r.rows _ ⟨bL σ1.get id {r with w:=false},σ1.next+1⟩ _ w2 D2 ι2 #[] hr
  ⟨S2,sO.used.upd.next,E2,by rw[fc];exact sO.size⟩ (by rw[put_defers];exact uV) (Nat.le_succ_of_le GO) (T.trans T2) ⟨1,0,ez _ _ _⟩ (.inr (.inr rfl)) (.inr (.inl rfl)) kr ((hblk _ SQ).trans hb) rfl L2))
theorem CS.fn {f:Nat} {fn:Func} {c:Code} {args:List AV} {σ:ar} {K:AV->ar->Prop} {vr:List nO} {W:(Ex->Env->ar->Prop)->Env->ar->Prop} (Qq:P.funcs[f]? =some fn) (hc:fn.body=some c) (hr:fn.results.toList.mapM (Dr P)=some vr) (ha:fn.params.size+fn.nfree=args.length) (hle:fn.params.size+fn.nfree<=fn.ntmps)
  (h:CS P fn.ntmps c W) (hv:W (kI vr K) (cF args) σ):Call P f args σ K:=
 gU (vQ Qq hc hr ha hle fun hs w D ι a Q' dK hQ=>h hs (kI vr K) (cF args) σ a w D ι Q' hv dK hQ)
theorem sF (hm:P.follows .mixedOrders=true) {c:VC} {Q Q':Ex->Env->ar->Prop} {env:Env} {σ:ar} (hQ:∀x e s,Q x e s->Q' x e s) (h:dO (Call P) c Q env σ):dO (Sound P) c Q' env σ:=
 jF (fun _ _ _ _ h=>gC hm h) kS c Q Q' env σ hQ h
theorem zb {m:MK} {it nx ok en:Nat} {id:Id} {B B':(Ex->Env->ar->Prop)->Env->ar->Prop} {b b1:Nat} {Q Q':Ex->Env->ar->Prop} (hB:∀R R' e s,(∀x e s,R x e s->R' x e s)->B R e s->B' R' e s) (hQ:∀x e s,Q x e s->Q' x e s):
  ∀(n:Nat) (left:List (List AV)) (env:Env) (σ:ar),Cy m it nx ok en id B b b1 Q n left env σ->Cy m it nx ok en id B' b b1 Q' n left env σ
 |0,_,env,σ,h=>⟨h.1,hQ _ _ _ h.2⟩
 |n+1,left,env,σ,h=>⟨h.1,fun i cs kv vv h1 h2 h3=>hB _ _ _ _ (fun x e s hx=>by
  have hn:=zb (id:=id) (m:=m) (it:=it) (nx:=nx) (ok:=ok) (en:=en) (b:=b) (b1:=b1) hB hQ n (left.eraseIdx i) e s
  cases x with
  |normal=>exact hn hx
  |ret=>exact hQ _ _ _ hx
  |exit j5=>
   simp only[bj]at hx ⊢
   split at hx
   ·rename_i h1;rw[if_pos h1];exact hn hx
   ·rename_i h1
    rw[if_neg h1]
    simp only[du,bj]at hx ⊢
    split at hx
    ·rename_i h2;rw[if_pos h2];exact hQ _ _ _ hx
    ·rename_i h2;rw[if_neg h2];exact hQ _ _ _ hx) (h.2 i cs kv vv h1 h2 h3)⟩
theorem Hx (hm:P.follows .mixedOrders=true) {m:MK} {tm:O} {site it nx ok en:Nat} {c:VC} {b b1:Nat} {Q Q':Ex->Env->ar->Prop} {env:Env} {σ:ar} (hQ:∀x e s,Q x e s->Q' x e s) (h:Hw m tm site it nx ok en (dO (Call P) c) b b1 Q env σ):Hw m tm site it nx ok en (dO (Sound P) c) b b1 Q' env σ:=by
 obtain⟨id,r,h1,h2,h3,h4⟩:=h
 exact⟨id,r,h1,h2,h3,zb (B':=dO (Sound P) c) (fun R R' e s hR hb=>sF hm hR hb) hQ _ _ _ _ h4⟩
theorem wZ {α:Type}:∀{l:List α} {i:Nat} {x:α},l[i]? =some x->(x::l.eraseIdx i).Perm l
 |y::l,0,x,h=>by simp at h;subst h;exact List.Perm.refl _
 |y::l,i+1,x,h=>by
  simp only[List.getElem?_cons_succ]at h
  rw[List.eraseIdx_cons_succ]
  exact(List.Perm.swap _ _ _).trans ((wZ h).cons _)
theorem Sv {m:MK} {tm:O} {site it nx ok en:Nat} {c:VC} {b b1:Nat} {Q:Ex->Env->ar->Prop} {env:Env} {σ:ar} {id:Id} {r:Row} (I:List (List AV)->Env->ar->Prop) (h1:dj env tm=.map id m) (h2:σ.get id=some r) (h3:r.w=true) (LP:([nx,ok,en]++yg c).contains it=false)
  (h0:I [] (upd env (some it) (.ptr ⟨site,σ.next⟩ 0 0)) ⟨bL σ.get id {r with w:=false},σ.next+1⟩)
  (step:∀pre cs rest e s kv vv,(pre++cs::rest).Perm r.rows->I pre e s->gI ([nx,ok,en]++yg c) (upd env (some it) (.ptr ⟨site,σ.next⟩ 0 0)) e->part m.ka m.ks cs=some kv->cs[m.ks]? =some vv->
   dO (Call P) c (bj b1 (du (I (pre++[cs])) (bj b Q))) (upd (upd (upd e (some nx) (.gE [.bool true,kv,vv])) (some ok) (.bool true)) (some en) (.gE [kv,vv])) ⟨s.get,s.next+1⟩)
  (fin:∀pre e s,pre.Perm r.rows->I pre e s->gI ([nx,ok,en]++yg c) (upd env (some it) (.ptr ⟨site,σ.next⟩ 0 0)) e->Q .normal (upd (upd e (some nx) (.gE [.bool false])) (some ok) (.bool false)) ⟨s.get,s.next+1⟩):
  Hw m tm site it nx ok en (dO (Call P) c) b b1 Q env σ:=by
 refine⟨id,r,h1,h2,h3,?_⟩
 have Ro:∀e,gI ([nx,ok,en]++yg c) (upd env (some it) (.ptr ⟨site,σ.next⟩ 0 0)) e->e it=.ptr ⟨site,σ.next⟩ 0 0:=fun e h=>by
  rw[h it LP];simp[upd]
 have key:∀n left pre e s,(pre++left).Perm r.rows->left.length=n->I pre e s->gI ([nx,ok,en]++yg c) (upd env (some it) (.ptr ⟨site,σ.next⟩ 0 0)) e->Cy m it nx ok en ⟨site,σ.next⟩ (dO (Call P) c) b b1 Q n left e s:=by
  intro n
  induction n with
  |zero=>
   intro left pre e s hp hl hI hK
   have:left=[]:=List.eq_nil_of_length_eq_zero hl
   subst this
   rw[List.append_nil]at hp
   exact⟨Ro e hK,fin pre e s hp hI hK⟩
  |succ n ih=>
   intro left pre e s hp hl hI hK
   refine⟨Ro e hK,fun i cs kv vv hi hk hv=>?_⟩
   have kN:=(List.getElem?_eq_some_iff.1 hi).1
   have FF:(cs::left.eraseIdx i).Perm left:=by
    exact wZ hi
   have Jq:(pre++cs::left.eraseIdx i).Perm r.rows:=(FF.append_left pre).trans hp
   have Oy:gI ([nx,ok,en]++yg c) (upd env (some it) (.ptr ⟨site,σ.next⟩ 0 0)) (upd (upd (upd e (some nx) (.gE [.bool true,kv,vv])) (some ok) (.bool true)) (some en) (.gE [kv,vv])):=
    ((hK.upd (fun t h=>by cases h;simp)).upd (fun t h=>by cases h;simp)).upd (fun t h=>by cases h;simp)
   refine jF (fun _ _ _ _ h=>h) aJ c _ _ _ _ (fun x e' s' hx=>?_) (zi c _ _ _ (fun t ht=>List.mem_append_right _ ht) Oy (step pre cs (left.eraseIdx i) e s kv vv Jq hI hK hk hv))
   obtain⟨hx,GN⟩:=hx
   have ug:I (pre++[cs]) e' s'->Cy m it nx ok en ⟨site,σ.next⟩ (dO (Call P) c) b b1 Q n (left.eraseIdx i) e' s':=fun Ut=>
    ih (left.eraseIdx i) (pre++[cs]) e' s' (by rw[List.append_assoc];exact Jq) (by rw[List.length_eraseIdx,if_pos kN];omega) Ut GN
   cases x with
   |normal=>exact ug hx
   |ret=>exact hx
   |exit j5=>
    simp only[bj]at hx ⊢
    split at hx
    ·rename_i h1;rw[if_pos h1];exact ug hx
    ·rename_i h1;rw[if_neg h1];exact hx
 exact key _ r.rows [] _ _ (List.Perm.refl _) rfl h0 (gI.refl _ _)
end Go.Proofs.YtgoelphibofcmaaGreat.V

namespace Go.Proofs.YtgoelphibofcmaaGreat.V
open Go.RowKit
def NM:Code->Code
 | .seq a _=>a
 |c=>c
def Ic:Code->Code
 | .seq _ b=>b
 |c=>c
def TM:Code->Code
 | .block _ c=>c
 |c=>c
def VL:Code->Code
 | .loop c=>c
 |c=>c
def SJ:Code->List Oper
 | .region _ o _=>o.toList
 |_=>[]
def rg2 (k:Code):Code:=NM (NM (Ic (Ic k)))
def VH (k:Code):Code:=Ic (NM (Ic (Ic k)))
def rgL (k:Code):Code:=VL (TM (VH k))
def Py (k:Code):Code:=Ic (Ic (rgL k))
def Qa:Oper:={dst:=none,op:=.nilCheck (.tmp 0),type:=0,pos:= "",after:= #[],guard:=none}
def rgP (k:Code):List Oper:=(SJ (rg2 k)).dropLast
def rgO (k:Code):Oper:=(SJ (rg2 k)).getLastD Qa
def TH (k:Code) (i:Nat):Oper:=(SJ (NM (rgL k))).getD i Qa
def Sp (k:Code):Oper:=(SJ (NM (TM (Py k)))).headD Qa
def Sq (k:Code):List Oper:=(SJ (NM (TM (Py k)))).tail
def rgR (k:Code):Code:=Ic (TM (Py k))
def Sr (P:Program) (v0 v1:VC) (vA:List br) (m:MK) (tm:O) (site it nx ok en:Nat) (vE:List br) (vR:VC) (b b1:Nat) (vT:VC) (Q:Ex->Env->ar->Prop):Env->ar->Prop:=
 dO (Sound P) v0 (du (dO (Sound P) v1 (du (wpOps (Sound P) false vA (Hw m tm site it nx ok en (dO (Sound P) (.seq (.eO false vE) vR)) b b1 (du (dO (Sound P) vT Q) Q))) Q)) Q)
def Pz (P:Program) (v0 v1:VC) (vA:List br) (m:MK) (tm:O) (site it nx ok en:Nat) (vE:List br) (vR:VC) (b b1:Nat) (vT:VC) (Q:Ex->Env->ar->Prop):Env->ar->Prop:=
 dO (Call P) v0 (du (dO (Call P) v1 (du (wpOps (Call P) false vA (Hw m tm site it nx ok en (dO (Call P) (.seq (.eO false vE) vR)) b b1 (du (dO (Call P) vT Q) Q))) Q)) Q)
theorem xh {F F':Env->ar->Prop} {Q:Ex->Env->ar->Prop} (h:∀e s,F e s->F' e s):∀x e s,du F Q x e s->du F' Q x e s:=fun x e s hx=>by
 cases x with
 |normal=>exact h e s hx
 |ret=>exact hx
 |exit id=>exact hx
theorem Kn {P:Program} (hm:P.follows .mixedOrders=true) {v0 v1:VC} {vA:List br} {m:MK} {tm:O} {site it nx ok en:Nat} {vE:List br} {vR:VC} {b b1:Nat} {vT:VC} {Q:Ex->Env->ar->Prop} {env:Env} {σ:ar}
  (h:Pz P v0 v1 vA m tm site it nx ok en vE vR b b1 vT Q env σ):Sr P v0 v1 vA m tm site it nx ok en vE vR b b1 vT Q env σ:=
 sF hm (xh fun _ _ h=>sF hm (xh fun _ _ h=>lp (fun _ _ _ _ h=>gC hm h) kS (fun _ _ h=>Hx hm (xh fun _ _ h=>sF hm (fun _ _ _ h=>h) h) h) _ _ _ h) h) h
end Go.Proofs.YtgoelphibofcmaaGreat.V

namespace Go.Proofs.YtgoelphibofcmaaGreat.V
open Go.RowKit
noncomputable def oN:Go.Code:=Tryz.f135.body.getD .skip
def Fb:VC:=(.eO false [⟨(some 2),(.new [.bE]),none,135000000,[]⟩])
def KN:VC:=(.eO false [⟨(some 3),(.dv (.k .bE)),none,135001000,[]⟩])
def KO:List br:=[⟨(some 6),(.dv (.t 0)),none,135002000,[]⟩,⟨(some 7),(.AL (.t 6)),none,135002001,[]⟩,⟨(some 8),(.gh 4 (.t 7)),none,135002002,[]⟩,⟨(some 9),(.load false 1 (.t 8)),none,135002003,[]⟩]
def Ay:List br:=[⟨(some 14),(.extract 0 (.t 13)),none,135004001,[]⟩,⟨(some 15),(.extract 1 (.t 13)),none,135004002,[]⟩,⟨(some 4),(.new [(.int .i64 0),(.int .i64 0)]),none,135004003,[]⟩,⟨none,(.store 2 (.t 4) (.t 14)),none,135004004,[]⟩,⟨(some 5),(.dv (.t 15)),none,135004005,[]⟩]
def Az:VC:=(.eO false [⟨(some 16),(.dv (.t 3)),none,135005000,[]⟩,⟨(some 17),(.load true 2 (.t 4)),none,135005001,[]⟩,⟨(some 18),(.dv (.t 5)),none,135005002,[]⟩,⟨(some 19),(.build [(.int .i64 0),(.int .i64 0),(.int .i64 0)] [(0,(2,(.t 17))),(2,(1,(.t 18)))]),none,135005003,[]⟩,⟨(some 20),(.lQ 3 1 [(.t 19)]),none,135005004,[]⟩,⟨(some 21),(.append 3 (.t 16) (.t 20)),none,135005005,[]⟩,⟨(some 3),(.dv (.t 21)),none,135005006,[]⟩])
def AA:VC:=(.seq (.eO false [⟨(some 22),(.dv (.t 3)),none,135006000,[]⟩,⟨(some 23),(.call 180 [(.t 22)]),none,135006001,[]⟩,⟨none,(.store 1 (.t 2) (.t 23)),none,135006002,[]⟩]) .ret)
def AD:List nO:=[(.cell true 1 2)]
def E0:O:=(.t 9)
theorem Pp:Is Tryz.prog [] Tryz.f135.ntmps 135 135004000 10 11 12 13 (TH oN 0) (TH oN 1) (Sp oN) (Sq oN) (rgR oN) Ay Az:=⟨by kernel_rfl,by kernel_rfl,by kernel_rfl,by kernel_rfl,by kernel_rfl,by kernel_rfl,by kernel_rfl,by kernel_rfl,by kernel_rfl,by decide,by decide,by decide,by decide,by decide,by kernel_rfl,by kernel_rfl⟩
theorem PD:oN=.seq (NM oN) (.seq (NM (Ic oN)) (.seq (.seq (.region 2 (rgP oN++[rgO oN]).toArray false) (.block 0 (.loop (Km 3 4 0 1 12 (TH oN 0) (TH oN 1) (Sp oN) (Sq oN) (rgR oN))))) (Ic (Ic (Ic oN))))):=by kernel_rfl
theorem N4 (m:MK):CS Tryz.prog Tryz.f135.ntmps oN (Sr Tryz.prog Fb KN KO m E0 135002999 10 11 12 13 Ay Az 0 1 AA):=by
 rw[PD]
 exact CS.seq (CS.code (md:=[]) (fid:=135) mixed (by kernel_rfl)) (CS.seq (CS.code (md:=[]) (fid:=135) mixed (by kernel_rfl)) (CS.seq (CS.rng (tm:=.tmp 9) (sA:=135002000) (t:=107) (k:=50) (e:=2) mixed Pp (by kernel_rfl) (by kernel_rfl) (by kernel_rfl) (by decide) (by kernel_rfl) (by kernel_rfl) (by kernel_rfl)) (CS.code (md:=[]) (fid:=135) mixed (by kernel_rfl))))
theorem Px {args:List AV} {σ:ar} {K:AV->ar->Prop} (ha:args.length=Tryz.f135.params.size) (m:MK) (h:Pz Tryz.prog Fb KN KO m E0 135002999 10 11 12 13 Ay Az 0 1 AA (kI AD K) (cF args) σ):Call Tryz.prog 135 args σ K:=
 CS.fn Tryz.func135 (by kernel_rfl) (by kernel_rfl) ha.symm (by decide) (N4 m) (Kn mixed h)
end Go.Proofs.YtgoelphibofcmaaGreat.V

namespace Go.Proofs.YtgoelphibofcmaaGreat.V
open Go.RowKit
attribute [local irreducible] dO wpOps gy Call
attribute [local go_sem] aT fK eS ga fZ dj upd cF K.av cP AV.cells AV.cell rowOf rowsOf part ld rowAt bL cD dG ef ik bV de ew fW fe dw ek dc db dU dV cj bl cU b4 cW cV ei eo ej cR cm dd eh bW aV cZ cI ij bx cK ck bd du bj dI AV.undef bH bS dW eb dQ dP cJ ev eE cH er ep cY da List.getD_cons_zero List.getD_cons_succ List.getD_nil List.all_cons List.all_nil Bool.and_true Bool.true_and Bool.and_self Bool.not_true Bool.not_false Option.map_some Option.map_none Option.bind_some Option.bind_none List.length_cons List.length_nil List.take_succ_cons List.take_zero List.take_nil List.drop_succ_cons List.drop_zero List.drop_nil List.head?_cons List.map_cons List.map_nil List.getElem?_cons_zero List.getElem?_cons_succ List.cons_append List.nil_append List.append_nil List.length_map List.set_cons_zero List.set_cons_succ Nat.reduceMul eq_self Int.toNat_natCast Int.natCast_nonneg and_self true_and and_true decide_true decide_false Bool.false_eq_true Nat.zero_add Nat.add_zero List.contains_cons List.contains_nil Bool.or_false Bool.false_or beq_self_eq_true Nat.reduceBEq ne_eq not_true_eq_false not_false_eq_true Id.mk.injEq false_and and_false Nat.reduceLT Int.reduceLE Int.reduceLT Int.reduceToNat Int.reduceNeg Int.reduceAdd Nat.le_refl List.length_append beq_true beq_false Bool.not_eq_eq_eq_not or_false false_or dR ae aj aI bq bG cC aY bh aW bp cQ bJ
end Go.Proofs.YtgoelphibofcmaaGreat.V

namespace Go.Proofs.YtgoelphibofcmaaGreat.V
open Go.RowKit
attribute [local irreducible] dO wpOps gy Call
attribute [local go_sem] aT fK eS ga fZ dj upd cF K.av cP AV.cells AV.cell rowOf rowsOf part ld rowAt bL cD dG ef ik bV de ew fW fe dw ek dc db dU dV cj bl cU b4 cW cV ei eo ej cR cm dd eh bW aV cZ cI ij bx cK ck bd du bj dI AV.undef bH bS dW eb dQ dP cJ ev eE cH er ep cY da List.getD_cons_zero List.getD_cons_succ List.getD_nil List.all_cons List.all_nil Bool.and_true Bool.true_and Bool.and_self Bool.not_true Bool.not_false Option.map_some Option.map_none Option.bind_some Option.bind_none List.length_cons List.length_nil List.take_succ_cons List.take_zero List.take_nil List.drop_succ_cons List.drop_zero List.drop_nil List.head?_cons List.map_cons List.map_nil List.getElem?_cons_zero List.getElem?_cons_succ List.cons_append List.nil_append List.append_nil List.length_map List.set_cons_zero List.set_cons_succ Nat.reduceMul eq_self Int.toNat_natCast Int.natCast_nonneg and_self true_and and_true decide_true decide_false Bool.false_eq_true Nat.zero_add Nat.add_zero List.contains_cons List.contains_nil Bool.or_false Bool.false_or beq_self_eq_true Nat.reduceBEq ne_eq not_true_eq_false not_false_eq_true Id.mk.injEq false_and and_false Nat.reduceLT Int.reduceLE Int.reduceLT Int.reduceToNat Int.reduceNeg Int.reduceAdd Nat.le_refl List.length_append beq_true beq_false Bool.not_eq_eq_eq_not or_false false_or dR ae aj aI bq bG cC aY bh aW bp cQ bJ
end Go.Proofs.YtgoelphibofcmaaGreat.V

namespace Go.Proofs.YtgoelphibofcmaaGreat.V
open Go.RowKit
attribute [local irreducible] dO wpOps gy Call
attribute [local go_sem] aT fK eS ga fZ dj upd cF K.av cP AV.cells AV.cell rowOf rowsOf part ld rowAt bL cD dG ef ik bV de ew fW fe dw ek dc db dU dV cj bl cU b4 cW cV ei eo ej cR cm dd eh bW aV cZ cI ij bx cK ck bd du bj dI AV.undef bH bS dW eb dQ dP cJ ev eE cH er ep cY da List.getD_cons_zero List.getD_cons_succ List.getD_nil List.all_cons List.all_nil Bool.and_true Bool.true_and Bool.and_self Bool.not_true Bool.not_false Option.map_some Option.map_none Option.bind_some Option.bind_none List.length_cons List.length_nil List.take_succ_cons List.take_zero List.take_nil List.drop_succ_cons List.drop_zero List.drop_nil List.head?_cons List.map_cons List.map_nil List.getElem?_cons_zero List.getElem?_cons_succ List.cons_append List.nil_append List.append_nil List.length_map List.set_cons_zero List.set_cons_succ Nat.reduceMul eq_self Int.toNat_natCast Int.natCast_nonneg and_self true_and and_true decide_true decide_false Bool.false_eq_true Nat.zero_add Nat.add_zero List.contains_cons List.contains_nil Bool.or_false Bool.false_or beq_self_eq_true Nat.reduceBEq ne_eq not_true_eq_false not_false_eq_true Id.mk.injEq false_and and_false Nat.reduceLT Int.reduceLE Int.reduceLT Int.reduceToNat Int.reduceNeg Int.reduceAdd Nat.le_refl List.length_append beq_true beq_false Bool.not_eq_eq_eq_not or_false false_or dR ae aj aI bq bG cC aY bh aW bp cQ bJ
end Go.Proofs.YtgoelphibofcmaaGreat.V

namespace Go.Proofs.YtgoelphibofcmaaGreat.V
open Go.RowKit
attribute [local irreducible] dO wpOps gy Call
attribute [local go_sem] aT fK eS ga fZ dj upd cF K.av cP AV.cells AV.cell rowOf rowsOf part ld rowAt bL cD dG ef ik bV de ew fW fe dw ek dc db dU dV cj bl cU b4 cW cV ei eo ej cR cm dd eh bW aV cZ cI ij bx cK ck bd du bj dI AV.undef bH bS dW eb dQ dP cJ ev eE cH er ep cY da List.getD_cons_zero List.getD_cons_succ List.getD_nil List.all_cons List.all_nil Bool.and_true Bool.true_and Bool.and_self Bool.not_true Bool.not_false Option.map_some Option.map_none Option.bind_some Option.bind_none List.length_cons List.length_nil List.take_succ_cons List.take_zero List.take_nil List.drop_succ_cons List.drop_zero List.drop_nil List.head?_cons List.map_cons List.map_nil List.getElem?_cons_zero List.getElem?_cons_succ List.cons_append List.nil_append List.append_nil List.length_map List.set_cons_zero List.set_cons_succ Nat.reduceMul eq_self Int.toNat_natCast Int.natCast_nonneg and_self true_and and_true decide_true decide_false Bool.false_eq_true Nat.zero_add Nat.add_zero List.contains_cons List.contains_nil Bool.or_false Bool.false_or beq_self_eq_true Nat.reduceBEq ne_eq not_true_eq_false not_false_eq_true Id.mk.injEq false_and and_false Nat.reduceLT Int.reduceLE Int.reduceLT Int.reduceToNat Int.reduceNeg Int.reduceAdd Nat.le_refl List.length_append beq_true beq_false Bool.not_eq_eq_eq_not or_false false_or dR ae aj aI bq bG cC aY bh aW bp cQ bJ
theorem za:∀{ps qs:List ad},(ps.Pairwise fun a b=>jO a.aQ b.aQ=true)->(qs.Pairwise fun a b=>jO a.aQ b.aQ=true)->(∀x,x∈ps↔x∈qs)->ps=qs
 |[],[],_,_,_=>rfl
 |[],q::qs,_,_,h=>absurd ((h q).2 (by simp)) (by simp)
 |p::ps,[],_,_,h=>absurd ((h p).1 (by simp)) (by simp)
 |p::ps,q::qs,hp,hq,h=>by
  obtain⟨p1,p2⟩:=List.pairwise_cons.1 hp
  obtain⟨q1,q2⟩:=List.pairwise_cons.1 hq
  have e:p=q:=by
   rcases List.mem_cons.1 ((h p).1 (by simp))with e|e
   ·exact e
   ·rcases List.mem_cons.1 ((h q).2 (by simp))with e'|e'
    ·exact e'.symm
    ·have:=JP (q1 p e)
     rw[p1 q e']at this;cases this
  subst e
  congr 1
  refine za p2 q2 fun x=>⟨fun hx=>?_,fun hx=>?_⟩
  ·rcases List.mem_cons.1 ((h x).1 (List.mem_cons_of_mem _ hx))with e|e
   ·subst e;have:=p1 x hx;rw[nj]at this;cases this
   ·exact e
  ·rcases List.mem_cons.1 ((h x).2 (List.mem_cons_of_mem _ hx))with e|e
   ·subst e;have:=q1 x hx;rw[nj]at this;cases this
   ·exact e
theorem ER {L qs:List ad} (hR:pR L) (hp:qs.Perm L) (hs:∀i j:Nat,i<j->j<qs.length->jO (aD qs j).aQ (aD qs i).aQ=false):qs=L:=by
 rw[sb]at hR
 have hd:L.Pairwise fun a b=>a.aQ≠b.aQ:=hR.imp fun {a b} h e=>by rw[e,nj]at h;cases h
 have hdq:qs.Pairwise fun a b=>a.aQ≠b.aQ:=hp.symm.pairwise hd fun {a b} h e=>h e.symm
 refine za ?_ hR fun x=>hp.mem_iff
 rw[List.pairwise_iff_getElem]at hdq ⊢
 intro i j hi hj DW
 have h1:=hs i j DW hj
 rw[fH hj,fH hi]at h1
 exact FX h1 fun e=>hdq i j hi hj DW e.symm
theorem Ds (ps:List ad) (h0:ps≠[]) (hlen:ps.length<=1048576) (σ:ar) (id:Id) (hv:id.bQ<σ.next) (hg:σ.get id=some ⟨true,3,ps.map aa⟩):
  Call Tryz.prog 145 [.own id 0 ps.length] σ fun a σ'=>∃o:Id,a=.own o 0 ps.length/\σ'.get o=some ⟨true,3,ps.map aa⟩/\σ.next<=o.bQ/\o.bQ<σ'.next/\∀x:Id,x.bQ<σ.next->σ'.get x=σ.get x:=by
 refine eQ eK rfl fun hl=>?_
 clear hl
 have h2:ps.length<=16777216:=by omega
 have hm:(ps.map aa).length=ps.length:=by simp
 have v1:=dr hv
 have ht:(ps.map aa).take ps.length=ps.map aa:=by rw[<-hm,List.take_length]
 have ha:(ps.map aa).all (fun c=>c.length==3&&c.all AV.cell)=true:=all_map fun x=>by simp[aa,AV.cell]
 (try((repeat(revert hN;revert N;apply Pn.out));refine wk (tw @hg (tw @h2 (tw @hm (tw @v1 (tw @ht @ha))))) ?_;(repeat(refine Pn.mk ?_;intro N hN))))
 exact eX (vs:=[.own ⟨145003002,σ.next+2⟩ 0 ps.length]) (.inl rfl) (sd @Nat.zero_add) ⟨_,rfl,sd @Nat.zero_add,by(try dsimp only);omega,by(try dsimp only);omega,fun x hx=>by
  have:=dr hx
  simp only[go_sem, ↓reduceIte,Nat.reduceEqDiff,Nat.reduceAdd,Nat.reduceSub,Nat.reduceLeDiff,reduceCtorEq,this]⟩
theorem zp (ps L:List ad) (hlen:ps.length<=1000000) (h0:ps≠[]) (hR:pR L) (hp:ps.Perm L) (σ:ar) (id:Id) (hv:id.bQ<σ.next) (hg:σ.get id=some ⟨true,3,ps.map aa⟩):
  Call Tryz.prog 180 [.own id 0 ps.length] σ fun a σ'=>∃o:Id,a=.agg [.own o 0 L.length]/\σ'.get o=some ⟨true,3,L.map aa⟩/\σ.next<=o.bQ/\o.bQ<σ'.next/\∀x:Id,x.bQ<σ.next->σ'.get x=σ.get x:=by
 refine eQ eK rfl fun hl=>?_
 clear hl
 have v1:=dr hv
 (try((repeat(revert hN;revert N;apply Pn.out));refine wk (tw @hg @v1) ?_;(repeat(refine Pn.mk ?_;intro N hN))))
 refine .inr (aJ _ _ _ _ _ (fun r σ1 hq=>?_) (Ds ps h0 (by omega) ⟨_,_⟩ id (by(try dsimp only);omega) (sd (tw @v1 @hg))))
 obtain⟨g1,x1⟩:=σ1
 obtain⟨o,rfl,q1,q2,q3,q4⟩:=hq
 (try dsimp only at q1 q2 q3 q4)
 have k2:=q4 ⟨180000000,σ.next⟩ (by(try dsimp only);omega)
 simp only[go_sem, ↓reduceIte,Nat.reduceEqDiff,Nat.reduceAdd,Nat.reduceSub,Nat.reduceLeDiff,reduceCtorEq]at k2
 refine hN _ _ ?_
 clear hN N
 (try((repeat(revert hN;revert N;apply Pn.out));refine wk @Nat.zero_add ?_;(repeat(refine Pn.mk ?_;intro N hN))))
 refine .inr (aJ _ _ _ _ _ (fun r σ2 hq=>?_) (HA PG PH ps (by omega) ⟨g1,_⟩ o q1))
 obtain⟨g2,x2⟩:=σ2
 obtain⟨u1,u2,ss,u3,u4,u5,u6⟩:=hq
 (try dsimp only at u1 u2 u3)
 have hss:ss=L:=ER hR (u5.trans hp) u6
 rw[hss]at u3 u4
 have o2:(⟨180000000,σ.next⟩:Id)≠o:=fun e=>by rw[<-e]at q2;(try dsimp only at q2);omega
 have k3:=(u2 _ o2).trans k2
 have of:=eq_false (fun e:o=(⟨180000000,σ.next⟩:Id)=>o2 e.symm)
 refine hN _ _ ?_
 clear hN N
 (try((repeat(revert hN;revert N;apply Pn.out));refine wk @k3 ?_;(repeat(refine Pn.mk ?_;intro N hN))))
 exact eX (.inl rfl) (vs:=[.agg [.own o 0 ps.length]]) (sd @Nat.zero_add) ⟨o,by rw[u4];rfl,sd (tw @of @u3),by omega,by(try dsimp only);omega,fun x hx=>by
  have h1:x≠o:=fun e=>by rw[e]at hx;omega
  have h2:=u2 x h1
  have h3:=q4 x (by(try dsimp only);omega)
  have h4:=dr hx
  simp only[go_sem, ↓reduceIte,Nat.reduceEqDiff,Nat.reduceAdd,Nat.reduceSub,Nat.reduceLeDiff,reduceCtorEq,h4]at h3
  simp only[go_sem, ↓reduceIte,Nat.reduceEqDiff,Nat.reduceAdd,Nat.reduceSub,Nat.reduceLeDiff,reduceCtorEq,h4,h2,h3]⟩
end Go.Proofs.YtgoelphibofcmaaGreat.V

namespace Go.Proofs.YtgoelphibofcmaaGreat.V
open Go.RowKit
attribute [local irreducible] dO wpOps gy Call
attribute [local go_sem] aT fK eS ga fZ dj upd cF K.av cP AV.cells AV.cell rowOf rowsOf part ld rowAt bL cD dG ef ik bV de ew fW fe dw ek dc db dU dV cj bl cU b4 cW cV ei eo ej cR cm dd eh bW aV cZ cI ij bx cK ck bd du bj dI AV.undef bH bS dW eb dQ dP cJ ev eE cH er ep cY da List.getD_cons_zero List.getD_cons_succ List.getD_nil List.all_cons List.all_nil Bool.and_true Bool.true_and Bool.and_self Bool.not_true Bool.not_false Option.map_some Option.map_none Option.bind_some Option.bind_none List.length_cons List.length_nil List.take_succ_cons List.take_zero List.take_nil List.drop_succ_cons List.drop_zero List.drop_nil List.head?_cons List.map_cons List.map_nil List.getElem?_cons_zero List.getElem?_cons_succ List.cons_append List.nil_append List.append_nil List.length_map List.set_cons_zero List.set_cons_succ Nat.reduceMul eq_self Int.toNat_natCast Int.natCast_nonneg and_self true_and and_true decide_true decide_false Bool.false_eq_true Nat.zero_add Nat.add_zero List.contains_cons List.contains_nil Bool.or_false Bool.false_or beq_self_eq_true Nat.reduceBEq ne_eq not_true_eq_false not_false_eq_true Id.mk.injEq false_and and_false Nat.reduceLT Int.reduceLE Int.reduceLT Int.reduceToNat Int.reduceNeg Int.reduceAdd Nat.le_refl List.length_append beq_true beq_false Bool.not_eq_eq_eq_not or_false false_or dR ae aj aI bq bG cC aY bh aW bp cQ bJ
def AsI (σ:ar) (T:Id) (ts:List ad) (pre:List (List AV)) (e0:Env) (s0:ar):Prop:=
 ∃l':List ad,pre=l'.map aa/\((l'=[]/\e0 3=.bE)∨∃o:Id,e0 3=.own o 0 l'.length/\s0.get o=some ⟨true,3,l'.map aa⟩/\σ.next<o.bQ/\o.bQ<s0.next)/\σ.next<s0.next/\(∀x:Id,x.bQ<σ.next->x≠T->s0.get x=σ.get x)/\s0.get T=some ⟨false,mP.pG,ts.map aa⟩/\s0.get ⟨135000000,σ.next⟩=some ⟨true,1,[[.bE]]⟩/\e0 2=.ptr ⟨135000000,σ.next⟩ 0 0
theorem Ha (L:List ad) (x:ad):(L++[x]).length=L.length+1:=by rw[List.length_append];rfl
theorem Di {σ:ar} {c T O:Id} {s:az} {ts L:List ad} (h:jH σ.get σ.next c T O s ts) (hlen:ts.length<=100000) (h0:ts≠[]) (hR:pR L) (hp:ts.Perm L):
  Call Tryz.prog 135 [.ptr c 0 0] σ (fun r σ'=>∃o:Id,r=.agg [.own o 0 L.length]/\σ'.get o=some ⟨true,3,L.map aa⟩/\σ.next<=o.bQ/\o.bQ<σ'.next/\σ.next<=σ'.next/\∀x:Id,x.bQ<σ.next->x≠T->σ'.get x=σ.get x):=by
 refine Px rfl mP ?_
 have fY:=h.row
 have FK:=h.tl
 have v1:=dr h.cv
 have v2:=dr h.tv
 unfold Pz
 rw[Fb]
 (try((repeat(revert hN;revert N;apply Pn.out));refine wk (tw @fY @v1) ?_;(repeat(refine Pn.mk ?_;intro N hN))))
 refine CQ (Sv (id:=T) (r:=⟨true,mP.pG,ts.map aa⟩) (AsI σ T ts) (sd @E0.eq_1) (sd (tw @FK @v2)) rfl (by decide) ?_ ?_ ?_)
 ·have vT:(T=(⟨135000000,σ.next⟩:Id))=False:=eq_false fun e=>by have:=h.tv;rw[e]at this;(try dsimp only at this);omega
  have vT2:((⟨135000000,σ.next⟩:Id)=T)=False:=eq_false fun e=>by have:=h.tv;rw[<-e]at this;(try dsimp only at this);omega
  exact⟨[],rfl,.inl ⟨rfl,sd @Nat.zero_add⟩,by(try dsimp only);omega,fun x hx hT=>by
   have h1:=dr hx
   have h2:=eq_false hT
   simp only[go_sem, ↓reduceIte,Nat.reduceEqDiff,Nat.reduceAdd,Nat.reduceSub,Nat.reduceLeDiff,reduceCtorEq,h1,h2],sd @Nat.zero_add,sd @vT2,sd @Nat.zero_add⟩
 ·rintro pre cs rest e0 s0 kv vv OY ⟨l',rfl,hout,H3,jz,hT,h5,e2⟩ hK hpart hvv
  have s8:cs∈ts.map aa:=OY.subset (by simp)
  obtain⟨tl,hx,rfl⟩:=List.mem_map.1 s8
  have FE:=OY.length_eq
  simp only[List.length_append,List.length_map,List.length_cons]at FE
  simp[part,aa,MK.ks]at hpart hvv
  subst hpart hvv
  rw[Ay,Az]
  have Qo:=h.tv
  have vT:=dr (i:=T) (n:=s0.next) (by omega)
  have v5:=dr (i:=⟨135000000,σ.next⟩) (n:=s0.next) (by(try dsimp only);omega)
  clear OY s8 hK
  have hm1:l'.map aa++[aa tl]=(l'++[tl]).map aa:=by simp
  have CZ:=Ha l' tl
  have uY:(l'++[tl]).map aa=l'.map aa++[[.int .i64 tl.aQ.fb,.int .i64 tl.aQ.eV,.int .i64 tl.aO]]:=by rw[List.map_append];rfl
  rcases hout with⟨Nk,e3⟩|⟨o,e3,og,on,ov⟩
  ·subst Nk
   (try((repeat(revert hN;revert N;apply Pn.out));refine wk (tw @e3 @e2) ?_;(repeat(refine Pn.mk ?_;intro N hN))))
   exact⟨[]++[tl],hm1,.inr ⟨⟨135005005,s0.next+1+1⟩,sl @Nat.zero_add,sl @Nat.zero_add,by(try dsimp only);omega,by(try dsimp only);omega⟩,by(try dsimp only);omega,fun y hy R3=>by
    have h1:=dr (i:=y) (n:=s0.next) (by omega)
    have h2:=jz y hy R3
    simp only[go_sem, ↓reduceIte,Nat.reduceEqDiff,Nat.reduceAdd,Nat.reduceSub,Nat.reduceLeDiff,reduceCtorEq,h1,h2],sd (tw @vT @hT),sd (tw @v5 @h5),sd @e2⟩
  ·have vo:=dr ov
   have oT:=bU (a:=T) (b:=o) (by omega)
   have o5:=bU (a:=⟨135000000,σ.next⟩) (b:=o) (by(try dsimp only);omega)
   have ke:(l'.map aa).length=l'.length:=by simp
   have e1:l'.length<=16777215:=by omega
   (try((repeat(revert hN;revert N;apply Pn.out));refine wk (tw @e3 (tw @e2 (tw @og (tw @vo (tw @ke @e1))))) ?_;(repeat(refine Pn.mk ?_;intro N hN))))
   exact⟨l'++[tl],hm1,.inr ⟨⟨135005005,s0.next+1+1⟩,by rw[CZ];simp only[go_sem, ↓reduceIte,Nat.reduceEqDiff,Nat.reduceAdd,Nat.reduceSub,Nat.reduceLeDiff,reduceCtorEq]<;>rfl,by rw[uY];simp only[go_sem, ↓reduceIte,Nat.reduceEqDiff,Nat.reduceAdd,Nat.reduceSub,Nat.reduceLeDiff,reduceCtorEq]<;>rfl,by(try dsimp only);omega,by(try dsimp only);omega⟩,by(try dsimp only);omega,fun y hy R3=>by
    have h1:=dr (i:=y) (n:=s0.next) (by omega)
    have h2:=jz y hy R3
    have h3:=bU (a:=y) (b:=o) (by omega)
    simp only[go_sem, ↓reduceIte,Nat.reduceEqDiff,Nat.reduceAdd,Nat.reduceSub,Nat.reduceLeDiff,reduceCtorEq,h1,h2,h3],sd (tw @vT (tw @oT @hT)),sd (tw @v5 (tw @o5 @h5)),sd @e2⟩
 ·rintro pre e0 s0 OY ⟨l',rfl,hout,H3,jz,hT,h5,e2⟩ hK
  clear hK
  have lS:l'.Perm ts:=by
   have:∀{a b:List ad},(a.map aa).Perm (b.map aa)->a.Perm b:=fun {a b} qF=>by
    have h2:=qF.map (fun cs:List AV=>match cs with|[.int _ x,.int _ y,.int _ t]=>(⟨⟨x,y⟩,t⟩:ad)|_=>default)
    simpa[List.map_map,Function.comp_def,aa]using h2
   exact this OY
  have U6:=lS.length_eq
  rcases hout with⟨Nk,e3⟩|⟨o,e3,og,on,ov⟩
  ·exfalso
   subst Nk
   exact h0 (List.eq_nil_of_length_eq_zero U6.symm)
  have gP:l'≠[]:=fun e=>h0 (List.eq_nil_of_length_eq_zero (by rw[<-U6,e];rfl))
  (try((repeat(revert hN;revert N;apply Pn.out));refine wk (tw @AA.eq_1 (tw @AD.eq_1 (tw @e3 @e2))) ?_;(repeat(refine Pn.mk ?_;intro N hN))))
  refine .inr (aJ _ _ _ _ _ (fun r σ1 hq=>?_) (zp l' L (by omega) gP hR (lS.trans hp) ⟨s0.get,_⟩ o (by(try dsimp only);omega) og))
  obtain⟨g1,x1⟩:=σ1
  obtain⟨o2,rfl,q1,q2,q3,q4⟩:=hq
  (try dsimp only at q1 q2 q3 q4)
  have k5:=(q4 ⟨135000000,σ.next⟩ (by(try dsimp only);omega)).trans h5
  have o25:=bU (a:=⟨135000000,σ.next⟩) (b:=o2) (by(try dsimp only);omega)
  refine hN _ _ ?_
  clear hN N
  (try((repeat(revert hN;revert N;apply Pn.out));refine wk (tw @AA.eq_1 (tw @AD.eq_1 (tw @e2 @k5))) ?_;(repeat(refine Pn.mk ?_;intro N hN))))
  exact eX (.inl rfl) (vs:=[.agg [.own o2 0 L.length]]) (by rw[AD];simp only[fx,iw,go_sem, ↓reduceIte,Nat.reduceEqDiff,Nat.reduceAdd,Nat.reduceSub,Nat.reduceLeDiff,reduceCtorEq,e2]) ⟨o2,rfl,sd (tw @o25 @q1),by omega,by(try dsimp only);omega,by(try dsimp only);omega,fun y hy R3=>by
   have h1:=dr (i:=y) (n:=σ.next) hy
   simp only[go_sem, ↓reduceIte,Nat.reduceEqDiff,Nat.reduceAdd,Nat.reduceSub,Nat.reduceLeDiff,reduceCtorEq,h1]
   exact(q4 y (by omega)).trans (jz y hy R3)⟩
end Go.Proofs.YtgoelphibofcmaaGreat.V

namespace Go.Proofs.YtgoelphibofcmaaGreat.V
open Go.RowKit
attribute [local irreducible] dO wpOps gy Call
attribute [local go_sem] aT fK eS ga fZ dj upd cF K.av cP AV.cells AV.cell rowOf rowsOf part ld rowAt bL cD dG ef ik bV de ew fW fe dw ek dc db dU dV cj bl cU b4 cW cV ei eo ej cR cm dd eh bW aV cZ cI ij bx cK ck bd du bj dI AV.undef bH bS dW eb dQ dP cJ ev eE cH er ep cY da List.getD_cons_zero List.getD_cons_succ List.getD_nil List.all_cons List.all_nil Bool.and_true Bool.true_and Bool.and_self Bool.not_true Bool.not_false Option.map_some Option.map_none Option.bind_some Option.bind_none List.length_cons List.length_nil List.take_succ_cons List.take_zero List.take_nil List.drop_succ_cons List.drop_zero List.drop_nil List.head?_cons List.map_cons List.map_nil List.getElem?_cons_zero List.getElem?_cons_succ List.cons_append List.nil_append List.append_nil List.length_map List.set_cons_zero List.set_cons_succ Nat.reduceMul eq_self Int.toNat_natCast Int.natCast_nonneg and_self true_and and_true decide_true decide_false Bool.false_eq_true Nat.zero_add Nat.add_zero List.contains_cons List.contains_nil Bool.or_false Bool.false_or beq_self_eq_true Nat.reduceBEq ne_eq not_true_eq_false not_false_eq_true Id.mk.injEq false_and and_false Nat.reduceLT Int.reduceLE Int.reduceLT Int.reduceToNat Int.reduceNeg Int.reduceAdd Nat.le_refl List.length_append beq_true beq_false Bool.not_eq_eq_eq_not or_false false_or dR ae aj aI bq bG cC aY bh aW bp cQ bJ
theorem jH.three {g g':Rows} {n n':Nat} {c T O:Id} {s:az} {ts:List ad} (h:jH g n c T O s ts) (hn:n<=n') (hc:g' c=g c) (hT:g' T=g T) (hO:g' O=g O):jH g' n' c T O s ts:=
 ⟨hc.trans h.row,hT.trans h.tl,by rw[hO];exact h.op,Nat.lt_of_lt_of_le h.cv hn,Nat.lt_of_lt_of_le h.tv hn,Nat.lt_of_lt_of_le h.ov hn,h.cT,h.cO,h.TO⟩
theorem y5 (q:ad):∀l:List ad,(l++[q]).Perm (iz l q)
 |[]=>List.Perm.refl _
 |x::l=>by
  have ih:=y5 q l
  rw[iz]
  split
  ·exact List.perm_append_comm (l₁:=x::l) (l₂:=[q])
  ·exact ih.cons x
structure tN (s:az) (S:sN):Prop where
 at_:∀q,gQ (s.bf.ai++S.1) q=gQ S.2 q
 perm:(s.bf.ai++S.1).Perm S.2
theorem tN.fit {s:az} {S:sN} (h:tN s S) (p:aL) (t:Int):iC s (s.bf.ai++S.1) p t=iC s S.2 p t:=by
 have e:gQ (s.bf.ai++S.1)=gQ S.2:=funext h.at_
 unfold iC
 rw[e]
theorem tN.no {s:az} {S:sN} (h:tN s S) {p:aL} (h0:eR S.2 p<0):eR (s.bf.ai++S.1) p<0:=pw.2 fun t ht=>pw.1 h0 t (h.perm.subset ht)
theorem tN.put {s:az} {S:sN} (h:tN s S) {x:ad} (h0:eR S.2 x.aQ<0):tN s (S.1++[x],iz S.2 x) where
 at_ q:=by
  show gQ (s.bf.ai++(S.1++[x])) q=gQ (iz S.2 x) q
  rw[<-List.append_assoc,zq q (pw.1 (h.no h0)),AY q (pw.1 h0),h.at_]
 perm:=by
  show(s.bf.ai++(S.1++[x])).Perm (iz S.2 x)
  rw[<-List.append_assoc]
  exact(h.perm.append_right [x]).trans (y5 x S.2)
structure TU (σ:ar) (m:Nat) (c T O:Id) (s:az) (l:List ad) (S:sN) (e7:AV) (g:Rows) (n:Nat):Prop where
 Dt:jH g n c T O s (s.bf.ai++S.1)
 u:(S.1=[]/\e7=.bE)∨∃u:Id,e7=.own u 0 S.1.length/\g u=some ⟨true,3,S.1.map aa⟩/\m<=u.bQ/\u.bQ<n/\0<S.1.length
 lo:m<=n
 fr:∀x:Id,x.bQ<m->x≠T->x≠O->x≠c->g x=σ.get x
theorem TU.frame {σ:ar} {m:Nat} {c T O:Id} {s:az} {l:List ad} {S:sN} {e7 M6:AV} {g g':Rows} {n n':Nat} (h:TU σ m c T O s l S e7 g n) (he:M6=e7) (hn:n<=n') (hf:∀x:Id,x.bQ<n->g' x=g x):TU σ m c T O s l S M6 g' n' where
 Dt:=h.Dt.frame hn hf
 u:=by
  subst he
  rcases h.u with h1|⟨u,h1,h2,h3,h4,h5⟩
  ·exact .inl h1
  ·exact .inr ⟨u,h1,(hf u h4).trans h2,h3,by omega,h5⟩
 lo:=Nat.le_trans h.lo hn
 fr x hx h1 h2 h3:=(hf x (Nat.lt_of_lt_of_le hx h.lo)).trans (h.fr x hx h1 h2 h3)
end Go.Proofs.YtgoelphibofcmaaGreat.V

namespace Go.Proofs.YtgoelphibofcmaaGreat.V
open Go.RowKit
attribute [local irreducible] dO wpOps gy Call
attribute [local go_sem] aT fK eS ga fZ dj upd cF K.av cP AV.cells AV.cell rowOf rowsOf part ld rowAt bL cD dG ef ik bV de ew fW fe dw ek dc db dU dV cj bl cU b4 cW cV ei eo ej cR cm dd eh bW aV cZ cI ij bx cK ck bd du bj dI AV.undef bH bS dW eb dQ dP cJ ev eE cH er ep cY da List.getD_cons_zero List.getD_cons_succ List.getD_nil List.all_cons List.all_nil Bool.and_true Bool.true_and Bool.and_self Bool.not_true Bool.not_false Option.map_some Option.map_none Option.bind_some Option.bind_none List.length_cons List.length_nil List.take_succ_cons List.take_zero List.take_nil List.drop_succ_cons List.drop_zero List.drop_nil List.head?_cons List.map_cons List.map_nil List.getElem?_cons_zero List.getElem?_cons_succ List.cons_append List.nil_append List.append_nil List.length_map List.set_cons_zero List.set_cons_succ Nat.reduceMul eq_self Int.toNat_natCast Int.natCast_nonneg and_self true_and and_true decide_true decide_false Bool.false_eq_true Nat.zero_add Nat.add_zero List.contains_cons List.contains_nil Bool.or_false Bool.false_or beq_self_eq_true Nat.reduceBEq ne_eq not_true_eq_false not_false_eq_true Id.mk.injEq false_and and_false Nat.reduceLT Int.reduceLE Int.reduceLT Int.reduceToNat Int.reduceNeg Int.reduceAdd Nat.le_refl List.length_append beq_true beq_false Bool.not_eq_eq_eq_not or_false false_or dR ae aj aI bq bG cC aY bh aW bp cQ bJ
end Go.Proofs.YtgoelphibofcmaaGreat.V

namespace Go.Proofs.YtgoelphibofcmaaGreat.V
open Go.RowKit
attribute [local irreducible] dO wpOps gy Call
attribute [local go_sem] aT fK eS ga fZ dj upd cF K.av cP AV.cells AV.cell rowOf rowsOf part ld rowAt bL cD dG ef ik bV de ew fW fe dw ek dc db dU dV cj bl cU b4 cW cV ei eo ej cR cm dd eh bW aV cZ cI ij bx cK ck bd du bj dI AV.undef bH bS dW eb dQ dP cJ ev eE cH er ep cY da List.getD_cons_zero List.getD_cons_succ List.getD_nil List.all_cons List.all_nil Bool.and_true Bool.true_and Bool.and_self Bool.not_true Bool.not_false Option.map_some Option.map_none Option.bind_some Option.bind_none List.length_cons List.length_nil List.take_succ_cons List.take_zero List.take_nil List.drop_succ_cons List.drop_zero List.drop_nil List.head?_cons List.map_cons List.map_nil List.getElem?_cons_zero List.getElem?_cons_succ List.cons_append List.nil_append List.append_nil List.length_map List.set_cons_zero List.set_cons_succ Nat.reduceMul eq_self Int.toNat_natCast Int.natCast_nonneg and_self true_and and_true decide_true decide_false Bool.false_eq_true Nat.zero_add Nat.add_zero List.contains_cons List.contains_nil Bool.or_false Bool.false_or beq_self_eq_true Nat.reduceBEq ne_eq not_true_eq_false not_false_eq_true Id.mk.injEq false_and and_false Nat.reduceLT Int.reduceLE Int.reduceLT Int.reduceToNat Int.reduceNeg Int.reduceAdd Nat.le_refl List.length_append beq_true beq_false Bool.not_eq_eq_eq_not or_false false_or dR ae aj aI bq bG cC aY bh aW bp cQ bJ
end Go.Proofs.YtgoelphibofcmaaGreat.V

namespace Go.Proofs.YtgoelphibofcmaaGreat.V
open Go.RowKit
attribute [local irreducible] dO wpOps gy Call
attribute [local go_sem] aT fK eS ga fZ dj upd cF K.av cP AV.cells AV.cell rowOf rowsOf part ld rowAt bL cD dG ef ik bV de ew fW fe dw ek dc db dU dV cj bl cU b4 cW cV ei eo ej cR cm dd eh bW aV cZ cI ij bx cK ck bd du bj dI AV.undef bH bS dW eb dQ dP cJ ev eE cH er ep cY da List.getD_cons_zero List.getD_cons_succ List.getD_nil List.all_cons List.all_nil Bool.and_true Bool.true_and Bool.and_self Bool.not_true Bool.not_false Option.map_some Option.map_none Option.bind_some Option.bind_none List.length_cons List.length_nil List.take_succ_cons List.take_zero List.take_nil List.drop_succ_cons List.drop_zero List.drop_nil List.head?_cons List.map_cons List.map_nil List.getElem?_cons_zero List.getElem?_cons_succ List.cons_append List.nil_append List.append_nil List.length_map List.set_cons_zero List.set_cons_succ Nat.reduceMul eq_self Int.toNat_natCast Int.natCast_nonneg and_self true_and and_true decide_true decide_false Bool.false_eq_true Nat.zero_add Nat.add_zero List.contains_cons List.contains_nil Bool.or_false Bool.false_or beq_self_eq_true Nat.reduceBEq ne_eq not_true_eq_false not_false_eq_true Id.mk.injEq false_and and_false Nat.reduceLT Int.reduceLE Int.reduceLT Int.reduceToNat Int.reduceNeg Int.reduceAdd Nat.le_refl List.length_append beq_true beq_false Bool.not_eq_eq_eq_not or_false false_or dR ae aj aI bq bG cC aY bh aW bp cQ bJ
end Go.Proofs.YtgoelphibofcmaaGreat.V

namespace Go.Proofs.YtgoelphibofcmaaGreat.V
open Go.RowKit
attribute [local irreducible] dO wpOps gy Call
attribute [local go_sem] aT fK eS ga fZ dj upd cF K.av cP AV.cells AV.cell rowOf rowsOf part ld rowAt bL cD dG ef ik bV de ew fW fe dw ek dc db dU dV cj bl cU b4 cW cV ei eo ej cR cm dd eh bW aV cZ cI ij bx cK ck bd du bj dI AV.undef bH bS dW eb dQ dP cJ ev eE cH er ep cY da List.getD_cons_zero List.getD_cons_succ List.getD_nil List.all_cons List.all_nil Bool.and_true Bool.true_and Bool.and_self Bool.not_true Bool.not_false Option.map_some Option.map_none Option.bind_some Option.bind_none List.length_cons List.length_nil List.take_succ_cons List.take_zero List.take_nil List.drop_succ_cons List.drop_zero List.drop_nil List.head?_cons List.map_cons List.map_nil List.getElem?_cons_zero List.getElem?_cons_succ List.cons_append List.nil_append List.append_nil List.length_map List.set_cons_zero List.set_cons_succ Nat.reduceMul eq_self Int.toNat_natCast Int.natCast_nonneg and_self true_and and_true decide_true decide_false Bool.false_eq_true Nat.zero_add Nat.add_zero List.contains_cons List.contains_nil Bool.or_false Bool.false_or beq_self_eq_true Nat.reduceBEq ne_eq not_true_eq_false not_false_eq_true Id.mk.injEq false_and and_false Nat.reduceLT Int.reduceLE Int.reduceLT Int.reduceToNat Int.reduceNeg Int.reduceAdd Nat.le_refl List.length_append beq_true beq_false Bool.not_eq_eq_eq_not or_false false_or dR ae aj aI bq bG cC aY bh aW bp cQ bJ
structure Qe (g:Rows) (n:Nat) (A S C c T O:Id) (s:az) (l:List ad):Prop where
 a:∃b,g A=some ⟨b,1,[[.sl (l.map aa)]]⟩
 sy:∃b,g S=some ⟨b,4,[au s]⟩
 p:∃b,g C=some ⟨b,1,[[.ptr c 0 0]]⟩
 Dt:AS g n c T O s l
 av:A.bQ<n
 sv:S.bQ<n
 pv:C.bQ<n
theorem Qe.ro {g:Rows} {n:Nat} {A S C c T O:Id} {s:az} {l:List ad} (h:Qe g n A S C c T O s l):Qe (V.ro g) n A S C c T O s l:=by
 obtain⟨b,h1⟩:=h.a
 obtain⟨b2,h2⟩:=h.sy
 obtain⟨b3,h3⟩:=h.p
 exact⟨⟨false,by simp[V.ro,h1]⟩,⟨false,by simp[V.ro,h2]⟩,⟨false,by simp[V.ro,h3]⟩,h.Dt.ro,h.av,h.sv,h.pv⟩
theorem Qe.frame {g g':Rows} {n n':Nat} {A S C c T O:Id} {s:az} {l:List ad} (h:Qe g n A S C c T O s l) (hn:n<=n') (hf:∀x:Id,x.bQ<n->g' x=g x):Qe g' n' A S C c T O s l:=
 ⟨by rw[hf _ h.av];exact h.a,by rw[hf _ h.sv];exact h.sy,by rw[hf _ h.pv];exact h.p,h.Dt.frame hn (hf _ h.Dt.cv) (hf _ h.Dt.tv),Nat.lt_of_lt_of_le h.av hn,Nat.lt_of_lt_of_le h.sv hn,Nat.lt_of_lt_of_le h.pv hn⟩
end Go.Proofs.YtgoelphibofcmaaGreat.V

namespace Go.Proofs.YtgoelphibofcmaaGreat.V
open Go.RowKit
attribute [local irreducible] dO wpOps gy Call
attribute [local go_sem] aT fK eS ga fZ dj upd cF K.av cP AV.cells AV.cell rowOf rowsOf part ld rowAt bL cD dG ef ik bV de ew fW fe dw ek dc db dU dV cj bl cU b4 cW cV ei eo ej cR cm dd eh bW aV cZ cI ij bx cK ck bd du bj dI AV.undef bH bS dW eb dQ dP cJ ev eE cH er ep cY da List.getD_cons_zero List.getD_cons_succ List.getD_nil List.all_cons List.all_nil Bool.and_true Bool.true_and Bool.and_self Bool.not_true Bool.not_false Option.map_some Option.map_none Option.bind_some Option.bind_none List.length_cons List.length_nil List.take_succ_cons List.take_zero List.take_nil List.drop_succ_cons List.drop_zero List.drop_nil List.head?_cons List.map_cons List.map_nil List.getElem?_cons_zero List.getElem?_cons_succ List.cons_append List.nil_append List.append_nil List.length_map List.set_cons_zero List.set_cons_succ Nat.reduceMul eq_self Int.toNat_natCast Int.natCast_nonneg and_self true_and and_true decide_true decide_false Bool.false_eq_true Nat.zero_add Nat.add_zero List.contains_cons List.contains_nil Bool.or_false Bool.false_or beq_self_eq_true Nat.reduceBEq ne_eq not_true_eq_false not_false_eq_true Id.mk.injEq false_and and_false Nat.reduceLT Int.reduceLE Int.reduceLT Int.reduceToNat Int.reduceNeg Int.reduceAdd Nat.le_refl List.length_append beq_true beq_false Bool.not_eq_eq_eq_not or_false false_or dR ae aj aI bq bG cC aY bh aW bp cQ bJ
def iS (p:aL->Bool) (l:List aL):List aL:=l.filter fun x=> !p x
theorem qN {p:aL->Bool} {l:List aL} {j:Nat} (hj:j<l.length):iS p (l.take (j+1))=iS p (l.take j)++if p l[j]=true then[]else[l[j]]:=by
 unfold iS
 rw[List.take_succ_eq_append_getElem hj,List.filter_append]
 congr 1
 cases h:p l[j]<;>simp[h]
theorem Ek {p:aL->Bool} {l:List aL} (h:∀b∈l,p b=false):iS p l=l:=by
 unfold iS
 rw[List.filter_eq_self]
 intro b hb
 rw[h b hb];rfl
structure KZ (p:aL->Bool) (bs:List aL) (j:Nat) (R:List aL):Prop where
 len:R.length=bs.length
 pre:R.take (iS p (bs.take j)).length=iS p (bs.take j)
 post:∀x,j<=x->R[x]? =bs[x]?
 lt:(iS p (bs.take j)).length<j
theorem KZ.start {p:aL->Bool} {bs:List aL} {i:Nat} (hi:i<bs.length) (hw:p bs[i]=true) (hp:∀x (h:x<i),p bs[x]=false):KZ p bs (i+1) bs/\(iS p (bs.take (i+1))).length=i:=by
 have h1:iS p (bs.take i)=bs.take i:=Ek fun b hb=>by
  obtain⟨x,hx,rfl⟩:=List.getElem_of_mem hb
  rw[List.length_take]at hx
  rw[List.getElem_take]
  exact hp x (by omega)
 have h2:iS p (bs.take (i+1))=bs.take i:=by rw[qN hi,if_pos hw,List.append_nil,h1]
 have h3:(bs.take i).length=i:=by rw[List.length_take];omega
 exact⟨⟨rfl,by rw[h2,h3],fun _ _=>rfl,by rw[h2,h3];omega⟩,by rw[h2,h3]⟩
theorem KZ.Sx {p:aL->Bool} {bs R:List aL} {j:Nat} (h:KZ p bs j R) (hj:j<bs.length) (hw:p bs[j]=true):KZ p bs (j+1) R/\(iS p (bs.take (j+1))).length=(iS p (bs.take j)).length:=by
 have h2:iS p (bs.take (j+1))=iS p (bs.take j):=by rw[qN hj,if_pos hw,List.append_nil]
 exact⟨⟨h.len,by rw[h2];exact h.pre,fun x hx=>h.post x (by omega),by rw[h2];have:=h.lt;omega⟩,by rw[h2]⟩
theorem KZ.qM {p:aL->Bool} {bs R:List aL} {j:Nat} (h:KZ p bs j R) (hj:j<bs.length) (hw:p bs[j]=false):KZ p bs (j+1) (R.set (iS p (bs.take j)).length bs[j])/\(iS p (bs.take (j+1))).length=(iS p (bs.take j)).length+1:=by
 have h2:iS p (bs.take (j+1))=iS p (bs.take j)++[bs[j]]:=by rw[qN hj,hw];rfl
 have dZ:=h.lt
 have hlen:=h.len
 have uD:=h.pre
 generalize hc:(iS p (bs.take j)).length=c at *
 refine⟨⟨by rw[List.length_set];exact hlen,?_,fun x hx=>?_,by rw[h2,List.length_append,hc];simp;omega⟩,by rw[h2,List.length_append,hc];rfl⟩
 ·rw[h2,List.length_append,hc,List.length_singleton,List.take_succ_eq_append_getElem (by rw[List.length_set];omega),List.getElem_set_self,List.take_set_of_le (Nat.le_refl _),uD]
 ·rw[List.getElem?_set_ne (by omega)];exact h.post x (by omega)
theorem KZ.at_ {p:aL->Bool} {bs R:List aL} {j:Nat} (h:KZ p bs j R) (hj:j<bs.length):(R.map ah)[j]? =some (ah bs[j]):=by
 rw[List.getElem?_map,h.post j (Nat.le_refl j),List.getElem?_eq_getElem hj];rfl
end Go.Proofs.YtgoelphibofcmaaGreat.V

namespace Go.Proofs.YtgoelphibofcmaaGreat.V
open Go.RowKit
attribute [local irreducible] dO wpOps gy Call
attribute [local go_sem] aT fK eS ga fZ dj upd cF K.av cP AV.cells AV.cell rowOf rowsOf part ld rowAt bL cD dG ef ik bV de ew fW fe dw ek dc db dU dV cj bl cU b4 cW cV ei eo ej cR cm dd eh bW aV cZ cI ij bx cK ck bd du bj dI AV.undef bH bS dW eb dQ dP cJ ev eE cH er ep cY da List.getD_cons_zero List.getD_cons_succ List.getD_nil List.all_cons List.all_nil Bool.and_true Bool.true_and Bool.and_self Bool.not_true Bool.not_false Option.map_some Option.map_none Option.bind_some Option.bind_none List.length_cons List.length_nil List.take_succ_cons List.take_zero List.take_nil List.drop_succ_cons List.drop_zero List.drop_nil List.head?_cons List.map_cons List.map_nil List.getElem?_cons_zero List.getElem?_cons_succ List.cons_append List.nil_append List.append_nil List.length_map List.set_cons_zero List.set_cons_succ Nat.reduceMul eq_self Int.toNat_natCast Int.natCast_nonneg and_self true_and and_true decide_true decide_false Bool.false_eq_true Nat.zero_add Nat.add_zero List.contains_cons List.contains_nil Bool.or_false Bool.false_or beq_self_eq_true Nat.reduceBEq ne_eq not_true_eq_false not_false_eq_true Id.mk.injEq false_and and_false Nat.reduceLT Int.reduceLE Int.reduceLT Int.reduceToNat Int.reduceNeg Int.reduceAdd Nat.le_refl List.length_append beq_true beq_false Bool.not_eq_eq_eq_not or_false false_or dR ae aj aI bq bG cC aY bh aW bp cQ bJ
structure nA (n:Nat) (px:Nat->Option Nat) (L:Nat->Nat):Prop where
 top:∀k,k<n->px k=none->L k=k
 up:∀k j,k<n->px k=some j->j<k/\L j=L k
theorem nA.root {n:Nat} {px:Nat->Option Nat} {L:Nat->Nat} (h:nA n px L) (hL:jL L) {k:Nat} (hk:k<n) (hr:L k=k):px k=none:=by
 rcases hp:px k with _|j
 ·rfl
 ·obtain⟨h1,h2⟩:=h.up k j hk hp
  have:=hL.le j
  omega
theorem nA.start (n:Nat):nA n (fun _=>none) id:=⟨fun _ _ _=>rfl,fun _ _ _ h=>by cases h⟩
theorem nA.join {n:Nat} {px:Nat->Option Nat} {L:Nat->Nat} (h:nA n px L) (hL:jL L) (b:PB) (dZ:min (L b.a) (L b.b)<max (L b.a) (L b.b)):nA n (fun k=>if k=max (L b.a) (L b.b)then some (min (L b.a) (L b.b))else px k) (eW L b):=by
 have ha:=hL.idem b.a
 have hb:=hL.idem b.b
 have zO:L (min (L b.a) (L b.b))=min (L b.a) (L b.b):=by
  rcases Nat.le_total (L b.a) (L b.b)with h|h
  ·rw[Nat.min_eq_left h,ha]
  ·rw[Nat.min_eq_right h,hb]
 have RD:L (max (L b.a) (L b.b))=max (L b.a) (L b.b):=by
  rcases Nat.le_total (L b.a) (L b.b)with h|h
  ·rw[Nat.max_eq_right h,hb]
  ·rw[Nat.max_eq_left h,ha]
 unfold eW
 generalize min (L b.a) (L b.b)=lo at *
 generalize max (L b.a) (L b.b)=hi at *
 refine⟨fun k hk hp=>?_,fun k j hk hp=>?_⟩
 ·by_cases K8:k=hi
  ·rw[if_pos K8]at hp;cases hp
  ·rw[if_neg K8]at hp
   have:=h.top k hk hp
   rw[if_neg (by omega)];exact this
 ·by_cases K8:k=hi
  ·rw[if_pos K8]at hp
   cases hp
   subst K8
   exact⟨dZ,by rw[if_neg (by omega),if_pos RD,zO]⟩
  ·rw[if_neg K8]at hp
   obtain⟨h1,h2⟩:=h.up k j hk hp
   exact⟨h1,by rw[h2]⟩
theorem zT {L:Nat->Nat} {b:PB} (h:L b.a=L b.b):eW L b=L:=by
 funext k
 unfold eW
 rw[h,Nat.max_self,Nat.min_self]
 split
 ·rename_i h;exact h.symm
 ·rfl
def sZ (G:Nat->Id) (px:Nat->Option Nat) (k:Nat):List AV:=[match px k with|none=>.gN|some j=>.ptr (G j) 0 0,.int .i64 (k:Int)]
def uo (g:Rows) (G:Nat->Id) (n:Nat) (px:Nat->Option Nat):Prop:=∀k,k<n->g (G k)=some ⟨true,2,[sZ G px k]⟩
theorem uo.frame {g g':Rows} {G:Nat->Id} {n:Nat} {px:Nat->Option Nat} (h:uo g G n px) (hf:∀k,k<n->g' (G k)=g (G k)):uo g' G n px:=fun k hk=>(hf k hk).trans (h k hk)
theorem lH {G:Nat->Id} {px:Nat->Option Nat} {k:Nat} (h:px k=none):sZ G px k=[.gN,.int .i64 (k:Int)]:=by rw[sZ,h]
theorem tX {G:Nat->Id} {px:Nat->Option Nat} {k j:Nat} (h:px k=some j):sZ G px k=[.ptr (G j) 0 0,.int .i64 (k:Int)]:=by rw[sZ,h]
theorem zE (G:Nat->Id) (n:Nat) (px:Nat->Option Nat) (L:Nat->Nat) (h:nA n px L) (k:Nat) (hk:k<n) (σ:ar) (hG:uo σ.get G n px):
  Call Tryz.prog 262 [.ptr (G k) 0 0] σ fun r σ'=>r=.ptr (G (L k)) 0 0/\σ'.get=σ.get/\σ.next<=σ'.next:=by
 refine eQ eK rfl fun hl=>?_
 clear hl
 (try((repeat(revert hN;revert N;apply Pn.out));refine wk @Nat.zero_add ?_;(repeat(refine Pn.mk ?_;intro N hN))))
 refine aZ (fun m env st=>∃j:Nat,m=j/\j<n/\env 0=.ptr (G j) 0 0/\L j=L k/\st.get=σ.get/\σ.next<=st.next) k ⟨k,rfl,hk,sd @Nat.zero_add,rfl,by(try dsimp only),by(try dsimp only);omega⟩ ?_
 rintro m env_b st_b ⟨j,rfl,hj,b0,hLj,hg,hle⟩ fU
 clear fU
 have fY:=hG m hj
 rcases hp:px m with _|j
 ·rw[lH hp]at fY
  (try((repeat(revert hN;revert N;apply Pn.out));refine wk (tw @b0 (tw @hg @fY)) ?_;(repeat(refine Pn.mk ?_;intro N hN))))
  exact eX (.inl rfl) (vs:=[.ptr (G m) 0 0]) (sd @Nat.zero_add) ⟨by rw[<-hLj,h.top m hj hp];rfl,by first|trivial|rfl|exact hg,by(try dsimp only);omega⟩
 ·rw[tX hp]at fY
  obtain⟨h1,h2⟩:=h.up m j hj hp
  (try((repeat(revert hN;revert N;apply Pn.out));refine wk (tw @b0 (tw @hg @fY)) ?_;(repeat(refine Pn.mk ?_;intro N hN))))
  exact⟨j,h1,j,rfl,by omega,sd @Nat.zero_add,by omega,by first|trivial|rfl|exact hg,by(try dsimp only);omega⟩
end Go.Proofs.YtgoelphibofcmaaGreat.V

namespace Go.Proofs.YtgoelphibofcmaaGreat.V
open Go.RowKit
attribute [local irreducible] dO wpOps gy Call
attribute [local go_sem] aT fK eS ga fZ dj upd cF K.av cP AV.cells AV.cell rowOf rowsOf part ld rowAt bL cD dG ef ik bV de ew fW fe dw ek dc db dU dV cj bl cU b4 cW cV ei eo ej cR cm dd eh bW aV cZ cI ij bx cK ck bd du bj dI AV.undef bH bS dW eb dQ dP cJ ev eE cH er ep cY da List.getD_cons_zero List.getD_cons_succ List.getD_nil List.all_cons List.all_nil Bool.and_true Bool.true_and Bool.and_self Bool.not_true Bool.not_false Option.map_some Option.map_none Option.bind_some Option.bind_none List.length_cons List.length_nil List.take_succ_cons List.take_zero List.take_nil List.drop_succ_cons List.drop_zero List.drop_nil List.head?_cons List.map_cons List.map_nil List.getElem?_cons_zero List.getElem?_cons_succ List.cons_append List.nil_append List.append_nil List.length_map List.set_cons_zero List.set_cons_succ eq_self Int.toNat_natCast Int.natCast_nonneg and_self true_and and_true decide_true decide_false Bool.false_eq_true Nat.zero_add Nat.add_zero List.contains_cons List.contains_nil Bool.or_false Bool.false_or beq_self_eq_true ne_eq not_true_eq_false not_false_eq_true Id.mk.injEq false_and and_false Nat.le_refl List.length_append beq_true beq_false Bool.not_eq_eq_eq_not or_false false_or dR ae aj aI bq bG cC aY bh aW bp cQ bJ
abbrev mI:MK:=⟨false,[.tI]⟩
def td (l:List (Nat×Nat)):List (List AV):=l.map fun p=>[.int .i64 (p.1:Int),.int .i64 (p.2:Int)]
theorem BU (r:Nat):∀(l:List (Nat×Nat)) (i:Nat),((∀p∈l,p.1≠r)->gu mI [.int .i64 (r:Int)] (td l) i=some none)/\(∀j v,l[j]? =some (r,v)->(∀x y,x<j->l[x]? =some y->y.1≠r)->gu mI [.int .i64 (r:Int)] (td l) i=some (some (i+j)))
 |[],i=>⟨fun _=>rfl,fun j v h=>by simp at h⟩
 |p::l,i=>by
  obtain⟨h1,h2⟩:=BU r l (i+1)
  by_cases h:p.1=r
  ·refine⟨fun hp=>absurd h (hp p (by simp)),fun j v hj hf=>?_⟩
   have hj0:j=0:=by
    rcases Nat.eq_zero_or_pos j with h0|h0
    ·exact h0
    ·exact absurd h (hf 0 p h0 (by simp))
   subst hj0
   simp[td,gu,fe,fW,MK.ks,h]
  ·have hd:¬((r:Int)=(p.1:Int)):=by omega
   have me:¬r=p.1:=fun he=>h he.symm
   have step:gu mI [.int .i64 (r:Int)] (td (p::l)) i=gu mI [.int .i64 (r:Int)] (td l) (i+1):=by
    unfold td
    simp[gu,MK.ks,fe,fW,hd,me,h]
   rw[step]
   refine⟨fun hp=>h1 fun q hq=>hp q (by simp[hq]),fun j v hj hf=>?_⟩
   cases j with
   |zero=>simp at hj;rw[hj]at h;exact absurd rfl h
   |succ j=>
    rw[h2 j v (by simpa using hj) fun x y hx hy=>hf (x+1) y (by omega) (by simpa using hy)]
    congr 2;omega
theorem yK {r:Nat} {l:List (Nat×Nat)}:((∀p∈l,p.1≠r)->fS mI (.int .i64 (r:Int)) (td l)=some none)/\(∀j v,l[j]? =some (r,v)->(∀x y,x<j->l[x]? =some y->y.1≠r)->fS mI (.int .i64 (r:Int)) (td l)=some (some j)):=by
 have e:fS mI (.int .i64 (r:Int)) (td l)=gu mI [.int .i64 (r:Int)] (td l) 0:=by
  unfold fS
  rw[if_pos ⟨rfl,rfl,rfl⟩];rfl
 obtain⟨h1,h2⟩:=BU r l 0
 rw[e]
 exact⟨h1,fun j v hj hf=>by rw[h2 j v hj hf,Nat.zero_add]⟩
def kZ (k:Nat) (L:Nat->Nat):List (List AV):=td (leads k L).zipIdx
theorem Eo {k:Nat} {L:Nat->Nat} (h:L k=k):kZ (k+1) L=kZ k L++[[.int .i64 (k:Int),.int .i64 ((leads k L).length:Int)]]:=by
 unfold kZ
 rw[gZ,if_pos h,List.zipIdx_append]
 simp[td]
theorem En {k:Nat} {L:Nat->Nat} (h:L k≠k):kZ (k+1) L=kZ k L:=by
 unfold kZ
 rw[gZ,if_neg h,List.append_nil]
theorem G8 {k:Nat} {L:Nat->Nat} (h:L k=k):fS mI (.int .i64 (k:Int)) (kZ k L)=some none:=by
 refine yK.1 fun p hp=>?_
 have:=List.fst_mem_of_mem_zipIdx hp
 have:=(yP.1 this).1
 omega
theorem yO {n:Nat} {L:Nat->Nat} {x y:Nat} (hx:x<(leads n L).length) (hy:y<(leads n L).length) (h:(leads n L)[x]=(leads n L)[y]):x=y:=by
 have hp:=List.pairwise_iff_getElem.1 (ud n L)
 rcases Nat.lt_trichotomy x y with dZ|he|dZ
 ·exact absurd h (hp x y hx hy dZ)
 ·exact he
 ·exact absurd h.symm (hp y x hy hx dZ)
theorem yN {k:Nat} {L:Nat->Nat} (hL:jL L) (h:L k≠k):fS mI (.int .i64 (L k:Int)) (kZ k L)=some (some (cq L k))/\(kZ k L)[cq L k]? =some [.int .i64 (L k:Int),.int .i64 (cq L k:Int)]/\cq L k<(leads k L).length:=by
 have dZ:L k<k:=Nat.lt_of_le_of_ne (hL.le k) h
 have hn:cq L (L k)=cq L k:=by rw[cq,hL.idem,cq]
 have hg:=pz hL dZ
 rw[hn,hL.idem]at hg
 have hl:cq L k<(leads k L).length:=(List.getElem?_eq_some_iff.1 hg).1
 have hz:(leads k L).zipIdx[cq L k]? =some (L k,cq L k):=by simp[List.getElem?_zipIdx,hg]
 refine⟨yK.2 _ _ hz fun x y hx hy=>?_,by unfold kZ td;rw[List.getElem?_map,hz];rfl,hl⟩
 intro he
 rw[List.getElem?_zipIdx]at hy
 have QG:x<(leads k L).length:=by omega
 rw[List.getElem?_eq_getElem QG]at hy
 simp at hy
 rw[<-hy]at he
 simp at he
 have e2:(leads k L)[cq L k]=L k:=(List.getElem?_eq_some_iff.1 hg).2
 have:=yO QG hl (he.trans e2.symm)
 omega
def jR (k:Nat) (L:Nat->Nat):List (List Nat):=(leads k L).map (members k L)
theorem qD (k:Nat) (L:Nat->Nat):(jR k L).length=(leads k L).length:=by simp[jR]
theorem DK {k:Nat} {L:Nat->Nat} (hL:jL L) (h:L k=k):jR (k+1) L=jR k L++[[k]]:=by
 unfold jR
 rw[gZ,if_pos h,List.map_append,List.map_cons,List.map_nil,jB,if_pos h,nk hL (Nat.le_refl k),List.nil_append]
 congr 1
 refine List.map_congr_left fun r hr=>?_
 have:=(yP.1 hr).1
 rw[jB,if_neg (by omega),List.append_nil]
theorem DL {k:Nat} {L:Nat->Nat} (hL:jL L) (h:L k≠k):(jR k L)[cq L k]? =some (members k L (L k))/\jR (k+1) L=(jR k L).set (cq L k) (members k L (L k)++[k]):=by
 obtain⟨_,_,hl⟩:=yN hL h
 have dZ:L k<k:=Nat.lt_of_le_of_ne (hL.le k) h
 have hg:=pz hL dZ
 have hn:cq L (L k)=cq L k:=by rw[cq,hL.idem,cq]
 rw[hn,hL.idem]at hg
 refine⟨by unfold jR;rw[List.getElem?_map,hg];rfl,?_⟩
 unfold jR
 rw[gZ,if_neg h,List.append_nil]
 refine List.ext_getElem? fun i=>?_
 rw[List.getElem?_set,List.getElem?_map,List.length_map]
 by_cases hi:cq L k=i
 ·subst hi
  rw[if_pos rfl,if_pos hl,hg,Option.map_some,jB,if_pos rfl]
 ·rw[if_neg hi,List.getElem?_map]
  rcases hr:(leads k L)[i]? with _|r
  ·rfl
  ·rw[Option.map_some,Option.map_some,jB,if_neg,List.append_nil]
   rintro rfl
   obtain⟨kN,he⟩:=List.getElem?_eq_some_iff.1 hr
   have e2:(leads k L)[cq L k]=L k:=(List.getElem?_eq_some_iff.1 hg).2
   exact hi (yO hl kN (e2.trans he.symm))
theorem Cg (k:Nat) (L:Nat->Nat) (r:Nat):(members k L r).length<=k:=by
 have:=List.length_filter_le (fun x=>L x==r) (List.range k)
 simpa[members]using this
def Gf (g:Rows) (o:Id) (L:List (List Nat)) (nx:Nat):Prop:=∃rows ids,g o=some ⟨true,1,rows⟩/\eM Qc g rows L ids/\ids.Nodup/\(∀i∈ids,i.site=240026008/\i.bQ<nx)/\o.site=240025002/\o.bQ<nx
theorem Gf.frame {g g':Rows} {o:Id} {L:List (List Nat)} {nx u9:Nat} (h:Gf g o L nx) (hn:nx<=u9) (hf:∀i:Id,(i.site=240026008∨i.site=240025002)->i.bQ<nx->g' i=g i):Gf g' o L u9:=by
 obtain⟨rows,ids,h1,h2,h3,h4,h5,h6⟩:=h
 exact⟨rows,ids,(hf o (.inr h5) h6).trans h1,h2.frame Mh fun i hi=>hf i (.inl (h4 i hi).1) (h4 i hi).2,h3,fun i hi=>⟨(h4 i hi).1,by have:=(h4 i hi).2;omega⟩,h5,by omega⟩
theorem LG {g':Rows} {v v' u9 j:Nat} (h1:g' ⟨240025002,v⟩=some ⟨true,1,[[.own ⟨240026008,v'⟩ 0 1]]⟩) (h2:g' ⟨240026008,v'⟩=some ⟨true,1,[eN j]⟩) (hv:v<u9) (nV:v'<u9):Gf g' ⟨240025002,v⟩ [[j]] u9:=
 ⟨_,[⟨240026008,v'⟩],h1,.one ⟨_,rfl,h2,rfl⟩,by simp,fun i hi=>by rw[List.mem_singleton.1 hi];exact⟨rfl,nV⟩,rfl,hv⟩
theorem Gf.new {g:Rows} {o:Id} {L:List (List Nat)} {nx:Nat} (h:Gf g o L nx) (j:Nat):∃rows,g o=some ⟨true,1,rows⟩/\rows.length=L.length/\∀(g':Rows) (v v' u9:Nat),nx<=v'->v<u9->v'<u9->g' ⟨240025002,v⟩=some ⟨true,1,rows++[[.own ⟨240026008,v'⟩ 0 1]]⟩->g' ⟨240026008,v'⟩=some ⟨true,1,[eN j]⟩->(∀i:Id,i.site=240026008->i.bQ<nx->g' i=g i)->Gf g' ⟨240025002,v⟩ (L++[[j]]) u9:=by
 obtain⟨rows,ids,h1,h2,h3,h4,h5,h6⟩:=h
 refine⟨rows,h1,h2.len,fun g' v v' u9 hv yH O9 q1 q2 q3=>⟨_,ids++[⟨240026008,v'⟩],q1,(h2.frame Mh fun i hi=>q3 i (h4 i hi).1 (h4 i hi).2).app (.one ⟨_,rfl,q2,rfl⟩),?_,fun i hi=>?_,rfl,yH⟩⟩
 ·refine List.nodup_append.2 ⟨h3,by simp,fun a ha b hb qF=>?_⟩
  rw[List.mem_singleton.1 hb]at qF
  have:=(h4 a ha).2
  rw[qF]at this
  simp only at this
  omega
 ·rcases List.mem_append.1 hi with hi|hi
  ·have:=h4 i hi;exact⟨this.1,by omega⟩
  ·rw[List.mem_singleton.1 hi];exact⟨rfl,O9⟩
theorem Gf.add {g:Rows} {o:Id} {L:List (List Nat)} {nx k:Nat} {La:List Nat} (h:Gf g o L nx) (hk:L[k]? =some La) (j:Nat):∃rows id,g o=some ⟨true,1,rows⟩/\rows.length=L.length/\rows[k]? =some [.own id 0 La.length]/\g id=some ⟨true,1,La.map eN⟩/\id.site=240026008/\id.bQ<nx/\∀(g':Rows) (v' u9:Nat),nx<=v'->v'<u9->g' o=some ⟨true,1,rows.set k [.own ⟨240026008,v'⟩ 0 (La.length+1)]⟩->g' ⟨240026008,v'⟩=some ⟨true,1,La.map eN++[[.int .i64 (j:Int)]]⟩->(∀i:Id,i.site=240026008->i.bQ<nx->(i=id)=False->g' i=g i)->Gf g' o (L.set k (La++[j])) u9:=by
 obtain⟨rows,ids,h1,h2,h3,h4,h5,h6⟩:=h
 have l6:k<L.length:=(List.getElem?_eq_some_iff.1 hk).1
 have Ux:=kU hk l6
 obtain⟨cs,ic,dy,Qn,Rw,wL⟩:=h2.Sm Mh h3 k l6
 rw[Ux]at Qn
 obtain⟨id,rfl,q1,rfl⟩:=Qn
 have hid:=h4 id (Rw id (by simp))
 refine⟨rows,id,h1,h2.len,dy,q1,hid.1,hid.2,fun g' v' u9 hv yH r1 r2 r3=>?_⟩
 obtain⟨Ef,s1,s2,s3⟩:=wL g' [.own ⟨240026008,v'⟩ 0 (La.length+1)] (La++[j]) [⟨240026008,v'⟩] ⟨_,by simp,by rw[r2];simp[eN],rfl⟩ (fun i hi To=>r3 i (h4 i hi).1 (h4 i hi).2 (by
  simp only[eq_iff_iff,iff_false];rintro rfl;exact To (by simp))) (by simp) fun i hi hc=>by
   rw[List.mem_singleton.1 hi]at hc
   have:=(h4 _ hc).2
   simp only at this
   omega
 refine⟨_,Ef,r1,s1,s2,fun i hi=>?_,h5,by omega⟩
 rcases s3 i hi with h|h
 ·rw[List.mem_singleton.1 h];exact⟨rfl,yH⟩
 ·have:=h4 i h;exact⟨this.1,by omega⟩
def lZ (G:Nat->Id) (n k:Nat):List (List AV):=(List.range n).map fun i=>[if i<k then .ptr (G i) 0 0 else .gN]
theorem mH (G:Nat->Id) (n k:Nat):(lZ G n k).length=n:=by simp[lZ]
theorem HI (G:Nat->Id) (n:Nat):List.replicate n [AV.gN]=lZ G n 0:=by
 refine List.ext_getElem? fun i=>?_
 by_cases h:i<n
 ·rw[List.getElem?_replicate,if_pos h];simp[lZ,h]
 ·rw[List.getElem?_eq_none (by simp;omega),List.getElem?_eq_none (by rw[mH];omega)]
theorem xn {G:Nat->Id} {n i:Nat} (h:i<n):(lZ G n n)[i]? =some [.ptr (G i) 0 0]:=by simp[lZ,h]
theorem KA {G:Nat->Id} {n k:Nat} (h:k<n):(lZ G n k).set k [.ptr (G k) 0 0]=lZ G n (k+1):=by
 refine List.ext_getElem? fun i=>?_
 rw[List.getElem?_set,mH]
 by_cases hi:k=i
 ·subst hi;rw[if_pos rfl,if_pos h];simp[lZ,h]
 ·rw[if_neg hi]
  by_cases fh:i<n
  ·simp only[lZ,List.getElem?_map,List.getElem?_range fh,Option.map_some]
   by_cases yC:i<k
   ·rw[if_pos yC,if_pos (by omega)]
   ·rw[if_neg yC,if_neg (by omega)]
  ·rw[List.getElem?_eq_none (by rw[mH];omega),List.getElem?_eq_none (by rw[mH];omega)]
end Go.Proofs.YtgoelphibofcmaaGreat.V

namespace Go.Proofs.YtgoelphibofcmaaGreat.V
open Go.RowKit
attribute [local irreducible] dO wpOps gy Call
attribute [local go_sem] aT fK eS ga fZ dj upd cF K.av cP AV.cells AV.cell rowOf rowsOf part ld rowAt bL cD dG ef ik bV de ew fW fe dw ek dc db dU dV cj bl cU b4 cW cV ei eo ej cR cm dd eh bW aV cZ cI ij bx cK ck bd du bj dI AV.undef bH bS dW eb dQ dP cJ ev eE cH er ep cY da List.getD_cons_zero List.getD_cons_succ List.getD_nil List.all_cons List.all_nil Bool.and_true Bool.true_and Bool.and_self Bool.not_true Bool.not_false Option.map_some Option.map_none Option.bind_some Option.bind_none List.length_cons List.length_nil List.take_succ_cons List.take_zero List.take_nil List.drop_succ_cons List.drop_zero List.drop_nil List.head?_cons List.map_cons List.map_nil List.getElem?_cons_zero List.getElem?_cons_succ List.cons_append List.nil_append List.append_nil List.length_map List.set_cons_zero List.set_cons_succ Nat.reduceMul eq_self Int.toNat_natCast Int.natCast_nonneg and_self true_and and_true decide_true decide_false Bool.false_eq_true Nat.zero_add Nat.add_zero List.contains_cons List.contains_nil Bool.or_false Bool.false_or beq_self_eq_true Nat.reduceBEq ne_eq not_true_eq_false not_false_eq_true Id.mk.injEq false_and and_false Nat.reduceLT Int.reduceLE Int.reduceLT Int.reduceToNat Int.reduceNeg Int.reduceAdd Nat.le_refl List.length_append beq_true beq_false Bool.not_eq_eq_eq_not or_false false_or dR ae aj aI bq bG cC aY bh aW bp cQ bJ
theorem ig {o:Id} {a:Nat} (h:o.site=a) {b v:Nat} (qF:(a==b)=false):(o=⟨b,v⟩)=False/\((⟨b,v⟩:Id)=o)=False:=by
 have h1:=Ak h (v:=v) qF
 refine⟨h1,?_⟩
 simp only[eq_iff_iff,iff_false]at h1 ⊢
 exact fun h=>h1 h.symm
theorem wD (cnt:Nat) (rN:1<=cnt) (hn:cnt<=1048576) (bs:List PB) (hb:∀b∈bs,b.a<cnt/\b.b<cnt) (qe:bs.length<=1048576):aq Tryz.prog 240 [.int .i64 cnt,.sl (bs.map aB)] (.sl ((fF cnt (eJ bs)).map AM)):=by
 intro n0
 refine Ig N2 rfl fun hl=>?_
 try simp only[q]
 clear hl
 have jN:(0:Int)<=(cnt:Int):=by omega
 have mN:(cnt:Int)<=((16777216:Nat):Int):=by omega
 obtain⟨G,hG⟩:∃G:Nat->Id,G=fun k=>⟨240005004,n0+3+4*k+2⟩:=⟨_,rfl⟩
 have SU:∀k,(G k).site=240005004:=fun k=>by rw[hG]
 have Up:∀k,(G k).bQ=n0+3+4*k+2:=fun k=>by rw[hG]
 have Un:∀i j,i≠j->(G i=G j)=False:=fun i j h=>by
  simp only[eq_iff_iff,iff_false]
  intro he
  have h1:=Up i
  rw[he,Up j]at h1
  omega
 have LI:∀i s v,(240005004==s)=false->(G i=⟨s,v⟩)=False:=fun i s v h=>Ak (SU i) h
 have hz:=HI G cnt
 (try((repeat(revert hN;revert N;apply Pn.out));refine wk (tw @jN (tw @mN (tw @Int.le_refl @hz))) ?_;(repeat(refine Pn.mk ?_;intro N hN))))
 refine aZ (fun n env st=>∃k:Nat,n=(cnt)-k/\k<=(cnt)/\env 21=.int .i64 (k:Int)/\st.get ⟨240001001,n0+1⟩=some ⟨true,1,lZ G cnt k⟩/\(st.next=n0+3+4*k/\∀j:Nat,j<k->st.get (G j)=some ⟨true,2,[[.gN,.int .i64 (j:Int)]]⟩)) (cnt) ⟨0,by omega,by omega,sl @hz,sl @hz,⟨rfl,fun j hj=>by omega⟩⟩ ?_
 rintro n_a env_a st_a ⟨k,rfl,ale,a21,ag0,j4⟩ dx
 have a0:=dx 0 (by kernel_rfl);have a1:=dx 1 (by kernel_rfl);have a5:=dx 5 (by kernel_rfl);have NT:=dx 19 (by kernel_rfl);have a20:=dx 20 (by kernel_rfl)
 simp only[go_sem, ↓reduceIte,Nat.reduceEqDiff,Nat.reduceAdd,Nat.reduceSub,Nat.reduceLeDiff,reduceCtorEq,hz]at a0 a1 a5 NT a20
 clear dx
 obtain⟨j4,j9⟩:=j4
 by_cases hk:(k:Int)<(cnt:Int)
 ·have cz:∀{e:Env} {gg:Rows} {nx:Nat},(e 21=.int .i64 (IntKind.i64.wrap ((k:Int)+1)))->(gg ⟨240001001,n0+1⟩=some ⟨true,1,lZ G cnt (k+1)⟩)->(nx=n0+3+4*(k+1)/\∀j:Nat,j<(k+1)->gg (G j)=some ⟨true,2,[[.gN,.int .i64 (j:Int)]]⟩)->∃m0,m0<(cnt)-k/\∃k:Nat,m0=(cnt)-k/\k<=(cnt)/\e 21=.int .i64 (k:Int)/\gg ⟨240001001,n0+1⟩=some ⟨true,1,lZ G cnt k⟩/\(nx=n0+3+4*k/\∀j:Nat,j<k->gg (G j)=some ⟨true,2,[[.gN,.int .i64 (j:Int)]]⟩):=fun x1 x2 x3=>⟨_,by omega,k+1,rfl,by omega,(by rw[x1,aA (by omega)]),x2,x3⟩
  have fM:k<cnt:=by omega
  have tl:=mH G cnt k
  have eH:=KA (G:=G) fM
  have e9:(lZ G cnt k)[k]? =some [.gN]:=by simp[lZ,fM]
  have SR:(⟨240005004,st_a.next+1+1⟩:Id)=G k:=by rw[hG,j4]
  have hGf:∀j,j<k->(G j=G k)=False:=fun j hj=>Un j k (by omega)
  have zK:∀j,(G j=(⟨240001001,n0+1⟩:Id))=False:=fun j=>LI j _ _ (by decide)
  have DO:∀j,((⟨240001001,n0+1⟩:Id)=G j)=False:=fun j=>by
   have:=zK j
   simp only[eq_iff_iff,iff_false]at this ⊢
   exact fun h=>this h.symm
  (try((repeat(revert hN;revert N;apply Pn.out));refine wk (tw @a21 (tw @ag0 (tw @a0 (tw @a1 (tw @a5 (tw @NT (tw @a20 (tw @hk (tw @tl (tw @SR (tw @zK (tw @DO (tw @eH @e9))))))))))))) ?_;(repeat(refine Pn.mk ?_;intro N hN))))
  refine cz ?_ ?_ (by
   refine⟨by(try dsimp only)<;>omega,fun j hj=>?_⟩
   by_cases yD:j=k
   ·subst yD;simp only[go_sem, ↓reduceIte,Nat.reduceEqDiff,Nat.reduceAdd,Nat.reduceSub,Nat.reduceLeDiff,reduceCtorEq,SR,zK,DO]
   ·have hold:=j9 j (by omega)
    have gP:=hGf j (by omega)
    simp only[go_sem, ↓reduceIte,Nat.reduceEqDiff,Nat.reduceAdd,Nat.reduceSub,Nat.reduceLeDiff,reduceCtorEq,SR,zK,DO,gP,hold])
  all_goals simp only[go_sem, ↓reduceIte,Nat.reduceEqDiff,Nat.reduceAdd,Nat.reduceSub,Nat.reduceLeDiff,reduceCtorEq,a21,ag0,a0,a1,a5,NT,a20,SR,zK,DO,eH]
 have l6:cnt=k:=by omega
 subst l6
 (try((repeat(revert hN;revert N;apply Pn.out));refine wk (tw @a21 (tw @ag0 (tw @a0 (tw @a1 (tw @a5 (tw @NT (tw @a20 @hk))))))) ?_;(repeat(refine Pn.mk ?_;intro N hN))))
 refine aZ (fun n env st=>∃i:Nat,n=(bs.length)-i/\i<=(bs.length)/\env 33=.int .i64 (i:Int)/\st.get ⟨240001001,n0+1⟩=some ⟨true,1,lZ G cnt cnt⟩/\(n0+3+4*cnt<=st.next)/\(∃px,nA cnt px (eJ (bs.take i))/\uo st.get G cnt px)) (bs.length) ⟨0,by omega,by omega,sl (tw @a21 (tw @ag0 (tw @a0 (tw @a1 (tw @a5 (tw @NT @a20)))))),sl (tw @a21 (tw @ag0 (tw @a0 (tw @a1 (tw @a5 (tw @NT @a20)))))),(by(try dsimp only);omega),⟨fun _=>none,nA.start cnt,j9⟩⟩ ?_
 rintro n_b env_b st_b ⟨i,rfl,ble,ur,bg0,bI0,bI1⟩ fU
 have b0:=fU 0 (by kernel_rfl);have b1:=fU 1 (by kernel_rfl);have b5:=fU 5 (by kernel_rfl);have yh:=fU 31 (by kernel_rfl);have tO:=fU 32 (by kernel_rfl)
 simp only[go_sem, ↓reduceIte,Nat.reduceEqDiff,Nat.reduceAdd,Nat.reduceSub,Nat.reduceLeDiff,reduceCtorEq,a21,ag0,a0,a1,a5,NT,a20]at b0 b1 b5 yh tO
 clear fU
 obtain⟨px,Lc,SS⟩:=bI1
 have tl:=mH G cnt cnt
 have Q8:∀j v,(G j=(⟨240009002,v⟩:Id))=False:=fun j v=>LI j _ v (by decide)
 have zK:∀j v,(G j=(⟨240001001,v⟩:Id))=False:=fun j v=>LI j _ v (by decide)
 have DO:∀j v,((⟨240001001,v⟩:Id)=G j)=False:=fun j v=>by
  have:=zK j v
  simp only[eq_iff_iff,iff_false]at this ⊢
  exact fun h=>this h.symm
 have hGn:∀j,j<cnt->(G j).bQ<st_b.next:=fun j hj=>by rw[Up];omega
 by_cases hi:(i:Int)<(bs.length:Int)
 ·have gj:∀{e:Env} {gg:Rows} {nx:Nat},(e 33=.int .i64 (IntKind.i64.wrap ((i:Int)+1)))->(gg ⟨240001001,n0+1⟩=some ⟨true,1,lZ G cnt cnt⟩)->(n0+3+4*cnt<=nx)->(∃px,nA cnt px (eJ (bs.take (i+1)))/\uo gg G cnt px)->∃m0,m0<(bs.length)-i/\∃i:Nat,m0=(bs.length)-i/\i<=(bs.length)/\e 33=.int .i64 (i:Int)/\gg ⟨240001001,n0+1⟩=some ⟨true,1,lZ G cnt cnt⟩/\(n0+3+4*cnt<=nx)/\(∃px,nA cnt px (eJ (bs.take i))/\uo gg G cnt px):=fun x1 x2 x3 x4=>⟨_,by omega,i+1,rfl,by omega,(by rw[x1,aA (by omega)]),x2,x3,x4⟩
  have fh:i<bs.length:=by omega
  have jl:(bs.map aB)[i]? =some (aB bs[i]):=by simp[fh]
  have GK:=hb _ (List.getElem_mem fh)
  have nU:bs.take (i+1)=bs.take i++[bs[i]]:=List.take_succ_eq_append_getElem fh
  have lJ:eJ (bs.take (i+1))=eW (eJ (bs.take i)) bs[i]:=by rw[nU,wO]
  have hL:=uc (bs.take i)
  generalize eJ (bs.take i)=L at *
  generalize bs[i]=b at *
  have gA:=xn (G:=G) GK.1
  have gB:=xn (G:=G) GK.2
  have gR:(b.a:Int)<(cnt:Int):=by omega
  have fX:(b.b:Int)<(cnt:Int):=by omega
  (try((repeat(revert hN;revert N;apply Pn.out));refine wk (tw @ur (tw @bg0 (tw @b0 (tw @b1 (tw @b5 (tw @yh (tw @tO (tw @hi (tw @jl (tw @aB.eq_1 (tw @gA (tw @gB (tw @gR (tw @fX @tl)))))))))))))) ?_;(repeat(refine Pn.mk ?_;intro N hN))))
  refine KT (fun e s=>e 0=.int .i64 cnt/\e 1=.sl (bs.map aB)/\e 5=.own ⟨240001001,n0+1⟩ 0 cnt/\e 31=.sl (bs.map aB)/\e 32=.int .i64 bs.length/\e 33=.int .i64 i/\e 9=.ptr (G (L b.a)) 0 0/\e 10=.ptr (G (L b.b)) 0 0/\(∀j:Id,j.bQ<st_b.next->s.get j=st_b.get j)/\st_b.next<=s.next) ?_ ?_
  ·rintro e1 s1 ⟨m0,m1,m5,m31,m32,m33,m9,m10,mf,mn⟩
   refine hN _ _ ?_
   clear hN N
   have mG:uo s1.get G cnt px:=SS.frame fun k hk=>mf _ (hGn k hk)
   have mt:=(mf ⟨240001001,n0+1⟩ (by(try dsimp only);omega)).trans bg0
   have U7:L b.a<cnt:=Nat.lt_of_le_of_lt (hL.le _) GK.1
   have Rz:L b.b<cnt:=Nat.lt_of_le_of_lt (hL.le _) GK.2
   have ra:=mG _ U7
   have rb:=mG _ Rz
   rw[lH (Lc.root hL U7 (hL.idem _))]at ra
   rw[lH (Lc.root hL Rz (hL.idem _))]at rb
   have put:∀(g':Rows) (lo hi:Nat),hi<cnt->g' (G hi)=some ⟨true,2,[[.ptr (G lo) 0 0,.int .i64 (hi:Int)]]⟩->(∀k,k≠hi->k<cnt->g' (G k)=s1.get (G k))->uo g' G cnt (fun k=>if k=hi then some lo else px k):=fun g' lo hi _ h1 h2 k hk=>by
    by_cases K8:k=hi
    ·subst K8;rw[h1,tX (j:=lo) (if_pos rfl)]
    ·rw[h2 k K8 hk,mG k hk]
     unfold sZ
     simp only[if_neg K8]
   rcases Nat.lt_trichotomy (L b.a) (L b.b)with dZ|heq|dZ
   ·have ON:(L b.a:Int)<(L b.b:Int):=by omega
    have hj:=Lc.join hL b (by omega)
    rw[Nat.max_eq_right (by omega),Nat.min_eq_left (by omega),<-lJ]at hj
    (try((repeat(revert hN;revert N;apply Pn.out));refine wk (tw @m0 (tw @m1 (tw @m5 (tw @m31 (tw @m32 (tw @m33 (tw @m9 (tw @m10 (tw @ra (tw @rb @ON)))))))))) ?_;(repeat(refine Pn.mk ?_;intro N hN))))
    refine gj ?_ ?_ (by(try dsimp only);omega) (⟨_,hj,put _ _ _ Rz (sd @Nat.zero_add) (fun k hk _=>by
     have gP:=Un k _ hk
     simp only[go_sem, ↓reduceIte,Nat.reduceEqDiff,Nat.reduceAdd,Nat.reduceSub,Nat.reduceLeDiff,reduceCtorEq,gP])⟩)
    all_goals simp only[go_sem, ↓reduceIte,Nat.reduceEqDiff,Nat.reduceAdd,Nat.reduceSub,Nat.reduceLeDiff,reduceCtorEq,m0,m1,m5,m31,m32,m33,mt,zK,DO]
   ·have rN:¬(L b.a:Int)<(L b.b:Int):=by omega
    have DZ:¬(L b.b:Int)<(L b.a:Int):=by omega
    have H4:=zT heq
    rw[H4]at lJ
    (try((repeat(revert hN;revert N;apply Pn.out));refine wk (tw @m0 (tw @m1 (tw @m5 (tw @m31 (tw @m32 (tw @m33 (tw @m9 (tw @m10 (tw @ra (tw @rb (tw @rN @DZ))))))))))) ?_;(repeat(refine Pn.mk ?_;intro N hN))))
    refine gj ?_ ?_ (by(try dsimp only);omega) (⟨_,lJ▸Lc,mG.frame fun k hk=>rfl⟩)
    all_goals simp only[go_sem, ↓reduceIte,Nat.reduceEqDiff,Nat.reduceAdd,Nat.reduceSub,Nat.reduceLeDiff,reduceCtorEq,m0,m1,m5,m31,m32,m33,mt]
   ·have ON:(L b.b:Int)<(L b.a:Int):=by omega
    have rN:¬(L b.a:Int)<(L b.b:Int):=by omega
    have hj:=Lc.join hL b (by omega)
    rw[Nat.max_eq_left (by omega),Nat.min_eq_right (by omega),<-lJ]at hj
    (try((repeat(revert hN;revert N;apply Pn.out));refine wk (tw @m0 (tw @m1 (tw @m5 (tw @m31 (tw @m32 (tw @m33 (tw @m9 (tw @m10 (tw @ra (tw @rb (tw @ON @rN))))))))))) ?_;(repeat(refine Pn.mk ?_;intro N hN))))
    refine gj ?_ ?_ (by(try dsimp only);omega) (⟨_,hj,put _ _ _ U7 (sd @Nat.zero_add) (fun k hk _=>by
     have gP:=Un k _ hk
     simp only[go_sem, ↓reduceIte,Nat.reduceEqDiff,Nat.reduceAdd,Nat.reduceSub,Nat.reduceLeDiff,reduceCtorEq,gP])⟩)
    all_goals simp only[go_sem, ↓reduceIte,Nat.reduceEqDiff,Nat.reduceAdd,Nat.reduceSub,Nat.reduceLeDiff,reduceCtorEq,m0,m1,m5,m31,m32,m33,mt,zK,DO]
  ·intro N hN
   refine fu ?_ ?_<;>(try((repeat(revert hN;revert N;apply Pn.out));refine wk (tw @ur (tw @bg0 (tw @b0 (tw @b1 (tw @b5 (tw @yh (tw @tO (tw @hi (tw @jl (tw @aB.eq_1 (tw @gA (tw @gB (tw @gR (tw @fX @tl)))))))))))))) ?_;(repeat(refine Pn.mk ?_;intro N hN))))<;>(try refine fu ?_ ?_)<;>(try((repeat(revert hN;revert N;apply Pn.out));refine wk (tw @ur (tw @bg0 (tw @b0 (tw @b1 (tw @b5 (tw @yh (tw @tO (tw @hi (tw @jl (tw @aB.eq_1 (tw @gA (tw @gB (tw @gR (tw @fX @tl)))))))))))))) ?_;(repeat(refine Pn.mk ?_;intro N hN))))<;>(try refine fu ?_ ?_)<;>(try((repeat(revert hN;revert N;apply Pn.out));refine wk (tw @ur (tw @bg0 (tw @b0 (tw @b1 (tw @b5 (tw @yh (tw @tO (tw @hi (tw @jl (tw @aB.eq_1 (tw @gA (tw @gB (tw @gR (tw @fX @tl)))))))))))))) ?_;(repeat(refine Pn.mk ?_;intro N hN))))
   all_goals
    refine .inr (aJ _ _ _ _ _ (fun r σ1 hq=>?_) (zE G cnt px L Lc b.a GK.1 _ (SS.frame fun k hk=>sd @Q8)))
    obtain⟨g1,x1⟩:=σ1
    obtain⟨rfl,AO,GO⟩:=hq
    (try dsimp only at AO GO)
    subst AO
    refine hN _ _ ?_
    clear hN N
    (try((repeat(revert hN;revert N;apply Pn.out));refine wk (tw @ur (tw @bg0 (tw @b0 (tw @b1 (tw @b5 (tw @yh (tw @tO (tw @hi (tw @jl (tw @aB.eq_1 (tw @gA (tw @gB (tw @gR (tw @fX @tl)))))))))))))) ?_;(repeat(refine Pn.mk ?_;intro N hN))))
    refine .inr (aJ _ _ _ _ _ (fun r σ1 hq=>?_) (zE G cnt px L Lc b.b GK.2 _ (SS.frame fun k hk=>sd @Q8)))
    obtain⟨g1,x2⟩:=σ1
    obtain⟨rfl,AO,nh⟩:=hq
    (try dsimp only at AO nh)
    subst AO
    refine hN _ _ ?_
    clear hN N
    (try((repeat(revert hN;revert N;apply Pn.out));refine wk (tw @ur (tw @bg0 (tw @b0 (tw @b1 (tw @b5 (tw @yh (tw @tO (tw @hi (tw @jl (tw @aB.eq_1 (tw @gA (tw @gB (tw @gR (tw @fX @tl)))))))))))))) ?_;(repeat(refine Pn.mk ?_;intro N hN))))
    exact⟨sd (tw @ur (tw @bg0 (tw @b0 (tw @b1 (tw @b5 (tw @yh @tO)))))),sd (tw @ur (tw @bg0 (tw @b0 (tw @b1 (tw @b5 (tw @yh @tO)))))),sd (tw @ur (tw @bg0 (tw @b0 (tw @b1 (tw @b5 (tw @yh @tO)))))),sd (tw @ur (tw @bg0 (tw @b0 (tw @b1 (tw @b5 (tw @yh @tO)))))),sd (tw @ur (tw @bg0 (tw @b0 (tw @b1 (tw @b5 (tw @yh @tO)))))),sd (tw @ur (tw @bg0 (tw @b0 (tw @b1 (tw @b5 (tw @yh @tO)))))),sd (tw @ur (tw @bg0 (tw @b0 (tw @b1 (tw @b5 (tw @yh @tO)))))),sd (tw @ur (tw @bg0 (tw @b0 (tw @b1 (tw @b5 (tw @yh @tO)))))),fun j hj=>by
     have hv:=dr hj
     simp only[go_sem, ↓reduceIte,Nat.reduceEqDiff,Nat.reduceAdd,Nat.reduceSub,Nat.reduceLeDiff,reduceCtorEq,hv],by(try dsimp only);omega⟩
 have kN:i=bs.length:=by omega
 subst kN
 rw[List.take_length]at Lc
 have hL:=uc bs
 generalize eJ bs=L at *
 (try((repeat(revert hN;revert N;apply Pn.out));refine wk (tw @ur (tw @bg0 (tw @b0 (tw @b1 (tw @b5 (tw @yh (tw @tO (tw @hi @tl)))))))) ?_;(repeat(refine Pn.mk ?_;intro N hN))))
 have l0:kZ 0 L=[]:=rfl
 have oS:(none:Option Nat).isSome=false:=rfl
 have oT:∀a:Nat,(some a).isSome=true:=fun _=>rfl
 refine aZ (fun n env st=>∃x:Nat,n=(cnt)-x/\x<=(cnt)/\env 81=.int .i64 (x:Int)/\st.get ⟨240001001,n0+1⟩=some ⟨true,1,lZ G cnt cnt⟩/\st.get ⟨240017000,st_b.next+1+1⟩=some ⟨true,mI.pG,kZ x L⟩/\(st_b.next+3<=st.next/\uo st.get G cnt px)/\((x=0/\env 11=.bE)∨∃o:Id,env 11=.own o 0 (leads x L).length/\Gf st.get o (jR x L) st.next)) (cnt) ⟨0,by omega,by omega,sl (tw @ur (tw @bg0 (tw @b0 (tw @b1 (tw @b5 (tw @yh (tw @tO @l0))))))),sl (tw @ur (tw @bg0 (tw @b0 (tw @b1 (tw @b5 (tw @yh (tw @tO @l0))))))),sl (tw @ur (tw @bg0 (tw @b0 (tw @b1 (tw @b5 (tw @yh (tw @tO @l0))))))),⟨by(try dsimp only);omega,SS.frame fun k hk=>by(have gP:=LI k 240017000 (st_b.next+1+1) (by decide));simp only[go_sem, ↓reduceIte,Nat.reduceEqDiff,Nat.reduceAdd,Nat.reduceSub,Nat.reduceLeDiff,reduceCtorEq,gP]⟩,.inl ⟨rfl,sd @Nat.zero_add⟩⟩ ?_
 rintro n_c env_c st_c ⟨x,rfl,cle,c81,cg0,cg1,cI0,cI1⟩ cfr
 have zx:=cfr 12 (by kernel_rfl);have Lr:=cfr 79 (by kernel_rfl);have Ls:=cfr 80 (by kernel_rfl)
 simp only[go_sem, ↓reduceIte,Nat.reduceEqDiff,Nat.reduceAdd,Nat.reduceSub,Nat.reduceLeDiff,reduceCtorEq,ur,bg0,b0,b1,b5,yh,tO,l0]at zx Lr Ls
 clear cfr
 obtain⟨s9,QV⟩:=cI0
 have Ow:∀j v,(G j=(⟨240017000,v⟩:Id))=False:=fun j v=>LI j _ v (by decide)
 have On:∀j v,(G j=(⟨240025002,v⟩:Id))=False:=fun j v=>LI j _ v (by decide)
 have Oq:∀j v,(G j=(⟨240025001,v⟩:Id))=False:=fun j v=>LI j _ v (by decide)
 have Ot:∀j v,(G j=(⟨240026007,v⟩:Id))=False:=fun j v=>LI j _ v (by decide)
 have Oo:∀j v,(G j=(⟨240026008,v⟩:Id))=False:=fun j v=>LI j _ v (by decide)
 by_cases hx:(x:Int)<(cnt:Int)
 ·have iv:∀{e:Env} {gg:Rows} {nx:Nat},(e 81=.int .i64 (IntKind.i64.wrap ((x:Int)+1)))->(gg ⟨240001001,n0+1⟩=some ⟨true,1,lZ G cnt cnt⟩)->(gg ⟨240017000,st_b.next+1+1⟩=some ⟨true,mI.pG,kZ (x+1) L⟩)->(st_b.next+3<=nx/\uo gg G cnt px)->(((x+1)=0/\e 11=.bE)∨∃o:Id,e 11=.own o 0 (leads (x+1) L).length/\Gf gg o (jR (x+1) L) nx)->∃m0,m0<(cnt)-x/\∃x:Nat,m0=(cnt)-x/\x<=(cnt)/\e 81=.int .i64 (x:Int)/\gg ⟨240001001,n0+1⟩=some ⟨true,1,lZ G cnt cnt⟩/\gg ⟨240017000,st_b.next+1+1⟩=some ⟨true,mI.pG,kZ x L⟩/\(st_b.next+3<=nx/\uo gg G cnt px)/\((x=0/\e 11=.bE)∨∃o:Id,e 11=.own o 0 (leads x L).length/\Gf gg o (jR x L) nx):=fun x1 x2 x3 x4 x5=>⟨_,by omega,x+1,rfl,by omega,(by rw[x1,aA (by omega)]),x2,x3,x4,x5⟩
  have QH:x<cnt:=by omega
  have gX:=xn (G:=G) QH
  have hlx:L x<cnt:=Nat.lt_of_le_of_lt (hL.le _) QH
  have ra:=QV _ hlx
  rw[lH (Lc.root hL hlx (hL.idem _))]at ra
  have ke:=jU x L
  (try((repeat(revert hN;revert N;apply Pn.out));refine wk (tw @c81 (tw @cg0 (tw @cg1 (tw @zx (tw @Lr (tw @Ls (tw @hx (tw @gX @tl)))))))) ?_;(repeat(refine Pn.mk ?_;intro N hN))))
  refine .inr (aJ _ _ _ _ _ (fun r σ1 hq=>?_) (zE G cnt px L Lc x QH _ (QV.frame fun k hk=>sd @Nat.zero_add)))
  obtain⟨g1,x1⟩:=σ1
  obtain⟨rfl,AO,GO⟩:=hq
  (try dsimp only at AO GO)
  subst AO
  refine hN _ _ ?_
  clear hN N
  by_cases hr:L x=x
  ·rw[hr]at ra ⊢
   have lS:=G8 hr
   have OM:(leads (x+1) L).length=(leads x L).length+1:=by rw[gZ,if_pos hr];simp
   have QC:=Eo hr
   have Th:=DK hL hr
   rcases cI1 with⟨rfl,nR⟩|⟨o,nR,cS⟩
   ·have Vu:kZ 1 L=[[.int .i64 ((0:Nat):Int),.int .i64 ((0:Nat):Int)]]:=QC
    (try((repeat(revert hN;revert N;apply Pn.out));refine wk (tw @c81 (tw @cg0 (tw @cg1 (tw @zx (tw @Lr (tw @Ls (tw @nR (tw @ra (tw @lS (tw @l0 (tw @oS (tw @oT (tw @Bool.not_false @Bool.not_true))))))))))))) ?_;(repeat(refine Pn.mk ?_;intro N hN))))
    refine iv ?_ ?_ ?_ (by(try dsimp only);exact⟨by omega,QV.frame fun k hk=>sd (tw @Ow (tw @On (tw @Oo (tw @Oq @Ot))))⟩) (.inr ⟨⟨240025002,x1+1+1+1+1⟩,by simp only[go_sem, ↓reduceIte,Nat.reduceEqDiff,Nat.reduceAdd,Nat.reduceSub,Nat.reduceLeDiff,reduceCtorEq,OM];rfl,by rw[Th];exact LG (v':=x1+1+1+1+1+1) (sd @Nat.zero_add) (sd @eN.eq_1) (by(try dsimp only);omega) (by(try dsimp only);omega)⟩)
    all_goals simp only[go_sem, ↓reduceIte,Nat.reduceEqDiff,Nat.reduceAdd,Nat.reduceSub,Nat.reduceLeDiff,reduceCtorEq,c81,cg0,cg1,zx,Lr,Ls,Vu]
   ·obtain⟨rows,xR,qI,kr⟩:=cS.new x
    rw[qD]at qI
    have xT:o.site=240025002:=by obtain⟨_,_,_,_,_,_,h,_⟩:=cS;exact h
    have uC:o.bQ<x1:=by obtain⟨_,_,_,_,_,_,_,h⟩:=cS;omega
    have sK:=dr uC
    have RH:=ig (o:=o) xT (b:=240017000) (v:=st_b.next+1+1) (by decide)
    have Qw:=ig (o:=o) xT (b:=240001001) (v:=n0+1) (by decide)
    have Ox:∀k,(G k=o)=False:=fun k=>by simp only[eq_iff_iff,iff_false];intro h;have h1:=SU k;rw[h,xT]at h1;cases h1
    have s7:(rows++[[AV.bE]])[(leads x L).length]? =some [.bE]:=by rw[<-qI];simp
    have Ea:∀a:List AV,(rows++[[AV.bE]]).set (leads x L).length a=rows++[a]:=fun a=>by rw[<-qI];simp
    have e1:(leads x L).length+1<=16777216:=by omega
    have e2:((leads x L).length:Int)<(((leads x L).length+1:Nat):Int):=by omega
    (try((repeat(revert hN;revert N;apply Pn.out));refine wk (tw @c81 (tw @cg0 (tw @cg1 (tw @zx (tw @Lr (tw @Ls (tw @nR (tw @ra (tw @lS (tw @xR (tw @qI (tw @sK (tw @RH (tw @s7 (tw @Ea (tw @e1 (tw @e2 (tw @oS (tw @oT (tw @Bool.not_false @Bool.not_true)))))))))))))))))))) ?_;(repeat(refine Pn.mk ?_;intro N hN))))
    refine iv ?_ ?_ ?_ (by(try dsimp only);exact⟨by omega,QV.frame fun k hk=>sd (tw @Ow (tw @On (tw @Oo (tw @Oq (tw @Ot @Ox)))))⟩) (.inr ⟨⟨240025002,x1+1+1+1+1⟩,sd @OM,by rw[Th];exact kr _ _ (x1+1+1+1+1+1) _ (by omega) (by(try dsimp only);omega) (by(try dsimp only);omega) (sd @Ea) (sd @eN.eq_1) (fun j hj hv=>by
     have q1:=dr (i:=j) (n:=x1) (by omega)
     have q2:=ig hj (b:=240017000) (v:=st_b.next+1+1) (by decide)
     have q3:(j=o)=False:=by simp only[eq_iff_iff,iff_false];intro h;rw[h,xT]at hj;cases hj
     simp only[go_sem, ↓reduceIte,Nat.reduceEqDiff,Nat.reduceAdd,Nat.reduceSub,Nat.reduceLeDiff,reduceCtorEq,q1,q2,q3])⟩)
    all_goals simp only[go_sem, ↓reduceIte,Nat.reduceEqDiff,Nat.reduceAdd,Nat.reduceSub,Nat.reduceLeDiff,reduceCtorEq,c81,cg0,cg1,zx,Lr,Ls,QC,sK,RH,Qw]
  ·obtain⟨lS,C1,dZ⟩:=yN hL hr
   obtain⟨Rt,Th⟩:=DL hL hr
   have OM:(leads (x+1) L).length=(leads x L).length:=by rw[gZ,if_neg hr];simp
   have H4:=En hr
   rcases cI1 with⟨rfl,nR⟩|⟨o,nR,cS⟩
   ·exact absurd (Nat.le_zero.1 (hL.le 0)) hr
   ·obtain⟨rows,id,xR,qI,hrk,hid,Jk,hidv,UI⟩:=cS.add Rt x
    rw[qD]at qI
    have xT:o.site=240025002:=by obtain⟨_,_,_,_,_,_,h,_⟩:=cS;exact h
    have uC:o.bQ<x1:=by obtain⟨_,_,_,_,_,_,_,h⟩:=cS;omega
    have sK:=dr uC
    have yH:=dr (i:=id) (n:=x1) (by omega)
    have jl:(cq L x:Int)<((leads x L).length:Int):=by omega
    have RD:=Cg x L (L x)
    have hma:((members x L (L x)).map eN).length=(members x L (L x)).length:=by simp
    have e1:(members x L (L x)).length+1<=16777216:=by omega
    have Qx:(o=id)=False:=by simp only[eq_iff_iff,iff_false];rintro rfl;rw[Jk]at xT;cases xT
    have Qs:(id=o)=False:=by simp only[eq_iff_iff,iff_false];rintro rfl;rw[Jk]at xT;cases xT
    have RH:=ig (o:=o) xT (b:=240017000) (v:=st_b.next+1+1) (by decide)
    have Qw:=ig (o:=o) xT (b:=240001001) (v:=n0+1) (by decide)
    have hiM:=ig (o:=id) Jk (b:=240017000) (v:=st_b.next+1+1) (by decide)
    have hiT:=ig (o:=id) Jk (b:=240001001) (v:=n0+1) (by decide)
    have Ox:∀k,(G k=o)=False:=fun k=>by simp only[eq_iff_iff,iff_false];intro h;have h1:=SU k;rw[h,xT]at h1;cases h1
    have Uo:∀k,(G k=id)=False:=fun k=>by simp only[eq_iff_iff,iff_false];intro h;have h1:=SU k;rw[h,Jk]at h1;cases h1
    (try((repeat(revert hN;revert N;apply Pn.out));refine wk (tw @c81 (tw @cg0 (tw @cg1 (tw @zx (tw @Lr (tw @Ls (tw @nR (tw @ra (tw @lS (tw @C1 (tw @xR (tw @qI (tw @hrk (tw @hid (tw @sK (tw @yH (tw @jl (tw @hma (tw @e1 (tw @Qx (tw @Qs (tw @RH (tw @Qw (tw @hiM (tw @hiT (tw @oS (tw @oT (tw @Bool.not_false @Bool.not_true)))))))))))))))))))))))))))) ?_;(repeat(refine Pn.mk ?_;intro N hN))))
    refine iv ?_ ?_ ?_ (by(try dsimp only);exact⟨by omega,QV.frame fun k hk=>sd (tw @Ow (tw @On (tw @Oo (tw @Oq (tw @Ot (tw @Ox @Uo))))))⟩) (.inr ⟨o,sd (tw @OM @nR),by rw[Th];exact UI _ (x1+1+1) _ (by omega) (by(try dsimp only);omega) (sd @Nat.zero_add) (sd (tw @sK (tw @yH (tw @Qx @Qs)))) (fun j hj hv mO=>by
     have q1:=dr (i:=j) (n:=x1) (by omega)
     have q2:=ig hj (b:=240017000) (v:=st_b.next+1+1) (by decide)
     have q3:(j=o)=False:=by simp only[eq_iff_iff,iff_false];intro h;rw[h,xT]at hj;cases hj
     simp only[go_sem, ↓reduceIte,Nat.reduceEqDiff,Nat.reduceAdd,Nat.reduceSub,Nat.reduceLeDiff,reduceCtorEq,q1,q2,q3,mO])⟩)
    all_goals simp only[go_sem, ↓reduceIte,Nat.reduceEqDiff,Nat.reduceAdd,Nat.reduceSub,Nat.reduceLeDiff,reduceCtorEq,c81,cg0,cg1,zx,Lr,Ls,H4,sK,yH,RH,Qw,hiM,hiT]
 have VB:x=cnt:=by omega
 rcases cI1 with⟨h0,_⟩|⟨o,nR,rows,ids,xR,hR,_,_,_,_⟩
 ·omega
 have qI:=hR.len
 rw[qD]at qI
 (try((repeat(revert hN;revert N;apply Pn.out));refine wk (tw @c81 (tw @cg0 (tw @cg1 (tw @zx (tw @Lr (tw @Ls (tw @hx (tw @nR @xR)))))))) ?_;(repeat(refine Pn.mk ?_;intro N hN))))
 refine xd (.inl rfl) (by simp only[go_sem, ↓reduceIte,Nat.reduceEqDiff,Nat.reduceAdd,Nat.reduceSub,Nat.reduceLeDiff,reduceCtorEq];rfl) ?_
 rw[uR xR (by omega) (rows':=(fF cnt L).map AM) (by
  rw[List.drop_zero,List.take_of_length_le (by omega)]
  rw[VB]at hR;exact JO 3 hR)]
end Go.Proofs.YtgoelphibofcmaaGreat.V

namespace Go.Proofs.YtgoelphibofcmaaGreat.V
open Go.RowKit
attribute [local irreducible] dO wpOps gy Call
attribute [local go_sem] aT fK eS ga fZ dj upd cF K.av cP AV.cells AV.cell rowOf rowsOf part ld rowAt bL cD dG ef ik bV de ew fW fe dw ek dc db dU dV cj bl cU b4 cW cV ei eo ej cR cm dd eh bW aV cZ cI ij bx cK ck bd du bj dI AV.undef bH bS dW eb dQ dP cJ ev eE cH er ep cY da List.getD_cons_zero List.getD_cons_succ List.getD_nil List.all_cons List.all_nil Bool.and_true Bool.true_and Bool.and_self Bool.not_true Bool.not_false Option.map_some Option.map_none Option.bind_some Option.bind_none List.length_cons List.length_nil List.take_succ_cons List.take_zero List.take_nil List.drop_succ_cons List.drop_zero List.drop_nil List.head?_cons List.map_cons List.map_nil List.getElem?_cons_zero List.getElem?_cons_succ List.cons_append List.nil_append List.append_nil List.length_map List.set_cons_zero List.set_cons_succ Nat.reduceMul eq_self Int.toNat_natCast Int.natCast_nonneg and_self true_and and_true decide_true decide_false Bool.false_eq_true Nat.zero_add Nat.add_zero List.contains_cons List.contains_nil Bool.or_false Bool.false_or beq_self_eq_true Nat.reduceBEq ne_eq not_true_eq_false not_false_eq_true Id.mk.injEq false_and and_false Nat.reduceLT Int.reduceLE Int.reduceLT Int.reduceToNat Int.reduceNeg Int.reduceAdd Nat.le_refl List.length_append beq_true beq_false Bool.not_eq_eq_eq_not or_false false_or dR ae aj aI bq bG cC aY bh aW bp cQ bJ
theorem KU (b:PB) (t:Int):aq Tryz.prog 243 [.agg (aB b),.dq [.int .i64 t]] (.bool (decide (b.s<t))):=by
 refine aq.body eK rfl fun hl n0=>?_
 clear hl
 (try((repeat(revert hN;revert N;apply Pn.out));refine wk @aB.eq_1 ?_;(repeat(refine Pn.mk ?_;intro N hN))))
 exact bc (b:=decide (b.s<t)) (.inl rfl) (sd @Nat.zero_add) rfl
theorem yJ (bs:List PB) (t:Int) (hl:bs.length<=1048576):aq Tryz.prog 263 [.sl (bs.map aB),.fn 243 [.dq [.int .i64 t]]] (.int .i64 (kp (fun b:PB=>decide (b.s<t)) bs)):=
 ua IQ (show lR Tryz.prog 263=some (wN 263 3 true) by kernel_rfl) bs hl 243 _ _ (fun x _=>KU x t) fun g=>by simp only[ae,aj,aW,Option.map_some]
theorem IL (bs:List PB) (hp:0<bs.length) (hl:bs.length<=1048576) (σ:ar):
  Call Tryz.prog 242 [.sl (bs.map aB)] σ fun r σ'=>∃o:Id,r=.own o 0 bs.length/\σ'.get o=some ⟨true,3,bs.map aB⟩/\σ.next<=o.bQ/\o.bQ<σ'.next/\∀i:Id,i.bQ<σ.next->σ'.get i=σ.get i:=by
 refine eQ eK rfl fun hl=>?_
 clear hl
 have hz:=all_map (l:=bs) NL
 obtain⟨b,r,rfl⟩:∃b r,bs=b::r:=by
  cases bs with
  |nil=>simp at hp
  |cons b r=>exact⟨b,r,rfl⟩
 have ke:(List.map aB (b::r)).length=(b::r).length:=by simp
 have e1:r.length<=16777215:=by simp at hl;omega
 rw[List.map_cons]at hz ke ⊢
 (try((repeat(revert hN;revert N;apply Pn.out));refine wk (tw @hz (tw @ke @e1)) ?_;(repeat(refine Pn.mk ?_;intro N hN))))
 refine eX (.inl rfl) (vs:=[.own ⟨242003002,σ.next+1+1⟩ 0 (b::r).length]) (by simp only[fx,iw,go_sem, ↓reduceIte,Nat.reduceEqDiff,Nat.reduceAdd,Nat.reduceSub,Nat.reduceLeDiff,reduceCtorEq,List.length_cons]) ⟨⟨242003002,σ.next+1+1⟩,rfl,sd @Nat.zero_add,by(try dsimp only);omega,by(try dsimp only);omega,fun i hi=>?_⟩
 have hv:=dr hi
 simp only[go_sem, ↓reduceIte,Nat.reduceEqDiff,Nat.reduceAdd,Nat.reduceSub,Nat.reduceLeDiff,reduceCtorEq,hv]
theorem pd {t:Int} {bs:List PB} {j:Nat} (hj:j<bs.length):aU t (bs.take (j+1))=aU t (bs.take j)++if decide (bs[j].s<t)=true then[]else[bs[j]]:=by
 rw[uk t bs j hj]
 congr 1
 by_cases h:bs[j].s<t
 ·rw[if_neg (by omega),if_pos (decide_eq_true h)]
 ·rw[if_pos (by omega),if_neg (by simp only[decide_eq_true_eq];exact h)]
theorem uj {t:Int} {bs:List PB} (h:∀b∈bs,¬b.s<t):aU t bs=bs:=by
 unfold aU
 rw[List.filter_eq_self]
 intro b hb
 have:=h b hb
 exact decide_eq_true (by omega)
structure um (t:Int) (bs:List PB) (j:Nat) (R:List PB):Prop where
 len:R.length=bs.length
 pre:R.take (aU t (bs.take j)).length=aU t (bs.take j)
 post:∀x,j<=x->R[x]? =bs[x]?
 lt:(aU t (bs.take j)).length<j
theorem um.start {t:Int} {bs:List PB} {i:Nat} (hi:i<bs.length) (hw:bs[i].s<t) (hp:∀x (h:x<i),¬bs[x].s<t):um t bs (i+1) bs/\(aU t (bs.take (i+1))).length=i:=by
 have h1:aU t (bs.take i)=bs.take i:=uj fun b hb=>by
  obtain⟨x,hx,rfl⟩:=List.getElem_of_mem hb
  rw[List.length_take]at hx
  rw[List.getElem_take]
  exact hp x (by omega)
 have h2:aU t (bs.take (i+1))=bs.take i:=by rw[pd hi,if_pos (decide_eq_true hw),List.append_nil,h1]
 have h3:(bs.take i).length=i:=by rw[List.length_take];omega
 exact⟨⟨rfl,by rw[h2,h3],fun _ _=>rfl,by rw[h2,h3];omega⟩,by rw[h2,h3]⟩
theorem um.Sx {t:Int} {bs R:List PB} {j:Nat} (h:um t bs j R) (hj:j<bs.length) (hw:bs[j].s<t):um t bs (j+1) R/\(aU t (bs.take (j+1))).length=(aU t (bs.take j)).length:=by
 have h2:aU t (bs.take (j+1))=aU t (bs.take j):=by rw[pd hj,if_pos (decide_eq_true hw),List.append_nil]
 exact⟨⟨h.len,by rw[h2];exact h.pre,fun x hx=>h.post x (by omega),by rw[h2];have:=h.lt;omega⟩,by rw[h2]⟩
theorem um.qM {t:Int} {bs R:List PB} {j:Nat} (h:um t bs j R) (hj:j<bs.length) (hw:¬bs[j].s<t):um t bs (j+1) (R.set (aU t (bs.take j)).length bs[j])/\(aU t (bs.take (j+1))).length=(aU t (bs.take j)).length+1:=by
 have h2:aU t (bs.take (j+1))=aU t (bs.take j)++[bs[j]]:=by rw[pd hj,if_neg (by simp only[decide_eq_true_eq];exact hw)]
 have dZ:=h.lt
 have hlen:=h.len
 have uD:=h.pre
 generalize hc:(aU t (bs.take j)).length=c at *
 refine⟨⟨by rw[List.length_set];exact hlen,?_,fun x hx=>?_,by rw[h2,List.length_append,hc];simp;omega⟩,by rw[h2,List.length_append,hc];rfl⟩
 ·rw[h2,List.length_append,hc,List.length_singleton,List.take_succ_eq_append_getElem (by rw[List.length_set];omega),List.getElem_set_self,List.take_set_of_le (Nat.le_refl _),uD]
 ·rw[List.getElem?_set_ne (by omega)];exact h.post x (by omega)
theorem um.at_ {t:Int} {bs R:List PB} {j:Nat} (h:um t bs j R) (hj:j<bs.length):(R.map aB)[j]? =some (aB bs[j]):=by
 rw[List.getElem?_map,h.post j (Nat.le_refl j),List.getElem?_eq_getElem hj];rfl
theorem Dy {p:PB->Bool} {bs:List PB} (h:¬0<=kp p bs):∀b∈bs,p b=false:=by
 intro b hb
 unfold kp at h
 split at h
 ·omega
 ·rename_i h1
  rw[List.findIdx_lt_length]at h1
  cases hp:p b
  ·rfl
  ·exact absurd ⟨b,hb,hp⟩ h1
theorem Dz {p:PB->Bool} {bs:List PB} (h:0<=kp p bs):∃i,∃hi:i<bs.length,kp p bs=(i:Int)/\p bs[i]=true/\∀x (hx:x<i),p (bs[x]'(by omega))=false:=by
 unfold kp at h ⊢
 split
 ·rename_i h1
  exact⟨bs.findIdx p,h1,rfl,List.findIdx_getElem,fun x hx=>by simpa using List.not_of_lt_findIdx hx⟩
 ·rename_i h1;rw[if_neg h1]at h;omega
theorem Gy (bs:List PB) (t:Int) (hl:bs.length<=1048576) (o T:Id) (σ:ar) (ho:σ.get o=some ⟨true,3,bs.map aB⟩) (hT:σ.get T=some ⟨true,1,[[.int .i64 t]]⟩) (uC:o.bQ<σ.next) (Qo:T.bQ<σ.next) (Qw:o≠T):
  Call Tryz.prog 241 [.own o 0 bs.length,.fn 243 [.ptr T 0 0]] σ fun r σ'=>∃rows,r=.own o 0 (aU t bs).length/\σ'.get o=some ⟨true,3,rows⟩/\rows.take (aU t bs).length=(aU t bs).map aB/\(aU t bs).length<=rows.length/\σ.next<=σ'.next/\∀i:Id,i.bQ<σ.next->i≠o->σ'.get i=σ.get i:=by
 refine eQ eK rfl fun kd=>?_
 clear kd
 have GM:=yJ bs t hl
 have hzT:∀(g:Rows),g T=some ⟨true,1,[[.int .i64 t]]⟩->V.fz (dR g) 5 (.ptr T 0 0)=some (.dq [.int .i64 t]):=fun g hg=>wq (sz:=1) (rows:=[[.int .i64 t]]) (by simp[dR,hg]) rfl (by simp only[List.drop_zero,ae,aj,aI,Option.map_some])
 have AQ:∀(g:Rows),g T=some ⟨true,1,[[.int .i64 t]]⟩->g o=some ⟨true,3,bs.map aB⟩->dn (dR g) 6 [.own o 0 bs.length,.fn 243 [.ptr T 0 0]]=some [.sl (bs.map aB),.fn 243 [.dq [.int .i64 t]]]:=fun g h1 h2=>by
  have q1:=gY (g:=dR g) (n:=5) (e:=aB) (sz:=3) (len:=bs.length) (l:=bs) (id:=o) (by simp[dR,h2]) rfl fun b=>zF _ 4 b
  have q2:=hzT g h1
  simp only[ae,aj,q1,cQ,List.all_cons,List.all_nil,AV.cell,Bool.and_true,if_true,q2,Option.map_some]
 have kO:∀(g:Rows),g T=some ⟨true,1,[[.int .i64 t]]⟩->∀b:PB,dn (dR g) 6 [.agg (aB b),.ptr T 0 0]=some [.agg (aB b),.dq [.int .i64 t]]:=fun g h1 b=>by
  have q3:V.fz (dR g) 6 (.ptr T 0 0)=some (.dq [.int .i64 t]):=wq (sz:=1) (rows:=[[.int .i64 t]]) (by simp[dR,h1]) rfl (by simp only[List.drop_zero,ae,aj,aI,Option.map_some])
  simp only[ae,aj,bh,zF,q3,Option.map_some]
 (try((repeat(revert hN;revert N;apply Pn.out));refine wk @Nat.zero_add ?_;(repeat(refine Pn.mk ?_;intro N hN))))
 refine .inl ⟨_,aq.x GM (AQ _ hT ho),?_⟩
 refine hN _ _ ?_
 clear hN N
 by_cases h0:0<=kp (fun b:PB=>decide (b.s<t)) bs
 ·obtain⟨i,hi,H0,hpi,LY⟩:=Dz h0
  rw[H0]at *
  have LS:decide ((i:Int)= -1)=false:=decide_eq_false (by omega)
  have RY:IntKind.i64.wrap ((i:Int)+1)=((i+1:Nat):Int):=aA (by omega)
  obtain⟨dK,Ea⟩:=um.start (t:=t) hi (by simpa using hpi) (fun x hx=>by simpa using LY x hx)
  (try((repeat(revert hN;revert N;apply Pn.out));refine wk (tw @LS @RY) ?_;(repeat(refine Pn.mk ?_;intro N hN))))
  refine aZ (fun m env st=>∃(j:Nat) (R:List PB),m=bs.length-j/\env 6=.int .i64 (j:Int)/\env 5=.int .i64 ((aU t (bs.take j)).length:Int)/\st.get o=some ⟨true,3,R.map aB⟩/\um t bs j R/\j<=bs.length/\σ.next<=st.next/\∀x:Id,x.bQ<σ.next->(x=o)=False->st.get x=σ.get x) (bs.length-(i+1)) ⟨i+1,bs,rfl,sd @RY,sd @Ea,sd @ho,dK,by omega,by(try dsimp only);omega,fun x _ _=>sd @Nat.zero_add⟩ ?_
  rintro m env_b st_b ⟨j,R,rfl,b6,b5,bg,hD,iq,hle,jz⟩ fU
  have b0:=fU 0 (by kernel_rfl)
  have b1:=fU 1 (by kernel_rfl)
  simp only[go_sem, ↓reduceIte,Nat.reduceEqDiff,Nat.reduceAdd,Nat.reduceSub,Nat.reduceLeDiff,reduceCtorEq]at b0 b1
  clear fU
  have bT:=(jz T Qo (by simp only[eq_iff_iff,iff_false];exact fun h=>Qw h.symm)).trans hT
  have pW:=dr (i:=o) (n:=st_b.next) (by omega)
  have Vx:=dr (i:=T) (n:=st_b.next) (by omega)
  have hRl:=hD.len
  have UC:(R.map aB).length=bs.length:=by rw[List.length_map,hRl]
  have dZ:=hD.lt
  by_cases hj:(j:Int)<(bs.length:Int)
  ·have iH:j<bs.length:=by omega
   have HY:=hD.at_ iH
   have Pb:=KU bs[j] t
   have TB:IntKind.i64.wrap ((j:Int)+1)=((j+1:Nat):Int):=aA (by omega)
   have hD1:=hD.Sx iH
   have hD2:=hD.qM iH
   generalize bs[j]=b at *
   (try((repeat(revert hN;revert N;apply Pn.out));refine wk (tw @b0 (tw @b1 (tw @b5 (tw @b6 (tw @bg (tw @hj (tw @HY (tw @aB.eq_1 (tw @pW (tw @Vx @UC)))))))))) ?_;(repeat(refine Pn.mk ?_;intro N hN))))
   refine .inl ⟨_,aq.x Pb (kO _ (sd (tw @Vx @bT)) b),?_⟩
   refine hN _ _ ?_
   clear hN N
   by_cases hw:b.s<t
   ·obtain⟨Ul,Uk⟩:=hD1 hw
    have hd:decide (b.s<t)=true:=decide_eq_true hw
    (try((repeat(revert hN;revert N;apply Pn.out));refine wk (tw @b0 (tw @b1 (tw @b5 (tw @b6 (tw @hd @TB))))) ?_;(repeat(refine Pn.mk ?_;intro N hN))))
    refine⟨_,?_,j+1,R,rfl,sd @TB,sd (tw @b5 @Uk),sd (tw @bg @pW),Ul,by omega,by(try dsimp only);omega,fun x hx H7=>?_⟩
    ·omega
    ·have QD:=dr (i:=x) (n:=st_b.next) (by omega)
     have:=jz x hx H7
     simp only[go_sem, ↓reduceIte,Nat.reduceEqDiff,Nat.reduceAdd,Nat.reduceSub,Nat.reduceLeDiff,reduceCtorEq,QD,this]
   ·obtain⟨Ul,Uk⟩:=hD2 hw
    have hd:decide (b.s<t)=false:=decide_eq_false hw
    have UL:((aU t (bs.take j)).length:Int)<(bs.length:Int):=by omega
    have hwc:IntKind.i64.wrap (((aU t (bs.take j)).length:Int)+1)=(((aU t (bs.take j)).length+1:Nat):Int):=aA (by omega)
    have eH:(R.map aB).set (aU t (bs.take j)).length [.int .i64 (b.a:Int),.int .i64 (b.b:Int),.int .i64 b.s]=(R.set (aU t (bs.take j)).length b).map aB:=by rw[List.map_set];rfl
    have Tg:∃y,(R.map aB)[(aU t (bs.take j)).length]? =some (aB y):=⟨R[(aU t (bs.take j)).length]'(by omega),by rw[List.getElem?_map,List.getElem?_eq_getElem (by omega)];rfl⟩
    obtain⟨y,Tg⟩:=Tg
    rw[aB]at Tg
    (try((repeat(revert hN;revert N;apply Pn.out));refine wk (tw @b0 (tw @b1 (tw @b5 (tw @b6 (tw @bg (tw @hd (tw @TB (tw @hwc (tw @UL (tw @eH (tw @Tg (tw @pW (tw @Vx @UC))))))))))))) ?_;(repeat(refine Pn.mk ?_;intro N hN))))
    refine⟨_,?_,j+1,_,rfl,sd @TB,sd (tw @hwc @Uk),sd @eH,Ul,by omega,by(try dsimp only);omega,fun x hx H7=>?_⟩
    ·omega
    ·have QD:=dr (i:=x) (n:=st_b.next) (by omega)
     have:=jz x hx H7
     simp only[go_sem, ↓reduceIte,Nat.reduceEqDiff,Nat.reduceAdd,Nat.reduceSub,Nat.reduceLeDiff,reduceCtorEq,QD,this,H7]
  ·have iq:j=bs.length:=by omega
   subst iq
   have uD:=hD.pre
   rw[List.take_length]at b5 dZ uD
   have UL:((aU t bs).length:Int)<=(bs.length:Int):=by omega
   have Ta:(aU t bs).length<=bs.length:=by omega
   have qJ:(aU t bs).length+(bs.length-(aU t bs).length)=bs.length:=by omega
   have Ea:=ns t bs
   (try((repeat(revert hN;revert N;apply Pn.out));refine wk (tw @b0 (tw @b1 (tw @b5 (tw @b6 (tw @bg (tw @hj (tw @UC (tw @UL (tw @Ta (tw @qJ (tw @Nat.le_refl (tw @Nat.sub_zero (tw @Int.le_refl @pW))))))))))))) ?_;(repeat(refine Pn.mk ?_;intro N hN))))
   refine eX (.inl rfl) (vs:=[.own o 0 (aU t bs).length]) (sd @Nat.zero_add) ⟨_,rfl,by simp only[go_sem, ↓reduceIte,Nat.reduceEqDiff,Nat.reduceAdd,Nat.reduceSub,Nat.reduceLeDiff,reduceCtorEq];rfl,?_,?_,by(try dsimp only);omega,fun x hx H7=>?_⟩
   ·have hm:List.take (aU t bs).length (List.map aB R)=(aU t bs).map aB:=by rw[<-List.map_take,uD]
    rw[hm,List.append_assoc,List.take_append_of_le_length (by simp),List.take_of_length_le (by simp)]
   ·have hm:List.take (aU t bs).length (List.map aB R)=(aU t bs).map aB:=by rw[<-List.map_take,uD]
    rw[hm]
    simp only[List.length_append,List.length_map]
    omega
   ·have RZ:(x=o)=False:=by simp only[eq_iff_iff,iff_false];exact H7
    have:=jz x hx RZ
    simp only[go_sem, ↓reduceIte,Nat.reduceEqDiff,Nat.reduceAdd,Nat.reduceSub,Nat.reduceLeDiff,reduceCtorEq,RZ,this]
 ·have hn:=Dy h0
  have dK:=uj (t:=t) (bs:=bs) fun b hb=>by simpa using hn b hb
  have hd:decide (kp (fun b:PB=>decide (b.s<t)) bs= -1)=true:=decide_eq_true (by
   unfold kp at h0 ⊢
   split
   ·rename_i h;rw[if_pos h]at h0;omega
   ·rfl)
  (try((repeat(revert hN;revert N;apply Pn.out));refine wk @hd ?_;(repeat(refine Pn.mk ?_;intro N hN))))
  refine eX (.inl rfl) (vs:=[.own o 0 bs.length]) (sd @Nat.zero_add) ⟨bs.map aB,by rw[dK];rfl,sd @ho,by rw[dK,List.take_of_length_le (by simp)],by rw[dK];simp,by(try dsimp only);omega,fun x _ _=>rfl⟩
end Go.Proofs.YtgoelphibofcmaaGreat.V

namespace Go.Proofs.YtgoelphibofcmaaGreat.V
open Go.RowKit
attribute [local irreducible] dO wpOps gy Call
attribute [local go_sem] aT fK eS ga fZ dj upd cF K.av cP AV.cells AV.cell rowOf rowsOf part ld rowAt bL cD dG ef ik bV de ew fW fe dw ek dc db dU dV cj bl cU b4 cW cV ei eo ej cR cm dd eh bW aV cZ cI ij bx cK ck bd du bj dI AV.undef bH bS dW eb dQ dP cJ ev eE cH er ep cY da List.getD_cons_zero List.getD_cons_succ List.getD_nil List.all_cons List.all_nil Bool.and_true Bool.true_and Bool.and_self Bool.not_true Bool.not_false Option.map_some Option.map_none Option.bind_some Option.bind_none List.length_cons List.length_nil List.take_succ_cons List.take_zero List.take_nil List.drop_succ_cons List.drop_zero List.drop_nil List.head?_cons List.map_cons List.map_nil List.getElem?_cons_zero List.getElem?_cons_succ List.cons_append List.nil_append List.append_nil List.length_map List.set_cons_zero List.set_cons_succ Nat.reduceMul eq_self Int.toNat_natCast Int.natCast_nonneg and_self true_and and_true decide_true decide_false Bool.false_eq_true Nat.zero_add Nat.add_zero List.contains_cons List.contains_nil Bool.or_false Bool.false_or beq_self_eq_true Nat.reduceBEq ne_eq not_true_eq_false not_false_eq_true Id.mk.injEq false_and and_false Nat.reduceLT Int.reduceLE Int.reduceLT Int.reduceToNat Int.reduceNeg Int.reduceAdd Nat.le_refl List.length_append beq_true beq_false Bool.not_eq_eq_eq_not or_false false_or dR ae aj aI bq bG cC aY bh aW bp cQ bJ
end Go.Proofs.YtgoelphibofcmaaGreat.V

namespace Go.Proofs.YtgoelphibofcmaaGreat.V
open Go.RowKit
attribute [local irreducible] dO wpOps gy Call
attribute [local go_sem] aT fK eS ga fZ dj upd cF K.av cP AV.cells AV.cell rowOf rowsOf part ld rowAt bL cD dG ef ik bV de ew fW fe dw ek dc db dU dV cj bl cU b4 cW cV ei eo ej cR cm dd eh bW aV cZ cI ij bx cK ck bd du bj dI AV.undef bH bS dW eb dQ dP cJ ev eE cH er ep cY da List.getD_cons_zero List.getD_cons_succ List.getD_nil List.all_cons List.all_nil Bool.and_true Bool.true_and Bool.and_self Bool.not_true Bool.not_false Option.map_some Option.map_none Option.bind_some Option.bind_none List.length_cons List.length_nil List.take_succ_cons List.take_zero List.take_nil List.drop_succ_cons List.drop_zero List.drop_nil List.head?_cons List.map_cons List.map_nil List.getElem?_cons_zero List.getElem?_cons_succ List.cons_append List.nil_append List.append_nil List.length_map List.set_cons_zero List.set_cons_succ Nat.reduceMul eq_self Int.toNat_natCast Int.natCast_nonneg and_self true_and and_true decide_true decide_false Bool.false_eq_true Nat.zero_add Nat.add_zero List.contains_cons List.contains_nil Bool.or_false Bool.false_or beq_self_eq_true Nat.reduceBEq ne_eq not_true_eq_false not_false_eq_true Id.mk.injEq false_and and_false Nat.reduceLT Int.reduceLE Int.reduceLT Int.reduceToNat Int.reduceNeg Int.reduceAdd Nat.le_refl List.length_append beq_true beq_false Bool.not_eq_eq_eq_not or_false false_or dR ae aj aI bq bG cC aY bh aW bp cQ bJ
end Go.Proofs.YtgoelphibofcmaaGreat.V

namespace Go.Proofs.YtgoelphibofcmaaGreat.V
open Go.RowKit Go.Shelf
attribute [local go_sem] Oper.semAt_some
structure pQ (W:World) (v:Value) (l:List ad):Prop where
 sl:∃A c,v=.slice A l.length c/\(l.length<=c/\c<=maxLen)/\(l=[]∨∃b o,A=some ⟨b,o,none⟩/\∀i,i<l.length->W.cell? ⟨b,o+(i*3+0),none⟩=some (.int .i64 (aD l i).aQ.fb)/\W.cell? ⟨b,o+(i*3+1),none⟩=some (.int .i64 (aD l i).aQ.eV)/\W.cell? ⟨b,o+(i*3+2),none⟩=some (.int .i64 (aD l i).aO))
structure Il (K:World->World->Prop) (v:Value) (l:List ad):Prop where
 refl:∀W,K W W
 trans:∀{A B C:World},K A B->K B C->K A C
 of:∀{W W':World},Below W.heap.size W W'->K W W'
 size:∀{W W':World},K W W'->W.heap.size<=W'.heap.size
 typed:∀{W W':World},K W W'->∀(b:Nat) (cells:Array Value) (T:TypeId) (fr:Nat×Nat),W.heap[b]? =some (Obj.cells cells T fr)->T≠226->T≠246->W'.heap[b]? =W.heap[b]?
 pl:∀{W W':World},K W W'->pQ W v l->pQ W' v l
theorem uL {W:World} {b x:Nat} {v:Value} (h:W.cell? ⟨b,x,none⟩=some v):b<W.heap.size:=by
 rcases Nat.lt_or_ge b W.heap.size with h1|h1
 ·exact h1
 ·simp[World.cell?,Array.getElem?_eq_none h1]at h
theorem pQ.below {W W':World} {v:Value} {l:List ad} (h:pQ W v l) (k:Below W.heap.size W W'):pQ W' v l:=by
 obtain⟨A,c,rfl,hm,hc⟩:=h.sl
 refine⟨A,c,rfl,hm,?_⟩
 rcases hc with h0|⟨b,o,rfl,kC⟩
 ·exact .inl h0
 ·refine .inr ⟨b,o,rfl,fun i hi=>?_⟩
  obtain⟨h1,h2,h3⟩:=kC i hi
  have hb:=uL h1
  exact⟨(k.cell (p:=⟨b,_,none⟩) hb).trans h1,(k.cell (p:=⟨b,_,none⟩) hb).trans h2,(k.cell (p:=⟨b,_,none⟩) hb).trans h3⟩
theorem pQ.eT {P:Program} {W:World} {v:Value} {l:List ad} (h:pQ W v l):jQ P W (fun b=>b<W.heap.size) (.sl (l.map aa)) v:=by
 obtain⟨A,c,rfl,hm,hc⟩:=h.sl
 rcases hc with rfl|⟨b,o,rfl,kC⟩
 ·exact .AR A c (by simpa using hm.2)
 by_cases Nk:l=[]
 ·subst Nk;exact .AR _ c (by simpa using hm.2)
 ·have kz:0<l.length:=List.length_pos_iff.2 Nk
  have hb:=uL (kC 0 kz).1
  refine .sl (l.map aa) b o l.length c 3 (fun i j=>if j=0 then .int .i64 (aD l i).aQ.fb else if j=1 then .int .i64 (aD l i).aQ.eV else .int .i64 (aD l i).aO) (by simp) hm.1 hm.2 hb (fun cs dy=>?_) (fun cs dy a ha=>?_) (fun i j hi hj=>?_) (fun i j cs a hi hj=>?_)
  ·obtain⟨x,_,rfl⟩:=List.mem_map.1 dy;rfl
  ·obtain⟨x,_,rfl⟩:=List.mem_map.1 dy
   simp[aa]at ha
   rcases ha with rfl|rfl|rfl<;>rfl
  ·obtain⟨h1,h2,h3⟩:=kC i hi
   match j,hj with
   |0,_=>exact h1
   |1,_=>exact h2
   |2,_=>exact h3
   |j+3,hj=>omega
  ·have kN:i<l.length:=by have:=(List.getElem?_eq_some_iff.1 hi).1;simpa using this
   rw[fE kN]at hi
   injection hi with hi
   subst hi
   match j,hj with
   |0,hj=>simp[aa]at hj;subst hj;exact .int _ _
   |1,hj=>simp[aa]at hj;subst hj;exact .int _ _
   |2,hj=>simp[aa]at hj;subst hj;exact .int _ _
   |j+3,hj=>simp[aa]at hj
theorem Bd {P:Program} (hm:P.follows .mixedOrders=true) {f:Nat} {args:List AV} {vs:Array Value} {w:World} {r:AV} (h:aq P f args r) (hr:∀g r0,gG g 6 r0=some r->r0=r) (hA:fy P w (fun b=>b<w.heap.size) (fun _=>none) args vs):
  Calls P f vs w fun e w'=>∃D ι u,e=.returned u/\cL P w' D ι r u/\Below w.heap.size w w':=by
 have hs:=gC hm (h 0) w.heap.size (fun b=>b<w.heap.size) (fun _=>none) w vs ⟨Nat.le_refl _,fun _ h=>h,fun id r h=>(by cases h),fun id j5 r r' B B' h=>(by cases h)⟩ (fun id h=>absurd rfl h) hA
 refine hs.mono ?_
 rintro e w' ⟨r0,g',n',D',ι',u,rfl,⟨r',hz,rfl⟩,dK,hsim,_,_,gS⟩
 have:=hr _ _ hz
 subst this
 exact⟨D',ι',u,rfl,gS,dK.below⟩
theorem oL {g:Rows} {n:Nat} {a:AV} {k:IntKind} {m:Int} (h:gG g (n+1) a=some (.int k m)):a=.int k m:=by
 cases a<;>rw[gG]at h<;>simp_all
 all_goals (repeat' (split at h))<;>simp_all
theorem DJ {g:Rows} {a:AV} {x y:Int} (h:gG g 6 a=some (.agg [.int .i64 x,.int .i64 y])):a=.agg [.int .i64 x,.int .i64 y]:=by
 cases a with
 |agg cs=>
  rw[uQ]at h
  simp only[Option.map_eq_some_iff,AV.agg.injEq,exists_eq_right]at h
  match cs,h with
  |[],h=>rw[cr]at h;simp at h
  |[a],h=>
   rw[bw,cr]at h
   cases ha:gG g 5 a<;>simp[ha]at h
  |[a,b],h=>
   rw[bw,bw,cr]at h
   cases ha:gG g 5 a<;>cases hb:gG g 5 b<;>simp[ha,hb]at h
   obtain⟨rfl,rfl⟩:=h
   rw[oL ha,oL hb]
  |a::b::c::r,h=>
   rw[bw,bw,bw]at h
   cases ha:gG g 5 a<;>cases hb:gG g 5 b<;>cases hc:gG g 5 c<;>cases hd:eD g 5 r<;>simp[ha,hb,hc,hd]at h
 |_=>rw[gG]at h<;>simp_all<;>(repeat' (split at h))<;>simp_all
theorem ES (W:World) (p:aL) (d:Int) (hd:jc d 0 3=true) (hx:iB p.fb) (hy:iB p.eV):Calls Tryz.prog 149 #[.agg #[.int .i64 p.fb,.int .i64 p.eV],.int .i64 d] W fun e W'=>e=.returned (.agg #[.int .i64 (dp p d).fb,.int .i64 (dp p d).eV])/\Below W.heap.size W W':=by
 refine(Bd mixed (Ap p d hd hx hy) (fun g r0 h=>DJ h) ?_:Calls _ _ _ _ _).mono ?_
 ·exact mz (vs:= #[.int .i64 d]) (.agg _ _ (fun j=>if j=0 then .int .i64 p.fb else .int .i64 p.eV) rfl (fun a ha=>by simp[ah]at ha;rcases ha with rfl|rfl<;>rfl) (fun j hj=>by match j,hj with|0,_=>rfl|1,_=>rfl|j+2,hj=>simp[ah]at hj;omega) (fun j a ha=>by match j,ha with|0,ha=>simp[ah]at ha;subst ha;exact .int _ _|1,ha=>simp[ah]at ha;subst ha;exact .int _ _|j+2,ha=>simp[ah]at ha)) (mz (vs:= #[]) (.int _ _) w8)
 ·rintro e W' ⟨D,ι,u,rfl,hr,hB⟩
  refine⟨?_,hB⟩
  obtain⟨vs,f,rfl,fA,_,h1,h2⟩:=iV hr
  have v0:=h1 0 (by simp[ah])
  have v1:=h1 1 (by simp[ah])
  rw[dz (h2 0 _ rfl)]at v0
  rw[dz (h2 1 _ rfl)]at v1
  obtain⟨vl⟩:=vs
  match vl,fA with
  |[a,b],_=>
   simp at v0 v1
   rw[v0,v1]
theorem xZ (W:World) (l:List ad) (v:Value) (hP:pQ W v l) (p:aL) (hR:pR l) (LH:l.length<=1048576):Calls Tryz.prog 265 #[.agg #[v],.agg #[.int .i64 p.fb,.int .i64 p.eV]] W fun e W'=>e=.returned (.int .i64 (eR l p))/\Below W.heap.size W W':=by
 refine(Bd mixed (Hq l p hR LH) (fun g r0 h=>oL h) ?_:Calls _ _ _ _ _).mono ?_
 ·exact mz (vs:= #[.agg #[.int .i64 p.fb,.int .i64 p.eV]]) (.agg _ _ (fun _=>v) rfl (fun a ha=>by simp at ha;rw[ha];rfl) (fun j hj=>by match j,hj with|0,_=>rfl|j+1,hj=>simp at hj) (fun j a ha=>by match j,ha with|0,ha=>simp at ha;subst ha;exact hP.eT|j+1,ha=>simp at ha)) (mz (vs:= #[]) (.agg _ _ (fun j=>if j=0 then .int .i64 p.fb else .int .i64 p.eV) rfl (fun a ha=>by simp[ah]at ha;rcases ha with rfl|rfl<;>rfl) (fun j hj=>by match j,hj with|0,_=>rfl|1,_=>rfl|j+2,hj=>simp[ah]at hj;omega) (fun j a ha=>by match j,ha with|0,ha=>simp[ah]at ha;subst ha;exact .int _ _|1,ha=>simp[ah]at ha;subst ha;exact .int _ _|j+2,ha=>simp[ah]at ha)) w8)
 ·rintro e W' ⟨D,ι,u,rfl,hr,hB⟩
  exact⟨by rw[dz hr],hB⟩
theorem grown_of {W W':World} (h:Below W.heap.size W W'):W.grownBy W' none:=⟨h.os,h.tape,h.output,h.size,fun k hk _=>h.block k hk⟩
def Cm (l:List ad) (i:Nat) (d:Int):List (Nat×Nat×Int):=if 0<=eR l (dp (aD l i).aQ d)then[(i,(eR l (dp (aD l i).aQ d)).toNat,d)]else[]
def k7 (l:List ad) (i m:Nat):List (Nat×Nat×Int):=(List.range m).flatMap fun j:Nat=>Cm l i (1-(j:Int))
def ly (l:List ad) (n:Nat):List (Nat×Nat×Int):=(List.range n).flatMap fun i=>k7 l i 2
theorem mm (l:List ad) (n:Nat):ly l (n+1)=ly l n++k7 l n 2:=by simp[ly,List.range_succ]
theorem np (l:List ad) (i m:Nat):k7 l i (m+1)=k7 l i m++Cm l i (1-(m:Int)):=by simp[k7,List.range_succ]
theorem Pm (l:List ad) {k m:Nat} (hk:k<l.length) (hm:m<=2):ly l k++k7 l k m <+:ly l l.length:=by
 have h1:∀d,ly l k <+:ly l (k+d):=fun d=>by
  induction d with
  |zero=>exact List.prefix_refl _
  |succ d ih=>rw[<-Nat.add_assoc,mm l (k+d)];exact ih.trans (List.prefix_append _ _)
 have h2:∀d,ly l (k+1) <+:ly l (k+1+d):=fun d=>by
  induction d with
  |zero=>exact List.prefix_refl _
  |succ d ih=>rw[<-Nat.add_assoc,mm l (k+1+d)];exact ih.trans (List.prefix_append _ _)
 have h3:=h2 (l.length-(k+1))
 rw[show k+1+(l.length-(k+1))=l.length by omega,mm]at h3
 refine List.IsPrefix.trans ?_ h3
 have h4:k7 l k m <+:k7 l k 2:=by
  have:m=0∨m=1∨m=2:=by omega
  rcases this with rfl|rfl|rfl
  ·exact List.nil_prefix
  ·rw[np l k 1];exact List.prefix_append _ _
  ·exact List.prefix_refl _
 exact(List.prefix_append_right_inj _).2 h4
def QO (l:List ad) (x:Nat×Nat×Int):Prop:=x.1<l.length/\x.2.1<l.length/\(0<=x.2.2/\x.2.2<=1)
def Fu (x:Nat×Nat×Int):Array Value:= #[.agg #[.int .i64 (x.1:Int),.int .i64 (x.2.1:Int)],.int .i64 x.2.2]
theorem L4 (l:List ad) (p:aL) (h:0<l.length:=by omega):eR l p<(l.length:Int):=by
 unfold eR
 split<;>omega
theorem Sg (l:List ad) (hA:kQ l) (q Ba:Nat) (vS:Value) (K:World->World->Prop) (kl:Il K vS l) (J Jx:List (Nat×Nat×Int)->World->Prop) (n:Nat) (hn:1<=n)
  (hY:∀pre x W,J pre W->pre.length<(ly l l.length).length->QO l x->YieldAt Fence.wide (n-1) Tryz.prog q (Fu x) W fun e W'=>
   (e=.returned (.bool true)/\J (pre++[x]) W'/\K W W')∨(e=.returned (.bool false)/\Jx (pre++[x]) W'))
  (W:World) (hJ:AbidesFrom W.heap.size J) (Ol:W.heap[Ba]? =some (.cells #[vS] 41 (0,0))) (hP:pQ W vS l) (h0:J [] W):
  CallsIn Fence.wide n Tryz.prog 264 #[.func (.yield q) #[] #[],.pointer (some ⟨Ba,0,none⟩)] W fun e W'=>(∃v,e=.returned v)/\
   ((∃ys,ys=ly l l.length/\J ys W')∨(∃pre,pre <+:ly l l.length/\Jx pre W')):=by
 obtain⟨A,cp,rfl,_,_⟩:=hP.sl
 refine callsIn_of_wp Tryz.func264 rfl trivial ?_ rfl
 simp only[Tryz.ntmps264,List.size_toArray,List.length_cons,List.length_nil,Nat.reduceAdd,Nat.reduceSub,Array.replicate_succ,Array.replicate_zero,List.push_toArray,List.append_toArray,List.nil_append,List.cons_append]
 have jN:W.cell? ⟨Ba,0,none⟩=some (.slice A l.length cp):=by simp[World.cell?,Ol]
 gi_wp2
 gi_loopw [11] (fun i wr=>∃k:Nat,k<=l.length/\i=.int .i64 k/\J (ly l k) wr/\K W wr)
  (fun i _=>l.length-(intOf i).toNat)
 case atStart=>exact⟨0,Nat.zero_le _,rfl,h0,kl.refl _⟩
 case round=>
  obtain⟨k,hk,rfl,hJs,hKt⟩:=hrel
  by_cases dZ:k<l.length
  ·have dy:∃b o,A=some ⟨b,o,none⟩/\wr.cell? ⟨b,o+k*3,none⟩=some (.int .i64 (aD l k).aQ.fb)/\wr.cell? ⟨b,o+k*3+1,none⟩=some (.int .i64 (aD l k).aQ.eV)/\wr.cell? ⟨b,o+k*3+2,none⟩=some (.int .i64 (aD l k).aO):=by
    obtain⟨A',c',hv,_,hc⟩:=(kl.pl hKt hP).sl
    cases hv
    rcases hc with rfl|⟨b,o,rfl,kC⟩
    ·simp at dZ
    ·obtain⟨h1,h2,h3⟩:=kC k dZ
     exact⟨b,o,rfl,by simpa using h1,by rw[Nat.add_assoc];exact h2,by rw[Nat.add_assoc];exact h3⟩
   obtain⟨b,o,rfl,hx,hy',ht⟩:=dy
   gi_wp2
   obtain⟨W2,Re⟩:∃W2,(wr.alloc (.cells #[.int .i64 (aD l k).aQ.fb,.int .i64 (aD l k).aQ.eV,.int .i64 (aD l k).aO] 137)).alloc (.cells #[.int .i64 1,.int .i64 0] 2)=W2:=⟨_,rfl⟩
   have pU:Below wr.heap.size wr W2:=by rw[<-Re];exact((Below.refl _ wr).alloc (Nat.le_refl _) _).alloc (by simp) _
   have Ur:W2.heap[wr.heap.size]? =some (.cells #[.int .i64 (aD l k).aQ.fb,.int .i64 (aD l k).aQ.eV,.int .i64 (aD l k).aO] 137 (0,0)):=by
    rw[<-Re,Below.heap_alloc _ _ _ (by simp)];exact World.alloc_heap_new _ _
   have Uq:W2.heap[wr.heap.size+1]? =some (.cells #[.int .i64 1,.int .i64 0] 2 (0,0)):=by
    have:=World.alloc_heap_new (wr.alloc (.cells #[.int .i64 (aD l k).aQ.fb,.int .i64 (aD l k).aQ.eV,.int .i64 (aD l k).aO] 137)) (.cells #[.int .i64 1,.int .i64 0] 2)
    rw[World.size_alloc]at this
    rw[<-Re];exact this
   have Oy:K W W2:=kl.trans hKt (kl.of pU)
   have hJ2:J (ly l k++k7 l k 0) W2:=by
    have:=hJ _ _ _ none hJs (grown_of pU) (fun r h=>by cases h)
    simpa[k7]using this
   rw[Re]
   clear Re
   generalize wr=w1 at *
   gi_loopw [18] (fun j wr=>∃m:Nat,m<=2/\j=.int .i64 m/\J (ly l k++k7 l k m) wr/\K W2 wr)
    (fun j _=>2-(intOf j).toNat)
   case atStart=>exact⟨0,by omega,rfl,hJ2,kl.refl _⟩
   case round=>
    obtain⟨m,hm,rfl,hJm,Na⟩:=hrel
    have hm0:m=0∨m=1∨m=2:=by omega
    by_cases yE:m<2
    ·have hkd:=kl.typed Na _ _ _ _ Uq (by decide) (by decide)
     have LR:=kl.typed Na _ _ _ _ Ur (by decide) (by decide)
     have hka:=kl.typed (kl.trans Oy Na) _ _ _ _ Ol (by decide) (by decide)
     have cd:wr.cell? ⟨w1.heap.size+1,m,none⟩=some (.int .i64 (1-(m:Int))):=by
      rw[World.cell?_of_block hkd]
      rcases hm0 with rfl|rfl|rfl
      ·simp[World.cell?,Uq]
      ·simp[World.cell?,Uq]
      ·omega
     have ct0:wr.cell? ⟨w1.heap.size,0,none⟩=some (.int .i64 (aD l k).aQ.fb):=by rw[World.cell?_of_block LR];simp[World.cell?,Ur]
     have ct1:wr.cell? ⟨w1.heap.size,1,none⟩=some (.int .i64 (aD l k).aQ.eV):=by rw[World.cell?_of_block LR];simp[World.cell?,Ur]
     have ca:wr.cell? ⟨Ba,0,none⟩=some (.slice (some ⟨b,o,none⟩) l.length cp):=by rw[World.cell?_of_block hka];simp[World.cell?,Ol]
     have hPw:pQ wr (.slice (some ⟨b,o,none⟩) l.length cp) l:=kl.pl (kl.trans Oy Na) hP
     have hba:Ba<wr.heap.size:=by
      have h1:=(Array.getElem?_eq_some_iff.1 Ol).1
      have h2:=kl.size (kl.trans Oy Na)
      omega
     have hdm:jc (1-(m:Int)) 0 3=true:=iN (by omega)
     have D7:=oZ (hA.pt dZ)
     have QC:=fun w0=>ES w0 (aD l k).aQ (1-(m:Int)) hdm D7.1 D7.2
     have hPd:pQ wr.drew (.slice (some ⟨b,o,none⟩) l.length cp) l:=hPw.below ⟨rfl,rfl,rfl,Nat.le_refl _,fun _ _=>rfl⟩
     have cad:wr.drew.cell? ⟨Ba,0,none⟩=some (.slice (some ⟨b,o,none⟩) l.length cp):=ca
     have ctd0:wr.drew.cell? ⟨w1.heap.size,0,none⟩=some (.int .i64 (aD l k).aQ.fb):=ct0
     have ctd1:wr.drew.cell? ⟨w1.heap.size,1,none⟩=some (.int .i64 (aD l k).aQ.eV):=ct1
     have hfw:=hA.xx
     have Rz:=hA.Kl
     have Va:=mixed
     gi_wp2
     gi_region_with_o (first|(refine⟨trivial,?_⟩;gi_at_call 149;refine(callsIn_wide.2 (QC _)).mono ?_;rintro e w3 ⟨rfl,BD⟩;have ca3:=(BD.cell (p:=⟨Ba,0,none⟩) hba).trans cad)|(refine⟨trivial,?_⟩;gi_at_call 265;refine(callsIn_wide.2 (xZ _ l _ (hPd.below BD) (dp (aD l k).aQ (1-(m:Int))) Rz (by omega))).mono ?_;rintro e w4 ⟨rfl,hB4⟩))
     all_goals
      have Oj:Below wr.heap.size wr w4:=(show Below wr.heap.size wr wr.drew from⟨rfl,rfl,rfl,Nat.le_refl _,fun _ _=>rfl⟩).trans (BD.trans (hB4.mono BD.size))
      have hJ4:J (ly l k++k7 l k m) w4:=hJ _ _ _ none hJm (grown_of Oj) (fun r h=>by cases h)
      have uD:=Pm l dZ (m:=m+1) (by omega)
      rw[np,<-List.append_assoc]at uD
      have s9:=np l k m
      have hw:wrap64 ((m:Int)+1)=((m+1:Nat):Int):=by unfold wrap64;omega
      by_cases zN:0<=eR l (dp (aD l k).aQ (1-(m:Int)))
      ·have fh:((eR l (dp (aD l k).aQ (1-(m:Int)))).toNat:Int)=eR l (dp (aD l k).aQ (1-(m:Int))):=by omega
       rw[Cm,if_pos zN]at uD s9
       obtain⟨fn,tmps,assign,body,hy,hR⟩:=hY _ (k,(eR l (dp (aD l k).aQ (1-(m:Int)))).toNat,1-(m:Int)) w4 hJ4 (by
        have:=uD.length_le
        simp only[List.length_append,List.length_cons,List.length_nil]at this ⊢
        omega) ⟨dZ,by
        have:eR l (dp (aD l k).aQ (1-(m:Int)))<(l.length:Int):=L4 _ _
        show(eR l (dp (aD l k).aQ (1-(m:Int)))).toNat<l.length
        omega,by show 0<=1-(m:Int);omega,by show 1-(m:Int)<=1;omega⟩
       simp only[Fu,fh]at hy
       gi_wp2
       refine hR.mono ?_
       rintro e W3 (⟨rfl,hJ3,hk3⟩|⟨rfl,hJx3⟩)
       ·gi_wp2
        go_roundw
        case rel=>exact⟨m+1,by omega,by simp,by rw[s9,<-List.append_assoc];exact hJ3,kl.trans (kl.trans Na (kl.of Oj)) hk3⟩
        case measure=>simp[intOf];omega
       ·gi_wp2
        refine bodyPost_ret (results_none rfl _ _ _) rfl ?_
        exact⟨⟨_,rfl⟩,.inr ⟨_,uD,hJx3⟩⟩
      ·rw[Cm,if_neg zN,List.append_nil]at s9
       gi_wp2
       refine⟨fun _ h=>(by cases h),?_⟩
       gi_wp2
       go_roundw
       case rel=>exact⟨m+1,by omega,by simp,by rw[s9];exact hJ4,kl.trans Na (kl.of Oj)⟩
       case measure=>simp[intOf];omega
    ·obtain rfl:m=2:=by omega
     have hfw:=hA.xx
     gi_wp2
     go_roundw
     case rel=>exact⟨k+1,by omega,by simp,by rw[mm];exact hJm,kl.trans Oy Na⟩
     case measure=>simp[intOf];omega
  ·obtain rfl:k=l.length:=by omega
   gi_wp2
   go_end0
   exact⟨⟨_,rfl⟩,.inl ⟨_,rfl,hJs⟩⟩
end Go.Proofs.YtgoelphibofcmaaGreat.V

namespace Go.Proofs.YtgoelphibofcmaaGreat.V
open Go.RowKit Go.Shelf
attribute [local go_sem] Oper.semAt_some
theorem z6 (n:Nat) (vS:Value) (w:World):CallsIn Fence.wide n Tryz.prog 244 #[.agg #[vS]] w fun e w'=>e=.returned (.func (.func 264) #[] #[.pointer (some ⟨w.heap.size,0,none⟩)])/\w'=w.alloc (.cells #[vS] 41):=by
 refine callsIn_of_wp Tryz.func244 rfl trivial ?_ rfl
 simp only[Tryz.ntmps244,List.size_toArray,List.length_cons,List.length_nil,Nat.reduceAdd,Nat.reduceSub,Array.replicate_succ,Array.replicate_zero,List.push_toArray,List.append_toArray,List.nil_append,List.cons_append]
 gi_wp2
 go_ret
 exact⟨rfl,rfl⟩
abbrev NO (l:List ad):Type:={x:Nat×Nat×Int // QO l x}
theorem JW (l:List ad) (hA:kQ l) (Ba n:Nat) (hn:1<=n) (vS:Value) (K:World->World->Prop) (kl:Il K vS l) (w:World) (Ol:w.heap[Ba]? =some (.cells #[vS] 41 (0,0))) (hP:pQ w vS l):
  SeqStopsK Fence.wide n Tryz.prog 264 #[.pointer (some ⟨Ba,0,none⟩)] (fun x:NO l=>Fu x.1) K (fun ys=>ys.map (·.1)=ly l l.length) (fun _=>True) (ly l l.length).length w:=fun q J Jx W hW hJ _ hY h0=>by
 refine(Sg l hA q Ba vS K kl (fun ys W=>∃zs:List (NO l),zs.map (·.1)=ys/\J zs W) (fun ys W=>∃zs:List (NO l),zs.map (·.1)=ys/\Jx zs W) n hn (fun pre x W1 hJ1 dZ wK=>?_) W (fun s A B row ⟨zs,e,h⟩ hg hr=>⟨zs,e,hJ zs A B row h hg hr⟩) ((hW.block Ba (Array.getElem?_eq_some_iff.1 Ol).1).trans Ol) (hP.below hW) ⟨[],rfl,h0⟩).mono ?_
 ·obtain⟨zs,rfl,h1⟩:=hJ1
  refine YieldAt.mono (hY zs ⟨x,wK⟩ W1 h1 (by simpa using dZ)) ?_
  rintro e W' (⟨h2,h3,h4⟩|⟨h2,h3⟩)
  ·exact .inl ⟨h2,⟨zs++[⟨x,wK⟩],by simp,h3⟩,h4⟩
  ·exact .inr ⟨h2,⟨zs++[⟨x,wK⟩],by simp,h3⟩⟩
 ·rintro e W' ⟨h1,⟨ys,rfl,zs,h2,h3⟩|⟨pre,_,zs,h2,h3⟩⟩
  ·exact⟨h1,.inl ⟨zs,h2,h3⟩⟩
  ·exact⟨h1,.inr ⟨zs,trivial,h3⟩⟩
def zw (s:aw) (l:List ad) (x:Nat×Nat×Int):List PB:=if 0<gp s (aD l x.1).aO x.2.2 (aD l x.2.1).aO then[⟨x.1,x.2.1,gp s (aD l x.1).aO x.2.2 (aD l x.2.1).aO⟩]else[]
theorem II (s:aw) (l:List ad):dh s l=(ly l l.length).flatMap (zw s l):=by
 have h1:∀i d,mY s l i d=(Cm l i d).flatMap (zw s l):=fun i d=>by
  unfold mY Cm
  by_cases h:0<=eR l (dp (aD l i).aQ d)
  ·rw[if_pos h]
   simp only[List.flatMap_cons,List.flatMap_nil,List.append_nil,zw]
   by_cases h2:0<gp s (aD l i).aO d (aD l (eR l (dp (aD l i).aQ d)).toNat).aO
   ·rw[if_pos ⟨h,h2⟩,if_pos h2]
   ·rw[if_neg fun hc=>h2 hc.2,if_neg h2]
  ·rw[if_neg h,if_neg fun hc=>h hc.1];rfl
 unfold dh gV ly
 rw[List.flatMap_assoc]
 congr 1
 funext i
 unfold gq k7
 rw[List.flatMap_assoc]
 congr 1
 funext j
 exact h1 i _
end Go.Proofs.YtgoelphibofcmaaGreat.V

namespace Go.Proofs.YtgoelphibofcmaaGreat.V
open Go.RowKit
attribute [local irreducible] dO wpOps gy Call
attribute [local go_sem] aT fK eS ga fZ dj upd cF K.av cP AV.cells AV.cell rowOf rowsOf part ld rowAt bL cD dG ef ik bV de ew fW fe dw ek dc db dU dV cj bl cU b4 cW cV ei eo ej cR cm dd eh bW aV cZ cI ij bx cK ck bd du bj dI AV.undef bH bS dW eb dQ dP cJ ev eE cH er ep cY da List.getD_cons_zero List.getD_cons_succ List.getD_nil List.all_cons List.all_nil Bool.and_true Bool.true_and Bool.and_self Bool.not_true Bool.not_false Option.map_some Option.map_none Option.bind_some Option.bind_none List.length_cons List.length_nil List.take_succ_cons List.take_zero List.take_nil List.drop_succ_cons List.drop_zero List.drop_nil List.head?_cons List.map_cons List.map_nil List.getElem?_cons_zero List.getElem?_cons_succ List.cons_append List.nil_append List.append_nil List.length_map List.set_cons_zero List.set_cons_succ Nat.reduceMul eq_self Int.toNat_natCast Int.natCast_nonneg and_self true_and and_true decide_true decide_false Bool.false_eq_true Nat.zero_add Nat.add_zero List.contains_cons List.contains_nil Bool.or_false Bool.false_or beq_self_eq_true Nat.reduceBEq ne_eq not_true_eq_false not_false_eq_true Id.mk.injEq false_and and_false Nat.reduceLT Int.reduceLE Int.reduceLT Int.reduceToNat Int.reduceNeg Int.reduceAdd Nat.le_refl List.length_append beq_true beq_false Bool.not_eq_eq_eq_not or_false false_or dR ae aj aI bq bG cC aY bh aW bp cQ bJ
def Al (bs:List PB):AV:=if bs=[]then .bE else .sl (bs.map aB)
theorem MI:Al []=.bE:=rfl
theorem Am {bs:List PB} (h:0<bs.length):Al bs=.sl (bs.map aB):=by
 unfold Al
 rw[if_neg (by rintro rfl;simp at h)]
theorem xN (cnt:Nat) (rN:1<=cnt) (hn:cnt<=1048576) (bs:List PB) (hb:∀b∈bs,b.a<cnt/\b.b<cnt) (hp:0<bs.length) (qe:bs.length<=1048576) (t:Int):aq Tryz.prog 221 [.int .i64 cnt,.sl (bs.map aB),.int .i64 t] (.gE [.int .i64 (leads cnt (eJ (aU t bs))).length,Al (dB (eJ (aU t bs)) bs)]):=by
 refine aq.body eK rfl fun hl n0=>?_
 clear hl
 (try((repeat(revert hN;revert N;apply Pn.out));refine wk @Nat.zero_add ?_;(repeat(refine Pn.mk ?_;intro N hN))))
 refine .inr (aJ _ _ _ _ _ (fun r σ1 hq=>?_) (IL bs hp qe _))
 obtain⟨o,rfl,ho,LX,Jp,GL⟩:=hq
 (try dsimp only at ho LX Jp GL)
 refine hN _ _ ?_
 clear hN N
 (try((repeat(revert hN;revert N;apply Pn.out));refine wk @Nat.zero_add ?_;(repeat(refine Pn.mk ?_;intro N hN))))
 refine .inr (aJ _ _ _ _ _ (fun r σ2 hq=>?_) (Gy bs t qe o ⟨221000000,n0⟩ _ ho (by rw[GL _ (by(try dsimp only);omega)];simp only[go_sem, ↓reduceIte,Nat.reduceEqDiff,Nat.reduceAdd,Nat.reduceSub,Nat.reduceLeDiff,reduceCtorEq]) (by(try dsimp only);omega) (by(try dsimp only);omega) (by rintro rfl;simp only at LX;omega)))
 obtain⟨rows,rfl,fY,hrt,qI,nh,DR⟩:=hq
 (try dsimp only at nh DR)
 refine hN _ _ ?_
 clear hN N
 have HZ:=wD cnt rN hn (aU t bs) (fun b h=>hb b (xk h)) (by have:=ns t bs;omega)
 have hL:=uc (aU t bs)
 have hz:∀x,dn (dR σ2.get) 6 [.int .i64 x,.own o 0 (aU t bs).length]=some [.int .i64 x,.sl ((aU t bs).map aB)]:=fun x=>by
  have:V.fz (dR σ2.get) 6 (.own o 0 (aU t bs).length)=some (.sl ((aU t bs).map aB)):=by
   rw[iG];simp only[dR,fY,Option.map_some,if_true]
   rw[if_pos (by omega),List.drop_zero,hrt,qz fun b=>zF _ 4 b];rfl
  simp only[ae,aj,aI,this,Option.map_some]
 (try((repeat(revert hN;revert N;apply Pn.out));refine wk @Nat.zero_add ?_;(repeat(refine Pn.mk ?_;intro N hN))))
 refine .inl ⟨_,aq.x HZ (hz _),?_⟩
 refine hN _ _ ?_
 clear hN N
 generalize eJ (aU t bs)=L at *
 have s7:((fF cnt L).map AM).length=(leads cnt L).length:=by simp[fF]
 have Tm:=jU cnt L
 have jN:(0:Int)<=(cnt:Int):=by omega
 have mN:(cnt:Int)<=((16777216:Nat):Int):=by omega
 have gS:List.replicate cnt [AV.int .i64 0]=dM (dm cnt L 0 0) cnt:=by rw[xp,oQ]
 (try((repeat(revert hN;revert N;apply Pn.out));refine wk (tw @jN (tw @mN (tw @Int.le_refl (tw @s7 @gS)))) ?_;(repeat(refine Pn.mk ?_;intro N hN))))
 refine aZ (fun n env st=>∃i:Nat,n=((leads cnt L).length)-i/\i<=((leads cnt L).length)/\env 27=.int .i64 (i:Int)/\st.get ⟨221002001,σ2.next+1⟩=some ⟨true,1,dM (dm cnt L i 0) cnt⟩/\(σ2.next+1<st.next)) ((leads cnt L).length) ⟨0,by omega,by omega,sl (tw @gS @s7),sl (tw @gS @s7),(by(try dsimp only);omega)⟩ ?_
 rintro n_c env_c st_c ⟨i,rfl,cle,c27,cg0,cI0⟩ cfr
 have c1:=cfr 1 (by kernel_rfl);have c8:=cfr 8 (by kernel_rfl);have c9:=cfr 9 (by kernel_rfl);have xJ:=cfr 25 (by kernel_rfl);have xK:=cfr 26 (by kernel_rfl)
 simp only[go_sem, ↓reduceIte,Nat.reduceEqDiff,Nat.reduceAdd,Nat.reduceSub,Nat.reduceLeDiff,reduceCtorEq,gS,s7]at c1 c8 c9 xJ xK
 clear cfr
 by_cases hi:(i:Int)<((leads cnt L).length:Int)
 ·have iv:∀{e:Env} {gg:Rows} {nx:Nat},(e 27=.int .i64 (IntKind.i64.wrap ((i:Int)+1)))->(gg ⟨221002001,σ2.next+1⟩=some ⟨true,1,dM (dm cnt L (i+1) 0) cnt⟩)->(σ2.next+1<nx)->∃m0,m0<((leads cnt L).length)-i/\∃i:Nat,m0=((leads cnt L).length)-i/\i<=((leads cnt L).length)/\e 27=.int .i64 (i:Int)/\gg ⟨221002001,σ2.next+1⟩=some ⟨true,1,dM (dm cnt L i 0) cnt⟩/\(σ2.next+1<nx):=fun x1 x2 x3=>⟨_,by omega,i+1,rfl,by omega,(by rw[x1,aA (by omega)]),x2,x3⟩
  have fh:i<(leads cnt L).length:=by omega
  have jl:((fF cnt L).map AM)[i]? =some (AM (members cnt L (leads cnt L)[i])):=by simp[fF,fh]
  have sI:(leads cnt L).getD i 0=(leads cnt L)[i]:=by simp[List.getD_eq_getElem?_getD,fh]
  have lr:∀m,dm cnt L i m=fun x=>if cq L x<i then cq L x else if x∈(members cnt L (leads cnt L)[i]).take m then i else 0:=fun m=>by unfold dm;rw[sI]
  have rM:=fun x (hx:x<cnt)=>tj hL (n:=cnt) (k:=x) (i:=i) hx fh
  have mh:(members cnt L (leads cnt L)[i]).Nodup:=List.nodup_range.filter _
  have OP:∀x∈members cnt L (leads cnt L)[i],x<cnt:=fun x hx=>(lL.1 hx).1
  have hMc:(members cnt L (leads cnt L)[i]).length<=cnt:=by
   have:=List.length_filter_le (fun k=>L k==(leads cnt L)[i]) (List.range cnt)
   simpa[members]using this
  generalize members cnt L (leads cnt L)[i]=M at *
  have CU:(M.map eN).length=M.length:=by simp
  (try((repeat(revert hN;revert N;apply Pn.out));refine wk (tw @c27 (tw @cg0 (tw @c1 (tw @c8 (tw @c9 (tw @xJ (tw @xK (tw @hi (tw @s7 (tw @jl (tw @AM.eq_1 @CU))))))))))) ?_;(repeat(refine Pn.mk ?_;intro N hN))))
  refine aZ (fun n env st=>∃m:Nat,n=(M.length)-m/\m<=(M.length)/\env 34=.int .i64 (m:Int)/\st.get ⟨221002001,σ2.next+1⟩=some ⟨true,1,dM (dm cnt L i m) cnt⟩/\(σ2.next+1<st.next)) (M.length) ⟨0,by omega,by omega,sl (tw @c27 (tw @cg0 (tw @c1 (tw @c8 (tw @c9 (tw @xJ (tw @xK @CU))))))),sl (tw @c27 (tw @cg0 (tw @c1 (tw @c8 (tw @c9 (tw @xJ (tw @xK @CU))))))),(by(try dsimp only);omega)⟩ ?_
  rintro n_d env_d st_d ⟨m,rfl,dle,d34,dg0,dI0⟩ dfr
  have d1:=dfr 1 (by kernel_rfl);have d8:=dfr 8 (by kernel_rfl);have d9:=dfr 9 (by kernel_rfl);have d10:=dfr 10 (by kernel_rfl);have d25:=dfr 25 (by kernel_rfl);have d26:=dfr 26 (by kernel_rfl);have d27:=dfr 27 (by kernel_rfl);have d32:=dfr 32 (by kernel_rfl);have d33:=dfr 33 (by kernel_rfl)
  simp only[go_sem, ↓reduceIte,Nat.reduceEqDiff,Nat.reduceAdd,Nat.reduceSub,Nat.reduceLeDiff,reduceCtorEq,c27,cg0,c1,c8,c9,xJ,xK,CU]at d1 d8 d9 d10 d25 d26 d27 d32 d33
  clear dfr
  have tl:=gw (dm cnt L i m) cnt
  by_cases hm:(m:Int)<(M.length:Int)
  ·have uf:∀{e:Env} {gg:Rows} {nx:Nat},(e 34=.int .i64 (IntKind.i64.wrap ((m:Int)+1)))->(gg ⟨221002001,σ2.next+1⟩=some ⟨true,1,dM (dm cnt L i (m+1)) cnt⟩)->(σ2.next+1<nx)->∃m0,m0<(M.length)-m/\∃m:Nat,m0=(M.length)-m/\m<=(M.length)/\e 34=.int .i64 (m:Int)/\gg ⟨221002001,σ2.next+1⟩=some ⟨true,1,dM (dm cnt L i m) cnt⟩/\(σ2.next+1<nx):=fun x1 x2 x3=>⟨_,by omega,m+1,rfl,by omega,(by rw[x1,aA (by omega)]),x2,x3⟩
   have zO:m<M.length:=by omega
   have wH:(M.map eN)[m]? =some (eN M[m]):=by simp[zO]
   have wM:=OP _ (List.getElem_mem zO)
   have C4:(M[m]:Int)<(cnt:Int):=by omega
   have C3:=fC (f:=dm cnt L i m) wM
   have eH:(dM (dm cnt L i m) cnt).set M[m] (eN i)=dM (dm cnt L i (m+1)) cnt:=pO wM (by
    have h1:=(rM _ wM).1 (List.getElem_mem zO)
    rw[lr]
    simp only[]
    rw[if_neg (by omega),if_pos (by rw[List.take_succ_eq_append_getElem zO];exact List.mem_append_right _ (List.mem_singleton.2 rfl))]) fun x hx gP=>by
    rw[lr,lr]
    simp only[]
    rw[List.take_succ_eq_append_getElem zO]
    simp only[List.mem_append,List.mem_singleton,gP,or_false]
   rw[eN]at eH C3
   generalize M[m]=xm at *
   (try((repeat(revert hN;revert N;apply Pn.out));refine wk (tw @d34 (tw @dg0 (tw @d1 (tw @d8 (tw @d9 (tw @d10 (tw @d25 (tw @d26 (tw @d27 (tw @d32 (tw @d33 (tw @hm (tw @hi (tw @wH (tw @CU (tw @C4 (tw @C3 (tw @tl (tw @eH @eN.eq_1))))))))))))))))))) ?_;(repeat(refine Pn.mk ?_;intro N hN))))
   refine uf ?_ ?_ (by(try dsimp only);omega)
   all_goals simp only[go_sem, ↓reduceIte,Nat.reduceEqDiff,Nat.reduceAdd,Nat.reduceSub,Nat.reduceLeDiff,reduceCtorEq,d34,dg0,d1,d8,d9,d10,d25,d26,d27,d32,d33,eH]
  ·have ke:m=M.length:=by omega
   subst ke
   have s9:dM (dm cnt L i M.length) cnt=dM (dm cnt L (i+1) 0) cnt:=im fun x hx=>by
    rw[lr,List.take_length]
    simp only[dm,List.take_zero,List.not_mem_nil,if_false]
    have h1:=rM x hx
    by_cases h2:cq L x<i
    ·rw[if_pos h2,if_pos (by omega)]
    ·rw[if_neg h2]
     by_cases h3:x∈M
     ·rw[if_pos h3,if_pos (by have:=h1.1 h3;omega),h1.1 h3]
     ·rw[if_neg h3,if_neg fun h4=>h3 (h1.2 (by omega))]
   (try((repeat(revert hN;revert N;apply Pn.out));refine wk (tw @d34 (tw @dg0 (tw @d1 (tw @d8 (tw @d9 (tw @d10 (tw @d25 (tw @d26 (tw @d27 (tw @d32 (tw @d33 (tw @hm (tw @hi (tw @s7 @CU)))))))))))))) ?_;(repeat(refine Pn.mk ?_;intro N hN))))
   refine iv ?_ ?_ (by(try dsimp only);omega)
   all_goals simp only[go_sem, ↓reduceIte,Nat.reduceEqDiff,Nat.reduceAdd,Nat.reduceSub,Nat.reduceLeDiff,reduceCtorEq,c27,cg0,c1,c8,c9,xJ,xK,d34,dg0,d1,d8,d9,d10,d25,d26,d27,d32,d33,s9]
 have kN:i=(leads cnt L).length:=by omega
 subst kN
 have uY:dM (dm cnt L (leads cnt L).length 0) cnt=dM (cq L) cnt:=im fun x hx=>by rw[dm,if_pos (ki hL hx)]
 rw[uY]at cg0
 have tl:=gw (cq L) cnt
 have S7:(bs.map aB).length=bs.length:=by simp
 (try((repeat(revert hN;revert N;apply Pn.out));refine wk (tw @c27 (tw @cg0 (tw @c1 (tw @c8 (tw @c9 (tw @xJ (tw @xK (tw @hi (tw @s7 @S7))))))))) ?_;(repeat(refine Pn.mk ?_;intro N hN))))
 have Ta:σ2.next+1<st_c.next:=cI0
 refine aZ (fun n env st=>∃j:Nat,n=(bs.length)-j/\j<=(bs.length)/\env 46=.int .i64 (j:Int)/\st.get ⟨221002001,σ2.next+1⟩=some ⟨true,1,dM (cq L) cnt⟩/\(st_c.next<=st.next/\((dB L (bs.take j)=[]/\env 14=.bE)∨∃p:Id,env 14=.own p 0 (dB L (bs.take j)).length/\st.get p=some ⟨true,3,(dB L (bs.take j)).map aB⟩/\st_c.next<=p.bQ/\p.bQ<st.next/\0<(dB L (bs.take j)).length))) (bs.length) ⟨0,by omega,by omega,sl (tw @c27 (tw @cg0 (tw @c1 (tw @c8 (tw @c9 (tw @xJ (tw @xK @S7))))))),sl (tw @c27 (tw @cg0 (tw @c1 (tw @c8 (tw @c9 (tw @xJ (tw @xK @S7))))))),⟨by(try dsimp only);omega,.inl ⟨rfl,by(simp only[go_sem, ↓reduceIte,Nat.reduceEqDiff,Nat.reduceAdd,Nat.reduceSub,Nat.reduceLeDiff,reduceCtorEq])⟩⟩⟩ ?_
 rintro n_f env_f st_f ⟨j,rfl,fle,f46,fg0,fI0⟩ ffr
 have f1:=ffr 1 (by kernel_rfl);have f8:=ffr 8 (by kernel_rfl);have f9:=ffr 9 (by kernel_rfl);have f44:=ffr 44 (by kernel_rfl);have f45:=ffr 45 (by kernel_rfl)
 simp only[go_sem, ↓reduceIte,Nat.reduceEqDiff,Nat.reduceAdd,Nat.reduceSub,Nat.reduceLeDiff,reduceCtorEq,c27,cg0,c1,c8,c9,xJ,xK,S7]at f1 f8 f9 f44 f45
 clear ffr
 obtain⟨Qq,fO⟩:=fI0
 have JA:=dr (i:=⟨221002001,σ2.next+1⟩) (n:=st_f.next) (by(try dsimp only);omega)
 have Ea:=(nr L (bs.take j)).1
 rw[List.length_take]at Ea
 by_cases hj:(j:Int)<(bs.length:Int)
 ·have r7:∀{e:Env} {gg:Rows} {nx:Nat},(e 46=.int .i64 (IntKind.i64.wrap ((j:Int)+1)))->(gg ⟨221002001,σ2.next+1⟩=some ⟨true,1,dM (cq L) cnt⟩)->(st_c.next<=nx/\((dB L (bs.take (j+1))=[]/\e 14=.bE)∨∃p:Id,e 14=.own p 0 (dB L (bs.take (j+1))).length/\gg p=some ⟨true,3,(dB L (bs.take (j+1))).map aB⟩/\st_c.next<=p.bQ/\p.bQ<nx/\0<(dB L (bs.take (j+1))).length))->∃m0,m0<(bs.length)-j/\∃j:Nat,m0=(bs.length)-j/\j<=(bs.length)/\e 46=.int .i64 (j:Int)/\gg ⟨221002001,σ2.next+1⟩=some ⟨true,1,dM (cq L) cnt⟩/\(st_c.next<=nx/\((dB L (bs.take j)=[]/\e 14=.bE)∨∃p:Id,e 14=.own p 0 (dB L (bs.take j)).length/\gg p=some ⟨true,3,(dB L (bs.take j)).map aB⟩/\st_c.next<=p.bQ/\p.bQ<nx/\0<(dB L (bs.take j)).length)):=fun x1 x2 x3=>⟨_,by omega,j+1,rfl,by omega,(by rw[x1,aA (by omega)]),x2,x3⟩
  have iH:j<bs.length:=by omega
  have HY:(bs.map aB)[j]? =some (aB bs[j]):=by simp[iH]
  have Nd:=hb _ (List.getElem_mem iH)
  have hs:=Ai L (bs.take j) bs[j]
  rw[<-List.take_succ_eq_append_getElem iH]at hs
  generalize bs[j]=b at *
  have hA:=fC (f:=cq L) Nd.1
  have hB:=fC (f:=cq L) Nd.2
  have gR:(b.a:Int)<(cnt:Int):=by omega
  have fX:(b.b:Int)<(cnt:Int):=by omega
  rw[eN]at hA hB
  have e1:(dB L (bs.take j)).length+1<=16777216:=by omega
  have ke:((dB L (bs.take j)).map aB).length=(dB L (bs.take j)).length:=by simp
  by_cases he:cq L b.a=cq L b.b
  ·rw[if_pos he,List.append_nil]at hs
   have uV:decide ((cq L b.a:Int)=(cq L b.b:Int))=true:=decide_eq_true (by rw[he])
   (try((repeat(revert hN;revert N;apply Pn.out));refine wk (tw @f46 (tw @fg0 (tw @f1 (tw @f8 (tw @f9 (tw @f44 (tw @f45 (tw @hj (tw @HY (tw @hA (tw @hB (tw @gR (tw @fX (tw @tl (tw @uV (tw @JA (tw @aB.eq_1 (tw @Bool.not_true @Bool.not_false)))))))))))))))))) ?_;(repeat(refine Pn.mk ?_;intro N hN))))
   refine r7 ?_ ?_ (by(try dsimp only);exact⟨by omega,by
    rw[hs]
    rcases fO with⟨h1,h2⟩|⟨p,h1,h2,h3,h4,h5⟩
    ·exact .inl ⟨h1,sd @h2⟩
    ·have AP:=dr h4
     exact .inr ⟨p,sd @h1,sd (tw @h2 @AP),h3,by omega,h5⟩⟩)
   all_goals simp only[go_sem, ↓reduceIte,Nat.reduceEqDiff,Nat.reduceAdd,Nat.reduceSub,Nat.reduceLeDiff,reduceCtorEq,f46,fg0,f1,f8,f9,f44,f45,JA]
  ·rw[if_neg he]at hs
   have uV:decide ((cq L b.a:Int)=(cq L b.b:Int))=false:=decide_eq_false fun h=>he (by omega)
   rcases fO with⟨h1,f14⟩|⟨p,f14,fg,OU,Jq,hp3⟩
   ·rw[h1]at hs
    (try((repeat(revert hN;revert N;apply Pn.out));refine wk (tw @f46 (tw @fg0 (tw @f1 (tw @f8 (tw @f9 (tw @f44 (tw @f45 (tw @f14 (tw @hj (tw @HY (tw @hA (tw @hB (tw @gR (tw @fX (tw @tl (tw @uV (tw @JA (tw @aB.eq_1 (tw @Bool.not_true @Bool.not_false))))))))))))))))))) ?_;(repeat(refine Pn.mk ?_;intro N hN))))
    refine r7 ?_ ?_ (by(try dsimp only);exact⟨by omega,.inr ⟨⟨221017015,st_f.next+1+1+1⟩,by rw[hs];simp only[go_sem, ↓reduceIte,Nat.reduceEqDiff,Nat.reduceAdd,Nat.reduceSub,Nat.reduceLeDiff,reduceCtorEq,List.nil_append,List.length_cons,List.length_nil],by rw[hs];simp only[go_sem, ↓reduceIte,Nat.reduceEqDiff,Nat.reduceAdd,Nat.reduceSub,Nat.reduceLeDiff,reduceCtorEq,aB,List.nil_append,List.map_cons,List.map_nil],by(try dsimp only);omega,by(try dsimp only);omega,by rw[hs];simp⟩⟩)
    all_goals simp only[go_sem, ↓reduceIte,Nat.reduceEqDiff,Nat.reduceAdd,Nat.reduceSub,Nat.reduceLeDiff,reduceCtorEq,f46,fg0,f1,f8,f9,f44,f45,JA]
   ·have x1:=bU (a:=⟨221002001,σ2.next+1⟩) (b:=p) (by(try dsimp only);omega)
    have AP:=dr Jq
    (try((repeat(revert hN;revert N;apply Pn.out));refine wk (tw @f46 (tw @fg0 (tw @f1 (tw @f8 (tw @f9 (tw @f44 (tw @f45 (tw @f14 (tw @fg (tw @hj (tw @HY (tw @hA (tw @hB (tw @gR (tw @fX (tw @tl (tw @uV (tw @x1 (tw @AP (tw @JA (tw @e1 (tw @ke (tw @aB.eq_1 (tw @Bool.not_true @Bool.not_false)))))))))))))))))))))))) ?_;(repeat(refine Pn.mk ?_;intro N hN))))
    refine r7 ?_ ?_ (by(try dsimp only);exact⟨by omega,.inr ⟨⟨221017015,st_f.next+1+1+1⟩,by rw[hs,List.length_append];simp only[go_sem, ↓reduceIte,Nat.reduceEqDiff,Nat.reduceAdd,Nat.reduceSub,Nat.reduceLeDiff,reduceCtorEq,List.length_cons,List.length_nil],by rw[hs,List.map_append,List.map_cons,List.map_nil];simp only[go_sem, ↓reduceIte,Nat.reduceEqDiff,Nat.reduceAdd,Nat.reduceSub,Nat.reduceLeDiff,reduceCtorEq,aB],by(try dsimp only);omega,by(try dsimp only);omega,by rw[hs];simp⟩⟩)
    all_goals simp only[go_sem, ↓reduceIte,Nat.reduceEqDiff,Nat.reduceAdd,Nat.reduceSub,Nat.reduceLeDiff,reduceCtorEq,f46,fg0,f1,f8,f9,f44,f45,x1,JA]
 ·have iq:j=bs.length:=by omega
  subst iq
  rw[List.take_length]at fO
  rcases fO with⟨h1,f14⟩|⟨p,f14,fg,OU,Jq,hp3⟩
  ·(try((repeat(revert hN;revert N;apply Pn.out));refine wk (tw @f46 (tw @fg0 (tw @f1 (tw @f8 (tw @f9 (tw @f44 (tw @f45 (tw @f14 (tw @hj @s7))))))))) ?_;(repeat(refine Pn.mk ?_;intro N hN))))
   refine jD (.inl rfl) (r1:=.int .i64 ((leads cnt L).length:Int)) (sd @Nat.zero_add) (by simp only[go_sem, ↓reduceIte,Nat.reduceEqDiff,Nat.reduceAdd,Nat.reduceSub,Nat.reduceLeDiff,reduceCtorEq];rfl) ?_
   simp only[eU,bw,cr,eu,jw,h1,MI,Option.map_some]
  ·(try((repeat(revert hN;revert N;apply Pn.out));refine wk (tw @f46 (tw @fg0 (tw @f1 (tw @f8 (tw @f9 (tw @f44 (tw @f45 (tw @f14 (tw @hj @s7))))))))) ?_;(repeat(refine Pn.mk ?_;intro N hN))))
   refine jD (.inl rfl) (r1:=.int .i64 ((leads cnt L).length:Int)) (sd @Nat.zero_add) (by simp only[go_sem, ↓reduceIte,Nat.reduceEqDiff,Nat.reduceAdd,Nat.reduceSub,Nat.reduceLeDiff,reduceCtorEq];rfl) ?_
   have h1:gG st_f.get 5 (.own p 0 (dB L bs).length)=some (.sl ((dB L bs).map aB)):=fw (sz:=3) fg rfl fun b=>uP _ 3 b
   simp only[eU,bw,cr,eu,h1,Am hp3,Option.map_some]
theorem xM (cnt:Nat) (rN:1<=cnt) (hn:cnt<=1048576) (t:Int):aq Tryz.prog 221 [.int .i64 cnt,.bE,.int .i64 t] (.gE [.int .i64 cnt,.bE]):=by
 refine aq.body eK rfl fun hl n0=>?_
 clear hl
 have h1:aq Tryz.prog 242 [.bE] .bE:=by
  refine aq.body eK rfl fun hl n0=>?_
  clear hl
  (try((repeat(revert hN;revert N;apply Pn.out));refine wk @Nat.zero_add ?_;(repeat(refine Pn.mk ?_;intro N hN))))
  exact xd (.inl rfl) (r0:=.bE) (sd @Nat.zero_add) (jw _ _)
 have h2:aq Tryz.prog 241 [.bE,.fn 243 [.dq [.int .i64 t]]] .bE:=by
  have GM:=(yJ [] t (by simp)).cut mixed (.bE (.same _ .nil))
  refine aq.body eK rfl fun hl n0=>?_
  clear hl
  (try((repeat(revert hN;revert N;apply Pn.out));refine wk @Nat.zero_add ?_;(repeat(refine Pn.mk ?_;intro N hN))))
  refine .inl ⟨_,aq.x GM (by simp only[ae,aj,aY,cQ,aW,List.all_cons,List.all_nil,AV.cell,Bool.and_true,if_true,Option.map_some]),?_⟩
  refine hN _ _ ?_
  clear hN N
  have hd:decide (kp (fun b:PB=>decide (b.s<t)) []= -1)=true:=rfl
  (try((repeat(revert hN;revert N;apply Pn.out));refine wk @hd ?_;(repeat(refine Pn.mk ?_;intro N hN))))
  exact xd (.inl rfl) (r0:=.bE) (sd @Nat.zero_add) (jw _ _)
 have HZ:=(wD cnt rN hn [] (fun b h=>by cases h) (by simp)).cut mixed (.same _ (.bE .nil))
 (repeat(first|((repeat(revert hN;revert N;apply Pn.out));refine wk @Nat.zero_add ?_;(repeat(refine Pn.mk ?_;intro N hN)))|((try apply Or.inl);refine⟨_,aq.x (h1) (sd @Nat.zero_add),?_⟩;refine hN _ _ ?_;clear hN N)))
 refine .inl ⟨_,aq.x h2 ?_,?_⟩
 ·have:V.fz (dR (bL (fun _=>none) ⟨221000000,n0⟩ ⟨true,1,[[.int .i64 t]]⟩)) 5 (.ptr ⟨221000000,n0⟩ 0 0)=some (.dq [.int .i64 t]):=wq (sz:=1) (rows:=[[.int .i64 t]]) (by simp[dR,bL]) rfl (by simp only[List.drop_zero,ae,aj,aI,Option.map_some])
  simp only[ae,aj,aY,cQ,this,List.all_cons,List.all_nil,AV.cell,Bool.and_true,if_true,Option.map_some]
 refine hN _ _ ?_
 clear hN N
 have fX:eJ ([]:List PB)=id:=rfl
 rw[fX]at HZ
 have hL:jL id:=fX▸uc ([]:List PB)
 have Qu:(leads cnt id).length=cnt:=by rw[leads,List.filter_eq_self.2 (fun a _=>by simp)];simp
 generalize (id:Nat->Nat)=L at *
 have s7:((fF cnt L).map AM).length=(leads cnt L).length:=by simp[fF]
 have Tm:=jU cnt L
 have jN:(0:Int)<=(cnt:Int):=by omega
 have mN:(cnt:Int)<=((16777216:Nat):Int):=by omega
 have gS:List.replicate cnt [AV.int .i64 0]=dM (dm cnt L 0 0) cnt:=by rw[xp,oQ]
 (repeat(first|((repeat(revert hN;revert N;apply Pn.out));refine wk (tw @jN (tw @mN (tw @Int.le_refl (tw @s7 @gS)))) ?_;(repeat(refine Pn.mk ?_;intro N hN)))|((try apply Or.inl);refine⟨_,aq.x (HZ) (sd (tw @jN (tw @mN (tw @Int.le_refl (tw @s7 @gS))))),?_⟩;refine hN _ _ ?_;clear hN N)))
 refine aZ (fun n env st=>∃i:Nat,n=((leads cnt L).length)-i/\i<=((leads cnt L).length)/\env 27=.int .i64 (i:Int)/\st.get ⟨221002001,n0+1+1⟩=some ⟨true,1,dM (dm cnt L i 0) cnt⟩/\(n0+1+1<st.next)) ((leads cnt L).length) ⟨0,by omega,by omega,sl (tw @gS @s7),sl (tw @gS @s7),(by(try dsimp only);omega)⟩ ?_
 rintro n_c env_c st_c ⟨i,rfl,cle,c27,cg0,cI0⟩ cfr
 have c1:=cfr 1 (by kernel_rfl);have c8:=cfr 8 (by kernel_rfl);have c9:=cfr 9 (by kernel_rfl);have xJ:=cfr 25 (by kernel_rfl);have xK:=cfr 26 (by kernel_rfl)
 simp only[go_sem, ↓reduceIte,Nat.reduceEqDiff,Nat.reduceAdd,Nat.reduceSub,Nat.reduceLeDiff,reduceCtorEq,gS,s7]at c1 c8 c9 xJ xK
 clear cfr
 by_cases hi:(i:Int)<((leads cnt L).length:Int)
 ·have iv:∀{e:Env} {gg:Rows} {nx:Nat},(e 27=.int .i64 (IntKind.i64.wrap ((i:Int)+1)))->(gg ⟨221002001,n0+1+1⟩=some ⟨true,1,dM (dm cnt L (i+1) 0) cnt⟩)->(n0+1+1<nx)->∃m0,m0<((leads cnt L).length)-i/\∃i:Nat,m0=((leads cnt L).length)-i/\i<=((leads cnt L).length)/\e 27=.int .i64 (i:Int)/\gg ⟨221002001,n0+1+1⟩=some ⟨true,1,dM (dm cnt L i 0) cnt⟩/\(n0+1+1<nx):=fun x1 x2 x3=>⟨_,by omega,i+1,rfl,by omega,(by rw[x1,aA (by omega)]),x2,x3⟩
  have fh:i<(leads cnt L).length:=by omega
  have jl:((fF cnt L).map AM)[i]? =some (AM (members cnt L (leads cnt L)[i])):=by simp[fF,fh]
  have sI:(leads cnt L).getD i 0=(leads cnt L)[i]:=by simp[List.getD_eq_getElem?_getD,fh]
  have lr:∀m,dm cnt L i m=fun x=>if cq L x<i then cq L x else if x∈(members cnt L (leads cnt L)[i]).take m then i else 0:=fun m=>by unfold dm;rw[sI]
  have rM:=fun x (hx:x<cnt)=>tj hL (n:=cnt) (k:=x) (i:=i) hx fh
  have mh:(members cnt L (leads cnt L)[i]).Nodup:=List.nodup_range.filter _
  have OP:∀x∈members cnt L (leads cnt L)[i],x<cnt:=fun x hx=>(lL.1 hx).1
  have hMc:(members cnt L (leads cnt L)[i]).length<=cnt:=by
   have:=List.length_filter_le (fun k=>L k==(leads cnt L)[i]) (List.range cnt)
   simpa[members]using this
  generalize members cnt L (leads cnt L)[i]=M at *
  have CU:(M.map eN).length=M.length:=by simp
  (try((repeat(revert hN;revert N;apply Pn.out));refine wk (tw @c27 (tw @cg0 (tw @c1 (tw @c8 (tw @c9 (tw @xJ (tw @xK (tw @hi (tw @s7 (tw @jl (tw @AM.eq_1 @CU))))))))))) ?_;(repeat(refine Pn.mk ?_;intro N hN))))
  refine aZ (fun n env st=>∃m:Nat,n=(M.length)-m/\m<=(M.length)/\env 34=.int .i64 (m:Int)/\st.get ⟨221002001,n0+1+1⟩=some ⟨true,1,dM (dm cnt L i m) cnt⟩/\(n0+1+1<st.next)) (M.length) ⟨0,by omega,by omega,sl (tw @c27 (tw @cg0 (tw @c1 (tw @c8 (tw @c9 (tw @xJ (tw @xK @CU))))))),sl (tw @c27 (tw @cg0 (tw @c1 (tw @c8 (tw @c9 (tw @xJ (tw @xK @CU))))))),(by(try dsimp only);omega)⟩ ?_
  rintro n_d env_d st_d ⟨m,rfl,dle,d34,dg0,dI0⟩ dfr
  have d1:=dfr 1 (by kernel_rfl);have d8:=dfr 8 (by kernel_rfl);have d9:=dfr 9 (by kernel_rfl);have d10:=dfr 10 (by kernel_rfl);have d25:=dfr 25 (by kernel_rfl);have d26:=dfr 26 (by kernel_rfl);have d27:=dfr 27 (by kernel_rfl);have d32:=dfr 32 (by kernel_rfl);have d33:=dfr 33 (by kernel_rfl)
  simp only[go_sem, ↓reduceIte,Nat.reduceEqDiff,Nat.reduceAdd,Nat.reduceSub,Nat.reduceLeDiff,reduceCtorEq,c27,cg0,c1,c8,c9,xJ,xK,CU]at d1 d8 d9 d10 d25 d26 d27 d32 d33
  clear dfr
  have tl:=gw (dm cnt L i m) cnt
  by_cases hm:(m:Int)<(M.length:Int)
  ·have uf:∀{e:Env} {gg:Rows} {nx:Nat},(e 34=.int .i64 (IntKind.i64.wrap ((m:Int)+1)))->(gg ⟨221002001,n0+1+1⟩=some ⟨true,1,dM (dm cnt L i (m+1)) cnt⟩)->(n0+1+1<nx)->∃m0,m0<(M.length)-m/\∃m:Nat,m0=(M.length)-m/\m<=(M.length)/\e 34=.int .i64 (m:Int)/\gg ⟨221002001,n0+1+1⟩=some ⟨true,1,dM (dm cnt L i m) cnt⟩/\(n0+1+1<nx):=fun x1 x2 x3=>⟨_,by omega,m+1,rfl,by omega,(by rw[x1,aA (by omega)]),x2,x3⟩
   have zO:m<M.length:=by omega
   have wH:(M.map eN)[m]? =some (eN M[m]):=by simp[zO]
   have wM:=OP _ (List.getElem_mem zO)
   have C4:(M[m]:Int)<(cnt:Int):=by omega
   have C3:=fC (f:=dm cnt L i m) wM
   have eH:(dM (dm cnt L i m) cnt).set M[m] (eN i)=dM (dm cnt L i (m+1)) cnt:=pO wM (by
    have h1:=(rM _ wM).1 (List.getElem_mem zO)
    rw[lr]
    simp only[]
    rw[if_neg (by omega),if_pos (by rw[List.take_succ_eq_append_getElem zO];exact List.mem_append_right _ (List.mem_singleton.2 rfl))]) fun x hx gP=>by
    rw[lr,lr]
    simp only[]
    rw[List.take_succ_eq_append_getElem zO]
    simp only[List.mem_append,List.mem_singleton,gP,or_false]
   rw[eN]at eH C3
   generalize M[m]=xm at *
   (try((repeat(revert hN;revert N;apply Pn.out));refine wk (tw @d34 (tw @dg0 (tw @d1 (tw @d8 (tw @d9 (tw @d10 (tw @d25 (tw @d26 (tw @d27 (tw @d32 (tw @d33 (tw @hm (tw @hi (tw @wH (tw @CU (tw @C4 (tw @C3 (tw @tl (tw @eH @eN.eq_1))))))))))))))))))) ?_;(repeat(refine Pn.mk ?_;intro N hN))))
   refine uf ?_ ?_ (by(try dsimp only);omega)
   all_goals simp only[go_sem, ↓reduceIte,Nat.reduceEqDiff,Nat.reduceAdd,Nat.reduceSub,Nat.reduceLeDiff,reduceCtorEq,d34,dg0,d1,d8,d9,d10,d25,d26,d27,d32,d33,eH]
  ·have ke:m=M.length:=by omega
   subst ke
   have s9:dM (dm cnt L i M.length) cnt=dM (dm cnt L (i+1) 0) cnt:=im fun x hx=>by
    rw[lr,List.take_length]
    simp only[dm,List.take_zero,List.not_mem_nil,if_false]
    have h1:=rM x hx
    by_cases h2:cq L x<i
    ·rw[if_pos h2,if_pos (by omega)]
    ·rw[if_neg h2]
     by_cases h3:x∈M
     ·rw[if_pos h3,if_pos (by have:=h1.1 h3;omega),h1.1 h3]
     ·rw[if_neg h3,if_neg fun h4=>h3 (h1.2 (by omega))]
   (try((repeat(revert hN;revert N;apply Pn.out));refine wk (tw @d34 (tw @dg0 (tw @d1 (tw @d8 (tw @d9 (tw @d10 (tw @d25 (tw @d26 (tw @d27 (tw @d32 (tw @d33 (tw @hm (tw @hi (tw @s7 @CU)))))))))))))) ?_;(repeat(refine Pn.mk ?_;intro N hN))))
   refine iv ?_ ?_ (by(try dsimp only);omega)
   all_goals simp only[go_sem, ↓reduceIte,Nat.reduceEqDiff,Nat.reduceAdd,Nat.reduceSub,Nat.reduceLeDiff,reduceCtorEq,c27,cg0,c1,c8,c9,xJ,xK,d34,dg0,d1,d8,d9,d10,d25,d26,d27,d32,d33,s9]
 have kN:i=(leads cnt L).length:=by omega
 subst kN
 have uY:dM (dm cnt L (leads cnt L).length 0) cnt=dM (cq L) cnt:=im fun x hx=>by rw[dm,if_pos (ki hL hx)]
 rw[uY]at cg0
 have tl:=gw (cq L) cnt
 (try((repeat(revert hN;revert N;apply Pn.out));refine wk (tw @c27 (tw @cg0 (tw @c1 (tw @c8 (tw @c9 (tw @xJ (tw @xK (tw @hi @s7)))))))) ?_;(repeat(refine Pn.mk ?_;intro N hN))))
 refine aZ (fun n env st=>∃j:Nat,n=(0)-j/\j<=(0)/\env 46=.int .i64 (j:Int)/\env 14=.bE) (0) ⟨0,by omega,by omega,sl (tw @c27 (tw @cg0 (tw @c1 (tw @c8 (tw @c9 (tw @xJ @xK)))))),sl (tw @c27 (tw @cg0 (tw @c1 (tw @c8 (tw @c9 (tw @xJ @xK))))))⟩ ?_
 rintro n_f env_f st_f ⟨j,rfl,fle,f46,f14⟩ ffr
 have f8:=ffr 8 (by kernel_rfl);have f44:=ffr 44 (by kernel_rfl);have f45:=ffr 45 (by kernel_rfl)
 simp only[go_sem, ↓reduceIte,Nat.reduceEqDiff,Nat.reduceAdd,Nat.reduceSub,Nat.reduceLeDiff,reduceCtorEq,c27,cg0,c1,c8,c9,xJ,xK]at f8 f44 f45
 clear ffr
 have hj:¬(j:Int)<((0:Nat):Int):=by omega
 (try((repeat(revert hN;revert N;apply Pn.out));refine wk (tw @f46 (tw @f14 (tw @f8 (tw @f44 (tw @f45 (tw @hj @s7)))))) ?_;(repeat(refine Pn.mk ?_;intro N hN))))
 refine jD (.inl rfl) (r1:=.int .i64 ((leads cnt L).length:Int)) (r2:=.bE) (sd @Nat.zero_add) (sd @Nat.zero_add) ?_
 simp only[eU,bw,cr,eu,jw,Qu,Option.map_some]
theorem zC (cnt:Nat) (rN:1<=cnt) (hn:cnt<=1048576) (bs:List PB) (hb:∀b∈bs,b.a<cnt/\b.b<cnt) (qe:bs.length<=1048576) (t:Int):aq Tryz.prog 221 [.int .i64 cnt,Al bs,.int .i64 t] (.gE [.int .i64 (leads cnt (eJ (aU t bs))).length,Al (dB (eJ (aU t bs)) bs)]):=by
 cases bs with
 |nil=>
  have h:=xM cnt rN hn t
  have Qu:(leads cnt (eJ (aU t []))).length=cnt:=by
   show(leads cnt id).length=cnt
   rw[leads,List.filter_eq_self.2 (fun a _=>by simp)];simp
  rw[Qu]
  exact h
 |cons b r=>
  rw[Am (by simp)]
  exact xN cnt rN hn (b::r) hb (by simp) qe t
end Go.Proofs.YtgoelphibofcmaaGreat.V

namespace Go.Proofs.YtgoelphibofcmaaGreat.V
open Go.RowKit
attribute [local irreducible] dO wpOps gy Call
attribute [local go_sem] aT fK eS ga fZ dj upd cF K.av cP AV.cells AV.cell rowOf rowsOf part ld rowAt bL cD dG ef ik bV de ew fW fe dw ek dc db dU dV cj bl cU b4 cW cV ei eo ej cR cm dd eh bW aV cZ cI ij bx cK ck bd du bj dI AV.undef bH bS dW eb dQ dP cJ ev eE cH er ep cY da List.getD_cons_zero List.getD_cons_succ List.getD_nil List.all_cons List.all_nil Bool.and_true Bool.true_and Bool.and_self Bool.not_true Bool.not_false Option.map_some Option.map_none Option.bind_some Option.bind_none List.length_cons List.length_nil List.take_succ_cons List.take_zero List.take_nil List.drop_succ_cons List.drop_zero List.drop_nil List.head?_cons List.map_cons List.map_nil List.getElem?_cons_zero List.getElem?_cons_succ List.cons_append List.nil_append List.append_nil List.length_map List.set_cons_zero List.set_cons_succ Nat.reduceMul eq_self Int.toNat_natCast Int.natCast_nonneg and_self true_and and_true decide_true decide_false Bool.false_eq_true Nat.zero_add Nat.add_zero List.contains_cons List.contains_nil Bool.or_false Bool.false_or beq_self_eq_true Nat.reduceBEq ne_eq not_true_eq_false not_false_eq_true Id.mk.injEq false_and and_false Nat.reduceLT Int.reduceLE Int.reduceLT Int.reduceToNat Int.reduceNeg Int.reduceAdd Nat.le_refl List.length_append beq_true beq_false Bool.not_eq_eq_eq_not or_false false_or dR ae aj aI bq bG cC aY bh aW bp cQ bJ
attribute [local go_sem] Ga
section
attribute [-go_sem] dG
theorem Mo (n:Nat) (hn:n<=1048576):aq Tryz.prog 277 [.int .u64 1,.int .u64 n] (.gE [.int .u64 0,.int .u64 n]):=by
 refine aq.body eK rfl fun hl n0=>?_
 clear hl
 have b1:(BitVec.ofInt 64 (n:Int)&&& BitVec.ofInt 64 4294967295).toNat=n:=by
  rw[BitVec.toNat_and]
  have e1:(BitVec.ofInt 64 (n:Int)).toNat=n:=by rw[BitVec.toNat_ofInt];omega
  have e2:(BitVec.ofInt 64 4294967295).toNat=2 ^ 32-1:=by decide
  rw[e1,e2]
  exact Nat.and_two_pow_sub_one_of_lt_two_pow (by omega)
 have zn:IntKind.u64.wrap (n:Int)=n:=by rw[IntKind.wrap_u64];omega
 have i1:dG .and .u64 (n:Int) 4294967295=some (.int .u64 n):=by
  show some (AV.int .u64 (IntKind.u64.wrap (((BitVec.ofInt 64 (n:Int)&&& BitVec.ofInt 64 4294967295).toNat:Nat):Int)))= _
  rw[b1,zn]
 have i2:dG .and .u64 1 4294967295=some (.int .u64 1):=rfl
 have i3:dG .and .u64 0 4294967295=some (.int .u64 0):=rfl
 have i4:dG .mul .u64 1 (n:Int)=some (.int .u64 n):=by simp only[dG,Int.one_mul,zn]
 have i5:dG .mul .u64 0 (n:Int)=some (.int .u64 0):=by simp only[dG,Int.zero_mul];rfl
 have i6:dG .mul .u64 1 0=some (.int .u64 0):=rfl
 have i7:dG .mul .u64 0 0=some (.int .u64 0):=rfl
 have i8:dG .add .u64 0 0=some (.int .u64 0):=rfl
 have a3:Int.fdiv 1 (2 ^ min 32 64)=0:=by decide
 have a4:Int.fdiv (n:Int) (2 ^ min 32 64)=0:=by
  rw[Int.fdiv_eq_ediv_of_nonneg _ (by decide)]
  have h32:(2:Int) ^ min 32 64=4294967296:=by decide
  exact Int.ediv_eq_zero_of_lt (by omega) (by omega)
 have z1:Int.fdiv 0 (2 ^ min 32 64)=0:=by decide
 (try((repeat(revert hN;revert N;apply Pn.out));refine wk (tw @i1 (tw @i2 (tw @i3 (tw @i4 (tw @i5 (tw @i6 (tw @i7 (tw @i8 (tw @a3 (tw @a4 @z1)))))))))) ?_;(repeat(refine Pn.mk ?_;intro N hN))))
 refine jD (.inl rfl) (r1:=.int .u64 0) (r2:=.int .u64 n) (sd @Nat.zero_add) (sd @Nat.zero_add) ?_
 simp only[eU,bw,cr,eu,Option.map_some]
end
theorem Sf (n:Nat) (hn:n<=1048576):aq Tryz.prog 275 [.int .u64 1,.int .u64 n] (.gE [.int .u64 0,.int .u64 n]):=by
 refine aq.body eK rfl fun hl n0=>?_
 clear hl
 have h:=Mo n hn
 (repeat(first|((repeat(revert hN;revert N;apply Pn.out));refine wk @Nat.zero_add ?_;(repeat(refine Pn.mk ?_;intro N hN)))|((try apply Or.inl);refine⟨_,aq.x (h) (sd @Nat.zero_add),?_⟩;refine hN _ _ ?_;clear hN N)))
 refine jD (.inl rfl) (r1:=.int .u64 0) (r2:=.int .u64 n) (sd @Nat.zero_add) (sd @Nat.zero_add) ?_
 simp only[eU,bw,cr,eu,Option.map_some]
theorem Ki (cnt:Nat) (rN:1<=cnt) (hn:cnt<=1048576) (v:Int) (x:Id) (σ:ar) (hx:σ.get x=some ⟨true,1,[[.int .i64 v]]⟩) (Pd:x.bQ<σ.next):
  Call Tryz.prog 271 [.own x 0 1,.int .i64 cnt] σ fun r σ'=>∃o:Id,r=.own o 0 cnt/\σ'.get o=some ⟨true,1,List.replicate cnt [.int .i64 v]⟩/\σ.next<=o.bQ/\o.bQ<σ'.next/\∀i:Id,i.bQ<σ.next->σ'.get i=σ.get i:=by
 refine eQ eK rfl fun hl=>?_
 clear hl
 have h:=Sf cnt hn
 have w1:IntKind.u64.wrap (cnt:Int)=cnt:=by rw[IntKind.wrap_u64];omega
 have w2:IntKind.i64.wrap (cnt:Int)=cnt:=KV (by omega)
 have w0:IntKind.u64.wrap ((1:Nat):Int)=1:=by decide
 have g1:¬(cnt:Int)<0:=by omega
 have g2:¬(9223372036854775807:Int)<cnt:=by omega
 have jN:(0:Int)<=(cnt:Int):=by omega
 have mN:(cnt:Int)<=((16777216:Nat):Int):=by omega
 have QD:=dr Pd
 have qI:(List.replicate cnt [AV.int .i64 0]).length=cnt:=List.length_replicate
 have m1:min 1 cnt=1:=by omega
 (repeat(first|((repeat(revert hN;revert N;apply Pn.out));refine wk (tw @w0 (tw @w1 (tw @w2 (tw @g1 (tw @g2 (tw @jN (tw @mN (tw @Int.le_refl (tw @Nat.le_refl (tw @hx (tw @QD (tw @qI @m1)))))))))))) ?_;(repeat(refine Pn.mk ?_;intro N hN)))|((try apply Or.inl);refine⟨_,aq.x (h) (sd (tw @w0 (tw @w1 (tw @w2 (tw @g1 (tw @g2 (tw @jN (tw @mN (tw @Int.le_refl (tw @Nat.le_refl (tw @hx (tw @QD (tw @qI @m1))))))))))))),?_⟩;refine hN _ _ ?_;clear hN N)))
 refine aZ (fun m env st=>∃k:Nat,m=cnt-k/\1<=k/\k<=cnt/\env 8=.int .i64 (k:Int)/\st.get ⟨271006002,σ.next+1+1+1+1⟩=some ⟨true,1,List.replicate k [.int .i64 v]++List.replicate (cnt-k) [.int .i64 0]⟩/\σ.next+4<st.next/\∀i:Id,i.bQ<σ.next->st.get i=σ.get i) (cnt-1) ⟨1,rfl,Nat.le_refl _,rN,by(simp only[go_sem, ↓reduceIte,Nat.reduceEqDiff,Nat.reduceAdd,Nat.reduceSub,Nat.reduceLeDiff,reduceCtorEq,m1])<;>rfl,?_,by(try dsimp only);omega,fun i hi=>?_⟩ ?_
 ·simp only[go_sem, ↓reduceIte,Nat.reduceEqDiff,Nat.reduceAdd,Nat.reduceSub,Nat.reduceLeDiff,reduceCtorEq]
  rw[List.drop_replicate];rfl
 ·have Ec:=dr hi
  simp only[go_sem, ↓reduceIte,Nat.reduceEqDiff,Nat.reduceAdd,Nat.reduceSub,Nat.reduceLeDiff,reduceCtorEq,Ec]
 rintro m env_b st_b ⟨k,rfl,xC,wI,b8,bg,bn,fU⟩ bkp
 have b7:=bkp 7 (by kernel_rfl)
 simp only[go_sem, ↓reduceIte,Nat.reduceEqDiff,Nat.reduceAdd,Nat.reduceSub,Nat.reduceLeDiff,reduceCtorEq]at b7
 clear bkp
 have RK:(List.replicate k [AV.int .i64 v]++List.replicate (cnt-k) [AV.int .i64 0]).length=cnt:=by simp;omega
 by_cases hk:(k:Int)<(cnt:Int)
 ·have fM:k<cnt:=by omega
  have xz:(k:Int)<=(cnt:Int):=by omega
  have hw:IntKind.i64.wrap ((k:Int)+((min k (cnt-k):Nat):Int))=((k+min k (cnt-k):Nat):Int):=by rw[bI (by omega)];omega
  have nU:List.take k (List.replicate k [AV.int .i64 v]++List.replicate (cnt-k) [AV.int .i64 0])=List.replicate k [AV.int .i64 v]:=List.take_left' (by simp)
  have dC:(List.replicate k [AV.int .i64 v]).all (fun c=>c.length==1&&c.all AV.cell)=true:=List.all_eq_true.2 fun c hc=>by rw[List.eq_of_mem_replicate hc];rfl
  have hlr:(List.replicate k [AV.int .i64 v]).length=k:=List.length_replicate
  have O6:k+(cnt-k)=cnt:=by omega
  have wL:List.replicate k [AV.int .i64 v]++List.take (min k (cnt-k)) (List.replicate k [AV.int .i64 v])++List.drop (k+min k (cnt-k)) (List.replicate k [AV.int .i64 v]++List.replicate (cnt-k) [AV.int .i64 0])=List.replicate (k+min k (cnt-k)) [AV.int .i64 v]++List.replicate (cnt-(k+min k (cnt-k))) [AV.int .i64 0]:=by
   rw[List.take_replicate,List.drop_append,List.drop_of_length_le (by simp),List.nil_append,hlr,List.drop_replicate,List.replicate_append_replicate]
   congr 2
   ·omega
   ·omega
  (try((repeat(revert hN;revert N;apply Pn.out));refine wk (tw @b7 (tw @b8 (tw @bg (tw @RK (tw @hk (tw @xz (tw @wI (tw @hw (tw @fM (tw @Nat.sub_zero (tw @nU (tw @dC (tw @hlr (tw @O6 (tw @Nat.le_refl @wL))))))))))))))) ?_;(repeat(refine Pn.mk ?_;intro N hN))))
  refine⟨_,?_,k+min k (cnt-k),rfl,by omega,by omega,sd @hw,sd @wL,by(try dsimp only);omega,fun i hi=>?_⟩
  ·omega
  ·have Ec:=dr hi
   have:=fU i hi
   simp only[go_sem, ↓reduceIte,Nat.reduceEqDiff,Nat.reduceAdd,Nat.reduceSub,Nat.reduceLeDiff,reduceCtorEq,Ec,this]
 ·have l6:k=cnt:=by omega
  subst l6
  (try((repeat(revert hN;revert N;apply Pn.out));refine wk (tw @b7 (tw @b8 (tw @bg (tw @RK @hk)))) ?_;(repeat(refine Pn.mk ?_;intro N hN))))
  refine eX (.inl rfl) (vs:=[.own ⟨271006002,σ.next+1+1+1+1⟩ 0 k]) (sd @Nat.zero_add) ⟨⟨271006002,σ.next+1+1+1+1⟩,rfl,by simp only[go_sem, ↓reduceIte,Nat.reduceEqDiff,Nat.reduceAdd,Nat.reduceSub,Nat.reduceLeDiff,reduceCtorEq,bg];simp,by(try dsimp only);omega,by(try dsimp only);omega,fun i hi=>fU i hi⟩
end Go.Proofs.YtgoelphibofcmaaGreat.V

namespace Go.Proofs.YtgoelphibofcmaaGreat.V
open Go.RowKit
attribute [local irreducible] dO wpOps gy Call
attribute [local go_sem] aT fK eS ga fZ dj upd cF K.av cP AV.cells AV.cell rowOf rowsOf part ld rowAt bL cD dG ef ik bV de ew fW fe dw ek dc db dU dV cj bl cU b4 cW cV ei eo ej cR cm dd eh bW aV cZ cI ij bx cK ck bd du bj dI AV.undef bH bS dW eb dQ dP cJ ev eE cH er ep cY da List.getD_cons_zero List.getD_cons_succ List.getD_nil List.all_cons List.all_nil Bool.and_true Bool.true_and Bool.and_self Bool.not_true Bool.not_false Option.map_some Option.map_none Option.bind_some Option.bind_none List.length_cons List.length_nil List.take_succ_cons List.take_zero List.take_nil List.drop_succ_cons List.drop_zero List.drop_nil List.head?_cons List.map_cons List.map_nil List.getElem?_cons_zero List.getElem?_cons_succ List.cons_append List.nil_append List.append_nil List.length_map List.set_cons_zero List.set_cons_succ Nat.reduceMul eq_self Int.toNat_natCast Int.natCast_nonneg and_self true_and and_true decide_true decide_false Bool.false_eq_true Nat.zero_add Nat.add_zero List.contains_cons List.contains_nil Bool.or_false Bool.false_or beq_self_eq_true Nat.reduceBEq ne_eq not_true_eq_false not_false_eq_true Id.mk.injEq false_and and_false Nat.reduceLT Int.reduceLE Int.reduceLT Int.reduceToNat Int.reduceNeg Int.reduceAdd Nat.le_refl List.length_append beq_true beq_false Bool.not_eq_eq_eq_not or_false false_or dR ae aj aI bq bG cC aY bh aW bp cQ bJ
def lj (R:Nat->Id) (n k:Nat):List (List AV):=(List.range k).map fun i=>[.own (R i) 0 n]
theorem km (R:Nat->Id) (n k:Nat):(lj R n k).length=k:=by simp[lj]
theorem su {R:Nat->Id} {n k i:Nat} (h:i<k):(lj R n k)[i]? =some [.own (R i) 0 n]:=by simp[lj,h]
theorem tE (R:Nat->Id) (n k:Nat):lj R n (k+1)=lj R n k++[[.own (R k) 0 n]]:=by simp[lj,List.range_succ]
def yc (c:Nat->Nat->Int) (n:Nat):List (List AV):=(List.range n).map fun i=>[.sl (ee (c i) n)]
theorem CH {c:Nat->Nat->Int} {n i:Nat} (h:i<n):(yc c n)[i]? =some [.sl (ee (c i) n)]:=by simp[yc,h]
theorem xo (c:Nat->Nat->Int) (n:Nat):(yc c n).length=n:=by simp[yc]
structure Gh (X o1 o2:Id) (R1 R2:Nat->Id) (n nb:Nat):Prop where
 sx:X.site=245001001
 s1:o1.site=245004008
 s2:o2.site=245005008
 TI:∀i,i<n->(R1 i).site=245004006
 NF:∀i,i<n->(R2 i).site=245005006
 i1:∀i j,i<n->j<n->R1 i=R1 j->i=j
 i2:∀i j,i<n->j<n->R2 i=R2 j->i=j
 vx:X.bQ<nb
 v1:o1.bQ<nb
 v2:o2.bQ<nb
 TK:∀i,i<n->(R1 i).bQ<nb
 QM:∀i,i<n->(R2 i).bQ<nb
structure nL (g:Rows) (X o1 o2:Id) (R1 R2:Nat->Id) (n:Nat) (c f:Nat->Nat->Int):Prop where
 x:g X=some ⟨true,2,[[.own o1 0 n,.own o2 0 n]]⟩
 t1:g o1=some ⟨true,1,lj R1 n n⟩
 t2:g o2=some ⟨true,1,lj R2 n n⟩
 r1:∀i,i<n->g (R1 i)=some ⟨true,1,ee (c i) n⟩
 r2:∀i,i<n->g (R2 i)=some ⟨true,1,ee (f i) n⟩
theorem nL.frame {g g':Rows} {X o1 o2:Id} {R1 R2:Nat->Id} {n nb:Nat} {c f:Nat->Nat->Int} (I:Gh X o1 o2 R1 R2 n nb) (h:nL g X o1 o2 R1 R2 n c f) (hf:∀i:Id,i.bQ<nb->g' i=g i):nL g' X o1 o2 R1 R2 n c f:=
 ⟨(hf _ I.vx).trans h.x,(hf _ I.v1).trans h.t1,(hf _ I.v2).trans h.t2,fun i hi=>(hf _ (I.TK i hi)).trans (h.r1 i hi),fun i hi=>(hf _ (I.QM i hi)).trans (h.r2 i hi)⟩
theorem oy {f:Nat->Nat->Int} {a b:Nat} {d:Int} {n:Nat} (hb:b<n):(ee (f a) n).set b (aE (f a b+d))=ee (bump f a b d a) n:=lk hb (by simp[bump]) fun i _ hi=>by simp[bump,hi]
theorem kb {f:Nat->Nat->Int} {a b i:Nat} {d:Int} (h:i≠a):bump f a b d i=f i:=by funext v;simp[bump,h]
theorem nL.add {g g':Rows} {X o1 o2:Id} {R1 R2:Nat->Id} {n nb:Nat} {c f:Nat->Nat->Int} (I:Gh X o1 o2 R1 R2 n nb) (h:nL g X o1 o2 R1 R2 n c f) (b:PB) (ha:b.a<n) (hb:b.b<n) (hA:b.a≠b.b->g' (R1 b.a)=some ⟨true,1,ee (bump c b.a b.b b.s b.a) n⟩) (hB:g' (R1 b.b)=some ⟨true,1,ee (nP c b b.b) n⟩) (hf:∀i:Id,i.bQ<nb->(i=R1 b.a)=False->(i=R1 b.b)=False->g' i=g i):nL g' X o1 o2 R1 R2 n (nP c b) f:=by
 have ne:∀{i:Id} {s:Nat},i.site=s->(s==245004006)=false->∀a,a<n->(i=R1 a)=False:=fun {i s} hi hs a ha=>by
  simp only[eq_iff_iff,iff_false]
  rintro rfl
  rw[I.TI a ha]at hi
  subst hi
  simp at hs
 refine⟨(hf _ I.vx (ne I.sx (by decide) _ ha) (ne I.sx (by decide) _ hb)).trans h.x,(hf _ I.v1 (ne I.s1 (by decide) _ ha) (ne I.s1 (by decide) _ hb)).trans h.t1,(hf _ I.v2 (ne I.s2 (by decide) _ ha) (ne I.s2 (by decide) _ hb)).trans h.t2,fun i hi=>?_,fun i hi=>(hf _ (I.QM i hi) (ne (I.NF i hi) (by decide) _ ha) (ne (I.NF i hi) (by decide) _ hb)).trans (h.r2 i hi)⟩
 by_cases K6:i=b.b
 ·subst K6;exact hB
 ·by_cases OJ:i=b.a
  ·subst OJ
   rw[hA K6,nP,kb K6]
  ·rw[nP,kb K6,kb OJ,hf _ (I.TK i hi) (by simp only[eq_iff_iff,iff_false];exact fun he=>OJ (I.i1 i _ hi ha he)) (by simp only[eq_iff_iff,iff_false];exact fun he=>K6 (I.i1 i _ hi hb he))]
   exact h.r1 i hi
def lG (n:Nat) (c f:Nat->Nat->Int):List AV:=[.sl (yc c n),.sl (yc f n)]
theorem F8 {g:Rows} {R:Nat->Id} {n k:Nat} {c:Nat->Nat->Int} (h:∀i,i<k->g (R i)=some ⟨true,1,ee (c i) n⟩) (m:Nat):eC (dR g) (m+3) (lj R n k)=some ((List.range k).map fun i=>[.sl (ee (c i) n)]):=by
 induction k with
 |zero=>rw[show lj R n 0=[]from rfl,eC];rfl
 |succ k ih=>
  have e1:V.fz (dR g) (m+3) (.own (R k) 0 n)=some (.sl (ee (c k) n)):=by
   rw[iG];simp only[dR,h k (by omega),Option.map_some,if_true]
   rw[if_pos (by rw[dL];omega),List.drop_zero,List.take_of_length_le (by rw[dL];omega),Au];rfl
  have app:∀(xs ys:List (List AV)) (TL SI:List (List AV)),eC (dR g) (m+3) xs=some TL->eC (dR g) (m+3) ys=some SI->eC (dR g) (m+3) (xs++ys)=some (TL++SI):=by
   intro xs
   induction xs with
   |nil=>intro ys TL SI h1 h2;rw[eC]at h1;cases h1;exact h2
   |cons a xs ih2=>
    intro ys TL SI h1 h2
    rw[eC]at h1
    rw[List.cons_append,eC]
    cases ha:dn (dR g) (m+3) a with
    |none=>simp[ha]at h1
    |some a'=>
     cases hb:eC (dR g) (m+3) xs with
     |none=>simp[ha,hb]at h1
     |some b'=>
      simp[ha,hb]at h1
      subst h1
      rw[ih2 ys b' SI hb h2];rfl
  rw[tE,List.range_succ,List.map_append]
  refine app _ _ _ _ (ih fun i hi=>h i (by omega)) ?_
  rw[eC,ae,aj,e1,eC];rfl
theorem nL.fz {g:Rows} {X o1 o2:Id} {R1 R2:Nat->Id} {n:Nat} {c f:Nat->Nat->Int} (h:nL g X o1 o2 R1 R2 n c f):V.fz (dR g) 6 (.ptr X 0 0)=some (.dq (lG n c f)):=by
 refine wq (sz:=2) (rows:=[[.own o1 0 n,.own o2 0 n]]) (by simp[dR,h.x]) rfl ?_
 have e1:V.fz (dR g) 5 (.own o1 0 n)=some (.sl (yc c n)):=by
  rw[iG];simp only[dR,h.t1,Option.map_some,if_true]
  rw[if_pos (by rw[km];omega),List.drop_zero,List.take_of_length_le (by rw[km];omega)]
  rw[show eC _ 4 _=some (yc c n)from F8 h.r1 1];rfl
 have e2:V.fz (dR g) 5 (.own o2 0 n)=some (.sl (yc f n)):=by
  rw[iG];simp only[dR,h.t2,Option.map_some,if_true]
  rw[if_pos (by rw[km];omega),List.drop_zero,List.take_of_length_le (by rw[km];omega)]
  rw[show eC _ 4 _=some (yc f n)from F8 h.r2 1];rfl
 simp only[List.drop_zero,ae,aj,e1,e2,lG,Option.map_some]
theorem Ob (n:Nat) (c f:Nat->Nat->Int) (u v:Nat) (hu:u<n) (hv:v<n):aq Tryz.prog 272 [.dq (lG n c f),.int .i64 u,.int .i64 v] (.bool (decide (f u v<c u v))):=by
 refine aq.body eK rfl fun hl n0=>?_
 clear hl
 have h1:=CH (c:=c) hu
 have h2:=CH (c:=f) hu
 have h3:=dX (f:=c u) hv
 have h4:=dX (f:=f u) hv
 have hui:(u:Int)<(n:Int):=by omega
 have Ec:(v:Int)<(n:Int):=by omega
 have l1:=xo c n
 have l2:=xo f n
 have l3:=dL (c u) n
 have l4:=dL (f u) n
 rw[aE]at h3 h4
 (try((repeat(revert hN;revert N;apply Pn.out));refine wk (tw @lG.eq_1 (tw @h1 (tw @h2 (tw @h3 (tw @h4 (tw @hui (tw @Ec (tw @l1 (tw @l2 (tw @l3 @l4)))))))))) ?_;(repeat(refine Pn.mk ?_;intro N hN))))
 exact bc (b:=decide (f u v<c u v)) (.inl rfl) (sd @Nat.zero_add) rfl
end Go.Proofs.YtgoelphibofcmaaGreat.V
