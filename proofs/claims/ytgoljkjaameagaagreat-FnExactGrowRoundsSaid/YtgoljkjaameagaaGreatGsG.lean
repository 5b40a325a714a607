/- Growth in rounds, by the reference. -/
import Derived.Test.YtgoljkjaameagaaGreatGsB
import Derived.Test.YtgoljkjaameagaaGreatGsF
import Derived.Test.YtgoljkjaameagaaGreatGsC
import Derived.Test.YtgoljkjaameagaaGreatChecked
import Derived.ProofKit
import Derived.Deep.Slices
import Derived.ChangeSame
import Derived.Test.YtgoljkjaameagaaGreatRows
import Derived.OpenShut
import Derived.ShutString
import Derived.ChangeOld
import Derived.Below
set_option linter.unusedVariables false
set_option linter.unusedSimpArgs false
set_option maxRecDepth 100000
set_option maxHeartbeats 16000000
namespace Go.Proofs.YtgoljkjaameagaaGreat.V
open Go.RowKit
attribute [local irreducible] dK wpOps gw Call
attribute [local go_sem] aM fE eM fV fS dc upd cr K.av cI AV.cells AV.cell rowOf rowsOf part ld rowAt bE cj dy dS gU bJ cY ee fQ e6 dp dX cW cV dI dJ bP bc cL bL cP cN dV dY dW cK bU cX dU bK aO cR cC gT bw cG bQ aY dj aZ dz AV.undef bD bG dM dQ dE dG cE ec eh cz ea dZ cQ cU List.getD_cons_zero List.getD_cons_succ List.getD_nil List.all_cons List.all_nil Bool.and_true Bool.true_and Bool.and_self Bool.not_true Bool.not_false Option.map_some Option.map_none Option.bind_some Option.bind_none List.length_cons List.length_nil List.take_succ_cons List.take_zero List.take_nil List.drop_succ_cons List.drop_zero List.drop_nil List.head?_cons List.map_cons List.map_nil List.getElem?_cons_zero List.getElem?_cons_succ List.cons_append List.nil_append List.append_nil List.length_map List.set_cons_zero List.set_cons_succ Nat.reduceMul eq_self Int.toNat_natCast Int.natCast_nonneg and_self true_and and_true decide_true decide_false Bool.false_eq_true Nat.zero_add Nat.add_zero List.contains_cons List.contains_nil Bool.or_false Bool.false_or beq_self_eq_true Nat.reduceBEq ne_eq not_true_eq_false not_false_eq_true Id.mk.injEq false_and and_false Nat.reduceLT Int.reduceLE Int.reduceLT Int.reduceToNat Int.reduceNeg Int.reduceAdd Nat.le_refl List.length_append beq_true beq_false Bool.not_eq_eq_eq_not or_false false_or dH aj ar aH bh bz ck aV bd aX bf cJ bB
theorem HF {s:aE}:∀{n:Nat} {out:List (List aa)} {l:List aa},(uB s n out l).2.2≠0->uB s n out l=([],[],4)
 |0,out,l,h=>absurd rfl h
 |n+1,out,l,h=>by
  rw[uB]at h ⊢
  split at h
  ·exact absurd rfl h
  ·rename_i h1
   rw[if_neg h1]
   split at h
   ·rename_i h2;rw[if_pos h2]
   ·rename_i h2;rw[if_neg h2];exact HF h
theorem s4 {s:aE} {out:List (List aa)} {l:List aa} (h:(kT s l).length=0):∀m,uB s m out l=(out,l,0)
 |0=>rfl
 |m+1=>by rw[uB,if_pos h]
noncomputable def kf (s:aE) (r:Int):List (List aa)×List aa×Int:=if oy s=true then(if iV r 0 500=true then uB s r.toNat [] s.bY.ai else([],[],2))else([],[],1)
noncomputable def xO (R:List (List aa)×List aa×Int):AV×AV:=if R.2.2=0 then(.sl (R.1.map eT),.sl (R.2.1.map ab))else(.bI,.bI)
theorem dD.Xc {α:Type} {R:ze α} {g:Rows} {e:α->List AV} {n:Nat} {rows:List (List AV)} {L:List α} {ids:List Id} (h:dD R g rows L ids) (hz:∀{cs x ids},R g cs x ids->cZ g n cs=some (e x)):eo g n rows=some (L.map e):=by
 induction h with
 |nil=>rw[eo];rfl
 |cons h1 _ ih=>rw[eo,hz h1,ih];rfl
theorem gy.Xc {α:Type} {R:ze α} {z n:Nat} {e:α->List AV} {g:Rows} {a:AV} {xs:List α} {ids:List Id} (h:gy R z g a xs ids) (hz:∀{cs x ids},R g cs x ids->cZ g n cs=some (e x)):V.fz g (n+1) a=some (.sl (xs.map e)):=by
 obtain⟨o,rows,is,rfl,h2,h3,rfl⟩:=h
 rw[iy]
 simp only[h2,if_true]
 rw[if_pos (by rw[h3.len];omega),List.drop_zero,List.take_of_length_le (by rw[h3.len];exact Nat.le_refl _),h3.Xc hz];rfl
theorem AM {g:Rows} {cs:List AV} {x:List aa} {ids:List Id} (n:Nat) (h:iu g cs x ids):cZ g (n+2) cs=some (eT x):=by
 obtain⟨i,rfl,h2,_⟩:=h
 have h3:V.fz g (n+2) (.own i 0 x.length)=some (.sl (x.map ab)):=fB (e:=ab) (sz:=3) h2 rfl fun y=>by simp[ab,aj,ar,aH]
 simp only[aj,ar,h3,Option.map_some,eT]
theorem PY {g:Rows} {B:Id} {s:aE} (h:g B=some ⟨true,4,[aA s]⟩):fz (dH g) 6 (.ptr B 0 0)=some (.dn (aA s)):=
 rT (sz:=4) (rows:=[aA s]) (by simp[dH,h]) rfl (by simp only[List.drop_zero,aA,aj,ar,ck,aH,Option.map_some])
theorem GH {g:Rows} {B:Id} {s:aE} (h:g B=some ⟨true,4,[aA s]⟩):fz (dH g) 6 (.ptr B 0 2)=some (.dn [.sl (s.bY.ai.map ab),.int .i64 s.az]):=
 rT (sz:=4) (rows:=[aA s]) (by simp[dH,h]) rfl (by simp only[aA,List.drop_succ_cons,List.drop_zero,aj,ar,ck,aH,Option.map_some])
def CN (lo n:Nat) (out:List (List aa)) (v:AV) (g:Rows) (y:Id):Prop:=∃ids,gy iu 1 g v out ids/\eJ lo n ids/\y∉ids
theorem CN.push {lo m n':Nat} {out:List (List aa)} {o u o' y:Id} {rows:List (List AV)} {is:List Id} {g g':Rows} {R:List aa} (hR:dD iu g rows out is) (hN:eJ lo m (o::is)) (hy:y∉o::is) (hf:∀x:Id,lo<=x.bj->x.bj<m->x≠o->x≠y->g' x=g x) (hu:g' u=some ⟨true,3,R.map ab⟩) (V7:m<=u.bj) (huo:u.bj<o'.bj) (BD:o'.bj<n') (j6:lo<=m) (hyu:y≠u) (X0:y≠o') (hg:g' o'=some ⟨true,1,rows++[[.own u 0 R.length]]⟩):CN lo n' (out++[R]) (.own o' 0 (out++[R]).length) g' y:=by
 obtain⟨n1,n2⟩:=List.nodup_cons.1 hN.1
 have hb:=fun i (hi:i∈is)=>hN.2 i (by simp[hi])
 have OX:dD iu g' rows out is:=hR.frame qH fun i hi=>hf i (hb i hi).1 (hb i hi).2 (fun e=>n1 (e▸hi)) (fun e=>hy (by simp[<-e,hi]))
 have hR3:=OX.app (dD.one (R:=iu) (g:=g') (x:=R) (ids:=[u]) ⟨u,rfl,hu,rfl⟩)
 refine⟨o'::(is++[u]),⟨o',_,_,rfl,hg,hR3,rfl⟩,⟨List.nodup_cons.2 ⟨fun h=>?_,List.nodup_append.2 ⟨n2,by simp,fun x hx y hy e=>?_⟩⟩,fun i hi=>?_⟩,fun hc=>?_⟩
 ·rcases List.mem_append.1 h with h|h
  ·have:=hb _ h;omega
  ·rw[List.mem_singleton.1 h]at huo;omega
 ·rw[List.mem_singleton.1 hy]at e;have:=hb _ hx;rw[e]at this;omega
 ·rcases List.mem_cons.1 hi with rfl|hi
  ·omega
  ·rcases List.mem_append.1 hi with h|h
   ·have:=hb _ h;omega
   ·rw[List.mem_singleton.1 h];omega
 ·rcases List.mem_cons.1 hc with h|h
  ·exact X0 h
  ·rcases List.mem_append.1 h with h|h
   ·exact hy (by simp[h])
   ·exact hyu (List.mem_singleton.1 h)
def qe (l R:List aa):List aa:=R.foldl (fun n x=>iO n x) l
theorem qF (l R:List aa) (x:aa):qe l (R++[x])=iO (qe l R) x:=by unfold qe;rw[List.foldl_append];rfl
theorem tu (l:List aa):∀(R:List aa),(qe l R).length=l.length+R.length:=fun R=>by
 have h:=tx (l:=l) (R:=R) (k:=R.length) (Nat.le_refl _)
 unfold sg at h
 rw[List.take_length]at h
 exact h
theorem nC (l R:List aa):sg l R R.length=qe l R:=by unfold sg qe;rw[List.take_length]
theorem MT {L:List aa} {k:Nat} (h:0<k/\(aL L k).aJ=(aL L (k-1)).aJ):im L (k+1)=im L k:=by rw[im,if_pos h]
theorem B7 {L:List aa} {k:Nat} (h:¬(0<k/\(aL L k).aJ=(aL L (k-1)).aJ)):im L (k+1)=im L k++[aL L k]:=by rw[im,if_neg h]
theorem AZ (s:aE) (m0:Int) (hn:iq s.aC) (hg:s.aC.aB.length<=1048576) (ht:s.aC.ai.length<=1048576):lv Tryz.prog 40 [.agg (aA s),.int .i64 m0] (.gJ [(xO (kf s m0)).1,.agg [(xO (kf s m0)).2],.int .i64 (kf s m0).2.2]):=by
 have h1:=Py s hn hg ht
 cases hb:oy s
 ·have hr:kf s m0=([],[],1):=by rw[kf,if_neg (by rw[hb];simp)]
  rw[hr]
  rw[hb]at h1
  refine lv.body eF rfl fun kP σ=>?_
  clear kP
  rw[aA]at h1 ⊢
  (repeat(first|((repeat(revert hN;revert N;apply Pn.out));refine wk @Nat.zero_add ?_;(repeat(refine Pn.mk ?_;intro N hN)))|((try apply Or.inl);refine⟨_,au.x (h1) (sd @Nat.zero_add),?_⟩;refine hN _ _ ?_;clear hN N)))
  exact uS (.inl rfl) (vs:=[.bI,.agg [.bI],.int .i64 1]) (sd @Nat.zero_add) (by simp[xO,fc,bB,bd,aj,ar,aV,aH])
 rw[hb]at h1
 have h2:=lD m0 0 500
 cases hi:iV m0 0 500
 ·have hr:kf s m0=([],[],2):=by rw[kf,if_pos hb,if_neg (by rw[hi];simp)]
  rw[hr]
  rw[hi]at h2
  refine lv.body eF rfl fun kP σ=>?_
  clear kP
  rw[aA]at h1 ⊢
  (repeat(first|((repeat(revert hN;revert N;apply Pn.out));refine wk @Nat.zero_add ?_;(repeat(refine Pn.mk ?_;intro N hN)))|((try apply Or.inl);refine⟨_,au.x (h1) (sd @Nat.zero_add),?_⟩;refine hN _ _ ?_;clear hN N)|((try apply Or.inl);refine⟨_,au.x (h2) (sd @Nat.zero_add),?_⟩;refine hN _ _ ?_;clear hN N)))
  exact uS (.inl rfl) (vs:=[.bI,.agg [.bI],.int .i64 2]) (sd @Nat.zero_add) (by simp[xO,fc,bB,bd,aj,ar,aV,aH])
 rw[hi]at h2
 have hP:=tN.1 hb
 obtain⟨m1,rfl⟩:∃m1:Nat,m0=(m1:Int):=⟨m0.toNat,by have:=dB hi;omega⟩
 have XK:=dB hi
 have hr:kf s (m1:Int)=uB s m1 [] s.bY.ai:=by rw[kf,if_pos hb,if_pos hi,Int.toNat_natCast]
 rw[hr]
 have Z2:=hP.zH.1.zm
 refine lv.body eF rfl fun kP σ=>?_
 clear kP
 obtain⟨g0,n0⟩:=σ
 have QD:=h1
 rw[aA]at h1
 (repeat(first|((repeat(revert hN;revert N;apply Pn.out));refine wk @aA.eq_1 ?_;(repeat(refine Pn.mk ?_;intro N hN)))|((try apply Or.inl);refine⟨_,au.x (h1) (sd @aA.eq_1),?_⟩;refine hN _ _ ?_;clear hN N)|((try apply Or.inl);refine⟨_,au.x (h2) (sd @aA.eq_1),?_⟩;refine hN _ _ ?_;clear hN N)))
 refine .inr (aI _ _ _ _ _ (fun r σ1 ub=>?_) (Rl.val (fun n=>(Ml s.bY.ai ah n).cut mixed (.ptr _ [.int .i64 s.az] .nil)) (Vb (GH (sd @aA.eq_1)))))
 obtain⟨⟨o,rfl,q1,q2,q3⟩,hK⟩:=ub
 obtain⟨g1,x1⟩:=σ1
 (try dsimp only at q1 q2 q3 hK)
 have uF:=hK.1
 (try dsimp only at uF)
 have kA:=hK.2 ⟨40000000,n0⟩ aT
 have kC:=hK.2 ⟨40000002,n0⟩ aT
 simp only[go_sem, ↓reduceIte,Nat.reduceEqDiff,Nat.reduceAdd,Nat.reduceSub,Nat.reduceLeDiff,reduceCtorEq]at kA kC
 have vo:=db (i:=o) (n:=x1) q3
 refine hN _ _ ?_
 clear hN N
 (try((repeat(revert hN;revert N;apply Pn.out));refine wk (tw @kA @kC) ?_;(repeat(refine Pn.mk ?_;intro N hN))))
 refine aQ (fun n env st=>∃(out:List (List aa)) (l:List aa) (m:Nat) (o:Id),n=m/\out.length+m=m1/\uB s m out l=uB s m1 [] s.bY.ai/\jZ s.aC l/\x1+1<st.next/\st.get ⟨40000000,n0⟩=some ⟨true,4,[aA s]⟩/\st.get ⟨40000002,n0⟩=some ⟨true,1,[[.bI]]⟩/\st.get ⟨40005002,x1⟩=some ⟨true,1,[[.own o 0 l.length]]⟩/\st.get o=some ⟨true,3,l.map ab⟩/\n0<o.bj/\o.bj<st.next/\(o=⟨40005002,x1⟩->False)/\CN (x1+1) st.next out (env 8) st.get o) m1
  ⟨[],s.bY.ai,m1,o,rfl,by simp,rfl,hP.zH,aT,sd (tw @kA @aA.eq_1),sd @kC,sd @Nat.zero_add,sd (tw @vo @q1),ah,aT,fun e=>by rw[e]at q3;(try dsimp only at q3);omega,⟨[⟨40006000,x1+1⟩],⟨⟨40006000,x1+1⟩,[],[],sl @Nat.zero_add,sl @Nat.zero_add,.nil,rfl⟩,⟨by simp,fun i hi=>by rw[List.mem_singleton.1 hi];(try dsimp only);omega⟩,fun hc=>by rw[List.mem_singleton.1 hc]at q3;(try dsimp only at q3);omega⟩⟩ ?_
 rintro n env_f st_f ⟨out,l,m,o2,rfl,ik,rm,hA,fx,fA,fC,fX,fo,fo1,fo2,fXo,hO⟩ hk
 have c2:=hk 2 (by kernel_rfl)
 have c1:=hk 1 (by kernel_rfl)
 have c5:=hk 5 (by kernel_rfl)
 have c7:=hk 7 (by kernel_rfl)
 simp only[go_sem, ↓reduceIte,Nat.reduceEqDiff,Nat.reduceAdd,Nat.reduceSub,Nat.reduceLeDiff,reduceCtorEq]at c1 c2 c5 c7
 clear hk
 have DH:=hA.1.zm
 have vA:=db (i:=⟨40000000,n0⟩) (n:=st_f.next) aT
 have vC:=db (i:=⟨40000002,n0⟩) (n:=st_f.next) aT
 have vX:=db (i:=⟨40005002,x1⟩) (n:=st_f.next) aT
 have v2:=db fo2
 have ej:au Tryz.prog 78 [.dn (aA s),.dn [.sl (l.map ab)]] (.sl ((kT s l).map ab)):=BI s hP l hA
 have DD:=Ey hP.set hA
 have ZR:∀g:Rows,g ⟨40000000,n0⟩=some ⟨true,4,[aA s]⟩->g ⟨40005002,x1⟩=some ⟨true,1,[[.own o2 0 l.length]]⟩->g o2=some ⟨true,3,l.map ab⟩->cZ (dH g) 6 [.ptr ⟨40000000,n0⟩ 0 0,.ptr ⟨40005002,x1⟩ 0 0]=some [.dn (aA s),.dn [.sl (l.map ab)]]:=fun g a b c=>OL (PY a) (H4 b c)
 have zr:((kT s l).map ab).length=(kT s l).length:=by simp
 (try((repeat(revert hN;revert N;apply Pn.out));refine wk (tw @c2 @c7) ?_;(repeat(refine Pn.mk ?_;intro N hN))))
 refine .inl ⟨_,au.x ej (ZR _ fA fX fo),?_⟩
 refine hN _ _ ?_
 clear hN N
 obtain⟨L,hL⟩:∃L,kT s l=L:=⟨_,rfl⟩
 rw[hL]at DD zr
 rw[hL]
 have hO0:=hO
 obtain⟨ids,⟨oo,rows,is,e8,LZ,QH,rfl⟩,hNI,k9⟩:=hO
 have voo:=db (hNI.2 oo (by simp)).2
 by_cases h0:L.length=0
 ·have d0:decide ((L.length:Int)=0)=true:=decide_eq_true ah
  (try((repeat(revert hN;revert N;apply Pn.out));refine wk (tw @c2 (tw @c7 (tw @c5 (tw @e8 (tw @zr (tw @d0 (tw @fX (tw @fC (tw @vX @vC))))))))) ?_;(repeat(refine Pn.mk ?_;intro N hN))))
  have oC:=bH (a:=⟨40000002,n0⟩) (b:=o2) aT
  have ooC:=bH (a:=⟨40000002,n0⟩) (b:=oo) (by have:=hNI.2 oo (by simp);(try dsimp only);omega)
  have Y7:∀i∈is,(i=(⟨40000002,n0⟩:Id))=False:=fun i hi=>(bH (a:=⟨40000002,n0⟩) (b:=i) (by have:=hNI.2 i (by simp[hi]);(try dsimp only);omega)).2
  exact uS (.inl rfl) (vs:=[.own oo 0 out.length,.agg [.own o2 0 l.length],.int .i64 0]) (sd @c5) (by
   have w6:∀g:Rows,(∀i:Id,(i=(⟨40000002,n0⟩:Id))=False->g i=st_f.get i)->V.fz g 5 (.own oo 0 out.length)=some (.sl (out.map eT)):=fun g hg=>gy.Xc (R:=iu) (g:=g) (e:=eT) (n:=4) (xs:=out) (ids:=oo::is) ⟨oo,rows,is,rfl,(hg oo ooC.2).trans LZ,QH.frame qH fun i hi=>hg i (Y7 i hi),rfl⟩ fun h=>AM 2 h
   have jP:∀g:Rows,(∀i:Id,(i=(⟨40000002,n0⟩:Id))=False->g i=st_f.get i)->V.fz g 4 (.own o2 0 l.length)=some (.sl (l.map ab)):=fun g hg=>fB (e:=ab) (l:=l) (sz:=3) (n:=3) ((hg o2 oC.2).trans fo) rfl fun x=>by simp[ab,aj,ar,aH]
   rw[<-rm,s4 (by rw[hL];exact h0),xO]
   simp only[fc,bB,bd,aj,ar,aH]
   rw[w6 _ (fun i hi=>sd @hi),jP _ (fun i hi=>sd @hi)]
   rfl)
 have d0:decide ((L.length:Int)=0)=false:=decide_eq_false ah
 by_cases h5:n=0
 ·have d1:decide ((out.length:Int)=(m1:Int))=true:=decide_eq_true ah
  (try((repeat(revert hN;revert N;apply Pn.out));refine wk (tw @c1 (tw @c2 (tw @c7 (tw @c5 (tw @e8 (tw @zr (tw @d0 (tw @d1 (tw @fX (tw @fC (tw @vX @vC))))))))))) ?_;(repeat(refine Pn.mk ?_;intro N hN))))
  have oC:=bH (a:=⟨40000002,n0⟩) (b:=o2) aT
  have ooC:=bH (a:=⟨40000002,n0⟩) (b:=oo) (by have:=hNI.2 oo (by simp);(try dsimp only);omega)
  have Y7:∀i∈is,(i=(⟨40000002,n0⟩:Id))=False:=fun i hi=>(bH (a:=⟨40000002,n0⟩) (b:=i) (by have:=hNI.2 i (by simp[hi]);(try dsimp only);omega)).2
  exact uS (.inl rfl) (vs:=[.own oo 0 out.length,.agg [.own o2 0 l.length],.int .i64 0]) (sd @c5) (by
   have w6:∀g:Rows,(∀i:Id,(i=(⟨40000002,n0⟩:Id))=False->g i=st_f.get i)->V.fz g 5 (.own oo 0 out.length)=some (.sl (out.map eT)):=fun g hg=>gy.Xc (R:=iu) (g:=g) (e:=eT) (n:=4) (xs:=out) (ids:=oo::is) ⟨oo,rows,is,rfl,(hg oo ooC.2).trans LZ,QH.frame qH fun i hi=>hg i (Y7 i hi),rfl⟩ fun h=>AM 2 h
   have jP:∀g:Rows,(∀i:Id,(i=(⟨40000002,n0⟩:Id))=False->g i=st_f.get i)->V.fz g 4 (.own o2 0 l.length)=some (.sl (l.map ab)):=fun g hg=>fB (e:=ab) (l:=l) (sz:=3) (n:=3) ((hg o2 oC.2).trans fo) rfl fun x=>by simp[ab,aj,ar,aH]
   rw[<-rm,h5,uB,xO]
   simp only[fc,bB,bd,aj,ar,aH]
   rw[w6 _ (fun i hi=>sd @hi),jP _ (fun i hi=>sd @hi)]
   rfl)
 obtain⟨m',rfl⟩:∃m',n=m'+1:=⟨n-1,ah⟩
 have d1:decide ((out.length:Int)=(m1:Int))=false:=decide_eq_false ah
 (try((repeat(revert hN;revert N;apply Pn.out));refine wk (tw @c1 (tw @c2 (tw @c7 (tw @c5 (tw @e8 (tw @zr (tw @d0 @d1))))))) ?_;(repeat(refine Pn.mk ?_;intro N hN))))
 refine aQ (fun n env st=>∃k:Nat,n=(L.length)-k/\k<=(L.length)/\env 11=.int .i64 (k:Int)/\(st_f.next<st.next/\l.length+(im L k).length<=500/\(∀x:Id,x.bj<st_f.next->x≠⟨40005002,x1⟩->st.get x=st_f.get x)/\∃o u:Id,st.get ⟨40005002,x1⟩=some ⟨true,1,[[.own o 0 (qe l (im L k)).length]]⟩/\st.get o=some ⟨true,3,(qe l (im L k)).map ab⟩/\env 10=.own u 0 (im L k).length/\st.get u=some ⟨true,3,(im L k).map ab⟩/\st_f.next<=u.bj/\u.bj<st.next/\n0<o.bj/\o.bj<st.next/\o≠⟨40005002,x1⟩/\o≠u/\(o=o2∨st_f.next<=o.bj))) (L.length) ⟨0,ah,ah,sl (tw @c1 (tw @c2 (tw @c5 (tw @c7 @e8)))),by(try dsimp only);exact⟨ah,by rw[im];simp only[List.length_nil];omega,fun x hx _=>(by have h9:=db hx;simp only[go_sem, ↓reduceIte,Nat.reduceEqDiff,Nat.reduceAdd,Nat.reduceSub,Nat.reduceLeDiff,reduceCtorEq,h9]),o2,⟨40010000,st_f.next+1+1⟩,sl (tw @fX @vX),sl (tw @fo @v2),sl @Nat.zero_add,sl @Nat.zero_add,aT,aT,fo1,ah,fXo,fun e=>by rw[e]at fo2;(try dsimp only at fo2);omega,.inl rfl⟩⟩ ?_
 rintro n_b env_b st_b ⟨k,rfl,ble,b11,bI0⟩ eI
 have b1:=eI 1 (by kernel_rfl);have b2:=eI 2 (by kernel_rfl);have b5:=eI 5 (by kernel_rfl);have b7:=eI 7 (by kernel_rfl);have b8:=eI 8 (by kernel_rfl);have b9:=eI 9 (by kernel_rfl)
 simp only[go_sem, ↓reduceIte,Nat.reduceEqDiff,Nat.reduceAdd,Nat.reduceSub,Nat.reduceLeDiff,reduceCtorEq,c1,c2,c5,c7,e8]at b1 b2 b5 b7 b8 b9
 clear eI
 obtain⟨bn,b500,eI,o,u,bX,bo,Om,bu,bu1,bu2,bo1,Yo,boX,bou,bor⟩:=bI0
 have wA:=db (i:=⟨40000000,n0⟩) (n:=st_b.next) aT
 have wC:=db (i:=⟨40000002,n0⟩) (n:=st_b.next) aT
 have wX:=db (i:=⟨40005002,x1⟩) (n:=st_b.next) aT
 have wo:=db Yo
 have wu:=db bu2
 have gC:=(eI ⟨40000002,n0⟩ aT (by simp)).trans fC
 by_cases hk:(k:Int)<(L.length:Int)
 ·have eZ:∀{e:Env} {gg:Rows} {nx:Nat},(e 11=.int .i64 (IntKind.i64.wrap ((k:Int)+1)))->(st_f.next<nx/\l.length+(im L (k+1)).length<=500/\(∀x:Id,x.bj<st_f.next->x≠⟨40005002,x1⟩->gg x=st_f.get x)/\∃o u:Id,gg ⟨40005002,x1⟩=some ⟨true,1,[[.own o 0 (qe l (im L (k+1))).length]]⟩/\gg o=some ⟨true,3,(qe l (im L (k+1))).map ab⟩/\e 10=.own u 0 (im L (k+1)).length/\gg u=some ⟨true,3,(im L (k+1)).map ab⟩/\st_f.next<=u.bj/\u.bj<nx/\n0<o.bj/\o.bj<nx/\o≠⟨40005002,x1⟩/\o≠u/\(o=o2∨st_f.next<=o.bj))->∃m0,m0<(L.length)-k/\∃k:Nat,m0=(L.length)-k/\k<=(L.length)/\e 11=.int .i64 (k:Int)/\(st_f.next<nx/\l.length+(im L k).length<=500/\(∀x:Id,x.bj<st_f.next->x≠⟨40005002,x1⟩->gg x=st_f.get x)/\∃o u:Id,gg ⟨40005002,x1⟩=some ⟨true,1,[[.own o 0 (qe l (im L k)).length]]⟩/\gg o=some ⟨true,3,(qe l (im L k)).map ab⟩/\e 10=.own u 0 (im L k).length/\gg u=some ⟨true,3,(im L k).map ab⟩/\st_f.next<=u.bj/\u.bj<nx/\n0<o.bj/\o.bj<nx/\o≠⟨40005002,x1⟩/\o≠u/\(o=o2∨st_f.next<=o.bj)):=fun x1 x2=>⟨_,ah,k+1,rfl,ah,(by rw[x1,ay ah]),x2⟩
  have fy:k<L.length:=ah
  have eP:=fF fy
  rw[ab]at eP
  by_cases s8:0<k
  ·have O3:(0:Int)<(k:Int):=ah
   have Ss:=fF (l:=L) (i:=k-1) ah
   rw[ab]at Ss
   have hwm:IntKind.i64.wrap ((k:Int)-1)=((k-1:Nat):Int):=by rw[bq ah];omega
   have SC:((k-1:Nat):Int)<(L.length:Int):=ah
   by_cases hE:(aL L k).aJ=(aL L (k-1)).aJ
   ·have Sm:(decide ((aL L k).aJ.eE=(aL L (k-1)).aJ.eE)&&decide ((aL L k).aJ.ez=(aL L (k-1)).aJ.ez))=true:=by rw[hE];simp
    have ly:=MT (L:=L) (k:=k) ⟨s8,hE⟩
    (try((repeat(revert hN;revert N;apply Pn.out));refine wk (tw @b11 (tw @b1 (tw @b2 (tw @b5 (tw @b7 (tw @b8 (tw @b9 (tw @hk (tw @O3 (tw @eP (tw @Ss (tw @hwm (tw @SC (tw @zr @Sm)))))))))))))) ?_;(repeat(refine Pn.mk ?_;intro N hN))))
    exact eZ (sd (tw @b11 (tw @b1 (tw @b2 (tw @b5 (tw @b7 (tw @b8 @b9))))))) (by(try dsimp only);exact⟨ah,by rw[ly];omega,fun x hx SX=>eI x hx SX,o,u,by rw[ly];simp only[go_sem, ↓reduceIte,Nat.reduceEqDiff,Nat.reduceAdd,Nat.reduceSub,Nat.reduceLeDiff,reduceCtorEq,bX],by rw[ly];simp only[go_sem, ↓reduceIte,Nat.reduceEqDiff,Nat.reduceAdd,Nat.reduceSub,Nat.reduceLeDiff,reduceCtorEq,bo],by rw[ly];simp only[go_sem, ↓reduceIte,Nat.reduceEqDiff,Nat.reduceAdd,Nat.reduceSub,Nat.reduceLeDiff,reduceCtorEq,Om],by rw[ly];simp only[go_sem, ↓reduceIte,Nat.reduceEqDiff,Nat.reduceAdd,Nat.reduceSub,Nat.reduceLeDiff,reduceCtorEq,bu],bu1,aT,bo1,aT,boX,bou,bor⟩)
   ·have Sm:(decide ((aL L k).aJ.eE=(aL L (k-1)).aJ.eE)&&decide ((aL L k).aJ.ez=(aL L (k-1)).aJ.ez))=false:=by
     rcases zt:(aL L k).aJ with⟨a1,a2⟩
     rcases hpk1:(aL L (k-1)).aJ with⟨e1,e2⟩
     rw[zt,hpk1]at hE
     by_cases h9:a1=e1
     ·by_cases h8:a2=e2
      ·exact absurd (by rw[h9,h8]) hE
      ·simp[h8]
     ·simp[h9]
    have ZF:¬(0<k/\(aL L k).aJ=(aL L (k-1)).aJ):=fun h=>hE h.2
    have ly:=B7 ZF
    have vJ:(im L (k+1)).length=(im L k).length+1:=by rw[ly];simp
    have mj:=tu l (im L k)
    (try((repeat(revert hN;revert N;apply Pn.out));refine wk (tw @b11 (tw @b1 (tw @b2 (tw @b5 (tw @b7 (tw @b8 (tw @b9 (tw @hk (tw @O3 (tw @eP (tw @Ss (tw @hwm (tw @SC (tw @zr @Sm)))))))))))))) ?_;(repeat(refine Pn.mk ?_;intro N hN))))
    refine .inr (aI _ _ _ _ _ (fun r σ2 ni=>?_) (CY (X:=⟨40005002,x1⟩) (o:=o) (l:=qe l (im L k)) ah (aL L k) bX bo))
    obtain⟨tW,hK⟩:=ni
    obtain⟨g2,x2⟩:=σ2
    (try dsimp only at tW hK)
    have Ga:=hK.1
    (try dsimp only at Ga)
    have jC:=(hK.2 ⟨40000002,n0⟩ aT).trans gC
    have jX:=(hK.2 ⟨40005002,x1⟩ aT).trans bX
    have ju:=(hK.2 u aT).trans bu
    (try dsimp only at jC jX ju)
    have yC:=db (i:=⟨40000002,n0⟩) (n:=x2) aT
    have yX:=db (i:=⟨40005002,x1⟩) (n:=x2) aT
    have yu:=db (i:=u) (n:=x2) (by(try dsimp only at Ga);omega)
    refine hN _ _ ?_
    clear hN N
    rcases tW with⟨YI,rfl⟩|⟨YI,o3,rfl,p1,p2,p3⟩
    ·have LS:500<l.length+(Fg s l).length:=by
      have h6:=yG L (k+1) (L.length-(k+1))
      rw[show k+1+(L.length-(k+1))=L.length by omega]at h6
      unfold Fg
      rw[hL];omega
     (try((repeat(revert hN;revert N;apply Pn.out));refine wk (tw @b11 (tw @b1 (tw @b2 (tw @b5 (tw @b7 (tw @b8 (tw @b9 (tw @jC (tw @jX (tw @yC @yX)))))))))) ?_;(repeat(refine Pn.mk ?_;intro N hN))))
     exact uS (.inl rfl) (vs:=[.bI,.agg [.bI],.int .i64 4]) (sd (tw @b11 (tw @b1 (tw @b2 (tw @b5 (tw @b7 (tw @b8 @b9))))))) (by
      rw[<-rm,uB,if_neg (by rw[hL];exact h0),if_pos LS,xO]
      simp[fc,bB,bd,aj,ar,aV,aH])
    ·(try dsimp only at p1 p2 p3)
     have y3:=db p3
     have Xo:=bH (a:=⟨40005002,x1⟩) (b:=o3) aT
     have Xu:=bH (a:=⟨40005002,x1⟩) (b:=u) aT
     have u3:=bH (a:=u) (b:=o3) aT
     have V7:((im L k).map ab).length=(im L k).length:=by simp
     have Mc:(im L k).length<=16777215:=ah
     (try((repeat(revert hN;revert N;apply Pn.out));refine wk (tw @b11 (tw @b1 (tw @b2 (tw @b5 (tw @b7 (tw @b8 (tw @b9 (tw @Om (tw @jC (tw @jX (tw @ju (tw @yC (tw @yX (tw @yu (tw @Xu (tw @eP (tw @zr (tw @V7 (tw @Mc @hk))))))))))))))))))) ?_;(repeat(refine Pn.mk ?_;intro N hN))))
     exact eZ (sd (tw @b11 (tw @b1 (tw @b2 (tw @b5 (tw @b7 (tw @b8 @b9))))))) (by(try dsimp only);exact⟨ah,by rw[vJ];omega,fun x hx SX=>(by
      have e1:=eq_false SX
      have e2:=db (i:=x) (n:=x2) (by(try dsimp only at Ga);omega)
      have e3:=bH (a:=x) (b:=u) ah
      have e4:=hK.2 x aT
      simp only[go_sem, ↓reduceIte,Nat.reduceEqDiff,Nat.reduceAdd,Nat.reduceSub,Nat.reduceLeDiff,reduceCtorEq,e1,e2,e3]
      exact e4.trans (eI x hx SX)),o3,⟨40019006,x2+1+1+1⟩,by rw[ly,qF];simp only[go_sem, ↓reduceIte,Nat.reduceEqDiff,Nat.reduceAdd,Nat.reduceSub,Nat.reduceLeDiff,reduceCtorEq,Xu,yX]<;>rfl,by rw[ly,qF];simp only[go_sem, ↓reduceIte,Nat.reduceEqDiff,Nat.reduceAdd,Nat.reduceSub,Nat.reduceLeDiff,reduceCtorEq,Xo,u3,y3,p1],by rw[vJ];simp only[go_sem, ↓reduceIte,Nat.reduceEqDiff,Nat.reduceAdd,Nat.reduceSub,Nat.reduceLeDiff,reduceCtorEq],by rw[ly,List.map_append];simp only[go_sem, ↓reduceIte,Nat.reduceEqDiff,Nat.reduceAdd,Nat.reduceSub,Nat.reduceLeDiff,reduceCtorEq,ab,List.map_cons,List.map_nil],aT,aT,ah,aT,fun e=>by rw[e]at p2;(try dsimp only at p2);omega,fun e=>by rw[e]at p3;(try dsimp only at p3);omega,.inr ah⟩)
  ·have O3:¬(0:Int)<(k:Int):=ah
   have ZF:¬(0<k/\(aL L k).aJ=(aL L (k-1)).aJ):=fun h=>s8 h.1
   have ly:=B7 ZF
   have vJ:(im L (k+1)).length=(im L k).length+1:=by rw[ly];simp
   have mj:=tu l (im L k)
   (try((repeat(revert hN;revert N;apply Pn.out));refine wk (tw @b11 (tw @b1 (tw @b2 (tw @b5 (tw @b7 (tw @b8 (tw @b9 (tw @hk (tw @O3 (tw @eP @zr)))))))))) ?_;(repeat(refine Pn.mk ?_;intro N hN))))
   refine .inr (aI _ _ _ _ _ (fun r σ2 ni=>?_) (CY (X:=⟨40005002,x1⟩) (o:=o) (l:=qe l (im L k)) ah (aL L k) bX bo))
   obtain⟨tW,hK⟩:=ni
   obtain⟨g2,x2⟩:=σ2
   (try dsimp only at tW hK)
   have Ga:=hK.1
   (try dsimp only at Ga)
   have jC:=(hK.2 ⟨40000002,n0⟩ aT).trans gC
   have jX:=(hK.2 ⟨40005002,x1⟩ aT).trans bX
   have ju:=(hK.2 u aT).trans bu
   (try dsimp only at jC jX ju)
   have yC:=db (i:=⟨40000002,n0⟩) (n:=x2) aT
   have yX:=db (i:=⟨40005002,x1⟩) (n:=x2) aT
   have yu:=db (i:=u) (n:=x2) (by(try dsimp only at Ga);omega)
   refine hN _ _ ?_
   clear hN N
   rcases tW with⟨YI,rfl⟩|⟨YI,o3,rfl,p1,p2,p3⟩
   ·have LS:500<l.length+(Fg s l).length:=by
     have h6:=yG L (k+1) (L.length-(k+1))
     rw[show k+1+(L.length-(k+1))=L.length by omega]at h6
     unfold Fg
     rw[hL];omega
    (try((repeat(revert hN;revert N;apply Pn.out));refine wk (tw @b11 (tw @b1 (tw @b2 (tw @b5 (tw @b7 (tw @b8 (tw @b9 (tw @jC (tw @jX (tw @yC @yX)))))))))) ?_;(repeat(refine Pn.mk ?_;intro N hN))))
    exact uS (.inl rfl) (vs:=[.bI,.agg [.bI],.int .i64 4]) (sd (tw @b11 (tw @b1 (tw @b2 (tw @b5 (tw @b7 (tw @b8 @b9))))))) (by
     rw[<-rm,uB,if_neg (by rw[hL];exact h0),if_pos LS,xO]
     simp[fc,bB,bd,aj,ar,aV,aH])
   ·(try dsimp only at p1 p2 p3)
    have y3:=db p3
    have Xo:=bH (a:=⟨40005002,x1⟩) (b:=o3) aT
    have Xu:=bH (a:=⟨40005002,x1⟩) (b:=u) aT
    have u3:=bH (a:=u) (b:=o3) aT
    have V7:((im L k).map ab).length=(im L k).length:=by simp
    have Mc:(im L k).length<=16777215:=ah
    (try((repeat(revert hN;revert N;apply Pn.out));refine wk (tw @b11 (tw @b1 (tw @b2 (tw @b5 (tw @b7 (tw @b8 (tw @b9 (tw @Om (tw @jC (tw @jX (tw @ju (tw @yC (tw @yX (tw @yu (tw @Xu (tw @eP (tw @zr (tw @V7 (tw @Mc @hk))))))))))))))))))) ?_;(repeat(refine Pn.mk ?_;intro N hN))))
    exact eZ (sd (tw @b11 (tw @b1 (tw @b2 (tw @b5 (tw @b7 (tw @b8 @b9))))))) (by(try dsimp only);exact⟨ah,by rw[vJ];omega,fun x hx SX=>(by
     have e1:=eq_false SX
     have e2:=db (i:=x) (n:=x2) (by(try dsimp only at Ga);omega)
     have e3:=bH (a:=x) (b:=u) ah
     have e4:=hK.2 x aT
     simp only[go_sem, ↓reduceIte,Nat.reduceEqDiff,Nat.reduceAdd,Nat.reduceSub,Nat.reduceLeDiff,reduceCtorEq,e1,e2,e3]
     exact e4.trans (eI x hx SX)),o3,⟨40019006,x2+1+1+1⟩,by rw[ly,qF];simp only[go_sem, ↓reduceIte,Nat.reduceEqDiff,Nat.reduceAdd,Nat.reduceSub,Nat.reduceLeDiff,reduceCtorEq,Xu,yX]<;>rfl,by rw[ly,qF];simp only[go_sem, ↓reduceIte,Nat.reduceEqDiff,Nat.reduceAdd,Nat.reduceSub,Nat.reduceLeDiff,reduceCtorEq,Xo,u3,y3,p1],by rw[vJ];simp only[go_sem, ↓reduceIte,Nat.reduceEqDiff,Nat.reduceAdd,Nat.reduceSub,Nat.reduceLeDiff,reduceCtorEq],by rw[ly,List.map_append];simp only[go_sem, ↓reduceIte,Nat.reduceEqDiff,Nat.reduceAdd,Nat.reduceSub,Nat.reduceLeDiff,reduceCtorEq,ab,List.map_cons,List.map_nil],aT,aT,ah,aT,fun e=>by rw[e]at p2;(try dsimp only at p2);omega,fun e=>by rw[e]at p3;(try dsimp only at p3);omega,.inr ah⟩)
 ·have lj:k=L.length:=ah
  subst lj
  have QI:Fg s l=im L L.length:=by unfold Fg;rw[hL]
  have VV:o∉oo::is:=by
   rcases bor with rfl|h
   ·exact k9
   ·intro hc;have:=hNI.2 o hc;omega
  have Je:=hNI.2 oo (by simp)
  have Xe:=(eI oo Je.2 (fun e=>by rw[e]at Je;(try dsimp only at Je);omega)).trans LZ
  have woo:=db (i:=oo) (n:=st_b.next) ah
  have pg:=QH.len
  have DO:out.length<=16777215:=ah
  have ou:=bH (a:=oo) (b:=u) ah
  have oA:=bH (a:=⟨40000000,n0⟩) (b:=oo) aT
  have oC:=bH (a:=⟨40000002,n0⟩) (b:=oo) aT
  have oX:=bH (a:=⟨40005002,x1⟩) (b:=oo) aT
  have oo2:=eq_false (fun e:o=oo=>VV (by simp[e]))
  have gA:=(eI ⟨40000000,n0⟩ aT (by simp)).trans fA
  rw[uB,if_neg (by rw[hL];exact h0),if_neg (by rw[QI];omega),QI,nC]at rm
  have QE:=(yM hP.set hA (Nat.le_refl _) _ (Nat.le_refl _) (by rw[hL];omega)).1
  rw[hL,nC]at QE
  (try((repeat(revert hN;revert N;apply Pn.out));refine wk (tw @b11 (tw @b1 (tw @b2 (tw @b5 (tw @b7 (tw @b8 (tw @b9 (tw @hk (tw @Om (tw @Xe (tw @woo (tw @pg (tw @DO @zr))))))))))))) ?_;(repeat(refine Pn.mk ?_;intro N hN))))
  exact⟨m',Nat.lt_succ_self _,out++[im L L.length],qe l (im L L.length),m',o,rfl,by rw[List.length_append,List.length_singleton];omega,rm,QE,aT,sd (tw @wA (tw @oA @gA)),sd (tw @wC (tw @oC @gC)),sd (tw @wX (tw @oX @bX)),sd (tw @wo (tw @oo2 @bo)),bo1,aT,boX,by
   have hp:=CN.push (lo:=x1+1) (m:=st_f.next) (n':=st_b.next+1+1) (R:=im L L.length) (o':=⟨40020003,st_b.next+1⟩) (g':=bE (cj (bE st_b.get ⟨40020002,st_b.next+1⟩ ⟨true,1,[[.own u 0 (im L L.length).length]]⟩) oo) ⟨40020003,st_b.next+1⟩ ⟨true,1,rows++[[.own u 0 (im L L.length).length]]⟩) QH hNI VV (fun x h1 h2 h3 h4=>by
    have e1:=eq_false h3
    have e2:=db (i:=x) (n:=st_b.next) ah
    simp only[go_sem, ↓reduceIte,Nat.reduceEqDiff,Nat.reduceAdd,Nat.reduceSub,Nat.reduceLeDiff,reduceCtorEq,e1,e2]
    exact eI x h2 (fun e=>by rw[e]at h1;(try dsimp only at h1);omega)) (sd (tw @wu (tw @ou @bu))) bu1 aT aT ah bou (fun e=>by rw[e]at Yo;(try dsimp only at Yo);omega) (sd @Nat.zero_add)
   have Zu:(out++[im L L.length]).length=out.length+1:=by simp
   rw[Zu]at hp
   simp only[go_sem, ↓reduceIte,Nat.reduceEqDiff,Nat.reduceAdd,Nat.reduceSub,Nat.reduceLeDiff,reduceCtorEq]
   exact hp⟩
structure sH (ts l:List aa):Prop where
 at_:∀q,fU ts q=fU l q
 perm:ts.Perm l
theorem sH.refl (l:List aa):sH l l:=⟨fun _=>rfl,List.Perm.refl _⟩
theorem sH.no {ts l:List aa} (h:sH ts l) {p:aq} (h0:eG l p<0):eG ts p<0:=kF.2 fun t ht=>kF.1 h0 t (h.perm.subset ht)
theorem sH.put {ts l:List aa} (h:sH ts l) {x:aa} (h0:eG l x.aJ<0):sH (ts++[x]) (iO l x) where
 at_ q:=by rw[sK q (kF.1 (h.no h0)),CX q (kF.1 h0),h.at_]
 perm:=(h.perm.append_right [x]).trans (AG x l)
theorem sH.fit {ts l:List aa} (h:sH ts l) (s:aE):gM s ts=gM s l:=by
 have e:fU ts=fU l:=funext h.at_
 have e2:ew s ts=ew s l:=by
  funext p t
  unfold ew
  rw[e]
 funext q
 unfold gM
 rw[e2]
def Rj (z:Nat) (lo n:Nat) (L:List aa) (v:AV) (g:Rows):Prop:=(L=[]/\v=.bI)∨∃u:Id,v=.own u 0 L.length/\g u=some ⟨true,3,L.map ab⟩/\lo<=u.bj/\u.bj<n/\0<L.length/\u.site=z
theorem Pz (r:List aa) (y:aa) (hl:r.length<=1048576):au Tryz.prog 99 [.sl ((r++[y]).map ab)] (.agg (ab y)):=by
 refine au.body eF rfl fun kP n0=>?_
 clear kP
 have ik:((r++[y]).map ab).length=r.length+1:=by simp
 have hw:IntKind.i64.wrap (((r.length+1:Nat):Int)-1)=(r.length:Int):=by rw[bq ah];omega
 have hg:((r++[y]).map ab)[r.length]? =some (ab y):=by simp
 have h0:(0:Int)<=(r.length:Int):=ah
 generalize (r++[y]).map ab=M at ik hg
 (try((repeat(revert hN;revert N;apply Pn.out));refine wk (tw @ik (tw @hw (tw @hg (tw @h0 @ab.eq_1)))) ?_;(repeat(refine Pn.mk ?_;intro N hN))))
 exact oP (.inl rfl) (vs:=[.agg (ab y)]) (sd @ab.eq_1) (by simp[fc,ab,Br,bW,cF,eO])
theorem uh.but {g g':Rows} {n n':Nat} {c T O oo:Id} {s:aE} {ts:List aa} {rows:List (List AV)} {out:List (List aa)} {is:List Id} (h:uh g n c T O s ts) (hn:n<=n') (ho:g oo=some ⟨true,1,rows⟩) (hR:dD iu g rows out is) (hp:0<out.length) (hf:∀x:Id,x.bj<n->x≠oo->g' x=g x):uh g' n' c T O s ts:=by
 have hc:c≠oo:=fun e=>by
  have h9:=h.o.row
  rw[e,ho]at h9;simp at h9
 have hT:T≠oo:=fun e=>by
  have h9:=h.o.tl
  rw[e,ho]at h9
  simp only[Option.some.injEq,Row.mk.injEq]at h9
  exact sk h9.2.1.symm
 obtain⟨es,h1,h2⟩:=h.op
 have hO:O≠oo:=fun e=>by
  have h9:=h1
  rw[e,ho]at h9
  simp only[Option.some.injEq,Row.mk.injEq]at h9
  exact sk h9.2.1.symm
 refine⟨h.o.three hn (hf c h.o.cv hc) (hf T h.o.tv hT) (hf O h.o.ov hO),es,(hf O h.o.ov hO).trans h1,h2.nodup,fun q hq=>?_⟩
 rcases h2.at_ q hq with h3|⟨h3,o,h4,h5,h6⟩
 ·exact .inl h3
 ·refine .inr ⟨h3,o,h4,ah,(hf o h5 fun e=>?_).trans h6⟩
  rw[e,ho]at h6
  simp only[Option.some.injEq,Row.mk.injEq]at h6
  obtain⟨cs,ic,a1,⟨w,rfl,_⟩,_⟩:=hR.at_ 0 hp
  rw[h6.2.2]at a1
  cases CE:gM s ts q with
  |nil=>exact h3 CE
  |cons z zs=>rw[CE]at a1;simp[aU]at a1
theorem PV {g:Rows} {v:Id} {L:List aa} (h:g v=some ⟨true,3,L.map ab⟩):V.fz (dH g) 6 (.own v 0 L.length)=some (.sl (L.map ab)):=fB (e:=ab) (sz:=3) (by simp[dH,h]) rfl fun y=>by simp[ab,aj,ar,aH]
def KL (lo n:Nat) (out:List (List aa)) (v:AV) (g:Rows):Prop:=(out=[]/\v=.bI)∨(0<out.length/\∃ids,gy iu 1 g v out ids/\eJ lo n ids)
theorem KL.out {lo n:Nat} {out:List (List aa)} {v:AV} {g:Rows} (h:KL lo n out v g):∃ids,jG g v out ids/\eJ lo n ids:=by
 rcases h with⟨h1,h2⟩|⟨hp,ids,h1,h2⟩
 ·exact⟨[],.inl ⟨h1,h2,rfl⟩,⟨List.nodup_nil,fun i hi=>by cases hi⟩⟩
 ·exact⟨ids,.inr ⟨h1,hp⟩,h2⟩
theorem AY (s:aE) (m0:Int) (hn:iq s.aC) (hm:vg s) (n0:Nat):
  Call Tryz.prog 41 [.agg (aA s),.int .i64 m0] ⟨fun _=>none,n0⟩ (fun r σ'=>∃ids,(∃v0 i0,∃v1 i1,r=.gJ [v0,.agg [v1],.int .i64 (kf s m0).2.2]/\jG σ'.get v0 (kf s m0).1 i0/\mh ab 3 σ'.get v1 (kf s m0).2.1 i1/\ids=i0++i1)/\eJ n0 σ'.next ids):=by
 have h1:=zg RA s hn hm.s.g hm.s.t hm.s.s hm.a
 cases hb:oy s
 ·have hr:kf s m0=([],[],1):=by rw[kf,if_neg (by rw[hb];simp)]
  rw[hr]
  rw[hb]at h1
  refine eA eF rfl fun kP=>?_
  clear kP
  rw[aA]at h1 ⊢
  (repeat(first|((repeat(revert hN;revert N;apply Pn.out));refine wk @Nat.zero_add ?_;(repeat(refine Pn.mk ?_;intro N hN)))|((try apply Or.inl);refine⟨_,au.x (h1) (sd @Nat.zero_add),?_⟩;refine hN _ _ ?_;clear hN N)))
  exact eS (.inl rfl) (vs:=[.bI,.agg [.bI],.int .i64 1]) (sd @Nat.zero_add) ⟨[],⟨.bI,[],.bI,[],rfl,.inl ⟨rfl,rfl,rfl⟩,.inl ⟨rfl,rfl,rfl⟩,rfl⟩,⟨List.nodup_nil,fun i hi=>by cases hi⟩⟩
 rw[hb]at h1
 have h2:=kX m0 0 500
 cases hi:iV m0 0 500
 ·have hr:kf s m0=([],[],2):=by rw[kf,if_pos hb,if_neg (by rw[hi];simp)]
  rw[hr]
  rw[hi]at h2
  refine eA eF rfl fun kP=>?_
  clear kP
  rw[aA]at h1 ⊢
  (repeat(first|((repeat(revert hN;revert N;apply Pn.out));refine wk @Nat.zero_add ?_;(repeat(refine Pn.mk ?_;intro N hN)))|((try apply Or.inl);refine⟨_,au.x (h1) (sd @Nat.zero_add),?_⟩;refine hN _ _ ?_;clear hN N)|((try apply Or.inl);refine⟨_,au.x (h2) (sd @Nat.zero_add),?_⟩;refine hN _ _ ?_;clear hN N)))
  exact eS (.inl rfl) (vs:=[.bI,.agg [.bI],.int .i64 2]) (sd @Nat.zero_add) ⟨[],⟨.bI,[],.bI,[],rfl,.inl ⟨rfl,rfl,rfl⟩,.inl ⟨rfl,rfl,rfl⟩,rfl⟩,⟨List.nodup_nil,fun i hi=>by cases hi⟩⟩
 rw[hi]at h2
 have hP:=tN.1 hb
 obtain⟨m1,rfl⟩:∃m1:Nat,m0=(m1:Int):=⟨m0.toNat,by have:=dB hi;omega⟩
 have XK:=dB hi
 have hr:kf s (m1:Int)=uB s m1 [] s.bY.ai:=by rw[kf,if_pos hb,if_pos hi,Int.toNat_natCast]
 rw[hr]
 have hT:1<=s.az:=(dB hP.Nr).1
 have Z2:=hP.zH.1.zm
 refine eA eF rfl fun kP=>?_
 clear kP
 have hnc:=fun σ=>BY s hP.set hT s.bY.ai hP.zH σ
 rw[aA]at h1 hnc
 (repeat(first|((repeat(revert hN;revert N;apply Pn.out));refine wk @aA.eq_1 ?_;(repeat(refine Pn.mk ?_;intro N hN)))|((try apply Or.inl);refine⟨_,au.x (h1) (sd @aA.eq_1),?_⟩;refine hN _ _ ?_;clear hN N)|((try apply Or.inl);refine⟨_,au.x (h2) (sd @aA.eq_1),?_⟩;refine hN _ _ ?_;clear hN N)))
 refine .inr (aI _ _ _ _ _ (fun r σ1 hq=>?_) (hnc _))
 obtain⟨g1,x1⟩:=σ1
 obtain⟨c,T,O,rfl,hC,Vv,NR,Ue,qx,j4⟩:=hq
 (try dsimp only at hC Vv NR Ue qx j4)
 have kC:=j4 ⟨41000002,n0⟩ aT
 simp only[go_sem, ↓reduceIte,Nat.reduceEqDiff,Nat.reduceAdd,Nat.reduceSub,Nat.reduceLeDiff,reduceCtorEq]at kC
 have hcx:=hC.o.cv
 have hTx:=hC.o.tv
 have hOx:=hC.o.ov
 refine hN _ _ ?_
 clear hN N
 (try((repeat(revert hN;revert N;apply Pn.out));refine wk @Nat.zero_add ?_;(repeat(refine Pn.mk ?_;intro N hN))))
 refine aQ (fun n env st=>∃(out:List (List aa)) (l ts:List aa) (m:Nat),n=m/\out.length+m=m1/\uB s m out l=uB s m1 [] s.bY.ai/\jZ s.aC l/\1<=l.length/\sH ts l/\uh st.get st.next c T O s ts/\x1<st.next/\st.get ⟨41000002,n0⟩=some ⟨true,1,[[.bI]]⟩/\env 29=.int .i64 (out.length:Int)/\KL x1 st.next out (env 8) st.get) m1
  ⟨[],s.bY.ai,s.bY.ai,m1,rfl,by simp,rfl,hP.zH,hP.some,sH.refl _,hC.frame aT fun x hx=>sd @Nat.zero_add,aT,sd @kC,sl @Nat.zero_add,.inl ⟨rfl,sd @Nat.zero_add⟩⟩ ?_
 rintro n env_f st_f ⟨out,l,ts,m,rfl,ik,rm,hA,XF,hsam,hCf,fx,fC,f29,hO⟩ hk
 have c5:=hk 5 (by kernel_rfl)
 have c7:=hk 7 (by kernel_rfl)
 have RD:=hk 28 (by kernel_rfl)
 simp only[go_sem, ↓reduceIte,Nat.reduceEqDiff,Nat.reduceAdd,Nat.reduceSub,Nat.reduceLeDiff,reduceCtorEq]at c5 c7 RD
 clear hk
 have DH:=hA.1.zm
 obtain⟨v8,e8⟩:∃v,env_f 8=v:=⟨_,rfl⟩
 rw[e8]at hO
 have vC:=db (i:=⟨41000002,n0⟩) (n:=st_f.next) aT
 by_cases h5:n=0
 ·have hd:¬(out.length:Int)<(m1:Int):=ah
  (try((repeat(revert hN;revert N;apply Pn.out));refine wk (tw @f29 (tw @RD (tw @hd (tw @c5 (tw @c7 @e8))))) ?_;(repeat(refine Pn.mk ?_;intro N hN))))
  refine .inr (aI _ _ _ _ _ (fun r' σ3 QX=>?_) (xo (L:=l) (hCf.o.frame aT fun x hx=>rfl) (by rw[hsam.perm.length_eq];omega) (fun e=>by have h9:=hsam.perm.length_eq;rw[e,List.length_nil]at h9;omega) hA.1.P8 hsam.perm))
  obtain⟨g3,x3⟩:=σ3
  obtain⟨o,rfl,u1,u2,u3,u4,u5⟩:=QX
  (try dsimp only at u1 u2 u3 u4 u5)
  have jC:=(u5 ⟨41000002,n0⟩ aT (fun e=>by rw[<-e]at NR;(try dsimp only at NR);omega)).trans fC
  refine hN _ _ ?_
  clear hN N
  have oC:=bH (a:=⟨41000002,n0⟩) (b:=o) aT
  (try((repeat(revert hN;revert N;apply Pn.out));refine wk (tw @c5 (tw @e8 @jC)) ?_;(repeat(refine Pn.mk ?_;intro N hN))))
  obtain⟨ids,Xm,OU⟩:=hO.out
  exact eS (.inl rfl) (vs:=[v8,.agg [.own o 0 l.length],.int .i64 0]) (sd @c5) ⟨ids++[o],⟨v8,ids,.own o 0 l.length,[o],by rw[<-rm,h5,uB];rfl,by
   rw[<-rm,h5,uB]
   exact Xm.frame fun i hi=>by
    have b9:=OU.2 i hi
    have e9:=bH (a:=⟨41000002,n0⟩) (b:=i) aT
    simp only[go_sem, ↓reduceIte,Nat.reduceEqDiff,Nat.reduceAdd,Nat.reduceSub,Nat.reduceLeDiff,reduceCtorEq,e9]
    exact(u5 i aT (fun e=>by rw[e]at b9;omega)).trans (rfl),by
   rw[<-rm,h5,uB]
   exact .inr ⟨o,[],rfl,by rw[List.append_nil];simp only[go_sem, ↓reduceIte,Nat.reduceEqDiff,Nat.reduceAdd,Nat.reduceSub,Nat.reduceLeDiff,reduceCtorEq,oC,u1],rfl,XF⟩,rfl⟩,⟨List.nodup_append.2 ⟨OU.1,by simp,fun x hx y hy e=>by rw[List.mem_singleton.1 hy]at e;have b9:=OU.2 x hx;rw[e]at b9;(try dsimp only at u2);omega⟩,fun i hi=>by
   rcases List.mem_append.1 hi with h|h
   ·have b9:=OU.2 i h;(try dsimp only);omega
   ·rw[List.mem_singleton.1 h];(try dsimp only);omega⟩⟩
 obtain⟨m',rfl⟩:∃m',n=m'+1:=⟨n-1,ah⟩
 have hd:(out.length:Int)<(m1:Int):=ah
 have DD:=Ey hP.set hA
 (try((repeat(revert hN;revert N;apply Pn.out));refine wk (tw @f29 (tw @RD (tw @hd (tw @c5 (tw @c7 @e8))))) ?_;(repeat(refine Pn.mk ?_;intro N hN))))
 refine .inr (aI _ _ _ _ _ (fun r σ2 hq=>?_) (S8 (σ:=⟨st_f.get,_⟩) (c:=c) (T:=T) (O:=O) (l:=l) ⟨hCf.o.row,by have:=hCf.o.cv;(try dsimp only);omega,by have:=hCf.o.ov;(try dsimp only);omega,by
  obtain⟨es,a1,a2⟩:=hCf.op
  rw[hsam.fit s]at a2
  exact⟨es,a1,a2.frame aT fun x _ _=>rfl⟩⟩ hT hP.set hA))
 obtain⟨g2,x2⟩:=σ2
 obtain⟨Ga,CE,hq⟩:=hq
 (try dsimp only at hq Ga CE)
 refine hN _ _ ?_
 clear hN N
 have ej:so (ew s l) s.aC.ai.length (jv l)=kT s l:=rfl
 rw[ej]at hq
 obtain⟨L,hL⟩:∃L,kT s l=L:=⟨_,rfl⟩
 rw[hL]at DD hq
 rcases hq with⟨ni,rfl⟩|⟨u,rfl,hu,Mc,V6,hu3,hu4⟩
 ·have h0:(kT s l).length=0:=by rw[hL,ni];rfl
  (try((repeat(revert hN;revert N;apply Pn.out));refine wk (tw @f29 (tw @RD (tw @hd (tw @c5 (tw @c7 @e8))))) ?_;(repeat(refine Pn.mk ?_;intro N hN))))
  refine aQ (fun n env st=>(env 33=.int .i64 0/\env 34=.int .i64 0/\env 9=.bI/\env 32=.bI)/\x2<=st.next/\∀x:Id,x.bj<st_f.next->st.get x=st_f.get x) 0 ⟨⟨sl @Nat.zero_add,sd @Nat.zero_add,sd @Nat.zero_add,sd @Nat.zero_add⟩,aT,fun x hx=>CE x aT⟩ ?_
  rintro z env_a st_a ⟨⟨a33,a34,a9,a32⟩,an,aF⟩ hk
  have e5:=hk 5 (by kernel_rfl)
  have e7:=hk 7 (by kernel_rfl)
  have YB:=hk 8 (by kernel_rfl)
  simp only[go_sem, ↓reduceIte,Nat.reduceEqDiff,Nat.reduceAdd,Nat.reduceSub,Nat.reduceLeDiff,reduceCtorEq,c5,c7,e8]at e5 e7 YB
  clear hk
  have d0:decide ((0:Int)<0)=false:=rfl
  have d1:decide (((0:Nat):Int)=0)=true:=rfl
  (try((repeat(revert hN;revert N;apply Pn.out));refine wk (tw @a33 (tw @a34 (tw @a9 (tw @a32 (tw @e7 (tw @d0 @d1)))))) ?_;(repeat(refine Pn.mk ?_;intro N hN))))
  refine .inr (aI _ _ _ _ _ (fun r' σ3 QX=>?_) (xo (L:=l) (hCf.o.frame aT fun x hx=>aF x hx) (by rw[hsam.perm.length_eq];omega) (fun e=>by have h9:=hsam.perm.length_eq;rw[e,List.length_nil]at h9;omega) hA.1.P8 hsam.perm))
  obtain⟨g3,x3⟩:=σ3
  obtain⟨o,rfl,u1,u2,u3,u4,u5⟩:=QX
  (try dsimp only at u1 u2 u3 u4 u5)
  have jC:=(u5 ⟨41000002,n0⟩ aT (fun e=>by rw[<-e]at NR;(try dsimp only at NR);omega)).trans ((aF _ aT).trans fC)
  refine hN _ _ ?_
  clear hN N
  have oC:=bH (a:=⟨41000002,n0⟩) (b:=o) aT
  (try((repeat(revert hN;revert N;apply Pn.out));refine wk (tw @e5 (tw @YB @jC)) ?_;(repeat(refine Pn.mk ?_;intro N hN))))
  obtain⟨ids,Xm,OU⟩:=hO.out
  exact eS (.inl rfl) (vs:=[v8,.agg [.own o 0 l.length],.int .i64 0]) (sd (tw @e5 @YB)) ⟨ids++[o],⟨v8,ids,.own o 0 l.length,[o],by rw[<-rm,s4 h0];rfl,by
   rw[<-rm,s4 h0]
   exact Xm.frame fun i hi=>by
    have b9:=OU.2 i hi
    have e9:=bH (a:=⟨41000002,n0⟩) (b:=i) aT
    simp only[go_sem, ↓reduceIte,Nat.reduceEqDiff,Nat.reduceAdd,Nat.reduceSub,Nat.reduceLeDiff,reduceCtorEq,e9]
    exact(u5 i aT (fun e=>by rw[e]at b9;omega)).trans (aF i ah),by
   rw[<-rm,s4 h0]
   exact .inr ⟨o,[],rfl,by rw[List.append_nil];simp only[go_sem, ↓reduceIte,Nat.reduceEqDiff,Nat.reduceAdd,Nat.reduceSub,Nat.reduceLeDiff,reduceCtorEq,oC,u1],rfl,XF⟩,rfl⟩,⟨List.nodup_append.2 ⟨OU.1,by simp,fun x hx y hy e=>by rw[List.mem_singleton.1 hy]at e;have b9:=OU.2 x hx;rw[e]at b9;(try dsimp only at u2);omega⟩,fun i hi=>by
   rcases List.mem_append.1 hi with h|h
   ·have b9:=OU.2 i h;(try dsimp only);omega
   ·rw[List.mem_singleton.1 h];(try dsimp only);omega⟩⟩
 ·(try dsimp only at hu Mc V6)
  have OV:0<L.length:=hu3
  (try((repeat(revert hN;revert N;apply Pn.out));refine wk (tw @f29 (tw @RD (tw @hd (tw @c5 (tw @c7 @e8))))) ?_;(repeat(refine Pn.mk ?_;intro N hN))))
  refine aQ (fun n env st=>∃k:Nat,n=(L.length)-k/\k<=(L.length)/\env 34=.int .i64 (k:Int)/\(x2<=st.next/\(∀x:Id,x.bj<x2->st.get x=g2 x)/\Rj 41014003 x2 st.next (im L k) (env 9) st.get)) (L.length) ⟨0,ah,ah,sl (tw @c5 (tw @c7 (tw @RD (tw @f29 @e8)))),by(try dsimp only);exact⟨ah,fun x hx=>sd @Nat.zero_add,.inl ⟨rfl,sd @Nat.zero_add⟩⟩⟩ ?_
  rintro n_b env_b st_b ⟨k,rfl,ble,b34,bI0⟩ eI
  have b5:=eI 5 (by kernel_rfl);have b7:=eI 7 (by kernel_rfl);have b8:=eI 8 (by kernel_rfl);have It:=eI 28 (by kernel_rfl);have Iu:=eI 29 (by kernel_rfl);have nJ:=eI 32 (by kernel_rfl);have nR:=eI 33 (by kernel_rfl)
  simp only[go_sem, ↓reduceIte,Nat.reduceEqDiff,Nat.reduceAdd,Nat.reduceSub,Nat.reduceLeDiff,reduceCtorEq,c5,c7,RD,f29,e8]at b5 b7 b8 It Iu nJ nR
  clear eI
  obtain⟨bn,eI,b9⟩:=bI0
  have gu:=(eI u V6).trans hu
  have wu:=db (i:=u) (n:=st_b.next) ah
  by_cases hk:(k:Int)<(L.length:Int)
  ·have eZ:∀{e:Env} {gg:Rows} {nx:Nat},(e 34=.int .i64 (IntKind.i64.wrap ((k:Int)+1)))->(x2<=nx/\(∀x:Id,x.bj<x2->gg x=g2 x)/\Rj 41014003 x2 nx (im L (k+1)) (e 9) gg)->∃m0,m0<(L.length)-k/\∃k:Nat,m0=(L.length)-k/\k<=(L.length)/\e 34=.int .i64 (k:Int)/\(x2<=nx/\(∀x:Id,x.bj<x2->gg x=g2 x)/\Rj 41014003 x2 nx (im L k) (e 9) gg):=fun x1 x2=>⟨_,ah,k+1,rfl,ah,(by rw[x1,ay ah]),x2⟩
   have fy:k<L.length:=ah
   have eP:=fF fy
   rw[ab]at eP
   have ik:(L.map ab).length=L.length:=by simp
   by_cases s8:0<k
   ·obtain⟨r,y,ZY,hy⟩:=EC (L:=L) s8
    have pg:=B6 L k
    rcases b9 with⟨h9,_⟩|⟨v,b9,hv,uc,Fc,SU,hv4⟩
    ·rw[ZY]at h9;simp at h9
    have wv:=db (i:=v) (n:=st_b.next) Fc
    have I7:decide (((im L k).length:Int)=0)=false:=decide_eq_false ah
    have s9:au Tryz.prog 99 [.sl ((im L k).map ab)] (.agg [.int .i64 y.aJ.eE,.int .i64 y.aJ.ez,.int .i64 y.br]):=by
     rw[ZY];exact Pz r y (by rw[ZY]at pg;simp at pg;omega)
    (try((repeat(revert hN;revert N;apply Pn.out));refine wk (tw @b34 (tw @b5 (tw @b7 (tw @b8 (tw @It (tw @Iu (tw @nJ (tw @nR (tw @hk (tw @eP (tw @ik (tw @gu (tw @wu (tw @b9 (tw @hv (tw @wv @I7)))))))))))))))) ?_;(repeat(refine Pn.mk ?_;intro N hN))))
    refine⟨_,au.x s9 (Vb (PV (sd (tw @wv @hv)))),?_⟩
    refine hN _ _ ?_
    clear hN N
    have L8:((im L k).map ab).length=(im L k).length:=by simp
    have DO:(im L k).length<=16777215:=ah
    by_cases hE:(aL L k).aJ=(aL L (k-1)).aJ
    ·have Sm:(!(decide (y.aJ.eE=(aL L k).aJ.eE)&&decide (y.aJ.ez=(aL L k).aJ.ez)))=false:=by rw[hy,hE];simp
     have ly:=MT (L:=L) (k:=k) ⟨s8,hE⟩
     (try((repeat(revert hN;revert N;apply Pn.out));refine wk (tw @b34 (tw @b5 (tw @b7 (tw @b8 (tw @It (tw @Iu (tw @nJ (tw @nR (tw @hk (tw @eP (tw @ik (tw @gu (tw @wu (tw @b9 (tw @hv (tw @wv (tw @I7 @Sm))))))))))))))))) ?_;(repeat(refine Pn.mk ?_;intro N hN))))
     exact eZ (sd (tw @b34 (tw @b5 (tw @b7 (tw @b8 (tw @It (tw @Iu (tw @nJ @nR)))))))) (by(try dsimp only);exact⟨ah,fun x hx=>(by
      have e2:=db (i:=x) (n:=st_b.next) ah
      simp only[go_sem, ↓reduceIte,Nat.reduceEqDiff,Nat.reduceAdd,Nat.reduceSub,Nat.reduceLeDiff,reduceCtorEq,e2]
      exact eI x hx),.inr ⟨v,by rw[ly];simp only[go_sem, ↓reduceIte,Nat.reduceEqDiff,Nat.reduceAdd,Nat.reduceSub,Nat.reduceLeDiff,reduceCtorEq,b9],by rw[ly];simp only[go_sem, ↓reduceIte,Nat.reduceEqDiff,Nat.reduceAdd,Nat.reduceSub,Nat.reduceLeDiff,reduceCtorEq,wv,hv],uc,aT,by rw[ly];exact SU,hv4⟩⟩)
    ·have Sm:(!(decide (y.aJ.eE=(aL L k).aJ.eE)&&decide (y.aJ.ez=(aL L k).aJ.ez)))=true:=by
      rw[hy]
      rcases zt:(aL L k).aJ with⟨a1,a2⟩
      rcases hpk1:(aL L (k-1)).aJ with⟨e1,e2⟩
      rw[zt,hpk1]at hE
      by_cases h9:e1=a1
      ·by_cases h8:e2=a2
       ·exact absurd (by rw[h9,h8]) hE
       ·simp[h8]
      ·simp[h9]
     have ly:=B7 (L:=L) (k:=k) fun h=>hE h.2
     have vJ:(im L (k+1)).length=(im L k).length+1:=by rw[ly];simp
     (try((repeat(revert hN;revert N;apply Pn.out));refine wk (tw @b34 (tw @b5 (tw @b7 (tw @b8 (tw @It (tw @Iu (tw @nJ (tw @nR (tw @hk (tw @eP (tw @ik (tw @gu (tw @wu (tw @b9 (tw @hv (tw @wv (tw @I7 (tw @Sm (tw @L8 @DO))))))))))))))))))) ?_;(repeat(refine Pn.mk ?_;intro N hN))))
     exact eZ (sd (tw @b34 (tw @b5 (tw @b7 (tw @b8 (tw @It (tw @Iu (tw @nJ @nR)))))))) (by(try dsimp only);exact⟨ah,fun x hx=>(by
      have e2:=db (i:=x) (n:=st_b.next) ah
      have e3:=bH (a:=x) (b:=v) ah
      simp only[go_sem, ↓reduceIte,Nat.reduceEqDiff,Nat.reduceAdd,Nat.reduceSub,Nat.reduceLeDiff,reduceCtorEq,e2,e3]
      exact eI x hx),.inr ⟨⟨41014003,st_b.next+1+1+1⟩,by rw[vJ];simp only[go_sem, ↓reduceIte,Nat.reduceEqDiff,Nat.reduceAdd,Nat.reduceSub,Nat.reduceLeDiff,reduceCtorEq],by rw[ly,List.map_append];simp only[go_sem, ↓reduceIte,Nat.reduceEqDiff,Nat.reduceAdd,Nat.reduceSub,Nat.reduceLeDiff,reduceCtorEq,ab,List.map_cons,List.map_nil],aT,aT,by rw[vJ];omega,rfl⟩⟩)
   ·have VL:k=0:=ah
    have b9':env_b 9=.bI:=by
     rcases b9 with⟨_,h⟩|⟨v,_,_,_,_,h,_⟩
     ·exact h
     ·rw[VL]at h;simp[im]at h
    have ly:im L (k+1)=[aL L k]:=by rw[B7 (L:=L) (k:=k) fun h=>s8 h.1,VL];rfl
    have I7:decide (((0:Nat):Int)=0)=true:=rfl
    (try((repeat(revert hN;revert N;apply Pn.out));refine wk (tw @b34 (tw @b5 (tw @b7 (tw @b8 (tw @It (tw @Iu (tw @nJ (tw @nR (tw @hk (tw @eP (tw @ik (tw @gu (tw @wu (tw @b9' @I7)))))))))))))) ?_;(repeat(refine Pn.mk ?_;intro N hN))))
    exact eZ (sd (tw @b34 (tw @b5 (tw @b7 (tw @b8 (tw @It (tw @Iu (tw @nJ @nR)))))))) (by(try dsimp only);exact⟨ah,fun x hx=>(by
     have e2:=db (i:=x) (n:=st_b.next) ah
     simp only[go_sem, ↓reduceIte,Nat.reduceEqDiff,Nat.reduceAdd,Nat.reduceSub,Nat.reduceLeDiff,reduceCtorEq,e2]
     exact eI x hx),.inr ⟨⟨41014003,st_b.next+1+1+1⟩,by rw[ly];simp only[go_sem, ↓reduceIte,Nat.reduceEqDiff,Nat.reduceAdd,Nat.reduceSub,Nat.reduceLeDiff,reduceCtorEq,List.length_singleton],by rw[ly];simp only[go_sem, ↓reduceIte,Nat.reduceEqDiff,Nat.reduceAdd,Nat.reduceSub,Nat.reduceLeDiff,reduceCtorEq,ab,List.map_cons,List.map_nil],aT,aT,by rw[ly];simp,rfl⟩⟩)
  ·have lj:k=L.length:=ah
   subst lj
   have QI:Fg s l=im L L.length:=by unfold Fg;rw[hL]
   have jO:=H5 L L.length OV
   have uG:=yM hP.set hA (Nat.le_refl (kT s l).length)
   rw[hL]at uG
   have VO:∀x∈im L L.length,eH s.aC x.br=true/\zd x.aJ=true:=fun x hx=>by
    obtain⟨i,hi,rfl⟩:=qG x hx
    have h9:=yv (s:=s) (l:=l) (x:=aL L i) (by rw[hL];exact gO hi)
    have h8:=h9.2
    simp only[ew,Bool.and_eq_true]at h8
    exact⟨h9.1,h8.1.1⟩
   have hRL:=B6 L L.length
   generalize hR:im L L.length=R at *
   rcases b9 with⟨h9,_⟩|⟨v,b9,hv,uc,Fc,SU,hv4⟩
   ·rw[h9]at jO;simp at jO
   have wv:=db (i:=v) (n:=st_b.next) Fc
   have I7:decide ((R.length:Int)=0)=false:=decide_eq_false ah
   have RV:∀x:Id,x.bj<st_f.next->st_b.get x=st_f.get x:=fun x hx=>(eI x ah).trans (CE x aT)
   have Vc:=hCf.frame (g':=st_b.get) (n':=st_b.next) ah RV
   have QL:=Vc.o.row
   have QJ:=Vc.o.tl
   have wc:=db Vc.o.cv
   have wT:=db Vc.o.tv
   have Fb:ts.length=l.length:=hsam.perm.length_eq
   have KA:(ts.map ab).length=l.length:=by rw[List.length_map,Fb]
   have hwl:IntKind.i64.wrap ((l.length:Int)+(R.length:Int))=(l.length:Int)+(R.length:Int):=bq ah
   have gC:=(RV ⟨41000002,n0⟩ aT).trans fC
   have wC:=db (i:=⟨41000002,n0⟩) (n:=st_b.next) aT
   have h0:¬(kT s l).length=0:=by rw[hL];omega
   by_cases E5:500<l.length+R.length
   ·have Sp:(500:Int)<(l.length:Int)+(R.length:Int):=ah
    (try((repeat(revert hN;revert N;apply Pn.out));refine wk (tw @b34 (tw @b5 (tw @b7 (tw @b8 (tw @It (tw @Iu (tw @nJ (tw @nR (tw @hk (tw @b9 (tw @I7 (tw @QL (tw @QJ (tw @wc (tw @wT (tw @KA (tw @hwl (tw @Sp (tw @gC @wC))))))))))))))))))) ?_;(repeat(refine Pn.mk ?_;intro N hN))))
    have o9:uB s (m'+1) out l=([],[],4):=by rw[uB,if_neg h0,if_pos (by rw[QI];exact E5)]
    exact eS (.inl rfl) (vs:=[.bI,.agg [.bI],.int .i64 4]) (sd (tw @b34 (tw @b5 (tw @b7 (tw @b8 (tw @It (tw @Iu (tw @nJ @nR)))))))) ⟨[],⟨.bI,[],.bI,[],by rw[<-rm,o9];rfl,by rw[<-rm,o9];exact .inl ⟨rfl,rfl,rfl⟩,by rw[<-rm,o9];exact .inl ⟨rfl,rfl,rfl⟩,rfl⟩,⟨List.nodup_nil,fun i hi=>by cases hi⟩⟩
   ·have Sp:¬(500:Int)<(l.length:Int)+(R.length:Int):=ah
    have Vm:(R.map ab).length=R.length:=by simp
    (try((repeat(revert hN;revert N;apply Pn.out));refine wk (tw @b34 (tw @b5 (tw @b7 (tw @b8 (tw @It (tw @Iu (tw @nJ (tw @nR (tw @hk (tw @b9 (tw @I7 (tw @QL (tw @QJ (tw @wc (tw @wT (tw @KA (tw @hwl (tw @Sp (tw @gC @wC))))))))))))))))))) ?_;(repeat(refine Pn.mk ?_;intro N hN))))
    refine aQ (fun n env st=>∃j:Nat,n=(R.length)-j/\j<=(R.length)/\env 69=.int .i64 (j:Int)/\(st_b.next<st.next/\uh st.get st.next c T O s (ts++R.take j)/\sH (ts++R.take j) (sg l R j)/\(∀x:Id,x.bj<st_b.next->x≠T->x≠O->st.get x=st_b.get x))) (R.length) ⟨0,ah,ah,sl (tw @b34 (tw @b5 (tw @b7 (tw @b8 (tw @It (tw @Iu (tw @nJ (tw @nR @b9)))))))),by(try dsimp only);exact⟨ah,by rw[List.take_zero,List.append_nil];exact Vc.frame aT fun x hx=>rfl,by rw[List.take_zero,List.append_nil];exact hsam,fun x _ _ _=>rfl⟩⟩ ?_
    rintro n_p env_p st_p ⟨j,rfl,ple,p69,pI0⟩ H3
    have p5:=H3 5 (by kernel_rfl);have p7:=H3 7 (by kernel_rfl);have p8:=H3 8 (by kernel_rfl);have p9:=H3 9 (by kernel_rfl);have UE:=H3 28 (by kernel_rfl);have UF:=H3 29 (by kernel_rfl);have UG:=H3 67 (by kernel_rfl);have UH:=H3 68 (by kernel_rfl)
    simp only[go_sem, ↓reduceIte,Nat.reduceEqDiff,Nat.reduceAdd,Nat.reduceSub,Nat.reduceLeDiff,reduceCtorEq,b34,b5,b7,b8,It,Iu,nJ,nR,b9]at p5 p7 p8 p9 UE UF UG UH
    clear H3
    obtain⟨pn,pC,pS,H3⟩:=pI0
    have vT:(v=T)=False:=(bH (a:=T) (b:=v) (by have:=hCf.o.tv;omega)).2
    have vO:(v=O)=False:=(bH (a:=O) (b:=v) (by have:=hCf.o.ov;omega)).2
    have gv:=(H3 v Fc (of_eq_false vT) (of_eq_false vO)).trans hv
    have zv:=db (i:=v) (n:=st_p.next) ah
    by_cases hj:(j:Int)<(R.length:Int)
    ·have Wq:∀{e:Env} {gg:Rows} {nx:Nat},(e 69=.int .i64 (IntKind.i64.wrap ((j:Int)+1)))->(st_b.next<nx/\uh gg nx c T O s (ts++R.take (j+1))/\sH (ts++R.take (j+1)) (sg l R (j+1))/\(∀x:Id,x.bj<st_b.next->x≠T->x≠O->gg x=st_b.get x))->∃m0,m0<(R.length)-j/\∃j:Nat,m0=(R.length)-j/\j<=(R.length)/\e 69=.int .i64 (j:Int)/\(st_b.next<nx/\uh gg nx c T O s (ts++R.take j)/\sH (ts++R.take j) (sg l R j)/\(∀x:Id,x.bj<st_b.next->x≠T->x≠O->gg x=st_b.get x)):=fun x1 x2=>⟨_,ah,j+1,rfl,ah,(by rw[x1,ay ah]),x2⟩
     have ga:j<R.length:=ah
     have y8:=fF ga
     rw[ab]at y8
     obtain⟨QE,VD⟩:=uG j ah ah
     obtain⟨XU,hpj⟩:=VO _ (gO ga)
     have h0j:=VD j (Nat.le_refl _) ga
     have nj:=yY ga
     have ZT:=uP (l:=l) ga
     (try((repeat(revert hN;revert N;apply Pn.out));refine wk (tw @p69 (tw @p5 (tw @p7 (tw @p8 (tw @p9 (tw @UE (tw @UF (tw @UG (tw @UH (tw @hj (tw @y8 (tw @Vm (tw @gv @zv))))))))))))) ?_;(repeat(refine Pn.mk ?_;intro N hN))))
     refine .inr (aI _ _ _ _ _ (fun r' σ3 QX=>?_) (Wt (pC.frame aT (fun x hx=>by
      have h9:=db hx
      simp only[go_sem, ↓reduceIte,Nat.reduceEqDiff,Nat.reduceAdd,Nat.reduceSub,Nat.reduceLeDiff,reduceCtorEq,h9])) hP.set (fun q hq=>by rw[pS.at_]at hq ⊢;exact iG.K0 QE q hq) (aL R j).aJ hpj (aL R j).br XU (pS.no h0j)))
     obtain⟨g3,x3⟩:=σ3
     obtain⟨rfl,hC3,VT,hf3⟩:=QX
     (try dsimp only at hC3 VT hf3)
     refine hN _ _ ?_
     clear hN N
     (try((repeat(revert hN;revert N;apply Pn.out));refine wk (tw @p69 (tw @p5 (tw @p7 (tw @p8 (tw @p9 (tw @UE (tw @UF (tw @UG @UH)))))))) ?_;(repeat(refine Pn.mk ?_;intro N hN))))
     exact Wq (sd (tw @p69 (tw @p5 (tw @p7 (tw @p8 (tw @p9 (tw @UE (tw @UF (tw @UG @UH))))))))) (by(try dsimp only);exact⟨ah,by rw[nj,<-List.append_assoc];exact hC3.frame ah fun x hx=>rfl,by rw[nj,<-List.append_assoc,ZT];exact pS.put h0j,fun x hx Md zy=>(by
      have h9:=db (i:=x) (n:=st_p.next) ah
      have h8:=hf3 x ah Md zy
      simp only[go_sem, ↓reduceIte,Nat.reduceEqDiff,Nat.reduceAdd,Nat.reduceSub,Nat.reduceLeDiff,reduceCtorEq,h9]at h8
      exact h8.trans (H3 x hx Md zy))⟩)
    ·have gY:j=R.length:=ah
     subst gY
     rw[List.take_length]at pC pS
     rw[nC]at pS
     have gC2:=(H3 ⟨41000002,n0⟩ aT (fun e=>by rw[<-e]at NR;(try dsimp only at NR);omega) (fun e=>by rw[<-e]at Ue;(try dsimp only at Ue);omega)).trans gC
     have zC:=db (i:=⟨41000002,n0⟩) (n:=st_p.next) aT
     have QE:=(uG R.length (Nat.le_refl _) ah).1
     rw[nC]at QE
     rw[uB,if_neg h0,if_neg (by rw[QI];exact E5),QI,nC]at rm
     rcases hO with⟨ho1,ZM⟩|⟨hop1,ids,⟨oo,rows,is,ZM,LZ,QH,rfl⟩,hNI⟩
     ·have jt:IntKind.i64.wrap ((out.length:Int)+1)=((out.length+1:Nat):Int):=by rw[bq ah];omega
      (try((repeat(revert hN;revert N;apply Pn.out));refine wk (tw @p69 (tw @p5 (tw @p7 (tw @p8 (tw @p9 (tw @UE (tw @UF (tw @UG (tw @UH (tw @hj (tw @b9 @ZM))))))))))) ?_;(repeat(refine Pn.mk ?_;intro N hN))))
      exact⟨m',Nat.lt_succ_self _,out++[R],qe l R,ts++R,m',rfl,by rw[List.length_append,List.length_singleton];omega,rm,QE,by rw[tu];omega,pS,pC.frame aT (fun x hx=>by
       have h9:=db hx
       simp only[go_sem, ↓reduceIte,Nat.reduceEqDiff,Nat.reduceAdd,Nat.reduceSub,Nat.reduceLeDiff,reduceCtorEq,h9]),aT,sd (tw @zC @gC2),by rw[List.length_append,List.length_singleton];simp only[go_sem, ↓reduceIte,Nat.reduceEqDiff,Nat.reduceAdd,Nat.reduceSub,Nat.reduceLeDiff,reduceCtorEq,jt],.inr ⟨by simp,[⟨41024003,st_p.next+1⟩,v],⟨⟨41024003,st_p.next+1⟩,[[.own v 0 R.length]],[v],by rw[ho1];simp only[go_sem, ↓reduceIte,Nat.reduceEqDiff,Nat.reduceAdd,Nat.reduceSub,Nat.reduceLeDiff,reduceCtorEq,List.nil_append,List.length_singleton],sd @Nat.zero_add,by rw[ho1];exact dD.one ⟨v,rfl,sd (tw @zv @gv),rfl⟩,rfl⟩,⟨by simp;intro e;rw[<-e]at Fc;(try dsimp only at Fc);omega,fun i hi=>by
       rcases List.mem_cons.1 hi with rfl|hi
       ·(try dsimp only);omega
       ·rw[List.mem_singleton.1 hi];(try dsimp only);omega⟩⟩⟩
     ·have Je:=hNI.2 oo (by simp)
      have jt:IntKind.i64.wrap ((out.length:Int)+1)=((out.length+1:Nat):Int):=by rw[bq ah];omega
      have YG:∀x:Id,x1<=x.bj->x.bj<st_f.next->st_p.get x=st_f.get x:=fun x h3 h4=>(H3 x ah (fun e=>by rw[e]at h3;omega) (fun e=>by rw[e]at h3;omega)).trans (RV x h4)
      have Xe:=(YG oo Je.1 Je.2).trans LZ
      have zoo:=db (i:=oo) (n:=st_p.next) ah
      have pg:=QH.len
      have DO:out.length<=16777215:=ah
      have ov:=bH (a:=oo) (b:=v) ah
      have oC:=bH (a:=⟨41000002,n0⟩) (b:=oo) aT
      (try((repeat(revert hN;revert N;apply Pn.out));refine wk (tw @p69 (tw @p5 (tw @p7 (tw @p8 (tw @p9 (tw @UE (tw @UF (tw @UG (tw @UH (tw @hj (tw @b9 (tw @ZM (tw @Xe (tw @zoo (tw @pg @DO))))))))))))))) ?_;(repeat(refine Pn.mk ?_;intro N hN))))
      have hp:=CN.push (lo:=x1) (m:=st_f.next) (n':=st_p.next+1+1+1) (R:=R) (u:=v) (y:=⟨41000002,n0⟩) (o':=⟨41024003,st_p.next+1⟩) (g':=bE (cj (bE st_p.get ⟨41024002,st_p.next+1⟩ ⟨true,1,[[.own v 0 R.length]]⟩) oo) ⟨41024003,st_p.next+1⟩ ⟨true,1,rows++[[.own v 0 R.length]]⟩) QH hNI (fun hc=>by have:=hNI.2 _ hc;(try dsimp only at this);omega) (fun x h1 h2 h3 h4=>by
       have e1:=eq_false h3
       have e2:=db (i:=x) (n:=st_p.next) ah
       simp only[go_sem, ↓reduceIte,Nat.reduceEqDiff,Nat.reduceAdd,Nat.reduceSub,Nat.reduceLeDiff,reduceCtorEq,e1,e2]
       exact YG x h1 h2) (sd (tw @zv (tw @ov @gv))) ah aT aT ah (fun e=>by rw[<-e]at uc;(try dsimp only at uc);omega) (by simp) (sd @Nat.zero_add)
      have Zu:(out++[R]).length=out.length+1:=by simp
      rw[Zu]at hp
      obtain⟨ids,Pc,E9,_⟩:=hp
      exact⟨m',Nat.lt_succ_self _,out++[R],qe l R,ts++R,m',rfl,by rw[List.length_append,List.length_singleton];omega,rm,QE,by rw[tu];omega,pS,pC.but aT Xe (QH.frame qH fun i hi=>YG i (hNI.2 i (by simp[hi])).1 (hNI.2 i (by simp[hi])).2) hop1 (fun x hx Ak=>by
       have h9:=db hx
       have h8:=eq_false Ak
       simp only[go_sem, ↓reduceIte,Nat.reduceEqDiff,Nat.reduceAdd,Nat.reduceSub,Nat.reduceLeDiff,reduceCtorEq,h9,h8]),aT,sd (tw @zC (tw @oC @gC2)),by rw[List.length_append,List.length_singleton];simp only[go_sem, ↓reduceIte,Nat.reduceEqDiff,Nat.reduceAdd,Nat.reduceSub,Nat.reduceLeDiff,reduceCtorEq,jt],.inr ⟨by simp,ids,by simp only[go_sem, ↓reduceIte,Nat.reduceEqDiff,Nat.reduceAdd,Nat.reduceSub,Nat.reduceLeDiff,reduceCtorEq];exact Pc,E9⟩⟩
end Go.Proofs.YtgoljkjaameagaaGreat.V

namespace Go.Proofs.YtgoljkjaameagaaGreat
open Go.ChangeShapes Go.WideShapes Go.ChangeAt Go.RowKit Go.Deep
section
variable {H:Type} {enc:TypeId×Value->H} {P:Program} {w:World}
theorem nO.Wn {α:Type} {rep:World->List Nat->List Value->α->Prop} {sz:Nat} {w:World} {b o len cap:Nat} (pH:Nat->List Value) (fs:Nat->List Nat) (ds:Nat->α) (hc:len<=cap) (hm:cap<=maxLen)
  (hl:∀i,i<len->(pH i).length=sz) (hr:∀i,i<len->rep w (fs i) (pH i) (ds i)) (tW:∀i,i<len->∀j u,(pH i)[j]? =some u->w.cell? ⟨b,o+(i*sz+j),none⟩=some u):
  nO rep sz w ([b]++((List.range len).map fs).flatten) (.slice (some ⟨b,o,none⟩) len cap) ((List.range len).map ds):=by
 refine⟨(List.range len).map pH,(List.range len).map fs,[b],rfl,⟨some ⟨b,o,none⟩,cap,by simp,by simpa using hc,hm,.inr ⟨b,o,rfl,rfl,fun j u hj=>?_⟩⟩,by simp,by simp,fun i cs f d h1 h2 h3=>?_⟩
 ·have hlen:∀cs∈(List.range len).map pH,cs.length=sz:=fun cs dx=>by
   obtain⟨i,hi,rfl⟩:=List.mem_map.1 dx
   exact hl i (List.mem_range.1 hi)
  have gY:=(List.getElem?_eq_some_iff.1 hj).1
  have E5:((List.range len).map pH).flatten.length=len*sz:=by
   rw[List.length_flatten,List.map_map]
   have:∀(l:List Nat),(∀i∈l,i<len)->(l.map (List.length∘pH)).sum=l.length*sz:=by
    intro l
    induction l with
    |nil=>intro _;simp
    |cons a l ih=>intro h;rw[List.map_cons,List.sum_cons,ih fun i hi=>h i (List.mem_cons_of_mem _ hi)];simp only[Function.comp,hl a (h a (by simp)),List.length_cons,Nat.add_mul];omega
   rw[this _ fun i hi=>List.mem_range.1 hi,List.length_range]
  rw[E5]at gY
  have DQ:0<sz:=by
   rcases Nat.eq_zero_or_pos sz with h|h
   ·subst h;simp at gY
   ·exact h
  have hi:j / sz<len:=(Nat.div_lt_iff_lt_mul DQ).2 gY
  have QT:j % sz<sz:=Nat.mod_lt _ DQ
  have O2:j=(j / sz)*sz+j % sz:=by rw[Nat.mul_comm];exact(Nat.div_add_mod j sz).symm
  rw[O2,vw hlen (i:=j / sz) (cs:=pH (j / sz)) (by simp[hi]) QT]at hj
  rw[O2]
  have:=tW (j / sz) hi (j % sz) u hj
  rw[<-O2]at this ⊢
  exact this
 ·have hi:i<len:=by
   have:=(List.getElem?_eq_some_iff.1 h1).1
   simpa using this
  simp[hi]at h1 h2 h3
  subst h1 h2 h3
  exact⟨hr i hi,hl i hi⟩
theorem kY (b o k:Nat):(⟨b,o,none⟩:Addr).add k=⟨b,o+k,none⟩:=by
 unfold Addr.add;split
 ·rename_i h;subst h;rfl
 ·rfl
theorem qP {α:Type} {rep:World->List Nat->List Value->α->Prop} {Q:α->Prop} {t e:TypeId} {sz fuel:Nat} {cs:List Value} {x:DataW H×List MemPlace} (ht:P.underlying t=some (.slice e)) (hC:P.cellsOf e=sz) (DQ:0<sz)
  (h:DataW.trod enc P w 0 (fun _=>true) true fuel t cs=some x) (hel:∀n rl y,rl.length=sz->DataW.trod enc P w 0 (fun _=>true) true n e rl=some y->∃f d,gI f 0 w.heap.size/\rep w f rl d/\Q d):
  ∃A n c f xs,cs=[.slice A n c]/\gI f 0 w.heap.size/\nO rep sz w f (.slice A n c) xs/\∀d∈xs,Q d:=by
 rcases open_slice ht h with⟨rfl,_⟩|⟨a,len,cap,m,n,D,Pl,rfl,_,hl,hm,SE,_,hi⟩
 ·exact⟨none,0,0,[],[],rfl,gI.nil _ _,nO.nil _ _ _,fun d h=>by cases h⟩
 rw[hC]at hi
 simp only[if_true]at SE
 by_cases h0:len=0
 ·subst h0
  exact⟨some a,0,cap,[],[],rfl,gI.nil _ _,⟨[],[],[],rfl,⟨some a,cap,rfl,Nat.zero_le _,hm,.inl ⟨rfl,rfl⟩⟩,rfl,rfl,fun i cs f d hc=>by simp at hc⟩,fun d h=>by cases h⟩
 obtain⟨b,o,sp⟩:=a
 have cell0:∃v,w.cell? ⟨b,o,sp⟩=some v:=by
  obtain⟨rl,hc,_⟩:=hi 0 (by omega)
  obtain⟨_,mO,tW⟩:=World.cells?_some hc
  refine⟨rl[0]'(by omega),?_⟩
  have:=tW 0 DQ
  rw[List.getElem?_eq_getElem (by omega)]at this
  simpa[Addr.add]using this
 obtain⟨v0,r4⟩:=cell0
 have hb:b<w.heap.size:=World.block_lt_of_cell? w _ r4
 have SP:sp=none:=by
  unfold World.cell? at r4
  split at r4
  ·split at r4
   ·cases r4
   ·rename_i h;simpa using h
  ·cases r4
 subst SP
 have key:∀i,i<len->∃rl f d,rl.length=sz/\gI f 0 w.heap.size/\rep w f rl d/\Q d/\∀j u,rl[j]? =some u->w.cell? ⟨b,o+(i*sz+j),none⟩=some u:=fun i mb=>by
  obtain⟨rl,hc,htr⟩:=hi i (by omega)
  obtain⟨_,mO,tW⟩:=World.cells?_some hc
  obtain⟨f,d,h1,h2,h3⟩:=hel n rl _ mO htr
  refine⟨rl,f,d,mO,h1,h2,h3,fun j u hj=>?_⟩
  have gY:=(List.getElem?_eq_some_iff.1 hj).1
  have:=tW j (by omega)
  rw[hj]at this
  rw[<-this,Go.Deep.add_add,kY]
 have:Nonempty α:=by
  obtain⟨_,_,d,_⟩:=key 0 (by omega)
  exact⟨d⟩
 let cf:Nat->List Value:=fun i=>if hi:i<len then(key i hi).choose else[]
 let ff:Nat->List Nat:=fun i=>if hi:i<len then(key i hi).choose_spec.choose else[]
 let df:Nat->α:=fun i=>if hi:i<len then(key i hi).choose_spec.choose_spec.choose else Classical.choice this
 have dP:∀i,i<len->(cf i).length=sz/\gI (ff i) 0 w.heap.size/\rep w (ff i) (cf i) (df i)/\Q (df i)/\∀j u,(cf i)[j]? =some u->w.cell? ⟨b,o+(i*sz+j),none⟩=some u:=fun i hi=>by
  have:=(key i hi).choose_spec.choose_spec.choose_spec
  simp only[cf,ff,df,dif_pos hi]
  exact this
 refine⟨some ⟨b,o,none⟩,len,cap,_,(List.range len).map df,rfl,?_,nO.Wn cf ff df hl hm (fun i hi=>(dP i hi).1) (fun i hi=>(dP i hi).2.2.1) (fun i hi=>(dP i hi).2.2.2.2),fun d hd=>?_⟩
 ·intro x hx
  rcases List.mem_append.1 hx with hx|hx
  ·simp at hx;subst hx;exact⟨Nat.zero_le _,hb⟩
  ·obtain⟨l,xT,Uy⟩:=List.mem_flatten.1 hx
   obtain⟨i,hi,rfl⟩:=List.mem_map.1 xT
   exact(dP i (List.mem_range.1 hi)).2.1 x Uy
 ·obtain⟨i,hi,rfl⟩:=List.mem_map.1 hd
  exact(dP i (List.mem_range.1 hi)).2.2.2.1
end
section
variable {H:Type} {enc:TypeId×Value->H} {w:World} {fuel:Nat} {cs:List Value} {x:DataW H×List MemPlace}
abbrev TT (enc:TypeId×Value->H) (w:World) (fuel t:Nat) (cs:List Value) (x:DataW H×List MemPlace):Prop:=DataW.trod enc Tryz.prog w 0 (fun _=>true) true fuel t cs=some x
theorem Tg (h:TT enc w fuel 31 cs x):∃A n c f xs,cs=[.slice A n c]/\gI f 0 w.heap.size/\xl w f (.slice A n c) xs:=by
 obtain⟨A,n,c,f,xs,h1,h2,h3,_⟩:=qP (rep:=Hm) (Q:=fun _=>True) Tryz.underlying31 (sz:=1) (by kernel_rfl) (by omega) h fun n rl y hl hy=>by
  obtain⟨b,rfl,_⟩:=DataW.trod_int Tryz.underlying2 hy
  exact⟨[],b,gI.nil _ _,⟨rfl,rfl⟩,trivial⟩
 exact⟨A,n,c,f,xs,h1,h2,h3⟩
theorem oh {t:TypeId} {fs:Array Field} (ht:Tryz.prog.underlying t=some (.struct fs)) (h:TT enc w fuel t cs x):cs.length=Tryz.prog.cellsOf t/\∃n,∀(i:Nat) (f:Field),fs[i]? =some f->∃y,TT enc w n f.type ((cs.drop f.offset).take (Tryz.prog.cellsOf f.type)) y:=by
 obtain⟨xs,n,_,_,hl,Uy,hf⟩:=DataW.trod_struct ht h
 refine⟨hl,n,fun i f hi=>?_⟩
 have mb:i<xs.length:=by rw[Uy];exact(Array.getElem?_eq_some_iff.1 hi).1
 exact⟨xs[i],(hf i f hi).trans (List.getElem?_eq_getElem mb)⟩
theorem Wj {l:List Value} (h:l.length=2):∃a b,l=[a,b]:=by
 match l,h with
 |[a,b],_=>exact⟨a,b,rfl⟩
theorem len3 {l:List Value} (h:l.length=3):∃a b c,l=[a,b,c]:=by
 match l,h with
 |[a,b,c],_=>exact⟨a,b,c,rfl⟩
theorem len1 {l:List Value} (h:l.length=1):∃a,l=[a]:=by
 match l,h with
 |[a],_=>exact⟨a,rfl⟩
theorem len4 {l:List Value} (h:l.length=4):∃a b c d,l=[a,b,c,d]:=by
 match l,h with
 |[a,b,c,d],_=>exact⟨a,b,c,d,rfl⟩
theorem PN (h:TT enc w fuel 22 cs x):∃A n c f xs,cs=[.slice A n c]/\gI f 0 w.heap.size/\sF w f (.slice A n c) xs/\∀d∈xs,d.aP.size<=9223372036854775807:=by
 exact qP (rep:=KN) (Q:=fun d=>d.aP.size<=9223372036854775807) Tryz.underlying22 (sz:=2) (by kernel_rfl) (by omega) h fun n rl y hl hy=>by
  obtain⟨_,m,hf⟩:=oh Tryz.underlying247 hy
  obtain⟨a,b,rfl⟩:=Wj hl
  ·skip
   obtain⟨y0,h0⟩:=hf 0 _ rfl
   obtain⟨y1,h1⟩:=hf 1 _ rfl
   rw[show Tryz.prog.cellsOf _=1 from by kernel_rfl]at h0 h1
   obtain⟨p,e0,_,ws⟩:=DataW.trod_string Tryz.underlying9 h0
   obtain⟨q,e1,_⟩:=DataW.trod_int Tryz.underlying2 h1
   simp at e0 e1
   subst e0 e1
   exact⟨[],⟨p,q⟩,gI.nil _ _,⟨rfl,rfl⟩,by simpa[maxLen]using ws⟩
theorem PO (h:TT enc w fuel 23 cs x):∃A n c f xs,cs=[.slice A n c]/\gI f 0 w.heap.size/\sG w f (.slice A n c) xs/\∀d∈xs,d.aP.size<=9223372036854775807:=by
 exact qP (rep:=KO) (Q:=fun d=>d.aP.size<=9223372036854775807) Tryz.underlying23 (sz:=2) (by kernel_rfl) (by omega) h fun n rl y hl hy=>by
  obtain⟨_,m,hf⟩:=oh Tryz.underlying250 hy
  obtain⟨a,b,rfl⟩:=Wj hl
  ·skip
   obtain⟨y0,h0⟩:=hf 0 _ rfl
   obtain⟨y1,h1⟩:=hf 1 _ rfl
   rw[show Tryz.prog.cellsOf _=1 from by kernel_rfl]at h0 h1
   obtain⟨p,e0,_,ws⟩:=DataW.trod_string Tryz.underlying9 h0
   obtain⟨A1,n1,c1,f1,WL,e1,k1,s1⟩:=Tg h1
   simp at e0 e1
   subst e0 e1
   exact⟨_,⟨p,WL⟩,k1,⟨_,f1,rfl,rfl,s1⟩,by simpa[maxLen]using ws⟩
theorem JP (h:TT enc w fuel 26 cs x):∃A n c f xs,cs=[.slice A n c]/\gI f 0 w.heap.size/\lG w f (.slice A n c) xs:=by
 obtain⟨A,n,c,f,xs,h1,h2,h3,_⟩:=qP (rep:=CQ) (Q:=fun _=>True) Tryz.underlying26 (sz:=3) (by kernel_rfl) (by omega) h fun n rl y hl hy=>by
  obtain⟨_,m,hf⟩:=oh Tryz.underlying208 hy
  obtain⟨a,b,c,rfl⟩:=len3 hl
  ·skip
   obtain⟨y0,h0⟩:=hf 0 _ rfl
   obtain⟨y1,h1⟩:=hf 1 _ rfl
   rw[show Tryz.prog.cellsOf _=2 from by kernel_rfl]at h0
   rw[show Tryz.prog.cellsOf _=1 from by kernel_rfl]at h1
   obtain⟨_,m2,CE⟩:=oh Tryz.underlying163 h0
   obtain⟨z0,g0⟩:=CE 0 _ rfl
   obtain⟨z1,g1⟩:=CE 1 _ rfl
   rw[show Tryz.prog.cellsOf _=1 from by kernel_rfl]at g0 g1
   obtain⟨px,e0,_⟩:=DataW.trod_int Tryz.underlying2 g0
   obtain⟨py,e1,_⟩:=DataW.trod_int Tryz.underlying2 g1
   obtain⟨ti,e2,_⟩:=DataW.trod_int Tryz.underlying2 h1
   simp at e0 e1 e2
   subst e0 e1 e2
   exact⟨[],⟨⟨px,py⟩,ti⟩,gI.nil _ _,⟨rfl,rfl⟩,trivial⟩
 exact⟨A,n,c,f,xs,h1,h2,h3⟩
theorem Gz (h:TT enc w fuel 28 cs x):∃A n c f,∃d:iP,cs=[.slice A n c]/\gI f 0 w.heap.size/\lG w f (.slice A n c) d.ai:=by
 obtain⟨hl,m,hf⟩:=oh Tryz.underlying28 h
 rw[show Tryz.prog.cellsOf _=1 from by kernel_rfl]at hl
 obtain⟨a,rfl⟩:=len1 hl
 ·skip
  obtain⟨y0,h0⟩:=hf 0 _ rfl
  rw[show Tryz.prog.cellsOf _=1 from by kernel_rfl]at h0
  obtain⟨A1,n1,c1,f1,WL,e1,k1,s1⟩:=JP h0
  simp at e1
  subst e1
  exact⟨A1,n1,c1,f1,⟨WL⟩,rfl,k1,s1⟩
theorem ME (h:TT enc w fuel 30 cs x):∃A0 n0 c0 f0 A1 n1 c1 f1 A2 n2 c2 f2,∃d:aE,cs=[.slice A0 n0 c0,.slice A1 n1 c1,.slice A2 n2 c2,.int .i64 d.az]/\gI f0 0 w.heap.size/\sF w f0 (.slice A0 n0 c0) d.aC.aB/\gI f1 0 w.heap.size/\sG w f1 (.slice A1 n1 c1) d.aC.ai/\gI f2 0 w.heap.size/\lG w f2 (.slice A2 n2 c2) d.bY.ai/\(∀g∈d.aC.aB,g.aP.size<=9223372036854775807)/\∀t∈d.aC.ai,t.aP.size<=9223372036854775807:=by
 obtain⟨hl,m,hf⟩:=oh Tryz.underlying30 h
 rw[show Tryz.prog.cellsOf _=4 from by kernel_rfl]at hl
 obtain⟨a,b,c,d,rfl⟩:=len4 hl
 ·skip
  obtain⟨y0,h0⟩:=hf 0 _ rfl
  obtain⟨y1,h1⟩:=hf 1 _ rfl
  obtain⟨y2,h2⟩:=hf 2 _ rfl
  rw[show Tryz.prog.cellsOf _=2 from by kernel_rfl]at h0
  rw[show Tryz.prog.cellsOf _=1 from by kernel_rfl]at h1 h2
  obtain⟨_,m2,CE⟩:=oh Tryz.underlying25 h0
  obtain⟨z0,g0⟩:=CE 0 _ rfl
  obtain⟨z1,g1⟩:=CE 1 _ rfl
  rw[show Tryz.prog.cellsOf _=1 from by kernel_rfl]at g0 g1
  obtain⟨A0,n0,c0,f0,xs0,e0,k0,s0,o0⟩:=PN g0
  obtain⟨A1,n1,c1,f1,WL,e1,k1,s1,o1⟩:=PO g1
  obtain⟨A2,n2,c2,f2,d2,e2,k2,s2⟩:=Gz h1
  obtain⟨t,e3,_⟩:=DataW.trod_int Tryz.underlying2 h2
  simp at e0 e1 e2 e3
  subst e0 e1 e2 e3
  exact⟨A0,n0,c0,f0,A1,n1,c1,f1,A2,n2,c2,f2,⟨⟨xs0,WL⟩,d2,t⟩,rfl,k0,s0,k1,s1,k2,s2,o0,o1⟩
end
end Go.Proofs.YtgoljkjaameagaaGreat

namespace Go.Proofs.YtgoljkjaameagaaGreat
open Go.ChangeShapes Go.WideShapes Go.ChangeAt Go.RowKit V
theorem Ws:ownKnob Tryz.prog.godebug=none:=by kernel_rfl
theorem Mo:laidOutB Tryz.prog=true:=by kernel_rfl
theorem Ih:∀{L:List (List aa)},(∀R∈L,R.length<=500)->(L.map lr).sum<=1500*L.length
 |[],_=>by simp
 |R::L,h=>by
  have h1:=Ih (L:=L) fun R hR=>h R (by simp[hR])
  have h2:=h R (by simp)
  simp only[List.map_cons,List.sum_cons,List.length_cons,lr];omega
theorem HG {s:aE}:∀{n:Nat} {out:List (List aa)} {l:List aa},l.length<=500->(∀R∈out,R.length<=500)->(uB s n out l).1.length<=out.length+n/\(∀R∈(uB s n out l).1,R.length<=500)/\(uB s n out l).2.1.length<=500
 |0,out,l,h,ho=>⟨Nat.le_refl _,ho,h⟩
 |n+1,out,l,h,ho=>by
  rw[uB]
  split
  ·exact⟨by(try dsimp only);omega,ho,h⟩
  ·split
   ·exact⟨by simp,fun R hR=>(by cases hR),by simp⟩
   ·rename_i h1
    have h2:=tx (l:=l) (R:=Fg s l) (Nat.le_refl _)
    have h3:=HG (s:=s) (n:=n) (out:=out++[Fg s l]) (l:=sg l (Fg s l) (Fg s l).length) (by omega) (fun R hR=>by
     rcases List.mem_append.1 hR with h9|h9
     ·exact ho R h9
     ·rw[List.mem_singleton.1 h9];omega)
    rw[List.length_append,List.length_singleton]at h3
    exact⟨by have:=h3.1;omega,h3.2⟩
theorem Dx (s:aE) (m:Int):((kf s m).1.map lr).sum+(kf s m).1.length<=1099511627776/\(kf s m).2.1.length<=1099511627776:=by
 unfold kf
 split
 ·rename_i hb
  split
  ·rename_i hi
   have h1:=dB hi
   have hP:=tN.1 hb
   have h2:=HG (s:=s) (n:=m.toNat) (out:=[]) (l:=s.bY.ai) hP.zH.1.zm (fun R hR=>(by cases hR))
   have h3:=Ih h2.2.1
   have h4:=h2.1
   have h5:=h2.2.2
   rw[List.length_nil]at h4
   omega
  ·simp
 ·simp
theorem Aa (R:List (List aa)×List aa×Int) (h:R.2.2≠0->R.1=[]/\R.2.1=[]):iE eT R.1 (xO R).1/\iE ab R.2.1 (xO R).2:=by
 unfold xO
 split
 ·exact⟨.inr rfl,.inr rfl⟩
 ·rename_i h0
  obtain⟨h1,h2⟩:=h h0
  rw[h1,h2]
  exact⟨.inl ⟨rfl,rfl⟩,.inl ⟨rfl,rfl⟩⟩
theorem Dw (s:aE) (m:Int) (h:(kf s m).2.2≠0):(kf s m).1=[]/\(kf s m).2.1=[]:=by
 unfold kf at *
 split at h
 ·rename_i h1
  rw[if_pos h1]
  split at h
  ·rename_i h2
   rw[if_pos h2,HF h];exact⟨rfl,rfl⟩
  ·rename_i h2;rw[if_neg h2];exact⟨rfl,rfl⟩
 ·rename_i h1;rw[if_neg h1];exact⟨rfl,rfl⟩
theorem OO (s:aE) (m:Int) (hn:iq s.aC):au Tryz.prog 7 [.agg (aA s),.int .i64 m] (.bool true):=
 PA (fun s m=>kf s m) (fun s m hn hm=>⟨_,_,(Aa _ (Dw s m)).1,(Aa _ (Dw s m)).2,AZ s m hn hm.s.g hm.s.t⟩) (fun s m hn hm n=>AY s m hn hm n) (fun s m _ _=>(Dx s m).1) (fun s m _ _=>(Dx s m).2) s m hn
theorem FU (os:Os) (started:os.Started) (H:Type) (enc:TypeId×Value->H):
  ReturnsInHanded {} Tryz.checked os 7 .any (Rows.fnExactGrowRoundsSpec.pre6 enc Tryz.prog Tryz.f7 Rows.fnExactGrowRoundsRow.domain false) (Rows.fnExactGrowRoundsSpec.post enc Tryz.prog Tryz.f7 false true false false):=by
 refine returnsInHanded_of_change (C:=Tryz.checked) Ws started (by kernel_rfl) Tryz.func7
  (ChangeSpec.witness6 (enc:=enc) (C:=Tryz.checked) false ⟨#[], #[.agg #[.slice none 0 0,.slice none 0 0,.slice none 0 0,.int .i64 0],.int .i64 0],[]⟩ 8 (by kernel_rfl) (by kernel_rfl) (by kernel_rfl) (by kernel_rfl)) ?_
 intro W base args ds gs before Q2 hW hcnd _
 have uH:∀(j:Nat) t v,Tryz.f7.params[j]? =some t->args[j]? =some v->Value.okWide Tryz.prog W .any base t v:=Q2
 have hW':=hW
 obtain⟨p,q,hA0,hV,rfl,CF,lk⟩:=hW
 have hA:DataW.TrodAll enc Tryz.prog W 0 (fun _=>true) true Tryz.f7.params.toList args.toList ds p:=hA0
 rw[Tryz.params7]at hA uH
 obtain⟨v0,vs0,d0,ds0,p0,q0,oN,rfl,rfl,h0,r0⟩:=trodAll_cons hA
 obtain⟨v1,vs1,d1,ds1,p1,q1,rfl,rfl,rfl,h1,r1⟩:=trodAll_cons r0
 obtain⟨rfl,rfl,rfl⟩:=trodAll_nil r1
 obtain rfl:args= #[v0,v1]:=by cases args;simp_all
 obtain⟨rfl,rfl⟩:=trodVars_none hV
 obtain⟨Ua,rfl,_⟩:=okWide_struct Tryz.underlying30 (uH 0 30 v0 rfl rfl)
 have k0:=h0
 have k1:=h1
 have lt0:∀x∈p0,x.block<W.heap.size:=by obtain⟨m,hm⟩:=k0;exact DataW.trod_lt m _ _ _ hm
 have UC:∀x∈p1,x.block<W.heap.size:=by obtain⟨m,hm⟩:=k1;exact DataW.trod_lt m _ _ _ hm
 obtain⟨A0,n0,c0,f0,A1,n1,c1,f1,A2,n2,c2,f2,s,dx,w0,s0,w1,s1,w2,s2,o0,o1⟩:∃A0 n0 c0 f0 A1 n1 c1 f1 A2 n2 c2 f2,∃d:aE,(Value.agg Ua).cells.toList=[.slice A0 n0 c0,.slice A1 n1 c1,.slice A2 n2 c2,.int .i64 d.az]/\gI f0 0 W.heap.size/\sF W f0 (.slice A0 n0 c0) d.aC.aB/\gI f1 0 W.heap.size/\sG W f1 (.slice A1 n1 c1) d.aC.ai/\gI f2 0 W.heap.size/\lG W f2 (.slice A2 n2 c2) d.bY.ai/\(∀g∈d.aC.aB,g.aP.size<=9223372036854775807)/\∀t∈d.aC.ai,t.aP.size<=9223372036854775807:=by
  obtain⟨fuel,hf⟩:=h0
  exact ME hf
 obtain⟨m,e1,-,-,-⟩:=open_int Tryz.underlying2 (uH 1 2 v1 rfl rfl) h1
 subst e1
 obtain rfl:Ua= #[.slice A0 n0 c0,.slice A1 n1 c1,.slice A2 n2 c2,.int .i64 s.az]:=by
  cases Ua;simp[Value.cells]at dx;subst dx;rfl
 clear hA0 Q2
 have il:fG Tryz.prog W (fun b=>b<W.heap.size) (fun _=>none) [.agg (aA s),.int .i64 m] #[.agg #[.slice A0 n0 c0,.slice A1 n1 c1,.slice A2 n2 c2,.int .i64 s.az],.int .i64 m]:=by
  have h:=nD (Fp s0 (fun b hb=>(w0 b hb).2) s1 (fun b hb=>(w1 b hb).2) s2 (fun b hb=>(w2 b hb).2)) (nD (.int .i64 m) (⟨rfl,fun j b hj=>by cases j<;>cases hj⟩:fG Tryz.prog W (fun b=>b<W.heap.size) (fun _=>none) [] #[]))
  simpa using h
 have iR:=S7 mixed (OO s m ⟨o0,o1⟩) il
 clear s0 s1 s2 w0 w1 w2 il
 refine(iR.mono fun e W' ⟨he,bel⟩=>?_)
 subst he
 exact⟨_,rfl,_,_,_,[],_,[],hW',trodAll_mk1 (shut_bool Tryz.underlying4 _),(trodAll_cons_mk (Below.trod Mo (by kernel_rfl) (of_decide_eq_true (by kernel_rfl)) k0 bel lt0) (trodAll_cons_mk (Below.trod Mo (by kernel_rfl) (of_decide_eq_true (by kernel_rfl)) k1 bel UC) trodAll_mk0)),rfl,bel.frame _,fun h=>by cases h⟩
end Go.Proofs.YtgoljkjaameagaaGreat

namespace Go.Proofs.YtgoljkjaameagaaGreat
open Go.ChangeShapes Go.WideShapes Go.ChangeAt Go.RowKit
theorem grN:Tryz.pinned.checked.prog.funcNamed Rows.fnExactGrowRoundsRow.func=some 7:=by kernel_rfl
theorem grJ:joinedFacts Tryz.pinned.checked.prog 7 Tryz.f7 Rows.fnExactGrowRoundsSpec Rows.fnExactGrowRoundsRow=true:=by
 unfold joinedFacts
 repeat(with_reducible refine Bool.and_eq_true_iff.2 ⟨?_,by as_aux_lemma=>kernel_rfl⟩)
 as_aux_lemma=>kernel_rfl
theorem grI:Tryz.f7.isInstance Tryz.pinned.checked.prog Rows.fnExactGrowRoundsRow.origin Rows.fnExactGrowRoundsRow.targs:=of_decide_eq_true (by kernel_rfl)
theorem grW:Tryz.f7.isWrapper Tryz.pinned.checked.prog Rows.fnExactGrowRoundsRow.wrapper Rows.fnExactGrowRoundsRow.mainSum:=by
 unfold Func.isWrapper;first|(rw[if_pos (by decide+kernel)];kernel_rfl)|(rw[if_neg (by decide+kernel)];exact⟨rfl,rfl⟩)
theorem LD:Rows.fnExactGrowRoundsRow.holds Tryz.pinned (OpenSpec.ofChange Rows.fnExactGrowRoundsSpec):=
 OpenClaim.holds_of_wide 7 Tryz.f7 rfl rfl rfl rfl rfl rfl rfl ⟨rfl,rfl,rfl,rfl,rfl⟩ rfl rfl rfl rfl rfl grN Tryz.func7 grJ grI grW
  (fun os started H enc _=>FU os started H enc)
theorem fnExactGrowRounds_proved:Rows.FnExactGrowRoundsSaid:=LD
end Go.Proofs.YtgoljkjaameagaaGreat
