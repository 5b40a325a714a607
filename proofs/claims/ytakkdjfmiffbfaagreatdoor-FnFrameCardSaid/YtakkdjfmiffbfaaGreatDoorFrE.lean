/- A crystal with its options: made, and a tile put. -/
import Derived.Test.YtakkdjfmiffbfaaGreatDoorFrD
import Derived.Test.YtakkdjfmiffbfaaGreatDoorFrC
import Derived.Maps.OwnIn
import Derived.Maps.AppendAt
import Derived.Test.YtakkdjfmiffbfaaGreatDoorFrB
import Derived.Lib.ItoaWalk
import Derived.Lib.ItoaNum
import Derived.Lib.Strings
import Derived.Stop.LaidErr
import Derived.Test.YtakkdjfmiffbfaaGreatDoorChecked
import Derived.Test.YtakkdjfmiffbfaaGreatDoorRows
import Derived.ProofKit
import Derived.ChangeOld
import Derived.Below
set_option linter.unusedVariables false
set_option linter.unusedSimpArgs false
set_option maxRecDepth 100000
set_option maxHeartbeats 16000000
namespace Go.Proofs.YtakkdjfmiffbfaaGreatDoor.V
open Go.RowKit
attribute [local irreducible] dL wpOps ez Call
attribute [local go_sem] ay ew dZ eE eC cY upd bJ K.av bZ AV.cells AV.cell rowOf rowsOf part ld rowAt eO bH bI cX dj eQ bq cF dx eA ed cQ dq cD cC dc de bu aE cm bt cr cq dn dr dp ck bz cE dm br aw cw bQ eP aZ bW bx aD cR aQ cZ AV.undef bd bj dh di c6 da bV dw dz bP du dt cu cz List.getD_cons_zero List.getD_cons_succ List.getD_nil List.all_cons List.all_nil Bool.and_true Bool.true_and Bool.and_self Bool.not_true Bool.not_false Option.map_some Option.map_none Option.bind_some Option.bind_none List.length_cons List.length_nil List.take_succ_cons List.take_zero List.take_nil List.drop_succ_cons List.drop_zero List.drop_nil List.head?_cons List.map_cons List.map_nil List.getElem?_cons_zero List.getElem?_cons_succ List.cons_append List.nil_append List.append_nil List.length_map List.set_cons_zero List.set_cons_succ Nat.reduceMul eq_self Int.toNat_natCast Int.natCast_nonneg and_self true_and and_true decide_true decide_false Bool.false_eq_true Nat.zero_add Nat.add_zero List.contains_cons List.contains_nil Bool.or_false Bool.false_or beq_self_eq_true Nat.reduceBEq ne_eq not_true_eq_false not_false_eq_true Id.mk.injEq false_and and_false Nat.reduceLT Int.reduceLE Int.reduceLT Int.reduceToNat Int.reduceNeg Int.reduceAdd Nat.le_refl List.length_append beq_true beq_false Bool.not_eq_eq_eq_not or_false false_or dW ad ae aL aI bf bR az bc aA aJ cj bh
structure np (g:Rows) (n:Nat) (c T O:Id) (s:ax) (ts:List aa):Prop where
 o:lq g n c T O s ts
 op:∃es:List En,g O=some ⟨true,mP.j5,es.map nz⟩/\uM g n es (gL s ts) (fun _=>True)
theorem np.frame {g g':Rows} {n n':Nat} {c T O:Id} {s:ax} {ts:List aa} (h:np g n c T O s ts) (hn:n<=n') (hf:∀x:Id,x.cW<n->g' x=g x):np g' n' c T O s ts:=
 ⟨h.o.frame hn hf,by
  obtain⟨es,h1,h2⟩:=h.op
  exact⟨es,(hf _ h.o.ov).trans h1,h2.frame hn fun x hx _=>hf x hx⟩⟩
theorem lq.OB {σ:aq} {g:Rows} {n:Nat} {c T O:Id} {s:ax} {ts:List aa} {A:af->Prop} (h:lq σ.get σ.next c T O s ts) (k:iz σ O s ts A g n):lq g n c T O s ts:=h.look k.ow
theorem Ji {s:ax} (hT:1<=s.bD) {ts:List aa} {q:af} (h:∀t∈ts,∀k:Nat,k<4->q≠cN t.cG k):gL s ts q=[]:=by
 unfold gL
 refine zW (fun t=>?_) _
 cases hb:eI s ts q t
 ·rfl
 ·exfalso
  simp[eI]at hb
  obtain⟨⟨h1,h2⟩,h3⟩:=hb
  obtain⟨k,hk,h4⟩:=bind_some (s:=s.ar) (F:=gJ ts) (p:=q) (t:=t) 4 (by have:mW s.ar (gJ ts) q t=eD s.ar (gJ ts) q t 4:=rfl;omega)
  have h5:0<=eF ts (cN q k):=by
   unfold gJ at h4
   split at h4
   ·assumption
   ·omega
  obtain⟨h6,h7⟩:=jL h5
  have LD:(jR k).toNat<4/\((jR k).toNat:Int)=jR k:=by
   have:k=0∨k=1∨k=2∨k=3:=ab
   rcases this with rfl|rfl|rfl|rfl<;>decide
  refine h _ (gP h6) (jR k).toNat LD.1 ?_
  rw[h7,LD.2,sQ q k hk]
theorem Cv {l:List aa} {t:aa} (h:t∈l):∃j,j<l.length/\t=cP l j:=by
 obtain⟨j,hj,rfl⟩:=List.getElem_of_mem h
 exact⟨j,hj,(fj hj).symm⟩
def Da (s:ax) (l:List aa) (j:Nat) (q:af):Prop:=gL s l q=[]/\(∀i:Nat,i<l.length->∀k:Nat,k<4->q≠cN (cP l i).cG k)∨∃i:Nat,i<j/\∃k:Nat,k<4/\q=cN (cP l i).cG k
theorem Lf {s:ax} (hT:1<=s.bD) (l:List aa) (q:af):Da s l l.length q:=by
 by_cases h:∃i:Nat,i<l.length/\∃k:Nat,k<4/\q=cN (cP l i).cG k
 ·exact .inr h
 ·have h2:∀i:Nat,i<l.length->∀k:Nat,k<4->q≠cN (cP l i).cG k:=fun i hi k hk e=>h ⟨i,hi,k,hk,e⟩
  exact .inl ⟨Ji hT fun t ht k hk=>by
   obtain⟨j,hj,rfl⟩:=Cv ht
   exact h2 j hj k hk,h2⟩
def VQ (σ:aq) (s:ax) (ts:List aa) (r:AV) (σ':aq):Prop:=
 ∃c T O:Id,r=.ptr c 0 0/\np σ'.get σ'.next c T O s ts/\σ.next<=c.cW/\σ.next<=T.cW/\σ.next<=O.cW/\σ.next<=σ'.next/\∀x:Id,x.cW<σ.next->σ'.get x=σ.get x
theorem Au (s:ax) (hS:gj s.ar) (Wy:1<=s.bD) (l:List aa) (hA:ju s.ar l) (σ:aq):Call Tryz.prog 62 [.agg (ej s),.agg [.sl (l.map ai)]] σ (VQ σ s l):=by
 refine eU fH rfl fun fR=>?_
 clear fR
 have JC:=hA.1.CX
 (try((repeat(revert hN;revert N;apply Pn.out));refine wk @ej.eq_1 ?_;(repeat(refine Pn.mk ?_;intro N hN))))
 refine cU (fun n env st=>∃k:Nat,n=(l.length)-k/\k<=(l.length)/\env 18=.int .i64 (k:Int)/\st.get ⟨62001004,σ.next+1⟩=some ⟨true,6,[[.sl (s.ar.bU.map ea),.sl (s.ar.ah.map dS),.sl (s.dI.ah.map ai),.int .i64 s.bD,.map ⟨62001001,σ.next+1⟩ mP,.map ⟨62001002,σ.next+1⟩ mP]]⟩/\st.get ⟨62001001,σ.next+1⟩=some ⟨true,mP.j5,(l.take k).map ai⟩/\st.get ⟨62001002,σ.next+1⟩=some ⟨true,mP.j5,[]⟩/\st.get ⟨62000001,σ.next⟩=some ⟨true,1,[[.sl (l.map ai)]]⟩/\(σ.next+3<=st.next/\∀x:Id,x.cW<σ.next->st.get x=σ.get x)) (l.length) ⟨0,ab,ab,sl @Nat.zero_add,sl @Nat.zero_add,sl @Nat.zero_add,sl @Nat.zero_add,sl @Nat.zero_add,⟨bL,fun x hx=>by
  have:=dE hx
  simp only[go_sem, ↓reduceIte,Nat.reduceEqDiff,Nat.reduceAdd,Nat.reduceSub,Nat.reduceLeDiff,reduceCtorEq,this]⟩⟩ ?_
 rintro n_a env_a st_a ⟨k,rfl,ale,a18,ag0,ag1,Dc,LW,qn⟩ eL
 have a3:=eL 3 (by kernel_rfl);have a5:=eL 5 (by kernel_rfl);have H5:=eL 16 (by kernel_rfl);have a17:=eL 17 (by kernel_rfl)
 simp only[go_sem, ↓reduceIte,Nat.reduceEqDiff,Nat.reduceAdd,Nat.reduceSub,Nat.reduceLeDiff,reduceCtorEq]at a3 a5 H5 a17
 clear eL
 obtain⟨an,eL⟩:=qn
 have v1:=dE (i:=⟨62001004,σ.next+1⟩) (n:=st_a.next) bL
 have v2:=dE (i:=⟨62001001,σ.next+1⟩) (n:=st_a.next) bL
 have v3:=dE (i:=⟨62001002,σ.next+1⟩) (n:=st_a.next) bL
 have v4:=dE (i:=⟨62000001,σ.next⟩) (n:=st_a.next) bL
 by_cases hk:(k:Int)<(l.length:Int)
 ·have eB:∀{e:Env} {gg:Rows} {nx:Nat},(e 18=.int .i64 (IntKind.i64.wrap ((k:Int)+1)))->(gg ⟨62001004,σ.next+1⟩=some ⟨true,6,[[.sl (s.ar.bU.map ea),.sl (s.ar.ah.map dS),.sl (s.dI.ah.map ai),.int .i64 s.bD,.map ⟨62001001,σ.next+1⟩ mP,.map ⟨62001002,σ.next+1⟩ mP]]⟩)->(gg ⟨62001001,σ.next+1⟩=some ⟨true,mP.j5,(l.take (k+1)).map ai⟩)->(gg ⟨62001002,σ.next+1⟩=some ⟨true,mP.j5,[]⟩)->(gg ⟨62000001,σ.next⟩=some ⟨true,1,[[.sl (l.map ai)]]⟩)->(σ.next+3<=nx/\∀x:Id,x.cW<σ.next->gg x=σ.get x)->∃m0,m0<(l.length)-k/\∃k:Nat,m0=(l.length)-k/\k<=(l.length)/\e 18=.int .i64 (k:Int)/\gg ⟨62001004,σ.next+1⟩=some ⟨true,6,[[.sl (s.ar.bU.map ea),.sl (s.ar.ah.map dS),.sl (s.dI.ah.map ai),.int .i64 s.bD,.map ⟨62001001,σ.next+1⟩ mP,.map ⟨62001002,σ.next+1⟩ mP]]⟩/\gg ⟨62001001,σ.next+1⟩=some ⟨true,mP.j5,(l.take k).map ai⟩/\gg ⟨62001002,σ.next+1⟩=some ⟨true,mP.j5,[]⟩/\gg ⟨62000001,σ.next⟩=some ⟨true,1,[[.sl (l.map ai)]]⟩/\(σ.next+3<=nx/\∀x:Id,x.cW<σ.next->gg x=σ.get x):=fun x1 x2 x3 x4 x5 x6=>⟨_,ab,k+1,rfl,ab,(by rw[x1,cI ab]),x2,x3,x4,x5,x6⟩
  have jB:k<l.length:=ab
  have hg:=jn jB
  have hm:=qe (Lb hA.1.OG jB)
  have BU:=NJ jB
  (try((repeat(revert hN;revert N;apply Pn.out));refine wk (tw @a18 (tw @ag0 (tw @ag1 (tw @Dc (tw @LW (tw @a3 (tw @a5 (tw @H5 (tw @a17 (tw @hk (tw @hg (tw @hm (tw @v1 (tw @v2 (tw @v3 (tw @v4 @ai.eq_1)))))))))))))))) ?_;(repeat(refine Pn.mk ?_;intro N hN))))
  refine eB ?_ ?_ ?_ ?_ ?_ (by(try dsimp only);exact⟨ab,fun x hx=>by
   have h1:=dE (i:=x) (n:=st_a.next) ab
   have h2:=dD (a:=x) (b:=⟨62001001,σ.next+1⟩) bL
   have h3:=eL x hx
   simp only[go_sem, ↓reduceIte,Nat.reduceEqDiff,Nat.reduceAdd,Nat.reduceSub,Nat.reduceLeDiff,reduceCtorEq,h1,h2,h3]⟩)
  all_goals simp only[go_sem, ↓reduceIte,Nat.reduceEqDiff,Nat.reduceAdd,Nat.reduceSub,Nat.reduceLeDiff,reduceCtorEq,a18,ag0,ag1,Dc,LW,a3,a5,H5,a17,ai,v1,v2,v3,v4,BU]
 ·have ko:k=l.length:=ab
  subst ko
  have pL:l.take l.length=l:=List.take_length
  (try((repeat(revert hN;revert N;apply Pn.out));refine wk (tw @a18 (tw @ag0 (tw @ag1 (tw @Dc (tw @LW (tw @a3 (tw @a5 (tw @H5 (tw @a17 (tw @hk (tw @v1 (tw @v2 (tw @v3 @v4))))))))))))) ?_;(repeat(refine Pn.mk ?_;intro N hN))))
  refine cU (fun n env st=>∃j:Nat,n=(l.length)-j/\j<=(l.length)/\env 34=.int .i64 (j:Int)/\(σ.next+3<=st.next/\lq st.get st.next ⟨62001004,σ.next+1⟩ ⟨62001001,σ.next+1⟩ ⟨62001002,σ.next+1⟩ s l/\(∀x:Id,x.cW<σ.next->st.get x=σ.get x)/\∃es:List En,st.get ⟨62001002,σ.next+1⟩=some ⟨true,mP.j5,es.map nz⟩/\uM st.get st.next es (gL s l) (Da s l j))) (l.length) ⟨0,ab,ab,sl (tw @a18 (tw @ag0 (tw @ag1 (tw @Dc (tw @LW (tw @a3 (tw @a5 (tw @H5 @a17)))))))),by(try dsimp only);exact⟨ab,⟨sd @ag0,sd (tw @ag1 @pL),⟨[],sd @Dc,by intro r hr;cases hr⟩,bL,bL,bL,(by intro e;injection e with e1 e2;revert e1;decide),(by intro e;injection e with e1 e2;revert e1;decide),(by intro e;injection e with e1 e2;revert e1;decide)⟩,fun x hx=>by
   have h3:=eL x hx
   simp only[go_sem, ↓reduceIte,Nat.reduceEqDiff,Nat.reduceAdd,Nat.reduceSub,Nat.reduceLeDiff,reduceCtorEq,h3],[],sl @Dc,List.nodup_nil,fun q hq=>.inl ⟨by
    rcases hq with hq|⟨i,hi,_⟩
    ·exact hq.1
    ·exact absurd hi (Nat.not_lt_zero i),fun e he=>by cases he⟩⟩⟩ ?_
  rintro n_b env_b st_b ⟨j,rfl,ble,b34,bI0⟩ fA
  have b5:=fA 5 (by kernel_rfl);have s6:=fA 32 (by kernel_rfl);have tQ:=fA 33 (by kernel_rfl)
  simp only[go_sem, ↓reduceIte,Nat.reduceEqDiff,Nat.reduceAdd,Nat.reduceSub,Nat.reduceLeDiff,reduceCtorEq,a18,ag0,ag1,Dc,LW,a3,a5,H5,a17]at b5 s6 tQ
  clear fA
  obtain⟨bn,bC,fA,es,bO,bS⟩:=bI0
  by_cases hj:(j:Int)<(l.length:Int)
  ·have fP:∀{e:Env} {gg:Rows} {nx:Nat},(e 34=.int .i64 (IntKind.i64.wrap ((j:Int)+1)))->(σ.next+3<=nx/\lq gg nx ⟨62001004,σ.next+1⟩ ⟨62001001,σ.next+1⟩ ⟨62001002,σ.next+1⟩ s l/\(∀x:Id,x.cW<σ.next->gg x=σ.get x)/\∃es:List En,gg ⟨62001002,σ.next+1⟩=some ⟨true,mP.j5,es.map nz⟩/\uM gg nx es (gL s l) (Da s l (j+1)))->∃m0,m0<(l.length)-j/\∃j:Nat,m0=(l.length)-j/\j<=(l.length)/\e 34=.int .i64 (j:Int)/\(σ.next+3<=nx/\lq gg nx ⟨62001004,σ.next+1⟩ ⟨62001001,σ.next+1⟩ ⟨62001002,σ.next+1⟩ s l/\(∀x:Id,x.cW<σ.next->gg x=σ.get x)/\∃es:List En,gg ⟨62001002,σ.next+1⟩=some ⟨true,mP.j5,es.map nz⟩/\uM gg nx es (gL s l) (Da s l j)):=fun x1 x2=>⟨_,ab,j+1,rfl,ab,(by rw[x1,cI ab]),x2⟩
   have vV:j<l.length:=ab
   have hg:=jn vV
   have Tp:=Ax (hA.1.pt vV)
   (try((repeat(revert hN;revert N;apply Pn.out));refine wk (tw @b34 (tw @b5 (tw @s6 (tw @tQ (tw @hj (tw @hg @ai.eq_1)))))) ?_;(repeat(refine Pn.mk ?_;intro N hN))))
   have hG:∀x:Id,x.cW<st_b.next->(bH (bH st_b.get ⟨62009002,st_b.next+1⟩ ⟨true,3,[[.int .i64 0,.int .i64 0,.int .i64 0]]⟩) ⟨62009002,st_b.next+1⟩ ⟨true,3,[[.int .i64 (cP l j).cG.fu,.int .i64 (cP l j).cG.eZ,.int .i64 (cP l j).cL]]⟩) x=st_b.get x:=fun x hx=>by
    have h1:=dE hx
    simp only[go_sem, ↓reduceIte,Nat.reduceEqDiff,Nat.reduceAdd,Nat.reduceSub,Nat.reduceLeDiff,reduceCtorEq,h1]
   have Ic:lq (bH (bH st_b.get ⟨62009002,st_b.next+1⟩ ⟨true,3,[[.int .i64 0,.int .i64 0,.int .i64 0]]⟩) ⟨62009002,st_b.next+1⟩ ⟨true,3,[[.int .i64 (cP l j).cG.fu,.int .i64 (cP l j).cG.eZ,.int .i64 (cP l j).cL]]⟩) (st_b.next+1+1+1) ⟨62001004,σ.next+1⟩ ⟨62001001,σ.next+1⟩ ⟨62001002,σ.next+1⟩ s l:=bC.frame ab hG
   refine .inr (aS _ _ _ _ _ (fun r σ1 hq=>?_) (re (σ:=⟨bH (bH st_b.get ⟨62009002,st_b.next+1⟩ ⟨true,3,[[.int .i64 0,.int .i64 0,.int .i64 0]]⟩) ⟨62009002,st_b.next+1⟩ ⟨true,3,[[.int .i64 (cP l j).cG.fu,.int .i64 (cP l j).cG.eZ,.int .i64 (cP l j).cL]]⟩,st_b.next+1+1+1⟩) Ic.Se Ic.cO Ic.TO (Da s l j) ⟨es,(hG _ bL).trans bO,bS.frame bL fun x hx _=>hG x hx⟩ hS (gj.N4 hA) (cP l j).cG Tp.1 Tp.2))
   obtain⟨g1,x1⟩:=σ1
   obtain⟨rfl,hL⟩:=hq
   (try dsimp only at hL)
   have vN:=Ic.OB hL
   have hLn:=hL.1
   have hLf:=hL.2.1
   obtain⟨V7,SG,Ju⟩:=hL.2.2
   (try dsimp only at hLn hLf)
   have hAj:∀q,Da s l (j+1) q->Da s l j q∨∃k:Nat,k<4/\q=cN (cP l j).cG k:=fun q hq=>by
    rcases hq with hq|⟨i,hi,hq⟩
    ·exact .inl (.inl hq)
    ·rcases Nat.lt_or_ge i j with h|h
     ·exact .inl (.inr ⟨i,h,hq⟩)
     ·exact .inr (by rw[show i=j by omega]at hq;exact hq)
   refine hN _ _ ?_
   clear hN N
   (try((repeat(revert hN;revert N;apply Pn.out));refine wk (tw @b34 (tw @b5 (tw @s6 @tQ))) ?_;(repeat(refine Pn.mk ?_;intro N hN))))
   exact fP (sd (tw @b34 (tw @b5 (tw @s6 @tQ)))) (by(try dsimp only);exact⟨ab,vN.frame ab (fun x hx=>rfl),fun x hx=>by
    have h1:=dE (i:=x) (n:=st_b.next) ab
    have h2:=hLf x ab (fun e=>by rw[e]at hx;(try dsimp only at hx);omega)
    have h3:=fA x hx
    simp only[h2]
    simp only[go_sem, ↓reduceIte,Nat.reduceEqDiff,Nat.reduceAdd,Nat.reduceSub,Nat.reduceLeDiff,reduceCtorEq,h1,h3],V7,SG,(Ju.frame ab fun x hx _=>rfl).mono hAj⟩)
  ·have iZ:j=l.length:=ab
   subst iZ
   (try((repeat(revert hN;revert N;apply Pn.out));refine wk (tw @b34 (tw @b5 (tw @s6 (tw @tQ @hj)))) ?_;(repeat(refine Pn.mk ?_;intro N hN))))
   exact eK (.inl rfl) (vs:=[.ptr ⟨62001004,σ.next+1⟩ 0 0]) (sd @Nat.zero_add) ⟨_,_,_,rfl,⟨bC.frame bL (fun x hx=>rfl),es,bO,(bS.frame bL fun x hx _=>rfl).mono fun q _=>Lf Wy l q⟩,bL,bL,bL,bL,fA⟩
theorem GH {s:ax} {ts:List aa} {p q:af} {t:Int} (h0:eF ts p<0) (hqp:q≠p) (hn:∀k:Nat,k<4->q≠cN p k):gL s (ts++[⟨p,t⟩]) q=gL s ts q:=by
 unfold gL
 have qT:=lg.1 h0
 have BP:∀x,x≠p->gJ (ts++[⟨p,t⟩]) x=gJ ts x:=fun x hx=>by
  rw[qz (q:=⟨p,t⟩) x qT]
  exact if_neg fun e=>hx e.symm
 have ee:∀k:Nat,k<4->cN q k≠p:=fun k hk e=>by
  have LD:(jR k).toNat<4/\((jR k).toNat:Int)=jR k:=by
   have:k=0∨k=1∨k=2∨k=3:=ab
   rcases this with rfl|rfl|rfl|rfl<;>decide
  refine hn _ LD.1 ?_
  rw[LD.2,<-e,sQ q k hk]
 have hb:∀(u:Int) (d:Nat),d<=4->eD s.ar (gJ (ts++[⟨p,t⟩])) q u d=eD s.ar (gJ ts) q u d:=fun u d=>by
  induction d with
  |zero=>intro _;rfl
  |succ d ih=>
   intro hd
   rw[eD,eD,ih ab,BP _ (ee d ab)]
 refine si (fun k=>?_) _
 unfold eI
 rw[BP q hqp,show mW s.ar (gJ (ts++[⟨p,t⟩])) q k=mW s.ar (gJ ts) q k from hb k 4 (Nat.le_refl _)]
theorem GI {s:ax} {ts:List aa} {p:af} {t:Int} (h0:eF ts p<0) (ht:0<=t):gL s (ts++[⟨p,t⟩]) p=[]:=by
 unfold gL
 refine zW (fun k=>?_) _
 have:¬gJ (ts++[⟨p,t⟩]) p<0:=by
  rw[qz (q:=⟨p,t⟩) p (lg.1 h0),if_pos rfl]
  show ¬t<0
  omega
 simp[eI,this]
theorem T9 {σ:aq} {c T O:Id} {s:ax} {ts:List aa} (h:np σ.get σ.next c T O s ts) (hS:gj s.ar) (hF:∀q,0<=gJ ts q->ef s.ar (gJ ts q)=true) (p:af) (hp:za p=true) (t:Int) (ht:ef s.ar t=true) (h0:eF ts p<0):
  Call Tryz.prog 132 [.ptr c 0 0,.agg (aj p),.int .i64 t] σ (fun r σ'=>r=.fK []/\np σ'.get σ'.next c T O s (ts++[⟨p,t⟩])/\σ.next<=σ'.next/\∀x:Id,x.cW<σ.next->x≠T->x≠O->σ'.get x=σ.get x):=by
 refine eU fH rfl fun fR=>?_
 clear fR
 obtain⟨hx,hy⟩:=Ax hp
 have qT:=lg.1 h0
 have Tw:0<=t:=(eH ht).1
 have SA:∀q,0<=gJ (ts++[⟨p,t⟩]) q->ef s.ar (gJ (ts++[⟨p,t⟩]) q)=true:=fun q hq=>by
  rw[qz q qT]at hq ⊢
  split at hq
  ·rename_i he;rw[if_pos he];exact ht
  ·rename_i he;rw[if_neg he];exact hF q hq
 obtain⟨es,ho,hw⟩:=h.op
 obtain⟨fi,xL,_,GU,_,_⟩:=sF p es
 unfold da at GU
 have h1:=h.o.row
 have h2:=h.o.tl
 have v1:=dE h.o.cv
 have v2:=dE h.o.tv
 have v3:=dE h.o.ov
 have hm:=qe h0
 have cT:=eq_false h.o.cT
 have cO:=eq_false h.o.cO
 have TO:=eq_false h.o.TO
 have Tc:=eq_false (fun e:T=c=>h.o.cT e.symm)
 have Oc:=eq_false (fun e:O=c=>h.o.cO e.symm)
 have OT:=eq_false (fun e:O=T=>h.o.TO e.symm)
 (try((repeat(revert hN;revert N;apply Pn.out));refine wk (tw @h1 (tw @h2 (tw @ho (tw @v1 (tw @v2 (tw @v3 (tw @hm (tw @xL (tw @GU (tw @cT (tw @cO (tw @TO (tw @Tc (tw @Oc (tw @OT @aj.eq_1))))))))))))))) ?_;(repeat(refine Pn.mk ?_;intro N hN))))
 have hG:∀x:Id,x.cW<σ.next->x≠T->x≠O->(bH (bH (bH σ.get ⟨132000000,σ.next⟩ ⟨true,2,[[.int .i64 p.fu,.int .i64 p.eZ]]⟩) T ⟨true,mP.j5,ts.map ai++[[.int .i64 p.fu,.int .i64 p.eZ,.int .i64 t]]⟩) O ⟨true,mP.j5,(nw es p).map nz⟩) x=σ.get x:=fun x QC Xr FK=>by
  have a1:=eq_false Xr
  have a2:=eq_false FK
  have a3:=dE QC
  simp only[go_sem, ↓reduceIte,Nat.reduceEqDiff,Nat.reduceAdd,Nat.reduceSub,Nat.reduceLeDiff,reduceCtorEq,a1,a2,a3]
 have e8:∀x:Id,(∃k r,σ.get x=some ⟨k,1,r⟩)->x≠T/\x≠O:=fun x hr=>by
  obtain⟨k,r,hr⟩:=hr
  constructor
  ·rintro rfl
   rw[h2]at hr
   injection hr with hr
   injection hr with _ hr _
   exact w5 hr
  ·rintro rfl
   rw[ho]at hr
   injection hr with hr
   injection hr with _ hr _
   exact w5 hr
 obtain⟨G,UX⟩:∃G,G=bH (bH (bH σ.get ⟨132000000,σ.next⟩ ⟨true,2,[[.int .i64 p.fu,.int .i64 p.eZ]]⟩) T ⟨true,mP.j5,ts.map ai++[[.int .i64 p.fu,.int .i64 p.eZ,.int .i64 t]]⟩) O ⟨true,mP.j5,(nw es p).map nz⟩:=⟨_,rfl⟩
 have hGT:G T=some ⟨true,mP.j5,ts.map ai++[[.int .i64 p.fu,.int .i64 p.eZ,.int .i64 t]]⟩:=by rw[UX];simp only[go_sem, ↓reduceIte,Nat.reduceEqDiff,Nat.reduceAdd,Nat.reduceSub,Nat.reduceLeDiff,reduceCtorEq,TO]
 have hGO:G O=some ⟨true,mP.j5,(nw es p).map nz⟩:=by rw[UX];simp only[go_sem, ↓reduceIte,Nat.reduceEqDiff,Nat.reduceAdd,Nat.reduceSub,Nat.reduceLeDiff,reduceCtorEq]
 rw[<-UX]at hG ⊢
 clear UX
 have hC:lq G (σ.next+1+1+1+1) c T O s (ts++[⟨p,t⟩]):=
  ⟨(hG c h.o.cv h.o.cT h.o.cO).trans h1,by rw[hGT,List.map_append];rfl,⟨_,hGO,fun r hr=>by
   obtain⟨e,_,rfl⟩:=List.mem_map.1 hr
   exact⟨_,_,_,rfl⟩⟩,by have:=h.o.cv;omega,by have:=h.o.tv;omega,by have:=h.o.ov;omega,h.o.cT,h.o.cO,h.o.TO⟩
 have hE:uM G (σ.next+1+1+1+1) (nw es p) (gL s (ts++[⟨p,t⟩])) (fun q=>¬∃k:Nat,k<4/\q=cN p k):=by
  have e1:uM G (σ.next+1+1+1+1) es (gL s ts) (fun _=>True):=hw.frame ab fun x hx hr=>hG x hx (e8 x hr).1 (e8 x hr).2
  refine⟨vk _ e1.nodup,fun q hq=>?_⟩
  have hqk:∀k:Nat,k<4->q≠cN p k:=fun k hk e=>hq ⟨k,hk,e⟩
  by_cases e:q=p
  ·subst e
   exact .inl ⟨GI h0 Tw,zP e1.nodup⟩
  ·rw[GH h0 e hqk]
   rcases e1.at_ q trivial with⟨a1,a2⟩|⟨a1,o',a2,a3⟩
   ·exact .inl ⟨a1,fun x hx=>a2 x (qI.subset hx)⟩
   ·exact .inr ⟨a1,o',(wj e).2 a2,a3⟩
 refine .inr (aS _ _ _ _ _ (fun r σ1 hq=>?_) (re (σ:=⟨G,σ.next+1+1+1+1⟩) hC.Se hC.cO hC.TO _ ⟨_,hGO,hE⟩ hS SA p hx hy))
 obtain⟨g1,x1⟩:=σ1
 obtain⟨rfl,hL⟩:=hq
 (try dsimp only at hL)
 have vN:=hC.OB (σ:=⟨G,σ.next+1+1+1+1⟩) hL
 have hn:=hL.1
 have hf:=hL.2.1
 obtain⟨V7,SG,Ju⟩:=hL.2.2
 (try dsimp only at hn hf)
 refine hN _ _ ?_
 clear hN N
 (try((repeat(revert hN;revert N;apply Pn.out));refine wk @Nat.zero_add ?_;(repeat(refine Pn.mk ?_;intro N hN))))
 exact eK (.inr rfl) (vs:=[]) rfl ⟨rfl,⟨vN.frame bL fun _ _=>rfl,V7,SG,(Ju.frame bL fun x hx _=>rfl).mono fun q _=>by
  by_cases hq:∃k:Nat,k<4/\q=cN p k
  ·exact .inr hq
  ·exact .inl hq⟩,bL,fun x QC Xr FK=>(hf x ab FK).trans (hG x QC Xr FK)⟩
end Go.Proofs.YtakkdjfmiffbfaaGreatDoor.V

namespace Go.Proofs.YtakkdjfmiffbfaaGreatDoor.V
open Go.RowKit Go.Shelf
attribute [local go_sem] Oper.semAt_some
section
variable {F:Fence} {n:Nat} {P:Program} {ops:Array Oper} {Q:Exit->Act->World->Prop} {rest:List Oper} {a:Act} {w:World} {o:Oper}
theorem EY (hg:o.guard=none) (m:Operand) (t:TypeId) (eu:o.op=Op.range t m) {v:Value} {w':World} (fG:(Instr.range t (a.eval m)).run P w=.ok v w') (h:wpListIn F n P ops Q rest (a.put o.dst v) w'):wpListIn F n P ops Q (o::rest) a w:=by
 refine wpListIn_plain hg fun K' U3=>?_
 unfold Oper.wpIn
 refine⟨by simp[Oper.about,eu],?_⟩
 rw[Oper.semAt_plain F _ _ (by rw[eu];intro c j3;cases j3)]
 simp[execOp,eu,fG,Result.andThen]
 exact U3 _ _ h
theorem H0 (hg:o.guard=none) (it:Operand) (eu:o.op=Op.next it false) (rr b clock:Nat) (seen:Array Nat) (es:Array MapEntry) (Ii:a.eval it=.pointer (some ⟨rr,0,none⟩)) (hr:w.heap[rr]? =some (.mapIter (some b) clock seen clock)) (hb:w.heap[b]? =some (.map es clock)) (ee:E4 es clock)
  (Sy:(leftOf es seen).toList=[]->wpListIn F n P ops Q rest (a.put o.dst (.tuple #[.bool false])) w)
  (SF:∀e∈(leftOf es seen).toList,∀w',w'.heap[rr]? =some (.mapIter (some b) clock (seen.push e.born) clock)->w'.heap[b]? =some (.map es clock)->w.grownBy w' (some rr)->w'.heap.size=w.heap.size->(Instr.entry (.pointer (some ⟨rr,0,none⟩))).run P w'=.ok (.tuple #[e.key,e.val]) w'->wpListIn F n P ops Q rest (a.put o.dst (.tuple #[.bool true,e.key,e.val])) w'):
  wpListIn F n P ops Q (o::rest) a w:=by
 refine wpListIn_plain hg fun K' U3=>?_
 unfold Oper.wpIn
 refine⟨by simp[Oper.about,eu],?_⟩
 rw[Oper.semAt_plain F _ _ (by rw[eu];intro c j3;cases j3)]
 rcases run_next_at (P:=P) w o.type rr b clock clock seen es clock hr hb ee.1 (Nat.le_refl _)with⟨h0,fG⟩|⟨e,he,w1,B6,fG⟩
 ·simp[execOp,eu,Ii,fG,Result.andThen]
  exact U3 _ _ (Sy (List.eq_nil_of_length_eq_zero (by simpa using h0)))
 ·have Qq:w1.heap[rr]? =some (.mapIter (some b) clock seen clock):=by rcases B6 with rfl|rfl<;>exact hr
  have jc:=MapKept.heap_set (o':=.mapIter (some b) clock (seen.push e.born) clock) Qq
  obtain⟨w2,tX⟩:∃w2,ChangeMaps.setBlock w1 rr (.mapIter (some b) clock (seen.push e.born) clock)=w2:=⟨_,rfl⟩
  have ho:∀k,k≠rr->w2.heap[k]? =w.heap[k]? :=fun k hk=>by
   rw[<-tX]
   refine(jc.2 k hk).trans ?_
   rcases B6 with rfl|rfl<;>rfl
  have hz:w2.heap.size=w.heap.size:=by
   rw[<-tX]
   rcases B6 with rfl|rfl<;>simp[ChangeMaps.setBlock]
  have AQ:w2.heap[rr]? =some (.mapIter (some b) clock (seen.push e.born) clock):=by rw[<-tX];exact jc.1
  have tV:w2.os=w.os/\w2.tape=w.tape/\w2.output=w.output:=by
   rw[<-tX]
   rcases B6 with rfl|rfl<;>exact⟨rfl,rfl,rfl⟩
  have WD:b≠rr:=fun e=>by subst e;rw[hr]at hb;cases hb
  have DP:w2.heap[b]? =some (.map es clock):=(ho b WD).trans hb
  have Ol:=run_entry_at (P:=P) w2 rr b clock seen es clock e AQ DP (mem_left he).1 ee.2
  rw[tX]at fG
  simp[execOp,eu,Ii,fG,Result.andThen]
  exact U3 _ _ (SF e he w2 AQ DP ⟨tV.1,tV.2.1,tV.2.2,ab,fun k _ hk=>ho k fun e=>hk (by rw[e])⟩ hz Ol)
end
def qJ (p:af):Value:=.agg #[.int .i64 p.fu,.int .i64 p.eZ]
def Ec (es:Array MapEntry) (rr:Nat) (w:World):Nat:=match w.heap[rr]? with
 |some (.mapIter _ _ seen _)=>(leftOf es seen).size
 |_=>0
theorem yV {es:Array MapEntry} {rr b clock:Nat} {seen:Array Nat} {w:World} (h:w.heap[rr]? =some (.mapIter (some b) clock seen clock)):Ec es rr w=(leftOf es seen).size:=by unfold Ec;rw[h]
theorem Hm {es:Array MapEntry} {clock:Nat} {seen:Array Nat} {e:MapEntry} (hs:E4 es clock) (he:e∈(leftOf es seen).toList):((e.key::(leftOf es (seen.push e.born)).toList.map (·.key)).Perm ((leftOf es seen).toList.map (·.key)))/\(leftOf es (seen.push e.born)).size+1=(leftOf es seen).size:=by
 obtain⟨i,hi,LB⟩:=List.getElem_of_mem he
 have h2:=wh hs (i:=i) (e:=e) (seen:=seen) (by rw[List.getElem?_eq_getElem hi,LB])
 have hp:=qi (l:=(leftOf es seen).toList) (i:=i) (x:=e) (by rw[List.getElem?_eq_getElem hi,LB])
 rw[h2]
 refine⟨by simpa using hp.map fun e:MapEntry=>e.key,?_⟩
 have h3:=congrArg List.length h2
 have h4:=hp.length_eq
 simp only[Array.length_toList,List.length_cons]at h3 h4
 rw[<-h3]at h4;exact h4
theorem GF {a b:List af} (h:(a.map qJ).Perm (b.map qJ)):a.Perm b:=by
 have h2:=h.map (fun v:Value=>match v with| .agg ⟨[.int _ x,.int _ y]⟩=>(⟨x,y⟩:af)|_=>⟨0,0⟩)
 simpa[List.map_map,Function.comp_def,qJ]using h2
theorem J7 (q Bm b:Nat) (es:Array MapEntry) (clock:Nat) (ee:E4 es clock) (ks:List af) (hk:es.toList.map (·.key)=ks.map qJ) (J Jx:List af->World->Prop) (n:Nat) (hn:1<=n)
  (hY:∀pre x W,J pre W->pre.length<ks.length->YieldAt Fence.wide (n-1) Tryz.prog q #[qJ x] W fun e W'=>
   (e=.returned (.bool true)/\J (pre++[x]) W'/\KeepsWalks W W')∨(e=.returned (.bool false)/\Jx (pre++[x]) W'))
  (W:World) (hJ:AbidesFrom W.heap.size J) (hm:W.cell? ⟨Bm,0,none⟩=some (.map (some b))) (hb:W.heap[b]? =some (.map es clock)) (h0:J [] W):
  CallsIn Fence.wide n Tryz.prog 201 #[.func (.yield q) #[] #[],.pointer (some ⟨Bm,0,none⟩)] W fun e W'=>(∃v,e=.returned v)/\
   ((∃ss:List af,ss.Perm ks/\J ss W')∨(∃pre,Jx pre W')):=by
 refine callsIn_of_wp Tryz.func201 rfl trivial ?_ rfl
 simp only[Tryz.ntmps201,List.size_toArray,List.length_cons,List.length_nil,Nat.reduceAdd,Nat.reduceSub,Array.replicate_succ,Array.replicate_zero,List.push_toArray,List.append_toArray,List.nil_append,List.cons_append]
 have hrg:=fun(wx:World) (h:wx.heap[b]? =some (.map es clock))=>run_range_map (P:=Tryz.prog) wx 166 _ _ b es clock Tryz.underlying166 h
 gi_wp2_with (first
  |(refine EY rfl _ _ rfl (hrg _ hb) ?_)
  |gi_in)
 have nA:b<W.heap.size:=(Array.getElem?_eq_some_iff.1 hb).1
 have Wp:J [] (W.alloc (.mapIter (some b) clock #[] clock)):=hJ _ _ _ none h0 (grown_of ((Below.refl _ W).alloc (Nat.le_refl _) _)) (fun r h=>by cases h)
 have Qq:(W.alloc (.mapIter (some b) clock #[] clock)).heap[W.heap.size]? =some (.mapIter (some b) clock #[] clock):=World.alloc_heap_new _ _
 have P5:(W.alloc (.mapIter (some b) clock #[] clock)).heap[b]? =some (.map es clock):=(Below.heap_alloc _ _ _ nA).trans hb
 go_frame
 gi_loopw [3] (fun _ wr=>∃(seen:Array Nat) (ss:List af),wr.heap[W.heap.size]? =some (.mapIter (some b) clock seen clock)/\wr.heap[b]? =some (.map es clock)/\(ss.map qJ++(leftOf es seen).toList.map (·.key)).Perm (ks.map qJ)/\J ss wr)
  (fun _ wr=>Ec es W.heap.size wr)
 case atStart=>
  exact⟨#[],[],Qq,P5,by rw[<-hk,show(leftOf es #[]).toList=es.toList by simp[leftOf]];exact List.Perm.refl _,Wp⟩
 case round=>
  obtain⟨seen,ss,hr,WD,hp,SE⟩:=hrel
  gi_wp2_with (first
   |(refine H0 rfl _ rfl W.heap.size b clock seen es rfl hr WD ee ?_ ?_)
   |gi_in)
  ·intro LH
   gi_wp2
   go_end0
   rw[LH]at hp
   exact⟨⟨_,rfl⟩,.inl ⟨ss,GF (by simpa using hp),SE⟩⟩
  ·intro e he0 w2 AQ DP My nH Ol
   have he:e∈(leftOf es seen).toList:=by simpa using he0
   obtain⟨BY,eR⟩:=Hm ee he
   obtain⟨x,hx⟩:∃x,e.key=qJ x:=by
    have h1:e.key∈es.toList.map (·.key):=List.mem_map_of_mem (mem_left he).1
    rw[hk]at h1
    obtain⟨x,_,hx⟩:=List.mem_map.1 h1
    exact⟨x,hx.symm⟩
   have Wq:J ss w2:=hJ ss wr w2 (some W.heap.size) SE My (fun r e=>by cases e;exact⟨Nat.le_refl _,_,hr,rfl⟩)
   have hlen:ss.length<ks.length:=by
    have h1:=hp.length_eq
    have h2:0<(leftOf es seen).toList.length:=List.length_pos_of_mem he
    simp only[List.length_append,List.length_map]at h1
    omega
   obtain⟨fn,tmps,assign,body,hy,hR⟩:=hY ss x (w2.alloc (.cells #[.int .i64 x.fu,.int .i64 x.eZ] 72)) (hJ _ _ _ none Wq (grown_of ((Below.refl _ w2).alloc (Nat.le_refl _) _)) (fun r h=>by cases h)) hlen
   rw[hx]at Ol ⊢
   simp only[qJ]at Ol hy ⊢
   gi_wp2
   refine hR.mono ?_
   rintro e3 W3 (⟨rfl,hJ3,LD⟩|⟨rfl,hJx3⟩)
   ·gi_wp2
    have U6:=KeepsWalks.alloc w2 (.cells #[.int .i64 x.fu,.int .i64 x.eZ] 72)
    have hr3:=LD.same _ _ (U6.same _ _ AQ rfl) rfl
    have hb3:=LD.same _ _ (U6.same _ _ DP rfl) rfl
    go_roundw
    case rel=>
     refine⟨_,ss++[x],hr3,hb3,?_,hJ3⟩
     rw[List.map_append,List.append_assoc]
     refine List.Perm.trans ?_ hp
     rw[hx]at BY
     exact BY.append_left _
    case measure=>rw[yV hr3,yV hr];omega
   ·gi_wp2
    refine bodyPost_ret (results_none rfl _ _ _) rfl ?_
    exact⟨⟨_,rfl⟩,.inr ⟨_,hJx3⟩⟩
theorem D8 (Bm b:Nat) (es:Array MapEntry) (clock:Nat) (ee:E4 es clock) (ks:List af) (hk:es.toList.map (·.key)=ks.map qJ) (n:Nat) (hn:1<=n) (w:World) (V9:Bm<w.heap.size) (hm:w.cell? ⟨Bm,0,none⟩=some (.map (some b))) (hb:w.heap[b]? =some (.map es clock)):
  SeqStopsK Fence.wide n Tryz.prog 201 #[.pointer (some ⟨Bm,0,none⟩)] (fun x:af=> #[qJ x]) KeepsWalks (fun ss=>ss.Perm ks) (fun _=>True) ks.length w:=fun q J Jx W hW hJ _ hY h0=>by
 refine(J7 q Bm b es clock ee ks hk J Jx n hn hY W hJ ((hW.cell (p:=⟨Bm,0,none⟩) V9).trans hm) ((hW.block b (Array.getElem?_eq_some_iff.1 hb).1).trans hb) h0).mono ?_
 rintro e W' ⟨h1,⟨ss,h2,h3⟩|⟨pre,h3⟩⟩
 ·exact⟨h1,.inl ⟨ss,h2,h3⟩⟩
 ·exact⟨h1,.inr ⟨pre,trivial,h3⟩⟩
def OD (ps:List af):List Value:=ps.flatMap fun p=>[.int .i64 p.fu,.int .i64 p.eZ]
theorem KE (ps:List af) (p:af):OD (ps++[p])=OD ps++[.int .i64 p.fu,.int .i64 p.eZ]:=by simp[OD]
theorem Nn {ps:List af} {i j:Nat} {p:af} (h:ps[i]? =some p) (hj:j<2):(OD ps)[i*2+j]? =([.int .i64 p.fu,.int .i64 p.eZ]:List Value)[j]? :=by
 induction ps generalizing i with
 |nil=>simp at h
 |cons q r ih=>
  cases i with
  |zero=>
   simp at h;subst h
   match j,hj with
   |0,_=>rfl
   |1,_=>rfl
  |succ i=>
   simp only[List.getElem?_cons_succ]at h
   have:=ih h
   have e:(i+1)*2+j=i*2+j+2:=ab
   rw[e]
   simpa[OD]using this
theorem cell_two_new (W:World) (T:TypeId) (x y:Value):∀(j:Nat) (u:Value),[x,y][j]? =some u->(W.alloc (.cells #[x,y] T)).cell? ((⟨W.heap.size,0,none⟩:Addr).add j)=some u:=fun j u h=>by
 have hb:(W.alloc (.cells #[x,y] T)).heap[W.heap.size]? =some (.cells #[x,y] T (0,0)):=World.alloc_heap_new _ _
 have e:∀k,(W.alloc (.cells #[x,y] T)).cell? ⟨W.heap.size,k,none⟩=(#[x,y]:Array Value)[k]? :=fun k=>by
  unfold World.cell?
  rw[show(W.alloc (.cells #[x,y] T)).heap[(⟨W.heap.size,k,none⟩:Addr).block]? = _ from hb]
  rfl
 rw[show(⟨W.heap.size,0,none⟩:Addr).add j=⟨W.heap.size,j,none⟩ by simp[Addr.add];exact fun h=>h.symm,e]
 simpa using h
theorem QG:(Tryz.prog.info? 72).map (fun i=>(i.zero,i.size,i.bytes))=some (some (.agg #[.int .i64 0,.int .i64 0]),2,16):=by kernel_rfl
theorem GV {β:Type} (B:Nat) (c:Array Value) (t:TypeId) (fr:Nat×Nat):Own (fun(_:β) W=>W.heap[B]? =some (.cells c t fr)):=fun _ X _ row h hg hr=>(hg.block B (Array.getElem?_eq_some_iff.1 h).1 (fun e=>by
 obtain⟨o,ho,hc⟩:=hr B e.symm
 rw[h]at ho;cases ho;cases hc)).trans h
theorem zA (Bm b:Nat) (es:Array MapEntry) (clock:Nat) (ee:E4 es clock) (ks:List af) (hk:es.toList.map (·.key)=ks.map qJ) (hl:ks.length<=1000000) (w:World) (V9:Bm<w.heap.size) (hm:w.cell? ⟨Bm,0,none⟩=some (.map (some b))) (hb:w.heap[b]? =some (.map es clock)):
  CallsIn Fence.wide 5 Tryz.prog 222 #[.slice none 0 0,.func (.func 201) #[] #[.pointer (some ⟨Bm,0,none⟩)]] w fun e W'=>∃(ss:List af) (v:Value),ss.Perm ks/\e=.returned v/\W'.ownsRow w.heap.size 72 2 v ss.length (OD ss)/\(v=.slice none 0 0↔ss=[])/\Below w.heap.size w W':=by
 obtain⟨i0,hi,MP,pM,nH⟩:=info_parts QG
 refine callsIn_of_wp_marks Tryz.func222 rfl trivial ?_ rfl
 simp only[Tryz.ntmps222,List.size_toArray,List.length_cons,List.length_nil,Nat.reduceAdd,Nat.reduceSub,Array.replicate_succ,Array.replicate_zero,List.push_toArray,List.append_toArray,List.nil_append,List.cons_append]
 gi_wp2
 have bO:=Boxed.new w 95 (.slice none 0 0)
 have BJ:Below w.heap.size w (w.alloc (.cells #[.slice none 0 0] 95)):=(Below.refl _ w).alloc (Nat.le_refl _) _
 have e8:(w.alloc (.cells #[.slice none 0 0] 95)).heap.size=w.heap.size+1:=by simp
 obtain⟨W0,SI⟩:∃W0,w.alloc (.cells #[.slice none 0 0] 95)=W0:=⟨_,rfl⟩
 rw[SI]at bO BJ e8 ⊢
 clear SI
 have Th:W0.cell? ⟨Bm,0,none⟩=some (.map (some b)):=(BJ.cell (p:=⟨Bm,0,none⟩) V9).trans hm
 have yC:=(BJ.block b (Array.getElem?_eq_some_iff.1 hb).1).trans hb
 refine wpIn_rangeFunc_ownH (n:=5) rfl ab (gf:=201) (lb:= #[.pointer (some ⟨Bm,0,none⟩)]) rfl trivial (enters_of Tryz.func201 (by kernel_rfl) rfl)
  (D8 Bm b es clock ee ks hk (5-1) ab W0 ab Th yC) walksK_t (walksK_b (w:=W0)) (Below.refl _ _) (fun _=>rfl)
  (fun pre W=>(∃v,Boxed W w.heap.size 95 v/\W.ownsRow w.heap.size 72 2 v pre.length (OD pre)/\(v=.slice none 0 0↔pre=[]))/\Below w.heap.size w W)
  (fun _ _ _=>False)
  (OwnFrom.and (Own.from (holdsRow_own w.heap.size w.heap.size 95 72 2 (fun pre=>pre.length) (fun pre=>OD pre) (fun pre v=>v=.slice none 0 0↔pre=[])) _) (ownFrom_below (Nat.le_refl _) ab))
  (fun _ _ _ _ _ hs _ _=>hs)
  ⟨⟨_,bO,World.ownsRow_nil _ _ _ _,by simp⟩,BJ⟩
  (fun x a' W=>∃Bx,w.heap.size<Bx/\W.heap[Bx]? =some (.cells #[.int .i64 x.fu,.int .i64 x.eZ] 72 (0,0))/\a'={tmps:= #[.slice none 0 0,.func (.func 201) #[] #[.pointer (some ⟨Bm,0,none⟩)],.pointer (some ⟨w.heap.size,0,none⟩),undef,.slice none 0 0,.pointer (some ⟨Bx,0,none⟩),.func (.func 201) #[] #[.pointer (some ⟨Bm,0,none⟩)],.agg #[.int .i64 x.fu,.int .i64 x.eZ],undef,undef,undef,undef,undef],defers:=[]})
  (fun x a' _ X Y row hs hg hr=>by obtain⟨Bx,h1,h2,h3⟩:=hs;exact⟨Bx,h1,GV Bx _ _ _ () X Y row h2 hg (fun r e=>(hr r e).2),h3⟩)
  ?assign ?body ?done ?stop
 case assign=>
  rintro q pre x W K ⟨⟨v,hv,fS,hnil⟩,hB⟩ hK
  simp only[qJ]
  gi_wp2
  exact hK _ _ ((KeepsOthers.alloc _ _).from _) (KeepsWalks.alloc _ _) ⟨⟨v,hv.alloc _,fS.alloc _,hnil⟩,hB.alloc hB.size _⟩ ⟨W.heap.size,hv.lt,World.alloc_heap_new _ _,rfl⟩
 case body=>
  rintro q pre x a' W hq hqr ⟨⟨v,hv,fS,hnil⟩,hB⟩ ⟨Bx,hBx,bX,rfl⟩ eR
  have hc:=hv.cell
  have V2:W.cell? ⟨Bx,0,none⟩=some (.int .i64 x.fu):=by simp[World.cell?,bX]
  have V3:W.cell? ⟨Bx,1,none⟩=some (.int .i64 x.eZ):=by simp[World.cell?,bX]
  have Ql:=hB.size
  gi_wp2_with (gi_at_builtin;refine wpListIn_append_own _ rfl _ _ 95 rfl w.heap.size 72 i0 (.agg #[.int .i64 0,.int .i64 0]) 2 16 (by kernel_rfl) hi MP pM nH rfl (by decide) _ _ _ rfl (fS.alloc _) ⟨W.heap.size,0,none⟩ 1 1 [.int .i64 x.fu,.int .i64 x.eZ] rfl rfl (cell_two_new _ _ _ _) (by simp[Value.oneCell']) (by unfold maxLen;omega) ab (by simp;omega) ?_;intro v' w4 BW yE _;obtain⟨g',V4,rfl⟩:=ownsRow_succ BW;obtain⟨qb,MM,AQ,tr,DP⟩:=hv.appended (by decide) fS Ql ab BW yE;have pF:=qb.cell;have Qc:=qb.frozen)
  exact⟨tr.from _,⟨tr.size,fun k o hk hw=>tr.same k o hk (Obj.not_cells_of_walk hw)⟩,⟨⟨_,MM,by rw[KE,List.length_append];exact AQ,by simp⟩,hB.trans DP⟩⟩
 case done=>
  rintro D ys W hD C2 ⟨⟨v,hv,fS,hnil⟩,hB⟩ hK
  have hc:=hv.cell
  gi_wp2
  refine⟨by simp,.inl ⟨_,_,rfl,run_takeDeferred hK,?_⟩⟩
  exact⟨_,results_tmp rfl _ _ _,ys,v,C2,rfl,ownsRow_putObj fS _ hK rfl,hnil,hB.trans (belowK_b (w:=w) (Nat.le_refl _) W D _ _ ab hK rfl rfl)⟩
 case stop=>
  rintro D c pre W _ _ h _
  exact h.elim
end Go.Proofs.YtakkdjfmiffbfaaGreatDoor.V

namespace Go.Proofs.YtakkdjfmiffbfaaGreatDoor.V
open Go.RowKit
theorem QV {P:Program} {w:World} {D:Nat->Prop} {ι:Names} {x y:Int} {v:Value} (h:dF P w D ι (.agg [.int .i64 x,.int .i64 y]) v):v=.agg #[.int .i64 x,.int .i64 y]:=by
 obtain⟨vs,f,rfl,e8,_,h1,h2⟩:=iw h
 have v0:=h1 0 (by simp)
 have v1:=h1 1 (by simp)
 rw[dO (h2 0 _ rfl)]at v0
 rw[dO (h2 1 _ rfl)]at v1
 obtain⟨vl⟩:=vs
 match vl,e8 with
 |[a,b],_=>
  simp at v0 v1
  rw[v0,v1]
theorem A5 {σ:aq} {X O:Id} {b1 b2:Bool} {es:List En} (hX:σ.get X=some ⟨b1,1,[[.map O mP]]⟩) (hO:σ.get O=some ⟨b2,mP.j5,es.map nz⟩) (hl:es.length<=1000000):
  Call Tryz.prog 222 [.bB,.fn 201 [.ptr X 0 0]] σ (fun r σ'=>σ.next<=σ'.next/\(∀x:Id,x.cW<σ.next->σ'.get x=σ.get x)/\∃ss:List af,ss.Perm (es.map (·.1))/\((ss=[]/\r=.bB)∨∃o:Id,r=.own o 0 ss.length/\σ'.get o=some ⟨true,2,ss.map aj⟩/\σ.next<=o.cW/\o.cW<σ'.next/\ss≠[])):=by
 refine eV fun hs D ι w vs S U A=>?_
 obtain⟨u1,XM,rfl,h1,h2⟩:=iv A
 obtain⟨u2,XN,h3,h4,h5⟩:=iv h2
 simp at h3;subst h3
 have:=oI h5
 simp at this;subst this
 obtain rfl:=iK h1
 obtain⟨vc,gf,rfl,_,xu,On,hrc⟩:=sK h4
 obtain⟨BX,hp,hBX,hkX⟩:=gZ (hrc 0 _ rfl)
 have Xp:vc= #[.pointer (some ⟨BX.b,0,none⟩)]:=by
  obtain⟨l⟩:=vc
  have q0:=On 0 (by simp)
  match l,xu with
  |[a],_=>simp at q0;rw[q0,hp];simp
 subst Xp
 obtain⟨BX',Mu,RX,_,_⟩:=S.row X _ hX
 rw[hBX]at Mu;injection Mu with Mu;subst Mu
 obtain⟨vm,Ow,hrm⟩:=(RX.row hkX).at_ 0 0 _ _ rfl rfl
 obtain⟨BO,rfl,hBO,hkO⟩:=Az hrm
 obtain⟨BO',Mt,RO,_,_⟩:=S.row O _ hO
 rw[hBO]at Mt;injection Mt with Mt;subst Mt
 obtain⟨_,zR,clock,hblk,e8,⟨_,B5⟩,hM⟩:=RO.map mP hkO
 have hk:zR.toList.map (·.key)=(es.map (·.1)).map qJ:=by
  have Ae:zR.toList.length=es.length:=by simpa using e8
  refine List.ext_getElem (by simpa using Ae) fun i h1 h2=>?_
  have hi:i<es.length:=by simpa using h2
  obtain⟨e,kv,vv,q1,q2,_,q4,_⟩:=hM i (nz es[i]) (by simp[hi])
  have e1:kv=.agg [.int .i64 es[i].1.fu,.int .i64 es[i].1.eZ]:=by
   simp[part,MK.ks,nz]at q2
   exact q2.symm
  subst e1
  have e2:=QV q4
  simp only[List.getElem_map]
  have e3:zR.toList[i]'ab=e:=by
   have:=Array.getElem?_eq_some_iff.1 q1
   obtain⟨_,h⟩:=this
   simpa using h
  rw[e3,e2];rfl
 have eR:∀b,D b->b<w.heap.size:=S.dead
 have hbx:BX.b<w.heap.size:=RX.lt
 have SP:w.cell? ⟨BX.b,0,none⟩=some (.map (some BO.b)):=by simpa using Ow
 refine(callsIn_wide.1 (zA BX.b BO.b zR clock B5 (es.map (·.1)) hk (by simpa using hl) w hbx SP hblk)).mono ?_
 rintro e W' ⟨ss,v,pJ,rfl,⟨hle',hown⟩,hnil,hB⟩
 have S':fY Tryz.prog hs D ι σ.get W':=S.stay (fun b hb=>hB.block b hb) hB.size (fun _ h=>h) (fun b hb=>Nat.lt_of_lt_of_le (eR b hb) hB.size) (fun _ h=>.inl h) (fun _ _ h=>h)
 have T:Step hs D ι w D ι W':=Step.stay S (fun b hb=>hB.block b hb) hB.size hB.os hB.tape hB.output (fun _ h=>h) (fun _ h=>.inl h) (fun _ _ h=>h)
 rcases hown with⟨rfl,h0⟩|⟨gb,cap,cur,rfl,S5,hblk2,hle,BQ,eb,pL⟩
 ·have yC:ss=[]:=hnil.1 rfl
  exact⟨.bB,_,σ.next,D,ι,_,rfl,⟨Nat.le_refl _,fun _ _=>rfl,ss,pJ,.inl ⟨yC,rfl⟩⟩,T,S',U,Nat.le_refl _,.eG _ _ .bB⟩
 ·have yC:ss≠[]:=fun h=>by have:=hnil.2 h;cases this
  have jP:ι ⟨0,σ.next⟩=none:=fresh U (fun h=>h)
  have hR:gD Tryz.prog W' D (jU ι ⟨0,σ.next⟩ ⟨gb,2,cap*2,none⟩) ⟨gb,2,cap*2,none⟩ ⟨true,2,ss.map aj⟩:=by
   refine j6.obj ⟨rfl,⟨cur,_,hblk2,eb⟩,?_,fun cs hc=>?_,fun cs hc a ha=>?_,fun i j cs a hi hj=>?_⟩ rfl
   ·simp only[List.length_map];exact Nat.mul_le_mul_right 2 hle
   ·obtain⟨b,_,rfl⟩:=List.mem_map.1 hc;rfl
   ·obtain⟨b,_,rfl⟩:=List.mem_map.1 hc
    simp[aj]at ha
    rcases ha with rfl|rfl<;>rfl
   ·rw[List.getElem?_map]at hi
    simp only[Option.map_eq_some_iff]at hi
    obtain⟨b,hb,rfl⟩:=hi
    have WT:j<2:=by have:=(List.getElem?_eq_some_iff.1 hj).1;simpa[aj]using this
    have qp:=(List.getElem?_eq_some_iff.1 hb).1
    have hg:=Nn hb WT
    rw[<-pL,List.getElem?_take,if_pos ab]at hg
    have key:∀x:Value,([.int .i64 b.fu,.int .i64 b.eZ]:List Value)[j]? =some x->W'.cell? ⟨gb,i*2+j,none⟩=some x:=fun x hx=>by
     rw[hx]at hg
     have e:W'.cell? ⟨gb,i*2+j,none⟩=cur[i*2+j]? :=by
      unfold World.cell?
      rw[show W'.heap[(⟨gb,i*2+j,none⟩:Addr).block]? = _ from hblk2]
      rfl
     rw[e,<-Array.getElem?_toList];exact hg
    match j,hj with
    |0,hj=>simp[aj]at hj;subst hj;exact⟨_,key _ rfl,.eG _ _ (.int _ _)⟩
    |1,hj=>simp[aj]at hj;subst hj;exact⟨_,key _ rfl,.eG _ _ (.int _ _)⟩
    |j+2,hj=>simp[aj]at hj
  have S2:=fY.add (r:=⟨true,2,ss.map aj⟩) S S' jP S5 hR
  refine⟨.own ⟨0,σ.next⟩ 0 ss.length,bH σ.get ⟨0,σ.next⟩ ⟨true,2,ss.map aj⟩,σ.next+1,D,jU ι ⟨0,σ.next⟩ ⟨gb,2,cap*2,none⟩,_,rfl,⟨Nat.le_succ _,fun x hx=>?_,ss,pJ,.inr ⟨_,rfl,by simp[bH],Nat.le_refl _,Nat.lt_succ_self _,yC⟩⟩,T.trans (Step.stay S' (fun _ _=>rfl) (Nat.le_refl _) rfl rfl rfl (fun _ h=>h) (fun _ h=>.inl h) (fe jP)),S2,U.upd.next,Nat.le_succ _,.own _ _ _ _ _ _ (eo _ _ _) rfl hle (.inr (by simp)) (by simp) BQ⟩
  have:¬x=⟨0,σ.next⟩:=fun e=>by subst e;simp at hx
  simp[bH,this]
end Go.Proofs.YtakkdjfmiffbfaaGreatDoor.V

namespace Go.Proofs.YtakkdjfmiffbfaaGreatDoor.V
open Go.RowKit
attribute [local irreducible] dL wpOps ez Call
attribute [local go_sem] ay ew dZ eE eC cY upd bJ K.av bZ AV.cells AV.cell rowOf rowsOf part ld rowAt eO bH bI cX dj eQ bq cF dx eA ed cQ dq cD cC dc de bu aE cm bt cr cq dn dr dp ck bz cE dm br aw cw bQ eP aZ bW bx aD cR aQ cZ AV.undef bd bj dh di c6 da bV dw dz bP du dt cu cz List.getD_cons_zero List.getD_cons_succ List.getD_nil List.all_cons List.all_nil Bool.and_true Bool.true_and Bool.and_self Bool.not_true Bool.not_false Option.map_some Option.map_none Option.bind_some Option.bind_none List.length_cons List.length_nil List.take_succ_cons List.take_zero List.take_nil List.drop_succ_cons List.drop_zero List.drop_nil List.head?_cons List.map_cons List.map_nil List.getElem?_cons_zero List.getElem?_cons_succ List.cons_append List.nil_append List.append_nil List.length_map List.set_cons_zero List.set_cons_succ Nat.reduceMul eq_self Int.toNat_natCast Int.natCast_nonneg and_self true_and and_true decide_true decide_false Bool.false_eq_true Nat.zero_add Nat.add_zero List.contains_cons List.contains_nil Bool.or_false Bool.false_or beq_self_eq_true Nat.reduceBEq ne_eq not_true_eq_false not_false_eq_true Id.mk.injEq false_and and_false Nat.reduceLT Int.reduceLE Int.reduceLT Int.reduceToNat Int.reduceNeg Int.reduceAdd Nat.le_refl List.length_append beq_true beq_false Bool.not_eq_eq_eq_not or_false false_or dW ad ae aL aI bf bR az bc aA aJ cj bh
theorem oE {α:Type} [DecidableEq α]:∀{xs ys:List α},xs.Nodup->(∀x∈xs,x∈ys)->xs.length=ys.length->xs.Perm ys
 |[],ys,_,_,h=>by
  have:ys=[]:=List.eq_nil_of_length_eq_zero h.symm
  subst this;exact List.Perm.nil
 |x::xs,ys,hn,hs,h=>by
  obtain⟨h1,h2⟩:=List.nodup_cons.1 hn
  have hx:=hs x (by simp)
  have hl:=List.length_erase_of_mem hx
  have:=@oE α _ xs (ys.erase x) h2 (fun y hy=>(List.mem_erase_of_ne fun e=>h1 (by rw[<-e];exact hy)).2 (hs y (by simp[hy]))) (by rw[hl];simp only[List.length_cons]at h;omega)
  exact(this.cons x).trans (List.perm_cons_erase hx).symm
theorem mM {L:List af} (h:nr L):L.Nodup:=List.Pairwise.imp (fun {a b} qQ e=>by rw[e,gq]at qQ;cases qQ) h
theorem NC {L qs:List af} (hR:nr L) (hp:qs.Perm L) (hs:∀i j:Nat,i<j->j<qs.length->kR (nQ qs j) (nQ qs i)=false):qs=L:=by
 have hd:qs.Nodup:=hp.nodup_iff.2 (mM hR)
 have hq:nr qs:=by
  unfold nr
  unfold List.Nodup at hd
  rw[List.pairwise_iff_getElem]at hd ⊢
  intro i j hi hj Ab
  have h1:=hs i j Ab hj
  rw[j4 hj,j4 hi]at h1
  exact uu h1 fun e=>hd i j hi hj Ab e.symm
 exact F1 hq hR fun x=>hp.mem_iff
theorem HM (σ:aq):Call Tryz.prog 200 [.bB,.fn 102 []] σ fun r σ'=>r=.fK []/\σ'.next=σ.next/\σ'.get=σ.get:=by
 refine eV fun hs D ι w vs S U A=>?_
 obtain⟨u1,XM,rfl,h1,h2⟩:=iv A
 obtain⟨u2,XN,h3,h4,h5⟩:=iv h2
 simp at h3;subst h3
 have:=oI h5
 simp at this;subst this
 obtain rfl:=iK h1
 refine(OH _ _ _ w).mono ?_
 rintro e w' ⟨rfl,rfl⟩
 exact⟨.fK [],σ.get,σ.next,D,ι,_,rfl,⟨rfl,rfl,rfl⟩,Step.refl _ _ _ _,S,U,Nat.le_refl _,.fK [] #[] (fun _=>Go.undef) rfl (fun j hj=>by simp at hj) (fun j a h=>by simp at h)⟩
theorem J8 (O:Id) (σ:aq):Call Tryz.prog 175 [.map O mP] σ (fun r σ'=>r=.fn 201 [.ptr ⟨175000000,σ.next⟩ 0 0]/\σ'.get ⟨175000000,σ.next⟩=some ⟨true,1,[[.map O mP]]⟩/\σ.next<σ'.next/\∀x:Id,x.cW<σ.next->σ'.get x=σ.get x):=by
 refine eU fH rfl fun hl=>?_
 clear hl
 (try((repeat(revert hN;revert N;apply Pn.out));refine wk @Nat.zero_add ?_;(repeat(refine Pn.mk ?_;intro N hN))))
 exact eK (.inl rfl) (vs:=[.fn 201 [.ptr ⟨175000000,σ.next⟩ 0 0]]) (sd @Nat.zero_add) ⟨rfl,sd @Nat.zero_add,bL,fun x hx=>by
  have:=dE hx
  simp only[go_sem, ↓reduceIte,Nat.reduceEqDiff,Nat.reduceAdd,Nat.reduceSub,Nat.reduceLeDiff,reduceCtorEq,this]⟩
theorem Gv {σ:aq} {X O:Id} {b1 b2:Bool} {es:List En} (hX:σ.get X=some ⟨b1,1,[[.map O mP]]⟩) (hO:σ.get O=some ⟨b2,mP.j5,es.map nz⟩) (hl:es.length<=1000000) (hXv:X.cW<σ.next) (DN:O.cW<σ.next):
  Call Tryz.prog 199 [.fn 201 [.ptr X 0 0]] σ (fun r σ'=>σ.next<=σ'.next/\(∀x:Id,x.cW<σ.next->σ'.get x=σ.get x)/\∃ss:List af,ss.Perm (es.map (·.1))/\((ss=[]/\r=.bB)∨∃o:Id,r=.own o 0 ss.length/\σ'.get o=some ⟨true,2,ss.map aj⟩/\σ.next<=o.cW/\o.cW<σ'.next/\ss≠[])):=by
 refine eU fH rfl fun fR=>?_
 clear fR
 (try((repeat(revert hN;revert N;apply Pn.out));refine wk @Nat.zero_add ?_;(repeat(refine Pn.mk ?_;intro N hN))))
 refine .inr (aS _ _ _ _ _ (fun r σ1 hq=>?_) (A5 (σ:=⟨σ.get,_⟩) hX hO hl))
 obtain⟨g1,x1⟩:=σ1
 obtain⟨q1,q2,ss,q3,q4⟩:=hq
 (try dsimp only at q1 q2 q4)
 refine hN _ _ ?_
 clear hN N
 (try((repeat(revert hN;revert N;apply Pn.out));refine wk @Nat.zero_add ?_;(repeat(refine Pn.mk ?_;intro N hN))))
 exact eK (.inl rfl) (vs:=[r]) (sd @Nat.zero_add) ⟨bL,fun x hx=>q2 x ab,ss,q3,by
  rcases q4 with h|⟨o,h1,h2,h3,h4,h5⟩
  ·exact .inl h
  ·exact .inr ⟨o,h1,h2,ab,bL,h5⟩⟩
theorem K3 {σ:aq} {X O:Id} {b1 b2:Bool} {es:List En} (hX:σ.get X=some ⟨b1,1,[[.map O mP]]⟩) (hO:σ.get O=some ⟨b2,mP.j5,es.map nz⟩) (hl:es.length<=1000000) (hXv:X.cW<σ.next) (DN:O.cW<σ.next) (L:List af) (hR:nr L) (hn:(es.map (·.1)).Nodup) (hm:∀x,x∈L↔x∈es.map (·.1)):
  Call Tryz.prog 174 [.fn 201 [.ptr X 0 0],.fn 102 []] σ (fun r σ'=>σ.next<=σ'.next/\(∀x:Id,x.cW<σ.next->σ'.get x=σ.get x)/\((L=[]/\r=.bB)∨∃o:Id,r=.own o 0 L.length/\σ'.get o=some ⟨true,2,L.map aj⟩/\σ.next<=o.cW/\o.cW<σ'.next/\L≠[])):=by
 refine eU fH rfl fun fR=>?_
 clear fR
 (try((repeat(revert hN;revert N;apply Pn.out));refine wk @Nat.zero_add ?_;(repeat(refine Pn.mk ?_;intro N hN))))
 refine .inr (aS _ _ _ _ _ (fun r σ1 hq=>?_) (Gv (σ:=⟨σ.get,_⟩) hX hO hl bL bL))
 obtain⟨g1,x1⟩:=σ1
 obtain⟨q1,q2,ss,q3,q4⟩:=hq
 (try dsimp only at q1 q2 q4)
 have pI:ss.Nodup:=q3.nodup_iff.2 hn
 have vZ:∀x,x∈L↔x∈ss:=fun x=>(hm x).trans q3.mem_iff.symm
 refine hN _ _ ?_
 clear hN N
 rcases q4 with⟨hs,rfl⟩|⟨o,rfl,q5,q6,q7,q8⟩
 ·have hL:L=[]:=List.eq_nil_iff_forall_not_mem.2 fun x hx=>by have:=(vZ x).1 hx;rw[hs]at this;cases this
  (try((repeat(revert hN;revert N;apply Pn.out));refine wk @Nat.zero_add ?_;(repeat(refine Pn.mk ?_;intro N hN))))
  refine .inr (aS _ _ _ _ _ (fun r σ2 hq=>?_) (HM ⟨g1,_⟩))
  obtain⟨g2,x2⟩:=σ2
  obtain⟨rfl,u1,u2⟩:=hq
  (try dsimp only at u1 u2)
  refine hN _ _ ?_
  clear hN N
  (try((repeat(revert hN;revert N;apply Pn.out));refine wk @Nat.zero_add ?_;(repeat(refine Pn.mk ?_;intro N hN))))
  exact eK (.inl rfl) (vs:=[.bB]) (sd @Nat.zero_add) ⟨bL,fun x hx=>(congrFun u2 x).trans (q2 x ab),.inl ⟨hL,rfl⟩⟩
 ·have nP:ss.length<=1048576:=by rw[q3.length_eq,List.length_map];omega
  (try((repeat(revert hN;revert N;apply Pn.out));refine wk @Nat.zero_add ?_;(repeat(refine Pn.mk ?_;intro N hN))))
  refine .inr (aS _ _ _ _ _ (fun r σ2 hq=>?_) (HO Uo OH ss nP ⟨g1,_⟩ o q5))
  obtain⟨g2,x2⟩:=σ2
  obtain⟨u1,u2,qs,u3,u4,u5,u6⟩:=hq
  (try dsimp only at u1 u2 u3)
  have Vm:qs=L:=NC hR ((oE (mM hR) (fun x hx=>(u5 x).2 ((vZ x).1 hx)) (by
   rw[u4]
   exact(oE (mM hR) (fun x hx=>(vZ x).1 hx) (Nat.le_antisymm (l5 (mM hR) fun x hx=>(vZ x).1 hx) (l5 pI fun x hx=>(vZ x).2 hx))).length_eq)).symm) u6
  rw[Vm]at u3 u4
  have PZ:L≠[]:=fun e=>by rw[e]at u4;exact q8 (List.eq_nil_of_length_eq_zero u4.symm)
  refine hN _ _ ?_
  clear hN N
  (try((repeat(revert hN;revert N;apply Pn.out));refine wk @Nat.zero_add ?_;(repeat(refine Pn.mk ?_;intro N hN))))
  exact eK (.inl rfl) (vs:=[.own o 0 ss.length]) (sd @Nat.zero_add) ⟨bL,fun x hx=>by
   have h1:x≠o:=fun e=>by rw[e]at hx;omega
   exact(u2 x h1).trans (q2 x ab),.inr ⟨o,by rw[u4];rfl,u3,ab,bL,PZ⟩⟩
def C9 (z m:Nat) (L:List aa) (v:AV) (g:Rows) (n:Nat):Prop:=(L=[]/\v=.bB)∨∃u:Id,v=.own u 0 L.length/\g u=some ⟨true,3,L.map ai⟩/\m<=u.cW/\u.cW<n/\0<L.length/\u.site=z
theorem C9.frame {z m:Nat} {L:List aa} {v v':AV} {g g':Rows} {n n':Nat} (h:C9 z m L v g n) (he:v'=v) (hn:n<=n') (hf:∀x:Id,x.cW<n->g' x=g x):C9 z m L v' g' n':=by
 subst he
 rcases h with h|⟨u,h1,h2,h3,h4,h5⟩
 ·exact .inl h
 ·exact .inr ⟨u,h1,(hf u h4).trans h2,h3,ab,h5⟩
def qh (p:af) (ks:List Int) (j:Nat):List aa:=(ks.take j).map fun k=>⟨p,k⟩
theorem Hw {p:af} {ks:List Int} {j:Nat} (h:j<ks.length):qh p ks (j+1)=qh p ks j++[⟨p,ks.getD j 0⟩]:=by
 unfold qh
 rw[List.take_succ_eq_append_getElem h,List.map_append]
 simp[List.getD_eq_getElem?_getD,h]
theorem Ku (p:af) (ks:List Int):qh p ks ks.length=ks.map fun k=>(⟨p,k⟩:aa):=by unfold qh;rw[List.take_length]
theorem MV {ks:List Int} {j:Nat} (h:j<ks.length):(ks.map bE)[j]? =some [.int .i64 (ks.getD j 0)]:=by simp[bE,List.getD_eq_getElem?_getD,h]
structure VM (g:Rows) (n:Nat) (c T O:Id) (s:ax) (l:List aa):Prop where
 row:g c=some ⟨true,6,[[.sl (s.ar.bU.map ea),.sl (s.ar.ah.map dS),.sl (s.dI.ah.map ai),.int .i64 s.bD,.map T mP,.map O mP]]⟩
 cv:c.cW<n
 ov:O.cW<n
 op:∃es:List En,g O=some ⟨true,mP.j5,es.map nz⟩/\uM g n es (gL s l) (fun _=>True)
theorem QJ {σ:aq} {c T O:Id} {s:ax} {l:List aa} (h:VM σ.get σ.next c T O s l) (hT:1<=s.bD) (hS:gj s.ar) (hA:ju s.ar l):
  Call Tryz.prog 131 [.ptr c 0 0] σ (fun r σ'=>σ.next<=σ'.next/\(∀x:Id,x.cW<σ.next->σ'.get x=σ.get x)/\C9 131008005 σ.next (AM (eI s l) s.ar.ah.length (lY l)) r σ'.get σ'.next):=by
 refine eU fH rfl fun fR=>?_
 clear fR
 obtain⟨es,hO,hE⟩:=h.op
 have fS:=h.row
 have v1:=dE h.cv
 have v2:=dE h.ov
 have G6:=hS.rO
 have JC:=hA.1.CX
 have Qf:∀q,q∈lv s l↔q∈es.map (·.1):=fun q=>by
  rw[wq hT hA]
  rcases hE.at_ q trivial with⟨h1,h2⟩|⟨h1,o,h2,_⟩
  ·refine⟨fun h=>absurd h1 h,fun h=>?_⟩
   obtain⟨e,he,rfl⟩:=List.mem_map.1 h
   exact absurd rfl (h2 e he)
  ·exact⟨fun _=>List.mem_map_of_mem (f:=(·.1)) h2,fun _=>h1⟩
 have Tr:(lv s l).length<=10000:=by
  have h1:(lv s l).length<=(lY l).length:=List.length_filter_le _ _
  have h2:(lY l).length<=l.length*4:=qf l l.length
  omega
 have hes:es.length<=1000000:=by
  have h1:=l5 hE.nodup fun x hx=>(Qf x).2 hx
  rw[List.length_map]at h1
  omega
 rw[Dj]
 have hR:=Dx s l
 have su:∀q∈lv s l,gL s l q≠[]:=fun q hq=>(wq hT hA q).1 hq
 generalize lv s l=ps at Qf Tr hR su
 (try((repeat(revert hN;revert N;apply Pn.out));refine wk (tw @fS @v1) ?_;(repeat(refine Pn.mk ?_;intro N hN))))
 refine .inr (aS _ _ _ _ _ (fun r σ1 hq=>?_) (J8 O _))
 obtain⟨g1,x1⟩:=σ1
 obtain⟨rfl,q1,q2,q3⟩:=hq
 (try dsimp only at q1 q2 q3)
 have hO1:g1 O=some ⟨true,mP.j5,es.map nz⟩:=(q3 O (by have:=h.ov;(try dsimp only);omega)).trans hO
 refine hN _ _ ?_
 clear hN N
 (try((repeat(revert hN;revert N;apply Pn.out));refine wk @Nat.zero_add ?_;(repeat(refine Pn.mk ?_;intro N hN))))
 refine .inr (aS _ _ _ _ _ (fun r σ2 hq=>?_) (K3 (σ:=⟨g1,_⟩) q1 hO1 hes bL (by have:=h.ov;(try dsimp only);omega) ps hR hE.nodup Qf))
 obtain⟨g2,x2⟩:=σ2
 obtain⟨u1,u2,u3⟩:=hq
 (try dsimp only at u1 u2 u3)
 have jO:∀x:Id,x.cW<σ.next->g2 x=σ.get x:=fun x hx=>(u2 x ab).trans (q3 x bL)
 refine hN _ _ ?_
 clear hN N
 rcases u3 with⟨hps,rfl⟩|⟨o,rfl,ho,RH,hox,hpne⟩
 ·(try((repeat(revert hN;revert N;apply Pn.out));refine wk @Nat.zero_add ?_;(repeat(refine Pn.mk ?_;intro N hN))))
  refine cU (fun n env st=>(env 15=.int .i64 0/\env 14=.int .i64 0/\env 3=.bB)/\σ.next<=st.next/\∀x:Id,x.cW<σ.next->st.get x=σ.get x) 0 ⟨⟨sd @Nat.zero_add,sl @Nat.zero_add,sd @Nat.zero_add⟩,bL,fun x hx=>jO x hx⟩ ?_
  rintro m e st ⟨⟨Db,uR,a3⟩,an,aF⟩ -
  have d0:decide ((0:Int)<0)=false:=rfl
  (try((repeat(revert hN;revert N;apply Pn.out));refine wk (tw @a3 (tw @uR (tw @Db @d0))) ?_;(repeat(refine Pn.mk ?_;intro N hN))))
  exact eK (.inl rfl) (vs:=[.bB]) (sd @a3) ⟨bL,fun x hx=>aF x hx,.inl ⟨by rw[hps];rfl,rfl⟩⟩
 ·have jv:g2 c=some ⟨true,6,[[.sl (s.ar.bU.map ea),.sl (s.ar.ah.map dS),.sl (s.dI.ah.map ai),.int .i64 s.bD,.map T mP,.map O mP]]⟩:=(jO c h.cv).trans fS
  have SG:g2 O=some ⟨true,mP.j5,es.map nz⟩:=(jO O h.ov).trans hO
  have P9:=h.cv
  have DN:=h.ov
  (try((repeat(revert hN;revert N;apply Pn.out));refine wk @Nat.zero_add ?_;(repeat(refine Pn.mk ?_;intro N hN))))
  refine cU (fun n env st=>∃k:Nat,n=(ps.length)-k/\k<=(ps.length)/\env 15=.int .i64 (k:Int)/\(x2<=st.next/\(∀x:Id,x.cW<x2->st.get x=g2 x)/\C9 131008005 x2 (AM (eI s l) s.ar.ah.length (ps.take k)) (env 3) st.get st.next)) (ps.length) ⟨0,ab,ab,sl @Nat.zero_add,by(try dsimp only);exact⟨ab,fun x hx=>sd @Nat.zero_add,.inl ⟨rfl,sd @Nat.zero_add⟩⟩⟩ ?_
  rintro n_a env_a st_a ⟨k,rfl,ale,Db,qn⟩ eL
  have a0:=eL 0 (by kernel_rfl);have uf:=eL 13 (by kernel_rfl);have uR:=eL 14 (by kernel_rfl)
  simp only[go_sem, ↓reduceIte,Nat.reduceEqDiff,Nat.reduceAdd,Nat.reduceSub,Nat.reduceLeDiff,reduceCtorEq]at a0 uf uR
  clear eL
  obtain⟨an,eL,a3⟩:=qn
  have bl:(AM (eI s l) s.ar.ah.length (ps.take k)).length<=10000*160:=by
   have h2:=zE (eI s l) s.ar.ah.length (ps.take k)
   have h3:(ps.take k).length*s.ar.ah.length<=10000*160:=Nat.mul_le_mul (by rw[List.length_take];omega) G6
   omega
  by_cases hk:(k:Int)<(ps.length:Int)
  ·have eB:∀{e:Env} {gg:Rows} {nx:Nat},(e 15=.int .i64 (IntKind.i64.wrap ((k:Int)+1)))->(x2<=nx/\(∀x:Id,x.cW<x2->gg x=g2 x)/\C9 131008005 x2 (AM (eI s l) s.ar.ah.length (ps.take (k+1))) (e 3) gg nx)->∃m0,m0<(ps.length)-k/\∃k:Nat,m0=(ps.length)-k/\k<=(ps.length)/\e 15=.int .i64 (k:Int)/\(x2<=nx/\(∀x:Id,x.cW<x2->gg x=g2 x)/\C9 131008005 x2 (AM (eI s l) s.ar.ah.length (ps.take k)) (e 3) gg nx):=fun x1 x2=>⟨_,ab,k+1,rfl,ab,(by rw[x1,cI ab]),x2⟩
   have jB:k<ps.length:=ab
   have AO:=(eL o hox).trans ho
   have vao:=dE (i:=o) (n:=st_a.next) ab
   have jl:=Ub jB
   have On:=(eL c ab).trans jv
   have vac:=dE (i:=c) (n:=st_a.next) ab
   have hgO:=(eL O ab).trans SG
   have vaO:=dE (i:=O) (n:=st_a.next) ab
   obtain⟨o',Ig,W9,Qn⟩:∃o':Id,(nQ ps k,AV.own o' 0 (gL s l (nQ ps k)).length)∈es/\o'.cW<σ.next/\σ.get o'=some ⟨true,1,(gL s l (nQ ps k)).map bE⟩:=by
    rcases hE.at_ (nQ ps k) trivial with⟨h1,_⟩|⟨_,o',h2⟩
    ·exact absurd h1 (su _ (FZ jB))
    ·exact⟨o',h2⟩
   obtain⟨fi,xL,_,_,B4,Tm⟩:=sF (nQ ps k) es
   obtain⟨j0,rfl,RB⟩:∃j,fi=some j/\(es.map nz)[j]? =some [.int .i64 (nQ ps k).fu,.int .i64 (nQ ps k).eZ,.own o' 0 (gL s l (nQ ps k)).length]:=by
    cases fi with
    |none=>exact absurd rfl (Tm rfl _ Ig)
    |some j=>
     obtain⟨v,hv⟩:=B4 j rfl
     have e:=M3 hE.nodup (List.mem_of_getElem? hv) Ig
     subst e
     exact⟨j,rfl,by rw[List.getElem?_map,hv];rfl⟩
   have SL:=IL (B:=eI s l) (m:=s.ar.ah.length) jB
   have rW:Dh (eI s l) (nQ ps k) s.ar.ah.length=(gL s l (nQ ps k)).map fun t=>(⟨nQ ps k,t⟩:aa):=Di _ _ _
   rw[rW,<-Ku]at SL
   have hul:(gL s l (nQ ps k)).length<=160:=by
    have:=zV (eI s l) (nQ ps k) s.ar.ah.length
    unfold gL;omega
   generalize nQ ps k=q at xL RB Ig Qn jl SL hul
   generalize gL s l q=us at RB Ig Qn SL hul
   generalize AM (eI s l) s.ar.ah.length (ps.take k)=L at a3 bl SL
   (try((repeat(revert hN;revert N;apply Pn.out));refine wk (tw @Db (tw @a0 (tw @uf (tw @uR (tw @hk (tw @AO (tw @vao (tw @jl (tw @On (tw @vac (tw @hgO (tw @vaO (tw @xL (tw @RB @aj.eq_1)))))))))))))) ?_;(repeat(refine Pn.mk ?_;intro N hN))))
   refine cU (fun n env st=>∃j:Nat,n=(us.length)-j/\j<=(us.length)/\env 26=.int .i64 (j:Int)/\st.get ⟨131004002,st_a.next+1⟩=some ⟨true,2,[aj q]⟩/\(st_a.next+2<=st.next/\(∀x:Id,x.cW<x2->st.get x=g2 x)/\C9 131008005 x2 (L++qh q us j) (env 3) st.get st.next)) (us.length) ⟨0,ab,ab,sl (tw @Db (tw @a0 (tw @uf (tw @uR @aj.eq_1)))),sl (tw @Db (tw @a0 (tw @uf (tw @uR @aj.eq_1)))),by(try dsimp only);exact⟨ab,fun x hx=>by
    have h2:=dE (i:=x) (n:=st_a.next) ab
    have h3:=eL x hx
    simp only[go_sem, ↓reduceIte,Nat.reduceEqDiff,Nat.reduceAdd,Nat.reduceSub,Nat.reduceLeDiff,reduceCtorEq,h2,h3],by
    rw[show qh q us 0=[]from rfl,List.append_nil]
    exact a3.frame (sd @Nat.zero_add) ab fun x hx=>by
     have h2:=dE hx
     simp only[go_sem, ↓reduceIte,Nat.reduceEqDiff,Nat.reduceAdd,Nat.reduceSub,Nat.reduceLeDiff,reduceCtorEq,h2]⟩⟩ ?_
   rintro n_b env_b st_b ⟨j,rfl,ble,b26,bg0,bI0⟩ fA
   have b0:=fA 0 (by kernel_rfl);have b5:=fA 5 (by kernel_rfl);have IK:=fA 13 (by kernel_rfl);have Pd:=fA 14 (by kernel_rfl);have Pe:=fA 15 (by kernel_rfl);have Pf:=fA 24 (by kernel_rfl);have Pg:=fA 25 (by kernel_rfl)
   simp only[go_sem, ↓reduceIte,Nat.reduceEqDiff,Nat.reduceAdd,Nat.reduceSub,Nat.reduceLeDiff,reduceCtorEq,Db,a0,uf,uR,aj]at b0 b5 IK Pd Pe Pf Pg
   clear fA
   obtain⟨bn,fA,b3⟩:=bI0
   have VH:=dE (i:=⟨131004002,st_a.next+1⟩) (n:=st_b.next) bL
   have Oh:(L++qh q us j).length<=16777214:=by
    have:(qh q us j).length<=us.length:=by unfold qh;simp;omega
    rw[List.length_append];omega
   by_cases hj:(j:Int)<(us.length:Int)
   ·have fP:∀{e:Env} {gg:Rows} {nx:Nat},(e 26=.int .i64 (IntKind.i64.wrap ((j:Int)+1)))->(gg ⟨131004002,st_a.next+1⟩=some ⟨true,2,[aj q]⟩)->(st_a.next+2<=nx/\(∀x:Id,x.cW<x2->gg x=g2 x)/\C9 131008005 x2 (L++qh q us (j+1)) (e 3) gg nx)->∃m0,m0<(us.length)-j/\∃j:Nat,m0=(us.length)-j/\j<=(us.length)/\e 26=.int .i64 (j:Int)/\gg ⟨131004002,st_a.next+1⟩=some ⟨true,2,[aj q]⟩/\(st_a.next+2<=nx/\(∀x:Id,x.cW<x2->gg x=g2 x)/\C9 131008005 x2 (L++qh q us j) (e 3) gg nx):=fun x1 x2 x3=>⟨_,ab,j+1,rfl,ab,(by rw[x1,cI ab]),x2,x3⟩
    have vV:j<us.length:=ab
    have v7:=Hw (p:=q) vV
    have Mz:=MV vV
    have S8:=(fA o' ab).trans ((jO o' W9).trans Qn)
    have Uq:=dE (i:=o') (n:=st_b.next) ab
    have Tk:(us.map bE).length=us.length:=by simp
    have Oi:L++qh q us (j+1)=(L++qh q us j)++[⟨q,us.getD j 0⟩]:=by rw[v7,List.append_assoc]
    generalize us.getD j 0=t at Mz Oi
    generalize L++qh q us j=M at b3 Oh Oi
    have G2:(M++[(⟨q,t⟩:aa)]).length=M.length+1:=by simp
    have qt:(M++[(⟨q,t⟩:aa)]).map ai=M.map ai++[[.int .i64 q.fu,.int .i64 q.eZ,.int .i64 t]]:=by rw[List.map_append];rfl
    rcases b3 with⟨hM,b3⟩|⟨u,b3,hug,hum,huv,hul0,QA⟩
    ·subst hM
     (try((repeat(revert hN;revert N;apply Pn.out));refine wk (tw @b26 (tw @bg0 (tw @b0 (tw @b5 (tw @IK (tw @Pd (tw @Pe (tw @Pf (tw @Pg (tw @hj (tw @Mz (tw @S8 (tw @Uq (tw @Tk (tw @b3 (tw @VH @aj.eq_1)))))))))))))))) ?_;(repeat(refine Pn.mk ?_;intro N hN))))
     refine fP ?_ ?_ (by(try dsimp only);exact⟨ab,fun x hx=>by
      have h2:=dE (i:=x) (n:=st_b.next) ab
      have h3:=fA x hx
      simp only[go_sem, ↓reduceIte,Nat.reduceEqDiff,Nat.reduceAdd,Nat.reduceSub,Nat.reduceLeDiff,reduceCtorEq,h2,h3],.inr ⟨⟨131008005,st_b.next+1+1⟩,by rw[Oi,G2];simp only[go_sem, ↓reduceIte,Nat.reduceEqDiff,Nat.reduceAdd,Nat.reduceSub,Nat.reduceLeDiff,reduceCtorEq]<;>rfl,by rw[Oi,qt];simp only[go_sem, ↓reduceIte,Nat.reduceEqDiff,Nat.reduceAdd,Nat.reduceSub,Nat.reduceLeDiff,reduceCtorEq]<;>rfl,bL,bL,by rw[Oi,G2];omega,rfl⟩⟩)
     all_goals simp only[go_sem, ↓reduceIte,Nat.reduceEqDiff,Nat.reduceAdd,Nat.reduceSub,Nat.reduceLeDiff,reduceCtorEq,b26,bg0,b0,b5,IK,Pd,Pe,Pf,Pg,VH,aj]
    ·have vub:=dE huv
     have fw:(M.map ai).length=M.length:=by simp
     have Wt:M.length<=16777215:=ab
     have ux:=ga QA (b:=131004002) (v:=st_a.next+1) (by decide)
     (try((repeat(revert hN;revert N;apply Pn.out));refine wk (tw @b26 (tw @bg0 (tw @b0 (tw @b5 (tw @IK (tw @Pd (tw @Pe (tw @Pf (tw @Pg (tw @hj (tw @Mz (tw @S8 (tw @Uq (tw @Tk (tw @b3 (tw @hug (tw @vub (tw @fw (tw @Wt (tw @VH (tw @ux @aj.eq_1))))))))))))))))))))) ?_;(repeat(refine Pn.mk ?_;intro N hN))))
     refine fP ?_ ?_ (by(try dsimp only);exact⟨ab,fun x hx=>by
      have h2:=dE (i:=x) (n:=st_b.next) ab
      have h4:=dD (a:=x) (b:=u) ab
      have h3:=fA x hx
      simp only[go_sem, ↓reduceIte,Nat.reduceEqDiff,Nat.reduceAdd,Nat.reduceSub,Nat.reduceLeDiff,reduceCtorEq,h2,h3,h4],.inr ⟨⟨131008005,st_b.next+1+1⟩,by rw[Oi,G2];simp only[go_sem, ↓reduceIte,Nat.reduceEqDiff,Nat.reduceAdd,Nat.reduceSub,Nat.reduceLeDiff,reduceCtorEq]<;>rfl,by rw[Oi,qt];simp only[go_sem, ↓reduceIte,Nat.reduceEqDiff,Nat.reduceAdd,Nat.reduceSub,Nat.reduceLeDiff,reduceCtorEq]<;>rfl,bL,bL,by rw[Oi,G2];omega,rfl⟩⟩)
     all_goals simp only[go_sem, ↓reduceIte,Nat.reduceEqDiff,Nat.reduceAdd,Nat.reduceSub,Nat.reduceLeDiff,reduceCtorEq,b26,bg0,b0,b5,IK,Pd,Pe,Pf,Pg,VH,ux,aj]
   ·have hju:j=us.length:=ab
    subst hju
    (try((repeat(revert hN;revert N;apply Pn.out));refine wk (tw @b26 (tw @bg0 (tw @b0 (tw @b5 (tw @IK (tw @Pd (tw @Pe (tw @Pf (tw @Pg @hj))))))))) ?_;(repeat(refine Pn.mk ?_;intro N hN))))
    exact eB (sd (tw @Db (tw @a0 (tw @uf (tw @uR (tw @b26 (tw @bg0 (tw @b0 (tw @b5 (tw @IK (tw @Pd (tw @Pe (tw @Pf @Pg))))))))))))) (by(try dsimp only);exact⟨ab,fun x hx=>fA x hx,by
     rw[SL]
     exact b3.frame (sd @Nat.zero_add) ab fun x hx=>rfl⟩)
  ·have ko:k=ps.length:=ab
   subst ko
   rw[List.take_length]at a3
   (try((repeat(revert hN;revert N;apply Pn.out));refine wk (tw @Db (tw @a0 (tw @uf (tw @uR @hk)))) ?_;(repeat(refine Pn.mk ?_;intro N hN))))
   exact eK (.inl rfl) (vs:=[env_a 3]) (sd @Nat.zero_add) ⟨bL,fun x hx=>(eL x ab).trans (jO x hx),by
    rcases a3 with h1|⟨u,h1,h2,h3,h4,h5⟩
    ·exact .inl h1
    ·exact .inr ⟨u,h1,h2,ab,bL,h5⟩⟩
end Go.Proofs.YtakkdjfmiffbfaaGreatDoor.V

namespace Go.Proofs.YtakkdjfmiffbfaaGreatDoor.V
open Go.RowKit
theorem zD {B:af->Int->Bool} {p:af}:∀{t:Nat} {x:aa},x∈Dh B p t->∃k:Nat,k<t/\x=⟨p,k⟩/\B p k=true
 |0,x,h=>by simp[Dh]at h
 |t+1,x,h=>by
  rw[Dh]at h
  split at h
  ·rename_i hb
   rcases List.mem_append.1 h with h|h
   ·obtain⟨k,hk,h1⟩:=zD h
    exact⟨k,ab,h1⟩
   ·exact⟨t,ab,by simpa using h,hb⟩
  ·obtain⟨k,hk,h1⟩:=zD h
   exact⟨k,ab,h1⟩
theorem LZ {B:af->Int->Bool} {m:Nat} {ps:List af} {x:aa} (h:x∈AM B m ps):x.cG∈ps/\∃k:Nat,k<m/\x.cL=k/\B x.cG x.cL=true:=by
 obtain⟨p,hp,hx⟩:=List.mem_flatMap.1 h
 obtain⟨k,hk,rfl,hb⟩:=zD hx
 exact⟨hp,k,hk,rfl,hb⟩
noncomputable def iG (s:ax) (l:List aa):List aa:=AM (eI s l) s.ar.ah.length (lY l)
theorem Kx {s:ax} {l:List aa} (hS:gj s.ar) (hA:ju s.ar l):(iG s l).length<=320000:=by
 have h1:=zE (eI s l) s.ar.ah.length (lY l)
 have h2:(lY l).length<=l.length*4:=qf l l.length
 have h3:=hA.1.CX
 have h4:=hS.rO
 have h5:(lY l).length*s.ar.ah.length<=2000*160:=Nat.mul_le_mul ab h4
 unfold iG;omega
def ua (sch:List Int) (d n:Nat):Nat:=if sch.length=0 then 0 else(sch.getD (d % sch.length) 0).toNat % n
theorem pn {sch:List Int} {d n:Nat} (h:0<n):ua sch d n<n:=by
 unfold ua
 split
 ·exact h
 ·exact Nat.mod_lt _ h
noncomputable def mF (s:ax) (sch:List Int) (steps:Nat):Nat->List aa->Option (List aa)
 |0,es=>some es
 |f+1,es=>if (iG s (ek s es es.length)).length=0 then some es else if steps<=es.length then some es else if 500<=(ek s es es.length).length then none else mF s sch steps f (es++[cP (iG s (ek s es es.length)) (ua sch es.length (iG s (ek s es es.length)).length)])
theorem Cw {s:ax} {es ds:List aa} {i:Nat} (h:i<=es.length):ek s (es++ds) i=ek s es i:=by
 unfold ek
 rw[List.take_append_of_le_length h]
theorem KB {es ds:List aa} {i:Nat} (h:i<es.length):cP (es++ds) i=cP es i:=by
 simp[cP,List.getD_eq_getElem?_getD,List.getElem?_append_left h]
theorem Er {s:ax} {es ds:List aa} {i:Nat} (h:i<es.length):iW s (es++ds) i=iW s es i:=by
 unfold iW OC
 rw[Cw ab,KB h]
theorem Ct {s:ax} {l:List aa} {x:aa} (h:x∈iG s l):ef s.ar x.cL=true/\eI s l x.cG x.cL=true:=by
 obtain⟨_,k,hk,e,hf⟩:=LZ h
 refine⟨?_,hf⟩
 rw[e]
 exact ly ab
def gC (s:ax) (es:List aa):Prop:=∀j,j<es.length->iW s es j=true
theorem gC.nil (s:ax):gC s []:=fun j hj=>by simp at hj
theorem gC.add {s:ax} {es:List aa} (h:gC s es) {x:aa} (hx:x∈iG s (ek s es es.length)) (hl:(ek s es es.length).length<500):gC s (es++[x]):=fun j hj=>by
 rw[List.length_append,List.length_singleton]at hj
 by_cases h0:j<es.length
 ·rw[Er h0];exact h j h0
 ·have e:j=es.length:=ab
  subst e
  obtain⟨h1,h2⟩:=Ct hx
  unfold iW OC
  rw[Cw (Nat.le_refl _),show cP (es++[x]) es.length=x by simp[cP],h1,h2]
  simpa using hl
theorem oF (s:ax) (es:List aa):∀i,i<=es.length->(ek s es i).length=s.dI.ah.length+i
 |0,_=>rfl
 |i+1,hi=>by rw[ke s es ab,wR,oF s es i ab];rfl
theorem yw {s:ax} {sch:List Int} {steps:Nat}:∀(f:Nat) (es zR:List aa),gC s es->es.length<=steps->mF s sch steps f es=some zR->gC s zR/\zR.length<=steps
 |0,es,zR,h,hl,he=>by
  rw[mF]at he;injection he with he;subst he
  exact⟨h,hl⟩
 |f+1,es,zR,h,hl,he=>by
  rw[mF]at he
  split at he
  ·injection he with he;subst he;exact⟨h,hl⟩
  ·split at he
   ·injection he with he;subst he;exact⟨h,hl⟩
   ·split at he
    ·cases he
    ·refine yw f _ _ (h.add (gP (pn ab)) ab) ?_ he
     rw[List.length_append,List.length_singleton];omega
noncomputable def qP (s:ax) (sch:List Int) (steps:Nat):Option (List aa):=mF s sch steps 501 []
theorem sj {s:ax} {sch:List Int} {steps:Nat} {es:List aa} (h:qP s sch steps=some es):gC s es/\es.length<=steps:=yw _ _ _ (gC.nil s) (Nat.zero_le _) h
theorem E9 {B:af->Int->Bool} {p:af} {t:Nat} (hB:B p (t:Int)=true):∀{m:Nat},t<m->(⟨p,(t:Int)⟩:aa)∈Dh B p m
 |0,h=>by omega
 |m+1,h=>by
  rw[Dh]
  by_cases e:t=m
  ·subst e;rw[if_pos hB];simp
  ·have ih:=E9 hB (m:=m) ab
   split
   ·exact List.mem_append_left _ ih
   ·exact ih
theorem Nf {s:ax} (hT:1<=s.bD) {l:List aa} (hA:ju s.ar l) {p:af} {t:Int} (ht:ef s.ar t=true) (h:eI s l p t=true):(⟨p,t⟩:aa)∈iG s l:=by
 have hn:=BA hT hA h
 have Vq:=eH ht
 obtain⟨k,rfl⟩:∃k:Nat,t=(k:Int):=⟨t.toNat,ab⟩
 exact List.mem_flatMap.2 ⟨p,(yX l p).2 hn,E9 h ab⟩
end Go.Proofs.YtakkdjfmiffbfaaGreatDoor.V

namespace Go.Proofs.YtakkdjfmiffbfaaGreatDoor.V
open Go.RowKit
attribute [local irreducible] dL wpOps ez Call
attribute [local go_sem] ay ew dZ eE eC cY upd bJ K.av bZ AV.cells AV.cell rowOf rowsOf part ld rowAt eO bH bI cX dj eQ bq cF dx eA ed cQ dq cD cC dc de bu aE cm bt cr cq dn dr dp ck bz cE dm br aw cw bQ eP aZ bW bx aD cR aQ cZ AV.undef bd bj dh di c6 da bV dw dz bP du dt cu cz List.getD_cons_zero List.getD_cons_succ List.getD_nil List.all_cons List.all_nil Bool.and_true Bool.true_and Bool.and_self Bool.not_true Bool.not_false Option.map_some Option.map_none Option.bind_some Option.bind_none List.length_cons List.length_nil List.take_succ_cons List.take_zero List.take_nil List.drop_succ_cons List.drop_zero List.drop_nil List.head?_cons List.map_cons List.map_nil List.getElem?_cons_zero List.getElem?_cons_succ List.cons_append List.nil_append List.append_nil List.length_map List.set_cons_zero List.set_cons_succ Nat.reduceMul eq_self Int.toNat_natCast Int.natCast_nonneg and_self true_and and_true decide_true decide_false Bool.false_eq_true Nat.zero_add Nat.add_zero List.contains_cons List.contains_nil Bool.or_false Bool.false_or beq_self_eq_true Nat.reduceBEq ne_eq not_true_eq_false not_false_eq_true Id.mk.injEq false_and and_false Nat.reduceLT Int.reduceLE Int.reduceLT Int.reduceToNat Int.reduceNeg Int.reduceAdd Nat.le_refl List.length_append beq_true beq_false Bool.not_eq_eq_eq_not or_false false_or dW ad ae aL aI bf bR az bc aA aJ cj bh
def iC (b:Int):List AV:=[.int .u8 b]
def s5 (g:Rows) (X:Id) (bs:List Int) (A:Nat):Prop:=∃(a:Nat) (z:Int),a<=A/\g X=some ⟨true,3,[[.sl (bs.map iC),.int .i64 (a:Int),.int .u64 z]]⟩
theorem s5.mono {g:Rows} {X:Id} {bs:List Int} {A B:Nat} (h:s5 g X bs A) (k:A<=B):s5 g X bs B:=by
 obtain⟨a,z,h1,h2⟩:=h
 exact⟨a,z,ab,h2⟩
def j9 (X:Id) (σ σ':aq):Prop:=σ.next<=σ'.next/\∀i,i≠X->i.cW<σ.next->σ'.get i=σ.get i
theorem wrap_u64 (n:Int):IntKind.u64.wrap n=n % 18446744073709551616:=by
 rw[IntKind.wrap];simp[IntKind.bits,IntKind.signed]
theorem LX (z:Int):0<=IntKind.u64.wrap ((BitVec.ofInt 64 z&&& BitVec.ofInt 64 255).toNat:Int)/\IntKind.u64.wrap ((BitVec.ofInt 64 z&&& BitVec.ofInt 64 255).toNat:Int)<=255:=by
 have h:(BitVec.ofInt 64 z&&& BitVec.ofInt 64 255).toNat<=255:=by
  rw[BitVec.toNat_and]
  exact Nat.and_le_right
 rw[wrap_u64];omega
theorem uS (z:Int):0<=IntKind.i64.wrap (IntKind.u64.wrap ((BitVec.ofInt 64 z&&& BitVec.ofInt 64 255).toNat:Int))/\IntKind.i64.wrap (IntKind.u64.wrap ((BitVec.ofInt 64 z&&& BitVec.ofInt 64 255).toNat:Int))<=255:=by
 obtain⟨h0,h1⟩:=LX z
 rw[dy ab]
 exact⟨h0,h1⟩
theorem sV {v n:Int} (hv:0<=v) (hn:0<n):0<=v.tmod n/\(v.tmod n=0∨v.tmod n<n):=by
 rw[Int.tmod_eq_emod_of_nonneg hv]
 exact⟨Int.emod_nonneg _ ab,.inr (Int.emod_lt_of_pos _ hn)⟩
theorem Kn (bs:List Int) (hb:∀b∈bs,0<=b/\b<=255) (nA:bs.length<=4096) (X:Id) (A:Nat) (ha:A<=1073741824) (σ:aq) (h:s5 σ.get X bs A):
  Call Tryz.prog 53 [.ptr X 0 0] σ fun r σ'=>∃v:Int,r=.int .i64 v/\0<=v/\v<=255/\s5 σ'.get X bs (A+1)/\j9 X σ σ':=by
 obtain⟨a,z,WB,hg⟩:=h
 refine eU fH rfl fun fR=>?_
 clear fR
 have fw:(bs.map iC).length=bs.length:=by simp
 have w1:IntKind.i64.wrap ((a:Int)+1)=((a+1:Nat):Int):=(dy ab).trans ab
 by_cases ha:(a:Int)<(bs.length:Int)
 ·have JG:(bs.map iC)[a]? =some [.int .u8 (bs.getD a 0)]:=getD_map iC ab
  have CZ:=hb (bs.getD a 0) (by rw[List.getD_eq_getElem?_getD,List.getElem?_eq_getElem (by omega:a<bs.length)];exact List.getElem_mem ab)
  generalize bs.getD a 0=b at JG CZ
  have w2:IntKind.i64.wrap b=b:=dy ab
  have hle:((a+1:Nat):Int)<=(bs.length:Int):=ab
  (try((repeat(revert hN;revert N;apply Pn.out));refine wk (tw @hg (tw @fw (tw @ha (tw @JG (tw @w1 (tw @w2 @hle)))))) ?_;(repeat(refine Pn.mk ?_;intro N hN))))
  exact eK (.inl rfl) (vs:=[.int .i64 b]) (sd @Nat.zero_add) ⟨b,rfl,CZ.1,CZ.2,⟨a+1,_,ab,sl @Nat.zero_add⟩,bL,fun i hi _=>sd @hi⟩
 ·have hle:decide (((a+1:Nat):Int)<=(bs.length:Int))=false:=decide_eq_false ab
  (try((repeat(revert hN;revert N;apply Pn.out));refine wk (tw @hg (tw @fw (tw @ha (tw @w1 @hle)))) ?_;(repeat(refine Pn.mk ?_;intro N hN))))
  exact eK (.inl rfl) (vs:=[.int .i64 _]) (by simp only[gR,jV,go_sem, ↓reduceIte,Nat.reduceEqDiff,Nat.reduceAdd,Nat.reduceSub,Nat.reduceLeDiff,reduceCtorEq]<;>rfl) ⟨_,rfl,(uS _).1,(uS _).2,⟨a+1,_,ab,sl @Nat.zero_add⟩,bL,fun i hi _=>sd @hi⟩
theorem j9.to {X:Id} {g g':Rows} {n n1 n' m':Nat} (h:j9 X ⟨g,n1⟩ ⟨g',n'⟩) (h1:n<=n1) (h2:n'<=m'):j9 X ⟨g,n⟩ ⟨g',m'⟩:=
 ⟨Nat.le_trans h1 (Nat.le_trans h.1 h2),fun i hi hv=>h.2 i hi (Nat.lt_of_lt_of_le hv h1)⟩
theorem j9.trans {X:Id} {σ1 σ2 σ3:aq} (h:j9 X σ1 σ2) (k:j9 X σ2 σ3):j9 X σ1 σ3:=⟨Nat.le_trans h.1 k.1,fun i hi hv=>(k.2 i hi (Nat.lt_of_lt_of_le hv h.1)).trans (h.2 i hi hv)⟩
theorem QS (bs:List Int) (hb:∀b∈bs,0<=b/\b<=255) (nA:bs.length<=4096) (X:Id) (n:Int) (A:Nat) (ha:A<=1073741000) (σ:aq) (h:s5 σ.get X bs A):
  Call Tryz.prog 20 [.ptr X 0 0,.int .i64 n] σ fun r σ'=>∃v:Int,r=.int .i64 v/\0<=v/\(v=0∨v<n)/\s5 σ'.get X bs (A+2)/\j9 X σ σ':=by
 refine eU fH rfl fun fR=>?_
 clear fR
 by_cases qq:n<=1
 ·(try((repeat(revert hN;revert N;apply Pn.out));refine wk @qq ?_;(repeat(refine Pn.mk ?_;intro N hN))))
  exact eK (.inl rfl) (vs:=[.int .i64 0]) (sd @Nat.zero_add) ⟨0,rfl,ab,.inl rfl,h.mono ab,bL,fun i hi _=>rfl⟩
 ·have Ij:(n=0)=False:=eq_false ab
  (try((repeat(revert hN;revert N;apply Pn.out));refine wk @qq ?_;(repeat(refine Pn.mk ?_;intro N hN))))
  refine .inr (aS _ _ _ _ _ (fun r σ1 hq=>?_) (Kn bs hb nA X A ab _ h))
  obtain⟨v,rfl,v0,v1,h1,k1⟩:=hq
  refine hN _ _ ?_
  clear hN N
  by_cases h2:(200:Int)<n
  ·(try((repeat(revert hN;revert N;apply Pn.out));refine wk @h2 ?_;(repeat(refine Pn.mk ?_;intro N hN))))
   refine .inr (aS _ _ _ _ _ (fun r σ2 hq=>?_) (Kn bs hb nA X (A+1) ab _ h1))
   obtain⟨u,rfl,u0,u1,CY,k2⟩:=hq
   refine hN _ _ ?_
   clear hN N
   have w1:IntKind.i64.wrap (v*256)=v*256:=dy ab
   have w2:IntKind.i64.wrap (v*256+u)=v*256+u:=dy ab
   (try((repeat(revert hN;revert N;apply Pn.out));refine wk (tw @Ij (tw @w1 @w2)) ?_;(repeat(refine Pn.mk ?_;intro N hN))))
   exact eK (.inl rfl) (vs:=[.int .i64 ((v*256+u).tmod n)]) (sd @Nat.zero_add) ⟨_,rfl,(sV ab ab).1,(sV ab ab).2,CY,(j9.to (k1.trans (j9.to (n:=σ1.next) k2 ab (Nat.le_refl _))) ab bL:j9 X ⟨σ.get,σ.next⟩ ⟨σ2.get,_⟩)⟩
  ·(try((repeat(revert hN;revert N;apply Pn.out));refine wk (tw @h2 @Ij) ?_;(repeat(refine Pn.mk ?_;intro N hN))))
   exact eK (.inl rfl) (vs:=[.int .i64 (v.tmod n)]) (sd @Nat.zero_add) ⟨_,rfl,(sV v0 ab).1,(sV v0 ab).2,h1.mono ab,(j9.to k1 ab bL:j9 X ⟨σ.get,σ.next⟩ ⟨σ1.get,_⟩)⟩
theorem Hc (bs:List Int) (σ:aq):
  Call Tryz.prog 19 [.sl (bs.map iC)] σ fun r σ'=>∃X:Id,r=.ptr X 0 0/\σ.next<=X.cW/\X.cW<σ'.next/\s5 σ'.get X bs 0/\∀i:Id,i.cW<σ.next->σ'.get i=σ.get i:=by
 refine eU fH rfl fun fR=>?_
 clear fR
 (try((repeat(revert hN;revert N;apply Pn.out));refine wk @Nat.zero_add ?_;(repeat(refine Pn.mk ?_;intro N hN))))
 exact eK (.inl rfl) (vs:=[.ptr ⟨19001002,_⟩ 0 0]) (by simp only[gR,jV,go_sem, ↓reduceIte,Nat.reduceEqDiff,Nat.reduceAdd,Nat.reduceSub,Nat.reduceLeDiff,reduceCtorEq]<;>rfl) ⟨_,rfl,bL,bL,⟨0,0,Nat.le_refl _,sl @Nat.zero_add⟩,fun i hi=>by have hv:=dE hi;simp only[go_sem, ↓reduceIte,Nat.reduceEqDiff,Nat.reduceAdd,Nat.reduceSub,Nat.reduceLeDiff,reduceCtorEq,hv]⟩
end Go.Proofs.YtakkdjfmiffbfaaGreatDoor.V

namespace Go.Proofs.YtakkdjfmiffbfaaGreatDoor
open Go.RowKit
def kY (k:Int):ByteArray:=if k=0 then⟨#[48]⟩else⟨(sa k.toNat).toArray⟩
theorem Bs (w:World) (k:Int) (h0:0<=k) (h1:k<=4611686018427387904):
  Calls Tryz.prog 28 #[.int .i64 k] w fun e w'=>e=.returned (.string (kY k))/\Below w.heap.size w w':=by
 go_enter Tryz.func28,Tryz.ntmps28
 go_wp2_with fail
 go_loopw [4,3] (fun a s wr=>∃(j:Int) (l:ByteArray),a=.int .i64 j/\s=.string l/\0<=j/\j<=4611686018427387904/\Hid (sa j.toNat++l.data.toList=sa k.toNat)/\Below w.heap.size w wr) (fun a _ _=>(intOf a).toNat)
 case atStart=>exact⟨k,⟨#[]⟩,rfl,rfl,h0,h1,Lib.hid (by simp),Below.refl _ _⟩
 case round=>
  obtain⟨j,l,rfl,rfl,RB,WS,hd,hb⟩:=hrel
  have gM:l.size<=19:=by
   have h1:=congrArg List.length hd.out
   have h2:=Bt 19 k.toNat (by omega)
   rw[List.length_append]at h1
   have:l.data.toList.length=l.size:=by rw[Array.length_toList];rfl
   omega
  by_cases hj:j=0
  ·subst hj
   by_cases hk:k=0
   ·go_wp2_with fail
    go_ret
    exact⟨by simp[kY,hk],hb⟩
   ·have DT:¬k<0:=by omega
    go_wp2_with fail
    go_ret
    refine⟨?_,hb⟩
    have h1:=hd.out
    rw[show(0:Int).toNat=0 by rfl,GD,List.nil_append]at h1
    have h2:l=kY k:=by
     rw[kY,if_neg hk]
     refine ByteArray.ext (Array.ext' ?_)
     rw[h1]
    rw[h2];rfl
  ·have P9:∀v:Int,(convert 22 9 (.slice (some ⟨wr.heap.size,0,none⟩) 1 1)).run Tryz.prog (wr.alloc (.cells #[.int .u8 v] 5))=.ok (.string ⟨#[UInt8.ofNat v.toNat]⟩) (wr.alloc (.cells #[.int .u8 v] 5)):=by
    intro v
    rw[run_convert_bytes_string _ _ _ 5 _ _ _ Tryz.underlying22 Tryz.underlying5 Tryz.underlying9,run_bytesToString _ _ _ _ [v] (by simp[loadCells,loadCellsFrom,go_sem])]
    rfl
   have hr:=gM
   go_wp2_with fail
   refine⟨⟨_,_,rfl,rfl,by omega,by omega,Lib.hid ?_,hb.alloc hb.size _⟩,by simp[intOf];omega⟩
   rw[<-hd.out,Gx,I8 (show j.toNat≠0 by omega),show(j / 10).toNat=j.toNat / 10 by omega,show(48+j % 10).toNat=48+j.toNat % 10 by omega]
   simp
end Go.Proofs.YtakkdjfmiffbfaaGreatDoor
namespace Go.Proofs.YtakkdjfmiffbfaaGreatDoor.V
open Go.RowKit
theorem GB (k:Int) (h0:0<=k) (h1:k<=4611686018427387904):aP Tryz.prog 28 [.int .i64 k] (.str (kY k)):=
 lF (vs0:= #[.int .i64 k]) (u0:=.string (kY k)) (fun _ _ _ _=>Nq) (fun w D ι=>.eG _ _ (.str _)) (fun g=>mB g 5 _) fun w=>Bs w k h0 h1
theorem Bb (a b:ByteArray):(a++b).size=a.size+b.size:=ByteArray.size_append
end Go.Proofs.YtakkdjfmiffbfaaGreatDoor.V

namespace Go.Proofs.YtakkdjfmiffbfaaGreatDoor.V
open Go.RowKit
attribute [local irreducible] dL wpOps ez Call
attribute [local go_sem] ay ew dZ eE eC cY upd bJ K.av bZ AV.cells AV.cell rowOf rowsOf part ld rowAt eO bH bI cX dj eQ bq cF dx eA ed cQ dq cD cC dc de bu aE cm bt cr cq dn dr dp ck bz cE dm br aw cw bQ eP aZ bW bx aD cR aQ cZ AV.undef bd bj dh di c6 da bV dw dz bP du dt cu cz List.getD_cons_zero List.getD_cons_succ List.getD_nil List.all_cons List.all_nil Bool.and_true Bool.true_and Bool.and_self Bool.not_true Bool.not_false Option.map_some Option.map_none Option.bind_some Option.bind_none List.length_cons List.length_nil List.take_succ_cons List.take_zero List.take_nil List.drop_succ_cons List.drop_zero List.drop_nil List.head?_cons List.map_cons List.map_nil List.getElem?_cons_zero List.getElem?_cons_succ List.cons_append List.nil_append List.append_nil List.length_map List.set_cons_zero List.set_cons_succ Nat.reduceMul eq_self Int.toNat_natCast Int.natCast_nonneg and_self true_and and_true decide_true decide_false Bool.false_eq_true Nat.zero_add Nat.add_zero List.contains_cons List.contains_nil Bool.or_false Bool.false_or beq_self_eq_true Nat.reduceBEq ne_eq not_true_eq_false not_false_eq_true Id.mk.injEq false_and and_false Nat.reduceLT Int.reduceLE Int.reduceLT Int.reduceToNat Int.reduceNeg Int.reduceAdd Nat.le_refl List.length_append beq_true beq_false Bool.not_eq_eq_eq_not or_false false_or dW ad ae aL aI bf bR az bc aA aJ cj bh
end Go.Proofs.YtakkdjfmiffbfaaGreatDoor.V

namespace Go.Proofs.YtakkdjfmiffbfaaGreatDoor.V
open Go.RowKit
def O4 (E:Nat->Prop) (n0:Nat) (g:Rows) (n:Nat) (row:List AV) (t:dR) (e:Id):Prop:=row=[.str t.dG,.own e 0 4]/\(t.dG.size<=64/\1<=t.dG.size)/\t.dM.length=4/\E e.site/\n0<=e.cW/\e.cW<n/\g e=some ⟨true,1,t.dM.map bE⟩
def TX (E:Nat->Prop) (n0:Nat) (g:Rows) (n:Nat) (rows:List (List AV)) (Ts:List dR):Prop:=∃es:List Id,es.Nodup/\rows.length=Ts.length/\es.length=Ts.length/\∀(j:Nat) (row:List AV) (t:dR) (e:Id),rows[j]? =some row->Ts[j]? =some t->es[j]? =some e->O4 E n0 g n row t e
section
variable {E:Nat->Prop} {n0:Nat} {g g':Rows} {n n':Nat} {rows:List (List AV)} {Ts:List dR}
theorem TX.frame (h:TX E n0 g n rows Ts) (hn:n<=n') (hf:∀i:Id,E i.site->n0<=i.cW->i.cW<n->g' i=g i):TX E n0 g' n' rows Ts:=by
 obtain⟨es,h1,h2,h3,h4⟩:=h
 refine⟨es,h1,h2,h3,fun j row t e q1 q2 q3=>?_⟩
 obtain⟨a1,a2,a3,a4,a5,a6,a7⟩:=h4 j row t e q1 q2 q3
 exact⟨a1,a2,a3,a4,a5,ab,(hf e a4 a5 a6).trans a7⟩
theorem TX.snoc (h:TX E n0 g n rows Ts) {t:dR} {e:Id} (hn:n<=n') (he:n<=e.cW) (hr:O4 E n0 g n' [.str t.dG,.own e 0 4] t e):TX E n0 g n' (rows++[[.str t.dG,.own e 0 4]]) (Ts++[t]):=by
 obtain⟨es,h1,h2,h3,h4⟩:=h
 refine⟨es++[e],?_,by simp[h2],by simp[h3],fun j row t' e' q1 q2 q3=>?_⟩
 ·refine List.nodup_append.2 ⟨h1,by simp,fun x hx y hy=>?_⟩
  rw[List.mem_singleton.1 hy]
  obtain⟨j,hj,rfl⟩:=List.getElem_of_mem hx
  obtain⟨_,_,_,_,_,a6,_⟩:=h4 j _ _ _ (List.getElem?_eq_getElem ab) (List.getElem?_eq_getElem ab) (List.getElem?_eq_getElem hj)
  intro hc
  rw[hc]at a6
  omega
 ·by_cases hj:j<Ts.length
  ·rw[List.getElem?_append_left ab]at q1 q2 q3
   obtain⟨a1,a2,a3,a4,a5,a6,a7⟩:=h4 j row t' e' q1 q2 q3
   exact⟨a1,a2,a3,a4,a5,ab,a7⟩
  ·have Ta:j=Ts.length:=by
    have:=List.getElem?_eq_some_iff.1 q2
    obtain⟨h,_⟩:=this
    simp at h
    omega
   subst Ta
   rw[<-h2,List.getElem?_concat_length]at q1
   rw[List.getElem?_concat_length]at q2
   rw[<-h3,List.getElem?_concat_length]at q3
   cases q1;cases q2;cases q3
   exact hr
theorem TX.one {t:dR} {e:Id} (hr:O4 E n0 g n [.str t.dG,.own e 0 4] t e):TX E n0 g n [[.str t.dG,.own e 0 4]] [t]:=
 ⟨[e],by simp,rfl,rfl,fun j row t' e' q1 q2 q3=>by
  cases j with
  |zero=>simp at q1 q2 q3;subst q1 q2 q3;exact hr
  |succ j=>simp at q1⟩
theorem TX.len (h:TX E n0 g n rows Ts):rows.length=Ts.length:=by obtain⟨es,h1,h2,h3,h4⟩:=h;exact h2
theorem TX.fz:∀{rows:List (List AV)} {Ts:List dR},TX E n0 g n rows Ts->∀k,gn g (k+2) rows=some (Ts.map dS)
 |[],[],_=>fun k=>by(try simp only[List.map_nil]);rw[gn.eq_def]
 |[],_::_,h=>by have:=h.len;simp at this
 |_::_,[],h=>by have:=h.len;simp at this
 |row::rows,t::Ts,h=>fun k=>by
  obtain⟨es,h1,h2,h3,h4⟩:=h
  match es,h1,h3,h4 with
  |[],_,h3,_=>simp at h3
  |e::es,h1,h3,h4=>
  have ih:=TX.fz (rows:=rows) (Ts:=Ts) ⟨es,(List.nodup_cons.1 h1).2,by simpa using h2,by simpa using h3,fun j row t e q1 q2 q3=>h4 (j+1) row t e (by simpa using q1) (by simpa using q2) (by simpa using q3)⟩ k
  obtain⟨a1,a2,a3,a4,a5,a6,a7⟩:=h4 0 row t e rfl rfl rfl
  subst a1
  have h9:gE g (k+2) (.own e 0 4)=some (.sl (t.dM.map bE)):=by
   rw[<-a3];exact fN (e:=bE) a7 rfl fun x=>Ss g k x
  rw[gn,cV,mB,cV,h9,dH,ih]
  rfl
end
end Go.Proofs.YtakkdjfmiffbfaaGreatDoor.V

namespace Go.Proofs.YtakkdjfmiffbfaaGreatDoor.V
open Go.RowKit
attribute [local irreducible] dL wpOps ez Call
attribute [local go_sem] ay ew dZ eE eC cY upd bJ K.av bZ AV.cells AV.cell rowOf rowsOf part ld rowAt eO bH bI cX dj eQ bq cF dx eA ed cQ dq cD cC dc de bu aE cm bt cr cq dn dr dp ck bz cE dm br aw cw bQ eP aZ bW bx aD cR aQ cZ AV.undef bd bj dh di c6 da bV dw dz bP du dt cu cz List.getD_cons_zero List.getD_cons_succ List.getD_nil List.all_cons List.all_nil Bool.and_true Bool.true_and Bool.and_self Bool.not_true Bool.not_false Option.map_some Option.map_none Option.bind_some Option.bind_none List.length_cons List.length_nil List.take_succ_cons List.take_zero List.take_nil List.drop_succ_cons List.drop_zero List.drop_nil List.head?_cons List.map_cons List.map_nil List.getElem?_cons_zero List.getElem?_cons_succ List.cons_append List.nil_append List.append_nil List.length_map List.set_cons_zero List.set_cons_succ Nat.reduceMul eq_self Int.toNat_natCast Int.natCast_nonneg and_self true_and and_true decide_true decide_false Bool.false_eq_true Nat.zero_add Nat.add_zero List.contains_cons List.contains_nil Bool.or_false Bool.false_or beq_self_eq_true Nat.reduceBEq ne_eq not_true_eq_false not_false_eq_true Id.mk.injEq false_and and_false Nat.reduceLT Int.reduceLE Int.reduceLT Int.reduceToNat Int.reduceNeg Int.reduceAdd Nat.le_refl List.length_append beq_true beq_false Bool.not_eq_eq_eq_not or_false false_or dW ad ae aL aI bf bR az bc aA aJ cj bh
theorem Gs (ps:List eS) (hp:0<ps.length) (hl:ps.length<=1048576) (σ:aq):
  Call Tryz.prog 67 [.sl (ps.map ea)] σ fun r σ'=>∃o:Id,r=.own o 0 ps.length/\σ'.get o=some ⟨true,2,ps.map ea⟩/\σ.next<=o.cW/\o.cW<σ'.next/\∀i:Id,i.cW<σ.next->σ'.get i=σ.get i:=by
 refine eU fH rfl fun hl=>?_
 clear hl
 have hz:(ps.map ea).all (fun c=>c.length==2&&c.all AV.cell)=true:=all_map fun x=>by simp[ea,AV.cell]
 obtain⟨b,r,rfl⟩:∃b r,ps=b::r:=by
  cases ps with
  |nil=>simp at hp
  |cons b r=>exact⟨b,r,rfl⟩
 have fw:(List.map ea (b::r)).length=(b::r).length:=by simp
 have e1:r.length<=16777215:=by simp at hl;omega
 rw[List.map_cons]at hz fw ⊢
 (try((repeat(revert hN;revert N;apply Pn.out));refine wk (tw @hz (tw @fw @e1)) ?_;(repeat(refine Pn.mk ?_;intro N hN))))
 refine eK (.inl rfl) (vs:=[.own ⟨67003002,σ.next+1+1⟩ 0 (b::r).length]) (by simp only[gR,jV,go_sem, ↓reduceIte,Nat.reduceEqDiff,Nat.reduceAdd,Nat.reduceSub,Nat.reduceLeDiff,reduceCtorEq,List.length_cons]) ⟨⟨67003002,σ.next+1+1⟩,rfl,sd @Nat.zero_add,bL,bL,fun i hi=>?_⟩
 have hv:=dE hi
 simp only[go_sem, ↓reduceIte,Nat.reduceEqDiff,Nat.reduceAdd,Nat.reduceSub,Nat.reduceLeDiff,reduceCtorEq,hv]
theorem I5 (ps:List Int) (hp:0<ps.length) (hl:ps.length<=1048576) (σ:aq):
  Call Tryz.prog 68 [.sl (ps.map bE)] σ fun r σ'=>∃o:Id,r=.own o 0 ps.length/\σ'.get o=some ⟨true,1,ps.map bE⟩/\σ.next<=o.cW/\o.cW<σ'.next/\∀i:Id,i.cW<σ.next->σ'.get i=σ.get i:=by
 refine eU fH rfl fun hl=>?_
 clear hl
 have hz:(ps.map bE).all (fun c=>c.length==1&&c.all AV.cell)=true:=all_map fun x=>by simp[bE,AV.cell]
 obtain⟨b,r,rfl⟩:∃b r,ps=b::r:=by
  cases ps with
  |nil=>simp at hp
  |cons b r=>exact⟨b,r,rfl⟩
 have fw:(List.map bE (b::r)).length=(b::r).length:=by simp
 have e1:r.length<=16777215:=by simp at hl;omega
 rw[List.map_cons]at hz fw ⊢
 (try((repeat(revert hN;revert N;apply Pn.out));refine wk (tw @hz (tw @fw @e1)) ?_;(repeat(refine Pn.mk ?_;intro N hN))))
 refine eK (.inl rfl) (vs:=[.own ⟨68003002,σ.next+1+1⟩ 0 (b::r).length]) (by simp only[gR,jV,go_sem, ↓reduceIte,Nat.reduceEqDiff,Nat.reduceAdd,Nat.reduceSub,Nat.reduceLeDiff,reduceCtorEq,List.length_cons]) ⟨⟨68003002,σ.next+1+1⟩,rfl,sd @Nat.zero_add,bL,bL,fun i hi=>?_⟩
 have hv:=dE hi
 simp only[go_sem, ↓reduceIte,Nat.reduceEqDiff,Nat.reduceAdd,Nat.reduceSub,Nat.reduceLeDiff,reduceCtorEq,hv]
theorem I6 (ps:List Int) (hp:0<ps.length) (hl:ps.length<=1048576) (σ:aq):ez (Call Tryz.prog) 68 [.sl (ps.map bE)] σ (fun r=>r=.sl (ps.map bE)):=by
 unfold ez PC
 refine Or.inl (aS _ _ _ _ _ (fun r σ' hq=>?_) (I5 ps hp hl _))
 obtain⟨o,rfl,h2,_⟩:=hq
 exact⟨_,gi (e:=bE) (n:=5) h2 rfl (fun x=>by simp[bE,ad,ae,aL]),rfl⟩
def xk (l:List Int):List Int:=[l.getD 1 0,l.getD 0 0,l.getD 3 0,l.getD 2 0]
theorem AI (l:List Int) (h4:l.length=4) (σ:aq):
  Call Tryz.prog 38 [.sl (l.map bE)] σ fun r σ'=>∃o:Id,r=.own o 0 4/\σ'.get o=some ⟨true,1,(xk l).map bE⟩:=by
 obtain⟨a,b,c,d,rfl⟩:∃a b c d,l=[a,b,c,d]:=by
  match l,h4 with
  |[a,b,c,d],_=>exact⟨a,b,c,d,rfl⟩
 refine eU fH rfl fun hl=>?_
 clear hl
 simp only[List.map_cons,List.map_nil,bE]
 (try((repeat(revert hN;revert N;apply Pn.out));refine wk @Nat.zero_add ?_;(repeat(refine Pn.mk ?_;intro N hN))))
 exact eK (.inl rfl) (vs:=[.own ⟨38001012,σ.next+1⟩ 0 4]) (sd @Nat.zero_add) ⟨⟨38001012,σ.next+1⟩,rfl,sl @Nat.zero_add⟩
theorem AJ (l:List Int) (h4:l.length=4) (σ:aq):ez (Call Tryz.prog) 38 [.sl (l.map bE)] σ (fun r=>r=.sl ((xk l).map bE)):=by
 unfold ez PC
 refine Or.inl (aS _ _ _ _ _ (fun r σ' hq=>?_) (AI l h4 _))
 obtain⟨o,rfl,h2⟩:=hq
 exact⟨_,gi (e:=bE) (l:=xk l) (n:=5) h2 rfl (fun x=>by simp[bE,ad,ae,aL]),rfl⟩
def VK (n0:Nat) (g:Rows) (n:Nat) (v:AV) (Ts:List dR):Prop:=(Ts=[]/\v=.bB)∨∃o:Id,v=.own o 0 Ts.length/\g o=some ⟨true,2,Ts.map dS⟩/\n0<=o.cW/\o.cW<n
theorem L8 (s:aH) (hg:0<s.bU.length) (sv:s.bU.length<=1048576) (ht:0<s.ah.length) (hl:s.ah.length<=1048576) (h4:∀t∈s.ah,t.dM.length=4) (σ:aq):
  Call Tryz.prog 37 [.agg (ao s)] σ fun r σ'=>∃og o:Id,r=.agg [.own og 0 s.bU.length,.own o 0 s.ah.length]/\og≠o/\σ'.get og=some ⟨true,2,s.bU.map ea⟩/\σ'.get o=some ⟨true,2,s.ah.map dS⟩/\σ.next<=og.cW/\og.cW<σ'.next/\σ.next<=o.cW/\o.cW<σ'.next/\∀i:Id,i.cW<σ.next->σ'.get i=σ.get i:=by
 refine eU fH rfl fun fR=>?_
 clear fR
 rw[ao]
 have fw:(s.ah.map dS).length=s.ah.length:=by simp
 (try((repeat(revert hN;revert N;apply Pn.out));refine wk @fw ?_;(repeat(refine Pn.mk ?_;intro N hN))))
 refine .inr (aS _ _ _ _ _ (fun r σ1 hq=>?_) (Gs s.bU hg sv _))
 obtain⟨og,rfl,g1,v1,v2,f1⟩:=hq
 obtain⟨DI,x1⟩:=σ1
 (try dsimp only at g1 v1 v2 f1)
 have k1:=f1 ⟨37000000,σ.next⟩ bL
 have k2:=f1 ⟨37000001,σ.next⟩ bL
 have k3:∀i:Id,i.cW<σ.next->DI i=σ.get i:=fun i hi=>(f1 i bL).trans (by have h8:=dE hi;simp only[go_sem, ↓reduceIte,Nat.reduceEqDiff,Nat.reduceAdd,Nat.reduceSub,Nat.reduceLeDiff,reduceCtorEq,h8])
 simp only[go_sem, ↓reduceIte,Nat.reduceEqDiff,Nat.reduceAdd,Nat.reduceSub,Nat.reduceLeDiff,reduceCtorEq]at k1 k2
 clear f1
 have MO:σ.next+1<x1:=ab
 refine hN _ _ ?_
 clear hN N
 (try((repeat(revert hN;revert N;apply Pn.out));refine wk (tw @fw (tw @k1 @k2)) ?_;(repeat(refine Pn.mk ?_;intro N hN))))
 refine cU (fun n env st=>∃k:Nat,n=(s.ah.length)-k/\k<=(s.ah.length)/\env 13=.int .i64 (k:Int)/\((x1+1<=st.next/\(∀x:Id,x.cW<x1->st.get x=DI x)/\∃v,st.get ⟨37001004,x1⟩=some ⟨true,2,[[.own og 0 s.bU.length,v]]⟩/\VK (x1+1) st.get st.next v (s.ah.take k)))) (s.ah.length) ⟨0,ab,ab,sl @fw,by(try dsimp only);exact⟨ab,fun x hx=>(by have h8:=dE hx;simp only[go_sem, ↓reduceIte,Nat.reduceEqDiff,Nat.reduceAdd,Nat.reduceSub,Nat.reduceLeDiff,reduceCtorEq,h8]),.bB,sl @Nat.zero_add,.inl ⟨rfl,rfl⟩⟩⟩ ?_
 rintro n_a env_a st_a ⟨k,rfl,ale,uf,qn⟩ eL
 have a1:=eL 1 (by kernel_rfl);have a2:=eL 2 (by kernel_rfl);have a3:=eL 3 (by kernel_rfl);have A4:=eL 11 (by kernel_rfl);have a12:=eL 12 (by kernel_rfl)
 simp only[go_sem, ↓reduceIte,Nat.reduceEqDiff,Nat.reduceAdd,Nat.reduceSub,Nat.reduceLeDiff,reduceCtorEq,fw]at a1 a2 a3 A4 a12
 clear eL
 obtain⟨aN,aO,v,aV,aT⟩:=qn
 by_cases hk:(k:Int)<(s.ah.length:Int)
 ·have eB:∀{e:Env} {gg:Rows} {nx:Nat},(e 13=.int .i64 (IntKind.i64.wrap ((k:Int)+1)))->((x1+1<=nx/\(∀x:Id,x.cW<x1->gg x=DI x)/\∃v,gg ⟨37001004,x1⟩=some ⟨true,2,[[.own og 0 s.bU.length,v]]⟩/\VK (x1+1) gg nx v (s.ah.take (k+1))))->∃m0,m0<(s.ah.length)-k/\∃k:Nat,m0=(s.ah.length)-k/\k<=(s.ah.length)/\e 13=.int .i64 (k:Int)/\((x1+1<=nx/\(∀x:Id,x.cW<x1->gg x=DI x)/\∃v,gg ⟨37001004,x1⟩=some ⟨true,2,[[.own og 0 s.bU.length,v]]⟩/\VK (x1+1) gg nx v (s.ah.take k))):=fun x1 x2=>⟨_,ab,k+1,rfl,ab,(by rw[x1,cI ab]),x2⟩
  have ko:k<s.ah.length:=ab
  obtain⟨t,Tx⟩:∃t,s.ah[k]=t:=⟨_,rfl⟩
  have gV:(s.ah.map dS)[k]? =some (dS t):=by rw[List.getElem?_map,List.getElem?_eq_getElem ko,Tx];rfl
  have pL:s.ah.take (k+1)=s.ah.take k++[t]:=by rw[List.take_add_one,List.getElem?_eq_getElem ko,Tx];rfl
  have ht4:=h4 t (by rw[<-Tx];exact List.getElem_mem ko)
  have Rz:=fun σ=>I6 t.dM ab ab σ
  have DV:(s.ah.take k).length=k:=by rw[List.length_take];omega
  rw[dS]at gV
  have ho1:x1+1<=st_a.next:=aN
  rcases aT with⟨Lw,rfl⟩|⟨o,rfl,go,o1,o2⟩
  ·have tq:k=0:=by rw[Lw]at DV;exact DV.symm
   (try((repeat(revert hN;revert N;apply Pn.out));refine wk (tw @uf (tw @a1 (tw @a2 (tw @a3 (tw @A4 (tw @a12 (tw @hk (tw @gV (tw @aV @fw))))))))) ?_;(repeat(refine Pn.mk ?_;intro N hN))))
   refine⟨_,Rz _,?_⟩
   refine hN _ _ ?_
   clear hN N
   (try((repeat(revert hN;revert N;apply Pn.out));refine wk (tw @uf (tw @a1 (tw @a2 (tw @a3 (tw @A4 (tw @a12 (tw @hk (tw @gV (tw @aV @fw))))))))) ?_;(repeat(refine Pn.mk ?_;intro N hN))))
   exact eB (sd (tw @uf (tw @a1 (tw @a2 (tw @a3 (tw @A4 @a12)))))) (by(try dsimp only);exact⟨ab,fun x hx=>(by
    have h8:=dE (i:=x) (n:=st_a.next) ab
    have h9:=dE hx
    simp only[go_sem, ↓reduceIte,Nat.reduceEqDiff,Nat.reduceAdd,Nat.reduceSub,Nat.reduceLeDiff,reduceCtorEq,h8,h9]<;>exact aO x hx),.own ⟨37005009,st_a.next+1+1⟩ 0 1,sl @Nat.zero_add,.inr ⟨⟨37005009,st_a.next+1+1⟩,by rw[pL,Lw];rfl,by rw[pL,Lw];simp only[go_sem, ↓reduceIte,Nat.reduceEqDiff,Nat.reduceAdd,Nat.reduceSub,Nat.reduceLeDiff,reduceCtorEq]<;>rfl,bL,bL⟩⟩)
  ·have vo:=dE o2
   have hkc:k<=16777215:=ab
   have Tj:((s.ah.take k).map dS).length=k:=by rw[List.length_map,DV]
   obtain⟨rs,tW⟩:∃rs,(s.ah.take k).map dS=rs:=⟨_,rfl⟩
   rw[tW]at go Tj
   have VE:(o=⟨37001004,x1⟩)=False:=eq_false fun h=>by rw[h]at o1;(try dsimp only at o1);omega
   have TW:((⟨37001004,x1⟩:Id)=o)=False:=eq_false fun h=>by rw[<-h]at o1;(try dsimp only at o1);omega
   rw[DV]at aV
   (try((repeat(revert hN;revert N;apply Pn.out));refine wk (tw @uf (tw @a1 (tw @a2 (tw @a3 (tw @A4 (tw @a12 (tw @hk (tw @gV (tw @aV @fw))))))))) ?_;(repeat(refine Pn.mk ?_;intro N hN))))
   refine⟨_,Rz _,?_⟩
   refine hN _ _ ?_
   clear hN N
   (try((repeat(revert hN;revert N;apply Pn.out));refine wk (tw @uf (tw @a1 (tw @a2 (tw @a3 (tw @A4 (tw @a12 (tw @hk (tw @gV (tw @aV (tw @fw (tw @go (tw @vo (tw @hkc (tw @Tj (tw @VE @TW))))))))))))))) ?_;(repeat(refine Pn.mk ?_;intro N hN))))
   exact eB (sd (tw @uf (tw @a1 (tw @a2 (tw @a3 (tw @A4 @a12)))))) (by(try dsimp only);exact⟨ab,fun x hx=>(by
    have h8:=dE (i:=x) (n:=st_a.next) ab
    have h9:=dE hx
    have GP:(x=o)=False:=eq_false fun h=>by rw[h]at hx;omega
    simp only[go_sem, ↓reduceIte,Nat.reduceEqDiff,Nat.reduceAdd,Nat.reduceSub,Nat.reduceLeDiff,reduceCtorEq,h8,h9,GP]<;>exact aO x hx),.own ⟨37005009,st_a.next+1+1⟩ 0 (k+1),sl @Nat.zero_add,.inr ⟨⟨37005009,st_a.next+1+1⟩,by rw[pL,List.length_append,DV];rfl,by rw[pL,List.map_append,tW];simp only[go_sem, ↓reduceIte,Nat.reduceEqDiff,Nat.reduceAdd,Nat.reduceSub,Nat.reduceLeDiff,reduceCtorEq,vo]<;>rfl,bL,bL⟩⟩)
 ·have ko:k=s.ah.length:=ab
  subst ko
  rw[List.take_length]at aT
  rcases aT with⟨Lw,rfl⟩|⟨o,rfl,go,o1,o2⟩
  ·rw[Lw]at ht;simp at ht
  ·have k2':=(aO ⟨37000001,σ.next⟩ bL).trans k2
   (try((repeat(revert hN;revert N;apply Pn.out));refine wk (tw @uf (tw @a1 (tw @a2 (tw @a3 (tw @A4 (tw @a12 (tw @hk (tw @aV (tw @k2' @fw))))))))) ?_;(repeat(refine Pn.mk ?_;intro N hN))))
   have nO:∀s,(o=⟨s,σ.next⟩)=False:=fun s=>eq_false fun h=>by rw[h]at o1;(try dsimp only at o1);omega
   have nG:∀s,(og=⟨s,σ.next⟩)=False:=fun s=>eq_false fun h=>by rw[h]at v1;(try dsimp only at v1);omega
   exact eK (.inl rfl) (vs:=[.agg [.own og 0 s.bU.length,.own o 0 s.ah.length]]) (sd (tw @uf (tw @a1 (tw @a2 (tw @a3 (tw @A4 @a12)))))) ⟨og,o,rfl,fun h=>by rw[h]at v2;omega,by simp only[go_sem, ↓reduceIte,Nat.reduceEqDiff,Nat.reduceAdd,Nat.reduceSub,Nat.reduceLeDiff,reduceCtorEq,nG]<;>exact(aO og v2).trans g1,by simp only[go_sem, ↓reduceIte,Nat.reduceEqDiff,Nat.reduceAdd,Nat.reduceSub,Nat.reduceLeDiff,reduceCtorEq,nO]<;>exact go,bL,bL,bL,bL,fun i hi=>by
    have h8:=dE hi
    simp only[go_sem, ↓reduceIte,Nat.reduceEqDiff,Nat.reduceAdd,Nat.reduceSub,Nat.reduceLeDiff,reduceCtorEq,h8]<;>exact(aO i ab).trans (k3 i hi)⟩
def rP (t:dR):dR:=⟨t.dG,xk t.dM⟩
def fE (s:aH):aH:=⟨s.bU,s.ah.map rP⟩
def jt (l:List dR) (k:Nat):List dR:=(l.take k).map rP++l.drop k
theorem ES {l:List dR} {k:Nat} (h:k<=l.length):(jt l k).length=l.length:=by simp[jt];omega
theorem HY {l:List dR} {k:Nat} (h:k<l.length):((jt l k).map dS)[k]? =some [.str l[k].dG,.sl (l[k].dM.map bE)]:=by
 have h1:((l.take k).map rP).length=k:=by simp;omega
 rw[jt,List.map_append,List.getElem?_append_right (by simp;omega),List.length_map,h1,Nat.sub_self,List.getElem?_map,List.getElem?_drop,Nat.add_zero,List.getElem?_eq_getElem h]
 rfl
theorem ET {l:List dR} {k:Nat} (h:k<l.length):((jt l k).map dS).set k [.str l[k].dG,.sl ((xk l[k].dM).map bE)]=(jt l (k+1)).map dS:=by
 have h1:((l.take k).map rP).length=k:=by simp;omega
 have h2:l.drop k=l[k]::l.drop (k+1):=List.drop_eq_getElem_cons h
 unfold jt
 rw[List.map_append,List.set_append_right _ _ (by simp;omega),List.length_map,h1,Nat.sub_self,h2,List.map_cons,List.set_cons_zero,List.take_add_one,List.getElem?_eq_getElem h,List.map_append,List.map_append,List.map_append,List.append_assoc]
 rfl
theorem ER (l:List dR):jt l l.length=l.map rP:=by simp[jt]
theorem uO (s:aH) (hn:mm s) (hP:gj s) (hg:0<s.bU.length) (h4:∀t∈s.ah,t.dM.length=4):
  uF Tryz.prog 12 [.agg (ao s)] fun r=>r=.fK [.agg (ao (fE s)),.int .i64 0]:=by
 have sv:=hP.ou
 have ht:=hP.some
 have G6:=hP.rO
 have h1:=uQ s hn ab ab (fun t ht=>by rw[h4 t ht];omega)
 rw[rH.2 hP]at h1
 have mH:=fun σ=>L8 s hg ab ab ab h4 σ
 refine uF.body fH rfl fun fR σ=>?_
 clear fR
 have es:ao s=[.sl (s.bU.map ea),.sl (s.ah.map dS)]:=rfl
 rw[es]at h1 mH ⊢
 (repeat(first|((repeat(revert hN;revert N;apply Pn.out));refine wk @Nat.zero_add ?_;(repeat(refine Pn.mk ?_;intro N hN)))|((try apply Or.inl);refine⟨_,aP.x (h1) (sd @Nat.zero_add),?_⟩;refine hN _ _ ?_;clear hN N)))
 refine .inr (aS _ _ _ _ _ (fun r σ1 hq=>?_) (mH _))
 obtain⟨og,o,rfl,ig,gg,go,v1,v2,v3,v4,f1⟩:=hq
 obtain⟨g1,x1⟩:=σ1
 (try dsimp only at gg go v1 v2 v3 v4 f1)
 have k1:=f1 ⟨12000001,σ.next⟩ bL
 simp only[go_sem, ↓reduceIte,Nat.reduceEqDiff,Nat.reduceAdd,Nat.reduceSub,Nat.reduceLeDiff,reduceCtorEq]at k1
 clear f1
 have vg:=dE v2
 have vo:=dE v4
 refine hN _ _ ?_
 clear hN N
 (try((repeat(revert hN;revert N;apply Pn.out));refine wk (tw @k1 (tw @vg @vo)) ?_;(repeat(refine Pn.mk ?_;intro N hN))))
 refine cU (fun n env st=>∃k:Nat,n=(s.ah.length)-k/\k<=(s.ah.length)/\env 16=.int .i64 (k:Int)/\((x1+1<=st.next/\st.get ⟨12000001,σ.next⟩=some ⟨true,2,[[.bB,.bB]]⟩/\st.get ⟨12003002,x1⟩=some ⟨true,2,[[.own og 0 s.bU.length,.own o 0 s.ah.length]]⟩/\st.get og=some ⟨true,2,s.bU.map ea⟩/\st.get o=some ⟨true,2,(jt s.ah k).map dS⟩))) (s.ah.length) ⟨0,ab,ab,sl @Nat.zero_add,by(try dsimp only);exact⟨ab,sd @k1,sl @Nat.zero_add,sd (tw @vg @gg),sl (tw @vo @go)⟩⟩ ?_
 rintro n_a env_a st_a ⟨k,rfl,ale,H5,qn⟩ eL
 have a2:=eL 2 (by kernel_rfl);have a4:=eL 4 (by kernel_rfl);have uR:=eL 14 (by kernel_rfl);have Db:=eL 15 (by kernel_rfl)
 simp only[go_sem, ↓reduceIte,Nat.reduceEqDiff,Nat.reduceAdd,Nat.reduceSub,Nat.reduceLeDiff,reduceCtorEq]at a2 a4 uR Db
 clear eL
 obtain⟨aN,aB,aV,aG,aO⟩:=qn
 have fw:((jt s.ah k).map dS).length=s.ah.length:=by rw[List.length_map,ES ale]
 have RU:=dE (i:=o) (n:=st_a.next) ab
 have VE:(o=⟨12003002,x1⟩)=False:=eq_false fun h=>by rw[h]at v4;(try dsimp only at v4);omega
 have TW:((⟨12003002,x1⟩:Id)=o)=False:=eq_false fun h=>by rw[<-h]at v4;(try dsimp only at v4);omega
 have noB:(o=⟨12000001,σ.next⟩)=False:=eq_false fun h=>by rw[h]at v3;(try dsimp only at v3);omega
 have noC:((⟨12000001,σ.next⟩:Id)=o)=False:=eq_false fun h=>by rw[<-h]at v3;(try dsimp only at v3);omega
 have nog:(og=o)=False:=eq_false ig
 have ngV:(og=⟨12003002,x1⟩)=False:=eq_false fun h=>by rw[h]at v2;(try dsimp only at v2);omega
 have ngB:(og=⟨12000001,σ.next⟩)=False:=eq_false fun h=>by rw[h]at v1;(try dsimp only at v1);omega
 by_cases hk:(k:Int)<(s.ah.length:Int)
 ·have eB:∀{e:Env} {gg:Rows} {nx:Nat},(e 16=.int .i64 (IntKind.i64.wrap ((k:Int)+1)))->((x1+1<=nx/\gg ⟨12000001,σ.next⟩=some ⟨true,2,[[.bB,.bB]]⟩/\gg ⟨12003002,x1⟩=some ⟨true,2,[[.own og 0 s.bU.length,.own o 0 s.ah.length]]⟩/\gg og=some ⟨true,2,s.bU.map ea⟩/\gg o=some ⟨true,2,(jt s.ah (k+1)).map dS⟩))->∃m0,m0<(s.ah.length)-k/\∃k:Nat,m0=(s.ah.length)-k/\k<=(s.ah.length)/\e 16=.int .i64 (k:Int)/\((x1+1<=nx/\gg ⟨12000001,σ.next⟩=some ⟨true,2,[[.bB,.bB]]⟩/\gg ⟨12003002,x1⟩=some ⟨true,2,[[.own og 0 s.bU.length,.own o 0 s.ah.length]]⟩/\gg og=some ⟨true,2,s.bU.map ea⟩/\gg o=some ⟨true,2,(jt s.ah k).map dS⟩)):=fun x1 x2=>⟨_,ab,k+1,rfl,ab,(by rw[x1,cI ab]),x2⟩
  have ko:k<s.ah.length:=ab
  have BP:=HY ko
  have ee:=ET ko
  have Qh:=h4 s.ah[k] (List.getElem_mem ko)
  obtain⟨t,Tx⟩:∃t,s.ah[k]=t:=⟨_,rfl⟩
  rw[Tx]at BP ee Qh
  have htx:=fun σ=>AJ t.dM Qh σ
  obtain⟨rs,tW⟩:∃rs,(jt s.ah k).map dS=rs:=⟨_,rfl⟩
  rw[tW]at aO fw BP ee
  (try((repeat(revert hN;revert N;apply Pn.out));refine wk (tw @H5 (tw @a2 (tw @a4 (tw @uR (tw @Db (tw @hk (tw @BP (tw @aO (tw @aV (tw @fw (tw @RU (tw @VE @TW)))))))))))) ?_;(repeat(refine Pn.mk ?_;intro N hN))))
  refine⟨_,htx _,?_⟩
  refine hN _ _ ?_
  clear hN N
  (try((repeat(revert hN;revert N;apply Pn.out));refine wk (tw @H5 (tw @a2 (tw @a4 (tw @uR (tw @Db (tw @hk (tw @BP (tw @aO (tw @aV (tw @fw (tw @RU (tw @VE @TW)))))))))))) ?_;(repeat(refine Pn.mk ?_;intro N hN))))
  have vg2:=dE (i:=og) (n:=st_a.next) ab
  exact eB (sd (tw @H5 (tw @a2 (tw @a4 (tw @uR @Db))))) (by(try dsimp only);exact⟨ab,sd (tw @noC @aB),sd (tw @TW @aV),sd (tw @vg2 (tw @nog @aG)),sd @ee⟩)
 ·have ko:k=s.ah.length:=ab
  subst ko
  rw[ER]at aO
  have ngo:(o=og)=False:=eq_false fun h=>ig h.symm
  (try((repeat(revert hN;revert N;apply Pn.out));refine wk (tw @H5 (tw @a2 (tw @a4 (tw @uR (tw @Db (tw @hk (tw @aV (tw @aB @fw)))))))) ?_;(repeat(refine Pn.mk ?_;intro N hN))))
  have zg:V.fz (bH st_a.get ⟨12000001,σ.next⟩ ⟨true,2,[[.own og 0 s.bU.length,.own o 0 s.ah.length]]⟩) 4 (.own og 0 s.bU.length)=some (.sl (s.bU.map ea)):=gi (e:=ea) (n:=3) (by simp only[go_sem, ↓reduceIte,Nat.reduceEqDiff,Nat.reduceAdd,Nat.reduceSub,Nat.reduceLeDiff,reduceCtorEq,ngB]<;>exact aG) rfl fun x=>by simp[ea,ad,ae,aL,bf]
  have zt:V.fz (bH st_a.get ⟨12000001,σ.next⟩ ⟨true,2,[[.own og 0 s.bU.length,.own o 0 s.ah.length]]⟩) 4 (.own o 0 s.ah.length)=some (.sl ((s.ah.map rP).map dS)):=by
   have:=gi (e:=dS) (l:=s.ah.map rP) (len:=s.ah.length) (n:=3) (g:=bH st_a.get ⟨12000001,σ.next⟩ ⟨true,2,[[.own og 0 s.bU.length,.own o 0 s.ah.length]]⟩) (id:=o) (by simp only[go_sem, ↓reduceIte,Nat.reduceEqDiff,Nat.reduceAdd,Nat.reduceSub,Nat.reduceLeDiff,reduceCtorEq,noB]<;>exact aO) (by simp) fun x=>by simp[dS,ad,ae,bR,bf]
   simpa using this
  exact⟨[.agg [.own og 0 s.bU.length,.own o 0 s.ah.length],.int .i64 0],sd (tw @H5 (tw @a2 (tw @a4 (tw @uR @Db)))),.fK [.agg (ao (fE s)),.int .i64 0],by simp only[iL,bh,bc,ad,ae,zg,zt,aL,Option.map_some]<;>rfl,rfl⟩
end Go.Proofs.YtakkdjfmiffbfaaGreatDoor.V

namespace Go.Proofs.YtakkdjfmiffbfaaGreatDoor.V
open Go.RowKit
theorem CQ (s:aH) (a:Int):(aW (fE s) a=qg/\aW s a=qg)∨aW (fE s) a=rP (aW s a):=by
 unfold aW fE
 by_cases h:a.toNat<s.ah.length
 ·right
  simp[List.getD_eq_getElem?_getD,h]
 ·left
  constructor<;>simp[List.getD_eq_getElem?_getD,Nat.le_of_not_lt h]
theorem CG (s:aH) (a:Int):bp (aW (fE s) a) 0=bp (aW s a) 1/\bp (aW (fE s) a) 1=bp (aW s a) 0/\bp (aW (fE s) a) 2=bp (aW s a) 3/\bp (aW (fE s) a) 3=bp (aW s a) 2:=by
 rcases CQ s a with⟨h1,h2⟩|h
 ·rw[h1,h2];exact⟨rfl,rfl,rfl,rfl⟩
 ·rw[h];exact⟨rfl,rfl,rfl,rfl⟩
theorem HS (s:aH) (g:Int):mc (fE s) g=mc s g:=rfl
theorem uU (s:aH) (f:af->Int) (p:af) (t:Int):mW s f p t=0+(if 0<=f (cN p 0)then fV s t 0 (f (cN p 0))else 0)+(if 0<=f (cN p 1)then fV s t 1 (f (cN p 1))else 0)+(if 0<=f (cN p 2)then fV s t 2 (f (cN p 2))else 0)+(if 0<=f (cN p 3)then fV s t 3 (f (cN p 3))else 0):=rfl
theorem EO (s:aH) (t:Int):ef (fE s) t=ef s t:=by unfold ef fE;(try dsimp only);rw[List.length_map]
end Go.Proofs.YtakkdjfmiffbfaaGreatDoor.V

namespace Go.Proofs.YtakkdjfmiffbfaaGreatDoor.V
open Go.RowKit
attribute [local irreducible] dL wpOps ez Call
attribute [local go_sem] ay ew dZ eE eC cY upd bJ K.av bZ AV.cells AV.cell rowOf rowsOf part ld rowAt eO bH bI cX dj eQ bq cF dx eA ed cQ dq cD cC dc de bu aE cm bt cr cq dn dr dp ck bz cE dm br aw cw bQ eP aZ bW bx aD cR aQ cZ AV.undef bd bj dh di c6 da bV dw dz bP du dt cu cz List.getD_cons_zero List.getD_cons_succ List.getD_nil List.all_cons List.all_nil Bool.and_true Bool.true_and Bool.and_self Bool.not_true Bool.not_false Option.map_some Option.map_none Option.bind_some Option.bind_none List.length_cons List.length_nil List.take_succ_cons List.take_zero List.take_nil List.drop_succ_cons List.drop_zero List.drop_nil List.head?_cons List.map_cons List.map_nil List.getElem?_cons_zero List.getElem?_cons_succ List.cons_append List.nil_append List.append_nil List.length_map List.set_cons_zero List.set_cons_succ Nat.reduceMul eq_self Int.toNat_natCast Int.natCast_nonneg and_self true_and and_true decide_true decide_false Bool.false_eq_true Nat.zero_add Nat.add_zero List.contains_cons List.contains_nil Bool.or_false Bool.false_or beq_self_eq_true Nat.reduceBEq ne_eq not_true_eq_false not_false_eq_true Id.mk.injEq false_and and_false Nat.reduceLT Int.reduceLE Int.reduceLT Int.reduceToNat Int.reduceNeg Int.reduceAdd Nat.le_refl List.length_append beq_true beq_false Bool.not_eq_eq_eq_not or_false false_or dW ad ae aL aI bf bR az bc aA aJ cj bh
section
variable {E E':Nat->Prop} {n0:Nat} {g:Rows} {n:Nat} {rs:List (List AV)} {X Y:List dR}
end
end Go.Proofs.YtakkdjfmiffbfaaGreatDoor.V

namespace Go.Proofs.YtakkdjfmiffbfaaGreatDoor.V
open Go.RowKit
def sdN (m h i:Nat) (b:Int):List Int:=if i=0 then[if 0<h then(m:Int)+3 else 0,if 0<m then 3 else 0,0,0]else if i<=m then[b,if i<m then(i:Int)+3 else 0,0,(i:Int)+2]else[if i<m+h then(i:Int)+3 else 0,b,(i:Int)+2,0]
structure O7 (s:ax) (m h:Nat):Prop where
 m1:1<=m/\m<=4
 h1:1<=h/\h<=4
 len:s.ar.ah.length=m+h+5
 arm:∀i:Nat,i<=m+h->∃b:Int,(b=1∨b=2)/\(aW s.ar (i:Int)).dM=sdN m h i b
 fill:∀k:Nat,k<4->∃a b:Int,(a=1∨a=2)/\(b=1∨b=2)/\(aW s.ar ((m+h+1+k:Nat):Int)).dM=[a,b,1+(k:Int) % 2,1+(k:Int) / 2]
 ou:s.ar.bU.length=m+2+h
 str:∀i:Nat,i<m+2+h->(mE s.ar (i:Int)).gH=if i<2 then 1 else 2
 nI:s.dI.ah=[⟨⟨0,0⟩,0⟩]
 pz:s.bD=2
section
variable {s:ax} {m h:Nat} (X:O7 s m h)
include X
end
def Sj (m h:Nat) (gs gw:Int):Int:=m+h+1+(gs-1)+2*(gw-1)
def RY (s:ax) (m h:Nat) (L:List aa) (x:aa):Prop:=
 (x.cG=⟨0,0⟩/\x.cL=0)∨
 (∃a:Int,1<=a/\a<=m/\x.cG=⟨a,0⟩/\x.cL=a/\∃y∈L,y.cG=⟨a-1,0⟩)∨
 (∃b:Int,1<=b/\b<=h/\x.cG=⟨0,b⟩/\x.cL=m+b/\∃y∈L,y.cG=⟨0,b-1⟩)∨
 (∃a b:Int,1<=a/\1<=b/\x.cG=⟨a,b⟩/\∃yS∈L,∃yW∈L,yS.cG=⟨a,b-1⟩/\yW.cG=⟨a-1,b⟩/\(bp (aW s.ar yS.cL) 0=1∨bp (aW s.ar yS.cL) 0=2)/\(bp (aW s.ar yW.cL) 1=1∨bp (aW s.ar yW.cL) 1=2)/\x.cL=Sj m h (bp (aW s.ar yS.cL) 0) (bp (aW s.ar yW.cL) 1))
noncomputable def fC (s:ax) (L:List aa) (p:af) (t d:Int):Int:=if 0<=gJ L (cN p d)then fV s.ar t d (gJ L (cN p d))else 0
section
variable {s:ax} {m h:Nat} (X:O7 s m h) {L:List aa} (hA:ju s.ar L) (hI:∀x∈L,RY s m h L x) {a b:Int} (hf:gJ L ⟨a,b⟩<0)
include X hA hI hf
end
section
variable {s:ax} {m h:Nat} (X:O7 s m h) {L:List aa} (hA:ju s.ar L) (hI:∀x∈L,RY s m h L x) {a b:Int}
include X hA hI
end
def km (c r f a b:Int):Int:=if a=0 then(if b=0 then 0 else c+b)else if b=0 then r+a else f
structure jf (s:ax) (W H u v c r f:Int):Prop where
 pz:s.bD=2
 nI:s.dI.ah=[⟨⟨0,0⟩,0⟩]
 w1:1<=W
 h1:1<=H
 u1:1<=u
 v1:1<=v
 uv:∀j k:Int,1<=j->j<H->1<=k->k<W->u+j≠v+k
 c0:0<=c
 r0:0<=r
 f0:0<=f
 one:mc s.ar 1=1
 Sc:∀k:Int,1<=k->k<H->mc s.ar (u+k)=2
 row:∀k:Int,1<=k->k<W->mc s.ar (v+k)=2
 nj:∀t:Int,ef s.ar t=true->
  (t=0/\bp (aW s.ar t) 0=(if 1<H then u+1 else 0)/\bp (aW s.ar t) 1=(if 1<W then v+1 else 0)/\bp (aW s.ar t) 2=0/\bp (aW s.ar t) 3=0)∨
  (∃k:Int,1<=k/\k<H/\t=c+k/\bp (aW s.ar t) 0=(if k+1<H then u+(k+1)else 0)/\bp (aW s.ar t) 1=1/\bp (aW s.ar t) 2=u+k/\bp (aW s.ar t) 3=0)∨
  (∃k:Int,1<=k/\k<W/\t=r+k/\bp (aW s.ar t) 0=1/\bp (aW s.ar t) 1=(if k+1<W then v+(k+1)else 0)/\bp (aW s.ar t) 2=0/\bp (aW s.ar t) 3=v+k)∨
  (t=f/\bp (aW s.ar t) 0=1/\bp (aW s.ar t) 1=1/\bp (aW s.ar t) 2=1/\bp (aW s.ar t) 3=1)
 VX:bp (aW s.ar 0) 0=(if 1<H then u+1 else 0)/\bp (aW s.ar 0) 1=(if 1<W then v+1 else 0)/\bp (aW s.ar 0) 2=0/\bp (aW s.ar 0) 3=0
 E6:∀k:Int,1<=k->k<H->ef s.ar (c+k)=true/\bp (aW s.ar (c+k)) 0=(if k+1<H then u+(k+1)else 0)/\bp (aW s.ar (c+k)) 1=1/\bp (aW s.ar (c+k)) 2=u+k/\bp (aW s.ar (c+k)) 3=0
 E7:∀k:Int,1<=k->k<W->ef s.ar (r+k)=true/\bp (aW s.ar (r+k)) 0=1/\bp (aW s.ar (r+k)) 1=(if k+1<W then v+(k+1)else 0)/\bp (aW s.ar (r+k)) 2=0/\bp (aW s.ar (r+k)) 3=v+k
 UL:ef s.ar f=true/\bp (aW s.ar f) 0=1/\bp (aW s.ar f) 1=1/\bp (aW s.ar f) 2=1/\bp (aW s.ar f) 3=1
def LP (W H c r f:Int) (x:aa):Prop:=0<=x.cG.fu/\x.cG.fu<W/\0<=x.cG.eZ/\x.cG.eZ<H/\x.cL=km c r f x.cG.fu x.cG.eZ
theorem jf.ND {s:ax} {W H u v c r f:Int} (_:jf s W H u v c r f):mc s.ar 0=0:=by unfold mc;rw[if_pos rfl]
section
variable {s:ax} {W H u v c r f:Int} (X:jf s W H u v c r f) {a b:Int}
include X
theorem jf.N3 (ha:0<=a) (FA:a<W) (hb:0<=b) (FC:b<H):
  (bp (aW s.ar (km c r f a b)) 0=if a=0 then(if b+1<H then u+(b+1)else 0)else 1)/\
  (bp (aW s.ar (km c r f a b)) 1=if b=0 then(if a+1<W then v+(a+1)else 0)else 1)/\
  (bp (aW s.ar (km c r f a b)) 2=if b=0 then 0 else if a=0 then u+b else 1)/\
  (bp (aW s.ar (km c r f a b)) 3=if a=0 then 0 else if b=0 then v+a else 1):=by
 unfold km
 by_cases a0:a=0
 ·subst a0
  by_cases b0:b=0
  ·subst b0
   simp only[if_true]
   exact X.VX
  ·have h:=X.E6 b ab FC
   simp only[if_true,if_neg b0]
   exact h.2
 ·by_cases b0:b=0
  ·subst b0
   have h:=X.E7 a ab FA
   simp only[if_true,if_neg a0]
   exact h.2
  ·simp only[if_neg a0,if_neg b0]
   exact X.UL.2
end
section
variable {s:ax} {W H u v c r f:Int} (X:jf s W H u v c r f) {L:List aa} (hI:∀x∈L,LP W H c r f x) {a b:Int}
include X hI
theorem Ks (t:Int):fC s L ⟨a,b⟩ t 0=0∨(fC s L ⟨a,b⟩ t 0=2/\a=0/\0<=b/\b+1<H/\bp (aW s.ar t) 0=u+(b+1))∨
  (fC s L ⟨a,b⟩ t 0=1/\1<=a/\a<W/\0<=b/\b+1<H/\bp (aW s.ar t) 0=1):=by
 unfold fC
 split
 ·rename_i h0
  obtain⟨y,hy,e1,e2⟩:=wi h0
  have e3:y.cG=⟨a,b+1⟩:=e1
  obtain⟨q1,q2,q3,q4,q5⟩:=hI y hy
  rw[e3]at q1 q2 q3 q4 q5
  (try dsimp only at q1 q2 q3 q4 q5)
  have hs:=(X.N3 q1 q2 q3 q4).2.2.1
  rw[<-q5]at hs
  rw[<-e2]
  unfold fV
  rw[show jR 0=2 from rfl]
  by_cases hq:bp (aW s.ar t) 0=bp (aW s.ar y.cL) 2
  ·rw[if_pos hq,hq,hs]
   by_cases b0:b+1=0
   ·rw[if_pos b0];exact .inl X.ND
   ·rw[if_neg b0]
    by_cases a0:a=0
    ·rw[if_pos a0]
     exact .inr (.inl ⟨X.Sc _ ab q4,a0,ab,q4,rfl⟩)
    ·rw[if_neg a0]
     exact .inr (.inr ⟨X.one,ab,q2,ab,q4,rfl⟩)
  ·rw[if_neg hq];exact .inl rfl
 ·exact .inl rfl
theorem N8 (t:Int):fC s L ⟨a,b⟩ t 1=0∨(fC s L ⟨a,b⟩ t 1=2/\b=0/\0<=a/\a+1<W/\bp (aW s.ar t) 1=v+(a+1))∨
  (fC s L ⟨a,b⟩ t 1=1/\1<=b/\b<H/\0<=a/\a+1<W/\bp (aW s.ar t) 1=1):=by
 unfold fC
 split
 ·rename_i h0
  obtain⟨y,hy,e1,e2⟩:=wi h0
  have e3:y.cG=⟨a+1,b⟩:=e1
  obtain⟨q1,q2,q3,q4,q5⟩:=hI y hy
  rw[e3]at q1 q2 q3 q4 q5
  (try dsimp only at q1 q2 q3 q4 q5)
  have hs:=(X.N3 q1 q2 q3 q4).2.2.2
  rw[<-q5]at hs
  rw[<-e2]
  unfold fV
  rw[show jR 1=3 from rfl]
  by_cases hq:bp (aW s.ar t) 1=bp (aW s.ar y.cL) 3
  ·rw[if_pos hq,hq,hs]
   by_cases a0:a+1=0
   ·rw[if_pos a0];exact .inl X.ND
   ·rw[if_neg a0]
    by_cases b0:b=0
    ·rw[if_pos b0]
     exact .inr (.inl ⟨X.row _ ab q2,b0,ab,q2,rfl⟩)
    ·rw[if_neg b0]
     exact .inr (.inr ⟨X.one,ab,q4,ab,q2,rfl⟩)
  ·rw[if_neg hq];exact .inl rfl
 ·exact .inl rfl
theorem K4 (t:Int):fC s L ⟨a,b⟩ t 2=0∨(fC s L ⟨a,b⟩ t 2=2/\a=0/\1<=b/\b<H/\bp (aW s.ar t) 2=u+b)∨
  (fC s L ⟨a,b⟩ t 2=1/\1<=a/\a<W/\1<=b/\bp (aW s.ar t) 2=1):=by
 unfold fC
 split
 ·rename_i h0
  obtain⟨y,hy,e1,e2⟩:=wi h0
  have e3:y.cG=⟨a,b-1⟩:=e1
  obtain⟨q1,q2,q3,q4,q5⟩:=hI y hy
  rw[e3]at q1 q2 q3 q4 q5
  (try dsimp only at q1 q2 q3 q4 q5)
  have hs:=(X.N3 q1 q2 q3 q4).1
  rw[<-q5]at hs
  rw[<-e2]
  unfold fV
  rw[show jR 2=0 from rfl]
  by_cases hq:bp (aW s.ar t) 2=bp (aW s.ar y.cL) 0
  ·rw[if_pos hq,hq,hs]
   by_cases a0:a=0
   ·rw[if_pos a0]
    by_cases b0:b-1+1<H
    ·rw[if_pos b0]
     exact .inr (.inl ⟨X.Sc _ ab b0,a0,ab,ab,by rw[Int.sub_add_cancel]⟩)
    ·rw[if_neg b0];exact .inl X.ND
   ·rw[if_neg a0]
    exact .inr (.inr ⟨X.one,ab,q2,ab,rfl⟩)
  ·rw[if_neg hq];exact .inl rfl
 ·exact .inl rfl
theorem OU (t:Int):fC s L ⟨a,b⟩ t 3=0∨(fC s L ⟨a,b⟩ t 3=2/\b=0/\1<=a/\a<W/\bp (aW s.ar t) 3=v+a)∨
  (fC s L ⟨a,b⟩ t 3=1/\1<=b/\b<H/\1<=a/\bp (aW s.ar t) 3=1):=by
 unfold fC
 split
 ·rename_i h0
  obtain⟨y,hy,e1,e2⟩:=wi h0
  have e3:y.cG=⟨a-1,b⟩:=e1
  obtain⟨q1,q2,q3,q4,q5⟩:=hI y hy
  rw[e3]at q1 q2 q3 q4 q5
  (try dsimp only at q1 q2 q3 q4 q5)
  have hs:=(X.N3 q1 q2 q3 q4).2.1
  rw[<-q5]at hs
  rw[<-e2]
  unfold fV
  rw[show jR 3=1 from rfl]
  by_cases hq:bp (aW s.ar t) 3=bp (aW s.ar y.cL) 1
  ·rw[if_pos hq,hq,hs]
   by_cases b0:b=0
   ·rw[if_pos b0]
    by_cases a0:a-1+1<W
    ·rw[if_pos a0]
     exact .inr (.inl ⟨X.row _ ab a0,b0,ab,ab,by rw[Int.sub_add_cancel]⟩)
    ·rw[if_neg a0];exact .inl X.ND
   ·rw[if_neg b0]
    exact .inr (.inr ⟨X.one,ab,q4,ab,rfl⟩)
  ·rw[if_neg hq];exact .inl rfl
 ·exact .inl rfl
end
theorem Oa {c r f b:Int} (hb:1<=b):km c r f 0 b=c+b:=by unfold km;rw[if_pos rfl,if_neg ab]
theorem Ob {c r f a:Int} (ha:1<=a):km c r f a 0=r+a:=by unfold km;rw[if_neg ab,if_pos rfl]
theorem Sp {c r f a b:Int} (ha:1<=a) (hb:1<=b):km c r f a b=f:=by unfold km;rw[if_neg ab,if_neg ab]
section
variable {s:ax} {W H u v c r f:Int} (X:jf s W H u v c r f) {t:Int} (ht:ef s.ar t=true)
include X ht
theorem jf.byN {b:Int} (hb:0<=b) (FC:b+1<H) (hs:bp (aW s.ar t) 0=u+(b+1)):t=km c r f 0 b:=by
 have hu:=X.u1
 rcases X.nj t ht with⟨h1,h2,_⟩|⟨k,h1,h2,h3,h4,_⟩|⟨k,h1,h2,h3,h4,_⟩|⟨h1,h2,_⟩
 ·rw[hs]at h2
  have yC:b=0:=by
   split at h2<;>omega
  subst yC
  rw[h1];rfl
 ·rw[hs]at h4
  have yC:b=k:=by
   split at h4<;>omega
  subst yC
  rw[h3,Oa h1]
 ·omega
 ·omega
theorem jf.byE {a:Int} (ha:0<=a) (FA:a+1<W) (hs:bp (aW s.ar t) 1=v+(a+1)):t=km c r f a 0:=by
 have hu:=X.v1
 rcases X.nj t ht with⟨h1,_,h2,_⟩|⟨k,h1,h2,h3,_,h4,_⟩|⟨k,h1,h2,h3,_,h4,_⟩|⟨h1,_,h2,_⟩
 ·rw[hs]at h2
  have yC:a=0:=by
   split at h2<;>omega
  subst yC
  rw[h1];rfl
 ·omega
 ·rw[hs]at h4
  have yC:a=k:=by
   split at h4<;>omega
  subst yC
  rw[h3,Ob h1]
 ·omega
theorem jf.byS {b:Int} (hb:1<=b) (hs:bp (aW s.ar t) 2=u+b):t=km c r f 0 b:=by
 have hu:=X.u1
 rcases X.nj t ht with⟨h1,_,_,h2,_⟩|⟨k,h1,h2,h3,_,_,h4,_⟩|⟨k,h1,h2,h3,_,_,h4,_⟩|⟨h1,_,_,h2,_⟩
 ·omega
 ·rw[h3,Oa hb];omega
 ·omega
 ·omega
theorem jf.byW {a:Int} (ha:1<=a) (hs:bp (aW s.ar t) 3=v+a):t=km c r f a 0:=by
 have hu:=X.v1
 rcases X.nj t ht with⟨h1,_,_,_,h2⟩|⟨k,h1,h2,h3,_,_,_,h4⟩|⟨k,h1,h2,h3,_,_,_,h4⟩|⟨h1,_,_,_,h2⟩
 ·omega
 ·omega
 ·rw[h3,Ob ha];omega
 ·omega
end
theorem jf.XA {s:ax} {W H u v c r f:Int} (X:jf s W H u v c r f) {t:Int} (ht:ef s.ar t=true):
  t=f∨(bp (aW s.ar t) 2≠1/\bp (aW s.ar t) 3≠1/\(bp (aW s.ar t) 0≠1∨bp (aW s.ar t) 1≠1)):=by
 have hu:=X.u1
 have hv:=X.v1
 rcases X.nj t ht with⟨h1,h2,h3,h4,h5⟩|⟨k,h1,h2,h3,h4,h5,h6,h7⟩|⟨k,h1,h2,h3,h4,h5,h6,h7⟩|⟨h1,_⟩
 ·exact .inr ⟨ab,ab,.inl (by rw[h2];split<;>omega)⟩
 ·exact .inr ⟨ab,ab,.inl (by rw[h4];split<;>omega)⟩
 ·exact .inr ⟨ab,ab,.inr (by rw[h5];split<;>omega)⟩
 ·exact .inl h1
theorem T8 {s:ax} {W H u v c r f:Int} (X:jf s W H u v c r f) {L:List aa} (hI:∀x∈L,LP W H c r f x) {x:aa} (ht:ef s.ar x.cL=true) (hf:eI s L x.cG x.cL=true):LP W H c r f x:=by
 obtain⟨⟨a,b⟩,t⟩:=x
 (try dsimp only at ht hf)
 simp only[eI,Bool.and_eq_true,decide_eq_true_eq]at hf
 obtain⟨⟨_,h0⟩,hb⟩:=hf
 have hb4:mW s.ar (gJ L) ⟨a,b⟩ t=0+fC s L ⟨a,b⟩ t 0+fC s L ⟨a,b⟩ t 1+fC s L ⟨a,b⟩ t 2+fC s L ⟨a,b⟩ t 3:=uU _ _ _ _
 rw[X.pz]at hb
 have hw:=X.w1
 have hh:=X.h1
 unfold LP
 (try dsimp only)
 rcases Ks X hI (a:=a) (b:=b) t with n|⟨n,n1,n2,n3,n4⟩|⟨n,n1,n2,n3,n4,n5⟩
 rotate_left
 ·subst n1;exact⟨ab,ab,n2,ab,X.byN ht n2 n3 n4⟩
 all_goals rcases N8 X hI (a:=a) (b:=b) t with e|⟨e,e1,e2,e3,e4⟩|⟨e,e1,e2,e3,e4,e5⟩
 rotate_left
 ·subst e1;exact⟨e2,ab,ab,ab,X.byE ht e2 e3 e4⟩
 rotate_left 2
 ·subst e1;exact⟨e2,ab,ab,ab,X.byE ht e2 e3 e4⟩
 all_goals rcases K4 X hI (a:=a) (b:=b) t with q|⟨q,q1,q2,q3,q4⟩|⟨q,q1,q2,q3,q4⟩
 all_goals (try(subst q1;exact⟨ab,ab,ab,q3,X.byS ht q2 q4⟩))
 all_goals rcases OU X hI (a:=a) (b:=b) t with w|⟨w,w1,w2,w3,w4⟩|⟨w,w1,w2,w3,w4⟩
 all_goals (try(subst w1;exact⟨ab,w3,ab,ab,X.byW ht w2 w4⟩))
 all_goals
  have iO:1<=a/\a<W/\1<=b/\b<H:=ab
  refine⟨ab,iO.2.1,ab,iO.2.2.2,?_⟩
  rw[Sp iO.1 iO.2.2.1]
  rcases X.XA ht with k|k
  ·exact k
  ·exfalso;omega
theorem Ai {s:ax} {W H u v c r f:Int} (X:jf s W H u v c r f) {ds:List aa} (hD:gC s ds):∀i,i<=ds.length->∀x∈ek s ds i,LP W H c r f x
 |0,_,x,hx=>by
  rw[Hx,X.nI]at hx
  rw[List.mem_singleton.1 hx]
  have hw:=X.w1
  have hh:=X.h1
  exact⟨Int.le_refl _,by show(0:Int)<W;omega,Int.le_refl _,by show(0:Int)<H;omega,rfl⟩
 |i+1,hi,x,hx=>by
  have ih:=Ai X hD i ab
  have hg:=hD i ab
  simp only[iW,OC,Bool.and_eq_true]at hg
  rw[ke s ds ab]at hx
  rcases lW.1 hx with rfl|hx
  ·exact T8 X ih hg.1.1 hg.1.2
  ·exact ih x hx
section
variable {s:ax} {W H u v c r f:Int} (X:jf s W H u v c r f) {L:List aa} (hA:ju s.ar L) {a b:Int}
include X
theorem Fs (ha:0<=a) (hb:0<=b):0<=km c r f a b:=by
 have h1:=X.c0
 have h2:=X.r0
 have h3:=X.f0
 unfold km
 split<;>split<;>omega
theorem PF (Fz:ef s.ar 0=true) (ha:0<=a) (FA:a<W) (hb:0<=b) (FC:b<H):ef s.ar (km c r f a b)=true:=by
 unfold km
 split
 ·split
  ·exact Fz
  ·exact(X.E6 b ab FC).1
 ·split
  ·exact(X.E7 a ab FA).1
  ·exact X.UL.1
include hA
theorem CI (ha:0<=a) (FA:a<W) (hb:0<=b) (FC:b+1<H) (hx:(⟨⟨a,b⟩,km c r f a b⟩:aa)∈L):fC s L ⟨a,b+1⟩ (km c r f a (b+1)) 2=if a=0 then 2 else 1:=by
 have e:gJ L (cN ⟨a,b+1⟩ 2)=km c r f a b:=by
  have h1:=at_mem hA.1.OG hx
  have h2:cN ⟨a,b+1⟩ 2=⟨a,b⟩:=by
   show(⟨a,b+1-1⟩:af)=⟨a,b⟩
   rw[Int.add_sub_cancel]
  rw[h2];exact h1
 have h4:=(X.N3 ha FA (show 0<=b+1 by omega) FC).2.2.1
 have h5:=(X.N3 ha FA hb (show b<H by omega)).1
 unfold fC
 rw[e,if_pos (Fs X ha hb)]
 unfold fV
 rw[show jR 2=0 from rfl,h4,h5,if_neg (show ¬b+1=0 by omega),if_pos FC,if_pos rfl]
 split
 ·exact X.Sc _ ab FC
 ·exact X.one
theorem Ge (ha:0<=a) (FA:a+1<W) (hb:0<=b) (FC:b<H) (hx:(⟨⟨a,b⟩,km c r f a b⟩:aa)∈L):fC s L ⟨a+1,b⟩ (km c r f (a+1) b) 3=if b=0 then 2 else 1:=by
 have e:gJ L (cN ⟨a+1,b⟩ 3)=km c r f a b:=by
  have h1:=at_mem hA.1.OG hx
  have h2:cN ⟨a+1,b⟩ 3=⟨a,b⟩:=by
   show(⟨a+1-1,b⟩:af)=⟨a,b⟩
   rw[Int.add_sub_cancel]
  rw[h2];exact h1
 have h4:=(X.N3 (show 0<=a+1 by omega) FA hb FC).2.2.2
 have h5:=(X.N3 ha (show a<W by omega) hb FC).2.1
 unfold fC
 rw[e,if_pos (Fs X ha hb)]
 unfold fV
 rw[show jR 3=1 from rfl,h4,h5,if_neg (show ¬a+1=0 by omega),if_pos FA,if_pos rfl]
 split
 ·exact X.row _ ab FA
 ·exact X.one
end
section
variable {s:ax} {W H u v c r f:Int} (X:jf s W H u v c r f) {L:List aa} (hA:ju s.ar L) (hI:∀x∈L,LP W H c r f x) (MI:∀a b:Int,0<=a->a<W->0<=b->b<H->za ⟨a,b⟩=true)
 (Fz:ef s.ar 0=true) (vP:iG s L=[]) {a b:Int}
include X hA hI MI Fz vP
theorem Jh (ha:0<=a) (FA:a<W) (hb:0<=b) (FC:b<H) (h2:2<=fC s L ⟨a,b⟩ (km c r f a b) 2+fC s L ⟨a,b⟩ (km c r f a b) 3):(⟨⟨a,b⟩,km c r f a b⟩:aa)∈L:=by
 rcases Int.lt_or_le (gJ L ⟨a,b⟩) 0 with h0|h0
 ·exfalso
  have ht:=PF X Fz ha FA hb FC
  have hb4:mW s.ar (gJ L) ⟨a,b⟩ (km c r f a b)=0+fC s L ⟨a,b⟩ (km c r f a b) 0+fC s L ⟨a,b⟩ (km c r f a b) 1+fC s L ⟨a,b⟩ (km c r f a b) 2+fC s L ⟨a,b⟩ (km c r f a b) 3:=uU _ _ _ _
  have n:0<=fC s L ⟨a,b⟩ (km c r f a b) 0:=by rcases Ks X hI (a:=a) (b:=b) (km c r f a b)with n|n|n<;>omega
  have e:0<=fC s L ⟨a,b⟩ (km c r f a b) 1:=by rcases N8 X hI (a:=a) (b:=b) (km c r f a b)with n|n|n<;>omega
  have hf:eI s L ⟨a,b⟩ (km c r f a b)=true:=by
   simp only[eI,Bool.and_eq_true,decide_eq_true_eq]
   refine⟨⟨MI a b ha FA hb FC,h0⟩,?_⟩
   rw[X.pz];omega
  have h:=Nf (by rw[X.pz];omega) hA ht hf
  rw[vP]at h
  cases h
 ·obtain⟨⟨p,t⟩,hy,e,_⟩:=wi h0
  (try dsimp only at e)
  subst e
  have h:=(hI _ hy).2.2.2.2
  (try dsimp only at h)
  rw[<-h];exact hy
theorem Sd (hs:(⟨⟨0,0⟩,0⟩:aa)∈L):∀k:Nat,(k:Int)<H->(⟨⟨0,(k:Int)⟩,km c r f 0 k⟩:aa)∈L
 |0,_=>hs
 |k+1,h=>by
  have hw:=X.w1
  have ih:=Sd hs k ab
  have h1:=CI X hA (a:=0) (b:=k) ab ab ab ab ih
  rw[if_pos rfl]at h1
  rw[show((k+1:Nat):Int)=(k:Int)+1 by omega]
  refine Jh X hA hI MI Fz vP ab ab ab ab ?_
  have w:0<=fC s L ⟨0,(k:Int)+1⟩ (km c r f 0 ((k:Int)+1)) 3:=by rcases OU X hI (a:=0) (b:=(k:Int)+1) (km c r f 0 ((k:Int)+1))with n|n|n<;>omega
  omega
theorem Ug (hs:(⟨⟨0,0⟩,0⟩:aa)∈L):∀k:Nat,(k:Int)<W->(⟨⟨(k:Int),0⟩,km c r f k 0⟩:aa)∈L
 |0,_=>hs
 |k+1,h=>by
  have hw:=X.h1
  have ih:=Ug hs k ab
  have h1:=Ge X hA (a:=k) (b:=0) ab ab ab ab ih
  rw[if_pos rfl]at h1
  rw[show((k+1:Nat):Int)=(k:Int)+1 by omega]
  refine Jh X hA hI MI Fz vP ab ab ab ab ?_
  have w:0<=fC s L ⟨(k:Int)+1,0⟩ (km c r f ((k:Int)+1) 0) 2:=by rcases K4 X hI (a:=(k:Int)+1) (b:=0) (km c r f ((k:Int)+1) 0)with n|n|n<;>omega
  omega
theorem Pa (hs:(⟨⟨0,0⟩,0⟩:aa)∈L):∀j:Nat,(j:Int)<H->∀k:Nat,(k:Int)<W->(⟨⟨(k:Int),(j:Int)⟩,km c r f k j⟩:aa)∈L
 |0,_,k,hk=>Ug X hA hI MI Fz vP hs k hk
 |j+1,hj,0,_=>Sd X hA hI MI Fz vP hs (j+1) hj
 |j+1,hj,k+1,hk=>by
  have i1:=Pa hs j ab (k+1) hk
  have i2:=Pa hs (j+1) hj k ab
  rw[show((k+1:Nat):Int)=(k:Int)+1 by omega]at i1 ⊢
  rw[show((j+1:Nat):Int)=(j:Int)+1 by omega]at i2 ⊢
  have h1:=CI X hA (a:=(k:Int)+1) (b:=j) ab ab ab ab i1
  have h2:=Ge X hA (a:=k) (b:=(j:Int)+1) ab ab ab ab i2
  rw[if_neg ab]at h1 h2
  exact Jh X hA hI MI Fz vP ab ab ab ab ab
end
theorem jf.full {s:ax} (hP:kU s) {W H u v c r f:Int} (X:jf s W H u v c r f) (MI:∀a b:Int,0<=a->a<W->0<=b->b<H->za ⟨a,b⟩=true) {ds:List aa} (hD:gC s ds) (vP:iG s (ek s ds ds.length)=[]) (x:aa):
  x∈ek s ds ds.length↔LP W H c r f x:=by
 have hA:=jS hP (es:=ds) ds.length (Nat.le_refl _) hD
 have hI:=Ai X hD ds.length (Nat.le_refl _)
 refine⟨hI x,fun h=>?_⟩
 have hs:(⟨⟨0,0⟩,0⟩:aa)∈ek s ds ds.length:=Kh.2 (.inl (by rw[X.nI];exact List.mem_singleton.2 rfl))
 obtain⟨⟨a,b⟩,t⟩:=x
 obtain⟨q1,q2,q3,q4,q5⟩:=h
 (try dsimp only at q1 q2 q3 q4 q5)
 obtain⟨k,rfl⟩:∃k:Nat,a=(k:Int):=⟨a.toNat,ab⟩
 obtain⟨j,rfl⟩:∃j:Nat,b=(j:Int):=⟨b.toNat,ab⟩
 rw[q5]
 exact Pa X hA hI MI (hA.2 _ hs) vP hs j q4 k q2
def ib (W H:Nat):List af:=(List.range H).flatMap fun(j:Nat)=>(List.range W).map fun(k:Nat)=>⟨(k:Int),(j:Int)⟩
def zU (W H:Nat) (c r f:Int):List aa:=(ib W H).map fun p=>⟨p,km c r f p.fu p.eZ⟩
theorem uw {W H:Nat} {p:af}:p∈ib W H↔0<=p.fu/\p.fu<W/\0<=p.eZ/\p.eZ<H:=by
 unfold ib
 rw[List.mem_flatMap]
 constructor
 ·rintro⟨j,hj,hp⟩
  obtain⟨k,hk,rfl⟩:=List.mem_map.1 hp
  have h1:=List.mem_range.1 hj
  have h2:=List.mem_range.1 hk
  exact⟨by show(0:Int)<=(k:Int);omega,by show(k:Int)<(W:Int);omega,by show(0:Int)<=(j:Int);omega,by show(j:Int)<(H:Int);omega⟩
 ·rintro⟨h1,h2,h3,h4⟩
  obtain⟨a,b⟩:=p
  (try dsimp only at h1 h2 h3 h4)
  exact⟨b.toNat,List.mem_range.2 ab,List.mem_map.2 ⟨a.toNat,List.mem_range.2 ab,by rw[show((a.toNat:Nat):Int)=a by omega,show((b.toNat:Nat):Int)=b by omega]⟩⟩
theorem Np (W H:Nat):(ib W H).Pairwise fun a b=>kR a b=true:=by
 unfold ib
 rw[List.pairwise_flatMap]
 refine⟨fun j _=>?_,?_⟩
 ·rw[List.pairwise_map]
  refine List.Pairwise.imp ?_ List.pairwise_lt_range
  intro x y h
  rw[o9]
  exact .inr ⟨rfl,by show(x:Int)<(y:Int);omega⟩
 ·refine List.Pairwise.imp ?_ List.pairwise_lt_range
  intro i j h x hx y hy
  obtain⟨k,_,rfl⟩:=List.mem_map.1 hx
  obtain⟨l,_,rfl⟩:=List.mem_map.1 hy
  rw[o9]
  exact .inl (by show(i:Int)<(j:Int);omega)
theorem lk (W H:Nat):(ib W H).length=W*H:=by
 unfold ib
 rw[List.length_flatMap]
 simp only[List.length_map,List.length_range,List.map_const',List.length_range,List.sum_replicate_nat]
 exact Nat.mul_comm _ _
theorem Ml (W H:Nat) (c r f:Int):nq (zU W H c r f):=by
 rw[ma]
 unfold zU
 rw[List.pairwise_map]
 exact Np W H
theorem Fq (W H:Nat) (c r f:Int):(zU W H c r f).length=W*H:=by
 unfold zU;rw[List.length_map,lk]
theorem FW {W H:Nat} {c r f:Int} {x:aa}:x∈zU W H c r f↔LP W H c r f x:=by
 unfold zU LP
 rw[List.mem_map]
 constructor
 ·rintro⟨p,hp,rfl⟩
  obtain⟨h1,h2,h3,h4⟩:=uw.1 hp
  exact⟨h1,h2,h3,h4,rfl⟩
 ·rintro⟨h1,h2,h3,h4,h5⟩
  exact⟨x.cG,uw.2 ⟨h1,h2,h3,h4⟩,by rw[<-h5]⟩
theorem jf.list {s:ax} (hP:kU s) {W H:Nat} {u v c r f:Int} (X:jf s W H u v c r f) (hW:W<=61) (hH:H<=61) {ds:List aa} (hD:gC s ds) (vP:iG s (ek s ds ds.length)=[]):ek s ds ds.length=zU W H c r f:=by
 have hA:=jS hP (es:=ds) ds.length (Nat.le_refl _) hD
 refine KQ hA.1.OG (Ml W H c r f) fun x=>?_
 rw[FW]
 refine X.full hP (fun a b h1 h2 h3 h4=>?_) hD vP x
 unfold za je
 simp only[Bool.and_eq_true,decide_eq_true_eq]
 omega
theorem jf.CX {s:ax} (hP:kU s) {W H:Nat} {u v c r f:Int} (X:jf s W H u v c r f) {ds:List aa} (hD:gC s ds) {i:Nat} (hi:i<=ds.length):(ek s ds i).length<=W*H:=by
 have hA:=jS hP (es:=ds) i hi (fun j hj=>hD j ab)
 rw[<-Fq W H c r f]
 exact l5 (HD hA.1.OG) fun x hx=>FW.2 (Ai X hD i hi x hx)
theorem jf.swap {s s':ax} {W H u v c r f:Int} (X:jf s W H u v c r f) (ht:s'.bD=s.bD) (hs:s'.dI.ah=s.dI.ah) (hB:∀t,ef s'.ar t=ef s.ar t) (hg:∀g,mc s'.ar g=mc s.ar g)
  (h0:∀t,ef s.ar t=true->bp (aW s'.ar t) 0=bp (aW s.ar t) 1/\bp (aW s'.ar t) 1=bp (aW s.ar t) 0/\bp (aW s'.ar t) 2=bp (aW s.ar t) 3/\bp (aW s'.ar t) 3=bp (aW s.ar t) 2) (Fz:ef s.ar 0=true):
  jf s' H W v u r c f where
 pz:=ht.trans X.pz
 nI:=hs.trans X.nI
 w1:=X.h1
 h1:=X.w1
 u1:=X.v1
 v1:=X.u1
 uv:=fun j k a b c d e=>X.uv k j c d a b e.symm
 c0:=X.r0
 r0:=X.c0
 f0:=X.f0
 one:=(hg 1).trans X.one
 Sc:=fun k a b=>(hg _).trans (X.row k a b)
 row:=fun k a b=>(hg _).trans (X.Sc k a b)
 nj:=fun t hb=>by
  rw[hB]at hb
  obtain⟨a0,a1,a2,a3⟩:=h0 t hb
  rw[a0,a1,a2,a3]
  rcases X.nj t hb with⟨k1,k2,k3,k4,k5⟩|⟨k,k1,k2,k3,k4,k5,k6,k7⟩|⟨k,k1,k2,k3,k4,k5,k6,k7⟩|⟨k1,k2,k3,k4,k5⟩
  ·exact .inl ⟨k1,k3,k2,k5,k4⟩
  ·exact .inr (.inr (.inl ⟨k,k1,k2,k3,k5,k4,k7,k6⟩))
  ·exact .inr (.inl ⟨k,k1,k2,k3,k5,k4,k7,k6⟩)
  ·exact .inr (.inr (.inr ⟨k1,k3,k2,k5,k4⟩))
 VX:=by
  obtain⟨a0,a1,a2,a3⟩:=h0 0 Fz
  obtain⟨k2,k3,k4,k5⟩:=X.VX
  rw[a0,a1,a2,a3]
  exact⟨k3,k2,k5,k4⟩
 E6:=fun k a b=>by
  obtain⟨k1,k2,k3,k4,k5⟩:=X.E7 k a b
  obtain⟨a0,a1,a2,a3⟩:=h0 _ k1
  rw[hB,a0,a1,a2,a3]
  exact⟨k1,k3,k2,k5,k4⟩
 E7:=fun k a b=>by
  obtain⟨k1,k2,k3,k4,k5⟩:=X.E6 k a b
  obtain⟨a0,a1,a2,a3⟩:=h0 _ k1
  rw[hB,a0,a1,a2,a3]
  exact⟨k1,k3,k2,k5,k4⟩
 UL:=by
  obtain⟨k1,k2,k3,k4,k5⟩:=X.UL
  obtain⟨a0,a1,a2,a3⟩:=h0 _ k1
  rw[hB,a0,a1,a2,a3]
  exact⟨k1,k3,k2,k5,k4⟩
def pr (W H i:Nat):List Int:=
 if i=0 then[if 1<H then 2 else 0,if 1<W then(H:Int)+1 else 0,0,0]
 else if i<H then[if i+1<H then(i:Int)+2 else 0,1,(i:Int)+1,0]
 else if i+1<W+H then[1,if i+2<W+H then(i:Int)+2 else 0,0,(i:Int)+1]
 else[1,1,1,1]
structure OZ (s:ax) (W H:Nat):Prop where
 pz:s.bD=2
 nI:s.dI.ah=[⟨⟨0,0⟩,0⟩]
 w1:1<=W
 h1:1<=H
 ou:s.ar.bU.length=W+H-1
 str:∀i:Nat,i<W+H-1->(mE s.ar (i:Int)).gH=if i=0 then 1 else 2
 len:s.ar.ah.length=W+H
 side:∀i:Nat,i<W+H->(aW s.ar (i:Int)).dM=pr W H i
theorem OZ.sys {s:ax} {W H:Nat} (X:OZ s W H):jf s W H 1 H 0 ((H:Int)-1) ((W:Int)+H-1):=by
 have hw:=X.w1
 have hh:=X.h1
 have st:∀g:Int,1<=g->g<=(W:Int)+H-1->mc s.ar g=if g=1 then 1 else 2:=fun g h1 h2=>by
  unfold mc
  rw[if_neg ab]
  have:=X.str (g-1).toNat ab
  rw[show(((g-1).toNat:Nat):Int)=g-1 by omega]at this
  rw[this]
  by_cases e:g=1
  ·rw[if_pos e,if_pos ab]
  ·rw[if_neg e,if_neg ab]
 have tb:∀t:Int,ef s.ar t=true↔0<=t/\t<(W:Int)+H:=fun t=>by
  unfold ef je
  rw[X.len]
  simp only[Bool.and_eq_true,decide_eq_true_eq]
  omega
 have sd:∀i:Nat,i<W+H->∀d:Int,bp (aW s.ar (i:Int)) d=(pr W H i).getD d.toNat 0:=fun i hi d=>by
  unfold bp;rw[X.side i hi]
 have s0:bp (aW s.ar 0) 0=(if (1:Int)<H then 1+1 else 0)/\bp (aW s.ar 0) 1=(if (1:Int)<W then(H:Int)+1 else 0)/\bp (aW s.ar 0) 2=0/\bp (aW s.ar 0) 3=0:=by
  have h:=sd 0 ab
  unfold pr at h
  rw[if_pos rfl]at h
  refine⟨(h 0).trans ?_,(h 1).trans ?_,h 2,h 3⟩
  ·show(if 1<H then(2:Int)else 0)= _
   by_cases e:1<H
   ·rw[if_pos e,if_pos ab];rfl
   ·rw[if_neg e,if_neg ab]
  ·show(if 1<W then(H:Int)+1 else 0)= _
   by_cases e:1<W
   ·rw[if_pos e,if_pos ab]
   ·rw[if_neg e,if_neg ab]
 have sc:∀k:Int,1<=k->k<H->bp (aW s.ar (0+k)) 0=(if k+1<H then 1+(k+1)else 0)/\bp (aW s.ar (0+k)) 1=1/\bp (aW s.ar (0+k)) 2=1+k/\bp (aW s.ar (0+k)) 3=0:=fun k h1 h2=>by
  obtain⟨i,rfl⟩:∃i:Nat,k=(i:Int):=⟨k.toNat,ab⟩
  have h:=sd i ab
  unfold pr at h
  rw[if_neg ab,if_pos ab]at h
  rw[Int.zero_add]
  refine⟨(h 0).trans ?_,h 1,(h 2).trans ?_,h 3⟩
  ·show(if i+1<H then(i:Int)+2 else 0)= _
   by_cases e:i+1<H
   ·rw[if_pos e,if_pos ab];omega
   ·rw[if_neg e,if_neg ab]
  ·show(i:Int)+1= _
   omega
 have sr:∀k:Int,1<=k->k<W->bp (aW s.ar ((H:Int)-1+k)) 0=1/\bp (aW s.ar ((H:Int)-1+k)) 1=(if k+1<W then(H:Int)+(k+1)else 0)/\bp (aW s.ar ((H:Int)-1+k)) 2=0/\bp (aW s.ar ((H:Int)-1+k)) 3=H+k:=fun k h1 h2=>by
  obtain⟨i,hi⟩:∃i:Nat,(H:Int)-1+k=(i:Int):=⟨((H:Int)-1+k).toNat,ab⟩
  rw[hi]
  have h:=sd i ab
  unfold pr at h
  rw[if_neg ab,if_neg ab,if_pos ab]at h
  refine⟨h 0,(h 1).trans ?_,h 2,(h 3).trans ?_⟩
  ·show(if i+2<W+H then(i:Int)+2 else 0)= _
   by_cases e:i+2<W+H
   ·rw[if_pos e,if_pos ab];omega
   ·rw[if_neg e,if_neg ab]
  ·show(i:Int)+1= _
   omega
 have sf:bp (aW s.ar ((W:Int)+H-1)) 0=1/\bp (aW s.ar ((W:Int)+H-1)) 1=1/\bp (aW s.ar ((W:Int)+H-1)) 2=1/\bp (aW s.ar ((W:Int)+H-1)) 3=1:=by
  obtain⟨i,hi⟩:∃i:Nat,(W:Int)+H-1=(i:Int):=⟨((W:Int)+H-1).toNat,ab⟩
  rw[hi]
  have h:=sd i ab
  unfold pr at h
  rw[if_neg ab,if_neg ab,if_neg ab]at h
  exact⟨h 0,h 1,h 2,h 3⟩
 refine⟨X.pz,X.nI,ab,ab,ab,ab,fun j k _ _ _ _=>ab,ab,ab,ab,?_,fun k _ _=>?_,fun k _ _=>?_,fun t ht=>?_,s0,fun k h1 h2=>⟨(tb _).2 ab,sc k h1 h2⟩,fun k h1 h2=>⟨(tb _).2 ab,sr k h1 h2⟩,(tb _).2 ab,sf⟩
 ·rw[st 1 ab ab,if_pos rfl]
 ·rw[st _ ab ab,if_neg ab]
 ·rw[st _ ab ab,if_neg ab]
 ·have ht:=(tb t).1 ht
  by_cases e0:t=0
  ·subst e0;exact .inl ⟨rfl,s0⟩
  ·by_cases e1:t<H
   ·have h:=sc t ab e1
    rw[Int.zero_add]at h
    exact .inr (.inl ⟨t,ab,e1,ab,h⟩)
   ·by_cases e2:t+1<(W:Int)+H
    ·have h:=sr (t-H+1) ab ab
     rw[show(H:Int)-1+(t-H+1)=t by omega]at h
     exact .inr (.inr (.inl ⟨t-H+1,ab,ab,ab,h⟩))
    ·have e3:t=(W:Int)+H-1:=ab
     subst e3
     exact .inr (.inr (.inr ⟨rfl,sf⟩))
def gY (n:Nat):ByteArray:=⟨(if n<10 then[UInt8.ofNat (48+n)]else[UInt8.ofNat (48+n / 10),UInt8.ofNat (48+n % 10)]).toArray⟩
theorem yk {n:Nat} (h:n<10):gY n=⟨#[UInt8.ofNat (48+n)]⟩:=by rw[gY,if_pos h]
theorem iQ {n:Nat} (h:n<10):(gY n).size=1:=by rw[yk h];rfl
theorem I7 (n:Nat):(gY n).size<=2:=by
 unfold gY
 split<;>simp[ByteArray.size]
def Fe (s:ByteArray) (i:Nat):Nat:=((s[i]?).map UInt8.toNat).getD 0
theorem Gr {s:ByteArray} {i:Nat} (h:i<s.size):s[i]? =some s[i]:=by
 rw[getElem?_pos s i h]
theorem I3 {s:ByteArray} {i:Nat} (h:i<s.size):Fe s i=s[i].toNat:=by
 rw[Fe,Gr h];rfl
theorem BG {s:ax} (hP:kU s) {es:List aa} (h:gC s es):s.dI.ah.length+es.length<=500∨es.length=0:=by
 rcases Nat.eq_zero_or_pos es.length with h0|h0
 ·exact .inr h0
 ·left
  have h1:=h (es.length-1) ab
  unfold iW at h1
  rw[Bool.and_eq_true,decide_eq_true_eq,oF s es _ ab]at h1
  omega
theorem yv {s:ax} (hP:kU s) {sch:List Int}:∀(f:Nat) (es zR:List aa),501<=es.length+f->gC s es->mF s sch 501 f es=some zR->iG s (ek s zR zR.length)=[]
 |0,es,zR,hf,hG,h=>by
  have:=BG hP hG
  have:=hP.some
  omega
 |f+1,es,zR,hf,hG,h=>by
  rw[mF]at h
  split at h
  ·rename_i h0
   cases h
   exact List.eq_nil_of_length_eq_zero h0
  ·rename_i h0
   split at h
   ·rename_i h1
    have:=BG hP hG
    have:=hP.some
    omega
   ·split at h
    ·cases h
    ·rename_i h2
     refine yv hP f _ zR (by rw[List.length_append,List.length_singleton];omega) (hG.add (gP (pn ab)) ab) h
theorem yy {s:ax} {sch:List Int} (hB:∀ds,gC s ds->iG s (ek s ds ds.length)≠[]->(ek s ds ds.length).length<500):∀(f:Nat) (es:List aa),gC s es->∃zR,mF s sch 501 f es=some zR
 |0,es,hG=>⟨es,by rw[mF]⟩
 |f+1,es,hG=>by
  rw[mF]
  split
  ·exact⟨_,rfl⟩
  ·rename_i h0
   split
   ·exact⟨_,rfl⟩
   ·have hb:=hB es hG fun h=>h0 (by rw[h];rfl)
    rw[if_neg ab]
    exact yy hB f _ (hG.add (gP (pn ab)) ab)
end Go.Proofs.YtakkdjfmiffbfaaGreatDoor.V

namespace Go.Proofs.YtakkdjfmiffbfaaGreatDoor.V
open Go.RowKit
attribute [local irreducible] dL wpOps ez Call
attribute [local go_sem] ay ew dZ eE eC cY upd bJ K.av bZ AV.cells AV.cell rowOf rowsOf part ld rowAt eO bH bI cX dj eQ bq cF dx eA ed cQ dq cD cC dc de bu aE cm bt cr cq dn dr dp ck bz cE dm br aw cw bQ eP aZ bW bx aD cR aQ cZ AV.undef bd bj dh di c6 da bV dw dz bP du dt cu cz List.getD_cons_zero List.getD_cons_succ List.getD_nil List.all_cons List.all_nil Bool.and_true Bool.true_and Bool.and_self Bool.not_true Bool.not_false Option.map_some Option.map_none Option.bind_some Option.bind_none List.length_cons List.length_nil List.take_succ_cons List.take_zero List.take_nil List.drop_succ_cons List.drop_zero List.drop_nil List.head?_cons List.map_cons List.map_nil List.getElem?_cons_zero List.getElem?_cons_succ List.cons_append List.nil_append List.append_nil List.length_map List.set_cons_zero List.set_cons_succ Nat.reduceMul eq_self Int.toNat_natCast Int.natCast_nonneg and_self true_and and_true decide_true decide_false Bool.false_eq_true Nat.zero_add Nat.add_zero List.contains_cons List.contains_nil Bool.or_false Bool.false_or beq_self_eq_true Nat.reduceBEq ne_eq not_true_eq_false not_false_eq_true Id.mk.injEq false_and and_false Nat.reduceLT Int.reduceLE Int.reduceLT Int.reduceToNat Int.reduceNeg Int.reduceAdd Nat.le_refl List.length_append beq_true beq_false Bool.not_eq_eq_eq_not or_false false_or dW ad ae aL aI bf bR az bc aA aJ cj bh
theorem Handed.nil {g:Rows}:Handed [] g:=fun x hx=>by cases hx
section
variable {P:Program} {α:Type} {e:α->List AV} {z:Nat} {g g':Rows} {v:AV} {L:List α} {ids:List Id}
end
theorem Sv {g:Rows} {u v u' v':AV} (h0:V.fz g 6 u=some u') (h1:V.fz g 6 v=some v'):er g 6 [u,v]=some [u',v']:=by simp only[ad,ae,h0,h1,Option.map_some]
theorem V5 (x:aa):(ai x).all AV.clean=true:=rfl
theorem L4 (s:aH) (p:aa):dP s [p]=[]:=by
 have h:∀d:Int,je d 0 3=true->lu s [p] 0 d=[]:=fun d hd=>by
  unfold lu
  rw[if_neg]
  intro⟨h,_⟩
  obtain⟨h1,h2⟩:=jL h
  have h3:(eF [p] (cN (cP [p] 0).cG d)).toNat=0:=by simpa using h1
  rw[h3]at h2
  have hd2:=eH hd
  have e1:=congrArg af.fu h2
  have e2:=congrArg af.eZ h2
  have:d=0∨d=1∨d=2∨d=3:=ab
  rcases this with rfl|rfl|rfl|rfl<;>simp[cN]at e1 e2<;>omega
 show(List.range 1).flatMap (fun i=>ik s [p] i 2)=[]
 have e:ik s [p] 0 2=[]:=by
  rw[lr,lr,h _ rfl,h _ rfl];rfl
 simp[List.range_succ,e]
theorem CJ (p:aa) (s:aH) (t:Int):mu [p].length (dP s [p]) t:=by
 rw[L4]
 have h1:=lR 1 (fI (cH t []))
 exact⟨Nat.le_trans h1 (by decide),G3 (Nat.lt_of_le_of_lt h1 (by decide))⟩
end Go.Proofs.YtakkdjfmiffbfaaGreatDoor.V

namespace Go.Proofs.YtakkdjfmiffbfaaGreatDoor.V
open Go.RowKit
theorem Kg {a b c d x:Int} (h:x∈[a,b,c,d]):x=a∨x=b∨x=c∨x=d:=by simpa using h
theorem lh {n lo hi:Int} (h1:lo<=n) (h2:n<=hi):je n lo hi=true:=by simp[je,h1,h2]
theorem oN {s:aH} {i:Nat} (h:i<s.ah.length):nn (fE s) i=rP (nn s i):=by
 unfold nn fE
 (try dsimp only)
 rw[List.getD_eq_getElem?_getD,List.getD_eq_getElem?_getD,List.getElem?_map,List.getElem?_eq_getElem h]
 rfl
theorem Le {l:List Int} (h4:l.length=4):(xk l).length=4/\∀g∈xk l,g∈l:=by
 refine⟨rfl,fun g hg=>?_⟩
 have k:∀i,i<4->l.getD i 0∈l:=fun i hi=>by
  rw[List.getD_eq_getElem?_getD,List.getElem?_eq_getElem ab]
  exact List.getElem_mem _
 rcases Kg hg with rfl|rfl|rfl|rfl
 ·exact k 1 ab
 ·exact k 0 ab
 ·exact k 3 ab
 ·exact k 2 ab
theorem gj.CR {s:aH} (h:gj s):gj (fE s):=by
 have hl:(fE s).ah.length=s.ah.length:=by unfold fE;simp
 refine⟨h.ou,by rw[hl];exact h.some,by rw[hl];exact h.rO,h.Sx,fun i hi=>?_⟩
 rw[hl]at hi
 obtain⟨h1,h2,h3,h4⟩:=h.tok i hi
 obtain⟨h5,h6⟩:=Le h2
 refine⟨by rw[oN hi];exact h1,by rw[oN hi];exact h5,fun j hj=>by rw[oN hi,oN ab];exact h3 j hj,fun g hg=>?_⟩
 rw[oN hi]at hg
 exact h4 g (h6 g hg)
theorem CE {s:aH} (h:gj s):ju s [⟨⟨0,0⟩,0⟩]:=by
 have h1:=h.some
 refine⟨⟨by decide,fun i hi=>?_⟩,fun t ht=>?_⟩
 ·have:i=0:=by simpa using hi
  subst this
  exact⟨rfl,rfl,fun h=>absurd h ab⟩
 ·rw[List.mem_singleton.1 ht]
  unfold ef
  exact lh (Int.le_refl _) bL
def pX (L:List eS) (nm:ByteArray):Int:=kj (fun g:eS=>decide (g.dG=nm)) L+1
def RT (T:List dR) (nm:ByteArray):Int:=kj (fun t:dR=>decide (t.dG=nm)) T
theorem GA {k:Nat} (h:k<10):kY (k:Int)=gY k:=by
 rw[yk h]
 have:k=0∨k=1∨k=2∨k=3∨k=4∨k=5∨k=6∨k=7∨k=8∨k=9:=ab
 rcases this with rfl|rfl|rfl|rfl|rfl|rfl|rfl|rfl|rfl|rfl<;>simp[kY,sa]
def ft:ByteArray:=⟨#[102,105,108,108]⟩
def rj:ByteArray:=⟨#[99,111,114,110,101,114]⟩
def rm:ByteArray:=⟨#[102,105,108,108,101,114]⟩
def lD (c:UInt8) (k:Nat):ByteArray:=⟨#[c]⟩++gY k
def jj (h w:Nat):List eS:=⟨ft,1⟩::(((List.range h).map fun k=>⟨lD 119 (k+1),2⟩)++((List.range w).map fun k=>⟨lD 101 (k+1),2⟩))
theorem ir (h w:Nat):(jj h w).length=h+w+1:=by simp[jj]
theorem Jo (h:Nat):jj (h+1) 0=jj h 0++[⟨lD 119 (h+1),2⟩]:=by simp[jj,List.range_succ]
theorem Jp (h w:Nat):jj h (w+1)=jj h w++[⟨lD 101 (w+1),2⟩]:=by simp[jj,List.range_succ]
def GK (W H i:Nat):ByteArray:=if i=0 then rj else if i<H then lD 119 i else if i+1<W+H then lD 101 (i-(H-1))else rm
def jk (W H n:Nat):List dR:=(List.range n).map fun i=>⟨GK W H i,pr W H i⟩
theorem il (W H n:Nat):(jk W H n).length=n:=by simp[jk]
theorem sg (W H n:Nat):jk W H (n+1)=jk W H n++[⟨GK W H n,pr W H n⟩]:=by simp[jk,List.range_succ]
def pV (W H:Nat):ax:=⟨⟨jj (H-1) (W-1),jk W H (W+H)⟩,⟨[⟨⟨0,0⟩,0⟩]⟩,2⟩
def FP (nm:ByteArray):Bool:=decide (1<=nm.size)&&decide (nm.size<=12)&&(List.range nm.size).all fun i=>lS (Fe nm i:Int)||(decide (0<i)&&lP (Fe nm i:Int))
theorem FQ {nm:ByteArray} (h:FP nm=true):kC nm=true:=by
 unfold FP at h
 simp only[Bool.and_eq_true,decide_eq_true_eq,List.all_eq_true,List.mem_range,Bool.or_eq_true]at h
 refine sG.2 ⟨⟨h.1.1,h.1.2⟩,fun i hi=>?_⟩
 have:=h.2 i hi
 rw[I3 hi]at this
 rcases this with h1|⟨h0,h1⟩
 ·exact .inl h1
 ·exact .inr ⟨h0,.inl h1⟩
theorem PN:∀h,h<7->pX (jj h 0) (lD 119 (h+1))=0/\lD 119 (h+1)≠⟨#[45]⟩:=by decide+kernel
theorem PJ:∀h,h<7->∀w,w<7->pX (jj h w) (lD 101 (w+1))=0/\lD 101 (w+1)≠⟨#[45]⟩:=by decide+kernel
theorem K8:∀W,W<8->∀H,H<8->1<=W->1<=H->∀n,n<W+H->RT (jk W H n) (GK W H n)= -1:=by decide+kernel
theorem Mp:∀W,W<8->∀H,H<8->∀i,i<(jj (H-1) (W-1)).length->(FP (tj (pV W H).ar i).dG=true/\je (tj (pV W H).ar i).gH 1 4=true/\∀j,j<i->(tj (pV W H).ar j).dG≠(tj (pV W H).ar i).dG):=by decide+kernel
def Up (W H i:Nat):Bool:=FP (nn (pV W H).ar i).dG&&decide ((nn (pV W H).ar i).dM.length=4)&&((List.range i).all fun j=> !decide ((nn (pV W H).ar j).dG=(nn (pV W H).ar i).dG))&&((nn (pV W H).ar i).dM.all fun g=>je g 0 (jj (H-1) (W-1)).length)
theorem NH:∀W,W<8->∀H,H<8->1<=W->1<=H->∀i,i<W+H->Up W H i=true:=by decide+kernel
theorem Fv {W H:Nat} (hW:W<8) (hH:H<8) (w1:1<=W) (h1:1<=H):gj (pV W H).ar:=by
 have hg:(pV W H).ar.bU.length=(jj (H-1) (W-1)).length:=rfl
 have ht:(pV W H).ar.ah.length=W+H:=il W H (W+H)
 have Vb:=ir (H-1) (W-1)
 refine⟨ab,ab,ab,fun i hi=>?_,fun i hi=>?_⟩
 ·obtain⟨a,b,c⟩:=Mp W hW H hH i ab
  exact⟨FQ a,b,c⟩
 ·have h:=NH W hW H hH w1 h1 i ab
  unfold Up at h
  simp only[Bool.and_eq_true,decide_eq_true_eq]at h
  obtain⟨⟨⟨a,b⟩,c⟩,d⟩:=h
  refine⟨FQ a,b,fun j hj=>?_,fun g hg=>List.all_eq_true.1 d g hg⟩
  have:=List.all_eq_true.1 c j (List.mem_range.2 hj)
  simpa using this
theorem Sq {W H:Nat} (w1:1<=W) (h1:1<=H):OZ (pV W H) W H where
 pz:=rfl
 nI:=rfl
 w1:=w1
 h1:=h1
 ou:=by show(jj (H-1) (W-1)).length= _;rw[ir];omega
 str:=fun i hi=>by
  have:mE (pV W H).ar (i:Int)=(jj (H-1) (W-1)).getD i ⟨⟨#[]⟩,0⟩:=by unfold mE;rw[Int.toNat_natCast];rfl
  rw[this]
  cases i with
  |zero=>rfl
  |succ j=>
   rw[if_neg ab]
   unfold jj
   rw[List.getD_cons_succ,List.getD_eq_getElem?_getD]
   by_cases e:j<H-1
   ·rw[List.getElem?_append_left (by simpa using e),List.getElem?_map,List.getElem?_range e];rfl
   ·rw[List.getElem?_append_right (by simp;omega),List.getElem?_map,List.length_map,List.length_range,List.getElem?_range ab];rfl
 len:=il W H (W+H)
 side:=fun i hi=>by
  have:aW (pV W H).ar (i:Int)=(jk W H (W+H)).getD i qg:=by unfold aW;rw[Int.toNat_natCast];rfl
  rw[this,jk,List.getD_eq_getElem?_getD,List.getElem?_map,List.getElem?_range hi]
  rfl
theorem Mn {W H:Nat} (hW:W<8) (hH:H<8) (w1:1<=W) (h1:1<=H):kU (pV W H):=by
 have hS:=Fv hW hH w1 h1
 refine⟨hS,CE hS,Nat.le_refl _,rfl,CJ _ _ _⟩
def PH (W H:Nat):ax:=⟨fE (pV W H).ar,(pV W H).dI,2⟩
theorem Mo {W H:Nat} (hW:W<8) (hH:H<8) (w1:1<=W) (h1:1<=H):kU (PH W H):=by
 have hS:=(Fv hW hH w1 h1).CR
 refine⟨hS,CE hS,Nat.le_refl _,rfl,CJ _ _ _⟩
theorem Od {W H:Nat} (w1:1<=W) (h1:1<=H):jf (pV W H) W H 1 H 0 ((H:Int)-1) ((W:Int)+H-1):=(Sq w1 h1).sys
theorem Sr {W H:Nat} (w1:1<=W) (h1:1<=H):jf (PH W H) H W H 1 ((H:Int)-1) 0 ((W:Int)+H-1):=
 (Od w1 h1).swap (s':=PH W H) rfl rfl (fun t=>EO _ t) (fun g=>HS _ g) (fun t _=>CG _ t) (by
  unfold ef
  have:(pV W H).ar.ah.length=W+H:=il W H (W+H)
  exact lh (Int.le_refl _) ab)
theorem td {s:ax} (hP:kU s) {W H:Nat} {u v c r f:Int} (X:jf s W H u v c r f) (hW:W<8) (hH:H<8) (sch:List Int):∃es,qP s sch 501=some es/\ek s es es.length=zU W H c r f:=by
 have hm:W*H<=7*7:=Nat.mul_le_mul ab ab
 obtain⟨es,he⟩:=yy (s:=s) (sch:=sch) (fun ds hD _=>by have:=X.CX hP hD (Nat.le_refl _);omega) 501 [] (gC.nil s)
 have hg:qP s sch 501=some es:=he
 exact⟨es,hg,X.list hP ab ab (sj hg).1 (yv hP 501 [] es (by simp) (gC.nil s) he)⟩
end Go.Proofs.YtakkdjfmiffbfaaGreatDoor.V

namespace Go.Proofs.YtakkdjfmiffbfaaGreatDoor.V
open Go.RowKit
attribute [local irreducible] dL wpOps ez Call
attribute [local go_sem] ay ew dZ eE eC cY upd bJ K.av bZ AV.cells AV.cell rowOf rowsOf part ld rowAt eO bH bI cX dj eQ bq cF dx eA ed cQ dq cD cC dc de bu aE cm bt cr cq dn dr dp ck bz cE dm br aw cw bQ eP aZ bW bx aD cR aQ cZ AV.undef bd bj dh di c6 da bV dw dz bP du dt cu cz List.getD_cons_zero List.getD_cons_succ List.getD_nil List.all_cons List.all_nil Bool.and_true Bool.true_and Bool.and_self Bool.not_true Bool.not_false Option.map_some Option.map_none Option.bind_some Option.bind_none List.length_cons List.length_nil List.take_succ_cons List.take_zero List.take_nil List.drop_succ_cons List.drop_zero List.drop_nil List.head?_cons List.map_cons List.map_nil List.getElem?_cons_zero List.getElem?_cons_succ List.cons_append List.nil_append List.append_nil List.length_map List.set_cons_zero List.set_cons_succ Nat.reduceMul eq_self Int.toNat_natCast Int.natCast_nonneg and_self true_and and_true decide_true decide_false Bool.false_eq_true Nat.zero_add Nat.add_zero List.contains_cons List.contains_nil Bool.or_false Bool.false_or beq_self_eq_true Nat.reduceBEq ne_eq not_true_eq_false not_false_eq_true Id.mk.injEq false_and and_false Nat.reduceLT Int.reduceLE Int.reduceLT Int.reduceToNat Int.reduceNeg Int.reduceAdd Nat.le_refl List.length_append beq_true beq_false Bool.not_eq_eq_eq_not or_false false_or dW ad ae aL aI bf bR az bc aA aJ cj bh
abbrev Ke:MK:=⟨false,[.tS]⟩
structure NE where
 k:ByteArray
 v:Int
def H9 (e:NE):List AV:=[.str e.k,.int .i64 e.v]
def Cm (E:List NE) (nm:ByteArray):Nat:=E.findIdx fun e=>decide (nm=e.k)
def xU (E:List NE) (nm:ByteArray):Int:=if Cm E nm<E.length then(E.getD (Cm E nm) ⟨⟨#[]⟩,0⟩).v else 0
theorem Cj (nm:ByteArray):∀(E:List NE) (i:Nat),fB Ke [.str nm] (E.map H9) i=some (if Cm E nm<E.length then some (i+Cm E nm)else none)
 |[],i=>by simp[fB,Cm]
 |e::E,i=>by
  have h1:ed Ke.ts [.str nm] ((H9 e).take Ke.ks)=some (decide (nm=e.k)):=by simp[MK.ks,H9,ed,eA]
  have ih:=Cj nm E (i+1)
  rw[List.map_cons]
  unfold fB
  rw[h1]
  by_cases h:nm=e.k
  ·rw[decide_eq_true h]
   have h0:Cm (e::E) nm=0:=by simp[Cm,List.findIdx_cons,h]
   simp[h0]
  ·rw[decide_eq_false h]
   have h0:Cm (e::E) nm=Cm E nm+1:=by simp[Cm,List.findIdx_cons,h]
   simp only[ih,h0,List.length_cons,Nat.add_lt_add_iff_right]
   congr 1
   split<;>simp;omega
theorem yY (E:List NE) (nm:ByteArray):fb Ke (.str nm) (E.map H9)=some (if Cm E nm<E.length then some (Cm E nm)else none):=by
 have h:=Cj nm E 0
 unfold fb
 rw[if_pos ⟨rfl,rfl,rfl⟩]
 show fB Ke [.str nm] _ 0= _
 rw[h]
 split<;>simp
theorem yZ {E:List NE} {nm:ByteArray} (h:¬Cm E nm<E.length):fb Ke (.str nm) (E.map H9)=some none:=by rw[yY,if_neg h]
theorem QN (E:List NE) (nm:ByteArray):(∃(i:Nat) (y:ByteArray),fb Ke (.str nm) (E.map H9)=some (some i)/\(E.map H9)[i]? =some [.str y,.int .i64 (xU E nm)])∨(fb Ke (.str nm) (E.map H9)=some none/\xU E nm=0):=by
 rw[yY]
 unfold xU
 by_cases h:Cm E nm<E.length
 ·rw[if_pos h,if_pos h]
  exact .inl ⟨_,_,rfl,getD_map H9 h⟩
 ·rw[if_neg h,if_neg h]
  exact .inr ⟨rfl,rfl⟩
def GX (z n0:Nat) (g:Rows) (n:Nat) (v:AV) (L:List eS):Prop:=(L=[]/\v=.bB)∨∃o:Id,v=.own o 0 L.length/\0<L.length/\g o=some ⟨true,2,L.map ea⟩/\o.site=z/\n0<=o.cW/\o.cW<n
theorem GX.frame {z n0:Nat} {g g':Rows} {n n':Nat} {v:AV} {L:List eS} (h:GX z n0 g n v L) (hn:n<=n') (hf:∀i:Id,i.site=z->n0<=i.cW->i.cW<n->g' i=g i):GX z n0 g' n' v L:=by
 rcases h with h|⟨o,h1,h2,h3,h4,h5,h6⟩
 ·exact .inl h
 ·exact .inr ⟨o,h1,h2,(hf o h4 h5 h6).trans h3,h4,h5,ab⟩
theorem GX.cell {z n0:Nat} {g:Rows} {n:Nat} {v:AV} {L:List eS} (h:GX z n0 g n v L):v.cells=[v]/\v.cell=true:=by
 rcases h with⟨_,rfl⟩|⟨o,rfl,_⟩<;>exact⟨rfl,rfl⟩
def TV (zt ze n0:Nat) (g:Rows) (n:Nat) (v:AV) (T:List dR):Prop:=(T=[]/\v=.bB)∨∃(o:Id) (rows:List (List AV)),v=.own o 0 T.length/\0<T.length/\g o=some ⟨true,2,rows⟩/\TX (fun s=>s=ze) n0 g n rows T/\o.site=zt/\n0<=o.cW/\o.cW<n
theorem TV.frame {zt ze n0:Nat} {g g':Rows} {n n':Nat} {v:AV} {T:List dR} (h:TV zt ze n0 g n v T) (hn:n<=n') (hf:∀i:Id,(i.site=zt∨i.site=ze)->n0<=i.cW->i.cW<n->g' i=g i):TV zt ze n0 g' n' v T:=by
 rcases h with h|⟨o,rows,h1,h2,h3,h4,h5,h6,h7⟩
 ·exact .inl h
 ·exact .inr ⟨o,rows,h1,h2,(hf o (.inl h5) h6 h7).trans h3,h4.frame hn fun i a b c=>hf i (.inr a) b c,h5,h6,ab⟩
theorem TV.cell {zt ze n0:Nat} {g:Rows} {n:Nat} {v:AV} {T:List dR} (h:TV zt ze n0 g n v T):v.cells=[v]/\v.cell=true:=by
 rcases h with⟨_,rfl⟩|⟨o,_,rfl,_⟩<;>exact⟨rfl,rfl⟩
def Ps (a:ByteArray):List AV:=[.str a]
structure uK (n0:Nat) (g:Rows) (n:Nat) (B M:Id) (E:List NE) (L:List eS) (T:List dR):Prop where
 row:∃vg vt,g B=some ⟨true,3,[[vg,vt,.map M Ke]]⟩/\GX 23000010 n0 g n vg L/\TV 25007008 25005009 n0 g n vt T
 map:g M=some ⟨true,Ke.j5,E.map H9⟩
 bs:B.site=22001004
 ms:M.site=22001000
 b0:n0<=B.cW
 b1:B.cW<n
 m0:n0<=M.cW
 m1:M.cW<n
theorem uK.frame {n0:Nat} {g g':Rows} {n n':Nat} {B M:Id} {E:List NE} {L:List eS} {T:List dR} (h:uK n0 g n B M E L T) (hn:n<=n') (hf:∀i:Id,i.cW<n->g' i=g i):uK n0 g' n' B M E L T:=by
 obtain⟨vg,vt,h1,h2,h3⟩:=h.row
 exact⟨⟨vg,vt,(hf B h.b1).trans h1,h2.frame hn fun i _ _ h=>hf i h,h3.frame hn fun i _ _ h=>hf i h⟩,(hf M h.m1).trans h.map,h.bs,h.ms,h.b0,by have:=h.b1;omega,h.m0,by have:=h.m1;omega⟩
section
set_option maxRecDepth 100000
set_option maxHeartbeats 8000000
theorem Ef (σ:aq):Call Tryz.prog 22 [] σ (fun r σ'=>∃B M:Id,r=.ptr B 0 0/\uK σ.next σ'.get σ'.next B M [⟨⟨#[45]⟩,0⟩] [] []/\σ.next<=σ'.next/\∀x:Id,x.cW<σ.next->σ'.get x=σ.get x):=by
 refine eU fH rfl fun fR=>?_
 clear fR
 have hp:fb Ke (.str ⟨#[45]⟩) []=some none:=by
  have:=yZ (E:=[]) (nm:=⟨#[45]⟩) (by simp)
  simpa using this
 (try((repeat(revert hN;revert N;apply Pn.out));refine wk @hp ?_;(repeat(refine Pn.mk ?_;intro N hN))))
 exact eK (.inl rfl) (vs:=[.ptr ⟨22001004,σ.next+1⟩ 0 0]) (sd @Nat.zero_add) ⟨⟨22001004,σ.next+1⟩,⟨22001000,σ.next+1⟩,rfl,⟨⟨.bB,.bB,sd @Nat.zero_add,.inl ⟨rfl,rfl⟩,.inl ⟨rfl,rfl⟩⟩,sl @Nat.zero_add,rfl,rfl,bL,bL,bL,bL⟩,bL,fun x hx=>by
  have h9:=dE hx
  simp only[go_sem, ↓reduceIte,Nat.reduceEqDiff,Nat.reduceAdd,Nat.reduceSub,Nat.reduceLeDiff,reduceCtorEq,h9]⟩
theorem Ap {n0:Nat} {σ:aq} {B M:Id} {E:List NE} {L:List eS} {T:List dR} (h:uK n0 σ.get σ.next B M E L T) (nm:ByteArray) (st:Int) (hL:L.length<=1000) (iT:¬Cm E nm<E.length):
  Call Tryz.prog 23 [.ptr B 0 0,.str nm,.int .i64 st] σ (fun r σ'=>r=.fK []/\uK n0 σ'.get σ'.next B M (E++[⟨nm,(L.length:Int)+1⟩]) (L++[⟨nm,st⟩]) T/\σ.next<=σ'.next/\∀x:Id,x.cW<n0->σ'.get x=σ.get x):=by
 refine eU fH rfl fun fR=>?_
 clear fR
 obtain⟨⟨vg,vt,hB,hG,hT⟩,hM,bs,ms,b0,b1,m0,m1⟩:=h
 have vB:=dE b1
 have vM:=dE m1
 have BM:=qu bs ms (by decide)
 have hp:=yZ iT
 have tc:=hT.cell
 have fw:(L.map ea).length=L.length:=by simp
 have qS:L.length<=16777215:=ab
 have hEm:(E++[(⟨nm,(L.length:Int)+1⟩:NE)]).map H9=E.map H9++[[.str nm,.int .i64 ((L.length:Int)+1)]]:=by rw[List.map_append];rfl
 have Wr:(L++[(⟨nm,st⟩:eS)]).map ea=L.map ea++[[.str nm,.int .i64 st]]:=by rw[List.map_append];rfl
 have Oh:(L++[(⟨nm,st⟩:eS)]).length=L.length+1:=by simp
 obtain⟨C3,C4⟩:=tc
 unfold AV.cells at C3
 unfold AV.cell at C4
 rcases hG with⟨rfl,rfl⟩|⟨og,rfl,PZ,go,zo,o0,o1⟩
 ·(try((repeat(revert hN;revert N;apply Pn.out));refine wk (tw @hB (tw @hM (tw @vB (tw @vM (tw @BM (tw @hp (tw @C3 @C4))))))) ?_;(repeat(refine Pn.mk ?_;intro N hN))))
  exact eK (.inr rfl) (vs:=[]) rfl ⟨rfl,⟨⟨.own ⟨23000010,σ.next⟩ 0 1,vt,sd (tw @vB (tw @BM (tw @C3 @C4))),.inr ⟨⟨23000010,σ.next⟩,rfl,by simp,sl (tw @vB @vM),rfl,bL,bL⟩,hT.frame bL fun i hs GY tU=>by
    have h9:=dE tU
    have iB:(i=B)=False:=eq_false fun e=>by subst e;rcases hs with hs|hs<;>rw[bs]at hs<;>revert hs<;>decide
    have iM:(i=M)=False:=eq_false fun e=>by subst e;rcases hs with hs|hs<;>rw[ms]at hs<;>revert hs<;>decide
    simp only[go_sem, ↓reduceIte,Nat.reduceEqDiff,Nat.reduceAdd,Nat.reduceSub,Nat.reduceLeDiff,reduceCtorEq,h9,iB,iM]⟩,by rw[hEm];simp only[go_sem, ↓reduceIte,Nat.reduceEqDiff,Nat.reduceAdd,Nat.reduceSub,Nat.reduceLeDiff,reduceCtorEq,vM,BM]<;>rfl,bs,ms,b0,bL,m0,bL⟩,bL,fun x hx=>by
   have h9:=dE (i:=x) (n:=σ.next) ab
   have xB:=(dD (a:=x) (b:=B) ab).1
   have xM:=(dD (a:=x) (b:=M) ab).1
   simp only[go_sem, ↓reduceIte,Nat.reduceEqDiff,Nat.reduceAdd,Nat.reduceSub,Nat.reduceLeDiff,reduceCtorEq,h9,xB,xM]⟩
 ·have vo:=dE o1
  have oB:=qu zo bs (by decide)
  have oM:=qu zo ms (by decide)
  (try((repeat(revert hN;revert N;apply Pn.out));refine wk (tw @hB (tw @hM (tw @go (tw @vB (tw @vM (tw @vo (tw @BM (tw @oB (tw @oM (tw @hp (tw @C3 (tw @C4 (tw @fw @qS))))))))))))) ?_;(repeat(refine Pn.mk ?_;intro N hN))))
  exact eK (.inr rfl) (vs:=[]) rfl ⟨rfl,⟨⟨.own ⟨23000010,σ.next⟩ 0 (L.length+1),vt,sd (tw @vB (tw @BM (tw @oB (tw @C3 @C4)))),.inr ⟨⟨23000010,σ.next⟩,by rw[Oh],by simp,by rw[Wr];simp only[go_sem, ↓reduceIte,Nat.reduceEqDiff,Nat.reduceAdd,Nat.reduceSub,Nat.reduceLeDiff,reduceCtorEq,vB,vM,vo]<;>rfl,rfl,bL,bL⟩,hT.frame bL fun i hs GY tU=>by
    have h9:=dE tU
    have iB:(i=B)=False:=eq_false fun e=>by subst e;rcases hs with hs|hs<;>rw[bs]at hs<;>revert hs<;>decide
    have iM:(i=M)=False:=eq_false fun e=>by subst e;rcases hs with hs|hs<;>rw[ms]at hs<;>revert hs<;>decide
    have io:(i=og)=False:=eq_false fun e=>by subst e;rcases hs with hs|hs<;>rw[zo]at hs<;>revert hs<;>decide
    simp only[go_sem, ↓reduceIte,Nat.reduceEqDiff,Nat.reduceAdd,Nat.reduceSub,Nat.reduceLeDiff,reduceCtorEq,h9,iB,iM,io]⟩,by rw[hEm];simp only[go_sem, ↓reduceIte,Nat.reduceEqDiff,Nat.reduceAdd,Nat.reduceSub,Nat.reduceLeDiff,reduceCtorEq,vM,BM,oM]<;>rfl,bs,ms,b0,bL,m0,bL⟩,bL,fun x hx=>by
   have h9:=dE (i:=x) (n:=σ.next) ab
   have xB:=(dD (a:=x) (b:=B) ab).1
   have xM:=(dD (a:=x) (b:=M) ab).1
   have xo:=(dD (a:=x) (b:=og) ab).1
   simp only[go_sem, ↓reduceIte,Nat.reduceEqDiff,Nat.reduceAdd,Nat.reduceSub,Nat.reduceLeDiff,reduceCtorEq,h9,xB,xM,xo]⟩
end
theorem HV {α β:Type} (f:α->β) {l:List α} {k:Nat} (h:k<l.length):((l.take (k+1)).map f)=(l.take k).map f++[f l[k]]:=by
 rw[List.take_succ_eq_append_getElem h,List.map_append];rfl
section
set_option maxRecDepth 100000
set_option maxHeartbeats 8000000
theorem uy {n0:Nat} {σ:aq} {B M:Id} {E:List NE} {L:List eS} {T:List dR} (h:uK n0 σ.get σ.next B M E L T) (nm:ByteArray) (qt:nm.size<=64/\1<=nm.size) (hT:T.length<=1000) (ns:List ByteArray) (hns:ns.length=4) {u:Id} (hu:∃b,σ.get u=some ⟨b,1,ns.map Ps⟩) (JX:u.cW<σ.next) (Qz:(u.site==25007008)=false):
  Call Tryz.prog 25 [.ptr B 0 0,.str nm,.own u 0 4] σ (fun r σ'=>r=.int .i64 (T.length:Int)/\uK n0 σ'.get σ'.next B M E L (T++[⟨nm,ns.map (xU E)⟩])/\σ.next<=σ'.next/\∀x:Id,x.cW<n0->σ'.get x=σ.get x):=by
 refine eU fH rfl fun fR=>?_
 clear fR
 obtain⟨⟨vg,vt,hB,hG,hV⟩,hM,bs,ms,b0,b1,m0,m1⟩:=h
 obtain⟨ub,hu⟩:=hu
 have vB:=dE b1
 have vM:=dE m1
 have vu:=dE JX
 have BM:=qu bs ms (by decide)
 have fw:(ns.map Ps).length=4:=by simp[hns]
 (try((repeat(revert hN;revert N;apply Pn.out));refine wk @Nat.zero_add ?_;(repeat(refine Pn.mk ?_;intro N hN))))
 refine cU (fun n env st=>∃k:Nat,n=(4)-k/\k<=(4)/\env 14=.int .i64 (k:Int)/\((∃v,st.get ⟨25001002,σ.next+1⟩=some ⟨true,2,[[.str nm,v]]⟩/\((k=0/\v=.bB)∨∃e:Id,v=.own e 0 k/\0<k/\st.get e=some ⟨true,1,((ns.take k).map (xU E)).map bE⟩/\e.site=25005009/\σ.next+2<=e.cW/\e.cW<st.next))/\σ.next+2<=st.next/\(∀x:Id,x.cW<σ.next->st.get x=σ.get x))) (4) ⟨0,ab,ab,sl @Nat.zero_add,by(try dsimp only);exact⟨⟨.bB,sl @Nat.zero_add,.inl ⟨rfl,rfl⟩⟩,ab,fun x hx=>(by have h9:=dE hx;simp only[go_sem, ↓reduceIte,Nat.reduceEqDiff,Nat.reduceAdd,Nat.reduceSub,Nat.reduceLeDiff,reduceCtorEq,h9])⟩⟩ ?_
 rintro n_a env_a st_a ⟨k,rfl,ale,uR,qn⟩ eL
 have a0:=eL 0 (by kernel_rfl);have a7:=eL 7 (by kernel_rfl);have a12:=eL 12 (by kernel_rfl);have uf:=eL 13 (by kernel_rfl)
 simp only[go_sem, ↓reduceIte,Nat.reduceEqDiff,Nat.reduceAdd,Nat.reduceSub,Nat.reduceLeDiff,reduceCtorEq]at a0 a7 a12 uf
 clear eL
 obtain⟨⟨v,aX,aV⟩,aN,aF⟩:=qn
 have aB:=(aF B b1).trans hB
 have aM:=(aF M m1).trans hM
 have aU:=(aF u JX).trans hu
 have wB:=dE (i:=B) (n:=st_a.next) ab
 have wM:=dE (i:=M) (n:=st_a.next) ab
 have wu:=dE (i:=u) (n:=st_a.next) ab
 have wX:=dE (i:=⟨25001002,σ.next+1⟩) (n:=st_a.next) bL
 have BX:=(dD (a:=B) (b:=⟨25001002,σ.next+1⟩) bL)
 have MX:=(dD (a:=M) (b:=⟨25001002,σ.next+1⟩) bL)
 have uX:=(dD (a:=u) (b:=⟨25001002,σ.next+1⟩) bL)
 by_cases hk:(k:Int)<((4:Nat):Int)
 ·have eB:∀{e:Env} {gg:Rows} {nx:Nat},(e 14=.int .i64 (IntKind.i64.wrap ((k:Int)+1)))->((∃v,gg ⟨25001002,σ.next+1⟩=some ⟨true,2,[[.str nm,v]]⟩/\(((k+1)=0/\v=.bB)∨∃e:Id,v=.own e 0 (k+1)/\0<(k+1)/\gg e=some ⟨true,1,((ns.take (k+1)).map (xU E)).map bE⟩/\e.site=25005009/\σ.next+2<=e.cW/\e.cW<nx))/\σ.next+2<=nx/\(∀x:Id,x.cW<σ.next->gg x=σ.get x))->∃m0,m0<(4)-k/\∃k:Nat,m0=(4)-k/\k<=(4)/\e 14=.int .i64 (k:Int)/\((∃v,gg ⟨25001002,σ.next+1⟩=some ⟨true,2,[[.str nm,v]]⟩/\((k=0/\v=.bB)∨∃e:Id,v=.own e 0 k/\0<k/\gg e=some ⟨true,1,((ns.take k).map (xU E)).map bE⟩/\e.site=25005009/\σ.next+2<=e.cW/\e.cW<nx))/\σ.next+2<=nx/\(∀x:Id,x.cW<σ.next->gg x=σ.get x)):=fun x1 x2=>⟨_,ab,k+1,rfl,ab,(by rw[x1,cI ab]),x2⟩
  have jB:k<ns.length:=ab
  have gV:(ns.map Ps)[k]? =some [.str ns[k]]:=by rw[List.getElem?_map,List.getElem?_eq_getElem jB];rfl
  have DV:=QN E ns[k]
  have tx:((ns.take (k+1)).map (xU E)).map bE=((ns.take k).map (xU E)).map bE++[[.int .i64 (xU E ns[k])]]:=by rw[HV _ jB,List.map_append];rfl
  have ko:(((ns.take k).map (xU E)).map bE).length=k:=by simp;omega
  have qS:k<=16777215:=ab
  generalize ns[k]=nk at *
  generalize (ns.take k).map (xU E)=sk at *
  obtain⟨y,hy⟩:∃y,xU E nk=y:=⟨_,rfl⟩
  rw[hy]at tx DV
  rcases DV with⟨fi,ny,xL,MA⟩|⟨xL,rfl⟩
  rotate_left 1
  have MA:=xL
  all_goals
   rcases aV with⟨rfl,rfl⟩|⟨e,rfl,k0,ge,se,e0,e1⟩
   ·have G5:sk.map bE=[]:=List.eq_nil_of_length_eq_zero ko
    rw[G5,List.nil_append]at tx
    (try((repeat(revert hN;revert N;apply Pn.out));refine wk (tw @uR (tw @a0 (tw @a7 (tw @a12 (tw @uf (tw @hk (tw @aX (tw @aB (tw @aM (tw @aU (tw @wB (tw @wM (tw @wu (tw @wX (tw @BX (tw @MX (tw @uX (tw @fw (tw @gV (tw @xL @MA)))))))))))))))))))) ?_;(repeat(refine Pn.mk ?_;intro N hN))))
    exact eB (sd (tw @uR (tw @a0 (tw @a7 (tw @a12 @uf))))) (by(try dsimp only);exact⟨⟨.own ⟨25005009,st_a.next+1+1⟩ 0 1,sl @wX,.inr ⟨⟨25005009,st_a.next+1+1⟩,rfl,ab,by rw[tx];simp only[go_sem, ↓reduceIte,Nat.reduceEqDiff,Nat.reduceAdd,Nat.reduceSub,Nat.reduceLeDiff,reduceCtorEq,wX]<;>rfl,rfl,bL,bL⟩⟩,ab,fun x hx=>by
     have h9:=dE (i:=x) (n:=st_a.next) ab
     have h8:=(dD (a:=x) (b:=⟨25001002,σ.next+1⟩) bL).1
     have h7:=aF x hx
     simp only[go_sem, ↓reduceIte,Nat.reduceEqDiff,Nat.reduceAdd,Nat.reduceSub,Nat.reduceLeDiff,reduceCtorEq,h9,h8,h7]⟩)
   ·have we:=dE e1
    have nX:=(dD (a:=⟨25001002,σ.next+1⟩) (b:=e) bL)
    (try((repeat(revert hN;revert N;apply Pn.out));refine wk (tw @uR (tw @a0 (tw @a7 (tw @a12 (tw @uf (tw @hk (tw @aX (tw @aB (tw @aM (tw @aU (tw @wB (tw @wM (tw @wu (tw @wX (tw @BX (tw @MX (tw @uX (tw @fw (tw @gV (tw @xL (tw @MA (tw @ge (tw @we (tw @nX (tw @ko @qS))))))))))))))))))))))))) ?_;(repeat(refine Pn.mk ?_;intro N hN))))
    exact eB (sd (tw @uR (tw @a0 (tw @a7 (tw @a12 @uf))))) (by(try dsimp only);exact⟨⟨.own ⟨25005009,st_a.next+1+1⟩ 0 (k+1),sl (tw @wX @nX),.inr ⟨⟨25005009,st_a.next+1+1⟩,rfl,ab,by rw[tx];simp only[go_sem, ↓reduceIte,Nat.reduceEqDiff,Nat.reduceAdd,Nat.reduceSub,Nat.reduceLeDiff,reduceCtorEq,wX,we,nX]<;>rfl,rfl,bL,bL⟩⟩,ab,fun x hx=>by
     have h9:=dE (i:=x) (n:=st_a.next) ab
     have h8:=(dD (a:=x) (b:=⟨25001002,σ.next+1⟩) bL).1
     have h6:=(dD (a:=x) (b:=e) ab).1
     have h7:=aF x hx
     simp only[go_sem, ↓reduceIte,Nat.reduceEqDiff,Nat.reduceAdd,Nat.reduceSub,Nat.reduceLeDiff,reduceCtorEq,h9,h8,h7,h6]⟩)
 ·have WU:k=4:=ab
  subst WU
  have pL:ns.take 4=ns:=List.take_of_length_le ab
  rw[pL]at aV
  rcases aV with⟨h0,_⟩|⟨e,rfl,_,ge,se,e0,e1⟩
  ·omega
  have SC:=hG.frame (g':=st_a.get) (n':=st_a.next) ab fun i _ _ hi=>aF i hi
  have gc:=SC.cell
  obtain⟨um,uo⟩:=gc
  unfold AV.cells at um
  unfold AV.cell at uo
  have Wz:(T++[(⟨nm,ns.map (xU E)⟩:dR)]).length=T.length+1:=by simp
  have Qh:(ns.map (xU E)).length=4:=by simp[hns]
  have we:=dE e1
  have nX:=(dD (a:=⟨25001002,σ.next+1⟩) (b:=e) bL)
  have nB:=(dD (a:=B) (b:=e) ab)
  have nM:=(dD (a:=M) (b:=e) ab)
  have qS:T.length<=16777215:=ab
  have hw:IntKind.i64.wrap (((T.length+1:Nat):Int)-1)=(T.length:Int):=by rw[show((T.length+1:Nat):Int)-1=(T.length:Int) by omega];exact dy ab
  have iB:∀i:Id,(i.site=23000010∨i.site=25005009)->(i=B)=False:=fun i hs=>eq_false fun e=>by subst e;rcases hs with hs|hs<;>rw[bs]at hs<;>revert hs<;>decide
  rcases hV with⟨rfl,rfl⟩|⟨o,rows,rfl,Lw,go',hX,zo,o0,o1'⟩
  ·(try((repeat(revert hN;revert N;apply Pn.out));refine wk (tw @uR (tw @a0 (tw @a7 (tw @a12 (tw @uf (tw @hk (tw @aX (tw @aB (tw @wB (tw @wX (tw @we (tw @nX (tw @nB (tw @BX (tw @um (tw @uo @ge)))))))))))))))) ?_;(repeat(refine Pn.mk ?_;intro N hN))))
   refine eK (.inl rfl) (vs:=[.int .i64 (IntKind.i64.wrap (((1:Nat):Int)-1))]) (sd @Nat.zero_add) ⟨rfl,⟨⟨vg,.own ⟨25007008,st_a.next+1⟩ 0 1,sd (tw @wB (tw @um @uo)),SC.frame bL fun i hs GY tU=>(by
     have h9:=dE tU
     have h8:=iB i (.inl hs)
     simp only[go_sem, ↓reduceIte,Nat.reduceEqDiff,Nat.reduceAdd,Nat.reduceSub,Nat.reduceLeDiff,reduceCtorEq,h9,h8]),.inr ⟨⟨25007008,st_a.next+1⟩,[[.str nm,.own e 0 4]],rfl,by simp,sl @wB,TX.one (t:=⟨nm,ns.map (xU E)⟩) ⟨rfl,qt,Qh,se,ab,bL,by simp only[go_sem, ↓reduceIte,Nat.reduceEqDiff,Nat.reduceAdd,Nat.reduceSub,Nat.reduceLeDiff,reduceCtorEq,we,nB]<;>exact ge⟩,rfl,bL,bL⟩⟩,by simp only[go_sem, ↓reduceIte,Nat.reduceEqDiff,Nat.reduceAdd,Nat.reduceSub,Nat.reduceLeDiff,reduceCtorEq,wM,BM]<;>exact aM,bs,ms,b0,bL,m0,bL⟩,bL,fun x hx=>by
    have h9:=dE (i:=x) (n:=st_a.next) ab
    have h8:=(dD (a:=x) (b:=B) ab).1
    have h7:=aF x ab
    simp only[go_sem, ↓reduceIte,Nat.reduceEqDiff,Nat.reduceAdd,Nat.reduceSub,Nat.reduceLeDiff,reduceCtorEq,h9,h8,h7]⟩
  ·have go:=(aF o o1').trans go'
   have o1:o.cW<st_a.next:=ab
   have wo:=dE o1
   have oB:=qu zo bs (by decide)
   have oM:=qu zo ms (by decide)
   have oe:=qu zo se (by decide)
   have oX:=ga zo (b:=25001002) (v:=σ.next+1) (by decide)
   have xQ:rows.length=T.length:=hX.len
   (try((repeat(revert hN;revert N;apply Pn.out));refine wk (tw @uR (tw @a0 (tw @a7 (tw @a12 (tw @uf (tw @hk (tw @aX (tw @aB (tw @wB (tw @wX (tw @we (tw @wo (tw @nX (tw @nB (tw @BX (tw @oB (tw @oe (tw @oX (tw @um (tw @uo (tw @ge (tw @go (tw @xQ (tw @qS @hw)))))))))))))))))))))))) ?_;(repeat(refine Pn.mk ?_;intro N hN))))
   refine eK (.inl rfl) (vs:=[.int .i64 (T.length:Int)]) (sd @hw) ⟨rfl,⟨⟨vg,.own ⟨25007008,st_a.next+1⟩ 0 (T.length+1),sd (tw @wB (tw @oB (tw @um @uo))),SC.frame bL fun i hs GY tU=>(by
     have h9:=dE tU
     have h8:=iB i (.inl hs)
     have h7:=(qu hs zo (by decide)).1
     simp only[go_sem, ↓reduceIte,Nat.reduceEqDiff,Nat.reduceAdd,Nat.reduceSub,Nat.reduceLeDiff,reduceCtorEq,h9,h8,h7]),.inr ⟨⟨25007008,st_a.next+1⟩,rows++[[.str nm,.own e 0 4]],by rw[Wz],ab,sl (tw @wB @wo),(hX.frame (Nat.le_refl _) fun i hs GY tU=>(by
     have h9:=dE (i:=i) (n:=st_a.next) ab
     have h8:=iB i (.inr hs)
     have h7:=(qu hs zo (by decide)).1
     have h6:=aF i tU
     simp only[go_sem, ↓reduceIte,Nat.reduceEqDiff,Nat.reduceAdd,Nat.reduceSub,Nat.reduceLeDiff,reduceCtorEq,h9,h8,h7,h6])).snoc (t:=⟨nm,ns.map (xU E)⟩) bL ab ⟨rfl,qt,Qh,se,ab,bL,by simp only[go_sem, ↓reduceIte,Nat.reduceEqDiff,Nat.reduceAdd,Nat.reduceSub,Nat.reduceLeDiff,reduceCtorEq,we,nB,oe]<;>exact ge⟩,rfl,bL,bL⟩⟩,by simp only[go_sem, ↓reduceIte,Nat.reduceEqDiff,Nat.reduceAdd,Nat.reduceSub,Nat.reduceLeDiff,reduceCtorEq,wM,BM,oM]<;>exact aM,bs,ms,b0,bL,m0,bL⟩,bL,fun x hx=>by
    have h9:=dE (i:=x) (n:=st_a.next) ab
    have h8:=(dD (a:=x) (b:=B) ab).1
    have h6:=(dD (a:=x) (b:=o) ab).1
    have h7:=aF x ab
    simp only[go_sem, ↓reduceIte,Nat.reduceEqDiff,Nat.reduceAdd,Nat.reduceSub,Nat.reduceLeDiff,reduceCtorEq,h9,h8,h7,h6]⟩
end
end Go.Proofs.YtakkdjfmiffbfaaGreatDoor.V

namespace Go.Proofs.YtakkdjfmiffbfaaGreatDoor
open Go.RowKit
theorem CH (x:ByteArray) (l:List UInt8) (h:x.data.toList=l):x=⟨l.toArray⟩:=by
 subst h
 cases x
 simp
theorem HL (i:Nat) (h:i<100) (w:World):
  Calls Tryz.prog 158 #[.int .i64 i] w fun e w'=>e=.returned (.string ⟨(Lib.decDigits i).toArray⟩)/\w'=w:=by
 go_enter Tryz.func158,Tryz.ntmps158
 go_name_bytes_deep 45 SM hSM
 have eSM:SM=Lib.smalls:=by rw[<-hSM];decide+kernel
 subst eSM
 clear hSM
 go_name_bytes_deep 30 DG hDG
 have eDG:DG=Lib.digits36:=by rw[<-hDG];decide+kernel
 subst eDG
 clear hDG
 by_cases GP:i<10
 ·have nP:∀w,(Instr.slice 9 (.string Lib.digits36) (some (.int .i64 (i:Int))) (some (.int .i64 ((i:Int)+1))) none).run Tryz.prog w=.ok (.string (Lib.digits36.extract i (i+1))) w:=fun w=>by
   rw[run_slice_string w 9 Lib.digits36 .i64 .i64 _ _ Tryz.underlying9 (by omega) (by omega) (by rw[Lib.digits36_size];omega),show((i:Int)).toNat=i by omega,show((i:Int)+1).toNat=i+1 by omega]
  go_wp2
  go_ret
  refine⟨?_,rfl⟩
  show Ending.returned (Value.string (Lib.digits36.extract i (i+1)))= _
  rw[CH (Lib.digits36.extract i (i+1)) (Lib.decDigits i) (by rw[Lib.extract_data];exact Lib.digits36_piece GP)]
 ·have nP:∀w,(Instr.slice 9 (.string Lib.smalls) (some (.int .i64 ((i:Int)*2))) (some (.int .i64 ((i:Int)*2+2))) none).run Tryz.prog w=.ok (.string (Lib.smalls.extract (i*2) (i*2+2))) w:=fun w=>by
   rw[run_slice_string w 9 Lib.smalls .i64 .i64 _ _ Tryz.underlying9 (by omega) (by omega) (by rw[Lib.smalls_size];omega),show((i:Int)*2).toNat=i*2 by omega,show((i:Int)*2+2).toNat=i*2+2 by omega]
  go_wp2
  go_ret
  refine⟨?_,rfl⟩
  show Ending.returned (Value.string (Lib.smalls.extract (i*2) (i*2+2)))= _
  rw[CH (Lib.smalls.extract (i*2) (i*2+2)) (Lib.decDigits i) (by rw[Lib.extract_data];exact Lib.smalls_piece GP h)]
theorem Dz (i:Nat) (hi:i<100) (w:World):
  Calls Tryz.prog 121 #[.int .i64 i,.int .i64 10] w fun e w'=>e=.returned (.string ⟨(Lib.decDigits i).toArray⟩)/\w'=w:=by
 go_enter Tryz.func121,Tryz.ntmps121
 go_wp2_with (go_at_call 158;refine(HL i hi _).mono ?_;rintro e w' ⟨rfl,rfl⟩)
 go_ret
 exact⟨rfl,rfl⟩
theorem zQ:∀n:Fin 100,(⟨(Lib.decDigits n.1).toArray⟩:ByteArray)=V.gY n.1:=by decide+kernel
namespace V
attribute [local irreducible] dL wpOps ez Call
attribute [local go_sem] ay ew dZ eE eC cY upd bJ K.av bZ AV.cells AV.cell rowOf rowsOf part ld rowAt eO bH bI cX dj eQ bq cF dx eA ed cQ dq cD cC dc de bu aE cm bt cr cq dn dr dp ck bz cE dm br aw cw bQ eP aZ bW bx aD cR aQ cZ AV.undef bd bj dh di c6 da bV dw dz bP du dt cu cz List.getD_cons_zero List.getD_cons_succ List.getD_nil List.all_cons List.all_nil Bool.and_true Bool.true_and Bool.and_self Bool.not_true Bool.not_false Option.map_some Option.map_none Option.bind_some Option.bind_none List.length_cons List.length_nil List.take_succ_cons List.take_zero List.take_nil List.drop_succ_cons List.drop_zero List.drop_nil List.head?_cons List.map_cons List.map_nil List.getElem?_cons_zero List.getElem?_cons_succ List.cons_append List.nil_append List.append_nil List.length_map List.set_cons_zero List.set_cons_succ Nat.reduceMul eq_self Int.toNat_natCast Int.natCast_nonneg and_self true_and and_true decide_true decide_false Bool.false_eq_true Nat.zero_add Nat.add_zero List.contains_cons List.contains_nil Bool.or_false Bool.false_or beq_self_eq_true Nat.reduceBEq ne_eq not_true_eq_false not_false_eq_true Id.mk.injEq false_and and_false Nat.reduceLT Int.reduceLE Int.reduceLT Int.reduceToNat Int.reduceNeg Int.reduceAdd Nat.le_refl List.length_append beq_true beq_false Bool.not_eq_eq_eq_not or_false false_or dW ad ae aL aI bf bR az bc aA aJ cj bh
theorem Nr {P:Program} {w:World} {D:Nat->Prop} {ι:Names} {k m:Int} {vs:Array Value} (h:fo P w D ι [.int .i64 k,.int .i64 m] vs):vs= #[.int .i64 k,.int .i64 m]:=by
 obtain⟨h1,h2⟩:=h
 obtain⟨u,hu,hr⟩:=h2 0 _ rfl
 rw[dO hr]at hu
 obtain⟨u2,Qz,AQ⟩:=h2 1 _ rfl
 rw[dO AQ]at Qz
 obtain⟨l⟩:=vs
 match l,h1 with
 |[a,b],_=>
  simp at hu Qz
  rw[hu,Qz]
theorem Jn (n:Nat) (h:n<100):aP Tryz.prog 121 [.int .i64 (n:Int),.int .i64 10] (.str (gY n)):=
 lF (vs0:= #[.int .i64 (n:Int),.int .i64 10]) (u0:=.string (gY n)) (fun _ _ _ _=>Nr) (fun _ _ _=>.eG _ _ (.str _)) (fun g=>mB g 5 _) fun w=>(Dz n h w).mono (by
  rintro e w' ⟨rfl,rfl⟩
  exact⟨by rw[zQ ⟨n,h⟩],Below.refl _ _⟩)
theorem BC (n:Nat) (h:n<100):aP Tryz.prog 92 [.int .i64 (n:Int),.int .i64 10] (.str (gY n)):=by
 refine aP.body fH rfl fun hl n0=>?_
 clear hl
 have h1:=Jn n h
 (repeat(first|((repeat(revert hN;revert N;apply Pn.out));refine wk @Nat.zero_add ?_;(repeat(refine Pn.mk ?_;intro N hN)))|((try apply Or.inl);refine⟨_,aP.x (h1) (sd @Nat.zero_add),?_⟩;refine hN _ _ ?_;clear hN N)))
 exact tG (.inl rfl) (vs:=[.str (gY n)]) (sd @Nat.zero_add) (by simp only[iL,mB])
theorem Gg (n:Nat) (h:n<100):aP Tryz.prog 54 [.int .i64 (n:Int)] (.str (gY n)):=by
 refine aP.body fH rfl fun hl n0=>?_
 clear hl
 have h1:=BC n h
 (repeat(first|((repeat(revert hN;revert N;apply Pn.out));refine wk @Nat.zero_add ?_;(repeat(refine Pn.mk ?_;intro N hN)))|((try apply Or.inl);refine⟨_,aP.x (h1) (sd @Nat.zero_add),?_⟩;refine hN _ _ ?_;clear hN N)))
 exact tG (.inl rfl) (vs:=[.str (gY n)]) (sd @Nat.zero_add) (by simp only[iL,mB])
theorem Eh (u:ByteArray) (hu:u.size<=1000) (n:Nat) (h:n<100):aP Tryz.prog 24 [.str u,.int .i64 (n:Int)] (.str (u++gY n)):=by
 refine aP.body fH rfl fun hl n0=>?_
 clear hl
 have h1:=Gg n h
 have h2:u.size+(gY n).size<=9223372036854775807:=by have:=I7 n;omega
 generalize gY n=d at h1 h2 ⊢
 (repeat(first|((repeat(revert hN;revert N;apply Pn.out));refine wk @h2 ?_;(repeat(refine Pn.mk ?_;intro N hN)))|((try apply Or.inl);refine⟨_,aP.x (h1) (sd @h2),?_⟩;refine hN _ _ ?_;clear hN N)))
 exact tG (.inl rfl) (vs:=[.str (u++d)]) (sd @Nat.zero_add) (by simp only[iL,mB])
end V
end Go.Proofs.YtakkdjfmiffbfaaGreatDoor

namespace Go.Proofs.YtakkdjfmiffbfaaGreatDoor.V
open Go.RowKit
attribute [local irreducible] dL wpOps ez Call
attribute [local go_sem] ay ew dZ eE eC cY upd bJ K.av bZ AV.cells AV.cell rowOf rowsOf part ld rowAt eO bH bI cX dj eQ bq cF dx eA ed cQ dq cD cC dc de bu aE cm bt cr cq dn dr dp ck bz cE dm br aw cw bQ eP aZ bW bx aD cR aQ cZ AV.undef bd bj dh di c6 da bV dw dz bP du dt cu cz List.getD_cons_zero List.getD_cons_succ List.getD_nil List.all_cons List.all_nil Bool.and_true Bool.true_and Bool.and_self Bool.not_true Bool.not_false Option.map_some Option.map_none Option.bind_some Option.bind_none List.length_cons List.length_nil List.take_succ_cons List.take_zero List.take_nil List.drop_succ_cons List.drop_zero List.drop_nil List.head?_cons List.map_cons List.map_nil List.getElem?_cons_zero List.getElem?_cons_succ List.cons_append List.nil_append List.append_nil List.length_map List.set_cons_zero List.set_cons_succ Nat.reduceMul eq_self Int.toNat_natCast Int.natCast_nonneg and_self true_and and_true decide_true decide_false Bool.false_eq_true Nat.zero_add Nat.add_zero List.contains_cons List.contains_nil Bool.or_false Bool.false_or beq_self_eq_true Nat.reduceBEq ne_eq not_true_eq_false not_false_eq_true Id.mk.injEq false_and and_false Nat.reduceLT Int.reduceLE Int.reduceLT Int.reduceToNat Int.reduceNeg Int.reduceAdd Nat.le_refl List.length_append beq_true beq_false Bool.not_eq_eq_eq_not or_false false_or dW ad ae aL aI bf bR az bc aA aJ cj bh
def rV (h w:Nat):List NE:=⟨⟨#[45]⟩,0⟩::(jj h w).zipIdx.map fun(x:eS×Nat)=>⟨x.1.dG,(x.2:Int)+1⟩
theorem Sm (h:Nat):rV (h+1) 0=rV h 0++[⟨lD 119 (h+1),((jj h 0).length:Int)+1⟩]:=by
 unfold rV
 rw[Jo,List.zipIdx_append]
 simp
theorem Sn (h w:Nat):rV h (w+1)=rV h w++[⟨lD 101 (w+1),((jj h w).length:Int)+1⟩]:=by
 unfold rV
 rw[Jp,List.zipIdx_append]
 simp
theorem PA:∀h,h<7->¬Cm (rV h 0) (lD 119 (h+1))<(rV h 0).length:=by decide+kernel
theorem Pw:∀h,h<7->∀w,w<7->¬Cm (rV h w) (lD 101 (w+1))<(rV h w).length:=by decide+kernel
theorem XE:∀W,W<8->∀H,H<8->1<=W->1<=H->[⟨#[119,49]⟩,⟨#[101,49]⟩,⟨#[45]⟩,⟨#[45]⟩].map (xU (rV (H-1) (W-1)))=pr W H 0:=by decide+kernel
theorem XH:∀W,W<8->∀H,H<8->1<=W->∀k,k<H-1->[lD 119 (k+1+1),ft,lD 119 (k+1),⟨#[45]⟩].map (xU (rV (H-1) (W-1)))=pr W H (k+1):=by decide+kernel
theorem XF:∀W,W<8->∀H,H<8->1<=H->∀k,k<W-1->[ft,lD 101 (k+1+1),⟨#[45]⟩,lD 101 (k+1)].map (xU (rV (H-1) (W-1)))=pr W H (H+k):=by decide+kernel
theorem XG:∀W,W<8->∀H,H<8->1<=W->1<=H->[ft,ft,ft,ft].map (xU (rV (H-1) (W-1)))=pr W H (W+H-1):=by decide+kernel
theorem TR:∀W,W<8->∀H,H<8->1<=W->∀k,k<H-1->GK W H (k+1)=lD 119 (k+1):=by decide+kernel
theorem TQ:∀W,W<8->∀H,H<8->1<=H->∀k,k<W-1->GK W H (H+k)=lD 101 (k+1):=by decide+kernel
theorem QQ:∀W,W<8->∀H,H<8->1<=W->1<=H->GK W H (W+H-1)=rm:=by decide+kernel
theorem rl:∀c k,k<10->(lD c k).size=2:=fun c k h=>by
 unfold lD
 rw[Bb,iQ h]
 rfl
theorem jE (c:UInt8) (k:Nat) (h:k<100):aP Tryz.prog 24 [.str ⟨#[c]⟩,.int .i64 (k:Int)] (.str (lD c k)):=Eh ⟨#[c]⟩ (Nat.le_trans (Nat.le_of_eq (show(⟨#[c]⟩:ByteArray).size=1 from rfl)) ab) k h
theorem CN {E:Nat->Prop} {n0 n:Nat} {g:Rows} {rs:List (List AV)} {X:List dR} {og o d:Id} {G c:Nat} {L:List eS} {p:aa} (h1:g og=some ⟨true,2,L.map ea⟩) (h2:L.length=G) (h3:g o=some ⟨true,2,rs⟩) (h4:X.length=c) (h6:TX E n0 g n rs X) (h7:g d=some ⟨true,3,[ai p]⟩):gE g 5 (.agg [.own og 0 G,.own o 0 c,.own d 0 1,.int .i64 2])=some (.agg (ej ⟨⟨L,X⟩,⟨[p]⟩,2⟩)):=by
 subst h2
 have h5:=h6.len
 have a1:gE g 4 (.own og 0 L.length)=some (.sl (L.map ea)):=fN (e:=ea) (n:=3) h1 rfl fun x=>by simp[ea,cV,dH,mB,eW]
 have a2:gE g 4 (.own o 0 c)=some (.sl (X.map dS)):=zY (n:=3) h3 ab (by rw[List.drop_zero,List.take_of_length_le ab];exact h6.fz 1)
 have a3:gE g 4 (.own d 0 1)=some (.sl [ai p]):=fN (e:=ai) (l:=[p]) (n:=3) h7 rfl fun x=>by simp[ai,cV,dH,eW]
 simp only[ej,zX,cV,dH,a1,a2,a3,eW,Option.map_some,List.map_cons,List.map_nil]
section
set_option maxRecDepth 100000
set_option maxHeartbeats 16000000
theorem xw (W H:Nat) (hW:W<8) (hH:H<8) (w1:1<=W) (h1:1<=H):aP Tryz.prog 7 [.int .i64 (W:Int),.int .i64 (H:Int)] (.fK [.agg (ej (pV W H)),.int .i64 0]):=by
 refine aP.body fH rfl fun fR n0=>?_
 clear fR
 have i1:=gS (W:Int) 1 60
 have i2:=gS (H:Int) 1 60
 rw[lh (show(1:Int)<=W by omega) (show(W:Int)<=60 by omega)]at i1
 rw[lh (show(1:Int)<=H by omega) (show(H:Int)<=60 by omega)]at i2
 have hwh:W*H<=7*7:=Nat.mul_le_mul ab ab
 have e1:(W:Int)*(H:Int)=((W*H:Nat):Int):=by simp
 have e2:IntKind.i64.wrap ((W:Int)*(H:Int))=((W*H:Nat):Int):=by rw[e1];exact dy ab
 have e3:¬(500:Int)<((W*H:Nat):Int):=ab
 (repeat(first|((repeat(revert hN;revert N;apply Pn.out));refine wk (tw @e2 @e3) ?_;(repeat(refine Pn.mk ?_;intro N hN)))|((try apply Or.inl);refine⟨_,aP.x (i1) (sd (tw @e2 @e3)),?_⟩;refine hN _ _ ?_;clear hN N)|((try apply Or.inl);refine⟨_,aP.x (i2) (sd (tw @e2 @e3)),?_⟩;refine hN _ _ ?_;clear hN N)))
 refine .inr (aS _ _ _ _ _ (fun r σ1 hq=>?_) (Ef _))
 obtain⟨B,M,rfl,hK,hn,hf⟩:=hq
 obtain⟨g1,x1⟩:=σ1
 (try dsimp only at hK hn hf)
 refine hN _ _ ?_
 clear hN N
 obtain⟨y0,hy,hK,hc,QD⟩:∃y0,n0<y0/\uK y0 g1 x1 B M [⟨⟨#[45]⟩,0⟩] [] []/\g1 ⟨7000000,n0⟩=some ⟨true,4,[[.bB,.bB,.bB,.int .i64 0]]⟩/\y0<=x1:=⟨_,ab,hK,(hf _ bL).trans (sd @Nat.zero_add),ab⟩
 clear hf hn
 (try((repeat(revert hN;revert N;apply Pn.out));refine wk @Nat.zero_add ?_;(repeat(refine Pn.mk ?_;intro N hN))))
 refine .inr (aS _ _ _ _ _ (fun r σ2 hq=>?_) (Ap (σ:=⟨_,_⟩) (hK.frame bL fun _ _=>(by rfl)) ft 1 (by simp) (by decide+kernel)))
 obtain⟨rfl,iY,pH,jO⟩:=hq
 obtain⟨g2,x2⟩:=σ2
 (try dsimp only at iY pH jO)
 refine hN _ _ ?_
 clear hN N
 have jv:=(jO ⟨7000000,n0⟩ bL).trans hc
 (try dsimp only at jv)
 have PY:uK y0 g2 x2 B M (rV 0 0) (jj 0 0) []:=iY
 clear iY jO hK hc
 (try((repeat(revert hN;revert N;apply Pn.out));refine wk @Nat.zero_add ?_;(repeat(refine Pn.mk ?_;intro N hN))))
 refine cU (fun n env st=>∃k:Nat,n=(H-1)-k/\k<=(H-1)/\(env 7=.int .i64 ((k:Int)+1)/\uK y0 st.get st.next B M (rV k 0) (jj k 0) ([])/\st.get ⟨7000000,n0⟩=some ⟨true,4,[[.bB,.bB,.bB,.int .i64 0]]⟩/\y0<=st.next)) (H-1) ⟨0,ab,ab,by(try dsimp only);exact⟨sl @Nat.zero_add,PY.frame bL fun _ _=>(by rfl),jv,ab⟩⟩ ?_
 rintro n_a env_a st_a ⟨k,rfl,ale,qn⟩ eL
 have a0:=eL 0 (by kernel_rfl);have a1:=eL 1 (by kernel_rfl);have a4:=eL 4 (by kernel_rfl);have a5:=eL 5 (by kernel_rfl);have a6:=eL 6 (by kernel_rfl)
 simp only[go_sem, ↓reduceIte,Nat.reduceEqDiff,Nat.reduceAdd,Nat.reduceSub,Nat.reduceLeDiff,reduceCtorEq,e2]at a0 a1 a4 a5 a6
 clear eL
 obtain⟨a7,aK,aC,aY⟩:=qn
 by_cases hk:(k:Int)+1<(H:Int)
 ·have eB:∀{e:Env} {gg:Rows} {nx:Nat},(e 7=.int .i64 (((k+1):Int)+1)/\uK y0 gg nx B M (rV (k+1) 0) (jj (k+1) 0) ([])/\gg ⟨7000000,n0⟩=some ⟨true,4,[[.bB,.bB,.bB,.int .i64 0]]⟩/\y0<=nx)->∃m0,m0<(H-1)-k/\∃k:Nat,m0=(H-1)-k/\k<=(H-1)/\(e 7=.int .i64 ((k:Int)+1)/\uK y0 gg nx B M (rV k 0) (jj k 0) ([])/\gg ⟨7000000,n0⟩=some ⟨true,4,[[.bB,.bB,.bB,.int .i64 0]]⟩/\y0<=nx):=fun x1=>⟨_,ab,k+1,rfl,ab,x1⟩
  have tt:=jE 119 (k+1) ab
  rw[show((k+1:Nat):Int)=(k:Int)+1 from rfl]at tt
  have Qm:=PA k ab
  have hw:IntKind.i64.wrap ((k:Int)+1+1)=(k:Int)+1+1:=dy ab
  (repeat(first|((repeat(revert hN;revert N;apply Pn.out));refine wk (tw @a0 (tw @a1 (tw @a4 (tw @a5 (tw @a6 (tw @a7 (tw @hk @hw))))))) ?_;(repeat(refine Pn.mk ?_;intro N hN)))|((try apply Or.inl);refine⟨_,aP.x (tt) (sd (tw @a0 (tw @a1 (tw @a4 (tw @a5 (tw @a6 (tw @a7 (tw @hk @hw)))))))),?_⟩;refine hN _ _ ?_;clear hN N)))
  refine .inr (aS _ _ _ _ _ (fun r σ2 hq=>?_) (Ap (σ:=⟨_,_⟩) (aK.frame bL fun _ _=>(by rfl)) (lD 119 (k+1)) 2 (by rw[ir];omega) Qm))
  obtain⟨rfl,iY,pH,jO⟩:=hq
  obtain⟨g2,x2⟩:=σ2
  (try dsimp only at iY pH jO)
  refine hN _ _ ?_
  clear hN N
  have jv:=(jO ⟨7000000,n0⟩ bL).trans aC
  (try dsimp only at jv)
  (try((repeat(revert hN;revert N;apply Pn.out));refine wk (tw @a0 (tw @a1 (tw @a4 (tw @a5 (tw @a6 (tw @a7 (tw @hk @hw))))))) ?_;(repeat(refine Pn.mk ?_;intro N hN))))
  exact eB (by(try dsimp only);exact⟨sl @hw,by rw[Sm,Jo];exact iY.frame bL fun _ _=>(by rfl),jv,ab⟩)
 ·have DU:k=H-1:=ab
  subst DU
  (try((repeat(revert hN;revert N;apply Pn.out));refine wk (tw @a0 (tw @a1 (tw @a4 (tw @a5 (tw @a6 (tw @a7 @hk)))))) ?_;(repeat(refine Pn.mk ?_;intro N hN))))
  refine cU (fun n env st=>∃k:Nat,n=(W-1)-k/\k<=(W-1)/\(env 8=.int .i64 ((k:Int)+1)/\uK y0 st.get st.next B M (rV (H-1) k) (jj (H-1) k) ([])/\st.get ⟨7000000,n0⟩=some ⟨true,4,[[.bB,.bB,.bB,.int .i64 0]]⟩/\y0<=st.next)) (W-1) ⟨0,ab,ab,by(try dsimp only);exact⟨sl @Nat.zero_add,aK.frame bL fun _ _=>(by rfl),aC,ab⟩⟩ ?_
  rintro n_b env_b st_b ⟨k,rfl,ble,bI0⟩ fA
  have b0:=fA 0 (by kernel_rfl);have b1:=fA 1 (by kernel_rfl);have b4:=fA 4 (by kernel_rfl);have b5:=fA 5 (by kernel_rfl);have b6:=fA 6 (by kernel_rfl)
  simp only[go_sem, ↓reduceIte,Nat.reduceEqDiff,Nat.reduceAdd,Nat.reduceSub,Nat.reduceLeDiff,reduceCtorEq,a0,a1,a4,a5,a6]at b0 b1 b4 b5 b6
  clear fA
  obtain⟨b8,bK,bC,bY⟩:=bI0
  by_cases hk:(k:Int)+1<(W:Int)
  ·have fP:∀{e:Env} {gg:Rows} {nx:Nat},(e 8=.int .i64 (((k+1):Int)+1)/\uK y0 gg nx B M (rV (H-1) (k+1)) (jj (H-1) (k+1)) ([])/\gg ⟨7000000,n0⟩=some ⟨true,4,[[.bB,.bB,.bB,.int .i64 0]]⟩/\y0<=nx)->∃m0,m0<(W-1)-k/\∃k:Nat,m0=(W-1)-k/\k<=(W-1)/\(e 8=.int .i64 ((k:Int)+1)/\uK y0 gg nx B M (rV (H-1) k) (jj (H-1) k) ([])/\gg ⟨7000000,n0⟩=some ⟨true,4,[[.bB,.bB,.bB,.int .i64 0]]⟩/\y0<=nx):=fun x1=>⟨_,ab,k+1,rfl,ab,x1⟩
   have tt:=jE 101 (k+1) ab
   rw[show((k+1:Nat):Int)=(k:Int)+1 from rfl]at tt
   have Qm:=Pw (H-1) ab k ab
   have hw:IntKind.i64.wrap ((k:Int)+1+1)=(k:Int)+1+1:=dy ab
   (repeat(first|((repeat(revert hN;revert N;apply Pn.out));refine wk (tw @b0 (tw @b1 (tw @b4 (tw @b5 (tw @b6 (tw @b8 (tw @hk @hw))))))) ?_;(repeat(refine Pn.mk ?_;intro N hN)))|((try apply Or.inl);refine⟨_,aP.x (tt) (sd (tw @b0 (tw @b1 (tw @b4 (tw @b5 (tw @b6 (tw @b8 (tw @hk @hw)))))))),?_⟩;refine hN _ _ ?_;clear hN N)))
   refine .inr (aS _ _ _ _ _ (fun r σ2 hq=>?_) (Ap (σ:=⟨_,_⟩) (bK.frame bL fun _ _=>(by rfl)) (lD 101 (k+1)) 2 (by rw[ir];omega) Qm))
   obtain⟨rfl,iY,pH,jO⟩:=hq
   obtain⟨g2,x2⟩:=σ2
   (try dsimp only at iY pH jO)
   refine hN _ _ ?_
   clear hN N
   have jv:=(jO ⟨7000000,n0⟩ bL).trans bC
   (try dsimp only at jv)
   (try((repeat(revert hN;revert N;apply Pn.out));refine wk (tw @b0 (tw @b1 (tw @b4 (tw @b5 (tw @b6 (tw @b8 (tw @hk @hw))))))) ?_;(repeat(refine Pn.mk ?_;intro N hN))))
   exact fP (by(try dsimp only);exact⟨sl @hw,by rw[Sn,Jp];exact iY.frame bL fun _ _=>(by rfl),jv,ab⟩)
  ·have DU:k=W-1:=ab
   subst DU
   (try((repeat(revert hN;revert N;apply Pn.out));refine wk (tw @b0 (tw @b1 (tw @b4 (tw @b5 (tw @b6 (tw @b8 @hk)))))) ?_;(repeat(refine Pn.mk ?_;intro N hN))))
   refine .inr (aS _ _ _ _ _ (fun r σ2 hq=>?_) (uy (σ:=⟨_,_⟩) (bK.frame bL fun i hi=>(by have h9:=dE hi;simp only[go_sem, ↓reduceIte,Nat.reduceEqDiff,Nat.reduceAdd,Nat.reduceSub,Nat.reduceLeDiff,reduceCtorEq,h9])) rj (by decide) (by simp) [⟨#[119,49]⟩,⟨#[101,49]⟩,⟨#[45]⟩,⟨#[45]⟩] rfl (u:=⟨7015001,_⟩) ⟨true,sl @Nat.zero_add⟩ bL rfl))
   obtain⟨rfl,iY,pH,jO⟩:=hq
   obtain⟨g2,x2⟩:=σ2
   (try dsimp only at iY pH jO)
   refine hN _ _ ?_
   clear hN N
   have jv:g2 ⟨7000000,n0⟩=some ⟨true,4,[[.bB,.bB,.bB,.int .i64 0]]⟩:=(jO ⟨7000000,n0⟩ bL).trans (by have h9:=dE (i:=⟨7000000,n0⟩) (n:=st_b.next) bL;simp only[go_sem, ↓reduceIte,Nat.reduceEqDiff,Nat.reduceAdd,Nat.reduceSub,Nat.reduceLeDiff,reduceCtorEq,h9,bC])
   (try dsimp only at jv)
   rw[XE W hW H hH w1 h1]at iY
   have PY:uK y0 g2 x2 B M (rV (H-1) (W-1)) (jj (H-1) (W-1)) (jk W H 1):=iY
   clear iY
   (try((repeat(revert hN;revert N;apply Pn.out));refine wk (tw @a0 (tw @a1 (tw @a4 (tw @a5 (tw @a6 (tw @b0 (tw @b1 (tw @b4 (tw @b5 @b6))))))))) ?_;(repeat(refine Pn.mk ?_;intro N hN))))
   refine cU (fun n env st=>∃k:Nat,n=(H-1)-k/\k<=(H-1)/\(env 10=.int .i64 ((k:Int)+1)/\uK y0 st.get st.next B M (rV (H-1) (W-1)) (jj (H-1) (W-1)) (jk W H (k+1))/\st.get ⟨7000000,n0⟩=some ⟨true,4,[[.bB,.bB,.bB,.int .i64 0]]⟩/\y0<=st.next)) (H-1) ⟨0,ab,ab,by(try dsimp only);exact⟨sl @Nat.zero_add,PY.frame bL fun _ _=>(by rfl),jv,ab⟩⟩ ?_
   rintro n_d env_d st_d ⟨k,rfl,dle,dI0⟩ dfr
   have d0:=dfr 0 (by kernel_rfl);have d1:=dfr 1 (by kernel_rfl);have d4:=dfr 4 (by kernel_rfl);have d5:=dfr 5 (by kernel_rfl);have d6:=dfr 6 (by kernel_rfl);have d9:=dfr 9 (by kernel_rfl)
   simp only[go_sem, ↓reduceIte,Nat.reduceEqDiff,Nat.reduceAdd,Nat.reduceSub,Nat.reduceLeDiff,reduceCtorEq,a0,a1,a4,a5,a6,b0,b1,b4,b5,b6]at d0 d1 d4 d5 d6 d9
   clear dfr
   obtain⟨d10,dK,dC,dY⟩:=dI0
   by_cases hk:(k:Int)+1<(H:Int)
   ·have wK:∀{e:Env} {gg:Rows} {nx:Nat},(e 10=.int .i64 (((k+1):Int)+1)/\uK y0 gg nx B M (rV (H-1) (W-1)) (jj (H-1) (W-1)) (jk W H ((k+1)+1))/\gg ⟨7000000,n0⟩=some ⟨true,4,[[.bB,.bB,.bB,.int .i64 0]]⟩/\y0<=nx)->∃m0,m0<(H-1)-k/\∃k:Nat,m0=(H-1)-k/\k<=(H-1)/\(e 10=.int .i64 ((k:Int)+1)/\uK y0 gg nx B M (rV (H-1) (W-1)) (jj (H-1) (W-1)) (jk W H (k+1))/\gg ⟨7000000,n0⟩=some ⟨true,4,[[.bB,.bB,.bB,.int .i64 0]]⟩/\y0<=nx):=fun x1=>⟨_,ab,k+1,rfl,ab,x1⟩
    have tt:=jE 119 (k+1) ab
    rw[show((k+1:Nat):Int)=(k:Int)+1 from rfl]at tt
    have JM:=jE 119 (k+1+1) ab
    rw[show((k+1+1:Nat):Int)=(k:Int)+1+1 from rfl]at JM
    have hw:IntKind.i64.wrap ((k:Int)+1+1)=(k:Int)+1+1:=dy ab
    have qt:=TR W hW H hH w1 k ab
    have yK:=XH W hW H hH w1 k ab
    (repeat(first|((repeat(revert hN;revert N;apply Pn.out));refine wk (tw @d0 (tw @d1 (tw @d4 (tw @d5 (tw @d6 (tw @d9 (tw @d10 (tw @hk @hw)))))))) ?_;(repeat(refine Pn.mk ?_;intro N hN)))|((try apply Or.inl);refine⟨_,aP.x (tt) (sd (tw @d0 (tw @d1 (tw @d4 (tw @d5 (tw @d6 (tw @d9 (tw @d10 (tw @hk @hw))))))))),?_⟩;refine hN _ _ ?_;clear hN N)|((try apply Or.inl);refine⟨_,aP.x (JM) (sd (tw @d0 (tw @d1 (tw @d4 (tw @d5 (tw @d6 (tw @d9 (tw @d10 (tw @hk @hw))))))))),?_⟩;refine hN _ _ ?_;clear hN N)))
    refine .inr (aS _ _ _ _ _ (fun r σ2 hq=>?_) (uy (σ:=⟨_,_⟩) (dK.frame bL fun i hi=>(by have h9:=dE hi;simp only[go_sem, ↓reduceIte,Nat.reduceEqDiff,Nat.reduceAdd,Nat.reduceSub,Nat.reduceLeDiff,reduceCtorEq,h9])) (lD 119 (k+1)) (by rw[rl _ _ ab];omega) (by rw[il];omega) [lD 119 (k+1+1),ft,lD 119 (k+1),⟨#[45]⟩] rfl (u:=⟨7019008,_⟩) ⟨true,sl @Nat.zero_add⟩ bL rfl))
    obtain⟨rfl,iY,pH,jO⟩:=hq
    obtain⟨g2,x2⟩:=σ2
    (try dsimp only at iY pH jO)
    refine hN _ _ ?_
    clear hN N
    have jv:g2 ⟨7000000,n0⟩=some ⟨true,4,[[.bB,.bB,.bB,.int .i64 0]]⟩:=(jO ⟨7000000,n0⟩ bL).trans (by have h9:=dE (i:=⟨7000000,n0⟩) (n:=st_d.next) bL;simp only[go_sem, ↓reduceIte,Nat.reduceEqDiff,Nat.reduceAdd,Nat.reduceSub,Nat.reduceLeDiff,reduceCtorEq,h9,dC])
    (try dsimp only at jv)
    rw[yK,<-qt,<-sg]at iY
    (try((repeat(revert hN;revert N;apply Pn.out));refine wk (tw @d0 (tw @d1 (tw @d4 (tw @d5 (tw @d6 (tw @d9 (tw @d10 (tw @hk @hw)))))))) ?_;(repeat(refine Pn.mk ?_;intro N hN))))
    exact wK (by(try dsimp only);exact⟨sl @hw,iY.frame bL fun _ _=>(by rfl),jv,ab⟩)
   ·have DU:k=H-1:=ab
    subst DU
    (try((repeat(revert hN;revert N;apply Pn.out));refine wk (tw @d0 (tw @d1 (tw @d4 (tw @d5 (tw @d6 (tw @d9 (tw @d10 @hk))))))) ?_;(repeat(refine Pn.mk ?_;intro N hN))))
    have Wl:H-1+1=H:=ab
    rw[Wl]at dK
    refine cU (fun n env st=>∃k:Nat,n=(W-1)-k/\k<=(W-1)/\(env 11=.int .i64 ((k:Int)+1)/\uK y0 st.get st.next B M (rV (H-1) (W-1)) (jj (H-1) (W-1)) (jk W H (H+k))/\st.get ⟨7000000,n0⟩=some ⟨true,4,[[.bB,.bB,.bB,.int .i64 0]]⟩/\y0<=st.next)) (W-1) ⟨0,ab,ab,by(try dsimp only);exact⟨sl @Nat.zero_add,dK.frame bL fun _ _=>(by rfl),dC,ab⟩⟩ ?_
    rintro n_p env_p st_p ⟨k,rfl,ple,pI0⟩ pfr
    have p0:=pfr 0 (by kernel_rfl);have p1:=pfr 1 (by kernel_rfl);have p4:=pfr 4 (by kernel_rfl);have p5:=pfr 5 (by kernel_rfl);have p6:=pfr 6 (by kernel_rfl);have p9:=pfr 9 (by kernel_rfl)
    simp only[go_sem, ↓reduceIte,Nat.reduceEqDiff,Nat.reduceAdd,Nat.reduceSub,Nat.reduceLeDiff,reduceCtorEq,a0,a1,a4,a5,a6,b0,b1,b4,b5,b6,d0,d1,d4,d5,d6,d9]at p0 p1 p4 p5 p6 p9
    clear pfr
    obtain⟨T7,pK,pC,pY⟩:=pI0
    by_cases hk:(k:Int)+1<(W:Int)
    ·have Kp:∀{e:Env} {gg:Rows} {nx:Nat},(e 11=.int .i64 (((k+1):Int)+1)/\uK y0 gg nx B M (rV (H-1) (W-1)) (jj (H-1) (W-1)) (jk W H (H+(k+1)))/\gg ⟨7000000,n0⟩=some ⟨true,4,[[.bB,.bB,.bB,.int .i64 0]]⟩/\y0<=nx)->∃m0,m0<(W-1)-k/\∃k:Nat,m0=(W-1)-k/\k<=(W-1)/\(e 11=.int .i64 ((k:Int)+1)/\uK y0 gg nx B M (rV (H-1) (W-1)) (jj (H-1) (W-1)) (jk W H (H+k))/\gg ⟨7000000,n0⟩=some ⟨true,4,[[.bB,.bB,.bB,.int .i64 0]]⟩/\y0<=nx):=fun x1=>⟨_,ab,k+1,rfl,ab,x1⟩
     have tt:=jE 101 (k+1) ab
     rw[show((k+1:Nat):Int)=(k:Int)+1 from rfl]at tt
     have JM:=jE 101 (k+1+1) ab
     rw[show((k+1+1:Nat):Int)=(k:Int)+1+1 from rfl]at JM
     have hw:IntKind.i64.wrap ((k:Int)+1+1)=(k:Int)+1+1:=dy ab
     have qt:=TQ W hW H hH h1 k ab
     have yK:=XF W hW H hH h1 k ab
     (repeat(first|((repeat(revert hN;revert N;apply Pn.out));refine wk (tw @p0 (tw @p1 (tw @p4 (tw @p5 (tw @p6 (tw @p9 (tw @T7 (tw @hk @hw)))))))) ?_;(repeat(refine Pn.mk ?_;intro N hN)))|((try apply Or.inl);refine⟨_,aP.x (tt) (sd (tw @p0 (tw @p1 (tw @p4 (tw @p5 (tw @p6 (tw @p9 (tw @T7 (tw @hk @hw))))))))),?_⟩;refine hN _ _ ?_;clear hN N)|((try apply Or.inl);refine⟨_,aP.x (JM) (sd (tw @p0 (tw @p1 (tw @p4 (tw @p5 (tw @p6 (tw @p9 (tw @T7 (tw @hk @hw))))))))),?_⟩;refine hN _ _ ?_;clear hN N)))
     refine .inr (aS _ _ _ _ _ (fun r σ2 hq=>?_) (uy (σ:=⟨_,_⟩) (pK.frame bL fun i hi=>(by have h9:=dE hi;simp only[go_sem, ↓reduceIte,Nat.reduceEqDiff,Nat.reduceAdd,Nat.reduceSub,Nat.reduceLeDiff,reduceCtorEq,h9])) (lD 101 (k+1)) (by rw[rl _ _ ab];omega) (by rw[il];omega) [ft,lD 101 (k+1+1),⟨#[45]⟩,lD 101 (k+1)] rfl (u:=⟨7023008,_⟩) ⟨true,sl @Nat.zero_add⟩ bL rfl))
     obtain⟨rfl,iY,pH,jO⟩:=hq
     obtain⟨g2,x2⟩:=σ2
     (try dsimp only at iY pH jO)
     refine hN _ _ ?_
     clear hN N
     have jv:g2 ⟨7000000,n0⟩=some ⟨true,4,[[.bB,.bB,.bB,.int .i64 0]]⟩:=(jO ⟨7000000,n0⟩ bL).trans (by have h9:=dE (i:=⟨7000000,n0⟩) (n:=st_p.next) bL;simp only[go_sem, ↓reduceIte,Nat.reduceEqDiff,Nat.reduceAdd,Nat.reduceSub,Nat.reduceLeDiff,reduceCtorEq,h9,pC])
     (try dsimp only at jv)
     rw[yK,<-qt,<-sg]at iY
     (try((repeat(revert hN;revert N;apply Pn.out));refine wk (tw @p0 (tw @p1 (tw @p4 (tw @p5 (tw @p6 (tw @p9 (tw @T7 (tw @hk @hw)))))))) ?_;(repeat(refine Pn.mk ?_;intro N hN))))
     exact Kp (by(try dsimp only);exact⟨sl @hw,iY.frame bL fun _ _=>(by rfl),jv,ab⟩)
    ·have DU:k=W-1:=ab
     subst DU
     (try((repeat(revert hN;revert N;apply Pn.out));refine wk (tw @p0 (tw @p1 (tw @p4 (tw @p5 (tw @p6 (tw @p9 (tw @T7 @hk))))))) ?_;(repeat(refine Pn.mk ?_;intro N hN))))
     have Wn:H+(W-1)=W+H-1:=ab
     rw[Wn]at pK
     refine .inr (aS _ _ _ _ _ (fun r σ2 hq=>?_) (uy (σ:=⟨_,_⟩) (pK.frame bL fun i hi=>(by have h9:=dE hi;simp only[go_sem, ↓reduceIte,Nat.reduceEqDiff,Nat.reduceAdd,Nat.reduceSub,Nat.reduceLeDiff,reduceCtorEq,h9])) rm (by decide) (by rw[il];omega) [ft,ft,ft,ft] rfl (u:=⟨7024001,_⟩) ⟨true,sl @Nat.zero_add⟩ bL rfl))
     obtain⟨rfl,iY,pH,jO⟩:=hq
     obtain⟨g2,x2⟩:=σ2
     (try dsimp only at iY pH jO)
     refine hN _ _ ?_
     clear hN N
     have jv:g2 ⟨7000000,n0⟩=some ⟨true,4,[[.bB,.bB,.bB,.int .i64 0]]⟩:=(jO ⟨7000000,n0⟩ bL).trans (by have h9:=dE (i:=⟨7000000,n0⟩) (n:=st_p.next) bL;simp only[go_sem, ↓reduceIte,Nat.reduceEqDiff,Nat.reduceAdd,Nat.reduceSub,Nat.reduceLeDiff,reduceCtorEq,h9,pC])
     (try dsimp only at jv)
     rw[XG W hW H hH w1 h1,<-QQ W hW H hH w1 h1,<-sg,show W+H-1+1=W+H by omega]at iY
     obtain⟨vg,vt,kB,kG,kT⟩:=iY.row
     have lG:=ir (H-1) (W-1)
     have lT:=il W H (W+H)
     rcases kG with⟨k0,_⟩|⟨og,rfl,_,gg0,_,gv0,gv⟩
     ·rw[k0]at lG;simp at lG
     rcases kT with⟨k0,_⟩|⟨ot,rows,rfl,_,gt0,hX,_,tv0,tv⟩
     ·rw[k0]at lT;simp at lT;omega
     have vB:=dE iY.b1
     have vg:=dE gv
     have vt:=dE tv
     have yC:=iY.b0
     have nB:=dD (a:=⟨7000000,n0⟩) (b:=B) bL
     have vC:=dE (i:=⟨7000000,n0⟩) (n:=x2) bL
     (try((repeat(revert hN;revert N;apply Pn.out));refine wk (tw @p0 (tw @p1 (tw @p4 (tw @p5 (tw @p6 (tw @p9 (tw @kB (tw @vB (tw @nB (tw @vC @jv)))))))))) ?_;(repeat(refine Pn.mk ?_;intro N hN))))
     have Xz:=(dD (a:=⟨7000000,n0⟩) (b:=og) bL).2
     have XB:=(dD (a:=⟨7000000,n0⟩) (b:=ot) bL).2
     obtain⟨gF,JF⟩:∃gF,bH (bH g2 ⟨7025007,x2+1⟩ ⟨true,3,[[.int .i64 0,.int .i64 0,.int .i64 ((0:Nat):Int)]]⟩) ⟨7000000,n0⟩ ⟨true,4,[[.own og 0 (jj (H-1) (W-1)).length,.own ot 0 (jk W H (W+H)).length,.own ⟨7025007,x2+1⟩ 0 1,.int .i64 2]]⟩=gF:=⟨_,rfl⟩
     have q1:gF og=some ⟨true,2,(jj (H-1) (W-1)).map ea⟩:=by rw[<-JF];simp only[go_sem, ↓reduceIte,Nat.reduceEqDiff,Nat.reduceAdd,Nat.reduceSub,Nat.reduceLeDiff,reduceCtorEq,vg,Xz]<;>exact gg0
     have q2:gF ot=some ⟨true,2,rows⟩:=by rw[<-JF];simp only[go_sem, ↓reduceIte,Nat.reduceEqDiff,Nat.reduceAdd,Nat.reduceSub,Nat.reduceLeDiff,reduceCtorEq,vt,XB]<;>exact gt0
     have q3:TX (fun s=>s=25005009) y0 gF x2 rows (jk W H (W+H)):=hX.frame (Nat.le_refl _) fun i _ i0 i1=>by
      have h9:=dE i1
      have h8:=(dD (a:=⟨7000000,n0⟩) (b:=i) bL).2
      rw[<-JF]
      simp only[go_sem, ↓reduceIte,Nat.reduceEqDiff,Nat.reduceAdd,Nat.reduceSub,Nat.reduceLeDiff,reduceCtorEq,h9,h8]
     have nC:=(dD (a:=⟨7000000,n0⟩) (b:=⟨7025007,x2+1⟩) bL).2
     have q4:gF ⟨7025007,x2+1⟩=some ⟨true,3,[ai ⟨⟨0,0⟩,0⟩]⟩:=by rw[<-JF];simp only[go_sem, ↓reduceIte,Nat.reduceEqDiff,Nat.reduceAdd,Nat.reduceSub,Nat.reduceLeDiff,reduceCtorEq,nC]<;>rfl
     have hF:=CN (p:=⟨⟨0,0⟩,0⟩) q1 rfl q2 rfl q3 q4
     exact⟨[.agg [.own og 0 (jj (H-1) (W-1)).length,.own ot 0 (jk W H (W+H)).length,.own ⟨7025007,x2+1⟩ 0 1,.int .i64 2],.int .i64 0],sd (tw @p0 (tw @p1 (tw @p4 (tw @p5 (tw @p6 @p9))))),.fK [.agg (ej (pV W H)),.int .i64 0],by(try dsimp only);rw[JF];simp only[iL,gp,cV,dH,hF,eW,Option.map_some]<;>rfl,rfl⟩
end
end Go.Proofs.YtakkdjfmiffbfaaGreatDoor.V

namespace Go.Proofs.YtakkdjfmiffbfaaGreatDoor.V
open Go.RowKit
end Go.Proofs.YtakkdjfmiffbfaaGreatDoor.V

namespace Go.Proofs.YtakkdjfmiffbfaaGreatDoor.V
end Go.Proofs.YtakkdjfmiffbfaaGreatDoor.V

namespace Go.Proofs.YtakkdjfmiffbfaaGreatDoor.V
open Go.RowKit
attribute [local irreducible] dL wpOps ez Call
attribute [local go_sem] ay ew dZ eE eC cY upd bJ K.av bZ AV.cells AV.cell rowOf rowsOf part ld rowAt eO bH bI cX dj eQ bq cF dx eA ed cQ dq cD cC dc de bu aE cm bt cr cq dn dr dp ck bz cE dm br aw cw bQ eP aZ bW bx aD cR aQ cZ AV.undef bd bj dh di c6 da bV dw dz bP du dt cu cz List.getD_cons_zero List.getD_cons_succ List.getD_nil List.all_cons List.all_nil Bool.and_true Bool.true_and Bool.and_self Bool.not_true Bool.not_false Option.map_some Option.map_none Option.bind_some Option.bind_none List.length_cons List.length_nil List.take_succ_cons List.take_zero List.take_nil List.drop_succ_cons List.drop_zero List.drop_nil List.head?_cons List.map_cons List.map_nil List.getElem?_cons_zero List.getElem?_cons_succ List.cons_append List.nil_append List.append_nil List.length_map List.set_cons_zero List.set_cons_succ Nat.reduceMul eq_self Int.toNat_natCast Int.natCast_nonneg and_self true_and and_true decide_true decide_false Bool.false_eq_true Nat.zero_add Nat.add_zero List.contains_cons List.contains_nil Bool.or_false Bool.false_or beq_self_eq_true Nat.reduceBEq ne_eq not_true_eq_false not_false_eq_true Id.mk.injEq false_and and_false Nat.reduceLT Int.reduceLE Int.reduceLT Int.reduceToNat Int.reduceNeg Int.reduceAdd Nat.le_refl List.length_append beq_true beq_false Bool.not_eq_eq_eq_not or_false false_or dW ad ae aL aI bf bR az bc aA aJ cj bh
end Go.Proofs.YtakkdjfmiffbfaaGreatDoor.V

namespace Go.Proofs.YtakkdjfmiffbfaaGreatDoor.V
end Go.Proofs.YtakkdjfmiffbfaaGreatDoor.V

namespace Go.Proofs.YtakkdjfmiffbfaaGreatDoor.V
open Go.RowKit
end Go.Proofs.YtakkdjfmiffbfaaGreatDoor.V

namespace Go.Proofs.YtakkdjfmiffbfaaGreatDoor.V
open Go.RowKit
attribute [local irreducible] dL wpOps ez Call
attribute [local go_sem] ay ew dZ eE eC cY upd bJ K.av bZ AV.cells AV.cell rowOf rowsOf part ld rowAt eO bH bI cX dj eQ bq cF dx eA ed cQ dq cD cC dc de bu aE cm bt cr cq dn dr dp ck bz cE dm br aw cw bQ eP aZ bW bx aD cR aQ cZ AV.undef bd bj dh di c6 da bV dw dz bP du dt cu cz List.getD_cons_zero List.getD_cons_succ List.getD_nil List.all_cons List.all_nil Bool.and_true Bool.true_and Bool.and_self Bool.not_true Bool.not_false Option.map_some Option.map_none Option.bind_some Option.bind_none List.length_cons List.length_nil List.take_succ_cons List.take_zero List.take_nil List.drop_succ_cons List.drop_zero List.drop_nil List.head?_cons List.map_cons List.map_nil List.getElem?_cons_zero List.getElem?_cons_succ List.cons_append List.nil_append List.append_nil List.length_map List.set_cons_zero List.set_cons_succ Nat.reduceMul eq_self Int.toNat_natCast Int.natCast_nonneg and_self true_and and_true decide_true decide_false Bool.false_eq_true Nat.zero_add Nat.add_zero List.contains_cons List.contains_nil Bool.or_false Bool.false_or beq_self_eq_true Nat.reduceBEq ne_eq not_true_eq_false not_false_eq_true Id.mk.injEq false_and and_false Nat.reduceLT Int.reduceLE Int.reduceLT Int.reduceToNat Int.reduceNeg Int.reduceAdd Nat.le_refl List.length_append beq_true beq_false Bool.not_eq_eq_eq_not or_false false_or dW ad ae aL aI bf bR az bc aA aJ cj bh
def p2 (d:Nat):Int:=2 ^ d
theorem y8 {s:ax} {es:List aa} {i:Nat} (hA:ju s.ar (ek s es i)) (hf:eI s (ek s es i) (cP es i).cG (cP es i).cL=true):eF (ek s es i) (cP es i).cG<0:=
 (De hA _).1 (by simp[eI]at hf;exact hf.1.2)
theorem y9 {s:ax} (hP:kU s) {es:List aa}:∀i,i<=es.length->(∀j,j<i->iW s es j=true)->qw s (es.take i,ek s es i)
 |0,_,_=>⟨fun q=>by simp[ek],by simp[ek]⟩
 |i+1,hi,h=>by
  have ih:=y9 hP (es:=es) i ab fun j hj=>h j ab
  have hg:=h i ab
  rw[iW,Bool.and_eq_true,OC,Bool.and_eq_true]at hg
  have hA:=jS hP (es:=es) i ab fun j hj=>h j ab
  have:=ih.put (x:=cP es i) (y8 hA hg.1.2)
  rw[ke s es ab,rN ab]
  exact this
end Go.Proofs.YtakkdjfmiffbfaaGreatDoor.V

namespace Go.Proofs.YtakkdjfmiffbfaaGreatDoor.V
open Go.RowKit
end Go.Proofs.YtakkdjfmiffbfaaGreatDoor.V

namespace Go.Proofs.YtakkdjfmiffbfaaGreatDoor.V
open Go.RowKit
attribute [local irreducible] dL wpOps ez Call
attribute [local go_sem] ay ew dZ eE eC cY upd bJ K.av bZ AV.cells AV.cell rowOf rowsOf part ld rowAt eO bH bI cX dj eQ bq cF dx eA ed cQ dq cD cC dc de bu aE cm bt cr cq dn dr dp ck bz cE dm br aw cw bQ eP aZ bW bx aD cR aQ cZ AV.undef bd bj dh di c6 da bV dw dz bP du dt cu cz List.getD_cons_zero List.getD_cons_succ List.getD_nil List.all_cons List.all_nil Bool.and_true Bool.true_and Bool.and_self Bool.not_true Bool.not_false Option.map_some Option.map_none Option.bind_some Option.bind_none List.length_cons List.length_nil List.take_succ_cons List.take_zero List.take_nil List.drop_succ_cons List.drop_zero List.drop_nil List.head?_cons List.map_cons List.map_nil List.getElem?_cons_zero List.getElem?_cons_succ List.cons_append List.nil_append List.append_nil List.length_map List.set_cons_zero List.set_cons_succ Nat.reduceMul eq_self Int.toNat_natCast Int.natCast_nonneg and_self true_and and_true decide_true decide_false Bool.false_eq_true Nat.zero_add Nat.add_zero List.contains_cons List.contains_nil Bool.or_false Bool.false_or beq_self_eq_true Nat.reduceBEq ne_eq not_true_eq_false not_false_eq_true Id.mk.injEq false_and and_false Nat.reduceLT Int.reduceLE Int.reduceLT Int.reduceToNat Int.reduceNeg Int.reduceAdd Nat.le_refl List.length_append beq_true beq_false Bool.not_eq_eq_eq_not or_false false_or dW ad ae aL aI bf bR az bc aA aJ cj bh
end Go.Proofs.YtakkdjfmiffbfaaGreatDoor.V

namespace Go.Proofs.YtakkdjfmiffbfaaGreatDoor.V
open Go.RowKit
end Go.Proofs.YtakkdjfmiffbfaaGreatDoor.V

namespace Go.Proofs.YtakkdjfmiffbfaaGreatDoor.V
open Go.RowKit
attribute [local irreducible] dL wpOps ez Call
attribute [local go_sem] ay ew dZ eE eC cY upd bJ K.av bZ AV.cells AV.cell rowOf rowsOf part ld rowAt eO bH bI cX dj eQ bq cF dx eA ed cQ dq cD cC dc de bu aE cm bt cr cq dn dr dp ck bz cE dm br aw cw bQ eP aZ bW bx aD cR aQ cZ AV.undef bd bj dh di c6 da bV dw dz bP du dt cu cz List.getD_cons_zero List.getD_cons_succ List.getD_nil List.all_cons List.all_nil Bool.and_true Bool.true_and Bool.and_self Bool.not_true Bool.not_false Option.map_some Option.map_none Option.bind_some Option.bind_none List.length_cons List.length_nil List.take_succ_cons List.take_zero List.take_nil List.drop_succ_cons List.drop_zero List.drop_nil List.head?_cons List.map_cons List.map_nil List.getElem?_cons_zero List.getElem?_cons_succ List.cons_append List.nil_append List.append_nil List.length_map List.set_cons_zero List.set_cons_succ Nat.reduceMul eq_self Int.toNat_natCast Int.natCast_nonneg and_self true_and and_true decide_true decide_false Bool.false_eq_true Nat.zero_add Nat.add_zero List.contains_cons List.contains_nil Bool.or_false Bool.false_or beq_self_eq_true Nat.reduceBEq ne_eq not_true_eq_false not_false_eq_true Id.mk.injEq false_and and_false Nat.reduceLT Int.reduceLE Int.reduceLT Int.reduceToNat Int.reduceNeg Int.reduceAdd Nat.le_refl List.length_append beq_true beq_false Bool.not_eq_eq_eq_not or_false false_or dW ad ae aL aI bf bR az bc aA aJ cj bh
theorem Ny {sch:List Int} {k:Nat} (h:k<sch.length):(sch.map bE)[k]? =some [.int .i64 (sch.getD k 0)]:=getD_map bE h
theorem xj (a b:Nat):(a:Int).tmod (b:Int)=((a % b:Nat):Int):=by rw[Int.tmod_eq_emod_of_nonneg ab];rfl
end Go.Proofs.YtakkdjfmiffbfaaGreatDoor.V

namespace Go.Proofs.YtakkdjfmiffbfaaGreatDoor.V
open Go.RowKit
abbrev iV (s:ax) (K:List aa):ax:=⟨s.ar,⟨K⟩,s.bD⟩
theorem pe {s:ax} (hP:IE s) {es:List aa}:∀i,i<=es.length->(∀j,j<i->iW s es j=true)->ju s.ar (ek s es i)
 |0,_,_=>hP.nI
 |i+1,hi,h=>by
  have ih:=pe hP (es:=es) i ab fun j hj=>h j ab
  have hg:=h i ab
  rw[iW,Bool.and_eq_true,OC,Bool.and_eq_true]at hg
  rw[ke s es ab]
  exact E5 ih (of_decide_eq_true hg.2) hg.1.1 hg.1.2 hP.set.rO
theorem wP {s:ax} (hP:IE s) {es:List aa}:∀i,i<=es.length->(∀j,j<i->iW s es j=true)->qw s (es.take i,ek s es i)
 |0,_,_=>⟨fun q=>by simp[ek],by simp[ek]⟩
 |i+1,hi,h=>by
  have ih:=wP hP (es:=es) i ab fun j hj=>h j ab
  have hg:=h i ab
  rw[iW,Bool.and_eq_true,OC,Bool.and_eq_true]at hg
  have hA:=pe hP (es:=es) i ab fun j hj=>h j ab
  have:=ih.put (x:=cP es i) (y8 hA hg.1.2)
  rw[ke s es ab,rN ab]
  exact this
theorem rz (s:ax) (K l:List aa):iG (iV s K) l=iG s l:=rfl
def mT (w:World) (g t:Nat) (s:ByteArray):Prop:=∃(a:Addr) (c:Array Value) (ty XL:TypeId),w.heap[g]? =some (.cells #[.iface t (.pointer (some a))] XL (0,0))/\w.heap[a.block]? =some (.cells c ty (0,0))/\w.cell? a=some (.string s)
def vn (g t:Nat) (s:ByteArray):Row:=⟨false,1,[[.err g t s]]⟩
def xI (x y t:Nat) (s u:ByteArray):Rows:=fun id=>if id=oq x then some (vn x t s)else if id=oq y then some (vn y t u)else none
def GG (x y:Nat):Names:=fun id=>if id=oq x then some ⟨x,1,1,none⟩else if id=oq y then some ⟨y,1,1,none⟩else none
variable {P:Program} {w:World} {ι:Names}
theorem mT.eG {g t:Nat} {s:ByteArray} (h:mT w g t s):∃v,w.cell? ⟨g,0,none⟩=some v/\jK P w (fun b=>b<w.heap.size) (.err g t s) v:=by
 obtain⟨a,c,ty,XL,h1,h2,h3⟩:=h
 have hc:w.cell? ⟨g,0,none⟩=some (.iface t (.pointer (some a))):=by simp[World.cell?,h1]
 exact⟨_,hc,.err g t s a c ty (Array.getElem?_eq_some_iff.1 h1).1 hc (Array.getElem?_eq_some_iff.1 h2).1 h2 h3⟩
theorem mT.obj {g t:Nat} {s:ByteArray} (h:mT w g t s):gD P w (fun b=>b<w.heap.size) ι ⟨g,1,1,none⟩ (vn g t s):=by
 obtain⟨v,hv,hi⟩:=h.eG (P:=P)
 obtain⟨a,c,ty,XL,h1,_⟩:=h
 refine j6.obj ⟨rfl,⟨_,_,h1,rfl⟩,Nat.le_refl _,?_,?_,?_⟩ rfl
 ·intro cs eb
  rw[List.mem_singleton.1 eb];rfl
 ·intro cs eb a ha
  rw[List.mem_singleton.1 eb]at ha
  rw[List.mem_singleton.1 ha];rfl
 ·intro i j cs a hi hj
  cases i with
  |zero=>
   simp[vn]at hi
   subst hi
   cases j with
   |zero=>
    simp at hj
    subst hj
    exact⟨v,by simpa using hv,.eG _ _ hi⟩
   |succ j=>simp at hj
  |succ i=>simp[vn]at hi
theorem PI {x y:Nat} (h:x≠y):oq y≠oq x:=fun e=>by
 have:=congrArg Id.site e
 simp only[oq]at this
 omega
theorem Pz {x y t:Nat} {s u:ByteArray} (ig:x≠y) (h1:mT w x t s) (h2:mT w y t u):fY P w.heap.size (fun b=>b<w.heap.size) (GG x y) (xI x y t s u) w:=by
 refine⟨Nat.le_refl _,fun _ h=>h,fun id r h=>?_,fun id jQ r r' B B' h h' hw=>?_⟩
 ·unfold xI at h
  unfold GG
  split at h
  ·rename_i e
   injection h with h
   subst h
   rw[if_pos e]
   exact⟨_,rfl,h1.obj,fun h=>(by cases h),fun h=>(by cases h)⟩
  ·rename_i e
   rw[if_neg e]
   split at h
   ·rename_i e2
    injection h with h
    subst h
    rw[if_pos e2]
    exact⟨_,rfl,h2.obj,fun h=>(by cases h),fun h=>(by cases h)⟩
   ·cases h
 ·exfalso
  unfold xI at h
  split at h
  ·injection h with h;subst h;cases hw
  ·split at h
   ·injection h with h;subst h;cases hw
   ·cases h
theorem Mi (x y:Nat):Used (GG x y) 1 (fun _=>False):=fun id h=>.inl (by
 unfold GG at h
 split at h
 ·rename_i e;rw[e];exact Nat.zero_lt_one
 ·split at h
  ·rename_i e;rw[e];exact Nat.zero_lt_one
  ·exact absurd rfl h)
theorem M4 (hm:P.follows .mixedOrders=true) {f:Nat} {args:List AV} {vs:Array Value} {x y t:Nat} {s u:ByteArray} (ig:x≠y) (h:Call P f args ⟨xI x y t s u,1⟩ fun r _=>r=.bool true)
  (h1:mT w x t s) (h2:mT w y t u) (hA:fo P w (fun b=>b<w.heap.size) (fun _=>none) args vs):
  Calls P f vs w fun e w'=>e=.returned (.bool true)/\Below w.heap.size w w':=by
 have hA':fo P w (fun b=>b<w.heap.size) (GG x y) args vs:=⟨hA.1,fun j a hj=>by
  obtain⟨v,k1,k2⟩:=hA.2 j a hj
  exact⟨v,k1,k2.frame (fun _ _=>rfl) (fun _ h=>h) fun id B hB=>(by cases hB)⟩⟩
 refine(gG hm h w.heap.size (fun b=>b<w.heap.size) (GG x y) w vs (Pz ig h1 h2) (Mi x y) hA').mono ?_
 rintro e w' ⟨r,g',n',D',ι',v,rfl,rfl,ee,hsim,_,_,hZ⟩
 exact⟨by rw[fm hZ],ee.below⟩
theorem Px (x y t:Nat) (s u:ByteArray):xI x y t s u (oq x)=some ⟨false,1,[[.err x t s]]⟩:=by unfold xI;rw[if_pos rfl];rfl
theorem Py {x y:Nat} (h:x≠y) (t:Nat) (s u:ByteArray):xI x y t s u (oq y)=some ⟨false,1,[[.err y t u]]⟩:=by unfold xI;rw[if_neg (PI h),if_pos rfl];rfl
end Go.Proofs.YtakkdjfmiffbfaaGreatDoor.V

namespace Go.Proofs.YtakkdjfmiffbfaaGreatDoor.V
open Go.RowKit Go.ChangeShapes Go.WideShapes Go.ChangeAt
theorem Hh {P:Program} {n0 n1 nm:String} {OK OL:List UInt8} {r:List (String×DataW Unit)} {W:World} {g0 g1:Nat} {ti tp te ts:TypeId} {ms:Array (String×TypeId)} {f:Field}
  (h:laidMet P ((n0,.iface nm (.ptr (.agg [.lit (.string OK)])))::(n1,.iface nm (.ptr (.agg [.lit (.string OL)])))::r) W)
  (SZ:P.globalNamed n0=some g0) (Tw:(P.globals[g0]?).map (·.type)=some ti) (xt:P.globalNamed n1=some g1) (Vp:(P.globals[g1]?).map (·.type)=some ti)
  (hi:P.underlying ti=some (.interface ms)) (fS:∀u,P.typeName? 3 u=some nm->u=tp)
  (hp:P.underlying tp=some (.pointer te)) (he:P.underlying te=some (.struct #[f])) (hft:f.type=ts) (JE:f.offset=0) (hs:P.underlying ts=some .string) (hc:P.cellsOf te=1) (eb:P.cellsOf ts=1):
  ∃a0 a1:Addr,W.var? P n0=some #[.iface tp (.pointer (some a0))]/\W.var? P n1=some #[.iface tp (.pointer (some a1))]/\mT W g0 tp ⟨OK.toArray⟩/\mT W g1 tp ⟨OL.toArray⟩:=by
 obtain⟨ps,⟨g0',t0',UN,f0,p0,q0,S3,Xj,yL,hd0,⟨DI,t1',cs1,f1,p1,q1,S4,Xk,qb,Ly,_,e1⟩,e0⟩,pI,j7⟩:=h
 obtain rfl:=Option.some.inj (SZ.symm.trans S3)
 obtain rfl:=Option.some.inj (xt.symm.trans S4)
 obtain rfl:=Option.some.inj (Tw.symm.trans Xj)
 obtain rfl:=Option.some.inj (Vp.symm.trans Xk)
 subst e1
 subst e0
 obtain⟨l0⟩:=UN
 obtain⟨l1⟩:=cs1
 have ok0:∀u v,l0=[.iface u v]->Value.okWide P W .any 0 u v:=fun u v e=>by
  subst e
  exact(j7 g0 0 (by simp[MemPlace.row])).2 u v (by simpa using World.var?_cell S3 yL 0)
 have ok1:∀u v,l1=[.iface u v]->Value.okWide P W .any 0 u v:=fun u v e=>by
  subst e
  exact(j7 g1 0 (by simp[MemPlace.row])).2 u v (by simpa using World.var?_cell S4 qb 0)
 obtain⟨a0,s0,rfl,jA,G5,MP,rfl⟩:=errorString_of_trod hi fS hp he hft JE hs hc eb hd0 ok0
 obtain⟨a1,s1,rfl,pF,yJ,pM,rfl⟩:=errorString_of_trod hi fS hp he hft JE hs hc eb Ly ok1
 have k0:=j7 g0 0 (by simp[MemPlace.row])
 have k1:=j7 g1 0 (by simp[MemPlace.row])
 obtain⟨c0,t0,yC⟩:=(j7 a0.block a0.off (by simp[MemPlace.row])).1
 obtain⟨c1,t1,P5⟩:=(j7 a1.block a1.off (by simp[MemPlace.row])).1
 have Sw:∀{n:String} {g:Nat} {v:Value},P.globalNamed n=some g->W.var? P n=some #[v]->(∃c t,W.heap[g]? =some (.cells c t (0,0)))->∃t,W.heap[g]? =some (.cells #[v] t (0,0)):=fun {n g v} hg hv ⟨c,t,hb⟩=>by
  unfold World.var? at hv
  rw[hg]at hv
  simp only[Option.bind_some,hb,Option.some.injEq]at hv
  exact⟨t,by rw[hb,hv]⟩
 obtain⟨y0,z0⟩:=Sw SZ yL k0.1
 obtain⟨y1,z1⟩:=Sw xt qb k1.1
 have str:∀{s:ByteArray} {l:List UInt8},s.data.toList=l->s=⟨l.toArray⟩:=fun {s l} e=>by
  subst e;cases s;simp
 rw[str G5]at jA
 rw[str yJ]at pF
 exact⟨a0,a1,yL,qb,⟨a0,c0,t0,y0,z0,yC,jA⟩,⟨a1,c1,t1,y1,z1,P5,pF⟩⟩
theorem var?_below {P:Program} {n:String} {W W':World} {g:Nat} {x:Array Value} (hg:P.globalNamed n=some g) (hv:W.var? P n=some x) (hb:Below W.heap.size W W'):W'.var? P n=some x:=by
 rw[<-hv]
 unfold World.var? at hv ⊢
 rw[hg]at hv ⊢
 simp only[Option.bind_some]at hv ⊢
 have eR:g<W.heap.size:=by
  rcases Nat.lt_or_ge g W.heap.size with h'|h'
  ·exact h'
  ·rw[Array.getElem?_eq_none h']at hv;cases hv
 rw[hb.block g eR]
theorem mJ {P:Program} {x:String×DataW Unit} {r:List (String×DataW Unit)} {W:World} (h:laidMet P (x::r) W):laidMet P r W:=by
 obtain⟨ps,hv,hn,hr⟩:=h
 obtain⟨n,d⟩:=x
 obtain⟨g,t,cs,fuel,p,q,_,_,_,_,hq,rfl⟩:=hv
 exact⟨q,hq,(List.nodup_append.1 hn).2.1,fun b off hm=>hr b off (List.mem_append_right _ hm)⟩
def gT:Nat:=0
def gN:Nat:=1
def tE:Nat:=353
def sT:ByteArray:=⟨#[110,111,32,116,105,108,101,32,99,97,110,32,97,116,116,97,99,104]⟩
def sN:ByteArray:=⟨#[116,111,111,32,109,97,110,121,32,116,105,108,101,115]⟩
theorem sTN:sT≠sN:=by decide
theorem Jr:Tryz.prog.globalNamed "loop.example/g01081/impl.errTerminal" =some gT:=by kernel_rfl
theorem Jq:Tryz.prog.globalNamed "loop.example/g01081/impl.errNoSpace" =some gN:=by kernel_rfl
theorem Of:(Tryz.prog.globals[gT]?).map (·.type)=some 150:=by kernel_rfl
theorem Oe:(Tryz.prog.globals[gN]?).map (·.type)=some 150:=by kernel_rfl
theorem Q4:Tryz.prog.cellsOf 377=1:=by kernel_rfl
theorem Q6:Tryz.prog.cellsOf 9=1:=by kernel_rfl
theorem F5: "*" ++ "errors.errorString" = "*errors.errorString" :=by decide
theorem Q5 (u:TypeId) (h:Tryz.prog.typeName? 3 u=some "*errors.errorString"):u=353:=
 typeName_ptr_named (nm:= "errors.errorString") (by rw[F5];kernel_rfl) (by kernel_rfl) (by decide) u (by rw[F5];exact h)
theorem Hi {W:World} {r:List (String×DataW Unit)} (h:laidMet Tryz.prog (("loop.example/g01081/impl.errTerminal",Rows.laid_loop_example_g01081_impl_errTerminal)::("loop.example/g01081/impl.errNoSpace",Rows.laid_loop_example_g01081_impl_errNoSpace)::r) W):
  ∃a0 a1:Addr,W.var? Tryz.prog "loop.example/g01081/impl.errTerminal" =some #[.iface tE (.pointer (some a0))]/\W.var? Tryz.prog "loop.example/g01081/impl.errNoSpace" =some #[.iface tE (.pointer (some a1))]/\mT W gT tE sT/\mT W gN tE sN:=
 Hh h Jr Of Jq Oe Tryz.underlying150 Q5 Tryz.underlying353 Tryz.underlying377 rfl rfl Tryz.underlying9 Q4 Q6
end Go.Proofs.YtakkdjfmiffbfaaGreatDoor.V

namespace Go.Proofs.YtakkdjfmiffbfaaGreatDoor.V
open Go.RowKit
attribute [local irreducible] dL wpOps ez Call
attribute [local go_sem] ay ew dZ eE eC cY upd bJ K.av bZ AV.cells AV.cell rowOf rowsOf part ld rowAt eO bH bI cX dj eQ bq cF dx eA ed cQ dq cD cC dc de bu aE cm bt cr cq dn dr dp ck bz cE dm br aw cw bQ eP aZ bW bx aD cR aQ cZ AV.undef bd bj dh di c6 da bV dw dz bP du dt cu cz List.getD_cons_zero List.getD_cons_succ List.getD_nil List.all_cons List.all_nil Bool.and_true Bool.true_and Bool.and_self Bool.not_true Bool.not_false Option.map_some Option.map_none Option.bind_some Option.bind_none List.length_cons List.length_nil List.take_succ_cons List.take_zero List.take_nil List.drop_succ_cons List.drop_zero List.drop_nil List.head?_cons List.map_cons List.map_nil List.getElem?_cons_zero List.getElem?_cons_succ List.cons_append List.nil_append List.append_nil List.length_map List.set_cons_zero List.set_cons_succ Nat.reduceMul eq_self Int.toNat_natCast Int.natCast_nonneg and_self true_and and_true decide_true decide_false Bool.false_eq_true Nat.zero_add Nat.add_zero List.contains_cons List.contains_nil Bool.or_false Bool.false_or beq_self_eq_true Nat.reduceBEq ne_eq not_true_eq_false not_false_eq_true Id.mk.injEq false_and and_false Nat.reduceLT Int.reduceLE Int.reduceLT Int.reduceToNat Int.reduceNeg Int.reduceAdd Nat.le_refl List.length_append beq_true beq_false Bool.not_eq_eq_eq_not or_false false_or dW ad ae aL aI bf bR az bc aA aJ cj bh
theorem Um (sch:List Int) (hs:∀x∈sch,0<=x/\x<=1000) (nP:sch.length<=200) (n d:Nat) (hn:0<n):aP Tryz.prog 130 [.int .i64 (n:Int),.int .i64 (d:Int),.eT [.sl (sch.map bE)]] (.int .i64 (ua sch d n:Int)):=by
 refine aP.body fH rfl fun fR n0=>?_
 clear fR
 have fw:(sch.map bE).length=sch.length:=by simp
 by_cases G5:sch.length=0
 ·have hz:decide ((sch.length:Int)=0)=true:=decide_eq_true ab
  (try((repeat(revert hN;revert N;apply Pn.out));refine wk (tw @fw @hz) ?_;(repeat(refine Pn.mk ?_;intro N hN))))
  exact fx (b:=0) (.inl rfl) (sd @Nat.zero_add) (by rw[ua,if_pos G5];rfl)
 ·have hz:decide ((sch.length:Int)=0)=false:=decide_eq_false ab
  have Xh:((sch.length:Int)=0)=False:=eq_false ab
  have Ws:((n:Int)=0)=False:=eq_false ab
  have Ly:=xj d sch.length
  have Qa:d % sch.length<sch.length:=Nat.mod_lt _ ab
  have hdi:((d % sch.length:Nat):Int)<(sch.length:Int):=ab
  have JG:=Ny Qa
  have Th:=(hs (sch.getD (d % sch.length) 0) (by rw[List.getD_eq_getElem?_getD,List.getElem?_eq_getElem Qa];exact List.getElem_mem Qa)).1
  have WS:(sch.getD (d % sch.length) 0).tmod (n:Int)=(ua sch d n:Int):=by
   rw[ua,if_neg G5]
   have h9:=xj (sch.getD (d % sch.length) 0).toNat n
   rwa [Int.toNat_of_nonneg Th]at h9
  generalize sch.getD (d % sch.length) 0=z at *
  generalize d % sch.length=dd at *
  (try((repeat(revert hN;revert N;apply Pn.out));refine wk (tw @fw (tw @hz (tw @Xh (tw @Ws (tw @Ly (tw @hdi (tw @JG @WS))))))) ?_;(repeat(refine Pn.mk ?_;intro N hN))))
  exact fx (.inl rfl) (sd @WS) rfl
def fF (g:Rows):Prop:=(∃b,g (oq 0)=some ⟨b,1,[[.err 0 tE sT]]⟩)/\∃b,g (oq 1)=some ⟨b,1,[[.err 1 tE sN]]⟩
theorem fF.frame {g g':Rows} (h:fF g) {n:Nat} (hn:1<=n) (hf:∀x:Id,x.cW<n->x.site=999000000∨x.site=999000001->g' x=g x):fF g':=by
 obtain⟨⟨b,h1⟩,c,h2⟩:=h
 exact⟨⟨b,(hf (oq 0) hn (.inl rfl)).trans h1⟩,c,(hf (oq 1) hn (.inr rfl)).trans h2⟩
theorem iN (k:Nat):(oq k).cW=0:=rfl
def RZ (σ:aq) (c T O:Id) (s:ax) (K:List aa) (sch:List Int) (es:List aa) (r:AV) (σ':aq):Prop:=
 σ.next<=σ'.next/\(∀x:Id,x.cW<σ.next->x≠T->x≠O->σ'.get x=σ.get x)/\
 ((iG (iV s K) (ek (iV s K) es es.length)=[]/\r=.fK [.agg [.int .i64 0,.int .i64 0,.int .i64 0],.err 0 tE sT]/\np σ'.get σ'.next c T O s (K++es))∨(iG (iV s K) (ek (iV s K) es es.length)≠[]/\500<=(ek (iV s K) es es.length).length/\r=.fK [.agg [.int .i64 0,.int .i64 0,.int .i64 0],.err 1 tE sN])∨(iG (iV s K) (ek (iV s K) es es.length)≠[]/\(ek (iV s K) es es.length).length<500/\r=.fK [.agg (ai (cP (iG (iV s K) (ek (iV s K) es es.length)) (ua sch es.length (iG (iV s K) (ek (iV s K) es es.length)).length))),.iF]/\np σ'.get σ'.next c T O s (K++(es++[cP (iG (iV s K) (ek (iV s K) es es.length)) (ua sch es.length (iG (iV s K) (ek (iV s K) es es.length)).length)]))))
theorem Km {σ:aq} {c T O B:Id} {s:ax} {K:List aa} (hP:IE (iV s K)) {es:List aa} (hG:gC (iV s K) es) (h:np σ.get σ.next c T O s (K++es)) (hE:fF σ.get) (qq:1<=σ.next)
  {sch:List Int} (hs:∀x∈sch,0<=x/\x<=1000) (nP:sch.length<=200) {bw:Bool} (hB:σ.get B=some ⟨bw,1,[[.sl (sch.map bE)]]⟩) (UU:B.cW<σ.next):
  Call Tryz.prog 99 [.ptr c 0 0,.fn 130 [.ptr B 0 0],.int .i64 (es.length:Int)] σ (RZ σ c T O s K sch es):=by
 refine Ir (cfM [(3,2),(5,2)]) rfl fun fR=>?_
 clear fR
 have hT:1<=s.bD:=(eH hP.pz).1
 have jc:gj s.ar:=hP.set
 have hA:=pe hP (es:=es) es.length (Nat.le_refl _) hG
 have hA:ju s.ar (ek (iV s K) es es.length):=hA
 have P3:=wP hP (es:=es) es.length (Nat.le_refl _) hG
 rw[List.take_length]at P3
 have su:gL s (K++es)=gL s (ek (iV s K) es es.length):=by
  funext q
  unfold gL
  exact si (fun t=>(P3.fit q t:eI s (K++es) q t=eI s (ek (iV s K) es es.length) q t)) _
 have la:(ek (iV s K) es es.length).length=K.length+es.length:=oF (iV s K) es es.length (Nat.le_refl _)
 have JC:=hA.1.CX
 have v1:=dE (i:=oq 0) (n:=σ.next) (by rw[iN];omega)
 have v2:=dE (i:=oq 1) (n:=σ.next) (by rw[iN];omega)
 have v3:=dE h.o.cv
 have v4:=dE h.o.tv
 have v5:=dE h.o.ov
 have v6:=dE UU
 have fS:=h.o.row
 have G6:=h.o.tl
 obtain⟨⟨b0,hE0⟩,b1,Sz⟩:=hE
 (try((repeat(revert hN;revert N;apply Pn.out));refine wk (tw @fS @v3) ?_;(repeat(refine Pn.mk ?_;intro N hN))))
 refine .inr (aS _ _ _ _ _ (fun r σ1 hq=>?_) (QJ (c:=c) (T:=T) (O:=O) (l:=ek (iV s K) es es.length) ⟨sd (tw @fS @v3),by have:=h.o.cv;(try dsimp only);omega,by have:=h.o.ov;(try dsimp only);omega,by
  obtain⟨en,a1,a2⟩:=h.op
  rw[su]at a2
  exact⟨en,sd (tw @a1 @v5),a2.frame bL fun x hx _=>by
   have h1:=dE hx
   simp only[go_sem, ↓reduceIte,Nat.reduceEqDiff,Nat.reduceAdd,Nat.reduceSub,Nat.reduceLeDiff,reduceCtorEq,h1]⟩⟩ hT jc hA))
 obtain⟨g1,x1⟩:=σ1
 obtain⟨hn,hf,hL⟩:=hq
 (try dsimp only at hn hf hL)
 have Ic:np g1 x1 c T O s (K++es):=h.frame ab fun x hx=>by
  have h1:=dE hx
  have h2:=hf x bL
  simp only[go_sem, ↓reduceIte,Nat.reduceEqDiff,Nat.reduceAdd,Nat.reduceSub,Nat.reduceLeDiff,reduceCtorEq,h1]at h2
  exact h2
 have k0:=hf (oq 0) (by rw[iN];(try dsimp only);omega)
 have k1:=hf (oq 1) (by rw[iN];(try dsimp only);omega)
 have kB:=hf B bL
 have kr:=hf ⟨99000000,σ.next⟩ bL
 simp only[go_sem, ↓reduceIte,Nat.reduceEqDiff,Nat.reduceAdd,Nat.reduceSub,Nat.reduceLeDiff,reduceCtorEq,v1,hE0]at k0
 simp only[go_sem, ↓reduceIte,Nat.reduceEqDiff,Nat.reduceAdd,Nat.reduceSub,Nat.reduceLeDiff,reduceCtorEq,v2,Sz]at k1
 simp only[go_sem, ↓reduceIte,Nat.reduceEqDiff,Nat.reduceAdd,Nat.reduceSub,Nat.reduceLeDiff,reduceCtorEq,v6,hB]at kB
 simp only[go_sem, ↓reduceIte,Nat.reduceEqDiff,Nat.reduceAdd,Nat.reduceSub,Nat.reduceLeDiff,reduceCtorEq]at kr
 have JT:=Ic.o.row
 have Qy:=Ic.o.tl
 have w0:=dE (i:=oq 0) (n:=x1) (by rw[iN];omega)
 have w1:=dE (i:=oq 1) (n:=x1) (by rw[iN];omega)
 have w2:=dE (i:=(⟨99000000,σ.next⟩:Id)) (n:=x1) bL
 have w3:=dE Ic.o.cv
 have w4:=dE Ic.o.tv
 have w6:=dE (i:=B) (n:=x1) ab
 have u0:(oq 0=(⟨99000000,σ.next⟩:Id))=False:=eq_false fun e=>by have:=congrArg Id.cW e;rw[iN]at this;(try dsimp only at this);omega
 have u1:(oq 1=(⟨99000000,σ.next⟩:Id))=False:=eq_false fun e=>by have:=congrArg Id.cW e;rw[iN]at this;(try dsimp only at this);omega
 have base:∀x:Id,x.cW<σ.next->g1 x=σ.get x:=fun x hx=>by
  have h1:=dE hx
  have h2:=hf x bL
  simp only[go_sem, ↓reduceIte,Nat.reduceEqDiff,Nat.reduceAdd,Nat.reduceSub,Nat.reduceLeDiff,reduceCtorEq,h1]at h2
  exact h2
 refine hN _ _ ?_
 clear hN N
 have JL:((K++es).map ai).length=(ek (iV s K) es es.length).length:=by rw[List.length_map,List.length_append,la]
 rw[show AM (eI s (ek (iV s K) es es.length)) s.ar.ah.length (lY (ek (iV s K) es es.length))=iG s (ek (iV s K) es es.length)from rfl]at hL
 have hob:=Kx jc hA
 have p0:(oq 0).site=999000000:=rfl
 have p1:(oq 1).site=999000001:=rfl
 rcases hL with⟨hO,rfl⟩|⟨u,rfl,gu,z1,z2,z3,z4⟩
 ·have MP:decide (((0:Nat):Int)=0)=true:=rfl
  have pM:decide ((0:Int)=0)=true:=rfl
  (try((repeat(revert hN;revert N;apply Pn.out));refine wk (tw @k0 (tw @kr (tw @w0 (tw @u0 (tw @p0 (tw @MP @pM)))))) ?_;(repeat(refine Pn.mk ?_;intro N hN))))
  refine xq ?_ ?_
  ·(try((repeat(revert hN;revert N;apply Pn.out));refine wk (tw @k0 (tw @kr (tw @w0 (tw @u0 @p0)))) ?_;(repeat(refine Pn.mk ?_;intro N hN))))
   exact eK (.inl rfl) (vs:=[.agg [.int .i64 0,.int .i64 0,.int .i64 0],.err 0 tE sT]) (sd @Nat.zero_add) ⟨bL,fun x hx _ _=>by
    have q1:=dE hx
    simp only[go_sem, ↓reduceIte,Nat.reduceEqDiff,Nat.reduceAdd,Nat.reduceSub,Nat.reduceLeDiff,reduceCtorEq,q1,base x hx],.inl ⟨hO,rfl,h.frame bL fun x hx=>by
     have q1:=dE hx
     simp only[go_sem, ↓reduceIte,Nat.reduceEqDiff,Nat.reduceAdd,Nat.reduceSub,Nat.reduceLeDiff,reduceCtorEq,q1,base x hx]⟩⟩
  ·(try((repeat(revert hN;revert N;apply Pn.out));refine wk (tw @k0 (tw @kr (tw @w0 (tw @u0 @p0)))) ?_;(repeat(refine Pn.mk ?_;intro N hN))))
   exact eK (.inl rfl) (vs:=[.agg [.int .i64 0,.int .i64 0,.int .i64 0],.err 0 tE sT]) (sd @Nat.zero_add) ⟨bL,fun x hx _ _=>by
    have q1:=dE hx
    simp only[go_sem, ↓reduceIte,Nat.reduceEqDiff,Nat.reduceAdd,Nat.reduceSub,Nat.reduceLeDiff,reduceCtorEq,q1,base x hx],.inl ⟨hO,rfl,h.frame bL fun x hx=>by
     have q1:=dE hx
     simp only[go_sem, ↓reduceIte,Nat.reduceEqDiff,Nat.reduceAdd,Nat.reduceSub,Nat.reduceLeDiff,reduceCtorEq,q1,base x hx]⟩⟩
 ·generalize hO:iG s (ek (iV s K) es es.length)=L at *
  have PZ:decide ((L.length:Int)=0)=false:=decide_eq_false ab
  have ig:L≠[]:=fun e=>by rw[e]at z3;simp at z3
  by_cases yD:500<=(ek (iV s K) es es.length).length
  ·have Va:(500:Int)<=((ek (iV s K) es es.length).length:Int):=ab
   (try((repeat(revert hN;revert N;apply Pn.out));refine wk (tw @k1 (tw @kr (tw @w1 (tw @w2 (tw @u1 (tw @p1 (tw @PZ (tw @JT (tw @w3 (tw @Qy (tw @w4 (tw @JL @Va)))))))))))) ?_;(repeat(refine Pn.mk ?_;intro N hN))))
   refine xq ?_ ?_
   ·(try((repeat(revert hN;revert N;apply Pn.out));refine wk (tw @k1 (tw @kr (tw @w1 (tw @w2 (tw @u1 @p1))))) ?_;(repeat(refine Pn.mk ?_;intro N hN))))
    exact eK (.inl rfl) (vs:=[.agg [.int .i64 0,.int .i64 0,.int .i64 0],.err 1 tE sN]) (sd @Nat.zero_add) ⟨bL,fun x hx _ _=>by
     have q1:=dE hx
     simp only[go_sem, ↓reduceIte,Nat.reduceEqDiff,Nat.reduceAdd,Nat.reduceSub,Nat.reduceLeDiff,reduceCtorEq,q1,base x hx],.inr (.inl ⟨by rw[rz,hO];exact ig,yD,rfl⟩)⟩
   ·(try((repeat(revert hN;revert N;apply Pn.out));refine wk (tw @k1 (tw @kr (tw @w1 (tw @w2 (tw @u1 @p1))))) ?_;(repeat(refine Pn.mk ?_;intro N hN))))
    exact eK (.inl rfl) (vs:=[.agg [.int .i64 0,.int .i64 0,.int .i64 0],.err 1 tE sN]) (sd @Nat.zero_add) ⟨bL,fun x hx _ _=>by
     have q1:=dE hx
     simp only[go_sem, ↓reduceIte,Nat.reduceEqDiff,Nat.reduceAdd,Nat.reduceSub,Nat.reduceLeDiff,reduceCtorEq,q1,base x hx],.inr (.inl ⟨by rw[rz,hO];exact ig,yD,rfl⟩)⟩
  ·have Va:decide ((500:Int)<=((ek (iV s K) es es.length).length:Int))=false:=decide_eq_false ab
   obtain⟨j,hj⟩:∃j,ua sch es.length L.length=j:=⟨_,rfl⟩
   have iZ:j<L.length:=by rw[<-hj];exact pn z3
   have mj:(j:Int)<(L.length:Int):=ab
   have Qv:=Um sch hs nP L.length es.length z3
   rw[hj]at Qv
   have xN:=jn iZ
   have LK:cP L j∈iG s (ek (iV s K) es es.length):=by rw[hO];exact gP iZ
   obtain⟨x,hx⟩:∃x,cP L j=x:=⟨_,rfl⟩
   rw[hx]at xN LK
   obtain⟨hxt,Vw⟩:=Ct LK
   have Vy:za x.cG=true:=by
    unfold eI at Vw
    simp only[Bool.and_eq_true]at Vw
    exact Vw.1.1
   have DZ:eF (K++es) x.cG<0:=P3.no (Jj hA (fun _ h=>h) Vw)
   rw[ai]at xN
   have Oh:(L.map ai).length=L.length:=by simp
   (repeat(first|((repeat(revert hN;revert N;apply Pn.out));refine wk (tw @k1 (tw @kr (tw @kB (tw @w1 (tw @w2 (tw @w6 (tw @u1 (tw @p1 (tw @PZ (tw @JT (tw @w3 (tw @Qy (tw @w4 (tw @JL (tw @Va (tw @gu (tw @Oh (tw @mj @xN)))))))))))))))))) ?_;(repeat(refine Pn.mk ?_;intro N hN)))|((try apply Or.inl);refine⟨_,aP.x (Qv) (sd (tw @k1 (tw @kr (tw @kB (tw @w1 (tw @w2 (tw @w6 (tw @u1 (tw @p1 (tw @PZ (tw @JT (tw @w3 (tw @Qy (tw @w4 (tw @JL (tw @Va (tw @gu (tw @Oh (tw @mj @xN))))))))))))))))))),?_⟩;refine hN _ _ ?_;clear hN N)))
   have hF:∀q,0<=gJ (K++es) q->ef s.ar (gJ (K++es) q)=true:=fun q h=>by
    have e:gJ (K++es) q=gJ (ek (iV s K) es es.length) q:=P3.at_ q
    rw[e]at h ⊢
    exact gj.N4 hA q h
   have Vl:=fun(σ:aq) (h:np σ.get σ.next c T O s (K++es))=>T9 h jc hF x.cG Vy x.cL hxt DZ
   rw[aj]at Vl
   refine .inr (aS _ _ _ _ _ (fun r σ2 hq=>?_) (Vl _ (Ic.frame bL fun y hy=>by
    have q:=dE hy
    simp only[go_sem, ↓reduceIte,Nat.reduceEqDiff,Nat.reduceAdd,Nat.reduceSub,Nat.reduceLeDiff,reduceCtorEq,q])))
   obtain⟨g2,x2⟩:=σ2
   obtain⟨rfl,Wb,n3,f3⟩:=hq
   (try dsimp only at Wb n3 f3)
   have BN:=h.o.tv
   have DN:=h.o.ov
   have Xx:=f3 ⟨99000000,σ.next⟩ bL (fun e=>by rw[<-e]at BN;(try dsimp only at BN);omega) (fun e=>by rw[<-e]at DN;(try dsimp only at DN);omega)
   have kx2:=f3 ⟨99006008,x1+1+1+1⟩ bL (fun e=>by rw[<-e]at BN;(try dsimp only at BN);omega) (fun e=>by rw[<-e]at DN;(try dsimp only at DN);omega)
   simp only[go_sem, ↓reduceIte,Nat.reduceEqDiff,Nat.reduceAdd,Nat.reduceSub,Nat.reduceLeDiff,reduceCtorEq,w2,kr]at Xx
   simp only[go_sem, ↓reduceIte,Nat.reduceEqDiff,Nat.reduceAdd,Nat.reduceSub,Nat.reduceLeDiff,reduceCtorEq]at kx2
   refine hN _ _ ?_
   clear hN N
   (try((repeat(revert hN;revert N;apply Pn.out));refine wk (tw @Xx @kx2) ?_;(repeat(refine Pn.mk ?_;intro N hN))))
   refine eK (.inl rfl) (vs:=[.agg [.int .i64 x.cG.fu,.int .i64 x.cG.eZ,.int .i64 x.cL],.iF]) (sd @Nat.zero_add) ⟨bL,fun y hy QE hyO=>?_,.inr (.inr ⟨by rw[rz,hO];exact ig,ab,by rw[rz,hO,hj,hx];rfl,?_⟩)⟩
   ·have q1:=dE hy
    have q2:=f3 y bL QE hyO
    have q3:=dE (i:=y) (n:=x1) ab
    simp only[go_sem, ↓reduceIte,Nat.reduceEqDiff,Nat.reduceAdd,Nat.reduceSub,Nat.reduceLeDiff,reduceCtorEq,q3]at q2
    simp only[go_sem, ↓reduceIte,Nat.reduceEqDiff,Nat.reduceAdd,Nat.reduceSub,Nat.reduceLeDiff,reduceCtorEq,q1]
    exact q2.trans (base y hy)
   ·rw[rz,hO,hj,hx,<-List.append_assoc]
    have e6:∀y:Id,y.cW<σ.next->(y=(⟨99000000,σ.next⟩:Id))=False:=fun y hy=>eq_false fun e=>by rw[e]at hy;(try dsimp only at hy);omega
    have u6c:=e6 c h.o.cv
    have u6T:=e6 T BN
    have u6O:=e6 O DN
    obtain⟨en,a1,a2⟩:=Wb.op
    refine⟨Wb.o.three bL (sd @u6c) (sd @u6T) (sd @u6O),en,sd (tw @u6O @a1),a2.frame bL fun y hy ⟨k,r,hk⟩=>?_⟩
    have W8:(y=(⟨99000000,σ.next⟩:Id))=False:=eq_false fun e=>by
     rw[e,Xx]at hk
     simp at hk
    simp only[go_sem, ↓reduceIte,Nat.reduceEqDiff,Nat.reduceAdd,Nat.reduceSub,Nat.reduceLeDiff,reduceCtorEq,W8]
end Go.Proofs.YtakkdjfmiffbfaaGreatDoor.V
