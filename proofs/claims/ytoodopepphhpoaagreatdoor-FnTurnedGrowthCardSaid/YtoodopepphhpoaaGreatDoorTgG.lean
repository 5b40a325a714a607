/- The parts into which an assembly breaks: plain facts. Whatever cuts are taken, the parts are the same. -/
import Derived.Test.YtoodopepphhpoaaGreatDoorTgC
import Derived.Test.YtoodopepphhpoaaGreatDoorTgD
import Derived.Test.YtoodopepphhpoaaGreatDoorTgB
import Derived.Test.YtoodopepphhpoaaGreatDoorTgF
import Derived.Test.YtoodopepphhpoaaGreatDoorTgE
import Derived.Stop.LaidErr
import Derived.Test.YtoodopepphhpoaaGreatDoorChecked
import Derived.Test.YtoodopepphhpoaaGreatDoorRows
import Derived.ProofKit
import Derived.ChangeOld
import Derived.Below
import Derived.WalkKit
import Derived.LaidEql
import Derived.Stop.Asserts
import Derived.RowKitTokens
import Derived.Deep.Slices
import Derived.ChangeSame
import Derived.OpenShut
import Derived.ShutString
import Derived.Lay
import Derived.Handed
import Derived.MakeChecks
set_option linter.unusedVariables false
set_option linter.unusedSimpArgs false
set_option maxRecDepth 100000
set_option maxHeartbeats 16000000
namespace Go.Proofs.YtoodopepphhpoaaGreatDoor.V
def Ni (Q:Nat->Prop) [DecidablePred Q] (S:Nat->Bool) (bs:List PB):Int:=(bs.map fun b=>if Q b.a/\Q b.b then(if S b.a=S b.b then 0 else b.s)else 0).sum
theorem Cd {P Q:Nat->Prop} [DecidablePred P] [DecidablePred Q] {S:Nat->Bool} (h:∀x,P x->Q x):∀{bs:List PB},(∀b∈bs,0<=b.s)->Ni P S bs<=Ni Q S bs
 |[],_=>Int.le_refl _
 |b::bs,hs=>by
  have ih:=Cd (S:=S) h (bs:=bs) fun x hx=>hs x (List.mem_cons_of_mem _ hx)
  have h0:=hs b List.mem_cons_self
  unfold Ni at ih ⊢
  simp only[List.map_cons,List.sum_cons]
  have:(if P b.a/\P b.b then(if S b.a=S b.b then 0 else b.s)else 0)<=(if Q b.a/\Q b.b then(if S b.a=S b.b then 0 else b.s)else 0):=by
   by_cases hp:P b.a/\P b.b
   ·have hq:Q b.a/\Q b.b:=⟨h _ hp.1,h _ hp.2⟩
    rw[if_pos hp,if_pos hq];exact Int.le_refl _
   ·rw[if_neg hp]
    split
    ·split<;>omega
    ·exact Int.le_refl _
  omega
def MR (bs:List PB) (t:Int) (P:List Nat):Prop:=∀S:Nat->Bool,(∃x∈P,S x=true)->(∃y∈P,S y=false)->t<=Ni (·∈P) S bs
theorem Wb {bs:List PB} {t:Int} {P Q:List Nat} (hs:∀b∈bs,0<=b.s) (hP:MR bs t P) (h:∀x∈P,x∈Q) {S:Nat->Bool} (hc:Ni (·∈Q) S bs<t):(∀x∈P,S x=true)∨∀x∈P,S x=false:=by
 by_cases h1:∃x∈P,S x=true
 ·refine .inl fun y hy=>?_
  cases h2:S y
  ·have:=hP S h1 ⟨y,hy,h2⟩
   have:=Cd (P:=(·∈P)) (Q:=(·∈Q)) (S:=S) h hs
   omega
  ·rfl
 ·refine .inr fun y hy=>?_
  cases h2:S y
  ·rfl
  ·exact absurd ⟨y,hy,h2⟩ h1
structure PartsP (n:Nat) (bs:List PB) (t:Int) (R:List (List Nat)):Prop where
 some:∀p∈R,p≠[]
 asc:∀p∈R,p.Pairwise (· < ·)
 lt:∀p∈R,∀x∈p,x<n
 apart:R.Pairwise fun p q=>∀x∈p,x∉q
 solid:∀P:List Nat,P≠[]->(∀x∈P,x<n)->MR bs t P->∃p∈R,∀x∈P,x∈p
end Go.Proofs.YtoodopepphhpoaaGreatDoor.V

namespace Go.Proofs.YtoodopepphhpoaaGreatDoor.V
open Go.RowKit
attribute [local irreducible] eu wpOps fB Call
theorem IZ {f g:Nat->Int}:∀{n:Nat},(∀i,i<n->f i<=g i)->l5 f n=l5 g n->∀i,i<n->f i=g i
 |0,_,_,i,hi=>absurd hi ad
 |n+1,h,he,i,hi=>by
  simp only[l5]at he
  have h1:=sQ (n:=n) fun i hi=>h i ad
  have h2:=h n ad
  by_cases gS:i=n
  ·subst gS;omega
  ·have e:l5 f n=l5 g n:=ad
   exact IZ (n:=n) (fun i hi=>h i ad) e i ad
def p2 (d:Nat):Int:=2 ^ d
noncomputable def VP (s:au) (l:List aa) (x:aa):Nat->Int
 |0=>0
 |d+1=>if 0<=fy l (cj x.bf d)/\0<fM s.az x.bc d (fy l (cj x.bf d))then VP s l x d+p2 d else VP s l x d
noncomputable def mskL (s:au) (es:List aa) (i:Nat):List Int:=(List.range i).map fun j=>VP s (dn s es j) (bh es j) 4
noncomputable def sumL (s:au) (es:List aa) (i:Nat):List Int:=(List.range i).map fun j=>lr s.az (fy (dn s es j)) (bh es j).bf (bh es j).bc
def PyL (s:au) (es:List aa) (i:Nat) (X:Id) (e7 e8:AV) (g:Rows) (n:Nat):Prop:=∃o u v:Id,g X=some ⟨true,1,[[.own o 0 (dn s es i).length]]⟩/\g o=some ⟨true,3,(dn s es i).map ab⟩/\e7=.own u 0 i/\g u=some ⟨true,1,(mskL s es i).map aL⟩/\e8=.own v 0 i/\g v=some ⟨true,1,(sumL s es i).map aL⟩/\X.bt<n/\o.bt<n/\u.bt<n/\v.bt<n/\o≠X/\u≠X/\v≠X/\o≠u/\o≠v/\u≠v
theorem CN {s:au} {es:List aa} {i:Nat} (hA:iS s.az (dn s es i)) (hf:eB s (dn s es i) (bh es i).bf (bh es i).bc=true):eO (dn s es i) (bh es i).bf<0:=
 (wO hA _).1 (by simp[eB]at hf;exact hf.1.2)
theorem CO {s:au} (hP:jz s) {es:List aa}:∀i,i<=es.length->(∀j,j<i->jt s es j=true)->uF s (es.take i,dn s es i)
 |0,_,_=>⟨fun q=>by simp[dn],by simp[dn]⟩
 |i+1,hi,h=>by
  have ih:=CO hP (es:=es) i ad fun j hj=>h j ad
  have hg:=h i ad
  rw[jt,Bool.and_eq_true,Qg,Bool.and_eq_true]at hg
  have hA:=fQ hP (es:=es) i ad fun j hj=>h j ad
  have:=ih.put (x:=bh es i) (CN hA hg.1.2)
  rw[kh s es ad,wh ad]
  exact this
structure MadeP (s:au) (a:List aa):Prop where
 asm:iS s.az a
 s9:zl s.dc.ai a=true
 grown:(insA s a).2=a
theorem Ei {sch:List Int} {k:Nat} (h:k<sch.length):(sch.map aL)[k]? =some [.int .i64 (sch.getD k 0)]:=getD_map aL h
theorem pY (a b:Nat):(a:Int).tmod (b:Int)=((a % b:Nat):Int):=by rw[Int.tmod_eq_emod_of_nonneg ad];rfl
noncomputable def FI (s:au) (sch:List Int) (steps:Nat) (b:Bool):AV:=match nj s sch steps with
 |some es=>.fX [.sl (es.map ab),.agg [.sl ((dn s es es.length).map ab)],.bool b,.int .i64 0]
 |none=>.fX [.cr,.agg [.cr],.bool b,.int .i64 4]
theorem Lq (s:au) (hP:jz s) (sch:List Int) (hs:∀x∈sch,0<=x/\x<=1000) (sk:sch.length<=200) (steps:Nat) (eA:steps<=500):
  jJ Tryz.prog 29 [.er (dh s),.er [.sl (s.dc.ai.map ab)],.sl (sch.map aL),.int .i64 (steps:Int)] fun r=>∃b,r=FI s sch steps b:=by
 refine jJ.body fW rfl fun jd n0=>?_
 clear jd
 have Zx:=hP.s9.1.xR
 have gy:(sch.map aL).length=sch.length:=by simp
 (try((repeat(revert N;apply Pn.out));refine wk @dh.eq_1 ?_;(repeat(apply Pn.mk;intro N hN))))
 refine .inr (aH _ _ _ _ _ (fun r σ1 JQ=>?_) (TR.val (fun n=>Oq s.dc.ai ad n) (by simp only[aj,ar,aK,Option.map_some])))
 obtain⟨⟨o,rfl,q1,q2,q3⟩,hK⟩:=JQ
 obtain⟨g1,x1⟩:=σ1
 (try dsimp only at q1 q2 q3 hK)
 have tP:=hK.1
 (try dsimp only at tP)
 have k4:=hK.2 ⟨29000001,n0⟩ bp
 simp only[go_sem, ↓reduceIte,Nat.reduceEqDiff,Nat.reduceAdd,Nat.reduceSub,Nat.reduceLeDiff,reduceCtorEq]at k4
 apply hN
 clear hN N
 (try((repeat(revert N;apply Pn.out));refine wk (tw @k4 @dh.eq_1) ?_;(repeat(apply Pn.mk;intro N hN))))
 have Zq:=xw s []
 obtain⟨X,hX⟩:∃X:Id,X=⟨29001002,x1⟩:=⟨_,rfl⟩
 obtain⟨Y,hY⟩:∃Y:Id,Y=⟨29000001,n0⟩:=⟨_,rfl⟩
 have hXY:X≠Y:=by rw[hX,hY];intro e;injection e with e1 e2;revert e1;decide
 have vo0:=dp (i:=o) (n:=x1) q3
 refine cm (fun m env st=>∃(es:List aa) (f:Nat),m=f/\me s sch steps f es=nj s sch steps/\fK s es/\es.length<=steps/\501<=f+(dn s es es.length).length/\(∃o w:Id,env 13=.own w 0 es.length/\st.get w=some ⟨true,3,es.map ab⟩/\st.get X=some ⟨true,1,[[.own o 0 (dn s es es.length).length]]⟩/\st.get o=some ⟨true,3,(dn s es es.length).map ab⟩/\o≠w/\o≠X/\o≠Y/\o.bt<st.next/\w.bt<st.next/\(w.site=29002000∨w.site=29015006))/\st.get Y=some ⟨true,1,[[.cr]]⟩/\x1<st.next) 501 ⟨[],501,rfl,rfl,fK.nil s,by simp,ad,⟨o,⟨29002000,x1+1⟩,sl @Nat.zero_add,sl @Nat.zero_add,by rw[hX];simp only[go_sem, ↓reduceIte,Nat.reduceEqDiff,Nat.reduceAdd,Nat.reduceSub,Nat.reduceLeDiff,reduceCtorEq]<;>rfl,sl (tw @vo0 @q1),fun e=>by rw[e]at q3;(try dsimp only at q3);omega,fun e=>by rw[e,hX]at q3;(try dsimp only at q3);omega,fun e=>by rw[e,hY]at q2;(try dsimp only at q2);omega,bp,bp,.inl rfl⟩,by rw[hY];simp only[go_sem, ↓reduceIte,Nat.reduceEqDiff,Nat.reduceAdd,Nat.reduceSub,Nat.reduceLeDiff,reduceCtorEq,k4],bp⟩ ?_
 rintro m env_b st_b ⟨es,f,rfl,hgro,hgood,hes,Y4,⟨o,w,zC,gw,gX,go,n1,n2,n3,vo,vw,sw⟩,gY,bn⟩ fb
 have b0:=fb 0 (by kernel_rfl)
 have b2:=fb 2 (by kernel_rfl)
 have b3:=fb 3 (by kernel_rfl)
 have b9:=fb 9 (by kernel_rfl)
 have G8:=fb 12 (by kernel_rfl)
 rw[<-hX]at G8
 rw[<-hY]at b9
 simp only[go_sem, ↓reduceIte,Nat.reduceEqDiff,Nat.reduceAdd,Nat.reduceSub,Nat.reduceLeDiff,reduceCtorEq,dh]at b0 b2 b3 b9 G8
 clear fb
 have hA:=fQ hP (es:=es) es.length (Nat.le_refl _) hgood
 have hfw:=hA.1.xR
 obtain⟨f,rfl⟩:∃f,m=f+1:=⟨m-1,ad⟩
 rw[me]at hgro
 have eS:=DT s hP _ hA
 rw[show uK (eB s (dn s es es.length)) s.az.ai.length (jU (dn s es es.length))=jf s (dn s es es.length)from rfl]at eS
 obtain⟨L,hL⟩:∃L,jf s (dn s es es.length)=L:=⟨_,rfl⟩
 rw[hL]at hgro eS
 have lV:(L.map ab).length=L.length:=by simp
 have hptr:=J6 gX go
 have xv:X.bt<st_b.next:=by rw[hX];exact bn
 have vX:=dp xv
 have vY:=dp (i:=Y) (n:=st_b.next) (by rw[hY];(try dsimp only);omega)
 have vO:=dp vo
 have vW:=dp vw
 have e1:(o=w)=False/\(w=o)=False:=⟨eq_false n1,eq_false fun e=>n1 e.symm⟩
 have e2:(o=X)=False/\(X=o)=False:=⟨eq_false n2,eq_false fun e=>n2 e.symm⟩
 have e3:(o=Y)=False/\(Y=o)=False:=⟨eq_false n3,eq_false fun e=>n3 e.symm⟩
 have e4:(X=Y)=False/\(Y=X)=False:=⟨eq_false hXY,eq_false fun e=>hXY e.symm⟩
 have e5:(X=w)=False/\(w=X)=False:=by
  have:X≠w:=fun e=>by rw[<-e,hX]at sw;(try dsimp only at sw);revert sw;decide
  exact⟨eq_false this,eq_false fun e=>this e.symm⟩
 have e6:(Y=w)=False/\(w=Y)=False:=by
  have:Y≠w:=fun e=>by rw[<-e,hY]at sw;(try dsimp only at sw);revert sw;decide
  exact⟨eq_false this,eq_false fun e=>this e.symm⟩
 have fzW:∀g:Rows,g w=some ⟨true,3,es.map ab⟩->iy g 5 (.own w 0 es.length)=some (.sl (es.map ab)):=fun g h=>fN (e:=ab) h rfl fun x=>by simp[ab,cF,dq,eT]
 have fzO:∀g:Rows,g o=some ⟨true,3,(dn s es es.length).map ab⟩->iy g 4 (.own o 0 (dn s es es.length).length)=some (.sl ((dn s es es.length).map ab)):=fun g h=>fN (e:=ab) h rfl fun x=>by simp[ab,cF,dq,eT]
 have hmw:(es.map ab).length=es.length:=by simp
 (try((repeat(revert N;apply Pn.out));refine wk (tw @b0 (tw @G8 @vX)) ?_;(repeat(apply Pn.mk;intro N hN))))
 refine .inl ⟨_,ax.x eS (fzr2 (by simp only[dh,aK]) hptr),?_⟩
 apply hN
 clear hN N
 have XH:(dn s es es.length).length<=500:=hfw
 have hgW:=fzW (ck st_b.get Y ⟨true,1,[[.own o 0 (dn s es es.length).length]]⟩) (sd (tw @e6 @gw))
 have hgO:=fzO (ck st_b.get Y ⟨true,1,[[.own o 0 (dn s es es.length).length]]⟩) (sd (tw @e3 @go))
 by_cases JL:L.length=0
 ·rw[if_pos JL]at hgro
  have hd:decide ((L.length:Int)=0)=true:=decide_eq_true ad
  have oi:decide (L.length=0)=true:=decide_eq_true JL
  (try((repeat(revert N;apply Pn.out));refine wk (tw @b0 (tw @b2 (tw @b3 (tw @b9 (tw @G8 (tw @zC (tw @gX (tw @gY (tw @lV (tw @hd (tw @oi (tw @vX (tw @vY @e4))))))))))))) ?_;(repeat(apply Pn.mk;intro N hN))))
  exact⟨[.own w 0 es.length,.agg [.own o 0 (dn s es es.length).length],.bool true,.int .i64 0],sd @b9,_,by simp only[iF,gj,cF,dq,uY,hgW,hgO,gi,eT,Option.map_some]<;>rfl,true,by rw[FI,<-hgro]⟩
 have K3:decide ((L.length:Int)=0)=false:=decide_eq_false ad
 have YY:decide (L.length=0)=false:=decide_eq_false JL
 rw[if_neg JL]at hgro
 by_cases vd:(steps:Int)<=(es.length:Int)
 ·rw[if_pos ad]at hgro
  (try((repeat(revert N;apply Pn.out));refine wk (tw @b0 (tw @b2 (tw @b3 (tw @b9 (tw @G8 (tw @zC (tw @gX (tw @gY (tw @lV (tw @K3 (tw @YY (tw @vd (tw @vX (tw @vY @e4)))))))))))))) ?_;(repeat(apply Pn.mk;intro N hN))))
  exact⟨[.own w 0 es.length,.agg [.own o 0 (dn s es es.length).length],.bool false,.int .i64 0],sd @b9,_,by simp only[iF,gj,cF,dq,uY,hgW,hgO,gi,eT,Option.map_some]<;>rfl,false,by rw[FI,<-hgro]⟩
 rw[if_neg ad]at hgro
 obtain⟨j,hj⟩:∃j,uo sch es.length L.length=j:=⟨_,rfl⟩
 have iP:j<L.length:=by rw[<-hj];exact oF ad
 rw[hj]at hgro
 (try((repeat(revert N;apply Pn.out));refine wk (tw @b0 (tw @b2 (tw @b3 (tw @b9 (tw @G8 (tw @zC (tw @gX (tw @gY (tw @lV (tw @K3 (tw @YY (tw @vd @gy)))))))))))) ?_;(repeat(apply Pn.mk;intro N hN))))
 refine uu (fun e st=>∃n,st=⟨st_b.get,n⟩/\st_b.next<=n/\e 0=.er (dh s)/\e 2=.sl (sch.map aL)/\e 3=.int .i64 (steps:Int)/\e 9=.ptr Y 0 0/\e 12=.ptr X 0 0/\e 13=.own w 0 es.length/\e 14=.sl (L.map ab)/\e 15=.int .i64 (j:Int)) ?_ ?_
 ·rintro e st ⟨n,rfl,hn,c0,c2,c3,c9,qT,HC,c14,c15⟩
  apply hN
  clear hN N
  have nk:=gK iP
  have nN:(j:Int)<(L.length:Int):=ad
  have F8:bh L j∈jf s (dn s es es.length):=by rw[hL];exact gG iP
  have pb:=fun σ h1 h2=>M6 (X:=X) (o:=o) (l:=dn s es es.length) (σ:=σ) ad (bh L j) h1 h2
  obtain⟨x,hx⟩:∃x,bh L j=x:=⟨_,rfl⟩
  rw[hx]at nk hgro F8 pb
  rw[ab]at nk pb
  (try((repeat(revert N;apply Pn.out));refine wk (tw @c0 (tw @c2 (tw @c3 (tw @c9 (tw @qT (tw @HC (tw @c14 (tw @c15 (tw @nk (tw @lV @nN)))))))))) ?_;(repeat(apply Pn.mk;intro N hN))))
  refine .inr (aH _ _ _ _ _ (fun r σ2 N3=>?_) (pb _ (sd @gX) (sd @go)))
  obtain⟨pb,hK⟩:=N3
  obtain⟨g2,x2⟩:=σ2
  (try dsimp only at pb hK)
  have hn2:=hK.1
  (try dsimp only at hn2)
  have kX:=(hK.2 X bp).trans gX
  have kY:=(hK.2 Y (by rw[hY];(try dsimp only);omega)).trans gY
  have kW:=(hK.2 w bp).trans gw
  (try dsimp only at kX kY kW)
  have wX:=dp (i:=X) (n:=x2) ad
  have wY:=dp (i:=Y) (n:=x2) (by rw[hY];(try dsimp only);omega)
  have wW:=dp (i:=w) (n:=x2) ad
  apply hN
  clear hN N
  rcases pb with⟨h5,rfl⟩|⟨h5,o2,rfl,p1,p2,p3⟩
  ·rw[if_pos h5]at hgro
   (try((repeat(revert N;apply Pn.out));refine wk (tw @c0 (tw @c2 (tw @c3 (tw @c9 (tw @qT (tw @HC (tw @kY (tw @wX (tw @wY @wW))))))))) ?_;(repeat(apply Pn.mk;intro N hN))))
   exact⟨[.cr,.agg [.cr],.bool false,.int .i64 4],sd @c9,_,by simp only[iF,gj,cF,dq,uY,nf,gi,eT,Option.map_some]<;>rfl,false,by rw[FI,<-hgro]⟩
  ·rw[if_neg ad]at hgro
   (try dsimp only at p1 p2 p3)
   have wo:=dp (i:=o2) (n:=x2) p3
   have oX:=ei (a:=X) (b:=o2) ad
   have oY:=ei (a:=Y) (b:=o2) (by rw[hY];(try dsimp only);omega)
   have oW:=ei (a:=w) (b:=o2) ad
   have ya:=OV s es x
   have sk:=pg x (dn s es es.length)
   have Vb:(es++[x]).length=es.length+1:=by simp
   have qL:=hgood.add F8 h5
   have hes1:es.length<=16777215:=ad
   have FR:(es++[x]).map ab=es.map ab++[ab x]:=by simp
   rw[ab]at FR
   (try((repeat(revert N;apply Pn.out));refine wk (tw @c0 (tw @c2 (tw @c3 (tw @c9 (tw @qT (tw @HC (tw @kX (tw @kY (tw @kW (tw @wX (tw @wY (tw @wW (tw @wo (tw @oX (tw @oY (tw @oW (tw @e4 (tw @e5 (tw @e6 (tw @nk (tw @lV (tw @nN (tw @c14 (tw @c15 (tw @hmw @hes1))))))))))))))))))))))))) ?_;(repeat(apply Pn.mk;intro N hN))))
   refine⟨f,ad,es++[x],f,rfl,hgro,qL,by rw[Vb];omega,by rw[Vb,ya,sk];omega,⟨o2,⟨29015006,x2+1+1+1⟩,by rw[Vb];simp only[go_sem, ↓reduceIte,Nat.reduceEqDiff,Nat.reduceAdd,Nat.reduceSub,Nat.reduceLeDiff,reduceCtorEq]<;>rfl,by rw[FR];simp only[go_sem, ↓reduceIte,Nat.reduceEqDiff,Nat.reduceAdd,Nat.reduceSub,Nat.reduceLeDiff,reduceCtorEq]<;>rfl,by rw[Vb,ya];simp only[go_sem, ↓reduceIte,Nat.reduceEqDiff,Nat.reduceAdd,Nat.reduceSub,Nat.reduceLeDiff,reduceCtorEq,wX,e5]<;>rfl,by rw[Vb,ya];simp only[go_sem, ↓reduceIte,Nat.reduceEqDiff,Nat.reduceAdd,Nat.reduceSub,Nat.reduceLeDiff,reduceCtorEq,wo,oX,oW,p1],fun e=>by rw[e]at p3;(try dsimp only at p3);omega,fun e=>by rw[e]at p2;omega,fun e=>by rw[e,hY]at p2;(try dsimp only at p2);omega,bp,bp,.inr rfl⟩,sd (tw @wY (tw @e4 (tw @e6 @kY))),bp⟩
 ·intro N hN
  by_cases Mx:sch.length=0
  ·have Te:j=0:=by rw[<-hj,uo,if_pos Mx]
   have hsn:¬(0:Int)<(sch.length:Int):=ad
   subst Te
   (try((repeat(revert N;apply Pn.out));refine wk (tw @b0 (tw @b2 (tw @b3 (tw @b9 (tw @G8 (tw @zC (tw @gy @hsn))))))) ?_;(repeat(apply Pn.mk;intro N hN))))
   exact⟨_,rfl,bp,sd (tw @b0 @dh.eq_1),sd @b2,sd @b3,sd @b9,sd @G8,sd @zC,sd @Nat.zero_add,sl @Nat.zero_add⟩
  ·have hsn:(0:Int)<(sch.length:Int):=ad
   have Vq:((sch.length:Int)=0)=False:=eq_false ad
   have UP:((L.length:Int)=0)=False:=eq_false ad
   have uw:=pY es.length sch.length
   have Mr:es.length % sch.length<sch.length:=Nat.mod_lt _ ad
   have hdi:((es.length % sch.length:Nat):Int)<(sch.length:Int):=ad
   have Ms:=Ei Mr
   have Vd:=(hs (sch.getD (es.length % sch.length) 0) (by rw[List.getD_eq_getElem?_getD,List.getElem?_eq_getElem Mr];exact List.getElem_mem Mr)).1
   have XC:(sch.getD (es.length % sch.length) 0).tmod (L.length:Int)=(j:Int):=by
    rw[<-hj,uo,if_neg Mx]
    have h9:=pY (sch.getD (es.length % sch.length) 0).toNat L.length
    rwa [Int.toNat_of_nonneg Vd]at h9
   generalize sch.getD (es.length % sch.length) 0=z at *
   generalize es.length % sch.length=d at *
   (try((repeat(revert N;apply Pn.out));refine wk (tw @b0 (tw @b2 (tw @b3 (tw @b9 (tw @G8 (tw @zC (tw @gy (tw @hsn (tw @Vq (tw @UP (tw @lV (tw @uw (tw @hdi (tw @Ms @XC)))))))))))))) ?_;(repeat(apply Pn.mk;intro N hN))))
   exact⟨_,rfl,bp,sd (tw @b0 @dh.eq_1),sd @b2,sd @b3,sd @b9,sd @G8,sd @zC,sd @Nat.zero_add,sd @XC⟩
end Go.Proofs.YtoodopepphhpoaaGreatDoor.V

namespace Go.Proofs.YtoodopepphhpoaaGreatDoor.V
open Go.RowKit
abbrev kb (s:au) (K:List aa):au:=⟨s.az,⟨K⟩,s.aI⟩
theorem sF {s:au} (hP:MV s) {es:List aa}:∀i,i<=es.length->(∀j,j<i->jt s es j=true)->iS s.az (dn s es i)
 |0,_,_=>hP.s9
 |i+1,hi,h=>by
  have ih:=sF hP (es:=es) i ad fun j hj=>h j ad
  have hg:=h i ad
  rw[jt,Bool.and_eq_true,Qg,Bool.and_eq_true]at hg
  rw[kh s es ad]
  exact Jr ih (of_decide_eq_true hg.2) hg.1.1 hg.1.2 hP.set.qq
theorem AL {s:au} (hP:MV s) {es:List aa}:∀i,i<=es.length->(∀j,j<i->jt s es j=true)->uF s (es.take i,dn s es i)
 |0,_,_=>⟨fun q=>by simp[dn],by simp[dn]⟩
 |i+1,hi,h=>by
  have ih:=AL hP (es:=es) i ad fun j hj=>h j ad
  have hg:=h i ad
  rw[jt,Bool.and_eq_true,Qg,Bool.and_eq_true]at hg
  have hA:=sF hP (es:=es) i ad fun j hj=>h j ad
  have:=ih.put (x:=bh es i) (CN hA hg.1.2)
  rw[kh s es ad,wh ad]
  exact this
theorem vM (s:au) (K l:List aa):jf (kb s K) l=jf s l:=rfl
def p9 (w:World) (g t:Nat) (s:ByteArray):Prop:=∃(a:Addr) (c:Array Value) (ty ty0:TypeId),w.heap[g]? =some (.cells #[.iface t (.pointer (some a))] ty0 (0,0))/\w.heap[a.block]? =some (.cells c ty (0,0))/\w.cell? a=some (.string s)
def zS (g t:Nat) (s:ByteArray):Row:=⟨false,1,[[.err g t s]]⟩
def BC (x y t:Nat) (s u:ByteArray):Rows:=fun id=>if id=qD x then some (zS x t s)else if id=qD y then some (zS y t u)else none
def KT (x y:Nat):Names:=fun id=>if id=qD x then some ⟨x,1,1,none⟩else if id=qD y then some ⟨y,1,1,none⟩else none
variable {P:Program} {w:World} {ι:Names}
theorem p9.fq {g t:Nat} {s:ByteArray} (h:p9 w g t s):∃v,w.cell? ⟨g,0,none⟩=some v/\lO P w (fun b=>b<w.heap.size) (.err g t s) v:=by
 obtain⟨a,c,ty,ty0,h1,h2,h3⟩:=h
 have hc:w.cell? ⟨g,0,none⟩=some (.iface t (.pointer (some a))):=by simp[World.cell?,h1]
 exact⟨_,hc,.err g t s a c ty (Array.getElem?_eq_some_iff.1 h1).1 hc (Array.getElem?_eq_some_iff.1 h2).1 h2 h3⟩
theorem p9.obj {g t:Nat} {s:ByteArray} (h:p9 w g t s):jg P w (fun b=>b<w.heap.size) ι ⟨g,1,1,none⟩ (zS g t s):=by
 obtain⟨v,hv,hi⟩:=h.fq (P:=P)
 obtain⟨a,c,ty,ty0,h1,_⟩:=h
 refine mo.obj ⟨rfl,⟨_,_,h1,rfl⟩,Nat.le_refl _,?_,?_,?_⟩ rfl
 ·intro cs eD
  rw[List.mem_singleton.1 eD];rfl
 ·intro cs eD a ha
  rw[List.mem_singleton.1 eD]at ha
  rw[List.mem_singleton.1 ha];rfl
 ·intro i j cs a hi hj
  cases i with
  |zero=>
   simp[zS]at hi
   subst hi
   cases j with
   |zero=>
    simp at hj
    subst hj
    exact⟨v,by simpa using hv,.fq _ _ hi⟩
   |succ j=>simp at hj
  |succ i=>simp[zS]at hi
theorem Uw {x y:Nat} (h:x≠y):qD y≠qD x:=fun e=>by
 have:=congrArg Id.site e
 simp only[qD]at this
 omega
theorem Uq {x y t:Nat} {s u:ByteArray} (hZ:x≠y) (h1:p9 w x t s) (h2:p9 w y t u):iD P w.heap.size (fun b=>b<w.heap.size) (KT x y) (BC x y t s u) w:=by
 refine⟨Nat.le_refl _,fun _ h=>h,fun id r h=>?_,fun id lz r r' B B' h h' hw=>?_⟩
 ·unfold BC at h
  unfold KT
  split at h
  ·rename_i e
   injection h with h
   subst h
   rw[if_pos e]
   exact⟨_,rfl,h1.obj,fun h=>(by cases h),fun h=>(by cases h)⟩
  ·rename_i e
   rw[if_neg e]
   split at h
   ·rename_i e2
    injection h with h
    subst h
    rw[if_pos e2]
    exact⟨_,rfl,h2.obj,fun h=>(by cases h),fun h=>(by cases h)⟩
   ·cases h
 ·exfalso
  unfold BC at h
  split at h
  ·injection h with h;subst h;cases hw
  ·split at h
   ·injection h with h;subst h;cases hw
   ·cases h
theorem QI (x y:Nat):Used (KT x y) 1 (fun _=>False):=fun id h=>.inl (by
 unfold KT at h
 split at h
 ·rename_i e;rw[e];exact Nat.zero_lt_one
 ·split at h
  ·rename_i e;rw[e];exact Nat.zero_lt_one
  ·exact absurd rfl h)
theorem Ry (hm:P.follows .mixedOrders=true) {f:Nat} {args:List AV} {vs:Array Value} {x y t:Nat} {s u:ByteArray} (hZ:x≠y) (h:Call P f args ⟨BC x y t s u,1⟩ fun r _=>r=.bool true)
  (h1:p9 w x t s) (h2:p9 w y t u) (hA:gI P w (fun b=>b<w.heap.size) (fun _=>none) args vs):
  Calls P f vs w fun e w'=>e=.returned (.bool true)/\Below w.heap.size w w':=by
 have Yz:gI P w (fun b=>b<w.heap.size) (KT x y) args vs:=⟨hA.1,fun j a hj=>by
  obtain⟨v,k1,k2⟩:=hA.2 j a hj
  exact⟨v,k1,k2.frame (fun _ _=>rfl) (fun _ h=>h) fun id B hB=>(by cases hB)⟩⟩
 refine(iv hm h w.heap.size (fun b=>b<w.heap.size) (KT x y) w vs (Uq hZ h1 h2) (QI x y) Yz).mono ?_
 rintro e w' ⟨r,g',n',D',ι',v,rfl,rfl,eA,hsim,_,_,je⟩
 exact⟨by rw[gH je],eA.below⟩
theorem Uo (x y t:Nat) (s u:ByteArray):BC x y t s u (qD x)=some ⟨false,1,[[.err x t s]]⟩:=by unfold BC;rw[if_pos rfl];rfl
theorem Up {x y:Nat} (h:x≠y) (t:Nat) (s u:ByteArray):BC x y t s u (qD y)=some ⟨false,1,[[.err y t u]]⟩:=by unfold BC;rw[if_neg (Uw h),if_pos rfl];rfl
end Go.Proofs.YtoodopepphhpoaaGreatDoor.V

namespace Go.Proofs.YtoodopepphhpoaaGreatDoor.V
open Go.RowKit Go.ChangeShapes Go.WideShapes Go.ChangeAt
theorem Ls {P:Program} {n0 n1 nm:String} {TD TE:List UInt8} {r:List (String×DataW Unit)} {W:World} {g0 g1:Nat} {ti tp te ts:TypeId} {ms:Array (String×TypeId)} {f:Field}
  (h:laidMet P ((n0,.iface nm (.ptr (.agg [.lit (.string TD)])))::(n1,.iface nm (.ptr (.agg [.lit (.string TE)])))::r) W)
  (Y5:P.globalNamed n0=some g0) (ht0:(P.globals[g0]?).map (·.type)=some ti) (EL:P.globalNamed n1=some g1) (ht1:(P.globals[g1]?).map (·.type)=some ti)
  (hi:P.underlying ti=some (.interface ms)) (fC:∀u,P.typeName? 3 u=some nm->u=tp)
  (hp:P.underlying tp=some (.pointer te)) (he:P.underlying te=some (.struct #[f])) (hft:f.type=ts) (NR:f.offset=0) (hs:P.underlying ts=some .string) (hc:P.cellsOf te=1) (eD:P.cellsOf ts=1):
  ∃a0 a1:Addr,W.var? P n0=some #[.iface tp (.pointer (some a0))]/\W.var? P n1=some #[.iface tp (.pointer (some a1))]/\p9 W g0 tp ⟨TD.toArray⟩/\p9 W g1 tp ⟨TE.toArray⟩:=by
 obtain⟨ps,⟨g0',t0',cs0,f0,p0,q0,Y6,ht0',qn,hd0,⟨HR,t1',cs1,f1,p1,q1,Y7,ht1',tW,uw,_,e1⟩,e0⟩,qm,lv⟩:=h
 obtain rfl:=Option.some.inj (Y5.symm.trans Y6)
 obtain rfl:=Option.some.inj (EL.symm.trans Y7)
 obtain rfl:=Option.some.inj (ht0.symm.trans ht0')
 obtain rfl:=Option.some.inj (ht1.symm.trans ht1')
 subst e1
 subst e0
 obtain⟨l0⟩:=cs0
 obtain⟨l1⟩:=cs1
 have ok0:∀u v,l0=[.iface u v]->Value.okWide P W .any 0 u v:=fun u v e=>by
  subst e
  exact(lv g0 0 (by simp[MemPlace.row])).2 u v (by simpa using World.var?_cell Y6 qn 0)
 have ok1:∀u v,l1=[.iface u v]->Value.okWide P W .any 0 u v:=fun u v e=>by
  subst e
  exact(lv g1 0 (by simp[MemPlace.row])).2 u v (by simpa using World.var?_cell Y7 tW 0)
 obtain⟨a0,s0,rfl,kJ,Mx,Qf,rfl⟩:=errorString_of_trod hi fC hp he hft NR hs hc eD hd0 ok0
 obtain⟨a1,s1,rfl,qK,Ai,Ak,rfl⟩:=errorString_of_trod hi fC hp he hft NR hs hc eD uw ok1
 have k0:=lv g0 0 (by simp[MemPlace.row])
 have k1:=lv g1 0 (by simp[MemPlace.row])
 obtain⟨c0,t0,z8⟩:=(lv a0.block a0.off (by simp[MemPlace.row])).1
 obtain⟨c1,t1,Mp⟩:=(lv a1.block a1.off (by simp[MemPlace.row])).1
 have Yy:∀{n:String} {g:Nat} {v:Value},P.globalNamed n=some g->W.var? P n=some #[v]->(∃c t,W.heap[g]? =some (.cells c t (0,0)))->∃t,W.heap[g]? =some (.cells #[v] t (0,0)):=fun {n g v} hg hv ⟨c,t,hb⟩=>by
  unfold World.var? at hv
  rw[hg]at hv
  simp only[Option.bind_some,hb,Option.some.injEq]at hv
  exact⟨t,by rw[hb,hv]⟩
 obtain⟨y0,z0⟩:=Yy Y5 qn k0.1
 obtain⟨y1,z1⟩:=Yy EL tW k1.1
 have str:∀{s:ByteArray} {l:List UInt8},s.data.toList=l->s=⟨l.toArray⟩:=fun {s l} e=>by
  subst e;cases s;simp
 rw[str Mx]at kJ
 rw[str Ai]at qK
 exact⟨a0,a1,qn,tW,⟨a0,c0,t0,y0,z0,z8,kJ⟩,⟨a1,c1,t1,y1,z1,Mp,qK⟩⟩
theorem var?_below {P:Program} {n:String} {W W':World} {g:Nat} {x:Array Value} (hg:P.globalNamed n=some g) (hv:W.var? P n=some x) (hb:Below W.heap.size W W'):W'.var? P n=some x:=by
 rw[<-hv]
 unfold World.var? at hv ⊢
 rw[hg]at hv ⊢
 simp only[Option.bind_some]at hv ⊢
 have eP:g<W.heap.size:=by
  rcases Nat.lt_or_ge g W.heap.size with h'|h'
  ·exact h'
  ·rw[Array.getElem?_eq_none h']at hv;cases hv
 rw[hb.block g eP]
def gT:Nat:=0
def gN:Nat:=1
def tE:Nat:=293
def sT:ByteArray:=⟨#[110,111,32,116,105,108,101,32,99,97,110,32,97,116,116,97,99,104]⟩
def sN:ByteArray:=⟨#[116,111,111,32,109,97,110,121,32,116,105,108,101,115]⟩
theorem sTN:sT≠sN:=by decide
theorem ND:Tryz.prog.globalNamed "loop.example/g01081/impl.errTerminal" =some gT:=by kernel_rfl
theorem NC:Tryz.prog.globalNamed "loop.example/g01081/impl.errNoSpace" =some gN:=by kernel_rfl
theorem SZ:(Tryz.prog.globals[gT]?).map (·.type)=some 135:=by kernel_rfl
theorem SY:(Tryz.prog.globals[gN]?).map (·.type)=some 135:=by kernel_rfl
theorem Wf:Tryz.prog.cellsOf 319=1:=by kernel_rfl
theorem Wi:Tryz.prog.cellsOf 9=1:=by kernel_rfl
theorem Ki: "*" ++ "errors.errorString" = "*errors.errorString" :=by decide
theorem Wg (u:TypeId) (h:Tryz.prog.typeName? 3 u=some "*errors.errorString"):u=293:=
 typeName_ptr_named (nm:= "errors.errorString") (by rw[Ki];kernel_rfl) (by kernel_rfl) (by decide) u (by rw[Ki];exact h)
theorem Lt {W:World} {r:List (String×DataW Unit)} (h:laidMet Tryz.prog (("loop.example/g01081/impl.errTerminal",Rows.laid_loop_example_g01081_impl_errTerminal)::("loop.example/g01081/impl.errNoSpace",Rows.laid_loop_example_g01081_impl_errNoSpace)::r) W):
  ∃a0 a1:Addr,W.var? Tryz.prog "loop.example/g01081/impl.errTerminal" =some #[.iface tE (.pointer (some a0))]/\W.var? Tryz.prog "loop.example/g01081/impl.errNoSpace" =some #[.iface tE (.pointer (some a1))]/\p9 W gT tE sT/\p9 W gN tE sN:=
 Ls h ND SZ NC SY Tryz.underlying135 Wg Tryz.underlying293 Tryz.underlying319 rfl rfl Tryz.underlying9 Wf Wi
end Go.Proofs.YtoodopepphhpoaaGreatDoor.V

namespace Go.Proofs.YtoodopepphhpoaaGreatDoor.V
open Go.RowKit
attribute [local irreducible] eu wpOps fB Call
theorem aae (sch:List Int) (hs:∀x∈sch,0<=x/\x<=1000) (sk:sch.length<=200) (n d:Nat) (hn:0<n):ax Tryz.prog 134 [.int .i64 (n:Int),.int .i64 (d:Int),.er [.sl (sch.map aL)]] (.int .i64 (uo sch d n:Int)):=by
 refine ax.body fW rfl fun jd n0=>?_
 clear jd
 have gy:(sch.map aL).length=sch.length:=by simp
 by_cases Mx:sch.length=0
 ·have hz:decide ((sch.length:Int)=0)=true:=decide_eq_true ad
  (try((repeat(revert N;apply Pn.out));refine wk (tw @gy @hz) ?_;(repeat(apply Pn.mk;intro N hN))))
  exact eQ (b:=0) (.inl rfl) (sd @Nat.zero_add) (by rw[uo,if_pos Mx];rfl)
 ·have hz:decide ((sch.length:Int)=0)=false:=decide_eq_false ad
  have Vq:((sch.length:Int)=0)=False:=eq_false ad
  have UP:((n:Int)=0)=False:=eq_false ad
  have uw:=pY d sch.length
  have Mr:d % sch.length<sch.length:=Nat.mod_lt _ ad
  have hdi:((d % sch.length:Nat):Int)<(sch.length:Int):=ad
  have Ms:=Ei Mr
  have Vd:=(hs (sch.getD (d % sch.length) 0) (by rw[List.getD_eq_getElem?_getD,List.getElem?_eq_getElem Mr];exact List.getElem_mem Mr)).1
  have XC:(sch.getD (d % sch.length) 0).tmod (n:Int)=(uo sch d n:Int):=by
   rw[uo,if_neg Mx]
   have h9:=pY (sch.getD (d % sch.length) 0).toNat n
   rwa [Int.toNat_of_nonneg Vd]at h9
  generalize sch.getD (d % sch.length) 0=z at *
  generalize d % sch.length=dd at *
  (try((repeat(revert N;apply Pn.out));refine wk (tw @gy (tw @hz (tw @Vq (tw @UP (tw @uw (tw @hdi (tw @Ms @XC))))))) ?_;(repeat(apply Pn.mk;intro N hN))))
  exact eQ (.inl rfl) (sd @XC) rfl
def gQ (g:Rows):Prop:=(∃b,g (qD 0)=some ⟨b,1,[[.err 0 tE sT]]⟩)/\∃b,g (qD 1)=some ⟨b,1,[[.err 1 tE sN]]⟩
theorem gQ.frame {g g':Rows} (h:gQ g) {n:Nat} (hn:1<=n) (hf:∀x:Id,x.bt<n->x.site=999000000∨x.site=999000001->g' x=g x):gQ g':=by
 obtain⟨⟨b,h1⟩,c,h2⟩:=h
 exact⟨⟨b,(hf (qD 0) hn (.inl rfl)).trans h1⟩,c,(hf (qD 1) hn (.inr rfl)).trans h2⟩
theorem jv (k:Nat):(qD k).bt=0:=rfl
def X3 (σ:aw) (c T O:Id) (s:au) (K:List aa) (sch:List Int) (es:List aa) (r:AV) (σ':aw):Prop:=
 σ.next<=σ'.next/\(∀x:Id,x.bt<σ.next->x≠T->x≠O->σ'.get x=σ.get x)/\
 ((jf (kb s K) (dn (kb s K) es es.length)=[]/\r=.fX [.agg [.int .i64 0,.int .i64 0,.int .i64 0],.err 0 tE sT]/\qt σ'.get σ'.next c T O s (K++es))∨(jf (kb s K) (dn (kb s K) es es.length)≠[]/\500<=(dn (kb s K) es es.length).length/\r=.fX [.agg [.int .i64 0,.int .i64 0,.int .i64 0],.err 1 tE sN])∨(jf (kb s K) (dn (kb s K) es es.length)≠[]/\(dn (kb s K) es es.length).length<500/\r=.fX [.agg (ab (bh (jf (kb s K) (dn (kb s K) es es.length)) (uo sch es.length (jf (kb s K) (dn (kb s K) es es.length)).length))),.jS]/\qt σ'.get σ'.next c T O s (K++(es++[bh (jf (kb s K) (dn (kb s K) es es.length)) (uo sch es.length (jf (kb s K) (dn (kb s K) es es.length)).length)]))))
theorem OG {σ:aw} {c T O B:Id} {s:au} {K:List aa} (hP:MV (kb s K)) {es:List aa} (hG:fK (kb s K) es) (h:qt σ.get σ.next c T O s (K++es)) (hE:gQ σ.get) (tP:1<=σ.next)
  {sch:List Int} (hs:∀x∈sch,0<=x/\x<=1000) (sk:sch.length<=200) {bw:Bool} (hB:σ.get B=some ⟨bw,1,[[.sl (sch.map aL)]]⟩) (Xx:B.bt<σ.next):
  Call Tryz.prog 95 [.ptr c 0 0,.fn 134 [.ptr B 0 0],.int .i64 (es.length:Int)] σ (X3 σ c T O s K sch es):=by
 refine C7 (cfM [(3,2),(5,2)]) rfl fun jd=>?_
 clear jd
 have hT:1<=s.aI:=(eo hP.wi).1
 have fU:gL s.az:=hP.set
 have hA:=sF hP (es:=es) es.length (Nat.le_refl _) hG
 have hA:iS s.az (dn (kb s K) es es.length):=hA
 have UQ:=AL hP (es:=es) es.length (Nat.le_refl _) hG
 rw[List.take_length]at UQ
 have xg:iO s (K++es)=iO s (dn (kb s K) es es.length):=by
  funext q
  unfold iO
  exact si (fun t=>(UQ.fit q t:eB s (K++es) q t=eB s (dn (kb s K) es es.length) q t)) _
 have mN:(dn (kb s K) es es.length).length=K.length+es.length:=jW (kb s K) es es.length (Nat.le_refl _)
 have Ab:=hA.1.xR
 have v1:=dp (i:=qD 0) (n:=σ.next) (by rw[jv];omega)
 have v2:=dp (i:=qD 1) (n:=σ.next) (by rw[jv];omega)
 have v3:=dp h.o.cv
 have v4:=dp h.o.tv
 have v5:=dp h.o.ov
 have v6:=dp Xx
 have fC:=h.o.row
 have Hh:=h.o.tl
 obtain⟨⟨b0,hE0⟩,b1,YB⟩:=hE
 (try((repeat(revert N;apply Pn.out));refine wk (tw @fC @v3) ?_;(repeat(apply Pn.mk;intro N hN))))
 refine .inr (aH _ _ _ _ _ (fun r σ1 hq=>?_) (VK (c:=c) (T:=T) (O:=O) (l:=dn (kb s K) es es.length) ⟨sd (tw @fC @v3),by have:=h.o.cv;(try dsimp only);omega,by have:=h.o.ov;(try dsimp only);omega,by
  obtain⟨en,a1,a2⟩:=h.op
  rw[xg]at a2
  exact⟨en,sd (tw @a1 @v5),a2.frame bp fun x hx _=>by
   have h1:=dp hx
   simp only[go_sem, ↓reduceIte,Nat.reduceEqDiff,Nat.reduceAdd,Nat.reduceSub,Nat.reduceLeDiff,reduceCtorEq,h1]⟩⟩ hT fU hA))
 obtain⟨g1,x1⟩:=σ1
 obtain⟨hn,hf,hL⟩:=hq
 (try dsimp only at hn hf hL)
 have Mn:qt g1 x1 c T O s (K++es):=h.frame ad fun x hx=>by
  have h1:=dp hx
  have h2:=hf x bp
  simp only[go_sem, ↓reduceIte,Nat.reduceEqDiff,Nat.reduceAdd,Nat.reduceSub,Nat.reduceLeDiff,reduceCtorEq,h1]at h2
  exact h2
 have k0:=hf (qD 0) (by rw[jv];(try dsimp only);omega)
 have k1:=hf (qD 1) (by rw[jv];(try dsimp only);omega)
 have kB:=hf B bp
 have kr:=hf ⟨95000000,σ.next⟩ bp
 simp only[go_sem, ↓reduceIte,Nat.reduceEqDiff,Nat.reduceAdd,Nat.reduceSub,Nat.reduceLeDiff,reduceCtorEq,v1,hE0]at k0
 simp only[go_sem, ↓reduceIte,Nat.reduceEqDiff,Nat.reduceAdd,Nat.reduceSub,Nat.reduceLeDiff,reduceCtorEq,v2,YB]at k1
 simp only[go_sem, ↓reduceIte,Nat.reduceEqDiff,Nat.reduceAdd,Nat.reduceSub,Nat.reduceLeDiff,reduceCtorEq,v6,hB]at kB
 simp only[go_sem, ↓reduceIte,Nat.reduceEqDiff,Nat.reduceAdd,Nat.reduceSub,Nat.reduceLeDiff,reduceCtorEq]at kr
 have N7:=Mn.o.row
 have Vw:=Mn.o.tl
 have w0:=dp (i:=qD 0) (n:=x1) (by rw[jv];omega)
 have w1:=dp (i:=qD 1) (n:=x1) (by rw[jv];omega)
 have w2:=dp (i:=(⟨95000000,σ.next⟩:Id)) (n:=x1) bp
 have w3:=dp Mn.o.cv
 have w4:=dp Mn.o.tv
 have w6:=dp (i:=B) (n:=x1) ad
 have u0:(qD 0=(⟨95000000,σ.next⟩:Id))=False:=eq_false fun e=>by have:=congrArg Id.bt e;rw[jv]at this;(try dsimp only at this);omega
 have u1:(qD 1=(⟨95000000,σ.next⟩:Id))=False:=eq_false fun e=>by have:=congrArg Id.bt e;rw[jv]at this;(try dsimp only at this);omega
 have base:∀x:Id,x.bt<σ.next->g1 x=σ.get x:=fun x hx=>by
  have h1:=dp hx
  have h2:=hf x bp
  simp only[go_sem, ↓reduceIte,Nat.reduceEqDiff,Nat.reduceAdd,Nat.reduceSub,Nat.reduceLeDiff,reduceCtorEq,h1]at h2
  exact h2
 apply hN
 clear hN N
 have NX:((K++es).map ab).length=(dn (kb s K) es es.length).length:=by rw[List.length_map,List.length_append,mN]
 rw[show uK (eB s (dn (kb s K) es es.length)) s.az.ai.length (jU (dn (kb s K) es es.length))=jf s (dn (kb s K) es es.length)from rfl]at hL
 have Tf:=OM fU hA
 have p0:(qD 0).site=999000000:=rfl
 have p1:(qD 1).site=999000001:=rfl
 rcases hL with⟨hO,rfl⟩|⟨u,rfl,gu,z1,z2,z3,z4⟩
 ·have Qf:decide (((0:Nat):Int)=0)=true:=rfl
  have Ak:decide ((0:Int)=0)=true:=rfl
  (try((repeat(revert N;apply Pn.out));refine wk (tw @k0 (tw @kr (tw @w0 (tw @u0 (tw @p0 (tw @Qf @Ak)))))) ?_;(repeat(apply Pn.mk;intro N hN))))
  refine eH ?_ ?_
  ·(try((repeat(revert N;apply Pn.out));refine wk (tw @k0 (tw @kr (tw @w0 (tw @u0 @p0)))) ?_;(repeat(apply Pn.mk;intro N hN))))
   exact fc (.inl rfl) (vs:=[.agg [.int .i64 0,.int .i64 0,.int .i64 0],.err 0 tE sT]) (sd @Nat.zero_add) ⟨bp,fun x hx _ _=>by
    have q1:=dp hx
    simp only[go_sem, ↓reduceIte,Nat.reduceEqDiff,Nat.reduceAdd,Nat.reduceSub,Nat.reduceLeDiff,reduceCtorEq,q1,base x hx],.inl ⟨hO,rfl,h.frame bp fun x hx=>by
     have q1:=dp hx
     simp only[go_sem, ↓reduceIte,Nat.reduceEqDiff,Nat.reduceAdd,Nat.reduceSub,Nat.reduceLeDiff,reduceCtorEq,q1,base x hx]⟩⟩
  ·(try((repeat(revert N;apply Pn.out));refine wk (tw @k0 (tw @kr (tw @w0 (tw @u0 @p0)))) ?_;(repeat(apply Pn.mk;intro N hN))))
   exact fc (.inl rfl) (vs:=[.agg [.int .i64 0,.int .i64 0,.int .i64 0],.err 0 tE sT]) (sd @Nat.zero_add) ⟨bp,fun x hx _ _=>by
    have q1:=dp hx
    simp only[go_sem, ↓reduceIte,Nat.reduceEqDiff,Nat.reduceAdd,Nat.reduceSub,Nat.reduceLeDiff,reduceCtorEq,q1,base x hx],.inl ⟨hO,rfl,h.frame bp fun x hx=>by
     have q1:=dp hx
     simp only[go_sem, ↓reduceIte,Nat.reduceEqDiff,Nat.reduceAdd,Nat.reduceSub,Nat.reduceLeDiff,reduceCtorEq,q1,base x hx]⟩⟩
 ·generalize hO:jf s (dn (kb s K) es es.length)=L at *
  have JL:decide ((L.length:Int)=0)=false:=decide_eq_false ad
  have hZ:L≠[]:=fun e=>by rw[e]at z3;simp at z3
  by_cases vd:500<=(dn (kb s K) es es.length).length
  ·have hf5:(500:Int)<=((dn (kb s K) es es.length).length:Int):=ad
   (try((repeat(revert N;apply Pn.out));refine wk (tw @k1 (tw @kr (tw @w1 (tw @w2 (tw @u1 (tw @p1 (tw @JL (tw @N7 (tw @w3 (tw @Vw (tw @w4 (tw @NX @hf5)))))))))))) ?_;(repeat(apply Pn.mk;intro N hN))))
   refine eH ?_ ?_
   ·(try((repeat(revert N;apply Pn.out));refine wk (tw @k1 (tw @kr (tw @w1 (tw @w2 (tw @u1 @p1))))) ?_;(repeat(apply Pn.mk;intro N hN))))
    exact fc (.inl rfl) (vs:=[.agg [.int .i64 0,.int .i64 0,.int .i64 0],.err 1 tE sN]) (sd @Nat.zero_add) ⟨bp,fun x hx _ _=>by
     have q1:=dp hx
     simp only[go_sem, ↓reduceIte,Nat.reduceEqDiff,Nat.reduceAdd,Nat.reduceSub,Nat.reduceLeDiff,reduceCtorEq,q1,base x hx],.inr (.inl ⟨by rw[vM,hO];exact hZ,vd,rfl⟩)⟩
   ·(try((repeat(revert N;apply Pn.out));refine wk (tw @k1 (tw @kr (tw @w1 (tw @w2 (tw @u1 @p1))))) ?_;(repeat(apply Pn.mk;intro N hN))))
    exact fc (.inl rfl) (vs:=[.agg [.int .i64 0,.int .i64 0,.int .i64 0],.err 1 tE sN]) (sd @Nat.zero_add) ⟨bp,fun x hx _ _=>by
     have q1:=dp hx
     simp only[go_sem, ↓reduceIte,Nat.reduceEqDiff,Nat.reduceAdd,Nat.reduceSub,Nat.reduceLeDiff,reduceCtorEq,q1,base x hx],.inr (.inl ⟨by rw[vM,hO];exact hZ,vd,rfl⟩)⟩
  ·have hf5:decide ((500:Int)<=((dn (kb s K) es es.length).length:Int))=false:=decide_eq_false ad
   obtain⟨j,hj⟩:∃j,uo sch es.length L.length=j:=⟨_,rfl⟩
   have iP:j<L.length:=by rw[<-hj];exact oF z3
   have nN:(j:Int)<(L.length:Int):=ad
   have Vt:=aae sch hs sk L.length es.length z3
   rw[hj]at Vt
   have nk:=gK iP
   have F8:bh L j∈jf s (dn (kb s K) es es.length):=by rw[hO];exact gG iP
   obtain⟨x,hx⟩:∃x,bh L j=x:=⟨_,rfl⟩
   rw[hx]at nk F8
   obtain⟨hxt,hxf⟩:=vN F8
   have hxp:yQ x.bf=true:=by
    unfold eB at hxf
    simp only[Bool.and_eq_true]at hxf
    exact hxf.1.1
   have Hi:eO (K++es) x.bf<0:=UQ.no (Nw hA (fun _ h=>h) hxf)
   rw[ab]at nk
   have lV:(L.map ab).length=L.length:=by simp
   (have zF:=tw @k1 (tw @kr (tw @kB (tw @w1 (tw @w2 (tw @w6 (tw @u1 (tw @p1 (tw @JL (tw @N7 (tw @w3 (tw @Vw (tw @w4 (tw @NX (tw @hf5 (tw @gu (tw @lV (tw @nN @nk)))))))))))))))));(repeat(first|((repeat(revert N;apply Pn.out));refine wk zF ?_;(repeat(apply Pn.mk;intro N hN)))|((try apply Or.inl);refine⟨_,ax.x (Vt) (sd zF),?_⟩;apply hN;clear hN N)));try clear zF)
   have hF:∀q,0<=fy (K++es) q->eF s.az (fy (K++es) q)=true:=fun q h=>by
    have e:fy (K++es) q=fy (dn (kb s K) es es.length) q:=UQ.at_ q
    rw[e]at h ⊢
    exact gL.M5 hA q h
   have hpu:=fun(σ:aw) (h:qt σ.get σ.next c T O s (K++es))=>Z3 h fU hF x.bf hxp x.bc hxt Hi
   rw[ah]at hpu
   refine .inr (aH _ _ _ _ _ (fun r σ2 hq=>?_) (hpu _ (Mn.frame bp fun y hy=>by
    have q:=dp hy
    simp only[go_sem, ↓reduceIte,Nat.reduceEqDiff,Nat.reduceAdd,Nat.reduceSub,Nat.reduceLeDiff,reduceCtorEq,q])))
   obtain⟨g2,x2⟩:=σ2
   obtain⟨rfl,hC3,n3,f3⟩:=hq
   (try dsimp only at hC3 n3 f3)
   have FN:=h.o.tv
   have HW:=h.o.ov
   have kr2:=f3 ⟨95000000,σ.next⟩ bp (fun e=>by rw[<-e]at FN;(try dsimp only at FN);omega) (fun e=>by rw[<-e]at HW;(try dsimp only at HW);omega)
   have kx2:=f3 ⟨95006008,x1+1+1+1⟩ bp (fun e=>by rw[<-e]at FN;(try dsimp only at FN);omega) (fun e=>by rw[<-e]at HW;(try dsimp only at HW);omega)
   simp only[go_sem, ↓reduceIte,Nat.reduceEqDiff,Nat.reduceAdd,Nat.reduceSub,Nat.reduceLeDiff,reduceCtorEq,w2,kr]at kr2
   simp only[go_sem, ↓reduceIte,Nat.reduceEqDiff,Nat.reduceAdd,Nat.reduceSub,Nat.reduceLeDiff,reduceCtorEq]at kx2
   apply hN
   clear hN N
   (try((repeat(revert N;apply Pn.out));refine wk (tw @kr2 @kx2) ?_;(repeat(apply Pn.mk;intro N hN))))
   refine fc (.inl rfl) (vs:=[.agg [.int .i64 x.bf.fE,.int .i64 x.bf.fw,.int .i64 x.bc],.jS]) (sd @Nat.zero_add) ⟨bp,fun y hy VA hyO=>?_,.inr (.inr ⟨by rw[vM,hO];exact hZ,ad,by rw[vM,hO,hj,hx];rfl,?_⟩)⟩
   ·have q1:=dp hy
    have q2:=f3 y bp VA hyO
    have q3:=dp (i:=y) (n:=x1) ad
    simp only[go_sem, ↓reduceIte,Nat.reduceEqDiff,Nat.reduceAdd,Nat.reduceSub,Nat.reduceLeDiff,reduceCtorEq,q3]at q2
    simp only[go_sem, ↓reduceIte,Nat.reduceEqDiff,Nat.reduceAdd,Nat.reduceSub,Nat.reduceLeDiff,reduceCtorEq,q1]
    exact q2.trans (base y hy)
   ·rw[vM,hO,hj,hx,<-List.append_assoc]
    have e6:∀y:Id,y.bt<σ.next->(y=(⟨95000000,σ.next⟩:Id))=False:=fun y hy=>eq_false fun e=>by rw[e]at hy;(try dsimp only at hy);omega
    have u6c:=e6 c h.o.cv
    have u6T:=e6 T FN
    have u6O:=e6 O HW
    obtain⟨en,a1,a2⟩:=hC3.op
    refine⟨hC3.o.three bp (sd @u6c) (sd @u6T) (sd @u6O),en,sd (tw @u6O @a1),a2.frame bp fun y hy ⟨k,r,hk⟩=>?_⟩
    have hne6:(y=(⟨95000000,σ.next⟩:Id))=False:=eq_false fun e=>by
     rw[e,kr2]at hk
     simp at hk
    simp only[go_sem, ↓reduceIte,Nat.reduceEqDiff,Nat.reduceAdd,Nat.reduceSub,Nat.reduceLeDiff,reduceCtorEq,hne6]
end Go.Proofs.YtoodopepphhpoaaGreatDoor.V

namespace Go.Proofs.YtoodopepphhpoaaGreatDoor.V
open Go.RowKit Go.Extern.Stop Go.Stop Go.Extern
theorem Ge (v:Value) (w:World):(Extern.ReflectliteType.typeOf #[.iface 293 v]).run Tryz.prog w=.ok (.iface 206 (.agg #[.pointer (some ⟨2,293,none⟩)])) w:=by kernel_rfl
def Dm:Array Value->Sem Value:=Extern.ReflectliteType.method fun t=>do Extern.Rtype.noPackHeld "Comparable" t;pure (.bool (<-typeInfo t).comparable)
theorem vz (w:World):(Dm #[.agg #[.pointer (some ⟨2,293,none⟩)]]).run Tryz.prog w=.ok (.bool true) w:=by kernel_rfl
theorem nr (v:Value) (w:World):(Go.method 431 206 v "Comparable").run Tryz.prog w=.ok (249,v) w:=by kernel_rfl
theorem Oh:(Tryz.prog.info? 293).map (·.comparable)=some true:=by kernel_rfl
theorem Oi:(Tryz.prog.info? 319).map (·.size)=some 1:=by kernel_rfl
theorem ZW (v:Value) (xT:TypeId) (w:World):(Instr.typeAssert (.iface 293 v) xT 208 true).run Tryz.prog w=.ok (.tuple #[.nilIface,.bool false]) w:=run_typeAssert_lacksB Tryz.underlying208 (by kernel_rfl) (by kernel_rfl) v xT w
theorem LD (v:Value) (xT:TypeId) (w:World):(Instr.typeAssert (.iface 293 v) xT 211 true).run Tryz.prog w=.ok (.tuple #[.nilIface,.bool false]) w:=run_typeAssert_lacksB Tryz.underlying211 (by kernel_rfl) (by kernel_rfl) v xT w
theorem Iv (v:Value) (xT:TypeId) (w:World):(Instr.typeAssert (.iface 293 v) xT 213 true).run Tryz.prog w=.ok (.tuple #[.nilIface,.bool false]) w:=run_typeAssert_lacksB Tryz.underlying213 (by kernel_rfl) (by kernel_rfl) v xT w
theorem Rr (a:Addr) (w:World):
  Calls Tryz.prog 96 #[.iface 293 (.pointer (some a)),.iface 293 (.pointer (some a))] w fun e w'=>e=.returned (.bool true)/\w'=w:=by
 obtain⟨i,hi,UU⟩:=Option.map_eq_some_iff.1 Oh
 obtain⟨j,hj,hjs⟩:=Option.map_eq_some_iff.1 Oi
 have h8:=@run_callFunc_extern Tryz.prog 137 _ Extern.ReflectliteType.typeOf Tryz.func137 (by kernel_rfl) (by kernel_rfl) (by kernel_rfl) (by kernel_rfl)
 have h32:=@run_callFunc_extern Tryz.prog 249 _ Dm Tryz.func249 (by kernel_rfl) (by kernel_rfl) (by kernel_rfl) (by kernel_rfl)
 have tT:=Ge
 have cT:=vz
 have mR:=nr
 have heq:=run_eql_iface_ptr_same (P:=Tryz.prog) w a Tryz.underlying135 Tryz.underlying293 hi UU hj
 go_enter Tryz.func96,Tryz.ntmps96
 go_wp2
 refine wp_loop_rounds 1 ?_
 rw[rounds_succ]
 go_wp2
 go_ret
 exact⟨rfl,rfl⟩
theorem VE (b:Addr) (w:World):
  Calls Tryz.prog 96 #[.nilIface,.iface 293 (.pointer (some b))] w fun e w'=>e=.returned (.bool false)/\w'=w:=by
 have hn:=run_eql_iface_nil_left (P:=Tryz.prog) w 293 (.pointer (some b)) Tryz.underlying135
 go_enter Tryz.func96,Tryz.ntmps96
 go_wp2
 go_ret
 exact⟨rfl,rfl⟩
theorem Ol (a b:Addr) (ca cb:Array Value) (ta tb:TypeId) (w:World) (hZ:a≠b) (ha:w.heap[a.block]? =some (.cells ca ta (0,0))) (hb:w.heap[b.block]? =some (.cells cb tb (0,0))):
  Calls Tryz.prog 96 #[.iface 293 (.pointer (some a)),.iface 293 (.pointer (some b))] w fun e w'=>e=.returned (.bool false)/\w'=w:=by
 obtain⟨i,hi,UU⟩:=Option.map_eq_some_iff.1 Oh
 obtain⟨j,hj,hjs⟩:=Option.map_eq_some_iff.1 Oi
 have h8:=@run_callFunc_extern Tryz.prog 137 _ Extern.ReflectliteType.typeOf Tryz.func137 (by kernel_rfl) (by kernel_rfl) (by kernel_rfl) (by kernel_rfl)
 have h32:=@run_callFunc_extern Tryz.prog 249 _ Dm Tryz.func249 (by kernel_rfl) (by kernel_rfl) (by kernel_rfl) (by kernel_rfl)
 have tT:=Ge
 have cT:=vz
 have mR:=nr
 have nE:=ZW
 have uE:=LD
 have vE:=Iv
 have heq:=run_eql_iface_ptr_other (P:=Tryz.prog) w Tryz.underlying135 Tryz.underlying293 hi UU hj (by rw[hjs];decide) hZ ha hb
 go_enter Tryz.func96,Tryz.ntmps96
 go_wp2
 refine wp_loop_rounds 1 ?_
 rw[rounds_succ]
 go_wp2
 go_ret
 exact⟨rfl,rfl⟩
variable {σ:aw}
theorem Bh {w:World} {D:Nat->Prop} {ι:Names} {x y:AV} {vs:Array Value} (h:gI Tryz.prog w D ι [x,y] vs):∃u v,vs= #[u,v]/\dZ Tryz.prog w D ι x u/\dZ Tryz.prog w D ι y v:=by
 obtain⟨h1,h2⟩:=h
 obtain⟨u,e1,r1⟩:=h2 0 x rfl
 obtain⟨v,e2,r2⟩:=h2 1 y rfl
 refine⟨u,v,?_,r1,r2⟩
 apply Array.ext
 ·simpa using h1
 ·intro i hi hj
  have:i=0∨i=1:=by simp at hj;omega
  rcases this with rfl|rfl
  ·rw[Array.getElem?_eq_some_iff]at e1;obtain⟨_,e1⟩:=e1;simpa using e1
  ·rw[Array.getElem?_eq_some_iff]at e2;obtain⟨_,e2⟩:=e2;simpa using e2
theorem yU (g:Nat) (s:ByteArray):Call Tryz.prog 96 [.err g tE s,.err g tE s] σ fun r σ'=>r=.bool true/\σ'=σ:=by
 refine fH fun hs D ι w vs S U A=>?_
 obtain⟨u,v,rfl,r1,r2⟩:=Bh A
 obtain⟨a,c,ty,rfl,d1,e1,_⟩:=sG r1
 obtain⟨b,c',ty',rfl,_,e2,_⟩:=sG r2
 rw[e1]at e2
 simp only[Option.some.injEq,Value.iface.injEq,Value.pointer.injEq,true_and]at e2
 subst e2
 refine(Rr a w).mono ?_
 rintro e w' ⟨rfl,rfl⟩
 exact⟨.bool true,σ.get,σ.next,D,ι,.bool true,rfl,⟨rfl,rfl⟩,.refl _ _ _ _,S,U,Nat.le_refl _,.fq _ _ (.bool _)⟩
theorem C8 (g:Nat) (s:ByteArray):Call Tryz.prog 96 [.jS,.err g tE s] σ fun r σ'=>r=.bool false/\σ'=σ:=by
 refine fH fun hs D ι w vs S U A=>?_
 obtain⟨u,v,rfl,r1,r2⟩:=Bh A
 rw[AW r1]
 obtain⟨b,c',ty',rfl,_,e2,_⟩:=sG r2
 refine(VE b w).mono ?_
 rintro e w' ⟨rfl,rfl⟩
 exact⟨.bool false,σ.get,σ.next,D,ι,.bool false,rfl,⟨rfl,rfl⟩,.refl _ _ _ _,S,U,Nat.le_refl _,.fq _ _ (.bool _)⟩
theorem EW (x y:Nat) (s u:ByteArray) (hZ:s≠u):Call Tryz.prog 96 [.err x tE s,.err y tE u] σ fun r σ'=>r=.bool false/\σ'=σ:=by
 refine fH fun hs D ι w vs S U A=>?_
 obtain⟨u1,v,rfl,r1,r2⟩:=Bh A
 obtain⟨a,c,ty,rfl,_,_,_,k1,k2⟩:=sG r1
 obtain⟨b,c',ty',rfl,_,_,_,q1,q2⟩:=sG r2
 have pB:a≠b:=fun e=>by
  subst e
  rw[k2]at q2
  simp only[Option.some.injEq,Value.string.injEq]at q2
  exact hZ q2
 refine(Ol a b c c' ty ty' w pB k1 q1).mono ?_
 rintro e w' ⟨rfl,rfl⟩
 exact⟨.bool false,σ.get,σ.next,D,ι,.bool false,rfl,⟨rfl,rfl⟩,.refl _ _ _ _,S,U,Nat.le_refl _,.fq _ _ (.bool _)⟩
end Go.Proofs.YtoodopepphhpoaaGreatDoor.V

namespace Go.Proofs.YtoodopepphhpoaaGreatDoor.V
open Go.RowKit
attribute [local irreducible] eu wpOps fB Call
theorem GQ (sch:List Int) (σ:aw):Call Tryz.prog 94 [.sl (sch.map aL)] σ (fun r σ'=>∃B:Id,r=.fn 134 [.ptr B 0 0]/\σ'.get B=some ⟨true,1,[[.sl (sch.map aL)]]⟩/\σ.next<=B.bt/\B.bt<σ'.next/\∀x:Id,x.bt<σ.next->σ'.get x=σ.get x):=by
 refine fV fW rfl fun jd=>?_
 clear jd
 (try((repeat(revert N;apply Pn.out));refine wk @Nat.zero_add ?_;(repeat(apply Pn.mk;intro N hN))))
 exact fc (.inl rfl) (vs:=[.fn 134 [.ptr ⟨94000000,σ.next⟩ 0 0]]) (sd @Nat.zero_add) ⟨_,rfl,sd @Nat.zero_add,bp,bp,fun x hx=>by
  have h1:=dp hx
  simp only[go_sem, ↓reduceIte,Nat.reduceEqDiff,Nat.reduceAdd,Nat.reduceSub,Nat.reduceLeDiff,reduceCtorEq,h1]⟩
def GroK (σ:aw) (c T O:Id) (s:au) (sch:List Int) (steps:Nat) (r:AV) (σ':aw):Prop:=
 σ.next<=σ'.next/\(∀x:Id,x.bt<σ.next->x≠T->x≠O->σ'.get x=σ.get x)/\
 ((nj s sch steps=none/\r=.fX [.cr,.bool false])∨∃(es:List aa) (v:AV),nj s sch steps=some es/\fK s es/\qt σ'.get σ'.next c T O s (s.dc.ai++es)/\r=.fX [v,.bool true]/\Hp 46008003 σ.next es v σ'.get σ'.next)
def SH (σ:aw) (c T O:Id) (s:au) (K:List aa) (sch:List Int) (steps:Nat) (r:AV) (σ':aw):Prop:=
 σ.next<=σ'.next/\(∀x:Id,x.bt<σ.next->x≠T->x≠O->σ'.get x=σ.get x)/\
 ((nj (kb s K) sch steps=none/\r=.fX [.cr,.bool false])∨∃(es:List aa) (v:AV),nj (kb s K) sch steps=some es/\fK (kb s K) es/\qt σ'.get σ'.next c T O s (K++es)/\r=.fX [v,.bool true]/\Hp 46008003 σ.next es v σ'.get σ'.next)
theorem u7 {s:au} {sch:List Int} {steps f:Nat} {es:List aa} (h:(jf s (dn s es es.length)).length=0∨steps<=es.length):me s sch steps f es=some es:=by
 cases f with
 |zero=>rfl
 |succ f=>
  rw[me]
  by_cases h0:(jf s (dn s es es.length)).length=0
  ·rw[if_pos h0]
  ·rw[if_neg h0,if_pos ad]
theorem UA {σ:aw} {c T O:Id} {s:au} {K:List aa} (hP:MV (kb s K)) (h:qt σ.get σ.next c T O s K) (hE:gQ σ.get) (FN:1<=T.bt) (HW:1<=O.bt)
  {sch:List Int} (hs:∀x∈sch,0<=x/\x<=1000) (sk:sch.length<=200) (steps:Nat) (eA:steps<=501):
  Call Tryz.prog 46 [.ptr c 0 0,.sl (sch.map aL),.int .i64 (steps:Int)] σ (SH σ c T O s K sch steps):=by
 refine fV fW rfl fun jd=>?_
 clear jd
 have S5:=h.o.tv
 have hO0:=h.o.ov
 (try((repeat(revert N;apply Pn.out));refine wk @Nat.zero_add ?_;(repeat(apply Pn.mk;intro N hN))))
 refine .inr (aH _ _ _ _ _ (fun r σ1 hq=>?_) (GQ sch _))
 obtain⟨g1,x1⟩:=σ1
 obtain⟨B,rfl,hB,JK,Xx,hf⟩:=hq
 (try dsimp only at hB JK Xx hf)
 apply hN
 clear hN N
 (try((repeat(revert N;apply Pn.out));refine wk @Nat.zero_add ?_;(repeat(apply Pn.mk;intro N hN))))
 have base:∀x:Id,x.bt<σ.next->g1 x=σ.get x:=fun x hx=>hf x bp
 have YB:gQ g1:=hE.frame (n:=1) (Nat.le_refl _) fun x hx _=>base x ad
 have Mn:qt g1 x1 c T O s K:=h.frame (by(try dsimp only at JK);omega) base
 have Zx:1<=K.length:=hP.some
 have fin:∀(es:List aa) (v:AV) (g:Rows) (n:Nat),nj (kb s K) sch steps=some es->fK (kb s K) es->qt g n c T O s (K++es)->Hp 46008003 x1 es v g n->(∀x:Id,x.bt<x1->x≠T->x≠O->g x=g1 x)->x1<=n->SH σ c T O s K sch steps (.fX [v,.bool true]) ⟨g,n⟩:=fun es v g n h1 h2 h3 h4 h5 h6=>⟨by(try dsimp only at JK ⊢);omega,fun x hx hT hO=>(h5 x ad hT hO).trans (base x hx),.inr ⟨es,v,h1,h2,h3,rfl,by
  rcases h4 with h4|⟨u,k1,k2,k3,k4⟩
  ·exact .inl h4
  ·exact .inr ⟨u,k1,k2,ad,k4⟩⟩⟩
 refine cm (fun m env st=>∃(es:List aa) (f:Nat),m=f/\me (kb s K) sch steps f es=nj (kb s K) sch steps/\fK (kb s K) es/\es.length<=steps/\f+es.length=501/\qt st.get st.next c T O s (K++es)/\Hp 46008003 x1 es (env 9) st.get st.next/\(∀x:Id,x.bt<x1->x≠T->x≠O->st.get x=g1 x)/\x1<=st.next) 501 ⟨[],501,rfl,rfl,fK.nil (kb s K),Nat.zero_le _,rfl,by rw[List.append_nil];exact Mn.frame bp fun x hx=>sd @Nat.zero_add,.inl ⟨rfl,sd @Nat.zero_add⟩,fun x hx _ _=>sd @Nat.zero_add,bp⟩ ?_
 rintro m env_b st_b ⟨es,f,rfl,hgro,hgood,hes,Y4,hC,hu,jx,hn⟩ fb
 have b0:=fb 0 (by kernel_rfl)
 have b1:=fb 1 (by kernel_rfl)
 have b2:=fb 2 (by kernel_rfl)
 have b8:=fb 8 (by kernel_rfl)
 simp only[go_sem, ↓reduceIte,Nat.reduceEqDiff,Nat.reduceAdd,Nat.reduceSub,Nat.reduceLeDiff,reduceCtorEq]at b0 b1 b2 b8
 clear fb
 have hA:=sF hP (es:=es) es.length (Nat.le_refl _) hgood
 have Ab:=hA.1.xR
 have mN:(dn (kb s K) es es.length).length=K.length+es.length:=jW (kb s K) es es.length (Nat.le_refl _)
 obtain⟨f,rfl⟩:∃f,m=f+1:=⟨m-1,ad⟩
 have hEb:gQ st_b.get:=YB.frame (n:=1) (Nat.le_refl _) fun x hx _=>jx x ad (fun e=>by rw[e]at hx;omega) (fun e=>by rw[e]at hx;omega)
 have hBb:=(jx B Xx (fun e=>by rw[e]at JK;omega) (fun e=>by rw[e]at JK;omega)).trans hB
 rcases hu with⟨rfl,e9⟩|⟨u,e9,gu,u1,u2,u3,u4⟩
 ·by_cases hd:((0:Nat):Int)<(steps:Int)
  ·(try((repeat(revert N;apply Pn.out));refine wk (tw @b0 (tw @b1 (tw @b2 (tw @b8 (tw @e9 @hd))))) ?_;(repeat(apply Pn.mk;intro N hN))))
   refine .inr (aH _ _ _ _ _ (fun r σ2 hq=>?_) (OG (σ:=⟨st_b.get,st_b.next+1+1⟩) (c:=c) (T:=T) (O:=O) (B:=B) (es:=[]) hP hgood (hC.frame bp fun x hx=>rfl) hEb bp hs sk hBb bp))
   obtain⟨g2,x2⟩:=σ2
   obtain⟨n2,f2,hq⟩:=hq
   (try dsimp only at n2 f2 hq)
   apply hN
   clear hN N
   have hE2:gQ g2:=hEb.frame (n:=1) (Nat.le_refl _) fun x hx _=>f2 x ad (fun e=>by rw[e]at hx;omega) (fun e=>by rw[e]at hx;omega)
   obtain⟨⟨b3,k0⟩,b4,k1⟩:=hE2
   have w0:=dp (i:=qD 0) (n:=x2) (by rw[jv];omega)
   have w1:=dp (i:=qD 1) (n:=x2) (by rw[jv];omega)
   have p0:(qD 0).site=999000000:=rfl
   have p1:(qD 1).site=999000001:=rfl
   rcases hq with⟨hO,rfl,z7⟩|⟨hO,vd,rfl⟩|⟨hO,gM,rfl,z7⟩
   ·(try((repeat(revert N;apply Pn.out));refine wk (tw @b0 (tw @b1 (tw @b2 (tw @b8 (tw @e9 (tw @k0 (tw @k1 (tw @w0 (tw @w1 (tw @p0 @p1)))))))))) ?_;(repeat(apply Pn.mk;intro N hN))))
    refine .inr (aH _ _ _ _ _ (fun r σ3 hq=>?_) (yU 0 sT))
    obtain⟨rfl,rfl⟩:=hq
    apply hN
    clear hN N
    (try((repeat(revert N;apply Pn.out));refine wk (tw @b0 (tw @b1 (tw @b2 (tw @b8 (tw @e9 (tw @k0 (tw @k1 (tw @w0 (tw @w1 (tw @p0 @p1)))))))))) ?_;(repeat(apply Pn.mk;intro N hN))))
    exact fc (.inl rfl) (vs:=[.cr,.bool true]) (sd @e9) (fin [] _ _ _ (by rw[<-hgro];exact u7 (.inl (by rw[hO];rfl))) hgood (z7.frame bp fun x hx=>by
     have z1:=dp hx
     simp only[go_sem, ↓reduceIte,Nat.reduceEqDiff,Nat.reduceAdd,Nat.reduceSub,Nat.reduceLeDiff,reduceCtorEq,z1]) (.inl ⟨rfl,rfl⟩) (fun x hx hT hO=>by
     have z1:=dp (i:=x) (n:=x2) ad
     have z2:=f2 x bp hT hO
     have z3:=jx x hx hT hO
     simp only[go_sem, ↓reduceIte,Nat.reduceEqDiff,Nat.reduceAdd,Nat.reduceSub,Nat.reduceLeDiff,reduceCtorEq,z1]
     exact z2.trans z3) bp)
   ·(try((repeat(revert N;apply Pn.out));refine wk (tw @b0 (tw @b1 (tw @b2 (tw @b8 (tw @e9 (tw @k0 (tw @k1 (tw @w0 (tw @w1 (tw @p0 @p1)))))))))) ?_;(repeat(apply Pn.mk;intro N hN))))
    refine .inr (aH _ _ _ _ _ (fun r σ3 hq=>?_) (EW 1 0 sN sT fun e=>sTN e.symm))
    obtain⟨rfl,rfl⟩:=hq
    apply hN
    clear hN N
    (try((repeat(revert N;apply Pn.out));refine wk (tw @b0 (tw @b1 (tw @b2 (tw @b8 (tw @e9 (tw @k0 (tw @k1 (tw @w0 (tw @w1 (tw @p0 @p1)))))))))) ?_;(repeat(apply Pn.mk;intro N hN))))
    refine .inr (aH _ _ _ _ _ (fun r σ3 hq=>?_) (yU 1 sN))
    obtain⟨rfl,rfl⟩:=hq
    apply hN
    clear hN N
    (try((repeat(revert N;apply Pn.out));refine wk (tw @b0 (tw @b1 (tw @b2 (tw @b8 (tw @e9 (tw @k0 (tw @k1 (tw @w0 (tw @w1 (tw @p0 @p1)))))))))) ?_;(repeat(apply Pn.mk;intro N hN))))
    exact fc (.inl rfl) (vs:=[.cr,.bool false]) (sd @Nat.zero_add) ⟨by(try dsimp only at JK ⊢);omega,fun x hx hT hO=>by
     have z1:=dp (i:=x) (n:=x2) ad
     have z2:=f2 x bp hT hO
     have z3:=jx x ad hT hO
     simp only[go_sem, ↓reduceIte,Nat.reduceEqDiff,Nat.reduceAdd,Nat.reduceSub,Nat.reduceLeDiff,reduceCtorEq,z1]
     exact z2.trans (z3.trans (base x hx)),.inl ⟨by rw[<-hgro,me,if_neg (fun e=>hO (List.length_eq_zero_iff.1 e)),if_neg (by(try simp only[List.length_nil]at hd ⊢);omega),if_pos vd],rfl⟩⟩
   ·obtain⟨x,hx⟩:∃x,bh (jf (kb s K) (dn (kb s K) [] ([]:List aa).length)) (uo sch ([]:List aa).length (jf (kb s K) (dn (kb s K) [] ([]:List aa).length)).length)=x:=⟨_,rfl⟩
    rw[hx]at z7 ⊢
    have F8:x∈jf (kb s K) (dn (kb s K) [] ([]:List aa).length):=by rw[<-hx];exact gG (oF (List.length_pos_iff.2 hO))
    have qL:=hgood.add F8 gM
    have NU:me (kb s K) sch steps f (([]:List aa)++[x])=nj (kb s K) sch steps:=by rw[<-hgro,me,if_neg (fun e=>hO (List.length_eq_zero_iff.1 e)),if_neg (by(try simp only[List.length_nil]at hd ⊢);omega),if_neg ad,hx]
    have Q0:([]:List aa).length<=16777215:=by(try simp only[List.length_nil]);omega
    rw[ab]
    (try((repeat(revert N;apply Pn.out));refine wk (tw @b0 (tw @b1 (tw @b2 (tw @b8 (tw @e9 (tw @k0 (tw @k1 (tw @w0 (tw @w1 (tw @p0 @p1)))))))))) ?_;(repeat(apply Pn.mk;intro N hN))))
    refine .inr (aH _ _ _ _ _ (fun r σ3 hq=>?_) (C8 0 sT))
    obtain⟨rfl,rfl⟩:=hq
    apply hN
    clear hN N
    (try((repeat(revert N;apply Pn.out));refine wk (tw @b0 (tw @b1 (tw @b2 (tw @b8 (tw @e9 (tw @k0 (tw @k1 (tw @w0 (tw @w1 (tw @p0 @p1)))))))))) ?_;(repeat(apply Pn.mk;intro N hN))))
    refine .inr (aH _ _ _ _ _ (fun r σ3 hq=>?_) (C8 1 sN))
    obtain⟨rfl,rfl⟩:=hq
    apply hN
    clear hN N
    (try((repeat(revert N;apply Pn.out));refine wk (tw @b0 (tw @b1 (tw @b2 (tw @b8 (tw @e9 (tw @k0 (tw @k1 (tw @w0 (tw @w1 (tw @p0 @p1)))))))))) ?_;(repeat(apply Pn.mk;intro N hN))))
    have FR:(([]:List aa)++[x]).map ab=([]:List aa).map ab++[ab x]:=by simp
    have Q1:(([]:List aa)++[x]).length=([]:List aa).length+1:=by simp
    rw[ab]at FR
    have UX:=h.o.cv
    refine⟨f,ad,([]:List aa)++[x],f,rfl,NU,qL,by rw[Q1];(try simp only[List.length_nil]at hd ⊢);omega,by rw[Q1];(try simp only[List.length_nil]at Y4 ⊢);omega,?_,.inr ⟨⟨46008003,x2+1+1+1+1+1⟩,by rw[Q1];simp only[go_sem, ↓reduceIte,Nat.reduceEqDiff,Nat.reduceAdd,Nat.reduceSub,Nat.reduceLeDiff,reduceCtorEq]<;>rfl,by rw[FR];simp only[go_sem, ↓reduceIte,Nat.reduceEqDiff,Nat.reduceAdd,Nat.reduceSub,Nat.reduceLeDiff,reduceCtorEq]<;>rfl,bp,bp,by rw[Q1];omega,rfl⟩,fun y hy hT hO=>?_,bp⟩
    ·have zc:=dp z7.o.cv
     have zT:=dp z7.o.tv
     have zO:=dp z7.o.ov
     obtain⟨en,a1,a2⟩:=z7.op
     refine⟨z7.o.three bp (sd @zc) (sd @zT) (sd @zO),en,sd (tw @zO @a1),a2.frame bp fun y hy ⟨k,r,hk⟩=>?_⟩
     have zy:=dp hy
     simp only[go_sem, ↓reduceIte,Nat.reduceEqDiff,Nat.reduceAdd,Nat.reduceSub,Nat.reduceLeDiff,reduceCtorEq,zy]
    ·have zy:=dp (i:=y) (n:=x2) ad
     simp only[go_sem, ↓reduceIte,Nat.reduceEqDiff,Nat.reduceAdd,Nat.reduceSub,Nat.reduceLeDiff,reduceCtorEq,zy]
     exact(f2 y bp hT hO).trans (jx y hy hT hO)
  ·(try((repeat(revert N;apply Pn.out));refine wk (tw @b0 (tw @b1 (tw @b2 (tw @b8 (tw @e9 @hd))))) ?_;(repeat(apply Pn.mk;intro N hN))))
   exact fc (.inl rfl) (vs:=[.cr,.bool true]) (sd @e9) (fin [] _ _ _ (by rw[<-hgro];exact u7 (.inr (by(try simp only[List.length_nil]at hd ⊢);omega))) hgood (hC.frame bp fun x hx=>sd @Nat.zero_add) (.inl ⟨rfl,rfl⟩) (fun x hx hT hO=>by
    have z3:=jx x hx hT hO
    simp only[go_sem, ↓reduceIte,Nat.reduceEqDiff,Nat.reduceAdd,Nat.reduceSub,Nat.reduceLeDiff,reduceCtorEq,z3]) bp)
 ·by_cases hd:(es.length:Int)<(steps:Int)
  ·(try((repeat(revert N;apply Pn.out));refine wk (tw @b0 (tw @b1 (tw @b2 (tw @b8 (tw @e9 (tw @gu @hd)))))) ?_;(repeat(apply Pn.mk;intro N hN))))
   refine .inr (aH _ _ _ _ _ (fun r σ2 hq=>?_) (OG (σ:=⟨st_b.get,st_b.next+1+1⟩) (c:=c) (T:=T) (O:=O) (B:=B) (es:=es) hP hgood (hC.frame bp fun x hx=>rfl) hEb bp hs sk hBb bp))
   obtain⟨g2,x2⟩:=σ2
   obtain⟨n2,f2,hq⟩:=hq
   (try dsimp only at n2 f2 hq)
   apply hN
   clear hN N
   have hE2:gQ g2:=hEb.frame (n:=1) (Nat.le_refl _) fun x hx _=>f2 x ad (fun e=>by rw[e]at hx;omega) (fun e=>by rw[e]at hx;omega)
   obtain⟨⟨b3,k0⟩,b4,k1⟩:=hE2
   have w0:=dp (i:=qD 0) (n:=x2) (by rw[jv];omega)
   have w1:=dp (i:=qD 1) (n:=x2) (by rw[jv];omega)
   have p0:(qD 0).site=999000000:=rfl
   have p1:(qD 1).site=999000001:=rfl
   have ku:=(f2 u bp (fun e=>by rw[e]at u1;omega) (fun e=>by rw[e]at u1;omega)).trans gu
   have wu:=dp (i:=u) (n:=x2) ad
   rcases hq with⟨hO,rfl,z7⟩|⟨hO,vd,rfl⟩|⟨hO,gM,rfl,z7⟩
   ·(try((repeat(revert N;apply Pn.out));refine wk (tw @b0 (tw @b1 (tw @b2 (tw @b8 (tw @e9 (tw @gu (tw @k0 (tw @k1 (tw @w0 (tw @w1 (tw @p0 (tw @p1 (tw @ku @wu))))))))))))) ?_;(repeat(apply Pn.mk;intro N hN))))
    refine .inr (aH _ _ _ _ _ (fun r σ3 hq=>?_) (yU 0 sT))
    obtain⟨rfl,rfl⟩:=hq
    apply hN
    clear hN N
    (try((repeat(revert N;apply Pn.out));refine wk (tw @b0 (tw @b1 (tw @b2 (tw @b8 (tw @e9 (tw @gu (tw @k0 (tw @k1 (tw @w0 (tw @w1 (tw @p0 (tw @p1 (tw @ku @wu))))))))))))) ?_;(repeat(apply Pn.mk;intro N hN))))
    exact fc (.inl rfl) (vs:=[.own u 0 es.length,.bool true]) (sd @e9) (fin es _ _ _ (by rw[<-hgro];exact u7 (.inl (by rw[hO];rfl))) hgood (z7.frame bp fun x hx=>by
     have z1:=dp hx
     simp only[go_sem, ↓reduceIte,Nat.reduceEqDiff,Nat.reduceAdd,Nat.reduceSub,Nat.reduceLeDiff,reduceCtorEq,z1]) (.inr ⟨u,rfl,sd (tw @wu @ku),u1,bp,u3,u4⟩) (fun x hx hT hO=>by
     have z1:=dp (i:=x) (n:=x2) ad
     have z2:=f2 x bp hT hO
     have z3:=jx x hx hT hO
     simp only[go_sem, ↓reduceIte,Nat.reduceEqDiff,Nat.reduceAdd,Nat.reduceSub,Nat.reduceLeDiff,reduceCtorEq,z1]
     exact z2.trans z3) bp)
   ·(try((repeat(revert N;apply Pn.out));refine wk (tw @b0 (tw @b1 (tw @b2 (tw @b8 (tw @e9 (tw @gu (tw @k0 (tw @k1 (tw @w0 (tw @w1 (tw @p0 (tw @p1 (tw @ku @wu))))))))))))) ?_;(repeat(apply Pn.mk;intro N hN))))
    refine .inr (aH _ _ _ _ _ (fun r σ3 hq=>?_) (EW 1 0 sN sT fun e=>sTN e.symm))
    obtain⟨rfl,rfl⟩:=hq
    apply hN
    clear hN N
    (try((repeat(revert N;apply Pn.out));refine wk (tw @b0 (tw @b1 (tw @b2 (tw @b8 (tw @e9 (tw @gu (tw @k0 (tw @k1 (tw @w0 (tw @w1 (tw @p0 (tw @p1 (tw @ku @wu))))))))))))) ?_;(repeat(apply Pn.mk;intro N hN))))
    refine .inr (aH _ _ _ _ _ (fun r σ3 hq=>?_) (yU 1 sN))
    obtain⟨rfl,rfl⟩:=hq
    apply hN
    clear hN N
    (try((repeat(revert N;apply Pn.out));refine wk (tw @b0 (tw @b1 (tw @b2 (tw @b8 (tw @e9 (tw @gu (tw @k0 (tw @k1 (tw @w0 (tw @w1 (tw @p0 (tw @p1 (tw @ku @wu))))))))))))) ?_;(repeat(apply Pn.mk;intro N hN))))
    exact fc (.inl rfl) (vs:=[.cr,.bool false]) (sd @Nat.zero_add) ⟨by(try dsimp only at JK ⊢);omega,fun x hx hT hO=>by
     have z1:=dp (i:=x) (n:=x2) ad
     have z2:=f2 x bp hT hO
     have z3:=jx x ad hT hO
     simp only[go_sem, ↓reduceIte,Nat.reduceEqDiff,Nat.reduceAdd,Nat.reduceSub,Nat.reduceLeDiff,reduceCtorEq,z1]
     exact z2.trans (z3.trans (base x hx)),.inl ⟨by rw[<-hgro,me,if_neg (fun e=>hO (List.length_eq_zero_iff.1 e)),if_neg (by(try simp only[List.length_nil]at hd ⊢);omega),if_pos vd],rfl⟩⟩
   ·obtain⟨x,hx⟩:∃x,bh (jf (kb s K) (dn (kb s K) es es.length)) (uo sch es.length (jf (kb s K) (dn (kb s K) es es.length)).length)=x:=⟨_,rfl⟩
    rw[hx]at z7 ⊢
    have F8:x∈jf (kb s K) (dn (kb s K) es es.length):=by rw[<-hx];exact gG (oF (List.length_pos_iff.2 hO))
    have qL:=hgood.add F8 gM
    have NU:me (kb s K) sch steps f (es++[x])=nj (kb s K) sch steps:=by rw[<-hgro,me,if_neg (fun e=>hO (List.length_eq_zero_iff.1 e)),if_neg (by(try simp only[List.length_nil]at hd ⊢);omega),if_neg ad,hx]
    have Q0:es.length<=16777215:=by(try simp only[List.length_nil]);omega
    rw[ab]
    (try((repeat(revert N;apply Pn.out));refine wk (tw @b0 (tw @b1 (tw @b2 (tw @b8 (tw @e9 (tw @k0 (tw @k1 (tw @w0 (tw @w1 (tw @p0 (tw @p1 (tw @ku (tw @wu @Q0))))))))))))) ?_;(repeat(apply Pn.mk;intro N hN))))
    refine .inr (aH _ _ _ _ _ (fun r σ3 hq=>?_) (C8 0 sT))
    obtain⟨rfl,rfl⟩:=hq
    apply hN
    clear hN N
    (try((repeat(revert N;apply Pn.out));refine wk (tw @b0 (tw @b1 (tw @b2 (tw @b8 (tw @e9 (tw @k0 (tw @k1 (tw @w0 (tw @w1 (tw @p0 (tw @p1 (tw @ku (tw @wu @Q0))))))))))))) ?_;(repeat(apply Pn.mk;intro N hN))))
    refine .inr (aH _ _ _ _ _ (fun r σ3 hq=>?_) (C8 1 sN))
    obtain⟨rfl,rfl⟩:=hq
    apply hN
    clear hN N
    (try((repeat(revert N;apply Pn.out));refine wk (tw @b0 (tw @b1 (tw @b2 (tw @b8 (tw @e9 (tw @k0 (tw @k1 (tw @w0 (tw @w1 (tw @p0 (tw @p1 (tw @ku (tw @wu @Q0))))))))))))) ?_;(repeat(apply Pn.mk;intro N hN))))
    have FR:(es++[x]).map ab=es.map ab++[ab x]:=by simp
    have Q1:(es++[x]).length=es.length+1:=by simp
    rw[ab]at FR
    have UX:=h.o.cv
    have ncu:(c=u)=False:=eq_false fun e=>by rw[<-e]at u1;omega
    have nTu:(T=u)=False:=eq_false fun e=>by rw[<-e]at u1;omega
    have nOu:(O=u)=False:=eq_false fun e=>by rw[<-e]at u1;omega
    refine⟨f,ad,es++[x],f,rfl,NU,qL,by rw[Q1];(try simp only[List.length_nil]at hd ⊢);omega,by rw[Q1];(try simp only[List.length_nil]at Y4 ⊢);omega,?_,.inr ⟨⟨46008003,x2+1+1+1+1+1⟩,by rw[Q1];simp only[go_sem, ↓reduceIte,Nat.reduceEqDiff,Nat.reduceAdd,Nat.reduceSub,Nat.reduceLeDiff,reduceCtorEq]<;>rfl,by rw[FR];simp only[go_sem, ↓reduceIte,Nat.reduceEqDiff,Nat.reduceAdd,Nat.reduceSub,Nat.reduceLeDiff,reduceCtorEq]<;>rfl,bp,bp,by rw[Q1];omega,rfl⟩,fun y hy hT hO=>?_,bp⟩
    ·have zc:=dp z7.o.cv
     have zT:=dp z7.o.tv
     have zO:=dp z7.o.ov
     obtain⟨en,a1,a2⟩:=z7.op
     refine⟨z7.o.three bp (sd (tw @zc @ncu)) (sd (tw @zT @nTu)) (sd (tw @zO @nOu)),en,sd (tw @zO (tw @a1 @nOu)),a2.frame bp fun y hy ⟨k,r,hk⟩=>?_⟩
     have zy:=dp hy
     have nyu:(y=u)=False:=eq_false fun e=>by
      rw[e,ku]at hk
      simp at hk
     simp only[go_sem, ↓reduceIte,Nat.reduceEqDiff,Nat.reduceAdd,Nat.reduceSub,Nat.reduceLeDiff,reduceCtorEq,zy,nyu]
    ·have zy:=dp (i:=y) (n:=x2) ad
     have nyu:(y=u)=False:=eq_false fun e=>by rw[<-e]at u1;omega
     simp only[go_sem, ↓reduceIte,Nat.reduceEqDiff,Nat.reduceAdd,Nat.reduceSub,Nat.reduceLeDiff,reduceCtorEq,zy,nyu]
     exact(f2 y bp hT hO).trans (jx y hy hT hO)
  ·(try((repeat(revert N;apply Pn.out));refine wk (tw @b0 (tw @b1 (tw @b2 (tw @b8 (tw @e9 (tw @gu @hd)))))) ?_;(repeat(apply Pn.mk;intro N hN))))
   exact fc (.inl rfl) (vs:=[.own u 0 es.length,.bool true]) (sd @e9) (fin es _ _ _ (by rw[<-hgro];exact u7 (.inr (by(try simp only[List.length_nil]at hd ⊢);omega))) hgood (hC.frame bp fun x hx=>sd @Nat.zero_add) (.inr ⟨u,rfl,sd @gu,u1,bp,u3,u4⟩) (fun x hx hT hO=>by
    have z3:=jx x hx hT hO
    simp only[go_sem, ↓reduceIte,Nat.reduceEqDiff,Nat.reduceAdd,Nat.reduceSub,Nat.reduceLeDiff,reduceCtorEq,z3]) bp)
theorem Uz {σ:aw} {c T O:Id} {s:au} (hP:jz s) (h:qt σ.get σ.next c T O s s.dc.ai) (hE:gQ σ.get) (FN:1<=T.bt) (HW:1<=O.bt)
  {sch:List Int} (hs:∀x∈sch,0<=x/\x<=1000) (sk:sch.length<=200) (steps:Nat) (eA:steps<=501):
  Call Tryz.prog 46 [.ptr c 0 0,.sl (sch.map aL),.int .i64 (steps:Int)] σ (GroK σ c T O s sch steps):=
 UA (K:=s.dc.ai) hP.w h hE FN HW hs sk steps eA
theorem jJ.cut {P:Program} (hm:P.follows .mixedOrders=true) {f:Nat} {args args':List AV} {R:AV->Prop} (hc:uB args args') (h:jJ P f args' R):jJ P f args R:=fun n=>(h n).cut hm hc
def MakesA (P:Program) (f:Nat) (args:List AV) (L:List aa) (c:Int):Prop:=
 ∀n:Nat,Call P f args ⟨fun _=>none,n⟩ (fun r σ'=>∃v ids,r=.fX [.agg [v],.int .i64 c]/\X6 ab 3 σ'.get v L ids/\ML n σ'.next ids)
section
variable {P:Program} {L:List aa}
end
def Eh (sch:List Int):Bool:=decide (sch.length<=200)&& !(sch.any fun n=> !iW n 0 1000)
theorem pj {sch:List Int}:Eh sch=true↔sch.length<=200/\∀x∈sch,0<=x/\x<=1000:=by
 unfold Eh
 simp only[Bool.and_eq_true,decide_eq_true_eq,Bool.not_eq_true',List.any_eq_false,Bool.not_eq_false',iW,Bool.not_eq_true]
 constructor
 ·rintro⟨h1,h2⟩
  exact⟨h1,fun x hx=>by have:=h2 x hx;simpa using this⟩
 ·rintro⟨h1,h2⟩
  exact⟨h1,fun x hx=>by simpa using h2 x hx⟩
theorem Pg (n:Int):ax Tryz.prog 87 [.int .i64 n] (.bool (!iW n 0 1000)):=by
 refine ax.body fW rfl fun hl n0=>?_
 clear hl
 have h:=l9 n 0 1000
 (repeat(first|((repeat(revert N;apply Pn.out));refine wk @Nat.zero_add ?_;(repeat(apply Pn.mk;intro N hN)))|((try apply Or.inl);refine⟨_,ax.x (h) (sd @Nat.zero_add),?_⟩;apply hN;clear hN N)))
 exact di (b:= !iW n 0 1000) (.inl rfl) (sd @Nat.zero_add) rfl
theorem LV (ws:List Int) (hl:ws.length<=1048576):ax Tryz.prog 86 [.sl (ws.map aL),.fn 87 []] (.bool (ws.any fun n=> !iW n 0 1000)):=
 mZ JC (show Fg Tryz.prog 86=some (DH 86 130) by kernel_rfl)
  (show Fg Tryz.prog 130=some (xh 130 1 false) by kernel_rfl) ws hl _ _ _ rfl (fun g=>by rw[ar]) (fun x _=>Pg x) fun g=>by rw[ar]
theorem yD (sch:List Int) (hl:sch.length<=1048576):ax Tryz.prog 43 [.sl (sch.map aL)] (.bool (Eh sch)):=by
 refine ax.body fW rfl fun jd n0=>?_
 clear jd
 have gy:(sch.map aL).length=sch.length:=by simp
 have h:=LV sch hl
 unfold Eh
 by_cases h2:sch.length<=200
 ·have h3:decide ((sch.length:Int)<=200)=true:=decide_eq_true ad
  (repeat(first|((repeat(revert N;apply Pn.out));refine wk (tw @gy @h3) ?_;(repeat(apply Pn.mk;intro N hN)))|((try apply Or.inl);refine⟨_,ax.x (h) (sd (tw @gy @h3)),?_⟩;apply hN;clear hN N)))
  exact di (b:= !(sch.any fun n=> !iW n 0 1000)) (.inl rfl) (sd @Nat.zero_add) (by rw[decide_eq_true h2];rfl)
 ·have h3:decide ((sch.length:Int)<=200)=false:=decide_eq_false ad
  (repeat(first|((repeat(revert N;apply Pn.out));refine wk (tw @gy @h3) ?_;(repeat(apply Pn.mk;intro N hN)))|((try apply Or.inl);refine⟨_,ax.x (h) (sd (tw @gy @h3)),?_⟩;apply hN;clear hN N)))
  exact di (b:=false) (.inl rfl) (sd @Nat.zero_add) (by rw[decide_eq_false h2];rfl)
def MH (σ:aw) (s:au) (sch:List Int) (steps:Nat) (r:AV) (σ':aw):Prop:=
 σ.next<=σ'.next/\(∀x:Id,x.bt<σ.next->σ'.get x=σ.get x)/\
 ((nj s sch steps=none/\r=.fX [.cr,.agg [.cr],.int .i64 4])∨∃(es:List aa) (v:AV) (o:Id),nj s sch steps=some es/\fK s es/\r=.fX [v,.agg [.own o 0 (dn s es es.length).length],.int .i64 0]/\Hp 46008003 σ.next es v σ'.get σ'.next/\σ'.get o=some ⟨true,3,(dn s es es.length).map ab⟩/\σ.next<=o.bt/\o.bt<σ'.next/\∀u m,v=.own u 0 m->u≠o)
theorem QL {σ:aw} {s:au} (hP:jz s) (hE:gQ σ.get) (tP:1<=σ.next) {sch:List Int} (hs:∀x∈sch,0<=x/\x<=1000) (sk:sch.length<=200) (steps:Nat) (eA:steps<=501):
  Call Tryz.prog 51 [.agg (dh s),.sl (sch.map aL),.int .i64 (steps:Int)] σ (MH σ s sch steps):=by
 refine fV fW rfl fun jd=>?_
 clear jd
 have hT:1<=s.aI:=(eo hP.wi).1
 have hc:=fun σ=>D9 s hP.set hT s.dc.ai hP.s9 σ
 rw[dh]at hc ⊢
 (try((repeat(revert N;apply Pn.out));refine wk @Nat.zero_add ?_;(repeat(apply Pn.mk;intro N hN))))
 refine .inr (aH _ _ _ _ _ (fun r σ1 hq=>?_) (hc _))
 obtain⟨g1,x1⟩:=σ1
 obtain⟨c,T,O,rfl,hC,UX,FN,HW,sj,jx⟩:=hq
 (try dsimp only at hC UX FN HW sj jx)
 have base:∀x:Id,x.bt<σ.next->g1 x=σ.get x:=fun x hx=>by
  have h1:=dp hx
  have h2:=jx x bp
  simp only[go_sem, ↓reduceIte,Nat.reduceEqDiff,Nat.reduceAdd,Nat.reduceSub,Nat.reduceLeDiff,reduceCtorEq,h1]at h2
  exact h2
 have k7:=jx ⟨51000002,σ.next⟩ bp
 simp only[go_sem, ↓reduceIte,Nat.reduceEqDiff,Nat.reduceAdd,Nat.reduceSub,Nat.reduceLeDiff,reduceCtorEq]at k7
 apply hN
 clear hN N
 have YB:gQ g1:=hE.frame (n:=1) (Nat.le_refl _) fun x hx _=>base x ad
 (try((repeat(revert N;apply Pn.out));refine wk @k7 ?_;(repeat(apply Pn.mk;intro N hN))))
 refine .inr (aH _ _ _ _ _ (fun r σ2 hq=>?_) (Uz (σ:=⟨g1,_⟩) (c:=c) (T:=T) (O:=O) hP (hC.frame bp fun x hx=>rfl) YB ad ad hs sk steps eA))
 obtain⟨g2,x2⟩:=σ2
 obtain⟨n2,f2,hq⟩:=hq
 (try dsimp only at n2 f2 hq)
 have kT:T.bt<x1:=hC.o.tv
 have kO:O.bt<x1:=hC.o.ov
 have k72:=(f2 ⟨51000002,σ.next⟩ bp (fun e=>by rw[<-e]at FN;(try dsimp only at FN);omega) (fun e=>by rw[<-e]at HW;(try dsimp only at HW);omega)).trans k7
 have SQ:∀x:Id,x.bt<σ.next->g2 x=σ.get x:=fun x hx=>(f2 x ad (fun e=>by rw[e]at hx;omega) (fun e=>by rw[e]at hx;omega)).trans (base x hx)
 apply hN
 clear hN N
 rcases hq with⟨hg,rfl⟩|⟨es,v,hg,hG,z7,rfl,hL⟩
 ·(try((repeat(revert N;apply Pn.out));refine wk @k72 ?_;(repeat(apply Pn.mk;intro N hN))))
  exact fc (.inl rfl) (vs:=[.cr,.agg [.cr],.int .i64 4]) (sd @Nat.zero_add) ⟨bp,fun x hx=>by
   have h1:=dp hx
   simp only[go_sem, ↓reduceIte,Nat.reduceEqDiff,Nat.reduceAdd,Nat.reduceSub,Nat.reduceLeDiff,reduceCtorEq,h1,SQ x hx],.inl ⟨hg,rfl⟩⟩
 ·have hA:=fQ hP (es:=es) es.length (Nat.le_refl _) hG
  have UQ:=CO hP (es:=es) es.length (Nat.le_refl _) hG
  rw[List.take_length]at UQ
  have mN:=jW s es es.length (Nat.le_refl _)
  have Ab:=hA.1.xR
  have Zx:=hP.some
  (try((repeat(revert N;apply Pn.out));refine wk @k72 ?_;(repeat(apply Pn.mk;intro N hN))))
  refine .inr (aH _ _ _ _ _ (fun r σ3 hq=>?_) (Ht (σ:=⟨g2,_⟩) (L:=dn s es es.length) (z7.o.frame bp fun x _=>rfl) (by rw[List.length_append];omega) (fun e=>by have:=congrArg List.length e;rw[List.length_append,List.length_nil]at this;omega) hA.1.Br UQ.perm))
  obtain⟨g3,x3⟩:=σ3
  obtain⟨o,rfl,q1,q2,q3,q4,q5⟩:=hq
  (try dsimp only at q1 q2 q3 q4 q5)
  have k73:=(q5 ⟨51000002,σ.next⟩ bp (fun e=>by rw[<-e]at FN;(try dsimp only at FN);omega)).trans k72
  have vo:=ei (a:=(⟨51000002,σ.next⟩:Id)) (b:=o) bp
  apply hN
  clear hN N
  have vc:v.cells=[v]/\v.cell=true:=by
   rcases hL with⟨_,rfl⟩|⟨u,rfl,_⟩<;>exact⟨rfl,rfl⟩
  obtain⟨c1,c2⟩:=vc
  (try((repeat(revert N;apply Pn.out));refine wk (tw @k73 (tw @vo (tw @c1 @c2))) ?_;(repeat(apply Pn.mk;intro N hN))))
  refine fc (.inl rfl) (vs:=[v,.agg [.own o 0 (dn s es es.length).length],.int .i64 0]) (sd @Nat.zero_add) ⟨bp,fun x hx=>?_,.inr ⟨es,v,o,hg,hG,rfl,?_,sd (tw @vo @q1),ad,bp,?_⟩⟩
  ·have h1:=dp hx
   have h2:=q5 x ad (fun e=>by rw[e]at hx;omega)
   simp only[go_sem, ↓reduceIte,Nat.reduceEqDiff,Nat.reduceAdd,Nat.reduceSub,Nat.reduceLeDiff,reduceCtorEq,h1]
   exact h2.trans (SQ x hx)
  ·rcases hL with h1|⟨u,h1,h2,h3,h4,h40,h5⟩
   ·exact .inl h1
   ·have vu:(u=(⟨51000002,σ.next⟩:Id))=False:=eq_false fun e=>by rw[e]at h3;(try dsimp only at h3);omega
    have h6:=(q5 u bp (fun e=>by rw[e]at h3;omega)).trans h2
    exact .inr ⟨u,h1,sd (tw @vu @h6),ad,bp,h40,h5⟩
  ·intro u m e1 e2
   rcases hL with⟨_,h1⟩|⟨u',h1,h2,h3,h4,h40,h5⟩
   ·rw[h1]at e1;cases e1
   ·rw[h1]at e1
    injection e1 with e1
    rw[<-e1]at e2
    rw[e2]at h4
    (try dsimp only at q2)
    omega
def X2 (σ:aw) (s:au) (sch:List Int) (steps:Nat) (r:AV) (σ':aw):Prop:=
 (nW s=false/\r=.fX [.cr,.agg [.cr],.int .i64 1]/\σ.next<=σ'.next/\∀x:Id,x.bt<σ.next->σ'.get x=σ.get x)∨(nW s=true/\MH σ s sch steps r σ')
theorem TN {σ:aw} (s:au) (hn:kE s.az) (hm:MU s) (hE:gQ σ.get) (tP:1<=σ.next) {sch:List Int} (hs:∀x∈sch,0<=x/\x<=1000) (sk:sch.length<=200):
  Call Tryz.prog 20 [.agg (dh s),.sl (sch.map aL)] σ (X2 σ s sch 501):=by
 refine fV fW rfl fun jd=>?_
 clear jd
 have h1:=Bv Ud s hn hm.s.g hm.s.t (fun t ht=>hm.s.s t ht) hm.a
 have h2:=yD sch ad
 rw[pj.2 ⟨sk,hs⟩]at h2
 have hc:=fun(hP:jz s) (σ:aw) (hE:gQ σ.get) (h1:1<=σ.next)=>QL hP hE h1 hs sk 501 ad
 cases h0:nW s
 ·rw[h0]at h1
  rw[dh]at h1 ⊢
  (repeat(first|((repeat(revert N;apply Pn.out));refine wk @Nat.zero_add ?_;(repeat(apply Pn.mk;intro N hN)))|((try apply Or.inl);refine⟨_,ax.x (h1) (sd @Nat.zero_add),?_⟩;apply hN;clear hN N)))
  exact fc (.inl rfl) (vs:=[.cr,.agg [.cr],.int .i64 1]) (sd @Nat.zero_add) (.inl ⟨h0,rfl,bp,fun x hx=>by
   have h1:=dp hx
   simp only[go_sem, ↓reduceIte,Nat.reduceEqDiff,Nat.reduceAdd,Nat.reduceSub,Nat.reduceLeDiff,reduceCtorEq,h1]⟩)
 ·rw[h0]at h1
  have hP:=nJ.1 h0
  rw[dh]at h1 hc ⊢
  (repeat(first|((repeat(revert N;apply Pn.out));refine wk @Nat.zero_add ?_;(repeat(apply Pn.mk;intro N hN)))|((try apply Or.inl);refine⟨_,ax.x (h1) (sd @Nat.zero_add),?_⟩;apply hN;clear hN N)|((try apply Or.inl);refine⟨_,ax.x (h2) (sd @Nat.zero_add),?_⟩;apply hN;clear hN N)))
  refine .inr (aH _ _ _ _ _ (fun r σ1 hq=>?_) (hc hP _ (hE.frame (n:=1) (Nat.le_refl _) fun x hx _=>by
   have h1:=dp (i:=x) (n:=σ.next) ad
   simp only[go_sem, ↓reduceIte,Nat.reduceEqDiff,Nat.reduceAdd,Nat.reduceSub,Nat.reduceLeDiff,reduceCtorEq,h1]) bp))
  obtain⟨g1,x1⟩:=σ1
  obtain⟨n1,f1,hq⟩:=hq
  (try dsimp only at n1 f1 hq)
  have k7:=f1 ⟨20000002,σ.next⟩ bp
  simp only[go_sem, ↓reduceIte,Nat.reduceEqDiff,Nat.reduceAdd,Nat.reduceSub,Nat.reduceLeDiff,reduceCtorEq]at k7
  have base:∀x:Id,x.bt<σ.next->g1 x=σ.get x:=fun x hx=>by
   have h1:=dp hx
   have h2:=f1 x bp
   simp only[go_sem, ↓reduceIte,Nat.reduceEqDiff,Nat.reduceAdd,Nat.reduceSub,Nat.reduceLeDiff,reduceCtorEq,h1]at h2
   exact h2
  apply hN
  clear hN N
  rcases hq with⟨hg,rfl⟩|⟨es,v,o,hg,hG,rfl,hL,go,q2,q3,hZ⟩
  ·(try((repeat(revert N;apply Pn.out));refine wk @k7 ?_;(repeat(apply Pn.mk;intro N hN))))
   exact fc (.inl rfl) (vs:=[.cr,.agg [.cr],.int .i64 4]) (sd @Nat.zero_add) (.inr ⟨h0,bp,fun x hx=>by
    have h1:=dp hx
    simp only[go_sem, ↓reduceIte,Nat.reduceEqDiff,Nat.reduceAdd,Nat.reduceSub,Nat.reduceLeDiff,reduceCtorEq,h1,base x hx],.inl ⟨hg,rfl⟩⟩)
  ·have vc:v.cells=[v]/\v.cell=true:=by
    rcases hL with⟨_,rfl⟩|⟨u,rfl,_⟩<;>exact⟨rfl,rfl⟩
   obtain⟨c1,c2⟩:=vc
   have vo:(o=(⟨20000002,σ.next⟩:Id))=False:=eq_false fun e=>by rw[e]at q2;(try dsimp only at q2);omega
   (try((repeat(revert N;apply Pn.out));refine wk (tw @k7 (tw @vo (tw @c1 @c2))) ?_;(repeat(apply Pn.mk;intro N hN))))
   refine fc (.inl rfl) (vs:=[v,.agg [.own o 0 (dn s es es.length).length],.int .i64 0]) (sd @Nat.zero_add) (.inr ⟨h0,bp,fun x hx=>by
    have h1:=dp hx
    simp only[go_sem, ↓reduceIte,Nat.reduceEqDiff,Nat.reduceAdd,Nat.reduceSub,Nat.reduceLeDiff,reduceCtorEq,h1,base x hx],.inr ⟨es,v,o,hg,hG,rfl,?_,sd (tw @vo @go),by(try dsimp only at q2);omega,bp,hZ⟩⟩)
   rcases hL with h1|⟨u,h1,h2,h3,h4,h40,h5⟩
   ·exact .inl h1
   ·have vu:(u=(⟨20000002,σ.next⟩:Id))=False:=eq_false fun e=>by rw[e]at h3;(try dsimp only at h3);omega
    exact .inr ⟨u,h1,sd (tw @vu @h2),by(try dsimp only at h3);omega,bp,h40,h5⟩
noncomputable def FH (s:au) (sch:List Int) (steps:Nat):AV:=if nW s then(match nj s sch steps with
 |some es=>.fX [Tt ab es,.agg [.sl ((dn s es es.length).map ab)],.int .i64 0]
 |none=>.fX [.cr,.agg [.cr],.int .i64 4])else .fX [.cr,.agg [.cr],.int .i64 1]
theorem gQ.ro {g:Rows} (h:gQ g):gQ (V.ro g):=by
 obtain⟨⟨b,h1⟩,c,h2⟩:=h
 exact⟨⟨false,by unfold V.ro;rw[h1];rfl⟩,false,by unfold V.ro;rw[h2];rfl⟩
end Go.Proofs.YtoodopepphhpoaaGreatDoor.V

namespace Go.Proofs.YtoodopepphhpoaaGreatDoor.V
open Go.RowKit
def vD (g:Rows):Rows:=fun id=>if id=qD 0∨id=qD 1 then(g id).map fun r=>{r with w:=false}else none
theorem gQ.s7 {g:Rows} (h:gQ g):gQ (vD g):=by
 obtain⟨⟨b,h1⟩,c,h2⟩:=h
 refine⟨⟨false,?_⟩,false,?_⟩
 ·unfold vD;rw[if_pos (.inl rfl),h1];rfl
 ·unfold vD;rw[if_pos (.inr rfl),h2];rfl
section
variable {P:Program} {w w':World} {D D' D1 D2:Nat->Prop} {ι ι1 ι2:Names}
theorem I8 {f:Nat} {args args':List AV} {g:Rows} {n:Nat} {K:AV->aw->Prop} (hv:eC (ez g) 6 args=some args')
  (h:Sound P f args' ⟨vD g,n⟩ fun r σ'=>∃ids,r.wU=true/\Handed ids σ'.get/\K r ⟨pw ids g σ'.get,σ'.next⟩):Sound P f args ⟨g,n⟩ K:=by
 intro hs D ι w vs S U A
 let E:Nat->Prop:=fun b=>D b∨∃id r B,g id=some r/\ι id=some B/\b=B.b
 have lt:∀id r B,g id=some r->ι id=some B->B.b<w.heap.size:=fun id r B h1 h2=>by
  obtain⟨B',eE,R,_⟩:=S.row id r h1
  rw[h2]at eE;injection eE with eE;subst eE
  exact R.lt
 have kp:∀{id r},vD g id=some r->r.w=false/\∃r0,g id=some r0/\r={r0 with w:=false}:=fun {id r} h=>by
  unfold vD at h
  split at h
  ·simp only[Option.map_eq_some_iff]at h
   obtain⟨r0,h1,rfl⟩:=h
   exact⟨rfl,r0,h1,rfl⟩
  ·cases h
 have S0:iD P w.heap.size E ι (vD g) w:=⟨Nat.le_refl _,fun b hb=>by
  rcases hb with hb|⟨id,r,B,h1,h2,rfl⟩
  ·exact S.dead b hb
  ·exact lt id r B h1 h2,fun id r h=>by
   obtain⟨hw,r0,h0,rfl⟩:=kp h
   obtain⟨B,hB,R,_,_⟩:=S.row id r0 h0
   exact⟨B,hB,(R.frame rfl fun a v h=>h.frame (fun _ _=>rfl) (fun _ h=>.inl h) fun _ _ h=>h).flag false,fun h=>(by cases h),fun h=>(by cases h)⟩,fun id lz r r' B B' h h' hw=>by
   obtain⟨sn,_⟩:=kp h
   rw[hw]at sn;cases sn⟩
 obtain⟨l1,l2⟩:=iG hv
 have A':gI P w E ι args' vs:=⟨by rw[A.1,l1],fun j a hj=>by
  obtain⟨a0,mM,hz⟩:=l2 j a hj
  obtain⟨u,hu,hr⟩:=A.2 j a0 mM
  refine⟨u,hu,(rl (D2:=E) (ι2:=ι) (fun b h=>.inl h) (fun id row hg hw=>?_) 6 a0 u a hr hz).1⟩
  unfold ez at hg
  simp only[Option.map_eq_some_iff]at hg
  obtain⟨r,mj,rfl⟩:=hg
  obtain⟨B,hB,R,_,_⟩:=S.row id r mj
  exact⟨B,hB,R.flag true,.inr ⟨id,r,B,mj,hB,rfl⟩⟩⟩
 refine(h w.heap.size E ι w vs S0 U A').mono ?_
 rintro e w' ⟨r0,g',n',D2,ι1,u,rfl,⟨ids,oR,hid,hK⟩,T,S1,U1,hn,hR⟩
 have hb:∀b,b<w.heap.size->w'.heap[b]? =w.heap[b]? :=T.below.block
 have hz:=T.below.size
 have frame:∀{a v},dZ P w D ι a v->dZ P w' D ι1 a v:=fun h=>h.frame (fun b hd=>hb b (S.dead b hd)) (fun _ h=>h) T.names
 refine⟨r0,_,n',D,ι1,u,rfl,hK,⟨T.below.mono S.lo,fun b hd=>hb b (S.dead b hd),fun _ h=>h,T.names,fun _ h=>.inl h⟩,⟨Nat.le_trans S.lo hz,fun b hd=>Nat.lt_of_lt_of_le (S.dead b hd) hz,fun id r hr=>?_,fun Rk id2 r1 r2 B1 B2 h1 h2 hw Bn mv HX=>?_⟩,U1,hn,AS oR hR⟩
 ·by_cases hi:id∈ids
  ·rw[lg hi]at hr
   obtain⟨r',mj,hw,hcr⟩:=hid id hi
   rw[hr]at mj;injection mj with mj;subst mj
   obtain⟨B,hB,R,k1,k2⟩:=S1.row id r hr
   have kN:=k1 hw
   exact⟨B,hB,R.clean hcr,fun _=>Nat.le_trans S.lo kN,fun _ hd=>Nat.lt_irrefl _ (Nat.lt_of_lt_of_le (S.dead _ hd) kN)⟩
  ·rw[lL hi]at hr
   obtain⟨B,hB,R,k1,k2⟩:=S.row id r hr
   have JK:=lt id r B hr hB
   exact⟨B,T.names _ _ hB,R.frame (hb _ JK) fun a v h=>frame h,k1,k2⟩
 ·have new:∀{id r B},id∈ids->pw ids g g' id=some r->ι1 id=some B->w.heap.size<=B.b/\g' id=some r/\r.w=true:=fun {id r B} hi hr hB=>by
   rw[lg hi]at hr
   obtain⟨r',mj,hw,_⟩:=hid id hi
   replace mj:g' id=some r':=mj
   rw[hr]at mj;injection mj with mj;subst mj
   obtain⟨B',eE,_,k1,_⟩:=S1.row id r hr
   rw[hB]at eE;injection eE with eE;subst eE
   exact⟨k1 hw,hr,hw⟩
  have zh:∀{id r B},id∉ids->pw ids g g' id=some r->ι1 id=some B->B.b<w.heap.size/\g id=some r/\ι id=some B:=fun {id r B} hi hr hB=>by
   rw[lL hi]at hr
   obtain⟨B',eE,_⟩:=S.row id r hr
   have:=T.names _ _ eE
   rw[hB]at this;injection this with this;subst this
   exact⟨lt id r _ hr eE,hr,eE⟩
  by_cases i1:Rk∈ids
  ·obtain⟨a1,a2,a3⟩:=new i1 h1 Bn
   by_cases i2:id2∈ids
   ·obtain⟨b1,b2,b3⟩:=new i2 h2 mv
    exact S1.inj Rk id2 r1 r2 B1 B2 a2 b2 hw Bn mv HX
   ·obtain⟨b1,_⟩:=zh i2 h2 mv
    omega
  ·obtain⟨a1,a2,a3⟩:=zh i1 h1 Bn
   by_cases i2:id2∈ids
   ·obtain⟨b1,_⟩:=new i2 h2 mv
    omega
   ·obtain⟨b1,b2,b3⟩:=zh i2 h2 mv
    exact S.inj Rk id2 r1 r2 B1 B2 a2 b2 hw a3 b3 HX
end
theorem Kt {P:Program} (hm:P.follows .mixedOrders=true) {f:Nat} {args args':List AV} {σ:aw} {K:AV->aw->Prop} (hv:eC (ez σ.get) 6 args=some args')
  (h:Call P f args' ⟨vD σ.get,σ.next⟩ fun r σ'=>∃ids,r.wU=true/\Handed ids σ'.get/\K r ⟨pw ids σ.get σ'.get,σ'.next⟩):Call P f args σ K:=
 fH (I8 hv (iv hm h))
section
variable {α:Type} {e:α->List AV} {z:Nat} {L:List α}
end
end Go.Proofs.YtoodopepphhpoaaGreatDoor.V

namespace Go.Proofs.YtoodopepphhpoaaGreatDoor.V
open Go.RowKit
attribute [local irreducible] eu wpOps fB Call
theorem BQ (sch:List Int) (hl:sch.length<=1048576):ax Tryz.prog 28 [.sl (sch.map aL)] (.bool (Eh sch)):=by
 refine ax.body fW rfl fun jd n0=>?_
 clear jd
 have gy:(sch.map aL).length=sch.length:=by simp
 by_cases h2:(200:Int)<(sch.length:Int)
 ·have hd:decide ((200:Int)<(sch.length:Int))=true:=decide_eq_true h2
  (try((repeat(revert N;apply Pn.out));refine wk (tw @gy @hd) ?_;(repeat(apply Pn.mk;intro N hN))))
  exact di (b:=false) (.inl rfl) (sd @Nat.zero_add) (by unfold Eh;rw[decide_eq_false ad];rfl)
 have hd:decide ((200:Int)<(sch.length:Int))=false:=decide_eq_false h2
 (try((repeat(revert N;apply Pn.out));refine wk (tw @gy @hd) ?_;(repeat(apply Pn.mk;intro N hN))))
 refine cm (fun n env st=>∃k:Nat,n=(sch.length)-k/\k<=(sch.length)/\env 3=.int .i64 (k:Int)/\(∀j:Nat,j<k->iW (sch.getD j 0) 0 1000=true)) (sch.length) ⟨0,ad,ad,sl @Nat.zero_add,fun _ h=>absurd h (Nat.not_lt_zero _)⟩ ?_
 rintro n_a env_a st_a ⟨k,rfl,ale,a3,qJ⟩ eJ
 have a0:=eJ 0 (by kernel_rfl)
 simp only[go_sem, ↓reduceIte,Nat.reduceEqDiff,Nat.reduceAdd,Nat.reduceSub,Nat.reduceLeDiff,reduceCtorEq]at a0
 clear eJ
 by_cases hk:(k:Int)<(sch.length:Int)
 ·have eh:∀{e:Env},(e 3=.int .i64 (IntKind.i64.wrap ((k:Int)+1)))->(iW (sch.getD k 0) 0 1000=true)->∃m0,m0<(sch.length)-k/\∃k:Nat,m0=(sch.length)-k/\k<=(sch.length)/\e 3=.int .i64 (k:Int)/\(∀j:Nat,j<k->iW (sch.getD j 0) 0 1000=true):=fun x1 x2=>⟨_,ad,k+1,rfl,ad,(by rw[x1,aX ad]),(all_succ qJ x2)⟩
  have ji:k<sch.length:=ad
  have hg:=Ei ji
  have h3:=mJ (sch.getD k 0) 0 1000
  generalize hz:sch.getD k 0=z at *
  by_cases hi:iW z 0 1000=true
  ·rw[hi]at h3
   (have zF:=tw @a3 (tw @a0 (tw @hk (tw @hg @gy)));(repeat(first|((repeat(revert N;apply Pn.out));refine wk zF ?_;(repeat(apply Pn.mk;intro N hN)))|((try apply Or.inl);refine⟨_,ax.x (h3) (sd zF),?_⟩;apply hN;clear hN N)));try clear zF)
   exact eh (sd (tw @a3 @a0)) (by exact hi)
  ·rw[Bool.not_eq_true]at hi
   rw[hi]at h3
   (have zF:=tw @a3 (tw @a0 (tw @hk (tw @hg @gy)));(repeat(first|((repeat(revert N;apply Pn.out));refine wk zF ?_;(repeat(apply Pn.mk;intro N hN)))|((try apply Or.inl);refine⟨_,ax.x (h3) (sd zF),?_⟩;apply hN;clear hN N)));try clear zF)
   refine di (b:=false) (.inl rfl) (sd @Nat.zero_add) ?_
   cases hb:Eh sch
   ·rfl
   ·exfalso
    have:=(pj.1 hb).2 z (by rw[<-hz,List.getD_eq_getElem?_getD,List.getElem?_eq_getElem ji];exact List.getElem_mem ji)
    rw[show iW z 0 1000=true by simp[iW,this.1,this.2]]at hi
    cases hi
 ·(try((repeat(revert N;apply Pn.out));refine wk (tw @a3 (tw @a0 (tw @hk @gy))) ?_;(repeat(apply Pn.mk;intro N hN))))
  refine di (b:=true) (.inl rfl) (sd @Nat.zero_add) ?_
  refine(pj.2 ⟨ad,fun x hx=>?_⟩).symm
  obtain⟨j,hj,rfl⟩:=List.getElem_of_mem hx
  have:=qJ j ad
  rw[List.getD_eq_getElem?_getD,List.getElem?_eq_getElem hj,Option.getD_some]at this
  have:=eo this
  omega
theorem FG {s:au} (hP:jz s) {sch:List Int}:∀(f:Nat) (es:List aa),fK s es->me s sch 500 f es=me s sch 501 f es
 |0,_,_=>rfl
 |f+1,es,hG=>by
  have hA:=fQ hP (es:=es) es.length (Nat.le_refl _) hG
  have mN:=jW s es es.length (Nat.le_refl _)
  have Ab:=hA.1.xR
  have Zx:=hP.some
  rw[me,me]
  by_cases h0:(jf s (dn s es es.length)).length=0
  ·rw[if_pos h0,if_pos h0]
  ·rw[if_neg h0,if_neg h0,if_neg (show ¬500<=es.length by omega),if_neg (show ¬501<=es.length by omega)]
   by_cases h5:500<=(dn s es es.length).length
   ·rw[if_pos h5,if_pos h5]
   ·rw[if_neg h5,if_neg h5]
    exact FG hP f _ (hG.add (gG (oF ad)) ad)
theorem NG {s:au} (hP:jz s) (sch:List Int):nj s sch 500=nj s sch 501:=FG hP _ _ (fK.nil s)
noncomputable def FJ (s:au) (sch:List Int):AV:=if nW s then(if Eh sch then(match nj s sch 501 with
 |some es=>.fX [.sl (es.map ab),.agg [.sl ((dn s es es.length).map ab)],.int .i64 0]
 |none=>.fX [.cr,.agg [.cr],.int .i64 4])else .fX [.cr,.agg [.cr],.int .i64 2])else .fX [.cr,.agg [.cr],.int .i64 1]
theorem Ln (a:List aa) (ha:a.length<=1048576):ax Tryz.prog 48 [.er [.sl (a.map ab)],.er [.sl (a.map ab)]] (.bool true):=by
 refine ax.body fW rfl fun hl n0=>?_
 clear hl
 have gy:(a.map ab).length=a.length:=by simp
 have hd:∀x:Int,decide (x=x)=true:=fun x=>decide_eq_true rfl
 (try((repeat(revert N;apply Pn.out));refine wk (tw @gy @hd) ?_;(repeat(apply Pn.mk;intro N hN))))
 refine cm (fun n env st=>∃k:Nat,n=(a.length)-k/\k<=(a.length)/\env 5=.int .i64 (k:Int)) (a.length) ⟨0,ad,ad,sl (tw @gy @hd)⟩ ?_
 rintro n_b env_b st_b ⟨k,rfl,ble,b5⟩ fb
 have b0:=fb 0 (by kernel_rfl);have b1:=fb 1 (by kernel_rfl)
 simp only[go_sem, ↓reduceIte,Nat.reduceEqDiff,Nat.reduceAdd,Nat.reduceSub,Nat.reduceLeDiff,reduceCtorEq,gy,hd]at b0 b1
 clear fb
 by_cases hk:(k:Int)<(a.length:Int)
 ·have fS:∀{e:Env},(e 5=.int .i64 (IntKind.i64.wrap ((k:Int)+1)))->∃m0,m0<(a.length)-k/\∃k:Nat,m0=(a.length)-k/\k<=(a.length)/\e 5=.int .i64 (k:Int):=fun x1=>⟨_,ad,k+1,rfl,ad,(by rw[x1,aX ad])⟩
  have gx:=gK (l:=a) (i:=k) ad
  rw[ab]at gx
  (try((repeat(revert N;apply Pn.out));refine wk (tw @b5 (tw @b0 (tw @b1 (tw @hk (tw @gx (tw @gy (tw @hd (tw @Bool.and_true @Bool.not_true)))))))) ?_;(repeat(apply Pn.mk;intro N hN))))
  exact fS (sd (tw @b5 (tw @b0 @b1)))
 ·(try((repeat(revert N;apply Pn.out));refine wk (tw @b5 (tw @b0 (tw @b1 (tw @hk @gy)))) ?_;(repeat(apply Pn.mk;intro N hN))))
  exact di (b:=true) (.inl rfl) (sd @Nat.zero_add) rfl
theorem zw (a:List aa) (ha:a.length<=1048576):ax Tryz.prog 17 [.agg [.sl (a.map ab)],.agg [.sl (a.map ab)]] (.bool true):=by
 refine ax.body fW rfl fun hl n0=>?_
 clear hl
 have h1:=Ln a ha
 (repeat(first|((repeat(revert N;apply Pn.out));refine wk @Nat.zero_add ?_;(repeat(apply Pn.mk;intro N hN)))|((try apply Or.inl);refine⟨_,ax.x (h1) (sd @Nat.zero_add),?_⟩;apply hN;clear hN N)))
 exact di (b:=true) (.inl rfl) (sd @Nat.zero_add) rfl
theorem QJ (bs:List Int):ax Tryz.prog 18 [.sl (bs.map oc)] (.bool (decide (4096<bs.length))):=by
 refine ax.body fW rfl fun hl n0=>?_
 clear hl
 have gy:(bs.map oc).length=bs.length:=by simp
 (try((repeat(revert N;apply Pn.out));refine wk @gy ?_;(repeat(apply Pn.mk;intro N hN))))
 exact di (b:=decide ((4096:Int)<(bs.length:Int))) (.inl rfl) (sd @Nat.zero_add) (by apply decide_eq_decide.2;omega)
theorem Gj:ax Tryz.prog 48 [.er [.cr],.er [.cr]] (.bool true):=by
 refine ax.body fW rfl fun hl n0=>?_
 clear hl
 have hd:∀x:Int,decide (x=x)=true:=fun x=>decide_eq_true rfl
 (try((repeat(revert N;apply Pn.out));refine wk @hd ?_;(repeat(apply Pn.mk;intro N hN))))
 refine cm (fun n env st=>∃k:Nat,n=(0)-k/\k<=(0)/\env 5=.int .i64 (k:Int)) (0) ⟨0,ad,ad,sl @hd⟩ ?_
 rintro n_b env_b st_b ⟨k,rfl,ble,b5⟩ fb
 have b0:=fb 0 (by kernel_rfl);have b1:=fb 1 (by kernel_rfl)
 simp only[go_sem, ↓reduceIte,Nat.reduceEqDiff,Nat.reduceAdd,Nat.reduceSub,Nat.reduceLeDiff,reduceCtorEq,hd]at b0 b1
 clear fb
 obtain rfl:k=0:=ad
 have hk:¬((0:Nat):Int)<((0:Nat):Int):=ad
 (try((repeat(revert N;apply Pn.out));refine wk (tw @b5 (tw @b0 (tw @b1 @hk))) ?_;(repeat(apply Pn.mk;intro N hN))))
 exact di (b:=true) (.inl rfl) (sd @Nat.zero_add) rfl
theorem wN:ax Tryz.prog 17 [.agg [.cr],.agg [.cr]] (.bool true):=by
 refine ax.body fW rfl fun hl n0=>?_
 clear hl
 have h1:=Gj
 (repeat(first|((repeat(revert N;apply Pn.out));refine wk @Nat.zero_add ?_;(repeat(apply Pn.mk;intro N hN)))|((try apply Or.inl);refine⟨_,ax.x (h1) (sd @Nat.zero_add),?_⟩;apply hN;clear hN N)))
 exact di (b:=true) (.inl rfl) (sd @Nat.zero_add) rfl
theorem MJ (bs:List Int) (hb:∀b∈bs,0<=b/\b<=255) (kq:bs.length<=4096):
  jJ Tryz.prog 19 [.sl (bs.map oc)] fun r=>∃s:au,Qp s/\r=.agg (dh s):=by
 refine jJ.body fW rfl fun jd n0=>?_
 clear jd
 (try((repeat(revert N;apply Pn.out));refine wk @Nat.zero_add ?_;(repeat(apply Pn.mk;intro N hN))))
 refine .inr (aH _ _ _ _ _ (fun r σ1 hq=>?_) (Li bs _))
 obtain⟨X,rfl,x0,x1,hs,hK⟩:=hq
 obtain⟨g1,n1⟩:=σ1
 (try dsimp only at x0 x1 hs)
 apply hN
 clear hN N
 have mv:=hK ⟨19000000,n0⟩ bp
 simp only[go_sem, ↓reduceIte,Nat.reduceEqDiff,Nat.reduceAdd,Nat.reduceSub,Nat.reduceLeDiff,reduceCtorEq]at mv
 (try dsimp only at mv)
 clear hK
 (try((repeat(revert N;apply Pn.out));refine wk @Nat.zero_add ?_;(repeat(apply Pn.mk;intro N hN))))
 refine .inr (aH _ _ _ _ _ (fun r σ2 hq=>?_) (Ov bs hb kq X 0 ad _ hs bp))
 obtain⟨s,og,o,d,G,c,hX,rfl,hz,_,hK⟩:=hq
 obtain⟨g2,x2⟩:=σ2
 (try dsimp only at hz)
 have Bo:=hK.1
 (try dsimp only at Bo)
 have NB:=(hK.2 ⟨19000000,n0⟩ (fun e=>by rw[<-e]at x0;(try dsimp only at x0);omega) bp).trans mv
 (try dsimp only at NB)
 clear hK
 apply hN
 clear hN N
 (try((repeat(revert N;apply Pn.out));refine wk @NB ?_;(repeat(apply Pn.mk;intro N hN))))
 have hF:=hz (ck g2 ⟨19000000,n0⟩ ⟨true,4,[[.own og 0 G,.own o 0 c,.own d 0 1,.int .i64 2]]⟩) fun u h1=>(by
  have h9:∀s,(u=⟨s,n0⟩)=False:=fun s=>eq_false fun h=>by rw[h]at h1;(try dsimp only at h1);omega
  simp only[go_sem, ↓reduceIte,Nat.reduceEqDiff,Nat.reduceAdd,Nat.reduceSub,Nat.reduceLeDiff,reduceCtorEq,h9])
 exact⟨[.agg [.own og 0 G,.own o 0 c,.own d 0 1,.int .i64 2]],sd @Nat.zero_add,_,hF,s,hX,rfl⟩
theorem MX (l:List aa) (p:aq) (hf:qj l=true) (hl:l.length<=1048576) (h0:0<=fy l p):ax Tryz.prog 22 [.agg [.sl (l.map ab)],.agg (ah p)] (.fX [.int .i64 (fy l p),.bool true]):=by
 have h1:=Cq l
 rw[hf]at h1
 have h2:=at_v l p (w7.1 hf).Br hl
 refine ax.body fW rfl fun jd n0=>?_
 clear jd
 generalize fy l p=a at h0 h2 ⊢
 have hd:decide (a<0)=false:=decide_eq_false ad
 rw[ah]at h2 ⊢
 (repeat(first|((repeat(revert N;apply Pn.out));refine wk @hd ?_;(repeat(apply Pn.mk;intro N hN)))|((try apply Or.inl);refine⟨_,ax.x (h1) (sd @hd),?_⟩;apply hN;clear hN N)|((try apply Or.inl);refine⟨_,ax.x (h2) (sd @hd),?_⟩;apply hN;clear hN N)))
 exact km (.inl rfl) (r1:=.int .i64 a) (r2:=.bool true) (sd @Nat.zero_add) (sd @Nat.zero_add) (by simp only[gj,cF,dq,gi,eT,Option.map_some])
theorem gL.names {s:ay} (h:gL s):kE s:=by
 refine⟨fun g hg=>?_,fun t ht=>?_⟩
 ·obtain⟨i,hi,rfl⟩:=List.getElem_of_mem hg
  have h1:=(xq.1 (h.Xw i hi).1).1.2
  rw[show qk s i=s.aQ[i] by unfold qk;rw[List.getD_eq_getElem?_getD,List.getElem?_eq_getElem hi];rfl]at h1
  omega
 ·obtain⟨i,hi,rfl⟩:=List.getElem_of_mem ht
  have h1:=(xq.1 (h.tok i hi).1).1.2
  rw[show mK s i=s.ai[i] by unfold mK;rw[List.getD_eq_getElem?_getD,List.getElem?_eq_getElem hi];rfl]at h1
  omega
theorem gL.four {s:ay} (h:gL s):∀t∈s.ai,t.de.length=4:=fun t ht=>by
 obtain⟨i,hi,rfl⟩:=List.getElem_of_mem ht
 have h1:=(h.tok i hi).2.1
 rwa [show mK s i=s.ai[i] by unfold mK;rw[List.getD_eq_getElem?_getD,List.getElem?_eq_getElem hi];rfl]at h1
theorem jz.sm {s:au} (h:jz s):MU s:=⟨⟨by have:=h.set.mu;omega,by have:=h.set.qq;omega,fun t ht=>by unfold MZ;rw[h.set.four t ht];omega⟩,by have:=h.s9.1.xR;omega⟩
theorem aab (g:Rows):ez (V.ro g)=ez g:=funext fun id=>by
 unfold ez V.ro
 cases g id<;>rfl
theorem xx {g:Rows} {u:Id} {L:List aa} (h:g u=some ⟨true,3,L.map ab⟩):∃r,g u=some r/\r.w=true/\∀cs∈r.rows,∀a∈cs,a.clean=true:=⟨_,h,rfl,fun cs hc a ha=>by
 obtain⟨x,_,rfl⟩:=List.mem_map.1 hc
 have h1:=clPl x
 rw[List.all_eq_true]at h1
 exact h1 a ha⟩
theorem MG {σ:aw} (s:au) (hn:kE s.az) (hm:MU s) (hE:gQ σ.get) (tP:1<=σ.next) {sch:List Int} (hs:∀x∈sch,0<=x/\x<=1000) (sk:sch.length<=200) {args:List AV} (hv:eC (ez σ.get) 6 args=some [.agg (dh s),.sl (sch.map aL)]):
  fB (Call Tryz.prog) 20 args σ (fun r'=>r'=FH s sch 501):=by
 unfold fB PC
 refine Or.inl (Kt mixed (σ:=⟨V.ro σ.get,σ.next⟩) (args':=[.agg (dh s),.sl (sch.map aL)]) (by(try dsimp only);rw[aab];exact hv) (aH _ _ _ _ _ (fun r σ' hq=>?_) (TN (σ:=⟨vD (V.ro σ.get),σ.next⟩) s hn hm hE.ro.s7 tP hs sk)))
 unfold FH
 rcases hq with⟨h0,rfl,_⟩|⟨h0,_,_,h⟩
 ·rw[h0]
  exact⟨[],rfl,Handed.nil,_,by simp only[br,aj,ar,bj,aM,aJ,Option.map_some]<;>rfl,rfl⟩
 ·rw[h0]
  rcases h with⟨hg,rfl⟩|⟨es,v,o,hg,_,rfl,hL,ho,_⟩
  ·rw[hg]
   exact⟨[],rfl,Handed.nil,_,by simp only[br,aj,ar,bj,aM,aJ,Option.map_some]<;>rfl,rfl⟩
  ·rw[hg]
   rcases hL with⟨rfl,rfl⟩|⟨u,rfl,hu,_,_,h0,_⟩
   ·have hz:=gm (g:=pw [o] (V.ro σ.get) σ'.get) (n:=3) (e:=ab) ((lg (List.mem_singleton.2 rfl)).trans ho) rfl fun x=>by simp[ab,aj,ar,aJ]
    exact⟨[o],rfl,fun i hi=>by rw[List.mem_singleton.1 hi];exact xx ho,.fX [.cr,.agg [.sl ((dn s [] ([]:List aa).length).map ab)],.int .i64 0],by simp only[br,aj,ar,bj,aM,hz,aJ,Option.map_some],rfl⟩
   ·have hz:=gm (g:=pw [u,o] (V.ro σ.get) σ'.get) (n:=3) (e:=ab) ((lg (by simp)).trans ho) rfl fun x=>by simp[ab,aj,ar,aJ]
    have hy:=gm (g:=pw [u,o] (V.ro σ.get) σ'.get) (n:=4) (e:=ab) ((lg (by simp)).trans hu) rfl fun x=>by simp[ab,aj,ar,aJ]
    refine⟨[u,o],rfl,fun i hi=>?_,.fX [.sl (es.map ab),.agg [.sl ((dn s es es.length).map ab)],.int .i64 0],by simp only[br,aj,ar,bj,hy,hz,aJ,Option.map_some],by(try dsimp only);rw[show Tt ab es=.sl (es.map ab)from if_neg ad];rfl⟩
    rcases List.mem_cons.1 hi with rfl|hi
    ·exact xx hu
    ·rw[List.mem_singleton.1 hi];exact xx ho
theorem rj {g:Rows} {o:Id} (h:∃b,g o=some ⟨b,1,[]⟩):V.fz (ez g) 6 (.own o 0 0)=some (.sl (([]:List Int).map aL)):=by
 obtain⟨b,h⟩:=h
 exact gm (e:=aL) (sz:=1) (n:=5) (l:=[]) (by simp[ez,h]) rfl fun x=>by simp[aL,aj,ar,aJ]
theorem VX {g:Rows} {v v':AV} (h1:V.fz g 6 v=some v'):eC g 6 [v]=some [v']:=by simp only[aj,ar,h1,Option.map_some]
theorem TP {s:au} (hP:jz s) (hn:kE s.az) (hg:s.az.aQ.length<=1048576) (ht:s.az.ai.length<=1048576) {o:Id} {σ:aw} (hb:∃b,σ.get o=some ⟨b,1,[]⟩) (wI:o.bt<σ.next):
  Call Tryz.prog 9 [.agg (dh s),.own o 0 0] σ fun r σ'=>∃r',V.fz σ'.get 6 r=some r'/\r'=FJ s []:=by
 have h1:=Rx s hn hg ht
 have h2:=BQ [] (Nat.zero_le _)
 rw[nJ.2 hP]at h1
 rw[show Eh []=true from pj.2 ⟨Nat.zero_le _,fun x hx=>by cases hx⟩]at h2
 have P3:FJ s []=(match nj s [] 501 with
  |some es=>.fX [.sl (es.map ab),.agg [.sl ((dn s es es.length).map ab)],.int .i64 0]
  |none=>.fX [.cr,.agg [.cr],.int .i64 4]):=by
  unfold FJ
  rw[nJ.2 hP,if_pos rfl,if_pos (pj.2 ⟨Nat.zero_le _,fun x hx=>by cases hx⟩)]
  try rfl
 rw[P3]
 have h4:=jJ.cut mixed (.same _ (.ptr _ [.int .i64 s.aI] (.same _ (.same _ .nil)))) (Lq s hP [] (fun x hx=>by cases hx) (Nat.zero_le _) 500 ad)
 simp only[List.cons_append,List.nil_append]at h4
 rw[<-NG hP]
 have hc5:((500:Nat):Int)=500:=rfl
 rw[hc5]at h4
 refine fV fW rfl fun jd=>?_
 clear jd
 simp only[dh]at h1 h4 ⊢
 obtain⟨b,hb⟩:=hb
 have vo:=dp wI
 (repeat(first|((repeat(revert N;apply Pn.out));refine wk @Nat.zero_add ?_;(repeat(apply Pn.mk;intro N hN)))|((try apply Or.inl);refine⟨_,ax.x (h1) (sd @Nat.zero_add),?_⟩;apply hN;clear hN N)))
 refine .inl ⟨_,ax.x h2 (VX (rj ⟨b,by simp only[go_sem, ↓reduceIte,Nat.reduceEqDiff,Nat.reduceAdd,Nat.reduceSub,Nat.reduceLeDiff,reduceCtorEq,vo]<;>exact hb⟩)),?_⟩
 apply hN
 clear hN N
 (try((repeat(revert N;apply Pn.out));refine wk @Nat.zero_add ?_;(repeat(apply Pn.mk;intro N hN))))
 refine .inr (aH _ _ _ _ _ (fun r σ2 hq=>?_) (jJ.x mixed h4 (fzr4 (tM (rows:=[[.sl (s.az.aQ.map ej),.sl (s.az.ai.map du),.sl (s.dc.ai.map ab),.int .i64 s.aI]]) (by simp only[ez,go_sem, ↓reduceIte,Nat.reduceEqDiff,Nat.reduceAdd,Nat.reduceSub,Nat.reduceLeDiff,reduceCtorEq,Option.map_some]<;>rfl) rfl (by simp only[aj,ar,List.drop,cz,aJ,Option.map_some])) (tM (rows:=[[.sl (s.az.aQ.map ej),.sl (s.az.ai.map du),.sl (s.dc.ai.map ab),.int .i64 s.aI]]) (by simp only[ez,go_sem, ↓reduceIte,Nat.reduceEqDiff,Nat.reduceAdd,Nat.reduceSub,Nat.reduceLeDiff,reduceCtorEq,Option.map_some]<;>rfl) rfl (by simp only[aj,ar,List.drop,cz,aJ,Option.map_some])) (rj ⟨b,by simp only[go_sem, ↓reduceIte,Nat.reduceEqDiff,Nat.reduceAdd,Nat.reduceSub,Nat.reduceLeDiff,reduceCtorEq,vo]<;>exact hb⟩) (aJ _ _ _ _))))
 obtain⟨⟨b,rfl⟩,rfl⟩:=hq
 apply hN
 clear hN N
 cases hg:nj s [] 500 with
 |none=>
  rw[show FI s [] 500 b=.fX [.cr,.agg [.cr],.bool b,.int .i64 4] by unfold FI;rw[hg]]
  (try((repeat(revert N;apply Pn.out));refine wk @Nat.zero_add ?_;(repeat(apply Pn.mk;intro N hN))))
  exact fc (.inl rfl) (vs:=[.cr,.agg [.cr],.int .i64 4]) (sd @Nat.zero_add) ⟨.fX [.cr,.agg [.cr],.int .i64 4],by simp only[iF,br,bj,aj,ar,cz,aM,aJ,Option.map_some],by rw[hg]⟩
 |some es=>
  rw[show FI s [] 500 b=.fX [.sl (es.map ab),.agg [.sl ((dn s es es.length).map ab)],.bool b,.int .i64 0] by unfold FI;rw[hg]]
  (try((repeat(revert N;apply Pn.out));refine wk @Nat.zero_add ?_;(repeat(apply Pn.mk;intro N hN))))
  exact fc (.inl rfl) (vs:=[.sl (es.map ab),.agg [.sl ((dn s es es.length).map ab)],.int .i64 0]) (sd @Nat.zero_add) ⟨.fX [.sl (es.map ab),.agg [.sl ((dn s es es.length).map ab)],.int .i64 0],by simp only[iF,br,bj,aj,ar,cz,aM,aJ,Option.map_some],by rw[hg]⟩
theorem Io (code:List Int) (hc:∀b∈code,0<=b/\b<=255) (σ:aw) (hE:gQ σ.get) (tP:1<=σ.next):Call Tryz.prog 4 [.sl (code.map oc)] σ fun r _=>r=.bool true:=by
 refine fV fW rfl fun jd=>?_
 clear jd
 have h1:=QJ code
 by_cases c1:4096<code.length
 ·rw[decide_eq_true c1]at h1
  (repeat(first|((repeat(revert N;apply Pn.out));refine wk @Nat.zero_add ?_;(repeat(apply Pn.mk;intro N hN)))|((try apply Or.inl);refine⟨_,ax.x (h1) (sd @Nat.zero_add),?_⟩;apply hN;clear hN N)))
  exact fc (.inl rfl) (vs:=[.bool true]) (sd @Nat.zero_add) rfl
 rw[decide_eq_false c1]at h1
 (repeat(first|((repeat(revert N;apply Pn.out));refine wk @Nat.zero_add ?_;(repeat(apply Pn.mk;intro N hN)))|((try apply Or.inl);refine⟨_,ax.x (h1) (sd @Nat.zero_add),?_⟩;apply hN;clear hN N)))
 refine .inr (aH _ _ _ _ _ (fun r σ1 hq=>?_) (jJ.x mixed (MJ code hc ad) (fzr1 (cz _ _ _))))
 obtain⟨⟨s,hX,rfl⟩,rfl⟩:=hq
 apply hN
 clear hN N
 obtain⟨m,h,X,Y⟩:=hX.n
 have hS:=X.setP Y
 have hP:=X.sysP hS
 have FM:=X.BV hS
 have YJ:=X.sole hP
 have hsym:=X.sym
 have hn:=hS.names
 have hm:=hP.sm
 have sW:0<s.az.aQ.length:=by rw[X.mu];omega
 have Ia:=fun(σ:aw) (hE:gQ σ.get) (h1:1<=σ.next) {args:List AV} (hv:eC (ez σ.get) 6 args=some [.agg (dh s),.sl (([]:List Int).map aL)])=>MG s hn hm hE h1 (sch:=[]) (fun x hx=>by cases hx) (Nat.zero_le _) hv
 have Ai:=fun(σ:aw) {o:Id} (hb:∃b,σ.get o=some ⟨b,1,[]⟩) (wI:o.bt<σ.next)=>TP hP hn hm.s.g hm.s.t (σ:=⟨V.ro σ.get,σ.next⟩) (o:=o) (by obtain⟨b,h⟩:=hb;exact⟨false,by unfold V.ro;(try dsimp only);rw[h];rfl⟩) wI
 have ht1:=zx s.az hn hS sW hS.four
 have hd:∀x:Int,decide (x=x)=true:=fun x=>decide_eq_true rfl
 have hsa:=wN
 have h0:=nJ.2 hP
 have P3:FJ s []=(match nj s [] 501 with
  |some es=>.fX [.sl (es.map ab),.agg [.sl ((dn s es es.length).map ab)],.int .i64 0]
  |none=>.fX [.cr,.agg [.cr],.int .i64 4]):=by
  unfold FJ
  rw[h0,if_pos rfl,if_pos (pj.2 ⟨Nat.zero_le _,fun x hx=>by cases hx⟩)]
  try rfl
 have w0:=dp (i:=qD 0) (n:=σ.next) (by rw[jv];omega)
 have w1:=dp (i:=qD 1) (n:=σ.next) (by rw[jv];omega)
 cases hg:nj s [] 501 with
 |none=>
  have jZ:FH s [] 501=.fX [.cr,.agg [.cr],.int .i64 4]:=by rw[FH,h0,hg];rfl
  rw[hg]at P3
  (try dsimp only at P3)
  rw[jZ]at Ia
  rw[P3]at Ai
  have Z2:∀(σ:aw) {o:Id},(∃b,σ.get o=some ⟨b,1,[]⟩)->o.bt<σ.next->fB (Call Tryz.prog) 9 [.agg (dh s),.own o 0 0] σ (fun r=>r=.fX [.cr,.agg [.cr],.int .i64 4]):=fun σ o a b=>by unfold fB PC;exact Or.inl (Ai σ a b)
  rw[dh]at Ia Z2 ⊢
  (try((repeat(revert N;apply Pn.out));refine wk @Nat.zero_add ?_;(repeat(apply Pn.mk;intro N hN))))
  refine .inl ⟨_,Ia _ ?_ ?_ (I6 (by rw[<-dh];exact Ds _ _) (rj ⟨true,sd @Nat.zero_add⟩)),?_⟩
  ·exact hE.frame (n:=1) (Nat.le_refl _) fun x hx hs=>by
    have z1:=dp (i:=x) (n:=σ.next) ad
    rcases hs with h|h<;>simp only[go_sem, ↓reduceIte,Nat.reduceEqDiff,Nat.reduceAdd,Nat.reduceSub,Nat.reduceLeDiff,reduceCtorEq,z1,h]
  ·(try dsimp only);omega
  apply hN
  clear hN N
  (try((repeat(revert N;apply Pn.out));refine wk @hd ?_;(repeat(apply Pn.mk;intro N hN))))
  refine .inl ⟨_,Z2 _ ⟨true,sd @Nat.zero_add⟩ bp,?_⟩
  apply hN
  clear hN N
  (repeat(first|((repeat(revert N;apply Pn.out));refine wk @hd ?_;(repeat(apply Pn.mk;intro N hN)))|((try apply Or.inl);refine⟨_,ax.x (hsa) (sd @hd),?_⟩;apply hN;clear hN N)))
  refine .inr (aH _ _ _ _ _ (fun r σ2 hq=>?_) (p7.x mixed ht1))
  obtain⟨rfl,rfl⟩:=hq
  apply hN
  clear hN N
  have n4:decide ((4:Int)=0)=false:=rfl
  rw[ae]
  (try((repeat(revert N;apply Pn.out));refine wk (tw @hd @n4) ?_;(repeat(apply Pn.mk;intro N hN))))
  exact fc (.inl rfl) (vs:=[.bool true]) (by simp only[iA,jP,go_sem, ↓reduceIte,Nat.reduceEqDiff,Nat.reduceAdd,Nat.reduceSub,Nat.reduceLeDiff,reduceCtorEq]<;>rfl) rfl
 |some es=>
  obtain⟨ds,qL,hGD,hlD,hatD⟩:=Ez hP FM hsym YJ hg
  have hGE:=(xb hg).1
  have hA:=fQ hP (es:=es) es.length (Nat.le_refl _) hGE
  have hB:=fQ FM (es:=ds) ds.length (Nat.le_refl _) hGD
  have hfA:=hA.1.xR
  have hfB:=hB.1.xR
  have h0':=nJ.2 FM
  have jZ:FH s [] 501=.fX [Tt ab es,.agg [.sl ((dn s es es.length).map ab)],.int .i64 0]:=by rw[FH,h0,hg];rfl
  have hgi2:FH (fa s) [] 501=.fX [Tt ab ds,.agg [.sl ((dn (fa s) ds ds.length).map ab)],.int .i64 0]:=by rw[FH,h0',qL];rfl
  have EO:=fun(σ:aw) (hE:gQ σ.get) (h1:1<=σ.next) {args:List AV} (hv:eC (ez σ.get) 6 args=some [.agg (dh (fa s)),.sl (([]:List Int).map aL)])=>MG (fa s) FM.set.names FM.sm hE h1 (sch:=[]) (fun x hx=>by cases hx) (Nat.zero_le _) hv
  rw[hg]at P3
  (try dsimp only at P3)
  rw[jZ]at Ia
  rw[hgi2]at EO
  rw[P3]at Ai
  have Ob:=zw (dn s es es.length) ad
  have Od:=fun p h=>MX (dn (fa s) ds ds.length) p (w7.2 hB.1) ad h
  have hat2:∀x∈dn s es es.length,0<=x.bc/\fy (dn (fa s) ds ds.length) (ir x.bf)=x.bc:=fun x hx=>⟨(eo (hA.2 x hx)).1,(hatD x.bf).trans (at_mem hA.1.Br hx)⟩
  generalize dn s es es.length=L at *
  generalize dn (fa s) ds ds.length=M at *
  have Z2:∀(σ:aw) {o:Id},(∃b,σ.get o=some ⟨b,1,[]⟩)->o.bt<σ.next->fB (Call Tryz.prog) 9 [.agg (dh s),.own o 0 0] σ (fun r=>r=.fX [.sl (es.map ab),.agg [.sl (L.map ab)],.int .i64 0]):=fun σ o a b=>by unfold fB PC;exact Or.inl (Ai σ a b)
  rw[dh]at Ia Z2 ⊢
  have gy:(es.map ab).length=es.length:=by simp
  have n0:∀x y:Int,x=y->decide (x=y)=true:=fun x y h=>decide_eq_true h
  obtain⟨v,hv⟩:∃v,Tt ab es=v:=⟨_,rfl⟩
  rw[hv]at Ia
  have ZD:(v=.cr/\es.length=0)∨v=.sl (es.map ab):=by
   rw[<-hv,Tt]
   by_cases hz:es.length=0
   ·rw[if_pos hz];exact .inl ⟨rfl,hz⟩
   ·rw[if_neg hz];exact .inr rfl
  obtain⟨y,hy⟩:∃y,Tt ab ds=y:=⟨_,rfl⟩
  rw[hy]at EO
  have hyc:y.cells=[y]/\y.cell=true:=by
   rw[<-hy,Tt]
   by_cases hz:ds.length=0
   ·rw[if_pos hz];exact⟨rfl,rfl⟩
   ·rw[if_neg hz];exact⟨rfl,rfl⟩
  have Af:(L.map ab).length=L.length:=by simp
  have hLM:(M.map ab).length=(L.map ab).length:=by rw[List.length_map,List.length_map];exact hlD
  (try((repeat(revert N;apply Pn.out));refine wk @Nat.zero_add ?_;(repeat(apply Pn.mk;intro N hN))))
  refine .inl ⟨_,Ia _ ?_ ?_ (I6 (by rw[<-dh];exact Ds _ _) (rj ⟨true,sd @Nat.zero_add⟩)),?_⟩
  ·exact hE.frame (n:=1) (Nat.le_refl _) fun x hx hs=>by
    have z1:=dp (i:=x) (n:=σ.next) ad
    rcases hs with h|h<;>simp only[go_sem, ↓reduceIte,Nat.reduceEqDiff,Nat.reduceAdd,Nat.reduceSub,Nat.reduceLeDiff,reduceCtorEq,z1,h]
  ·(try dsimp only);omega
  apply hN
  clear hN N
  rcases ZD with⟨rfl,hz⟩|rfl
  rw[hz]at gy
  all_goals
   (try((repeat(revert N;apply Pn.out));refine wk @hd ?_;(repeat(apply Pn.mk;intro N hN))))
   refine .inl ⟨_,Z2 _ ⟨true,sd @Nat.zero_add⟩ bp,?_⟩
   apply hN
   clear hN N
   (repeat(first|((repeat(revert N;apply Pn.out));refine wk (tw @hd @gy) ?_;(repeat(apply Pn.mk;intro N hN)))|((try apply Or.inl);refine⟨_,ax.x (Ob) (sd (tw @hd @gy)),?_⟩;apply hN;clear hN N)))
   refine .inr (aH _ _ _ _ _ (fun r σ2 hq=>?_) (p7.x mixed ht1))
   obtain⟨rfl,rfl⟩:=hq
   apply hN
   clear hN N
   rw[ae]
   (try((repeat(revert N;apply Pn.out));refine wk @hd ?_;(repeat(apply Pn.mk;intro N hN))))
   refine .inl ⟨_,EO _ ?_ ?_ (I6 (by exact Ds _ (fa s)) (rj ⟨true,sd @Nat.zero_add⟩)),?_⟩
   ·exact hE.frame (n:=1) (Nat.le_refl _) fun x hx hs=>by
     have z1:=dp (i:=x) (n:=σ.next) ad
     have z2:=dp (i:=x) (n:=σ.next+1+1+1+1+1+1+1) ad
     rcases hs with h|h<;>simp only[go_sem, ↓reduceIte,Nat.reduceEqDiff,Nat.reduceAdd,Nat.reduceSub,Nat.reduceLeDiff,reduceCtorEq,z1,z2,h]
   ·(try dsimp only);omega
   apply hN
   clear hN N
   (try((repeat(revert N;apply Pn.out));refine wk (tw @hd @hLM) ?_;(repeat(apply Pn.mk;intro N hN))))
   refine cm (fun n env st=>∃k:Nat,n=(L.length)-k/\k<=(L.length)/\env 16=.int .i64 (k:Int)/\st.get ⟨4005007,σ.next+1+1+1+1+1⟩=some ⟨true,1,[[.sl (L.map ab)]]⟩/\st.get ⟨4012007,σ.next+1+1+1+1+1+1+1+1+1+1+1⟩=some ⟨true,1,[[.sl (M.map ab)]]⟩) (L.length) ⟨0,ad,ad,sl @Af,sl @Af,sl @Af⟩ ?_
   rintro n_b env_b st_b ⟨k,rfl,ble,b16,bg0,bg1⟩ fb
   have b8:=fb 8 (by kernel_rfl);have KA:=fb 14 (by kernel_rfl)
   simp only[go_sem, ↓reduceIte,Nat.reduceEqDiff,Nat.reduceAdd,Nat.reduceSub,Nat.reduceLeDiff,reduceCtorEq,Af]at b8 KA
   clear fb
   by_cases hk:(k:Int)<(L.length:Int)
   ·have fS:∀{e:Env} {gg:Rows},(e 16=.int .i64 (IntKind.i64.wrap ((k:Int)+1)))->(gg ⟨4005007,σ.next+1+1+1+1+1⟩=some ⟨true,1,[[.sl (L.map ab)]]⟩)->(gg ⟨4012007,σ.next+1+1+1+1+1+1+1+1+1+1+1⟩=some ⟨true,1,[[.sl (M.map ab)]]⟩)->∃m0,m0<(L.length)-k/\∃k:Nat,m0=(L.length)-k/\k<=(L.length)/\e 16=.int .i64 (k:Int)/\gg ⟨4005007,σ.next+1+1+1+1+1⟩=some ⟨true,1,[[.sl (L.map ab)]]⟩/\gg ⟨4012007,σ.next+1+1+1+1+1+1+1+1+1+1+1⟩=some ⟨true,1,[[.sl (M.map ab)]]⟩:=fun x1 x2 x3=>⟨_,ad,k+1,rfl,ad,(by rw[x1,aX ad]),x2,x3⟩
    have ji:k<L.length:=ad
    have gx:=gK ji
    obtain⟨t0,t1⟩:=hat2 _ (gG ji)
    have h3:=Od (ir (bh L k).bf) (by rw[t1];exact t0)
    rw[t1]at h3
    generalize bh L k=x at gx h3
    have h4:ax Tryz.prog 22 [.agg [.sl (M.map ab)],.agg [.int .i64 x.bf.fw,.int .i64 x.bf.fE]] (.fX [.int .i64 x.bc,.bool true]):=h3
    rw[ab]at gx
    (have zF:=tw @b16 (tw @bg0 (tw @bg1 (tw @b8 (tw @KA (tw @hk (tw @gx (tw @Af @hd)))))));(repeat(first|((repeat(revert N;apply Pn.out));refine wk zF ?_;(repeat(apply Pn.mk;intro N hN)))|((try apply Or.inl);refine⟨_,ax.x (h4) (sd zF),?_⟩;apply hN;clear hN N)));try clear zF)
    refine fS ?_ ?_ ?_
    all_goals simp only[go_sem, ↓reduceIte,Nat.reduceEqDiff,Nat.reduceAdd,Nat.reduceSub,Nat.reduceLeDiff,reduceCtorEq,b16,bg0,bg1,b8,KA,Af]
   ·(try((repeat(revert N;apply Pn.out));refine wk (tw @b16 (tw @bg0 (tw @bg1 (tw @b8 (tw @KA (tw @hk @Af)))))) ?_;(repeat(apply Pn.mk;intro N hN))))
    exact fc (.inl rfl) (vs:=[.bool true]) (sd @Nat.zero_add) rfl
end Go.Proofs.YtoodopepphhpoaaGreatDoor.V

namespace Go.Proofs.YtoodopepphhpoaaGreatDoor
open Go.ChangeShapes Go.WideShapes Go.ChangeAt Go.RowKit Go.Deep
section
variable {H:Type} {enc:TypeId×Value->H} {P:Program} {w:World}
theorem qu.ZR {α:Type} {rep:World->List Nat->List Value->α->Prop} {sz:Nat} {w:World} {b o len cap:Nat} (qW:Nat->List Value) (fs:Nat->List Nat) (ds:Nat->α) (hc:len<=cap) (hm:cap<=maxLen)
  (hl:∀i,i<len->(qW i).length=sz) (hr:∀i,i<len->rep w (fs i) (qW i) (ds i)) (pb:∀i,i<len->∀j u,(qW i)[j]? =some u->w.cell? ⟨b,o+(i*sz+j),none⟩=some u):
  qu rep sz w ([b]++((List.range len).map fs).flatten) (.slice (some ⟨b,o,none⟩) len cap) ((List.range len).map ds):=by
 refine⟨(List.range len).map qW,(List.range len).map fs,[b],rfl,⟨some ⟨b,o,none⟩,cap,by simp,by simpa using hc,hm,.inr ⟨b,o,rfl,rfl,fun j u hj=>?_⟩⟩,by simp,by simp,fun i cs f d h1 h2 h3=>?_⟩
 ·have hlen:∀cs∈(List.range len).map qW,cs.length=sz:=fun cs eD=>by
   obtain⟨i,hi,rfl⟩:=List.mem_map.1 eD
   exact hl i (List.mem_range.1 hi)
  have iP:=(List.getElem?_eq_some_iff.1 hj).1
  have K5:((List.range len).map qW).flatten.length=len*sz:=by
   rw[List.length_flatten,List.map_map]
   have:∀(l:List Nat),(∀i∈l,i<len)->(l.map (List.length∘qW)).sum=l.length*sz:=by
    intro l
    induction l with
    |nil=>intro _;simp
    |cons a l ih=>intro h;rw[List.map_cons,List.sum_cons,ih fun i hi=>h i (List.mem_cons_of_mem _ hi)];simp only[Function.comp,hl a (h a (by simp)),List.length_cons,Nat.add_mul];omega
   rw[this _ fun i hi=>List.mem_range.1 hi,List.length_range]
  rw[K5]at iP
  have Mx:0<sz:=by
   rcases Nat.eq_zero_or_pos sz with h|h
   ·subst h;simp at iP
   ·exact h
  have hi:j / sz<len:=(Nat.div_lt_iff_lt_mul Mx).2 iP
  have H6:j % sz<sz:=Nat.mod_lt _ Mx
  have QZ:j=(j / sz)*sz+j % sz:=by rw[Nat.mul_comm];exact(Nat.div_add_mod j sz).symm
  rw[QZ,xU hlen (i:=j / sz) (cs:=qW (j / sz)) (by simp[hi]) H6]at hj
  rw[QZ]
  have:=pb (j / sz) hi (j % sz) u hj
  rw[<-QZ]at this ⊢
  exact this
 ·have hi:i<len:=by
   have:=(List.getElem?_eq_some_iff.1 h1).1
   simpa using this
  simp[hi]at h1 h2 h3
  subst h1 h2 h3
  exact⟨hr i hi,hl i hi⟩
theorem ma (b o k:Nat):(⟨b,o,none⟩:Addr).add k=⟨b,o+k,none⟩:=by
 unfold Addr.add;split
 ·rename_i h;subst h;rfl
 ·rfl
theorem L8 {α:Type} {rep:World->List Nat->List Value->α->Prop} {Q:α->Prop} {t e:TypeId} {sz fuel:Nat} {cs:List Value} {x:DataW H×List MemPlace} (ht:P.underlying t=some (.slice e)) (hC:P.cellsOf e=sz) (Mx:0<sz)
  (h:DataW.trod enc P w 0 (fun _=>true) true fuel t cs=some x) (hel:∀n uS y,uS.length=sz->DataW.trod enc P w 0 (fun _=>true) true n e uS=some y->∃f d,mV f 0 w.heap.size/\rep w f uS d/\Q d):
  ∃A n c f xs,cs=[.slice A n c]/\mV f 0 w.heap.size/\qu rep sz w f (.slice A n c) xs/\∀d∈xs,Q d:=by
 rcases open_slice ht h with⟨rfl,_⟩|⟨a,len,cap,m,n,D,Pl,rfl,_,hl,hm,Ve,_,hi⟩
 ·exact⟨none,0,0,[],[],rfl,mV.nil _ _,qu.nil _ _ _,fun d h=>by cases h⟩
 rw[hC]at hi
 simp only[if_true]at Ve
 by_cases h0:len=0
 ·subst h0
  exact⟨some a,0,cap,[],[],rfl,mV.nil _ _,⟨[],[],[],rfl,⟨some a,cap,rfl,Nat.zero_le _,hm,.inl ⟨rfl,rfl⟩⟩,rfl,rfl,fun i cs f d hc=>by simp at hc⟩,fun d h=>by cases h⟩
 obtain⟨b,o,sp⟩:=a
 have cell0:∃v,w.cell? ⟨b,o,sp⟩=some v:=by
  obtain⟨uS,hc,_⟩:=hi 0 (by omega)
  obtain⟨_,oR,pb⟩:=World.cells?_some hc
  refine⟨uS[0]'(by omega),?_⟩
  have:=pb 0 Mx
  rw[List.getElem?_eq_getElem (by omega)]at this
  simpa[Addr.add]using this
 obtain⟨v0,qn⟩:=cell0
 have hb:b<w.heap.size:=World.block_lt_of_cell? w _ qn
 have Vr:sp=none:=by
  unfold World.cell? at qn
  split at qn
  ·split at qn
   ·cases qn
   ·rename_i h;simpa using h
  ·cases qn
 subst Vr
 have key:∀i,i<len->∃uS f d,uS.length=sz/\mV f 0 w.heap.size/\rep w f uS d/\Q d/\∀j u,uS[j]? =some u->w.cell? ⟨b,o+(i*sz+j),none⟩=some u:=fun i oj=>by
  obtain⟨uS,hc,htr⟩:=hi i (by omega)
  obtain⟨_,oR,pb⟩:=World.cells?_some hc
  obtain⟨f,d,h1,h2,h3⟩:=hel n uS _ oR htr
  refine⟨uS,f,d,oR,h1,h2,h3,fun j u hj=>?_⟩
  have iP:=(List.getElem?_eq_some_iff.1 hj).1
  have:=pb j (by omega)
  rw[hj]at this
  rw[<-this,Go.Deep.add_add,ma]
 have:Nonempty α:=by
  obtain⟨_,_,d,_⟩:=key 0 (by omega)
  exact⟨d⟩
 let cf:Nat->List Value:=fun i=>if hi:i<len then(key i hi).choose else[]
 let ff:Nat->List Nat:=fun i=>if hi:i<len then(key i hi).choose_spec.choose else[]
 let df:Nat->α:=fun i=>if hi:i<len then(key i hi).choose_spec.choose_spec.choose else Classical.choice this
 have eR:∀i,i<len->(cf i).length=sz/\mV (ff i) 0 w.heap.size/\rep w (ff i) (cf i) (df i)/\Q (df i)/\∀j u,(cf i)[j]? =some u->w.cell? ⟨b,o+(i*sz+j),none⟩=some u:=fun i hi=>by
  have:=(key i hi).choose_spec.choose_spec.choose_spec
  simp only[cf,ff,df,dif_pos hi]
  exact this
 refine⟨some ⟨b,o,none⟩,len,cap,_,(List.range len).map df,rfl,?_,qu.ZR cf ff df hl hm (fun i hi=>(eR i hi).1) (fun i hi=>(eR i hi).2.2.1) (fun i hi=>(eR i hi).2.2.2.2),fun d hd=>?_⟩
 ·intro x hx
  rcases List.mem_append.1 hx with hx|hx
  ·simp at hx;subst hx;exact⟨Nat.zero_le _,hb⟩
  ·obtain⟨l,EM,hxl⟩:=List.mem_flatten.1 hx
   obtain⟨i,hi,rfl⟩:=List.mem_map.1 EM
   exact(eR i (List.mem_range.1 hi)).2.1 x hxl
 ·obtain⟨i,hi,rfl⟩:=List.mem_map.1 hd
  exact(eR i (List.mem_range.1 hi)).2.2.2.1
end
section
variable {H:Type} {enc:TypeId×Value->H} {w:World} {fuel:Nat} {cs:List Value} {x:DataW H×List MemPlace}
abbrev TT (enc:TypeId×Value->H) (w:World) (fuel t:Nat) (cs:List Value) (x:DataW H×List MemPlace):Prop:=DataW.trod enc Tryz.prog w 0 (fun _=>true) true fuel t cs=some x
end
end Go.Proofs.YtoodopepphhpoaaGreatDoor

namespace Go.Proofs.YtoodopepphhpoaaGreatDoor
open Go.ChangeShapes Go.WideShapes Go.ChangeAt Go.RowKit V
def C9:=Flat (fun b:Int=>[Value.int .u8 b])
theorem MC {P:Program} {w:World} {D:Nat->Prop} {f:List Nat} {v:Value} {xs:List Int} (h:qu C9 1 w f v xs) (hD:∀b∈f,D b):lO P w D (.sl (xs.map oc)) v:=
 Ph h hD (fun _ _=>rfl) (fun x _ a ha=>by simp[oc]at ha;rcases ha with rfl<;>rfl) fun x _ f' cs hr hf=>by
  obtain⟨_,rfl⟩:=hr
  intro j a ha
  match j,ha with
  |0,ha=>simp[oc]at ha;subst ha;exact⟨_,rfl,.int _ _⟩
  |j+1,ha=>simp[oc]at ha
theorem RK {H:Type} {enc:TypeId×Value->H} {w:World} {fuel:Nat} {cs:List Value} {x:DataW H×List MemPlace} (h:TT enc w fuel 22 cs x):∃A n c f xs,cs=[.slice A n c]/\mV f 0 w.heap.size/\qu C9 1 w f (.slice A n c) xs/\∀b∈xs,0<=b/\b<=255:=
 L8 (rep:=C9) (Q:=fun b=>0<=b/\b<=255) Tryz.underlying22 (sz:=1) (by kernel_rfl) (by omega) h fun n uS y hl hy=>by
  obtain⟨b,rfl,_,hw⟩:=DataW.trod_int Tryz.underlying5 hy
  exact⟨[],b,mV.nil _ _,⟨rfl,rfl⟩,by simpa[Lit.wf,IntKind.min,IntKind.max,IntKind.signed,IntKind.bits]using hw⟩
theorem Z1:ownKnob Tryz.prog.godebug=none:=by kernel_rfl
theorem VJ:laidOutB Tryz.prog=true:=by kernel_rfl
theorem Nt:gQ (BC 0 1 tE sT sN):=⟨⟨_,Uo 0 1 tE sT sN⟩,_,Up (by decide) tE sT sN⟩
theorem L6 (os:Os) (started:os.Started) (H:Type) (enc:TypeId×Value->H):
  ReturnsInHanded {} Tryz.checked os 4 .any (fun w args=>(Rows.fnTurnedGrowthSpec.pre enc Tryz.prog Tryz.f4 [] false w args/\laidMetH Tryz.prog Rows.fnTurnedGrowthRow.laid w)/\sizedMet enc Tryz.prog Tryz.f4 (OpenSpec.ofChange Rows.fnTurnedGrowthSpec) false w args) (Rows.fnTurnedGrowthSpec.post enc Tryz.prog Tryz.f4 false true false false):=by
 refine returnsInHanded_of_change_and (C:=Tryz.checked) (X:=fun w _=>laidMetH Tryz.prog Rows.fnTurnedGrowthRow.laid w) (fun _ _ _ hh h=>h.of_heap hh) Z1 started (by kernel_rfl) Tryz.func4
  (ChangeSpec.witness_shaped (enc:=enc) (C:=Tryz.checked) (os:=os) (X:=fun w _=>laidMetH Tryz.prog Rows.fnTurnedGrowthRow.laid w) false (World.laidAll Tryz.prog os Rows.fnTurnedGrowthRow.laid) #[.slice none 0 0] 8 (World.laidAll_os _ _ _)
   (World.shaped_of_ZipB (by kernel_rfl) (by kernel_rfl)) (by kernel_rfl) (by kernel_rfl) (by kernel_rfl)
   (by rw[MakeChecks.laidMetH_plain _ _ _ (by kernel_rfl)];exact laidMet_laidAll _ (by kernel_rfl) (by kernel_rfl))) ?_
 intro W base args ds gs before Tm hW hcnd _ hL _
 have yM:∀(j:Nat) t v,Tryz.f4.params[j]? =some t->args[j]? =some v->Value.okWide Tryz.prog W .any base t v:=Tm
 have hW':=hW
 obtain⟨p,q,hA0,hV0,rfl,NT,qm⟩:=hW
 have hA:DataW.TrodAll enc Tryz.prog W 0 (fun _=>true) true Tryz.f4.params.toList args.toList ds p:=hA0
 have hV:DataW.TrodVars enc Tryz.prog W (fun _=>true) ["loop.example/g01081/impl.errTerminal", "loop.example/g01081/impl.errNoSpace"] gs q:=hV0
 rw[Tryz.params4]at hA yM
 obtain⟨v0,vs0,d0,ds0,p0,q0,ql,rfl,rfl,h0,r0⟩:=trodAll_cons hA
 obtain⟨rfl,rfl,rfl⟩:=trodAll_nil r0
 obtain rfl:args= #[v0]:=by cases args;simp_all
 rw[MakeChecks.laidMetH_plain _ _ _ (by kernel_rfl)]at hL
 obtain⟨a0,a1,qn,tW,hT,hN⟩:=Lt hL
 have vr:∀{X:World},X.var? Tryz.prog "loop.example/g01081/impl.errTerminal" =some #[.iface tE (.pointer (some a0))]->X.var? Tryz.prog "loop.example/g01081/impl.errNoSpace" =some #[.iface tE (.pointer (some a1))]->∀sp:Nat->Bool,
   DataW.TrodVars enc Tryz.prog X sp ["loop.example/g01081/impl.errTerminal", "loop.example/g01081/impl.errNoSpace"] [tok enc (.iface tE (.pointer (some a0))),tok enc (.iface tE (.pointer (some a1)))] [.cell gT 0,.cell gN 0]:=
  fun x0 x1 sp=>vars_read2 enc ND SZ Tryz.underlying135 x0 trivial NC SY Tryz.underlying135 x1 trivial sp
 obtain⟨rfl,rfl⟩:=hV.unique (vr qn tW _)
 obtain⟨A0,n0,c0,rfl⟩:=okWide_slice Tryz.underlying22 (yM 0 22 v0 rfl rfl)
 have k0:=h0
 have lt0:∀x∈p0,x.block<W.heap.size:=by obtain⟨m,hm⟩:=k0;exact DataW.trod_lt m _ _ _ hm
 obtain⟨f0,xs,w0,s0,b0⟩:∃f,∃d:List Int,mV f 0 W.heap.size/\qu C9 1 W f (.slice A0 n0 c0) d/\∀b∈d,0<=b/\b<=255:=by
  obtain⟨fuel,hf⟩:=h0
  obtain⟨A,n,c,f,xs,e,w,z,hb⟩:=RK hf
  simp[Value.cells]at e
  obtain⟨rfl,rfl,rfl⟩:=e
  exact⟨f,xs,w,z,hb⟩
 clear hA0 hV0 Tm
 have je:gI Tryz.prog W (fun b=>b<W.heap.size) (fun _=>none) [.sl (xs.map oc)] #[.slice A0 n0 c0]:=by
  have h:=rM (MC s0 (fun b hb=>(w0 b hb).2)) ((⟨rfl,fun j b hj=>by cases j<;>cases hj⟩:gI Tryz.prog W (fun b=>b<W.heap.size) (fun _=>none) [] #[]))
  simpa using h
 have YS:=Ry (x:=0) (y:=1) (t:=tE) (s:=sT) (u:=sN) mixed (by decide) (Io xs b0 ⟨BC 0 1 tE sT sN,1⟩ Nt (Nat.le_refl _)) hT hN je
 clear s0 w0 je
 refine(YS.mono fun e W' ⟨he,bel⟩=>?_)
 subst he
 exact⟨_,rfl,_,_,_,[],_,_,hW',trodAll_mk1 (shut_bool Tryz.underlying4 _),(trodAll_cons_mk (Below.trod VJ (by kernel_rfl) (of_decide_eq_true (by kernel_rfl)) k0 bel lt0) trodAll_mk0),vr (V.var?_below ND qn bel) (V.var?_below NC tW bel) _,bel.frame _,fun h=>by cases h⟩
end Go.Proofs.YtoodopepphhpoaaGreatDoor

