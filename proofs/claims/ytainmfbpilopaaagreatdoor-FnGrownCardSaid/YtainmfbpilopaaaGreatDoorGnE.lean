/- Networks by matrices: the memory. -/
import Derived.Test.YtainmfbpilopaaaGreatDoorGnD
import Derived.Test.YtainmfbpilopaaaGreatDoorGnC
import Derived.RangeFuncCalls
import Derived.OrdersIn
import Derived.Test.YtainmfbpilopaaaGreatDoorGnB
import Derived.Maps.OwnIn
import Derived.Maps.AppendAt
set_option linter.unusedVariables false
set_option linter.unusedSimpArgs false
set_option maxRecDepth 100000
set_option maxHeartbeats 16000000
namespace Go.Proofs.YtainmfbpilopaaaGreatDoor.V
open Go.RowKit
attribute [local irreducible] ea wpOps fB Call
def mO (R:Nat->Id) (n k:Nat):List (List AV):=(List.range k).map fun i=>[.own (R i) 0 n]
theorem lI (R:Nat->Id) (n k:Nat):(mO R n k).length=k:=by simp[mO]
theorem uS {R:Nat->Id} {n k i:Nat} (h:i<k):(mO R n k)[i]? =some [.own (R i) 0 n]:=by simp[mO,h]
theorem wK (R:Nat->Id) (n k:Nat):mO R n (k+1)=mO R n k++[[.own (R k) 0 n]]:=by simp[mO,List.range_succ]
def A5 (c:Nat->Nat->Int) (n:Nat):List (List AV):=(List.range n).map fun i=>[.sl (iL (c i) n)]
theorem Gg {c:Nat->Nat->Int} {n i:Nat} (h:i<n):(A5 c n)[i]? =some [.sl (iL (c i) n)]:=by simp[A5,h]
theorem Ai (c:Nat->Nat->Int) (n:Nat):(A5 c n).length=n:=by simp[A5]
structure JE (X o1 o2:Id) (R1 R2:Nat->Id) (n nb:Nat):Prop where
 sx:X.site=220001001
 s1:o1.site=220004008
 s2:o2.site=220005008
 Zp:∀i,i<n->(R1 i).site=220004006
 Sb:∀i,i<n->(R2 i).site=220005006
 i1:∀i j,i<n->j<n->R1 i=R1 j->i=j
 i2:∀i j,i<n->j<n->R2 i=R2 j->i=j
 vx:X.bq<nb
 v1:o1.bq<nb
 v2:o2.bq<nb
 vr1:∀i,i<n->(R1 i).bq<nb
 Ye:∀i,i<n->(R2 i).bq<nb
structure pX (g:Rows) (X o1 o2:Id) (R1 R2:Nat->Id) (n:Nat) (c f:Nat->Nat->Int):Prop where
 x:g X=some ⟨true,2,[[.own o1 0 n,.own o2 0 n]]⟩
 t1:g o1=some ⟨true,1,mO R1 n n⟩
 t2:g o2=some ⟨true,1,mO R2 n n⟩
 r1:∀i,i<n->g (R1 i)=some ⟨true,1,iL (c i) n⟩
 r2:∀i,i<n->g (R2 i)=some ⟨true,1,iL (f i) n⟩
theorem qc {f:Nat->Nat->Int} {a b:Nat} {d:Int} {n:Nat} (hb:b<n):(iL (f a) n).set b (aM (f a b+d))=iL (bump f a b d a) n:=Aj hb (by simp[bump]) fun i _ hi=>by simp[bump,hi]
theorem lE {f:Nat->Nat->Int} {a b i:Nat} {d:Int} (h:i≠a):bump f a b d i=f i:=by funext v;simp[bump,h]
theorem pX.add {g g':Rows} {X o1 o2:Id} {R1 R2:Nat->Id} {n nb:Nat} {c f:Nat->Nat->Int} (I:JE X o1 o2 R1 R2 n nb) (h:pX g X o1 o2 R1 R2 n c f) (b:PB) (ha:b.a<n) (hb:b.b<n) (hA:b.a≠b.b->g' (R1 b.a)=some ⟨true,1,iL (bump c b.a b.b b.s b.a) n⟩) (hB:g' (R1 b.b)=some ⟨true,1,iL (pC c b b.b) n⟩) (hf:∀i:Id,i.bq<nb->(i=R1 b.a)=False->(i=R1 b.b)=False->g' i=g i):pX g' X o1 o2 R1 R2 n (pC c b) f:=by
 have ne:∀{i:Id} {s:Nat},i.site=s->(s==220004006)=false->∀a,a<n->(i=R1 a)=False:=fun {i s} hi hs a ha=>by
  simp only[eq_iff_iff,iff_false]
  rintro rfl
  rw[I.Zp a ha]at hi
  subst hi
  simp at hs
 refine⟨(hf _ I.vx (ne I.sx (by decide) _ ha) (ne I.sx (by decide) _ hb)).trans h.x,(hf _ I.v1 (ne I.s1 (by decide) _ ha) (ne I.s1 (by decide) _ hb)).trans h.t1,(hf _ I.v2 (ne I.s2 (by decide) _ ha) (ne I.s2 (by decide) _ hb)).trans h.t2,fun i hi=>?_,fun i hi=>(hf _ (I.Ye i hi) (ne (I.Sb i hi) (by decide) _ ha) (ne (I.Sb i hi) (by decide) _ hb)).trans (h.r2 i hi)⟩
 by_cases O3:i=b.b
 ·subst O3;exact hB
 ·by_cases O1:i=b.a
  ·subst O1
   rw[hA O3,pC,lE O3]
  ·rw[pC,lE O3,lE O1,hf _ (I.vr1 i hi) (by simp only[eq_iff_iff,iff_false];exact fun he=>O1 (I.i1 i _ hi ha he)) (by simp only[eq_iff_iff,iff_false];exact fun he=>O3 (I.i1 i _ hi hb he))]
   exact h.r1 i hi
def mY (n:Nat) (c f:Nat->Nat->Int):List AV:=[.sl (A5 c n),.sl (A5 f n)]
theorem Js {g:Rows} {R:Nat->Id} {n k:Nat} {c:Nat->Nat->Int} (h:∀i,i<k->g (R i)=some ⟨true,1,iL (c i) n⟩) (m:Nat):fF (eD g) (m+3) (mO R n k)=some ((List.range k).map fun i=>[.sl (iL (c i) n)]):=by
 induction k with
 |zero=>rw[show mO R n 0=[]from rfl,fF];rfl
 |succ k ih=>
  have e1:V.fz (eD g) (m+3) (.own (R k) 0 n)=some (.sl (iL (c k) n)):=by
   rw[qV];simp only[eD,h k ae,Option.map_some,if_true]
   rw[if_pos (by rw[gp];omega),List.drop_zero,List.take_of_length_le (by rw[gp];omega),QZ];rfl
  have app:∀(xs ys:List (List AV)) (Zs Yr:List (List AV)),fF (eD g) (m+3) xs=some Zs->fF (eD g) (m+3) ys=some Yr->fF (eD g) (m+3) (xs++ys)=some (Zs++Yr):=by
   intro xs
   induction xs with
   |nil=>intro ys Zs Yr h1 h2;rw[fF]at h1;cases h1;exact h2
   |cons a xs ih2=>
    intro ys Zs Yr h1 h2
    rw[fF]at h1
    rw[List.cons_append,fF]
    cases ha:eI (eD g) (m+3) a with
    |none=>simp[ha]at h1
    |some a'=>
     cases hb:fF (eD g) (m+3) xs with
     |none=>simp[ha,hb]at h1
     |some b'=>
      simp[ha,hb]at h1
      subst h1
      rw[ih2 ys b' Yr hb h2];rfl
  rw[wK,List.range_succ,List.map_append]
  refine app _ _ _ _ (ih fun i hi=>h i ae) ?_
  rw[fF,aq,ar,e1,fF];rfl
theorem pX.fz {g:Rows} {X o1 o2:Id} {R1 R2:Nat->Id} {n:Nat} {c f:Nat->Nat->Int} (h:pX g X o1 o2 R1 R2 n c f):V.fz (eD g) 6 (.ptr X 0 0)=some (.ef (mY n c f)):=by
 refine s5 (sz:=2) (rows:=[[.own o1 0 n,.own o2 0 n]]) (by simp[eD,h.x]) rfl ?_
 have e1:V.fz (eD g) 5 (.own o1 0 n)=some (.sl (A5 c n)):=by
  rw[qV];simp only[eD,h.t1,Option.map_some,if_true]
  rw[if_pos (by rw[lI];omega),List.drop_zero,List.take_of_length_le (by rw[lI];omega)]
  rw[show fF _ 4 _=some (A5 c n)from Js h.r1 1];rfl
 have e2:V.fz (eD g) 5 (.own o2 0 n)=some (.sl (A5 f n)):=by
  rw[qV];simp only[eD,h.t2,Option.map_some,if_true]
  rw[if_pos (by rw[lI];omega),List.drop_zero,List.take_of_length_le (by rw[lI];omega)]
  rw[show fF _ 4 _=some (A5 f n)from Js h.r2 1];rfl
 simp only[List.drop_zero,aq,ar,e1,e2,mY,Option.map_some]
theorem SY (n:Nat) (c f:Nat->Nat->Int) (u v:Nat) (hu:u<n) (hv:v<n):aw Tryz.prog 284 [.ef (mY n c f),.int .i64 u,.int .i64 v] (.bool (decide (f u v<c u v))):=by
 refine aw.body fx rfl fun hl n0=>?_
 clear hl
 have h1:=Gg (c:=c) hu
 have h2:=Gg (c:=f) hu
 have h3:=gH (f:=c u) hv
 have h4:=gH (f:=f u) hv
 have hui:(u:Int)<(n:Int):=ae
 have TW:(v:Int)<(n:Int):=ae
 have l1:=Ai c n
 have l2:=Ai f n
 have l3:=gp (c u) n
 have l4:=gp (f u) n
 rw[aM]at h3 h4
 (try((repeat(revert N;apply Pn.out));refine wk (tw @mY.eq_1 (tw @h1 (tw @h2 (tw @h3 (tw @h4 (tw @hui (tw @TW (tw @l1 (tw @l2 (tw @l3 @l4)))))))))) ?_;(repeat(apply Pn.mk;intro N hN))))
 exact da (b:=decide (f u v<c u v)) (.inl rfl) (sd @Nat.zero_add) rfl
theorem Lj (n:Nat):List.replicate n [AV.int .i64 0]=iL (fun _=>0) n:=by
 refine List.ext_getElem? fun i=>?_
 by_cases h:i<n
 ·rw[gH h,List.getElem?_replicate,if_pos h];rfl
 ·rw[List.getElem?_eq_none (by simp;omega),List.getElem?_eq_none (by rw[gp];omega)]
theorem DE {i j:Id} {s t:Nat} (hi:i.site=s) (hj:j.site=t) (h:(s==t)=false):(i=j)=False/\(j=i)=False:=by
 constructor<;>(simp only[eq_iff_iff,iff_false];rintro rfl;rw[hi]at hj;subst hj;simp at h)
theorem FT (cnt:Nat) (sC:1<=cnt) (hn:cnt<=1048576) (bs:List PB) (hb:∀b∈bs,b.a<cnt/\b.b<cnt) (ed:∀b∈bs,0<=b.s/\b.s<=4) (iz:bs.length<=1048576) (σ:ax):
  Call Tryz.prog 220 [.int .i64 cnt,.sl (bs.map di)] σ fun r σ'=>∃X o1 o2 R1 R2,r=.ptr X 0 0/\JE X o1 o2 R1 R2 cnt σ'.next/\σ.next<=σ'.next/\pX σ'.get X o1 o2 R1 R2 cnt (mK bs) (fun _ _=>0)/\∀i:Id,i.bq<σ.next->σ'.get i=σ.get i:=by
 refine eZ fx rfl fun hl=>?_
 clear hl
 (try((repeat(revert N;apply Pn.out));refine wk @Nat.zero_add ?_;(repeat(apply Pn.mk;intro N hN))))
 obtain⟨X,hX⟩:∃X:Id,X=⟨220001001,σ.next+1⟩:=⟨_,rfl⟩
 obtain⟨R1,hR1⟩:∃R:Nat->Id,R=fun k=>⟨220004006,σ.next+3+4*k+1⟩:=⟨_,rfl⟩
 obtain⟨R2,hR2⟩:∃R:Nat->Id,R=fun k=>⟨220005006,σ.next+3+4*k+2⟩:=⟨_,rfl⟩
 have sX:X.site=220001001:=by rw[hX]
 have vX:X.bq=σ.next+1:=by rw[hX]
 have s1:∀k,(R1 k).site=220004006:=fun k=>by rw[hR1]
 have s2:∀k,(R2 k).site=220005006:=fun k=>by rw[hR2]
 have v1:∀k,(R1 k).bq=σ.next+3+4*k+1:=fun k=>by rw[hR1]
 have v2:∀k,(R2 k).bq=σ.next+3+4*k+2:=fun k=>by rw[hR2]
 have kZ:(0:Int)<=(cnt:Int):=ae
 have sq:(cnt:Int)<=((16777216:Nat):Int):=ae
 have hz:=Lj cnt
 have t1:mO R1 cnt 0=[]:=rfl
 have t2:mO R2 cnt 0=[]:=rfl
 refine cm (fun n env st=>∃k:Nat,n=(cnt)-k/\k<=(cnt)/\env 11=.int .i64 (k:Int)/\env 5=(.ptr X 0 0)/\(st.next=σ.next+3+4*k/\(∀i:Id,i.bq<σ.next->st.get i=σ.get i)/\∀j,j<k->st.get (R1 j)=some ⟨true,1,iL (fun _=>0) cnt⟩/\st.get (R2 j)=some ⟨true,1,iL (fun _=>0) cnt⟩)/\((k=0/\st.get X=some ⟨true,2,[[.bj,.bj]]⟩)∨∃o1 o2:Id,o1.site=220004008/\o2.site=220005008/\o1.bq<st.next/\o2.bq<st.next/\σ.next<=o1.bq/\σ.next<=o2.bq/\st.get X=some ⟨true,2,[[.own o1 0 k,.own o2 0 k]]⟩/\st.get o1=some ⟨true,1,mO R1 cnt k⟩/\st.get o2=some ⟨true,1,mO R2 cnt k⟩)) (cnt) ⟨0,ae,ae,sl @hX,sl @hX,⟨rfl,fun i hi=>by(have TW:=bZ hi);simp only[go_sem, ↓reduceIte,Nat.reduceEqDiff,Nat.reduceAdd,Nat.reduceSub,Nat.reduceLeDiff,reduceCtorEq,TW],fun j hj=>absurd hj (Nat.not_lt_zero j)⟩,.inl ⟨rfl,by rw[hX];simp only[go_sem, ↓reduceIte,Nat.reduceEqDiff,Nat.reduceAdd,Nat.reduceSub,Nat.reduceLeDiff,reduceCtorEq]⟩⟩ ?_
 rintro n_a env_a st_a ⟨k,rfl,ale,a11,a5,qN,aI1⟩ eF
 have a0:=eF 0 (by kernel_rfl);have a1:=eF 1 (by kernel_rfl);have AD:=eF 10 (by kernel_rfl)
 simp only[go_sem, ↓reduceIte,Nat.reduceEqDiff,Nat.reduceAdd,Nat.reduceSub,Nat.reduceLeDiff,reduceCtorEq,hX]at a0 a1 AD
 clear eF
 obtain⟨anx,eF,aR⟩:=qN
 have wX:=bZ (i:=X) (n:=st_a.next) ae
 by_cases hk:(k:Int)<(cnt:Int)
 ·have eh:∀{e:Env} {gg:Rows} {nx:Nat},(e 11=.int .i64 (IntKind.i64.wrap ((k:Int)+1)))->(e 5=(.ptr X 0 0))->(nx=σ.next+3+4*(k+1)/\(∀i:Id,i.bq<σ.next->gg i=σ.get i)/\∀j,j<(k+1)->gg (R1 j)=some ⟨true,1,iL (fun _=>0) cnt⟩/\gg (R2 j)=some ⟨true,1,iL (fun _=>0) cnt⟩)->(((k+1)=0/\gg X=some ⟨true,2,[[.bj,.bj]]⟩)∨∃o1 o2:Id,o1.site=220004008/\o2.site=220005008/\o1.bq<nx/\o2.bq<nx/\σ.next<=o1.bq/\σ.next<=o2.bq/\gg X=some ⟨true,2,[[.own o1 0 (k+1),.own o2 0 (k+1)]]⟩/\gg o1=some ⟨true,1,mO R1 cnt (k+1)⟩/\gg o2=some ⟨true,1,mO R2 cnt (k+1)⟩)->∃m0,m0<(cnt)-k/\∃k:Nat,m0=(cnt)-k/\k<=(cnt)/\e 11=.int .i64 (k:Int)/\e 5=(.ptr X 0 0)/\(nx=σ.next+3+4*k/\(∀i:Id,i.bq<σ.next->gg i=σ.get i)/\∀j,j<k->gg (R1 j)=some ⟨true,1,iL (fun _=>0) cnt⟩/\gg (R2 j)=some ⟨true,1,iL (fun _=>0) cnt⟩)/\((k=0/\gg X=some ⟨true,2,[[.bj,.bj]]⟩)∨∃o1 o2:Id,o1.site=220004008/\o2.site=220005008/\o1.bq<nx/\o2.bq<nx/\σ.next<=o1.bq/\σ.next<=o2.bq/\gg X=some ⟨true,2,[[.own o1 0 k,.own o2 0 k]]⟩/\gg o1=some ⟨true,1,mO R1 cnt k⟩/\gg o2=some ⟨true,1,mO R2 cnt k⟩):=fun x1 x2 x3 x4=>⟨_,ae,k+1,rfl,ae,(by rw[x1,bf ae]),x2,x3,x4⟩
  have jg:k<cnt:=ae
  have uo:R1 k=⟨220004006,st_a.next+1⟩:=by rw[hR1,anx]
  have sr:R2 k=⟨220005006,st_a.next+1+1⟩:=by rw[hR2,anx]
  have Ay:mO R1 cnt (k+1)=mO R1 cnt k++[[.own ⟨220004006,st_a.next+1⟩ 0 cnt]]:=by rw[wK,uo]
  have LL:mO R2 cnt (k+1)=mO R2 cnt k++[[.own ⟨220005006,st_a.next+1+1⟩ 0 cnt]]:=by rw[wK,sr]
  rcases aI1 with⟨rfl,Wl⟩|⟨o1,o2,so1,so2,vo1,vo2,vn1,vn2,Wl,ag1,ag2⟩
  ·(try((repeat(revert N;apply Pn.out));refine wk (tw @a11 (tw @a5 (tw @a0 (tw @a1 (tw @AD (tw @hk (tw @wX (tw @Wl (tw @kZ (tw @sq (tw @Int.le_refl @hz))))))))))) ?_;(repeat(apply Pn.mk;intro N hN))))
   refine eh ?_ ?_ (by
    (try dsimp only)
    refine⟨ae,fun i hi=>?_,fun j hj=>?_⟩
    ·have q1:=bZ (i:=i) (n:=st_a.next) ae
     have q2:=ei (a:=i) (b:=X) ae
     have:=eF i hi
     simp only[go_sem, ↓reduceIte,Nat.reduceEqDiff,Nat.reduceAdd,Nat.reduceSub,Nat.reduceLeDiff,reduceCtorEq,q1,q2,this]
    ·by_cases Av:j=0
     ·subst Av
      rw[uo,sr]
      have q1:=iG sX (b:=220004006) (v:=st_a.next+1) (by decide)
      have q2:=iG sX (b:=220005006) (v:=st_a.next+1+1) (by decide)
      simp only[go_sem, ↓reduceIte,Nat.reduceEqDiff,Nat.reduceAdd,Nat.reduceSub,Nat.reduceLeDiff,reduceCtorEq,q1,q2]
     ·obtain⟨r1,r2⟩:=aR j ae
      have q1:=bZ (i:=R1 j) (n:=st_a.next) (by rw[v1];omega)
      have q2:=bZ (i:=R2 j) (n:=st_a.next) (by rw[v2];omega)
      have q3:=DE (s1 j) sX (by decide)
      have q4:=DE (s2 j) sX (by decide)
      constructor
      ·simp only[go_sem, ↓reduceIte,Nat.reduceEqDiff,Nat.reduceAdd,Nat.reduceSub,Nat.reduceLeDiff,reduceCtorEq,q1,q3,r1]
      ·simp only[go_sem, ↓reduceIte,Nat.reduceEqDiff,Nat.reduceAdd,Nat.reduceSub,Nat.reduceLeDiff,reduceCtorEq,q2,q4,r2]) (.inr ⟨⟨220004008,st_a.next+1⟩,⟨220005008,st_a.next+1+1⟩,rfl,rfl,aH,aH,aH,aH,sd @wX,by rw[Ay,t1];simp only[go_sem, ↓reduceIte,Nat.reduceEqDiff,Nat.reduceAdd,Nat.reduceSub,Nat.reduceLeDiff,reduceCtorEq,wX,List.nil_append],by rw[LL,t2];simp only[go_sem, ↓reduceIte,Nat.reduceEqDiff,Nat.reduceAdd,Nat.reduceSub,Nat.reduceLeDiff,reduceCtorEq,wX,List.nil_append]⟩)
   all_goals simp only[go_sem, ↓reduceIte,Nat.reduceEqDiff,Nat.reduceAdd,Nat.reduceSub,Nat.reduceLeDiff,reduceCtorEq,a11,a5,a0,a1,AD,wX]
  ·have l1:=lI R1 cnt k
   have l2:=lI R2 cnt k
   have e1:k+1<=16777216:=ae
   have w1:=bZ vo1
   have w2:=bZ vo2
   have x1:=DE sX so1 (by decide)
   have x2:=DE sX so2 (by decide)
   have x3:=DE so1 so2 (by decide)
   (try((repeat(revert N;apply Pn.out));refine wk (tw @a11 (tw @a5 (tw @a0 (tw @a1 (tw @AD (tw @hk (tw @wX (tw @Wl (tw @ag1 (tw @ag2 (tw @l1 (tw @l2 (tw @e1 (tw @w1 (tw @w2 (tw @x1 (tw @x2 (tw @x3 (tw @kZ (tw @sq (tw @Int.le_refl @hz))))))))))))))))))))) ?_;(repeat(apply Pn.mk;intro N hN))))
   refine eh ?_ ?_ (by
    (try dsimp only)
    refine⟨ae,fun i hi=>?_,fun j hj=>?_⟩
    ·have q1:=bZ (i:=i) (n:=st_a.next) ae
     have q2:=ei (a:=i) (b:=X) ae
     have q3:=ei (a:=i) (b:=o1) ae
     have q4:=ei (a:=i) (b:=o2) ae
     have:=eF i hi
     simp only[go_sem, ↓reduceIte,Nat.reduceEqDiff,Nat.reduceAdd,Nat.reduceSub,Nat.reduceLeDiff,reduceCtorEq,q1,q2,this,q3,q4]
    ·by_cases Av:j=k
     ·subst Av
      rw[uo,sr]
      have q1:=iG sX (b:=220004006) (v:=st_a.next+1) (by decide)
      have q2:=iG sX (b:=220005006) (v:=st_a.next+1+1) (by decide)
      simp only[go_sem, ↓reduceIte,Nat.reduceEqDiff,Nat.reduceAdd,Nat.reduceSub,Nat.reduceLeDiff,reduceCtorEq,q1,q2,w1,w2]
     ·obtain⟨r1,r2⟩:=aR j ae
      have q1:=bZ (i:=R1 j) (n:=st_a.next) (by rw[v1];omega)
      have q2:=bZ (i:=R2 j) (n:=st_a.next) (by rw[v2];omega)
      have q3:=DE (s1 j) sX (by decide)
      have q4:=DE (s2 j) sX (by decide)
      have q5:=DE (s1 j) so1 (by decide)
      have q6:=DE (s1 j) so2 (by decide)
      have q7:=DE (s2 j) so1 (by decide)
      have q8:=DE (s2 j) so2 (by decide)
      constructor
      ·simp only[go_sem, ↓reduceIte,Nat.reduceEqDiff,Nat.reduceAdd,Nat.reduceSub,Nat.reduceLeDiff,reduceCtorEq,q1,q3,r1,q5,q6]
      ·simp only[go_sem, ↓reduceIte,Nat.reduceEqDiff,Nat.reduceAdd,Nat.reduceSub,Nat.reduceLeDiff,reduceCtorEq,q2,q4,r2,q7,q8]) (.inr ⟨⟨220004008,st_a.next+1⟩,⟨220005008,st_a.next+1+1⟩,rfl,rfl,aH,aH,aH,aH,sd @wX,by rw[Ay];simp only[go_sem, ↓reduceIte,Nat.reduceEqDiff,Nat.reduceAdd,Nat.reduceSub,Nat.reduceLeDiff,reduceCtorEq,wX,w1,w2],by rw[LL];simp only[go_sem, ↓reduceIte,Nat.reduceEqDiff,Nat.reduceAdd,Nat.reduceSub,Nat.reduceLeDiff,reduceCtorEq,wX,w1,w2]⟩)
   all_goals simp only[go_sem, ↓reduceIte,Nat.reduceEqDiff,Nat.reduceAdd,Nat.reduceSub,Nat.reduceLeDiff,reduceCtorEq,a11,a5,a0,a1,AD,wX,w1,w2,x1,x2,x3]
 have oy:cnt=k:=ae
 subst oy
 rcases aI1 with⟨h0,_⟩|⟨o1,o2,so1,so2,vo1,vo2,vn1,vn2,Wl,ag1,ag2⟩
 ·omega
 (try((repeat(revert N;apply Pn.out));refine wk (tw @a11 (tw @a5 (tw @a0 (tw @a1 (tw @AD @hk))))) ?_;(repeat(apply Pn.mk;intro N hN))))
 have I:JE X o1 o2 R1 R2 cnt st_a.next:=⟨sX,so1,so2,fun i _=>s1 i,fun i _=>s2 i,fun i j _ _ h=>by have:=v1 i;rw[h,v1]at this;omega,fun i j _ _ h=>by have:=v2 i;rw[h,v2]at this;omega,ae,vo1,vo2,fun i hi=>by rw[v1];omega,fun i hi=>by rw[v2];omega⟩
 refine cm (fun n env st=>∃i:Nat,n=(bs.length)-i/\i<=(bs.length)/\env 38=.int .i64 (i:Int)/\(st_a.next<=st.next/\(∀x:Id,x.bq<σ.next->st.get x=σ.get x)/\pX st.get X o1 o2 R1 R2 cnt (mK (bs.take i)) (fun _ _=>0))) (bs.length) ⟨0,ae,ae,sl (tw @a11 (tw @a5 (tw @a0 (tw @a1 @AD)))),⟨aH,eF,Wl,ag1,ag2,fun j hj=>(aR j hj).1,fun j hj=>(aR j hj).2⟩⟩ ?_
 rintro n_b env_b st_b ⟨i,rfl,ble,b38,bI0⟩ eS
 have b0:=eS 0 (by kernel_rfl);have b1:=eS 1 (by kernel_rfl);have b5:=eS 5 (by kernel_rfl);have VG:=eS 36 (by kernel_rfl);have VH:=eS 37 (by kernel_rfl)
 simp only[go_sem, ↓reduceIte,Nat.reduceEqDiff,Nat.reduceAdd,Nat.reduceSub,Nat.reduceLeDiff,reduceCtorEq,a11,a5,a0,a1,AD]at b0 b1 b5 VG VH
 clear eS
 obtain⟨bn,SG,bM⟩:=bI0
 by_cases hi:(i:Int)<(bs.length:Int)
 ·have fb:∀{e:Env} {gg:Rows} {nx:Nat},(e 38=.int .i64 (IntKind.i64.wrap ((i:Int)+1)))->(st_a.next<=nx/\(∀x:Id,x.bq<σ.next->gg x=σ.get x)/\pX gg X o1 o2 R1 R2 cnt (mK (bs.take (i+1))) (fun _ _=>0))->∃m0,m0<(bs.length)-i/\∃i:Nat,m0=(bs.length)-i/\i<=(bs.length)/\e 38=.int .i64 (i:Int)/\(st_a.next<=nx/\(∀x:Id,x.bq<σ.next->gg x=σ.get x)/\pX gg X o1 o2 R1 R2 cnt (mK (bs.take i)) (fun _ _=>0)):=fun x1 x2=>⟨_,ae,i+1,rfl,ae,(by rw[x1,bf ae]),x2⟩
  have gV:i<bs.length:=ae
  have jt:(bs.map di)[i]? =some (di bs[i]):=by simp[gV]
  have pN:=hb _ (List.getElem_mem gV)
  have hsi:=ed _ (List.getElem_mem gV)
  have Nf:mK (bs.take (i+1))=pC (mK (bs.take i)) bs[i]:=by rw[List.take_succ_eq_append_getElem gV,HZ]
  have l7:=Dv (bs.take i) (fun _ _=>0) (fun b hb=>(ed b (List.mem_of_mem_take hb)).1) (fun _ _=>Int.le_refl _)
  have hle:=room_le (bs.take i) (fun _ _=>0) 0 (fun b hb=>(ed b (List.mem_of_mem_take hb)).2) (fun _ _=>Int.le_refl _) (Int.le_refl _)
  rw[List.length_take]at hle
  have iT:(bs.take i).foldl pC (fun _ _=>0)=mK (bs.take i):=rfl
  rw[iT]at l7 hle
  generalize mK (bs.take i)=c at *
  generalize bs[i]=b at *
  obtain⟨ha,pH⟩:=pN
  have gA:=uS (R:=R1) (n:=cnt) ha
  have gB:=uS (R:=R1) (n:=cnt) pH
  have rA:=bM.r1 _ ha
  have rB:=bM.r1 _ pH
  have cA:=gH (f:=c b.a) pH
  have cB:=gH (f:=c b.b) ha
  have sA:=qc (f:=c) (a:=b.a) (d:=b.s) pH
  have gX:=bM.x
  have g1:=bM.t1
  have Hp:(b.a:Int)<(cnt:Int):=ae
  have pN:(b.b:Int)<(cnt:Int):=ae
  have qX:=bZ (i:=X) (n:=st_b.next) ae
  have q1:=bZ (i:=o1) (n:=st_b.next) ae
  have qA:=bZ (i:=R1 b.a) (n:=st_b.next) (by rw[v1];omega)
  have qB:=bZ (i:=R1 b.b) (n:=st_b.next) (by rw[v1];omega)
  have xA:=DE sX (s1 b.a) (by decide)
  have xB:=DE sX (s1 b.b) (by decide)
  have yA:=DE so1 (s1 b.a) (by decide)
  have yB:=DE so1 (s1 b.b) (by decide)
  have l1:=lI R1 cnt cnt
  have lA:=gp (c b.a) cnt
  have lB:=gp (c b.b) cnt
  have hAB:=hle b.a b.b
  have hBA:=hle b.b b.a
  have gAB:=l7 b.a b.b
  have gBA:=l7 b.b b.a
  have wA:IntKind.i64.wrap (c b.a b.b+b.s)=c b.a b.b+b.s:=db ae
  by_cases pM:b.a=b.b
  ·obtain⟨ba,bb,s⟩:=b
   dsimp only at *
   subst pM
   have TL:=qc (f:=bump c ba ba s) (a:=ba) (b:=ba) (d:=s) (n:=cnt) ha
   have hcB:=gH (f:=bump c ba ba s ba) ha
   have hv:bump c ba ba s ba ba=c ba ba+s:=by simp[bump]
   have lC:=gp (bump c ba ba s ba) cnt
   have wB:IntKind.i64.wrap (c ba ba+s+s)=c ba ba+s+s:=db ae
   rw[hv]at TL hcB
   have C2:pC c ⟨ba,ba,s⟩ ba=bump (bump c ba ba s) ba ba s ba:=rfl
   rw[aM]at cA sA TL hcB
   (try((repeat(revert N;apply Pn.out));refine wk (tw @b38 (tw @b0 (tw @b1 (tw @b5 (tw @VG (tw @VH (tw @hi (tw @jt (tw @di.eq_1 (tw @gA (tw @rA (tw @cA (tw @sA (tw @gX (tw @g1 (tw @Hp (tw @qX (tw @q1 (tw @qA (tw @xA (tw @yA (tw @l1 (tw @lA (tw @wA (tw @TL (tw @hcB (tw @lC @wB))))))))))))))))))))))))))) ?_;(repeat(apply Pn.mk;intro N hN))))
   exact fb (sd (tw @b38 (tw @b0 (tw @b1 (tw @b5 (tw @VG @VH)))))) (by
    (try dsimp only)
    refine⟨ae,fun x hx=>?_,?_⟩
    ·have p1:=bZ (i:=x) (n:=st_b.next) ae
     have p2:=ei (a:=x) (b:=R1 ba) (by rw[v1];omega)
     have:=SG x hx
     simp only[go_sem, ↓reduceIte,Nat.reduceEqDiff,Nat.reduceAdd,Nat.reduceSub,Nat.reduceLeDiff,reduceCtorEq,p1,p2,this]
    ·rw[Nf]
     refine bM.add I ⟨ba,ba,s⟩ ha ha (fun h=>absurd rfl h) ?_ fun x hx h1 h2=>?_
     ·rw[C2]
      simp only[go_sem, ↓reduceIte,Nat.reduceEqDiff,Nat.reduceAdd,Nat.reduceSub,Nat.reduceLeDiff,reduceCtorEq]
     ·have p1:=bZ (i:=x) (n:=st_b.next) ae
      (try dsimp only at h2)
      simp only[go_sem, ↓reduceIte,Nat.reduceEqDiff,Nat.reduceAdd,Nat.reduceSub,Nat.reduceLeDiff,reduceCtorEq,p1,h2])
  ·have iI:(R1 b.a=R1 b.b)=False:=by simp only[eq_iff_iff,iff_false];exact fun h=>pM (I.i1 _ _ ha pH h)
   have M3:(R1 b.b=R1 b.a)=False:=by simp only[eq_iff_iff,iff_false];exact fun h=>pM (I.i1 _ _ ha pH h.symm)
   have TH:bump c b.a b.b b.s b.b=c b.b:=lE fun h=>pM h.symm
   have TL:=qc (f:=bump c b.a b.b b.s) (a:=b.b) (b:=b.a) (d:=b.s) (n:=cnt) ha
   rw[TH]at TL
   have wB:IntKind.i64.wrap (c b.b b.a+b.s)=c b.b b.a+b.s:=db ae
   have C2:pC c b b.b=bump (bump c b.a b.b b.s) b.b b.a b.s b.b:=rfl
   rw[aM]at cA cB sA TL
   (try((repeat(revert N;apply Pn.out));refine wk (tw @b38 (tw @b0 (tw @b1 (tw @b5 (tw @VG (tw @VH (tw @hi (tw @jt (tw @di.eq_1 (tw @gA (tw @gB (tw @rA (tw @rB (tw @cA (tw @cB (tw @sA (tw @gX (tw @g1 (tw @Hp (tw @pN (tw @qX (tw @q1 (tw @qA (tw @qB (tw @xA (tw @xB (tw @yA (tw @yB (tw @l1 (tw @lA (tw @lB (tw @wA (tw @TL (tw @wB (tw @iI @M3))))))))))))))))))))))))))))))))))) ?_;(repeat(apply Pn.mk;intro N hN))))
   exact fb (sd (tw @b38 (tw @b0 (tw @b1 (tw @b5 (tw @VG @VH)))))) (by
    (try dsimp only)
    refine⟨ae,fun x hx=>?_,?_⟩
    ·have p1:=bZ (i:=x) (n:=st_b.next) ae
     have p2:=ei (a:=x) (b:=R1 b.b) (by rw[v1];omega)
     have p3:=ei (a:=x) (b:=R1 b.a) (by rw[v1];omega)
     have:=SG x hx
     simp only[go_sem, ↓reduceIte,Nat.reduceEqDiff,Nat.reduceAdd,Nat.reduceSub,Nat.reduceLeDiff,reduceCtorEq,p1,p2,p3,this]
    ·rw[Nf]
     refine bM.add I b ha pH (fun h=>?_) ?_ fun x hx h1 h2=>?_
     ·simp only[go_sem, ↓reduceIte,Nat.reduceEqDiff,Nat.reduceAdd,Nat.reduceSub,Nat.reduceLeDiff,reduceCtorEq,iI]
     ·rw[C2]
      simp only[go_sem, ↓reduceIte,Nat.reduceEqDiff,Nat.reduceAdd,Nat.reduceSub,Nat.reduceLeDiff,reduceCtorEq,iI]
     ·have p1:=bZ (i:=x) (n:=st_b.next) ae
      simp only[go_sem, ↓reduceIte,Nat.reduceEqDiff,Nat.reduceAdd,Nat.reduceSub,Nat.reduceLeDiff,reduceCtorEq,p1,h1,h2])
 ·have nR:i=bs.length:=ae
  subst nR
  rw[List.take_length]at bM
  (try((repeat(revert N;apply Pn.out));refine wk (tw @b38 (tw @b0 (tw @b1 (tw @b5 (tw @VG (tw @VH @hi)))))) ?_;(repeat(apply Pn.mk;intro N hN))))
  exact eo (.inl rfl) (vs:=[.ptr X 0 0]) (sd @Nat.zero_add) ⟨X,o1,o2,R1,R2,rfl,⟨I.sx,I.s1,I.s2,I.Zp,I.Sb,I.i1,I.i2,by have:=I.vx;(try dsimp only);omega,by have:=I.v1;(try dsimp only);omega,by have:=I.v2;(try dsimp only);omega,fun j hj=>by have:=I.vr1 j hj;(try dsimp only);omega,fun j hj=>by have:=I.Ye j hj;(try dsimp only);omega⟩,aH,bM,SG⟩
structure Bq (n:Nat) (c f:Nat->Nat->Int) (x:Nat) (par:Nat->Int) (Q:List Nat) (i:Nat):Prop where
 nodup:Q.Nodup
 lt:∀v∈Q,v<n
 root:par x=(x:Int)
 mem:x∈Q
 iff:∀v,v<n->(0<=par v↔v∈Q)
 up:∀v∈Q,v≠x->∃u,u∈Q/\par v=(u:Int)/\Q.idxOf u<Q.idxOf v/\f u v<c u v
 done:∀j (_:j<i) (hl:j<Q.length) (v:Nat),v<n->f Q[j] v<c Q[j] v->v∈Q
 ile:i<=Q.length
section
variable {n:Nat} {c f:Nat->Nat->Int} {x:Nat} {par:Nat->Int} {Q:List Nat} {i:Nat}
theorem Bq.len (h:Bq n c f x par Q i):Q.length<=n:=uD n Q h.nodup h.lt
theorem Bq.start (hx:x<n):Bq n c f x (fun v=>if v=x then(x:Int)else -1) [x] 0:=by
 refine⟨by simp,fun v hv=>by simp at hv;omega,by simp,by simp,fun v hv=>?_,fun v hv iI=>absurd (by simpa using hv) iI,fun j hj=>ae,by simp⟩
 by_cases h:v=x
 ·simp[h]
 ·simp[h]
theorem Bq.visit (h:Bq n c f x par Q i) (hi:i<Q.length) {v:Nat} (hv:v<n) (hp:par v<0) (hr:f Q[i] v<c Q[i] v):Bq n c f x (fun w=>if w=v then(Q[i]:Int)else par w) (Q++[v]) i:=by
 have hvQ:v∉Q:=fun hm=>by have:=(h.iff v hv).2 hm;omega
 have Ng:x≠v:=fun e=>hvQ (e▸h.mem)
 have C3:∀u∈Q,(Q++[v]).idxOf u=Q.idxOf u:=fun u hu=>by rw[List.idxOf_append,if_pos hu]
 have y6:(Q++[v]).idxOf v=Q.length:=by rw[List.idxOf_append,if_neg hvQ];simp
 refine⟨?_,fun w hw=>?_,by simp only[if_neg Ng];exact h.root,by simp[h.mem],fun w hw=>?_,fun w hw iI=>?_,fun j hj hl w hw Gz=>?_,by simp;omega⟩
 ·refine List.nodup_append.2 ⟨h.nodup,by simp,fun a ha b hb=>?_⟩
  rw[List.mem_singleton.1 hb]
  rintro rfl;exact hvQ ha
 ·rcases List.mem_append.1 hw with hw|hw
  ·exact h.lt w hw
  ·rw[List.mem_singleton.1 hw];exact hv
 ·by_cases I8:w=v
  ·subst I8;simp
  ·rw[if_neg I8,h.iff w hw];simp[I8]
 ·by_cases I8:w=v
  ·subst I8
   refine⟨Q[i],by simp,by simp,?_,hr⟩
   rw[C3 _ (List.getElem_mem hi),y6]
   exact List.idxOf_lt_length_of_mem (List.getElem_mem hi)
  ·have hwQ:w∈Q:=by
    rcases List.mem_append.1 hw with hw|hw
    ·exact hw
    ·exact absurd (List.mem_singleton.1 hw) I8
   obtain⟨u,h1,h2,h3,h4⟩:=h.up w hwQ iI
   exact⟨u,by simp[h1],by rw[if_neg I8];exact h2,by rw[C3 u h1,C3 w hwQ];exact h3,h4⟩
 ·have iX:j<Q.length:=by have:=h.ile;omega
  rw[List.getElem_append_left iX]at Gz
  exact List.mem_append_left _ (h.done j hj iX w hw Gz)
theorem Bq.next (h:Bq n c f x par Q i) (hi:i<Q.length) (eJ:∀v,v<n->f Q[i] v<c Q[i] v->0<=par v):Bq n c f x par Q (i+1):=by
 refine⟨h.nodup,h.lt,h.root,h.mem,h.iff,h.up,fun j hj hl v hv hr=>?_,ae⟩
 by_cases ny:j=i
 ·subst ny;exact(h.iff v hv).1 (eJ v hv hr)
 ·exact h.done j ae hl v hv hr
theorem Bq.cut (h:Bq n c f x par Q Q.length) {y:Nat} (hy:y<n) (hp:par y<0):∃S:Nat->Bool,S x=true/\S y=false/\∀u v,u<n->v<n->S u=true->S v=false->¬f u v<c u v:=by
 refine⟨fun v=>decide (v∈Q),by simp[h.mem],?_,fun u v hu hv h1 h2 hr=>?_⟩
 ·have:y∉Q:=fun hm=>by have:=(h.iff y hy).2 hm;omega
  simp[this]
 ·simp only[decide_eq_true_eq,decide_eq_false_iff_not]at h1 h2
  obtain⟨j,hj,rfl⟩:=List.getElem_of_mem h1
  exact h2 (h.done j hj hj v hv hr)
def x9 (c f:Nat->Nat->Int) (Q:List Nat) (y k:Nat) (out:List Nat):Prop:=∃rest,out.reverse=k::rest/\(k::rest).getLast (by simp)=y/\tN f c (k::rest)/\(k::rest).Pairwise (fun a b=>Q.idxOf a<Q.idxOf b)/\∀v∈k::rest,v∈Q
theorem x9.start {y:Nat} (hy:y∈Q):x9 c f Q y y [y]:=⟨[],rfl,rfl,trivial,by simp,by simpa using hy⟩
theorem x9.step {y k u:Nat} {out:List Nat} (h:x9 c f Q y k out) (hu:u∈Q) (hi:Q.idxOf u<Q.idxOf k) (hr:f u k<c u k):x9 c f Q y u (out++[u]):=by
 obtain⟨rest,h1,h2,h3,h4,h5⟩:=h
 refine⟨k::rest,by rw[List.reverse_append,h1];rfl,by rw[List.getLast_cons (by simp)];exact h2,⟨hr,h3⟩,?_,?_⟩
 ·refine List.pairwise_cons.2 ⟨fun b hb=>?_,h4⟩
  rcases List.mem_cons.1 hb with rfl|hb
  ·exact hi
  ·have:=(List.pairwise_cons.1 h4).1 b hb;omega
 ·intro v hv
  rcases List.mem_cons.1 hv with rfl|hv
  ·exact hu
  ·exact h5 v hv
theorem x9.len {y k:Nat} {out:List Nat} (h:x9 c f Q y k out) (hq:∀v∈Q,v<n):out.length<=n:=by
 obtain⟨rest,h1,_,_,h4,h5⟩:=h
 rw[<-List.length_reverse,h1]
 refine uD n _ (h4.imp fun eG he=>?_) fun v hv=>hq v (h5 v hv)
 subst he;omega
structure Wk (n:Nat) (c f:Nat->Nat->Int) (x y:Nat) (p:List Nat):Prop where
 way:∃r,p=x::r/\(x::r).getLast (by simp)=y
 nodup:p.Nodup
 room:tN f c p
 lt:∀v∈p,v<n
theorem x9.way {y:Nat} {out:List Nat} (h:x9 c f Q y x out) (hq:∀v∈Q,v<n):Wk n c f x y out.reverse:=by
 obtain⟨rest,h1,h2,h3,h4,h5⟩:=h
 rw[h1]
 exact⟨⟨rest,rfl,h2⟩,h4.imp fun eG he=>by subst he;omega,h3,fun v hv=>hq v (h5 v hv)⟩
end
def nD (l:List Nat) (i x:Nat):Nat:=if x<i∨l.length-i<=x then l.getD (l.length-1-x) 0 else l.getD x 0
theorem Cd (l:List Nat):l.map eN=gZ (fun x=>l.getD x 0) l.length:=by
 refine List.ext_getElem? fun i=>?_
 by_cases h:i<l.length
 ·rw[jQ h,List.getElem?_map,List.getElem?_eq_getElem h];simp[List.getD_eq_getElem?_getD,h]
 ·rw[List.getElem?_eq_none (by simp;omega),List.getElem?_eq_none (by rw[kz];omega)]
theorem K4 (l:List Nat):gZ (nD l 0) l.length=l.map eN:=by
 rw[Cd]
 exact mg fun x hx=>by unfold nD;rw[if_neg ae]
theorem N4 (l:List Nat) {i:Nat} (h:l.length<=2*i+1) (hi:i<=l.length):gZ (nD l i) l.length=l.reverse.map eN:=by
 rw[Cd l.reverse,List.length_reverse]
 refine mg fun x hx=>?_
 have hr:l.reverse.getD x 0=l.getD (l.length-1-x) 0:=by
  rw[List.getD_eq_getElem?_getD,List.getElem?_reverse hx,List.getD_eq_getElem?_getD]
 rw[hr]
 unfold nD
 by_cases hc:x<i∨l.length-i<=x
 ·rw[if_pos hc]
 ·rw[if_neg hc]
  have:x=l.length-1-x:=ae
  rw[<-this]
theorem K5 (l:List Nat) (hp:0<l.length) (hl:l.length<=1048576) (o:Id) (σ:ax) (ho:σ.get o=some ⟨true,1,l.map eN⟩) (Kp:o.bq<σ.next):
  Call Tryz.prog 285 [.own o 0 l.length] σ fun r σ'=>σ'.get o=some ⟨true,1,l.reverse.map eN⟩/\σ.next<=σ'.next/\∀i:Id,i.bq<σ.next->(i=o)=False->σ'.get i=σ.get i:=by
 refine eZ fx rfl fun fD=>?_
 clear fD
 rw[<-K4]at ho
 have Zf:IntKind.i64.wrap ((l.length:Int)-1)=((l.length-1:Nat):Int):=by rw[db ae];omega
 (try((repeat(revert N;apply Pn.out));refine wk @Zf ?_;(repeat(apply Pn.mk;intro N hN))))
 refine cm (fun m env st=>∃i:Nat,m=l.length-i/\2*i<=l.length+1/\i<=l.length/\env 2=.int .i64 (i:Int)/\env 3=.int .i64 ((l.length:Int)-1-i)/\st.get o=some ⟨true,1,gZ (nD l i) l.length⟩/\σ.next<=st.next/\∀x:Id,x.bq<σ.next->(x=o)=False->st.get x=σ.get x) l.length ⟨0,rfl,ae,ae,by(simp only[go_sem, ↓reduceIte,Nat.reduceEqDiff,Nat.reduceAdd,Nat.reduceSub,Nat.reduceLeDiff,reduceCtorEq])<;>rfl,by(simp only[go_sem, ↓reduceIte,Nat.reduceEqDiff,Nat.reduceAdd,Nat.reduceSub,Nat.reduceLeDiff,reduceCtorEq,Zf]);congr 1;omega,ho,aH,fun x _ _=>rfl⟩ ?_
 rintro m env_b st_b ⟨i,rfl,xD,nR,b2,b3,bg,bn,eS⟩ bkp
 have b0:=bkp 0 (by kernel_rfl)
 simp only[go_sem, ↓reduceIte,Nat.reduceEqDiff,Nat.reduceAdd,Nat.reduceSub,Nat.reduceLeDiff,reduceCtorEq]at b0
 clear bkp
 have tl:=kz (nD l i) l.length
 have ni:=bZ (i:=o) (n:=st_b.next) ae
 by_cases hi:(i:Int)<(l.length:Int)-1-i
 ·have gV:i<l.length:=ae
  obtain⟨j,hj⟩:∃j,j=l.length-1-i:=⟨_,rfl⟩
  have pQ:j<l.length:=ae
  have Xk:(l.length:Int)-1-i=(j:Int):=ae
  rw[Xk]at b3 hi
  have g1:=jQ (f:=nD l i) gV
  have g2:=jQ (f:=nD l i) pQ
  have e1:nD l i i=l.getD i 0:=by unfold nD;rw[if_neg ae]
  have e2:nD l i j=l.getD j 0:=by unfold nD;rw[if_neg ae]
  have RS:(gZ (nD l i) l.length).set i (eN (l.getD j 0))=gZ (fun x=>if x=i then l.getD j 0 else nD l i x) l.length:=xZ gV (if_pos rfl) fun x _ hx=>if_neg hx
  have Nc:(gZ (fun x=>if x=i then l.getD j 0 else nD l i x) l.length).set j (eN (l.getD i 0))=gZ (nD l (i+1)) l.length:=xZ pQ (by unfold nD;rw[if_pos ae];congr 1;omega) fun x hx V4=>by
   by_cases RW:x=i
   ·rw[if_pos RW];unfold nD;rw[if_pos ae];congr 1;omega
   ·rw[if_neg RW];unfold nD
    by_cases hc:x<i∨l.length-i<=x
    ·rw[if_pos hc,if_pos ae]
    ·rw[if_neg hc,if_neg ae]
  have tl2:=kz (fun x=>if x=i then l.getD j 0 else nD l i x) l.length
  have g3:=jQ (f:=fun x=>if x=i then l.getD j 0 else nD l i x) pQ
  rw[e1]at g1
  rw[e2]at g2
  rw[if_neg ae,e2]at g3
  rw[eN]at g1 g2 g3 RS Nc
  have hii:(i:Int)<(l.length:Int):=ae
  have ny:(j:Int)<(l.length:Int):=ae
  have zb:IntKind.i64.wrap ((i:Int)+1)=((i+1:Nat):Int):=bf ae
  have oP:IntKind.i64.wrap ((j:Int)-1)=(l.length:Int)-1-((i+1:Nat):Int):=by rw[db ae];omega
  (try((repeat(revert N;apply Pn.out));refine wk (tw @b0 (tw @b2 (tw @b3 (tw @bg (tw @hi (tw @hii (tw @ny (tw @g1 (tw @g2 (tw @g3 (tw @RS (tw @Nc (tw @tl (tw @tl2 (tw @ni (tw @zb @oP)))))))))))))))) ?_;(repeat(apply Pn.mk;intro N hN))))
  refine⟨_,?_,i+1,rfl,ae,ae,sd @zb,sd @oP,sd @Nc,aH,fun x hx DX=>?_⟩
  ·omega
  ·have:=eS x hx DX
   simp only[go_sem, ↓reduceIte,Nat.reduceEqDiff,Nat.reduceAdd,Nat.reduceSub,Nat.reduceLeDiff,reduceCtorEq,DX,this]
 ·rw[N4 l ae nR]at bg
  (try((repeat(revert N;apply Pn.out));refine wk (tw @b0 (tw @b2 (tw @b3 (tw @bg @hi)))) ?_;(repeat(apply Pn.mk;intro N hN))))
  exact eo (.inr rfl) (vs:=[]) (by simp only[gU,go_sem, ↓reduceIte,Nat.reduceEqDiff,Nat.reduceAdd,Nat.reduceSub,Nat.reduceLeDiff,reduceCtorEq]) ⟨bg,aH,eS⟩
theorem Yh (cnt:Nat) (sC:1<=cnt) (hn:cnt<=1048576) (c f:Nat->Nat->Int) (x y:Nat) (hx:x<cnt) (hy:y<cnt):
  kb Tryz.prog 259 [.ef (mY cnt c f),.int .i64 x,.int .i64 y] fun r=>(r=.bj/\∃S:Nat->Bool,S x=true/\S y=false/\∀u v,u<cnt->v<cnt->S u=true->S v=false->¬f u v<c u v)∨∃p:List Nat,r=.sl (p.map eN)/\Wk cnt c f x y p:=by
 refine kb.body fx rfl fun hl n0=>?_
 clear hl
 have lM:=Ai c cnt
 have kZ:(0:Int)<=(cnt:Int):=ae
 have RW:(x:Int)<(cnt:Int):=ae
 have hyi:(y:Int)<(cnt:Int):=ae
 (try((repeat(revert N;apply Pn.out));refine wk (tw @mY.eq_1 @lM) ?_;(repeat(apply Pn.mk;intro N hN))))
 refine .inr (ay _ _ _ _ _ (fun r σ1 hq=>?_) (N2 cnt sC hn (-1) ⟨259002000,n0+1+1⟩ _ (sd @Nat.zero_add) aH))
 obtain⟨o,rfl,ho,P5,P6,iO⟩:=hq
 (try dsimp only at ho P5 P6 iO)
 apply hN
 clear hN N
 have ni:=bZ P6
 have sq:(cnt:Int)<=1048576:=ae
 have WY:ua<ua+cnt:=ae
 have jd:List.replicate cnt [AV.int .i64 (-1)]=iL (fun _=>-1) cnt:=by
  refine List.ext_getElem? fun i=>?_
  by_cases h:i<cnt
  ·rw[gH h,List.getElem?_replicate,if_pos h];rfl
  ·rw[List.getElem?_eq_none (by simp;omega),List.getElem?_eq_none (by rw[gp];omega)]
 rw[jd]at ho
 have RQ:(iL (fun _=>-1) cnt).set x (aM (x:Int))=iL (fun v=>if v=x then(x:Int)else -1) cnt:=Aj hx (if_pos rfl) fun v _ hv=>if_neg hv
 have Xa:=gH (f:=fun _=>-1) hx
 have tl0:=gp (fun _=>-1) cnt
 rw[aM]at RQ Xa
 (try((repeat(revert N;apply Pn.out));refine wk (tw @mY.eq_1 (tw @lM (tw @kZ (tw @sq @ni)))) ?_;(repeat(apply Pn.mk;intro N hN))))
 refine Oz ?_
 simp only[go_sem, ↓reduceIte,Nat.reduceEqDiff,Nat.reduceAdd,Nat.reduceSub,Nat.reduceLeDiff,reduceCtorEq,WY]
 apply hN
 clear hN N
 (try((repeat(revert N;apply Pn.out));refine wk (tw @ho (tw @ni (tw @RQ (tw @Xa (tw @tl0 @RW))))) ?_;(repeat(apply Pn.mk;intro N hN))))
 obtain⟨C,hC⟩:∃C:Id,C=⟨259003001,σ1.next+1⟩:=⟨_,rfl⟩
 have Xs:=ei (a:=o) (b:=C) (by rw[hC];(try dsimp only);omega)
 have hCv:C.bq=σ1.next+1:=by rw[hC]
 refine cm (fun m env st=>∃(par:Nat->Int) (Q:List Nat) (i:Nat),m=cnt-i/\Bq cnt c f x par Q i/\st.get o=some ⟨true,1,iL par cnt⟩/\st.get C=some ⟨true,ua+cnt,(Q.drop i).map eN⟩/\σ1.next+1<st.next) cnt ⟨_,[x],0,rfl,Bq.start hx,sd @ni,by rw[hC];simp only[go_sem, ↓reduceIte,Nat.reduceEqDiff,Nat.reduceAdd,Nat.reduceSub,Nat.reduceLeDiff,reduceCtorEq,ni];rfl,aH⟩ ?_
 rintro m env_b st_b ⟨par,Q,i,rfl,hB,bgo,bgC,bn⟩ bkp
 have b0:=bkp 0 (by kernel_rfl)
 have b1:=bkp 1 (by kernel_rfl)
 have b2:=bkp 2 (by kernel_rfl)
 have b7:=bkp 7 (by kernel_rfl)
 have b8:=bkp 8 (by kernel_rfl)
 have b9:=bkp 9 (by kernel_rfl)
 rw[<-hC]at b9
 simp only[go_sem, ↓reduceIte,Nat.reduceEqDiff,Nat.reduceAdd,Nat.reduceSub,Nat.reduceLeDiff,reduceCtorEq]at b0 b1 b2 b7 b8 b9
 clear bkp
 have hQn:=hB.len
 have nR:=hB.ile
 have MS:((Q.drop i).map eN).length=Q.length-i:=by simp
 by_cases hi:i<Q.length
 ·have kH:(0:Int)<((Q.length-i:Nat):Int):=ae
  have vh:Q.drop i=Q[i]::Q.drop (i+1):=List.drop_eq_getElem_cons hi
  obtain⟨u,hu⟩:∃u,u=Q[i]:=⟨_,rfl⟩
  have hun:u<cnt:=by rw[hu];exact hB.lt _ (List.getElem_mem hi)
  rw[<-hu]at vh
  (try((repeat(revert N;apply Pn.out));refine wk (tw @b0 (tw @b1 (tw @b2 (tw @b7 (tw @b8 (tw @b9 (tw @bgC (tw @MS @kH)))))))) ?_;(repeat(apply Pn.mk;intro N hN))))
  refine Oz ?_
  rw[vh,List.map_cons,show eN u=[.int .i64 (u:Int)]from rfl]at bgC
  simp only[go_sem, ↓reduceIte,Nat.reduceEqDiff,Nat.reduceAdd,Nat.reduceSub,Nat.reduceLeDiff,reduceCtorEq,b9,bgC]
  apply hN
  clear hN N
  (try((repeat(revert N;apply Pn.out));refine wk @b7 ?_;(repeat(apply Pn.mk;intro N hN))))
  refine cm (fun m env st=>∃(v:Nat) (par':Nat->Int) (Q':List Nat),m=cnt-v/\v<=cnt/\env 36=.int .i64 (v:Int)/\Bq cnt c f x par' Q' i/\(∃h:i<Q'.length,Q'[i]=u)/\st.get o=some ⟨true,1,iL par' cnt⟩/\st.get C=some ⟨true,ua+cnt,(Q'.drop (i+1)).map eN⟩/\σ1.next+1<st.next/\∀w,w<v->f u w<c u w->0<=par' w) cnt ⟨0,par,Q,rfl,Nat.zero_le _,by(simp only[go_sem, ↓reduceIte,Nat.reduceEqDiff,Nat.reduceAdd,Nat.reduceSub,Nat.reduceLeDiff,reduceCtorEq])<;>rfl,hB,⟨hi,hu.symm⟩,sd (tw @Xs @bgo),sd @Xs,aH,fun w hw=>absurd hw (Nat.not_lt_zero w)⟩ ?_
  rintro m env_c st_c ⟨v,par',Q',rfl,hvn,c36,eA,⟨tL,I7⟩,cgo,cgC,cn,eJ⟩ ckp
  have c0:=ckp 0 (by kernel_rfl)
  have c1:=ckp 1 (by kernel_rfl)
  have c2:=ckp 2 (by kernel_rfl)
  have c7:=ckp 7 (by kernel_rfl)
  have c8:=ckp 8 (by kernel_rfl)
  have c9:=ckp 9 (by kernel_rfl)
  have kN:=ckp 10 (by kernel_rfl)
  have SI:=ckp 35 (by kernel_rfl)
  simp only[go_sem, ↓reduceIte,Nat.reduceEqDiff,Nat.reduceAdd,Nat.reduceSub,Nat.reduceLeDiff,reduceCtorEq,b0,b1,b2,b7,b8,b9]at c0 c1 c2 c7 c8 c9 kN SI
  clear ckp
  have tl:=gp par' cnt
  by_cases hv:(v:Int)<(cnt:Int)
  ·have Hy:v<cnt:=ae
   have Tw:=gH (f:=par') Hy
   have iO:=SY cnt c f u v hun Hy
   have hw:IntKind.i64.wrap ((v:Int)+1)=((v+1:Nat):Int):=bf ae
   rw[aM]at Tw
   rw[mY]at iO
   by_cases rU:par' v<0
   ·by_cases hr:f u v<c u v
    ·rw[decide_eq_true hr]at iO
     have gF:(iL par' cnt).set v (aM (u:Int))=iL (fun w=>if w=v then(u:Int)else par' w) cnt:=Aj Hy (if_pos rfl) fun w _ hw=>if_neg hw
     rw[aM]at gF
     have lx:=eA.visit tL Hy rU (by rw[I7];exact hr)
     rw[I7]at lx
     have hQ2:=lx.len
     rw[List.length_append]at hQ2
     simp only[List.length_singleton]at hQ2
     have iT:ua+(Q'.drop (i+1)).length<ua+cnt:=by rw[List.length_drop];omega
     (have zF:=tw @mY.eq_1 (tw @c0 (tw @c7 (tw @c8 (tw @c9 (tw @kN (tw @c36 (tw @SI (tw @hv (tw @cgo (tw @Tw (tw @tl (tw @rU @gF))))))))))));(repeat(first|((repeat(revert N;apply Pn.out));refine wk zF ?_;(repeat(apply Pn.mk;intro N hN)))|((try apply Or.inl);refine⟨_,aw.x (iO) (sd zF),?_⟩;apply hN;clear hN N)));try clear zF)
     refine Oz ?_
     have hq:(Q'.drop (i+1)).map eN++[[.int .i64 (v:Int)]]=((Q'++[v]).drop (i+1)).map eN:=by rw[List.drop_append_of_le_length ae,List.map_append];rfl
     simp only[go_sem, ↓reduceIte,Nat.reduceEqDiff,Nat.reduceAdd,Nat.reduceSub,Nat.reduceLeDiff,reduceCtorEq,c9,cgC,iT,Xs,hq]
     apply hN
     clear hN N
     (try((repeat(revert N;apply Pn.out));refine wk (tw @c36 @hw) ?_;(repeat(apply Pn.mk;intro N hN))))
     refine⟨_,?_,v+1,_,_,rfl,Hy,sd @hw,lx,⟨by rw[List.length_append];omega,by rw[List.getElem_append_left tL];exact I7⟩,sd @Xs,sd @Xs,aH,fun w hw Gz=>?_⟩
     ·omega
     ·by_cases I8:w=v
      ·rw[if_pos I8];omega
      ·rw[if_neg I8];exact eJ w ae Gz
    ·rw[decide_eq_false hr]at iO
     (have zF:=tw @mY.eq_1 (tw @c0 (tw @c7 (tw @c8 (tw @c9 (tw @kN (tw @c36 (tw @SI (tw @hv (tw @cgo (tw @Tw (tw @tl (tw @rU @hw))))))))))));(repeat(first|((repeat(revert N;apply Pn.out));refine wk zF ?_;(repeat(apply Pn.mk;intro N hN)))|((try apply Or.inl);refine⟨_,aw.x (iO) (sd zF),?_⟩;apply hN;clear hN N)));try clear zF)
     refine⟨_,?_,v+1,par',Q',rfl,Hy,sd @hw,eA,⟨tL,I7⟩,sd @cgo,sd @cgC,aH,fun w hw Gz=>?_⟩
     ·omega
     ·by_cases I8:w=v
      ·subst I8;exact absurd Gz hr
      ·exact eJ w ae Gz
   ·(try((repeat(revert N;apply Pn.out));refine wk (tw @mY.eq_1 (tw @c0 (tw @c7 (tw @c8 (tw @c9 (tw @kN (tw @c36 (tw @SI (tw @hv (tw @cgo (tw @Tw (tw @tl (tw @rU @hw))))))))))))) ?_;(repeat(apply Pn.mk;intro N hN))))
    refine⟨_,?_,v+1,par',Q',rfl,Hy,sd @hw,eA,⟨tL,I7⟩,sd @cgo,sd @cgC,aH,fun w hw Gz=>?_⟩
    ·omega
    ·by_cases I8:w=v
     ·subst I8;omega
     ·exact eJ w ae Gz
  ·have hvc:v=cnt:=ae
   subst hvc
   (try((repeat(revert N;apply Pn.out));refine wk (tw @c36 (tw @SI @hv)) ?_;(repeat(apply Pn.mk;intro N hN))))
   refine⟨_,?_,par',Q',i+1,rfl,eA.next tL fun w hw hr=>eJ w hw (by rw[<-I7];exact hr),sd @cgo,sd @cgC,aH⟩
   omega
 ·have hiQ:i=Q.length:=ae
  subst hiQ
  have kH:¬(0:Int)<((Q.length-Q.length:Nat):Int):=ae
  have hgy:=gH (f:=par) hy
  have tl:=gp par cnt
  rw[aM]at hgy
  by_cases rU:par y<0
  ·(try((repeat(revert N;apply Pn.out));refine wk (tw @b0 (tw @b1 (tw @b2 (tw @b7 (tw @b8 (tw @b9 (tw @bgC (tw @MS (tw @kH (tw @bgo (tw @hgy (tw @tl (tw @hyi @rU))))))))))))) ?_;(repeat(apply Pn.mk;intro N hN))))
   exact⟨[.bj],sd @Nat.zero_add,.bj,jH _ _,.inl ⟨rfl,hB.cut hy rU⟩⟩
  ·(try((repeat(revert N;apply Pn.out));refine wk (tw @b0 (tw @b1 (tw @b2 (tw @b7 (tw @b8 (tw @b9 (tw @bgC (tw @MS (tw @kH (tw @bgo (tw @hgy (tw @tl (tw @hyi @rU))))))))))))) ?_;(repeat(apply Pn.mk;intro N hN))))
   refine cm (fun m env st=>∃(k:Nat) (out:List Nat) (p:Id),m=Q.idxOf k/\env 13=.int .i64 (k:Int)/\env 12=.own p 0 out.length/\st.get p=some ⟨true,1,out.map eN⟩/\p.bq<st.next/\st_b.next<=p.bq/\k∈Q/\x9 c f Q y k out/\st.get o=some ⟨true,1,iL par cnt⟩) (Q.idxOf y) ⟨y,[y],⟨259017001,st_b.next+1+1⟩,rfl,by(simp only[go_sem, ↓reduceIte,Nat.reduceEqDiff,Nat.reduceAdd,Nat.reduceSub,Nat.reduceLeDiff,reduceCtorEq]),by(simp only[go_sem, ↓reduceIte,Nat.reduceEqDiff,Nat.reduceAdd,Nat.reduceSub,Nat.reduceLeDiff,reduceCtorEq])<;>rfl,by(simp only[go_sem, ↓reduceIte,Nat.reduceEqDiff,Nat.reduceAdd,Nat.reduceSub,Nat.reduceLeDiff,reduceCtorEq])<;>rfl,aH,aH,(hB.iff y hy).1 ae,x9.start ((hB.iff y hy).1 ae),by(have Ze:=bZ (i:=o) (n:=st_b.next) ae);simp only[go_sem, ↓reduceIte,Nat.reduceEqDiff,Nat.reduceAdd,Nat.reduceSub,Nat.reduceLeDiff,reduceCtorEq,Ze,bgo]⟩ ?_
   rintro m env_d st_d ⟨k,out,p,rfl,d13,d12,dgp,dpn,dpo,hkQ,xR,dgo⟩ dkp
   have d1:=dkp 1 (by kernel_rfl)
   have d8:=dkp 8 (by kernel_rfl)
   simp only[go_sem, ↓reduceIte,Nat.reduceEqDiff,Nat.reduceAdd,Nat.reduceSub,Nat.reduceLeDiff,reduceCtorEq,b1,b8]at d1 d8
   clear dkp
   have XE:=bZ dpn
   have XD:=bZ (i:=o) (n:=st_d.next) ae
   have eH:=ei (a:=o) (b:=p) ae
   have M4:=xR.len hB.lt
   have jg:=hB.lt k hkQ
   have fc:(out.map eN).length=out.length:=by simp
   by_cases YX:k=x
   ·have hd:decide ((k:Int)=(x:Int))=true:=decide_eq_true (by rw[YX])
    have hop2:0<out.length:=by
     obtain⟨rest,h1,_⟩:=xR
     rw[<-List.length_reverse,h1];simp
    (try((repeat(revert N;apply Pn.out));refine wk (tw @d1 (tw @d8 (tw @d12 (tw @d13 (tw @hd @Bool.not_true))))) ?_;(repeat(apply Pn.mk;intro N hN))))
    refine .inr (ay _ _ _ _ _ (fun r σ2 hq=>?_) (K5 out hop2 ae p _ dgp aH))
    obtain⟨Xd,td,W8⟩:=hq
    apply hN
    clear hN N
    (try((repeat(revert N;apply Pn.out));refine wk @d12 ?_;(repeat(apply Pn.mk;intro N hN))))
    refine⟨[.own p 0 out.length],sd @d12,.sl (out.reverse.map eN),?_,.inr ⟨out.reverse,rfl,by subst YX;exact xR.way hB.lt⟩⟩
    exact eT (sz:=1) Xd (by simp) fun a=>Wz _ 4 a
   ·have hd:decide ((k:Int)=(x:Int))=false:=decide_eq_false fun h=>YX ae
    obtain⟨u,huQ,Y4,C3,hr⟩:=hB.up k hkQ YX
    have iy:=gH (f:=par) jg
    rw[aM,Y4]at iy
    have hki:(k:Int)<(cnt:Int):=ae
    have e1:out.length+1<=16777216:=ae
    (try((repeat(revert N;apply Pn.out));refine wk (tw @d1 (tw @d8 (tw @d12 (tw @d13 (tw @hd (tw @Bool.not_false (tw @dgo (tw @dgp (tw @iy (tw @tl (tw @hki (tw @XE (tw @XD (tw @eH (tw @fc @e1))))))))))))))) ?_;(repeat(apply Pn.mk;intro N hN))))
    refine⟨_,C3,u,out++[u],⟨259021003,st_d.next+1+1⟩,rfl,sd @Nat.zero_add,by rw[List.length_append];simp only[go_sem, ↓reduceIte,Nat.reduceEqDiff,Nat.reduceAdd,Nat.reduceSub,Nat.reduceLeDiff,reduceCtorEq,List.length_cons,List.length_nil],by rw[List.map_append,List.map_cons,List.map_nil];simp only[go_sem, ↓reduceIte,Nat.reduceEqDiff,Nat.reduceAdd,Nat.reduceSub,Nat.reduceLeDiff,reduceCtorEq,eN],aH,aH,huQ,xR.step huQ C3 hr,sd (tw @XD (tw @eH @dgo))⟩
theorem Ek (b:Nat):∀(l:List Nat) (a:Nat) (f:Nat->Nat->Int),nK f ((a::l)++[b])=lX (nK f (a::l)) ((a::l).getLast (by simp)) b
 |[],a,f=>rfl
 |c::l,a,f=>by
  rw[List.cons_append,List.cons_append,nK,<-List.cons_append,Ek b l c (lX f a c),nK,List.getLast_cons_cons]
theorem JI {p:List Nat} {f:Nat->Nat->Int} {i:Nat} (h1:1<=i) (hi:i<p.length):nK f (p.take (i+1))=lX (nK f (p.take i)) (p[i-1]'ae) p[i]:=by
 rw[List.take_succ_eq_append_getElem hi]
 have iI:p.take i≠[]:=by
  intro h
  have:(p.take i).length=0:=by rw[h];rfl
  rw[List.length_take]at this;omega
 obtain⟨a,l,RD⟩:∃a l,p.take i=a::l:=by
  cases h:p.take i with
  |nil=>exact absurd h iI
  |cons a l=>exact⟨a,l,rfl⟩
 have y6:(p.take i).getLast iI=p[i-1]'ae:=by
  rw[List.getLast_eq_getElem,List.getElem_take]
  congr 1
  rw[List.length_take];omega
 simp only[RD]at y6 ⊢
 rw[Ek,y6]
theorem K1 (f:Nat->Nat->Int) (a b u v:Nat):lX f a b u v<=f u v+1/\f u v-1<=lX f a b u v:=by
 unfold lX bump
 split<;>split<;>constructor<;>omega
theorem nL:∀(p:List Nat) (f:Nat->Nat->Int) (u v:Nat),nK f p u v<=f u v+p.length/\f u v-p.length<=nK f p u v
 |[],f,u,v=>by simp[nK]
 |[_],f,u,v=>by simp[nK];omega
 |a::b::r,f,u,v=>by
  rw[nK]
  have h1:=nL (b::r) (lX f a b) u v
  have h2:=K1 f a b u v
  simp only[List.length_cons]at h1 ⊢
  omega
theorem pX.push {g g':Rows} {X o1 o2:Id} {R1 R2:Nat->Id} {n nb:Nat} {c f:Nat->Nat->Int} (I:JE X o1 o2 R1 R2 n nb) (h:pX g X o1 o2 R1 R2 n c f) {a b:Nat} (ha:a<n) (hb:b<n) (pM:a≠b) (hA:g' (R2 a)=some ⟨true,1,iL (bump f a b 1 a) n⟩) (hB:g' (R2 b)=some ⟨true,1,iL (bump (bump f a b 1) b a (-1) b) n⟩) (hf:∀i:Id,i.bq<nb->(i=R2 a)=False->(i=R2 b)=False->g' i=g i):pX g' X o1 o2 R1 R2 n c (lX f a b):=by
 have ne:∀{i:Id} {s:Nat},i.site=s->(s==220005006)=false->∀a,a<n->(i=R2 a)=False:=fun {i s} hi hs a ha=>by
  simp only[eq_iff_iff,iff_false]
  rintro rfl
  rw[I.Sb a ha]at hi
  subst hi
  simp at hs
 refine⟨(hf _ I.vx (ne I.sx (by decide) _ ha) (ne I.sx (by decide) _ hb)).trans h.x,(hf _ I.v1 (ne I.s1 (by decide) _ ha) (ne I.s1 (by decide) _ hb)).trans h.t1,(hf _ I.v2 (ne I.s2 (by decide) _ ha) (ne I.s2 (by decide) _ hb)).trans h.t2,fun i hi=>(hf _ (I.vr1 i hi) (ne (I.Zp i hi) (by decide) _ ha) (ne (I.Zp i hi) (by decide) _ hb)).trans (h.r1 i hi),fun i hi=>?_⟩
 by_cases O3:i=b
 ·subst O3;exact hB
 ·by_cases O1:i=a
  ·subst O1
   rw[hA,lX,lE O3]
  ·rw[lX,lE O3,lE O1,hf _ (I.Ye i hi) (by simp only[eq_iff_iff,iff_false];exact fun he=>O1 (I.i2 i _ hi ha he)) (by simp only[eq_iff_iff,iff_false];exact fun he=>O3 (I.i2 i _ hi hb he))]
   exact h.r2 i hi
theorem Uu (cnt:Nat) (sC:1<=cnt) (hn:cnt<=1048576) (c:Nat->Nat->Int) (hc:∀u v,u<cnt->v<cnt->0<=c u v/\c u v<=16777216) (x y:Nat) (hx:x<cnt) (hy:y<cnt) (TY:x≠y) (t:Int) (ht:t<=1099511627776)
  (X o1 o2:Id) (R1 R2:Nat->Id) (nb:Nat) (I:JE X o1 o2 R1 R2 cnt nb) (σ:ax) (hM:pX σ.get X o1 o2 R1 R2 cnt c (fun _ _=>0)) (hnb:nb<=σ.next):
  Call Tryz.prog 221 [.ptr X 0 0,.int .i64 x,.int .i64 y,.int .i64 t] σ fun r σ'=>∃(k:Nat) (f:Nat->Nat->Int),r=.int .i64 k/\pe cnt c f x y k/\pX σ'.get X o1 o2 R1 R2 cnt c f/\((∃S:Nat->Bool,S x=true/\S y=false/\∀u v,u<cnt->v<cnt->S u=true->S v=false->¬f u v<c u v)∨t<=k)/\σ.next<=σ'.next:=by
 refine eZ fx rfl fun hl=>?_
 clear hl
 have hxS:(fun v=>decide (v=x)) x=true:=by simp
 have hyS:(fun v=>decide (v=x)) y=false:=by simp;exact fun h=>TY h.symm
 obtain⟨top,htop⟩:∃top,top=nO cnt (fun v=>decide (v=x)) c:=⟨_,rfl⟩
 (try((repeat(revert N;apply Pn.out));refine wk @Nat.zero_add ?_;(repeat(apply Pn.mk;intro N hN))))
 refine cm (fun m env st=>∃(k:Nat) (f:Nat->Nat->Int),m=(top-k).toNat/\env 9=.int .i64 (k:Int)/\pe cnt c f x y k/\pX st.get X o1 o2 R1 R2 cnt c f/\σ.next<=st.next/\(0<k->(k:Int)<=t)/\∀u v,-((k:Int)*(cnt:Int))<=f u v) (top-0).toNat ⟨0,fun _ _=>0,rfl,by(simp only[go_sem, ↓reduceIte,Nat.reduceEqDiff,Nat.reduceAdd,Nat.reduceSub,Nat.reduceLeDiff,reduceCtorEq])<;>rfl,pe.zero fun u v hu hv=>(hc u v hu hv).1,hM,aH,fun h=>absurd h (Nat.lt_irrefl 0),fun u v=>by simp⟩ ?_
 rintro m env_b st_b ⟨k,f,rfl,b9,hF,bM,bn,bk,blo⟩ bkp
 have b0:=bkp 0 (by kernel_rfl)
 have b1:=bkp 1 (by kernel_rfl)
 have b2:=bkp 2 (by kernel_rfl)
 have b3:=bkp 3 (by kernel_rfl)
 simp only[go_sem, ↓reduceIte,Nat.reduceEqDiff,Nat.reduceAdd,Nat.reduceSub,Nat.reduceLeDiff,reduceCtorEq]at b0 b1 b2 b3
 clear bkp
 have hz:eI (eD st_b.get) 6 [.ptr X 0 0,.int .i64 (x:Int),.int .i64 (y:Int)]=some [.ef (mY cnt c f),.int .i64 x,.int .i64 y]:=by simp only[aq,ar,bM.fz,aV,Option.map_some]
 (try((repeat(revert N;apply Pn.out));refine wk (tw @b0 (tw @b1 (tw @b2 (tw @b3 @b9)))) ?_;(repeat(apply Pn.mk;intro N hN))))
 refine .inr (ay _ _ _ _ _ (fun r σ1 hq=>?_) ((Yh cnt sC hn c f x y hx hy).x mixed hz))
 obtain⟨TK,rfl⟩:=hq
 apply hN
 clear hN N
 rcases TK with⟨rfl,S,To,MM,hS3⟩|⟨p,rfl,hW⟩
 ·(try((repeat(revert N;apply Pn.out));refine wk (tw @b0 (tw @b1 (tw @b2 (tw @b3 (tw @b9 (tw @Bool.not_true @Bool.not_false)))))) ?_;(repeat(apply Pn.mk;intro N hN))))
  refine eo (.inl rfl) (vs:=[.int .i64 (k:Int)]) (sd @Nat.zero_add) ⟨k,f,rfl,hF,by(try dsimp only);exact bM,.inl ⟨S,To,MM,hS3⟩,aH⟩
 ·obtain⟨⟨rs,rfl,y6⟩,sD,iT,hplt⟩:=hW
  by_cases O8:t<=(k:Int)
  ·(try((repeat(revert N;apply Pn.out));refine wk (tw @b0 (tw @b1 (tw @b2 (tw @b3 (tw @b9 (tw @O8 (tw @Bool.not_true @Bool.not_false))))))) ?_;(repeat(apply Pn.mk;intro N hN))))
   refine eo (.inl rfl) (vs:=[.int .i64 (k:Int)]) (sd @Nat.zero_add) ⟨k,f,rfl,hF,by(try dsimp only);exact bM,.inr O8,aH⟩
  ·(try((repeat(revert N;apply Pn.out));refine wk (tw @b0 (tw @b1 (tw @b2 (tw @b3 (tw @b9 (tw @O8 (tw @Bool.not_true @Bool.not_false))))))) ?_;(repeat(apply Pn.mk;intro N hN))))
   have lU:=uD cnt _ sD hplt
   have hkc:(k:Int)*(cnt:Int)<=1099511627776*1048576:=Int.mul_le_mul ae ae ae ae
   have hfb:=hF.bound (S:=fun v=>decide (v=x)) hxS hyS
   have hnear:=nL
   obtain⟨p,hp⟩:∃p,p=x::rs:=⟨_,rfl⟩
   have P0:eN x::List.map eN rs=p.map eN:=by rw[hp];rfl
   rw[P0]
   have hp1:1<=p.length:=by rw[hp];simp
   have PV:=hF.aug y6 sD iT hplt
   rw[<-hp]at PV sD iT hplt lU
   have TR:p.take 1=[x]:=by rw[hp];rfl
   clear P0 y6
   refine cm (fun m env st=>∃i:Nat,m=p.length-i/\1<=i/\i<=p.length/\env 11=.int .i64 (i:Int)/\pX st.get X o1 o2 R1 R2 cnt c (nK f (p.take i))/\st_b.next<=st.next) (p.length-1) ⟨1,rfl,Nat.le_refl _,hp1,by(simp only[go_sem, ↓reduceIte,Nat.reduceEqDiff,Nat.reduceAdd,Nat.reduceSub,Nat.reduceLeDiff,reduceCtorEq])<;>rfl,by rw[TR];exact bM,aH⟩ ?_
   rintro m env_c st_c ⟨i,rfl,Ty,nR,Lz,cM,cn⟩ ckp
   have c0:=ckp 0 (by kernel_rfl)
   have c1:=ckp 1 (by kernel_rfl)
   have c2:=ckp 2 (by kernel_rfl)
   have c3:=ckp 3 (by kernel_rfl)
   have c9:=ckp 9 (by kernel_rfl)
   have kN:=ckp 10 (by kernel_rfl)
   simp only[go_sem, ↓reduceIte,Nat.reduceEqDiff,Nat.reduceAdd,Nat.reduceSub,Nat.reduceLeDiff,reduceCtorEq,b0,b1,b2,b3,b9]at c0 c1 c2 c3 c9 kN
   clear ckp
   have fc:(p.map eN).length=p.length:=by simp
   by_cases hi:(i:Int)<(p.length:Int)
   ·have gV:i<p.length:=ae
    have AR:=JI (f:=f) Ty gV
    obtain⟨a,ha⟩:∃a,a=p[i-1]'ae:=⟨_,rfl⟩
    obtain⟨b,hb⟩:∃b,b=p[i]:=⟨_,rfl⟩
    have IX:a<cnt:=by rw[ha];exact hplt _ (List.getElem_mem _)
    have IZ:b<cnt:=by rw[hb];exact hplt _ (List.getElem_mem _)
    have pM:a≠b:=by
     rw[ha,hb]
     exact List.pairwise_iff_getElem.1 sD (i-1) i ae gV ae
    have Kk:(p.map eN)[i-1]? =some [.int .i64 (a:Int)]:=by rw[List.getElem?_map,List.getElem?_eq_getElem ae,ha];rfl
    have Xe:(p.map eN)[i]? =some [.int .i64 (b:Int)]:=by rw[List.getElem?_map,List.getElem?_eq_getElem gV,hb];rfl
    rw[<-ha,<-hb]at AR
    have hn1':=nL (p.take i) f a b
    have hn2':=nL (p.take i) f b a
    rw[List.length_take]at hn1' hn2'
    have LJ:=blo b a
    have MZ:=blo a b
    have XC:=hF.le a b IX IZ
    have hu2:=hF.le b a IZ IX
    have hca:=hc a b IX IZ
    have I0:=hc b a IZ IX
    generalize nK f (p.take i)=fl at *
    have gA:=uS (R:=R2) (n:=cnt) IX
    have gB:=uS (R:=R2) (n:=cnt) IZ
    have rA:=cM.r2 _ IX
    have rB:=cM.r2 _ IZ
    have cA:=gH (f:=fl a) IZ
    have cB:=gH (f:=fl b) IX
    have sA:=qc (f:=fl) (a:=a) (d:=1) IZ
    have TH:bump fl a b 1 b=fl b:=lE fun h=>pM h.symm
    have sB:=qc (f:=bump fl a b 1) (a:=b) (b:=a) (d:=-1) (n:=cnt) IX
    rw[TH]at sB
    have gX:=cM.x
    have g2:=cM.t2
    have Hp:(a:Int)<(cnt:Int):=ae
    have pN:(b:Int)<(cnt:Int):=ae
    have Zf:IntKind.i64.wrap ((i:Int)-1)=((i-1:Nat):Int):=by rw[db ae];omega
    have xD:((i-1:Nat):Int)<(p.length:Int):=ae
    have wA:IntKind.i64.wrap (fl a b+1)=fl a b+1:=db ae
    have wB:IntKind.i64.wrap (fl b a-1)=fl b a+-1:=by rw[db ae];omega
    have XG:IntKind.i64.wrap ((i:Int)+1)=((i+1:Nat):Int):=bf ae
    have l2:=lI R2 cnt cnt
    have lA:=gp (fl a) cnt
    have lB:=gp (fl b) cnt
    have iI:(R2 a=R2 b)=False:=by simp only[eq_iff_iff,iff_false];exact fun h=>pM (I.i2 _ _ IX IZ h)
    have M3:(R2 b=R2 a)=False:=by simp only[eq_iff_iff,iff_false];exact fun h=>pM (I.i2 _ _ IX IZ h.symm)
    have xA:=DE I.sx (I.Sb a IX) (by decide)
    have xB:=DE I.sx (I.Sb b IZ) (by decide)
    have yA:=DE I.s2 (I.Sb a IX) (by decide)
    have yB:=DE I.s2 (I.Sb b IZ) (by decide)
    have qX:=bZ (i:=X) (n:=st_c.next) (by have:=I.vx;omega)
    have q2:=bZ (i:=o2) (n:=st_c.next) (by have:=I.v2;omega)
    have qA:=bZ (i:=R2 a) (n:=st_c.next) (by have:=I.Ye a IX;omega)
    have qB:=bZ (i:=R2 b) (n:=st_c.next) (by have:=I.Ye b IZ;omega)
    rw[aM]at cA cB sA sB
    (try((repeat(revert N;apply Pn.out));refine wk (tw @c0 (tw @c9 (tw @kN (tw @Lz (tw @fc (tw @hi (tw @xD (tw @Kk (tw @Xe (tw @gA (tw @gB (tw @rA (tw @rB (tw @cA (tw @cB (tw @sA (tw @sB (tw @gX (tw @g2 (tw @Hp (tw @pN (tw @Zf (tw @wA (tw @wB (tw @XG (tw @l2 (tw @lA (tw @lB (tw @iI (tw @M3 (tw @xA (tw @xB (tw @yA (tw @yB (tw @qX (tw @q2 (tw @qA @qB))))))))))))))))))))))))))))))))))))) ?_;(repeat(apply Pn.mk;intro N hN))))
    refine⟨_,?_,i+1,rfl,ae,ae,sd @XG,?_,aH⟩
    ·omega
    ·rw[AR]
     refine cM.push I IX IZ pM ?_ ?_ fun j hj h1 h2=>?_
     ·simp only[go_sem, ↓reduceIte,Nat.reduceEqDiff,Nat.reduceAdd,Nat.reduceSub,Nat.reduceLeDiff,reduceCtorEq,iI]
     ·simp only[go_sem, ↓reduceIte,Nat.reduceEqDiff,Nat.reduceAdd,Nat.reduceSub,Nat.reduceLeDiff,reduceCtorEq,iI]
     ·simp only[go_sem, ↓reduceIte,Nat.reduceEqDiff,Nat.reduceAdd,Nat.reduceSub,Nat.reduceLeDiff,reduceCtorEq,h1,h2]
   ·have O4:i=p.length:=ae
    subst O4
    rw[List.take_length]at cM
    have Zh:IntKind.i64.wrap ((k:Int)+1)=((k+1:Nat):Int):=bf ae
    have hfb2:=PV.bound (S:=fun v=>decide (v=x)) hxS hyS
    (try((repeat(revert N;apply Pn.out));refine wk (tw @c0 (tw @c9 (tw @kN (tw @Lz (tw @fc (tw @hi @Zh)))))) ?_;(repeat(apply Pn.mk;intro N hN))))
    refine⟨_,?_,k+1,_,rfl,sd @Zh,by rw[Int.natCast_add];exact PV,cM,aH,fun _=>ae,fun u v=>?_⟩
    ·rw[<-htop]at hfb2;omega
    ·have h1:=(nL p f u v).2
     have h2:=blo u v
     rw[Int.natCast_add,Int.add_mul]
     omega
theorem Ut (cnt:Nat) (sC:1<=cnt) (hn:cnt<=1048576) (c:Nat->Nat->Int) (hc:∀u v,u<cnt->v<cnt->0<=c u v/\c u v<=16777216) (x y:Nat) (hx:x<cnt) (hy:y<cnt) (TY:x≠y) (t:Int) (ht:t<=1099511627776)
  (X o1 o2:Id) (R1 R2:Nat->Id) (nb:Nat) (I:JE X o1 o2 R1 R2 cnt nb) (σ:ax) (hM:pX σ.get X o1 o2 R1 R2 cnt c (fun _ _=>0)) (hnb:nb<=σ.next):
  Call Tryz.prog 221 [.ptr X 0 0,.int .i64 x,.int .i64 y,.int .i64 t] σ fun r σ'=>∃val:Int,r=.int .i64 val/\(val<t↔∃S:Nat->Bool,S x=true/\S y=false/\nO cnt S c<t)/\σ.next<=σ'.next:=by
 refine ay _ _ _ _ _ (fun r σ1 hq=>?_) (Uu cnt sC hn c hc x y hx hy TY t ht X o1 o2 R1 R2 nb I σ hM hnb)
 obtain⟨k,f,rfl,hF,_,hS,hle⟩:=hq
 refine⟨(k:Int),rfl,⟨fun h=>?_,fun⟨S',h1,h2,h3⟩=>by have:=hF.bound h1 h2;omega⟩,hle⟩
 rcases hS with⟨S,To,MM,hS3⟩|h2
 ·exact⟨S,To,MM,by rw[<-hF.full To MM hS3];exact h⟩
 ·omega
noncomputable def xc (n:Nat) (bs:List PB) (t:Int):Bool:=@decide (sK n bs t) (Classical.propDecidable _)
theorem BD {n:Nat} {bs:List PB} {t:Int} (h:sK n bs t):true=xc n bs t:=by simp[xc,h]
theorem Fa {n:Nat} {bs:List PB} {t:Int} (h:¬sK n bs t):false=xc n bs t:=by simp[xc,h]
theorem P4 (cnt:Nat) (hn:cnt<=1048576) (bs:List PB) (hb:∀b∈bs,b.a<cnt/\b.b<cnt) (ed:∀b∈bs,0<=b.s/\b.s<=4) (iz:bs.length<=1048576) (t:Int) (ht:t<=1099511627776):
  aw Tryz.prog 174 [.int .i64 cnt,.sl (bs.map di),.int .i64 t] (.bool (xc cnt bs t)):=by
 refine aw.body fx rfl fun hl n0=>?_
 clear hl
 have l7:=Dv bs (fun _ _=>0) (fun b h=>(ed b h).1) (fun _ _=>Int.le_refl _)
 have hle:=room_le bs (fun _ _=>0) 0 (fun b h=>(ed b h).2) (fun _ _=>Int.le_refl _) (Int.le_refl _)
 have iT:bs.foldl pC (fun _ _=>0)=mK bs:=rfl
 rw[iT]at l7 hle
 (try((repeat(revert N;apply Pn.out));refine wk @Nat.zero_add ?_;(repeat(apply Pn.mk;intro N hN))))
 refine cm (fun m env st=>∃y:Nat,m=cnt+1-y/\1<=y/\env 7=.int .i64 (y:Int)/\y<=cnt+1/\∀z,1<=z->z<y->z<cnt->∀S:Nat->Bool,S 0=true->S z=false->t<=gO S bs) (cnt+1-1) ⟨1,rfl,Nat.le_refl _,by(simp only[go_sem, ↓reduceIte,Nat.reduceEqDiff,Nat.reduceAdd,Nat.reduceSub,Nat.reduceLeDiff,reduceCtorEq])<;>rfl,ae,fun z h1 h2=>ae⟩ ?_
 rintro m env_b st_b ⟨y,rfl,hy1,b7,hyl,eJ⟩ bkp
 have b0:=bkp 0 (by kernel_rfl)
 have b1:=bkp 1 (by kernel_rfl)
 have b2:=bkp 2 (by kernel_rfl)
 simp only[go_sem, ↓reduceIte,Nat.reduceEqDiff,Nat.reduceAdd,Nat.reduceSub,Nat.reduceLeDiff,reduceCtorEq]at b0 b1 b2
 clear bkp
 by_cases hy:(y:Int)<(cnt:Int)
 ·have hyn:y<cnt:=ae
  (try((repeat(revert N;apply Pn.out));refine wk (tw @b0 (tw @b1 (tw @b2 (tw @b7 @hy)))) ?_;(repeat(apply Pn.mk;intro N hN))))
  refine .inr (ay _ _ _ _ _ (fun r σ1 hq=>?_) (FT cnt ae hn bs hb ed iz _))
  obtain⟨X,o1,o2,R1,R2,rfl,I,Km,hM,_⟩:=hq
  apply hN
  clear hN N
  (try((repeat(revert N;apply Pn.out));refine wk (tw @b0 (tw @b1 (tw @b2 @b7))) ?_;(repeat(apply Pn.mk;intro N hN))))
  have Nb:=Ut cnt ae hn (mK bs) (fun u v _ _=>⟨l7 u v,by have:=hle u v;omega⟩) 0 y ae hyn ae t ht X o1 o2 R1 R2 σ1.next I
  refine .inr (ay _ _ _ _ _ (fun r σ2 hq=>?_) (Nb _ hM aH))
  obtain⟨val,rfl,y9,td⟩:=hq
  apply hN
  clear hN N
  by_cases eG:val<t
  ·(try((repeat(revert N;apply Pn.out));refine wk (tw @b0 (tw @b1 (tw @b2 (tw @b7 @eG)))) ?_;(repeat(apply Pn.mk;intro N hN))))
   obtain⟨S,h1,h2,h3⟩:=y9.1 eG
   rw[EE hb]at h3
   exact da (b:=false) (.inl rfl) (sd @Nat.zero_add) (Fa fun h=>by have:=h S h1 ⟨y,hyn,h2⟩;omega)
  ·have hw:IntKind.i64.wrap ((y:Int)+1)=((y+1:Nat):Int):=bf ae
   (try((repeat(revert N;apply Pn.out));refine wk (tw @b0 (tw @b1 (tw @b2 (tw @b7 (tw @eG @hw))))) ?_;(repeat(apply Pn.mk;intro N hN))))
   refine⟨_,?_,y+1,rfl,ae,sd (tw @b7 @hw),ae,fun z h1 h2 h3 S To MM=>?_⟩
   ·omega
   ·by_cases hzy:z=y
    ·subst hzy
     rcases Int.lt_or_le (gO S bs) t with h|h
     ·exact absurd (y9.2 ⟨S,To,MM,by rw[EE hb];exact h⟩) eG
     ·exact h
    ·exact eJ z h1 ae h3 S To MM
 ·(try((repeat(revert N;apply Pn.out));refine wk (tw @b0 (tw @b1 (tw @b2 (tw @b7 @hy)))) ?_;(repeat(apply Pn.mk;intro N hN))))
  exact da (b:=true) (.inl rfl) (sd @Nat.zero_add) (BD fun S h0 ⟨z,hz,hzf⟩=>by
   have:z≠0:=by rintro rfl;rw[h0]at hzf;cases hzf
   exact eJ z ae ae hz S h0 hzf)
theorem M5 (cnt:Nat) (hn:cnt<=1048576) (bs:List PB) (hb:∀b∈bs,b.a<cnt/\b.b<cnt) (ed:∀b∈bs,0<=b.s/\b.s<=4) (iz:bs.length<=1048576) (t:Int) (ht:t<=1099511627776):
  aw Tryz.prog 174 [.int .i64 cnt,Dy bs,.int .i64 t] (.bool (xc cnt bs t)):=by
 have h:=P4 cnt hn bs hb ed iz t ht
 cases bs with
 |nil=>exact h.cut mixed (.same _ (.bj (.same _ .nil)))
 |cons b r=>rw[Dz (by simp)];exact h
def GF:Prop:=∀(s:az) (l:List aa),gy s->gx s l->aw Tryz.prog 173 [.agg (ah s),.agg [.sl (l.map ab)]] (Dy (dg s l))
noncomputable def xU (s:az) (l:List aa) (t:Int):Bool:=if 64<lZ s l t then false else xc (lZ s l t) (ep (fe (bW t (dg s l))) (dg s l)) t
theorem HA (s:az) (l:List aa) (t:Int):xU s l t=sI s l t:=by
 letI:=Classical.propDecidable (lu l.length (dg s l) t)
 unfold xU
 by_cases h:64<lZ s l t
 ·rw[if_pos h]
  exact(Ae (p:=False) ⟨False.elim,fun k=>by have:=k.1;unfold lZ at h;omega⟩).symm.trans (by simp) |>.symm
 ·rw[if_neg h]
  by_cases hp:sK (lZ s l t) (ep (fe (bW t (dg s l))) (dg s l)) t
  ·rw[<-BD hp]
   exact((Ae (p:=True) ⟨fun _=>⟨by unfold lZ at h;omega,hp⟩,fun _=>trivial⟩).symm.trans (by simp)).symm
  ·rw[<-Fa hp]
   exact((Ae (p:=False) ⟨False.elim,fun k=>hp k.2⟩).symm.trans (by simp)).symm
theorem Gc (Z5:GF) (s:az) (l:List aa) (t:Int) (ht:t<=1099511627776) (h1:1<=l.length) (hS:gy s) (hA:gx s l):aw Tryz.prog 105 [.agg (ah s),.agg [.sl (l.map ab)],.int .i64 t] (.fP [.bool (sI s l t),.bool (decide ¬64<lZ s l t)]):=by
 rw[<-HA]
 refine aw.body fx rfl fun hl n0=>?_
 clear hl
 have hb:=vI (l:=l) hS
 have iz:=yu (s:=s) hA.1
 have AM:=hA.1.pL
 have IY:=Z5 s l hS hA
 have WY:=CH l.length h1 ae (dg s l) (fun b h=>⟨(hb b h).1,(hb b h).2.1⟩) ae t
 have hL:=zj (bW t (dg s l))
 have gV:=H5 hL (fun b h=>⟨(hb b h).1,(hb b h).2.1⟩)
 have hlen:=(Ac (fe (bW t (dg s l))) (dg s l)).1
 have pP:=nV l.length (fe (bW t (dg s l)))
 have hho:=M5 (lZ s l t) (by unfold lZ;omega) (ep (fe (bW t (dg s l))) (dg s l)) (fun b h=>⟨(gV b h).1,(gV b h).2.1⟩) (fun b h=>by
  obtain⟨_,_,_,c,hc,ek⟩:=gV b h
  rw[ek];have:=hb c hc;omega) ae t ht
 have fE:(l.map ab).length=l.length:=by simp
 have hzB:∀(g:Rows) (n:Nat) (bs:List PB),V.fz g (n+1) (Dy bs)=some (Dy bs):=fun g n bs=>by
  unfold Dy;split
  ·exact aQ _ _
  ·exact cz _ _ _
 rw[ah]at IY
 rw[<-lZ]at WY
 have Az:∀(g:Rows) (x:Int),eI (eD g) 6 [.int .i64 l.length,Dy (dg s l),.int .i64 x]=some [.int .i64 l.length,Dy (dg s l),.int .i64 x]:=fun g x=>by simp only[aq,ar,aV,hzB,Option.map_some]
 have hzh:∀(g:Rows) (x y:Int),eI (eD g) 6 [.int .i64 x,Dy (ep (fe (bW t (dg s l))) (dg s l)),.int .i64 y]=some [.int .i64 x,Dy (ep (fe (bW t (dg s l))) (dg s l)),.int .i64 y]:=fun g x y=>by simp only[aq,ar,aV,hzB,Option.map_some]
 generalize Dy (dg s l)=B1 at *
 generalize Dy (ep (fe (bW t (dg s l))) (dg s l))=B2 at *
 by_cases s9:(64:Int)<(lZ s l t:Int)
 ·have MJ:64<lZ s l t:=ae
  (have zF:=tw @ah.eq_1 (tw @s9 @fE);(repeat(first|((repeat(revert N;apply Pn.out));refine wk zF ?_;(repeat(apply Pn.mk;intro N hN)))|((try apply Or.inl);refine⟨_,aw.x (IY) (sd zF),?_⟩;apply hN;clear hN N)));try clear zF)
  refine⟨_,aw.x WY (Az _ _),?_⟩
  apply hN
  clear hN N
  (try((repeat(revert N;apply Pn.out));refine wk @s9 ?_;(repeat(apply Pn.mk;intro N hN))))
  exact lY (.inl rfl) (r1:=.bool false) (r2:=.bool false) (sd @Nat.zero_add) (sd @Nat.zero_add) (by rw[xU,if_pos MJ,decide_eq_false fun h=>h MJ];simp only[fo,bx,cw,gj,Option.map_some])
 ·have MJ:¬64<lZ s l t:=ae
  (have zF:=tw @ah.eq_1 (tw @s9 @fE);(repeat(first|((repeat(revert N;apply Pn.out));refine wk zF ?_;(repeat(apply Pn.mk;intro N hN)))|((try apply Or.inl);refine⟨_,aw.x (IY) (sd zF),?_⟩;apply hN;clear hN N)));try clear zF)
  refine⟨_,aw.x WY (Az _ _),?_⟩
  apply hN
  clear hN N
  (try((repeat(revert N;apply Pn.out));refine wk @s9 ?_;(repeat(apply Pn.mk;intro N hN))))
  refine .inl ⟨_,aw.x hho (hzh _ _ _),?_⟩
  apply hN
  clear hN N
  (try((repeat(revert N;apply Pn.out));refine wk @Nat.zero_add ?_;(repeat(apply Pn.mk;intro N hN))))
  exact lY (.inl rfl) (r1:=.bool (xc (lZ s l t) (ep (fe (bW t (dg s l))) (dg s l)) t)) (r2:=.bool true) (sd @Nat.zero_add) (sd @Nat.zero_add) (by rw[xU,if_neg MJ,decide_eq_true MJ];simp only[fo,bx,cw,gj,Option.map_some])
theorem pA (t:Int):aw Tryz.prog 104 [.int .i64 t] (.bool (ik t 1 16)):=by
 refine aw.body fx rfl fun hl n0=>?_
 clear hl
 have h:=kC t 1 16
 (repeat(first|((repeat(revert N;apply Pn.out));refine wk @Nat.zero_add ?_;(repeat(apply Pn.mk;intro N hN)))|((try apply Or.inl);refine⟨_,aw.x (h) (sd @Nat.zero_add),?_⟩;apply hN;clear hN N)))
 exact da (b:=ik t 1 16) (.inl rfl) (sd @Nat.zero_add) rfl
theorem ns (Z5:GF) (s:au) (hn:im s.aD) (hg:s.aD.bh.length<=1048576) (ht:s.aD.aj.length<=1048576) (hs:∀t∈s.aD.aj,t.dW.length<=1048576) (hl:s.bH.aj.length<=1048576):aw Tryz.prog 65 [.agg (ck s)] (.bool (j8 s)):=by
 refine aw.body fx rfl fun fD n0=>?_
 clear fD
 by_cases h0:(s.bH.aj.length:Int)=0
 ·have hd:decide ((s.bH.aj.length:Int)=0)=true:=decide_eq_true h0
  (try((repeat(revert N;apply Pn.out));refine wk (tw @ck.eq_1 @hd) ?_;(repeat(apply Pn.mk;intro N hN))))
  exact da (b:=false) (.inl rfl) (sd @Nat.zero_add) (np fun h=>by have:=h.some;omega)
 have hd:decide ((s.bH.aj.length:Int)=0)=false:=decide_eq_false h0
 have Tq:=lL s.aD s.bH.aj hn hg ht hs hl
 have WR:=pA s.aE
 have key:aw Tryz.prog 36 [.agg (ah s.aD),.agg [.sl (s.bH.aj.map ab)],.int .i64 s.aE] (.fP [.bool (j8 s),.int .i64 (if rZ s.aD&&sL s.aD s.bH.aj then(if ik s.aE 1 16 then(if 64<lZ s.aD s.bH.aj s.aE then 4 else 0)else 2)else 1)]):=by
  refine aw.body fx rfl fun fD n0=>?_
  clear fD
  rw[ah]at Tq
  cases hA:rZ s.aD&&sL s.aD s.bH.aj
  ·rw[hA]at Tq
   have lT:j8 s=false:=(np fun h=>by rw[mM.2 h.set,ml.2 h.o8]at hA;cases hA).symm
   (repeat(first|((repeat(revert N;apply Pn.out));refine wk @ah.eq_1 ?_;(repeat(apply Pn.mk;intro N hN)))|((try apply Or.inl);refine⟨_,aw.x (Tq) (sd @ah.eq_1),?_⟩;apply hN;clear hN N)))
   exact lY (.inl rfl) (r1:=.bool false) (r2:=.int .i64 1) (sd @Nat.zero_add) (sd @Nat.zero_add) (by rw[lT];simp only[fo,bx,cw,gj,ej,Option.map_some];rfl)
  rw[hA]at Tq
  simp only[Bool.and_eq_true]at hA
  have hS:=mM.1 hA.1
  have hP:=ml.1 hA.2
  cases hT:ik s.aE 1 16
  ·rw[hT]at WR
   have lT:j8 s=false:=(np fun h=>by have:=h.Gj;rw[hT]at this;cases this).symm
   (repeat(first|((repeat(revert N;apply Pn.out));refine wk @ah.eq_1 ?_;(repeat(apply Pn.mk;intro N hN)))|((try apply Or.inl);refine⟨_,aw.x (Tq) (sd @ah.eq_1),?_⟩;apply hN;clear hN N)|((try apply Or.inl);refine⟨_,aw.x (WR) (sd @ah.eq_1),?_⟩;apply hN;clear hN N)))
   exact lY (.inl rfl) (r1:=.bool false) (r2:=.int .i64 2) (sd @Nat.zero_add) (sd @Nat.zero_add) (by rw[lT];simp only[fo,bx,cw,gj,ej,Option.map_some];rfl)
  have V1:=dY hT
  rw[hT]at WR
  have ed:=Gc Z5 s.aD s.bH.aj s.aE ae ae hS hP
  rw[ah]at ed
  have hsy:j8 s=sI s.aD s.bH.aj s.aE:=by
   cases hB:sI s.aD s.bH.aj s.aE
   ·exact(np fun h=>by have:=rF.2 h.holds;rw[hB]at this;cases this).symm
   ·exact(Gf ⟨hS,hP,ae,hT,rF.1 hB⟩).symm
  by_cases s9:64<lZ s.aD s.bH.aj s.aE
  ·rw[decide_eq_false fun h=>h s9]at ed
   have lT:j8 s=false:=(np fun h=>by have:=h.holds.1;unfold lZ at s9;omega).symm
   (repeat(first|((repeat(revert N;apply Pn.out));refine wk @ah.eq_1 ?_;(repeat(apply Pn.mk;intro N hN)))|((try apply Or.inl);refine⟨_,aw.x (Tq) (sd @ah.eq_1),?_⟩;apply hN;clear hN N)|((try apply Or.inl);refine⟨_,aw.x (WR) (sd @ah.eq_1),?_⟩;apply hN;clear hN N)|((try apply Or.inl);refine⟨_,aw.x (ed) (sd @ah.eq_1),?_⟩;apply hN;clear hN N)))
   exact lY (.inl rfl) (r1:=.bool false) (r2:=.int .i64 4) (sd @Nat.zero_add) (sd @Nat.zero_add) (by rw[lT,if_pos s9];simp only[fo,bx,cw,gj,ej,Option.map_some])
  ·rw[decide_eq_true s9,<-hsy]at ed
   (repeat(first|((repeat(revert N;apply Pn.out));refine wk @ah.eq_1 ?_;(repeat(apply Pn.mk;intro N hN)))|((try apply Or.inl);refine⟨_,aw.x (Tq) (sd @ah.eq_1),?_⟩;apply hN;clear hN N)|((try apply Or.inl);refine⟨_,aw.x (WR) (sd @ah.eq_1),?_⟩;apply hN;clear hN N)|((try apply Or.inl);refine⟨_,aw.x (ed) (sd @ah.eq_1),?_⟩;apply hN;clear hN N)))
   exact lY (.inl rfl) (r1:=.bool (j8 s)) (r2:=.int .i64 0) (sd @Nat.zero_add) (sd @Nat.zero_add) (by rw[if_neg s9];simp only[fo,bx,cw,gj,ej,Option.map_some])
 generalize hcode:(if rZ s.aD&&sL s.aD s.bH.aj then(if ik s.aE 1 16 then(if 64<lZ s.aD s.bH.aj s.aE then(4:Int)else 0)else 2)else 1)=code at key
 rw[ah]at key
 cases hB:j8 s
 ·rw[hB]at key
  (repeat(first|((repeat(revert N;apply Pn.out));refine wk (tw @ck.eq_1 @hd) ?_;(repeat(apply Pn.mk;intro N hN)))|((try apply Or.inl);refine⟨_,aw.x (key) (sd (tw @ck.eq_1 @hd)),?_⟩;apply hN;clear hN N)))
  exact da (b:=false) (.inl rfl) (sd @Nat.zero_add) rfl
 ·rw[hB]at key
  have hP:=mN.1 hB
  have hc:code=0:=by
   rw[<-hcode,mM.2 hP.set,ml.2 hP.o8,hP.Gj]
   have:=hP.holds.1
   simp only[Bool.and_self,if_true]
   rw[if_neg (by unfold lZ;omega)]
  rw[hc]at key
  (repeat(first|((repeat(revert N;apply Pn.out));refine wk (tw @ck.eq_1 @hd) ?_;(repeat(apply Pn.mk;intro N hN)))|((try apply Or.inl);refine⟨_,aw.x (key) (sd (tw @ck.eq_1 @hd)),?_⟩;apply hN;clear hN N)))
  exact da (b:=true) (.inl rfl) (sd @Nat.zero_add) rfl
end Go.Proofs.YtainmfbpilopaaaGreatDoor.V

namespace Go.Proofs.YtainmfbpilopaaaGreatDoor.V
open Go.RowKit
variable {P:Program} {hs:Nat}
theorem Lr {q n i:Nat} {ops:Array Oper} {Q:Exit->Act->World->Prop} {K K':Act->World->Prop} {a:Act} {w:World} (sD:∀(j:Nat) (o:Oper),ops[j]? =some o->∀c,o.op≠.defer c) (lT:¬LetsOut Q) (hK:∀a w,K a w->K' a w) (h:wpOp P ops Q i K a w):wpOpIn (Fence.wide.inRound q) n P ops Q i K' a w:=by
 unfold wpOp at h
 unfold wpOpIn
 split at h
 ·rename_i ho;simp only[ho];exact hK _ _ h
 ·rename_i o ho
  simp only[ho]
  split at h
  ·rename_i hw
   rw[if_pos hw]
   replace h:=h.resolve_right fun hc=>lT hc.2
   refine⟨fun _ _=>trivial,?_⟩
   rw[Oper.semAt_eq _ _ _ (sD i o ho)]
   unfold Oper.wp at h
   generalize (execOp a.eval o).run P w=r at *
   cases r with
   |ok m w'=>
    cases m<;>simp only[Oper.upon,Oper.uponIn]at h ⊢
    case value=>exact hK _ _ h
    case skip=>exact hK _ _ h
    case defer=>exact hK _ _ h
    case enter f args=>
     refine⟨fun h=>by simp[Fence.wide]at h,CallsIn.inRound q (callsIn_wide.2 (h.mono fun e Pg he=>?_))⟩
     cases e with
     |returned v=>exact hK _ _ he
     |panicked c=>exact he
     |outgrown=>exact he
    case row r args=>exact⟨fun h=>by simp[Fence.wide]at h,fun c cs _=>let ⟨v,Pg,h1,s⟩:=h c cs;⟨v,Pg,hK _ _ h1,stepsIn_wide.2 s⟩⟩
   |halt x w'=>cases x<;>simp only[Oper.upon,Oper.uponIn]at h ⊢;exact h
  ·rename_i hw
   rw[if_neg hw]
   exact⟨fun _ _=>trivial,hK _ _ h⟩
theorem Ap {q n:Nat} {md:Region.Mode} {ops:Array Oper} {Q:Exit->Act->World->Prop} (sD:∀(j:Nat) (o:Oper),ops[j]? =some o->∀c,o.op≠.defer c) (lT:¬LetsOut Q):∀(fuel:Nat) (listed:Array Bool) (a:Act) (w:World),wpAny P md ops Q fuel listed a w->wpAnyIn (Fence.wide.inRound q) n P md ops Q fuel listed a w
 |0,_,_,_,h=>h
 |fuel+1,listed,_,_,h=>⟨h.1,fun i hi=>Lr sD lT (fun a w=>Ap sD lT fuel _ a w) (h.2 i hi)⟩
def Jd:Op->Bool
 | .defer _=>true
 |_=>false
theorem NJ {ops:Array Oper} (h:(ops.all fun o=> !Jd o.op)=true):∀(j:Nat) (o:Oper),ops[j]? =some o->∀c,o.op≠.defer c:=fun j o hj c hc=>by
 have:=Array.all_eq_true_iff_forall_mem.1 h o (Array.mem_of_getElem? hj)
 rw[hc]at this
 simp[Jd]at this
theorem Dt (hm:P.follows .mixedOrders=true) {nt site0 id q n:Nat} {ops:Array Oper} {vl:List bD} (h:tW P nt site0 ops true false=some vl) (sD:∀(j:Nat) (o:Oper),ops[j]? =some o->∀c,o.op≠.defer c)
  {K:Env->ax->Prop} {env:Env} {σ:ax} {a:Act} {w:World} {D:Nat->Prop} {ι:Names} {Q:Exit->Act->World->Prop} (hv:wpOps (Sound P) true vl K env σ) (ed:St P hs nt D ι env σ a w)
  (hK:∀jz σ' a' w' D' ι',K jz σ'->Step hs D ι w D' ι' w'->St P hs nt D' ι' jz σ' a' w'->a'.defers=a.defers->Q .normal a' w'):(Code.region id ops true).wpIn (Fence.wide.inRound q) n P Q a w:=by
 have eJ:∃hidden wO,allM (mm P ops nt site0 true false (j5 ops) hidden) ops.toList 0=some wO/\vl=wO/\qj ops wO (j5 ops)=true:=by
  unfold tW at h
  simp only[if_true,Bool.not_true,Bool.false_or]at h
  split at h
  ·rename_i wO h'
   split at h
   ·rename_i C4;simp at h;exact⟨_,wO,h',h.symm,C4⟩
   ·cases h
  ·cases h
 obtain⟨hidden,wO,eJ,rfl,C4⟩:=eJ
 obtain⟨ur,T0⟩:=ed.drew
 obtain⟨hlen,_⟩:=p9 eJ
 have y7:vl.length=ops.size:=by rw[hlen];simp
 have Hn:=Ao (X:=Sound P) (K:=K) (n:=σ.next) C4 y7 vl 0 (Array.replicate ops.size false) env σ.get (by simp) (by simp) (fun i hi=>by simp[hi]) (by simp[y7]) (fun k i h=>by
  exfalso
  rcases Nat.lt_or_ge k ops.size with hk|hk
  ·simp[hk]at h
  ·simp[Nat.not_lt.2 hk]at h) hv
 rw[y7]at Hn
 have hw:=Be (Q:=fun e a w=>e=.normal/\Q .normal a w) eJ ops.size _ env σ.get a w.drew D ι (fun _=>False) Hn ur.wH ur.used (fun _ h=>h.elim) ur.env ur.size fun jG g1 a1 w1 D1 ι1 U1 hk T S1 ZI E1 DY hd=>⟨rfl,hK jG ⟨g1,σ.next+1⟩ a1 w1 D1 ι1 hk (T0.trans T) ⟨S1,ZI.next,E1,DY⟩ hd⟩
 have gV:=Ap (q:=q) (n:=n) (Q:=fun e a w=>e=.normal/\Q .normal a w) sD (by rintro⟨_,_,hc,_⟩;cases hc) ops.size _ a w.drew hw
 refine wpIn_mono (wpIn_region_any (id:=id) hm gV) ?_
 rintro e a w ⟨rfl,h⟩
 exact h
end Go.Proofs.YtainmfbpilopaaaGreatDoor.V

namespace Go.Proofs.YtainmfbpilopaaaGreatDoor.V
open Go.RowKit Go.Shelf
attribute [local go_sem] Oper.semAt_some
def je (n₀:Nat) (W W':World):Prop:=W.heap.size<=W'.heap.size/\(∀(b:Nat) (cells:Array Value) (T:TypeId) (fr:Nat×Nat),W.heap[b]? =some (Obj.cells cells T fr)->T≠217->T≠266->W'.heap[b]? =W.heap[b]?)/\∀k,k<n₀->k<W.heap.size->W'.heap[k]? =W.heap[k]?
theorem je.trans {n₀:Nat} {A B C:World} (h:je n₀ A B) (k:je n₀ B C):je n₀ A C:=⟨Nat.le_trans h.1 k.1,fun b cells T fr hb h1 h2=>by
 have e:=h.2.1 b cells T fr hb h1 h2
 rw[<-e]at hb ⊢
 exact k.2.1 b cells T fr hb h1 h2,fun b hb hs=>(k.2.2 b hb (Nat.lt_of_lt_of_le hs h.1)).trans (h.2.2 b hb hs)⟩
theorem je.of {n₀:Nat} {W W':World} (h:Below W.heap.size W W'):je n₀ W W':=⟨h.size,fun b cells T fr hb _ _=>h.block b (Array.getElem?_eq_some_iff.1 hb).1,fun k _ hs=>h.block k hs⟩
theorem je.refl (n₀:Nat) (W:World):je n₀ W W:=⟨Nat.le_refl _,fun _ _ _ _ _ _ _=>rfl,fun _ _ _=>rfl⟩
theorem je.b {n₀ m:Nat} (hm:n₀<=m) (W:World) (l:Nat) (o o':Obj) (hl:m<=l) (h:W.heap[l]? =some o) (hc:o.isCells=false) (_:o.isWalk=false):je n₀ W (W.putObj l o'):=by
 refine⟨by simp,fun b cells T fr hb _ _=>?_,fun k hk _=>World.putObj_heap_other ae⟩
 by_cases iz:b=l
 ·subst iz;rw[h]at hb;cases hb;cases hc
 ·exact World.putObj_heap_other iz
def Pt (bs:List PB):List Value:=bs.flatMap fun b=>[.int .i64 b.a,.int .i64 b.b,.int .i64 b.s]
theorem Mf (bs:List PB) (b:PB):Pt (bs++[b])=Pt bs++[.int .i64 b.a,.int .i64 b.b,.int .i64 b.s]:=by simp[Pt]
def pD (s:az) (l:List aa) (pre:List (Sr l)):List PB:=(pre.map (·.1)).flatMap (Cy s l)
theorem Bi (s:az) (l:List aa) (pre:List (Sr l)) (x:Sr l):pD s l (pre++[x])=pD s l pre++Cy s l x.1:=by simp[pD]
theorem Me (s:az) (l:List aa) (x:Nat×Nat×Int):(Cy s l x).length<=1:=by
 unfold Cy;split<;>simp
theorem Mg (s:az) (l:List aa) (pre:List (Sr l)):(pD s l pre).length<=pre.length:=by
 unfold pD
 induction pre with
 |nil=>simp
 |cons x r ih=>
  have:=Me s l x.1
  simp only[List.map_cons,List.flatMap_cons,List.length_append,List.length_cons]at ih ⊢
  omega
theorem BT (l:List aa) (i:Nat):∀m,(mB l i m).length<=m
 |0=>by simp[mB]
 |m+1=>by
  rw[oQ,List.length_append]
  have:=BT l i m
  have:(FQ l i (1-(m:Int))).length<=1:=by unfold FQ;split<;>simp
  omega
theorem FR (l:List aa):∀n,(mV l n).length<=n*2
 |0=>by simp[mV]
 |n+1=>by
  rw[n9,List.length_append]
  have:=FR l n
  have:=BT l n 2
  omega
theorem EZ {β:Type} (B:Nat) (c:Array Value) (t:TypeId) (fr:Nat×Nat):Own (fun(_:β) W=>W.heap[B]? =some (.cells c t fr)):=fun _ X _ row h hg hr=>(hg.block B (Array.getElem?_eq_some_iff.1 h).1 (fun e=>by
 obtain⟨o,ho,hc⟩:=hr B e.symm
 rw[h]at ho;cases ho;cases hc)).trans h
theorem je.app {n₀:Nat} {W w1:World} {B k:Nat} {v v':Value} {xs:List Value} {tmp:Obj} (hv:Boxed W B 217 v) (fE:W.ownsRow n₀ 266 3 v k xs) (BB:(W.alloc tmp).grownBy w1 v.ownBlock) (hb:Below n₀ W (w1.setCell ⟨B,0,none⟩ v')):je n₀ W (w1.setCell ⟨B,0,none⟩ v'):=by
 refine⟨hb.size,fun b cells T fr h h1 h2=>?_,fun k hk _=>hb.block k hk⟩
 have eG:=(Array.getElem?_eq_some_iff.1 h).1
 have hbB:b≠B:=by
  rintro rfl
  rw[show W.heap[b]? = _ from hv]at h
  cases h
  exact h1 rfl
 have YO:some b≠v.ownBlock:=by
  rcases fE.2 with⟨rfl,_⟩|⟨g,cap,cur,rfl,_,hg,_⟩
  ·simp[Value.ownBlock]
  ·intro e
   obtain rfl:b=g:=by simpa[Value.ownBlock]using e
   rw[hg]at h;cases h
   exact h2 rfl
 refine(Below.heap_setCell w1 ⟨B,0,none⟩ v' b hbB).trans ?_
 exact(BB.block b (by simp;omega) YO).trans (Below.heap_alloc W tmp b eG)
theorem XO {w:World} {vS:Value} {l:List aa} (hP:rK w vS l):LW (je w.heap.size) vS l where
 refl:=je.refl _
 trans:=je.trans
 of:=je.of
 size h:=h.1
 typed h:=h.2.1
 pl {W W'} h hp:=by
  obtain⟨A,c,rfl,hm,hc⟩:=hp.sl
  refine⟨A,c,rfl,hm,?_⟩
  by_cases hl:l=[]
  ·exact .inl hl
  have kH:0<l.length:=List.length_pos_iff.2 hl
  rcases hc with h0|⟨b,o,rfl,nf⟩
  ·exact absurd h0 hl
  obtain⟨A',c',e,_,lR⟩:=hP.sl
  cases e
  rcases lR with h0|⟨b',o',e,hcell'⟩
  ·exact absurd h0 hl
  cases e
  have hb:=xM (hcell' 0 kH).1
  have hk:=h.2.2 b hb (xM (nf 0 kH).1)
  refine .inr ⟨b,o,rfl,fun i hi=>?_⟩
  have WV:∀x,W'.cell? ⟨b,x,none⟩=W.cell? ⟨b,x,none⟩:=fun x=>World.cell?_of_block hk
  rw[WV,WV,WV]
  exact nf i hi
theorem rrE {P:Program} {nt site0:Nat} {ops:Array Oper} {vl:List bD} (_:yw P ops site0 false (j5 ops) (re P false ops.toList 0) ops.toList 0=some vl:=by(conv=>lhs;cbv)<;>exact rfl) (h:tW P nt site0 ops true false=some vl:=by kernel_rfl):tW P nt site0 ops true false=some vl:=h
theorem Nx (l:List Value) (d:Value):l=(List.range l.length).map fun i=>(⟨l⟩:Array Value).getD i d:=by
 refine List.ext_getElem (by simp) fun i h1 h2=>?_
 simp[h1]
theorem HS {X:gq} {d:Bool} {ops:List bD} {K:Env->ax->Prop} {env:Env} {σ:ax} (h:ea X (.fV d ops) (fun _=>K) env σ):wpOps X d ops K env σ:=h
theorem yE (W:World) (T:TypeId) (x y z:Value):∀(j:Nat) (u:Value),[x,y,z][j]? =some u->(W.alloc (.cells #[x,y,z] T)).cell? ((⟨W.heap.size,0,none⟩:Addr).add j)=some u:=fun j u h=>by
 have hb:(W.alloc (.cells #[x,y,z] T)).heap[W.heap.size]? =some (.cells #[x,y,z] T (0,0)):=World.alloc_heap_new _ _
 have e:∀k,(W.alloc (.cells #[x,y,z] T)).cell? ⟨W.heap.size,k,none⟩=(#[x,y,z]:Array Value)[k]? :=fun k=>by
  unfold World.cell?
  rw[show(W.alloc (.cells #[x,y,z] T)).heap[(⟨W.heap.size,k,none⟩:Addr).block]? = _ from hb]
  rfl
 rw[show(⟨W.heap.size,0,none⟩:Addr).add j=⟨W.heap.size,j,none⟩ by simp[Addr.add];exact fun h=>h.symm,e]
 simpa using h
def Mm (n b:Nat):Names:=fun id=>if id=⟨1,0⟩then some ⟨n,2,2,none⟩else if id=⟨2,0⟩then some ⟨n+1,1,1,none⟩else if id=⟨3,0⟩then some ⟨n+1+1,1,1,none⟩else if id=⟨4,0⟩then some ⟨b,2,2,none⟩else if id=⟨5,0⟩then some ⟨n+1+1+1,1,1,none⟩else none
def Ru (s:az) (l:List aa) (i k:Nat):Rows:=fun id=>if id=⟨1,0⟩then some ⟨false,2,[ah s]⟩else if id=⟨2,0⟩then some ⟨false,1,[[.sl (l.map ab)]]⟩else if id=⟨4,0⟩then some ⟨false,2,[[.int .i64 (i:Int),.int .i64 (k:Int)]]⟩else none
def SH (s:az) (l:List aa) (i k:Nat) (d:Int):Env:=cj [.agg (ah s),.agg [.sl (l.map ab)],.ptr ⟨1,0⟩ 0 0,.ptr ⟨2,0⟩ 0 0,.bj,.ptr ⟨3,0⟩ 0 0,.ptr ⟨4,0⟩ 0 0,.int .i64 d,.undef,.agg [.sl (l.map ab)],.fn 257 [.ptr ⟨5,0⟩ 0 0],.agg [.int .i64 (i:Int),.int .i64 (k:Int)],.int .i64 d]
theorem H0 {P:Program} {W:World} {D:Nat->Prop} {ι:Names} {B:vz} {cells:Array Value} {T:TypeId} {cs:List AV} (hk:B.k=none) (hb:W.heap[B.b]? =some (.cells cells T (0,0))) (hC:cells.size=B.C) (hz:B.sz=cs.length) (hl:cs.length=cells.size) (hf:∀a∈cs,a.cell=true) (hr:∀(j:Nat) (a:AV),cs[j]? =some a->∃v,cells[j]? =some v/\du P W D ι a v):iM P W D ι B ⟨false,cs.length,[cs]⟩:=
 lV.obj ⟨hz,⟨cells,T,hb,hC⟩,by simp;omega,fun c hc=>by simp at hc;rw[hc],fun c hc=>by simp at hc;rw[hc];exact hf,fun i j c a hi hj=>by
  match i,hi with
  |0,hi=>
   simp at hi;subst hi
   obtain⟨v,h1,h2⟩:=hr j a hj
   exact⟨v,by simp[World.cell?,hb,h1],h2⟩
  |i+1,hi=>simp at hi⟩ hk
theorem Ni:(Tryz.prog.info? 266).map (fun i=>(i.zero,i.size,i.bytes))=some (some (.agg #[.int .i64 0,.int .i64 0,.int .i64 0]),3,24):=by kernel_rfl
end Go.Proofs.YtainmfbpilopaaaGreatDoor.V

namespace Go.Proofs.YtainmfbpilopaaaGreatDoor.V
open Go.RowKit Go.Shelf
attribute [local go_sem] Oper.semAt_some
attribute [local irreducible] ea wpOps fB Call
theorem Mj (s:az) (l:List aa) (hF:l9 s) (hA:gx s l) (w:World) (Ag At:Option Addr) (ng cg nt ct:Nat) (vS:Value) (hT:lr Tryz.prog w (fun b=>b<w.heap.size) (.agg (ah s)) (.agg #[.slice Ag ng cg,.slice At nt ct])) (hP:rK w vS l):
  CallsIn Fence.wide 5 Tryz.prog 173 #[.agg #[.slice Ag ng cg,.slice At nt ct],.agg #[vS]] w fun e W'=>∃v,e=.returned v/\W'.ownsRow w.heap.size 266 3 v (dg s l).length (Pt (dg s l))/\(v=.slice none 0 0↔dg s l=[])/\Below w.heap.size w W':=by
 obtain⟨A,cp,rfl,_,_⟩:=hP.sl
 obtain⟨i0,hi,Pe,DY,rV⟩:=info_parts Ni
 refine callsIn_of_wp_marks Tryz.func173 rfl trivial ?_ rfl
 simp only[Tryz.ntmps173,List.size_toArray,List.length_cons,List.length_nil,Nat.reduceAdd,Nat.reduceSub,Array.replicate_succ,Array.replicate_zero,List.push_toArray,List.append_toArray,List.nil_append,List.cons_append]
 gi_wp2_with (refine⟨trivial,?_⟩;gi_at_call 219;refine(Dm _ _ _).mono ?_;rintro e w' ⟨rfl,rfl⟩)
 have bT:((w.alloc (.cells #[.slice Ag ng cg,.slice At nt ct] 28)).heap[w.heap.size]?)=some (.cells #[.slice Ag ng cg,.slice At nt ct] 28 (0,0)):=World.alloc_heap_new _ _
 obtain⟨w1,zb⟩:∃w1,w.alloc (.cells #[.slice Ag ng cg,.slice At nt ct] 28)=w1:=⟨_,rfl⟩
 have V5:w1.heap.size=w.heap.size+1:=by rw[<-zb];simp
 have DR:Below w.heap.size w w1:=by rw[<-zb];exact(Below.refl _ w).alloc (Nat.le_refl _) _
 rw[zb]at bT ⊢
 clear zb
 have bA:=Boxed.new w1 31 (.slice A l.length cp)
 have bO:=Boxed.new (w1.alloc (.cells #[.slice A l.length cp] 31)) 217 (.slice none 0 0)
 have bN:=Boxed.new ((w1.alloc (.cells #[.slice A l.length cp] 31)).alloc (.cells #[.slice none 0 0] 217)) 31 (.slice A l.length cp)
 replace bA:=(bA.alloc (.cells #[.slice none 0 0] 217)).alloc (.cells #[.slice A l.length cp] 31)
 replace bO:=bO.alloc (.cells #[.slice A l.length cp] 31)
 simp only[World.size_alloc,V5]at bA bO bN
 have lx:Below w1.heap.size w1 (((w1.alloc (.cells #[.slice A l.length cp] 31)).alloc (.cells #[.slice none 0 0] 217)).alloc (.cells #[.slice A l.length cp] 31)):=(((Below.refl _ w1).alloc (Nat.le_refl _) _).alloc (by simp) _).alloc (by simp;omega) _
 have ew:(((w1.alloc (.cells #[.slice A l.length cp] 31)).alloc (.cells #[.slice none 0 0] 217)).alloc (.cells #[.slice A l.length cp] 31)).heap.size=w.heap.size+4:=by simp;omega
 obtain⟨W0,WS⟩:∃W0,((w1.alloc (.cells #[.slice A l.length cp] 31)).alloc (.cells #[.slice none 0 0] 217)).alloc (.cells #[.slice A l.length cp] 31)=W0:=⟨_,rfl⟩
 rw[WS]at bA bO bN lx ew ⊢
 clear WS
 have EV:Below w.heap.size w W0:=DR.trans (lx.mono ae)
 replace bT:=(lx.block w.heap.size ae).trans bT
 have hP0:rK W0 (.slice A l.length cp) l:=hP.below EV
 have kl:=XO hP
 have iz:=yu (s:=s) hA.1
 refine wpIn_rangeFunc_ownH (n:=5) rfl ae (gf:=257) (lb:= #[.pointer (some ⟨w.heap.size+1+1+1,0,none⟩)]) rfl trivial (enters_of Tryz.func257 (by kernel_rfl) rfl)
  (NC l hA.1 (w.heap.size+1+1+1) (5-1) ae (.slice A l.length cp) (je w.heap.size) kl W0 bN hP0) je.trans (je.b ae) (Below.refl _ _) (fun _=>rfl)
  (fun pre W=>((∃v,Boxed W (w.heap.size+1+1) 217 v/\W.ownsRow w.heap.size 266 3 v (pD s l pre).length (Pt (pD s l pre))/\(v=.slice none 0 0↔pD s l pre=[]))/\(Boxed W (w.heap.size+1) 31 (.slice A l.length cp)/\W.heap[w.heap.size]? =some (.cells #[.slice Ag ng cg,.slice At nt ct] 28 (0,0))))/\Below w.heap.size w W)
  (fun _ _ _=>False)
  (OwnFrom.and (OwnFrom.and (Own.from (holdsRow_own w.heap.size (w.heap.size+1+1) 217 266 3 (fun pre=>(pD s l pre).length) (fun pre=>Pt (pD s l pre)) (fun pre v=>v=.slice none 0 0↔pD s l pre=[])) _) (OwnFrom.and (Own.from (boxed_own _ _ _) _) (Own.from (EZ _ _ _ _) _))) (ownFrom_below (Nat.le_refl _) ae))
  (fun _ _ _ _ _ hs _ _=>hs)
  ⟨⟨⟨_,bO,World.ownsRow_nil _ _ _ _,by simp[pD]⟩,bA,bT⟩,EV⟩
  (fun x a' W=>∃Bx,w.heap.size+1+1<Bx/\W.heap[Bx]? =some (.cells #[.int .i64 (x.1.1:Int),.int .i64 (x.1.2.1:Int)] 272 (0,0))/\a'={tmps:= #[.agg #[.slice Ag ng cg,.slice At nt ct],.agg #[.slice A l.length cp],.pointer (some ⟨w.heap.size,0,none⟩),.pointer (some ⟨w.heap.size+1,0,none⟩),.slice none 0 0,.pointer (some ⟨w.heap.size+1+1,0,none⟩),.pointer (some ⟨Bx,0,none⟩),.int .i64 x.1.2.2,undef,.agg #[.slice A l.length cp],.func (.func 257) #[] #[.pointer (some ⟨w.heap.size+1+1+1,0,none⟩)],.agg #[.int .i64 (x.1.1:Int),.int .i64 (x.1.2.1:Int)],.int .i64 x.1.2.2,undef,undef,undef,undef,undef,undef,undef,undef,undef,undef,undef,undef,undef,undef,undef,undef,undef,undef,undef,undef,undef,undef,undef,undef,undef,undef,undef,undef,undef],defers:=[]})
  (fun x a' _ X Y row hs hg hr=>by obtain⟨Bx,h1,h2,h3⟩:=hs;exact⟨Bx,h1,EZ Bx _ _ _ () X Y row h2 hg (fun r e=>(hr r e).2),h3⟩)
  ?assign ?body ?done ?stop
 case assign=>
  rintro q pre ⟨⟨x0,x1,x2⟩,hx⟩ W K ⟨⟨⟨v,hv,fE,hnil⟩,bA1,bT1⟩,hB⟩ hK
  simp only[IJ]
  gi_wp2
  exact hK _ _ ((KeepsOthers.alloc _ _).from _) (je.of ((Below.refl _ W).alloc (Nat.le_refl _) _)) ⟨⟨⟨v,hv.alloc _,fE.alloc _,hnil⟩,bA1.alloc _,(Below.heap_alloc _ _ _ (Array.getElem?_eq_some_iff.1 bT1).1).trans bT1⟩,hB.alloc hB.size _⟩ ⟨W.heap.size,hv.lt,World.alloc_heap_new _ _,rfl⟩
 case body=>
  rintro q pre ⟨⟨x0,x1,x2⟩,hx⟩ a' W hq hqr ⟨⟨⟨v,hv,fE,hnil⟩,bA1,bT1⟩,hB⟩ ⟨Bx,hBx,bX,rfl⟩ eG
  obtain⟨Ks,GC,pU,-⟩:=id hx
  simp only at Ks GC pU bX
  obtain⟨A',c',e',_,hc⟩:=(hP.below hB).sl
  cases e'
  have ek:∃b o,A=some ⟨b,o,none⟩/\W.cell? ⟨b,o+x0*3+2,none⟩=some (.int .i64 (aA l x0).aY)/\W.cell? ⟨b,o+x1*3+2,none⟩=some (.int .i64 (aA l x1).aY):=by
   rcases hc with rfl|⟨b,o,rfl,nf⟩
   ·simp at Ks
   ·exact⟨b,o,rfl,by rw[Nat.add_assoc];exact(nf x0 Ks).2.2,by rw[Nat.add_assoc];exact(nf x1 GC).2.2⟩
  obtain⟨b,o,rfl,cP0,cP1⟩:=ek
  have cT0:W.cell? ⟨w.heap.size,0,none⟩=some (.slice Ag ng cg):=by simp[World.cell?,bT1]
  have cT1:W.cell? ⟨w.heap.size,1,none⟩=some (.slice At nt ct):=by simp[World.cell?,bT1]
  have ZT:W.cell? ⟨Bx,0,none⟩=some (.int .i64 (x0:Int)):=by simp[World.cell?,bX]
  have ZU:W.cell? ⟨Bx,1,none⟩=some (.int .i64 (x1:Int)):=by simp[World.cell?,bX]
  have cA:=bA1.cell
  have dP0:W.drew.cell? ⟨b,o+x0*3+2,none⟩=some (.int .i64 (aA l x0).aY):=cP0
  have dP1:W.drew.cell? ⟨b,o+x1*3+2,none⟩=some (.int .i64 (aA l x1).aY):=cP1
  have dT0:W.drew.cell? ⟨w.heap.size,0,none⟩=some (.slice Ag ng cg):=cT0
  have dT1:W.drew.cell? ⟨w.heap.size,1,none⟩=some (.slice At nt ct):=cT1
  have dX0:W.drew.cell? ⟨Bx,0,none⟩=some (.int .i64 (x0:Int)):=ZT
  have dX1:W.drew.cell? ⟨Bx,1,none⟩=some (.int .i64 (x1:Int)):=ZU
  have dA:W.drew.cell? ⟨w.heap.size+1,0,none⟩=some (.slice (some ⟨b,o,none⟩) l.length cp):=cA
  have rR:∀i,i<l.length->aA l i∈l:=fun i hi=>by
   unfold aA
   rw[List.getD_eq_getElem?_getD,List.getElem?_eq_getElem hi]
   exact List.getElem_mem hi
  have hmix:=mixed
  have YT:=hA.1.pL
  have hbv:=Mi s hF (aA l x0).aY x2 (aA l x1).aY (hA.2 _ (rR x0 Ks)) (hA.2 _ (rR x1 GC)) (jU ae)
  have hTW:lr Tryz.prog W (fun b=>b<w.heap.size) (.agg (ah s)) (.agg #[.slice Ag ng cg,.slice At nt ct]):=hT.frame (fun b hb=>hB.block b hb) (fun _ h=>h)
  have hAW:lr Tryz.prog W (fun b=>b<w.heap.size) (.sl (l.map ab)) (.slice (some ⟨b,o,none⟩) l.length cp):=hP.eX.frame (fun b hb=>hB.block b hb) (fun _ h=>h)
  obtain⟨fT,hT0,hT1⟩:∃f:Nat->Value,(∀j,j<(ah s).length->(#[Value.slice Ag ng cg,.slice At nt ct])[j]? =some (f j))/\∀j a,(ah s)[j]? =some a->lr Tryz.prog W (fun b=>b<w.heap.size) a (f j):=by
   cases hTW with
   |agg _ _ f _ _ h3 h4=>exact⟨f,h3,h4⟩
  have ed:St Tryz.prog W.heap.size 42 (fun b=>b<w.heap.size) (Mm w.heap.size Bx) (SH s l x0 x1 x2) ⟨Ru s l x0 x1,1⟩ {tmps:= #[.agg #[.slice Ag ng cg,.slice At nt ct],.agg #[.slice (some ⟨b,o,none⟩) l.length cp],.pointer (some ⟨w.heap.size,0,none⟩),.pointer (some ⟨w.heap.size+1,0,none⟩),.slice none 0 0,.pointer (some ⟨w.heap.size+1+1,0,none⟩),.pointer (some ⟨Bx,0,none⟩),.int .i64 x2,undef,.agg #[.slice (some ⟨b,o,none⟩) l.length cp],.func (.func 257) #[] #[.pointer (some ⟨w.heap.size+1+1+1,0,none⟩)],.agg #[.int .i64 (x0:Int),.int .i64 (x1:Int)],.int .i64 x2,undef,undef,undef,undef,undef,undef,undef,undef,undef,undef,undef,undef,undef,undef,undef,undef,undef,undef,undef,undef,undef,undef,undef,undef,undef,undef,undef,undef,undef],defers:=[]} W:=by
   have n1:(Mm w.heap.size Bx) ⟨1,0⟩=some ⟨w.heap.size,2,2,none⟩:=rfl
   have n2:(Mm w.heap.size Bx) ⟨2,0⟩=some ⟨w.heap.size+1,1,1,none⟩:=rfl
   have n3:(Mm w.heap.size Bx) ⟨3,0⟩=some ⟨w.heap.size+1+1,1,1,none⟩:=rfl
   have n4:(Mm w.heap.size Bx) ⟨4,0⟩=some ⟨Bx,2,2,none⟩:=rfl
   have n5:(Mm w.heap.size Bx) ⟨5,0⟩=some ⟨w.heap.size+1+1+1,1,1,none⟩:=rfl
   have rp:∀(id:Id) (B:vz),(Mm w.heap.size Bx) id=some B->B.k=none->du Tryz.prog W (fun b=>b<w.heap.size) (Mm w.heap.size Bx) (.ptr id 0 0) (.pointer (some ⟨B.b,0,none⟩)):=fun id B h hk=>by
    have:=du.ptr (P:=Tryz.prog) (w:=W) (D:=fun b=>b<w.heap.size) id 0 0 B h hk
    simpa using this
   have ri:∀n:Int,du Tryz.prog W (fun b=>b<w.heap.size) (Mm w.heap.size Bx) (.int .i64 n) (.int .i64 n):=fun n=>.eX _ _ (.int _ _)
   have hA1:lr Tryz.prog W (fun b=>b<w.heap.size) (.agg [.sl (l.map ab)]) (.agg #[.slice (some ⟨b,o,none⟩) l.length cp]):=.agg _ _ (fun _=>.slice (some ⟨b,o,none⟩) l.length cp) rfl (fun a ha=>by simp at ha;rw[ha];rfl) (fun j hj=>by match j,hj with|0,_=>rfl|j+1,hj=>simp at hj) (fun j a ha=>by match j,ha with|0,ha=>simp at ha;subst ha;exact hAW|j+1,ha=>simp at ha)
   refine⟨⟨Nat.le_refl _,fun b hb=>Nat.lt_of_lt_of_le hb hB.size,fun id r hg=>?_,fun id lG r r' B B' h _ hw=>?_⟩,fun id hid=>?_,fun t=>?_,rfl⟩
   ·replace hg:Ru s l x0 x1 id=some r:=hg
    unfold Ru at hg
    split at hg
    ·rename_i e;subst e;injection hg with hg;subst hg
     exact⟨_,n1,H0 (cs:=ah s) rfl bT1 rfl rfl rfl (fun a ha=>by simp[ah]at ha;rcases ha with rfl|rfl<;>rfl) (fun j a ha=>⟨_,hT0 j (List.getElem?_eq_some_iff.1 ha).1,.eX _ _ (hT1 j a ha)⟩),fun h=>(by cases h),fun h=>(by cases h)⟩
    ·split at hg
     ·rename_i e;subst e;injection hg with hg;subst hg
      exact⟨_,n2,H0 (cs:=[.sl (l.map ab)]) rfl bA1 rfl rfl rfl (fun a ha=>by simp at ha;rw[ha];rfl) (fun j a ha=>by match j,ha with|0,ha=>simp at ha;subst ha;exact⟨_,rfl,.eX _ _ hAW⟩|j+1,ha=>simp at ha),fun h=>(by cases h),fun h=>(by cases h)⟩
     ·split at hg
      ·rename_i e;subst e;injection hg with hg;subst hg
       exact⟨_,n4,H0 (cs:=[.int .i64 (x0:Int),.int .i64 (x1:Int)]) rfl bX rfl rfl rfl (fun a ha=>by simp at ha;rcases ha with rfl|rfl<;>rfl) (fun j a ha=>by match j,ha with|0,ha=>simp at ha;subst ha;exact⟨_,rfl,ri _⟩|1,ha=>simp at ha;subst ha;exact⟨_,rfl,ri _⟩|j+2,ha=>simp at ha),fun h=>(by cases h),fun h=>(by cases h)⟩
      ·cases hg
   ·exfalso
    replace h:Ru s l x0 x1 id=some r:=h
    unfold Ru at h
    split at h
    ·injection h with h;subst h;cases hw
    ·split at h
     ·injection h with h;subst h;cases hw
     ·split at h
      ·injection h with h;subst h;cases hw
      ·cases h
   ·left
    unfold Mm at hid
    repeat' (split at hid)
    all_goals first|(rename_i e;subst e;exact Nat.zero_lt_one)|exact absurd rfl hid
   ·match t with
    |0=>exact .eX _ _ hTW
    |1=>exact .eX _ _ hA1
    |2=>exact rp _ _ n1 rfl
    |3=>exact rp _ _ n2 rfl
    |4=>exact .eX _ _ .bj
    |5=>exact rp _ _ n3 rfl
    |6=>exact rp _ _ n4 rfl
    |7=>exact ri _
    |8=>exact du.undef
    |9=>exact .eX _ _ hA1
    |10=>exact .fn _ _ _ (fun _=>.pointer (some ⟨w.heap.size+1+1+1,0,none⟩)) (by kernel_rfl) rfl (fun j hj=>by match j,hj with|0,_=>rfl|j+1,hj=>simp at hj) (fun j a ha=>by match j,ha with|0,ha=>simp at ha;subst ha;exact rp _ _ n5 rfl|j+1,ha=>simp at ha)
    |11=>exact .agg _ _ (fun j=>if j=0 then .int .i64 (x0:Int)else .int .i64 (x1:Int)) rfl (fun a ha=>by simp at ha;rcases ha with rfl|rfl<;>rfl) (fun j hj=>by match j,hj with|0,_=>rfl|1,_=>rfl|j+2,hj=>simp at hj;omega) (fun j a ha=>by match j,ha with|0,ha=>simp at ha;subst ha;exact ri _|1,ha=>simp at ha;subst ha;exact ri _|j+2,ha=>simp at ha)
    |12=>exact ri _
    |13=>exact du.undef
    |14=>exact du.undef
    |15=>exact du.undef
    |16=>exact du.undef
    |17=>exact du.undef
    |18=>exact du.undef
    |19=>exact du.undef
    |20=>exact du.undef
    |21=>exact du.undef
    |22=>exact du.undef
    |23=>exact du.undef
    |24=>exact du.undef
    |25=>exact du.undef
    |26=>exact du.undef
    |27=>exact du.undef
    |28=>exact du.undef
    |29=>exact du.undef
    |30=>exact du.undef
    |31=>exact du.undef
    |32=>exact du.undef
    |33=>exact du.undef
    |34=>exact du.undef
    |35=>exact du.undef
    |36=>exact du.undef
    |37=>exact du.undef
    |38=>exact du.undef
    |39=>exact du.undef
    |40=>exact du.undef
    |41=>exact du.undef
    |t+42=>exact du.undef
  have hV:wpOps (Call Tryz.prog) true ?vl (fun e _=>e 5=.ptr ⟨3,0⟩ 0 0/\e 6=.ptr ⟨4,0⟩ 0 0/\e 8=.int .i64 (gh s (aA l x0).aY x2 (aA l x1).aY)) (SH s l x0 x1 x2) ⟨Ru s l x0 x1,1⟩:= ?hv
  gi_wp2
  refine Dt mixed (rrE (nt:=42) (site0:=173005000)) (NJ (by kernel_rfl)) (mQ (fun _ _ _ _ h=>iP mixed h) mi (fun _ _ h=>h) _ _ _ hV) ed ?_
  rintro e1 σ1 ⟨tm,df⟩ w3 D1 ι1 ⟨h5,h6,h8⟩ T1 tO Hs
  case hv=>
   refine HS ?_
   have e0:=fM Ks
   have e1:=fM GC
   (have zF:=tw @e0 (tw @e1 (tw @SH.eq_1 (tw @Ru.eq_1 (tw @ab.eq_1 @ah.eq_1))));(repeat(first|((repeat(revert N;apply Pn.out));refine wk zF ?_;(repeat(apply Pn.mk;intro N hN)))|((try apply Or.inl);refine⟨_,aw.x (hbv) (sd zF),?_⟩;apply hN;clear hN N)));try clear zF)
   exact⟨sd @SH.eq_1,sd @SH.eq_1,sd @SH.eq_1⟩
  ·have EW:Below W.heap.size W w3:=T1.below
   have ly:∀id B,Mm w.heap.size Bx id=some B->ι1 id=some B:=T1.names
   have p5:tm.getD 5 undef=.pointer (some ⟨w.heap.size+1+1,0,none⟩):=by
    have g:=tO.env 5
    rw[h5]at g
    obtain⟨B,e,hB,_⟩:=jc g
    have h:=ly ⟨3,0⟩ ⟨w.heap.size+1+1,1,1,none⟩ rfl
    rw[h]at hB;injection hB with hB;subst hB
    simpa using e
   have p6:tm.getD 6 undef=.pointer (some ⟨Bx,0,none⟩):=by
    have g:=tO.env 6
    rw[h6]at g
    obtain⟨B,e,hB,_⟩:=jc g
    have h:=ly ⟨4,0⟩ ⟨Bx,2,2,none⟩ rfl
    rw[h]at hB;injection hB with hB;subst hB
    simpa using e
   have p8:tm.getD 8 undef=.int .i64 (gh s (aA l x0).aY x2 (aA l x1).aY):=by
    have g:=tO.env 8
    rw[h8]at g
    exact eb g
   have ew:=tO.size
   obtain⟨tl⟩:=tm
   obtain⟨f,GB,hf⟩:∃f:Nat->Value,tl=[f 0,f 1,f 2,f 3,f 4,f 5,f 6,f 7,f 8,f 9,f 10,f 11,f 12,f 13,f 14,f 15,f 16,f 17,f 18,f 19,f 20,f 21,f 22,f 23,f 24,f 25,f 26,f 27,f 28,f 29,f 30,f 31,f 32,f 33,f 34,f 35,f 36,f 37,f 38,f 39,f 40,f 41]/\∀i,f i=(⟨tl⟩:Array Value).getD i undef:=by
    refine⟨fun i=>(⟨tl⟩:Array Value).getD i undef,?_,fun _=>rfl⟩
    have h:=Nx tl undef
    rw[show tl.length=42 from ew]at h
    exact h
   rw[<-hf]at p5 p6 p8
   have hdf':df=[]:=Hs
   subst hdf'
   clear hf tO ed hV
   subst GB
   rw[p5,p6,p8]
   have Zd:=hv.kept (grown_of EW) (by simp)
   have I5:=fE.kept (grown_of EW) (by rcases fE.2 with⟨e,_⟩|⟨_,_,_,e,_⟩<;>rw[e]<;>simp[Value.ownBlock])
   have hc3:=Zd.cell
   have Xo:w.heap.size<=w3.heap.size:=Nat.le_trans hB.size EW.size
   have eX0:w3.cell? ⟨Bx,0,none⟩=some (.int .i64 (x0:Int)):=(EW.cell (p:=⟨Bx,0,none⟩) (Array.getElem?_eq_some_iff.1 bX).1).trans ZT
   have eX1:w3.cell? ⟨Bx,1,none⟩=some (.int .i64 (x1:Int)):=(EW.cell (p:=⟨Bx,1,none⟩) (Array.getElem?_eq_some_iff.1 bX).1).trans ZU
   have lU:(pD s l pre).length<=2097152:=by
    have h1:=Mg s l pre
    have h2:=FR l l.length
    omega
   have hKF:KeepsFrom (w.heap.size+4) W w3:=⟨EW.size,fun k o _ hk _=>(EW.block k (Array.getElem?_eq_some_iff.1 hk).1).trans hk⟩
   have hKT:je w.heap.size W w3:=je.of EW
   have ZO:w3.heap[w.heap.size+1]? = _:=(EW.block _ bA1.lt).trans bA1
   have ZQ:=(EW.block _ (Array.getElem?_eq_some_iff.1 bT1).1).trans bT1
   by_cases kH:0<gh s (aA l x0).aY x2 (aA l x1).aY
   ·have IY:pD s l (pre++[⟨(x0,x1,x2),hx⟩])=pD s l pre++[⟨x0,x1,gh s (aA l x0).aY x2 (aA l x1).aY⟩]:=by
     rw[Bi];simp only[Cy,if_pos kH]
    gi_wp2_with (gi_at_builtin;refine wpListIn_append_own _ rfl _ _ 217 rfl w.heap.size 266 i0 (.agg #[.int .i64 0,.int .i64 0,.int .i64 0]) 3 24 (by kernel_rfl) hi Pe DY rV rfl (by decide) _ _ _ rfl (I5.alloc _) ⟨w3.heap.size,0,none⟩ 1 1 [.int .i64 (x0:Int),.int .i64 (x1:Int),.int .i64 (gh s (aA l x0).aY x2 (aA l x1).aY)] rfl rfl (yE _ _ _ _ _) (by simp[Value.oneCell']) (by unfold maxLen;omega) ae (by simp;omega) ?_;intro v' w4 Fb BB _;obtain⟨g',ZV,rfl⟩:=ownsRow_succ Fb;obtain⟨tg,P8,Gx,sr,Hq⟩:=Zd.appended (by decide) I5 Xo ae Fb BB;have O8:=je.app Zd I5 BB Hq;have sq:=tg.cell;have hf1:=tg.frozen)
    exact⟨hKF.trans (sr.from _),hKT.trans O8,⟨⟨_,P8,by rw[IY,Mf,List.length_append];exact Gx,by rw[IY];simp⟩,(O8.2.1 _ _ _ _ ZO (by decide) (by decide)).trans ZO,(O8.2.1 _ _ _ _ ZQ (by decide) (by decide)).trans ZQ⟩,hB.trans ((EW.mono hB.size).trans Hq)⟩
   ·have IY:pD s l (pre++[⟨(x0,x1,x2),hx⟩])=pD s l pre:=by
     rw[Bi];simp only[Cy,if_neg kH,List.append_nil]
    gi_wp2
    exact⟨hKF,hKT,⟨⟨v,Zd,by rw[IY];exact I5,by rw[IY];exact hnil⟩,ZO,ZQ⟩,hB.trans (EW.mono hB.size)⟩
 case done=>
  rintro D ys W hD GD ⟨⟨⟨v,hv,fE,hnil⟩,_⟩,hB⟩ hK
  have hc:=hv.cell
  have O0:pD s l ys=dg s l:=by rw[Ml,<-GD];rfl
  rw[O0]at fE hnil
  gi_wp2
  refine⟨by simp,.inl ⟨_,_,rfl,run_takeDeferred hK,?_⟩⟩
  exact⟨_,results_tmp rfl _ _ _,v,rfl,ownsRow_putObj fE _ hK rfl,hnil,hB.trans (belowK_b (w:=w) (Nat.le_refl _) W D _ _ ae hK rfl rfl)⟩
 case stop=>
  rintro D c pre W _ _ h _
  exact h.elim
end Go.Proofs.YtainmfbpilopaaaGreatDoor.V

namespace Go.Proofs.YtainmfbpilopaaaGreatDoor.V
open Go.RowKit Go.Shelf
theorem IE:∀{bs:List PB} {i j:Nat} {b:PB},bs[i]? =some b->j<3->(Pt bs)[i*3+j]? =([.int .i64 b.a,.int .i64 b.b,.int .i64 b.s]:List Value)[j]?
 |c::bs,0,j,b,h,hj=>by
  simp at h;subst h
  simp only[Pt,List.flatMap_cons,Nat.zero_mul,Nat.zero_add]
  rw[List.getElem?_append_left (by simpa using hj)]
 |c::bs,i+1,j,b,h,hj=>by
  simp only[List.getElem?_cons_succ]at h
  have:=IE (bs:=bs) (i:=i) (j:=j) h hj
  simp only[Pt,List.flatMap_cons]at this ⊢
  rw[List.getElem?_append_right (by simp;omega),<-this]
  congr 1
  simp;omega
theorem uu {P:Program} {w:World} {D:Nat->Prop} {rows:List (List AV)} {v:Value} (h:lr P w D (.sl rows) v):∃A n c,v=.slice A n c:=by
 cases h with
 |D6 a c _=>exact⟨_,_,_,rfl⟩
 |sl=>exact⟨_,_,_,rfl⟩
theorem tG {P:Program} {w:World} {D:Nat->Prop} {ι:Names} {rows:List (List AV)} {v:Value} (h:du P w D ι (.sl rows) v):lr P w D (.sl rows) v:=by
 cases h with
 |eX _ _ h=>exact h
theorem QI {P:Program} {w:World} {D:Nat->Prop} {l:List aa} {v:Value} (h:lr P w D (.sl (l.map ab)) v):rK w v l:=by
 generalize hr:l.map ab=rows at h
 cases h with
 |D6 a c hc=>
  have:l=[]:=by simpa using hr
  subst this
  exact⟨a,c,rfl,⟨Nat.zero_le _,hc⟩,.inl rfl⟩
 |sl _ b o n c sz vs h1 h2 h3 h4 h5 h5' h6 h7=>
  have hn:n=l.length:=by rw[<-h1,<-hr];simp
  subst hn
  refine⟨some ⟨b,o,none⟩,c,rfl,⟨h2,h3⟩,?_⟩
  by_cases hl:l=[]
  ·exact .inl hl
  refine .inr ⟨b,o,rfl,fun i hi=>?_⟩
  have hg:rows[i]? =some (ab (aA l i)):=by rw[<-hr];exact fM hi
  have ew:sz=3:=by rw[<-h5 _ (List.mem_of_getElem? hg)];rfl
  subst ew
  have k:∀(j:Nat) (x:Int),(ab (aA l i))[j]? =some (.int .i64 x)->j<3->w.cell? ⟨b,o+(i*3+j),none⟩=some (.int .i64 x):=fun j x hj h3=>by
   have:=h7 i j _ _ hg hj
   rw[h6 i j hi h3,eb (.eX (ι:=fun _=>none) _ _ this)]
  exact⟨k 0 _ rfl ae,k 1 _ rfl ae,k 2 _ rfl ae⟩
theorem CA:GF:=by
 intro s l hS hA n
 refine fG ?_
 intro hs D ι w vs S U A
 obtain⟨u0,Zc,r0⟩:=A.2 0 _ rfl
 obtain⟨u1,XC,r1⟩:=A.2 1 _ rfl
 have eG:∀b,D b->b<w.heap.size:=S.dead
 obtain⟨v0,f0,rfl,Pe,_,YR,hr0⟩:=jo r0
 obtain⟨v1,f1,rfl,DY,_,hf1,TJ⟩:=jo r1
 have g0:=tG (hr0 0 _ rfl)
 have g1:=tG (hr0 1 _ rfl)
 have a0:=tG (TJ 0 _ rfl)
 obtain⟨Ag,ng,cg,eg⟩:=uu g0
 obtain⟨At,nt,ct,et⟩:=uu g1
 have e0:v0= #[.slice Ag ng cg,.slice At nt ct]:=by
  obtain⟨vl⟩:=v0
  have q0:=YR 0 (by simp[ah])
  have q1:=YR 1 (by simp[ah])
  rw[eg]at q0;rw[et]at q1
  match vl,Pe with
  |[a,b],_=>simp at q0 q1;rw[q0,q1]
 have e1:v1= #[f1 0]:=by
  obtain⟨vl⟩:=v1
  have q0:=hf1 0 (by simp)
  match vl,DY with
  |[a],_=>simp at q0;rw[q0]
 subst e0 e1
 have evs:vs= #[.agg #[.slice Ag ng cg,.slice At nt ct],.agg #[f1 0]]:=by
  obtain⟨vl⟩:=vs
  have hz:=A.1
  match vl,hz with
  |[a,b],_=>simp at Zc XC;rw[Zc,XC]
 subst evs
 have up:∀{a v},lr Tryz.prog w D a v->lr Tryz.prog w (fun b=>b<w.heap.size) a v:=fun h=>h.frame (fun _ _=>rfl) eG
 have hT:lr Tryz.prog w (fun b=>b<w.heap.size) (.agg (ah s)) (.agg #[.slice Ag ng cg,.slice At nt ct]):=
  .agg _ _ f0 Pe (fun a ha=>by simp[ah]at ha;rcases ha with rfl|rfl<;>rfl) YR (fun j a ha=>by
   match j,ha with
   |0,ha=>simp[ah]at ha;subst ha;exact up g0
   |1,ha=>simp[ah]at ha;subst ha;exact up g1
   |j+2,ha=>simp[ah]at ha)
 refine(callsIn_wide.1 (Mj s l hS.form hA w Ag At ng cg nt ct (f1 0) hT (QI a0))).mono ?_
 rintro e W' ⟨v,rfl,⟨hl,hown⟩,hnil,hB⟩
 have S':ig Tryz.prog hs D ι (fun _=>none) W':=S.stay (fun b hb=>hB.block b hb) hB.size (fun _ h=>h) (fun b hb=>Nat.lt_of_lt_of_le (eG b hb) hB.size) (fun _ h=>.inl h) (fun _ _ h=>h)
 have T:Step hs D ι w D ι W':=Step.stay S (fun b hb=>hB.block b hb) hB.size hB.os hB.tape hB.output (fun _ h=>h) (fun _ h=>.inl h) (fun _ _ h=>h)
 rcases hown with⟨rfl,h0⟩|⟨gb,cap,cur,rfl,Xe,hblk,hle,yY,ek,oN⟩
 ·have DT:dg s l=[]:=hnil.1 rfl
  exact⟨.bj,_,n,D,ι,_,rfl,⟨.bj,jH _ _,by rw[DT];rfl⟩,T,S',U,Nat.le_refl _,.eX _ _ .bj⟩
 ·have DT:dg s l≠[]:=fun h=>by have:=hnil.2 h;cases this
  have iO:ι ⟨0,n⟩=none:=fresh U (fun h=>h)
  have jd:∀{a v},du Tryz.prog W' D ι a v->du Tryz.prog W' D (lJ ι ⟨0,n⟩ ⟨gb,3,cap*3,none⟩) a v:=fun h=>h.frame (fun _ _=>rfl) (fun _ h=>h) (fJ iO)
  have hR:iM Tryz.prog W' D (lJ ι ⟨0,n⟩ ⟨gb,3,cap*3,none⟩) ⟨gb,3,cap*3,none⟩ ⟨true,3,(dg s l).map di⟩:=by
   refine lV.obj ⟨rfl,⟨cur,_,hblk,ek⟩,?_,fun cs hc=>?_,fun cs hc a ha=>?_,fun i j cs a hi hj=>?_⟩ rfl
   ·simp only[List.length_map];exact Nat.mul_le_mul_right 3 hle
   ·obtain⟨b,_,rfl⟩:=List.mem_map.1 hc;rfl
   ·obtain⟨b,_,rfl⟩:=List.mem_map.1 hc
    simp[di]at ha
    rcases ha with rfl|rfl|rfl<;>rfl
   ·rw[List.getElem?_map]at hi
    simp only[Option.map_eq_some_iff]at hi
    obtain⟨b,hb,rfl⟩:=hi
    have hj3:j<3:=by have:=(List.getElem?_eq_some_iff.1 hj).1;simpa[di]using this
    have nR:=(List.getElem?_eq_some_iff.1 hb).1
    have hg:=IE hb hj3
    rw[<-oN,List.getElem?_take,if_pos ae]at hg
    have key:∀x:Value,([.int .i64 b.a,.int .i64 b.b,.int .i64 b.s]:List Value)[j]? =some x->W'.cell? ⟨gb,i*3+j,none⟩=some x:=fun x hx=>by
     rw[hx]at hg
     have e:W'.cell? ⟨gb,i*3+j,none⟩=cur[i*3+j]? :=by
      unfold World.cell?
      rw[show W'.heap[(⟨gb,i*3+j,none⟩:Addr).block]? = _ from hblk]
      rfl
     rw[e,<-Array.getElem?_toList];exact hg
    match j,hj with
    |0,hj=>simp[di]at hj;subst hj;exact⟨_,key _ rfl,.eX _ _ (.int _ _)⟩
    |1,hj=>simp[di]at hj;subst hj;exact⟨_,key _ rfl,.eX _ _ (.int _ _)⟩
    |2,hj=>simp[di]at hj;subst hj;exact⟨_,key _ rfl,.eX _ _ (.int _ _)⟩
    |j+3,hj=>simp[di]at hj
  have S2:=ig.add (r:=⟨true,3,(dg s l).map di⟩) S S' iO Xe hR
  refine⟨.own ⟨0,n⟩ 0 (dg s l).length,bI (fun _=>none) ⟨0,n⟩ ⟨true,3,(dg s l).map di⟩,n+1,D,lJ ι ⟨0,n⟩ ⟨gb,3,cap*3,none⟩,_,rfl,⟨Dy (dg s l),?_,rfl⟩,T.trans (Step.stay S' (fun _ _=>rfl) (Nat.le_refl _) rfl rfl rfl (fun _ h=>h) (fun _ h=>.inl h) (fJ iO)),S2,U.upd.next,Nat.le_succ _,.own _ _ _ _ _ _ (eK _ _ _) rfl hle (.inr (by simp)) (by simp) yY⟩
  unfold Dy
  rw[if_neg DT]
  have hg:(bI (fun _=>none) (⟨0,n⟩:Id) ⟨true,3,(dg s l).map di⟩:Rows) ⟨0,n⟩=some ⟨true,3,(dg s l).map di⟩:=by simp[bI]
  have:=eT (n:=5) hg rfl fun b=>IT _ 4 b
  simpa using this
end Go.Proofs.YtainmfbpilopaaaGreatDoor.V

namespace Go.Proofs.YtainmfbpilopaaaGreatDoor.V
open Go.RowKit
attribute [local irreducible] ea wpOps fB Call
theorem CX (s:au) (l:List aa) (hn:im s.aD) (hm:sf s) (hl:l.length<=1048576):aw Tryz.prog 144 [.agg (ck s),.agg [.sl (l.map ab)]] (.int .i64 (if Cr s l then 0 else 1)):=by
 refine aw.body fx rfl fun fD n0=>?_
 clear fD
 have h1:=ns CA s hn hm.s.g hm.s.t hm.s.s hm.a
 have h2:=lL s.aD l hn hm.s.g hm.s.t hm.s.s hl
 cases b1:j8 s
 ·rw[b1]at h1
  rw[ck]at h1 ⊢
  (repeat(first|((repeat(revert N;apply Pn.out));refine wk @Nat.zero_add ?_;(repeat(apply Pn.mk;intro N hN)))|((try apply Or.inl);refine⟨_,aw.x (h1) (sd @Nat.zero_add),?_⟩;apply hN;clear hN N)))
  exact eC (b:=1) (.inl rfl) (sd @Nat.zero_add) (by simp[Cr,b1])
 have gF:rZ s.aD=true:=mM.2 (mN.1 b1).set
 rw[b1]at h1
 rw[gF,Bool.true_and]at h2
 rw[ck]at h1 ⊢
 rw[ah]at h2
 cases b2:sL s.aD l
 ·rw[b2]at h2
  (repeat(first|((repeat(revert N;apply Pn.out));refine wk @Nat.zero_add ?_;(repeat(apply Pn.mk;intro N hN)))|((try apply Or.inl);refine⟨_,aw.x (h1) (sd @Nat.zero_add),?_⟩;apply hN;clear hN N)|((try apply Or.inl);refine⟨_,aw.x (h2) (sd @Nat.zero_add),?_⟩;apply hN;clear hN N)))
  exact eC (b:=1) (.inl rfl) (sd @Nat.zero_add) (by simp[Cr,b1,b2])
 ·rw[b2]at h2
  (repeat(first|((repeat(revert N;apply Pn.out));refine wk @Nat.zero_add ?_;(repeat(apply Pn.mk;intro N hN)))|((try apply Or.inl);refine⟨_,aw.x (h1) (sd @Nat.zero_add),?_⟩;apply hN;clear hN N)|((try apply Or.inl);refine⟨_,aw.x (h2) (sd @Nat.zero_add),?_⟩;apply hN;clear hN N)))
  exact eC (b:=0) (.inl rfl) (sd @Nat.zero_add) (by simp[Cr,b1,b2])
theorem QA (lb:List aa) (hb:kc lb) (t:aa):aw Tryz.prog 198 [.agg (ab t),.ef [.sl (lb.map ab)]] (.bool (!decide (eM lb t.aI=t.aY))):=by
 refine aw.body fx rfl fun hl n0=>?_
 clear hl
 have h:=ZN lb t.aI hb.xY (by have:=hb.pL;omega)
 (repeat(first|((repeat(revert N;apply Pn.out));refine wk (tw @ab.eq_1 @ad.eq_1) ?_;(repeat(apply Pn.mk;intro N hN)))|((try apply Or.inl);refine⟨_,aw.x (h) (sd (tw @ab.eq_1 @ad.eq_1)),?_⟩;apply hN;clear hN N)))
 exact da (b:= !decide (eM lb t.aI=t.aY)) (.inl rfl) (sd @Nat.zero_add) (by simp)
theorem GK (la lb:List aa) (ha:kc la) (hb:kc lb):aw Tryz.prog 145 [.agg [.sl (la.map ab)],.agg [.sl (lb.map ab)]] (.bool (ir la lb)):=by
 refine aw.body fx rfl fun hl n0=>?_
 clear hl
 have h1:=vZ la
 have h2:=vZ lb
 rw[vU.2 ha]at h1
 rw[vU.2 hb]at h2
 have h3:aw Tryz.prog 170 [.sl (la.map ab),.fn 198 [.ef [.sl (lb.map ab)]]] (.bool (la.any fun t=> !decide (eM lb t.aI=t.aY))):=
  kh yL (show CC Tryz.prog 170=some (yX 170 207) by kernel_rfl)
   (show CC Tryz.prog 207=some (th 207 3 true) by kernel_rfl) la (by have:=ha.pL;omega) _ _ _ rfl (fun g=>by rw[aq,aP,ar];rfl) (fun x _=>QA lb hb x) fun g=>by rw[aq,aP,ar];rfl
 (repeat(first|((repeat(revert N;apply Pn.out));refine wk @Nat.zero_add ?_;(repeat(apply Pn.mk;intro N hN)))|((try apply Or.inl);refine⟨_,aw.x (h1) (sd @Nat.zero_add),?_⟩;apply hN;clear hN N)|((try apply Or.inl);refine⟨_,aw.x (h2) (sd @Nat.zero_add),?_⟩;apply hN;clear hN N)|((try apply Or.inl);refine⟨_,aw.x (h3) (sd @Nat.zero_add),?_⟩;apply hN;clear hN N)))
 exact da (b:= !(la.any fun t=> !decide (eM lb t.aI=t.aY))) (.inl rfl) (sd @Nat.zero_add) (by rw[IA];rfl)
theorem uv (s:au) (l:List aa) (hn:im s.aD) (hm:sf s) (hl:l.length<=1048576):aw Tryz.prog 82 [.agg (ck s),.agg [.sl (l.map ab)]] (.int .i64 (jY s l)):=by
 refine aw.body fx rfl fun fD n0=>?_
 clear fD
 have h1:=CX s l hn hm hl
 cases b:Cr s l
 ·rw[b]at h1
  rw[ck]at h1 ⊢
  (repeat(first|((repeat(revert N;apply Pn.out));refine wk @Nat.zero_add ?_;(repeat(apply Pn.mk;intro N hN)))|((try apply Or.inl);refine⟨_,aw.x (h1) (sd @Nat.zero_add),?_⟩;apply hN;clear hN N)))
  exact eC (b:=1) (.inl rfl) (sd @Nat.zero_add) (by simp[jY,b])
 obtain⟨hP,hA⟩:=tQ.1 b
 have h2:=GK s.bH.aj l hP.o8.1 hA.1
 rw[b]at h1
 rw[ck]at h1 ⊢
 cases b2:ir s.bH.aj l
 ·rw[b2]at h2
  (repeat(first|((repeat(revert N;apply Pn.out));refine wk @Nat.zero_add ?_;(repeat(apply Pn.mk;intro N hN)))|((try apply Or.inl);refine⟨_,aw.x (h1) (sd @Nat.zero_add),?_⟩;apply hN;clear hN N)|((try apply Or.inl);refine⟨_,aw.x (h2) (sd @Nat.zero_add),?_⟩;apply hN;clear hN N)))
  exact eC (b:=2) (.inl rfl) (sd @Nat.zero_add) (by simp[jY,b,b2])
 ·rw[b2]at h2
  (repeat(first|((repeat(revert N;apply Pn.out));refine wk @Nat.zero_add ?_;(repeat(apply Pn.mk;intro N hN)))|((try apply Or.inl);refine⟨_,aw.x (h1) (sd @Nat.zero_add),?_⟩;apply hN;clear hN N)|((try apply Or.inl);refine⟨_,aw.x (h2) (sd @Nat.zero_add),?_⟩;apply hN;clear hN N)))
  exact eC (b:=0) (.inl rfl) (sd @Nat.zero_add) (by simp[jY,b,b2])
noncomputable def A4 (s:au) (l:List aa):List aa×Int:=if jY s l=0 then(if (k8 s l).2.length=l.length then((k8 s l).1,0)else([],3))else([],jY s l)
theorem Fo {s:au} {l:List aa} (hA:gx s.aD l):∀(n:Nat) (st:iJ),oD s l st->oD s l (rX s l n st)
 |0,st,h=>h
 |n+1,st,h=>by
  have h1:=(wM h hA l.length (Nat.le_refl _)).1
  rw[nT]at h1
  rw[rX]
  split
  ·exact h1
  ·exact Fo hA n _ h1
theorem qw {s:au} {l:List aa} (hP:L6 s) (hA:gx s.aD l) (hW:ir s.bH.aj l=true):oD s l (k8 s l):=Fo hA _ _ (q9 hP hA hW)
theorem Co (s:au) (l:List aa) (hn:im s.aD) (hm:sf s) (hl:l.length<=1048576):GM Tryz.prog 37 [.agg (ck s),.agg [.sl (l.map ab)]] ab 3 (A4 s l).1 (A4 s l).2:=by
 intro n0
 have h1:=uv s l hn hm hl
 by_cases h0:jY s l=0
 ·obtain⟨hP,hA,hW⟩:=BY.1 h0
  have hc:=fun σ=>Fs s hP.w l hA hW σ
  have hfe:=(qw hP.w hA hW).pL
  rw[h0]at h1
  by_cases he:(k8 s l).2.length=l.length
  ·have hr:A4 s l=((k8 s l).1,0):=by rw[A4,if_pos h0,if_pos he]
   rw[hr]
   refine eZ fx rfl fun fD=>?_
   clear fD
   rw[ck]at h1 hc ⊢
   (repeat(first|((repeat(revert N;apply Pn.out));refine wk @Nat.zero_add ?_;(repeat(apply Pn.mk;intro N hN)))|((try apply Or.inl);refine⟨_,aw.x (h1) (sd @Nat.zero_add),?_⟩;apply hN;clear hN N)))
   refine .inr (ay _ _ _ _ _ (fun r σ1 hq=>?_) (hc _))
   obtain⟨g1,x1⟩:=σ1
   obtain⟨v,o,rfl,hv,ho,Xr,VX,iO⟩:=hq
   (try dsimp only at hv ho Xr VX iO)
   have k3:=iO ⟨37000001,n0⟩ aH
   simp only[go_sem, ↓reduceIte,Nat.reduceEqDiff,Nat.reduceAdd,Nat.reduceSub,Nat.reduceLeDiff,reduceCtorEq]at k3
   have VT:¬((k8 s l).2.length:Int)<(l.length:Int):=ae
   apply hN
   clear hN N
   (try((repeat(revert N;apply Pn.out));refine wk (tw @k3 @VT) ?_;(repeat(apply Pn.mk;intro N hN))))
   refine eo (.inl rfl) (vs:=[v,.int .i64 0]) (sd @Nat.zero_add) ?_
   rcases hv with⟨h2,rfl⟩|⟨u,rfl,h3,h4,h5,h6,h7⟩
   ·exact⟨_,[],rfl,.inl ⟨h2,rfl,rfl⟩,⟨List.nodup_nil,fun i hi=>by cases hi⟩⟩
   ·have vu:=bZ h5
    exact⟨_,[u],rfl,.inr ⟨u,rfl,sd (tw @vu @h3),rfl,h7⟩,⟨List.nodup_cons.2 ⟨by simp,List.nodup_nil⟩,fun i hi=>by rw[List.mem_singleton.1 hi];(try dsimp only);omega⟩⟩
  ·have hr:A4 s l=([],3):=by rw[A4,if_pos h0,if_neg he]
   rw[hr]
   refine eZ fx rfl fun fD=>?_
   clear fD
   rw[ck]at h1 hc ⊢
   (repeat(first|((repeat(revert N;apply Pn.out));refine wk @Nat.zero_add ?_;(repeat(apply Pn.mk;intro N hN)))|((try apply Or.inl);refine⟨_,aw.x (h1) (sd @Nat.zero_add),?_⟩;apply hN;clear hN N)))
   refine .inr (ay _ _ _ _ _ (fun r σ1 hq=>?_) (hc _))
   obtain⟨g1,x1⟩:=σ1
   obtain⟨v,o,rfl,hv,ho,Xr,VX,iO⟩:=hq
   (try dsimp only at hv ho Xr VX iO)
   have k3:=iO ⟨37000001,n0⟩ aH
   simp only[go_sem, ↓reduceIte,Nat.reduceEqDiff,Nat.reduceAdd,Nat.reduceSub,Nat.reduceLeDiff,reduceCtorEq]at k3
   have VT:((k8 s l).2.length:Int)<(l.length:Int):=ae
   apply hN
   clear hN N
   (try((repeat(revert N;apply Pn.out));refine wk (tw @k3 @VT) ?_;(repeat(apply Pn.mk;intro N hN))))
   exact eo (.inl rfl) (vs:=[.bj,.int .i64 3]) (sd @Nat.zero_add) ⟨.bj,[],rfl,.inl ⟨rfl,rfl,rfl⟩,⟨List.nodup_nil,fun i hi=>by cases hi⟩⟩
 ·have hd:decide (jY s l=0)=false:=decide_eq_false h0
  have hr:A4 s l=([],jY s l):=by rw[A4,if_neg h0]
  rw[hr]
  refine eZ fx rfl fun fD=>?_
  clear fD
  rw[ck]at h1 ⊢
  (repeat(first|((repeat(revert N;apply Pn.out));refine wk @hd ?_;(repeat(apply Pn.mk;intro N hN)))|((try apply Or.inl);refine⟨_,aw.x (h1) (sd @hd),?_⟩;apply hN;clear hN N)))
  exact eo (.inl rfl) (vs:=[.bj,.int .i64 (jY s l)]) (sd @Nat.zero_add) ⟨.bj,[],rfl,.inl ⟨rfl,rfl,rfl⟩,⟨List.nodup_nil,fun i hi=>by cases hi⟩⟩
end Go.Proofs.YtainmfbpilopaaaGreatDoor.V

namespace Go.Proofs.YtainmfbpilopaaaGreatDoor.V
open Go.RowKit
attribute [local irreducible] ea wpOps fB Call
attribute [local go_sem] aL fq eB fC fA dj upd cj K.av cH AV.cells AV.cell rowOf rowsOf part ld rowAt fQ bI bY dp dI fU bJ cY dS fu eP dh dL cW cV dy dz bP aW cK bL cP cL dF dM dK cJ bU cX dJ bK aJ cR cu fS br cF bQ aU de bd dv AV.undef bt bF dD dH dr dq cD dR dU cq dQ dP cQ cU List.getD_cons_zero List.getD_cons_succ List.getD_nil List.all_cons List.all_nil Bool.and_true Bool.true_and Bool.and_self Bool.not_true Bool.not_false Option.map_some Option.map_none Option.bind_some Option.bind_none List.length_cons List.length_nil List.take_succ_cons List.take_zero List.take_nil List.drop_succ_cons List.drop_zero List.drop_nil List.head?_cons List.map_cons List.map_nil List.getElem?_cons_zero List.getElem?_cons_succ List.cons_append List.nil_append List.append_nil List.length_map List.set_cons_zero List.set_cons_succ eq_self Int.toNat_natCast Int.natCast_nonneg and_self true_and and_true decide_true decide_false Bool.false_eq_true Nat.zero_add Nat.add_zero List.contains_cons List.contains_nil Bool.or_false Bool.false_or beq_self_eq_true ne_eq not_true_eq_false not_false_eq_true Id.mk.injEq false_and and_false Nat.le_refl List.length_append beq_true beq_false Bool.not_eq_eq_eq_not or_false false_or eD aq ar aV aX bV cz aQ bp aP aZ cI bz
end Go.Proofs.YtainmfbpilopaaaGreatDoor.V

namespace Go.Proofs.YtainmfbpilopaaaGreatDoor.V
open Go.RowKit
attribute [local irreducible] ea wpOps fB Call
def resS (s:au) (a:List aa):au:=⟨s.aD,⟨a⟩,s.aE⟩
structure RepP (s:au) (r a:List aa):Prop where
 sys:mj s
 right:gx s.aD r
 Wn:gx s.aD a
 wr:ir s.bH.aj r=true
 wa:ir s.bH.aj a=true
def InM (X:Id) (st:iJ) (e7:AV) (g:Rows) (n:Nat):Prop:=∃o u:Id,g X=some ⟨true,1,[[.own o 0 st.2.length]]⟩/\g o=some ⟨true,3,st.2.map ab⟩/\e7=.own u 0 st.1.length/\g u=some ⟨true,3,st.1.map ab⟩/\(o=u->False)/\(X=u->False)/\u.bq<n/\(X=o->False)/\o.bq<n/\X.bq<n
theorem wc {a:List aa} (h:jk a) {i:Nat} (hi:i<a.length):dm a a[i].aI=i:=by
 have h0:0<=dm a a[i].aI:=by
  rcases Int.lt_or_le (dm a a[i].aI) 0 with h0|h0
  ·exact absurd rfl (zf.1 h0 a[i] (List.getElem_mem hi))
  ·exact h0
 obtain⟨h1,h2⟩:=iC h0
 have h3:(dm a a[i].aI).toNat=i:=by
  rcases Nat.lt_trichotomy (dm a a[i].aI).toNat i with h4|h4|h4
  ·have:=h _ _ h4 hi
   rw[h2,ez hi,iD]at this;cases this
  ·exact h4
  ·have:=h _ _ h4 h1
   rw[h2,ez hi,iD]at this;cases this
 omega
def oi (l:List aa) (p:List Nat):List aa:=p.map (aA l)
theorem DG {l:List aa} {p:List Nat} {k:Nat} (hk:k<p.length):aA (oi l p) k=aA l (p.getD k 0):=by
 rw[ez (show k<(oi l p).length by simpa[oi]using hk)]
 simp[oi,List.getD_eq_getElem?_getD,List.getElem?_eq_getElem hk]
theorem On {l:List aa} (h:jk l) {p:List Nat} (hp:p.Pairwise (· < ·)) (hl:∀x∈p,x<l.length):jk (oi l p):=by
 rw[mJ]
 rw[mJ,List.pairwise_iff_getElem]at h
 refine List.pairwise_map.2 (hp.imp_of_mem fun {a b} ha hb pM=>?_)
 have:=h a b (hl a ha) (hl b hb) pM
 rwa [ez (hl a ha),ez (hl b hb)]
theorem Om {l:List aa} (h:jk l) {p:List Nat} (hp:p.Pairwise (· < ·)) (hl:∀x∈p,x<l.length) (q:ai):dm (oi l p) q=if 0<=dm l q then B3 p (dm l q).toNat else -1:=by
 have rU:∀{z:Int},dm (oi l p) q<0->dm (oi l p) q= -1:=fun h=>by have:=(zg (oi l p) q).1;omega
 have rR:∀{t},t∈oi l p->∃m∈p,t=aA l m:=fun ht=>by
  obtain⟨m,hm,rfl⟩:=List.mem_map.1 ht
  exact⟨m,hm,rfl⟩
 have AN:∀m,m<l.length->dm l (aA l m).aI=m:=fun m hm=>by rw[ez hm];exact wc h hm
 by_cases h0:0<=dm l q
 ·rw[if_pos h0]
  obtain⟨h1,h2⟩:=iC h0
  generalize (dm l q).toNat=j at h1 h2
  by_cases hj:j∈p
  ·obtain⟨a1,a2,a3⟩:=uG hj
   have hk:p.idxOf j<(oi l p).length:=by simpa[oi]using a2
   have:=wc (On h hp hl) hk
   rw[<-ez hk,DG a2,a3,h2]at this
   rw[this,B3,if_pos hj]
  ·rw[B3,if_neg hj]
   refine rU (z:=0) (iZ.2 fun t ht e=>?_)
   obtain⟨m,hm,rfl⟩:=rR ht
   have k1:=AN m (hl m hm)
   have k2:=AN j h1
   rw[e]at k1
   rw[h2]at k2
   have e2:m=j:=ae
   rw[e2]at hm
   exact hj hm
 ·rw[if_neg h0]
  refine rU (z:=0) (iZ.2 fun t ht e=>?_)
  obtain⟨m,hm,rfl⟩:=rR ht
  have k1:=AN m (hl m hm)
  rw[e]at k1
  omega
theorem G0 {s:az} {l:List aa} (h:jk l) {p:List Nat} (hp:p.Pairwise (· < ·)) (hl:∀x∈p,x<l.length) {k:Nat} (hk:k<p.length) (d:Int):kA p (gi s l (p.getD k 0) d)=gi s (oi l p) k d:=by
 have hm:p.getD k 0∈p:=by rw[List.getD_eq_getElem?_getD,List.getElem?_eq_getElem hk];exact List.getElem_mem hk
 have Y2:B3 p (p.getD k 0)=k:=by rw[B3,if_pos hm,Qg hp hk]
 unfold gi
 rw[DG hk,Om h hp hl]
 generalize bc (aA l (p.getD k 0)).aI d=q
 by_cases h0:0<=dm l q
 ·simp only[if_pos h0]
  obtain⟨h1,h2⟩:=iC h0
  generalize (dm l q).toNat=j at h1 h2
  by_cases hj:0<=B3 p j
  ·obtain⟨a1,a2,a3⟩:=uG (wC.1 hj)
   have e:aA (oi l p) (B3 p j).toNat=aA l j:=by rw[a1,DG a2,a3]
   rw[e]
   by_cases hb:0<gh s (aA l (p.getD k 0)).aY d (aA l j).aY
   ·rw[if_pos ⟨h0,hb⟩,if_pos ⟨hj,hb⟩,kA,if_pos ⟨by rw[Y2];omega,hj⟩,kA]
    simp only[Y2,Int.toNat_natCast]
   ·rw[if_neg fun c=>hb c.2,if_neg fun c=>hb c.2];rfl
  ·rw[if_neg (c:=0<=B3 p j/\_) fun c=>hj c.1]
   split
   ·rw[kA,if_neg fun c=>hj c.2];rfl
   ·rfl
 ·simp only[if_neg h0]
  rw[if_neg fun c=>h0 c.1,if_neg fun c=>by have:=c.1;omega];rfl
theorem pb (p:List Nat) {α:Type} (f:α->List PB):∀xs:List α,kA p (xs.flatMap f)=xs.flatMap fun x=>kA p (f x)
 |[]=>rfl
 |x::xs=>by rw[List.flatMap_cons,Ch,pb p f xs,List.flatMap_cons]
theorem GZ {s:az} {l:List aa} {p:List Nat} {i:Nat} (hi:i∉p) (d:Int):kA p (gi s l i d)=[]:=by
 unfold gi
 split
 ·rw[kA,if_neg fun c=>hi (wC.1 c.1)];rfl
 ·rfl
theorem MB {β:Type} (f:Nat->List β) {p:List Nat} (hp:p.Pairwise (· < ·)):∀n:Nat,(∀i,i∉p->f i=[])->(∀x∈p,x<n)->(List.range n).flatMap f=p.flatMap f:=by
 intro n h0 hl
 have e:p=(List.range n).filter (fun i=>decide (i∈p)):=Ej hp (List.pairwise_lt_range.filter _) fun x=>by
  rw[List.mem_filter]
  exact⟨fun h=>⟨List.mem_range.2 (hl x h),decide_eq_true h⟩,fun h=>of_decide_eq_true h.2⟩
 have key:∀xs:List Nat,xs.flatMap f=(xs.filter fun i=>decide (i∈p)).flatMap f:=fun xs=>by
  induction xs with
  |nil=>rfl
  |cons x xs ih=>
   rw[List.flatMap_cons,ih,List.filter_cons]
   by_cases h:x∈p
   ·rw[if_pos (decide_eq_true h),List.flatMap_cons]
   ·rw[if_neg (by simpa using h),h0 x h,List.nil_append]
 rw[key,<-e]
theorem EL {β:Type} (f:Nat->List β):∀p:List Nat,p.flatMap f=(List.range p.length).flatMap fun k=>f (p.getD k 0)
 |[]=>rfl
 |x::p=>by
  rw[List.flatMap_cons,EL f p,List.length_cons,List.range_succ_eq_map,List.flatMap_cons,List.flatMap_map]
  rfl
theorem sW {α β:Type} {f g:α->List β}:∀{xs:List α},(∀x∈xs,f x=g x)->xs.flatMap f=xs.flatMap g
 |[],_=>rfl
 |x::xs,h=>by rw[List.flatMap_cons,List.flatMap_cons,h x List.mem_cons_self,sW fun y hy=>h y (List.mem_cons_of_mem _ hy)]
theorem JM {s:az} {l:List aa} (h:jk l) {p:List Nat} (hp:p.Pairwise (· < ·)) (hl:∀x∈p,x<l.length):kA p (dg s l)=dg s (oi l p):=by
 have qZ:(oi l p).length=p.length:=by simp[oi]
 unfold dg lv
 rw[pb,qZ]
 rw[MB (fun i=>kA p (gQ s l i 2)) hp l.length (fun i hi=>?_) hl,EL]
 ·refine sW fun k hk=>?_
  have hk:=List.mem_range.1 hk
  unfold gQ
  rw[pb]
  exact sW fun j _=>G0 h hp hl hk _
 ·unfold gQ
  rw[pb]
  exact List.flatMap_eq_nil_iff.2 fun j _=>GZ hi _
def dn (s:au) (es:List aa) (i:Nat):List aa:=(es.take i).foldl (fun n x=>gn n x) s.bH.aj
noncomputable def Ji (s:au) (es:List aa) (i:Nat):Bool:=eE s.aD (aA es i).aY&&ee s (dn s es i) (aA es i).aI (aA es i).aY
noncomputable def gD (s:au) (es:List aa) (i:Nat):Bool:=Ji s es i&&decide ((dn s es i).length<500)
noncomputable def Wb (s:au) (es:List aa):Int×Int:=match (List.range es.length).find? (fun i=> !gD s es i)with
 |none=>(0,0)
 |some i=>if Ji s es i then(0,4)else((i:Int),5)
theorem KY (s:au) (es:List aa):dn s es 0=s.bH.aj:=rfl
theorem mc (s:au) (es:List aa) {i:Nat} (hi:i<es.length):dn s es (i+1)=gn (dn s es i) (aA es i):=by
 unfold dn
 rw[uV hi,List.foldl_append];rfl
theorem zK {s:au} {es:List aa} {i:Nat} (hi:i<es.length) (h:∀j,j<i->gD s es j=true) (hb:gD s es i=false):Wb s es=if Ji s es i then(0,4)else((i:Int),5):=by
 rw[Wb,Ha hi (by rw[hb];rfl) (fun j hj=>by rw[h j hj];rfl)]
theorem Jj {s:au} {es:List aa} (h:∀j,j<es.length->gD s es j=true):Wb s es=(0,0):=by
 rw[Wb,xz (fun j hj=>by rw[h j hj];rfl)]
theorem Pq {s:au} {l:List aa} (hA:gx s.aD l) {x:aa} (hlen:l.length<500) (ht:eE s.aD x.aY=true) (hf:ee s l x.aI x.aY=true) (hs:s.aD.aj.length<=160):gx s.aD (gn l x):=by
 have gV:ik x.aY 0 159=true:=jU (by have h:=ht;unfold eE at h;have:=dY h;omega)
 have hp:xG x.aI=true:=by simp[ee]at hf;exact hf.1.1
 have h0:dm l x.aI<0:=(Ct hA x.aI).1 (by simp[ee]at hf;exact hf.1.2)
 have hR:=zP hA.1.xY h0
 refine⟨⟨by rw[kn];omega,fun i xD=>?_⟩,fun t ht2=>?_⟩
 ·rcases jJ.1 (fH xD)with h|h
  ·rw[Gr,h]
   exact⟨hp,gV,fun h1=>by have z:=hR (i-1) i ae xD;rw[h]at z;exact z⟩
  ·obtain⟨j,hj,iX⟩:=List.getElem_of_mem h
   have h1:=hA.1.ok j hj
   rw[Gr,ez hj,iX]at h1
   exact⟨h1.1,h1.2.1,fun h0=>hR _ _ ae xD⟩
 ·rcases jJ.1 ht2 with rfl|h
  ·exact ht
  ·exact hA.2 t h
theorem jL {s:au} (hP:mj s) {es:List aa}:∀i,i<=es.length->(∀j,j<i->gD s es j=true)->gx s.aD (dn s es i)
 |0,_,_=>hP.o8
 |i+1,hi,h=>by
  have ih:=jL hP (es:=es) i ae fun j hj=>h j ae
  have hg:=h i ae
  rw[gD,Bool.and_eq_true,Ji,Bool.and_eq_true]at hg
  rw[mc s es ae]
  exact Pq ih (of_decide_eq_true hg.2) hg.1.1 hg.1.2 hP.set.uW
def AtK (n:Nat) (l:List aa) (x:aa) (r:AV) (σ':ax):Prop:=(500<=l.length/\r=.fP [.agg [.bj],.int .i64 4])∨(l.length<500/\∃o:Id,r=.fP [.agg [.own o 0 (gn l x).length],.int .i64 0]/\σ'.get o=some ⟨true,3,(gn l x).map ab⟩/\n<=o.bq/\o.bq<σ'.next)
theorem FE (l:List aa) (hl:l.length<=1048576) (x:aa) (n0:Nat):Call Tryz.prog 143 [.ef [.sl (l.map ab)],.agg (ab x)] ⟨fun _=>none,n0⟩ (AtK n0 l x):=by
 refine eZ fx rfl fun fD=>?_
 clear fD
 by_cases h5:500<=l.length
 ·have hd:((500:Nat):Int)<=(l.length:Int):=ae
  have tc:(500:Int)<=(l.length:Int):=ae
  (try((repeat(revert N;apply Pn.out));refine wk (tw @ab.eq_1 (tw @hd @tc)) ?_;(repeat(apply Pn.mk;intro N hN))))
  exact eo (.inl rfl) (vs:=[.agg [.bj],.int .i64 4]) (sd @Nat.zero_add) (.inl ⟨h5,rfl⟩)
 ·have tc:¬(500:Int)<=(l.length:Int):=ae
  (try((repeat(revert N;apply Pn.out));refine wk (tw @ab.eq_1 @tc) ?_;(repeat(apply Pn.mk;intro N hN))))
  refine .inr (ay _ _ _ _ _ (fun r σ1 hq=>?_) (Sq.val (fun n=>Nt l hl x.aI x.aY n) (by simp only[aq,ar,aP,bp,aV,Option.map_some];rfl)))
  obtain⟨⟨o,rfl,q1,q2,q3⟩,hK⟩:=hq
  obtain⟨g1,x1⟩:=σ1
  (try dsimp only at q1 q2 q3 hK)
  have hx:(⟨x.aI,x.aY⟩:aa)=x:=rfl
  rw[hx]at q1 ⊢
  have k4:=hK.2 ⟨143000001,n0⟩ aH
  simp only[go_sem, ↓reduceIte,Nat.reduceEqDiff,Nat.reduceAdd,Nat.reduceSub,Nat.reduceLeDiff,reduceCtorEq]at k4
  have vo:=ei (a:=⟨143000001,n0⟩) (b:=o) (by(try dsimp only at q2);(try dsimp only);omega)
  apply hN
  clear hN N
  (try((repeat(revert N;apply Pn.out));refine wk @k4 ?_;(repeat(apply Pn.mk;intro N hN))))
  exact eo (.inl rfl) (vs:=[.agg [.own o 0 (gn l x).length],.int .i64 0]) (sd @Nat.zero_add) (.inr ⟨ae,o,rfl,sd (tw @vo @q1),by(try dsimp only at q2);omega,aH⟩)
theorem Mc {X o:Id} {l:List aa} {σ:ax} (hl:l.length<=1048576) (x:aa) (hX:σ.get X=some ⟨true,1,[[.own o 0 l.length]]⟩) (ho:σ.get o=some ⟨true,3,l.map ab⟩):
  Call Tryz.prog 143 [.ptr X 0 0,.agg (ab x)] σ (fun r σ'=>AtK σ.next l x r σ'/\Kept σ σ'):=by
 refine D8 mixed (args':=[.ef [.sl (l.map ab)],.agg (ab x)]) (by
  have hp:=Jk hX ho
  simp only[aq,ar,hp,Option.map_some,ab,bp,aV]) (ay _ _ _ _ _ (fun r σ' hq=>?_) (A7 mixed (FE l hl x σ.next)))
 obtain⟨hq,hn⟩:=hq
 rcases hq with⟨h5,rfl⟩|⟨h5,o2,rfl,h2,h3,h4⟩
 ·exact⟨[],rfl,fun i hi=>by(cases hi),.inl ⟨h5,rfl⟩,hn,fun j hj=>om (g':=σ'.get) (List.not_mem_nil)⟩
 ·refine⟨[o2],rfl,fun i hi=>?_,.inr ⟨h5,o2,rfl,(uU (by simp)).trans h2,h3,h4⟩,hn,fun j hj=>om fun hc=>?_⟩
  ·rw[List.mem_singleton.1 hi]
   exact⟨_,h2,rfl,fun cs ek a ha=>by
    obtain⟨y,_,rfl⟩:=List.mem_map.1 ek
    simp[ab]at ha
    rcases ha with rfl|rfl|rfl<;>rfl⟩
  ·rw[List.mem_singleton.1 hc]at hj;omega
theorem sj {s:az} (hS:gy s) {f g:ai->Int} (h:∀p,0<=f p->g p=f p) (p:ai) (t:Int):∀d,dw s f p t d<=dw s g p t d
 |0=>Int.le_refl _
 |d+1=>by
  have ih:=sj hS h p t d
  simp only[dw]
  by_cases h0:0<=f (bc p d)
  ·rw[if_pos h0,if_pos (by rw[h _ h0];exact h0),h _ h0];omega
  ·rw[if_neg h0]
   have:=qb hS t d (g (bc p d))
   split<;>omega
theorem at_mem {l:List aa} (hR:jk l) {x:aa} (hx:x∈l):eM l x.aI=x.aY:=by
 obtain⟨j,hj,rfl⟩:=List.getElem_of_mem hx
 have:=wc hR hj
 unfold eM
 rw[this,if_pos ae,Int.toNat_natCast,ez hj]
theorem HK {l:List aa} {p:ai} (h:0<=eM l p):∃x∈l,x.aI=p/\x.aY=eM l p:=by
 unfold eM at h ⊢
 split at h
 ·rename_i h0
  obtain⟨h1,h2⟩:=iC h0
  exact⟨_,fH h1,h2,by rw[if_pos h0]⟩
 ·omega
theorem QQ {l:List aa} (hR:jk l) {x y:aa} (hx:x∈l) (hy:y∈l) (h:x.aI=y.aI):x=y:=by
 obtain⟨i,hi,rfl⟩:=List.getElem_of_mem hx
 obtain⟨j,hj,rfl⟩:=List.getElem_of_mem hy
 have h1:=wc hR hi
 have h2:=wc hR hj
 rw[h]at h1
 have:i=j:=ae
 subst this;rfl
theorem Mx {s:au} (hS:gy s.aD) {l l':List aa} (hR':jk l') (h:∀x∈l,x∈l') {p:ai} {t:Int} (hf:ee s l p t=true) (MU:eM l' p<0):ee s l' p t=true:=by
 have nS:∀q,0<=eM l q->eM l' q=eM l q:=fun q hq=>by
  obtain⟨x,hx,rfl,e⟩:=HK hq
  rw[<-e];exact at_mem hR' (h x hx)
 have hm:=sj hS nS p t 4
 simp only[ee,Bool.and_eq_true,decide_eq_true_eq,jE]at hf ⊢
 refine⟨⟨hf.1.1,MU⟩,?_⟩
 first
  |exact decide_eq_true (Int.le_trans (of_decide_eq_true hf.2) hm)
  |exact decide_eq_true (Int.le_trans hf.2 hm)
structure Ix (s:au) (K M:List aa):Prop where
 xY:jk M
 sub:∀x∈M,x∈K
 no:∀x∈K,ee s M x.aI x.aY=false
theorem Ix.in_ {s:au} (hS:gy s.aD) {K M l:List aa} (h:Ix s K M) (hK:jk K) (hl:∀x∈l,x∈M) {x:aa} (hx:x∈K) (hf:ee s l x.aI x.aY=true):x∈M:=by
 rcases Int.lt_or_le (eM M x.aI) 0 with h0|h0
 ·have:=Mx hS h.xY hl hf h0
  rw[h.no x hx]at this;cases this
 ·obtain⟨y,hy,e,_⟩:=HK h0
  rw[<-QQ hK (h.sub y hy) hx e];exact hy
theorem zH (s:au):∀(l:List aa) (st:iJ),st.1.length<=(gJ s l st).1.length
 |[],_=>Nat.le_refl _
 |x::l,st=>by
  refine Nat.le_trans ?_ (zH s l (fy s st x))
  unfold fy
  split
  ·simp
  ·exact Nat.le_refl _
theorem BZ (s:au):∀(l:List aa) (st:iJ),(gJ s l st).1.length=st.1.length->gJ s l st=st/\∀x∈l,ee s st.2 x.aI x.aY=false
 |[],_,_=>⟨rfl,fun x hx=>(by cases hx)⟩
 |x::l,st,h=>by
  have h1:=zH s l (fy s st x)
  have h2:gJ s (x::l) st=gJ s l (fy s st x):=rfl
  rw[h2]at h ⊢
  cases hf:ee s st.2 x.aI x.aY
  ·have e:fy s st x=st:=by unfold fy;rw[if_neg (by rw[hf];simp)]
   rw[e]at h ⊢
   obtain⟨h3,h4⟩:=BZ s l st h
   refine⟨h3,fun y hy=>?_⟩
   rcases List.mem_cons.1 hy with rfl|hy
   ·exact hf
   ·exact h4 y hy
  ·exfalso
   have e:(fy s st x).1.length=st.1.length+1:=by unfold fy;rw[if_pos hf];simp
   omega
theorem Jb {s:au} {l:List aa} (hA:gx s.aD l):∀(n:Nat) (st:iJ),oD s l st->l.length<n+st.1.length->∀x∈l,ee s (rX s l n st).2 x.aI x.aY=false
 |0,st,h,hn=>by have:=h.pL;have:=h.len;omega
 |n+1,st,h,hn=>by
  have h1:=(wM h hA l.length (Nat.le_refl _)).1
  rw[nT]at h1
  rw[rX]
  have hl:=zH s l st
  split
  ·rename_i he
   obtain⟨e1,e2⟩:=BZ s l st he
   rw[e1];exact e2
  ·rename_i he
   exact Jb hA n _ h1 ae
theorem zI (s:au) {x:aa}:∀(l:List aa) (st:iJ),x∈st.2->x∈(gJ s l st).2
 |[],_,h=>h
 |y::l,st,h=>zI s l (fy s st y) (by
  unfold fy
  split
  ·exact jJ.2 (.inr h)
  ·exact h)
theorem Fp (s:au) (l:List aa) {x:aa}:∀(n:Nat) (st:iJ),x∈st.2->x∈(rX s l n st).2
 |0,_,h=>h
 |n+1,st,h=>by
  rw[rX]
  split
  ·exact zI s l st h
  ·exact Fp s l n _ (zI s l st h)
theorem Ku (s:au) (l:List aa) {x:aa} (h:x∈s.bH.aj):x∈(k8 s l).2:=Fp s l _ _ h
theorem Kv {s:au} {l:List aa} (hP:L6 s) (hA:gx s.aD l) (hW:ir s.bH.aj l=true):Ix s l (k8 s l).2:=
 ⟨(qw hP hA hW).xY,(qw hP hA hW).sub,Jb hA _ _ (q9 hP hA hW) (by simp)⟩
theorem N5 {l l':List aa} (h:jk l) (h':jk l') (hm:∀x,x∈l↔x∈l'):l=l':=by
 rw[mJ]at h h'
 induction l generalizing l' with
 |nil=>
  cases l' with
  |nil=>rfl
  |cons y r=>exact absurd ((hm y).2 (by simp)) (by simp)
 |cons x l ih=>
  cases l' with
  |nil=>exact absurd ((hm x).1 (by simp)) (by simp)
  |cons y r=>
   have h1:=List.pairwise_cons.1 h
   have h2:=List.pairwise_cons.1 h'
   have TY:x=y:=by
    rcases List.mem_cons.1 ((hm x).1 (by simp))with e|e
    ·exact e
    ·rcases List.mem_cons.1 ((hm y).2 (by simp))with e2|e2
     ·exact e2.symm
     ·have a1:=h1.1 y e2
      have a2:=h2.1 x e
      have:=iF a1 a2
      rw[iD]at this;cases this
   subst TY
   rw[ih h1.2 h2.2 fun z=>?_]
   constructor
   ·intro hz
    rcases List.mem_cons.1 ((hm z).1 (by simp[hz]))with e|e
    ·subst e;have:=h1.1 z hz;rw[iD]at this;cases this
    ·exact e
   ·intro hz
    rcases List.mem_cons.1 ((hm z).2 (by simp[hz]))with e|e
    ·subst e;have:=h2.1 z hz;rw[iD]at this;cases this
    ·exact e
theorem within_iff {l l':List aa} {s:az} (hA:gx s l) (hR:jk l'):ir l l'=true↔∀x∈l,x∈l':=by
 unfold ir
 rw[List.all_eq_true]
 constructor
 ·intro h x hx
  have h1:=of_decide_eq_true (h x hx)
  have h2:=(dY (hA.2 x hx)).1
  obtain⟨y,hy,e1,e2⟩:=HK (l:=l') (p:=x.aI) ae
  have:y=x:=by cases y;cases x;simp_all
  rw[<-this];exact hy
 ·intro h x hx
  exact decide_eq_true (at_mem hR (h x hx))
theorem FJ {x:aa}:∀(es l:List aa),x∈es.foldl (fun n x=>gn n x) l↔x∈l∨x∈es
 |[],l=>by simp
 |e::es,l=>by
  rw[List.foldl_cons,FJ es,jJ,List.mem_cons]
  constructor
  ·rintro((h|h)|h)<;>simp[h]
  ·rintro(h|h|h)<;>simp[h]
theorem FK {s:au} {es:List aa} {i:Nat} {x:aa}:x∈dn s es i↔x∈s.bH.aj∨x∈es.take i:=FJ _ _
theorem B4 {s:au} (hS:gy s.aD) {K M es:List aa} (hM:Ix s K M) (hK:jk K) (RP:∀x∈s.bH.aj,x∈M) (VU:∀x∈es,x∈K) (hg:∀j,j<es.length->gD s es j=true):∀i,i<=es.length->∀x∈dn s es i,x∈M
 |0,_,x,hx=>RP x hx
 |i+1,hi,x,hx=>by
  have ih:=B4 hS hM hK RP VU hg i ae
  rw[mc s es ae]at hx
  rcases jJ.1 hx with rfl|hx
  ·have h1:=hg i ae
   simp only[gD,Ji,Bool.and_eq_true]at h1
   exact hM.in_ hS hK ih (VU _ (fH ae)) h1.1.2
  ·exact ih x hx
def IC (B:ai->Int->Bool) (p:ai):Nat->List aa
 |0=>[]
 |t+1=>if B p (t:Nat)=true then IC B p t++[⟨p,(t:Nat)⟩]else IC B p t
def tR (B:ai->Int->Bool) (m:Nat) (ps:List ai):List aa:=ps.flatMap fun p=>IC B p m
theorem ID (B:ai->Int->Bool) (p:ai):∀t,(IC B p t).length<=t
 |0=>by simp[IC]
 |t+1=>by
  have:=ID B p t
  rw[IC]
  split
  ·rw[List.length_append,List.length_singleton];omega
  ·omega
theorem xL (B:ai->Int->Bool) (m:Nat):∀ps:List ai,(tR B m ps).length<=ps.length*m
 |[]=>by simp[tR]
 |p::ps=>by
  have h:=xL B m ps
  have h2:=ID B p m
  unfold tR at *
  rw[List.flatMap_cons,List.length_append,List.length_cons,Nat.add_mul,Nat.one_mul]
  omega
theorem Em {B:ai->Int->Bool} {m:Nat} {ps:List ai} {k:Nat} (hk:k<ps.length):tR B m (ps.take (k+1))=tR B m (ps.take k)++IC B (j9 ps k) m:=by
 unfold tR
 rw[List.take_succ_eq_append_getElem hk,List.flatMap_append,lh hk]
 simp
def mb (B:ai->Int->Bool) (p:ai):Nat->List Int
 |0=>[]
 |t+1=>if B p (t:Nat)=true then mb B p t++[(t:Int)]else mb B p t
theorem uf (B:ai->Int->Bool) (p:ai):∀t,(mb B p t).length<=t
 |0=>by simp[mb]
 |t+1=>by
  have:=uf B p t
  rw[mb]
  split
  ·rw[List.length_append,List.length_singleton];omega
  ·omega
theorem Cw (B:ai->Int->Bool) (p:ai):∀t,IC B p t=(mb B p t).map fun k=>(⟨p,k⟩:aa)
 |0=>rfl
 |t+1=>by
  rw[IC,mb,Cw B p t]
  split<;>simp
theorem CO {B:ai->Int->Bool} {p:ai} (h:∀t:Nat,B p t=false):∀t,mb B p t=[]
 |0=>rfl
 |t+1=>by rw[mb,if_neg (by rw[h t];simp),CO h t]
theorem EO {B:ai->Int->Bool} {p:ai}:∀{t:Nat},mb B p t≠[]->∃k:Nat,k<t/\B p k=true
 |0,h=>absurd rfl h
 |t+1,h=>by
  rw[mb]at h
  split at h
  ·rename_i hb;exact⟨t,Nat.lt_succ_self t,hb⟩
  ·obtain⟨k,hk,hb⟩:=EO h
   exact⟨k,Nat.lt_succ_of_lt hk,hb⟩
theorem qT {B C:ai->Int->Bool} {p:ai} (h:∀t:Nat,B p t=C p t):∀t,mb B p t=mb C p t
 |0=>rfl
 |t+1=>by rw[mb,mb,h t,qT h t]
abbrev En:=ai×AV
def pG (e:En):List AV:=[.int .i64 e.1.eV,.int .i64 e.1.eQ,e.2]
def oU:List En->ai->AV->List En
 |[],q,v=>[(q,v)]
 |e::es,q,v=>if e.1=q then(q,v)::es else e::oU es q v
def pF:List En->ai->List En
 |[],_=>[]
 |e::es,q=>if e.1=q then es else e::pF es q
theorem zA {q:ai} {v:AV} {x:En}:∀{es:List En},x.1≠q->(x∈oU es q v↔x∈es)
 |[],h=>by
  rw[oU,List.mem_singleton]
  exact⟨fun e=>absurd (by rw[e]) h,fun e=>by cases e⟩
 |e::es,h=>by
  have ih:=@zA q v x es h
  rw[oU]
  split
  ·rename_i he
   rw[List.mem_cons,List.mem_cons]
   exact⟨fun h1=>h1.elim (fun e=>absurd (by rw[e]) h) .inr,fun h1=>h1.elim (fun e'=>absurd (by rw[e'];exact he) h) .inr⟩
  ·rw[List.mem_cons,List.mem_cons,ih]
theorem B8 (q:ai) (v:AV):∀es:List En,(q,v)∈oU es q v
 |[]=>by simp[oU]
 |e::es=>by
  have ih:=B8 q v es
  rw[oU]
  split
  ·simp
  ·exact List.mem_cons_of_mem _ ih
theorem Fz {q:ai} {v:AV} {p:ai}:∀{es:List En},p∈(oU es q v).map (·.1)->p=q∨p∈es.map (·.1)
 |[],h=>by simp[oU]at h;exact .inl h
 |e::es,h=>by
  rw[oU]at h
  split at h
  ·simp only[List.map_cons,List.mem_cons]at h ⊢
   exact h.imp_right .inr
  ·simp only[List.map_cons,List.mem_cons]at h ⊢
   rcases h with h|h
   ·exact .inr (.inl h)
   ·exact(Fz h).imp_right .inr
theorem zR (q:ai) (v:AV):∀{es:List En},(es.map (·.1)).Nodup->((oU es q v).map (·.1)).Nodup
 |[],_=>by simp[oU]
 |e::es,h=>by
  obtain⟨h1,h2⟩:=List.nodup_cons.1 (show(e.1::es.map (·.1)).Nodup from h)
  rw[oU]
  split
  ·rename_i he
   refine List.nodup_cons.2 ⟨?_,h2⟩
   show q∉_
   rw[<-he];exact h1
  ·rename_i he
   refine List.nodup_cons.2 ⟨fun hc=>?_,zR q v h2⟩
   rcases Fz hc with h3|h3
   ·exact he h3
   ·exact h1 h3
theorem zt {q:ai} {x:En}:∀{es:List En},x.1≠q->(x∈pF es q↔x∈es)
 |[],_=>Iff.rfl
 |e::es,h=>by
  have ih:=@zt q x es h
  rw[pF]
  split
  ·rename_i he
   rw[List.mem_cons]
   exact⟨.inr,fun h1=>h1.elim (fun e'=>absurd (by rw[e'];exact he) h) id⟩
  ·rw[List.mem_cons,List.mem_cons,ih]
theorem ub {q:ai}:∀{es:List En},(pF es q).Sublist es
 |[]=>List.Sublist.slnil
 |e::es=>by
  rw[pF]
  split
  ·exact List.sublist_cons_self _ _
  ·exact(ub (es:=es)).cons_cons _
theorem yI (q:ai) {es:List En} (h:(es.map (·.1)).Nodup):((pF es q).map (·.1)).Nodup:=((ub (q:=q) (es:=es)).map _).nodup h
theorem CK {q:ai}:∀{es:List En},(es.map (·.1)).Nodup->∀e∈pF es q,e.1≠q
 |[],_,e,h=>by cases h
 |x::es,hn,e,h=>by
  obtain⟨h1,h2⟩:=List.nodup_cons.1 (show(x.1::es.map (·.1)).Nodup from hn)
  rw[pF]at h
  split at h
  ·rename_i hx
   intro he
   exact h1 (by rw[hx,<-he];exact List.mem_map_of_mem h)
  ·rename_i hx
   rcases List.mem_cons.1 h with rfl|h
   ·exact hx
   ·exact CK h2 e h
theorem Qm {es:List En} (hn:(es.map (·.1)).Nodup) {q:ai} {u v:AV} (h1:(q,u)∈es) (h2:(q,v)∈es):u=v:=by
 induction es with
 |nil=>cases h1
 |cons e es ih=>
  obtain⟨n1,n2⟩:=List.nodup_cons.1 (show(e.1::es.map (·.1)).Nodup from hn)
  rcases List.mem_cons.1 h1 with a|a<;>rcases List.mem_cons.1 h2 with b|b
  ·rw[<-a]at b;injection b with _ b;exact b.symm
  ·exact absurd (by rw[<-a];exact List.mem_map_of_mem (f:=(·.1)) b) n1
  ·exact absurd (by rw[<-b];exact List.mem_map_of_mem (f:=(·.1)) a) n1
  ·exact ih n2 a b
structure yg (g:Rows) (n:Nat) (es:List En) (fs:ai->List Int) (A:ai->Prop):Prop where
 nodup:(es.map (·.1)).Nodup
 at_:∀q,A q->(fs q=[]/\∀e∈es,e.1≠q)∨(fs q≠[]/\∃o:Id,(q,AV.own o 0 (fs q).length)∈es/\o.bq<n/\g o=some ⟨true,1,(fs q).map aM⟩)
theorem yg.mono {g:Rows} {n:Nat} {es:List En} {fs:ai->List Int} {A A':ai->Prop} (h:yg g n es fs A) (hA:∀q,A' q->A q):yg g n es fs A':=⟨h.nodup,fun q hq=>h.at_ q (hA q hq)⟩
theorem yg.frame {g g':Rows} {n n':Nat} {es:List En} {fs:ai->List Int} {A:ai->Prop} (h:yg g n es fs A) (hn:n<=n') (hf:∀x:Id,x.bq<n->(∃k r,g x=some ⟨k,1,r⟩)->g' x=g x):yg g' n' es fs A:=⟨h.nodup,fun q hq=>by
 rcases h.at_ q hq with h1|⟨h1,o,h2,h3,h4⟩
 ·exact .inl h1
 ·exact .inr ⟨h1,o,h2,ae,(hf o h3 ⟨_,_,h4⟩).trans h4⟩⟩
theorem yg.put {g:Rows} {n:Nat} {es:List En} {fs:ai->List Int} {A:ai->Prop} (h:yg g n es fs A) {q:ai} {o:Id} (h0:fs q≠[]) (ho:o.bq<n) (hg:g o=some ⟨true,1,(fs q).map aM⟩):yg g n (oU es q (.own o 0 (fs q).length)) fs (fun p=>A p∨p=q):=⟨zR _ _ h.nodup,fun p hp=>by
 by_cases e:p=q
 ·subst e
  exact .inr ⟨h0,o,B8 _ _ _,ho,hg⟩
 ·rcases hp with hp|hp
  ·rcases h.at_ p hp with⟨h1,h2⟩|⟨h1,o',h2,h3⟩
   ·refine .inl ⟨h1,fun x hx Zk=>?_⟩
    have hxq:x.1≠q:=fun e'=>e (Zk.symm.trans e')
    exact h2 x ((zA hxq).1 hx) Zk
   ·exact .inr ⟨h1,o',(zA e).2 h2,h3⟩
  ·exact absurd hp e⟩
theorem yg.cut {g:Rows} {n:Nat} {es:List En} {fs:ai->List Int} {A:ai->Prop} (h:yg g n es fs A) {q:ai} (h0:fs q=[]):yg g n (pF es q) fs (fun p=>A p∨p=q):=⟨yI _ h.nodup,fun p hp=>by
 by_cases e:p=q
 ·subst e
  exact .inl ⟨h0,CK h.nodup⟩
 ·rcases hp with hp|hp
  ·rcases h.at_ p hp with⟨h1,h2⟩|⟨h1,o',h2,h3⟩
   ·exact .inl ⟨h1,fun x hx=>h2 x (ub.subset hx)⟩
   ·exact .inr ⟨h1,o',(zt e).2 h2,h3⟩
  ·exact absurd hp e⟩
theorem FM (p:ai):∀(es:List En) (i:Nat),∃fi,gG ⟨true,[.tI,.tI]⟩ (ad p) (es.map pG) i=some fi/\
  (∀v,(match fi with|some j=>(es.map pG).set (j-i) [.int .i64 p.eV,.int .i64 p.eQ,v]|none=>es.map pG++[[.int .i64 p.eV,.int .i64 p.eQ,v]])=(oU es p v).map pG)/\
  ((match fi with|some j=>(es.map pG).eraseIdx (j-i)|none=>es.map pG)=(pF es p).map pG)/\
  (∀j,fi=some j->i<=j/\j-i<es.length/\∃v,es[j-i]? =some (p,v))/\(fi=none->∀e∈es,e.1≠p)
 |[],i=>⟨none,by simp[gG],fun v=>rfl,rfl,fun _ h=>(by cases h),fun _ _ he=>(by cases he)⟩
 |e::es,i=>by
  have hq:eP [TS.tI,TS.tI] (ad p) ((pG e).take 2)=some (decide (p=e.1)):=by
   have h:(p=e.1)↔(p.eV=e.1.eV/\p.eQ=e.1.eQ):=⟨fun h=>by rw[h];exact⟨rfl,rfl⟩,fun h=>zM h.1 h.2⟩
   simp[ad,pG,eP,fu,h]
  by_cases h:p=e.1
  ·refine⟨some i,?_,fun v=>?_,?_,fun j hj=>?_,fun hc=>by cases hc⟩
   ·rw[List.map_cons]
    unfold gG
    rw[show(⟨true,[.tI,.tI]⟩:MK).ts=[.tI,.tI]from rfl,show(⟨true,[.tI,.tI]⟩:MK).ks=2 from rfl,hq,decide_eq_true h]
   ·simp[oU,h,pG]
   ·simp[pF,h]
   ·cases hj
    exact⟨Nat.le_refl _,by simp,e.2,by simp[h]⟩
  ·obtain⟨fi,h1,h2,h3,h4,h5⟩:=FM p es (i+1)
   have he:¬e.1=p:=fun hc=>h hc.symm
   refine⟨fi,?_,fun v=>?_,?_,fun j hj=>?_,fun hc x hx=>?_⟩
   ·rw[List.map_cons]
    unfold gG
    rw[show(⟨true,[.tI,.tI]⟩:MK).ts=[.tI,.tI]from rfl,show(⟨true,[.tI,.tI]⟩:MK).ks=2 from rfl,hq,decide_eq_false h]
    exact h1
   ·have YC:=h2 v
    rw[oU,if_neg he]
    cases fi with
    |none=>
     simp only[List.map_cons,List.cons_append]at YC ⊢
     rw[YC]
    |some j=>
     obtain⟨h6,_⟩:=h4 j rfl
     obtain⟨k,hk⟩:∃k,j=i+1+k:=⟨j-(i+1),ae⟩
     subst hk
     simp only[show i+1+k-i=k+1 by omega,show i+1+k-(i+1)=k by omega,List.map_cons,List.set_cons_succ]at YC ⊢
     rw[YC]
   ·rw[pF,if_neg he]
    cases fi with
    |none=>
     simp only[List.map_cons]at h3 ⊢
     rw[h3]
    |some j=>
     obtain⟨h6,_⟩:=h4 j rfl
     obtain⟨k,hk⟩:∃k,j=i+1+k:=⟨j-(i+1),ae⟩
     subst hk
     simp only[show i+1+k-i=k+1 by omega,show i+1+k-(i+1)=k by omega,List.map_cons,List.eraseIdx_cons_succ]at h3 ⊢
     rw[h3]
   ·obtain⟨h6,h7,v,h8⟩:=h4 j hj
    refine⟨ae,by simp only[List.length_cons];omega,v,?_⟩
    rw[show j-i=(j-(i+1))+1 by omega,List.getElem?_cons_succ];exact h8
   ·rcases List.mem_cons.1 hx with rfl|hx
    ·exact he
    ·exact h5 hc x hx
theorem wq (p:ai) (es:List En):∃fi,gC ⟨true,[.tI,.tI]⟩ (.agg [.int .i64 p.eV,.int .i64 p.eQ]) (es.map pG)=some fi/\(∀v,dr (es.map pG) [.int .i64 p.eV,.int .i64 p.eQ,v] fi=(oU es p v).map pG)/\dq (es.map pG) fi=(pF es p).map pG/\
  (∀j,fi=some j->∃v,es[j]? =some (p,v))/\(fi=none->∀e∈es,e.1≠p):=by
 obtain⟨fi,h1,h2,h3,h4,h5⟩:=FM p es 0
 refine⟨fi,?_,fun v=>?_,?_,fun j hj=>?_,h5⟩
 ·unfold gC
  rw[if_pos ⟨rfl,rfl,rfl⟩]
  exact h1
 ·rw[<-h2 v];cases fi<;>rfl
 ·rw[<-h3];cases fi<;>rfl
 ·obtain⟨_,_,v,h6⟩:=h4 j hj
  exact⟨v,by simpa using h6⟩
theorem rH (p:ai) (k:Nat) (hk:k<4):bc (bc p k) (km k)=p:=by
 have:k=0∨k=1∨k=2∨k=3:=ae
 rcases this with rfl|rfl|rfl|rfl<;>(cases p;simp[bc,km,ik];try omega)
theorem bind_some {s:az} {F:ai->Int} {p:ai} {t:Int}:∀d:Nat,0<dw s F p t d->∃k:Nat,k<d/\0<=F (bc p k)
 |0,h=>by simp[dw]at h
 |d+1,h=>by
  by_cases h0:0<=F (bc p d)
  ·exact⟨d,Nat.lt_succ_self d,h0⟩
  ·rw[dw,if_neg h0,Int.add_zero]at h
   obtain⟨k,hk,h1⟩:=bind_some d h
   exact⟨k,Nat.lt_succ_of_lt hk,h1⟩
theorem My {s:au} (hT:1<=s.aE) {l:List aa} (hA:gx s.aD l) {p:ai} {t:Int} (h:ee s l p t=true):Ee l p:=by
 simp[ee]at h
 obtain⟨⟨h1,h2⟩,h3⟩:=h
 obtain⟨k,hk,h4⟩:=bind_some (s:=s.aD) (F:=eM l) (p:=p) (t:=t) 4 (by have:jE s.aD (eM l) p t=dw s.aD (eM l) p t 4:=rfl;omega)
 have h5:0<=dm l (bc p k):=by
  unfold eM at h4
  split at h4
  ·assumption
  ·omega
 obtain⟨h6,h7⟩:=iC h5
 refine⟨h1,(Ct hA p).1 h2,(dm l (bc p k)).toNat,(km k).toNat,h6,?_,?_⟩
 ·have:k=0∨k=1∨k=2∨k=3:=ae
  rcases this with rfl|rfl|rfl|rfl<;>decide
 ·rw[h7]
  have:((km k).toNat:Int)=km k:=by
   have:k=0∨k=1∨k=2∨k=3:=ae
   rcases this with rfl|rfl|rfl|rfl<;>decide
  rw[this,rH p k hk]
noncomputable def nu (s:au) (l:List aa):List ai:=(jK l).filter fun p=>decide (mb (ee s l) p s.aD.aj.length≠[])
theorem zu {s:au} (hT:1<=s.aE) {l:List aa} (hA:gx s.aD l) (p:ai):p∈nu s l↔mb (ee s l) p s.aD.aj.length≠[]:=by
 unfold nu
 rw[List.mem_filter,BQ,decide_eq_true_eq]
 refine⟨fun h=>h.2,fun h=>⟨?_,h⟩⟩
 obtain⟨k,_,hk⟩:=EO h
 exact My hT hA hk
theorem Hd (s:au) (l:List aa):oF (nu s l):=List.Pairwise.sublist List.filter_sublist (tA l _)
theorem GW (s:au) (l:List aa):tR (ee s l) s.aD.aj.length (jK l)=tR (ee s l) s.aD.aj.length (nu s l):=by
 unfold nu
 generalize jK l=ps
 induction ps with
 |nil=>rfl
 |cons p ps ih=>
  unfold tR at *
  rw[List.flatMap_cons,List.filter_cons,ih]
  split
  ·rw[List.flatMap_cons]
  ·rename_i h
   simp only[decide_eq_true_eq,ne_eq,Classical.not_not]at h
   rw[Cw,h];rfl
def qp (s:az) (F:ai->Int) (p:ai) (d:Nat):Int:=if F (bc p d)<0 then 0 else er (eu s (F (bc p d))) (km d)
def qq (s:az) (F:ai->Int) (p:ai) (k:Nat):List Int:=(List.range k).map (qp s F p)
theorem ES (s:az) (F:ai->Int) (p:ai) (k:Nat):(qq s F p k).length=k:=by simp[qq]
theorem Kb (s:az) (F:ai->Int) (p:ai) (k:Nat):qq s F p (k+1)=qq s F p k++[qp s F p k]:=by simp[qq,List.range_succ]
theorem MI {s:az} {F:ai->Int} {p:ai} {k d:Nat} (h:d<k):((qq s F p k).map aM)[d]? =some [.int .i64 (qp s F p d)]:=by simp[qq,h,aM]
theorem J0 {s:az} (hF:l9 s) {F:ai->Int} (hT:∀q,0<=F q->eE s (F q)=true) {p:ai} {t:Int} (ht:eE s t=true) {d:Nat} (hd:d<4):
  dw s F p t (d+1)=if er (eu s t) d=qp s F p d then dw s F p t d+tJ s (qp s F p d)else dw s F p t d:=by
 rw[dw]
 unfold qp
 by_cases h0:F (bc p d)<0
 ·rw[if_neg ae,if_pos h0]
  have:tJ s 0=0:=if_pos rfl
  rw[this,Int.add_zero]
  split<;>rfl
 ·rw[if_pos ae,if_neg h0]
  unfold gh
  split
  ·rename_i e;rw[e]
  ·rw[Int.add_zero]
theorem PN {s:az} (hF:l9 s) {F:ai->Int} (hT:∀q,0<=F q->eE s (F q)=true) (p:ai) {d:Nat} (hd:d<4):0<=qp s F p d/\qp s F p d<=s.bh.length:=by
 unfold qp
 split
 ·exact⟨Int.le_refl _,ae⟩
 ·rename_i h0
  obtain⟨_,_,a2⟩:=oq (hT _ (by omega:0<=F (bc p d)))
  exact hF.yV _ a2 _ (Gb (hF.Ad _ a2) (zE (jU ae)))
noncomputable def Cu (s:az) (l:List aa) (T:Int) (p:ai) (t:Int):Bool:=decide (T<=jE s (eM l) p t)
theorem Pr {s:au} {l:List aa} {p:ai} (h:Ee l p) (hA:gx s.aD l) (t:Int):ee s l p t=Cu s.aD l s.aE p t:=by
 obtain⟨h1,h2,_⟩:=h
 simp[ee,Cu,h1,(Ct hA p).2 h2]
theorem Qq (s:az) (hS:gy s) (l:List aa) (hA:gx s l) (p:ai) (hx:iB p.eV) (hy:iB p.eQ) (T:Int):
  aw Tryz.prog 196 [.ef (ah s),.ef [.sl (l.map ab)],.agg (ad p),.int .i64 T] (.sl ((mb (Cu s l T) p s.aj.length).map aM)):=by
 refine aw.body fx rfl fun fD n0=>?_
 clear fD
 have hF:=hS.form
 have GB:=hS.uW
 have Tp:∀q,0<=eM l q->eE s (eM l q)=true:=gy.Bg hA
 (try((repeat(revert N;apply Pn.out));refine wk @ad.eq_1 ?_;(repeat(apply Pn.mk;intro N hN))))
 refine cm (fun n env st=>∃k:Nat,n=(4)-k/\k<=(4)/\env 10=.int .i64 (k:Int)/\st.get ⟨196000000,n0⟩=some ⟨true,2,[ad p]⟩/\(n0+2<=st.next/\∃o:Id,env 9=.own o 0 k/\st.get o=some ⟨true,1,(qq s (eM l) p k).map aM⟩/\n0<o.bq/\o.bq<st.next)) (4) ⟨0,ae,ae,sl @ad.eq_1,sl @ad.eq_1,by(try dsimp only);exact⟨ae,⟨196001000,n0+1⟩,sl @Nat.zero_add,sl @Nat.zero_add,aH,aH⟩⟩ ?_
 rintro n_a env_a st_a ⟨k,rfl,ale,AD,ag0,qN⟩ eF
 have a0:=eF 0 (by kernel_rfl);have a1:=eF 1 (by kernel_rfl);have a3:=eF 3 (by kernel_rfl);have a6:=eF 6 (by kernel_rfl)
 simp only[go_sem, ↓reduceIte,Nat.reduceEqDiff,Nat.reduceAdd,Nat.reduceSub,Nat.reduceLeDiff,reduceCtorEq,ad]at a0 a1 a3 a6
 clear eF
 obtain⟨an,o,a9,ag,Ly,aox⟩:=qN
 have vo:=bZ aox
 have vb:=bZ (i:=⟨196000000,n0⟩) (n:=st_a.next) aH
 have ob:=ei (a:=⟨196000000,n0⟩) (b:=o) aH
 by_cases hk:(k:Int)<4
 ·have eh:∀{e:Env} {gg:Rows} {nx:Nat},(e 10=.int .i64 (IntKind.i64.wrap ((k:Int)+1)))->(gg ⟨196000000,n0⟩=some ⟨true,2,[ad p]⟩)->(n0+2<=nx/\∃o:Id,e 9=.own o 0 (k+1)/\gg o=some ⟨true,1,(qq s (eM l) p (k+1)).map aM⟩/\n0<o.bq/\o.bq<nx)->∃m0,m0<(4)-k/\∃k:Nat,m0=(4)-k/\k<=(4)/\e 10=.int .i64 (k:Int)/\gg ⟨196000000,n0⟩=some ⟨true,2,[ad p]⟩/\(n0+2<=nx/\∃o:Id,e 9=.own o 0 k/\gg o=some ⟨true,1,(qq s (eM l) p k).map aM⟩/\n0<o.bq/\o.bq<nx):=fun x1 x2 x3=>⟨_,ae,k+1,rfl,ae,(by rw[x1,bf ae]),x2,x3⟩
  have hd:ik (k:Int) 0 3=true:=jU ae
  have ed:=wg p k hd hx hy
  have pw:=Qo l (bc p k) hA.1.xY (by have:=hA.1.pL;omega)
  rw[ad]at ed pw
  have fc:((qq s (eM l) p k).map aM).length=k:=by rw[List.length_map,ES]
  have uo:k<=16777215:=ae
  have Kl:=Kb s (eM l) p k
  have xb:(qq s (eM l) p (k+1)).map aM=(qq s (eM l) p k).map aM++[[.int .i64 (qp s (eM l) p k)]]:=by rw[Kl,List.map_append];rfl
  by_cases h0:eM l (bc p k)<0
  ·have qW:qp s (eM l) p k=0:=if_pos h0
   rw[qW]at xb
   (have zF:=tw @AD (tw @ag0 (tw @a0 (tw @a1 (tw @a3 (tw @a6 (tw @hk (tw @a9 (tw @ag (tw @vo (tw @vb (tw @ob (tw @fc (tw @uo (tw @h0 @ad.eq_1))))))))))))));(repeat(first|((repeat(revert N;apply Pn.out));refine wk zF ?_;(repeat(apply Pn.mk;intro N hN)))|((try apply Or.inl);refine⟨_,aw.x (ed) (sd zF),?_⟩;apply hN;clear hN N)|((try apply Or.inl);refine⟨_,aw.x (pw) (sd zF),?_⟩;apply hN;clear hN N)));try clear zF)
   refine eh ?_ ?_ (by(try dsimp only);exact⟨ae,⟨196007002,st_a.next+1+1+1⟩,sl @Nat.zero_add,by rw[xb];simp only[go_sem, ↓reduceIte,Nat.reduceEqDiff,Nat.reduceAdd,Nat.reduceSub,Nat.reduceLeDiff,reduceCtorEq]<;>rfl,aH,aH⟩)
   all_goals simp only[go_sem, ↓reduceIte,Nat.reduceEqDiff,Nat.reduceAdd,Nat.reduceSub,Nat.reduceLeDiff,reduceCtorEq,AD,ag0,a0,a1,a3,a6,vb,ob,ad]
  ·have qW:qp s (eM l) p k=er (eu s (eM l (bc p k))) (km k):=if_neg h0
   rw[qW]at xb
   obtain⟨b0,b1,b2⟩:=oq (Tp _ (by omega:0<=eM l (bc p k)))
   have s2:=qG (hF.Ad _ b2) (zE hd)
   have d1:=(dY (zE hd)).1
   have eH:=GN k hd
   (have zF:=tw @AD (tw @ag0 (tw @a0 (tw @a1 (tw @a3 (tw @a6 (tw @hk (tw @a9 (tw @ag (tw @vo (tw @vb (tw @ob (tw @fc (tw @uo (tw @h0 (tw @b0 (tw @b1 (tw @s2 (tw @d1 (tw @ad.eq_1 (tw @ah.eq_1 @dx.eq_1))))))))))))))))))));(repeat(first|((repeat(revert N;apply Pn.out));refine wk zF ?_;(repeat(apply Pn.mk;intro N hN)))|((try apply Or.inl);refine⟨_,aw.x (ed) (sd zF),?_⟩;apply hN;clear hN N)|((try apply Or.inl);refine⟨_,aw.x (pw) (sd zF),?_⟩;apply hN;clear hN N)|((try apply Or.inl);refine⟨_,aw.x (eH) (sd zF),?_⟩;apply hN;clear hN N)));try clear zF)
   refine eh ?_ ?_ (by(try dsimp only);exact⟨ae,⟨196008014,st_a.next+1+1+1⟩,sl @Nat.zero_add,by rw[xb];simp only[go_sem, ↓reduceIte,Nat.reduceEqDiff,Nat.reduceAdd,Nat.reduceSub,Nat.reduceLeDiff,reduceCtorEq]<;>rfl,aH,aH⟩)
   all_goals simp only[go_sem, ↓reduceIte,Nat.reduceEqDiff,Nat.reduceAdd,Nat.reduceSub,Nat.reduceLeDiff,reduceCtorEq,AD,ag0,a0,a1,a3,a6,vb,ob,ad]
 ·have hk4:k=4:=ae
  subst hk4
  (try((repeat(revert N;apply Pn.out));refine wk (tw @AD (tw @ag0 (tw @a0 (tw @a1 (tw @a3 (tw @a6 (tw @hk @ah.eq_1))))))) ?_;(repeat(apply Pn.mk;intro N hN))))
  refine cm (fun n env st=>∃i:Nat,n=(s.aj.length)-i/\i<=(s.aj.length)/\env 13=.int .i64 (i:Int)/\(st_a.next<=st.next/\st.get o=some ⟨true,1,(qq s (eM l) p 4).map aM⟩/\∃u:Id,env 12=.own u 0 (mb (Cu s l T) p i).length/\st.get u=some ⟨true,1,(mb (Cu s l T) p i).map aM⟩/\st_a.next<=u.bq/\u.bq<st.next)) (s.aj.length) ⟨0,ae,ae,sl (tw @AD (tw @ag0 (tw @a0 (tw @a1 (tw @a3 (tw @a6 (tw @a9 @ah.eq_1))))))),by(try dsimp only);exact⟨ae,sd (tw @vo @ag),⟨196009000,st_a.next+1⟩,sl @Nat.zero_add,sl @Nat.zero_add,aH,aH⟩⟩ ?_
  rintro n_b env_b st_b ⟨i,rfl,ble,yp,bI0⟩ eS
  have b0:=eS 0 (by kernel_rfl);have b1:=eS 1 (by kernel_rfl);have b3:=eS 3 (by kernel_rfl);have b9:=eS 9 (by kernel_rfl)
  simp only[go_sem, ↓reduceIte,Nat.reduceEqDiff,Nat.reduceAdd,Nat.reduceSub,Nat.reduceLeDiff,reduceCtorEq,AD,ag0,a0,a1,a3,a6,a9,ah]at b0 b1 b3 b9
  clear eS
  obtain⟨bn,bo,u,Gs,bu,bum,bux⟩:=bI0
  have vob:=bZ (i:=o) (n:=st_b.next) ae
  have vub:=bZ bux
  have Kj:=uf (Cu s l T) p i
  have ou:=ei (a:=o) (b:=u) ae
  by_cases hi:(i:Int)<(s.aj.length:Int)
  ·have fb:∀{e:Env} {gg:Rows} {nx:Nat},(e 13=.int .i64 (IntKind.i64.wrap ((i:Int)+1)))->(st_a.next<=nx/\gg o=some ⟨true,1,(qq s (eM l) p 4).map aM⟩/\∃u:Id,e 12=.own u 0 (mb (Cu s l T) p (i+1)).length/\gg u=some ⟨true,1,(mb (Cu s l T) p (i+1)).map aM⟩/\st_a.next<=u.bq/\u.bq<nx)->∃m0,m0<(s.aj.length)-i/\∃i:Nat,m0=(s.aj.length)-i/\i<=(s.aj.length)/\e 13=.int .i64 (i:Int)/\(st_a.next<=nx/\gg o=some ⟨true,1,(qq s (eM l) p 4).map aM⟩/\∃u:Id,e 12=.own u 0 (mb (Cu s l T) p i).length/\gg u=some ⟨true,1,(mb (Cu s l T) p i).map aM⟩/\st_a.next<=u.bq/\u.bq<nx):=fun x1 x2=>⟨_,ae,i+1,rfl,ae,(by rw[x1,bf ae]),x2⟩
   have gV:i<s.aj.length:=ae
   have htb:=Ak gV
   obtain⟨t0,t1,t2⟩:=oq htb
   rw[Int.toNat_natCast]at t1
   have DT:dw s (eM l) p i 0=0:=rfl
   (try((repeat(revert N;apply Pn.out));refine wk (tw @yp (tw @b0 (tw @b1 (tw @b3 (tw @b9 @hi))))) ?_;(repeat(apply Pn.mk;intro N hN))))
   refine cm (fun n env st=>∃j:Nat,n=(4)-j/\j<=(4)/\env 15=.int .i64 (j:Int)/\env 14=.int .i64 (dw s (eM l) p i j)/\(st_b.next<=st.next/\∀x:Id,x.bq<st_b.next->st.get x=st_b.get x)) (4) ⟨0,ae,ae,sl (tw @yp (tw @b0 (tw @b1 (tw @b3 (tw @b9 (tw @a9 (tw @DT @ah.eq_1))))))),sl (tw @yp (tw @b0 (tw @b1 (tw @b3 (tw @b9 (tw @a9 (tw @DT @ah.eq_1))))))),by(try dsimp only);exact⟨ae,fun x hx=>by
    have h1:=bZ hx
    simp only[go_sem, ↓reduceIte,Nat.reduceEqDiff,Nat.reduceAdd,Nat.reduceSub,Nat.reduceLeDiff,reduceCtorEq,h1]⟩⟩ ?_
   rintro n_c env_c st_c ⟨j,rfl,cle,c15,c14,cI0⟩ kE
   have c0:=kE 0 (by kernel_rfl);have c3:=kE 3 (by kernel_rfl);have c9:=kE 9 (by kernel_rfl);have xt:=kE 12 (by kernel_rfl);have G1:=kE 13 (by kernel_rfl)
   simp only[go_sem, ↓reduceIte,Nat.reduceEqDiff,Nat.reduceAdd,Nat.reduceSub,Nat.reduceLeDiff,reduceCtorEq,yp,b0,b1,b3,b9,a9,DT,ah]at c0 c3 c9 xt G1
   clear kE
   obtain⟨cn,kE⟩:=cI0
   have go:=(kE o ae).trans bo
   have gu:=(kE u bux).trans bu
   have Yd:=bZ (i:=o) (n:=st_c.next) ae
   have vuc:=bZ (i:=u) (n:=st_c.next) ae
   by_cases hj:(j:Int)<4
   ·have jv:∀{e:Env} {gg:Rows} {nx:Nat},(e 15=.int .i64 (IntKind.i64.wrap ((j:Int)+1)))->(e 14=.int .i64 (dw s (eM l) p i (j+1)))->(st_b.next<=nx/\∀x:Id,x.bq<st_b.next->gg x=st_b.get x)->∃m0,m0<(4)-j/\∃j:Nat,m0=(4)-j/\j<=(4)/\e 15=.int .i64 (j:Int)/\e 14=.int .i64 (dw s (eM l) p i j)/\(st_b.next<=nx/\∀x:Id,x.bq<st_b.next->gg x=st_b.get x):=fun x1 x2 x3=>⟨_,ae,j+1,rfl,ae,(by rw[x1,bf ae]),x2,x3⟩
    have hdj:ik (j:Int) 0 3=true:=jU ae
    have TB:(j:Int)<((4:Nat):Int):=ae
    have s1:=qG (hF.Ad _ t2) hdj
    rw[Int.toNat_natCast]at s1
    have Xf:=MI (s:=s) (F:=eM l) (p:=p) (k:=4) (d:=j) ae
    have Ar:((qq s (eM l) p 4).map aM).length=4:=by rw[List.length_map,ES]
    have ed:=J0 hF Tp (p:=p) htb (d:=j) ae
    have pN:=lD hS (eM l) p i (j+1)
    have hbj:=lD hS (eM l) p i j
    have jt:=PN hF Tp p (d:=j) ae
    have Zb:=AU s (qp s (eM l) p j) jt.1 jt.2
    rw[ah]at Zb
    by_cases he:er (eu s i) j=qp s (eM l) p j
    ·have EY:decide (er (eu s i) j=qp s (eM l) p j)=true:=decide_eq_true he
     rw[if_pos he]at ed
     have hw:IntKind.i64.wrap (dw s (eM l) p i j+tJ s (qp s (eM l) p j))=dw s (eM l) p i (j+1):=by rw[<-ed,db ae]
     (have zF:=tw @c15 (tw @c14 (tw @c0 (tw @c3 (tw @c9 (tw @xt (tw @G1 (tw @hj (tw @TB (tw @t1 (tw @s1 (tw @Xf (tw @go (tw @Yd (tw @EY (tw @ah.eq_1 @dx.eq_1)))))))))))))));(repeat(first|((repeat(revert N;apply Pn.out));refine wk zF ?_;(repeat(apply Pn.mk;intro N hN)))|((try apply Or.inl);refine⟨_,aw.x (Zb) (sd zF),?_⟩;apply hN;clear hN N)));try clear zF)
     refine jv ?_ ?_ (by(try dsimp only);exact⟨ae,fun x hx=>by exact kE x hx⟩)
     all_goals simp only[go_sem, ↓reduceIte,Nat.reduceEqDiff,Nat.reduceAdd,Nat.reduceSub,Nat.reduceLeDiff,reduceCtorEq,c15,c14,c0,c3,c9,xt,G1,hw,ah]
    ·have EY:decide (er (eu s i) j=qp s (eM l) p j)=false:=decide_eq_false he
     rw[if_neg he]at ed
     (try((repeat(revert N;apply Pn.out));refine wk (tw @c15 (tw @c14 (tw @c0 (tw @c3 (tw @c9 (tw @xt (tw @G1 (tw @hj (tw @TB (tw @t1 (tw @s1 (tw @Xf (tw @go (tw @Yd (tw @EY (tw @ah.eq_1 @dx.eq_1)))))))))))))))) ?_;(repeat(apply Pn.mk;intro N hN))))
     refine jv ?_ ?_ (by(try dsimp only);exact⟨ae,fun x hx=>by exact kE x hx⟩)
     all_goals simp only[go_sem, ↓reduceIte,Nat.reduceEqDiff,Nat.reduceAdd,Nat.reduceSub,Nat.reduceLeDiff,reduceCtorEq,c15,c14,c0,c3,c9,xt,G1,ed,ah]
   ·have hj4:j=4:=ae
    subst hj4
    have hbe:dw s (eM l) p i 4=jE s (eM l) p i:=rfl
    have oM:mb (Cu s l T) p (i+1)=if Cu s l T p i=true then mb (Cu s l T) p i++[(i:Int)]else mb (Cu s l T) p i:=rfl
    have pM:Cu s l T p i=decide (T<=jE s (eM l) p i):=rfl
    generalize mb (Cu s l T) p i=L at oM Gs bu Kj gu
    cases hb:Cu s l T p i
    ·rw[hb,if_neg (by simp)]at oM
     rw[hb]at pM
     (try((repeat(revert N;apply Pn.out));refine wk (tw @c15 (tw @c14 (tw @c0 (tw @c3 (tw @c9 (tw @xt (tw @G1 (tw @hj (tw @hbe @pM.symm))))))))) ?_;(repeat(apply Pn.mk;intro N hN))))
     exact fb (sd (tw @yp (tw @b0 (tw @b1 (tw @b3 (tw @b9 (tw @c15 (tw @c14 (tw @c0 (tw @c3 (tw @c9 (tw @xt (tw @G1 @ah.eq_1))))))))))))) (by(try dsimp only);exact⟨ae,go,⟨u,by rw[oM];simp only[go_sem, ↓reduceIte,Nat.reduceEqDiff,Nat.reduceAdd,Nat.reduceSub,Nat.reduceLeDiff,reduceCtorEq,c15,c14,c0,c3,c9,xt,G1,Gs],by rw[oM];simp only[go_sem, ↓reduceIte,Nat.reduceEqDiff,Nat.reduceAdd,Nat.reduceSub,Nat.reduceLeDiff,reduceCtorEq,gu],ae,aH⟩⟩)
    ·rw[hb,if_pos rfl]at oM
     rw[hb]at pM
     have fc:(L.map aM).length=L.length:=by simp
     have YL:L.length<=16777215:=ae
     have qY:(L++[(i:Int)]).length=L.length+1:=by simp
     have ly:(L++[(i:Int)]).map aM=L.map aM++[[.int .i64 i]]:=by rw[List.map_append];rfl
     (try((repeat(revert N;apply Pn.out));refine wk (tw @c15 (tw @c14 (tw @c0 (tw @c3 (tw @c9 (tw @xt (tw @G1 (tw @hj (tw @hbe (tw @pM.symm (tw @Gs (tw @gu (tw @vuc (tw @fc (tw @YL (tw @Yd @ou)))))))))))))))) ?_;(repeat(apply Pn.mk;intro N hN))))
     exact fb (sd (tw @yp (tw @b0 (tw @b1 (tw @b3 (tw @b9 (tw @c15 (tw @c14 (tw @c0 (tw @c3 (tw @c9 (tw @xt (tw @G1 @ah.eq_1))))))))))))) (by(try dsimp only);exact⟨ae,sd (tw @go (tw @Yd @ou)),⟨⟨196020003,st_c.next+1+1⟩,by rw[oM,qY];simp only[go_sem, ↓reduceIte,Nat.reduceEqDiff,Nat.reduceAdd,Nat.reduceSub,Nat.reduceLeDiff,reduceCtorEq]<;>rfl,by rw[oM,ly];simp only[go_sem, ↓reduceIte,Nat.reduceEqDiff,Nat.reduceAdd,Nat.reduceSub,Nat.reduceLeDiff,reduceCtorEq]<;>rfl,aH,aH⟩⟩)
  ·have nR:i=s.aj.length:=ae
   subst nR
   (try((repeat(revert N;apply Pn.out));refine wk (tw @yp (tw @b0 (tw @b1 (tw @b3 (tw @b9 (tw @hi @Gs)))))) ?_;(repeat(apply Pn.mk;intro N hN))))
   exact qE (.inl rfl) (vs:=[.own u 0 (mb (Cu s l T) p s.aj.length).length]) (sd @Gs) (by
    simp only[hZ]
    exact eT (e:=aM) (n:=5) bu rfl fun x=>by simp[aM,bx,cw,ej])
noncomputable def iv (s:au) (ts:List aa) (q:ai):List Int:=mb (ee s ts) q s.aD.aj.length
def jr (σ:ax) (O:Id) (s:au) (ts:List aa) (A:ai->Prop) (g:Rows) (n:Nat):Prop:=σ.next<=n/\(∀x:Id,x.bq<σ.next->x≠O->g x=σ.get x)/\∃es:List En,g O=some ⟨true,mP.j4,es.map pG⟩/\yg g n es (iv s ts) A
theorem jr.xO {σ:ax} {g:Rows} {n:Nat} {c T O:Id} {s s':au} {ts Pf:List aa} {A:ai->Prop} (h:A9 σ.get σ.next c T O s ts) (hc:c≠O) (hT:T≠O) (k:jr σ O s' Pf A g n):A9 g n c T O s ts:=
 h.frame k.1 (k.2.1 _ h.cv hc) (k.2.1 _ h.tv hT)
theorem jr.frame {a:ax} {O:Id} {s:au} {ts:List aa} {A:ai->Prop} {g g':Rows} {n n' m:Nat} (h:jr a O s ts A g n) (ha:n<=m) (ho:O.bq<m) (hn:n<=n') (hf:∀x:Id,x.bq<m->g' x=g x):jr a O s ts A g' n':=by
 refine⟨Nat.le_trans h.1 hn,fun x hx hO=>(hf x (Nat.lt_of_lt_of_le hx (Nat.le_trans h.1 ha))).trans (h.2.1 x hx hO),?_⟩
 obtain⟨es,h1,h2⟩:=h.2.2
 exact⟨es,(hf O ho).trans h1,h2.frame hn fun x hx _=>hf x (Nat.lt_of_lt_of_le hx ha)⟩
theorem z6:¬mP.j4=1:=by decide
theorem jr.put {a:ax} {O:Id} {s:au} {ts:List aa} {A A':ai->Prop} {g g':Rows} {n n':Nat} {es:List En} (h:jr a O s ts A g n) (hg:g O=some ⟨true,mP.j4,es.map pG⟩) (hw:yg g n es (iv s ts) A) (hn:n<=n') (hf:∀x:Id,x.bq<n->x≠O->g' x=g x) {q:ai} {o:Id} (h0:iv s ts q≠[]) (ho:o.bq<n') (As:g' o=some ⟨true,1,(iv s ts q).map aM⟩) (hO:g' O=some ⟨true,mP.j4,(oU es q (.own o 0 (iv s ts q).length)).map pG⟩) (hA:∀p,A' p->A p∨p=q):jr a O s ts A' g' n':=
 ⟨Nat.le_trans h.1 hn,fun x hx zd=>(hf x (Nat.lt_of_lt_of_le hx h.1) zd).trans (h.2.1 x hx zd),_,hO,((hw.frame hn fun x hx hr=>hf x hx (by
  rintro rfl
  obtain⟨k,r,hr⟩:=hr
  rw[hg]at hr
  injection hr with hr
  injection hr with _ hr _
  exact z6 hr)).put h0 ho As).mono hA⟩
theorem jr.cut {a:ax} {O:Id} {s:au} {ts:List aa} {A A':ai->Prop} {g g':Rows} {n n':Nat} {es:List En} (h:jr a O s ts A g n) (hg:g O=some ⟨true,mP.j4,es.map pG⟩) (hw:yg g n es (iv s ts) A) (hn:n<=n') (hf:∀x:Id,x.bq<n->x≠O->g' x=g x) {q:ai} (h0:iv s ts q=[]) (hO:g' O=some ⟨true,mP.j4,(pF es q).map pG⟩) (hA:∀p,A' p->A p∨p=q):jr a O s ts A' g' n':=
 ⟨Nat.le_trans h.1 hn,fun x hx zd=>(hf x (Nat.lt_of_lt_of_le hx h.1) zd).trans (h.2.1 x hx zd),_,hO,((hw.frame hn fun x hx hr=>hf x hx (by
  rintro rfl
  obtain⟨k,r,hr⟩:=hr
  rw[hg]at hr
  injection hr with hr
  injection hr with _ hr _
  exact z6 hr)).cut h0).mono hA⟩
theorem jr.ow {a:ax} {O:Id} {s:au} {ts:List aa} {A:ai->Prop} {g:Rows} {n:Nat} (h:jr a O s ts A g n):kM a O g n:=by
 obtain⟨h1,h2,es,h3,_⟩:=h
 refine⟨h1,h2,_,h3,fun r hr=>?_⟩
 obtain⟨e,_,rfl⟩:=List.mem_map.1 hr
 exact⟨_,_,_,rfl⟩
theorem uz {σ:ax} {c T O:Id} {s:au} {ts:List aa} (h:A9 σ.get σ.next c T O s ts) (hc:c≠O) (hT:T≠O) (A:ai->Prop) (hO:∃es:List En,σ.get O=some ⟨true,mP.j4,es.map pG⟩/\yg σ.get σ.next es (iv s ts) A) (hS:gy s.aD) (hF:∀q,0<=eM ts q->eE s.aD (eM ts q)=true) (p:ai) (hx:iB p.eV) (hy:iB p.eQ):
  Call Tryz.prog 159 [.ptr c 0 0,.agg (ad p)] σ (fun r σ'=>r=.fP []/\jr σ O s ts (fun q=>A q∨∃k:Nat,k<4/\q=bc p k) σ'.get σ'.next):=by
 refine eZ fx rfl fun fD=>?_
 clear fD
 have GB:=hS.uW
 have h0:jr σ O s ts (fun q=>A q∨∃k:Nat,k<0/\q=bc p k) σ.get σ.next:=⟨Nat.le_refl _,fun _ _ _=>rfl,by
  obtain⟨es,h1,h2⟩:=hO
  exact⟨es,h1,h2.mono fun q hq=>hq.elim id fun⟨k,hk,_⟩=>absurd hk (Nat.not_lt_zero k)⟩⟩
 (try((repeat(revert N;apply Pn.out));refine wk @ad.eq_1 ?_;(repeat(apply Pn.mk;intro N hN))))
 refine cm (fun n env st=>∃k:Nat,n=(4)-k/\k<=(4)/\env 8=.int .i64 (k:Int)/\st.get ⟨159000000,σ.next⟩=some ⟨true,2,[ad p]⟩/\(σ.next<st.next/\jr σ O s ts (fun q=>A q∨∃j:Nat,j<k/\q=bc p j) st.get st.next)) (4) ⟨0,ae,ae,sl @ad.eq_1,sl @ad.eq_1,⟨aH,h0.frame (Nat.le_refl _) h.ov aH (fun x hx=>by
  have:=bZ hx
  simp only[go_sem, ↓reduceIte,Nat.reduceEqDiff,Nat.reduceAdd,Nat.reduceSub,Nat.reduceLeDiff,reduceCtorEq,this])⟩⟩ ?_
 rintro n_a env_a st_a ⟨k,rfl,ale,a8,ag0,qN⟩ eF
 have a0:=eF 0 (by kernel_rfl);have a3:=eF 3 (by kernel_rfl)
 simp only[go_sem, ↓reduceIte,Nat.reduceEqDiff,Nat.reduceAdd,Nat.reduceSub,Nat.reduceLeDiff,reduceCtorEq,ad]at a0 a3
 clear eF
 obtain⟨an,ak⟩:=qN
 have ha:=ak.xO h hc hT
 by_cases hk:(k:Int)<4
 ·have eh:∀{e:Env} {gg:Rows} {nx:Nat},(e 8=.int .i64 (IntKind.i64.wrap ((k:Int)+1)))->(gg ⟨159000000,σ.next⟩=some ⟨true,2,[ad p]⟩)->(σ.next<nx/\jr σ O s ts (fun q=>A q∨∃j:Nat,j<(k+1)/\q=bc p j) gg nx)->∃m0,m0<(4)-k/\∃k:Nat,m0=(4)-k/\k<=(4)/\e 8=.int .i64 (k:Int)/\gg ⟨159000000,σ.next⟩=some ⟨true,2,[ad p]⟩/\(σ.next<nx/\jr σ O s ts (fun q=>A q∨∃j:Nat,j<k/\q=bc p j) gg nx):=fun x1 x2 x3=>⟨_,ae,k+1,rfl,ae,(by rw[x1,bf ae]),x2,x3⟩
  have ed:=DF p k (jU ae) hx hy
  obtain⟨b,h1⟩:=ha.row
  have v1:=bZ ha.cv
  (have zF:=tw @a8 (tw @ag0 (tw @a0 (tw @a3 (tw @hk (tw @h1 (tw @v1 @ad.eq_1))))));(repeat(first|((repeat(revert N;apply Pn.out));refine wk zF ?_;(repeat(apply Pn.mk;intro N hN)))|((try apply Or.inl);refine⟨_,aw.x (ed) (sd zF),?_⟩;apply hN;clear hN N)));try clear zF)
  refine cm (fun n env st=>∃t:Nat,n=(s.aD.aj.length)-t/\t<=(s.aD.aj.length)/\env 21=.int .i64 (t:Int)/\st.get ⟨159000000,σ.next⟩=some ⟨true,2,[ad p]⟩/\st.get ⟨159004003,st_a.next+1+1⟩=some ⟨true,2,[ad (bc p k)]⟩/\(st_a.next+3<=st.next/\jr σ O s ts (fun q=>A q∨∃j:Nat,j<k/\q=bc p j) st.get st_a.next/\((mb (ee s ts) (bc p k) t=[]/\env 6=.bj)∨∃o:Id,env 6=.own o 0 (mb (ee s ts) (bc p k) t).length/\st.get o=some ⟨true,1,(mb (ee s ts) (bc p k) t).map aM⟩/\0<(mb (ee s ts) (bc p k) t).length/\st_a.next+3<=o.bq/\o.bq<st.next))) (s.aD.aj.length) ⟨0,ae,ae,sl (tw @a8 (tw @ag0 (tw @a0 (tw @a3 @ad.eq_1)))),sl (tw @a8 (tw @ag0 (tw @a0 (tw @a3 @ad.eq_1)))),sl (tw @a8 (tw @ag0 (tw @a0 (tw @a3 @ad.eq_1)))),⟨aH,ak.frame (Nat.le_refl _) ha.ov (Nat.le_refl _) (fun x hx=>(by
   have:=bZ hx
   simp only[go_sem, ↓reduceIte,Nat.reduceEqDiff,Nat.reduceAdd,Nat.reduceSub,Nat.reduceLeDiff,reduceCtorEq,this])),.inl ⟨rfl,sd @Nat.zero_add⟩⟩⟩ ?_
  rintro n_b env_b st_b ⟨t,rfl,ble,b21,bg0,bg1,bI0⟩ eS
  have b0:=eS 0 (by kernel_rfl);have b3:=eS 3 (by kernel_rfl);have b5:=eS 5 (by kernel_rfl);have b8:=eS 8 (by kernel_rfl);have xr:=eS 20 (by kernel_rfl)
  simp only[go_sem, ↓reduceIte,Nat.reduceEqDiff,Nat.reduceAdd,Nat.reduceSub,Nat.reduceLeDiff,reduceCtorEq,a8,ag0,a0,a3,ad]at b0 b3 b5 b8 xr
  clear eS
  obtain⟨bn,bk,b6⟩:=bI0
  have LC:A9 st_b.get st_b.next c T O s ts:=(bk.xO h hc hT).frame ae rfl rfl
  obtain⟨b2,h2⟩:=LC.row
  have v2:=bZ LC.cv
  have vt:=bZ (i:=⟨159000000,σ.next⟩) (n:=st_b.next) aH
  have vq:=bZ (i:=⟨159004003,st_a.next+1+1⟩) (n:=st_b.next) aH
  by_cases ht:(t:Int)<(s.aD.aj.length:Int)
  ·have fb:∀{e:Env} {gg:Rows} {nx:Nat},(e 21=.int .i64 (IntKind.i64.wrap ((t:Int)+1)))->(gg ⟨159000000,σ.next⟩=some ⟨true,2,[ad p]⟩)->(gg ⟨159004003,st_a.next+1+1⟩=some ⟨true,2,[ad (bc p k)]⟩)->(st_a.next+3<=nx/\jr σ O s ts (fun q=>A q∨∃j:Nat,j<k/\q=bc p j) gg st_a.next/\((mb (ee s ts) (bc p k) (t+1)=[]/\e 6=.bj)∨∃o:Id,e 6=.own o 0 (mb (ee s ts) (bc p k) (t+1)).length/\gg o=some ⟨true,1,(mb (ee s ts) (bc p k) (t+1)).map aM⟩/\0<(mb (ee s ts) (bc p k) (t+1)).length/\st_a.next+3<=o.bq/\o.bq<nx))->∃m0,m0<(s.aD.aj.length)-t/\∃t:Nat,m0=(s.aD.aj.length)-t/\t<=(s.aD.aj.length)/\e 21=.int .i64 (t:Int)/\gg ⟨159000000,σ.next⟩=some ⟨true,2,[ad p]⟩/\gg ⟨159004003,st_a.next+1+1⟩=some ⟨true,2,[ad (bc p k)]⟩/\(st_a.next+3<=nx/\jr σ O s ts (fun q=>A q∨∃j:Nat,j<k/\q=bc p j) gg st_a.next/\((mb (ee s ts) (bc p k) t=[]/\e 6=.bj)∨∃o:Id,e 6=.own o 0 (mb (ee s ts) (bc p k) t).length/\gg o=some ⟨true,1,(mb (ee s ts) (bc p k) t).map aM⟩/\0<(mb (ee s ts) (bc p k) t).length/\st_a.next+3<=o.bq/\o.bq<nx)):=fun x1 x2 x3 x4=>⟨_,ae,t+1,rfl,ae,(by rw[x1,bf ae]),x2,x3,x4⟩
   have TV:t<s.aD.aj.length:=ae
   have Kj:=uf (ee s ts) (bc p k) t
   have oM:mb (ee s ts) (bc p k) (t+1)=if ee s ts (bc p k) t=true then mb (ee s ts) (bc p k) t++[(t:Int)]else mb (ee s ts) (bc p k) t:=rfl
   generalize mb (ee s ts) (bc p k) t=L at b6 Kj oM
   (try((repeat(revert N;apply Pn.out));refine wk (tw @b21 (tw @bg0 (tw @bg1 (tw @b0 (tw @b3 (tw @b5 (tw @b8 (tw @xr (tw @ht (tw @h2 (tw @v2 (tw @vt (tw @vq @ad.eq_1))))))))))))) ?_;(repeat(apply Pn.mk;intro N hN))))
   refine .inl ⟨_,CN (LC.frame aH (sd @v2) (by(have:=bZ LC.tv;simp only[go_sem, ↓reduceIte,Nat.reduceEqDiff,Nat.reduceAdd,Nat.reduceSub,Nat.reduceLeDiff,reduceCtorEq,this]))) hS hF (bc p k) t (Ak TV),?_⟩
   apply hN
   clear hN N
   cases hb:ee s ts (bc p k) t
   ·rw[hb,if_neg (by simp)]at oM
    (try((repeat(revert N;apply Pn.out));refine wk (tw @b21 (tw @bg0 (tw @bg1 (tw @b0 (tw @b3 (tw @b5 (tw @b8 (tw @xr @hb)))))))) ?_;(repeat(apply Pn.mk;intro N hN))))
    refine fb ?_ ?_ ?_ (by(try dsimp only);exact⟨ae,bk.frame (Nat.le_refl _) ha.ov (Nat.le_refl _) (fun x hx=>by
      have h1:=bZ (i:=x) (n:=st_b.next) ae
      simp only[go_sem, ↓reduceIte,Nat.reduceEqDiff,Nat.reduceAdd,Nat.reduceSub,Nat.reduceLeDiff,reduceCtorEq,h1]),by
     rw[oM]
     rcases b6 with⟨hL,h⟩|⟨o,h1,h2,h3,h4,h5⟩
     ·exact .inl ⟨hL,sd @h⟩
     ·have h8:=bZ h5
      exact .inr ⟨o,sd @h1,sd (tw @h2 @h8),h3,h4,ae⟩⟩)
    all_goals simp only[go_sem, ↓reduceIte,Nat.reduceEqDiff,Nat.reduceAdd,Nat.reduceSub,Nat.reduceLeDiff,reduceCtorEq,b21,bg0,bg1,b0,b3,b5,b8,xr,ad,vt,vq]
   ·rw[hb,if_pos rfl]at oM
    have qY:(L++[(t:Int)]).length=L.length+1:=by simp
    have ly:(L++[(t:Int)]).map aM=L.map aM++[[.int .i64 t]]:=by rw[List.map_append];rfl
    rcases b6 with⟨hL,b6⟩|⟨o,b6,bo,o4,o6,o7⟩
    ·subst hL
     (try((repeat(revert N;apply Pn.out));refine wk (tw @b21 (tw @bg0 (tw @bg1 (tw @b0 (tw @b3 (tw @b5 (tw @b8 (tw @xr (tw @b6 @hb))))))))) ?_;(repeat(apply Pn.mk;intro N hN))))
     refine fb ?_ ?_ ?_ (by(try dsimp only);exact⟨ae,bk.frame (Nat.le_refl _) ha.ov (Nat.le_refl _) (fun x hx=>by
      have h1:=bZ (i:=x) (n:=st_b.next) ae
      simp only[go_sem, ↓reduceIte,Nat.reduceEqDiff,Nat.reduceAdd,Nat.reduceSub,Nat.reduceLeDiff,reduceCtorEq,h1]),.inr ⟨⟨159010003,st_b.next+1+1+1⟩,by rw[oM,qY];simp only[go_sem, ↓reduceIte,Nat.reduceEqDiff,Nat.reduceAdd,Nat.reduceSub,Nat.reduceLeDiff,reduceCtorEq]<;>rfl,by rw[oM,ly];simp only[go_sem, ↓reduceIte,Nat.reduceEqDiff,Nat.reduceAdd,Nat.reduceSub,Nat.reduceLeDiff,reduceCtorEq]<;>rfl,by rw[oM,qY];omega,aH,aH⟩⟩)
     all_goals simp only[go_sem, ↓reduceIte,Nat.reduceEqDiff,Nat.reduceAdd,Nat.reduceSub,Nat.reduceLeDiff,reduceCtorEq,b21,bg0,bg1,b0,b3,b5,b8,xr,ad,vt,vq]
    ·have e1:L.length<=16777215:=ae
     have DV:(L.map aM).length=L.length:=by simp
     have vo:=bZ o7
     have vto:=ei (a:=⟨159000000,σ.next⟩) (b:=o) aH
     have vqo:=ei (a:=⟨159004003,st_a.next+1+1⟩) (b:=o) aH
     (try((repeat(revert N;apply Pn.out));refine wk (tw @b21 (tw @bg0 (tw @bg1 (tw @b0 (tw @b3 (tw @b5 (tw @b8 (tw @xr (tw @b6 (tw @bo (tw @hb (tw @e1 (tw @DV @vo))))))))))))) ?_;(repeat(apply Pn.mk;intro N hN))))
     refine fb ?_ ?_ ?_ (by(try dsimp only);exact⟨ae,bk.frame (Nat.le_refl _) ha.ov (Nat.le_refl _) (fun x hx=>by
      have h1:=bZ (i:=x) (n:=st_b.next) ae
      have h2:=ei (a:=x) (b:=o) ae
      simp only[go_sem, ↓reduceIte,Nat.reduceEqDiff,Nat.reduceAdd,Nat.reduceSub,Nat.reduceLeDiff,reduceCtorEq,h1,h2]),.inr ⟨⟨159010003,st_b.next+1+1+1⟩,by rw[oM,qY];simp only[go_sem, ↓reduceIte,Nat.reduceEqDiff,Nat.reduceAdd,Nat.reduceSub,Nat.reduceLeDiff,reduceCtorEq]<;>rfl,by rw[oM,ly];simp only[go_sem, ↓reduceIte,Nat.reduceEqDiff,Nat.reduceAdd,Nat.reduceSub,Nat.reduceLeDiff,reduceCtorEq]<;>rfl,by rw[oM,qY];omega,aH,aH⟩⟩)
     all_goals simp only[go_sem, ↓reduceIte,Nat.reduceEqDiff,Nat.reduceAdd,Nat.reduceSub,Nat.reduceLeDiff,reduceCtorEq,b21,bg0,bg1,b0,b3,b5,b8,xr,ad,vt,vq,vto,vqo]
  ·obtain⟨es,hg,VZ⟩:=bk.2.2
   have vo:=bZ LC.ov
   obtain⟨fi,Aq,uq,Kh,_,_⟩:=wq (bc p k) es
   unfold dr at uq
   unfold dq at Kh
   have hq:((⟨159000000,σ.next⟩:Id)=O)=False:=(ei (a:=O) (b:=⟨159000000,σ.next⟩) (by have:=h.ov;(try dsimp only);omega)).2
   have htt:t=s.aD.aj.length:=ae
   subst htt
   have kF:mb (ee s ts) (bc p k) s.aD.aj.length=iv s ts (bc p k):=rfl
   rw[kF]at b6
   have hAk:∀q,(A q∨∃j:Nat,j<k+1/\q=bc p j)->(A q∨∃j:Nat,j<k/\q=bc p j)∨q=bc p k:=fun q hq=>by
    rcases hq with hq|⟨j,hj,hq⟩
    ·exact .inl (.inl hq)
    ·rcases Nat.lt_or_ge j k with h|h
     ·exact .inl (.inr ⟨j,h,hq⟩)
     ·exact .inr (by rw[hq,show j=k by omega])
   rcases b6 with⟨hL,b6⟩|⟨o,b6,bo,o4,o6,o7⟩
   ·have d0:decide ((0:Int)<((0:Nat):Int))=false:=rfl
    (try((repeat(revert N;apply Pn.out));refine wk (tw @b21 (tw @bg0 (tw @bg1 (tw @b0 (tw @b3 (tw @b5 (tw @b8 (tw @xr (tw @b6 (tw @ht (tw @h2 (tw @v2 (tw @vt (tw @vq (tw @vo (tw @hg (tw @Aq (tw @Kh (tw @ad.eq_1 @d0))))))))))))))))))) ?_;(repeat(apply Pn.mk;intro N hN))))
    refine eh ?_ ?_ (by(try dsimp only);exact⟨ae,bk.cut hg VZ ae (fun x hx zd=>by
     have h1:=bZ (i:=x) (n:=st_b.next) ae
     have h2:(x=O)=False:=eq_false zd
     simp only[go_sem, ↓reduceIte,Nat.reduceEqDiff,Nat.reduceAdd,Nat.reduceSub,Nat.reduceLeDiff,reduceCtorEq,h1,h2]) hL (sl @Kh) hAk⟩)
    all_goals simp only[go_sem, ↓reduceIte,Nat.reduceEqDiff,Nat.reduceAdd,Nat.reduceSub,Nat.reduceLeDiff,reduceCtorEq,a8,ag0,a0,a3,b21,bg0,bg1,b0,b3,b5,b8,xr,ad,vt,vo,hq]
   ·have iI:iv s ts (bc p k)≠[]:=fun e=>by rw[e]at o4;cases o4
    have d1:decide ((0:Int)<((iv s ts (bc p k)).length:Int))=true:=decide_eq_true ae
    have RL:=uq (.own o 0 (iv s ts (bc p k)).length)
    have v8:=bZ o7
    have oO:(o=O)=False:=eq_false (by
     rintro rfl
     rw[hg]at bo
     injection bo with bo
     injection bo with _ bo _
     exact z6 bo)
    (try((repeat(revert N;apply Pn.out));refine wk (tw @b21 (tw @bg0 (tw @bg1 (tw @b0 (tw @b3 (tw @b5 (tw @b8 (tw @xr (tw @b6 (tw @ht (tw @h2 (tw @v2 (tw @vt (tw @vq (tw @vo (tw @hg (tw @Aq (tw @RL (tw @ad.eq_1 @d1))))))))))))))))))) ?_;(repeat(apply Pn.mk;intro N hN))))
    refine eh ?_ ?_ (by(try dsimp only);exact⟨ae,bk.put hg VZ ae (fun x hx zd=>by
     have h1:=bZ (i:=x) (n:=st_b.next) ae
     have h2:(x=O)=False:=eq_false zd
     simp only[go_sem, ↓reduceIte,Nat.reduceEqDiff,Nat.reduceAdd,Nat.reduceSub,Nat.reduceLeDiff,reduceCtorEq,h1,h2]) (o:=o) iI ae (sd (tw @oO (tw @v8 @bo))) (sl @RL) hAk⟩)
    all_goals simp only[go_sem, ↓reduceIte,Nat.reduceEqDiff,Nat.reduceAdd,Nat.reduceSub,Nat.reduceLeDiff,reduceCtorEq,a8,ag0,a0,a3,b21,bg0,bg1,b0,b3,b5,b8,xr,ad,vt,vo,hq]
 ·have hk4:k=4:=ae
  subst hk4
  (try((repeat(revert N;apply Pn.out));refine wk (tw @a8 (tw @ag0 (tw @a0 (tw @a3 @hk)))) ?_;(repeat(apply Pn.mk;intro N hN))))
  exact eo (.inr rfl) (vs:=[]) rfl ⟨rfl,ak.frame (Nat.le_refl _) ha.ov aH (fun x hx=>rfl)⟩
structure rJ (g:Rows) (n:Nat) (c T O:Id) (s:au) (ts:List aa):Prop where
 o:jx g n c T O s ts
 op:∃es:List En,g O=some ⟨true,mP.j4,es.map pG⟩/\yg g n es (iv s ts) (fun _=>True)
theorem rJ.frame {g g':Rows} {n n':Nat} {c T O:Id} {s:au} {ts:List aa} (h:rJ g n c T O s ts) (hn:n<=n') (hf:∀x:Id,x.bq<n->g' x=g x):rJ g' n' c T O s ts:=
 ⟨h.o.frame hn hf,by
  obtain⟨es,h1,h2⟩:=h.op
  exact⟨es,(hf _ h.o.ov).trans h1,h2.frame hn fun x hx _=>hf x hx⟩⟩
theorem jx.R3 {σ:ax} {g:Rows} {n:Nat} {c T O:Id} {s:au} {ts:List aa} {A:ai->Prop} (h:jx σ.get σ.next c T O s ts) (k:jr σ O s ts A g n):jx g n c T O s ts:=h.look k.ow
theorem Mw {s:au} (hT:1<=s.aE) {ts:List aa} {q:ai} (h:∀t∈ts,∀k:Nat,k<4->q≠bc t.aI k):iv s ts q=[]:=by
 unfold iv
 refine CO (fun t=>?_) _
 cases hb:ee s ts q t
 ·rfl
 ·exfalso
  simp[ee]at hb
  obtain⟨⟨h1,h2⟩,h3⟩:=hb
  obtain⟨k,hk,h4⟩:=bind_some (s:=s.aD) (F:=eM ts) (p:=q) (t:=t) 4 (by have:jE s.aD (eM ts) q t=dw s.aD (eM ts) q t 4:=rfl;omega)
  have h5:0<=dm ts (bc q k):=by
   unfold eM at h4
   split at h4
   ·assumption
   ·omega
  obtain⟨h6,h7⟩:=iC h5
  have AO:(km k).toNat<4/\((km k).toNat:Int)=km k:=by
   have:k=0∨k=1∨k=2∨k=3:=ae
   rcases this with rfl|rfl|rfl|rfl<;>decide
  refine h _ (fH h6) (km k).toNat AO.1 ?_
  rw[h7,AO.2,rH q k hk]
theorem FZ {l:List aa} {t:aa} (h:t∈l):∃j,j<l.length/\t=aA l j:=by
 obtain⟨j,hj,rfl⟩:=List.getElem_of_mem h
 exact⟨j,hj,(ez hj).symm⟩
def GP (s:au) (l:List aa) (j:Nat) (q:ai):Prop:=iv s l q=[]/\(∀i:Nat,i<l.length->∀k:Nat,k<4->q≠bc (aA l i).aI k)∨∃i:Nat,i<j/\∃k:Nat,k<4/\q=bc (aA l i).aI k
theorem Ou {s:au} (hT:1<=s.aE) (l:List aa) (q:ai):GP s l l.length q:=by
 by_cases h:∃i:Nat,i<l.length/\∃k:Nat,k<4/\q=bc (aA l i).aI k
 ·exact .inr h
 ·have h2:∀i:Nat,i<l.length->∀k:Nat,k<4->q≠bc (aA l i).aI k:=fun i hi k hk e=>h ⟨i,hi,k,hk,e⟩
  exact .inl ⟨Mw hT fun t ht k hk=>by
   obtain⟨j,hj,rfl⟩:=FZ ht
   exact h2 j hj k hk,h2⟩
def ZE (σ:ax) (s:au) (ts:List aa) (r:AV) (σ':ax):Prop:=
 ∃c T O:Id,r=.ptr c 0 0/\rJ σ'.get σ'.next c T O s ts/\σ.next<=c.bq/\σ.next<=T.bq/\σ.next<=O.bq/\σ.next<=σ'.next/\∀x:Id,x.bq<σ.next->σ'.get x=σ.get x
theorem Dn (s:au) (hS:gy s.aD) (hT1:1<=s.aE) (l:List aa) (hA:gx s.aD l) (σ:ax):Call Tryz.prog 94 [.agg (ck s),.agg [.sl (l.map ab)]] σ (ZE σ s l):=by
 refine eZ fx rfl fun fD=>?_
 clear fD
 have AM:=hA.1.pL
 (try((repeat(revert N;apply Pn.out));refine wk @ck.eq_1 ?_;(repeat(apply Pn.mk;intro N hN))))
 refine cm (fun n env st=>∃k:Nat,n=(l.length)-k/\k<=(l.length)/\env 18=.int .i64 (k:Int)/\st.get ⟨94001004,σ.next+1⟩=some ⟨true,6,[[.sl (s.aD.bh.map dZ),.sl (s.aD.aj.map dx),.sl (s.bH.aj.map ab),.int .i64 s.aE,.map ⟨94001001,σ.next+1⟩ mP,.map ⟨94001002,σ.next+1⟩ mP]]⟩/\st.get ⟨94001001,σ.next+1⟩=some ⟨true,mP.j4,(l.take k).map ab⟩/\st.get ⟨94001002,σ.next+1⟩=some ⟨true,mP.j4,[]⟩/\st.get ⟨94000001,σ.next⟩=some ⟨true,1,[[.sl (l.map ab)]]⟩/\(σ.next+3<=st.next/\∀x:Id,x.bq<σ.next->st.get x=σ.get x)) (l.length) ⟨0,ae,ae,sl @Nat.zero_add,sl @Nat.zero_add,sl @Nat.zero_add,sl @Nat.zero_add,sl @Nat.zero_add,⟨aH,fun x hx=>by
  have:=bZ hx
  simp only[go_sem, ↓reduceIte,Nat.reduceEqDiff,Nat.reduceAdd,Nat.reduceSub,Nat.reduceLeDiff,reduceCtorEq,this]⟩⟩ ?_
 rintro n_a env_a st_a ⟨k,rfl,ale,a18,ag0,ag1,ag2,ag3,qN⟩ eF
 have a3:=eF 3 (by kernel_rfl);have a5:=eF 5 (by kernel_rfl);have JG:=eF 16 (by kernel_rfl);have a17:=eF 17 (by kernel_rfl)
 simp only[go_sem, ↓reduceIte,Nat.reduceEqDiff,Nat.reduceAdd,Nat.reduceSub,Nat.reduceLeDiff,reduceCtorEq]at a3 a5 JG a17
 clear eF
 obtain⟨an,eF⟩:=qN
 have v1:=bZ (i:=⟨94001004,σ.next+1⟩) (n:=st_a.next) aH
 have v2:=bZ (i:=⟨94001001,σ.next+1⟩) (n:=st_a.next) aH
 have v3:=bZ (i:=⟨94001002,σ.next+1⟩) (n:=st_a.next) aH
 have v4:=bZ (i:=⟨94000001,σ.next⟩) (n:=st_a.next) aH
 by_cases hk:(k:Int)<(l.length:Int)
 ·have eh:∀{e:Env} {gg:Rows} {nx:Nat},(e 18=.int .i64 (IntKind.i64.wrap ((k:Int)+1)))->(gg ⟨94001004,σ.next+1⟩=some ⟨true,6,[[.sl (s.aD.bh.map dZ),.sl (s.aD.aj.map dx),.sl (s.bH.aj.map ab),.int .i64 s.aE,.map ⟨94001001,σ.next+1⟩ mP,.map ⟨94001002,σ.next+1⟩ mP]]⟩)->(gg ⟨94001001,σ.next+1⟩=some ⟨true,mP.j4,(l.take (k+1)).map ab⟩)->(gg ⟨94001002,σ.next+1⟩=some ⟨true,mP.j4,[]⟩)->(gg ⟨94000001,σ.next⟩=some ⟨true,1,[[.sl (l.map ab)]]⟩)->(σ.next+3<=nx/\∀x:Id,x.bq<σ.next->gg x=σ.get x)->∃m0,m0<(l.length)-k/\∃k:Nat,m0=(l.length)-k/\k<=(l.length)/\e 18=.int .i64 (k:Int)/\gg ⟨94001004,σ.next+1⟩=some ⟨true,6,[[.sl (s.aD.bh.map dZ),.sl (s.aD.aj.map dx),.sl (s.bH.aj.map ab),.int .i64 s.aE,.map ⟨94001001,σ.next+1⟩ mP,.map ⟨94001002,σ.next+1⟩ mP]]⟩/\gg ⟨94001001,σ.next+1⟩=some ⟨true,mP.j4,(l.take k).map ab⟩/\gg ⟨94001002,σ.next+1⟩=some ⟨true,mP.j4,[]⟩/\gg ⟨94000001,σ.next⟩=some ⟨true,1,[[.sl (l.map ab)]]⟩/\(σ.next+3<=nx/\∀x:Id,x.bq<σ.next->gg x=σ.get x):=fun x1 x2 x3 x4 x5 x6=>⟨_,ae,k+1,rfl,ae,(by rw[x1,bf ae]),x2,x3,x4,x5,x6⟩
  have jg:k<l.length:=ae
  have hg:=fM jg
  have hm:=mA (Gi hA.1.xY jg)
  have qv:=Jt jg
  (try((repeat(revert N;apply Pn.out));refine wk (tw @a18 (tw @ag0 (tw @ag1 (tw @ag2 (tw @ag3 (tw @a3 (tw @a5 (tw @JG (tw @a17 (tw @hk (tw @hg (tw @hm (tw @v1 (tw @v2 (tw @v3 (tw @v4 @ab.eq_1)))))))))))))))) ?_;(repeat(apply Pn.mk;intro N hN))))
  refine eh ?_ ?_ ?_ ?_ ?_ (by(try dsimp only);exact⟨ae,fun x hx=>by
   have h1:=bZ (i:=x) (n:=st_a.next) ae
   have h2:=ei (a:=x) (b:=⟨94001001,σ.next+1⟩) aH
   have h3:=eF x hx
   simp only[go_sem, ↓reduceIte,Nat.reduceEqDiff,Nat.reduceAdd,Nat.reduceSub,Nat.reduceLeDiff,reduceCtorEq,h1,h2,h3]⟩)
  all_goals simp only[go_sem, ↓reduceIte,Nat.reduceEqDiff,Nat.reduceAdd,Nat.reduceSub,Nat.reduceLeDiff,reduceCtorEq,a18,ag0,ag1,ag2,ag3,a3,a5,JG,a17,ab,v1,v2,v3,v4,qv]
 ·have oy:k=l.length:=ae
  subst oy
  have oN:l.take l.length=l:=List.take_length
  (try((repeat(revert N;apply Pn.out));refine wk (tw @a18 (tw @ag0 (tw @ag1 (tw @ag2 (tw @ag3 (tw @a3 (tw @a5 (tw @JG (tw @a17 (tw @hk (tw @v1 (tw @v2 (tw @v3 @v4))))))))))))) ?_;(repeat(apply Pn.mk;intro N hN))))
  refine cm (fun n env st=>∃j:Nat,n=(l.length)-j/\j<=(l.length)/\env 34=.int .i64 (j:Int)/\(σ.next+3<=st.next/\jx st.get st.next ⟨94001004,σ.next+1⟩ ⟨94001001,σ.next+1⟩ ⟨94001002,σ.next+1⟩ s l/\(∀x:Id,x.bq<σ.next->st.get x=σ.get x)/\∃es:List En,st.get ⟨94001002,σ.next+1⟩=some ⟨true,mP.j4,es.map pG⟩/\yg st.get st.next es (iv s l) (GP s l j))) (l.length) ⟨0,ae,ae,sl (tw @a18 (tw @ag0 (tw @ag1 (tw @ag2 (tw @ag3 (tw @a3 (tw @a5 (tw @JG @a17)))))))),by(try dsimp only);exact⟨ae,⟨sd @ag0,sd (tw @ag1 @oN),⟨[],sd @ag2,by intro r hr;cases hr⟩,aH,aH,aH,(by intro e;injection e with e1 e2;revert e1;decide),(by intro e;injection e with e1 e2;revert e1;decide),(by intro e;injection e with e1 e2;revert e1;decide)⟩,fun x hx=>by
   have h3:=eF x hx
   simp only[go_sem, ↓reduceIte,Nat.reduceEqDiff,Nat.reduceAdd,Nat.reduceSub,Nat.reduceLeDiff,reduceCtorEq,h3],[],sl @ag2,List.nodup_nil,fun q hq=>.inl ⟨by
    rcases hq with hq|⟨i,hi,_⟩
    ·exact hq.1
    ·exact absurd hi (Nat.not_lt_zero i),fun e he=>by cases he⟩⟩⟩ ?_
  rintro n_b env_b st_b ⟨j,rfl,ble,b34,bI0⟩ eS
  have b5:=eS 5 (by kernel_rfl);have si:=eS 32 (by kernel_rfl);have sO:=eS 33 (by kernel_rfl)
  simp only[go_sem, ↓reduceIte,Nat.reduceEqDiff,Nat.reduceAdd,Nat.reduceSub,Nat.reduceLeDiff,reduceCtorEq,a18,ag0,ag1,ag2,ag3,a3,a5,JG,a17]at b5 si sO
  clear eS
  obtain⟨bn,bC,eS,es,bO,bS⟩:=bI0
  by_cases hj:(j:Int)<(l.length:Int)
  ·have fb:∀{e:Env} {gg:Rows} {nx:Nat},(e 34=.int .i64 (IntKind.i64.wrap ((j:Int)+1)))->(σ.next+3<=nx/\jx gg nx ⟨94001004,σ.next+1⟩ ⟨94001001,σ.next+1⟩ ⟨94001002,σ.next+1⟩ s l/\(∀x:Id,x.bq<σ.next->gg x=σ.get x)/\∃es:List En,gg ⟨94001002,σ.next+1⟩=some ⟨true,mP.j4,es.map pG⟩/\yg gg nx es (iv s l) (GP s l (j+1)))->∃m0,m0<(l.length)-j/\∃j:Nat,m0=(l.length)-j/\j<=(l.length)/\e 34=.int .i64 (j:Int)/\(σ.next+3<=nx/\jx gg nx ⟨94001004,σ.next+1⟩ ⟨94001001,σ.next+1⟩ ⟨94001002,σ.next+1⟩ s l/\(∀x:Id,x.bq<σ.next->gg x=σ.get x)/\∃es:List En,gg ⟨94001002,σ.next+1⟩=some ⟨true,mP.j4,es.map pG⟩/\yg gg nx es (iv s l) (GP s l j)):=fun x1 x2=>⟨_,ae,j+1,rfl,ae,(by rw[x1,bf ae]),x2⟩
   have pQ:j<l.length:=ae
   have hg:=fM pQ
   have C6:=oR (hA.1.pt pQ)
   (try((repeat(revert N;apply Pn.out));refine wk (tw @b34 (tw @b5 (tw @si (tw @sO (tw @hj (tw @hg @ab.eq_1)))))) ?_;(repeat(apply Pn.mk;intro N hN))))
   have hG:∀x:Id,x.bq<st_b.next->(bI (bI st_b.get ⟨94009002,st_b.next+1⟩ ⟨true,3,[[.int .i64 0,.int .i64 0,.int .i64 0]]⟩) ⟨94009002,st_b.next+1⟩ ⟨true,3,[[.int .i64 (aA l j).aI.eV,.int .i64 (aA l j).aI.eQ,.int .i64 (aA l j).aY]]⟩) x=st_b.get x:=fun x hx=>by
    have h1:=bZ hx
    simp only[go_sem, ↓reduceIte,Nat.reduceEqDiff,Nat.reduceAdd,Nat.reduceSub,Nat.reduceLeDiff,reduceCtorEq,h1]
   have DS:jx (bI (bI st_b.get ⟨94009002,st_b.next+1⟩ ⟨true,3,[[.int .i64 0,.int .i64 0,.int .i64 0]]⟩) ⟨94009002,st_b.next+1⟩ ⟨true,3,[[.int .i64 (aA l j).aI.eV,.int .i64 (aA l j).aI.eQ,.int .i64 (aA l j).aY]]⟩) (st_b.next+1+1+1) ⟨94001004,σ.next+1⟩ ⟨94001001,σ.next+1⟩ ⟨94001002,σ.next+1⟩ s l:=bC.frame ae hG
   refine .inr (ay _ _ _ _ _ (fun r σ1 hq=>?_) (uz (σ:=⟨bI (bI st_b.get ⟨94009002,st_b.next+1⟩ ⟨true,3,[[.int .i64 0,.int .i64 0,.int .i64 0]]⟩) ⟨94009002,st_b.next+1⟩ ⟨true,3,[[.int .i64 (aA l j).aI.eV,.int .i64 (aA l j).aI.eQ,.int .i64 (aA l j).aY]]⟩,st_b.next+1+1+1⟩) DS.xO DS.cO DS.TO (GP s l j) ⟨es,(hG _ aH).trans bO,bS.frame aH fun x hx _=>hG x hx⟩ hS (gy.Bg hA) (aA l j).aI C6.1 C6.2))
   obtain⟨g1,x1⟩:=σ1
   obtain⟨rfl,hL⟩:=hq
   (try dsimp only at hL)
   have oL:=DS.R3 hL
   have hLn:=hL.1
   have WK:=hL.2.1
   obtain⟨ZX,WN,MM⟩:=hL.2.2
   (try dsimp only at hLn WK)
   have hAj:∀q,GP s l (j+1) q->GP s l j q∨∃k:Nat,k<4/\q=bc (aA l j).aI k:=fun q hq=>by
    rcases hq with hq|⟨i,hi,hq⟩
    ·exact .inl (.inl hq)
    ·rcases Nat.lt_or_ge i j with h|h
     ·exact .inl (.inr ⟨i,h,hq⟩)
     ·exact .inr (by rw[show i=j by omega]at hq;exact hq)
   apply hN
   clear hN N
   (try((repeat(revert N;apply Pn.out));refine wk (tw @b34 (tw @b5 (tw @si @sO))) ?_;(repeat(apply Pn.mk;intro N hN))))
   exact fb (sd (tw @b34 (tw @b5 (tw @si @sO)))) (by(try dsimp only);exact⟨ae,oL.frame ae (fun x hx=>rfl),fun x hx=>by
    have h1:=bZ (i:=x) (n:=st_b.next) ae
    have h2:=WK x ae (fun e=>by rw[e]at hx;(try dsimp only at hx);omega)
    have h3:=eS x hx
    simp only[h2]
    simp only[go_sem, ↓reduceIte,Nat.reduceEqDiff,Nat.reduceAdd,Nat.reduceSub,Nat.reduceLeDiff,reduceCtorEq,h1,h3],ZX,WN,(MM.frame ae fun x hx _=>rfl).mono hAj⟩)
  ·have iX:j=l.length:=ae
   subst iX
   (try((repeat(revert N;apply Pn.out));refine wk (tw @b34 (tw @b5 (tw @si (tw @sO @hj)))) ?_;(repeat(apply Pn.mk;intro N hN))))
   exact eo (.inl rfl) (vs:=[.ptr ⟨94001004,σ.next+1⟩ 0 0]) (sd @Nat.zero_add) ⟨_,_,_,rfl,⟨bC.frame aH (fun x hx=>rfl),es,bO,(bS.frame aH fun x hx _=>rfl).mono fun q _=>Ou hT1 l q⟩,aH,aH,aH,aH,eS⟩
theorem J3 {s:au} {ts:List aa} {p q:ai} {t:Int} (h0:dm ts p<0) (hqp:q≠p) (hn:∀k:Nat,k<4->q≠bc p k):iv s (ts++[⟨p,t⟩]) q=iv s ts q:=by
 unfold iv
 have lT:=iZ.1 h0
 have pw:∀x,x≠p->eM (ts++[⟨p,t⟩]) x=eM ts x:=fun x hx=>by
  rw[qO (q:=⟨p,t⟩) x lT]
  exact if_neg fun e=>hx e.symm
 have ed:∀k:Nat,k<4->bc q k≠p:=fun k hk e=>by
  have AO:(km k).toNat<4/\((km k).toNat:Int)=km k:=by
   have:k=0∨k=1∨k=2∨k=3:=ae
   rcases this with rfl|rfl|rfl|rfl<;>decide
  refine hn _ AO.1 ?_
  rw[AO.2,<-e,rH q k hk]
 have hb:∀(u:Int) (d:Nat),d<=4->dw s.aD (eM (ts++[⟨p,t⟩])) q u d=dw s.aD (eM ts) q u d:=fun u d=>by
  induction d with
  |zero=>intro _;rfl
  |succ d ih=>
   intro hd
   rw[dw,dw,ih ae,pw _ (ed d ae)]
 refine qT (fun k=>?_) _
 unfold ee
 rw[pw q hqp,show jE s.aD (eM (ts++[⟨p,t⟩])) q k=jE s.aD (eM ts) q k from hb k 4 (Nat.le_refl _)]
theorem J4 {s:au} {ts:List aa} {p:ai} {t:Int} (h0:dm ts p<0) (ht:0<=t):iv s (ts++[⟨p,t⟩]) p=[]:=by
 unfold iv
 refine CO (fun k=>?_) _
 have:¬eM (ts++[⟨p,t⟩]) p<0:=by
  rw[qO (q:=⟨p,t⟩) p (iZ.1 h0),if_pos rfl]
  show ¬t<0
  omega
 simp[ee,this]
theorem X2 {σ:ax} {c T O:Id} {s:au} {ts:List aa} (h:rJ σ.get σ.next c T O s ts) (hS:gy s.aD) (hF:∀q,0<=eM ts q->eE s.aD (eM ts q)=true) (p:ai) (hp:xG p=true) (t:Int) (ht:eE s.aD t=true) (h0:dm ts p<0):
  Call Tryz.prog 102 [.ptr c 0 0,.agg (ad p),.int .i64 t] σ (fun r σ'=>r=.fP []/\rJ σ'.get σ'.next c T O s (ts++[⟨p,t⟩])/\σ.next<=σ'.next/\∀x:Id,x.bq<σ.next->x≠T->x≠O->σ'.get x=σ.get x):=by
 refine eZ fx rfl fun fD=>?_
 clear fD
 obtain⟨hx,hy⟩:=oR hp
 have lT:=iZ.1 h0
 have ht0:0<=t:=(dY ht).1
 have PV:∀q,0<=eM (ts++[⟨p,t⟩]) q->eE s.aD (eM (ts++[⟨p,t⟩]) q)=true:=fun q hq=>by
  rw[qO q lT]at hq ⊢
  split at hq
  ·rename_i he;rw[if_pos he];exact ht
  ·rename_i he;rw[if_neg he];exact hF q hq
 obtain⟨es,ho,hw⟩:=h.op
 obtain⟨fi,Aq,_,Kh,_,_⟩:=wq p es
 unfold dq at Kh
 have h1:=h.o.row
 have h2:=h.o.tl
 have v1:=bZ h.o.cv
 have v2:=bZ h.o.tv
 have v3:=bZ h.o.ov
 have hm:=mA h0
 have cT:=eq_false h.o.cT
 have cO:=eq_false h.o.cO
 have TO:=eq_false h.o.TO
 have Tc:=eq_false (fun e:T=c=>h.o.cT e.symm)
 have Oc:=eq_false (fun e:O=c=>h.o.cO e.symm)
 have OT:=eq_false (fun e:O=T=>h.o.TO e.symm)
 (try((repeat(revert N;apply Pn.out));refine wk (tw @h1 (tw @h2 (tw @ho (tw @v1 (tw @v2 (tw @v3 (tw @hm (tw @Aq (tw @Kh (tw @cT (tw @cO (tw @TO (tw @Tc (tw @Oc (tw @OT @ad.eq_1))))))))))))))) ?_;(repeat(apply Pn.mk;intro N hN))))
 have hG:∀x:Id,x.bq<σ.next->x≠T->x≠O->(bI (bI (bI σ.get ⟨102000000,σ.next⟩ ⟨true,2,[[.int .i64 p.eV,.int .i64 p.eQ]]⟩) T ⟨true,mP.j4,ts.map ab++[[.int .i64 p.eV,.int .i64 p.eQ,.int .i64 t]]⟩) O ⟨true,mP.j4,(pF es p).map pG⟩) x=σ.get x:=fun x Ng TX zd=>by
  have a1:=eq_false TX
  have a2:=eq_false zd
  have a3:=bZ Ng
  simp only[go_sem, ↓reduceIte,Nat.reduceEqDiff,Nat.reduceAdd,Nat.reduceSub,Nat.reduceLeDiff,reduceCtorEq,a1,a2,a3]
 have ew:∀x:Id,(∃k r,σ.get x=some ⟨k,1,r⟩)->x≠T/\x≠O:=fun x hr=>by
  obtain⟨k,r,hr⟩:=hr
  constructor
  ·rintro rfl
   rw[h2]at hr
   injection hr with hr
   injection hr with _ hr _
   exact z6 hr
  ·rintro rfl
   rw[ho]at hr
   injection hr with hr
   injection hr with _ hr _
   exact z6 hr
 obtain⟨G,YG⟩:∃G,G=bI (bI (bI σ.get ⟨102000000,σ.next⟩ ⟨true,2,[[.int .i64 p.eV,.int .i64 p.eQ]]⟩) T ⟨true,mP.j4,ts.map ab++[[.int .i64 p.eV,.int .i64 p.eQ,.int .i64 t]]⟩) O ⟨true,mP.j4,(pF es p).map pG⟩:=⟨_,rfl⟩
 have hGT:G T=some ⟨true,mP.j4,ts.map ab++[[.int .i64 p.eV,.int .i64 p.eQ,.int .i64 t]]⟩:=by rw[YG];simp only[go_sem, ↓reduceIte,Nat.reduceEqDiff,Nat.reduceAdd,Nat.reduceSub,Nat.reduceLeDiff,reduceCtorEq,TO]
 have hGO:G O=some ⟨true,mP.j4,(pF es p).map pG⟩:=by rw[YG];simp only[go_sem, ↓reduceIte,Nat.reduceEqDiff,Nat.reduceAdd,Nat.reduceSub,Nat.reduceLeDiff,reduceCtorEq]
 rw[<-YG]at hG ⊢
 clear YG
 have hC:jx G (σ.next+1+1+1+1) c T O s (ts++[⟨p,t⟩]):=
  ⟨(hG c h.o.cv h.o.cT h.o.cO).trans h1,by rw[hGT,List.map_append];rfl,⟨_,hGO,fun r hr=>by
   obtain⟨e,_,rfl⟩:=List.mem_map.1 hr
   exact⟨_,_,_,rfl⟩⟩,by have:=h.o.cv;omega,by have:=h.o.tv;omega,by have:=h.o.ov;omega,h.o.cT,h.o.cO,h.o.TO⟩
 have hE:yg G (σ.next+1+1+1+1) (pF es p) (iv s (ts++[⟨p,t⟩])) (fun q=>¬∃k:Nat,k<4/\q=bc p k):=by
  have e1:yg G (σ.next+1+1+1+1) es (iv s ts) (fun _=>True):=hw.frame ae fun x hx hr=>hG x hx (ew x hr).1 (ew x hr).2
  refine⟨yI _ e1.nodup,fun q hq=>?_⟩
  have hqk:∀k:Nat,k<4->q≠bc p k:=fun k hk e=>hq ⟨k,hk,e⟩
  by_cases e:q=p
  ·subst e
   exact .inl ⟨J4 h0 ht0,CK e1.nodup⟩
  ·rw[J3 h0 e hqk]
   rcases e1.at_ q trivial with⟨a1,a2⟩|⟨a1,o',a2,a3⟩
   ·exact .inl ⟨a1,fun x hx=>a2 x (ub.subset hx)⟩
   ·exact .inr ⟨a1,o',(zt e).2 a2,a3⟩
 refine .inr (ay _ _ _ _ _ (fun r σ1 hq=>?_) (uz (σ:=⟨G,σ.next+1+1+1+1⟩) hC.xO hC.cO hC.TO _ ⟨_,hGO,hE⟩ hS PV p hx hy))
 obtain⟨g1,x1⟩:=σ1
 obtain⟨rfl,hL⟩:=hq
 (try dsimp only at hL)
 have oL:=hC.R3 (σ:=⟨G,σ.next+1+1+1+1⟩) hL
 have hn:=hL.1
 have hf:=hL.2.1
 obtain⟨ZX,WN,MM⟩:=hL.2.2
 (try dsimp only at hn hf)
 apply hN
 clear hN N
 (try((repeat(revert N;apply Pn.out));refine wk @Nat.zero_add ?_;(repeat(apply Pn.mk;intro N hN))))
 exact eo (.inr rfl) (vs:=[]) rfl ⟨rfl,⟨oL.frame aH fun _ _=>rfl,ZX,WN,(MM.frame aH fun x hx _=>rfl).mono fun q _=>by
  by_cases hq:∃k:Nat,k<4/\q=bc p k
  ·exact .inr hq
  ·exact .inl hq⟩,aH,fun x Ng TX zd=>(hf x ae zd).trans (hG x Ng TX zd)⟩
end Go.Proofs.YtainmfbpilopaaaGreatDoor.V

namespace Go.Proofs.YtainmfbpilopaaaGreatDoor.V
open Go.RowKit Go.Shelf
attribute [local go_sem] Oper.semAt_some
section
variable {F:Fence} {n:Nat} {P:Program} {ops:Array Oper} {Q:Exit->Act->World->Prop} {rest:List Oper} {a:Act} {w:World} {o:Oper}
theorem Il (hg:o.guard=none) (m:Operand) (t:TypeId) (eH:o.op=Op.range t m) {v:Value} {w':World} (gz:(Instr.range t (a.eval m)).run P w=.ok v w') (h:wpListIn F n P ops Q rest (a.put o.dst v) w'):wpListIn F n P ops Q (o::rest) a w:=by
 refine wpListIn_plain hg fun K' YK=>?_
 unfold Oper.wpIn
 refine⟨by simp[Oper.about,eH],?_⟩
 rw[Oper.semAt_plain F _ _ (by rw[eH];intro c lR;cases lR)]
 simp[execOp,eH,gz,Result.andThen]
 exact YK _ _ h
theorem Lq (hg:o.guard=none) (it:Operand) (eH:o.op=Op.next it false) (rr b clock:Nat) (seen:Array Nat) (es:Array MapEntry) (LI:a.eval it=.pointer (some ⟨rr,0,none⟩)) (hr:w.heap[rr]? =some (.mapIter (some b) clock seen clock)) (hb:w.heap[b]? =some (.map es clock)) (ed:Iy es clock)
  (WE:(leftOf es seen).toList=[]->wpListIn F n P ops Q rest (a.put o.dst (.tuple #[.bool false])) w)
  (WM:∀e∈(leftOf es seen).toList,∀w',w'.heap[rr]? =some (.mapIter (some b) clock (seen.push e.born) clock)->w'.heap[b]? =some (.map es clock)->w.grownBy w' (some rr)->w'.heap.size=w.heap.size->(Instr.entry (.pointer (some ⟨rr,0,none⟩))).run P w'=.ok (.tuple #[e.key,e.val]) w'->wpListIn F n P ops Q rest (a.put o.dst (.tuple #[.bool true,e.key,e.val])) w'):
  wpListIn F n P ops Q (o::rest) a w:=by
 refine wpListIn_plain hg fun K' YK=>?_
 unfold Oper.wpIn
 refine⟨by simp[Oper.about,eH],?_⟩
 rw[Oper.semAt_plain F _ _ (by rw[eH];intro c lR;cases lR)]
 rcases run_next_at (P:=P) w o.type rr b clock clock seen es clock hr hb ed.1 (Nat.le_refl _)with⟨h0,gz⟩|⟨e,he,w1,zb,gz⟩
 ·simp[execOp,eH,LI,gz,Result.andThen]
  exact YK _ _ (WE (List.eq_nil_of_length_eq_zero (by simpa using h0)))
 ·have TJ:w1.heap[rr]? =some (.mapIter (some b) clock seen clock):=by rcases zb with rfl|rfl<;>exact hr
  have gF:=MapKept.heap_set (o':=.mapIter (some b) clock (seen.push e.born) clock) TJ
  obtain⟨w2,oP⟩:∃w2,ChangeMaps.setBlock w1 rr (.mapIter (some b) clock (seen.push e.born) clock)=w2:=⟨_,rfl⟩
  have ho:∀k,k≠rr->w2.heap[k]? =w.heap[k]? :=fun k hk=>by
   rw[<-oP]
   refine(gF.2 k hk).trans ?_
   rcases zb with rfl|rfl<;>rfl
  have hz:w2.heap.size=w.heap.size:=by
   rw[<-oP]
   rcases zb with rfl|rfl<;>simp[ChangeMaps.setBlock]
  have Gx:w2.heap[rr]? =some (.mapIter (some b) clock (seen.push e.born) clock):=by rw[<-oP];exact gF.1
  have vk:w2.os=w.os/\w2.tape=w.tape/\w2.output=w.output:=by
   rw[<-oP]
   rcases zb with rfl|rfl<;>exact⟨rfl,rfl,rfl⟩
  have hbr:b≠rr:=fun e=>by subst e;rw[hr]at hb;cases hb
  have Hq:w2.heap[b]? =some (.map es clock):=(ho b hbr).trans hb
  have RE:=run_entry_at (P:=P) w2 rr b clock seen es clock e Gx Hq (mem_left he).1 ed.2
  rw[oP]at gz
  simp[execOp,eH,LI,gz,Result.andThen]
  exact YK _ _ (WM e he w2 Gx Hq ⟨vk.1,vk.2.1,vk.2.2,ae,fun k _ hk=>ho k fun e=>hk (by rw[e])⟩ hz RE)
end
def ud (p:ai):Value:=.agg #[.int .i64 p.eV,.int .i64 p.eQ]
def HJ (es:Array MapEntry) (rr:Nat) (w:World):Nat:=match w.heap[rr]? with
 |some (.mapIter _ _ seen _)=>(leftOf es seen).size
 |_=>0
theorem BN {es:Array MapEntry} {rr b clock:Nat} {seen:Array Nat} {w:World} (h:w.heap[rr]? =some (.mapIter (some b) clock seen clock)):HJ es rr w=(leftOf es seen).size:=by unfold HJ;rw[h]
theorem KO {es:Array MapEntry} {clock:Nat} {seen:Array Nat} {e:MapEntry} (hs:Iy es clock) (he:e∈(leftOf es seen).toList):((e.key::(leftOf es (seen.push e.born)).toList.map (·.key)).Perm ((leftOf es seen).toList.map (·.key)))/\(leftOf es (seen.push e.born)).size+1=(leftOf es seen).size:=by
 obtain⟨i,hi,O4⟩:=List.getElem_of_mem he
 have h2:=zo hs (i:=i) (e:=e) (seen:=seen) (by rw[List.getElem?_eq_getElem hi,O4])
 have hp:=tD (l:=(leftOf es seen).toList) (i:=i) (x:=e) (by rw[List.getElem?_eq_getElem hi,O4])
 rw[h2]
 refine⟨by simpa using hp.map fun e:MapEntry=>e.key,?_⟩
 have h3:=congrArg List.length h2
 have h4:=hp.length_eq
 simp only[Array.length_toList,List.length_cons]at h3 h4
 rw[<-h3]at h4;exact h4
theorem J1 {a b:List ai} (h:(a.map ud).Perm (b.map ud)):a.Perm b:=by
 have h2:=h.map (fun v:Value=>match v with| .agg ⟨[.int _ x,.int _ y]⟩=>(⟨x,y⟩:ai)|_=>⟨0,0⟩)
 simpa[List.map_map,Function.comp_def,ud]using h2
theorem Np (q Bm b:Nat) (es:Array MapEntry) (clock:Nat) (ed:Iy es clock) (ks:List ai) (hk:es.toList.map (·.key)=ks.map ud) (J Jx:List ai->World->Prop) (n:Nat) (hn:1<=n)
  (hY:∀pre x W,J pre W->pre.length<ks.length->YieldAt Fence.wide (n-1) Tryz.prog q #[ud x] W fun e W'=>
   (e=.returned (.bool true)/\J (pre++[x]) W'/\KeepsWalks W W')∨(e=.returned (.bool false)/\Jx (pre++[x]) W'))
  (W:World) (hJ:AbidesFrom W.heap.size J) (hm:W.cell? ⟨Bm,0,none⟩=some (.map (some b))) (hb:W.heap[b]? =some (.map es clock)) (h0:J [] W):
  CallsIn Fence.wide n Tryz.prog 272 #[.func (.yield q) #[] #[],.pointer (some ⟨Bm,0,none⟩)] W fun e W'=>(∃v,e=.returned v)/\
   ((∃ss:List ai,ss.Perm ks/\J ss W')∨(∃pre,Jx pre W')):=by
 refine callsIn_of_wp Tryz.func272 rfl trivial ?_ rfl
 simp only[Tryz.ntmps272,List.size_toArray,List.length_cons,List.length_nil,Nat.reduceAdd,Nat.reduceSub,Array.replicate_succ,Array.replicate_zero,List.push_toArray,List.append_toArray,List.nil_append,List.cons_append]
 have hrg:=fun(wx:World) (h:wx.heap[b]? =some (.map es clock))=>run_range_map (P:=Tryz.prog) wx 156 _ _ b es clock Tryz.underlying156 h
 gi_wp2_with (first
  |(refine Il rfl _ _ rfl (hrg _ hb) ?_)
  |gi_in)
 have iz:b<W.heap.size:=(Array.getElem?_eq_some_iff.1 hb).1
 have hJ1:J [] (W.alloc (.mapIter (some b) clock #[] clock)):=hJ _ _ _ none h0 (grown_of ((Below.refl _ W).alloc (Nat.le_refl _) _)) (fun r h=>by cases h)
 have TJ:(W.alloc (.mapIter (some b) clock #[] clock)).heap[W.heap.size]? =some (.mapIter (some b) clock #[] clock):=World.alloc_heap_new _ _
 have Tr:(W.alloc (.mapIter (some b) clock #[] clock)).heap[b]? =some (.map es clock):=(Below.heap_alloc _ _ _ iz).trans hb
 go_frame
 gi_loopw [3] (fun _ wr=>∃(seen:Array Nat) (ss:List ai),wr.heap[W.heap.size]? =some (.mapIter (some b) clock seen clock)/\wr.heap[b]? =some (.map es clock)/\(ss.map ud++(leftOf es seen).toList.map (·.key)).Perm (ks.map ud)/\J ss wr)
  (fun _ wr=>HJ es W.heap.size wr)
 case atStart=>
  exact⟨#[],[],TJ,Tr,by rw[<-hk,show(leftOf es #[]).toList=es.toList by simp[leftOf]];exact List.Perm.refl _,hJ1⟩
 case round=>
  obtain⟨seen,ss,hr,hbr,hp,WJ⟩:=hrel
  gi_wp2_with (first
   |(refine Lq rfl _ rfl W.heap.size b clock seen es rfl hr hbr ed ?_ ?_)
   |gi_in)
  ·intro O9
   gi_wp2
   go_end0
   rw[O9]at hp
   exact⟨⟨_,rfl⟩,.inl ⟨ss,J1 (by simpa using hp),WJ⟩⟩
  ·intro e he0 w2 Gx Hq Xd rV RE
   have he:e∈(leftOf es seen).toList:=by simpa using he0
   obtain⟨Fc,eG⟩:=KO ed he
   obtain⟨x,hx⟩:∃x,e.key=ud x:=by
    have h1:e.key∈es.toList.map (·.key):=List.mem_map_of_mem (mem_left he).1
    rw[hk]at h1
    obtain⟨x,_,hx⟩:=List.mem_map.1 h1
    exact⟨x,hx.symm⟩
   have hJ2:J ss w2:=hJ ss wr w2 (some W.heap.size) WJ Xd (fun r e=>by cases e;exact⟨Nat.le_refl _,_,hr,rfl⟩)
   have hlen:ss.length<ks.length:=by
    have h1:=hp.length_eq
    have h2:0<(leftOf es seen).toList.length:=List.length_pos_of_mem he
    simp only[List.length_append,List.length_map]at h1
    omega
   obtain⟨fn,tmps,assign,body,hy,hR⟩:=hY ss x (w2.alloc (.cells #[.int .i64 x.eV,.int .i64 x.eQ] 51)) (hJ _ _ _ none hJ2 (grown_of ((Below.refl _ w2).alloc (Nat.le_refl _) _)) (fun r h=>by cases h)) hlen
   rw[hx]at RE ⊢
   simp only[ud]at RE hy ⊢
   gi_wp2
   refine hR.mono ?_
   rintro e3 W3 (⟨rfl,hJ3,AO⟩|⟨rfl,hJx3⟩)
   ·gi_wp2
    have RD:=KeepsWalks.alloc w2 (.cells #[.int .i64 x.eV,.int .i64 x.eQ] 51)
    have hr3:=AO.same _ _ (RD.same _ _ Gx rfl) rfl
    have hb3:=AO.same _ _ (RD.same _ _ Hq rfl) rfl
    go_roundw
    case rel=>
     refine⟨_,ss++[x],hr3,hb3,?_,hJ3⟩
     rw[List.map_append,List.append_assoc]
     refine List.Perm.trans ?_ hp
     rw[hx]at Fc
     exact Fc.append_left _
    case measure=>rw[BN hr3,BN hr];omega
   ·gi_wp2
    refine bodyPost_ret (results_none rfl _ _ _) rfl ?_
    exact⟨⟨_,rfl⟩,.inr ⟨_,hJx3⟩⟩
theorem HD (Bm b:Nat) (es:Array MapEntry) (clock:Nat) (ed:Iy es clock) (ks:List ai) (hk:es.toList.map (·.key)=ks.map ud) (n:Nat) (hn:1<=n) (w:World) (Z4:Bm<w.heap.size) (hm:w.cell? ⟨Bm,0,none⟩=some (.map (some b))) (hb:w.heap[b]? =some (.map es clock)):
  SeqStopsK Fence.wide n Tryz.prog 272 #[.pointer (some ⟨Bm,0,none⟩)] (fun x:ai=> #[ud x]) KeepsWalks (fun ss=>ss.Perm ks) (fun _=>True) ks.length w:=fun q J Jx W hW hJ _ hY h0=>by
 refine(Np q Bm b es clock ed ks hk J Jx n hn hY W hJ ((hW.cell (p:=⟨Bm,0,none⟩) Z4).trans hm) ((hW.block b (Array.getElem?_eq_some_iff.1 hb).1).trans hb) h0).mono ?_
 rintro e W' ⟨h1,⟨ss,h2,h3⟩|⟨pre,h3⟩⟩
 ·exact⟨h1,.inl ⟨ss,h2,h3⟩⟩
 ·exact⟨h1,.inr ⟨pre,trivial,h3⟩⟩
def R5 (ps:List ai):List Value:=ps.flatMap fun p=>[.int .i64 p.eV,.int .i64 p.eQ]
theorem NV (ps:List ai) (p:ai):R5 (ps++[p])=R5 ps++[.int .i64 p.eV,.int .i64 p.eQ]:=by simp[R5]
theorem QJ {ps:List ai} {i j:Nat} {p:ai} (h:ps[i]? =some p) (hj:j<2):(R5 ps)[i*2+j]? =([.int .i64 p.eV,.int .i64 p.eQ]:List Value)[j]? :=by
 induction ps generalizing i with
 |nil=>simp at h
 |cons q r ih=>
  cases i with
  |zero=>
   simp at h;subst h
   match j,hj with
   |0,_=>rfl
   |1,_=>rfl
  |succ i=>
   simp only[List.getElem?_cons_succ]at h
   have:=ih h
   have e:(i+1)*2+j=i*2+j+2:=ae
   rw[e]
   simpa[R5]using this
theorem cell_two_new (W:World) (T:TypeId) (x y:Value):∀(j:Nat) (u:Value),[x,y][j]? =some u->(W.alloc (.cells #[x,y] T)).cell? ((⟨W.heap.size,0,none⟩:Addr).add j)=some u:=fun j u h=>by
 have hb:(W.alloc (.cells #[x,y] T)).heap[W.heap.size]? =some (.cells #[x,y] T (0,0)):=World.alloc_heap_new _ _
 have e:∀k,(W.alloc (.cells #[x,y] T)).cell? ⟨W.heap.size,k,none⟩=(#[x,y]:Array Value)[k]? :=fun k=>by
  unfold World.cell?
  rw[show(W.alloc (.cells #[x,y] T)).heap[(⟨W.heap.size,k,none⟩:Addr).block]? = _ from hb]
  rfl
 rw[show(⟨W.heap.size,0,none⟩:Addr).add j=⟨W.heap.size,j,none⟩ by simp[Addr.add];exact fun h=>h.symm,e]
 simpa using h
theorem T6:(Tryz.prog.info? 51).map (fun i=>(i.zero,i.size,i.bytes))=some (some (.agg #[.int .i64 0,.int .i64 0]),2,16):=by kernel_rfl
theorem Ki {β:Type} (B:Nat) (c:Array Value) (t:TypeId) (fr:Nat×Nat):Own (fun(_:β) W=>W.heap[B]? =some (.cells c t fr)):=fun _ X _ row h hg hr=>(hg.block B (Array.getElem?_eq_some_iff.1 h).1 (fun e=>by
 obtain⟨o,ho,hc⟩:=hr B e.symm
 rw[h]at ho;cases ho;cases hc)).trans h
theorem Cq (Bm b:Nat) (es:Array MapEntry) (clock:Nat) (ed:Iy es clock) (ks:List ai) (hk:es.toList.map (·.key)=ks.map ud) (hl:ks.length<=1000000) (w:World) (Z4:Bm<w.heap.size) (hm:w.cell? ⟨Bm,0,none⟩=some (.map (some b))) (hb:w.heap[b]? =some (.map es clock)):
  CallsIn Fence.wide 5 Tryz.prog 300 #[.slice none 0 0,.func (.func 272) #[] #[.pointer (some ⟨Bm,0,none⟩)]] w fun e W'=>∃(ss:List ai) (v:Value),ss.Perm ks/\e=.returned v/\W'.ownsRow w.heap.size 51 2 v ss.length (R5 ss)/\(v=.slice none 0 0↔ss=[])/\Below w.heap.size w W':=by
 obtain⟨i0,hi,Pe,DY,rV⟩:=info_parts T6
 refine callsIn_of_wp_marks Tryz.func300 rfl trivial ?_ rfl
 simp only[Tryz.ntmps300,List.size_toArray,List.length_cons,List.length_nil,Nat.reduceAdd,Nat.reduceSub,Array.replicate_succ,Array.replicate_zero,List.push_toArray,List.append_toArray,List.nil_append,List.cons_append]
 gi_wp2
 have bO:=Boxed.new w 56 (.slice none 0 0)
 have EV:Below w.heap.size w (w.alloc (.cells #[.slice none 0 0] 56)):=(Below.refl _ w).alloc (Nat.le_refl _) _
 have ew:(w.alloc (.cells #[.slice none 0 0] 56)).heap.size=w.heap.size+1:=by simp
 obtain⟨W0,WS⟩:∃W0,w.alloc (.cells #[.slice none 0 0] 56)=W0:=⟨_,rfl⟩
 rw[WS]at bO EV ew ⊢
 clear WS
 have TF:W0.cell? ⟨Bm,0,none⟩=some (.map (some b)):=(EV.cell (p:=⟨Bm,0,none⟩) Z4).trans hm
 have DT:=(EV.block b (Array.getElem?_eq_some_iff.1 hb).1).trans hb
 refine wpIn_rangeFunc_ownH (n:=5) rfl ae (gf:=272) (lb:= #[.pointer (some ⟨Bm,0,none⟩)]) rfl trivial (enters_of Tryz.func272 (by kernel_rfl) rfl)
  (HD Bm b es clock ed ks hk (5-1) ae W0 ae TF DT) walksK_t (walksK_b (w:=W0)) (Below.refl _ _) (fun _=>rfl)
  (fun pre W=>(∃v,Boxed W w.heap.size 56 v/\W.ownsRow w.heap.size 51 2 v pre.length (R5 pre)/\(v=.slice none 0 0↔pre=[]))/\Below w.heap.size w W)
  (fun _ _ _=>False)
  (OwnFrom.and (Own.from (holdsRow_own w.heap.size w.heap.size 56 51 2 (fun pre=>pre.length) (fun pre=>R5 pre) (fun pre v=>v=.slice none 0 0↔pre=[])) _) (ownFrom_below (Nat.le_refl _) ae))
  (fun _ _ _ _ _ hs _ _=>hs)
  ⟨⟨_,bO,World.ownsRow_nil _ _ _ _,by simp⟩,EV⟩
  (fun x a' W=>∃Bx,w.heap.size<Bx/\W.heap[Bx]? =some (.cells #[.int .i64 x.eV,.int .i64 x.eQ] 51 (0,0))/\a'={tmps:= #[.slice none 0 0,.func (.func 272) #[] #[.pointer (some ⟨Bm,0,none⟩)],.pointer (some ⟨w.heap.size,0,none⟩),undef,.slice none 0 0,.pointer (some ⟨Bx,0,none⟩),.func (.func 272) #[] #[.pointer (some ⟨Bm,0,none⟩)],.agg #[.int .i64 x.eV,.int .i64 x.eQ],undef,undef,undef,undef,undef],defers:=[]})
  (fun x a' _ X Y row hs hg hr=>by obtain⟨Bx,h1,h2,h3⟩:=hs;exact⟨Bx,h1,Ki Bx _ _ _ () X Y row h2 hg (fun r e=>(hr r e).2),h3⟩)
  ?assign ?body ?done ?stop
 case assign=>
  rintro q pre x W K ⟨⟨v,hv,fE,hnil⟩,hB⟩ hK
  simp only[ud]
  gi_wp2
  exact hK _ _ ((KeepsOthers.alloc _ _).from _) (KeepsWalks.alloc _ _) ⟨⟨v,hv.alloc _,fE.alloc _,hnil⟩,hB.alloc hB.size _⟩ ⟨W.heap.size,hv.lt,World.alloc_heap_new _ _,rfl⟩
 case body=>
  rintro q pre x a' W hq hqr ⟨⟨v,hv,fE,hnil⟩,hB⟩ ⟨Bx,hBx,bX,rfl⟩ eG
  have hc:=hv.cell
  have ZT:W.cell? ⟨Bx,0,none⟩=some (.int .i64 x.eV):=by simp[World.cell?,bX]
  have ZU:W.cell? ⟨Bx,1,none⟩=some (.int .i64 x.eQ):=by simp[World.cell?,bX]
  have Xo:=hB.size
  gi_wp2_with (gi_at_builtin;refine wpListIn_append_own _ rfl _ _ 56 rfl w.heap.size 51 i0 (.agg #[.int .i64 0,.int .i64 0]) 2 16 (by kernel_rfl) hi Pe DY rV rfl (by decide) _ _ _ rfl (fE.alloc _) ⟨W.heap.size,0,none⟩ 1 1 [.int .i64 x.eV,.int .i64 x.eQ] rfl rfl (cell_two_new _ _ _ _) (by simp[Value.oneCell']) (by unfold maxLen;omega) ae (by simp;omega) ?_;intro v' w4 Fb BB _;obtain⟨g',ZV,rfl⟩:=ownsRow_succ Fb;obtain⟨tg,P8,Gx,sr,Hq⟩:=hv.appended (by decide) fE Xo ae Fb BB;have sq:=tg.cell;have hf1:=tg.frozen)
  exact⟨sr.from _,⟨sr.size,fun k o hk hw=>sr.same k o hk (Obj.not_cells_of_walk hw)⟩,⟨⟨_,P8,by rw[NV,List.length_append];exact Gx,by simp⟩,hB.trans Hq⟩⟩
 case done=>
  rintro D ys W hD GD ⟨⟨v,hv,fE,hnil⟩,hB⟩ hK
  have hc:=hv.cell
  gi_wp2
  refine⟨by simp,.inl ⟨_,_,rfl,run_takeDeferred hK,?_⟩⟩
  exact⟨_,results_tmp rfl _ _ _,ys,v,GD,rfl,ownsRow_putObj fE _ hK rfl,hnil,hB.trans (belowK_b (w:=w) (Nat.le_refl _) W D _ _ ae hK rfl rfl)⟩
 case stop=>
  rintro D c pre W _ _ h _
  exact h.elim
end Go.Proofs.YtainmfbpilopaaaGreatDoor.V

namespace Go.Proofs.YtainmfbpilopaaaGreatDoor.V
open Go.RowKit
theorem Up {P:Program} {w:World} {D:Nat->Prop} {ι:Names} {x y:Int} {v:Value} (h:du P w D ι (.agg [.int .i64 x,.int .i64 y]) v):v=.agg #[.int .i64 x,.int .i64 y]:=by
 obtain⟨vs,f,rfl,ew,_,h1,h2⟩:=jo h
 have v0:=h1 0 (by simp)
 have v1:=h1 1 (by simp)
 rw[eb (h2 0 _ rfl)]at v0
 rw[eb (h2 1 _ rfl)]at v1
 obtain⟨vl⟩:=vs
 match vl,ew with
 |[a,b],_=>
  simp at v0 v1
  rw[v0,v1]
theorem Ei {σ:ax} {X O:Id} {b1 b2:Bool} {es:List En} (hX:σ.get X=some ⟨b1,1,[[.map O mP]]⟩) (hO:σ.get O=some ⟨b2,mP.j4,es.map pG⟩) (hl:es.length<=1000000):
  Call Tryz.prog 300 [.bj,.fn 272 [.ptr X 0 0]] σ (fun r σ'=>σ.next<=σ'.next/\(∀x:Id,x.bq<σ.next->σ'.get x=σ.get x)/\∃ss:List ai,ss.Perm (es.map (·.1))/\((ss=[]/\r=.bj)∨∃o:Id,r=.own o 0 ss.length/\σ'.get o=some ⟨true,2,ss.map ad⟩/\σ.next<=o.bq/\o.bq<σ'.next/\ss≠[])):=by
 refine fG fun hs D ι w vs S U A=>?_
 obtain⟨u1,us1,rfl,h1,h2⟩:=j3 A
 obtain⟨u2,us2,h3,h4,h5⟩:=j3 h2
 simp at h3;subst h3
 have:=uI h5
 simp at this;subst this
 obtain rfl:=jM h1
 obtain⟨vc,gf,rfl,_,Az,RH,hrc⟩:=wF h4
 obtain⟨BX,hp,Te,hkX⟩:=jc (hrc 0 _ rfl)
 have hvc:vc= #[.pointer (some ⟨BX.b,0,none⟩)]:=by
  obtain⟨l⟩:=vc
  have q0:=RH 0 (by simp)
  match l,Az with
  |[a],_=>simp at q0;rw[q0,hp];simp
 subst hvc
 obtain⟨BX',PU,RX,_,_⟩:=S.row X _ hX
 rw[Te]at PU;injection PU with PU;subst PU
 obtain⟨vm,RV,hrm⟩:=(RX.row hkX).at_ 0 0 _ _ rfl rfl
 obtain⟨BO,rfl,hBO,hkO⟩:=Du hrm
 obtain⟨BO',PT,RO,_,_⟩:=S.row O _ hO
 rw[hBO]at PT;injection PT with PT;subst PT
 obtain⟨_,OU,clock,hblk,ew,⟨_,Fi⟩,hM⟩:=RO.map mP hkO
 have hk:OU.toList.map (·.key)=(es.map (·.1)).map ud:=by
  have gW:OU.toList.length=es.length:=by simpa using ew
  refine List.ext_getElem (by simpa using gW) fun i h1 h2=>?_
  have hi:i<es.length:=by simpa using h2
  obtain⟨e,kv,vv,q1,q2,_,q4,_⟩:=hM i (pG es[i]) (by simp[hi])
  have e1:kv=.agg [.int .i64 es[i].1.eV,.int .i64 es[i].1.eQ]:=by
   simp[part,MK.ks,pG]at q2
   exact q2.symm
  subst e1
  have e2:=Up q4
  simp only[List.getElem_map]
  have e3:OU.toList[i]'ae=e:=by
   have:=Array.getElem?_eq_some_iff.1 q1
   obtain⟨_,h⟩:=this
   simpa using h
  rw[e3,e2];rfl
 have eG:∀b,D b->b<w.heap.size:=S.dead
 have hbx:BX.b<w.heap.size:=RX.lt
 have WW:w.cell? ⟨BX.b,0,none⟩=some (.map (some BO.b)):=by simpa using RV
 refine(callsIn_wide.1 (Cq BX.b BO.b OU clock Fi (es.map (·.1)) hk (by simpa using hl) w hbx WW hblk)).mono ?_
 rintro e W' ⟨ss,v,sE,rfl,⟨hle',hown⟩,hnil,hB⟩
 have S':ig Tryz.prog hs D ι σ.get W':=S.stay (fun b hb=>hB.block b hb) hB.size (fun _ h=>h) (fun b hb=>Nat.lt_of_lt_of_le (eG b hb) hB.size) (fun _ h=>.inl h) (fun _ _ h=>h)
 have T:Step hs D ι w D ι W':=Step.stay S (fun b hb=>hB.block b hb) hB.size hB.os hB.tape hB.output (fun _ h=>h) (fun _ h=>.inl h) (fun _ _ h=>h)
 rcases hown with⟨rfl,h0⟩|⟨gb,cap,cur,rfl,Xe,hblk2,hle,yY,ek,oN⟩
 ·have DT:ss=[]:=hnil.1 rfl
  exact⟨.bj,_,σ.next,D,ι,_,rfl,⟨Nat.le_refl _,fun _ _=>rfl,ss,sE,.inl ⟨DT,rfl⟩⟩,T,S',U,Nat.le_refl _,.eX _ _ .bj⟩
 ·have DT:ss≠[]:=fun h=>by have:=hnil.2 h;cases this
  have iO:ι ⟨0,σ.next⟩=none:=fresh U (fun h=>h)
  have hR:iM Tryz.prog W' D (lJ ι ⟨0,σ.next⟩ ⟨gb,2,cap*2,none⟩) ⟨gb,2,cap*2,none⟩ ⟨true,2,ss.map ad⟩:=by
   refine lV.obj ⟨rfl,⟨cur,_,hblk2,ek⟩,?_,fun cs hc=>?_,fun cs hc a ha=>?_,fun i j cs a hi hj=>?_⟩ rfl
   ·simp only[List.length_map];exact Nat.mul_le_mul_right 2 hle
   ·obtain⟨b,_,rfl⟩:=List.mem_map.1 hc;rfl
   ·obtain⟨b,_,rfl⟩:=List.mem_map.1 hc
    simp[ad]at ha
    rcases ha with rfl|rfl<;>rfl
   ·rw[List.getElem?_map]at hi
    simp only[Option.map_eq_some_iff]at hi
    obtain⟨b,hb,rfl⟩:=hi
    have hj3:j<2:=by have:=(List.getElem?_eq_some_iff.1 hj).1;simpa[ad]using this
    have nR:=(List.getElem?_eq_some_iff.1 hb).1
    have hg:=QJ hb hj3
    rw[<-oN,List.getElem?_take,if_pos ae]at hg
    have key:∀x:Value,([.int .i64 b.eV,.int .i64 b.eQ]:List Value)[j]? =some x->W'.cell? ⟨gb,i*2+j,none⟩=some x:=fun x hx=>by
     rw[hx]at hg
     have e:W'.cell? ⟨gb,i*2+j,none⟩=cur[i*2+j]? :=by
      unfold World.cell?
      rw[show W'.heap[(⟨gb,i*2+j,none⟩:Addr).block]? = _ from hblk2]
      rfl
     rw[e,<-Array.getElem?_toList];exact hg
    match j,hj with
    |0,hj=>simp[ad]at hj;subst hj;exact⟨_,key _ rfl,.eX _ _ (.int _ _)⟩
    |1,hj=>simp[ad]at hj;subst hj;exact⟨_,key _ rfl,.eX _ _ (.int _ _)⟩
    |j+2,hj=>simp[ad]at hj
  have S2:=ig.add (r:=⟨true,2,ss.map ad⟩) S S' iO Xe hR
  refine⟨.own ⟨0,σ.next⟩ 0 ss.length,bI σ.get ⟨0,σ.next⟩ ⟨true,2,ss.map ad⟩,σ.next+1,D,lJ ι ⟨0,σ.next⟩ ⟨gb,2,cap*2,none⟩,_,rfl,⟨Nat.le_succ _,fun x hx=>?_,ss,sE,.inr ⟨_,rfl,by simp[bI],Nat.le_refl _,Nat.lt_succ_self _,DT⟩⟩,T.trans (Step.stay S' (fun _ _=>rfl) (Nat.le_refl _) rfl rfl rfl (fun _ h=>h) (fun _ h=>.inl h) (fJ iO)),S2,U.upd.next,Nat.le_succ _,.own _ _ _ _ _ _ (eK _ _ _) rfl hle (.inr (by simp)) (by simp) yY⟩
  have:¬x=⟨0,σ.next⟩:=fun e=>by subst e;simp at hx
  simp[bI,this]
end Go.Proofs.YtainmfbpilopaaaGreatDoor.V
