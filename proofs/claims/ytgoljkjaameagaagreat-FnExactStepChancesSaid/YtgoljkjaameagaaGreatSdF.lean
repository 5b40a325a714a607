/- Networks by matrices: the memory. -/
import Derived.Test.YtgoljkjaameagaaGreatSdE
import Derived.Test.YtgoljkjaameagaaGreatSdD
import Derived.Test.YtgoljkjaameagaaGreatSdB
import Derived.Test.YtgoljkjaameagaaGreatSdC
import Derived.Test.YtgoljkjaameagaaGreatChecked
import Derived.OwnWalk
import Derived.Test.YtgoljkjaameagaaGreatSdA
import Derived.Shelf.RegionOpenPlain
import Derived.Lib.Walk
import Derived.Lib.SliceRun
import Derived.Lib.AppendZerosOnto
import Derived.Lib.Overlaps
import Derived.Laws.Externs
import Derived.Laws.IdiomCopy
import Derived.Laws.NewBlocks
set_option linter.unusedVariables false
set_option linter.unusedSimpArgs false
set_option maxRecDepth 100000
set_option maxHeartbeats 16000000
namespace Go.Proofs.YtgoljkjaameagaaGreat.V
open Go.RowKit
attribute [local irreducible] ek wpOps fK Call
attribute [local go_sem] aI fw eH fE fD dd upd cm K.av cG AV.cells AV.cell rowOf rowsOf part ld rowAt bL bY dx dO gz bE cW dY fC eY dj dS cU cR dG dH bH aZ cJ bG cL cK dQ dU dR cI bJ cV dP bF aL cP cz gy bq cF bI aW dq bm dy AV.undef bw bz dJ dM dD dI cE dX ea cq dW dV cN cQ List.getD_cons_zero List.getD_cons_succ List.getD_nil List.all_cons List.all_nil Bool.and_true Bool.true_and Bool.and_self Bool.not_true Bool.not_false Option.map_some Option.map_none Option.bind_some Option.bind_none List.length_cons List.length_nil List.take_succ_cons List.take_zero List.take_nil List.drop_succ_cons List.drop_zero List.drop_nil List.head?_cons List.map_cons List.map_nil List.getElem?_cons_zero List.getElem?_cons_succ List.cons_append List.nil_append List.append_nil List.length_map List.set_cons_zero List.set_cons_succ Nat.reduceMul eq_self Int.toNat_natCast Int.natCast_nonneg and_self true_and and_true decide_true decide_false Bool.false_eq_true Nat.zero_add Nat.add_zero List.contains_cons List.contains_nil Bool.or_false Bool.false_or beq_self_eq_true Nat.reduceBEq ne_eq not_true_eq_false not_false_eq_true Id.mk.injEq false_and and_false Nat.reduceLT Int.reduceLE Int.reduceLT Int.reduceToNat Int.reduceNeg Int.reduceAdd Nat.le_refl List.length_append beq_true beq_false Bool.not_eq_eq_eq_not or_false false_or dK aq au aH bf bt bZ aU bh aT bc cH bx
def lH (R:Nat->Id) (n k:Nat):List (List AV):=(List.range k).map fun i=>[.own (R i) 0 n]
theorem kr (R:Nat->Id) (n k:Nat):(lH R n k).length=k:=by simp[lH]
theorem sU {R:Nat->Id} {n k i:Nat} (h:i<k):(lH R n k)[i]? =some [.own (R i) 0 n]:=by simp[lH,h]
theorem tN (R:Nat->Id) (n k:Nat):lH R n (k+1)=lH R n k++[[.own (R k) 0 n]]:=by simp[lH,List.range_succ]
def yz (c:Nat->Nat->Int) (n:Nat):List (List AV):=(List.range n).map fun i=>[.sl (ev (c i) n)]
theorem Dg {c:Nat->Nat->Int} {n i:Nat} (h:i<n):(yz c n)[i]? =some [.sl (ev (c i) n)]:=by simp[yz,h]
theorem xI (c:Nat->Nat->Int) (n:Nat):(yz c n).length=n:=by simp[yz]
structure Jj (X o1 o2:Id) (R1 R2:Nat->Id) (n nb:Nat):Prop where
 sx:X.site=299001001
 s1:o1.site=299004008
 s2:o2.site=299005008
 VL:∀i,i<n->(R1 i).site=299004006
 Pq:∀i,i<n->(R2 i).site=299005006
 i1:∀i j,i<n->j<n->R1 i=R1 j->i=j
 i2:∀i j,i<n->j<n->R2 i=R2 j->i=j
 vx:X.br<nb
 v1:o1.br<nb
 v2:o2.br<nb
 XW:∀i,i<n->(R1 i).br<nb
 UG:∀i,i<n->(R2 i).br<nb
structure qI (g:Rows) (X o1 o2:Id) (R1 R2:Nat->Id) (n:Nat) (c f:Nat->Nat->Int):Prop where
 x:g X=some ⟨true,2,[[.own o1 0 n,.own o2 0 n]]⟩
 t1:g o1=some ⟨true,1,lH R1 n n⟩
 t2:g o2=some ⟨true,1,lH R2 n n⟩
 r1:∀i,i<n->g (R1 i)=some ⟨true,1,ev (c i) n⟩
 r2:∀i,i<n->g (R2 i)=some ⟨true,1,ev (f i) n⟩
theorem oP {f:Nat->Nat->Int} {a b:Nat} {d:Int} {n:Nat} (hb:b<n):(ev (f a) n).set b (aQ (f a b+d))=ev (bump f a b d a) n:=lI hb (by simp[bump]) fun i _ hi=>by simp[bump,hi]
theorem kg {f:Nat->Nat->Int} {a b i:Nat} {d:Int} (h:i≠a):bump f a b d i=f i:=by funext v;simp[bump,h]
theorem qI.add {g g':Rows} {X o1 o2:Id} {R1 R2:Nat->Id} {n nb:Nat} {c f:Nat->Nat->Int} (I:Jj X o1 o2 R1 R2 n nb) (h:qI g X o1 o2 R1 R2 n c f) (b:PB) (ha:b.a<n) (hb:b.b<n) (hA:b.a≠b.b->g' (R1 b.a)=some ⟨true,1,ev (bump c b.a b.b b.s b.a) n⟩) (hB:g' (R1 b.b)=some ⟨true,1,ev (oh c b b.b) n⟩) (hf:∀i:Id,i.br<nb->(i=R1 b.a)=False->(i=R1 b.b)=False->g' i=g i):qI g' X o1 o2 R1 R2 n (oh c b) f:=by
 have ne:∀{i:Id} {s:Nat},i.site=s->(s==299004006)=false->∀a,a<n->(i=R1 a)=False:=fun {i s} hi hs a ha=>by
  simp only[eq_iff_iff,iff_false]
  rintro rfl
  rw[I.VL a ha]at hi
  subst hi
  simp at hs
 refine⟨(hf _ I.vx (ne I.sx (by decide) _ ha) (ne I.sx (by decide) _ hb)).trans h.x,(hf _ I.v1 (ne I.s1 (by decide) _ ha) (ne I.s1 (by decide) _ hb)).trans h.t1,(hf _ I.v2 (ne I.s2 (by decide) _ ha) (ne I.s2 (by decide) _ hb)).trans h.t2,fun i hi=>?_,fun i hi=>(hf _ (I.UG i hi) (ne (I.Pq i hi) (by decide) _ ha) (ne (I.Pq i hi) (by decide) _ hb)).trans (h.r2 i hi)⟩
 by_cases L9:i=b.b
 ·subst L9;exact hB
 ·by_cases L8:i=b.a
  ·subst L8
   rw[hA L9,oh,kg L9]
  ·rw[oh,kg L9,kg L8,hf _ (I.XW i hi) (by simp only[eq_iff_iff,iff_false];exact fun he=>L8 (I.i1 i _ hi ha he)) (by simp only[eq_iff_iff,iff_false];exact fun he=>L9 (I.i1 i _ hi hb he))]
   exact h.r1 i hi
def lY (n:Nat) (c f:Nat->Nat->Int):List AV:=[.sl (yz c n),.sl (yz f n)]
theorem GV {g:Rows} {R:Nat->Id} {n k:Nat} {c:Nat->Nat->Int} (h:∀i,i<k->g (R i)=some ⟨true,1,ev (c i) n⟩) (m:Nat):ee (dK g) (m+3) (lH R n k)=some ((List.range k).map fun i=>[.sl (ev (c i) n)]):=by
 induction k with
 |zero=>rw[show lH R n 0=[]from rfl,ee];rfl
 |succ k ih=>
  have e1:V.fz (dK g) (m+3) (.own (R k) 0 n)=some (.sl (ev (c k) n)):=by
   rw[gE];simp only[dK,h k (by omega),Option.map_some,if_true]
   rw[if_pos (by rw[ec];omega),List.drop_zero,List.take_of_length_le (by rw[ec];omega),A4];rfl
  have app:∀(xs ys:List (List AV)) (VO US:List (List AV)),ee (dK g) (m+3) xs=some VO->ee (dK g) (m+3) ys=some US->ee (dK g) (m+3) (xs++ys)=some (VO++US):=by
   intro xs
   induction xs with
   |nil=>intro ys VO US h1 h2;rw[ee]at h1;cases h1;exact h2
   |cons a xs ih2=>
    intro ys VO US h1 h2
    rw[ee]at h1
    rw[List.cons_append,ee]
    cases ha:de (dK g) (m+3) a with
    |none=>simp[ha]at h1
    |some a'=>
     cases hb:ee (dK g) (m+3) xs with
     |none=>simp[ha,hb]at h1
     |some b'=>
      simp[ha,hb]at h1
      subst h1
      rw[ih2 ys b' US hb h2];rfl
  rw[tN,List.range_succ,List.map_append]
  refine app _ _ _ _ (ih fun i hi=>h i (by omega)) ?_
  rw[ee,aq,au,e1,ee];rfl
theorem qI.fz {g:Rows} {X o1 o2:Id} {R1 R2:Nat->Id} {n:Nat} {c f:Nat->Nat->Int} (h:qI g X o1 o2 R1 R2 n c f):V.fz (dK g) 6 (.ptr X 0 0)=some (.dp (lY n c f)):=by
 refine wv (sz:=2) (rows:=[[.own o1 0 n,.own o2 0 n]]) (by simp[dK,h.x]) rfl ?_
 have e1:V.fz (dK g) 5 (.own o1 0 n)=some (.sl (yz c n)):=by
  rw[gE];simp only[dK,h.t1,Option.map_some,if_true]
  rw[if_pos (by rw[kr];omega),List.drop_zero,List.take_of_length_le (by rw[kr];omega)]
  rw[show ee _ 4 _=some (yz c n)from GV h.r1 1];rfl
 have e2:V.fz (dK g) 5 (.own o2 0 n)=some (.sl (yz f n)):=by
  rw[gE];simp only[dK,h.t2,Option.map_some,if_true]
  rw[if_pos (by rw[kr];omega),List.drop_zero,List.take_of_length_le (by rw[kr];omega)]
  rw[show ee _ 4 _=some (yz f n)from GV h.r2 1];rfl
 simp only[List.drop_zero,aq,au,e1,e2,lY,Option.map_some]
theorem P9 (n:Nat) (c f:Nat->Nat->Int) (u v:Nat) (hu:u<n) (hv:v<n):aw Tryz.prog 328 [.dp (lY n c f),.int .i64 u,.int .i64 v] (.bool (decide (f u v<c u v))):=by
 refine aw.body eK rfl fun hl n0=>?_
 clear hl
 have h1:=Dg (c:=c) hu
 have h2:=Dg (c:=f) hu
 have h3:=ep (f:=c u) hv
 have h4:=ep (f:=f u) hv
 have hui:(u:Int)<(n:Int):=by omega
 have ES:(v:Int)<(n:Int):=by omega
 have l1:=xI c n
 have l2:=xI f n
 have l3:=ec (c u) n
 have l4:=ec (f u) n
 rw[aQ]at h3 h4
 (try((repeat(revert hN;revert N;apply Pn.out));refine wk (tw @lY.eq_1 (tw @h1 (tw @h2 (tw @h3 (tw @h4 (tw @hui (tw @ES (tw @l1 (tw @l2 (tw @l3 @l4)))))))))) ?_;(repeat(refine Pn.mk ?_;intro N hN))))
 exact bp (b:=decide (f u v<c u v)) (.inl rfl) (sd @Nat.zero_add) rfl
theorem IL (n:Nat):List.replicate n [AV.int .i64 0]=ev (fun _=>0) n:=by
 refine List.ext_getElem? fun i=>?_
 by_cases h:i<n
 ·rw[ep h,List.getElem?_replicate,if_pos h];rfl
 ·rw[List.getElem?_eq_none (by simp;omega),List.getElem?_eq_none (by rw[ec];omega)]
theorem AX {i j:Id} {s t:Nat} (hi:i.site=s) (hj:j.site=t) (h:(s==t)=false):(i=j)=False/\(j=i)=False:=by
 constructor<;>(simp only[eq_iff_iff,iff_false];rintro rfl;rw[hi]at hj;subst hj;simp at h)
theorem C0 (cnt:Nat) (Al:1<=cnt) (hn:cnt<=1048576) (bs:List PB) (hb:∀b∈bs,b.a<cnt/\b.b<cnt) (eu:∀b∈bs,0<=b.s/\b.s<=4) (od:bs.length<=1048576) (σ:ay):
  Call Tryz.prog 299 [.int .i64 cnt,.sl (bs.map aD)] σ fun r σ'=>∃X o1 o2 R1 R2,r=.ptr X 0 0/\Jj X o1 o2 R1 R2 cnt σ'.next/\σ.next<=σ'.next/\qI σ'.get X o1 o2 R1 R2 cnt (lE bs) (fun _ _=>0)/\∀i:Id,i.br<σ.next->σ'.get i=σ.get i:=by
 refine e6 eK rfl fun hl=>?_
 clear hl
 (try((repeat(revert hN;revert N;apply Pn.out));refine wk @Nat.zero_add ?_;(repeat(refine Pn.mk ?_;intro N hN))))
 obtain⟨X,hX⟩:∃X:Id,X=⟨299001001,σ.next+1⟩:=⟨_,rfl⟩
 obtain⟨R1,Ti⟩:∃R:Nat->Id,R=fun k=>⟨299004006,σ.next+3+4*k+1⟩:=⟨_,rfl⟩
 obtain⟨R2,MX⟩:∃R:Nat->Id,R=fun k=>⟨299005006,σ.next+3+4*k+2⟩:=⟨_,rfl⟩
 have sX:X.site=299001001:=by rw[hX]
 have vX:X.br=σ.next+1:=by rw[hX]
 have s1:∀k,(R1 k).site=299004006:=fun k=>by rw[Ti]
 have s2:∀k,(R2 k).site=299005006:=fun k=>by rw[MX]
 have v1:∀k,(R1 k).br=σ.next+3+4*k+1:=fun k=>by rw[Ti]
 have v2:∀k,(R2 k).br=σ.next+3+4*k+2:=fun k=>by rw[MX]
 have jO:(0:Int)<=(cnt:Int):=by omega
 have qi:(cnt:Int)<=((16777216:Nat):Int):=by omega
 have hz:=IL cnt
 have t1:lH R1 cnt 0=[]:=rfl
 have t2:lH R2 cnt 0=[]:=rfl
 refine aX (fun n env st=>∃k:Nat,n=(cnt)-k/\k<=(cnt)/\env 11=.int .i64 (k:Int)/\env 5=(.ptr X 0 0)/\(st.next=σ.next+3+4*k/\(∀i:Id,i.br<σ.next->st.get i=σ.get i)/\∀j,j<k->st.get (R1 j)=some ⟨true,1,ev (fun _=>0) cnt⟩/\st.get (R2 j)=some ⟨true,1,ev (fun _=>0) cnt⟩)/\((k=0/\st.get X=some ⟨true,2,[[.cj,.cj]]⟩)∨∃o1 o2:Id,o1.site=299004008/\o2.site=299005008/\o1.br<st.next/\o2.br<st.next/\σ.next<=o1.br/\σ.next<=o2.br/\st.get X=some ⟨true,2,[[.own o1 0 k,.own o2 0 k]]⟩/\st.get o1=some ⟨true,1,lH R1 cnt k⟩/\st.get o2=some ⟨true,1,lH R2 cnt k⟩)) (cnt) ⟨0,by omega,by omega,sl @hX,sl @hX,⟨rfl,fun i hi=>by(have ES:=dr hi);simp only[go_sem, ↓reduceIte,Nat.reduceEqDiff,Nat.reduceAdd,Nat.reduceSub,Nat.reduceLeDiff,reduceCtorEq,ES],fun j hj=>absurd hj (Nat.not_lt_zero j)⟩,.inl ⟨rfl,by rw[hX];simp only[go_sem, ↓reduceIte,Nat.reduceEqDiff,Nat.reduceAdd,Nat.reduceSub,Nat.reduceLeDiff,reduceCtorEq]⟩⟩ ?_
 rintro n_a env_a st_a ⟨k,rfl,ale,a11,a5,kC,aI1⟩ dC
 have a0:=dC 0 (by kernel_rfl);have a1:=dC 1 (by kernel_rfl);have x7:=dC 10 (by kernel_rfl)
 simp only[go_sem, ↓reduceIte,Nat.reduceEqDiff,Nat.reduceAdd,Nat.reduceSub,Nat.reduceLeDiff,reduceCtorEq,hX]at a0 a1 x7
 clear dC
 obtain⟨anx,dC,aR⟩:=kC
 have wX:=dr (i:=X) (n:=st_a.next) (by omega)
 by_cases hk:(k:Int)<(cnt:Int)
 ·have cD:∀{e:Env} {gg:Rows} {nx:Nat},(e 11=.int .i64 (IntKind.i64.wrap ((k:Int)+1)))->(e 5=(.ptr X 0 0))->(nx=σ.next+3+4*(k+1)/\(∀i:Id,i.br<σ.next->gg i=σ.get i)/\∀j,j<(k+1)->gg (R1 j)=some ⟨true,1,ev (fun _=>0) cnt⟩/\gg (R2 j)=some ⟨true,1,ev (fun _=>0) cnt⟩)->(((k+1)=0/\gg X=some ⟨true,2,[[.cj,.cj]]⟩)∨∃o1 o2:Id,o1.site=299004008/\o2.site=299005008/\o1.br<nx/\o2.br<nx/\σ.next<=o1.br/\σ.next<=o2.br/\gg X=some ⟨true,2,[[.own o1 0 (k+1),.own o2 0 (k+1)]]⟩/\gg o1=some ⟨true,1,lH R1 cnt (k+1)⟩/\gg o2=some ⟨true,1,lH R2 cnt (k+1)⟩)->∃m0,m0<(cnt)-k/\∃k:Nat,m0=(cnt)-k/\k<=(cnt)/\e 11=.int .i64 (k:Int)/\e 5=(.ptr X 0 0)/\(nx=σ.next+3+4*k/\(∀i:Id,i.br<σ.next->gg i=σ.get i)/\∀j,j<k->gg (R1 j)=some ⟨true,1,ev (fun _=>0) cnt⟩/\gg (R2 j)=some ⟨true,1,ev (fun _=>0) cnt⟩)/\((k=0/\gg X=some ⟨true,2,[[.cj,.cj]]⟩)∨∃o1 o2:Id,o1.site=299004008/\o2.site=299005008/\o1.br<nx/\o2.br<nx/\σ.next<=o1.br/\σ.next<=o2.br/\gg X=some ⟨true,2,[[.own o1 0 k,.own o2 0 k]]⟩/\gg o1=some ⟨true,1,lH R1 cnt k⟩/\gg o2=some ⟨true,1,lH R2 cnt k⟩):=fun x1 x2 x3 x4=>⟨_,by omega,k+1,rfl,by omega,(by rw[x1,az (by omega)]),x2,x3,x4⟩
  have fm:k<cnt:=by omega
  have pc:R1 k=⟨299004006,st_a.next+1⟩:=by rw[Ti,anx]
  have tr:R2 k=⟨299005006,st_a.next+1+1⟩:=by rw[MX,anx]
  have Mf:lH R1 cnt (k+1)=lH R1 cnt k++[[.own ⟨299004006,st_a.next+1⟩ 0 cnt]]:=by rw[tN,pc]
  have Sq:lH R2 cnt (k+1)=lH R2 cnt k++[[.own ⟨299005006,st_a.next+1+1⟩ 0 cnt]]:=by rw[tN,tr]
  rcases aI1 with⟨rfl,SG⟩|⟨o1,o2,so1,so2,vo1,vo2,vn1,vn2,SG,ag1,ag2⟩
  ·(try((repeat(revert hN;revert N;apply Pn.out));refine wk (tw @a11 (tw @a5 (tw @a0 (tw @a1 (tw @x7 (tw @hk (tw @wX (tw @SG (tw @jO (tw @qi (tw @Int.le_refl @hz))))))))))) ?_;(repeat(refine Pn.mk ?_;intro N hN))))
   refine cD ?_ ?_ (by
    (try dsimp only)
    refine⟨by omega,fun i hi=>?_,fun j hj=>?_⟩
    ·have q1:=dr (i:=i) (n:=st_a.next) (by omega)
     have q2:=da (a:=i) (b:=X) (by omega)
     have:=dC i hi
     simp only[go_sem, ↓reduceIte,Nat.reduceEqDiff,Nat.reduceAdd,Nat.reduceSub,Nat.reduceLeDiff,reduceCtorEq,q1,q2,this]
    ·by_cases yY:j=0
     ·subst yY
      rw[pc,tr]
      have q1:=gO sX (b:=299004006) (v:=st_a.next+1) (by decide)
      have q2:=gO sX (b:=299005006) (v:=st_a.next+1+1) (by decide)
      simp only[go_sem, ↓reduceIte,Nat.reduceEqDiff,Nat.reduceAdd,Nat.reduceSub,Nat.reduceLeDiff,reduceCtorEq,q1,q2]
     ·obtain⟨r1,r2⟩:=aR j (by omega)
      have q1:=dr (i:=R1 j) (n:=st_a.next) (by rw[v1];omega)
      have q2:=dr (i:=R2 j) (n:=st_a.next) (by rw[v2];omega)
      have q3:=AX (s1 j) sX (by decide)
      have q4:=AX (s2 j) sX (by decide)
      constructor
      ·simp only[go_sem, ↓reduceIte,Nat.reduceEqDiff,Nat.reduceAdd,Nat.reduceSub,Nat.reduceLeDiff,reduceCtorEq,q1,q3,r1]
      ·simp only[go_sem, ↓reduceIte,Nat.reduceEqDiff,Nat.reduceAdd,Nat.reduceSub,Nat.reduceLeDiff,reduceCtorEq,q2,q4,r2]) (.inr ⟨⟨299004008,st_a.next+1⟩,⟨299005008,st_a.next+1+1⟩,rfl,rfl,by(try dsimp only);omega,by(try dsimp only);omega,by(try dsimp only);omega,by(try dsimp only);omega,sd @wX,by rw[Mf,t1];simp only[go_sem, ↓reduceIte,Nat.reduceEqDiff,Nat.reduceAdd,Nat.reduceSub,Nat.reduceLeDiff,reduceCtorEq,wX,List.nil_append],by rw[Sq,t2];simp only[go_sem, ↓reduceIte,Nat.reduceEqDiff,Nat.reduceAdd,Nat.reduceSub,Nat.reduceLeDiff,reduceCtorEq,wX,List.nil_append]⟩)
   all_goals simp only[go_sem, ↓reduceIte,Nat.reduceEqDiff,Nat.reduceAdd,Nat.reduceSub,Nat.reduceLeDiff,reduceCtorEq,a11,a5,a0,a1,x7,wX]
  ·have l1:=kr R1 cnt k
   have l2:=kr R2 cnt k
   have e1:k+1<=16777216:=by omega
   have w1:=dr vo1
   have w2:=dr vo2
   have x1:=AX sX so1 (by decide)
   have x2:=AX sX so2 (by decide)
   have x3:=AX so1 so2 (by decide)
   (try((repeat(revert hN;revert N;apply Pn.out));refine wk (tw @a11 (tw @a5 (tw @a0 (tw @a1 (tw @x7 (tw @hk (tw @wX (tw @SG (tw @ag1 (tw @ag2 (tw @l1 (tw @l2 (tw @e1 (tw @w1 (tw @w2 (tw @x1 (tw @x2 (tw @x3 (tw @jO (tw @qi (tw @Int.le_refl @hz))))))))))))))))))))) ?_;(repeat(refine Pn.mk ?_;intro N hN))))
   refine cD ?_ ?_ (by
    (try dsimp only)
    refine⟨by omega,fun i hi=>?_,fun j hj=>?_⟩
    ·have q1:=dr (i:=i) (n:=st_a.next) (by omega)
     have q2:=da (a:=i) (b:=X) (by omega)
     have q3:=da (a:=i) (b:=o1) (by omega)
     have q4:=da (a:=i) (b:=o2) (by omega)
     have:=dC i hi
     simp only[go_sem, ↓reduceIte,Nat.reduceEqDiff,Nat.reduceAdd,Nat.reduceSub,Nat.reduceLeDiff,reduceCtorEq,q1,q2,this,q3,q4]
    ·by_cases yY:j=k
     ·subst yY
      rw[pc,tr]
      have q1:=gO sX (b:=299004006) (v:=st_a.next+1) (by decide)
      have q2:=gO sX (b:=299005006) (v:=st_a.next+1+1) (by decide)
      simp only[go_sem, ↓reduceIte,Nat.reduceEqDiff,Nat.reduceAdd,Nat.reduceSub,Nat.reduceLeDiff,reduceCtorEq,q1,q2,w1,w2]
     ·obtain⟨r1,r2⟩:=aR j (by omega)
      have q1:=dr (i:=R1 j) (n:=st_a.next) (by rw[v1];omega)
      have q2:=dr (i:=R2 j) (n:=st_a.next) (by rw[v2];omega)
      have q3:=AX (s1 j) sX (by decide)
      have q4:=AX (s2 j) sX (by decide)
      have q5:=AX (s1 j) so1 (by decide)
      have q6:=AX (s1 j) so2 (by decide)
      have q7:=AX (s2 j) so1 (by decide)
      have q8:=AX (s2 j) so2 (by decide)
      constructor
      ·simp only[go_sem, ↓reduceIte,Nat.reduceEqDiff,Nat.reduceAdd,Nat.reduceSub,Nat.reduceLeDiff,reduceCtorEq,q1,q3,r1,q5,q6]
      ·simp only[go_sem, ↓reduceIte,Nat.reduceEqDiff,Nat.reduceAdd,Nat.reduceSub,Nat.reduceLeDiff,reduceCtorEq,q2,q4,r2,q7,q8]) (.inr ⟨⟨299004008,st_a.next+1⟩,⟨299005008,st_a.next+1+1⟩,rfl,rfl,by(try dsimp only);omega,by(try dsimp only);omega,by(try dsimp only);omega,by(try dsimp only);omega,sd @wX,by rw[Mf];simp only[go_sem, ↓reduceIte,Nat.reduceEqDiff,Nat.reduceAdd,Nat.reduceSub,Nat.reduceLeDiff,reduceCtorEq,wX,w1,w2],by rw[Sq];simp only[go_sem, ↓reduceIte,Nat.reduceEqDiff,Nat.reduceAdd,Nat.reduceSub,Nat.reduceLeDiff,reduceCtorEq,wX,w1,w2]⟩)
   all_goals simp only[go_sem, ↓reduceIte,Nat.reduceEqDiff,Nat.reduceAdd,Nat.reduceSub,Nat.reduceLeDiff,reduceCtorEq,a11,a5,a0,a1,x7,wX,w1,w2,x1,x2,x3]
 have kM:cnt=k:=by omega
 subst kM
 rcases aI1 with⟨h0,_⟩|⟨o1,o2,so1,so2,vo1,vo2,vn1,vn2,SG,ag1,ag2⟩
 ·omega
 (try((repeat(revert hN;revert N;apply Pn.out));refine wk (tw @a11 (tw @a5 (tw @a0 (tw @a1 (tw @x7 @hk))))) ?_;(repeat(refine Pn.mk ?_;intro N hN))))
 have I:Jj X o1 o2 R1 R2 cnt st_a.next:=⟨sX,so1,so2,fun i _=>s1 i,fun i _=>s2 i,fun i j _ _ h=>by have:=v1 i;rw[h,v1]at this;omega,fun i j _ _ h=>by have:=v2 i;rw[h,v2]at this;omega,by omega,vo1,vo2,fun i hi=>by rw[v1];omega,fun i hi=>by rw[v2];omega⟩
 refine aX (fun n env st=>∃i:Nat,n=(bs.length)-i/\i<=(bs.length)/\env 38=.int .i64 (i:Int)/\(st_a.next<=st.next/\(∀x:Id,x.br<σ.next->st.get x=σ.get x)/\qI st.get X o1 o2 R1 R2 cnt (lE (bs.take i)) (fun _ _=>0))) (bs.length) ⟨0,by omega,by omega,sl (tw @a11 (tw @a5 (tw @a0 (tw @a1 @x7)))),⟨by(try dsimp only);omega,dC,SG,ag1,ag2,fun j hj=>(aR j hj).1,fun j hj=>(aR j hj).2⟩⟩ ?_
 rintro n_b env_b st_b ⟨i,rfl,ble,b38,bI0⟩ eX
 have b0:=eX 0 (by kernel_rfl);have b1:=eX 1 (by kernel_rfl);have b5:=eX 5 (by kernel_rfl);have R0:=eX 36 (by kernel_rfl);have R3:=eX 37 (by kernel_rfl)
 simp only[go_sem, ↓reduceIte,Nat.reduceEqDiff,Nat.reduceAdd,Nat.reduceSub,Nat.reduceLeDiff,reduceCtorEq,a11,a5,a0,a1,x7]at b0 b1 b5 R0 R3
 clear eX
 obtain⟨bn,PO,bM⟩:=bI0
 by_cases hi:(i:Int)<(bs.length:Int)
 ·have fh:∀{e:Env} {gg:Rows} {nx:Nat},(e 38=.int .i64 (IntKind.i64.wrap ((i:Int)+1)))->(st_a.next<=nx/\(∀x:Id,x.br<σ.next->gg x=σ.get x)/\qI gg X o1 o2 R1 R2 cnt (lE (bs.take (i+1))) (fun _ _=>0))->∃m0,m0<(bs.length)-i/\∃i:Nat,m0=(bs.length)-i/\i<=(bs.length)/\e 38=.int .i64 (i:Int)/\(st_a.next<=nx/\(∀x:Id,x.br<σ.next->gg x=σ.get x)/\qI gg X o1 o2 R1 R2 cnt (lE (bs.take i)) (fun _ _=>0)):=fun x1 x2=>⟨_,by omega,i+1,rfl,by omega,(by rw[x1,az (by omega)]),x2⟩
  have fI:i<bs.length:=by omega
  have jm:(bs.map aD)[i]? =some (aD bs[i]):=by simp[fI]
  have fJ:=hb _ (List.getElem_mem fI)
  have hsi:=eu _ (List.getElem_mem fI)
  have qn:lE (bs.take (i+1))=oh (lE (bs.take i)) bs[i]:=by rw[List.take_succ_eq_append_getElem fI,Fp]
  have rj:=AN (bs.take i) (fun _ _=>0) (fun b hb=>(eu b (List.mem_of_mem_take hb)).1) (fun _ _=>Int.le_refl _)
  have hle:=room_le (bs.take i) (fun _ _=>0) 0 (fun b hb=>(eu b (List.mem_of_mem_take hb)).2) (fun _ _=>Int.le_refl _) (Int.le_refl _)
  rw[List.length_take]at hle
  have eR:(bs.take i).foldl oh (fun _ _=>0)=lE (bs.take i):=rfl
  rw[eR]at rj hle
  generalize lE (bs.take i)=c at *
  generalize bs[i]=b at *
  obtain⟨ha,tq⟩:=fJ
  have gA:=sU (R:=R1) (n:=cnt) ha
  have gB:=sU (R:=R1) (n:=cnt) tq
  have rA:=bM.r1 _ ha
  have rB:=bM.r1 _ tq
  have cA:=ep (f:=c b.a) tq
  have cB:=ep (f:=c b.b) ha
  have sA:=oP (f:=c) (a:=b.a) (d:=b.s) tq
  have gX:=bM.x
  have g1:=bM.t1
  have gQ:(b.a:Int)<(cnt:Int):=by omega
  have fJ:(b.b:Int)<(cnt:Int):=by omega
  have qX:=dr (i:=X) (n:=st_b.next) (by omega)
  have q1:=dr (i:=o1) (n:=st_b.next) (by omega)
  have qA:=dr (i:=R1 b.a) (n:=st_b.next) (by rw[v1];omega)
  have qB:=dr (i:=R1 b.b) (n:=st_b.next) (by rw[v1];omega)
  have xA:=AX sX (s1 b.a) (by decide)
  have xB:=AX sX (s1 b.b) (by decide)
  have yA:=AX so1 (s1 b.a) (by decide)
  have yB:=AX so1 (s1 b.b) (by decide)
  have l1:=kr R1 cnt cnt
  have lA:=ec (c b.a) cnt
  have lB:=ec (c b.b) cnt
  have hAB:=hle b.a b.b
  have hBA:=hle b.b b.a
  have gAB:=rj b.a b.b
  have gBA:=rj b.b b.a
  have wA:IntKind.i64.wrap (c b.a b.b+b.s)=c b.a b.b+b.s:=bK (by omega)
  by_cases oq:b.a=b.b
  ·obtain⟨ba,bb,s⟩:=b
   dsimp only at *
   subst oq
   have QT:=oP (f:=bump c ba ba s) (a:=ba) (b:=ba) (d:=s) (n:=cnt) ha
   have WQ:=ep (f:=bump c ba ba s ba) ha
   have hv:bump c ba ba s ba ba=c ba ba+s:=by simp[bump]
   have lC:=ec (bump c ba ba s ba) cnt
   have wB:IntKind.i64.wrap (c ba ba+s+s)=c ba ba+s+s:=bK (by omega)
   rw[hv]at QT WQ
   have sj:oh c ⟨ba,ba,s⟩ ba=bump (bump c ba ba s) ba ba s ba:=rfl
   rw[aQ]at cA sA QT WQ
   (try((repeat(revert hN;revert N;apply Pn.out));refine wk (tw @b38 (tw @b0 (tw @b1 (tw @b5 (tw @R0 (tw @R3 (tw @hi (tw @jm (tw @aD.eq_1 (tw @gA (tw @rA (tw @cA (tw @sA (tw @gX (tw @g1 (tw @gQ (tw @qX (tw @q1 (tw @qA (tw @xA (tw @yA (tw @l1 (tw @lA (tw @wA (tw @QT (tw @WQ (tw @lC @wB))))))))))))))))))))))))))) ?_;(repeat(refine Pn.mk ?_;intro N hN))))
   exact fh (sd (tw @b38 (tw @b0 (tw @b1 (tw @b5 (tw @R0 @R3)))))) (by
    (try dsimp only)
    refine⟨by omega,fun x hx=>?_,?_⟩
    ·have p1:=dr (i:=x) (n:=st_b.next) (by omega)
     have p2:=da (a:=x) (b:=R1 ba) (by rw[v1];omega)
     have:=PO x hx
     simp only[go_sem, ↓reduceIte,Nat.reduceEqDiff,Nat.reduceAdd,Nat.reduceSub,Nat.reduceLeDiff,reduceCtorEq,p1,p2,this]
    ·rw[qn]
     refine bM.add I ⟨ba,ba,s⟩ ha ha (fun h=>absurd rfl h) ?_ fun x hx h1 h2=>?_
     ·rw[sj]
      simp only[go_sem, ↓reduceIte,Nat.reduceEqDiff,Nat.reduceAdd,Nat.reduceSub,Nat.reduceLeDiff,reduceCtorEq]
     ·have p1:=dr (i:=x) (n:=st_b.next) (by omega)
      (try dsimp only at h2)
      simp only[go_sem, ↓reduceIte,Nat.reduceEqDiff,Nat.reduceAdd,Nat.reduceSub,Nat.reduceLeDiff,reduceCtorEq,p1,h2])
  ·have ij:(R1 b.a=R1 b.b)=False:=by simp only[eq_iff_iff,iff_false];exact fun h=>oq (I.i1 _ _ ha tq h)
   have Kl:(R1 b.b=R1 b.a)=False:=by simp only[eq_iff_iff,iff_false];exact fun h=>oq (I.i1 _ _ ha tq h.symm)
   have QM:bump c b.a b.b b.s b.b=c b.b:=kg fun h=>oq h.symm
   have QT:=oP (f:=bump c b.a b.b b.s) (a:=b.b) (b:=b.a) (d:=b.s) (n:=cnt) ha
   rw[QM]at QT
   have wB:IntKind.i64.wrap (c b.b b.a+b.s)=c b.b b.a+b.s:=bK (by omega)
   have sj:oh c b b.b=bump (bump c b.a b.b b.s) b.b b.a b.s b.b:=rfl
   rw[aQ]at cA cB sA QT
   (try((repeat(revert hN;revert N;apply Pn.out));refine wk (tw @b38 (tw @b0 (tw @b1 (tw @b5 (tw @R0 (tw @R3 (tw @hi (tw @jm (tw @aD.eq_1 (tw @gA (tw @gB (tw @rA (tw @rB (tw @cA (tw @cB (tw @sA (tw @gX (tw @g1 (tw @gQ (tw @fJ (tw @qX (tw @q1 (tw @qA (tw @qB (tw @xA (tw @xB (tw @yA (tw @yB (tw @l1 (tw @lA (tw @lB (tw @wA (tw @QT (tw @wB (tw @ij @Kl))))))))))))))))))))))))))))))))))) ?_;(repeat(refine Pn.mk ?_;intro N hN))))
   exact fh (sd (tw @b38 (tw @b0 (tw @b1 (tw @b5 (tw @R0 @R3)))))) (by
    (try dsimp only)
    refine⟨by omega,fun x hx=>?_,?_⟩
    ·have p1:=dr (i:=x) (n:=st_b.next) (by omega)
     have p2:=da (a:=x) (b:=R1 b.b) (by rw[v1];omega)
     have p3:=da (a:=x) (b:=R1 b.a) (by rw[v1];omega)
     have:=PO x hx
     simp only[go_sem, ↓reduceIte,Nat.reduceEqDiff,Nat.reduceAdd,Nat.reduceSub,Nat.reduceLeDiff,reduceCtorEq,p1,p2,p3,this]
    ·rw[qn]
     refine bM.add I b ha tq (fun h=>?_) ?_ fun x hx h1 h2=>?_
     ·simp only[go_sem, ↓reduceIte,Nat.reduceEqDiff,Nat.reduceAdd,Nat.reduceSub,Nat.reduceLeDiff,reduceCtorEq,ij]
     ·rw[sj]
      simp only[go_sem, ↓reduceIte,Nat.reduceEqDiff,Nat.reduceAdd,Nat.reduceSub,Nat.reduceLeDiff,reduceCtorEq,ij]
     ·have p1:=dr (i:=x) (n:=st_b.next) (by omega)
      simp only[go_sem, ↓reduceIte,Nat.reduceEqDiff,Nat.reduceAdd,Nat.reduceSub,Nat.reduceLeDiff,reduceCtorEq,p1,h1,h2])
 ·have mj:i=bs.length:=by omega
  subst mj
  rw[List.take_length]at bM
  (try((repeat(revert hN;revert N;apply Pn.out));refine wk (tw @b38 (tw @b0 (tw @b1 (tw @b5 (tw @R0 (tw @R3 @hi)))))) ?_;(repeat(refine Pn.mk ?_;intro N hN))))
  exact fe (.inl rfl) (vs:=[.ptr X 0 0]) (sd @Nat.zero_add) ⟨X,o1,o2,R1,R2,rfl,⟨I.sx,I.s1,I.s2,I.VL,I.Pq,I.i1,I.i2,by have:=I.vx;(try dsimp only);omega,by have:=I.v1;(try dsimp only);omega,by have:=I.v2;(try dsimp only);omega,fun j hj=>by have:=I.XW j hj;(try dsimp only);omega,fun j hj=>by have:=I.UG j hj;(try dsimp only);omega⟩,by(try dsimp only);omega,bM,PO⟩
end Go.Proofs.YtgoljkjaameagaaGreat.V

namespace Go.Proofs.YtgoljkjaameagaaGreat.V
structure Bq (n:Nat) (c f:Nat->Nat->Int) (x:Nat) (par:Nat->Int) (Q:List Nat) (i:Nat):Prop where
 nodup:Q.Nodup
 lt:∀v∈Q,v<n
 root:par x=(x:Int)
 mem:x∈Q
 iff:∀v,v<n->(0<=par v↔v∈Q)
 up:∀v∈Q,v≠x->∃u,u∈Q/\par v=(u:Int)/\Q.idxOf u<Q.idxOf v/\f u v<c u v
 done:∀j (_:j<i) (hl:j<Q.length) (v:Nat),v<n->f Q[j] v<c Q[j] v->v∈Q
 ile:i<=Q.length
section
variable {n:Nat} {c f:Nat->Nat->Int} {x:Nat} {par:Nat->Int} {Q:List Nat} {i:Nat}
theorem Bq.len (h:Bq n c f x par Q i):Q.length<=n:=pf n Q h.nodup h.lt
theorem Bq.start (hx:x<n):Bq n c f x (fun v=>if v=x then(x:Int)else -1) [x] 0:=by
 refine⟨by simp,fun v hv=>by simp at hv;omega,by simp,by simp,fun v hv=>?_,fun v hv ij=>absurd (by simpa using hv) ij,fun j hj=>by omega,by simp⟩
 by_cases h:v=x
 ·simp[h]
 ·simp[h]
theorem Bq.visit (h:Bq n c f x par Q i) (hi:i<Q.length) {v:Nat} (hv:v<n) (hp:par v<0) (hr:f Q[i] v<c Q[i] v):Bq n c f x (fun w=>if w=v then(Q[i]:Int)else par w) (Q++[v]) i:=by
 have XH:v∉Q:=fun hm=>by have:=(h.iff v hv).2 hm;omega
 have XN:x≠v:=fun e=>XH (e▸h.mem)
 have Aj:∀u∈Q,(Q++[v]).idxOf u=Q.idxOf u:=fun u hu=>by rw[List.idxOf_append,if_pos hu]
 have wE:(Q++[v]).idxOf v=Q.length:=by rw[List.idxOf_append,if_neg XH];simp
 refine⟨?_,fun w hw=>?_,by simp only[if_neg XN];exact h.root,by simp[h.mem],fun w hw=>?_,fun w hw ij=>?_,fun j hj hl w hw Dz=>?_,by simp;omega⟩
 ·refine List.nodup_append.2 ⟨h.nodup,by simp,fun a ha b hb=>?_⟩
  rw[List.mem_singleton.1 hb]
  rintro rfl;exact XH ha
 ·rcases List.mem_append.1 hw with hw|hw
  ·exact h.lt w hw
  ·rw[List.mem_singleton.1 hw];exact hv
 ·by_cases Gy:w=v
  ·subst Gy;simp
  ·rw[if_neg Gy,h.iff w hw];simp[Gy]
 ·by_cases Gy:w=v
  ·subst Gy
   refine⟨Q[i],by simp,by simp,?_,hr⟩
   rw[Aj _ (List.getElem_mem hi),wE]
   exact List.idxOf_lt_length_of_mem (List.getElem_mem hi)
  ·have hwQ:w∈Q:=by
    rcases List.mem_append.1 hw with hw|hw
    ·exact hw
    ·exact absurd (List.mem_singleton.1 hw) Gy
   obtain⟨u,h1,h2,h3,h4⟩:=h.up w hwQ ij
   exact⟨u,by simp[h1],by rw[if_neg Gy];exact h2,by rw[Aj u h1,Aj w hwQ];exact h3,h4⟩
 ·have gT:j<Q.length:=by have:=h.ile;omega
  rw[List.getElem_append_left gT]at Dz
  exact List.mem_append_left _ (h.done j hj gT w hw Dz)
theorem Bq.next (h:Bq n c f x par Q i) (hi:i<Q.length) (eh:∀v,v<n->f Q[i] v<c Q[i] v->0<=par v):Bq n c f x par Q (i+1):=by
 refine⟨h.nodup,h.lt,h.root,h.mem,h.iff,h.up,fun j hj hl v hv hr=>?_,by omega⟩
 by_cases ni:j=i
 ·subst ni;exact(h.iff v hv).1 (eh v hv hr)
 ·exact h.done j (by omega) hl v hv hr
theorem Bq.cut (h:Bq n c f x par Q Q.length) {y:Nat} (hy:y<n) (hp:par y<0):∃S:Nat->Bool,S x=true/\S y=false/\∀u v,u<n->v<n->S u=true->S v=false->¬f u v<c u v:=by
 refine⟨fun v=>decide (v∈Q),by simp[h.mem],?_,fun u v hu hv h1 h2 hr=>?_⟩
 ·have:y∉Q:=fun hm=>by have:=(h.iff y hy).2 hm;omega
  simp[this]
 ·simp only[decide_eq_true_eq,decide_eq_false_iff_not]at h1 h2
  obtain⟨j,hj,rfl⟩:=List.getElem_of_mem h1
  exact h2 (h.done j hj hj v hv hr)
def vD (c f:Nat->Nat->Int) (Q:List Nat) (y k:Nat) (out:List Nat):Prop:=∃rest,out.reverse=k::rest/\(k::rest).getLast (by simp)=y/\rS f c (k::rest)/\(k::rest).Pairwise (fun a b=>Q.idxOf a<Q.idxOf b)/\∀v∈k::rest,v∈Q
theorem vD.start {y:Nat} (hy:y∈Q):vD c f Q y y [y]:=⟨[],rfl,rfl,trivial,by simp,by simpa using hy⟩
theorem vD.step {y k u:Nat} {out:List Nat} (h:vD c f Q y k out) (hu:u∈Q) (hi:Q.idxOf u<Q.idxOf k) (hr:f u k<c u k):vD c f Q y u (out++[u]):=by
 obtain⟨rest,h1,h2,h3,h4,h5⟩:=h
 refine⟨k::rest,by rw[List.reverse_append,h1];rfl,by rw[List.getLast_cons (by simp)];exact h2,⟨hr,h3⟩,?_,?_⟩
 ·refine List.pairwise_cons.2 ⟨fun b hb=>?_,h4⟩
  rcases List.mem_cons.1 hb with rfl|hb
  ·exact hi
  ·have:=(List.pairwise_cons.1 h4).1 b hb;omega
 ·intro v hv
  rcases List.mem_cons.1 hv with rfl|hv
  ·exact hu
  ·exact h5 v hv
theorem vD.len {y k:Nat} {out:List Nat} (h:vD c f Q y k out) (hq:∀v∈Q,v<n):out.length<=n:=by
 obtain⟨rest,h1,_,_,h4,h5⟩:=h
 rw[<-List.length_reverse,h1]
 refine pf n _ (h4.imp fun eo he=>?_) fun v hv=>hq v (h5 v hv)
 subst he;omega
structure SF (n:Nat) (c f:Nat->Nat->Int) (x y:Nat) (p:List Nat):Prop where
 way:∃r,p=x::r/\(x::r).getLast (by simp)=y
 nodup:p.Nodup
 room:rS f c p
 lt:∀v∈p,v<n
theorem vD.way {y:Nat} {out:List Nat} (h:vD c f Q y x out) (hq:∀v∈Q,v<n):SF n c f x y out.reverse:=by
 obtain⟨rest,h1,h2,h3,h4,h5⟩:=h
 rw[h1]
 exact⟨⟨rest,rfl,h2⟩,h4.imp fun eo he=>by subst he;omega,h3,fun v hv=>hq v (h5 v hv)⟩
end
end Go.Proofs.YtgoljkjaameagaaGreat.V

namespace Go.Proofs.YtgoljkjaameagaaGreat.V
open Go.RowKit
attribute [local irreducible] ek wpOps fK Call
attribute [local go_sem] aI fw eH fE fD dd upd cm K.av cG AV.cells AV.cell rowOf rowsOf part ld rowAt bL bY dx dO gz bE cW dY fC eY dj dS cU cR dG dH bH aZ cJ bG cL cK dQ dU dR cI bJ cV dP bF aL cP cz gy bq cF bI aW dq bm dy AV.undef bw bz dJ dM dD dI cE dX ea cq dW dV cN cQ List.getD_cons_zero List.getD_cons_succ List.getD_nil List.all_cons List.all_nil Bool.and_true Bool.true_and Bool.and_self Bool.not_true Bool.not_false Option.map_some Option.map_none Option.bind_some Option.bind_none List.length_cons List.length_nil List.take_succ_cons List.take_zero List.take_nil List.drop_succ_cons List.drop_zero List.drop_nil List.head?_cons List.map_cons List.map_nil List.getElem?_cons_zero List.getElem?_cons_succ List.cons_append List.nil_append List.append_nil List.length_map List.set_cons_zero List.set_cons_succ Nat.reduceMul eq_self Int.toNat_natCast Int.natCast_nonneg and_self true_and and_true decide_true decide_false Bool.false_eq_true Nat.zero_add Nat.add_zero List.contains_cons List.contains_nil Bool.or_false Bool.false_or beq_self_eq_true Nat.reduceBEq ne_eq not_true_eq_false not_false_eq_true Id.mk.injEq false_and and_false Nat.reduceLT Int.reduceLE Int.reduceLT Int.reduceToNat Int.reduceNeg Int.reduceAdd Nat.le_refl List.length_append beq_true beq_false Bool.not_eq_eq_eq_not or_false false_or dK aq au aH bf bt bZ aU bh aT bc cH bx
def mv (l:List Nat) (i x:Nat):Nat:=if x<i∨l.length-i<=x then l.getD (l.length-1-x) 0 else l.getD x 0
theorem zy (l:List Nat):l.map eN=ef (fun x=>l.getD x 0) l.length:=by
 refine List.ext_getElem? fun i=>?_
 by_cases h:i<l.length
 ·rw[fH h,List.getElem?_map,List.getElem?_eq_getElem h];simp[List.getD_eq_getElem?_getD,h]
 ·rw[List.getElem?_eq_none (by simp;omega),List.getElem?_eq_none (by rw[gF];omega)]
theorem Iy (l:List Nat):ef (mv l 0) l.length=l.map eN:=by
 rw[zy]
 exact ik fun x hx=>by unfold mv;rw[if_neg (by omega)]
theorem Lk (l:List Nat) {i:Nat} (h:l.length<=2*i+1) (hi:i<=l.length):ef (mv l i) l.length=l.reverse.map eN:=by
 rw[zy l.reverse,List.length_reverse]
 refine ik fun x hx=>?_
 have hr:l.reverse.getD x 0=l.getD (l.length-1-x) 0:=by
  rw[List.getD_eq_getElem?_getD,List.getElem?_reverse hx,List.getD_eq_getElem?_getD]
 rw[hr]
 unfold mv
 by_cases hc:x<i∨l.length-i<=x
 ·rw[if_pos hc]
 ·rw[if_neg hc]
  have:x=l.length-1-x:=by omega
  rw[<-this]
theorem Iz (l:List Nat) (hp:0<l.length) (hl:l.length<=1048576) (o:Id) (σ:ay) (ho:σ.get o=some ⟨true,1,l.map eN⟩) (pO:o.br<σ.next):
  Call Tryz.prog 329 [.own o 0 l.length] σ fun r σ'=>σ'.get o=some ⟨true,1,l.reverse.map eN⟩/\σ.next<=σ'.next/\∀i:Id,i.br<σ.next->(i=o)=False->σ'.get i=σ.get i:=by
 refine e6 eK rfl fun lf=>?_
 clear lf
 rw[<-Iy]at ho
 have Jb:IntKind.i64.wrap ((l.length:Int)-1)=((l.length-1:Nat):Int):=by rw[bK (by omega)];omega
 (try((repeat(revert hN;revert N;apply Pn.out));refine wk @Jb ?_;(repeat(refine Pn.mk ?_;intro N hN))))
 refine aX (fun m env st=>∃i:Nat,m=l.length-i/\2*i<=l.length+1/\i<=l.length/\env 2=.int .i64 (i:Int)/\env 3=.int .i64 ((l.length:Int)-1-i)/\st.get o=some ⟨true,1,ef (mv l i) l.length⟩/\σ.next<=st.next/\∀x:Id,x.br<σ.next->(x=o)=False->st.get x=σ.get x) l.length ⟨0,rfl,by omega,by omega,by(simp only[go_sem, ↓reduceIte,Nat.reduceEqDiff,Nat.reduceAdd,Nat.reduceSub,Nat.reduceLeDiff,reduceCtorEq])<;>rfl,by(simp only[go_sem, ↓reduceIte,Nat.reduceEqDiff,Nat.reduceAdd,Nat.reduceSub,Nat.reduceLeDiff,reduceCtorEq,Jb]);congr 1;omega,ho,by(try dsimp only);omega,fun x _ _=>rfl⟩ ?_
 rintro m env_b st_b ⟨i,rfl,uZ,mj,b2,b3,bg,bn,eX⟩ bkp
 have b0:=bkp 0 (by kernel_rfl)
 simp only[go_sem, ↓reduceIte,Nat.reduceEqDiff,Nat.reduceAdd,Nat.reduceSub,Nat.reduceLeDiff,reduceCtorEq]at b0
 clear bkp
 have tl:=gF (mv l i) l.length
 have kW:=dr (i:=o) (n:=st_b.next) (by omega)
 by_cases hi:(i:Int)<(l.length:Int)-1-i
 ·have fI:i<l.length:=by omega
  obtain⟨j,hj⟩:∃j,j=l.length-1-i:=⟨_,rfl⟩
  have gW:j<l.length:=by omega
  have M5:(l.length:Int)-1-i=(j:Int):=by omega
  rw[M5]at b3 hi
  have g1:=fH (f:=mv l i) fI
  have g2:=fH (f:=mv l i) gW
  have e1:mv l i i=l.getD i 0:=by unfold mv;rw[if_neg (by omega)]
  have e2:mv l i j=l.getD j 0:=by unfold mv;rw[if_neg (by omega)]
  have Gt:(ef (mv l i) l.length).set i (eN (l.getD j 0))=ef (fun x=>if x=i then l.getD j 0 else mv l i x) l.length:=p9 fI (if_pos rfl) fun x _ hx=>if_neg hx
  have Ku:(ef (fun x=>if x=i then l.getD j 0 else mv l i x) l.length).set j (eN (l.getD i 0))=ef (mv l (i+1)) l.length:=p9 gW (by unfold mv;rw[if_pos (by omega)];congr 1;omega) fun x hx Su=>by
   by_cases DF:x=i
   ·rw[if_pos DF];unfold mv;rw[if_pos (by omega)];congr 1;omega
   ·rw[if_neg DF];unfold mv
    by_cases hc:x<i∨l.length-i<=x
    ·rw[if_pos hc,if_pos (by omega)]
    ·rw[if_neg hc,if_neg (by omega)]
  have VM:=gF (fun x=>if x=i then l.getD j 0 else mv l i x) l.length
  have g3:=fH (f:=fun x=>if x=i then l.getD j 0 else mv l i x) gW
  rw[e1]at g1
  rw[e2]at g2
  rw[if_neg (by omega),e2]at g3
  rw[eN]at g1 g2 g3 Gt Ku
  have hii:(i:Int)<(l.length:Int):=by omega
  have ni:(j:Int)<(l.length:Int):=by omega
  have l7:IntKind.i64.wrap ((i:Int)+1)=((i+1:Nat):Int):=az (by omega)
  have qy:IntKind.i64.wrap ((j:Int)-1)=(l.length:Int)-1-((i+1:Nat):Int):=by rw[bK (by omega)];omega
  (try((repeat(revert hN;revert N;apply Pn.out));refine wk (tw @b0 (tw @b2 (tw @b3 (tw @bg (tw @hi (tw @hii (tw @ni (tw @g1 (tw @g2 (tw @g3 (tw @Gt (tw @Ku (tw @tl (tw @VM (tw @kW (tw @l7 @qy)))))))))))))))) ?_;(repeat(refine Pn.mk ?_;intro N hN))))
  refine⟨_,?_,i+1,rfl,by omega,by omega,sd @l7,sd @qy,sd @Ku,by(try dsimp only);omega,fun x hx Bo=>?_⟩
  ·omega
  ·have:=eX x hx Bo
   simp only[go_sem, ↓reduceIte,Nat.reduceEqDiff,Nat.reduceAdd,Nat.reduceSub,Nat.reduceLeDiff,reduceCtorEq,Bo,this]
 ·rw[Lk l (by omega) mj]at bg
  (try((repeat(revert hN;revert N;apply Pn.out));refine wk (tw @b0 (tw @b2 (tw @b3 (tw @bg @hi)))) ?_;(repeat(refine Pn.mk ?_;intro N hN))))
  exact fe (.inr rfl) (vs:=[]) (by simp only[fR,go_sem, ↓reduceIte,Nat.reduceEqDiff,Nat.reduceAdd,Nat.reduceSub,Nat.reduceLeDiff,reduceCtorEq]) ⟨bg,by(try dsimp only);omega,eX⟩
theorem UH (cnt:Nat) (Al:1<=cnt) (hn:cnt<=1048576) (c f:Nat->Nat->Int) (x y:Nat) (hx:x<cnt) (hy:y<cnt):
  nS Tryz.prog 301 [.dp (lY cnt c f),.int .i64 x,.int .i64 y] fun r=>(r=.cj/\∃S:Nat->Bool,S x=true/\S y=false/\∀u v,u<cnt->v<cnt->S u=true->S v=false->¬f u v<c u v)∨∃p:List Nat,r=.sl (p.map eN)/\SF cnt c f x y p:=by
 refine nS.body eK rfl fun hl n0=>?_
 clear hl
 have lM:=xI c cnt
 have jO:(0:Int)<=(cnt:Int):=by omega
 have DF:(x:Int)<(cnt:Int):=by omega
 have VH:(y:Int)<(cnt:Int):=by omega
 (try((repeat(revert hN;revert N;apply Pn.out));refine wk (tw @lY.eq_1 @lM) ?_;(repeat(refine Pn.mk ?_;intro N hN))))
 refine .inr (aJ _ _ _ _ _ (fun r σ1 hq=>?_) (Li cnt Al hn (-1) ⟨301002000,n0+1+1⟩ _ (sd @Nat.zero_add) (by(try dsimp only);omega)))
 obtain⟨o,rfl,ho,Nh,Ni,l5⟩:=hq
 (try dsimp only at ho Nh Ni l5)
 refine hN _ _ ?_
 clear hN N
 have kW:=dr Ni
 have qi:(cnt:Int)<=1048576:=by omega
 have Tu:qY<qY+cnt:=by omega
 have gS:List.replicate cnt [AV.int .i64 (-1)]=ev (fun _=>-1) cnt:=by
  refine List.ext_getElem? fun i=>?_
  by_cases h:i<cnt
  ·rw[ep h,List.getElem?_replicate,if_pos h];rfl
  ·rw[List.getElem?_eq_none (by simp;omega),List.getElem?_eq_none (by rw[ec];omega)]
 rw[gS]at ho
 have Cq:(ev (fun _=>-1) cnt).set x (aQ (x:Int))=ev (fun v=>if v=x then(x:Int)else -1) cnt:=lI hx (if_pos rfl) fun v _ hv=>if_neg hv
 have hg0:=ep (f:=fun _=>-1) hx
 have tl0:=ec (fun _=>-1) cnt
 rw[aQ]at Cq hg0
 (try((repeat(revert hN;revert N;apply Pn.out));refine wk (tw @lY.eq_1 (tw @lM (tw @jO (tw @qi @kW)))) ?_;(repeat(refine Pn.mk ?_;intro N hN))))
 refine LR ?_
 simp only[go_sem, ↓reduceIte,Nat.reduceEqDiff,Nat.reduceAdd,Nat.reduceSub,Nat.reduceLeDiff,reduceCtorEq,Tu]
 refine hN _ _ ?_
 clear hN N
 (try((repeat(revert hN;revert N;apply Pn.out));refine wk (tw @ho (tw @kW (tw @Cq (tw @hg0 (tw @tl0 @DF))))) ?_;(repeat(refine Pn.mk ?_;intro N hN))))
 obtain⟨C,hC⟩:∃C:Id,C=⟨301003001,σ1.next+1⟩:=⟨_,rfl⟩
 have TV:=da (a:=o) (b:=C) (by rw[hC];(try dsimp only);omega)
 have hCv:C.br=σ1.next+1:=by rw[hC]
 refine aX (fun m env st=>∃(par:Nat->Int) (Q:List Nat) (i:Nat),m=cnt-i/\Bq cnt c f x par Q i/\st.get o=some ⟨true,1,ev par cnt⟩/\st.get C=some ⟨true,qY+cnt,(Q.drop i).map eN⟩/\σ1.next+1<st.next) cnt ⟨_,[x],0,rfl,Bq.start hx,sd @kW,by rw[hC];simp only[go_sem, ↓reduceIte,Nat.reduceEqDiff,Nat.reduceAdd,Nat.reduceSub,Nat.reduceLeDiff,reduceCtorEq,kW];rfl,by(try dsimp only);omega⟩ ?_
 rintro m env_b st_b ⟨par,Q,i,rfl,hB,bgo,bgC,bn⟩ bkp
 have b0:=bkp 0 (by kernel_rfl)
 have b1:=bkp 1 (by kernel_rfl)
 have b2:=bkp 2 (by kernel_rfl)
 have b7:=bkp 7 (by kernel_rfl)
 have b8:=bkp 8 (by kernel_rfl)
 have b9:=bkp 9 (by kernel_rfl)
 rw[<-hC]at b9
 simp only[go_sem, ↓reduceIte,Nat.reduceEqDiff,Nat.reduceAdd,Nat.reduceSub,Nat.reduceLeDiff,reduceCtorEq]at b0 b1 b2 b7 b8 b9
 clear bkp
 have hQn:=hB.len
 have mj:=hB.ile
 have I5:((Q.drop i).map eN).length=Q.length-i:=by simp
 by_cases hi:i<Q.length
 ·have jx:(0:Int)<((Q.length-i:Nat):Int):=by omega
  have s5:Q.drop i=Q[i]::Q.drop (i+1):=List.drop_eq_getElem_cons hi
  obtain⟨u,hu⟩:∃u,u=Q[i]:=⟨_,rfl⟩
  have hun:u<cnt:=by rw[hu];exact hB.lt _ (List.getElem_mem hi)
  rw[<-hu]at s5
  (try((repeat(revert hN;revert N;apply Pn.out));refine wk (tw @b0 (tw @b1 (tw @b2 (tw @b7 (tw @b8 (tw @b9 (tw @bgC (tw @I5 @jx)))))))) ?_;(repeat(refine Pn.mk ?_;intro N hN))))
  refine LR ?_
  rw[s5,List.map_cons,show eN u=[.int .i64 (u:Int)]from rfl]at bgC
  simp only[go_sem, ↓reduceIte,Nat.reduceEqDiff,Nat.reduceAdd,Nat.reduceSub,Nat.reduceLeDiff,reduceCtorEq,b9,bgC]
  refine hN _ _ ?_
  clear hN N
  (try((repeat(revert hN;revert N;apply Pn.out));refine wk @b7 ?_;(repeat(refine Pn.mk ?_;intro N hN))))
  refine aX (fun m env st=>∃(v:Nat) (par':Nat->Int) (Q':List Nat),m=cnt-v/\v<=cnt/\env 36=.int .i64 (v:Int)/\Bq cnt c f x par' Q' i/\(∃h:i<Q'.length,Q'[i]=u)/\st.get o=some ⟨true,1,ev par' cnt⟩/\st.get C=some ⟨true,qY+cnt,(Q'.drop (i+1)).map eN⟩/\σ1.next+1<st.next/\∀w,w<v->f u w<c u w->0<=par' w) cnt ⟨0,par,Q,rfl,Nat.zero_le _,by(simp only[go_sem, ↓reduceIte,Nat.reduceEqDiff,Nat.reduceAdd,Nat.reduceSub,Nat.reduceLeDiff,reduceCtorEq])<;>rfl,hB,⟨hi,hu.symm⟩,sd (tw @TV @bgo),sd @TV,by(try dsimp only);omega,fun w hw=>absurd hw (Nat.not_lt_zero w)⟩ ?_
  rintro m env_c st_c ⟨v,par',Q',rfl,hvn,c36,eb,⟨rP,Gu⟩,yL,cgC,cn,eh⟩ ckp
  have c0:=ckp 0 (by kernel_rfl)
  have c1:=ckp 1 (by kernel_rfl)
  have c2:=ckp 2 (by kernel_rfl)
  have c7:=ckp 7 (by kernel_rfl)
  have c8:=ckp 8 (by kernel_rfl)
  have c9:=ckp 9 (by kernel_rfl)
  have jG:=ckp 10 (by kernel_rfl)
  have PS:=ckp 35 (by kernel_rfl)
  simp only[go_sem, ↓reduceIte,Nat.reduceEqDiff,Nat.reduceAdd,Nat.reduceSub,Nat.reduceLeDiff,reduceCtorEq,b0,b1,b2,b7,b8,b9]at c0 c1 c2 c7 c8 c9 jG PS
  clear ckp
  have tl:=ec par' cnt
  by_cases hv:(v:Int)<(cnt:Int)
  ·have ET:v<cnt:=by omega
   have Qz:=ep (f:=par') ET
   have l5:=P9 cnt c f u v hun ET
   have hw:IntKind.i64.wrap ((v:Int)+1)=((v+1:Nat):Int):=az (by omega)
   rw[aQ]at Qz
   rw[lY]at l5
   by_cases kj:par' v<0
   ·by_cases hr:f u v<c u v
    ·rw[decide_eq_true hr]at l5
     have eC:(ev par' cnt).set v (aQ (u:Int))=ev (fun w=>if w=v then(u:Int)else par' w) cnt:=lI ET (if_pos rfl) fun w _ hw=>if_neg hw
     rw[aQ]at eC
     have qh:=eb.visit rP ET kj (by rw[Gu];exact hr)
     rw[Gu]at qh
     have hQ2:=qh.len
     rw[List.length_append]at hQ2
     simp only[List.length_singleton]at hQ2
     have eR:qY+(Q'.drop (i+1)).length<qY+cnt:=by rw[List.length_drop];omega
     (repeat(first|((repeat(revert hN;revert N;apply Pn.out));refine wk (tw @lY.eq_1 (tw @c0 (tw @c7 (tw @c8 (tw @c9 (tw @jG (tw @c36 (tw @PS (tw @hv (tw @yL (tw @Qz (tw @tl (tw @kj @eC))))))))))))) ?_;(repeat(refine Pn.mk ?_;intro N hN)))|((try apply Or.inl);refine⟨_,aw.x (l5) (sd (tw @lY.eq_1 (tw @c0 (tw @c7 (tw @c8 (tw @c9 (tw @jG (tw @c36 (tw @PS (tw @hv (tw @yL (tw @Qz (tw @tl (tw @kj @eC)))))))))))))),?_⟩;refine hN _ _ ?_;clear hN N)))
     refine LR ?_
     have hq:(Q'.drop (i+1)).map eN++[[.int .i64 (v:Int)]]=((Q'++[v]).drop (i+1)).map eN:=by rw[List.drop_append_of_le_length (by omega),List.map_append];rfl
     simp only[go_sem, ↓reduceIte,Nat.reduceEqDiff,Nat.reduceAdd,Nat.reduceSub,Nat.reduceLeDiff,reduceCtorEq,c9,cgC,eR,TV,hq]
     refine hN _ _ ?_
     clear hN N
     (try((repeat(revert hN;revert N;apply Pn.out));refine wk (tw @c36 @hw) ?_;(repeat(refine Pn.mk ?_;intro N hN))))
     refine⟨_,?_,v+1,_,_,rfl,ET,sd @hw,qh,⟨by rw[List.length_append];omega,by rw[List.getElem_append_left rP];exact Gu⟩,sd @TV,sd @TV,by(try dsimp only);omega,fun w hw Dz=>?_⟩
     ·omega
     ·by_cases Gy:w=v
      ·rw[if_pos Gy];omega
      ·rw[if_neg Gy];exact eh w (by omega) Dz
    ·rw[decide_eq_false hr]at l5
     (repeat(first|((repeat(revert hN;revert N;apply Pn.out));refine wk (tw @lY.eq_1 (tw @c0 (tw @c7 (tw @c8 (tw @c9 (tw @jG (tw @c36 (tw @PS (tw @hv (tw @yL (tw @Qz (tw @tl (tw @kj @hw))))))))))))) ?_;(repeat(refine Pn.mk ?_;intro N hN)))|((try apply Or.inl);refine⟨_,aw.x (l5) (sd (tw @lY.eq_1 (tw @c0 (tw @c7 (tw @c8 (tw @c9 (tw @jG (tw @c36 (tw @PS (tw @hv (tw @yL (tw @Qz (tw @tl (tw @kj @hw)))))))))))))),?_⟩;refine hN _ _ ?_;clear hN N)))
     refine⟨_,?_,v+1,par',Q',rfl,ET,sd @hw,eb,⟨rP,Gu⟩,sd @yL,sd @cgC,by(try dsimp only);omega,fun w hw Dz=>?_⟩
     ·omega
     ·by_cases Gy:w=v
      ·subst Gy;exact absurd Dz hr
      ·exact eh w (by omega) Dz
   ·(try((repeat(revert hN;revert N;apply Pn.out));refine wk (tw @lY.eq_1 (tw @c0 (tw @c7 (tw @c8 (tw @c9 (tw @jG (tw @c36 (tw @PS (tw @hv (tw @yL (tw @Qz (tw @tl (tw @kj @hw))))))))))))) ?_;(repeat(refine Pn.mk ?_;intro N hN))))
    refine⟨_,?_,v+1,par',Q',rfl,ET,sd @hw,eb,⟨rP,Gu⟩,sd @yL,sd @cgC,by(try dsimp only);omega,fun w hw Dz=>?_⟩
    ·omega
    ·by_cases Gy:w=v
     ·subst Gy;omega
     ·exact eh w (by omega) Dz
  ·have XJ:v=cnt:=by omega
   subst XJ
   (try((repeat(revert hN;revert N;apply Pn.out));refine wk (tw @c36 (tw @PS @hv)) ?_;(repeat(refine Pn.mk ?_;intro N hN))))
   refine⟨_,?_,par',Q',i+1,rfl,eb.next rP fun w hw hr=>eh w hw (by rw[<-Gu];exact hr),sd @yL,sd @cgC,by(try dsimp only);omega⟩
   omega
 ·have hiQ:i=Q.length:=by omega
  subst hiQ
  have jx:¬(0:Int)<((Q.length-Q.length:Nat):Int):=by omega
  have W9:=ep (f:=par) hy
  have tl:=ec par cnt
  rw[aQ]at W9
  by_cases kj:par y<0
  ·(try((repeat(revert hN;revert N;apply Pn.out));refine wk (tw @b0 (tw @b1 (tw @b2 (tw @b7 (tw @b8 (tw @b9 (tw @bgC (tw @I5 (tw @jx (tw @bgo (tw @W9 (tw @tl (tw @VH @kj))))))))))))) ?_;(repeat(refine Pn.mk ?_;intro N hN))))
   exact⟨[.cj],sd @Nat.zero_add,.cj,k9 _ _,.inl ⟨rfl,hB.cut hy kj⟩⟩
  ·(try((repeat(revert hN;revert N;apply Pn.out));refine wk (tw @b0 (tw @b1 (tw @b2 (tw @b7 (tw @b8 (tw @b9 (tw @bgC (tw @I5 (tw @jx (tw @bgo (tw @W9 (tw @tl (tw @VH @kj))))))))))))) ?_;(repeat(refine Pn.mk ?_;intro N hN))))
   refine aX (fun m env st=>∃(k:Nat) (out:List Nat) (p:Id),m=Q.idxOf k/\env 13=.int .i64 (k:Int)/\env 12=.own p 0 out.length/\st.get p=some ⟨true,1,out.map eN⟩/\p.br<st.next/\st_b.next<=p.br/\k∈Q/\vD c f Q y k out/\st.get o=some ⟨true,1,ev par cnt⟩) (Q.idxOf y) ⟨y,[y],⟨301017001,st_b.next+1+1⟩,rfl,by(simp only[go_sem, ↓reduceIte,Nat.reduceEqDiff,Nat.reduceAdd,Nat.reduceSub,Nat.reduceLeDiff,reduceCtorEq]),by(simp only[go_sem, ↓reduceIte,Nat.reduceEqDiff,Nat.reduceAdd,Nat.reduceSub,Nat.reduceLeDiff,reduceCtorEq])<;>rfl,by(simp only[go_sem, ↓reduceIte,Nat.reduceEqDiff,Nat.reduceAdd,Nat.reduceSub,Nat.reduceLeDiff,reduceCtorEq])<;>rfl,by(try dsimp only);omega,by(try dsimp only);omega,(hB.iff y hy).1 (by omega),vD.start ((hB.iff y hy).1 (by omega)),by(have HQ:=dr (i:=o) (n:=st_b.next) (by omega));simp only[go_sem, ↓reduceIte,Nat.reduceEqDiff,Nat.reduceAdd,Nat.reduceSub,Nat.reduceLeDiff,reduceCtorEq,HQ,bgo]⟩ ?_
   rintro m env_d st_d ⟨k,out,p,rfl,d13,d12,dgp,dpn,dpo,hkQ,uX,dgo⟩ dkp
   have d1:=dkp 1 (by kernel_rfl)
   have d8:=dkp 8 (by kernel_rfl)
   simp only[go_sem, ↓reduceIte,Nat.reduceEqDiff,Nat.reduceAdd,Nat.reduceSub,Nat.reduceLeDiff,reduceCtorEq,b1,b8]at d1 d8
   clear dkp
   have Bl:=dr dpn
   have Cu:=dr (i:=o) (n:=st_d.next) (by omega)
   have ei:=da (a:=o) (b:=p) (by omega)
   have Nc:=uX.len hB.lt
   have fm:=hB.lt k hkQ
   have gR:(out.map eN).length=out.length:=by simp
   by_cases Vo:k=x
   ·have hd:decide ((k:Int)=(x:Int))=true:=decide_eq_true (by rw[Vo])
    have Xw:0<out.length:=by
     obtain⟨rest,h1,_⟩:=uX
     rw[<-List.length_reverse,h1];simp
    (try((repeat(revert hN;revert N;apply Pn.out));refine wk (tw @d1 (tw @d8 (tw @d12 (tw @d13 (tw @hd @Bool.not_true))))) ?_;(repeat(refine Pn.mk ?_;intro N hN))))
    refine .inr (aJ _ _ _ _ _ (fun r σ2 hq=>?_) (Iz out Xw (by omega) p _ dgp (by(try dsimp only);omega)))
    obtain⟨Qw,nA,Kf⟩:=hq
    refine hN _ _ ?_
    clear hN N
    (try((repeat(revert hN;revert N;apply Pn.out));refine wk @d12 ?_;(repeat(refine Pn.mk ?_;intro N hN))))
    refine⟨[.own p 0 out.length],sd @d12,.sl (out.reverse.map eN),?_,.inr ⟨out.reverse,rfl,by subst Vo;exact uX.way hB.lt⟩⟩
    exact fA (sz:=1) Qw (by simp) fun a=>Qa _ 4 a
   ·have hd:decide ((k:Int)=(x:Int))=false:=decide_eq_false fun h=>Vo (by omega)
    obtain⟨u,huQ,hpu,Aj,hr⟩:=hB.up k hkQ Vo
    have eU:=ep (f:=par) fm
    rw[aQ,hpu]at eU
    have hki:(k:Int)<(cnt:Int):=by omega
    have e1:out.length+1<=16777216:=by omega
    (try((repeat(revert hN;revert N;apply Pn.out));refine wk (tw @d1 (tw @d8 (tw @d12 (tw @d13 (tw @hd (tw @Bool.not_false (tw @dgo (tw @dgp (tw @eU (tw @tl (tw @hki (tw @Bl (tw @Cu (tw @ei (tw @gR @e1))))))))))))))) ?_;(repeat(refine Pn.mk ?_;intro N hN))))
    refine⟨_,Aj,u,out++[u],⟨301021003,st_d.next+1+1⟩,rfl,sd @Nat.zero_add,by rw[List.length_append];simp only[go_sem, ↓reduceIte,Nat.reduceEqDiff,Nat.reduceAdd,Nat.reduceSub,Nat.reduceLeDiff,reduceCtorEq,List.length_cons,List.length_nil],by rw[List.map_append,List.map_cons,List.map_nil];simp only[go_sem, ↓reduceIte,Nat.reduceEqDiff,Nat.reduceAdd,Nat.reduceSub,Nat.reduceLeDiff,reduceCtorEq,eN],by(try dsimp only);omega,by(try dsimp only);omega,huQ,uX.step huQ Aj hr,sd (tw @Cu (tw @ei @dgo))⟩
theorem BC (b:Nat):∀(l:List Nat) (a:Nat) (f:Nat->Nat->Int),mH f ((a::l)++[b])=kN (mH f (a::l)) ((a::l).getLast (by simp)) b
 |[],a,f=>rfl
 |c::l,a,f=>by
  rw[List.cons_append,List.cons_append,mH,<-List.cons_append,BC b l c (kN f a c),mH,List.getLast_cons_cons]
theorem Hc {p:List Nat} {f:Nat->Nat->Int} {i:Nat} (h1:1<=i) (hi:i<p.length):mH f (p.take (i+1))=kN (mH f (p.take i)) (p[i-1]'(by omega)) p[i]:=by
 rw[List.take_succ_eq_append_getElem hi]
 have ij:p.take i≠[]:=by
  intro h
  have:(p.take i).length=0:=by rw[h];rfl
  rw[List.length_take]at this;omega
 obtain⟨a,l,J5⟩:∃a l,p.take i=a::l:=by
  cases h:p.take i with
  |nil=>exact absurd h ij
  |cons a l=>exact⟨a,l,rfl⟩
 have wE:(p.take i).getLast ij=p[i-1]'(by omega):=by
  rw[List.getLast_eq_getElem,List.getElem_take]
  congr 1
  rw[List.length_take];omega
 simp only[J5]at wE ⊢
 rw[BC,wE]
theorem Iu (f:Nat->Nat->Int) (a b u v:Nat):kN f a b u v<=f u v+1/\f u v-1<=kN f a b u v:=by
 unfold kN bump
 split<;>split<;>constructor<;>omega
theorem mJ:∀(p:List Nat) (f:Nat->Nat->Int) (u v:Nat),mH f p u v<=f u v+p.length/\f u v-p.length<=mH f p u v
 |[],f,u,v=>by simp[mH]
 |[_],f,u,v=>by simp[mH];omega
 |a::b::r,f,u,v=>by
  rw[mH]
  have h1:=mJ (b::r) (kN f a b) u v
  have h2:=Iu f a b u v
  simp only[List.length_cons]at h1 ⊢
  omega
theorem qI.push {g g':Rows} {X o1 o2:Id} {R1 R2:Nat->Id} {n nb:Nat} {c f:Nat->Nat->Int} (I:Jj X o1 o2 R1 R2 n nb) (h:qI g X o1 o2 R1 R2 n c f) {a b:Nat} (ha:a<n) (hb:b<n) (oq:a≠b) (hA:g' (R2 a)=some ⟨true,1,ev (bump f a b 1 a) n⟩) (hB:g' (R2 b)=some ⟨true,1,ev (bump (bump f a b 1) b a (-1) b) n⟩) (hf:∀i:Id,i.br<nb->(i=R2 a)=False->(i=R2 b)=False->g' i=g i):qI g' X o1 o2 R1 R2 n c (kN f a b):=by
 have ne:∀{i:Id} {s:Nat},i.site=s->(s==299005006)=false->∀a,a<n->(i=R2 a)=False:=fun {i s} hi hs a ha=>by
  simp only[eq_iff_iff,iff_false]
  rintro rfl
  rw[I.Pq a ha]at hi
  subst hi
  simp at hs
 refine⟨(hf _ I.vx (ne I.sx (by decide) _ ha) (ne I.sx (by decide) _ hb)).trans h.x,(hf _ I.v1 (ne I.s1 (by decide) _ ha) (ne I.s1 (by decide) _ hb)).trans h.t1,(hf _ I.v2 (ne I.s2 (by decide) _ ha) (ne I.s2 (by decide) _ hb)).trans h.t2,fun i hi=>(hf _ (I.XW i hi) (ne (I.VL i hi) (by decide) _ ha) (ne (I.VL i hi) (by decide) _ hb)).trans (h.r1 i hi),fun i hi=>?_⟩
 by_cases L9:i=b
 ·subst L9;exact hB
 ·by_cases L8:i=a
  ·subst L8
   rw[hA,kN,kg L9]
  ·rw[kN,kg L9,kg L8,hf _ (I.UG i hi) (by simp only[eq_iff_iff,iff_false];exact fun he=>L8 (I.i2 i _ hi ha he)) (by simp only[eq_iff_iff,iff_false];exact fun he=>L9 (I.i2 i _ hi hb he))]
   exact h.r2 i hi
theorem Ro (cnt:Nat) (Al:1<=cnt) (hn:cnt<=1048576) (c:Nat->Nat->Int) (hc:∀u v,u<cnt->v<cnt->0<=c u v/\c u v<=16777216) (x y:Nat) (hx:x<cnt) (hy:y<cnt) (Uc:x≠y) (t:Int) (ht:t<=1099511627776)
  (X o1 o2:Id) (R1 R2:Nat->Id) (nb:Nat) (I:Jj X o1 o2 R1 R2 cnt nb) (σ:ay) (hM:qI σ.get X o1 o2 R1 R2 cnt c (fun _ _=>0)) (Vs:nb<=σ.next):
  Call Tryz.prog 300 [.ptr X 0 0,.int .i64 x,.int .i64 y,.int .i64 t] σ fun r σ'=>∃val:Int,r=.int .i64 val/\(val<t↔∃S:Nat->Bool,S x=true/\S y=false/\mL cnt S c<t)/\σ.next<=σ'.next:=by
 refine e6 eK rfl fun hl=>?_
 clear hl
 have hxS:(fun v=>decide (v=x)) x=true:=by simp
 have hyS:(fun v=>decide (v=x)) y=false:=by simp;exact fun h=>Uc h.symm
 obtain⟨top,XF⟩:∃top,top=mL cnt (fun v=>decide (v=x)) c:=⟨_,rfl⟩
 (try((repeat(revert hN;revert N;apply Pn.out));refine wk @Nat.zero_add ?_;(repeat(refine Pn.mk ?_;intro N hN))))
 refine aX (fun m env st=>∃(k:Nat) (f:Nat->Nat->Int),m=(top-k).toNat/\env 9=.int .i64 (k:Int)/\oH cnt c f x y k/\qI st.get X o1 o2 R1 R2 cnt c f/\σ.next<=st.next/\(0<k->(k:Int)<=t)/\∀u v,-((k:Int)*(cnt:Int))<=f u v) (top-0).toNat ⟨0,fun _ _=>0,rfl,by(simp only[go_sem, ↓reduceIte,Nat.reduceEqDiff,Nat.reduceAdd,Nat.reduceSub,Nat.reduceLeDiff,reduceCtorEq])<;>rfl,oH.zero fun u v hu hv=>(hc u v hu hv).1,hM,by(try dsimp only);omega,fun h=>absurd h (Nat.lt_irrefl 0),fun u v=>by simp⟩ ?_
 rintro m env_b st_b ⟨k,f,rfl,b9,hF,bM,bn,bk,blo⟩ bkp
 have b0:=bkp 0 (by kernel_rfl)
 have b1:=bkp 1 (by kernel_rfl)
 have b2:=bkp 2 (by kernel_rfl)
 have b3:=bkp 3 (by kernel_rfl)
 simp only[go_sem, ↓reduceIte,Nat.reduceEqDiff,Nat.reduceAdd,Nat.reduceSub,Nat.reduceLeDiff,reduceCtorEq]at b0 b1 b2 b3
 clear bkp
 have hz:de (dK st_b.get) 6 [.ptr X 0 0,.int .i64 (x:Int),.int .i64 (y:Int)]=some [.dp (lY cnt c f),.int .i64 x,.int .i64 y]:=by simp only[aq,au,bM.fz,aH,Option.map_some]
 (try((repeat(revert hN;revert N;apply Pn.out));refine wk (tw @b0 (tw @b1 (tw @b2 (tw @b3 @b9)))) ?_;(repeat(refine Pn.mk ?_;intro N hN))))
 refine .inr (aJ _ _ _ _ _ (fun r σ1 hq=>?_) ((UH cnt Al hn c f x y hx hy).x mixed hz))
 obtain⟨QS,rfl⟩:=hq
 refine hN _ _ ?_
 clear hN N
 rcases QS with⟨rfl,S,Qq,MZ,Vc⟩|⟨p,rfl,hW⟩
 ·(try((repeat(revert hN;revert N;apply Pn.out));refine wk (tw @b0 (tw @b1 (tw @b2 (tw @b3 (tw @b9 (tw @Bool.not_true @Bool.not_false)))))) ?_;(repeat(refine Pn.mk ?_;intro N hN))))
  refine fe (.inl rfl) (vs:=[.int .i64 (k:Int)]) (sd @Nat.zero_add) ⟨(k:Int),rfl,⟨fun h=>⟨S,Qq,MZ,by rw[<-hF.full Qq MZ Vc];exact h⟩,fun⟨S',h1,h2,h3⟩=>by have:=hF.bound h1 h2;omega⟩,by(try dsimp only);omega⟩
 ·obtain⟨⟨rs,rfl,wE⟩,lg,eR,hplt⟩:=hW
  by_cases M7:t<=(k:Int)
  ·(try((repeat(revert hN;revert N;apply Pn.out));refine wk (tw @b0 (tw @b1 (tw @b2 (tw @b3 (tw @b9 (tw @M7 (tw @Bool.not_true @Bool.not_false))))))) ?_;(repeat(refine Pn.mk ?_;intro N hN))))
   refine fe (.inl rfl) (vs:=[.int .i64 (k:Int)]) (sd @Nat.zero_add) ⟨(k:Int),rfl,⟨fun h=>by omega,fun⟨S',h1,h2,h3⟩=>by have:=hF.bound h1 h2;omega⟩,by(try dsimp only);omega⟩
  ·(try((repeat(revert hN;revert N;apply Pn.out));refine wk (tw @b0 (tw @b1 (tw @b2 (tw @b3 (tw @b9 (tw @M7 (tw @Bool.not_true @Bool.not_false))))))) ?_;(repeat(refine Pn.mk ?_;intro N hN))))
   have lj:=pf cnt _ lg hplt
   have hkc:(k:Int)*(cnt:Int)<=1099511627776*1048576:=Int.mul_le_mul (by omega) (by omega) (by omega) (by omega)
   have hfb:=hF.bound (S:=fun v=>decide (v=x)) hxS hyS
   have hnear:=mJ
   obtain⟨p,hp⟩:∃p,p=x::rs:=⟨_,rfl⟩
   have M9:eN x::List.map eN rs=p.map eN:=by rw[hp];rfl
   rw[M9]
   have QP:1<=p.length:=by rw[hp];simp
   have Tc:=hF.aug wE lg eR hplt
   rw[<-hp]at Tc lg eR hplt lj
   have QV:p.take 1=[x]:=by rw[hp];rfl
   clear M9 wE
   refine aX (fun m env st=>∃i:Nat,m=p.length-i/\1<=i/\i<=p.length/\env 11=.int .i64 (i:Int)/\qI st.get X o1 o2 R1 R2 cnt c (mH f (p.take i))/\st_b.next<=st.next) (p.length-1) ⟨1,rfl,Nat.le_refl _,QP,by(simp only[go_sem, ↓reduceIte,Nat.reduceEqDiff,Nat.reduceAdd,Nat.reduceSub,Nat.reduceLeDiff,reduceCtorEq])<;>rfl,by rw[QV];exact bM,by(try dsimp only);omega⟩ ?_
   rintro m env_c st_c ⟨i,rfl,M4,mj,oj,cM,cn⟩ ckp
   have c0:=ckp 0 (by kernel_rfl)
   have c1:=ckp 1 (by kernel_rfl)
   have c2:=ckp 2 (by kernel_rfl)
   have c3:=ckp 3 (by kernel_rfl)
   have c9:=ckp 9 (by kernel_rfl)
   have jG:=ckp 10 (by kernel_rfl)
   simp only[go_sem, ↓reduceIte,Nat.reduceEqDiff,Nat.reduceAdd,Nat.reduceSub,Nat.reduceLeDiff,reduceCtorEq,b0,b1,b2,b3,b9]at c0 c1 c2 c3 c9 jG
   clear ckp
   have gR:(p.map eN).length=p.length:=by simp
   by_cases hi:(i:Int)<(p.length:Int)
   ·have fI:i<p.length:=by omega
    have ym:=Hc (f:=f) M4 fI
    obtain⟨a,ha⟩:∃a,a=p[i-1]'(by omega):=⟨_,rfl⟩
    obtain⟨b,hb⟩:∃b,b=p[i]:=⟨_,rfl⟩
    have Gj:a<cnt:=by rw[ha];exact hplt _ (List.getElem_mem _)
    have Gm:b<cnt:=by rw[hb];exact hplt _ (List.getElem_mem _)
    have oq:a≠b:=by
     rw[ha,hb]
     exact List.pairwise_iff_getElem.1 lg (i-1) i (by omega) fI (by omega)
    have TD:(p.map eN)[i-1]? =some [.int .i64 (a:Int)]:=by rw[List.getElem?_map,List.getElem?_eq_getElem (by omega),ha];rfl
    have Qx:(p.map eN)[i]? =some [.int .i64 (b:Int)]:=by rw[List.getElem?_map,List.getElem?_eq_getElem fI,hb];rfl
    rw[<-ha,<-hb]at ym
    have Xl:=mJ (p.take i) f a b
    have Xm:=mJ (p.take i) f b a
    rw[List.length_take]at Xl Xm
    have Xe:=blo b a
    have hl2:=blo a b
    have QY:=hF.le a b Gj Gm
    have T7:=hF.le b a Gm Gj
    have hca:=hc a b Gj Gm
    have Gn:=hc b a Gm Gj
    generalize mH f (p.take i)=fl at *
    have gA:=sU (R:=R2) (n:=cnt) Gj
    have gB:=sU (R:=R2) (n:=cnt) Gm
    have rA:=cM.r2 _ Gj
    have rB:=cM.r2 _ Gm
    have cA:=ep (f:=fl a) Gm
    have cB:=ep (f:=fl b) Gj
    have sA:=oP (f:=fl) (a:=a) (d:=1) Gm
    have QM:bump fl a b 1 b=fl b:=kg fun h=>oq h.symm
    have sB:=oP (f:=bump fl a b 1) (a:=b) (b:=a) (d:=-1) (n:=cnt) Gj
    rw[QM]at sB
    have gX:=cM.x
    have g2:=cM.t2
    have gQ:(a:Int)<(cnt:Int):=by omega
    have fJ:(b:Int)<(cnt:Int):=by omega
    have Jb:IntKind.i64.wrap ((i:Int)-1)=((i-1:Nat):Int):=by rw[bK (by omega)];omega
    have uZ:((i-1:Nat):Int)<(p.length:Int):=by omega
    have wA:IntKind.i64.wrap (fl a b+1)=fl a b+1:=bK (by omega)
    have wB:IntKind.i64.wrap (fl b a-1)=fl b a+-1:=by rw[bK (by omega)];omega
    have Ua:IntKind.i64.wrap ((i:Int)+1)=((i+1:Nat):Int):=az (by omega)
    have l2:=kr R2 cnt cnt
    have lA:=ec (fl a) cnt
    have lB:=ec (fl b) cnt
    have ij:(R2 a=R2 b)=False:=by simp only[eq_iff_iff,iff_false];exact fun h=>oq (I.i2 _ _ Gj Gm h)
    have Kl:(R2 b=R2 a)=False:=by simp only[eq_iff_iff,iff_false];exact fun h=>oq (I.i2 _ _ Gj Gm h.symm)
    have xA:=AX I.sx (I.Pq a Gj) (by decide)
    have xB:=AX I.sx (I.Pq b Gm) (by decide)
    have yA:=AX I.s2 (I.Pq a Gj) (by decide)
    have yB:=AX I.s2 (I.Pq b Gm) (by decide)
    have qX:=dr (i:=X) (n:=st_c.next) (by have:=I.vx;omega)
    have q2:=dr (i:=o2) (n:=st_c.next) (by have:=I.v2;omega)
    have qA:=dr (i:=R2 a) (n:=st_c.next) (by have:=I.UG a Gj;omega)
    have qB:=dr (i:=R2 b) (n:=st_c.next) (by have:=I.UG b Gm;omega)
    rw[aQ]at cA cB sA sB
    (try((repeat(revert hN;revert N;apply Pn.out));refine wk (tw @c0 (tw @c9 (tw @jG (tw @oj (tw @gR (tw @hi (tw @uZ (tw @TD (tw @Qx (tw @gA (tw @gB (tw @rA (tw @rB (tw @cA (tw @cB (tw @sA (tw @sB (tw @gX (tw @g2 (tw @gQ (tw @fJ (tw @Jb (tw @wA (tw @wB (tw @Ua (tw @l2 (tw @lA (tw @lB (tw @ij (tw @Kl (tw @xA (tw @xB (tw @yA (tw @yB (tw @qX (tw @q2 (tw @qA @qB))))))))))))))))))))))))))))))))))))) ?_;(repeat(refine Pn.mk ?_;intro N hN))))
    refine⟨_,?_,i+1,rfl,by omega,by omega,sd @Ua,?_,by(try dsimp only);omega⟩
    ·omega
    ·rw[ym]
     refine cM.push I Gj Gm oq ?_ ?_ fun j hj h1 h2=>?_
     ·simp only[go_sem, ↓reduceIte,Nat.reduceEqDiff,Nat.reduceAdd,Nat.reduceSub,Nat.reduceLeDiff,reduceCtorEq,ij]
     ·simp only[go_sem, ↓reduceIte,Nat.reduceEqDiff,Nat.reduceAdd,Nat.reduceSub,Nat.reduceLeDiff,reduceCtorEq,ij]
     ·simp only[go_sem, ↓reduceIte,Nat.reduceEqDiff,Nat.reduceAdd,Nat.reduceSub,Nat.reduceLeDiff,reduceCtorEq,h1,h2]
   ·have HL:i=p.length:=by omega
    subst HL
    rw[List.take_length]at cM
    have QZ:IntKind.i64.wrap ((k:Int)+1)=((k+1:Nat):Int):=az (by omega)
    have W4:=Tc.bound (S:=fun v=>decide (v=x)) hxS hyS
    (try((repeat(revert hN;revert N;apply Pn.out));refine wk (tw @c0 (tw @c9 (tw @jG (tw @oj (tw @gR (tw @hi @QZ)))))) ?_;(repeat(refine Pn.mk ?_;intro N hN))))
    refine⟨_,?_,k+1,_,rfl,sd @QZ,by rw[Int.natCast_add];exact Tc,cM,by(try dsimp only);omega,fun _=>by omega,fun u v=>?_⟩
    ·rw[<-XF]at W4;omega
    ·have h1:=(mJ p f u v).2
     have h2:=blo u v
     rw[Int.natCast_add,Int.add_mul]
     omega
noncomputable def uf (n:Nat) (bs:List PB) (t:Int):Bool:=@decide (kZ n bs t) (Classical.propDecidable _)
theorem yZ {n:Nat} {bs:List PB} {t:Int} (h:kZ n bs t):true=uf n bs t:=by simp[uf,h]
theorem Ck {n:Nat} {bs:List PB} {t:Int} (h:¬kZ n bs t):false=uf n bs t:=by simp[uf,h]
theorem Nd (cnt:Nat) (hn:cnt<=1048576) (bs:List PB) (hb:∀b∈bs,b.a<cnt/\b.b<cnt) (eu:∀b∈bs,0<=b.s/\b.s<=4) (od:bs.length<=1048576) (t:Int) (ht:t<=1099511627776):
  aw Tryz.prog 288 [.int .i64 cnt,.sl (bs.map aD),.int .i64 t] (.bool (uf cnt bs t)):=by
 refine aw.body eK rfl fun hl n0=>?_
 clear hl
 have rj:=AN bs (fun _ _=>0) (fun b h=>(eu b h).1) (fun _ _=>Int.le_refl _)
 have hle:=room_le bs (fun _ _=>0) 0 (fun b h=>(eu b h).2) (fun _ _=>Int.le_refl _) (Int.le_refl _)
 have eR:bs.foldl oh (fun _ _=>0)=lE bs:=rfl
 rw[eR]at rj hle
 (try((repeat(revert hN;revert N;apply Pn.out));refine wk @Nat.zero_add ?_;(repeat(refine Pn.mk ?_;intro N hN))))
 refine aX (fun m env st=>∃y:Nat,m=cnt+1-y/\1<=y/\env 7=.int .i64 (y:Int)/\y<=cnt+1/\∀z,1<=z->z<y->z<cnt->∀S:Nat->Bool,S 0=true->S z=false->t<=ji S bs) (cnt+1-1) ⟨1,rfl,Nat.le_refl _,by(simp only[go_sem, ↓reduceIte,Nat.reduceEqDiff,Nat.reduceAdd,Nat.reduceSub,Nat.reduceLeDiff,reduceCtorEq])<;>rfl,by omega,fun z h1 h2=>by omega⟩ ?_
 rintro m env_b st_b ⟨y,rfl,hy1,b7,hyl,eh⟩ bkp
 have b0:=bkp 0 (by kernel_rfl)
 have b1:=bkp 1 (by kernel_rfl)
 have b2:=bkp 2 (by kernel_rfl)
 simp only[go_sem, ↓reduceIte,Nat.reduceEqDiff,Nat.reduceAdd,Nat.reduceSub,Nat.reduceLeDiff,reduceCtorEq]at b0 b1 b2
 clear bkp
 by_cases hy:(y:Int)<(cnt:Int)
 ·have hyn:y<cnt:=by omega
  (try((repeat(revert hN;revert N;apply Pn.out));refine wk (tw @b0 (tw @b1 (tw @b2 (tw @b7 @hy)))) ?_;(repeat(refine Pn.mk ?_;intro N hN))))
  refine .inr (aJ _ _ _ _ _ (fun r σ1 hq=>?_) (C0 cnt (by omega) hn bs hb eu od _))
  obtain⟨X,o1,o2,R1,R2,rfl,I,M8,hM,_⟩:=hq
  refine hN _ _ ?_
  clear hN N
  (try((repeat(revert hN;revert N;apply Pn.out));refine wk (tw @b0 (tw @b1 (tw @b2 @b7))) ?_;(repeat(refine Pn.mk ?_;intro N hN))))
  have hsd:=Ro cnt (by omega) hn (lE bs) (fun u v _ _=>⟨rj u v,by have:=hle u v;omega⟩) 0 y (by omega) hyn (by omega) t ht X o1 o2 R1 R2 σ1.next I
  refine .inr (aJ _ _ _ _ _ (fun r σ2 hq=>?_) (hsd _ hM (by(try dsimp only);omega)))
  obtain⟨val,rfl,tt,nA⟩:=hq
  refine hN _ _ ?_
  clear hN N
  by_cases eo:val<t
  ·(try((repeat(revert hN;revert N;apply Pn.out));refine wk (tw @b0 (tw @b1 (tw @b2 (tw @b7 @eo)))) ?_;(repeat(refine Pn.mk ?_;intro N hN))))
   obtain⟨S,h1,h2,h3⟩:=tt.1 eo
   rw[BS hb]at h3
   exact bp (b:=false) (.inl rfl) (sd @Nat.zero_add) (Ck fun h=>by have:=h S h1 ⟨y,hyn,h2⟩;omega)
  ·have hw:IntKind.i64.wrap ((y:Int)+1)=((y+1:Nat):Int):=az (by omega)
   (try((repeat(revert hN;revert N;apply Pn.out));refine wk (tw @b0 (tw @b1 (tw @b2 (tw @b7 (tw @eo @hw))))) ?_;(repeat(refine Pn.mk ?_;intro N hN))))
   refine⟨_,?_,y+1,rfl,by omega,sd (tw @b7 @hw),by omega,fun z h1 h2 h3 S Qq MZ=>?_⟩
   ·omega
   ·by_cases hzy:z=y
    ·subst hzy
     rcases Int.lt_or_le (ji S bs) t with h|h
     ·exact absurd (tt.2 ⟨S,Qq,MZ,by rw[BS hb];exact h⟩) eo
     ·exact h
    ·exact eh z h1 (by omega) h3 S Qq MZ
 ·(try((repeat(revert hN;revert N;apply Pn.out));refine wk (tw @b0 (tw @b1 (tw @b2 (tw @b7 @hy)))) ?_;(repeat(refine Pn.mk ?_;intro N hN))))
  exact bp (b:=true) (.inl rfl) (sd @Nat.zero_add) (yZ fun S h0 ⟨z,hz,hzf⟩=>by
   have:z≠0:=by rintro rfl;rw[h0]at hzf;cases hzf
   exact eh z (by omega) (by omega) hz S h0 hzf)
theorem Km (cnt:Nat) (hn:cnt<=1048576) (bs:List PB) (hb:∀b∈bs,b.a<cnt/\b.b<cnt) (eu:∀b∈bs,0<=b.s/\b.s<=4) (od:bs.length<=1048576) (t:Int) (ht:t<=1099511627776):
  aw Tryz.prog 288 [.int .i64 cnt,AS bs,.int .i64 t] (.bool (uf cnt bs t)):=by
 have h:=Nd cnt hn bs hb eu od t ht
 cases bs with
 |nil=>exact h.cut mixed (.same _ (.cj (.same _ .nil)))
 |cons b r=>rw[AU (by simp)];exact h
def DJ:Prop:=∀(s:ax) (l:List ae),iu s->kz s l->aw Tryz.prog 205 [.agg (aa s),.agg [.sl (l.map ah)]] (AS (dh s l))
noncomputable def vd (s:ax) (l:List ae) (t:Int):Bool:=if 64<iC s l t then false else uf (iC s l t) (dL (eJ (aV t (dh s l))) (dh s l)) t
theorem EX (s:ax) (l:List ae) (t:Int):vd s l t=oe s l t:=by
 letI:=Classical.propDecidable (pH l.length (dh s l) t)
 unfold vd
 by_cases h:64<iC s l t
 ·rw[if_pos h]
  exact(mZ (p:=False) ⟨False.elim,fun k=>by have:=k.1;unfold iC at h;omega⟩).symm.trans (by simp) |>.symm
 ·rw[if_neg h]
  by_cases hp:kZ (iC s l t) (dL (eJ (aV t (dh s l))) (dh s l)) t
  ·rw[<-yZ hp]
   exact((mZ (p:=True) ⟨fun _=>⟨by unfold iC at h;omega,hp⟩,fun _=>trivial⟩).symm.trans (by simp)).symm
  ·rw[<-Ck hp]
   exact((mZ (p:=False) ⟨False.elim,fun k=>hp k.2⟩).symm.trans (by simp)).symm
theorem Lq (Wq:DJ) (s:ax) (l:List ae) (t:Int) (ht:t<=1099511627776) (h1:1<=l.length) (hS:iu s) (hA:kz s l):aw Tryz.prog 241 [.agg (aa s),.agg [.sl (l.map ah)],.int .i64 t] (.iA [.bool (oe s l t),.bool (decide ¬64<iC s l t)]):=by
 rw[<-EX]
 refine aw.body eK rfl fun hl n0=>?_
 clear hl
 have hb:=yH (l:=l) hS
 have od:=qN (s:=s) hA.1
 have Cf:=hA.1.zW
 have yV:=Wq s l hS hA
 have Tu:=zS l.length h1 (by omega) (dh s l) (fun b h=>⟨(hb b h).1,(hb b h).2.1⟩) (by omega) t
 have hL:=uk (aV t (dh s l))
 have fI:=Fw hL (fun b h=>⟨(hb b h).1,(hb b h).2.1⟩)
 have hlen:=(nL (eJ (aV t (dh s l))) (dh s l)).1
 have mi:=jW l.length (eJ (aV t (dh s l)))
 have hho:=Km (iC s l t) (by unfold iC;omega) (dL (eJ (aV t (dh s l))) (dh s l)) (fun b h=>⟨(fI b h).1,(fI b h).2.1⟩) (fun b h=>by
  obtain⟨_,_,_,c,hc,dz⟩:=fI b h
  rw[dz];have:=hb c hc;omega) (by omega) t ht
 have fy:(l.map ah).length=l.length:=by simp
 have hzB:∀(g:Rows) (n:Nat) (bs:List PB),V.fz g (n+1) (AS bs)=some (AS bs):=fun g n bs=>by
  unfold AS;split
  ·exact aU _ _
  ·exact bZ _ _ _
 rw[aa]at yV
 rw[<-iC]at Tu
 have xU:∀(g:Rows) (x:Int),de (dK g) 6 [.int .i64 l.length,AS (dh s l),.int .i64 x]=some [.int .i64 l.length,AS (dh s l),.int .i64 x]:=fun g x=>by simp only[aq,au,aH,hzB,Option.map_some]
 have hzh:∀(g:Rows) (x y:Int),de (dK g) 6 [.int .i64 x,AS (dL (eJ (aV t (dh s l))) (dh s l)),.int .i64 y]=some [.int .i64 x,AS (dL (eJ (aV t (dh s l))) (dh s l)),.int .i64 y]:=fun g x y=>by simp only[aq,au,aH,hzB,Option.map_some]
 generalize AS (dh s l)=B1 at *
 generalize AS (dL (eJ (aV t (dh s l))) (dh s l))=B2 at *
 by_cases uJ:(64:Int)<(iC s l t:Int)
 ·have uK:64<iC s l t:=by omega
  (repeat(first|((repeat(revert hN;revert N;apply Pn.out));refine wk (tw @aa.eq_1 (tw @uJ @fy)) ?_;(repeat(refine Pn.mk ?_;intro N hN)))|((try apply Or.inl);refine⟨_,aw.x (yV) (sd (tw @aa.eq_1 (tw @uJ @fy))),?_⟩;refine hN _ _ ?_;clear hN N)))
  refine⟨_,aw.x Tu (xU _ _),?_⟩
  refine hN _ _ ?_
  clear hN N
  (try((repeat(revert hN;revert N;apply Pn.out));refine wk @uJ ?_;(repeat(refine Pn.mk ?_;intro N hN))))
  exact jE (.inl rfl) (r1:=.bool false) (r2:=.bool false) (sd @Nat.zero_add) (sd @Nat.zero_add) (by rw[vd,if_pos uK,decide_eq_false fun h=>h uK];simp only[fF,bV,cY,fP,Option.map_some])
 ·have uK:¬64<iC s l t:=by omega
  (repeat(first|((repeat(revert hN;revert N;apply Pn.out));refine wk (tw @aa.eq_1 (tw @uJ @fy)) ?_;(repeat(refine Pn.mk ?_;intro N hN)))|((try apply Or.inl);refine⟨_,aw.x (yV) (sd (tw @aa.eq_1 (tw @uJ @fy))),?_⟩;refine hN _ _ ?_;clear hN N)))
  refine⟨_,aw.x Tu (xU _ _),?_⟩
  refine hN _ _ ?_
  clear hN N
  (try((repeat(revert hN;revert N;apply Pn.out));refine wk @uJ ?_;(repeat(refine Pn.mk ?_;intro N hN))))
  refine .inl ⟨_,aw.x hho (hzh _ _ _),?_⟩
  refine hN _ _ ?_
  clear hN N
  (try((repeat(revert hN;revert N;apply Pn.out));refine wk @Nat.zero_add ?_;(repeat(refine Pn.mk ?_;intro N hN))))
  exact jE (.inl rfl) (r1:=.bool (uf (iC s l t) (dL (eJ (aV t (dh s l))) (dh s l)) t)) (r2:=.bool true) (sd @Nat.zero_add) (sd @Nat.zero_add) (by rw[vd,if_neg uK,decide_eq_true uK];simp only[fF,bV,cY,fP,Option.map_some])
theorem uN (t:Int):aw Tryz.prog 132 [.int .i64 t] (.bool (iP t 1 16)):=by
 refine aw.body eK rfl fun hl n0=>?_
 clear hl
 have h:=lJ t 1 16
 (repeat(first|((repeat(revert hN;revert N;apply Pn.out));refine wk @Nat.zero_add ?_;(repeat(refine Pn.mk ?_;intro N hN)))|((try apply Or.inl);refine⟨_,aw.x (h) (sd @Nat.zero_add),?_⟩;refine hN _ _ ?_;clear hN N)))
 exact bp (b:=iP t 1 16) (.inl rfl) (sd @Nat.zero_add) rfl
theorem xZ (Wq:DJ) (s:aM) (hn:gJ s.aC) (hg:s.aC.aB.length<=1048576) (ht:s.aC.aj.length<=1048576) (hs:∀t∈s.aC.aj,t.bU.length<=1048576) (hl:s.cC.aj.length<=1048576):aw Tryz.prog 97 [.agg (aE s)] (.bool (nO s)):=by
 refine aw.body eK rfl fun lf n0=>?_
 clear lf
 by_cases h0:(s.cC.aj.length:Int)=0
 ·have hd:decide ((s.cC.aj.length:Int)=0)=true:=decide_eq_true h0
  (try((repeat(revert hN;revert N;apply Pn.out));refine wk (tw @aE.eq_1 @hd) ?_;(repeat(refine Pn.mk ?_;intro N hN))))
  exact bp (b:=false) (.inl rfl) (sd @Nat.zero_add) (kc fun h=>by have:=h.some;omega)
 have hd:decide ((s.cC.aj.length:Int)=0)=false:=decide_eq_false h0
 have Qr:=nV s.aC s.cC.aj hn hg ht hs hl
 have Tj:=uN s.aA
 have key:aw Tryz.prog 169 [.agg (aa s.aC),.agg [.sl (s.cC.aj.map ah)],.int .i64 s.aA] (.iA [.bool (nO s),.int .i64 (if rL s.aC&&qe s.aC s.cC.aj then(if iP s.aA 1 16 then(if 64<iC s.aC s.cC.aj s.aA then 4 else 0)else 2)else 1)]):=by
  refine aw.body eK rfl fun lf n0=>?_
  clear lf
  rw[aa]at Qr
  cases hA:rL s.aC&&qe s.aC s.cC.aj
  ·rw[hA]at Qr
   have kH:nO s=false:=(kc fun h=>by rw[mY.2 h.set,mE.2 h.Oh]at hA;cases hA).symm
   (repeat(first|((repeat(revert hN;revert N;apply Pn.out));refine wk @aa.eq_1 ?_;(repeat(refine Pn.mk ?_;intro N hN)))|((try apply Or.inl);refine⟨_,aw.x (Qr) (sd @aa.eq_1),?_⟩;refine hN _ _ ?_;clear hN N)))
   exact jE (.inl rfl) (r1:=.bool false) (r2:=.int .i64 1) (sd @Nat.zero_add) (sd @Nat.zero_add) (by rw[kH];simp only[fF,bV,cY,fP,eL,Option.map_some];rfl)
  rw[hA]at Qr
  simp only[Bool.and_eq_true]at hA
  have hS:=mY.1 hA.1
  have hP:=mE.1 hA.2
  cases hT:iP s.aA 1 16
  ·rw[hT]at Tj
   have kH:nO s=false:=(kc fun h=>by have:=h.LF;rw[hT]at this;cases this).symm
   (repeat(first|((repeat(revert hN;revert N;apply Pn.out));refine wk @aa.eq_1 ?_;(repeat(refine Pn.mk ?_;intro N hN)))|((try apply Or.inl);refine⟨_,aw.x (Qr) (sd @aa.eq_1),?_⟩;refine hN _ _ ?_;clear hN N)|((try apply Or.inl);refine⟨_,aw.x (Tj) (sd @aa.eq_1),?_⟩;refine hN _ _ ?_;clear hN N)))
   exact jE (.inl rfl) (r1:=.bool false) (r2:=.int .i64 2) (sd @Nat.zero_add) (sd @Nat.zero_add) (by rw[kH];simp only[fF,bV,cY,fP,eL,Option.map_some];rfl)
  have Np:=eD hT
  rw[hT]at Tj
  have eu:=Lq Wq s.aC s.cC.aj s.aA (by omega) (by omega) hS hP
  rw[aa]at eu
  have hsy:nO s=oe s.aC s.cC.aj s.aA:=by
   cases hB:oe s.aC s.cC.aj s.aA
   ·exact(kc fun h=>by have:=pZ.2 h.holds;rw[hB]at this;cases this).symm
   ·exact(De ⟨hS,hP,by omega,hT,pZ.1 hB⟩).symm
  by_cases uJ:64<iC s.aC s.cC.aj s.aA
  ·rw[decide_eq_false fun h=>h uJ]at eu
   have kH:nO s=false:=(kc fun h=>by have:=h.holds.1;unfold iC at uJ;omega).symm
   (repeat(first|((repeat(revert hN;revert N;apply Pn.out));refine wk @aa.eq_1 ?_;(repeat(refine Pn.mk ?_;intro N hN)))|((try apply Or.inl);refine⟨_,aw.x (Qr) (sd @aa.eq_1),?_⟩;refine hN _ _ ?_;clear hN N)|((try apply Or.inl);refine⟨_,aw.x (Tj) (sd @aa.eq_1),?_⟩;refine hN _ _ ?_;clear hN N)|((try apply Or.inl);refine⟨_,aw.x (eu) (sd @aa.eq_1),?_⟩;refine hN _ _ ?_;clear hN N)))
   exact jE (.inl rfl) (r1:=.bool false) (r2:=.int .i64 4) (sd @Nat.zero_add) (sd @Nat.zero_add) (by rw[kH,if_pos uJ];simp only[fF,bV,cY,fP,eL,Option.map_some])
  ·rw[decide_eq_true uJ,<-hsy]at eu
   (repeat(first|((repeat(revert hN;revert N;apply Pn.out));refine wk @aa.eq_1 ?_;(repeat(refine Pn.mk ?_;intro N hN)))|((try apply Or.inl);refine⟨_,aw.x (Qr) (sd @aa.eq_1),?_⟩;refine hN _ _ ?_;clear hN N)|((try apply Or.inl);refine⟨_,aw.x (Tj) (sd @aa.eq_1),?_⟩;refine hN _ _ ?_;clear hN N)|((try apply Or.inl);refine⟨_,aw.x (eu) (sd @aa.eq_1),?_⟩;refine hN _ _ ?_;clear hN N)))
   exact jE (.inl rfl) (r1:=.bool (nO s)) (r2:=.int .i64 0) (sd @Nat.zero_add) (sd @Nat.zero_add) (by rw[if_neg uJ];simp only[fF,bV,cY,fP,eL,Option.map_some])
 generalize hcode:(if rL s.aC&&qe s.aC s.cC.aj then(if iP s.aA 1 16 then(if 64<iC s.aC s.cC.aj s.aA then(4:Int)else 0)else 2)else 1)=code at key
 rw[aa]at key
 cases hB:nO s
 ·rw[hB]at key
  (repeat(first|((repeat(revert hN;revert N;apply Pn.out));refine wk (tw @aE.eq_1 @hd) ?_;(repeat(refine Pn.mk ?_;intro N hN)))|((try apply Or.inl);refine⟨_,aw.x (key) (sd (tw @aE.eq_1 @hd)),?_⟩;refine hN _ _ ?_;clear hN N)))
  exact bp (b:=false) (.inl rfl) (sd @Nat.zero_add) rfl
 ·rw[hB]at key
  have hP:=xG.1 hB
  have hc:code=0:=by
   rw[<-hcode,mY.2 hP.set,mE.2 hP.Oh,hP.LF]
   have:=hP.holds.1
   simp only[Bool.and_self,if_true]
   rw[if_neg (by unfold iC;omega)]
  rw[hc]at key
  (repeat(first|((repeat(revert hN;revert N;apply Pn.out));refine wk (tw @aE.eq_1 @hd) ?_;(repeat(refine Pn.mk ?_;intro N hN)))|((try apply Or.inl);refine⟨_,aw.x (key) (sd (tw @aE.eq_1 @hd)),?_⟩;refine hN _ _ ?_;clear hN N)))
  exact bp (b:=true) (.inl rfl) (sd @Nat.zero_add) rfl
end Go.Proofs.YtgoljkjaameagaaGreat.V

namespace Go.Proofs.YtgoljkjaameagaaGreat.V
open Go.RowKit Go.Shelf
attribute [local go_sem] Oper.semAt_some
def iv (n₀:Nat) (W W':World):Prop:=W.heap.size<=W'.heap.size/\(∀(b:Nat) (cells:Array Value) (T:TypeId) (fr:Nat×Nat),W.heap[b]? =some (Obj.cells cells T fr)->T≠179->T≠254->W'.heap[b]? =W.heap[b]?)/\∀k,k<n₀->k<W.heap.size->W'.heap[k]? =W.heap[k]?
theorem iv.trans {n₀:Nat} {A B C:World} (h:iv n₀ A B) (k:iv n₀ B C):iv n₀ A C:=⟨Nat.le_trans h.1 k.1,fun b cells T fr hb h1 h2=>by
 have e:=h.2.1 b cells T fr hb h1 h2
 rw[<-e]at hb ⊢
 exact k.2.1 b cells T fr hb h1 h2,fun b hb hs=>(k.2.2 b hb (Nat.lt_of_lt_of_le hs h.1)).trans (h.2.2 b hb hs)⟩
theorem iv.of {n₀:Nat} {W W':World} (h:Below W.heap.size W W'):iv n₀ W W':=⟨h.size,fun b cells T fr hb _ _=>h.block b (Array.getElem?_eq_some_iff.1 hb).1,fun k _ hs=>h.block k hs⟩
theorem iv.refl (n₀:Nat) (W:World):iv n₀ W W:=⟨Nat.le_refl _,fun _ _ _ _ _ _ _=>rfl,fun _ _ _=>rfl⟩
theorem iv.b {n₀ m:Nat} (hm:n₀<=m) (W:World) (l:Nat) (o o':Obj) (hl:m<=l) (h:W.heap[l]? =some o) (hc:o.isCells=false) (_:o.isWalk=false):iv n₀ W (W.putObj l o'):=by
 refine⟨by simp,fun b cells T fr hb _ _=>?_,fun k hk _=>World.putObj_heap_other (by omega)⟩
 by_cases od:b=l
 ·subst od;rw[h]at hb;cases hb;cases hc
 ·exact World.putObj_heap_other od
def Mx (bs:List PB):List Value:=bs.flatMap fun b=>[.int .i64 b.a,.int .i64 b.b,.int .i64 b.s]
theorem Jy (bs:List PB) (b:PB):Mx (bs++[b])=Mx bs++[.int .i64 b.a,.int .i64 b.b,.int .i64 b.s]:=by simp[Mx]
def oi (s:ax) (l:List ae) (pre:List (Pw l)):List PB:=(pre.map (·.1)).flatMap (zM s l)
theorem yG (s:ax) (l:List ae) (pre:List (Pw l)) (x:Pw l):oi s l (pre++[x])=oi s l pre++zM s l x.1:=by simp[oi]
theorem Jw (s:ax) (l:List ae) (x:Nat×Nat×Int):(zM s l x).length<=1:=by
 unfold zM;split<;>simp
theorem Jz (s:ax) (l:List ae) (pre:List (Pw l)):(oi s l pre).length<=pre.length:=by
 unfold oi
 induction pre with
 |nil=>simp
 |cons x r ih=>
  have:=Jw s l x.1
  simp only[List.map_cons,List.flatMap_cons,List.length_append,List.length_cons]at ih ⊢
  omega
theorem zk (l:List ae) (i:Nat):∀m,(lr l i m).length<=m
 |0=>by simp[lr]
 |m+1=>by
  rw[nE,List.length_append]
  have:=zk l i m
  have:(CY l i (1-(m:Int))).length<=1:=by unfold CY;split<;>simp
  omega
theorem CZ (l:List ae):∀n,(lT l n).length<=n*2
 |0=>by simp[lT]
 |n+1=>by
  rw[mU,List.length_append]
  have:=CZ l n
  have:=zk l n 2
  omega
theorem Cd {β:Type} (B:Nat) (c:Array Value) (t:TypeId) (fr:Nat×Nat):Own (fun(_:β) W=>W.heap[B]? =some (.cells c t fr)):=fun _ X _ row h hg hr=>(hg.block B (Array.getElem?_eq_some_iff.1 h).1 (fun e=>by
 obtain⟨o,ho,hc⟩:=hr B e.symm
 rw[h]at ho;cases ho;cases hc)).trans h
theorem iv.app {n₀:Nat} {W w1:World} {B k:Nat} {v v':Value} {xs:List Value} {tmp:Obj} (hv:Boxed W B 179 v) (fy:W.ownsRow n₀ 254 3 v k xs) (yX:(W.alloc tmp).grownBy w1 v.ownBlock) (hb:Below n₀ W (w1.setCell ⟨B,0,none⟩ v')):iv n₀ W (w1.setCell ⟨B,0,none⟩ v'):=by
 refine⟨hb.size,fun b cells T fr h h1 h2=>?_,fun k hk _=>hb.block k hk⟩
 have eo:=(Array.getElem?_eq_some_iff.1 h).1
 have hbB:b≠B:=by
  rintro rfl
  rw[show W.heap[b]? = _ from hv]at h
  cases h
  exact h1 rfl
 have Ve:some b≠v.ownBlock:=by
  rcases fy.2 with⟨rfl,_⟩|⟨g,cap,cur,rfl,_,hg,_⟩
  ·simp[Value.ownBlock]
  ·intro e
   obtain rfl:b=g:=by simpa[Value.ownBlock]using e
   rw[hg]at h;cases h
   exact h2 rfl
 refine(Below.heap_setCell w1 ⟨B,0,none⟩ v' b hbB).trans ?_
 exact(yX.block b (by simp;omega) Ve).trans (Below.heap_alloc W tmp b eo)
theorem Ui {w:World} {vS:Value} {l:List ae} (hP:qc w vS l):Ji (iv w.heap.size) vS l where
 refl:=iv.refl _
 trans:=iv.trans
 of:=iv.of
 size h:=h.1
 typed h:=h.2.1
 pl {W W'} h hp:=by
  obtain⟨A,c,rfl,hm,hc⟩:=hp.sl
  refine⟨A,c,rfl,hm,?_⟩
  by_cases hl:l=[]
  ·exact .inl hl
  have jx:0<l.length:=List.length_pos_iff.2 hl
  rcases hc with h0|⟨b,o,rfl,ju⟩
  ·exact absurd h0 hl
  obtain⟨A',c',e,_,kG⟩:=hP.sl
  cases e
  rcases kG with h0|⟨b',o',e,hcell'⟩
  ·exact absurd h0 hl
  cases e
  have hb:=uT (hcell' 0 jx).1
  have hk:=h.2.2 b hb (uT (ju 0 jx).1)
  refine .inr ⟨b,o,rfl,fun i hi=>?_⟩
  have Ae:∀x,W'.cell? ⟨b,x,none⟩=W.cell? ⟨b,x,none⟩:=fun x=>World.cell?_of_block hk
  rw[Ae,Ae,Ae]
  exact ju i hi
theorem rrE {P:Program} {nt site0:Nat} {ops:Array Oper} {vl:List bR} (_:zN P ops site0 false (jH ops) (sF P false ops.toList 0) ops.toList 0=some vl:=by(conv=>lhs;cbv)<;>exact rfl) (h:r7 P nt site0 ops true false=some vl:=by kernel_rfl):r7 P nt site0 ops true false=some vl:=h
theorem KJ (l:List Value) (d:Value):l=(List.range l.length).map fun i=>(⟨l⟩:Array Value).getD i d:=by
 refine List.ext_getElem (by simp) fun i h1 h2=>?_
 simp[h1]
theorem Fh {X:fX} {d:Bool} {ops:List bR} {K:Env->ay->Prop} {env:Env} {σ:ay} (h:ek X (.eS d ops) (fun _=>K) env σ):wpOps X d ops K env σ:=h
theorem v7 (W:World) (T:TypeId) (x y z:Value):∀(j:Nat) (u:Value),[x,y,z][j]? =some u->(W.alloc (.cells #[x,y,z] T)).cell? ((⟨W.heap.size,0,none⟩:Addr).add j)=some u:=fun j u h=>by
 have hb:(W.alloc (.cells #[x,y,z] T)).heap[W.heap.size]? =some (.cells #[x,y,z] T (0,0)):=World.alloc_heap_new _ _
 have e:∀k,(W.alloc (.cells #[x,y,z] T)).cell? ⟨W.heap.size,k,none⟩=(#[x,y,z]:Array Value)[k]? :=fun k=>by
  unfold World.cell?
  rw[show(W.alloc (.cells #[x,y,z] T)).heap[(⟨W.heap.size,k,none⟩:Addr).block]? = _ from hb]
  rfl
 rw[show(⟨W.heap.size,0,none⟩:Addr).add j=⟨W.heap.size,j,none⟩ by simp[Addr.add];exact fun h=>h.symm,e]
 simpa using h
def JE (n b:Nat):Names:=fun id=>if id=⟨1,0⟩then some ⟨n,2,2,none⟩else if id=⟨2,0⟩then some ⟨n+1,1,1,none⟩else if id=⟨3,0⟩then some ⟨n+1+1,1,1,none⟩else if id=⟨4,0⟩then some ⟨b,2,2,none⟩else if id=⟨5,0⟩then some ⟨n+1+1+1,1,1,none⟩else none
def OQ (s:ax) (l:List ae) (i k:Nat):Rows:=fun id=>if id=⟨1,0⟩then some ⟨false,2,[aa s]⟩else if id=⟨2,0⟩then some ⟨false,1,[[.sl (l.map ah)]]⟩else if id=⟨4,0⟩then some ⟨false,2,[[.int .i64 (i:Int),.int .i64 (k:Int)]]⟩else none
def PR (s:ax) (l:List ae) (i k:Nat) (d:Int):Env:=cm [.agg (aa s),.agg [.sl (l.map ah)],.ptr ⟨1,0⟩ 0 0,.ptr ⟨2,0⟩ 0 0,.cj,.ptr ⟨3,0⟩ 0 0,.ptr ⟨4,0⟩ 0 0,.int .i64 d,.undef,.agg [.sl (l.map ah)],.fn 302 [.ptr ⟨5,0⟩ 0 0],.agg [.int .i64 (i:Int),.int .i64 (k:Int)],.int .i64 d]
theorem Fq {P:Program} {W:World} {D:Nat->Prop} {ι:Names} {B:s4} {cells:Array Value} {T:TypeId} {cs:List AV} (hk:B.k=none) (hb:W.heap[B.b]? =some (.cells cells T (0,0))) (hC:cells.size=B.C) (hz:B.sz=cs.length) (hl:cs.length=cells.size) (hf:∀a∈cs,a.cell=true) (hr:∀(j:Nat) (a:AV),cs[j]? =some a->∃v,cells[j]? =some v/\dm P W D ι a v):im P W D ι B ⟨false,cs.length,[cs]⟩:=
 kK.obj ⟨hz,⟨cells,T,hb,hC⟩,by simp;omega,fun c hc=>by simp at hc;rw[hc],fun c hc=>by simp at hc;rw[hc];exact hf,fun i j c a hi hj=>by
  match i,hi with
  |0,hi=>
   simp at hi;subst hi
   obtain⟨v,h1,h2⟩:=hr j a hj
   exact⟨v,by simp[World.cell?,hb,h1],h2⟩
  |i+1,hi=>simp at hi⟩ hk
theorem Ky:(Tryz.prog.info? 254).map (fun i=>(i.zero,i.size,i.bytes))=some (some (.agg #[.int .i64 0,.int .i64 0,.int .i64 0]),3,24):=by kernel_rfl
end Go.Proofs.YtgoljkjaameagaaGreat.V

namespace Go.Proofs.YtgoljkjaameagaaGreat.V
open Go.RowKit Go.Shelf
attribute [local go_sem] Oper.semAt_some
attribute [local irreducible] ek wpOps fK Call
attribute [local go_sem] aI fw eH fE fD dd upd cm K.av cG AV.cells AV.cell rowOf rowsOf part ld rowAt bL bY dx dO gz bE cW dY fC eY dj dS cU cR dG dH bH aZ cJ bG cL cK dQ dU dR cI bJ cV dP bF aL cP cz gy bq cF bI aW dq bm dy AV.undef bw bz dJ dM dD dI cE dX ea cq dW dV cN cQ List.getD_cons_zero List.getD_cons_succ List.getD_nil List.all_cons List.all_nil Bool.and_true Bool.true_and Bool.and_self Bool.not_true Bool.not_false Option.map_some Option.map_none Option.bind_some Option.bind_none List.length_cons List.length_nil List.take_succ_cons List.take_zero List.take_nil List.drop_succ_cons List.drop_zero List.drop_nil List.head?_cons List.map_cons List.map_nil List.getElem?_cons_zero List.getElem?_cons_succ List.cons_append List.nil_append List.append_nil List.length_map List.set_cons_zero List.set_cons_succ Nat.reduceMul eq_self Int.toNat_natCast Int.natCast_nonneg and_self true_and and_true decide_true decide_false Bool.false_eq_true Nat.zero_add Nat.add_zero List.contains_cons List.contains_nil Bool.or_false Bool.false_or beq_self_eq_true Nat.reduceBEq ne_eq not_true_eq_false not_false_eq_true Id.mk.injEq false_and and_false Nat.reduceLT Int.reduceLE Int.reduceLT Int.reduceToNat Int.reduceNeg Int.reduceAdd Nat.le_refl List.length_append beq_true beq_false Bool.not_eq_eq_eq_not or_false false_or dK aq au aH bf bt bZ aU bh aT bc cH bx
theorem JC (s:ax) (l:List ae) (hF:je s) (hA:kz s l) (w:World) (Ag At:Option Addr) (ng cg nt ct:Nat) (vS:Value) (hT:ke Tryz.prog w (fun b=>b<w.heap.size) (.agg (aa s)) (.agg #[.slice Ag ng cg,.slice At nt ct])) (hP:qc w vS l):
  CallsIn Fence.wide 5 Tryz.prog 205 #[.agg #[.slice Ag ng cg,.slice At nt ct],.agg #[vS]] w fun e W'=>∃v,e=.returned v/\W'.ownsRow w.heap.size 254 3 v (dh s l).length (Mx (dh s l))/\(v=.slice none 0 0↔dh s l=[])/\Below w.heap.size w W':=by
 obtain⟨A,cp,rfl,_,_⟩:=hP.sl
 obtain⟨i0,hi,Bp,y5,kR⟩:=info_parts Ky
 refine callsIn_of_wp_marks Tryz.func205 rfl trivial ?_ rfl
 simp only[Tryz.ntmps205,List.size_toArray,List.length_cons,List.length_nil,Nat.reduceAdd,Nat.reduceSub,Array.replicate_succ,Array.replicate_zero,List.push_toArray,List.append_toArray,List.nil_append,List.cons_append]
 gi_wp2_with (refine⟨trivial,?_⟩;gi_at_call 260;refine(AF _ _ _).mono ?_;rintro e w' ⟨rfl,rfl⟩)
 have bT:((w.alloc (.cells #[.slice Ag ng cg,.slice At nt ct] 39)).heap[w.heap.size]?)=some (.cells #[.slice Ag ng cg,.slice At nt ct] 39 (0,0)):=World.alloc_heap_new _ _
 obtain⟨w1,l7⟩:∃w1,w.alloc (.cells #[.slice Ag ng cg,.slice At nt ct] 39)=w1:=⟨_,rfl⟩
 have EV:w1.heap.size=w.heap.size+1:=by rw[<-l7];simp
 have Bf:Below w.heap.size w w1:=by rw[<-l7];exact(Below.refl _ w).alloc (Nat.le_refl _) _
 rw[l7]at bT ⊢
 clear l7
 have bA:=Boxed.new w1 42 (.slice A l.length cp)
 have bO:=Boxed.new (w1.alloc (.cells #[.slice A l.length cp] 42)) 179 (.slice none 0 0)
 have bN:=Boxed.new ((w1.alloc (.cells #[.slice A l.length cp] 42)).alloc (.cells #[.slice none 0 0] 179)) 42 (.slice A l.length cp)
 replace bA:=(bA.alloc (.cells #[.slice none 0 0] 179)).alloc (.cells #[.slice A l.length cp] 42)
 replace bO:=bO.alloc (.cells #[.slice A l.length cp] 42)
 simp only[World.size_alloc,EV]at bA bO bN
 have qh:Below w1.heap.size w1 (((w1.alloc (.cells #[.slice A l.length cp] 42)).alloc (.cells #[.slice none 0 0] 179)).alloc (.cells #[.slice A l.length cp] 42)):=(((Below.refl _ w1).alloc (Nat.le_refl _) _).alloc (by simp) _).alloc (by simp;omega) _
 have fo:(((w1.alloc (.cells #[.slice A l.length cp] 42)).alloc (.cells #[.slice none 0 0] 179)).alloc (.cells #[.slice A l.length cp] 42)).heap.size=w.heap.size+4:=by simp;omega
 obtain⟨W0,Tk⟩:∃W0,((w1.alloc (.cells #[.slice A l.length cp] 42)).alloc (.cells #[.slice none 0 0] 179)).alloc (.cells #[.slice A l.length cp] 42)=W0:=⟨_,rfl⟩
 rw[Tk]at bA bO bN qh fo ⊢
 clear Tk
 have xR:Below w.heap.size w W0:=Bf.trans (qh.mono (by omega))
 replace bT:=(qh.block w.heap.size (by omega)).trans bT
 have hP0:qc W0 (.slice A l.length cp) l:=hP.below xR
 have kl:=Ui hP
 have od:=qN (s:=s) hA.1
 refine wpIn_rangeFunc_ownH (n:=5) rfl (by omega) (gf:=302) (lb:= #[.pointer (some ⟨w.heap.size+1+1+1,0,none⟩)]) rfl trivial (enters_of Tryz.func302 (by kernel_rfl) rfl)
  (KS l hA.1 (w.heap.size+1+1+1) (5-1) (by omega) (.slice A l.length cp) (iv w.heap.size) kl W0 bN hP0) iv.trans (iv.b (by omega)) (Below.refl _ _) (fun _=>rfl)
  (fun pre W=>((∃v,Boxed W (w.heap.size+1+1) 179 v/\W.ownsRow w.heap.size 254 3 v (oi s l pre).length (Mx (oi s l pre))/\(v=.slice none 0 0↔oi s l pre=[]))/\(Boxed W (w.heap.size+1) 42 (.slice A l.length cp)/\W.heap[w.heap.size]? =some (.cells #[.slice Ag ng cg,.slice At nt ct] 39 (0,0))))/\Below w.heap.size w W)
  (fun _ _ _=>False)
  (OwnFrom.and (OwnFrom.and (Own.from (holdsRow_own w.heap.size (w.heap.size+1+1) 179 254 3 (fun pre=>(oi s l pre).length) (fun pre=>Mx (oi s l pre)) (fun pre v=>v=.slice none 0 0↔oi s l pre=[])) _) (OwnFrom.and (Own.from (boxed_own _ _ _) _) (Own.from (Cd _ _ _ _) _))) (ownFrom_below (Nat.le_refl _) (by omega)))
  (fun _ _ _ _ _ hs _ _=>hs)
  ⟨⟨⟨_,bO,World.ownsRow_nil _ _ _ _,by simp[oi]⟩,bA,bT⟩,xR⟩
  (fun x a' W=>∃Bx,w.heap.size+1+1<Bx/\W.heap[Bx]? =some (.cells #[.int .i64 (x.1.1:Int),.int .i64 (x.1.2.1:Int)] 322 (0,0))/\a'={tmps:= #[.agg #[.slice Ag ng cg,.slice At nt ct],.agg #[.slice A l.length cp],.pointer (some ⟨w.heap.size,0,none⟩),.pointer (some ⟨w.heap.size+1,0,none⟩),.slice none 0 0,.pointer (some ⟨w.heap.size+1+1,0,none⟩),.pointer (some ⟨Bx,0,none⟩),.int .i64 x.1.2.2,undef,.agg #[.slice A l.length cp],.func (.func 302) #[] #[.pointer (some ⟨w.heap.size+1+1+1,0,none⟩)],.agg #[.int .i64 (x.1.1:Int),.int .i64 (x.1.2.1:Int)],.int .i64 x.1.2.2,undef,undef,undef,undef,undef,undef,undef,undef,undef,undef,undef,undef,undef,undef,undef,undef,undef,undef,undef,undef,undef,undef,undef,undef,undef,undef,undef,undef,undef],defers:=[]})
  (fun x a' _ X Y row hs hg hr=>by obtain⟨Bx,h1,h2,h3⟩:=hs;exact⟨Bx,h1,Cd Bx _ _ _ () X Y row h2 hg (fun r e=>(hr r e).2),h3⟩)
  ?assign ?body ?done ?stop
 case assign=>
  rintro q pre ⟨⟨x0,x1,x2⟩,hx⟩ W K ⟨⟨⟨v,hv,fy,hnil⟩,bA1,bT1⟩,hB⟩ hK
  simp only[Ga]
  gi_wp2
  exact hK _ _ ((KeepsOthers.alloc _ _).from _) (iv.of ((Below.refl _ W).alloc (Nat.le_refl _) _)) ⟨⟨⟨v,hv.alloc _,fy.alloc _,hnil⟩,bA1.alloc _,(Below.heap_alloc _ _ _ (Array.getElem?_eq_some_iff.1 bT1).1).trans bT1⟩,hB.alloc hB.size _⟩ ⟨W.heap.size,hv.lt,World.alloc_heap_new _ _,rfl⟩
 case body=>
  rintro q pre ⟨⟨x0,x1,x2⟩,hx⟩ a' W hq hqr ⟨⟨⟨v,hv,fy,hnil⟩,bA1,bT1⟩,hB⟩ ⟨Bx,hBx,bX,rfl⟩ eo
  obtain⟨DE,Pf,Bn⟩:=hx
  simp only at DE Pf Bn bX
  obtain⟨A',c',e',_,hc⟩:=(hP.below hB).sl
  cases e'
  have dz:∃b o,A=some ⟨b,o,none⟩/\W.cell? ⟨b,o+x0*3+2,none⟩=some (.int .i64 (aY l x0).bQ)/\W.cell? ⟨b,o+x1*3+2,none⟩=some (.int .i64 (aY l x1).bQ):=by
   rcases hc with rfl|⟨b,o,rfl,ju⟩
   ·simp at DE
   ·exact⟨b,o,rfl,by rw[Nat.add_assoc];exact(ju x0 DE).2.2,by rw[Nat.add_assoc];exact(ju x1 Pf).2.2⟩
  obtain⟨b,o,rfl,cP0,cP1⟩:=dz
  have cT0:W.cell? ⟨w.heap.size,0,none⟩=some (.slice Ag ng cg):=by simp[World.cell?,bT1]
  have cT1:W.cell? ⟨w.heap.size,1,none⟩=some (.slice At nt ct):=by simp[World.cell?,bT1]
  have V8:W.cell? ⟨Bx,0,none⟩=some (.int .i64 (x0:Int)):=by simp[World.cell?,bX]
  have V9:W.cell? ⟨Bx,1,none⟩=some (.int .i64 (x1:Int)):=by simp[World.cell?,bX]
  have cA:=bA1.cell
  have dP0:W.drew.cell? ⟨b,o+x0*3+2,none⟩=some (.int .i64 (aY l x0).bQ):=cP0
  have dP1:W.drew.cell? ⟨b,o+x1*3+2,none⟩=some (.int .i64 (aY l x1).bQ):=cP1
  have dT0:W.drew.cell? ⟨w.heap.size,0,none⟩=some (.slice Ag ng cg):=cT0
  have dT1:W.drew.cell? ⟨w.heap.size,1,none⟩=some (.slice At nt ct):=cT1
  have dX0:W.drew.cell? ⟨Bx,0,none⟩=some (.int .i64 (x0:Int)):=V8
  have dX1:W.drew.cell? ⟨Bx,1,none⟩=some (.int .i64 (x1:Int)):=V9
  have dA:W.drew.cell? ⟨w.heap.size+1,0,none⟩=some (.slice (some ⟨b,o,none⟩) l.length cp):=cA
  have ql:∀i,i<l.length->aY l i∈l:=fun i hi=>by
   unfold aY
   rw[List.getD_eq_getElem?_getD,List.getElem?_eq_getElem hi]
   exact List.getElem_mem hi
  have Xi:=mixed
  have hfw:=hA.1.zW
  have Sb:=JB s hF (aY l x0).bQ x2 (aY l x1).bQ (hA.2 _ (ql x0 DE)) (hA.2 _ (ql x1 Pf)) (jy (by omega))
  have hTW:ke Tryz.prog W (fun b=>b<w.heap.size) (.agg (aa s)) (.agg #[.slice Ag ng cg,.slice At nt ct]):=hT.frame (fun b hb=>hB.block b hb) (fun _ h=>h)
  have hAW:ke Tryz.prog W (fun b=>b<w.heap.size) (.sl (l.map ah)) (.slice (some ⟨b,o,none⟩) l.length cp):=hP.fa.frame (fun b hb=>hB.block b hb) (fun _ h=>h)
  obtain⟨fT,hT0,WI⟩:∃f:Nat->Value,(∀j,j<(aa s).length->(#[Value.slice Ag ng cg,.slice At nt ct])[j]? =some (f j))/\∀j a,(aa s)[j]? =some a->ke Tryz.prog W (fun b=>b<w.heap.size) a (f j):=by
   cases hTW with
   |agg _ _ f _ _ h3 h4=>exact⟨f,h3,h4⟩
  have eu:St Tryz.prog W.heap.size 42 (fun b=>b<w.heap.size) (JE w.heap.size Bx) (PR s l x0 x1 x2) ⟨OQ s l x0 x1,1⟩ {tmps:= #[.agg #[.slice Ag ng cg,.slice At nt ct],.agg #[.slice (some ⟨b,o,none⟩) l.length cp],.pointer (some ⟨w.heap.size,0,none⟩),.pointer (some ⟨w.heap.size+1,0,none⟩),.slice none 0 0,.pointer (some ⟨w.heap.size+1+1,0,none⟩),.pointer (some ⟨Bx,0,none⟩),.int .i64 x2,undef,.agg #[.slice (some ⟨b,o,none⟩) l.length cp],.func (.func 302) #[] #[.pointer (some ⟨w.heap.size+1+1+1,0,none⟩)],.agg #[.int .i64 (x0:Int),.int .i64 (x1:Int)],.int .i64 x2,undef,undef,undef,undef,undef,undef,undef,undef,undef,undef,undef,undef,undef,undef,undef,undef,undef,undef,undef,undef,undef,undef,undef,undef,undef,undef,undef,undef,undef],defers:=[]} W:=by
   have n1:(JE w.heap.size Bx) ⟨1,0⟩=some ⟨w.heap.size,2,2,none⟩:=rfl
   have n2:(JE w.heap.size Bx) ⟨2,0⟩=some ⟨w.heap.size+1,1,1,none⟩:=rfl
   have n3:(JE w.heap.size Bx) ⟨3,0⟩=some ⟨w.heap.size+1+1,1,1,none⟩:=rfl
   have n4:(JE w.heap.size Bx) ⟨4,0⟩=some ⟨Bx,2,2,none⟩:=rfl
   have n5:(JE w.heap.size Bx) ⟨5,0⟩=some ⟨w.heap.size+1+1+1,1,1,none⟩:=rfl
   have rp:∀(id:Id) (B:s4),(JE w.heap.size Bx) id=some B->B.k=none->dm Tryz.prog W (fun b=>b<w.heap.size) (JE w.heap.size Bx) (.ptr id 0 0) (.pointer (some ⟨B.b,0,none⟩)):=fun id B h hk=>by
    have:=dm.ptr (P:=Tryz.prog) (w:=W) (D:=fun b=>b<w.heap.size) id 0 0 B h hk
    simpa using this
   have ri:∀n:Int,dm Tryz.prog W (fun b=>b<w.heap.size) (JE w.heap.size Bx) (.int .i64 n) (.int .i64 n):=fun n=>.fa _ _ (.int _ _)
   have hA1:ke Tryz.prog W (fun b=>b<w.heap.size) (.agg [.sl (l.map ah)]) (.agg #[.slice (some ⟨b,o,none⟩) l.length cp]):=.agg _ _ (fun _=>.slice (some ⟨b,o,none⟩) l.length cp) rfl (fun a ha=>by simp at ha;rw[ha];rfl) (fun j hj=>by match j,hj with|0,_=>rfl|j+1,hj=>simp at hj) (fun j a ha=>by match j,ha with|0,ha=>simp at ha;subst ha;exact hAW|j+1,ha=>simp at ha)
   refine⟨⟨Nat.le_refl _,fun b hb=>Nat.lt_of_lt_of_le hb hB.size,fun id r hg=>?_,fun id lk r r' B B' h _ hw=>?_⟩,fun id hid=>?_,fun t=>?_,rfl⟩
   ·replace hg:OQ s l x0 x1 id=some r:=hg
    unfold OQ at hg
    split at hg
    ·rename_i e;subst e;injection hg with hg;subst hg
     exact⟨_,n1,Fq (cs:=aa s) rfl bT1 rfl rfl rfl (fun a ha=>by simp[aa]at ha;rcases ha with rfl|rfl<;>rfl) (fun j a ha=>⟨_,hT0 j (List.getElem?_eq_some_iff.1 ha).1,.fa _ _ (WI j a ha)⟩),fun h=>(by cases h),fun h=>(by cases h)⟩
    ·split at hg
     ·rename_i e;subst e;injection hg with hg;subst hg
      exact⟨_,n2,Fq (cs:=[.sl (l.map ah)]) rfl bA1 rfl rfl rfl (fun a ha=>by simp at ha;rw[ha];rfl) (fun j a ha=>by match j,ha with|0,ha=>simp at ha;subst ha;exact⟨_,rfl,.fa _ _ hAW⟩|j+1,ha=>simp at ha),fun h=>(by cases h),fun h=>(by cases h)⟩
     ·split at hg
      ·rename_i e;subst e;injection hg with hg;subst hg
       exact⟨_,n4,Fq (cs:=[.int .i64 (x0:Int),.int .i64 (x1:Int)]) rfl bX rfl rfl rfl (fun a ha=>by simp at ha;rcases ha with rfl|rfl<;>rfl) (fun j a ha=>by match j,ha with|0,ha=>simp at ha;subst ha;exact⟨_,rfl,ri _⟩|1,ha=>simp at ha;subst ha;exact⟨_,rfl,ri _⟩|j+2,ha=>simp at ha),fun h=>(by cases h),fun h=>(by cases h)⟩
      ·cases hg
   ·exfalso
    replace h:OQ s l x0 x1 id=some r:=h
    unfold OQ at h
    split at h
    ·injection h with h;subst h;cases hw
    ·split at h
     ·injection h with h;subst h;cases hw
     ·split at h
      ·injection h with h;subst h;cases hw
      ·cases h
   ·left
    unfold JE at hid
    repeat' (split at hid)
    all_goals first|(rename_i e;subst e;exact Nat.zero_lt_one)|exact absurd rfl hid
   ·match t with
    |0=>exact .fa _ _ hTW
    |1=>exact .fa _ _ hA1
    |2=>exact rp _ _ n1 rfl
    |3=>exact rp _ _ n2 rfl
    |4=>exact .fa _ _ .cj
    |5=>exact rp _ _ n3 rfl
    |6=>exact rp _ _ n4 rfl
    |7=>exact ri _
    |8=>exact dm.undef
    |9=>exact .fa _ _ hA1
    |10=>exact .fn _ _ _ (fun _=>.pointer (some ⟨w.heap.size+1+1+1,0,none⟩)) (by kernel_rfl) rfl (fun j hj=>by match j,hj with|0,_=>rfl|j+1,hj=>simp at hj) (fun j a ha=>by match j,ha with|0,ha=>simp at ha;subst ha;exact rp _ _ n5 rfl|j+1,ha=>simp at ha)
    |11=>exact .agg _ _ (fun j=>if j=0 then .int .i64 (x0:Int)else .int .i64 (x1:Int)) rfl (fun a ha=>by simp at ha;rcases ha with rfl|rfl<;>rfl) (fun j hj=>by match j,hj with|0,_=>rfl|1,_=>rfl|j+2,hj=>simp at hj;omega) (fun j a ha=>by match j,ha with|0,ha=>simp at ha;subst ha;exact ri _|1,ha=>simp at ha;subst ha;exact ri _|j+2,ha=>simp at ha)
    |12=>exact ri _
    |13=>exact dm.undef
    |14=>exact dm.undef
    |15=>exact dm.undef
    |16=>exact dm.undef
    |17=>exact dm.undef
    |18=>exact dm.undef
    |19=>exact dm.undef
    |20=>exact dm.undef
    |21=>exact dm.undef
    |22=>exact dm.undef
    |23=>exact dm.undef
    |24=>exact dm.undef
    |25=>exact dm.undef
    |26=>exact dm.undef
    |27=>exact dm.undef
    |28=>exact dm.undef
    |29=>exact dm.undef
    |30=>exact dm.undef
    |31=>exact dm.undef
    |32=>exact dm.undef
    |33=>exact dm.undef
    |34=>exact dm.undef
    |35=>exact dm.undef
    |36=>exact dm.undef
    |37=>exact dm.undef
    |38=>exact dm.undef
    |39=>exact dm.undef
    |40=>exact dm.undef
    |41=>exact dm.undef
    |t+42=>exact dm.undef
  have hV:wpOps (Call Tryz.prog) true ?vl (fun e _=>e 5=.ptr ⟨3,0⟩ 0 0/\e 6=.ptr ⟨4,0⟩ 0 0/\e 8=.int .i64 (ib s (aY l x0).bQ x2 (aY l x1).bQ)) (PR s l x0 x1 x2) ⟨OQ s l x0 x1,1⟩:= ?hv
  gi_wp2
  refine AM mixed (rrE (nt:=42) (site0:=205005000)) (KV (by kernel_rfl)) (nR (fun _ _ _ _ h=>iw mixed h) qL (fun _ _ h=>h) _ _ _ hV) eu ?_
  rintro e1 σ1 ⟨tm,df⟩ w3 D1 ι1 ⟨h5,h6,h8⟩ T1 Py EF
  case hv=>
   refine Fh ?_
   have e0:=fU DE
   have e1:=fU Pf
   (repeat(first|((repeat(revert hN;revert N;apply Pn.out));refine wk (tw @e0 (tw @e1 (tw @PR.eq_1 (tw @OQ.eq_1 (tw @ah.eq_1 @aa.eq_1))))) ?_;(repeat(refine Pn.mk ?_;intro N hN)))|((try apply Or.inl);refine⟨_,aw.x (Sb) (sd (tw @e0 (tw @e1 (tw @PR.eq_1 (tw @OQ.eq_1 (tw @ah.eq_1 @aa.eq_1)))))),?_⟩;refine hN _ _ ?_;clear hN N)))
   exact⟨sd @PR.eq_1,sd @PR.eq_1,sd @PR.eq_1⟩
  ·have Cc:Below W.heap.size W w3:=T1.below
   have qx:∀id B,JE w.heap.size Bx id=some B->ι1 id=some B:=T1.names
   have p5:tm.getD 5 undef=.pointer (some ⟨w.heap.size+1+1,0,none⟩):=by
    have g:=Py.env 5
    rw[h5]at g
    obtain⟨B,e,hB,_⟩:=iY g
    have h:=qx ⟨3,0⟩ ⟨w.heap.size+1+1,1,1,none⟩ rfl
    rw[h]at hB;injection hB with hB;subst hB
    simpa using e
   have p6:tm.getD 6 undef=.pointer (some ⟨Bx,0,none⟩):=by
    have g:=Py.env 6
    rw[h6]at g
    obtain⟨B,e,hB,_⟩:=iY g
    have h:=qx ⟨4,0⟩ ⟨Bx,2,2,none⟩ rfl
    rw[h]at hB;injection hB with hB;subst hB
    simpa using e
   have p8:tm.getD 8 undef=.int .i64 (ib s (aY l x0).bQ x2 (aY l x1).bQ):=by
    have g:=Py.env 8
    rw[h8]at g
    exact dB g
   have fo:=Py.size
   obtain⟨tl⟩:=tm
   obtain⟨f,ER,hf⟩:∃f:Nat->Value,tl=[f 0,f 1,f 2,f 3,f 4,f 5,f 6,f 7,f 8,f 9,f 10,f 11,f 12,f 13,f 14,f 15,f 16,f 17,f 18,f 19,f 20,f 21,f 22,f 23,f 24,f 25,f 26,f 27,f 28,f 29,f 30,f 31,f 32,f 33,f 34,f 35,f 36,f 37,f 38,f 39,f 40,f 41]/\∀i,f i=(⟨tl⟩:Array Value).getD i undef:=by
    refine⟨fun i=>(⟨tl⟩:Array Value).getD i undef,?_,fun _=>rfl⟩
    have h:=KJ tl undef
    rw[show tl.length=42 from fo]at h
    exact h
   rw[<-hf]at p5 p6 p8
   have WX:df=[]:=EF
   subst WX
   clear hf Py eu hV
   subst ER
   rw[p5,p6,p8]
   have VD:=hv.kept (grown_of Cc) (by simp)
   have Gs:=fy.kept (grown_of Cc) (by rcases fy.2 with⟨e,_⟩|⟨_,_,_,e,_⟩<;>rw[e]<;>simp[Value.ownBlock])
   have hc3:=VD.cell
   have Xn:w.heap.size<=w3.heap.size:=Nat.le_trans hB.size Cc.size
   have eX0:w3.cell? ⟨Bx,0,none⟩=some (.int .i64 (x0:Int)):=(Cc.cell (p:=⟨Bx,0,none⟩) (Array.getElem?_eq_some_iff.1 bX).1).trans V8
   have eX1:w3.cell? ⟨Bx,1,none⟩=some (.int .i64 (x1:Int)):=(Cc.cell (p:=⟨Bx,1,none⟩) (Array.getElem?_eq_some_iff.1 bX).1).trans V9
   have lj:(oi s l pre).length<=2097152:=by
    have h1:=Jz s l pre
    have h2:=CZ l l.length
    omega
   have hKF:KeepsFrom (w.heap.size+4) W w3:=⟨Cc.size,fun k o _ hk _=>(Cc.block k (Array.getElem?_eq_some_iff.1 hk).1).trans hk⟩
   have hKT:iv w.heap.size W w3:=iv.of Cc
   have V4:w3.heap[w.heap.size+1]? = _:=(Cc.block _ bA1.lt).trans bA1
   have V5:=(Cc.block _ (Array.getElem?_eq_some_iff.1 bT1).1).trans bT1
   by_cases jx:0<ib s (aY l x0).bQ x2 (aY l x1).bQ
   ·have yV:oi s l (pre++[⟨(x0,x1,x2),DE,Pf,Bn⟩])=oi s l pre++[⟨x0,x1,ib s (aY l x0).bQ x2 (aY l x1).bQ⟩]:=by
     rw[yG];simp only[zM,if_pos jx]
    gi_wp2_with (gi_at_builtin;refine wpListIn_append_own _ rfl _ _ 179 rfl w.heap.size 254 i0 (.agg #[.int .i64 0,.int .i64 0,.int .i64 0]) 3 24 (by kernel_rfl) hi Bp y5 kR rfl (by decide) _ _ _ rfl (Gs.alloc _) ⟨w3.heap.size,0,none⟩ 1 1 [.int .i64 (x0:Int),.int .i64 (x1:Int),.int .i64 (ib s (aY l x0).bQ x2 (aY l x1).bQ)] rfl rfl (v7 _ _ _ _ _) (by simp[Value.oneCell']) (by unfold maxLen;omega) (by omega) (by simp;omega) ?_;intro v' w4 Cm yX _;obtain⟨g',Wa,rfl⟩:=ownsRow_succ Cm;obtain⟨wJ,Nr,Bk,tr,Bg⟩:=VD.appended (by decide) Gs Xn (by omega) Cm yX;have M7:=iv.app VD Gs yX Bg;have qi:=wJ.cell;have Sc:=wJ.frozen)
    exact⟨hKF.trans (tr.from _),hKT.trans M7,⟨⟨_,Nr,by rw[yV,Jy,List.length_append];exact Bk,by rw[yV];simp⟩,(M7.2.1 _ _ _ _ V4 (by decide) (by decide)).trans V4,(M7.2.1 _ _ _ _ V5 (by decide) (by decide)).trans V5⟩,hB.trans ((Cc.mono hB.size).trans Bg)⟩
   ·have yV:oi s l (pre++[⟨(x0,x1,x2),DE,Pf,Bn⟩])=oi s l pre:=by
     rw[yG];simp only[zM,if_neg jx,List.append_nil]
    gi_wp2
    exact⟨hKF,hKT,⟨⟨v,VD,by rw[yV];exact Gs,by rw[yV];exact hnil⟩,V4,V5⟩,hB.trans (Cc.mono hB.size)⟩
 case done=>
  rintro D ys W hD DG ⟨⟨⟨v,hv,fy,hnil⟩,_⟩,hB⟩ hK
  have hc:=hv.cell
  have L4:oi s l ys=dh s l:=by rw[JD,<-DG];rfl
  rw[L4]at fy hnil
  gi_wp2
  refine⟨by simp,.inl ⟨_,_,rfl,run_takeDeferred hK,?_⟩⟩
  exact⟨_,results_tmp rfl _ _ _,v,rfl,ownsRow_putObj fy _ hK rfl,hnil,hB.trans (belowK_b (w:=w) (Nat.le_refl _) W D _ _ (by omega) hK rfl rfl)⟩
 case stop=>
  rintro D c pre W _ _ h _
  exact h.elim
end Go.Proofs.YtgoljkjaameagaaGreat.V

namespace Go.Proofs.YtgoljkjaameagaaGreat.V
open Go.RowKit Go.Shelf
theorem F2:∀{bs:List PB} {i j:Nat} {b:PB},bs[i]? =some b->j<3->(Mx bs)[i*3+j]? =([.int .i64 b.a,.int .i64 b.b,.int .i64 b.s]:List Value)[j]?
 |c::bs,0,j,b,h,hj=>by
  simp at h;subst h
  simp only[Mx,List.flatMap_cons,Nat.zero_mul,Nat.zero_add]
  rw[List.getElem?_append_left (by simpa using hj)]
 |c::bs,i+1,j,b,h,hj=>by
  simp only[List.getElem?_cons_succ]at h
  have:=F2 (bs:=bs) (i:=i) (j:=j) h hj
  simp only[Mx,List.flatMap_cons]at this ⊢
  rw[List.getElem?_append_right (by simp;omega),<-this]
  congr 1
  simp;omega
theorem su {P:Program} {w:World} {D:Nat->Prop} {rows:List (List AV)} {v:Value} (h:ke P w D (.sl rows) v):∃A n c,v=.slice A n c:=by
 cases h with
 |DI a c _=>exact⟨_,_,_,rfl⟩
 |sl=>exact⟨_,_,_,rfl⟩
theorem rK {P:Program} {w:World} {D:Nat->Prop} {ι:Names} {rows:List (List AV)} {v:Value} (h:dm P w D ι (.sl rows) v):ke P w D (.sl rows) v:=by
 cases h with
 |fa _ _ h=>exact h
theorem N7 {P:Program} {w:World} {D:Nat->Prop} {l:List ae} {v:Value} (h:ke P w D (.sl (l.map ah)) v):qc w v l:=by
 generalize hr:l.map ah=rows at h
 cases h with
 |DI a c hc=>
  have:l=[]:=by simpa using hr
  subst this
  exact⟨a,c,rfl,⟨Nat.zero_le _,hc⟩,.inl rfl⟩
 |sl _ b o n c sz vs h1 h2 h3 h4 h5 h5' h6 h7=>
  have hn:n=l.length:=by rw[<-h1,<-hr];simp
  subst hn
  refine⟨some ⟨b,o,none⟩,c,rfl,⟨h2,h3⟩,?_⟩
  by_cases hl:l=[]
  ·exact .inl hl
  refine .inr ⟨b,o,rfl,fun i hi=>?_⟩
  have hg:rows[i]? =some (ah (aY l i)):=by rw[<-hr];exact fU hi
  have fo:sz=3:=by rw[<-h5 _ (List.mem_of_getElem? hg)];rfl
  subst fo
  have k:∀(j:Nat) (x:Int),(ah (aY l i))[j]? =some (.int .i64 x)->j<3->w.cell? ⟨b,o+(i*3+j),none⟩=some (.int .i64 x):=fun j x hj h3=>by
   have:=h7 i j _ _ hg hj
   rw[h6 i j hi h3,dB (.fa (ι:=fun _=>none) _ _ this)]
  exact⟨k 0 _ rfl (by omega),k 1 _ rfl (by omega),k 2 _ rfl (by omega)⟩
theorem PQ:DJ:=by
 intro s l hS hA n
 refine gh ?_
 intro hs D ι w vs S U A
 obtain⟨u0,VB,r0⟩:=A.2 0 _ rfl
 obtain⟨u1,QY,r1⟩:=A.2 1 _ rfl
 have eo:∀b,D b->b<w.heap.size:=S.dead
 obtain⟨v0,f0,rfl,Bp,_,Vj,XA⟩:=iE r0
 obtain⟨v1,f1,rfl,y5,_,Sc,Nk⟩:=iE r1
 have g0:=rK (XA 0 _ rfl)
 have g1:=rK (XA 1 _ rfl)
 have a0:=rK (Nk 0 _ rfl)
 obtain⟨Ag,ng,cg,eg⟩:=su g0
 obtain⟨At,nt,ct,et⟩:=su g1
 have e0:v0= #[.slice Ag ng cg,.slice At nt ct]:=by
  obtain⟨vl⟩:=v0
  have q0:=Vj 0 (by simp[aa])
  have q1:=Vj 1 (by simp[aa])
  rw[eg]at q0;rw[et]at q1
  match vl,Bp with
  |[a,b],_=>simp at q0 q1;rw[q0,q1]
 have e1:v1= #[f1 0]:=by
  obtain⟨vl⟩:=v1
  have q0:=Sc 0 (by simp)
  match vl,y5 with
  |[a],_=>simp at q0;rw[q0]
 subst e0 e1
 have evs:vs= #[.agg #[.slice Ag ng cg,.slice At nt ct],.agg #[f1 0]]:=by
  obtain⟨vl⟩:=vs
  have hz:=A.1
  match vl,hz with
  |[a,b],_=>simp at VB QY;rw[VB,QY]
 subst evs
 have up:∀{a v},ke Tryz.prog w D a v->ke Tryz.prog w (fun b=>b<w.heap.size) a v:=fun h=>h.frame (fun _ _=>rfl) eo
 have hT:ke Tryz.prog w (fun b=>b<w.heap.size) (.agg (aa s)) (.agg #[.slice Ag ng cg,.slice At nt ct]):=
  .agg _ _ f0 Bp (fun a ha=>by simp[aa]at ha;rcases ha with rfl|rfl<;>rfl) Vj (fun j a ha=>by
   match j,ha with
   |0,ha=>simp[aa]at ha;subst ha;exact up g0
   |1,ha=>simp[aa]at ha;subst ha;exact up g1
   |j+2,ha=>simp[aa]at ha)
 refine(callsIn_wide.1 (JC s l hS.form hA w Ag At ng cg nt ct (f1 0) hT (N7 a0))).mono ?_
 rintro e W' ⟨v,rfl,⟨hl,hown⟩,hnil,hB⟩
 have S':gw Tryz.prog hs D ι (fun _=>none) W':=S.stay (fun b hb=>hB.block b hb) hB.size (fun _ h=>h) (fun b hb=>Nat.lt_of_lt_of_le (eo b hb) hB.size) (fun _ h=>.inl h) (fun _ _ h=>h)
 have T:Step hs D ι w D ι W':=Step.stay S (fun b hb=>hB.block b hb) hB.size hB.os hB.tape hB.output (fun _ h=>h) (fun _ h=>.inl h) (fun _ _ h=>h)
 rcases hown with⟨rfl,h0⟩|⟨gb,cap,cur,rfl,Qx,hblk,hle,ED,dz,lR⟩
 ·have wC:dh s l=[]:=hnil.1 rfl
  exact⟨.cj,_,n,D,ι,_,rfl,⟨.cj,k9 _ _,by rw[wC];rfl⟩,T,S',U,Nat.le_refl _,.fa _ _ .cj⟩
 ·have wC:dh s l≠[]:=fun h=>by have:=hnil.2 h;cases this
  have l5:ι ⟨0,n⟩=none:=fresh U (fun h=>h)
  have gS:∀{a v},dm Tryz.prog W' D ι a v->dm Tryz.prog W' D (j7 ι ⟨0,n⟩ ⟨gb,3,cap*3,none⟩) a v:=fun h=>h.frame (fun _ _=>rfl) (fun _ h=>h) (fB l5)
  have hR:im Tryz.prog W' D (j7 ι ⟨0,n⟩ ⟨gb,3,cap*3,none⟩) ⟨gb,3,cap*3,none⟩ ⟨true,3,(dh s l).map aD⟩:=by
   refine kK.obj ⟨rfl,⟨cur,_,hblk,dz⟩,?_,fun cs hc=>?_,fun cs hc a ha=>?_,fun i j cs a hi hj=>?_⟩ rfl
   ·simp only[List.length_map];exact Nat.mul_le_mul_right 3 hle
   ·obtain⟨b,_,rfl⟩:=List.mem_map.1 hc;rfl
   ·obtain⟨b,_,rfl⟩:=List.mem_map.1 hc
    simp[aD]at ha
    rcases ha with rfl|rfl|rfl<;>rfl
   ·rw[List.getElem?_map]at hi
    simp only[Option.map_eq_some_iff]at hi
    obtain⟨b,hb,rfl⟩:=hi
    have Xa:j<3:=by have:=(List.getElem?_eq_some_iff.1 hj).1;simpa[aD]using this
    have mj:=(List.getElem?_eq_some_iff.1 hb).1
    have hg:=F2 hb Xa
    rw[<-lR,List.getElem?_take,if_pos (by omega)]at hg
    have key:∀x:Value,([.int .i64 b.a,.int .i64 b.b,.int .i64 b.s]:List Value)[j]? =some x->W'.cell? ⟨gb,i*3+j,none⟩=some x:=fun x hx=>by
     rw[hx]at hg
     have e:W'.cell? ⟨gb,i*3+j,none⟩=cur[i*3+j]? :=by
      unfold World.cell?
      rw[show W'.heap[(⟨gb,i*3+j,none⟩:Addr).block]? = _ from hblk]
      rfl
     rw[e,<-Array.getElem?_toList];exact hg
    match j,hj with
    |0,hj=>simp[aD]at hj;subst hj;exact⟨_,key _ rfl,.fa _ _ (.int _ _)⟩
    |1,hj=>simp[aD]at hj;subst hj;exact⟨_,key _ rfl,.fa _ _ (.int _ _)⟩
    |2,hj=>simp[aD]at hj;subst hj;exact⟨_,key _ rfl,.fa _ _ (.int _ _)⟩
    |j+3,hj=>simp[aD]at hj
  have S2:=gw.add (r:=⟨true,3,(dh s l).map aD⟩) S S' l5 Qx hR
  refine⟨.own ⟨0,n⟩ 0 (dh s l).length,bL (fun _=>none) ⟨0,n⟩ ⟨true,3,(dh s l).map aD⟩,n+1,D,j7 ι ⟨0,n⟩ ⟨gb,3,cap*3,none⟩,_,rfl,⟨AS (dh s l),?_,rfl⟩,T.trans (Step.stay S' (fun _ _=>rfl) (Nat.le_refl _) rfl rfl rfl (fun _ h=>h) (fun _ h=>.inl h) (fB l5)),S2,U.upd.next,Nat.le_succ _,.own _ _ _ _ _ _ (ew _ _ _) rfl hle (.inr (by simp)) (by simp) ED⟩
  unfold AS
  rw[if_neg wC]
  have hg:(bL (fun _=>none) (⟨0,n⟩:Id) ⟨true,3,(dh s l).map aD⟩:Rows) ⟨0,n⟩=some ⟨true,3,(dh s l).map aD⟩:=by simp[bL]
  have:=fA (n:=5) hg rfl fun b=>uV _ 4 b
  simpa using this
end Go.Proofs.YtgoljkjaameagaaGreat.V

namespace Go.Proofs.YtgoljkjaameagaaGreat.V
open Go.RowKit
theorem Rl {P:Program} {w:World} {D:Nat->Prop} {ι:Names} {x y:Int} {v:Value} (h:dm P w D ι (.agg [.int .i64 x,.int .i64 y]) v):v=.agg #[.int .i64 x,.int .i64 y]:=by
 obtain⟨vs,f,rfl,fo,_,h1,h2⟩:=iE h
 have v0:=h1 0 (by simp)
 have v1:=h1 1 (by simp)
 rw[dB (h2 0 _ rfl)]at v0
 rw[dB (h2 1 _ rfl)]at v1
 obtain⟨vl⟩:=vs
 match vl,fo with
 |[a,b],_=>
  simp at v0 v1
  rw[v0,v1]
theorem BB {σ:ay} {X O:Id} {b1 b2:Bool} {es:List En} (hX:σ.get X=some ⟨b1,1,[[.map O mP]]⟩) (hO:σ.get O=some ⟨b2,mP.mz,es.map pM⟩) (hl:es.length<=1000000):
  Call Tryz.prog 282 [.cj,.fn 232 [.ptr X 0 0]] σ (fun r σ'=>σ.next<=σ'.next/\(∀x:Id,x.br<σ.next->σ'.get x=σ.get x)/\∃ss:List ar,ss.Perm (es.map (·.1))/\((ss=[]/\r=.cj)∨∃o:Id,r=.own o 0 ss.length/\σ'.get o=some ⟨true,2,ss.map ai⟩/\σ.next<=o.br/\o.br<σ'.next/\ss≠[])):=by
 refine gh fun hs D ι w vs S U A=>?_
 obtain⟨u1,XU,rfl,h1,h2⟩:=kX A
 obtain⟨u2,XV,h3,h4,h5⟩:=kX h2
 simp at h3;subst h3
 have:=xn h5
 simp at this;subst this
 obtain rfl:=iS h1
 obtain⟨vc,gf,rfl,_,xU,O2,hrc⟩:=xo h4
 obtain⟨BX,hp,hBX,hkX⟩:=iY (hrc 0 _ rfl)
 have XJ:vc= #[.pointer (some ⟨BX.b,0,none⟩)]:=by
  obtain⟨l⟩:=vc
  have q0:=O2 0 (by simp)
  match l,xU with
  |[a],_=>simp at q0;rw[q0,hp];simp
 subst XJ
 obtain⟨BX',MT,RX,_,_⟩:=S.row X _ hX
 rw[hBX]at MT;injection MT with MT;subst MT
 obtain⟨vm,HR,Kt⟩:=(RX.row hkX).at_ 0 0 _ _ rfl rfl
 obtain⟨BO,rfl,hBO,hkO⟩:=GL Kt
 obtain⟨BO',MS,RO,_,_⟩:=S.row O _ hO
 rw[hBO]at MS;injection MS with MS;subst MS
 obtain⟨_,UY,clock,hblk,fo,⟨_,XD⟩,hM⟩:=RO.map mP hkO
 have hk:UY.toList.map (·.key)=(es.map (·.1)).map sa:=by
  have Nn:UY.toList.length=es.length:=by simpa using fo
  refine List.ext_getElem (by simpa using Nn) fun i h1 h2=>?_
  have hi:i<es.length:=by simpa using h2
  obtain⟨e,kv,vv,q1,q2,_,q4,_⟩:=hM i (pM es[i]) (by simp[hi])
  have e1:kv=.agg [.int .i64 es[i].1.eM,.int .i64 es[i].1.eG]:=by
   simp[part,MK.ks,pM]at q2
   exact q2.symm
  subst e1
  have e2:=Rl q4
  simp only[List.getElem_map]
  have e3:UY.toList[i]'(by omega)=e:=by
   have:=Array.getElem?_eq_some_iff.1 q1
   obtain⟨_,h⟩:=this
   simpa using h
  rw[e3,e2];rfl
 have eo:∀b,D b->b<w.heap.size:=S.dead
 have hbx:BX.b<w.heap.size:=RX.lt
 have Tp:w.cell? ⟨BX.b,0,none⟩=some (.map (some BO.b)):=by simpa using HR
 refine(callsIn_wide.1 (zH BX.b BO.b UY clock XD (es.map (·.1)) hk (by simpa using hl) w hbx Tp hblk)).mono ?_
 rintro e W' ⟨ss,v,hperm,rfl,⟨hle',hown⟩,hnil,hB⟩
 have S':gw Tryz.prog hs D ι σ.get W':=S.stay (fun b hb=>hB.block b hb) hB.size (fun _ h=>h) (fun b hb=>Nat.lt_of_lt_of_le (eo b hb) hB.size) (fun _ h=>.inl h) (fun _ _ h=>h)
 have T:Step hs D ι w D ι W':=Step.stay S (fun b hb=>hB.block b hb) hB.size hB.os hB.tape hB.output (fun _ h=>h) (fun _ h=>.inl h) (fun _ _ h=>h)
 rcases hown with⟨rfl,h0⟩|⟨gb,cap,cur,rfl,Qx,hblk2,hle,ED,dz,lR⟩
 ·have wC:ss=[]:=hnil.1 rfl
  exact⟨.cj,_,σ.next,D,ι,_,rfl,⟨Nat.le_refl _,fun _ _=>rfl,ss,hperm,.inl ⟨wC,rfl⟩⟩,T,S',U,Nat.le_refl _,.fa _ _ .cj⟩
 ·have wC:ss≠[]:=fun h=>by have:=hnil.2 h;cases this
  have l5:ι ⟨0,σ.next⟩=none:=fresh U (fun h=>h)
  have hR:im Tryz.prog W' D (j7 ι ⟨0,σ.next⟩ ⟨gb,2,cap*2,none⟩) ⟨gb,2,cap*2,none⟩ ⟨true,2,ss.map ai⟩:=by
   refine kK.obj ⟨rfl,⟨cur,_,hblk2,dz⟩,?_,fun cs hc=>?_,fun cs hc a ha=>?_,fun i j cs a hi hj=>?_⟩ rfl
   ·simp only[List.length_map];exact Nat.mul_le_mul_right 2 hle
   ·obtain⟨b,_,rfl⟩:=List.mem_map.1 hc;rfl
   ·obtain⟨b,_,rfl⟩:=List.mem_map.1 hc
    simp[ai]at ha
    rcases ha with rfl|rfl<;>rfl
   ·rw[List.getElem?_map]at hi
    simp only[Option.map_eq_some_iff]at hi
    obtain⟨b,hb,rfl⟩:=hi
    have Xa:j<2:=by have:=(List.getElem?_eq_some_iff.1 hj).1;simpa[ai]using this
    have mj:=(List.getElem?_eq_some_iff.1 hb).1
    have hg:=N8 hb Xa
    rw[<-lR,List.getElem?_take,if_pos (by omega)]at hg
    have key:∀x:Value,([.int .i64 b.eM,.int .i64 b.eG]:List Value)[j]? =some x->W'.cell? ⟨gb,i*2+j,none⟩=some x:=fun x hx=>by
     rw[hx]at hg
     have e:W'.cell? ⟨gb,i*2+j,none⟩=cur[i*2+j]? :=by
      unfold World.cell?
      rw[show W'.heap[(⟨gb,i*2+j,none⟩:Addr).block]? = _ from hblk2]
      rfl
     rw[e,<-Array.getElem?_toList];exact hg
    match j,hj with
    |0,hj=>simp[ai]at hj;subst hj;exact⟨_,key _ rfl,.fa _ _ (.int _ _)⟩
    |1,hj=>simp[ai]at hj;subst hj;exact⟨_,key _ rfl,.fa _ _ (.int _ _)⟩
    |j+2,hj=>simp[ai]at hj
  have S2:=gw.add (r:=⟨true,2,ss.map ai⟩) S S' l5 Qx hR
  refine⟨.own ⟨0,σ.next⟩ 0 ss.length,bL σ.get ⟨0,σ.next⟩ ⟨true,2,ss.map ai⟩,σ.next+1,D,j7 ι ⟨0,σ.next⟩ ⟨gb,2,cap*2,none⟩,_,rfl,⟨Nat.le_succ _,fun x hx=>?_,ss,hperm,.inr ⟨_,rfl,by simp[bL],Nat.le_refl _,Nat.lt_succ_self _,wC⟩⟩,T.trans (Step.stay S' (fun _ _=>rfl) (Nat.le_refl _) rfl rfl rfl (fun _ h=>h) (fun _ h=>.inl h) (fB l5)),S2,U.upd.next,Nat.le_succ _,.own _ _ _ _ _ _ (ew _ _ _) rfl hle (.inr (by simp)) (by simp) ED⟩
  have:¬x=⟨0,σ.next⟩:=fun e=>by subst e;simp at hx
  simp[bL,this]
end Go.Proofs.YtgoljkjaameagaaGreat.V

namespace Go.Proofs.YtgoljkjaameagaaGreat.V
open Go.RowKit
attribute [local irreducible] ek wpOps fK Call
attribute [local go_sem] aI fw eH fE fD dd upd cm K.av cG AV.cells AV.cell rowOf rowsOf part ld rowAt bL bY dx dO gz bE cW dY fC eY dj dS cU cR dG dH bH aZ cJ bG cL cK dQ dU dR cI bJ cV dP bF aL cP cz gy bq cF bI aW dq bm dy AV.undef bw bz dJ dM dD dI cE dX ea cq dW dV cN cQ List.getD_cons_zero List.getD_cons_succ List.getD_nil List.all_cons List.all_nil Bool.and_true Bool.true_and Bool.and_self Bool.not_true Bool.not_false Option.map_some Option.map_none Option.bind_some Option.bind_none List.length_cons List.length_nil List.take_succ_cons List.take_zero List.take_nil List.drop_succ_cons List.drop_zero List.drop_nil List.head?_cons List.map_cons List.map_nil List.getElem?_cons_zero List.getElem?_cons_succ List.cons_append List.nil_append List.append_nil List.length_map List.set_cons_zero List.set_cons_succ Nat.reduceMul eq_self Int.toNat_natCast Int.natCast_nonneg and_self true_and and_true decide_true decide_false Bool.false_eq_true Nat.zero_add Nat.add_zero List.contains_cons List.contains_nil Bool.or_false Bool.false_or beq_self_eq_true Nat.reduceBEq ne_eq not_true_eq_false not_false_eq_true Id.mk.injEq false_and and_false Nat.reduceLT Int.reduceLE Int.reduceLT Int.reduceToNat Int.reduceNeg Int.reduceAdd Nat.le_refl List.length_append beq_true beq_false Bool.not_eq_eq_eq_not or_false false_or dK aq au aH bf bt bZ aU bh aT bc cH bx
theorem pk {α:Type} [DecidableEq α]:∀{xs ys:List α},xs.Nodup->(∀x∈xs,x∈ys)->xs.length=ys.length->xs.Perm ys
 |[],ys,_,_,h=>by
  have:ys=[]:=List.eq_nil_of_length_eq_zero h.symm
  subst this;exact List.Perm.nil
 |x::xs,ys,hn,hs,h=>by
  obtain⟨h1,h2⟩:=List.nodup_cons.1 hn
  have hx:=hs x (by simp)
  have hl:=List.length_erase_of_mem hx
  have:=@pk α _ xs (ys.erase x) h2 (fun y hy=>(List.mem_erase_of_ne fun e=>h1 (by rw[<-e];exact hy)).2 (hs y (by simp[hy]))) (by rw[hl];simp only[List.length_cons]at h;omega)
  exact(this.cons x).trans (List.perm_cons_erase hx).symm
theorem nH {L:List ar} (h:nk L):L.Nodup:=List.Pairwise.imp (fun {a b} oq e=>by rw[e,nB]at oq;cases oq) h
theorem Om {L qs:List ar} (hR:nk L) (hp:qs.Perm L) (hs:∀i j:Nat,i<j->j<qs.length->iW (jK qs j) (jK qs i)=false):qs=L:=by
 have hd:qs.Nodup:=hp.nodup_iff.2 (nH hR)
 have hq:nk qs:=by
  unfold nk
  unfold List.Nodup at hd
  rw[List.pairwise_iff_getElem]at hd ⊢
  intro i j hi hj EM
  have h1:=hs i j EM hj
  rw[jZ hj,jZ hi]at h1
  exact vg h1 fun e=>hd i j hi hj EM e.symm
 exact GN hq hR fun x=>hp.mem_iff
theorem IC (σ:ay):Call Tryz.prog 231 [.cj,.fn 154 []] σ fun r σ'=>r=.iA []/\σ'.next=σ.next/\σ'.get=σ.get:=by
 refine gh fun hs D ι w vs S U A=>?_
 obtain⟨u1,XU,rfl,h1,h2⟩:=kX A
 obtain⟨u2,XV,h3,h4,h5⟩:=kX h2
 simp at h3;subst h3
 have:=xn h5
 simp at this;subst this
 obtain rfl:=iS h1
 refine(Pp _ _ _ w).mono ?_
 rintro e w' ⟨rfl,rfl⟩
 exact⟨.iA [],σ.get,σ.next,D,ι,_,rfl,⟨rfl,rfl,rfl⟩,Step.refl _ _ _ _,S,U,Nat.le_refl _,.iA [] #[] (fun _=>Go.undef) rfl (fun j hj=>by simp at hj) (fun j a h=>by simp at h)⟩
theorem KC (O:Id) (σ:ay):Call Tryz.prog 153 [.map O mP] σ (fun r σ'=>r=.fn 232 [.ptr ⟨153000000,σ.next⟩ 0 0]/\σ'.get ⟨153000000,σ.next⟩=some ⟨true,1,[[.map O mP]]⟩/\σ.next<σ'.next/\∀x:Id,x.br<σ.next->σ'.get x=σ.get x):=by
 refine e6 eK rfl fun hl=>?_
 clear hl
 (try((repeat(revert hN;revert N;apply Pn.out));refine wk @Nat.zero_add ?_;(repeat(refine Pn.mk ?_;intro N hN))))
 exact fe (.inl rfl) (vs:=[.fn 232 [.ptr ⟨153000000,σ.next⟩ 0 0]]) (sd @Nat.zero_add) ⟨rfl,sd @Nat.zero_add,by(try dsimp only);omega,fun x hx=>by
  have:=dr hx
  simp only[go_sem, ↓reduceIte,Nat.reduceEqDiff,Nat.reduceAdd,Nat.reduceSub,Nat.reduceLeDiff,reduceCtorEq,this]⟩
theorem Hj {σ:ay} {X O:Id} {b1 b2:Bool} {es:List En} (hX:σ.get X=some ⟨b1,1,[[.map O mP]]⟩) (hO:σ.get O=some ⟨b2,mP.mz,es.map pM⟩) (hl:es.length<=1000000) (hXv:X.br<σ.next) (R8:O.br<σ.next):
  Call Tryz.prog 230 [.fn 232 [.ptr X 0 0]] σ (fun r σ'=>σ.next<=σ'.next/\(∀x:Id,x.br<σ.next->σ'.get x=σ.get x)/\∃ss:List ar,ss.Perm (es.map (·.1))/\((ss=[]/\r=.cj)∨∃o:Id,r=.own o 0 ss.length/\σ'.get o=some ⟨true,2,ss.map ai⟩/\σ.next<=o.br/\o.br<σ'.next/\ss≠[])):=by
 refine e6 eK rfl fun lf=>?_
 clear lf
 (try((repeat(revert hN;revert N;apply Pn.out));refine wk @Nat.zero_add ?_;(repeat(refine Pn.mk ?_;intro N hN))))
 refine .inr (aJ _ _ _ _ _ (fun r σ1 hq=>?_) (BB (σ:=⟨σ.get,_⟩) hX hO hl))
 obtain⟨g1,x1⟩:=σ1
 obtain⟨q1,q2,ss,q3,q4⟩:=hq
 (try dsimp only at q1 q2 q4)
 refine hN _ _ ?_
 clear hN N
 (try((repeat(revert hN;revert N;apply Pn.out));refine wk @Nat.zero_add ?_;(repeat(refine Pn.mk ?_;intro N hN))))
 exact fe (.inl rfl) (vs:=[r]) (sd @Nat.zero_add) ⟨by(try dsimp only);omega,fun x hx=>q2 x (by omega),ss,q3,by
  rcases q4 with h|⟨o,h1,h2,h3,h4,h5⟩
  ·exact .inl h
  ·exact .inr ⟨o,h1,h2,by omega,by(try dsimp only);omega,h5⟩⟩
theorem Lp {σ:ay} {X O:Id} {b1 b2:Bool} {es:List En} (hX:σ.get X=some ⟨b1,1,[[.map O mP]]⟩) (hO:σ.get O=some ⟨b2,mP.mz,es.map pM⟩) (hl:es.length<=1000000) (hXv:X.br<σ.next) (R8:O.br<σ.next) (L:List ar) (hR:nk L) (hn:(es.map (·.1)).Nodup) (hm:∀x,x∈L↔x∈es.map (·.1)):
  Call Tryz.prog 152 [.fn 232 [.ptr X 0 0],.fn 154 []] σ (fun r σ'=>σ.next<=σ'.next/\(∀x:Id,x.br<σ.next->σ'.get x=σ.get x)/\((L=[]/\r=.cj)∨∃o:Id,r=.own o 0 L.length/\σ'.get o=some ⟨true,2,L.map ai⟩/\σ.next<=o.br/\o.br<σ'.next/\L≠[])):=by
 refine e6 eK rfl fun lf=>?_
 clear lf
 (try((repeat(revert hN;revert N;apply Pn.out));refine wk @Nat.zero_add ?_;(repeat(refine Pn.mk ?_;intro N hN))))
 refine .inr (aJ _ _ _ _ _ (fun r σ1 hq=>?_) (Hj (σ:=⟨σ.get,_⟩) hX hO hl (by(try dsimp only);omega) (by(try dsimp only);omega)))
 obtain⟨g1,x1⟩:=σ1
 obtain⟨q1,q2,ss,q3,q4⟩:=hq
 (try dsimp only at q1 q2 q4)
 have lg:ss.Nodup:=q3.nodup_iff.2 hn
 have ql:∀x,x∈L↔x∈ss:=fun x=>(hm x).trans q3.mem_iff.symm
 refine hN _ _ ?_
 clear hN N
 rcases q4 with⟨hs,rfl⟩|⟨o,rfl,q5,q6,q7,q8⟩
 ·have hL:L=[]:=List.eq_nil_iff_forall_not_mem.2 fun x hx=>by have:=(ql x).1 hx;rw[hs]at this;cases this
  (try((repeat(revert hN;revert N;apply Pn.out));refine wk @Nat.zero_add ?_;(repeat(refine Pn.mk ?_;intro N hN))))
  refine .inr (aJ _ _ _ _ _ (fun r σ2 hq=>?_) (IC ⟨g1,_⟩))
  obtain⟨g2,x2⟩:=σ2
  obtain⟨rfl,u1,u2⟩:=hq
  (try dsimp only at u1 u2)
  refine hN _ _ ?_
  clear hN N
  (try((repeat(revert hN;revert N;apply Pn.out));refine wk @Nat.zero_add ?_;(repeat(refine Pn.mk ?_;intro N hN))))
  exact fe (.inl rfl) (vs:=[.cj]) (sd @Nat.zero_add) ⟨by(try dsimp only);omega,fun x hx=>(congrFun u2 x).trans (q2 x (by omega)),.inl ⟨hL,rfl⟩⟩
 ·have u9:ss.length<=1048576:=by rw[q3.length_eq,List.length_map];omega
  (try((repeat(revert hN;revert N;apply Pn.out));refine wk @Nat.zero_add ?_;(repeat(refine Pn.mk ?_;intro N hN))))
  refine .inr (aJ _ _ _ _ _ (fun r σ2 hq=>?_) (ID UA Pp ss u9 ⟨g1,_⟩ o q5))
  obtain⟨g2,x2⟩:=σ2
  obtain⟨u1,u2,qs,u3,u4,u5,u6⟩:=hq
  (try dsimp only at u1 u2 u3)
  have Vx:qs=L:=Om hR ((pk (nH hR) (fun x hx=>(u5 x).2 ((ql x).1 hx)) (by
   rw[u4]
   exact(pk (nH hR) (fun x hx=>(ql x).1 hx) (Nat.le_antisymm (pS (nH hR) fun x hx=>(ql x).1 hx) (pS lg fun x hx=>(ql x).2 hx))).length_eq)).symm) u6
  rw[Vx]at u3 u4
  have Qo:L≠[]:=fun e=>by rw[e]at u4;exact q8 (List.eq_nil_of_length_eq_zero u4.symm)
  refine hN _ _ ?_
  clear hN N
  (try((repeat(revert hN;revert N;apply Pn.out));refine wk @Nat.zero_add ?_;(repeat(refine Pn.mk ?_;intro N hN))))
  exact fe (.inl rfl) (vs:=[.own o 0 ss.length]) (sd @Nat.zero_add) ⟨by(try dsimp only);omega,fun x hx=>by
   have h1:x≠o:=fun e=>by rw[e]at hx;omega
   exact(u2 x h1).trans (q2 x (by omega)),.inr ⟨o,by rw[u4];rfl,u3,by omega,by(try dsimp only);omega,Qo⟩⟩
def Jh (z m:Nat) (L:List ae) (v:AV) (g:Rows) (n:Nat):Prop:=(L=[]/\v=.cj)∨∃u:Id,v=.own u 0 L.length/\g u=some ⟨true,3,L.map ah⟩/\m<=u.br/\u.br<n/\0<L.length/\u.site=z
theorem Jh.frame {z m:Nat} {L:List ae} {v v':AV} {g g':Rows} {n n':Nat} (h:Jh z m L v g n) (he:v'=v) (hn:n<=n') (hf:∀x:Id,x.br<n->g' x=g x):Jh z m L v' g' n':=by
 subst he
 rcases h with h|⟨u,h1,h2,h3,h4,h5⟩
 ·exact .inl h
 ·exact .inr ⟨u,h1,(hf u h4).trans h2,h3,by omega,h5⟩
def jD (p:ar) (ks:List Int) (j:Nat):List ae:=(ks.take j).map fun k=>⟨p,k⟩
theorem zm {p:ar} {ks:List Int} {j:Nat} (h:j<ks.length):jD p ks (j+1)=jD p ks j++[⟨p,ks.getD j 0⟩]:=by
 unfold jD
 rw[List.take_succ_eq_append_getElem h,List.map_append]
 simp[List.getD_eq_getElem?_getD,h]
theorem C3 (p:ar) (ks:List Int):jD p ks ks.length=ks.map fun k=>(⟨p,k⟩:ae):=by unfold jD;rw[List.take_length]
theorem GC {ks:List Int} {j:Nat} (h:j<ks.length):(ks.map aQ)[j]? =some [.int .i64 (ks.getD j 0)]:=by simp[aQ,List.getD_eq_getElem?_getD,h]
structure VQ (g:Rows) (n:Nat) (c T O:Id) (s:aM) (l:List ae):Prop where
 row:g c=some ⟨true,6,[[.sl (s.aC.aB.map ck),.sl (s.aC.aj.map bP),.sl (s.cC.aj.map ah),.int .i64 s.aA,.map T mP,.map O mP]]⟩
 cv:c.br<n
 ov:O.br<n
 op:∃es:List En,g O=some ⟨true,mP.mz,es.map pM⟩/\xV g n es (iM s l) (fun _=>True)
theorem Q8 {σ:ay} {c T O:Id} {s:aM} {l:List ae} (h:VQ σ.get σ.next c T O s l) (hT:1<=s.aA) (hS:iu s.aC) (hA:kz s.aC l):
  Call Tryz.prog 84 [.ptr c 0 0] σ (fun r σ'=>σ.next<=σ'.next/\(∀x:Id,x.br<σ.next->σ'.get x=σ.get x)/\Jh 84008005 σ.next (rY (eF s l) s.aC.aj.length (iQ l)) r σ'.get σ'.next):=by
 refine e6 eK rfl fun lf=>?_
 clear lf
 obtain⟨es,hO,hE⟩:=h.op
 have fy:=h.row
 have v1:=dr h.cv
 have v2:=dr h.ov
 have ER:=hS.xK
 have Cf:=hA.1.zW
 have QG:∀q,q∈mh s l↔q∈es.map (·.1):=fun q=>by
  rw[wU hT hA]
  rcases hE.at_ q trivial with⟨h1,h2⟩|⟨h1,o,h2,_⟩
  ·refine⟨fun h=>absurd h1 h,fun h=>?_⟩
   obtain⟨e,he,rfl⟩:=List.mem_map.1 h
   exact absurd rfl (h2 e he)
  ·exact⟨fun _=>List.mem_map_of_mem (f:=(·.1)) h2,fun _=>h1⟩
 have Pa:(mh s l).length<=10000:=by
  have h1:(mh s l).length<=(iQ l).length:=List.length_filter_le _ _
  have h2:(iQ l).length<=l.length*4:=lu l l.length
  omega
 have hes:es.length<=1000000:=by
  have h1:=pS hE.nodup fun x hx=>(QG x).2 hx
  rw[List.length_map]at h1
  omega
 rw[DZ]
 have hR:=Er s l
 have qj:∀q∈mh s l,iM s l q≠[]:=fun q hq=>(wU hT hA q).1 hq
 generalize mh s l=ps at QG Pa hR qj
 (try((repeat(revert hN;revert N;apply Pn.out));refine wk (tw @fy @v1) ?_;(repeat(refine Pn.mk ?_;intro N hN))))
 refine .inr (aJ _ _ _ _ _ (fun r σ1 hq=>?_) (KC O _))
 obtain⟨g1,x1⟩:=σ1
 obtain⟨rfl,q1,q2,q3⟩:=hq
 (try dsimp only at q1 q2 q3)
 have hO1:g1 O=some ⟨true,mP.mz,es.map pM⟩:=(q3 O (by have:=h.ov;(try dsimp only);omega)).trans hO
 refine hN _ _ ?_
 clear hN N
 (try((repeat(revert hN;revert N;apply Pn.out));refine wk @Nat.zero_add ?_;(repeat(refine Pn.mk ?_;intro N hN))))
 refine .inr (aJ _ _ _ _ _ (fun r σ2 hq=>?_) (Lp (σ:=⟨g1,_⟩) q1 hO1 hes (by(try dsimp only);omega) (by have:=h.ov;(try dsimp only);omega) ps hR hE.nodup QG))
 obtain⟨g2,x2⟩:=σ2
 obtain⟨u1,u2,u3⟩:=hq
 (try dsimp only at u1 u2 u3)
 have Ce:∀x:Id,x.br<σ.next->g2 x=σ.get x:=fun x hx=>(u2 x (by omega)).trans (q3 x (by(try dsimp only);omega))
 refine hN _ _ ?_
 clear hN N
 rcases u3 with⟨hps,rfl⟩|⟨o,rfl,ho,pO,Vu,hpne⟩
 ·(try((repeat(revert hN;revert N;apply Pn.out));refine wk @Nat.zero_add ?_;(repeat(refine Pn.mk ?_;intro N hN))))
  refine aX (fun n env st=>(env 15=.int .i64 0/\env 14=.int .i64 0/\env 3=.cj)/\σ.next<=st.next/\∀x:Id,x.br<σ.next->st.get x=σ.get x) 0 ⟨⟨sd @Nat.zero_add,sl @Nat.zero_add,sd @Nat.zero_add⟩,by(try dsimp only);omega,fun x hx=>Ce x hx⟩ ?_
  rintro m e st ⟨⟨a15,Mq,a3⟩,an,aF⟩ -
  have d0:decide ((0:Int)<0)=false:=rfl
  (try((repeat(revert hN;revert N;apply Pn.out));refine wk (tw @a3 (tw @Mq (tw @a15 @d0))) ?_;(repeat(refine Pn.mk ?_;intro N hN))))
  exact fe (.inl rfl) (vs:=[.cj]) (sd @a3) ⟨by(try dsimp only);omega,fun x hx=>aF x hx,.inl ⟨by rw[hps];rfl,rfl⟩⟩
 ·have EC:g2 c=some ⟨true,6,[[.sl (s.aC.aB.map ck),.sl (s.aC.aj.map bP),.sl (s.cC.aj.map ah),.int .i64 s.aA,.map T mP,.map O mP]]⟩:=(Ce c h.cv).trans fy
  have WE:g2 O=some ⟨true,mP.mz,es.map pM⟩:=(Ce O h.ov).trans hO
  have Tw:=h.cv
  have R8:=h.ov
  (try((repeat(revert hN;revert N;apply Pn.out));refine wk @Nat.zero_add ?_;(repeat(refine Pn.mk ?_;intro N hN))))
  refine aX (fun n env st=>∃k:Nat,n=(ps.length)-k/\k<=(ps.length)/\env 15=.int .i64 (k:Int)/\(x2<=st.next/\(∀x:Id,x.br<x2->st.get x=g2 x)/\Jh 84008005 x2 (rY (eF s l) s.aC.aj.length (ps.take k)) (env 3) st.get st.next)) (ps.length) ⟨0,by omega,by omega,sl @Nat.zero_add,by(try dsimp only);exact⟨by omega,fun x hx=>sd @Nat.zero_add,.inl ⟨rfl,sd @Nat.zero_add⟩⟩⟩ ?_
  rintro n_a env_a st_a ⟨k,rfl,ale,a15,kC⟩ dC
  have a0:=dC 0 (by kernel_rfl);have PD:=dC 13 (by kernel_rfl);have Mq:=dC 14 (by kernel_rfl)
  simp only[go_sem, ↓reduceIte,Nat.reduceEqDiff,Nat.reduceAdd,Nat.reduceSub,Nat.reduceLeDiff,reduceCtorEq]at a0 PD Mq
  clear dC
  obtain⟨an,dC,a3⟩:=kC
  have bl:(rY (eF s l) s.aC.aj.length (ps.take k)).length<=10000*160:=by
   have h2:=uS (eF s l) s.aC.aj.length (ps.take k)
   have h3:(ps.take k).length*s.aC.aj.length<=10000*160:=Nat.mul_le_mul (by rw[List.length_take];omega) ER
   omega
  by_cases hk:(k:Int)<(ps.length:Int)
  ·have cD:∀{e:Env} {gg:Rows} {nx:Nat},(e 15=.int .i64 (IntKind.i64.wrap ((k:Int)+1)))->(x2<=nx/\(∀x:Id,x.br<x2->gg x=g2 x)/\Jh 84008005 x2 (rY (eF s l) s.aC.aj.length (ps.take (k+1))) (e 3) gg nx)->∃m0,m0<(ps.length)-k/\∃k:Nat,m0=(ps.length)-k/\k<=(ps.length)/\e 15=.int .i64 (k:Int)/\(x2<=nx/\(∀x:Id,x.br<x2->gg x=g2 x)/\Jh 84008005 x2 (rY (eF s l) s.aC.aj.length (ps.take k)) (e 3) gg nx):=fun x1 x2=>⟨_,by omega,k+1,rfl,by omega,(by rw[x1,az (by omega)]),x2⟩
   have fm:k<ps.length:=by omega
   have uL:=(dC o Vu).trans ho
   have vao:=dr (i:=o) (n:=st_a.next) (by omega)
   have eT:=ur fm
   have O2:=(dC c (by omega)).trans EC
   have vac:=dr (i:=c) (n:=st_a.next) (by omega)
   have hgO:=(dC O (by omega)).trans WE
   have vaO:=dr (i:=O) (n:=st_a.next) (by omega)
   obtain⟨o',Af,Xs,QK⟩:∃o':Id,(jK ps k,AV.own o' 0 (iM s l (jK ps k)).length)∈es/\o'.br<σ.next/\σ.get o'=some ⟨true,1,(iM s l (jK ps k)).map aQ⟩:=by
    rcases hE.at_ (jK ps k) trivial with⟨h1,_⟩|⟨_,o',h2⟩
    ·exact absurd h1 (qj _ (AL fm))
    ·exact⟨o',h2⟩
   obtain⟨fi,Gp,_,_,Ct,TU⟩:=zh (jK ps k) es
   obtain⟨j0,rfl,Se⟩:∃j,fi=some j/\(es.map pM)[j]? =some [.int .i64 (jK ps k).eM,.int .i64 (jK ps k).eG,.own o' 0 (iM s l (jK ps k)).length]:=by
    cases fi with
    |none=>exact absurd rfl (TU rfl _ Af)
    |some j=>
     obtain⟨v,hv⟩:=Ct j rfl
     have e:=ND hE.nodup (List.mem_of_getElem? hv) Af
     subst e
     exact⟨j,rfl,by rw[List.getElem?_map,hv];rfl⟩
   have I4:=BE (B:=eF s l) (m:=s.aC.aj.length) fm
   have fJ:F0 (eF s l) (jK ps k) s.aC.aj.length=(iM s l (jK ps k)).map fun t=>(⟨jK ps k,t⟩:ae):=zK _ _ _
   rw[fJ,<-C3]at I4
   have Nq:(iM s l (jK ps k)).length<=160:=by
    have:=se (eF s l) (jK ps k) s.aC.aj.length
    unfold iM;omega
   generalize jK ps k=q at Gp Se Af QK eT I4 Nq
   generalize iM s l q=us at Se Af QK I4 Nq
   generalize rY (eF s l) s.aC.aj.length (ps.take k)=L at a3 bl I4
   (try((repeat(revert hN;revert N;apply Pn.out));refine wk (tw @a15 (tw @a0 (tw @PD (tw @Mq (tw @hk (tw @uL (tw @vao (tw @eT (tw @O2 (tw @vac (tw @hgO (tw @vaO (tw @Gp (tw @Se @ai.eq_1)))))))))))))) ?_;(repeat(refine Pn.mk ?_;intro N hN))))
   refine aX (fun n env st=>∃j:Nat,n=(us.length)-j/\j<=(us.length)/\env 26=.int .i64 (j:Int)/\st.get ⟨84004002,st_a.next+1⟩=some ⟨true,2,[ai q]⟩/\(st_a.next+2<=st.next/\(∀x:Id,x.br<x2->st.get x=g2 x)/\Jh 84008005 x2 (L++jD q us j) (env 3) st.get st.next)) (us.length) ⟨0,by omega,by omega,sl (tw @a15 (tw @a0 (tw @PD (tw @Mq @ai.eq_1)))),sl (tw @a15 (tw @a0 (tw @PD (tw @Mq @ai.eq_1)))),by(try dsimp only);exact⟨by omega,fun x hx=>by
    have h2:=dr (i:=x) (n:=st_a.next) (by omega)
    have h3:=dC x hx
    simp only[go_sem, ↓reduceIte,Nat.reduceEqDiff,Nat.reduceAdd,Nat.reduceSub,Nat.reduceLeDiff,reduceCtorEq,h2,h3],by
    rw[show jD q us 0=[]from rfl,List.append_nil]
    exact a3.frame (sd @Nat.zero_add) (by omega) fun x hx=>by
     have h2:=dr hx
     simp only[go_sem, ↓reduceIte,Nat.reduceEqDiff,Nat.reduceAdd,Nat.reduceSub,Nat.reduceLeDiff,reduceCtorEq,h2]⟩⟩ ?_
   rintro n_b env_b st_b ⟨j,rfl,ble,b26,bg0,bI0⟩ eX
   have b0:=eX 0 (by kernel_rfl);have b5:=eX 5 (by kernel_rfl);have DW:=eX 13 (by kernel_rfl);have PK:=eX 14 (by kernel_rfl);have PL:=eX 15 (by kernel_rfl);have PM:=eX 24 (by kernel_rfl);have PN:=eX 25 (by kernel_rfl)
   simp only[go_sem, ↓reduceIte,Nat.reduceEqDiff,Nat.reduceAdd,Nat.reduceSub,Nat.reduceLeDiff,reduceCtorEq,a15,a0,PD,Mq,ai]at b0 b5 DW PK PL PM PN
   clear eX
   obtain⟨bn,eX,b3⟩:=bI0
   have VN:=dr (i:=⟨84004002,st_a.next+1⟩) (n:=st_b.next) (by(try dsimp only);omega)
   have Dv:(L++jD q us j).length<=16777214:=by
    have:(jD q us j).length<=us.length:=by unfold jD;simp;omega
    rw[List.length_append];omega
   by_cases hj:(j:Int)<(us.length:Int)
   ·have fh:∀{e:Env} {gg:Rows} {nx:Nat},(e 26=.int .i64 (IntKind.i64.wrap ((j:Int)+1)))->(gg ⟨84004002,st_a.next+1⟩=some ⟨true,2,[ai q]⟩)->(st_a.next+2<=nx/\(∀x:Id,x.br<x2->gg x=g2 x)/\Jh 84008005 x2 (L++jD q us (j+1)) (e 3) gg nx)->∃m0,m0<(us.length)-j/\∃j:Nat,m0=(us.length)-j/\j<=(us.length)/\e 26=.int .i64 (j:Int)/\gg ⟨84004002,st_a.next+1⟩=some ⟨true,2,[ai q]⟩/\(st_a.next+2<=nx/\(∀x:Id,x.br<x2->gg x=g2 x)/\Jh 84008005 x2 (L++jD q us j) (e 3) gg nx):=fun x1 x2 x3=>⟨_,by omega,j+1,rfl,by omega,(by rw[x1,az (by omega)]),x2,x3⟩
    have gW:j<us.length:=by omega
    have uM:=zm (p:=q) gW
    have Ai:=GC gW
    have TG:=(eX o' (by omega)).trans ((Ce o' Xs).trans QK)
    have UD:=dr (i:=o') (n:=st_b.next) (by omega)
    have M9:(us.map aQ).length=us.length:=by simp
    have HD:L++jD q us (j+1)=(L++jD q us j)++[⟨q,us.getD j 0⟩]:=by rw[uM,List.append_assoc]
    generalize us.getD j 0=t at Ai HD
    generalize L++jD q us j=M at b3 Dv HD
    have rm:(M++[(⟨q,t⟩:ae)]).length=M.length+1:=by simp
    have qx:(M++[(⟨q,t⟩:ae)]).map ah=M.map ah++[[.int .i64 q.eM,.int .i64 q.eG,.int .i64 t]]:=by rw[List.map_append];rfl
    rcases b3 with⟨hM,b3⟩|⟨u,b3,hug,hum,huv,hul0,XG⟩
    ·subst hM
     (try((repeat(revert hN;revert N;apply Pn.out));refine wk (tw @b26 (tw @bg0 (tw @b0 (tw @b5 (tw @DW (tw @PK (tw @PL (tw @PM (tw @PN (tw @hj (tw @Ai (tw @TG (tw @UD (tw @M9 (tw @b3 (tw @VN @ai.eq_1)))))))))))))))) ?_;(repeat(refine Pn.mk ?_;intro N hN))))
     refine fh ?_ ?_ (by(try dsimp only);exact⟨by omega,fun x hx=>by
      have h2:=dr (i:=x) (n:=st_b.next) (by omega)
      have h3:=eX x hx
      simp only[go_sem, ↓reduceIte,Nat.reduceEqDiff,Nat.reduceAdd,Nat.reduceSub,Nat.reduceLeDiff,reduceCtorEq,h2,h3],.inr ⟨⟨84008005,st_b.next+1+1⟩,by rw[HD,rm];simp only[go_sem, ↓reduceIte,Nat.reduceEqDiff,Nat.reduceAdd,Nat.reduceSub,Nat.reduceLeDiff,reduceCtorEq]<;>rfl,by rw[HD,qx];simp only[go_sem, ↓reduceIte,Nat.reduceEqDiff,Nat.reduceAdd,Nat.reduceSub,Nat.reduceLeDiff,reduceCtorEq]<;>rfl,by(try dsimp only);omega,by(try dsimp only);omega,by rw[HD,rm];omega,rfl⟩⟩)
     all_goals simp only[go_sem, ↓reduceIte,Nat.reduceEqDiff,Nat.reduceAdd,Nat.reduceSub,Nat.reduceLeDiff,reduceCtorEq,b26,bg0,b0,b5,DW,PK,PL,PM,PN,VN,ai]
    ·have vub:=dr huv
     have gR:(M.map ah).length=M.length:=by simp
     have hM1:M.length<=16777215:=by omega
     have ux:=gO XG (b:=84004002) (v:=st_a.next+1) (by decide)
     (try((repeat(revert hN;revert N;apply Pn.out));refine wk (tw @b26 (tw @bg0 (tw @b0 (tw @b5 (tw @DW (tw @PK (tw @PL (tw @PM (tw @PN (tw @hj (tw @Ai (tw @TG (tw @UD (tw @M9 (tw @b3 (tw @hug (tw @vub (tw @gR (tw @hM1 (tw @VN (tw @ux @ai.eq_1))))))))))))))))))))) ?_;(repeat(refine Pn.mk ?_;intro N hN))))
     refine fh ?_ ?_ (by(try dsimp only);exact⟨by omega,fun x hx=>by
      have h2:=dr (i:=x) (n:=st_b.next) (by omega)
      have h4:=da (a:=x) (b:=u) (by omega)
      have h3:=eX x hx
      simp only[go_sem, ↓reduceIte,Nat.reduceEqDiff,Nat.reduceAdd,Nat.reduceSub,Nat.reduceLeDiff,reduceCtorEq,h2,h3,h4],.inr ⟨⟨84008005,st_b.next+1+1⟩,by rw[HD,rm];simp only[go_sem, ↓reduceIte,Nat.reduceEqDiff,Nat.reduceAdd,Nat.reduceSub,Nat.reduceLeDiff,reduceCtorEq]<;>rfl,by rw[HD,qx];simp only[go_sem, ↓reduceIte,Nat.reduceEqDiff,Nat.reduceAdd,Nat.reduceSub,Nat.reduceLeDiff,reduceCtorEq]<;>rfl,by(try dsimp only);omega,by(try dsimp only);omega,by rw[HD,rm];omega,rfl⟩⟩)
     all_goals simp only[go_sem, ↓reduceIte,Nat.reduceEqDiff,Nat.reduceAdd,Nat.reduceSub,Nat.reduceLeDiff,reduceCtorEq,b26,bg0,b0,b5,DW,PK,PL,PM,PN,VN,ux,ai]
   ·have Xb:j=us.length:=by omega
    subst Xb
    (try((repeat(revert hN;revert N;apply Pn.out));refine wk (tw @b26 (tw @bg0 (tw @b0 (tw @b5 (tw @DW (tw @PK (tw @PL (tw @PM (tw @PN @hj))))))))) ?_;(repeat(refine Pn.mk ?_;intro N hN))))
    exact cD (sd (tw @a15 (tw @a0 (tw @PD (tw @Mq (tw @b26 (tw @bg0 (tw @b0 (tw @b5 (tw @DW (tw @PK (tw @PL (tw @PM @PN))))))))))))) (by(try dsimp only);exact⟨by omega,fun x hx=>eX x hx,by
     rw[I4]
     exact b3.frame (sd @Nat.zero_add) (by omega) fun x hx=>rfl⟩)
  ·have kM:k=ps.length:=by omega
   subst kM
   rw[List.take_length]at a3
   (try((repeat(revert hN;revert N;apply Pn.out));refine wk (tw @a15 (tw @a0 (tw @PD (tw @Mq @hk)))) ?_;(repeat(refine Pn.mk ?_;intro N hN))))
   exact fe (.inl rfl) (vs:=[env_a 3]) (sd @Nat.zero_add) ⟨by(try dsimp only);omega,fun x hx=>(dC x (by omega)).trans (Ce x hx),by
    rcases a3 with h1|⟨u,h1,h2,h3,h4,h5⟩
    ·exact .inl h1
    ·exact .inr ⟨u,h1,h2,by omega,by(try dsimp only);omega,h5⟩⟩
theorem Q7 {σ:ay} {c T O:Id} {s:aM} {l:List ae} (h:Jg σ.get σ.next c T O s l) (hT:1<=s.aA) (hS:iu s.aC) (hA:kz s.aC l):
  Call Tryz.prog 84 [.ptr c 0 0] σ (fun r σ'=>σ.next<=σ'.next/\(∀x:Id,x.br<σ.next->σ'.get x=σ.get x)/\Jh 84008005 σ.next (rY (eF s l) s.aC.aj.length (iQ l)) r σ'.get σ'.next):=Q8 ⟨h.o.row,h.o.cv,h.o.ov,h.op⟩ hT hS hA
end Go.Proofs.YtgoljkjaameagaaGreat.V

namespace Go.Proofs.YtgoljkjaameagaaGreat.V
open Go.RowKit
end Go.Proofs.YtgoljkjaameagaaGreat.V

namespace Go.Proofs.YtgoljkjaameagaaGreat.V
open Go.RowKit
attribute [local irreducible] ek wpOps fK Call
attribute [local go_sem] aI fw eH fE fD dd upd cm K.av cG AV.cells AV.cell rowOf rowsOf part ld rowAt bL bY dx dO gz bE cW dY fC eY dj dS cU cR dG dH bH aZ cJ bG cL cK dQ dU dR cI bJ cV dP bF aL cP cz gy bq cF bI aW dq bm dy AV.undef bw bz dJ dM dD dI cE dX ea cq dW dV cN cQ List.getD_cons_zero List.getD_cons_succ List.getD_nil List.all_cons List.all_nil Bool.and_true Bool.true_and Bool.and_self Bool.not_true Bool.not_false Option.map_some Option.map_none Option.bind_some Option.bind_none List.length_cons List.length_nil List.take_succ_cons List.take_zero List.take_nil List.drop_succ_cons List.drop_zero List.drop_nil List.head?_cons List.map_cons List.map_nil List.getElem?_cons_zero List.getElem?_cons_succ List.cons_append List.nil_append List.append_nil List.length_map List.set_cons_zero List.set_cons_succ Nat.reduceMul eq_self Int.toNat_natCast Int.natCast_nonneg and_self true_and and_true decide_true decide_false Bool.false_eq_true Nat.zero_add Nat.add_zero List.contains_cons List.contains_nil Bool.or_false Bool.false_or beq_self_eq_true Nat.reduceBEq ne_eq not_true_eq_false not_false_eq_true Id.mk.injEq false_and and_false Nat.reduceLT Int.reduceLE Int.reduceLT Int.reduceToNat Int.reduceNeg Int.reduceAdd Nat.le_refl List.length_append beq_true beq_false Bool.not_eq_eq_eq_not or_false false_or dK aq au aH bf bt bZ aU bh aT bc cH bx
def uj (p:ar->Bool) (l:List ar):List ar:=l.filter fun x=> !p x
theorem Q5 {p:ar->Bool} {l:List ar} {j:Nat} (hj:j<l.length):uj p (l.take (j+1))=uj p (l.take j)++if p l[j]=true then[]else[l[j]]:=by
 unfold uj
 rw[List.take_succ_eq_append_getElem hj,List.filter_append]
 congr 1
 cases h:p l[j]<;>simp[h]
theorem Q4 {p:ar->Bool} {l:List ar} (h:∀b∈l,p b=false):uj p l=l:=by
 unfold uj
 rw[List.filter_eq_self]
 intro b hb
 rw[h b hb];rfl
structure DlP (p:ar->Bool) (bs:List ar) (j:Nat) (R:List ar):Prop where
 len:R.length=bs.length
 pre:R.take (uj p (bs.take j)).length=uj p (bs.take j)
 post:∀x,j<=x->R[x]? =bs[x]?
 lt:(uj p (bs.take j)).length<j
theorem Aa (s:aM) (l:List ae) (hn:gJ s.aC) (hm:tU s) (hl:l.length<=1048576):aw Tryz.prog 82 [.agg (aE s),.agg [.sl (l.map ah)]] (.int .i64 (if uC s l then 0 else 1)):=by
 refine aw.body eK rfl fun lf n0=>?_
 clear lf
 have h1:=xZ PQ s hn hm.s.g hm.s.t hm.s.s hm.a
 have h2:=nV s.aC l hn hm.s.g hm.s.t hm.s.s hl
 cases b1:nO s
 ·rw[b1]at h1
  rw[aE]at h1 ⊢
  (repeat(first|((repeat(revert hN;revert N;apply Pn.out));refine wk @Nat.zero_add ?_;(repeat(refine Pn.mk ?_;intro N hN)))|((try apply Or.inl);refine⟨_,aw.x (h1) (sd @Nat.zero_add),?_⟩;refine hN _ _ ?_;clear hN N)))
  exact db (b:=1) (.inl rfl) (sd @Nat.zero_add) (by simp[uC,b1])
 have eC:rL s.aC=true:=mY.2 (xG.1 b1).set
 rw[b1]at h1
 rw[eC,Bool.true_and]at h2
 rw[aE]at h1 ⊢
 rw[aa]at h2
 cases b2:qe s.aC l
 ·rw[b2]at h2
  (repeat(first|((repeat(revert hN;revert N;apply Pn.out));refine wk @Nat.zero_add ?_;(repeat(refine Pn.mk ?_;intro N hN)))|((try apply Or.inl);refine⟨_,aw.x (h1) (sd @Nat.zero_add),?_⟩;refine hN _ _ ?_;clear hN N)|((try apply Or.inl);refine⟨_,aw.x (h2) (sd @Nat.zero_add),?_⟩;refine hN _ _ ?_;clear hN N)))
  exact db (b:=1) (.inl rfl) (sd @Nat.zero_add) (by simp[uC,b1,b2])
 ·rw[b2]at h2
  (repeat(first|((repeat(revert hN;revert N;apply Pn.out));refine wk @Nat.zero_add ?_;(repeat(refine Pn.mk ?_;intro N hN)))|((try apply Or.inl);refine⟨_,aw.x (h1) (sd @Nat.zero_add),?_⟩;refine hN _ _ ?_;clear hN N)|((try apply Or.inl);refine⟨_,aw.x (h2) (sd @Nat.zero_add),?_⟩;refine hN _ _ ?_;clear hN N)))
  exact db (b:=0) (.inl rfl) (sd @Nat.zero_add) (by simp[uC,b1,b2])
noncomputable def rW (s:aM) (l:List ae):Int:=if uC s l then 0 else 1
theorem vQ {s:aM} {l:List ae}:rW s l=0↔DQ s/\kz s.aC l:=by
 unfold rW
 rw[<-Jr]
 cases uC s l<;>simp
theorem Ar (s:aM) (hP:DQ s) (l:List ae) (hA:kz s.aC l):aw Tryz.prog 78 [.dp (aE s),.dp [.sl (l.map ah)]] (.sl ((rY (eF s l) s.aC.aj.length (iQ l)).map ah)):=by
 refine aw.body eK rfl fun lf n0=>?_
 clear lf
 have hS:=hP.set
 have ER:=hS.xK
 have Cf:=hA.1.zW
 have hlen:=lu l l.length
 have rm:eQ l l.length=iQ l:=rfl
 rw[rm]at hlen
 have hnp:∀x∈iQ l,Bt l x:=fun x hx=>(zg l x).1 hx
 have hnv:=fun σ=>H7 l hA.1 σ
 clear rm
 generalize iQ l=ps at hlen hnp hnv ⊢
 (try((repeat(revert hN;revert N;apply Pn.out));refine wk @Nat.zero_add ?_;(repeat(refine Pn.mk ?_;intro N hN))))
 refine .inr (aJ _ _ _ _ _ (fun r σ1 hq=>?_) (hnv _))
 obtain⟨g1,x1⟩:=σ1
 obtain⟨o0,rfl,q1,q2,q3,q4,q5⟩:=hq
 (try dsimp only at q1 q2 q3 q4 q5)
 have q6:=q5 ⟨78001000,n0+1⟩ (by(try dsimp only);omega) trivial
 simp only[go_sem, ↓reduceIte,Nat.reduceEqDiff,Nat.reduceAdd,Nat.reduceSub,Nat.reduceLeDiff,reduceCtorEq]at q6
 have on:n0+2<=o0.br:=by rcases q4 with h|h;omega;exact absurd trivial h
 clear q4 q5
 refine hN _ _ ?_
 clear hN N
 (try((repeat(revert hN;revert N;apply Pn.out));refine wk (tw @q1 @q6) ?_;(repeat(refine Pn.mk ?_;intro N hN))))
 refine aX (fun n env st=>∃k:Nat,n=(ps.length)-k/\k<=(ps.length)/\env 7=.int .i64 (k:Int)/\st.get o0=some ⟨true,2,ps.map ai⟩/\(∃o:Id,env 5=.own o 0 (rY (eF s l) s.aC.aj.length (ps.take k)).length/\st.get o=some ⟨true,3,(rY (eF s l) s.aC.aj.length (ps.take k)).map ah⟩/\o.br<st.next/\o0.br<st.next/\o≠o0)) (ps.length) ⟨0,by omega,by omega,sl (tw @q1 @q6),sl (tw @q1 @q6),by(try dsimp only);exact⟨⟨78001000,n0+1⟩,sl @Nat.zero_add,sl @q6,by(try dsimp only);omega,by omega,fun e=>by rw[<-e]at on;(try dsimp only at on);omega⟩⟩ ?_
 rintro n_a env_a st_a ⟨k,rfl,ale,a7,ag0,kC⟩ dC
 have a0:=dC 0 (by kernel_rfl);have a1:=dC 1 (by kernel_rfl);have a6:=dC 6 (by kernel_rfl)
 simp only[go_sem, ↓reduceIte,Nat.reduceEqDiff,Nat.reduceAdd,Nat.reduceSub,Nat.reduceLeDiff,reduceCtorEq,q1,q6]at a0 a1 a6
 clear dC
 obtain⟨o,a5,ao,Jq,OM,V1⟩:=kC
 have vo:=dr Jq
 have v0:=dr OM
 have I9:=eq_false V1
 have hoo2:=eq_false (fun e:o0=o=>V1 e.symm)
 have hB:(rY (eF s l) s.aC.aj.length (ps.take k)).length<=10000*160:=by
  have h2:=uS (eF s l) s.aC.aj.length (ps.take k)
  have h3:(ps.take k).length*s.aC.aj.length<=10000*160:=Nat.mul_le_mul (by rw[List.length_take];omega) ER
  omega
 by_cases hk:(k:Int)<(ps.length:Int)
 ·have cD:∀{e:Env} {gg:Rows} {nx:Nat},(e 7=.int .i64 (IntKind.i64.wrap ((k:Int)+1)))->(gg o0=some ⟨true,2,ps.map ai⟩)->(∃o:Id,e 5=.own o 0 (rY (eF s l) s.aC.aj.length (ps.take (k+1))).length/\gg o=some ⟨true,3,(rY (eF s l) s.aC.aj.length (ps.take (k+1))).map ah⟩/\o.br<nx/\o0.br<nx/\o≠o0)->∃m0,m0<(ps.length)-k/\∃k:Nat,m0=(ps.length)-k/\k<=(ps.length)/\e 7=.int .i64 (k:Int)/\gg o0=some ⟨true,2,ps.map ai⟩/\(∃o:Id,e 5=.own o 0 (rY (eF s l) s.aC.aj.length (ps.take k)).length/\gg o=some ⟨true,3,(rY (eF s l) s.aC.aj.length (ps.take k)).map ah⟩/\o.br<nx/\o0.br<nx/\o≠o0):=fun x1 x2 x3=>⟨_,by omega,k+1,rfl,by omega,(by rw[x1,az (by omega)]),x2,x3⟩
  have fm:k<ps.length:=by omega
  have eU:=ur fm
  have rl:=hnp _ (AL fm)
  obtain⟨hx,hy⟩:=tG rl.1
  have yg:=(NH s.aC hS l hA (jK ps k) hx hy s.aA).cut mixed (.ptr _ [.sl (s.cC.aj.map ah),.int .i64 s.aA] (.same _ (.same _ (.same _ .nil))))
  have hfu:kV (zI s.aC l s.aA) (jK ps k) s.aC.aj.length=iM s l (jK ps k):=yU (fun t=>(Mu rl hA t).symm) _
  rw[hfu]at yg
  have I4:=BE (B:=eF s l) (m:=s.aC.aj.length) fm
  have fJ:F0 (eF s l) (jK ps k) s.aC.aj.length=(iM s l (jK ps k)).map fun t=>(⟨jK ps k,t⟩:ae):=zK _ _ _
  rw[fJ,<-C3]at I4
  have Nq:(iM s l (jK ps k)).length<=160:=by
   have:=se (eF s l) (jK ps k) s.aC.aj.length
   unfold iM;omega
  have M9:(ps.map ai).length=ps.length:=by simp
  generalize jK ps k=q at yg I4 eU Nq
  generalize iM s l q=us at yg I4 Nq
  generalize rY (eF s l) s.aC.aj.length (ps.take k)=L at a5 ao hB I4
  rw[aa]at yg
  (repeat(first|((repeat(revert hN;revert N;apply Pn.out));refine wk (tw @a7 (tw @ag0 (tw @a0 (tw @a1 (tw @a6 (tw @hk (tw @eU (tw @v0 (tw @M9 (tw @aE.eq_1 @ai.eq_1)))))))))) ?_;(repeat(refine Pn.mk ?_;intro N hN)))|((try apply Or.inl);refine⟨_,aw.x (yg) (sd (tw @a7 (tw @ag0 (tw @a0 (tw @a1 (tw @a6 (tw @hk (tw @eU (tw @v0 (tw @M9 (tw @aE.eq_1 @ai.eq_1))))))))))),?_⟩;refine hN _ _ ?_;clear hN N)))
  refine aX (fun n env st=>∃j:Nat,n=(us.length)-j/\j<=(us.length)/\env 9=.int .i64 (j:Int)/\st.get o0=some ⟨true,2,ps.map ai⟩/\(∃o:Id,env 5=.own o 0 (L++jD q us j).length/\st.get o=some ⟨true,3,(L++jD q us j).map ah⟩/\o.br<st.next/\o0.br<st.next/\o≠o0)) (us.length) ⟨0,by omega,by omega,sl (tw @a7 (tw @ag0 (tw @a0 (tw @a1 @a6)))),sl (tw @a7 (tw @ag0 (tw @a0 (tw @a1 @a6)))),by(try dsimp only);exact⟨o,by rw[show jD q us 0=[]from rfl,List.append_nil];simp only[go_sem, ↓reduceIte,Nat.reduceEqDiff,Nat.reduceAdd,Nat.reduceSub,Nat.reduceLeDiff,reduceCtorEq,a5],by rw[show jD q us 0=[]from rfl,List.append_nil];simp only[go_sem, ↓reduceIte,Nat.reduceEqDiff,Nat.reduceAdd,Nat.reduceSub,Nat.reduceLeDiff,reduceCtorEq,ao,vo],by omega,by omega,V1⟩⟩ ?_
  rintro n_b env_b st_b ⟨j,rfl,ble,b9,bg0,bI0⟩ eX
  have b0:=eX 0 (by kernel_rfl);have b1:=eX 1 (by kernel_rfl);have b6:=eX 6 (by kernel_rfl);have b7:=eX 7 (by kernel_rfl);have b8:=eX 8 (by kernel_rfl)
  simp only[go_sem, ↓reduceIte,Nat.reduceEqDiff,Nat.reduceAdd,Nat.reduceSub,Nat.reduceLeDiff,reduceCtorEq,a7,ag0,a0,a1,a6]at b0 b1 b6 b7 b8
  clear eX
  obtain⟨u,b5,bu,buv,OP,V6⟩:=bI0
  have Dv:(L++jD q us j).length<=16777215:=by
   have:(jD q us j).length<=us.length:=by unfold jD;simp;omega
   rw[List.length_append];omega
  have vu:=dr buv
  have v0b:=dr OP
  have hou:=eq_false V6
  have TX:=eq_false (fun e:o0=u=>V6 e.symm)
  by_cases hj:(j:Int)<(us.length:Int)
  ·have fh:∀{e:Env} {gg:Rows} {nx:Nat},(e 9=.int .i64 (IntKind.i64.wrap ((j:Int)+1)))->(gg o0=some ⟨true,2,ps.map ai⟩)->(∃o:Id,e 5=.own o 0 (L++jD q us (j+1)).length/\gg o=some ⟨true,3,(L++jD q us (j+1)).map ah⟩/\o.br<nx/\o0.br<nx/\o≠o0)->∃m0,m0<(us.length)-j/\∃j:Nat,m0=(us.length)-j/\j<=(us.length)/\e 9=.int .i64 (j:Int)/\gg o0=some ⟨true,2,ps.map ai⟩/\(∃o:Id,e 5=.own o 0 (L++jD q us j).length/\gg o=some ⟨true,3,(L++jD q us j).map ah⟩/\o.br<nx/\o0.br<nx/\o≠o0):=fun x1 x2 x3=>⟨_,by omega,j+1,rfl,by omega,(by rw[x1,az (by omega)]),x2,x3⟩
   have gW:j<us.length:=by omega
   have uM:=zm (p:=q) gW
   have Ai:=GC gW
   have HD:L++jD q us (j+1)=(L++jD q us j)++[⟨q,us.getD j 0⟩]:=by rw[uM,List.append_assoc]
   generalize us.getD j 0=t at Ai HD
   generalize L++jD q us j=M at b5 bu Dv HD
   have rm:(M++[(⟨q,t⟩:ae)]).length=M.length+1:=by simp
   have qx:(M++[(⟨q,t⟩:ae)]).map ah=M.map ah++[[.int .i64 q.eM,.int .i64 q.eG,.int .i64 t]]:=by rw[List.map_append];rfl
   have gR:(M.map ah).length=M.length:=by simp
   have hmu:(us.map aQ).length=us.length:=by simp
   (try((repeat(revert hN;revert N;apply Pn.out));refine wk (tw @b9 (tw @bg0 (tw @b0 (tw @b1 (tw @b6 (tw @b7 (tw @b8 (tw @b5 (tw @bu (tw @hj (tw @hk (tw @Ai (tw @eU (tw @vu (tw @v0b (tw @hou (tw @TX (tw @M9 (tw @gR (tw @hmu (tw @Dv @ai.eq_1))))))))))))))))))))) ?_;(repeat(refine Pn.mk ?_;intro N hN))))
   refine fh ?_ ?_ (by(try dsimp only);exact⟨⟨78010011,st_b.next+1⟩,by rw[HD,rm];simp only[go_sem, ↓reduceIte,Nat.reduceEqDiff,Nat.reduceAdd,Nat.reduceSub,Nat.reduceLeDiff,reduceCtorEq]<;>rfl,by rw[HD,qx];simp only[go_sem, ↓reduceIte,Nat.reduceEqDiff,Nat.reduceAdd,Nat.reduceSub,Nat.reduceLeDiff,reduceCtorEq]<;>rfl,by(try dsimp only);omega,by(try dsimp only);omega,fun e=>by rw[<-e]at OP;(try dsimp only at OP);omega⟩)
   all_goals simp only[go_sem, ↓reduceIte,Nat.reduceEqDiff,Nat.reduceAdd,Nat.reduceSub,Nat.reduceLeDiff,reduceCtorEq,b9,bg0,b0,b1,b6,b7,b8,v0b,TX]
  ·have Xb:j=us.length:=by omega
   subst Xb
   (try((repeat(revert hN;revert N;apply Pn.out));refine wk (tw @b9 (tw @bg0 (tw @b0 (tw @b1 (tw @b6 (tw @b7 (tw @b8 @hj))))))) ?_;(repeat(refine Pn.mk ?_;intro N hN))))
   refine cD ?_ ?_ (by(try dsimp only);exact⟨u,by rw[I4];simp only[go_sem, ↓reduceIte,Nat.reduceEqDiff,Nat.reduceAdd,Nat.reduceSub,Nat.reduceLeDiff,reduceCtorEq,b5],by rw[I4];simp only[go_sem, ↓reduceIte,Nat.reduceEqDiff,Nat.reduceAdd,Nat.reduceSub,Nat.reduceLeDiff,reduceCtorEq,bu],by omega,by omega,V6⟩)
   all_goals simp only[go_sem, ↓reduceIte,Nat.reduceEqDiff,Nat.reduceAdd,Nat.reduceSub,Nat.reduceLeDiff,reduceCtorEq,a7,ag0,a0,a1,a6,b9,bg0,b0,b1,b6,b7,b8]
 ·have kM:k=ps.length:=by omega
  subst kM
  rw[List.take_length]at a5 ao
  (try((repeat(revert hN;revert N;apply Pn.out));refine wk (tw @a7 (tw @ag0 (tw @a0 (tw @a1 (tw @a6 (tw @hk @a5)))))) ?_;(repeat(refine Pn.mk ?_;intro N hN))))
  exact pr (.inl rfl) (vs:=[.own o 0 (rY (eF s l) s.aC.aj.length ps).length]) (sd @a5) (by
   simp only[fx]
   exact fA (e:=ah) (n:=5) ao rfl fun x=>S7 _ 4 x)
def InL (X:Id) (st:G3) (e7:AV) (g:Rows) (n:Nat):Prop:=∃o u:Id,g X=some ⟨true,1,[[.own o 0 st.2.length]]⟩/\g o=some ⟨true,3,st.2.map ah⟩/\e7=.own u 0 st.1.length/\g u=some ⟨true,3,st.1.map ah⟩/\o.br<u.br/\X.br<u.br/\u.br<n/\o≠X
end Go.Proofs.YtgoljkjaameagaaGreat.V

namespace Go.Proofs.YtgoljkjaameagaaGreat.V
open Go.RowKit Go.Shelf Go.Lib Go.Sort
instance:Inhabited ae:=⟨⟨⟨0,0⟩,0⟩⟩
variable {P:Program} {w:World} {D:Nat->Prop} {ι:Names}
end Go.Proofs.YtgoljkjaameagaaGreat.V

namespace Go.Proofs.YtgoljkjaameagaaGreat.V
open Go.RowKit
attribute [local irreducible] ek wpOps fK Call
attribute [local go_sem] aI fw eH fE fD dd upd cm K.av cG AV.cells AV.cell rowOf rowsOf part ld rowAt bL bY dx dO gz bE cW dY fC eY dj dS cU cR dG dH bH aZ cJ bG cL cK dQ dU dR cI bJ cV dP bF aL cP cz gy bq cF bI aW dq bm dy AV.undef bw bz dJ dM dD dI cE dX ea cq dW dV cN cQ List.getD_cons_zero List.getD_cons_succ List.getD_nil List.all_cons List.all_nil Bool.and_true Bool.true_and Bool.and_self Bool.not_true Bool.not_false Option.map_some Option.map_none Option.bind_some Option.bind_none List.length_cons List.length_nil List.take_succ_cons List.take_zero List.take_nil List.drop_succ_cons List.drop_zero List.drop_nil List.head?_cons List.map_cons List.map_nil List.getElem?_cons_zero List.getElem?_cons_succ List.cons_append List.nil_append List.append_nil List.length_map List.set_cons_zero List.set_cons_succ Nat.reduceMul eq_self Int.toNat_natCast Int.natCast_nonneg and_self true_and and_true decide_true decide_false Bool.false_eq_true Nat.zero_add Nat.add_zero List.contains_cons List.contains_nil Bool.or_false Bool.false_or beq_self_eq_true Nat.reduceBEq ne_eq not_true_eq_false not_false_eq_true Id.mk.injEq false_and and_false Nat.reduceLT Int.reduceLE Int.reduceLT Int.reduceToNat Int.reduceNeg Int.reduceAdd Nat.le_refl List.length_append beq_true beq_false Bool.not_eq_eq_eq_not or_false false_or dK aq au aH bf bt bZ aU bh aT bc cH bx
theorem Iv (q:ae):∀l:List ae,(l++[q]).Perm (ga l q)
 |[]=>List.Perm.refl _
 |x::l=>by
  have ih:=Iv q l
  rw[ga]
  split
  ·exact List.perm_append_comm (l₁:=x::l) (l₂:=[q])
  ·exact ih.cons x
structure SameT (s:aM) (S:G3):Prop where
 at_:∀q,gH (s.cC.aj++S.1) q=gH S.2 q
 perm:(s.cC.aj++S.1).Perm S.2
structure InR (σ:ay) (m:Nat) (c T O:Id) (s:aM) (l:List ae) (S:G3) (e7:AV) (g:Rows) (n:Nat):Prop where
 R4:oG g n c T O s (s.cC.aj++S.1)
 u:(S.1=[]/\e7=.cj)∨∃u:Id,e7=.own u 0 S.1.length/\g u=some ⟨true,3,S.1.map ah⟩/\m<=u.br/\u.br<n/\0<S.1.length
 lo:m<=n
 fr:∀x:Id,x.br<m->x≠T->x≠O->x≠c->g x=σ.get x
end Go.Proofs.YtgoljkjaameagaaGreat.V

namespace Go.Proofs.YtgoljkjaameagaaGreat.V
open Go.RowKit
theorem zL {B:ar->Int->Bool} {p:ar}:∀{t:Nat} {x:ae},x∈F0 B p t->∃k:Nat,k<t/\x=⟨p,k⟩/\B p k=true
 |0,x,h=>by simp[F0]at h
 |t+1,x,h=>by
  rw[F0]at h
  split at h
  ·rename_i hb
   rcases List.mem_append.1 h with h|h
   ·obtain⟨k,hk,h1⟩:=zL h
    exact⟨k,by omega,h1⟩
   ·exact⟨t,by omega,by simpa using h,hb⟩
  ·obtain⟨k,hk,h1⟩:=zL h
   exact⟨k,by omega,h1⟩
theorem Mw {B:ar->Int->Bool} {m:Nat} {ps:List ar} {x:ae} (h:x∈rY B m ps):x.bj∈ps/\∃k:Nat,k<m/\x.bQ=k/\B x.bj x.bQ=true:=by
 obtain⟨p,hp,hx⟩:=List.mem_flatMap.1 h
 obtain⟨k,hk,rfl,hb⟩:=zL hx
 exact⟨hp,k,hk,rfl,hb⟩
noncomputable def lv (s:aM) (l:List ae):List ae:=rY (eF s l) s.aC.aj.length (iQ l)
theorem K1 {s:aM} {l:List ae} {x:ae} (h:x∈lv s l):eW s.aC x.bQ=true/\eF s l x.bj x.bQ=true:=by
 obtain⟨_,k,hk,h2,h3⟩:=Mw h
 exact⟨by unfold eW;rw[h2];exact jy (by omega),h3⟩
theorem xc {s:aM} {l:List ae} (hS:iu s.aC) (hA:kz s.aC l):(lv s l).length<=320000:=by
 have h1:=uS (eF s l) s.aC.aj.length (iQ l)
 have h2:(iQ l).length<=l.length*4:=lu l l.length
 have h3:=hA.1.zW
 have h4:=hS.xK
 have h5:(iQ l).length*s.aC.aj.length<=2000*160:=Nat.mul_le_mul (by omega) h4
 unfold lv;omega
end Go.Proofs.YtgoljkjaameagaaGreat.V

namespace Go.Proofs.YtgoljkjaameagaaGreat.V
open Go.RowKit
attribute [local irreducible] ek wpOps fK Call
attribute [local go_sem] aI fw eH fE fD dd upd cm K.av cG AV.cells AV.cell rowOf rowsOf part ld rowAt bL bY dx dO gz bE cW dY fC eY dj dS cU cR dG dH bH aZ cJ bG cL cK dQ dU dR cI bJ cV dP bF aL cP cz gy bq cF bI aW dq bm dy AV.undef bw bz dJ dM dD dI cE dX ea cq dW dV cN cQ List.getD_cons_zero List.getD_cons_succ List.getD_nil List.all_cons List.all_nil Bool.and_true Bool.true_and Bool.and_self Bool.not_true Bool.not_false Option.map_some Option.map_none Option.bind_some Option.bind_none List.length_cons List.length_nil List.take_succ_cons List.take_zero List.take_nil List.drop_succ_cons List.drop_zero List.drop_nil List.head?_cons List.map_cons List.map_nil List.getElem?_cons_zero List.getElem?_cons_succ List.cons_append List.nil_append List.append_nil List.length_map List.set_cons_zero List.set_cons_succ Nat.reduceMul eq_self Int.toNat_natCast Int.natCast_nonneg and_self true_and and_true decide_true decide_false Bool.false_eq_true Nat.zero_add Nat.add_zero List.contains_cons List.contains_nil Bool.or_false Bool.false_or beq_self_eq_true Nat.reduceBEq ne_eq not_true_eq_false not_false_eq_true Id.mk.injEq false_and and_false Nat.reduceLT Int.reduceLE Int.reduceLT Int.reduceToNat Int.reduceNeg Int.reduceAdd Nat.le_refl List.length_append beq_true beq_false Bool.not_eq_eq_eq_not or_false false_or dK aq au aH bf bt bZ aU bh aT bc cH bx
def AtK (n:Nat) (l:List ae) (x:ae) (r:AV) (σ':ay):Prop:=(500<=l.length/\r=.iA [.agg [.cj],.int .i64 4])∨(l.length<500/\∃o:Id,r=.iA [.agg [.own o 0 (ga l x).length],.int .i64 0]/\σ'.get o=some ⟨true,3,(ga l x).map ah⟩/\n<=o.br/\o.br<σ'.next)
theorem CJ (l:List ae) (hl:l.length<=1048576) (x:ae) (n0:Nat):Call Tryz.prog 91 [.dp [.sl (l.map ah)],.agg (ah x)] ⟨fun _=>none,n0⟩ (AtK n0 l x):=by
 refine e6 eK rfl fun lf=>?_
 clear lf
 by_cases h5:500<=l.length
 ·have hd:((500:Nat):Int)<=(l.length:Int):=by omega
  have mM:(500:Int)<=(l.length:Int):=by omega
  (try((repeat(revert hN;revert N;apply Pn.out));refine wk (tw @ah.eq_1 (tw @hd @mM)) ?_;(repeat(refine Pn.mk ?_;intro N hN))))
  exact fe (.inl rfl) (vs:=[.agg [.cj],.int .i64 4]) (sd @Nat.zero_add) (.inl ⟨h5,rfl⟩)
 ·have mM:¬(500:Int)<=(l.length:Int):=by omega
  (try((repeat(revert hN;revert N;apply Pn.out));refine wk (tw @ah.eq_1 @mM) ?_;(repeat(refine Pn.mk ?_;intro N hN))))
  refine .inr (aJ _ _ _ _ _ (fun r σ1 hq=>?_) (SC.val (fun n=>KE l hl x.bj x.bQ n) (by simp only[aq,au,aT,bh,aH,Option.map_some];rfl)))
  obtain⟨⟨o,rfl,q1,q2,q3⟩,hK⟩:=hq
  obtain⟨g1,x1⟩:=σ1
  (try dsimp only at q1 q2 q3 hK)
  have hx:(⟨x.bj,x.bQ⟩:ae)=x:=rfl
  rw[hx]at q1 ⊢
  have k4:=hK.2 ⟨91000001,n0⟩ (by(try dsimp only);omega)
  simp only[go_sem, ↓reduceIte,Nat.reduceEqDiff,Nat.reduceAdd,Nat.reduceSub,Nat.reduceLeDiff,reduceCtorEq]at k4
  have vo:=da (a:=⟨91000001,n0⟩) (b:=o) (by(try dsimp only at q2);(try dsimp only);omega)
  refine hN _ _ ?_
  clear hN N
  (try((repeat(revert hN;revert N;apply Pn.out));refine wk @k4 ?_;(repeat(refine Pn.mk ?_;intro N hN))))
  exact fe (.inl rfl) (vs:=[.agg [.own o 0 (ga l x).length],.int .i64 0]) (sd @Nat.zero_add) (.inr ⟨by omega,o,rfl,sd (tw @vo @q1),by(try dsimp only at q2);omega,by(try dsimp only);omega⟩)
theorem dE.Wk {α:Type} {R:vI α} {g:Rows} {e:α->List AV} {n:Nat} {rows:List (List AV)} {L:List α} {ids:List Id} (h:dE R g rows L ids) (hz:∀{cs x ids},R g cs x ids->de g n cs=some (e x)):ee g n rows=some (L.map e):=by
 induction h with
 |nil=>rw[ee];rfl
 |cons h1 _ ih=>rw[ee,hz h1,ih];rfl
theorem eV.Wk {α:Type} {R:vI α} {z n:Nat} {e:α->List AV} {g:Rows} {a:AV} {xs:List α} {ids:List Id} (h:eV R z g a xs ids) (hz:∀{cs x ids},R g cs x ids->de g n cs=some (e x)):V.fz g (n+1) a=some (.sl (xs.map e)):=by
 obtain⟨o,rows,is,rfl,h2,h3,rfl⟩:=h
 rw[gE]
 simp only[h2,if_true]
 rw[if_pos (by rw[h3.len];omega),List.drop_zero,List.take_of_length_le (by rw[h3.len];exact Nat.le_refl _),h3.Wk hz];rfl
def OutRd (lo n:Nat) (out:List (List ae)) (v:AV) (g:Rows) (y:Id):Prop:=∃ids,eV qK 1 g v out ids/\eE lo n ids/\y∉ids
structure SamP (ts l:List ae):Prop where
 at_:∀q,gH ts q=gH l q
 perm:ts.Perm l
def GatP (z:Nat) (lo n:Nat) (L:List ae) (v:AV) (g:Rows):Prop:=(L=[]/\v=.cj)∨∃u:Id,v=.own u 0 L.length/\g u=some ⟨true,3,L.map ah⟩/\lo<=u.br/\u.br<n/\0<L.length/\u.site=z
def OutRG (lo n:Nat) (out:List (List ae)) (v:AV) (g:Rows):Prop:=(out=[]/\v=.cj)∨(0<out.length/\∃ids,eV qK 1 g v out ids/\eE lo n ids)
section
variable {α:Type} {R:vI α} {z:Nat}
theorem eV.push (ok:rQ R z) {lo m n':Nat} {L:List α} {o o':Id} {rows:List (List AV)} {is:List Id} {g g':Rows} {x:α} {cs:List AV} {ic:List Id} (hR:dE R g rows L is) (hN:eE lo m (o::is)) (hf:∀y:Id,lo<=y.br->y.br<m->y≠o->g' y=g y) (hx:R g' cs x ic) (Gq:eE m o'.br ic) (hm:m<=o'.br) (Bj:o'.br<n') (jQ:lo<=m) (hg:g' o'=some ⟨true,z,rows++[cs]⟩):
  ∃ids,eV R z g' (.own o' 0 (L++[x]).length) (L++[x]) ids/\eE lo n' ids:=by
 obtain⟨n1,n2⟩:=List.nodup_cons.1 hN.1
 have hb:=fun i (hi:i∈is)=>hN.2 i (by simp[hi])
 have MX:dE R g' rows L is:=hR.frame ok fun i hi=>hf i (hb i hi).1 (hb i hi).2 fun e=>n1 (e▸hi)
 refine⟨o'::(is++ic),⟨o',_,_,rfl,hg,MX.app (dE.one hx),rfl⟩,List.nodup_cons.2 ⟨fun h=>?_,List.nodup_append.2 ⟨n2,Gq.1,fun x hx y hy e=>?_⟩⟩,fun i hi=>?_⟩
 ·rcases List.mem_append.1 h with h|h
  ·have:=hb _ h;omega
  ·have:=Gq.2 _ h;omega
 ·have h1:=hb _ hx;have h2:=Gq.2 _ hy;rw[e]at h1;omega
 ·rcases List.mem_cons.1 hi with rfl|hi
  ·omega
  ·rcases List.mem_append.1 hi with h|h
   ·have:=hb _ h;omega
   ·have:=Gq.2 _ h;omega
theorem eV.first {lo n':Nat} {o':Id} {g':Rows} {x:α} {cs:List AV} {ic:List Id} (hx:R g' cs x ic) (Gq:eE lo o'.br ic) (jQ:lo<=o'.br) (Bj:o'.br<n') (hg:g' o'=some ⟨true,z,[cs]⟩):
  ∃ids,eV R z g' (.own o' 0 [x].length) [x] ids/\eE lo n' ids:=
 ⟨o'::ic,⟨o',_,_,rfl,hg,dE.one hx,rfl⟩,List.nodup_cons.2 ⟨fun h=>by have:=Gq.2 _ h;omega,Gq.1⟩,fun i hi=>by
  rcases List.mem_cons.1 hi with rfl|hi
  ·omega
  ·have:=Gq.2 _ hi;omega⟩
end
def s8 (l:List ae) (n:Int) (L:List ae):List jn:=L.map fun o=>⟨ga l o,1,n⟩
theorem xx {l L:List ae} {n:Int} {k:Nat} (h:k<L.length):s8 l n (L.take (k+1))=s8 l n (L.take k)++[⟨ga l (aY L k),1,n⟩]:=by
 unfold s8;rw[Dh h,List.map_append];rfl
theorem vp (l:List ae) (n:Int) (L:List ae):(s8 l n L).length=L.length:=by simp[s8]
noncomputable def Fu (s:aM) (l:List ae):List jn×Int:=if rW s l=0 then(if 0<(lv s l).length/\500<=l.length then([],4)else(s8 l (lv s l).length (lv s l),0))else([],rW s l)
theorem K7 {g:Rows} {cs:List AV} {x:jn} {ids:List Id} (n:Nat) (h:iH g cs x ids):de g (n+2) cs=some (fM x):=by
 obtain⟨i,rfl,h2,_⟩:=h
 have h3:V.fz g (n+2) (.own i 0 x.t.length)=some (.sl (x.t.map ah)):=gI (e:=ah) (sz:=3) h2 rfl fun y=>by simp[ah,aq,au,aH]
 simp only[aq,au,h3,aH,Option.map_some,fM]
theorem Hb {X:Id} {l:List ae} {σ:ay} (hl:l.length<=1048576) (x:ae) (hX:σ.get X=some ⟨true,1,[[.sl (l.map ah)]]⟩):
  Call Tryz.prog 91 [.ptr X 0 0,.agg (ah x)] σ (fun r σ'=>AtK σ.next l x r σ'/\Kept σ σ'):=by
 refine vH mixed (args':=[.dp [.sl (l.map ah)],.agg (ah x)]) (by
  have hp:V.fz (dK σ.get) 6 (.ptr X 0 0)=some (.dp [.sl (l.map ah)]):=wv (sz:=1) (rows:=[[.sl (l.map ah)]]) (by simp[dK,hX]) rfl (by simp only[List.drop_zero,aq,au,bZ,Option.map_some])
  simp only[aq,au,hp,Option.map_some,ah,bh,aH]) (aJ _ _ _ _ _ (fun r σ' hq=>?_) (s9 mixed (CJ l hl x σ.next)))
 obtain⟨hq,hn⟩:=hq
 rcases hq with⟨h5,rfl⟩|⟨h5,o2,rfl,h2,h3,h4⟩
 ·exact⟨[],rfl,fun i hi=>by(cases hi),.inl ⟨h5,rfl⟩,hn,fun j hj=>kY (g':=σ'.get) (List.not_mem_nil)⟩
 ·refine⟨[o2],rfl,fun i hi=>?_,.inr ⟨h5,o2,rfl,(pB (by simp)).trans h2,h3,h4⟩,hn,fun j hj=>kY fun hc=>?_⟩
  ·rw[List.mem_singleton.1 hi]
   exact⟨_,h2,rfl,fun cs dz a ha=>by
    obtain⟨y,_,rfl⟩:=List.mem_map.1 dz
    simp[ah]at ha
    rcases ha with rfl|rfl|rfl<;>rfl⟩
  ·rw[List.mem_singleton.1 hc]at hj;omega
theorem xY (s:aM) (l:List ae) (hn:gJ s.aC) (hg:s.aC.aB.length<=1048576) (ht:s.aC.aj.length<=1048576):k8 Tryz.prog 35 [.agg (aE s),.agg [.sl (l.map ah)]] (.iA [.sl ((Fu s l).1.map fM),.int .i64 (Fu s l).2]):=by
 have h1:aw Tryz.prog 90 [.dp (aE s),.dp [.sl (l.map ah)]] (.int .i64 (rW s l)):=E5 s l hn hg ht
 by_cases h0:rW s l=0
 ·obtain⟨hP,hA⟩:=vQ.1 h0
  have h2:aw Tryz.prog 78 [.dp (aE s),.dp [.sl (l.map ah)]] (.sl ((lv s l).map ah)):=Ar s hP l hA
  have hr:Fu s l=if 0<(lv s l).length/\500<=l.length then([],4)else(s8 l (lv s l).length (lv s l),0):=by rw[Fu,if_pos h0]
  rw[h0]at h1
  rw[hr]
  have Dv:=xc hP.set hA
  have Cf:=hA.1.zW
  generalize lv s l=L at h2 Dv ⊢
  have gR:(L.map ah).length=L.length:=by simp
  refine k8.body eK rfl fun lf σ=>?_
  clear lf
  obtain⟨g0,n0⟩:=σ
  rw[aE]at h1 h2 ⊢
  (repeat(first|((repeat(revert hN;revert N;apply Pn.out));refine wk @Nat.zero_add ?_;(repeat(refine Pn.mk ?_;intro N hN)))|((try apply Or.inl);refine⟨_,aw.x (h1) (sd @Nat.zero_add),?_⟩;refine hN _ _ ?_;clear hN N)|((try apply Or.inl);refine⟨_,aw.x (h2) (sd @Nat.zero_add),?_⟩;refine hN _ _ ?_;clear hN N)))
  refine aX (fun n env st=>∃k:Nat,n=(L.length)-k/\k<=(L.length)/\env 9=.int .i64 (k:Int)/\st.get ⟨35000001,n0⟩=some ⟨true,1,[[.sl (l.map ah)]]⟩/\(n0+4<st.next/\(0<k->l.length<500)/\∃ids,eV iH 3 st.get (env 8) (s8 l L.length (L.take k)) ids/\eE (n0+1) st.next ids)) (L.length) ⟨0,by omega,by omega,sl @gR,sl @gR,by(try dsimp only);exact⟨by omega,fun h=>by omega,[⟨35005000,n0+1+1+1+1⟩],⟨⟨35005000,n0+1+1+1+1⟩,[],[],by simp only[go_sem, ↓reduceIte,Nat.reduceEqDiff,Nat.reduceAdd,Nat.reduceSub,Nat.reduceLeDiff,reduceCtorEq,List.take_zero]<;>rfl,sl @Nat.zero_add,.nil,rfl⟩,⟨by simp,fun i hi=>by rw[List.mem_singleton.1 hi];(try dsimp only);omega⟩⟩⟩ ?_
  rintro n_b env_b st_b ⟨k,rfl,ble,b9,bg0,bI0⟩ eX
  have b3:=eX 3 (by kernel_rfl);have b7:=eX 7 (by kernel_rfl)
  simp only[go_sem, ↓reduceIte,Nat.reduceEqDiff,Nat.reduceAdd,Nat.reduceSub,Nat.reduceLeDiff,reduceCtorEq,gR]at b3 b7
  clear eX
  obtain⟨bn,V3,ids,⟨oo,rows,is,b8,I9,L3,rfl⟩,hNI⟩:=bI0
  have Nf:=hNI.2 oo (by simp)
  have woo:=dr Nf.2
  have wl:=dr (i:=⟨35000001,n0⟩) (n:=st_b.next) (by(try dsimp only);omega)
  have pP:=L3.len
  rw[vp,List.length_take]at pP
  have M6:=Nat.min_eq_left (show k<=L.length by omega)
  rw[M6]at pP
  have u9:(s8 l (L.length:Int) (L.take k)).length=k:=by rw[vp,List.length_take,M6]
  by_cases hk:(k:Int)<(L.length:Int)
  ·have fh:∀{e:Env} {gg:Rows} {nx:Nat},(e 9=.int .i64 (IntKind.i64.wrap ((k:Int)+1)))->(gg ⟨35000001,n0⟩=some ⟨true,1,[[.sl (l.map ah)]]⟩)->(n0+4<nx/\(0<(k+1)->l.length<500)/\∃ids,eV iH 3 gg (e 8) (s8 l L.length (L.take (k+1))) ids/\eE (n0+1) nx ids)->∃m0,m0<(L.length)-k/\∃k:Nat,m0=(L.length)-k/\k<=(L.length)/\e 9=.int .i64 (k:Int)/\gg ⟨35000001,n0⟩=some ⟨true,1,[[.sl (l.map ah)]]⟩/\(n0+4<nx/\(0<k->l.length<500)/\∃ids,eV iH 3 gg (e 8) (s8 l L.length (L.take k)) ids/\eE (n0+1) nx ids):=fun x1 x2 x3=>⟨_,by omega,k+1,rfl,by omega,(by rw[x1,az (by omega)]),x2,x3⟩
   have fm:k<L.length:=by omega
   have eU:=fU fm
   rw[ah]at eU
   have c3:env_b 3=.ptr ⟨35000001,n0⟩ 0 0:=b3
   (try((repeat(revert hN;revert N;apply Pn.out));refine wk (tw @b9 (tw @bg0 (tw @b3 (tw @b7 (tw @hk (tw @eU @gR)))))) ?_;(repeat(refine Pn.mk ?_;intro N hN))))
   refine .inr (aJ _ _ _ _ _ (fun r σ2 qm=>?_) (Hb (X:=⟨35000001,n0⟩) (l:=l) (by omega) (aY L k) bg0))
   obtain⟨yg,hK⟩:=qm
   obtain⟨g2,x2⟩:=σ2
   (try dsimp only at yg hK)
   have Kk:=hK.1
   (try dsimp only at Kk)
   have jl:=(hK.2 ⟨35000001,n0⟩ (by(try dsimp only);omega)).trans bg0
   have jo:=(hK.2 oo (by(try dsimp only);omega)).trans I9
   (try dsimp only at jl jo)
   have yl:=dr (i:=⟨35000001,n0⟩) (n:=x2) (by(try dsimp only);omega)
   have yo:=dr (i:=oo) (n:=x2) (by(try dsimp only at Kk);omega)
   refine hN _ _ ?_
   clear hN N
   rcases yg with⟨Wm,rfl⟩|⟨Wm,o3,rfl,p1,p2,p3⟩
   ·(try((repeat(revert hN;revert N;apply Pn.out));refine wk (tw @b9 (tw @bg0 (tw @b3 (tw @b7 (tw @jl @yl))))) ?_;(repeat(refine Pn.mk ?_;intro N hN))))
    exact yw (.inl rfl) (vs:=[.own ⟨35011000,x2+1+1⟩ 0 0,.int .i64 4]) (sd (tw @b9 (tw @bg0 (tw @b3 @b7)))) (by
     rw[if_pos ⟨by omega,Wm⟩]
     simp[fx,bx,aq,au,aH,gE,dK,bL,ee])
   ·(try dsimp only at p1 p2 p3)
    have y3:=dr p3
    have oX:=da (a:=oo) (b:=o3) (by omega)
    have Kt:rows.length=k:=by omega
    have lo:=da (a:=⟨35000001,n0⟩) (b:=oo) (by(try dsimp only);omega)
    have pc:k<=16777215:=by omega
    (try((repeat(revert hN;revert N;apply Pn.out));refine wk (tw @b9 (tw @bg0 (tw @b3 (tw @b7 (tw @hk (tw @b8 (tw @u9 (tw @jl (tw @jo (tw @yl (tw @yo (tw @gR (tw @Kt @pc))))))))))))) ?_;(repeat(refine Pn.mk ?_;intro N hN))))
    have lR:=xx (l:=l) (n:=L.length) fm
    have Xf:(s8 l L.length (L.take k)++[(⟨ga l (aY L k),1,L.length⟩:jn)]).length=k+1:=by rw[List.length_append,u9];rfl
    refine fh ?_ ?_ (by(try dsimp only);exact⟨by omega,fun _=>Wm,by
     rw[lR]
     simp only[go_sem, ↓reduceIte,Nat.reduceEqDiff,Nat.reduceAdd,Nat.reduceSub,Nat.reduceLeDiff,reduceCtorEq]
     rw[<-Xf]
     exact eV.push xe (lo:=n0+1) (m:=st_b.next) (x:=⟨ga l (aY L k),1,L.length⟩) (cs:=[.own o3 0 (ga l (aY L k)).length,.int .i64 1,.int .i64 L.length]) (ic:=[o3]) L3 hNI (fun y h1 h2 h3=>by
      have e1:=eq_false h3
      have e2:=dr (i:=y) (n:=x2) (by(try dsimp only at Kk);omega)
      simp only[go_sem, ↓reduceIte,Nat.reduceEqDiff,Nat.reduceAdd,Nat.reduceSub,Nat.reduceLeDiff,reduceCtorEq,e1,e2]
      exact hK.2 y (by(try dsimp only);omega)) ⟨o3,rfl,sd (tw @oX (tw @y3 @p1)),rfl⟩ ⟨by simp,fun i hi=>by rw[List.mem_singleton.1 hi];(try dsimp only);omega⟩ (by(try dsimp only);omega) (by(try dsimp only);omega) (by omega) (sd @Nat.zero_add)⟩)
    all_goals simp only[go_sem, ↓reduceIte,Nat.reduceEqDiff,Nat.reduceAdd,Nat.reduceSub,Nat.reduceLeDiff,reduceCtorEq,b9,bg0,b3,b7,jl,yl,lo]
  ·have kM:k=L.length:=by omega
   subst kM
   rw[List.take_length]at b8 L3
   have kH:¬(0<L.length/\500<=l.length):=fun h=>by have:=V3 h.1;omega
   (try((repeat(revert hN;revert N;apply Pn.out));refine wk (tw @b9 (tw @bg0 (tw @b3 (tw @b7 (tw @hk (tw @gR @b8)))))) ?_;(repeat(refine Pn.mk ?_;intro N hN))))
   exact yw (.inl rfl) (vs:=[.own oo 0 (s8 l L.length L).length,.int .i64 0]) (sd @b8) (by
    have hz:V.fz st_b.get 5 (.own oo 0 (s8 l L.length L).length)=some (.sl ((s8 l L.length L).map fM)):=eV.Wk (R:=iH) (e:=fM) (n:=4) (xs:=s8 l L.length L) (ids:=oo::is) ⟨oo,rows,is,rfl,I9,L3,rfl⟩ fun h=>K7 2 h
    rw[if_neg kH]
    simp only[fx,bx,aq,au,aH,hz,Option.map_some])
 ·have hd:decide (rW s l=0)=false:=decide_eq_false h0
  have hr:Fu s l=([],rW s l):=by rw[Fu,if_neg h0]
  rw[hr]
  refine k8.body eK rfl fun lf σ=>?_
  clear lf
  rw[aE]at h1 ⊢
  (repeat(first|((repeat(revert hN;revert N;apply Pn.out));refine wk @hd ?_;(repeat(refine Pn.mk ?_;intro N hN)))|((try apply Or.inl);refine⟨_,aw.x (h1) (sd @hd),?_⟩;refine hN _ _ ?_;clear hN N)))
  exact yw (.inl rfl) (vs:=[.own ⟨35003000,σ.next+1+1+1⟩ 0 0,.int .i64 (rW s l)]) (sd @Nat.zero_add) (by simp[fx,bx,aq,au,aH,gE,dK,bL,ee])
end Go.Proofs.YtgoljkjaameagaaGreat.V

namespace Go.Proofs.YtgoljkjaameagaaGreat
open Go.RowKit Go.Lib
variable {P:Program}
theorem nK (w:World) (dT sT ty elem:TypeId) (b o yd JI:Nat) (a:Addr) (oD AO k:Nat) (cs:List Value)
  (hu:P.underlying dT=some (.slice elem)) (hs:(P.info? elem).map (·.size)=some k) (hn:cs.length=Nat.min oD yd*k)
  (HO:∀j v,cs[j]? =some v->w.cell? (a.add j)=some v) (hc:∀j,j<cs.length->(w.cell? ⟨b,o+j,none⟩).isSome=true) (hf:∀j,j<cs.length->w.frozen? ⟨b,o+j,none⟩=false) (h1:∀v∈cs,v.oneCell'=true):
  (Builtin.copy_ #[dT,sT] ty #[.slice (some ⟨b,o,none⟩) yd JI,.slice (some a) oD AO]).run P w=.ok (goInt (Nat.min oD yd)) (w.setCells b o cs):=by
 have hl:=run_loadCells_list (P:=P) w a cs HO
 have eu:=run_storeCells_cells (P:=P) b o cs 0 w (by simpa using hc) (by simpa using hf) h1
 cases hq:P.info? elem with
 |none=>simp[hq]at hs
 |some i=>
  have hi:i.size=k:=by simpa[hq]using hs
  simp[Builtin.copy_,run_underlying hu,Builtin.lenOf,Builtin.firstCells,sizeOf,typeInfo,hq,hi,<-hn,hl,eu]
theorem og (w:World) {ops:Array Oper} {rest:List Oper} {o:Oper} {a:Act} {Q:Exit->Act->World->Prop} (rO:o.guard=none) (d s:Operand) (t t':TypeId)
  (ho:o.op=.call {callee:=.builtin .copy,args:= #[d,s],argTypes:= #[t,t']}) (v u:Value) (hd:a.eval d=v) (hs:a.eval s=u) {v':Value} {w':World}
  (hr:(Builtin.copy_ #[t,t'] o.type #[v,u]).run P w=.ok v' w') (h:wpList P ops Q rest (a.put o.dst v') w'):wpList P ops Q (o::rest) a w:=
 wpList_plain rO fun K hK=>by
  unfold Oper.wp execOp
  simp only[ho,resolve,invoke,builtin,Sem.run_bind,Sem.run_pure,Result.andThen_ok,List.map_toArray,List.map_cons,List.map_nil,hd,hs,hr]
  exact hK _ _ h
theorem qG {ops:Array Oper} {o:Oper} {a:Act} {w:World} {K:Act->World->Prop} {Q:Exit->Act->World->Prop} {E:Prop}
  (hg:o.guard=none) (d x:Operand) (dT sT:TypeId) (ei:o.op=Op.call {callee:=Callee.builtin Builtin.copy,args:= #[d,x],argTypes:= #[dT,sT]})
  (v u:Value) (hd:a.eval d=v) (hx:a.eval x=u) {v':Value} {w':World} (hr:(Builtin.copy_ #[dT,sT] o.type #[v,u]).run P w=.ok v' w') (hK:K (a.put o.dst v') w'):
  if Region.wanted o (yielded ops a.tmps)=true then Oper.wp P o a w K Q else E:=by
 have hw:Region.wanted o (yielded ops a.tmps)=true:=by simp[Region.wanted,hg]
 rw[if_pos hw]
 unfold Oper.wp
 simp[execOp,ei,resolve,invoke,builtin,hd,hx,hr,Result.andThen]
 exact hK
theorem wN (b:Nat) (vs:List Value) (o:Nat) (w:World) (h:∀j,j<vs.length->(w.cell? ⟨b,o+j,none⟩).isSome=true) (k:Nat) (hk:(w.cell? ⟨b,k,none⟩).isSome=true):((w.setCells b o vs).cell? ⟨b,k,none⟩).isSome=true:=by
 by_cases fI:o<=k/\k<o+vs.length
 ·have:=World.cell?_setCells_in b vs o w h (k-o) (by omega)
  rw[show o+(k-o)=k by omega]at this
  rw[this];rfl
 ·rw[World.cell?_setCells_out b vs o w ⟨b,k,none⟩ (fun _ _=>by show k<o∨o+vs.length<=k;omega)]
  exact hk
theorem Cz (b n c i vb vc:Nat) (cs vs:List Value) (w:World) (hi:i<n) (eR:n+1<=c) (hc63:c<=9223372036854775807) (HQ:vb≠b)
  (mi:cs.length=n*3) (oz:vs.length=3)
  (dz:∀j v,cs[j]? =some v->w.cell? ⟨b,j,none⟩=some v) (Kw:∀j,j<(n+1)*3->(w.cell? ⟨b,j,none⟩).isSome=true) (Ah:∀j,w.frozen? ⟨b,j,none⟩=false)
  (Gv:∀j v,vs[j]? =some v->w.cell? ⟨vb,j,none⟩=some v) (Ta:∀v∈cs,v.oneCell'=true) (Wl:∀v∈vs,v.oneCell'=true)
  (tA tB:TypeId) (kA kB:Nat) (hsa:w.shape? vb=some (tA,kA)) (hsb:w.shape? b=some (tB,kB)) (Vm:kB≠0) (HJ:w.frozen? ⟨vb,0,none⟩=false) (TA:w.frozen? ⟨vb,kA,none⟩=false):
  Calls Tryz.prog 165 #[.slice (some ⟨b,0,none⟩) n c,.int .i64 i,.slice (some ⟨vb,0,none⟩) 1 vc] w fun e w'=>
   e=.returned (.slice (some ⟨b,0,none⟩) (n+1) c)/\w'=(w.drew.setCells b ((i+1)*3) (cs.drop (i*3))).setCells b (i*3) vs:=by
 have hu:=Tryz.underlying40
 have fo:(Tryz.prog.info? 171).map (·.size)=some 3:=by kernel_rfl
 have kR:¬((i:Int)=(n:Int)):=by omega
 have pO:∀o lb cb,(callFunc 235 #[.slice (some ⟨vb,0,none⟩) 1 vc,.slice (some ⟨b,o,none⟩) lb cb]).run Tryz.prog w=.ok (.value (.bool false)) w:=fun o lb cb=>by
  rw[run_callFunc_extern Tryz.func235 (by kernel_rfl) (by kernel_rfl) (by kernel_rfl) (e:=Extern.SlicesOverlaps.overlaps #[40,40] #[4]) (by kernel_rfl),
   Lib.run_overlaps_apart w 40 4 171 hu 3 Tryz.sizeOf171 ⟨vb,0,none⟩ ⟨b,o,none⟩ 1 vc lb cb HQ tA tB kA kB hsa hsb Vm HJ TA]
  rfl
 have l7:IntKind.i64.wrap ((i:Int)+1)=(i:Int)+1:=by rw[IntKind.wrap_i64];omega
 have Gk:(0:Int)<=(i:Int)+1:=by omega
 have QW:((i:Int)+1).toNat=i+1:=by omega
 have fI:i<=n:=by omega
 have Bg:¬(c=i+1):=by omega
 have WN:(i:Int)<=(n:Int)+1:=by omega
 have hb4:¬(c=i):=by omega
 have I5:(cs.drop (i*3)).length=(n-i)*3:=by rw[List.length_drop,mi,<-Nat.sub_mul]
 have TK:Nat.min (n+1-i) (n-i)=n-i:=by simp only[Nat.min_def];split<;>omega
 have Gr:Nat.min 1 (n+1-i)=1:=by simp only[Nat.min_def];split<;>omega
 have Ts:∀ty dc sc,(Builtin.copy_ #[40,40] ty #[.slice (some ⟨b,(i+1)*3,none⟩) (n-i) dc,.slice (some ⟨b,i*3,none⟩) (n+1-i) sc]).run Tryz.prog w.drew=.ok (goInt (n-i:Nat)) (w.drew.setCells b ((i+1)*3) (cs.drop (i*3))):=fun ty dc sc=>by
  have h:=nK (P:=Tryz.prog) w.drew 40 40 ty 171 b ((i+1)*3) (n-i) dc ⟨b,i*3,none⟩ (n+1-i) sc 3 (cs.drop (i*3)) hu fo (by rw[I5,TK])
   (fun j v hj=>by rw[Addr.add_lit];exact dz (i*3+j) v (by rwa [List.getElem?_drop]at hj))
   (fun j hj=>Kw ((i+1)*3+j) (by rw[I5]at hj;omega)) (fun j hj=>Ah _) (fun v hv=>Ta v (List.mem_of_mem_drop hv))
  rw[TK]at h;exact h
 obtain⟨W1,I3⟩:∃W1,W1=w.drew.setCells b ((i+1)*3) (cs.drop (i*3)):=⟨_,rfl⟩
 have XC:∀k,k<(n+1)*3->(W1.cell? ⟨b,k,none⟩).isSome=true:=fun k hk=>by
  rw[I3]
  exact wN b _ _ w.drew (fun j hj=>Kw ((i+1)*3+j) (by rw[I5]at hj;omega)) _ (Kw k hk)
 have WR:∀(W:World),(∀x,W.cell? x=W1.cell? x)->(∀x,W.frozen? x=W1.frozen? x)->∀ty dc,(Builtin.copy_ #[40,40] ty #[.slice (some ⟨b,i*3,none⟩) (n+1-i) dc,.slice (some ⟨vb,0,none⟩) 1 vc]).run Tryz.prog W=.ok (goInt (1:Nat)) (W.setCells b (i*3) vs):=fun W OY Tm ty dc=>by
  have h:=nK (P:=Tryz.prog) W 40 40 ty 171 b (i*3) (n+1-i) dc ⟨vb,0,none⟩ 1 vc 3 vs hu fo (by rw[oz,Gr])
   (fun j v hj=>by
    rw[Addr.add_lit,OY,I3,World.cell?_setCells_out b _ _ _ _ (fun h _=>absurd h HQ),Nat.zero_add]
    exact Gv j v hj)
   (fun j hj=>by rw[OY];exact XC _ (by omega)) (fun j hj=>by rw[Tm,I3,World.frozen?_setCells];exact Ah _) Wl
  rw[Gr]at h;exact h
 rw[<-I3]at Ts ⊢
 have mixed:Tryz.prog.follows .mixedOrders=true:=by kernel_rfl
 go_enter Tryz.func165,Tryz.ntmps165
 go_wp2_with (simp only[pO])
 go_region_law_o (refine qG rfl _ _ 40 40 rfl _ _ (by simp[Act.eval,Act.put]) (by simp[Act.eval,Act.put]) (Ts _ _ _) ?_)
 go_wp2_with (at_builtin;refine og _ rfl _ _ 40 40 rfl _ _ rfl rfl (WR _ (fun _=>rfl) (fun _=>rfl) _ _) ?_)
 go_ret
 exact⟨rfl,by rw[I3]⟩
theorem sD:(Tryz.prog.info? 171).map (fun i=>(i.zero,i.size,i.bytes))=some (some (.agg #[.int .i64 0,.int .i64 0,.int .i64 0]),3,24):=by kernel_rfl
theorem EY (b n c i vb vc:Nat) (cs vs:List Value) (w:World) (hi:i<n) (Xo:n<=c) (eR:c<n+1) (hbig:n<=1000000)
  (mi:cs.length=n*3) (oz:vs.length=3)
  (dz:∀j v,cs[j]? =some v->w.cell? ⟨b,j,none⟩=some v)
  (Gv:∀j v,vs[j]? =some v->w.cell? ⟨vb,j,none⟩=some v) (Ta:∀v∈cs,v.oneCell'=true) (Wl:∀v∈vs,v.oneCell'=true):
  Calls Tryz.prog 165 #[.slice (some ⟨b,0,none⟩) n c,.int .i64 i,.slice (some ⟨vb,0,none⟩) 1 vc] w fun e w'=>
   ∃G vN,n+1<=G/\G<=maxLen/\vN.size=G*3/\(∀j v,cs[j]? =some v->j<i*3->vN[j]? =some v)/\
   e=.returned (.slice (some ⟨w.heap.size,0,none⟩) (n+1) G)/\
   w'=(((w.alloc (.cells vN 171)).drew.setCells w.heap.size (i*3) vs).drew).setCells w.heap.size ((i+1)*3) (cs.drop (i*3)):=by
 have hu:=Tryz.underlying40
 obtain⟨i0,Bi,Bp,EV,VI⟩:=info_parts sD
 have fo:(Tryz.prog.info? 171).map (·.size)=some 3:=by rw[Bi];simp[EV]
 have kR:¬((i:Int)=(n:Int)):=by omega
 have hz3:(c:Int)<(n:Int)+1:=by omega
 have hbw:b<w.heap.size:=World.block_lt_of_cell? _ _ (dz 0 _ (List.getElem?_eq_getElem (by omega)))
 have Gw:vb<w.heap.size:=World.block_lt_of_cell? _ _ (Gv 0 _ (List.getElem?_eq_getElem (by omega)))
 have Sg:(n:Int)+1-(i:Int)=((n+1-i:Nat):Int):=by omega
 have u7:i+(n+1-i)=n+1:=by omega
 have hold:(Builtin.firstCells i0.size i (.slice (some ⟨b,0,none⟩) i c)).run Tryz.prog w.drew=.ok (cs.take (i*3)).toArray w.drew:=by
  rw[EV]
  exact run_firstCells_some w.drew 3 i ⟨b,0,none⟩ i c (cs.take (i*3)) (by rw[List.length_take];omega) (fun j v hj=>by
   rw[Addr.add_lit,Nat.zero_add]
   rw[List.getElem?_take]at hj
   split at hj
   ·exact dz j v hj
   ·cases hj)
 have Vy:∀ty,(Builtin.append_ #[40,3] ty #[.slice (some ⟨b,0,none⟩) i c,.int .i64 ((n:Int)+1-(i:Int))]).run Tryz.prog w=
   .ok (.slice (some ⟨w.heap.size,0,none⟩) (n+1) (grownCap w (n+1) c 171)) (w.drew.alloc (.cells ((cs.take (i*3)).toArray++Builtin.zeroCells (Value.agg #[.int .i64 0,.int .i64 0,.int .i64 0]).cells (n+1-i)++Builtin.zeroCells (Value.agg #[.int .i64 0,.int .i64 0,.int .i64 0]).cells (grownCap w (n+1) c 171-(n+1))) 171)):=fun ty=>by
  have h:=Lib.run_append_grow_zeros (P:=Tryz.prog) w 40 3 ty 171 i0 _ .i64 .i64 hu Tryz.underlying3 Bi Bp (some ⟨b,0,none⟩) i c (cs.take (i*3)) hold (n+1-i) (by omega) (by omega) (by omega) (by omega) (by rw[VI];omega) (by rw[VI,u7];exact growslice_fits eR (by omega))
  rw[u7]at h
  rw[Sg]
  exact h
 obtain⟨G,hG⟩:∃G,G=grownCap w (n+1) c 171:=⟨_,rfl⟩
 obtain⟨vN,MY⟩:∃vN:Array Value,vN=(cs.take (i*3)).toArray++Builtin.zeroCells (Value.agg #[.int .i64 0,.int .i64 0,.int .i64 0]).cells (n+1-i)++Builtin.zeroCells (Value.agg #[.int .i64 0,.int .i64 0,.int .i64 0]).cells (G-(n+1)):=⟨_,rfl⟩
 rw[<-hG]at Vy
 rw[<-MY]at Vy
 have Wv:n+1<=G:=by rw[hG];exact grownCap_ge w _ _ _
 have OU:G<=maxLen:=by rw[hG];exact grownCap_le_maxLen w (n+1) c 171 (by unfold maxLen;omega)
 have hG63:G<=9223372036854775807:=by have:=OU;unfold maxLen at this;omega
 have hRs:vN.size=G*3:=by
  rw[MY]
  simp[Builtin.zeroCells,Value.cells]
  omega
 have hRh:∀j v,cs[j]? =some v->j<i*3->vN[j]? =some v:=fun j v hj hl=>by
  have gT:=(List.getElem?_eq_some_iff.1 hj).1
  rw[MY,Array.getElem?_append_left (by simp;omega),Array.getElem?_append_left (by simp;omega)]
  simp only[List.getElem?_toArray,List.getElem?_take,if_pos hl];exact hj
 obtain⟨W1,I3⟩:∃W1,W1=w.drew.alloc (.cells vN 171):=⟨_,rfl⟩
 rw[<-I3]at Vy
 have hN:∀j,j<(n+1)*3->(W1.cell? ⟨w.heap.size,j,none⟩).isSome=true:=fun j hj=>by
  rw[I3,World.cell?_alloc_at (w:=w.drew) vN _ w.heap.size j rfl,Array.getElem?_eq_getElem (by rw[hRs];omega)];rfl
 have hNf:∀j,W1.frozen? ⟨w.heap.size,j,none⟩=false:=fun j=>by rw[I3];exact World.frozen?_alloc_at (w:=w.drew) vN _ w.heap.size j rfl
 have hOb:∀j v,w.cell? ⟨b,j,none⟩=some v->W1.cell? ⟨b,j,none⟩=some v:=fun j v h=>by rw[I3,World.cell?_alloc_past (w:=w.drew) _ b j hbw];exact h
 have R8:∀j v,w.cell? ⟨vb,j,none⟩=some v->W1.cell? ⟨vb,j,none⟩=some v:=fun j v h=>by rw[I3,World.cell?_alloc_past (w:=w.drew) _ vb j Gw];exact h
 have Gr:Nat.min 1 (n+1-i)=1:=by simp only[Nat.min_def];split<;>omega
 have TK:Nat.min (n-i) (n-i)=n-i:=by simp
 have WS:∀(W:World),(∀x,W.cell? x=W1.cell? x)->(∀x,W.frozen? x=W1.frozen? x)->∀ty dc,(Builtin.copy_ #[40,40] ty #[.slice (some ⟨w.heap.size,i*3,none⟩) (n+1-i) dc,.slice (some ⟨vb,0,none⟩) 1 vc]).run Tryz.prog W=.ok (goInt (1:Nat)) (W.setCells w.heap.size (i*3) vs):=fun W OY Tm ty dc=>by
  have h:=nK (P:=Tryz.prog) W 40 40 ty 171 w.heap.size (i*3) (n+1-i) dc ⟨vb,0,none⟩ 1 vc 3 vs hu fo (by rw[oz,Gr])
   (fun j v hj=>by rw[Addr.add_lit,OY,Nat.zero_add];exact R8 _ v (Gv j v hj))
   (fun j hj=>by rw[OY];exact hN _ (by omega)) (fun j hj=>by rw[Tm];exact hNf _) Wl
  rw[Gr]at h;exact h
 have hbN:b≠w.heap.size:=by omega
 have I5:(cs.drop (i*3)).length=(n-i)*3:=by rw[List.length_drop,mi,<-Nat.sub_mul]
 have WT:∀(W:World),(∀x,W.cell? x=(W1.setCells w.heap.size (i*3) vs).cell? x)->(∀x,W.frozen? x=(W1.setCells w.heap.size (i*3) vs).frozen? x)->∀ty dc sc,(Builtin.copy_ #[40,40] ty #[.slice (some ⟨w.heap.size,(i+1)*3,none⟩) (n-i) dc,.slice (some ⟨b,i*3,none⟩) (n-i) sc]).run Tryz.prog W=.ok (goInt (n-i:Nat)) (W.setCells w.heap.size ((i+1)*3) (cs.drop (i*3))):=fun W OY Tm ty dc sc=>by
  have h:=nK (P:=Tryz.prog) W 40 40 ty 171 w.heap.size ((i+1)*3) (n-i) dc ⟨b,i*3,none⟩ (n-i) sc 3 (cs.drop (i*3)) hu fo (by rw[I5,TK])
   (fun j v hj=>by
    rw[Addr.add_lit,OY,World.cell?_setCells_out _ _ _ _ _ (fun h _=>absurd h hbN)]
    exact hOb _ v (dz (i*3+j) v (by rwa [List.getElem?_drop]at hj)))
   (fun j hj=>by rw[OY];exact wN _ _ _ _ (fun t ht=>hN (i*3+t) (by omega)) _ (hN ((i+1)*3+j) (by rw[I5]at hj;omega)))
   (fun j hj=>by rw[Tm,World.frozen?_setCells];exact hNf _) (fun v hv=>Ta v (List.mem_of_mem_drop hv))
  rw[TK]at h;exact h
 subst I3
 have hE1:∀x,((w.alloc (.cells vN 171)).drew).cell? x=(w.drew.alloc (.cells vN 171)).cell? x:=fun x=>rfl
 have hE2:∀x,((w.alloc (.cells vN 171)).drew).frozen? x=(w.drew.alloc (.cells vN 171)).frozen? x:=fun x=>rfl
 have hF1:∀x,(((w.alloc (.cells vN 171)).drew.setCells w.heap.size (i*3) vs).drew).cell? x=((w.drew.alloc (.cells vN 171)).setCells w.heap.size (i*3) vs).cell? x:=fun x=>rfl
 have Tc:∀x,(((w.alloc (.cells vN 171)).drew.setCells w.heap.size (i*3) vs).drew).frozen? x=((w.drew.alloc (.cells vN 171)).setCells w.heap.size (i*3) vs).frozen? x:=fun x=>rfl
 have l7:IntKind.i64.wrap ((i:Int)+1)=(i:Int)+1:=by rw[IntKind.wrap_i64];omega
 have Gk:(0:Int)<=(i:Int)+1:=by omega
 have QW:((i:Int)+1).toNat=i+1:=by omega
 have fI:i<=n:=by omega
 have WN:(i:Int)<=(n:Int):=by omega
 have U4:¬(G=i):=by omega
 have hGim:¬(G=i+1):=by omega
 have Vf:¬(c=i):=by omega
 have mixed:Tryz.prog.follows .mixedOrders=true:=by kernel_rfl
 clear Sg u7 hold MY hG
 go_enter Tryz.func165,Tryz.ntmps165
 go_wp2_with (first
  |(at_builtin;refine Lib.wpList_append_run _ rfl _ _ _ _ rfl _ _ rfl rfl _ _ (Vy _) ?_)
  |(at_builtin;refine og _ rfl _ _ 40 40 rfl _ _ rfl rfl (WS _ hE1 hE2 _ _) ?_))
 go_region_law_o (refine qG rfl _ _ 40 40 rfl (.slice (some ⟨w.heap.size,(i+1)*3,none⟩) (n-i) (G-(i+1))) (.slice (some ⟨b,i*3,none⟩) (n-i) (c-i)) (by simp[Act.eval,Act.put]) (by simp[Act.eval,Act.put]) (WT _ hF1 Tc 3 (G-(i+1)) (c-i)) ?_)
 go_wp2
 go_ret
 exact⟨G,vN,Wv,OU,hRs,hRh,rfl,rfl⟩
theorem y8 (A:Option Addr) (n c vb vc:Nat) (w w':World) (v':Value)
  (hr:∀ty,(Builtin.append_ #[40,40] ty #[.slice A n c,.slice (some ⟨vb,0,none⟩) 1 vc]).run Tryz.prog w=.ok v' w') (hn:n<=c):
  Calls Tryz.prog 165 #[.slice A n c,.int .i64 n,.slice (some ⟨vb,0,none⟩) 1 vc] w fun e w2=>e=.returned v'/\w2=w':=by
 have hu:=Tryz.underlying40
 cases A with
 |none=>
  go_enter Tryz.func165,Tryz.ntmps165
  go_wp2_with (at_builtin;refine Lib.wpList_append_run _ rfl _ _ _ _ rfl _ _ rfl rfl _ _ (hr _) ?_)
  all_goals (try go_ret)
  all_goals first|exact⟨rfl,rfl⟩|skip
 |some ad=>
  obtain⟨ab,ao,asp⟩:=ad
  go_enter Tryz.func165,Tryz.ntmps165
  go_wp2_with (at_builtin;refine Lib.wpList_append_run _ rfl _ _ _ _ rfl _ _ rfl rfl _ _ (hr _) ?_)
  all_goals (go_ret;exact⟨rfl,rfl⟩)
theorem Fv {w:World} {b o:Nat} {v:Value} {cur:Array Value} {T:TypeId} {f:Nat×Nat} (h:w.heap[b]? =some (.cells cur T f)):∃cur',(w.setCell ⟨b,o,none⟩ v).heap[b]? =some (.cells cur' T f)/\cur'.size=cur.size/\(∀t,t≠o->cur'[t]? =cur[t]?)/\(o<cur.size->cur'[o]? =some v):=by
 refine⟨_,by simp[World.setCell,Array.getElem?_modify,h];rfl,?_,fun t ht=>?_,fun ho=>?_⟩
 ·simp
 ·rw[Array.getElem?_setIfInBounds_ne (fun e=>ht e.symm)]
 ·rw[Array.getElem?_setIfInBounds_self_of_lt ho]
theorem kq {b:Nat} {T:TypeId} {f:Nat×Nat}:∀(vs:List Value) (o:Nat) (w:World) (cur:Array Value),w.heap[b]? =some (.cells cur T f)->∃cur',(w.setCells b o vs).heap[b]? =some (.cells cur' T f)/\cur'.size=cur.size/\(∀t,t<o∨o+vs.length<=t->cur'[t]? =cur[t]?)/\∀(j:Nat) (v:Value),vs[j]? =some v->o+j<cur.size->cur'[o+j]? =some v
 |[],o,w,cur,h=>⟨cur,h,rfl,fun _ _=>rfl,fun j v hj=>by simp at hj⟩
 |v::r,o,w,cur,h=>by
  obtain⟨c1,h1,h2,h3,h4⟩:=Fv (o:=o) (v:=v) h
  obtain⟨c2,k1,k2,k3,k4⟩:=kq r (o+1) _ c1 h1
  refine⟨c2,k1,k2.trans h2,fun t ht=>?_,fun j u hj hl=>?_⟩
  ·rw[k3 t (by simp only[List.length_cons]at ht;omega)]
   refine h3 t fun e=>?_
   simp only[List.length_cons]at ht;omega
  ·cases j with
   |zero=>
    simp at hj;subst hj
    rw[Nat.add_zero,k3 o (.inl (by omega))]
    exact h4 (by omega)
   |succ j=>
    have:=k4 j u (by simpa using hj) (by omega)
    rwa [show o+1+j=o+(j+1) by omega]at this
theorem iT {b k:Nat} (hk:k≠b):∀(vs:List Value) (o:Nat) (w:World),(w.setCells b o vs).heap[k]? =w.heap[k]?
 |[],_,_=>rfl
 |v::r,o,w=>(iT hk r (o+1) _).trans (Below.heap_setCell _ _ _ _ hk)
theorem iV (b:Nat):∀(vs:List Value) (o:Nat) (w:World),(w.setCells b o vs).heap.size=w.heap.size
 |[],_,_=>rfl
 |v::r,o,w=>(iV b r (o+1) _).trans (size_set _ _ _)
theorem iU (b:Nat):∀(vs:List Value) (o:Nat) (w:World),(w.setCells b o vs).os=w.os/\(w.setCells b o vs).tape=w.tape/\(w.setCells b o vs).output=w.output
 |[],_,_=>⟨rfl,rfl,rfl⟩
 |v::r,o,w=>iU b r (o+1) _
structure ta (w w':World) (b C:Nat) (T:TypeId) (cells:List Value):Prop where
 vT:∃cur,w'.heap[b]? =some (.cells cur T (0,0))/\cur.size=C/\∀(t:Nat) (v:Value),cells[t]? =some v->cur[t]? =some v
 other:∀k,k≠b->k<w.heap.size->w'.heap[k]? =w.heap[k]?
 size:w.heap.size<=w'.heap.size
 rest:w'.os=w.os/\w'.tape=w.tape/\w'.output=w.output
theorem Dn {w w0:World} {b i k:Nat} {cur:Array Value} {T:TypeId} {cs vs:List Value} (h:w.heap[b]? =some (.cells cur T (0,0))) (h0:∀k,k≠b->k<w0.heap.size->w.heap[k]? =w0.heap[k]?) (hz:w0.heap.size<=w.heap.size) (hr:w.os=w0.os/\w.tape=w0.tape/\w.output=w0.output)
  (oz:vs.length=k) (TH:∀j v,cs[j]? =some v->j<i*k->cur[j]? =some v) (qj:cs.length+k<=cur.size) (hi:i*k<=cs.length):
  ∀(flip:Bool),ta w0 (if flip then(w.setCells b ((i+1)*k) (cs.drop (i*k))).setCells b (i*k) vs else((w.setCells b (i*k) vs).drew).setCells b ((i+1)*k) (cs.drop (i*k))) b cur.size T (cs.take (i*k)++vs++cs.drop (i*k)):=by
 have pc:(i+1)*k=i*k+k:=Nat.succ_mul i k
 have I5:(cs.drop (i*k)).length=cs.length-i*k:=List.length_drop ..
 have ju:∀(c2:Array Value),(∀t:Nat,t<i*k->c2[t]? =cur[t]?)->(∀(j:Nat) (v:Value),vs[j]? =some v->c2[i*k+j]? =some v)->(∀(j:Nat) (v:Value),(cs.drop (i*k))[j]? =some v->c2[(i+1)*k+j]? =some v)->∀(t:Nat) (v:Value),(cs.take (i*k)++vs++cs.drop (i*k))[t]? =some v->c2[t]? =some v:=by
  intro c2 a1 a2 a3 t v ht
  have ER:(cs.take (i*k)).length=i*k:=by rw[List.length_take];omega
  by_cases h1:t<i*k
  ·rw[List.append_assoc,List.getElem?_append_left (by omega),List.getElem?_take,if_pos h1]at ht
   rw[a1 t h1];exact TH t v ht h1
  ·by_cases h2:t<i*k+k
   ·rw[List.getElem?_append_left (by rw[List.length_append];omega),List.getElem?_append_right (by omega),ER]at ht
    have:=a2 _ v ht
    rwa [show i*k+(t-i*k)=t by omega]at this
   ·rw[List.getElem?_append_right (by rw[List.length_append];omega),List.length_append,ER,oz]at ht
    have:=a3 _ v ht
    rwa [show(i+1)*k+(t-(i*k+k))=t by omega]at this
 intro flip
 cases flip with
 |true=>
  obtain⟨c1,g1,g2,g3,g4⟩:=kq (cs.drop (i*k)) ((i+1)*k) w cur h
  obtain⟨c2,e1,e2,e3,e4⟩:=kq vs (i*k) _ c1 g1
  simp only[if_true]
  refine⟨⟨c2,e1,e2.trans g2,ju c2 (fun t ht=>?_) (fun j v hj=>e4 j v hj (by have:=(List.getElem?_eq_some_iff.1 hj).1;omega)) (fun j v hj=>?_)⟩,fun q hq Pa=>?_,?_,?_⟩
  ·rw[e3 t (.inl ht),g3 t (.inl (by omega))]
  ·have:=(List.getElem?_eq_some_iff.1 hj).1
   rw[e3 _ (.inr (by omega))];exact g4 j v hj (by omega)
  ·rw[iT hq,iT hq];exact h0 q hq Pa
  ·rw[iV,iV];exact hz
  ·have r1:=iU b vs (i*k) (w.setCells b ((i+1)*k) (cs.drop (i*k)))
   have r2:=iU b (cs.drop (i*k)) ((i+1)*k) w
   exact⟨(r1.1.trans r2.1).trans hr.1,(r1.2.1.trans r2.2.1).trans hr.2.1,(r1.2.2.trans r2.2.2).trans hr.2.2⟩
 |false=>
  obtain⟨c1,g1,g2,g3,g4⟩:=kq vs (i*k) w cur h
  obtain⟨c2,e1,e2,e3,e4⟩:=kq (cs.drop (i*k)) ((i+1)*k) ((w.setCells b (i*k) vs).drew) c1 g1
  simp only[Bool.false_eq_true,if_false]
  refine⟨⟨c2,e1,e2.trans g2,ju c2 (fun t ht=>?_) (fun j v hj=>?_) (fun j v hj=>e4 j v hj (by have:=(List.getElem?_eq_some_iff.1 hj).1;omega))⟩,fun q hq Pa=>?_,?_,?_⟩
  ·rw[e3 t (.inl (by omega)),g3 t (.inl ht)]
  ·have:=(List.getElem?_eq_some_iff.1 hj).1
   rw[e3 _ (.inl (by omega))];exact g4 j v hj (by omega)
  ·rw[iT hq]
   exact(iT hq vs (i*k) w).trans (h0 q hq Pa)
  ·rw[iV]
   exact Nat.le_trans hz (Nat.le_of_eq (iV b vs (i*k) w).symm)
  ·have r1:=iU b (cs.drop (i*k)) ((i+1)*k) ((w.setCells b (i*k) vs).drew)
   have r2:=iU b vs (i*k) w
   exact⟨(r1.1.trans r2.1).trans hr.1,(r1.2.1.trans r2.2.1).trans hr.2.1,(r1.2.2.trans r2.2.2).trans hr.2.2⟩
end Go.Proofs.YtgoljkjaameagaaGreat

namespace Go.Proofs.YtgoljkjaameagaaGreat.V
open Go.RowKit
variable {P:Program} {w w':World} {D:Nat->Prop} {ι:Names} {hs:Nat} {g:Rows}
theorem Lg {vs:Array Value} (h:fb P w D ι [] vs):vs= #[]:=Array.eq_empty_of_size_eq_zero h.1
theorem tJ {a:AV} {r:List AV} {vs:Array Value} (h:fb P w D ι (a::r) vs):∃u us,vs=(u::us).toArray/\dm P w D ι a u/\fb P w D ι r us.toArray:=by
 obtain⟨h1,h2⟩:=h
 obtain⟨l⟩:=vs
 cases l with
 |nil=>simp at h1
 |cons u us=>
  obtain⟨u',hu,hr⟩:=h2 0 a rfl
  simp at hu;subst hu
  exact⟨u,us,rfl,hr,by simpa using h1,fun j b hj=>by
   obtain⟨v,hv,lN⟩:=h2 (j+1) b (by simpa using hj)
   exact⟨v,by simpa using hv,lN⟩⟩
theorem Q2 (S:gw P hs D ι g w) {id:Id} {r r':Row} {B:s4} {cells:List Value} {cur:Array Value} {T:TypeId} (hid:g id=some r) (hw:r.w=true) (hB:ι id=some B) (hblk:w.heap[B.b]? =some (.cells cur T (0,0))) (hC:cur.size=B.C) (I:ta w w' B.b B.C T cells)
  (h0:r'.w=true) (h1:r'.sz=r.sz) (h2:r'.rows.length*r'.sz<=B.C) (h3:∀cs∈r'.rows,cs.length=r'.sz) (h4:∀cs∈r'.rows,∀a∈cs,a.cell=true) (hc:fb P w D ι r'.rows.flatten cells.toArray):
  gw P hs D ι (bL g id r') w'/\Step hs D ι w D ι w':=by
 obtain⟨cur',Gl,Ac,EE⟩:=I.vT
 obtain⟨S1,T1⟩:=S.put (r':=r') (cur':=cur') hid hw hB hblk (by rw[Ac,hC]) h0 h1 h2 h3 h4 (fun i j cs a hi hj=>by
  obtain⟨u,hu,hr⟩:=hc.2 _ _ (flat_get h3 hi hj)
  refine⟨u,EE _ _ ?_,hr⟩
  rw[<-h1];simpa using hu)
 have hz:(w.setRow B.b cur').heap.size=w.heap.size:=by simp
 have hh:∀k,k<(w.setRow B.b cur').heap.size->w'.heap[k]? =(w.setRow B.b cur').heap[k]? :=fun k hk=>by
  by_cases QF:k=B.b
  ·subst QF
   rw[Gl,setRow_heap w B.b cur cur' T _ hblk]
  ·rw[setRow_other w B.b k cur' QF]
   exact I.other k QF (by rw[hz]at hk;exact hk)
 have Ud:(w.setRow B.b cur').heap.size<=w'.heap.size:=by rw[hz];exact I.size
 refine⟨S1.stay hh Ud (fun _ h=>h) (fun b hb=>Nat.lt_of_lt_of_le (S1.dead b hb) Ud) (fun _ h=>.inl h) (fun _ _ h=>h),T1.trans (Step.stay S1 hh Ud ?_ ?_ ?_ (fun _ h=>h) (fun _ h=>.inl h) (fun _ _ h=>h))⟩
 ·rw[I.rest.1];simp[World.setRow]
 ·rw[I.rest.2.1];simp[World.setRow]
 ·rw[I.rest.2.2];simp[World.setRow]
theorem Nz (S:gw P hs D ι g w) {id:Id} {r':Row} {C:Nat} {cells:List Value} {T:TypeId} (hn:ι id=none) (I:ta w w' w.heap.size C T cells)
  (h2:r'.rows.length*r'.sz<=C) (h3:∀cs∈r'.rows,cs.length=r'.sz) (h4:∀cs∈r'.rows,∀a∈cs,a.cell=true) (hc:fb P w D ι r'.rows.flatten cells.toArray):
  gw P hs D (j7 ι id ⟨w.heap.size,r'.sz,C,none⟩) (bL g id r') w'/\Step hs D ι w D (j7 ι id ⟨w.heap.size,r'.sz,C,none⟩) w':=by
 obtain⟨cur',Gl,Ac,EE⟩:=I.vT
 have hh:∀k,k<w.heap.size->w'.heap[k]? =w.heap[k]? :=fun k hk=>I.other k (by omega) hk
 have S':=S.stay (D':=D) (ι':=ι) hh I.size (fun _ h=>h) (fun b hb=>Nat.lt_of_lt_of_le (S.dead b hb) I.size) (fun _ h=>.inl h) (fun _ _ h=>h)
 refine⟨S.add S' hn (Nat.le_refl _) (kK.obj ⟨rfl,⟨cur',T,Gl,Ac⟩,h2,h3,h4,fun i j cs a hi hj=>?_⟩ rfl),Step.stay S hh I.size I.rest.1 I.rest.2.1 I.rest.2.2 (fun _ h=>h) (fun _ h=>.inl h) (fB hn)⟩
 obtain⟨u,hu,hr⟩:=hc.2 _ _ (flat_get h3 hi hj)
 refine⟨u,?_,hr.frame (fun b hb=>hh b (S.dead b hb)) (fun _ h=>h) (fB hn)⟩
 have hcu:=EE _ _ (show cells[i*r'.sz+j]? =some u by simpa using hu)
 simp only[World.cell?,Gl]
 exact hcu
theorem JZ {rows:List (List AV)} {vr:List AV} {k i:Nat} (h:∀c∈rows,c.length=k) (hi:i<=rows.length):(rows.take i++vr::rows.drop i).flatten=rows.flatten.take (i*k)++vr++rows.flatten.drop (i*k):=by
 have e:rows.flatten=(rows.take i).flatten++(rows.drop i).flatten:=by rw[<-List.flatten_append,List.take_append_drop]
 have hl:(rows.take i).flatten.length=i*k:=by
  rw[wj fun c hc=>h c (List.mem_of_mem_take hc),List.length_take];congr 1;omega
 rw[List.flatten_append,List.flatten_cons,e,List.take_left' hl,List.drop_left' hl,List.append_assoc]
theorem fb.ins {xs vr:List AV} {cs vs:List Value} {m:Nat} (h:fb P w D ι xs cs.toArray) (hv:fb P w D ι vr vs.toArray) (hm:m<=xs.length):fb P w D ι (xs.take m++vr++xs.drop m) (cs.take m++vs++cs.drop m).toArray:=by
 have h1:cs.length=xs.length:=by simpa using h.1
 have h2:vs.length=vr.length:=by simpa using hv.1
 refine⟨by simp;omega,fun j a hj=>?_⟩
 have t1:(xs.take m).length=m:=by rw[List.length_take];omega
 have t2:(cs.take m).length=m:=by rw[List.length_take];omega
 simp only[List.getElem?_toArray]
 by_cases c1:j<m
 ·rw[List.append_assoc,List.getElem?_append_left (by omega),List.getElem?_take,if_pos c1]at hj
  obtain⟨u,hu,hr⟩:=h.2 j a hj
  refine⟨u,?_,hr⟩
  rw[List.append_assoc,List.getElem?_append_left (by omega),List.getElem?_take,if_pos c1];simpa using hu
 ·by_cases c2:j<m+vr.length
  ·rw[List.getElem?_append_left (by rw[List.length_append];omega),List.getElem?_append_right (by omega),t1]at hj
   obtain⟨u,hu,hr⟩:=hv.2 _ a hj
   refine⟨u,?_,hr⟩
   rw[List.getElem?_append_left (by rw[List.length_append];omega),List.getElem?_append_right (by omega),t2];simpa using hu
  ·rw[List.getElem?_append_right (by rw[List.length_append];omega),List.length_append,t1,List.getElem?_drop]at hj
   obtain⟨u,hu,hr⟩:=h.2 _ a hj
   refine⟨u,?_,hr⟩
   rw[List.getElem?_append_right (by rw[List.length_append];omega),List.length_append,t2,h2,List.getElem?_drop];simpa using hu
theorem tx (σ:ay) (G9 pC:Id) (rows:List (List AV)) (vr:List AV) (i:Nat) (hg:σ.get G9=some ⟨true,3,rows⟩) (XK:σ.get pC=some ⟨true,3,[vr]⟩) (ij:¬G9=pC) (hi:i<=rows.length) (I8:0<rows.length) (hn:rows.length<=1000):
  Call Tryz.prog 165 [.own G9 0 rows.length,.int .i64 i,.own pC 0 1] σ fun r σ'=>∃C1,r=.own C1 0 (rows.length+1)/\σ'.get C1=some ⟨true,3,rows.take i++vr::rows.drop i⟩/\(C1=G9∨(σ.next<=C1.br/\C1.br<σ'.next))/\σ.next<=σ'.next/\∀j:Id,j.br<σ.next->j≠G9->σ'.get j=σ.get j:=by
 refine gh fun hs D ι w vs S U A=>?_
 obtain⟨u1,XU,rfl,h1,h2⟩:=tJ A
 obtain⟨u2,XV,h3,h4,h5⟩:=tJ h2
 simp at h3;subst h3
 obtain⟨u3,us3,h6,h7,h8⟩:=tJ h5
 simp at h6;subst h6
 have:=Lg h8
 simp at this;subst this
 have e2:=dB h4
 subst e2
 obtain⟨B,hB,RO,jQ,lg⟩:=S.row G9 _ hg
 obtain⟨Bv,hBv,RvO,hlov,hndv⟩:=S.row pC _ XK
 have Vm:=RO.cells (by(show(3:Nat)<mT);decide)
 have Xd:=RvO.cells (by(show(3:Nat)<mT);decide)
 have R:=RO.row Vm
 have Rv:=RvO.row Xd
 obtain⟨cur,T,hblk,hC,_⟩:=R.cur
 obtain⟨Wd,Tv,O0,hCv,_⟩:=Rv.cur
 have hlen:∀c∈rows,c.length=3:=R.len
 have Kd:∀c∈rows,∀a∈c,a.cell=true:=R.flat
 have oz:∀c∈[vr],c.length=3:=Rv.len
 have hvf:∀c∈[vr],∀a∈c,a.cell=true:=Rv.flat
 obtain⟨o,cap,B',rfl,eb,q1,q2,q3,q4,hkA⟩:=iq h1
 rw[hB]at eb;injection eb with eb;subst eb
 obtain⟨ov,cv,Bv',rfl,MU,v1,v2,v3,v4,hkV⟩:=iq h7
 rw[hBv]at MU;injection MU with MU;subst MU
 have Du:B.sz=3:=R.sz
 have hBvs:Bv.sz=3:=Rv.sz
 have ho:o=0:=by rcases q2 with h|h<;>omega
 have pO:ov=0:=by rcases v2 with h|h<;>omega
 subst ho;subst pO
 have Sb:Bv.b≠B.b:=fun e=>ij (S.inj G9 pC _ _ B Bv hg XK rfl hB hBv e.symm)
 obtain⟨A1,c1,e1,k1⟩:=nI (sz:=3) S h1 (ys:=rows) (by simp[bq,hg]) hlen Kd
 obtain⟨A2,c2,e3,k2⟩:=nI (sz:=3) S h7 (ys:=[vr]) (by simp[bq,XK]) oz hvf
 rcases k1 with k1|⟨b1,o1,cs,rfl,cl,cc,cr,c1'⟩
 ·subst k1;simp at I8
 rcases k2 with k2|⟨b2,o2,vls,rfl,vl,vc,vrp,v1'⟩
 ·cases k2
 simp only[Value.slice.injEq,Option.some.injEq,Addr.mk.injEq]at e1 e3
 obtain⟨⟨rfl,rfl,_⟩,_,rfl⟩:=e1
 obtain⟨⟨rfl,rfl,_⟩,_,rfl⟩:=e3
 simp only[List.flatten_cons,List.flatten_nil,List.append_nil]at vrp
 simp only[List.length_cons,List.length_nil,Nat.zero_add,Nat.one_mul]at vl
 simp only[Nat.zero_add]at cc vc
 have sj:∀id:Id,ι id=none->ι id=none:=fun _ h=>h
 have wD:ι ⟨165000000,σ.next⟩=none:=by
  cases hq:ι ⟨165000000,σ.next⟩with
  |none=>rfl
  |some B0=>
   rcases U ⟨165000000,σ.next⟩ (by rw[hq];simp)with h|⟨_,h⟩
   ·simp at h
   ·exact h.elim
 have EH:=JZ (vr:=vr) hlen hi
 have jP:∀c∈rows.take i++vr::rows.drop i,c.length=3:=fun c hc=>by
  rcases List.mem_append.1 hc with hc|hc
  ·exact hlen c (List.mem_of_mem_take hc)
  ·rcases List.mem_cons.1 hc with rfl|hc
   ·exact oz _ (by simp)
   ·exact hlen c (List.mem_of_mem_drop hc)
 have Ke:∀c∈rows.take i++vr::rows.drop i,∀a∈c,a.cell=true:=fun c hc=>by
  rcases List.mem_append.1 hc with hc|hc
  ·exact Kd c (List.mem_of_mem_take hc)
  ·rcases List.mem_cons.1 hc with rfl|hc
   ·exact hvf _ (by simp)
   ·exact Kd c (List.mem_of_mem_drop hc)
 have I7:(rows.take i++vr::rows.drop i).length=rows.length+1:=by simp;omega
 have hfll:rows.flatten.length=rows.length*3:=wj hlen
 have gS:fb Tryz.prog w D ι (rows.take i++vr::rows.drop i).flatten (cs.take (i*3)++vls++cs.drop (i*3)).toArray:=by
  rw[EH];exact cr.ins vrp (by omega)
 have Qs:(rows.length+1)<=cap->(rows.length+1)*3<=cur.size:=fun h=>by rw[hC];rw[Du]at q3;omega
 have Ao:∀w',ta w w' B.b B.C T (cs.take (i*3)++vls++cs.drop (i*3))->rows.length+1<=cap->∃r g' n' D' ι' u,Ending.returned (.slice (some ⟨B.b,0,none⟩) (rows.length+1) cap)=.returned u/\(∃C1,r=.own C1 0 (rows.length+1)/\g' C1=some ⟨true,3,rows.take i++vr::rows.drop i⟩/\(C1=G9∨(σ.next<=C1.br/\C1.br<n'))/\σ.next<=n'/\∀j:Id,j.br<σ.next->j≠G9->g' j=σ.get j)/\Step hs D ι w D' ι' w'/\gw Tryz.prog hs D' ι' g' w'/\Used ι' n' (fun _=>False)/\σ.next<=n'/\dm Tryz.prog w' D' ι' r u:=fun w' I eR=>by
  obtain⟨S1,T1⟩:=Q2 (r':=⟨true,3,rows.take i++vr::rows.drop i⟩) S hg rfl hB hblk hC I rfl rfl (by rw[I7];have:=Qs eR;rw[hC]at this;exact this) jP Ke gS
  exact⟨.own G9 0 (rows.length+1),_,σ.next,D,ι,_,rfl,⟨G9,rfl,by simp[bL],.inl rfl,Nat.le_refl _,fun j _ hj=>by simp[bL,hj]⟩,T1,S1,U,Nat.le_refl _,.own _ _ _ _ _ B hB Vm eR (.inr (Nat.zero_mul _).symm) q3 q4⟩
 have PH:∀w' G T2,ta w w' w.heap.size (G*3) T2 (cs.take (i*3)++vls++cs.drop (i*3))->rows.length+1<=G->G<=maxLen->∃r g' n' D' ι' u,Ending.returned (.slice (some ⟨w.heap.size,0,none⟩) (rows.length+1) G)=.returned u/\(∃C1,r=.own C1 0 (rows.length+1)/\g' C1=some ⟨true,3,rows.take i++vr::rows.drop i⟩/\(C1=G9∨(σ.next<=C1.br/\C1.br<n'))/\σ.next<=n'/\∀j:Id,j.br<σ.next->j≠G9->g' j=σ.get j)/\Step hs D ι w D' ι' w'/\gw Tryz.prog hs D' ι' g' w'/\Used ι' n' (fun _=>False)/\σ.next<=n'/\dm Tryz.prog w' D' ι' r u:=fun w' G T2 I hG hGm=>by
  obtain⟨S1,T1⟩:=Nz (id:=⟨165000000,σ.next⟩) (r':=⟨true,3,rows.take i++vr::rows.drop i⟩) S wD I (by show(rows.take i++vr::rows.drop i).length*3<=G*3;rw[I7];omega) jP Ke gS
  refine⟨.own ⟨165000000,σ.next⟩ 0 (rows.length+1),_,σ.next+1,D,_,_,rfl,⟨_,rfl,by simp[bL],.inr ⟨Nat.le_refl _,Nat.lt_succ_self _⟩,Nat.le_succ _,fun j hj _=>?_⟩,T1,S1,U.upd.next,Nat.le_succ _,.own _ _ _ _ _ _ (ew _ _ _) rfl hG (.inr (Nat.zero_mul _).symm) (by simp) hGm⟩
  have:¬j=⟨165000000,σ.next⟩:=fun e=>by subst e;simp at hj
  simp[bL,this]
 have si:∀(j:Nat) (v:Value),cs[j]? =some v->cur[j]? =some v:=fun j v hj=>by
  have:=cc j v hj
  rwa [cell_of_row w B.b j cur T (0,0) hblk]at this
 have fz:∀j,w.frozen? ⟨B.b,j,none⟩=false:=fun j=>by simp only[World.frozen?,hblk];simp
 have MN:∀j,w.frozen? ⟨Bv.b,j,none⟩=false:=fun j=>by simp only[World.frozen?,O0];simp
 obtain⟨i0,Bi,Bp,EV,VI⟩:=info_parts sD
 have hu:=Tryz.underlying40
 have od:B.b<w.heap.size:=(Array.getElem?_eq_some_iff.1 hblk).1
 by_cases fI:i=rows.length
 ·subst fI
  have et:cs.take (rows.length*3)=cs:=List.take_of_length_le (by omega)
  have ed:cs.drop (rows.length*3)=[]:=List.drop_of_length_le (by omega)
  rw[et,ed,List.append_nil]at Ao PH
  by_cases eR:rows.length+1<=cap
  ·have qj:=Qs eR
   have gp:=fun ty=>qC (P:=Tryz.prog) (w:=w) (ty:=ty) hu Bi B.b rows.length cap cur hblk ⟨Bv.b,0,none⟩ 1 cv vls (by rw[EV];omega) (fun j v hj=>by rw[Addr.add_lit,Nat.zero_add];exact vc j v hj) v1' eR (by rw[EV];omega)
   simp only[EV]at gp
   refine(y8 (some ⟨B.b,0,none⟩) rows.length cap Bv.b cv w _ _ gp (by omega)).mono ?_
   rintro e w' ⟨rfl,rfl⟩
   have fo:(cur.toList.take (rows.length*3)++vls++cur.toList.drop (rows.length*3+vls.length)).toArray.size=cur.size:=by simp;omega
   have I:ta w (w.setRow B.b (cur.toList.take (rows.length*3)++vls++cur.toList.drop (rows.length*3+vls.length)).toArray) B.b B.C T (cs++vls):=by
    refine⟨⟨_,setRow_heap w B.b cur _ T _ hblk,by rw[fo,hC],fun t v ht=>?_⟩,fun k hk _=>setRow_other w B.b k _ hk,by simp,by simp[World.setRow],by simp[World.setRow],by simp[World.setRow]⟩
    simp only[List.getElem?_toArray]
    have ER:(cur.toList.take (rows.length*3)).length=rows.length*3:=by simp;omega
    by_cases h1:t<rows.length*3
    ·rw[List.getElem?_append_left (by omega)]at ht
     rw[List.append_assoc,List.getElem?_append_left (by omega),List.getElem?_take,if_pos h1]
     have:=si t v ht
     simpa using this
    ·rw[List.getElem?_append_right (by omega),cl]at ht
     have:=(List.getElem?_eq_some_iff.1 ht).1
     rw[List.getElem?_append_left (by rw[List.length_append];omega),List.getElem?_append_right (by omega),ER];exact ht
   exact Ao _ I eR
  ·have gp:=fun ty=>run_append_grow (P:=Tryz.prog) w 40 ty 171 i0 _ hu Bi Bp ⟨B.b,0,none⟩ rows.length cap cs (by rw[EV];omega) (fun j v hj=>by rw[Addr.add_lit,Nat.zero_add];exact cc j v hj) ⟨Bv.b,0,none⟩ 1 cv vls (by rw[EV];omega) (fun j v hj=>by rw[Addr.add_lit,Nat.zero_add];exact vc j v hj) (by omega) (by omega) (growslice_fits (by omega) (by rw[VI];omega))
   refine(y8 (some ⟨B.b,0,none⟩) rows.length cap Bv.b cv w _ _ gp (by omega)).mono ?_
   rintro e w' ⟨rfl,rfl⟩
   have g1:=grownCap_ge w (rows.length+1) cap 171
   have g2:=grownCap_le_maxLen w (rows.length+1) cap 171 (by unfold maxLen;omega)
   refine PH _ _ _ ⟨⟨_,heap_alloc_new w.drew _,?_,fun t v ht=>?_⟩,fun k _ hk=>Below.heap_alloc w.drew _ _ hk,by simp,rfl,rfl,rfl⟩ g1 g2
   ·simp[Builtin.zeroCells,Value.cells]
    omega
   ·rw[Array.getElem?_append_left (by have:=(List.getElem?_eq_some_iff.1 ht).1;simpa using this)]
    simpa using ht
 ·have mj:i<rows.length:=by omega
  by_cases eR:rows.length+1<=cap
  ·have qj:=Qs eR
   refine(Cz B.b rows.length cap i Bv.b cv cs vls w mj eR (by unfold maxLen at q4;omega) Sb (by omega) vl cc (fun j hj=>by rw[cell_of_row w B.b j cur T (0,0) hblk,Array.getElem?_eq_getElem (by omega)];rfl) fz vc c1' v1' Tv T Wd.size cur.size (by simp[World.shape?,O0]) (by simp[World.shape?,hblk]) (by omega) (MN _) (MN _)).mono ?_
   rintro e w' ⟨rfl,rfl⟩
   have I:=Dn (w0:=w) (w:=w.drew) (b:=B.b) (i:=i) (k:=3) (cur:=cur) (T:=T) (cs:=cs) (vs:=vls) hblk (fun _ _ _=>rfl) (Nat.le_refl _) ⟨rfl,rfl,rfl⟩ vl (fun j v hj _=>si j v hj) (by omega) (by omega) true
   rw[if_pos rfl,hC]at I
   exact Ao _ I eR
  ·refine(EY B.b rows.length cap i Bv.b cv cs vls w mj q1 (by omega) (by omega) (by omega) vl cc vc c1' v1').mono ?_
   rintro e w' ⟨G,vN,g1,g2,g3,g4,rfl,rfl⟩
   have I:=Dn (w0:=w) (w:=(w.alloc (.cells vN 171)).drew) (b:=w.heap.size) (i:=i) (k:=3) (cur:=vN) (T:=171) (cs:=cs) (vs:=vls) (heap_alloc_new w _) (fun k _ hk=>Below.heap_alloc w _ _ hk) (by simp) ⟨rfl,rfl,rfl⟩ vl g4 (by omega) (by omega) false
   rw[if_neg (by simp),g3]at I
   exact PH _ G _ I g1 g2
end Go.Proofs.YtgoljkjaameagaaGreat.V

namespace Go.Proofs.YtgoljkjaameagaaGreat.V
open Go.RowKit
attribute [local irreducible] ek wpOps fK Call
attribute [local go_sem] aI fw eH fE fD dd upd cm K.av cG AV.cells AV.cell rowOf rowsOf part ld rowAt bL bY dx dO gz bE cW dY fC eY dj dS cU cR dG dH bH aZ cJ bG cL cK dQ dU dR cI bJ cV dP bF aL cP cz gy bq cF bI aW dq bm dy AV.undef bw bz dJ dM dD dI cE dX ea cq dW dV cN cQ List.getD_cons_zero List.getD_cons_succ List.getD_nil List.all_cons List.all_nil Bool.and_true Bool.true_and Bool.and_self Bool.not_true Bool.not_false Option.map_some Option.map_none Option.bind_some Option.bind_none List.length_cons List.length_nil List.take_succ_cons List.take_zero List.take_nil List.drop_succ_cons List.drop_zero List.drop_nil List.head?_cons List.map_cons List.map_nil List.getElem?_cons_zero List.getElem?_cons_succ List.cons_append List.nil_append List.append_nil List.length_map List.set_cons_zero List.set_cons_succ Nat.reduceMul eq_self Int.toNat_natCast Int.natCast_nonneg and_self true_and and_true decide_true decide_false Bool.false_eq_true Nat.zero_add Nat.add_zero List.contains_cons List.contains_nil Bool.or_false Bool.false_or beq_self_eq_true Nat.reduceBEq ne_eq not_true_eq_false not_false_eq_true Id.mk.injEq false_and and_false Nat.reduceLT Int.reduceLE Int.reduceLT Int.reduceToNat Int.reduceNeg Int.reduceAdd Nat.le_refl List.length_append beq_true beq_false Bool.not_eq_eq_eq_not or_false false_or dK aq au aH bf bt bZ aU bh aT bc cH bx
theorem Ld {q:ae}:∀{l:List ae},qJ l->eO l q.bj<0->ga l q=l.take (km l q.bj)++q::l.drop (km l q.bj):=by
 intro l
 rw[sL,GB]
 induction l with
 |nil=>intro _ _;simp[ga,km]
 |cons y r ih=>
  intro h hn
  obtain⟨h1,h2⟩:=List.pairwise_cons.1 h
  have ij:y.bj≠q.bj:=hn y (by simp)
  rw[ga]
  unfold km
  rw[List.findIdx_cons]
  cases hl:iW q.bj y.bj
  ·have h3:=vg hl fun e=>ij e.symm
   have h4:=ih h2 fun t ht=>hn t (by simp[ht])
   unfold km at h4
   simp[h3,h4]
  ·have h3:=CK hl
   simp[h3]
theorem NM (l:List ae) (p:ar):km l p<=l.length:=List.findIdx_le_length
theorem qT (ps:List ae) (h0:ps≠[]) (hlen:ps.length<=1048576) (σ:ay):
  Call Tryz.prog 166 [.sl (ps.map ah)] σ fun a σ'=>∃o:Id,a=.own o 0 ps.length/\σ'.get o=some ⟨true,3,ps.map ah⟩/\σ.next<=o.br/\o.br<σ'.next/\∀x:Id,x.br<σ.next->σ'.get x=σ.get x:=by
 obtain⟨z,r,rfl⟩:=List.exists_cons_of_ne_nil h0
 have hc:(z::r).map ah=ah z::r.map ah:=rfl
 have hz:(z::r).length=r.length+1:=rfl
 rw[hc,hz]
 rw[hz]at hlen
 refine e6 eK rfl fun hl=>?_
 clear hl
 have h2:r.length+1<=16777216:=by omega
 have h3:r.length<=16777215:=by omega
 have hm:(r.map ah).length=r.length:=by simp
 have ha:(r.map ah).all (fun c=>c.length==3&&c.all AV.cell)=true:=all_map fun x=>by simp[ah,AV.cell]
 (try((repeat(revert hN;revert N;apply Pn.out));refine wk (tw @h2 (tw @h3 (tw @hm (tw @ha @ah.eq_1)))) ?_;(repeat(refine Pn.mk ?_;intro N hN))))
 exact fe (vs:=[.own ⟨166003002,σ.next+2⟩ 0 (r.length+1)]) (.inl rfl) (sd @Nat.zero_add) ⟨_,rfl,sl @Nat.zero_add,by(try dsimp only);omega,by(try dsimp only);omega,fun x hx=>by
  have:=dr hx
  simp only[go_sem, ↓reduceIte,Nat.reduceEqDiff,Nat.reduceAdd,Nat.reduceSub,Nat.reduceLeDiff,reduceCtorEq,this]⟩
theorem RE (l:List ae) (h0:l≠[]) (hl:l.length<=500) (hR:qJ l) (p:ar) (t:Int) (hi:eO l p<0) (σ:ay):
  Call Tryz.prog 92 [.agg [.sl (l.map ah)],.agg (ai p),.int .i64 t] σ fun r σ'=>∃o:Id,r=.agg [.own o 0 (ga l ⟨p,t⟩).length]/\σ'.get o=some ⟨true,3,(ga l ⟨p,t⟩).map ah⟩/\σ.next<=o.br/\o.br<σ'.next/\∀x:Id,x.br<σ.next->σ'.get x=σ.get x:=by
 refine DK SP rfl fun lf=>?_
 try simp only[q]
 clear lf
 have hb:=yJ l p hR (by omega)
 have wH:=NM l p
 have lj:=Ld (q:=⟨p,t⟩) hR hi
 have jx:0<l.length:=List.length_pos_iff.2 h0
 have TY:(ga l ⟨p,t⟩).length=l.length+1:=po _ _
 have Dz:(l.map ah).take (km l p)++[.int .i64 p.eM,.int .i64 p.eG,.int .i64 t]::(l.map ah).drop (km l p)=(ga l ⟨p,t⟩).map ah:=by
  rw[lj,List.map_append,List.map_cons,List.map_take,List.map_drop];rfl
 rw[TY]
 have wC:(0:Int)<=(km l p:Int):=by omega
 generalize (ga l ⟨p,t⟩).map ah=M at Dz ⊢
 rw[ai]at hb
 (repeat(first|((repeat(revert hN;revert N;apply Pn.out));refine wk @ai.eq_1 ?_;(repeat(refine Pn.mk ?_;intro N hN)))|((try apply Or.inl);refine⟨_,aw.x (hb) (sd @ai.eq_1),?_⟩;refine hN _ _ ?_;clear hN N)))
 refine fj ?_ ?_
 ·(try((repeat(revert hN;revert N;apply Pn.out));refine wk (tw @ai.eq_1 @wC) ?_;(repeat(refine Pn.mk ?_;intro N hN))))
  refine .inr (aJ _ _ _ _ _ (fun r σ1 hq=>?_) (qT l h0 (by omega) _))
  obtain⟨g1,x1⟩:=σ1
  obtain⟨o,rfl,q1,q2,q3,q4⟩:=hq
  (try dsimp only at q1 q2 q3 q4)
  have k3:=q4 ⟨92000000,σ.next⟩ (by(try dsimp only);omega)
  have k4:=q4 ⟨92000001,σ.next⟩ (by(try dsimp only);omega)
  have k6:=q4 ⟨92000002,σ.next⟩ (by(try dsimp only);omega)
  simp only[go_sem, ↓reduceIte,Nat.reduceEqDiff,Nat.reduceAdd,Nat.reduceSub,Nat.reduceLeDiff,reduceCtorEq,ai]at k3 k4 k6
  have vo:=dr q3
  refine hN _ _ ?_
  clear hN N
  (try((repeat(revert hN;revert N;apply Pn.out));refine wk (tw @k3 (tw @k4 (tw @k6 (tw @wC @ai.eq_1)))) ?_;(repeat(refine Pn.mk ?_;intro N hN))))
  have Ch:=tx ⟨bL g1 ⟨92002007,x1⟩ ⟨true,3,[[.int .i64 p.eM,.int .i64 p.eG,.int .i64 t]]⟩,x1+1⟩ o ⟨92002007,x1⟩ (l.map ah) [.int .i64 p.eM,.int .i64 p.eG,.int .i64 t] (km l p) (sd (tw @vo @q1)) (sd @Nat.zero_add) (by simp only[go_sem, ↓reduceIte,Nat.reduceEqDiff,Nat.reduceAdd,Nat.reduceSub,Nat.reduceLeDiff,reduceCtorEq,vo]<;>simp) (by rw[List.length_map];exact wH) (by rw[List.length_map];exact jx) (by rw[List.length_map];omega)
  rw[List.length_map,Dz]at Ch
  refine .inr (aJ _ _ _ _ _ (fun r σ2 hq=>?_) Ch)
  obtain⟨g2,x2⟩:=σ2
  obtain⟨u,rfl,u1,u2,u3,u4⟩:=hq
  (try dsimp only at u1 u2 u3 u4)
  have w6:g2 ⟨92000002,σ.next⟩=some ⟨true,1,[[.cj]]⟩:=by
   have h1:=u4 ⟨92000002,σ.next⟩ (by(try dsimp only);omega) (fun e=>by rw[<-e]at q2;(try dsimp only at q2);omega)
   have h2:=dr (i:=⟨92000002,σ.next⟩) (n:=x1) (by(try dsimp only);omega)
   simp only[go_sem, ↓reduceIte,Nat.reduceEqDiff,Nat.reduceAdd,Nat.reduceSub,Nat.reduceLeDiff,reduceCtorEq,h2,k6]at h1
   exact h1
  have Kx:u.br<x2/\σ.next<u.br:=by
   rcases u2 with rfl|h
   ·exact⟨by omega,by(try dsimp only at q2);omega⟩
   ·exact⟨h.2,by omega⟩
  have u6:=da (a:=⟨92000002,σ.next⟩) (b:=u) (by(try dsimp only);omega)
  refine hN _ _ ?_
  clear hN N
  (try((repeat(revert hN;revert N;apply Pn.out));refine wk @w6 ?_;(repeat(refine Pn.mk ?_;intro N hN))))
  exact fe (.inl rfl) (vs:=[.agg [.own u 0 (l.length+1)]]) (sd @Nat.zero_add) ⟨u,rfl,sd (tw @u6 @u1),by omega,by(try dsimp only);omega,fun x hx=>by
   have h1:=dr hx
   have h2:=u4 x (by omega) (fun e=>by rw[e]at hx;omega)
   have h3:=q4 x (by(try dsimp only);omega)
   have h4:=dr (i:=x) (n:=x1) (by omega)
   simp only[go_sem, ↓reduceIte,Nat.reduceEqDiff,Nat.reduceAdd,Nat.reduceSub,Nat.reduceLeDiff,reduceCtorEq,h1]at h3
   simp only[go_sem, ↓reduceIte,Nat.reduceEqDiff,Nat.reduceAdd,Nat.reduceSub,Nat.reduceLeDiff,reduceCtorEq,h1,h2,h3,h4]⟩
 ·(try((repeat(revert hN;revert N;apply Pn.out));refine wk (tw @ai.eq_1 @wC) ?_;(repeat(refine Pn.mk ?_;intro N hN))))
  refine fj ?_ ?_
  ·(try((repeat(revert hN;revert N;apply Pn.out));refine wk (tw @ai.eq_1 @wC) ?_;(repeat(refine Pn.mk ?_;intro N hN))))
   refine .inr (aJ _ _ _ _ _ (fun r σ1 hq=>?_) (qT l h0 (by omega) _))
   obtain⟨g1,x1⟩:=σ1
   obtain⟨o,rfl,q1,q2,q3,q4⟩:=hq
   (try dsimp only at q1 q2 q3 q4)
   have k3:=q4 ⟨92000000,σ.next⟩ (by(try dsimp only);omega)
   have k4:=q4 ⟨92000001,σ.next⟩ (by(try dsimp only);omega)
   have k6:=q4 ⟨92000002,σ.next⟩ (by(try dsimp only);omega)
   simp only[go_sem, ↓reduceIte,Nat.reduceEqDiff,Nat.reduceAdd,Nat.reduceSub,Nat.reduceLeDiff,reduceCtorEq,ai]at k3 k4 k6
   have vo:=dr q3
   refine hN _ _ ?_
   clear hN N
   (try((repeat(revert hN;revert N;apply Pn.out));refine wk (tw @k3 (tw @k4 (tw @k6 (tw @wC @ai.eq_1)))) ?_;(repeat(refine Pn.mk ?_;intro N hN))))
   have Ch:=tx ⟨bL g1 ⟨92002007,x1⟩ ⟨true,3,[[.int .i64 p.eM,.int .i64 p.eG,.int .i64 t]]⟩,x1+1⟩ o ⟨92002007,x1⟩ (l.map ah) [.int .i64 p.eM,.int .i64 p.eG,.int .i64 t] (km l p) (sd (tw @vo @q1)) (sd @Nat.zero_add) (by simp only[go_sem, ↓reduceIte,Nat.reduceEqDiff,Nat.reduceAdd,Nat.reduceSub,Nat.reduceLeDiff,reduceCtorEq,vo]<;>simp) (by rw[List.length_map];exact wH) (by rw[List.length_map];exact jx) (by rw[List.length_map];omega)
   rw[List.length_map,Dz]at Ch
   refine .inr (aJ _ _ _ _ _ (fun r σ2 hq=>?_) Ch)
   obtain⟨g2,x2⟩:=σ2
   obtain⟨u,rfl,u1,u2,u3,u4⟩:=hq
   (try dsimp only at u1 u2 u3 u4)
   have w6:g2 ⟨92000002,σ.next⟩=some ⟨true,1,[[.cj]]⟩:=by
    have h1:=u4 ⟨92000002,σ.next⟩ (by(try dsimp only);omega) (fun e=>by rw[<-e]at q2;(try dsimp only at q2);omega)
    have h2:=dr (i:=⟨92000002,σ.next⟩) (n:=x1) (by(try dsimp only);omega)
    simp only[go_sem, ↓reduceIte,Nat.reduceEqDiff,Nat.reduceAdd,Nat.reduceSub,Nat.reduceLeDiff,reduceCtorEq,h2,k6]at h1
    exact h1
   have Kx:u.br<x2/\σ.next<u.br:=by
    rcases u2 with rfl|h
    ·exact⟨by omega,by(try dsimp only at q2);omega⟩
    ·exact⟨h.2,by omega⟩
   have u6:=da (a:=⟨92000002,σ.next⟩) (b:=u) (by(try dsimp only);omega)
   refine hN _ _ ?_
   clear hN N
   (try((repeat(revert hN;revert N;apply Pn.out));refine wk @w6 ?_;(repeat(refine Pn.mk ?_;intro N hN))))
   exact fe (.inl rfl) (vs:=[.agg [.own u 0 (l.length+1)]]) (sd @Nat.zero_add) ⟨u,rfl,sd (tw @u6 @u1),by omega,by(try dsimp only);omega,fun x hx=>by
    have h1:=dr hx
    have h2:=u4 x (by omega) (fun e=>by rw[e]at hx;omega)
    have h3:=q4 x (by(try dsimp only);omega)
    have h4:=dr (i:=x) (n:=x1) (by omega)
    simp only[go_sem, ↓reduceIte,Nat.reduceEqDiff,Nat.reduceAdd,Nat.reduceSub,Nat.reduceLeDiff,reduceCtorEq,h1]at h3
    simp only[go_sem, ↓reduceIte,Nat.reduceEqDiff,Nat.reduceAdd,Nat.reduceSub,Nat.reduceLeDiff,reduceCtorEq,h1,h2,h3,h4]⟩
  ·(try((repeat(revert hN;revert N;apply Pn.out));refine wk (tw @ai.eq_1 @wC) ?_;(repeat(refine Pn.mk ?_;intro N hN))))
   refine .inr (aJ _ _ _ _ _ (fun r σ1 hq=>?_) (qT l h0 (by omega) _))
   obtain⟨g1,x1⟩:=σ1
   obtain⟨o,rfl,q1,q2,q3,q4⟩:=hq
   (try dsimp only at q1 q2 q3 q4)
   have k3:=q4 ⟨92000000,σ.next⟩ (by(try dsimp only);omega)
   have k4:=q4 ⟨92000001,σ.next⟩ (by(try dsimp only);omega)
   have k6:=q4 ⟨92000002,σ.next⟩ (by(try dsimp only);omega)
   have k7:=q4 ⟨92002007,σ.next+1+1⟩ (by(try dsimp only);omega)
   simp only[go_sem, ↓reduceIte,Nat.reduceEqDiff,Nat.reduceAdd,Nat.reduceSub,Nat.reduceLeDiff,reduceCtorEq,ai]at k3 k4 k6 k7
   have vo:=dr q3
   refine hN _ _ ?_
   clear hN N
   (try((repeat(revert hN;revert N;apply Pn.out));refine wk (tw @k3 (tw @k4 (tw @k6 (tw @k7 (tw @wC @ai.eq_1))))) ?_;(repeat(refine Pn.mk ?_;intro N hN))))
   have Ch:=tx ⟨g1,x1+1⟩ o ⟨92002007,σ.next+1+1⟩ (l.map ah) [.int .i64 p.eM,.int .i64 p.eG,.int .i64 t] (km l p) (sd (tw @vo @q1)) (sd @k7) (fun e=>by rw[e]at q2;(try dsimp only at q2);omega) (by rw[List.length_map];exact wH) (by rw[List.length_map];exact jx) (by rw[List.length_map];omega)
   rw[List.length_map,Dz]at Ch
   refine .inr (aJ _ _ _ _ _ (fun r σ2 hq=>?_) Ch)
   obtain⟨g2,x2⟩:=σ2
   obtain⟨u,rfl,u1,u2,u3,u4⟩:=hq
   (try dsimp only at u1 u2 u3 u4)
   have w6:g2 ⟨92000002,σ.next⟩=some ⟨true,1,[[.cj]]⟩:=by
    have h1:=u4 ⟨92000002,σ.next⟩ (by(try dsimp only);omega) (fun e=>by rw[<-e]at q2;(try dsimp only at q2);omega)
    simp only[go_sem, ↓reduceIte,Nat.reduceEqDiff,Nat.reduceAdd,Nat.reduceSub,Nat.reduceLeDiff,reduceCtorEq,k6]at h1
    exact h1
   have Kx:u.br<x2/\σ.next<u.br:=by
    rcases u2 with rfl|h
    ·exact⟨by omega,by(try dsimp only at q2);omega⟩
    ·exact⟨h.2,by omega⟩
   have u6:=da (a:=⟨92000002,σ.next⟩) (b:=u) (by(try dsimp only);omega)
   refine hN _ _ ?_
   clear hN N
   (try((repeat(revert hN;revert N;apply Pn.out));refine wk @w6 ?_;(repeat(refine Pn.mk ?_;intro N hN))))
   exact fe (.inl rfl) (vs:=[.agg [.own u 0 (l.length+1)]]) (sd @Nat.zero_add) ⟨u,rfl,sd (tw @u6 @u1),by omega,by(try dsimp only);omega,fun x hx=>by
    have h1:=dr hx
    have h2:=u4 x (by omega) (fun e=>by rw[e]at hx;omega)
    have h3:=q4 x (by(try dsimp only);omega)
    simp only[go_sem, ↓reduceIte,Nat.reduceEqDiff,Nat.reduceAdd,Nat.reduceSub,Nat.reduceLeDiff,reduceCtorEq,h1]at h3
    simp only[go_sem, ↓reduceIte,Nat.reduceEqDiff,Nat.reduceAdd,Nat.reduceSub,Nat.reduceLeDiff,reduceCtorEq,h1,h2,h3]⟩
end Go.Proofs.YtgoljkjaameagaaGreat.V
