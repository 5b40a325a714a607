/- Networks by matrices: units are sent. -/
import Derived.Test.YtgoelphibofcmaaGreatRvE
import Derived.Test.YtgoelphibofcmaaGreatRvB
import Derived.Test.YtgoelphibofcmaaGreatRvD
import Derived.Test.YtgoelphibofcmaaGreatRvC
import Derived.Test.YtgoelphibofcmaaGreatChecked
import Derived.ProofKit
import Derived.Deep.Slices
import Derived.ChangeSame
import Derived.Test.YtgoelphibofcmaaGreatRows
import Derived.OpenShut
import Derived.ShutString
import Derived.ChangeOld
import Derived.Below
set_option linter.unusedVariables false
set_option linter.unusedSimpArgs false
set_option maxRecDepth 100000
set_option maxHeartbeats 16000000
namespace Go.Proofs.YtgoelphibofcmaaGreat.V
open Go.RowKit
attribute [local irreducible] ek wpOps gq Call
attribute [local go_sem] aH fF eK ga fZ da upd ck K.av cH AV.cells AV.cell rowOf rowsOf part ld rowAt bF cj dy dW gU bG cX eh fY eU dn ea cV cU dH dI bJ aW cK bI cN cL dY eb dZ cJ bL cW dX bH aL cQ cC gT bj cF bK aT du bf dz AV.undef bw bE dM dU dE dJ cE ef ep cw ee ec cP cR List.getD_cons_zero List.getD_cons_succ List.getD_nil List.all_cons List.all_nil Bool.and_true Bool.true_and Bool.and_self Bool.not_true Bool.not_false Option.map_some Option.map_none Option.bind_some Option.bind_none List.length_cons List.length_nil List.take_succ_cons List.take_zero List.take_nil List.drop_succ_cons List.drop_zero List.drop_nil List.head?_cons List.map_cons List.map_nil List.getElem?_cons_zero List.getElem?_cons_succ List.cons_append List.nil_append List.append_nil List.length_map List.set_cons_zero List.set_cons_succ Nat.reduceMul eq_self Int.toNat_natCast Int.natCast_nonneg and_self true_and and_true decide_true decide_false Bool.false_eq_true Nat.zero_add Nat.add_zero List.contains_cons List.contains_nil Bool.or_false Bool.false_or beq_self_eq_true Nat.reduceBEq ne_eq not_true_eq_false not_false_eq_true Id.mk.injEq false_and and_false Nat.reduceLT Int.reduceLE Int.reduceLT Int.reduceToNat Int.reduceNeg Int.reduceAdd Nat.le_refl List.length_append beq_true beq_false Bool.not_eq_eq_eq_not or_false false_or dF ai ao aG aZ bt bW aP aY aQ aV cI bD
theorem AO (b:Nat):∀(l:List Nat) (a:Nat) (f:Nat->Nat->Int),l8 f ((a::l)++[b])=kn (l8 f (a::l)) ((a::l).getLast (by simp)) b
 |[],a,f=>rfl
 |c::l,a,f=>by
  rw[List.cons_append,List.cons_append,l8,<-List.cons_append,AO b l c (kn f a c),l8,List.getLast_cons_cons]
theorem F7 {p:List Nat} {f:Nat->Nat->Int} {i:Nat} (h1:1<=i) (hi:i<p.length):l8 f (p.take (i+1))=kn (l8 f (p.take i)) (p[i-1]'(by omega)) p[i]:=by
 rw[List.take_succ_eq_append_getElem hi]
 have gY:p.take i≠[]:=by
  intro h
  have:(p.take i).length=0:=by rw[h];rfl
  rw[List.length_take]at this;omega
 obtain⟨a,l,IM⟩:∃a l,p.take i=a::l:=by
  cases h:p.take i with
  |nil=>exact absurd h gY
  |cons a l=>exact⟨a,l,rfl⟩
 have vQ:(p.take i).getLast gY=p[i-1]'(by omega):=by
  rw[List.getLast_eq_getElem,List.getElem_take]
  congr 1
  rw[List.length_take];omega
 simp only[IM]at vQ ⊢
 rw[AO,vQ]
theorem Hb (f:Nat->Nat->Int) (a b u v:Nat):kn f a b u v<=f u v+1/\f u v-1<=kn f a b u v:=by
 unfold kn bump
 split<;>split<;>constructor<;>omega
theorem l9:∀(p:List Nat) (f:Nat->Nat->Int) (u v:Nat),l8 f p u v<=f u v+p.length/\f u v-p.length<=l8 f p u v
 |[],f,u,v=>by simp[l8]
 |[_],f,u,v=>by simp[l8];omega
 |a::b::r,f,u,v=>by
  rw[l8]
  have h1:=l9 (b::r) (kn f a b) u v
  have h2:=Hb f a b u v
  simp only[List.length_cons]at h1 ⊢
  omega
theorem nI.push {g g':Rows} {X o1 o2:Id} {R1 R2:Nat->Id} {n nb:Nat} {c f:Nat->Nat->Int} (I:F0 X o1 o2 R1 R2 n nb) (h:nI g X o1 o2 R1 R2 n c f) {a b:Nat} (ha:a<n) (hb:b<n) (nP:a≠b) (hA:g' (R2 a)=some ⟨true,1,dV (bump f a b 1 a) n⟩) (hB:g' (R2 b)=some ⟨true,1,dV (bump (bump f a b 1) b a (-1) b) n⟩) (hf:∀i:Id,i.bm<nb->(i=R2 a)=False->(i=R2 b)=False->g' i=g i):nI g' X o1 o2 R1 R2 n c (kn f a b):=by
 have ne:∀{i:Id} {s:Nat},i.site=s->(s==245005006)=false->∀a,a<n->(i=R2 a)=False:=fun {i s} hi hs a ha=>by
  simp only[eq_iff_iff,iff_false]
  rintro rfl
  rw[I.ND a ha]at hi
  subst hi
  simp at hs
 refine⟨(hf _ I.vx (ne I.sx (by decide) _ ha) (ne I.sx (by decide) _ hb)).trans h.x,(hf _ I.v1 (ne I.s1 (by decide) _ ha) (ne I.s1 (by decide) _ hb)).trans h.t1,(hf _ I.v2 (ne I.s2 (by decide) _ ha) (ne I.s2 (by decide) _ hb)).trans h.t2,fun i hi=>(hf _ (I.Tx i hi) (ne (I.Tt i hi) (by decide) _ ha) (ne (I.Tt i hi) (by decide) _ hb)).trans (h.r1 i hi),fun i hi=>?_⟩
 by_cases KF:i=b
 ·subst KF;exact hB
 ·by_cases KE:i=a
  ·subst KE
   rw[hA,kn,jY KF]
  ·rw[kn,jY KF,jY KE,hf _ (I.QD i hi) (by simp only[eq_iff_iff,iff_false];exact fun he=>KE (I.i2 i _ hi ha he)) (by simp only[eq_iff_iff,iff_false];exact fun he=>KF (I.i2 i _ hi hb he))]
   exact h.r2 i hi
theorem Pt (cnt:Nat) (zC:1<=cnt) (hn:cnt<=1048576) (c:Nat->Nat->Int) (hc:∀u v,u<cnt->v<cnt->0<=c u v/\c u v<=16777216) (x y:Nat) (hx:x<cnt) (hy:y<cnt) (RP:x≠y) (t:Int) (ht:t<=1099511627776)
  (X o1 o2:Id) (R1 R2:Nat->Id) (nb:Nat) (I:F0 X o1 o2 R1 R2 cnt nb) (σ:ar) (hM:nI σ.get X o1 o2 R1 R2 cnt c (fun _ _=>0)) (Te:nb<=σ.next):
  Call Tryz.prog 246 [.ptr X 0 0,.int .i64 x,.int .i64 y,.int .i64 t] σ fun r σ'=>∃val:Int,r=.int .i64 val/\(val<t↔∃S:Nat->Bool,S x=true/\S y=false/\mb cnt S c<t)/\σ.next<=σ'.next:=by
 refine eV eL rfl fun hl=>?_
 clear hl
 have hxS:(fun v=>decide (v=x)) x=true:=by simp
 have hyS:(fun v=>decide (v=x)) y=false:=by simp;exact fun h=>RP h.symm
 obtain⟨top,Vc⟩:∃top,top=mb cnt (fun v=>decide (v=x)) c:=⟨_,rfl⟩
 (try((repeat(revert hN;revert N;apply Pn.out));refine wk @Nat.zero_add ?_;(repeat(refine Pn.mk ?_;intro N hN))))
 refine aM (fun m env st=>∃(k:Nat) (f:Nat->Nat->Int),m=(top-k).toNat/\env 9=.int .i64 (k:Int)/\lD cnt c f x y k/\nI st.get X o1 o2 R1 R2 cnt c f/\σ.next<=st.next/\(0<k->(k:Int)<=t)/\∀u v,-((k:Int)*(cnt:Int))<=f u v) (top-0).toNat ⟨0,fun _ _=>0,rfl,by(simp only[go_sem, ↓reduceIte,Nat.reduceEqDiff,Nat.reduceAdd,Nat.reduceSub,Nat.reduceLeDiff,reduceCtorEq])<;>rfl,lD.zero fun u v hu hv=>(hc u v hu hv).1,hM,by(try dsimp only);omega,fun h=>absurd h (Nat.lt_irrefl 0),fun u v=>by simp⟩ ?_
 rintro m env_b st_b ⟨k,f,rfl,b9,hF,bM,bn,bk,blo⟩ bkp
 have b0:=bkp 0 (by kernel_rfl)
 have b1:=bkp 1 (by kernel_rfl)
 have b2:=bkp 2 (by kernel_rfl)
 have b3:=bkp 3 (by kernel_rfl)
 simp only[go_sem, ↓reduceIte,Nat.reduceEqDiff,Nat.reduceAdd,Nat.reduceSub,Nat.reduceLeDiff,reduceCtorEq]at b0 b1 b2 b3
 clear bkp
 have hz:cG (dF st_b.get) 6 [.ptr X 0 0,.int .i64 (x:Int),.int .i64 (y:Int)]=some [.dm (lF cnt c f),.int .i64 x,.int .i64 y]:=by simp only[ai,ao,bM.fz,aG,Option.map_some]
 (try((repeat(revert hN;revert N;apply Pn.out));refine wk (tw @b0 (tw @b1 (tw @b2 (tw @b3 @b9)))) ?_;(repeat(refine Pn.mk ?_;intro N hN))))
 refine .inr (aI _ _ _ _ _ (fun r σ1 hq=>?_) ((Sn cnt zC hn c f x y hx hy).x mixed hz))
 obtain⟨O0,rfl⟩:=hq
 refine hN _ _ ?_
 clear hN N
 rcases O0 with⟨rfl,S,Oy,Lp,SS⟩|⟨p,rfl,hW⟩
 ·(try((repeat(revert hN;revert N;apply Pn.out));refine wk (tw @b0 (tw @b1 (tw @b2 (tw @b3 (tw @b9 (tw @Bool.not_true @Bool.not_false)))))) ?_;(repeat(refine Pn.mk ?_;intro N hN))))
  refine fb (.inl rfl) (vs:=[.int .i64 (k:Int)]) (sd @Nat.zero_add) ⟨(k:Int),rfl,⟨fun h=>⟨S,Oy,Lp,by rw[<-hF.full Oy Lp SS];exact h⟩,fun⟨S',h1,h2,h3⟩=>by have:=hF.bound h1 h2;omega⟩,by(try dsimp only);omega⟩
 ·obtain⟨⟨rs,rfl,vQ⟩,lZ,gh,hplt⟩:=hW
  by_cases Lw:t<=(k:Int)
  ·(try((repeat(revert hN;revert N;apply Pn.out));refine wk (tw @b0 (tw @b1 (tw @b2 (tw @b3 (tw @b9 (tw @Lw (tw @Bool.not_true @Bool.not_false))))))) ?_;(repeat(refine Pn.mk ?_;intro N hN))))
   refine fb (.inl rfl) (vs:=[.int .i64 (k:Int)]) (sd @Nat.zero_add) ⟨(k:Int),rfl,⟨fun h=>by omega,fun⟨S',h1,h2,h3⟩=>by have:=hF.bound h1 h2;omega⟩,by(try dsimp only);omega⟩
  ·(try((repeat(revert hN;revert N;apply Pn.out));refine wk (tw @b0 (tw @b1 (tw @b2 (tw @b3 (tw @b9 (tw @Lw (tw @Bool.not_true @Bool.not_false))))))) ?_;(repeat(refine Pn.mk ?_;intro N hN))))
   have mE:=oU cnt _ lZ hplt
   have hkc:(k:Int)*(cnt:Int)<=1099511627776*1048576:=Int.mul_le_mul (by omega) (by omega) (by omega) (by omega)
   have hfb:=hF.bound (S:=fun v=>decide (v=x)) hxS hyS
   have hnear:=l9
   obtain⟨p,hp⟩:∃p,p=x::rs:=⟨_,rfl⟩
   have GB:eN x::List.map eN rs=p.map eN:=by rw[hp];rfl
   rw[GB]
   have OV:1<=p.length:=by rw[hp];simp
   have T6:=hF.aug vQ lZ gh hplt
   rw[<-hp]at T6 lZ gh hplt mE
   have O5:p.take 1=[x]:=by rw[hp];rfl
   clear GB vQ
   refine aM (fun m env st=>∃i:Nat,m=p.length-i/\1<=i/\i<=p.length/\env 11=.int .i64 (i:Int)/\nI st.get X o1 o2 R1 R2 cnt c (l8 f (p.take i))/\st_b.next<=st.next) (p.length-1) ⟨1,rfl,Nat.le_refl _,OV,by(simp only[go_sem, ↓reduceIte,Nat.reduceEqDiff,Nat.reduceAdd,Nat.reduceSub,Nat.reduceLeDiff,reduceCtorEq])<;>rfl,by rw[O5];exact bM,by(try dsimp only);omega⟩ ?_
   rintro m env_c st_c ⟨i,rfl,Lu,nG,nL,cM,cn⟩ ckp
   have c0:=ckp 0 (by kernel_rfl)
   have c1:=ckp 1 (by kernel_rfl)
   have c2:=ckp 2 (by kernel_rfl)
   have c3:=ckp 3 (by kernel_rfl)
   have c9:=ckp 9 (by kernel_rfl)
   have jy:=ckp 10 (by kernel_rfl)
   simp only[go_sem, ↓reduceIte,Nat.reduceEqDiff,Nat.reduceAdd,Nat.reduceSub,Nat.reduceLeDiff,reduceCtorEq,b0,b1,b2,b3,b9]at c0 c1 c2 c3 c9 jy
   clear ckp
   have lH:(p.map eN).length=p.length:=by simp
   by_cases hi:(i:Int)<(p.length:Int)
   ·have fU:i<p.length:=by omega
    have xG:=F7 (f:=f) Lu fU
    obtain⟨a,ha⟩:∃a,a=p[i-1]'(by omega):=⟨_,rfl⟩
    obtain⟨b,hb⟩:∃b,b=p[i]:=⟨_,rfl⟩
    have Fp:a<cnt:=by rw[ha];exact hplt _ (List.getElem_mem _)
    have Fq:b<cnt:=by rw[hb];exact hplt _ (List.getElem_mem _)
    have nP:a≠b:=by
     rw[ha,hb]
     exact List.pairwise_iff_getElem.1 lZ (i-1) i (by omega) fU (by omega)
    have Ro:(p.map eN)[i-1]? =some [.int .i64 (a:Int)]:=by rw[List.getElem?_map,List.getElem?_eq_getElem (by omega),ha];rfl
    have OD:(p.map eN)[i]? =some [.int .i64 (b:Int)]:=by rw[List.getElem?_map,List.getElem?_eq_getElem fU,hb];rfl
    rw[<-ha,<-hb]at xG
    have UU:=l9 (p.take i) f a b
    have UW:=l9 (p.take i) f b a
    rw[List.length_take]at UU UW
    have hl1:=blo b a
    have hl2:=blo a b
    have RI:=hF.le a b Fp Fq
    have hu2:=hF.le b a Fq Fp
    have hca:=hc a b Fp Fq
    have Fs:=hc b a Fq Fp
    generalize l8 f (p.take i)=fl at *
    have gA:=sq (R:=R2) (n:=cnt) Fp
    have gB:=sq (R:=R2) (n:=cnt) Fq
    have rA:=cM.r2 _ Fp
    have rB:=cM.r2 _ Fq
    have cA:=dO (f:=fl a) Fq
    have cB:=dO (f:=fl b) Fp
    have sA:=ox (f:=fl) (a:=a) (d:=1) Fq
    have OT:bump fl a b 1 b=fl b:=jY fun h=>nP h.symm
    have sB:=ox (f:=bump fl a b 1) (a:=b) (b:=a) (d:=-1) (n:=cnt) Fp
    rw[OT]at sB
    have gX:=cM.x
    have g2:=cM.t2
    have gJ:(a:Int)<(cnt:Int):=by omega
    have fx:(b:Int)<(cnt:Int):=by omega
    have Tp:IntKind.i64.wrap ((i:Int)-1)=((i-1:Nat):Int):=by rw[bx (by omega)];omega
    have yk:((i-1:Nat):Int)<(p.length:Int):=by omega
    have wA:IntKind.i64.wrap (fl a b+1)=fl a b+1:=bx (by omega)
    have wB:IntKind.i64.wrap (fl b a-1)=fl b a+-1:=by rw[bx (by omega)];omega
    have RM:IntKind.i64.wrap ((i:Int)+1)=((i+1:Nat):Int):=az (by omega)
    have l2:=j9 R2 cnt cnt
    have lA:=dB (fl a) cnt
    have lB:=dB (fl b) cnt
    have gY:(R2 a=R2 b)=False:=by simp only[eq_iff_iff,iff_false];exact fun h=>nP (I.i2 _ _ Fp Fq h)
    have I3:(R2 b=R2 a)=False:=by simp only[eq_iff_iff,iff_false];exact fun h=>nP (I.i2 _ _ Fp Fq h.symm)
    have xA:=Ai I.sx (I.ND a Fp) (by decide)
    have xB:=Ai I.sx (I.ND b Fq) (by decide)
    have yA:=Ai I.s2 (I.ND a Fp) (by decide)
    have yB:=Ai I.s2 (I.ND b Fq) (by decide)
    have qX:=dx (i:=X) (n:=st_c.next) (by have:=I.vx;omega)
    have q2:=dx (i:=o2) (n:=st_c.next) (by have:=I.v2;omega)
    have qA:=dx (i:=R2 a) (n:=st_c.next) (by have:=I.QD a Fp;omega)
    have qB:=dx (i:=R2 b) (n:=st_c.next) (by have:=I.QD b Fq;omega)
    rw[aw]at cA cB sA sB
    (try((repeat(revert hN;revert N;apply Pn.out));refine wk (tw @c0 (tw @c9 (tw @jy (tw @nL (tw @lH (tw @hi (tw @yk (tw @Ro (tw @OD (tw @gA (tw @gB (tw @rA (tw @rB (tw @cA (tw @cB (tw @sA (tw @sB (tw @gX (tw @g2 (tw @gJ (tw @fx (tw @Tp (tw @wA (tw @wB (tw @RM (tw @l2 (tw @lA (tw @lB (tw @gY (tw @I3 (tw @xA (tw @xB (tw @yA (tw @yB (tw @qX (tw @q2 (tw @qA @qB))))))))))))))))))))))))))))))))))))) ?_;(repeat(refine Pn.mk ?_;intro N hN))))
    refine⟨_,?_,i+1,rfl,by omega,by omega,sd @RM,?_,by(try dsimp only);omega⟩
    ·omega
    ·rw[xG]
     refine cM.push I Fp Fq nP ?_ ?_ fun j hj h1 h2=>?_
     ·simp only[go_sem, ↓reduceIte,Nat.reduceEqDiff,Nat.reduceAdd,Nat.reduceSub,Nat.reduceLeDiff,reduceCtorEq,gY]
     ·simp only[go_sem, ↓reduceIte,Nat.reduceEqDiff,Nat.reduceAdd,Nat.reduceSub,Nat.reduceLeDiff,reduceCtorEq,gY]
     ·simp only[go_sem, ↓reduceIte,Nat.reduceEqDiff,Nat.reduceAdd,Nat.reduceSub,Nat.reduceLeDiff,reduceCtorEq,h1,h2]
   ·have GA:i=p.length:=by omega
    subst GA
    rw[List.take_length]at cM
    have O7:IntKind.i64.wrap ((k:Int)+1)=((k+1:Nat):Int):=az (by omega)
    have UE:=T6.bound (S:=fun v=>decide (v=x)) hxS hyS
    (try((repeat(revert hN;revert N;apply Pn.out));refine wk (tw @c0 (tw @c9 (tw @jy (tw @nL (tw @lH (tw @hi @O7)))))) ?_;(repeat(refine Pn.mk ?_;intro N hN))))
    refine⟨_,?_,k+1,_,rfl,sd @O7,by rw[Int.natCast_add];exact T6,cM,by(try dsimp only);omega,fun _=>by omega,fun u v=>?_⟩
    ·rw[<-Vc]at UE;omega
    ·have h1:=(l9 p f u v).2
     have h2:=blo u v
     rw[Int.natCast_add,Int.add_mul]
     omega
noncomputable def tM (n:Nat) (bs:List PB) (t:Int):Bool:=@decide (kK n bs t) (Classical.propDecidable _)
theorem yp {n:Nat} {bs:List PB} {t:Int} (h:kK n bs t):true=tM n bs t:=by simp[tM,h]
theorem BA {n:Nat} {bs:List PB} {t:Int} (h:¬kK n bs t):false=tM n bs t:=by simp[tM,h]
theorem LB (cnt:Nat) (hn:cnt<=1048576) (bs:List PB) (hb:∀b∈bs,b.a<cnt/\b.b<cnt) (dL:∀b∈bs,0<=b.s/\b.s<=4) (nQ:bs.length<=1048576) (t:Int) (ht:t<=1099511627776):
  aq Tryz.prog 223 [.int .i64 cnt,.sl (bs.map aA),.int .i64 t] (.bool (tM cnt bs t)):=by
 refine aq.body eL rfl fun hl n0=>?_
 clear hl
 have qG:=Aa bs (fun _ _=>0) (fun b h=>(dL b h).1) (fun _ _=>Int.le_refl _)
 have hle:=room_le bs (fun _ _=>0) 0 (fun b h=>(dL b h).2) (fun _ _=>Int.le_refl _) (Int.le_refl _)
 have gh:bs.foldl nJ (fun _ _=>0)=k9 bs:=rfl
 rw[gh]at qG hle
 (try((repeat(revert hN;revert N;apply Pn.out));refine wk @Nat.zero_add ?_;(repeat(refine Pn.mk ?_;intro N hN))))
 refine aM (fun m env st=>∃y:Nat,m=cnt+1-y/\1<=y/\env 7=.int .i64 (y:Int)/\y<=cnt+1/\∀z,1<=z->z<y->z<cnt->∀S:Nat->Bool,S 0=true->S z=false->t<=jh S bs) (cnt+1-1) ⟨1,rfl,Nat.le_refl _,by(simp only[go_sem, ↓reduceIte,Nat.reduceEqDiff,Nat.reduceAdd,Nat.reduceSub,Nat.reduceLeDiff,reduceCtorEq])<;>rfl,by omega,fun z h1 h2=>by omega⟩ ?_
 rintro m env_b st_b ⟨y,rfl,RQ,b7,hyl,dQ⟩ bkp
 have b0:=bkp 0 (by kernel_rfl)
 have b1:=bkp 1 (by kernel_rfl)
 have b2:=bkp 2 (by kernel_rfl)
 simp only[go_sem, ↓reduceIte,Nat.reduceEqDiff,Nat.reduceAdd,Nat.reduceSub,Nat.reduceLeDiff,reduceCtorEq]at b0 b1 b2
 clear bkp
 by_cases hy:(y:Int)<(cnt:Int)
 ·have hyn:y<cnt:=by omega
  (try((repeat(revert hN;revert N;apply Pn.out));refine wk (tw @b0 (tw @b1 (tw @b2 (tw @b7 @hy)))) ?_;(repeat(refine Pn.mk ?_;intro N hN))))
  refine .inr (aI _ _ _ _ _ (fun r σ1 hq=>?_) (Ce cnt (by omega) hn bs hb dL nQ _))
  obtain⟨X,o1,o2,R1,R2,rfl,I,Lx,hM,_⟩:=hq
  refine hN _ _ ?_
  clear hN N
  (try((repeat(revert hN;revert N;apply Pn.out));refine wk (tw @b0 (tw @b1 (tw @b2 @b7))) ?_;(repeat(refine Pn.mk ?_;intro N hN))))
  have hsd:=Pt cnt (by omega) hn (k9 bs) (fun u v _ _=>⟨qG u v,by have:=hle u v;omega⟩) 0 y (by omega) hyn (by omega) t ht X o1 o2 R1 R2 σ1.next I
  refine .inr (aI _ _ _ _ _ (fun r σ2 hq=>?_) (hsd _ hM (by(try dsimp only);omega)))
  obtain⟨val,rfl,s5,mV⟩:=hq
  refine hN _ _ ?_
  clear hN N
  by_cases dR:val<t
  ·(try((repeat(revert hN;revert N;apply Pn.out));refine wk (tw @b0 (tw @b1 (tw @b2 (tw @b7 @dR)))) ?_;(repeat(refine Pn.mk ?_;intro N hN))))
   obtain⟨S,h1,h2,h3⟩:=s5.1 dR
   rw[A6 hb]at h3
   exact aX (b:=false) (.inl rfl) (sd @Nat.zero_add) (BA fun h=>by have:=h S h1 ⟨y,hyn,h2⟩;omega)
  ·have hw:IntKind.i64.wrap ((y:Int)+1)=((y+1:Nat):Int):=az (by omega)
   (try((repeat(revert hN;revert N;apply Pn.out));refine wk (tw @b0 (tw @b1 (tw @b2 (tw @b7 (tw @dR @hw))))) ?_;(repeat(refine Pn.mk ?_;intro N hN))))
   refine⟨_,?_,y+1,rfl,by omega,sd (tw @b7 @hw),by omega,fun z h1 h2 h3 S Oy Lp=>?_⟩
   ·omega
   ·by_cases hzy:z=y
    ·subst hzy
     rcases Int.lt_or_le (jh S bs) t with h|h
     ·exact absurd (s5.2 ⟨S,Oy,Lp,by rw[A6 hb];exact h⟩) dR
     ·exact h
    ·exact dQ z h1 (by omega) h3 S Oy Lp
 ·(try((repeat(revert hN;revert N;apply Pn.out));refine wk (tw @b0 (tw @b1 (tw @b2 (tw @b7 @hy)))) ?_;(repeat(refine Pn.mk ?_;intro N hN))))
  exact aX (b:=true) (.inl rfl) (sd @Nat.zero_add) (yp fun S h0 ⟨z,hz,Qy⟩=>by
   have:z≠0:=by rintro rfl;rw[h0]at Qy;cases Qy
   exact dQ z (by omega) (by omega) hz S h0 Qy)
theorem I5 (cnt:Nat) (hn:cnt<=1048576) (bs:List PB) (hb:∀b∈bs,b.a<cnt/\b.b<cnt) (dL:∀b∈bs,0<=b.s/\b.s<=4) (nQ:bs.length<=1048576) (t:Int) (ht:t<=1099511627776):
  aq Tryz.prog 223 [.int .i64 cnt,Ae bs,.int .i64 t] (.bool (tM cnt bs t)):=by
 have h:=LB cnt hn bs hb dL nQ t ht
 cases bs with
 |nil=>exact h.cut mixed (.same _ (.bV (.same _ .nil)))
 |cons b r=>rw[Af (by simp)];exact h
def CQ:Prop:=∀(s:au) (l:List ae),iH s->lp s l->aq Tryz.prog 222 [.agg (aa s),.agg [.sl (l.map aj)]] (Ae (cY s l))
noncomputable def uJ (s:au) (l:List ae) (t:Int):Bool:=if 64<iv s l t then false else tM (iv s l t) (dv (eA (aJ t (cY s l))) (cY s l)) t
theorem DY (s:au) (l:List ae) (t:Int):uJ s l t=nH s l t:=by
 letI:=Classical.propDecidable (pd l.length (cY s l) t)
 unfold uJ
 by_cases h:64<iv s l t
 ·rw[if_pos h]
  exact(mo (p:=False) ⟨False.elim,fun k=>by have:=k.1;unfold iv at h;omega⟩).symm.trans (by simp) |>.symm
 ·rw[if_neg h]
  by_cases hp:kK (iv s l t) (dv (eA (aJ t (cY s l))) (cY s l)) t
  ·rw[<-yp hp]
   exact((mo (p:=True) ⟨fun _=>⟨by unfold iv at h;omega,hp⟩,fun _=>trivial⟩).symm.trans (by simp)).symm
  ·rw[<-BA hp]
   exact((mo (p:=False) ⟨False.elim,fun k=>hp k.2⟩).symm.trans (by simp)).symm
theorem J3 (TZ:CQ) (s:au) (l:List ae) (t:Int) (ht:t<=1099511627776) (h1:1<=l.length) (hS:iH s) (hA:lp s l):aq Tryz.prog 197 [.agg (aa s),.agg [.sl (l.map aj)],.int .i64 t] (.iC [.bool (nH s l t),.bool (decide ¬64<iv s l t)]):=by
 rw[<-DY]
 refine aq.body eL rfl fun hl n0=>?_
 clear hl
 have hb:=xW (l:=l) hS
 have nQ:=qm (s:=s) hA.1
 have Gz:=hA.1.Bd
 have yi:=TZ s l hS hA
 have Rh:=zk l.length h1 (by omega) (cY s l) (fun b h=>⟨(hb b h).1,(hb b h).2.1⟩) (by omega) t
 have hL:=tQ (aJ t (cY s l))
 have fU:=Ey hL (fun b h=>⟨(hb b h).1,(hb b h).2.1⟩)
 have hlen:=(nr (eA (aJ t (cY s l))) (cY s l)).1
 have nR:=jM l.length (eA (aJ t (cY s l)))
 have hho:=I5 (iv s l t) (by unfold iv;omega) (dv (eA (aJ t (cY s l))) (cY s l)) (fun b h=>⟨(fU b h).1,(fU b h).2.1⟩) (fun b h=>by
  obtain⟨_,_,_,c,hc,dr⟩:=fU b h
  rw[dr];have:=hb c hc;omega) (by omega) t ht
 have e6:(l.map aj).length=l.length:=by simp
 have hzB:∀(g:Rows) (n:Nat) (bs:List PB),V.fz g (n+1) (Ae bs)=some (Ae bs):=fun g n bs=>by
  unfold Ae;split
  ·exact aP _ _
  ·exact bW _ _ _
 rw[aa]at yi
 rw[<-iv]at Rh
 have xn:∀(g:Rows) (x:Int),cG (dF g) 6 [.int .i64 l.length,Ae (cY s l),.int .i64 x]=some [.int .i64 l.length,Ae (cY s l),.int .i64 x]:=fun g x=>by simp only[ai,ao,aG,hzB,Option.map_some]
 have hzh:∀(g:Rows) (x y:Int),cG (dF g) 6 [.int .i64 x,Ae (dv (eA (aJ t (cY s l))) (cY s l)),.int .i64 y]=some [.int .i64 x,Ae (dv (eA (aJ t (cY s l))) (cY s l)),.int .i64 y]:=fun g x y=>by simp only[ai,ao,aG,hzB,Option.map_some]
 generalize Ae (cY s l)=B1 at *
 generalize Ae (dv (eA (aJ t (cY s l))) (cY s l))=B2 at *
 by_cases ui:(64:Int)<(iv s l t:Int)
 ·have uj:64<iv s l t:=by omega
  (repeat(first|((repeat(revert hN;revert N;apply Pn.out));refine wk (tw @aa.eq_1 (tw @ui @e6)) ?_;(repeat(refine Pn.mk ?_;intro N hN)))|((try apply Or.inl);refine⟨_,aq.x (yi) (sd (tw @aa.eq_1 (tw @ui @e6))),?_⟩;refine hN _ _ ?_;clear hN N)))
  refine⟨_,aq.x Rh (xn _ _),?_⟩
  refine hN _ _ ?_
  clear hN N
  (try((repeat(revert hN;revert N;apply Pn.out));refine wk @ui ?_;(repeat(refine Pn.mk ?_;intro N hN))))
  exact jw (.inl rfl) (r1:=.bool false) (r2:=.bool false) (sd @Nat.zero_add) (sd @Nat.zero_add) (by rw[uJ,if_pos uj,decide_eq_false fun h=>h uj];simp only[eT,bB,cr,fR,Option.map_some])
 ·have uj:¬64<iv s l t:=by omega
  (repeat(first|((repeat(revert hN;revert N;apply Pn.out));refine wk (tw @aa.eq_1 (tw @ui @e6)) ?_;(repeat(refine Pn.mk ?_;intro N hN)))|((try apply Or.inl);refine⟨_,aq.x (yi) (sd (tw @aa.eq_1 (tw @ui @e6))),?_⟩;refine hN _ _ ?_;clear hN N)))
  refine⟨_,aq.x Rh (xn _ _),?_⟩
  refine hN _ _ ?_
  clear hN N
  (try((repeat(revert hN;revert N;apply Pn.out));refine wk @ui ?_;(repeat(refine Pn.mk ?_;intro N hN))))
  refine .inl ⟨_,aq.x hho (hzh _ _ _),?_⟩
  refine hN _ _ ?_
  clear hN N
  (try((repeat(revert hN;revert N;apply Pn.out));refine wk @Nat.zero_add ?_;(repeat(refine Pn.mk ?_;intro N hN))))
  exact jw (.inl rfl) (r1:=.bool (tM (iv s l t) (dv (eA (aJ t (cY s l))) (cY s l)) t)) (r2:=.bool true) (sd @Nat.zero_add) (sd @Nat.zero_add) (by rw[uJ,if_neg uj,decide_eq_true uj];simp only[eT,bB,cr,fR,Option.map_some])
theorem ur (t:Int):aq Tryz.prog 196 [.int .i64 t] (.bool (iO t 1 16)):=by
 refine aq.body eL rfl fun hl n0=>?_
 clear hl
 have h:=lj t 1 16
 (repeat(first|((repeat(revert hN;revert N;apply Pn.out));refine wk @Nat.zero_add ?_;(repeat(refine Pn.mk ?_;intro N hN)))|((try apply Or.inl);refine⟨_,aq.x (h) (sd @Nat.zero_add),?_⟩;refine hN _ _ ?_;clear hN N)))
 exact aX (b:=iO t 1 16) (.inl rfl) (sd @Nat.zero_add) rfl
theorem xr (TZ:CQ) (s:aD) (hn:gK s.aB) (hg:s.aB.ax.length<=1048576) (ht:s.aB.ah.length<=1048576) (hs:∀t∈s.aB.ah,t.br.length<=1048576) (hl:s.cu.ah.length<=1048576):aq Tryz.prog 105 [.agg (aC s)] (.bool (nu s)):=by
 refine aq.body eL rfl fun nS n0=>?_
 clear nS
 by_cases h0:(s.cu.ah.length:Int)=0
 ·have hd:decide ((s.cu.ah.length:Int)=0)=true:=decide_eq_true h0
  (try((repeat(revert hN;revert N;apply Pn.out));refine wk (tw @aC.eq_1 @hd) ?_;(repeat(refine Pn.mk ?_;intro N hN))))
  exact aX (b:=false) (.inl rfl) (sd @Nat.zero_add) (jV fun h=>by have:=h.some;omega)
 have hd:decide ((s.cu.ah.length:Int)=0)=false:=decide_eq_false h0
 have Oz:=nB s.aB s.cu.ah hn hg ht hs hl
 have Q5:=ur s.ay
 have key:aq Tryz.prog 163 [.agg (aa s.aB),.agg [.sl (s.cu.ah.map aj)],.int .i64 s.ay] (.iC [.bool (nu s),.int .i64 (if q9 s.aB&&pO s.aB s.cu.ah then(if iO s.ay 1 16 then(if 64<iv s.aB s.cu.ah s.ay then 4 else 0)else 2)else 1)]):=by
  refine aq.body eL rfl fun nS n0=>?_
  clear nS
  rw[aa]at Oz
  cases hA:q9 s.aB&&pO s.aB s.cu.ah
  ·rw[hA]at Oz
   have lr:nu s=false:=(jV fun h=>by rw[mm.2 h.set,l7.2 h.Ps]at hA;cases hA).symm
   (repeat(first|((repeat(revert hN;revert N;apply Pn.out));refine wk @aa.eq_1 ?_;(repeat(refine Pn.mk ?_;intro N hN)))|((try apply Or.inl);refine⟨_,aq.x (Oz) (sd @aa.eq_1),?_⟩;refine hN _ _ ?_;clear hN N)))
   exact jw (.inl rfl) (r1:=.bool false) (r2:=.int .i64 1) (sd @Nat.zero_add) (sd @Nat.zero_add) (by rw[lr];simp only[eT,bB,cr,fR,eC,Option.map_some];rfl)
  rw[hA]at Oz
  simp only[Bool.and_eq_true]at hA
  have hS:=mm.1 hA.1
  have hP:=l7.1 hA.2
  cases hT:iO s.ay 1 16
  ·rw[hT]at Q5
   have lr:nu s=false:=(jV fun h=>by have:=h.ML;rw[hT]at this;cases this).symm
   (repeat(first|((repeat(revert hN;revert N;apply Pn.out));refine wk @aa.eq_1 ?_;(repeat(refine Pn.mk ?_;intro N hN)))|((try apply Or.inl);refine⟨_,aq.x (Oz) (sd @aa.eq_1),?_⟩;refine hN _ _ ?_;clear hN N)|((try apply Or.inl);refine⟨_,aq.x (Q5) (sd @aa.eq_1),?_⟩;refine hN _ _ ?_;clear hN N)))
   exact jw (.inl rfl) (r1:=.bool false) (r2:=.int .i64 2) (sd @Nat.zero_add) (sd @Nat.zero_add) (by rw[lr];simp only[eT,bB,cr,fR,eC,Option.map_some];rfl)
  have LL:=eu hT
  rw[hT]at Q5
  have dL:=J3 TZ s.aB s.cu.ah s.ay (by omega) (by omega) hS hP
  rw[aa]at dL
  have hsy:nu s=nH s.aB s.cu.ah s.ay:=by
   cases hB:nH s.aB s.cu.ah s.ay
   ·exact(jV fun h=>by have:=pD.2 h.holds;rw[hB]at this;cases this).symm
   ·exact(Cr ⟨hS,hP,by omega,hT,pD.1 hB⟩).symm
  by_cases ui:64<iv s.aB s.cu.ah s.ay
  ·rw[decide_eq_false fun h=>h ui]at dL
   have lr:nu s=false:=(jV fun h=>by have:=h.holds.1;unfold iv at ui;omega).symm
   (repeat(first|((repeat(revert hN;revert N;apply Pn.out));refine wk @aa.eq_1 ?_;(repeat(refine Pn.mk ?_;intro N hN)))|((try apply Or.inl);refine⟨_,aq.x (Oz) (sd @aa.eq_1),?_⟩;refine hN _ _ ?_;clear hN N)|((try apply Or.inl);refine⟨_,aq.x (Q5) (sd @aa.eq_1),?_⟩;refine hN _ _ ?_;clear hN N)|((try apply Or.inl);refine⟨_,aq.x (dL) (sd @aa.eq_1),?_⟩;refine hN _ _ ?_;clear hN N)))
   exact jw (.inl rfl) (r1:=.bool false) (r2:=.int .i64 4) (sd @Nat.zero_add) (sd @Nat.zero_add) (by rw[lr,if_pos ui];simp only[eT,bB,cr,fR,eC,Option.map_some])
  ·rw[decide_eq_true ui,<-hsy]at dL
   (repeat(first|((repeat(revert hN;revert N;apply Pn.out));refine wk @aa.eq_1 ?_;(repeat(refine Pn.mk ?_;intro N hN)))|((try apply Or.inl);refine⟨_,aq.x (Oz) (sd @aa.eq_1),?_⟩;refine hN _ _ ?_;clear hN N)|((try apply Or.inl);refine⟨_,aq.x (Q5) (sd @aa.eq_1),?_⟩;refine hN _ _ ?_;clear hN N)|((try apply Or.inl);refine⟨_,aq.x (dL) (sd @aa.eq_1),?_⟩;refine hN _ _ ?_;clear hN N)))
   exact jw (.inl rfl) (r1:=.bool (nu s)) (r2:=.int .i64 0) (sd @Nat.zero_add) (sd @Nat.zero_add) (by rw[if_neg ui];simp only[eT,bB,cr,fR,eC,Option.map_some])
 generalize hcode:(if q9 s.aB&&pO s.aB s.cu.ah then(if iO s.ay 1 16 then(if 64<iv s.aB s.cu.ah s.ay then(4:Int)else 0)else 2)else 1)=code at key
 rw[aa]at key
 cases hB:nu s
 ·rw[hB]at key
  (repeat(first|((repeat(revert hN;revert N;apply Pn.out));refine wk (tw @aC.eq_1 @hd) ?_;(repeat(refine Pn.mk ?_;intro N hN)))|((try apply Or.inl);refine⟨_,aq.x (key) (sd (tw @aC.eq_1 @hd)),?_⟩;refine hN _ _ ?_;clear hN N)))
  exact aX (b:=false) (.inl rfl) (sd @Nat.zero_add) rfl
 ·rw[hB]at key
  have hP:=w9.1 hB
  have hc:code=0:=by
   rw[<-hcode,mm.2 hP.set,l7.2 hP.Ps,hP.ML]
   have:=hP.holds.1
   simp only[Bool.and_self,if_true]
   rw[if_neg (by unfold iv;omega)]
  rw[hc]at key
  (repeat(first|((repeat(revert hN;revert N;apply Pn.out));refine wk (tw @aC.eq_1 @hd) ?_;(repeat(refine Pn.mk ?_;intro N hN)))|((try apply Or.inl);refine⟨_,aq.x (key) (sd (tw @aC.eq_1 @hd)),?_⟩;refine hN _ _ ?_;clear hN N)))
  exact aX (b:=true) (.inl rfl) (sd @Nat.zero_add) rfl
end Go.Proofs.YtgoelphibofcmaaGreat.V

namespace Go.Proofs.YtgoelphibofcmaaGreat.V
open Go.RowKit Go.Shelf
attribute [local go_sem] Oper.semAt_some
def ik (n₀:Nat) (W W':World):Prop:=W.heap.size<=W'.heap.size/\(∀(b:Nat) (cells:Array Value) (T:TypeId) (fr:Nat×Nat),W.heap[b]? =some (Obj.cells cells T fr)->T≠226->T≠246->W'.heap[b]? =W.heap[b]?)/\∀k,k<n₀->k<W.heap.size->W'.heap[k]? =W.heap[k]?
theorem ik.trans {n₀:Nat} {A B C:World} (h:ik n₀ A B) (k:ik n₀ B C):ik n₀ A C:=⟨Nat.le_trans h.1 k.1,fun b cells T fr hb h1 h2=>by
 have e:=h.2.1 b cells T fr hb h1 h2
 rw[<-e]at hb ⊢
 exact k.2.1 b cells T fr hb h1 h2,fun b hb hs=>(k.2.2 b hb (Nat.lt_of_lt_of_le hs h.1)).trans (h.2.2 b hb hs)⟩
theorem ik.of {n₀:Nat} {W W':World} (h:Below W.heap.size W W'):ik n₀ W W':=⟨h.size,fun b cells T fr hb _ _=>h.block b (Array.getElem?_eq_some_iff.1 hb).1,fun k _ hs=>h.block k hs⟩
theorem ik.refl (n₀:Nat) (W:World):ik n₀ W W:=⟨Nat.le_refl _,fun _ _ _ _ _ _ _=>rfl,fun _ _ _=>rfl⟩
theorem ik.b {n₀ m:Nat} (hm:n₀<=m) (W:World) (l:Nat) (o o':Obj) (hl:m<=l) (h:W.heap[l]? =some o) (hc:o.isCells=false) (_:o.isWalk=false):ik n₀ W (W.putObj l o'):=by
 refine⟨by simp,fun b cells T fr hb _ _=>?_,fun k hk _=>World.putObj_heap_other (by omega)⟩
 by_cases nQ:b=l
 ·subst nQ;rw[h]at hb;cases hb;cases hc
 ·exact World.putObj_heap_other nQ
def K2 (bs:List PB):List Value:=bs.flatMap fun b=>[.int .i64 b.a,.int .i64 b.b,.int .i64 b.s]
theorem Ig (bs:List PB) (b:PB):K2 (bs++[b])=K2 bs++[.int .i64 b.a,.int .i64 b.b,.int .i64 b.s]:=by simp[K2]
def nK (s:au) (l:List ae) (pre:List (NK l)):List PB:=(pre.map (·.1)).flatMap (zf s l)
theorem xU (s:au) (l:List ae) (pre:List (NK l)) (x:NK l):nK s l (pre++[x])=nK s l pre++zf s l x.1:=by simp[nK]
theorem Ie (s:au) (l:List ae) (x:Nat×Nat×Int):(zf s l x).length<=1:=by
 unfold zf;split<;>simp
theorem Ih (s:au) (l:List ae) (pre:List (NK l)):(nK s l pre).length<=pre.length:=by
 unfold nK
 induction pre with
 |nil=>simp
 |cons x r ih=>
  have:=Ie s l x.1
  simp only[List.map_cons,List.flatMap_cons,List.length_append,List.length_cons]at ih ⊢
  omega
theorem yM (l:List ae) (i:Nat):∀m,(kV l i m).length<=m
 |0=>by simp[kV]
 |m+1=>by
  rw[ni,List.length_append]
  have:=yM l i m
  have:(Cc l i (1-(m:Int))).length<=1:=by unfold Cc;split<;>simp
  omega
theorem Cd (l:List ae):∀n,(lx l n).length<=n*2
 |0=>by simp[lx]
 |n+1=>by
  rw[mh,List.length_append]
  have:=Cd l n
  have:=yM l n 2
  omega
theorem Bu {β:Type} (B:Nat) (c:Array Value) (t:TypeId) (fr:Nat×Nat):Own (fun(_:β) W=>W.heap[B]? =some (.cells c t fr)):=fun _ X _ row h hg hr=>(hg.block B (Array.getElem?_eq_some_iff.1 h).1 (fun e=>by
 obtain⟨o,ho,hc⟩:=hr B e.symm
 rw[h]at ho;cases ho;cases hc)).trans h
theorem ik.app {n₀:Nat} {W w1:World} {B k:Nat} {v v':Value} {xs:List Value} {tmp:Obj} (hv:Boxed W B 226 v) (e6:W.ownsRow n₀ 246 3 v k xs) (yj:(W.alloc tmp).grownBy w1 v.ownBlock) (hb:Below n₀ W (w1.setCell ⟨B,0,none⟩ v')):ik n₀ W (w1.setCell ⟨B,0,none⟩ v'):=by
 refine⟨hb.size,fun b cells T fr h h1 h2=>?_,fun k hk _=>hb.block k hk⟩
 have dR:=(Array.getElem?_eq_some_iff.1 h).1
 have hbB:b≠B:=by
  rintro rfl
  rw[show W.heap[b]? = _ from hv]at h
  cases h
  exact h1 rfl
 have SV:some b≠v.ownBlock:=by
  rcases e6.2 with⟨rfl,_⟩|⟨g,cap,cur,rfl,_,hg,_⟩
  ·simp[Value.ownBlock]
  ·intro e
   obtain rfl:b=g:=by simpa[Value.ownBlock]using e
   rw[hg]at h;cases h
   exact h2 rfl
 refine(Below.heap_setCell w1 ⟨B,0,none⟩ v' b hbB).trans ?_
 exact(yj.block b (by simp;omega) SV).trans (Below.heap_alloc W tmp b dR)
theorem RW {w:World} {vS:Value} {l:List ae} (hP:pN w vS l):HW (ik w.heap.size) vS l where
 refl:=ik.refl _
 trans:=ik.trans
 of:=ik.of
 size h:=h.1
 typed h:=h.2.1
 pl {W W'} h hp:=by
  obtain⟨A,c,rfl,hm,hc⟩:=hp.sl
  refine⟨A,c,rfl,hm,?_⟩
  by_cases hl:l=[]
  ·exact .inl hl
  have lu:0<l.length:=List.length_pos_iff.2 hl
  rcases hc with h0|⟨b,o,rfl,km⟩
  ·exact absurd h0 hl
  obtain⟨A',c',e,_,kg⟩:=hP.sl
  cases e
  rcases kg with h0|⟨b',o',e,hcell'⟩
  ·exact absurd h0 hl
  cases e
  have hb:=uB (hcell' 0 lu).1
  have hk:=h.2.2 b hb (uB (km 0 lu).1)
  refine .inr ⟨b,o,rfl,fun i hi=>?_⟩
  have zz:∀x,W'.cell? ⟨b,x,none⟩=W.cell? ⟨b,x,none⟩:=fun x=>World.cell?_of_block hk
  rw[zz,zz,zz]
  exact km i hi
theorem rrE {P:Program} {nt site0:Nat} {ops:Array Oper} {vl:List bq} (_:zg P ops site0 false (jz ops) (r5 P false ops.toList 0) ops.toList 0=some vl:=by(conv=>lhs;cbv)<;>exact rfl) (h:rJ P nt site0 ops true false=some vl:=by kernel_rfl):rJ P nt site0 ops true false=some vl:=h
theorem Jo (l:List Value) (d:Value):l=(List.range l.length).map fun i=>(⟨l⟩:Array Value).getD i d:=by
 refine List.ext_getElem (by simp) fun i h1 h2=>?_
 simp[h1]
theorem Ei {X:fG} {d:Bool} {ops:List bq} {K:Env->ar->Prop} {env:Env} {σ:ar} (h:ek X (.eB d ops) (fun _=>K) env σ):wpOps X d ops K env σ:=h
theorem vz (W:World) (T:TypeId) (x y z:Value):∀(j:Nat) (u:Value),[x,y,z][j]? =some u->(W.alloc (.cells #[x,y,z] T)).cell? ((⟨W.heap.size,0,none⟩:Addr).add j)=some u:=fun j u h=>by
 have hb:(W.alloc (.cells #[x,y,z] T)).heap[W.heap.size]? =some (.cells #[x,y,z] T (0,0)):=World.alloc_heap_new _ _
 have e:∀k,(W.alloc (.cells #[x,y,z] T)).cell? ⟨W.heap.size,k,none⟩=(#[x,y,z]:Array Value)[k]? :=fun k=>by
  unfold World.cell?
  rw[show(W.alloc (.cells #[x,y,z] T)).heap[(⟨W.heap.size,k,none⟩:Addr).block]? = _ from hb]
  rfl
 rw[show(⟨W.heap.size,0,none⟩:Addr).add j=⟨W.heap.size,j,none⟩ by simp[Addr.add];exact fun h=>h.symm,e]
 simpa using h
def Io (n b:Nat):Names:=fun id=>if id=⟨1,0⟩then some ⟨n,2,2,none⟩else if id=⟨2,0⟩then some ⟨n+1,1,1,none⟩else if id=⟨3,0⟩then some ⟨n+1+1,1,1,none⟩else if id=⟨4,0⟩then some ⟨b,2,2,none⟩else if id=⟨5,0⟩then some ⟨n+1+1+1,1,1,none⟩else none
def M6 (s:au) (l:List ae) (i k:Nat):Rows:=fun id=>if id=⟨1,0⟩then some ⟨false,2,[aa s]⟩else if id=⟨2,0⟩then some ⟨false,1,[[.sl (l.map aj)]]⟩else if id=⟨4,0⟩then some ⟨false,2,[[.int .i64 (i:Int),.int .i64 (k:Int)]]⟩else none
def N1 (s:au) (l:List ae) (i k:Nat) (d:Int):Env:=ck [.agg (aa s),.agg [.sl (l.map aj)],.ptr ⟨1,0⟩ 0 0,.ptr ⟨2,0⟩ 0 0,.bV,.ptr ⟨3,0⟩ 0 0,.ptr ⟨4,0⟩ 0 0,.int .i64 d,.undef,.agg [.sl (l.map aj)],.fn 264 [.ptr ⟨5,0⟩ 0 0],.agg [.int .i64 (i:Int),.int .i64 (k:Int)],.int .i64 d]
theorem Et {P:Program} {W:World} {D:Nat->Prop} {ι:Names} {B:sK} {cells:Array Value} {T:TypeId} {cs:List AV} (hk:B.k=none) (hb:W.heap[B.b]? =some (.cells cells T (0,0))) (hC:cells.size=B.C) (hz:B.sz=cs.length) (hl:cs.length=cells.size) (hf:∀a∈cs,a.cell=true) (hr:∀(j:Nat) (a:AV),cs[j]? =some a->∃v,cells[j]? =some v/\dc P W D ι a v):ia P W D ι B ⟨false,cs.length,[cs]⟩:=
 kM.obj ⟨hz,⟨cells,T,hb,hC⟩,by simp;omega,fun c hc=>by simp at hc;rw[hc],fun c hc=>by simp at hc;rw[hc];exact hf,fun i j c a hi hj=>by
  match i,hi with
  |0,hi=>
   simp at hi;subst hi
   obtain⟨v,h1,h2⟩:=hr j a hj
   exact⟨v,by simp[World.cell?,hb,h1],h2⟩
  |i+1,hi=>simp at hi⟩ hk
theorem Je:(Tryz.prog.info? 246).map (fun i=>(i.zero,i.size,i.bytes))=some (some (.agg #[.int .i64 0,.int .i64 0,.int .i64 0]),3,24):=by kernel_rfl
end Go.Proofs.YtgoelphibofcmaaGreat.V

namespace Go.Proofs.YtgoelphibofcmaaGreat.V
open Go.RowKit Go.Shelf
attribute [local go_sem] Oper.semAt_some
attribute [local irreducible] ek wpOps gq Call
attribute [local go_sem] aH fF eK ga fZ da upd ck K.av cH AV.cells AV.cell rowOf rowsOf part ld rowAt bF cj dy dW gU bG cX eh fY eU dn ea cV cU dH dI bJ aW cK bI cN cL dY eb dZ cJ bL cW dX bH aL cQ cC gT bj cF bK aT du bf dz AV.undef bw bE dM dU dE dJ cE ef ep cw ee ec cP cR List.getD_cons_zero List.getD_cons_succ List.getD_nil List.all_cons List.all_nil Bool.and_true Bool.true_and Bool.and_self Bool.not_true Bool.not_false Option.map_some Option.map_none Option.bind_some Option.bind_none List.length_cons List.length_nil List.take_succ_cons List.take_zero List.take_nil List.drop_succ_cons List.drop_zero List.drop_nil List.head?_cons List.map_cons List.map_nil List.getElem?_cons_zero List.getElem?_cons_succ List.cons_append List.nil_append List.append_nil List.length_map List.set_cons_zero List.set_cons_succ Nat.reduceMul eq_self Int.toNat_natCast Int.natCast_nonneg and_self true_and and_true decide_true decide_false Bool.false_eq_true Nat.zero_add Nat.add_zero List.contains_cons List.contains_nil Bool.or_false Bool.false_or beq_self_eq_true Nat.reduceBEq ne_eq not_true_eq_false not_false_eq_true Id.mk.injEq false_and and_false Nat.reduceLT Int.reduceLE Int.reduceLT Int.reduceToNat Int.reduceNeg Int.reduceAdd Nat.le_refl List.length_append beq_true beq_false Bool.not_eq_eq_eq_not or_false false_or dF ai ao aG aZ bt bW aP aY aQ aV cI bD
theorem Il (s:au) (l:List ae) (hF:je s) (hA:lp s l) (w:World) (Ag At:Option Addr) (ng cg nt ct:Nat) (vS:Value) (hT:jC Tryz.prog w (fun b=>b<w.heap.size) (.agg (aa s)) (.agg #[.slice Ag ng cg,.slice At nt ct])) (hP:pN w vS l):
  CallsIn Fence.wide 5 Tryz.prog 222 #[.agg #[.slice Ag ng cg,.slice At nt ct],.agg #[vS]] w fun e W'=>∃v,e=.returned v/\W'.ownsRow w.heap.size 246 3 v (cY s l).length (K2 (cY s l))/\(v=.slice none 0 0↔cY s l=[])/\Below w.heap.size w W':=by
 obtain⟨A,cp,rfl,_,_⟩:=hP.sl
 obtain⟨i0,hi,Fx,yw,kz⟩:=info_parts Je
 refine callsIn_of_wp_marks Tryz.func222 rfl trivial ?_ rfl
 simp only[Tryz.ntmps222,List.size_toArray,List.length_cons,List.length_nil,Nat.reduceAdd,Nat.reduceSub,Array.replicate_succ,Array.replicate_zero,List.push_toArray,List.append_toArray,List.nil_append,List.cons_append]
 gi_wp2_with (refine⟨trivial,?_⟩;gi_at_call 244;refine(zU _ _ _).mono ?_;rintro e w' ⟨rfl,rfl⟩)
 have bT:((w.alloc (.cells #[.slice Ag ng cg,.slice At nt ct] 38)).heap[w.heap.size]?)=some (.cells #[.slice Ag ng cg,.slice At nt ct] 38 (0,0)):=World.alloc_heap_new _ _
 obtain⟨w1,oP⟩:∃w1,w.alloc (.cells #[.slice Ag ng cg,.slice At nt ct] 38)=w1:=⟨_,rfl⟩
 have Qz:w1.heap.size=w.heap.size+1:=by rw[<-oP];simp
 have Aw:Below w.heap.size w w1:=by rw[<-oP];exact(Below.refl _ w).alloc (Nat.le_refl _) _
 rw[oP]at bT ⊢
 clear oP
 have bA:=Boxed.new w1 41 (.slice A l.length cp)
 have bO:=Boxed.new (w1.alloc (.cells #[.slice A l.length cp] 41)) 226 (.slice none 0 0)
 have bN:=Boxed.new ((w1.alloc (.cells #[.slice A l.length cp] 41)).alloc (.cells #[.slice none 0 0] 226)) 41 (.slice A l.length cp)
 replace bA:=(bA.alloc (.cells #[.slice none 0 0] 226)).alloc (.cells #[.slice A l.length cp] 41)
 replace bO:=bO.alloc (.cells #[.slice A l.length cp] 41)
 simp only[World.size_alloc,Qz]at bA bO bN
 have pR:Below w1.heap.size w1 (((w1.alloc (.cells #[.slice A l.length cp] 41)).alloc (.cells #[.slice none 0 0] 226)).alloc (.cells #[.slice A l.length cp] 41)):=(((Below.refl _ w1).alloc (Nat.le_refl _) _).alloc (by simp) _).alloc (by simp;omega) _
 have fa:(((w1.alloc (.cells #[.slice A l.length cp] 41)).alloc (.cells #[.slice none 0 0] 226)).alloc (.cells #[.slice A l.length cp] 41)).heap.size=w.heap.size+4:=by simp;omega
 obtain⟨W0,Q6⟩:∃W0,((w1.alloc (.cells #[.slice A l.length cp] 41)).alloc (.cells #[.slice none 0 0] 226)).alloc (.cells #[.slice A l.length cp] 41)=W0:=⟨_,rfl⟩
 rw[Q6]at bA bO bN pR fa ⊢
 clear Q6
 have xj:Below w.heap.size w W0:=Aw.trans (pR.mono (by omega))
 replace bT:=(pR.block w.heap.size (by omega)).trans bT
 have hP0:pN W0 (.slice A l.length cp) l:=hP.below xj
 have kl:=RW hP
 have nQ:=qm (s:=s) hA.1
 refine wpIn_rangeFunc_ownH (n:=5) rfl (by omega) (gf:=264) (lb:= #[.pointer (some ⟨w.heap.size+1+1+1,0,none⟩)]) rfl trivial (enters_of Tryz.func264 (by kernel_rfl) rfl)
  (JC l hA.1 (w.heap.size+1+1+1) (5-1) (by omega) (.slice A l.length cp) (ik w.heap.size) kl W0 bN hP0) ik.trans (ik.b (by omega)) (Below.refl _ _) (fun _=>rfl)
  (fun pre W=>((∃v,Boxed W (w.heap.size+1+1) 226 v/\W.ownsRow w.heap.size 246 3 v (nK s l pre).length (K2 (nK s l pre))/\(v=.slice none 0 0↔nK s l pre=[]))/\(Boxed W (w.heap.size+1) 41 (.slice A l.length cp)/\W.heap[w.heap.size]? =some (.cells #[.slice Ag ng cg,.slice At nt ct] 38 (0,0))))/\Below w.heap.size w W)
  (fun _ _ _=>False)
  (OwnFrom.and (OwnFrom.and (Own.from (holdsRow_own w.heap.size (w.heap.size+1+1) 226 246 3 (fun pre=>(nK s l pre).length) (fun pre=>K2 (nK s l pre)) (fun pre v=>v=.slice none 0 0↔nK s l pre=[])) _) (OwnFrom.and (Own.from (boxed_own _ _ _) _) (Own.from (Bu _ _ _ _) _))) (ownFrom_below (Nat.le_refl _) (by omega)))
  (fun _ _ _ _ _ hs _ _=>hs)
  ⟨⟨⟨_,bO,World.ownsRow_nil _ _ _ _,by simp[nK]⟩,bA,bT⟩,xj⟩
  (fun x a' W=>∃Bx,w.heap.size+1+1<Bx/\W.heap[Bx]? =some (.cells #[.int .i64 (x.1.1:Int),.int .i64 (x.1.2.1:Int)] 283 (0,0))/\a'={tmps:= #[.agg #[.slice Ag ng cg,.slice At nt ct],.agg #[.slice A l.length cp],.pointer (some ⟨w.heap.size,0,none⟩),.pointer (some ⟨w.heap.size+1,0,none⟩),.slice none 0 0,.pointer (some ⟨w.heap.size+1+1,0,none⟩),.pointer (some ⟨Bx,0,none⟩),.int .i64 x.1.2.2,undef,.agg #[.slice A l.length cp],.func (.func 264) #[] #[.pointer (some ⟨w.heap.size+1+1+1,0,none⟩)],.agg #[.int .i64 (x.1.1:Int),.int .i64 (x.1.2.1:Int)],.int .i64 x.1.2.2,undef,undef,undef,undef,undef,undef,undef,undef,undef,undef,undef,undef,undef,undef,undef,undef,undef,undef,undef,undef,undef,undef,undef,undef,undef,undef,undef,undef,undef],defers:=[]})
  (fun x a' _ X Y row hs hg hr=>by obtain⟨Bx,h1,h2,h3⟩:=hs;exact⟨Bx,h1,Bu Bx _ _ _ () X Y row h2 hg (fun r e=>(hr r e).2),h3⟩)
  ?assign ?body ?done ?stop
 case assign=>
  rintro q pre ⟨⟨x0,x1,x2⟩,hx⟩ W K ⟨⟨⟨v,hv,e6,hnil⟩,bA1,bT1⟩,hB⟩ hK
  simp only[Fc]
  gi_wp2
  exact hK _ _ ((KeepsOthers.alloc _ _).from _) (ik.of ((Below.refl _ W).alloc (Nat.le_refl _) _)) ⟨⟨⟨v,hv.alloc _,e6.alloc _,hnil⟩,bA1.alloc _,(Below.heap_alloc _ _ _ (Array.getElem?_eq_some_iff.1 bT1).1).trans bT1⟩,hB.alloc hB.size _⟩ ⟨W.heap.size,hv.lt,World.alloc_heap_new _ _,rfl⟩
 case body=>
  rintro q pre ⟨⟨x0,x1,x2⟩,hx⟩ a' W hq hqr ⟨⟨⟨v,hv,e6,hnil⟩,bA1,bT1⟩,hB⟩ ⟨Bx,hBx,bX,rfl⟩ dR
  obtain⟨CL,Jd,AE⟩:=hx
  simp only at CL Jd AE bX
  obtain⟨A',c',e',_,hc⟩:=(hP.below hB).sl
  cases e'
  have dr:∃b o,A=some ⟨b,o,none⟩/\W.cell? ⟨b,o+x0*3+2,none⟩=some (.int .i64 (aU l x0).bU)/\W.cell? ⟨b,o+x1*3+2,none⟩=some (.int .i64 (aU l x1).bU):=by
   rcases hc with rfl|⟨b,o,rfl,km⟩
   ·simp at CL
   ·exact⟨b,o,rfl,by rw[Nat.add_assoc];exact(km x0 CL).2.2,by rw[Nat.add_assoc];exact(km x1 Jd).2.2⟩
  obtain⟨b,o,rfl,cP0,cP1⟩:=dr
  have cT0:W.cell? ⟨w.heap.size,0,none⟩=some (.slice Ag ng cg):=by simp[World.cell?,bT1]
  have cT1:W.cell? ⟨w.heap.size,1,none⟩=some (.slice At nt ct):=by simp[World.cell?,bT1]
  have TL:W.cell? ⟨Bx,0,none⟩=some (.int .i64 (x0:Int)):=by simp[World.cell?,bX]
  have TM:W.cell? ⟨Bx,1,none⟩=some (.int .i64 (x1:Int)):=by simp[World.cell?,bX]
  have cA:=bA1.cell
  have dP0:W.drew.cell? ⟨b,o+x0*3+2,none⟩=some (.int .i64 (aU l x0).bU):=cP0
  have dP1:W.drew.cell? ⟨b,o+x1*3+2,none⟩=some (.int .i64 (aU l x1).bU):=cP1
  have dT0:W.drew.cell? ⟨w.heap.size,0,none⟩=some (.slice Ag ng cg):=cT0
  have dT1:W.drew.cell? ⟨w.heap.size,1,none⟩=some (.slice At nt ct):=cT1
  have dX0:W.drew.cell? ⟨Bx,0,none⟩=some (.int .i64 (x0:Int)):=TL
  have dX1:W.drew.cell? ⟨Bx,1,none⟩=some (.int .i64 (x1:Int)):=TM
  have dA:W.drew.cell? ⟨w.heap.size+1,0,none⟩=some (.slice (some ⟨b,o,none⟩) l.length cp):=cA
  have pV:∀i,i<l.length->aU l i∈l:=fun i hi=>by
   unfold aU
   rw[List.getD_eq_getElem?_getD,List.getElem?_eq_getElem hi]
   exact List.getElem_mem hi
  have UR:=mixed
  have hfw:=hA.1.Bd
  have SX:=Ik s hF (aU l x0).bU x2 (aU l x1).bU (hA.2 _ (pV x0 CL)) (hA.2 _ (pV x1 Jd)) (jL (by omega))
  have hTW:jC Tryz.prog W (fun b=>b<w.heap.size) (.agg (aa s)) (.agg #[.slice Ag ng cg,.slice At nt ct]):=hT.frame (fun b hb=>hB.block b hb) (fun _ h=>h)
  have hAW:jC Tryz.prog W (fun b=>b<w.heap.size) (.sl (l.map aj)) (.slice (some ⟨b,o,none⟩) l.length cp):=hP.eP.frame (fun b hb=>hB.block b hb) (fun _ h=>h)
  obtain⟨fT,hT0,Ul⟩:∃f:Nat->Value,(∀j,j<(aa s).length->(#[Value.slice Ag ng cg,.slice At nt ct])[j]? =some (f j))/\∀j a,(aa s)[j]? =some a->jC Tryz.prog W (fun b=>b<w.heap.size) a (f j):=by
   cases hTW with
   |agg _ _ f _ _ h3 h4=>exact⟨f,h3,h4⟩
  have dL:St Tryz.prog W.heap.size 42 (fun b=>b<w.heap.size) (Io w.heap.size Bx) (N1 s l x0 x1 x2) ⟨M6 s l x0 x1,1⟩ {tmps:= #[.agg #[.slice Ag ng cg,.slice At nt ct],.agg #[.slice (some ⟨b,o,none⟩) l.length cp],.pointer (some ⟨w.heap.size,0,none⟩),.pointer (some ⟨w.heap.size+1,0,none⟩),.slice none 0 0,.pointer (some ⟨w.heap.size+1+1,0,none⟩),.pointer (some ⟨Bx,0,none⟩),.int .i64 x2,undef,.agg #[.slice (some ⟨b,o,none⟩) l.length cp],.func (.func 264) #[] #[.pointer (some ⟨w.heap.size+1+1+1,0,none⟩)],.agg #[.int .i64 (x0:Int),.int .i64 (x1:Int)],.int .i64 x2,undef,undef,undef,undef,undef,undef,undef,undef,undef,undef,undef,undef,undef,undef,undef,undef,undef,undef,undef,undef,undef,undef,undef,undef,undef,undef,undef,undef,undef],defers:=[]} W:=by
   have n1:(Io w.heap.size Bx) ⟨1,0⟩=some ⟨w.heap.size,2,2,none⟩:=rfl
   have n2:(Io w.heap.size Bx) ⟨2,0⟩=some ⟨w.heap.size+1,1,1,none⟩:=rfl
   have n3:(Io w.heap.size Bx) ⟨3,0⟩=some ⟨w.heap.size+1+1,1,1,none⟩:=rfl
   have n4:(Io w.heap.size Bx) ⟨4,0⟩=some ⟨Bx,2,2,none⟩:=rfl
   have n5:(Io w.heap.size Bx) ⟨5,0⟩=some ⟨w.heap.size+1+1+1,1,1,none⟩:=rfl
   have rp:∀(id:Id) (B:sK),(Io w.heap.size Bx) id=some B->B.k=none->dc Tryz.prog W (fun b=>b<w.heap.size) (Io w.heap.size Bx) (.ptr id 0 0) (.pointer (some ⟨B.b,0,none⟩)):=fun id B h hk=>by
    have:=dc.ptr (P:=Tryz.prog) (w:=W) (D:=fun b=>b<w.heap.size) id 0 0 B h hk
    simpa using this
   have ri:∀n:Int,dc Tryz.prog W (fun b=>b<w.heap.size) (Io w.heap.size Bx) (.int .i64 n) (.int .i64 n):=fun n=>.eP _ _ (.int _ _)
   have hA1:jC Tryz.prog W (fun b=>b<w.heap.size) (.agg [.sl (l.map aj)]) (.agg #[.slice (some ⟨b,o,none⟩) l.length cp]):=.agg _ _ (fun _=>.slice (some ⟨b,o,none⟩) l.length cp) rfl (fun a ha=>by simp at ha;rw[ha];rfl) (fun j hj=>by match j,hj with|0,_=>rfl|j+1,hj=>simp at hj) (fun j a ha=>by match j,ha with|0,ha=>simp at ha;subst ha;exact hAW|j+1,ha=>simp at ha)
   refine⟨⟨Nat.le_refl _,fun b hb=>Nat.lt_of_lt_of_le hb hB.size,fun id r hg=>?_,fun id kR r r' B B' h _ hw=>?_⟩,fun id hid=>?_,fun t=>?_,rfl⟩
   ·replace hg:M6 s l x0 x1 id=some r:=hg
    unfold M6 at hg
    split at hg
    ·rename_i e;subst e;injection hg with hg;subst hg
     exact⟨_,n1,Et (cs:=aa s) rfl bT1 rfl rfl rfl (fun a ha=>by simp[aa]at ha;rcases ha with rfl|rfl<;>rfl) (fun j a ha=>⟨_,hT0 j (List.getElem?_eq_some_iff.1 ha).1,.eP _ _ (Ul j a ha)⟩),fun h=>(by cases h),fun h=>(by cases h)⟩
    ·split at hg
     ·rename_i e;subst e;injection hg with hg;subst hg
      exact⟨_,n2,Et (cs:=[.sl (l.map aj)]) rfl bA1 rfl rfl rfl (fun a ha=>by simp at ha;rw[ha];rfl) (fun j a ha=>by match j,ha with|0,ha=>simp at ha;subst ha;exact⟨_,rfl,.eP _ _ hAW⟩|j+1,ha=>simp at ha),fun h=>(by cases h),fun h=>(by cases h)⟩
     ·split at hg
      ·rename_i e;subst e;injection hg with hg;subst hg
       exact⟨_,n4,Et (cs:=[.int .i64 (x0:Int),.int .i64 (x1:Int)]) rfl bX rfl rfl rfl (fun a ha=>by simp at ha;rcases ha with rfl|rfl<;>rfl) (fun j a ha=>by match j,ha with|0,ha=>simp at ha;subst ha;exact⟨_,rfl,ri _⟩|1,ha=>simp at ha;subst ha;exact⟨_,rfl,ri _⟩|j+2,ha=>simp at ha),fun h=>(by cases h),fun h=>(by cases h)⟩
      ·cases hg
   ·exfalso
    replace h:M6 s l x0 x1 id=some r:=h
    unfold M6 at h
    split at h
    ·injection h with h;subst h;cases hw
    ·split at h
     ·injection h with h;subst h;cases hw
     ·split at h
      ·injection h with h;subst h;cases hw
      ·cases h
   ·left
    unfold Io at hid
    repeat' (split at hid)
    all_goals first|(rename_i e;subst e;exact Nat.zero_lt_one)|exact absurd rfl hid
   ·match t with
    |0=>exact .eP _ _ hTW
    |1=>exact .eP _ _ hA1
    |2=>exact rp _ _ n1 rfl
    |3=>exact rp _ _ n2 rfl
    |4=>exact .eP _ _ .bV
    |5=>exact rp _ _ n3 rfl
    |6=>exact rp _ _ n4 rfl
    |7=>exact ri _
    |8=>exact dc.undef
    |9=>exact .eP _ _ hA1
    |10=>exact .fn _ _ _ (fun _=>.pointer (some ⟨w.heap.size+1+1+1,0,none⟩)) (by kernel_rfl) rfl (fun j hj=>by match j,hj with|0,_=>rfl|j+1,hj=>simp at hj) (fun j a ha=>by match j,ha with|0,ha=>simp at ha;subst ha;exact rp _ _ n5 rfl|j+1,ha=>simp at ha)
    |11=>exact .agg _ _ (fun j=>if j=0 then .int .i64 (x0:Int)else .int .i64 (x1:Int)) rfl (fun a ha=>by simp at ha;rcases ha with rfl|rfl<;>rfl) (fun j hj=>by match j,hj with|0,_=>rfl|1,_=>rfl|j+2,hj=>simp at hj;omega) (fun j a ha=>by match j,ha with|0,ha=>simp at ha;subst ha;exact ri _|1,ha=>simp at ha;subst ha;exact ri _|j+2,ha=>simp at ha)
    |12=>exact ri _
    |13=>exact dc.undef
    |14=>exact dc.undef
    |15=>exact dc.undef
    |16=>exact dc.undef
    |17=>exact dc.undef
    |18=>exact dc.undef
    |19=>exact dc.undef
    |20=>exact dc.undef
    |21=>exact dc.undef
    |22=>exact dc.undef
    |23=>exact dc.undef
    |24=>exact dc.undef
    |25=>exact dc.undef
    |26=>exact dc.undef
    |27=>exact dc.undef
    |28=>exact dc.undef
    |29=>exact dc.undef
    |30=>exact dc.undef
    |31=>exact dc.undef
    |32=>exact dc.undef
    |33=>exact dc.undef
    |34=>exact dc.undef
    |35=>exact dc.undef
    |36=>exact dc.undef
    |37=>exact dc.undef
    |38=>exact dc.undef
    |39=>exact dc.undef
    |40=>exact dc.undef
    |41=>exact dc.undef
    |t+42=>exact dc.undef
  have hV:wpOps (Call Tryz.prog) true ?vl (fun e _=>e 5=.ptr ⟨3,0⟩ 0 0/\e 6=.ptr ⟨4,0⟩ 0 0/\e 8=.int .i64 (gS s (aU l x0).bU x2 (aU l x1).bU)) (N1 s l x0 x1 x2) ⟨M6 s l x0 x1,1⟩:= ?hv
  gi_wp2
  refine z8 mixed (rrE (nt:=42) (site0:=222005000)) (JE (by kernel_rfl)) (ny (fun _ _ _ _ h=>il mixed h) qk (fun _ _ h=>h) _ _ _ hV) dL ?_
  rintro e1 σ1 ⟨tm,df⟩ w3 D1 ι1 ⟨h5,h6,h8⟩ T1 NN DF
  case hv=>
   refine Ei ?_
   have e0:=gw CL
   have e1:=gw Jd
   (repeat(first|((repeat(revert hN;revert N;apply Pn.out));refine wk (tw @e0 (tw @e1 (tw @N1.eq_1 (tw @M6.eq_1 (tw @aj.eq_1 @aa.eq_1))))) ?_;(repeat(refine Pn.mk ?_;intro N hN)))|((try apply Or.inl);refine⟨_,aq.x (SX) (sd (tw @e0 (tw @e1 (tw @N1.eq_1 (tw @M6.eq_1 (tw @aj.eq_1 @aa.eq_1)))))),?_⟩;refine hN _ _ ?_;clear hN N)))
   exact⟨sd @N1.eq_1,sd @N1.eq_1,sd @N1.eq_1⟩
  ·have Br:Below W.heap.size W w3:=T1.below
   have zD:∀id B,Io w.heap.size Bx id=some B->ι1 id=some B:=T1.names
   have p5:tm.getD 5 undef=.pointer (some ⟨w.heap.size+1+1,0,none⟩):=by
    have g:=NN.env 5
    rw[h5]at g
    obtain⟨B,e,hB,_⟩:=iU g
    have h:=zD ⟨3,0⟩ ⟨w.heap.size+1+1,1,1,none⟩ rfl
    rw[h]at hB;injection hB with hB;subst hB
    simpa using e
   have p6:tm.getD 6 undef=.pointer (some ⟨Bx,0,none⟩):=by
    have g:=NN.env 6
    rw[h6]at g
    obtain⟨B,e,hB,_⟩:=iU g
    have h:=zD ⟨4,0⟩ ⟨Bx,2,2,none⟩ rfl
    rw[h]at hB;injection hB with hB;subst hB
    simpa using e
   have p8:tm.getD 8 undef=.int .i64 (gS s (aU l x0).bU x2 (aU l x1).bU):=by
    have g:=NN.env 8
    rw[h8]at g
    exact dp g
   have fa:=NN.size
   obtain⟨tl⟩:=tm
   obtain⟨f,KN,hf⟩:∃f:Nat->Value,tl=[f 0,f 1,f 2,f 3,f 4,f 5,f 6,f 7,f 8,f 9,f 10,f 11,f 12,f 13,f 14,f 15,f 16,f 17,f 18,f 19,f 20,f 21,f 22,f 23,f 24,f 25,f 26,f 27,f 28,f 29,f 30,f 31,f 32,f 33,f 34,f 35,f 36,f 37,f 38,f 39,f 40,f 41]/\∀i,f i=(⟨tl⟩:Array Value).getD i undef:=by
    refine⟨fun i=>(⟨tl⟩:Array Value).getD i undef,?_,fun _=>rfl⟩
    have h:=Jo tl undef
    rw[show tl.length=42 from fa]at h
    exact h
   rw[<-hf]at p5 p6 p8
   have UA:df=[]:=DF
   subst UA
   clear hf NN dL hV
   subst KN
   rw[p5,p6,p8]
   have Tn:=hv.kept (grown_of Br) (by simp)
   have Fu:=e6.kept (grown_of Br) (by rcases e6.2 with⟨e,_⟩|⟨_,_,_,e,_⟩<;>rw[e]<;>simp[Value.ownBlock])
   have hc3:=Tn.cell
   have UX:w.heap.size<=w3.heap.size:=Nat.le_trans hB.size Br.size
   have eX0:w3.cell? ⟨Bx,0,none⟩=some (.int .i64 (x0:Int)):=(Br.cell (p:=⟨Bx,0,none⟩) (Array.getElem?_eq_some_iff.1 bX).1).trans TL
   have eX1:w3.cell? ⟨Bx,1,none⟩=some (.int .i64 (x1:Int)):=(Br.cell (p:=⟨Bx,1,none⟩) (Array.getElem?_eq_some_iff.1 bX).1).trans TM
   have mE:(nK s l pre).length<=2097152:=by
    have h1:=Ih s l pre
    have h2:=Cd l l.length
    omega
   have hKF:KeepsFrom (w.heap.size+4) W w3:=⟨Br.size,fun k o _ hk _=>(Br.block k (Array.getElem?_eq_some_iff.1 hk).1).trans hk⟩
   have hKT:ik w.heap.size W w3:=ik.of Br
   have TI:w3.heap[w.heap.size+1]? = _:=(Br.block _ bA1.lt).trans bA1
   have TJ:=(Br.block _ (Array.getElem?_eq_some_iff.1 bT1).1).trans bT1
   by_cases lu:0<gS s (aU l x0).bU x2 (aU l x1).bU
   ·have yi:nK s l (pre++[⟨(x0,x1,x2),CL,Jd,AE⟩])=nK s l pre++[⟨x0,x1,gS s (aU l x0).bU x2 (aU l x1).bU⟩]:=by
     rw[xU];simp only[zf,if_pos lu]
    gi_wp2_with (gi_at_builtin;refine wpListIn_append_own _ rfl _ _ 226 rfl w.heap.size 246 i0 (.agg #[.int .i64 0,.int .i64 0,.int .i64 0]) 3 24 (by kernel_rfl) hi Fx yw kz rfl (by decide) _ _ _ rfl (Fu.alloc _) ⟨w3.heap.size,0,none⟩ 1 1 [.int .i64 (x0:Int),.int .i64 (x1:Int),.int .i64 (gS s (aU l x0).bU x2 (aU l x1).bU)] rfl rfl (vz _ _ _ _ _) (by simp[Value.oneCell']) (by unfold maxLen;omega) (by omega) (by simp;omega) ?_;intro v' w4 BC yj _;obtain⟨g',TN,rfl⟩:=ownsRow_succ BC;obtain⟨vU,LN,AA,s4,Bt⟩:=Tn.appended (by decide) Fu UX (by omega) BC yj;have Lw:=ik.app Tn Fu yj Bt;have pS:=vU.cell;have UD:=vU.frozen)
    exact⟨hKF.trans (s4.from _),hKT.trans Lw,⟨⟨_,LN,by rw[yi,Ig,List.length_append];exact AA,by rw[yi];simp⟩,(Lw.2.1 _ _ _ _ TI (by decide) (by decide)).trans TI,(Lw.2.1 _ _ _ _ TJ (by decide) (by decide)).trans TJ⟩,hB.trans ((Br.mono hB.size).trans Bt)⟩
   ·have yi:nK s l (pre++[⟨(x0,x1,x2),CL,Jd,AE⟩])=nK s l pre:=by
     rw[xU];simp only[zf,if_neg lu,List.append_nil]
    gi_wp2
    exact⟨hKF,hKT,⟨⟨v,Tn,by rw[yi];exact Fu,by rw[yi];exact hnil⟩,TI,TJ⟩,hB.trans (Br.mono hB.size)⟩
 case done=>
  rintro D ys W hD CO ⟨⟨⟨v,hv,e6,hnil⟩,_⟩,hB⟩ hK
  have hc:=hv.cell
  have KC:nK s l ys=cY s l:=by rw[Im,<-CO];rfl
  rw[KC]at e6 hnil
  gi_wp2
  refine⟨by simp,.inl ⟨_,_,rfl,run_takeDeferred hK,?_⟩⟩
  exact⟨_,results_tmp rfl _ _ _,v,rfl,ownsRow_putObj e6 _ hK rfl,hnil,hB.trans (belowK_b (w:=w) (Nat.le_refl _) W D _ _ (by omega) hK rfl rfl)⟩
 case stop=>
  rintro D c pre W _ _ h _
  exact h.elim
end Go.Proofs.YtgoelphibofcmaaGreat.V

namespace Go.Proofs.YtgoelphibofcmaaGreat.V
open Go.RowKit Go.Shelf
theorem E4:∀{bs:List PB} {i j:Nat} {b:PB},bs[i]? =some b->j<3->(K2 bs)[i*3+j]? =([.int .i64 b.a,.int .i64 b.b,.int .i64 b.s]:List Value)[j]?
 |c::bs,0,j,b,h,hj=>by
  simp at h;subst h
  simp only[K2,List.flatMap_cons,Nat.zero_mul,Nat.zero_add]
  rw[List.getElem?_append_left (by simpa using hj)]
 |c::bs,i+1,j,b,h,hj=>by
  simp only[List.getElem?_cons_succ]at h
  have:=E4 (bs:=bs) (i:=i) (j:=j) h hj
  simp only[K2,List.flatMap_cons]at this ⊢
  rw[List.getElem?_append_right (by simp;omega),<-this]
  congr 1
  simp;omega
theorem rX {P:Program} {w:World} {D:Nat->Prop} {rows:List (List AV)} {v:Value} (h:jC P w D (.sl rows) v):∃A n c,v=.slice A n c:=by
 cases h with
 |AG a c _=>exact⟨_,_,_,rfl⟩
 |sl=>exact⟨_,_,_,rfl⟩
theorem qY {P:Program} {w:World} {D:Nat->Prop} {ι:Names} {rows:List (List AV)} {v:Value} (h:dc P w D ι (.sl rows) v):jC P w D (.sl rows) v:=by
 cases h with
 |eP _ _ h=>exact h
theorem Mq {P:Program} {w:World} {D:Nat->Prop} {l:List ae} {v:Value} (h:jC P w D (.sl (l.map aj)) v):pN w v l:=by
 generalize hr:l.map aj=rows at h
 cases h with
 |AG a c hc=>
  have:l=[]:=by simpa using hr
  subst this
  exact⟨a,c,rfl,⟨Nat.zero_le _,hc⟩,.inl rfl⟩
 |sl _ b o n c sz vs h1 h2 h3 h4 h5 h5' h6 h7=>
  have hn:n=l.length:=by rw[<-h1,<-hr];simp
  subst hn
  refine⟨some ⟨b,o,none⟩,c,rfl,⟨h2,h3⟩,?_⟩
  by_cases hl:l=[]
  ·exact .inl hl
  refine .inr ⟨b,o,rfl,fun i hi=>?_⟩
  have hg:rows[i]? =some (aj (aU l i)):=by rw[<-hr];exact gw hi
  have fa:sz=3:=by rw[<-h5 _ (List.mem_of_getElem? hg)];rfl
  subst fa
  have k:∀(j:Nat) (x:Int),(aj (aU l i))[j]? =some (.int .i64 x)->j<3->w.cell? ⟨b,o+(i*3+j),none⟩=some (.int .i64 x):=fun j x hj h3=>by
   have:=h7 i j _ _ hg hj
   rw[h6 i j hi h3,dp (.eP (ι:=fun _=>none) _ _ this)]
  exact⟨k 0 _ rfl (by omega),k 1 _ rfl (by omega),k 2 _ rfl (by omega)⟩
theorem N0:CQ:=by
 intro s l hS hA n
 refine fN ?_
 intro hs D ι w vs S U A
 obtain⟨u0,Tm,r0⟩:=A.2 0 _ rfl
 obtain⟨u1,RI,r1⟩:=A.2 1 _ rfl
 have dR:∀b,D b->b<w.heap.size:=S.dead
 obtain⟨v0,f0,rfl,Fx,_,S5,U8⟩:=iz r0
 obtain⟨v1,f1,rfl,yw,_,UD,LH⟩:=iz r1
 have g0:=qY (U8 0 _ rfl)
 have g1:=qY (U8 1 _ rfl)
 have a0:=qY (LH 0 _ rfl)
 obtain⟨Ag,ng,cg,eg⟩:=rX g0
 obtain⟨At,nt,ct,et⟩:=rX g1
 have e0:v0= #[.slice Ag ng cg,.slice At nt ct]:=by
  obtain⟨vl⟩:=v0
  have q0:=S5 0 (by simp[aa])
  have q1:=S5 1 (by simp[aa])
  rw[eg]at q0;rw[et]at q1
  match vl,Fx with
  |[a,b],_=>simp at q0 q1;rw[q0,q1]
 have e1:v1= #[f1 0]:=by
  obtain⟨vl⟩:=v1
  have q0:=UD 0 (by simp)
  match vl,yw with
  |[a],_=>simp at q0;rw[q0]
 subst e0 e1
 have evs:vs= #[.agg #[.slice Ag ng cg,.slice At nt ct],.agg #[f1 0]]:=by
  obtain⟨vl⟩:=vs
  have hz:=A.1
  match vl,hz with
  |[a,b],_=>simp at Tm RI;rw[Tm,RI]
 subst evs
 have up:∀{a v},jC Tryz.prog w D a v->jC Tryz.prog w (fun b=>b<w.heap.size) a v:=fun h=>h.frame (fun _ _=>rfl) dR
 have hT:jC Tryz.prog w (fun b=>b<w.heap.size) (.agg (aa s)) (.agg #[.slice Ag ng cg,.slice At nt ct]):=
  .agg _ _ f0 Fx (fun a ha=>by simp[aa]at ha;rcases ha with rfl|rfl<;>rfl) S5 (fun j a ha=>by
   match j,ha with
   |0,ha=>simp[aa]at ha;subst ha;exact up g0
   |1,ha=>simp[aa]at ha;subst ha;exact up g1
   |j+2,ha=>simp[aa]at ha)
 refine(callsIn_wide.1 (Il s l hS.form hA w Ag At ng cg nt ct (f1 0) hT (Mq a0))).mono ?_
 rintro e W' ⟨v,rfl,⟨hl,hown⟩,hnil,hB⟩
 have S':gz Tryz.prog hs D ι (fun _=>none) W':=S.stay (fun b hb=>hB.block b hb) hB.size (fun _ h=>h) (fun b hb=>Nat.lt_of_lt_of_le (dR b hb) hB.size) (fun _ h=>.inl h) (fun _ _ h=>h)
 have T:Step hs D ι w D ι W':=Step.stay S (fun b hb=>hB.block b hb) hB.size hB.os hB.tape hB.output (fun _ h=>h) (fun _ h=>.inl h) (fun _ _ h=>h)
 rcases hown with⟨rfl,h0⟩|⟨gb,cap,cur,rfl,OD,hblk,hle,DE,dr,oN⟩
 ·have Dz:cY s l=[]:=hnil.1 rfl
  exact⟨.bV,_,n,D,ι,_,rfl,⟨.bV,j4 _ _,by rw[Dz];rfl⟩,T,S',U,Nat.le_refl _,.eP _ _ .bV⟩
 ·have Dz:cY s l≠[]:=fun h=>by have:=hnil.2 h;cases this
  have lY:ι ⟨0,n⟩=none:=fresh U (fun h=>h)
  have gZ:∀{a v},dc Tryz.prog W' D ι a v->dc Tryz.prog W' D (kh ι ⟨0,n⟩ ⟨gb,3,cap*3,none⟩) a v:=fun h=>h.frame (fun _ _=>rfl) (fun _ h=>h) (fW lY)
  have hR:ia Tryz.prog W' D (kh ι ⟨0,n⟩ ⟨gb,3,cap*3,none⟩) ⟨gb,3,cap*3,none⟩ ⟨true,3,(cY s l).map aA⟩:=by
   refine kM.obj ⟨rfl,⟨cur,_,hblk,dr⟩,?_,fun cs hc=>?_,fun cs hc a ha=>?_,fun i j cs a hi hj=>?_⟩ rfl
   ·simp only[List.length_map];exact Nat.mul_le_mul_right 3 hle
   ·obtain⟨b,_,rfl⟩:=List.mem_map.1 hc;rfl
   ·obtain⟨b,_,rfl⟩:=List.mem_map.1 hc
    simp[aA]at ha
    rcases ha with rfl|rfl|rfl<;>rfl
   ·rw[List.getElem?_map]at hi
    simp only[Option.map_eq_some_iff]at hi
    obtain⟨b,hb,rfl⟩:=hi
    have UL:j<3:=by have:=(List.getElem?_eq_some_iff.1 hj).1;simpa[aA]using this
    have nG:=(List.getElem?_eq_some_iff.1 hb).1
    have hg:=E4 hb UL
    rw[<-oN,List.getElem?_take,if_pos (by omega)]at hg
    have key:∀x:Value,([.int .i64 b.a,.int .i64 b.b,.int .i64 b.s]:List Value)[j]? =some x->W'.cell? ⟨gb,i*3+j,none⟩=some x:=fun x hx=>by
     rw[hx]at hg
     have e:W'.cell? ⟨gb,i*3+j,none⟩=cur[i*3+j]? :=by
      unfold World.cell?
      rw[show W'.heap[(⟨gb,i*3+j,none⟩:Addr).block]? = _ from hblk]
      rfl
     rw[e,<-Array.getElem?_toList];exact hg
    match j,hj with
    |0,hj=>simp[aA]at hj;subst hj;exact⟨_,key _ rfl,.eP _ _ (.int _ _)⟩
    |1,hj=>simp[aA]at hj;subst hj;exact⟨_,key _ rfl,.eP _ _ (.int _ _)⟩
    |2,hj=>simp[aA]at hj;subst hj;exact⟨_,key _ rfl,.eP _ _ (.int _ _)⟩
    |j+3,hj=>simp[aA]at hj
  have S2:=gz.add (r:=⟨true,3,(cY s l).map aA⟩) S S' lY OD hR
  refine⟨.own ⟨0,n⟩ 0 (cY s l).length,bF (fun _=>none) ⟨0,n⟩ ⟨true,3,(cY s l).map aA⟩,n+1,D,kh ι ⟨0,n⟩ ⟨gb,3,cap*3,none⟩,_,rfl,⟨Ae (cY s l),?_,rfl⟩,T.trans (Step.stay S' (fun _ _=>rfl) (Nat.le_refl _) rfl rfl rfl (fun _ h=>h) (fun _ h=>.inl h) (fW lY)),S2,U.upd.next,Nat.le_succ _,.own _ _ _ _ _ _ (ev _ _ _) rfl hle (.inr (by simp)) (by simp) DE⟩
  unfold Ae
  rw[if_neg Dz]
  have hg:(bF (fun _=>none) (⟨0,n⟩:Id) ⟨true,3,(cY s l).map aA⟩:Rows) ⟨0,n⟩=some ⟨true,3,(cY s l).map aA⟩:=by simp[bF]
  have:=fI (n:=5) hg rfl fun b=>uD _ 4 b
  simpa using this
end Go.Proofs.YtgoelphibofcmaaGreat.V

namespace Go.Proofs.YtgoelphibofcmaaGreat.V
open Go.RowKit
theorem Pr {P:Program} {w:World} {D:Nat->Prop} {ι:Names} {x y:Int} {v:Value} (h:dc P w D ι (.agg [.int .i64 x,.int .i64 y]) v):v=.agg #[.int .i64 x,.int .i64 y]:=by
 obtain⟨vs,f,rfl,fa,_,h1,h2⟩:=iz h
 have v0:=h1 0 (by simp)
 have v1:=h1 1 (by simp)
 rw[dp (h2 0 _ rfl)]at v0
 rw[dp (h2 1 _ rfl)]at v1
 obtain⟨vl⟩:=vs
 match vl,fa with
 |[a,b],_=>
  simp at v0 v1
  rw[v0,v1]
theorem AM {σ:ar} {X O:Id} {b1 b2:Bool} {es:List En} (hX:σ.get X=some ⟨b1,1,[[.map O mP]]⟩) (hO:σ.get O=some ⟨b2,mP.lT,es.map pg⟩) (hl:es.length<=1000000):
  Call Tryz.prog 205 [.bV,.fn 176 [.ptr X 0 0]] σ (fun r σ'=>σ.next<=σ'.next/\(∀x:Id,x.bm<σ.next->σ'.get x=σ.get x)/\∃ss:List ad,ss.Perm (es.map (·.1))/\((ss=[]/\r=.bV)∨∃o:Id,r=.own o 0 ss.length/\σ'.get o=some ⟨true,2,ss.map ab⟩/\σ.next<=o.bm/\o.bm<σ'.next/\ss≠[])):=by
 refine fN fun hs D ι w vs S U A=>?_
 obtain⟨u1,us1,rfl,h1,h2⟩:=kJ A
 obtain⟨u2,us2,h3,h4,h5⟩:=kJ h2
 simp at h3;subst h3
 have:=wN h5
 simp at this;subst this
 obtain rfl:=iR h1
 obtain⟨vc,gf,rfl,_,xn,Ng,hrc⟩:=wO h4
 obtain⟨BX,hp,hBX,hkX⟩:=iU (hrc 0 _ rfl)
 have Vf:vc= #[.pointer (some ⟨BX.b,0,none⟩)]:=by
  obtain⟨l⟩:=vc
  have q0:=Ng 0 (by simp)
  match l,xn with
  |[a],_=>simp at q0;rw[q0,hp];simp
 subst Vf
 obtain⟨BX',Lm,RX,_,_⟩:=S.row X _ hX
 rw[hBX]at Lm;injection Lm with Lm;subst Lm
 obtain⟨vm,GF,LI⟩:=(RX.row hkX).at_ 0 0 _ _ rfl rfl
 obtain⟨BO,rfl,hBO,hkO⟩:=FK LI
 obtain⟨BO',Ll,RO,_,_⟩:=S.row O _ hO
 rw[hBO]at Ll;injection Ll with Ll;subst Ll
 obtain⟨_,SG,clock,hblk,fa,⟨_,Va⟩,hM⟩:=RO.map mP hkO
 have hk:SG.toList.map (·.key)=(es.map (·.1)).map rN:=by
  have LK:SG.toList.length=es.length:=by simpa using fa
  refine List.ext_getElem (by simpa using LK) fun i h1 h2=>?_
  have hi:i<es.length:=by simpa using h2
  obtain⟨e,kv,vv,q1,q2,_,q4,_⟩:=hM i (pg es[i]) (by simp[hi])
  have e1:kv=.agg [.int .i64 es[i].1.eI,.int .i64 es[i].1.eF]:=by
   simp[part,MK.ks,pg]at q2
   exact q2.symm
  subst e1
  have e2:=Pr q4
  simp only[List.getElem_map]
  have e3:SG.toList[i]'(by omega)=e:=by
   have:=Array.getElem?_eq_some_iff.1 q1
   obtain⟨_,h⟩:=this
   simpa using h
  rw[e3,e2];rfl
 have dR:∀b,D b->b<w.heap.size:=S.dead
 have hbx:BX.b<w.heap.size:=RX.lt
 have Rc:w.cell? ⟨BX.b,0,none⟩=some (.map (some BO.b)):=by simpa using GF
 refine(callsIn_wide.1 (za BX.b BO.b SG clock Va (es.map (·.1)) hk (by simpa using hl) w hbx Rc hblk)).mono ?_
 rintro e W' ⟨ss,v,hperm,rfl,⟨hle',hown⟩,hnil,hB⟩
 have S':gz Tryz.prog hs D ι σ.get W':=S.stay (fun b hb=>hB.block b hb) hB.size (fun _ h=>h) (fun b hb=>Nat.lt_of_lt_of_le (dR b hb) hB.size) (fun _ h=>.inl h) (fun _ _ h=>h)
 have T:Step hs D ι w D ι W':=Step.stay S (fun b hb=>hB.block b hb) hB.size hB.os hB.tape hB.output (fun _ h=>h) (fun _ h=>.inl h) (fun _ _ h=>h)
 rcases hown with⟨rfl,h0⟩|⟨gb,cap,cur,rfl,OD,hblk2,hle,DE,dr,oN⟩
 ·have Dz:ss=[]:=hnil.1 rfl
  exact⟨.bV,_,σ.next,D,ι,_,rfl,⟨Nat.le_refl _,fun _ _=>rfl,ss,hperm,.inl ⟨Dz,rfl⟩⟩,T,S',U,Nat.le_refl _,.eP _ _ .bV⟩
 ·have Dz:ss≠[]:=fun h=>by have:=hnil.2 h;cases this
  have lY:ι ⟨0,σ.next⟩=none:=fresh U (fun h=>h)
  have hR:ia Tryz.prog W' D (kh ι ⟨0,σ.next⟩ ⟨gb,2,cap*2,none⟩) ⟨gb,2,cap*2,none⟩ ⟨true,2,ss.map ab⟩:=by
   refine kM.obj ⟨rfl,⟨cur,_,hblk2,dr⟩,?_,fun cs hc=>?_,fun cs hc a ha=>?_,fun i j cs a hi hj=>?_⟩ rfl
   ·simp only[List.length_map];exact Nat.mul_le_mul_right 2 hle
   ·obtain⟨b,_,rfl⟩:=List.mem_map.1 hc;rfl
   ·obtain⟨b,_,rfl⟩:=List.mem_map.1 hc
    simp[ab]at ha
    rcases ha with rfl|rfl<;>rfl
   ·rw[List.getElem?_map]at hi
    simp only[Option.map_eq_some_iff]at hi
    obtain⟨b,hb,rfl⟩:=hi
    have UL:j<2:=by have:=(List.getElem?_eq_some_iff.1 hj).1;simpa[ab]using this
    have nG:=(List.getElem?_eq_some_iff.1 hb).1
    have hg:=Mr hb UL
    rw[<-oN,List.getElem?_take,if_pos (by omega)]at hg
    have key:∀x:Value,([.int .i64 b.eI,.int .i64 b.eF]:List Value)[j]? =some x->W'.cell? ⟨gb,i*2+j,none⟩=some x:=fun x hx=>by
     rw[hx]at hg
     have e:W'.cell? ⟨gb,i*2+j,none⟩=cur[i*2+j]? :=by
      unfold World.cell?
      rw[show W'.heap[(⟨gb,i*2+j,none⟩:Addr).block]? = _ from hblk2]
      rfl
     rw[e,<-Array.getElem?_toList];exact hg
    match j,hj with
    |0,hj=>simp[ab]at hj;subst hj;exact⟨_,key _ rfl,.eP _ _ (.int _ _)⟩
    |1,hj=>simp[ab]at hj;subst hj;exact⟨_,key _ rfl,.eP _ _ (.int _ _)⟩
    |j+2,hj=>simp[ab]at hj
  have S2:=gz.add (r:=⟨true,2,ss.map ab⟩) S S' lY OD hR
  refine⟨.own ⟨0,σ.next⟩ 0 ss.length,bF σ.get ⟨0,σ.next⟩ ⟨true,2,ss.map ab⟩,σ.next+1,D,kh ι ⟨0,σ.next⟩ ⟨gb,2,cap*2,none⟩,_,rfl,⟨Nat.le_succ _,fun x hx=>?_,ss,hperm,.inr ⟨_,rfl,by simp[bF],Nat.le_refl _,Nat.lt_succ_self _,Dz⟩⟩,T.trans (Step.stay S' (fun _ _=>rfl) (Nat.le_refl _) rfl rfl rfl (fun _ h=>h) (fun _ h=>.inl h) (fW lY)),S2,U.upd.next,Nat.le_succ _,.own _ _ _ _ _ _ (ev _ _ _) rfl hle (.inr (by simp)) (by simp) DE⟩
  have:¬x=⟨0,σ.next⟩:=fun e=>by subst e;simp at hx
  simp[bF,this]
end Go.Proofs.YtgoelphibofcmaaGreat.V

namespace Go.Proofs.YtgoelphibofcmaaGreat.V
open Go.RowKit
attribute [local irreducible] ek wpOps gq Call
attribute [local go_sem] aH fF eK ga fZ da upd ck K.av cH AV.cells AV.cell rowOf rowsOf part ld rowAt bF cj dy dW gU bG cX eh fY eU dn ea cV cU dH dI bJ aW cK bI cN cL dY eb dZ cJ bL cW dX bH aL cQ cC gT bj cF bK aT du bf dz AV.undef bw bE dM dU dE dJ cE ef ep cw ee ec cP cR List.getD_cons_zero List.getD_cons_succ List.getD_nil List.all_cons List.all_nil Bool.and_true Bool.true_and Bool.and_self Bool.not_true Bool.not_false Option.map_some Option.map_none Option.bind_some Option.bind_none List.length_cons List.length_nil List.take_succ_cons List.take_zero List.take_nil List.drop_succ_cons List.drop_zero List.drop_nil List.head?_cons List.map_cons List.map_nil List.getElem?_cons_zero List.getElem?_cons_succ List.cons_append List.nil_append List.append_nil List.length_map List.set_cons_zero List.set_cons_succ Nat.reduceMul eq_self Int.toNat_natCast Int.natCast_nonneg and_self true_and and_true decide_true decide_false Bool.false_eq_true Nat.zero_add Nat.add_zero List.contains_cons List.contains_nil Bool.or_false Bool.false_or beq_self_eq_true Nat.reduceBEq ne_eq not_true_eq_false not_false_eq_true Id.mk.injEq false_and and_false Nat.reduceLT Int.reduceLE Int.reduceLT Int.reduceToNat Int.reduceNeg Int.reduceAdd Nat.le_refl List.length_append beq_true beq_false Bool.not_eq_eq_eq_not or_false false_or dF ai ao aG aZ bt bW aP aY aQ aV cI bD
theorem oY {α:Type} [DecidableEq α]:∀{xs ys:List α},xs.Nodup->(∀x∈xs,x∈ys)->xs.length=ys.length->xs.Perm ys
 |[],ys,_,_,h=>by
  have:ys=[]:=List.eq_nil_of_length_eq_zero h.symm
  subst this;exact List.Perm.nil
 |x::xs,ys,hn,hs,h=>by
  obtain⟨h1,h2⟩:=List.nodup_cons.1 hn
  have hx:=hs x (by simp)
  have hl:=List.length_erase_of_mem hx
  have:=@oY α _ xs (ys.erase x) h2 (fun y hy=>(List.mem_erase_of_ne fun e=>h1 (by rw[<-e];exact hy)).2 (hs y (by simp[hy]))) (by rw[hl];simp only[List.length_cons]at h;omega)
  exact(this.cons x).trans (List.perm_cons_erase hx).symm
theorem np {L:List ad} (h:mJ L):L.Nodup:=List.Pairwise.imp (fun {a b} nP e=>by rw[e,mZ]at nP;cases nP) h
theorem MF {L qs:List ad} (hR:mJ L) (hp:qs.Perm L) (hs:∀i j:Nat,i<j->j<qs.length->kE (jf qs j) (jf qs i)=false):qs=L:=by
 have hd:qs.Nodup:=hp.nodup_iff.2 (np hR)
 have hq:mJ qs:=by
  unfold mJ
  unfold List.Nodup at hd
  rw[List.pairwise_iff_getElem]at hd ⊢
  intro i j hi hj DO
  have h1:=hs i j DO hj
  rw[iq hj,iq hi]at h1
  exact zO h1 fun e=>hd i j hi hj DO e.symm
 exact FM hq hR fun x=>hp.mem_iff
theorem Hk (σ:ar):Call Tryz.prog 175 [.bV,.fn 130 []] σ fun r σ'=>r=.iC []/\σ'.next=σ.next/\σ'.get=σ.get:=by
 refine fN fun hs D ι w vs S U A=>?_
 obtain⟨u1,us1,rfl,h1,h2⟩:=kJ A
 obtain⟨u2,us2,h3,h4,h5⟩:=kJ h2
 simp at h3;subst h3
 have:=wN h5
 simp at this;subst this
 obtain rfl:=iR h1
 refine(NC _ _ _ w).mono ?_
 rintro e w' ⟨rfl,rfl⟩
 exact⟨.iC [],σ.get,σ.next,D,ι,_,rfl,⟨rfl,rfl,rfl⟩,Step.refl _ _ _ _,S,U,Nat.le_refl _,.iC [] #[] (fun _=>Go.undef) rfl (fun j hj=>by simp at hj) (fun j a h=>by simp at h)⟩
theorem Ji (O:Id) (σ:ar):Call Tryz.prog 129 [.map O mP] σ (fun r σ'=>r=.fn 176 [.ptr ⟨129000000,σ.next⟩ 0 0]/\σ'.get ⟨129000000,σ.next⟩=some ⟨true,1,[[.map O mP]]⟩/\σ.next<σ'.next/\∀x:Id,x.bm<σ.next->σ'.get x=σ.get x):=by
 refine eV eL rfl fun hl=>?_
 clear hl
 (try((repeat(revert hN;revert N;apply Pn.out));refine wk @Nat.zero_add ?_;(repeat(refine Pn.mk ?_;intro N hN))))
 exact fb (.inl rfl) (vs:=[.fn 176 [.ptr ⟨129000000,σ.next⟩ 0 0]]) (sd @Nat.zero_add) ⟨rfl,sd @Nat.zero_add,by(try dsimp only);omega,fun x hx=>by
  have:=dx hx
  simp only[go_sem, ↓reduceIte,Nat.reduceEqDiff,Nat.reduceAdd,Nat.reduceSub,Nat.reduceLeDiff,reduceCtorEq,this]⟩
theorem Gd {σ:ar} {X O:Id} {b1 b2:Bool} {es:List En} (hX:σ.get X=some ⟨b1,1,[[.map O mP]]⟩) (hO:σ.get O=some ⟨b2,mP.lT,es.map pg⟩) (hl:es.length<=1000000) (hXv:X.bm<σ.next) (SR:O.bm<σ.next):
  Call Tryz.prog 174 [.fn 176 [.ptr X 0 0]] σ (fun r σ'=>σ.next<=σ'.next/\(∀x:Id,x.bm<σ.next->σ'.get x=σ.get x)/\∃ss:List ad,ss.Perm (es.map (·.1))/\((ss=[]/\r=.bV)∨∃o:Id,r=.own o 0 ss.length/\σ'.get o=some ⟨true,2,ss.map ab⟩/\σ.next<=o.bm/\o.bm<σ'.next/\ss≠[])):=by
 refine eV eL rfl fun nS=>?_
 clear nS
 (try((repeat(revert hN;revert N;apply Pn.out));refine wk @Nat.zero_add ?_;(repeat(refine Pn.mk ?_;intro N hN))))
 refine .inr (aI _ _ _ _ _ (fun r σ1 hq=>?_) (AM (σ:=⟨σ.get,_⟩) hX hO hl))
 obtain⟨g1,x1⟩:=σ1
 obtain⟨q1,q2,ss,q3,q4⟩:=hq
 (try dsimp only at q1 q2 q4)
 refine hN _ _ ?_
 clear hN N
 (try((repeat(revert hN;revert N;apply Pn.out));refine wk @Nat.zero_add ?_;(repeat(refine Pn.mk ?_;intro N hN))))
 exact fb (.inl rfl) (vs:=[r]) (sd @Nat.zero_add) ⟨by(try dsimp only);omega,fun x hx=>q2 x (by omega),ss,q3,by
  rcases q4 with h|⟨o,h1,h2,h3,h4,h5⟩
  ·exact .inl h
  ·exact .inr ⟨o,h1,h2,by omega,by(try dsimp only);omega,h5⟩⟩
theorem J2 {σ:ar} {X O:Id} {b1 b2:Bool} {es:List En} (hX:σ.get X=some ⟨b1,1,[[.map O mP]]⟩) (hO:σ.get O=some ⟨b2,mP.lT,es.map pg⟩) (hl:es.length<=1000000) (hXv:X.bm<σ.next) (SR:O.bm<σ.next) (L:List ad) (hR:mJ L) (hn:(es.map (·.1)).Nodup) (hm:∀x,x∈L↔x∈es.map (·.1)):
  Call Tryz.prog 128 [.fn 176 [.ptr X 0 0],.fn 130 []] σ (fun r σ'=>σ.next<=σ'.next/\(∀x:Id,x.bm<σ.next->σ'.get x=σ.get x)/\((L=[]/\r=.bV)∨∃o:Id,r=.own o 0 L.length/\σ'.get o=some ⟨true,2,L.map ab⟩/\σ.next<=o.bm/\o.bm<σ'.next/\L≠[])):=by
 refine eV eL rfl fun nS=>?_
 clear nS
 (try((repeat(revert hN;revert N;apply Pn.out));refine wk @Nat.zero_add ?_;(repeat(refine Pn.mk ?_;intro N hN))))
 refine .inr (aI _ _ _ _ _ (fun r σ1 hq=>?_) (Gd (σ:=⟨σ.get,_⟩) hX hO hl (by(try dsimp only);omega) (by(try dsimp only);omega)))
 obtain⟨g1,x1⟩:=σ1
 obtain⟨q1,q2,ss,q3,q4⟩:=hq
 (try dsimp only at q1 q2 q4)
 have lZ:ss.Nodup:=q3.nodup_iff.2 hn
 have pV:∀x,x∈L↔x∈ss:=fun x=>(hm x).trans q3.mem_iff.symm
 refine hN _ _ ?_
 clear hN N
 rcases q4 with⟨hs,rfl⟩|⟨o,rfl,q5,q6,q7,q8⟩
 ·have hL:L=[]:=List.eq_nil_iff_forall_not_mem.2 fun x hx=>by have:=(pV x).1 hx;rw[hs]at this;cases this
  (try((repeat(revert hN;revert N;apply Pn.out));refine wk @Nat.zero_add ?_;(repeat(refine Pn.mk ?_;intro N hN))))
  refine .inr (aI _ _ _ _ _ (fun r σ2 hq=>?_) (Hk ⟨g1,_⟩))
  obtain⟨g2,x2⟩:=σ2
  obtain⟨rfl,u1,u2⟩:=hq
  (try dsimp only at u1 u2)
  refine hN _ _ ?_
  clear hN N
  (try((repeat(revert hN;revert N;apply Pn.out));refine wk @Nat.zero_add ?_;(repeat(refine Pn.mk ?_;intro N hN))))
  exact fb (.inl rfl) (vs:=[.bV]) (sd @Nat.zero_add) ⟨by(try dsimp only);omega,fun x hx=>(congrFun u2 x).trans (q2 x (by omega)),.inl ⟨hL,rfl⟩⟩
 ·have BI:ss.length<=1048576:=by rw[q3.length_eq,List.length_map];omega
  (try((repeat(revert hN;revert N;apply Pn.out));refine wk @Nat.zero_add ?_;(repeat(refine Pn.mk ?_;intro N hN))))
  refine .inr (aI _ _ _ _ _ (fun r σ2 hq=>?_) (Hl Sf NC ss BI ⟨g1,_⟩ o q5))
  obtain⟨g2,x2⟩:=σ2
  obtain⟨u1,u2,qs,u3,u4,u5,u6⟩:=hq
  (try dsimp only at u1 u2 u3)
  have Tk:qs=L:=MF hR ((oY (np hR) (fun x hx=>(u5 x).2 ((pV x).1 hx)) (by
   rw[u4]
   exact(oY (np hR) (fun x hx=>(pV x).1 hx) (Nat.le_antisymm (mi (np hR) fun x hx=>(pV x).1 hx) (mi lZ fun x hx=>(pV x).2 hx))).length_eq)).symm) u6
  rw[Tk]at u3 u4
  have Q2:L≠[]:=fun e=>by rw[e]at u4;exact q8 (List.eq_nil_of_length_eq_zero u4.symm)
  refine hN _ _ ?_
  clear hN N
  (try((repeat(revert hN;revert N;apply Pn.out));refine wk @Nat.zero_add ?_;(repeat(refine Pn.mk ?_;intro N hN))))
  exact fb (.inl rfl) (vs:=[.own o 0 ss.length]) (sd @Nat.zero_add) ⟨by(try dsimp only);omega,fun x hx=>by
   have h1:x≠o:=fun e=>by rw[e]at hx;omega
   exact(u2 x h1).trans (q2 x (by omega)),.inr ⟨o,by rw[u4];rfl,u3,by omega,by(try dsimp only);omega,Q2⟩⟩
def Ky (z m:Nat) (L:List ae) (v:AV) (g:Rows) (n:Nat):Prop:=(L=[]/\v=.bV)∨∃u:Id,v=.own u 0 L.length/\g u=some ⟨true,3,L.map aj⟩/\m<=u.bm/\u.bm<n/\0<L.length/\u.site=z
theorem Ky.frame {z m:Nat} {L:List ae} {v v':AV} {g g':Rows} {n n':Nat} (h:Ky z m L v g n) (he:v'=v) (hn:n<=n') (hf:∀x:Id,x.bm<n->g' x=g x):Ky z m L v' g' n':=by
 subst he
 rcases h with h|⟨u,h1,h2,h3,h4,h5⟩
 ·exact .inl h
 ·exact .inr ⟨u,h1,(hf u h4).trans h2,h3,by omega,h5⟩
def qU (p:ad) (ks:List Int) (j:Nat):List ae:=(ks.take j).map fun k=>⟨p,k⟩
theorem G8 {p:ad} {ks:List Int} {j:Nat} (h:j<ks.length):qU p ks (j+1)=qU p ks j++[⟨p,ks.getD j 0⟩]:=by
 unfold qU
 rw[List.take_succ_eq_append_getElem h,List.map_append]
 simp[List.getD_eq_getElem?_getD,h]
theorem JI (p:ad) (ks:List Int):qU p ks ks.length=ks.map fun k=>(⟨p,k⟩:ae):=by unfold qU;rw[List.take_length]
theorem LX {ks:List Int} {j:Nat} (h:j<ks.length):(ks.map aw)[j]? =some [.int .i64 (ks.getD j 0)]:=by simp[aw,List.getD_eq_getElem?_getD,h]
theorem Pc {σ:ar} {c T O:Id} {s:aD} {l:List ae} (h:FX σ.get σ.next c T O s l) (hT:1<=s.ay) (hS:iH s.aB) (hA:lp s.aB l):
  Call Tryz.prog 74 [.ptr c 0 0] σ (fun r σ'=>σ.next<=σ'.next/\(∀x:Id,x.bm<σ.next->σ'.get x=σ.get x)/\Ky 74008005 σ.next (uA (eS s l) s.aB.ah.length (ig l)) r σ'.get σ'.next):=by
 refine eV eL rfl fun nS=>?_
 clear nS
 obtain⟨es,hO,hE⟩:=h.op
 have e6:=h.o.row
 have v1:=dx h.o.cv
 have v2:=dx h.o.ov
 have KN:=hS.yW
 have Gz:=hA.1.Bd
 have OL:∀q,q∈lO s l↔q∈es.map (·.1):=fun q=>by
  rw[wh hT hA]
  rcases hE.at_ q trivial with⟨h1,h2⟩|⟨h1,o,h2,_⟩
  ·refine⟨fun h=>absurd h1 h,fun h=>?_⟩
   obtain⟨e,he,rfl⟩:=List.mem_map.1 h
   exact absurd rfl (h2 e he)
  ·exact⟨fun _=>List.mem_map_of_mem (f:=(·.1)) h2,fun _=>h1⟩
 have Tj:(lO s l).length<=10000:=by
  have h1:(lO s l).length<=(ig l).length:=List.length_filter_le _ _
  have h2:(ig l).length<=l.length*4:=kX l l.length
  omega
 have hes:es.length<=1000000:=by
  have h1:=mi hE.nodup fun x hx=>(OL x).2 hx
  rw[List.length_map]at h1
  omega
 rw[C7]
 have hR:=Dn s l
 have pT:∀q∈lO s l,ft s l q≠[]:=fun q hq=>(wh hT hA q).1 hq
 generalize lO s l=ps at OL Tj hR pT
 (try((repeat(revert hN;revert N;apply Pn.out));refine wk (tw @e6 @v1) ?_;(repeat(refine Pn.mk ?_;intro N hN))))
 refine .inr (aI _ _ _ _ _ (fun r σ1 hq=>?_) (Ji O _))
 obtain⟨g1,x1⟩:=σ1
 obtain⟨rfl,q1,q2,q3⟩:=hq
 (try dsimp only at q1 q2 q3)
 have hO1:g1 O=some ⟨true,mP.lT,es.map pg⟩:=(q3 O (by have:=h.o.ov;(try dsimp only);omega)).trans hO
 refine hN _ _ ?_
 clear hN N
 (try((repeat(revert hN;revert N;apply Pn.out));refine wk @Nat.zero_add ?_;(repeat(refine Pn.mk ?_;intro N hN))))
 refine .inr (aI _ _ _ _ _ (fun r σ2 hq=>?_) (J2 (σ:=⟨g1,_⟩) q1 hO1 hes (by(try dsimp only);omega) (by have:=h.o.ov;(try dsimp only);omega) ps hR hE.nodup OL))
 obtain⟨g2,x2⟩:=σ2
 obtain⟨u1,u2,u3⟩:=hq
 (try dsimp only at u1 u2 u3)
 have DH:∀x:Id,x.bm<σ.next->g2 x=σ.get x:=fun x hx=>(u2 x (by omega)).trans (q3 x (by(try dsimp only);omega))
 refine hN _ _ ?_
 clear hN N
 rcases u3 with⟨hps,rfl⟩|⟨o,rfl,ho,rS,Th,hpne⟩
 ·(try((repeat(revert hN;revert N;apply Pn.out));refine wk @Nat.zero_add ?_;(repeat(refine Pn.mk ?_;intro N hN))))
  refine aM (fun n env st=>(env 15=.int .i64 0/\env 14=.int .i64 0/\env 3=.bV)/\σ.next<=st.next/\∀x:Id,x.bm<σ.next->st.get x=σ.get x) 0 ⟨⟨sd @Nat.zero_add,sl @Nat.zero_add,sd @Nat.zero_add⟩,by(try dsimp only);omega,fun x hx=>DH x hx⟩ ?_
  rintro m e st ⟨⟨a15,KX,a3⟩,an,aF⟩ -
  have d0:decide ((0:Int)<0)=false:=rfl
  (try((repeat(revert hN;revert N;apply Pn.out));refine wk (tw @a3 (tw @KX (tw @a15 @d0))) ?_;(repeat(refine Pn.mk ?_;intro N hN))))
  exact fb (.inl rfl) (vs:=[.bV]) (sd @a3) ⟨by(try dsimp only);omega,fun x hx=>aF x hx,.inl ⟨by rw[hps];rfl,rfl⟩⟩
 ·have DD:g2 c=some ⟨true,6,[[.sl (s.aB.ax.map bP),.sl (s.aB.ah.map bp),.sl (s.cu.ah.map aj),.int .i64 s.ay,.map T mP,.map O mP]]⟩:=(DH c h.o.cv).trans e6
  have Uh:g2 O=some ⟨true,mP.lT,es.map pg⟩:=(DH O h.o.ov).trans hO
  have Ri:=h.o.cv
  have SR:=h.o.ov
  (try((repeat(revert hN;revert N;apply Pn.out));refine wk @Nat.zero_add ?_;(repeat(refine Pn.mk ?_;intro N hN))))
  refine aM (fun n env st=>∃k:Nat,n=(ps.length)-k/\k<=(ps.length)/\env 15=.int .i64 (k:Int)/\(x2<=st.next/\(∀x:Id,x.bm<x2->st.get x=g2 x)/\Ky 74008005 x2 (uA (eS s l) s.aB.ah.length (ps.take k)) (env 3) st.get st.next)) (ps.length) ⟨0,by omega,by omega,sl @Nat.zero_add,by(try dsimp only);exact⟨by omega,fun x hx=>sd @Nat.zero_add,.inl ⟨rfl,sd @Nat.zero_add⟩⟩⟩ ?_
  rintro n_a env_a st_a ⟨k,rfl,ale,a15,kc⟩ di
  have a0:=di 0 (by kernel_rfl);have NQ:=di 13 (by kernel_rfl);have KX:=di 14 (by kernel_rfl)
  simp only[go_sem, ↓reduceIte,Nat.reduceEqDiff,Nat.reduceAdd,Nat.reduceSub,Nat.reduceLeDiff,reduceCtorEq]at a0 NQ KX
  clear di
  obtain⟨an,di,a3⟩:=kc
  have bl:(uA (eS s l) s.aB.ah.length (ps.take k)).length<=10000*160:=by
   have h2:=ze (eS s l) s.aB.ah.length (ps.take k)
   have h3:(ps.take k).length*s.aB.ah.length<=10000*160:=Nat.mul_le_mul (by rw[List.length_take];omega) KN
   omega
  by_cases hk:(k:Int)<(ps.length:Int)
  ·have cz:∀{e:Env} {gg:Rows} {nx:Nat},(e 15=.int .i64 (IntKind.i64.wrap ((k:Int)+1)))->(x2<=nx/\(∀x:Id,x.bm<x2->gg x=g2 x)/\Ky 74008005 x2 (uA (eS s l) s.aB.ah.length (ps.take (k+1))) (e 3) gg nx)->∃m0,m0<(ps.length)-k/\∃k:Nat,m0=(ps.length)-k/\k<=(ps.length)/\e 15=.int .i64 (k:Int)/\(x2<=nx/\(∀x:Id,x.bm<x2->gg x=g2 x)/\Ky 74008005 x2 (uA (eS s l) s.aB.ah.length (ps.take k)) (e 3) gg nx):=fun x1 x2=>⟨_,by omega,k+1,rfl,by omega,(by rw[x1,az (by omega)]),x2⟩
   have eX:k<ps.length:=by omega
   have um:=(di o Th).trans ho
   have Si:=dx (i:=o) (n:=st_a.next) (by omega)
   have eZ:=tW eX
   have Ng:=(di c (by omega)).trans DD
   have Tw:=dx (i:=c) (n:=st_a.next) (by omega)
   have hgO:=(di O (by omega)).trans Uh
   have Tv:=dx (i:=O) (n:=st_a.next) (by omega)
   obtain⟨o',uI,OR,DQ⟩:∃o':Id,(jf ps k,AV.own o' 0 (ft s l (jf ps k)).length)∈es/\o'.bm<σ.next/\σ.get o'=some ⟨true,1,(ft s l (jf ps k)).map aw⟩:=by
    rcases hE.at_ (jf ps k) trivial with⟨h1,_⟩|⟨_,o',h2⟩
    ·exact absurd h1 (pT _ (z7 eX))
    ·exact⟨o',h2⟩
   obtain⟨fi,Ax,_,_,vT,I4⟩:=ta (jf ps k) es
   obtain⟨j0,rfl,IZ⟩:∃j,fi=some j/\(es.map pg)[j]? =some [.int .i64 (jf ps k).eI,.int .i64 (jf ps k).eF,.own o' 0 (ft s l (jf ps k)).length]:=by
    cases fi with
    |none=>exact absurd rfl (I4 rfl _ uI)
    |some j=>
     obtain⟨v,hv⟩:=vT j rfl
     have e:=FC hE.nodup (List.mem_of_getElem? hv) uI
     subst e
     exact⟨j,rfl,by rw[List.getElem?_map,hv];rfl⟩
   have Ra:=Ib (B:=eS s l) (m:=s.aB.ah.length) eX
   have fx:Ia (eS s l) (jf ps k) s.aB.ah.length=(ft s l (jf ps k)).map fun t=>(⟨jf ps k,t⟩:ae):=ve _ _ _
   rw[fx,<-JI]at Ra
   have LM:(ft s l (jf ps k)).length<=160:=by
    have:=ph (eS s l) (jf ps k) s.aB.ah.length
    unfold ft;omega
   generalize jf ps k=q at Ax IZ uI DQ eZ Ra LM
   generalize ft s l q=us at IZ uI DQ Ra LM
   generalize uA (eS s l) s.aB.ah.length (ps.take k)=L at a3 bl Ra
   (try((repeat(revert hN;revert N;apply Pn.out));refine wk (tw @a15 (tw @a0 (tw @NQ (tw @KX (tw @hk (tw @um (tw @Si (tw @eZ (tw @Ng (tw @Tw (tw @hgO (tw @Tv (tw @Ax (tw @IZ @ab.eq_1)))))))))))))) ?_;(repeat(refine Pn.mk ?_;intro N hN))))
   refine aM (fun n env st=>∃j:Nat,n=(us.length)-j/\j<=(us.length)/\env 26=.int .i64 (j:Int)/\st.get ⟨74004002,st_a.next+1⟩=some ⟨true,2,[ab q]⟩/\(st_a.next+2<=st.next/\(∀x:Id,x.bm<x2->st.get x=g2 x)/\Ky 74008005 x2 (L++qU q us j) (env 3) st.get st.next)) (us.length) ⟨0,by omega,by omega,sl (tw @a15 (tw @a0 (tw @NQ (tw @KX @ab.eq_1)))),sl (tw @a15 (tw @a0 (tw @NQ (tw @KX @ab.eq_1)))),by(try dsimp only);exact⟨by omega,fun x hx=>by
    have h2:=dx (i:=x) (n:=st_a.next) (by omega)
    have h3:=di x hx
    simp only[go_sem, ↓reduceIte,Nat.reduceEqDiff,Nat.reduceAdd,Nat.reduceSub,Nat.reduceLeDiff,reduceCtorEq,h2,h3],by
    rw[show qU q us 0=[]from rfl,List.append_nil]
    exact a3.frame (sd @Nat.zero_add) (by omega) fun x hx=>by
     have h2:=dx hx
     simp only[go_sem, ↓reduceIte,Nat.reduceEqDiff,Nat.reduceAdd,Nat.reduceSub,Nat.reduceLeDiff,reduceCtorEq,h2]⟩⟩ ?_
   rintro n_b env_b st_b ⟨j,rfl,ble,b26,bg0,bI0⟩ e9
   have b0:=e9 0 (by kernel_rfl);have b5:=e9 5 (by kernel_rfl);have C4:=e9 13 (by kernel_rfl);have NV:=e9 14 (by kernel_rfl);have NW:=e9 15 (by kernel_rfl);have NX:=e9 24 (by kernel_rfl);have NY:=e9 25 (by kernel_rfl)
   simp only[go_sem, ↓reduceIte,Nat.reduceEqDiff,Nat.reduceAdd,Nat.reduceSub,Nat.reduceLeDiff,reduceCtorEq,a15,a0,NQ,KX,ab]at b0 b5 C4 NV NW NX NY
   clear e9
   obtain⟨bn,e9,b3⟩:=bI0
   have Ty:=dx (i:=⟨74004002,st_a.next+1⟩) (n:=st_b.next) (by(try dsimp only);omega)
   have Ug:(L++qU q us j).length<=16777214:=by
    have:(qU q us j).length<=us.length:=by unfold qU;simp;omega
    rw[List.length_append];omega
   by_cases hj:(j:Int)<(us.length:Int)
   ·have fJ:∀{e:Env} {gg:Rows} {nx:Nat},(e 26=.int .i64 (IntKind.i64.wrap ((j:Int)+1)))->(gg ⟨74004002,st_a.next+1⟩=some ⟨true,2,[ab q]⟩)->(st_a.next+2<=nx/\(∀x:Id,x.bm<x2->gg x=g2 x)/\Ky 74008005 x2 (L++qU q us (j+1)) (e 3) gg nx)->∃m0,m0<(us.length)-j/\∃j:Nat,m0=(us.length)-j/\j<=(us.length)/\e 26=.int .i64 (j:Int)/\gg ⟨74004002,st_a.next+1⟩=some ⟨true,2,[ab q]⟩/\(st_a.next+2<=nx/\(∀x:Id,x.bm<x2->gg x=g2 x)/\Ky 74008005 x2 (L++qU q us j) (e 3) gg nx):=fun x1 x2 x3=>⟨_,by omega,j+1,rfl,by omega,(by rw[x1,az (by omega)]),x2,x3⟩
    have iM:j<us.length:=by omega
    have yv:=G8 (p:=q) iM
    have CH:=LX iM
    have Rr:=(e9 o' (by omega)).trans ((DH o' OR).trans DQ)
    have Sj:=dx (i:=o') (n:=st_b.next) (by omega)
    have GB:(us.map aw).length=us.length:=by simp
    have Nc:L++qU q us (j+1)=(L++qU q us j)++[⟨q,us.getD j 0⟩]:=by rw[yv,List.append_assoc]
    generalize us.getD j 0=t at CH Nc
    generalize L++qU q us j=M at b3 Ug Nc
    have Az:(M++[(⟨q,t⟩:ae)]).length=M.length+1:=by simp
    have zD:(M++[(⟨q,t⟩:ae)]).map aj=M.map aj++[[.int .i64 q.eI,.int .i64 q.eF,.int .i64 t]]:=by rw[List.map_append];rfl
    rcases b3 with⟨hM,b3⟩|⟨u,b3,hug,hum,huv,hul0,Nt⟩
    ·subst hM
     (try((repeat(revert hN;revert N;apply Pn.out));refine wk (tw @b26 (tw @bg0 (tw @b0 (tw @b5 (tw @C4 (tw @NV (tw @NW (tw @NX (tw @NY (tw @hj (tw @CH (tw @Rr (tw @Sj (tw @GB (tw @b3 (tw @Ty @ab.eq_1)))))))))))))))) ?_;(repeat(refine Pn.mk ?_;intro N hN))))
     refine fJ ?_ ?_ (by(try dsimp only);exact⟨by omega,fun x hx=>by
      have h2:=dx (i:=x) (n:=st_b.next) (by omega)
      have h3:=e9 x hx
      simp only[go_sem, ↓reduceIte,Nat.reduceEqDiff,Nat.reduceAdd,Nat.reduceSub,Nat.reduceLeDiff,reduceCtorEq,h2,h3],.inr ⟨⟨74008005,st_b.next+1+1⟩,by rw[Nc,Az];simp only[go_sem, ↓reduceIte,Nat.reduceEqDiff,Nat.reduceAdd,Nat.reduceSub,Nat.reduceLeDiff,reduceCtorEq]<;>rfl,by rw[Nc,zD];simp only[go_sem, ↓reduceIte,Nat.reduceEqDiff,Nat.reduceAdd,Nat.reduceSub,Nat.reduceLeDiff,reduceCtorEq]<;>rfl,by(try dsimp only);omega,by(try dsimp only);omega,by rw[Nc,Az];omega,rfl⟩⟩)
     all_goals simp only[go_sem, ↓reduceIte,Nat.reduceEqDiff,Nat.reduceAdd,Nat.reduceSub,Nat.reduceLeDiff,reduceCtorEq,b26,bg0,b0,b5,C4,NV,NW,NX,NY,Ty,ab]
    ·have vub:=dx huv
     have lH:(M.map aj).length=M.length:=by simp
     have hM1:M.length<=16777215:=by omega
     have ux:=gH Nt (b:=74004002) (v:=st_a.next+1) (by decide)
     (try((repeat(revert hN;revert N;apply Pn.out));refine wk (tw @b26 (tw @bg0 (tw @b0 (tw @b5 (tw @C4 (tw @NV (tw @NW (tw @NX (tw @NY (tw @hj (tw @CH (tw @Rr (tw @Sj (tw @GB (tw @b3 (tw @hug (tw @vub (tw @lH (tw @hM1 (tw @Ty (tw @ux @ab.eq_1))))))))))))))))))))) ?_;(repeat(refine Pn.mk ?_;intro N hN))))
     refine fJ ?_ ?_ (by(try dsimp only);exact⟨by omega,fun x hx=>by
      have h2:=dx (i:=x) (n:=st_b.next) (by omega)
      have h4:=dt (a:=x) (b:=u) (by omega)
      have h3:=e9 x hx
      simp only[go_sem, ↓reduceIte,Nat.reduceEqDiff,Nat.reduceAdd,Nat.reduceSub,Nat.reduceLeDiff,reduceCtorEq,h2,h3,h4],.inr ⟨⟨74008005,st_b.next+1+1⟩,by rw[Nc,Az];simp only[go_sem, ↓reduceIte,Nat.reduceEqDiff,Nat.reduceAdd,Nat.reduceSub,Nat.reduceLeDiff,reduceCtorEq]<;>rfl,by rw[Nc,zD];simp only[go_sem, ↓reduceIte,Nat.reduceEqDiff,Nat.reduceAdd,Nat.reduceSub,Nat.reduceLeDiff,reduceCtorEq]<;>rfl,by(try dsimp only);omega,by(try dsimp only);omega,by rw[Nc,Az];omega,rfl⟩⟩)
     all_goals simp only[go_sem, ↓reduceIte,Nat.reduceEqDiff,Nat.reduceAdd,Nat.reduceSub,Nat.reduceLeDiff,reduceCtorEq,b26,bg0,b0,b5,C4,NV,NW,NX,NY,Ty,ux,ab]
   ·have hju:j=us.length:=by omega
    subst hju
    (try((repeat(revert hN;revert N;apply Pn.out));refine wk (tw @b26 (tw @bg0 (tw @b0 (tw @b5 (tw @C4 (tw @NV (tw @NW (tw @NX (tw @NY @hj))))))))) ?_;(repeat(refine Pn.mk ?_;intro N hN))))
    exact cz (sd (tw @a15 (tw @a0 (tw @NQ (tw @KX (tw @b26 (tw @bg0 (tw @b0 (tw @b5 (tw @C4 (tw @NV (tw @NW (tw @NX @NY))))))))))))) (by(try dsimp only);exact⟨by omega,fun x hx=>e9 x hx,by
     rw[Ra]
     exact b3.frame (sd @Nat.zero_add) (by omega) fun x hx=>rfl⟩)
  ·have kH:k=ps.length:=by omega
   subst kH
   rw[List.take_length]at a3
   (try((repeat(revert hN;revert N;apply Pn.out));refine wk (tw @a15 (tw @a0 (tw @NQ (tw @KX @hk)))) ?_;(repeat(refine Pn.mk ?_;intro N hN))))
   exact fb (.inl rfl) (vs:=[env_a 3]) (sd @Nat.zero_add) ⟨by(try dsimp only);omega,fun x hx=>(di x (by omega)).trans (DH x hx),by
    rcases a3 with h1|⟨u,h1,h2,h3,h4,h5⟩
    ·exact .inl h1
    ·exact .inr ⟨u,h1,h2,by omega,by(try dsimp only);omega,h5⟩⟩
end Go.Proofs.YtgoelphibofcmaaGreat.V

namespace Go.Proofs.YtgoelphibofcmaaGreat.V
open Go.RowKit
end Go.Proofs.YtgoelphibofcmaaGreat.V

namespace Go.Proofs.YtgoelphibofcmaaGreat.V
open Go.RowKit
attribute [local irreducible] ek wpOps gq Call
attribute [local go_sem] aH fF eK ga fZ da upd ck K.av cH AV.cells AV.cell rowOf rowsOf part ld rowAt bF cj dy dW gU bG cX eh fY eU dn ea cV cU dH dI bJ aW cK bI cN cL dY eb dZ cJ bL cW dX bH aL cQ cC gT bj cF bK aT du bf dz AV.undef bw bE dM dU dE dJ cE ef ep cw ee ec cP cR List.getD_cons_zero List.getD_cons_succ List.getD_nil List.all_cons List.all_nil Bool.and_true Bool.true_and Bool.and_self Bool.not_true Bool.not_false Option.map_some Option.map_none Option.bind_some Option.bind_none List.length_cons List.length_nil List.take_succ_cons List.take_zero List.take_nil List.drop_succ_cons List.drop_zero List.drop_nil List.head?_cons List.map_cons List.map_nil List.getElem?_cons_zero List.getElem?_cons_succ List.cons_append List.nil_append List.append_nil List.length_map List.set_cons_zero List.set_cons_succ Nat.reduceMul eq_self Int.toNat_natCast Int.natCast_nonneg and_self true_and and_true decide_true decide_false Bool.false_eq_true Nat.zero_add Nat.add_zero List.contains_cons List.contains_nil Bool.or_false Bool.false_or beq_self_eq_true Nat.reduceBEq ne_eq not_true_eq_false not_false_eq_true Id.mk.injEq false_and and_false Nat.reduceLT Int.reduceLE Int.reduceLT Int.reduceToNat Int.reduceNeg Int.reduceAdd Nat.le_refl List.length_append beq_true beq_false Bool.not_eq_eq_eq_not or_false false_or dF ai ao aG aZ bt bW aP aY aQ aV cI bD
def iP (p:ad->Bool) (l:List ad):List ad:=l.filter fun x=> !p x
theorem qN {p:ad->Bool} {l:List ad} {j:Nat} (hj:j<l.length):iP p (l.take (j+1))=iP p (l.take j)++if p l[j]=true then[]else[l[j]]:=by
 unfold iP
 rw[List.take_succ_eq_append_getElem hj,List.filter_append]
 congr 1
 cases h:p l[j]<;>simp[h]
theorem D4 {p:ad->Bool} {l:List ad} (h:∀b∈l,p b=false):iP p l=l:=by
 unfold iP
 rw[List.filter_eq_self]
 intro b hb
 rw[h b hb];rfl
structure Kx (p:ad->Bool) (bs:List ad) (j:Nat) (R:List ad):Prop where
 len:R.length=bs.length
 pre:R.take (iP p (bs.take j)).length=iP p (bs.take j)
 post:∀x,j<=x->R[x]? =bs[x]?
 lt:(iP p (bs.take j)).length<j
theorem Kx.start {p:ad->Bool} {bs:List ad} {i:Nat} (hi:i<bs.length) (hw:p bs[i]=true) (hp:∀x (h:x<i),p bs[x]=false):Kx p bs (i+1) bs/\(iP p (bs.take (i+1))).length=i:=by
 have h1:iP p (bs.take i)=bs.take i:=D4 fun b hb=>by
  obtain⟨x,hx,rfl⟩:=List.getElem_of_mem hb
  rw[List.length_take]at hx
  rw[List.getElem_take]
  exact hp x (by omega)
 have h2:iP p (bs.take (i+1))=bs.take i:=by rw[qN hi,if_pos hw,List.append_nil,h1]
 have h3:(bs.take i).length=i:=by rw[List.length_take];omega
 exact⟨⟨rfl,by rw[h2,h3],fun _ _=>rfl,by rw[h2,h3];omega⟩,by rw[h2,h3]⟩
theorem Kx.Sp {p:ad->Bool} {bs R:List ad} {j:Nat} (h:Kx p bs j R) (hj:j<bs.length) (hw:p bs[j]=true):Kx p bs (j+1) R/\(iP p (bs.take (j+1))).length=(iP p (bs.take j)).length:=by
 have h2:iP p (bs.take (j+1))=iP p (bs.take j):=by rw[qN hj,if_pos hw,List.append_nil]
 exact⟨⟨h.len,by rw[h2];exact h.pre,fun x hx=>h.post x (by omega),by rw[h2];have:=h.lt;omega⟩,by rw[h2]⟩
theorem Kx.uu {p:ad->Bool} {bs R:List ad} {j:Nat} (h:Kx p bs j R) (hj:j<bs.length) (hw:p bs[j]=false):Kx p bs (j+1) (R.set (iP p (bs.take j)).length bs[j])/\(iP p (bs.take (j+1))).length=(iP p (bs.take j)).length+1:=by
 have h2:iP p (bs.take (j+1))=iP p (bs.take j)++[bs[j]]:=by rw[qN hj,hw];rfl
 have dR:=h.lt
 have hlen:=h.len
 have uo:=h.pre
 generalize hc:(iP p (bs.take j)).length=c at *
 refine⟨⟨by rw[List.length_set];exact hlen,?_,fun x hx=>?_,by rw[h2,List.length_append,hc];simp;omega⟩,by rw[h2,List.length_append,hc];rfl⟩
 ·rw[h2,List.length_append,hc,List.length_singleton,List.take_succ_eq_append_getElem (by rw[List.length_set];omega),List.getElem_set_self,List.take_set_of_le (Nat.le_refl _),uo]
 ·rw[List.getElem?_set_ne (by omega)];exact h.post x (by omega)
theorem Kx.at_ {p:ad->Bool} {bs R:List ad} {j:Nat} (h:Kx p bs j R) (hj:j<bs.length):(R.map ab)[j]? =some (ab bs[j]):=by
 rw[List.getElem?_map,h.post j (Nat.le_refl j),List.getElem?_eq_getElem hj];rfl
theorem zw (s:aD) (l:List ae) (hn:gK s.aB) (hm:rz s) (hl:l.length<=1048576):aq Tryz.prog 63 [.agg (aC s),.agg [.sl (l.map aj)]] (.int .i64 (if ud s l then 0 else 1)):=by
 refine aq.body eL rfl fun nS n0=>?_
 clear nS
 have h1:=xr N0 s hn hm.s.g hm.s.t hm.s.s hm.a
 have h2:=nB s.aB l hn hm.s.g hm.s.t hm.s.s hl
 cases b1:nu s
 ·rw[b1]at h1
  rw[aC]at h1 ⊢
  (repeat(first|((repeat(revert hN;revert N;apply Pn.out));refine wk @Nat.zero_add ?_;(repeat(refine Pn.mk ?_;intro N hN)))|((try apply Or.inl);refine⟨_,aq.x (h1) (sd @Nat.zero_add),?_⟩;refine hN _ _ ?_;clear hN N)))
  exact cD (b:=1) (.inl rfl) (sd @Nat.zero_add) (by simp[ud,b1])
 have dS:q9 s.aB=true:=mm.2 (w9.1 b1).set
 rw[b1]at h1
 rw[dS,Bool.true_and]at h2
 rw[aC]at h1 ⊢
 rw[aa]at h2
 cases b2:pO s.aB l
 ·rw[b2]at h2
  (repeat(first|((repeat(revert hN;revert N;apply Pn.out));refine wk @Nat.zero_add ?_;(repeat(refine Pn.mk ?_;intro N hN)))|((try apply Or.inl);refine⟨_,aq.x (h1) (sd @Nat.zero_add),?_⟩;refine hN _ _ ?_;clear hN N)|((try apply Or.inl);refine⟨_,aq.x (h2) (sd @Nat.zero_add),?_⟩;refine hN _ _ ?_;clear hN N)))
  exact cD (b:=1) (.inl rfl) (sd @Nat.zero_add) (by simp[ud,b1,b2])
 ·rw[b2]at h2
  (repeat(first|((repeat(revert hN;revert N;apply Pn.out));refine wk @Nat.zero_add ?_;(repeat(refine Pn.mk ?_;intro N hN)))|((try apply Or.inl);refine⟨_,aq.x (h1) (sd @Nat.zero_add),?_⟩;refine hN _ _ ?_;clear hN N)|((try apply Or.inl);refine⟨_,aq.x (h2) (sd @Nat.zero_add),?_⟩;refine hN _ _ ?_;clear hN N)))
  exact cD (b:=0) (.inl rfl) (sd @Nat.zero_add) (by simp[ud,b1,b2])
noncomputable def rD (s:aD) (l:List ae):Int:=if ud s l then 0 else 1
theorem AN {s:aD} {l:List ae}:rD s l=0↔F4 s/\lp s.aB l:=by
 unfold rD
 rw[<-H6]
 cases ud s l<;>simp
end Go.Proofs.YtgoelphibofcmaaGreat.V

namespace Go.Proofs.YtgoelphibofcmaaGreat.V
open Go.RowKit
attribute [local irreducible] ek wpOps gq Call
attribute [local go_sem] aH fF eK ga fZ da upd ck K.av cH AV.cells AV.cell rowOf rowsOf part ld rowAt bF cj dy dW gU bG cX eh fY eU dn ea cV cU dH dI bJ aW cK bI cN cL dY eb dZ cJ bL cW dX bH aL cQ cC gT bj cF bK aT du bf dz AV.undef bw bE dM dU dE dJ cE ef ep cw ee ec cP cR List.getD_cons_zero List.getD_cons_succ List.getD_nil List.all_cons List.all_nil Bool.and_true Bool.true_and Bool.and_self Bool.not_true Bool.not_false Option.map_some Option.map_none Option.bind_some Option.bind_none List.length_cons List.length_nil List.take_succ_cons List.take_zero List.take_nil List.drop_succ_cons List.drop_zero List.drop_nil List.head?_cons List.map_cons List.map_nil List.getElem?_cons_zero List.getElem?_cons_succ List.cons_append List.nil_append List.append_nil List.length_map List.set_cons_zero List.set_cons_succ eq_self Int.toNat_natCast Int.natCast_nonneg and_self true_and and_true decide_true decide_false Bool.false_eq_true Nat.zero_add Nat.add_zero List.contains_cons List.contains_nil Bool.or_false Bool.false_or beq_self_eq_true ne_eq not_true_eq_false not_false_eq_true Id.mk.injEq false_and and_false Nat.le_refl List.length_append beq_true beq_false Bool.not_eq_eq_eq_not or_false false_or dF ai ao aG aZ bt bW aP aY aQ aV cI bD
theorem jc.cell {α:Type} {e:α->List AV} {L:List α} {w:AV} (h:jc e L w):w.cells=[w]/\w.cell=true:=by
 rcases h with⟨rfl,rfl⟩|rfl<;>exact⟨rfl,rfl⟩
theorem pM.cell {α:Type} {e:α->List AV} {z:Nat} {g:Rows} {v:AV} {L:List α} {ids:List Id} (h:pM e z g v L ids):v.cells=[v]/\v.cell=true:=by
 rcases h with⟨_,rfl,_⟩|⟨o,rfl,_⟩<;>exact⟨rfl,rfl⟩
theorem jc.fz5 {α:Type} {e:α->List AV} {L:List α} {w:AV} (h:jc e L w) (g:Rows):V.fz g 5 w=some w:=by
 rcases h with⟨rfl,rfl⟩|rfl
 ·exact aP _ _
 ·exact bW _ _ _
theorem pM.fz5 {α:Type} {e:α->List AV} {z:Nat} {g:Rows} {v:AV} {L:List α} {ids:List Id} (h:pM e z g v L ids) (he:∀x g,cG g 4 (e x)=some (e x)):∃w,V.fz (dF g) 5 v=some w/\jc e L w:=by
 rcases h with⟨rfl,rfl,_⟩|⟨o,rfl,h2,_⟩
 ·exact⟨.bV,aP _ _,.inl ⟨rfl,rfl⟩⟩
 ·exact⟨_,fS (e:=e) (sz:=z) (by simp[dF,h2]) rfl fun x=>he x _,.inr rfl⟩
end Go.Proofs.YtgoelphibofcmaaGreat.V

namespace Go.Proofs.YtgoelphibofcmaaGreat.V
open Go.RowKit
attribute [local irreducible] ek wpOps gq Call
attribute [local go_sem] aH fF eK ga fZ da upd ck K.av cH AV.cells AV.cell rowOf rowsOf part ld rowAt bF cj dy dW gU bG cX eh fY eU dn ea cV cU dH dI bJ aW cK bI cN cL dY eb dZ cJ bL cW dX bH aL cQ cC gT bj cF bK aT du bf dz AV.undef bw bE dM dU dE dJ cE ef ep cw ee ec cP cR List.getD_cons_zero List.getD_cons_succ List.getD_nil List.all_cons List.all_nil Bool.and_true Bool.true_and Bool.and_self Bool.not_true Bool.not_false Option.map_some Option.map_none Option.bind_some Option.bind_none List.length_cons List.length_nil List.take_succ_cons List.take_zero List.take_nil List.drop_succ_cons List.drop_zero List.drop_nil List.head?_cons List.map_cons List.map_nil List.getElem?_cons_zero List.getElem?_cons_succ List.cons_append List.nil_append List.append_nil List.length_map List.set_cons_zero List.set_cons_succ Nat.reduceMul eq_self Int.toNat_natCast Int.natCast_nonneg and_self true_and and_true decide_true decide_false Bool.false_eq_true Nat.zero_add Nat.add_zero List.contains_cons List.contains_nil Bool.or_false Bool.false_or beq_self_eq_true Nat.reduceBEq ne_eq not_true_eq_false not_false_eq_true Id.mk.injEq false_and and_false Nat.reduceLT Int.reduceLE Int.reduceLT Int.reduceToNat Int.reduceNeg Int.reduceAdd Nat.le_refl List.length_append beq_true beq_false Bool.not_eq_eq_eq_not or_false false_or dF ai ao aG aZ bt bW aP aY aQ aV cI bD
noncomputable def CP (s:aD) (l:List ae) (p:ad):Bool:=decide ((1:Int)<(((ft s l p).length:Nat):Int))
noncomputable def tg (s:aD) (l:List ae):Option ad:=(ig l).find? (CP s l)
noncomputable def Ep (s:aD) (l:List ae):Option ad->ad×List Int×Int
 |some p=>(p,ft s l p,0)
 |none=>(⟨0,0⟩,[],3)
noncomputable def qZ (s:aD) (l:List ae):ad×List Int×Int:=if rD s l=0 then Ep s l (tg s l)else(⟨0,0⟩,[],rD s l)
theorem Fh {α:Type} {B:α->Bool} {L:List α} {k:Nat} (h:k<L.length) (h1:B L[k]=true) (h0:∀j (hj:j<k),B (L[j]'(by omega))=false):L.find? B=some L[k]:=by
 rw[List.find?_eq_some_iff_getElem]
 exact⟨h1,k,h,rfl,fun j hj=>by rw[h0 j hj];rfl⟩
theorem Fi {α:Type} {B:α->Bool} {L:List α} (h0:∀j (hj:j<L.length),B L[j]=false):L.find? B=none:=by
 rw[List.find?_eq_none]
 intro x hx
 obtain⟨j,hj,rfl⟩:=List.getElem_of_mem hx
 rw[h0 j hj];simp
theorem MA (s:aD) (l ps:List ad) (B:ad->Int->Bool) (m:Nat) (hl:l=l):((uA B m ps).find? (fun o=>decide ((1:Int)<(((jT B o.bc m).length:Nat):Int)))).map (·.bc)=ps.find? (fun p=>decide ((1:Int)<(((jT B p m).length:Nat):Int))):=by
 induction ps with
 |nil=>rfl
 |cons p ps ih=>
  have hb:uA B m (p::ps)=Ia B p m++uA B m ps:=by unfold uA;rw[List.flatMap_cons]
  rw[hb,List.find?_append,List.find?_cons,ve]
  by_cases h:(1:Int)<(((jT B p m).length:Nat):Int)
  ·rw[decide_eq_true h]
   rcases hf:jT B p m with _|⟨t,r⟩
   ·rw[hf]at h;simp at h
   ·rw[List.map_cons,List.find?_cons,decide_eq_true h];rfl
  ·rw[decide_eq_false h]
   have hn:(List.map (fun k=>(⟨p,k⟩:ae)) (jT B p m)).find? (fun o=>decide ((1:Int)<(((jT B o.bc m).length:Nat):Int)))=none:=by
    rw[List.find?_eq_none]
    intro x hx
    obtain⟨k,_,rfl⟩:=List.mem_map.1 hx
    rw[decide_eq_false h];simp
   rw[hn];exact ih
theorem Hh (s:aD) (l:List ae):tg s l=((uA (eS s l) s.aB.ah.length (ig l)).find? (fun o=>CP s l o.bc)).map (·.bc):=(MA s [] (ig l) (eS s l) _ rfl).symm
theorem Ms {f:Nat} {args er:List AV} {ps:List ad} {σ:ar} (h:∀σ,Call Tryz.prog f er σ (NL σ (fun _=>True) ps)) (hv:cG (dF σ.get) 6 args=some er):
  Call Tryz.prog f args σ (fun r σ'=>∃o:Id,r=.own o 0 ps.length/\σ'.get o=some ⟨true,2,ps.map ab⟩/\σ.next<=o.bm/\o.bm<σ'.next/\Kept σ σ'):=by
 refine uT mixed hv (aI _ _ _ _ _ (fun r σ' hq=>?_) (h ⟨fun _=>none,σ.next⟩))
 obtain⟨o,rfl,h2,hn,h4,h3,_⟩:=hq
 (try dsimp only at hn h3)
 have h3':σ.next<=o.bm:=h3.elim id fun h=>absurd trivial h
 refine⟨[o],rfl,fun i hi=>?_,o,rfl,(o9 (by simp)).trans h2,h3',h4,hn,fun j hj=>mz fun hc=>?_⟩
 ·rw[List.mem_singleton.1 hi]
  exact⟨_,h2,rfl,fun cs dr a ha=>by
   obtain⟨x,_,rfl⟩:=List.mem_map.1 dr
   simp[ab]at ha
   rcases ha with rfl|rfl<;>rfl⟩
 ·rw[List.mem_singleton.1 hc]at hj;omega
theorem CZ (s:aD) (l:List ae) (hn:gK s.aB) (hg:s.aB.ax.length<=1048576) (ht:s.aB.ah.length<=1048576):∃w,jc aw (qZ s l).2.1 w/\kj Tryz.prog 27 [.agg (aC s),.agg [.sl (l.map aj)]] (.iC [.agg (ab (qZ s l).1),w,.int .i64 (qZ s l).2.2]):=by
 have h1:aq Tryz.prog 58 [.dm (aC s),.dm [.sl (l.map aj)]] (.int .i64 (rD s l)):=D8 s l hn hg ht
 by_cases h0:rD s l=0
 ·obtain⟨hP,hA⟩:=AN.1 h0
  have hS:=hP.set
  have hr:qZ s l=Ep s l (tg s l):=by rw[qZ,if_pos h0]
  rw[h0]at h1
  rw[hr]
  have hlen:=kX l l.length
  have Az:eH l l.length=ig l:=rfl
  rw[Az]at hlen
  have Gz:=hA.1.Bd
  have hnp:∀x∈ig l,AH l x:=fun x hx=>(yI l x).1 hx
  have hnv:=fun σ=>GV l hA.1 σ
  obtain⟨w,hw,hwe⟩:∃w,jc aw (Ep s l (tg s l)).2.1 w/\w=(match tg s l with|some p=>AV.sl ((ft s l p).map aw)|none=>.bV):=by
   refine⟨_,?_,rfl⟩
   rcases tg s l with _|p
   ·exact .inl ⟨rfl,rfl⟩
   ·exact .inr rfl
  refine⟨w,hw,?_⟩
  have hF:tg s l=(ig l).find? (CP s l):=rfl
  clear hw Az
  generalize tg s l=R at hF hwe ⊢
  generalize ig l=ps at hlen hnp hnv hF
  subst hwe
  refine kj.body eL rfl fun nS σ=>?_
  clear nS
  rw[aC]at h1 ⊢
  (repeat(first|((repeat(revert hN;revert N;apply Pn.out));refine wk @Nat.zero_add ?_;(repeat(refine Pn.mk ?_;intro N hN)))|((try apply Or.inl);refine⟨_,aq.x (h1) (sd @Nat.zero_add),?_⟩;refine hN _ _ ?_;clear hN N)))
  refine .inr (aI _ _ _ _ _ (fun r σ1 hq=>?_) (Ms hnv (by simp only[dF,ai,ao,bW,aV,Option.map_some,go_sem, ↓reduceIte,Nat.reduceEqDiff,Nat.reduceAdd,Nat.reduceSub,Nat.reduceLeDiff,reduceCtorEq])))
  obtain⟨g1,x1⟩:=σ1
  obtain⟨o0,rfl,q1,q2,q3,q4,q5⟩:=hq
  (try dsimp only at q1 q2 q3 q4 q5)
  have kA:=q5 ⟨27000000,σ.next⟩ (by(try dsimp only);omega)
  have kB:=q5 ⟨27000001,σ.next⟩ (by(try dsimp only);omega)
  have kC:=q5 ⟨27000002,σ.next⟩ (by(try dsimp only);omega)
  simp only[go_sem, ↓reduceIte,Nat.reduceEqDiff,Nat.reduceAdd,Nat.reduceSub,Nat.reduceLeDiff,reduceCtorEq]at kA kB kC
  refine hN _ _ ?_
  clear hN N
  (try((repeat(revert hN;revert N;apply Pn.out));refine wk (tw @kA (tw @kB (tw @kC @q1))) ?_;(repeat(refine Pn.mk ?_;intro N hN))))
  refine aM (fun n env st=>∃k:Nat,n=(ps.length)-k/\k<=(ps.length)/\env 9=.int .i64 (k:Int)/\(∀j:Nat,j<k->CP s l (jf ps j)=false)/\(x1<=st.next/\∀x:Id,x.bm<x1->st.get x=g1 x)) (ps.length) ⟨0,by omega,by omega,sl (tw @q1 (tw @kA (tw @kB @kC))),fun _ h=>absurd h (Nat.not_lt_zero _),by(try dsimp only);exact⟨by omega,fun x hx=>sd @Nat.zero_add⟩⟩ ?_
  rintro n_a env_a st_a ⟨k,rfl,ale,a9,kN,kc⟩ di
  have a2:=di 2 (by kernel_rfl);have a3:=di 3 (by kernel_rfl);have a4:=di 4 (by kernel_rfl);have a8:=di 8 (by kernel_rfl)
  simp only[go_sem, ↓reduceIte,Nat.reduceEqDiff,Nat.reduceAdd,Nat.reduceSub,Nat.reduceLeDiff,reduceCtorEq,q1,kA,kB,kC]at a2 a3 a4 a8
  clear di
  obtain⟨an,di⟩:=kc
  have fo:=(di o0 q3).trans q1
  have fA:=(di ⟨27000000,σ.next⟩ (by(try dsimp only at q2);(try dsimp only);omega)).trans kA
  have fB:=(di ⟨27000001,σ.next⟩ (by(try dsimp only at q2);(try dsimp only);omega)).trans kB
  have fC:=(di ⟨27000002,σ.next⟩ (by(try dsimp only at q2);(try dsimp only);omega)).trans kC
  by_cases hk:(k:Int)<(ps.length:Int)
  ·have cz:∀{e:Env} {gg:Rows} {nx:Nat},(e 9=.int .i64 (IntKind.i64.wrap ((k:Int)+1)))->(CP s l (jf ps k)=false)->(x1<=nx/\∀x:Id,x.bm<x1->gg x=g1 x)->∃m0,m0<(ps.length)-k/\∃k:Nat,m0=(ps.length)-k/\k<=(ps.length)/\e 9=.int .i64 (k:Int)/\(∀j:Nat,j<k->CP s l (jf ps j)=false)/\(x1<=nx/\∀x:Id,x.bm<x1->gg x=g1 x):=fun x1 x2 x3=>⟨_,by omega,k+1,rfl,by omega,(by rw[x1,az (by omega)]),(all_succ kN x2),x3⟩
   have eX:k<ps.length:=by omega
   have eM:=tW eX
   have qH:=hnp _ (z7 eX)
   obtain⟨hx,hy⟩:=te qH.1
   have Bs:=(L3 s.aB hS l hA (jf ps k) hx hy s.ay).cut mixed (.ptr _ [.sl (s.cu.ah.map aj),.int .i64 s.ay] (.same _ (.same _ (.same _ .nil))))
   have hfu:jT (zb s.aB l s.ay) (jf ps k) s.aB.ah.length=ft s l (jf ps k):=yh (fun t=>(K0 qH hA t).symm) _
   rw[hfu]at Bs
   have GB:(ps.map ab).length=ps.length:=by simp
   have lH:((ft s l (jf ps k)).map aw).length=(ft s l (jf ps k)).length:=by simp
   rw[aa]at Bs
   have jH:CP s l (jf ps k)=decide ((1:Int)<(((ft s l (jf ps k)).length:Nat):Int)):=rfl
   cases hb:CP s l (jf ps k)
   ·rw[hb]at jH
    have hd:=jH.symm
    (repeat(first|((repeat(revert hN;revert N;apply Pn.out));refine wk (tw @a9 (tw @a2 (tw @a3 (tw @a4 (tw @a8 (tw @hk (tw @eM (tw @GB (tw @lH (tw @fo (tw @fA (tw @fB (tw @fC (tw @hd @ab.eq_1)))))))))))))) ?_;(repeat(refine Pn.mk ?_;intro N hN)))|((try apply Or.inl);refine⟨_,aq.x (Bs) (sd (tw @a9 (tw @a2 (tw @a3 (tw @a4 (tw @a8 (tw @hk (tw @eM (tw @GB (tw @lH (tw @fo (tw @fA (tw @fB (tw @fC (tw @hd @ab.eq_1))))))))))))))),?_⟩;refine hN _ _ ?_;clear hN N)))
    exact cz (sd (tw @a9 (tw @a2 (tw @a3 (tw @a4 @a8))))) (hb) (by(try dsimp only);exact⟨by omega,fun x hx=>di x hx⟩)
   ·rw[hb]at jH
    have hd:=jH.symm
    have hR:R=some (jf ps k):=by
     rw[hF,iq eX]
     exact Fh eX (by rw[<-iq eX];exact hb) fun j hj=>by rw[<-iq (by omega)];exact kN j hj
    subst hR
    (repeat(first|((repeat(revert hN;revert N;apply Pn.out));refine wk (tw @a9 (tw @a2 (tw @a3 (tw @a4 (tw @a8 (tw @hk (tw @eM (tw @GB (tw @lH (tw @fo (tw @fA (tw @fB (tw @fC (tw @hd @ab.eq_1)))))))))))))) ?_;(repeat(refine Pn.mk ?_;intro N hN)))|((try apply Or.inl);refine⟨_,aq.x (Bs) (sd (tw @a9 (tw @a2 (tw @a3 (tw @a4 (tw @a8 (tw @hk (tw @eM (tw @GB (tw @lH (tw @fo (tw @fA (tw @fB (tw @fC (tw @hd @ab.eq_1))))))))))))))),?_⟩;refine hN _ _ ?_;clear hN N)))
    exact xL (.inl rfl) (vs:=[.agg (ab (jf ps k)),.sl ((ft s l (jf ps k)).map aw),.int .i64 0]) (sd (tw @a9 (tw @a2 (tw @a3 (tw @a4 (tw @a8 @ab.eq_1)))))) (by simp only[fe,ab,Ep,bD,aY,ai,ao,bW,aG,Option.map_some])
  ·have kH:k=ps.length:=by omega
   subst kH
   have hR:R=none:=by rw[hF];exact Fi fun j hj=>by rw[<-iq hj];exact kN j hj
   subst hR
   (try((repeat(revert hN;revert N;apply Pn.out));refine wk (tw @a9 (tw @a2 (tw @a3 (tw @a4 (tw @a8 (tw @hk (tw @fC @fo))))))) ?_;(repeat(refine Pn.mk ?_;intro N hN))))
   exact xL (.inl rfl) (vs:=[.agg [.int .i64 0,.int .i64 0],.bV,.int .i64 3]) (sd (tw @a9 (tw @a2 (tw @a3 (tw @a4 @a8))))) (by simp only[fe,ab,Ep,bD,aY,ai,ao,aP,aG,Option.map_some])
 ·have hd:decide (rD s l=0)=false:=decide_eq_false h0
  have hr:qZ s l=(⟨0,0⟩,[],rD s l):=by rw[qZ,if_neg h0]
  rw[hr]
  refine⟨.bV,.inl ⟨rfl,rfl⟩,?_⟩
  refine kj.body eL rfl fun nS σ=>?_
  clear nS
  rw[aC]at h1 ⊢
  (repeat(first|((repeat(revert hN;revert N;apply Pn.out));refine wk @hd ?_;(repeat(refine Pn.mk ?_;intro N hN)))|((try apply Or.inl);refine⟨_,aq.x (h1) (sd @hd),?_⟩;refine hN _ _ ?_;clear hN N)))
  exact xL (.inl rfl) (vs:=[.agg [.int .i64 0,.int .i64 0],.bV,.int .i64 (rD s l)]) (sd @Nat.zero_add) (by simp only[fe,ab,bD,aY,ai,ao,aP,aG,Option.map_some])
def sL (P:Program) (f:Nat) (args:List AV) (R:ad×List Int×Int):Prop:=
 ∀n:Nat,Call P f args ⟨fun _=>none,n⟩ (fun r σ'=>∃v ids,r=.iC [.agg (ab R.1),v,.int .i64 R.2.2]/\pM aw 1 σ'.get v R.2.1 ids/\gr n σ'.next ids)
theorem sL.new {P:Program} (hm:P.follows .mixedOrders=true) {f:Nat} {args er:List AV} {σ:ar} {R:ad×List Int×Int} (h:sL P f er R) (hv:cG (dF σ.get) 6 args=some er):
  Call P f args σ (fun r σ'=>∃v ids,r=.iC [.agg (ab R.1),v,.int .i64 R.2.2]/\pM aw 1 σ'.get v R.2.1 ids/\gr σ.next σ'.next ids/\Kept σ σ'):=by
 refine uT hm hv (aI _ _ _ _ _ (fun r σ' hq=>?_) (xP hm (h σ.next)))
 obtain⟨⟨v,ids,rfl,ho,hi⟩,hn⟩:=hq
 refine⟨ids,?_,?_,v,ids,rfl,?_,hi,hn,fun j hj=>mz fun hc=>?_⟩
 ·rcases ho with⟨_,rfl,_⟩|⟨o,rfl,_⟩<;>rfl
 ·rcases ho with⟨_,_,rfl⟩|⟨o,_,h2,rfl,_⟩
  ·intro i hi;cases hi
  ·intro i hi
   rw[List.mem_singleton.1 hi]
   refine⟨_,h2,rfl,fun cs dr a ha=>?_⟩
   obtain⟨x,_,rfl⟩:=List.mem_map.1 dr
   simp[aw]at ha
   rw[ha];rfl
 ·exact ho.frame fun i hi=>o9 hi
 ·have:=(hi.2 j hc).1;omega
theorem sL.s {P:Program} {f:Nat} {args:List AV} {R:ad×List Int×Int} (h:sL P f args R):aq P f args (.iC [.agg (ab R.1),QC aw R.2.1,.int .i64 R.2.2]):=fun n=>
 aI _ _ _ _ _ (fun r σ' hq=>by
  obtain⟨v,ids,rfl,ho,hi⟩:=hq
  rcases ho with⟨h0,rfl,_⟩|⟨o,rfl,h2,_,hp⟩
  ·exact⟨_,by simp only[ab,eT,bB,cr,zq,j4,eC,Option.map_some];rfl,by rw[h0];rfl⟩
  ·have:=fI (e:=aw) (n:=4) h2 rfl fun x=>by simp[aw,bB,cr,eC]
   exact⟨_,by simp only[ab,eT,bB,cr,zq,this,eC,Option.map_some];rfl,by rw[QC,if_neg (by omega),ab]⟩) (h n)
theorem Pm (l:List Int):∀c∈l.map aw,∀a∈c,a.plain=true:=fun c hc a ha=>by
 obtain⟨x,_,rfl⟩:=List.mem_map.1 hc
 simp[aw]at ha;subst ha;rfl
theorem Is (l:List Int) (h0:0<l.length) (hl:l.length<=1000000):KW Tryz.prog 75 [.sl (l.map aw)] 1 (l.map aw):=by
 refine⟨Pm l,fun n=>?_⟩
 refine eV eL rfl fun _=>?_
 have g2:∀l:List Int,(l.map aw).all (fun c=>c.length==1&&c.all AV.cell)=true:=fun l=>all_map fun x=>⟨rfl,rfl⟩
 have e1:l.length<=16777216:=by omega
 obtain⟨b,l,rfl⟩:∃b r,l=b::r:=by cases l with
  |nil=>simp at h0
  |cons b r=>exact⟨b,r,rfl⟩
 simp only[List.map_cons,List.length_cons]at *
 have e2:l.length<=16777215:=by omega
 (try((repeat(revert hN;revert N;apply Pn.out));refine wk (tw @g2 (tw @e2 @aw.eq_1)) ?_;(repeat(refine Pn.mk ?_;intro N hN))))
 exact fb (.inl rfl) (by simp only[fq,iu,go_sem, ↓reduceIte,Nat.reduceEqDiff,Nat.reduceAdd,Nat.reduceSub,Nat.reduceLeDiff,reduceCtorEq];rfl) ⟨⟨75003002,n+1+1⟩,by simp only[go_sem, ↓reduceIte,Nat.reduceEqDiff,Nat.reduceAdd,Nat.reduceSub,Nat.reduceLeDiff,reduceCtorEq];rfl,by simp only[go_sem, ↓reduceIte,Nat.reduceEqDiff,Nat.reduceAdd,Nat.reduceSub,Nat.reduceLeDiff,reduceCtorEq];rfl⟩
theorem Lg {g:Rows} {id:Id} {ks:List Int} (h:g id=some ⟨true,1,ks.map aw⟩):cG (dF g) 6 [.own id 0 ks.length]=some [.sl (ks.map aw)]:=by
 rw[ai,fS (e:=aw) (sz:=1) (n:=5) (by simp[dF,h]) rfl fun x=>by simp[aw,ai,ao,aG],ao];rfl
theorem R9 {L:List ae} {k:Nat} (h:k<L.length):(L.map aj)[k]? =some (aj L[k]):=by simp[h]
theorem CY (s:aD) (l:List ae) (hn:gK s.aB) (hm:rz s) (hl:l.length<=1048576):sL Tryz.prog 28 [.agg (aC s),.agg [.sl (l.map aj)]] (qZ s l):=by
 intro n0
 refine CR QP rfl fun nS=>?_
 try simp only[q]
 clear nS
 have h1:aq Tryz.prog 63 [.agg (aC s),.agg [.sl (l.map aj)]] (.int .i64 (rD s l)):=zw s l hn hm hl
 by_cases h0:rD s l=0
 ·obtain⟨hP,hA⟩:=AN.1 h0
  have hT:1<=s.ay:=(eu hP.ML).1
  have hr:qZ s l=Ep s l (tg s l):=by rw[qZ,if_pos h0]
  rw[h0]at h1
  rw[hr]
  have hF:=Hh s l
  have KN:=hP.set.yW
  have DI:∀q,(ft s l q).length<=160:=fun q=>by
   have:=ph (eS s l) q s.aB.ah.length
   unfold ft;omega
  have pT:∀x∈uA (eS s l) s.aB.ah.length (ig l),ft s l x.bc≠[]:=fun x hx=>by
   unfold uA at hx
   obtain⟨q,_,hx⟩:=List.mem_flatMap.1 hx
   rw[ve]at hx
   obtain⟨k,hk,rfl⟩:=List.mem_map.1 hx
   exact List.ne_nil_of_mem hk
  have hc:=fun σ=>zV s hP.set hT l hA σ
  rw[aC]at h1 hc ⊢
  (repeat(first|((repeat(revert hN;revert N;apply Pn.out));refine wk @Nat.zero_add ?_;(repeat(refine Pn.mk ?_;intro N hN)))|((try apply Or.inl);refine⟨_,aq.x (h1) (sd @Nat.zero_add),?_⟩;refine hN _ _ ?_;clear hN N)))
  refine .inr (aI _ _ _ _ _ (fun r σ1 hq=>?_) (hc _))
  obtain⟨g1,x1⟩:=σ1
  obtain⟨c,T,O,rfl,hC,Ri,Un,SR,pj,lY⟩:=hq
  (try dsimp only at hC Ri Un SR pj lY)
  have kA:=lY ⟨28000002,n0⟩ (by(try dsimp only);omega)
  simp only[go_sem, ↓reduceIte,Nat.reduceEqDiff,Nat.reduceAdd,Nat.reduceSub,Nat.reduceLeDiff,reduceCtorEq]at kA
  refine hN _ _ ?_
  clear hN N
  (try((repeat(revert hN;revert N;apply Pn.out));refine wk @Nat.zero_add ?_;(repeat(refine Pn.mk ?_;intro N hN))))
  refine .inr (aI _ _ _ _ _ (fun r σ2 hq=>?_) (Pc (σ:=⟨g1,_⟩) (hC.frame (by(try dsimp only);omega) fun x hx=>rfl) hT hP.set hA))
  obtain⟨g2,x2⟩:=σ2
  obtain⟨OQ,DH,hq⟩:=hq
  (try dsimp only at hq OQ DH)
  have kB:=(DH ⟨28000002,n0⟩ (by(try dsimp only);omega)).trans kA
  have Qa:FX g2 x2 c T O s l:=hC.frame (by omega) fun x hx=>DH x (by omega)
  obtain⟨es,hO,hE⟩:=Qa.op
  have e6:=Qa.o.row
  have hcx:=Qa.o.cv
  have hOx:=Qa.o.ov
  have Ug:(uA (eS s l) s.aB.ah.length (ig l)).length<=40000*160:=by
   have h2:=ze (eS s l) s.aB.ah.length (ig l)
   have h4:(ig l).length<=l.length*4:=kX l l.length
   have h5:=hA.1.Bd
   have h3:(ig l).length*s.aB.ah.length<=40000*160:=Nat.mul_le_mul (by omega) KN
   omega
  generalize uA (eS s l) s.aB.ah.length (ig l)=L at hF pT hq Ug
  refine hN _ _ ?_
  clear hN N
  rcases hq with⟨hL,rfl⟩|⟨u,rfl,hu,hum,KO,AB,Nt⟩
  ·have hR:tg s l=none:=by rw[hF,hL];rfl
   (try((repeat(revert hN;revert N;apply Pn.out));refine wk @Nat.zero_add ?_;(repeat(refine Pn.mk ?_;intro N hN))))
   refine aM (fun n env st=>(env 25=.int .i64 0/\env 24=.int .i64 0/\env 4=.ptr ⟨28000002,n0⟩ 0 0/\st.get ⟨28000002,n0⟩=some ⟨true,2,[[.int .i64 0,.int .i64 0]]⟩)/\n0<=st.next) 0 ⟨⟨sd @Nat.zero_add,sl @Nat.zero_add,sd @Nat.zero_add,sd @kB⟩,by(try dsimp only);omega⟩ ?_
   rintro m e st ⟨⟨a25,a24,a4,ag⟩,an⟩ -
   have d0:decide ((0:Int)<0)=false:=rfl
   (try((repeat(revert hN;revert N;apply Pn.out));refine wk (tw @a25 (tw @a24 (tw @a4 (tw @ag @d0)))) ?_;(repeat(refine Pn.mk ?_;intro N hN))))
   rw[hR]
   exact fb (.inl rfl) (vs:=[.agg (ab ⟨0,0⟩),.bV,.int .i64 3]) (sd (tw @a4 (tw @ag @ab.eq_1))) ⟨.bV,[],rfl,.inl ⟨rfl,rfl,rfl⟩,⟨List.nodup_nil,fun i hi=>by cases hi⟩⟩
  ·(try((repeat(revert hN;revert N;apply Pn.out));refine wk @Nat.zero_add ?_;(repeat(refine Pn.mk ?_;intro N hN))))
   refine aM (fun n env st=>∃k:Nat,n=(L.length)-k/\k<=(L.length)/\env 25=.int .i64 (k:Int)/\(∀j:Nat,j<k->∀h:j<L.length,CP s l L[j].bc=false)/\(x2<=st.next/\∀x:Id,x.bm<x2->st.get x=g2 x)) (L.length) ⟨0,by omega,by omega,sl @Nat.zero_add,fun _ h=>absurd h (Nat.not_lt_zero _),by(try dsimp only);exact⟨by omega,fun x hx=>sd @Nat.zero_add⟩⟩ ?_
   rintro n_a env_a st_a ⟨k,rfl,ale,a25,kN,kc⟩ di
   have a4:=di 4 (by kernel_rfl);have a8:=di 8 (by kernel_rfl);have a23:=di 23 (by kernel_rfl);have a24:=di 24 (by kernel_rfl)
   simp only[go_sem, ↓reduceIte,Nat.reduceEqDiff,Nat.reduceAdd,Nat.reduceSub,Nat.reduceLeDiff,reduceCtorEq]at a4 a8 a23 a24
   clear di
   obtain⟨an,di⟩:=kc
   have fu:=(di u KO).trans hu
   have fB:=(di ⟨28000002,n0⟩ (by(try dsimp only);omega)).trans kB
   have fc:=(di c hcx).trans e6
   have fO:=(di O hOx).trans hO
   by_cases hk:(k:Int)<(L.length:Int)
   ·have cz:∀{e:Env} {gg:Rows} {nx:Nat},(e 25=.int .i64 (IntKind.i64.wrap ((k:Int)+1)))->(∀h:k<L.length,CP s l L[k].bc=false)->(x2<=nx/\∀x:Id,x.bm<x2->gg x=g2 x)->∃m0,m0<(L.length)-k/\∃k:Nat,m0=(L.length)-k/\k<=(L.length)/\e 25=.int .i64 (k:Int)/\(∀j:Nat,j<k->∀h:j<L.length,CP s l L[j].bc=false)/\(x2<=nx/\∀x:Id,x.bm<x2->gg x=g2 x):=fun x1 x2 x3=>⟨_,by omega,k+1,rfl,by omega,(by rw[x1,az (by omega)]),(all_succ kN x2),x3⟩
    have eX:k<L.length:=by omega
    have eM:=R9 eX
    have GB:(L.map aj).length=L.length:=by simp
    obtain⟨o',uI,OR,DQ⟩:∃o':Id,(L[k].bc,AV.own o' 0 (ft s l L[k].bc).length)∈es/\o'.bm<x2/\g2 o'=some ⟨true,1,(ft s l L[k].bc).map aw⟩:=by
     rcases hE.at_ L[k].bc trivial with⟨h1,_⟩|⟨_,o',h2⟩
     ·exact absurd h1 (pT _ (List.getElem_mem eX))
     ·exact⟨o',h2⟩
    obtain⟨fi,Ax,_,_,vT,I4⟩:=ta L[k].bc es
    obtain⟨j0,rfl,IZ⟩:∃j,fi=some j/\(es.map pg)[j]? =some [.int .i64 L[k].bc.eI,.int .i64 L[k].bc.eF,.own o' 0 (ft s l L[k].bc).length]:=by
     cases fi with
     |none=>exact absurd rfl (I4 rfl _ uI)
     |some j=>
      obtain⟨v,hv⟩:=vT j rfl
      have e:=FC hE.nodup (List.mem_of_getElem? hv) uI
      subst e
      exact⟨j,rfl,by rw[List.getElem?_map,hv];rfl⟩
    have QV:=(di o' OR).trans DQ
    have LM:=DI L[k].bc
    have Td:((ft s l L[k].bc).map aw).length=(ft s l L[k].bc).length:=by simp
    have Tw:=dx (i:=c) (n:=st_a.next) (by omega)
    have Tv:=dx (i:=O) (n:=st_a.next) (by omega)
    have Si:=dx (i:=o') (n:=st_a.next) (by omega)
    have Vp:=dx (i:=⟨28000002,n0⟩) (n:=st_a.next) (by(try dsimp only);omega)
    have jH:CP s l L[k].bc=decide ((1:Int)<(((ft s l L[k].bc).length:Nat):Int)):=rfl
    have vP:CP s l L[k].bc=true->tg s l=some L[k].bc:=fun hb=>by
     rw[hF,Fh (B:=fun o=>CP s l o.bc) eX hb fun j hj=>kN j hj (by omega)];rfl
    generalize hq:L[k]=x at eM uI DQ Ax IZ QV LM Td jH vP
    generalize Nt:ft s l x.bc=us at uI DQ IZ QV LM Td jH
    cases hb:CP s l x.bc
    ·rw[hb]at jH
     have hd:=jH.symm
     (try((repeat(revert hN;revert N;apply Pn.out));refine wk (tw @a25 (tw @a4 (tw @a8 (tw @a23 (tw @a24 (tw @hk (tw @eM (tw @GB (tw @fu (tw @fB (tw @fc (tw @fO (tw @Ax (tw @IZ (tw @QV (tw @Td (tw @Tw (tw @Tv (tw @Si (tw @Vp (tw @hd @aj.eq_1))))))))))))))))))))) ?_;(repeat(refine Pn.mk ?_;intro N hN))))
     exact cz (sd (tw @a25 (tw @a4 (tw @a8 (tw @a23 @a24))))) (fun h=>by rw[hq];exact hb) (by(try dsimp only);exact⟨by omega,fun x hx=>by
      have h2:=dx (i:=x) (n:=st_a.next) (by omega)
      have h3:=di x hx
      simp only[go_sem, ↓reduceIte,Nat.reduceEqDiff,Nat.reduceAdd,Nat.reduceSub,Nat.reduceLeDiff,reduceCtorEq,h2,h3]⟩)
    ·rw[hb]at jH
     have hd:=jH.symm
     have hR:=vP hb
     have gY:us≠[]:=fun e=>by rw[e]at hd;simp at hd
     have Rb:=Is us (by cases us with
      |nil=>exact absurd rfl gY
      |cons a b=>simp) (by omega)
     (repeat(first|((repeat(revert hN;revert N;apply Pn.out));refine wk (tw @a25 (tw @a4 (tw @a8 (tw @a23 (tw @a24 (tw @hk (tw @eM (tw @GB (tw @fu (tw @fB (tw @fc (tw @fO (tw @Ax (tw @IZ (tw @QV (tw @Td (tw @Tw (tw @Tv (tw @Si (tw @Vp (tw @hd @aj.eq_1))))))))))))))))))))) ?_;(repeat(refine Pn.mk ?_;intro N hN)))|(refine .inr ⟨_,_,KW.x (Rb) (Lg (sd (tw @QV @Si))),?_⟩;refine hN _ _ ?_;clear hN N)))
     rw[hR]
     have UY:0<us.length:=by cases us with
      |nil=>exact absurd rfl gY
      |cons a b=>simp
     exact fb (.inl rfl) (vs:=[.agg (ab x.bc),.own ⟨28010003,st_a.next+1+1+1+1⟩ 0 us.length,.int .i64 0]) (sd (tw @a25 (tw @a4 (tw @a8 (tw @a23 (tw @a24 (tw @Vp (tw @fB @ab.eq_1)))))))) ⟨_,[⟨28010003,st_a.next+1+1+1+1⟩],rfl,.inr ⟨_,by show _=AV.own _ 0 (ft s l x.bc).length;rw[Nt],by show _=some (Row.mk true 1 ((ft s l x.bc).map aw));rw[Nt];simp only[go_sem, ↓reduceIte,Nat.reduceEqDiff,Nat.reduceAdd,Nat.reduceSub,Nat.reduceLeDiff,reduceCtorEq],rfl,by show 0<(ft s l x.bc).length;rw[Nt];exact UY⟩,⟨List.nodup_cons.2 ⟨by simp,List.nodup_nil⟩,fun i hi=>by rw[List.mem_singleton.1 hi];(try dsimp only);omega⟩⟩
   ·have kH:k=L.length:=by omega
    subst kH
    have hR:tg s l=none:=by rw[hF,Fi (B:=fun o=>CP s l o.bc) fun j hj=>kN j hj hj];rfl
    (try((repeat(revert hN;revert N;apply Pn.out));refine wk (tw @a25 (tw @a4 (tw @a8 (tw @a23 (tw @a24 (tw @hk @fB)))))) ?_;(repeat(refine Pn.mk ?_;intro N hN))))
    rw[hR]
    exact fb (.inl rfl) (vs:=[.agg (ab ⟨0,0⟩),.bV,.int .i64 3]) (sd (tw @a25 (tw @a4 (tw @a8 (tw @a23 (tw @a24 @ab.eq_1)))))) ⟨.bV,[],rfl,.inl ⟨rfl,rfl,rfl⟩,⟨List.nodup_nil,fun i hi=>by cases hi⟩⟩
 ·have hd:decide (rD s l=0)=false:=decide_eq_false h0
  have hr:qZ s l=(⟨0,0⟩,[],rD s l):=by rw[qZ,if_neg h0]
  rw[hr]
  rw[aC]at h1 ⊢
  (repeat(first|((repeat(revert hN;revert N;apply Pn.out));refine wk @hd ?_;(repeat(refine Pn.mk ?_;intro N hN)))|((try apply Or.inl);refine⟨_,aq.x (h1) (sd @hd),?_⟩;refine hN _ _ ?_;clear hN N)))
  exact fb (.inl rfl) (vs:=[.agg (ab ⟨0,0⟩),.bV,.int .i64 (rD s l)]) (sd @ab.eq_1) ⟨.bV,[],rfl,.inl ⟨rfl,rfl,rfl⟩,⟨List.nodup_nil,fun i hi=>by cases hi⟩⟩
def HO (k:Int) (n:Nat):List Int:=(List.range n).map fun j:Nat=>k+(j:Int)
theorem iS (k:Int) (n:Nat):(HO k n).length=n:=by simp[HO]
def ju (k:Int) (l:List Int) (j:Nat):List Int:=HO k j++l.drop j
theorem yJ {k:Int} {l:List Int} {j:Nat} (h:j<=l.length):(ju k l j).length=l.length:=by simp[ju,iS];omega
theorem Jw {k:Int} {l:List Int} {j:Nat} (h:j<l.length):((ju k l j).map aw)[j]? =some [.int .i64 l[j]]:=by
 have h2:j<(ju k l j).length:=by rw[yJ (by omega)];exact h
 have h3:(ju k l j)[j]'h2=l[j]:=by simp[ju,List.getElem_append,iS]
 rw[A9 h2,h3]
theorem G2 {k:Int} {l:List Int} {j:Nat} (h:j<l.length):((ju k l j).map aw).set j [.int .i64 (k+(j:Int))]=(ju k l (j+1)).map aw:=by
 have h1:(ju k l j).set j (k+(j:Int))=ju k l (j+1):=by
  unfold ju
  rw[List.set_append_right _ _ (by rw[iS];omega),iS,Nat.sub_self]
  have h2:l.drop j=l[j]::l.drop (j+1):=List.drop_eq_getElem_cons h
  rw[h2,List.set_cons_zero]
  simp[HO,List.range_succ]
 rw[<-h1,List.map_set];rfl
theorem Mb (i:Id) (l:List Int) (k:Int) (h0:0<=k) (h1:k+l.length<=4611686018427387904) (σ:ar) (hv:i.bm<σ.next) (hg:σ.get i=some ⟨true,1,l.map aw⟩):
  Call Tryz.prog 33 [.own i 0 l.length,.int .i64 k] σ (fun r σ'=>r=.int .i64 (k+l.length)/\p9 σ [i] σ'.get σ'.next/\σ'.get i=some ⟨true,1,(HO k l.length).map aw⟩):=by
 refine eV eL rfl fun hl=>?_
 clear hl
 have hz:ju k l 0=l:=by simp[ju,HO]
 (try((repeat(revert hN;revert N;apply Pn.out));refine wk @Nat.zero_add ?_;(repeat(refine Pn.mk ?_;intro N hN))))
 refine aM (fun n env st=>∃j:Nat,n=(l.length)-j/\j<=(l.length)/\env 5=.int .i64 (j:Int)/\env 1=.int .i64 (k+j)/\st.get i=some ⟨true,1,(ju k l j).map aw⟩/\(p9 σ [i] st.get st.next)) (l.length) ⟨0,by omega,by omega,sl (tw @Int.add_zero (tw @Int.natCast_zero (tw @hz @hg))),sl (tw @Int.add_zero (tw @Int.natCast_zero (tw @hz @hg))),sl (tw @Int.add_zero (tw @Int.natCast_zero (tw @hz @hg))),by(try dsimp only);exact⟨by(try dsimp only);omega,fun x _ _=>rfl⟩⟩ ?_
 rintro n_a env_a st_a ⟨j,rfl,ale,a5,a1,ag0,kc⟩ di
 have a0:=di 0 (by kernel_rfl)
 simp only[go_sem, ↓reduceIte,Nat.reduceEqDiff,Nat.reduceAdd,Nat.reduceSub,Nat.reduceLeDiff,reduceCtorEq,Int.add_zero,Int.natCast_zero,hz,hg]at a0
 clear di
 obtain⟨an,aF⟩:=kc
 by_cases hj:(j:Int)<(l.length:Int)
 ·have cz:∀{e:Env} {gg:Rows} {nx:Nat},(e 5=.int .i64 (IntKind.i64.wrap ((j:Int)+1)))->(e 1=.int .i64 (k+(j+1)))->(gg i=some ⟨true,1,(ju k l (j+1)).map aw⟩)->(p9 σ [i] gg nx)->∃m0,m0<(l.length)-j/\∃j:Nat,m0=(l.length)-j/\j<=(l.length)/\e 5=.int .i64 (j:Int)/\e 1=.int .i64 (k+j)/\gg i=some ⟨true,1,(ju k l j).map aw⟩/\(p9 σ [i] gg nx):=fun x1 x2 x3 x4=>⟨_,by omega,j+1,rfl,by omega,(by rw[x1,az (by omega)]),x2,x3,x4⟩
  have iM:j<l.length:=by omega
  have eZ:=Jw (k:=k) iM
  have dS:=G2 (k:=k) iM
  have hw:IntKind.i64.wrap (k+(j:Int)+1)=k+((j:Int)+1):=by rw[bx (by omega)];omega
  have hlen:((ju k l j).map aw).length=l.length:=by rw[List.length_map,yJ (by omega)]
  (try((repeat(revert hN;revert N;apply Pn.out));refine wk (tw @a5 (tw @a1 (tw @ag0 (tw @a0 (tw @hj (tw @eZ (tw @dS (tw @hw @hlen)))))))) ?_;(repeat(refine Pn.mk ?_;intro N hN))))
  refine cz ?_ ?_ ?_ (by(try dsimp only);exact⟨by(try dsimp only);omega,fun x hx hi=>by
   have h2:=aF x hx hi
   have h3:(x=i)=False:=eq_false fun e=>hi (by simp[e])
   simp only[go_sem, ↓reduceIte,Nat.reduceEqDiff,Nat.reduceAdd,Nat.reduceSub,Nat.reduceLeDiff,reduceCtorEq,h2,h3]⟩)
  all_goals simp only[go_sem, ↓reduceIte,Nat.reduceEqDiff,Nat.reduceAdd,Nat.reduceSub,Nat.reduceLeDiff,reduceCtorEq,a5,a1,ag0,a0,hw,dS]
 ·have iM:j=l.length:=by omega
  subst iM
  (try((repeat(revert hN;revert N;apply Pn.out));refine wk (tw @a5 (tw @a1 (tw @ag0 (tw @a0 @hj)))) ?_;(repeat(refine Pn.mk ?_;intro N hN))))
  have kz:ju k l l.length=HO k l.length:=by simp[ju]
  rw[kz]at ag0
  exact fb (.inl rfl) (vs:=[.int .i64 (k+l.length)]) (sd (tw @a5 (tw @a1 (tw @ag0 @a0)))) ⟨rfl,⟨by(try dsimp only);omega,fun x hx hi=>aF x hx hi⟩,ag0⟩
theorem Jt (k:Int) (σ:ar):Call Tryz.prog 33 [.bV,.int .i64 k] σ (fun r σ'=>r=.int .i64 k/\p9 σ [] σ'.get σ'.next):=by
 refine eV eL rfl fun hl=>?_
 clear hl
 (try((repeat(revert hN;revert N;apply Pn.out));refine wk @Nat.zero_add ?_;(repeat(refine Pn.mk ?_;intro N hN))))
 refine aM (fun n env st=>(env 1=.int .i64 k/\env 5=.int .i64 0/\env 0=.bV)/\σ.next<=st.next/\∀x:Id,st.get x=σ.get x) 0 ⟨⟨sd @Nat.zero_add,sd @Nat.zero_add,sd @Nat.zero_add⟩,by(try dsimp only);omega,fun _=>rfl⟩ ?_
 rintro m e st ⟨⟨a1,a5,a0⟩,an,aF⟩ -
 have d0:decide ((0:Int)<((0:Nat):Int))=false:=rfl
 (try((repeat(revert hN;revert N;apply Pn.out));refine wk (tw @a0 (tw @a1 (tw @a5 @d0))) ?_;(repeat(refine Pn.mk ?_;intro N hN))))
 exact fb (.inl rfl) (vs:=[.int .i64 k]) (sd @a1) ⟨rfl,⟨by(try dsimp only);omega,fun x hx hi=>aF x⟩⟩
theorem Ju {v:AV} {L:List Int} {ids:List Id} (k:Int) (h0:0<=k) (h1:k+L.length<=4611686018427387904) (σ:ar) (hv:∀i∈ids,i.bm<σ.next) (h:pM aw 1 σ.get v L ids):
  Call Tryz.prog 33 [v,.int .i64 k] σ (fun r σ'=>r=.int .i64 (k+L.length)/\p9 σ ids σ'.get σ'.next/\pM aw 1 σ'.get v (HO k L.length) ids):=by
 rcases h with⟨rfl,rfl,rfl⟩|⟨o,rfl,h2,rfl,hp⟩
 ·refine aI _ _ _ _ _ (fun r σ' hq=>?_) (Jt k σ)
  obtain⟨rfl,hB⟩:=hq
  exact⟨by simp,hB,.inl ⟨rfl,rfl,rfl⟩⟩
 ·refine aI _ _ _ _ _ (fun r σ' hq=>?_) (Mb o L k h0 h1 σ (hv o (by simp)) h2)
  obtain⟨rfl,hB,hg⟩:=hq
  exact⟨rfl,hB,.inr ⟨o,by rw[iS],hg,rfl,by rw[iS];exact hp⟩⟩
theorem Pg (k:Int) {n j:Nat} (h:j<n):((HO k n).map aw)[j]? =some [.int .i64 (k+(j:Int))]:=by
 simp[HO,h,aw]
theorem Ls (k:Int) (n:Nat) (h0:0<=k) (h1:k+n<=4611686018427387904):aq Tryz.prog 34 [.sl ((HO k n).map aw),.int .i64 k] (.int .i64 (k+n)):=by
 refine aq.body eL rfl fun hl n0=>?_
 clear hl
 obtain⟨m,hm⟩:∃m,n=m:=⟨_,rfl⟩
 rw[hm]at h1 ⊢
 (try((repeat(revert hN;revert N;apply Pn.out));refine wk @iS ?_;(repeat(refine Pn.mk ?_;intro N hN))))
 refine aM (fun n env st=>∃j:Nat,n=(m)-j/\j<=(m)/\env 5=.int .i64 (j:Int)/\env 1=.int .i64 (k+j)) (m) ⟨0,by omega,by omega,sl (tw @Int.add_zero (tw @Int.natCast_zero @iS)),sl (tw @Int.add_zero (tw @Int.natCast_zero @iS))⟩ ?_
 rintro n_a env_a st_a ⟨j,rfl,ale,a5,a1⟩ di
 have a0:=di 0 (by kernel_rfl)
 simp only[go_sem, ↓reduceIte,Nat.reduceEqDiff,Nat.reduceAdd,Nat.reduceSub,Nat.reduceLeDiff,reduceCtorEq,Int.add_zero,Int.natCast_zero,iS]at a0
 clear di
 by_cases hj:(j:Int)<(m:Int)
 ·have cz:∀{e:Env},(e 5=.int .i64 (IntKind.i64.wrap ((j:Int)+1)))->(e 1=.int .i64 (k+(j+1)))->∃m0,m0<(m)-j/\∃j:Nat,m0=(m)-j/\j<=(m)/\e 5=.int .i64 (j:Int)/\e 1=.int .i64 (k+j):=fun x1 x2=>⟨_,by omega,j+1,rfl,by omega,(by rw[x1,az (by omega)]),x2⟩
  have eZ:=Pg k (n:=m) (j:=j) (by omega)
  have hw:IntKind.i64.wrap (k+(j:Int)+1)=k+((j:Int)+1):=by rw[bx (by omega)];omega
  have e1:decide (k+(j:Int)=k+(j:Int))=true:=decide_eq_true rfl
  (try((repeat(revert hN;revert N;apply Pn.out));refine wk (tw @a5 (tw @a1 (tw @a0 (tw @hj (tw @eZ (tw @hw (tw @iS @e1))))))) ?_;(repeat(refine Pn.mk ?_;intro N hN))))
  refine cz ?_ ?_
  all_goals simp only[go_sem, ↓reduceIte,Nat.reduceEqDiff,Nat.reduceAdd,Nat.reduceSub,Nat.reduceLeDiff,reduceCtorEq,a5,a1,a0,hw]
 ·have iM:j=m:=by omega
  subst iM
  (try((repeat(revert hN;revert N;apply Pn.out));refine wk (tw @a5 (tw @a1 (tw @a0 (tw @hj @iS)))) ?_;(repeat(refine Pn.mk ?_;intro N hN))))
  exact cD (b:=k+(j:Int)) (.inl rfl) (sd (tw @a5 (tw @a1 @a0))) rfl
theorem Bv {w:AV} (k:Int) (n:Nat) (h0:0<=k) (h1:k+n<=4611686018427387904) (hw:jc aw (HO k n) w):aq Tryz.prog 34 [w,.int .i64 k] (.int .i64 (k+n)):=
 (Ls k n h0 h1).cut mixed (hw.cut (.same _ .nil))
theorem Df {L:List Int} {v w:AV} (hv:jc aw L v) (hw:jc aw L w):aq Tryz.prog 30 [v,w] (.bool true):=by
 have h:=Bb L L
 rw[decide_eq_true rfl]at h
 exact h.cut mixed (hv.cut (hw.cut .nil))
theorem pM.fz2 {α:Type} {e:α->List AV} {z:Nat} {g:Rows} {v:AV} {L:List α} {ids:List Id} (h:pM e z g v L ids) (he:∀x g,cG g 5 (e x)=some (e x)):∃w,jc e L w/\∀g':Rows,(∀i∈ids,g' i=g i)->V.fz (dF g') 6 v=some w:=by
 rcases h with⟨rfl,rfl,_⟩|⟨o,rfl,h2,rfl,_⟩
 ·exact⟨.bV,.inl ⟨rfl,rfl⟩,fun _ _=>aP _ _⟩
 ·exact⟨_,.inr rfl,fun g' hg=>fS (e:=e) (sz:=z) (by simp[dF,(hg o (by simp)).trans h2]) rfl fun x=>he x _⟩
theorem L5 (P5:aD->dP->ad×List Int×Int)
  (RG:∀s a,gK s.aB->rz s->a.ah.length<=1048576->∃w,jc aw (P5 s a).2.1 w/\kj Tryz.prog 27 [.agg (aC s),.agg (aO a)] (.iC [.agg (ab (P5 s a).1),w,.int .i64 (P5 s a).2.2]))
  (Rt:∀s a,gK s.aB->rz s->a.ah.length<=1048576->sL Tryz.prog 28 [.agg (aC s),.agg (aO a)] (P5 s a))
  (hlen:∀s a,rz s->a.ah.length<=1048576->(P5 s a).2.1.length<=1152921504606846976)
  (s:aD) (a:dP) (hn:gK s.aB):aq Tryz.prog 6 [.agg (aC s),.agg (aO a)] (.bool true):=by
 refine aq.body eL rfl fun hl n0=>?_
 clear hl
 have h1:=EI s 1048576 (by omega) (by omega) hn
 by_cases hf:(xh s:Int)<=1048576
 ·rw[iA hf]at h1
  have kr:¬(1048576:Int)-(xh s:Int)<0:=by omega
  have h2:=so a (1048576-xh s) (by omega) (by omega)
  by_cases hg:(a.ah.length:Int)<=1048576-xh s
  ·rw[iA hg]at h2
   have Ft:¬(1048576:Int)-(xh s:Int)-(a.ah.length:Int)<0:=by omega
   have sm:=Ho (s:=s) (by omega)
   have am:a.ah.length<=1048576:=by omega
   have t1:=EN s sm
   have t2:=su a am
   obtain⟨w,hw,r1⟩:=RG s a hn sm am
   have r2:=Rt s a hn sm am
   have q1:=Di s
   have q2:=zl a
   have hL:=hlen s a sm am
   obtain⟨⟨p,L,c⟩,hRe⟩:∃R,P5 s a=R:=⟨_,rfl⟩
   rw[hRe]at r1 r2 hw hL
   (try dsimp only at r1 hw hL)
   have pv:=x9 p p
   rw[decide_eq_true rfl,ab]at pv
   rw[ab]at r1
   have Jd:=fun σ=>EM s sm σ
   have RQ:=fun σ=>sr a am σ
   rw[aC]at Jd
   rw[aO]at RQ
   have e2:decide (c=c)=true:=by simp
   rw[aC]at h1
   rw[aO]at h2
   (repeat(first|((repeat(revert hN;revert N;apply Pn.out));refine wk (tw @aC.eq_1 (tw @aO.eq_1 (tw @kr @Ft))) ?_;(repeat(refine Pn.mk ?_;intro N hN)))|((try apply Or.inl);refine⟨_,aq.x (h1) (sd (tw @aC.eq_1 (tw @aO.eq_1 (tw @kr @Ft)))),?_⟩;refine hN _ _ ?_;clear hN N)|((try apply Or.inl);refine⟨_,aq.x (h2) (sd (tw @aC.eq_1 (tw @aO.eq_1 (tw @kr @Ft)))),?_⟩;refine hN _ _ ?_;clear hN N)))
   refine⟨_,kj.x (by rw[aC]at t1;exact t1) _,?_⟩
   refine hN _ _ ?_
   clear hN N
   (try((repeat(revert hN;revert N;apply Pn.out));refine wk @aO.eq_1 ?_;(repeat(refine Pn.mk ?_;intro N hN))))
   refine⟨_,kj.x (by rw[aO]at t2;exact t2) _,?_⟩
   refine hN _ _ ?_
   clear hN N
   (try((repeat(revert hN;revert N;apply Pn.out));refine wk @Nat.zero_add ?_;(repeat(refine Pn.mk ?_;intro N hN))))
   refine⟨_,kj.x (by rw[aC,aO]at r1;exact r1) _,?_⟩
   refine hN _ _ ?_
   clear hN N
   (try((repeat(revert hN;revert N;apply Pn.out));refine wk @Nat.zero_add ?_;(repeat(refine Pn.mk ?_;intro N hN))))
   refine .inr (aI _ _ _ _ _ (fun r σ1 hq=>?_) (Jd _))
   obtain⟨iX,hX,KB,Qb⟩:=hq
   obtain⟨g1,x1⟩:=σ1
   (try dsimp only at hX KB Qb)
   obtain⟨A,B,C,j1,j2,j3,rfl,hA,hB,hC,rfl⟩:=hX.ex
   obtain⟨oA,rfl⟩:=hA.kS
   obtain⟨oB,rfl⟩:=hB.kS
   obtain⟨oC,rfl⟩:=hC.kS
   clear hA hB hC
   have nX:=Qb.1
   have bX:=KB.2
   (try dsimp only at nX bX)
   have kA:=Qb.2 ⟨6000000,n0⟩ (by(try dsimp only);omega)
   have kB:=Qb.2 ⟨6000001,n0⟩ (by(try dsimp only);omega)
   have kW:=Qb.2 ⟨6008009,n0+1+1+1+1+1+1⟩ (by(try dsimp only);omega)
   simp only[go_sem, ↓reduceIte,Nat.reduceEqDiff,Nat.reduceAdd,Nat.reduceSub,Nat.reduceLeDiff,reduceCtorEq]at kA kB kW
   refine hN _ _ ?_
   clear hN N
   (try((repeat(revert hN;revert N;apply Pn.out));refine wk (tw @kA (tw @kB @kW)) ?_;(repeat(refine Pn.mk ?_;intro N hN))))
   refine .inr (aI _ _ _ _ _ (fun r σ2 hq=>?_) (RQ _))
   obtain⟨iY,hY0,Ox,Na⟩:=hq
   obtain⟨g2,x2⟩:=σ2
   (try dsimp only at hY0 Ox Na)
   obtain⟨D,rfl,hD⟩:=hY0
   obtain⟨oD,rfl⟩:=hD.kS
   have hY:xo g2 (.agg [.own oD 0 a.ah.length]) a iY:=⟨_,rfl,hD⟩
   have nY:=Na.1
   have bY:=Ox.2
   (try dsimp only at nY bY)
   have lA:=Na.2 ⟨6000000,n0⟩ (by(try dsimp only);omega)
   have lB:=Na.2 ⟨6000001,n0⟩ (by(try dsimp only);omega)
   have lW:=Na.2 ⟨6008009,n0+1+1+1+1+1+1⟩ (by(try dsimp only);omega)
   have lX:=Na.2 ⟨6009002,x1⟩ (by(try dsimp only);omega)
   have vA:=dx (i:=⟨6000000,n0⟩) (n:=x1) (by(try dsimp only);omega)
   have vB:=dx (i:=⟨6000001,n0⟩) (n:=x1) (by(try dsimp only);omega)
   have vW:=dx (i:=⟨6008009,n0+1+1+1+1+1+1⟩) (n:=x1) (by(try dsimp only);omega)
   simp only[go_sem, ↓reduceIte,Nat.reduceEqDiff,Nat.reduceAdd,Nat.reduceSub,Nat.reduceLeDiff,reduceCtorEq,kA,kB,kW,vA,vB,vW]at lA lB lW lX
   have Up:=hX.frame (g':=g2) fun i hi=>by
    have h3:=bX i hi
    have h4:=Na.2 i (by(try dsimp only);omega)
    have h5:=dx (i:=i) (n:=x1) (by omega)
    simp only[go_sem, ↓reduceIte,Nat.reduceEqDiff,Nat.reduceAdd,Nat.reduceSub,Nat.reduceLeDiff,reduceCtorEq,h5]at h4
    exact h4
   clear hX Qb Na hD kA kB kW
   refine hN _ _ ?_
   clear hN N
   have uX:=dx (i:=⟨6009002,x1⟩) (n:=x2) (by(try dsimp only);omega)
   (try((repeat(revert hN;revert N;apply Pn.out));refine wk (tw @lA (tw @lB (tw @lW (tw @lX @uX)))) ?_;(repeat(refine Pn.mk ?_;intro N hN))))
   refine .inr (aI _ _ _ _ _ (fun r σ3 hq=>?_) (r2.new mixed (Hp (Up.frame fun i hi=>by
    have h5:=dx (i:=i) (n:=x2) (by have:=bX i hi;omega)
    simp only[go_sem, ↓reduceIte,Nat.reduceEqDiff,Nat.reduceAdd,Nat.reduceSub,Nat.reduceLeDiff,reduceCtorEq,h5]) (hY.frame fun i hi=>by
    have h5:=dx (i:=i) (n:=x2) (by have:=bY i hi;omega)
    simp only[go_sem, ↓reduceIte,Nat.reduceEqDiff,Nat.reduceAdd,Nat.reduceSub,Nat.reduceLeDiff,reduceCtorEq,h5]))))
   obtain⟨v,iZ,rfl,hZ,QZ,Lo⟩:=hq
   obtain⟨g3,x3⟩:=σ3
   (try dsimp only at hZ QZ Lo)
   have nZ:=Lo.1
   have bZ:=QZ.2
   (try dsimp only at nZ bZ)
   have wA:=dx (i:=⟨6000000,n0⟩) (n:=x2) (by(try dsimp only);omega)
   have wB:=dx (i:=⟨6000001,n0⟩) (n:=x2) (by(try dsimp only);omega)
   have wW:=dx (i:=⟨6008009,n0+1+1+1+1+1+1⟩) (n:=x2) (by(try dsimp only);omega)
   have mA:=Lo.2 ⟨6000000,n0⟩ (by(try dsimp only);omega)
   have mB:=Lo.2 ⟨6000001,n0⟩ (by(try dsimp only);omega)
   have mW:=Lo.2 ⟨6008009,n0+1+1+1+1+1+1⟩ (by(try dsimp only);omega)
   have mX:=Lo.2 ⟨6009002,x1⟩ (by(try dsimp only);omega)
   have mY:=Lo.2 ⟨6010002,x2⟩ (by(try dsimp only);omega)
   simp only[go_sem, ↓reduceIte,Nat.reduceEqDiff,Nat.reduceAdd,Nat.reduceSub,Nat.reduceLeDiff,reduceCtorEq,lA,lB,lW,lX,wA,wB,wW,uX]at mA mB mW mX mY
   have fr3:∀i:Id,i.bm<x2->g3 i=g2 i:=fun i hi=>by
    have h4:=Lo.2 i (by(try dsimp only);omega)
    have h5:=dx (i:=i) (n:=x2) hi
    simp only[go_sem, ↓reduceIte,Nat.reduceEqDiff,Nat.reduceAdd,Nat.reduceSub,Nat.reduceLeDiff,reduceCtorEq,h5]at h4
    exact h4
   have Oc:∀i:Id,i.bm<x3->(bF (bF g3 ⟨6011007,x3⟩ ⟨true,2,[[.int .i64 0,.int .i64 0]]⟩) ⟨6011007,x3⟩ ⟨true,2,[[.int .i64 p.eI,.int .i64 p.eF]]⟩) i=g3 i:=fun i hi=>by
    have h5:=dx hi
    simp only[go_sem, ↓reduceIte,Nat.reduceEqDiff,Nat.reduceAdd,Nat.reduceSub,Nat.reduceLeDiff,reduceCtorEq,h5]
   have Uq:=Up.frame fun i hi=>(Oc i (by have:=bX i hi;omega)).trans (fr3 i (by have:=bX i hi;omega))
   have Ur:=hY.frame fun i hi=>(Oc i (by have:=bY i hi;omega)).trans (fr3 i (by have:=bY i hi;omega))
   replace hZ:=hZ.frame fun i hi=>Oc i (bZ i hi).2
   have mG:(bF (bF g3 ⟨6011007,x3⟩ ⟨true,2,[[.int .i64 0,.int .i64 0]]⟩) ⟨6011007,x3⟩ ⟨true,2,[[.int .i64 p.eI,.int .i64 p.eF]]⟩) ⟨6011007,x3⟩=some ⟨true,2,[[.int .i64 p.eI,.int .i64 p.eF]]⟩:=by simp only[go_sem, ↓reduceIte,Nat.reduceEqDiff,Nat.reduceAdd,Nat.reduceSub,Nat.reduceLeDiff,reduceCtorEq]
   clear Up hY Lo lA lB lW lX
   obtain⟨wv,qL,ON⟩:=hZ.fz fun x g=>by simp[aw,ai,ao,aG]
   refine hN _ _ ?_
   clear hN N
   (repeat(first|((repeat(revert hN;revert N;apply Pn.out));refine wk (tw @mA (tw @mB (tw @mW (tw @mX (tw @mY @ab.eq_1))))) ?_;(repeat(refine Pn.mk ?_;intro N hN)))|((try apply Or.inl);refine⟨_,aq.x (pv) (sd (tw @mA (tw @mB (tw @mW (tw @mX (tw @mY @ab.eq_1)))))),?_⟩;refine hN _ _ ?_;clear hN N)))
   refine .inl ⟨_,aq.x (Df ON hw) (tp qL (hw.fz _)),?_⟩
   refine hN _ _ ?_
   clear hN N
   (try((repeat(revert hN;revert N;apply Pn.out));refine wk (tw @mA (tw @mB (tw @mW (tw @mX (tw @mY (tw @e2 @ab.eq_1)))))) ?_;(repeat(refine Pn.mk ?_;intro N hN))))
   refine⟨_,kj.x (by rw[aC]at t1;exact t1) _,?_⟩
   refine hN _ _ ?_
   clear hN N
   (try((repeat(revert hN;revert N;apply Pn.out));refine wk (tw @mA (tw @mB (tw @mW (tw @mX (tw @mY (tw @e2 @ab.eq_1)))))) ?_;(repeat(refine Pn.mk ?_;intro N hN))))
   refine⟨_,aq.x (by rw[aC]at q1;exact q1) (by rw[<-aC];exact MI Uq (Fa _ _)),?_⟩
   refine hN _ _ ?_
   clear hN N
   (try((repeat(revert hN;revert N;apply Pn.out));refine wk (tw @mA (tw @mB (tw @mW (tw @mX (tw @mY (tw @e2 @ab.eq_1)))))) ?_;(repeat(refine Pn.mk ?_;intro N hN))))
   refine⟨_,kj.x (by rw[aO]at t2;exact t2) _,?_⟩
   refine hN _ _ ?_
   clear hN N
   (try((repeat(revert hN;revert N;apply Pn.out));refine wk (tw @mA (tw @mB (tw @mW (tw @mX (tw @mY (tw @e2 @ab.eq_1)))))) ?_;(repeat(refine Pn.mk ?_;intro N hN))))
   refine⟨_,aq.x (by rw[aO]at q2;exact q2) (by rw[<-aO];exact KZ Ur (E9 _ _)),?_⟩
   refine hN _ _ ?_
   clear hN N
   (try((repeat(revert hN;revert N;apply Pn.out));refine wk (tw @mA (tw @mB (tw @mW (tw @mX (tw @mY (tw @e2 @ab.eq_1)))))) ?_;(repeat(refine Pn.mk ?_;intro N hN))))
   have OP:=Ma s
   have hns:=KB.not (x:=⟨6000000,n0⟩) (by(try dsimp only);omega)
   have hnt:=KB.not (x:=⟨6000001,n0⟩) (by(try dsimp only);omega)
   refine .inr (aI _ _ _ _ _ (fun r σ4 hq=>?_) (G1 _ s _ 1 (by omega) sm.s.t (by omega) _ (fun i hi=>by have:=bX i hi;(try dsimp only);omega) KB.1 Uq))
   obtain⟨rfl,hM⟩:=hq
   obtain⟨g4,x4⟩:=σ4
   (try dsimp only at hM)
   have nM:=hM.1
   (try dsimp only at nM)
   have pA:=(hM.2 ⟨6000000,n0⟩ (by(try dsimp only);omega) hns).trans ((Oc _ (by(try dsimp only);omega)).trans mA)
   have pB:=(hM.2 ⟨6000001,n0⟩ (by(try dsimp only);omega) hnt).trans ((Oc _ (by(try dsimp only);omega)).trans mB)
   have pW:=(hM.2 ⟨6008009,n0+1+1+1+1+1+1⟩ (by(try dsimp only);omega) (KB.not (by(try dsimp only);omega))).trans ((Oc _ (by(try dsimp only);omega)).trans mW)
   have pG:=(hM.2 ⟨6011007,x3⟩ (by(try dsimp only);omega) (KB.not (by(try dsimp only);omega))).trans mG
   have pY:=(hM.2 ⟨6010002,x2⟩ (by(try dsimp only);omega) (KB.not (by(try dsimp only);omega))).trans ((Oc _ (by(try dsimp only);omega)).trans mY)
   have hY4:=Ur.frame (g':=g4) fun i hi=>hM.2 i (by have:=bY i hi;(try dsimp only);omega) (KB.not (by have:=bY i hi;omega))
   have hZ4:=hZ.frame (g':=g4) fun i hi=>hM.2 i (by have:=bZ i hi;(try dsimp only);omega) (KB.not (by have:=bZ i hi;omega))
   clear hM Uq Ur hZ mA mB mW mX mY mG qL
   refine hN _ _ ?_
   clear hN N
   (try((repeat(revert hN;revert N;apply Pn.out));refine wk (tw @pA (tw @pB (tw @pW (tw @pG @pY)))) ?_;(repeat(refine Pn.mk ?_;intro N hN))))
   refine .inr (aI _ _ _ _ _ (fun r σ5 hq=>?_) (yH _ a _ (1+B3 s) (by omega) (by omega) _ (fun i hi=>by have:=bY i hi;(try dsimp only);omega) hY4))
   obtain⟨rfl,hM⟩:=hq
   obtain⟨g5,x5⟩:=σ5
   (try dsimp only at hM)
   have nN:=hM.1
   (try dsimp only at nN)
   have rA:=(hM.2 ⟨6000000,n0⟩ (by(try dsimp only);omega) (Ox.not (by(try dsimp only);omega))).trans pA
   have rB:=(hM.2 ⟨6000001,n0⟩ (by(try dsimp only);omega) (Ox.not (by(try dsimp only);omega))).trans pB
   have rW:=(hM.2 ⟨6008009,n0+1+1+1+1+1+1⟩ (by(try dsimp only);omega) (Ox.not (by(try dsimp only);omega))).trans pW
   have rG:=(hM.2 ⟨6011007,x3⟩ (by(try dsimp only);omega) (Ox.not (by(try dsimp only);omega))).trans pG
   have Ut:=hZ4.frame (g':=g5) fun i hi=>hM.2 i (by have:=bZ i hi;(try dsimp only);omega) (Ox.not (by have:=bZ i hi;omega))
   clear hM hY4 hZ4 pA pB pW pG pY
   obtain⟨wv5,qL,ON⟩:=Ut.fz fun x g=>by simp[aw,ai,ao,aG]
   have e3:decide (1+(B3 s:Int)+3*(a.ah.length:Int)<0)=false:=decide_eq_false (by omega)
   refine hN _ _ ?_
   clear hN N
   (repeat(first|((repeat(revert hN;revert N;apply Pn.out));refine wk (tw @rA (tw @rB (tw @rW (tw @rG (tw @e3 @ab.eq_1))))) ?_;(repeat(refine Pn.mk ?_;intro N hN)))|((try apply Or.inl);refine⟨_,aq.x (pv) (sd (tw @rA (tw @rB (tw @rW (tw @rG (tw @e3 @ab.eq_1)))))),?_⟩;refine hN _ _ ?_;clear hN N)))
   refine .inl ⟨_,aq.x (Df ON hw) (tp qL (hw.fz _)),?_⟩
   refine hN _ _ ?_
   clear hN N
   (try((repeat(revert hN;revert N;apply Pn.out));refine wk (tw @rA (tw @rB (tw @rW (tw @rG (tw @e2 @e3))))) ?_;(repeat(refine Pn.mk ?_;intro N hN))))
   refine .inr (aI _ _ _ _ _ (fun r σ6 hq=>?_) (Ju 1 (by omega) (by omega) _ (fun i hi=>by have:=bZ i hi;(try dsimp only);omega) Ut))
   obtain⟨rfl,hM,hZ6⟩:=hq
   obtain⟨g6,x6⟩:=σ6
   (try dsimp only at hM hZ6)
   have sA:=(hM.2 ⟨6000000,n0⟩ (by(try dsimp only);omega) (QZ.not (by(try dsimp only);omega))).trans rA
   have sB:=(hM.2 ⟨6000001,n0⟩ (by(try dsimp only);omega) (QZ.not (by(try dsimp only);omega))).trans rB
   have sW:=(hM.2 ⟨6008009,n0+1+1+1+1+1+1⟩ (by(try dsimp only);omega) (QZ.not (by(try dsimp only);omega))).trans rW
   have hM6:x5<=x6:=by have:=hM.1;(try dsimp only at this);omega
   clear hM Ut rA rB rW rG qL ON
   obtain⟨wv6,ON,Qy⟩:=hZ6.fz2 fun x g=>by simp[aw,ai,ao,aG]
   have qL:=Qy g6 fun _ _=>rfl
   have e4:decide (1+(L.length:Int)<0)=false:=decide_eq_false (by omega)
   have e5:decide (1+(L.length:Int)=1+(L.length:Int))=true:=decide_eq_true rfl
   refine hN _ _ ?_
   clear hN N
   (try((repeat(revert hN;revert N;apply Pn.out));refine wk (tw @sA (tw @sB @sW)) ?_;(repeat(refine Pn.mk ?_;intro N hN))))
   refine .inl ⟨_,aq.x (Bv 1 L.length (by omega) (by omega) ON) (tp qL (aG _ _ _ _)),?_⟩
   refine hN _ _ ?_
   clear hN N
   (try((repeat(revert hN;revert N;apply Pn.out));refine wk (tw @sA (tw @sB (tw @sW (tw @e4 @e5)))) ?_;(repeat(refine Pn.mk ?_;intro N hN))))
   refine⟨_,kj.x (by rw[aC]at t1;exact t1) _,?_⟩
   refine hN _ _ ?_
   clear hN N
   (try((repeat(revert hN;revert N;apply Pn.out));refine wk (tw @sA (tw @sB (tw @sW (tw @e4 @e5)))) ?_;(repeat(refine Pn.mk ?_;intro N hN))))
   refine⟨_,kj.x (by rw[aO]at t2;exact t2) _,?_⟩
   refine hN _ _ ?_
   clear hN N
   (try((repeat(revert hN;revert N;apply Pn.out));refine wk (tw @sA (tw @sB (tw @sW (tw @e4 @e5)))) ?_;(repeat(refine Pn.mk ?_;intro N hN))))
   refine⟨_,aq.x (by have h:=r2.s;rw[aC,aO,ab]at h;exact h) (tp (by rw[<-aC];exact Fa _ _) (by rw[<-aO];exact E9 _ _)),?_⟩
   refine hN _ _ ?_
   clear hN N
   (repeat(first|((repeat(revert hN;revert N;apply Pn.out));refine wk (tw @sW (tw @e2 @ab.eq_1)) ?_;(repeat(refine Pn.mk ?_;intro N hN)))|((try apply Or.inl);refine⟨_,aq.x (pv) (sd (tw @sW (tw @e2 @ab.eq_1))),?_⟩;refine hN _ _ ?_;clear hN N)))
   refine .inl ⟨_,aq.x (Df Cf hw) (tp (Cf.fz _) (hw.fz _)),?_⟩
   refine hN _ _ ?_
   clear hN N
   (try((repeat(revert hN;revert N;apply Pn.out));refine wk @e2 ?_;(repeat(refine Pn.mk ?_;intro N hN))))
   refine .inl ⟨_,aq.x (Bv 1 L.length (by omega) (by omega) ON) (tp (Qy _ fun i hi=>by
    have h5:=dx (i:=i) (n:=x6) (by have:=hM6;have:=bZ i hi;(try dsimp only at this);omega)
    simp only[go_sem, ↓reduceIte,Nat.reduceEqDiff,Nat.reduceAdd,Nat.reduceSub,Nat.reduceLeDiff,reduceCtorEq,h5]) (aG _ _ _ _)),?_⟩
   refine hN _ _ ?_
   clear hN N
   (try((repeat(revert hN;revert N;apply Pn.out));refine wk (tw @e4 @e5) ?_;(repeat(refine Pn.mk ?_;intro N hN))))
   exact aX (b:=true) (.inl rfl) (sd @Nat.zero_add) rfl
  ·rw[iK hg]at h2
   rw[aC]at h1
   rw[aO]at h2
   (repeat(first|((repeat(revert hN;revert N;apply Pn.out));refine wk (tw @aC.eq_1 (tw @aO.eq_1 @kr)) ?_;(repeat(refine Pn.mk ?_;intro N hN)))|((try apply Or.inl);refine⟨_,aq.x (h1) (sd (tw @aC.eq_1 (tw @aO.eq_1 @kr))),?_⟩;refine hN _ _ ?_;clear hN N)|((try apply Or.inl);refine⟨_,aq.x (h2) (sd (tw @aC.eq_1 (tw @aO.eq_1 @kr))),?_⟩;refine hN _ _ ?_;clear hN N)))
   exact aX (b:=true) (.inl rfl) (sd @Nat.zero_add) rfl
 ·rw[iK hf]at h1
  rw[aC]at h1
  (repeat(first|((repeat(revert hN;revert N;apply Pn.out));refine wk (tw @aC.eq_1 @aO.eq_1) ?_;(repeat(refine Pn.mk ?_;intro N hN)))|((try apply Or.inl);refine⟨_,aq.x (h1) (sd (tw @aC.eq_1 @aO.eq_1)),?_⟩;refine hN _ _ ?_;clear hN N)))
  exact aX (b:=true) (.inl rfl) (sd @Nat.zero_add) rfl
end Go.Proofs.YtgoelphibofcmaaGreat.V

namespace Go.Proofs.YtgoelphibofcmaaGreat
open Go.ChangeShapes Go.WideShapes Go.ChangeAt Go.RowKit Go.Deep
section
variable {H:Type} {enc:TypeId×Value->H} {P:Program} {w:World}
theorem mK.R5 {α:Type} {rep:World->List Nat->List Value->α->Prop} {sz:Nat} {w:World} {b o len cap:Nat} (oE:Nat->List Value) (fs:Nat->List Nat) (ds:Nat->α) (hc:len<=cap) (hm:cap<=maxLen)
  (hl:∀i,i<len->(oE i).length=sz) (hr:∀i,i<len->rep w (fs i) (oE i) (ds i)) (Bs:∀i,i<len->∀j u,(oE i)[j]? =some u->w.cell? ⟨b,o+(i*sz+j),none⟩=some u):
  mK rep sz w ([b]++((List.range len).map fs).flatten) (.slice (some ⟨b,o,none⟩) len cap) ((List.range len).map ds):=by
 refine⟨(List.range len).map oE,(List.range len).map fs,[b],rfl,⟨some ⟨b,o,none⟩,cap,by simp,by simpa using hc,hm,.inr ⟨b,o,rfl,rfl,fun j u hj=>?_⟩⟩,by simp,by simp,fun i cs f d h1 h2 h3=>?_⟩
 ·have hlen:∀cs∈(List.range len).map oE,cs.length=sz:=fun cs dr=>by
   obtain⟨i,hi,rfl⟩:=List.mem_map.1 dr
   exact hl i (List.mem_range.1 hi)
  have gN:=(List.getElem?_eq_some_iff.1 hj).1
  have DI:((List.range len).map oE).flatten.length=len*sz:=by
   rw[List.length_flatten,List.map_map]
   have:∀(l:List Nat),(∀i∈l,i<len)->(l.map (List.length∘oE)).sum=l.length*sz:=by
    intro l
    induction l with
    |nil=>intro _;simp
    |cons a l ih=>intro h;rw[List.map_cons,List.sum_cons,ih fun i hi=>h i (List.mem_cons_of_mem _ hi)];simp only[Function.comp,hl a (h a (by simp)),List.length_cons,Nat.add_mul];omega
   rw[this _ fun i hi=>List.mem_range.1 hi,List.length_range]
  rw[DI]at gN
  have Nq:0<sz:=by
   rcases Nat.eq_zero_or_pos sz with h|h
   ·subst h;simp at gN
   ·exact h
  have hi:j / sz<len:=(Nat.div_lt_iff_lt_mul Nq).2 gN
  have Nl:j % sz<sz:=Nat.mod_lt _ Nq
  have Lv:j=(j / sz)*sz+j % sz:=by rw[Nat.mul_comm];exact(Nat.div_add_mod j sz).symm
  rw[Lv,tF hlen (i:=j / sz) (cs:=oE (j / sz)) (by simp[hi]) Nl]at hj
  rw[Lv]
  have:=Bs (j / sz) hi (j % sz) u hj
  rw[<-Lv]at this ⊢
  exact this
 ·have hi:i<len:=by
   have:=(List.getElem?_eq_some_iff.1 h1).1
   simpa using this
  simp[hi]at h1 h2 h3
  subst h1 h2 h3
  exact⟨hr i hi,hl i hi⟩
theorem kd (b o k:Nat):(⟨b,o,none⟩:Addr).add k=⟨b,o+k,none⟩:=by
 unfold Addr.add;split
 ·rename_i h;subst h;rfl
 ·rfl
theorem pI {α:Type} {rep:World->List Nat->List Value->α->Prop} {Q:α->Prop} {t e:TypeId} {sz fuel:Nat} {cs:List Value} {x:DataW H×List MemPlace} (ht:P.underlying t=some (.slice e)) (hC:P.cellsOf e=sz) (Nq:0<sz)
  (h:DataW.trod enc P w 0 (fun _=>true) true fuel t cs=some x) (hel:∀n qd y,qd.length=sz->DataW.trod enc P w 0 (fun _=>true) true n e qd=some y->∃f d,fP f 0 w.heap.size/\rep w f qd d/\Q d):
  ∃A n c f xs,cs=[.slice A n c]/\fP f 0 w.heap.size/\mK rep sz w f (.slice A n c) xs/\∀d∈xs,Q d:=by
 rcases open_slice ht h with⟨rfl,_⟩|⟨a,len,cap,m,n,D,Pl,rfl,_,hl,hm,OO,_,hi⟩
 ·exact⟨none,0,0,[],[],rfl,fP.nil _ _,mK.nil _ _ _,fun d h=>by cases h⟩
 rw[hC]at hi
 simp only[if_true]at OO
 by_cases h0:len=0
 ·subst h0
  exact⟨some a,0,cap,[],[],rfl,fP.nil _ _,⟨[],[],[],rfl,⟨some a,cap,rfl,Nat.zero_le _,hm,.inl ⟨rfl,rfl⟩⟩,rfl,rfl,fun i cs f d hc=>by simp at hc⟩,fun d h=>by cases h⟩
 obtain⟨b,o,sp⟩:=a
 have cell0:∃v,w.cell? ⟨b,o,sp⟩=some v:=by
  obtain⟨qd,hc,_⟩:=hi 0 (by omega)
  obtain⟨_,nR,Bs⟩:=World.cells?_some hc
  refine⟨qd[0]'(by omega),?_⟩
  have:=Bs 0 Nq
  rw[List.getElem?_eq_getElem (by omega)]at this
  simpa[Addr.add]using this
 obtain⟨v0,qK⟩:=cell0
 have hb:b<w.heap.size:=World.block_lt_of_cell? w _ qK
 have O2:sp=none:=by
  unfold World.cell? at qK
  split at qK
  ·split at qK
   ·cases qK
   ·rename_i h;simpa using h
  ·cases qK
 subst O2
 have key:∀i,i<len->∃qd f d,qd.length=sz/\fP f 0 w.heap.size/\rep w f qd d/\Q d/\∀j u,qd[j]? =some u->w.cell? ⟨b,o+(i*sz+j),none⟩=some u:=fun i nG=>by
  obtain⟨qd,hc,htr⟩:=hi i (by omega)
  obtain⟨_,nR,Bs⟩:=World.cells?_some hc
  obtain⟨f,d,h1,h2,h3⟩:=hel n qd _ nR htr
  refine⟨qd,f,d,nR,h1,h2,h3,fun j u hj=>?_⟩
  have gN:=(List.getElem?_eq_some_iff.1 hj).1
  have:=Bs j (by omega)
  rw[hj]at this
  rw[<-this,Go.Deep.add_add,kd]
 have:Nonempty α:=by
  obtain⟨_,_,d,_⟩:=key 0 (by omega)
  exact⟨d⟩
 let cf:Nat->List Value:=fun i=>if hi:i<len then(key i hi).choose else[]
 let ff:Nat->List Nat:=fun i=>if hi:i<len then(key i hi).choose_spec.choose else[]
 let df:Nat->α:=fun i=>if hi:i<len then(key i hi).choose_spec.choose_spec.choose else Classical.choice this
 have dQ:∀i,i<len->(cf i).length=sz/\fP (ff i) 0 w.heap.size/\rep w (ff i) (cf i) (df i)/\Q (df i)/\∀j u,(cf i)[j]? =some u->w.cell? ⟨b,o+(i*sz+j),none⟩=some u:=fun i hi=>by
  have:=(key i hi).choose_spec.choose_spec.choose_spec
  simp only[cf,ff,df,dif_pos hi]
  exact this
 refine⟨some ⟨b,o,none⟩,len,cap,_,(List.range len).map df,rfl,?_,mK.R5 cf ff df hl hm (fun i hi=>(dQ i hi).1) (fun i hi=>(dQ i hi).2.2.1) (fun i hi=>(dQ i hi).2.2.2.2),fun d hd=>?_⟩
 ·intro x hx
  rcases List.mem_append.1 hx with hx|hx
  ·simp at hx;subst hx;exact⟨Nat.zero_le _,hb⟩
  ·obtain⟨l,yn,Qw⟩:=List.mem_flatten.1 hx
   obtain⟨i,hi,rfl⟩:=List.mem_map.1 yn
   exact(dQ i (List.mem_range.1 hi)).2.1 x Qw
 ·obtain⟨i,hi,rfl⟩:=List.mem_map.1 hd
  exact(dQ i (List.mem_range.1 hi)).2.2.2.1
end
section
variable {H:Type} {enc:TypeId×Value->H} {w:World} {fuel:Nat} {cs:List Value} {x:DataW H×List MemPlace}
abbrev TT (enc:TypeId×Value->H) (w:World) (fuel t:Nat) (cs:List Value) (x:DataW H×List MemPlace):Prop:=DataW.trod enc Tryz.prog w 0 (fun _=>true) true fuel t cs=some x
theorem Pj (h:TT enc w fuel 56 cs x):∃A n c f xs,cs=[.slice A n c]/\fP f 0 w.heap.size/\u7 w f (.slice A n c) xs:=by
 obtain⟨A,n,c,f,xs,h1,h2,h3,_⟩:=pI (rep:=EY) (Q:=fun _=>True) Tryz.underlying56 (sz:=1) (by kernel_rfl) (by omega) h fun n qd y hl hy=>by
  obtain⟨b,rfl,_⟩:=DataW.trod_int Tryz.underlying2 hy
  exact⟨[],b,fP.nil _ _,⟨rfl,rfl⟩,trivial⟩
 exact⟨A,n,c,f,xs,h1,h2,h3⟩
theorem nj {t:TypeId} {fs:Array Field} (ht:Tryz.prog.underlying t=some (.struct fs)) (h:TT enc w fuel t cs x):cs.length=Tryz.prog.cellsOf t/\∃n,∀(i:Nat) (f:Field),fs[i]? =some f->∃y,TT enc w n f.type ((cs.drop f.offset).take (Tryz.prog.cellsOf f.type)) y:=by
 obtain⟨xs,n,_,_,hl,Qw,hf⟩:=DataW.trod_struct ht h
 refine⟨hl,n,fun i f hi=>?_⟩
 have nG:i<xs.length:=by rw[Qw];exact(Array.getElem?_eq_some_iff.1 hi).1
 exact⟨xs[i],(hf i f hi).trans (List.getElem?_eq_getElem nG)⟩
theorem RY {l:List Value} (h:l.length=2):∃a b,l=[a,b]:=by
 match l,h with
 |[a,b],_=>exact⟨a,b,rfl⟩
theorem Vm {l:List Value} (h:l.length=3):∃a b c,l=[a,b,c]:=by
 match l,h with
 |[a,b,c],_=>exact⟨a,b,c,rfl⟩
theorem Vl {l:List Value} (h:l.length=1):∃a,l=[a]:=by
 match l,h with
 |[a],_=>exact⟨a,rfl⟩
theorem Vn {l:List Value} (h:l.length=4):∃a b c d,l=[a,b,c,d]:=by
 match l,h with
 |[a,b,c,d],_=>exact⟨a,b,c,d,rfl⟩
theorem Mi (h:TT enc w fuel 22 cs x):∃A n c f xs,cs=[.slice A n c]/\fP f 0 w.heap.size/\rn w f (.slice A n c) xs/\∀d∈xs,d.aE.size<=9223372036854775807:=by
 exact pI (rep:=HZ) (Q:=fun d=>d.aE.size<=9223372036854775807) Tryz.underlying22 (sz:=2) (by kernel_rfl) (by omega) h fun n qd y hl hy=>by
  obtain⟨_,m,hf⟩:=nj Tryz.underlying191 hy
  obtain⟨a,b,rfl⟩:=RY hl
  ·skip
   obtain⟨y0,h0⟩:=hf 0 _ rfl
   obtain⟨y1,h1⟩:=hf 1 _ rfl
   rw[show Tryz.prog.cellsOf _=1 from by kernel_rfl]at h0 h1
   obtain⟨p,e0,_,ws⟩:=DataW.trod_string Tryz.underlying9 h0
   obtain⟨q,e1,_⟩:=DataW.trod_int Tryz.underlying2 h1
   simp at e0 e1
   subst e0 e1
   exact⟨[],⟨p,q⟩,fP.nil _ _,⟨rfl,rfl⟩,by simpa[maxLen]using ws⟩
theorem Mj (h:TT enc w fuel 23 cs x):∃A n c f xs,cs=[.slice A n c]/\fP f 0 w.heap.size/\rq w f (.slice A n c) xs/\∀d∈xs,d.aE.size<=9223372036854775807:=by
 exact pI (rep:=H0) (Q:=fun d=>d.aE.size<=9223372036854775807) Tryz.underlying23 (sz:=2) (by kernel_rfl) (by omega) h fun n qd y hl hy=>by
  obtain⟨_,m,hf⟩:=nj Tryz.underlying193 hy
  obtain⟨a,b,rfl⟩:=RY hl
  ·skip
   obtain⟨y0,h0⟩:=hf 0 _ rfl
   obtain⟨y1,h1⟩:=hf 1 _ rfl
   rw[show Tryz.prog.cellsOf _=1 from by kernel_rfl]at h0 h1
   obtain⟨p,e0,_,ws⟩:=DataW.trod_string Tryz.underlying9 h0
   obtain⟨A1,n1,c1,f1,Sq,e1,k1,s1⟩:=Pj h1
   simp at e0 e1
   subst e0 e1
   exact⟨_,⟨p,Sq⟩,k1,⟨_,f1,rfl,rfl,s1⟩,by simpa[maxLen]using ws⟩
theorem G7 (h:TT enc w fuel 26 cs x):∃A n c f xs,cs=[.slice A n c]/\fP f 0 w.heap.size/\jd w f (.slice A n c) xs:=by
 obtain⟨A,n,c,f,xs,h1,h2,h3,_⟩:=pI (rep:=AJ) (Q:=fun _=>True) Tryz.underlying26 (sz:=3) (by kernel_rfl) (by omega) h fun n qd y hl hy=>by
  obtain⟨_,m,hf⟩:=nj Tryz.underlying143 hy
  obtain⟨a,b,c,rfl⟩:=Vm hl
  ·skip
   obtain⟨y0,h0⟩:=hf 0 _ rfl
   obtain⟨y1,h1⟩:=hf 1 _ rfl
   rw[show Tryz.prog.cellsOf _=2 from by kernel_rfl]at h0
   rw[show Tryz.prog.cellsOf _=1 from by kernel_rfl]at h1
   obtain⟨_,m2,DH⟩:=nj Tryz.underlying66 h0
   obtain⟨z0,g0⟩:=DH 0 _ rfl
   obtain⟨z1,g1⟩:=DH 1 _ rfl
   rw[show Tryz.prog.cellsOf _=1 from by kernel_rfl]at g0 g1
   obtain⟨px,e0,_⟩:=DataW.trod_int Tryz.underlying2 g0
   obtain⟨py,e1,_⟩:=DataW.trod_int Tryz.underlying2 g1
   obtain⟨ti,e2,_⟩:=DataW.trod_int Tryz.underlying2 h1
   simp at e0 e1 e2
   subst e0 e1 e2
   exact⟨[],⟨⟨px,py⟩,ti⟩,fP.nil _ _,⟨rfl,rfl⟩,trivial⟩
 exact⟨A,n,c,f,xs,h1,h2,h3⟩
theorem wD (h:TT enc w fuel 28 cs x):∃A n c f,∃d:dP,cs=[.slice A n c]/\fP f 0 w.heap.size/\jd w f (.slice A n c) d.ah:=by
 obtain⟨hl,m,hf⟩:=nj Tryz.underlying28 h
 rw[show Tryz.prog.cellsOf _=1 from by kernel_rfl]at hl
 obtain⟨a,rfl⟩:=Vl hl
 ·skip
  obtain⟨y0,h0⟩:=hf 0 _ rfl
  rw[show Tryz.prog.cellsOf _=1 from by kernel_rfl]at h0
  obtain⟨A1,n1,c1,f1,Sq,e1,k1,s1⟩:=G7 h0
  simp at e1
  subst e1
  exact⟨A1,n1,c1,f1,⟨Sq⟩,rfl,k1,s1⟩
theorem JH (h:TT enc w fuel 30 cs x):∃A0 n0 c0 f0 A1 n1 c1 f1 A2 n2 c2 f2,∃d:aD,cs=[.slice A0 n0 c0,.slice A1 n1 c1,.slice A2 n2 c2,.int .i64 d.ay]/\fP f0 0 w.heap.size/\rn w f0 (.slice A0 n0 c0) d.aB.ax/\fP f1 0 w.heap.size/\rq w f1 (.slice A1 n1 c1) d.aB.ah/\fP f2 0 w.heap.size/\jd w f2 (.slice A2 n2 c2) d.cu.ah/\(∀g∈d.aB.ax,g.aE.size<=9223372036854775807)/\∀t∈d.aB.ah,t.aE.size<=9223372036854775807:=by
 obtain⟨hl,m,hf⟩:=nj Tryz.underlying30 h
 rw[show Tryz.prog.cellsOf _=4 from by kernel_rfl]at hl
 obtain⟨a,b,c,d,rfl⟩:=Vn hl
 ·skip
  obtain⟨y0,h0⟩:=hf 0 _ rfl
  obtain⟨y1,h1⟩:=hf 1 _ rfl
  obtain⟨y2,h2⟩:=hf 2 _ rfl
  rw[show Tryz.prog.cellsOf _=2 from by kernel_rfl]at h0
  rw[show Tryz.prog.cellsOf _=1 from by kernel_rfl]at h1 h2
  obtain⟨_,m2,DH⟩:=nj Tryz.underlying25 h0
  obtain⟨z0,g0⟩:=DH 0 _ rfl
  obtain⟨z1,g1⟩:=DH 1 _ rfl
  rw[show Tryz.prog.cellsOf _=1 from by kernel_rfl]at g0 g1
  obtain⟨A0,n0,c0,f0,xs0,e0,k0,s0,o0⟩:=Mi g0
  obtain⟨A1,n1,c1,f1,Sq,e1,k1,s1,o1⟩:=Mj g1
  obtain⟨A2,n2,c2,f2,d2,e2,k2,s2⟩:=wD h1
  obtain⟨t,e3,_⟩:=DataW.trod_int Tryz.underlying2 h2
  simp at e0 e1 e2 e3
  subst e0 e1 e2 e3
  exact⟨A0,n0,c0,f0,A1,n1,c1,f1,A2,n2,c2,f2,⟨⟨xs0,Sq⟩,d2,t⟩,rfl,k0,s0,k1,s1,k2,s2,o0,o1⟩
end
end Go.Proofs.YtgoelphibofcmaaGreat

namespace Go.Proofs.YtgoelphibofcmaaGreat
open Go.ChangeShapes Go.WideShapes Go.ChangeAt Go.RowKit V
theorem Sa:ownKnob Tryz.prog.godebug=none:=by kernel_rfl
theorem Jl:laidOutB Tryz.prog=true:=by kernel_rfl
theorem JW {s:aD} {l:List ae} (hm:rz s):(qZ s l).2.1.length<=1152921504606846976:=by
 have hu:∀p,(ft s l p).length<=1048576:=fun p=>by
  have h1:=ph (eS s l) p s.aB.ah.length
  have h2:=hm.s.t
  unfold ft;omega
 unfold qZ
 split
 ·unfold Ep
  rcases tg s l with _|p
  ·simp
  ·have:=hu p
   (try dsimp only);omega
 ·simp
theorem MB (s:aD) (a:dP) (hn:gK s.aB):aq Tryz.prog 6 [.agg (aC s),.agg (aO a)] (.bool true):=
 L5 (fun s a=>qZ s a.ah) (fun s a hn hm _=>CZ s a.ah hn hm.s.g hm.s.t) (fun s a hn hm hl=>CY s a.ah hn hm hl) (fun s a hm hl=>JW hm) s a hn
theorem Er (os:Os) (started:os.Started) (H:Type) (enc:TypeId×Value->H):
  ReturnsInHanded {} Tryz.checked os 6 .any (Rows.fnExactRivalsAtSpec.pre6 enc Tryz.prog Tryz.f6 Rows.fnExactRivalsAtRow.domain false) (Rows.fnExactRivalsAtSpec.post enc Tryz.prog Tryz.f6 false true false false):=by
 refine returnsInHanded_of_change (C:=Tryz.checked) Sa started (by kernel_rfl) Tryz.func6
  (ChangeSpec.witness6 (enc:=enc) (C:=Tryz.checked) false ⟨#[], #[.agg #[.slice none 0 0,.slice none 0 0,.slice none 0 0,.int .i64 0],.agg #[.slice none 0 0]],[]⟩ 8 (by kernel_rfl) (by kernel_rfl) (by kernel_rfl) (by kernel_rfl)) ?_
 intro W base args ds gs before Nu hW hcnd _
 have s5:∀(j:Nat) t v,Tryz.f6.params[j]? =some t->args[j]? =some v->Value.okWide Tryz.prog W .any base t v:=Nu
 have hW':=hW
 obtain⟨p,q,hA0,hV,rfl,CG,lZ⟩:=hW
 have hA:DataW.TrodAll enc Tryz.prog W 0 (fun _=>true) true Tryz.f6.params.toList args.toList ds p:=hA0
 rw[Tryz.params6]at hA s5
 obtain⟨v0,vs0,d0,ds0,p0,q0,nF,rfl,rfl,h0,r0⟩:=trodAll_cons hA
 obtain⟨v1,vs1,d1,ds1,p1,q1,rfl,rfl,rfl,h1,r1⟩:=trodAll_cons r0
 obtain⟨rfl,rfl,rfl⟩:=trodAll_nil r1
 obtain rfl:args= #[v0,v1]:=by cases args;simp_all
 obtain⟨rfl,rfl⟩:=trodVars_none hV
 obtain⟨P8,rfl,_⟩:=okWide_struct Tryz.underlying30 (s5 0 30 v0 rfl rfl)
 obtain⟨TP,rfl,_⟩:=okWide_struct Tryz.underlying28 (s5 1 28 v1 rfl rfl)
 have k0:=h0
 have k1:=h1
 have lt0:∀x∈p0,x.block<W.heap.size:=by obtain⟨m,hm⟩:=k0;exact DataW.trod_lt m _ _ _ hm
 have lt1:∀x∈p1,x.block<W.heap.size:=by obtain⟨m,hm⟩:=k1;exact DataW.trod_lt m _ _ _ hm
 obtain⟨A0,n0,c0,f0,A1,n1,c1,f1,A2,n2,c2,f2,s,dr,w0,s0,w1,s1,w2,s2,o0,o1⟩:∃A0 n0 c0 f0 A1 n1 c1 f1 A2 n2 c2 f2,∃d:aD,(Value.agg P8).cells.toList=[.slice A0 n0 c0,.slice A1 n1 c1,.slice A2 n2 c2,.int .i64 d.ay]/\fP f0 0 W.heap.size/\rn W f0 (.slice A0 n0 c0) d.aB.ax/\fP f1 0 W.heap.size/\rq W f1 (.slice A1 n1 c1) d.aB.ah/\fP f2 0 W.heap.size/\jd W f2 (.slice A2 n2 c2) d.cu.ah/\(∀g∈d.aB.ax,g.aE.size<=9223372036854775807)/\∀t∈d.aB.ah,t.aE.size<=9223372036854775807:=by
  obtain⟨fuel,hf⟩:=h0
  exact JH hf
 obtain⟨A3,n3,c3,f3,a,Rg,w3,s3⟩:∃A n c f,∃d:dP,(Value.agg TP).cells.toList=[.slice A n c]/\fP f 0 W.heap.size/\jd W f (.slice A n c) d.ah:=by
  obtain⟨fuel,hf⟩:=h1
  exact wD hf
 obtain rfl:P8= #[.slice A0 n0 c0,.slice A1 n1 c1,.slice A2 n2 c2,.int .i64 s.ay]:=by
  cases P8;simp[Value.cells]at dr;subst dr;rfl
 obtain rfl:TP= #[.slice A3 n3 c3]:=by
  cases TP;simp[Value.cells]at Rg;subst Rg;rfl
 clear hA0 Nu
 have gZ:fh Tryz.prog W (fun b=>b<W.heap.size) (fun _=>none) [.agg (aC s),.agg (aO a)] #[.agg #[.slice A0 n0 c0,.slice A1 n1 c1,.slice A2 n2 c2,.int .i64 s.ay],.agg #[.slice A3 n3 c3]]:=by
  have h:=mj (C0 s0 (fun b hb=>(w0 b hb).2) s1 (fun b hb=>(w1 b hb).2) s2 (fun b hb=>(w2 b hb).2)) (mj (y4 s3 (fun b hb=>(w3 b hb).2)) (⟨rfl,fun j b hj=>by cases j<;>cases hj⟩:fh Tryz.prog W (fun b=>b<W.heap.size) (fun _=>none) [] #[]))
  simpa using h
 have im:=Pb mixed (MB s a ⟨o0,o1⟩) gZ
 clear s0 s1 s2 s3 w0 w1 w2 w3 gZ
 refine(im.mono fun e W' ⟨he,bel⟩=>?_)
 subst he
 exact⟨_,rfl,_,_,_,[],_,[],hW',trodAll_mk1 (shut_bool Tryz.underlying4 _),(trodAll_cons_mk (Below.trod Jl (by kernel_rfl) (of_decide_eq_true (by kernel_rfl)) k0 bel lt0) (trodAll_cons_mk (Below.trod Jl (by kernel_rfl) (of_decide_eq_true (by kernel_rfl)) k1 bel lt1) trodAll_mk0)),rfl,bel.frame _,fun h=>by cases h⟩
end Go.Proofs.YtgoelphibofcmaaGreat

namespace Go.Proofs.YtgoelphibofcmaaGreat
open Go.ChangeShapes Go.WideShapes Go.ChangeAt Go.RowKit
theorem rjN:Tryz.pinned.checked.prog.funcNamed Rows.fnExactRivalsAtRow.func=some 6:=by kernel_rfl
theorem rjJ:joinedFacts Tryz.pinned.checked.prog 6 Tryz.f6 Rows.fnExactRivalsAtSpec Rows.fnExactRivalsAtRow=true:=by
 unfold joinedFacts
 repeat(with_reducible refine Bool.and_eq_true_iff.2 ⟨?_,by as_aux_lemma=>kernel_rfl⟩)
 as_aux_lemma=>kernel_rfl
theorem rjI:Tryz.f6.isInstance Tryz.pinned.checked.prog Rows.fnExactRivalsAtRow.origin Rows.fnExactRivalsAtRow.targs:=of_decide_eq_true (by kernel_rfl)
theorem rjW:Tryz.f6.isWrapper Tryz.pinned.checked.prog Rows.fnExactRivalsAtRow.wrapper Rows.fnExactRivalsAtRow.mainSum:=by
 unfold Func.isWrapper;first|(rw[if_pos (by decide+kernel)];kernel_rfl)|(rw[if_neg (by decide+kernel)];exact⟨rfl,rfl⟩)
theorem JX:Rows.fnExactRivalsAtRow.holds Tryz.pinned (OpenSpec.ofChange Rows.fnExactRivalsAtSpec):=
 OpenClaim.holds_of_wide 6 Tryz.f6 rfl rfl rfl rfl rfl rfl rfl ⟨rfl,rfl,rfl,rfl,rfl⟩ rfl rfl rfl rfl rfl rjN Tryz.func6 rjJ rjI rjW
  (fun os started H enc _=>Er os started H enc)
theorem fnExactRivalsAt_proved:Rows.FnExactRivalsAtSaid:=JX
end Go.Proofs.YtgoelphibofcmaaGreat
