/- Networks by matrices: units are sent. -/
import Derived.Test.YtgoelphibofcmaaGreatOpE
import Derived.Test.YtgoelphibofcmaaGreatOpB
import Derived.Test.YtgoelphibofcmaaGreatOpD
import Derived.Test.YtgoelphibofcmaaGreatOpC
import Derived.Test.YtgoelphibofcmaaGreatChecked
import Derived.ProofKit
import Derived.Deep.Slices
import Derived.ChangeSame
import Derived.Test.YtgoelphibofcmaaGreatRows
import Derived.OpenShut
import Derived.ShutString
import Derived.ChangeOld
import Derived.Below
set_option linter.unusedVariables false
set_option linter.unusedSimpArgs false
set_option maxRecDepth 100000
set_option maxHeartbeats 16000000
namespace Go.Proofs.YtgoelphibofcmaaGreat.V
open Go.RowKit
attribute [local irreducible] eb wpOps gj Call
attribute [local go_sem] aJ fM eP fZ fY cL upd cu K.av cN AV.cells AV.cell rowOf rowsOf part ld rowAt bI bW dD ee gT bL dc ev fU eY dr ej da cZ dO dR bR aX cR bQ cV cU eh ek ei cQ bV db ef bP aP cX cE gS bw cJ bU aW dx bj dE AV.undef bD bF dV ec dI dS cF eu eB cD ep eo cW cY List.getD_cons_zero List.getD_cons_succ List.getD_nil List.all_cons List.all_nil Bool.and_true Bool.true_and Bool.and_self Bool.not_true Bool.not_false Option.map_some Option.map_none Option.bind_some Option.bind_none List.length_cons List.length_nil List.take_succ_cons List.take_zero List.take_nil List.drop_succ_cons List.drop_zero List.drop_nil List.head?_cons List.map_cons List.map_nil List.getElem?_cons_zero List.getElem?_cons_succ List.cons_append List.nil_append List.append_nil List.length_map List.set_cons_zero List.set_cons_succ Nat.reduceMul eq_self Int.toNat_natCast Int.natCast_nonneg and_self true_and and_true decide_true decide_false Bool.false_eq_true Nat.zero_add Nat.add_zero List.contains_cons List.contains_nil Bool.or_false Bool.false_or beq_self_eq_true Nat.reduceBEq ne_eq not_true_eq_false not_false_eq_true Id.mk.injEq false_and and_false Nat.reduceLT Int.reduceLE Int.reduceLT Int.reduceToNat Int.reduceNeg Int.reduceAdd Nat.le_refl List.length_append beq_true beq_false Bool.not_eq_eq_eq_not or_false false_or dM aj aq aH bd bz ck aU bf aT aZ cP bH
theorem Ay (b:Nat):∀(l:List Nat) (a:Nat) (f:Nat->Nat->Int),lS f ((a::l)++[b])=kc (lS f (a::l)) ((a::l).getLast (by simp)) b
 |[],a,f=>rfl
 |c::l,a,f=>by
  rw[List.cons_append,List.cons_append,lS,<-List.cons_append,Ay b l c (kc f a c),lS,List.getLast_cons_cons]
theorem FK {p:List Nat} {f:Nat->Nat->Int} {i:Nat} (h1:1<=i) (hi:i<p.length):lS f (p.take (i+1))=kc (lS f (p.take i)) (p[i-1]'(by omega)) p[i]:=by
 rw[List.take_succ_eq_append_getElem hi]
 have gU:p.take i≠[]:=by
  intro h
  have:(p.take i).length=0:=by rw[h];rfl
  rw[List.length_take]at this;omega
 obtain⟨a,l,Ix⟩:∃a l,p.take i=a::l:=by
  cases h:p.take i with
  |nil=>exact absurd h gU
  |cons a l=>exact⟨a,l,rfl⟩
 have vn:(p.take i).getLast gU=p[i-1]'(by omega):=by
  rw[List.getLast_eq_getElem,List.getElem_take]
  congr 1
  rw[List.length_take];omega
 simp only[Ix]at vn ⊢
 rw[Ay,vn]
theorem GR (f:Nat->Nat->Int) (a b u v:Nat):kc f a b u v<=f u v+1/\f u v-1<=kc f a b u v:=by
 unfold kc bump
 split<;>split<;>constructor<;>omega
theorem lT:∀(p:List Nat) (f:Nat->Nat->Int) (u v:Nat),lS f p u v<=f u v+p.length/\f u v-p.length<=lS f p u v
 |[],f,u,v=>by simp[lS]
 |[_],f,u,v=>by simp[lS];omega
 |a::b::r,f,u,v=>by
  rw[lS]
  have h1:=lT (b::r) (kc f a b) u v
  have h2:=GR f a b u v
  simp only[List.length_cons]at h1 ⊢
  omega
theorem nB.push {g g':Rows} {X o1 o2:Id} {R1 R2:Nat->Id} {n nb:Nat} {c f:Nat->Nat->Int} (I:FE X o1 o2 R1 R2 n nb) (h:nB g X o1 o2 R1 R2 n c f) {a b:Nat} (ha:a<n) (hb:b<n) (nG:a≠b) (hA:g' (R2 a)=some ⟨true,1,dU (bump f a b 1 a) n⟩) (hB:g' (R2 b)=some ⟨true,1,dU (bump (bump f a b 1) b a (-1) b) n⟩) (hf:∀i:Id,i.bm<nb->(i=R2 a)=False->(i=R2 b)=False->g' i=g i):nB g' X o1 o2 R1 R2 n c (kc f a b):=by
 have ne:∀{i:Id} {s:Nat},i.site=s->(s==245005006)=false->∀a,a<n->(i=R2 a)=False:=fun {i s} hi hs a ha=>by
  simp only[eq_iff_iff,iff_false]
  rintro rfl
  rw[I.M4 a ha]at hi
  subst hi
  simp at hs
 refine⟨(hf _ I.vx (ne I.sx (by decide) _ ha) (ne I.sx (by decide) _ hb)).trans h.x,(hf _ I.v1 (ne I.s1 (by decide) _ ha) (ne I.s1 (by decide) _ hb)).trans h.t1,(hf _ I.v2 (ne I.s2 (by decide) _ ha) (ne I.s2 (by decide) _ hb)).trans h.t2,fun i hi=>(hf _ (I.SP i hi) (ne (I.SN i hi) (by decide) _ ha) (ne (I.SN i hi) (by decide) _ hb)).trans (h.r1 i hi),fun i hi=>?_⟩
 by_cases Ki:i=b
 ·subst Ki;exact hB
 ·by_cases Kh:i=a
  ·subst Kh
   rw[hA,kc,jR Ki]
  ·rw[kc,jR Ki,jR Kh,hf _ (I.P0 i hi) (by simp only[eq_iff_iff,iff_false];exact fun he=>Kh (I.i2 i _ hi ha he)) (by simp only[eq_iff_iff,iff_false];exact fun he=>Ki (I.i2 i _ hi hb he))]
   exact h.r2 i hi
theorem OS (cnt:Nat) (zi:1<=cnt) (hn:cnt<=1048576) (c:Nat->Nat->Int) (hc:∀u v,u<cnt->v<cnt->0<=c u v/\c u v<=16777216) (x y:Nat) (hx:x<cnt) (hy:y<cnt) (Re:x≠y) (t:Int) (ht:t<=1099511627776)
  (X o1 o2:Id) (R1 R2:Nat->Id) (nb:Nat) (I:FE X o1 o2 R1 R2 cnt nb) (σ:au) (hM:nB σ.get X o1 o2 R1 R2 cnt c (fun _ _=>0)) (Sy:nb<=σ.next):
  Call Tryz.prog 246 [.ptr X 0 0,.int .i64 x,.int .i64 y,.int .i64 t] σ fun r σ'=>∃val:Int,r=.int .i64 val/\(val<t↔∃S:Nat->Bool,S x=true/\S y=false/\lV cnt S c<t)/\σ.next<=σ'.next:=by
 refine eU eJ rfl fun hl=>?_
 clear hl
 have hxS:(fun v=>decide (v=x)) x=true:=by simp
 have hyS:(fun v=>decide (v=x)) y=false:=by simp;exact fun h=>Re h.symm
 obtain⟨top,UA⟩:∃top,top=lV cnt (fun v=>decide (v=x)) c:=⟨_,rfl⟩
 (try((repeat(revert hN;revert N;apply Pn.out));refine wk @Nat.zero_add ?_;(repeat(refine Pn.mk ?_;intro N hN))))
 refine aO (fun m env st=>∃(k:Nat) (f:Nat->Nat->Int),m=(top-k).toNat/\env 9=.int .i64 (k:Int)/\ll cnt c f x y k/\nB st.get X o1 o2 R1 R2 cnt c f/\σ.next<=st.next/\(0<k->(k:Int)<=t)/\∀u v,-((k:Int)*(cnt:Int))<=f u v) (top-0).toNat ⟨0,fun _ _=>0,rfl,by(simp only[go_sem, ↓reduceIte,Nat.reduceEqDiff,Nat.reduceAdd,Nat.reduceSub,Nat.reduceLeDiff,reduceCtorEq])<;>rfl,ll.zero fun u v hu hv=>(hc u v hu hv).1,hM,by(try dsimp only);omega,fun h=>absurd h (Nat.lt_irrefl 0),fun u v=>by simp⟩ ?_
 rintro m env_b st_b ⟨k,f,rfl,b9,hF,bM,bn,bk,blo⟩ bkp
 have b0:=bkp 0 (by kernel_rfl)
 have b1:=bkp 1 (by kernel_rfl)
 have b2:=bkp 2 (by kernel_rfl)
 have b3:=bkp 3 (by kernel_rfl)
 simp only[go_sem, ↓reduceIte,Nat.reduceEqDiff,Nat.reduceAdd,Nat.reduceSub,Nat.reduceLeDiff,reduceCtorEq]at b0 b1 b2 b3
 clear bkp
 have hz:cK (dM st_b.get) 6 [.ptr X 0 0,.int .i64 (x:Int),.int .i64 (y:Int)]=some [.dj (lq cnt c f),.int .i64 x,.int .i64 y]:=by simp only[aj,aq,bM.fz,aH,Option.map_some]
 (try((repeat(revert hN;revert N;apply Pn.out));refine wk (tw @b0 (tw @b1 (tw @b2 (tw @b3 @b9)))) ?_;(repeat(refine Pn.mk ?_;intro N hN))))
 refine .inr (aL _ _ _ _ _ (fun r σ1 hq=>?_) ((RF cnt zi hn c f x y hx hy).x mixed hz))
 obtain⟨Ot,rfl⟩:=hq
 refine hN _ _ ?_
 clear hN N
 rcases Ot with⟨rfl,S,NY,KY,Sf⟩|⟨p,rfl,hW⟩
 ·(try((repeat(revert hN;revert N;apply Pn.out));refine wk (tw @b0 (tw @b1 (tw @b2 (tw @b3 (tw @b9 (tw @Bool.not_true @Bool.not_false)))))) ?_;(repeat(refine Pn.mk ?_;intro N hN))))
  refine ft (.inl rfl) (vs:=[.int .i64 (k:Int)]) (sd @Nat.zero_add) ⟨(k:Int),rfl,⟨fun h=>⟨S,NY,KY,by rw[<-hF.full NY KY Sf];exact h⟩,fun⟨S',h1,h2,h3⟩=>by have:=hF.bound h1 h2;omega⟩,by(try dsimp only);omega⟩
 ·obtain⟨⟨rs,rfl,vn⟩,lN,fP,hplt⟩:=hW
  by_cases K4:t<=(k:Int)
  ·(try((repeat(revert hN;revert N;apply Pn.out));refine wk (tw @b0 (tw @b1 (tw @b2 (tw @b3 (tw @b9 (tw @K4 (tw @Bool.not_true @Bool.not_false))))))) ?_;(repeat(refine Pn.mk ?_;intro N hN))))
   refine ft (.inl rfl) (vs:=[.int .i64 (k:Int)]) (sd @Nat.zero_add) ⟨(k:Int),rfl,⟨fun h=>by omega,fun⟨S',h1,h2,h3⟩=>by have:=hF.bound h1 h2;omega⟩,by(try dsimp only);omega⟩
  ·(try((repeat(revert hN;revert N;apply Pn.out));refine wk (tw @b0 (tw @b1 (tw @b2 (tw @b3 (tw @b9 (tw @K4 (tw @Bool.not_true @Bool.not_false))))))) ?_;(repeat(refine Pn.mk ?_;intro N hN))))
   have ml:=oH cnt _ lN hplt
   have hkc:(k:Int)*(cnt:Int)<=1099511627776*1048576:=Int.mul_le_mul (by omega) (by omega) (by omega) (by omega)
   have hfb:=hF.bound (S:=fun v=>decide (v=x)) hxS hyS
   have hnear:=lT
   obtain⟨p,hp⟩:∃p,p=x::rs:=⟨_,rfl⟩
   have K7:eN x::List.map eN rs=p.map eN:=by rw[hp];rfl
   rw[K7]
   have Om:1<=p.length:=by rw[hp];simp
   have Tq:=hF.aug vn lN fP hplt
   rw[<-hp]at Tq lN fP hplt ml
   have Oy:p.take 1=[x]:=by rw[hp];rfl
   clear K7 vn
   refine aO (fun m env st=>∃i:Nat,m=p.length-i/\1<=i/\i<=p.length/\env 11=.int .i64 (i:Int)/\nB st.get X o1 o2 R1 R2 cnt c (lS f (p.take i))/\st_b.next<=st.next) (p.length-1) ⟨1,rfl,Nat.le_refl _,Om,by(simp only[go_sem, ↓reduceIte,Nat.reduceEqDiff,Nat.reduceAdd,Nat.reduceSub,Nat.reduceLeDiff,reduceCtorEq])<;>rfl,by rw[Oy];exact bM,by(try dsimp only);omega⟩ ?_
   rintro m env_c st_c ⟨i,rfl,K2,nz,nE,cM,cn⟩ ckp
   have c0:=ckp 0 (by kernel_rfl)
   have c1:=ckp 1 (by kernel_rfl)
   have c2:=ckp 2 (by kernel_rfl)
   have c3:=ckp 3 (by kernel_rfl)
   have c9:=ckp 9 (by kernel_rfl)
   have jq:=ckp 10 (by kernel_rfl)
   simp only[go_sem, ↓reduceIte,Nat.reduceEqDiff,Nat.reduceAdd,Nat.reduceSub,Nat.reduceLeDiff,reduceCtorEq,b0,b1,b2,b3,b9]at c0 c1 c2 c3 c9 jq
   clear ckp
   have lY:(p.map eN).length=p.length:=by simp
   by_cases hi:(i:Int)<(p.length:Int)
   ·have fI:i<p.length:=by omega
    have xh:=FK (f:=f) K2 fI
    obtain⟨a,ha⟩:∃a,a=p[i-1]'(by omega):=⟨_,rfl⟩
    obtain⟨b,hb⟩:∃b,b=p[i]:=⟨_,rfl⟩
    have EY:a<cnt:=by rw[ha];exact hplt _ (List.getElem_mem _)
    have EZ:b<cnt:=by rw[hb];exact hplt _ (List.getElem_mem _)
    have nG:a≠b:=by
     rw[ha,hb]
     exact List.pairwise_iff_getElem.1 lN (i-1) i (by omega) fI (by omega)
    have QM:(p.map eN)[i-1]? =some [.int .i64 (a:Int)]:=by rw[List.getElem?_map,List.getElem?_eq_getElem (by omega),ha];rfl
    have N3:(p.map eN)[i]? =some [.int .i64 (b:Int)]:=by rw[List.getElem?_map,List.getElem?_eq_getElem fI,hb];rfl
    rw[<-ha,<-hb]at xh
    have Uk:=lT (p.take i) f a b
    have Ul:=lT (p.take i) f b a
    rw[List.length_take]at Uk Ul
    have hl1:=blo b a
    have hl2:=blo a b
    have Q8:=hF.le a b EY EZ
    have hu2:=hF.le b a EZ EY
    have hca:=hc a b EY EZ
    have E0:=hc b a EZ EY
    generalize lS f (p.take i)=fl at *
    have gA:=r4 (R:=R2) (n:=cnt) EY
    have gB:=r4 (R:=R2) (n:=cnt) EZ
    have rA:=cM.r2 _ EY
    have rB:=cM.r2 _ EZ
    have cA:=dJ (f:=fl a) EZ
    have cB:=dJ (f:=fl b) EY
    have sA:=od (f:=fl) (a:=a) (d:=1) EZ
    have Oj:bump fl a b 1 b=fl b:=jR fun h=>nG h.symm
    have sB:=od (f:=bump fl a b 1) (a:=b) (b:=a) (d:=-1) (n:=cnt) EY
    rw[Oj]at sB
    have gX:=cM.x
    have g2:=cM.t2
    have gC:(a:Int)<(cnt:Int):=by omega
    have fo:(b:Int)<(cnt:Int):=by omega
    have SI:IntKind.i64.wrap ((i:Int)-1)=((i-1:Nat):Int):=by rw[bh (by omega)];omega
    have xS:((i-1:Nat):Int)<(p.length:Int):=by omega
    have wA:IntKind.i64.wrap (fl a b+1)=fl a b+1:=bh (by omega)
    have wB:IntKind.i64.wrap (fl b a-1)=fl b a+-1:=by rw[bh (by omega)];omega
    have Rb:IntKind.i64.wrap ((i:Int)+1)=((i+1:Nat):Int):=az (by omega)
    have l2:=jX R2 cnt cnt
    have lA:=dy (fl a) cnt
    have lB:=dy (fl b) cnt
    have gU:(R2 a=R2 b)=False:=by simp only[eq_iff_iff,iff_false];exact fun h=>nG (I.i2 _ _ EY EZ h)
    have IJ:(R2 b=R2 a)=False:=by simp only[eq_iff_iff,iff_false];exact fun h=>nG (I.i2 _ _ EY EZ h.symm)
    have xA:=zU I.sx (I.M4 a EY) (by decide)
    have xB:=zU I.sx (I.M4 b EZ) (by decide)
    have yA:=zU I.s2 (I.M4 a EY) (by decide)
    have yB:=zU I.s2 (I.M4 b EZ) (by decide)
    have qX:=dz (i:=X) (n:=st_c.next) (by have:=I.vx;omega)
    have q2:=dz (i:=o2) (n:=st_c.next) (by have:=I.v2;omega)
    have qA:=dz (i:=R2 a) (n:=st_c.next) (by have:=I.P0 a EY;omega)
    have qB:=dz (i:=R2 b) (n:=st_c.next) (by have:=I.P0 b EZ;omega)
    rw[aG]at cA cB sA sB
    (try((repeat(revert hN;revert N;apply Pn.out));refine wk (tw @c0 (tw @c9 (tw @jq (tw @nE (tw @lY (tw @hi (tw @xS (tw @QM (tw @N3 (tw @gA (tw @gB (tw @rA (tw @rB (tw @cA (tw @cB (tw @sA (tw @sB (tw @gX (tw @g2 (tw @gC (tw @fo (tw @SI (tw @wA (tw @wB (tw @Rb (tw @l2 (tw @lA (tw @lB (tw @gU (tw @IJ (tw @xA (tw @xB (tw @yA (tw @yB (tw @qX (tw @q2 (tw @qA @qB))))))))))))))))))))))))))))))))))))) ?_;(repeat(refine Pn.mk ?_;intro N hN))))
    refine⟨_,?_,i+1,rfl,by omega,by omega,sd @Rb,?_,by(try dsimp only);omega⟩
    ·omega
    ·rw[xh]
     refine cM.push I EY EZ nG ?_ ?_ fun j hj h1 h2=>?_
     ·simp only[go_sem, ↓reduceIte,Nat.reduceEqDiff,Nat.reduceAdd,Nat.reduceSub,Nat.reduceLeDiff,reduceCtorEq,gU]
     ·simp only[go_sem, ↓reduceIte,Nat.reduceEqDiff,Nat.reduceAdd,Nat.reduceSub,Nat.reduceLeDiff,reduceCtorEq,gU]
     ·simp only[go_sem, ↓reduceIte,Nat.reduceEqDiff,Nat.reduceAdd,Nat.reduceSub,Nat.reduceLeDiff,reduceCtorEq,h1,h2]
   ·have Gi:i=p.length:=by omega
    subst Gi
    rw[List.take_length]at cM
    have OA:IntKind.i64.wrap ((k:Int)+1)=((k+1:Nat):Int):=az (by omega)
    have T3:=Tq.bound (S:=fun v=>decide (v=x)) hxS hyS
    (try((repeat(revert hN;revert N;apply Pn.out));refine wk (tw @c0 (tw @c9 (tw @jq (tw @nE (tw @lY (tw @hi @OA)))))) ?_;(repeat(refine Pn.mk ?_;intro N hN))))
    refine⟨_,?_,k+1,_,rfl,sd @OA,by rw[Int.natCast_add];exact Tq,cM,by(try dsimp only);omega,fun _=>by omega,fun u v=>?_⟩
    ·rw[<-UA]at T3;omega
    ·have h1:=(lT p f u v).2
     have h2:=blo u v
     rw[Int.natCast_add,Int.add_mul]
     omega
end Go.Proofs.YtgoelphibofcmaaGreat.V

namespace Go.Proofs.YtgoelphibofcmaaGreat.V
open Go.RowKit
attribute [local irreducible] eb wpOps gj Call
attribute [local go_sem] aJ fM eP fZ fY cL upd cu K.av cN AV.cells AV.cell rowOf rowsOf part ld rowAt bI bW dD ee gT bL dc ev fU eY dr ej da cZ dO dR bR aX cR bQ cV cU eh ek ei cQ bV db ef bP aP cX cE gS bw cJ bU aW dx bj dE AV.undef bD bF dV ec dI dS cF eu eB cD ep eo cW cY List.getD_cons_zero List.getD_cons_succ List.getD_nil List.all_cons List.all_nil Bool.and_true Bool.true_and Bool.and_self Bool.not_true Bool.not_false Option.map_some Option.map_none Option.bind_some Option.bind_none List.length_cons List.length_nil List.take_succ_cons List.take_zero List.take_nil List.drop_succ_cons List.drop_zero List.drop_nil List.head?_cons List.map_cons List.map_nil List.getElem?_cons_zero List.getElem?_cons_succ List.cons_append List.nil_append List.append_nil List.length_map List.set_cons_zero List.set_cons_succ Nat.reduceMul eq_self Int.toNat_natCast Int.natCast_nonneg and_self true_and and_true decide_true decide_false Bool.false_eq_true Nat.zero_add Nat.add_zero List.contains_cons List.contains_nil Bool.or_false Bool.false_or beq_self_eq_true Nat.reduceBEq ne_eq not_true_eq_false not_false_eq_true Id.mk.injEq false_and and_false Nat.reduceLT Int.reduceLE Int.reduceLT Int.reduceToNat Int.reduceNeg Int.reduceAdd Nat.le_refl List.length_append beq_true beq_false Bool.not_eq_eq_eq_not or_false false_or dM aj aq aH bd bz ck aU bf aT aZ cP bH
noncomputable def tq (n:Nat) (bs:List PB) (t:Int):Bool:=@decide (kC n bs t) (Classical.propDecidable _)
theorem xX {n:Nat} {bs:List PB} {t:Int} (h:kC n bs t):true=tq n bs t:=by simp[tq,h]
theorem Bg {n:Nat} {bs:List PB} {t:Int} (h:¬kC n bs t):false=tq n bs t:=by simp[tq,h]
theorem K9 (cnt:Nat) (hn:cnt<=1048576) (bs:List PB) (hb:∀b∈bs,b.a<cnt/\b.b<cnt) (dH:∀b∈bs,0<=b.s/\b.s<=4) (nH:bs.length<=1048576) (t:Int) (ht:t<=1099511627776):
  ar Tryz.prog 223 [.int .i64 cnt,.sl (bs.map aA),.int .i64 t] (.bool (tq cnt bs t)):=by
 refine ar.body eJ rfl fun hl n0=>?_
 clear hl
 have qo:=zN bs (fun _ _=>0) (fun b h=>(dH b h).1) (fun _ _=>Int.le_refl _)
 have hle:=room_le bs (fun _ _=>0) 0 (fun b h=>(dH b h).2) (fun _ _=>Int.le_refl _) (Int.le_refl _)
 have fP:bs.foldl nC (fun _ _=>0)=kV bs:=rfl
 rw[fP]at qo hle
 (try((repeat(revert hN;revert N;apply Pn.out));refine wk @Nat.zero_add ?_;(repeat(refine Pn.mk ?_;intro N hN))))
 refine aO (fun m env st=>∃y:Nat,m=cnt+1-y/\1<=y/\env 7=.int .i64 (y:Int)/\y<=cnt+1/\∀z,1<=z->z<y->z<cnt->∀S:Nat->Bool,S 0=true->S z=false->t<=iW S bs) (cnt+1-1) ⟨1,rfl,Nat.le_refl _,by(simp only[go_sem, ↓reduceIte,Nat.reduceEqDiff,Nat.reduceAdd,Nat.reduceSub,Nat.reduceLeDiff,reduceCtorEq])<;>rfl,by omega,fun z h1 h2=>by omega⟩ ?_
 rintro m env_b st_b ⟨y,rfl,Rf,b7,hyl,dL⟩ bkp
 have b0:=bkp 0 (by kernel_rfl)
 have b1:=bkp 1 (by kernel_rfl)
 have b2:=bkp 2 (by kernel_rfl)
 simp only[go_sem, ↓reduceIte,Nat.reduceEqDiff,Nat.reduceAdd,Nat.reduceSub,Nat.reduceLeDiff,reduceCtorEq]at b0 b1 b2
 clear bkp
 by_cases hy:(y:Int)<(cnt:Int)
 ·have hyn:y<cnt:=by omega
  (try((repeat(revert hN;revert N;apply Pn.out));refine wk (tw @b0 (tw @b1 (tw @b2 (tw @b7 @hy)))) ?_;(repeat(refine Pn.mk ?_;intro N hN))))
  refine .inr (aL _ _ _ _ _ (fun r σ1 hq=>?_) (BZ cnt (by omega) hn bs hb dH nH _))
  obtain⟨X,o1,o2,R1,R2,rfl,I,K5,hM,_⟩:=hq
  refine hN _ _ ?_
  clear hN N
  (try((repeat(revert hN;revert N;apply Pn.out));refine wk (tw @b0 (tw @b1 (tw @b2 @b7))) ?_;(repeat(refine Pn.mk ?_;intro N hN))))
  have hsd:=OS cnt (by omega) hn (kV bs) (fun u v _ _=>⟨qo u v,by have:=hle u v;omega⟩) 0 y (by omega) hyn (by omega) t ht X o1 o2 R1 R2 σ1.next I
  refine .inr (aL _ _ _ _ _ (fun r σ2 hq=>?_) (hsd _ hM (by(try dsimp only);omega)))
  obtain⟨val,rfl,sK,mL⟩:=hq
  refine hN _ _ ?_
  clear hN N
  by_cases dP:val<t
  ·(try((repeat(revert hN;revert N;apply Pn.out));refine wk (tw @b0 (tw @b1 (tw @b2 (tw @b7 @dP)))) ?_;(repeat(refine Pn.mk ?_;intro N hN))))
   obtain⟨S,h1,h2,h3⟩:=sK.1 dP
   rw[AN hb]at h3
   exact aQ (b:=false) (.inl rfl) (sd @Nat.zero_add) (Bg fun h=>by have:=h S h1 ⟨y,hyn,h2⟩;omega)
  ·have hw:IntKind.i64.wrap ((y:Int)+1)=((y+1:Nat):Int):=az (by omega)
   (try((repeat(revert hN;revert N;apply Pn.out));refine wk (tw @b0 (tw @b1 (tw @b2 (tw @b7 (tw @dP @hw))))) ?_;(repeat(refine Pn.mk ?_;intro N hN))))
   refine⟨_,?_,y+1,rfl,by omega,sd (tw @b7 @hw),by omega,fun z h1 h2 h3 S NY KY=>?_⟩
   ·omega
   ·by_cases hzy:z=y
    ·subst hzy
     rcases Int.lt_or_le (iW S bs) t with h|h
     ·exact absurd (sK.2 ⟨S,NY,KY,by rw[AN hb];exact h⟩) dP
     ·exact h
    ·exact dL z h1 (by omega) h3 S NY KY
 ·(try((repeat(revert hN;revert N;apply Pn.out));refine wk (tw @b0 (tw @b1 (tw @b2 (tw @b7 @hy)))) ?_;(repeat(refine Pn.mk ?_;intro N hN))))
  exact aQ (b:=true) (.inl rfl) (sd @Nat.zero_add) (xX fun S h0 ⟨z,hz,hzf⟩=>by
   have:z≠0:=by rintro rfl;rw[h0]at hzf;cases hzf
   exact dL z (by omega) (by omega) hz S h0 hzf)
theorem IK (cnt:Nat) (hn:cnt<=1048576) (bs:List PB) (hb:∀b∈bs,b.a<cnt/\b.b<cnt) (dH:∀b∈bs,0<=b.s/\b.s<=4) (nH:bs.length<=1048576) (t:Int) (ht:t<=1099511627776):
  ar Tryz.prog 223 [.int .i64 cnt,zR bs,.int .i64 t] (.bool (tq cnt bs t)):=by
 have h:=K9 cnt hn bs hb dH nH t ht
 cases bs with
 |nil=>exact h.cut mixed (.same _ (.cr (.same _ .nil)))
 |cons b r=>rw[zS (by simp)];exact h
end Go.Proofs.YtgoelphibofcmaaGreat.V

namespace Go.Proofs.YtgoelphibofcmaaGreat.V
open Go.RowKit
attribute [local irreducible] eb wpOps gj Call
attribute [local go_sem] aJ fM eP fZ fY cL upd cu K.av cN AV.cells AV.cell rowOf rowsOf part ld rowAt bI bW dD ee gT bL dc ev fU eY dr ej da cZ dO dR bR aX cR bQ cV cU eh ek ei cQ bV db ef bP aP cX cE gS bw cJ bU aW dx bj dE AV.undef bD bF dV ec dI dS cF eu eB cD ep eo cW cY List.getD_cons_zero List.getD_cons_succ List.getD_nil List.all_cons List.all_nil Bool.and_true Bool.true_and Bool.and_self Bool.not_true Bool.not_false Option.map_some Option.map_none Option.bind_some Option.bind_none List.length_cons List.length_nil List.take_succ_cons List.take_zero List.take_nil List.drop_succ_cons List.drop_zero List.drop_nil List.head?_cons List.map_cons List.map_nil List.getElem?_cons_zero List.getElem?_cons_succ List.cons_append List.nil_append List.append_nil List.length_map List.set_cons_zero List.set_cons_succ Nat.reduceMul eq_self Int.toNat_natCast Int.natCast_nonneg and_self true_and and_true decide_true decide_false Bool.false_eq_true Nat.zero_add Nat.add_zero List.contains_cons List.contains_nil Bool.or_false Bool.false_or beq_self_eq_true Nat.reduceBEq ne_eq not_true_eq_false not_false_eq_true Id.mk.injEq false_and and_false Nat.reduceLT Int.reduceLE Int.reduceLT Int.reduceToNat Int.reduceNeg Int.reduceAdd Nat.le_refl List.length_append beq_true beq_false Bool.not_eq_eq_eq_not or_false false_or dM aj aq aH bd bz ck aU bf aT aZ cP bH
def CE:Prop:=∀(s:aw) (l:List ae),iA s->kz s l->ar Tryz.prog 222 [.agg (aa s),.agg [.sl (l.map ad)]] (zR (cG s l))
noncomputable def uo (s:aw) (l:List ae) (t:Int):Bool:=if 64<ib s l t then false else tq (ib s l t) (du (eA (aI t (cG s l))) (cG s l)) t
theorem DF (s:aw) (l:List ae) (t:Int):uo s l t=nA s l t:=by
 letI:=Classical.propDecidable (oX l.length (cG s l) t)
 unfold uo
 by_cases h:64<ib s l t
 ·rw[if_pos h]
  exact(mb (p:=False) ⟨False.elim,fun k=>by have:=k.1;unfold ib at h;omega⟩).symm.trans (by simp) |>.symm
 ·rw[if_neg h]
  by_cases hp:kC (ib s l t) (du (eA (aI t (cG s l))) (cG s l)) t
  ·rw[<-xX hp]
   exact((mb (p:=True) ⟨fun _=>⟨by unfold ib at h;omega,hp⟩,fun _=>trivial⟩).symm.trans (by simp)).symm
  ·rw[<-Bg hp]
   exact((mb (p:=False) ⟨False.elim,fun k=>hp k.2⟩).symm.trans (by simp)).symm
theorem JH (Tm:CE) (s:aw) (l:List ae) (t:Int) (ht:t<=1099511627776) (h1:1<=l.length) (hS:iA s) (hA:kz s l):ar Tryz.prog 197 [.agg (aa s),.agg [.sl (l.map ad)],.int .i64 t] (.iF [.bool (nA s l t),.bool (decide ¬64<ib s l t)]):=by
 rw[<-DF]
 refine ar.body eJ rfl fun hl n0=>?_
 clear hl
 have hb:=xC (l:=l) hS
 have nH:=p7 (s:=s) hA.1
 have Gf:=hA.1.Cu
 have xQ:=Tm s l hS hA
 have QF:=yW l.length h1 (by omega) (cG s l) (fun b h=>⟨(hb b h).1,(hb b h).2.1⟩) (by omega) t
 have hL:=tx (aI t (cG s l))
 have fI:=Ec hL (fun b h=>⟨(hb b h).1,(hb b h).2.1⟩)
 have hlen:=(nf (eA (aI t (cG s l))) (cG s l)).1
 have mK:=jF l.length (eA (aI t (cG s l)))
 have hho:=IK (ib s l t) (by unfold ib;omega) (du (eA (aI t (cG s l))) (cG s l)) (fun b h=>⟨(fI b h).1,(fI b h).2.1⟩) (fun b h=>by
  obtain⟨_,_,_,c,hc,dt⟩:=fI b h
  rw[dt];have:=hb c hc;omega) (by omega) t ht
 have e9:(l.map ad).length=l.length:=by simp
 have hzB:∀(g:Rows) (n:Nat) (bs:List PB),V.fz g (n+1) (zR bs)=some (zR bs):=fun g n bs=>by
  unfold zR;split
  ·exact aU _ _
  ·exact ck _ _ _
 rw[aa]at xQ
 rw[<-ib]at QF
 have wU:∀(g:Rows) (x:Int),cK (dM g) 6 [.int .i64 l.length,zR (cG s l),.int .i64 x]=some [.int .i64 l.length,zR (cG s l),.int .i64 x]:=fun g x=>by simp only[aj,aq,aH,hzB,Option.map_some]
 have hzh:∀(g:Rows) (x y:Int),cK (dM g) 6 [.int .i64 x,zR (du (eA (aI t (cG s l))) (cG s l)),.int .i64 y]=some [.int .i64 x,zR (du (eA (aI t (cG s l))) (cG s l)),.int .i64 y]:=fun g x y=>by simp only[aj,aq,aH,hzB,Option.map_some]
 generalize zR (cG s l)=B1 at *
 generalize zR (du (eA (aI t (cG s l))) (cG s l))=B2 at *
 by_cases tR:(64:Int)<(ib s l t:Int)
 ·have tT:64<ib s l t:=by omega
  (repeat(first|((repeat(revert hN;revert N;apply Pn.out));refine wk (tw @aa.eq_1 (tw @tR @e9)) ?_;(repeat(refine Pn.mk ?_;intro N hN)))|((try apply Or.inl);refine⟨_,ar.x (xQ) (sd (tw @aa.eq_1 (tw @tR @e9))),?_⟩;refine hN _ _ ?_;clear hN N)))
  refine⟨_,ar.x QF (wU _ _),?_⟩
  refine hN _ _ ?_
  clear hN N
  (try((repeat(revert hN;revert N;apply Pn.out));refine wk @tR ?_;(repeat(refine Pn.mk ?_;intro N hN))))
  exact jn (.inl rfl) (r1:=.bool false) (r2:=.bool false) (sd @Nat.zero_add) (sd @Nat.zero_add) (by rw[uo,if_pos tT,decide_eq_false fun h=>h tT];simp only[e8,bE,cw,fH,Option.map_some])
 ·have tT:¬64<ib s l t:=by omega
  (repeat(first|((repeat(revert hN;revert N;apply Pn.out));refine wk (tw @aa.eq_1 (tw @tR @e9)) ?_;(repeat(refine Pn.mk ?_;intro N hN)))|((try apply Or.inl);refine⟨_,ar.x (xQ) (sd (tw @aa.eq_1 (tw @tR @e9))),?_⟩;refine hN _ _ ?_;clear hN N)))
  refine⟨_,ar.x QF (wU _ _),?_⟩
  refine hN _ _ ?_
  clear hN N
  (try((repeat(revert hN;revert N;apply Pn.out));refine wk @tR ?_;(repeat(refine Pn.mk ?_;intro N hN))))
  refine .inl ⟨_,ar.x hho (hzh _ _ _),?_⟩
  refine hN _ _ ?_
  clear hN N
  (try((repeat(revert hN;revert N;apply Pn.out));refine wk @Nat.zero_add ?_;(repeat(refine Pn.mk ?_;intro N hN))))
  exact jn (.inl rfl) (r1:=.bool (tq (ib s l t) (du (eA (aI t (cG s l))) (cG s l)) t)) (r2:=.bool true) (sd @Nat.zero_add) (sd @Nat.zero_add) (by rw[uo,if_neg tT,decide_eq_true tT];simp only[e8,bE,cw,fH,Option.map_some])
theorem tY (t:Int):ar Tryz.prog 196 [.int .i64 t] (.bool (iJ t 1 16)):=by
 refine ar.body eJ rfl fun hl n0=>?_
 clear hl
 have h:=k5 t 1 16
 (repeat(first|((repeat(revert hN;revert N;apply Pn.out));refine wk @Nat.zero_add ?_;(repeat(refine Pn.mk ?_;intro N hN)))|((try apply Or.inl);refine⟨_,ar.x (h) (sd @Nat.zero_add),?_⟩;refine hN _ _ ?_;clear hN N)))
 exact aQ (b:=iJ t 1 16) (.inl rfl) (sd @Nat.zero_add) rfl
theorem wZ (Tm:CE) (s:aD) (hn:gD s.aB) (hg:s.aB.ax.length<=1048576) (ht:s.aB.ah.length<=1048576) (hs:∀t∈s.aB.ah,t.br.length<=1048576) (hl:s.cq.ah.length<=1048576):ar Tryz.prog 105 [.agg (aC s)] (.bool (ni s)):=by
 refine ar.body eJ rfl fun mM n0=>?_
 clear mM
 by_cases h0:(s.cq.ah.length:Int)=0
 ·have hd:decide ((s.cq.ah.length:Int)=0)=true:=decide_eq_true h0
  (try((repeat(revert hN;revert N;apply Pn.out));refine wk (tw @aC.eq_1 @hd) ?_;(repeat(refine Pn.mk ?_;intro N hN))))
  exact aQ (b:=false) (.inl rfl) (sd @Nat.zero_add) (jO fun h=>by have:=h.some;omega)
 have hd:decide ((s.cq.ah.length:Int)=0)=false:=decide_eq_false h0
 have NZ:=ns s.aB s.cq.ah hn hg ht hs hl
 have Qw:=tY s.ay
 have key:ar Tryz.prog 163 [.agg (aa s.aB),.agg [.sl (s.cq.ah.map ad)],.int .i64 s.ay] (.iF [.bool (ni s),.int .i64 (if qJ s.aB&&pr s.aB s.cq.ah then(if iJ s.ay 1 16 then(if 64<ib s.aB s.cq.ah s.ay then 4 else 0)else 2)else 1)]):=by
  refine ar.body eJ rfl fun mM n0=>?_
  clear mM
  rw[aa]at NZ
  cases hA:qJ s.aB&&pr s.aB s.cq.ah
  ·rw[hA]at NZ
   have la:ni s=false:=(jO fun h=>by rw[ma.2 h.set,lR.2 h.OR]at hA;cases hA).symm
   (repeat(first|((repeat(revert hN;revert N;apply Pn.out));refine wk @aa.eq_1 ?_;(repeat(refine Pn.mk ?_;intro N hN)))|((try apply Or.inl);refine⟨_,ar.x (NZ) (sd @aa.eq_1),?_⟩;refine hN _ _ ?_;clear hN N)))
   exact jn (.inl rfl) (r1:=.bool false) (r2:=.int .i64 1) (sd @Nat.zero_add) (sd @Nat.zero_add) (by rw[la];simp only[e8,bE,cw,fH,eH,Option.map_some];rfl)
  rw[hA]at NZ
  simp only[Bool.and_eq_true]at hA
  have hS:=ma.1 hA.1
  have hP:=lR.1 hA.2
  cases hT:iJ s.ay 1 16
  ·rw[hT]at Qw
   have la:ni s=false:=(jO fun h=>by have:=h.Md;rw[hT]at this;cases this).symm
   (repeat(first|((repeat(revert hN;revert N;apply Pn.out));refine wk @aa.eq_1 ?_;(repeat(refine Pn.mk ?_;intro N hN)))|((try apply Or.inl);refine⟨_,ar.x (NZ) (sd @aa.eq_1),?_⟩;refine hN _ _ ?_;clear hN N)|((try apply Or.inl);refine⟨_,ar.x (Qw) (sd @aa.eq_1),?_⟩;refine hN _ _ ?_;clear hN N)))
   exact jn (.inl rfl) (r1:=.bool false) (r2:=.int .i64 2) (sd @Nat.zero_add) (sd @Nat.zero_add) (by rw[la];simp only[e8,bE,cw,fH,eH,Option.map_some];rfl)
  have Lk:=ea hT
  rw[hT]at Qw
  have dH:=JH Tm s.aB s.cq.ah s.ay (by omega) (by omega) hS hP
  rw[aa]at dH
  have hsy:ni s=nA s.aB s.cq.ah s.ay:=by
   cases hB:nA s.aB s.cq.ah s.ay
   ·exact(jO fun h=>by have:=pe.2 h.holds;rw[hB]at this;cases this).symm
   ·exact(Ch ⟨hS,hP,by omega,hT,pe.1 hB⟩).symm
  by_cases tR:64<ib s.aB s.cq.ah s.ay
  ·rw[decide_eq_false fun h=>h tR]at dH
   have la:ni s=false:=(jO fun h=>by have:=h.holds.1;unfold ib at tR;omega).symm
   (repeat(first|((repeat(revert hN;revert N;apply Pn.out));refine wk @aa.eq_1 ?_;(repeat(refine Pn.mk ?_;intro N hN)))|((try apply Or.inl);refine⟨_,ar.x (NZ) (sd @aa.eq_1),?_⟩;refine hN _ _ ?_;clear hN N)|((try apply Or.inl);refine⟨_,ar.x (Qw) (sd @aa.eq_1),?_⟩;refine hN _ _ ?_;clear hN N)|((try apply Or.inl);refine⟨_,ar.x (dH) (sd @aa.eq_1),?_⟩;refine hN _ _ ?_;clear hN N)))
   exact jn (.inl rfl) (r1:=.bool false) (r2:=.int .i64 4) (sd @Nat.zero_add) (sd @Nat.zero_add) (by rw[la,if_pos tR];simp only[e8,bE,cw,fH,eH,Option.map_some])
  ·rw[decide_eq_true tR,<-hsy]at dH
   (repeat(first|((repeat(revert hN;revert N;apply Pn.out));refine wk @aa.eq_1 ?_;(repeat(refine Pn.mk ?_;intro N hN)))|((try apply Or.inl);refine⟨_,ar.x (NZ) (sd @aa.eq_1),?_⟩;refine hN _ _ ?_;clear hN N)|((try apply Or.inl);refine⟨_,ar.x (Qw) (sd @aa.eq_1),?_⟩;refine hN _ _ ?_;clear hN N)|((try apply Or.inl);refine⟨_,ar.x (dH) (sd @aa.eq_1),?_⟩;refine hN _ _ ?_;clear hN N)))
   exact jn (.inl rfl) (r1:=.bool (ni s)) (r2:=.int .i64 0) (sd @Nat.zero_add) (sd @Nat.zero_add) (by rw[if_neg tR];simp only[e8,bE,cw,fH,eH,Option.map_some])
 generalize hcode:(if qJ s.aB&&pr s.aB s.cq.ah then(if iJ s.ay 1 16 then(if 64<ib s.aB s.cq.ah s.ay then(4:Int)else 0)else 2)else 1)=code at key
 rw[aa]at key
 cases hB:ni s
 ·rw[hB]at key
  (repeat(first|((repeat(revert hN;revert N;apply Pn.out));refine wk (tw @aC.eq_1 @hd) ?_;(repeat(refine Pn.mk ?_;intro N hN)))|((try apply Or.inl);refine⟨_,ar.x (key) (sd (tw @aC.eq_1 @hd)),?_⟩;refine hN _ _ ?_;clear hN N)))
  exact aQ (b:=false) (.inl rfl) (sd @Nat.zero_add) rfl
 ·rw[hB]at key
  have hP:=wH.1 hB
  have hc:code=0:=by
   rw[<-hcode,ma.2 hP.set,lR.2 hP.OR,hP.Md]
   have:=hP.holds.1
   simp only[Bool.and_self,if_true]
   rw[if_neg (by unfold ib;omega)]
  rw[hc]at key
  (repeat(first|((repeat(revert hN;revert N;apply Pn.out));refine wk (tw @aC.eq_1 @hd) ?_;(repeat(refine Pn.mk ?_;intro N hN)))|((try apply Or.inl);refine⟨_,ar.x (key) (sd (tw @aC.eq_1 @hd)),?_⟩;refine hN _ _ ?_;clear hN N)))
  exact aQ (b:=true) (.inl rfl) (sd @Nat.zero_add) rfl
end Go.Proofs.YtgoelphibofcmaaGreat.V

namespace Go.Proofs.YtgoelphibofcmaaGreat.V
open Go.RowKit Go.Shelf
attribute [local go_sem] Oper.semAt_some
def gV (n₀:Nat) (W W':World):Prop:=W.heap.size<=W'.heap.size/\(∀(b:Nat) (cells:Array Value) (T:TypeId) (fr:Nat×Nat),W.heap[b]? =some (Obj.cells cells T fr)->T≠226->T≠246->W'.heap[b]? =W.heap[b]?)/\∀k,k<n₀->k<W.heap.size->W'.heap[k]? =W.heap[k]?
theorem gV.trans {n₀:Nat} {A B C:World} (h:gV n₀ A B) (k:gV n₀ B C):gV n₀ A C:=⟨Nat.le_trans h.1 k.1,fun b cells T fr hb h1 h2=>by
 have e:=h.2.1 b cells T fr hb h1 h2
 rw[<-e]at hb ⊢
 exact k.2.1 b cells T fr hb h1 h2,fun b hb hs=>(k.2.2 b hb (Nat.lt_of_lt_of_le hs h.1)).trans (h.2.2 b hb hs)⟩
theorem gV.of {n₀:Nat} {W W':World} (h:Below W.heap.size W W'):gV n₀ W W':=⟨h.size,fun b cells T fr hb _ _=>h.block b (Array.getElem?_eq_some_iff.1 hb).1,fun k _ hs=>h.block k hs⟩
theorem gV.refl (n₀:Nat) (W:World):gV n₀ W W:=⟨Nat.le_refl _,fun _ _ _ _ _ _ _=>rfl,fun _ _ _=>rfl⟩
theorem gV.b {n₀ m:Nat} (hm:n₀<=m) (W:World) (l:Nat) (o o':Obj) (hl:m<=l) (h:W.heap[l]? =some o) (hc:o.isCells=false) (_:o.isWalk=false):gV n₀ W (W.putObj l o'):=by
 refine⟨by simp,fun b cells T fr hb _ _=>?_,fun k hk _=>World.putObj_heap_other (by omega)⟩
 by_cases nH:b=l
 ·subst nH;rw[h]at hb;cases hb;cases hc
 ·exact World.putObj_heap_other nH
def KD (bs:List PB):List Value:=bs.flatMap fun b=>[.int .i64 b.a,.int .i64 b.b,.int .i64 b.s]
theorem HV (bs:List PB) (b:PB):KD (bs++[b])=KD bs++[.int .i64 b.a,.int .i64 b.b,.int .i64 b.s]:=by simp[KD]
def nD (s:aw) (l:List ae) (pre:List (Na l)):List PB:=(pre.map (·.1)).flatMap (yR s l)
theorem xx (s:aw) (l:List ae) (pre:List (Na l)) (x:Na l):nD s l (pre++[x])=nD s l pre++yR s l x.1:=by simp[nD]
theorem HU (s:aw) (l:List ae) (x:Nat×Nat×Int):(yR s l x).length<=1:=by
 unfold yR;split<;>simp
theorem HW (s:aw) (l:List ae) (pre:List (Na l)):(nD s l pre).length<=pre.length:=by
 unfold nD
 induction pre with
 |nil=>simp
 |cons x r ih=>
  have:=HU s l x.1
  simp only[List.map_cons,List.flatMap_cons,List.length_append,List.length_cons]at ih ⊢
  omega
theorem yl (l:List ae) (i:Nat):∀m,(kN l i m).length<=m
 |0=>by simp[kN]
 |m+1=>by
  rw[mT,List.length_append]
  have:=yl l i m
  have:(BW l i (1-(m:Int))).length<=1:=by unfold BW;split<;>simp
  omega
theorem BY (l:List ae):∀n,(lh l n).length<=n*2
 |0=>by simp[lh]
 |n+1=>by
  rw[l6,List.length_append]
  have:=BY l n
  have:=yl l n 2
  omega
theorem Bc {β:Type} (B:Nat) (c:Array Value) (t:TypeId) (fr:Nat×Nat):Own (fun(_:β) W=>W.heap[B]? =some (.cells c t fr)):=fun _ X _ row h hg hr=>(hg.block B (Array.getElem?_eq_some_iff.1 h).1 (fun e=>by
 obtain⟨o,ho,hc⟩:=hr B e.symm
 rw[h]at ho;cases ho;cases hc)).trans h
theorem gV.app {n₀:Nat} {W w1:World} {B k:Nat} {v v':Value} {xs:List Value} {tmp:Obj} (hv:Boxed W B 226 v) (e9:W.ownsRow n₀ 246 3 v k xs) (xR:(W.alloc tmp).grownBy w1 v.ownBlock) (hb:Below n₀ W (w1.setCell ⟨B,0,none⟩ v')):gV n₀ W (w1.setCell ⟨B,0,none⟩ v'):=by
 refine⟨hb.size,fun b cells T fr h h1 h2=>?_,fun k hk _=>hb.block k hk⟩
 have dP:=(Array.getElem?_eq_some_iff.1 h).1
 have hbB:b≠B:=by
  rintro rfl
  rw[show W.heap[b]? = _ from hv]at h
  cases h
  exact h1 rfl
 have Sh:some b≠v.ownBlock:=by
  rcases e9.2 with⟨rfl,_⟩|⟨g,cap,cur,rfl,_,hg,_⟩
  ·simp[Value.ownBlock]
  ·intro e
   obtain rfl:b=g:=by simpa[Value.ownBlock]using e
   rw[hg]at h;cases h
   exact h2 rfl
 refine(Below.heap_setCell w1 ⟨B,0,none⟩ v' b hbB).trans ?_
 exact(xR.block b (by simp;omega) Sh).trans (Below.heap_alloc W tmp b dP)
theorem Rk {w:World} {vS:Value} {l:List ae} (hP:pq w vS l):HH (gV w.heap.size) vS l where
 refl:=gV.refl _
 trans:=gV.trans
 of:=gV.of
 size h:=h.1
 typed h:=h.2.1
 pl {W W'} h hp:=by
  obtain⟨A,c,rfl,hm,hc⟩:=hp.sl
  refine⟨A,c,rfl,hm,?_⟩
  by_cases hl:l=[]
  ·exact .inl hl
  have lf:0<l.length:=List.length_pos_iff.2 hl
  rcases hc with h0|⟨b,o,rfl,kb⟩
  ·exact absurd h0 hl
  obtain⟨A',c',e,_,j6⟩:=hP.sl
  cases e
  rcases j6 with h0|⟨b',o',e,hcell'⟩
  ·exact absurd h0 hl
  cases e
  have hb:=uf (hcell' 0 lf).1
  have hk:=h.2.2 b hb (uf (kb 0 lf).1)
  refine .inr ⟨b,o,rfl,fun i hi=>?_⟩
  have zd:∀x,W'.cell? ⟨b,x,none⟩=W.cell? ⟨b,x,none⟩:=fun x=>World.cell?_of_block hk
  rw[zd,zd,zd]
  exact kb i hi
theorem rrE {P:Program} {nt site0:Nat} {ops:Array Oper} {vl:List bq} (_:yS P ops site0 false (jr ops) (rL P false ops.toList 0) ops.toList 0=some vl:=by(conv=>lhs;cbv)<;>exact rfl) (h:re P nt site0 ops true false=some vl:=by kernel_rfl):re P nt site0 ops true false=some vl:=h
theorem I8 (l:List Value) (d:Value):l=(List.range l.length).map fun i=>(⟨l⟩:Array Value).getD i d:=by
 refine List.ext_getElem (by simp) fun i h1 h2=>?_
 simp[h1]
theorem DX {X:fA} {d:Bool} {ops:List bq} {K:Env->au->Prop} {env:Env} {σ:au} (h:eb X (.eQ d ops) (fun _=>K) env σ):wpOps X d ops K env σ:=h
theorem uR (W:World) (T:TypeId) (x y z:Value):∀(j:Nat) (u:Value),[x,y,z][j]? =some u->(W.alloc (.cells #[x,y,z] T)).cell? ((⟨W.heap.size,0,none⟩:Addr).add j)=some u:=fun j u h=>by
 have hb:(W.alloc (.cells #[x,y,z] T)).heap[W.heap.size]? =some (.cells #[x,y,z] T (0,0)):=World.alloc_heap_new _ _
 have e:∀k,(W.alloc (.cells #[x,y,z] T)).cell? ⟨W.heap.size,k,none⟩=(#[x,y,z]:Array Value)[k]? :=fun k=>by
  unfold World.cell?
  rw[show(W.alloc (.cells #[x,y,z] T)).heap[(⟨W.heap.size,k,none⟩:Addr).block]? = _ from hb]
  rfl
 rw[show(⟨W.heap.size,0,none⟩:Addr).add j=⟨W.heap.size,j,none⟩ by simp[Addr.add];exact fun h=>h.symm,e]
 simpa using h
def H4 (n b:Nat):Names:=fun id=>if id=⟨1,0⟩then some ⟨n,2,2,none⟩else if id=⟨2,0⟩then some ⟨n+1,1,1,none⟩else if id=⟨3,0⟩then some ⟨n+1+1,1,1,none⟩else if id=⟨4,0⟩then some ⟨b,2,2,none⟩else if id=⟨5,0⟩then some ⟨n+1+1+1,1,1,none⟩else none
def Mx (s:aw) (l:List ae) (i k:Nat):Rows:=fun id=>if id=⟨1,0⟩then some ⟨false,2,[aa s]⟩else if id=⟨2,0⟩then some ⟨false,1,[[.sl (l.map ad)]]⟩else if id=⟨4,0⟩then some ⟨false,2,[[.int .i64 (i:Int),.int .i64 (k:Int)]]⟩else none
def Nu (s:aw) (l:List ae) (i k:Nat) (d:Int):Env:=cu [.agg (aa s),.agg [.sl (l.map ad)],.ptr ⟨1,0⟩ 0 0,.ptr ⟨2,0⟩ 0 0,.cr,.ptr ⟨3,0⟩ 0 0,.ptr ⟨4,0⟩ 0 0,.int .i64 d,.undef,.agg [.sl (l.map ad)],.fn 264 [.ptr ⟨5,0⟩ 0 0],.agg [.int .i64 (i:Int),.int .i64 (k:Int)],.int .i64 d]
theorem D8 {P:Program} {W:World} {D:Nat->Prop} {ι:Names} {B:sk} {cells:Array Value} {T:TypeId} {cs:List AV} (hk:B.k=none) (hb:W.heap[B.b]? =some (.cells cells T (0,0))) (hC:cells.size=B.C) (hz:B.sz=cs.length) (hl:cs.length=cells.size) (hf:∀a∈cs,a.cell=true) (hr:∀(j:Nat) (a:AV),cs[j]? =some a->∃v,cells[j]? =some v/\dd P W D ι a v):gP P W D ι B ⟨false,cs.length,[cs]⟩:=
 kD.obj ⟨hz,⟨cells,T,hb,hC⟩,by simp;omega,fun c hc=>by simp at hc;rw[hc],fun c hc=>by simp at hc;rw[hc];exact hf,fun i j c a hi hj=>by
  match i,hi with
  |0,hi=>
   simp at hi;subst hi
   obtain⟨v,h1,h2⟩:=hr j a hj
   exact⟨v,by simp[World.cell?,hb,h1],h2⟩
  |i+1,hi=>simp at hi⟩ hk
theorem IX:(Tryz.prog.info? 246).map (fun i=>(i.zero,i.size,i.bytes))=some (some (.agg #[.int .i64 0,.int .i64 0,.int .i64 0]),3,24):=by kernel_rfl
end Go.Proofs.YtgoelphibofcmaaGreat.V

namespace Go.Proofs.YtgoelphibofcmaaGreat.V
open Go.RowKit Go.Shelf
attribute [local go_sem] Oper.semAt_some
attribute [local irreducible] eb wpOps gj Call
attribute [local go_sem] aJ fM eP fZ fY cL upd cu K.av cN AV.cells AV.cell rowOf rowsOf part ld rowAt bI bW dD ee gT bL dc ev fU eY dr ej da cZ dO dR bR aX cR bQ cV cU eh ek ei cQ bV db ef bP aP cX cE gS bw cJ bU aW dx bj dE AV.undef bD bF dV ec dI dS cF eu eB cD ep eo cW cY List.getD_cons_zero List.getD_cons_succ List.getD_nil List.all_cons List.all_nil Bool.and_true Bool.true_and Bool.and_self Bool.not_true Bool.not_false Option.map_some Option.map_none Option.bind_some Option.bind_none List.length_cons List.length_nil List.take_succ_cons List.take_zero List.take_nil List.drop_succ_cons List.drop_zero List.drop_nil List.head?_cons List.map_cons List.map_nil List.getElem?_cons_zero List.getElem?_cons_succ List.cons_append List.nil_append List.append_nil List.length_map List.set_cons_zero List.set_cons_succ Nat.reduceMul eq_self Int.toNat_natCast Int.natCast_nonneg and_self true_and and_true decide_true decide_false Bool.false_eq_true Nat.zero_add Nat.add_zero List.contains_cons List.contains_nil Bool.or_false Bool.false_or beq_self_eq_true Nat.reduceBEq ne_eq not_true_eq_false not_false_eq_true Id.mk.injEq false_and and_false Nat.reduceLT Int.reduceLE Int.reduceLT Int.reduceToNat Int.reduceNeg Int.reduceAdd Nat.le_refl List.length_append beq_true beq_false Bool.not_eq_eq_eq_not or_false false_or dM aj aq aH bd bz ck aU bf aT aZ cP bH
theorem H0 (s:aw) (l:List ae) (hF:iU s) (hA:kz s l) (w:World) (Ag At:Option Addr) (ng cg nt ct:Nat) (vS:Value) (hT:jw Tryz.prog w (fun b=>b<w.heap.size) (.agg (aa s)) (.agg #[.slice Ag ng cg,.slice At nt ct])) (hP:pq w vS l):
  CallsIn Fence.wide 5 Tryz.prog 222 #[.agg #[.slice Ag ng cg,.slice At nt ct],.agg #[vS]] w fun e W'=>∃v,e=.returned v/\W'.ownsRow w.heap.size 246 3 v (cG s l).length (KD (cG s l))/\(v=.slice none 0 0↔cG s l=[])/\Below w.heap.size w W':=by
 obtain⟨A,cp,rfl,_,_⟩:=hP.sl
 obtain⟨i0,hi,E8,x7,ki⟩:=info_parts IX
 refine callsIn_of_wp_marks Tryz.func222 rfl trivial ?_ rfl
 simp only[Tryz.ntmps222,List.size_toArray,List.length_cons,List.length_nil,Nat.reduceAdd,Nat.reduceSub,Array.replicate_succ,Array.replicate_zero,List.push_toArray,List.append_toArray,List.nil_append,List.cons_append]
 gi_wp2_with (refine⟨trivial,?_⟩;gi_at_call 244;refine(zD _ _ _).mono ?_;rintro e w' ⟨rfl,rfl⟩)
 have bT:((w.alloc (.cells #[.slice Ag ng cg,.slice At nt ct] 38)).heap[w.heap.size]?)=some (.cells #[.slice Ag ng cg,.slice At nt ct] 38 (0,0)):=World.alloc_heap_new _ _
 obtain⟨w1,mN⟩:∃w1,w.alloc (.cells #[.slice Ag ng cg,.slice At nt ct] 38)=w1:=⟨_,rfl⟩
 have PX:w1.heap.size=w.heap.size+1:=by rw[<-mN];simp
 have Ae:Below w.heap.size w w1:=by rw[<-mN];exact(Below.refl _ w).alloc (Nat.le_refl _) _
 rw[mN]at bT ⊢
 clear mN
 have bA:=Boxed.new w1 41 (.slice A l.length cp)
 have bO:=Boxed.new (w1.alloc (.cells #[.slice A l.length cp] 41)) 226 (.slice none 0 0)
 have bN:=Boxed.new ((w1.alloc (.cells #[.slice A l.length cp] 41)).alloc (.cells #[.slice none 0 0] 226)) 41 (.slice A l.length cp)
 replace bA:=(bA.alloc (.cells #[.slice none 0 0] 226)).alloc (.cells #[.slice A l.length cp] 41)
 replace bO:=bO.alloc (.cells #[.slice A l.length cp] 41)
 simp only[World.size_alloc,PX]at bA bO bN
 have pD:Below w1.heap.size w1 (((w1.alloc (.cells #[.slice A l.length cp] 41)).alloc (.cells #[.slice none 0 0] 226)).alloc (.cells #[.slice A l.length cp] 41)):=(((Below.refl _ w1).alloc (Nat.le_refl _) _).alloc (by simp) _).alloc (by simp;omega) _
 have fb:(((w1.alloc (.cells #[.slice A l.length cp] 41)).alloc (.cells #[.slice none 0 0] 226)).alloc (.cells #[.slice A l.length cp] 41)).heap.size=w.heap.size+4:=by simp;omega
 obtain⟨W0,Qx⟩:∃W0,((w1.alloc (.cells #[.slice A l.length cp] 41)).alloc (.cells #[.slice none 0 0] 226)).alloc (.cells #[.slice A l.length cp] 41)=W0:=⟨_,rfl⟩
 rw[Qx]at bA bO bN pD fb ⊢
 clear Qx
 have wQ:Below w.heap.size w W0:=Ae.trans (pD.mono (by omega))
 replace bT:=(pD.block w.heap.size (by omega)).trans bT
 have hP0:pq W0 (.slice A l.length cp) l:=hP.below wQ
 have kl:=Rk hP
 have nH:=p7 (s:=s) hA.1
 refine wpIn_rangeFunc_ownH (n:=5) rfl (by omega) (gf:=264) (lb:= #[.pointer (some ⟨w.heap.size+1+1+1,0,none⟩)]) rfl trivial (enters_of Tryz.func264 (by kernel_rfl) rfl)
  (Jg l hA.1 (w.heap.size+1+1+1) (5-1) (by omega) (.slice A l.length cp) (gV w.heap.size) kl W0 bN hP0) gV.trans (gV.b (by omega)) (Below.refl _ _) (fun _=>rfl)
  (fun pre W=>((∃v,Boxed W (w.heap.size+1+1) 226 v/\W.ownsRow w.heap.size 246 3 v (nD s l pre).length (KD (nD s l pre))/\(v=.slice none 0 0↔nD s l pre=[]))/\(Boxed W (w.heap.size+1) 41 (.slice A l.length cp)/\W.heap[w.heap.size]? =some (.cells #[.slice Ag ng cg,.slice At nt ct] 38 (0,0))))/\Below w.heap.size w W)
  (fun _ _ _=>False)
  (OwnFrom.and (OwnFrom.and (Own.from (holdsRow_own w.heap.size (w.heap.size+1+1) 226 246 3 (fun pre=>(nD s l pre).length) (fun pre=>KD (nD s l pre)) (fun pre v=>v=.slice none 0 0↔nD s l pre=[])) _) (OwnFrom.and (Own.from (boxed_own _ _ _) _) (Own.from (Bc _ _ _ _) _))) (ownFrom_below (Nat.le_refl _) (by omega)))
  (fun _ _ _ _ _ hs _ _=>hs)
  ⟨⟨⟨_,bO,World.ownsRow_nil _ _ _ _,by simp[nD]⟩,bA,bT⟩,wQ⟩
  (fun x a' W=>∃Bx,w.heap.size+1+1<Bx/\W.heap[Bx]? =some (.cells #[.int .i64 (x.1.1:Int),.int .i64 (x.1.2.1:Int)] 283 (0,0))/\a'={tmps:= #[.agg #[.slice Ag ng cg,.slice At nt ct],.agg #[.slice A l.length cp],.pointer (some ⟨w.heap.size,0,none⟩),.pointer (some ⟨w.heap.size+1,0,none⟩),.slice none 0 0,.pointer (some ⟨w.heap.size+1+1,0,none⟩),.pointer (some ⟨Bx,0,none⟩),.int .i64 x.1.2.2,undef,.agg #[.slice A l.length cp],.func (.func 264) #[] #[.pointer (some ⟨w.heap.size+1+1+1,0,none⟩)],.agg #[.int .i64 (x.1.1:Int),.int .i64 (x.1.2.1:Int)],.int .i64 x.1.2.2,undef,undef,undef,undef,undef,undef,undef,undef,undef,undef,undef,undef,undef,undef,undef,undef,undef,undef,undef,undef,undef,undef,undef,undef,undef,undef,undef,undef,undef],defers:=[]})
  (fun x a' _ X Y row hs hg hr=>by obtain⟨Bx,h1,h2,h3⟩:=hs;exact⟨Bx,h1,Bc Bx _ _ _ () X Y row h2 hg (fun r e=>(hr r e).2),h3⟩)
  ?assign ?body ?done ?stop
 case assign=>
  rintro q pre ⟨⟨x0,x1,x2⟩,hx⟩ W K ⟨⟨⟨v,hv,e9,hnil⟩,bA1,bT1⟩,hB⟩ hK
  simp only[ER]
  gi_wp2
  exact hK _ _ ((KeepsOthers.alloc _ _).from _) (gV.of ((Below.refl _ W).alloc (Nat.le_refl _) _)) ⟨⟨⟨v,hv.alloc _,e9.alloc _,hnil⟩,bA1.alloc _,(Below.heap_alloc _ _ _ (Array.getElem?_eq_some_iff.1 bT1).1).trans bT1⟩,hB.alloc hB.size _⟩ ⟨W.heap.size,hv.lt,World.alloc_heap_new _ _,rfl⟩
 case body=>
  rintro q pre ⟨⟨x0,x1,x2⟩,hx⟩ a' W hq hqr ⟨⟨⟨v,hv,e9,hnil⟩,bA1,bT1⟩,hB⟩ ⟨Bx,hBx,bX,rfl⟩ dP
  obtain⟨CB,IW,Ak⟩:=hx
  simp only at CB IW Ak bX
  obtain⟨A',c',e',_,hc⟩:=(hP.below hB).sl
  cases e'
  have dt:∃b o,A=some ⟨b,o,none⟩/\W.cell? ⟨b,o+x0*3+2,none⟩=some (.int .i64 (aV l x0).bB)/\W.cell? ⟨b,o+x1*3+2,none⟩=some (.int .i64 (aV l x1).bB):=by
   rcases hc with rfl|⟨b,o,rfl,kb⟩
   ·simp at CB
   ·exact⟨b,o,rfl,by rw[Nat.add_assoc];exact(kb x0 CB).2.2,by rw[Nat.add_assoc];exact(kb x1 IW).2.2⟩
  obtain⟨b,o,rfl,cP0,cP1⟩:=dt
  have cT0:W.cell? ⟨w.heap.size,0,none⟩=some (.slice Ag ng cg):=by simp[World.cell?,bT1]
  have cT1:W.cell? ⟨w.heap.size,1,none⟩=some (.slice At nt ct):=by simp[World.cell?,bT1]
  have Tb:W.cell? ⟨Bx,0,none⟩=some (.int .i64 (x0:Int)):=by simp[World.cell?,bX]
  have Tc:W.cell? ⟨Bx,1,none⟩=some (.int .i64 (x1:Int)):=by simp[World.cell?,bX]
  have cA:=bA1.cell
  have dP0:W.drew.cell? ⟨b,o+x0*3+2,none⟩=some (.int .i64 (aV l x0).bB):=cP0
  have dP1:W.drew.cell? ⟨b,o+x1*3+2,none⟩=some (.int .i64 (aV l x1).bB):=cP1
  have dT0:W.drew.cell? ⟨w.heap.size,0,none⟩=some (.slice Ag ng cg):=cT0
  have dT1:W.drew.cell? ⟨w.heap.size,1,none⟩=some (.slice At nt ct):=cT1
  have dX0:W.drew.cell? ⟨Bx,0,none⟩=some (.int .i64 (x0:Int)):=Tb
  have dX1:W.drew.cell? ⟨Bx,1,none⟩=some (.int .i64 (x1:Int)):=Tc
  have dA:W.drew.cell? ⟨w.heap.size+1,0,none⟩=some (.slice (some ⟨b,o,none⟩) l.length cp):=cA
  have pH:∀i,i<l.length->aV l i∈l:=fun i hi=>by
   unfold aV
   rw[List.getD_eq_getElem?_getD,List.getElem?_eq_getElem hi]
   exact List.getElem_mem hi
  have Uh:=mixed
  have hfw:=hA.1.Cu
  have Si:=HZ s hF (aV l x0).bB x2 (aV l x1).bB (hA.2 _ (pH x0 CB)) (hA.2 _ (pH x1 IW)) (jE (by omega))
  have hTW:jw Tryz.prog W (fun b=>b<w.heap.size) (.agg (aa s)) (.agg #[.slice Ag ng cg,.slice At nt ct]):=hT.frame (fun b hb=>hB.block b hb) (fun _ h=>h)
  have hAW:jw Tryz.prog W (fun b=>b<w.heap.size) (.sl (l.map ad)) (.slice (some ⟨b,o,none⟩) l.length cp):=hP.eO.frame (fun b hb=>hB.block b hb) (fun _ h=>h)
  obtain⟨fT,hT0,TE⟩:∃f:Nat->Value,(∀j,j<(aa s).length->(#[Value.slice Ag ng cg,.slice At nt ct])[j]? =some (f j))/\∀j a,(aa s)[j]? =some a->jw Tryz.prog W (fun b=>b<w.heap.size) a (f j):=by
   cases hTW with
   |agg _ _ f _ _ h3 h4=>exact⟨f,h3,h4⟩
  have dH:St Tryz.prog W.heap.size 42 (fun b=>b<w.heap.size) (H4 w.heap.size Bx) (Nu s l x0 x1 x2) ⟨Mx s l x0 x1,1⟩ {tmps:= #[.agg #[.slice Ag ng cg,.slice At nt ct],.agg #[.slice (some ⟨b,o,none⟩) l.length cp],.pointer (some ⟨w.heap.size,0,none⟩),.pointer (some ⟨w.heap.size+1,0,none⟩),.slice none 0 0,.pointer (some ⟨w.heap.size+1+1,0,none⟩),.pointer (some ⟨Bx,0,none⟩),.int .i64 x2,undef,.agg #[.slice (some ⟨b,o,none⟩) l.length cp],.func (.func 264) #[] #[.pointer (some ⟨w.heap.size+1+1+1,0,none⟩)],.agg #[.int .i64 (x0:Int),.int .i64 (x1:Int)],.int .i64 x2,undef,undef,undef,undef,undef,undef,undef,undef,undef,undef,undef,undef,undef,undef,undef,undef,undef,undef,undef,undef,undef,undef,undef,undef,undef,undef,undef,undef,undef],defers:=[]} W:=by
   have n1:(H4 w.heap.size Bx) ⟨1,0⟩=some ⟨w.heap.size,2,2,none⟩:=rfl
   have n2:(H4 w.heap.size Bx) ⟨2,0⟩=some ⟨w.heap.size+1,1,1,none⟩:=rfl
   have n3:(H4 w.heap.size Bx) ⟨3,0⟩=some ⟨w.heap.size+1+1,1,1,none⟩:=rfl
   have n4:(H4 w.heap.size Bx) ⟨4,0⟩=some ⟨Bx,2,2,none⟩:=rfl
   have n5:(H4 w.heap.size Bx) ⟨5,0⟩=some ⟨w.heap.size+1+1+1,1,1,none⟩:=rfl
   have rp:∀(id:Id) (B:sk),(H4 w.heap.size Bx) id=some B->B.k=none->dd Tryz.prog W (fun b=>b<w.heap.size) (H4 w.heap.size Bx) (.ptr id 0 0) (.pointer (some ⟨B.b,0,none⟩)):=fun id B h hk=>by
    have:=dd.ptr (P:=Tryz.prog) (w:=W) (D:=fun b=>b<w.heap.size) id 0 0 B h hk
    simpa using this
   have ri:∀n:Int,dd Tryz.prog W (fun b=>b<w.heap.size) (H4 w.heap.size Bx) (.int .i64 n) (.int .i64 n):=fun n=>.eO _ _ (.int _ _)
   have hA1:jw Tryz.prog W (fun b=>b<w.heap.size) (.agg [.sl (l.map ad)]) (.agg #[.slice (some ⟨b,o,none⟩) l.length cp]):=.agg _ _ (fun _=>.slice (some ⟨b,o,none⟩) l.length cp) rfl (fun a ha=>by simp at ha;rw[ha];rfl) (fun j hj=>by match j,hj with|0,_=>rfl|j+1,hj=>simp at hj) (fun j a ha=>by match j,ha with|0,ha=>simp at ha;subst ha;exact hAW|j+1,ha=>simp at ha)
   refine⟨⟨Nat.le_refl _,fun b hb=>Nat.lt_of_lt_of_le hb hB.size,fun id r hg=>?_,fun id kI r r' B B' h _ hw=>?_⟩,fun id hid=>?_,fun t=>?_,rfl⟩
   ·replace hg:Mx s l x0 x1 id=some r:=hg
    unfold Mx at hg
    split at hg
    ·rename_i e;subst e;injection hg with hg;subst hg
     exact⟨_,n1,D8 (cs:=aa s) rfl bT1 rfl rfl rfl (fun a ha=>by simp[aa]at ha;rcases ha with rfl|rfl<;>rfl) (fun j a ha=>⟨_,hT0 j (List.getElem?_eq_some_iff.1 ha).1,.eO _ _ (TE j a ha)⟩),fun h=>(by cases h),fun h=>(by cases h)⟩
    ·split at hg
     ·rename_i e;subst e;injection hg with hg;subst hg
      exact⟨_,n2,D8 (cs:=[.sl (l.map ad)]) rfl bA1 rfl rfl rfl (fun a ha=>by simp at ha;rw[ha];rfl) (fun j a ha=>by match j,ha with|0,ha=>simp at ha;subst ha;exact⟨_,rfl,.eO _ _ hAW⟩|j+1,ha=>simp at ha),fun h=>(by cases h),fun h=>(by cases h)⟩
     ·split at hg
      ·rename_i e;subst e;injection hg with hg;subst hg
       exact⟨_,n4,D8 (cs:=[.int .i64 (x0:Int),.int .i64 (x1:Int)]) rfl bX rfl rfl rfl (fun a ha=>by simp at ha;rcases ha with rfl|rfl<;>rfl) (fun j a ha=>by match j,ha with|0,ha=>simp at ha;subst ha;exact⟨_,rfl,ri _⟩|1,ha=>simp at ha;subst ha;exact⟨_,rfl,ri _⟩|j+2,ha=>simp at ha),fun h=>(by cases h),fun h=>(by cases h)⟩
      ·cases hg
   ·exfalso
    replace h:Mx s l x0 x1 id=some r:=h
    unfold Mx at h
    split at h
    ·injection h with h;subst h;cases hw
    ·split at h
     ·injection h with h;subst h;cases hw
     ·split at h
      ·injection h with h;subst h;cases hw
      ·cases h
   ·left
    unfold H4 at hid
    repeat' (split at hid)
    all_goals first|(rename_i e;subst e;exact Nat.zero_lt_one)|exact absurd rfl hid
   ·match t with
    |0=>exact .eO _ _ hTW
    |1=>exact .eO _ _ hA1
    |2=>exact rp _ _ n1 rfl
    |3=>exact rp _ _ n2 rfl
    |4=>exact .eO _ _ .cr
    |5=>exact rp _ _ n3 rfl
    |6=>exact rp _ _ n4 rfl
    |7=>exact ri _
    |8=>exact dd.undef
    |9=>exact .eO _ _ hA1
    |10=>exact .fn _ _ _ (fun _=>.pointer (some ⟨w.heap.size+1+1+1,0,none⟩)) (by kernel_rfl) rfl (fun j hj=>by match j,hj with|0,_=>rfl|j+1,hj=>simp at hj) (fun j a ha=>by match j,ha with|0,ha=>simp at ha;subst ha;exact rp _ _ n5 rfl|j+1,ha=>simp at ha)
    |11=>exact .agg _ _ (fun j=>if j=0 then .int .i64 (x0:Int)else .int .i64 (x1:Int)) rfl (fun a ha=>by simp at ha;rcases ha with rfl|rfl<;>rfl) (fun j hj=>by match j,hj with|0,_=>rfl|1,_=>rfl|j+2,hj=>simp at hj;omega) (fun j a ha=>by match j,ha with|0,ha=>simp at ha;subst ha;exact ri _|1,ha=>simp at ha;subst ha;exact ri _|j+2,ha=>simp at ha)
    |12=>exact ri _
    |13=>exact dd.undef
    |14=>exact dd.undef
    |15=>exact dd.undef
    |16=>exact dd.undef
    |17=>exact dd.undef
    |18=>exact dd.undef
    |19=>exact dd.undef
    |20=>exact dd.undef
    |21=>exact dd.undef
    |22=>exact dd.undef
    |23=>exact dd.undef
    |24=>exact dd.undef
    |25=>exact dd.undef
    |26=>exact dd.undef
    |27=>exact dd.undef
    |28=>exact dd.undef
    |29=>exact dd.undef
    |30=>exact dd.undef
    |31=>exact dd.undef
    |32=>exact dd.undef
    |33=>exact dd.undef
    |34=>exact dd.undef
    |35=>exact dd.undef
    |36=>exact dd.undef
    |37=>exact dd.undef
    |38=>exact dd.undef
    |39=>exact dd.undef
    |40=>exact dd.undef
    |41=>exact dd.undef
    |t+42=>exact dd.undef
  have hV:wpOps (Call Tryz.prog) true ?vl (fun e _=>e 5=.ptr ⟨3,0⟩ 0 0/\e 6=.ptr ⟨4,0⟩ 0 0/\e 8=.int .i64 (gL s (aV l x0).bB x2 (aV l x1).bB)) (Nu s l x0 x1 x2) ⟨Mx s l x0 x1,1⟩:= ?hv
  gi_wp2
  refine zL mixed (rrE (nt:=42) (site0:=222005000)) (Ji (by kernel_rfl)) (np (fun _ _ _ _ h=>gW mixed h) pZ (fun _ _ h=>h) _ _ _ hV) dH ?_
  rintro e1 σ1 ⟨tm,df⟩ w3 D1 ι1 ⟨h5,h6,h8⟩ T1 Nc Dl
  case hv=>
   refine DX ?_
   have e0:=ga CB
   have e1:=ga IW
   (repeat(first|((repeat(revert hN;revert N;apply Pn.out));refine wk (tw @e0 (tw @e1 (tw @Nu.eq_1 (tw @Mx.eq_1 (tw @ad.eq_1 @aa.eq_1))))) ?_;(repeat(refine Pn.mk ?_;intro N hN)))|((try apply Or.inl);refine⟨_,ar.x (Si) (sd (tw @e0 (tw @e1 (tw @Nu.eq_1 (tw @Mx.eq_1 (tw @ad.eq_1 @aa.eq_1)))))),?_⟩;refine hN _ _ ?_;clear hN N)))
   exact⟨sd @Nu.eq_1,sd @Nu.eq_1,sd @Nu.eq_1⟩
  ·have A9:Below W.heap.size W w3:=T1.below
   have xf:∀id B,H4 w.heap.size Bx id=some B->ι1 id=some B:=T1.names
   have p5:tm.getD 5 undef=.pointer (some ⟨w.heap.size+1+1,0,none⟩):=by
    have g:=Nc.env 5
    rw[h5]at g
    obtain⟨B,e,hB,_⟩:=iO g
    have h:=xf ⟨3,0⟩ ⟨w.heap.size+1+1,1,1,none⟩ rfl
    rw[h]at hB;injection hB with hB;subst hB
    simpa using e
   have p6:tm.getD 6 undef=.pointer (some ⟨Bx,0,none⟩):=by
    have g:=Nc.env 6
    rw[h6]at g
    obtain⟨B,e,hB,_⟩:=iO g
    have h:=xf ⟨4,0⟩ ⟨Bx,2,2,none⟩ rfl
    rw[h]at hB;injection hB with hB;subst hB
    simpa using e
   have p8:tm.getD 8 undef=.int .i64 (gL s (aV l x0).bB x2 (aV l x1).bB):=by
    have g:=Nc.env 8
    rw[h8]at g
    exact dn g
   have fb:=Nc.size
   obtain⟨tl⟩:=tm
   obtain⟨f,Kq,hf⟩:∃f:Nat->Value,tl=[f 0,f 1,f 2,f 3,f 4,f 5,f 6,f 7,f 8,f 9,f 10,f 11,f 12,f 13,f 14,f 15,f 16,f 17,f 18,f 19,f 20,f 21,f 22,f 23,f 24,f 25,f 26,f 27,f 28,f 29,f 30,f 31,f 32,f 33,f 34,f 35,f 36,f 37,f 38,f 39,f 40,f 41]/\∀i,f i=(⟨tl⟩:Array Value).getD i undef:=by
    refine⟨fun i=>(⟨tl⟩:Array Value).getD i undef,?_,fun _=>rfl⟩
    have h:=I8 tl undef
    rw[show tl.length=42 from fb]at h
    exact h
   rw[<-hf]at p5 p6 p8
   have TW:df=[]:=Dl
   subst TW
   clear hf Nc dH hV
   subst Kq
   rw[p5,p6,p8]
   have SG:=hv.kept (grown_of A9) (by simp)
   have E5:=e9.kept (grown_of A9) (by rcases e9.2 with⟨e,_⟩|⟨_,_,_,e,_⟩<;>rw[e]<;>simp[Value.ownBlock])
   have hc3:=SG.cell
   have Um:w.heap.size<=w3.heap.size:=Nat.le_trans hB.size A9.size
   have eX0:w3.cell? ⟨Bx,0,none⟩=some (.int .i64 (x0:Int)):=(A9.cell (p:=⟨Bx,0,none⟩) (Array.getElem?_eq_some_iff.1 bX).1).trans Tb
   have eX1:w3.cell? ⟨Bx,1,none⟩=some (.int .i64 (x1:Int)):=(A9.cell (p:=⟨Bx,1,none⟩) (Array.getElem?_eq_some_iff.1 bX).1).trans Tc
   have ml:(nD s l pre).length<=2097152:=by
    have h1:=HW s l pre
    have h2:=BY l l.length
    omega
   have hKF:KeepsFrom (w.heap.size+4) W w3:=⟨A9.size,fun k o _ hk _=>(A9.block k (Array.getElem?_eq_some_iff.1 hk).1).trans hk⟩
   have hKT:gV w.heap.size W w3:=gV.of A9
   have S7:w3.heap[w.heap.size+1]? = _:=(A9.block _ bA1.lt).trans bA1
   have S8:=(A9.block _ (Array.getElem?_eq_some_iff.1 bT1).1).trans bT1
   by_cases lf:0<gL s (aV l x0).bB x2 (aV l x1).bB
   ·have xQ:nD s l (pre++[⟨(x0,x1,x2),CB,IW,Ak⟩])=nD s l pre++[⟨x0,x1,gL s (aV l x0).bB x2 (aV l x1).bB⟩]:=by
     rw[xx];simp only[yR,if_pos lf]
    gi_wp2_with (gi_at_builtin;refine wpListIn_append_own _ rfl _ _ 226 rfl w.heap.size 246 i0 (.agg #[.int .i64 0,.int .i64 0,.int .i64 0]) 3 24 (by kernel_rfl) hi E8 x7 ki rfl (by decide) _ _ _ rfl (E5.alloc _) ⟨w3.heap.size,0,none⟩ 1 1 [.int .i64 (x0:Int),.int .i64 (x1:Int),.int .i64 (gL s (aV l x0).bB x2 (aV l x1).bB)] rfl rfl (uR _ _ _ _ _) (by simp[Value.oneCell']) (by unfold maxLen;omega) (by omega) (by simp;omega) ?_;intro v' w4 Bi xR _;obtain⟨g',Td,rfl⟩:=ownsRow_succ Bi;obtain⟨vw,Lm,Ai,sJ,Bb⟩:=SG.appended (by decide) E5 Um (by omega) Bi xR;have K4:=gV.app SG E5 xR Bb;have pE:=vw.cell;have TZ:=vw.frozen)
    exact⟨hKF.trans (sJ.from _),hKT.trans K4,⟨⟨_,Lm,by rw[xQ,HV,List.length_append];exact Ai,by rw[xQ];simp⟩,(K4.2.1 _ _ _ _ S7 (by decide) (by decide)).trans S7,(K4.2.1 _ _ _ _ S8 (by decide) (by decide)).trans S8⟩,hB.trans ((A9.mono hB.size).trans Bb)⟩
   ·have xQ:nD s l (pre++[⟨(x0,x1,x2),CB,IW,Ak⟩])=nD s l pre:=by
     rw[xx];simp only[yR,if_neg lf,List.append_nil]
    gi_wp2
    exact⟨hKF,hKT,⟨⟨v,SG,by rw[xQ];exact E5,by rw[xQ];exact hnil⟩,S7,S8⟩,hB.trans (A9.mono hB.size)⟩
 case done=>
  rintro D ys W hD CD ⟨⟨⟨v,hv,e9,hnil⟩,_⟩,hB⟩ hK
  have hc:=hv.cell
  have Kf:nD s l ys=cG s l:=by rw[H3,<-CD];rfl
  rw[Kf]at e9 hnil
  gi_wp2
  refine⟨by simp,.inl ⟨_,_,rfl,run_takeDeferred hK,?_⟩⟩
  exact⟨_,results_tmp rfl _ _ _,v,rfl,ownsRow_putObj e9 _ hK rfl,hnil,hB.trans (belowK_b (w:=w) (Nat.le_refl _) W D _ _ (by omega) hK rfl rfl)⟩
 case stop=>
  rintro D c pre W _ _ h _
  exact h.elim
end Go.Proofs.YtgoelphibofcmaaGreat.V

namespace Go.Proofs.YtgoelphibofcmaaGreat.V
open Go.RowKit Go.Shelf
theorem EI:∀{bs:List PB} {i j:Nat} {b:PB},bs[i]? =some b->j<3->(KD bs)[i*3+j]? =([.int .i64 b.a,.int .i64 b.b,.int .i64 b.s]:List Value)[j]?
 |c::bs,0,j,b,h,hj=>by
  simp at h;subst h
  simp only[KD,List.flatMap_cons,Nat.zero_mul,Nat.zero_add]
  rw[List.getElem?_append_left (by simpa using hj)]
 |c::bs,i+1,j,b,h,hj=>by
  simp only[List.getElem?_cons_succ]at h
  have:=EI (bs:=bs) (i:=i) (j:=j) h hj
  simp only[KD,List.flatMap_cons]at this ⊢
  rw[List.getElem?_append_right (by simp;omega),<-this]
  congr 1
  simp;omega
theorem rH {P:Program} {w:World} {D:Nat->Prop} {rows:List (List AV)} {v:Value} (h:jw P w D (.sl rows) v):∃A n c,v=.slice A n c:=by
 cases h with
 |Am a c _=>exact⟨_,_,_,rfl⟩
 |sl=>exact⟨_,_,_,rfl⟩
theorem qI {P:Program} {w:World} {D:Nat->Prop} {ι:Names} {rows:List (List AV)} {v:Value} (h:dd P w D ι (.sl rows) v):jw P w D (.sl rows) v:=by
 cases h with
 |eO _ _ h=>exact h
theorem LW {P:Program} {w:World} {D:Nat->Prop} {l:List ae} {v:Value} (h:jw P w D (.sl (l.map ad)) v):pq w v l:=by
 generalize hr:l.map ad=rows at h
 cases h with
 |Am a c hc=>
  have:l=[]:=by simpa using hr
  subst this
  exact⟨a,c,rfl,⟨Nat.zero_le _,hc⟩,.inl rfl⟩
 |sl _ b o n c sz vs h1 h2 h3 h4 h5 h5' h6 h7=>
  have hn:n=l.length:=by rw[<-h1,<-hr];simp
  subst hn
  refine⟨some ⟨b,o,none⟩,c,rfl,⟨h2,h3⟩,?_⟩
  by_cases hl:l=[]
  ·exact .inl hl
  refine .inr ⟨b,o,rfl,fun i hi=>?_⟩
  have hg:rows[i]? =some (ad (aV l i)):=by rw[<-hr];exact ga hi
  have fb:sz=3:=by rw[<-h5 _ (List.mem_of_getElem? hg)];rfl
  subst fb
  have k:∀(j:Nat) (x:Int),(ad (aV l i))[j]? =some (.int .i64 x)->j<3->w.cell? ⟨b,o+(i*3+j),none⟩=some (.int .i64 x):=fun j x hj h3=>by
   have:=h7 i j _ _ hg hj
   rw[h6 i j hi h3,dn (.eO (ι:=fun _=>none) _ _ this)]
  exact⟨k 0 _ rfl (by omega),k 1 _ rfl (by omega),k 2 _ rfl (by omega)⟩
theorem Nt:CE:=by
 intro s l hS hA n
 refine fE ?_
 intro hs D ι w vs S U A
 obtain⟨u0,SF,r0⟩:=A.2 0 _ rfl
 obtain⟨u1,Q8,r1⟩:=A.2 1 _ rfl
 have dP:∀b,D b->b<w.heap.size:=S.dead
 obtain⟨v0,f0,rfl,E8,_,Sp,Uw⟩:=il r0
 obtain⟨v1,f1,rfl,x7,_,TZ,Lg⟩:=il r1
 have g0:=qI (Uw 0 _ rfl)
 have g1:=qI (Uw 1 _ rfl)
 have a0:=qI (Lg 0 _ rfl)
 obtain⟨Ag,ng,cg,eg⟩:=rH g0
 obtain⟨At,nt,ct,et⟩:=rH g1
 have e0:v0= #[.slice Ag ng cg,.slice At nt ct]:=by
  obtain⟨vl⟩:=v0
  have q0:=Sp 0 (by simp[aa])
  have q1:=Sp 1 (by simp[aa])
  rw[eg]at q0;rw[et]at q1
  match vl,E8 with
  |[a,b],_=>simp at q0 q1;rw[q0,q1]
 have e1:v1= #[f1 0]:=by
  obtain⟨vl⟩:=v1
  have q0:=TZ 0 (by simp)
  match vl,x7 with
  |[a],_=>simp at q0;rw[q0]
 subst e0 e1
 have evs:vs= #[.agg #[.slice Ag ng cg,.slice At nt ct],.agg #[f1 0]]:=by
  obtain⟨vl⟩:=vs
  have hz:=A.1
  match vl,hz with
  |[a,b],_=>simp at SF Q8;rw[SF,Q8]
 subst evs
 have up:∀{a v},jw Tryz.prog w D a v->jw Tryz.prog w (fun b=>b<w.heap.size) a v:=fun h=>h.frame (fun _ _=>rfl) dP
 have hT:jw Tryz.prog w (fun b=>b<w.heap.size) (.agg (aa s)) (.agg #[.slice Ag ng cg,.slice At nt ct]):=
  .agg _ _ f0 E8 (fun a ha=>by simp[aa]at ha;rcases ha with rfl|rfl<;>rfl) Sp (fun j a ha=>by
   match j,ha with
   |0,ha=>simp[aa]at ha;subst ha;exact up g0
   |1,ha=>simp[aa]at ha;subst ha;exact up g1
   |j+2,ha=>simp[aa]at ha)
 refine(callsIn_wide.1 (H0 s l hS.form hA w Ag At ng cg nt ct (f1 0) hT (LW a0))).mono ?_
 rintro e W' ⟨v,rfl,⟨hl,hown⟩,hnil,hB⟩
 have S':gm Tryz.prog hs D ι (fun _=>none) W':=S.stay (fun b hb=>hB.block b hb) hB.size (fun _ h=>h) (fun b hb=>Nat.lt_of_lt_of_le (dP b hb) hB.size) (fun _ h=>.inl h) (fun _ _ h=>h)
 have T:Step hs D ι w D ι W':=Step.stay S (fun b hb=>hB.block b hb) hB.size hB.os hB.tape hB.output (fun _ h=>h) (fun _ h=>.inl h) (fun _ _ h=>h)
 rcases hown with⟨rfl,h0⟩|⟨gb,cap,cur,rfl,N3,hblk,hle,Dk,dt,oE⟩
 ·have Di:cG s l=[]:=hnil.1 rfl
  exact⟨.cr,_,n,D,ι,_,rfl,⟨.cr,kE _ _,by rw[Di];rfl⟩,T,S',U,Nat.le_refl _,.eO _ _ .cr⟩
 ·have Di:cG s l≠[]:=fun h=>by have:=hnil.2 h;cases this
  have lW:ι ⟨0,n⟩=none:=fresh U (fun h=>h)
  have gO:∀{a v},dd Tryz.prog W' D ι a v->dd Tryz.prog W' D (j7 ι ⟨0,n⟩ ⟨gb,3,cap*3,none⟩) a v:=fun h=>h.frame (fun _ _=>rfl) (fun _ h=>h) (fK lW)
  have hR:gP Tryz.prog W' D (j7 ι ⟨0,n⟩ ⟨gb,3,cap*3,none⟩) ⟨gb,3,cap*3,none⟩ ⟨true,3,(cG s l).map aA⟩:=by
   refine kD.obj ⟨rfl,⟨cur,_,hblk,dt⟩,?_,fun cs hc=>?_,fun cs hc a ha=>?_,fun i j cs a hi hj=>?_⟩ rfl
   ·simp only[List.length_map];exact Nat.mul_le_mul_right 3 hle
   ·obtain⟨b,_,rfl⟩:=List.mem_map.1 hc;rfl
   ·obtain⟨b,_,rfl⟩:=List.mem_map.1 hc
    simp[aA]at ha
    rcases ha with rfl|rfl|rfl<;>rfl
   ·rw[List.getElem?_map]at hi
    simp only[Option.map_eq_some_iff]at hi
    obtain⟨b,hb,rfl⟩:=hi
    have Ua:j<3:=by have:=(List.getElem?_eq_some_iff.1 hj).1;simpa[aA]using this
    have nz:=(List.getElem?_eq_some_iff.1 hb).1
    have hg:=EI hb Ua
    rw[<-oE,List.getElem?_take,if_pos (by omega)]at hg
    have key:∀x:Value,([.int .i64 b.a,.int .i64 b.b,.int .i64 b.s]:List Value)[j]? =some x->W'.cell? ⟨gb,i*3+j,none⟩=some x:=fun x hx=>by
     rw[hx]at hg
     have e:W'.cell? ⟨gb,i*3+j,none⟩=cur[i*3+j]? :=by
      unfold World.cell?
      rw[show W'.heap[(⟨gb,i*3+j,none⟩:Addr).block]? = _ from hblk]
      rfl
     rw[e,<-Array.getElem?_toList];exact hg
    match j,hj with
    |0,hj=>simp[aA]at hj;subst hj;exact⟨_,key _ rfl,.eO _ _ (.int _ _)⟩
    |1,hj=>simp[aA]at hj;subst hj;exact⟨_,key _ rfl,.eO _ _ (.int _ _)⟩
    |2,hj=>simp[aA]at hj;subst hj;exact⟨_,key _ rfl,.eO _ _ (.int _ _)⟩
    |j+3,hj=>simp[aA]at hj
  have S2:=gm.add (r:=⟨true,3,(cG s l).map aA⟩) S S' lW N3 hR
  refine⟨.own ⟨0,n⟩ 0 (cG s l).length,bI (fun _=>none) ⟨0,n⟩ ⟨true,3,(cG s l).map aA⟩,n+1,D,j7 ι ⟨0,n⟩ ⟨gb,3,cap*3,none⟩,_,rfl,⟨zR (cG s l),?_,rfl⟩,T.trans (Step.stay S' (fun _ _=>rfl) (Nat.le_refl _) rfl rfl rfl (fun _ h=>h) (fun _ h=>.inl h) (fK lW)),S2,U.upd.next,Nat.le_succ _,.own _ _ _ _ _ _ (er _ _ _) rfl hle (.inr (by simp)) (by simp) Dk⟩
  unfold zR
  rw[if_neg Di]
  have hg:(bI (fun _=>none) (⟨0,n⟩:Id) ⟨true,3,(cG s l).map aA⟩:Rows) ⟨0,n⟩=some ⟨true,3,(cG s l).map aA⟩:=by simp[bI]
  have:=fB (n:=5) hg rfl fun b=>uh _ 4 b
  simpa using this
end Go.Proofs.YtgoelphibofcmaaGreat.V

namespace Go.Proofs.YtgoelphibofcmaaGreat.V
open Go.RowKit
theorem OQ {P:Program} {w:World} {D:Nat->Prop} {ι:Names} {x y:Int} {v:Value} (h:dd P w D ι (.agg [.int .i64 x,.int .i64 y]) v):v=.agg #[.int .i64 x,.int .i64 y]:=by
 obtain⟨vs,f,rfl,fb,_,h1,h2⟩:=il h
 have v0:=h1 0 (by simp)
 have v1:=h1 1 (by simp)
 rw[dn (h2 0 _ rfl)]at v0
 rw[dn (h2 1 _ rfl)]at v1
 obtain⟨vl⟩:=vs
 match vl,fb with
 |[a,b],_=>
  simp at v0 v1
  rw[v0,v1]
theorem Aw {σ:au} {X O:Id} {b1 b2:Bool} {es:List En} (hX:σ.get X=some ⟨b1,1,[[.map O mP]]⟩) (hO:σ.get O=some ⟨b2,mP.lJ,es.map pz⟩) (hl:es.length<=1000000):
  Call Tryz.prog 205 [.cr,.fn 176 [.ptr X 0 0]] σ (fun r σ'=>σ.next<=σ'.next/\(∀x:Id,x.bm<σ.next->σ'.get x=σ.get x)/\∃ss:List ai,ss.Perm (es.map (·.1))/\((ss=[]/\r=.cr)∨∃o:Id,r=.own o 0 ss.length/\σ'.get o=some ⟨true,2,ss.map ab⟩/\σ.next<=o.bm/\o.bm<σ'.next/\ss≠[])):=by
 refine fE fun hs D ι w vs S U A=>?_
 obtain⟨u1,us1,rfl,h1,h2⟩:=ku A
 obtain⟨u2,us2,h3,h4,h5⟩:=ku h2
 simp at h3;subst h3
 have:=we h5
 simp at this;subst this
 obtain rfl:=iM h1
 obtain⟨vc,gf,rfl,_,wU,MF,hrc⟩:=wg h4
 obtain⟨BX,hp,hBX,hkX⟩:=iO (hrc 0 _ rfl)
 have UE:vc= #[.pointer (some ⟨BX.b,0,none⟩)]:=by
  obtain⟨l⟩:=vc
  have q0:=MF 0 (by simp)
  match l,wU with
  |[a],_=>simp at q0;rw[q0,hp];simp
 subst UE
 obtain⟨BX',KW,RX,_,_⟩:=S.row X _ hX
 rw[hBX]at KW;injection KW with KW;subst KW
 obtain⟨vm,Gl,Lh⟩:=(RX.row hkX).at_ 0 0 _ _ rfl rfl
 obtain⟨BO,rfl,hBO,hkO⟩:=Fp Lh
 obtain⟨BO',KV,RO,_,_⟩:=S.row O _ hO
 rw[hBO]at KV;injection KV with KV;subst KV
 obtain⟨_,RZ,clock,hblk,fb,⟨_,Uy⟩,hM⟩:=RO.map mP hkO
 have hk:RZ.toList.map (·.key)=(es.map (·.1)).map rl:=by
  have Lj:RZ.toList.length=es.length:=by simpa using fb
  refine List.ext_getElem (by simpa using Lj) fun i h1 h2=>?_
  have hi:i<es.length:=by simpa using h2
  obtain⟨e,kv,vv,q1,q2,_,q4,_⟩:=hM i (pz es[i]) (by simp[hi])
  have e1:kv=.agg [.int .i64 es[i].1.eM,.int .i64 es[i].1.eI]:=by
   simp[part,MK.ks,pz]at q2
   exact q2.symm
  subst e1
  have e2:=OQ q4
  simp only[List.getElem_map]
  have e3:RZ.toList[i]'(by omega)=e:=by
   have:=Array.getElem?_eq_some_iff.1 q1
   obtain⟨_,h⟩:=this
   simpa using h
  rw[e3,e2];rfl
 have dP:∀b,D b->b<w.heap.size:=S.dead
 have hbx:BX.b<w.heap.size:=RX.lt
 have QB:w.cell? ⟨BX.b,0,none⟩=some (.map (some BO.b)):=by simpa using Gl
 refine(callsIn_wide.1 (yN BX.b BO.b RZ clock Uy (es.map (·.1)) hk (by simpa using hl) w hbx QB hblk)).mono ?_
 rintro e W' ⟨ss,v,hperm,rfl,⟨hle',hown⟩,hnil,hB⟩
 have S':gm Tryz.prog hs D ι σ.get W':=S.stay (fun b hb=>hB.block b hb) hB.size (fun _ h=>h) (fun b hb=>Nat.lt_of_lt_of_le (dP b hb) hB.size) (fun _ h=>.inl h) (fun _ _ h=>h)
 have T:Step hs D ι w D ι W':=Step.stay S (fun b hb=>hB.block b hb) hB.size hB.os hB.tape hB.output (fun _ h=>h) (fun _ h=>.inl h) (fun _ _ h=>h)
 rcases hown with⟨rfl,h0⟩|⟨gb,cap,cur,rfl,N3,hblk2,hle,Dk,dt,oE⟩
 ·have Di:ss=[]:=hnil.1 rfl
  exact⟨.cr,_,σ.next,D,ι,_,rfl,⟨Nat.le_refl _,fun _ _=>rfl,ss,hperm,.inl ⟨Di,rfl⟩⟩,T,S',U,Nat.le_refl _,.eO _ _ .cr⟩
 ·have Di:ss≠[]:=fun h=>by have:=hnil.2 h;cases this
  have lW:ι ⟨0,σ.next⟩=none:=fresh U (fun h=>h)
  have hR:gP Tryz.prog W' D (j7 ι ⟨0,σ.next⟩ ⟨gb,2,cap*2,none⟩) ⟨gb,2,cap*2,none⟩ ⟨true,2,ss.map ab⟩:=by
   refine kD.obj ⟨rfl,⟨cur,_,hblk2,dt⟩,?_,fun cs hc=>?_,fun cs hc a ha=>?_,fun i j cs a hi hj=>?_⟩ rfl
   ·simp only[List.length_map];exact Nat.mul_le_mul_right 2 hle
   ·obtain⟨b,_,rfl⟩:=List.mem_map.1 hc;rfl
   ·obtain⟨b,_,rfl⟩:=List.mem_map.1 hc
    simp[ab]at ha
    rcases ha with rfl|rfl<;>rfl
   ·rw[List.getElem?_map]at hi
    simp only[Option.map_eq_some_iff]at hi
    obtain⟨b,hb,rfl⟩:=hi
    have Ua:j<2:=by have:=(List.getElem?_eq_some_iff.1 hj).1;simpa[ab]using this
    have nz:=(List.getElem?_eq_some_iff.1 hb).1
    have hg:=LX hb Ua
    rw[<-oE,List.getElem?_take,if_pos (by omega)]at hg
    have key:∀x:Value,([.int .i64 b.eM,.int .i64 b.eI]:List Value)[j]? =some x->W'.cell? ⟨gb,i*2+j,none⟩=some x:=fun x hx=>by
     rw[hx]at hg
     have e:W'.cell? ⟨gb,i*2+j,none⟩=cur[i*2+j]? :=by
      unfold World.cell?
      rw[show W'.heap[(⟨gb,i*2+j,none⟩:Addr).block]? = _ from hblk2]
      rfl
     rw[e,<-Array.getElem?_toList];exact hg
    match j,hj with
    |0,hj=>simp[ab]at hj;subst hj;exact⟨_,key _ rfl,.eO _ _ (.int _ _)⟩
    |1,hj=>simp[ab]at hj;subst hj;exact⟨_,key _ rfl,.eO _ _ (.int _ _)⟩
    |j+2,hj=>simp[ab]at hj
  have S2:=gm.add (r:=⟨true,2,ss.map ab⟩) S S' lW N3 hR
  refine⟨.own ⟨0,σ.next⟩ 0 ss.length,bI σ.get ⟨0,σ.next⟩ ⟨true,2,ss.map ab⟩,σ.next+1,D,j7 ι ⟨0,σ.next⟩ ⟨gb,2,cap*2,none⟩,_,rfl,⟨Nat.le_succ _,fun x hx=>?_,ss,hperm,.inr ⟨_,rfl,by simp[bI],Nat.le_refl _,Nat.lt_succ_self _,Di⟩⟩,T.trans (Step.stay S' (fun _ _=>rfl) (Nat.le_refl _) rfl rfl rfl (fun _ h=>h) (fun _ h=>.inl h) (fK lW)),S2,U.upd.next,Nat.le_succ _,.own _ _ _ _ _ _ (er _ _ _) rfl hle (.inr (by simp)) (by simp) Dk⟩
  have:¬x=⟨0,σ.next⟩:=fun e=>by subst e;simp at hx
  simp[bI,this]
end Go.Proofs.YtgoelphibofcmaaGreat.V

namespace Go.Proofs.YtgoelphibofcmaaGreat.V
open Go.RowKit
attribute [local irreducible] eb wpOps gj Call
attribute [local go_sem] aJ fM eP fZ fY cL upd cu K.av cN AV.cells AV.cell rowOf rowsOf part ld rowAt bI bW dD ee gT bL dc ev fU eY dr ej da cZ dO dR bR aX cR bQ cV cU eh ek ei cQ bV db ef bP aP cX cE gS bw cJ bU aW dx bj dE AV.undef bD bF dV ec dI dS cF eu eB cD ep eo cW cY List.getD_cons_zero List.getD_cons_succ List.getD_nil List.all_cons List.all_nil Bool.and_true Bool.true_and Bool.and_self Bool.not_true Bool.not_false Option.map_some Option.map_none Option.bind_some Option.bind_none List.length_cons List.length_nil List.take_succ_cons List.take_zero List.take_nil List.drop_succ_cons List.drop_zero List.drop_nil List.head?_cons List.map_cons List.map_nil List.getElem?_cons_zero List.getElem?_cons_succ List.cons_append List.nil_append List.append_nil List.length_map List.set_cons_zero List.set_cons_succ Nat.reduceMul eq_self Int.toNat_natCast Int.natCast_nonneg and_self true_and and_true decide_true decide_false Bool.false_eq_true Nat.zero_add Nat.add_zero List.contains_cons List.contains_nil Bool.or_false Bool.false_or beq_self_eq_true Nat.reduceBEq ne_eq not_true_eq_false not_false_eq_true Id.mk.injEq false_and and_false Nat.reduceLT Int.reduceLE Int.reduceLT Int.reduceToNat Int.reduceNeg Int.reduceAdd Nat.le_refl List.length_append beq_true beq_false Bool.not_eq_eq_eq_not or_false false_or dM aj aq aH bd bz ck aU bf aT aZ cP bH
theorem oL {α:Type} [DecidableEq α]:∀{xs ys:List α},xs.Nodup->(∀x∈xs,x∈ys)->xs.length=ys.length->xs.Perm ys
 |[],ys,_,_,h=>by
  have:ys=[]:=List.eq_nil_of_length_eq_zero h.symm
  subst this;exact List.Perm.nil
 |x::xs,ys,hn,hs,h=>by
  obtain⟨h1,h2⟩:=List.nodup_cons.1 hn
  have hx:=hs x (by simp)
  have hl:=List.length_erase_of_mem hx
  have:=@oL α _ xs (ys.erase x) h2 (fun y hy=>(List.mem_erase_of_ne fun e=>h1 (by rw[<-e];exact hy)).2 (hs y (by simp[hy]))) (by rw[hl];simp only[List.length_cons]at h;omega)
  exact(this.cons x).trans (List.perm_cons_erase hx).symm
theorem mW {L:List ai} (h:mo L):L.Nodup:=List.Pairwise.imp (fun {a b} nG e=>by rw[e,mO]at nG;cases nG) h
theorem L8 {L qs:List ai} (hR:mo L) (hp:qs.Perm L) (hs:∀i j:Nat,i<j->j<qs.length->km (jv qs j) (jv qs i)=false):qs=L:=by
 have hd:qs.Nodup:=hp.nodup_iff.2 (mW hR)
 have hq:mo qs:=by
  unfold mo
  unfold List.Nodup at hd
  rw[List.pairwise_iff_getElem]at hd ⊢
  intro i j hi hj Dt
  have h1:=hs i j Dt hj
  rw[jI hj,jI hi]at h1
  exact zx h1 fun e=>hd i j hi hj Dt e.symm
 exact Fs hq hR fun x=>hp.mem_iff
theorem G2 (σ:au):Call Tryz.prog 175 [.cr,.fn 130 []] σ fun r σ'=>r=.iF []/\σ'.next=σ.next/\σ'.get=σ.get:=by
 refine fE fun hs D ι w vs S U A=>?_
 obtain⟨u1,us1,rfl,h1,h2⟩:=ku A
 obtain⟨u2,us2,h3,h4,h5⟩:=ku h2
 simp at h3;subst h3
 have:=we h5
 simp at this;subst this
 obtain rfl:=iM h1
 refine(M3 _ _ _ w).mono ?_
 rintro e w' ⟨rfl,rfl⟩
 exact⟨.iF [],σ.get,σ.next,D,ι,_,rfl,⟨rfl,rfl,rfl⟩,Step.refl _ _ _ _,S,U,Nat.le_refl _,.iF [] #[] (fun _=>Go.undef) rfl (fun j hj=>by simp at hj) (fun j a h=>by simp at h)⟩
theorem I1 (O:Id) (σ:au):Call Tryz.prog 129 [.map O mP] σ (fun r σ'=>r=.fn 176 [.ptr ⟨129000000,σ.next⟩ 0 0]/\σ'.get ⟨129000000,σ.next⟩=some ⟨true,1,[[.map O mP]]⟩/\σ.next<σ'.next/\∀x:Id,x.bm<σ.next->σ'.get x=σ.get x):=by
 refine eU eJ rfl fun hl=>?_
 clear hl
 (try((repeat(revert hN;revert N;apply Pn.out));refine wk @Nat.zero_add ?_;(repeat(refine Pn.mk ?_;intro N hN))))
 exact ft (.inl rfl) (vs:=[.fn 176 [.ptr ⟨129000000,σ.next⟩ 0 0]]) (sd @Nat.zero_add) ⟨rfl,sd @Nat.zero_add,by(try dsimp only);omega,fun x hx=>by
  have:=dz hx
  simp only[go_sem, ↓reduceIte,Nat.reduceEqDiff,Nat.reduceAdd,Nat.reduceSub,Nat.reduceLeDiff,reduceCtorEq,this]⟩
theorem FQ {σ:au} {X O:Id} {b1 b2:Bool} {es:List En} (hX:σ.get X=some ⟨b1,1,[[.map O mP]]⟩) (hO:σ.get O=some ⟨b2,mP.lJ,es.map pz⟩) (hl:es.length<=1000000) (hXv:X.bm<σ.next) (Se:O.bm<σ.next):
  Call Tryz.prog 174 [.fn 176 [.ptr X 0 0]] σ (fun r σ'=>σ.next<=σ'.next/\(∀x:Id,x.bm<σ.next->σ'.get x=σ.get x)/\∃ss:List ai,ss.Perm (es.map (·.1))/\((ss=[]/\r=.cr)∨∃o:Id,r=.own o 0 ss.length/\σ'.get o=some ⟨true,2,ss.map ab⟩/\σ.next<=o.bm/\o.bm<σ'.next/\ss≠[])):=by
 refine eU eJ rfl fun mM=>?_
 clear mM
 (try((repeat(revert hN;revert N;apply Pn.out));refine wk @Nat.zero_add ?_;(repeat(refine Pn.mk ?_;intro N hN))))
 refine .inr (aL _ _ _ _ _ (fun r σ1 hq=>?_) (Aw (σ:=⟨σ.get,_⟩) hX hO hl))
 obtain⟨g1,x1⟩:=σ1
 obtain⟨q1,q2,ss,q3,q4⟩:=hq
 (try dsimp only at q1 q2 q4)
 refine hN _ _ ?_
 clear hN N
 (try((repeat(revert hN;revert N;apply Pn.out));refine wk @Nat.zero_add ?_;(repeat(refine Pn.mk ?_;intro N hN))))
 exact ft (.inl rfl) (vs:=[r]) (sd @Nat.zero_add) ⟨by(try dsimp only);omega,fun x hx=>q2 x (by omega),ss,q3,by
  rcases q4 with h|⟨o,h1,h2,h3,h4,h5⟩
  ·exact .inl h
  ·exact .inr ⟨o,h1,h2,by omega,by(try dsimp only);omega,h5⟩⟩
theorem JG {σ:au} {X O:Id} {b1 b2:Bool} {es:List En} (hX:σ.get X=some ⟨b1,1,[[.map O mP]]⟩) (hO:σ.get O=some ⟨b2,mP.lJ,es.map pz⟩) (hl:es.length<=1000000) (hXv:X.bm<σ.next) (Se:O.bm<σ.next) (L:List ai) (hR:mo L) (hn:(es.map (·.1)).Nodup) (hm:∀x,x∈L↔x∈es.map (·.1)):
  Call Tryz.prog 128 [.fn 176 [.ptr X 0 0],.fn 130 []] σ (fun r σ'=>σ.next<=σ'.next/\(∀x:Id,x.bm<σ.next->σ'.get x=σ.get x)/\((L=[]/\r=.cr)∨∃o:Id,r=.own o 0 L.length/\σ'.get o=some ⟨true,2,L.map ab⟩/\σ.next<=o.bm/\o.bm<σ'.next/\L≠[])):=by
 refine eU eJ rfl fun mM=>?_
 clear mM
 (try((repeat(revert hN;revert N;apply Pn.out));refine wk @Nat.zero_add ?_;(repeat(refine Pn.mk ?_;intro N hN))))
 refine .inr (aL _ _ _ _ _ (fun r σ1 hq=>?_) (FQ (σ:=⟨σ.get,_⟩) hX hO hl (by(try dsimp only);omega) (by(try dsimp only);omega)))
 obtain⟨g1,x1⟩:=σ1
 obtain⟨q1,q2,ss,q3,q4⟩:=hq
 (try dsimp only at q1 q2 q4)
 have lN:ss.Nodup:=q3.nodup_iff.2 hn
 have pH:∀x,x∈L↔x∈ss:=fun x=>(hm x).trans q3.mem_iff.symm
 refine hN _ _ ?_
 clear hN N
 rcases q4 with⟨hs,rfl⟩|⟨o,rfl,q5,q6,q7,q8⟩
 ·have hL:L=[]:=List.eq_nil_iff_forall_not_mem.2 fun x hx=>by have:=(pH x).1 hx;rw[hs]at this;cases this
  (try((repeat(revert hN;revert N;apply Pn.out));refine wk @Nat.zero_add ?_;(repeat(refine Pn.mk ?_;intro N hN))))
  refine .inr (aL _ _ _ _ _ (fun r σ2 hq=>?_) (G2 ⟨g1,_⟩))
  obtain⟨g2,x2⟩:=σ2
  obtain⟨rfl,u1,u2⟩:=hq
  (try dsimp only at u1 u2)
  refine hN _ _ ?_
  clear hN N
  (try((repeat(revert hN;revert N;apply Pn.out));refine wk @Nat.zero_add ?_;(repeat(refine Pn.mk ?_;intro N hN))))
  exact ft (.inl rfl) (vs:=[.cr]) (sd @Nat.zero_add) ⟨by(try dsimp only);omega,fun x hx=>(congrFun u2 x).trans (q2 x (by omega)),.inl ⟨hL,rfl⟩⟩
 ·have Bp:ss.length<=1048576:=by rw[q3.length_eq,List.length_map];omega
  (try((repeat(revert hN;revert N;apply Pn.out));refine wk @Nat.zero_add ?_;(repeat(refine Pn.mk ?_;intro N hN))))
  refine .inr (aL _ _ _ _ _ (fun r σ2 hq=>?_) (G3 Rz M3 ss Bp ⟨g1,_⟩ o q5))
  obtain⟨g2,x2⟩:=σ2
  obtain⟨u1,u2,qs,u3,u4,u5,u6⟩:=hq
  (try dsimp only at u1 u2 u3)
  have SD:qs=L:=L8 hR ((oL (mW hR) (fun x hx=>(u5 x).2 ((pH x).1 hx)) (by
   rw[u4]
   exact(oL (mW hR) (fun x hx=>(pH x).1 hx) (Nat.le_antisymm (l7 (mW hR) fun x hx=>(pH x).1 hx) (l7 lN fun x hx=>(pH x).2 hx))).length_eq)).symm) u6
  rw[SD]at u3 u4
  have Qt:L≠[]:=fun e=>by rw[e]at u4;exact q8 (List.eq_nil_of_length_eq_zero u4.symm)
  refine hN _ _ ?_
  clear hN N
  (try((repeat(revert hN;revert N;apply Pn.out));refine wk @Nat.zero_add ?_;(repeat(refine Pn.mk ?_;intro N hN))))
  exact ft (.inl rfl) (vs:=[.own o 0 ss.length]) (sd @Nat.zero_add) ⟨by(try dsimp only);omega,fun x hx=>by
   have h1:x≠o:=fun e=>by rw[e]at hx;omega
   exact(u2 x h1).trans (q2 x (by omega)),.inr ⟨o,by rw[u4];rfl,u3,by omega,by(try dsimp only);omega,Qt⟩⟩
def Kc (z m:Nat) (L:List ae) (v:AV) (g:Rows) (n:Nat):Prop:=(L=[]/\v=.cr)∨∃u:Id,v=.own u 0 L.length/\g u=some ⟨true,3,L.map ad⟩/\m<=u.bm/\u.bm<n/\0<L.length/\u.site=z
theorem Kc.frame {z m:Nat} {L:List ae} {v v':AV} {g g':Rows} {n n':Nat} (h:Kc z m L v g n) (he:v'=v) (hn:n<=n') (hf:∀x:Id,x.bm<n->g' x=g x):Kc z m L v' g' n':=by
 subst he
 rcases h with h|⟨u,h1,h2,h3,h4,h5⟩
 ·exact .inl h
 ·exact .inr ⟨u,h1,(hf u h4).trans h2,h3,by omega,h5⟩
def jm (p:ai) (ks:List Int) (j:Nat):List ae:=(ks.take j).map fun k=>⟨p,k⟩
theorem yn {p:ai} {ks:List Int} {j:Nat} (h:j<ks.length):jm p ks (j+1)=jm p ks j++[⟨p,ks.getD j 0⟩]:=by
 unfold jm
 rw[List.take_succ_eq_append_getElem h,List.map_append]
 simp[List.getD_eq_getElem?_getD,h]
theorem B5 (p:ai) (ks:List Int):jm p ks ks.length=ks.map fun k=>(⟨p,k⟩:ae):=by unfold jm;rw[List.take_length]
theorem Fc {ks:List Int} {j:Nat} (h:j<ks.length):(ks.map aG)[j]? =some [.int .i64 (ks.getD j 0)]:=by simp[aG,List.getD_eq_getElem?_getD,h]
theorem OF {σ:au} {c T O:Id} {s:aD} {l:List ae} (h:HD σ.get σ.next c T O s l) (hT:1<=s.ay) (hS:iA s.aB) (hA:kz s.aB l):
  Call Tryz.prog 74 [.ptr c 0 0] σ (fun r σ'=>σ.next<=σ'.next/\(∀x:Id,x.bm<σ.next->σ'.get x=σ.get x)/\Kc 74008005 σ.next (qV (ew s l) s.aB.ah.length (iw l)) r σ'.get σ'.next):=by
 refine eU eJ rfl fun mM=>?_
 clear mM
 obtain⟨es,hO,hE⟩:=h.op
 have e9:=h.o.row
 have v1:=dz h.o.cv
 have v2:=dz h.o.ov
 have Kq:=hS.yD
 have Gf:=hA.1.Cu
 have Ob:∀q,q∈lE s l↔q∈es.map (·.1):=fun q=>by
  rw[vJ hT hA]
  rcases hE.at_ q trivial with⟨h1,h2⟩|⟨h1,o,h2,_⟩
  ·refine⟨fun h=>absurd h1 h,fun h=>?_⟩
   obtain⟨e,he,rfl⟩:=List.mem_map.1 h
   exact absurd rfl (h2 e he)
  ·exact⟨fun _=>List.mem_map_of_mem (f:=(·.1)) h2,fun _=>h1⟩
 have SC:(lE s l).length<=10000:=by
  have h1:(lE s l).length<=(iw l).length:=List.length_filter_le _ _
  have h2:(iw l).length<=l.length*4:=kO l l.length
  omega
 have hes:es.length<=1000000:=by
  have h1:=l7 hE.nodup fun x hx=>(Ob x).2 hx
  rw[List.length_map]at h1
  omega
 rw[CU]
 have hR:=C8 s l
 have sI:∀q∈lE s l,iI s l q≠[]:=fun q hq=>(vJ hT hA q).1 hq
 generalize lE s l=ps at Ob SC hR sI
 (try((repeat(revert hN;revert N;apply Pn.out));refine wk (tw @e9 @v1) ?_;(repeat(refine Pn.mk ?_;intro N hN))))
 refine .inr (aL _ _ _ _ _ (fun r σ1 hq=>?_) (I1 O _))
 obtain⟨g1,x1⟩:=σ1
 obtain⟨rfl,q1,q2,q3⟩:=hq
 (try dsimp only at q1 q2 q3)
 have hO1:g1 O=some ⟨true,mP.lJ,es.map pz⟩:=(q3 O (by have:=h.o.ov;(try dsimp only);omega)).trans hO
 refine hN _ _ ?_
 clear hN N
 (try((repeat(revert hN;revert N;apply Pn.out));refine wk @Nat.zero_add ?_;(repeat(refine Pn.mk ?_;intro N hN))))
 refine .inr (aL _ _ _ _ _ (fun r σ2 hq=>?_) (JG (σ:=⟨g1,_⟩) q1 hO1 hes (by(try dsimp only);omega) (by have:=h.o.ov;(try dsimp only);omega) ps hR hE.nodup Ob))
 obtain⟨g2,x2⟩:=σ2
 obtain⟨u1,u2,u3⟩:=hq
 (try dsimp only at u1 u2 u3)
 have Ge:∀x:Id,x.bm<σ.next->g2 x=σ.get x:=fun x hx=>(u2 x (by omega)).trans (q3 x (by(try dsimp only);omega))
 refine hN _ _ ?_
 clear hN N
 rcases u3 with⟨hps,rfl⟩|⟨o,rfl,ho,rD,SA,hpne⟩
 ·(try((repeat(revert hN;revert N;apply Pn.out));refine wk @Nat.zero_add ?_;(repeat(refine Pn.mk ?_;intro N hN))))
  refine aO (fun n env st=>(env 15=.int .i64 0/\env 14=.int .i64 0/\env 3=.cr)/\σ.next<=st.next/\∀x:Id,x.bm<σ.next->st.get x=σ.get x) 0 ⟨⟨sd @Nat.zero_add,sl @Nat.zero_add,sd @Nat.zero_add⟩,by(try dsimp only);omega,fun x hx=>Ge x hx⟩ ?_
  rintro m e st ⟨⟨a15,Ky,a3⟩,an,aF⟩ -
  have d0:decide ((0:Int)<0)=false:=rfl
  (try((repeat(revert hN;revert N;apply Pn.out));refine wk (tw @a3 (tw @Ky (tw @a15 @d0))) ?_;(repeat(refine Pn.mk ?_;intro N hN))))
  exact ft (.inl rfl) (vs:=[.cr]) (sd @a3) ⟨by(try dsimp only);omega,fun x hx=>aF x hx,.inl ⟨by rw[hps];rfl,rfl⟩⟩
 ·have Dj:g2 c=some ⟨true,6,[[.sl (s.aB.ax.map bG),.sl (s.aB.ah.map bp),.sl (s.cq.ah.map ad),.int .i64 s.ay,.map T mP,.map O mP]]⟩:=(Ge c h.o.cv).trans e9
  have TA:g2 O=some ⟨true,mP.lJ,es.map pz⟩:=(Ge O h.o.ov).trans hO
  have QG:=h.o.cv
  have Se:=h.o.ov
  (try((repeat(revert hN;revert N;apply Pn.out));refine wk @Nat.zero_add ?_;(repeat(refine Pn.mk ?_;intro N hN))))
  refine aO (fun n env st=>∃k:Nat,n=(ps.length)-k/\k<=(ps.length)/\env 15=.int .i64 (k:Int)/\(x2<=st.next/\(∀x:Id,x.bm<x2->st.get x=g2 x)/\Kc 74008005 x2 (qV (ew s l) s.aB.ah.length (ps.take k)) (env 3) st.get st.next)) (ps.length) ⟨0,by omega,by omega,sl @Nat.zero_add,by(try dsimp only);exact⟨by omega,fun x hx=>sd @Nat.zero_add,.inl ⟨rfl,sd @Nat.zero_add⟩⟩⟩ ?_
  rintro n_a env_a st_a ⟨k,rfl,ale,a15,ke⟩ dv
  have a0:=dv 0 (by kernel_rfl);have Ng:=dv 13 (by kernel_rfl);have Ky:=dv 14 (by kernel_rfl)
  simp only[go_sem, ↓reduceIte,Nat.reduceEqDiff,Nat.reduceAdd,Nat.reduceSub,Nat.reduceLeDiff,reduceCtorEq]at a0 Ng Ky
  clear dv
  obtain⟨an,dv,a3⟩:=ke
  have bl:(qV (ew s l) s.aB.ah.length (ps.take k)).length<=10000*160:=by
   have h2:=ue (ew s l) s.aB.ah.length (ps.take k)
   have h3:(ps.take k).length*s.aB.ah.length<=10000*160:=Nat.mul_le_mul (by rw[List.length_take];omega) Kq
   omega
  by_cases hk:(k:Int)<(ps.length:Int)
  ·have cz:∀{e:Env} {gg:Rows} {nx:Nat},(e 15=.int .i64 (IntKind.i64.wrap ((k:Int)+1)))->(x2<=nx/\(∀x:Id,x.bm<x2->gg x=g2 x)/\Kc 74008005 x2 (qV (ew s l) s.aB.ah.length (ps.take (k+1))) (e 3) gg nx)->∃m0,m0<(ps.length)-k/\∃k:Nat,m0=(ps.length)-k/\k<=(ps.length)/\e 15=.int .i64 (k:Int)/\(x2<=nx/\(∀x:Id,x.bm<x2->gg x=g2 x)/\Kc 74008005 x2 (qV (ew s l) s.aB.ah.length (ps.take k)) (e 3) gg nx):=fun x1 x2=>⟨_,by omega,k+1,rfl,by omega,(by rw[x1,az (by omega)]),x2⟩
   have fa:k<ps.length:=by omega
   have tV:=(dv o SA).trans ho
   have vao:=dz (i:=o) (n:=st_a.next) (by omega)
   have eZ:=tE fa
   have MF:=(dv c (by omega)).trans Dj
   have vac:=dz (i:=c) (n:=st_a.next) (by omega)
   have hgO:=(dv O (by omega)).trans TA
   have vaO:=dz (i:=O) (n:=st_a.next) (by omega)
   obtain⟨o',ze,Uo,Oh⟩:∃o':Id,(jv ps k,AV.own o' 0 (iI s l (jv ps k)).length)∈es/\o'.bm<σ.next/\σ.get o'=some ⟨true,1,(iI s l (jv ps k)).map aG⟩:=by
    rcases hE.at_ (jv ps k) trivial with⟨h1,_⟩|⟨_,o',h2⟩
    ·exact absurd h1 (sI _ (zK fa))
    ·exact⟨o',h2⟩
   obtain⟨fi,E3,_,_,Br,QX⟩:=yi (jv ps k) es
   obtain⟨j0,rfl,PF⟩:∃j,fi=some j/\(es.map pz)[j]? =some [.int .i64 (jv ps k).eM,.int .i64 (jv ps k).eI,.own o' 0 (iI s l (jv ps k)).length]:=by
    cases fi with
    |none=>exact absurd rfl (QX rfl _ ze)
    |some j=>
     obtain⟨v,hv⟩:=Br j rfl
     have e:=Ly hE.nodup (List.mem_of_getElem? hv) ze
     subst e
     exact⟨j,rfl,by rw[List.getElem?_map,hv];rfl⟩
   have Hs:=AA (B:=ew s l) (m:=s.aB.ah.length) fa
   have fo:HS (ew s l) (jv ps k) s.aB.ah.length=(iI s l (jv ps k)).map fun t=>(⟨jv ps k,t⟩:ae):=yQ _ _ _
   rw[fo,<-B5]at Hs
   have Ll:(iI s l (jv ps k)).length<=160:=by
    have:=rn (ew s l) (jv ps k) s.aB.ah.length
    unfold iI;omega
   generalize jv ps k=q at E3 PF ze Oh eZ Hs Ll
   generalize iI s l q=us at PF ze Oh Hs Ll
   generalize qV (ew s l) s.aB.ah.length (ps.take k)=L at a3 bl Hs
   (try((repeat(revert hN;revert N;apply Pn.out));refine wk (tw @a15 (tw @a0 (tw @Ng (tw @Ky (tw @hk (tw @tV (tw @vao (tw @eZ (tw @MF (tw @vac (tw @hgO (tw @vaO (tw @E3 (tw @PF @ab.eq_1)))))))))))))) ?_;(repeat(refine Pn.mk ?_;intro N hN))))
   refine aO (fun n env st=>∃j:Nat,n=(us.length)-j/\j<=(us.length)/\env 26=.int .i64 (j:Int)/\st.get ⟨74004002,st_a.next+1⟩=some ⟨true,2,[ab q]⟩/\(st_a.next+2<=st.next/\(∀x:Id,x.bm<x2->st.get x=g2 x)/\Kc 74008005 x2 (L++jm q us j) (env 3) st.get st.next)) (us.length) ⟨0,by omega,by omega,sl (tw @a15 (tw @a0 (tw @Ng (tw @Ky @ab.eq_1)))),sl (tw @a15 (tw @a0 (tw @Ng (tw @Ky @ab.eq_1)))),by(try dsimp only);exact⟨by omega,fun x hx=>by
    have h2:=dz (i:=x) (n:=st_a.next) (by omega)
    have h3:=dv x hx
    simp only[go_sem, ↓reduceIte,Nat.reduceEqDiff,Nat.reduceAdd,Nat.reduceSub,Nat.reduceLeDiff,reduceCtorEq,h2,h3],by
    rw[show jm q us 0=[]from rfl,List.append_nil]
    exact a3.frame (sd @Nat.zero_add) (by omega) fun x hx=>by
     have h2:=dz hx
     simp only[go_sem, ↓reduceIte,Nat.reduceEqDiff,Nat.reduceAdd,Nat.reduceSub,Nat.reduceLeDiff,reduceCtorEq,h2]⟩⟩ ?_
   rintro n_b env_b st_b ⟨j,rfl,ble,b26,bg0,bI0⟩ eV
   have b0:=eV 0 (by kernel_rfl);have b5:=eV 5 (by kernel_rfl);have CQ:=eV 13 (by kernel_rfl);have Nn:=eV 14 (by kernel_rfl);have Np:=eV 15 (by kernel_rfl);have Nq:=eV 24 (by kernel_rfl);have Nr:=eV 25 (by kernel_rfl)
   simp only[go_sem, ↓reduceIte,Nat.reduceEqDiff,Nat.reduceAdd,Nat.reduceSub,Nat.reduceLeDiff,reduceCtorEq,a15,a0,Ng,Ky,ab]at b0 b5 CQ Nn Np Nq Nr
   clear eV
   obtain⟨bn,eV,b3⟩:=bI0
   have SQ:=dz (i:=⟨74004002,st_a.next+1⟩) (n:=st_b.next) (by(try dsimp only);omega)
   have Sa:(L++jm q us j).length<=16777214:=by
    have:(jm q us j).length<=us.length:=by unfold jm;simp;omega
    rw[List.length_append];omega
   by_cases hj:(j:Int)<(us.length:Int)
   ·have fh:∀{e:Env} {gg:Rows} {nx:Nat},(e 26=.int .i64 (IntKind.i64.wrap ((j:Int)+1)))->(gg ⟨74004002,st_a.next+1⟩=some ⟨true,2,[ab q]⟩)->(st_a.next+2<=nx/\(∀x:Id,x.bm<x2->gg x=g2 x)/\Kc 74008005 x2 (L++jm q us (j+1)) (e 3) gg nx)->∃m0,m0<(us.length)-j/\∃j:Nat,m0=(us.length)-j/\j<=(us.length)/\e 26=.int .i64 (j:Int)/\gg ⟨74004002,st_a.next+1⟩=some ⟨true,2,[ab q]⟩/\(st_a.next+2<=nx/\(∀x:Id,x.bm<x2->gg x=g2 x)/\Kc 74008005 x2 (L++jm q us j) (e 3) gg nx):=fun x1 x2 x3=>⟨_,by omega,j+1,rfl,by omega,(by rw[x1,az (by omega)]),x2,x3⟩
    have ia:j<us.length:=by omega
    have wT:=yn (p:=q) ia
    have zf:=Fc ia
    have QP:=(eV o' (by omega)).trans ((Ge o' Uo).trans Oh)
    have RD:=dz (i:=o') (n:=st_b.next) (by omega)
    have K7:(us.map aG).length=us.length:=by simp
    have F9:L++jm q us (j+1)=(L++jm q us j)++[⟨q,us.getD j 0⟩]:=by rw[wT,List.append_assoc]
    generalize us.getD j 0=t at zf F9
    generalize L++jm q us j=M at b3 Sa F9
    have xW:(M++[(⟨q,t⟩:ae)]).length=M.length+1:=by simp
    have xf:(M++[(⟨q,t⟩:ae)]).map ad=M.map ad++[[.int .i64 q.eM,.int .i64 q.eI,.int .i64 t]]:=by rw[List.map_append];rfl
    rcases b3 with⟨hM,b3⟩|⟨u,b3,hug,hum,huv,hul0,UB⟩
    ·subst hM
     (try((repeat(revert hN;revert N;apply Pn.out));refine wk (tw @b26 (tw @bg0 (tw @b0 (tw @b5 (tw @CQ (tw @Nn (tw @Np (tw @Nq (tw @Nr (tw @hj (tw @zf (tw @QP (tw @RD (tw @K7 (tw @b3 (tw @SQ @ab.eq_1)))))))))))))))) ?_;(repeat(refine Pn.mk ?_;intro N hN))))
     refine fh ?_ ?_ (by(try dsimp only);exact⟨by omega,fun x hx=>by
      have h2:=dz (i:=x) (n:=st_b.next) (by omega)
      have h3:=eV x hx
      simp only[go_sem, ↓reduceIte,Nat.reduceEqDiff,Nat.reduceAdd,Nat.reduceSub,Nat.reduceLeDiff,reduceCtorEq,h2,h3],.inr ⟨⟨74008005,st_b.next+1+1⟩,by rw[F9,xW];simp only[go_sem, ↓reduceIte,Nat.reduceEqDiff,Nat.reduceAdd,Nat.reduceSub,Nat.reduceLeDiff,reduceCtorEq]<;>rfl,by rw[F9,xf];simp only[go_sem, ↓reduceIte,Nat.reduceEqDiff,Nat.reduceAdd,Nat.reduceSub,Nat.reduceLeDiff,reduceCtorEq]<;>rfl,by(try dsimp only);omega,by(try dsimp only);omega,by rw[F9,xW];omega,rfl⟩⟩)
     all_goals simp only[go_sem, ↓reduceIte,Nat.reduceEqDiff,Nat.reduceAdd,Nat.reduceSub,Nat.reduceLeDiff,reduceCtorEq,b26,bg0,b0,b5,CQ,Nn,Np,Nq,Nr,SQ,ab]
    ·have vub:=dz huv
     have lY:(M.map ad).length=M.length:=by simp
     have hM1:M.length<=16777215:=by omega
     have ux:=gy UB (b:=74004002) (v:=st_a.next+1) (by decide)
     (try((repeat(revert hN;revert N;apply Pn.out));refine wk (tw @b26 (tw @bg0 (tw @b0 (tw @b5 (tw @CQ (tw @Nn (tw @Np (tw @Nq (tw @Nr (tw @hj (tw @zf (tw @QP (tw @RD (tw @K7 (tw @b3 (tw @hug (tw @vub (tw @lY (tw @hM1 (tw @SQ (tw @ux @ab.eq_1))))))))))))))))))))) ?_;(repeat(refine Pn.mk ?_;intro N hN))))
     refine fh ?_ ?_ (by(try dsimp only);exact⟨by omega,fun x hx=>by
      have h2:=dz (i:=x) (n:=st_b.next) (by omega)
      have h4:=dq (a:=x) (b:=u) (by omega)
      have h3:=eV x hx
      simp only[go_sem, ↓reduceIte,Nat.reduceEqDiff,Nat.reduceAdd,Nat.reduceSub,Nat.reduceLeDiff,reduceCtorEq,h2,h3,h4],.inr ⟨⟨74008005,st_b.next+1+1⟩,by rw[F9,xW];simp only[go_sem, ↓reduceIte,Nat.reduceEqDiff,Nat.reduceAdd,Nat.reduceSub,Nat.reduceLeDiff,reduceCtorEq]<;>rfl,by rw[F9,xf];simp only[go_sem, ↓reduceIte,Nat.reduceEqDiff,Nat.reduceAdd,Nat.reduceSub,Nat.reduceLeDiff,reduceCtorEq]<;>rfl,by(try dsimp only);omega,by(try dsimp only);omega,by rw[F9,xW];omega,rfl⟩⟩)
     all_goals simp only[go_sem, ↓reduceIte,Nat.reduceEqDiff,Nat.reduceAdd,Nat.reduceSub,Nat.reduceLeDiff,reduceCtorEq,b26,bg0,b0,b5,CQ,Nn,Np,Nq,Nr,SQ,ux,ab]
   ·have Ub:j=us.length:=by omega
    subst Ub
    (try((repeat(revert hN;revert N;apply Pn.out));refine wk (tw @b26 (tw @bg0 (tw @b0 (tw @b5 (tw @CQ (tw @Nn (tw @Np (tw @Nq (tw @Nr @hj))))))))) ?_;(repeat(refine Pn.mk ?_;intro N hN))))
    exact cz (sd (tw @a15 (tw @a0 (tw @Ng (tw @Ky (tw @b26 (tw @bg0 (tw @b0 (tw @b5 (tw @CQ (tw @Nn (tw @Np (tw @Nq @Nr))))))))))))) (by(try dsimp only);exact⟨by omega,fun x hx=>eV x hx,by
     rw[Hs]
     exact b3.frame (sd @Nat.zero_add) (by omega) fun x hx=>rfl⟩)
  ·have k8:k=ps.length:=by omega
   subst k8
   rw[List.take_length]at a3
   (try((repeat(revert hN;revert N;apply Pn.out));refine wk (tw @a15 (tw @a0 (tw @Ng (tw @Ky @hk)))) ?_;(repeat(refine Pn.mk ?_;intro N hN))))
   exact ft (.inl rfl) (vs:=[env_a 3]) (sd @Nat.zero_add) ⟨by(try dsimp only);omega,fun x hx=>(dv x (by omega)).trans (Ge x hx),by
    rcases a3 with h1|⟨u,h1,h2,h3,h4,h5⟩
    ·exact .inl h1
    ·exact .inr ⟨u,h1,h2,by omega,by(try dsimp only);omega,h5⟩⟩
end Go.Proofs.YtgoelphibofcmaaGreat.V

namespace Go.Proofs.YtgoelphibofcmaaGreat.V
open Go.RowKit
attribute [local irreducible] eb wpOps gj Call
attribute [local go_sem] aJ fM eP fZ fY cL upd cu K.av cN AV.cells AV.cell rowOf rowsOf part ld rowAt bI bW dD ee gT bL dc ev fU eY dr ej da cZ dO dR bR aX cR bQ cV cU eh ek ei cQ bV db ef bP aP cX cE gS bw cJ bU aW dx bj dE AV.undef bD bF dV ec dI dS cF eu eB cD ep eo cW cY List.getD_cons_zero List.getD_cons_succ List.getD_nil List.all_cons List.all_nil Bool.and_true Bool.true_and Bool.and_self Bool.not_true Bool.not_false Option.map_some Option.map_none Option.bind_some Option.bind_none List.length_cons List.length_nil List.take_succ_cons List.take_zero List.take_nil List.drop_succ_cons List.drop_zero List.drop_nil List.head?_cons List.map_cons List.map_nil List.getElem?_cons_zero List.getElem?_cons_succ List.cons_append List.nil_append List.append_nil List.length_map List.set_cons_zero List.set_cons_succ Nat.reduceMul eq_self Int.toNat_natCast Int.natCast_nonneg and_self true_and and_true decide_true decide_false Bool.false_eq_true Nat.zero_add Nat.add_zero List.contains_cons List.contains_nil Bool.or_false Bool.false_or beq_self_eq_true Nat.reduceBEq ne_eq not_true_eq_false not_false_eq_true Id.mk.injEq false_and and_false Nat.reduceLT Int.reduceLE Int.reduceLT Int.reduceToNat Int.reduceNeg Int.reduceAdd Nat.le_refl List.length_append beq_true beq_false Bool.not_eq_eq_eq_not or_false false_or dM aj aq aH bd bz ck aU bf aT aZ cP bH
end Go.Proofs.YtgoelphibofcmaaGreat.V

namespace Go.Proofs.YtgoelphibofcmaaGreat.V
open Go.RowKit
attribute [local irreducible] eb wpOps gj Call
attribute [local go_sem] aJ fM eP fZ fY cL upd cu K.av cN AV.cells AV.cell rowOf rowsOf part ld rowAt bI bW dD ee gT bL dc ev fU eY dr ej da cZ dO dR bR aX cR bQ cV cU eh ek ei cQ bV db ef bP aP cX cE gS bw cJ bU aW dx bj dE AV.undef bD bF dV ec dI dS cF eu eB cD ep eo cW cY List.getD_cons_zero List.getD_cons_succ List.getD_nil List.all_cons List.all_nil Bool.and_true Bool.true_and Bool.and_self Bool.not_true Bool.not_false Option.map_some Option.map_none Option.bind_some Option.bind_none List.length_cons List.length_nil List.take_succ_cons List.take_zero List.take_nil List.drop_succ_cons List.drop_zero List.drop_nil List.head?_cons List.map_cons List.map_nil List.getElem?_cons_zero List.getElem?_cons_succ List.cons_append List.nil_append List.append_nil List.length_map List.set_cons_zero List.set_cons_succ Nat.reduceMul eq_self Int.toNat_natCast Int.natCast_nonneg and_self true_and and_true decide_true decide_false Bool.false_eq_true Nat.zero_add Nat.add_zero List.contains_cons List.contains_nil Bool.or_false Bool.false_or beq_self_eq_true Nat.reduceBEq ne_eq not_true_eq_false not_false_eq_true Id.mk.injEq false_and and_false Nat.reduceLT Int.reduceLE Int.reduceLT Int.reduceToNat Int.reduceNeg Int.reduceAdd Nat.le_refl List.length_append beq_true beq_false Bool.not_eq_eq_eq_not or_false false_or dM aj aq aH bd bz ck aU bf aT aZ cP bH
end Go.Proofs.YtgoelphibofcmaaGreat.V

namespace Go.Proofs.YtgoelphibofcmaaGreat.V
open Go.RowKit
end Go.Proofs.YtgoelphibofcmaaGreat.V

namespace Go.Proofs.YtgoelphibofcmaaGreat.V
open Go.RowKit
end Go.Proofs.YtgoelphibofcmaaGreat.V

namespace Go.Proofs.YtgoelphibofcmaaGreat.V
open Go.RowKit
attribute [local irreducible] eb wpOps gj Call
attribute [local go_sem] aJ fM eP fZ fY cL upd cu K.av cN AV.cells AV.cell rowOf rowsOf part ld rowAt bI bW dD ee gT bL dc ev fU eY dr ej da cZ dO dR bR aX cR bQ cV cU eh ek ei cQ bV db ef bP aP cX cE gS bw cJ bU aW dx bj dE AV.undef bD bF dV ec dI dS cF eu eB cD ep eo cW cY List.getD_cons_zero List.getD_cons_succ List.getD_nil List.all_cons List.all_nil Bool.and_true Bool.true_and Bool.and_self Bool.not_true Bool.not_false Option.map_some Option.map_none Option.bind_some Option.bind_none List.length_cons List.length_nil List.take_succ_cons List.take_zero List.take_nil List.drop_succ_cons List.drop_zero List.drop_nil List.head?_cons List.map_cons List.map_nil List.getElem?_cons_zero List.getElem?_cons_succ List.cons_append List.nil_append List.append_nil List.length_map List.set_cons_zero List.set_cons_succ Nat.reduceMul eq_self Int.toNat_natCast Int.natCast_nonneg and_self true_and and_true decide_true decide_false Bool.false_eq_true Nat.zero_add Nat.add_zero List.contains_cons List.contains_nil Bool.or_false Bool.false_or beq_self_eq_true Nat.reduceBEq ne_eq not_true_eq_false not_false_eq_true Id.mk.injEq false_and and_false Nat.reduceLT Int.reduceLE Int.reduceLT Int.reduceToNat Int.reduceNeg Int.reduceAdd Nat.le_refl List.length_append beq_true beq_false Bool.not_eq_eq_eq_not or_false false_or dM aj aq aH bd bz ck aU bf aT aZ cP bH
end Go.Proofs.YtgoelphibofcmaaGreat.V

namespace Go.Proofs.YtgoelphibofcmaaGreat.V
open Go.RowKit
attribute [local irreducible] eb wpOps gj Call
attribute [local go_sem] aJ fM eP fZ fY cL upd cu K.av cN AV.cells AV.cell rowOf rowsOf part ld rowAt bI bW dD ee gT bL dc ev fU eY dr ej da cZ dO dR bR aX cR bQ cV cU eh ek ei cQ bV db ef bP aP cX cE gS bw cJ bU aW dx bj dE AV.undef bD bF dV ec dI dS cF eu eB cD ep eo cW cY List.getD_cons_zero List.getD_cons_succ List.getD_nil List.all_cons List.all_nil Bool.and_true Bool.true_and Bool.and_self Bool.not_true Bool.not_false Option.map_some Option.map_none Option.bind_some Option.bind_none List.length_cons List.length_nil List.take_succ_cons List.take_zero List.take_nil List.drop_succ_cons List.drop_zero List.drop_nil List.head?_cons List.map_cons List.map_nil List.getElem?_cons_zero List.getElem?_cons_succ List.cons_append List.nil_append List.append_nil List.length_map List.set_cons_zero List.set_cons_succ Nat.reduceMul eq_self Int.toNat_natCast Int.natCast_nonneg and_self true_and and_true decide_true decide_false Bool.false_eq_true Nat.zero_add Nat.add_zero List.contains_cons List.contains_nil Bool.or_false Bool.false_or beq_self_eq_true Nat.reduceBEq ne_eq not_true_eq_false not_false_eq_true Id.mk.injEq false_and and_false Nat.reduceLT Int.reduceLE Int.reduceLT Int.reduceToNat Int.reduceNeg Int.reduceAdd Nat.le_refl List.length_append beq_true beq_false Bool.not_eq_eq_eq_not or_false false_or dM aj aq aH bd bz ck aU bf aT aZ cP bH
def iK (p:ai->Bool) (l:List ai):List ai:=l.filter fun x=> !p x
theorem qw {p:ai->Bool} {l:List ai} {j:Nat} (hj:j<l.length):iK p (l.take (j+1))=iK p (l.take j)++if p l[j]=true then[]else[l[j]]:=by
 unfold iK
 rw[List.take_succ_eq_append_getElem hj,List.filter_append]
 congr 1
 cases h:p l[j]<;>simp[h]
theorem DH {p:ai->Bool} {l:List ai} (h:∀b∈l,p b=false):iK p l=l:=by
 unfold iK
 rw[List.filter_eq_self]
 intro b hb
 rw[h b hb];rfl
structure Kb (p:ai->Bool) (bs:List ai) (j:Nat) (R:List ai):Prop where
 len:R.length=bs.length
 pre:R.take (iK p (bs.take j)).length=iK p (bs.take j)
 post:∀x,j<=x->R[x]? =bs[x]?
 lt:(iK p (bs.take j)).length<j
theorem Kb.start {p:ai->Bool} {bs:List ai} {i:Nat} (hi:i<bs.length) (hw:p bs[i]=true) (hp:∀x (h:x<i),p bs[x]=false):Kb p bs (i+1) bs/\(iK p (bs.take (i+1))).length=i:=by
 have h1:iK p (bs.take i)=bs.take i:=DH fun b hb=>by
  obtain⟨x,hx,rfl⟩:=List.getElem_of_mem hb
  rw[List.length_take]at hx
  rw[List.getElem_take]
  exact hp x (by omega)
 have h2:iK p (bs.take (i+1))=bs.take i:=by rw[qw hi,if_pos hw,List.append_nil,h1]
 have h3:(bs.take i).length=i:=by rw[List.length_take];omega
 exact⟨⟨rfl,by rw[h2,h3],fun _ _=>rfl,by rw[h2,h3];omega⟩,by rw[h2,h3]⟩
theorem Kb.RG {p:ai->Bool} {bs R:List ai} {j:Nat} (h:Kb p bs j R) (hj:j<bs.length) (hw:p bs[j]=true):Kb p bs (j+1) R/\(iK p (bs.take (j+1))).length=(iK p (bs.take j)).length:=by
 have h2:iK p (bs.take (j+1))=iK p (bs.take j):=by rw[qw hj,if_pos hw,List.append_nil]
 exact⟨⟨h.len,by rw[h2];exact h.pre,fun x hx=>h.post x (by omega),by rw[h2];have:=h.lt;omega⟩,by rw[h2]⟩
theorem Kb.tZ {p:ai->Bool} {bs R:List ai} {j:Nat} (h:Kb p bs j R) (hj:j<bs.length) (hw:p bs[j]=false):Kb p bs (j+1) (R.set (iK p (bs.take j)).length bs[j])/\(iK p (bs.take (j+1))).length=(iK p (bs.take j)).length+1:=by
 have h2:iK p (bs.take (j+1))=iK p (bs.take j)++[bs[j]]:=by rw[qw hj,hw];rfl
 have dP:=h.lt
 have hlen:=h.len
 have tW:=h.pre
 generalize hc:(iK p (bs.take j)).length=c at *
 refine⟨⟨by rw[List.length_set];exact hlen,?_,fun x hx=>?_,by rw[h2,List.length_append,hc];simp;omega⟩,by rw[h2,List.length_append,hc];rfl⟩
 ·rw[h2,List.length_append,hc,List.length_singleton,List.take_succ_eq_append_getElem (by rw[List.length_set];omega),List.getElem_set_self,List.take_set_of_le (Nat.le_refl _),tW]
 ·rw[List.getElem?_set_ne (by omega)];exact h.post x (by omega)
theorem Kb.at_ {p:ai->Bool} {bs R:List ai} {j:Nat} (h:Kb p bs j R) (hj:j<bs.length):(R.map ab)[j]? =some (ab bs[j]):=by
 rw[List.getElem?_map,h.post j (Nat.le_refl j),List.getElem?_eq_getElem hj];rfl
end Go.Proofs.YtgoelphibofcmaaGreat.V

namespace Go.Proofs.YtgoelphibofcmaaGreat.V
open Go.RowKit
attribute [local irreducible] eb wpOps gj Call
attribute [local go_sem] aJ fM eP fZ fY cL upd cu K.av cN AV.cells AV.cell rowOf rowsOf part ld rowAt bI bW dD ee gT bL dc ev fU eY dr ej da cZ dO dR bR aX cR bQ cV cU eh ek ei cQ bV db ef bP aP cX cE gS bw cJ bU aW dx bj dE AV.undef bD bF dV ec dI dS cF eu eB cD ep eo cW cY List.getD_cons_zero List.getD_cons_succ List.getD_nil List.all_cons List.all_nil Bool.and_true Bool.true_and Bool.and_self Bool.not_true Bool.not_false Option.map_some Option.map_none Option.bind_some Option.bind_none List.length_cons List.length_nil List.take_succ_cons List.take_zero List.take_nil List.drop_succ_cons List.drop_zero List.drop_nil List.head?_cons List.map_cons List.map_nil List.getElem?_cons_zero List.getElem?_cons_succ List.cons_append List.nil_append List.append_nil List.length_map List.set_cons_zero List.set_cons_succ Nat.reduceMul eq_self Int.toNat_natCast Int.natCast_nonneg and_self true_and and_true decide_true decide_false Bool.false_eq_true Nat.zero_add Nat.add_zero List.contains_cons List.contains_nil Bool.or_false Bool.false_or beq_self_eq_true Nat.reduceBEq ne_eq not_true_eq_false not_false_eq_true Id.mk.injEq false_and and_false Nat.reduceLT Int.reduceLE Int.reduceLT Int.reduceToNat Int.reduceNeg Int.reduceAdd Nat.le_refl List.length_append beq_true beq_false Bool.not_eq_eq_eq_not or_false false_or dM aj aq aH bd bz ck aU bf aT aZ cP bH
end Go.Proofs.YtgoelphibofcmaaGreat.V

namespace Go.Proofs.YtgoelphibofcmaaGreat.V
open Go.RowKit
attribute [local irreducible] eb wpOps gj Call
attribute [local go_sem] aJ fM eP fZ fY cL upd cu K.av cN AV.cells AV.cell rowOf rowsOf part ld rowAt bI bW dD ee gT bL dc ev fU eY dr ej da cZ dO dR bR aX cR bQ cV cU eh ek ei cQ bV db ef bP aP cX cE gS bw cJ bU aW dx bj dE AV.undef bD bF dV ec dI dS cF eu eB cD ep eo cW cY List.getD_cons_zero List.getD_cons_succ List.getD_nil List.all_cons List.all_nil Bool.and_true Bool.true_and Bool.and_self Bool.not_true Bool.not_false Option.map_some Option.map_none Option.bind_some Option.bind_none List.length_cons List.length_nil List.take_succ_cons List.take_zero List.take_nil List.drop_succ_cons List.drop_zero List.drop_nil List.head?_cons List.map_cons List.map_nil List.getElem?_cons_zero List.getElem?_cons_succ List.cons_append List.nil_append List.append_nil List.length_map List.set_cons_zero List.set_cons_succ Nat.reduceMul eq_self Int.toNat_natCast Int.natCast_nonneg and_self true_and and_true decide_true decide_false Bool.false_eq_true Nat.zero_add Nat.add_zero List.contains_cons List.contains_nil Bool.or_false Bool.false_or beq_self_eq_true Nat.reduceBEq ne_eq not_true_eq_false not_false_eq_true Id.mk.injEq false_and and_false Nat.reduceLT Int.reduceLE Int.reduceLT Int.reduceToNat Int.reduceNeg Int.reduceAdd Nat.le_refl List.length_append beq_true beq_false Bool.not_eq_eq_eq_not or_false false_or dM aj aq aH bd bz ck aU bf aT aZ cP bH
end Go.Proofs.YtgoelphibofcmaaGreat.V

namespace Go.Proofs.YtgoelphibofcmaaGreat.V
open Go.RowKit
attribute [local irreducible] eb wpOps gj Call
attribute [local go_sem] aJ fM eP fZ fY cL upd cu K.av cN AV.cells AV.cell rowOf rowsOf part ld rowAt bI bW dD ee gT bL dc ev fU eY dr ej da cZ dO dR bR aX cR bQ cV cU eh ek ei cQ bV db ef bP aP cX cE gS bw cJ bU aW dx bj dE AV.undef bD bF dV ec dI dS cF eu eB cD ep eo cW cY List.getD_cons_zero List.getD_cons_succ List.getD_nil List.all_cons List.all_nil Bool.and_true Bool.true_and Bool.and_self Bool.not_true Bool.not_false Option.map_some Option.map_none Option.bind_some Option.bind_none List.length_cons List.length_nil List.take_succ_cons List.take_zero List.take_nil List.drop_succ_cons List.drop_zero List.drop_nil List.head?_cons List.map_cons List.map_nil List.getElem?_cons_zero List.getElem?_cons_succ List.cons_append List.nil_append List.append_nil List.length_map List.set_cons_zero List.set_cons_succ Nat.reduceMul eq_self Int.toNat_natCast Int.natCast_nonneg and_self true_and and_true decide_true decide_false Bool.false_eq_true Nat.zero_add Nat.add_zero List.contains_cons List.contains_nil Bool.or_false Bool.false_or beq_self_eq_true Nat.reduceBEq ne_eq not_true_eq_false not_false_eq_true Id.mk.injEq false_and and_false Nat.reduceLT Int.reduceLE Int.reduceLT Int.reduceToNat Int.reduceNeg Int.reduceAdd Nat.le_refl List.length_append beq_true beq_false Bool.not_eq_eq_eq_not or_false false_or dM aj aq aH bd bz ck aU bf aT aZ cP bH
theorem y9 (s:aD) (l:List ae) (hn:gD s.aB) (hm:qS s) (hl:l.length<=1048576):ar Tryz.prog 63 [.agg (aC s),.agg [.sl (l.map ad)]] (.int .i64 (if tM s l then 0 else 1)):=by
 refine ar.body eJ rfl fun mM n0=>?_
 clear mM
 have h1:=wZ Nt s hn hm.s.g hm.s.t hm.s.s hm.a
 have h2:=ns s.aB l hn hm.s.g hm.s.t hm.s.s hl
 cases b1:ni s
 ·rw[b1]at h1
  rw[aC]at h1 ⊢
  (repeat(first|((repeat(revert hN;revert N;apply Pn.out));refine wk @Nat.zero_add ?_;(repeat(refine Pn.mk ?_;intro N hN)))|((try apply Or.inl);refine⟨_,ar.x (h1) (sd @Nat.zero_add),?_⟩;refine hN _ _ ?_;clear hN N)))
  exact cC (b:=1) (.inl rfl) (sd @Nat.zero_add) (by simp[tM,b1])
 have dQ:qJ s.aB=true:=ma.2 (wH.1 b1).set
 rw[b1]at h1
 rw[dQ,Bool.true_and]at h2
 rw[aC]at h1 ⊢
 rw[aa]at h2
 cases b2:pr s.aB l
 ·rw[b2]at h2
  (repeat(first|((repeat(revert hN;revert N;apply Pn.out));refine wk @Nat.zero_add ?_;(repeat(refine Pn.mk ?_;intro N hN)))|((try apply Or.inl);refine⟨_,ar.x (h1) (sd @Nat.zero_add),?_⟩;refine hN _ _ ?_;clear hN N)|((try apply Or.inl);refine⟨_,ar.x (h2) (sd @Nat.zero_add),?_⟩;refine hN _ _ ?_;clear hN N)))
  exact cC (b:=1) (.inl rfl) (sd @Nat.zero_add) (by simp[tM,b1,b2])
 ·rw[b2]at h2
  (repeat(first|((repeat(revert hN;revert N;apply Pn.out));refine wk @Nat.zero_add ?_;(repeat(refine Pn.mk ?_;intro N hN)))|((try apply Or.inl);refine⟨_,ar.x (h1) (sd @Nat.zero_add),?_⟩;refine hN _ _ ?_;clear hN N)|((try apply Or.inl);refine⟨_,ar.x (h2) (sd @Nat.zero_add),?_⟩;refine hN _ _ ?_;clear hN N)))
  exact cC (b:=0) (.inl rfl) (sd @Nat.zero_add) (by simp[tM,b1,b2])
end Go.Proofs.YtgoelphibofcmaaGreat.V

namespace Go.Proofs.YtgoelphibofcmaaGreat.V
open Go.RowKit
attribute [local irreducible] eb wpOps gj Call
attribute [local go_sem] aJ fM eP fZ fY cL upd cu K.av cN AV.cells AV.cell rowOf rowsOf part ld rowAt bI bW dD ee gT bL dc ev fU eY dr ej da cZ dO dR bR aX cR bQ cV cU eh ek ei cQ bV db ef bP aP cX cE gS bw cJ bU aW dx bj dE AV.undef bD bF dV ec dI dS cF eu eB cD ep eo cW cY List.getD_cons_zero List.getD_cons_succ List.getD_nil List.all_cons List.all_nil Bool.and_true Bool.true_and Bool.and_self Bool.not_true Bool.not_false Option.map_some Option.map_none Option.bind_some Option.bind_none List.length_cons List.length_nil List.take_succ_cons List.take_zero List.take_nil List.drop_succ_cons List.drop_zero List.drop_nil List.head?_cons List.map_cons List.map_nil List.getElem?_cons_zero List.getElem?_cons_succ List.cons_append List.nil_append List.append_nil List.length_map List.set_cons_zero List.set_cons_succ Nat.reduceMul eq_self Int.toNat_natCast Int.natCast_nonneg and_self true_and and_true decide_true decide_false Bool.false_eq_true Nat.zero_add Nat.add_zero List.contains_cons List.contains_nil Bool.or_false Bool.false_or beq_self_eq_true Nat.reduceBEq ne_eq not_true_eq_false not_false_eq_true Id.mk.injEq false_and and_false Nat.reduceLT Int.reduceLE Int.reduceLT Int.reduceToNat Int.reduceNeg Int.reduceAdd Nat.le_refl List.length_append beq_true beq_false Bool.not_eq_eq_eq_not or_false false_or dM aj aq aH bd bz ck aU bf aT aZ cP bH
noncomputable def qU (s:aD) (l:List ae):Int:=if tM s l then 0 else 1
theorem Ax {s:aD} {l:List ae}:qU s l=0↔CK s/\kz s.aB l:=by
 unfold qU
 rw[<-HO]
 cases tM s l<;>simp
noncomputable def qG (s:aD) (l:List ae):List ae×Int:=if qU s l=0 then(qV (ew s l) s.aB.ah.length (iw l),0)else([],qU s l)
theorem zo (s:aD) (hP:CK s) (l:List ae) (hA:kz s.aB l):ar Tryz.prog 86 [.dj (aC s),.dj [.sl (l.map ad)]] (.sl ((qV (ew s l) s.aB.ah.length (iw l)).map ad)):=by
 refine ar.body eJ rfl fun mM n0=>?_
 clear mM
 have hS:=hP.set
 have Kq:=hS.yD
 have Gf:=hA.1.Cu
 have hlen:=kO l l.length
 have xW:eG l l.length=iw l:=rfl
 rw[xW]at hlen
 have hnp:∀x∈iw l,Ao l x:=fun x hx=>(yh l x).1 hx
 have hnv:=fun σ=>GA l hA.1 σ
 clear xW
 generalize iw l=ps at hlen hnp hnv ⊢
 (try((repeat(revert hN;revert N;apply Pn.out));refine wk @Nat.zero_add ?_;(repeat(refine Pn.mk ?_;intro N hN))))
 refine .inr (aL _ _ _ _ _ (fun r σ1 hq=>?_) (hnv _))
 obtain⟨g1,x1⟩:=σ1
 obtain⟨o0,rfl,q1,q2,q3,q4,q5⟩:=hq
 (try dsimp only at q1 q2 q3 q4 q5)
 have q6:=q5 ⟨86001000,n0+1⟩ (by(try dsimp only);omega) trivial
 simp only[go_sem, ↓reduceIte,Nat.reduceEqDiff,Nat.reduceAdd,Nat.reduceSub,Nat.reduceLeDiff,reduceCtorEq]at q6
 have on:n0+2<=o0.bm:=by rcases q4 with h|h;omega;exact absurd trivial h
 clear q4 q5
 refine hN _ _ ?_
 clear hN N
 (try((repeat(revert hN;revert N;apply Pn.out));refine wk (tw @q1 @q6) ?_;(repeat(refine Pn.mk ?_;intro N hN))))
 refine aO (fun n env st=>∃k:Nat,n=(ps.length)-k/\k<=(ps.length)/\env 7=.int .i64 (k:Int)/\st.get o0=some ⟨true,2,ps.map ab⟩/\(∃o:Id,env 5=.own o 0 (qV (ew s l) s.aB.ah.length (ps.take k)).length/\st.get o=some ⟨true,3,(qV (ew s l) s.aB.ah.length (ps.take k)).map ad⟩/\o.bm<st.next/\o0.bm<st.next/\o≠o0)) (ps.length) ⟨0,by omega,by omega,sl (tw @q1 @q6),sl (tw @q1 @q6),by(try dsimp only);exact⟨⟨86001000,n0+1⟩,sl @Nat.zero_add,sl @q6,by(try dsimp only);omega,by omega,fun e=>by rw[<-e]at on;(try dsimp only at on);omega⟩⟩ ?_
 rintro n_a env_a st_a ⟨k,rfl,ale,a7,ag0,ke⟩ dv
 have a0:=dv 0 (by kernel_rfl);have a1:=dv 1 (by kernel_rfl);have a6:=dv 6 (by kernel_rfl)
 simp only[go_sem, ↓reduceIte,Nat.reduceEqDiff,Nat.reduceAdd,Nat.reduceSub,Nat.reduceLeDiff,reduceCtorEq,q1,q6]at a0 a1 a6
 clear dv
 obtain⟨o,a5,ao,S5,RV,S4⟩:=ke
 have vo:=dz S5
 have v0:=dz RV
 have Q0:=eq_false S4
 have hoo2:=eq_false (fun e:o0=o=>S4 e.symm)
 have hB:(qV (ew s l) s.aB.ah.length (ps.take k)).length<=10000*160:=by
  have h2:=ue (ew s l) s.aB.ah.length (ps.take k)
  have h3:(ps.take k).length*s.aB.ah.length<=10000*160:=Nat.mul_le_mul (by rw[List.length_take];omega) Kq
  omega
 by_cases hk:(k:Int)<(ps.length:Int)
 ·have cz:∀{e:Env} {gg:Rows} {nx:Nat},(e 7=.int .i64 (IntKind.i64.wrap ((k:Int)+1)))->(gg o0=some ⟨true,2,ps.map ab⟩)->(∃o:Id,e 5=.own o 0 (qV (ew s l) s.aB.ah.length (ps.take (k+1))).length/\gg o=some ⟨true,3,(qV (ew s l) s.aB.ah.length (ps.take (k+1))).map ad⟩/\o.bm<nx/\o0.bm<nx/\o≠o0)->∃m0,m0<(ps.length)-k/\∃k:Nat,m0=(ps.length)-k/\k<=(ps.length)/\e 7=.int .i64 (k:Int)/\gg o0=some ⟨true,2,ps.map ab⟩/\(∃o:Id,e 5=.own o 0 (qV (ew s l) s.aB.ah.length (ps.take k)).length/\gg o=some ⟨true,3,(qV (ew s l) s.aB.ah.length (ps.take k)).map ad⟩/\o.bm<nx/\o0.bm<nx/\o≠o0):=fun x1 x2 x3=>⟨_,by omega,k+1,rfl,by omega,(by rw[x1,az (by omega)]),x2,x3⟩
  have fa:k<ps.length:=by omega
  have eR:=tE fa
  have qp:=hnp _ (zK fa)
  obtain⟨hx,hy⟩:=sS qp.1
  have Af:=(LC s.aB hS l hA (jv ps k) hx hy s.ay).cut mixed (.ptr _ [.sl (s.cq.ah.map ad),.int .i64 s.ay] (.same _ (.same _ (.same _ .nil))))
  have hfu:kq (yO s.aB l s.ay) (jv ps k) s.aB.ah.length=iI s l (jv ps k):=xP (fun t=>(KB qp hA t).symm) _
  rw[hfu]at Af
  have Hs:=AA (B:=ew s l) (m:=s.aB.ah.length) fa
  have fo:HS (ew s l) (jv ps k) s.aB.ah.length=(iI s l (jv ps k)).map fun t=>(⟨jv ps k,t⟩:ae):=yQ _ _ _
  rw[fo,<-B5]at Hs
  have Ll:(iI s l (jv ps k)).length<=160:=by
   have:=rn (ew s l) (jv ps k) s.aB.ah.length
   unfold iI;omega
  have K7:(ps.map ab).length=ps.length:=by simp
  generalize jv ps k=q at Af Hs eR Ll
  generalize iI s l q=us at Af Hs Ll
  generalize qV (ew s l) s.aB.ah.length (ps.take k)=L at a5 ao hB Hs
  rw[aa]at Af
  (repeat(first|((repeat(revert hN;revert N;apply Pn.out));refine wk (tw @a7 (tw @ag0 (tw @a0 (tw @a1 (tw @a6 (tw @hk (tw @eR (tw @v0 (tw @K7 (tw @aC.eq_1 @ab.eq_1)))))))))) ?_;(repeat(refine Pn.mk ?_;intro N hN)))|((try apply Or.inl);refine⟨_,ar.x (Af) (sd (tw @a7 (tw @ag0 (tw @a0 (tw @a1 (tw @a6 (tw @hk (tw @eR (tw @v0 (tw @K7 (tw @aC.eq_1 @ab.eq_1))))))))))),?_⟩;refine hN _ _ ?_;clear hN N)))
  refine aO (fun n env st=>∃j:Nat,n=(us.length)-j/\j<=(us.length)/\env 9=.int .i64 (j:Int)/\st.get o0=some ⟨true,2,ps.map ab⟩/\(∃o:Id,env 5=.own o 0 (L++jm q us j).length/\st.get o=some ⟨true,3,(L++jm q us j).map ad⟩/\o.bm<st.next/\o0.bm<st.next/\o≠o0)) (us.length) ⟨0,by omega,by omega,sl (tw @a7 (tw @ag0 (tw @a0 (tw @a1 @a6)))),sl (tw @a7 (tw @ag0 (tw @a0 (tw @a1 @a6)))),by(try dsimp only);exact⟨o,by rw[show jm q us 0=[]from rfl,List.append_nil];simp only[go_sem, ↓reduceIte,Nat.reduceEqDiff,Nat.reduceAdd,Nat.reduceSub,Nat.reduceLeDiff,reduceCtorEq,a5],by rw[show jm q us 0=[]from rfl,List.append_nil];simp only[go_sem, ↓reduceIte,Nat.reduceEqDiff,Nat.reduceAdd,Nat.reduceSub,Nat.reduceLeDiff,reduceCtorEq,ao,vo],by omega,by omega,S4⟩⟩ ?_
  rintro n_b env_b st_b ⟨j,rfl,ble,b9,bg0,bI0⟩ eV
  have b0:=eV 0 (by kernel_rfl);have b1:=eV 1 (by kernel_rfl);have b6:=eV 6 (by kernel_rfl);have b7:=eV 7 (by kernel_rfl);have b8:=eV 8 (by kernel_rfl)
  simp only[go_sem, ↓reduceIte,Nat.reduceEqDiff,Nat.reduceAdd,Nat.reduceSub,Nat.reduceLeDiff,reduceCtorEq,a7,ag0,a0,a1,a6]at b0 b1 b6 b7 b8
  clear eV
  obtain⟨u,b5,bu,buv,Mw,S9⟩:=bI0
  have Sa:(L++jm q us j).length<=16777215:=by
   have:(jm q us j).length<=us.length:=by unfold jm;simp;omega
   rw[List.length_append];omega
  have vu:=dz buv
  have v0b:=dz Mw
  have hou:=eq_false S9
  have Q1:=eq_false (fun e:o0=u=>S9 e.symm)
  by_cases hj:(j:Int)<(us.length:Int)
  ·have fh:∀{e:Env} {gg:Rows} {nx:Nat},(e 9=.int .i64 (IntKind.i64.wrap ((j:Int)+1)))->(gg o0=some ⟨true,2,ps.map ab⟩)->(∃o:Id,e 5=.own o 0 (L++jm q us (j+1)).length/\gg o=some ⟨true,3,(L++jm q us (j+1)).map ad⟩/\o.bm<nx/\o0.bm<nx/\o≠o0)->∃m0,m0<(us.length)-j/\∃j:Nat,m0=(us.length)-j/\j<=(us.length)/\e 9=.int .i64 (j:Int)/\gg o0=some ⟨true,2,ps.map ab⟩/\(∃o:Id,e 5=.own o 0 (L++jm q us j).length/\gg o=some ⟨true,3,(L++jm q us j).map ad⟩/\o.bm<nx/\o0.bm<nx/\o≠o0):=fun x1 x2 x3=>⟨_,by omega,j+1,rfl,by omega,(by rw[x1,az (by omega)]),x2,x3⟩
   have ia:j<us.length:=by omega
   have wT:=yn (p:=q) ia
   have zf:=Fc ia
   have F9:L++jm q us (j+1)=(L++jm q us j)++[⟨q,us.getD j 0⟩]:=by rw[wT,List.append_assoc]
   generalize us.getD j 0=t at zf F9
   generalize L++jm q us j=M at b5 bu Sa F9
   have xW:(M++[(⟨q,t⟩:ae)]).length=M.length+1:=by simp
   have xf:(M++[(⟨q,t⟩:ae)]).map ad=M.map ad++[[.int .i64 q.eM,.int .i64 q.eI,.int .i64 t]]:=by rw[List.map_append];rfl
   have lY:(M.map ad).length=M.length:=by simp
   have hmu:(us.map aG).length=us.length:=by simp
   (try((repeat(revert hN;revert N;apply Pn.out));refine wk (tw @b9 (tw @bg0 (tw @b0 (tw @b1 (tw @b6 (tw @b7 (tw @b8 (tw @b5 (tw @bu (tw @hj (tw @hk (tw @zf (tw @eR (tw @vu (tw @v0b (tw @hou (tw @Q1 (tw @K7 (tw @lY (tw @hmu (tw @Sa @ab.eq_1))))))))))))))))))))) ?_;(repeat(refine Pn.mk ?_;intro N hN))))
   refine fh ?_ ?_ (by(try dsimp only);exact⟨⟨86010011,st_b.next+1⟩,by rw[F9,xW];simp only[go_sem, ↓reduceIte,Nat.reduceEqDiff,Nat.reduceAdd,Nat.reduceSub,Nat.reduceLeDiff,reduceCtorEq]<;>rfl,by rw[F9,xf];simp only[go_sem, ↓reduceIte,Nat.reduceEqDiff,Nat.reduceAdd,Nat.reduceSub,Nat.reduceLeDiff,reduceCtorEq]<;>rfl,by(try dsimp only);omega,by(try dsimp only);omega,fun e=>by rw[<-e]at Mw;(try dsimp only at Mw);omega⟩)
   all_goals simp only[go_sem, ↓reduceIte,Nat.reduceEqDiff,Nat.reduceAdd,Nat.reduceSub,Nat.reduceLeDiff,reduceCtorEq,b9,bg0,b0,b1,b6,b7,b8,v0b,Q1]
  ·have Ub:j=us.length:=by omega
   subst Ub
   (try((repeat(revert hN;revert N;apply Pn.out));refine wk (tw @b9 (tw @bg0 (tw @b0 (tw @b1 (tw @b6 (tw @b7 (tw @b8 @hj))))))) ?_;(repeat(refine Pn.mk ?_;intro N hN))))
   refine cz ?_ ?_ (by(try dsimp only);exact⟨u,by rw[Hs];simp only[go_sem, ↓reduceIte,Nat.reduceEqDiff,Nat.reduceAdd,Nat.reduceSub,Nat.reduceLeDiff,reduceCtorEq,b5],by rw[Hs];simp only[go_sem, ↓reduceIte,Nat.reduceEqDiff,Nat.reduceAdd,Nat.reduceSub,Nat.reduceLeDiff,reduceCtorEq,bu],by omega,by omega,S9⟩)
   all_goals simp only[go_sem, ↓reduceIte,Nat.reduceEqDiff,Nat.reduceAdd,Nat.reduceSub,Nat.reduceLeDiff,reduceCtorEq,a7,ag0,a0,a1,a6,b9,bg0,b0,b1,b6,b7,b8]
 ·have k8:k=ps.length:=by omega
  subst k8
  rw[List.take_length]at a5 ao
  (try((repeat(revert hN;revert N;apply Pn.out));refine wk (tw @a7 (tw @ag0 (tw @a0 (tw @a1 (tw @a6 (tw @hk @a5)))))) ?_;(repeat(refine Pn.mk ?_;intro N hN))))
  exact oN (.inl rfl) (vs:=[.own o 0 (qV (ew s l) s.aB.ah.length ps).length]) (sd @a5) (by
   simp only[fc]
   exact fB (e:=ad) (n:=5) ao rfl fun x=>Qm _ 4 x)
theorem Aq (s:aD) (l:List ae) (hn:gD s.aB) (hg:s.aB.ax.length<=1048576) (ht:s.aB.ah.length<=1048576):∃w,lQ ad (qG s l).1 w/\j9 Tryz.prog 41 [.agg (aC s),.agg [.sl (l.map ad)]] (.iF [w,.int .i64 (qG s l).2]):=by
 have h1:ar Tryz.prog 58 [.dj (aC s),.dj [.sl (l.map ad)]] (.int .i64 (qU s l)):=DL s l hn hg ht
 by_cases h0:qU s l=0
 ·obtain⟨hP,hA⟩:=Ax.1 h0
  have h2:=zo s hP l hA
  have hr:qG s l=(qV (ew s l) s.aB.ah.length (iw l),0):=by rw[qG,if_pos h0]
  rw[h0]at h1
  rw[hr]
  refine⟨_,.inr rfl,?_⟩
  refine j9.body eJ rfl fun mM σ=>?_
  clear mM
  generalize qV (ew s l) s.aB.ah.length (iw l)=L at h2 ⊢
  rw[aC]at h1 h2 ⊢
  (repeat(first|((repeat(revert hN;revert N;apply Pn.out));refine wk @Nat.zero_add ?_;(repeat(refine Pn.mk ?_;intro N hN)))|((try apply Or.inl);refine⟨_,ar.x (h1) (sd @Nat.zero_add),?_⟩;refine hN _ _ ?_;clear hN N)|((try apply Or.inl);refine⟨_,ar.x (h2) (sd @Nat.zero_add),?_⟩;refine hN _ _ ?_;clear hN N)))
  exact zM (.inl rfl) (vs:=[.sl (L.map ad),.int .i64 0]) (sd @Nat.zero_add) (by simp only[fc,bH,aj,aq,ck,aH,Option.map_some])
 ·have hd:decide (qU s l=0)=false:=decide_eq_false h0
  have hr:qG s l=([],qU s l):=by rw[qG,if_neg h0]
  rw[hr]
  refine⟨.cr,.inl ⟨rfl,rfl⟩,?_⟩
  refine j9.body eJ rfl fun mM σ=>?_
  clear mM
  rw[aC]at h1 ⊢
  (repeat(first|((repeat(revert hN;revert N;apply Pn.out));refine wk @hd ?_;(repeat(refine Pn.mk ?_;intro N hN)))|((try apply Or.inl);refine⟨_,ar.x (h1) (sd @hd),?_⟩;refine hN _ _ ?_;clear hN N)))
  exact zM (.inl rfl) (vs:=[.cr,.int .i64 (qU s l)]) (sd @Nat.zero_add) (by simp only[fc,bH,aj,aq,aU,aH,Option.map_some])
theorem Ap (s:aD) (l:List ae) (hn:gD s.aB) (hm:qS s) (hl:l.length<=1048576):uD Tryz.prog 42 [.agg (aC s),.agg [.sl (l.map ad)]] ad 3 (qG s l).1 (qG s l).2:=by
 intro n0
 refine eU eJ rfl fun mM=>?_
 clear mM
 have h1:ar Tryz.prog 63 [.agg (aC s),.agg [.sl (l.map ad)]] (.int .i64 (qU s l)):=y9 s l hn hm hl
 by_cases h0:qU s l=0
 ·obtain⟨hP,hA⟩:=Ax.1 h0
  have hT:1<=s.ay:=(ea hP.Md).1
  have hr:qG s l=(qV (ew s l) s.aB.ah.length (iw l),0):=by rw[qG,if_pos h0]
  rw[h0]at h1
  rw[hr]
  have hc:=fun σ=>zE s hP.set hT l hA σ
  rw[aC]at h1 hc ⊢
  (repeat(first|((repeat(revert hN;revert N;apply Pn.out));refine wk @Nat.zero_add ?_;(repeat(refine Pn.mk ?_;intro N hN)))|((try apply Or.inl);refine⟨_,ar.x (h1) (sd @Nat.zero_add),?_⟩;refine hN _ _ ?_;clear hN N)))
  refine .inr (aL _ _ _ _ _ (fun r σ1 hq=>?_) (hc _))
  obtain⟨g1,x1⟩:=σ1
  obtain⟨c,T,O,rfl,hC,QG,TG,Se,o3,lW⟩:=hq
  (try dsimp only at hC QG TG Se o3 lW)
  refine hN _ _ ?_
  clear hN N
  (try((repeat(revert hN;revert N;apply Pn.out));refine wk @Nat.zero_add ?_;(repeat(refine Pn.mk ?_;intro N hN))))
  refine .inr (aL _ _ _ _ _ (fun r σ2 hq=>?_) (OF (σ:=⟨g1,_⟩) (hC.frame (by(try dsimp only);omega) fun x hx=>rfl) hT hP.set hA))
  obtain⟨g2,x2⟩:=σ2
  obtain⟨Og,Ge,hq⟩:=hq
  (try dsimp only at hq Og Ge)
  refine hN _ _ ?_
  clear hN N
  (try((repeat(revert hN;revert N;apply Pn.out));refine wk @Nat.zero_add ?_;(repeat(refine Pn.mk ?_;intro N hN))))
  refine ft (.inl rfl) (vs:=[r,.int .i64 0]) (sd @Nat.zero_add) ?_
  (try dsimp only)
  rcases hq with⟨h2,h3⟩|⟨u,h2,h3,h4,h5,h6,h8⟩
  ·exact⟨r,[],rfl,.inl ⟨h2,h3,rfl⟩,⟨List.nodup_nil,fun i hi=>by cases hi⟩⟩
  ·(try dsimp only at h3 h4 h5)
   exact⟨r,[u],rfl,.inr ⟨u,h2,h3,rfl,h6⟩,⟨List.nodup_cons.2 ⟨by simp,List.nodup_nil⟩,fun i hi=>by rw[List.mem_singleton.1 hi];(try dsimp only);omega⟩⟩
 ·have hd:decide (qU s l=0)=false:=decide_eq_false h0
  have hr:qG s l=([],qU s l):=by rw[qG,if_neg h0]
  rw[hr]
  rw[aC]at h1 ⊢
  (repeat(first|((repeat(revert hN;revert N;apply Pn.out));refine wk @hd ?_;(repeat(refine Pn.mk ?_;intro N hN)))|((try apply Or.inl);refine⟨_,ar.x (h1) (sd @hd),?_⟩;refine hN _ _ ?_;clear hN N)))
  exact ft (.inl rfl) (vs:=[.cr,.int .i64 (qU s l)]) (sd @Nat.zero_add) ⟨.cr,[],rfl,.inl ⟨rfl,rfl,rfl⟩,⟨List.nodup_nil,fun i hi=>by cases hi⟩⟩
end Go.Proofs.YtgoelphibofcmaaGreat.V

namespace Go.Proofs.YtgoelphibofcmaaGreat
open Go.ChangeShapes Go.WideShapes Go.ChangeAt Go.RowKit Go.Deep
section
variable {H:Type} {enc:TypeId×Value->H} {P:Program} {w:World}
theorem mu.Rq {α:Type} {rep:World->List Nat->List Value->α->Prop} {sz:Nat} {w:World} {b o len cap:Nat} (oh:Nat->List Value) (fs:Nat->List Nat) (ds:Nat->α) (hc:len<=cap) (hm:cap<=maxLen)
  (hl:∀i,i<len->(oh i).length=sz) (hr:∀i,i<len->rep w (fs i) (oh i) (ds i)) (Af:∀i,i<len->∀j u,(oh i)[j]? =some u->w.cell? ⟨b,o+(i*sz+j),none⟩=some u):
  mu rep sz w ([b]++((List.range len).map fs).flatten) (.slice (some ⟨b,o,none⟩) len cap) ((List.range len).map ds):=by
 refine⟨(List.range len).map oh,(List.range len).map fs,[b],rfl,⟨some ⟨b,o,none⟩,cap,by simp,by simpa using hc,hm,.inr ⟨b,o,rfl,rfl,fun j u hj=>?_⟩⟩,by simp,by simp,fun i cs f d h1 h2 h3=>?_⟩
 ·have hlen:∀cs∈(List.range len).map oh,cs.length=sz:=fun cs dt=>by
   obtain⟨i,hi,rfl⟩:=List.mem_map.1 dt
   exact hl i (List.mem_range.1 hi)
  have gG:=(List.getElem?_eq_some_iff.1 hj).1
  have Gg:((List.range len).map oh).flatten.length=len*sz:=by
   rw[List.length_flatten,List.map_map]
   have:∀(l:List Nat),(∀i∈l,i<len)->(l.map (List.length∘oh)).sum=l.length*sz:=by
    intro l
    induction l with
    |nil=>intro _;simp
    |cons a l ih=>intro h;rw[List.map_cons,List.sum_cons,ih fun i hi=>h i (List.mem_cons_of_mem _ hi)];simp only[Function.comp,hl a (h a (by simp)),List.length_cons,Nat.add_mul];omega
   rw[this _ fun i hi=>List.mem_range.1 hi,List.length_range]
  rw[Gg]at gG
  have MO:0<sz:=by
   rcases Nat.eq_zero_or_pos sz with h|h
   ·subst h;simp at gG
   ·exact h
  have hi:j / sz<len:=(Nat.div_lt_iff_lt_mul MO).2 gG
  have ML:j % sz<sz:=Nat.mod_lt _ MO
  have K3:j=(j / sz)*sz+j % sz:=by rw[Nat.mul_comm];exact(Nat.div_add_mod j sz).symm
  rw[K3,tg hlen (i:=j / sz) (cs:=oh (j / sz)) (by simp[hi]) ML]at hj
  rw[K3]
  have:=Af (j / sz) hi (j % sz) u hj
  rw[<-K3]at this ⊢
  exact this
 ·have hi:i<len:=by
   have:=(List.getElem?_eq_some_iff.1 h1).1
   simpa using this
  simp[hi]at h1 h2 h3
  subst h1 h2 h3
  exact⟨hr i hi,hl i hi⟩
theorem jZ (b o k:Nat):(⟨b,o,none⟩:Addr).add k=⟨b,o+k,none⟩:=by
 unfold Addr.add;split
 ·rename_i h;subst h;rfl
 ·rfl
theorem pj {α:Type} {rep:World->List Nat->List Value->α->Prop} {Q:α->Prop} {t e:TypeId} {sz fuel:Nat} {cs:List Value} {x:DataW H×List MemPlace} (ht:P.underlying t=some (.slice e)) (hC:P.cellsOf e=sz) (MO:0<sz)
  (h:DataW.trod enc P w 0 (fun _=>true) true fuel t cs=some x) (hel:∀n pQ y,pQ.length=sz->DataW.trod enc P w 0 (fun _=>true) true n e pQ=some y->∃f d,fF f 0 w.heap.size/\rep w f pQ d/\Q d):
  ∃A n c f xs,cs=[.slice A n c]/\fF f 0 w.heap.size/\mu rep sz w f (.slice A n c) xs/\∀d∈xs,Q d:=by
 rcases open_slice ht h with⟨rfl,_⟩|⟨a,len,cap,m,n,D,Pl,rfl,_,hl,hm,Oe,_,hi⟩
 ·exact⟨none,0,0,[],[],rfl,fF.nil _ _,mu.nil _ _ _,fun d h=>by cases h⟩
 rw[hC]at hi
 simp only[if_true]at Oe
 by_cases h0:len=0
 ·subst h0
  exact⟨some a,0,cap,[],[],rfl,fF.nil _ _,⟨[],[],[],rfl,⟨some a,cap,rfl,Nat.zero_le _,hm,.inl ⟨rfl,rfl⟩⟩,rfl,rfl,fun i cs f d hc=>by simp at hc⟩,fun d h=>by cases h⟩
 obtain⟨b,o,sp⟩:=a
 have cell0:∃v,w.cell? ⟨b,o,sp⟩=some v:=by
  obtain⟨pQ,hc,_⟩:=hi 0 (by omega)
  obtain⟨_,mK,Af⟩:=World.cells?_some hc
  refine⟨pQ[0]'(by omega),?_⟩
  have:=Af 0 MO
  rw[List.getElem?_eq_getElem (by omega)]at this
  simpa[Addr.add]using this
 obtain⟨v0,qu⟩:=cell0
 have hb:b<w.heap.size:=World.block_lt_of_cell? w _ qu
 have Ov:sp=none:=by
  unfold World.cell? at qu
  split at qu
  ·split at qu
   ·cases qu
   ·rename_i h;simpa using h
  ·cases qu
 subst Ov
 have key:∀i,i<len->∃pQ f d,pQ.length=sz/\fF f 0 w.heap.size/\rep w f pQ d/\Q d/\∀j u,pQ[j]? =some u->w.cell? ⟨b,o+(i*sz+j),none⟩=some u:=fun i nz=>by
  obtain⟨pQ,hc,htr⟩:=hi i (by omega)
  obtain⟨_,mK,Af⟩:=World.cells?_some hc
  obtain⟨f,d,h1,h2,h3⟩:=hel n pQ _ mK htr
  refine⟨pQ,f,d,mK,h1,h2,h3,fun j u hj=>?_⟩
  have gG:=(List.getElem?_eq_some_iff.1 hj).1
  have:=Af j (by omega)
  rw[hj]at this
  rw[<-this,Go.Deep.add_add,jZ]
 have:Nonempty α:=by
  obtain⟨_,_,d,_⟩:=key 0 (by omega)
  exact⟨d⟩
 let cf:Nat->List Value:=fun i=>if hi:i<len then(key i hi).choose else[]
 let ff:Nat->List Nat:=fun i=>if hi:i<len then(key i hi).choose_spec.choose else[]
 let df:Nat->α:=fun i=>if hi:i<len then(key i hi).choose_spec.choose_spec.choose else Classical.choice this
 have dL:∀i,i<len->(cf i).length=sz/\fF (ff i) 0 w.heap.size/\rep w (ff i) (cf i) (df i)/\Q (df i)/\∀j u,(cf i)[j]? =some u->w.cell? ⟨b,o+(i*sz+j),none⟩=some u:=fun i hi=>by
  have:=(key i hi).choose_spec.choose_spec.choose_spec
  simp only[cf,ff,df,dif_pos hi]
  exact this
 refine⟨some ⟨b,o,none⟩,len,cap,_,(List.range len).map df,rfl,?_,mu.Rq cf ff df hl hm (fun i hi=>(dL i hi).1) (fun i hi=>(dL i hi).2.2.1) (fun i hi=>(dL i hi).2.2.2.2),fun d hd=>?_⟩
 ·intro x hx
  rcases List.mem_append.1 hx with hx|hx
  ·simp at hx;subst hx;exact⟨Nat.zero_le _,hb⟩
  ·obtain⟨l,xV,PV⟩:=List.mem_flatten.1 hx
   obtain⟨i,hi,rfl⟩:=List.mem_map.1 xV
   exact(dL i (List.mem_range.1 hi)).2.1 x PV
 ·obtain⟨i,hi,rfl⟩:=List.mem_map.1 hd
  exact(dL i (List.mem_range.1 hi)).2.2.2.1
end
section
variable {H:Type} {enc:TypeId×Value->H} {w:World} {fuel:Nat} {cs:List Value} {x:DataW H×List MemPlace}
abbrev TT (enc:TypeId×Value->H) (w:World) (fuel t:Nat) (cs:List Value) (x:DataW H×List MemPlace):Prop:=DataW.trod enc Tryz.prog w 0 (fun _=>true) true fuel t cs=some x
theorem OL (h:TT enc w fuel 56 cs x):∃A n c f xs,cs=[.slice A n c]/\fF f 0 w.heap.size/\uI w f (.slice A n c) xs:=by
 obtain⟨A,n,c,f,xs,h1,h2,h3,_⟩:=pj (rep:=EE) (Q:=fun _=>True) Tryz.underlying56 (sz:=1) (by kernel_rfl) (by omega) h fun n pQ y hl hy=>by
  obtain⟨b,rfl,_⟩:=DataW.trod_int Tryz.underlying2 hy
  exact⟨[],b,fF.nil _ _,⟨rfl,rfl⟩,trivial⟩
 exact⟨A,n,c,f,xs,h1,h2,h3⟩
theorem mU {t:TypeId} {fs:Array Field} (ht:Tryz.prog.underlying t=some (.struct fs)) (h:TT enc w fuel t cs x):cs.length=Tryz.prog.cellsOf t/\∃n,∀(i:Nat) (f:Field),fs[i]? =some f->∃y,TT enc w n f.type ((cs.drop f.offset).take (Tryz.prog.cellsOf f.type)) y:=by
 obtain⟨xs,n,_,_,hl,PV,hf⟩:=DataW.trod_struct ht h
 refine⟨hl,n,fun i f hi=>?_⟩
 have nz:i<xs.length:=by rw[PV];exact(Array.getElem?_eq_some_iff.1 hi).1
 exact⟨xs[i],(hf i f hi).trans (List.getElem?_eq_getElem nz)⟩
theorem Rl {l:List Value} (h:l.length=2):∃a b,l=[a,b]:=by
 match l,h with
 |[a,b],_=>exact⟨a,b,rfl⟩
theorem UL {l:List Value} (h:l.length=3):∃a b c,l=[a,b,c]:=by
 match l,h with
 |[a,b,c],_=>exact⟨a,b,c,rfl⟩
theorem UK {l:List Value} (h:l.length=1):∃a,l=[a]:=by
 match l,h with
 |[a],_=>exact⟨a,rfl⟩
theorem UM {l:List Value} (h:l.length=4):∃a b c d,l=[a,b,c,d]:=by
 match l,h with
 |[a,b,c,d],_=>exact⟨a,b,c,d,rfl⟩
theorem LO (h:TT enc w fuel 22 cs x):∃A n c f xs,cs=[.slice A n c]/\fF f 0 w.heap.size/\qQ w f (.slice A n c) xs/\∀d∈xs,d.aE.size<=9223372036854775807:=by
 exact pj (rep:=HJ) (Q:=fun d=>d.aE.size<=9223372036854775807) Tryz.underlying22 (sz:=2) (by kernel_rfl) (by omega) h fun n pQ y hl hy=>by
  obtain⟨_,m,hf⟩:=mU Tryz.underlying191 hy
  obtain⟨a,b,rfl⟩:=Rl hl
  ·skip
   obtain⟨y0,h0⟩:=hf 0 _ rfl
   obtain⟨y1,h1⟩:=hf 1 _ rfl
   rw[show Tryz.prog.cellsOf _=1 from by kernel_rfl]at h0 h1
   obtain⟨p,e0,_,ws⟩:=DataW.trod_string Tryz.underlying9 h0
   obtain⟨q,e1,_⟩:=DataW.trod_int Tryz.underlying2 h1
   simp at e0 e1
   subst e0 e1
   exact⟨[],⟨p,q⟩,fF.nil _ _,⟨rfl,rfl⟩,by simpa[maxLen]using ws⟩
theorem LP (h:TT enc w fuel 23 cs x):∃A n c f xs,cs=[.slice A n c]/\fF f 0 w.heap.size/\qR w f (.slice A n c) xs/\∀d∈xs,d.aE.size<=9223372036854775807:=by
 exact pj (rep:=HK) (Q:=fun d=>d.aE.size<=9223372036854775807) Tryz.underlying23 (sz:=2) (by kernel_rfl) (by omega) h fun n pQ y hl hy=>by
  obtain⟨_,m,hf⟩:=mU Tryz.underlying193 hy
  obtain⟨a,b,rfl⟩:=Rl hl
  ·skip
   obtain⟨y0,h0⟩:=hf 0 _ rfl
   obtain⟨y1,h1⟩:=hf 1 _ rfl
   rw[show Tryz.prog.cellsOf _=1 from by kernel_rfl]at h0 h1
   obtain⟨p,e0,_,ws⟩:=DataW.trod_string Tryz.underlying9 h0
   obtain⟨A1,n1,c1,f1,RH,e1,k1,s1⟩:=OL h1
   simp at e0 e1
   subst e0 e1
   exact⟨_,⟨p,RH⟩,k1,⟨_,f1,rfl,rfl,s1⟩,by simpa[maxLen]using ws⟩
theorem GN (h:TT enc w fuel 26 cs x):∃A n c f xs,cs=[.slice A n c]/\fF f 0 w.heap.size/\iT w f (.slice A n c) xs:=by
 obtain⟨A,n,c,f,xs,h1,h2,h3,_⟩:=pj (rep:=As) (Q:=fun _=>True) Tryz.underlying26 (sz:=3) (by kernel_rfl) (by omega) h fun n pQ y hl hy=>by
  obtain⟨_,m,hf⟩:=mU Tryz.underlying143 hy
  obtain⟨a,b,c,rfl⟩:=UL hl
  ·skip
   obtain⟨y0,h0⟩:=hf 0 _ rfl
   obtain⟨y1,h1⟩:=hf 1 _ rfl
   rw[show Tryz.prog.cellsOf _=2 from by kernel_rfl]at h0
   rw[show Tryz.prog.cellsOf _=1 from by kernel_rfl]at h1
   obtain⟨_,m2,Ge⟩:=mU Tryz.underlying66 h0
   obtain⟨z0,g0⟩:=Ge 0 _ rfl
   obtain⟨z1,g1⟩:=Ge 1 _ rfl
   rw[show Tryz.prog.cellsOf _=1 from by kernel_rfl]at g0 g1
   obtain⟨px,e0,_⟩:=DataW.trod_int Tryz.underlying2 g0
   obtain⟨py,e1,_⟩:=DataW.trod_int Tryz.underlying2 g1
   obtain⟨ti,e2,_⟩:=DataW.trod_int Tryz.underlying2 h1
   simp at e0 e1 e2
   subst e0 e1 e2
   exact⟨[],⟨⟨px,py⟩,ti⟩,fF.nil _ _,⟨rfl,rfl⟩,trivial⟩
 exact⟨A,n,c,f,xs,h1,h2,h3⟩
theorem vT (h:TT enc w fuel 28 cs x):∃A n c f,∃d:dK,cs=[.slice A n c]/\fF f 0 w.heap.size/\iT w f (.slice A n c) d.ah:=by
 obtain⟨hl,m,hf⟩:=mU Tryz.underlying28 h
 rw[show Tryz.prog.cellsOf _=1 from by kernel_rfl]at hl
 obtain⟨a,rfl⟩:=UK hl
 ·skip
  obtain⟨y0,h0⟩:=hf 0 _ rfl
  rw[show Tryz.prog.cellsOf _=1 from by kernel_rfl]at h0
  obtain⟨A1,n1,c1,f1,RH,e1,k1,s1⟩:=GN h0
  simp at e1
  subst e1
  exact⟨A1,n1,c1,f1,⟨RH⟩,rfl,k1,s1⟩
theorem Jl (h:TT enc w fuel 30 cs x):∃A0 n0 c0 f0 A1 n1 c1 f1 A2 n2 c2 f2,∃d:aD,cs=[.slice A0 n0 c0,.slice A1 n1 c1,.slice A2 n2 c2,.int .i64 d.ay]/\fF f0 0 w.heap.size/\qQ w f0 (.slice A0 n0 c0) d.aB.ax/\fF f1 0 w.heap.size/\qR w f1 (.slice A1 n1 c1) d.aB.ah/\fF f2 0 w.heap.size/\iT w f2 (.slice A2 n2 c2) d.cq.ah/\(∀g∈d.aB.ax,g.aE.size<=9223372036854775807)/\∀t∈d.aB.ah,t.aE.size<=9223372036854775807:=by
 obtain⟨hl,m,hf⟩:=mU Tryz.underlying30 h
 rw[show Tryz.prog.cellsOf _=4 from by kernel_rfl]at hl
 obtain⟨a,b,c,d,rfl⟩:=UM hl
 ·skip
  obtain⟨y0,h0⟩:=hf 0 _ rfl
  obtain⟨y1,h1⟩:=hf 1 _ rfl
  obtain⟨y2,h2⟩:=hf 2 _ rfl
  rw[show Tryz.prog.cellsOf _=2 from by kernel_rfl]at h0
  rw[show Tryz.prog.cellsOf _=1 from by kernel_rfl]at h1 h2
  obtain⟨_,m2,Ge⟩:=mU Tryz.underlying25 h0
  obtain⟨z0,g0⟩:=Ge 0 _ rfl
  obtain⟨z1,g1⟩:=Ge 1 _ rfl
  rw[show Tryz.prog.cellsOf _=1 from by kernel_rfl]at g0 g1
  obtain⟨A0,n0,c0,f0,xs0,e0,k0,s0,o0⟩:=LO g0
  obtain⟨A1,n1,c1,f1,RH,e1,k1,s1,o1⟩:=LP g1
  obtain⟨A2,n2,c2,f2,d2,e2,k2,s2⟩:=vT h1
  obtain⟨t,e3,_⟩:=DataW.trod_int Tryz.underlying2 h2
  simp at e0 e1 e2 e3
  subst e0 e1 e2 e3
  exact⟨A0,n0,c0,f0,A1,n1,c1,f1,A2,n2,c2,f2,⟨⟨xs0,RH⟩,d2,t⟩,rfl,k0,s0,k1,s1,k2,s2,o0,o1⟩
end
end Go.Proofs.YtgoelphibofcmaaGreat

namespace Go.Proofs.YtgoelphibofcmaaGreat
open Go.ChangeShapes Go.WideShapes Go.ChangeAt Go.RowKit V
theorem Ru:ownKnob Tryz.prog.godebug=none:=by kernel_rfl
theorem I4:laidOutB Tryz.prog=true:=by kernel_rfl
theorem Jn {s:aD} {l:List ae} (hm:qS s) (hl:l.length<=1048576):(qG s l).1.length<=1152921504606846976:=by
 unfold qG
 split
 ·dsimp only
  have h1:=ue (ew s l) s.aB.ah.length (iw l)
  have h2:(iw l).length<=l.length*4:=kO l l.length
  have h3:(iw l).length*s.aB.ah.length<=4194304*1048576:=Nat.mul_le_mul (by omega) hm.s.t
  omega
 ·simp
theorem Jo (s:aD) (a:dK) (hn:gD s.aB):ar Tryz.prog 9 [.agg (aC s),.agg (aM a)] (.bool true):=
 I5 (fun s a=>qG s a.ah) (fun s a hn hm _=>Aq s a.ah hn hm.s.g hm.s.t) (fun s a hn hm hl=>Ap s a.ah hn hm hl) (fun s a hm hl=>Jn hm hl) s a hn
theorem B6 (os:Os) (started:os.Started) (H:Type) (enc:TypeId×Value->H):
  ReturnsInHanded {} Tryz.checked os 9 .any (Rows.fnExactOptionsOfSpec.pre6 enc Tryz.prog Tryz.f9 Rows.fnExactOptionsOfRow.domain false) (Rows.fnExactOptionsOfSpec.post enc Tryz.prog Tryz.f9 false true false false):=by
 refine returnsInHanded_of_change (C:=Tryz.checked) Ru started (by kernel_rfl) Tryz.func9
  (ChangeSpec.witness6 (enc:=enc) (C:=Tryz.checked) false ⟨#[], #[.agg #[.slice none 0 0,.slice none 0 0,.slice none 0 0,.int .i64 0],.agg #[.slice none 0 0]],[]⟩ 8 (by kernel_rfl) (by kernel_rfl) (by kernel_rfl) (by kernel_rfl)) ?_
 intro W base args ds gs before MT hW hcnd _
 have sK:∀(j:Nat) t v,Tryz.f9.params[j]? =some t->args[j]? =some v->Value.okWide Tryz.prog W .any base t v:=MT
 have hW':=hW
 obtain⟨p,q,hA0,hV,rfl,Cx,lN⟩:=hW
 have hA:DataW.TrodAll enc Tryz.prog W 0 (fun _=>true) true Tryz.f9.params.toList args.toList ds p:=hA0
 rw[Tryz.params9]at hA sK
 obtain⟨v0,vs0,d0,ds0,p0,q0,ny,rfl,rfl,h0,r0⟩:=trodAll_cons hA
 obtain⟨v1,vs1,d1,ds1,p1,q1,rfl,rfl,rfl,h1,r1⟩:=trodAll_cons r0
 obtain⟨rfl,rfl,rfl⟩:=trodAll_nil r1
 obtain rfl:args= #[v0,v1]:=by cases args;simp_all
 obtain⟨rfl,rfl⟩:=trodVars_none hV
 obtain⟨Pv,rfl,_⟩:=okWide_struct Tryz.underlying30 (sK 0 30 v0 rfl rfl)
 obtain⟨Te,rfl,_⟩:=okWide_struct Tryz.underlying28 (sK 1 28 v1 rfl rfl)
 have k0:=h0
 have k1:=h1
 have lt0:∀x∈p0,x.block<W.heap.size:=by obtain⟨m,hm⟩:=k0;exact DataW.trod_lt m _ _ _ hm
 have lt1:∀x∈p1,x.block<W.heap.size:=by obtain⟨m,hm⟩:=k1;exact DataW.trod_lt m _ _ _ hm
 obtain⟨A0,n0,c0,f0,A1,n1,c1,f1,A2,n2,c2,f2,s,dt,w0,s0,w1,s1,w2,s2,o0,o1⟩:∃A0 n0 c0 f0 A1 n1 c1 f1 A2 n2 c2 f2,∃d:aD,(Value.agg Pv).cells.toList=[.slice A0 n0 c0,.slice A1 n1 c1,.slice A2 n2 c2,.int .i64 d.ay]/\fF f0 0 W.heap.size/\qQ W f0 (.slice A0 n0 c0) d.aB.ax/\fF f1 0 W.heap.size/\qR W f1 (.slice A1 n1 c1) d.aB.ah/\fF f2 0 W.heap.size/\iT W f2 (.slice A2 n2 c2) d.cq.ah/\(∀g∈d.aB.ax,g.aE.size<=9223372036854775807)/\∀t∈d.aB.ah,t.aE.size<=9223372036854775807:=by
  obtain⟨fuel,hf⟩:=h0
  exact Jl hf
 obtain⟨A3,n3,c3,f3,a,QE,w3,s3⟩:∃A n c f,∃d:dK,(Value.agg Te).cells.toList=[.slice A n c]/\fF f 0 W.heap.size/\iT W f (.slice A n c) d.ah:=by
  obtain⟨fuel,hf⟩:=h1
  exact vT hf
 obtain rfl:Pv= #[.slice A0 n0 c0,.slice A1 n1 c1,.slice A2 n2 c2,.int .i64 s.ay]:=by
  cases Pv;simp[Value.cells]at dt;subst dt;rfl
 obtain rfl:Te= #[.slice A3 n3 c3]:=by
  cases Te;simp[Value.cells]at QE;subst QE;rfl
 clear hA0 MT
 have gO:fe Tryz.prog W (fun b=>b<W.heap.size) (fun _=>none) [.agg (aC s),.agg (aM a)] #[.agg #[.slice A0 n0 c0,.slice A1 n1 c1,.slice A2 n2 c2,.int .i64 s.ay],.agg #[.slice A3 n3 c3]]:=by
  have h:=l8 (CL s0 (fun b hb=>(w0 b hb).2) s1 (fun b hb=>(w1 b hb).2) s2 (fun b hb=>(w2 b hb).2)) (l8 (yH s3 (fun b hb=>(w3 b hb).2)) (⟨rfl,fun j b hj=>by cases j<;>cases hj⟩:fe Tryz.prog W (fun b=>b<W.heap.size) (fun _=>none) [] #[]))
  simpa using h
 have gZ:=OE mixed (Jo s a ⟨o0,o1⟩) gO
 clear s0 s1 s2 s3 w0 w1 w2 w3 gO
 refine(gZ.mono fun e W' ⟨he,bel⟩=>?_)
 subst he
 exact⟨_,rfl,_,_,_,[],_,[],hW',trodAll_mk1 (shut_bool Tryz.underlying4 _),(trodAll_cons_mk (Below.trod I4 (by kernel_rfl) (of_decide_eq_true (by kernel_rfl)) k0 bel lt0) (trodAll_cons_mk (Below.trod I4 (by kernel_rfl) (of_decide_eq_true (by kernel_rfl)) k1 bel lt1) trodAll_mk0)),rfl,bel.frame _,fun h=>by cases h⟩
end Go.Proofs.YtgoelphibofcmaaGreat

namespace Go.Proofs.YtgoelphibofcmaaGreat
open Go.ChangeShapes Go.WideShapes Go.ChangeAt Go.RowKit
theorem opN:Tryz.pinned.checked.prog.funcNamed Rows.fnExactOptionsOfRow.func=some 9:=by kernel_rfl
theorem opJ:joinedFacts Tryz.pinned.checked.prog 9 Tryz.f9 Rows.fnExactOptionsOfSpec Rows.fnExactOptionsOfRow=true:=by
 unfold joinedFacts
 repeat(with_reducible refine Bool.and_eq_true_iff.2 ⟨?_,by as_aux_lemma=>kernel_rfl⟩)
 as_aux_lemma=>kernel_rfl
theorem opI:Tryz.f9.isInstance Tryz.pinned.checked.prog Rows.fnExactOptionsOfRow.origin Rows.fnExactOptionsOfRow.targs:=of_decide_eq_true (by kernel_rfl)
theorem opW:Tryz.f9.isWrapper Tryz.pinned.checked.prog Rows.fnExactOptionsOfRow.wrapper Rows.fnExactOptionsOfRow.mainSum:=by
 unfold Func.isWrapper;first|(rw[if_pos (by decide+kernel)];kernel_rfl)|(rw[if_neg (by decide+kernel)];exact⟨rfl,rfl⟩)
theorem GP:Rows.fnExactOptionsOfRow.holds Tryz.pinned (OpenSpec.ofChange Rows.fnExactOptionsOfSpec):=
 OpenClaim.holds_of_wide 9 Tryz.f9 rfl rfl rfl rfl rfl rfl rfl ⟨rfl,rfl,rfl,rfl,rfl⟩ rfl rfl rfl rfl rfl opN Tryz.func9 opJ opI opW
  (fun os started H enc _=>B6 os started H enc)
theorem fnExactOptionsOf_proved:Rows.FnExactOptionsOfSaid:=GP
end Go.Proofs.YtgoelphibofcmaaGreat
