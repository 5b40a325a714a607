/- Networks by matrices: units are sent. -/
import Derived.Test.YtgoljkjaameagaaGreatRaE
import Derived.Test.YtgoljkjaameagaaGreatRaB
import Derived.Test.YtgoljkjaameagaaGreatRaD
import Derived.Test.YtgoljkjaameagaaGreatRaC
import Derived.Test.YtgoljkjaameagaaGreatChecked
import Derived.ProofKit
import Derived.Deep.Slices
import Derived.ChangeSame
import Derived.Test.YtgoljkjaameagaaGreatRows
import Derived.OpenShut
import Derived.ShutString
import Derived.ChangeOld
import Derived.Below
set_option linter.unusedVariables false
set_option linter.unusedSimpArgs false
set_option maxRecDepth 100000
set_option maxHeartbeats 16000000
namespace Go.Proofs.YtgoljkjaameagaaGreat.V
open Go.RowKit
attribute [local irreducible] eu wpOps gq Call
attribute [local go_sem] aI fJ eP fZ fY dc upd cz K.av cJ AV.cells AV.cell rowOf rowsOf part ld rowAt bR cq dC ea gV bJ cZ eo fX eY dr ef cX cW dM dO bP aX cN bL cQ cP ec eh ee cL bU cY eb bK aO cU cG gU bp cI bQ aW dx bf dD AV.undef bD bF dR dY dI dP cH ek ew cF ej ei cR cV List.getD_cons_zero List.getD_cons_succ List.getD_nil List.all_cons List.all_nil Bool.and_true Bool.true_and Bool.and_self Bool.not_true Bool.not_false Option.map_some Option.map_none Option.bind_some Option.bind_none List.length_cons List.length_nil List.take_succ_cons List.take_zero List.take_nil List.drop_succ_cons List.drop_zero List.drop_nil List.head?_cons List.map_cons List.map_nil List.getElem?_cons_zero List.getElem?_cons_succ List.cons_append List.nil_append List.append_nil List.length_map List.set_cons_zero List.set_cons_succ Nat.reduceMul eq_self Int.toNat_natCast Int.natCast_nonneg and_self true_and and_true decide_true decide_false Bool.false_eq_true Nat.zero_add Nat.add_zero List.contains_cons List.contains_nil Bool.or_false Bool.false_or beq_self_eq_true Nat.reduceBEq ne_eq not_true_eq_false not_false_eq_true Id.mk.injEq false_and and_false Nat.reduceLT Int.reduceLE Int.reduceLT Int.reduceToNat Int.reduceNeg Int.reduceAdd Nat.le_refl List.length_append beq_true beq_false Bool.not_eq_eq_eq_not or_false false_or dJ aj aq aH aZ bB ck aT bc aU aY cK bG
theorem Bg (b:Nat):∀(l:List Nat) (a:Nat) (f:Nat->Nat->Int),ml f ((a::l)++[b])=kF (ml f (a::l)) ((a::l).getLast (by simp)) b
 |[],a,f=>rfl
 |c::l,a,f=>by
  rw[List.cons_append,List.cons_append,ml,<-List.cons_append,Bg b l c (kF f a c),ml,List.getLast_cons_cons]
theorem Gs {p:List Nat} {f:Nat->Nat->Int} {i:Nat} (h1:1<=i) (hi:i<p.length):ml f (p.take (i+1))=kF (ml f (p.take i)) (p[i-1]'(by omega)) p[i]:=by
 rw[List.take_succ_eq_append_getElem hi]
 have il:p.take i≠[]:=by
  intro h
  have:(p.take i).length=0:=by rw[h];rfl
  rw[List.length_take]at this;omega
 obtain⟨a,l,Jj⟩:∃a l,p.take i=a::l:=by
  cases h:p.take i with
  |nil=>exact absurd h il
  |cons a l=>exact⟨a,l,rfl⟩
 have wc:(p.take i).getLast il=p[i-1]'(by omega):=by
  rw[List.getLast_eq_getElem,List.getElem_take]
  congr 1
  rw[List.length_take];omega
 simp only[Jj]at wc ⊢
 rw[Bg,wc]
theorem Hz (f:Nat->Nat->Int) (a b u v:Nat):kF f a b u v<=f u v+1/\f u v-1<=kF f a b u v:=by
 unfold kF bump
 split<;>split<;>constructor<;>omega
theorem mm:∀(p:List Nat) (f:Nat->Nat->Int) (u v:Nat),ml f p u v<=f u v+p.length/\f u v-p.length<=ml f p u v
 |[],f,u,v=>by simp[ml]
 |[_],f,u,v=>by simp[ml];omega
 |a::b::r,f,u,v=>by
  rw[ml]
  have h1:=mm (b::r) (kF f a b) u v
  have h2:=Hz f a b u v
  simp only[List.length_cons]at h1 ⊢
  omega
theorem nT.push {g g':Rows} {X o1 o2:Id} {R1 R2:Nat->Id} {n nb:Nat} {c f:Nat->Nat->Int} (I:Gj X o1 o2 R1 R2 n nb) (h:nT g X o1 o2 R1 R2 n c f) {a b:Nat} (ha:a<n) (hb:b<n) (od:a≠b) (hA:g' (R2 a)=some ⟨true,1,dZ (bump f a b 1 a) n⟩) (hB:g' (R2 b)=some ⟨true,1,dZ (bump (bump f a b 1) b a (-1) b) n⟩) (hf:∀i:Id,i.bj<nb->(i=R2 a)=False->(i=R2 b)=False->g' i=g i):nT g' X o1 o2 R1 R2 n c (kF f a b):=by
 have ne:∀{i:Id} {s:Nat},i.site=s->(s==299005006)=false->∀a,a<n->(i=R2 a)=False:=fun {i s} hi hs a ha=>by
  simp only[eq_iff_iff,iff_false]
  rintro rfl
  rw[I.NU a ha]at hi
  subst hi
  simp at hs
 refine⟨(hf _ I.vx (ne I.sx (by decide) _ ha) (ne I.sx (by decide) _ hb)).trans h.x,(hf _ I.v1 (ne I.s1 (by decide) _ ha) (ne I.s1 (by decide) _ hb)).trans h.t1,(hf _ I.v2 (ne I.s2 (by decide) _ ha) (ne I.s2 (by decide) _ hb)).trans h.t2,fun i hi=>(hf _ (I.TQ i hi) (ne (I.TN i hi) (by decide) _ ha) (ne (I.TN i hi) (by decide) _ hb)).trans (h.r1 i hi),fun i hi=>?_⟩
 by_cases K5:i=b
 ·subst K5;exact hB
 ·by_cases K4:i=a
  ·subst K4
   rw[hA,kF,kb K5]
  ·rw[kF,kb K5,kb K4,hf _ (I.QU i hi) (by simp only[eq_iff_iff,iff_false];exact fun he=>K4 (I.i2 i _ hi ha he)) (by simp only[eq_iff_iff,iff_false];exact fun he=>K5 (I.i2 i _ hi hb he))]
   exact h.r2 i hi
theorem PL (cnt:Nat) (zQ:1<=cnt) (hn:cnt<=1048576) (c:Nat->Nat->Int) (hc:∀u v,u<cnt->v<cnt->0<=c u v/\c u v<=16777216) (x y:Nat) (hx:x<cnt) (hy:y<cnt) (Sf:x≠y) (t:Int) (ht:t<=1099511627776)
  (X o1 o2:Id) (R1 R2:Nat->Id) (nb:Nat) (I:Gj X o1 o2 R1 R2 cnt nb) (σ:ax) (hM:nT σ.get X o1 o2 R1 R2 cnt c (fun _ _=>0)) (Ty:nb<=σ.next):
  Call Tryz.prog 300 [.ptr X 0 0,.int .i64 x,.int .i64 y,.int .i64 t] σ fun r σ'=>∃val:Int,r=.int .i64 val/\(val<t↔∃S:Nat->Bool,S x=true/\S y=false/\mv cnt S c<t)/\σ.next<=σ'.next:=by
 refine eZ eG rfl fun hl=>?_
 clear hl
 have hxS:(fun v=>decide (v=x)) x=true:=by simp
 have hyS:(fun v=>decide (v=x)) y=false:=by simp;exact fun h=>Sf h.symm
 obtain⟨top,Vy⟩:∃top,top=mv cnt (fun v=>decide (v=x)) c:=⟨_,rfl⟩
 (try((repeat(revert hN;revert N;apply Pn.out));refine wk @Nat.zero_add ?_;(repeat(refine Pn.mk ?_;intro N hN))))
 refine aM (fun m env st=>∃(k:Nat) (f:Nat->Nat->Int),m=(top-k).toNat/\env 9=.int .i64 (k:Int)/\lP cnt c f x y k/\nT st.get X o1 o2 R1 R2 cnt c f/\σ.next<=st.next/\(0<k->(k:Int)<=t)/\∀u v,-((k:Int)*(cnt:Int))<=f u v) (top-0).toNat ⟨0,fun _ _=>0,rfl,by(simp only[go_sem, ↓reduceIte,Nat.reduceEqDiff,Nat.reduceAdd,Nat.reduceSub,Nat.reduceLeDiff,reduceCtorEq])<;>rfl,lP.zero fun u v hu hv=>(hc u v hu hv).1,hM,by(try dsimp only);omega,fun h=>absurd h (Nat.lt_irrefl 0),fun u v=>by simp⟩ ?_
 rintro m env_b st_b ⟨k,f,rfl,b9,hF,bM,bn,bk,blo⟩ bkp
 have b0:=bkp 0 (by kernel_rfl)
 have b1:=bkp 1 (by kernel_rfl)
 have b2:=bkp 2 (by kernel_rfl)
 have b3:=bkp 3 (by kernel_rfl)
 simp only[go_sem, ↓reduceIte,Nat.reduceEqDiff,Nat.reduceAdd,Nat.reduceSub,Nat.reduceLeDiff,reduceCtorEq]at b0 b1 b2 b3
 clear bkp
 have hz:dd (dJ st_b.get) 6 [.ptr X 0 0,.int .i64 (x:Int),.int .i64 (y:Int)]=some [.dn (lS cnt c f),.int .i64 x,.int .i64 y]:=by simp only[aj,aq,bM.fz,aH,Option.map_some]
 (try((repeat(revert hN;revert N;apply Pn.out));refine wk (tw @b0 (tw @b1 (tw @b2 (tw @b3 @b9)))) ?_;(repeat(refine Pn.mk ?_;intro N hN))))
 refine .inr (aJ _ _ _ _ _ (fun r σ1 hq=>?_) ((SJ cnt zQ hn c f x y hx hy).x mixed hz))
 obtain⟨Ph,rfl⟩:=hq
 refine hN _ _ ?_
 clear hN N
 rcases Ph with⟨rfl,S,OO,LQ,Ti⟩|⟨p,rfl,hW⟩
 ·(try((repeat(revert hN;revert N;apply Pn.out));refine wk (tw @b0 (tw @b1 (tw @b2 (tw @b3 (tw @b9 (tw @Bool.not_true @Bool.not_false)))))) ?_;(repeat(refine Pn.mk ?_;intro N hN))))
  refine fq (.inl rfl) (vs:=[.int .i64 (k:Int)]) (sd @Nat.zero_add) ⟨(k:Int),rfl,⟨fun h=>⟨S,OO,LQ,by rw[<-hF.full OO LQ Ti];exact h⟩,fun⟨S',h1,h2,h3⟩=>by have:=hF.bound h1 h2;omega⟩,by(try dsimp only);omega⟩
 ·obtain⟨⟨rs,rfl,wc⟩,mh,ga,hplt⟩:=hW
  by_cases LW:t<=(k:Int)
  ·(try((repeat(revert hN;revert N;apply Pn.out));refine wk (tw @b0 (tw @b1 (tw @b2 (tw @b3 (tw @b9 (tw @LW (tw @Bool.not_true @Bool.not_false))))))) ?_;(repeat(refine Pn.mk ?_;intro N hN))))
   refine fq (.inl rfl) (vs:=[.int .i64 (k:Int)]) (sd @Nat.zero_add) ⟨(k:Int),rfl,⟨fun h=>by omega,fun⟨S',h1,h2,h3⟩=>by have:=hF.bound h1 h2;omega⟩,by(try dsimp only);omega⟩
  ·(try((repeat(revert hN;revert N;apply Pn.out));refine wk (tw @b0 (tw @b1 (tw @b2 (tw @b3 (tw @b9 (tw @LW (tw @Bool.not_true @Bool.not_false))))))) ?_;(repeat(refine Pn.mk ?_;intro N hN))))
   have mQ:=o9 cnt _ mh hplt
   have hkc:(k:Int)*(cnt:Int)<=1099511627776*1048576:=Int.mul_le_mul (by omega) (by omega) (by omega) (by omega)
   have hfb:=hF.bound (S:=fun v=>decide (v=x)) hxS hyS
   have hnear:=mm
   obtain⟨p,hp⟩:∃p,p=x::rs:=⟨_,rfl⟩
   have th:eN x::List.map eN rs=p.map eN:=by rw[hp];rfl
   rw[th]
   have Pd:1<=p.length:=by rw[hp];simp
   have Ur:=hF.aug wc mh ga hplt
   rw[<-hp]at Ur mh ga hplt mQ
   have Pp:p.take 1=[x]:=by rw[hp];rfl
   clear th wc
   refine aM (fun m env st=>∃i:Nat,m=p.length-i/\1<=i/\i<=p.length/\env 11=.int .i64 (i:Int)/\nT st.get X o1 o2 R1 R2 cnt c (ml f (p.take i))/\st_b.next<=st.next) (p.length-1) ⟨1,rfl,Nat.le_refl _,Pd,by(simp only[go_sem, ↓reduceIte,Nat.reduceEqDiff,Nat.reduceAdd,Nat.reduceSub,Nat.reduceLeDiff,reduceCtorEq])<;>rfl,by rw[Pp];exact bM,by(try dsimp only);omega⟩ ?_
   rintro m env_c st_c ⟨i,rfl,Js,nR,nW,cM,cn⟩ ckp
   have c0:=ckp 0 (by kernel_rfl)
   have c1:=ckp 1 (by kernel_rfl)
   have c2:=ckp 2 (by kernel_rfl)
   have c3:=ckp 3 (by kernel_rfl)
   have c9:=ckp 9 (by kernel_rfl)
   have jC:=ckp 10 (by kernel_rfl)
   simp only[go_sem, ↓reduceIte,Nat.reduceEqDiff,Nat.reduceAdd,Nat.reduceSub,Nat.reduceLeDiff,reduceCtorEq,b0,b1,b2,b3,b9]at c0 c1 c2 c3 c9 jC
   clear ckp
   have gY:(p.map eN).length=p.length:=by simp
   by_cases hi:(i:Int)<(p.length:Int)
   ·have fB:i<p.length:=by omega
    have xP:=Gs (f:=f) Js fB
    obtain⟨a,ha⟩:∃a,a=p[i-1]'(by omega):=⟨_,rfl⟩
    obtain⟨b,hb⟩:∃b,b=p[i]:=⟨_,rfl⟩
    have FG:a<cnt:=by rw[ha];exact hplt _ (List.getElem_mem _)
    have FH:b<cnt:=by rw[hb];exact hplt _ (List.getElem_mem _)
    have od:a≠b:=by
     rw[ha,hb]
     exact List.pairwise_iff_getElem.1 mh (i-1) i (by omega) fB (by omega)
    have RI:(p.map eN)[i-1]? =some [.int .i64 (a:Int)]:=by rw[List.getElem?_map,List.getElem?_eq_getElem (by omega),ha];rfl
    have OT:(p.map eN)[i]? =some [.int .i64 (b:Int)]:=by rw[List.getElem?_map,List.getElem?_eq_getElem fB,hb];rfl
    rw[<-ha,<-hb]at xP
    have Vk:=mm (p.take i) f a b
    have Vl:=mm (p.take i) f b a
    rw[List.length_take]at Vk Vl
    have hl1:=blo b a
    have hl2:=blo a b
    have R8:=hF.le a b FG FH
    have hu2:=hF.le b a FH FG
    have hca:=hc a b FG FH
    have FI:=hc b a FH FG
    generalize ml f (p.take i)=fl at *
    have gA:=sG (R:=R2) (n:=cnt) FG
    have gB:=sG (R:=R2) (n:=cnt) FH
    have rA:=cM.r2 _ FG
    have rB:=cM.r2 _ FH
    have cA:=dS (f:=fl a) FH
    have cB:=dS (f:=fl b) FG
    have sA:=oL (f:=fl) (a:=a) (d:=1) FH
    have O9:bump fl a b 1 b=fl b:=kb fun h=>od h.symm
    have sB:=oL (f:=bump fl a b 1) (a:=b) (b:=a) (d:=-1) (n:=cnt) FG
    rw[O9]at sB
    have gX:=cM.x
    have g2:=cM.t2
    have gI:(a:Int)<(cnt:Int):=by omega
    have fD:(b:Int)<(cnt:Int):=by omega
    have TJ:IntKind.i64.wrap ((i:Int)-1)=((i-1:Nat):Int):=by rw[br (by omega)];omega
    have yz:((i-1:Nat):Int)<(p.length:Int):=by omega
    have wA:IntKind.i64.wrap (fl a b+1)=fl a b+1:=br (by omega)
    have wB:IntKind.i64.wrap (fl b a-1)=fl b a+-1:=by rw[br (by omega)];omega
    have Pr:IntKind.i64.wrap ((i:Int)+1)=((i+1:Nat):Int):=ay (by omega)
    have l2:=ki R2 cnt cnt
    have lA:=dF (fl a) cnt
    have lB:=dF (fl b) cnt
    have il:(R2 a=R2 b)=False:=by simp only[eq_iff_iff,iff_false];exact fun h=>od (I.i2 _ _ FG FH h)
    have Jy:(R2 b=R2 a)=False:=by simp only[eq_iff_iff,iff_false];exact fun h=>od (I.i2 _ _ FG FH h.symm)
    have xA:=AB I.sx (I.NU a FG) (by decide)
    have xB:=AB I.sx (I.NU b FH) (by decide)
    have yA:=AB I.s2 (I.NU a FG) (by decide)
    have yB:=AB I.s2 (I.NU b FH) (by decide)
    have qX:=dB (i:=X) (n:=st_c.next) (by have:=I.vx;omega)
    have q2:=dB (i:=o2) (n:=st_c.next) (by have:=I.v2;omega)
    have qA:=dB (i:=R2 a) (n:=st_c.next) (by have:=I.QU a FG;omega)
    have qB:=dB (i:=R2 b) (n:=st_c.next) (by have:=I.QU b FH;omega)
    rw[aw]at cA cB sA sB
    (try((repeat(revert hN;revert N;apply Pn.out));refine wk (tw @c0 (tw @c9 (tw @jC (tw @nW (tw @gY (tw @hi (tw @yz (tw @RI (tw @OT (tw @gA (tw @gB (tw @rA (tw @rB (tw @cA (tw @cB (tw @sA (tw @sB (tw @gX (tw @g2 (tw @gI (tw @fD (tw @TJ (tw @wA (tw @wB (tw @Pr (tw @l2 (tw @lA (tw @lB (tw @il (tw @Jy (tw @xA (tw @xB (tw @yA (tw @yB (tw @qX (tw @q2 (tw @qA @qB))))))))))))))))))))))))))))))))))))) ?_;(repeat(refine Pn.mk ?_;intro N hN))))
    refine⟨_,?_,i+1,rfl,by omega,by omega,sd @Pr,?_,by(try dsimp only);omega⟩
    ·omega
    ·rw[xP]
     refine cM.push I FG FH od ?_ ?_ fun j hj h1 h2=>?_
     ·simp only[go_sem, ↓reduceIte,Nat.reduceEqDiff,Nat.reduceAdd,Nat.reduceSub,Nat.reduceLeDiff,reduceCtorEq,il]
     ·simp only[go_sem, ↓reduceIte,Nat.reduceEqDiff,Nat.reduceAdd,Nat.reduceSub,Nat.reduceLeDiff,reduceCtorEq,il]
     ·simp only[go_sem, ↓reduceIte,Nat.reduceEqDiff,Nat.reduceAdd,Nat.reduceSub,Nat.reduceLeDiff,reduceCtorEq,h1,h2]
   ·have G1:i=p.length:=by omega
    subst G1
    rw[List.take_length]at cM
    have Ps:IntKind.i64.wrap ((k:Int)+1)=((k+1:Nat):Int):=ay (by omega)
    have U3:=Ur.bound (S:=fun v=>decide (v=x)) hxS hyS
    (try((repeat(revert hN;revert N;apply Pn.out));refine wk (tw @c0 (tw @c9 (tw @jC (tw @nW (tw @gY (tw @hi @Ps)))))) ?_;(repeat(refine Pn.mk ?_;intro N hN))))
    refine⟨_,?_,k+1,_,rfl,sd @Ps,by rw[Int.natCast_add];exact Ur,cM,by(try dsimp only);omega,fun _=>by omega,fun u v=>?_⟩
    ·rw[<-Vy]at U3;omega
    ·have h1:=(mm p f u v).2
     have h2:=blo u v
     rw[Int.natCast_add,Int.add_mul]
     omega
noncomputable def tX (n:Nat) (bs:List PB) (t:Int):Bool:=@decide (kU n bs t) (Classical.propDecidable _)
theorem yG {n:Nat} {bs:List PB} {t:Int} (h:kU n bs t):true=tX n bs t:=by simp[tX,h]
theorem BY {n:Nat} {bs:List PB} {t:Int} (h:¬kU n bs t):false=tX n bs t:=by simp[tX,h]
theorem L0 (cnt:Nat) (hn:cnt<=1048576) (bs:List PB) (hb:∀b∈bs,b.a<cnt/\b.b<cnt) (dQ:∀b∈bs,0<=b.s/\b.s<=4) (oe:bs.length<=1048576) (t:Int) (ht:t<=1099511627776):
  ar Tryz.prog 288 [.int .i64 cnt,.sl (bs.map aC),.int .i64 t] (.bool (tX cnt bs t)):=by
 refine ar.body eG rfl fun hl n0=>?_
 clear hl
 have qO:=Au bs (fun _ _=>0) (fun b h=>(dQ b h).1) (fun _ _=>Int.le_refl _)
 have hle:=room_le bs (fun _ _=>0) 0 (fun b h=>(dQ b h).2) (fun _ _=>Int.le_refl _) (Int.le_refl _)
 have ga:bs.foldl nU (fun _ _=>0)=lr bs:=rfl
 rw[ga]at qO hle
 (try((repeat(revert hN;revert N;apply Pn.out));refine wk @Nat.zero_add ?_;(repeat(refine Pn.mk ?_;intro N hN))))
 refine aM (fun m env st=>∃y:Nat,m=cnt+1-y/\1<=y/\env 7=.int .i64 (y:Int)/\y<=cnt+1/\∀z,1<=z->z<y->z<cnt->∀S:Nat->Bool,S 0=true->S z=false->t<=jf S bs) (cnt+1-1) ⟨1,rfl,Nat.le_refl _,by(simp only[go_sem, ↓reduceIte,Nat.reduceEqDiff,Nat.reduceAdd,Nat.reduceSub,Nat.reduceLeDiff,reduceCtorEq])<;>rfl,by omega,fun z h1 h2=>by omega⟩ ?_
 rintro m env_b st_b ⟨y,rfl,Sg,b7,hyl,dE⟩ bkp
 have b0:=bkp 0 (by kernel_rfl)
 have b1:=bkp 1 (by kernel_rfl)
 have b2:=bkp 2 (by kernel_rfl)
 simp only[go_sem, ↓reduceIte,Nat.reduceEqDiff,Nat.reduceAdd,Nat.reduceSub,Nat.reduceLeDiff,reduceCtorEq]at b0 b1 b2
 clear bkp
 by_cases hy:(y:Int)<(cnt:Int)
 ·have hyn:y<cnt:=by omega
  (try((repeat(revert hN;revert N;apply Pn.out));refine wk (tw @b0 (tw @b1 (tw @b2 (tw @b7 @hy)))) ?_;(repeat(refine Pn.mk ?_;intro N hN))))
  refine .inr (aJ _ _ _ _ _ (fun r σ1 hq=>?_) (Cx cnt (by omega) hn bs hb dQ oe _))
  obtain⟨X,o1,o2,R1,R2,rfl,I,LX,hM,_⟩:=hq
  refine hN _ _ ?_
  clear hN N
  (try((repeat(revert hN;revert N;apply Pn.out));refine wk (tw @b0 (tw @b1 (tw @b2 @b7))) ?_;(repeat(refine Pn.mk ?_;intro N hN))))
  have hsd:=PL cnt (by omega) hn (lr bs) (fun u v _ _=>⟨qO u v,by have:=hle u v;omega⟩) 0 y (by omega) hyn (by omega) t ht X o1 o2 R1 R2 σ1.next I
  refine .inr (aJ _ _ _ _ _ (fun r σ2 hq=>?_) (hsd _ hM (by(try dsimp only);omega)))
  obtain⟨val,rfl,r6,np⟩:=hq
  refine hN _ _ ?_
  clear hN N
  by_cases dV:val<t
  ·(try((repeat(revert hN;revert N;apply Pn.out));refine wk (tw @b0 (tw @b1 (tw @b2 (tw @b7 @dV)))) ?_;(repeat(refine Pn.mk ?_;intro N hN))))
   obtain⟨S,h1,h2,h3⟩:=r6.1 dV
   rw[Bw hb]at h3
   exact aQ (b:=false) (.inl rfl) (sd @Nat.zero_add) (BY fun h=>by have:=h S h1 ⟨y,hyn,h2⟩;omega)
  ·have hw:IntKind.i64.wrap ((y:Int)+1)=((y+1:Nat):Int):=ay (by omega)
   (try((repeat(revert hN;revert N;apply Pn.out));refine wk (tw @b0 (tw @b1 (tw @b2 (tw @b7 (tw @dV @hw))))) ?_;(repeat(refine Pn.mk ?_;intro N hN))))
   refine⟨_,?_,y+1,rfl,by omega,sd (tw @b7 @hw),by omega,fun z h1 h2 h3 S OO LQ=>?_⟩
   ·omega
   ·by_cases hzy:z=y
    ·subst hzy
     rcases Int.lt_or_le (jf S bs) t with h|h
     ·exact absurd (r6.2 ⟨S,OO,LQ,by rw[Bw hb];exact h⟩) dV
     ·exact h
    ·exact dE z h1 (by omega) h3 S OO LQ
 ·(try((repeat(revert hN;revert N;apply Pn.out));refine wk (tw @b0 (tw @b1 (tw @b2 (tw @b7 @hy)))) ?_;(repeat(refine Pn.mk ?_;intro N hN))))
  exact aQ (b:=true) (.inl rfl) (sd @Nat.zero_add) (yG fun S h0 ⟨z,hz,hzf⟩=>by
   have:z≠0:=by rintro rfl;rw[h0]at hzf;cases hzf
   exact dE z (by omega) (by omega) hz S h0 hzf)
theorem Jz (cnt:Nat) (hn:cnt<=1048576) (bs:List PB) (hb:∀b∈bs,b.a<cnt/\b.b<cnt) (dQ:∀b∈bs,0<=b.s/\b.s<=4) (oe:bs.length<=1048576) (t:Int) (ht:t<=1099511627776):
  ar Tryz.prog 288 [.int .i64 cnt,Ay bs,.int .i64 t] (.bool (tX cnt bs t)):=by
 have h:=L0 cnt hn bs hb dQ oe t ht
 cases bs with
 |nil=>exact h.cut mixed (.same _ (.cu (.same _ .nil)))
 |cons b r=>rw[Az (by simp)];exact h
def Dd:Prop:=∀(s:au) (l:List ae),ik s->kn s l->ar Tryz.prog 205 [.agg (aa s),.agg [.sl (l.map ai)]] (Ay (da s l))
noncomputable def uS (s:au) (l:List ae) (t:Int):Bool:=if 64<iw s l t then false else tX (iw s l t) (dy (eE (aL t (da s l))) (da s l)) t
theorem Eg (s:au) (l:List ae) (t:Int):uS s l t=nS s l t:=by
 letI:=Classical.propDecidable (pw l.length (da s l) t)
 unfold uS
 by_cases h:64<iw s l t
 ·rw[if_pos h]
  exact(mK (p:=False) ⟨False.elim,fun k=>by have:=k.1;unfold iw at h;omega⟩).symm.trans (by simp) |>.symm
 ·rw[if_neg h]
  by_cases hp:kU (iw s l t) (dy (eE (aL t (da s l))) (da s l)) t
  ·rw[<-yG hp]
   exact((mK (p:=True) ⟨fun _=>⟨by unfold iw at h;omega,hp⟩,fun _=>trivial⟩).symm.trans (by simp)).symm
  ·rw[<-BY hp]
   exact((mK (p:=False) ⟨False.elim,fun k=>hp k.2⟩).symm.trans (by simp)).symm
theorem Kw (Un:Dd) (s:au) (l:List ae) (t:Int) (ht:t<=1099511627776) (h1:1<=l.length) (hS:ik s) (hA:kn s l):ar Tryz.prog 241 [.agg (aa s),.agg [.sl (l.map ai)],.int .i64 t] (.iD [.bool (nS s l t),.bool (decide ¬64<iw s l t)]):=by
 rw[<-Eg]
 refine ar.body eG rfl fun hl n0=>?_
 clear hl
 have hb:=yf (l:=l) hS
 have oe:=qw (s:=s) hA.1
 have GZ:=hA.1.BC
 have yw:=Un s l hS hA
 have RA:=zz l.length h1 (by omega) (da s l) (fun b h=>⟨(hb b h).1,(hb b h).2.1⟩) (by omega) t
 have hL:=ub (aL t (da s l))
 have fB:=EN hL (fun b h=>⟨(hb b h).1,(hb b h).2.1⟩)
 have hlen:=(nA (eE (aL t (da s l))) (da s l)).1
 have og:=jR l.length (eE (aL t (da s l)))
 have hho:=Jz (iw s l t) (by unfold iw;omega) (dy (eE (aL t (da s l))) (da s l)) (fun b h=>⟨(fB b h).1,(fB b h).2.1⟩) (fun b h=>by
  obtain⟨_,_,_,c,hc,dw⟩:=fB b h
  rw[dw];have:=hb c hc;omega) (by omega) t ht
 have fe:(l.map ai).length=l.length:=by simp
 have hzB:∀(g:Rows) (n:Nat) (bs:List PB),V.fz g (n+1) (Ay bs)=some (Ay bs):=fun g n bs=>by
  unfold Ay;split
  ·exact aT _ _
  ·exact ck _ _ _
 rw[aa]at yw
 rw[<-iw]at RA
 have xz:∀(g:Rows) (x:Int),dd (dJ g) 6 [.int .i64 l.length,Ay (da s l),.int .i64 x]=some [.int .i64 l.length,Ay (da s l),.int .i64 x]:=fun g x=>by simp only[aj,aq,aH,hzB,Option.map_some]
 have hzh:∀(g:Rows) (x y:Int),dd (dJ g) 6 [.int .i64 x,Ay (dy (eE (aL t (da s l))) (da s l)),.int .i64 y]=some [.int .i64 x,Ay (dy (eE (aL t (da s l))) (da s l)),.int .i64 y]:=fun g x y=>by simp only[aj,aq,aH,hzB,Option.map_some]
 generalize Ay (da s l)=B1 at *
 generalize Ay (dy (eE (aL t (da s l))) (da s l))=B2 at *
 by_cases uw:(64:Int)<(iw s l t:Int)
 ·have uy:64<iw s l t:=by omega
  (repeat(first|((repeat(revert hN;revert N;apply Pn.out));refine wk (tw @aa.eq_1 (tw @uw @fe)) ?_;(repeat(refine Pn.mk ?_;intro N hN)))|((try apply Or.inl);refine⟨_,ar.x (yw) (sd (tw @aa.eq_1 (tw @uw @fe))),?_⟩;refine hN _ _ ?_;clear hN N)))
  refine⟨_,ar.x RA (xz _ _),?_⟩
  refine hN _ _ ?_
  clear hN N
  (try((repeat(revert hN;revert N;apply Pn.out));refine wk @uw ?_;(repeat(refine Pn.mk ?_;intro N hN))))
  exact jy (.inl rfl) (r1:=.bool false) (r2:=.bool false) (sd @Nat.zero_add) (sd @Nat.zero_add) (by rw[uS,if_pos uy,decide_eq_false fun h=>h uy];simp only[eX,bz,cD,fR,Option.map_some])
 ·have uy:¬64<iw s l t:=by omega
  (repeat(first|((repeat(revert hN;revert N;apply Pn.out));refine wk (tw @aa.eq_1 (tw @uw @fe)) ?_;(repeat(refine Pn.mk ?_;intro N hN)))|((try apply Or.inl);refine⟨_,ar.x (yw) (sd (tw @aa.eq_1 (tw @uw @fe))),?_⟩;refine hN _ _ ?_;clear hN N)))
  refine⟨_,ar.x RA (xz _ _),?_⟩
  refine hN _ _ ?_
  clear hN N
  (try((repeat(revert hN;revert N;apply Pn.out));refine wk @uw ?_;(repeat(refine Pn.mk ?_;intro N hN))))
  refine .inl ⟨_,ar.x hho (hzh _ _ _),?_⟩
  refine hN _ _ ?_
  clear hN N
  (try((repeat(revert hN;revert N;apply Pn.out));refine wk @Nat.zero_add ?_;(repeat(refine Pn.mk ?_;intro N hN))))
  exact jy (.inl rfl) (r1:=.bool (tX (iw s l t) (dy (eE (aL t (da s l))) (da s l)) t)) (r2:=.bool true) (sd @Nat.zero_add) (sd @Nat.zero_add) (by rw[uS,if_neg uy,decide_eq_true uy];simp only[eX,bz,cD,fR,Option.map_some])
theorem uD (t:Int):ar Tryz.prog 132 [.int .i64 t] (.bool (gJ t 1 16)):=by
 refine ar.body eG rfl fun hl n0=>?_
 clear hl
 have h:=km t 1 16
 (repeat(first|((repeat(revert hN;revert N;apply Pn.out));refine wk @Nat.zero_add ?_;(repeat(refine Pn.mk ?_;intro N hN)))|((try apply Or.inl);refine⟨_,ar.x (h) (sd @Nat.zero_add),?_⟩;refine hN _ _ ?_;clear hN N)))
 exact aQ (b:=gJ t 1 16) (.inl rfl) (sd @Nat.zero_add) rfl
theorem qi (Un:Dd) (s:aE) (hn:fV s.aB) (hg:s.aB.aA.length<=1048576) (ht:s.aB.ad.length<=1048576) (hs:∀t∈s.aB.ad,t.bq.length<=1048576) (hl:s.cw.ad.length<=1048576):ar Tryz.prog 97 [.agg (aD s)] (.bool (kR s)):=by
 refine ar.body eG rfl fun lG n0=>?_
 clear lG
 by_cases h0:(s.cw.ad.length:Int)=0
 ·have hd:decide ((s.cw.ad.length:Int)=0)=true:=decide_eq_true h0
  (try((repeat(revert hN;revert N;apply Pn.out));refine wk (tw @aD.eq_1 @hd) ?_;(repeat(refine Pn.mk ?_;intro N hN))))
  exact aQ (b:=false) (.inl rfl) (sd @Nat.zero_add) (j5 fun h=>by have:=h.some;omega)
 have hd:decide ((s.cw.ad.length:Int)=0)=false:=decide_eq_false h0
 have OP:=nJ s.aB s.cw.ad hn hg ht hs hl
 have Rr:=uD s.az
 have key:ar Tryz.prog 169 [.agg (aa s.aB),.agg [.sl (s.cw.ad.map ai)],.int .i64 s.az] (.iD [.bool (kR s),.int .i64 (if oq s.aB&&mW s.aB s.cw.ad then(if gJ s.az 1 16 then(if 64<iw s.aB s.cw.ad s.az then 4 else 0)else 2)else 1)]):=by
  refine ar.body eG rfl fun lG n0=>?_
  clear lG
  rw[aa]at OP
  cases hA:oq s.aB&&mW s.aB s.cw.ad
  ·rw[hA]at OP
   have lH:kR s=false:=(j5 fun h=>by rw[lv.2 h.set,kW.2 h.Kt]at hA;cases hA).symm
   (repeat(first|((repeat(revert hN;revert N;apply Pn.out));refine wk @aa.eq_1 ?_;(repeat(refine Pn.mk ?_;intro N hN)))|((try apply Or.inl);refine⟨_,ar.x (OP) (sd @aa.eq_1),?_⟩;refine hN _ _ ?_;clear hN N)))
   exact jy (.inl rfl) (r1:=.bool false) (r2:=.int .i64 1) (sd @Nat.zero_add) (sd @Nat.zero_add) (by rw[lH];simp only[eX,bz,cD,fR,eC,Option.map_some];rfl)
  rw[hA]at OP
  simp only[Bool.and_eq_true]at hA
  have hS:=lv.1 hA.1
  have hP:=kW.1 hA.2
  cases hT:gJ s.az 1 16
  ·rw[hT]at Rr
   have lH:kR s=false:=(j5 fun h=>by have:=h.HR;rw[hT]at this;cases this).symm
   (repeat(first|((repeat(revert hN;revert N;apply Pn.out));refine wk @aa.eq_1 ?_;(repeat(refine Pn.mk ?_;intro N hN)))|((try apply Or.inl);refine⟨_,ar.x (OP) (sd @aa.eq_1),?_⟩;refine hN _ _ ?_;clear hN N)|((try apply Or.inl);refine⟨_,ar.x (Rr) (sd @aa.eq_1),?_⟩;refine hN _ _ ?_;clear hN N)))
   exact jy (.inl rfl) (r1:=.bool false) (r2:=.int .i64 2) (sd @Nat.zero_add) (sd @Nat.zero_add) (by rw[lH];simp only[eX,bz,cD,fR,eC,Option.map_some];rfl)
  have L7:=dX hT
  rw[hT]at Rr
  have dQ:=Kw Un s.aB s.cw.ad s.az (by omega) (by omega) hS hP
  rw[aa]at dQ
  have hsy:kR s=nS s.aB s.cw.ad s.az:=by
   cases hB:nS s.aB s.cw.ad s.az
   ·exact(j5 fun h=>by have:=pO.2 h.holds;rw[hB]at this;cases this).symm
   ·exact(CL ⟨hS,hP,by omega,hT,pO.1 hB⟩).symm
  by_cases uw:64<iw s.aB s.cw.ad s.az
  ·rw[decide_eq_false fun h=>h uw]at dQ
   have lH:kR s=false:=(j5 fun h=>by have:=h.holds.1;unfold iw at uw;omega).symm
   (repeat(first|((repeat(revert hN;revert N;apply Pn.out));refine wk @aa.eq_1 ?_;(repeat(refine Pn.mk ?_;intro N hN)))|((try apply Or.inl);refine⟨_,ar.x (OP) (sd @aa.eq_1),?_⟩;refine hN _ _ ?_;clear hN N)|((try apply Or.inl);refine⟨_,ar.x (Rr) (sd @aa.eq_1),?_⟩;refine hN _ _ ?_;clear hN N)|((try apply Or.inl);refine⟨_,ar.x (dQ) (sd @aa.eq_1),?_⟩;refine hN _ _ ?_;clear hN N)))
   exact jy (.inl rfl) (r1:=.bool false) (r2:=.int .i64 4) (sd @Nat.zero_add) (sd @Nat.zero_add) (by rw[lH,if_pos uw];simp only[eX,bz,cD,fR,eC,Option.map_some])
  ·rw[decide_eq_true uw,<-hsy]at dQ
   (repeat(first|((repeat(revert hN;revert N;apply Pn.out));refine wk @aa.eq_1 ?_;(repeat(refine Pn.mk ?_;intro N hN)))|((try apply Or.inl);refine⟨_,ar.x (OP) (sd @aa.eq_1),?_⟩;refine hN _ _ ?_;clear hN N)|((try apply Or.inl);refine⟨_,ar.x (Rr) (sd @aa.eq_1),?_⟩;refine hN _ _ ?_;clear hN N)|((try apply Or.inl);refine⟨_,ar.x (dQ) (sd @aa.eq_1),?_⟩;refine hN _ _ ?_;clear hN N)))
   exact jy (.inl rfl) (r1:=.bool (kR s)) (r2:=.int .i64 0) (sd @Nat.zero_add) (sd @Nat.zero_add) (by rw[if_neg uw];simp only[eX,bz,cD,fR,eC,Option.map_some])
 generalize hcode:(if oq s.aB&&mW s.aB s.cw.ad then(if gJ s.az 1 16 then(if 64<iw s.aB s.cw.ad s.az then(4:Int)else 0)else 2)else 1)=code at key
 rw[aa]at key
 cases hB:kR s
 ·rw[hB]at key
  (repeat(first|((repeat(revert hN;revert N;apply Pn.out));refine wk (tw @aD.eq_1 @hd) ?_;(repeat(refine Pn.mk ?_;intro N hN)))|((try apply Or.inl);refine⟨_,ar.x (key) (sd (tw @aD.eq_1 @hd)),?_⟩;refine hN _ _ ?_;clear hN N)))
  exact aQ (b:=false) (.inl rfl) (sd @Nat.zero_add) rfl
 ·rw[hB]at key
  have hP:=sE.1 hB
  have hc:code=0:=by
   rw[<-hcode,lv.2 hP.set,kW.2 hP.Kt,hP.HR]
   have:=hP.holds.1
   simp only[Bool.and_self,if_true]
   rw[if_neg (by unfold iw;omega)]
  rw[hc]at key
  (repeat(first|((repeat(revert hN;revert N;apply Pn.out));refine wk (tw @aD.eq_1 @hd) ?_;(repeat(refine Pn.mk ?_;intro N hN)))|((try apply Or.inl);refine⟨_,ar.x (key) (sd (tw @aD.eq_1 @hd)),?_⟩;refine hN _ _ ?_;clear hN N)))
  exact aQ (b:=true) (.inl rfl) (sd @Nat.zero_add) rfl
end Go.Proofs.YtgoljkjaameagaaGreat.V

namespace Go.Proofs.YtgoljkjaameagaaGreat.V
open Go.RowKit Go.Shelf
attribute [local go_sem] Oper.semAt_some
def im (n₀:Nat) (W W':World):Prop:=W.heap.size<=W'.heap.size/\(∀(b:Nat) (cells:Array Value) (T:TypeId) (fr:Nat×Nat),W.heap[b]? =some (Obj.cells cells T fr)->T≠179->T≠254->W'.heap[b]? =W.heap[b]?)/\∀k,k<n₀->k<W.heap.size->W'.heap[k]? =W.heap[k]?
theorem im.trans {n₀:Nat} {A B C:World} (h:im n₀ A B) (k:im n₀ B C):im n₀ A C:=⟨Nat.le_trans h.1 k.1,fun b cells T fr hb h1 h2=>by
 have e:=h.2.1 b cells T fr hb h1 h2
 rw[<-e]at hb ⊢
 exact k.2.1 b cells T fr hb h1 h2,fun b hb hs=>(k.2.2 b hb (Nat.lt_of_lt_of_le hs h.1)).trans (h.2.2 b hb hs)⟩
theorem im.of {n₀:Nat} {W W':World} (h:Below W.heap.size W W'):im n₀ W W':=⟨h.size,fun b cells T fr hb _ _=>h.block b (Array.getElem?_eq_some_iff.1 hb).1,fun k _ hs=>h.block k hs⟩
theorem im.refl (n₀:Nat) (W:World):im n₀ W W:=⟨Nat.le_refl _,fun _ _ _ _ _ _ _=>rfl,fun _ _ _=>rfl⟩
theorem im.b {n₀ m:Nat} (hm:n₀<=m) (W:World) (l:Nat) (o o':Obj) (hl:m<=l) (h:W.heap[l]? =some o) (hc:o.isCells=false) (_:o.isWalk=false):im n₀ W (W.putObj l o'):=by
 refine⟨by simp,fun b cells T fr hb _ _=>?_,fun k hk _=>World.putObj_heap_other (by omega)⟩
 by_cases oe:b=l
 ·subst oe;rw[h]at hb;cases hb;cases hc
 ·exact World.putObj_heap_other oe
def Ls (bs:List PB):List Value:=bs.flatMap fun b=>[.int .i64 b.a,.int .i64 b.b,.int .i64 b.s]
theorem IK (bs:List PB) (b:PB):Ls (bs++[b])=Ls bs++[.int .i64 b.a,.int .i64 b.b,.int .i64 b.s]:=by simp[Ls]
def nV (s:au) (l:List ae) (pre:List (N0 l)):List PB:=(pre.map (·.1)).flatMap (zt s l)
theorem yd (s:au) (l:List ae) (pre:List (N0 l)) (x:N0 l):nV s l (pre++[x])=nV s l pre++zt s l x.1:=by simp[nV]
theorem IJ (s:au) (l:List ae) (x:Nat×Nat×Int):(zt s l x).length<=1:=by
 unfold zt;split<;>simp
theorem IL (s:au) (l:List ae) (pre:List (N0 l)):(nV s l pre).length<=pre.length:=by
 unfold nV
 induction pre with
 |nil=>simp
 |cons x r ih=>
  have:=IJ s l x.1
  simp only[List.map_cons,List.flatMap_cons,List.length_append,List.length_cons]at ih ⊢
  omega
theorem yX (l:List ae) (i:Nat):∀m,(la l i m).length<=m
 |0=>by simp[la]
 |m+1=>by
  rw[nu,List.length_append]
  have:=yX l i m
  have:(Cv l i (1-(m:Int))).length<=1:=by unfold Cv;split<;>simp
  omega
theorem Cw (l:List ae):∀n,(lL l n).length<=n*2
 |0=>by simp[lL]
 |n+1=>by
  rw[mE,List.length_append]
  have:=Cw l n
  have:=yX l n 2
  omega
theorem BS {β:Type} (B:Nat) (c:Array Value) (t:TypeId) (fr:Nat×Nat):Own (fun(_:β) W=>W.heap[B]? =some (.cells c t fr)):=fun _ X _ row h hg hr=>(hg.block B (Array.getElem?_eq_some_iff.1 h).1 (fun e=>by
 obtain⟨o,ho,hc⟩:=hr B e.symm
 rw[h]at ho;cases ho;cases hc)).trans h
theorem im.app {n₀:Nat} {W w1:World} {B k:Nat} {v v':Value} {xs:List Value} {tmp:Obj} (hv:Boxed W B 179 v) (fe:W.ownsRow n₀ 254 3 v k xs) (yy:(W.alloc tmp).grownBy w1 v.ownBlock) (hb:Below n₀ W (w1.setCell ⟨B,0,none⟩ v')):im n₀ W (w1.setCell ⟨B,0,none⟩ v'):=by
 refine⟨hb.size,fun b cells T fr h h1 h2=>?_,fun k hk _=>hb.block k hk⟩
 have dV:=(Array.getElem?_eq_some_iff.1 h).1
 have hbB:b≠B:=by
  rintro rfl
  rw[show W.heap[b]? = _ from hv]at h
  cases h
  exact h1 rfl
 have Tk:some b≠v.ownBlock:=by
  rcases fe.2 with⟨rfl,_⟩|⟨g,cap,cur,rfl,_,hg,_⟩
  ·simp[Value.ownBlock]
  ·intro e
   obtain rfl:b=g:=by simpa[Value.ownBlock]using e
   rw[hg]at h;cases h
   exact h2 rfl
 refine(Below.heap_setCell w1 ⟨B,0,none⟩ v' b hbB).trans ?_
 exact(yy.block b (by simp;omega) Tk).trans (Below.heap_alloc W tmp b dV)
theorem Sn {w:World} {vS:Value} {l:List ae} (hP:pV w vS l):Iv (im w.heap.size) vS l where
 refl:=im.refl _
 trans:=im.trans
 of:=im.of
 size h:=h.1
 typed h:=h.2.1
 pl {W W'} h hp:=by
  obtain⟨A,c,rfl,hm,hc⟩:=hp.sl
  refine⟨A,c,rfl,hm,?_⟩
  by_cases hl:l=[]
  ·exact .inl hl
  have lJ:0<l.length:=List.length_pos_iff.2 hl
  rcases hc with h0|⟨b,o,rfl,kE⟩
  ·exact absurd h0 hl
  obtain⟨A',c',e,_,kz⟩:=hP.sl
  cases e
  rcases kz with h0|⟨b',o',e,hcell'⟩
  ·exact absurd h0 hl
  cases e
  have hb:=uL (hcell' 0 lJ).1
  have hk:=h.2.2 b hb (uL (kE 0 lJ).1)
  refine .inr ⟨b,o,rfl,fun i hi=>?_⟩
  have zL:∀x,W'.cell? ⟨b,x,none⟩=W.cell? ⟨b,x,none⟩:=fun x=>World.cell?_of_block hk
  rw[zL,zL,zL]
  exact kE i hi
theorem rrE {P:Program} {nt site0:Nat} {ops:Array Oper} {vl:List bt} (_:zu P ops site0 false (jD ops) (sb P false ops.toList 0) ops.toList 0=some vl:=by(conv=>lhs;cbv)<;>exact rfl) (h:rN P nt site0 ops true false=some vl:=by kernel_rfl):rN P nt site0 ops true false=some vl:=h
theorem JR (l:List Value) (d:Value):l=(List.range l.length).map fun i=>(⟨l⟩:Array Value).getD i d:=by
 refine List.ext_getElem (by simp) fun i h1 h2=>?_
 simp[h1]
theorem EB {X:fK} {d:Bool} {ops:List bt} {K:Env->ax->Prop} {env:Env} {σ:ax} (h:eu X (.eT d ops) (fun _=>K) env σ):wpOps X d ops K env σ:=h
theorem vM (W:World) (T:TypeId) (x y z:Value):∀(j:Nat) (u:Value),[x,y,z][j]? =some u->(W.alloc (.cells #[x,y,z] T)).cell? ((⟨W.heap.size,0,none⟩:Addr).add j)=some u:=fun j u h=>by
 have hb:(W.alloc (.cells #[x,y,z] T)).heap[W.heap.size]? =some (.cells #[x,y,z] T (0,0)):=World.alloc_heap_new _ _
 have e:∀k,(W.alloc (.cells #[x,y,z] T)).cell? ⟨W.heap.size,k,none⟩=(#[x,y,z]:Array Value)[k]? :=fun k=>by
  unfold World.cell?
  rw[show(W.alloc (.cells #[x,y,z] T)).heap[(⟨W.heap.size,k,none⟩:Addr).block]? = _ from hb]
  rfl
 rw[show(⟨W.heap.size,0,none⟩:Addr).add j=⟨W.heap.size,j,none⟩ by simp[Addr.add];exact fun h=>h.symm,e]
 simpa using h
def IV (n b:Nat):Names:=fun id=>if id=⟨1,0⟩then some ⟨n,2,2,none⟩else if id=⟨2,0⟩then some ⟨n+1,1,1,none⟩else if id=⟨3,0⟩then some ⟨n+1+1,1,1,none⟩else if id=⟨4,0⟩then some ⟨b,2,2,none⟩else if id=⟨5,0⟩then some ⟨n+1+1+1,1,1,none⟩else none
def Ns (s:au) (l:List ae) (i k:Nat):Rows:=fun id=>if id=⟨1,0⟩then some ⟨false,2,[aa s]⟩else if id=⟨2,0⟩then some ⟨false,1,[[.sl (l.map ai)]]⟩else if id=⟨4,0⟩then some ⟨false,2,[[.int .i64 (i:Int),.int .i64 (k:Int)]]⟩else none
def Og (s:au) (l:List ae) (i k:Nat) (d:Int):Env:=cz [.agg (aa s),.agg [.sl (l.map ai)],.ptr ⟨1,0⟩ 0 0,.ptr ⟨2,0⟩ 0 0,.cu,.ptr ⟨3,0⟩ 0 0,.ptr ⟨4,0⟩ 0 0,.int .i64 d,.undef,.agg [.sl (l.map ai)],.fn 302 [.ptr ⟨5,0⟩ 0 0],.agg [.int .i64 (i:Int),.int .i64 (k:Int)],.int .i64 d]
theorem EJ {P:Program} {W:World} {D:Nat->Prop} {ι:Names} {B:sU} {cells:Array Value} {T:TypeId} {cs:List AV} (hk:B.k=none) (hb:W.heap[B.b]? =some (.cells cells T (0,0))) (hC:cells.size=B.C) (hz:B.sz=cs.length) (hl:cs.length=cells.size) (hf:∀a∈cs,a.cell=true) (hr:∀(j:Nat) (a:AV),cs[j]? =some a->∃v,cells[j]? =some v/\dh P W D ι a v):ib P W D ι B ⟨false,cs.length,[cs]⟩:=
 kV.obj ⟨hz,⟨cells,T,hb,hC⟩,by simp;omega,fun c hc=>by simp at hc;rw[hc],fun c hc=>by simp at hc;rw[hc];exact hf,fun i j c a hi hj=>by
  match i,hi with
  |0,hi=>
   simp at hi;subst hi
   obtain⟨v,h1,h2⟩:=hr j a hj
   exact⟨v,by simp[World.cell?,hb,h1],h2⟩
  |i+1,hi=>simp at hi⟩ hk
theorem JI:(Tryz.prog.info? 254).map (fun i=>(i.zero,i.size,i.bytes))=some (some (.agg #[.int .i64 0,.int .i64 0,.int .i64 0]),3,24):=by kernel_rfl
end Go.Proofs.YtgoljkjaameagaaGreat.V

namespace Go.Proofs.YtgoljkjaameagaaGreat.V
open Go.RowKit Go.Shelf
attribute [local go_sem] Oper.semAt_some
attribute [local irreducible] eu wpOps gq Call
attribute [local go_sem] aI fJ eP fZ fY dc upd cz K.av cJ AV.cells AV.cell rowOf rowsOf part ld rowAt bR cq dC ea gV bJ cZ eo fX eY dr ef cX cW dM dO bP aX cN bL cQ cP ec eh ee cL bU cY eb bK aO cU cG gU bp cI bQ aW dx bf dD AV.undef bD bF dR dY dI dP cH ek ew cF ej ei cR cV List.getD_cons_zero List.getD_cons_succ List.getD_nil List.all_cons List.all_nil Bool.and_true Bool.true_and Bool.and_self Bool.not_true Bool.not_false Option.map_some Option.map_none Option.bind_some Option.bind_none List.length_cons List.length_nil List.take_succ_cons List.take_zero List.take_nil List.drop_succ_cons List.drop_zero List.drop_nil List.head?_cons List.map_cons List.map_nil List.getElem?_cons_zero List.getElem?_cons_succ List.cons_append List.nil_append List.append_nil List.length_map List.set_cons_zero List.set_cons_succ Nat.reduceMul eq_self Int.toNat_natCast Int.natCast_nonneg and_self true_and and_true decide_true decide_false Bool.false_eq_true Nat.zero_add Nat.add_zero List.contains_cons List.contains_nil Bool.or_false Bool.false_or beq_self_eq_true Nat.reduceBEq ne_eq not_true_eq_false not_false_eq_true Id.mk.injEq false_and and_false Nat.reduceLT Int.reduceLE Int.reduceLT Int.reduceToNat Int.reduceNeg Int.reduceAdd Nat.le_refl List.length_append beq_true beq_false Bool.not_eq_eq_eq_not or_false false_or dJ aj aq aH aZ bB ck aT bc aU aY cK bG
theorem IT (s:au) (l:List ae) (hF:jd s) (hA:kn s l) (w:World) (Ag At:Option Addr) (ng cg nt ct:Nat) (vS:Value) (hT:jH Tryz.prog w (fun b=>b<w.heap.size) (.agg (aa s)) (.agg #[.slice Ag ng cg,.slice At nt ct])) (hP:pV w vS l):
  CallsIn Fence.wide 5 Tryz.prog 205 #[.agg #[.slice Ag ng cg,.slice At nt ct],.agg #[vS]] w fun e W'=>∃v,e=.returned v/\W'.ownsRow w.heap.size 254 3 v (da s l).length (Ls (da s l))/\(v=.slice none 0 0↔da s l=[])/\Below w.heap.size w W':=by
 obtain⟨A,cp,rfl,_,_⟩:=hP.sl
 obtain⟨i0,hi,FO,yJ,kK⟩:=info_parts JI
 refine callsIn_of_wp_marks Tryz.func205 rfl trivial ?_ rfl
 simp only[Tryz.ntmps205,List.size_toArray,List.length_cons,List.length_nil,Nat.reduceAdd,Nat.reduceSub,Array.replicate_succ,Array.replicate_zero,List.push_toArray,List.append_toArray,List.nil_append,List.cons_append]
 gi_wp2_with (refine⟨trivial,?_⟩;gi_at_call 260;refine(Ai _ _ _).mono ?_;rintro e w' ⟨rfl,rfl⟩)
 have bT:((w.alloc (.cells #[.slice Ag ng cg,.slice At nt ct] 39)).heap[w.heap.size]?)=some (.cells #[.slice Ag ng cg,.slice At nt ct] 39 (0,0)):=World.alloc_heap_new _ _
 obtain⟨w1,o3⟩:∃w1,w.alloc (.cells #[.slice Ag ng cg,.slice At nt ct] 39)=w1:=⟨_,rfl⟩
 have QQ:w1.heap.size=w.heap.size+1:=by rw[<-o3];simp
 have AR:Below w.heap.size w w1:=by rw[<-o3];exact(Below.refl _ w).alloc (Nat.le_refl _) _
 rw[o3]at bT ⊢
 clear o3
 have bA:=Boxed.new w1 42 (.slice A l.length cp)
 have bO:=Boxed.new (w1.alloc (.cells #[.slice A l.length cp] 42)) 179 (.slice none 0 0)
 have bN:=Boxed.new ((w1.alloc (.cells #[.slice A l.length cp] 42)).alloc (.cells #[.slice none 0 0] 179)) 42 (.slice A l.length cp)
 replace bA:=(bA.alloc (.cells #[.slice none 0 0] 179)).alloc (.cells #[.slice A l.length cp] 42)
 replace bO:=bO.alloc (.cells #[.slice A l.length cp] 42)
 simp only[World.size_alloc,QQ]at bA bO bN
 have p7:Below w1.heap.size w1 (((w1.alloc (.cells #[.slice A l.length cp] 42)).alloc (.cells #[.slice none 0 0] 179)).alloc (.cells #[.slice A l.length cp] 42)):=(((Below.refl _ w1).alloc (Nat.le_refl _) _).alloc (by simp) _).alloc (by simp;omega) _
 have fh:(((w1.alloc (.cells #[.slice A l.length cp] 42)).alloc (.cells #[.slice none 0 0] 179)).alloc (.cells #[.slice A l.length cp] 42)).heap.size=w.heap.size+4:=by simp;omega
 obtain⟨W0,Rs⟩:∃W0,((w1.alloc (.cells #[.slice A l.length cp] 42)).alloc (.cells #[.slice none 0 0] 179)).alloc (.cells #[.slice A l.length cp] 42)=W0:=⟨_,rfl⟩
 rw[Rs]at bA bO bN p7 fh ⊢
 clear Rs
 have xt:Below w.heap.size w W0:=AR.trans (p7.mono (by omega))
 replace bT:=(p7.block w.heap.size (by omega)).trans bT
 have hP0:pV W0 (.slice A l.length cp) l:=hP.below xt
 have kl:=Sn hP
 have oe:=qw (s:=s) hA.1
 refine wpIn_rangeFunc_ownH (n:=5) rfl (by omega) (gf:=302) (lb:= #[.pointer (some ⟨w.heap.size+1+1+1,0,none⟩)]) rfl trivial (enters_of Tryz.func302 (by kernel_rfl) rfl)
  (J4 l hA.1 (w.heap.size+1+1+1) (5-1) (by omega) (.slice A l.length cp) (im w.heap.size) kl W0 bN hP0) im.trans (im.b (by omega)) (Below.refl _ _) (fun _=>rfl)
  (fun pre W=>((∃v,Boxed W (w.heap.size+1+1) 179 v/\W.ownsRow w.heap.size 254 3 v (nV s l pre).length (Ls (nV s l pre))/\(v=.slice none 0 0↔nV s l pre=[]))/\(Boxed W (w.heap.size+1) 42 (.slice A l.length cp)/\W.heap[w.heap.size]? =some (.cells #[.slice Ag ng cg,.slice At nt ct] 39 (0,0))))/\Below w.heap.size w W)
  (fun _ _ _=>False)
  (OwnFrom.and (OwnFrom.and (Own.from (holdsRow_own w.heap.size (w.heap.size+1+1) 179 254 3 (fun pre=>(nV s l pre).length) (fun pre=>Ls (nV s l pre)) (fun pre v=>v=.slice none 0 0↔nV s l pre=[])) _) (OwnFrom.and (Own.from (boxed_own _ _ _) _) (Own.from (BS _ _ _ _) _))) (ownFrom_below (Nat.le_refl _) (by omega)))
  (fun _ _ _ _ _ hs _ _=>hs)
  ⟨⟨⟨_,bO,World.ownsRow_nil _ _ _ _,by simp[nV]⟩,bA,bT⟩,xt⟩
  (fun x a' W=>∃Bx,w.heap.size+1+1<Bx/\W.heap[Bx]? =some (.cells #[.int .i64 (x.1.1:Int),.int .i64 (x.1.2.1:Int)] 322 (0,0))/\a'={tmps:= #[.agg #[.slice Ag ng cg,.slice At nt ct],.agg #[.slice A l.length cp],.pointer (some ⟨w.heap.size,0,none⟩),.pointer (some ⟨w.heap.size+1,0,none⟩),.slice none 0 0,.pointer (some ⟨w.heap.size+1+1,0,none⟩),.pointer (some ⟨Bx,0,none⟩),.int .i64 x.1.2.2,undef,.agg #[.slice A l.length cp],.func (.func 302) #[] #[.pointer (some ⟨w.heap.size+1+1+1,0,none⟩)],.agg #[.int .i64 (x.1.1:Int),.int .i64 (x.1.2.1:Int)],.int .i64 x.1.2.2,undef,undef,undef,undef,undef,undef,undef,undef,undef,undef,undef,undef,undef,undef,undef,undef,undef,undef,undef,undef,undef,undef,undef,undef,undef,undef,undef,undef,undef],defers:=[]})
  (fun x a' _ X Y row hs hg hr=>by obtain⟨Bx,h1,h2,h3⟩:=hs;exact⟨Bx,h1,BS Bx _ _ _ () X Y row h2 hg (fun r e=>(hr r e).2),h3⟩)
  ?assign ?body ?done ?stop
 case assign=>
  rintro q pre ⟨⟨x0,x1,x2⟩,hx⟩ W K ⟨⟨⟨v,hv,fe,hnil⟩,bA1,bT1⟩,hB⟩ hK
  simp only[Fy]
  gi_wp2
  exact hK _ _ ((KeepsOthers.alloc _ _).from _) (im.of ((Below.refl _ W).alloc (Nat.le_refl _) _)) ⟨⟨⟨v,hv.alloc _,fe.alloc _,hnil⟩,bA1.alloc _,(Below.heap_alloc _ _ _ (Array.getElem?_eq_some_iff.1 bT1).1).trans bT1⟩,hB.alloc hB.size _⟩ ⟨W.heap.size,hv.lt,World.alloc_heap_new _ _,rfl⟩
 case body=>
  rintro q pre ⟨⟨x0,x1,x2⟩,hx⟩ a' W hq hqr ⟨⟨⟨v,hv,fe,hnil⟩,bA1,bT1⟩,hB⟩ ⟨Bx,hBx,bX,rfl⟩ dV
  obtain⟨Da,JH,AZ⟩:=hx
  simp only at Da JH AZ bX
  obtain⟨A',c',e',_,hc⟩:=(hP.below hB).sl
  cases e'
  have dw:∃b o,A=some ⟨b,o,none⟩/\W.cell? ⟨b,o+x0*3+2,none⟩=some (.int .i64 (aV l x0).bx)/\W.cell? ⟨b,o+x1*3+2,none⟩=some (.int .i64 (aV l x1).bx):=by
   rcases hc with rfl|⟨b,o,rfl,kE⟩
   ·simp at Da
   ·exact⟨b,o,rfl,by rw[Nat.add_assoc];exact(kE x0 Da).2.2,by rw[Nat.add_assoc];exact(kE x1 JH).2.2⟩
  obtain⟨b,o,rfl,cP0,cP1⟩:=dw
  have cT0:W.cell? ⟨w.heap.size,0,none⟩=some (.slice Ag ng cg):=by simp[World.cell?,bT1]
  have cT1:W.cell? ⟨w.heap.size,1,none⟩=some (.slice At nt ct):=by simp[World.cell?,bT1]
  have Uc:W.cell? ⟨Bx,0,none⟩=some (.int .i64 (x0:Int)):=by simp[World.cell?,bX]
  have Ud:W.cell? ⟨Bx,1,none⟩=some (.int .i64 (x1:Int)):=by simp[World.cell?,bX]
  have cA:=bA1.cell
  have dP0:W.drew.cell? ⟨b,o+x0*3+2,none⟩=some (.int .i64 (aV l x0).bx):=cP0
  have dP1:W.drew.cell? ⟨b,o+x1*3+2,none⟩=some (.int .i64 (aV l x1).bx):=cP1
  have dT0:W.drew.cell? ⟨w.heap.size,0,none⟩=some (.slice Ag ng cg):=cT0
  have dT1:W.drew.cell? ⟨w.heap.size,1,none⟩=some (.slice At nt ct):=cT1
  have dX0:W.drew.cell? ⟨Bx,0,none⟩=some (.int .i64 (x0:Int)):=Uc
  have dX1:W.drew.cell? ⟨Bx,1,none⟩=some (.int .i64 (x1:Int)):=Ud
  have dA:W.drew.cell? ⟨w.heap.size+1,0,none⟩=some (.slice (some ⟨b,o,none⟩) l.length cp):=cA
  have qc:∀i,i<l.length->aV l i∈l:=fun i hi=>by
   unfold aV
   rw[List.getD_eq_getElem?_getD,List.getElem?_eq_getElem hi]
   exact List.getElem_mem hi
  have Vh:=mixed
  have hfw:=hA.1.BC
  have Tl:=IQ s hF (aV l x0).bx x2 (aV l x1).bx (hA.2 _ (qc x0 Da)) (hA.2 _ (qc x1 JH)) (jr (by omega))
  have hTW:jH Tryz.prog W (fun b=>b<w.heap.size) (.agg (aa s)) (.agg #[.slice Ag ng cg,.slice At nt ct]):=hT.frame (fun b hb=>hB.block b hb) (fun _ h=>h)
  have hAW:jH Tryz.prog W (fun b=>b<w.heap.size) (.sl (l.map ai)) (.slice (some ⟨b,o,none⟩) l.length cp):=hP.eS.frame (fun b hb=>hB.block b hb) (fun _ h=>h)
  obtain⟨fT,hT0,UG⟩:∃f:Nat->Value,(∀j,j<(aa s).length->(#[Value.slice Ag ng cg,.slice At nt ct])[j]? =some (f j))/\∀j a,(aa s)[j]? =some a->jH Tryz.prog W (fun b=>b<w.heap.size) a (f j):=by
   cases hTW with
   |agg _ _ f _ _ h3 h4=>exact⟨f,h3,h4⟩
  have dQ:St Tryz.prog W.heap.size 42 (fun b=>b<w.heap.size) (IV w.heap.size Bx) (Og s l x0 x1 x2) ⟨Ns s l x0 x1,1⟩ {tmps:= #[.agg #[.slice Ag ng cg,.slice At nt ct],.agg #[.slice (some ⟨b,o,none⟩) l.length cp],.pointer (some ⟨w.heap.size,0,none⟩),.pointer (some ⟨w.heap.size+1,0,none⟩),.slice none 0 0,.pointer (some ⟨w.heap.size+1+1,0,none⟩),.pointer (some ⟨Bx,0,none⟩),.int .i64 x2,undef,.agg #[.slice (some ⟨b,o,none⟩) l.length cp],.func (.func 302) #[] #[.pointer (some ⟨w.heap.size+1+1+1,0,none⟩)],.agg #[.int .i64 (x0:Int),.int .i64 (x1:Int)],.int .i64 x2,undef,undef,undef,undef,undef,undef,undef,undef,undef,undef,undef,undef,undef,undef,undef,undef,undef,undef,undef,undef,undef,undef,undef,undef,undef,undef,undef,undef,undef],defers:=[]} W:=by
   have n1:(IV w.heap.size Bx) ⟨1,0⟩=some ⟨w.heap.size,2,2,none⟩:=rfl
   have n2:(IV w.heap.size Bx) ⟨2,0⟩=some ⟨w.heap.size+1,1,1,none⟩:=rfl
   have n3:(IV w.heap.size Bx) ⟨3,0⟩=some ⟨w.heap.size+1+1,1,1,none⟩:=rfl
   have n4:(IV w.heap.size Bx) ⟨4,0⟩=some ⟨Bx,2,2,none⟩:=rfl
   have n5:(IV w.heap.size Bx) ⟨5,0⟩=some ⟨w.heap.size+1+1+1,1,1,none⟩:=rfl
   have rp:∀(id:Id) (B:sU),(IV w.heap.size Bx) id=some B->B.k=none->dh Tryz.prog W (fun b=>b<w.heap.size) (IV w.heap.size Bx) (.ptr id 0 0) (.pointer (some ⟨B.b,0,none⟩)):=fun id B h hk=>by
    have:=dh.ptr (P:=Tryz.prog) (w:=W) (D:=fun b=>b<w.heap.size) id 0 0 B h hk
    simpa using this
   have ri:∀n:Int,dh Tryz.prog W (fun b=>b<w.heap.size) (IV w.heap.size Bx) (.int .i64 n) (.int .i64 n):=fun n=>.eS _ _ (.int _ _)
   have hA1:jH Tryz.prog W (fun b=>b<w.heap.size) (.agg [.sl (l.map ai)]) (.agg #[.slice (some ⟨b,o,none⟩) l.length cp]):=.agg _ _ (fun _=>.slice (some ⟨b,o,none⟩) l.length cp) rfl (fun a ha=>by simp at ha;rw[ha];rfl) (fun j hj=>by match j,hj with|0,_=>rfl|j+1,hj=>simp at hj) (fun j a ha=>by match j,ha with|0,ha=>simp at ha;subst ha;exact hAW|j+1,ha=>simp at ha)
   refine⟨⟨Nat.le_refl _,fun b hb=>Nat.lt_of_lt_of_le hb hB.size,fun id r hg=>?_,fun id k6 r r' B B' h _ hw=>?_⟩,fun id hid=>?_,fun t=>?_,rfl⟩
   ·replace hg:Ns s l x0 x1 id=some r:=hg
    unfold Ns at hg
    split at hg
    ·rename_i e;subst e;injection hg with hg;subst hg
     exact⟨_,n1,EJ (cs:=aa s) rfl bT1 rfl rfl rfl (fun a ha=>by simp[aa]at ha;rcases ha with rfl|rfl<;>rfl) (fun j a ha=>⟨_,hT0 j (List.getElem?_eq_some_iff.1 ha).1,.eS _ _ (UG j a ha)⟩),fun h=>(by cases h),fun h=>(by cases h)⟩
    ·split at hg
     ·rename_i e;subst e;injection hg with hg;subst hg
      exact⟨_,n2,EJ (cs:=[.sl (l.map ai)]) rfl bA1 rfl rfl rfl (fun a ha=>by simp at ha;rw[ha];rfl) (fun j a ha=>by match j,ha with|0,ha=>simp at ha;subst ha;exact⟨_,rfl,.eS _ _ hAW⟩|j+1,ha=>simp at ha),fun h=>(by cases h),fun h=>(by cases h)⟩
     ·split at hg
      ·rename_i e;subst e;injection hg with hg;subst hg
       exact⟨_,n4,EJ (cs:=[.int .i64 (x0:Int),.int .i64 (x1:Int)]) rfl bX rfl rfl rfl (fun a ha=>by simp at ha;rcases ha with rfl|rfl<;>rfl) (fun j a ha=>by match j,ha with|0,ha=>simp at ha;subst ha;exact⟨_,rfl,ri _⟩|1,ha=>simp at ha;subst ha;exact⟨_,rfl,ri _⟩|j+2,ha=>simp at ha),fun h=>(by cases h),fun h=>(by cases h)⟩
      ·cases hg
   ·exfalso
    replace h:Ns s l x0 x1 id=some r:=h
    unfold Ns at h
    split at h
    ·injection h with h;subst h;cases hw
    ·split at h
     ·injection h with h;subst h;cases hw
     ·split at h
      ·injection h with h;subst h;cases hw
      ·cases h
   ·left
    unfold IV at hid
    repeat' (split at hid)
    all_goals first|(rename_i e;subst e;exact Nat.zero_lt_one)|exact absurd rfl hid
   ·match t with
    |0=>exact .eS _ _ hTW
    |1=>exact .eS _ _ hA1
    |2=>exact rp _ _ n1 rfl
    |3=>exact rp _ _ n2 rfl
    |4=>exact .eS _ _ .cu
    |5=>exact rp _ _ n3 rfl
    |6=>exact rp _ _ n4 rfl
    |7=>exact ri _
    |8=>exact dh.undef
    |9=>exact .eS _ _ hA1
    |10=>exact .fn _ _ _ (fun _=>.pointer (some ⟨w.heap.size+1+1+1,0,none⟩)) (by kernel_rfl) rfl (fun j hj=>by match j,hj with|0,_=>rfl|j+1,hj=>simp at hj) (fun j a ha=>by match j,ha with|0,ha=>simp at ha;subst ha;exact rp _ _ n5 rfl|j+1,ha=>simp at ha)
    |11=>exact .agg _ _ (fun j=>if j=0 then .int .i64 (x0:Int)else .int .i64 (x1:Int)) rfl (fun a ha=>by simp at ha;rcases ha with rfl|rfl<;>rfl) (fun j hj=>by match j,hj with|0,_=>rfl|1,_=>rfl|j+2,hj=>simp at hj;omega) (fun j a ha=>by match j,ha with|0,ha=>simp at ha;subst ha;exact ri _|1,ha=>simp at ha;subst ha;exact ri _|j+2,ha=>simp at ha)
    |12=>exact ri _
    |13=>exact dh.undef
    |14=>exact dh.undef
    |15=>exact dh.undef
    |16=>exact dh.undef
    |17=>exact dh.undef
    |18=>exact dh.undef
    |19=>exact dh.undef
    |20=>exact dh.undef
    |21=>exact dh.undef
    |22=>exact dh.undef
    |23=>exact dh.undef
    |24=>exact dh.undef
    |25=>exact dh.undef
    |26=>exact dh.undef
    |27=>exact dh.undef
    |28=>exact dh.undef
    |29=>exact dh.undef
    |30=>exact dh.undef
    |31=>exact dh.undef
    |32=>exact dh.undef
    |33=>exact dh.undef
    |34=>exact dh.undef
    |35=>exact dh.undef
    |36=>exact dh.undef
    |37=>exact dh.undef
    |38=>exact dh.undef
    |39=>exact dh.undef
    |40=>exact dh.undef
    |41=>exact dh.undef
    |t+42=>exact dh.undef
  have hV:wpOps (Call Tryz.prog) true ?vl (fun e _=>e 5=.ptr ⟨3,0⟩ 0 0/\e 6=.ptr ⟨4,0⟩ 0 0/\e 8=.int .i64 (gS s (aV l x0).bx x2 (aV l x1).bx)) (Og s l x0 x1 x2) ⟨Ns s l x0 x1,1⟩:= ?hv
  gi_wp2
  refine Ar mixed (rrE (nt:=42) (site0:=205005000)) (J6 (by kernel_rfl)) (nE (fun _ _ _ _ h=>iq mixed h) qu (fun _ _ h=>h) _ _ _ hV) dQ ?_
  rintro e1 σ1 ⟨tm,df⟩ w3 D1 ι1 ⟨h5,h6,h8⟩ T1 N2 DV
  case hv=>
   refine EB ?_
   have e0:=fC Da
   have e1:=fC JH
   (repeat(first|((repeat(revert hN;revert N;apply Pn.out));refine wk (tw @e0 (tw @e1 (tw @Og.eq_1 (tw @Ns.eq_1 (tw @ai.eq_1 @aa.eq_1))))) ?_;(repeat(refine Pn.mk ?_;intro N hN)))|((try apply Or.inl);refine⟨_,ar.x (Tl) (sd (tw @e0 (tw @e1 (tw @Og.eq_1 (tw @Ns.eq_1 (tw @ai.eq_1 @aa.eq_1)))))),?_⟩;refine hN _ _ ?_;clear hN N)))
   exact⟨sd @Og.eq_1,sd @Og.eq_1,sd @Og.eq_1⟩
  ·have BQ:Below W.heap.size W w3:=T1.below
   have xN:∀id B,IV w.heap.size Bx id=some B->ι1 id=some B:=T1.names
   have p5:tm.getD 5 undef=.pointer (some ⟨w.heap.size+1+1,0,none⟩):=by
    have g:=N2.env 5
    rw[h5]at g
    obtain⟨B,e,hB,_⟩:=iU g
    have h:=xN ⟨3,0⟩ ⟨w.heap.size+1+1,1,1,none⟩ rfl
    rw[h]at hB;injection hB with hB;subst hB
    simpa using e
   have p6:tm.getD 6 undef=.pointer (some ⟨Bx,0,none⟩):=by
    have g:=N2.env 6
    rw[h6]at g
    obtain⟨B,e,hB,_⟩:=iU g
    have h:=xN ⟨4,0⟩ ⟨Bx,2,2,none⟩ rfl
    rw[h]at hB;injection hB with hB;subst hB
    simpa using e
   have p8:tm.getD 8 undef=.int .i64 (gS s (aV l x0).bx x2 (aV l x1).bx):=by
    have g:=N2.env 8
    rw[h8]at g
    exact dt g
   have fh:=N2.size
   obtain⟨tl⟩:=tm
   obtain⟨f,Ih,hf⟩:∃f:Nat->Value,tl=[f 0,f 1,f 2,f 3,f 4,f 5,f 6,f 7,f 8,f 9,f 10,f 11,f 12,f 13,f 14,f 15,f 16,f 17,f 18,f 19,f 20,f 21,f 22,f 23,f 24,f 25,f 26,f 27,f 28,f 29,f 30,f 31,f 32,f 33,f 34,f 35,f 36,f 37,f 38,f 39,f 40,f 41]/\∀i,f i=(⟨tl⟩:Array Value).getD i undef:=by
    refine⟨fun i=>(⟨tl⟩:Array Value).getD i undef,?_,fun _=>rfl⟩
    have h:=JR tl undef
    rw[show tl.length=42 from fh]at h
    exact h
   rw[<-hf]at p5 p6 p8
   have UX:df=[]:=DV
   subst UX
   clear hf N2 dQ hV
   subst Ih
   rw[p5,p6,p8]
   have TH:=hv.kept (grown_of BQ) (by simp)
   have FL:=fe.kept (grown_of BQ) (by rcases fe.2 with⟨e,_⟩|⟨_,_,_,e,_⟩<;>rw[e]<;>simp[Value.ownBlock])
   have hc3:=TH.cell
   have Vm:w.heap.size<=w3.heap.size:=Nat.le_trans hB.size BQ.size
   have eX0:w3.cell? ⟨Bx,0,none⟩=some (.int .i64 (x0:Int)):=(BQ.cell (p:=⟨Bx,0,none⟩) (Array.getElem?_eq_some_iff.1 bX).1).trans Uc
   have eX1:w3.cell? ⟨Bx,1,none⟩=some (.int .i64 (x1:Int)):=(BQ.cell (p:=⟨Bx,1,none⟩) (Array.getElem?_eq_some_iff.1 bX).1).trans Ud
   have mQ:(nV s l pre).length<=2097152:=by
    have h1:=IL s l pre
    have h2:=Cw l l.length
    omega
   have hKF:KeepsFrom (w.heap.size+4) W w3:=⟨BQ.size,fun k o _ hk _=>(BQ.block k (Array.getElem?_eq_some_iff.1 hk).1).trans hk⟩
   have hKT:im w.heap.size W w3:=im.of BQ
   have T8:w3.heap[w.heap.size+1]? = _:=(BQ.block _ bA1.lt).trans bA1
   have T9:=(BQ.block _ (Array.getElem?_eq_some_iff.1 bT1).1).trans bT1
   by_cases lJ:0<gS s (aV l x0).bx x2 (aV l x1).bx
   ·have yw:nV s l (pre++[⟨(x0,x1,x2),Da,JH,AZ⟩])=nV s l pre++[⟨x0,x1,gS s (aV l x0).bx x2 (aV l x1).bx⟩]:=by
     rw[yd];simp only[zt,if_pos lJ]
    gi_wp2_with (gi_at_builtin;refine wpListIn_append_own _ rfl _ _ 179 rfl w.heap.size 254 i0 (.agg #[.int .i64 0,.int .i64 0,.int .i64 0]) 3 24 (by kernel_rfl) hi FO yJ kK rfl (by decide) _ _ _ rfl (FL.alloc _) ⟨w3.heap.size,0,none⟩ 1 1 [.int .i64 (x0:Int),.int .i64 (x1:Int),.int .i64 (gS s (aV l x0).bx x2 (aV l x1).bx)] rfl rfl (vM _ _ _ _ _) (by simp[Value.oneCell']) (by unfold maxLen;omega) (by omega) (by simp;omega) ?_;intro v' w4 BZ yy _;obtain⟨g',Ue,rfl⟩:=ownsRow_succ BZ;obtain⟨wg,L9,AW,tg,BR⟩:=TH.appended (by decide) FL Vm (by omega) BZ yy;have LW:=im.app TH FL yy BR;have p9:=wg.cell;have U0:=wg.frozen)
    exact⟨hKF.trans (tg.from _),hKT.trans LW,⟨⟨_,L9,by rw[yw,IK,List.length_append];exact AW,by rw[yw];simp⟩,(LW.2.1 _ _ _ _ T8 (by decide) (by decide)).trans T8,(LW.2.1 _ _ _ _ T9 (by decide) (by decide)).trans T9⟩,hB.trans ((BQ.mono hB.size).trans BR)⟩
   ·have yw:nV s l (pre++[⟨(x0,x1,x2),Da,JH,AZ⟩])=nV s l pre:=by
     rw[yd];simp only[zt,if_neg lJ,List.append_nil]
    gi_wp2
    exact⟨hKF,hKT,⟨⟨v,TH,by rw[yw];exact FL,by rw[yw];exact hnil⟩,T8,T9⟩,hB.trans (BQ.mono hB.size)⟩
 case done=>
  rintro D ys W hD Dc ⟨⟨⟨v,hv,fe,hnil⟩,_⟩,hB⟩ hK
  have hc:=hv.cell
  have K2:nV s l ys=da s l:=by rw[IU,<-Dc];rfl
  rw[K2]at fe hnil
  gi_wp2
  refine⟨by simp,.inl ⟨_,_,rfl,run_takeDeferred hK,?_⟩⟩
  exact⟨_,results_tmp rfl _ _ _,v,rfl,ownsRow_putObj fe _ hK rfl,hnil,hB.trans (belowK_b (w:=w) (Nat.le_refl _) W D _ _ (by omega) hK rfl rfl)⟩
 case stop=>
  rintro D c pre W _ _ h _
  exact h.elim
end Go.Proofs.YtgoljkjaameagaaGreat.V

namespace Go.Proofs.YtgoljkjaameagaaGreat.V
open Go.RowKit Go.Shelf
theorem Fo:∀{bs:List PB} {i j:Nat} {b:PB},bs[i]? =some b->j<3->(Ls bs)[i*3+j]? =([.int .i64 b.a,.int .i64 b.b,.int .i64 b.s]:List Value)[j]?
 |c::bs,0,j,b,h,hj=>by
  simp at h;subst h
  simp only[Ls,List.flatMap_cons,Nat.zero_mul,Nat.zero_add]
  rw[List.getElem?_append_left (by simpa using hj)]
 |c::bs,i+1,j,b,h,hj=>by
  simp only[List.getElem?_cons_succ]at h
  have:=Fo (bs:=bs) (i:=i) (j:=j) h hj
  simp only[Ls,List.flatMap_cons]at this ⊢
  rw[List.getElem?_append_right (by simp;omega),<-this]
  congr 1
  simp;omega
theorem r7 {P:Program} {w:World} {D:Nat->Prop} {rows:List (List AV)} {v:Value} (h:jH P w D (.sl rows) v):∃A n c,v=.slice A n c:=by
 cases h with
 |A6 a c _=>exact⟨_,_,_,rfl⟩
 |sl=>exact⟨_,_,_,rfl⟩
theorem rl {P:Program} {w:World} {D:Nat->Prop} {ι:Names} {rows:List (List AV)} {v:Value} (h:dh P w D ι (.sl rows) v):jH P w D (.sl rows) v:=by
 cases h with
 |eS _ _ h=>exact h
theorem MJ {P:Program} {w:World} {D:Nat->Prop} {l:List ae} {v:Value} (h:jH P w D (.sl (l.map ai)) v):pV w v l:=by
 generalize hr:l.map ai=rows at h
 cases h with
 |A6 a c hc=>
  have:l=[]:=by simpa using hr
  subst this
  exact⟨a,c,rfl,⟨Nat.zero_le _,hc⟩,.inl rfl⟩
 |sl _ b o n c sz vs h1 h2 h3 h4 h5 h5' h6 h7=>
  have hn:n=l.length:=by rw[<-h1,<-hr];simp
  subst hn
  refine⟨some ⟨b,o,none⟩,c,rfl,⟨h2,h3⟩,?_⟩
  by_cases hl:l=[]
  ·exact .inl hl
  refine .inr ⟨b,o,rfl,fun i hi=>?_⟩
  have hg:rows[i]? =some (ai (aV l i)):=by rw[<-hr];exact fC hi
  have fh:sz=3:=by rw[<-h5 _ (List.mem_of_getElem? hg)];rfl
  subst fh
  have k:∀(j:Nat) (x:Int),(ai (aV l i))[j]? =some (.int .i64 x)->j<3->w.cell? ⟨b,o+(i*3+j),none⟩=some (.int .i64 x):=fun j x hj h3=>by
   have:=h7 i j _ _ hg hj
   rw[h6 i j hi h3,dt (.eS (ι:=fun _=>none) _ _ this)]
  exact⟨k 0 _ rfl (by omega),k 1 _ rfl (by omega),k 2 _ rfl (by omega)⟩
theorem IS:Dd:=by
 intro s l hS hA n
 refine fP ?_
 intro hs D ι w vs S U A
 obtain⟨u0,TF,r0⟩:=A.2 0 _ rfl
 obtain⟨u1,R8,r1⟩:=A.2 1 _ rfl
 have dV:∀b,D b->b<w.heap.size:=S.dead
 obtain⟨v0,f0,rfl,FO,_,Tq,Vu⟩:=iA r0
 obtain⟨v1,f1,rfl,yJ,_,U0,L4⟩:=iA r1
 have g0:=rl (Vu 0 _ rfl)
 have g1:=rl (Vu 1 _ rfl)
 have a0:=rl (L4 0 _ rfl)
 obtain⟨Ag,ng,cg,eg⟩:=r7 g0
 obtain⟨At,nt,ct,et⟩:=r7 g1
 have e0:v0= #[.slice Ag ng cg,.slice At nt ct]:=by
  obtain⟨vl⟩:=v0
  have q0:=Tq 0 (by simp[aa])
  have q1:=Tq 1 (by simp[aa])
  rw[eg]at q0;rw[et]at q1
  match vl,FO with
  |[a,b],_=>simp at q0 q1;rw[q0,q1]
 have e1:v1= #[f1 0]:=by
  obtain⟨vl⟩:=v1
  have q0:=U0 0 (by simp)
  match vl,yJ with
  |[a],_=>simp at q0;rw[q0]
 subst e0 e1
 have evs:vs= #[.agg #[.slice Ag ng cg,.slice At nt ct],.agg #[f1 0]]:=by
  obtain⟨vl⟩:=vs
  have hz:=A.1
  match vl,hz with
  |[a,b],_=>simp at TF R8;rw[TF,R8]
 subst evs
 have up:∀{a v},jH Tryz.prog w D a v->jH Tryz.prog w (fun b=>b<w.heap.size) a v:=fun h=>h.frame (fun _ _=>rfl) dV
 have hT:jH Tryz.prog w (fun b=>b<w.heap.size) (.agg (aa s)) (.agg #[.slice Ag ng cg,.slice At nt ct]):=
  .agg _ _ f0 FO (fun a ha=>by simp[aa]at ha;rcases ha with rfl|rfl<;>rfl) Tq (fun j a ha=>by
   match j,ha with
   |0,ha=>simp[aa]at ha;subst ha;exact up g0
   |1,ha=>simp[aa]at ha;subst ha;exact up g1
   |j+2,ha=>simp[aa]at ha)
 refine(callsIn_wide.1 (IT s l hS.form hA w Ag At ng cg nt ct (f1 0) hT (MJ a0))).mono ?_
 rintro e W' ⟨v,rfl,⟨hl,hown⟩,hnil,hB⟩
 have S':gy Tryz.prog hs D ι (fun _=>none) W':=S.stay (fun b hb=>hB.block b hb) hB.size (fun _ h=>h) (fun b hb=>Nat.lt_of_lt_of_le (dV b hb) hB.size) (fun _ h=>.inl h) (fun _ _ h=>h)
 have T:Step hs D ι w D ι W':=Step.stay S (fun b hb=>hB.block b hb) hB.size hB.os hB.tape hB.output (fun _ h=>h) (fun _ h=>.inl h) (fun _ _ h=>h)
 rcases hown with⟨rfl,h0⟩|⟨gb,cap,cur,rfl,OT,hblk,hle,DU,dw,oZ⟩
 ·have DS:da s l=[]:=hnil.1 rfl
  exact⟨.cu,_,n,D,ι,_,rfl,⟨.cu,kd _ _,by rw[DS];rfl⟩,T,S',U,Nat.le_refl _,.eS _ _ .cu⟩
 ·have DS:da s l≠[]:=fun h=>by have:=hnil.2 h;cases this
  have mz:ι ⟨0,n⟩=none:=fresh U (fun h=>h)
  have ia:∀{a v},dh Tryz.prog W' D ι a v->dh Tryz.prog W' D (kC ι ⟨0,n⟩ ⟨gb,3,cap*3,none⟩) a v:=fun h=>h.frame (fun _ _=>rfl) (fun _ h=>h) (fU mz)
  have hR:ib Tryz.prog W' D (kC ι ⟨0,n⟩ ⟨gb,3,cap*3,none⟩) ⟨gb,3,cap*3,none⟩ ⟨true,3,(da s l).map aC⟩:=by
   refine kV.obj ⟨rfl,⟨cur,_,hblk,dw⟩,?_,fun cs hc=>?_,fun cs hc a ha=>?_,fun i j cs a hi hj=>?_⟩ rfl
   ·simp only[List.length_map];exact Nat.mul_le_mul_right 3 hle
   ·obtain⟨b,_,rfl⟩:=List.mem_map.1 hc;rfl
   ·obtain⟨b,_,rfl⟩:=List.mem_map.1 hc
    simp[aC]at ha
    rcases ha with rfl|rfl|rfl<;>rfl
   ·rw[List.getElem?_map]at hi
    simp only[Option.map_eq_some_iff]at hi
    obtain⟨b,hb,rfl⟩:=hi
    have Va:j<3:=by have:=(List.getElem?_eq_some_iff.1 hj).1;simpa[aC]using this
    have nR:=(List.getElem?_eq_some_iff.1 hb).1
    have hg:=Fo hb Va
    rw[<-oZ,List.getElem?_take,if_pos (by omega)]at hg
    have key:∀x:Value,([.int .i64 b.a,.int .i64 b.b,.int .i64 b.s]:List Value)[j]? =some x->W'.cell? ⟨gb,i*3+j,none⟩=some x:=fun x hx=>by
     rw[hx]at hg
     have e:W'.cell? ⟨gb,i*3+j,none⟩=cur[i*3+j]? :=by
      unfold World.cell?
      rw[show W'.heap[(⟨gb,i*3+j,none⟩:Addr).block]? = _ from hblk]
      rfl
     rw[e,<-Array.getElem?_toList];exact hg
    match j,hj with
    |0,hj=>simp[aC]at hj;subst hj;exact⟨_,key _ rfl,.eS _ _ (.int _ _)⟩
    |1,hj=>simp[aC]at hj;subst hj;exact⟨_,key _ rfl,.eS _ _ (.int _ _)⟩
    |2,hj=>simp[aC]at hj;subst hj;exact⟨_,key _ rfl,.eS _ _ (.int _ _)⟩
    |j+3,hj=>simp[aC]at hj
  have S2:=gy.add (r:=⟨true,3,(da s l).map aC⟩) S S' mz OT hR
  refine⟨.own ⟨0,n⟩ 0 (da s l).length,bR (fun _=>none) ⟨0,n⟩ ⟨true,3,(da s l).map aC⟩,n+1,D,kC ι ⟨0,n⟩ ⟨gb,3,cap*3,none⟩,_,rfl,⟨Ay (da s l),?_,rfl⟩,T.trans (Step.stay S' (fun _ _=>rfl) (Nat.le_refl _) rfl rfl rfl (fun _ h=>h) (fun _ h=>.inl h) (fU mz)),S2,U.upd.next,Nat.le_succ _,.own _ _ _ _ _ _ (eA _ _ _) rfl hle (.inr (by simp)) (by simp) DU⟩
  unfold Ay
  rw[if_neg DS]
  have hg:(bR (fun _=>none) (⟨0,n⟩:Id) ⟨true,3,(da s l).map aC⟩:Rows) ⟨0,n⟩=some ⟨true,3,(da s l).map aC⟩:=by simp[bR]
  have:=fj (n:=5) hg rfl fun b=>uN _ 4 b
  simpa using this
end Go.Proofs.YtgoljkjaameagaaGreat.V

namespace Go.Proofs.YtgoljkjaameagaaGreat.V
open Go.RowKit
theorem PK {P:Program} {w:World} {D:Nat->Prop} {ι:Names} {x y:Int} {v:Value} (h:dh P w D ι (.agg [.int .i64 x,.int .i64 y]) v):v=.agg #[.int .i64 x,.int .i64 y]:=by
 obtain⟨vs,f,rfl,fh,_,h1,h2⟩:=iA h
 have v0:=h1 0 (by simp)
 have v1:=h1 1 (by simp)
 rw[dt (h2 0 _ rfl)]at v0
 rw[dt (h2 1 _ rfl)]at v1
 obtain⟨vl⟩:=vs
 match vl,fh with
 |[a,b],_=>
  simp at v0 v1
  rw[v0,v1]
theorem Bf {σ:ax} {X O:Id} {b1 b2:Bool} {es:List En} (hX:σ.get X=some ⟨b1,1,[[.map O mP]]⟩) (hO:σ.get O=some ⟨b2,mP.ma,es.map pZ⟩) (hl:es.length<=1000000):
  Call Tryz.prog 282 [.cu,.fn 232 [.ptr X 0 0]] σ (fun r σ'=>σ.next<=σ'.next/\(∀x:Id,x.bj<σ.next->σ'.get x=σ.get x)/\∃ss:List ah,ss.Perm (es.map (·.1))/\((ss=[]/\r=.cu)∨∃o:Id,r=.own o 0 ss.length/\σ'.get o=some ⟨true,2,ss.map ab⟩/\σ.next<=o.bj/\o.bj<σ'.next/\ss≠[])):=by
 refine fP fun hs D ι w vs S U A=>?_
 obtain⟨u1,us1,rfl,h1,h2⟩:=kT A
 obtain⟨u2,us2,h3,h4,h5⟩:=kT h2
 simp at h3;subst h3
 have:=wW h5
 simp at this;subst this
 obtain rfl:=iR h1
 obtain⟨vc,gf,rfl,_,xz,Nz,hrc⟩:=wY h4
 obtain⟨BX,hp,hBX,hkX⟩:=iU (hrc 0 _ rfl)
 have VB:vc= #[.pointer (some ⟨BX.b,0,none⟩)]:=by
  obtain⟨l⟩:=vc
  have q0:=Nz 0 (by simp)
  match l,xz with
  |[a],_=>simp at q0;rw[q0,hp];simp
 subst VB
 obtain⟨BX',LL,RX,_,_⟩:=S.row X _ hX
 rw[hBX]at LL;injection LL with LL;subst LL
 obtain⟨vm,G5,L5⟩:=(RX.row hkX).at_ 0 0 _ _ rfl rfl
 obtain⟨BO,rfl,hBO,hkO⟩:=F5 L5
 obtain⟨BO',LK,RO,_,_⟩:=S.row O _ hO
 rw[hBO]at LK;injection LK with LK;subst LK
 obtain⟨_,S5,clock,hblk,fh,⟨_,Vw⟩,hM⟩:=RO.map mP hkO
 have hk:S5.toList.map (·.key)=(es.map (·.1)).map rR:=by
  have L6:S5.toList.length=es.length:=by simpa using fh
  refine List.ext_getElem (by simpa using L6) fun i h1 h2=>?_
  have hi:i<es.length:=by simpa using h2
  obtain⟨e,kv,vv,q1,q2,_,q4,_⟩:=hM i (pZ es[i]) (by simp[hi])
  have e1:kv=.agg [.int .i64 es[i].1.eR,.int .i64 es[i].1.eM]:=by
   simp[part,MK.ks,pZ]at q2
   exact q2.symm
  subst e1
  have e2:=PK q4
  simp only[List.getElem_map]
  have e3:S5.toList[i]'(by omega)=e:=by
   have:=Array.getElem?_eq_some_iff.1 q1
   obtain⟨_,h⟩:=this
   simpa using h
  rw[e3,e2];rfl
 have dV:∀b,D b->b<w.heap.size:=S.dead
 have hbx:BX.b<w.heap.size:=RX.lt
 have Rw:w.cell? ⟨BX.b,0,none⟩=some (.map (some BO.b)):=by simpa using G5
 refine(callsIn_wide.1 (zo BX.b BO.b S5 clock Vw (es.map (·.1)) hk (by simpa using hl) w hbx Rw hblk)).mono ?_
 rintro e W' ⟨ss,v,hperm,rfl,⟨hle',hown⟩,hnil,hB⟩
 have S':gy Tryz.prog hs D ι σ.get W':=S.stay (fun b hb=>hB.block b hb) hB.size (fun _ h=>h) (fun b hb=>Nat.lt_of_lt_of_le (dV b hb) hB.size) (fun _ h=>.inl h) (fun _ _ h=>h)
 have T:Step hs D ι w D ι W':=Step.stay S (fun b hb=>hB.block b hb) hB.size hB.os hB.tape hB.output (fun _ h=>h) (fun _ h=>.inl h) (fun _ _ h=>h)
 rcases hown with⟨rfl,h0⟩|⟨gb,cap,cur,rfl,OT,hblk2,hle,DU,dw,oZ⟩
 ·have DS:ss=[]:=hnil.1 rfl
  exact⟨.cu,_,σ.next,D,ι,_,rfl,⟨Nat.le_refl _,fun _ _=>rfl,ss,hperm,.inl ⟨DS,rfl⟩⟩,T,S',U,Nat.le_refl _,.eS _ _ .cu⟩
 ·have DS:ss≠[]:=fun h=>by have:=hnil.2 h;cases this
  have mz:ι ⟨0,σ.next⟩=none:=fresh U (fun h=>h)
  have hR:ib Tryz.prog W' D (kC ι ⟨0,σ.next⟩ ⟨gb,2,cap*2,none⟩) ⟨gb,2,cap*2,none⟩ ⟨true,2,ss.map ab⟩:=by
   refine kV.obj ⟨rfl,⟨cur,_,hblk2,dw⟩,?_,fun cs hc=>?_,fun cs hc a ha=>?_,fun i j cs a hi hj=>?_⟩ rfl
   ·simp only[List.length_map];exact Nat.mul_le_mul_right 2 hle
   ·obtain⟨b,_,rfl⟩:=List.mem_map.1 hc;rfl
   ·obtain⟨b,_,rfl⟩:=List.mem_map.1 hc
    simp[ab]at ha
    rcases ha with rfl|rfl<;>rfl
   ·rw[List.getElem?_map]at hi
    simp only[Option.map_eq_some_iff]at hi
    obtain⟨b,hb,rfl⟩:=hi
    have Va:j<2:=by have:=(List.getElem?_eq_some_iff.1 hj).1;simpa[ab]using this
    have nR:=(List.getElem?_eq_some_iff.1 hb).1
    have hg:=ML hb Va
    rw[<-oZ,List.getElem?_take,if_pos (by omega)]at hg
    have key:∀x:Value,([.int .i64 b.eR,.int .i64 b.eM]:List Value)[j]? =some x->W'.cell? ⟨gb,i*2+j,none⟩=some x:=fun x hx=>by
     rw[hx]at hg
     have e:W'.cell? ⟨gb,i*2+j,none⟩=cur[i*2+j]? :=by
      unfold World.cell?
      rw[show W'.heap[(⟨gb,i*2+j,none⟩:Addr).block]? = _ from hblk2]
      rfl
     rw[e,<-Array.getElem?_toList];exact hg
    match j,hj with
    |0,hj=>simp[ab]at hj;subst hj;exact⟨_,key _ rfl,.eS _ _ (.int _ _)⟩
    |1,hj=>simp[ab]at hj;subst hj;exact⟨_,key _ rfl,.eS _ _ (.int _ _)⟩
    |j+2,hj=>simp[ab]at hj
  have S2:=gy.add (r:=⟨true,2,ss.map ab⟩) S S' mz OT hR
  refine⟨.own ⟨0,σ.next⟩ 0 ss.length,bR σ.get ⟨0,σ.next⟩ ⟨true,2,ss.map ab⟩,σ.next+1,D,kC ι ⟨0,σ.next⟩ ⟨gb,2,cap*2,none⟩,_,rfl,⟨Nat.le_succ _,fun x hx=>?_,ss,hperm,.inr ⟨_,rfl,by simp[bR],Nat.le_refl _,Nat.lt_succ_self _,DS⟩⟩,T.trans (Step.stay S' (fun _ _=>rfl) (Nat.le_refl _) rfl rfl rfl (fun _ h=>h) (fun _ h=>.inl h) (fU mz)),S2,U.upd.next,Nat.le_succ _,.own _ _ _ _ _ _ (eA _ _ _) rfl hle (.inr (by simp)) (by simp) DU⟩
  have:¬x=⟨0,σ.next⟩:=fun e=>by subst e;simp at hx
  simp[bR,this]
end Go.Proofs.YtgoljkjaameagaaGreat.V

namespace Go.Proofs.YtgoljkjaameagaaGreat.V
open Go.RowKit
attribute [local irreducible] eu wpOps gq Call
attribute [local go_sem] aI fJ eP fZ fY dc upd cz K.av cJ AV.cells AV.cell rowOf rowsOf part ld rowAt bR cq dC ea gV bJ cZ eo fX eY dr ef cX cW dM dO bP aX cN bL cQ cP ec eh ee cL bU cY eb bK aO cU cG gU bp cI bQ aW dx bf dD AV.undef bD bF dR dY dI dP cH ek ew cF ej ei cR cV List.getD_cons_zero List.getD_cons_succ List.getD_nil List.all_cons List.all_nil Bool.and_true Bool.true_and Bool.and_self Bool.not_true Bool.not_false Option.map_some Option.map_none Option.bind_some Option.bind_none List.length_cons List.length_nil List.take_succ_cons List.take_zero List.take_nil List.drop_succ_cons List.drop_zero List.drop_nil List.head?_cons List.map_cons List.map_nil List.getElem?_cons_zero List.getElem?_cons_succ List.cons_append List.nil_append List.append_nil List.length_map List.set_cons_zero List.set_cons_succ Nat.reduceMul eq_self Int.toNat_natCast Int.natCast_nonneg and_self true_and and_true decide_true decide_false Bool.false_eq_true Nat.zero_add Nat.add_zero List.contains_cons List.contains_nil Bool.or_false Bool.false_or beq_self_eq_true Nat.reduceBEq ne_eq not_true_eq_false not_false_eq_true Id.mk.injEq false_and and_false Nat.reduceLT Int.reduceLE Int.reduceLT Int.reduceToNat Int.reduceNeg Int.reduceAdd Nat.le_refl List.length_append beq_true beq_false Bool.not_eq_eq_eq_not or_false false_or dJ aj aq aH aZ bB ck aT bc aU aY cK bG
theorem pd {α:Type} [DecidableEq α]:∀{xs ys:List α},xs.Nodup->(∀x∈xs,x∈ys)->xs.length=ys.length->xs.Perm ys
 |[],ys,_,_,h=>by
  have:ys=[]:=List.eq_nil_of_length_eq_zero h.symm
  subst this;exact List.Perm.nil
 |x::xs,ys,hn,hs,h=>by
  obtain⟨h1,h2⟩:=List.nodup_cons.1 hn
  have hx:=hs x (by simp)
  have hl:=List.length_erase_of_mem hx
  have:=@pd α _ xs (ys.erase x) h2 (fun y hy=>(List.mem_erase_of_ne fun e=>h1 (by rw[<-e];exact hy)).2 (hs y (by simp[hy]))) (by rw[hl];simp only[List.length_cons]at h;omega)
  exact(this.cons x).trans (List.perm_cons_erase hx).symm
theorem ny {L:List ah} (h:mU L):L.Nodup:=List.Pairwise.imp (fun {a b} od e=>by rw[e,nq]at od;cases od) h
theorem MZ {L qs:List ah} (hR:mU L) (hp:qs.Perm L) (hs:∀i j:Nat,i<j->j<qs.length->kO (jG qs j) (jG qs i)=false):qs=L:=by
 have hd:qs.Nodup:=hp.nodup_iff.2 (ny hR)
 have hq:mU qs:=by
  unfold mU
  unfold List.Nodup at hd
  rw[List.pairwise_iff_getElem]at hd ⊢
  intro i j hi hj D6
  have h1:=hs i j D6 hj
  rw[jU hj,jU hi]at h1
  exact Aa h1 fun e=>hd i j hi hj D6 e.symm
 exact F7 hq hR fun x=>hp.mem_iff
theorem HH (σ:ax):Call Tryz.prog 231 [.cu,.fn 154 []] σ fun r σ'=>r=.iD []/\σ'.next=σ.next/\σ'.get=σ.get:=by
 refine fP fun hs D ι w vs S U A=>?_
 obtain⟨u1,us1,rfl,h1,h2⟩:=kT A
 obtain⟨u2,us2,h3,h4,h5⟩:=kT h2
 simp at h3;subst h3
 have:=wW h5
 simp at this;subst this
 obtain rfl:=iR h1
 refine(NT _ _ _ w).mono ?_
 rintro e w' ⟨rfl,rfl⟩
 exact⟨.iD [],σ.get,σ.next,D,ι,_,rfl,⟨rfl,rfl,rfl⟩,Step.refl _ _ _ _,S,U,Nat.le_refl _,.iD [] #[] (fun _=>Go.undef) rfl (fun j hj=>by simp at hj) (fun j a h=>by simp at h)⟩
theorem JM (O:Id) (σ:ax):Call Tryz.prog 153 [.map O mP] σ (fun r σ'=>r=.fn 232 [.ptr ⟨153000000,σ.next⟩ 0 0]/\σ'.get ⟨153000000,σ.next⟩=some ⟨true,1,[[.map O mP]]⟩/\σ.next<σ'.next/\∀x:Id,x.bj<σ.next->σ'.get x=σ.get x):=by
 refine eZ eG rfl fun hl=>?_
 clear hl
 (try((repeat(revert hN;revert N;apply Pn.out));refine wk @Nat.zero_add ?_;(repeat(refine Pn.mk ?_;intro N hN))))
 exact fq (.inl rfl) (vs:=[.fn 232 [.ptr ⟨153000000,σ.next⟩ 0 0]]) (sd @Nat.zero_add) ⟨rfl,sd @Nat.zero_add,by(try dsimp only);omega,fun x hx=>by
  have:=dB hx
  simp only[go_sem, ↓reduceIte,Nat.reduceEqDiff,Nat.reduceAdd,Nat.reduceSub,Nat.reduceLeDiff,reduceCtorEq,this]⟩
theorem Gy {σ:ax} {X O:Id} {b1 b2:Bool} {es:List En} (hX:σ.get X=some ⟨b1,1,[[.map O mP]]⟩) (hO:σ.get O=some ⟨b2,mP.ma,es.map pZ⟩) (hl:es.length<=1000000) (hXv:X.bj<σ.next) (Th:O.bj<σ.next):
  Call Tryz.prog 230 [.fn 232 [.ptr X 0 0]] σ (fun r σ'=>σ.next<=σ'.next/\(∀x:Id,x.bj<σ.next->σ'.get x=σ.get x)/\∃ss:List ah,ss.Perm (es.map (·.1))/\((ss=[]/\r=.cu)∨∃o:Id,r=.own o 0 ss.length/\σ'.get o=some ⟨true,2,ss.map ab⟩/\σ.next<=o.bj/\o.bj<σ'.next/\ss≠[])):=by
 refine eZ eG rfl fun lG=>?_
 clear lG
 (try((repeat(revert hN;revert N;apply Pn.out));refine wk @Nat.zero_add ?_;(repeat(refine Pn.mk ?_;intro N hN))))
 refine .inr (aJ _ _ _ _ _ (fun r σ1 hq=>?_) (Bf (σ:=⟨σ.get,_⟩) hX hO hl))
 obtain⟨g1,x1⟩:=σ1
 obtain⟨q1,q2,ss,q3,q4⟩:=hq
 (try dsimp only at q1 q2 q4)
 refine hN _ _ ?_
 clear hN N
 (try((repeat(revert hN;revert N;apply Pn.out));refine wk @Nat.zero_add ?_;(repeat(refine Pn.mk ?_;intro N hN))))
 exact fq (.inl rfl) (vs:=[r]) (sd @Nat.zero_add) ⟨by(try dsimp only);omega,fun x hx=>q2 x (by omega),ss,q3,by
  rcases q4 with h|⟨o,h1,h2,h3,h4,h5⟩
  ·exact .inl h
  ·exact .inr ⟨o,h1,h2,by omega,by(try dsimp only);omega,h5⟩⟩
theorem Kv {σ:ax} {X O:Id} {b1 b2:Bool} {es:List En} (hX:σ.get X=some ⟨b1,1,[[.map O mP]]⟩) (hO:σ.get O=some ⟨b2,mP.ma,es.map pZ⟩) (hl:es.length<=1000000) (hXv:X.bj<σ.next) (Th:O.bj<σ.next) (L:List ah) (hR:mU L) (hn:(es.map (·.1)).Nodup) (hm:∀x,x∈L↔x∈es.map (·.1)):
  Call Tryz.prog 152 [.fn 232 [.ptr X 0 0],.fn 154 []] σ (fun r σ'=>σ.next<=σ'.next/\(∀x:Id,x.bj<σ.next->σ'.get x=σ.get x)/\((L=[]/\r=.cu)∨∃o:Id,r=.own o 0 L.length/\σ'.get o=some ⟨true,2,L.map ab⟩/\σ.next<=o.bj/\o.bj<σ'.next/\L≠[])):=by
 refine eZ eG rfl fun lG=>?_
 clear lG
 (try((repeat(revert hN;revert N;apply Pn.out));refine wk @Nat.zero_add ?_;(repeat(refine Pn.mk ?_;intro N hN))))
 refine .inr (aJ _ _ _ _ _ (fun r σ1 hq=>?_) (Gy (σ:=⟨σ.get,_⟩) hX hO hl (by(try dsimp only);omega) (by(try dsimp only);omega)))
 obtain⟨g1,x1⟩:=σ1
 obtain⟨q1,q2,ss,q3,q4⟩:=hq
 (try dsimp only at q1 q2 q4)
 have mh:ss.Nodup:=q3.nodup_iff.2 hn
 have qc:∀x,x∈L↔x∈ss:=fun x=>(hm x).trans q3.mem_iff.symm
 refine hN _ _ ?_
 clear hN N
 rcases q4 with⟨hs,rfl⟩|⟨o,rfl,q5,q6,q7,q8⟩
 ·have hL:L=[]:=List.eq_nil_iff_forall_not_mem.2 fun x hx=>by have:=(qc x).1 hx;rw[hs]at this;cases this
  (try((repeat(revert hN;revert N;apply Pn.out));refine wk @Nat.zero_add ?_;(repeat(refine Pn.mk ?_;intro N hN))))
  refine .inr (aJ _ _ _ _ _ (fun r σ2 hq=>?_) (HH ⟨g1,_⟩))
  obtain⟨g2,x2⟩:=σ2
  obtain⟨rfl,u1,u2⟩:=hq
  (try dsimp only at u1 u2)
  refine hN _ _ ?_
  clear hN N
  (try((repeat(revert hN;revert N;apply Pn.out));refine wk @Nat.zero_add ?_;(repeat(refine Pn.mk ?_;intro N hN))))
  exact fq (.inl rfl) (vs:=[.cu]) (sd @Nat.zero_add) ⟨by(try dsimp only);omega,fun x hx=>(congrFun u2 x).trans (q2 x (by omega)),.inl ⟨hL,rfl⟩⟩
 ·have xx:ss.length<=1048576:=by rw[q3.length_eq,List.length_map];omega
  (try((repeat(revert hN;revert N;apply Pn.out));refine wk @Nat.zero_add ?_;(repeat(refine Pn.mk ?_;intro N hN))))
  refine .inr (aJ _ _ _ _ _ (fun r σ2 hq=>?_) (HI SE NT ss xx ⟨g1,_⟩ o q5))
  obtain⟨g2,x2⟩:=σ2
  obtain⟨u1,u2,qs,u3,u4,u5,u6⟩:=hq
  (try dsimp only at u1 u2 u3)
  have TC:qs=L:=MZ hR ((pd (ny hR) (fun x hx=>(u5 x).2 ((qc x).1 hx)) (by
   rw[u4]
   exact(pd (ny hR) (fun x hx=>(qc x).1 hx) (Nat.le_antisymm (mH (ny hR) fun x hx=>(qc x).1 hx) (mH mh fun x hx=>(qc x).2 hx))).length_eq)).symm) u6
  rw[TC]at u3 u4
  have Ro:L≠[]:=fun e=>by rw[e]at u4;exact q8 (List.eq_nil_of_length_eq_zero u4.symm)
  refine hN _ _ ?_
  clear hN N
  (try((repeat(revert hN;revert N;apply Pn.out));refine wk @Nat.zero_add ?_;(repeat(refine Pn.mk ?_;intro N hN))))
  exact fq (.inl rfl) (vs:=[.own o 0 ss.length]) (sd @Nat.zero_add) ⟨by(try dsimp only);omega,fun x hx=>by
   have h1:x≠o:=fun e=>by rw[e]at hx;omega
   exact(u2 x h1).trans (q2 x (by omega)),.inr ⟨o,by rw[u4];rfl,u3,by omega,by(try dsimp only);omega,Ro⟩⟩
def Ir (z m:Nat) (L:List ae) (v:AV) (g:Rows) (n:Nat):Prop:=(L=[]/\v=.cu)∨∃u:Id,v=.own u 0 L.length/\g u=some ⟨true,3,L.map ai⟩/\m<=u.bj/\u.bj<n/\0<L.length/\u.site=z
theorem Ir.frame {z m:Nat} {L:List ae} {v v':AV} {g g':Rows} {n n':Nat} (h:Ir z m L v g n) (he:v'=v) (hn:n<=n') (hf:∀x:Id,x.bj<n->g' x=g x):Ir z m L v' g' n':=by
 subst he
 rcases h with h|⟨u,h1,h2,h3,h4,h5⟩
 ·exact .inl h
 ·exact .inr ⟨u,h1,(hf u h4).trans h2,h3,by omega,h5⟩
def jx (p:ah) (ks:List Int) (j:Nat):List ae:=(ks.take j).map fun k=>⟨p,k⟩
theorem yZ {p:ah} {ks:List Int} {j:Nat} (h:j<ks.length):jx p ks (j+1)=jx p ks j++[⟨p,ks.getD j 0⟩]:=by
 unfold jx
 rw[List.take_succ_eq_append_getElem h,List.map_append]
 simp[List.getD_eq_getElem?_getD,h]
theorem CA (p:ah) (ks:List Int):jx p ks ks.length=ks.map fun k=>(⟨p,k⟩:ae):=by unfold jx;rw[List.take_length]
theorem FT {ks:List Int} {j:Nat} (h:j<ks.length):(ks.map aw)[j]? =some [.int .i64 (ks.getD j 0)]:=by simp[aw,List.getD_eq_getElem?_getD,h]
theorem Px {σ:ax} {c T O:Id} {s:aE} {l:List ae} (h:Iq σ.get σ.next c T O s l) (hT:1<=s.az) (hS:ik s.aB) (hA:kn s.aB l):
  Call Tryz.prog 84 [.ptr c 0 0] σ (fun r σ'=>σ.next<=σ'.next/\(∀x:Id,x.bj<σ.next->σ'.get x=σ.get x)/\Ir 84008005 σ.next (sZ (eJ s l) s.aB.ad.length (jv l)) r σ'.get σ'.next):=by
 refine eZ eG rfl fun lG=>?_
 clear lG
 obtain⟨es,hO,hE⟩:=h.op
 have fe:=h.o.row
 have v1:=dB h.o.cv
 have v2:=dB h.o.ov
 have Ih:=hS.xl
 have GZ:=hA.1.BC
 have O2:∀q,q∈l5 s l↔q∈es.map (·.1):=fun q=>by
  rw[wC hT hA]
  rcases hE.at_ q trivial with⟨h1,h2⟩|⟨h1,o,h2,_⟩
  ·refine⟨fun h=>absurd h1 h,fun h=>?_⟩
   obtain⟨e,he,rfl⟩:=List.mem_map.1 h
   exact absurd rfl (h2 e he)
  ·exact⟨fun _=>List.mem_map_of_mem (f:=(·.1)) h2,fun _=>h1⟩
 have TB:(l5 s l).length<=10000:=by
  have h1:(l5 s l).length<=(jv l).length:=List.length_filter_le _ _
  have h2:(jv l).length<=l.length*4:=lf l l.length
  omega
 have hes:es.length<=1000000:=by
  have h1:=mH hE.nodup fun x hx=>(O2 x).2 hx
  rw[List.length_map]at h1
  omega
 rw[Dp]
 have hR:=DI s l
 have tf:∀q∈l5 s l,iO s l q≠[]:=fun q hq=>(wC hT hA q).1 hq
 generalize l5 s l=ps at O2 TB hR tf
 (try((repeat(revert hN;revert N;apply Pn.out));refine wk (tw @fe @v1) ?_;(repeat(refine Pn.mk ?_;intro N hN))))
 refine .inr (aJ _ _ _ _ _ (fun r σ1 hq=>?_) (JM O _))
 obtain⟨g1,x1⟩:=σ1
 obtain⟨rfl,q1,q2,q3⟩:=hq
 (try dsimp only at q1 q2 q3)
 have hO1:g1 O=some ⟨true,mP.ma,es.map pZ⟩:=(q3 O (by have:=h.o.ov;(try dsimp only);omega)).trans hO
 refine hN _ _ ?_
 clear hN N
 (try((repeat(revert hN;revert N;apply Pn.out));refine wk @Nat.zero_add ?_;(repeat(refine Pn.mk ?_;intro N hN))))
 refine .inr (aJ _ _ _ _ _ (fun r σ2 hq=>?_) (Kv (σ:=⟨g1,_⟩) q1 hO1 hes (by(try dsimp only);omega) (by have:=h.o.ov;(try dsimp only);omega) ps hR hE.nodup O2))
 obtain⟨g2,x2⟩:=σ2
 obtain⟨u1,u2,u3⟩:=hq
 (try dsimp only at u1 u2 u3)
 have GY:∀x:Id,x.bj<σ.next->g2 x=σ.get x:=fun x hx=>(u2 x (by omega)).trans (q3 x (by(try dsimp only);omega))
 refine hN _ _ ?_
 clear hN N
 rcases u3 with⟨hps,rfl⟩|⟨o,rfl,ho,rX,Pb,hpne⟩
 ·(try((repeat(revert hN;revert N;apply Pn.out));refine wk @Nat.zero_add ?_;(repeat(refine Pn.mk ?_;intro N hN))))
  refine aM (fun n env st=>(env 15=.int .i64 0/\env 14=.int .i64 0/\env 3=.cu)/\σ.next<=st.next/\∀x:Id,x.bj<σ.next->st.get x=σ.get x) 0 ⟨⟨sd @Nat.zero_add,sl @Nat.zero_add,sd @Nat.zero_add⟩,by(try dsimp only);omega,fun x hx=>GY x hx⟩ ?_
  rintro m e st ⟨⟨a15,Ln,a3⟩,an,aF⟩ -
  have d0:decide ((0:Int)<0)=false:=rfl
  (try((repeat(revert hN;revert N;apply Pn.out));refine wk (tw @a3 (tw @Ln (tw @a15 @d0))) ?_;(repeat(refine Pn.mk ?_;intro N hN))))
  exact fq (.inl rfl) (vs:=[.cu]) (sd @a3) ⟨by(try dsimp only);omega,fun x hx=>aF x hx,.inl ⟨by rw[hps];rfl,rfl⟩⟩
 ·have DT:g2 c=some ⟨true,6,[[.sl (s.aB.aA.map bV),.sl (s.aB.ad.map bm),.sl (s.cw.ad.map ai),.int .i64 s.az,.map T mP,.map O mP]]⟩:=(GY c h.o.cv).trans fe
  have UC:g2 O=some ⟨true,mP.ma,es.map pZ⟩:=(GY O h.o.ov).trans hO
  have RB:=h.o.cv
  have Th:=h.o.ov
  (try((repeat(revert hN;revert N;apply Pn.out));refine wk @Nat.zero_add ?_;(repeat(refine Pn.mk ?_;intro N hN))))
  refine aM (fun n env st=>∃k:Nat,n=(ps.length)-k/\k<=(ps.length)/\env 15=.int .i64 (k:Int)/\(x2<=st.next/\(∀x:Id,x.bj<x2->st.get x=g2 x)/\Ir 84008005 x2 (sZ (eJ s l) s.aB.ad.length (ps.take k)) (env 3) st.get st.next)) (ps.length) ⟨0,by omega,by omega,sl @Nat.zero_add,by(try dsimp only);exact⟨by omega,fun x hx=>sd @Nat.zero_add,.inl ⟨rfl,sd @Nat.zero_add⟩⟩⟩ ?_
  rintro n_a env_a st_a ⟨k,rfl,ale,a15,j8⟩ di
  have a0:=di 0 (by kernel_rfl);have N5:=di 13 (by kernel_rfl);have Ln:=di 14 (by kernel_rfl)
  simp only[go_sem, ↓reduceIte,Nat.reduceEqDiff,Nat.reduceAdd,Nat.reduceSub,Nat.reduceLeDiff,reduceCtorEq]at a0 N5 Ln
  clear di
  obtain⟨an,di,a3⟩:=j8
  have bl:(sZ (eJ s l) s.aB.ad.length (ps.take k)).length<=10000*160:=by
   have h2:=uK (eJ s l) s.aB.ad.length (ps.take k)
   have h3:(ps.take k).length*s.aB.ad.length<=10000*160:=Nat.mul_le_mul (by rw[List.length_take];omega) Ih
   omega
  by_cases hk:(k:Int)<(ps.length:Int)
  ·have cm:∀{e:Env} {gg:Rows} {nx:Nat},(e 15=.int .i64 (IntKind.i64.wrap ((k:Int)+1)))->(x2<=nx/\(∀x:Id,x.bj<x2->gg x=g2 x)/\Ir 84008005 x2 (sZ (eJ s l) s.aB.ad.length (ps.take (k+1))) (e 3) gg nx)->∃m0,m0<(ps.length)-k/\∃k:Nat,m0=(ps.length)-k/\k<=(ps.length)/\e 15=.int .i64 (k:Int)/\(x2<=nx/\(∀x:Id,x.bj<x2->gg x=g2 x)/\Ir 84008005 x2 (sZ (eJ s l) s.aB.ad.length (ps.take k)) (e 3) gg nx):=fun x1 x2=>⟨_,by omega,k+1,rfl,by omega,(by rw[x1,ay (by omega)]),x2⟩
   have eU:k<ps.length:=by omega
   have uA:=(di o Pb).trans ho
   have vao:=dB (i:=o) (n:=st_a.next) (by omega)
   have fa:=ug eU
   have Nz:=(di c (by omega)).trans DT
   have vac:=dB (i:=c) (n:=st_a.next) (by omega)
   have hgO:=(di O (by omega)).trans UC
   have vaO:=dB (i:=O) (n:=st_a.next) (by omega)
   obtain⟨o',zM,Vo,O7⟩:∃o':Id,(jG ps k,AV.own o' 0 (iO s l (jG ps k)).length)∈es/\o'.bj<σ.next/\σ.get o'=some ⟨true,1,(iO s l (jG ps k)).map aw⟩:=by
    rcases hE.at_ (jG ps k) trivial with⟨h1,_⟩|⟨_,o',h2⟩
    ·exact absurd h1 (tf _ (Aq eU))
    ·exact⟨o',h2⟩
   obtain⟨fi,FJ,_,_,B8,RU⟩:=yU (jG ps k) es
   obtain⟨j0,rfl,Qz⟩:∃j,fi=some j/\(es.map pZ)[j]? =some [.int .i64 (jG ps k).eR,.int .i64 (jG ps k).eM,.own o' 0 (iO s l (jG ps k)).length]:=by
    cases fi with
    |none=>exact absurd rfl (RU rfl _ zM)
    |some j=>
     obtain⟨v,hv⟩:=B8 j rfl
     have e:=Mm hE.nodup (List.mem_of_getElem? hv) zM
     subst e
     exact⟨j,rfl,by rw[List.getElem?_map,hv];rfl⟩
   have Ia:=Bi (B:=eJ s l) (m:=s.aB.ad.length) eU
   have fD:IH (eJ s l) (jG ps k) s.aB.ad.length=(iO s l (jG ps k)).map fun t=>(⟨jG ps k,t⟩:ae):=vE _ _ _
   rw[fD,<-CA]at Ia
   have L8:(iO s l (jG ps k)).length<=160:=by
    have:=rT (eJ s l) (jG ps k) s.aB.ad.length
    unfold iO;omega
   generalize jG ps k=q at FJ Qz zM O7 fa Ia L8
   generalize iO s l q=us at Qz zM O7 Ia L8
   generalize sZ (eJ s l) s.aB.ad.length (ps.take k)=L at a3 bl Ia
   (try((repeat(revert hN;revert N;apply Pn.out));refine wk (tw @a15 (tw @a0 (tw @N5 (tw @Ln (tw @hk (tw @uA (tw @vao (tw @fa (tw @Nz (tw @vac (tw @hgO (tw @vaO (tw @FJ (tw @Qz @ab.eq_1)))))))))))))) ?_;(repeat(refine Pn.mk ?_;intro N hN))))
   refine aM (fun n env st=>∃j:Nat,n=(us.length)-j/\j<=(us.length)/\env 26=.int .i64 (j:Int)/\st.get ⟨84004002,st_a.next+1⟩=some ⟨true,2,[ab q]⟩/\(st_a.next+2<=st.next/\(∀x:Id,x.bj<x2->st.get x=g2 x)/\Ir 84008005 x2 (L++jx q us j) (env 3) st.get st.next)) (us.length) ⟨0,by omega,by omega,sl (tw @a15 (tw @a0 (tw @N5 (tw @Ln @ab.eq_1)))),sl (tw @a15 (tw @a0 (tw @N5 (tw @Ln @ab.eq_1)))),by(try dsimp only);exact⟨by omega,fun x hx=>by
    have h2:=dB (i:=x) (n:=st_a.next) (by omega)
    have h3:=di x hx
    simp only[go_sem, ↓reduceIte,Nat.reduceEqDiff,Nat.reduceAdd,Nat.reduceSub,Nat.reduceLeDiff,reduceCtorEq,h2,h3],by
    rw[show jx q us 0=[]from rfl,List.append_nil]
    exact a3.frame (sd @Nat.zero_add) (by omega) fun x hx=>by
     have h2:=dB hx
     simp only[go_sem, ↓reduceIte,Nat.reduceEqDiff,Nat.reduceAdd,Nat.reduceSub,Nat.reduceLeDiff,reduceCtorEq,h2]⟩⟩ ?_
   rintro n_b env_b st_b ⟨j,rfl,ble,b26,bg0,bI0⟩ e7
   have b0:=e7 0 (by kernel_rfl);have b5:=e7 5 (by kernel_rfl);have Dl:=e7 13 (by kernel_rfl);have Ob:=e7 14 (by kernel_rfl);have Oc:=e7 15 (by kernel_rfl);have Od:=e7 24 (by kernel_rfl);have Oe:=e7 25 (by kernel_rfl)
   simp only[go_sem, ↓reduceIte,Nat.reduceEqDiff,Nat.reduceAdd,Nat.reduceSub,Nat.reduceLeDiff,reduceCtorEq,a15,a0,N5,Ln,ab]at b0 b5 Dl Ob Oc Od Oe
   clear e7
   obtain⟨bn,e7,b3⟩:=bI0
   have TR:=dB (i:=⟨84004002,st_a.next+1⟩) (n:=st_b.next) (by(try dsimp only);omega)
   have K1:(L++jx q us j).length<=16777214:=by
    have:(jx q us j).length<=us.length:=by unfold jx;simp;omega
    rw[List.length_append];omega
   by_cases hj:(j:Int)<(us.length:Int)
   ·have ft:∀{e:Env} {gg:Rows} {nx:Nat},(e 26=.int .i64 (IntKind.i64.wrap ((j:Int)+1)))->(gg ⟨84004002,st_a.next+1⟩=some ⟨true,2,[ab q]⟩)->(st_a.next+2<=nx/\(∀x:Id,x.bj<x2->gg x=g2 x)/\Ir 84008005 x2 (L++jx q us (j+1)) (e 3) gg nx)->∃m0,m0<(us.length)-j/\∃j:Nat,m0=(us.length)-j/\j<=(us.length)/\e 26=.int .i64 (j:Int)/\gg ⟨84004002,st_a.next+1⟩=some ⟨true,2,[ab q]⟩/\(st_a.next+2<=nx/\(∀x:Id,x.bj<x2->gg x=g2 x)/\Ir 84008005 x2 (L++jx q us j) (e 3) gg nx):=fun x1 x2 x3=>⟨_,by omega,j+1,rfl,by omega,(by rw[x1,ay (by omega)]),x2,x3⟩
    have iy:j<us.length:=by omega
    have r5:=yZ (p:=q) iy
    have zN:=FT iy
    have RL:=(e7 o' (by omega)).trans ((GY o' Vo).trans O7)
    have SH:=dB (i:=o') (n:=st_b.next) (by omega)
    have th:(us.map aw).length=us.length:=by simp
    have GU:L++jx q us (j+1)=(L++jx q us j)++[⟨q,us.getD j 0⟩]:=by rw[r5,List.append_assoc]
    generalize us.getD j 0=t at zN GU
    generalize L++jx q us j=M at b3 K1 GU
    have yF:(M++[(⟨q,t⟩:ae)]).length=M.length+1:=by simp
    have xN:(M++[(⟨q,t⟩:ae)]).map ai=M.map ai++[[.int .i64 q.eR,.int .i64 q.eM,.int .i64 t]]:=by rw[List.map_append];rfl
    rcases b3 with⟨hM,b3⟩|⟨u,b3,hug,hum,huv,hul0,TG⟩
    ·subst hM
     (try((repeat(revert hN;revert N;apply Pn.out));refine wk (tw @b26 (tw @bg0 (tw @b0 (tw @b5 (tw @Dl (tw @Ob (tw @Oc (tw @Od (tw @Oe (tw @hj (tw @zN (tw @RL (tw @SH (tw @th (tw @b3 (tw @TR @ab.eq_1)))))))))))))))) ?_;(repeat(refine Pn.mk ?_;intro N hN))))
     refine ft ?_ ?_ (by(try dsimp only);exact⟨by omega,fun x hx=>by
      have h2:=dB (i:=x) (n:=st_b.next) (by omega)
      have h3:=e7 x hx
      simp only[go_sem, ↓reduceIte,Nat.reduceEqDiff,Nat.reduceAdd,Nat.reduceSub,Nat.reduceLeDiff,reduceCtorEq,h2,h3],.inr ⟨⟨84008005,st_b.next+1+1⟩,by rw[GU,yF];simp only[go_sem, ↓reduceIte,Nat.reduceEqDiff,Nat.reduceAdd,Nat.reduceSub,Nat.reduceLeDiff,reduceCtorEq]<;>rfl,by rw[GU,xN];simp only[go_sem, ↓reduceIte,Nat.reduceEqDiff,Nat.reduceAdd,Nat.reduceSub,Nat.reduceLeDiff,reduceCtorEq]<;>rfl,by(try dsimp only);omega,by(try dsimp only);omega,by rw[GU,yF];omega,rfl⟩⟩)
     all_goals simp only[go_sem, ↓reduceIte,Nat.reduceEqDiff,Nat.reduceAdd,Nat.reduceSub,Nat.reduceLeDiff,reduceCtorEq,b26,bg0,b0,b5,Dl,Ob,Oc,Od,Oe,TR,ab]
    ·have vub:=dB huv
     have gY:(M.map ai).length=M.length:=by simp
     have UB:M.length<=16777215:=by omega
     have ux:=gG TG (b:=84004002) (v:=st_a.next+1) (by decide)
     (try((repeat(revert hN;revert N;apply Pn.out));refine wk (tw @b26 (tw @bg0 (tw @b0 (tw @b5 (tw @Dl (tw @Ob (tw @Oc (tw @Od (tw @Oe (tw @hj (tw @zN (tw @RL (tw @SH (tw @th (tw @b3 (tw @hug (tw @vub (tw @gY (tw @UB (tw @TR (tw @ux @ab.eq_1))))))))))))))))))))) ?_;(repeat(refine Pn.mk ?_;intro N hN))))
     refine ft ?_ ?_ (by(try dsimp only);exact⟨by omega,fun x hx=>by
      have h2:=dB (i:=x) (n:=st_b.next) (by omega)
      have h4:=dv (a:=x) (b:=u) (by omega)
      have h3:=e7 x hx
      simp only[go_sem, ↓reduceIte,Nat.reduceEqDiff,Nat.reduceAdd,Nat.reduceSub,Nat.reduceLeDiff,reduceCtorEq,h2,h3,h4],.inr ⟨⟨84008005,st_b.next+1+1⟩,by rw[GU,yF];simp only[go_sem, ↓reduceIte,Nat.reduceEqDiff,Nat.reduceAdd,Nat.reduceSub,Nat.reduceLeDiff,reduceCtorEq]<;>rfl,by rw[GU,xN];simp only[go_sem, ↓reduceIte,Nat.reduceEqDiff,Nat.reduceAdd,Nat.reduceSub,Nat.reduceLeDiff,reduceCtorEq]<;>rfl,by(try dsimp only);omega,by(try dsimp only);omega,by rw[GU,yF];omega,rfl⟩⟩)
     all_goals simp only[go_sem, ↓reduceIte,Nat.reduceEqDiff,Nat.reduceAdd,Nat.reduceSub,Nat.reduceLeDiff,reduceCtorEq,b26,bg0,b0,b5,Dl,Ob,Oc,Od,Oe,TR,ux,ab]
   ·have Vb:j=us.length:=by omega
    subst Vb
    (try((repeat(revert hN;revert N;apply Pn.out));refine wk (tw @b26 (tw @bg0 (tw @b0 (tw @b5 (tw @Dl (tw @Ob (tw @Oc (tw @Od (tw @Oe @hj))))))))) ?_;(repeat(refine Pn.mk ?_;intro N hN))))
    exact cm (sd (tw @a15 (tw @a0 (tw @N5 (tw @Ln (tw @b26 (tw @bg0 (tw @b0 (tw @b5 (tw @Dl (tw @Ob (tw @Oc (tw @Od @Oe))))))))))))) (by(try dsimp only);exact⟨by omega,fun x hx=>e7 x hx,by
     rw[Ia]
     exact b3.frame (sd @Nat.zero_add) (by omega) fun x hx=>rfl⟩)
  ·have jN:k=ps.length:=by omega
   subst jN
   rw[List.take_length]at a3
   (try((repeat(revert hN;revert N;apply Pn.out));refine wk (tw @a15 (tw @a0 (tw @N5 (tw @Ln @hk)))) ?_;(repeat(refine Pn.mk ?_;intro N hN))))
   exact fq (.inl rfl) (vs:=[env_a 3]) (sd @Nat.zero_add) ⟨by(try dsimp only);omega,fun x hx=>(di x (by omega)).trans (GY x hx),by
    rcases a3 with h1|⟨u,h1,h2,h3,h4,h5⟩
    ·exact .inl h1
    ·exact .inr ⟨u,h1,h2,by omega,by(try dsimp only);omega,h5⟩⟩
end Go.Proofs.YtgoljkjaameagaaGreat.V

namespace Go.Proofs.YtgoljkjaameagaaGreat.V
open Go.RowKit
end Go.Proofs.YtgoljkjaameagaaGreat.V

namespace Go.Proofs.YtgoljkjaameagaaGreat.V
open Go.RowKit
attribute [local irreducible] eu wpOps gq Call
attribute [local go_sem] aI fJ eP fZ fY dc upd cz K.av cJ AV.cells AV.cell rowOf rowsOf part ld rowAt bR cq dC ea gV bJ cZ eo fX eY dr ef cX cW dM dO bP aX cN bL cQ cP ec eh ee cL bU cY eb bK aO cU cG gU bp cI bQ aW dx bf dD AV.undef bD bF dR dY dI dP cH ek ew cF ej ei cR cV List.getD_cons_zero List.getD_cons_succ List.getD_nil List.all_cons List.all_nil Bool.and_true Bool.true_and Bool.and_self Bool.not_true Bool.not_false Option.map_some Option.map_none Option.bind_some Option.bind_none List.length_cons List.length_nil List.take_succ_cons List.take_zero List.take_nil List.drop_succ_cons List.drop_zero List.drop_nil List.head?_cons List.map_cons List.map_nil List.getElem?_cons_zero List.getElem?_cons_succ List.cons_append List.nil_append List.append_nil List.length_map List.set_cons_zero List.set_cons_succ Nat.reduceMul eq_self Int.toNat_natCast Int.natCast_nonneg and_self true_and and_true decide_true decide_false Bool.false_eq_true Nat.zero_add Nat.add_zero List.contains_cons List.contains_nil Bool.or_false Bool.false_or beq_self_eq_true Nat.reduceBEq ne_eq not_true_eq_false not_false_eq_true Id.mk.injEq false_and and_false Nat.reduceLT Int.reduceLE Int.reduceLT Int.reduceToNat Int.reduceNeg Int.reduceAdd Nat.le_refl List.length_append beq_true beq_false Bool.not_eq_eq_eq_not or_false false_or dJ aj aq aH aZ bB ck aT bc aU aY cK bG
def iP (p:ah->Bool) (l:List ah):List ah:=l.filter fun x=> !p x
theorem qU {p:ah->Bool} {l:List ah} {j:Nat} (hj:j<l.length):iP p (l.take (j+1))=iP p (l.take j)++if p l[j]=true then[]else[l[j]]:=by
 unfold iP
 rw[List.take_succ_eq_append_getElem hj,List.filter_append]
 congr 1
 cases h:p l[j]<;>simp[h]
theorem Ei {p:ah->Bool} {l:List ah} (h:∀b∈l,p b=false):iP p l=l:=by
 unfold iP
 rw[List.filter_eq_self]
 intro b hb
 rw[h b hb];rfl
structure KY (p:ah->Bool) (bs:List ah) (j:Nat) (R:List ah):Prop where
 len:R.length=bs.length
 pre:R.take (iP p (bs.take j)).length=iP p (bs.take j)
 post:∀x,j<=x->R[x]? =bs[x]?
 lt:(iP p (bs.take j)).length<j
theorem KY.start {p:ah->Bool} {bs:List ah} {i:Nat} (hi:i<bs.length) (hw:p bs[i]=true) (hp:∀x (h:x<i),p bs[x]=false):KY p bs (i+1) bs/\(iP p (bs.take (i+1))).length=i:=by
 have h1:iP p (bs.take i)=bs.take i:=Ei fun b hb=>by
  obtain⟨x,hx,rfl⟩:=List.getElem_of_mem hb
  rw[List.length_take]at hx
  rw[List.getElem_take]
  exact hp x (by omega)
 have h2:iP p (bs.take (i+1))=bs.take i:=by rw[qU hi,if_pos hw,List.append_nil,h1]
 have h3:(bs.take i).length=i:=by rw[List.length_take];omega
 exact⟨⟨rfl,by rw[h2,h3],fun _ _=>rfl,by rw[h2,h3];omega⟩,by rw[h2,h3]⟩
theorem KY.SK {p:ah->Bool} {bs R:List ah} {j:Nat} (h:KY p bs j R) (hj:j<bs.length) (hw:p bs[j]=true):KY p bs (j+1) R/\(iP p (bs.take (j+1))).length=(iP p (bs.take j)).length:=by
 have h2:iP p (bs.take (j+1))=iP p (bs.take j):=by rw[qU hj,if_pos hw,List.append_nil]
 exact⟨⟨h.len,by rw[h2];exact h.pre,fun x hx=>h.post x (by omega),by rw[h2];have:=h.lt;omega⟩,by rw[h2]⟩
theorem KY.uE {p:ah->Bool} {bs R:List ah} {j:Nat} (h:KY p bs j R) (hj:j<bs.length) (hw:p bs[j]=false):KY p bs (j+1) (R.set (iP p (bs.take j)).length bs[j])/\(iP p (bs.take (j+1))).length=(iP p (bs.take j)).length+1:=by
 have h2:iP p (bs.take (j+1))=iP p (bs.take j)++[bs[j]]:=by rw[qU hj,hw];rfl
 have dV:=h.lt
 have hlen:=h.len
 have uB:=h.pre
 generalize hc:(iP p (bs.take j)).length=c at *
 refine⟨⟨by rw[List.length_set];exact hlen,?_,fun x hx=>?_,by rw[h2,List.length_append,hc];simp;omega⟩,by rw[h2,List.length_append,hc];rfl⟩
 ·rw[h2,List.length_append,hc,List.length_singleton,List.take_succ_eq_append_getElem (by rw[List.length_set];omega),List.getElem_set_self,List.take_set_of_le (Nat.le_refl _),uB]
 ·rw[List.getElem?_set_ne (by omega)];exact h.post x (by omega)
theorem KY.at_ {p:ah->Bool} {bs R:List ah} {j:Nat} (h:KY p bs j R) (hj:j<bs.length):(R.map ab)[j]? =some (ab bs[j]):=by
 rw[List.getElem?_map,h.post j (Nat.le_refl j),List.getElem?_eq_getElem hj];rfl
theorem zH (s:aE) (l:List ae) (hn:fV s.aB) (hm:rH s) (hl:l.length<=1048576):ar Tryz.prog 82 [.agg (aD s),.agg [.sl (l.map ai)]] (.int .i64 (if zp s l then 0 else 1)):=by
 refine ar.body eG rfl fun lG n0=>?_
 clear lG
 have h1:=qi IS s hn hm.s.g hm.s.t hm.s.s hm.a
 have h2:=nJ s.aB l hn hm.s.g hm.s.t hm.s.s hl
 cases b1:kR s
 ·rw[b1]at h1
  rw[aD]at h1 ⊢
  (repeat(first|((repeat(revert hN;revert N;apply Pn.out));refine wk @Nat.zero_add ?_;(repeat(refine Pn.mk ?_;intro N hN)))|((try apply Or.inl);refine⟨_,ar.x (h1) (sd @Nat.zero_add),?_⟩;refine hN _ _ ?_;clear hN N)))
  exact cr (b:=1) (.inl rfl) (sd @Nat.zero_add) (by simp[zp,b1])
 have dW:oq s.aB=true:=lv.2 (sE.1 b1).set
 rw[b1]at h1
 rw[dW,Bool.true_and]at h2
 rw[aD]at h1 ⊢
 rw[aa]at h2
 cases b2:mW s.aB l
 ·rw[b2]at h2
  (repeat(first|((repeat(revert hN;revert N;apply Pn.out));refine wk @Nat.zero_add ?_;(repeat(refine Pn.mk ?_;intro N hN)))|((try apply Or.inl);refine⟨_,ar.x (h1) (sd @Nat.zero_add),?_⟩;refine hN _ _ ?_;clear hN N)|((try apply Or.inl);refine⟨_,ar.x (h2) (sd @Nat.zero_add),?_⟩;refine hN _ _ ?_;clear hN N)))
  exact cr (b:=1) (.inl rfl) (sd @Nat.zero_add) (by simp[zp,b1,b2])
 ·rw[b2]at h2
  (repeat(first|((repeat(revert hN;revert N;apply Pn.out));refine wk @Nat.zero_add ?_;(repeat(refine Pn.mk ?_;intro N hN)))|((try apply Or.inl);refine⟨_,ar.x (h1) (sd @Nat.zero_add),?_⟩;refine hN _ _ ?_;clear hN N)|((try apply Or.inl);refine⟨_,ar.x (h2) (sd @Nat.zero_add),?_⟩;refine hN _ _ ?_;clear hN N)))
  exact cr (b:=0) (.inl rfl) (sd @Nat.zero_add) (by simp[zp,b1,b2])
theorem zW (s:aE) (hP:zl s) (l:List ae) (hA:kn s.aB l):ar Tryz.prog 78 [.dn (aD s),.dn [.sl (l.map ai)]] (.sl ((sZ (eJ s l) s.aB.ad.length (jv l)).map ai)):=by
 refine ar.body eG rfl fun lG n0=>?_
 clear lG
 have hS:=hP.set
 have Ih:=hS.xl
 have GZ:=hA.1.BC
 have hlen:=lf l l.length
 have yF:eL l l.length=jv l:=rfl
 rw[yF]at hlen
 have hnp:∀x∈jv l,A8 l x:=fun x hx=>(yS l x).1 hx
 have hnv:=fun σ=>Hj l hA.1 σ
 clear yF
 generalize jv l=ps at hlen hnp hnv ⊢
 (try((repeat(revert hN;revert N;apply Pn.out));refine wk @Nat.zero_add ?_;(repeat(refine Pn.mk ?_;intro N hN))))
 refine .inr (aJ _ _ _ _ _ (fun r σ1 hq=>?_) (hnv _))
 obtain⟨g1,x1⟩:=σ1
 obtain⟨o0,rfl,q1,q2,q3,q4,q5⟩:=hq
 (try dsimp only at q1 q2 q3 q4 q5)
 have q6:=q5 ⟨78001000,n0+1⟩ (by(try dsimp only);omega) trivial
 simp only[go_sem, ↓reduceIte,Nat.reduceEqDiff,Nat.reduceAdd,Nat.reduceSub,Nat.reduceLeDiff,reduceCtorEq]at q6
 have on:n0+2<=o0.bj:=by rcases q4 with h|h;omega;exact absurd trivial h
 clear q4 q5
 refine hN _ _ ?_
 clear hN N
 (try((repeat(revert hN;revert N;apply Pn.out));refine wk (tw @q1 @q6) ?_;(repeat(refine Pn.mk ?_;intro N hN))))
 refine aM (fun n env st=>∃k:Nat,n=(ps.length)-k/\k<=(ps.length)/\env 7=.int .i64 (k:Int)/\st.get o0=some ⟨true,2,ps.map ab⟩/\(∃o:Id,env 5=.own o 0 (sZ (eJ s l) s.aB.ad.length (ps.take k)).length/\st.get o=some ⟨true,3,(sZ (eJ s l) s.aB.ad.length (ps.take k)).map ai⟩/\o.bj<st.next/\o0.bj<st.next/\o≠o0)) (ps.length) ⟨0,by omega,by omega,sl (tw @q1 @q6),sl (tw @q1 @q6),by(try dsimp only);exact⟨⟨78001000,n0+1⟩,sl @Nat.zero_add,sl @q6,by(try dsimp only);omega,by omega,fun e=>by rw[<-e]at on;(try dsimp only at on);omega⟩⟩ ?_
 rintro n_a env_a st_a ⟨k,rfl,ale,a7,ag0,j8⟩ di
 have a0:=di 0 (by kernel_rfl);have a1:=di 1 (by kernel_rfl);have a6:=di 6 (by kernel_rfl)
 simp only[go_sem, ↓reduceIte,Nat.reduceEqDiff,Nat.reduceAdd,Nat.reduceSub,Nat.reduceLeDiff,reduceCtorEq,q1,q6]at a0 a1 a6
 clear di
 obtain⟨o,a5,ao,Q3,SZ,T6⟩:=j8
 have vo:=dB Q3
 have v0:=dB SZ
 have RY:=eq_false T6
 have hoo2:=eq_false (fun e:o0=o=>T6 e.symm)
 have hB:(sZ (eJ s l) s.aB.ad.length (ps.take k)).length<=10000*160:=by
  have h2:=uK (eJ s l) s.aB.ad.length (ps.take k)
  have h3:(ps.take k).length*s.aB.ad.length<=10000*160:=Nat.mul_le_mul (by rw[List.length_take];omega) Ih
  omega
 by_cases hk:(k:Int)<(ps.length:Int)
 ·have cm:∀{e:Env} {gg:Rows} {nx:Nat},(e 7=.int .i64 (IntKind.i64.wrap ((k:Int)+1)))->(gg o0=some ⟨true,2,ps.map ab⟩)->(∃o:Id,e 5=.own o 0 (sZ (eJ s l) s.aB.ad.length (ps.take (k+1))).length/\gg o=some ⟨true,3,(sZ (eJ s l) s.aB.ad.length (ps.take (k+1))).map ai⟩/\o.bj<nx/\o0.bj<nx/\o≠o0)->∃m0,m0<(ps.length)-k/\∃k:Nat,m0=(ps.length)-k/\k<=(ps.length)/\e 7=.int .i64 (k:Int)/\gg o0=some ⟨true,2,ps.map ab⟩/\(∃o:Id,e 5=.own o 0 (sZ (eJ s l) s.aB.ad.length (ps.take k)).length/\gg o=some ⟨true,3,(sZ (eJ s l) s.aB.ad.length (ps.take k)).map ai⟩/\o.bj<nx/\o0.bj<nx/\o≠o0):=fun x1 x2 x3=>⟨_,by omega,k+1,rfl,by omega,(by rw[x1,ay (by omega)]),x2,x3⟩
  have eU:k<ps.length:=by omega
  have eB:=ug eU
  have qP:=hnp _ (Aq eU)
  obtain⟨hx,hy⟩:=tu qP.1
  have AS:=(Mo s.aB hS l hA (jG ps k) hx hy s.az).cut mixed (.ptr _ [.sl (s.cw.ad.map ai),.int .i64 s.az] (.same _ (.same _ (.same _ .nil))))
  have hfu:ku (zq s.aB l s.az) (jG ps k) s.aB.ad.length=iO s l (jG ps k):=yv (fun t=>(Lq qP hA t).symm) _
  rw[hfu]at AS
  have Ia:=Bi (B:=eJ s l) (m:=s.aB.ad.length) eU
  have fD:IH (eJ s l) (jG ps k) s.aB.ad.length=(iO s l (jG ps k)).map fun t=>(⟨jG ps k,t⟩:ae):=vE _ _ _
  rw[fD,<-CA]at Ia
  have L8:(iO s l (jG ps k)).length<=160:=by
   have:=rT (eJ s l) (jG ps k) s.aB.ad.length
   unfold iO;omega
  have th:(ps.map ab).length=ps.length:=by simp
  generalize jG ps k=q at AS Ia eB L8
  generalize iO s l q=us at AS Ia L8
  generalize sZ (eJ s l) s.aB.ad.length (ps.take k)=L at a5 ao hB Ia
  rw[aa]at AS
  (repeat(first|((repeat(revert hN;revert N;apply Pn.out));refine wk (tw @a7 (tw @ag0 (tw @a0 (tw @a1 (tw @a6 (tw @hk (tw @eB (tw @v0 (tw @th (tw @aD.eq_1 @ab.eq_1)))))))))) ?_;(repeat(refine Pn.mk ?_;intro N hN)))|((try apply Or.inl);refine⟨_,ar.x (AS) (sd (tw @a7 (tw @ag0 (tw @a0 (tw @a1 (tw @a6 (tw @hk (tw @eB (tw @v0 (tw @th (tw @aD.eq_1 @ab.eq_1))))))))))),?_⟩;refine hN _ _ ?_;clear hN N)))
  refine aM (fun n env st=>∃j:Nat,n=(us.length)-j/\j<=(us.length)/\env 9=.int .i64 (j:Int)/\st.get o0=some ⟨true,2,ps.map ab⟩/\(∃o:Id,env 5=.own o 0 (L++jx q us j).length/\st.get o=some ⟨true,3,(L++jx q us j).map ai⟩/\o.bj<st.next/\o0.bj<st.next/\o≠o0)) (us.length) ⟨0,by omega,by omega,sl (tw @a7 (tw @ag0 (tw @a0 (tw @a1 @a6)))),sl (tw @a7 (tw @ag0 (tw @a0 (tw @a1 @a6)))),by(try dsimp only);exact⟨o,by rw[show jx q us 0=[]from rfl,List.append_nil];simp only[go_sem, ↓reduceIte,Nat.reduceEqDiff,Nat.reduceAdd,Nat.reduceSub,Nat.reduceLeDiff,reduceCtorEq,a5],by rw[show jx q us 0=[]from rfl,List.append_nil];simp only[go_sem, ↓reduceIte,Nat.reduceEqDiff,Nat.reduceAdd,Nat.reduceSub,Nat.reduceLeDiff,reduceCtorEq,ao,vo],by omega,by omega,T6⟩⟩ ?_
  rintro n_b env_b st_b ⟨j,rfl,ble,b9,bg0,bI0⟩ e7
  have b0:=e7 0 (by kernel_rfl);have b1:=e7 1 (by kernel_rfl);have b6:=e7 6 (by kernel_rfl);have b7:=e7 7 (by kernel_rfl);have b8:=e7 8 (by kernel_rfl)
  simp only[go_sem, ↓reduceIte,Nat.reduceEqDiff,Nat.reduceAdd,Nat.reduceSub,Nat.reduceLeDiff,reduceCtorEq,a7,ag0,a0,a1,a6]at b0 b1 b6 b7 b8
  clear e7
  obtain⟨u,b5,bu,buv,Nr,Ua⟩:=bI0
  have K1:(L++jx q us j).length<=16777215:=by
   have:(jx q us j).length<=us.length:=by unfold jx;simp;omega
   rw[List.length_append];omega
  have vu:=dB buv
  have v0b:=dB Nr
  have hou:=eq_false Ua
  have RZ:=eq_false (fun e:o0=u=>Ua e.symm)
  by_cases hj:(j:Int)<(us.length:Int)
  ·have ft:∀{e:Env} {gg:Rows} {nx:Nat},(e 9=.int .i64 (IntKind.i64.wrap ((j:Int)+1)))->(gg o0=some ⟨true,2,ps.map ab⟩)->(∃o:Id,e 5=.own o 0 (L++jx q us (j+1)).length/\gg o=some ⟨true,3,(L++jx q us (j+1)).map ai⟩/\o.bj<nx/\o0.bj<nx/\o≠o0)->∃m0,m0<(us.length)-j/\∃j:Nat,m0=(us.length)-j/\j<=(us.length)/\e 9=.int .i64 (j:Int)/\gg o0=some ⟨true,2,ps.map ab⟩/\(∃o:Id,e 5=.own o 0 (L++jx q us j).length/\gg o=some ⟨true,3,(L++jx q us j).map ai⟩/\o.bj<nx/\o0.bj<nx/\o≠o0):=fun x1 x2 x3=>⟨_,by omega,j+1,rfl,by omega,(by rw[x1,ay (by omega)]),x2,x3⟩
   have iy:j<us.length:=by omega
   have r5:=yZ (p:=q) iy
   have zN:=FT iy
   have GU:L++jx q us (j+1)=(L++jx q us j)++[⟨q,us.getD j 0⟩]:=by rw[r5,List.append_assoc]
   generalize us.getD j 0=t at zN GU
   generalize L++jx q us j=M at b5 bu K1 GU
   have yF:(M++[(⟨q,t⟩:ae)]).length=M.length+1:=by simp
   have xN:(M++[(⟨q,t⟩:ae)]).map ai=M.map ai++[[.int .i64 q.eR,.int .i64 q.eM,.int .i64 t]]:=by rw[List.map_append];rfl
   have gY:(M.map ai).length=M.length:=by simp
   have hmu:(us.map aw).length=us.length:=by simp
   (try((repeat(revert hN;revert N;apply Pn.out));refine wk (tw @b9 (tw @bg0 (tw @b0 (tw @b1 (tw @b6 (tw @b7 (tw @b8 (tw @b5 (tw @bu (tw @hj (tw @hk (tw @zN (tw @eB (tw @vu (tw @v0b (tw @hou (tw @RZ (tw @th (tw @gY (tw @hmu (tw @K1 @ab.eq_1))))))))))))))))))))) ?_;(repeat(refine Pn.mk ?_;intro N hN))))
   refine ft ?_ ?_ (by(try dsimp only);exact⟨⟨78010011,st_b.next+1⟩,by rw[GU,yF];simp only[go_sem, ↓reduceIte,Nat.reduceEqDiff,Nat.reduceAdd,Nat.reduceSub,Nat.reduceLeDiff,reduceCtorEq]<;>rfl,by rw[GU,xN];simp only[go_sem, ↓reduceIte,Nat.reduceEqDiff,Nat.reduceAdd,Nat.reduceSub,Nat.reduceLeDiff,reduceCtorEq]<;>rfl,by(try dsimp only);omega,by(try dsimp only);omega,fun e=>by rw[<-e]at Nr;(try dsimp only at Nr);omega⟩)
   all_goals simp only[go_sem, ↓reduceIte,Nat.reduceEqDiff,Nat.reduceAdd,Nat.reduceSub,Nat.reduceLeDiff,reduceCtorEq,b9,bg0,b0,b1,b6,b7,b8,v0b,RZ]
  ·have Vb:j=us.length:=by omega
   subst Vb
   (try((repeat(revert hN;revert N;apply Pn.out));refine wk (tw @b9 (tw @bg0 (tw @b0 (tw @b1 (tw @b6 (tw @b7 (tw @b8 @hj))))))) ?_;(repeat(refine Pn.mk ?_;intro N hN))))
   refine cm ?_ ?_ (by(try dsimp only);exact⟨u,by rw[Ia];simp only[go_sem, ↓reduceIte,Nat.reduceEqDiff,Nat.reduceAdd,Nat.reduceSub,Nat.reduceLeDiff,reduceCtorEq,b5],by rw[Ia];simp only[go_sem, ↓reduceIte,Nat.reduceEqDiff,Nat.reduceAdd,Nat.reduceSub,Nat.reduceLeDiff,reduceCtorEq,bu],by omega,by omega,Ua⟩)
   all_goals simp only[go_sem, ↓reduceIte,Nat.reduceEqDiff,Nat.reduceAdd,Nat.reduceSub,Nat.reduceLeDiff,reduceCtorEq,a7,ag0,a0,a1,a6,b9,bg0,b0,b1,b6,b7,b8]
 ·have jN:k=ps.length:=by omega
  subst jN
  rw[List.take_length]at a5 ao
  (try((repeat(revert hN;revert N;apply Pn.out));refine wk (tw @a7 (tw @ag0 (tw @a0 (tw @a1 (tw @a6 (tw @hk @a5)))))) ?_;(repeat(refine Pn.mk ?_;intro N hN))))
  exact pg (.inl rfl) (vs:=[.own o 0 (sZ (eJ s l) s.aB.ad.length ps).length]) (sd @a5) (by
   simp only[fm]
   exact fj (e:=ai) (n:=5) ao rfl fun x=>Rh _ 4 x)
end Go.Proofs.YtgoljkjaameagaaGreat.V

namespace Go.Proofs.YtgoljkjaameagaaGreat.V
open Go.RowKit
attribute [local irreducible] eu wpOps gq Call
attribute [local go_sem] aI fJ eP fZ fY dc upd cz K.av cJ AV.cells AV.cell rowOf rowsOf part ld rowAt bR cq dC ea gV bJ cZ eo fX eY dr ef cX cW dM dO bP aX cN bL cQ cP ec eh ee cL bU cY eb bK aO cU cG gU bp cI bQ aW dx bf dD AV.undef bD bF dR dY dI dP cH ek ew cF ej ei cR cV List.getD_cons_zero List.getD_cons_succ List.getD_nil List.all_cons List.all_nil Bool.and_true Bool.true_and Bool.and_self Bool.not_true Bool.not_false Option.map_some Option.map_none Option.bind_some Option.bind_none List.length_cons List.length_nil List.take_succ_cons List.take_zero List.take_nil List.drop_succ_cons List.drop_zero List.drop_nil List.head?_cons List.map_cons List.map_nil List.getElem?_cons_zero List.getElem?_cons_succ List.cons_append List.nil_append List.append_nil List.length_map List.set_cons_zero List.set_cons_succ eq_self Int.toNat_natCast Int.natCast_nonneg and_self true_and and_true decide_true decide_false Bool.false_eq_true Nat.zero_add Nat.add_zero List.contains_cons List.contains_nil Bool.or_false Bool.false_or beq_self_eq_true ne_eq not_true_eq_false not_false_eq_true Id.mk.injEq false_and and_false Nat.le_refl List.length_append beq_true beq_false Bool.not_eq_eq_eq_not or_false false_or dJ aj aq aH aZ bB ck aT bc aU aY cK bG
theorem jJ.cell {α:Type} {e:α->List AV} {L:List α} {w:AV} (h:jJ e L w):w.cells=[w]/\w.cell=true:=by
 rcases h with⟨rfl,rfl⟩|rfl<;>exact⟨rfl,rfl⟩
theorem rC.cell {α:Type} {e:α->List AV} {z:Nat} {g:Rows} {v:AV} {L:List α} {ids:List Id} (h:rC e z g v L ids):v.cells=[v]/\v.cell=true:=by
 rcases h with⟨_,rfl,_⟩|⟨o,rfl,_⟩<;>exact⟨rfl,rfl⟩
theorem jJ.fz5 {α:Type} {e:α->List AV} {L:List α} {w:AV} (h:jJ e L w) (g:Rows):V.fz g 5 w=some w:=by
 rcases h with⟨rfl,rfl⟩|rfl
 ·exact aT _ _
 ·exact ck _ _ _
theorem rC.fz5 {α:Type} {e:α->List AV} {z:Nat} {g:Rows} {v:AV} {L:List α} {ids:List Id} (h:rC e z g v L ids) (he:∀x g,dd g 4 (e x)=some (e x)):∃w,V.fz (dJ g) 5 v=some w/\jJ e L w:=by
 rcases h with⟨rfl,rfl,_⟩|⟨o,rfl,h2,_⟩
 ·exact⟨.cu,aT _ _,.inl ⟨rfl,rfl⟩⟩
 ·exact⟨_,fA (e:=e) (sz:=z) (by simp[dJ,h2]) rfl fun x=>he x _,.inr rfl⟩
end Go.Proofs.YtgoljkjaameagaaGreat.V

namespace Go.Proofs.YtgoljkjaameagaaGreat.V
open Go.RowKit
attribute [local irreducible] eu wpOps gq Call
attribute [local go_sem] aI fJ eP fZ fY dc upd cz K.av cJ AV.cells AV.cell rowOf rowsOf part ld rowAt bR cq dC ea gV bJ cZ eo fX eY dr ef cX cW dM dO bP aX cN bL cQ cP ec eh ee cL bU cY eb bK aO cU cG gU bp cI bQ aW dx bf dD AV.undef bD bF dR dY dI dP cH ek ew cF ej ei cR cV List.getD_cons_zero List.getD_cons_succ List.getD_nil List.all_cons List.all_nil Bool.and_true Bool.true_and Bool.and_self Bool.not_true Bool.not_false Option.map_some Option.map_none Option.bind_some Option.bind_none List.length_cons List.length_nil List.take_succ_cons List.take_zero List.take_nil List.drop_succ_cons List.drop_zero List.drop_nil List.head?_cons List.map_cons List.map_nil List.getElem?_cons_zero List.getElem?_cons_succ List.cons_append List.nil_append List.append_nil List.length_map List.set_cons_zero List.set_cons_succ Nat.reduceMul eq_self Int.toNat_natCast Int.natCast_nonneg and_self true_and and_true decide_true decide_false Bool.false_eq_true Nat.zero_add Nat.add_zero List.contains_cons List.contains_nil Bool.or_false Bool.false_or beq_self_eq_true Nat.reduceBEq ne_eq not_true_eq_false not_false_eq_true Id.mk.injEq false_and and_false Nat.reduceLT Int.reduceLE Int.reduceLT Int.reduceToNat Int.reduceNeg Int.reduceAdd Nat.le_refl List.length_append beq_true beq_false Bool.not_eq_eq_eq_not or_false false_or dJ aj aq aH aZ bB ck aT bc aU aY cK bG
noncomputable def nF (s:au) (ws:List Int):Bool:=oq s&&(decide ((ws.length:Int)=(s.ad.length:Int))&&ws.all fun n=>gJ n 1 100)
structure Q0 (s:au) (ws:List Int):Prop where
 set:ik s
 len:ws.length=s.ad.length
 VP:∀n∈ws,1<=n/\n<=100
theorem C1 {s:au} {ws:List Int}:nF s ws=true↔Q0 s ws:=by
 unfold nF
 rw[Bool.and_eq_true,Bool.and_eq_true,lv,decide_eq_true_eq,List.all_eq_true]
 exact⟨fun⟨h1,h2,h3⟩=>⟨h1,by omega,fun n hn=>dX (h3 n hn)⟩,fun h=>⟨h.set,by rw[h.len],fun n hn=>jr (h.VP n hn)⟩⟩
def Fa (ws:List Int) (t:Int):Int:=ws.getD t.toNat 0
theorem uY {ws:List Int} {t:Int} (h0:0<=t) (h1:t<ws.length):(ws.map aw)[t.toNat]? =some [.int .i64 (Fa ws t)]:=by
 have h:t.toNat<ws.length:=by omega
 simp[Fa,aw,List.getD_eq_getElem?_getD,h]
theorem AK {ws:List Int} {t:Int} (h0:0<=t) (h1:t<ws.length):Fa ws t∈ws:=by
 have h:t.toNat<ws.length:=by omega
 simp[Fa,List.getD_eq_getElem?_getD,h]
theorem Sk {ws:List Int} {j:Nat} (h:j<ws.length):(ws.map aw)[j]? =some [.int .i64 ws[j]]:=by simp[aw,h]
def jj (ws:List Int) (L:List ae):Nat->Int
 |0=>0
 |k+1=>jj ws L k+Fa ws (aV L k).bx
def Fi (n:Nat) (L:List ae):Prop:=∀x∈L,0<=x.bx/\x.bx<n
theorem AH {ws:List Int} {L:List ae} (hw:∀n∈ws,1<=n/\n<=100) (ho:Fi ws.length L):∀k,k<=L.length->0<=jj ws L k/\jj ws L k<=100*(k:Int)
 |0,_=>⟨Int.le_refl _,by simp[jj]⟩
 |k+1,h=>by
  have ih:=AH hw ho k (by omega)
  obtain⟨h0,h1⟩:=ho _ (gT (by omega:k<L.length))
  have:=hw _ (AK h0 h1)
  rw[jj]
  omega
def lj (ws:List Int) (L:List ae):List Int:=L.map fun x=>Fa ws x.bx
theorem y7 {ws:List Int} {L:List ae} {k:Nat} (h:k<L.length):lj ws (L.take (k+1))=lj ws (L.take k)++[Fa ws (aV L k).bx]:=by
 unfold lj
 rw[List.take_succ_eq_append_getElem h,List.map_append,gQ h];rfl
theorem sk (ws:List Int) (L:List ae):(lj ws L).length=L.length:=by simp[lj]
noncomputable def rh (s:aE) (ws:List Int) (l:List ae):Int:=if kR s&&nF s.aB ws&&mW s.aB l then 0 else 1
theorem wU {s:aE} {ws:List Int} {l:List ae}:rh s ws l=0↔zl s/\Q0 s.aB ws/\kn s.aB l:=by
 unfold rh
 rw[<-sE,<-C1,<-kW]
 cases kR s<;>cases nF s.aB ws<;>cases mW s.aB l<;>simp
noncomputable def om (s:aE) (l:List ae):List ae:=sZ (eJ s l) s.aB.ad.length (jv l)
noncomputable def pe (s:aE) (ws:List Int) (l:List ae):List Int×Int×Int:=if rh s ws l=0 then(lj ws (om s l),jj ws (om s l) (om s l).length,0)else([],0,1)
theorem Al {s:aE} (hS:ik s.aB) {l:List ae} (hA:kn s.aB l):(om s l).length<=40000*160/\Fi s.aB.ad.length (om s l):=by
 have Ih:=hS.xl
 refine⟨?_,fun x hx=>?_⟩
 ·have h2:=uK (eJ s l) s.aB.ad.length (jv l)
  have h4:(jv l).length<=l.length*4:=lf l l.length
  have h5:=hA.1.BC
  have h3:(jv l).length*s.aB.ad.length<=40000*160:=Nat.mul_le_mul (by omega) Ih
  unfold om;omega
 ·unfold om sZ at hx
  obtain⟨q,_,hx⟩:=List.mem_flatMap.1 hx
  rw[vE]at hx
  obtain⟨k,hk,rfl⟩:=List.mem_map.1 hx
  exact Jf _ _ _ k hk
theorem Mq (s:au) (ws:List Int) (hn:fV s) (hg:s.aA.length<=1048576) (ht:s.ad.length<=1048576) (hw:ws.length<=1048576):ar Tryz.prog 145 [.dn (aa s),.sl (ws.map aw)] (.bool (nF s ws)):=by
 refine ar.body eG rfl fun hl n0=>?_
 clear hl
 have h1:=FW s hn hg ht
 have gY:(ws.map aw).length=ws.length:=by simp
 have C8:(s.ad.map bm).length=s.ad.length:=by simp
 cases b1:oq s
 ·rw[b1]at h1
  (repeat(first|((repeat(revert hN;revert N;apply Pn.out));refine wk @Nat.zero_add ?_;(repeat(refine Pn.mk ?_;intro N hN)))|((try apply Or.inl);refine⟨_,ar.x (h1) (sd @Nat.zero_add),?_⟩;refine hN _ _ ?_;clear hN N)))
  exact aQ (b:=false) (.inl rfl) (sd @Nat.zero_add) (by rw[nF,b1];rfl)
 rw[b1]at h1
 rw[aa]at h1 ⊢
 by_cases b2:(ws.length:Int)=(s.ad.length:Int)
 ·have d2:=decide_eq_true b2
  (repeat(first|((repeat(revert hN;revert N;apply Pn.out));refine wk (tw @gY (tw @C8 @d2)) ?_;(repeat(refine Pn.mk ?_;intro N hN)))|((try apply Or.inl);refine⟨_,ar.x (h1) (sd (tw @gY (tw @C8 @d2))),?_⟩;refine hN _ _ ?_;clear hN N)))
  refine aM (fun n env st=>∃k:Nat,n=(ws.length)-k/\k<=(ws.length)/\env 5=.int .i64 (k:Int)/\(∀j:Nat,j<k->∀h:j<ws.length,gJ ws[j] 1 100=true)) (ws.length) ⟨0,by omega,by omega,sl @aa.eq_1,fun _ h=>absurd h (Nat.not_lt_zero _)⟩ ?_
  rintro n_a env_a st_a ⟨k,rfl,ale,a5,me⟩ di
  have a0:=di 0 (by kernel_rfl);have a1:=di 1 (by kernel_rfl)
  simp only[go_sem, ↓reduceIte,Nat.reduceEqDiff,Nat.reduceAdd,Nat.reduceSub,Nat.reduceLeDiff,reduceCtorEq,aa]at a0 a1
  clear di
  by_cases hk:(k:Int)<(ws.length:Int)
  ·have cm:∀{e:Env},(e 5=.int .i64 (IntKind.i64.wrap ((k:Int)+1)))->(∀h:k<ws.length,gJ ws[k] 1 100=true)->∃m0,m0<(ws.length)-k/\∃k:Nat,m0=(ws.length)-k/\k<=(ws.length)/\e 5=.int .i64 (k:Int)/\(∀j:Nat,j<k->∀h:j<ws.length,gJ ws[j] 1 100=true):=fun x1 x2=>⟨_,by omega,k+1,rfl,by omega,(by rw[x1,ay (by omega)]),(all_succ me x2)⟩
   have eU:k<ws.length:=by omega
   have eB:=Sk eU
   have fB:=kN ws[k] 1 100
   have dE:gJ ws[k] 1 100=false->nF s ws=false:=fun h=>by
    have:ws.all (fun n=>gJ n 1 100)=false:=by
     rw[List.all_eq_false]
     exact⟨ws[k],List.getElem_mem eU,by rw[h];simp⟩
    rw[nF,this,b1];simp
   generalize hq:ws[k]=x at eB fB dE
   cases b3:gJ x 1 100
   ·rw[b3]at fB
    (repeat(first|((repeat(revert hN;revert N;apply Pn.out));refine wk (tw @a5 (tw @a0 (tw @a1 (tw @hk (tw @eB @gY))))) ?_;(repeat(refine Pn.mk ?_;intro N hN)))|((try apply Or.inl);refine⟨_,ar.x (fB) (sd (tw @a5 (tw @a0 (tw @a1 (tw @hk (tw @eB @gY)))))),?_⟩;refine hN _ _ ?_;clear hN N)))
    exact aQ (b:=false) (.inl rfl) (sd @Nat.zero_add) (dE b3).symm
   ·rw[b3]at fB
    (repeat(first|((repeat(revert hN;revert N;apply Pn.out));refine wk (tw @a5 (tw @a0 (tw @a1 (tw @hk (tw @eB @gY))))) ?_;(repeat(refine Pn.mk ?_;intro N hN)))|((try apply Or.inl);refine⟨_,ar.x (fB) (sd (tw @a5 (tw @a0 (tw @a1 (tw @hk (tw @eB @gY)))))),?_⟩;refine hN _ _ ?_;clear hN N)))
    exact cm (sd (tw @a5 (tw @a0 (tw @a1 @aa.eq_1)))) (fun h=>by rw[hq];exact b3)
  ·have jN:k=ws.length:=by omega
   subst jN
   have dE:nF s ws=true:=by
    have:ws.all (fun n=>gJ n 1 100)=true:=by
     rw[List.all_eq_true]
     intro n hn
     obtain⟨j,hj,rfl⟩:=List.getElem_of_mem hn
     exact me j hj hj
    rw[nF,this,b1,decide_eq_true b2];rfl
   (try((repeat(revert hN;revert N;apply Pn.out));refine wk (tw @a5 (tw @a0 (tw @a1 (tw @hk @gY)))) ?_;(repeat(refine Pn.mk ?_;intro N hN))))
   exact aQ (b:=true) (.inl rfl) (sd @Nat.zero_add) dE.symm
 ·have d2:=decide_eq_false b2
  (repeat(first|((repeat(revert hN;revert N;apply Pn.out));refine wk (tw @gY (tw @C8 @d2)) ?_;(repeat(refine Pn.mk ?_;intro N hN)))|((try apply Or.inl);refine⟨_,ar.x (h1) (sd (tw @gY (tw @C8 @d2))),?_⟩;refine hN _ _ ?_;clear hN N)))
  exact aQ (b:=false) (.inl rfl) (sd @Nat.zero_add) (by rw[nF,b1,d2];rfl)
theorem Em (s:aE) (ws:List Int) (l:List ae) (hn:fV s.aB) (hg:s.aB.aA.length<=1048576) (ht:s.aB.ad.length<=1048576) (hw:ws.length<=1048576):ar Tryz.prog 77 [.dn (aD s),.sl (ws.map aw),.dn [.sl (l.map ai)]] (.int .i64 (rh s ws l)):=by
 refine ar.body eG rfl fun hl n0=>?_
 clear hl
 have h1:=Mp s hn hg ht
 have h2:=(Mq s.aB ws hn hg ht hw).cut mixed (.ptr _ [.sl (s.cw.ad.map ai),.int .i64 s.az] (.same _ .nil))
 have h3:=(FX s.aB l).cut mixed (.ptr _ [.sl (s.cw.ad.map ai),.int .i64 s.az] (.same _ .nil))
 cases b1:kR s
 ·rw[b1]at h1
  (repeat(first|((repeat(revert hN;revert N;apply Pn.out));refine wk @Nat.zero_add ?_;(repeat(refine Pn.mk ?_;intro N hN)))|((try apply Or.inl);refine⟨_,ar.x (h1) (sd @Nat.zero_add),?_⟩;refine hN _ _ ?_;clear hN N)))
  exact cr (b:=1) (.inl rfl) (sd @Nat.zero_add) (by rw[rh,b1];rfl)
 rw[b1]at h1
 rw[aD]at h1 ⊢
 cases b2:nF s.aB ws
 ·rw[b2]at h2
  (repeat(first|((repeat(revert hN;revert N;apply Pn.out));refine wk @aa.eq_1 ?_;(repeat(refine Pn.mk ?_;intro N hN)))|((try apply Or.inl);refine⟨_,ar.x (h1) (sd @aa.eq_1),?_⟩;refine hN _ _ ?_;clear hN N)|((try apply Or.inl);refine⟨_,ar.x (h2) (sd @aa.eq_1),?_⟩;refine hN _ _ ?_;clear hN N)))
  exact cr (b:=1) (.inl rfl) (sd @Nat.zero_add) (by rw[rh,b1,b2];rfl)
 rw[b2]at h2
 cases b3:mW s.aB l
 ·rw[b3]at h3
  (repeat(first|((repeat(revert hN;revert N;apply Pn.out));refine wk @aa.eq_1 ?_;(repeat(refine Pn.mk ?_;intro N hN)))|((try apply Or.inl);refine⟨_,ar.x (h1) (sd @aa.eq_1),?_⟩;refine hN _ _ ?_;clear hN N)|((try apply Or.inl);refine⟨_,ar.x (h2) (sd @aa.eq_1),?_⟩;refine hN _ _ ?_;clear hN N)|((try apply Or.inl);refine⟨_,ar.x (h3) (sd @aa.eq_1),?_⟩;refine hN _ _ ?_;clear hN N)))
  exact cr (b:=1) (.inl rfl) (sd @Nat.zero_add) (by rw[rh,b1,b2,b3];rfl)
 ·rw[b3]at h3
  (repeat(first|((repeat(revert hN;revert N;apply Pn.out));refine wk @aa.eq_1 ?_;(repeat(refine Pn.mk ?_;intro N hN)))|((try apply Or.inl);refine⟨_,ar.x (h1) (sd @aa.eq_1),?_⟩;refine hN _ _ ?_;clear hN N)|((try apply Or.inl);refine⟨_,ar.x (h2) (sd @aa.eq_1),?_⟩;refine hN _ _ ?_;clear hN N)|((try apply Or.inl);refine⟨_,ar.x (h3) (sd @aa.eq_1),?_⟩;refine hN _ _ ?_;clear hN N)))
  exact cr (b:=0) (.inl rfl) (sd @Nat.zero_add) (by rw[rh,b1,b2,b3];rfl)
theorem Eo (ws:List Int) (L:List ae) (hw:∀n∈ws,1<=n/\n<=100) (ho:Fi ws.length L) (hl:L.length<=40000*160) (Sd:ws.length<=1048576):ar Tryz.prog 79 [.sl (ws.map aw),.sl (L.map ai)] (.int .i64 (jj ws L L.length)):=by
 refine ar.body eG rfl fun lG n0=>?_
 clear lG
 have gY:(ws.map aw).length=ws.length:=by simp
 have th:(L.map ai).length=L.length:=by simp
 have hz:jj ws L 0=0:=rfl
 (try((repeat(revert hN;revert N;apply Pn.out));refine wk @Nat.zero_add ?_;(repeat(refine Pn.mk ?_;intro N hN))))
 refine aM (fun n env st=>∃k:Nat,n=(L.length)-k/\k<=(L.length)/\env 6=.int .i64 (k:Int)/\env 5=.int .i64 (jj ws L k)) (L.length) ⟨0,by omega,by omega,sl @hz,sl @hz⟩ ?_
 rintro n_a env_a st_a ⟨k,rfl,ale,a6,a5⟩ di
 have a0:=di 0 (by kernel_rfl);have a1:=di 1 (by kernel_rfl)
 simp only[go_sem, ↓reduceIte,Nat.reduceEqDiff,Nat.reduceAdd,Nat.reduceSub,Nat.reduceLeDiff,reduceCtorEq,hz]at a0 a1
 clear di
 by_cases hk:(k:Int)<(L.length:Int)
 ·have cm:∀{e:Env},(e 6=.int .i64 (IntKind.i64.wrap ((k:Int)+1)))->(e 5=.int .i64 (jj ws L (k+1)))->∃m0,m0<(L.length)-k/\∃k:Nat,m0=(L.length)-k/\k<=(L.length)/\e 6=.int .i64 (k:Int)/\e 5=.int .i64 (jj ws L k):=fun x1 x2=>⟨_,by omega,k+1,rfl,by omega,(by rw[x1,ay (by omega)]),x2⟩
  have eU:k<L.length:=by omega
  have eB:=fC eU
  obtain⟨t0,t1⟩:=ho _ (gT eU)
  have xL:=uY t0 t1
  have fB:=AH hw ho k (by omega)
  have Pr:=hw _ (AK t0 t1)
  have hs:jj ws L (k+1)=jj ws L k+Fa ws (aV L k).bx:=rfl
  have Sc:IntKind.i64.wrap (jj ws L k+Fa ws (aV L k).bx)=jj ws L (k+1):=by rw[hs,br (by omega)]
  generalize aV L k=x at eB t0 t1 xL Sc
  (try((repeat(revert hN;revert N;apply Pn.out));refine wk (tw @a6 (tw @a5 (tw @a0 (tw @a1 (tw @hk (tw @eB (tw @th (tw @gY (tw @t0 (tw @t1 (tw @xL @ai.eq_1))))))))))) ?_;(repeat(refine Pn.mk ?_;intro N hN))))
  refine cm ?_ ?_
  all_goals simp only[go_sem, ↓reduceIte,Nat.reduceEqDiff,Nat.reduceAdd,Nat.reduceSub,Nat.reduceLeDiff,reduceCtorEq,a6,a5,a0,a1,Sc]
 ·have jN:k=L.length:=by omega
  subst jN
  (try((repeat(revert hN;revert N;apply Pn.out));refine wk (tw @a6 (tw @a5 (tw @a0 (tw @a1 (tw @hk @th))))) ?_;(repeat(refine Pn.mk ?_;intro N hN))))
  exact cr (b:=jj ws L L.length) (.inl rfl) (sd (tw @a6 (tw @a5 (tw @a0 @a1)))) rfl
theorem PI (ws:List Int) (t:Int) (h0:0<=t) (h1:t<ws.length):ar Tryz.prog 155 [.sl (ws.map aw),.int .i64 t] (.int .i64 (Fa ws t)):=by
 refine ar.body eG rfl fun lG n0=>?_
 clear lG
 have gY:(ws.map aw).length=ws.length:=by simp
 have xL:=uY h0 h1
 have hz:decide ((ws.length:Int)=0)=false:=decide_eq_false (by omega)
 (try((repeat(revert hN;revert N;apply Pn.out));refine wk (tw @gY (tw @hz (tw @h0 (tw @h1 @xL)))) ?_;(repeat(refine Pn.mk ?_;intro N hN))))
 exact cr (b:=Fa ws t) (.inl rfl) (sd @Nat.zero_add) rfl
theorem M7 (ws:List Int) (L:List ae) (hw:∀n∈ws,1<=n/\n<=100) (ho:Fi ws.length L) (hl:L.length<=40000*160):ar Tryz.prog 85 [.sl (ws.map aw),.sl (L.map ai)] (.int .i64 (jj ws L L.length)):=by
 refine ar.body eG rfl fun lG n0=>?_
 clear lG
 have th:(L.map ai).length=L.length:=by simp
 have hz:jj ws L 0=0:=rfl
 (try((repeat(revert hN;revert N;apply Pn.out));refine wk @th ?_;(repeat(refine Pn.mk ?_;intro N hN))))
 refine aM (fun n env st=>∃k:Nat,n=(L.length)-k/\k<=(L.length)/\env 10=.int .i64 (k:Int)/\env 5=.int .i64 (jj ws L k)) (L.length) ⟨0,by omega,by omega,sl (tw @hz @th),sl (tw @hz @th)⟩ ?_
 rintro n_a env_a st_a ⟨k,rfl,ale,lR,a5⟩ di
 have a0:=di 0 (by kernel_rfl);have a8:=di 8 (by kernel_rfl);have a9:=di 9 (by kernel_rfl)
 simp only[go_sem, ↓reduceIte,Nat.reduceEqDiff,Nat.reduceAdd,Nat.reduceSub,Nat.reduceLeDiff,reduceCtorEq,hz,th]at a0 a8 a9
 clear di
 by_cases hk:(k:Int)<(L.length:Int)
 ·have cm:∀{e:Env},(e 10=.int .i64 (IntKind.i64.wrap ((k:Int)+1)))->(e 5=.int .i64 (jj ws L (k+1)))->∃m0,m0<(L.length)-k/\∃k:Nat,m0=(L.length)-k/\k<=(L.length)/\e 10=.int .i64 (k:Int)/\e 5=.int .i64 (jj ws L k):=fun x1 x2=>⟨_,by omega,k+1,rfl,by omega,(by rw[x1,ay (by omega)]),x2⟩
  have eU:k<L.length:=by omega
  have eB:=fC eU
  obtain⟨t0,t1⟩:=ho _ (gT eU)
  have TD:=PI ws _ t0 t1
  have fB:=AH hw ho k (by omega)
  have Pr:=hw _ (AK t0 t1)
  have hs:jj ws L (k+1)=jj ws L k+Fa ws (aV L k).bx:=rfl
  have Sc:IntKind.i64.wrap (jj ws L k+Fa ws (aV L k).bx)=jj ws L (k+1):=by rw[hs,br (by omega)]
  generalize aV L k=x at eB TD Sc
  (repeat(first|((repeat(revert hN;revert N;apply Pn.out));refine wk (tw @lR (tw @a5 (tw @a0 (tw @a8 (tw @a9 (tw @hk (tw @eB (tw @th @ai.eq_1)))))))) ?_;(repeat(refine Pn.mk ?_;intro N hN)))|((try apply Or.inl);refine⟨_,ar.x (TD) (sd (tw @lR (tw @a5 (tw @a0 (tw @a8 (tw @a9 (tw @hk (tw @eB (tw @th @ai.eq_1))))))))),?_⟩;refine hN _ _ ?_;clear hN N)))
  refine cm ?_ ?_
  all_goals simp only[go_sem, ↓reduceIte,Nat.reduceEqDiff,Nat.reduceAdd,Nat.reduceSub,Nat.reduceLeDiff,reduceCtorEq,lR,a5,a0,a8,a9,Sc]
 ·have jN:k=L.length:=by omega
  subst jN
  (try((repeat(revert hN;revert N;apply Pn.out));refine wk (tw @lR (tw @a5 (tw @a0 (tw @a8 (tw @a9 (tw @hk @th)))))) ?_;(repeat(refine Pn.mk ?_;intro N hN))))
  exact cr (b:=jj ws L L.length) (.inl rfl) (sd (tw @lR (tw @a5 (tw @a0 (tw @a8 @a9))))) rfl
theorem PW (n:Int):ar Tryz.prog 227 [.int .i64 n] (.bool (!gJ n 1 100)):=by
 refine ar.body eG rfl fun hl n0=>?_
 clear hl
 have h:=km n 1 100
 (repeat(first|((repeat(revert hN;revert N;apply Pn.out));refine wk @Nat.zero_add ?_;(repeat(refine Pn.mk ?_;intro N hN)))|((try apply Or.inl);refine⟨_,ar.x (h) (sd @Nat.zero_add),?_⟩;refine hN _ _ ?_;clear hN N)))
 exact aQ (b:= !gJ n 1 100) (.inl rfl) (sd @Nat.zero_add) rfl
theorem M9 (ws:List Int) (hl:ws.length<=1048576):ar Tryz.prog 226 [.sl (ws.map aw),.fn 227 []] (.bool (ws.any fun n=> !gJ n 1 100)):=
 kX Fx (show mo Tryz.prog 226=some (zK 226 279) by kernel_rfl)
  (show mo Tryz.prog 279=some (tj 279 1 false) by kernel_rfl) ws hl _ _ _ rfl (fun g=>by rw[aq]) (fun x _=>PW x) fun g=>by rw[aq]
theorem vC (s:au) (ws:List Int) (hn:fV s) (hg:s.aA.length<=1048576) (ht:s.ad.length<=1048576) (hs:∀t∈s.ad,t.bq.length<=1048576) (hw:ws.length<=1048576):ar Tryz.prog 150 [.agg (aa s),.sl (ws.map aw)] (.bool (nF s ws)):=by
 refine ar.body eG rfl fun hl n0=>?_
 clear hl
 have h1:=vB s hn hg ht hs
 have h2:=M9 ws hw
 have gY:(ws.map aw).length=ws.length:=by simp
 have C8:(s.ad.map bm).length=s.ad.length:=by simp
 have dE:(!(ws.any fun n=> !gJ n 1 100))=ws.all fun n=>gJ n 1 100:=by rw[List.all_eq_not_any_not]
 cases b1:oq s
 ·rw[b1]at h1
  rw[aa]at h1 ⊢
  (repeat(first|((repeat(revert hN;revert N;apply Pn.out));refine wk @Nat.zero_add ?_;(repeat(refine Pn.mk ?_;intro N hN)))|((try apply Or.inl);refine⟨_,ar.x (h1) (sd @Nat.zero_add),?_⟩;refine hN _ _ ?_;clear hN N)))
  exact aQ (b:=false) (.inl rfl) (sd @Nat.zero_add) (by rw[nF,b1];rfl)
 rw[b1]at h1
 rw[aa]at h1 ⊢
 by_cases b2:(ws.length:Int)=(s.ad.length:Int)
 ·have d2:=decide_eq_true b2
  (repeat(first|((repeat(revert hN;revert N;apply Pn.out));refine wk (tw @gY (tw @C8 @d2)) ?_;(repeat(refine Pn.mk ?_;intro N hN)))|((try apply Or.inl);refine⟨_,ar.x (h1) (sd (tw @gY (tw @C8 @d2))),?_⟩;refine hN _ _ ?_;clear hN N)|((try apply Or.inl);refine⟨_,ar.x (h2) (sd (tw @gY (tw @C8 @d2))),?_⟩;refine hN _ _ ?_;clear hN N)))
  exact aQ (b:= !(ws.any fun n=> !gJ n 1 100)) (.inl rfl) (sd @Nat.zero_add) (by rw[dE,nF,b1,d2];rfl)
 ·have d2:=decide_eq_false b2
  (repeat(first|((repeat(revert hN;revert N;apply Pn.out));refine wk (tw @gY (tw @C8 @d2)) ?_;(repeat(refine Pn.mk ?_;intro N hN)))|((try apply Or.inl);refine⟨_,ar.x (h1) (sd (tw @gY (tw @C8 @d2))),?_⟩;refine hN _ _ ?_;clear hN N)))
  exact aQ (b:=false) (.inl rfl) (sd @Nat.zero_add) (by rw[nF,b1,d2];rfl)
theorem xR (s:aE) (ws:List Int) (hn:fV s.aB) (hm:rH s) (hw:ws.length<=1048576):ar Tryz.prog 81 [.agg (aD s),.sl (ws.map aw)] (.int .i64 (if kR s&&nF s.aB ws then 0 else 1)):=by
 refine ar.body eG rfl fun hl n0=>?_
 clear hl
 have h1:=qi IS s hn hm.s.g hm.s.t hm.s.s hm.a
 have h2:=vC s.aB ws hn hm.s.g hm.s.t hm.s.s hw
 cases b1:kR s
 ·rw[b1]at h1
  rw[aD]at h1 ⊢
  (repeat(first|((repeat(revert hN;revert N;apply Pn.out));refine wk @Nat.zero_add ?_;(repeat(refine Pn.mk ?_;intro N hN)))|((try apply Or.inl);refine⟨_,ar.x (h1) (sd @Nat.zero_add),?_⟩;refine hN _ _ ?_;clear hN N)))
  exact cr (b:=1) (.inl rfl) (sd @Nat.zero_add) (by simp[b1])
 rw[b1]at h1
 rw[aD]at h1 ⊢
 rw[aa]at h2
 cases b2:nF s.aB ws
 ·rw[b2]at h2
  (repeat(first|((repeat(revert hN;revert N;apply Pn.out));refine wk @Nat.zero_add ?_;(repeat(refine Pn.mk ?_;intro N hN)))|((try apply Or.inl);refine⟨_,ar.x (h1) (sd @Nat.zero_add),?_⟩;refine hN _ _ ?_;clear hN N)|((try apply Or.inl);refine⟨_,ar.x (h2) (sd @Nat.zero_add),?_⟩;refine hN _ _ ?_;clear hN N)))
  exact cr (b:=1) (.inl rfl) (sd @Nat.zero_add) (by simp[b1,b2])
 ·rw[b2]at h2
  (repeat(first|((repeat(revert hN;revert N;apply Pn.out));refine wk @Nat.zero_add ?_;(repeat(refine Pn.mk ?_;intro N hN)))|((try apply Or.inl);refine⟨_,ar.x (h1) (sd @Nat.zero_add),?_⟩;refine hN _ _ ?_;clear hN N)|((try apply Or.inl);refine⟨_,ar.x (h2) (sd @Nat.zero_add),?_⟩;refine hN _ _ ?_;clear hN N)))
  exact cr (b:=0) (.inl rfl) (sd @Nat.zero_add) (by simp[b1,b2])
def sV (P:Program) (f:Nat) (args:List AV) (R:List Int×Int×Int):Prop:=
 ∀n:Nat,Call P f args ⟨fun _=>none,n⟩ (fun r σ'=>∃v ids,r=.iD [v,.int .i64 R.2.1,.int .i64 R.2.2]/\rC aw 1 σ'.get v R.1 ids/\gr n σ'.next ids)
theorem sV.new {P:Program} (hm:P.follows .mixedOrders=true) {f:Nat} {args eF:List AV} {σ:ax} {R:List Int×Int×Int} (h:sV P f eF R) (hv:dd (dJ σ.get) 6 args=some eF):
  Call P f args σ (fun r σ'=>∃v ids,r=.iD [v,.int .i64 R.2.1,.int .i64 R.2.2]/\rC aw 1 σ'.get v R.1 ids/\gr σ.next σ'.next ids/\Kept σ σ'):=by
 refine A7 hm hv (aJ _ _ _ _ _ (fun r σ' hq=>?_) (xY hm (h σ.next)))
 obtain⟨⟨v,ids,rfl,ho,hi⟩,hn⟩:=hq
 refine⟨ids,?_,?_,v,ids,rfl,?_,hi,hn,fun j hj=>pR fun hc=>?_⟩
 ·rcases ho with⟨_,rfl,_⟩|⟨o,rfl,_⟩<;>rfl
 ·rcases ho with⟨_,_,rfl⟩|⟨o,_,h2,rfl,_⟩
  ·intro i hi;cases hi
  ·intro i hi
   rw[List.mem_singleton.1 hi]
   refine⟨_,h2,rfl,fun cs dw a ha=>?_⟩
   obtain⟨x,_,rfl⟩:=List.mem_map.1 dw
   simp[aw]at ha
   rw[ha];rfl
 ·exact ho.frame fun i hi=>sH hi
 ·have:=(hi.2 j hc).1;omega
theorem sV.s {P:Program} {f:Nat} {args:List AV} {R:List Int×Int×Int} (h:sV P f args R):ar P f args (.iD [QT aw R.1,.int .i64 R.2.1,.int .i64 R.2.2]):=fun n=>
 aJ _ _ _ _ _ (fun r σ' hq=>by
  obtain⟨v,ids,rfl,ho,hi⟩:=hq
  rcases ho with⟨h0,rfl,_⟩|⟨o,rfl,h2,_,hp⟩
  ·exact⟨_,by simp only[eX,bz,cD,kd,eC,Option.map_some];rfl,by rw[h0];rfl⟩
  ·have:=fj (e:=aw) (n:=4) h2 rfl fun x=>by simp[aw,bz,cD,eC]
   exact⟨_,by simp only[eX,bz,cD,this,eC,Option.map_some];rfl,by rw[QT,if_neg (by omega)]⟩) (h n)
theorem Gn (s:aE) (ws:List Int) (l:List ae) (hn:fV s.aB) (hg:s.aB.aA.length<=1048576) (ht:s.aB.ad.length<=1048576) (Sd:ws.length<=1048576):∃w,jJ aw (pe s ws l).1 w/\j7 Tryz.prog 15 [.agg (aD s),.sl (ws.map aw),.agg [.sl (l.map ai)]] (.iD [w,.int .i64 (pe s ws l).2.1,.int .i64 (pe s ws l).2.2]):=by
 have h1:=Em s ws l hn hg ht Sd
 by_cases h0:rh s ws l=0
 ·obtain⟨hP,hW,hA⟩:=wU.1 h0
  have hr:pe s ws l=(lj ws (om s l),jj ws (om s l) (om s l).length,0):=by rw[pe,if_pos h0]
  rw[h0]at h1
  rw[hr]
  refine⟨.sl ((lj ws (om s l)).map aw),.inr rfl,?_⟩
  have h2:ar Tryz.prog 78 [.dn (aD s),.dn [.sl (l.map ai)]] (.sl ((om s l).map ai)):=zW s hP l hA
  obtain⟨K1,LP⟩:=Al hP.set hA
  generalize om s l=L at h2 K1 LP ⊢
  rw[<-hW.len]at LP
  have h3:=Eo ws L hW.VP LP K1 Sd
  refine j7.body eG rfl fun lG σ=>?_
  clear lG
  have gY:(ws.map aw).length=ws.length:=by simp
  have th:(L.map ai).length=L.length:=by simp
  rw[aD]at h1 h2 ⊢
  (repeat(first|((repeat(revert hN;revert N;apply Pn.out));refine wk @Nat.zero_add ?_;(repeat(refine Pn.mk ?_;intro N hN)))|((try apply Or.inl);refine⟨_,ar.x (h1) (sd @Nat.zero_add),?_⟩;refine hN _ _ ?_;clear hN N)|((try apply Or.inl);refine⟨_,ar.x (h2) (sd @Nat.zero_add),?_⟩;refine hN _ _ ?_;clear hN N)))
  refine aM (fun n env st=>∃k:Nat,n=(L.length)-k/\k<=(L.length)/\env 12=.int .i64 (k:Int)/\(σ.next<=st.next/\∃o:Id,env 11=.own o 0 k/\st.get o=some ⟨true,1,(lj ws (L.take k)).map aw⟩/\o.bj<st.next)) (L.length) ⟨0,by omega,by omega,sl @Nat.zero_add,by(try dsimp only);exact⟨by omega,⟨15005000,σ.next+1+1+1+1⟩,sl @Nat.zero_add,sl @Nat.zero_add,by(try dsimp only);omega⟩⟩ ?_
  rintro n_a env_a st_a ⟨k,rfl,ale,a12,j8⟩ di
  have a1:=di 1 (by kernel_rfl);have lR:=di 10 (by kernel_rfl)
  simp only[go_sem, ↓reduceIte,Nat.reduceEqDiff,Nat.reduceAdd,Nat.reduceSub,Nat.reduceLeDiff,reduceCtorEq]at a1 lR
  clear di
  obtain⟨an,o,H7,ag,Q3⟩:=j8
  have vo:=dB Q3
  by_cases hk:(k:Int)<(L.length:Int)
  ·have cm:∀{e:Env} {gg:Rows} {nx:Nat},(e 12=.int .i64 (IntKind.i64.wrap ((k:Int)+1)))->(σ.next<=nx/\∃o:Id,e 11=.own o 0 (k+1)/\gg o=some ⟨true,1,(lj ws (L.take (k+1))).map aw⟩/\o.bj<nx)->∃m0,m0<(L.length)-k/\∃k:Nat,m0=(L.length)-k/\k<=(L.length)/\e 12=.int .i64 (k:Int)/\(σ.next<=nx/\∃o:Id,e 11=.own o 0 k/\gg o=some ⟨true,1,(lj ws (L.take k)).map aw⟩/\o.bj<nx):=fun x1 x2=>⟨_,by omega,k+1,rfl,by omega,(by rw[x1,ay (by omega)]),x2⟩
   have eU:k<L.length:=by omega
   have eB:=fC eU
   obtain⟨t0,t1⟩:=LP _ (gT eU)
   have xL:=uY t0 t1
   have r5:=y7 (ws:=ws) eU
   have Eb:(lj ws (L.take (k+1))).map aw=(lj ws (L.take k)).map aw++[[.int .i64 (Fa ws (aV L k).bx)]]:=by rw[r5,List.map_append];rfl
   have G2:((lj ws (L.take k)).map aw).length=k:=by rw[List.length_map,sk,List.length_take];omega
   have qb:k<=16777215:=by omega
   generalize aV L k=x at eB t0 t1 xL Eb
   (try((repeat(revert hN;revert N;apply Pn.out));refine wk (tw @a12 (tw @a1 (tw @lR (tw @hk (tw @eB (tw @th (tw @gY (tw @t0 (tw @t1 (tw @xL (tw @H7 (tw @ag (tw @vo (tw @G2 (tw @qb @ai.eq_1))))))))))))))) ?_;(repeat(refine Pn.mk ?_;intro N hN))))
   exact cm (sd (tw @a12 (tw @a1 @lR))) (by(try dsimp only);exact⟨by omega,⟨15009010,st_a.next+1⟩,sl @Nat.zero_add,by rw[Eb];simp only[go_sem, ↓reduceIte,Nat.reduceEqDiff,Nat.reduceAdd,Nat.reduceSub,Nat.reduceLeDiff,reduceCtorEq]<;>rfl,by(try dsimp only);omega⟩)
  ·have jN:k=L.length:=by omega
   subst jN
   rw[List.take_length]at ag
   (repeat(first|((repeat(revert hN;revert N;apply Pn.out));refine wk (tw @a12 (tw @a1 (tw @lR (tw @hk (tw @th @H7))))) ?_;(repeat(refine Pn.mk ?_;intro N hN)))|((try apply Or.inl);refine⟨_,ar.x (h3) (sd (tw @a12 (tw @a1 (tw @lR (tw @hk (tw @th @H7)))))),?_⟩;refine hN _ _ ?_;clear hN N)))
   exact As (.inl rfl) (vs:=[.own o 0 L.length,.int .i64 (jj ws L L.length),.int .i64 0]) (sd @H7) (by
    have:=fA (e:=aw) (g:=st_a.get) (sz:=1) (n:=4) (len:=L.length) (l:=lj ws L) (id:=o) ag (by rw[sk]) fun x=>by simp[aw,aj,aq,aH]
    simp only[fm,bG,aj,aq,aH,this,Option.map_some])
 ·have hd:decide (rh s ws l=0)=false:=decide_eq_false h0
  have hr:pe s ws l=([],0,1):=by rw[pe,if_neg h0]
  have h11:rh s ws l=1:=by
   unfold rh at h0 ⊢
   split
   ·rename_i h;rw[if_pos h]at h0;exact absurd rfl h0
   ·rfl
  rw[hr]
  refine⟨.sl (List.map aw []),.inr rfl,?_⟩
  refine j7.body eG rfl fun lG σ=>?_
  clear lG
  rw[h11]at h1
  rw[aD]at h1 ⊢
  (repeat(first|((repeat(revert hN;revert N;apply Pn.out));refine wk @Nat.zero_add ?_;(repeat(refine Pn.mk ?_;intro N hN)))|((try apply Or.inl);refine⟨_,ar.x (h1) (sd @Nat.zero_add),?_⟩;refine hN _ _ ?_;clear hN N)))
  exact As (.inl rfl) (vs:=[.own ⟨15003000,σ.next+1+1+1⟩ 0 0,.int .i64 0,.int .i64 1]) (sd @Nat.zero_add) (by simp[fm,bG,aj,aq,aH,ij,dJ,bR,dU])
def Qh (z m:Nat) (L:List Int) (v:AV) (g:Rows) (n:Nat):Prop:=(L=[]/\v=.cu)∨∃u:Id,v=.own u 0 L.length/\g u=some ⟨true,1,L.map aw⟩/\m<=u.bj/\u.bj<n/\0<L.length/\u.site=z
theorem Qh.frame {z m:Nat} {L:List Int} {v v':AV} {g g':Rows} {n n':Nat} (h:Qh z m L v g n) (he:v'=v) (hn:n<=n') (hf:∀x:Id,x.bj<n->g' x=g x):Qh z m L v' g' n':=by
 subst he
 rcases h with h|⟨u,h1,h2,h3,h4,h5⟩
 ·exact .inl h
 ·exact .inr ⟨u,h1,(hf u h4).trans h2,h3,by omega,h5⟩
theorem Gm (s:aE) (ws:List Int) (l:List ae) (hn:fV s.aB) (hm:rH s) (Sd:ws.length<=1048576) (hl:l.length<=1048576):sV Tryz.prog 19 [.agg (aD s),.sl (ws.map aw),.agg [.sl (l.map ai)]] (pe s ws l):=by
 intro n0
 refine eZ eG rfl fun lG=>?_
 clear lG
 have h1:=xR s ws hn hm Sd
 have h2:ar Tryz.prog 82 [.agg (aD s),.agg [.sl (l.map ai)]] (.int .i64 (if zp s l then 0 else 1)):=zH s l hn hm hl
 cases bk:kR s&&nF s.aB ws
 ·have hr:pe s ws l=([],0,1):=by rw[pe,rh,bk];rfl
  rw[hr]
  rw[bk]at h1
  rw[aD]at h1 ⊢
  (repeat(first|((repeat(revert hN;revert N;apply Pn.out));refine wk @Nat.zero_add ?_;(repeat(refine Pn.mk ?_;intro N hN)))|((try apply Or.inl);refine⟨_,ar.x (h1) (sd @Nat.zero_add),?_⟩;refine hN _ _ ?_;clear hN N)))
  exact fq (.inl rfl) (vs:=[.cu,.int .i64 0,.int .i64 1]) (sd @Nat.zero_add) ⟨.cu,[],rfl,.inl ⟨rfl,rfl,rfl⟩,⟨List.nodup_nil,fun i hi=>by cases hi⟩⟩
 rw[bk]at h1
 obtain⟨bs,bw⟩:=Bool.and_eq_true_iff.1 bk
 cases ba:zp s l
 ·have UP:mW s.aB l=false:=by rw[zp,bs,Bool.true_and]at ba;exact ba
  have hr:pe s ws l=([],0,1):=by rw[pe,rh,bk,UP];rfl
  rw[hr]
  rw[ba]at h2
  rw[aD]at h1 h2 ⊢
  (repeat(first|((repeat(revert hN;revert N;apply Pn.out));refine wk @Nat.zero_add ?_;(repeat(refine Pn.mk ?_;intro N hN)))|((try apply Or.inl);refine⟨_,ar.x (h1) (sd @Nat.zero_add),?_⟩;refine hN _ _ ?_;clear hN N)|((try apply Or.inl);refine⟨_,ar.x (h2) (sd @Nat.zero_add),?_⟩;refine hN _ _ ?_;clear hN N)))
  exact fq (.inl rfl) (vs:=[.cu,.int .i64 0,.int .i64 1]) (sd @Nat.zero_add) ⟨.cu,[],rfl,.inl ⟨rfl,rfl,rfl⟩,⟨List.nodup_nil,fun i hi=>by cases hi⟩⟩
 obtain⟨hP,hA⟩:=ID.1 ba
 have hW:=C1.1 bw
 have h0:rh s ws l=0:=wU.2 ⟨hP,hW,hA⟩
 have hT:1<=s.az:=(dX hP.HR).1
 have hr:pe s ws l=(lj ws (om s l),jj ws (om s l) (om s l).length,0):=by rw[pe,if_pos h0]
 rw[hr]
 rw[ba]at h2
 have hc:=fun σ=>Aj s hP.set hT l hA σ
 obtain⟨K1,LP⟩:=Al hP.set hA
 obtain⟨L,hLe⟩:∃L,om s l=L:=⟨_,rfl⟩
 rw[hLe]at K1 LP ⊢
 rw[<-hW.len]at LP
 have h3:=M7 ws L hW.VP LP K1
 have gY:(ws.map aw).length=ws.length:=by simp
 rw[aD]at h1 h2 hc ⊢
 (repeat(first|((repeat(revert hN;revert N;apply Pn.out));refine wk @Nat.zero_add ?_;(repeat(refine Pn.mk ?_;intro N hN)))|((try apply Or.inl);refine⟨_,ar.x (h1) (sd @Nat.zero_add),?_⟩;refine hN _ _ ?_;clear hN N)|((try apply Or.inl);refine⟨_,ar.x (h2) (sd @Nat.zero_add),?_⟩;refine hN _ _ ?_;clear hN N)))
 refine .inr (aJ _ _ _ _ _ (fun r σ1 hq=>?_) (hc _))
 obtain⟨g1,x1⟩:=σ1
 obtain⟨c,T,O,rfl,hC,RB,UI,Th,pD,mz⟩:=hq
 (try dsimp only at hC RB UI Th pD mz)
 refine hN _ _ ?_
 clear hN N
 (try((repeat(revert hN;revert N;apply Pn.out));refine wk @Nat.zero_add ?_;(repeat(refine Pn.mk ?_;intro N hN))))
 refine .inr (aJ _ _ _ _ _ (fun r σ2 hq=>?_) (Px (σ:=⟨g1,_⟩) (hC.frame (by(try dsimp only);omega) fun x hx=>rfl) hT hP.set hA))
 obtain⟨g2,x2⟩:=σ2
 obtain⟨O6,GY,hq⟩:=hq
 (try dsimp only at hq O6 GY)
 have Ie:Ir 84008005 _ (om s l) r g2 x2:=hq
 clear hq
 rw[hLe]at Ie
 refine hN _ _ ?_
 clear hN N
 rcases Ie with⟨hL,rfl⟩|⟨u,rfl,hu,hum,Lf,AX,TG⟩
 ·subst hL
  have h3n:=h3.cut mixed (.same _ (.cu .nil))
  (try((repeat(revert hN;revert N;apply Pn.out));refine wk @Nat.zero_add ?_;(repeat(refine Pn.mk ?_;intro N hN))))
  refine aM (fun n env st=>(env 29=.int .i64 0/\env 28=.int .i64 0/\env 9=.cu/\env 1=.sl (ws.map aw)/\env 10=.cu)/\n0<=st.next) 0 ⟨⟨sd @Nat.zero_add,sl @Nat.zero_add,sd @Nat.zero_add,sd @Nat.zero_add,sd @Nat.zero_add⟩,by(try dsimp only);omega⟩ ?_
  rintro m e st ⟨⟨a29,a28,a9,a1,lR⟩,an⟩ -
  have d0:decide ((0:Int)<0)=false:=rfl
  (repeat(first|((repeat(revert hN;revert N;apply Pn.out));refine wk (tw @a29 (tw @a28 (tw @a9 (tw @a1 (tw @lR @d0))))) ?_;(repeat(refine Pn.mk ?_;intro N hN)))|((try apply Or.inl);refine⟨_,ar.x (h3n) (sd (tw @a29 (tw @a28 (tw @a9 (tw @a1 (tw @lR @d0)))))),?_⟩;refine hN _ _ ?_;clear hN N)))
  exact fq (.inl rfl) (vs:=[.cu,.int .i64 0,.int .i64 0]) (by simp only[fy,iv,go_sem, ↓reduceIte,Nat.reduceEqDiff,Nat.reduceAdd,Nat.reduceSub,Nat.reduceLeDiff,reduceCtorEq,a9];rfl) ⟨.cu,[],rfl,.inl ⟨rfl,rfl,rfl⟩,⟨List.nodup_nil,fun i hi=>by cases hi⟩⟩
 ·have th:(L.map ai).length=L.length:=by simp
  (try((repeat(revert hN;revert N;apply Pn.out));refine wk @Nat.zero_add ?_;(repeat(refine Pn.mk ?_;intro N hN))))
  refine aM (fun n env st=>∃k:Nat,n=(L.length)-k/\k<=(L.length)/\env 29=.int .i64 (k:Int)/\(x2<=st.next/\(∀x:Id,x.bj<x2->st.get x=g2 x)/\Qh 19008007 x2 (lj ws (L.take k)) (env 9) st.get st.next)) (L.length) ⟨0,by omega,by omega,sl @Nat.zero_add,by(try dsimp only);exact⟨by omega,fun x hx=>sd @Nat.zero_add,.inl ⟨rfl,sd @Nat.zero_add⟩⟩⟩ ?_
  rintro n_a env_a st_a ⟨k,rfl,ale,a29,j8⟩ di
  have a1:=di 1 (by kernel_rfl);have lR:=di 10 (by kernel_rfl);have N7:=di 27 (by kernel_rfl);have a28:=di 28 (by kernel_rfl)
  simp only[go_sem, ↓reduceIte,Nat.reduceEqDiff,Nat.reduceAdd,Nat.reduceSub,Nat.reduceLeDiff,reduceCtorEq]at a1 lR N7 a28
  clear di
  obtain⟨an,di,a9⟩:=j8
  have fu:=(di u Lf).trans hu
  have vu:=dB (i:=u) (n:=st_a.next) (by omega)
  by_cases hk:(k:Int)<(L.length:Int)
  ·have cm:∀{e:Env} {gg:Rows} {nx:Nat},(e 29=.int .i64 (IntKind.i64.wrap ((k:Int)+1)))->(x2<=nx/\(∀x:Id,x.bj<x2->gg x=g2 x)/\Qh 19008007 x2 (lj ws (L.take (k+1))) (e 9) gg nx)->∃m0,m0<(L.length)-k/\∃k:Nat,m0=(L.length)-k/\k<=(L.length)/\e 29=.int .i64 (k:Int)/\(x2<=nx/\(∀x:Id,x.bj<x2->gg x=g2 x)/\Qh 19008007 x2 (lj ws (L.take k)) (e 9) gg nx):=fun x1 x2=>⟨_,by omega,k+1,rfl,by omega,(by rw[x1,ay (by omega)]),x2⟩
   have eU:k<L.length:=by omega
   have eB:=fC eU
   obtain⟨t0,t1⟩:=LP _ (gT eU)
   have xL:=uY t0 t1
   have r5:=y7 (ws:=ws) eU
   have G2:(lj ws (L.take k)).length=k:=by rw[sk,List.length_take];omega
   have qb:k<=16777215:=by omega
   generalize aV L k=x at eB t0 t1 xL r5
   generalize lj ws (L.take k)=M at a9 r5 G2
   have Eb:(lj ws (L.take (k+1))).map aw=M.map aw++[[.int .i64 (Fa ws x.bx)]]:=by rw[r5,List.map_append];rfl
   have xx:(lj ws (L.take (k+1))).length=M.length+1:=by rw[r5];simp
   rcases a9 with⟨hM,a9⟩|⟨o,a9,Pa,hom,Pb,dK,zR⟩
   ·subst hM
    (try((repeat(revert hN;revert N;apply Pn.out));refine wk (tw @a29 (tw @a1 (tw @lR (tw @N7 (tw @a28 (tw @hk (tw @eB (tw @th (tw @gY (tw @fu (tw @vu (tw @t0 (tw @t1 (tw @xL (tw @a9 @ai.eq_1))))))))))))))) ?_;(repeat(refine Pn.mk ?_;intro N hN))))
    exact cm (sd (tw @a29 (tw @a1 (tw @lR (tw @N7 @a28))))) (by(try dsimp only);exact⟨by omega,fun x hx=>by
     have h2:=dB (i:=x) (n:=st_a.next) (by omega)
     have h3:=di x hx
     simp only[go_sem, ↓reduceIte,Nat.reduceEqDiff,Nat.reduceAdd,Nat.reduceSub,Nat.reduceLeDiff,reduceCtorEq,h2,h3],.inr ⟨⟨19008007,st_a.next+1+1⟩,by rw[xx];simp only[go_sem, ↓reduceIte,Nat.reduceEqDiff,Nat.reduceAdd,Nat.reduceSub,Nat.reduceLeDiff,reduceCtorEq]<;>rfl,by rw[Eb];simp only[go_sem, ↓reduceIte,Nat.reduceEqDiff,Nat.reduceAdd,Nat.reduceSub,Nat.reduceLeDiff,reduceCtorEq]<;>rfl,by(try dsimp only);omega,by(try dsimp only);omega,by rw[xx];omega,rfl⟩⟩)
   ·have vo:=dB Pb
    have LY:(M.map aw).length=M.length:=by simp
    have UB:M.length<=16777215:=by omega
    (try((repeat(revert hN;revert N;apply Pn.out));refine wk (tw @a29 (tw @a1 (tw @lR (tw @N7 (tw @a28 (tw @hk (tw @eB (tw @th (tw @gY (tw @fu (tw @vu (tw @t0 (tw @t1 (tw @xL (tw @a9 (tw @Pa (tw @vo (tw @LY (tw @UB @ai.eq_1))))))))))))))))))) ?_;(repeat(refine Pn.mk ?_;intro N hN))))
    exact cm (sd (tw @a29 (tw @a1 (tw @lR (tw @N7 @a28))))) (by(try dsimp only);exact⟨by omega,fun x hx=>by
     have h2:=dB (i:=x) (n:=st_a.next) (by omega)
     have h4:=dv (a:=x) (b:=o) (by omega)
     have h3:=di x hx
     simp only[go_sem, ↓reduceIte,Nat.reduceEqDiff,Nat.reduceAdd,Nat.reduceSub,Nat.reduceLeDiff,reduceCtorEq,h2,h3,h4],.inr ⟨⟨19008007,st_a.next+1+1⟩,by rw[xx];simp only[go_sem, ↓reduceIte,Nat.reduceEqDiff,Nat.reduceAdd,Nat.reduceSub,Nat.reduceLeDiff,reduceCtorEq]<;>rfl,by rw[Eb];simp only[go_sem, ↓reduceIte,Nat.reduceEqDiff,Nat.reduceAdd,Nat.reduceSub,Nat.reduceLeDiff,reduceCtorEq]<;>rfl,by(try dsimp only);omega,by(try dsimp only);omega,by rw[xx];omega,rfl⟩⟩)
  ·have jN:k=L.length:=by omega
   subst jN
   rw[List.take_length]at a9
   (try((repeat(revert hN;revert N;apply Pn.out));refine wk (tw @a29 (tw @a1 (tw @lR (tw @N7 (tw @a28 (tw @hk @fu)))))) ?_;(repeat(refine Pn.mk ?_;intro N hN))))
   refine .inl ⟨_,ar.x h3 (by
    have:=fA (e:=ai) (g:=dJ st_a.get) (sz:=3) (n:=5) (len:=L.length) (l:=L) (id:=u) (by simp[dJ,fu]) rfl fun x=>by simp[ai,aj,aq,aH]
    simp only[aj,aq,ck,this,Option.map_some]),?_⟩
   refine hN _ _ ?_
   clear hN N
   (try((repeat(revert hN;revert N;apply Pn.out));refine wk (tw @a29 (tw @a1 (tw @lR (tw @N7 @a28)))) ?_;(repeat(refine Pn.mk ?_;intro N hN))))
   exact fq (.inl rfl) (vs:=[env_a 9,.int .i64 (jj ws L L.length),.int .i64 0]) (sd @Nat.zero_add) (by
    rcases a9 with⟨hM,a9⟩|⟨o,a9,Pa,hom,Pb,dK,zR⟩
    ·exact⟨env_a 9,[],rfl,.inl ⟨hM,a9,rfl⟩,⟨List.nodup_nil,fun i hi=>by cases hi⟩⟩
    ·exact⟨env_a 9,[o],rfl,.inr ⟨o,a9,Pa,rfl,dK⟩,⟨List.nodup_cons.2 ⟨by simp,List.nodup_nil⟩,fun i hi=>by rw[List.mem_singleton.1 hi];(try dsimp only);omega⟩⟩)
def Ij (k:Int) (n:Nat):List Int:=(List.range n).map fun j:Nat=>k+(j:Int)
theorem iS (k:Int) (n:Nat):(Ij k n).length=n:=by simp[Ij]
def ju (k:Int) (l:List Int) (j:Nat):List Int:=Ij k j++l.drop j
theorem yT {k:Int} {l:List Int} {j:Nat} (h:j<=l.length):(ju k l j).length=l.length:=by simp[ju,iS];omega
theorem JZ {k:Int} {l:List Int} {j:Nat} (h:j<l.length):((ju k l j).map aw)[j]? =some [.int .i64 l[j]]:=by
 have h2:j<(ju k l j).length:=by rw[yT (by omega)];exact h
 have h3:(ju k l j)[j]'h2=l[j]:=by simp[ju,List.getElem_append,iS]
 rw[BA h2,h3]
theorem Hr {k:Int} {l:List Int} {j:Nat} (h:j<l.length):((ju k l j).map aw).set j [.int .i64 (k+(j:Int))]=(ju k l (j+1)).map aw:=by
 have h1:(ju k l j).set j (k+(j:Int))=ju k l (j+1):=by
  unfold ju
  rw[List.set_append_right _ _ (by rw[iS];omega),iS,Nat.sub_self]
  have h2:l.drop j=l[j]::l.drop (j+1):=List.drop_eq_getElem_cons h
  rw[h2,List.set_cons_zero]
  simp[Ij,List.range_succ]
 rw[<-h1,List.map_set];rfl
theorem F2 (i:Id) (l:List Int) (k:Int) (h0:0<=k) (h1:k+l.length<=4611686018427387904) (σ:ax) (hv:i.bj<σ.next) (hg:σ.get i=some ⟨true,1,l.map aw⟩):
  Call Tryz.prog 24 [.own i 0 l.length,.int .i64 k] σ (fun r σ'=>r=.int .i64 (k+l.length)/\qg σ [i] σ'.get σ'.next/\σ'.get i=some ⟨true,1,(Ij k l.length).map aw⟩):=by
 refine eZ eG rfl fun hl=>?_
 clear hl
 have hz:ju k l 0=l:=by simp[ju,Ij]
 (try((repeat(revert hN;revert N;apply Pn.out));refine wk @Nat.zero_add ?_;(repeat(refine Pn.mk ?_;intro N hN))))
 refine aM (fun n env st=>∃j:Nat,n=(l.length)-j/\j<=(l.length)/\env 5=.int .i64 (j:Int)/\env 1=.int .i64 (k+j)/\st.get i=some ⟨true,1,(ju k l j).map aw⟩/\(qg σ [i] st.get st.next)) (l.length) ⟨0,by omega,by omega,sl (tw @Int.add_zero (tw @Int.natCast_zero (tw @hz @hg))),sl (tw @Int.add_zero (tw @Int.natCast_zero (tw @hz @hg))),sl (tw @Int.add_zero (tw @Int.natCast_zero (tw @hz @hg))),by(try dsimp only);exact⟨by(try dsimp only);omega,fun x _ _=>rfl⟩⟩ ?_
 rintro n_a env_a st_a ⟨j,rfl,ale,a5,a1,ag0,j8⟩ di
 have a0:=di 0 (by kernel_rfl)
 simp only[go_sem, ↓reduceIte,Nat.reduceEqDiff,Nat.reduceAdd,Nat.reduceSub,Nat.reduceLeDiff,reduceCtorEq,Int.add_zero,Int.natCast_zero,hz,hg]at a0
 clear di
 obtain⟨an,aF⟩:=j8
 by_cases hj:(j:Int)<(l.length:Int)
 ·have cm:∀{e:Env} {gg:Rows} {nx:Nat},(e 5=.int .i64 (IntKind.i64.wrap ((j:Int)+1)))->(e 1=.int .i64 (k+(j+1)))->(gg i=some ⟨true,1,(ju k l (j+1)).map aw⟩)->(qg σ [i] gg nx)->∃m0,m0<(l.length)-j/\∃j:Nat,m0=(l.length)-j/\j<=(l.length)/\e 5=.int .i64 (j:Int)/\e 1=.int .i64 (k+j)/\gg i=some ⟨true,1,(ju k l j).map aw⟩/\(qg σ [i] gg nx):=fun x1 x2 x3 x4=>⟨_,by omega,j+1,rfl,by omega,(by rw[x1,ay (by omega)]),x2,x3,x4⟩
  have iy:j<l.length:=by omega
  have fa:=JZ (k:=k) iy
  have dW:=Hr (k:=k) iy
  have hw:IntKind.i64.wrap (k+(j:Int)+1)=k+((j:Int)+1):=by rw[br (by omega)];omega
  have hlen:((ju k l j).map aw).length=l.length:=by rw[List.length_map,yT (by omega)]
  (try((repeat(revert hN;revert N;apply Pn.out));refine wk (tw @a5 (tw @a1 (tw @ag0 (tw @a0 (tw @hj (tw @fa (tw @dW (tw @hw @hlen)))))))) ?_;(repeat(refine Pn.mk ?_;intro N hN))))
  refine cm ?_ ?_ ?_ (by(try dsimp only);exact⟨by(try dsimp only);omega,fun x hx hi=>by
   have h2:=aF x hx hi
   have h3:(x=i)=False:=eq_false fun e=>hi (by simp[e])
   simp only[go_sem, ↓reduceIte,Nat.reduceEqDiff,Nat.reduceAdd,Nat.reduceSub,Nat.reduceLeDiff,reduceCtorEq,h2,h3]⟩)
  all_goals simp only[go_sem, ↓reduceIte,Nat.reduceEqDiff,Nat.reduceAdd,Nat.reduceSub,Nat.reduceLeDiff,reduceCtorEq,a5,a1,ag0,a0,hw,dW]
 ·have iy:j=l.length:=by omega
  subst iy
  (try((repeat(revert hN;revert N;apply Pn.out));refine wk (tw @a5 (tw @a1 (tw @ag0 (tw @a0 @hj)))) ?_;(repeat(refine Pn.mk ?_;intro N hN))))
  have kK:ju k l l.length=Ij k l.length:=by simp[ju]
  rw[kK]at ag0
  exact fq (.inl rfl) (vs:=[.int .i64 (k+l.length)]) (sd (tw @a5 (tw @a1 (tw @ag0 @a0)))) ⟨rfl,⟨by(try dsimp only);omega,fun x hx hi=>aF x hx hi⟩,ag0⟩
theorem JW (k:Int) (σ:ax):Call Tryz.prog 24 [.cu,.int .i64 k] σ (fun r σ'=>r=.int .i64 k/\qg σ [] σ'.get σ'.next):=by
 refine eZ eG rfl fun hl=>?_
 clear hl
 (try((repeat(revert hN;revert N;apply Pn.out));refine wk @Nat.zero_add ?_;(repeat(refine Pn.mk ?_;intro N hN))))
 refine aM (fun n env st=>(env 1=.int .i64 k/\env 5=.int .i64 0/\env 0=.cu)/\σ.next<=st.next/\∀x:Id,st.get x=σ.get x) 0 ⟨⟨sd @Nat.zero_add,sd @Nat.zero_add,sd @Nat.zero_add⟩,by(try dsimp only);omega,fun _=>rfl⟩ ?_
 rintro m e st ⟨⟨a1,a5,a0⟩,an,aF⟩ -
 have d0:decide ((0:Int)<((0:Nat):Int))=false:=rfl
 (try((repeat(revert hN;revert N;apply Pn.out));refine wk (tw @a0 (tw @a1 (tw @a5 @d0))) ?_;(repeat(refine Pn.mk ?_;intro N hN))))
 exact fq (.inl rfl) (vs:=[.int .i64 k]) (sd @a1) ⟨rfl,⟨by(try dsimp only);omega,fun x hx hi=>aF x⟩⟩
theorem JX {v:AV} {L:List Int} {ids:List Id} (k:Int) (h0:0<=k) (h1:k+L.length<=4611686018427387904) (σ:ax) (hv:∀i∈ids,i.bj<σ.next) (h:rC aw 1 σ.get v L ids):
  Call Tryz.prog 24 [v,.int .i64 k] σ (fun r σ'=>r=.int .i64 (k+L.length)/\qg σ ids σ'.get σ'.next/\rC aw 1 σ'.get v (Ij k L.length) ids):=by
 rcases h with⟨rfl,rfl,rfl⟩|⟨o,rfl,h2,rfl,hp⟩
 ·refine aJ _ _ _ _ _ (fun r σ' hq=>?_) (JW k σ)
  obtain⟨rfl,hB⟩:=hq
  exact⟨by simp,hB,.inl ⟨rfl,rfl,rfl⟩⟩
 ·refine aJ _ _ _ _ _ (fun r σ' hq=>?_) (F2 o L k h0 h1 σ (hv o (by simp)) h2)
  obtain⟨rfl,hB,hg⟩:=hq
  exact⟨rfl,hB,.inr ⟨o,by rw[iS],hg,rfl,by rw[iS];exact hp⟩⟩
theorem PD (k:Int) {n j:Nat} (h:j<n):((Ij k n).map aw)[j]? =some [.int .i64 (k+(j:Int))]:=by
 simp[Ij,h,aw]
theorem LU (k:Int) (n:Nat) (h0:0<=k) (h1:k+n<=4611686018427387904):ar Tryz.prog 26 [.sl ((Ij k n).map aw),.int .i64 k] (.int .i64 (k+n)):=by
 refine ar.body eG rfl fun hl n0=>?_
 clear hl
 obtain⟨m,hm⟩:∃m,n=m:=⟨_,rfl⟩
 rw[hm]at h1 ⊢
 (try((repeat(revert hN;revert N;apply Pn.out));refine wk @iS ?_;(repeat(refine Pn.mk ?_;intro N hN))))
 refine aM (fun n env st=>∃j:Nat,n=(m)-j/\j<=(m)/\env 5=.int .i64 (j:Int)/\env 1=.int .i64 (k+j)) (m) ⟨0,by omega,by omega,sl (tw @Int.add_zero (tw @Int.natCast_zero @iS)),sl (tw @Int.add_zero (tw @Int.natCast_zero @iS))⟩ ?_
 rintro n_a env_a st_a ⟨j,rfl,ale,a5,a1⟩ di
 have a0:=di 0 (by kernel_rfl)
 simp only[go_sem, ↓reduceIte,Nat.reduceEqDiff,Nat.reduceAdd,Nat.reduceSub,Nat.reduceLeDiff,reduceCtorEq,Int.add_zero,Int.natCast_zero,iS]at a0
 clear di
 by_cases hj:(j:Int)<(m:Int)
 ·have cm:∀{e:Env},(e 5=.int .i64 (IntKind.i64.wrap ((j:Int)+1)))->(e 1=.int .i64 (k+(j+1)))->∃m0,m0<(m)-j/\∃j:Nat,m0=(m)-j/\j<=(m)/\e 5=.int .i64 (j:Int)/\e 1=.int .i64 (k+j):=fun x1 x2=>⟨_,by omega,j+1,rfl,by omega,(by rw[x1,ay (by omega)]),x2⟩
  have fa:=PD k (n:=m) (j:=j) (by omega)
  have hw:IntKind.i64.wrap (k+(j:Int)+1)=k+((j:Int)+1):=by rw[br (by omega)];omega
  have e1:decide (k+(j:Int)=k+(j:Int))=true:=decide_eq_true rfl
  (try((repeat(revert hN;revert N;apply Pn.out));refine wk (tw @a5 (tw @a1 (tw @a0 (tw @hj (tw @fa (tw @hw (tw @iS @e1))))))) ?_;(repeat(refine Pn.mk ?_;intro N hN))))
  refine cm ?_ ?_
  all_goals simp only[go_sem, ↓reduceIte,Nat.reduceEqDiff,Nat.reduceAdd,Nat.reduceSub,Nat.reduceLeDiff,reduceCtorEq,a5,a1,a0,hw]
 ·have iy:j=m:=by omega
  subst iy
  (try((repeat(revert hN;revert N;apply Pn.out));refine wk (tw @a5 (tw @a1 (tw @a0 (tw @hj @iS)))) ?_;(repeat(refine Pn.mk ?_;intro N hN))))
  exact cr (b:=k+(j:Int)) (.inl rfl) (sd (tw @a5 (tw @a1 @a0))) rfl
theorem BT {w:AV} (k:Int) (n:Nat) (h0:0<=k) (h1:k+n<=4611686018427387904) (hw:jJ aw (Ij k n) w):ar Tryz.prog 26 [w,.int .i64 k] (.int .i64 (k+n)):=
 (LU k n h0 h1).cut mixed (hw.cut (.same _ .nil))
theorem Dx {L:List Int} {v w:AV} (hv:jJ aw L v) (hw:jJ aw L w):ar Tryz.prog 20 [v,w] (.bool true):=by
 have h:=vQ L L
 rw[decide_eq_true rfl]at h
 exact h.cut mixed (hv.cut (hw.cut .nil))
theorem fz3 {g:Rows} {u v w u' v' w':AV} (h0:fz g 6 u=some u') (h1:fz g 6 v=some v') (h2:fz g 6 w=some w'):dd g 6 [u,v,w]=some [u',v',w']:=by
 simp only[aj,aq,h0,h1,h2,Option.map_some]
theorem FU {g:Rows} {i:Id} {ws:List Int} (h:g i=some ⟨true,1,ws.map aw⟩) (n:Nat):V.fz (dJ g) (n+2) (.own i 0 ws.length)=some (.sl (ws.map aw)):=
 fA (e:=aw) (sz:=1) (n:=n+1) (by simp[dJ,h]) rfl fun x=>by simp[aw,aj,aq,aH]
theorem Hk (Qn:aE->List Int->ev->List Int×Int×Int)
  (R6:∀s ws a,fV s.aB->rH s->ws.length<=1048576->a.ad.length<=1048576->∃w,jJ aw (Qn s ws a).1 w/\j7 Tryz.prog 15 [.agg (aD s),.sl (ws.map aw),.agg (aP a)] (.iD [w,.int .i64 (Qn s ws a).2.1,.int .i64 (Qn s ws a).2.2]))
  (RN:∀s ws a,fV s.aB->rH s->ws.length<=1048576->a.ad.length<=1048576->sV Tryz.prog 19 [.agg (aD s),.sl (ws.map aw),.agg (aP a)] (Qn s ws a))
  (hlen:∀s ws a,rH s->a.ad.length<=1048576->(Qn s ws a).1.length<=1152921504606846976)
  (s:aE) (ws:List Int) (a:ev) (hn:fV s.aB):ar Tryz.prog 3 [.agg (aD s),.sl (ws.map aw),.agg (aP a)] (.bool true):=by
 refine ar.body eG rfl fun hl n0=>?_
 clear hl
 have gY:(ws.map aw).length=ws.length:=by simp
 by_cases hb:(1048576:Int)<(ws.length:Int)
 ·(try((repeat(revert hN;revert N;apply Pn.out));refine wk (tw @aD.eq_1 (tw @aP.eq_1 (tw @gY @hb))) ?_;(repeat(refine Pn.mk ?_;intro N hN))))
  exact aQ (b:=true) (.inl rfl) (sd @Nat.zero_add) rfl
 have h1:=EY s 1048576 (by omega) (by omega) hn
 by_cases hf:(xq s:Int)<=1048576
 ·rw[iC hf]at h1
  have kI:¬(1048576:Int)-(xq s:Int)<0:=by omega
  have h2:=sF a (1048576-xq s) (by omega) (by omega)
  by_cases hg:(a.ad.length:Int)<=1048576-xq s
  ·rw[iC hg]at h2
   have FK:¬(1048576:Int)-(xq s:Int)-(a.ad.length:Int)<0:=by omega
   have sm:=HL (s:=s) (by omega)
   have am:a.ad.length<=1048576:=by omega
   have wm:ws.length<=1048576:=by omega
   have t1:=E5 s sm
   have t2:=sJ a am
   have t3:=CR ws wm
   obtain⟨w,hw,r1⟩:=R6 s ws a hn sm wm am
   have r2:=RN s ws a hn sm wm am
   have q1:=DD s
   have q2:=zA a
   have q3:=vQ ws ws
   rw[decide_eq_true rfl]at q3
   have hL:=hlen s ws a sm am
   obtain⟨⟨L,T,c⟩,hRe⟩:∃R,Qn s ws a=R:=⟨_,rfl⟩
   rw[hRe]at r1 r2 hw hL
   (try dsimp only at r1 hw hL)
   have JH:=fun σ=>E4 s sm σ
   have Sg:=fun σ=>sI a am σ
   have Js:=fun σ=>CQ ws wm σ
   rw[aD]at JH
   rw[aP]at Sg
   have e2:decide (c=c)=true:=by simp
   have e6:decide (T=T)=true:=by simp
   rw[aD]at h1
   rw[aP]at h2
   (repeat(first|((repeat(revert hN;revert N;apply Pn.out));refine wk (tw @aD.eq_1 (tw @aP.eq_1 (tw @gY (tw @hb (tw @kI @FK))))) ?_;(repeat(refine Pn.mk ?_;intro N hN)))|((try apply Or.inl);refine⟨_,ar.x (h1) (sd (tw @aD.eq_1 (tw @aP.eq_1 (tw @gY (tw @hb (tw @kI @FK)))))),?_⟩;refine hN _ _ ?_;clear hN N)|((try apply Or.inl);refine⟨_,ar.x (h2) (sd (tw @aD.eq_1 (tw @aP.eq_1 (tw @gY (tw @hb (tw @kI @FK)))))),?_⟩;refine hN _ _ ?_;clear hN N)))
   refine⟨_,j7.x (by rw[aD]at t1;exact t1) _,?_⟩
   refine hN _ _ ?_
   clear hN N
   (try((repeat(revert hN;revert N;apply Pn.out));refine wk @aP.eq_1 ?_;(repeat(refine Pn.mk ?_;intro N hN))))
   refine⟨_,j7.x (t3) _,?_⟩
   refine hN _ _ ?_
   clear hN N
   (try((repeat(revert hN;revert N;apply Pn.out));refine wk @Nat.zero_add ?_;(repeat(refine Pn.mk ?_;intro N hN))))
   refine⟨_,j7.x (by rw[aP]at t2;exact t2) _,?_⟩
   refine hN _ _ ?_
   clear hN N
   (try((repeat(revert hN;revert N;apply Pn.out));refine wk @Nat.zero_add ?_;(repeat(refine Pn.mk ?_;intro N hN))))
   refine⟨_,j7.x (by rw[aD,aP]at r1;exact r1) _,?_⟩
   refine hN _ _ ?_
   clear hN N
   (try((repeat(revert hN;revert N;apply Pn.out));refine wk @Nat.zero_add ?_;(repeat(refine Pn.mk ?_;intro N hN))))
   refine .inr (aJ _ _ _ _ _ (fun r σ1 hq=>?_) (JH _))
   obtain⟨iX,hX,LN,Rn⟩:=hq
   obtain⟨g1,x1⟩:=σ1
   (try dsimp only at hX LN Rn)
   obtain⟨A,B,C,j1,j2,j3,rfl,hA,hB,hC,rfl⟩:=hX.ex
   obtain⟨oA,rfl⟩:=hA.k7
   obtain⟨oB,rfl⟩:=hB.k7
   obtain⟨oC,rfl⟩:=hC.k7
   clear hA hB hC
   have nX:=Rn.1
   have bX:=LN.2
   (try dsimp only at nX bX)
   have kA:=Rn.2 ⟨3000000,n0⟩ (by(try dsimp only);omega)
   have kB:=Rn.2 ⟨3000001,n0⟩ (by(try dsimp only);omega)
   simp only[go_sem, ↓reduceIte,Nat.reduceEqDiff,Nat.reduceAdd,Nat.reduceSub,Nat.reduceLeDiff,reduceCtorEq]at kA kB
   refine hN _ _ ?_
   clear hN N
   (try((repeat(revert hN;revert N;apply Pn.out));refine wk (tw @kA @kB) ?_;(repeat(refine Pn.mk ?_;intro N hN))))
   refine .inr (aJ _ _ _ _ _ (fun r σ2 hq=>?_) (Js _))
   obtain⟨iI,rfl,Qs,OM,ON⟩:=hq
   obtain⟨g2,x2⟩:=σ2
   (try dsimp only at Qs OM ON)
   have nI:=ON.1
   have bI:=OM.2 iI (by simp)
   (try dsimp only at nI bI)
   have jA:=ON.2 ⟨3000000,n0⟩ (by(try dsimp only);omega)
   have jB:=ON.2 ⟨3000001,n0⟩ (by(try dsimp only);omega)
   have jX:=ON.2 ⟨3011002,x1⟩ (by(try dsimp only);omega)
   have vA0:=dB (i:=⟨3000000,n0⟩) (n:=x1) (by(try dsimp only);omega)
   have vB0:=dB (i:=⟨3000001,n0⟩) (n:=x1) (by(try dsimp only);omega)
   simp only[go_sem, ↓reduceIte,Nat.reduceEqDiff,Nat.reduceAdd,Nat.reduceSub,Nat.reduceLeDiff,reduceCtorEq,kA,kB,vA0,vB0]at jA jB jX
   have hX1:=hX.frame (g':=g2) fun i hi=>by
    have h3:=bX i hi
    have h4:=ON.2 i (by(try dsimp only);omega)
    have h5:=dB (i:=i) (n:=x1) (by omega)
    simp only[go_sem, ↓reduceIte,Nat.reduceEqDiff,Nat.reduceAdd,Nat.reduceSub,Nat.reduceLeDiff,reduceCtorEq,h5]at h4
    exact h4
   clear hX Rn ON kA kB
   refine hN _ _ ?_
   clear hN N
   (try((repeat(revert hN;revert N;apply Pn.out));refine wk (tw @jA (tw @jB @jX)) ?_;(repeat(refine Pn.mk ?_;intro N hN))))
   refine .inr (aJ _ _ _ _ _ (fun r σ3 hq=>?_) (Sg _))
   obtain⟨iY,hY0,Rk,Nv⟩:=hq
   obtain⟨g3,x3⟩:=σ3
   (try dsimp only at hY0 Rk Nv)
   obtain⟨D,rfl,hD⟩:=hY0
   obtain⟨oD,rfl⟩:=hD.k7
   have hY:zh g3 (.agg [.own oD 0 a.ad.length]) a iY:=⟨_,rfl,hD⟩
   have nY:=Nv.1
   have bY:=Rk.2
   (try dsimp only at nY bY)
   have lA:=(Nv.2 ⟨3000000,n0⟩ (by(try dsimp only);omega)).trans jA
   have lB:=(Nv.2 ⟨3000001,n0⟩ (by(try dsimp only);omega)).trans jB
   have lX:=(Nv.2 ⟨3011002,x1⟩ (by(try dsimp only);omega)).trans jX
   have lI:=(Nv.2 iI (by(try dsimp only);omega)).trans Qs
   (try dsimp only at lA lB lX lI)
   have UK:=hX1.frame (g':=g3) fun i hi=>Nv.2 i (by have:=bX i hi;(try dsimp only);omega)
   clear hX1 Nv hD jA jB jX
   refine hN _ _ ?_
   clear hN N
   have uI:=dB (i:=iI) (n:=x3) (by(try dsimp only);omega)
   have uX:=dB (i:=⟨3011002,x1⟩) (n:=x3) (by(try dsimp only);omega)
   (try((repeat(revert hN;revert N;apply Pn.out));refine wk (tw @lA (tw @lB (tw @lX @uX))) ?_;(repeat(refine Pn.mk ?_;intro N hN))))
   refine .inr (aJ _ _ _ _ _ (fun r σ4 hq=>?_) (r2.new mixed (fz3 ((UK.frame fun i hi=>by
    have h5:=dB (i:=i) (n:=x3) (by have:=bX i hi;omega)
    simp only[go_sem, ↓reduceIte,Nat.reduceEqDiff,Nat.reduceAdd,Nat.reduceSub,Nat.reduceLeDiff,reduceCtorEq,h5]).fz 1) (FU (sd (tw @lI @uI)) 4) ((hY.frame fun i hi=>by
    have h5:=dB (i:=i) (n:=x3) (by have:=bY i hi;omega)
    simp only[go_sem, ↓reduceIte,Nat.reduceEqDiff,Nat.reduceAdd,Nat.reduceSub,Nat.reduceLeDiff,reduceCtorEq,h5]).fz 2))))
   obtain⟨v,iZ,rfl,hZ,Tc,LO⟩:=hq
   obtain⟨g4,x4⟩:=σ4
   (try dsimp only at hZ Tc LO)
   have nZ:=LO.1
   have bZ:=Tc.2
   (try dsimp only at nZ bZ)
   have wA:=dB (i:=⟨3000000,n0⟩) (n:=x3) (by(try dsimp only);omega)
   have wB:=dB (i:=⟨3000001,n0⟩) (n:=x3) (by(try dsimp only);omega)
   have mA:=LO.2 ⟨3000000,n0⟩ (by(try dsimp only);omega)
   have mB:=LO.2 ⟨3000001,n0⟩ (by(try dsimp only);omega)
   have mX:=LO.2 ⟨3011002,x1⟩ (by(try dsimp only);omega)
   have mY:=LO.2 ⟨3013002,x3⟩ (by(try dsimp only);omega)
   have mI:=LO.2 iI (by(try dsimp only);omega)
   simp only[go_sem, ↓reduceIte,Nat.reduceEqDiff,Nat.reduceAdd,Nat.reduceSub,Nat.reduceLeDiff,reduceCtorEq,lA,lB,lX,lI,wA,wB,uX,uI]at mA mB mX mY mI
   have fr3:∀i:Id,i.bj<x3->g4 i=g3 i:=fun i hi=>by
    have h4:=LO.2 i (by(try dsimp only);omega)
    have h5:=dB (i:=i) (n:=x3) hi
    simp only[go_sem, ↓reduceIte,Nat.reduceEqDiff,Nat.reduceAdd,Nat.reduceSub,Nat.reduceLeDiff,reduceCtorEq,h5]at h4
    exact h4
   have UL:=UK.frame (g':=g4) fun i hi=>fr3 i (by have:=bX i hi;omega)
   have UM:=hY.frame (g':=g4) fun i hi=>fr3 i (by have:=bY i hi;omega)
   clear UK hY LO lA lB lX lI
   obtain⟨wv,qm,O4⟩:=hZ.fz fun x g=>by simp[aw,aj,aq,aH]
   refine hN _ _ ?_
   clear hN N
   (try((repeat(revert hN;revert N;apply Pn.out));refine wk (tw @mA (tw @mB (tw @mX @mY))) ?_;(repeat(refine Pn.mk ?_;intro N hN))))
   refine .inl ⟨_,ar.x (Dx O4 hw) (tE qm (hw.fz _)),?_⟩
   refine hN _ _ ?_
   clear hN N
   (try((repeat(revert hN;revert N;apply Pn.out));refine wk (tw @mA (tw @mB (tw @mX (tw @mY (tw @e2 @e6))))) ?_;(repeat(refine Pn.mk ?_;intro N hN))))
   refine⟨_,j7.x (by rw[aD]at t1;exact t1) _,?_⟩
   refine hN _ _ ?_
   clear hN N
   (try((repeat(revert hN;revert N;apply Pn.out));refine wk (tw @mA (tw @mB (tw @mX (tw @mY (tw @e2 @e6))))) ?_;(repeat(refine Pn.mk ?_;intro N hN))))
   refine⟨_,ar.x (by rw[aD]at q1;exact q1) (by rw[<-aD];exact M3 UL (Fv _ _)),?_⟩
   refine hN _ _ ?_
   clear hN N
   (try((repeat(revert hN;revert N;apply Pn.out));refine wk (tw @mA (tw @mB (tw @mX (tw @mY (tw @e2 @e6))))) ?_;(repeat(refine Pn.mk ?_;intro N hN))))
   refine .inl ⟨_,j7.x (t3) _,?_⟩
   refine hN _ _ ?_
   clear hN N
   (try((repeat(revert hN;revert N;apply Pn.out));refine wk (tw @mA (tw @mB (tw @mX (tw @mY (tw @e2 @e6))))) ?_;(repeat(refine Pn.mk ?_;intro N hN))))
   refine .inl ⟨_,ar.x q3 (tE (FU mI 4) (ck _ _ _)),?_⟩
   refine hN _ _ ?_
   clear hN N
   (try((repeat(revert hN;revert N;apply Pn.out));refine wk (tw @mA (tw @mB (tw @mX (tw @mY (tw @e2 @e6))))) ?_;(repeat(refine Pn.mk ?_;intro N hN))))
   refine⟨_,j7.x (by rw[aP]at t2;exact t2) _,?_⟩
   refine hN _ _ ?_
   clear hN N
   (try((repeat(revert hN;revert N;apply Pn.out));refine wk (tw @mA (tw @mB (tw @mX (tw @mY (tw @e2 @e6))))) ?_;(repeat(refine Pn.mk ?_;intro N hN))))
   refine⟨_,ar.x (by rw[aP]at q2;exact q2) (by rw[<-aP];exact Lp UM (Fu _ _)),?_⟩
   refine hN _ _ ?_
   clear hN N
   (try((repeat(revert hN;revert N;apply Pn.out));refine wk (tw @mA (tw @mB (tw @mX (tw @mY (tw @e2 @e6))))) ?_;(repeat(refine Pn.mk ?_;intro N hN))))
   have O5:=Mv s
   have hns:=LN.not (x:=⟨3000000,n0⟩) (by(try dsimp only);omega)
   have hnt:=LN.not (x:=⟨3000001,n0⟩) (by(try dsimp only);omega)
   refine .inr (aJ _ _ _ _ _ (fun r σ5 hq=>?_) (Hq _ s _ 1 (by omega) sm.s.t (by omega) _ (fun i hi=>by have:=bX i hi;(try dsimp only);omega) LN.1 UL))
   obtain⟨rfl,hM⟩:=hq
   obtain⟨g5,x5⟩:=σ5
   (try dsimp only at hM)
   have nM:=hM.1
   (try dsimp only at nM)
   have pA:=(hM.2 ⟨3000000,n0⟩ (by(try dsimp only);omega) hns).trans mA
   have pB:=(hM.2 ⟨3000001,n0⟩ (by(try dsimp only);omega) hnt).trans mB
   have pY:=(hM.2 ⟨3013002,x3⟩ (by(try dsimp only);omega) (LN.not (by(try dsimp only);omega))).trans mY
   have pI:=(hM.2 iI (by(try dsimp only);omega) (LN.not (by(try dsimp only);omega))).trans mI
   have hY4:=UM.frame (g':=g5) fun i hi=>hM.2 i (by have:=bY i hi;(try dsimp only);omega) (LN.not (by have:=bY i hi;omega))
   have hZ4:=hZ.frame (g':=g5) fun i hi=>hM.2 i (by have:=bZ i hi;(try dsimp only);omega) (LN.not (by have:=bZ i hi;omega))
   clear hM UL UM hZ mA mB mX mY mI qm
   refine hN _ _ ?_
   clear hN N
   (try((repeat(revert hN;revert N;apply Pn.out));refine wk (tw @pA (tw @pB @pY)) ?_;(repeat(refine Pn.mk ?_;intro N hN))))
   refine .inr (aJ _ _ _ _ _ (fun r σ6 hq=>?_) (F2 iI ws (1+Ab s) (by omega) (by omega) _ (by(try dsimp only);omega) pI))
   obtain⟨rfl,hM,_⟩:=hq
   obtain⟨g6,x6⟩:=σ6
   (try dsimp only at hM)
   have nO:=hM.1
   (try dsimp only at nO)
   have VL:=(hM.2 ⟨3000000,n0⟩ (by(try dsimp only);omega) (OM.not (by(try dsimp only);omega))).trans pA
   have VM:=(hM.2 ⟨3000001,n0⟩ (by(try dsimp only);omega) (OM.not (by(try dsimp only);omega))).trans pB
   have oY':=(hM.2 ⟨3013002,x3⟩ (by(try dsimp only);omega) (OM.not (by(try dsimp only);omega))).trans pY
   have hY5:=hY4.frame (g':=g6) fun i hi=>hM.2 i (by have:=bY i hi;(try dsimp only);omega) (OM.not (by have:=bY i hi;omega))
   have hZ5:=hZ4.frame (g':=g6) fun i hi=>hM.2 i (by have:=bZ i hi;(try dsimp only);omega) (OM.not (by have:=bZ i hi;omega))
   clear hM hY4 hZ4 pA pB pY pI
   refine hN _ _ ?_
   clear hN N
   (try((repeat(revert hN;revert N;apply Pn.out));refine wk (tw @VL (tw @VM @oY')) ?_;(repeat(refine Pn.mk ?_;intro N hN))))
   refine .inr (aJ _ _ _ _ _ (fun r σ7 hq=>?_) (yR _ a _ (1+Ab s+ws.length) (by omega) (by omega) _ (fun i hi=>by have:=bY i hi;(try dsimp only);omega) hY5))
   obtain⟨rfl,hM⟩:=hq
   obtain⟨g7,x7⟩:=σ7
   (try dsimp only at hM)
   have nN:=hM.1
   (try dsimp only at nN)
   have rA:=(hM.2 ⟨3000000,n0⟩ (by(try dsimp only);omega) (Rk.not (by(try dsimp only);omega))).trans VL
   have rB:=(hM.2 ⟨3000001,n0⟩ (by(try dsimp only);omega) (Rk.not (by(try dsimp only);omega))).trans VM
   have UN:=hZ5.frame (g':=g7) fun i hi=>hM.2 i (by have:=bZ i hi;(try dsimp only);omega) (Rk.not (by have:=bZ i hi;omega))
   clear hM hY5 hZ5 VL VM oY'
   obtain⟨wv5,qm,O4⟩:=UN.fz fun x g=>by simp[aw,aj,aq,aH]
   have e3:decide (1+(Ab s:Int)+(ws.length:Int)+3*(a.ad.length:Int)<0)=false:=decide_eq_false (by omega)
   refine hN _ _ ?_
   clear hN N
   (try((repeat(revert hN;revert N;apply Pn.out));refine wk (tw @rA (tw @rB @e3)) ?_;(repeat(refine Pn.mk ?_;intro N hN))))
   refine .inl ⟨_,ar.x (Dx O4 hw) (tE qm (hw.fz _)),?_⟩
   refine hN _ _ ?_
   clear hN N
   (try((repeat(revert hN;revert N;apply Pn.out));refine wk (tw @rA (tw @rB (tw @e2 (tw @e3 @e6)))) ?_;(repeat(refine Pn.mk ?_;intro N hN))))
   refine .inr (aJ _ _ _ _ _ (fun r σ8 hq=>?_) (JX 1 (by omega) (by omega) _ (fun i hi=>by have:=bZ i hi;(try dsimp only);omega) UN))
   obtain⟨rfl,hM,hZ7⟩:=hq
   obtain⟨g8,x8⟩:=σ8
   (try dsimp only at hM hZ7)
   have sA:=(hM.2 ⟨3000000,n0⟩ (by(try dsimp only);omega) (Tc.not (by(try dsimp only);omega))).trans rA
   have sB:=(hM.2 ⟨3000001,n0⟩ (by(try dsimp only);omega) (Tc.not (by(try dsimp only);omega))).trans rB
   clear hM UN rA rB qm O4
   obtain⟨wv6,qm,O4⟩:=hZ7.fz fun x g=>by simp[aw,aj,aq,aH]
   have e4:decide (1+(L.length:Int)<0)=false:=decide_eq_false (by omega)
   have e5:decide (1+(L.length:Int)=1+(L.length:Int))=true:=decide_eq_true rfl
   refine hN _ _ ?_
   clear hN N
   (try((repeat(revert hN;revert N;apply Pn.out));refine wk (tw @sA @sB) ?_;(repeat(refine Pn.mk ?_;intro N hN))))
   refine .inl ⟨_,ar.x (BT 1 L.length (by omega) (by omega) O4) (tE qm (aH _ _ _ _)),?_⟩
   refine hN _ _ ?_
   clear hN N
   (try((repeat(revert hN;revert N;apply Pn.out));refine wk (tw @sA (tw @sB (tw @e4 @e5))) ?_;(repeat(refine Pn.mk ?_;intro N hN))))
   refine⟨_,j7.x (by rw[aD]at t1;exact t1) _,?_⟩
   refine hN _ _ ?_
   clear hN N
   (try((repeat(revert hN;revert N;apply Pn.out));refine wk (tw @sA (tw @sB (tw @e4 @e5))) ?_;(repeat(refine Pn.mk ?_;intro N hN))))
   refine⟨_,j7.x (t3) _,?_⟩
   refine hN _ _ ?_
   clear hN N
   (try((repeat(revert hN;revert N;apply Pn.out));refine wk (tw @sA (tw @sB (tw @e4 @e5))) ?_;(repeat(refine Pn.mk ?_;intro N hN))))
   refine⟨_,j7.x (by rw[aP]at t2;exact t2) _,?_⟩
   refine hN _ _ ?_
   clear hN N
   (try((repeat(revert hN;revert N;apply Pn.out));refine wk (tw @sA (tw @sB (tw @e4 @e5))) ?_;(repeat(refine Pn.mk ?_;intro N hN))))
   refine⟨_,ar.x (by have h:=r2.s;rw[aD,aP]at h;exact h) (fz3 (by rw[<-aD];exact Fv _ _) (ck _ _ _) (by rw[<-aP];exact Fu _ _)),?_⟩
   refine hN _ _ ?_
   clear hN N
   (try((repeat(revert hN;revert N;apply Pn.out));refine wk (tw @e2 @e6) ?_;(repeat(refine Pn.mk ?_;intro N hN))))
   refine .inl ⟨_,ar.x (Dx Cy hw) (tE (Cy.fz _) (hw.fz _)),?_⟩
   refine hN _ _ ?_
   clear hN N
   (try((repeat(revert hN;revert N;apply Pn.out));refine wk (tw @e2 @e6) ?_;(repeat(refine Pn.mk ?_;intro N hN))))
   refine .inl ⟨_,ar.x (BT 1 L.length (by omega) (by omega) O4) (tE qm (aH _ _ _ _)),?_⟩
   refine hN _ _ ?_
   clear hN N
   (try((repeat(revert hN;revert N;apply Pn.out));refine wk (tw @e4 @e5) ?_;(repeat(refine Pn.mk ?_;intro N hN))))
   exact aQ (b:=true) (.inl rfl) (sd @Nat.zero_add) rfl
  ·rw[iL hg]at h2
   rw[aD]at h1
   rw[aP]at h2
   (repeat(first|((repeat(revert hN;revert N;apply Pn.out));refine wk (tw @aD.eq_1 (tw @aP.eq_1 (tw @gY (tw @hb @kI)))) ?_;(repeat(refine Pn.mk ?_;intro N hN)))|((try apply Or.inl);refine⟨_,ar.x (h1) (sd (tw @aD.eq_1 (tw @aP.eq_1 (tw @gY (tw @hb @kI))))),?_⟩;refine hN _ _ ?_;clear hN N)|((try apply Or.inl);refine⟨_,ar.x (h2) (sd (tw @aD.eq_1 (tw @aP.eq_1 (tw @gY (tw @hb @kI))))),?_⟩;refine hN _ _ ?_;clear hN N)))
   exact aQ (b:=true) (.inl rfl) (sd @Nat.zero_add) rfl
 ·rw[iL hf]at h1
  rw[aD]at h1
  (repeat(first|((repeat(revert hN;revert N;apply Pn.out));refine wk (tw @aD.eq_1 (tw @aP.eq_1 (tw @gY @hb))) ?_;(repeat(refine Pn.mk ?_;intro N hN)))|((try apply Or.inl);refine⟨_,ar.x (h1) (sd (tw @aD.eq_1 (tw @aP.eq_1 (tw @gY @hb)))),?_⟩;refine hN _ _ ?_;clear hN N)))
  exact aQ (b:=true) (.inl rfl) (sd @Nat.zero_add) rfl
end Go.Proofs.YtgoljkjaameagaaGreat.V

namespace Go.Proofs.YtgoljkjaameagaaGreat
open Go.ChangeShapes Go.WideShapes Go.ChangeAt Go.RowKit Go.Deep
section
variable {H:Type} {enc:TypeId×Value->H} {P:Program} {w:World}
theorem mV.Sv {α:Type} {rep:World->List Nat->List Value->α->Prop} {sz:Nat} {w:World} {b o len cap:Nat} (oN:Nat->List Value) (fs:Nat->List Nat) (ds:Nat->α) (hc:len<=cap) (hm:cap<=maxLen)
  (hl:∀i,i<len->(oN i).length=sz) (hr:∀i,i<len->rep w (fs i) (oN i) (ds i)) (AS:∀i,i<len->∀j u,(oN i)[j]? =some u->w.cell? ⟨b,o+(i*sz+j),none⟩=some u):
  mV rep sz w ([b]++((List.range len).map fs).flatten) (.slice (some ⟨b,o,none⟩) len cap) ((List.range len).map ds):=by
 refine⟨(List.range len).map oN,(List.range len).map fs,[b],rfl,⟨some ⟨b,o,none⟩,cap,by simp,by simpa using hc,hm,.inr ⟨b,o,rfl,rfl,fun j u hj=>?_⟩⟩,by simp,by simp,fun i cs f d h1 h2 h3=>?_⟩
 ·have hlen:∀cs∈(List.range len).map oN,cs.length=sz:=fun cs dw=>by
   obtain⟨i,hi,rfl⟩:=List.mem_map.1 dw
   exact hl i (List.mem_range.1 hi)
  have gM:=(List.getElem?_eq_some_iff.1 hj).1
  have G0:((List.range len).map oN).flatten.length=len*sz:=by
   rw[List.length_flatten,List.map_map]
   have:∀(l:List Nat),(∀i∈l,i<len)->(l.map (List.length∘oN)).sum=l.length*sz:=by
    intro l
    induction l with
    |nil=>intro _;simp
    |cons a l ih=>intro h;rw[List.map_cons,List.sum_cons,ih fun i hi=>h i (List.mem_cons_of_mem _ hi)];simp only[Function.comp,hl a (h a (by simp)),List.length_cons,Nat.add_mul];omega
   rw[this _ fun i hi=>List.mem_range.1 hi,List.length_range]
  rw[G0]at gM
  have NI:0<sz:=by
   rcases Nat.eq_zero_or_pos sz with h|h
   ·subst h;simp at gM
   ·exact h
  have hi:j / sz<len:=(Nat.div_lt_iff_lt_mul NI).2 gM
  have NF:j % sz<sz:=Nat.mod_lt _ NI
  have LV:j=(j / sz)*sz+j % sz:=by rw[Nat.mul_comm];exact(Nat.div_add_mod j sz).symm
  rw[LV,tQ hlen (i:=j / sz) (cs:=oN (j / sz)) (by simp[hi]) NF]at hj
  rw[LV]
  have:=AS (j / sz) hi (j % sz) u hj
  rw[<-LV]at this ⊢
  exact this
 ·have hi:i<len:=by
   have:=(List.getElem?_eq_some_iff.1 h1).1
   simpa using this
  simp[hi]at h1 h2 h3
  subst h1 h2 h3
  exact⟨hr i hi,hl i hi⟩
theorem ko (b o k:Nat):(⟨b,o,none⟩:Addr).add k=⟨b,o+k,none⟩:=by
 unfold Addr.add;split
 ·rename_i h;subst h;rfl
 ·rfl
theorem pS {α:Type} {rep:World->List Nat->List Value->α->Prop} {Q:α->Prop} {t e:TypeId} {sz fuel:Nat} {cs:List Value} {x:DataW H×List MemPlace} (ht:P.underlying t=some (.slice e)) (hC:P.cellsOf e=sz) (NI:0<sz)
  (h:DataW.trod enc P w 0 (fun _=>true) true fuel t cs=some x) (hel:∀n ql y,ql.length=sz->DataW.trod enc P w 0 (fun _=>true) true n e ql=some y->∃f d,fG f 0 w.heap.size/\rep w f ql d/\Q d):
  ∃A n c f xs,cs=[.slice A n c]/\fG f 0 w.heap.size/\mV rep sz w f (.slice A n c) xs/\∀d∈xs,Q d:=by
 rcases open_slice ht h with⟨rfl,_⟩|⟨a,len,cap,m,n,D,Pl,rfl,_,hl,hm,LY,_,hi⟩
 ·exact⟨none,0,0,[],[],rfl,fG.nil _ _,mV.nil _ _ _,fun d h=>by cases h⟩
 rw[hC]at hi
 simp only[if_true]at LY
 by_cases h0:len=0
 ·subst h0
  exact⟨some a,0,cap,[],[],rfl,fG.nil _ _,⟨[],[],[],rfl,⟨some a,cap,rfl,Nat.zero_le _,hm,.inl ⟨rfl,rfl⟩⟩,rfl,rfl,fun i cs f d hc=>by simp at hc⟩,fun d h=>by cases h⟩
 obtain⟨b,o,sp⟩:=a
 have cell0:∃v,w.cell? ⟨b,o,sp⟩=some v:=by
  obtain⟨ql,hc,_⟩:=hi 0 (by omega)
  obtain⟨_,og,AS⟩:=World.cells?_some hc
  refine⟨ql[0]'(by omega),?_⟩
  have:=AS 0 NI
  rw[List.getElem?_eq_getElem (by omega)]at this
  simpa[Addr.add]using this
 obtain⟨v0,qS⟩:=cell0
 have hb:b<w.heap.size:=World.block_lt_of_cell? w _ qS
 have Pk:sp=none:=by
  unfold World.cell? at qS
  split at qS
  ·split at qS
   ·cases qS
   ·rename_i h;simpa using h
  ·cases qS
 subst Pk
 have key:∀i,i<len->∃ql f d,ql.length=sz/\fG f 0 w.heap.size/\rep w f ql d/\Q d/\∀j u,ql[j]? =some u->w.cell? ⟨b,o+(i*sz+j),none⟩=some u:=fun i nR=>by
  obtain⟨ql,hc,htr⟩:=hi i (by omega)
  obtain⟨_,og,AS⟩:=World.cells?_some hc
  obtain⟨f,d,h1,h2,h3⟩:=hel n ql _ og htr
  refine⟨ql,f,d,og,h1,h2,h3,fun j u hj=>?_⟩
  have gM:=(List.getElem?_eq_some_iff.1 hj).1
  have:=AS j (by omega)
  rw[hj]at this
  rw[<-this,Go.Deep.add_add,ko]
 have:Nonempty α:=by
  obtain⟨_,_,d,_⟩:=key 0 (by omega)
  exact⟨d⟩
 let cf:Nat->List Value:=fun i=>if hi:i<len then(key i hi).choose else[]
 let ff:Nat->List Nat:=fun i=>if hi:i<len then(key i hi).choose_spec.choose else[]
 let df:Nat->α:=fun i=>if hi:i<len then(key i hi).choose_spec.choose_spec.choose else Classical.choice this
 have dE:∀i,i<len->(cf i).length=sz/\fG (ff i) 0 w.heap.size/\rep w (ff i) (cf i) (df i)/\Q (df i)/\∀j u,(cf i)[j]? =some u->w.cell? ⟨b,o+(i*sz+j),none⟩=some u:=fun i hi=>by
  have:=(key i hi).choose_spec.choose_spec.choose_spec
  simp only[cf,ff,df,dif_pos hi]
  exact this
 refine⟨some ⟨b,o,none⟩,len,cap,_,(List.range len).map df,rfl,?_,mV.Sv cf ff df hl hm (fun i hi=>(dE i hi).1) (fun i hi=>(dE i hi).2.2.1) (fun i hi=>(dE i hi).2.2.2.2),fun d hd=>?_⟩
 ·intro x hx
  rcases List.mem_append.1 hx with hx|hx
  ·simp at hx;subst hx;exact⟨Nat.zero_le _,hb⟩
  ·obtain⟨l,yE,QO⟩:=List.mem_flatten.1 hx
   obtain⟨i,hi,rfl⟩:=List.mem_map.1 yE
   exact(dE i (List.mem_range.1 hi)).2.1 x QO
 ·obtain⟨i,hi,rfl⟩:=List.mem_map.1 hd
  exact(dE i (List.mem_range.1 hi)).2.2.2.1
end
section
variable {H:Type} {enc:TypeId×Value->H} {w:World} {fuel:Nat} {cs:List Value} {x:DataW H×List MemPlace}
abbrev TT (enc:TypeId×Value->H) (w:World) (fuel t:Nat) (cs:List Value) (x:DataW H×List MemPlace):Prop:=DataW.trod enc Tryz.prog w 0 (fun _=>true) true fuel t cs=some x
theorem J9 (h:TT enc w fuel 31 cs x):∃A n c f xs,cs=[.slice A n c]/\fG f 0 w.heap.size/\rF w f (.slice A n c) xs:=by
 obtain⟨A,n,c,f,xs,h1,h2,h3,_⟩:=pS (rep:=Fh) (Q:=fun _=>True) Tryz.underlying31 (sz:=1) (by kernel_rfl) (by omega) h fun n ql y hl hy=>by
  obtain⟨b,rfl,_⟩:=DataW.trod_int Tryz.underlying2 hy
  exact⟨[],b,fG.nil _ _,⟨rfl,rfl⟩,trivial⟩
 exact⟨A,n,c,f,xs,h1,h2,h3⟩
theorem nv {t:TypeId} {fs:Array Field} (ht:Tryz.prog.underlying t=some (.struct fs)) (h:TT enc w fuel t cs x):cs.length=Tryz.prog.cellsOf t/\∃n,∀(i:Nat) (f:Field),fs[i]? =some f->∃y,TT enc w n f.type ((cs.drop f.offset).take (Tryz.prog.cellsOf f.type)) y:=by
 obtain⟨xs,n,_,_,hl,QO,hf⟩:=DataW.trod_struct ht h
 refine⟨hl,n,fun i f hi=>?_⟩
 have nR:i<xs.length:=by rw[QO];exact(Array.getElem?_eq_some_iff.1 hi).1
 exact⟨xs[i],(hf i f hi).trans (List.getElem?_eq_getElem nR)⟩
theorem Sp {l:List Value} (h:l.length=2):∃a b,l=[a,b]:=by
 match l,h with
 |[a,b],_=>exact⟨a,b,rfl⟩
theorem VJ {l:List Value} (h:l.length=3):∃a b c,l=[a,b,c]:=by
 match l,h with
 |[a,b,c],_=>exact⟨a,b,c,rfl⟩
theorem VI {l:List Value} (h:l.length=1):∃a,l=[a]:=by
 match l,h with
 |[a],_=>exact⟨a,rfl⟩
theorem VK {l:List Value} (h:l.length=4):∃a b c d,l=[a,b,c,d]:=by
 match l,h with
 |[a,b,c,d],_=>exact⟨a,b,c,d,rfl⟩
theorem MC (h:TT enc w fuel 22 cs x):∃A n c f xs,cs=[.slice A n c]/\fG f 0 w.heap.size/\rE w f (.slice A n c) xs/\∀d∈xs,d.aG.size<=9223372036854775807:=by
 exact pS (rep:=Iy) (Q:=fun d=>d.aG.size<=9223372036854775807) Tryz.underlying22 (sz:=2) (by kernel_rfl) (by omega) h fun n ql y hl hy=>by
  obtain⟨_,m,hf⟩:=nv Tryz.underlying247 hy
  obtain⟨a,b,rfl⟩:=Sp hl
  ·skip
   obtain⟨y0,h0⟩:=hf 0 _ rfl
   obtain⟨y1,h1⟩:=hf 1 _ rfl
   rw[show Tryz.prog.cellsOf _=1 from by kernel_rfl]at h0 h1
   obtain⟨p,e0,_,ws⟩:=DataW.trod_string Tryz.underlying9 h0
   obtain⟨q,e1,_⟩:=DataW.trod_int Tryz.underlying2 h1
   simp at e0 e1
   subst e0 e1
   exact⟨[],⟨p,q⟩,fG.nil _ _,⟨rfl,rfl⟩,by simpa[maxLen]using ws⟩
theorem MD (h:TT enc w fuel 23 cs x):∃A n c f xs,cs=[.slice A n c]/\fG f 0 w.heap.size/\rG w f (.slice A n c) xs/\∀d∈xs,d.aG.size<=9223372036854775807:=by
 exact pS (rep:=Iz) (Q:=fun d=>d.aG.size<=9223372036854775807) Tryz.underlying23 (sz:=2) (by kernel_rfl) (by omega) h fun n ql y hl hy=>by
  obtain⟨_,m,hf⟩:=nv Tryz.underlying250 hy
  obtain⟨a,b,rfl⟩:=Sp hl
  ·skip
   obtain⟨y0,h0⟩:=hf 0 _ rfl
   obtain⟨y1,h1⟩:=hf 1 _ rfl
   rw[show Tryz.prog.cellsOf _=1 from by kernel_rfl]at h0 h1
   obtain⟨p,e0,_,ws⟩:=DataW.trod_string Tryz.underlying9 h0
   obtain⟨A1,n1,c1,f1,SL,e1,k1,s1⟩:=J9 h1
   simp at e0 e1
   subst e0 e1
   exact⟨_,⟨p,SL⟩,k1,⟨_,f1,rfl,rfl,s1⟩,by simpa[maxLen]using ws⟩
theorem Hw (h:TT enc w fuel 26 cs x):∃A n c f xs,cs=[.slice A n c]/\fG f 0 w.heap.size/\jc w f (.slice A n c) xs:=by
 obtain⟨A,n,c,f,xs,h1,h2,h3,_⟩:=pS (rep:=Bb) (Q:=fun _=>True) Tryz.underlying26 (sz:=3) (by kernel_rfl) (by omega) h fun n ql y hl hy=>by
  obtain⟨_,m,hf⟩:=nv Tryz.underlying208 hy
  obtain⟨a,b,c,rfl⟩:=VJ hl
  ·skip
   obtain⟨y0,h0⟩:=hf 0 _ rfl
   obtain⟨y1,h1⟩:=hf 1 _ rfl
   rw[show Tryz.prog.cellsOf _=2 from by kernel_rfl]at h0
   rw[show Tryz.prog.cellsOf _=1 from by kernel_rfl]at h1
   obtain⟨_,m2,GY⟩:=nv Tryz.underlying163 h0
   obtain⟨z0,g0⟩:=GY 0 _ rfl
   obtain⟨z1,g1⟩:=GY 1 _ rfl
   rw[show Tryz.prog.cellsOf _=1 from by kernel_rfl]at g0 g1
   obtain⟨px,e0,_⟩:=DataW.trod_int Tryz.underlying2 g0
   obtain⟨py,e1,_⟩:=DataW.trod_int Tryz.underlying2 g1
   obtain⟨ti,e2,_⟩:=DataW.trod_int Tryz.underlying2 h1
   simp at e0 e1 e2
   subst e0 e1 e2
   exact⟨[],⟨⟨px,py⟩,ti⟩,fG.nil _ _,⟨rfl,rfl⟩,trivial⟩
 exact⟨A,n,c,f,xs,h1,h2,h3⟩
theorem wM (h:TT enc w fuel 28 cs x):∃A n c f,∃d:ev,cs=[.slice A n c]/\fG f 0 w.heap.size/\jc w f (.slice A n c) d.ad:=by
 obtain⟨hl,m,hf⟩:=nv Tryz.underlying28 h
 rw[show Tryz.prog.cellsOf _=1 from by kernel_rfl]at hl
 obtain⟨a,rfl⟩:=VI hl
 ·skip
  obtain⟨y0,h0⟩:=hf 0 _ rfl
  rw[show Tryz.prog.cellsOf _=1 from by kernel_rfl]at h0
  obtain⟨A1,n1,c1,f1,SL,e1,k1,s1⟩:=Hw h0
  simp at e1
  subst e1
  exact⟨A1,n1,c1,f1,⟨SL⟩,rfl,k1,s1⟩
theorem Ka (h:TT enc w fuel 30 cs x):∃A0 n0 c0 f0 A1 n1 c1 f1 A2 n2 c2 f2,∃d:aE,cs=[.slice A0 n0 c0,.slice A1 n1 c1,.slice A2 n2 c2,.int .i64 d.az]/\fG f0 0 w.heap.size/\rE w f0 (.slice A0 n0 c0) d.aB.aA/\fG f1 0 w.heap.size/\rG w f1 (.slice A1 n1 c1) d.aB.ad/\fG f2 0 w.heap.size/\jc w f2 (.slice A2 n2 c2) d.cw.ad/\(∀g∈d.aB.aA,g.aG.size<=9223372036854775807)/\∀t∈d.aB.ad,t.aG.size<=9223372036854775807:=by
 obtain⟨hl,m,hf⟩:=nv Tryz.underlying30 h
 rw[show Tryz.prog.cellsOf _=4 from by kernel_rfl]at hl
 obtain⟨a,b,c,d,rfl⟩:=VK hl
 ·skip
  obtain⟨y0,h0⟩:=hf 0 _ rfl
  obtain⟨y1,h1⟩:=hf 1 _ rfl
  obtain⟨y2,h2⟩:=hf 2 _ rfl
  rw[show Tryz.prog.cellsOf _=2 from by kernel_rfl]at h0
  rw[show Tryz.prog.cellsOf _=1 from by kernel_rfl]at h1 h2
  obtain⟨_,m2,GY⟩:=nv Tryz.underlying25 h0
  obtain⟨z0,g0⟩:=GY 0 _ rfl
  obtain⟨z1,g1⟩:=GY 1 _ rfl
  rw[show Tryz.prog.cellsOf _=1 from by kernel_rfl]at g0 g1
  obtain⟨A0,n0,c0,f0,xs0,e0,k0,s0,o0⟩:=MC g0
  obtain⟨A1,n1,c1,f1,SL,e1,k1,s1,o1⟩:=MD g1
  obtain⟨A2,n2,c2,f2,d2,e2,k2,s2⟩:=wM h1
  obtain⟨t,e3,_⟩:=DataW.trod_int Tryz.underlying2 h2
  simp at e0 e1 e2 e3
  subst e0 e1 e2 e3
  exact⟨A0,n0,c0,f0,A1,n1,c1,f1,A2,n2,c2,f2,⟨⟨xs0,SL⟩,d2,t⟩,rfl,k0,s0,k1,s1,k2,s2,o0,o1⟩
end
end Go.Proofs.YtgoljkjaameagaaGreat

namespace Go.Proofs.YtgoljkjaameagaaGreat
open Go.ChangeShapes Go.WideShapes Go.ChangeAt Go.RowKit V
theorem Sz:ownKnob Tryz.prog.godebug=none:=by kernel_rfl
theorem Ep:laidOutB Tryz.prog=true:=by kernel_rfl
theorem Kk {s:aE} {ws:List Int} {l:List ae}:(pe s ws l).1.length<=1152921504606846976:=by
 unfold pe
 split
 ·rename_i h0
  obtain⟨hP,hW,hA⟩:=wU.1 h0
  have:=(Al hP.set hA).1
  (try dsimp only)
  rw[sk];omega
 ·simp
theorem MO (s:aE) (ws:List Int) (a:ev) (hn:fV s.aB):ar Tryz.prog 3 [.agg (aD s),.sl (ws.map aw),.agg (aP a)] (.bool true):=
 Hk (fun s ws a=>pe s ws a.ad) (fun s ws a hn hm hw _=>Gn s ws a.ad hn hm.s.g hm.s.t hw) (fun s ws a hn hm hw hl=>Gm s ws a.ad hn hm hw hl) (fun s ws a hm hl=>Kk) s ws a hn
theorem EE (os:Os) (started:os.Started) (H:Type) (enc:TypeId×Value->H):
  ReturnsInHanded {} Tryz.checked os 3 .any (Rows.fnExactRatesOfSpec.pre6 enc Tryz.prog Tryz.f3 Rows.fnExactRatesOfRow.domain false) (Rows.fnExactRatesOfSpec.post enc Tryz.prog Tryz.f3 false true false false):=by
 refine returnsInHanded_of_change (C:=Tryz.checked) Sz started (by kernel_rfl) Tryz.func3
  (ChangeSpec.witness6 (enc:=enc) (C:=Tryz.checked) false ⟨#[], #[.agg #[.slice none 0 0,.slice none 0 0,.slice none 0 0,.int .i64 0],.slice none 0 0,.agg #[.slice none 0 0]],[]⟩ 8 (by kernel_rfl) (by kernel_rfl) (by kernel_rfl) (by kernel_rfl)) ?_
 intro W base args ds gs before NL hW hcnd _
 have r6:∀(j:Nat) t v,Tryz.f3.params[j]? =some t->args[j]? =some v->Value.okWide Tryz.prog W .any base t v:=NL
 have hW':=hW
 obtain⟨p,q,hA0,hV,rfl,C5,mh⟩:=hW
 have hA:DataW.TrodAll enc Tryz.prog W 0 (fun _=>true) true Tryz.f3.params.toList args.toList ds p:=hA0
 rw[Tryz.params3]at hA r6
 obtain⟨v0,vs0,d0,ds0,p0,q0,nQ,rfl,rfl,h0,r0⟩:=trodAll_cons hA
 obtain⟨v1,vs1,d1,ds1,p1,q1,rfl,rfl,rfl,h1,r1⟩:=trodAll_cons r0
 obtain⟨v2,vs2,d2,ds2,p2,q2,rfl,rfl,rfl,h2,r2⟩:=trodAll_cons r1
 obtain⟨rfl,rfl,rfl⟩:=trodAll_nil r2
 obtain rfl:args= #[v0,v1,v2]:=by cases args;simp_all
 obtain⟨rfl,rfl⟩:=trodVars_none hV
 obtain⟨Qq,rfl,_⟩:=okWide_struct Tryz.underlying30 (r6 0 30 v0 rfl rfl)
 obtain⟨A4,n4,c4,rfl⟩:=okWide_slice Tryz.underlying31 (r6 1 31 v1 rfl rfl)
 obtain⟨Uf,rfl,_⟩:=okWide_struct Tryz.underlying28 (r6 2 28 v2 rfl rfl)
 have k0:=h0
 have k1:=h1
 have k2:=h2
 have lt0:∀x∈p0,x.block<W.heap.size:=by obtain⟨m,hm⟩:=k0;exact DataW.trod_lt m _ _ _ hm
 have lt1:∀x∈p1,x.block<W.heap.size:=by obtain⟨m,hm⟩:=k1;exact DataW.trod_lt m _ _ _ hm
 have lt2:∀x∈p2,x.block<W.heap.size:=by obtain⟨m,hm⟩:=k2;exact DataW.trod_lt m _ _ _ hm
 obtain⟨A0,n0,c0,f0,A1,n1,c1,f1,A2,n2,c2,f2,s,dw,w0,s0,w1,s1,w2,s2,o0,o1⟩:∃A0 n0 c0 f0 A1 n1 c1 f1 A2 n2 c2 f2,∃d:aE,(Value.agg Qq).cells.toList=[.slice A0 n0 c0,.slice A1 n1 c1,.slice A2 n2 c2,.int .i64 d.az]/\fG f0 0 W.heap.size/\rE W f0 (.slice A0 n0 c0) d.aB.aA/\fG f1 0 W.heap.size/\rG W f1 (.slice A1 n1 c1) d.aB.ad/\fG f2 0 W.heap.size/\jc W f2 (.slice A2 n2 c2) d.cw.ad/\(∀g∈d.aB.aA,g.aG.size<=9223372036854775807)/\∀t∈d.aB.ad,t.aG.size<=9223372036854775807:=by
  obtain⟨fuel,hf⟩:=h0
  exact Ka hf
 obtain⟨f4,ws,w4,s4⟩:∃f,∃d:List Int,fG f 0 W.heap.size/\rF W f (.slice A4 n4 c4) d:=by
  obtain⟨fuel,hf⟩:=h1
  obtain⟨A,n,c,f,xs,e,w,z⟩:=J9 hf
  simp[Value.cells]at e
  obtain⟨rfl,rfl,rfl⟩:=e
  exact⟨f,xs,w,z⟩
 obtain⟨A3,n3,c3,f3,a,Rz,w3,s3⟩:∃A n c f,∃d:ev,(Value.agg Uf).cells.toList=[.slice A n c]/\fG f 0 W.heap.size/\jc W f (.slice A n c) d.ad:=by
  obtain⟨fuel,hf⟩:=h2
  exact wM hf
 obtain rfl:Qq= #[.slice A0 n0 c0,.slice A1 n1 c1,.slice A2 n2 c2,.int .i64 s.az]:=by
  cases Qq;simp[Value.cells]at dw;subst dw;rfl
 obtain rfl:Uf= #[.slice A3 n3 c3]:=by
  cases Uf;simp[Value.cells]at Rz;subst Rz;rfl
 clear hA0 NL
 have ia:fo Tryz.prog W (fun b=>b<W.heap.size) (fun _=>none) [.agg (aD s),.sl (ws.map aw),.agg (aP a)] #[.agg #[.slice A0 n0 c0,.slice A1 n1 c1,.slice A2 n2 c2,.int .i64 s.az],.slice A4 n4 c4,.agg #[.slice A3 n3 c3]]:=by
  have h:=ll (Di s0 (fun b hb=>(w0 b hb).2) s1 (fun b hb=>(w1 b hb).2) s2 (fun b hb=>(w2 b hb).2)) (ll (vh s4 (fun b hb=>(w4 b hb).2)) (ll (zi s3 (fun b hb=>(w3 b hb).2)) (⟨rfl,fun j b hj=>by cases j<;>cases hj⟩:fo Tryz.prog W (fun b=>b<W.heap.size) (fun _=>none) [] #[])))
  simpa using h
 have iu:=Pw mixed (MO s ws a ⟨o0,o1⟩) ia
 clear s0 s1 s2 s3 s4 w0 w1 w2 w3 w4 ia
 refine(iu.mono fun e W' ⟨he,bel⟩=>?_)
 subst he
 exact⟨_,rfl,_,_,_,[],_,[],hW',trodAll_mk1 (shut_bool Tryz.underlying4 _),(trodAll_cons_mk (Below.trod Ep (by kernel_rfl) (of_decide_eq_true (by kernel_rfl)) k0 bel lt0) (trodAll_cons_mk (Below.trod Ep (by kernel_rfl) (of_decide_eq_true (by kernel_rfl)) k1 bel lt1) (trodAll_cons_mk (Below.trod Ep (by kernel_rfl) (of_decide_eq_true (by kernel_rfl)) k2 bel lt2) trodAll_mk0))),rfl,bel.frame _,fun h=>by cases h⟩
end Go.Proofs.YtgoljkjaameagaaGreat

namespace Go.Proofs.YtgoljkjaameagaaGreat
open Go.ChangeShapes Go.WideShapes Go.ChangeAt Go.RowKit
theorem ruN:Tryz.pinned.checked.prog.funcNamed Rows.fnExactRatesOfRow.func=some 3:=by kernel_rfl
theorem ruJ:joinedFacts Tryz.pinned.checked.prog 3 Tryz.f3 Rows.fnExactRatesOfSpec Rows.fnExactRatesOfRow=true:=by
 unfold joinedFacts
 repeat(with_reducible refine Bool.and_eq_true_iff.2 ⟨?_,by as_aux_lemma=>kernel_rfl⟩)
 as_aux_lemma=>kernel_rfl
theorem ruI:Tryz.f3.isInstance Tryz.pinned.checked.prog Rows.fnExactRatesOfRow.origin Rows.fnExactRatesOfRow.targs:=of_decide_eq_true (by kernel_rfl)
theorem ruW:Tryz.f3.isWrapper Tryz.pinned.checked.prog Rows.fnExactRatesOfRow.wrapper Rows.fnExactRatesOfRow.mainSum:=by
 unfold Func.isWrapper;first|(rw[if_pos (by decide+kernel)];kernel_rfl)|(rw[if_neg (by decide+kernel)];exact⟨rfl,rfl⟩)
theorem Kl:Rows.fnExactRatesOfRow.holds Tryz.pinned (OpenSpec.ofChange Rows.fnExactRatesOfSpec):=
 OpenClaim.holds_of_wide 3 Tryz.f3 rfl rfl rfl rfl rfl rfl rfl ⟨rfl,rfl,rfl,rfl,rfl⟩ rfl rfl rfl rfl rfl ruN Tryz.func3 ruJ ruI ruW
  (fun os started H enc _=>EE os started H enc)
theorem fnExactRatesOf_proved:Rows.FnExactRatesOfSaid:=Kl
end Go.Proofs.YtgoljkjaameagaaGreat
