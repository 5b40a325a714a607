/- The reference's networks: how one is made. -/
import Derived.Test.YtiabgllilcfheaaGreatMoC
import Derived.Test.YtiabgllilcfheaaGreatMoB
import Derived.Test.YtiabgllilcfheaaGreatChecked
set_option linter.unusedVariables false
set_option linter.unusedSimpArgs false
set_option maxRecDepth 100000
set_option maxHeartbeats 16000000
namespace Go.Proofs.YtiabgllilcfheaaGreat.V
open Go.RowKit
attribute [local irreducible] eC wpOps gi Call
attribute [local go_sem] aM fP fa fX fW du upd cz K.av cP AV.cells AV.cell rowOf rowsOf part ld rowAt bL cu dK eb gK bP de eu fS fq dx ef db da dR dS bU bf cU bR cW cV dW eh ee cR bW dd ec bQ aL cY cH gJ bF cL bV aY dr bq dL AV.undef bJ bK dV dY dQ dU cK er ez cF ej ei cX cZ List.getD_cons_zero List.getD_cons_succ List.getD_nil List.all_cons List.all_nil Bool.and_true Bool.true_and Bool.and_self Bool.not_true Bool.not_false Option.map_some Option.map_none Option.bind_some Option.bind_none List.length_cons List.length_nil List.take_succ_cons List.take_zero List.take_nil List.drop_succ_cons List.drop_zero List.drop_nil List.head?_cons List.map_cons List.map_nil List.getElem?_cons_zero List.getElem?_cons_succ List.cons_append List.nil_append List.append_nil List.length_map List.set_cons_zero List.set_cons_succ eq_self Int.toNat_natCast Int.natCast_nonneg and_self true_and and_true decide_true decide_false Bool.false_eq_true Nat.zero_add Nat.add_zero List.contains_cons List.contains_nil Bool.or_false Bool.false_or beq_self_eq_true ne_eq not_true_eq_false not_false_eq_true Id.mk.injEq false_and and_false Nat.le_refl List.length_append beq_true beq_false Bool.not_eq_eq_eq_not or_false false_or eL ar ax aW bp bZ cw aV bH aU bh cQ bI
def Vm:Od (List Nat):=fun g cs x ids=>(x=[]/\cs=[.br]/\ids=[])∨∃id,cs=[.own id 0 x.length]/\0<x.length/\g id=some ⟨true,1,x.map eN⟩/\ids=[id]
theorem Ry:DF Vm 1 where
 frame:=fun h hf=>by
  rcases h with h|⟨id,h1,h0,h2,h3⟩
  ·exact .inl h
  ·subst h3;exact .inr ⟨id,h1,h0,(hf id (by simp)).trans h2,rfl⟩
 len:=fun h=>by rcases h with⟨_,h,_⟩|⟨id,h,_⟩<;>subst h<;>rfl
 cell:=fun h=>by rcases h with⟨_,h,_⟩|⟨id,h,_⟩<;>subst h<;>rfl
 live:=fun h i hi=>by
  rcases h with⟨_,_,h⟩|⟨id,h1,h0,h2,h3⟩
  ·subst h;cases hi
  ·subst h3
   have:i=id:=by simpa using hi
   subst this
   exact⟨_,h2,rfl,by simp[sr]⟩
 small:=by simp[sr]
theorem TD {g:Rows} {rows:List (List AV)} {xs:List (List Nat)} {ids:List Id} (n:Nat) (h:fY Vm g rows xs ids):fj (eL g) (n+2) rows=some (xs.map fun l=>[TV l]):=
 h.fz (fun {cs x ids} h=>by
  rcases h with⟨h0,h1,_⟩|⟨id,h1,h0,h2,_⟩
  ·subst h0 h1;rw[ar,ax,aV];rfl
  ·have ig:x≠[]:=by rintro rfl;simp at h0
   subst h1
   rw[ar,ax,kM (e:=eN) (sz:=1) (by simp[eL,h2]) rfl fun a=>fzN _ n a]
   simp[TV,ig])
theorem fY.XW {α:Type} {R:Od α} {sz:Nat} {g:Rows} {rows:List (List AV)} {xs:List α} {ids:List Id} (ok:DF R sz) (h:fY R g rows xs ids) (pU:ids.Nodup) (k:Nat) (hk:k<xs.length):
  ∃cs ic,rows[k]? =some cs/\R g cs xs[k] ic/\(∀i∈ic,i∈ids)/\∀(g':Rows) ub x' VR,R g' ub x' VR->(∀i∈ids,i∉ic->g' i=g i)->VR.Nodup->(∀i∈VR,i∉ids)->∃G8,fY R g' (rows.set k ub) (xs.set k x') G8/\G8.Nodup/\∀i∈G8,i∈VR∨i∈ids:=by
 obtain⟨r1,cs,r2,i1,ic,i2,rfl,rfl,rfl,h3,h4,h5⟩:=h.split k hk
 obtain⟨n1,n2,n3⟩:=List.nodup_append.1 pU
 obtain⟨nc,n5,n4⟩:=List.nodup_append.1 n2
 refine⟨cs,ic,by simp,h4,fun i hi=>by simp[hi],fun g' ub x' VR hR hf hn' lO=>⟨i1++(VR++i2),?_,?_,fun i hi=>?_⟩⟩
 ·have e:xs.set r1.length x'=xs.take r1.length++x'::xs.drop (r1.length+1):=by rw[List.set_eq_take_append_cons_drop,if_pos hk]
  have e2:(r1++cs::r2).set r1.length ub=r1++ub::r2:=by simp
  rw[e,e2]
  refine(h3.frame ok fun i hi=>hf i (by simp[hi]) fun hc=>n3 i hi i (by simp[hc]) rfl).app (.cons hR (h5.frame ok fun i hi=>hf i (by simp[hi]) fun hc=>n4 i hc i hi rfl))
 ·rw[List.nodup_append,List.nodup_append]
  refine⟨n1,⟨hn',n5,fun x hx y hy he=>?_⟩,fun x hx y hy he=>?_⟩
  ·subst he;exact lO x hx (by simp[hy])
  ·subst he
   rcases List.mem_append.1 hy with hy|hy
   ·exact lO x hy (by simp[hx])
   ·exact n3 x hx x (by simp[hy]) rfl
 ·rcases List.mem_append.1 hi with hi|hi
  ·exact .inr (by simp[hi])
  ·rcases List.mem_append.1 hi with hi|hi
   ·exact .inl hi
   ·exact .inr (by simp[hi])
def tO (A:Id) (lo:Nat) (L:List (List Nat)) (g:Rows) (nx:Nat):Prop:=∃rows ids,g A=some ⟨true,1,rows⟩/\fY Vm g rows L ids/\ids.Nodup/\∀i∈ids,lo<i.bj/\i.bj<nx
def cJ (cnt:Nat) (bs:List PB) (A F:Id):List AV:=[.int .i64 cnt,.sl (bs.map aP),.own A 0 cnt,.own F 0 bs.length]
def mU (cnt:Nat) (bs:List PB) (m:Nat):List (List Nat):=(List.range cnt).map fun v=>jQ bs m v
theorem kf (cnt:Nat) (bs:List PB) (m:Nat):(mU cnt bs m).length=cnt:=by simp[mU]
structure qi (cnt:Nat) (bs:List PB) (f:Nat->Int) (X A F:Id) (g:Rows) (nx:Nat):Prop where
 x:g X=some ⟨true,4,[cJ cnt bs A F]⟩
 a:tO A F.bj (mU cnt bs bs.length) g nx
 f:g F=some ⟨true,1,fc f bs.length⟩
 xa:X.bj<A.bj
 af:A.bj<F.bj
 fn:F.bj<nx
theorem tO.fz {A:Id} {lo cnt:Nat} {bs:List PB} {m nx n:Nat} {g:Rows} (h:tO A lo (mU cnt bs m) g nx):V.fz (eL g) (n+3) (.own A 0 cnt)=some (.sl (sQ cnt bs m)):=by
 obtain⟨rows,ids,h1,h2,_,_⟩:=h
 have hl:=h2.len
 rw[kf]at hl
 rw[ju]
 simp only[eL,h1,Option.map_some,if_true]
 rw[if_pos ah,List.drop_zero,List.take_of_length_le ah]
 have:=TD n h2
 rw[this]
 simp[mU,sQ]
theorem qi.fz {cnt:Nat} {bs:List PB} {f:Nat->Int} {X A F:Id} {g:Rows} {nx:Nat} (h:qi cnt bs f X A F g nx):V.fz (eL g) 6 (.ptr X 0 0)=some (.dF (im cnt bs f)):=by
 have hF:eL g F=some ⟨true,1,fc f bs.length⟩:=by simp[eL,h.f]
 have hX:eL g X=some ⟨true,4,[cJ cnt bs A F]⟩:=by simp[eL,h.x]
 have hf:V.fz (eL g) 5 (.own F 0 bs.length)=some (.sl (fc f bs.length)):=by
  rw[ju]
  simp only[hF,if_true]
  rw[if_pos (by rw[eM];omega),List.drop_zero,List.take_of_length_le (by rw[eM];omega),Dc];rfl
 have ha:=h.a.fz (n:=2)
 rw[bh]
 simp only[hX,if_true,List.getElem?_cons_zero,List.drop_zero,cJ,ar,ax,aW,cw,ha,hf,Option.map_some,im]
theorem JZ (cnt:Nat) (bs:List PB):mU cnt bs 0=List.replicate cnt []:=by
 refine List.ext_getElem? fun i=>?_
 simp only[mU,List.getElem?_map,List.getElem?_replicate]
 by_cases h:i<cnt
 ·rw[List.getElem?_range h,if_pos h];rfl
 ·rw[List.getElem?_eq_none (by simpa using h),if_neg h];rfl
theorem BQ (g:Rows):∀n:Nat,fY Vm g (List.replicate n [.br]) (List.replicate n []) []
 |0=>.nil
 |n+1=>.cons (i1:=[]) (.inl ⟨rfl,rfl,rfl⟩) (BQ g n)
def Au (cnt:Nat) (bs:List PB) (m:Nat):List (List Nat):=(mU cnt bs m).set (dq bs m).a (jQ bs m (dq bs m).a++[m])
theorem ET {cnt:Nat} {bs:List PB} {m v:Nat} (hv:v<cnt) (ig:(dq bs m).a≠v):(Au cnt bs m)[v]? =some (jQ bs m v):=by
 unfold Au
 rw[List.getElem?_set_ne ig]
 simp[mU,hv]
theorem JY {cnt:Nat} {bs:List PB} {m:Nat} (ha:(dq bs m).a<cnt) (hb:(dq bs m).b<cnt) (ig:(dq bs m).a≠(dq bs m).b):(Au cnt bs m).set (dq bs m).b (jQ bs m (dq bs m).b++[m])=mU cnt bs (m+1):=by
 refine List.ext_getElem? fun i=>?_
 by_cases hi:i<cnt
 ·have hr:(mU cnt bs (m+1))[i]? =some (jQ bs (m+1) i):=by simp[mU,hi]
  rw[hr,J0]
  by_cases h1:(dq bs m).b=i
  ·rw[List.getElem?_set,if_pos h1,if_pos (by simp[Au,kf];omega),if_pos (.inr h1),h1]
  ·rw[List.getElem?_set_ne h1]
   by_cases h2:(dq bs m).a=i
   ·unfold Au
    rw[List.getElem?_set,if_pos h2,if_pos (by rw[kf];omega),if_pos (.inl h2),h2]
   ·rw[ET hi h2,if_neg (fun h=>h.elim h2 h1),List.append_nil]
 ·rw[List.getElem?_eq_none (by simp[Au,kf];omega),List.getElem?_eq_none (by rw[kf];omega)]
theorem mh {α:Type} {l:List α} {k:Nat} {x:α} (h:l[k]? =some x) (hk:k<l.length):l[k]=x:=by
 rw[List.getElem?_eq_getElem hk]at h;exact Option.some.inj h
theorem IM {A K:Id} {lo XS nx k j:Nat} {L:List (List Nat)} {La:List Nat} {g:Rows} {rows:List (List AV)} {ids:List Id} (hR:fY Vm g rows L ids) (pU:ids.Nodup) (pY:∀i∈ids,lo<i.bj/\i.bj<XS) (hA:A.bj<=lo) (hL:L[k]? =some La) (hK1:XS<=K.bj) (SK:K.bj<nx) (kH:lo<XS):
  ∃cs,rows[k]? =some cs/\((La=[]/\cs=[.br])∨∃id:Id,cs=[.own id 0 La.length]/\0<La.length/\g id=some ⟨true,1,La.map eN⟩/\id.bj<XS/\lo<id.bj)/\
   ∀g':Rows,g' A=some ⟨true,1,rows.set k [.own K 0 (La.length+1)]⟩->g' K=some ⟨true,1,La.map eN++[[.int .i64 j]]⟩->(∀i:Id,i.bj<XS->(i=A)=False->(∀id,cs=[.own id 0 La.length]->(i=id)=False)->g' i=g i)->tO A lo (L.set k (La++[j])) g' nx:=by
 have hk:k<L.length:=(List.getElem?_eq_some_iff.1 hL).1
 have hLk:=mh hL hk
 obtain⟨cs,ic,eD,Vw,Xd,uy⟩:=hR.XW Ry pU k hk
 rw[hLk]at Vw
 refine⟨cs,eD,?_,fun g' h1 h2 h3=>?_⟩
 ·rcases Vw with⟨h1,h2,_⟩|⟨id,h1,h2,h3,h4⟩
  ·exact .inl ⟨h1,h2⟩
  ·subst h4
   have:=pY id (Xd id (by simp))
   exact .inr ⟨id,h1,h2,h3,this.2,this.1⟩
 ·obtain⟨G8,q1,q2,q3⟩:=uy g' [.own K 0 (La.length+1)] (La++[j]) [K] (.inr ⟨K,by simp,by simp,by rw[h2];simp[eN],rfl⟩) (fun i hi Y3=>by
   refine h3 i (pY i hi).2 ?_ fun id hid=>?_
   ·simp only[eq_iff_iff,iff_false];rintro rfl;have:=pY _ hi;omega
   ·simp only[eq_iff_iff,iff_false]
    rintro rfl
    rcases Vw with⟨_,h4,_⟩|⟨lh,h4,_,_,h5⟩
    ·rw[hid]at h4;cases h4
    ·rw[hid]at h4
     simp only[List.cons.injEq,AV.own.injEq,and_true]at h4
     rw[h5,h4]at Y3
     exact Y3 (by simp)) (by simp) fun i hi hc=>by
   rw[List.mem_singleton.1 hi]at hc;have:=pY _ hc;omega
  refine⟨_,G8,h1,q1,q2,fun i hi=>?_⟩
  rcases q3 i hi with h|h
  ·rw[List.mem_singleton.1 h];omega
  ·have:=pY i h;omega
theorem QA {P:Program} {Q:Ex->Env->az->Prop} {c:VC} {env:Env} {σ:az} (I:Env->az->Prop) (h2:∀e s,I e s->Q .normal e s) (h1:∀N':Env->az->Prop,(∀e s,I e s->N' e s)->eC (Call P) c (dr N' Q) env σ):eC (Call P) c Q env σ:=by
 refine ko (fun _ _ _ _ h=>h) aE c _ _ env σ (fun x e s h=>?_) (h1 I fun _ _ h=>h)
 cases x with
 |normal=>exact h2 e s h
 |exit id=>exact h
 |ret=>exact h
end Go.Proofs.YtiabgllilcfheaaGreat.V

namespace Go.Proofs.YtiabgllilcfheaaGreat.V
open Go.RowKit
attribute [local irreducible] eC wpOps gi Call
attribute [local go_sem] aM fP fa fX fW du upd cz K.av cP AV.cells AV.cell rowOf rowsOf part ld rowAt bL cu dK eb gK bP de eu fS fq dx ef db da dR dS bU bf cU bR cW cV dW eh ee cR bW dd ec bQ aL cY cH gJ bF cL bV aY dr bq dL AV.undef bJ bK dV dY dQ dU cK er ez cF ej ei cX cZ List.getD_cons_zero List.getD_cons_succ List.getD_nil List.all_cons List.all_nil Bool.and_true Bool.true_and Bool.and_self Bool.not_true Bool.not_false Option.map_some Option.map_none Option.bind_some Option.bind_none List.length_cons List.length_nil List.take_succ_cons List.take_zero List.take_nil List.drop_succ_cons List.drop_zero List.drop_nil List.head?_cons List.map_cons List.map_nil List.getElem?_cons_zero List.getElem?_cons_succ List.cons_append List.nil_append List.append_nil List.length_map List.set_cons_zero List.set_cons_succ Nat.reduceMul eq_self Int.toNat_natCast Int.natCast_nonneg and_self true_and and_true decide_true decide_false Bool.false_eq_true Nat.zero_add Nat.add_zero List.contains_cons List.contains_nil Bool.or_false Bool.false_or beq_self_eq_true Nat.reduceBEq ne_eq not_true_eq_false not_false_eq_true Id.mk.injEq false_and and_false Nat.reduceLT Int.reduceLE Int.reduceLT Int.reduceToNat Int.reduceNeg Int.reduceAdd Nat.le_refl List.length_append beq_true beq_false Bool.not_eq_eq_eq_not or_false false_or eL ar ax aW bp bZ cw aV bH aU bh cQ bI
theorem Mz (cnt:Nat) (hn:cnt<=1048576) (bs:List PB) (ok:pq cnt bs) (iD:bs.length<=1048576) (σ:az):
  Call Tryz.prog 144 [.int .i64 cnt,.sl (bs.map aP)] σ fun r σ'=>∃X A F,r=.ptr X 0 0/\σ.next<=X.bj/\qi cnt bs (fun _=>0) X A F σ'.get σ'.next:=by
 refine qd Sf rfl fun hl=>?_
 simp only[Aa,Uu,Zv,Zw,Zx,US,Zy,zz7,Zz,zz9,Uv,mZ,HQ,QG,QH,QI,HR,QJ,Uw,QK,Ux,Uy]
 try simp only[q]
 clear hl
 have kG:(0:Int)<=(cnt:Int):=ah
 have pI:(cnt:Int)<=((16777216:Nat):Int):=ah
 have yS:(0:Int)<=(bs.length:Int):=ah
 have KZ:(bs.length:Int)<=((16777216:Nat):Int):=ah
 have hz:List.replicate bs.length [AV.int .i64 0]=fc (fun _=>0) bs.length:=by
  refine List.ext_getElem? fun i=>?_
  by_cases h:i<bs.length
  ·rw[eX h,List.getElem?_replicate,if_pos h];rfl
  ·rw[List.getElem?_eq_none (by simp;omega),List.getElem?_eq_none (by rw[eM];omega)]
 (try((repeat(revert N;apply Pn.out));refine wk (tw @kG (tw @pI (tw @yS (tw @KZ (tw @Int.le_refl @hz))))) ?_;(repeat(apply Pn.mk;intro N Z))))
 obtain⟨X,hX⟩:∃X:Id,X=⟨144001003,σ.next+1⟩:=⟨_,rfl⟩
 obtain⟨A,hA⟩:∃X:Id,X=⟨144002002,σ.next+1+1⟩:=⟨_,rfl⟩
 obtain⟨F,hF⟩:∃X:Id,X=⟨144003003,σ.next+1+1+1⟩:=⟨_,rfl⟩
 have hXA:X.bj<A.bj:=by rw[hX,hA];(try dsimp only);omega
 have hAF:A.bj<F.bj:=by rw[hA,hF];(try dsimp only);omega
 have hXs:σ.next<=X.bj:=by rw[hX];(try dsimp only);omega
 refine bz (fun n env st=>∃j:Nat,n=(bs.length)-j/\j<=(bs.length)/\env 6=.int .i64 (j:Int)/\env 5=(.ptr X 0 0)/\st.get X=some ⟨true,4,[cJ cnt bs A F]⟩/\st.get F=some ⟨true,1,fc (fun _=>0) bs.length⟩/\(tO A F.bj (mU cnt bs j) st.get st.next/\F.bj<st.next)) (bs.length) ⟨0,ah,ah,by(try simp only[go_sem, ↓reduceIte,Nat.reduceEqDiff,Nat.reduceAdd,Nat.reduceSub,Nat.reduceLeDiff,reduceCtorEq,hX,hF,hA,cJ,hz]);try rfl,by(try simp only[go_sem, ↓reduceIte,Nat.reduceEqDiff,Nat.reduceAdd,Nat.reduceSub,Nat.reduceLeDiff,reduceCtorEq,hX,hF,hA,cJ,hz]);try rfl,by(try simp only[go_sem, ↓reduceIte,Nat.reduceEqDiff,Nat.reduceAdd,Nat.reduceSub,Nat.reduceLeDiff,reduceCtorEq,hX,hF,hA,cJ,hz]);try rfl,by(try simp only[go_sem, ↓reduceIte,Nat.reduceEqDiff,Nat.reduceAdd,Nat.reduceSub,Nat.reduceLeDiff,reduceCtorEq,hX,hF,hA,cJ,hz]);try rfl,⟨⟨List.replicate cnt [.br],[],by rw[hA];(simp only[go_sem, ↓reduceIte,Nat.reduceEqDiff,Nat.reduceAdd,Nat.reduceSub,Nat.reduceLeDiff,reduceCtorEq])<;>rfl,by rw[JZ];exact BQ _ _,List.nodup_nil,fun i hi=>by cases hi⟩,by rw[hF];(try dsimp only);omega⟩⟩ ?_
 rintro n_a env_a st_a ⟨j,rfl,ale,a6,a5,ag0,ag1,nh⟩ eE
 have a0:=eE 0 (by kernel_rfl);have a1:=eE 1 (by kernel_rfl)
 simp only[go_sem, ↓reduceIte,Nat.reduceEqDiff,Nat.reduceAdd,Nat.reduceSub,Nat.reduceLeDiff,reduceCtorEq,hX,hF,hA,cJ,hz]at a0 a1
 clear eE
 obtain⟨⟨rows,ids,ag,hR,pU,pY⟩,hFn⟩:=nh
 have x1:=dP hXA
 have x2:=dP hAF
 have x3:=dP (a:=X) (b:=F) ah
 have vX:=dh (i:=X) (n:=st_a.next) ah
 have vA:=dh (i:=A) (n:=st_a.next) ah
 have vF:=dh (i:=F) (n:=st_a.next) ah
 by_cases hj:(j:Int)<(bs.length:Int)
 ·have dD:∀{e:Env} {gg:Rows} {nx:Nat},(e 6=.int .i64 (IntKind.i64.wrap ((j:Int)+1)))->(e 5=(.ptr X 0 0))->(gg X=some ⟨true,4,[cJ cnt bs A F]⟩)->(gg F=some ⟨true,1,fc (fun _=>0) bs.length⟩)->(tO A F.bj (mU cnt bs (j+1)) gg nx/\F.bj<nx)->∃m0,m0<(bs.length)-j/\∃j:Nat,m0=(bs.length)-j/\j<=(bs.length)/\e 6=.int .i64 (j:Int)/\e 5=(.ptr X 0 0)/\gg X=some ⟨true,4,[cJ cnt bs A F]⟩/\gg F=some ⟨true,1,fc (fun _=>0) bs.length⟩/\(tO A F.bj (mU cnt bs j) gg nx/\F.bj<nx):=fun x1 x2 x3 x4 x5=>⟨_,ah,j+1,rfl,ah,(by rw[x1,aK ah]),x2,x3,x4,x5⟩
  have nk:j<bs.length:=ah
  have jz:=xP nk
  obtain⟨ha1,WL,ig⟩:=ok j nk
  have iR:((dq bs j).a:Int)<(cnt:Int):=ah
  have gH:((dq bs j).b:Int)<(cnt:Int):=ah
  have qb:=JY (m:=j) ha1 WL ig
  have e1:=uC bs j (dq bs j).a
  have e2:=uC bs j (dq bs j).b
  have SR:(Au cnt bs j)[(dq bs j).b]? =some (jQ bs j (dq bs j).b):=ET WL ig
  have On:(mU cnt bs j)[(dq bs j).a]? =some (jQ bs j (dq bs j).a):=by simp[mU,ha1]
  have Z3:Au cnt bs j=(mU cnt bs j).set (dq bs j).a (jQ bs j (dq bs j).a++[j]):=rfl
  have Oj:(Au cnt bs j).length=cnt:=by rw[Z3,List.length_set,kf]
  have jZ:=hR.len
  rw[kf]at jZ
  obtain⟨cs7,kb,L5,Mi⟩:=IM (A:=A) (K:=⟨144007022,st_a.next+1⟩) (nx:=st_a.next+1+1) (j:=j) hR pU pY ah On aQ aQ hFn
  rw[<-Z3]at Mi
  obtain⟨c7,rfl⟩:∃c,cs7=[c]:=by
   rcases L5 with⟨_,h⟩|⟨id,h,_⟩<;>exact⟨_,h⟩
  generalize jQ bs j (dq bs j).a=La at *
  generalize jQ bs j (dq bs j).b=Lb at *
  generalize dq bs j=b at *
  generalize Au cnt bs j=LA at *
  clear Z3
  (try((repeat(revert N;apply Pn.out));refine wk (tw @a6 (tw @a5 (tw @ag0 (tw @ag1 (tw @a0 (tw @a1 (tw @hj (tw @jz (tw @aP.eq_1 (tw @ag (tw @kb (tw @iR (tw @gH (tw @jZ (tw @x1 (tw @x2 (tw @x3 (tw @vX (tw @vA (tw @vF @cJ.eq_1)))))))))))))))))))) ?_;(repeat(apply Pn.mk;intro N Z))))
  refine mH (fun e s=>e 0=.int .i64 cnt/\e 1=.sl (bs.map aP)/\e 5=.ptr X 0 0/\e 6=.int .i64 j/\s.get X=some ⟨true,4,[cJ cnt bs A F]⟩/\s.get F=some ⟨true,1,fc (fun _=>0) bs.length⟩/\tO A F.bj LA s.get s.next/\F.bj<s.next) ?_ ?_
  ·rintro e1 s1 ⟨m0,m1,m5,m6,mX,mF,⟨rows1,ids1,mg,mR,mnd,mver⟩,mn⟩
   apply Z
   clear Z N
   have j3:=mR.len
   rw[Oj]at j3
   have wX:=dh (i:=X) (n:=s1.next) ah
   have wA:=dh (i:=A) (n:=s1.next) ah
   have wF:=dh (i:=F) (n:=s1.next) ah
   obtain⟨cs8,kc,L6,Mj⟩:=IM (A:=A) (K:=⟨144008022,s1.next⟩) (nx:=s1.next+1) (j:=j) mR mnd mver ah SR aQ aQ mn
   rw[qb]at Mj
   obtain⟨c8,rfl⟩:∃c,cs8=[c]:=by
    rcases L6 with⟨_,h⟩|⟨id,h,_⟩<;>exact⟨_,h⟩
   (try((repeat(revert N;apply Pn.out));refine wk (tw @m0 (tw @m1 (tw @m5 (tw @m6 (tw @mX (tw @mF (tw @hj (tw @jz (tw @aP.eq_1 (tw @mg (tw @kc (tw @iR (tw @gH (tw @j3 (tw @x1 (tw @x2 (tw @x3 (tw @wX (tw @wA (tw @wF @cJ.eq_1)))))))))))))))))))) ?_;(repeat(apply Pn.mk;intro N Z))))
   refine QA (fun e s=>e 0=.int .i64 cnt/\e 1=.sl (bs.map aP)/\e 5=.ptr X 0 0/\e 6=.int .i64 j/\s.get X=some ⟨true,4,[cJ cnt bs A F]⟩/\s.get F=some ⟨true,1,fc (fun _=>0) bs.length⟩/\tO A F.bj (mU cnt bs (j+1)) s.get s.next/\F.bj<s.next) ?_ ?_
   ·rintro e2 s2 ⟨p0,p1,p5,p6,pX,pF,pL,pn⟩
    simp only[dr,bq]
    apply Z
    clear Z N
    (try((repeat(revert N;apply Pn.out));refine wk (tw @p0 (tw @p1 (tw @p5 @p6))) ?_;(repeat(apply Pn.mk;intro N Z))))
    refine dD ?_ ?_ ?_ ?_ (⟨by obtain⟨r,i,q1,q2,q3,q4⟩:=pL;exact⟨r,i,sd @q1,q2,q3,fun x hx=>by have:=q4 x hx;(try dsimp only);omega⟩,aQ⟩)
    all_goals simp only[go_sem, ↓reduceIte,Nat.reduceEqDiff,Nat.reduceAdd,Nat.reduceSub,Nat.reduceLeDiff,reduceCtorEq,p0,p1,p5,p6,pX,pF]
   ·intro N Z
    rcases L6 with⟨Oi,Et⟩|⟨id,Et,hLp,hid,Pp,xY⟩
    ·simp only[List.cons.injEq,and_true]at Et
     subst Et
     subst Oi
     refine dv ?_ ?_<;>(try((repeat(revert N;apply Pn.out));refine wk (tw @m0 (tw @m1 (tw @m5 (tw @m6 (tw @mX (tw @mF (tw @hj (tw @jz (tw @aP.eq_1 (tw @mg (tw @kc (tw @iR (tw @gH (tw @j3 (tw @x1 (tw @x2 (tw @x3 (tw @wX (tw @wA (tw @wF @cJ.eq_1)))))))))))))))))))) ?_;(repeat(apply Pn.mk;intro N Z))))<;>(try refine dv ?_ ?_)<;>(try((repeat(revert N;apply Pn.out));refine wk (tw @m0 (tw @m1 (tw @m5 (tw @m6 (tw @mX (tw @mF (tw @hj (tw @jz (tw @aP.eq_1 (tw @mg (tw @kc (tw @iR (tw @gH (tw @j3 (tw @x1 (tw @x2 (tw @x3 (tw @wX (tw @wA (tw @wF @cJ.eq_1)))))))))))))))))))) ?_;(repeat(apply Pn.mk;intro N Z))))<;>(try refine dv ?_ ?_)<;>(try((repeat(revert N;apply Pn.out));refine wk (tw @m0 (tw @m1 (tw @m5 (tw @m6 (tw @mX (tw @mF (tw @hj (tw @jz (tw @aP.eq_1 (tw @mg (tw @kc (tw @iR (tw @gH (tw @j3 (tw @x1 (tw @x2 (tw @x3 (tw @wX (tw @wA (tw @wF @cJ.eq_1)))))))))))))))))))) ?_;(repeat(apply Pn.mk;intro N Z))))<;>(try refine dv ?_ ?_)<;>(try((repeat(revert N;apply Pn.out));refine wk (tw @m0 (tw @m1 (tw @m5 (tw @m6 (tw @mX (tw @mF (tw @hj (tw @jz (tw @aP.eq_1 (tw @mg (tw @kc (tw @iR (tw @gH (tw @j3 (tw @x1 (tw @x2 (tw @x3 (tw @wX (tw @wA (tw @wF @cJ.eq_1)))))))))))))))))))) ?_;(repeat(apply Pn.mk;intro N Z))))<;>(try refine dv ?_ ?_)<;>(try((repeat(revert N;apply Pn.out));refine wk (tw @m0 (tw @m1 (tw @m5 (tw @m6 (tw @mX (tw @mF (tw @hj (tw @jz (tw @aP.eq_1 (tw @mg (tw @kc (tw @iR (tw @gH (tw @j3 (tw @x1 (tw @x2 (tw @x3 (tw @wX (tw @wA (tw @wF @cJ.eq_1)))))))))))))))))))) ?_;(repeat(apply Pn.mk;intro N Z))))<;>(try refine dv ?_ ?_)<;>(try((repeat(revert N;apply Pn.out));refine wk (tw @m0 (tw @m1 (tw @m5 (tw @m6 (tw @mX (tw @mF (tw @hj (tw @jz (tw @aP.eq_1 (tw @mg (tw @kc (tw @iR (tw @gH (tw @j3 (tw @x1 (tw @x2 (tw @x3 (tw @wX (tw @wA (tw @wF @cJ.eq_1)))))))))))))))))))) ?_;(repeat(apply Pn.mk;intro N Z))))
     all_goals
      refine⟨by simp only[go_sem, ↓reduceIte,Nat.reduceEqDiff,Nat.reduceAdd,Nat.reduceSub,Nat.reduceLeDiff,reduceCtorEq,m0,m1,m5,m6,mX,mF,hj,jz,aP,mg,kc,iR,gH,j3,x1,x2,x3,wX,wA,wF,cJ],by simp only[go_sem, ↓reduceIte,Nat.reduceEqDiff,Nat.reduceAdd,Nat.reduceSub,Nat.reduceLeDiff,reduceCtorEq,m0,m1,m5,m6,mX,mF,hj,jz,aP,mg,kc,iR,gH,j3,x1,x2,x3,wX,wA,wF,cJ],by simp only[go_sem, ↓reduceIte,Nat.reduceEqDiff,Nat.reduceAdd,Nat.reduceSub,Nat.reduceLeDiff,reduceCtorEq,m0,m1,m5,m6,mX,mF,hj,jz,aP,mg,kc,iR,gH,j3,x1,x2,x3,wX,wA,wF,cJ],by simp only[go_sem, ↓reduceIte,Nat.reduceEqDiff,Nat.reduceAdd,Nat.reduceSub,Nat.reduceLeDiff,reduceCtorEq,m0,m1,m5,m6,mX,mF,hj,jz,aP,mg,kc,iR,gH,j3,x1,x2,x3,wX,wA,wF,cJ],by simp only[go_sem, ↓reduceIte,Nat.reduceEqDiff,Nat.reduceAdd,Nat.reduceSub,Nat.reduceLeDiff,reduceCtorEq,m0,m1,m5,m6,mX,mF,hj,jz,aP,mg,kc,iR,gH,j3,x1,x2,x3,wX,wA,wF,cJ],by simp only[go_sem, ↓reduceIte,Nat.reduceEqDiff,Nat.reduceAdd,Nat.reduceSub,Nat.reduceLeDiff,reduceCtorEq,m0,m1,m5,m6,mX,mF,hj,jz,aP,mg,kc,iR,gH,j3,x1,x2,x3,wX,wA,wF,cJ],Mj _ (by simp only[go_sem, ↓reduceIte,Nat.reduceEqDiff,Nat.reduceAdd,Nat.reduceSub,Nat.reduceLeDiff,reduceCtorEq,m0,m1,m5,m6,mX,mF,hj,jz,aP,mg,kc,iR,gH,j3,x1,x2,x3,wX,wA,wF,cJ,List.length_nil]) (by simp only[go_sem, ↓reduceIte,Nat.reduceEqDiff,Nat.reduceAdd,Nat.reduceSub,Nat.reduceLeDiff,reduceCtorEq,m0,m1,m5,m6,mX,mF,hj,jz,aP,mg,kc,iR,gH,j3,x1,x2,x3,wX,wA,wF,cJ,List.map_nil,List.nil_append]) (fun i hi SX fZ=>?_),aQ⟩
      clear fZ
      simp only[go_sem, ↓reduceIte,Nat.reduceEqDiff,Nat.reduceAdd,Nat.reduceSub,Nat.reduceLeDiff,reduceCtorEq,wX,wA,wF,dh hi,SX]
    ·simp only[List.cons.injEq,and_true]at Et
     subst Et
     have qZ:=dh Pp
     have y1:=dP (a:=A) (b:=id) ah
     have y2:=dP (a:=F) (b:=id) xY
     have y3:=dP (a:=X) (b:=id) ah
     have e3:Lb.length+1<=16777216:=ah
     have z1:(Lb.map eN).length=Lb.length:=by simp
     refine dv ?_ ?_<;>(try((repeat(revert N;apply Pn.out));refine wk (tw @m0 (tw @m1 (tw @m5 (tw @m6 (tw @mX (tw @mF (tw @hj (tw @jz (tw @aP.eq_1 (tw @mg (tw @kc (tw @iR (tw @gH (tw @j3 (tw @x1 (tw @x2 (tw @x3 (tw @wX (tw @wA (tw @wF (tw @cJ.eq_1 (tw @hid (tw @qZ (tw @y1 (tw @y2 (tw @y3 (tw @e3 @z1))))))))))))))))))))))))))) ?_;(repeat(apply Pn.mk;intro N Z))))<;>(try refine dv ?_ ?_)<;>(try((repeat(revert N;apply Pn.out));refine wk (tw @m0 (tw @m1 (tw @m5 (tw @m6 (tw @mX (tw @mF (tw @hj (tw @jz (tw @aP.eq_1 (tw @mg (tw @kc (tw @iR (tw @gH (tw @j3 (tw @x1 (tw @x2 (tw @x3 (tw @wX (tw @wA (tw @wF (tw @cJ.eq_1 (tw @hid (tw @qZ (tw @y1 (tw @y2 (tw @y3 (tw @e3 @z1))))))))))))))))))))))))))) ?_;(repeat(apply Pn.mk;intro N Z))))<;>(try refine dv ?_ ?_)<;>(try((repeat(revert N;apply Pn.out));refine wk (tw @m0 (tw @m1 (tw @m5 (tw @m6 (tw @mX (tw @mF (tw @hj (tw @jz (tw @aP.eq_1 (tw @mg (tw @kc (tw @iR (tw @gH (tw @j3 (tw @x1 (tw @x2 (tw @x3 (tw @wX (tw @wA (tw @wF (tw @cJ.eq_1 (tw @hid (tw @qZ (tw @y1 (tw @y2 (tw @y3 (tw @e3 @z1))))))))))))))))))))))))))) ?_;(repeat(apply Pn.mk;intro N Z))))<;>(try refine dv ?_ ?_)<;>(try((repeat(revert N;apply Pn.out));refine wk (tw @m0 (tw @m1 (tw @m5 (tw @m6 (tw @mX (tw @mF (tw @hj (tw @jz (tw @aP.eq_1 (tw @mg (tw @kc (tw @iR (tw @gH (tw @j3 (tw @x1 (tw @x2 (tw @x3 (tw @wX (tw @wA (tw @wF (tw @cJ.eq_1 (tw @hid (tw @qZ (tw @y1 (tw @y2 (tw @y3 (tw @e3 @z1))))))))))))))))))))))))))) ?_;(repeat(apply Pn.mk;intro N Z))))<;>(try refine dv ?_ ?_)<;>(try((repeat(revert N;apply Pn.out));refine wk (tw @m0 (tw @m1 (tw @m5 (tw @m6 (tw @mX (tw @mF (tw @hj (tw @jz (tw @aP.eq_1 (tw @mg (tw @kc (tw @iR (tw @gH (tw @j3 (tw @x1 (tw @x2 (tw @x3 (tw @wX (tw @wA (tw @wF (tw @cJ.eq_1 (tw @hid (tw @qZ (tw @y1 (tw @y2 (tw @y3 (tw @e3 @z1))))))))))))))))))))))))))) ?_;(repeat(apply Pn.mk;intro N Z))))<;>(try refine dv ?_ ?_)<;>(try((repeat(revert N;apply Pn.out));refine wk (tw @m0 (tw @m1 (tw @m5 (tw @m6 (tw @mX (tw @mF (tw @hj (tw @jz (tw @aP.eq_1 (tw @mg (tw @kc (tw @iR (tw @gH (tw @j3 (tw @x1 (tw @x2 (tw @x3 (tw @wX (tw @wA (tw @wF (tw @cJ.eq_1 (tw @hid (tw @qZ (tw @y1 (tw @y2 (tw @y3 (tw @e3 @z1))))))))))))))))))))))))))) ?_;(repeat(apply Pn.mk;intro N Z))))
     all_goals
      refine⟨by simp only[go_sem, ↓reduceIte,Nat.reduceEqDiff,Nat.reduceAdd,Nat.reduceSub,Nat.reduceLeDiff,reduceCtorEq,m0,m1,m5,m6,mX,mF,hj,jz,aP,mg,kc,iR,gH,j3,x1,x2,x3,wX,wA,wF,cJ,hid,qZ,y1,y2,y3,e3,z1],by simp only[go_sem, ↓reduceIte,Nat.reduceEqDiff,Nat.reduceAdd,Nat.reduceSub,Nat.reduceLeDiff,reduceCtorEq,m0,m1,m5,m6,mX,mF,hj,jz,aP,mg,kc,iR,gH,j3,x1,x2,x3,wX,wA,wF,cJ,hid,qZ,y1,y2,y3,e3,z1],by simp only[go_sem, ↓reduceIte,Nat.reduceEqDiff,Nat.reduceAdd,Nat.reduceSub,Nat.reduceLeDiff,reduceCtorEq,m0,m1,m5,m6,mX,mF,hj,jz,aP,mg,kc,iR,gH,j3,x1,x2,x3,wX,wA,wF,cJ,hid,qZ,y1,y2,y3,e3,z1],by simp only[go_sem, ↓reduceIte,Nat.reduceEqDiff,Nat.reduceAdd,Nat.reduceSub,Nat.reduceLeDiff,reduceCtorEq,m0,m1,m5,m6,mX,mF,hj,jz,aP,mg,kc,iR,gH,j3,x1,x2,x3,wX,wA,wF,cJ,hid,qZ,y1,y2,y3,e3,z1],by simp only[go_sem, ↓reduceIte,Nat.reduceEqDiff,Nat.reduceAdd,Nat.reduceSub,Nat.reduceLeDiff,reduceCtorEq,m0,m1,m5,m6,mX,mF,hj,jz,aP,mg,kc,iR,gH,j3,x1,x2,x3,wX,wA,wF,cJ,hid,qZ,y1,y2,y3,e3,z1],by simp only[go_sem, ↓reduceIte,Nat.reduceEqDiff,Nat.reduceAdd,Nat.reduceSub,Nat.reduceLeDiff,reduceCtorEq,m0,m1,m5,m6,mX,mF,hj,jz,aP,mg,kc,iR,gH,j3,x1,x2,x3,wX,wA,wF,cJ,hid,qZ,y1,y2,y3,e3,z1],Mj _ (by simp only[go_sem, ↓reduceIte,Nat.reduceEqDiff,Nat.reduceAdd,Nat.reduceSub,Nat.reduceLeDiff,reduceCtorEq,m0,m1,m5,m6,mX,mF,hj,jz,aP,mg,kc,iR,gH,j3,x1,x2,x3,wX,wA,wF,cJ,hid,qZ,y1,y2,y3,e3,z1,List.length_nil]) (by simp only[go_sem, ↓reduceIte,Nat.reduceEqDiff,Nat.reduceAdd,Nat.reduceSub,Nat.reduceLeDiff,reduceCtorEq,m0,m1,m5,m6,mX,mF,hj,jz,aP,mg,kc,iR,gH,j3,x1,x2,x3,wX,wA,wF,cJ,hid,qZ,y1,y2,y3,e3,z1,List.map_nil,List.nil_append]) (fun i hi SX fZ=>?_),aQ⟩
      have ig:=fZ id rfl
      simp only[go_sem, ↓reduceIte,Nat.reduceEqDiff,Nat.reduceAdd,Nat.reduceSub,Nat.reduceLeDiff,reduceCtorEq,wX,wA,wF,dh hi,SX,ig]
  ·intro N Z
   rcases L5 with⟨Oi,Et⟩|⟨id,Et,hLp,hid,Pp,xY⟩
   ·simp only[List.cons.injEq,and_true]at Et
    subst Et
    subst Oi
    refine dv ?_ ?_<;>(try((repeat(revert N;apply Pn.out));refine wk (tw @a6 (tw @a5 (tw @ag0 (tw @ag1 (tw @a0 (tw @a1 (tw @hj (tw @jz (tw @aP.eq_1 (tw @ag (tw @kb (tw @iR (tw @gH (tw @jZ (tw @x1 (tw @x2 (tw @x3 (tw @vX (tw @vA (tw @vF @cJ.eq_1)))))))))))))))))))) ?_;(repeat(apply Pn.mk;intro N Z))))<;>(try refine dv ?_ ?_)<;>(try((repeat(revert N;apply Pn.out));refine wk (tw @a6 (tw @a5 (tw @ag0 (tw @ag1 (tw @a0 (tw @a1 (tw @hj (tw @jz (tw @aP.eq_1 (tw @ag (tw @kb (tw @iR (tw @gH (tw @jZ (tw @x1 (tw @x2 (tw @x3 (tw @vX (tw @vA (tw @vF @cJ.eq_1)))))))))))))))))))) ?_;(repeat(apply Pn.mk;intro N Z))))<;>(try refine dv ?_ ?_)<;>(try((repeat(revert N;apply Pn.out));refine wk (tw @a6 (tw @a5 (tw @ag0 (tw @ag1 (tw @a0 (tw @a1 (tw @hj (tw @jz (tw @aP.eq_1 (tw @ag (tw @kb (tw @iR (tw @gH (tw @jZ (tw @x1 (tw @x2 (tw @x3 (tw @vX (tw @vA (tw @vF @cJ.eq_1)))))))))))))))))))) ?_;(repeat(apply Pn.mk;intro N Z))))<;>(try refine dv ?_ ?_)<;>(try((repeat(revert N;apply Pn.out));refine wk (tw @a6 (tw @a5 (tw @ag0 (tw @ag1 (tw @a0 (tw @a1 (tw @hj (tw @jz (tw @aP.eq_1 (tw @ag (tw @kb (tw @iR (tw @gH (tw @jZ (tw @x1 (tw @x2 (tw @x3 (tw @vX (tw @vA (tw @vF @cJ.eq_1)))))))))))))))))))) ?_;(repeat(apply Pn.mk;intro N Z))))<;>(try refine dv ?_ ?_)<;>(try((repeat(revert N;apply Pn.out));refine wk (tw @a6 (tw @a5 (tw @ag0 (tw @ag1 (tw @a0 (tw @a1 (tw @hj (tw @jz (tw @aP.eq_1 (tw @ag (tw @kb (tw @iR (tw @gH (tw @jZ (tw @x1 (tw @x2 (tw @x3 (tw @vX (tw @vA (tw @vF @cJ.eq_1)))))))))))))))))))) ?_;(repeat(apply Pn.mk;intro N Z))))<;>(try refine dv ?_ ?_)<;>(try((repeat(revert N;apply Pn.out));refine wk (tw @a6 (tw @a5 (tw @ag0 (tw @ag1 (tw @a0 (tw @a1 (tw @hj (tw @jz (tw @aP.eq_1 (tw @ag (tw @kb (tw @iR (tw @gH (tw @jZ (tw @x1 (tw @x2 (tw @x3 (tw @vX (tw @vA (tw @vF @cJ.eq_1)))))))))))))))))))) ?_;(repeat(apply Pn.mk;intro N Z))))
    all_goals
     refine⟨by simp only[go_sem, ↓reduceIte,Nat.reduceEqDiff,Nat.reduceAdd,Nat.reduceSub,Nat.reduceLeDiff,reduceCtorEq,a6,a5,ag0,ag1,a0,a1,hj,jz,aP,ag,kb,iR,gH,jZ,x1,x2,x3,vX,vA,vF,cJ],by simp only[go_sem, ↓reduceIte,Nat.reduceEqDiff,Nat.reduceAdd,Nat.reduceSub,Nat.reduceLeDiff,reduceCtorEq,a6,a5,ag0,ag1,a0,a1,hj,jz,aP,ag,kb,iR,gH,jZ,x1,x2,x3,vX,vA,vF,cJ],by simp only[go_sem, ↓reduceIte,Nat.reduceEqDiff,Nat.reduceAdd,Nat.reduceSub,Nat.reduceLeDiff,reduceCtorEq,a6,a5,ag0,ag1,a0,a1,hj,jz,aP,ag,kb,iR,gH,jZ,x1,x2,x3,vX,vA,vF,cJ],by simp only[go_sem, ↓reduceIte,Nat.reduceEqDiff,Nat.reduceAdd,Nat.reduceSub,Nat.reduceLeDiff,reduceCtorEq,a6,a5,ag0,ag1,a0,a1,hj,jz,aP,ag,kb,iR,gH,jZ,x1,x2,x3,vX,vA,vF,cJ],by simp only[go_sem, ↓reduceIte,Nat.reduceEqDiff,Nat.reduceAdd,Nat.reduceSub,Nat.reduceLeDiff,reduceCtorEq,a6,a5,ag0,ag1,a0,a1,hj,jz,aP,ag,kb,iR,gH,jZ,x1,x2,x3,vX,vA,vF,cJ],by simp only[go_sem, ↓reduceIte,Nat.reduceEqDiff,Nat.reduceAdd,Nat.reduceSub,Nat.reduceLeDiff,reduceCtorEq,a6,a5,ag0,ag1,a0,a1,hj,jz,aP,ag,kb,iR,gH,jZ,x1,x2,x3,vX,vA,vF,cJ],Mi _ (by simp only[go_sem, ↓reduceIte,Nat.reduceEqDiff,Nat.reduceAdd,Nat.reduceSub,Nat.reduceLeDiff,reduceCtorEq,a6,a5,ag0,ag1,a0,a1,hj,jz,aP,ag,kb,iR,gH,jZ,x1,x2,x3,vX,vA,vF,cJ,List.length_nil]) (by simp only[go_sem, ↓reduceIte,Nat.reduceEqDiff,Nat.reduceAdd,Nat.reduceSub,Nat.reduceLeDiff,reduceCtorEq,a6,a5,ag0,ag1,a0,a1,hj,jz,aP,ag,kb,iR,gH,jZ,x1,x2,x3,vX,vA,vF,cJ,List.map_nil,List.nil_append]) (fun i hi SX fZ=>?_),aQ⟩
     clear fZ
     simp only[go_sem, ↓reduceIte,Nat.reduceEqDiff,Nat.reduceAdd,Nat.reduceSub,Nat.reduceLeDiff,reduceCtorEq,vX,vA,vF,dh hi,SX]
   ·simp only[List.cons.injEq,and_true]at Et
    subst Et
    have qZ:=dh Pp
    have y1:=dP (a:=A) (b:=id) ah
    have y2:=dP (a:=F) (b:=id) xY
    have y3:=dP (a:=X) (b:=id) ah
    have e3:La.length+1<=16777216:=ah
    have z1:(La.map eN).length=La.length:=by simp
    refine dv ?_ ?_<;>(try((repeat(revert N;apply Pn.out));refine wk (tw @a6 (tw @a5 (tw @ag0 (tw @ag1 (tw @a0 (tw @a1 (tw @hj (tw @jz (tw @aP.eq_1 (tw @ag (tw @kb (tw @iR (tw @gH (tw @jZ (tw @x1 (tw @x2 (tw @x3 (tw @vX (tw @vA (tw @vF (tw @cJ.eq_1 (tw @hid (tw @qZ (tw @y1 (tw @y2 (tw @y3 (tw @e3 @z1))))))))))))))))))))))))))) ?_;(repeat(apply Pn.mk;intro N Z))))<;>(try refine dv ?_ ?_)<;>(try((repeat(revert N;apply Pn.out));refine wk (tw @a6 (tw @a5 (tw @ag0 (tw @ag1 (tw @a0 (tw @a1 (tw @hj (tw @jz (tw @aP.eq_1 (tw @ag (tw @kb (tw @iR (tw @gH (tw @jZ (tw @x1 (tw @x2 (tw @x3 (tw @vX (tw @vA (tw @vF (tw @cJ.eq_1 (tw @hid (tw @qZ (tw @y1 (tw @y2 (tw @y3 (tw @e3 @z1))))))))))))))))))))))))))) ?_;(repeat(apply Pn.mk;intro N Z))))<;>(try refine dv ?_ ?_)<;>(try((repeat(revert N;apply Pn.out));refine wk (tw @a6 (tw @a5 (tw @ag0 (tw @ag1 (tw @a0 (tw @a1 (tw @hj (tw @jz (tw @aP.eq_1 (tw @ag (tw @kb (tw @iR (tw @gH (tw @jZ (tw @x1 (tw @x2 (tw @x3 (tw @vX (tw @vA (tw @vF (tw @cJ.eq_1 (tw @hid (tw @qZ (tw @y1 (tw @y2 (tw @y3 (tw @e3 @z1))))))))))))))))))))))))))) ?_;(repeat(apply Pn.mk;intro N Z))))<;>(try refine dv ?_ ?_)<;>(try((repeat(revert N;apply Pn.out));refine wk (tw @a6 (tw @a5 (tw @ag0 (tw @ag1 (tw @a0 (tw @a1 (tw @hj (tw @jz (tw @aP.eq_1 (tw @ag (tw @kb (tw @iR (tw @gH (tw @jZ (tw @x1 (tw @x2 (tw @x3 (tw @vX (tw @vA (tw @vF (tw @cJ.eq_1 (tw @hid (tw @qZ (tw @y1 (tw @y2 (tw @y3 (tw @e3 @z1))))))))))))))))))))))))))) ?_;(repeat(apply Pn.mk;intro N Z))))<;>(try refine dv ?_ ?_)<;>(try((repeat(revert N;apply Pn.out));refine wk (tw @a6 (tw @a5 (tw @ag0 (tw @ag1 (tw @a0 (tw @a1 (tw @hj (tw @jz (tw @aP.eq_1 (tw @ag (tw @kb (tw @iR (tw @gH (tw @jZ (tw @x1 (tw @x2 (tw @x3 (tw @vX (tw @vA (tw @vF (tw @cJ.eq_1 (tw @hid (tw @qZ (tw @y1 (tw @y2 (tw @y3 (tw @e3 @z1))))))))))))))))))))))))))) ?_;(repeat(apply Pn.mk;intro N Z))))<;>(try refine dv ?_ ?_)<;>(try((repeat(revert N;apply Pn.out));refine wk (tw @a6 (tw @a5 (tw @ag0 (tw @ag1 (tw @a0 (tw @a1 (tw @hj (tw @jz (tw @aP.eq_1 (tw @ag (tw @kb (tw @iR (tw @gH (tw @jZ (tw @x1 (tw @x2 (tw @x3 (tw @vX (tw @vA (tw @vF (tw @cJ.eq_1 (tw @hid (tw @qZ (tw @y1 (tw @y2 (tw @y3 (tw @e3 @z1))))))))))))))))))))))))))) ?_;(repeat(apply Pn.mk;intro N Z))))
    all_goals
     refine⟨by simp only[go_sem, ↓reduceIte,Nat.reduceEqDiff,Nat.reduceAdd,Nat.reduceSub,Nat.reduceLeDiff,reduceCtorEq,a6,a5,ag0,ag1,a0,a1,hj,jz,aP,ag,kb,iR,gH,jZ,x1,x2,x3,vX,vA,vF,cJ,hid,qZ,y1,y2,y3,e3,z1],by simp only[go_sem, ↓reduceIte,Nat.reduceEqDiff,Nat.reduceAdd,Nat.reduceSub,Nat.reduceLeDiff,reduceCtorEq,a6,a5,ag0,ag1,a0,a1,hj,jz,aP,ag,kb,iR,gH,jZ,x1,x2,x3,vX,vA,vF,cJ,hid,qZ,y1,y2,y3,e3,z1],by simp only[go_sem, ↓reduceIte,Nat.reduceEqDiff,Nat.reduceAdd,Nat.reduceSub,Nat.reduceLeDiff,reduceCtorEq,a6,a5,ag0,ag1,a0,a1,hj,jz,aP,ag,kb,iR,gH,jZ,x1,x2,x3,vX,vA,vF,cJ,hid,qZ,y1,y2,y3,e3,z1],by simp only[go_sem, ↓reduceIte,Nat.reduceEqDiff,Nat.reduceAdd,Nat.reduceSub,Nat.reduceLeDiff,reduceCtorEq,a6,a5,ag0,ag1,a0,a1,hj,jz,aP,ag,kb,iR,gH,jZ,x1,x2,x3,vX,vA,vF,cJ,hid,qZ,y1,y2,y3,e3,z1],by simp only[go_sem, ↓reduceIte,Nat.reduceEqDiff,Nat.reduceAdd,Nat.reduceSub,Nat.reduceLeDiff,reduceCtorEq,a6,a5,ag0,ag1,a0,a1,hj,jz,aP,ag,kb,iR,gH,jZ,x1,x2,x3,vX,vA,vF,cJ,hid,qZ,y1,y2,y3,e3,z1],by simp only[go_sem, ↓reduceIte,Nat.reduceEqDiff,Nat.reduceAdd,Nat.reduceSub,Nat.reduceLeDiff,reduceCtorEq,a6,a5,ag0,ag1,a0,a1,hj,jz,aP,ag,kb,iR,gH,jZ,x1,x2,x3,vX,vA,vF,cJ,hid,qZ,y1,y2,y3,e3,z1],Mi _ (by simp only[go_sem, ↓reduceIte,Nat.reduceEqDiff,Nat.reduceAdd,Nat.reduceSub,Nat.reduceLeDiff,reduceCtorEq,a6,a5,ag0,ag1,a0,a1,hj,jz,aP,ag,kb,iR,gH,jZ,x1,x2,x3,vX,vA,vF,cJ,hid,qZ,y1,y2,y3,e3,z1,List.length_nil]) (by simp only[go_sem, ↓reduceIte,Nat.reduceEqDiff,Nat.reduceAdd,Nat.reduceSub,Nat.reduceLeDiff,reduceCtorEq,a6,a5,ag0,ag1,a0,a1,hj,jz,aP,ag,kb,iR,gH,jZ,x1,x2,x3,vX,vA,vF,cJ,hid,qZ,y1,y2,y3,e3,z1,List.map_nil,List.nil_append]) (fun i hi SX fZ=>?_),aQ⟩
     have ig:=fZ id rfl
     simp only[go_sem, ↓reduceIte,Nat.reduceEqDiff,Nat.reduceAdd,Nat.reduceSub,Nat.reduceLeDiff,reduceCtorEq,vX,vA,vF,dh hi,SX,ig]
 ·have iH:j=bs.length:=ah
  subst iH
  (try((repeat(revert N;apply Pn.out));refine wk (tw @a6 (tw @a5 (tw @ag0 (tw @ag1 (tw @a0 (tw @a1 @hj)))))) ?_;(repeat(apply Pn.mk;intro N Z))))
  exact fV (.inl rfl) (by simp only[gO,jq,go_sem, ↓reduceIte,Nat.reduceEqDiff,Nat.reduceAdd,Nat.reduceSub,Nat.reduceLeDiff,reduceCtorEq];rfl) ⟨X,A,F,rfl,hXs,⟨ag0,⟨rows,ids,ag,hR,pU,fun x hx=>by have:=pY x hx;(try dsimp only);omega⟩,ag1,hXA,hAF,aQ⟩⟩
theorem tO.frame {A:Id} {lo nx Ay:Nat} {L:List (List Nat)} {g g':Rows} (h:tO A lo L g nx) (hA:A.bj<nx) (hf:∀i:Id,i.bj<nx->lo<i.bj∨i=A->g' i=g i) (hn:nx<=Ay):tO A lo L g' Ay:=by
 obtain⟨rows,ids,h1,h2,h3,h4⟩:=h
 refine⟨rows,ids,(hf A hA (.inr rfl)).trans h1,h2.frame Ry fun i hi=>hf i (h4 i hi).2 (.inl (h4 i hi).1),h3,fun i hi=>?_⟩
 have:=h4 i hi;omega
theorem qi.frame {cnt:Nat} {bs:List PB} {f:Nat->Int} {X A F:Id} {g g':Rows} {nx Ay:Nat} (h:qi cnt bs f X A F g nx) (hf:∀i:Id,i.bj<nx->g' i=g i) (hn:nx<=Ay):qi cnt bs f X A F g' Ay:=by
 have h1:=h.xa;have h2:=h.af;have h3:=h.fn
 exact⟨(hf X ah).trans h.x,h.a.frame ah (fun i hi _=>hf i hi) hn,(hf F h3).trans h.f,h1,h2,ah⟩
theorem qi.Wq {cnt:Nat} {bs:List PB} {f f':Nat->Int} {X A F:Id} {g g':Rows} {nx Ay:Nat} (h:qi cnt bs f X A F g nx) (hF:g' F=some ⟨true,1,fc f' bs.length⟩) (hf:∀i:Id,i.bj<nx->(i=F)=False->g' i=g i) (hn:nx<=Ay):qi cnt bs f' X A F g' Ay:=by
 have h1:=h.xa;have h2:=h.af;have h3:=h.fn
 refine⟨(hf X ah (dP ah).1).trans h.x,h.a.frame ah (fun i hi kH=>hf i hi ?_) hn,hF,h1,h2,ah⟩
 rcases kH with kH|rfl
 ·exact(dP kH).2
 ·exact(dP h2).1
theorem TJ (cnt:Nat) (bs:List PB) (f:Nat->Int) (hs:Small bs f) (e v:Nat) (he:e<bs.length) (X A F:Id) (σ:az) (nx:Nat) (hS:qi cnt bs f X A F σ.get nx) (hn:nx<=σ.next):
  Call Tryz.prog 164 [.ptr X 0 0,.int .i64 v,.int .i64 e] σ fun r σ'=>qi cnt bs (xl bs f e v) X A F σ'.get nx/\σ.next<=σ'.next/\∀i:Id,(i=F)=False->σ'.get i=σ.get i:=by
 refine hZ fR rfl fun hl=>?_
 clear hl
 have hX:=hS.x
 have hF:=hS.f
 have hb:=xP he
 have W5:=eX (f:=f) he
 have tl:=eM f bs.length
 obtain⟨⟨s0,s1⟩,s2,s3⟩:=hs e he
 have hei:(e:Int)<(bs.length:Int):=ah
 have w1:IntKind.i64.wrap (f e+1)=f e+1:=cm ah
 have w2:IntKind.i64.wrap (f e-1)=f e+-1:=by rw[cm ah];omega
 rw[aJ]at W5
 unfold xl
 by_cases h:(dq bs e).a=v
 ·have fx:(fc f bs.length).set e (aJ (f e+1))=fc (fun j=>f j+if j=e then(if (dq bs e).a=v then 1 else -1)else 0) bs.length:=mE he (by rw[if_pos rfl,if_pos h]) fun i _ hi=>by rw[if_neg hi,Int.add_zero]
  rw[aJ]at fx
  generalize Vy:dq bs e=b at *
  have hd:decide ((b.a:Int)=(v:Int))=true:=decide_eq_true (by rw[h])
  (try((repeat(revert N;apply Pn.out));refine wk (tw @hX (tw @hF (tw @hb (tw @W5 (tw @tl (tw @hei (tw @w1 (tw @fx (tw @hd (tw @aP.eq_1 @cJ.eq_1)))))))))) ?_;(repeat(apply Pn.mk;intro N Z))))
  exact fV (.inr rfl) (vs:=[]) rfl ⟨hS.Wq (sd @Nat.zero_add) (fun i hi ig=>sd @ig) (Nat.le_refl _),aQ,fun i ig=>sd @ig⟩
 ·have fx:(fc f bs.length).set e (aJ (f e+-1))=fc (fun j=>f j+if j=e then(if (dq bs e).a=v then 1 else -1)else 0) bs.length:=mE he (by rw[if_pos rfl,if_neg h]) fun i _ hi=>by rw[if_neg hi,Int.add_zero]
  rw[aJ]at fx
  generalize Vy:dq bs e=b at *
  have hd:decide ((b.a:Int)=(v:Int))=false:=decide_eq_false fun hc=>h ah
  (try((repeat(revert N;apply Pn.out));refine wk (tw @hX (tw @hF (tw @hb (tw @W5 (tw @tl (tw @hei (tw @w2 (tw @fx (tw @hd (tw @aP.eq_1 @cJ.eq_1)))))))))) ?_;(repeat(apply Pn.mk;intro N Z))))
  exact fV (.inr rfl) (vs:=[]) rfl ⟨hS.Wq (sd @Nat.zero_add) (fun i hi ig=>sd @ig) (Nat.le_refl _),aQ,fun i ig=>sd @ig⟩
structure qj (bs:List PB) (out:Nat->Int) (f f':Nat->Int) (x v:Nat):Prop where
 le:∀i,i<bs.length->f' i<=(dq bs i).s/\-(dq bs i).s<=f' i
 cut:∀S:Nat->Bool,Jq S bs f'=Jq S bs f+bi (S x)-bi (S v)
 BC:∀e,e<bs.length->out (dq bs e).a<=out v->out (dq bs e).b<=out v->f' e=f e
section
variable {cnt:Nat} {bs:List PB} {out:Nat->Int} {f f':Nat->Int} {x v y:Nat}
theorem qj.start (h:∀i,i<bs.length->f i<=(dq bs i).s/\-(dq bs i).s<=f i):qj bs out f f x x:=⟨h,fun S=>ah,fun _ _ _ _=>rfl⟩
theorem qj.step (h:qj bs out f f' x v) {e:Nat} (he:e<bs.length) (hi:HY bs e v) (hr:0<gV bs f' e v) (hd:out (dj bs e v)=out v-1):qj bs out f (xl bs f' e v) x (dj bs e v):=by
 refine⟨fun i lU=>?_,fun S=>?_,fun i lU ha hb=>?_⟩
 ·have h1:=h.le i lU
  unfold xl
  by_cases G1:i=e
  ·subst G1
   rw[if_pos rfl]
   unfold gV at hr
   split at hr<;>rename_i hc
   ·rw[if_pos hc];omega
   ·rw[if_neg hc];omega
  ·rw[if_neg G1];omega
 ·rw[Jr he hi,h.cut S];omega
 ·have G1:i≠e:=by
   rintro rfl
   rcases hi with hi|hi
   ·rw[hi]at ha;omega
   ·rw[hi]at hb;omega
  unfold xl
  rw[if_neg G1,Int.add_zero]
  exact h.BC i lU ah ah
theorem qj.goes (h:qj bs out f f' x v) (hs:B6 cnt bs f y out) (hv:v<cnt) (h0:0<out v):∃e∈jQ bs bs.length v,0<gV bs f' e v/\out (dj bs e v)=out v-1:=by
 obtain⟨e,h1,h2,h3,h4⟩:=hs.down v hv h0
 refine⟨e,uD.2 ⟨h1,h2⟩,?_,h4⟩
 have hf:f' e=f e:=by
  refine h.BC e h1 ?_ ?_
  ·unfold dj at h4
   split at h4
   ·rename_i ha;rw[ha];exact Int.le_refl _
   ·omega
  ·unfold dj at h4
   rcases h2 with h2|h2
   ·rw[if_pos h2]at h4;omega
   ·rw[h2];exact Int.le_refl _
 unfold gV at h3 ⊢
 rw[hf];exact h3
theorem qj.done {val:Int} (h:qj bs out f f' x y) (hf:ll bs f x y val):ll bs f' x y (val+1):=
 ⟨h.le,fun S hx hy=>by rw[h.cut S,hf.cut S hx hy,hx,hy];simp[bi]⟩
theorem HI {val:Int} (hs:B6 cnt bs f y out) (ok:pq cnt bs) (hf:ll bs f x y val) (hx:out x<0):∃S:Nat->Bool,S x=true/\S y=false/\val=jY S bs:=by
 refine⟨fun v=>decide (out v<0),decide_eq_true hx,decide_eq_false (by rw[hs.first];omega),hf.full (decide_eq_true hx) (decide_eq_false (by rw[hs.first];omega)) fun i hi qa=>⟨fun h1 h2 hr=>?_,fun h1 h2 hr=>?_⟩⟩
 ·have Sx:=of_decide_eq_true h1
  have A8:=of_decide_eq_false h2
  have:=hs.shut i (dq bs i).a hi (.inl rfl) (by unfold dj;rw[if_pos rfl];omega) hr
  omega
 ·have Sx:=of_decide_eq_true h1
  have A8:=of_decide_eq_false h2
  have:=hs.shut i (dq bs i).b hi (.inr rfl) (by unfold dj;rw[if_neg qa];omega) hr
  omega
end
theorem zN {bs:List PB} {f:Nat->Int} (eA:∀e,e<bs.length->0<=(dq bs e).s/\(dq bs e).s<=4) (h:∀i,i<bs.length->f i<=(dq bs i).s/\-(dq bs i).s<=f i):Small bs f:=fun e he=>by
 have:=eA e he;have:=h e he;omega
theorem tO.at_ {A:Id} {lo nx v:Nat} {L:List (List Nat)} {l:List Nat} {g:Rows} (h:tO A lo L g nx) (hv:L[v]? =some l) (hl:0<l.length):∃(rows:List (List AV)) (id:Id),g A=some ⟨true,1,rows⟩/\rows.length=L.length/\rows[v]? =some [.own id 0 l.length]/\g id=some ⟨true,1,l.map eN⟩/\lo<id.bj/\id.bj<nx:=by
 obtain⟨rows,ids,h1,h2,h3,h4⟩:=h
 have hk:v<L.length:=(List.getElem?_eq_some_iff.1 hv).1
 obtain⟨cs,ic,eD,hR,Xd⟩:=h2.at_ v hk
 rw[mh hv hk]at hR
 rcases hR with⟨h5,_⟩|⟨id,rfl,_,h6,rfl⟩
 ·subst h5;simp at hl
 ·have:=h4 id (Xd id (by simp))
  exact⟨rows,id,h1,h2.len,eD,h6,this.1,this.2⟩
theorem Sw (cnt:Nat) (hn:cnt<=1048576) (bs:List PB) (ok:pq cnt bs) (iD:bs.length<=1048576) (eA:∀e,e<bs.length->0<=(dq bs e).s/\(dq bs e).s<=4) (f:Nat->Int) (x y:Nat) (hx:x<cnt) (hy:y<cnt) (Tp:x≠y) (val:Int) (hf:ll bs f x y val)
  (X A F:Id) (σ:az) (nb:Nat) (hS:qi cnt bs f X A F σ.get nb) (qb:nb<=σ.next):
  Call Tryz.prog 145 [.ptr X 0 0,.int .i64 x,.int .i64 y] σ fun r σ'=>∃b f',r=.bool b/\qi cnt bs f' X A F σ'.get nb/\σ.next<=σ'.next/\(∀i:Id,i.bj<nb->(i=F)=False->σ'.get i=σ.get i)/\
   (b=false->f'=f/\∃S:Nat->Bool,S x=true/\S y=false/\val=jY S bs)/\(b=true->ll bs f' x y (val+1)):=by
 refine hZ fR rfl fun hl=>?_
 clear hl
 have Ga:(x:Int)<(cnt:Int):=ah
 have hz:∀(g:Rows),(∀i:Id,i.bj<nb->g i=σ.get i)->eI (eL g) 6 [.ptr X 0 0,.int .i64 (y:Int)]=some [.dF (im cnt bs f),.int .i64 y]:=fun g hg=>by
  have:=(hS.frame hg (Nat.le_refl _)).fz
  simp only[ar,ax,this,aW,Option.map_some]
 (try((repeat(revert N;apply Pn.out));refine wk @Nat.zero_add ?_;(repeat(apply Pn.mk;intro N Z))))
 refine .inr (aE _ _ _ _ _ (fun r σ1 hq=>?_) ((IY cnt hn bs ok iD f (zN eA hf.le) y hy).x mixed (hz _ (fun i hi=>rfl))))
 obtain⟨⟨out,rfl,Mq⟩,rfl⟩:=hq
 apply Z
 clear Z N
 have Y4:=eX (f:=out) hx
 have tl:=eM out cnt
 by_cases ly:out x<0
 ·(try((repeat(revert N;apply Pn.out));refine wk (tw @Y4 (tw @ly (tw @Ga (tw @tl @aJ.eq_1)))) ?_;(repeat(apply Pn.mk;intro N Z))))
  exact fV (.inl rfl) (vs:=[.bool false]) (sd @Nat.zero_add) ⟨false,f,rfl,hS.frame (fun i hi=>rfl) (Nat.le_refl _),aQ,fun i _ _=>rfl,fun _=>⟨rfl,HI Mq ok hf ly⟩,fun h=>by cases h⟩
 (try((repeat(revert N;apply Pn.out));refine wk (tw @Y4 (tw @ly (tw @Ga (tw @tl @aJ.eq_1)))) ?_;(repeat(apply Pn.mk;intro N Z))))
 refine bz (fun m env st=>∃(v:Nat) (f':Nat->Int),m=(out v).toNat/\v<cnt/\0<=out v/\env 8=.int .i64 (v:Int)/\qj bs out f f' x v/\qi cnt bs f' X A F st.get nb/\(∀i:Id,i.bj<nb->(i=F)=False->st.get i=σ.get i)/\σ.next<=st.next) (out x).toNat ⟨x,f,rfl,hx,ah,by(simp only[go_sem, ↓reduceIte,Nat.reduceEqDiff,Nat.reduceAdd,Nat.reduceSub,Nat.reduceLeDiff,reduceCtorEq]),qj.start hf.le,hS.frame (fun i hi=>rfl) (Nat.le_refl _),fun i _ _=>rfl,aQ⟩ ?_
 rintro m env_b st_b ⟨v,f',rfl,hv,tj,b8,hW,hN1,jP,hle⟩ fo
 have b0:=fo 0 (by kernel_rfl)
 have b2:=fo 2 (by kernel_rfl)
 have b7:=fo 7 (by kernel_rfl)
 simp only[go_sem, ↓reduceIte,Nat.reduceEqDiff,Nat.reduceAdd,Nat.reduceSub,Nat.reduceLeDiff,reduceCtorEq]at b0 b2 b7
 clear fo
 by_cases Zd:v=y
 ·have hd:decide ((v:Int)=(y:Int))=true:=decide_eq_true (by rw[Zd])
  subst Zd
  (try((repeat(revert N;apply Pn.out));refine wk (tw @b0 (tw @b2 (tw @b7 (tw @b8 @hd)))) ?_;(repeat(apply Pn.mk;intro N Z))))
  exact fV (.inl rfl) (vs:=[.bool true]) (sd @Nat.zero_add) ⟨true,f',rfl,hN1,aQ,jP,fun h=>(by cases h),fun _=>hW.done hf⟩
 have hd:decide ((v:Int)=(y:Int))=false:=decide_eq_false fun h=>Zd ah
 have Dv:0<out v:=by
  have:=Mq.zero v hv
  rcases Int.lt_or_eq_of_le tj with h|h
  ·exact h
  ·exact absurd (this h.symm) Zd
 have Rk:=hW.goes Mq hv Dv
 have hIm:∀ed∈jQ bs bs.length v,ed<bs.length/\HY bs ed v:=fun ed h=>uD.1 h
 have hIL:(mU cnt bs bs.length)[v]? =some (jQ bs bs.length v):=by simp[mU,hv]
 have hIl:=uC bs bs.length v
 generalize jQ bs bs.length v=I at *
 have hIp:0<I.length:=by
  obtain⟨ed,h,_⟩:=Rk
  exact List.length_pos_of_mem h
 obtain⟨rows,id,hgA,x8,mN,hid,hid1,hid2⟩:=hN1.a.at_ hIL hIp
 rw[kf]at x8
 have hgX:=hN1.x
 have G5:(v:Int)<(cnt:Int):=ah
 have vD:=eX (f:=out) hv
 have oP:IntKind.i64.wrap (out v-1)=out v-1:=cm (by have:=Mq.lo v hv;omega)
 have te:(I.map eN).length=I.length:=by simp
 have JT:=zN eA hW.le
 have qJ:∀(g:Rows),(∀i:Id,i.bj<nb->g i=st_b.get i)->∀ed:Nat,eI (eL g) 6 [.ptr X 0 0,.int .i64 (v:Int),.int .i64 (ed:Int)]=some [.dF (im cnt bs f'),.int .i64 v,.int .i64 ed]:=fun g hg ed=>by
  have:=(hN1.frame hg (Nat.le_refl _)).fz
  simp only[ar,ax,this,aW,Option.map_some]
 rw[aJ]at vD
 (try((repeat(revert N;apply Pn.out));refine wk (tw @b0 (tw @b2 (tw @b7 (tw @b8 @hd)))) ?_;(repeat(apply Pn.mk;intro N Z))))
 refine bz (fun n env st=>∃k:Nat,n=(I.length)-k/\k<=(I.length)/\env 11=.int .i64 (k:Int)/\(∃(xk H8:Int),env 9=.int .i64 xk/\env 10=.int .i64 H8/\((xk<0/\∀z,z<k->¬(0<gV bs f' (I.getD z 0) v/\out (dj bs (I.getD z 0) v)=out v-1))∨∃ed:Nat,ed∈I/\H8=(ed:Int)/\xk=(dj bs ed v:Int)/\0<gV bs f' ed v/\out (dj bs ed v)=out v-1))/\((∀i:Id,st.get i=st_b.get i)/\st_b.next<=st.next)) (I.length) ⟨0,ah,ah,sl (tw @b0 (tw @b2 (tw @b7 @b8))),⟨-1,0,by(simp only[go_sem, ↓reduceIte,Nat.reduceEqDiff,Nat.reduceAdd,Nat.reduceSub,Nat.reduceLeDiff,reduceCtorEq]),by(simp only[go_sem, ↓reduceIte,Nat.reduceEqDiff,Nat.reduceAdd,Nat.reduceSub,Nat.reduceLeDiff,reduceCtorEq]),.inl ⟨ah,fun z hz=>ah⟩⟩,⟨fun i=>rfl,aQ⟩⟩ ?_
 rintro n_c env_c st_c ⟨k,rfl,cle,pR,cI0,cI1⟩ il
 have c0:=il 0 (by kernel_rfl);have c2:=il 2 (by kernel_rfl);have c7:=il 7 (by kernel_rfl);have c8:=il 8 (by kernel_rfl)
 simp only[go_sem, ↓reduceIte,Nat.reduceEqDiff,Nat.reduceAdd,Nat.reduceSub,Nat.reduceLeDiff,reduceCtorEq,b0,b2,b7,b8]at c0 c2 c7 c8
 clear il
 obtain⟨xk,H8,c9,gz,L4⟩:=cI0
 obtain⟨nS,YO⟩:=cI1
 have G0:=(nS X).trans hgX
 have GZ:=(nS A).trans hgA
 have Cv:=(nS id).trans hid
 by_cases hk:(k:Int)<(I.length:Int)
 ·have fJ:∀{e:Env} {gg:Rows} {nx:Nat},(e 11=.int .i64 (IntKind.i64.wrap ((k:Int)+1)))->(∃(xk H8:Int),e 9=.int .i64 xk/\e 10=.int .i64 H8/\((xk<0/\∀z,z<(k+1)->¬(0<gV bs f' (I.getD z 0) v/\out (dj bs (I.getD z 0) v)=out v-1))∨∃ed:Nat,ed∈I/\H8=(ed:Int)/\xk=(dj bs ed v:Int)/\0<gV bs f' ed v/\out (dj bs ed v)=out v-1))->((∀i:Id,gg i=st_b.get i)/\st_b.next<=nx)->∃m0,m0<(I.length)-k/\∃k:Nat,m0=(I.length)-k/\k<=(I.length)/\e 11=.int .i64 (k:Int)/\(∃(xk H8:Int),e 9=.int .i64 xk/\e 10=.int .i64 H8/\((xk<0/\∀z,z<k->¬(0<gV bs f' (I.getD z 0) v/\out (dj bs (I.getD z 0) v)=out v-1))∨∃ed:Nat,ed∈I/\H8=(ed:Int)/\xk=(dj bs ed v:Int)/\0<gV bs f' ed v/\out (dj bs ed v)=out v-1))/\((∀i:Id,gg i=st_b.get i)/\st_b.next<=nx):=fun x1 x2 x3=>⟨_,ah,k+1,rfl,ah,(by rw[x1,aK ah]),x2,x3⟩
  have iO:k<I.length:=ah
  have gL:(I.map eN)[k]? =some (eN (I.getD k 0)):=getD_map eN iO
  have oM:I.getD k 0∈I:=by rw[List.getD_eq_getElem?_getD,List.getElem?_eq_getElem iO];exact List.getElem_mem iO
  obtain⟨he,sj⟩:=hIm _ oM
  have OB:=Nr cnt bs f' JT (I.getD k 0) v he
  have VQ:=qJ st_c.get (fun i _=>nS i) (I.getD k 0)
  have hq:=qQ ok (v:=v) he
  have VI:=eX (f:=out) hq
  obtain⟨ed,hed⟩:∃ed,ed=I.getD k 0:=⟨_,rfl⟩
  rw[<-hed]at gL he sj OB VQ hq VI oM
  rw[aJ]at VI
  rw[eN]at gL
  (try((repeat(revert N;apply Pn.out));refine wk (tw @pR (tw @c0 (tw @c2 (tw @c7 (tw @c8 (tw @c9 (tw @gz (tw @hk (tw @G0 (tw @GZ (tw @Cv (tw @mN (tw @x8 (tw @G5 (tw @gL (tw @te @cJ.eq_1)))))))))))))))) ?_;(repeat(apply Pn.mk;intro N Z))))
  refine .inl ⟨_,ay.x OB VQ,?_⟩
  apply Z
  clear Z N
  have stay:∀k',k'=k+1->(¬(0<gV bs f' ed v/\out (dj bs ed v)=out v-1))->((xk<0/\∀z,z<k'->¬(0<gV bs f' (I.getD z 0) v/\out (dj bs (I.getD z 0) v)=out v-1))∨∃ed:Nat,ed∈I/\H8=(ed:Int)/\xk=(dj bs ed v:Int)/\0<gV bs f' ed v/\out (dj bs ed v)=out v-1):=fun k' Iu mT=>by
   rcases L4 with⟨h1,h2⟩|h
   ·refine .inl ⟨h1,fun z hz=>?_⟩
    by_cases hzk':z=k
    ·subst hzk';rw[<-hed];exact mT
    ·exact h2 z ah
   ·exact .inr h
  by_cases hr:0<gV bs f' ed v
  ·by_cases JL:out (dj bs ed v)=out v-1
   ·have nA:decide (out (dj bs ed v)=out v-1)=true:=decide_eq_true JL
    have found:∃Wl:Nat,Wl∈I/\(ed:Int)=(Wl:Int)/\(dj bs ed v:Int)=(dj bs Wl v:Int)/\0<gV bs f' Wl v/\out (dj bs Wl v)=out v-1:=⟨ed,oM,rfl,rfl,hr,JL⟩
    by_cases EE:xk<0
    ·(try((repeat(revert N;apply Pn.out));refine wk (tw @pR (tw @c0 (tw @c2 (tw @c7 (tw @c8 (tw @c9 (tw @gz (tw @hk (tw @G0 (tw @GZ (tw @Cv (tw @mN (tw @x8 (tw @G5 (tw @gL (tw @te (tw @hr (tw @VI (tw @vD (tw @oP (tw @nA (tw @EE @cJ.eq_1)))))))))))))))))))))) ?_;(repeat(apply Pn.mk;intro N Z))))
     exact fJ (sd (tw @pR (tw @c0 (tw @c2 (tw @c7 @c8))))) (⟨_,_,sd @Nat.zero_add,sd @Nat.zero_add,.inr found⟩) (⟨nS,aQ⟩)
    ·by_cases eW:(dj bs ed v:Int)<xk
     ·(try((repeat(revert N;apply Pn.out));refine wk (tw @pR (tw @c0 (tw @c2 (tw @c7 (tw @c8 (tw @c9 (tw @gz (tw @hk (tw @G0 (tw @GZ (tw @Cv (tw @mN (tw @x8 (tw @G5 (tw @gL (tw @te (tw @hr (tw @VI (tw @vD (tw @oP (tw @nA (tw @EE (tw @eW @cJ.eq_1))))))))))))))))))))))) ?_;(repeat(apply Pn.mk;intro N Z))))
      exact fJ (sd (tw @pR (tw @c0 (tw @c2 (tw @c7 @c8))))) (⟨_,_,sd @Nat.zero_add,sd @Nat.zero_add,.inr found⟩) (⟨nS,aQ⟩)
     ·(try((repeat(revert N;apply Pn.out));refine wk (tw @pR (tw @c0 (tw @c2 (tw @c7 (tw @c8 (tw @c9 (tw @gz (tw @hk (tw @G0 (tw @GZ (tw @Cv (tw @mN (tw @x8 (tw @G5 (tw @gL (tw @te (tw @hr (tw @VI (tw @vD (tw @oP (tw @nA (tw @EE (tw @eW @cJ.eq_1))))))))))))))))))))))) ?_;(repeat(apply Pn.mk;intro N Z))))
      exact fJ (sd (tw @pR (tw @c0 (tw @c2 (tw @c7 @c8))))) (⟨xk,H8,sd @c9,sd @gz,by
       rcases L4 with⟨h1,_⟩|h
       ·exact absurd h1 EE
       ·exact .inr h⟩) (⟨nS,aQ⟩)
   ·have nA:decide (out (dj bs ed v)=out v-1)=false:=decide_eq_false JL
    (try((repeat(revert N;apply Pn.out));refine wk (tw @pR (tw @c0 (tw @c2 (tw @c7 (tw @c8 (tw @c9 (tw @gz (tw @hk (tw @G0 (tw @GZ (tw @Cv (tw @mN (tw @x8 (tw @G5 (tw @gL (tw @te (tw @hr (tw @VI (tw @vD (tw @oP (tw @nA @cJ.eq_1))))))))))))))))))))) ?_;(repeat(apply Pn.mk;intro N Z))))
    exact fJ (sd (tw @pR (tw @c0 (tw @c2 (tw @c7 @c8))))) (⟨xk,H8,sd @c9,sd @gz,stay _ rfl fun h=>JL h.2⟩) (⟨nS,aQ⟩)
  ·(try((repeat(revert N;apply Pn.out));refine wk (tw @pR (tw @c0 (tw @c2 (tw @c7 (tw @c8 (tw @c9 (tw @gz (tw @hk (tw @G0 (tw @GZ (tw @Cv (tw @mN (tw @x8 (tw @G5 (tw @gL (tw @te (tw @hr @cJ.eq_1))))))))))))))))) ?_;(repeat(apply Pn.mk;intro N Z))))
   exact fJ (sd (tw @pR (tw @c0 (tw @c2 (tw @c7 @c8))))) (⟨xk,H8,sd @c9,sd @gz,stay _ rfl fun h=>hr h.1⟩) (⟨nS,aQ⟩)
 ·have mM:k=I.length:=ah
  have hfnd:∃ed:Nat,ed∈I/\H8=(ed:Int)/\xk=(dj bs ed v:Int)/\0<gV bs f' ed v/\out (dj bs ed v)=out v-1:=by
   rcases L4 with⟨h1,h2⟩|h
   ·exfalso
    obtain⟨ed,he,hq⟩:=Rk
    obtain⟨z,hz,rfl⟩:=List.getElem_of_mem he
    refine h2 z ah ?_
    rw[List.getD_eq_getElem?_getD,List.getElem?_eq_getElem hz];exact hq
   ·exact h
  obtain⟨ed,oM,rfl,rfl,hr,JL⟩:=hfnd
  obtain⟨he,sj⟩:=hIm _ oM
  (try((repeat(revert N;apply Pn.out));refine wk (tw @pR (tw @c0 (tw @c2 (tw @c7 (tw @c8 (tw @c9 (tw @gz (tw @hk (tw @G0 (tw @GZ (tw @Cv (tw @mN (tw @x8 (tw @G5 (tw @te @cJ.eq_1))))))))))))))) ?_;(repeat(apply Pn.mk;intro N Z))))
  refine .inr (aE _ _ _ _ _ (fun r σ1 hq=>?_) (TJ cnt bs f' JT ed v he X A F ⟨st_c.get,_⟩ nb (hN1.frame (fun i _=>nS i) (Nat.le_refl _)) aQ))
  obtain⟨YI,oL,L9⟩:=hq
  (try dsimp only at oL L9)
  apply Z
  clear Z N
  (try((repeat(revert N;apply Pn.out));refine wk (tw @pR (tw @c0 (tw @c2 (tw @c7 (tw @c8 @c9))))) ?_;(repeat(apply Pn.mk;intro N Z))))
  refine⟨_,?_,dj bs ed v,xl bs f' ed v,rfl,qQ ok he,ah,sd @Nat.zero_add,hW.step he sj hr JL,YI,fun i hi hF=>by rw[L9 i hF,nS i,jP i hi hF],aQ⟩
  omega
def pj (P:Program) (f:Nat) (args:List AV) (R:AV->Prop):Prop:=∀σ:az,Call P f args ⟨V.ro σ.get,σ.next⟩ fun r0 σ'=>∃r',V.fz σ'.get 6 r0=some r'/\R r'
theorem GG {P:Program} {f:Nat} {args:List AV} {g:Rows} {n:Nat} {R:AV->Prop} (h:Sound P f args ⟨V.ro g,n⟩ fun r0 σ'=>∃r',V.fz σ'.get 6 r0=some r'/\R r'):Sound P f args ⟨g,n⟩ fun r σ'=>R r/\σ'=⟨g,n⟩:=by
 intro hs D ι w vs S U A
 refine(DL (g0:=g) (K:=R) h (fun _ _ h=>h) S U A).mono ?_
 rintro e w' ⟨r,D',u,rfl,hR,T,S',hr⟩
 exact⟨r,g,n,D',ι,u,rfl,⟨hR,rfl⟩,T,S',U,Nat.le_refl _,hr⟩
theorem pj.x {P:Program} (hm:P.follows .mixedOrders=true) {f:Nat} {args:List AV} {R:AV->Prop} (h:pj P f args R) {σ:az}:Call P f args σ fun r σ'=>R r/\σ'=σ:=
 gG (GG (iE hm (h σ)))
theorem pj.body {P:Program} {f:Nat} {args:List AV} {R:AV->Prop} {nt na:Nat} {body:VC} {res:List pN} (hf:FZ P f=some ⟨nt,na,body,res⟩) (ha:na=args.length) (h:(∀a∈args,fI a)->∀σ:az,eC (Call P) body (mz res fun r0 σ'=>∃r',V.fz σ'.get 6 r0=some r'/\R r') (cz args) ⟨V.ro σ.get,σ.next⟩):pj P f args R:=fun σ=>nL hf ha fun hl=>h hl σ
theorem P0 {g:Rows} {rows:List (List AV)} {xs:List (List Nat)} {ids:List Id} (n:Nat) (h:fY Vm g rows xs ids):fj g (n+2) rows=some (xs.map fun l=>[TV l]):=by
 induction h with
 |nil=>rw[fj];rfl
 |cons h1 _ ih=>
  rename_i x _ _ _ _ _
  rcases h1 with⟨h0,h1,_⟩|⟨id,h1,h0,h2,_⟩
  ·subst h0 h1;rw[fj,ih,ar,ax,aV];rfl
  ·have ig:x≠[]:=by rintro rfl;simp at h0
   subst h1
   rw[fj,ih,ar,ax,kM (e:=eN) (sz:=1) h2 rfl fun a=>fzN _ n a]
   simp[TV,ig]
theorem qi.fz0 {cnt:Nat} {bs:List PB} {f:Nat->Int} {X A F:Id} {g:Rows} {nx:Nat} (h:qi cnt bs f X A F g nx):V.fz g 5 (.ptr X 0 0)=some (.dF (im cnt bs f)):=by
 have hf:V.fz g 4 (.own F 0 bs.length)=some (.sl (fc f bs.length)):=by
  rw[ju]
  simp only[h.f,if_true]
  rw[if_pos (by rw[eM];omega),List.drop_zero,List.take_of_length_le (by rw[eM];omega),Dc];rfl
 have ha:V.fz g 4 (.own A 0 cnt)=some (.sl (sQ cnt bs bs.length)):=by
  obtain⟨rows,ids,h1,h2,_,_⟩:=h.a
  have hl:=h2.len
  rw[kf]at hl
  rw[ju]
  simp only[h1,if_true]
  rw[if_pos ah,List.drop_zero,List.take_of_length_le ah,P0 1 h2]
  simp[mU,sQ]
 rw[bh]
 simp only[h.x,if_true,List.getElem?_cons_zero,List.drop_zero,cJ,ar,ax,aW,cw,ha,hf,Option.map_some,im]
theorem H9 {S:Nat->Bool}:∀bs:List PB,(∀b∈bs,b.s<=4)->jY S bs<=4*bs.length
 |[],_=>by simp[jY]
 |b::bs,h=>by
  rw[vQ]
  have:=H9 (S:=S) bs fun x hx=>h x (List.mem_cons_of_mem _ hx)
  have:=h b (by simp)
  simp only[List.length_cons]
  split<;>omega
theorem ll.zero {bs:List PB} {x y:Nat} (h:∀e,e<bs.length->0<=(dq bs e).s/\(dq bs e).s<=4):ll bs (fun _=>0) x y 0:=
 ⟨fun i hi=>by have:=h i hi;omega,fun S _ _=>k9 fun i _=>by simp⟩
theorem OR {bs:List PB} {b:PB} (h:b∈bs):∃e,e<bs.length/\dq bs e=b:=by
 obtain⟨e,he,rfl⟩:=List.getElem_of_mem h
 exact⟨e,he,by simp[dq,List.getD_eq_getElem?_getD,he]⟩
theorem J7 (cnt:Nat) (hn:cnt<=1048576) (bs:List PB) (ok:pq cnt bs) (iD:bs.length<=1048576) (eA:∀e,e<bs.length->0<=(dq bs e).s/\(dq bs e).s<=4) (x y:Nat) (hx:x<cnt) (hy:y<cnt) (Tp:x≠y):
  pj Tryz.prog 125 [.int .i64 cnt,.sl (bs.map aP),.int .i64 x,.int .i64 y] fun r=>∃f val,r=.gM [.dF (im cnt bs f),.int .i64 val]/\ll bs f x y val/\∃S:Nat->Bool,S x=true/\S y=false/\val=jY S bs:=by
 refine pj.body fR rfl fun hl σ=>?_
 clear hl
 (try((repeat(revert N;apply Pn.out));refine wk @Nat.zero_add ?_;(repeat(apply Pn.mk;intro N Z))))
 refine .inr (aE _ _ _ _ _ (fun r σ1 hq=>?_) (Mz cnt hn bs ok iD _))
 obtain⟨X,A,F,rfl,hX,hS⟩:=hq
 apply Z
 clear Z N
 have hS0:∀f val,ll bs f x y val->val<=jY (fun v=>decide (v=x)) bs:=fun f val hf=>hf.bound (decide_eq_true rfl) (decide_eq_false fun h=>Tp h.symm)
 have htot:=H9 (S:=fun v=>decide (v=x)) bs fun b hb=>by
  obtain⟨e,he,rfl⟩:=OR hb
  exact(eA e he).2
 generalize jY (fun v=>decide (v=x)) bs=T at *
 (try((repeat(revert N;apply Pn.out));refine wk @Nat.zero_add ?_;(repeat(apply Pn.mk;intro N Z))))
 refine bz (fun m env st=>∃(f:Nat->Int) (val:Int),m=(T-val).toNat/\0<=val/\env 10=.ptr X 0 0/\env 11=.int .i64 val/\ll bs f x y val/\qi cnt bs f X A F st.get σ1.next/\σ1.next<=st.next) T.toNat ⟨_,0,by simp,ah,by(simp only[go_sem, ↓reduceIte,Nat.reduceEqDiff,Nat.reduceAdd,Nat.reduceSub,Nat.reduceLeDiff,reduceCtorEq]),by(simp only[go_sem, ↓reduceIte,Nat.reduceEqDiff,Nat.reduceAdd,Nat.reduceSub,Nat.reduceLeDiff,reduceCtorEq]),ll.zero eA,hS.frame (fun i hi=>rfl) (Nat.le_refl _),aQ⟩ ?_
 rintro m env_b st_b ⟨f,val,rfl,tj,b10,b11,hf,hN1,hle⟩ fo
 have b2:=fo 2 (by kernel_rfl)
 have b3:=fo 3 (by kernel_rfl)
 simp only[go_sem, ↓reduceIte,Nat.reduceEqDiff,Nat.reduceAdd,Nat.reduceSub,Nat.reduceLeDiff,reduceCtorEq]at b2 b3
 clear fo
 (try((repeat(revert N;apply Pn.out));refine wk (tw @b2 (tw @b3 @b10)) ?_;(repeat(apply Pn.mk;intro N Z))))
 refine .inr (aE _ _ _ _ _ (fun r σ2 hq=>?_) (Sw cnt hn bs ok iD eA f x y hx hy Tp val hf X A F ⟨st_b.get,_⟩ σ1.next hN1 aQ))
 obtain⟨b,f',rfl,YI,oL,_,mT,hyes⟩:=hq
 (try dsimp only at oL)
 apply Z
 clear Z N
 cases b with
 |true=>
  have Vz:=hyes rfl
  have KZ:=hS0 _ _ hf
  have Cs:=hS0 _ _ Vz
  have hw:IntKind.i64.wrap (val+1)=val+1:=cm ah
  (try((repeat(revert N;apply Pn.out));refine wk (tw @b10 (tw @b11 @hw)) ?_;(repeat(apply Pn.mk;intro N Z))))
  exact⟨_,ah,f',val+1,rfl,ah,sd @b10,sd (tw @b11 @hw),Vz,YI,aQ⟩
 |false=>
  obtain⟨rfl,S,h1,h2,h3⟩:=mT rfl
  (try((repeat(revert N;apply Pn.out));refine wk (tw @b10 @b11) ?_;(repeat(apply Pn.mk;intro N Z))))
  have hz:=YI.fz0
  exact⟨[.ptr X 0 0,.int .i64 val],sd @Nat.zero_add,.gM [.dF (im cnt bs f'),.int .i64 val],by simp only[fw,bI,ar,ax,hz,aW,Option.map_some],f',val,rfl,hf,S,h1,h2,h3⟩
theorem J8 (cnt:Nat) (hn:cnt<=1048576) (bs:List PB) (ok:pq cnt bs) (iD:bs.length<=1048576) (f:Nat->Int) (hs:Small bs f) (y:Nat) (hy:y<cnt):
  ja Tryz.prog 126 [.dF (im cnt bs f),.int .i64 y] fun r=>∃l:List Nat,r=.sl (l.map eN)/\l.length<=cnt:=by
 refine ja.body fR rfl fun hl n0=>?_
 clear hl
 have hz:∀g:Rows,eI (eL g) 6 [.dF (im cnt bs f),.int .i64 (y:Int)]=some [.dF (im cnt bs f),.int .i64 y]:=fun g=>by simp only[ar,ax,aU,aW,Option.map_some]
 (try((repeat(revert N;apply Pn.out));refine wk @Nat.zero_add ?_;(repeat(apply Pn.mk;intro N Z))))
 refine .inr (aE _ _ _ _ _ (fun r σ1 hq=>?_) ((IY cnt hn bs ok iD f hs y hy).x mixed (hz _)))
 obtain⟨⟨out,rfl,Mq⟩,rfl⟩:=hq
 apply Z
 clear Z N
 (try((repeat(revert N;apply Pn.out));refine wk @im.eq_1 ?_;(repeat(apply Pn.mk;intro N Z))))
 refine bz (fun n env st=>∃k:Nat,n=(cnt)-k/\k<=(cnt)/\env 7=.int .i64 (k:Int)/\(∃(o:Id) (l:List Nat),env 6=.own o 0 l.length/\st.get o=some ⟨true,1,l.map eN⟩/\o.bj<st.next/\l.length<=k)) (cnt) ⟨0,ah,ah,sl @im.eq_1,⟨⟨126002000,n0+1+1+1⟩,[],by(simp only[go_sem, ↓reduceIte,Nat.reduceEqDiff,Nat.reduceAdd,Nat.reduceSub,Nat.reduceLeDiff,reduceCtorEq])<;>rfl,by(simp only[go_sem, ↓reduceIte,Nat.reduceEqDiff,Nat.reduceAdd,Nat.reduceSub,Nat.reduceLeDiff,reduceCtorEq])<;>rfl,aQ,by simp⟩⟩ ?_
 rintro n_a env_a st_a ⟨k,rfl,ale,a7,nh⟩ eE
 have a0:=eE 0 (by kernel_rfl);have a5:=eE 5 (by kernel_rfl)
 simp only[go_sem, ↓reduceIte,Nat.reduceEqDiff,Nat.reduceAdd,Nat.reduceSub,Nat.reduceLeDiff,reduceCtorEq,im]at a0 a5
 clear eE
 obtain⟨o,l,a6,ag,vD,JP⟩:=nh
 have tj:=dh vD
 have gU:(l.map eN).length=l.length:=by simp
 by_cases hk:(k:Int)<(cnt:Int)
 ·have dD:∀{e:Env} {gg:Rows} {nx:Nat},(e 7=.int .i64 (IntKind.i64.wrap ((k:Int)+1)))->(∃(o:Id) (l:List Nat),e 6=.own o 0 l.length/\gg o=some ⟨true,1,l.map eN⟩/\o.bj<nx/\l.length<=(k+1))->∃m0,m0<(cnt)-k/\∃k:Nat,m0=(cnt)-k/\k<=(cnt)/\e 7=.int .i64 (k:Int)/\(∃(o:Id) (l:List Nat),e 6=.own o 0 l.length/\gg o=some ⟨true,1,l.map eN⟩/\o.bj<nx/\l.length<=k):=fun x1 x2=>⟨_,ah,k+1,rfl,ah,(by rw[x1,aK ah]),x2⟩
  have yW:=eX (f:=out) (show k<cnt by omega)
  rw[aJ]at yW
  have e1:l.length+1<=16777216:=ah
  by_cases h0:0<=out k
  ·(try((repeat(revert N;apply Pn.out));refine wk (tw @a7 (tw @a0 (tw @a5 (tw @a6 (tw @ag (tw @tj (tw @hk (tw @yW (tw @h0 (tw @e1 (tw @gU @im.eq_1))))))))))) ?_;(repeat(apply Pn.mk;intro N Z))))
   exact dD (sd (tw @a7 (tw @a0 (tw @a5 @im.eq_1)))) (⟨⟨126007003,st_a.next+1+1⟩,l++[k],by rw[List.length_append];simp only[go_sem, ↓reduceIte,Nat.reduceEqDiff,Nat.reduceAdd,Nat.reduceSub,Nat.reduceLeDiff,reduceCtorEq,List.length_cons,List.length_nil],by rw[List.map_append,List.map_cons,List.map_nil];simp only[go_sem, ↓reduceIte,Nat.reduceEqDiff,Nat.reduceAdd,Nat.reduceSub,Nat.reduceLeDiff,reduceCtorEq,eN],aQ,by simp;omega⟩)
  ·(try((repeat(revert N;apply Pn.out));refine wk (tw @a7 (tw @a0 (tw @a5 (tw @a6 (tw @ag (tw @tj (tw @hk (tw @yW (tw @h0 (tw @gU @im.eq_1)))))))))) ?_;(repeat(apply Pn.mk;intro N Z))))
   exact dD (sd (tw @a7 (tw @a0 (tw @a5 @im.eq_1)))) (⟨o,l,sd @a6,sd @ag,aQ,ah⟩)
 ·(try((repeat(revert N;apply Pn.out));refine wk (tw @a7 (tw @a0 (tw @a5 (tw @a6 (tw @hk @im.eq_1))))) ?_;(repeat(apply Pn.mk;intro N Z))))
  have ur:iq st_a.get 6 (.own o 0 l.length)=some (.sl (l.map eN)):=eP ag rfl fun b=>Ss _ 4 b
  exact⟨_,rfl,_,by simp only[go_sem, ↓reduceIte,Nat.reduceEqDiff,Nat.reduceAdd,Nat.reduceSub,Nat.reduceLeDiff,reduceCtorEq,fw];exact ur,l,rfl,ah⟩
theorem E8 (v1 v2:Int) (l1 l2:List Nat) (h1:l1.length<=1048576) (h2:l2.length<=1048576):
  ja Tryz.prog 127 [.int .i64 v1,.sl (l1.map eN),.int .i64 v2,.sl (l2.map eN)] fun r=>∃b,r=.bool b/\(v1<v2->b=true)/\(v2<v1->b=false):=by
 refine ja.body fR rfl fun hl n0=>?_
 clear hl
 have ret:∀{t:Nat} {env:Env} {σ:az} {b:Bool} {x:Ex},(x=.ret∨x=.normal)->env t=.bool b->((v1<v2->b=true)/\(v2<v1->b=false))->mz [.tmp t] (fun r0 σ'=>∃r',iq σ'.get 6 r0=some r'/\∃b,r'=.bool b/\(v1<v2->b=true)/\(v2<v1->b=false)) x env σ:=by
  intro t env σ b x hx he hb
  have:∃vs,gO env σ.get [.tmp t]=some vs/\∃r',iq σ.get 6 (fw vs)=some r'/\∃b,r'=.bool b/\(v1<v2->b=true)/\(v2<v1->b=false):=⟨[env t],rfl,.bool b,by rw[he];exact fM _ _ _,b,rfl,hb⟩
  rcases hx with rfl|rfl
  ·exact this
  ·exact this
 have m1:(l1.map eN).length=l1.length:=by simp
 have m2:(l2.map eN).length=l2.length:=by simp
 by_cases hv:v1=v2
 ·have hd:decide (v1=v2)=true:=decide_eq_true hv
  by_cases JP:(l1.length:Int)=(l2.length:Int)
  ·have nA:decide ((l1.length:Int)=(l2.length:Int))=true:=decide_eq_true JP
   have WW:decide (l1.length=l2.length)=true:=decide_eq_true ah
   (try((repeat(revert N;apply Pn.out));refine wk (tw @hd (tw @nA (tw @WW (tw @m1 @m2)))) ?_;(repeat(apply Pn.mk;intro N Z))))
   refine bz (fun n env st=>∃k:Nat,n=(l1.length)-k/\k<=(l1.length)/\env 9=.int .i64 (k:Int)) (l1.length) ⟨0,ah,ah,sl @Nat.zero_add⟩ ?_
   rintro n_a env_a st_a ⟨k,rfl,ale,a9⟩ eE
   have a1:=eE 1 (by kernel_rfl);have a3:=eE 3 (by kernel_rfl)
   simp only[go_sem, ↓reduceIte,Nat.reduceEqDiff,Nat.reduceAdd,Nat.reduceSub,Nat.reduceLeDiff,reduceCtorEq]at a1 a3
   clear eE
   by_cases hk:(k:Int)<(l1.length:Int)
   ·have dD:∀{e:Env},(e 9=.int .i64 (IntKind.i64.wrap ((k:Int)+1)))->∃m0,m0<(l1.length)-k/\∃k:Nat,m0=(l1.length)-k/\k<=(l1.length)/\e 9=.int .i64 (k:Int):=fun x1=>⟨_,ah,k+1,rfl,ah,(by rw[x1,aK ah])⟩
    have g1:(l1.map eN)[k]? =some (eN (l1.getD k 0)):=getD_map eN ah
    have g2:(l2.map eN)[k]? =some (eN (l2.getD k 0)):=getD_map eN ah
    rw[eN]at g1 g2
    by_cases he:((l1.getD k 0:Nat):Int)=((l2.getD k 0:Nat):Int)
    ·have Om:decide (((l1.getD k 0:Nat):Int)=((l2.getD k 0:Nat):Int))=true:=decide_eq_true he
     have hd5:decide (l1.getD k 0=l2.getD k 0)=true:=decide_eq_true ah
     (try((repeat(revert N;apply Pn.out));refine wk (tw @a9 (tw @a1 (tw @a3 (tw @hk (tw @m1 (tw @g1 (tw @g2 (tw @Om @hd5)))))))) ?_;(repeat(apply Pn.mk;intro N Z))))
     exact dD (sd (tw @a9 (tw @a1 @a3)))
    ·have Om:decide (((l1.getD k 0:Nat):Int)=((l2.getD k 0:Nat):Int))=false:=decide_eq_false he
     have hd5:decide (l1.getD k 0=l2.getD k 0)=false:=decide_eq_false ah
     (try((repeat(revert N;apply Pn.out));refine wk (tw @a9 (tw @a1 (tw @a3 (tw @hk (tw @m1 (tw @g1 (tw @g2 (tw @Om @hd5)))))))) ?_;(repeat(apply Pn.mk;intro N Z))))
     exact ret (.inl rfl) (by simp only[go_sem, ↓reduceIte,Nat.reduceEqDiff,Nat.reduceAdd,Nat.reduceSub,Nat.reduceLeDiff,reduceCtorEq];rfl) ⟨fun h=>ah,fun h=>ah⟩
   ·(try((repeat(revert N;apply Pn.out));refine wk (tw @a9 (tw @a1 (tw @a3 (tw @hk @m1)))) ?_;(repeat(apply Pn.mk;intro N Z))))
    exact ret (b:=false) (.inl rfl) (sd @Nat.zero_add) ⟨fun h=>ah,fun h=>ah⟩
  ·have nA:decide ((l1.length:Int)=(l2.length:Int))=false:=decide_eq_false JP
   have WW:decide (l1.length=l2.length)=false:=decide_eq_false ah
   (try((repeat(revert N;apply Pn.out));refine wk (tw @hd (tw @nA (tw @WW (tw @m1 @m2)))) ?_;(repeat(apply Pn.mk;intro N Z))))
   exact ret (.inl rfl) (by simp only[go_sem, ↓reduceIte,Nat.reduceEqDiff,Nat.reduceAdd,Nat.reduceSub,Nat.reduceLeDiff,reduceCtorEq];rfl) ⟨fun h=>ah,fun h=>ah⟩
 ·have hd:decide (v1=v2)=false:=decide_eq_false hv
  (try((repeat(revert N;apply Pn.out));refine wk @hd ?_;(repeat(apply Pn.mk;intro N Z))))
  exact ret (b:=decide (v1<v2)) (.inl rfl) (sd @Nat.zero_add) ⟨fun h=>decide_eq_true h,fun h=>decide_eq_false ah⟩
def yh (bs:List PB) (cnt:Nat) (j8:Int) (k:Nat):Prop:=(k=1/\j8= -1)∨(0<=j8/\(∀z,1<=z->z<k->∀S:Nat->Bool,S 0=true->S z=false->j8<=jY S bs)/\∃S:Nat->Bool,S 0=true/\(∃z,z<cnt/\S z=false)/\j8=jY S bs)
theorem ll.nn {bs:List PB} {val:Int} {S:Nat->Bool} (eA:∀e,e<bs.length->0<=(dq bs e).s/\(dq bs e).s<=4) (h:val=jY S bs):0<=val:=by
 rw[h,yE]
 have:=uV (f:=fun _=>0) (g:=fun i=>if S (dq bs i).a=S (dq bs i).b then 0 else(dq bs i).s) (n:=bs.length) fun i hi=>by
  have:=eA i hi
  split<;>omega
 rw[k9 fun _ _=>rfl]at this
 exact this
theorem yh.done {bs:List PB} {cnt:Nat} {j8:Int} (hc:2<=cnt) (h:yh bs cnt j8 cnt) (t:Int):t<=j8↔l9 cnt bs t:=by
 rcases h with⟨h,_⟩|⟨_,h1,S,h2,⟨z,hz,qJ⟩,h3⟩
 ·omega
 ·constructor
  ·intro ht S h0 ⟨y,hy,hy2⟩
   have:y≠0:=by rintro rfl;rw[h0]at hy2;cases hy2
   have:=h1 y ah hy S h0 hy2
   omega
  ·intro hH
   rw[h3];exact hH S h2 ⟨z,hz,qJ⟩
theorem CF (cnt:Nat) (h2:2<=cnt) (hn:cnt<=1048576) (bs:List PB) (ok:pq cnt bs) (iD:bs.length<=1048576) (eA:∀e,e<bs.length->0<=(dq bs e).s/\(dq bs e).s<=4):
  pj Tryz.prog 98 [.int .i64 cnt,.sl (bs.map aP)] fun r=>∃j8 p,r=.gM [.int .i64 j8,p]/\∀t:Int,t<=j8↔l9 cnt bs t:=by
 refine pj.body fR rfl fun hl σ=>?_
 clear hl
 (try((repeat(revert N;apply Pn.out));refine wk @Nat.zero_add ?_;(repeat(apply Pn.mk;intro N Z))))
 have z0:∀(g:Rows) (id:Id),g id=some ⟨true,1,[]⟩->V.fz (eL g) 6 (.own id 0 0)=some (.sl (([]:List Nat).map eN))/\V.fz g 5 (.own id 0 0)=some (.sl (([]:List Nat).map eN)):=fun g id h=>by
  have h':eL g id=some ⟨true,1,[]⟩:=by simp[eL,h]
  constructor
  ·rw[ju];simp only[h',if_true];rw[if_pos (by simp)];simp[qC]
  ·rw[ju];simp only[h,if_true];rw[if_pos (by simp)];simp[qC]
 refine bz (fun m env st=>∃(k:Nat) (j8:Int) (l:List Nat) (p:AV),m=cnt-k/\1<=k/\k<=cnt/\env 8=.int .i64 (k:Int)/\env 6=.int .i64 j8/\env 7=p/\V.fz (eL st.get) 6 p=some (.sl (l.map eN))/\V.fz st.get 5 p=some (.sl (l.map eN))/\l.length<=cnt/\yh bs cnt j8 k) (cnt-1) ⟨1,-1,[],.own ⟨98002000,σ.next+1+1⟩ 0 0,rfl,ah,ah,by(simp only[go_sem, ↓reduceIte,Nat.reduceEqDiff,Nat.reduceAdd,Nat.reduceSub,Nat.reduceLeDiff,reduceCtorEq])<;>rfl,by(simp only[go_sem, ↓reduceIte,Nat.reduceEqDiff,Nat.reduceAdd,Nat.reduceSub,Nat.reduceLeDiff,reduceCtorEq])<;>rfl,by(simp only[go_sem, ↓reduceIte,Nat.reduceEqDiff,Nat.reduceAdd,Nat.reduceSub,Nat.reduceLeDiff,reduceCtorEq])<;>rfl,(z0 _ _ (sd @Nat.zero_add)).1,(z0 _ _ (sd @Nat.zero_add)).2,by simp,.inl ⟨rfl,rfl⟩⟩ ?_
 rintro m env_b st_b ⟨k,j8,l,p,rfl,tg,sk,b8,b6,b7,Bg,qJ,hl,hB⟩ fo
 have b0:=fo 0 (by kernel_rfl)
 have b1:=fo 1 (by kernel_rfl)
 simp only[go_sem, ↓reduceIte,Nat.reduceEqDiff,Nat.reduceAdd,Nat.reduceSub,Nat.reduceLeDiff,reduceCtorEq]at b0 b1
 clear fo z0
 by_cases hk:(k:Int)<(cnt:Int)
 ·have iO:k<cnt:=ah
  have hFl:=J7 cnt hn bs ok iD eA 0 k ah iO ah
  rw[show(((0:Nat):Int))=0 from rfl]at hFl
  (try((repeat(revert N;apply Pn.out));refine wk (tw @b0 (tw @b1 (tw @b6 (tw @b7 (tw @b8 @hk))))) ?_;(repeat(apply Pn.mk;intro N Z))))
  refine .inr (aE _ _ _ _ _ (fun r σ1 hq=>?_) (hFl.x mixed))
  obtain⟨⟨f,val,rfl,hf,S,Pg,L0,Vx⟩,rfl⟩:=hq
  apply Z
  clear Z N
  have JT:=zN eA hf.le
  have wg:=ll.nn (val:=val) eA Vx
  (try((repeat(revert N;apply Pn.out));refine wk (tw @b0 (tw @b1 (tw @b6 (tw @b7 @b8)))) ?_;(repeat(apply Pn.mk;intro N Z))))
  refine .inr (aE _ _ _ _ _ (fun r σ1 hq=>?_) ((J8 cnt hn bs ok iD f JT k iO).x mixed (by simp only[ar,ax,aU,aW,Option.map_some])))
  obtain⟨⟨l',rfl,Oy⟩,rfl⟩:=hq
  apply Z
  clear Z N
  have hw:IntKind.i64.wrap ((k:Int)+1)=((k+1:Nat):Int):=aK ah
  have X3:(∀z,1<=z->z<k->∀S:Nat->Bool,S 0=true->S z=false->val<=jY S bs)->yh bs cnt val (k+1):=fun h=>.inr ⟨wg,fun z Bg qJ S' h0 h1=>by
   by_cases VQ:z=k
   ·subst VQ;exact hf.bound h0 h1
   ·exact h z Bg ah S' h0 h1,S,Pg,⟨k,iO,L0⟩,Vx⟩
  by_cases ly:j8<0
  ·have zX:k=1:=by
    rcases hB with⟨h,_⟩|⟨h,_⟩
    ·exact h
    ·omega
   (try((repeat(revert N;apply Pn.out));refine wk (tw @b0 (tw @b1 (tw @b6 (tw @b7 (tw @b8 (tw @ly @hw)))))) ?_;(repeat(apply Pn.mk;intro N Z))))
   refine⟨_,?_,k+1,val,l',.sl (l'.map eN),rfl,ah,ah,sd (tw @b8 @hw),sd @Nat.zero_add,sd @Nat.zero_add,cw _ _ _,cw _ _ _,Oy,X3 fun z h1 h2=>ah⟩
   omega
  ·have zX:(∀z,1<=z->z<k->∀S:Nat->Bool,S 0=true->S z=false->j8<=jY S bs)/\∃S:Nat->Bool,S 0=true/\(∃z,z<cnt/\S z=false)/\j8=jY S bs:=by
    rcases hB with⟨_,h⟩|⟨_,h⟩
    ·omega
    ·exact h
   (try((repeat(revert N;apply Pn.out));refine wk (tw @b0 (tw @b1 (tw @b6 (tw @b7 (tw @b8 (tw @ly @hw)))))) ?_;(repeat(apply Pn.mk;intro N Z))))
   refine .inr (aE _ _ _ _ _ (fun r σ1 hq=>?_) ((E8 val j8 l' l ah ah).x mixed (by simp only[ar,ax,cw,aW,Bg,Option.map_some])))
   obtain⟨⟨b,rfl,KZ,Cs⟩,rfl⟩:=hq
   apply Z
   clear Z N
   cases b with
   |true=>
    have PG:val<=j8:=by
     rcases Int.lt_or_le j8 val with h|h
     ·exact absurd (Cs h) (by simp)
     ·exact h
    (try((repeat(revert N;apply Pn.out));refine wk (tw @b0 (tw @b1 (tw @b6 (tw @b7 (tw @b8 @hw))))) ?_;(repeat(apply Pn.mk;intro N Z))))
    refine⟨_,?_,k+1,val,l',.sl (l'.map eN),rfl,ah,ah,sd (tw @b8 @hw),sd @Nat.zero_add,sd @Nat.zero_add,cw _ _ _,cw _ _ _,Oy,X3 fun z h1 h2 S' h3 h4=>by have:=zX.1 z h1 h2 S' h3 h4;omega⟩
    omega
   |false=>
    have PG:j8<=val:=by
     rcases Int.lt_or_le val j8 with h|h
     ·exact absurd (KZ h) (by simp)
     ·exact h
    (try((repeat(revert N;apply Pn.out));refine wk (tw @b0 (tw @b1 (tw @b6 (tw @b7 (tw @b8 @hw))))) ?_;(repeat(apply Pn.mk;intro N Z))))
    refine⟨_,?_,k+1,j8,l,p,rfl,ah,ah,sd (tw @b8 @hw),sd @b6,sd @b7,Bg,qJ,hl,.inr ⟨ah,fun z h1 h2 S' h3 h4=>?_,zX.2⟩⟩
    ·omega
    ·by_cases VQ:z=k
     ·subst VQ;have:=hf.bound h3 h4;omega
     ·exact zX.1 z h1 ah S' h3 h4
 ·have mM:k=cnt:=ah
  (try((repeat(revert N;apply Pn.out));refine wk (tw @b0 (tw @b1 (tw @b6 (tw @b7 (tw @b8 @hk))))) ?_;(repeat(apply Pn.mk;intro N Z))))
  exact⟨[.int .i64 j8,p],sd @Nat.zero_add,.gM [.int .i64 j8,.sl (l.map eN)],by simp only[fw,bI,ar,ax,qJ,aW,Option.map_some],j8,_,rfl,yh.done h2 (mM▸hB)⟩
end Go.Proofs.YtiabgllilcfheaaGreat.V

namespace Go.Proofs.YtiabgllilcfheaaGreat.V
open Go.RowKit
inductive tN:List AV->List AV->Prop
 |nil:tN [] []
 |same (a) {l l'}:tN l l'->tN (a::l) (a::l')
 |ptr (cs rest) {l l'}:tN l l'->tN (.dF (cs++rest)::l) (.dF cs::l')
 |br {l l'}:tN l l'->tN (.br::l) (.sl []::l')
theorem Ql {P:Program} {w:World} {D:Nat->Prop} {ι:Names} {cs rest:List AV} {v:Value} (h:dy P w D ι (.dF (cs++rest)) v):dy P w D ι (.dF cs) v:=by
 obtain⟨b,o,vs,rfl,h1,h2,h3,h4⟩:=mv h
 exact .fF _ _ (.dF cs b o vs h1 (fun a ha=>h2 a (List.mem_append_left _ ha)) (fun j hj=>h3 j (by rw[List.length_append];omega)) fun j a ha=>h4 j a (by
  have:=(List.getElem?_eq_some_iff.1 ha).1
  rw[List.getElem?_append_left this];exact ha))
theorem Qn {P:Program} {w:World} {D:Nat->Prop} {ι:Names} {v:Value} (h:dy P w D ι .br v):dy P w D ι (.sl []) v:=by
 cases h with
 |fF _ _ h=>
  cases h with
  |br=>exact .fF _ _ (.Dy none 0 (Nat.zero_le _))
theorem tN.len {l l':List AV} (h:tN l l'):l'.length=l.length:=by induction h<;>simp_all
theorem tN.get {P:Program} {w:World} {D:Nat->Prop} {ι:Names} {l l':List AV} (h:tN l l'):∀{j:Nat} {a':AV},l'[j]? =some a'->∃a,l[j]? =some a/\∀v,dy P w D ι a v->dy P w D ι a' v:=by
 induction h with
 |nil=>intro j a' hj;simp at hj
 |same a _ ih=>
  intro j a' hj
  cases j with
  |zero=>simp at hj;subst hj;exact⟨a,rfl,fun _ h=>h⟩
  |succ j=>exact ih (by simpa using hj)
 |ptr cs rest _ ih=>
  intro j a' hj
  cases j with
  |zero=>simp at hj;subst hj;exact⟨_,rfl,fun _ h=>Ql h⟩
  |succ j=>exact ih (by simpa using hj)
 |br _ ih=>
  intro j a' hj
  cases j with
  |zero=>simp at hj;subst hj;exact⟨_,rfl,fun _ h=>Qn h⟩
  |succ j=>exact ih (by simpa using hj)
theorem Call.cut {P:Program} (hm:P.follows .mixedOrders=true) {f:Nat} {args args':List AV} {σ:az} {K:AV->az->Prop} (hc:tN args args') (h:Call P f args' σ K):Call P f args σ K:=
 gG fun hs D ι w vs S U A=>iE hm h hs D ι w vs S U ⟨by rw[A.1,hc.len],fun j a' hj=>by
  obtain⟨a,ha,hr⟩:=hc.get (P:=P) (w:=w) (D:=D) (ι:=ι) hj
  obtain⟨u,hu,hv⟩:=A.2 j a ha
  exact⟨u,hu,hr u hv⟩⟩
theorem ay.cut {P:Program} (hm:P.follows .mixedOrders=true) {f:Nat} {args args':List AV} {r:AV} (hc:tN args args') (h:ay P f args' r):ay P f args r:=fun n=>(h n).cut hm hc
end Go.Proofs.YtiabgllilcfheaaGreat.V

namespace Go.Proofs.YtiabgllilcfheaaGreat.V
open Go.RowKit
attribute [local irreducible] eC wpOps gi Call
attribute [local go_sem] aM fP fa fX fW du upd cz K.av cP AV.cells AV.cell rowOf rowsOf part ld rowAt bL cu dK eb gK bP de eu fS fq dx ef db da dR dS bU bf cU bR cW cV dW eh ee cR bW dd ec bQ aL cY cH gJ bF cL bV aY dr bq dL AV.undef bJ bK dV dY dQ dU cK er ez cF ej ei cX cZ List.getD_cons_zero List.getD_cons_succ List.getD_nil List.all_cons List.all_nil Bool.and_true Bool.true_and Bool.and_self Bool.not_true Bool.not_false Option.map_some Option.map_none Option.bind_some Option.bind_none List.length_cons List.length_nil List.take_succ_cons List.take_zero List.take_nil List.drop_succ_cons List.drop_zero List.drop_nil List.head?_cons List.map_cons List.map_nil List.getElem?_cons_zero List.getElem?_cons_succ List.cons_append List.nil_append List.append_nil List.length_map List.set_cons_zero List.set_cons_succ Nat.reduceMul eq_self Int.toNat_natCast Int.natCast_nonneg and_self true_and and_true decide_true decide_false Bool.false_eq_true Nat.zero_add Nat.add_zero List.contains_cons List.contains_nil Bool.or_false Bool.false_or beq_self_eq_true Nat.reduceBEq ne_eq not_true_eq_false not_false_eq_true Id.mk.injEq false_and and_false Nat.reduceLT Int.reduceLE Int.reduceLT Int.reduceToNat Int.reduceNeg Int.reduceAdd Nat.le_refl List.length_append beq_true beq_false Bool.not_eq_eq_eq_not or_false false_or eL ar ax aW bp bZ cw aV bH aU bh cQ bI
theorem Qs {s:aH} (hS:iK s) (a d:Int):sD s (dZ (ea s a) d)<=4:=by
 have hF:=hS.form
 have fZ:dZ (ea s a) d=0∨(0<=dZ (ea s a) d/\dZ (ea s a) d<=s.bd.length):=by
  unfold dZ ea
  rw[List.getD_eq_getElem?_getD,List.getD_eq_getElem?_getD]
  rcases ht:s.au[a.toNat]? with _|t
  ·exact .inl (by simp[CT])
  ·have Xx:=List.mem_of_getElem? ht
   simp only[Option.getD_some]
   rcases hg:t.ew[d.toNat]? with _|g
   ·exact .inl rfl
   ·exact .inr (hF.wZ t Xx g (List.mem_of_getElem? hg))
 unfold sD
 by_cases h0:dZ (ea s a) d=0
 ·rw[if_pos h0];omega
 ·rw[if_neg h0]
  have hk:(dZ (ea s a) d-1).toNat<s.bd.length:=ah
  have:=eT (hS.Yu _ hk).2.1
  unfold si at this
  unfold tb
  omega
theorem DX {s:aH} (hS:iK s) (a d b:Int):iL s a d b<=4:=by
 unfold iL
 split
 ·exact Qs hS a d
 ·omega
theorem Jl {s:aH} {l:List aa} (hS:iK s) {i:Nat} (hi:i<l.length) {d:Int}:∀b∈oE s l i d,b.a<l.length/\b.b<l.length/\0<=b.s/\b.s<=4:=by
 intro b hb
 unfold oE at hb
 split at hb
 ·rename_i h
  simp only[List.mem_singleton]at hb
  subst hb
  exact⟨hi,(ke h.1).1,by simp only;omega,DX hS ..⟩
 ·cases hb
theorem AN {s:aH} {l:List aa} (hS:iK s):∀b∈dI s l,b.a<l.length/\b.b<l.length/\0<=b.s/\b.s<=4:=by
 intro b hb
 simp only[dI,iU,iy,List.mem_flatMap,List.mem_range]at hb
 obtain⟨i,hi,j,_,hb⟩:=hb
 exact Jl hS hi b hb
theorem sR {s:aH} {l:List aa} (hF:lP l):(dI s l).length<=1000:=by
 have:=wO s l l.length
 have:=hF.wQ
 rw[dI];omega
theorem Lt {bs:List PB} {e:Nat} (h:e<bs.length):dq bs e∈bs:=by
 rw[dq,List.getD_eq_getElem?_getD,List.getElem?_eq_getElem h];exact List.getElem_mem h
theorem JQ {n:Nat} {bs:List PB} {t:Int} (h:n<2):l9 n bs t:=fun S h0 ⟨y,hy,hf⟩=>by
 have:y=0:=ah
 subst this;rw[h0]at hf;cases hf
def jr (s:aH) (l:List aa) (t:Int):Nat:=(leads l.length (ft (bx t (dI s l)))).length
noncomputable def pK (s:aH) (l:List aa) (t:Int):Bool:=@decide (rh l.length (dI s l) t) (Classical.propDecidable _)
def vZ (s:aH) (l:List aa) (t:Int):Int:=if 64<jr s l t then 4 else 0
theorem oa {s:aH} {l:List aa} {t:Int} {p:Prop} [Decidable p] (h:p↔rh l.length (dI s l) t):decide p=pK s l t:=by
 letI:=Classical.propDecidable (rh l.length (dI s l) t)
 unfold pK
 by_cases hp:p
 ·rw[decide_eq_true hp];exact(decide_eq_true (h.1 hp)).symm
 ·rw[decide_eq_false hp];exact(decide_eq_false fun k=>hp (h.2 k)).symm
theorem Fa (s:aH) (l:List aa) (t:Int) (hS:iK s) (hA:jf s l):ay Tryz.prog 62 [.dF (aj s),.dF [.sl (l.map ai)],.int .i64 t] (.gM [.bool (pK s l t),.int .i64 (vZ s l t)]):=by
 refine ay.body fR rfl fun hl n0=>?_
 clear hl
 have hb:=AN (l:=l) hS
 have iD:=sR (s:=s) hA.1
 have Ew:=hA.1.wQ
 have zY:=He s l hS.form hA
 have OC:=E9 l.length ah (dI s l) (fun b h=>⟨(hb b h).1,(hb b h).2.1⟩) ah t
 have hL:=xg (bx t (dI s l))
 have fZ:=HD hL (fun b h=>⟨(hb b h).1,(hb b h).2.1⟩)
 have hlen:=(pe (ft (bx t (dI s l))) (dI s l)).2
 have oK:=kQ l.length (ft (bx t (dI s l)))
 have fy:(l.map ai).length=l.length:=by simp
 by_cases xF:(64:Int)<(jr s l t:Int)
 ·have xG:64<jr s l t:=ah
  have hd:pK s l t=false:=(oa (p:=False) ⟨False.elim,fun h=>by have:=h.1;unfold jr at xG;omega⟩).symm.trans (by simp)
  rw[jr]at xF
  (have zF:=tw @aj.eq_1 (tw @xF @fy);(repeat(first|((repeat(revert N;apply Pn.out));refine wk zF ?_;(repeat(apply Pn.mk;intro N Z)))|((try apply Or.inl);refine⟨_,ay.x (zY) (sd zF),?_⟩;apply Z;clear Z N)|((try apply Or.inl);refine⟨_,ay.x (OC) (sd zF),?_⟩;apply Z;clear Z N)));try clear zF)
  exact km (.inl rfl) (r1:=.bool false) (r2:=.int .i64 4) (sd @Nat.zero_add) (sd @Nat.zero_add) (by rw[hd,vZ,if_pos xG];simp only[eR,bc,bY,fM,dG,Option.map_some])
 have xG:¬64<jr s l t:=ah
 have hf:vZ s l t=0:=by rw[vZ,if_neg xG]
 by_cases h2:(jr s l t:Int)<2
 ·have hd:pK s l t=true:=(oa (p:=True) ⟨fun _=>⟨by unfold jr at xG;omega,JQ (by unfold jr at h2;omega)⟩,fun _=>trivial⟩).symm.trans (by simp)
  rw[jr]at xF h2
  (have zF:=tw @aj.eq_1 (tw @xF (tw @h2 @fy));(repeat(first|((repeat(revert N;apply Pn.out));refine wk zF ?_;(repeat(apply Pn.mk;intro N Z)))|((try apply Or.inl);refine⟨_,ay.x (zY) (sd zF),?_⟩;apply Z;clear Z N)|((try apply Or.inl);refine⟨_,ay.x (OC) (sd zF),?_⟩;apply Z;clear Z N)));try clear zF)
  exact km (.inl rfl) (r1:=.bool true) (r2:=.int .i64 0) (sd @Nat.zero_add) (sd @Nat.zero_add) (by rw[hd,hf];simp only[eR,bc,bY,fM,dG,Option.map_some])
 have To:=CF (jr s l t) ah (by unfold jr;omega) (gj (ft (bx t (dI s l))) (dI s l)) (fun e he=>by have:=fZ _ (Lt he);exact⟨this.1,this.2.1,this.2.2.1⟩) ah (fun e he=>by
  obtain⟨_,_,_,c,hc,eD⟩:=fZ _ (Lt he)
  rw[eD];have:=hb c hc;omega)
 rw[jr]at xF h2 To
 (have zF:=tw @aj.eq_1 (tw @xF (tw @h2 @fy));(repeat(first|((repeat(revert N;apply Pn.out));refine wk zF ?_;(repeat(apply Pn.mk;intro N Z)))|((try apply Or.inl);refine⟨_,ay.x (zY) (sd zF),?_⟩;apply Z;clear Z N)|((try apply Or.inl);refine⟨_,ay.x (OC) (sd zF),?_⟩;apply Z;clear Z N)));try clear zF)
 refine .inr (aE _ _ _ _ _ (fun r σ1 hq=>?_) (To.x mixed))
 obtain⟨⟨j8,p,rfl,WN⟩,rfl⟩:=hq
 apply Z
 clear Z N
 (try((repeat(revert N;apply Pn.out));refine wk @Nat.zero_add ?_;(repeat(apply Pn.mk;intro N Z))))
 exact km (.inl rfl) (r1:=.bool (decide (t<=j8))) (r2:=.int .i64 0) (sd @Nat.zero_add) (sd @Nat.zero_add) (by
  rw[hf,oa (s:=s) (l:=l) (t:=t) (p:=t<=j8) ((WN t).trans (G2.trans ⟨fun h=>⟨by unfold jr at xG;omega,h⟩,fun h=>h.2⟩))]
  simp only[eR,bc,bY,fM,dG,Option.map_some])
theorem wq (t:Int):ay Tryz.prog 61 [.int .i64 t] (.bool (jm t 1 16)):=by
 refine ay.body fR rfl fun hl n0=>?_
 clear hl
 have h:=lj t 1 16
 (repeat(first|((repeat(revert N;apply Pn.out));refine wk @Nat.zero_add ?_;(repeat(apply Pn.mk;intro N Z)))|((try apply Or.inl);refine⟨_,ay.x (h) (sd @Nat.zero_add),?_⟩;apply Z;clear Z N)))
 exact cD (b:=jm t 1 16) (.inl rfl) (sd @Nat.zero_add) rfl
structure ql (s:aA):Prop where
 set:iK s.aI
 FH:jf s.aI s.dm.au
 some:1<=s.dm.au.length
 FN:jm s.aD 1 16=true
 holds:rh s.dm.au.length (dI s.aI s.dm.au) s.aD
noncomputable def kC (s:aA):Bool:=@decide (ql s) (Classical.propDecidable _)
theorem oc {s:aA}:kC s=true↔ql s:=by simp[kC]
theorem lk {s:aA} (h:¬ql s):false=kC s:=by simp[kC,h]
theorem FK {s:aA} (h:ql s):true=kC s:=by simp[kC,h]
theorem rR {s:aH} {l:List aa} {t:Int}:pK s l t=true↔rh l.length (dI s l) t:=by simp[pK]
theorem CG (s:aA) (hn:jh s.aI) (hg:s.aI.bd.length<=1048576) (ht:s.aI.au.length<=1048576):ay Tryz.prog 26 [.dF (bt s)] (.bool (kC s)):=by
 refine ay.body fR rfl fun hl n0=>?_
 clear hl
 have h1:=(PV s.aI hn hg ht).cut mixed (.ptr _ [.sl (s.dm.au.map ai),.int .i64 s.aD] .nil)
 by_cases hS:iK s.aI
 ·rw[n9.2 hS]at h1
  have h2:=(II s.aI s.dm.au).cut mixed (.ptr _ [.sl (s.dm.au.map ai),.int .i64 s.aD] (.ptr _ [.int .i64 s.aD] .nil))
  by_cases hA:jf s.aI s.dm.au
  ·rw[nN.2 hA]at h2
   by_cases h0:(s.dm.au.length:Int)=0
   ·have hd:decide ((s.dm.au.length:Int)=0)=true:=decide_eq_true h0
    have mT:false=kC s:=lk fun h=>by have:=h.some;omega
    generalize fy:(s.dm.au.map ai).length=len at *
    (have zF:=tw @bt.eq_1 (tw @aj.eq_1 @hd);(repeat(first|((repeat(revert N;apply Pn.out));refine wk zF ?_;(repeat(apply Pn.mk;intro N Z)))|((try apply Or.inl);refine⟨_,ay.x (h1) (sd zF),?_⟩;apply Z;clear Z N)|((try apply Or.inl);refine⟨_,ay.x (h2) (sd zF),?_⟩;apply Z;clear Z N)));try clear zF)
    exact cD (b:=false) (.inl rfl) (sd @Nat.zero_add) mT
   ·have hd:decide ((s.dm.au.length:Int)=0)=false:=decide_eq_false h0
    have h3:=wq s.aD
    cases hT:jm s.aD 1 16
    ·rw[hT]at h3
     (have zF:=tw @bt.eq_1 (tw @aj.eq_1 @hd);(repeat(first|((repeat(revert N;apply Pn.out));refine wk zF ?_;(repeat(apply Pn.mk;intro N Z)))|((try apply Or.inl);refine⟨_,ay.x (h1) (sd zF),?_⟩;apply Z;clear Z N)|((try apply Or.inl);refine⟨_,ay.x (h2) (sd zF),?_⟩;apply Z;clear Z N)|((try apply Or.inl);refine⟨_,ay.x (h3) (sd zF),?_⟩;apply Z;clear Z N)));try clear zF)
     exact cD (b:=false) (.inl rfl) (sd @Nat.zero_add) (lk fun h=>by have:=h.FN;rw[hT]at this;cases this)
    ·rw[hT]at h3
     have h4:=(Fa s.aI s.dm.au s.aD hS hA).cut mixed (.ptr _ [.sl (s.dm.au.map ai),.int .i64 s.aD] (.ptr _ [.int .i64 s.aD] (.same _ .nil)))
     cases hB:pK s.aI s.dm.au s.aD
     ·rw[hB]at h4
      (have zF:=tw @bt.eq_1 (tw @aj.eq_1 @hd);(repeat(first|((repeat(revert N;apply Pn.out));refine wk zF ?_;(repeat(apply Pn.mk;intro N Z)))|((try apply Or.inl);refine⟨_,ay.x (h1) (sd zF),?_⟩;apply Z;clear Z N)|((try apply Or.inl);refine⟨_,ay.x (h2) (sd zF),?_⟩;apply Z;clear Z N)|((try apply Or.inl);refine⟨_,ay.x (h3) (sd zF),?_⟩;apply Z;clear Z N)|((try apply Or.inl);refine⟨_,ay.x (h4) (sd zF),?_⟩;apply Z;clear Z N)));try clear zF)
      exact cD (b:=false) (.inl rfl) (sd @Nat.zero_add) (lk fun h=>by have:=rR.2 h.holds;rw[hB]at this;cases this)
     ·have hP:=rR.1 hB
      have hf:vZ s.aI s.dm.au s.aD=0:=by
       have:=hP.1
       rw[vZ,if_neg (by unfold jr;omega)]
      rw[hB,hf]at h4
      (have zF:=tw @bt.eq_1 (tw @aj.eq_1 @hd);(repeat(first|((repeat(revert N;apply Pn.out));refine wk zF ?_;(repeat(apply Pn.mk;intro N Z)))|((try apply Or.inl);refine⟨_,ay.x (h1) (sd zF),?_⟩;apply Z;clear Z N)|((try apply Or.inl);refine⟨_,ay.x (h2) (sd zF),?_⟩;apply Z;clear Z N)|((try apply Or.inl);refine⟨_,ay.x (h3) (sd zF),?_⟩;apply Z;clear Z N)|((try apply Or.inl);refine⟨_,ay.x (h4) (sd zF),?_⟩;apply Z;clear Z N)));try clear zF)
      exact cD (b:=true) (.inl rfl) (sd @Nat.zero_add) (FK ⟨hS,hA,ah,hT,hP⟩)
  ·have hb:rZ s.aI s.dm.au=false:=Bool.eq_false_iff.2 fun h=>hA (nN.1 h)
   rw[hb]at h2
   (repeat(first|((repeat(revert N;apply Pn.out));refine wk (tw @bt.eq_1 @aj.eq_1) ?_;(repeat(apply Pn.mk;intro N Z)))|((try apply Or.inl);refine⟨_,ay.x (h1) (sd (tw @bt.eq_1 @aj.eq_1)),?_⟩;apply Z;clear Z N)|((try apply Or.inl);refine⟨_,ay.x (h2) (sd (tw @bt.eq_1 @aj.eq_1)),?_⟩;apply Z;clear Z N)))
   exact cD (b:=false) (.inl rfl) (sd @Nat.zero_add) (lk fun h=>hA h.FH)
 ·have hb:tJ s.aI=false:=Bool.eq_false_iff.2 fun h=>hS (n9.1 h)
  rw[hb]at h1
  (repeat(first|((repeat(revert N;apply Pn.out));refine wk (tw @bt.eq_1 @aj.eq_1) ?_;(repeat(apply Pn.mk;intro N Z)))|((try apply Or.inl);refine⟨_,ay.x (h1) (sd (tw @bt.eq_1 @aj.eq_1)),?_⟩;apply Z;clear Z N)))
  exact cD (b:=false) (.inl rfl) (sd @Nat.zero_add) (lk fun h=>hS h.set)
theorem Qr {s:aH} (hS:iK s) (a d:Int):0<=sD s (dZ (ea s a) d):=by
 have hF:=hS.form
 have fZ:dZ (ea s a) d=0∨(0<=dZ (ea s a) d/\dZ (ea s a) d<=s.bd.length):=by
  unfold dZ ea
  rw[List.getD_eq_getElem?_getD,List.getD_eq_getElem?_getD]
  rcases ht:s.au[a.toNat]? with _|t
  ·exact .inl (by simp[CT])
  ·have Xx:=List.mem_of_getElem? ht
   simp only[Option.getD_some]
   rcases hg:t.ew[d.toNat]? with _|g
   ·exact .inl rfl
   ·exact .inr (hF.wZ t Xx g (List.mem_of_getElem? hg))
 unfold sD
 by_cases h0:dZ (ea s a) d=0
 ·rw[if_pos h0];omega
 ·rw[if_neg h0]
  have hk:(dZ (ea s a) d-1).toNat<s.bd.length:=ah
  have:=eT (hS.Yu _ hk).2.1
  unfold si at this
  unfold tb
  omega
theorem tT {s:aH} (hS:iK s) (a d b:Int):0<=iL s a d b/\iL s a d b<=4:=by
 refine⟨?_,DX hS a d b⟩
 unfold iL
 split
 ·exact Qr hS a d
 ·omega
def dp (s:aH) (f:aq->Int) (p:aq) (t:Int):Nat->Int
 |0=>0
 |d+1=>dp s f p t d+if 0<=f (cj p d)then iL s t d (f (cj p d))else 0
def mb (s:aH) (f:aq->Int) (p:aq) (t:Int):Int:=dp s f p t 4
theorem jU {s:aH} (hS:iK s) (f:aq->Int) (p:aq) (t:Int):∀d,0<=dp s f p t d/\dp s f p t d<=4*(d:Int)
 |0=>⟨Int.le_refl _,Int.le_refl _⟩
 |d+1=>by
  have:=jU hS f p t d
  have hb:=tT hS t d (f (cj p d))
  simp only[dp]
  split<;>omega
theorem DR {s:aH} {l:List aa} (hA:jf s l) {p:aq} (h:0<=fQ l p):eY s (fQ l p)=true:=by
 unfold fQ at h ⊢
 split at h
 ·rename_i h0
  rw[if_pos h0]
  exact hA.2 _ (jc (ke h0).1)
 ·omega
theorem CE (s:aH) (hS:iK s) (l:List aa) (hA:jf s l) (p:aq) (hx:iB p.fC) (hy:iB p.fu) (t:Int) (ht:eY s t=true):ay Tryz.prog 100 [.dF (aj s),.dF [.sl (l.map ai)],.agg (ae p),.int .i64 t] (.int .i64 (mb s (fQ l) p t)):=by
 refine ay.body fR rfl fun hl n0=>?_
 clear hl
 have hR:=hA.1.Kw
 have Pa:l.length<=1048576:=by have:=hA.1.wQ;omega
 (try((repeat(revert N;apply Pn.out));refine wk @ae.eq_1 ?_;(repeat(apply Pn.mk;intro N Z))))
 refine bz (fun n env st=>∃k:Nat,n=(4)-k/\k<=(4)/\env 10=.int .i64 (k:Int)/\env 9=.int .i64 (dp s (fQ l) p t k)/\st.get ⟨100000000,n0⟩=some ⟨true,2,[ae p]⟩) (4) ⟨0,ah,ah,sl @ae.eq_1,sl @ae.eq_1,sl @ae.eq_1⟩ ?_
 rintro n_a env_a st_a ⟨k,rfl,ale,rY,a9,ag0⟩ eE
 have a0:=eE 0 (by kernel_rfl);have a1:=eE 1 (by kernel_rfl);have a3:=eE 3 (by kernel_rfl);have a6:=eE 6 (by kernel_rfl)
 simp only[go_sem, ↓reduceIte,Nat.reduceEqDiff,Nat.reduceAdd,Nat.reduceSub,Nat.reduceLeDiff,reduceCtorEq,ae]at a0 a1 a3 a6
 clear eE
 by_cases hk:(k:Int)<4
 ·have dD:∀{e:Env} {gg:Rows},(e 10=.int .i64 (IntKind.i64.wrap ((k:Int)+1)))->(e 9=.int .i64 (dp s (fQ l) p t (k+1)))->(gg ⟨100000000,n0⟩=some ⟨true,2,[ae p]⟩)->∃m0,m0<(4)-k/\∃k:Nat,m0=(4)-k/\k<=(4)/\e 10=.int .i64 (k:Int)/\e 9=.int .i64 (dp s (fQ l) p t k)/\gg ⟨100000000,n0⟩=some ⟨true,2,[ae p]⟩:=fun x1 x2 x3=>⟨_,ah,k+1,rfl,ah,(by rw[x1,aK ah]),x2,x3⟩
  have eA:=rD p k (jn ah) hx hy
  have tf:=CD l (cj p k) hR Pa
  have fZ:=jU hS (fQ l) p t k
  by_cases h0:0<=fQ l (cj p k)
  ·have zY:=Bo s hS.form t k (fQ l (cj p k)) ht (DR hA h0) (jn ah)
   have gH:=tT hS t k (fQ l (cj p k))
   have hw:IntKind.i64.wrap (dp s (fQ l) p t k+iL s t k (fQ l (cj p k)))=dp s (fQ l) p t (k+1):=by
    rw[cm ah,dp,if_pos h0]
   (have zF:=tw @rY (tw @a9 (tw @ag0 (tw @a0 (tw @a1 (tw @a3 (tw @a6 (tw @hk (tw @h0 @ae.eq_1))))))));(repeat(first|((repeat(revert N;apply Pn.out));refine wk zF ?_;(repeat(apply Pn.mk;intro N Z)))|((try apply Or.inl);refine⟨_,ay.x (eA) (sd zF),?_⟩;apply Z;clear Z N)|((try apply Or.inl);refine⟨_,ay.x (tf) (sd zF),?_⟩;apply Z;clear Z N)|((try apply Or.inl);refine⟨_,ay.x (zY) (sd zF),?_⟩;apply Z;clear Z N)));try clear zF)
   refine dD ?_ ?_ ?_
   all_goals simp only[go_sem, ↓reduceIte,Nat.reduceEqDiff,Nat.reduceAdd,Nat.reduceSub,Nat.reduceLeDiff,reduceCtorEq,rY,a9,ag0,a0,a1,a3,a6,hw,ae]
  ·have hw:dp s (fQ l) p t (k+1)=dp s (fQ l) p t k:=by rw[dp,if_neg h0,Int.add_zero]
   (have zF:=tw @rY (tw @a9 (tw @ag0 (tw @a0 (tw @a1 (tw @a3 (tw @a6 (tw @hk (tw @h0 @ae.eq_1))))))));(repeat(first|((repeat(revert N;apply Pn.out));refine wk zF ?_;(repeat(apply Pn.mk;intro N Z)))|((try apply Or.inl);refine⟨_,ay.x (eA) (sd zF),?_⟩;apply Z;clear Z N)|((try apply Or.inl);refine⟨_,ay.x (tf) (sd zF),?_⟩;apply Z;clear Z N)));try clear zF)
   refine dD ?_ ?_ ?_
   all_goals simp only[go_sem, ↓reduceIte,Nat.reduceEqDiff,Nat.reduceAdd,Nat.reduceSub,Nat.reduceLeDiff,reduceCtorEq,rY,a9,ag0,a0,a1,a3,a6,hw,ae]
 ·(try((repeat(revert N;apply Pn.out));refine wk (tw @rY (tw @a9 (tw @ag0 (tw @a0 (tw @a1 (tw @a3 (tw @a6 @hk))))))) ?_;(repeat(apply Pn.mk;intro N Z))))
  exact eJ (b:=dp s (fQ l) p t k) (.inl rfl) (sd (tw @rY (tw @a9 (tw @ag0 (tw @a0 (tw @a1 (tw @a3 @a6))))))) (by rw[show k=4 by omega];rfl)
def I9 (la lb:List aa):Bool:=la.all fun t=>decide (fQ lb t.bD=t.ck)
noncomputable def xu (s:aA) (l:List aa):Bool:=kC s&&rZ s.aI l
theorem Hf (s:aA) (l:List aa) (hn:jh s.aI) (hg:s.aI.bd.length<=1048576) (ht:s.aI.au.length<=1048576):ay Tryz.prog 50 [.dF (bt s),.dF [.sl (l.map ai)]] (.int .i64 (if xu s l then 0 else 1)):=by
 refine ay.body fR rfl fun hl n0=>?_
 clear hl
 have h1:=CG s hn hg ht
 have h2:=(II s.aI l).cut mixed (.ptr _ [.sl (s.dm.au.map ai),.int .i64 s.aD] (.same _ .nil))
 cases b1:kC s
 ·rw[b1]at h1
  (repeat(first|((repeat(revert N;apply Pn.out));refine wk @Nat.zero_add ?_;(repeat(apply Pn.mk;intro N Z)))|((try apply Or.inl);refine⟨_,ay.x (h1) (sd @Nat.zero_add),?_⟩;apply Z;clear Z N)))
  exact eJ (b:=1) (.inl rfl) (sd @Nat.zero_add) (by rw[xu,b1];rfl)
 rw[b1]at h1
 rw[bt]at h1 ⊢
 cases b2:rZ s.aI l
 ·rw[b2]at h2
  (repeat(first|((repeat(revert N;apply Pn.out));refine wk @aj.eq_1 ?_;(repeat(apply Pn.mk;intro N Z)))|((try apply Or.inl);refine⟨_,ay.x (h1) (sd @aj.eq_1),?_⟩;apply Z;clear Z N)|((try apply Or.inl);refine⟨_,ay.x (h2) (sd @aj.eq_1),?_⟩;apply Z;clear Z N)))
  exact eJ (b:=1) (.inl rfl) (sd @Nat.zero_add) (by rw[xu,b1,b2];rfl)
 ·rw[b2]at h2
  (repeat(first|((repeat(revert N;apply Pn.out));refine wk @aj.eq_1 ?_;(repeat(apply Pn.mk;intro N Z)))|((try apply Or.inl);refine⟨_,ay.x (h1) (sd @aj.eq_1),?_⟩;apply Z;clear Z N)|((try apply Or.inl);refine⟨_,ay.x (h2) (sd @aj.eq_1),?_⟩;apply Z;clear Z N)))
  exact eJ (b:=0) (.inl rfl) (sd @Nat.zero_add) (by rw[xu,b1,b2];rfl)
theorem yq {s:aA} {l:List aa}:xu s l=true↔ql s/\jf s.aI l:=by simp[xu,oc,nN]
theorem Gz {f:Nat->Bool} {n k:Nat} (h1:k<n) (h2:f k=true) (h3:∀j,j<k->f j=false):(List.range n).find? f=some k:=by
 rw[List.find?_range_eq_some]
 exact⟨h2,List.mem_range.2 h1,fun j hj=>by rw[h3 j hj];rfl⟩
theorem xE {f:Nat->Bool} {n:Nat} (h:∀j,j<n->f j=false):(List.range n).find? f=none:=by
 rw[List.find?_range_eq_none]
 exact fun j hj=>by rw[h j hj];rfl
theorem FO {s:aH} {k:Nat} (h:k<s.au.length):eY s k=true:=by
 unfold eY;exact jn ah
theorem vJ {s:aH} {l:List aa} (hA:jf s l) (p:aq):fQ l p<0↔fb l p<0:=by
 constructor
 ·intro h
  rcases Int.lt_or_le (fb l p) 0 with h0|h0
  ·exact h0
  ·exfalso
   obtain⟨h1,_⟩:=ke h0
   have h2:=(eT (hA.2 _ (jc h1))).1
   rw[fQ,if_pos h0]at h
   omega
 ·intro h
  rw[fQ,if_neg ah];omega
abbrev mP:MK:=⟨true,[.tI,.tI]⟩
theorem Fo (p:aq):∀(ts:List aa) (i:Nat),ir mP (ae p) (ts.map ai) i=some (if sq ts p<ts.length then some (i+sq ts p)else none)
 |[],i=>by simp[ir,sq]
 |t::ts,i=>by
  have e:fq mP.ts (ae p) ((ai t).take mP.ks)=some (decide (p=t.bD)):=by
   have h:(p=t.bD)↔(p.fC=t.bD.fC/\p.fu=t.bD.fu):=⟨fun h=>by rw[h];exact⟨rfl,rfl⟩,fun h=>zw h.1 h.2⟩
   simp[MK.ks,ae,ai,fq,fS,h]
  have ih:=Fo p ts (i+1)
  rw[List.map_cons]
  unfold ir
  rw[e]
  by_cases h:p=t.bD
  ·rw[decide_eq_true h]
   have h0:sq (t::ts) p=0:=by simp[sq,List.findIdx_cons,h]
   simp[h0]
  ·rw[decide_eq_false h]
   have h0:sq (t::ts) p=sq ts p+1:=by
    simp[sq,List.findIdx_cons,Ne.symm h]
   simp only[ih,h0,List.length_cons,Nat.add_lt_add_iff_right]
   congr 1
   split<;>simp;omega
theorem Bz (ts:List aa) (p:aq):ij mP (.agg [.int .i64 p.fC,.int .i64 p.fu]) (ts.map ai)=some (if 0<=fb ts p then some (fb ts p).toNat else none):=by
 have h:=Fo p ts 0
 unfold ij
 rw[if_pos ⟨rfl,rfl,rfl⟩]
 show ir mP (ae p) _ 0= _
 rw[h]
 unfold fb
 split<;>simp
theorem Kj {ts:List aa} {p:aq} (h:0<=fb ts p):ij mP (.agg [.int .i64 p.fC,.int .i64 p.fu]) (ts.map ai)=some (some (fb ts p).toNat):=by rw[Bz,if_pos h]
theorem zl {ts:List aa} {p:aq} (h:fb ts p<0):ij mP (.agg [.int .i64 p.fC,.int .i64 p.fu]) (ts.map ai)=some none:=by rw[Bz,if_neg ah]
structure DE (g:Rows) (n:Nat) (c T O:Id) (s:aA) (ts:List aa):Prop where
 row:∃b,g c=some ⟨b,6,[[.sl (s.aI.bd.map ek),.sl (s.aI.au.map dw),.sl (s.dm.au.map ai),.int .i64 s.aD,.map T mP,.map O mP]]⟩
 tl:∃b,g T=some ⟨b,mP.mY,ts.map ai⟩
 cv:c.bj<n
 tv:T.bj<n
 ov:O.bj<n
theorem DE.ro {g:Rows} {n:Nat} {c T O:Id} {s:aA} {ts:List aa} (h:DE g n c T O s ts):DE (V.ro g) n c T O s ts:=by
 obtain⟨b,h1⟩:=h.row
 obtain⟨b2,h2⟩:=h.tl
 exact⟨⟨false,by simp[V.ro,h1]⟩,⟨false,by simp[V.ro,h2]⟩,h.cv,h.tv,h.ov⟩
theorem DE.frame {g g':Rows} {n n':Nat} {c T O:Id} {s:aA} {ts:List aa} (h:DE g n c T O s ts) (hn:n<=n') (hc:g' c=g c) (hT:g' T=g T):DE g' n' c T O s ts:=
 ⟨by rw[hc];exact h.row,by rw[hT];exact h.tl,Nat.lt_of_lt_of_le h.cv hn,Nat.lt_of_lt_of_le h.tv hn,Nat.lt_of_lt_of_le h.ov hn⟩
theorem ZL {σ:az} {c T O:Id} {s:aA} {ts:List aa} (h:DE σ.get σ.next c T O s ts) (p:aq):Call Tryz.prog 89 [.ptr c 0 0,.agg (ae p)] σ (fun r _=>r=.int .i64 (fQ ts p)):=by
 refine hZ fR rfl fun gZ=>?_
 clear gZ
 obtain⟨b,h1⟩:=h.row
 obtain⟨b2,h2⟩:=h.tl
 have v1:=dh h.cv
 have v2:=dh h.tv
 by_cases h0:0<=fb ts p
 ·have hm:=Kj h0
  have hg:=gI (ke h0).1
  have ho:(some (fb ts p).toNat).isSome=true:=rfl
  (try((repeat(revert N;apply Pn.out));refine wk (tw @h1 (tw @h2 (tw @v1 (tw @v2 (tw @hm (tw @hg (tw @ho (tw @ae.eq_1 @ai.eq_1)))))))) ?_;(repeat(apply Pn.mk;intro N Z))))
  exact fV (.inl rfl) (vs:=[.int .i64 (bw ts (fb ts p).toNat).ck]) (sd @Nat.zero_add) (by rw[fQ,if_pos h0];rfl)
 ·have hm:=zl (ts:=ts) (p:=p) ah
  have ho:(none:Option Nat).isSome=false:=rfl
  (try((repeat(revert N;apply Pn.out));refine wk (tw @h1 (tw @h2 (tw @v1 (tw @v2 (tw @hm (tw @ho @ae.eq_1)))))) ?_;(repeat(apply Pn.mk;intro N Z))))
  exact fV (.inl rfl) (vs:=[.int .i64 (-1)]) (sd @Nat.zero_add) (by rw[fQ,if_neg h0];rfl)
theorem R5 {σ:az} {c T O:Id} {s:aA} {ts:List aa} (h:DE σ.get σ.next c T O s ts) (p:aq):gi (Call Tryz.prog) 89 [.ptr c 0 0,.agg (ae p)] σ (fun r=>r=.int .i64 (fQ ts p)):=by
 unfold gi PC
 exact Or.inl (aE _ _ _ _ _ (fun r σ' hr=>⟨_,by rw[hr];exact aW _ _ _ _,rfl⟩) (ZL (σ:=⟨V.ro σ.get,σ.next⟩) h.ro p))
theorem Jj {σ:az} (s:aH) (hS:iK s) (F:aq->Int) (hF:∀q,0<=F q->eY s (F q)=true) (p:aq) (hx:iB p.fC) (hy:iB p.fu) (t:Int) (ht:eY s t=true) (f:Nat) (first:List AV)
  (tf:∀σ':az,σ.next<=σ'.next->(∀x:Id,x.bj<σ.next->σ'.get x=σ.get x)->∀q,gi (Call Tryz.prog) f (first++[.agg (ae q)]) σ' (fun r=>r=.int .i64 (F q))):
  Call Tryz.prog 90 [.agg (aj s),.agg (ae p),.int .i64 t,.xi f first] σ (fun r _=>r=.int .i64 (mb s F p t)):=by
 refine hZ fR rfl fun gZ=>?_
 clear gZ
 (try((repeat(revert N;apply Pn.out));refine wk (tw @ae.eq_1 @aj.eq_1) ?_;(repeat(apply Pn.mk;intro N Z))))
 refine bz (fun n env st=>∃k:Nat,n=(4)-k/\k<=(4)/\env 12=.int .i64 (k:Int)/\env 9=.int .i64 (dp s F p t k)/\st.get ⟨90000000,σ.next⟩=some ⟨true,2,[aj s]⟩/\st.get ⟨90000001,σ.next⟩=some ⟨true,2,[ae p]⟩/\(σ.next<st.next/\∀x:Id,x.bj<σ.next->st.get x=σ.get x)) (4) ⟨0,ah,ah,sl (tw @ae.eq_1 @aj.eq_1),sl (tw @ae.eq_1 @aj.eq_1),sl (tw @ae.eq_1 @aj.eq_1),sl (tw @ae.eq_1 @aj.eq_1),⟨aQ,fun x hx=>by
  have:=dh hx
  simp only[go_sem, ↓reduceIte,Nat.reduceEqDiff,Nat.reduceAdd,Nat.reduceSub,Nat.reduceLeDiff,reduceCtorEq,this]⟩⟩ ?_
 rintro n_a env_a st_a ⟨k,rfl,ale,a12,a9,ag0,ag1,nh⟩ eE
 have a2:=eE 2 (by kernel_rfl);have a3:=eE 3 (by kernel_rfl);have a4:=eE 4 (by kernel_rfl);have a5:=eE 5 (by kernel_rfl)
 simp only[go_sem, ↓reduceIte,Nat.reduceEqDiff,Nat.reduceAdd,Nat.reduceSub,Nat.reduceLeDiff,reduceCtorEq,ae,aj]at a2 a3 a4 a5
 clear eE
 obtain⟨an,eE⟩:=nh
 by_cases hk:(k:Int)<4
 ·have dD:∀{e:Env} {gg:Rows} {nx:Nat},(e 12=.int .i64 (IntKind.i64.wrap ((k:Int)+1)))->(e 9=.int .i64 (dp s F p t (k+1)))->(gg ⟨90000000,σ.next⟩=some ⟨true,2,[aj s]⟩)->(gg ⟨90000001,σ.next⟩=some ⟨true,2,[ae p]⟩)->(σ.next<nx/\∀x:Id,x.bj<σ.next->gg x=σ.get x)->∃m0,m0<(4)-k/\∃k:Nat,m0=(4)-k/\k<=(4)/\e 12=.int .i64 (k:Int)/\e 9=.int .i64 (dp s F p t k)/\gg ⟨90000000,σ.next⟩=some ⟨true,2,[aj s]⟩/\gg ⟨90000001,σ.next⟩=some ⟨true,2,[ae p]⟩/\(σ.next<nx/\∀x:Id,x.bj<σ.next->gg x=σ.get x):=fun x1 x2 x3 x4 x5=>⟨_,ah,k+1,rfl,ah,(by rw[x1,aK ah]),x2,x3,x4,x5⟩
  have eA:=HH p k (jn ah) hx hy
  have fZ:=jU hS F p t k
  (have zF:=tw @a12 (tw @a9 (tw @ag0 (tw @ag1 (tw @a2 (tw @a3 (tw @a4 (tw @a5 (tw @hk @ae.eq_1))))))));(repeat(first|((repeat(revert N;apply Pn.out));refine wk zF ?_;(repeat(apply Pn.mk;intro N Z)))|((try apply Or.inl);refine⟨_,ay.x (eA) (sd zF),?_⟩;apply Z;clear Z N)));try clear zF)
  refine .inl ⟨_,tf _ aQ (fun x hx=>sd (eE x hx)) (cj p k),?_⟩
  apply Z
  clear Z N
  by_cases h0:0<=F (cj p k)
  ·have zY:=Lz s hS.form t k (F (cj p k)) ht (hF _ h0) (jn ah)
   have gH:=tT hS t k (F (cj p k))
   have hw:IntKind.i64.wrap (dp s F p t k+iL s t k (F (cj p k)))=dp s F p t (k+1):=by
    rw[cm ah,dp,if_pos h0]
   rw[aj]at zY
   (have zF:=tw @a12 (tw @a9 (tw @ag0 (tw @ag1 (tw @a2 (tw @a3 (tw @a4 (tw @a5 (tw @h0 @aj.eq_1))))))));(repeat(first|((repeat(revert N;apply Pn.out));refine wk zF ?_;(repeat(apply Pn.mk;intro N Z)))|((try apply Or.inl);refine⟨_,ay.x (zY) (sd zF),?_⟩;apply Z;clear Z N)));try clear zF)
   refine dD ?_ ?_ ?_ ?_ (⟨aQ,fun x hx=>by
    have h1:=eE x hx
    simp only[go_sem, ↓reduceIte,Nat.reduceEqDiff,Nat.reduceAdd,Nat.reduceSub,Nat.reduceLeDiff,reduceCtorEq,h1]⟩)
   all_goals simp only[go_sem, ↓reduceIte,Nat.reduceEqDiff,Nat.reduceAdd,Nat.reduceSub,Nat.reduceLeDiff,reduceCtorEq,a12,a9,ag0,ag1,a2,a3,a4,a5,hw,ae,aj]
  ·have hw:dp s F p t (k+1)=dp s F p t k:=by rw[dp,if_neg h0,Int.add_zero]
   (try((repeat(revert N;apply Pn.out));refine wk (tw @a12 (tw @a9 (tw @ag0 (tw @ag1 (tw @a2 (tw @a3 (tw @a4 (tw @a5 @h0)))))))) ?_;(repeat(apply Pn.mk;intro N Z))))
   refine dD ?_ ?_ ?_ ?_ (⟨aQ,fun x hx=>by
    have h1:=eE x hx
    simp only[go_sem, ↓reduceIte,Nat.reduceEqDiff,Nat.reduceAdd,Nat.reduceSub,Nat.reduceLeDiff,reduceCtorEq,h1]⟩)
   all_goals simp only[go_sem, ↓reduceIte,Nat.reduceEqDiff,Nat.reduceAdd,Nat.reduceSub,Nat.reduceLeDiff,reduceCtorEq,a12,a9,ag0,ag1,a2,a3,a4,a5,hw,ae,aj]
 ·(try((repeat(revert N;apply Pn.out));refine wk (tw @a12 (tw @a9 (tw @ag0 (tw @ag1 (tw @a2 (tw @a3 (tw @a4 (tw @a5 @hk)))))))) ?_;(repeat(apply Pn.mk;intro N Z))))
  exact fV (.inl rfl) (vs:=[.int .i64 (dp s F p t k)]) (sd (tw @a12 (tw @a9 (tw @ag0 (tw @ag1 (tw @a2 (tw @a3 (tw @a4 @a5)))))))) (by rw[show k=4 by omega];rfl)
noncomputable def dX (s:aA) (ts:List aa) (p:aq) (t:Int):Bool:=z8 p&&decide (fQ ts p<0)&&decide (s.aD<=mb s.aI (fQ ts) p t)
theorem Jk {σ:az} {c T O:Id} {s:aA} {ts:List aa} (h:DE σ.get σ.next c T O s ts) (hS:iK s.aI) (hF:∀q,0<=fQ ts q->eY s.aI (fQ ts q)=true) (p:aq) (hx:iB p.fC) (hy:iB p.fu) (t:Int) (ht:eY s.aI t=true):
  gi (Call Tryz.prog) 90 [.agg (aj s.aI),.agg (ae p),.int .i64 t,.xi 89 [.ptr c 0 0]] σ (fun r=>r=.int .i64 (mb s.aI (fQ ts) p t)):=by
 unfold gi PC
 exact Or.inl (aE _ _ _ _ _ (fun r σ' hr=>⟨_,by rw[hr];exact aW _ _ _ _,rfl⟩) (Jj (σ:=⟨V.ro σ.get,σ.next⟩) s.aI hS (fQ ts) hF p hx hy t ht _ _
  (fun σ' hn hk q=>R5 (h.ro.frame hn (hk _ h.cv) (hk _ h.tv)) q)))
theorem Sn {σ:az} {c T O:Id} {s:aA} {ts:List aa} (h:DE σ.get σ.next c T O s ts) (hS:iK s.aI) (hF:∀q,0<=fQ ts q->eY s.aI (fQ ts q)=true) (p:aq) (t:Int) (ht:eY s.aI t=true):
  Call Tryz.prog 56 [.ptr c 0 0,.agg (ae p),.int .i64 t] σ (fun r _=>r=.bool (dX s ts p t)):=by
 refine hZ fR rfl fun gZ=>?_
 clear gZ
 obtain⟨b,h1⟩:=h.row
 have v1:=dh h.cv
 have hw:=tQ p
 have v2:=dh h.tv
 by_cases h0:z8 p=true
 ·rw[h0]at hw
  obtain⟨hx,hy⟩:=tF h0
  by_cases h2:fQ ts p<0
  ·(have zF:=tw @h1 (tw @v1 (tw @h2 @ae.eq_1));(repeat(first|((repeat(revert N;apply Pn.out));refine wk zF ?_;(repeat(apply Pn.mk;intro N Z)))|((try apply Or.inl);refine⟨_,ay.x (hw) (sd zF),?_⟩;apply Z;clear Z N)));try clear zF)
   refine⟨_,R5 (h.frame aQ (sd @v1) (sd @v2)) p,?_⟩
   apply Z
   clear Z N
   (have zF:=tw @h1 (tw @v1 (tw @h2 (tw @ae.eq_1 @aj.eq_1)));(repeat(first|((repeat(revert N;apply Pn.out));refine wk zF ?_;(repeat(apply Pn.mk;intro N Z)))|((try apply Or.inl);refine⟨_,ay.x (hw) (sd zF),?_⟩;apply Z;clear Z N)));try clear zF)
   refine⟨_,Jk (h.frame aQ (sd @v1) (sd @v2)) hS hF p hx hy t ht,?_⟩
   apply Z
   clear Z N
   have hb:=jU hS (fQ ts) p t 4
   (have zF:=tw @h1 (tw @v1 (tw @h2 (tw @ae.eq_1 @aj.eq_1)));(repeat(first|((repeat(revert N;apply Pn.out));refine wk zF ?_;(repeat(apply Pn.mk;intro N Z)))|((try apply Or.inl);refine⟨_,ay.x (hw) (sd zF),?_⟩;apply Z;clear Z N)));try clear zF)
   exact fV (.inl rfl) (vs:=[.bool (decide (s.aD<=mb s.aI (fQ ts) p t))]) (sd @Nat.zero_add) (by rw[show dX s ts p t=decide (s.aD<=mb s.aI (fQ ts) p t) by simp[dX,h0,h2]];rfl)
  ·(have zF:=tw @h1 (tw @v1 (tw @h2 @ae.eq_1));(repeat(first|((repeat(revert N;apply Pn.out));refine wk zF ?_;(repeat(apply Pn.mk;intro N Z)))|((try apply Or.inl);refine⟨_,ay.x (hw) (sd zF),?_⟩;apply Z;clear Z N)));try clear zF)
   refine⟨_,R5 (h.frame aQ (sd @v1) (sd @v2)) p,?_⟩
   apply Z
   clear Z N
   (have zF:=tw @h1 (tw @v1 (tw @h2 @ae.eq_1));(repeat(first|((repeat(revert N;apply Pn.out));refine wk zF ?_;(repeat(apply Pn.mk;intro N Z)))|((try apply Or.inl);refine⟨_,ay.x (hw) (sd zF),?_⟩;apply Z;clear Z N)));try clear zF)
   exact fV (.inl rfl) (vs:=[.bool false]) (sd @Nat.zero_add) (by rw[show dX s ts p t=false by simp[dX,h2]];rfl)
 ·rw[Bool.not_eq_true]at h0
  rw[h0]at hw
  (have zF:=tw @h1 (tw @v1 @ae.eq_1);(repeat(first|((repeat(revert N;apply Pn.out));refine wk zF ?_;(repeat(apply Pn.mk;intro N Z)))|((try apply Or.inl);refine⟨_,ay.x (hw) (sd zF),?_⟩;apply Z;clear Z N)));try clear zF)
  exact fV (.inl rfl) (vs:=[.bool false]) (sd @Nat.zero_add) (by rw[show dX s ts p t=false by simp[dX,h0]];rfl)
def OW (rows:List (List AV)):Prop:=∀r∈rows,∃(x y:Int) (v:AV),r=[.int .i64 x,.int .i64 y,v]
def QX (σ:az) (O:Id) (g:Rows) (n:Nat):Prop:=σ.next<=n/\(∀x:Id,x.bj<σ.next->x≠O->g x=σ.get x)/\∃rows,g O=some ⟨true,mP.mY,rows⟩/\OW rows
theorem LQ {σ:az} {c T O:Id} {s:aA} {ts:List aa} (h:DE σ.get σ.next c T O s ts) (hS:iK s.aI) (hF:∀q,0<=fQ ts q->eY s.aI (fQ ts q)=true) (p:aq) (t:Int) (ht:eY s.aI t=true):
  gi (Call Tryz.prog) 56 [.ptr c 0 0,.agg (ae p),.int .i64 t] σ (fun r=>r=.bool (dX s ts p t)):=by
 unfold gi PC
 exact Or.inl (aE _ _ _ _ _ (fun r σ' hr=>⟨_,by rw[hr];exact bp _ _ _,rfl⟩) (Sn (σ:=⟨V.ro σ.get,σ.next⟩) h.ro hS hF p t ht))
structure qf (g:Rows) (n:Nat) (c T O:Id) (s:aA) (ts:List aa):Prop where
 row:g c=some ⟨true,6,[[.sl (s.aI.bd.map ek),.sl (s.aI.au.map dw),.sl (s.dm.au.map ai),.int .i64 s.aD,.map T mP,.map O mP]]⟩
 tl:g T=some ⟨true,mP.mY,ts.map ai⟩
 op:∃rows,g O=some ⟨true,mP.mY,rows⟩/\OW rows
 cv:c.bj<n
 tv:T.bj<n
 ov:O.bj<n
 cT:c≠T
 cO:c≠O
 TO:T≠O
theorem qf.Si {g:Rows} {n:Nat} {c T O:Id} {s:aA} {ts:List aa} (h:qf g n c T O s ts):DE g n c T O s ts:=⟨⟨_,h.row⟩,⟨_,h.tl⟩,h.cv,h.tv,h.ov⟩
theorem qf.look {σ:az} {g:Rows} {n:Nat} {c T O:Id} {s:aA} {ts:List aa} (h:qf σ.get σ.next c T O s ts) (k:QX σ O g n):qf g n c T O s ts:=
 ⟨(k.2.1 _ h.cv h.cO).trans h.row,(k.2.1 _ h.tv h.TO).trans h.tl,k.2.2,Nat.lt_of_lt_of_le h.cv k.1,Nat.lt_of_lt_of_le h.tv k.1,Nat.lt_of_lt_of_le h.ov k.1,h.cT,h.cO,h.TO⟩
theorem qf.frame {g g':Rows} {n n':Nat} {c T O:Id} {s:aA} {ts:List aa} (h:qf g n c T O s ts) (hn:n<=n') (hf:∀x:Id,x.bj<n->g' x=g x):qf g' n' c T O s ts:=
 ⟨(hf _ h.cv).trans h.row,(hf _ h.tv).trans h.tl,by rw[hf _ h.ov];exact h.op,Nat.lt_of_lt_of_le h.cv hn,Nat.lt_of_lt_of_le h.tv hn,Nat.lt_of_lt_of_le h.ov hn,h.cT,h.cO,h.TO⟩
theorem y5 {l:List aa} {p:aq}:fb l p<0↔∀t∈l,t.bD≠p:=by
 unfold fb sq
 by_cases h:(l.findIdx fun c=>decide (c.bD=p))<l.length
 ·rw[if_pos h]
  obtain⟨t,ht,h2⟩:=List.findIdx_lt_length.1 h
  exact⟨fun h=>ah,fun h=>absurd (by simpa using h2) (h t ht)⟩
 ·rw[if_neg h]
  exact⟨fun _ t ht e=>h (List.findIdx_lt_length.2 ⟨t,ht,by simp[e]⟩),fun _=>ah⟩
theorem NB {l:List aa} (h:ny l) {k:Nat} (hk:k<l.length):fb (l.take k) (bw l k).bD<0:=by
 rw[y5]
 intro t ht e
 obtain⟨j,hj,rfl⟩:=List.getElem_of_mem ht
 have Ou:j<k:=by rw[List.length_take]at hj;omega
 have:=h j k Ou hk
 rw[List.getElem_take]at e
 have e2:bw l j=l[j]'ah:=by unfold bw;rw[List.getD_eq_getElem?_getD,List.getElem?_eq_getElem ah];rfl
 rw[e2,e]at this
 simp[jM]at this
theorem Qt {l:List aa} {k:Nat} (hk:k<l.length):(l.take k).map ai++[[.int .i64 (bw l k).bD.fC,.int .i64 (bw l k).bD.fu,.int .i64 (bw l k).ck]]=(l.take (k+1)).map ai:=by
 have e2:bw l k=l[k]:=by unfold bw;rw[List.getD_eq_getElem?_getD,List.getElem?_eq_getElem hk];rfl
 rw[List.take_succ_eq_append_getElem hk,List.map_append,e2]
 rfl
theorem iK.Ls {s:aH} {l:List aa} (hA:jf s l):∀q,0<=fQ l q->eY s (fQ l q)=true:=fun _ h=>DR hA h
def kz (ps:List aq) (i:Nat):aq:=ps.getD i ⟨0,0⟩
theorem kV {ps:List aq} {i:Nat} (h:i<ps.length):kz ps i=ps[i]:=by simp[kz,List.getD_eq_getElem?_getD,h]
theorem CY {ps:List aq} {i:Nat} (h:i<ps.length):kz ps i∈ps:=by rw[kV h];exact List.getElem_mem h
theorem xn {ps:List aq} {i:Nat} (h:i<ps.length):(ps.map ae)[i]? =some (ae (kz ps i)):=by simp[kz,List.getD_eq_getElem?_getD,h]
def ox (ps:List aq):Prop:=ps.Pairwise fun a b=>jM a b=true
theorem ox.at_ {ps:List aq} (h:ox ps) {i j:Nat} (EA:i<j) (hj:j<ps.length):jM (kz ps i) (kz ps j)=true:=by
 rw[kV hj,kV ah]
 exact List.pairwise_iff_getElem.1 h i j ah hj EA
def kR (ps:List aq) (p:aq):Nat:=ps.findIdx fun q=> !jM q p
theorem CN (ps:List aq) (p:aq):kR ps p<=ps.length:=List.findIdx_le_length
theorem IK {ps:List aq} {p:aq} {x:Nat} (h:x<kR ps p):jM (kz ps x) p=true:=by
 have hx:x<ps.length:=Nat.lt_of_lt_of_le h (CN ps p)
 have:=List.not_of_lt_findIdx h
 rw[kV hx]
 simpa using this
theorem CL {ps:List aq} {p:aq} (hR:ox ps) {x:Nat} (h:kR ps p<=x) (hx:x<ps.length):jM (kz ps x) p=false:=by
 have h0:kR ps p<ps.length:=ah
 have h1:jM (kz ps (kR ps p)) p=false:=by
  have:=List.findIdx_getElem (p:=fun q=> !jM q p) (xs:=ps) (w:=h0)
  rw[kV h0]
  have e:(!jM ps[kR ps p] p)=true:=this
  simpa using e
 by_cases he:kR ps p=x
 ·rw[<-he];exact h1
 ·have h2:=hR.at_ (show kR ps p<x by omega) hx
  cases hc:jM (kz ps x) p
  ·rfl
  ·rw[jv h2 hc]at h1;cases h1
def sC (ps:List aq) (p:aq):List aq:=if kR ps p<ps.length/\kz ps (kR ps p)=p then ps else ps.take (kR ps p)++p::ps.drop (kR ps p)
theorem Nb (ps:List aq) (p:aq):(sC ps p).length<=ps.length+1:=by
 unfold sC
 have:=CN ps p
 split
 ·omega
 ·simp;omega
theorem ML (ps:List aq) (p x:aq):x∈sC ps p↔x=p∨x∈ps:=by
 unfold sC
 split
 ·rename_i h
  refine⟨.inr,fun hx=>hx.elim (fun e=>?_) id⟩
  rw[e,<-h.2];exact CY h.1
 ·have:x∈ps↔x∈ps.take (kR ps p)++ps.drop (kR ps p):=by rw[List.take_append_drop]
  rw[this]
  simp only[List.mem_append,List.mem_cons]
  constructor
  ·rintro(h|h|h)
   ·exact .inr (.inl h)
   ·exact .inl h
   ·exact .inr (.inr h)
  ·rintro(h|h|h)
   ·exact .inr (.inl h)
   ·exact .inl h
   ·exact .inr (.inr h)
theorem Nc {ps:List aq} (hR:ox ps) (p:aq):ox (sC ps p):=by
 unfold sC
 split
 ·exact hR
 ·rename_i mT
  have hd:∀x∈ps.drop (kR ps p),jM p x=true:=fun x hx=>by
   obtain⟨j,hj,rfl⟩:=List.getElem_of_mem hx
   rw[List.length_drop]at hj
   rw[List.getElem_drop]
   have iH:kR ps p+j<ps.length:=ah
   have h1:=CL (p:=p) hR (Nat.le_add_right _ j) iH
   rw[<-kV iH]
   refine yc h1 fun he=>?_
   by_cases h0:j=0
   ·subst h0
    exact mT ⟨ah,by simpa using he⟩
   ·have:=hR.at_ (show kR ps p<kR ps p+j by omega) iH
    rw[he]at this
    have h2:=CL (p:=p) hR (Nat.le_refl _) (show kR ps p<ps.length by omega)
    rw[this]at h2;cases h2
  have ht:∀x∈ps.take (kR ps p),jM x p=true:=fun x hx=>by
   obtain⟨j,hj,rfl⟩:=List.getElem_of_mem hx
   rw[List.length_take]at hj
   rw[List.getElem_take]
   have:=IK (ps:=ps) (p:=p) (x:=j) ah
   rwa [kV ah]at this
  refine List.pairwise_append.2 ⟨hR.sublist (List.take_sublist _ _),List.pairwise_cons.2 ⟨hd,hR.sublist (List.drop_sublist _ _)⟩,fun x hx y hy=>?_⟩
  rcases List.mem_cons.1 hy with rfl|hy
  ·exact ht x hx
  ·exact jv (ht x hx) (hd y hy)
theorem IU:∀{ps qs:List aq},ox ps->ox qs->(∀x,x∈ps↔x∈qs)->ps=qs
 |[],[],_,_,_=>rfl
 |[],q::qs,_,_,h=>absurd ((h q).2 (by simp)) (by simp)
 |p::ps,[],_,_,h=>absurd ((h p).1 (by simp)) (by simp)
 |p::ps,q::qs,hp,hq,h=>by
  obtain⟨p1,p2⟩:=List.pairwise_cons.1 hp
  obtain⟨q1,q2⟩:=List.pairwise_cons.1 hq
  have e:p=q:=by
   rcases List.mem_cons.1 ((h p).1 (by simp))with e|e
   ·exact e
   ·rcases List.mem_cons.1 ((h q).2 (by simp))with e'|e'
    ·exact e'.symm
    ·have:=Ff (q1 p e)
     rw[p1 q e']at this;cases this
  subst e
  congr 1
  refine IU p2 q2 fun x=>⟨fun hx=>?_,fun hx=>?_⟩
  ·rcases List.mem_cons.1 ((h x).1 (List.mem_cons_of_mem _ hx))with e|e
   ·subst e;have:=p1 x hx;rw[lW]at this;cases this
   ·exact e
  ·rcases List.mem_cons.1 ((h x).2 (List.mem_cons_of_mem _ hx))with e|e
   ·subst e;have:=q1 x hx;rw[lW]at this;cases this
   ·exact e
def V1 (σ:az) (kp:Id->Prop) (ps:List aq) (r:AV) (σ':az):Prop:=
 ∃o:Id,r=.own o 0 ps.length/\σ'.get o=some ⟨true,2,ps.map ae⟩/\σ.next<=σ'.next/\o.bj<σ'.next/\(σ.next<=o.bj∨¬kp o)/\∀x:Id,x.bj<σ.next->kp x->σ'.get x=σ.get x
theorem RB {ps:List aq} {i:Nat} {q:aq}:(ps.map ae).set i (ae q)=(ps.set i q).map ae:=List.map_set.symm
def BV (ps:List aq) (p:aq) (i:Nat):List aq:=(ps++[p]).take (i+1)++ps.drop i
theorem rW (ps:List aq) (p:aq) {i:Nat} (h:i<=ps.length):(BV ps p i).length=ps.length+1:=by simp[BV];omega
theorem TY {ps:List aq} {p:aq} {i j:Nat} (hi:i<=ps.length) (hj:j<i):kz (BV ps p i) j=kz ps j:=by
 unfold kz BV
 rw[List.getD_eq_getElem?_getD,List.getD_eq_getElem?_getD,List.getElem?_append_left (by simp;omega),List.getElem?_take,if_pos ah,List.getElem?_append_left ah]
theorem KM (ps:List aq) (p:aq):BV ps p ps.length=ps++[p]:=by
 unfold BV
 rw[List.drop_length,List.append_nil,List.take_of_length_le (by simp)]
theorem ND {ps:List aq} {p:aq} {i:Nat} (hi:i<ps.length):(BV ps p (i+1)).set (i+1) (kz ps i)=BV ps p i:=by
 refine List.ext_getElem? fun j=>?_
 rw[List.getElem?_set,rW ps p ah]
 unfold BV
 by_cases hj:i+1=j
 ·subst hj
  rw[if_pos rfl,if_pos ah,List.getElem?_append_right (by simp;omega)]
  simp only[List.length_take,List.length_append,List.length_cons,List.length_nil]
  rw[show i+1-min (i+1) (ps.length+(0+1))=0 by omega,List.getElem?_drop,Nat.add_zero,List.getElem?_eq_getElem hi,kV hi]
 ·rw[if_neg hj]
  by_cases eW:j<i+1
  ·rw[List.getElem?_append_left (by simp;omega),List.getElem?_append_left (by simp;omega),List.getElem?_take,List.getElem?_take,if_pos ah,if_pos eW]
  ·rw[List.getElem?_append_right (by simp;omega),List.getElem?_append_right (by simp;omega)]
   simp only[List.length_take,List.length_append,List.length_cons,List.length_nil,List.getElem?_drop]
   congr 1
   omega
theorem Qv {ps:List aq} {p:aq} {i:Nat} (hi:i<=ps.length):(BV ps p i).set i p=ps.take i++p::ps.drop i:=by
 refine List.ext_getElem? fun j=>?_
 rw[List.getElem?_set,rW ps p hi]
 unfold BV
 by_cases hj:i=j
 ·subst hj
  rw[if_pos rfl,if_pos ah,List.getElem?_append_right (by simp;omega)]
  simp[Nat.min_eq_left hi]
 ·rw[if_neg hj]
  by_cases eW:j<i
  ·rw[List.getElem?_append_left (by simp;omega),List.getElem?_append_left (by simp;omega),List.getElem?_take,List.getElem?_take,if_pos ah,if_pos eW,List.getElem?_append_left ah]
  ·rw[List.getElem?_append_right (by simp;omega),List.getElem?_append_right (by simp;omega)]
   simp only[List.length_take,List.length_append,List.length_cons,List.length_nil]
   rw[show j-min i ps.length=(j-i-1)+1 by omega,List.getElem?_cons_succ]
   congr 1
   omega
theorem Di {X:gT} {Q:Ex->Env->az->Prop} {N:Env->az->Prop} {c:VC} {env:Env} {σ:az} {id:Nat} (I:Env->az->Prop) (h2:∀e s,I e s->N e s) (h1:∀N':Env->az->Prop,(∀e s,I e s->N' e s)->eC X c (bq id (dr N' Q)) env σ):eC X c (bq id (dr N Q)) env σ:=h1 N h2
theorem Aw (ps:List aq) (hR:ox ps) (hlen:ps.length<=1048576) (p:aq) (o:Id) (σ:az) (ho:σ.get o=some ⟨true,2,ps.map ae⟩) (vD:o.bj<σ.next):
  Call Tryz.prog 113 [.own o 0 ps.length,.agg (ae p)] σ (V1 σ (fun x=>(x=o)=False) (sC ps p)):=by
 refine hZ fR rfl fun gZ=>?_
 clear gZ
 have tj:=dh vD
 have Y2:=CN ps p
 have Dt:(ps.map ae).length=ps.length:=by simp
 (try((repeat(revert N;apply Pn.out));refine wk (tw @ae.eq_1 @tj) ?_;(repeat(apply Pn.mk;intro N Z))))
 refine Di (fun e s=>e 5=.int .i64 (kR ps p:Int)/\e 0=.own o 0 ps.length/\e 3=.ptr ⟨113000000,σ.next⟩ 0 0/\s.get ⟨113000000,σ.next⟩=some ⟨true,2,[ae p]⟩/\s.get o=some ⟨true,2,ps.map ae⟩/\σ.next<s.next/\∀x:Id,x.bj<σ.next->s.get x=σ.get x) ?_ ?_
 ·rintro e s ⟨f5,f0,f3,fg0,fg1,fn,ffr⟩
  apply Z
  clear Z N
  have Iz:=dh (i:=o) (n:=s.next) ah
  obtain⟨a,ha⟩:∃a,kR ps p=a:=⟨_,rfl⟩
  rw[ha]at f5 Y2
  by_cases hex:a<ps.length/\kz ps a=p
  ·have eW:(a:Int)<(ps.length:Int):=ah
   have hg:=xn hex.1
   have hx:decide ((kz ps a).fC=p.fC)=true:=decide_eq_true (by rw[hex.2])
   have hy:decide ((kz ps a).fu=p.fu)=true:=decide_eq_true (by rw[hex.2])
   (try((repeat(revert N;apply Pn.out));refine wk (tw @f5 (tw @f0 (tw @f3 (tw @fg0 (tw @fg1 (tw @eW (tw @hg (tw @hx (tw @hy (tw @Dt @ae.eq_1)))))))))) ?_;(repeat(apply Pn.mk;intro N Z))))
   have hp:sC ps p=ps:=by unfold sC;rw[ha,if_pos hex]
   rw[hp]
   exact fV (.inl rfl) (vs:=[.own o 0 ps.length]) (sd @Nat.zero_add) ⟨o,rfl,sd @fg1,aQ,aQ,.inr (by simp),fun x hx _=>sd (ffr x hx)⟩
  refine FW (fun N Z=>?_)
  refine mH (fun e s=>e 5=.int .i64 (a:Int)/\e 0=.own o 0 ps.length/\e 3=.ptr ⟨113000000,σ.next⟩ 0 0/\s.get ⟨113000000,σ.next⟩=some ⟨true,2,[ae p]⟩/\s.get o=some ⟨true,2,ps.map ae⟩/\σ.next<s.next/\∀x:Id,x.bj<σ.next->s.get x=σ.get x) ?_ ?_
  ·clear f5 f0 f3 fg0 fg1 fn ffr Iz
   rintro e s ⟨f5,f0,f3,fg0,fg1,fn,ffr⟩
   apply Z
   clear Z N
   have Iz:=dh (i:=o) (n:=s.next) ah
   have PG:=dh (i:=⟨113000000,σ.next⟩) (n:=s.next) fn
   have e1:ps.length+1<=16777216:=ah
   have sm:ps.map ae++[[.int .i64 p.fC,.int .i64 p.fu]]=(BV ps p ps.length).map ae:=by rw[KM];simp[ae]
   have oP:IntKind.i64.wrap ((ps.length:Int)+1-1)=(ps.length:Int):=by rw[cm ah];omega
   have hp:sC ps p=ps.take a++p::ps.drop a:=by unfold sC;rw[ha,if_neg hex]
   have S9:((⟨113000000,σ.next⟩:Id)=o)=False:=by
    refine eq_false fun h=>?_
    rw[<-h]at vD;exact Nat.lt_irrefl _ vD
   (try((repeat(revert N;apply Pn.out));refine wk (tw @f5 (tw @f0 (tw @f3 (tw @fg0 (tw @fg1 (tw @Iz (tw @PG (tw @S9 (tw @Dt (tw @e1 (tw @sm (tw @oP (tw @Int.natCast_add (tw @Int.cast_ofNat_Int @ae.eq_1)))))))))))))) ?_;(repeat(apply Pn.mk;intro N Z))))
   refine bz (fun m env st=>∃i:Nat,m=i/\a<=i/\i<=ps.length/\env 6=.int .i64 (i:Int)/\st.get ⟨113006003,s.next⟩=some ⟨true,2,(BV ps p i).map ae⟩/\st.get ⟨113000000,σ.next⟩=some ⟨true,2,[ae p]⟩/\s.next<st.next/\∀x:Id,x.bj<σ.next->(x=o)=False->st.get x=σ.get x) ps.length ⟨ps.length,rfl,Y2,Nat.le_refl _,sd (tw @oP (tw @Int.natCast_add @Int.cast_ofNat_Int)),sd @sm,sd (tw @fg0 (tw @PG (tw @S9 @ae.eq_1))),aQ,fun x hx Dw=>by
    have h1:=dh (i:=x) (n:=s.next) ah
    have h2:=ffr x hx
    simp only[go_sem, ↓reduceIte,Nat.reduceEqDiff,Nat.reduceAdd,Nat.reduceSub,Nat.reduceLeDiff,reduceCtorEq,h1,h2,Dw]⟩ ?_
   rintro m env_b st_b ⟨i,hmi,bl,ble,b6,bg0,bg1,bn,fo⟩ bkp
   have b0:=bkp 0 (by kernel_rfl)
   have b3:=bkp 3 (by kernel_rfl)
   have b5:=bkp 5 (by kernel_rfl)
   simp only[go_sem, ↓reduceIte,Nat.reduceEqDiff,Nat.reduceAdd,Nat.reduceSub,Nat.reduceLeDiff,reduceCtorEq,f0,f3,f5,ae]at b0 b3 b5
   clear bkp
   have PE:((BV ps p i).map ae).length=ps.length+1:=by rw[List.length_map,rW ps p ble]
   by_cases Oq:(a:Int)<(i:Int)
   ·obtain⟨k,rfl⟩:∃k,i=k+1:=⟨i-1,ah⟩
    have iO:k<ps.length:=ah
    have tk:IntKind.i64.wrap (((k+1:Nat):Int)-1)=(k:Int):=by rw[cm ah];omega
    have hq:((BV ps p (k+1)).map ae)[k]? =some (ae (kz ps k)):=by rw[xn (by rw[rW ps p ble];omega),TY ble (Nat.lt_succ_self _)]
    have F5:∃z,((BV ps p (k+1)).map ae)[k+1]? =some (ae z):=⟨_,xn (by rw[rW ps p ble];omega)⟩
    obtain⟨z,F5⟩:=F5
    have fx:((BV ps p (k+1)).map ae).set (k+1) (ae (kz ps k))=(BV ps p k).map ae:=by rw[RB,ND iO]
    have c1:(k:Int)<(ps.length:Int)+1:=ah
    have c2:(k:Int)+1<(ps.length:Int)+1:=ah
    have c3:(0:Int)<=(k:Int)+1:=ah
    have c4:((k:Int)+1).toNat=k+1:=ah
    have c5:(a:Int)<(k:Int)+1:=ah
    have c6:IntKind.i64.wrap ((k:Int)+1-1)=(k:Int):=by rw[cm ah];omega
    rw[ae]at fx hq F5
    (try((repeat(revert N;apply Pn.out));refine wk (tw @b0 (tw @b3 (tw @b5 (tw @b6 (tw @bg0 (tw @bg1 (tw @Oq (tw @tk (tw @hq (tw @F5 (tw @fx (tw @PE (tw @c1 (tw @c2 (tw @c3 (tw @c4 (tw @c5 (tw @c6 (tw @Int.natCast_add @Int.cast_ofNat_Int))))))))))))))))))) ?_;(repeat(apply Pn.mk;intro N Z))))
    exact⟨k,ah,k,rfl,ah,ah,sd @c6,sd @fx,sd (tw @bg1 @S9),aQ,fun x hx Dw=>by
     have h1:=dh (i:=x) (n:=s.next) ah
     have h2:=fo x hx Dw
     simp only[go_sem, ↓reduceIte,Nat.reduceEqDiff,Nat.reduceAdd,Nat.reduceSub,Nat.reduceLeDiff,reduceCtorEq,h1,h2]⟩
   ·obtain rfl:i=a:=ah
    have fx:((BV ps p i).map ae).set i (ae p)=(sC ps p).map ae:=by rw[RB,Qv Y2,hp]
    have F5:∃z,((BV ps p i).map ae)[i]? =some (ae z):=⟨_,xn (by rw[rW ps p ble];omega)⟩
    obtain⟨z,F5⟩:=F5
    have nK:(sC ps p).length=ps.length+1:=by rw[hp];simp;omega
    have c1:(i:Int)<(ps.length:Int)+1:=ah
    rw[ae]at fx F5
    (try((repeat(revert N;apply Pn.out));refine wk (tw @b0 (tw @b3 (tw @b5 (tw @b6 (tw @bg0 (tw @bg1 (tw @Oq (tw @F5 (tw @fx (tw @PE (tw @c1 (tw @Int.natCast_add (tw @Int.cast_ofNat_Int @ae.eq_1))))))))))))) ?_;(repeat(apply Pn.mk;intro N Z))))
    rw[<-nK]
    exact fV (.inl rfl) (vs:=[.own ⟨113006003,s.next⟩ 0 (sC ps p).length]) (sd (tw @b0 @nK)) ⟨⟨113006003,s.next⟩,rfl,sd @fx,aQ,aQ,.inl aQ,fun x hx Dw=>by
     have h1:=dh (i:=x) (n:=s.next) ah
     have h2:=fo x hx Dw
     simp only[go_sem, ↓reduceIte,Nat.reduceEqDiff,Nat.reduceAdd,Nat.reduceSub,Nat.reduceLeDiff,reduceCtorEq,h1,h2]⟩
  ·intro N Z
   by_cases Oj:(a:Int)<(ps.length:Int)
   ·have hg:=xn (ps:=ps) (i:=a) ah
    by_cases hx:(kz ps a).fC=p.fC
    ·have xc:decide ((kz ps a).fC=p.fC)=true:=decide_eq_true hx
     have Zh:decide ((kz ps a).fu=p.fu)=false:=decide_eq_false fun h=>hex ⟨ah,zw hx h⟩
     (try((repeat(revert N;apply Pn.out));refine wk (tw @f5 (tw @f0 (tw @f3 (tw @fg0 (tw @fg1 (tw @Oj (tw @hg (tw @xc (tw @Zh (tw @Dt @ae.eq_1)))))))))) ?_;(repeat(apply Pn.mk;intro N Z))))
     exact⟨sd @f5,sd @f0,sd @f3,sd (tw @fg0 @ae.eq_1),sd @fg1,aQ,fun x hx=>sd (ffr x hx)⟩
    ·have xc:decide ((kz ps a).fC=p.fC)=false:=decide_eq_false hx
     (try((repeat(revert N;apply Pn.out));refine wk (tw @f5 (tw @f0 (tw @f3 (tw @fg0 (tw @fg1 (tw @Oj (tw @hg (tw @xc (tw @Bool.false_and (tw @Dt @ae.eq_1)))))))))) ?_;(repeat(apply Pn.mk;intro N Z))))
     exact⟨sd @f5,sd @f0,sd @f3,sd (tw @fg0 @ae.eq_1),sd @fg1,aQ,fun x hx=>sd (ffr x hx)⟩
   ·(try((repeat(revert N;apply Pn.out));refine wk (tw @f5 (tw @f0 (tw @f3 (tw @fg0 (tw @fg1 (tw @Oj (tw @Dt @ae.eq_1))))))) ?_;(repeat(apply Pn.mk;intro N Z))))
    exact⟨sd @f5,sd @f0,sd @f3,sd (tw @fg0 @ae.eq_1),sd @fg1,aQ,fun x hx=>sd (ffr x hx)⟩
 intro N Z
 refine bz (fun m env st=>∃a:Nat,m=a/\kR ps p<=a/\a<=ps.length/\env 5=.int .i64 (a:Int)/\st.get ⟨113000000,σ.next⟩=some ⟨true,2,[ae p]⟩/\st.get o=some ⟨true,2,ps.map ae⟩/\σ.next<st.next/\∀x:Id,x.bj<σ.next->st.get x=σ.get x) ps.length ⟨ps.length,rfl,Y2,Nat.le_refl _,sd @Nat.zero_add,sd @ae.eq_1,sd (tw @tj @ho),aQ,fun x hx=>by have:=dh hx;simp only[go_sem, ↓reduceIte,Nat.reduceEqDiff,Nat.reduceAdd,Nat.reduceSub,Nat.reduceLeDiff,reduceCtorEq,this]⟩ ?_
 rintro m env_a st_a ⟨a,hma,al,ale,a5,ag0,ag1,an,eE⟩ akp
 have a0:=akp 0 (by kernel_rfl)
 have a3:=akp 3 (by kernel_rfl)
 simp only[go_sem, ↓reduceIte,Nat.reduceEqDiff,Nat.reduceAdd,Nat.reduceSub,Nat.reduceLeDiff,reduceCtorEq,ae]at a0 a3
 clear akp
 by_cases h0:(0:Int)<(a:Int)
 ·obtain⟨b,rfl⟩:∃b,a=b+1:=⟨a-1,ah⟩
  have iD:b<ps.length:=ah
  have gH:(b:Int)<(ps.length:Int):=ah
  have hg:=xn iD
  have hw:IntKind.i64.wrap (((b+1:Nat):Int)-1)=(b:Int):=by rw[cm ah];omega
  have hq:=nf (kz ps b) p
  cases hc:jM (kz ps b) p
  ·rw[hc]at hq
   (have zF:=tw @a0 (tw @a3 (tw @a5 (tw @ag0 (tw @ag1 (tw @h0 (tw @gH (tw @hg (tw @hw (tw @Dt @ae.eq_1)))))))));(repeat(first|((repeat(revert N;apply Pn.out));refine wk zF ?_;(repeat(apply Pn.mk;intro N Z)))|((try apply Or.inl);refine⟨_,ay.x (hq) (sd zF),?_⟩;apply Z;clear Z N)));try clear zF)
   refine⟨b,ah,b,rfl,?_,ah,sd @hw,sd (tw @ag0 @ae.eq_1),sd @ag1,aQ,fun x hx=>sd (eE x hx)⟩
   rcases Nat.lt_or_ge b (kR ps p)with h|h
   ·rw[IK h]at hc;cases hc
   ·exact h
  ·rw[hc]at hq
   have kH:kR ps p=b+1:=by
    rcases Nat.lt_or_ge b (kR ps p)with h|h
    ·omega
    ·have:=CL (p:=p) hR h iD
     rw[hc]at this;cases this
   (have zF:=tw @a0 (tw @a3 (tw @a5 (tw @ag0 (tw @ag1 (tw @h0 (tw @gH (tw @hg (tw @hw (tw @Dt @ae.eq_1)))))))));(repeat(first|((repeat(revert N;apply Pn.out));refine wk zF ?_;(repeat(apply Pn.mk;intro N Z)))|((try apply Or.inl);refine⟨_,ay.x (hq) (sd zF),?_⟩;apply Z;clear Z N)));try clear zF)
   exact⟨sd (tw @a5 @kH),sd @a0,sd @a3,sd (tw @ag0 @ae.eq_1),sd @ag1,aQ,fun x hx=>sd (eE x hx)⟩
 ·have kH:kR ps p=a:=ah
  (try((repeat(revert N;apply Pn.out));refine wk (tw @a0 (tw @a3 (tw @a5 (tw @ag0 (tw @ag1 (tw @h0 (tw @Dt @ae.eq_1))))))) ?_;(repeat(apply Pn.mk;intro N Z))))
  exact⟨sd (tw @a5 @kH),sd @a0,sd @a3,sd (tw @ag0 @ae.eq_1),sd @ag1,aQ,fun x hx=>sd (eE x hx)⟩
def ki (l:List aa) (ps:List aq) (q:aq):List aq:=if z8 q=true/\fb l q<0 then sC ps q else ps
def gh (l:List aa) (ps:List aq) (p:aq):Nat->List aq
 |0=>ps
 |d+1=>ki l (gh l ps p d) (cj p d)
def fD (l:List aa):Nat->List aq
 |0=>[]
 |i+1=>gh l (fD l i) (bw l i).bD 4
def gx (l:List aa):List aq:=fD l l.length
theorem CQ {l:List aa} {ps:List aq} (h:ox ps) (q:aq):ox (ki l ps q):=by
 unfold ki;split
 ·exact Nc h q
 ·exact h
theorem tz {l:List aa} {ps:List aq} (h:ox ps) (p:aq):∀d,ox (gh l ps p d)
 |0=>h
 |d+1=>CQ (tz h p d) _
theorem tC (l:List aa):∀i,ox (fD l i)
 |0=>List.Pairwise.nil
 |i+1=>tz (tC l i) _ 4
theorem CP (l:List aa) (ps:List aq) (q:aq):(ki l ps q).length<=ps.length+1:=by
 unfold ki;split
 ·exact Nb ps q
 ·omega
theorem tx (l:List aa) (ps:List aq) (p:aq):∀d,(gh l ps p d).length<=ps.length+d
 |0=>Nat.le_refl _
 |d+1=>by
  have:=tx l ps p d
  have:=CP l (gh l ps p d) (cj p d)
  simp only[gh];omega
theorem kT (l:List aa):∀i,(fD l i).length<=i*4
 |0=>Nat.le_refl _
 |i+1=>by
  have:=kT l i
  have:=tx l (fD l i) (bw l i).bD 4
  simp only[fD];omega
theorem zf (l:List aa) (ps:List aq) (p:aq) (x:aq):∀d,x∈gh l ps p d↔x∈ps∨∃k,k<d/\x=cj p (k:Nat)/\z8 x=true/\fb l x<0
 |0=>⟨.inl,fun h=>h.elim id fun⟨_,h,_⟩=>absurd h (Nat.not_lt_zero _)⟩
 |d+1=>by
  simp only[gh,ki]
  have ih:=zf l ps p x d
  split
  ·rename_i h
   rw[ML,ih]
   constructor
   ·rintro(rfl|h1|⟨k,h1,h2⟩)
    ·exact .inr ⟨d,Nat.lt_succ_self _,rfl,h⟩
    ·exact .inl h1
    ·exact .inr ⟨k,ah,h2⟩
   ·rintro(h1|⟨k,h1,h2⟩)
    ·exact .inr (.inl h1)
    ·by_cases hk:k=d
     ·subst hk;exact .inl h2.1
     ·exact .inr (.inr ⟨k,ah,h2⟩)
  ·rename_i h
   rw[ih]
   constructor
   ·rintro(h1|⟨k,h1,h2⟩)
    ·exact .inl h1
    ·exact .inr ⟨k,ah,h2⟩
   ·rintro(h1|⟨k,h1,h2⟩)
    ·exact .inl h1
    ·by_cases hk:k=d
     ·subst hk;rw[h2.1]at h2;exact absurd h2.2 h
     ·exact .inr ⟨k,ah,h2⟩
def DI (l:List aa) (x:aq):Prop:=z8 x=true/\fb l x<0/\∃i d:Nat,i<l.length/\d<4/\x=cj (bw l i).bD d
theorem zg (l:List aa) (x:aq):∀i,x∈fD l i↔∃j d:Nat,j<i/\d<4/\x=cj (bw l j).bD d/\z8 x=true/\fb l x<0
 |0=>⟨fun h=>(by cases h),fun⟨_,_,h,_⟩=>absurd h (Nat.not_lt_zero _)⟩
 |i+1=>by
  simp only[fD]
  rw[zf,zg l x i]
  constructor
  ·rintro(⟨j,d,h1,h2⟩|⟨d,h1,h2⟩)
   ·exact⟨j,d,ah,h2⟩
   ·exact⟨i,d,Nat.lt_succ_self _,h1,h2⟩
  ·rintro⟨j,d,h1,h2,h3⟩
   by_cases hj:j=i
   ·subst hj;exact .inr ⟨d,h2,h3⟩
   ·exact .inl ⟨j,d,ah,h2,h3⟩
theorem Bw (l:List aa) (x:aq):x∈gx l↔DI l x:=by
 unfold gx DI
 rw[zg]
 exact⟨fun⟨j,d,h1,h2,h3,h4,h5⟩=>⟨h4,h5,j,d,h1,h2,h3⟩,fun⟨h4,h5,j,d,h1,h2,h3⟩=>⟨j,d,h1,h2,h3,h4,h5⟩⟩
theorem Kb (l:List aa) (hF:lP l) (σ:az):Call Tryz.prog 85 [.dF [.sl (l.map ai)]] σ (V1 σ (fun _=>True) (gx l)):=by
 refine hZ fR rfl fun gZ=>?_
 clear gZ
 have hR:=hF.Kw
 have Ew:=hF.wQ
 (try((repeat(revert N;apply Pn.out));refine wk @Nat.zero_add ?_;(repeat(apply Pn.mk;intro N Z))))
 refine bz (fun n env st=>∃i:Nat,n=(l.length)-i/\i<=(l.length)/\env 4=.int .i64 (i:Int)/\(∃o:Id,env 3=.own o 0 (fD l i).length/\st.get o=some ⟨true,2,(fD l i).map ae⟩/\o.bj<st.next/\σ.next<=o.bj/\∀x:Id,x.bj<σ.next->st.get x=σ.get x)) (l.length) ⟨0,ah,ah,sl @Nat.zero_add,⟨⟨85001000,σ.next+1⟩,by simp only[go_sem, ↓reduceIte,Nat.reduceEqDiff,Nat.reduceAdd,Nat.reduceSub,Nat.reduceLeDiff,reduceCtorEq];rfl,by simp only[go_sem, ↓reduceIte,Nat.reduceEqDiff,Nat.reduceAdd,Nat.reduceSub,Nat.reduceLeDiff,reduceCtorEq];rfl,aQ,aQ,fun x hx=>by
  have:=dh (i:=x) (n:=σ.next+1) ah
  simp only[go_sem, ↓reduceIte,Nat.reduceEqDiff,Nat.reduceAdd,Nat.reduceSub,Nat.reduceLeDiff,reduceCtorEq,this]⟩⟩ ?_
 rintro n_a env_a st_a ⟨i,rfl,ale,a4,nh⟩ eE
 have a0:=eE 0 (by kernel_rfl)
 simp only[go_sem, ↓reduceIte,Nat.reduceEqDiff,Nat.reduceAdd,Nat.reduceSub,Nat.reduceLeDiff,reduceCtorEq]at a0
 clear eE
 obtain⟨o,a3,ag,Jh,Q3,eE⟩:=nh
 by_cases hi:(i:Int)<(l.length:Int)
 ·have dD:∀{e:Env} {gg:Rows} {nx:Nat},(e 4=.int .i64 (IntKind.i64.wrap ((i:Int)+1)))->(∃o:Id,e 3=.own o 0 (fD l (i+1)).length/\gg o=some ⟨true,2,(fD l (i+1)).map ae⟩/\o.bj<nx/\σ.next<=o.bj/\∀x:Id,x.bj<σ.next->gg x=σ.get x)->∃m0,m0<(l.length)-i/\∃i:Nat,m0=(l.length)-i/\i<=(l.length)/\e 4=.int .i64 (i:Int)/\(∃o:Id,e 3=.own o 0 (fD l i).length/\gg o=some ⟨true,2,(fD l i).map ae⟩/\o.bj<nx/\σ.next<=o.bj/\∀x:Id,x.bj<σ.next->gg x=σ.get x):=fun x1 x2=>⟨_,ah,i+1,rfl,ah,(by rw[x1,aK ah]),x2⟩
  have fZ:i<l.length:=ah
  (try((repeat(revert N;apply Pn.out));refine wk (tw @a4 (tw @a0 (tw @a3 @hi))) ?_;(repeat(apply Pn.mk;intro N Z))))
  refine bz (fun n env st=>∃d:Nat,n=(4)-d/\d<=(4)/\env 5=.int .i64 (d:Int)/\(∃o:Id,env 3=.own o 0 (gh l (fD l i) (bw l i).bD d).length/\st.get o=some ⟨true,2,(gh l (fD l i) (bw l i).bD d).map ae⟩/\o.bj<st.next/\σ.next<=o.bj/\∀x:Id,x.bj<σ.next->st.get x=σ.get x)) (4) ⟨0,ah,ah,sl (tw @a4 @a0),⟨o,by simp only[go_sem, ↓reduceIte,Nat.reduceEqDiff,Nat.reduceAdd,Nat.reduceSub,Nat.reduceLeDiff,reduceCtorEq,a3,gh],by simp only[go_sem, ↓reduceIte,Nat.reduceEqDiff,Nat.reduceAdd,Nat.reduceSub,Nat.reduceLeDiff,reduceCtorEq,ag,gh],aQ,Q3,fun x hx=>sd (eE x hx)⟩⟩ ?_
  rintro n_b env_b st_b ⟨d,rfl,ble,b5,bI0⟩ fo
  have b0:=fo 0 (by kernel_rfl);have b4:=fo 4 (by kernel_rfl)
  simp only[go_sem, ↓reduceIte,Nat.reduceEqDiff,Nat.reduceAdd,Nat.reduceSub,Nat.reduceLeDiff,reduceCtorEq,a4,a0]at b0 b4
  clear fo
  obtain⟨ob,b3,bg,bov,Q4,fo⟩:=bI0
  by_cases hd:(d:Int)<4
  ·have fN:∀{e:Env} {gg:Rows} {nx:Nat},(e 5=.int .i64 (IntKind.i64.wrap ((d:Int)+1)))->(∃o:Id,e 3=.own o 0 (gh l (fD l i) (bw l i).bD (d+1)).length/\gg o=some ⟨true,2,(gh l (fD l i) (bw l i).bD (d+1)).map ae⟩/\o.bj<nx/\σ.next<=o.bj/\∀x:Id,x.bj<σ.next->gg x=σ.get x)->∃m0,m0<(4)-d/\∃d:Nat,m0=(4)-d/\d<=(4)/\e 5=.int .i64 (d:Int)/\(∃o:Id,e 3=.own o 0 (gh l (fD l i) (bw l i).bD d).length/\gg o=some ⟨true,2,(gh l (fD l i) (bw l i).bD d).map ae⟩/\o.bj<nx/\σ.next<=o.bj/\∀x:Id,x.bj<σ.next->gg x=σ.get x):=fun x1 x2=>⟨_,ah,d+1,rfl,ah,(by rw[x1,aK ah]),x2⟩
   have iZ:=gI fZ
   have Oz:=tF (hF.pt fZ)
   have eA:=rD (bw l i).bD d (jn ah) Oz.1 Oz.2
   have Xs:=oQ (cj (bw l i).bD d)
   have l5:=dh bov
   have Dt:((gh l (fD l i) (bw l i).bD d).map ae).length=(gh l (fD l i) (bw l i).bD d).length:=by simp
   cases hp:z8 (cj (bw l i).bD d)
   ·rw[hp]at Xs
    have qb:gh l (fD l i) (bw l i).bD (d+1)=gh l (fD l i) (bw l i).bD d:=by
     simp only[gh,ki];rw[if_neg fun h=>by rw[hp]at h;cases h.1]
    (have zF:=tw @b5 (tw @b0 (tw @b4 (tw @b3 (tw @bg (tw @hd (tw @iZ (tw @l5 (tw @ai.eq_1 @ae.eq_1))))))));(repeat(first|((repeat(revert N;apply Pn.out));refine wk zF ?_;(repeat(apply Pn.mk;intro N Z)))|((try apply Or.inl);refine⟨_,ay.x (eA) (sd zF),?_⟩;apply Z;clear Z N)|((try apply Or.inl);refine⟨_,ay.x (Xs) (sd zF),?_⟩;apply Z;clear Z N)));try clear zF)
    exact fN (sd (tw @b5 (tw @b0 (tw @b4 @ae.eq_1)))) (by exact⟨ob,sd (tw @b3 @qb),sd (tw @bg (tw @l5 @qb)),aQ,Q4,fun x hx=>by
     have h1:=dh (i:=x) (n:=st_b.next) ah
     have h2:=dh (i:=x) (n:=st_b.next+1) ah
     have h3:=fo x hx
     simp only[go_sem, ↓reduceIte,Nat.reduceEqDiff,Nat.reduceAdd,Nat.reduceSub,Nat.reduceLeDiff,reduceCtorEq,h1,h2,h3]⟩)
   ·rw[hp]at Xs
    have F2:=oR l (cj (bw l i).bD d) hR ah
    by_cases hx:fb l (cj (bw l i).bD d)<0
    ·have qb:gh l (fD l i) (bw l i).bD (d+1)=sC (gh l (fD l i) (bw l i).bD d) (cj (bw l i).bD d):=by
      simp only[gh,ki];rw[if_pos ⟨hp,hx⟩]
     have S4:=tx l (fD l i) (bw l i).bD d
     have S5:=kT l i
     (have zF:=tw @b5 (tw @b0 (tw @b4 (tw @b3 (tw @bg (tw @hd (tw @iZ (tw @l5 (tw @hx (tw @ai.eq_1 @ae.eq_1)))))))));(repeat(first|((repeat(revert N;apply Pn.out));refine wk zF ?_;(repeat(apply Pn.mk;intro N Z)))|((try apply Or.inl);refine⟨_,ay.x (eA) (sd zF),?_⟩;apply Z;clear Z N)|((try apply Or.inl);refine⟨_,ay.x (Xs) (sd zF),?_⟩;apply Z;clear Z N)|((try apply Or.inl);refine⟨_,ay.x (F2) (sd zF),?_⟩;apply Z;clear Z N)));try clear zF)
     refine .inr (aE _ _ _ _ _ (fun r σ1 hq=>?_) (Aw _ (tz (tC l i) _ d) ah (cj (bw l i).bD d) ob _ (sd (tw @bg @l5)) aQ))
     obtain⟨g1,x1⟩:=σ1
     obtain⟨o1,rfl,q1,q2,q3,q4,q5⟩:=hq
     (try dsimp only at q1 q2 q3 q4 q5)
     apply Z
     clear Z N
     (try((repeat(revert N;apply Pn.out));refine wk (tw @b5 (tw @b0 @b4)) ?_;(repeat(apply Pn.mk;intro N Z))))
     exact fN (sd (tw @b5 (tw @b0 (tw @b4 @ae.eq_1)))) (by exact⟨o1,sd @qb,sd (tw @q1 @qb),aQ,by
      rcases q4 with h|h
      ·omega
      ·have:o1=ob:=by simpa using h
       rw[this];exact Q4,fun x hx=>by
      have h1:=dh (i:=x) (n:=st_b.next) ah
      have h2:=dh (i:=x) (n:=st_b.next+1) ah
      have h3:=fo x hx
      have h4:(x=ob)=False:=eq_false fun h=>by rw[h]at hx;omega
      have h5:=q5 x ah h4
      simp only[go_sem, ↓reduceIte,Nat.reduceEqDiff,Nat.reduceAdd,Nat.reduceSub,Nat.reduceLeDiff,reduceCtorEq,h1,h2,h3,h5]⟩)
    ·have qb:gh l (fD l i) (bw l i).bD (d+1)=gh l (fD l i) (bw l i).bD d:=by
      simp only[gh,ki];rw[if_neg fun h=>hx h.2]
     (have zF:=tw @b5 (tw @b0 (tw @b4 (tw @b3 (tw @bg (tw @hd (tw @iZ (tw @l5 (tw @hx (tw @ai.eq_1 @ae.eq_1)))))))));(repeat(first|((repeat(revert N;apply Pn.out));refine wk zF ?_;(repeat(apply Pn.mk;intro N Z)))|((try apply Or.inl);refine⟨_,ay.x (eA) (sd zF),?_⟩;apply Z;clear Z N)|((try apply Or.inl);refine⟨_,ay.x (Xs) (sd zF),?_⟩;apply Z;clear Z N)|((try apply Or.inl);refine⟨_,ay.x (F2) (sd zF),?_⟩;apply Z;clear Z N)));try clear zF)
     exact fN (sd (tw @b5 (tw @b0 (tw @b4 @ae.eq_1)))) (by exact⟨ob,sd (tw @b3 @qb),sd (tw @bg (tw @l5 @qb)),aQ,Q4,fun x hx=>by
      have h1:=dh (i:=x) (n:=st_b.next) ah
      have h2:=dh (i:=x) (n:=st_b.next+1) ah
      have h3:=fo x hx
      simp only[go_sem, ↓reduceIte,Nat.reduceEqDiff,Nat.reduceAdd,Nat.reduceSub,Nat.reduceLeDiff,reduceCtorEq,h1,h2,h3]⟩)
  ·have Om:d=4:=ah
   rw[Om]at b3 bg
   have hnu:gh l (fD l i) (bw l i).bD 4=fD l (i+1):=rfl
   rw[hnu]at b3 bg
   (try((repeat(revert N;apply Pn.out));refine wk (tw @b5 (tw @b0 (tw @b4 (tw @b3 (tw @bg @hd))))) ?_;(repeat(apply Pn.mk;intro N Z))))
   exact dD (sd (tw @b5 (tw @b0 (tw @b4 @ae.eq_1)))) (by exact⟨ob,sd @b3,sd @bg,aQ,Q4,fun x hx=>sd (fo x hx)⟩)
 ·have lU:i=l.length:=ah
  (try((repeat(revert N;apply Pn.out));refine wk (tw @a4 (tw @a0 (tw @a3 (tw @ag @hi)))) ?_;(repeat(apply Pn.mk;intro N Z))))
  exact fV (.inl rfl) (vs:=[.own o 0 (fD l i).length]) (sd @a3) ⟨o,by rw[gx,<-lU];rfl,by rw[gx,<-lU];simp only[go_sem, ↓reduceIte,Nat.reduceEqDiff,Nat.reduceAdd,Nat.reduceSub,Nat.reduceLeDiff,reduceCtorEq,ag],aQ,aQ,.inl Q3,fun x hx _=>sd (eE x hx)⟩
structure Wr2 (g:Rows) (n:Nat) (A S C c T O:Id) (s:aA) (l:List aa):Prop where
 a:∃b,g A=some ⟨b,1,[[.sl (l.map ai)]]⟩
 sy:∃b,g S=some ⟨b,4,[bt s]⟩
 p:∃b,g C=some ⟨b,1,[[.ptr c 0 0]]⟩
 Si:DE g n c T O s l
 av:A.bj<n
 sv:S.bj<n
 pv:C.bj<n
def H5 (B:aq->Int->Bool) (p:aq):Nat->List aa
 |0=>[]
 |t+1=>if B p (t:Nat)=true then H5 B p t++[⟨p,(t:Nat)⟩]else H5 B p t
def oj (B:aq->Int->Bool) (m:Nat) (ps:List aq):List aa:=ps.flatMap fun p=>H5 B p m
theorem H6 (B:aq->Int->Bool) (p:aq):∀t,(H5 B p t).length<=t
 |0=>by simp[H5]
 |t+1=>by
  have:=H6 B p t
  rw[H5]
  split
  ·rw[List.length_append,List.length_singleton];omega
  ·omega
theorem xQ (B:aq->Int->Bool) (m:Nat):∀ps:List aq,(oj B m ps).length<=ps.length*m
 |[]=>by simp[oj]
 |p::ps=>by
  have h:=xQ B m ps
  have h2:=H6 B p m
  unfold oj at *
  rw[List.flatMap_cons,List.length_append,List.length_cons,Nat.add_mul,Nat.one_mul]
  omega
theorem DV {B:aq->Int->Bool} {m:Nat} {ps:List aq} {k:Nat} (hk:k<ps.length):oj B m (ps.take (k+1))=oj B m (ps.take k)++H5 B (kz ps k) m:=by
 unfold oj
 rw[List.take_succ_eq_append_getElem hk,List.flatMap_append,kV hk]
 simp
end Go.Proofs.YtiabgllilcfheaaGreat.V

namespace Go.Proofs.YtiabgllilcfheaaGreat.V
open Go.RowKit
def iu:List aa->aa->List aa
 |[],q=>[q]
 |x::r,q=>if jM q.bD x.bD=true then q::x::r else x::iu r q
theorem qK {q x:aa}:∀{l:List aa},x∈iu l q↔x=q∨x∈l
 |[]=>by simp[iu]
 |y::r=>by
  have ih:=@qK q x r
  rw[iu]
  split
  ·simp
  ·simp only[List.mem_cons,ih]
   constructor
   ·rintro(h|h|h)<;>simp[h]
   ·rintro(h|h|h)<;>simp[h]
theorem mm (q:aa):∀l:List aa,(iu l q).length=l.length+1
 |[]=>rfl
 |y::r=>by
  have ih:=mm q r
  rw[iu]
  split
  ·simp
  ·simp[ih]
theorem uR {l:List aa}:ny l↔l.Pairwise fun a b=>jM a.bD b.bD=true:=by
 rw[List.pairwise_iff_getElem]
 constructor
 ·intro h i j hi hj EA
  have:=h i j EA hj
  rwa [gQ hi,gQ hj]at this
 ·intro h i j EA hj
  have:=h i j ah hj EA
  rwa [gQ ah,gQ hj]
theorem IF {l:List aa} {p:aq}:fb l p<0↔∀t∈l,t.bD≠p:=y5
theorem Na {q:aa}:∀{l:List aa},ny l->fb l q.bD<0->ny (iu l q):=by
 intro l
 rw[uR,uR,IF]
 induction l with
 |nil=>intro _ _;exact List.pairwise_singleton _ _
 |cons y r ih=>
  intro h hn
  obtain⟨h1,h2⟩:=List.pairwise_cons.1 h
  rw[iu]
  split
  ·rename_i hl
   refine List.pairwise_cons.2 ⟨fun x hx=>?_,h⟩
   rcases List.mem_cons.1 hx with rfl|hx
   ·exact hl
   ·exact jv hl (h1 x hx)
  ·rename_i hl
   rw[Bool.not_eq_true]at hl
   refine List.pairwise_cons.2 ⟨fun x hx=>?_,ih h2 fun t ht=>hn t (by simp[ht])⟩
   rcases qK.1 hx with rfl|hx
   ·exact yc hl fun e=>hn y (by simp) e.symm
   ·exact h1 x hx
theorem kP (x:aa) (r:List aa) (p:aq):fQ (x::r) p=if x.bD=p then x.ck else fQ r p:=by
 unfold fQ fb sq
 rw[List.findIdx_cons]
 by_cases h:x.bD=p
 ·simp[h,bw]
 ·simp only[h,decide_false,cond_false,List.length_cons,Nat.add_lt_add_iff_right,if_false]
  by_cases hl:(r.findIdx fun c=>decide (c.bD=p))<r.length
  ·rw[if_pos hl,if_pos hl,if_pos ah,if_pos ah]
   simp[bw]
  ·rw[if_neg hl,if_neg hl];rfl
theorem Lr {q:aa} (p:aq):∀{l:List aa},(∀t∈l,t.bD≠q.bD)->fQ (iu l q) p=if q.bD=p then q.ck else fQ l p
 |[],_=>by rw[iu,kP]
 |x::r,h=>by
  have ih:=@Lr q p r fun t ht=>h t (by simp[ht])
  rw[iu]
  split
  ·rw[kP]
  ·rw[kP,ih,kP]
   by_cases h1:x.bD=p
   ·have h2:q.bD≠p:=fun e=>h x (by simp) (h1.trans e.symm)
    rw[if_pos h1,if_neg h2,if_pos h1]
   ·rw[if_neg h1,if_neg h1]
theorem OP {q:aa} (p:aq):∀{l:List aa},(∀t∈l,t.bD≠q.bD)->fQ (l++[q]) p=if q.bD=p then q.ck else fQ l p
 |[],_=>by rw[List.nil_append,kP]
 |x::r,h=>by
  have ih:=@OP q p r fun t ht=>h t (by simp[ht])
  rw[List.cons_append,kP,ih,kP]
  by_cases h1:x.bD=p
  ·have h2:q.bD≠p:=fun e=>h x (by simp) (h1.trans e.symm)
   rw[if_pos h1,if_neg h2,if_pos h1]
  ·rw[if_neg h1,if_neg h1]
theorem nV {α:Type} [DecidableEq α]:∀{xs ys:List α},xs.Nodup->(∀x∈xs,x∈ys)->xs.length<=ys.length
 |[],_,_,_=>Nat.zero_le _
 |x::xs,ys,hn,h=>by
  obtain⟨h1,h2⟩:=List.nodup_cons.1 hn
  have hx:=h x (by simp)
  have:=@nV α _ xs (ys.erase x) h2 fun y hy=>(List.mem_erase_of_ne fun e=>h1 (by rw[<-e];exact hy)).2 (h y (by simp[hy]))
  rw[List.length_erase_of_mem hx]at this
  have:=List.length_pos_of_mem hx
  rw[List.length_cons];omega
theorem VW {l:List aa} (h:ny l):l.Nodup:=by
 rw[uR]at h
 refine List.Pairwise.imp (fun {a b} qa e=>?_) h
 rw[e,lW]at qa;cases qa
abbrev Gg:=List aa×List aa
noncomputable def Zk (s:aA) (st:Gg) (x:aa):Gg:=if dX s st.2 x.bD x.ck=true then(st.1++[x],iu st.2 x)else st
structure InsI (s:aA) (l:List aa) (st:Gg):Prop where
 Kw:ny st.2
 sub:∀x∈st.2,x∈l
 done:∀x∈st.1,x∈l
 len:st.2.length=s.dm.au.length+st.1.length
theorem Wp {s:aA} {l:List aa} (hA:jf s.aI l) {now:List aa} (hs:∀x∈now,x∈l) {p:aq} {t:Int} (h:dX s now p t=true):fb now p<0:=by
 rcases Int.lt_or_le (fb now p) 0 with h0|h0
 ·exact h0
 ·exfalso
  obtain⟨h1,_⟩:=ke h0
  have h2:=(eT (hA.2 _ (hs _ (jc h1)))).1
  simp[dX,fQ,h0]at h
  omega
structure V4 (s:aA):Prop where
 set:iK s.aI
 FH:jf s.aI s.dm.au
 some:1<=s.dm.au.length
 FN:jm s.aD 1 16=true
theorem ql.w {s:aA} (h:ql s):V4 s:=⟨h.set,h.FH,h.some,h.FN⟩
def lS (B:aq->Int->Bool) (p:aq):Nat->List Int
 |0=>[]
 |t+1=>if B p (t:Nat)=true then lS B p t++[(t:Int)]else lS B p t
theorem rq (B:aq->Int->Bool) (p:aq):∀t,(lS B p t).length<=t
 |0=>by simp[lS]
 |t+1=>by
  have:=rq B p t
  rw[lS]
  split
  ·rw[List.length_append,List.length_singleton];omega
  ·omega
theorem vK (B:aq->Int->Bool) (p:aq):∀t,H5 B p t=(lS B p t).map fun k=>(⟨p,k⟩:aa)
 |0=>rfl
 |t+1=>by
  rw[H5,lS,vK B p t]
  split<;>simp
theorem Im {B:aq->Int->Bool} {p:aq} (h:∀t:Nat,B p t=false):∀t,lS B p t=[]
 |0=>rfl
 |t+1=>by rw[lS,if_neg (by rw[h t];simp),Im h t]
theorem Ek {B:aq->Int->Bool} {p:aq}:∀{t:Nat},lS B p t≠[]->∃k:Nat,k<t/\B p k=true
 |0,h=>absurd rfl h
 |t+1,h=>by
  rw[lS]at h
  split at h
  ·rename_i hb;exact⟨t,Nat.lt_succ_self t,hb⟩
  ·obtain⟨k,hk,hb⟩:=Ek h
   exact⟨k,Nat.lt_succ_of_lt hk,hb⟩
theorem A4 {B C:aq->Int->Bool} {p:aq} (h:∀t:Nat,B p t=C p t):∀t,lS B p t=lS C p t
 |0=>rfl
 |t+1=>by rw[lS,lS,h t,A4 h t]
abbrev En:=aq×AV
def pC (e:En):List AV:=[.int .i64 e.1.fC,.int .i64 e.1.fu,e.2]
def o9:List En->aq->AV->List En
 |[],q,v=>[(q,v)]
 |e::es,q,v=>if e.1=q then(q,v)::es else e::o9 es q v
def uc:List En->aq->List En
 |[],_=>[]
 |e::es,q=>if e.1=q then es else e::uc es q
theorem zi {q:aq} {v:AV} {x:En}:∀{es:List En},x.1≠q->(x∈o9 es q v↔x∈es)
 |[],h=>by
  rw[o9,List.mem_singleton]
  exact⟨fun e=>absurd (by rw[e]) h,fun e=>by cases e⟩
 |e::es,h=>by
  have ih:=@zi q v x es h
  rw[o9]
  split
  ·rename_i he
   rw[List.mem_cons,List.mem_cons]
   exact⟨fun h1=>h1.elim (fun e=>absurd (by rw[e]) h) .inr,fun h1=>h1.elim (fun e'=>absurd (by rw[e'];exact he) h) .inr⟩
  ·rw[List.mem_cons,List.mem_cons,ih]
theorem BM (q:aq) (v:AV):∀es:List En,(q,v)∈o9 es q v
 |[]=>by simp[o9]
 |e::es=>by
  have ih:=BM q v es
  rw[o9]
  split
  ·simp
  ·exact List.mem_cons_of_mem _ ih
theorem EZ {q:aq} {v:AV} {p:aq}:∀{es:List En},p∈(o9 es q v).map (·.1)->p=q∨p∈es.map (·.1)
 |[],h=>by simp[o9]at h;exact .inl h
 |e::es,h=>by
  rw[o9]at h
  split at h
  ·simp only[List.map_cons,List.mem_cons]at h ⊢
   exact h.imp_right .inr
  ·simp only[List.map_cons,List.mem_cons]at h ⊢
   rcases h with h|h
   ·exact .inr (.inl h)
   ·exact(EZ h).imp_right .inr
theorem zy (q:aq) (v:AV):∀{es:List En},(es.map (·.1)).Nodup->((o9 es q v).map (·.1)).Nodup
 |[],_=>by simp[o9]
 |e::es,h=>by
  obtain⟨h1,h2⟩:=List.nodup_cons.1 (show(e.1::es.map (·.1)).Nodup from h)
  rw[o9]
  split
  ·rename_i he
   refine List.nodup_cons.2 ⟨?_,h2⟩
   show q∉_
   rw[<-he];exact h1
  ·rename_i he
   refine List.nodup_cons.2 ⟨fun hc=>?_,zy q v h2⟩
   rcases EZ hc with h3|h3
   ·exact he h3
   ·exact h1 h3
theorem Fh {q:aq} {x:En}:∀{es:List En},x.1≠q->(x∈uc es q↔x∈es)
 |[],_=>Iff.rfl
 |e::es,h=>by
  have ih:=@Fh q x es h
  rw[uc]
  split
  ·rename_i he
   rw[List.mem_cons]
   exact⟨.inr,fun h1=>h1.elim (fun e'=>absurd (by rw[e'];exact he) h) id⟩
  ·rw[List.mem_cons,List.mem_cons,ih]
theorem yH {q:aq}:∀{es:List En},(uc es q).Sublist es
 |[]=>List.Sublist.slnil
 |e::es=>by
  rw[uc]
  split
  ·exact List.sublist_cons_self _ _
  ·exact(yH (es:=es)).cons_cons _
theorem Gv (q:aq) {es:List En} (h:(es.map (·.1)).Nodup):((uc es q).map (·.1)).Nodup:=((yH (q:=q) (es:=es)).map _).nodup h
theorem Ib {q:aq}:∀{es:List En},(es.map (·.1)).Nodup->∀e∈uc es q,e.1≠q
 |[],_,e,h=>by cases h
 |x::es,hn,e,h=>by
  obtain⟨h1,h2⟩:=List.nodup_cons.1 (show(x.1::es.map (·.1)).Nodup from hn)
  rw[uc]at h
  split at h
  ·rename_i hx
   intro he
   exact h1 (by rw[hx,<-he];exact List.mem_map_of_mem h)
  ·rename_i hx
   rcases List.mem_cons.1 h with rfl|h
   ·exact hx
   ·exact Ib h2 e h
theorem PU {es:List En} (hn:(es.map (·.1)).Nodup) {q:aq} {u v:AV} (h1:(q,u)∈es) (h2:(q,v)∈es):u=v:=by
 induction es with
 |nil=>cases h1
 |cons e es ih=>
  obtain⟨n1,n2⟩:=List.nodup_cons.1 (show(e.1::es.map (·.1)).Nodup from hn)
  rcases List.mem_cons.1 h1 with a|a<;>rcases List.mem_cons.1 h2 with b|b
  ·rw[<-a]at b;injection b with _ b;exact b.symm
  ·exact absurd (by rw[<-a];exact List.mem_map_of_mem (f:=(·.1)) b) n1
  ·exact absurd (by rw[<-b];exact List.mem_map_of_mem (f:=(·.1)) a) n1
  ·exact ih n2 a b
structure xN (g:Rows) (n:Nat) (es:List En) (fs:aq->List Int) (A:aq->Prop):Prop where
 nodup:(es.map (·.1)).Nodup
 at_:∀q,A q->(fs q=[]/\∀e∈es,e.1≠q)∨(fs q≠[]/\∃o:Id,(q,AV.own o 0 (fs q).length)∈es/\o.bj<n/\g o=some ⟨true,1,(fs q).map aJ⟩)
theorem xN.mono {g:Rows} {n:Nat} {es:List En} {fs:aq->List Int} {A A':aq->Prop} (h:xN g n es fs A) (hA:∀q,A' q->A q):xN g n es fs A':=⟨h.nodup,fun q hq=>h.at_ q (hA q hq)⟩
theorem xN.frame {g g':Rows} {n n':Nat} {es:List En} {fs:aq->List Int} {A:aq->Prop} (h:xN g n es fs A) (hn:n<=n') (hf:∀x:Id,x.bj<n->(∃k r,g x=some ⟨k,1,r⟩)->g' x=g x):xN g' n' es fs A:=⟨h.nodup,fun q hq=>by
 rcases h.at_ q hq with h1|⟨h1,o,h2,h3,h4⟩
 ·exact .inl h1
 ·exact .inr ⟨h1,o,h2,ah,(hf o h3 ⟨_,_,h4⟩).trans h4⟩⟩
theorem xN.put {g:Rows} {n:Nat} {es:List En} {fs:aq->List Int} {A:aq->Prop} (h:xN g n es fs A) {q:aq} {o:Id} (h0:fs q≠[]) (ho:o.bj<n) (hg:g o=some ⟨true,1,(fs q).map aJ⟩):xN g n (o9 es q (.own o 0 (fs q).length)) fs (fun p=>A p∨p=q):=⟨zy _ _ h.nodup,fun p hp=>by
 by_cases e:p=q
 ·subst e
  exact .inr ⟨h0,o,BM _ _ _,ho,hg⟩
 ·rcases hp with hp|hp
  ·rcases h.at_ p hp with⟨h1,h2⟩|⟨h1,o',h2,h3⟩
   ·refine .inl ⟨h1,fun x hx hxp=>?_⟩
    have hxq:x.1≠q:=fun e'=>e (hxp.symm.trans e')
    exact h2 x ((zi hxq).1 hx) hxp
   ·exact .inr ⟨h1,o',(zi e).2 h2,h3⟩
  ·exact absurd hp e⟩
theorem xN.cut {g:Rows} {n:Nat} {es:List En} {fs:aq->List Int} {A:aq->Prop} (h:xN g n es fs A) {q:aq} (h0:fs q=[]):xN g n (uc es q) fs (fun p=>A p∨p=q):=⟨Gv _ h.nodup,fun p hp=>by
 by_cases e:p=q
 ·subst e
  exact .inl ⟨h0,Ib h.nodup⟩
 ·rcases hp with hp|hp
  ·rcases h.at_ p hp with⟨h1,h2⟩|⟨h1,o',h2,h3⟩
   ·exact .inl ⟨h1,fun x hx=>h2 x (yH.subset hx)⟩
   ·exact .inr ⟨h1,o',(Fh e).2 h2,h3⟩
  ·exact absurd hp e⟩
theorem Fk (p:aq):∀(es:List En) (i:Nat),∃fi,ir ⟨true,[.tI,.tI]⟩ (ae p) (es.map pC) i=some fi/\
  (∀v,(match fi with|some j=>(es.map pC).set (j-i) [.int .i64 p.fC,.int .i64 p.fu,v]|none=>es.map pC++[[.int .i64 p.fC,.int .i64 p.fu,v]])=(o9 es p v).map pC)/\
  ((match fi with|some j=>(es.map pC).eraseIdx (j-i)|none=>es.map pC)=(uc es p).map pC)/\
  (∀j,fi=some j->i<=j/\j-i<es.length/\∃v,es[j-i]? =some (p,v))/\(fi=none->∀e∈es,e.1≠p)
 |[],i=>⟨none,by simp[ir],fun v=>rfl,rfl,fun _ h=>(by cases h),fun _ _ he=>(by cases he)⟩
 |e::es,i=>by
  have hq:fq [TS.tI,TS.tI] (ae p) ((pC e).take 2)=some (decide (p=e.1)):=by
   have h:(p=e.1)↔(p.fC=e.1.fC/\p.fu=e.1.fu):=⟨fun h=>by rw[h];exact⟨rfl,rfl⟩,fun h=>zw h.1 h.2⟩
   simp[ae,pC,fq,fS,h]
  by_cases h:p=e.1
  ·refine⟨some i,?_,fun v=>?_,?_,fun j hj=>?_,fun hc=>by cases hc⟩
   ·rw[List.map_cons]
    unfold ir
    rw[show(⟨true,[.tI,.tI]⟩:MK).ts=[.tI,.tI]from rfl,show(⟨true,[.tI,.tI]⟩:MK).ks=2 from rfl,hq,decide_eq_true h]
   ·simp[o9,h,pC]
   ·simp[uc,h]
   ·cases hj
    exact⟨Nat.le_refl _,by simp,e.2,by simp[h]⟩
  ·obtain⟨fi,h1,h2,h3,h4,h5⟩:=Fk p es (i+1)
   have he:¬e.1=p:=fun hc=>h hc.symm
   refine⟨fi,?_,fun v=>?_,?_,fun j hj=>?_,fun hc x hx=>?_⟩
   ·rw[List.map_cons]
    unfold ir
    rw[show(⟨true,[.tI,.tI]⟩:MK).ts=[.tI,.tI]from rfl,show(⟨true,[.tI,.tI]⟩:MK).ks=2 from rfl,hq,decide_eq_false h]
    exact h1
   ·have Yv:=h2 v
    rw[o9,if_neg he]
    cases fi with
    |none=>
     simp only[List.map_cons,List.cons_append]at Yv ⊢
     rw[Yv]
    |some j=>
     obtain⟨h6,_⟩:=h4 j rfl
     obtain⟨k,hk⟩:∃k,j=i+1+k:=⟨j-(i+1),ah⟩
     subst hk
     simp only[show i+1+k-i=k+1 by omega,show i+1+k-(i+1)=k by omega,List.map_cons,List.set_cons_succ]at Yv ⊢
     rw[Yv]
   ·rw[uc,if_neg he]
    cases fi with
    |none=>
     simp only[List.map_cons]at h3 ⊢
     rw[h3]
    |some j=>
     obtain⟨h6,_⟩:=h4 j rfl
     obtain⟨k,hk⟩:∃k,j=i+1+k:=⟨j-(i+1),ah⟩
     subst hk
     simp only[show i+1+k-i=k+1 by omega,show i+1+k-(i+1)=k by omega,List.map_cons,List.eraseIdx_cons_succ]at h3 ⊢
     rw[h3]
   ·obtain⟨h6,h7,v,h8⟩:=h4 j hj
    refine⟨ah,by simp only[List.length_cons];omega,v,?_⟩
    rw[show j-i=(j-(i+1))+1 by omega,List.getElem?_cons_succ];exact h8
   ·rcases List.mem_cons.1 hx with rfl|hx
    ·exact he
    ·exact h5 hc x hx
theorem By (p:aq) (es:List En):∃fi,ij ⟨true,[.tI,.tI]⟩ (.agg [.int .i64 p.fC,.int .i64 p.fu]) (es.map pC)=some fi/\(∀v,dQ (es.map pC) [.int .i64 p.fC,.int .i64 p.fu,v] fi=(o9 es p v).map pC)/\dU (es.map pC) fi=(uc es p).map pC/\
  (∀j,fi=some j->∃v,es[j]? =some (p,v))/\(fi=none->∀e∈es,e.1≠p):=by
 obtain⟨fi,h1,h2,h3,h4,h5⟩:=Fk p es 0
 refine⟨fi,?_,fun v=>?_,?_,fun j hj=>?_,h5⟩
 ·unfold ij
  rw[if_pos ⟨rfl,rfl,rfl⟩]
  exact h1
 ·rw[<-h2 v];cases fi<;>rfl
 ·rw[<-h3];cases fi<;>rfl
 ·obtain⟨_,_,v,h6⟩:=h4 j hj
  exact⟨v,by simpa using h6⟩
theorem BS (p:aq) (k:Nat) (hk:k<4):cj (cj p k) (lX k)=p:=by
 have:k=0∨k=1∨k=2∨k=3:=ah
 rcases this with rfl|rfl|rfl|rfl<;>(cases p;simp[cj,lX,jm];try omega)
theorem bind_some {s:aH} {F:aq->Int} {p:aq} {t:Int}:∀d:Nat,0<dp s F p t d->∃k:Nat,k<d/\0<=F (cj p k)
 |0,h=>by simp[dp]at h
 |d+1,h=>by
  by_cases h0:0<=F (cj p d)
  ·exact⟨d,Nat.lt_succ_self d,h0⟩
  ·rw[dp,if_neg h0,Int.add_zero]at h
   obtain⟨k,hk,h1⟩:=bind_some d h
   exact⟨k,Nat.lt_succ_of_lt hk,h1⟩
theorem LP {s:aA} (hT:1<=s.aD) {l:List aa} (hA:jf s.aI l) {p:aq} {t:Int} (h:dX s l p t=true):DI l p:=by
 simp[dX]at h
 obtain⟨⟨h1,h2⟩,h3⟩:=h
 obtain⟨k,hk,h4⟩:=bind_some (s:=s.aI) (F:=fQ l) (p:=p) (t:=t) 4 (by have:mb s.aI (fQ l) p t=dp s.aI (fQ l) p t 4:=rfl;omega)
 have h5:0<=fb l (cj p k):=by
  unfold fQ at h4
  split at h4
  ·assumption
  ·omega
 obtain⟨h6,h7⟩:=ke h5
 refine⟨h1,(vJ hA p).1 h2,(fb l (cj p k)).toNat,(lX k).toNat,h6,?_,?_⟩
 ·have:k=0∨k=1∨k=2∨k=3:=ah
  rcases this with rfl|rfl|rfl|rfl<;>decide
 ·rw[h7]
  have:((lX k).toNat:Int)=lX k:=by
   have:k=0∨k=1∨k=2∨k=3:=ah
   rcases this with rfl|rfl|rfl|rfl<;>decide
  rw[this,BS p k hk]
noncomputable def kK (s:aA) (l:List aa):List aq:=(gx l).filter fun p=>decide (lS (dX s l) p s.aI.au.length≠[])
theorem oU {s:aA} (hT:1<=s.aD) {l:List aa} (hA:jf s.aI l) (p:aq):p∈kK s l↔lS (dX s l) p s.aI.au.length≠[]:=by
 unfold kK
 rw[List.mem_filter,Bw,decide_eq_true_eq]
 refine⟨fun h=>h.2,fun h=>⟨?_,h⟩⟩
 obtain⟨k,_,hk⟩:=Ek h
 exact LP hT hA hk
theorem GC (s:aA) (l:List aa):ox (kK s l):=List.Pairwise.sublist List.filter_sublist (tC l _)
theorem Gq (s:aA) (l:List aa):oj (dX s l) s.aI.au.length (gx l)=oj (dX s l) s.aI.au.length (kK s l):=by
 unfold kK
 generalize gx l=ps
 induction ps with
 |nil=>rfl
 |cons p ps ih=>
  unfold oj at *
  rw[List.flatMap_cons,List.filter_cons,ih]
  split
  ·rw[List.flatMap_cons]
  ·rename_i h
   simp only[decide_eq_true_eq,ne_eq,Classical.not_not]at h
   rw[vK,h];rfl
end Go.Proofs.YtiabgllilcfheaaGreat.V

namespace Go.Proofs.YtiabgllilcfheaaGreat.V
open Go.RowKit
attribute [local irreducible] eC wpOps gi Call
attribute [local go_sem] aM fP fa fX fW du upd cz K.av cP AV.cells AV.cell rowOf rowsOf part ld rowAt bL cu dK eb gK bP de eu fS fq dx ef db da dR dS bU bf cU bR cW cV dW eh ee cR bW dd ec bQ aL cY cH gJ bF cL bV aY dr bq dL AV.undef bJ bK dV dY dQ dU cK er ez cF ej ei cX cZ List.getD_cons_zero List.getD_cons_succ List.getD_nil List.all_cons List.all_nil Bool.and_true Bool.true_and Bool.and_self Bool.not_true Bool.not_false Option.map_some Option.map_none Option.bind_some Option.bind_none List.length_cons List.length_nil List.take_succ_cons List.take_zero List.take_nil List.drop_succ_cons List.drop_zero List.drop_nil List.head?_cons List.map_cons List.map_nil List.getElem?_cons_zero List.getElem?_cons_succ List.cons_append List.nil_append List.append_nil List.length_map List.set_cons_zero List.set_cons_succ Nat.reduceMul eq_self Int.toNat_natCast Int.natCast_nonneg and_self true_and and_true decide_true decide_false Bool.false_eq_true Nat.zero_add Nat.add_zero List.contains_cons List.contains_nil Bool.or_false Bool.false_or beq_self_eq_true Nat.reduceBEq ne_eq not_true_eq_false not_false_eq_true Id.mk.injEq false_and and_false Nat.reduceLT Int.reduceLE Int.reduceLT Int.reduceToNat Int.reduceNeg Int.reduceAdd Nat.le_refl List.length_append beq_true beq_false Bool.not_eq_eq_eq_not or_false false_or eL ar ax aW bp bZ cw aV bH aU bh cQ bI
def Lo (t:jB):Prop:=t.ew.length<=1048576
structure V2 (s:aH):Prop where
 g:s.bd.length<=1048576
 t:s.au.length<=1048576
 s:∀t∈s.au,Lo t
structure DM (y:aA):Prop where
 s:V2 y.aI
 a:y.dm.au.length<=1048576
variable {P:Program}
def H0 {α:Type} (R:Od α) (z:Nat) (g:Rows) (a:AV) (xs:List α) (ids:List Id):Prop:=∃o rows is,a=.own o 0 xs.length/\g o=some ⟨true,z,rows⟩/\fY R g rows xs is/\ids=o::is
def AF {α:Type} (e:α->List AV):Od α:=fun _ cs x ids=>cs=e x/\ids=[]
theorem LR {α:Type} {e:α->List AV} {z:Nat} (hz:∀x,(e x).length=z) (hc:∀x,(e x).all AV.cell=true) (hs:z<sr):DF (AF e) z where
 frame:=fun h _=>h
 len:=fun h=>by rw[h.1];exact hz _
 cell:=fun h=>by rw[h.1];exact hc _
 live:=fun h i hi=>by rw[h.2]at hi;cases hi
 small:=hs
def Ln:Od jB:=fun g cs t ids=>∃i,cs=[.str t.cI,.own i 0 t.ew.length]/\g i=some ⟨true,1,t.ew.map aJ⟩/\ids=[i]
theorem tileOk:DF Ln 2 where
 frame:=fun⟨i,h1,h2,h3⟩ hf=>⟨i,h1,(hf i (by rw[h3];simp)).trans h2,h3⟩
 len:=fun⟨i,h1,_⟩=>by rw[h1];rfl
 cell:=fun⟨i,h1,_⟩=>by rw[h1];rfl
 live:=fun⟨i,h1,h2,h3⟩ j hj=>by
  rw[h3]at hj
  have:j=i:=by simpa using hj
  subst this
  exact⟨_,h2,rfl,by simp[sr]⟩
 small:=by simp[sr]
theorem Zq {g:Rows} {cs:List AV} {t:jB} {ids:List Id} (n:Nat) (h:Ln g cs t ids):eI (eL g) (n+2) cs=some (dw t):=by
 obtain⟨i,rfl,h2,_⟩:=h
 have h3:V.fz (eL g) (n+2) (.own i 0 t.ew.length)=some (.sl (t.ew.map aJ)):=kM (e:=aJ) (sz:=1) (by simp[eL,h2]) rfl fun x=>by simp[aJ,ar,ax,aW]
 simp only[ar,ax,bZ,h3,Option.map_some,dw]
end Go.Proofs.YtiabgllilcfheaaGreat.V

namespace Go.Proofs.YtiabgllilcfheaaGreat.V
open Go.RowKit
attribute [local irreducible] eC wpOps gi Call
attribute [local go_sem] aM fP fa fX fW du upd cz K.av cP AV.cells AV.cell rowOf rowsOf part ld rowAt bL cu dK eb gK bP de eu fS fq dx ef db da dR dS bU bf cU bR cW cV dW eh ee cR bW dd ec bQ aL cY cH gJ bF cL bV aY dr bq dL AV.undef bJ bK dV dY dQ dU cK er ez cF ej ei cX cZ List.getD_cons_zero List.getD_cons_succ List.getD_nil List.all_cons List.all_nil Bool.and_true Bool.true_and Bool.and_self Bool.not_true Bool.not_false Option.map_some Option.map_none Option.bind_some Option.bind_none List.length_cons List.length_nil List.take_succ_cons List.take_zero List.take_nil List.drop_succ_cons List.drop_zero List.drop_nil List.head?_cons List.map_cons List.map_nil List.getElem?_cons_zero List.getElem?_cons_succ List.cons_append List.nil_append List.append_nil List.length_map List.set_cons_zero List.set_cons_succ Nat.reduceMul eq_self Int.toNat_natCast Int.natCast_nonneg and_self true_and and_true decide_true decide_false Bool.false_eq_true Nat.zero_add Nat.add_zero List.contains_cons List.contains_nil Bool.or_false Bool.false_or beq_self_eq_true Nat.reduceBEq ne_eq not_true_eq_false not_false_eq_true Id.mk.injEq false_and and_false Nat.reduceLT Int.reduceLE Int.reduceLT Int.reduceToNat Int.reduceNeg Int.reduceAdd Nat.le_refl List.length_append beq_true beq_false Bool.not_eq_eq_eq_not or_false false_or eL ar ax aW bp bZ cw aV bH aU bh cQ bI
theorem flatG:DF (AF ek) 2:=LR (fun _=>rfl) (fun _=>rfl) (by simp[sr])
theorem flatP:DF (AF ai) 3:=LR (fun _=>rfl) (fun _=>rfl) (by simp[sr])
def AsmO (g:Rows) (v:AV) (a:sP) (ids:List Id):Prop:=∃x,v=.agg [x]/\H0 (AF ai) 3 g x a.au ids
structure SysO (g:Rows) (v:AV) (s:aA) (ids:List Id):Prop where
 ex:∃a b c i1 i2 i3,v=.agg [a,b,c,.int .i64 s.aD]/\H0 (AF ek) 2 g a s.aI.bd i1/\H0 Ln 2 g b s.aI.au i2/\H0 (AF ai) 3 g c s.dm.au i3/\ids=i1++(i2++i3)
end Go.Proofs.YtiabgllilcfheaaGreat.V

namespace Go.Proofs.YtiabgllilcfheaaGreat
open Go.RowKit
def vV (n:Nat):List UInt8:=if h:n=0 then[]else vV (n / 10)++[UInt8.ofNat (48+n % 10)]
termination_by n
decreasing_by omega
theorem Jv:vV 0=[]:=by unfold vV;simp
theorem LI {n:Nat} (h:n≠0):vV n=vV (n / 10)++[UInt8.ofNat (48+n % 10)]:=by
 conv=>lhs;unfold vV
 rw[dif_neg h]
theorem Jp (c:UInt8) (l:ByteArray):((⟨#[c]⟩++l:ByteArray)).data.toList=c::l.data.toList:=by
 simp[ByteArray.data_append]
theorem yI:∀(m n:Nat),n<10 ^ m->(vV n).length<=m
 |0,n,h=>by
  have:n=0:=by simpa using h
  subst this;simp[vV]
 |m+1,n,h=>by
  unfold vV
  split
  ·simp
  ·have:=yI m (n / 10) (by rw[Nat.pow_succ]at h;omega)
   simp;omega
end Go.Proofs.YtiabgllilcfheaaGreat

namespace Go.Proofs.YtiabgllilcfheaaGreat.V
open Go.RowKit
attribute [local irreducible] eC wpOps gi Call
attribute [local go_sem] aM fP fa fX fW du upd cz K.av cP AV.cells AV.cell rowOf rowsOf part ld rowAt bL cu dK eb gK bP de eu fS fq dx ef db da dR dS bU bf cU bR cW cV dW eh ee cR bW dd ec bQ aL cY cH gJ bF cL bV aY dr bq dL AV.undef bJ bK dV dY dQ dU cK er ez cF ej ei cX cZ List.getD_cons_zero List.getD_cons_succ List.getD_nil List.all_cons List.all_nil Bool.and_true Bool.true_and Bool.and_self Bool.not_true Bool.not_false Option.map_some Option.map_none Option.bind_some Option.bind_none List.length_cons List.length_nil List.take_succ_cons List.take_zero List.take_nil List.drop_succ_cons List.drop_zero List.drop_nil List.head?_cons List.map_cons List.map_nil List.getElem?_cons_zero List.getElem?_cons_succ List.cons_append List.nil_append List.append_nil List.length_map List.set_cons_zero List.set_cons_succ Nat.reduceMul eq_self Int.toNat_natCast Int.natCast_nonneg and_self true_and and_true decide_true decide_false Bool.false_eq_true Nat.zero_add Nat.add_zero List.contains_cons List.contains_nil Bool.or_false Bool.false_or beq_self_eq_true Nat.reduceBEq ne_eq not_true_eq_false not_false_eq_true Id.mk.injEq false_and and_false Nat.reduceLT Int.reduceLE Int.reduceLT Int.reduceToNat Int.reduceNeg Int.reduceAdd Nat.le_refl List.length_append beq_true beq_false Bool.not_eq_eq_eq_not or_false false_or eL ar ax aW bp bZ cw aV bH aU bh cQ bI
def But (σ:az) (ids:List Id) (g:Rows) (n:Nat):Prop:=σ.next<=n/\∀x:Id,x.bj<σ.next->x∉ids->g x=σ.get x
theorem Qj {P:Program} {w:World} {D:Nat->Prop} {ι:Names} {k:Int} {vs:Array Value} (h:fK P w D ι [.int .i64 k] vs):vs= #[.int .i64 k]:=by
 obtain⟨h1,h2⟩:=h
 obtain⟨u,hu,hr⟩:=h2 0 _ rfl
 rw[eB hr]at hu
 obtain⟨l⟩:=vs
 cases l with
 |nil=>simp at h1
 |cons a l=>cases l with
  |nil=>simp at hu;subst hu;rfl
  |cons b l=>simp at h1
end Go.Proofs.YtiabgllilcfheaaGreat.V

namespace Go.Proofs.YtiabgllilcfheaaGreat.V
open Go.RowKit
attribute [local irreducible] eC wpOps gi Call
attribute [local go_sem] aM fP fa fX fW du upd cz K.av cP AV.cells AV.cell rowOf rowsOf part ld rowAt bL cu dK eb gK bP de eu fS fq dx ef db da dR dS bU bf cU bR cW cV dW eh ee cR bW dd ec bQ aL cY cH gJ bF cL bV aY dr bq dL AV.undef bJ bK dV dY dQ dU cK er ez cF ej ei cX cZ List.getD_cons_zero List.getD_cons_succ List.getD_nil List.all_cons List.all_nil Bool.and_true Bool.true_and Bool.and_self Bool.not_true Bool.not_false Option.map_some Option.map_none Option.bind_some Option.bind_none List.length_cons List.length_nil List.take_succ_cons List.take_zero List.take_nil List.drop_succ_cons List.drop_zero List.drop_nil List.head?_cons List.map_cons List.map_nil List.getElem?_cons_zero List.getElem?_cons_succ List.cons_append List.nil_append List.append_nil List.length_map List.set_cons_zero List.set_cons_succ eq_self Int.toNat_natCast Int.natCast_nonneg and_self true_and and_true decide_true decide_false Bool.false_eq_true Nat.zero_add Nat.add_zero List.contains_cons List.contains_nil Bool.or_false Bool.false_or beq_self_eq_true ne_eq not_true_eq_false not_false_eq_true Id.mk.injEq false_and and_false Nat.le_refl List.length_append beq_true beq_false Bool.not_eq_eq_eq_not or_false false_or eL ar ax aW bp bZ cw aV bH aU bh cQ bI
section
variable {P:Program} {α:Type} {e:α->List AV} {z:Nat} {g g':Rows} {v:AV} {L:List α} {ids:List Id}
def ZF (e:α->List AV) (z:Nat) (g:Rows) (v:AV) (L:List α) (ids:List Id):Prop:=(L=[]/\v=.br/\ids=[])∨∃o,v=.own o 0 L.length/\g o=some ⟨true,z,L.map e⟩/\ids=[o]/\0<L.length
def Zm (e:α->List AV) (L:List α):AV:=if L.length=0 then .br else .sl (L.map e)
def VZ (e:α->List AV) (L:List α) (w:AV):Prop:=(w=.br/\L=[])∨w=.sl (L.map e)
def Gh (P:Program) (f:Nat) (args:List AV) (e:α->List AV) (z:Nat) (L:List α) (c:Int):Prop:=
 ∀n:Nat,Call P f args ⟨fun _=>none,n⟩ (fun r σ'=>∃v ids,r=.gM [v,.int .i64 c]/\ZF e z σ'.get v L ids/\RS n σ'.next ids)
theorem AD (hm:P.follows .mixedOrders=true) {f:Nat} {args:List AV} {σ:az} {K:AV->az->Prop} (h:Call P f args σ K):Call P f args σ (fun r σ'=>K r σ'/\σ.next<=σ'.next):=
 gG fun hs D ι w vs S U A=>(iE hm h hs D ι w vs S U A).mono (by
  rintro e w' ⟨r,g',n',D2,ι1,u,rfl,hK,T,S1,U1,hn,hR⟩
  exact⟨r,g',n',D2,ι1,u,rfl,⟨hK,hn⟩,T,S1,U1,hn,hR⟩)
theorem Gh.s {f:Nat} {args:List AV} {c:Int} (he:∀x g,fm g 4 (e x)=some (e x)) (h:Gh P f args e z L c):ay P f args (.gM [Zm e L,.int .i64 c]):=fun n=>
 aE _ _ _ _ _ (fun r σ' hq=>by
  obtain⟨v,ids,rfl,ho,hi⟩:=hq
  rcases ho with⟨rfl,rfl,_⟩|⟨o,rfl,h2,_,hp⟩
  ·exact⟨_,by simp only[eR,bc,bY,iN,dG,Option.map_some];rfl,rfl⟩
  ·have:=eP (e:=e) (n:=4) h2 rfl fun x=>he x _
   exact⟨_,by simp only[eR,bc,bY,this,dG,Option.map_some];rfl,by rw[Zm,if_neg ah]⟩) (h n)
end
end Go.Proofs.YtiabgllilcfheaaGreat.V

namespace Go.Proofs.YtiabgllilcfheaaGreat.V
open Go.RowKit
attribute [local irreducible] eC wpOps gi Call
attribute [local go_sem] aM fP fa fX fW du upd cz K.av cP AV.cells AV.cell rowOf rowsOf part ld rowAt bL cu dK eb gK bP de eu fS fq dx ef db da dR dS bU bf cU bR cW cV dW eh ee cR bW dd ec bQ aL cY cH gJ bF cL bV aY dr bq dL AV.undef bJ bK dV dY dQ dU cK er ez cF ej ei cX cZ List.getD_cons_zero List.getD_cons_succ List.getD_nil List.all_cons List.all_nil Bool.and_true Bool.true_and Bool.and_self Bool.not_true Bool.not_false Option.map_some Option.map_none Option.bind_some Option.bind_none List.length_cons List.length_nil List.take_succ_cons List.take_zero List.take_nil List.drop_succ_cons List.drop_zero List.drop_nil List.head?_cons List.map_cons List.map_nil List.getElem?_cons_zero List.getElem?_cons_succ List.cons_append List.nil_append List.append_nil List.length_map List.set_cons_zero List.set_cons_succ Nat.reduceMul eq_self Int.toNat_natCast Int.natCast_nonneg and_self true_and and_true decide_true decide_false Bool.false_eq_true Nat.zero_add Nat.add_zero List.contains_cons List.contains_nil Bool.or_false Bool.false_or beq_self_eq_true Nat.reduceBEq ne_eq not_true_eq_false not_false_eq_true Id.mk.injEq false_and and_false Nat.reduceLT Int.reduceLE Int.reduceLT Int.reduceToNat Int.reduceNeg Int.reduceAdd Nat.le_refl List.length_append beq_true beq_false Bool.not_eq_eq_eq_not or_false false_or eL ar ax aW bp bZ cw aV bH aU bh cQ bI
theorem Q8 (g:Rows) (n:Nat) (x:aa):fm g (n+1) (ai x)=some (ai x):=by simp[ai,bc,bY,dG]
def QZ (n:Nat) (L:List aa) (r:AV) (σ':az):Prop:=∃o:Id,r=.agg [.own o 0 L.length]/\σ'.get o=some ⟨true,3,L.map ai⟩/\n<=o.bj/\o.bj<σ'.next
theorem QZ.val {f:Nat} {args args':List AV} {L:List aa} {σ:az} (h:∀n,Call Tryz.prog f args' ⟨fun _=>none,n⟩ (QZ n L)) (hv:eI (eL σ.get) 6 args=some args'):Call Tryz.prog f args σ (fun r σ'=>QZ σ.next L r σ'/\Kept σ σ'):=by
 refine DD mixed hv (aE _ _ _ _ _ (fun r σ' hq=>?_) (AD mixed (h σ.next)))
 obtain⟨⟨o,rfl,h2,h3,h4⟩,hn⟩:=hq
 refine⟨[o],rfl,fun i hi=>?_,⟨o,rfl,(uX (by simp)).trans h2,h3,h4⟩,hn,fun j hj=>oe fun hc=>?_⟩
 ·rw[List.mem_singleton.1 hi]
  exact⟨_,h2,rfl,fun cs eD a ha=>by
   obtain⟨x,_,rfl⟩:=List.mem_map.1 eD
   simp[ai]at ha
   rcases ha with rfl|rfl|rfl<;>rfl⟩
 ·rw[List.mem_singleton.1 hc]at hj;omega
theorem E6 (l:List aa) (hl:l.length<=1048576) (n0:Nat):Call Tryz.prog 63 [.dF [.sl (l.map ai)]] ⟨fun _=>none,n0⟩ (QZ n0 l):=by
 refine hZ fR rfl fun gZ=>?_
 clear gZ
 have Dt:(l.map ai).length<=16777216:=by simp;omega
 have eV:(l.map ai).all (fun c=>c.length==3&&c.all AV.cell)=true:=all_map fun x=>⟨rfl,rfl⟩
 have JP:(l.map ai).length=l.length:=by simp
 generalize qH:l.map ai=rows at Dt eV JP
 (try((repeat(revert N;apply Pn.out));refine wk (tw @Dt @eV) ?_;(repeat(apply Pn.mk;intro N Z))))
 exact fV (.inl rfl) (vs:=[.agg [.own ⟨63001005,n0+1⟩ 0 rows.length]]) (sd @Nat.zero_add) ⟨⟨63001005,n0+1⟩,by rw[JP];rfl,by rw[qH];simp only[go_sem, ↓reduceIte,Nat.reduceEqDiff,Nat.reduceAdd,Nat.reduceSub,Nat.reduceLeDiff,reduceCtorEq],aQ,aQ⟩
def xD (q:aa) (l:List aa):Bool:=l.any fun x=>jM q.bD x.bD
theorem FB {q:aa}:∀{l:List aa},xD q l=false->iu l q=l++[q]
 |[],_=>rfl
 |x::l,h=>by
  unfold xD at h
  rw[List.any_cons,Bool.or_eq_false_iff]at h
  rw[iu,if_neg (by rw[h.1];simp),FB h.2];rfl
theorem BL {q y:aa}:∀{l:List aa},xD q l=true->iu (l++[y]) q=iu l q++[y]
 |x::l,h=>by
  unfold xD at h
  rw[List.any_cons]at h
  rw[List.cons_append,iu,iu]
  cases hx:jM q.bD x.bD
  ·rw[hx,Bool.false_or]at h
   rw[if_neg (by simp),if_neg (by simp),BL h];rfl
  ·simp
theorem BJ {q y:aa}:∀{l:List aa},xD q l=false->jM q.bD y.bD=true->iu (l++[y]) q=l++[q]++[y]
 |[],_,hy=>by simp[iu,hy]
 |x::l,h,hy=>by
  unfold xD at h
  rw[List.any_cons,Bool.or_eq_false_iff]at h
  rw[List.cons_append,iu,if_neg (by rw[h.1];simp),BJ h.2 hy];rfl
def jV (q:aa) (l:List aa):List aa:=if xD q l=true then iu l q else l
theorem yJ (q:aa) (l:List aa) (y:aa):xD q (l++[y])=(xD q l||jM q.bD y.bD):=by simp[xD]
theorem Ko (q:aa) (l:List aa):(jV q l).length<=l.length+1:=by
 unfold jV
 split
 ·rw[mm];omega
 ·omega
theorem M0 {q y:aa} {l:List aa} (h:xD q l=true∨jM q.bD y.bD=false):jV q (l++[y])=jV q l++[y]:=by
 unfold jV
 rw[yJ]
 cases hd:xD q l
 ·rw[hd]at h
  have h2:jM q.bD y.bD=false:=by rcases h with h|h;cases h;exact h
  simp[h2]
 ·simp[BL hd]
theorem MZ {q y:aa} {l:List aa} (h:xD q l=false) (hy:jM q.bD y.bD=true):jV q (l++[y])=jV q l++[q]++[y]:=by
 unfold jV
 rw[yJ,h,hy]
 simp[BJ h hy]
def ZD (m:Nat) (L:List aa) (v:AV) (g:Rows) (n:Nat):Prop:=(L=[]/\v=.br)∨∃o:Id,v=.own o 0 L.length/\g o=some ⟨true,3,L.map ai⟩/\m<=o.bj/\o.bj<n
theorem FM {l:List aa} {k:Nat} (hk:k<l.length):l.take (k+1)=l.take k++[bw l k]:=by rw[List.take_succ_eq_append_getElem hk,gQ hk]
theorem Fg (L:List aa) (q:aa):(L++[q]).map ai=L.map ai++[[.int .i64 q.bD.fC,.int .i64 q.bD.fu,.int .i64 q.ck]]:=by rw[List.map_append];rfl
theorem uH (L:List aa) (q:aa):(L++[q]).length=L.length+1:=by rw[List.length_append];rfl
theorem My (l:List aa) (hl:l.length<=1048576) (p:aq) (t:Int) (n0:Nat):Call Tryz.prog 74 [.dF [.sl (l.map ai)],.agg (ae p),.int .i64 t] ⟨fun _=>none,n0⟩ (QZ n0 (iu l ⟨p,t⟩)):=by
 refine hZ fR rfl fun gZ=>?_
 clear gZ
 obtain⟨q,hq⟩:∃q:aa,q=⟨p,t⟩:=⟨_,rfl⟩
 (try((repeat(revert N;apply Pn.out));refine wk @ae.eq_1 ?_;(repeat(apply Pn.mk;intro N Z))))
 refine bz (fun n env st=>∃i:Nat,n=(l.length)-i/\i<=(l.length)/\env 9=.int .i64 (i:Int)/\env 8=.bool (xD q (l.take i))/\st.get ⟨74000000,n0⟩=some ⟨true,2,[ae p]⟩/\st.get ⟨74000001,n0⟩=some ⟨true,1,[[.br]]⟩/\(n0+2<=st.next/\∃v,st.get ⟨74001001,n0+1⟩=some ⟨true,1,[[v]]⟩/\ZD (n0+2) (jV q (l.take i)) v st.get st.next)) (l.length) ⟨0,ah,ah,sl @ae.eq_1,sl @ae.eq_1,sl @ae.eq_1,sl @ae.eq_1,by(try dsimp only);exact⟨ah,.br,sd @Nat.zero_add,.inl ⟨rfl,rfl⟩⟩⟩ ?_
 rintro n_a env_a st_a ⟨i,rfl,ale,a9,a8,ag0,ag1,nh⟩ eE
 have a0:=eE 0 (by kernel_rfl);have a2:=eE 2 (by kernel_rfl);have a4:=eE 4 (by kernel_rfl);have a6:=eE 6 (by kernel_rfl);have a7:=eE 7 (by kernel_rfl)
 simp only[go_sem, ↓reduceIte,Nat.reduceEqDiff,Nat.reduceAdd,Nat.reduceSub,Nat.reduceLeDiff,reduceCtorEq,ae]at a0 a2 a4 a6 a7
 clear eE
 obtain⟨an,v,av,aG⟩:=nh
 have vA:=dh (i:=⟨74000000,n0⟩) (n:=st_a.next) aQ
 have vB:=dh (i:=⟨74000001,n0⟩) (n:=st_a.next) aQ
 have vC:=dh (i:=⟨74001001,n0+1⟩) (n:=st_a.next) aQ
 have Mg:=Ko q (l.take i)
 rw[List.length_take]at Mg
 by_cases hi:(i:Int)<(l.length:Int)
 ·have dD:∀{e:Env} {gg:Rows} {nx:Nat},(e 9=.int .i64 (IntKind.i64.wrap ((i:Int)+1)))->(e 8=.bool (xD q (l.take (i+1))))->(gg ⟨74000000,n0⟩=some ⟨true,2,[ae p]⟩)->(gg ⟨74000001,n0⟩=some ⟨true,1,[[.br]]⟩)->(n0+2<=nx/\∃v,gg ⟨74001001,n0+1⟩=some ⟨true,1,[[v]]⟩/\ZD (n0+2) (jV q (l.take (i+1))) v gg nx)->∃m0,m0<(l.length)-i/\∃i:Nat,m0=(l.length)-i/\i<=(l.length)/\e 9=.int .i64 (i:Int)/\e 8=.bool (xD q (l.take i))/\gg ⟨74000000,n0⟩=some ⟨true,2,[ae p]⟩/\gg ⟨74000001,n0⟩=some ⟨true,1,[[.br]]⟩/\(n0+2<=nx/\∃v,gg ⟨74001001,n0+1⟩=some ⟨true,1,[[v]]⟩/\ZD (n0+2) (jV q (l.take i)) v gg nx):=fun x1 x2 x3 x4 x5=>⟨_,ah,i+1,rfl,ah,(by rw[x1,aK ah]),x2,x3,x4,x5⟩
  have fZ:i<l.length:=ah
  have iZ:=gI fZ
  have eW:=nf p (bw l i).bD
  have oN:=FM fZ
  have hqa:jM q.bD (bw l i).bD=jM p (bw l i).bD:=by rw[hq]
  have gU:(l.map ai).length=l.length:=by simp
  have JL:=yJ q (l.take i) (bw l i)
  rw[<-oN,hqa]at JL
  rw[ae,ae]at eW
  by_cases hc:xD q (l.take i)=true∨jM p (bw l i).bD=false
  ·have mO:=M0 (q:=q) (y:=bw l i) (l:=l.take i) (by rw[hqa];exact hc)
   rw[<-oN]at mO
   generalize jV q (l.take i)=L at aG mO Mg
   have uw:=uH L (bw l i)
   have lV:=Fg L (bw l i)
   have nA:xD q (l.take (i+1))=xD q (l.take i):=by
    rw[JL]
    rcases hc with h|h<;>rw[h]<;>simp
   rcases aG with⟨hL,rfl⟩|⟨o,rfl,ao,Q3,Jh⟩
   ·subst hL
    cases hd:xD q (l.take i)
    ·have h2:jM p (bw l i).bD=false:=by rcases hc with h|h;rw[hd]at h;cases h;exact h
     rw[h2]at eW
     rw[hd]at a8 nA
     (have zF:=tw @a9 (tw @a8 (tw @ag0 (tw @ag1 (tw @a0 (tw @a2 (tw @a4 (tw @a6 (tw @a7 (tw @hi (tw @iZ (tw @vA (tw @vB (tw @vC (tw @av (tw @gU (tw @ae.eq_1 @ai.eq_1))))))))))))))));(repeat(first|((repeat(revert N;apply Pn.out));refine wk zF ?_;(repeat(apply Pn.mk;intro N Z)))|((try apply Or.inl);refine⟨_,ay.x (eW) (sd zF),?_⟩;apply Z;clear Z N)));try clear zF)
     refine dD ?_ ?_ ?_ ?_ (by(try dsimp only);exact⟨ah,_,sl @Nat.zero_add,.inr ⟨⟨74009010,st_a.next+1+1⟩,by rw[mO,uw]<;>(simp only[go_sem, ↓reduceIte,Nat.reduceEqDiff,Nat.reduceAdd,Nat.reduceSub,Nat.reduceLeDiff,reduceCtorEq]<;>rfl),by rw[mO,lV]<;>(simp only[go_sem, ↓reduceIte,Nat.reduceEqDiff,Nat.reduceAdd,Nat.reduceSub,Nat.reduceLeDiff,reduceCtorEq]<;>rfl),aQ,aQ⟩⟩)
     all_goals simp only[go_sem, ↓reduceIte,Nat.reduceEqDiff,Nat.reduceAdd,Nat.reduceSub,Nat.reduceLeDiff,reduceCtorEq,a9,a8,ag0,ag1,a0,a2,a4,a6,a7,nA,vA,vB,vC,ae]
    ·rw[hd]at a8 nA
     (try((repeat(revert N;apply Pn.out));refine wk (tw @a9 (tw @a8 (tw @ag0 (tw @ag1 (tw @a0 (tw @a2 (tw @a4 (tw @a6 (tw @a7 (tw @hi (tw @iZ (tw @vA (tw @vB (tw @vC (tw @av (tw @gU (tw @ae.eq_1 @ai.eq_1))))))))))))))))) ?_;(repeat(apply Pn.mk;intro N Z))))
     refine dD ?_ ?_ ?_ ?_ (by(try dsimp only);exact⟨ah,_,sl @Nat.zero_add,.inr ⟨⟨74009010,st_a.next+1+1⟩,by rw[mO,uw]<;>(simp only[go_sem, ↓reduceIte,Nat.reduceEqDiff,Nat.reduceAdd,Nat.reduceSub,Nat.reduceLeDiff,reduceCtorEq]<;>rfl),by rw[mO,lV]<;>(simp only[go_sem, ↓reduceIte,Nat.reduceEqDiff,Nat.reduceAdd,Nat.reduceSub,Nat.reduceLeDiff,reduceCtorEq]<;>rfl),aQ,aQ⟩⟩)
     all_goals simp only[go_sem, ↓reduceIte,Nat.reduceEqDiff,Nat.reduceAdd,Nat.reduceSub,Nat.reduceLeDiff,reduceCtorEq,a9,a8,ag0,ag1,a0,a2,a4,a6,a7,nA,vA,vB,vC,ae]
   ·have vo:=dh Jh
    have oA:=dP (a:=⟨74000000,n0⟩) (b:=o) aQ
    have oB:=dP (a:=⟨74000001,n0⟩) (b:=o) aQ
    have oC:=dP (a:=⟨74001001,n0+1⟩) (b:=o) aQ
    have Rc:(L.map ai).length=L.length:=by simp
    have kO:L.length<=16777215:=ah
    cases hd:xD q (l.take i)
    ·have h2:jM p (bw l i).bD=false:=by rcases hc with h|h;rw[hd]at h;cases h;exact h
     rw[h2]at eW
     rw[hd]at a8 nA
     (have zF:=tw @a9 (tw @a8 (tw @ag0 (tw @ag1 (tw @a0 (tw @a2 (tw @a4 (tw @a6 (tw @a7 (tw @hi (tw @iZ (tw @vA (tw @vB (tw @vC (tw @vo (tw @oA (tw @oB (tw @oC (tw @ao (tw @av (tw @gU (tw @Rc (tw @kO (tw @ae.eq_1 @ai.eq_1)))))))))))))))))))))));(repeat(first|((repeat(revert N;apply Pn.out));refine wk zF ?_;(repeat(apply Pn.mk;intro N Z)))|((try apply Or.inl);refine⟨_,ay.x (eW) (sd zF),?_⟩;apply Z;clear Z N)));try clear zF)
     refine dD ?_ ?_ ?_ ?_ (by(try dsimp only);exact⟨ah,_,sl @Nat.zero_add,.inr ⟨⟨74009010,st_a.next+1+1⟩,by rw[mO,uw]<;>(simp only[go_sem, ↓reduceIte,Nat.reduceEqDiff,Nat.reduceAdd,Nat.reduceSub,Nat.reduceLeDiff,reduceCtorEq]<;>rfl),by rw[mO,lV]<;>(simp only[go_sem, ↓reduceIte,Nat.reduceEqDiff,Nat.reduceAdd,Nat.reduceSub,Nat.reduceLeDiff,reduceCtorEq]<;>rfl),aQ,aQ⟩⟩)
     all_goals simp only[go_sem, ↓reduceIte,Nat.reduceEqDiff,Nat.reduceAdd,Nat.reduceSub,Nat.reduceLeDiff,reduceCtorEq,a9,a8,ag0,ag1,a0,a2,a4,a6,a7,nA,vA,vB,vC,oA,oB,oC,ae]
    ·rw[hd]at a8 nA
     (try((repeat(revert N;apply Pn.out));refine wk (tw @a9 (tw @a8 (tw @ag0 (tw @ag1 (tw @a0 (tw @a2 (tw @a4 (tw @a6 (tw @a7 (tw @hi (tw @iZ (tw @vA (tw @vB (tw @vC (tw @vo (tw @oA (tw @oB (tw @oC (tw @ao (tw @av (tw @gU (tw @Rc (tw @kO (tw @ae.eq_1 @ai.eq_1)))))))))))))))))))))))) ?_;(repeat(apply Pn.mk;intro N Z))))
     refine dD ?_ ?_ ?_ ?_ (by(try dsimp only);exact⟨ah,_,sl @Nat.zero_add,.inr ⟨⟨74009010,st_a.next+1+1⟩,by rw[mO,uw]<;>(simp only[go_sem, ↓reduceIte,Nat.reduceEqDiff,Nat.reduceAdd,Nat.reduceSub,Nat.reduceLeDiff,reduceCtorEq]<;>rfl),by rw[mO,lV]<;>(simp only[go_sem, ↓reduceIte,Nat.reduceEqDiff,Nat.reduceAdd,Nat.reduceSub,Nat.reduceLeDiff,reduceCtorEq]<;>rfl),aQ,aQ⟩⟩)
     all_goals simp only[go_sem, ↓reduceIte,Nat.reduceEqDiff,Nat.reduceAdd,Nat.reduceSub,Nat.reduceLeDiff,reduceCtorEq,a9,a8,ag0,ag1,a0,a2,a4,a6,a7,nA,vA,vB,vC,oA,oB,oC,ae]
  ·have hd:xD q (l.take i)=false:=by
    cases h:xD q (l.take i)
    ·rfl
    ·exact absurd (.inl h) hc
   have h2:jM p (bw l i).bD=true:=by
    cases h:jM p (bw l i).bD
    ·exact absurd (.inr h) hc
    ·rfl
   have mO:=MZ (q:=q) (y:=bw l i) hd (by rw[hqa];exact h2)
   rw[<-oN]at mO
   have nA:xD q (l.take (i+1))=true:=by rw[JL,h2];simp
   rw[hd]at a8
   rw[h2]at eW
   have Y5:ai q=[.int .i64 p.fC,.int .i64 p.fu,.int .i64 t]:=by rw[hq];rfl
   generalize jV q (l.take i)=L at aG mO Mg
   have uw:=uH (L++[q]) (bw l i)
   have lV:=Fg (L++[q]) (bw l i)
   have hnl2:=uH L q
   have EF:(L++[q]).map ai=L.map ai++[[.int .i64 p.fC,.int .i64 p.fu,.int .i64 t]]:=by rw[List.map_append,List.map_singleton,Y5]
   rw[hnl2]at uw
   rw[EF]at lV
   rcases aG with⟨hL,rfl⟩|⟨o,rfl,ao,Q3,Jh⟩
   ·subst hL
    (have zF:=tw @a9 (tw @a8 (tw @ag0 (tw @ag1 (tw @a0 (tw @a2 (tw @a4 (tw @a6 (tw @a7 (tw @hi (tw @iZ (tw @vA (tw @vB (tw @vC (tw @av (tw @gU (tw @ae.eq_1 @ai.eq_1))))))))))))))));(repeat(first|((repeat(revert N;apply Pn.out));refine wk zF ?_;(repeat(apply Pn.mk;intro N Z)))|((try apply Or.inl);refine⟨_,ay.x (eW) (sd zF),?_⟩;apply Z;clear Z N)));try clear zF)
    refine dD ?_ ?_ ?_ ?_ (by(try dsimp only);exact⟨ah,_,sl @Nat.zero_add,.inr ⟨⟨74009010,st_a.next+1+1+1+1⟩,by rw[mO,uw]<;>(simp only[go_sem, ↓reduceIte,Nat.reduceEqDiff,Nat.reduceAdd,Nat.reduceSub,Nat.reduceLeDiff,reduceCtorEq]<;>rfl),by rw[mO,lV]<;>(simp only[go_sem, ↓reduceIte,Nat.reduceEqDiff,Nat.reduceAdd,Nat.reduceSub,Nat.reduceLeDiff,reduceCtorEq]<;>rfl),aQ,aQ⟩⟩)
    all_goals simp only[go_sem, ↓reduceIte,Nat.reduceEqDiff,Nat.reduceAdd,Nat.reduceSub,Nat.reduceLeDiff,reduceCtorEq,a9,a8,ag0,ag1,a0,a2,a4,a6,a7,nA,vA,vB,vC,ae]
   ·have vo:=dh Jh
    have oA:=dP (a:=⟨74000000,n0⟩) (b:=o) aQ
    have oB:=dP (a:=⟨74000001,n0⟩) (b:=o) aQ
    have oC:=dP (a:=⟨74001001,n0+1⟩) (b:=o) aQ
    have Rc:(L.map ai).length=L.length:=by simp
    have kO:L.length<=16777214:=ah
    have WB:L.length<=16777215:=ah
    (have zF:=tw @a9 (tw @a8 (tw @ag0 (tw @ag1 (tw @a0 (tw @a2 (tw @a4 (tw @a6 (tw @a7 (tw @hi (tw @iZ (tw @vA (tw @vB (tw @vC (tw @vo (tw @oA (tw @oB (tw @oC (tw @ao (tw @av (tw @gU (tw @Rc (tw @kO (tw @WB (tw @ae.eq_1 @ai.eq_1))))))))))))))))))))))));(repeat(first|((repeat(revert N;apply Pn.out));refine wk zF ?_;(repeat(apply Pn.mk;intro N Z)))|((try apply Or.inl);refine⟨_,ay.x (eW) (sd zF),?_⟩;apply Z;clear Z N)));try clear zF)
    refine dD ?_ ?_ ?_ ?_ (by(try dsimp only);exact⟨ah,_,sl @Nat.zero_add,.inr ⟨⟨74009010,st_a.next+1+1+1+1⟩,by rw[mO,uw]<;>(simp only[go_sem, ↓reduceIte,Nat.reduceEqDiff,Nat.reduceAdd,Nat.reduceSub,Nat.reduceLeDiff,reduceCtorEq]<;>rfl),by rw[mO,lV]<;>(simp only[go_sem, ↓reduceIte,Nat.reduceEqDiff,Nat.reduceAdd,Nat.reduceSub,Nat.reduceLeDiff,reduceCtorEq]<;>rfl),aQ,aQ⟩⟩)
    all_goals simp only[go_sem, ↓reduceIte,Nat.reduceEqDiff,Nat.reduceAdd,Nat.reduceSub,Nat.reduceLeDiff,reduceCtorEq,a9,a8,ag0,ag1,a0,a2,a4,a6,a7,nA,vA,vB,vC,oA,oB,oC,ae]
 ·have lU:i=l.length:=ah
  subst lU
  rw[List.take_length]at a8 aG Mg
  cases hd:xD q l
  ·rw[hd]at a8
   have mO:iu l ⟨p,t⟩=jV q l++[q]:=by rw[<-hq,FB hd,jV,hd];simp
   have Y5:ai q=[.int .i64 p.fC,.int .i64 p.fu,.int .i64 t]:=by rw[hq];rfl
   generalize jV q l=L at aG Mg mO
   have uw:=uH L q
   have lV:(L++[q]).map ai=L.map ai++[[.int .i64 p.fC,.int .i64 p.fu,.int .i64 t]]:=by rw[List.map_append,List.map_singleton,Y5]
   rcases aG with⟨hL,rfl⟩|⟨o,rfl,ao,Q3,Jh⟩
   ·subst hL
    (try((repeat(revert N;apply Pn.out));refine wk (tw @a9 (tw @a8 (tw @ag0 (tw @ag1 (tw @a0 (tw @a2 (tw @a4 (tw @a6 (tw @a7 (tw @hi (tw @vA (tw @vB (tw @vC (tw @av (tw @ae.eq_1 @ai.eq_1))))))))))))))) ?_;(repeat(apply Pn.mk;intro N Z))))
    exact fV (.inl rfl) (vs:=[.agg [.own ⟨74011006,st_a.next+1+1⟩ 0 1]]) (sd (tw @a9 (tw @a8 (tw @ag0 (tw @ag1 (tw @a0 (tw @a2 (tw @a4 (tw @a6 (tw @a7 @vB)))))))))) ⟨⟨74011006,st_a.next+1+1⟩,by rw[mO];rfl,by rw[mO];simp only[go_sem, ↓reduceIte,Nat.reduceEqDiff,Nat.reduceAdd,Nat.reduceSub,Nat.reduceLeDiff,reduceCtorEq,vB];rw[Y5],aQ,aQ⟩
   ·have vo:=dh Jh
    have oA:=dP (a:=⟨74000000,n0⟩) (b:=o) aQ
    have oB:=dP (a:=⟨74000001,n0⟩) (b:=o) aQ
    have oC:=dP (a:=⟨74001001,n0+1⟩) (b:=o) aQ
    have Rc:(L.map ai).length=L.length:=by simp
    have kO:L.length<=16777215:=ah
    (try((repeat(revert N;apply Pn.out));refine wk (tw @a9 (tw @a8 (tw @ag0 (tw @ag1 (tw @a0 (tw @a2 (tw @a4 (tw @a6 (tw @a7 (tw @hi (tw @vA (tw @vB (tw @vC (tw @vo (tw @oA (tw @oB (tw @oC (tw @ao (tw @av (tw @Rc (tw @kO (tw @ae.eq_1 @ai.eq_1)))))))))))))))))))))) ?_;(repeat(apply Pn.mk;intro N Z))))
    exact fV (.inl rfl) (vs:=[.agg [.own ⟨74011006,st_a.next+1+1⟩ 0 (L.length+1)]]) (sd (tw @a9 (tw @a8 (tw @ag0 (tw @ag1 (tw @a0 (tw @a2 (tw @a4 (tw @a6 (tw @a7 @vB)))))))))) ⟨⟨74011006,st_a.next+1+1⟩,by rw[mO,uw];rfl,by rw[mO,lV];simp only[go_sem, ↓reduceIte,Nat.reduceEqDiff,Nat.reduceAdd,Nat.reduceSub,Nat.reduceLeDiff,reduceCtorEq,vB],aQ,aQ⟩
  ·rw[hd]at a8
   have mO:iu l ⟨p,t⟩=jV q l:=by rw[<-hq,jV,hd];simp
   have kd:0<(jV q l).length:=by rw[<-mO,mm];omega
   generalize jV q l=L at aG Mg kd mO
   rcases aG with⟨hL,rfl⟩|⟨o,rfl,ao,Q3,Jh⟩
   ·subst hL;cases kd
   ·have vo:=dh Jh
    have oB:=dP (a:=⟨74000001,n0⟩) (b:=o) aQ
    (try((repeat(revert N;apply Pn.out));refine wk (tw @a9 (tw @a8 (tw @ag0 (tw @ag1 (tw @a0 (tw @a2 (tw @a4 (tw @a6 (tw @a7 (tw @hi (tw @vA (tw @vB (tw @vC (tw @vo (tw @ao (tw @av (tw @ae.eq_1 @ai.eq_1))))))))))))))))) ?_;(repeat(apply Pn.mk;intro N Z))))
    exact fV (.inl rfl) (vs:=[.agg [.own o 0 L.length]]) (sd (tw @a9 (tw @a8 (tw @ag0 (tw @ag1 (tw @a0 (tw @a2 (tw @a4 (tw @a6 (tw @a7 @vB)))))))))) ⟨o,by rw[mO];rfl,by rw[mO];simp only[go_sem, ↓reduceIte,Nat.reduceEqDiff,Nat.reduceAdd,Nat.reduceSub,Nat.reduceLeDiff,reduceCtorEq,vB,oB,ao],aQ,aQ⟩
theorem MB (s:aA) (hP:V4 s) (l:List aa) (hA:jf s.aI l) (p:aq) (t:Int) (ht:eY s.aI t=true):ay Tryz.prog 73 [.dF (bt s),.dF [.sl (l.map ai)],.agg [.int .i64 p.fC,.int .i64 p.fu,.int .i64 t]] (.bool (dX s l p t)):=by
 refine ay.body fR rfl fun gZ n0=>?_
 clear gZ
 have h1:=oQ p
 have h2:=(tn s.aI t).cut mixed (.ptr _ [.sl (s.dm.au.map ai),.int .i64 s.aD] (.same _ .nil))
 have h3:=oR l p hA.1.Kw (by have:=hA.1.wQ;omega)
 rw[ht]at h2
 by_cases h0:z8 p=true
 ·rw[h0]at h1
  obtain⟨hx,hy⟩:=tF h0
  by_cases hi:fb l p<0
  ·have h4:=(CE s.aI hP.set l hA p hx hy t ht).cut mixed (.ptr _ [.sl (s.dm.au.map ai),.int .i64 s.aD] (.same _ (.same _ (.same _ .nil))))
   have e:dX s l p t=decide (s.aD<=mb s.aI (fQ l) p t):=by simp[dX,h0,(vJ hA p).2 hi]
   rw[e]
   (have zF:=tw @bt.eq_1 (tw @aj.eq_1 (tw @ae.eq_1 @hi));(repeat(first|((repeat(revert N;apply Pn.out));refine wk zF ?_;(repeat(apply Pn.mk;intro N Z)))|((try apply Or.inl);refine⟨_,ay.x (h1) (sd zF),?_⟩;apply Z;clear Z N)|((try apply Or.inl);refine⟨_,ay.x (h2) (sd zF),?_⟩;apply Z;clear Z N)|((try apply Or.inl);refine⟨_,ay.x (h3) (sd zF),?_⟩;apply Z;clear Z N)|((try apply Or.inl);refine⟨_,ay.x (h4) (sd zF),?_⟩;apply Z;clear Z N)));try clear zF)
   exact cD (b:=decide (s.aD<=mb s.aI (fQ l) p t)) (.inl rfl) (sd @Nat.zero_add) rfl
  ·have e:dX s l p t=false:=by
    have:¬fQ l p<0:=fun h=>hi ((vJ hA p).1 h)
    simp[dX,this]
   rw[e]
   (have zF:=tw @bt.eq_1 (tw @aj.eq_1 (tw @ae.eq_1 @hi));(repeat(first|((repeat(revert N;apply Pn.out));refine wk zF ?_;(repeat(apply Pn.mk;intro N Z)))|((try apply Or.inl);refine⟨_,ay.x (h1) (sd zF),?_⟩;apply Z;clear Z N)|((try apply Or.inl);refine⟨_,ay.x (h2) (sd zF),?_⟩;apply Z;clear Z N)|((try apply Or.inl);refine⟨_,ay.x (h3) (sd zF),?_⟩;apply Z;clear Z N)));try clear zF)
   exact cD (b:=false) (.inl rfl) (sd @Nat.zero_add) rfl
 ·rw[Bool.not_eq_true]at h0
  rw[h0]at h1
  have e:dX s l p t=false:=by simp[dX,h0]
  rw[e]
  (have zF:=tw @bt.eq_1 (tw @aj.eq_1 @ae.eq_1);(repeat(first|((repeat(revert N;apply Pn.out));refine wk zF ?_;(repeat(apply Pn.mk;intro N Z)))|((try apply Or.inl);refine⟨_,ay.x (h1) (sd zF),?_⟩;apply Z;clear Z N)));try clear zF)
  exact cD (b:=false) (.inl rfl) (sd @Nat.zero_add) rfl
def qE (s:aH) (F:aq->Int) (p:aq) (d:Nat):Int:=if F (cj p d)<0 then 0 else dZ (ea s (F (cj p d))) (lX d)
def qF (s:aH) (F:aq->Int) (p:aq) (k:Nat):List Int:=(List.range k).map (qE s F p)
theorem El (s:aH) (F:aq->Int) (p:aq) (k:Nat):(qF s F p k).length=k:=by simp[qF]
theorem JE (s:aH) (F:aq->Int) (p:aq) (k:Nat):qF s F p (k+1)=qF s F p k++[qE s F p k]:=by simp[qF,List.range_succ]
theorem LY {s:aH} {F:aq->Int} {p:aq} {k d:Nat} (h:d<k):((qF s F p k).map aJ)[d]? =some [.int .i64 (qE s F p d)]:=by simp[qF,h,aJ]
theorem Jw {s:aH} (hF:jT s) {F:aq->Int} (hT:∀q,0<=F q->eY s (F q)=true) {p:aq} {t:Int} (ht:eY s t=true) {d:Nat} (hd:d<4):
  dp s F p t (d+1)=if dZ (ea s t) d=qE s F p d then dp s F p t d+sD s (qE s F p d)else dp s F p t d:=by
 rw[dp]
 unfold qE
 by_cases h0:F (cj p d)<0
 ·rw[if_neg ah,if_pos h0]
  have:sD s 0=0:=if_pos rfl
  rw[this,Int.add_zero]
  split<;>rfl
 ·rw[if_pos ah,if_neg h0]
  unfold iL
  split
  ·rename_i e;rw[e]
  ·rw[Int.add_zero]
theorem O8 {s:aH} (hF:jT s) {F:aq->Int} (hT:∀q,0<=F q->eY s (F q)=true) (p:aq) {d:Nat} (hd:d<4):0<=qE s F p d/\qE s F p d<=s.bd.length:=by
 unfold qE
 split
 ·exact⟨Int.le_refl _,ah⟩
 ·rename_i h0
  obtain⟨_,_,a2⟩:=lG (hT _ (by omega:0<=F (cj p d)))
  exact hF.wZ _ a2 _ (zM (hF.qV _ a2) (tD (jn ah)))
noncomputable def B9 (s:aH) (l:List aa) (T:Int) (p:aq) (t:Int):Bool:=decide (T<=mb s (fQ l) p t)
theorem OQ {s:aA} {l:List aa} {p:aq} (h:DI l p) (hA:jf s.aI l) (t:Int):dX s l p t=B9 s.aI l s.aD p t:=by
 obtain⟨h1,h2,_⟩:=h
 simp[dX,B9,h1,(vJ hA p).2 h2]
theorem PW (s:aH) (hS:iK s) (l:List aa) (hA:jf s l) (p:aq) (hx:iB p.fC) (hy:iB p.fu) (T:Int):
  ay Tryz.prog 86 [.dF (aj s),.dF [.sl (l.map ai)],.agg (ae p),.int .i64 T] (.sl ((lS (B9 s l T) p s.au.length).map aJ)):=by
 refine ay.body fR rfl fun gZ n0=>?_
 clear gZ
 have hF:=hS.form
 have F8:=hS.uY
 have WG:∀q,0<=fQ l q->eY s (fQ l q)=true:=iK.Ls hA
 (try((repeat(revert N;apply Pn.out));refine wk @ae.eq_1 ?_;(repeat(apply Pn.mk;intro N Z))))
 refine bz (fun n env st=>∃k:Nat,n=(4)-k/\k<=(4)/\env 10=.int .i64 (k:Int)/\st.get ⟨86000000,n0⟩=some ⟨true,2,[ae p]⟩/\(n0+2<=st.next/\∃o:Id,env 9=.own o 0 k/\st.get o=some ⟨true,1,(qF s (fQ l) p k).map aJ⟩/\n0<o.bj/\o.bj<st.next)) (4) ⟨0,ah,ah,sl @ae.eq_1,sl @ae.eq_1,by(try dsimp only);exact⟨ah,⟨86001000,n0+1⟩,sl @Nat.zero_add,sl @Nat.zero_add,aQ,aQ⟩⟩ ?_
 rintro n_a env_a st_a ⟨k,rfl,ale,rY,ag0,nh⟩ eE
 have a0:=eE 0 (by kernel_rfl);have a1:=eE 1 (by kernel_rfl);have a3:=eE 3 (by kernel_rfl);have a6:=eE 6 (by kernel_rfl)
 simp only[go_sem, ↓reduceIte,Nat.reduceEqDiff,Nat.reduceAdd,Nat.reduceSub,Nat.reduceLeDiff,reduceCtorEq,ae]at a0 a1 a3 a6
 clear eE
 obtain⟨an,o,a9,ag,Jh,aox⟩:=nh
 have vo:=dh aox
 have vb:=dh (i:=⟨86000000,n0⟩) (n:=st_a.next) aQ
 have ob:=dP (a:=⟨86000000,n0⟩) (b:=o) aQ
 by_cases hk:(k:Int)<4
 ·have dD:∀{e:Env} {gg:Rows} {nx:Nat},(e 10=.int .i64 (IntKind.i64.wrap ((k:Int)+1)))->(gg ⟨86000000,n0⟩=some ⟨true,2,[ae p]⟩)->(n0+2<=nx/\∃o:Id,e 9=.own o 0 (k+1)/\gg o=some ⟨true,1,(qF s (fQ l) p (k+1)).map aJ⟩/\n0<o.bj/\o.bj<nx)->∃m0,m0<(4)-k/\∃k:Nat,m0=(4)-k/\k<=(4)/\e 10=.int .i64 (k:Int)/\gg ⟨86000000,n0⟩=some ⟨true,2,[ae p]⟩/\(n0+2<=nx/\∃o:Id,e 9=.own o 0 k/\gg o=some ⟨true,1,(qF s (fQ l) p k).map aJ⟩/\n0<o.bj/\o.bj<nx):=fun x1 x2 x3=>⟨_,ah,k+1,rfl,ah,(by rw[x1,aK ah]),x2,x3⟩
  have hd:jm (k:Int) 0 3=true:=jn ah
  have eA:=rD p k hd hx hy
  have tf:=CD l (cj p k) hA.1.Kw (by have:=hA.1.wQ;omega)
  rw[ae]at eA tf
  have gU:((qF s (fQ l) p k).map aJ).length=k:=by rw[List.length_map,El]
  have tg:k<=16777215:=ah
  have Oo:=JE s (fQ l) p k
  have vz:(qF s (fQ l) p (k+1)).map aJ=(qF s (fQ l) p k).map aJ++[[.int .i64 (qE s (fQ l) p k)]]:=by rw[Oo,List.map_append];rfl
  by_cases h0:fQ l (cj p k)<0
  ·have rz:qE s (fQ l) p k=0:=if_pos h0
   rw[rz]at vz
   (have zF:=tw @rY (tw @ag0 (tw @a0 (tw @a1 (tw @a3 (tw @a6 (tw @hk (tw @a9 (tw @ag (tw @vo (tw @vb (tw @ob (tw @gU (tw @tg (tw @h0 @ae.eq_1))))))))))))));(repeat(first|((repeat(revert N;apply Pn.out));refine wk zF ?_;(repeat(apply Pn.mk;intro N Z)))|((try apply Or.inl);refine⟨_,ay.x (eA) (sd zF),?_⟩;apply Z;clear Z N)|((try apply Or.inl);refine⟨_,ay.x (tf) (sd zF),?_⟩;apply Z;clear Z N)));try clear zF)
   refine dD ?_ ?_ (by(try dsimp only);exact⟨ah,⟨86007002,st_a.next+1+1+1⟩,sl @Nat.zero_add,by rw[vz];simp only[go_sem, ↓reduceIte,Nat.reduceEqDiff,Nat.reduceAdd,Nat.reduceSub,Nat.reduceLeDiff,reduceCtorEq]<;>rfl,aQ,aQ⟩)
   all_goals simp only[go_sem, ↓reduceIte,Nat.reduceEqDiff,Nat.reduceAdd,Nat.reduceSub,Nat.reduceLeDiff,reduceCtorEq,rY,ag0,a0,a1,a3,a6,vb,ob,ae]
  ·have rz:qE s (fQ l) p k=dZ (ea s (fQ l (cj p k))) (lX k):=if_neg h0
   rw[rz]at vz
   obtain⟨b0,b1,b2⟩:=lG (WG _ (by omega:0<=fQ l (cj p k)))
   have s2:=mC (hF.qV _ b2) (tD hd)
   have d1:=(eT (tD hd)).1
   have eS:=yl k hd
   (have zF:=tw @rY (tw @ag0 (tw @a0 (tw @a1 (tw @a3 (tw @a6 (tw @hk (tw @a9 (tw @ag (tw @vo (tw @vb (tw @ob (tw @gU (tw @tg (tw @h0 (tw @b0 (tw @b1 (tw @s2 (tw @d1 (tw @ae.eq_1 (tw @aj.eq_1 @dw.eq_1))))))))))))))))))));(repeat(first|((repeat(revert N;apply Pn.out));refine wk zF ?_;(repeat(apply Pn.mk;intro N Z)))|((try apply Or.inl);refine⟨_,ay.x (eA) (sd zF),?_⟩;apply Z;clear Z N)|((try apply Or.inl);refine⟨_,ay.x (tf) (sd zF),?_⟩;apply Z;clear Z N)|((try apply Or.inl);refine⟨_,ay.x (eS) (sd zF),?_⟩;apply Z;clear Z N)));try clear zF)
   refine dD ?_ ?_ (by(try dsimp only);exact⟨ah,⟨86008014,st_a.next+1+1+1⟩,sl @Nat.zero_add,by rw[vz];simp only[go_sem, ↓reduceIte,Nat.reduceEqDiff,Nat.reduceAdd,Nat.reduceSub,Nat.reduceLeDiff,reduceCtorEq]<;>rfl,aQ,aQ⟩)
   all_goals simp only[go_sem, ↓reduceIte,Nat.reduceEqDiff,Nat.reduceAdd,Nat.reduceSub,Nat.reduceLeDiff,reduceCtorEq,rY,ag0,a0,a1,a3,a6,vb,ob,ae]
 ·have hk4:k=4:=ah
  subst hk4
  (try((repeat(revert N;apply Pn.out));refine wk (tw @rY (tw @ag0 (tw @a0 (tw @a1 (tw @a3 (tw @a6 (tw @hk @aj.eq_1))))))) ?_;(repeat(apply Pn.mk;intro N Z))))
  refine bz (fun n env st=>∃i:Nat,n=(s.au.length)-i/\i<=(s.au.length)/\env 13=.int .i64 (i:Int)/\(st_a.next<=st.next/\st.get o=some ⟨true,1,(qF s (fQ l) p 4).map aJ⟩/\∃u:Id,env 12=.own u 0 (lS (B9 s l T) p i).length/\st.get u=some ⟨true,1,(lS (B9 s l T) p i).map aJ⟩/\st_a.next<=u.bj/\u.bj<st.next)) (s.au.length) ⟨0,ah,ah,sl (tw @rY (tw @ag0 (tw @a0 (tw @a1 (tw @a3 (tw @a6 (tw @a9 @aj.eq_1))))))),by(try dsimp only);exact⟨ah,sd (tw @vo @ag),⟨86009000,st_a.next+1⟩,sl @Nat.zero_add,sl @Nat.zero_add,aQ,aQ⟩⟩ ?_
  rintro n_b env_b st_b ⟨i,rfl,ble,yv,bI0⟩ fo
  have b0:=fo 0 (by kernel_rfl);have b1:=fo 1 (by kernel_rfl);have b3:=fo 3 (by kernel_rfl);have b9:=fo 9 (by kernel_rfl)
  simp only[go_sem, ↓reduceIte,Nat.reduceEqDiff,Nat.reduceAdd,Nat.reduceSub,Nat.reduceLeDiff,reduceCtorEq,rY,ag0,a0,a1,a3,a6,a9,aj]at b0 b1 b3 b9
  clear fo
  obtain⟨bn,bo,u,FY,bu,bum,bux⟩:=bI0
  have vob:=dh (i:=o) (n:=st_b.next) ah
  have vub:=dh bux
  have Ez:=rq (B9 s l T) p i
  have ou:=dP (a:=o) (b:=u) ah
  by_cases hi:(i:Int)<(s.au.length:Int)
  ·have fN:∀{e:Env} {gg:Rows} {nx:Nat},(e 13=.int .i64 (IntKind.i64.wrap ((i:Int)+1)))->(st_a.next<=nx/\gg o=some ⟨true,1,(qF s (fQ l) p 4).map aJ⟩/\∃u:Id,e 12=.own u 0 (lS (B9 s l T) p (i+1)).length/\gg u=some ⟨true,1,(lS (B9 s l T) p (i+1)).map aJ⟩/\st_a.next<=u.bj/\u.bj<nx)->∃m0,m0<(s.au.length)-i/\∃i:Nat,m0=(s.au.length)-i/\i<=(s.au.length)/\e 13=.int .i64 (i:Int)/\(st_a.next<=nx/\gg o=some ⟨true,1,(qF s (fQ l) p 4).map aJ⟩/\∃u:Id,e 12=.own u 0 (lS (B9 s l T) p i).length/\gg u=some ⟨true,1,(lS (B9 s l T) p i).map aJ⟩/\st_a.next<=u.bj/\u.bj<nx):=fun x1 x2=>⟨_,ah,i+1,rfl,ah,(by rw[x1,aK ah]),x2⟩
   have fZ:i<s.au.length:=ah
   have PA:=FO fZ
   obtain⟨t0,t1,t2⟩:=lG PA
   rw[Int.toNat_natCast]at t1
   have yS:dp s (fQ l) p i 0=0:=rfl
   (try((repeat(revert N;apply Pn.out));refine wk (tw @yv (tw @b0 (tw @b1 (tw @b3 (tw @b9 @hi))))) ?_;(repeat(apply Pn.mk;intro N Z))))
   refine bz (fun n env st=>∃j:Nat,n=(4)-j/\j<=(4)/\env 15=.int .i64 (j:Int)/\env 14=.int .i64 (dp s (fQ l) p i j)/\(st_b.next<=st.next/\∀x:Id,x.bj<st_b.next->st.get x=st_b.get x)) (4) ⟨0,ah,ah,sl (tw @yv (tw @b0 (tw @b1 (tw @b3 (tw @b9 (tw @a9 (tw @yS @aj.eq_1))))))),sl (tw @yv (tw @b0 (tw @b1 (tw @b3 (tw @b9 (tw @a9 (tw @yS @aj.eq_1))))))),by(try dsimp only);exact⟨ah,fun x hx=>by
    have h1:=dh hx
    simp only[go_sem, ↓reduceIte,Nat.reduceEqDiff,Nat.reduceAdd,Nat.reduceSub,Nat.reduceLeDiff,reduceCtorEq,h1]⟩⟩ ?_
   rintro n_c env_c st_c ⟨j,rfl,cle,c15,c14,cI0⟩ il
   have c0:=il 0 (by kernel_rfl);have c3:=il 3 (by kernel_rfl);have c9:=il 9 (by kernel_rfl);have qt:=il 12 (by kernel_rfl);have rj:=il 13 (by kernel_rfl)
   simp only[go_sem, ↓reduceIte,Nat.reduceEqDiff,Nat.reduceAdd,Nat.reduceSub,Nat.reduceLeDiff,reduceCtorEq,yv,b0,b1,b3,b9,a9,yS,aj]at c0 c3 c9 qt rj
   clear il
   obtain⟨cn,il⟩:=cI0
   have go:=(il o ah).trans bo
   have gu:=(il u bux).trans bu
   have Ya:=dh (i:=o) (n:=st_c.next) ah
   have vuc:=dh (i:=u) (n:=st_c.next) ah
   by_cases hj:(j:Int)<4
   ·have fJ:∀{e:Env} {gg:Rows} {nx:Nat},(e 15=.int .i64 (IntKind.i64.wrap ((j:Int)+1)))->(e 14=.int .i64 (dp s (fQ l) p i (j+1)))->(st_b.next<=nx/\∀x:Id,x.bj<st_b.next->gg x=st_b.get x)->∃m0,m0<(4)-j/\∃j:Nat,m0=(4)-j/\j<=(4)/\e 15=.int .i64 (j:Int)/\e 14=.int .i64 (dp s (fQ l) p i j)/\(st_b.next<=nx/\∀x:Id,x.bj<st_b.next->gg x=st_b.get x):=fun x1 x2 x3=>⟨_,ah,j+1,rfl,ah,(by rw[x1,aK ah]),x2,x3⟩
    have hdj:jm (j:Int) 0 3=true:=jn ah
    have VB:(j:Int)<((4:Nat):Int):=ah
    have s1:=mC (hF.qV _ t2) hdj
    rw[Int.toNat_natCast]at s1
    have W9:=LY (s:=s) (F:=fQ l) (p:=p) (k:=4) (d:=j) ah
    have vp:((qF s (fQ l) p 4).map aJ).length=4:=by rw[List.length_map,El]
    have eA:=Jw hF WG (p:=p) PA (d:=j) ah
    have gH:=jU hS (fQ l) p i (j+1)
    have Ph:=jU hS (fQ l) p i j
    have iZ:=O8 hF WG p (d:=j) ah
    have hss:=sK s (qE s (fQ l) p j) iZ.1 iZ.2
    rw[aj]at hss
    by_cases he:dZ (ea s i) j=qE s (fQ l) p j
    ·have Ct:decide (dZ (ea s i) j=qE s (fQ l) p j)=true:=decide_eq_true he
     rw[if_pos he]at eA
     have hw:IntKind.i64.wrap (dp s (fQ l) p i j+sD s (qE s (fQ l) p j))=dp s (fQ l) p i (j+1):=by rw[<-eA,cm ah]
     (have zF:=tw @c15 (tw @c14 (tw @c0 (tw @c3 (tw @c9 (tw @qt (tw @rj (tw @hj (tw @VB (tw @t1 (tw @s1 (tw @W9 (tw @go (tw @Ya (tw @Ct (tw @aj.eq_1 @dw.eq_1)))))))))))))));(repeat(first|((repeat(revert N;apply Pn.out));refine wk zF ?_;(repeat(apply Pn.mk;intro N Z)))|((try apply Or.inl);refine⟨_,ay.x (hss) (sd zF),?_⟩;apply Z;clear Z N)));try clear zF)
     refine fJ ?_ ?_ (by(try dsimp only);exact⟨ah,fun x hx=>by exact il x hx⟩)
     all_goals simp only[go_sem, ↓reduceIte,Nat.reduceEqDiff,Nat.reduceAdd,Nat.reduceSub,Nat.reduceLeDiff,reduceCtorEq,c15,c14,c0,c3,c9,qt,rj,hw,aj]
    ·have Ct:decide (dZ (ea s i) j=qE s (fQ l) p j)=false:=decide_eq_false he
     rw[if_neg he]at eA
     (try((repeat(revert N;apply Pn.out));refine wk (tw @c15 (tw @c14 (tw @c0 (tw @c3 (tw @c9 (tw @qt (tw @rj (tw @hj (tw @VB (tw @t1 (tw @s1 (tw @W9 (tw @go (tw @Ya (tw @Ct (tw @aj.eq_1 @dw.eq_1)))))))))))))))) ?_;(repeat(apply Pn.mk;intro N Z))))
     refine fJ ?_ ?_ (by(try dsimp only);exact⟨ah,fun x hx=>by exact il x hx⟩)
     all_goals simp only[go_sem, ↓reduceIte,Nat.reduceEqDiff,Nat.reduceAdd,Nat.reduceSub,Nat.reduceLeDiff,reduceCtorEq,c15,c14,c0,c3,c9,qt,rj,eA,aj]
   ·have hj4:j=4:=ah
    subst hj4
    have jz:dp s (fQ l) p i 4=mb s (fQ l) p i:=rfl
    have uA:lS (B9 s l T) p (i+1)=if B9 s l T p i=true then lS (B9 s l T) p i++[(i:Int)]else lS (B9 s l T) p i:=rfl
    have qa:B9 s l T p i=decide (T<=mb s (fQ l) p i):=rfl
    generalize lS (B9 s l T) p i=L at uA FY bu Ez gu
    cases hb:B9 s l T p i
    ·rw[hb,if_neg (by simp)]at uA
     rw[hb]at qa
     (try((repeat(revert N;apply Pn.out));refine wk (tw @c15 (tw @c14 (tw @c0 (tw @c3 (tw @c9 (tw @qt (tw @rj (tw @hj (tw @jz @qa.symm))))))))) ?_;(repeat(apply Pn.mk;intro N Z))))
     exact fN (sd (tw @yv (tw @b0 (tw @b1 (tw @b3 (tw @b9 (tw @c15 (tw @c14 (tw @c0 (tw @c3 (tw @c9 (tw @qt (tw @rj @aj.eq_1))))))))))))) (by(try dsimp only);exact⟨ah,go,⟨u,by rw[uA];simp only[go_sem, ↓reduceIte,Nat.reduceEqDiff,Nat.reduceAdd,Nat.reduceSub,Nat.reduceLeDiff,reduceCtorEq,c15,c14,c0,c3,c9,qt,rj,FY],by rw[uA];simp only[go_sem, ↓reduceIte,Nat.reduceEqDiff,Nat.reduceAdd,Nat.reduceSub,Nat.reduceLeDiff,reduceCtorEq,gu],ah,aQ⟩⟩)
    ·rw[hb,if_pos rfl]at uA
     rw[hb]at qa
     have gU:(L.map aJ).length=L.length:=by simp
     have YF:L.length<=16777215:=ah
     have uw:(L++[(i:Int)]).length=L.length+1:=by simp
     have lV:(L++[(i:Int)]).map aJ=L.map aJ++[[.int .i64 i]]:=by rw[List.map_append];rfl
     (try((repeat(revert N;apply Pn.out));refine wk (tw @c15 (tw @c14 (tw @c0 (tw @c3 (tw @c9 (tw @qt (tw @rj (tw @hj (tw @jz (tw @qa.symm (tw @FY (tw @gu (tw @vuc (tw @gU (tw @YF (tw @Ya @ou)))))))))))))))) ?_;(repeat(apply Pn.mk;intro N Z))))
     exact fN (sd (tw @yv (tw @b0 (tw @b1 (tw @b3 (tw @b9 (tw @c15 (tw @c14 (tw @c0 (tw @c3 (tw @c9 (tw @qt (tw @rj @aj.eq_1))))))))))))) (by(try dsimp only);exact⟨ah,sd (tw @go (tw @Ya @ou)),⟨⟨86020003,st_c.next+1+1⟩,by rw[uA,uw];simp only[go_sem, ↓reduceIte,Nat.reduceEqDiff,Nat.reduceAdd,Nat.reduceSub,Nat.reduceLeDiff,reduceCtorEq]<;>rfl,by rw[uA,lV];simp only[go_sem, ↓reduceIte,Nat.reduceEqDiff,Nat.reduceAdd,Nat.reduceSub,Nat.reduceLeDiff,reduceCtorEq]<;>rfl,aQ,aQ⟩⟩)
  ·have lU:i=s.au.length:=ah
   subst lU
   (try((repeat(revert N;apply Pn.out));refine wk (tw @yv (tw @b0 (tw @b1 (tw @b3 (tw @b9 (tw @hi @FY)))))) ?_;(repeat(apply Pn.mk;intro N Z))))
   exact jX (.inl rfl) (vs:=[.own u 0 (lS (B9 s l T) p s.au.length).length]) (sd @FY) (by
    simp only[fw]
    exact eP (e:=aJ) (n:=5) bu rfl fun x=>by simp[aJ,bc,bY,dG])
noncomputable def jb (s:aA) (ts:List aa) (q:aq):List Int:=lS (dX s ts) q s.aI.au.length
def jx (σ:az) (O:Id) (s:aA) (ts:List aa) (A:aq->Prop) (g:Rows) (n:Nat):Prop:=σ.next<=n/\(∀x:Id,x.bj<σ.next->x≠O->g x=σ.get x)/\∃es:List En,g O=some ⟨true,mP.mY,es.map pC⟩/\xN g n es (jb s ts) A
theorem jx.Si {σ:az} {g:Rows} {n:Nat} {c T O:Id} {s s':aA} {ts OG:List aa} {A:aq->Prop} (h:DE σ.get σ.next c T O s ts) (hc:c≠O) (hT:T≠O) (k:jx σ O s' OG A g n):DE g n c T O s ts:=
 h.frame k.1 (k.2.1 _ h.cv hc) (k.2.1 _ h.tv hT)
theorem jx.frame {a:az} {O:Id} {s:aA} {ts:List aa} {A:aq->Prop} {g g':Rows} {n n' m:Nat} (h:jx a O s ts A g n) (ha:n<=m) (ho:O.bj<m) (hn:n<=n') (hf:∀x:Id,x.bj<m->g' x=g x):jx a O s ts A g' n':=by
 refine⟨Nat.le_trans h.1 hn,fun x hx hO=>(hf x (Nat.lt_of_lt_of_le hx (Nat.le_trans h.1 ha))).trans (h.2.1 x hx hO),?_⟩
 obtain⟨es,h1,h2⟩:=h.2.2
 exact⟨es,(hf O ho).trans h1,h2.frame hn fun x hx _=>hf x (Nat.lt_of_lt_of_le hx ha)⟩
theorem Hz:¬mP.mY=1:=by decide
theorem jx.put {a:az} {O:Id} {s:aA} {ts:List aa} {A A':aq->Prop} {g g':Rows} {n n':Nat} {es:List En} (h:jx a O s ts A g n) (hg:g O=some ⟨true,mP.mY,es.map pC⟩) (hw:xN g n es (jb s ts) A) (hn:n<=n') (hf:∀x:Id,x.bj<n->x≠O->g' x=g x) {q:aq} {o:Id} (h0:jb s ts q≠[]) (ho:o.bj<n') (xH:g' o=some ⟨true,1,(jb s ts q).map aJ⟩) (hO:g' O=some ⟨true,mP.mY,(o9 es q (.own o 0 (jb s ts q).length)).map pC⟩) (hA:∀p,A' p->A p∨p=q):jx a O s ts A' g' n':=
 ⟨Nat.le_trans h.1 hn,fun x hx PJ=>(hf x (Nat.lt_of_lt_of_le hx h.1) PJ).trans (h.2.1 x hx PJ),_,hO,((hw.frame hn fun x hx hr=>hf x hx (by
  rintro rfl
  obtain⟨k,r,hr⟩:=hr
  rw[hg]at hr
  injection hr with hr
  injection hr with _ hr _
  exact Hz hr)).put h0 ho xH).mono hA⟩
theorem jx.cut {a:az} {O:Id} {s:aA} {ts:List aa} {A A':aq->Prop} {g g':Rows} {n n':Nat} {es:List En} (h:jx a O s ts A g n) (hg:g O=some ⟨true,mP.mY,es.map pC⟩) (hw:xN g n es (jb s ts) A) (hn:n<=n') (hf:∀x:Id,x.bj<n->x≠O->g' x=g x) {q:aq} (h0:jb s ts q=[]) (hO:g' O=some ⟨true,mP.mY,(uc es q).map pC⟩) (hA:∀p,A' p->A p∨p=q):jx a O s ts A' g' n':=
 ⟨Nat.le_trans h.1 hn,fun x hx PJ=>(hf x (Nat.lt_of_lt_of_le hx h.1) PJ).trans (h.2.1 x hx PJ),_,hO,((hw.frame hn fun x hx hr=>hf x hx (by
  rintro rfl
  obtain⟨k,r,hr⟩:=hr
  rw[hg]at hr
  injection hr with hr
  injection hr with _ hr _
  exact Hz hr)).cut h0).mono hA⟩
theorem jx.ow {a:az} {O:Id} {s:aA} {ts:List aa} {A:aq->Prop} {g:Rows} {n:Nat} (h:jx a O s ts A g n):QX a O g n:=by
 obtain⟨h1,h2,es,h3,_⟩:=h
 refine⟨h1,h2,_,h3,fun r hr=>?_⟩
 obtain⟨e,_,rfl⟩:=List.mem_map.1 hr
 exact⟨_,_,_,rfl⟩
theorem CJ {σ:az} {c T O:Id} {s:aA} {ts:List aa} (h:DE σ.get σ.next c T O s ts) (hc:c≠O) (hT:T≠O) (A:aq->Prop) (hO:∃es:List En,σ.get O=some ⟨true,mP.mY,es.map pC⟩/\xN σ.get σ.next es (jb s ts) A) (hS:iK s.aI) (hF:∀q,0<=fQ ts q->eY s.aI (fQ ts q)=true) (p:aq) (hx:iB p.fC) (hy:iB p.fu):
  Call Tryz.prog 81 [.ptr c 0 0,.agg (ae p)] σ (fun r σ'=>r=.gM []/\jx σ O s ts (fun q=>A q∨∃k:Nat,k<4/\q=cj p k) σ'.get σ'.next):=by
 refine hZ fR rfl fun gZ=>?_
 clear gZ
 have F8:=hS.uY
 have h0:jx σ O s ts (fun q=>A q∨∃k:Nat,k<0/\q=cj p k) σ.get σ.next:=⟨Nat.le_refl _,fun _ _ _=>rfl,by
  obtain⟨es,h1,h2⟩:=hO
  exact⟨es,h1,h2.mono fun q hq=>hq.elim id fun⟨k,hk,_⟩=>absurd hk (Nat.not_lt_zero k)⟩⟩
 (try((repeat(revert N;apply Pn.out));refine wk @ae.eq_1 ?_;(repeat(apply Pn.mk;intro N Z))))
 refine bz (fun n env st=>∃k:Nat,n=(4)-k/\k<=(4)/\env 8=.int .i64 (k:Int)/\st.get ⟨81000000,σ.next⟩=some ⟨true,2,[ae p]⟩/\(σ.next<st.next/\jx σ O s ts (fun q=>A q∨∃j:Nat,j<k/\q=cj p j) st.get st.next)) (4) ⟨0,ah,ah,sl @ae.eq_1,sl @ae.eq_1,⟨aQ,h0.frame (Nat.le_refl _) h.ov aQ (fun x hx=>by
  have:=dh hx
  simp only[go_sem, ↓reduceIte,Nat.reduceEqDiff,Nat.reduceAdd,Nat.reduceSub,Nat.reduceLeDiff,reduceCtorEq,this])⟩⟩ ?_
 rintro n_a env_a st_a ⟨k,rfl,ale,a8,ag0,nh⟩ eE
 have a0:=eE 0 (by kernel_rfl);have a3:=eE 3 (by kernel_rfl)
 simp only[go_sem, ↓reduceIte,Nat.reduceEqDiff,Nat.reduceAdd,Nat.reduceSub,Nat.reduceLeDiff,reduceCtorEq,ae]at a0 a3
 clear eE
 obtain⟨an,ak⟩:=nh
 have ha:=ak.Si h hc hT
 by_cases hk:(k:Int)<4
 ·have dD:∀{e:Env} {gg:Rows} {nx:Nat},(e 8=.int .i64 (IntKind.i64.wrap ((k:Int)+1)))->(gg ⟨81000000,σ.next⟩=some ⟨true,2,[ae p]⟩)->(σ.next<nx/\jx σ O s ts (fun q=>A q∨∃j:Nat,j<(k+1)/\q=cj p j) gg nx)->∃m0,m0<(4)-k/\∃k:Nat,m0=(4)-k/\k<=(4)/\e 8=.int .i64 (k:Int)/\gg ⟨81000000,σ.next⟩=some ⟨true,2,[ae p]⟩/\(σ.next<nx/\jx σ O s ts (fun q=>A q∨∃j:Nat,j<k/\q=cj p j) gg nx):=fun x1 x2 x3=>⟨_,ah,k+1,rfl,ah,(by rw[x1,aK ah]),x2,x3⟩
  have eA:=HH p k (jn ah) hx hy
  obtain⟨b,h1⟩:=ha.row
  have v1:=dh ha.cv
  (have zF:=tw @a8 (tw @ag0 (tw @a0 (tw @a3 (tw @hk (tw @h1 (tw @v1 @ae.eq_1))))));(repeat(first|((repeat(revert N;apply Pn.out));refine wk zF ?_;(repeat(apply Pn.mk;intro N Z)))|((try apply Or.inl);refine⟨_,ay.x (eA) (sd zF),?_⟩;apply Z;clear Z N)));try clear zF)
  refine bz (fun n env st=>∃t:Nat,n=(s.aI.au.length)-t/\t<=(s.aI.au.length)/\env 21=.int .i64 (t:Int)/\st.get ⟨81000000,σ.next⟩=some ⟨true,2,[ae p]⟩/\st.get ⟨81004003,st_a.next+1+1⟩=some ⟨true,2,[ae (cj p k)]⟩/\(st_a.next+3<=st.next/\jx σ O s ts (fun q=>A q∨∃j:Nat,j<k/\q=cj p j) st.get st_a.next/\((lS (dX s ts) (cj p k) t=[]/\env 6=.br)∨∃o:Id,env 6=.own o 0 (lS (dX s ts) (cj p k) t).length/\st.get o=some ⟨true,1,(lS (dX s ts) (cj p k) t).map aJ⟩/\0<(lS (dX s ts) (cj p k) t).length/\st_a.next+3<=o.bj/\o.bj<st.next))) (s.aI.au.length) ⟨0,ah,ah,sl (tw @a8 (tw @ag0 (tw @a0 (tw @a3 @ae.eq_1)))),sl (tw @a8 (tw @ag0 (tw @a0 (tw @a3 @ae.eq_1)))),sl (tw @a8 (tw @ag0 (tw @a0 (tw @a3 @ae.eq_1)))),⟨aQ,ak.frame (Nat.le_refl _) ha.ov (Nat.le_refl _) (fun x hx=>(by
   have:=dh hx
   simp only[go_sem, ↓reduceIte,Nat.reduceEqDiff,Nat.reduceAdd,Nat.reduceSub,Nat.reduceLeDiff,reduceCtorEq,this])),.inl ⟨rfl,sd @Nat.zero_add⟩⟩⟩ ?_
  rintro n_b env_b st_b ⟨t,rfl,ble,b21,bg0,bg1,bI0⟩ fo
  have b0:=fo 0 (by kernel_rfl);have b3:=fo 3 (by kernel_rfl);have b5:=fo 5 (by kernel_rfl);have b8:=fo 8 (by kernel_rfl);have KX:=fo 20 (by kernel_rfl)
  simp only[go_sem, ↓reduceIte,Nat.reduceEqDiff,Nat.reduceAdd,Nat.reduceSub,Nat.reduceLeDiff,reduceCtorEq,a8,ag0,a0,a3,ae]at b0 b3 b5 b8 KX
  clear fo
  obtain⟨bn,bk,b6⟩:=bI0
  have WM:DE st_b.get st_b.next c T O s ts:=(bk.Si h hc hT).frame ah rfl rfl
  obtain⟨b2,h2⟩:=WM.row
  have v2:=dh WM.cv
  have vt:=dh (i:=⟨81000000,σ.next⟩) (n:=st_b.next) aQ
  have vq:=dh (i:=⟨81004003,st_a.next+1+1⟩) (n:=st_b.next) aQ
  by_cases ht:(t:Int)<(s.aI.au.length:Int)
  ·have fN:∀{e:Env} {gg:Rows} {nx:Nat},(e 21=.int .i64 (IntKind.i64.wrap ((t:Int)+1)))->(gg ⟨81000000,σ.next⟩=some ⟨true,2,[ae p]⟩)->(gg ⟨81004003,st_a.next+1+1⟩=some ⟨true,2,[ae (cj p k)]⟩)->(st_a.next+3<=nx/\jx σ O s ts (fun q=>A q∨∃j:Nat,j<k/\q=cj p j) gg st_a.next/\((lS (dX s ts) (cj p k) (t+1)=[]/\e 6=.br)∨∃o:Id,e 6=.own o 0 (lS (dX s ts) (cj p k) (t+1)).length/\gg o=some ⟨true,1,(lS (dX s ts) (cj p k) (t+1)).map aJ⟩/\0<(lS (dX s ts) (cj p k) (t+1)).length/\st_a.next+3<=o.bj/\o.bj<nx))->∃m0,m0<(s.aI.au.length)-t/\∃t:Nat,m0=(s.aI.au.length)-t/\t<=(s.aI.au.length)/\e 21=.int .i64 (t:Int)/\gg ⟨81000000,σ.next⟩=some ⟨true,2,[ae p]⟩/\gg ⟨81004003,st_a.next+1+1⟩=some ⟨true,2,[ae (cj p k)]⟩/\(st_a.next+3<=nx/\jx σ O s ts (fun q=>A q∨∃j:Nat,j<k/\q=cj p j) gg st_a.next/\((lS (dX s ts) (cj p k) t=[]/\e 6=.br)∨∃o:Id,e 6=.own o 0 (lS (dX s ts) (cj p k) t).length/\gg o=some ⟨true,1,(lS (dX s ts) (cj p k) t).map aJ⟩/\0<(lS (dX s ts) (cj p k) t).length/\st_a.next+3<=o.bj/\o.bj<nx)):=fun x1 x2 x3 x4=>⟨_,ah,t+1,rfl,ah,(by rw[x1,aK ah]),x2,x3,x4⟩
   have Tm:t<s.aI.au.length:=ah
   have Ez:=rq (dX s ts) (cj p k) t
   have uA:lS (dX s ts) (cj p k) (t+1)=if dX s ts (cj p k) t=true then lS (dX s ts) (cj p k) t++[(t:Int)]else lS (dX s ts) (cj p k) t:=rfl
   generalize lS (dX s ts) (cj p k) t=L at b6 Ez uA
   (try((repeat(revert N;apply Pn.out));refine wk (tw @b21 (tw @bg0 (tw @bg1 (tw @b0 (tw @b3 (tw @b5 (tw @b8 (tw @KX (tw @ht (tw @h2 (tw @v2 (tw @vt (tw @vq @ae.eq_1))))))))))))) ?_;(repeat(apply Pn.mk;intro N Z))))
   refine .inl ⟨_,LQ (WM.frame aQ (sd @v2) (by(have:=dh WM.tv;simp only[go_sem, ↓reduceIte,Nat.reduceEqDiff,Nat.reduceAdd,Nat.reduceSub,Nat.reduceLeDiff,reduceCtorEq,this]))) hS hF (cj p k) t (FO Tm),?_⟩
   apply Z
   clear Z N
   cases hb:dX s ts (cj p k) t
   ·rw[hb,if_neg (by simp)]at uA
    (try((repeat(revert N;apply Pn.out));refine wk (tw @b21 (tw @bg0 (tw @bg1 (tw @b0 (tw @b3 (tw @b5 (tw @b8 (tw @KX @hb)))))))) ?_;(repeat(apply Pn.mk;intro N Z))))
    refine fN ?_ ?_ ?_ (by(try dsimp only);exact⟨ah,bk.frame (Nat.le_refl _) ha.ov (Nat.le_refl _) (fun x hx=>by
      have h1:=dh (i:=x) (n:=st_b.next) ah
      simp only[go_sem, ↓reduceIte,Nat.reduceEqDiff,Nat.reduceAdd,Nat.reduceSub,Nat.reduceLeDiff,reduceCtorEq,h1]),by
     rw[uA]
     rcases b6 with⟨hL,h⟩|⟨o,h1,h2,h3,h4,h5⟩
     ·exact .inl ⟨hL,sd @h⟩
     ·have h8:=dh h5
      exact .inr ⟨o,sd @h1,sd (tw @h2 @h8),h3,h4,ah⟩⟩)
    all_goals simp only[go_sem, ↓reduceIte,Nat.reduceEqDiff,Nat.reduceAdd,Nat.reduceSub,Nat.reduceLeDiff,reduceCtorEq,b21,bg0,bg1,b0,b3,b5,b8,KX,ae,vt,vq]
   ·rw[hb,if_pos rfl]at uA
    have uw:(L++[(t:Int)]).length=L.length+1:=by simp
    have lV:(L++[(t:Int)]).map aJ=L.map aJ++[[.int .i64 t]]:=by rw[List.map_append];rfl
    rcases b6 with⟨hL,b6⟩|⟨o,b6,bo,o4,o6,o7⟩
    ·subst hL
     (try((repeat(revert N;apply Pn.out));refine wk (tw @b21 (tw @bg0 (tw @bg1 (tw @b0 (tw @b3 (tw @b5 (tw @b8 (tw @KX (tw @b6 @hb))))))))) ?_;(repeat(apply Pn.mk;intro N Z))))
     refine fN ?_ ?_ ?_ (by(try dsimp only);exact⟨ah,bk.frame (Nat.le_refl _) ha.ov (Nat.le_refl _) (fun x hx=>by
      have h1:=dh (i:=x) (n:=st_b.next) ah
      simp only[go_sem, ↓reduceIte,Nat.reduceEqDiff,Nat.reduceAdd,Nat.reduceSub,Nat.reduceLeDiff,reduceCtorEq,h1]),.inr ⟨⟨81010003,st_b.next+1+1+1⟩,by rw[uA,uw];simp only[go_sem, ↓reduceIte,Nat.reduceEqDiff,Nat.reduceAdd,Nat.reduceSub,Nat.reduceLeDiff,reduceCtorEq]<;>rfl,by rw[uA,lV];simp only[go_sem, ↓reduceIte,Nat.reduceEqDiff,Nat.reduceAdd,Nat.reduceSub,Nat.reduceLeDiff,reduceCtorEq]<;>rfl,by rw[uA,uw];omega,aQ,aQ⟩⟩)
     all_goals simp only[go_sem, ↓reduceIte,Nat.reduceEqDiff,Nat.reduceAdd,Nat.reduceSub,Nat.reduceLeDiff,reduceCtorEq,b21,bg0,bg1,b0,b3,b5,b8,KX,ae,vt,vq]
    ·have e1:L.length<=16777215:=ah
     have Dt:(L.map aJ).length=L.length:=by simp
     have vo:=dh o7
     have vto:=dP (a:=⟨81000000,σ.next⟩) (b:=o) aQ
     have vqo:=dP (a:=⟨81004003,st_a.next+1+1⟩) (b:=o) aQ
     (try((repeat(revert N;apply Pn.out));refine wk (tw @b21 (tw @bg0 (tw @bg1 (tw @b0 (tw @b3 (tw @b5 (tw @b8 (tw @KX (tw @b6 (tw @bo (tw @hb (tw @e1 (tw @Dt @vo))))))))))))) ?_;(repeat(apply Pn.mk;intro N Z))))
     refine fN ?_ ?_ ?_ (by(try dsimp only);exact⟨ah,bk.frame (Nat.le_refl _) ha.ov (Nat.le_refl _) (fun x hx=>by
      have h1:=dh (i:=x) (n:=st_b.next) ah
      have h2:=dP (a:=x) (b:=o) ah
      simp only[go_sem, ↓reduceIte,Nat.reduceEqDiff,Nat.reduceAdd,Nat.reduceSub,Nat.reduceLeDiff,reduceCtorEq,h1,h2]),.inr ⟨⟨81010003,st_b.next+1+1+1⟩,by rw[uA,uw];simp only[go_sem, ↓reduceIte,Nat.reduceEqDiff,Nat.reduceAdd,Nat.reduceSub,Nat.reduceLeDiff,reduceCtorEq]<;>rfl,by rw[uA,lV];simp only[go_sem, ↓reduceIte,Nat.reduceEqDiff,Nat.reduceAdd,Nat.reduceSub,Nat.reduceLeDiff,reduceCtorEq]<;>rfl,by rw[uA,uw];omega,aQ,aQ⟩⟩)
     all_goals simp only[go_sem, ↓reduceIte,Nat.reduceEqDiff,Nat.reduceAdd,Nat.reduceSub,Nat.reduceLeDiff,reduceCtorEq,b21,bg0,bg1,b0,b3,b5,b8,KX,ae,vt,vq,vto,vqo]
  ·obtain⟨es,hg,Ro⟩:=bk.2.2
   have vo:=dh WM.ov
   obtain⟨fi,GX,uy,SP,_,_⟩:=By (cj p k) es
   unfold dQ at uy
   unfold dU at SP
   have hq:((⟨81000000,σ.next⟩:Id)=O)=False:=(dP (a:=O) (b:=⟨81000000,σ.next⟩) (by have:=h.ov;(try dsimp only);omega)).2
   have htt:t=s.aI.au.length:=ah
   subst htt
   have wc:lS (dX s ts) (cj p k) s.aI.au.length=jb s ts (cj p k):=rfl
   rw[wc]at b6
   have hAk:∀q,(A q∨∃j:Nat,j<k+1/\q=cj p j)->(A q∨∃j:Nat,j<k/\q=cj p j)∨q=cj p k:=fun q hq=>by
    rcases hq with hq|⟨j,hj,hq⟩
    ·exact .inl (.inl hq)
    ·rcases Nat.lt_or_ge j k with h|h
     ·exact .inl (.inr ⟨j,h,hq⟩)
     ·exact .inr (by rw[hq,show j=k by omega])
   rcases b6 with⟨hL,b6⟩|⟨o,b6,bo,o4,o6,o7⟩
   ·have d0:decide ((0:Int)<((0:Nat):Int))=false:=rfl
    (try((repeat(revert N;apply Pn.out));refine wk (tw @b21 (tw @bg0 (tw @bg1 (tw @b0 (tw @b3 (tw @b5 (tw @b8 (tw @KX (tw @b6 (tw @ht (tw @h2 (tw @v2 (tw @vt (tw @vq (tw @vo (tw @hg (tw @GX (tw @SP (tw @ae.eq_1 @d0))))))))))))))))))) ?_;(repeat(apply Pn.mk;intro N Z))))
    refine dD ?_ ?_ (by(try dsimp only);exact⟨ah,bk.cut hg Ro ah (fun x hx PJ=>by
     have h1:=dh (i:=x) (n:=st_b.next) ah
     have h2:(x=O)=False:=eq_false PJ
     simp only[go_sem, ↓reduceIte,Nat.reduceEqDiff,Nat.reduceAdd,Nat.reduceSub,Nat.reduceLeDiff,reduceCtorEq,h1,h2]) hL (sl @SP) hAk⟩)
    all_goals simp only[go_sem, ↓reduceIte,Nat.reduceEqDiff,Nat.reduceAdd,Nat.reduceSub,Nat.reduceLeDiff,reduceCtorEq,a8,ag0,a0,a3,b21,bg0,bg1,b0,b3,b5,b8,KX,ae,vt,vo,hq]
   ·have ig:jb s ts (cj p k)≠[]:=fun e=>by rw[e]at o4;cases o4
    have d1:decide ((0:Int)<((jb s ts (cj p k)).length:Int))=true:=decide_eq_true ah
    have Iw:=uy (.own o 0 (jb s ts (cj p k)).length)
    have v8:=dh o7
    have oO:(o=O)=False:=eq_false (by
     rintro rfl
     rw[hg]at bo
     injection bo with bo
     injection bo with _ bo _
     exact Hz bo)
    (try((repeat(revert N;apply Pn.out));refine wk (tw @b21 (tw @bg0 (tw @bg1 (tw @b0 (tw @b3 (tw @b5 (tw @b8 (tw @KX (tw @b6 (tw @ht (tw @h2 (tw @v2 (tw @vt (tw @vq (tw @vo (tw @hg (tw @GX (tw @Iw (tw @ae.eq_1 @d1))))))))))))))))))) ?_;(repeat(apply Pn.mk;intro N Z))))
    refine dD ?_ ?_ (by(try dsimp only);exact⟨ah,bk.put hg Ro ah (fun x hx PJ=>by
     have h1:=dh (i:=x) (n:=st_b.next) ah
     have h2:(x=O)=False:=eq_false PJ
     simp only[go_sem, ↓reduceIte,Nat.reduceEqDiff,Nat.reduceAdd,Nat.reduceSub,Nat.reduceLeDiff,reduceCtorEq,h1,h2]) (o:=o) ig ah (sd (tw @oO (tw @v8 @bo))) (sl @Iw) hAk⟩)
    all_goals simp only[go_sem, ↓reduceIte,Nat.reduceEqDiff,Nat.reduceAdd,Nat.reduceSub,Nat.reduceLeDiff,reduceCtorEq,a8,ag0,a0,a3,b21,bg0,bg1,b0,b3,b5,b8,KX,ae,vt,vo,hq]
 ·have hk4:k=4:=ah
  subst hk4
  (try((repeat(revert N;apply Pn.out));refine wk (tw @a8 (tw @ag0 (tw @a0 (tw @a3 @hk)))) ?_;(repeat(apply Pn.mk;intro N Z))))
  exact fV (.inr rfl) (vs:=[]) rfl ⟨rfl,ak.frame (Nat.le_refl _) ha.ov aQ (fun x hx=>rfl)⟩
end Go.Proofs.YtiabgllilcfheaaGreat.V
