/- The reference's greatest flow, its cut, and the weakest of cuts. -/
import Derived.Test.YtoodopepphhpoaaGreatDoorTgC
import Derived.Test.YtoodopepphhpoaaGreatDoorTgB
import Derived.Shelf.SlSortCmp.WholeK
set_option linter.unusedVariables false
set_option linter.unusedSimpArgs false
set_option maxRecDepth 100000
set_option maxHeartbeats 16000000
namespace Go.Proofs.YtoodopepphhpoaaGreatDoor.V
open Go.RowKit
attribute [local irreducible] eu wpOps fB Call
def p7 (P:Program) (f:Nat) (args:List AV) (R:AV->Prop):Prop:=∀σ:aw,Call P f args ⟨V.ro σ.get,σ.next⟩ fun r0 σ'=>∃r',V.fz σ'.get 6 r0=some r'/\R r'
theorem HP {P:Program} {f:Nat} {args:List AV} {g:Rows} {n:Nat} {R:AV->Prop} (h:Sound P f args ⟨V.ro g,n⟩ fun r0 σ'=>∃r',V.fz σ'.get 6 r0=some r'/\R r'):Sound P f args ⟨g,n⟩ fun r σ'=>R r/\σ'=⟨g,n⟩:=by
 intro hs D ι w vs S U A
 refine(EY (g0:=g) (K:=R) h (fun _ _ h=>h) S U A).mono ?_
 rintro e w' ⟨r,D',u,rfl,hR,T,S',hr⟩
 exact⟨r,g,n,D',ι,u,rfl,⟨hR,rfl⟩,T,S',U,Nat.le_refl _,hr⟩
theorem p7.x {P:Program} (hm:P.follows .mixedOrders=true) {f:Nat} {args:List AV} {R:AV->Prop} (h:p7 P f args R) {σ:aw}:Call P f args σ fun r σ'=>R r/\σ'=σ:=
 fH (HP (iv hm (h σ)))
theorem p7.body {P:Program} {f:Nat} {args:List AV} {R:AV->Prop} {nt na:Nat} {body:VC} {res:List sV} (hf:Fg P f=some ⟨nt,na,body,res⟩) (ha:na=args.length) (h:(∀a∈args,fP a)->∀σ:aw,eu (Call P) body (oM res fun r0 σ'=>∃r',V.fz σ'.get 6 r0=some r'/\R r') (cw args) ⟨V.ro σ.get,σ.next⟩):p7 P f args R:=fun σ=>r7 hf ha fun hl=>h hl σ
theorem RB {g:Rows} {rows:List (List AV)} {xs:List (List Nat)} {ids:List Id} (n:Nat) (h:gr Xp g rows xs ids):fm g (n+2) rows=some (xs.map fun l=>[Wa l]):=by
 induction h with
 |nil=>rw[fm];rfl
 |cons h1 _ ih=>
  rename_i x _ _ _ _ _
  rcases h1 with⟨h0,h1,_⟩|⟨id,h1,h0,h2,_⟩
  ·subst h0 h1;rw[fm,ih,aj,ar,aM];rfl
  ·have hZ:x≠[]:=by rintro rfl;simp at h0
   subst h1
   rw[fm,ih,aj,ar,gm (e:=eN) (sz:=1) h2 rfl fun a=>fzN _ n a]
   simp[Wa,hZ]
theorem qO.fz0 {cnt:Nat} {bs:List PB} {f:Nat->Int} {X A F:Id} {g:Rows} {nx:Nat} (h:qO cnt bs f X A F g nx):V.fz g 5 (.ptr X 0 0)=some (.er (iC cnt bs f)):=by
 have hf:V.fz g 4 (.own F 0 bs.length)=some (.sl (eZ f bs.length)):=by
  rw[jY]
  simp only[h.f,if_true]
  rw[if_pos (by rw[eL];omega),List.drop_zero,List.take_of_length_le (by rw[eL];omega),Eu];rfl
 have ha:V.fz g 4 (.own A 0 cnt)=some (.sl (tx cnt bs bs.length)):=by
  obtain⟨rows,ids,h1,h2,_,_⟩:=h.a
  have hl:=h2.len
  rw[kP]at hl
  rw[jY]
  simp only[h1,if_true]
  rw[if_pos ad,List.drop_zero,List.take_of_length_le ad,RB 1 h2]
  simp[nT,tx]
 rw[aW]
 simp only[h.x,if_true,List.getElem?_cons_zero,List.drop_zero,dm,aj,ar,aJ,cz,ha,hf,Option.map_some,iC]
theorem Jz {S:Nat->Bool}:∀bs:List PB,(∀b∈bs,b.s<=4)->ko S bs<=4*bs.length
 |[],_=>by simp[ko]
 |b::bs,h=>by
  rw[wT]
  have:=Jz (S:=S) bs fun x hx=>h x (List.mem_cons_of_mem _ hx)
  have:=h b (by simp)
  simp only[List.length_cons]
  split<;>omega
theorem lR.zero {bs:List PB} {x y:Nat} (h:∀e,e<bs.length->0<=(dE bs e).s/\(dE bs e).s<=4):lR bs (fun _=>0) x y 0:=
 ⟨fun i hi=>by have:=h i hi;omega,fun S _ _=>lK fun i _=>by simp⟩
theorem Qt {bs:List PB} {b:PB} (h:b∈bs):∃e,e<bs.length/\dE bs e=b:=by
 obtain⟨e,he,rfl⟩:=List.getElem_of_mem h
 exact⟨e,he,by simp[dE,List.getD_eq_getElem?_getD,he]⟩
theorem Lo (cnt:Nat) (hn:cnt<=1048576) (bs:List PB) (ok:qb cnt bs) (kq:bs.length<=1048576) (eA:∀e,e<bs.length->0<=(dE bs e).s/\(dE bs e).s<=4) (x y:Nat) (hx:x<cnt) (hy:y<cnt) (Rh:x≠y):
  p7 Tryz.prog 149 [.int .i64 cnt,.sl (bs.map aY),.int .i64 x,.int .i64 y] fun r=>∃f val,r=.fX [.er (iC cnt bs f),.int .i64 val]/\lR bs f x y val/\∃S:Nat->Bool,S x=true/\S y=false/\val=ko S bs:=by
 refine p7.body fW rfl fun hl σ=>?_
 clear hl
 (try((repeat(revert N;apply Pn.out));refine wk @Nat.zero_add ?_;(repeat(apply Pn.mk;intro N hN))))
 refine .inr (aH _ _ _ _ _ (fun r σ1 hq=>?_) (Ou cnt hn bs ok kq _))
 obtain⟨X,A,F,rfl,hX,hS⟩:=hq
 apply hN
 clear hN N
 have hS0:∀f val,lR bs f x y val->val<=ko (fun v=>decide (v=x)) bs:=fun f val hf=>hf.bound (decide_eq_true rfl) (decide_eq_false fun h=>Rh h.symm)
 have htot:=Jz (S:=fun v=>decide (v=x)) bs fun b hb=>by
  obtain⟨e,he,rfl⟩:=Qt hb
  exact(eA e he).2
 generalize ko (fun v=>decide (v=x)) bs=T at *
 (try((repeat(revert N;apply Pn.out));refine wk @Nat.zero_add ?_;(repeat(apply Pn.mk;intro N hN))))
 refine cm (fun m env st=>∃(f:Nat->Int) (val:Int),m=(T-val).toNat/\0<=val/\env 10=.ptr X 0 0/\env 11=.int .i64 val/\lR bs f x y val/\qO cnt bs f X A F st.get σ1.next/\σ1.next<=st.next) T.toNat ⟨_,0,by simp,ad,by(simp only[go_sem, ↓reduceIte,Nat.reduceEqDiff,Nat.reduceAdd,Nat.reduceSub,Nat.reduceLeDiff,reduceCtorEq]),by(simp only[go_sem, ↓reduceIte,Nat.reduceEqDiff,Nat.reduceAdd,Nat.reduceSub,Nat.reduceLeDiff,reduceCtorEq]),lR.zero eA,hS.frame (fun i hi=>rfl) (Nat.le_refl _),bp⟩ ?_
 rintro m env_b st_b ⟨f,val,rfl,qn,b10,b11,hf,hN1,hle⟩ fb
 have b2:=fb 2 (by kernel_rfl)
 have b3:=fb 3 (by kernel_rfl)
 simp only[go_sem, ↓reduceIte,Nat.reduceEqDiff,Nat.reduceAdd,Nat.reduceSub,Nat.reduceLeDiff,reduceCtorEq]at b2 b3
 clear fb
 (try((repeat(revert N;apply Pn.out));refine wk (tw @b2 (tw @b3 @b10)) ?_;(repeat(apply Pn.mk;intro N hN))))
 refine .inr (aH _ _ _ _ _ (fun r σ2 hq=>?_) (UB cnt hn bs ok kq eA f x y hx hy Rh val hf X A F ⟨st_b.get,_⟩ σ1.next hN1 bp))
 obtain⟨b,f',rfl,hN2,pM,_,mH,hyes⟩:=hq
 (try dsimp only at pM)
 apply hN
 clear hN N
 cases b with
 |true=>
  have XA:=hyes rfl
  have Mp:=hS0 _ _ hf
  have EK:=hS0 _ _ XA
  have hw:IntKind.i64.wrap (val+1)=val+1:=dj ad
  (try((repeat(revert N;apply Pn.out));refine wk (tw @b10 (tw @b11 @hw)) ?_;(repeat(apply Pn.mk;intro N hN))))
  exact⟨_,ad,f',val+1,rfl,ad,sd @b10,sd (tw @b11 @hw),XA,hN2,bp⟩
 |false=>
  obtain⟨rfl,S,h1,h2,h3⟩:=mH rfl
  (try((repeat(revert N;apply Pn.out));refine wk (tw @b10 @b11) ?_;(repeat(apply Pn.mk;intro N hN))))
  have hz:=hN2.fz0
  exact⟨[.ptr X 0 0,.int .i64 val],sd @Nat.zero_add,.fX [.er (iC cnt bs f'),.int .i64 val],by simp only[iF,br,aj,ar,hz,aJ,Option.map_some],f',val,rfl,hf,S,h1,h2,h3⟩
theorem Lp (cnt:Nat) (hn:cnt<=1048576) (bs:List PB) (ok:qb cnt bs) (kq:bs.length<=1048576) (f:Nat->Int) (hs:Small bs f) (y:Nat) (hy:y<cnt):
  jJ Tryz.prog 150 [.er (iC cnt bs f),.int .i64 y] fun r=>∃l:List Nat,r=.sl (l.map eN)/\l.length<=cnt:=by
 refine jJ.body fW rfl fun hl n0=>?_
 clear hl
 have hz:∀g:Rows,eC (ez g) 6 [.er (iC cnt bs f),.int .i64 (y:Int)]=some [.er (iC cnt bs f),.int .i64 y]:=fun g=>by simp only[aj,ar,aK,aJ,Option.map_some]
 (try((repeat(revert N;apply Pn.out));refine wk @Nat.zero_add ?_;(repeat(apply Pn.mk;intro N hN))))
 refine .inr (aH _ _ _ _ _ (fun r σ1 hq=>?_) ((Kf cnt hn bs ok kq f hs y hy).x mixed (hz _)))
 obtain⟨⟨out,rfl,Vr⟩,rfl⟩:=hq
 apply hN
 clear hN N
 (try((repeat(revert N;apply Pn.out));refine wk @iC.eq_1 ?_;(repeat(apply Pn.mk;intro N hN))))
 refine cm (fun n env st=>∃k:Nat,n=(cnt)-k/\k<=(cnt)/\env 7=.int .i64 (k:Int)/\(∃(o:Id) (l:List Nat),env 6=.own o 0 l.length/\st.get o=some ⟨true,1,l.map eN⟩/\o.bt<st.next/\l.length<=k)) (cnt) ⟨0,ad,ad,sl @iC.eq_1,⟨⟨150002000,n0+1+1+1⟩,[],by(simp only[go_sem, ↓reduceIte,Nat.reduceEqDiff,Nat.reduceAdd,Nat.reduceSub,Nat.reduceLeDiff,reduceCtorEq])<;>rfl,by(simp only[go_sem, ↓reduceIte,Nat.reduceEqDiff,Nat.reduceAdd,Nat.reduceSub,Nat.reduceLeDiff,reduceCtorEq])<;>rfl,bp,by simp⟩⟩ ?_
 rintro n_a env_a st_a ⟨k,rfl,ale,a7,oI⟩ eJ
 have a0:=eJ 0 (by kernel_rfl);have a5:=eJ 5 (by kernel_rfl)
 simp only[go_sem, ↓reduceIte,Nat.reduceEqDiff,Nat.reduceAdd,Nat.reduceSub,Nat.reduceLeDiff,reduceCtorEq,iC]at a0 a5
 clear eJ
 obtain⟨o,l,a6,ag,wI,Mw⟩:=oI
 have qn:=dp wI
 have gy:(l.map eN).length=l.length:=by simp
 by_cases hk:(k:Int)<(cnt:Int)
 ·have eh:∀{e:Env} {gg:Rows} {nx:Nat},(e 7=.int .i64 (IntKind.i64.wrap ((k:Int)+1)))->(∃(o:Id) (l:List Nat),e 6=.own o 0 l.length/\gg o=some ⟨true,1,l.map eN⟩/\o.bt<nx/\l.length<=(k+1))->∃m0,m0<(cnt)-k/\∃k:Nat,m0=(cnt)-k/\k<=(cnt)/\e 7=.int .i64 (k:Int)/\(∃(o:Id) (l:List Nat),e 6=.own o 0 l.length/\gg o=some ⟨true,1,l.map eN⟩/\o.bt<nx/\l.length<=k):=fun x1 x2=>⟨_,ad,k+1,rfl,ad,(by rw[x1,aX ad]),x2⟩
  have Ah:=eV (f:=out) (show k<cnt by omega)
  rw[aL]at Ah
  have e1:l.length+1<=16777216:=ad
  by_cases h0:0<=out k
  ·(try((repeat(revert N;apply Pn.out));refine wk (tw @a7 (tw @a0 (tw @a5 (tw @a6 (tw @ag (tw @qn (tw @hk (tw @Ah (tw @h0 (tw @e1 (tw @gy @iC.eq_1))))))))))) ?_;(repeat(apply Pn.mk;intro N hN))))
   exact eh (sd (tw @a7 (tw @a0 (tw @a5 @iC.eq_1)))) (⟨⟨150007003,st_a.next+1+1⟩,l++[k],by rw[List.length_append];simp only[go_sem, ↓reduceIte,Nat.reduceEqDiff,Nat.reduceAdd,Nat.reduceSub,Nat.reduceLeDiff,reduceCtorEq,List.length_cons,List.length_nil],by rw[List.map_append,List.map_cons,List.map_nil];simp only[go_sem, ↓reduceIte,Nat.reduceEqDiff,Nat.reduceAdd,Nat.reduceSub,Nat.reduceLeDiff,reduceCtorEq,eN],bp,by simp;omega⟩)
  ·(try((repeat(revert N;apply Pn.out));refine wk (tw @a7 (tw @a0 (tw @a5 (tw @a6 (tw @ag (tw @qn (tw @hk (tw @Ah (tw @h0 (tw @gy @iC.eq_1)))))))))) ?_;(repeat(apply Pn.mk;intro N hN))))
   exact eh (sd (tw @a7 (tw @a0 (tw @a5 @iC.eq_1)))) (⟨o,l,sd @a6,sd @ag,bp,ad⟩)
 ·(try((repeat(revert N;apply Pn.out));refine wk (tw @a7 (tw @a0 (tw @a5 (tw @a6 (tw @hk @iC.eq_1))))) ?_;(repeat(apply Pn.mk;intro N hN))))
  have xf:iy st_a.get 6 (.own o 0 l.length)=some (.sl (l.map eN)):=fN ag rfl fun b=>Uv _ 4 b
  exact⟨_,rfl,_,by simp only[go_sem, ↓reduceIte,Nat.reduceEqDiff,Nat.reduceAdd,Nat.reduceSub,Nat.reduceLeDiff,reduceCtorEq,iF];exact xf,l,rfl,ad⟩
def oc (b:Int):List AV:=[.int .u8 b]
def iI (g:Rows) (X:Id) (bs:List Int) (A:Nat):Prop:=∃(a:Nat) (z:Int),a<=A/\g X=some ⟨true,3,[[.sl (bs.map oc),.int .i64 (a:Int),.int .u64 z]]⟩
theorem iI.mono {g:Rows} {X:Id} {bs:List Int} {A B:Nat} (h:iI g X bs A) (k:A<=B):iI g X bs B:=by
 obtain⟨a,z,h1,h2⟩:=h
 exact⟨a,z,ad,h2⟩
def lx (X:Id) (σ σ':aw):Prop:=σ.next<=σ'.next/\∀i,i≠X->i.bt<σ.next->σ'.get i=σ.get i
theorem wrap_u64 (n:Int):IntKind.u64.wrap n=n % 18446744073709551616:=by
 rw[IntKind.wrap];simp[IntKind.bits,IntKind.signed]
theorem Qq (z:Int):0<=IntKind.u64.wrap ((BitVec.ofInt 64 z&&& BitVec.ofInt 64 255).toNat:Int)/\IntKind.u64.wrap ((BitVec.ofInt 64 z&&& BitVec.ofInt 64 255).toNat:Int)<=255:=by
 have h:(BitVec.ofInt 64 z&&& BitVec.ofInt 64 255).toNat<=255:=by
  rw[BitVec.toNat_and]
  exact Nat.and_le_right
 rw[wrap_u64];omega
theorem E5 (z:Int):0<=IntKind.i64.wrap (IntKind.u64.wrap ((BitVec.ofInt 64 z&&& BitVec.ofInt 64 255).toNat:Int))/\IntKind.i64.wrap (IntKind.u64.wrap ((BitVec.ofInt 64 z&&& BitVec.ofInt 64 255).toNat:Int))<=255:=by
 obtain⟨h0,h1⟩:=Qq z
 rw[dj ad]
 exact⟨h0,h1⟩
theorem Ev {v n:Int} (hv:0<=v) (hn:0<n):0<=v.tmod n/\(v.tmod n=0∨v.tmod n<n):=by
 rw[Int.tmod_eq_emod_of_nonneg hv]
 exact⟨Int.emod_nonneg _ ad,.inr (Int.emod_lt_of_pos _ hn)⟩
theorem OH (bs:List Int) (hb:∀b∈bs,0<=b/\b<=255) (kq:bs.length<=4096) (X:Id) (A:Nat) (ha:A<=1073741824) (σ:aw) (h:iI σ.get X bs A):
  Call Tryz.prog 80 [.ptr X 0 0] σ fun r σ'=>∃v:Int,r=.int .i64 v/\0<=v/\v<=255/\iI σ'.get X bs (A+1)/\lx X σ σ':=by
 obtain⟨a,z,haA,hg⟩:=h
 refine fV fW rfl fun jd=>?_
 clear jd
 have gy:(bs.map oc).length=bs.length:=by simp
 have w1:IntKind.i64.wrap ((a:Int)+1)=((a+1:Nat):Int):=(dj ad).trans ad
 by_cases ha:(a:Int)<(bs.length:Int)
 ·have Ms:(bs.map oc)[a]? =some [.int .u8 (bs.getD a 0)]:=getD_map oc ad
  have HX:=hb (bs.getD a 0) (by rw[List.getD_eq_getElem?_getD,List.getElem?_eq_getElem (by omega:a<bs.length)];exact List.getElem_mem ad)
  generalize bs.getD a 0=b at Ms HX
  have w2:IntKind.i64.wrap b=b:=dj ad
  have hle:((a+1:Nat):Int)<=(bs.length:Int):=ad
  (try((repeat(revert N;apply Pn.out));refine wk (tw @hg (tw @gy (tw @ha (tw @Ms (tw @w1 (tw @w2 @hle)))))) ?_;(repeat(apply Pn.mk;intro N hN))))
  exact fc (.inl rfl) (vs:=[.int .i64 b]) (sd @Nat.zero_add) ⟨b,rfl,HX.1,HX.2,⟨a+1,_,ad,sl @Nat.zero_add⟩,bp,fun i hi _=>sd @hi⟩
 ·have hle:decide (((a+1:Nat):Int)<=(bs.length:Int))=false:=decide_eq_false ad
  (try((repeat(revert N;apply Pn.out));refine wk (tw @hg (tw @gy (tw @ha (tw @w1 @hle)))) ?_;(repeat(apply Pn.mk;intro N hN))))
  exact fc (.inl rfl) (vs:=[.int .i64 _]) (by simp only[iA,jP,go_sem, ↓reduceIte,Nat.reduceEqDiff,Nat.reduceAdd,Nat.reduceSub,Nat.reduceLeDiff,reduceCtorEq]<;>rfl) ⟨_,rfl,(E5 _).1,(E5 _).2,⟨a+1,_,ad,sl @Nat.zero_add⟩,bp,fun i hi _=>sd @hi⟩
theorem lx.to {X:Id} {g g':Rows} {n n1 n' m':Nat} (h:lx X ⟨g,n1⟩ ⟨g',n'⟩) (h1:n<=n1) (h2:n'<=m'):lx X ⟨g,n⟩ ⟨g',m'⟩:=
 ⟨Nat.le_trans h1 (Nat.le_trans h.1 h2),fun i hi hv=>h.2 i hi (Nat.lt_of_lt_of_le hv h1)⟩
theorem lx.trans {X:Id} {σ1 σ2 σ3:aw} (h:lx X σ1 σ2) (k:lx X σ2 σ3):lx X σ1 σ3:=⟨Nat.le_trans h.1 k.1,fun i hi hv=>(k.2 i hi (Nat.lt_of_lt_of_le hv h.1)).trans (h.2 i hi hv)⟩
theorem ny (bs:List Int) (hb:∀b∈bs,0<=b/\b<=255) (kq:bs.length<=4096) (X:Id) (n:Int) (A:Nat) (ha:A<=1073741000) (σ:aw) (h:iI σ.get X bs A):
  Call Tryz.prog 33 [.ptr X 0 0,.int .i64 n] σ fun r σ'=>∃v:Int,r=.int .i64 v/\0<=v/\(v=0∨v<n)/\iI σ'.get X bs (A+2)/\lx X σ σ':=by
 refine fV fW rfl fun jd=>?_
 clear jd
 by_cases tP:n<=1
 ·(try((repeat(revert N;apply Pn.out));refine wk @tP ?_;(repeat(apply Pn.mk;intro N hN))))
  exact fc (.inl rfl) (vs:=[.int .i64 0]) (sd @Nat.zero_add) ⟨0,rfl,ad,.inl rfl,h.mono ad,bp,fun i hi _=>rfl⟩
 ·have H7:(n=0)=False:=eq_false ad
  (try((repeat(revert N;apply Pn.out));refine wk @tP ?_;(repeat(apply Pn.mk;intro N hN))))
  refine .inr (aH _ _ _ _ _ (fun r σ1 hq=>?_) (OH bs hb kq X A ad _ h))
  obtain⟨v,rfl,v0,v1,h1,k1⟩:=hq
  apply hN
  clear hN N
  by_cases h2:(200:Int)<n
  ·(try((repeat(revert N;apply Pn.out));refine wk @h2 ?_;(repeat(apply Pn.mk;intro N hN))))
   refine .inr (aH _ _ _ _ _ (fun r σ2 hq=>?_) (OH bs hb kq X (A+1) ad _ h1))
   obtain⟨u,rfl,u0,u1,EJ,k2⟩:=hq
   apply hN
   clear hN N
   have w1:IntKind.i64.wrap (v*256)=v*256:=dj ad
   have w2:IntKind.i64.wrap (v*256+u)=v*256+u:=dj ad
   (try((repeat(revert N;apply Pn.out));refine wk (tw @H7 (tw @w1 @w2)) ?_;(repeat(apply Pn.mk;intro N hN))))
   exact fc (.inl rfl) (vs:=[.int .i64 ((v*256+u).tmod n)]) (sd @Nat.zero_add) ⟨_,rfl,(Ev ad ad).1,(Ev ad ad).2,EJ,(lx.to (k1.trans (lx.to (n:=σ1.next) k2 ad (Nat.le_refl _))) ad bp:lx X ⟨σ.get,σ.next⟩ ⟨σ2.get,_⟩)⟩
  ·(try((repeat(revert N;apply Pn.out));refine wk (tw @h2 @H7) ?_;(repeat(apply Pn.mk;intro N hN))))
   exact fc (.inl rfl) (vs:=[.int .i64 (v.tmod n)]) (sd @Nat.zero_add) ⟨_,rfl,(Ev v0 ad).1,(Ev v0 ad).2,h1.mono ad,(lx.to k1 ad bp:lx X ⟨σ.get,σ.next⟩ ⟨σ1.get,_⟩)⟩
theorem Z0 (bs:List Int) (hb:∀b∈bs,0<=b/\b<=255) (kq:bs.length<=4096) (X:Id) (n:Int) (A:Nat) (ha:A<=1073741000) (σ:aw) (h:iI σ.get X bs A):
  Call Tryz.prog 60 [.ptr X 0 0,.int .i64 n] σ fun r σ'=>∃b:Bool,r=.bool b/\iI σ'.get X bs (A+2)/\lx X σ σ':=by
 refine fV fW rfl fun jd=>?_
 clear jd
 (try((repeat(revert N;apply Pn.out));refine wk @Nat.zero_add ?_;(repeat(apply Pn.mk;intro N hN))))
 refine .inr (aH _ _ _ _ _ (fun r σ1 hq=>?_) (ny bs hb kq X n A ha _ h))
 obtain⟨v,rfl,v0,v1,h1,k1⟩:=hq
 apply hN
 clear hN N
 (try((repeat(revert N;apply Pn.out));refine wk @Nat.zero_add ?_;(repeat(apply Pn.mk;intro N hN))))
 exact fc (.inl rfl) (vs:=[.bool _]) (by simp only[iA,jP,go_sem, ↓reduceIte,Nat.reduceEqDiff,Nat.reduceAdd,Nat.reduceSub,Nat.reduceLeDiff,reduceCtorEq]<;>rfl) ⟨_,rfl,h1,(lx.to k1 ad bp:lx X ⟨σ.get,σ.next⟩ ⟨σ1.get,_⟩)⟩
theorem Li (bs:List Int) (σ:aw):
  Call Tryz.prog 24 [.sl (bs.map oc)] σ fun r σ'=>∃X:Id,r=.ptr X 0 0/\σ.next<=X.bt/\X.bt<σ'.next/\iI σ'.get X bs 0/\∀i:Id,i.bt<σ.next->σ'.get i=σ.get i:=by
 refine fV fW rfl fun jd=>?_
 clear jd
 (try((repeat(revert N;apply Pn.out));refine wk @Nat.zero_add ?_;(repeat(apply Pn.mk;intro N hN))))
 exact fc (.inl rfl) (vs:=[.ptr ⟨24001002,_⟩ 0 0]) (by simp only[iA,jP,go_sem, ↓reduceIte,Nat.reduceEqDiff,Nat.reduceAdd,Nat.reduceSub,Nat.reduceLeDiff,reduceCtorEq]<;>rfl) ⟨_,rfl,bp,bp,⟨0,0,Nat.le_refl _,sl @Nat.zero_add⟩,fun i hi=>by have hv:=dp hi;simp only[go_sem, ↓reduceIte,Nat.reduceEqDiff,Nat.reduceAdd,Nat.reduceSub,Nat.reduceLeDiff,reduceCtorEq,hv]⟩
end Go.Proofs.YtoodopepphhpoaaGreatDoor.V

namespace Go.Proofs.YtoodopepphhpoaaGreatDoor
open Go.RowKit
def fo (k:Int):ByteArray:=if k=0 then⟨#[48]⟩else⟨(wV k.toNat).toArray⟩
theorem Fq (w:World) (k:Int) (h0:0<=k) (h1:k<=4611686018427387904):
  Calls Tryz.prog 98 #[.int .i64 k] w fun e w'=>e=.returned (.string (fo k))/\Below w.heap.size w w':=by
 go_enter Tryz.func98,Tryz.ntmps98
 go_wp2_with fail
 go_loopw [4,3] (fun a s wr=>∃(j:Int) (l:ByteArray),a=.int .i64 j/\s=.string l/\0<=j/\j<=4611686018427387904/\Hid (wV j.toNat++l.data.toList=wV k.toNat)/\Below w.heap.size w wr) (fun a _ _=>(intOf a).toNat)
 case atStart=>exact⟨k,⟨#[]⟩,rfl,rfl,h0,h1,Lib.hid (by simp),Below.refl _ _⟩
 case round=>
  obtain⟨j,l,rfl,rfl,Te,XC,hd,hb⟩:=hrel
  have gM:l.size<=19:=by
   have h1:=congrArg List.length hd.out
   have h2:=zQ 19 k.toNat (by omega)
   rw[List.length_append]at h1
   have:l.data.toList.length=l.size:=by rw[Array.length_toList];rfl
   omega
  by_cases hj:j=0
  ·subst hj
   by_cases hk:k=0
   ·go_wp2_with fail
    go_ret
    exact⟨by simp[fo,hk],hb⟩
   ·have Hf:¬k<0:=by omega
    go_wp2_with fail
    go_ret
    refine⟨?_,hb⟩
    have h1:=hd.out
    rw[show(0:Int).toNat=0 by rfl,Cg,List.nil_append]at h1
    have h2:l=fo k:=by
     rw[fo,if_neg hk]
     refine ByteArray.ext (Array.ext' ?_)
     rw[h1]
    rw[h2];rfl
  ·have UX:∀v:Int,(convert 22 9 (.slice (some ⟨wr.heap.size,0,none⟩) 1 1)).run Tryz.prog (wr.alloc (.cells #[.int .u8 v] 5))=.ok (.string ⟨#[UInt8.ofNat v.toNat]⟩) (wr.alloc (.cells #[.int .u8 v] 5)):=by
    intro v
    rw[run_convert_bytes_string _ _ _ 5 _ _ _ Tryz.underlying22 Tryz.underlying5 Tryz.underlying9,run_bytesToString _ _ _ _ [v] (by simp[loadCells,loadCellsFrom,go_sem])]
    rfl
   have hr:=gM
   go_wp2_with fail
   refine⟨⟨_,_,rfl,rfl,by omega,by omega,Lib.hid ?_,hb.alloc hb.size _⟩,by simp[intOf];omega⟩
   rw[<-hd.out,KJ,Fs (show j.toNat≠0 by omega),show(j / 10).toNat=j.toNat / 10 by omega,show(48+j % 10).toNat=48+j.toNat % 10 by omega]
   simp
end Go.Proofs.YtoodopepphhpoaaGreatDoor
namespace Go.Proofs.YtoodopepphhpoaaGreatDoor.V
open Go.RowKit
theorem sf (k:Int) (h0:0<=k) (h1:k<=4611686018427387904):ax Tryz.prog 98 [.int .i64 k] (.str (fo k)):=
 oN (vs0:= #[.int .i64 k]) (u0:=.string (fo k)) (fun _ _ _ _=>RY) (fun w D ι=>.fq _ _ (.str _)) (fun g=>Dy g 5 _) fun w=>Fq w k h0 h1
theorem jE (k:Int) (h1:k<=4611686018427387904):(fo k).size<=20:=by
 unfold fo
 split
 ·decide
 ·have h2:=zQ 20 k.toNat ad
  show(wV k.toNat).toArray.size<=20
  simpa using h2
theorem jh (a b:ByteArray):(a++b).size=a.size+b.size:=ByteArray.size_append
def TM (E:Nat->Prop) (n0:Nat) (g:Rows) (n:Nat) (e:Id) (c:Nat):Prop:=E e.site/\n0<=e.bt/\e.bt<n/\∃l:List Int,l.length=c/\g e=some ⟨true,1,l.map aL⟩
def SO (E:Nat->Prop) (n0:Nat) (g:Rows) (n:Nat) (rows:List (List AV)):Prop:=∀row∈rows,∃(nm:ByteArray) (e:Id),row=[.str nm,.own e 0 4]/\(nm.size<=64/\1<=nm.size)/\TM E n0 g n e 4
theorem Ea (c:UInt8) (dt:ByteArray):1<=((⟨#[c]⟩:ByteArray)++dt).size:=by
 rw[jh]
 have:(⟨#[c]⟩:ByteArray).size=1:=rfl
 omega
def Jk (n0:Nat) (g:Rows) (n:Nat) (v:AV) (k:Nat):Prop:=(k=0/\v=.cr)∨(0<k/\∃(o:Id) (L:List ig),v=.own o 0 k/\L.length=k/\g o=some ⟨true,2,L.map ej⟩/\(∀x∈L,x.bW.size<=64)/\n0<=o.bt/\o.bt<n)
def Jq (E:Nat->Prop) (n0:Nat) (g:Rows) (n:Nat) (v:AV) (k:Nat):Prop:=(k=0/\v=.cr)∨(0<k/\∃(o:Id) (rows:List (List AV)),v=.own o 0 k/\rows.length=k/\g o=some ⟨true,2,rows⟩/\SO E n0 g n rows/\¬E o.site/\n0<=o.bt/\o.bt<n)
def X9 (n0:Nat) (g:Rows) (n:Nat) (r:AV):Prop:=∃(E:Nat->Prop) (vg vt:AV) (kg kt:Nat) (o:Id) (p:aa) (m:Int),r=.agg [vg,vt,.own o 0 1,.int .i64 m]/\Jk n0 g n vg kg/\Jq E n0 g n vt kt/\0<kg/\0<kt/\kg<=1000/\kt<=1000/\g o=some ⟨true,3,[ab p]⟩/\n0<=o.bt/\o.bt<n
def SysG (s:au):Prop:=kE s.az/\s.az.aQ.length<=1048576/\s.az.ai.length<=1048576/\s.dc.ai.length=1/\∀t∈s.az.ai,t.de.length=4
end Go.Proofs.YtoodopepphhpoaaGreatDoor.V

namespace Go.Proofs.YtoodopepphhpoaaGreatDoor.V
open Go.RowKit
attribute [local irreducible] eu wpOps fB Call
theorem Gl (v1 v2:Int) (l1 l2:List Nat) (h1:l1.length<=1048576) (h2:l2.length<=1048576):
  jJ Tryz.prog 151 [.int .i64 v1,.sl (l1.map eN),.int .i64 v2,.sl (l2.map eN)] fun r=>∃b,r=.bool b/\(v1<v2->b=true)/\(v2<v1->b=false):=by
 refine jJ.body fW rfl fun hl n0=>?_
 clear hl
 have ret:∀{t:Nat} {env:Env} {σ:aw} {b:Bool} {x:Ex},(x=.ret∨x=.normal)->env t=.bool b->((v1<v2->b=true)/\(v2<v1->b=false))->oM [.tmp t] (fun r0 σ'=>∃r',iy σ'.get 6 r0=some r'/\∃b,r'=.bool b/\(v1<v2->b=true)/\(v2<v1->b=false)) x env σ:=by
  intro t env σ b x hx he hb
  have:∃vs,iA env σ.get [.tmp t]=some vs/\∃r',iy σ.get 6 (iF vs)=some r'/\∃b,r'=.bool b/\(v1<v2->b=true)/\(v2<v1->b=false):=⟨[env t],rfl,.bool b,by rw[he];exact gi _ _ _,b,rfl,hb⟩
  rcases hx with rfl|rfl
  ·exact this
  ·exact this
 have m1:(l1.map eN).length=l1.length:=by simp
 have m2:(l2.map eN).length=l2.length:=by simp
 by_cases hv:v1=v2
 ·have hd:decide (v1=v2)=true:=decide_eq_true hv
  by_cases Mw:(l1.length:Int)=(l2.length:Int)
  ·have oi:decide ((l1.length:Int)=(l2.length:Int))=true:=decide_eq_true Mw
   have YW:decide (l1.length=l2.length)=true:=decide_eq_true ad
   (try((repeat(revert N;apply Pn.out));refine wk (tw @hd (tw @oi (tw @YW (tw @m1 @m2)))) ?_;(repeat(apply Pn.mk;intro N hN))))
   refine cm (fun n env st=>∃k:Nat,n=(l1.length)-k/\k<=(l1.length)/\env 9=.int .i64 (k:Int)) (l1.length) ⟨0,ad,ad,sl @Nat.zero_add⟩ ?_
   rintro n_a env_a st_a ⟨k,rfl,ale,a9⟩ eJ
   have a1:=eJ 1 (by kernel_rfl);have a3:=eJ 3 (by kernel_rfl)
   simp only[go_sem, ↓reduceIte,Nat.reduceEqDiff,Nat.reduceAdd,Nat.reduceSub,Nat.reduceLeDiff,reduceCtorEq]at a1 a3
   clear eJ
   by_cases hk:(k:Int)<(l1.length:Int)
   ·have eh:∀{e:Env},(e 9=.int .i64 (IntKind.i64.wrap ((k:Int)+1)))->∃m0,m0<(l1.length)-k/\∃k:Nat,m0=(l1.length)-k/\k<=(l1.length)/\e 9=.int .i64 (k:Int):=fun x1=>⟨_,ad,k+1,rfl,ad,(by rw[x1,aX ad])⟩
    have g1:(l1.map eN)[k]? =some (eN (l1.getD k 0)):=getD_map eN ad
    have g2:(l2.map eN)[k]? =some (eN (l2.getD k 0)):=getD_map eN ad
    rw[eN]at g1 g2
    by_cases he:((l1.getD k 0:Nat):Int)=((l2.getD k 0:Nat):Int)
    ·have UY:decide (((l1.getD k 0:Nat):Int)=((l2.getD k 0:Nat):Int))=true:=decide_eq_true he
     have hd5:decide (l1.getD k 0=l2.getD k 0)=true:=decide_eq_true ad
     (try((repeat(revert N;apply Pn.out));refine wk (tw @a9 (tw @a1 (tw @a3 (tw @hk (tw @m1 (tw @g1 (tw @g2 (tw @UY @hd5)))))))) ?_;(repeat(apply Pn.mk;intro N hN))))
     exact eh (sd (tw @a9 (tw @a1 @a3)))
    ·have UY:decide (((l1.getD k 0:Nat):Int)=((l2.getD k 0:Nat):Int))=false:=decide_eq_false he
     have hd5:decide (l1.getD k 0=l2.getD k 0)=false:=decide_eq_false ad
     (try((repeat(revert N;apply Pn.out));refine wk (tw @a9 (tw @a1 (tw @a3 (tw @hk (tw @m1 (tw @g1 (tw @g2 (tw @UY @hd5)))))))) ?_;(repeat(apply Pn.mk;intro N hN))))
     exact ret (.inl rfl) (by simp only[go_sem, ↓reduceIte,Nat.reduceEqDiff,Nat.reduceAdd,Nat.reduceSub,Nat.reduceLeDiff,reduceCtorEq];rfl) ⟨fun h=>ad,fun h=>ad⟩
   ·(try((repeat(revert N;apply Pn.out));refine wk (tw @a9 (tw @a1 (tw @a3 (tw @hk @m1)))) ?_;(repeat(apply Pn.mk;intro N hN))))
    exact ret (b:=false) (.inl rfl) (sd @Nat.zero_add) ⟨fun h=>ad,fun h=>ad⟩
  ·have oi:decide ((l1.length:Int)=(l2.length:Int))=false:=decide_eq_false Mw
   have YW:decide (l1.length=l2.length)=false:=decide_eq_false ad
   (try((repeat(revert N;apply Pn.out));refine wk (tw @hd (tw @oi (tw @YW (tw @m1 @m2)))) ?_;(repeat(apply Pn.mk;intro N hN))))
   exact ret (.inl rfl) (by simp only[go_sem, ↓reduceIte,Nat.reduceEqDiff,Nat.reduceAdd,Nat.reduceSub,Nat.reduceLeDiff,reduceCtorEq];rfl) ⟨fun h=>ad,fun h=>ad⟩
 ·have hd:decide (v1=v2)=false:=decide_eq_false hv
  (try((repeat(revert N;apply Pn.out));refine wk @hd ?_;(repeat(apply Pn.mk;intro N hN))))
  exact ret (b:=decide (v1<v2)) (.inl rfl) (sd @Nat.zero_add) ⟨fun h=>decide_eq_true h,fun h=>decide_eq_false ad⟩
def zo (bs:List PB) (cnt:Nat) (kH:Int) (k:Nat):Prop:=(k=1/\kH= -1)∨(0<=kH/\(∀z,1<=z->z<k->∀S:Nat->Bool,S 0=true->S z=false->kH<=ko S bs)/\∃S:Nat->Bool,S 0=true/\(∃z,z<cnt/\S z=false)/\kH=ko S bs)
theorem lR.nn {bs:List PB} {val:Int} {S:Nat->Bool} (eA:∀e,e<bs.length->0<=(dE bs e).s/\(dE bs e).s<=4) (h:val=ko S bs):0<=val:=by
 rw[h,zL]
 have:=sQ (f:=fun _=>0) (g:=fun i=>if S (dE bs i).a=S (dE bs i).b then 0 else(dE bs i).s) (n:=bs.length) fun i hi=>by
  have:=eA i hi
  split<;>omega
 rw[lK fun _ _=>rfl]at this
 exact this
theorem zo.done {bs:List PB} {cnt:Nat} {kH:Int} (hc:2<=cnt) (h:zo bs cnt kH cnt) (t:Int):t<=kH↔mT cnt bs t:=by
 rcases h with⟨h,_⟩|⟨_,h1,S,h2,⟨z,hz,qH⟩,h3⟩
 ·omega
 ·constructor
  ·intro ht S h0 ⟨y,hy,hy2⟩
   have:y≠0:=by rintro rfl;rw[h0]at hy2;cases hy2
   have:=h1 y ad hy S h0 hy2
   omega
  ·intro hH
   rw[h3];exact hH S h2 ⟨z,hz,qH⟩
theorem DS (cnt:Nat) (h2:2<=cnt) (hn:cnt<=1048576) (bs:List PB) (ok:qb cnt bs) (kq:bs.length<=1048576) (eA:∀e,e<bs.length->0<=(dE bs e).s/\(dE bs e).s<=4):
  p7 Tryz.prog 115 [.int .i64 cnt,.sl (bs.map aY)] fun r=>∃kH p,r=.fX [.int .i64 kH,p]/\∀t:Int,t<=kH↔mT cnt bs t:=by
 refine p7.body fW rfl fun hl σ=>?_
 clear hl
 (try((repeat(revert N;apply Pn.out));refine wk @Nat.zero_add ?_;(repeat(apply Pn.mk;intro N hN))))
 have z0:∀(g:Rows) (id:Id),g id=some ⟨true,1,[]⟩->V.fz (ez g) 6 (.own id 0 0)=some (.sl (([]:List Nat).map eN))/\V.fz g 5 (.own id 0 0)=some (.sl (([]:List Nat).map eN)):=fun g id h=>by
  have h':ez g id=some ⟨true,1,[]⟩:=by simp[ez,h]
  constructor
  ·rw[jY];simp only[h',if_true];rw[if_pos (by simp)];simp[rf]
  ·rw[jY];simp only[h,if_true];rw[if_pos (by simp)];simp[rf]
 refine cm (fun m env st=>∃(k:Nat) (kH:Int) (l:List Nat) (p:AV),m=cnt-k/\1<=k/\k<=cnt/\env 8=.int .i64 (k:Int)/\env 6=.int .i64 kH/\env 7=p/\V.fz (ez st.get) 6 p=some (.sl (l.map eN))/\V.fz st.get 5 p=some (.sl (l.map eN))/\l.length<=cnt/\zo bs cnt kH k) (cnt-1) ⟨1,-1,[],.own ⟨115002000,σ.next+1+1⟩ 0 0,rfl,ad,ad,by(simp only[go_sem, ↓reduceIte,Nat.reduceEqDiff,Nat.reduceAdd,Nat.reduceSub,Nat.reduceLeDiff,reduceCtorEq])<;>rfl,by(simp only[go_sem, ↓reduceIte,Nat.reduceEqDiff,Nat.reduceAdd,Nat.reduceSub,Nat.reduceLeDiff,reduceCtorEq])<;>rfl,by(simp only[go_sem, ↓reduceIte,Nat.reduceEqDiff,Nat.reduceAdd,Nat.reduceSub,Nat.reduceLeDiff,reduceCtorEq])<;>rfl,(z0 _ _ (sd @Nat.zero_add)).1,(z0 _ _ (sd @Nat.zero_add)).2,by simp,.inl ⟨rfl,rfl⟩⟩ ?_
 rintro m env_b st_b ⟨k,kH,l,p,rfl,uz,sZ,b8,b6,b7,Ak,qH,hl,hB⟩ fb
 have b0:=fb 0 (by kernel_rfl)
 have b1:=fb 1 (by kernel_rfl)
 simp only[go_sem, ↓reduceIte,Nat.reduceEqDiff,Nat.reduceAdd,Nat.reduceSub,Nat.reduceLeDiff,reduceCtorEq]at b0 b1
 clear fb z0
 by_cases hk:(k:Int)<(cnt:Int)
 ·have ji:k<cnt:=ad
  have hFl:=Lo cnt hn bs ok kq eA 0 k ad ji ad
  rw[show(((0:Nat):Int))=0 from rfl]at hFl
  (try((repeat(revert N;apply Pn.out));refine wk (tw @b0 (tw @b1 (tw @b6 (tw @b7 (tw @b8 @hk))))) ?_;(repeat(apply Pn.mk;intro N hN))))
  refine .inr (aH _ _ _ _ _ (fun r σ1 hq=>?_) (hFl.x mixed))
  obtain⟨⟨f,val,rfl,hf,S,QS,K0,Xz⟩,rfl⟩:=hq
  apply hN
  clear hN N
  have Ob:=Bb eA hf.le
  have yM:=lR.nn (val:=val) eA Xz
  (try((repeat(revert N;apply Pn.out));refine wk (tw @b0 (tw @b1 (tw @b6 (tw @b7 @b8)))) ?_;(repeat(apply Pn.mk;intro N hN))))
  refine .inr (aH _ _ _ _ _ (fun r σ1 hq=>?_) ((Lp cnt hn bs ok kq f Ob k ji).x mixed (by simp only[aj,ar,aK,aJ,Option.map_some])))
  obtain⟨⟨l',rfl,P9⟩,rfl⟩:=hq
  apply hN
  clear hN N
  have hw:IntKind.i64.wrap ((k:Int)+1)=((k+1:Nat):Int):=aX ad
  have upd1:(∀z,1<=z->z<k->∀S:Nat->Bool,S 0=true->S z=false->val<=ko S bs)->zo bs cnt val (k+1):=fun h=>.inr ⟨yM,fun z Ak qH S' h0 h1=>by
   by_cases XV:z=k
   ·subst XV;exact hf.bound h0 h1
   ·exact h z Ak ad S' h0 h1,S,QS,⟨k,ji,K0⟩,Xz⟩
  by_cases lW:kH<0
  ·have Bl:k=1:=by
    rcases hB with⟨h,_⟩|⟨h,_⟩
    ·exact h
    ·omega
   (try((repeat(revert N;apply Pn.out));refine wk (tw @b0 (tw @b1 (tw @b6 (tw @b7 (tw @b8 (tw @lW @hw)))))) ?_;(repeat(apply Pn.mk;intro N hN))))
   refine⟨_,?_,k+1,val,l',.sl (l'.map eN),rfl,ad,ad,sd (tw @b8 @hw),sd @Nat.zero_add,sd @Nat.zero_add,cz _ _ _,cz _ _ _,P9,upd1 fun z h1 h2=>ad⟩
   omega
  ·have Bl:(∀z,1<=z->z<k->∀S:Nat->Bool,S 0=true->S z=false->kH<=ko S bs)/\∃S:Nat->Bool,S 0=true/\(∃z,z<cnt/\S z=false)/\kH=ko S bs:=by
    rcases hB with⟨_,h⟩|⟨_,h⟩
    ·omega
    ·exact h
   (try((repeat(revert N;apply Pn.out));refine wk (tw @b0 (tw @b1 (tw @b6 (tw @b7 (tw @b8 (tw @lW @hw)))))) ?_;(repeat(apply Pn.mk;intro N hN))))
   refine .inr (aH _ _ _ _ _ (fun r σ1 hq=>?_) ((Gl val kH l' l ad ad).x mixed (by simp only[aj,ar,cz,aJ,Ak,Option.map_some])))
   obtain⟨⟨b,rfl,Mp,EK⟩,rfl⟩:=hq
   apply hN
   clear hN N
   cases b with
   |true=>
    have XQ:val<=kH:=by
     rcases Int.lt_or_le kH val with h|h
     ·exact absurd (EK h) (by simp)
     ·exact h
    (try((repeat(revert N;apply Pn.out));refine wk (tw @b0 (tw @b1 (tw @b6 (tw @b7 (tw @b8 @hw))))) ?_;(repeat(apply Pn.mk;intro N hN))))
    refine⟨_,?_,k+1,val,l',.sl (l'.map eN),rfl,ad,ad,sd (tw @b8 @hw),sd @Nat.zero_add,sd @Nat.zero_add,cz _ _ _,cz _ _ _,P9,upd1 fun z h1 h2 S' h3 h4=>by have:=Bl.1 z h1 h2 S' h3 h4;omega⟩
    omega
   |false=>
    have XQ:kH<=val:=by
     rcases Int.lt_or_le val kH with h|h
     ·exact absurd (Mp h) (by simp)
     ·exact h
    (try((repeat(revert N;apply Pn.out));refine wk (tw @b0 (tw @b1 (tw @b6 (tw @b7 (tw @b8 @hw))))) ?_;(repeat(apply Pn.mk;intro N hN))))
    refine⟨_,?_,k+1,kH,l,p,rfl,ad,ad,sd (tw @b8 @hw),sd @b6,sd @b7,Ak,qH,hl,.inr ⟨ad,fun z h1 h2 S' h3 h4=>?_,Bl.2⟩⟩
    ·omega
    ·by_cases XV:z=k
     ·subst XV;have:=hf.bound h3 h4;omega
     ·exact Bl.1 z h1 ad S' h3 h4
 ·have lk:k=cnt:=ad
  (try((repeat(revert N;apply Pn.out));refine wk (tw @b0 (tw @b1 (tw @b6 (tw @b7 (tw @b8 @hk))))) ?_;(repeat(apply Pn.mk;intro N hN))))
  exact⟨[.int .i64 kH,p],sd @Nat.zero_add,.fX [.int .i64 kH,.sl (l.map eN)],by simp only[iF,br,aj,ar,qH,aJ,Option.map_some],kH,_,rfl,zo.done h2 (lk▸hB)⟩
theorem Se {s:ay} (hS:gL s) (a d:Int):nV s (bZ (bz s a) d)<=4:=by
 have hF:=hS.form
 have gS:bZ (bz s a) d=0∨(0<=bZ (bz s a) d/\bZ (bz s a) d<=s.aQ.length):=by
  unfold bZ bz
  rw[List.getD_eq_getElem?_getD,List.getD_eq_getElem?_getD]
  rcases ht:s.ai[a.toNat]? with _|t
  ·exact .inl (by simp[xt])
  ·have ZA:=List.mem_of_getElem? ht
   simp only[Option.getD_some]
   rcases hg:t.de[d.toNat]? with _|g
   ·exact .inl rfl
   ·exact .inr (hF.mu t ZA g (List.mem_of_getElem? hg))
 unfold nV
 by_cases h0:bZ (bz s a) d=0
 ·rw[if_pos h0];omega
 ·rw[if_neg h0]
  have hk:(bZ (bz s a) d-1).toNat<s.aQ.length:=ad
  have:=eo (hS.Xw _ hk).2.1
  unfold qk at this
  unfold ni
  omega
theorem Fe {s:ay} (hS:gL s) (a d b:Int):fM s a d b<=4:=by
 unfold fM
 split
 ·exact Se hS a d
 ·omega
theorem KD {s:ay} {l:List aa} (hS:gL s) {i:Nat} (hi:i<l.length) {d:Int}:∀b∈mW s l i d,b.a<l.length/\b.b<l.length/\0<=b.s/\b.s<=4:=by
 intro b hb
 unfold mW at hb
 split at hb
 ·rename_i h
  simp only[List.mem_singleton]at hb
  subst hb
  exact⟨hi,(j3 h.1).1,by simp only;omega,Fe hS ..⟩
 ·cases hb
theorem B9 {s:ay} {l:List aa} (hS:gL s):∀b∈ea s l,b.a<l.length/\b.b<l.length/\0<=b.s/\b.s<=4:=by
 intro b hb
 simp only[ea,jl,gW,List.mem_flatMap,List.mem_range]at hb
 obtain⟨i,hi,j,_,hb⟩:=hb
 exact KD hS hi b hb
theorem tA {s:ay} {l:List aa} (hF:mm l):(ea s l).length<=1000:=by
 have:=xP s l l.length
 have:=hF.xR
 rw[ea];omega
theorem M7 {bs:List PB} {e:Nat} (h:e<bs.length):dE bs e∈bs:=by
 rw[dE,List.getD_eq_getElem?_getD,List.getElem?_eq_getElem h];exact List.getElem_mem h
theorem Cx {n:Nat} {bs:List PB} {t:Int} (h:n<2):mT n bs t:=fun S h0 ⟨y,hy,hf⟩=>by
 have:y=0:=ad
 subst this;rw[h0]at hf;cases hf
def jD (s:ay) (l:List aa) (t:Int):Nat:=(leads l.length (fu (bV t (ea s l)))).length
noncomputable def qp (s:ay) (l:List aa) (t:Int):Bool:=@decide (nZ l.length (ea s l) t) (Classical.propDecidable _)
def wZ (s:ay) (l:List aa) (t:Int):Int:=if 64<jD s l t then 4 else 0
theorem pq {s:ay} {l:List aa} {t:Int} {p:Prop} [Decidable p] (h:p↔nZ l.length (ea s l) t):decide p=qp s l t:=by
 letI:=Classical.propDecidable (nZ l.length (ea s l) t)
 unfold qp
 by_cases hp:p
 ·rw[decide_eq_true hp];exact(decide_eq_true (h.1 hp)).symm
 ·rw[decide_eq_false hp];exact(decide_eq_false fun k=>hp (h.2 k)).symm
theorem Gn (s:ay) (l:List aa) (t:Int) (hS:gL s) (hA:iS s l):ax Tryz.prog 65 [.er (ae s),.er [.sl (l.map ab)],.int .i64 t] (.fX [.bool (qp s l t),.int .i64 (wZ s l t)]):=by
 refine ax.body fW rfl fun hl n0=>?_
 clear hl
 have hb:=B9 (l:=l) hS
 have kq:=tA (s:=s) hA.1
 have Ab:=hA.1.xR
 have Cr:=Im s l hS.form hA
 have Qd:=Gm l.length ad (ea s l) (fun b h=>⟨(hb b h).1,(hb b h).2.1⟩) ad t
 have hL:=yf (bV t (ea s l))
 have gS:=IL hL (fun b h=>⟨(hb b h).1,(hb b h).2.1⟩)
 have hlen:=(pV (fu (bV t (ea s l))) (ea s l)).2
 have oR:=ke l.length (fu (bV t (ea s l)))
 have fC:(l.map ab).length=l.length:=by simp
 by_cases yH:(64:Int)<(jD s l t:Int)
 ·have yI:64<jD s l t:=ad
  have hd:qp s l t=false:=(pq (p:=False) ⟨False.elim,fun h=>by have:=h.1;unfold jD at yI;omega⟩).symm.trans (by simp)
  rw[jD]at yH
  (have zF:=tw @ae.eq_1 (tw @yH @fC);(repeat(first|((repeat(revert N;apply Pn.out));refine wk zF ?_;(repeat(apply Pn.mk;intro N hN)))|((try apply Or.inl);refine⟨_,ax.x (Cr) (sd zF),?_⟩;apply hN;clear hN N)|((try apply Or.inl);refine⟨_,ax.x (Qd) (sd zF),?_⟩;apply hN;clear hN N)));try clear zF)
  exact km (.inl rfl) (r1:=.bool false) (r2:=.int .i64 4) (sd @Nat.zero_add) (sd @Nat.zero_add) (by rw[hd,wZ,if_pos yI];simp only[gj,cF,dq,gi,eT,Option.map_some])
 have yI:¬64<jD s l t:=ad
 have hf:wZ s l t=0:=by rw[wZ,if_neg yI]
 by_cases h2:(jD s l t:Int)<2
 ·have hd:qp s l t=true:=(pq (p:=True) ⟨fun _=>⟨by unfold jD at yI;omega,Cx (by unfold jD at h2;omega)⟩,fun _=>trivial⟩).symm.trans (by simp)
  rw[jD]at yH h2
  (have zF:=tw @ae.eq_1 (tw @yH (tw @h2 @fC));(repeat(first|((repeat(revert N;apply Pn.out));refine wk zF ?_;(repeat(apply Pn.mk;intro N hN)))|((try apply Or.inl);refine⟨_,ax.x (Cr) (sd zF),?_⟩;apply hN;clear hN N)|((try apply Or.inl);refine⟨_,ax.x (Qd) (sd zF),?_⟩;apply hN;clear hN N)));try clear zF)
  exact km (.inl rfl) (r1:=.bool true) (r2:=.int .i64 0) (sd @Nat.zero_add) (sd @Nat.zero_add) (by rw[hd,hf];simp only[gj,cF,dq,gi,eT,Option.map_some])
 have Vy:=DS (jD s l t) ad (by unfold jD;omega) (gD (fu (bV t (ea s l))) (ea s l)) (fun e he=>by have:=gS _ (M7 he);exact⟨this.1,this.2.1,this.2.2.1⟩) ad (fun e he=>by
  obtain⟨_,_,_,c,hc,eD⟩:=gS _ (M7 he)
  rw[eD];have:=hb c hc;omega)
 rw[jD]at yH h2 Vy
 (have zF:=tw @ae.eq_1 (tw @yH (tw @h2 @fC));(repeat(first|((repeat(revert N;apply Pn.out));refine wk zF ?_;(repeat(apply Pn.mk;intro N hN)))|((try apply Or.inl);refine⟨_,ax.x (Cr) (sd zF),?_⟩;apply hN;clear hN N)|((try apply Or.inl);refine⟨_,ax.x (Qd) (sd zF),?_⟩;apply hN;clear hN N)));try clear zF)
 refine .inr (aH _ _ _ _ _ (fun r σ1 hq=>?_) (Vy.x mixed))
 obtain⟨⟨kH,p,rfl,YR⟩,rfl⟩:=hq
 apply hN
 clear hN N
 (try((repeat(revert N;apply Pn.out));refine wk @Nat.zero_add ?_;(repeat(apply Pn.mk;intro N hN))))
 exact km (.inl rfl) (r1:=.bool (decide (t<=kH))) (r2:=.int .i64 0) (sd @Nat.zero_add) (sd @Nat.zero_add) (by
  rw[hf,pq (s:=s) (l:=l) (t:=t) (p:=t<=kH) ((YR t).trans (H8.trans ⟨fun h=>⟨by unfold jD at yI;omega,h⟩,fun h=>h.2⟩))]
  simp only[gj,cF,dq,gi,eT,Option.map_some])
theorem xl (t:Int):ax Tryz.prog 64 [.int .i64 t] (.bool (iW t 1 16)):=by
 refine ax.body fW rfl fun hl n0=>?_
 clear hl
 have h:=mJ t 1 16
 (repeat(first|((repeat(revert N;apply Pn.out));refine wk @Nat.zero_add ?_;(repeat(apply Pn.mk;intro N hN)))|((try apply Or.inl);refine⟨_,ax.x (h) (sd @Nat.zero_add),?_⟩;apply hN;clear hN N)))
 exact di (b:=iW t 1 16) (.inl rfl) (sd @Nat.zero_add) rfl
structure jz (s:au):Prop where
 set:gL s.az
 s9:iS s.az s.dc.ai
 some:1<=s.dc.ai.length
 wi:iW s.aI 1 16=true
 holds:nZ s.dc.ai.length (ea s.az s.dc.ai) s.aI
noncomputable def nW (s:au):Bool:=@decide (jz s) (Classical.propDecidable _)
theorem nJ {s:au}:nW s=true↔jz s:=by simp[nW]
theorem lQ {s:au} (h:¬jz s):false=nW s:=by simp[nW,h]
theorem GW {s:au} (h:jz s):true=nW s:=by simp[nW,h]
theorem sO {s:ay} {l:List aa} {t:Int}:qp s l t=true↔nZ l.length (ea s l) t:=by simp[qp]
theorem Rx (s:au) (hn:kE s.az) (hg:s.az.aQ.length<=1048576) (ht:s.az.ai.length<=1048576):ax Tryz.prog 27 [.er (dh s)] (.bool (nW s)):=by
 refine ax.body fW rfl fun hl n0=>?_
 clear hl
 have h1:=(Rt s.az hn hg ht).cut mixed (.ptr _ [.sl (s.dc.ai.map ab),.int .i64 s.aI] .nil)
 by_cases hS:gL s.az
 ·rw[pk.2 hS]at h1
  have h2:=(Rv s.az s.dc.ai).cut mixed (.ptr _ [.sl (s.dc.ai.map ab),.int .i64 s.aI] (.ptr _ [.int .i64 s.aI] .nil))
  by_cases hA:iS s.az s.dc.ai
  ·rw[oV.2 hA]at h2
   by_cases h0:(s.dc.ai.length:Int)=0
   ·have hd:decide ((s.dc.ai.length:Int)=0)=true:=decide_eq_true h0
    have mH:false=nW s:=lQ fun h=>by have:=h.some;omega
    generalize fC:(s.dc.ai.map ab).length=len at *
    (have zF:=tw @dh.eq_1 (tw @ae.eq_1 @hd);(repeat(first|((repeat(revert N;apply Pn.out));refine wk zF ?_;(repeat(apply Pn.mk;intro N hN)))|((try apply Or.inl);refine⟨_,ax.x (h1) (sd zF),?_⟩;apply hN;clear hN N)|((try apply Or.inl);refine⟨_,ax.x (h2) (sd zF),?_⟩;apply hN;clear hN N)));try clear zF)
    exact di (b:=false) (.inl rfl) (sd @Nat.zero_add) mH
   ·have hd:decide ((s.dc.ai.length:Int)=0)=false:=decide_eq_false h0
    have h3:=xl s.aI
    cases hT:iW s.aI 1 16
    ·rw[hT]at h3
     (have zF:=tw @dh.eq_1 (tw @ae.eq_1 @hd);(repeat(first|((repeat(revert N;apply Pn.out));refine wk zF ?_;(repeat(apply Pn.mk;intro N hN)))|((try apply Or.inl);refine⟨_,ax.x (h1) (sd zF),?_⟩;apply hN;clear hN N)|((try apply Or.inl);refine⟨_,ax.x (h2) (sd zF),?_⟩;apply hN;clear hN N)|((try apply Or.inl);refine⟨_,ax.x (h3) (sd zF),?_⟩;apply hN;clear hN N)));try clear zF)
     exact di (b:=false) (.inl rfl) (sd @Nat.zero_add) (lQ fun h=>by have:=h.wi;rw[hT]at this;cases this)
    ·rw[hT]at h3
     have h4:=(Gn s.az s.dc.ai s.aI hS hA).cut mixed (.ptr _ [.sl (s.dc.ai.map ab),.int .i64 s.aI] (.ptr _ [.int .i64 s.aI] (.same _ .nil)))
     cases hB:qp s.az s.dc.ai s.aI
     ·rw[hB]at h4
      (have zF:=tw @dh.eq_1 (tw @ae.eq_1 @hd);(repeat(first|((repeat(revert N;apply Pn.out));refine wk zF ?_;(repeat(apply Pn.mk;intro N hN)))|((try apply Or.inl);refine⟨_,ax.x (h1) (sd zF),?_⟩;apply hN;clear hN N)|((try apply Or.inl);refine⟨_,ax.x (h2) (sd zF),?_⟩;apply hN;clear hN N)|((try apply Or.inl);refine⟨_,ax.x (h3) (sd zF),?_⟩;apply hN;clear hN N)|((try apply Or.inl);refine⟨_,ax.x (h4) (sd zF),?_⟩;apply hN;clear hN N)));try clear zF)
      exact di (b:=false) (.inl rfl) (sd @Nat.zero_add) (lQ fun h=>by have:=sO.2 h.holds;rw[hB]at this;cases this)
     ·have hP:=sO.1 hB
      have hf:wZ s.az s.dc.ai s.aI=0:=by
       have:=hP.1
       rw[wZ,if_neg (by unfold jD;omega)]
      rw[hB,hf]at h4
      (have zF:=tw @dh.eq_1 (tw @ae.eq_1 @hd);(repeat(first|((repeat(revert N;apply Pn.out));refine wk zF ?_;(repeat(apply Pn.mk;intro N hN)))|((try apply Or.inl);refine⟨_,ax.x (h1) (sd zF),?_⟩;apply hN;clear hN N)|((try apply Or.inl);refine⟨_,ax.x (h2) (sd zF),?_⟩;apply hN;clear hN N)|((try apply Or.inl);refine⟨_,ax.x (h3) (sd zF),?_⟩;apply hN;clear hN N)|((try apply Or.inl);refine⟨_,ax.x (h4) (sd zF),?_⟩;apply hN;clear hN N)));try clear zF)
      exact di (b:=true) (.inl rfl) (sd @Nat.zero_add) (GW ⟨hS,hA,ad,hT,hP⟩)
  ·have hb:uI s.az s.dc.ai=false:=Bool.eq_false_iff.2 fun h=>hA (oV.1 h)
   rw[hb]at h2
   (repeat(first|((repeat(revert N;apply Pn.out));refine wk (tw @dh.eq_1 @ae.eq_1) ?_;(repeat(apply Pn.mk;intro N hN)))|((try apply Or.inl);refine⟨_,ax.x (h1) (sd (tw @dh.eq_1 @ae.eq_1)),?_⟩;apply hN;clear hN N)|((try apply Or.inl);refine⟨_,ax.x (h2) (sd (tw @dh.eq_1 @ae.eq_1)),?_⟩;apply hN;clear hN N)))
   exact di (b:=false) (.inl rfl) (sd @Nat.zero_add) (lQ fun h=>hA h.s9)
 ·have hb:wc s.az=false:=Bool.eq_false_iff.2 fun h=>hS (pk.1 h)
  rw[hb]at h1
  (repeat(first|((repeat(revert N;apply Pn.out));refine wk (tw @dh.eq_1 @ae.eq_1) ?_;(repeat(apply Pn.mk;intro N hN)))|((try apply Or.inl);refine⟨_,ax.x (h1) (sd (tw @dh.eq_1 @ae.eq_1)),?_⟩;apply hN;clear hN N)))
  exact di (b:=false) (.inl rfl) (sd @Nat.zero_add) (lQ fun h=>hS h.set)
theorem Sd {s:ay} (hS:gL s) (a d:Int):0<=nV s (bZ (bz s a) d):=by
 have hF:=hS.form
 have gS:bZ (bz s a) d=0∨(0<=bZ (bz s a) d/\bZ (bz s a) d<=s.aQ.length):=by
  unfold bZ bz
  rw[List.getD_eq_getElem?_getD,List.getD_eq_getElem?_getD]
  rcases ht:s.ai[a.toNat]? with _|t
  ·exact .inl (by simp[xt])
  ·have ZA:=List.mem_of_getElem? ht
   simp only[Option.getD_some]
   rcases hg:t.de[d.toNat]? with _|g
   ·exact .inl rfl
   ·exact .inr (hF.mu t ZA g (List.mem_of_getElem? hg))
 unfold nV
 by_cases h0:bZ (bz s a) d=0
 ·rw[if_pos h0];omega
 ·rw[if_neg h0]
  have hk:(bZ (bz s a) d-1).toNat<s.aQ.length:=ad
  have:=eo (hS.Xw _ hk).2.1
  unfold qk at this
  unfold ni
  omega
theorem zE {s:ay} (hS:gL s) (a d b:Int):0<=fM s a d b/\fM s a d b<=4:=by
 refine⟨?_,Fe hS a d b⟩
 unfold fM
 split
 ·exact Sd hS a d
 ·omega
def ef (s:ay) (f:aq->Int) (p:aq) (t:Int):Nat->Int
 |0=>0
 |d+1=>ef s f p t d+if 0<=f (cj p d)then fM s t d (f (cj p d))else 0
def lr (s:ay) (f:aq->Int) (p:aq) (t:Int):Int:=ef s f p t 4
theorem lS {s:ay} (hS:gL s) (f:aq->Int) (p:aq) (t:Int):∀d,0<=ef s f p t d/\ef s f p t d<=4*(d:Int)
 |0=>⟨Int.le_refl _,Int.le_refl _⟩
 |d+1=>by
  have:=lS hS f p t d
  have hb:=zE hS t d (f (cj p d))
  simp only[ef]
  split<;>omega
theorem M4 {s:ay} {l:List aa} (hA:iS s l) {p:aq} (h:0<=fy l p):eF s (fy l p)=true:=by
 unfold fy at h ⊢
 split at h
 ·rename_i h0
  rw[if_pos h0]
  exact hA.2 _ (gG (j3 h0).1)
 ·omega
def zl (la lb:List aa):Bool:=la.all fun t=>decide (fy lb t.bf=t.bc)
noncomputable def T7 (s:au) (l:List aa):Bool:=nW s&&uI s.az l
theorem Ye {s:au} {l:List aa}:T7 s l=true↔jz s/\iS s.az l:=by simp[T7,nJ,oV]
noncomputable def overN (s:au) (l:List aa):Int:=if T7 s l then(if zl s.dc.ai l then 0 else 2)else 1
theorem GZ {s:ay} {k:Nat} (h:k<s.ai.length):eF s k=true:=by
 unfold eF;exact j7 ad
theorem wO {s:ay} {l:List aa} (hA:iS s l) (p:aq):fy l p<0↔eO l p<0:=by
 constructor
 ·intro h
  rcases Int.lt_or_le (eO l p) 0 with h0|h0
  ·exact h0
  ·exfalso
   obtain⟨h1,_⟩:=j3 h0
   have h2:=(eo (hA.2 _ (gG h1))).1
   rw[fy,if_pos h0]at h
   omega
 ·intro h
  rw[fy,if_neg ad];omega
def kD (ps:List aq) (i:Nat):aq:=ps.getD i ⟨0,0⟩
theorem lH {ps:List aq} {i:Nat} (h:i<ps.length):kD ps i=ps[i]:=by simp[kD,List.getD_eq_getElem?_getD,h]
theorem Ed {ps:List aq} {i:Nat} (h:i<ps.length):kD ps i∈ps:=by rw[lH h];exact List.getElem_mem h
theorem ym {ps:List aq} {i:Nat} (h:i<ps.length):(ps.map ah)[i]? =some (ah (kD ps i)):=by simp[kD,List.getD_eq_getElem?_getD,h]
def pH (ps:List aq):Prop:=ps.Pairwise fun a b=>jN a b=true
theorem pH.at_ {ps:List aq} (h:pH ps) {i j:Nat} (Ct:i<j) (hj:j<ps.length):jN (kD ps i) (kD ps j)=true:=by
 rw[lH hj,lH ad]
 exact List.pairwise_iff_getElem.1 h i j ad hj Ct
def lE (ps:List aq) (p:aq):Nat:=ps.findIdx fun q=> !jN q p
theorem DY (ps:List aq) (p:aq):lE ps p<=ps.length:=List.findIdx_le_length
theorem J1 {ps:List aq} {p:aq} {x:Nat} (h:x<lE ps p):jN (kD ps x) p=true:=by
 have hx:x<ps.length:=Nat.lt_of_lt_of_le h (DY ps p)
 have:=List.not_of_lt_findIdx h
 rw[lH hx]
 simpa using this
theorem DX {ps:List aq} {p:aq} (hR:pH ps) {x:Nat} (h:lE ps p<=x) (hx:x<ps.length):jN (kD ps x) p=false:=by
 have h0:lE ps p<ps.length:=ad
 have h1:jN (kD ps (lE ps p)) p=false:=by
  have:=List.findIdx_getElem (p:=fun q=> !jN q p) (xs:=ps) (w:=h0)
  rw[lH h0]
  have e:(!jN ps[lE ps p] p)=true:=this
  simpa using e
 by_cases he:lE ps p=x
 ·rw[<-he];exact h1
 ·have h2:=hR.at_ (show lE ps p<x by omega) hx
  cases hc:jN (kD ps x) p
  ·rfl
  ·rw[iX h2 hc]at h1;cases h1
def s8 (ps:List aq) (p:aq):List aq:=if lE ps p<ps.length/\kD ps (lE ps p)=p then ps else ps.take (lE ps p)++p::ps.drop (lE ps p)
theorem O1 (ps:List aq) (p:aq):(s8 ps p).length<=ps.length+1:=by
 unfold s8
 have:=DY ps p
 split
 ·omega
 ·simp;omega
theorem OC (ps:List aq) (p x:aq):x∈s8 ps p↔x=p∨x∈ps:=by
 unfold s8
 split
 ·rename_i h
  refine⟨.inr,fun hx=>hx.elim (fun e=>?_) id⟩
  rw[e,<-h.2];exact Ed h.1
 ·have:x∈ps↔x∈ps.take (lE ps p)++ps.drop (lE ps p):=by rw[List.take_append_drop]
  rw[this]
  simp only[List.mem_append,List.mem_cons]
  constructor
  ·rintro(h|h|h)
   ·exact .inr (.inl h)
   ·exact .inl h
   ·exact .inr (.inr h)
  ·rintro(h|h|h)
   ·exact .inr (.inl h)
   ·exact .inl h
   ·exact .inr (.inr h)
theorem O2 {ps:List aq} (hR:pH ps) (p:aq):pH (s8 ps p):=by
 unfold s8
 split
 ·exact hR
 ·rename_i mH
  have hd:∀x∈ps.drop (lE ps p),jN p x=true:=fun x hx=>by
   obtain⟨j,hj,rfl⟩:=List.getElem_of_mem hx
   rw[List.length_drop]at hj
   rw[List.getElem_drop]
   have iP:lE ps p+j<ps.length:=ad
   have h1:=DX (p:=p) hR (Nat.le_add_right _ j) iP
   rw[<-lH iP]
   refine zf h1 fun he=>?_
   by_cases h0:j=0
   ·subst h0
    exact mH ⟨ad,by simpa using he⟩
   ·have:=hR.at_ (show lE ps p<lE ps p+j by omega) iP
    rw[he]at this
    have h2:=DX (p:=p) hR (Nat.le_refl _) (show lE ps p<ps.length by omega)
    rw[this]at h2;cases h2
  have ht:∀x∈ps.take (lE ps p),jN x p=true:=fun x hx=>by
   obtain⟨j,hj,rfl⟩:=List.getElem_of_mem hx
   rw[List.length_take]at hj
   rw[List.getElem_take]
   have:=J1 (ps:=ps) (p:=p) (x:=j) ad
   rwa [lH ad]at this
  refine List.pairwise_append.2 ⟨hR.sublist (List.take_sublist _ _),List.pairwise_cons.2 ⟨hd,hR.sublist (List.drop_sublist _ _)⟩,fun x hx y hy=>?_⟩
  rcases List.mem_cons.1 hy with rfl|hy
  ·exact ht x hx
  ·exact iX (ht x hx) (hd y hy)
theorem J8:∀{ps qs:List aq},pH ps->pH qs->(∀x,x∈ps↔x∈qs)->ps=qs
 |[],[],_,_,_=>rfl
 |[],q::qs,_,_,h=>absurd ((h q).2 (by simp)) (by simp)
 |p::ps,[],_,_,h=>absurd ((h p).1 (by simp)) (by simp)
 |p::ps,q::qs,hp,hq,h=>by
  obtain⟨p1,p2⟩:=List.pairwise_cons.1 hp
  obtain⟨q1,q2⟩:=List.pairwise_cons.1 hq
  have e:p=q:=by
   rcases List.mem_cons.1 ((h p).1 (by simp))with e|e
   ·exact e
   ·rcases List.mem_cons.1 ((h q).2 (by simp))with e'|e'
    ·exact e'.symm
    ·have:=Gr (q1 p e)
     rw[p1 q e']at this;cases this
  subst e
  congr 1
  refine J8 p2 q2 fun x=>⟨fun hx=>?_,fun hx=>?_⟩
  ·rcases List.mem_cons.1 ((h x).1 (List.mem_cons_of_mem _ hx))with e|e
   ·subst e;have:=p1 x hx;rw[iU]at this;cases this
   ·exact e
  ·rcases List.mem_cons.1 ((h x).2 (List.mem_cons_of_mem _ hx))with e|e
   ·subst e;have:=q1 x hx;rw[iU]at this;cases this
   ·exact e
def X7 (σ:aw) (kp:Id->Prop) (ps:List aq) (r:AV) (σ':aw):Prop:=
 ∃o:Id,r=.own o 0 ps.length/\σ'.get o=some ⟨true,2,ps.map ah⟩/\σ.next<=σ'.next/\o.bt<σ'.next/\(σ.next<=o.bt∨¬kp o)/\∀x:Id,x.bt<σ.next->kp x->σ'.get x=σ.get x
theorem Ty {ps:List aq} {i:Nat} {q:aq}:(ps.map ah).set i (ah q)=(ps.set i q).map ah:=List.map_set.symm
def C4 (ps:List aq) (p:aq) (i:Nat):List aq:=(ps++[p]).take (i+1)++ps.drop i
theorem sS (ps:List aq) (p:aq) {i:Nat} (h:i<=ps.length):(C4 ps p i).length=ps.length+1:=by simp[C4];omega
theorem Wk {ps:List aq} {p:aq} {i j:Nat} (hi:i<=ps.length) (hj:j<i):kD (C4 ps p i) j=kD ps j:=by
 unfold kD C4
 rw[List.getD_eq_getElem?_getD,List.getD_eq_getElem?_getD,List.getElem?_append_left (by simp;omega),List.getElem?_take,if_pos ad,List.getElem?_append_left ad]
theorem Ma (ps:List aq) (p:aq):C4 ps p ps.length=ps++[p]:=by
 unfold C4
 rw[List.drop_length,List.append_nil,List.take_of_length_le (by simp)]
theorem PD {ps:List aq} {p:aq} {i:Nat} (hi:i<ps.length):(C4 ps p (i+1)).set (i+1) (kD ps i)=C4 ps p i:=by
 refine List.ext_getElem? fun j=>?_
 rw[List.getElem?_set,sS ps p ad]
 unfold C4
 by_cases hj:i+1=j
 ·subst hj
  rw[if_pos rfl,if_pos ad,List.getElem?_append_right (by simp;omega)]
  simp only[List.length_take,List.length_append,List.length_cons,List.length_nil]
  rw[show i+1-min (i+1) (ps.length+(0+1))=0 by omega,List.getElem?_drop,Nat.add_zero,List.getElem?_eq_getElem hi,lH hi]
 ·rw[if_neg hj]
  by_cases eP:j<i+1
  ·rw[List.getElem?_append_left (by simp;omega),List.getElem?_append_left (by simp;omega),List.getElem?_take,List.getElem?_take,if_pos ad,if_pos eP]
  ·rw[List.getElem?_append_right (by simp;omega),List.getElem?_append_right (by simp;omega)]
   simp only[List.length_take,List.length_append,List.length_cons,List.length_nil,List.getElem?_drop]
   congr 1
   omega
theorem Sj {ps:List aq} {p:aq} {i:Nat} (hi:i<=ps.length):(C4 ps p i).set i p=ps.take i++p::ps.drop i:=by
 refine List.ext_getElem? fun j=>?_
 rw[List.getElem?_set,sS ps p hi]
 unfold C4
 by_cases hj:i=j
 ·subst hj
  rw[if_pos rfl,if_pos ad,List.getElem?_append_right (by simp;omega)]
  simp[Nat.min_eq_left hi]
 ·rw[if_neg hj]
  by_cases eP:j<i
  ·rw[List.getElem?_append_left (by simp;omega),List.getElem?_append_left (by simp;omega),List.getElem?_take,List.getElem?_take,if_pos ad,if_pos eP,List.getElem?_append_left ad]
  ·rw[List.getElem?_append_right (by simp;omega),List.getElem?_append_right (by simp;omega)]
   simp only[List.length_take,List.length_append,List.length_cons,List.length_nil]
   rw[show j-min i ps.length=(j-i-1)+1 by omega,List.getElem?_cons_succ]
   congr 1
   omega
theorem Kp {X:im} {Q:Ex->Env->aw->Prop} {N:Env->aw->Prop} {c:VC} {env:Env} {σ:aw} {id:Nat} (I:Env->aw->Prop) (h2:∀e s,I e s->N e s) (h1:∀N':Env->aw->Prop,(∀e s,I e s->N' e s)->eu X c (bd id (dr N' Q)) env σ):eu X c (bd id (dr N Q)) env σ:=h1 N h2
theorem BP (ps:List aq) (hR:pH ps) (hlen:ps.length<=1048576) (p:aq) (o:Id) (σ:aw) (ho:σ.get o=some ⟨true,2,ps.map ah⟩) (wI:o.bt<σ.next):
  Call Tryz.prog 34 [.own o 0 ps.length,.agg (ah p)] σ (X7 σ (fun x=>(x=o)=False) (s8 ps p)):=by
 refine fV fW rfl fun jd=>?_
 clear jd
 have qn:=dp wI
 have hlw:=DY ps p
 have EM:(ps.map ah).length=ps.length:=by simp
 (try((repeat(revert N;apply Pn.out));refine wk (tw @ah.eq_1 @qn) ?_;(repeat(apply Pn.mk;intro N hN))))
 refine Kp (fun e s=>e 5=.int .i64 (lE ps p:Int)/\e 0=.own o 0 ps.length/\e 3=.ptr ⟨34000000,σ.next⟩ 0 0/\s.get ⟨34000000,σ.next⟩=some ⟨true,2,[ah p]⟩/\s.get o=some ⟨true,2,ps.map ah⟩/\σ.next<s.next/\∀x:Id,x.bt<σ.next->s.get x=σ.get x) ?_ ?_
 ·rintro e s ⟨f5,f0,f3,fg0,fg1,fn,ffr⟩
  apply hN
  clear hN N
  have Rf:=dp (i:=o) (n:=s.next) ad
  obtain⟨a,ha⟩:∃a,lE ps p=a:=⟨_,rfl⟩
  rw[ha]at f5 hlw
  by_cases hex:a<ps.length/\kD ps a=p
  ·have eP:(a:Int)<(ps.length:Int):=ad
   have hg:=ym hex.1
   have hx:decide ((kD ps a).fE=p.fE)=true:=decide_eq_true (by rw[hex.2])
   have hy:decide ((kD ps a).fw=p.fw)=true:=decide_eq_true (by rw[hex.2])
   (try((repeat(revert N;apply Pn.out));refine wk (tw @f5 (tw @f0 (tw @f3 (tw @fg0 (tw @fg1 (tw @eP (tw @hg (tw @hx (tw @hy (tw @EM @ah.eq_1)))))))))) ?_;(repeat(apply Pn.mk;intro N hN))))
   have hp:s8 ps p=ps:=by unfold s8;rw[ha,if_pos hex]
   rw[hp]
   exact fc (.inl rfl) (vs:=[.own o 0 ps.length]) (sd @Nat.zero_add) ⟨o,rfl,sd @fg1,bp,bp,.inr (by simp),fun x hx _=>sd (ffr x hx)⟩
  refine G4 (fun N hN=>?_)
  refine uu (fun e s=>e 5=.int .i64 (a:Int)/\e 0=.own o 0 ps.length/\e 3=.ptr ⟨34000000,σ.next⟩ 0 0/\s.get ⟨34000000,σ.next⟩=some ⟨true,2,[ah p]⟩/\s.get o=some ⟨true,2,ps.map ah⟩/\σ.next<s.next/\∀x:Id,x.bt<σ.next->s.get x=σ.get x) ?_ ?_
  ·clear f5 f0 f3 fg0 fg1 fn ffr Rf
   rintro e s ⟨f5,f0,f3,fg0,fg1,fn,ffr⟩
   apply hN
   clear hN N
   have Rf:=dp (i:=o) (n:=s.next) ad
   have XQ:=dp (i:=⟨34000000,σ.next⟩) (n:=s.next) fn
   have e1:ps.length+1<=16777216:=ad
   have s5:ps.map ah++[[.int .i64 p.fE,.int .i64 p.fw]]=(C4 ps p ps.length).map ah:=by rw[Ma];simp[ah]
   have tk:IntKind.i64.wrap ((ps.length:Int)+1-1)=(ps.length:Int):=by rw[dj ad];omega
   have hp:s8 ps p=ps.take a++p::ps.drop a:=by unfold s8;rw[ha,if_neg hex]
   have Tf:((⟨34000000,σ.next⟩:Id)=o)=False:=by
    refine eq_false fun h=>?_
    rw[<-h]at wI;exact Nat.lt_irrefl _ wI
   (try((repeat(revert N;apply Pn.out));refine wk (tw @f5 (tw @f0 (tw @f3 (tw @fg0 (tw @fg1 (tw @Rf (tw @XQ (tw @Tf (tw @EM (tw @e1 (tw @s5 (tw @tk (tw @Int.natCast_add (tw @Int.cast_ofNat_Int @ah.eq_1)))))))))))))) ?_;(repeat(apply Pn.mk;intro N hN))))
   refine cm (fun m env st=>∃i:Nat,m=i/\a<=i/\i<=ps.length/\env 6=.int .i64 (i:Int)/\st.get ⟨34006003,s.next⟩=some ⟨true,2,(C4 ps p i).map ah⟩/\st.get ⟨34000000,σ.next⟩=some ⟨true,2,[ah p]⟩/\s.next<st.next/\∀x:Id,x.bt<σ.next->(x=o)=False->st.get x=σ.get x) ps.length ⟨ps.length,rfl,hlw,Nat.le_refl _,sd (tw @tk (tw @Int.natCast_add @Int.cast_ofNat_Int)),sd @s5,sd (tw @fg0 (tw @XQ (tw @Tf @ah.eq_1))),bp,fun x hx ER=>by
    have h1:=dp (i:=x) (n:=s.next) ad
    have h2:=ffr x hx
    simp only[go_sem, ↓reduceIte,Nat.reduceEqDiff,Nat.reduceAdd,Nat.reduceSub,Nat.reduceLeDiff,reduceCtorEq,h1,h2,ER]⟩ ?_
   rintro m env_b st_b ⟨i,hmi,bl,ble,b6,bg0,bg1,bn,fb⟩ bkp
   have b0:=bkp 0 (by kernel_rfl)
   have b3:=bkp 3 (by kernel_rfl)
   have b5:=bkp 5 (by kernel_rfl)
   simp only[go_sem, ↓reduceIte,Nat.reduceEqDiff,Nat.reduceAdd,Nat.reduceSub,Nat.reduceLeDiff,reduceCtorEq,f0,f3,f5,ah]at b0 b3 b5
   clear bkp
   have Rb:((C4 ps p i).map ah).length=ps.length+1:=by rw[List.length_map,sS ps p ble]
   by_cases P4:(a:Int)<(i:Int)
   ·obtain⟨k,rfl⟩:∃k,i=k+1:=⟨i-1,ad⟩
    have ji:k<ps.length:=ad
    have sn:IntKind.i64.wrap (((k+1:Nat):Int)-1)=(k:Int):=by rw[dj ad];omega
    have hq:((C4 ps p (k+1)).map ah)[k]? =some (ah (kD ps k)):=by rw[ym (by rw[sS ps p ble];omega),Wk ble (Nat.lt_succ_self _)]
    have JQ:∃z,((C4 ps p (k+1)).map ah)[k+1]? =some (ah z):=⟨_,ym (by rw[sS ps p ble];omega)⟩
    obtain⟨z,JQ⟩:=JQ
    have fU:((C4 ps p (k+1)).map ah).set (k+1) (ah (kD ps k))=(C4 ps p k).map ah:=by rw[Ty,PD ji]
    have c1:(k:Int)<(ps.length:Int)+1:=ad
    have c2:(k:Int)+1<(ps.length:Int)+1:=ad
    have c3:(0:Int)<=(k:Int)+1:=ad
    have c4:((k:Int)+1).toNat=k+1:=ad
    have c5:(a:Int)<(k:Int)+1:=ad
    have c6:IntKind.i64.wrap ((k:Int)+1-1)=(k:Int):=by rw[dj ad];omega
    rw[ah]at fU hq JQ
    (try((repeat(revert N;apply Pn.out));refine wk (tw @b0 (tw @b3 (tw @b5 (tw @b6 (tw @bg0 (tw @bg1 (tw @P4 (tw @sn (tw @hq (tw @JQ (tw @fU (tw @Rb (tw @c1 (tw @c2 (tw @c3 (tw @c4 (tw @c5 (tw @c6 (tw @Int.natCast_add @Int.cast_ofNat_Int))))))))))))))))))) ?_;(repeat(apply Pn.mk;intro N hN))))
    exact⟨k,ad,k,rfl,ad,ad,sd @c6,sd @fU,sd (tw @bg1 @Tf),bp,fun x hx ER=>by
     have h1:=dp (i:=x) (n:=s.next) ad
     have h2:=fb x hx ER
     simp only[go_sem, ↓reduceIte,Nat.reduceEqDiff,Nat.reduceAdd,Nat.reduceSub,Nat.reduceLeDiff,reduceCtorEq,h1,h2]⟩
   ·obtain rfl:i=a:=ad
    have fU:((C4 ps p i).map ah).set i (ah p)=(s8 ps p).map ah:=by rw[Ty,Sj hlw,hp]
    have JQ:∃z,((C4 ps p i).map ah)[i]? =some (ah z):=⟨_,ym (by rw[sS ps p ble];omega)⟩
    obtain⟨z,JQ⟩:=JQ
    have mN:(s8 ps p).length=ps.length+1:=by rw[hp];simp;omega
    have c1:(i:Int)<(ps.length:Int)+1:=ad
    rw[ah]at fU JQ
    (try((repeat(revert N;apply Pn.out));refine wk (tw @b0 (tw @b3 (tw @b5 (tw @b6 (tw @bg0 (tw @bg1 (tw @P4 (tw @JQ (tw @fU (tw @Rb (tw @c1 (tw @Int.natCast_add (tw @Int.cast_ofNat_Int @ah.eq_1))))))))))))) ?_;(repeat(apply Pn.mk;intro N hN))))
    rw[<-mN]
    exact fc (.inl rfl) (vs:=[.own ⟨34006003,s.next⟩ 0 (s8 ps p).length]) (sd (tw @b0 @mN)) ⟨⟨34006003,s.next⟩,rfl,sd @fU,bp,bp,.inl bp,fun x hx ER=>by
     have h1:=dp (i:=x) (n:=s.next) ad
     have h2:=fb x hx ER
     simp only[go_sem, ↓reduceIte,Nat.reduceEqDiff,Nat.reduceAdd,Nat.reduceSub,Nat.reduceLeDiff,reduceCtorEq,h1,h2]⟩
  ·intro N hN
   by_cases PZ:(a:Int)<(ps.length:Int)
   ·have hg:=ym (ps:=ps) (i:=a) ad
    by_cases hx:(kD ps a).fE=p.fE
    ·have wK:decide ((kD ps a).fE=p.fE)=true:=decide_eq_true hx
     have hy':decide ((kD ps a).fw=p.fw)=false:=decide_eq_false fun h=>hex ⟨ad,AM hx h⟩
     (try((repeat(revert N;apply Pn.out));refine wk (tw @f5 (tw @f0 (tw @f3 (tw @fg0 (tw @fg1 (tw @PZ (tw @hg (tw @wK (tw @hy' (tw @EM @ah.eq_1)))))))))) ?_;(repeat(apply Pn.mk;intro N hN))))
     exact⟨sd @f5,sd @f0,sd @f3,sd (tw @fg0 @ah.eq_1),sd @fg1,bp,fun x hx=>sd (ffr x hx)⟩
    ·have wK:decide ((kD ps a).fE=p.fE)=false:=decide_eq_false hx
     (try((repeat(revert N;apply Pn.out));refine wk (tw @f5 (tw @f0 (tw @f3 (tw @fg0 (tw @fg1 (tw @PZ (tw @hg (tw @wK (tw @Bool.false_and (tw @EM @ah.eq_1)))))))))) ?_;(repeat(apply Pn.mk;intro N hN))))
     exact⟨sd @f5,sd @f0,sd @f3,sd (tw @fg0 @ah.eq_1),sd @fg1,bp,fun x hx=>sd (ffr x hx)⟩
   ·(try((repeat(revert N;apply Pn.out));refine wk (tw @f5 (tw @f0 (tw @f3 (tw @fg0 (tw @fg1 (tw @PZ (tw @EM @ah.eq_1))))))) ?_;(repeat(apply Pn.mk;intro N hN))))
    exact⟨sd @f5,sd @f0,sd @f3,sd (tw @fg0 @ah.eq_1),sd @fg1,bp,fun x hx=>sd (ffr x hx)⟩
 intro N hN
 refine cm (fun m env st=>∃a:Nat,m=a/\lE ps p<=a/\a<=ps.length/\env 5=.int .i64 (a:Int)/\st.get ⟨34000000,σ.next⟩=some ⟨true,2,[ah p]⟩/\st.get o=some ⟨true,2,ps.map ah⟩/\σ.next<st.next/\∀x:Id,x.bt<σ.next->st.get x=σ.get x) ps.length ⟨ps.length,rfl,hlw,Nat.le_refl _,sd @Nat.zero_add,sd @ah.eq_1,sd (tw @qn @ho),bp,fun x hx=>by have:=dp hx;simp only[go_sem, ↓reduceIte,Nat.reduceEqDiff,Nat.reduceAdd,Nat.reduceSub,Nat.reduceLeDiff,reduceCtorEq,this]⟩ ?_
 rintro m env_a st_a ⟨a,hma,al,ale,a5,ag0,ag1,an,eJ⟩ akp
 have a0:=akp 0 (by kernel_rfl)
 have a3:=akp 3 (by kernel_rfl)
 simp only[go_sem, ↓reduceIte,Nat.reduceEqDiff,Nat.reduceAdd,Nat.reduceSub,Nat.reduceLeDiff,reduceCtorEq,ah]at a0 a3
 clear akp
 by_cases h0:(0:Int)<(a:Int)
 ·obtain⟨b,rfl⟩:∃b,a=b+1:=⟨a-1,ad⟩
  have kq:b<ps.length:=ad
  have gV:(b:Int)<(ps.length:Int):=ad
  have hg:=ym kq
  have hw:IntKind.i64.wrap (((b+1:Nat):Int)-1)=(b:Int):=by rw[dj ad];omega
  have hq:=nY (kD ps b) p
  cases hc:jN (kD ps b) p
  ·rw[hc]at hq
   (have zF:=tw @a0 (tw @a3 (tw @a5 (tw @ag0 (tw @ag1 (tw @h0 (tw @gV (tw @hg (tw @hw (tw @EM @ah.eq_1)))))))));(repeat(first|((repeat(revert N;apply Pn.out));refine wk zF ?_;(repeat(apply Pn.mk;intro N hN)))|((try apply Or.inl);refine⟨_,ax.x (hq) (sd zF),?_⟩;apply hN;clear hN N)));try clear zF)
   refine⟨b,ad,b,rfl,?_,ad,sd @hw,sd (tw @ag0 @ah.eq_1),sd @ag1,bp,fun x hx=>sd (eJ x hx)⟩
   rcases Nat.lt_or_ge b (lE ps p)with h|h
   ·rw[J1 h]at hc;cases hc
   ·exact h
  ·rw[hc]at hq
   have kN:lE ps p=b+1:=by
    rcases Nat.lt_or_ge b (lE ps p)with h|h
    ·omega
    ·have:=DX (p:=p) hR h kq
     rw[hc]at this;cases this
   (have zF:=tw @a0 (tw @a3 (tw @a5 (tw @ag0 (tw @ag1 (tw @h0 (tw @gV (tw @hg (tw @hw (tw @EM @ah.eq_1)))))))));(repeat(first|((repeat(revert N;apply Pn.out));refine wk zF ?_;(repeat(apply Pn.mk;intro N hN)))|((try apply Or.inl);refine⟨_,ax.x (hq) (sd zF),?_⟩;apply hN;clear hN N)));try clear zF)
   exact⟨sd (tw @a5 @kN),sd @a0,sd @a3,sd (tw @ag0 @ah.eq_1),sd @ag1,bp,fun x hx=>sd (eJ x hx)⟩
 ·have kN:lE ps p=a:=ad
  (try((repeat(revert N;apply Pn.out));refine wk (tw @a0 (tw @a3 (tw @a5 (tw @ag0 (tw @ag1 (tw @h0 (tw @EM @ah.eq_1))))))) ?_;(repeat(apply Pn.mk;intro N hN))))
  exact⟨sd (tw @a5 @kN),sd @a0,sd @a3,sd (tw @ag0 @ah.eq_1),sd @ag1,bp,fun x hx=>sd (eJ x hx)⟩
def MadeBy (X:Id) (bs:List Int) (A:Nat) (σ:aw) (r:AV) (σ':aw):Prop:=X9 σ.next σ'.get σ'.next r/\iI σ'.get X bs (A+1000)/\lx X σ σ'
def iJ (s:Nat):Prop:=s=59005000∨s=59013011∨s=59021011∨s=59027015∨s=59029008
def oa (s:Nat):Prop:=s=59004002∨s=59011007∨s=59019007
def pJ (s:Nat):Prop:=s=59006001∨s=59013014∨s=59021014∨s=59027018∨s=59029011
def ns (m j:Nat):Nat:=if j=0 then 0 else m+j
def Corn (n0:Nat) (g:Rows) (n:Nat) (B:Id) (a b:Nat):Prop:=∃(og o:Id) (L:List ig) (rows:List (List AV)),g B=some ⟨true,2,[[.own og 0 a,.own o 0 b]]⟩/\L.length=a/\g og=some ⟨true,2,L.map ej⟩/\(∀x∈L,x.bW.size<=64)/\(oa og.site/\n0<=og.bt/\og.bt<n)/\rows.length=b/\g o=some ⟨true,2,rows⟩/\SO iJ n0 g n rows/\pJ o.site/\n0<=o.bt/\o.bt<n
theorem Dq {a b:Id} (h:oa a.site) (k:pJ b.site):(a=b)=False/\(b=a)=False:=by
 have:a≠b:=fun e=>by rw[e]at h;unfold oa at h;unfold pJ at k;omega
 exact⟨eq_false this,eq_false fun e=>this e.symm⟩
theorem Dp {a b:Id} (h:iJ a.site) (k:oa b.site):(a=b)=False/\(b=a)=False:=by
 have:a≠b:=fun e=>by rw[e]at h;unfold iJ at h;unfold oa at k;omega
 exact⟨eq_false this,eq_false fun e=>this e.symm⟩
theorem tH {a b:Id} (h:iJ a.site) (k:pJ b.site):(a=b)=False/\(b=a)=False:=by
 have:a≠b:=fun e=>by rw[e]at h;unfold iJ at h;unfold pJ at k;omega
 exact⟨eq_false this,eq_false fun e=>this e.symm⟩
def X0 (X:Id) (bs:List Int) (A:Nat) (σ:aw) (r:AV) (σ':aw):Prop:=∃(og o sd:Id) (G T2:Nat) (p:aa),r=.agg [.own og 0 G,.own o 0 T2,.own sd 0 1,.int .i64 2]/\Jk σ.next σ'.get σ'.next (.own og 0 G) G/\Jq iJ σ.next σ'.get σ'.next (.own o 0 T2) T2/\(0<G/\0<T2/\G<=100/\T2<=100)/\σ'.get sd=some ⟨true,3,[ab p]⟩/\(σ.next<=sd.bt/\sd.bt<σ'.next)/\iI σ'.get X bs (A+100)/\lx X σ σ'
def Qm (E:Nat->Prop) (n0:Nat) (g:Rows) (n:Nat) (row:List AV) (t:dD) (e:Id):Prop:=row=[.str t.bW,.own e 0 4]/\(t.bW.size<=64/\1<=t.bW.size)/\t.de.length=4/\E e.site/\n0<=e.bt/\e.bt<n/\g e=some ⟨true,1,t.de.map aL⟩
def TX (E:Nat->Prop) (n0:Nat) (g:Rows) (n:Nat) (rows:List (List AV)) (Ts:List dD):Prop:=∃es:List Id,es.Nodup/\rows.length=Ts.length/\es.length=Ts.length/\∀(j:Nat) (row:List AV) (t:dD) (e:Id),rows[j]? =some row->Ts[j]? =some t->es[j]? =some e->Qm E n0 g n row t e
section
variable {E:Nat->Prop} {n0:Nat} {g g':Rows} {n n':Nat} {rows:List (List AV)} {Ts:List dD}
theorem TX.frame (h:TX E n0 g n rows Ts) (hn:n<=n') (hf:∀i:Id,E i.site->n0<=i.bt->i.bt<n->g' i=g i):TX E n0 g' n' rows Ts:=by
 obtain⟨es,h1,h2,h3,h4⟩:=h
 refine⟨es,h1,h2,h3,fun j row t e q1 q2 q3=>?_⟩
 obtain⟨a1,a2,a3,a4,a5,a6,a7⟩:=h4 j row t e q1 q2 q3
 exact⟨a1,a2,a3,a4,a5,ad,(hf e a4 a5 a6).trans a7⟩
theorem TX.snoc (h:TX E n0 g n rows Ts) {t:dD} {e:Id} (hn:n<=n') (he:n<=e.bt) (hr:Qm E n0 g n' [.str t.bW,.own e 0 4] t e):TX E n0 g n' (rows++[[.str t.bW,.own e 0 4]]) (Ts++[t]):=by
 obtain⟨es,h1,h2,h3,h4⟩:=h
 refine⟨es++[e],?_,by simp[h2],by simp[h3],fun j row t' e' q1 q2 q3=>?_⟩
 ·refine List.nodup_append.2 ⟨h1,by simp,fun x hx y hy=>?_⟩
  rw[List.mem_singleton.1 hy]
  obtain⟨j,hj,rfl⟩:=List.getElem_of_mem hx
  obtain⟨_,_,_,_,_,a6,_⟩:=h4 j _ _ _ (List.getElem?_eq_getElem ad) (List.getElem?_eq_getElem ad) (List.getElem?_eq_getElem hj)
  intro hc
  rw[hc]at a6
  omega
 ·by_cases hj:j<Ts.length
  ·rw[List.getElem?_append_left ad]at q1 q2 q3
   obtain⟨a1,a2,a3,a4,a5,a6,a7⟩:=h4 j row t' e' q1 q2 q3
   exact⟨a1,a2,a3,a4,a5,ad,a7⟩
  ·have QY:j=Ts.length:=by
    have:=List.getElem?_eq_some_iff.1 q2
    obtain⟨h,_⟩:=this
    simp at h
    omega
   subst QY
   rw[<-h2,List.getElem?_concat_length]at q1
   rw[List.getElem?_concat_length]at q2
   rw[<-h3,List.getElem?_concat_length]at q3
   cases q1;cases q2;cases q3
   exact hr
theorem TX.one {t:dD} {e:Id} (hr:Qm E n0 g n [.str t.bW,.own e 0 4] t e):TX E n0 g n [[.str t.bW,.own e 0 4]] [t]:=
 ⟨[e],by simp,rfl,rfl,fun j row t' e' q1 q2 q3=>by
  cases j with
  |zero=>simp at q1 q2 q3;subst q1 q2 q3;exact hr
  |succ j=>simp at q1⟩
theorem TX.len (h:TX E n0 g n rows Ts):rows.length=Ts.length:=by obtain⟨es,h1,h2,h3,h4⟩:=h;exact h2
theorem TX.get (h:TX E n0 g n rows Ts) {k:Nat} (hk:k<Ts.length):∃e:Id,rows[k]? =some [.str Ts[k].bW,.own e 0 4]/\Qm E n0 g n [.str Ts[k].bW,.own e 0 4] Ts[k] e/\
  ∀(g':Rows) (l:List Int),l.length=4->g' e=some ⟨true,1,l.map aL⟩->(∀i:Id,E i.site->n0<=i.bt->i.bt<n->i≠e->g' i=g i)->TX E n0 g' n rows (Ts.set k ⟨Ts[k].bW,l⟩):=by
 obtain⟨es,h1,h2,h3,h4⟩:=h
 have hr:=h4 k _ _ _ (List.getElem?_eq_getElem ad) (List.getElem?_eq_getElem hk) (List.getElem?_eq_getElem ad)
 have ha:=hr.1
 refine⟨es[k],by rw[List.getElem?_eq_getElem ad,ha],by rw[<-ha];exact hr,fun g' l hl hg hf=>⟨es,h1,by simp[h2],by simp[h3],fun j row t e q1 q2 q3=>?_⟩⟩
 by_cases hj:j=k
 ·subst hj
  rw[List.getElem?_set_self hk]at q2
  rw[List.getElem?_eq_getElem ad]at q1 q3
  cases q1;cases q2;cases q3
  obtain⟨a1,a2,a3,a4,a5,a6,a7⟩:=hr
  exact⟨a1,a2,hl,a4,a5,a6,hg⟩
 ·rw[List.getElem?_set_ne (fun h=>hj h.symm)]at q2
  obtain⟨a1,a2,a3,a4,a5,a6,a7⟩:=h4 j row t e q1 q2 q3
  have hZ:e≠es[k]:=fun hc=>hj (by
   obtain⟨b1,b2⟩:=List.getElem?_eq_some_iff.1 q3
   exact(List.getElem_inj h1).1 (b2.trans hc))
  exact⟨a1,a2,a3,a4,a5,a6,(hf e a4 a5 a6 hZ).trans a7⟩
theorem TX.fz:∀{rows:List (List AV)} {Ts:List dD},TX E n0 g n rows Ts->∀k,iK g (k+2) rows=some (Ts.map du)
 |[],[],_=>fun k=>by(try simp only[List.map_nil]);rw[iK.eq_def]
 |[],_::_,h=>by have:=h.len;simp at this
 |_::_,[],h=>by have:=h.len;simp at this
 |row::rows,t::Ts,h=>fun k=>by
  obtain⟨es,h1,h2,h3,h4⟩:=h
  match es,h1,h3,h4 with
  |[],_,h3,_=>simp at h3
  |e::es,h1,h3,h4=>
  have ih:=TX.fz (rows:=rows) (Ts:=Ts) ⟨es,(List.nodup_cons.1 h1).2,by simpa using h2,by simpa using h3,fun j row t e q1 q2 q3=>h4 (j+1) row t e (by simpa using q1) (by simpa using q2) (by simpa using q3)⟩ k
  obtain⟨a1,a2,a3,a4,a5,a6,a7⟩:=h4 0 row t e rfl rfl rfl
  subst a1
  have h9:iy g (k+2) (.own e 0 4)=some (.sl (t.de.map aL)):=by
   rw[<-a3];exact fN (e:=aL) a7 rfl fun x=>Yu g k x
  rw[iK,cF,Dy,cF,h9,dq,ih]
  rfl
end
def iQ (n0:Nat) (g:Rows) (n:Nat) (B:Id) (a b:Nat) (L:List ig) (Ts:List dD):Prop:=∃(og o:Id) (rows:List (List AV)),g B=some ⟨true,2,[[.own og 0 a,.own o 0 b]]⟩/\L.length=a/\g og=some ⟨true,2,L.map ej⟩/\(oa og.site/\n0<=og.bt/\og.bt<n)/\Ts.length=b/\g o=some ⟨true,2,rows⟩/\TX iJ n0 g n rows Ts/\pJ o.site/\n0<=o.bt/\o.bt<n
theorem iQ.later {n0:Nat} {g:Rows} {n n':Nat} {B:Id} {a b:Nat} {L:List ig} {Ts:List dD} (h:iQ n0 g n B a b L Ts) (hn:n<=n'):iQ n0 g n' B a b L Ts:=by
 obtain⟨og,o,rows,h1,h2,h3,⟨h5,h6,h7⟩,h8,h9,Cp,h11,h12,h13⟩:=h
 exact⟨og,o,rows,h1,h2,h3,⟨h5,h6,ad⟩,h8,h9,Cp.frame hn fun _ _ _ _=>rfl,h11,h12,ad⟩
theorem iQ.only {n0:Nat} {g:Rows} {n n':Nat} {B X:Id} {a b:Nat} {L:List ig} {Ts:List dD} (h:iQ n0 g n B a b L Ts) {σ':aw} (hK:lx X ⟨g,n'⟩ σ') (hn:n<=n') (hX:X.bt<n0) (hB:B≠X) (Xx:B.bt<n'):iQ n0 σ'.get σ'.next B a b L Ts:=by
 obtain⟨og,o,rows,h1,h2,h3,⟨h5,h6,h7⟩,h8,h9,Cp,h11,h12,h13⟩:=h
 have hx:=hK.1
 (try dsimp only at hx)
 have k:∀i:Id,n0<=i.bt->i.bt<n->σ'.get i=g i:=fun i h1 h2=>hK.2 i (fun e=>by rw[e]at h1;omega) bp
 exact⟨og,o,rows,(hK.2 B hB Xx).trans h1,h2,(k og h6 h7).trans h3,⟨h5,h6,ad⟩,h8,(k o h12 h13).trans h9,Cp.frame ad fun i _ h1 h2=>k i h1 h2,h11,h12,ad⟩
theorem iQ.put {n0:Nat} {g g':Rows} {n n':Nat} {B og u e:Id} {a b:Nat} {L:List ig} {rows:List (List AV)} {Ts:List dD} {t:dD} (hL:L.length=a) (nS:g og=some ⟨true,2,L.map ej⟩) (sg:oa og.site/\n0<=og.bt/\og.bt<n) (hT:TX iJ n0 g n rows Ts) (hb:Ts.length=b) (np:t.bW.size<=64/\1<=t.bW.size) (hl:t.de.length=4)
  (hn:n<=e.bt) (hB:g' B=some ⟨true,2,[[.own og 0 a,.own u 0 (b+1)]]⟩) (hu:g' u=some ⟨true,2,rows++[[.str t.bW,.own e 0 4]]⟩) (su:pJ u.site/\n0<=u.bt/\u.bt<n') (he:g' e=some ⟨true,1,t.de.map aL⟩) (se:iJ e.site/\n0<=e.bt/\e.bt<n') (hf:∀i:Id,(iJ i.site∨oa i.site)->n0<=i.bt->i.bt<n->g' i=g i):iQ n0 g' n' B a (b+1) L (Ts++[t]):=
 ⟨og,u,rows++[[.str t.bW,.own e 0 4]],hB,hL,(hf og (.inr sg.1) sg.2.1 sg.2.2).trans nS,⟨sg.1,sg.2.1,ad⟩,by simp[hb],hu,((hT.frame (Nat.le_refl _) fun i h1 h2 h3=>hf i (.inl h1) h2 h3).snoc ad hn ⟨rfl,np,hl,se.1,se.2.1,se.2.2,he⟩),su.1,su.2.1,su.2.2⟩
def Yw (k:Nat):ig:=⟨(⟨#[120]⟩:ByteArray)++fo (k:Int),2⟩
def Yx (k:Nat):ig:=⟨(⟨#[121]⟩:ByteArray)++fo (k:Int),2⟩
def jI (T:List dD) (i d:Nat) (w:Int):List dD:=match T[i]? with
 |some t=>T.set i ⟨t.bW,t.de.set d w⟩
 |none=>T
theorem uq {T:List dD} {i d:Nat} {w:Int} (h:i<T.length):jI T i d w=T.set i ⟨T[i].bW,T[i].de.set d w⟩:=by unfold jI;rw[List.getElem?_eq_getElem h]
theorem fj (T:List dD) (i d:Nat) (w:Int):(jI T i d w).length=T.length:=by unfold jI;split<;>simp
def xF:List Int->List ig×List dD
 |[]=>([⟨⟨#[122,101,114,111]⟩,1⟩,⟨⟨#[111,110,101]⟩,1⟩],[⟨⟨#[115,101,101,100]⟩,[0,0,0,0]⟩])
 |b::r=>((xF r).1++[Yw r.length],jI (xF r).2 r.length 1 ((r.length:Int)+3)++[⟨(⟨#[101]⟩:ByteArray)++fo (r.length:Int),[b,0,0,(r.length:Int)+3]⟩])
theorem kZ (b:Int) (r:List Int):xF (b::r)=((xF r).1++[Yw r.length],jI (xF r).2 r.length 1 ((r.length:Int)+3)++[⟨(⟨#[101]⟩:ByteArray)++fo (r.length:Int),[b,0,0,(r.length:Int)+3]⟩]):=rfl
def pD (q:List Int):List Int->List ig×List dD
 |[]=>xF q
 |b::r=>((pD q r).1++[Yx r.length],jI (pD q r).2 (ns q.length r.length) 0 (((q.length+2+r.length:Nat):Int)+1)++[⟨(⟨#[110]⟩:ByteArray)++fo (r.length:Int),[0,b,((q.length+2+r.length:Nat):Int)+1,0]⟩])
theorem lf (q:List Int) (b:Int) (r:List Int):pD q (b::r)=((pD q r).1++[Yx r.length],jI (pD q r).2 (ns q.length r.length) 0 (((q.length+2+r.length:Nat):Int)+1)++[⟨(⟨#[110]⟩:ByteArray)++fo (r.length:Int),[0,b,((q.length+2+r.length:Nat):Int)+1,0]⟩]):=rfl
theorem iQ.assoc {n0:Nat} {g:Rows} {n:Nat} {B:Id} {a b:Nat} {L:List ig} {X Y Z:List dD} (h:iQ n0 g n B a b L (X++Y++Z)):iQ n0 g n B a b L (X++(Y++Z)):=by rw[<-List.append_assoc];exact h
theorem ZV:(⟨#[114,52]⟩:ByteArray).size<=64/\1<=(⟨#[114,52]⟩:ByteArray).size:=⟨by decide,by decide⟩
theorem TX.since {E:Nat->Prop} {n0 n1:Nat} {g:Rows} {n:Nat} {rows:List (List AV)} {Ts:List dD} (h:TX E n1 g n rows Ts) (hn:n0<=n1):TX E n0 g n rows Ts:=by
 obtain⟨es,h1,h2,h3,h4⟩:=h
 refine⟨es,h1,h2,h3,fun j row t e q1 q2 q3=>?_⟩
 obtain⟨a1,a2,a3,a4,a5,a6,a7⟩:=h4 j row t e q1 q2 q3
 exact⟨a1,a2,a3,a4,ad,a6,a7⟩
def ju (r:List Int):Prop:=∀b∈r,b=1∨b=2
theorem ju.cons {b:Int} {r:List Int} (h:b=1∨b=2) (k:ju r):ju (b::r):=fun x hx=>by
 rcases List.mem_cons.1 hx with rfl|hx
 ·exact h
 ·exact k x hx
def MN (t:dD):Prop:=t.bW.data[0]? =some 114
def Tu (c:UInt8) (k:Nat):ByteArray:=⟨#[c,(48+k).toUInt8]⟩
theorem KO {k:Nat} (h:k<=4) (c:UInt8):(⟨#[c]⟩:ByteArray)++fo (k:Int)=Tu c k:=by
 by_cases h0:k=0
 ·subst h0;rfl
 ·unfold fo
  rw[if_neg ad,Int.toNat_natCast,Fs h0,show k / 10=0 by omega,Cg,show k % 10=k by omega]
  rfl
theorem LP (dt:ByteArray) {l:List Int}:MN ⟨(⟨#[114]⟩:ByteArray)++dt,l⟩:=by
 unfold MN
 show((⟨#[114]⟩:ByteArray)++dt).data[0]? =some 114
 rw[ByteArray.data_append,Array.getElem?_append_left (by simp)]
 rfl
def Jo (rs:List dD):Prop:=∀(j:Nat) (t:dD),rs[j]? =some t->t.bW=(⟨#[114]⟩:ByteArray)++fo (j:Int)/\∃a b c d:Int,t.de=[a,b,c,d]/\(a=1∨a=2)/\(b=1∨b=2)/\(c=1∨c=2)/\(d=1∨d=2)
theorem Jo.nil:Jo []:=fun j t h=>by simp at h
theorem Jo.snoc {rs:List dD} (h:Jo rs) {k:Nat} (hk:rs.length=k) {nm:ByteArray} {a b c d:Int} (hn:nm=(⟨#[114]⟩:ByteArray)++fo (k:Int)) (ha:a=1∨a=2) (hb:b=1∨b=2) (hc:c=1∨c=2) (hd:d=1∨d=2):Jo (rs++[⟨nm,[a,b,c,d]⟩]):=fun j t hj=>by
 by_cases h1:j<rs.length
 ·rw[List.getElem?_append_left h1]at hj;exact h j t hj
 ·have h2:j=rs.length:=by
   obtain⟨h3,_⟩:=List.getElem?_eq_some_iff.1 hj
   simp at h3;omega
  subst h2
  rw[List.getElem?_concat_length]at hj
  cases hj
  exact⟨by rw[hk];exact hn,a,b,c,d,rfl,ha,hb,hc,hd⟩
theorem Jo.r {rs:List dD} (h:Jo rs):∀x∈rs,MN x:=fun x hx=>by
 obtain⟨j,hj,rfl⟩:=List.getElem_of_mem hx
 obtain⟨h1,a,b,c,d,h2,_⟩:=h j _ (List.getElem?_eq_getElem hj)
 have e:rs[j]=⟨(⟨#[114]⟩:ByteArray)++fo (j:Int),[a,b,c,d]⟩:=by rw[<-h1,<-h2]
 rw[e];exact LP _
theorem J5 {w:Int} (h0:0<=w) (h1:w=0∨w<2):IntKind.i64.wrap (1+w)=1∨IntKind.i64.wrap (1+w)=2:=by
 have h:w=0∨w=1:=ad
 rcases h with rfl|rfl
 ·exact .inl rfl
 ·exact .inr rfl
theorem S6 {i:Nat} (h:i<4):(IntKind.i64.wrap (1+(i:Int).tmod 2)=1∨IntKind.i64.wrap (1+(i:Int).tmod 2)=2)/\(IntKind.i64.wrap (1+IntKind.i64.wrap ((i:Int).tdiv 2))=1∨IntKind.i64.wrap (1+IntKind.i64.wrap ((i:Int).tdiv 2))=2):=by
 have h:i=0∨i=1∨i=2∨i=3:=ad
 rcases h with rfl|rfl|rfl|rfl<;>decide
def Ku (X:Id) (bs:List Int) (A:Nat) (σ:aw) (r:AV) (σ':aw):Prop:=∃(og o sd:Id) (G T2:Nat) (rows:List (List AV)) (rb rn:List Int) (rs:List dD),r=.agg [.own og 0 G,.own o 0 T2,.own sd 0 1,.int .i64 2]/\(1<=rb.length/\rb.length<=4/\1<=rn.length/\rn.length<=4/\T2<=100)/\ju rb/\ju rn/\(Jo rs/\4<=rs.length/\rs.length<=5)/\
 σ'.get og=some ⟨true,2,(pD rb rn).1.map ej⟩/\(pD rb rn).1.length=G/\σ'.get o=some ⟨true,2,rows⟩/\((pD rb rn).2++rs).length=T2/\TX iJ σ.next σ'.get σ'.next rows ((pD rb rn).2++rs)/\¬iJ o.site/\(σ.next<=og.bt/\og.bt<σ'.next/\σ.next<=o.bt/\o.bt<σ'.next)/\σ'.get sd=some ⟨true,3,[ab ⟨⟨0,0⟩,0⟩]⟩/\(σ.next<=sd.bt/\sd.bt<σ'.next)/\iI σ'.get X bs (A+100)/\lx X σ σ'
theorem GD (c:UInt8) {dt:ByteArray} (h:dt.size<=20):((⟨#[c]⟩:ByteArray)++dt).size<=64:=by
 rw[jh]
 have:(⟨#[c]⟩:ByteArray).size=1:=rfl
 omega
theorem C0:∀(r:List Int),r.length<=1000->∀x∈(xF r).1,x.bW.size<=64
 |[],_,x,hx=>by
  rcases List.mem_cons.1 hx with h|h
  ·rw[h];decide
  ·rw[List.mem_singleton.1 h];decide
 |b::r,hl,x,hx=>by
  rw[List.length_cons]at hl
  rw[kZ]at hx
  rcases List.mem_append.1 hx with hx|hx
  ·exact C0 r ad x hx
  ·rw[List.mem_singleton.1 hx];exact GD _ (jE _ ad)
theorem C1 (q:List Int) (hq:q.length<=1000):∀(r:List Int),r.length<=1000->∀x∈(pD q r).1,x.bW.size<=64
 |[],_,x,hx=>C0 q hq x hx
 |b::r,hl,x,hx=>by
  rw[List.length_cons]at hl
  rw[lf]at hx
  rcases List.mem_append.1 hx with hx|hx
  ·exact C1 q hq r ad x hx
  ·rw[List.mem_singleton.1 hx];exact GD _ (jE _ ad)
theorem Gq (bs:List Int) (hb:∀b∈bs,0<=b/\b<=255) (kq:bs.length<=4096) (X:Id) (A:Nat) (ha:A<=900000) (σ:aw) (h:iI σ.get X bs A) (hX:X.bt<σ.next):
  Call Tryz.prog 59 [.ptr X 0 0] σ (Ku X bs A σ):=by
 refine C7 Yl rfl fun jd=>?_
 simp only[Jf,yR,Jg,PQ,PR,PS,WS,Mg,Mh,WT,WU,WV,WW,SB,WX,WY,WZ,Jh,yT,Ji,PT,PU,PV,W4,Mi,Mj,W6,W7,W8,W9,SC,Xa,Xb,Xc,td,SD,Xd,Xe,Xf,Xg,Xh,Xi,EF,SE,Xj,Xk,Xl,Xm,Xn,Xo]
 try simp only[q]
 clear jd
 have vX:=dp hX
 (try((repeat(revert N;apply Pn.out));refine wk @Nat.zero_add ?_;(repeat(apply Pn.mk;intro N hN))))
 refine .inr (aH _ _ _ _ _ (fun r σ1 hq=>?_) (ny bs hb kq X 4 A ad _ (by
  obtain⟨a,z,q1,q2⟩:=h
  exact⟨a,z,q1,by simp only[go_sem, ↓reduceIte,Nat.reduceEqDiff,Nat.reduceAdd,Nat.reduceSub,Nat.reduceLeDiff,reduceCtorEq,vX]<;>exact q2⟩)))
 obtain⟨v,rfl,v0,v1,h1,hK⟩:=hq
 obtain⟨g1,x1⟩:=σ1
 (try dsimp only at h1)
 have Oe:=hK.1
 (try dsimp only at Oe)
 have mv:=hK.2 ⟨59000000,σ.next⟩ (fun e=>by rw[<-e]at hX;(try dsimp only at hX);omega) bp
 have QR:∀i:Id,i≠X->i.bt<σ.next->g1 i=σ.get i:=fun i hi hv=>(hK.2 i hi bp).trans (by have hv:=dp hv;simp only[go_sem, ↓reduceIte,Nat.reduceEqDiff,Nat.reduceAdd,Nat.reduceSub,Nat.reduceLeDiff,reduceCtorEq,hv])
 simp only[go_sem, ↓reduceIte,Nat.reduceEqDiff,Nat.reduceAdd,Nat.reduceSub,Nat.reduceLeDiff,reduceCtorEq]at mv
 clear hK h
 obtain⟨m1,Q2⟩:∃m:Nat,IntKind.i64.wrap (1+v)=(m:Int):=⟨(1+v).toNat,by rw[dj ad];omega⟩
 have hmb1:1<=m1/\m1<=4:=by
  rw[dj ad]at Q2
  omega
 apply hN
 clear hN N
 (try((repeat(revert N;apply Pn.out));refine wk @Q2 ?_;(repeat(apply Pn.mk;intro N hN))))
 refine .inr (aH _ _ _ _ _ (fun r σ2 hq=>?_) (ny bs hb kq X 4 (A+2) ad _ h1))
 obtain⟨y,rfl,y0,y1,h2,hK⟩:=hq
 obtain⟨g2,x2⟩:=σ2
 (try dsimp only at h2)
 have Bo:=hK.1
 (try dsimp only at Bo)
 have NB:=(hK.2 ⟨59000000,σ.next⟩ (fun e=>by rw[<-e]at hX;(try dsimp only at hX);omega) bp).trans mv
 have g2O:∀i:Id,i≠X->i.bt<σ.next->g2 i=σ.get i:=fun i hi hv=>(hK.2 i hi bp).trans (QR i hi hv)
 (try dsimp only at NB)
 clear hK h1 QR mv
 obtain⟨m2,H6⟩:∃m:Nat,IntKind.i64.wrap (1+y)=(m:Int):=⟨(1+y).toNat,by rw[dj ad];omega⟩
 have hmb2:1<=m2/\m2<=4:=by
  rw[dj ad]at H6
  omega
 apply hN
 clear hN N
 (try((repeat(revert N;apply Pn.out));refine wk @H6 ?_;(repeat(apply Pn.mk;intro N hN))))
 have Wl:=dp (i:=X) (n:=x2) ad
 refine cm (fun n env st=>∃k:Nat,n=(m1)-k/\k<=(m1)/\env 8=.int .i64 (k:Int)/\env 7=.int .i64 (k:Int)/\((iI st.get X bs (A+4+2*k)/\x2+3<=st.next/\(∀i:Id,i≠X->i.bt<x2->st.get i=g2 i)/\∃r,r.length=k/\ju r/\iQ (x2+2) st.get st.next ⟨59003001,x2+1⟩ (k+2) (k+1) (xF r).1 (xF r).2))) (m1) ⟨0,ad,ad,sl (tw @Q2 @H6),sl (tw @Q2 @H6),by(try dsimp only);exact⟨(by
  obtain⟨za,zz,Mz,gX⟩:=h2
  exact⟨za,zz,ad,by simp only[go_sem, ↓reduceIte,Nat.reduceEqDiff,Nat.reduceAdd,Nat.reduceSub,Nat.reduceLeDiff,reduceCtorEq,Wl]<;>exact gX⟩),ad,fun i _ hi=>(by
   have h8:=dp hi
   simp only[go_sem, ↓reduceIte,Nat.reduceEqDiff,Nat.reduceAdd,Nat.reduceSub,Nat.reduceLeDiff,reduceCtorEq,h8]),[],rfl,(fun _ h=>nomatch h),⟨59004002,x2+1+1⟩,⟨59006001,x2+1+1+1+1⟩,_,sl @Nat.zero_add,rfl,sl @Nat.zero_add,⟨.inl rfl,bp,bp⟩,rfl,sl @Nat.zero_add,TX.one (t:=⟨⟨#[115,101,101,100]⟩,[0,0,0,0]⟩) (e:=⟨59005000,x2+1+1+1⟩) ⟨rfl,⟨by decide,by decide⟩,rfl,.inl rfl,bp,bp,sl @Nat.zero_add⟩,.inl rfl,bp,bp⟩⟩ ?_
 rintro n_a env_a st_a ⟨k,rfl,ale,a8,a7,oI⟩ eJ
 have a0:=eJ 0 (by kernel_rfl);have a2:=eJ 2 (by kernel_rfl);have a3:=eJ 3 (by kernel_rfl);have a4:=eJ 4 (by kernel_rfl);have a5:=eJ 5 (by kernel_rfl);have a6:=eJ 6 (by kernel_rfl)
 simp only[go_sem, ↓reduceIte,Nat.reduceEqDiff,Nat.reduceAdd,Nat.reduceSub,Nat.reduceLeDiff,reduceCtorEq,Q2,H6]at a0 a2 a3 a4 a5 a6
 clear eJ
 obtain⟨aS,aN,aO,rb,hrb,hbp,aC⟩:=oI
 obtain⟨L,KZ⟩:∃L,(xF rb).1=L:=⟨_,rfl⟩
 obtain⟨Ts,Mo⟩:∃T,(xF rb).2=T:=⟨_,rfl⟩
 rw[KZ,Mo]at aC
 obtain⟨og,o,rows,aB,hL,nS,⟨sg,RL,RM⟩,Hb,go,hT,so,yk,AJ⟩:=id aC
 have hr:rows.length=k+1:=hT.len.trans Hb
 by_cases hk:(k:Int)<(m1:Int)
 ·have eh:∀{e:Env} {gg:Rows} {nx:Nat},(e 8=.int .i64 (IntKind.i64.wrap ((k:Int)+1)))->(e 7=.int .i64 ((k+1):Int))->((iI gg X bs (A+4+2*(k+1))/\x2+3<=nx/\(∀i:Id,i≠X->i.bt<x2->gg i=g2 i)/\∃r,r.length=(k+1)/\ju r/\iQ (x2+2) gg nx ⟨59003001,x2+1⟩ ((k+1)+2) ((k+1)+1) (xF r).1 (xF r).2))->∃m0,m0<(m1)-k/\∃k:Nat,m0=(m1)-k/\k<=(m1)/\e 8=.int .i64 (k:Int)/\e 7=.int .i64 (k:Int)/\((iI gg X bs (A+4+2*k)/\x2+3<=nx/\(∀i:Id,i≠X->i.bt<x2->gg i=g2 i)/\∃r,r.length=k/\ju r/\iQ (x2+2) gg nx ⟨59003001,x2+1⟩ (k+2) (k+1) (xF r).1 (xF r).2)):=fun x1 x2 x3=>⟨_,ad,k+1,rfl,ad,(by rw[x1,aX ad]),x2,x3⟩
  have xe:=sf (k:Int) ad ad
  have DI:=jE (k:Int) ad
  obtain⟨dt,NO⟩:∃dt,fo (k:Int)=dt:=⟨_,rfl⟩
  rw[NO]at xe DI
  have eY:(#[120]:Array UInt8).size+dt.size<=9223372036854775807:=by
   have:(#[120]:Array UInt8).size=1:=rfl
   omega
  have iV:(#[101]:Array UInt8).size+dt.size<=9223372036854775807:=by
   have:(#[101]:Array UInt8).size=1:=rfl
   omega
  have np:((⟨#[120]⟩:ByteArray)++dt).size<=64:=by
   rw[jh]
   have:(⟨#[120]⟩:ByteArray).size=1:=rfl
   omega
  have NZ:((⟨#[101]⟩:ByteArray)++dt).size<=64:=by
   rw[jh]
   have:(⟨#[101]⟩:ByteArray).size=1:=rfl
   omega
  obtain⟨ga,na⟩:=st_a
  (try dsimp only at aS aN aO aB nS RM go hT AJ)
  have Ze:k<Ts.length:=ad
  obtain⟨u,fC,⟨_,_,hl,f1,f2,f3,gE⟩,hTw⟩:=hT.get Ze
  have Vp:=uq (d:=1) (w:=(k:Int)+3) Ze
  obtain⟨nm,Q4⟩:∃x,Ts[k].bW=x:=⟨_,rfl⟩
  obtain⟨l,hlE⟩:∃x,Ts[k].de=x:=⟨_,rfl⟩
  rw[Q4]at fC hTw Vp
  rw[hlE]at hl gE Vp
  have wv:=dp RM
  have vo:=dp AJ
  have vu:=dp f3
  have ud:=Dq sg so
  have ub:=Dp f1 sg
  have uc:=tH f1 so
  have nB:∀i:Id,x2+2<=i.bt->∀s,(i=⟨s,x2+1⟩)=False/\((⟨s,x2+1⟩:Id)=i)=False:=fun i hi s=>⟨eq_false fun e=>by rw[e]at hi;(try dsimp only at hi);omega,eq_false fun e=>by rw[<-e]at hi;(try dsimp only at hi);omega⟩
  have rD:=nB og RL
  have pC:=nB o yk
  have rE:=nB u f2
  have lV:(L.map ej).length=k+2:=by rw[List.length_map,hL]
  have sZ:k<=16777213:=ad
  have XE:(k:Int)<((k+1:Nat):Int):=ad
  have gy:(l.map aL).length=4:=by rw[List.length_map,hl]
  have nk:(l.map aL)[1]? =some [.int .i64 (l.getD 1 0)]:=getD_map aL ad
  have fU:∀w:Int,(l.map aL).set 1 [.int .i64 w]=(l.set 1 w).map aL:=fun w=>by rw[List.map_set];rfl
  (have zF:=tw @a8 (tw @a7 (tw @a0 (tw @a2 (tw @a3 (tw @a4 (tw @a5 (tw @a6 (tw @hk (tw @aB (tw @eY (tw @iV (tw @nS (tw @go (tw @wv (tw @vo (tw @vu (tw @ud (tw @ub (tw @uc (tw @rD (tw @pC (tw @rE (tw @lV (tw @sZ (tw @XE (tw @fC (tw @gE (tw @nk (tw @gy (tw @fU @hr))))))))))))))))))))))))))))));(repeat(first|((repeat(revert N;apply Pn.out));refine wk zF ?_;(repeat(apply Pn.mk;intro N hN)))|((try apply Or.inl);refine⟨_,ax.x (xe) (sd zF),?_⟩;apply hN;clear hN N)));try clear zF)
  refine uu (fun e st=>e 0=.ptr X 0 0/\e 2=env_a 2/\e 3=env_a 3/\e 4=env_a 4/\e 5=env_a 5/\e 6=env_a 6/\e 8=.int .i64 (k:Int)/\iI st.get X bs (A+4+2*(k+1))/\x2+3<=st.next/\(∀i:Id,i≠X->i.bt<x2->st.get i=g2 i)/\∃r,r.length=k+1/\ju r/\iQ (x2+2) st.get st.next ⟨59003001,x2+1⟩ (k+3) (k+2) (xF r).1 (xF r).2) ?_ ?_
  ·rintro e st ⟨r0,r2,r3,r4,r5,r6,r8,rS,rN,rO,rr,q1,q2,rC⟩
   obtain⟨gc,nc⟩:=st
   (try dsimp only at rS rN rO rC)
   obtain⟨qg,qo,rows',rB,_⟩:=id rC
   rw[a2]at r2
   rw[a3]at r3
   rw[a4]at r4
   rw[a5]at r5
   rw[a6]at r6
   apply hN
   clear hN N
   have w9:IntKind.i64.wrap (((k+2:Nat):Int)-1)=(k:Int)+1:=(dj ad).trans ad
   (try((repeat(revert N;apply Pn.out));refine wk (tw @r0 (tw @r2 (tw @r3 (tw @r4 (tw @r5 (tw @r6 (tw @r8 (tw @rB @w9)))))))) ?_;(repeat(apply Pn.mk;intro N hN))))
   refine eh ?_ ?_ (by(try dsimp only);exact⟨rS,ad,rO,rr,q1,q2,rC.later ad⟩)
   all_goals simp only[go_sem, ↓reduceIte,Nat.reduceEqDiff,Nat.reduceAdd,Nat.reduceSub,Nat.reduceLeDiff,reduceCtorEq,a8,a7,a0,a2,a3,a4,a5,a6,r8]
  ·intro N hN
   have nXu:(X=u)=False:=eq_false fun h=>by rw[<-h]at f2;omega
   have nXg:(X=og)=False:=eq_false fun h=>by rw[<-h]at RL;omega
   have vXa:=dp (i:=X) (n:=na) ad
   refine eH ?_ ?_<;>(have zF:=tw @a8 (tw @a7 (tw @a0 (tw @a2 (tw @a3 (tw @a4 (tw @a5 (tw @a6 (tw @aB (tw @eY (tw @iV (tw @nS (tw @go (tw @wv (tw @vo (tw @vu (tw @ud (tw @ub (tw @uc (tw @rD (tw @pC (tw @rE (tw @lV @hr))))))))))))))))))))));(repeat(first|((repeat(revert N;apply Pn.out));refine wk zF ?_;(repeat(apply Pn.mk;intro N hN)))|((try apply Or.inl);refine⟨_,ax.x (xe) (sd zF),?_⟩;apply hN;clear hN N)));try clear zF)<;>(try refine eH ?_ ?_)<;>(have zF:=tw @a8 (tw @a7 (tw @a0 (tw @a2 (tw @a3 (tw @a4 (tw @a5 (tw @a6 (tw @aB (tw @eY (tw @iV (tw @nS (tw @go (tw @wv (tw @vo (tw @vu (tw @ud (tw @ub (tw @uc (tw @rD (tw @pC (tw @rE (tw @lV @hr))))))))))))))))))))));(repeat(first|((repeat(revert N;apply Pn.out));refine wk zF ?_;(repeat(apply Pn.mk;intro N hN)))|((try apply Or.inl);refine⟨_,ax.x (xe) (sd zF),?_⟩;apply hN;clear hN N)));try clear zF)<;>(try refine eH ?_ ?_)<;>(have zF:=tw @a8 (tw @a7 (tw @a0 (tw @a2 (tw @a3 (tw @a4 (tw @a5 (tw @a6 (tw @aB (tw @eY (tw @iV (tw @nS (tw @go (tw @wv (tw @vo (tw @vu (tw @ud (tw @ub (tw @uc (tw @rD (tw @pC (tw @rE (tw @lV @hr))))))))))))))))))))));(repeat(first|((repeat(revert N;apply Pn.out));refine wk zF ?_;(repeat(apply Pn.mk;intro N hN)))|((try apply Or.inl);refine⟨_,ax.x (xe) (sd zF),?_⟩;apply hN;clear hN N)));try clear zF)<;>(try refine eH ?_ ?_)<;>(have zF:=tw @a8 (tw @a7 (tw @a0 (tw @a2 (tw @a3 (tw @a4 (tw @a5 (tw @a6 (tw @aB (tw @eY (tw @iV (tw @nS (tw @go (tw @wv (tw @vo (tw @vu (tw @ud (tw @ub (tw @uc (tw @rD (tw @pC (tw @rE (tw @lV @hr))))))))))))))))))))));(repeat(first|((repeat(revert N;apply Pn.out));refine wk zF ?_;(repeat(apply Pn.mk;intro N hN)))|((try apply Or.inl);refine⟨_,ax.x (xe) (sd zF),?_⟩;apply hN;clear hN N)));try clear zF)<;>(try refine eH ?_ ?_)<;>(have zF:=tw @a8 (tw @a7 (tw @a0 (tw @a2 (tw @a3 (tw @a4 (tw @a5 (tw @a6 (tw @aB (tw @eY (tw @iV (tw @nS (tw @go (tw @wv (tw @vo (tw @vu (tw @ud (tw @ub (tw @uc (tw @rD (tw @pC (tw @rE (tw @lV @hr))))))))))))))))))))));(repeat(first|((repeat(revert N;apply Pn.out));refine wk zF ?_;(repeat(apply Pn.mk;intro N hN)))|((try apply Or.inl);refine⟨_,ax.x (xe) (sd zF),?_⟩;apply hN;clear hN N)));try clear zF)<;>(try refine eH ?_ ?_)<;>(have zF:=tw @a8 (tw @a7 (tw @a0 (tw @a2 (tw @a3 (tw @a4 (tw @a5 (tw @a6 (tw @aB (tw @eY (tw @iV (tw @nS (tw @go (tw @wv (tw @vo (tw @vu (tw @ud (tw @ub (tw @uc (tw @rD (tw @pC (tw @rE (tw @lV @hr))))))))))))))))))))));(repeat(first|((repeat(revert N;apply Pn.out));refine wk zF ?_;(repeat(apply Pn.mk;intro N hN)))|((try apply Or.inl);refine⟨_,ax.x (xe) (sd zF),?_⟩;apply hN;clear hN N)));try clear zF)
   all_goals
    refine .inr (aH _ _ _ _ _ (fun r σ3 hq=>?_) (ny bs hb kq X 2 (A+4+2*k) ad _ (by
     obtain⟨za,zz,Mz,gX⟩:=aS
     exact⟨za,zz,Mz,by simp only[go_sem, ↓reduceIte,Nat.reduceEqDiff,Nat.reduceAdd,Nat.reduceSub,Nat.reduceLeDiff,reduceCtorEq,vXa,Wl,nXu,nXg]<;>exact gX⟩)))
    obtain⟨w,rfl,w0,w1,h3,hK⟩:=hq
    obtain⟨g3,x3⟩:=σ3
    (try dsimp only at h3)
    have Rg:=hK.1
    (try dsimp only at Rg)
    have c5:=hK.2 ⟨59003001,x2+1⟩ (fun e=>by rw[<-e]at hX;(try dsimp only at hX);omega) bp
    have cG:=hK.2 ⟨59011007,na+1⟩ (fun e=>by rw[<-e]at hX;(try dsimp only at hX);omega) bp
    have co:=hK.2 o (fun h=>by rw[h]at yk;omega) bp
    have cu:=hK.2 u (fun h=>by rw[h]at f2;omega) bp
    simp only[go_sem, ↓reduceIte,Nat.reduceEqDiff,Nat.reduceAdd,Nat.reduceSub,Nat.reduceLeDiff,reduceCtorEq,go,vo,vu,ud,ub,uc,rD,pC,rE]at c5 cG co cu
    apply hN
    clear hN N
    have BH:k<=16777214:=ad
    have vo3:=dp (i:=o) (n:=x3) ad
    (have zF:=tw @a8 (tw @a7 (tw @a0 (tw @a2 (tw @a3 (tw @a4 (tw @a5 (tw @a6 (tw @c5 (tw @cG (tw @co (tw @hr (tw @iV (tw @BH (tw @rD (tw @pC (tw @rE @vo3))))))))))))))));(repeat(first|((repeat(revert N;apply Pn.out));refine wk zF ?_;(repeat(apply Pn.mk;intro N hN)))|((try apply Or.inl);refine⟨_,ax.x (xe) (sd zF),?_⟩;apply hN;clear hN N)));try clear zF)
    obtain⟨za,zz,Mz,gX⟩:=h3
    have vX3:=dp (i:=X) (n:=x3) ad
    have VQ:(X=o)=False:=eq_false fun h=>by rw[<-h]at yk;omega
    have YK:=(hTw g3 (l.set 1 ((k:Int)+3)) (by rw[List.length_set,hl]) (by rw[show(k:Int)+3=((k+2+1:Nat):Int) by omega];exact cu) fun i h1 h2 h4 h5=>(hK.2 i (fun h=>by rw[h]at h2;omega) bp).trans (by
     have q1:=dp h4
     have q2:=Dp h1 sg
     have q3:=nB i h2
     have q4:(i=u)=False:=eq_false h5
     simp only[go_sem, ↓reduceIte,Nat.reduceEqDiff,Nat.reduceAdd,Nat.reduceSub,Nat.reduceLeDiff,reduceCtorEq,q1,q2,q3,q4])).frame (n':=x3) ad fun _ _ _ _=>rfl
    rw[<-Vp]at YK
    have hbw:IntKind.i64.wrap (1+w)=1∨IntKind.i64.wrap (1+w)=2:=by rw[dj ad];omega
    have g3O:∀i:Id,i≠X->i.bt<x2->g3 i=g2 i:=fun i h1 h2=>(hK.2 i h1 bp).trans (by
     have q1:=dp (i:=i) (n:=na) ad
     have q2:=dp h2
     have q3:(i=og)=False:=eq_false fun h=>by rw[h]at h2;omega
     have q4:(i=u)=False:=eq_false fun h=>by rw[h]at h2;omega
     simp only[go_sem, ↓reduceIte,Nat.reduceEqDiff,Nat.reduceAdd,Nat.reduceSub,Nat.reduceLeDiff,reduceCtorEq,q1,q2,q3,q4]<;>exact aO i h1 h2)
    exact⟨sd (tw @a8 (tw @a7 (tw @a0 (tw @a2 (tw @a3 (tw @a4 (tw @a5 @a6))))))),sd (tw @a8 (tw @a7 (tw @a0 (tw @a2 (tw @a3 (tw @a4 (tw @a5 @a6))))))),sd (tw @a8 (tw @a7 (tw @a0 (tw @a2 (tw @a3 (tw @a4 (tw @a5 @a6))))))),sd (tw @a8 (tw @a7 (tw @a0 (tw @a2 (tw @a3 (tw @a4 (tw @a5 @a6))))))),sd (tw @a8 (tw @a7 (tw @a0 (tw @a2 (tw @a3 (tw @a4 (tw @a5 @a6))))))),sd (tw @a8 (tw @a7 (tw @a0 (tw @a2 (tw @a3 (tw @a4 (tw @a5 @a6))))))),sd (tw @a8 (tw @a7 (tw @a0 (tw @a2 (tw @a3 (tw @a4 (tw @a5 @a6))))))),⟨za,zz,ad,by simp only[go_sem, ↓reduceIte,Nat.reduceEqDiff,Nat.reduceAdd,Nat.reduceSub,Nat.reduceLeDiff,reduceCtorEq,vX3,Wl,VQ]<;>exact gX⟩,bp,fun i h1 h2=>(by
     have q1:=dp (i:=i) (n:=x3) ad
     have q2:=dp h2
     have q3:(i=o)=False:=eq_false fun h=>by rw[h]at h2;omega
     simp only[go_sem, ↓reduceIte,Nat.reduceEqDiff,Nat.reduceAdd,Nat.reduceSub,Nat.reduceLeDiff,reduceCtorEq,q1,q2,q3]<;>exact g3O i h1 h2),IntKind.i64.wrap (1+w)::rb,by rw[List.length_cons,hrb],ju.cons hbw hbp,by
      rw[kZ,KZ,Mo,hrb]
      have q9:fo ((k:Nat):Int)=dt:=NO
      unfold Yw
      rw[q9]
      exact⟨⟨59011007,na+1⟩,⟨59013014,x3⟩,rows++[[.str ((⟨#[101]⟩:ByteArray)++dt),.own ⟨59013011,x3⟩ 0 4]],sl @Nat.zero_add,by simp[hL],by
      have q1:((⟨59011007,na+1⟩:Id)=o)=False:=eq_false fun h=>by rw[<-h]at AJ;(try dsimp only at AJ);omega
      rw[List.map_append];simp only[go_sem, ↓reduceIte,Nat.reduceEqDiff,Nat.reduceAdd,Nat.reduceSub,Nat.reduceLeDiff,reduceCtorEq,q1]<;>exact cG,⟨.inr (.inl rfl),bp,bp⟩,by simp[fj,Hb],sl @Nat.zero_add,(YK.frame (n':=x3) ad fun i h1 h2 h4=>(by
       have q1:=dp h4
       have q2:=tH h1 so
       have q3:=nB i h2
       simp only[go_sem, ↓reduceIte,Nat.reduceEqDiff,Nat.reduceAdd,Nat.reduceSub,Nat.reduceLeDiff,reduceCtorEq,q1,q2,q3])).snoc (t:=⟨(⟨#[101]⟩:ByteArray)++dt,[IntKind.i64.wrap (1+w),0,0,(k:Int)+3]⟩) (e:=⟨59013011,x3⟩) bp bp ⟨rfl,⟨NZ,Ea _ _⟩,rfl,.inr (.inl rfl),bp,bp,by
       have q1:((⟨59013011,x3⟩:Id)=o)=False:=eq_false fun h=>by rw[<-h]at AJ;(try dsimp only at AJ);omega
       rw[show(k:Int)+3=((k+2+1:Nat):Int) by omega]
       simp only[go_sem, ↓reduceIte,Nat.reduceEqDiff,Nat.reduceAdd,Nat.reduceSub,Nat.reduceLeDiff,reduceCtorEq,q1]<;>rfl⟩,.inr (.inl rfl),bp,bp⟩⟩
 ·have hkm:k=m1:=ad
  subst hkm
  clear aB hL nS sg RL RM hr go hT so yk AJ
  rw[<-KZ,<-Mo]at aC
  clear KZ Mo Hb
  obtain⟨ga,na⟩:=st_a
  (try dsimp only at aS aN aO aC)
  (try((repeat(revert N;apply Pn.out));refine wk (tw @a8 (tw @a7 (tw @a0 (tw @a2 (tw @a3 (tw @a4 (tw @a5 (tw @a6 @hk)))))))) ?_;(repeat(apply Pn.mk;intro N hN))))
  refine cm (fun n env st=>∃j:Nat,n=(m2)-j/\j<=(m2)/\env 9=.int .i64 (j:Int)/\env 7=.int .i64 (ns k j:Int)/\((iI st.get X bs (A+4+2*k+2*j)/\x2+3<=st.next/\(∀i:Id,i≠X->i.bt<x2->st.get i=g2 i)/\∃r,r.length=j/\ju r/\iQ (x2+2) st.get st.next ⟨59003001,x2+1⟩ (k+2+j) (k+1+j) (pD rb r).1 (pD rb r).2))) (m2) ⟨0,ad,ad,sl (tw @a8 (tw @a7 (tw @a0 (tw @a2 (tw @a3 (tw @a4 (tw @a5 (tw @a6 @H6)))))))),sl (tw @a8 (tw @a7 (tw @a0 (tw @a2 (tw @a3 (tw @a4 (tw @a5 (tw @a6 @H6)))))))),by(try dsimp only);exact⟨by(try simp only[go_sem, ↓reduceIte,Nat.reduceEqDiff,Nat.reduceAdd,Nat.reduceSub,Nat.reduceLeDiff,reduceCtorEq]);exact aS,ad,aO,[],rfl,(fun _ h=>nomatch h),aC.later ad⟩⟩ ?_
  rintro n_b env_b st_b ⟨j,rfl,ble,b9,b7,bI0⟩ fb
  have b0:=fb 0 (by kernel_rfl);have b2:=fb 2 (by kernel_rfl);have b4:=fb 4 (by kernel_rfl);have b5:=fb 5 (by kernel_rfl)
  simp only[go_sem, ↓reduceIte,Nat.reduceEqDiff,Nat.reduceAdd,Nat.reduceSub,Nat.reduceLeDiff,reduceCtorEq,a8,a7,a0,a2,a3,a4,a5,a6,H6]at b0 b2 b4 b5
  clear fb
  obtain⟨bS,bN,bO,rn,hrn,Vf,bC⟩:=bI0
  obtain⟨L,KZ⟩:∃L,(pD rb rn).1=L:=⟨_,rfl⟩
  obtain⟨Ts,Mo⟩:∃T,(pD rb rn).2=T:=⟨_,rfl⟩
  rw[KZ,Mo]at bC
  obtain⟨og,o,rows,bB,hL,nS,⟨sg,RL,RM⟩,Hb,go,hT,so,yk,AJ⟩:=id bC
  have hr:rows.length=k+1+j:=hT.len.trans Hb
  by_cases hj:(j:Int)<(m2:Int)
  ·have fS:∀{e:Env} {gg:Rows} {nx:Nat},(e 9=.int .i64 (IntKind.i64.wrap ((j:Int)+1)))->(e 7=.int .i64 (ns k (j+1):Int))->((iI gg X bs (A+4+2*k+2*(j+1))/\x2+3<=nx/\(∀i:Id,i≠X->i.bt<x2->gg i=g2 i)/\∃r,r.length=(j+1)/\ju r/\iQ (x2+2) gg nx ⟨59003001,x2+1⟩ (k+2+(j+1)) (k+1+(j+1)) (pD rb r).1 (pD rb r).2))->∃m0,m0<(m2)-j/\∃j:Nat,m0=(m2)-j/\j<=(m2)/\e 9=.int .i64 (j:Int)/\e 7=.int .i64 (ns k j:Int)/\((iI gg X bs (A+4+2*k+2*j)/\x2+3<=nx/\(∀i:Id,i≠X->i.bt<x2->gg i=g2 i)/\∃r,r.length=j/\ju r/\iQ (x2+2) gg nx ⟨59003001,x2+1⟩ (k+2+j) (k+1+j) (pD rb r).1 (pD rb r).2)):=fun x1 x2 x3=>⟨_,ad,j+1,rfl,ad,(by rw[x1,aX ad]),x2,x3⟩
   obtain⟨G,hG⟩:∃G,k+2+j=G:=⟨_,rfl⟩
   obtain⟨TT,YL⟩:∃T,k+1+j=T:=⟨_,rfl⟩
   obtain⟨z,hz⟩:∃z,ns k j=z:=⟨_,rfl⟩
   rw[hG]at bB hL
   rw[YL]at bB hr Hb
   rw[hz]at b7
   have hzT:z<TT:=by rw[<-hz,<-YL];unfold ns;split<;>omega
   have xe:=sf (j:Int) ad ad
   have DI:=jE (j:Int) ad
   obtain⟨dt,NO⟩:∃dt,fo (j:Int)=dt:=⟨_,rfl⟩
   rw[NO]at xe DI
   have eY:(#[121]:Array UInt8).size+dt.size<=9223372036854775807:=by
    have:(#[121]:Array UInt8).size=1:=rfl
    omega
   have iV:(#[110]:Array UInt8).size+dt.size<=9223372036854775807:=by
    have:(#[110]:Array UInt8).size=1:=rfl
    omega
   have np:((⟨#[121]⟩:ByteArray)++dt).size<=64:=by
    rw[jh]
    have:(⟨#[121]⟩:ByteArray).size=1:=rfl
    omega
   have NZ:((⟨#[110]⟩:ByteArray)++dt).size<=64:=by
    rw[jh]
    have:(⟨#[110]⟩:ByteArray).size=1:=rfl
    omega
   obtain⟨gb,nb⟩:=st_b
   (try dsimp only at bS bN bO bB nS RM go hT AJ)
   have Ze:z<Ts.length:=ad
   obtain⟨u,fC,⟨_,_,hl,f1,f2,f3,gE⟩,hTw⟩:=hT.get Ze
   have Vp:=uq (d:=0) (w:=(G:Int)+1) Ze
   obtain⟨nm,Q4⟩:∃x,Ts[z].bW=x:=⟨_,rfl⟩
   obtain⟨l,hlE⟩:∃x,Ts[z].de=x:=⟨_,rfl⟩
   rw[Q4]at fC hTw Vp
   rw[hlE]at hl gE Vp
   have wv:=dp RM
   have vo:=dp AJ
   have vu:=dp f3
   have ud:=Dq sg so
   have ub:=Dp f1 sg
   have uc:=tH f1 so
   have nB:∀i:Id,x2+2<=i.bt->∀s,(i=⟨s,x2+1⟩)=False/\((⟨s,x2+1⟩:Id)=i)=False:=fun i hi s=>⟨eq_false fun e=>by rw[e]at hi;(try dsimp only at hi);omega,eq_false fun e=>by rw[<-e]at hi;(try dsimp only at hi);omega⟩
   have rD:=nB og RL
   have pC:=nB o yk
   have rE:=nB u f2
   have lV:(L.map ej).length=G:=by rw[List.length_map,hL]
   have sZ:G<=16777215:=ad
   have XE:(z:Int)<(TT:Int):=ad
   have Qf:(0:Int)<=(z:Int):=ad
   have gy:(l.map aL).length=4:=by rw[List.length_map,hl]
   have nk:(l.map aL)[0]? =some [.int .i64 (l.getD 0 0)]:=getD_map aL ad
   have fU:∀w:Int,(l.map aL).set 0 [.int .i64 w]=(l.set 0 w).map aL:=fun w=>by rw[List.map_set];rfl
   (have zF:=tw @b9 (tw @b7 (tw @b0 (tw @b2 (tw @b4 (tw @b5 (tw @hj (tw @bB (tw @eY (tw @iV (tw @nS (tw @go (tw @wv (tw @vo (tw @vu (tw @ud (tw @ub (tw @uc (tw @rD (tw @pC (tw @rE (tw @lV (tw @sZ (tw @XE (tw @fC (tw @gE (tw @nk (tw @gy (tw @fU @hr))))))))))))))))))))))))))));(repeat(first|((repeat(revert N;apply Pn.out));refine wk zF ?_;(repeat(apply Pn.mk;intro N hN)))|((try apply Or.inl);refine⟨_,ax.x (xe) (sd zF),?_⟩;apply hN;clear hN N)));try clear zF)
   refine uu (fun e st=>e 0=.ptr X 0 0/\e 2=env_b 2/\e 4=env_b 4/\e 5=env_b 5/\e 9=.int .i64 (j:Int)/\iI st.get X bs (A+4+2*k+2*(j+1))/\x2+3<=st.next/\(∀i:Id,i≠X->i.bt<x2->st.get i=g2 i)/\∃r,r.length=j+1/\ju r/\iQ (x2+2) st.get st.next ⟨59003001,x2+1⟩ (G+1) (TT+1) (pD rb r).1 (pD rb r).2) ?_ ?_
   ·rintro e st ⟨r0,r2,r4,r5,r9,rS,rN,rO,rr,q1,q2,rC⟩
    obtain⟨gc,nc⟩:=st
    (try dsimp only at rS rN rO rC)
    obtain⟨qg,qo,rows',rB,_⟩:=id rC
    rw[b2]at r2
    rw[b4]at r4
    rw[b5]at r5
    apply hN
    clear hN N
    have w9:IntKind.i64.wrap (((TT+1:Nat):Int)-1)=(TT:Int):=(dj ad).trans ad
    have hl9:ns k (j+1)=TT:=by rw[<-YL];unfold ns;rw[if_neg ad];omega
    (try((repeat(revert N;apply Pn.out));refine wk (tw @r0 (tw @r2 (tw @r4 (tw @r5 (tw @r9 (tw @rB @w9)))))) ?_;(repeat(apply Pn.mk;intro N hN))))
    refine fS ?_ ?_ (by(try dsimp only);rw[show k+2+(j+1)=G+1 by omega,show k+1+(j+1)=TT+1 by omega];exact⟨rS,ad,rO,rr,q1,q2,rC.later ad⟩)
    all_goals simp only[go_sem, ↓reduceIte,Nat.reduceEqDiff,Nat.reduceAdd,Nat.reduceSub,Nat.reduceLeDiff,reduceCtorEq,b9,b7,b0,b2,b4,b5,r9,hl9]
   ·intro N hN
    have nXu:(X=u)=False:=eq_false fun h=>by rw[<-h]at f2;omega
    have nXg:(X=og)=False:=eq_false fun h=>by rw[<-h]at RL;omega
    have vXa:=dp (i:=X) (n:=nb) ad
    refine eH ?_ ?_<;>(have zF:=tw @b9 (tw @b7 (tw @b0 (tw @b2 (tw @b4 (tw @b5 (tw @bB (tw @eY (tw @iV (tw @nS (tw @go (tw @wv (tw @vo (tw @vu (tw @ud (tw @ub (tw @uc (tw @rD (tw @pC (tw @rE (tw @lV @hr))))))))))))))))))));(repeat(first|((repeat(revert N;apply Pn.out));refine wk zF ?_;(repeat(apply Pn.mk;intro N hN)))|((try apply Or.inl);refine⟨_,ax.x (xe) (sd zF),?_⟩;apply hN;clear hN N)));try clear zF)<;>(try refine eH ?_ ?_)<;>(have zF:=tw @b9 (tw @b7 (tw @b0 (tw @b2 (tw @b4 (tw @b5 (tw @bB (tw @eY (tw @iV (tw @nS (tw @go (tw @wv (tw @vo (tw @vu (tw @ud (tw @ub (tw @uc (tw @rD (tw @pC (tw @rE (tw @lV @hr))))))))))))))))))));(repeat(first|((repeat(revert N;apply Pn.out));refine wk zF ?_;(repeat(apply Pn.mk;intro N hN)))|((try apply Or.inl);refine⟨_,ax.x (xe) (sd zF),?_⟩;apply hN;clear hN N)));try clear zF)<;>(try refine eH ?_ ?_)<;>(have zF:=tw @b9 (tw @b7 (tw @b0 (tw @b2 (tw @b4 (tw @b5 (tw @bB (tw @eY (tw @iV (tw @nS (tw @go (tw @wv (tw @vo (tw @vu (tw @ud (tw @ub (tw @uc (tw @rD (tw @pC (tw @rE (tw @lV @hr))))))))))))))))))));(repeat(first|((repeat(revert N;apply Pn.out));refine wk zF ?_;(repeat(apply Pn.mk;intro N hN)))|((try apply Or.inl);refine⟨_,ax.x (xe) (sd zF),?_⟩;apply hN;clear hN N)));try clear zF)<;>(try refine eH ?_ ?_)<;>(have zF:=tw @b9 (tw @b7 (tw @b0 (tw @b2 (tw @b4 (tw @b5 (tw @bB (tw @eY (tw @iV (tw @nS (tw @go (tw @wv (tw @vo (tw @vu (tw @ud (tw @ub (tw @uc (tw @rD (tw @pC (tw @rE (tw @lV @hr))))))))))))))))))));(repeat(first|((repeat(revert N;apply Pn.out));refine wk zF ?_;(repeat(apply Pn.mk;intro N hN)))|((try apply Or.inl);refine⟨_,ax.x (xe) (sd zF),?_⟩;apply hN;clear hN N)));try clear zF)<;>(try refine eH ?_ ?_)<;>(have zF:=tw @b9 (tw @b7 (tw @b0 (tw @b2 (tw @b4 (tw @b5 (tw @bB (tw @eY (tw @iV (tw @nS (tw @go (tw @wv (tw @vo (tw @vu (tw @ud (tw @ub (tw @uc (tw @rD (tw @pC (tw @rE (tw @lV @hr))))))))))))))))))));(repeat(first|((repeat(revert N;apply Pn.out));refine wk zF ?_;(repeat(apply Pn.mk;intro N hN)))|((try apply Or.inl);refine⟨_,ax.x (xe) (sd zF),?_⟩;apply hN;clear hN N)));try clear zF)<;>(try refine eH ?_ ?_)<;>(have zF:=tw @b9 (tw @b7 (tw @b0 (tw @b2 (tw @b4 (tw @b5 (tw @bB (tw @eY (tw @iV (tw @nS (tw @go (tw @wv (tw @vo (tw @vu (tw @ud (tw @ub (tw @uc (tw @rD (tw @pC (tw @rE (tw @lV @hr))))))))))))))))))));(repeat(first|((repeat(revert N;apply Pn.out));refine wk zF ?_;(repeat(apply Pn.mk;intro N hN)))|((try apply Or.inl);refine⟨_,ax.x (xe) (sd zF),?_⟩;apply hN;clear hN N)));try clear zF)
    all_goals
     refine .inr (aH _ _ _ _ _ (fun r σ3 hq=>?_) (ny bs hb kq X 2 (A+4+2*k+2*j) ad _ (by
      obtain⟨za,zz,Mz,gX⟩:=bS
      exact⟨za,zz,Mz,by simp only[go_sem, ↓reduceIte,Nat.reduceEqDiff,Nat.reduceAdd,Nat.reduceSub,Nat.reduceLeDiff,reduceCtorEq,vXa,Wl,nXu,nXg]<;>exact gX⟩)))
     obtain⟨w,rfl,w0,w1,h3,hK⟩:=hq
     obtain⟨g3,x3⟩:=σ3
     (try dsimp only at h3)
     have Rg:=hK.1
     (try dsimp only at Rg)
     have c5:=hK.2 ⟨59003001,x2+1⟩ (fun e=>by rw[<-e]at hX;(try dsimp only at hX);omega) bp
     have cG:=hK.2 ⟨59019007,nb+1⟩ (fun e=>by rw[<-e]at hX;(try dsimp only at hX);omega) bp
     have co:=hK.2 o (fun h=>by rw[h]at yk;omega) bp
     have cu:=hK.2 u (fun h=>by rw[h]at f2;omega) bp
     simp only[go_sem, ↓reduceIte,Nat.reduceEqDiff,Nat.reduceAdd,Nat.reduceSub,Nat.reduceLeDiff,reduceCtorEq,go,vo,vu,ud,ub,uc,rD,pC,rE]at c5 cG co cu
     apply hN
     clear hN N
     have BH:TT<=16777215:=ad
     have vo3:=dp (i:=o) (n:=x3) ad
     (have zF:=tw @b9 (tw @b7 (tw @b0 (tw @b2 (tw @b4 (tw @b5 (tw @c5 (tw @cG (tw @co (tw @hr (tw @iV (tw @BH (tw @rD (tw @pC (tw @rE @vo3))))))))))))));(repeat(first|((repeat(revert N;apply Pn.out));refine wk zF ?_;(repeat(apply Pn.mk;intro N hN)))|((try apply Or.inl);refine⟨_,ax.x (xe) (sd zF),?_⟩;apply hN;clear hN N)));try clear zF)
     obtain⟨za,zz,Mz,gX⟩:=h3
     have vX3:=dp (i:=X) (n:=x3) ad
     have VQ:(X=o)=False:=eq_false fun h=>by rw[<-h]at yk;omega
     have YK:=(hTw g3 (l.set 0 ((G:Int)+1)) (by rw[List.length_set,hl]) (by rw[show(G:Int)+1=((G+1:Nat):Int) by omega];exact cu) fun i h1 h2 h4 h5=>(hK.2 i (fun h=>by rw[h]at h2;omega) bp).trans (by
      have q1:=dp h4
      have q2:=Dp h1 sg
      have q3:=nB i h2
      have q4:(i=u)=False:=eq_false h5
      simp only[go_sem, ↓reduceIte,Nat.reduceEqDiff,Nat.reduceAdd,Nat.reduceSub,Nat.reduceLeDiff,reduceCtorEq,q1,q2,q3,q4])).frame (n':=x3) ad fun _ _ _ _=>rfl
     rw[<-Vp]at YK
     have hbw:IntKind.i64.wrap (1+w)=1∨IntKind.i64.wrap (1+w)=2:=by rw[dj ad];omega
     have g3O:∀i:Id,i≠X->i.bt<x2->g3 i=g2 i:=fun i h1 h2=>(hK.2 i h1 bp).trans (by
      have q1:=dp (i:=i) (n:=nb) ad
      have q2:=dp h2
      have q3:(i=og)=False:=eq_false fun h=>by rw[h]at h2;omega
      have q4:(i=u)=False:=eq_false fun h=>by rw[h]at h2;omega
      simp only[go_sem, ↓reduceIte,Nat.reduceEqDiff,Nat.reduceAdd,Nat.reduceSub,Nat.reduceLeDiff,reduceCtorEq,q1,q2,q3,q4]<;>exact bO i h1 h2)
     exact⟨sd (tw @b9 (tw @b7 (tw @b0 (tw @b2 (tw @b4 @b5))))),sd (tw @b9 (tw @b7 (tw @b0 (tw @b2 (tw @b4 @b5))))),sd (tw @b9 (tw @b7 (tw @b0 (tw @b2 (tw @b4 @b5))))),sd (tw @b9 (tw @b7 (tw @b0 (tw @b2 (tw @b4 @b5))))),sd (tw @b9 (tw @b7 (tw @b0 (tw @b2 (tw @b4 @b5))))),⟨za,zz,ad,by simp only[go_sem, ↓reduceIte,Nat.reduceEqDiff,Nat.reduceAdd,Nat.reduceSub,Nat.reduceLeDiff,reduceCtorEq,vX3,Wl,VQ]<;>exact gX⟩,bp,fun i h1 h2=>(by
      have q1:=dp (i:=i) (n:=x3) ad
      have q2:=dp h2
      have q3:(i=o)=False:=eq_false fun h=>by rw[h]at h2;omega
      simp only[go_sem, ↓reduceIte,Nat.reduceEqDiff,Nat.reduceAdd,Nat.reduceSub,Nat.reduceLeDiff,reduceCtorEq,q1,q2,q3]<;>exact g3O i h1 h2),IntKind.i64.wrap (1+w)::rn,by rw[List.length_cons,hrn],ju.cons hbw Vf,by
       rw[lf,KZ,Mo,hrn,hrb,hz,hG]
       have q9:fo ((j:Nat):Int)=dt:=NO
       unfold Yx
       rw[q9]
       exact⟨⟨59019007,nb+1⟩,⟨59021014,x3⟩,rows++[[.str ((⟨#[110]⟩:ByteArray)++dt),.own ⟨59021011,x3⟩ 0 4]],sl @Nat.zero_add,by simp[hL],by
       have q1:((⟨59019007,nb+1⟩:Id)=o)=False:=eq_false fun h=>by rw[<-h]at AJ;(try dsimp only at AJ);omega
       rw[List.map_append];simp only[go_sem, ↓reduceIte,Nat.reduceEqDiff,Nat.reduceAdd,Nat.reduceSub,Nat.reduceLeDiff,reduceCtorEq,q1]<;>exact cG,⟨.inr (.inr rfl),bp,bp⟩,by simp[fj,Hb],sl @Nat.zero_add,(YK.frame (n':=x3) ad fun i h1 h2 h4=>(by
        have q1:=dp h4
        have q2:=tH h1 so
        have q3:=nB i h2
        simp only[go_sem, ↓reduceIte,Nat.reduceEqDiff,Nat.reduceAdd,Nat.reduceSub,Nat.reduceLeDiff,reduceCtorEq,q1,q2,q3])).snoc (t:=⟨(⟨#[110]⟩:ByteArray)++dt,[0,IntKind.i64.wrap (1+w),(G:Int)+1,0]⟩) (e:=⟨59021011,x3⟩) bp bp ⟨rfl,⟨NZ,Ea _ _⟩,rfl,.inr (.inr (.inl rfl)),bp,bp,by
        have q1:((⟨59021011,x3⟩:Id)=o)=False:=eq_false fun h=>by rw[<-h]at AJ;(try dsimp only at AJ);omega
        rw[show(G:Int)+1=((G+1:Nat):Int) by omega]
        simp only[go_sem, ↓reduceIte,Nat.reduceEqDiff,Nat.reduceAdd,Nat.reduceSub,Nat.reduceLeDiff,reduceCtorEq,q1]<;>rfl⟩,.inr (.inr (.inl rfl)),bp,bp⟩⟩
  ·have hjm:j=m2:=ad
   subst hjm
   clear bB hL nS sg RL RM hr go hT so yk AJ Hb
   obtain⟨gb,nb⟩:=st_b
   (try dsimp only at bS bN bO bC)
   have UF:(⟨59003001,x2+1⟩:Id)≠X:=fun e=>by rw[<-e]at hX;(try dsimp only at hX);omega
   obtain⟨G,hG⟩:∃G,k+2+j=G:=⟨_,rfl⟩
   obtain⟨TT,YL⟩:∃T,k+1+j=T:=⟨_,rfl⟩
   rw[hG,YL]at bC
   have JM:∀x∈L,x.bW.size<=64:=KZ▸C1 rb ad rn ad
   obtain⟨A2,hA2⟩:∃A2,A+4+2*k+2*j=A2:=⟨_,rfl⟩
   rw[hA2]at bS
   (try((repeat(revert N;apply Pn.out));refine wk (tw @b9 (tw @b7 (tw @b0 (tw @b2 (tw @b4 (tw @b5 @hj)))))) ?_;(repeat(apply Pn.mk;intro N hN))))
   refine cm (fun n env st=>∃i:Nat,n=(4)-i/\i<=(4)/\env 10=.int .i64 (i:Int)/\((iI st.get X bs (A2+4*i)/\x2+3<=st.next/\(∀u:Id,u≠X->u.bt<x2->st.get u=g2 u)/\∃rs,Jo rs/\rs.length=i/\iQ (x2+2) st.get st.next ⟨59003001,x2+1⟩ G (TT+i) L (Ts++rs)))) (4) ⟨0,ad,ad,sl (tw @b9 (tw @b7 (tw @b0 (tw @b2 (tw @b4 @b5))))),by(try dsimp only);exact⟨bS,ad,bO,[],Jo.nil,rfl,by rw[List.append_nil];exact bC.later ad⟩⟩ ?_
   rintro n_c env_c st_c ⟨i,rfl,cle,iR,cI0⟩ jA
   have c0:=jA 0 (by kernel_rfl);have c2:=jA 2 (by kernel_rfl);have c5:=jA 5 (by kernel_rfl)
   simp only[go_sem, ↓reduceIte,Nat.reduceEqDiff,Nat.reduceAdd,Nat.reduceSub,Nat.reduceLeDiff,reduceCtorEq,b9,b7,b0,b2,b4,b5]at c0 c2 c5
   clear jA
   obtain⟨cS,cN,cO,rs,tU,uA,cC⟩:=cI0
   by_cases hi:(i:Int)<4
   ·have iL:∀{e:Env} {gg:Rows} {nx:Nat},(e 10=.int .i64 (IntKind.i64.wrap ((i:Int)+1)))->((iI gg X bs (A2+4*(i+1))/\x2+3<=nx/\(∀u:Id,u≠X->u.bt<x2->gg u=g2 u)/\∃rs,Jo rs/\rs.length=(i+1)/\iQ (x2+2) gg nx ⟨59003001,x2+1⟩ G (TT+(i+1)) L (Ts++rs)))->∃m0,m0<(4)-i/\∃i:Nat,m0=(4)-i/\i<=(4)/\e 10=.int .i64 (i:Int)/\((iI gg X bs (A2+4*i)/\x2+3<=nx/\(∀u:Id,u≠X->u.bt<x2->gg u=g2 u)/\∃rs,Jo rs/\rs.length=i/\iQ (x2+2) gg nx ⟨59003001,x2+1⟩ G (TT+i) L (Ts++rs))):=fun x1 x2=>⟨_,ad,i+1,rfl,ad,(by rw[x1,aX ad]),x2⟩
    have xe:=sf (i:Int) ad ad
    have DI:=jE (i:Int) ad
    obtain⟨dt,NO⟩:∃dt,fo (i:Int)=dt:=⟨_,rfl⟩
    rw[NO]at xe DI
    have eY:(#[114]:Array UInt8).size+dt.size<=9223372036854775807:=by
     have:(#[114]:Array UInt8).size=1:=rfl
     omega
    have np:((⟨#[114]⟩:ByteArray)++dt).size<=64:=by
     rw[jh]
     have:(⟨#[114]⟩:ByteArray).size=1:=rfl
     omega
    obtain⟨gc,nc⟩:=st_c
    (try dsimp only at cS cN cO cC)
    (try((repeat(revert N;apply Pn.out));refine wk (tw @iR (tw @c0 (tw @c2 (tw @c5 @hi)))) ?_;(repeat(apply Pn.mk;intro N hN))))
    refine .inr (aH _ _ _ _ _ (fun r σ3 hq=>?_) (ny bs hb kq X 2 (A2+4*i) ad _ cS))
    obtain⟨w,rfl,w0,w1,h3,hK⟩:=hq
    have dC:=cC.only hK bp ad UF bp
    have Rg:=hK.1
    have dO:∀i:Id,i≠X->i.bt<x2->σ3.get i=g2 i:=fun i h1 h2=>(hK.2 i h1 bp).trans (cO i h1 h2)
    obtain⟨g3,x3⟩:=σ3
    (try dsimp only at h3 dC Rg dO)
    clear hK cS cC cO
    apply hN
    clear hN N
    have Qc:((i:Nat):Int).tmod 2=((i:Nat):Int).tmod 2:=rfl
    (try((repeat(revert N;apply Pn.out));refine wk (tw @iR (tw @c0 (tw @c2 @c5))) ?_;(repeat(apply Pn.mk;intro N hN))))
    refine Kp (fun e st=>e 0=.ptr X 0 0/\e 2=env_c 2/\e 5=env_c 5/\e 10=.int .i64 (i:Int)/\iI st.get X bs (A2+4*(i+1))/\x2+3<=st.next/\(∀i:Id,i≠X->i.bt<x2->st.get i=g2 i)/\∃rs,Jo rs/\rs.length=i+1/\iQ (x2+2) st.get st.next ⟨59003001,x2+1⟩ G (TT+i+1) L (Ts++rs)) ?_ ?_
    ·rintro e st ⟨r0,r2,r5,r10,rS,rN,rO,rs',q1,q2,rC⟩
     obtain⟨gd,nd⟩:=st
     (try dsimp only at rS rN rO rC)
     rw[c2]at r2
     rw[c5]at r5
     apply hN
     clear hN N
     (try((repeat(revert N;apply Pn.out));refine wk (tw @r0 (tw @r2 (tw @r5 @r10))) ?_;(repeat(apply Pn.mk;intro N hN))))
     exact iL (sd (tw @iR (tw @c0 (tw @c2 (tw @c5 @r10))))) (by(try dsimp only);exact⟨rS,ad,rO,rs',q1,q2,rC.later ad⟩)
    ·intro N hN
     obtain⟨og,o,rows,dB,hL,nS,sg,Hb,go,hT,so,yk,AJ⟩:=id dC
     have hr:rows.length=TT+i:=hT.len.trans Hb
     have pC:∀s,(o=⟨s,x2+1⟩)=False/\((⟨s,x2+1⟩:Id)=o)=False:=fun s=>⟨eq_false fun e=>by rw[e]at yk;(try dsimp only at yk);omega,eq_false fun e=>by rw[<-e]at yk;(try dsimp only at yk);omega⟩
     have BH:TT+i<=16777215:=ad
     refine eH ?_ ?_<;>(have zF:=tw @iR (tw @c0 (tw @c2 (tw @c5 (tw @dB @eY))));(repeat(first|((repeat(revert N;apply Pn.out));refine wk zF ?_;(repeat(apply Pn.mk;intro N hN)))|((try apply Or.inl);refine⟨_,ax.x (xe) (sd zF),?_⟩;apply hN;clear hN N)));try clear zF)<;>(try refine eH ?_ ?_)<;>(have zF:=tw @iR (tw @c0 (tw @c2 (tw @c5 (tw @dB @eY))));(repeat(first|((repeat(revert N;apply Pn.out));refine wk zF ?_;(repeat(apply Pn.mk;intro N hN)))|((try apply Or.inl);refine⟨_,ax.x (xe) (sd zF),?_⟩;apply hN;clear hN N)));try clear zF)
     all_goals
      refine .inr (aH _ _ _ _ _ (fun r σ4 hq=>?_) (ny bs hb kq X 2 (A2+4*i+2) ad _ h3))
      obtain⟨w',rfl,w0',w1',h4,hK⟩:=hq
      obtain⟨g4,x4⟩:=σ4
      (try dsimp only at h4)
      have hx4:=hK.1
      (try dsimp only at hx4)
      have SV:=(hK.2 ⟨59003001,x2+1⟩ UF bp).trans dB
      have Xv:=(hK.2 o (fun h=>by rw[h]at yk;omega) bp).trans go
      have gT4:∀u:Id,x2+2<=u.bt->u.bt<x3->g4 u=g3 u:=fun u h1 h2=>hK.2 u (fun h=>by rw[h]at h1;omega) bp
      have g4O:∀u:Id,u≠X->u.bt<x2->g4 u=g2 u:=fun u h1 h2=>(hK.2 u h1 bp).trans (dO u h1 h2)
      (try dsimp only at SV Xv)
      clear hK
      apply hN
      clear hN N
      have vo4:=dp (i:=o) (n:=x4) ad
      (have zF:=tw @iR (tw @c0 (tw @c2 (tw @c5 (tw @SV (tw @Xv (tw @hr (tw @eY (tw @BH (tw @pC @vo4)))))))));(repeat(first|((repeat(revert N;apply Pn.out));refine wk zF ?_;(repeat(apply Pn.mk;intro N hN)))|((try apply Or.inl);refine⟨_,ax.x (xe) (sd zF),?_⟩;apply hN;clear hN N)));try clear zF)
      obtain⟨za,zz,Mz,gX⟩:=h4
      have vX4:=dp (i:=X) (n:=x4) ad
      have VQ:(X=o)=False:=eq_false fun h=>by rw[<-h]at yk;omega
      exact⟨sd (tw @iR (tw @c0 (tw @c2 @c5))),sd (tw @iR (tw @c0 (tw @c2 @c5))),sd (tw @iR (tw @c0 (tw @c2 @c5))),sd (tw @iR (tw @c0 (tw @c2 @c5))),⟨za,zz,ad,by simp only[go_sem, ↓reduceIte,Nat.reduceEqDiff,Nat.reduceAdd,Nat.reduceSub,Nat.reduceLeDiff,reduceCtorEq,vX4,Wl,VQ]<;>exact gX⟩,bp,fun u h1 h2=>(by
       have q1:=dp (i:=u) (n:=x4) ad
       have q2:=dp h2
       have q3:(u=o)=False:=eq_false fun h=>by rw[h]at h2;omega
       simp only[go_sem, ↓reduceIte,Nat.reduceEqDiff,Nat.reduceAdd,Nat.reduceSub,Nat.reduceLeDiff,reduceCtorEq,q1,q2,q3]<;>exact g4O u h1 h2),rs++[⟨(⟨#[114]⟩:ByteArray)++dt,[IntKind.i64.wrap (1+w),IntKind.i64.wrap (1+w'),IntKind.i64.wrap (1+(i:Int).tmod 2),IntKind.i64.wrap (1+IntKind.i64.wrap ((i:Int).tdiv 2))]⟩],tU.snoc uA (by rw[NO]) (J5 w0 w1) (J5 w0' w1') (S6 ad).1 (S6 ad).2,by simp[uA],iQ.assoc <| iQ.put (u:=⟨59027018,x4⟩) (e:=⟨59027015,x4⟩) (t:=⟨(⟨#[114]⟩:ByteArray)++dt,[IntKind.i64.wrap (1+w),IntKind.i64.wrap (1+w'),IntKind.i64.wrap (1+(i:Int).tmod 2),IntKind.i64.wrap (1+IntKind.i64.wrap ((i:Int).tdiv 2))]⟩) hL nS sg hT Hb ⟨np,Ea _ _⟩ rfl bp (sl @Nat.zero_add) (sl @Nat.zero_add) ⟨.inr (.inr (.inr (.inl rfl))),bp,bp⟩ (by
        have q1:((⟨59027015,x4⟩:Id)=o)=False:=eq_false fun h=>by rw[<-h]at AJ;(try dsimp only at AJ);omega
        simp only[go_sem, ↓reduceIte,Nat.reduceEqDiff,Nat.reduceAdd,Nat.reduceSub,Nat.reduceLeDiff,reduceCtorEq,q1]<;>rfl) ⟨.inr (.inr (.inr (.inl rfl))),bp,bp⟩ fun u hs h1 h2=>(by
        have q1:=dp (i:=u) (n:=x4) ad
        have q2:(u=o)=False:=by rcases hs with hs|hs;exact(tH hs so).1;exact(Dq hs so).1
        have q3:∀s,(u=⟨s,x2+1⟩)=False:=fun s=>eq_false fun e=>by rw[e]at h1;(try dsimp only at h1);omega
        simp only[go_sem, ↓reduceIte,Nat.reduceEqDiff,Nat.reduceAdd,Nat.reduceSub,Nat.reduceLeDiff,reduceCtorEq,q1,q2,q3]<;>exact gT4 u h1 h2)⟩
   ·have hi4:i=4:=ad
    subst hi4
    obtain⟨gc,nc⟩:=st_c
    (try dsimp only at cS cN cO cC)
    (try((repeat(revert N;apply Pn.out));refine wk (tw @iR (tw @c0 (tw @c2 (tw @c5 @hi)))) ?_;(repeat(apply Pn.mk;intro N hN))))
    refine .inr (aH _ _ _ _ _ (fun r σ3 hq=>?_) (Z0 bs hb kq X 3 (A2+4*4) ad _ cS))
    obtain⟨b,rfl,h3,hK⟩:=hq
    have dC:=cC.only hK bp ad UF bp
    have Rg:=hK.1
    have dO:∀i:Id,i≠X->i.bt<x2->σ3.get i=g2 i:=fun i h1 h2=>(hK.2 i h1 bp).trans (cO i h1 h2)
    obtain⟨g3,x3⟩:=σ3
    (try dsimp only at h3 dC Rg dO)
    clear hK cS cC cO
    apply hN
    clear hN N
    (try((repeat(revert N;apply Pn.out));refine wk (tw @iR (tw @c0 (tw @c2 @c5))) ?_;(repeat(apply Pn.mk;intro N hN))))
    refine uu (fun e st=>e 0=.ptr X 0 0/\e 2=env_c 2/\e 5=env_c 5/\iI st.get X bs (A2+30)/\x2+3<=st.next/\(∀u:Id,u≠X->u.bt<x2->st.get u=g2 u)/\∃T2 rs,0<T2/\T2<=100/\(Jo rs/\4<=rs.length/\rs.length<=5)/\iQ (x2+2) st.get st.next ⟨59003001,x2+1⟩ G T2 L (Ts++rs)) ?_ ?_
    ·rintro e st ⟨r0,r2,r5,rS,rN,rO,T2,rs',t0,t1,q1,rC⟩
     obtain⟨gd,nd⟩:=st
     (try dsimp only at rS rN rO rC)
     rw[c2]at r2
     rw[c5]at r5
     obtain⟨og,o,rows,sB,hL,nS,⟨sg,RL,RM⟩,Hb,go,hT,so,yk,AJ⟩:=id rC
     have s2:=(rO ⟨59000000,σ.next⟩ (fun e=>by rw[<-e]at hX;(try dsimp only at hX);omega) bp).trans NB
     apply hN
     clear hN N
     (try((repeat(revert N;apply Pn.out));refine wk (tw @r0 (tw @r2 (tw @r5 (tw @sB @s2)))) ?_;(repeat(apply Pn.mk;intro N hN))))
     have Q4:¬iJ o.site:=fun h=>by have:=(tH h so).1;simp at this
     obtain⟨za,zz,Mz,gX⟩:=rS
     have vXd:=dp (i:=X) (n:=nd) ad
     have jx:∀u:Id,x2+2<=u.bt->u.bt<nd->∀r1 r2,(ck (ck gd ⟨59030002,nd⟩ r1) ⟨59000000,σ.next⟩ r2) u=gd u:=fun u h1 h2 r1 r2=>(by
      have h8:=dp h2
      have h9:∀s,(u=⟨s,σ.next⟩)=False:=fun s=>eq_false fun h=>by rw[h]at h1;(try dsimp only at h1);omega
      simp only[go_sem, ↓reduceIte,Nat.reduceEqDiff,Nat.reduceAdd,Nat.reduceSub,Nat.reduceLeDiff,reduceCtorEq,h8,h9])
     exact fc (.inl rfl) (vs:=[.agg [.own og 0 G,.own o 0 T2,.own ⟨59030002,nd⟩ 0 1,.int .i64 2]]) (sd @r2) ⟨og,o,⟨59030002,nd⟩,G,T2,rows,rb,rn,rs',rfl,⟨ad,ad,ad,ad,t1⟩,hbp,Vf,q1,by rw[KZ];exact(jx og RL RM _ _).trans nS,by rw[KZ];exact hL,(jx o yk AJ _ _).trans go,by rw[Mo];exact Hb,by rw[Mo];exact(hT.frame (n':=nd+1) ad fun i _ h1 h2=>jx i h1 h2 _ _).since bp,Q4,⟨bp,bp,bp,bp⟩,sl @Nat.zero_add,⟨bp,bp⟩,⟨za,zz,ad,by simp only[go_sem, ↓reduceIte,Nat.reduceEqDiff,Nat.reduceAdd,Nat.reduceSub,Nat.reduceLeDiff,reduceCtorEq,vXd,vX]<;>exact gX⟩,bp,fun u h1 h2=>(by
      have h7:=dp h2
      have h8:=dp (i:=u) (n:=nd) ad
      simp only[go_sem, ↓reduceIte,Nat.reduceEqDiff,Nat.reduceAdd,Nat.reduceSub,Nat.reduceLeDiff,reduceCtorEq,h7,h8]<;>exact(rO u h1 ad).trans (g2O u h1 h2))⟩
    ·intro N hN
     cases b
     ·(try((repeat(revert N;apply Pn.out));refine wk (tw @iR (tw @c0 (tw @c2 @c5))) ?_;(repeat(apply Pn.mk;intro N hN))))
      exact⟨sd (tw @iR (tw @c0 (tw @c2 @c5))),sd (tw @iR (tw @c0 (tw @c2 @c5))),sd (tw @iR (tw @c0 (tw @c2 @c5))),h3.mono ad,bp,dO,TT+4,rs,ad,ad,⟨tU,ad,ad⟩,dC.later bp⟩
     ·obtain⟨og,o,rows,dB,hL,nS,sg,Hb,go,hT,so,yk,AJ⟩:=id dC
      have hr:rows.length=TT+4:=hT.len.trans Hb
      have pC:∀s,(o=⟨s,x2+1⟩)=False/\((⟨s,x2+1⟩:Id)=o)=False:=fun s=>⟨eq_false fun e=>by rw[e]at yk;(try dsimp only at yk);omega,eq_false fun e=>by rw[<-e]at yk;(try dsimp only at yk);omega⟩
      have BH:TT<=16777211:=ad
      (try((repeat(revert N;apply Pn.out));refine wk (tw @iR (tw @c0 (tw @c2 (tw @c5 @dB)))) ?_;(repeat(apply Pn.mk;intro N hN))))
      refine eH ?_ ?_<;>(try((repeat(revert N;apply Pn.out));refine wk (tw @iR (tw @c0 (tw @c2 (tw @c5 @dB)))) ?_;(repeat(apply Pn.mk;intro N hN))))
      all_goals
       refine .inr (aH _ _ _ _ _ (fun r σ4 hq=>?_) (ny bs hb kq X 2 (A2+4*4+2) ad _ h3))
       obtain⟨w,rfl,w0,w1,h4,hK⟩:=hq
       obtain⟨g4,x4⟩:=σ4
       (try dsimp only at h4)
       have hx4:=hK.1
       (try dsimp only at hx4)
       have SV:=(hK.2 ⟨59003001,x2+1⟩ UF bp).trans dB
       have Xv:=(hK.2 o (fun h=>by rw[h]at yk;omega) bp).trans go
       have gT4:∀u:Id,x2+2<=u.bt->u.bt<x3->g4 u=g3 u:=fun u h1 h2=>hK.2 u (fun h=>by rw[h]at h1;omega) bp
       have g4O:∀u:Id,u≠X->u.bt<x2->g4 u=g2 u:=fun u h1 h2=>(hK.2 u h1 bp).trans (dO u h1 h2)
       (try dsimp only at SV Xv)
       clear hK
       apply hN
       clear hN N
       (try((repeat(revert N;apply Pn.out));refine wk (tw @iR (tw @c0 (tw @c2 (tw @c5 @SV)))) ?_;(repeat(apply Pn.mk;intro N hN))))
       (try refine eH ?_ ?_)<;>(try((repeat(revert N;apply Pn.out));refine wk (tw @iR (tw @c0 (tw @c2 (tw @c5 @SV)))) ?_;(repeat(apply Pn.mk;intro N hN))))
       all_goals
        refine .inr (aH _ _ _ _ _ (fun r σ5 hq=>?_) (ny bs hb kq X 2 (A2+4*4+2+2) ad _ h4))
        obtain⟨w',rfl,w0',w1',h5,hK⟩:=hq
        obtain⟨g5,x5⟩:=σ5
        (try dsimp only at h5)
        have hx5:=hK.1
        (try dsimp only at hx5)
        have dB5:=(hK.2 ⟨59003001,x2+1⟩ UF bp).trans SV
        have go5:=(hK.2 o (fun h=>by rw[h]at yk;omega) bp).trans Xv
        have gT5:∀u:Id,x2+2<=u.bt->u.bt<x3->g5 u=g3 u:=fun u h1 h2=>(hK.2 u (fun h=>by rw[h]at h1;omega) bp).trans (gT4 u h1 h2)
        have g5O:∀u:Id,u≠X->u.bt<x2->g5 u=g2 u:=fun u h1 h2=>(hK.2 u h1 bp).trans (g4O u h1 h2)
        (try dsimp only at dB5 go5)
        clear hK
        apply hN
        clear hN N
        have vo5:=dp (i:=o) (n:=x5) ad
        (try((repeat(revert N;apply Pn.out));refine wk (tw @iR (tw @c0 (tw @c2 (tw @c5 (tw @dB5 (tw @go5 (tw @hr (tw @BH (tw @pC @vo5))))))))) ?_;(repeat(apply Pn.mk;intro N hN))))
        obtain⟨za,zz,Mz,gX⟩:=h5
        have vX5:=dp (i:=X) (n:=x5) ad
        have VQ:(X=o)=False:=eq_false fun h=>by rw[<-h]at yk;omega
        exact⟨sd (tw @iR (tw @c0 (tw @c2 @c5))),sd (tw @iR (tw @c0 (tw @c2 @c5))),sd (tw @iR (tw @c0 (tw @c2 @c5))),⟨za,zz,ad,by simp only[go_sem, ↓reduceIte,Nat.reduceEqDiff,Nat.reduceAdd,Nat.reduceSub,Nat.reduceLeDiff,reduceCtorEq,vX5,Wl,VQ]<;>exact gX⟩,bp,fun u h1 h2=>(by
         have q1:=dp (i:=u) (n:=x5) ad
         have q2:=dp h2
         have q3:(u=o)=False:=eq_false fun h=>by rw[h]at h2;omega
         simp only[go_sem, ↓reduceIte,Nat.reduceEqDiff,Nat.reduceAdd,Nat.reduceSub,Nat.reduceLeDiff,reduceCtorEq,q1,q2,q3]<;>exact g5O u h1 h2),TT+4+1,rs++[⟨⟨#[114,52]⟩,[1,2,IntKind.i64.wrap (1+w),IntKind.i64.wrap (1+w')]⟩],ad,ad,⟨tU.snoc uA (KO (Nat.le_refl 4) 114).symm (.inl rfl) (.inr rfl) (J5 w0 w1) (J5 w0' w1'),by simp[uA],by simp[uA]⟩,iQ.assoc <| iQ.put (u:=⟨59029011,x5⟩) (e:=⟨59029008,x5⟩) (t:=⟨⟨#[114,52]⟩,[1,2,IntKind.i64.wrap (1+w),IntKind.i64.wrap (1+w')]⟩) hL nS sg hT Hb ZV rfl bp (sl @Nat.zero_add) (sl @Nat.zero_add) ⟨.inr (.inr (.inr (.inr rfl))),bp,bp⟩ (by
          have q1:((⟨59029008,x5⟩:Id)=o)=False:=eq_false fun h=>by rw[<-h]at AJ;(try dsimp only at AJ);omega
          simp only[go_sem, ↓reduceIte,Nat.reduceEqDiff,Nat.reduceAdd,Nat.reduceSub,Nat.reduceLeDiff,reduceCtorEq,q1]<;>rfl) ⟨.inr (.inr (.inr (.inr rfl))),bp,bp⟩ fun u hs h1 h2=>(by
          have q1:=dp (i:=u) (n:=x5) ad
          have q2:(u=o)=False:=by rcases hs with hs|hs;exact(tH hs so).1;exact(Dq hs so).1
          have q3:∀s,(u=⟨s,x2+1⟩)=False:=fun s=>eq_false fun e=>by rw[e]at h1;(try dsimp only at h1);omega
          simp only[go_sem, ↓reduceIte,Nat.reduceEqDiff,Nat.reduceAdd,Nat.reduceSub,Nat.reduceLeDiff,reduceCtorEq,q1,q2,q3]<;>exact gT5 u h1 h2)⟩
def Jc (s:Nat):Prop:=iJ s∨s=49013020
def G5 (s:Nat):Prop:=s=49004000∨s=49009008∨s=49013023
theorem aas {a b:Id} (h:Jc a.site) (k:G5 b.site):(a=b)=False/\(b=a)=False:=by
 have:a≠b:=fun e=>by rw[e]at h;unfold Jc iJ at h;unfold G5 at k;omega
 exact⟨eq_false this,eq_false fun e=>this e.symm⟩
def Hz (f:Int) (k:Nat):Int:=IntKind.i64.wrap (1+IntKind.i64.wrap ((BitVec.ofInt 64 (f.fdiv (2 ^ min k 64))&&& BitVec.ofInt 64 1).toNat:Int))
theorem Jw (f:Int) (k:Nat):Hz f k=1∨Hz f k=2:=by
 unfold Hz
 have h:(BitVec.ofInt 64 (f.fdiv (2 ^ min k 64))&&& BitVec.ofInt 64 1).toNat=0∨(BitVec.ofInt 64 (f.fdiv (2 ^ min k 64))&&& BitVec.ofInt 64 1).toNat=1:=by
  rw[BitVec.toNat_and,show(BitVec.ofInt 64 1).toNat=1 from rfl,Nat.and_one_is_mod]
  omega
 rcases h with h|h<;>rw[h]
 ·exact .inl rfl
 ·exact .inr rfl
def SL (rt:List dD):Prop:=∀(j:Nat) (t:dD),rt[j]? =some t->∃a b:Int,(a=1∨a=2)/\(b=1∨b=2)/\t.de=[a,b,1+(j:Int) % 2,1+(j:Int) / 2]/\t.bW=(⟨#[114]⟩:ByteArray)++fo (j:Int)
theorem SL.snoc {rt:List dD} (h:SL rt) {k:Nat} (hk:rt.length=k) {nm:ByteArray} {a b:Int} (ha:a=1∨a=2) (hb:b=1∨b=2) (np:nm=(⟨#[114]⟩:ByteArray)++fo (k:Int)):SL (rt++[⟨nm,[a,b,1+(k:Int) % 2,1+(k:Int) / 2]⟩]):=fun j t hj=>by
 by_cases h1:j<rt.length
 ·rw[List.getElem?_append_left h1]at hj;exact h j t hj
 ·have h2:j=rt.length:=by
   obtain⟨h3,_⟩:=List.getElem?_eq_some_iff.1 hj
   simp at h3;omega
  subst h2
  rw[List.getElem?_concat_length]at hj
  cases hj
  exact⟨a,b,ha,hb,by rw[hk],by rw[hk];exact np⟩
theorem SU {nm:ByteArray} {c:UInt8} (h:nm.data[0]? =some c):nm[0]? =some c:=by
 obtain⟨h1,h2⟩:=Array.getElem?_eq_some_iff.1 h
 have hs:0<nm.size:=h1
 rw[getElem?_pos nm 0 hs]
 exact congrArg some h2
theorem take_one {rows:List (List AV)} {c:Nat} {r:List AV} (h:rows[c]? =some r):rows.take (c+1)=rows.take c++[r]:=by
 rw[List.take_add_one,h];rfl
section
variable {E E':Nat->Prop} {n0:Nat} {g:Rows} {n:Nat} {rs:List (List AV)} {X Y:List dD}
theorem TX.take (h:TX E n0 g n rs (X++Y)):TX E n0 g n (rs.take X.length) X:=by
 obtain⟨es,h1,h2,h3,h4⟩:=h
 rw[List.length_append]at h2 h3
 refine⟨es.take X.length,h1.sublist (List.take_sublist _ _),by rw[List.length_take];omega,by rw[List.length_take];omega,fun j row t e q1 q2 q3=>?_⟩
 have hj:j<X.length:=(List.getElem?_eq_some_iff.1 q2).1
 rw[List.getElem?_take_of_lt hj]at q1 q3
 exact h4 j row t e q1 (by rw[List.getElem?_append_left hj];exact q2) q3
theorem TX.mono (h:TX E n0 g n rs X) (hE:∀s,E s->E' s):TX E' n0 g n rs X:=by
 obtain⟨es,h1,h2,h3,h4⟩:=h
 refine⟨es,h1,h2,h3,fun j row t e q1 q2 q3=>?_⟩
 obtain⟨a1,a2,a3,a4,a5,a6,a7⟩:=h4 j row t e q1 q2 q3
 exact⟨a1,a2,a3,hE _ a4,a5,a6,a7⟩
theorem Sf {og o d:Id} {G c:Nat} {L:List ig} {p:aa} (h1:g og=some ⟨true,2,L.map ej⟩) (h2:L.length=G) (h3:g o=some ⟨true,2,rs⟩) (h4:X.length=c) (h5:rs.length=c) (h6:TX E n0 g n rs X) (h7:g d=some ⟨true,3,[ab p]⟩):iy g 6 (.agg [.own og 0 G,.own o 0 c,.own d 0 1,.int .i64 2])=some (.agg (dh ⟨⟨L,X⟩,⟨[p]⟩,2⟩)):=by
 subst h2
 have a1:iy g 5 (.own og 0 L.length)=some (.sl (L.map ej)):=fN (e:=ej) (n:=4) h1 rfl fun x=>by simp[ej,cF,dq,Dy,eT]
 have a2:iy g 5 (.own o 0 c)=some (.sl (X.map du)):=uZ (n:=4) h3 ad (by rw[List.drop_zero,List.take_of_length_le ad];exact h6.fz 2)
 have a3:iy g 5 (.own d 0 1)=some (.sl [ab p]):=fN (e:=ab) (l:=[p]) (n:=4) h7 rfl fun x=>by simp[ab,cF,dq,eT]
 simp only[dh,uY,cF,dq,a1,a2,a3,eT,Option.map_some,List.map_cons,List.map_nil]
end
def Qp (s:au):Prop:=∃(rb rn:List Int) (rt:List dD),1<=rb.length/\rb.length<=4/\1<=rn.length/\rn.length<=4/\ju rb/\ju rn/\rt.length=4/\SL rt/\s=⟨⟨(pD rb rn).1,(pD rb rn).2++rt⟩,⟨[⟨⟨0,0⟩,0⟩]⟩,2⟩
def Qo (X:Id) (bs:List Int) (A:Nat) (σ:aw) (r:AV) (σ':aw):Prop:=∃(s:au) (og o d:Id) (G c:Nat),Qp s/\r=.agg [.own og 0 G,.own o 0 c,.own d 0 1,.int .i64 2]/\(∀g':Rows,(∀u:Id,σ.next<=u.bt->g' u=σ'.get u)->iy g' 6 r=some (.agg (dh s)))/\iI σ'.get X bs (A+1000)/\lx X σ σ'
def X4 (t:dD):Prop:=∃c,t.bW.data[0]? =some c/\c≠114
theorem yp {T:List dD} {i d:Nat} {w:Int} (h:∀x∈T,X4 x):∀x∈jI T i d w,X4 x:=fun x hx=>by
 unfold jI at hx
 split at hx
 ·rename_i t ht
  rcases List.mem_or_eq_of_mem_set hx with hx|rfl
  ·exact h x hx
  ·exact h t (List.mem_of_getElem? ht)
 ·exact h x hx
theorem J3 (c:UInt8) (hc:c≠114) (dt:ByteArray) {l:List Int}:X4 ⟨(⟨#[c]⟩:ByteArray)++dt,l⟩:=⟨c,by
 show((⟨#[c]⟩:ByteArray)++dt).data[0]? =some c
 rw[ByteArray.data_append,Array.getElem?_append_left (by simp)]
 rfl,hc⟩
theorem Kb:∀(q:List Int),∀x∈(xF q).2,X4 x
 |[],x,hx=>by rw[List.mem_singleton.1 hx];exact⟨115,rfl,by decide⟩
 |b::q,x,hx=>by
  rw[kZ]at hx
  rcases List.mem_append.1 hx with hx|hx
  ·exact yp (Kb q) x hx
  ·rw[List.mem_singleton.1 hx];exact J3 101 (by decide) _
theorem Kd (q:List Int):∀(r:List Int),∀x∈(pD q r).2,X4 x
 |[],x,hx=>Kb q x hx
 |b::r,x,hx=>by
  rw[lf]at hx
  rcases List.mem_append.1 hx with hx|hx
  ·exact yp (Kd q r) x hx
  ·rw[List.mem_singleton.1 hx];exact J3 110 (by decide) _
theorem sM:∀(q:List Int),(xF q).2.length=q.length+1
 |[]=>rfl
 |b::q=>by rw[kZ];simp only[List.length_append,fj,List.length_cons,List.length_nil];rw[sM q]
theorem mQ (q:List Int):∀(r:List Int),(pD q r).2.length=q.length+r.length+1
 |[]=>sM q
 |b::r=>by rw[lf];simp only[List.length_append,fj,List.length_cons,List.length_nil];rw[mQ q r];omega
theorem Ov (bs:List Int) (hb:∀b∈bs,0<=b/\b<=255) (kq:bs.length<=4096) (X:Id) (A:Nat) (ha:A<=900000) (σ:aw) (h:iI σ.get X bs A) (hX:X.bt<σ.next):
  Call Tryz.prog 49 [.ptr X 0 0] σ (Qo X bs A σ):=by
 refine fV fW rfl fun jd=>?_
 clear jd
 have vX:=dp hX
 (try((repeat(revert N;apply Pn.out));refine wk @Nat.zero_add ?_;(repeat(apply Pn.mk;intro N hN))))
 refine .inr (aH _ _ _ _ _ (fun r σ1 hq=>?_) (Gq bs hb kq X A ad _ (by
  obtain⟨a,z,q1,q2⟩:=h
  exact⟨a,z,q1,by simp only[go_sem, ↓reduceIte,Nat.reduceEqDiff,Nat.reduceAdd,Nat.reduceSub,Nat.reduceLeDiff,reduceCtorEq,vX]<;>exact q2⟩) bp))
 obtain⟨og,ot,ZL,G,T2,rows,rb,rn,V5,rfl,⟨l0,l1,l2,l3,l4⟩,hbp,Vf,⟨hrsP,_,_⟩,nS,hL,gt,UR,hR,hE,⟨gv0,gv1,tv0,tv1⟩,gsd,⟨sv0,sv1⟩,h1,hK⟩:=hq
 have tU:=hrsP.r
 have hnr:=Kd rb rn
 have hTa:=mQ rb rn
 obtain⟨L,KZ⟩:∃L,(pD rb rn).1=L:=⟨_,rfl⟩
 obtain⟨Ta,Mo⟩:∃T,(pD rb rn).2=T:=⟨_,rfl⟩
 rw[KZ]at nS hL
 rw[Mo]at UR hR hnr hTa
 have hr:rows.length=T2:=hR.len.trans UR
 obtain⟨g1,x1⟩:=σ1
 (try dsimp only at nS gt hR gv0 gv1 tv0 tv1 gsd sv0 sv1 h1)
 have Oe:=hK.1
 (try dsimp only at Oe)
 have mv:=hK.2 ⟨49000000,σ.next⟩ (fun e=>by rw[<-e]at hX;(try dsimp only at hX);omega) bp
 have QR:∀i:Id,i≠X->i.bt<σ.next->g1 i=σ.get i:=fun i hi hv=>(hK.2 i hi bp).trans (by have hv:=dp hv;simp only[go_sem, ↓reduceIte,Nat.reduceEqDiff,Nat.reduceAdd,Nat.reduceSub,Nat.reduceLeDiff,reduceCtorEq,hv])
 simp only[go_sem, ↓reduceIte,Nat.reduceEqDiff,Nat.reduceAdd,Nat.reduceSub,Nat.reduceLeDiff,reduceCtorEq]at mv
 clear hK h
 apply hN
 clear hN N
 (try((repeat(revert N;apply Pn.out));refine wk @Nat.zero_add ?_;(repeat(apply Pn.mk;intro N hN))))
 have vX1:=dp (i:=X) (n:=x1) ad
 have voT:=dp tv1
 have voG:=dp gv1
 refine .inr (aH _ _ _ _ _ (fun r σ2 hq=>?_) (ny bs hb kq X 16 (A+100) ad _ (by
  obtain⟨za,zz,Mz,gX⟩:=h1
  exact⟨za,zz,Mz,by simp only[go_sem, ↓reduceIte,Nat.reduceEqDiff,Nat.reduceAdd,Nat.reduceSub,Nat.reduceLeDiff,reduceCtorEq,vX1,vX]<;>exact gX⟩)))
 obtain⟨f0,rfl,f1,f2,h2,hK⟩:=hq
 obtain⟨g2,x2⟩:=σ2
 (try dsimp only at h2)
 have Bo:=hK.1
 (try dsimp only at Bo)
 have c2:=hK.2 ⟨49000000,σ.next⟩ (fun e=>by rw[<-e]at hX;(try dsimp only at hX);omega) bp
 have c3:=hK.2 ⟨49001002,x1⟩ (fun e=>by rw[<-e]at hX;(try dsimp only at hX);omega) bp
 have cO:∀u:Id,u≠X->u.bt<x1->g2 u=g1 u:=fun u h1 h2=>(hK.2 u h1 bp).trans (by have h8:=dp h2;simp only[go_sem, ↓reduceIte,Nat.reduceEqDiff,Nat.reduceAdd,Nat.reduceSub,Nat.reduceLeDiff,reduceCtorEq,h8])
 simp only[go_sem, ↓reduceIte,Nat.reduceEqDiff,Nat.reduceAdd,Nat.reduceSub,Nat.reduceLeDiff,reduceCtorEq,mv]at c2 c3
 clear hK
 apply hN
 clear hN N
 (try((repeat(revert N;apply Pn.out));refine wk @Nat.zero_add ?_;(repeat(apply Pn.mk;intro N hN))))
 refine .inr (aH _ _ _ _ _ (fun r σ3 hq=>?_) (ny bs hb kq X 16 (A+102) ad _ h2))
 obtain⟨e0,rfl,e1,e2,h3,hK⟩:=hq
 obtain⟨g3,x3⟩:=σ3
 (try dsimp only at h3)
 have Rg:=hK.1
 (try dsimp only at Rg)
 have d2:=(hK.2 ⟨49000000,σ.next⟩ (fun e=>by rw[<-e]at hX;(try dsimp only at hX);omega) bp).trans c2
 have d3:=(hK.2 ⟨49001002,x1⟩ (fun e=>by rw[<-e]at hX;(try dsimp only at hX);omega) bp).trans c3
 have dO:∀u:Id,u≠X->u.bt<x1->g3 u=g1 u:=fun u h1 h2=>(hK.2 u h1 bp).trans (cO u h1 h2)
 (try dsimp only at d2 d3)
 clear hK c2 c3 cO
 apply hN
 clear hN N
 (try((repeat(revert N;apply Pn.out));refine wk @Nat.zero_add ?_;(repeat(apply Pn.mk;intro N hN))))
 have nXT:X≠ot:=fun h=>by rw[<-h]at tv0;(try dsimp only at tv0);omega
 have dT:=(dO ot (fun h=>nXT h.symm) tv1).trans gt
 have dR:TX iJ (σ.next+1+1) g3 x1 rows (Ta++V5):=hR.frame (Nat.le_refl _) fun u _ h1 h2=>dO u (fun h=>by rw[h]at h1;(try dsimp only at h1);omega) h2
 refine cm (fun n env st=>∃i:Nat,n=(T2)-i/\i<=(T2)/\env 7=.int .i64 (i:Int)/\((x3+3<=st.next/\(∀u:Id,u.bt<x3+1->st.get u=g3 u)/\∃(o:Id) (c:Nat),env 6=.own o 0 c/\c=(if i<=Ta.length then i else Ta.length)/\st.get o=some ⟨true,2,rows.take c⟩/\(G5 o.site/\x3+1<=o.bt/\o.bt<st.next)))) (T2) ⟨0,ad,ad,sl @Nat.zero_add,by(try dsimp only);exact⟨ad,fun u h1=>(by have h8:=dp h1;simp only[go_sem, ↓reduceIte,Nat.reduceEqDiff,Nat.reduceAdd,Nat.reduceSub,Nat.reduceLeDiff,reduceCtorEq,h8]),⟨49004000,x3+1⟩,0,sd @Nat.zero_add,by rw[if_pos (Nat.zero_le _)],sl @Nat.zero_add,⟨.inl rfl,bp,bp⟩⟩⟩ ?_
 rintro n_a env_a st_a ⟨i,rfl,ale,a7,oI⟩ eJ
 have a0:=eJ 0 (by kernel_rfl);have a2:=eJ 2 (by kernel_rfl);have a3:=eJ 3 (by kernel_rfl);have a4:=eJ 4 (by kernel_rfl);have a5:=eJ 5 (by kernel_rfl)
 simp only[go_sem, ↓reduceIte,Nat.reduceEqDiff,Nat.reduceAdd,Nat.reduceSub,Nat.reduceLeDiff,reduceCtorEq]at a0 a2 a3 a4 a5
 clear eJ
 obtain⟨aN,aO,o,c,aE,aC,aG,aS,av0,av1⟩:=oI
 have hTn:Ta.length<=T2:=by rw[<-UR,List.length_append];omega
 have haL:(rows.take c).length=c:=by rw[List.length_take,aC];split<;>omega
 have aB3:=(aO ⟨49001002,x1⟩ bp).trans d3
 have aRT:=(aO ot ad).trans dT
 by_cases hi:(i:Int)<(T2:Int)
 ·have eh:∀{e:Env} {gg:Rows} {nx:Nat},(e 7=.int .i64 (IntKind.i64.wrap ((i:Int)+1)))->((x3+3<=nx/\(∀u:Id,u.bt<x3+1->gg u=g3 u)/\∃(o:Id) (c:Nat),e 6=.own o 0 c/\c=(if (i+1)<=Ta.length then(i+1)else Ta.length)/\gg o=some ⟨true,2,rows.take c⟩/\(G5 o.site/\x3+1<=o.bt/\o.bt<nx)))->∃m0,m0<(T2)-i/\∃i:Nat,m0=(T2)-i/\i<=(T2)/\e 7=.int .i64 (i:Int)/\((x3+3<=nx/\(∀u:Id,u.bt<x3+1->gg u=g3 u)/\∃(o:Id) (c:Nat),e 6=.own o 0 c/\c=(if i<=Ta.length then i else Ta.length)/\gg o=some ⟨true,2,rows.take c⟩/\(G5 o.site/\x3+1<=o.bt/\o.bt<nx))):=fun x1 x2=>⟨_,ad,i+1,rfl,ad,(by rw[x1,aX ad]),x2⟩
  have hiT:i<(Ta++V5).length:=ad
  obtain⟨e,fC,⟨_,np,_⟩,_⟩:=hR.get hiT
  have vo:=dp av1
  have hc:c<=16777215:=by rw[aC];split<;>omega
  by_cases him:i<Ta.length
  ·have Zi:(Ta++V5)[i]∈Ta:=by rw[List.getElem_append_left him];exact List.getElem_mem him
   obtain⟨b0,hd0,hZ⟩:=hnr _ Zi
   have z8:=SU hd0
   obtain⟨nm,Q4⟩:∃x,(Ta++V5)[i].bW=x:=⟨_,rfl⟩
   rw[Q4]at fC z8 np
   have Zt:decide ((b0.toNat:Int)=114)=false:=decide_eq_false fun h=>hZ (UInt8.toNat_inj.1 (by show b0.toNat=114;omega))
   have QU:c=i:=by rw[aC,if_pos ad]
   (try((repeat(revert N;apply Pn.out));refine wk (tw @a7 (tw @a0 (tw @a2 (tw @a3 (tw @a4 (tw @a5 (tw @hi (tw @aB3 (tw @aRT (tw @fC (tw @z8 (tw @Zt (tw @aE (tw @aG (tw @haL (tw @vo @hc)))))))))))))))) ?_;(repeat(apply Pn.mk;intro N hN))))
   exact eh (sd (tw @a7 (tw @a0 (tw @a2 (tw @a3 (tw @a4 (tw @a5 @Zt))))))) (by(try dsimp only);exact⟨ad,fun u h1=>(by
    have h8:=dp (i:=u) (n:=st_a.next) ad
    have h9:(u=o)=False:=eq_false fun h=>by rw[h]at h1;omega
    simp only[go_sem, ↓reduceIte,Nat.reduceEqDiff,Nat.reduceAdd,Nat.reduceSub,Nat.reduceLeDiff,reduceCtorEq,h8,h9]<;>exact aO u h1),⟨49009008,st_a.next+1+1⟩,c+1,sd @Nat.zero_add,by rw[if_pos ad,QU],by rw[take_one (by rw[QU];exact fC)];simp only[go_sem, ↓reduceIte,Nat.reduceEqDiff,Nat.reduceAdd,Nat.reduceSub,Nat.reduceLeDiff,reduceCtorEq,vo]<;>rfl,.inr (.inl rfl),bp,bp⟩)
  ·have Zi:(Ta++V5)[i]∈V5:=by
    rw[List.getElem_append_right ad]
    exact List.getElem_mem _
   have z8:=SU (tU _ Zi)
   obtain⟨nm,Q4⟩:∃x,(Ta++V5)[i].bW=x:=⟨_,rfl⟩
   rw[Q4]at fC z8 np
   have Zt:decide (((114:UInt8).toNat:Int)=114)=true:=rfl
   (try((repeat(revert N;apply Pn.out));refine wk (tw @a7 (tw @a0 (tw @a2 (tw @a3 (tw @a4 (tw @a5 (tw @hi (tw @aB3 (tw @aRT (tw @fC (tw @z8 @Zt))))))))))) ?_;(repeat(apply Pn.mk;intro N hN))))
   exact eh (sd (tw @a7 (tw @a0 (tw @a2 (tw @a3 (tw @a4 (tw @a5 @Zt))))))) (by(try dsimp only);exact⟨ad,aO,o,c,sd @aE,by rw[if_neg ad];rw[aC];split<;>omega,aG,aS,av0,ad⟩)
 ·have FU:i=T2:=ad
  subst FU
  have hcT:c=Ta.length:=by rw[aC];split<;>omega
  have hTX:TX Jc (σ.next+1+1) st_a.get st_a.next (rows.take c) (Ta++[]):=by
   rw[List.append_nil,hcT]
   exact(dR.take.mono fun s hs=>.inl hs).frame ad fun u _ h1 h2=>aO u ad
  (try((repeat(revert N;apply Pn.out));refine wk (tw @a7 (tw @a0 (tw @a2 (tw @a3 (tw @a4 (tw @a5 (tw @hi (tw @aB3 @aRT)))))))) ?_;(repeat(apply Pn.mk;intro N hN))))
  refine cm (fun n env st=>∃k:Nat,n=(4)-k/\k<=(4)/\env 8=.int .i64 (k:Int)/\((x3+3<=st.next/\(∀u:Id,u.bt<x3+1->st.get u=g3 u)/\∃(o:Id) (rs:List (List AV)) (c:Nat) (rt:List dD),env 6=.own o 0 c/\rs.length=c/\st.get o=some ⟨true,2,rs⟩/\(G5 o.site/\x3+1<=o.bt/\o.bt<st.next)/\c=Ta.length+k/\rt.length=k/\SL rt/\TX Jc (σ.next+1+1) st.get st.next rs (Ta++rt)))) (4) ⟨0,ad,ad,sl (tw @a7 (tw @a0 (tw @a2 (tw @a3 (tw @a4 @a5))))),by(try dsimp only);exact⟨ad,aO,o,rows.take c,c,[],sd @aE,haL,aG,⟨aS,av0,ad⟩,ad,rfl,(fun j t h=>by simp at h),hTX.frame ad fun _ _ _ _=>rfl⟩⟩ ?_
  rintro n_b env_b st_b ⟨k,rfl,ble,b8,bI0⟩ fb
  have b0:=fb 0 (by kernel_rfl);have b2:=fb 2 (by kernel_rfl);have b3:=fb 3 (by kernel_rfl);have b4:=fb 4 (by kernel_rfl);have b5:=fb 5 (by kernel_rfl)
  simp only[go_sem, ↓reduceIte,Nat.reduceEqDiff,Nat.reduceAdd,Nat.reduceSub,Nat.reduceLeDiff,reduceCtorEq,a7,a0,a2,a3,a4,a5]at b0 b2 b3 b4 b5
  clear fb
  clear hTX aN aO aE haL aG aS av0 av1 aC hcT o c
  obtain⟨bN,bO,o,rs,c,rt,bE,bL,bG,⟨bS,bv0,bv1⟩,bC,bR,bP,bT⟩:=bI0
  have vo:=dp bv1
  by_cases hk:(k:Int)<4
  ·have fS:∀{e:Env} {gg:Rows} {nx:Nat},(e 8=.int .i64 (IntKind.i64.wrap ((k:Int)+1)))->((x3+3<=nx/\(∀u:Id,u.bt<x3+1->gg u=g3 u)/\∃(o:Id) (rs:List (List AV)) (c:Nat) (rt:List dD),e 6=.own o 0 c/\rs.length=c/\gg o=some ⟨true,2,rs⟩/\(G5 o.site/\x3+1<=o.bt/\o.bt<nx)/\c=Ta.length+(k+1)/\rt.length=(k+1)/\SL rt/\TX Jc (σ.next+1+1) gg nx rs (Ta++rt)))->∃m0,m0<(4)-k/\∃k:Nat,m0=(4)-k/\k<=(4)/\e 8=.int .i64 (k:Int)/\((x3+3<=nx/\(∀u:Id,u.bt<x3+1->gg u=g3 u)/\∃(o:Id) (rs:List (List AV)) (c:Nat) (rt:List dD),e 6=.own o 0 c/\rs.length=c/\gg o=some ⟨true,2,rs⟩/\(G5 o.site/\x3+1<=o.bt/\o.bt<nx)/\c=Ta.length+k/\rt.length=k/\SL rt/\TX Jc (σ.next+1+1) gg nx rs (Ta++rt))):=fun x1 x2=>⟨_,ad,k+1,rfl,ad,(by rw[x1,aX ad]),x2⟩
   have xe:=sf (k:Int) ad ad
   have DI:=jE (k:Int) ad
   have hc:c<=16777215:=ad
   obtain⟨dt,NO⟩:∃dt,fo (k:Int)=dt:=⟨_,rfl⟩
   rw[NO]at xe DI
   have Zf:k=0∨k=1∨k=2∨k=3:=ad
   have eY:(#[114]:Array UInt8).size+dt.size<=9223372036854775807:=by
    have:(#[114]:Array UInt8).size=1:=rfl
    omega
   have np:((⟨#[114]⟩:ByteArray)++dt).size<=64:=by
    rw[jh]
    have:(⟨#[114]⟩:ByteArray).size=1:=rfl
    omega
   have x8:((k:Int)<0)=False:=eq_false ad
   (have zF:=tw @b8 (tw @b0 (tw @b2 (tw @b3 (tw @b4 (tw @b5 (tw @hk (tw @x8 (tw @bE (tw @bG (tw @bL (tw @vo (tw @hc @eY))))))))))));(repeat(first|((repeat(revert N;apply Pn.out));refine wk zF ?_;(repeat(apply Pn.mk;intro N hN)))|((try apply Or.inl);refine⟨_,ax.x (xe) (sd zF),?_⟩;apply hN;clear hN N)));try clear zF)
   exact fS (sd (tw @b8 (tw @b0 (tw @b2 (tw @b3 (tw @b4 @b5)))))) (by(try dsimp only);exact⟨ad,fun u h1=>(by
    have h8:=dp (i:=u) (n:=st_b.next) ad
    have h9:(u=o)=False:=eq_false fun h=>by rw[h]at h1;omega
    simp only[go_sem, ↓reduceIte,Nat.reduceEqDiff,Nat.reduceAdd,Nat.reduceSub,Nat.reduceLeDiff,reduceCtorEq,h8,h9]<;>exact bO u h1),⟨49013023,st_b.next+1⟩,rs++[[.str ((⟨#[114]⟩:ByteArray)++dt),.own ⟨49013020,st_b.next+1⟩ 0 4]],c+1,rt++[⟨(⟨#[114]⟩:ByteArray)++dt,[Hz f0 k,Hz e0 k,1+(k:Int) % 2,1+(k:Int) / 2]⟩],sd @Nat.zero_add,by simp[bL],sl @vo,⟨.inr (.inr rfl),bp,bp⟩,ad,by rw[List.length_append,bR];rfl,bP.snoc bR (Jw f0 k) (Jw e0 k) (by rw[NO]),by
     rw[<-List.append_assoc]
     exact(bT.frame (Nat.le_refl _) fun u h1 h2 h3=>(by
      have h8:=dp h3
      have h7:=(aas h1 bS).1
      simp only[go_sem, ↓reduceIte,Nat.reduceEqDiff,Nat.reduceAdd,Nat.reduceSub,Nat.reduceLeDiff,reduceCtorEq,h8,h7])).snoc (t:=⟨(⟨#[114]⟩:ByteArray)++dt,[Hz f0 k,Hz e0 k,1+(k:Int) % 2,1+(k:Int) / 2]⟩) (e:=⟨49013020,st_b.next+1⟩) ad bp ⟨rfl,⟨np,Ea _ _⟩,rfl,.inr rfl,bp,bp,by
       have q1:(1:Int)+(k:Int) % 2=IntKind.i64.wrap (1+(k:Int).tmod 2):=by rcases Zf with rfl|rfl|rfl|rfl<;>rfl
       have q2:(1:Int)+(k:Int) / 2=IntKind.i64.wrap (1+IntKind.i64.wrap ((k:Int).tdiv 2)):=by rcases Zf with rfl|rfl|rfl|rfl<;>rfl
       rw[q1,q2]
       simp only[go_sem, ↓reduceIte,Nat.reduceEqDiff,Nat.reduceAdd,Nat.reduceSub,Nat.reduceLeDiff,reduceCtorEq,vo]<;>rfl⟩⟩)
  ·have bB2:=(bO ⟨49000000,σ.next⟩ bp).trans d2
   have bB3:=(bO ⟨49001002,x1⟩ bp).trans d3
   have bk:k=4:=ad
   (try((repeat(revert N;apply Pn.out));refine wk (tw @b8 (tw @b0 (tw @b2 (tw @b3 (tw @b4 (tw @b5 (tw @hk (tw @bE (tw @bB2 @bB3))))))))) ?_;(repeat(apply Pn.mk;intro N hN))))
   obtain⟨gb,nb⟩:=st_b
   (try dsimp only at bN bO bG bv0 bv1 bT)
   have gO1:∀u:Id,u≠X->u.bt<x1->gb u=g1 u:=fun u h1 h2=>(bO u ad).trans (dO u h1 h2)
   have nX1:∀s,(X=⟨s,x1⟩)=False:=fun s=>eq_false fun h=>by rw[h]at hX;(try dsimp only at hX);omega
   obtain⟨za,zz,Mz,gX⟩:=h3
   have jx:∀u:Id,σ.next+1+1<=u.bt->(u.bt≠x1∨u.site≠49001002)->∀r1 r2,(ck (ck gb ⟨49001002,x1⟩ r1) ⟨49000000,σ.next⟩ r2) u=gb u:=fun u h1 h2 r1 r2=>(by
    have h8:(u=⟨49001002,x1⟩)=False:=eq_false fun h=>by rw[h]at h2;rcases h2 with h2|h2<;>exact h2 rfl
    have h9:∀s,(u=⟨s,σ.next⟩)=False:=fun s=>eq_false fun h=>by rw[h]at h1;(try dsimp only at h1);omega
    simp only[go_sem, ↓reduceIte,Nat.reduceEqDiff,Nat.reduceAdd,Nat.reduceSub,Nat.reduceLeDiff,reduceCtorEq,h8,h9])
   refine fc (.inl rfl) (vs:=[.agg [.own og 0 G,.own o 0 c,.own ZL 0 1,.int .i64 2]]) (sd (tw @b8 (tw @b0 (tw @b2 (tw @b3 (tw @b4 @b5)))))) ⟨⟨⟨L,Ta++rt⟩,⟨[⟨⟨0,0⟩,0⟩]⟩,2⟩,og,o,ZL,G,c,⟨rb,rn,rt,l0,l1,l2,l3,hbp,Vf,ad,bP,by rw[KZ,Mo]⟩,rfl,fun g' hg'=>Sf ((hg' og (by(try dsimp only at gv0);omega)).trans <| (jx og ad (.inl ad) _ _).trans ((gO1 og (fun h=>by rw[h]at gv0;(try dsimp only at gv0);omega) gv1).trans nS)) hL ((hg' o ad).trans <| (jx o ad (.inl ad) _ _).trans bG) (by rw[List.length_append];omega) bL (bT.frame (n':=nb+1) ad fun u h1 h2 h3=>(hg' u ad).trans <| jx u h2 (.inr (fun h=>by rw[h]at h1;revert h1;simp[Jc,iJ])) _ _) ((hg' ZL (by(try dsimp only at sv0);omega)).trans <| (jx ZL (by(try dsimp only at sv0);omega) (.inl (by(try dsimp only at sv1);omega)) _ _).trans ((gO1 ZL (fun h=>by rw[h]at sv0;(try dsimp only at sv0);omega) sv1).trans gsd)),⟨za,zz,ad,by simp only[go_sem, ↓reduceIte,Nat.reduceEqDiff,Nat.reduceAdd,Nat.reduceSub,Nat.reduceLeDiff,reduceCtorEq,nX1,vX]<;>exact(bO X ad).trans gX⟩,bp,fun u h1 h2=>(by
    have h7:=dp h2
    have h8:=dp (i:=u) (n:=x1) ad
    simp only[go_sem, ↓reduceIte,Nat.reduceEqDiff,Nat.reduceAdd,Nat.reduceSub,Nat.reduceLeDiff,reduceCtorEq,h7,h8]<;>exact(bO u ad).trans ((dO u h1 ad).trans (QR u h1 h2)))⟩
def sdE (m i:Nat) (b:Int):List Int:=if i=0 then[0,if 0<m then 3 else 0,0,0]else[b,if i<m then(i:Int)+3 else 0,0,(i:Int)+2]
def Qh (m h i:Nat) (b:Int):List Int:=if i=0 then[if 0<h then(m:Int)+3 else 0,if 0<m then 3 else 0,0,0]else if i<=m then[b,if i<m then(i:Int)+3 else 0,0,(i:Int)+2]else[if i<m+h then(i:Int)+3 else 0,b,(i:Int)+2,0]
theorem A7 {T:List dD} {i d:Nat} {w:Int} (h:i<T.length) (k:Nat):(jI T i d w)[k]? =if k=i then some ⟨T[i].bW,T[i].de.set d w⟩else T[k]? :=by
 rw[uq h]
 by_cases hk:k=i
 ·subst hk;rw[if_pos rfl,List.getElem?_set_self h]
 ·rw[if_neg hk,List.getElem?_set_ne (fun e=>hk e.symm)]
theorem Po:∀(q:List Int),ju q->∀i,i<=q.length->∃t b,(xF q).2[i]? =some t/\(b=1∨b=2)/\t.de=sdE q.length i b
 |[],_,i,hi=>by
  have:i=0:=by simpa using hi
  subst this
  exact⟨_,1,rfl,.inl rfl,rfl⟩
 |b::q,hb,i,hi=>by
  have hq:ju q:=fun x hx=>hb x (List.mem_cons_of_mem _ hx)
  have hl:=sM q
  rw[List.length_cons]at hi
  rw[kZ]
  (try dsimp only)
  by_cases h1:i=q.length+1
  ·subst h1
   rw[List.getElem?_append_right (by rw[fj];omega),fj,hl,Nat.sub_self]
   refine⟨_,b,rfl,hb b List.mem_cons_self,?_⟩
   unfold sdE
   rw[if_neg ad,if_neg (by rw[List.length_cons];omega)]
   show[b,0,0,(q.length:Int)+3]=[b,0,0,((q.length+1:Nat):Int)+2]
   rw[show((q.length+1:Nat):Int)+2=(q.length:Int)+3 by omega]
  ·obtain⟨t,b',e1,e2,e3⟩:=Po q hq i ad
   rw[List.getElem?_append_left (by rw[fj];omega),A7 ad]
   by_cases h2:i=q.length
   ·subst h2
    obtain⟨h3,h4⟩:=List.getElem?_eq_some_iff.1 e1
    rw[if_pos rfl,h4]
    refine⟨_,b',rfl,e2,?_⟩
    show t.de.set 1 ((q.length:Int)+3)= _
    rw[e3]
    unfold sdE
    by_cases h0:q.length=0
    ·rw[if_pos h0,if_pos h0,if_pos (show 0<(b::q).length by simp),h0];rfl
    ·rw[if_neg h0,if_neg h0,if_pos (show q.length<(b::q).length by simp)];rfl
   ·rw[if_neg h2]
    refine⟨t,b',e1,e2,?_⟩
    rw[e3]
    unfold sdE
    rw[List.length_cons]
    by_cases h0:i=0
    ·rw[if_pos h0,if_pos h0,if_pos ad,if_pos ad]
    ·rw[if_neg h0,if_neg h0,if_pos ad,if_pos ad]
theorem Pr (q:List Int) (hbq:ju q):∀(r:List Int),ju r->∀i,i<=q.length+r.length->∃t b,(pD q r).2[i]? =some t/\(b=1∨b=2)/\t.de=Qh q.length r.length i b
 |[],_,i,hi=>by
  obtain⟨t,b,e1,e2,e3⟩:=Po q hbq i (by simpa using hi)
  refine⟨t,b,e1,e2,e3.trans ?_⟩
  unfold sdE Qh
  by_cases h0:i=0
  ·rw[if_pos h0,if_pos h0];rfl
  ·rw[if_neg h0,if_neg h0,if_pos (show i<=q.length by simpa using hi)]
 |b::r,hb,i,hi=>by
  have hq:ju r:=fun x hx=>hb x (List.mem_cons_of_mem _ hx)
  have hl:=mQ q r
  rw[List.length_cons]at hi
  rw[lf]
  (try dsimp only)
  have Zg:ns q.length r.length<(pD q r).2.length:=by unfold ns;split<;>omega
  by_cases h1:i=q.length+r.length+1
  ·subst h1
   rw[List.getElem?_append_right (by rw[fj];omega),fj,hl,Nat.sub_self]
   refine⟨_,b,rfl,hb b List.mem_cons_self,?_⟩
   unfold Qh
   rw[if_neg ad,if_neg ad,if_neg (by rw[List.length_cons];omega)]
   show[0,b,((q.length+2+r.length:Nat):Int)+1,0]=[0,b,((q.length+r.length+1:Nat):Int)+2,0]
   rw[show((q.length+2+r.length:Nat):Int)+1=((q.length+r.length+1:Nat):Int)+2 by omega]
  ·obtain⟨t,b',e1,e2,e3⟩:=Pr q hbq r hq i ad
   rw[List.getElem?_append_left (by rw[fj];omega),A7 Zg]
   by_cases h2:i=ns q.length r.length
   ·obtain⟨h3,h4⟩:=List.getElem?_eq_some_iff.1 e1
    rw[if_pos h2]
    have h5:(pD q r).2[ns q.length r.length]=t:=by rw[<-h4];congr 1;exact h2.symm
    rw[h5]
    refine⟨_,b',rfl,e2,?_⟩
    show t.de.set 0 (((q.length+2+r.length:Nat):Int)+1)= _
    rw[e3]
    unfold ns at h2
    unfold Qh
    rw[List.length_cons]
    by_cases h0:r.length=0
    ·rw[if_pos h0]at h2
     subst h2
     rw[if_pos rfl,if_pos rfl,if_pos (show 0<r.length+1 by omega),h0]
     rw[show((q.length+2+0:Nat):Int)+1=(q.length:Int)+3 by omega]
     rfl
    ·rw[if_neg h0]at h2
     subst h2
     rw[if_neg (show ¬(q.length+r.length=0) by omega),if_neg (show ¬(q.length+r.length=0) by omega),if_neg (show ¬(q.length+r.length<=q.length) by omega),if_neg (show ¬(q.length+r.length<=q.length) by omega),if_pos (show q.length+r.length<q.length+(r.length+1) by omega)]
     rw[show((q.length+2+r.length:Nat):Int)+1=((q.length+r.length:Nat):Int)+3 by omega]
     rfl
   ·rw[if_neg h2]
    refine⟨t,b',e1,e2,?_⟩
    rw[e3]
    unfold ns at h2
    unfold Qh
    rw[List.length_cons]
    by_cases h0:i=0
    ·rw[if_pos h0,if_pos h0]
     by_cases hr:r.length=0
     ·rw[if_pos hr]at h2;omega
     ·rw[if_pos (show 0<r.length by omega),if_pos (show 0<r.length+1 by omega)]
    ·rw[if_neg h0,if_neg h0]
     by_cases h3:i<=q.length
     ·rw[if_pos h3,if_pos h3]
     ·rw[if_neg h3,if_neg h3]
      by_cases hr:r.length=0
      ·omega
      ·rw[if_neg hr]at h2
       rw[if_pos (show i<q.length+r.length by omega),if_pos (show i<q.length+(r.length+1) by omega)]
theorem sL:∀(q:List Int),(xF q).1.length=q.length+2
 |[]=>rfl
 |b::q=>by rw[kZ];simp only[List.length_append,List.length_cons,List.length_nil];rw[sL q]
theorem po (q:List Int):∀(r:List Int),(pD q r).1.length=q.length+2+r.length
 |[]=>sL q
 |b::r=>by rw[lf];simp only[List.length_append,List.length_cons,List.length_nil];rw[po q r];omega
theorem Kc:∀(q:List Int) (i:Nat) (x:ig),(xF q).1[i]? =some x->x.gR=if i<2 then 1 else 2
 |[],i,x,h=>by
  match i,h with
  |0,h=>cases h;rfl
  |1,h=>cases h;rfl
  |i+2,h=>simp[xF]at h
 |b::q,i,x,h=>by
  rw[kZ]at h
  (try dsimp only at h)
  by_cases h1:i<(xF q).1.length
  ·rw[List.getElem?_append_left h1]at h;exact Kc q i x h
  ·have hl:=sL q
   rw[List.getElem?_append_right ad]at h
   have h2:i-(xF q).1.length=0:=by
    obtain⟨h3,_⟩:=List.getElem?_eq_some_iff.1 h
    simpa using h3
   rw[h2]at h
   cases h
   rw[if_neg ad];rfl
theorem Ke (q:List Int):∀(r:List Int) (i:Nat) (x:ig),(pD q r).1[i]? =some x->x.gR=if i<2 then 1 else 2
 |[],i,x,h=>Kc q i x h
 |b::r,i,x,h=>by
  rw[lf]at h
  (try dsimp only at h)
  by_cases h1:i<(pD q r).1.length
  ·rw[List.getElem?_append_left h1]at h;exact Ke q r i x h
  ·have hl:=po q r
   rw[List.getElem?_append_right ad]at h
   have h2:i-(pD q r).1.length=0:=by
    obtain⟨h3,_⟩:=List.getElem?_eq_some_iff.1 h
    simpa using h3
   rw[h2]at h
   cases h
   rw[if_neg ad];rfl
structure j4 (s:au) (m h:Nat):Prop where
 m1:1<=m/\m<=4
 h1:1<=h/\h<=4
 len:s.az.ai.length=m+h+5
 arm:∀i:Nat,i<=m+h->∃b:Int,(b=1∨b=2)/\(bz s.az (i:Int)).de=Qh m h i b
 fill:∀k:Nat,k<4->∃a b:Int,(a=1∨a=2)/\(b=1∨b=2)/\(bz s.az ((m+h+1+k:Nat):Int)).de=[a,b,1+(k:Int) % 2,1+(k:Int) / 2]
 mu:s.az.aQ.length=m+2+h
 str:∀i:Nat,i<m+2+h->(ni s.az (i:Int)).gR=if i<2 then 1 else 2
 s9:s.dc.ai=[⟨⟨0,0⟩,0⟩]
 wi:s.aI=2
theorem aat {rb rn:List Int} {rt:List dD} (l0:1<=rb.length) (l1:rb.length<=4) (l2:1<=rn.length) (l3:rn.length<=4) (hb:ju rb) (hn:ju rn) (Zw:rt.length=4) (hP:SL rt):j4 ⟨⟨(pD rb rn).1,(pD rb rn).2++rt⟩,⟨[⟨⟨0,0⟩,0⟩]⟩,2⟩ rb.length rn.length:=by
 have ht:=mQ rb rn
 refine⟨⟨l0,l1⟩,⟨l2,l3⟩,by(try dsimp only);rw[List.length_append,ht,Zw],fun i hi=>?_,fun k hk=>?_,po rb rn,fun i hi=>?_,rfl,rfl⟩
 ·obtain⟨t,b,e1,e2,e3⟩:=Pr rb hb rn hn i hi
  refine⟨b,e2,?_⟩
  unfold bz
  rw[Int.toNat_natCast,List.getD_eq_getElem?_getD,List.getElem?_append_left ad,e1]
  exact e3
 ·obtain⟨a,b,e1,e2,e3,_⟩:=hP k rt[k] (List.getElem?_eq_getElem ad)
  refine⟨a,b,e1,e2,?_⟩
  unfold bz
  rw[Int.toNat_natCast,List.getD_eq_getElem?_getD,List.getElem?_append_right ad,ht,show rb.length+rn.length+1+k-(rb.length+rn.length+1)=k by omega,List.getElem?_eq_getElem ad]
  exact e3
 ·have th:i<(pD rb rn).1.length:=by rw[po];omega
  have:=Ke rb rn i _ (List.getElem?_eq_getElem th)
  unfold ni
  (try dsimp only)
  rw[Int.toNat_natCast,List.getD_eq_getElem?_getD,List.getElem?_eq_getElem th]
  exact this
theorem AF {c:UInt8} (hc:ml (c.toNat:Int)=true) {k:Nat} (h:k<=4):iY (Tu c k)=true:=by
 refine(AD ?_).symm
 refine⟨⟨Nat.le_of_ble_eq_true rfl,Nat.le_of_ble_eq_true rfl⟩,fun i hi=>?_⟩
 have hs:(Tu c k).size=2:=rfl
 have th:i=0∨i=1:=ad
 have hk:k=0∨k=1∨k=2∨k=3∨k=4:=ad
 rcases th with rfl|rfl
 ·exact .inl hc
 ·refine .inr ⟨ad,.inl ?_⟩
  rcases hk with rfl|rfl|rfl|rfl|rfl<;>rfl
theorem KE (ps:List ig) (hp:0<ps.length) (hl:ps.length<=1048576) (σ:aw):
  Call Tryz.prog 102 [.sl (ps.map ej)] σ fun r σ'=>∃o:Id,r=.own o 0 ps.length/\σ'.get o=some ⟨true,2,ps.map ej⟩/\σ.next<=o.bt/\o.bt<σ'.next/\∀i:Id,i.bt<σ.next->σ'.get i=σ.get i:=by
 refine fV fW rfl fun hl=>?_
 clear hl
 have hz:(ps.map ej).all (fun c=>c.length==2&&c.all AV.cell)=true:=all_map fun x=>by simp[ej,AV.cell]
 obtain⟨b,r,rfl⟩:∃b r,ps=b::r:=by
  cases ps with
  |nil=>simp at hp
  |cons b r=>exact⟨b,r,rfl⟩
 have gy:(List.map ej (b::r)).length=(b::r).length:=by simp
 have e1:r.length<=16777215:=by simp at hl;omega
 rw[List.map_cons]at hz gy ⊢
 (try((repeat(revert N;apply Pn.out));refine wk (tw @hz (tw @gy @e1)) ?_;(repeat(apply Pn.mk;intro N hN))))
 refine fc (.inl rfl) (vs:=[.own ⟨102003002,σ.next+1+1⟩ 0 (b::r).length]) (by simp only[iA,jP,go_sem, ↓reduceIte,Nat.reduceEqDiff,Nat.reduceAdd,Nat.reduceSub,Nat.reduceLeDiff,reduceCtorEq,List.length_cons]) ⟨⟨102003002,σ.next+1+1⟩,rfl,sd @Nat.zero_add,bp,bp,fun i hi=>?_⟩
 have hv:=dp hi
 simp only[go_sem, ↓reduceIte,Nat.reduceEqDiff,Nat.reduceAdd,Nat.reduceSub,Nat.reduceLeDiff,reduceCtorEq,hv]
theorem Nl (ps:List Int) (hp:0<ps.length) (hl:ps.length<=1048576) (σ:aw):
  Call Tryz.prog 103 [.sl (ps.map aL)] σ fun r σ'=>∃o:Id,r=.own o 0 ps.length/\σ'.get o=some ⟨true,1,ps.map aL⟩/\σ.next<=o.bt/\o.bt<σ'.next/\∀i:Id,i.bt<σ.next->σ'.get i=σ.get i:=by
 refine fV fW rfl fun hl=>?_
 clear hl
 have hz:(ps.map aL).all (fun c=>c.length==1&&c.all AV.cell)=true:=all_map fun x=>by simp[aL,AV.cell]
 obtain⟨b,r,rfl⟩:∃b r,ps=b::r:=by
  cases ps with
  |nil=>simp at hp
  |cons b r=>exact⟨b,r,rfl⟩
 have gy:(List.map aL (b::r)).length=(b::r).length:=by simp
 have e1:r.length<=16777215:=by simp at hl;omega
 rw[List.map_cons]at hz gy ⊢
 (try((repeat(revert N;apply Pn.out));refine wk (tw @hz (tw @gy @e1)) ?_;(repeat(apply Pn.mk;intro N hN))))
 refine fc (.inl rfl) (vs:=[.own ⟨103003002,σ.next+1+1⟩ 0 (b::r).length]) (by simp only[iA,jP,go_sem, ↓reduceIte,Nat.reduceEqDiff,Nat.reduceAdd,Nat.reduceSub,Nat.reduceLeDiff,reduceCtorEq,List.length_cons]) ⟨⟨103003002,σ.next+1+1⟩,rfl,sd @Nat.zero_add,bp,bp,fun i hi=>?_⟩
 have hv:=dp hi
 simp only[go_sem, ↓reduceIte,Nat.reduceEqDiff,Nat.reduceAdd,Nat.reduceSub,Nat.reduceLeDiff,reduceCtorEq,hv]
theorem Nn (ps:List Int) (hp:0<ps.length) (hl:ps.length<=1048576) (σ:aw):fB (Call Tryz.prog) 103 [.sl (ps.map aL)] σ (fun r=>r=.sl (ps.map aL)):=by
 unfold fB PC
 refine Or.inl (aH _ _ _ _ _ (fun r σ' hq=>?_) (Nl ps hp hl _))
 obtain⟨o,rfl,h2,_⟩:=hq
 exact⟨_,gm (e:=aL) (n:=5) h2 rfl (fun x=>by simp[aL,aj,ar,aJ]),rfl⟩
def Bg (l:List Int):List Int:=[l.getD 1 0,l.getD 0 0,l.getD 3 0,l.getD 2 0]
theorem Ew (l:List Int) (h4:l.length=4) (σ:aw):
  Call Tryz.prog 54 [.sl (l.map aL)] σ fun r σ'=>∃o:Id,r=.own o 0 4/\σ'.get o=some ⟨true,1,(Bg l).map aL⟩:=by
 obtain⟨a,b,c,d,rfl⟩:∃a b c d,l=[a,b,c,d]:=by
  match l,h4 with
  |[a,b,c,d],_=>exact⟨a,b,c,d,rfl⟩
 refine fV fW rfl fun hl=>?_
 clear hl
 simp only[List.map_cons,List.map_nil,aL]
 (try((repeat(revert N;apply Pn.out));refine wk @Nat.zero_add ?_;(repeat(apply Pn.mk;intro N hN))))
 exact fc (.inl rfl) (vs:=[.own ⟨54001012,σ.next+1⟩ 0 4]) (sd @Nat.zero_add) ⟨⟨54001012,σ.next+1⟩,rfl,sl @Nat.zero_add⟩
theorem Ey (l:List Int) (h4:l.length=4) (σ:aw):fB (Call Tryz.prog) 54 [.sl (l.map aL)] σ (fun r=>r=.sl ((Bg l).map aL)):=by
 unfold fB PC
 refine Or.inl (aH _ _ _ _ _ (fun r σ' hq=>?_) (Ew l h4 _))
 obtain⟨o,rfl,h2⟩:=hq
 exact⟨_,gm (e:=aL) (l:=Bg l) (n:=5) h2 rfl (fun x=>by simp[aL,aj,ar,aJ]),rfl⟩
def ClT (n0:Nat) (g:Rows) (n:Nat) (v:AV) (Ts:List dD):Prop:=(Ts=[]/\v=.cr)∨∃o:Id,v=.own o 0 Ts.length/\g o=some ⟨true,2,Ts.map du⟩/\n0<=o.bt/\o.bt<n
theorem QA (s:ay) (hg:0<s.aQ.length) (sW:s.aQ.length<=1048576) (ht:0<s.ai.length) (hl:s.ai.length<=1048576) (h4:∀t∈s.ai,t.de.length=4) (σ:aw):
  Call Tryz.prog 53 [.agg (ae s)] σ fun r σ'=>∃og o:Id,r=.agg [.own og 0 s.aQ.length,.own o 0 s.ai.length]/\og≠o/\σ'.get og=some ⟨true,2,s.aQ.map ej⟩/\σ'.get o=some ⟨true,2,s.ai.map du⟩/\σ.next<=og.bt/\og.bt<σ'.next/\σ.next<=o.bt/\o.bt<σ'.next/\∀i:Id,i.bt<σ.next->σ'.get i=σ.get i:=by
 refine fV fW rfl fun jd=>?_
 clear jd
 rw[ae]
 have gy:(s.ai.map du).length=s.ai.length:=by simp
 (try((repeat(revert N;apply Pn.out));refine wk @gy ?_;(repeat(apply Pn.mk;intro N hN))))
 refine .inr (aH _ _ _ _ _ (fun r σ1 hq=>?_) (KE s.aQ hg sW _))
 obtain⟨og,rfl,g1,v1,v2,f1⟩:=hq
 obtain⟨HR,x1⟩:=σ1
 (try dsimp only at g1 v1 v2 f1)
 have k1:=f1 ⟨53000000,σ.next⟩ bp
 have k2:=f1 ⟨53000001,σ.next⟩ bp
 have k3:∀i:Id,i.bt<σ.next->HR i=σ.get i:=fun i hi=>(f1 i bp).trans (by have h8:=dp hi;simp only[go_sem, ↓reduceIte,Nat.reduceEqDiff,Nat.reduceAdd,Nat.reduceSub,Nat.reduceLeDiff,reduceCtorEq,h8])
 simp only[go_sem, ↓reduceIte,Nat.reduceEqDiff,Nat.reduceAdd,Nat.reduceSub,Nat.reduceLeDiff,reduceCtorEq]at k1 k2
 clear f1
 have Oe:σ.next+1<x1:=ad
 apply hN
 clear hN N
 (try((repeat(revert N;apply Pn.out));refine wk (tw @gy (tw @k1 @k2)) ?_;(repeat(apply Pn.mk;intro N hN))))
 refine cm (fun n env st=>∃k:Nat,n=(s.ai.length)-k/\k<=(s.ai.length)/\env 13=.int .i64 (k:Int)/\((x1+1<=st.next/\(∀x:Id,x.bt<x1->st.get x=HR x)/\∃v,st.get ⟨53001004,x1⟩=some ⟨true,2,[[.own og 0 s.aQ.length,v]]⟩/\ClT (x1+1) st.get st.next v (s.ai.take k)))) (s.ai.length) ⟨0,ad,ad,sl @gy,by(try dsimp only);exact⟨ad,fun x hx=>(by have h8:=dp hx;simp only[go_sem, ↓reduceIte,Nat.reduceEqDiff,Nat.reduceAdd,Nat.reduceSub,Nat.reduceLeDiff,reduceCtorEq,h8]),.cr,sl @Nat.zero_add,.inl ⟨rfl,rfl⟩⟩⟩ ?_
 rintro n_a env_a st_a ⟨k,rfl,ale,G6,oI⟩ eJ
 have a1:=eJ 1 (by kernel_rfl);have a2:=eJ 2 (by kernel_rfl);have a3:=eJ 3 (by kernel_rfl);have E4:=eJ 11 (by kernel_rfl);have a12:=eJ 12 (by kernel_rfl)
 simp only[go_sem, ↓reduceIte,Nat.reduceEqDiff,Nat.reduceAdd,Nat.reduceSub,Nat.reduceLeDiff,reduceCtorEq,gy]at a1 a2 a3 E4 a12
 clear eJ
 obtain⟨aN,aO,v,aV,aT⟩:=oI
 by_cases hk:(k:Int)<(s.ai.length:Int)
 ·have eh:∀{e:Env} {gg:Rows} {nx:Nat},(e 13=.int .i64 (IntKind.i64.wrap ((k:Int)+1)))->((x1+1<=nx/\(∀x:Id,x.bt<x1->gg x=HR x)/\∃v,gg ⟨53001004,x1⟩=some ⟨true,2,[[.own og 0 s.aQ.length,v]]⟩/\ClT (x1+1) gg nx v (s.ai.take (k+1))))->∃m0,m0<(s.ai.length)-k/\∃k:Nat,m0=(s.ai.length)-k/\k<=(s.ai.length)/\e 13=.int .i64 (k:Int)/\((x1+1<=nx/\(∀x:Id,x.bt<x1->gg x=HR x)/\∃v,gg ⟨53001004,x1⟩=some ⟨true,2,[[.own og 0 s.aQ.length,v]]⟩/\ClT (x1+1) gg nx v (s.ai.take k))):=fun x1 x2=>⟨_,ad,k+1,rfl,ad,(by rw[x1,aX ad]),x2⟩
  have lk:k<s.ai.length:=ad
  obtain⟨t,Zz⟩:∃t,s.ai[k]=t:=⟨_,rfl⟩
  have gx:(s.ai.map du)[k]? =some (du t):=by rw[List.getElem?_map,List.getElem?_eq_getElem lk,Zz];rfl
  have ox:s.ai.take (k+1)=s.ai.take k++[t]:=by rw[List.take_add_one,List.getElem?_eq_getElem lk,Zz];rfl
  have ht4:=h4 t (by rw[<-Zz];exact List.getElem_mem lk)
  have QU:=fun σ=>Nn t.de ad ad σ
  have FV:(s.ai.take k).length=k:=by rw[List.length_take];omega
  rw[du]at gx
  have ho1:x1+1<=st_a.next:=aN
  rcases aT with⟨S5,rfl⟩|⟨o,rfl,go,o1,o2⟩
  ·have x8:k=0:=by rw[S5]at FV;exact FV.symm
   (try((repeat(revert N;apply Pn.out));refine wk (tw @G6 (tw @a1 (tw @a2 (tw @a3 (tw @E4 (tw @a12 (tw @hk (tw @gx (tw @aV @gy))))))))) ?_;(repeat(apply Pn.mk;intro N hN))))
   refine⟨_,QU _,?_⟩
   apply hN
   clear hN N
   (try((repeat(revert N;apply Pn.out));refine wk (tw @G6 (tw @a1 (tw @a2 (tw @a3 (tw @E4 (tw @a12 (tw @hk (tw @gx (tw @aV @gy))))))))) ?_;(repeat(apply Pn.mk;intro N hN))))
   exact eh (sd (tw @G6 (tw @a1 (tw @a2 (tw @a3 (tw @E4 @a12)))))) (by(try dsimp only);exact⟨ad,fun x hx=>(by
    have h8:=dp (i:=x) (n:=st_a.next) ad
    have h9:=dp hx
    simp only[go_sem, ↓reduceIte,Nat.reduceEqDiff,Nat.reduceAdd,Nat.reduceSub,Nat.reduceLeDiff,reduceCtorEq,h8,h9]<;>exact aO x hx),.own ⟨53005009,st_a.next+1+1⟩ 0 1,sl @Nat.zero_add,.inr ⟨⟨53005009,st_a.next+1+1⟩,by rw[ox,S5];rfl,by rw[ox,S5];simp only[go_sem, ↓reduceIte,Nat.reduceEqDiff,Nat.reduceAdd,Nat.reduceSub,Nat.reduceLeDiff,reduceCtorEq]<;>rfl,bp,bp⟩⟩)
  ·have vo:=dp o2
   have Zf:k<=16777215:=ad
   have Af:((s.ai.take k).map du).length=k:=by rw[List.length_map,FV]
   obtain⟨rs,tU⟩:∃rs,(s.ai.take k).map du=rs:=⟨_,rfl⟩
   rw[tU]at go Af
   have noV:(o=⟨53001004,x1⟩)=False:=eq_false fun h=>by rw[h]at o1;(try dsimp only at o1);omega
   have ZX:((⟨53001004,x1⟩:Id)=o)=False:=eq_false fun h=>by rw[<-h]at o1;(try dsimp only at o1);omega
   rw[FV]at aV
   (try((repeat(revert N;apply Pn.out));refine wk (tw @G6 (tw @a1 (tw @a2 (tw @a3 (tw @E4 (tw @a12 (tw @hk (tw @gx (tw @aV @gy))))))))) ?_;(repeat(apply Pn.mk;intro N hN))))
   refine⟨_,QU _,?_⟩
   apply hN
   clear hN N
   (try((repeat(revert N;apply Pn.out));refine wk (tw @G6 (tw @a1 (tw @a2 (tw @a3 (tw @E4 (tw @a12 (tw @hk (tw @gx (tw @aV (tw @gy (tw @go (tw @vo (tw @Zf (tw @Af (tw @noV @ZX))))))))))))))) ?_;(repeat(apply Pn.mk;intro N hN))))
   exact eh (sd (tw @G6 (tw @a1 (tw @a2 (tw @a3 (tw @E4 @a12)))))) (by(try dsimp only);exact⟨ad,fun x hx=>(by
    have h8:=dp (i:=x) (n:=st_a.next) ad
    have h9:=dp hx
    have Cp:(x=o)=False:=eq_false fun h=>by rw[h]at hx;omega
    simp only[go_sem, ↓reduceIte,Nat.reduceEqDiff,Nat.reduceAdd,Nat.reduceSub,Nat.reduceLeDiff,reduceCtorEq,h8,h9,Cp]<;>exact aO x hx),.own ⟨53005009,st_a.next+1+1⟩ 0 (k+1),sl @Nat.zero_add,.inr ⟨⟨53005009,st_a.next+1+1⟩,by rw[ox,List.length_append,FV];rfl,by rw[ox,List.map_append,tU];simp only[go_sem, ↓reduceIte,Nat.reduceEqDiff,Nat.reduceAdd,Nat.reduceSub,Nat.reduceLeDiff,reduceCtorEq,vo]<;>rfl,bp,bp⟩⟩)
 ·have lk:k=s.ai.length:=ad
  subst lk
  rw[List.take_length]at aT
  rcases aT with⟨S5,rfl⟩|⟨o,rfl,go,o1,o2⟩
  ·rw[S5]at ht;simp at ht
  ·have k2':=(aO ⟨53000001,σ.next⟩ bp).trans k2
   (try((repeat(revert N;apply Pn.out));refine wk (tw @G6 (tw @a1 (tw @a2 (tw @a3 (tw @E4 (tw @a12 (tw @hk (tw @aV (tw @k2' @gy))))))))) ?_;(repeat(apply Pn.mk;intro N hN))))
   have nO:∀s,(o=⟨s,σ.next⟩)=False:=fun s=>eq_false fun h=>by rw[h]at o1;(try dsimp only at o1);omega
   have nG:∀s,(og=⟨s,σ.next⟩)=False:=fun s=>eq_false fun h=>by rw[h]at v1;(try dsimp only at v1);omega
   exact fc (.inl rfl) (vs:=[.agg [.own og 0 s.aQ.length,.own o 0 s.ai.length]]) (sd (tw @G6 (tw @a1 (tw @a2 (tw @a3 (tw @E4 @a12)))))) ⟨og,o,rfl,fun h=>by rw[h]at v2;omega,by simp only[go_sem, ↓reduceIte,Nat.reduceEqDiff,Nat.reduceAdd,Nat.reduceSub,Nat.reduceLeDiff,reduceCtorEq,nG]<;>exact(aO og v2).trans g1,by simp only[go_sem, ↓reduceIte,Nat.reduceEqDiff,Nat.reduceAdd,Nat.reduceSub,Nat.reduceLeDiff,reduceCtorEq,nO]<;>exact go,bp,bp,bp,bp,fun i hi=>by
    have h8:=dp hi
    simp only[go_sem, ↓reduceIte,Nat.reduceEqDiff,Nat.reduceAdd,Nat.reduceSub,Nat.reduceLeDiff,reduceCtorEq,h8]<;>exact(aO i ad).trans (k3 i hi)⟩
def wj (t:dD):dD:=⟨t.bW,Bg t.de⟩
def gF (s:ay):ay:=⟨s.aQ,s.ai.map wj⟩
def lh (l:List dD) (k:Nat):List dD:=(l.take k).map wj++l.drop k
theorem I4 {l:List dD} {k:Nat} (h:k<=l.length):(lh l k).length=l.length:=by simp[lh];omega
theorem L9 {l:List dD} {k:Nat} (h:k<l.length):((lh l k).map du)[k]? =some [.str l[k].bW,.sl (l[k].de.map aL)]:=by
 have h1:((l.take k).map wj).length=k:=by simp;omega
 rw[lh,List.map_append,List.getElem?_append_right (by simp;omega),List.length_map,h1,Nat.sub_self,List.getElem?_map,List.getElem?_drop,Nat.add_zero,List.getElem?_eq_getElem h]
 rfl
theorem I5 {l:List dD} {k:Nat} (h:k<l.length):((lh l k).map du).set k [.str l[k].bW,.sl ((Bg l[k].de).map aL)]=(lh l (k+1)).map du:=by
 have h1:((l.take k).map wj).length=k:=by simp;omega
 have h2:l.drop k=l[k]::l.drop (k+1):=List.drop_eq_getElem_cons h
 unfold lh
 rw[List.map_append,List.set_append_right _ _ (by simp;omega),List.length_map,h1,Nat.sub_self,h2,List.map_cons,List.set_cons_zero,List.take_add_one,List.getElem?_eq_getElem h,List.map_append,List.map_append,List.map_append,List.append_assoc]
 rfl
theorem I3 (l:List dD):lh l l.length=l.map wj:=by simp[lh]
theorem zx (s:ay) (hn:kE s) (hP:gL s) (hg:0<s.aQ.length) (h4:∀t∈s.ai,t.de.length=4):
  p7 Tryz.prog 21 [.agg (ae s)] fun r=>r=.fX [.agg (ae (gF s)),.int .i64 0]:=by
 have sW:=hP.mu
 have ht:=hP.some
 have Hh:=hP.qq
 have h1:=zB s hn ad ad (fun t ht=>by rw[h4 t ht];omega)
 rw[pk.2 hP]at h1
 have oR:=fun σ=>QA s hg ad ad ad h4 σ
 refine p7.body fW rfl fun jd σ=>?_
 clear jd
 have es:ae s=[.sl (s.aQ.map ej),.sl (s.ai.map du)]:=rfl
 rw[es]at h1 oR ⊢
 (repeat(first|((repeat(revert N;apply Pn.out));refine wk @Nat.zero_add ?_;(repeat(apply Pn.mk;intro N hN)))|((try apply Or.inl);refine⟨_,ax.x (h1) (sd @Nat.zero_add),?_⟩;apply hN;clear hN N)))
 refine .inr (aH _ _ _ _ _ (fun r σ1 hq=>?_) (oR _))
 obtain⟨og,o,rfl,hZ,gg,go,v1,v2,v3,v4,f1⟩:=hq
 obtain⟨g1,x1⟩:=σ1
 (try dsimp only at gg go v1 v2 v3 v4 f1)
 have k1:=f1 ⟨21000001,σ.next⟩ bp
 simp only[go_sem, ↓reduceIte,Nat.reduceEqDiff,Nat.reduceAdd,Nat.reduceSub,Nat.reduceLeDiff,reduceCtorEq]at k1
 clear f1
 have vg:=dp v2
 have vo:=dp v4
 apply hN
 clear hN N
 (try((repeat(revert N;apply Pn.out));refine wk (tw @k1 (tw @vg @vo)) ?_;(repeat(apply Pn.mk;intro N hN))))
 refine cm (fun n env st=>∃k:Nat,n=(s.ai.length)-k/\k<=(s.ai.length)/\env 16=.int .i64 (k:Int)/\((x1+1<=st.next/\st.get ⟨21000001,σ.next⟩=some ⟨true,2,[[.cr,.cr]]⟩/\st.get ⟨21003002,x1⟩=some ⟨true,2,[[.own og 0 s.aQ.length,.own o 0 s.ai.length]]⟩/\st.get og=some ⟨true,2,s.aQ.map ej⟩/\st.get o=some ⟨true,2,(lh s.ai k).map du⟩))) (s.ai.length) ⟨0,ad,ad,sl @Nat.zero_add,by(try dsimp only);exact⟨ad,sd @k1,sl @Nat.zero_add,sd (tw @vg @gg),sl (tw @vo @go)⟩⟩ ?_
 rintro n_a env_a st_a ⟨k,rfl,ale,Ml,oI⟩ eJ
 have a2:=eJ 2 (by kernel_rfl);have a4:=eJ 4 (by kernel_rfl);have G7:=eJ 14 (by kernel_rfl);have Hs:=eJ 15 (by kernel_rfl)
 simp only[go_sem, ↓reduceIte,Nat.reduceEqDiff,Nat.reduceAdd,Nat.reduceSub,Nat.reduceLeDiff,reduceCtorEq]at a2 a4 G7 Hs
 clear eJ
 obtain⟨aN,aB,aV,aG,aO⟩:=oI
 have gy:((lh s.ai k).map du).length=s.ai.length:=by rw[List.length_map,I4 ale]
 have XZ:=dp (i:=o) (n:=st_a.next) ad
 have noV:(o=⟨21003002,x1⟩)=False:=eq_false fun h=>by rw[h]at v4;(try dsimp only at v4);omega
 have ZX:((⟨21003002,x1⟩:Id)=o)=False:=eq_false fun h=>by rw[<-h]at v4;(try dsimp only at v4);omega
 have noB:(o=⟨21000001,σ.next⟩)=False:=eq_false fun h=>by rw[h]at v3;(try dsimp only at v3);omega
 have noC:((⟨21000001,σ.next⟩:Id)=o)=False:=eq_false fun h=>by rw[<-h]at v3;(try dsimp only at v3);omega
 have nog:(og=o)=False:=eq_false hZ
 have ngV:(og=⟨21003002,x1⟩)=False:=eq_false fun h=>by rw[h]at v2;(try dsimp only at v2);omega
 have ngB:(og=⟨21000001,σ.next⟩)=False:=eq_false fun h=>by rw[h]at v1;(try dsimp only at v1);omega
 by_cases hk:(k:Int)<(s.ai.length:Int)
 ·have eh:∀{e:Env} {gg:Rows} {nx:Nat},(e 16=.int .i64 (IntKind.i64.wrap ((k:Int)+1)))->((x1+1<=nx/\gg ⟨21000001,σ.next⟩=some ⟨true,2,[[.cr,.cr]]⟩/\gg ⟨21003002,x1⟩=some ⟨true,2,[[.own og 0 s.aQ.length,.own o 0 s.ai.length]]⟩/\gg og=some ⟨true,2,s.aQ.map ej⟩/\gg o=some ⟨true,2,(lh s.ai (k+1)).map du⟩))->∃m0,m0<(s.ai.length)-k/\∃k:Nat,m0=(s.ai.length)-k/\k<=(s.ai.length)/\e 16=.int .i64 (k:Int)/\((x1+1<=nx/\gg ⟨21000001,σ.next⟩=some ⟨true,2,[[.cr,.cr]]⟩/\gg ⟨21003002,x1⟩=some ⟨true,2,[[.own og 0 s.aQ.length,.own o 0 s.ai.length]]⟩/\gg og=some ⟨true,2,s.aQ.map ej⟩/\gg o=some ⟨true,2,(lh s.ai k).map du⟩)):=fun x1 x2=>⟨_,ad,k+1,rfl,ad,(by rw[x1,aX ad]),x2⟩
  have lk:k<s.ai.length:=ad
  have pb:=L9 lk
  have eA:=I5 lk
  have hl4:=h4 s.ai[k] (List.getElem_mem lk)
  obtain⟨t,Zz⟩:∃t,s.ai[k]=t:=⟨_,rfl⟩
  rw[Zz]at pb eA hl4
  have htx:=fun σ=>Ey t.de hl4 σ
  obtain⟨rs,tU⟩:∃rs,(lh s.ai k).map du=rs:=⟨_,rfl⟩
  rw[tU]at aO gy pb eA
  (try((repeat(revert N;apply Pn.out));refine wk (tw @Ml (tw @a2 (tw @a4 (tw @G7 (tw @Hs (tw @hk (tw @pb (tw @aO (tw @aV (tw @gy (tw @XZ (tw @noV @ZX)))))))))))) ?_;(repeat(apply Pn.mk;intro N hN))))
  refine⟨_,htx _,?_⟩
  apply hN
  clear hN N
  (try((repeat(revert N;apply Pn.out));refine wk (tw @Ml (tw @a2 (tw @a4 (tw @G7 (tw @Hs (tw @hk (tw @pb (tw @aO (tw @aV (tw @gy (tw @XZ (tw @noV @ZX)))))))))))) ?_;(repeat(apply Pn.mk;intro N hN))))
  have vg2:=dp (i:=og) (n:=st_a.next) ad
  exact eh (sd (tw @Ml (tw @a2 (tw @a4 (tw @G7 @Hs))))) (by(try dsimp only);exact⟨ad,sd (tw @noC @aB),sd (tw @ZX @aV),sd (tw @vg2 (tw @nog @aG)),sd @eA⟩)
 ·have lk:k=s.ai.length:=ad
  subst lk
  rw[I3]at aO
  have ngo:(o=og)=False:=eq_false fun h=>hZ h.symm
  (try((repeat(revert N;apply Pn.out));refine wk (tw @Ml (tw @a2 (tw @a4 (tw @G7 (tw @Hs (tw @hk (tw @aV (tw @aB @gy)))))))) ?_;(repeat(apply Pn.mk;intro N hN))))
  have zg:V.fz (ck st_a.get ⟨21000001,σ.next⟩ ⟨true,2,[[.own og 0 s.aQ.length,.own o 0 s.ai.length]]⟩) 4 (.own og 0 s.aQ.length)=some (.sl (s.aQ.map ej)):=gm (e:=ej) (n:=3) (by simp only[go_sem, ↓reduceIte,Nat.reduceEqDiff,Nat.reduceAdd,Nat.reduceSub,Nat.reduceLeDiff,reduceCtorEq,ngB]<;>exact aG) rfl fun x=>by simp[ej,aj,ar,aJ,bF]
  have zt:V.fz (ck st_a.get ⟨21000001,σ.next⟩ ⟨true,2,[[.own og 0 s.aQ.length,.own o 0 s.ai.length]]⟩) 4 (.own o 0 s.ai.length)=some (.sl ((s.ai.map wj).map du)):=by
   have:=gm (e:=du) (l:=s.ai.map wj) (len:=s.ai.length) (n:=3) (g:=ck st_a.get ⟨21000001,σ.next⟩ ⟨true,2,[[.own og 0 s.aQ.length,.own o 0 s.ai.length]]⟩) (id:=o) (by simp only[go_sem, ↓reduceIte,Nat.reduceEqDiff,Nat.reduceAdd,Nat.reduceSub,Nat.reduceLeDiff,reduceCtorEq,noB]<;>exact aO) (by simp) fun x=>by simp[du,aj,ar,cz,bF]
   simpa using this
  exact⟨[.agg [.own og 0 s.aQ.length,.own o 0 s.ai.length],.int .i64 0],sd (tw @Ml (tw @a2 (tw @a4 (tw @G7 @Hs)))),.fX [.agg (ae (gF s)),.int .i64 0],by simp only[iF,br,bj,aj,ar,zg,zt,aJ,Option.map_some]<;>rfl,rfl⟩
abbrev mP:MK:=⟨true,[.tI,.tI]⟩
theorem Gx (p:aq):∀(ts:List aa) (i:Nat),iE mP (ah p) (ts.map ab) i=some (if s6 ts p<ts.length then some (i+s6 ts p)else none)
 |[],i=>by simp[iE,s6]
 |t::ts,i=>by
  have e:eU mP.ts (ah p) ((ab t).take mP.ks)=some (decide (p=t.bf)):=by
   have h:(p=t.bf)↔(p.fE=t.bf.fE/\p.fw=t.bf.fw):=⟨fun h=>by rw[h];exact⟨rfl,rfl⟩,fun h=>AM h.1 h.2⟩
   simp[MK.ks,ah,ab,eU,fD,h]
  have ih:=Gx p ts (i+1)
  rw[List.map_cons]
  unfold iE
  rw[e]
  by_cases h:p=t.bf
  ·rw[decide_eq_true h]
   have h0:s6 (t::ts) p=0:=by simp[s6,List.findIdx_cons,h]
   simp[h0]
  ·rw[decide_eq_false h]
   have h0:s6 (t::ts) p=s6 ts p+1:=by
    simp[s6,List.findIdx_cons,Ne.symm h]
   simp only[ih,h0,List.length_cons,Nat.add_lt_add_iff_right]
   congr 1
   split<;>simp;omega
theorem CG (ts:List aa) (p:aq):iz mP (.agg [.int .i64 p.fE,.int .i64 p.fw]) (ts.map ab)=some (if 0<=eO ts p then some (eO ts p).toNat else none):=by
 have h:=Gx p ts 0
 unfold iz
 rw[if_pos ⟨rfl,rfl,rfl⟩]
 show iE mP (ah p) _ 0= _
 rw[h]
 unfold eO
 split<;>simp
theorem LB {ts:List aa} {p:aq} (h:0<=eO ts p):iz mP (.agg [.int .i64 p.fE,.int .i64 p.fw]) (ts.map ab)=some (some (eO ts p).toNat):=by rw[CG,if_pos h]
theorem ua {ts:List aa} {p:aq} (h:eO ts p<0):iz mP (.agg [.int .i64 p.fE,.int .i64 p.fw]) (ts.map ab)=some none:=by rw[CG,if_neg ad]
structure EU (g:Rows) (n:Nat) (c T O:Id) (s:au) (ts:List aa):Prop where
 row:∃b,g c=some ⟨b,6,[[.sl (s.az.aQ.map ej),.sl (s.az.ai.map du),.sl (s.dc.ai.map ab),.int .i64 s.aI,.map T mP,.map O mP]]⟩
 tl:∃b,g T=some ⟨b,mP.mC,ts.map ab⟩
 cv:c.bt<n
 tv:T.bt<n
 ov:O.bt<n
theorem EU.ro {g:Rows} {n:Nat} {c T O:Id} {s:au} {ts:List aa} (h:EU g n c T O s ts):EU (V.ro g) n c T O s ts:=by
 obtain⟨b,h1⟩:=h.row
 obtain⟨b2,h2⟩:=h.tl
 exact⟨⟨false,by simp[V.ro,h1]⟩,⟨false,by simp[V.ro,h2]⟩,h.cv,h.tv,h.ov⟩
theorem EU.frame {g g':Rows} {n n':Nat} {c T O:Id} {s:au} {ts:List aa} (h:EU g n c T O s ts) (hn:n<=n') (hc:g' c=g c) (hT:g' T=g T):EU g' n' c T O s ts:=
 ⟨by rw[hc];exact h.row,by rw[hT];exact h.tl,Nat.lt_of_lt_of_le h.cv hn,Nat.lt_of_lt_of_le h.tv hn,Nat.lt_of_lt_of_le h.ov hn⟩
theorem at_c {σ:aw} {c T O:Id} {s:au} {ts:List aa} (h:EU σ.get σ.next c T O s ts) (p:aq):Call Tryz.prog 78 [.ptr c 0 0,.agg (ah p)] σ (fun r _=>r=.int .i64 (fy ts p)):=by
 refine fV fW rfl fun jd=>?_
 clear jd
 obtain⟨b,h1⟩:=h.row
 obtain⟨b2,h2⟩:=h.tl
 have v1:=dp h.cv
 have v2:=dp h.tv
 by_cases h0:0<=eO ts p
 ·have hm:=LB h0
  have hg:=gK (j3 h0).1
  have ho:(some (eO ts p).toNat).isSome=true:=rfl
  (try((repeat(revert N;apply Pn.out));refine wk (tw @h1 (tw @h2 (tw @v1 (tw @v2 (tw @hm (tw @hg (tw @ho (tw @ah.eq_1 @ab.eq_1)))))))) ?_;(repeat(apply Pn.mk;intro N hN))))
  exact fc (.inl rfl) (vs:=[.int .i64 (bh ts (eO ts p).toNat).bc]) (sd @Nat.zero_add) (by rw[fy,if_pos h0];rfl)
 ·have hm:=ua (ts:=ts) (p:=p) ad
  have ho:(none:Option Nat).isSome=false:=rfl
  (try((repeat(revert N;apply Pn.out));refine wk (tw @h1 (tw @h2 (tw @v1 (tw @v2 (tw @hm (tw @ho @ah.eq_1)))))) ?_;(repeat(apply Pn.mk;intro N hN))))
  exact fc (.inl rfl) (vs:=[.int .i64 (-1)]) (sd @Nat.zero_add) (by rw[fy,if_neg h0];rfl)
theorem T8 {σ:aw} {c T O:Id} {s:au} {ts:List aa} (h:EU σ.get σ.next c T O s ts) (p:aq):fB (Call Tryz.prog) 78 [.ptr c 0 0,.agg (ah p)] σ (fun r=>r=.int .i64 (fy ts p)):=by
 unfold fB PC
 exact Or.inl (aH _ _ _ _ _ (fun r σ' hr=>⟨_,by rw[hr];exact aJ _ _ _ _,rfl⟩) (at_c (σ:=⟨V.ro σ.get,σ.next⟩) h.ro p))
theorem KB {σ:aw} (s:ay) (hS:gL s) (F:aq->Int) (hF:∀q,0<=F q->eF s (F q)=true) (p:aq) (hx:iB p.fE) (hy:iB p.fw) (t:Int) (ht:eF s t=true) (f:Nat) (first:List AV)
  (pb:∀σ':aw,σ.next<=σ'.next->(∀x:Id,x.bt<σ.next->σ'.get x=σ.get x)->∀q,fB (Call Tryz.prog) f (first++[.agg (ah q)]) σ' (fun r=>r=.int .i64 (F q))):
  Call Tryz.prog 77 [.agg (ae s),.agg (ah p),.int .i64 t,.yh f first] σ (fun r _=>r=.int .i64 (lr s F p t)):=by
 refine fV fW rfl fun jd=>?_
 clear jd
 (try((repeat(revert N;apply Pn.out));refine wk (tw @ah.eq_1 @ae.eq_1) ?_;(repeat(apply Pn.mk;intro N hN))))
 refine cm (fun n env st=>∃k:Nat,n=(4)-k/\k<=(4)/\env 12=.int .i64 (k:Int)/\env 9=.int .i64 (ef s F p t k)/\st.get ⟨77000000,σ.next⟩=some ⟨true,2,[ae s]⟩/\st.get ⟨77000001,σ.next⟩=some ⟨true,2,[ah p]⟩/\(σ.next<st.next/\∀x:Id,x.bt<σ.next->st.get x=σ.get x)) (4) ⟨0,ad,ad,sl (tw @ah.eq_1 @ae.eq_1),sl (tw @ah.eq_1 @ae.eq_1),sl (tw @ah.eq_1 @ae.eq_1),sl (tw @ah.eq_1 @ae.eq_1),⟨bp,fun x hx=>by
  have:=dp hx
  simp only[go_sem, ↓reduceIte,Nat.reduceEqDiff,Nat.reduceAdd,Nat.reduceSub,Nat.reduceLeDiff,reduceCtorEq,this]⟩⟩ ?_
 rintro n_a env_a st_a ⟨k,rfl,ale,a12,a9,ag0,ag1,oI⟩ eJ
 have a2:=eJ 2 (by kernel_rfl);have a3:=eJ 3 (by kernel_rfl);have a4:=eJ 4 (by kernel_rfl);have a5:=eJ 5 (by kernel_rfl)
 simp only[go_sem, ↓reduceIte,Nat.reduceEqDiff,Nat.reduceAdd,Nat.reduceSub,Nat.reduceLeDiff,reduceCtorEq,ah,ae]at a2 a3 a4 a5
 clear eJ
 obtain⟨an,eJ⟩:=oI
 by_cases hk:(k:Int)<4
 ·have eh:∀{e:Env} {gg:Rows} {nx:Nat},(e 12=.int .i64 (IntKind.i64.wrap ((k:Int)+1)))->(e 9=.int .i64 (ef s F p t (k+1)))->(gg ⟨77000000,σ.next⟩=some ⟨true,2,[ae s]⟩)->(gg ⟨77000001,σ.next⟩=some ⟨true,2,[ah p]⟩)->(σ.next<nx/\∀x:Id,x.bt<σ.next->gg x=σ.get x)->∃m0,m0<(4)-k/\∃k:Nat,m0=(4)-k/\k<=(4)/\e 12=.int .i64 (k:Int)/\e 9=.int .i64 (ef s F p t k)/\gg ⟨77000000,σ.next⟩=some ⟨true,2,[ae s]⟩/\gg ⟨77000001,σ.next⟩=some ⟨true,2,[ah p]⟩/\(σ.next<nx/\∀x:Id,x.bt<σ.next->gg x=σ.get x):=fun x1 x2 x3 x4 x5=>⟨_,ad,k+1,rfl,ad,(by rw[x1,aX ad]),x2,x3,x4,x5⟩
  have eA:=IV p k (j7 ad) hx hy
  have gS:=lS hS F p t k
  (have zF:=tw @a12 (tw @a9 (tw @ag0 (tw @ag1 (tw @a2 (tw @a3 (tw @a4 (tw @a5 (tw @hk @ah.eq_1))))))));(repeat(first|((repeat(revert N;apply Pn.out));refine wk zF ?_;(repeat(apply Pn.mk;intro N hN)))|((try apply Or.inl);refine⟨_,ax.x (eA) (sd zF),?_⟩;apply hN;clear hN N)));try clear zF)
  refine .inl ⟨_,pb _ bp (fun x hx=>sd (eJ x hx)) (cj p k),?_⟩
  apply hN
  clear hN N
  by_cases h0:0<=F (cj p k)
  ·have Cr:=Nd s hS.form t k (F (cj p k)) ht (hF _ h0) (j7 ad)
   have gV:=zE hS t k (F (cj p k))
   have hw:IntKind.i64.wrap (ef s F p t k+fM s t k (F (cj p k)))=ef s F p t (k+1):=by
    rw[dj ad,ef,if_pos h0]
   rw[ae]at Cr
   (have zF:=tw @a12 (tw @a9 (tw @ag0 (tw @ag1 (tw @a2 (tw @a3 (tw @a4 (tw @a5 (tw @h0 @ae.eq_1))))))));(repeat(first|((repeat(revert N;apply Pn.out));refine wk zF ?_;(repeat(apply Pn.mk;intro N hN)))|((try apply Or.inl);refine⟨_,ax.x (Cr) (sd zF),?_⟩;apply hN;clear hN N)));try clear zF)
   refine eh ?_ ?_ ?_ ?_ (⟨bp,fun x hx=>by
    have h1:=eJ x hx
    simp only[go_sem, ↓reduceIte,Nat.reduceEqDiff,Nat.reduceAdd,Nat.reduceSub,Nat.reduceLeDiff,reduceCtorEq,h1]⟩)
   all_goals simp only[go_sem, ↓reduceIte,Nat.reduceEqDiff,Nat.reduceAdd,Nat.reduceSub,Nat.reduceLeDiff,reduceCtorEq,a12,a9,ag0,ag1,a2,a3,a4,a5,hw,ah,ae]
  ·have hw:ef s F p t (k+1)=ef s F p t k:=by rw[ef,if_neg h0,Int.add_zero]
   (try((repeat(revert N;apply Pn.out));refine wk (tw @a12 (tw @a9 (tw @ag0 (tw @ag1 (tw @a2 (tw @a3 (tw @a4 (tw @a5 @h0)))))))) ?_;(repeat(apply Pn.mk;intro N hN))))
   refine eh ?_ ?_ ?_ ?_ (⟨bp,fun x hx=>by
    have h1:=eJ x hx
    simp only[go_sem, ↓reduceIte,Nat.reduceEqDiff,Nat.reduceAdd,Nat.reduceSub,Nat.reduceLeDiff,reduceCtorEq,h1]⟩)
   all_goals simp only[go_sem, ↓reduceIte,Nat.reduceEqDiff,Nat.reduceAdd,Nat.reduceSub,Nat.reduceLeDiff,reduceCtorEq,a12,a9,ag0,ag1,a2,a3,a4,a5,hw,ah,ae]
 ·(try((repeat(revert N;apply Pn.out));refine wk (tw @a12 (tw @a9 (tw @ag0 (tw @ag1 (tw @a2 (tw @a3 (tw @a4 (tw @a5 @hk)))))))) ?_;(repeat(apply Pn.mk;intro N hN))))
  exact fc (.inl rfl) (vs:=[.int .i64 (ef s F p t k)]) (sd (tw @a12 (tw @a9 (tw @ag0 (tw @ag1 (tw @a2 (tw @a3 (tw @a4 @a5)))))))) (by rw[show k=4 by omega];rfl)
noncomputable def eB (s:au) (ts:List aa) (p:aq) (t:Int):Bool:=yQ p&&decide (fy ts p<0)&&decide (s.aI<=lr s.az (fy ts) p t)
theorem KC {σ:aw} {c T O:Id} {s:au} {ts:List aa} (h:EU σ.get σ.next c T O s ts) (hS:gL s.az) (hF:∀q,0<=fy ts q->eF s.az (fy ts q)=true) (p:aq) (hx:iB p.fE) (hy:iB p.fw) (t:Int) (ht:eF s.az t=true):
  fB (Call Tryz.prog) 77 [.agg (ae s.az),.agg (ah p),.int .i64 t,.yh 78 [.ptr c 0 0]] σ (fun r=>r=.int .i64 (lr s.az (fy ts) p t)):=by
 unfold fB PC
 exact Or.inl (aH _ _ _ _ _ (fun r σ' hr=>⟨_,by rw[hr];exact aJ _ _ _ _,rfl⟩) (KB (σ:=⟨V.ro σ.get,σ.next⟩) s.az hS (fy ts) hF p hx hy t ht _ _
  (fun σ' hn hk q=>T8 (h.ro.frame hn (hk _ h.cv) (hk _ h.tv)) q)))
theorem Ur {σ:aw} {c T O:Id} {s:au} {ts:List aa} (h:EU σ.get σ.next c T O s ts) (hS:gL s.az) (hF:∀q,0<=fy ts q->eF s.az (fy ts q)=true) (p:aq) (t:Int) (ht:eF s.az t=true):
  Call Tryz.prog 131 [.ptr c 0 0,.agg (ah p),.int .i64 t] σ (fun r _=>r=.bool (eB s ts p t)):=by
 refine fV fW rfl fun jd=>?_
 clear jd
 obtain⟨b,h1⟩:=h.row
 have v1:=dp h.cv
 have hw:=uH p
 have v2:=dp h.tv
 by_cases h0:yQ p=true
 ·rw[h0]at hw
  obtain⟨hx,hy⟩:=uj h0
  by_cases h2:fy ts p<0
  ·(have zF:=tw @h1 (tw @v1 (tw @h2 @ah.eq_1));(repeat(first|((repeat(revert N;apply Pn.out));refine wk zF ?_;(repeat(apply Pn.mk;intro N hN)))|((try apply Or.inl);refine⟨_,ax.x (hw) (sd zF),?_⟩;apply hN;clear hN N)));try clear zF)
   refine⟨_,T8 (h.frame bp (sd @v1) (sd @v2)) p,?_⟩
   apply hN
   clear hN N
   (have zF:=tw @h1 (tw @v1 (tw @h2 (tw @ah.eq_1 @ae.eq_1)));(repeat(first|((repeat(revert N;apply Pn.out));refine wk zF ?_;(repeat(apply Pn.mk;intro N hN)))|((try apply Or.inl);refine⟨_,ax.x (hw) (sd zF),?_⟩;apply hN;clear hN N)));try clear zF)
   refine⟨_,KC (h.frame bp (sd @v1) (sd @v2)) hS hF p hx hy t ht,?_⟩
   apply hN
   clear hN N
   have hb:=lS hS (fy ts) p t 4
   (have zF:=tw @h1 (tw @v1 (tw @h2 (tw @ah.eq_1 @ae.eq_1)));(repeat(first|((repeat(revert N;apply Pn.out));refine wk zF ?_;(repeat(apply Pn.mk;intro N hN)))|((try apply Or.inl);refine⟨_,ax.x (hw) (sd zF),?_⟩;apply hN;clear hN N)));try clear zF)
   exact fc (.inl rfl) (vs:=[.bool (decide (s.aI<=lr s.az (fy ts) p t))]) (sd @Nat.zero_add) (by rw[show eB s ts p t=decide (s.aI<=lr s.az (fy ts) p t) by simp[eB,h0,h2]];rfl)
  ·(have zF:=tw @h1 (tw @v1 (tw @h2 @ah.eq_1));(repeat(first|((repeat(revert N;apply Pn.out));refine wk zF ?_;(repeat(apply Pn.mk;intro N hN)))|((try apply Or.inl);refine⟨_,ax.x (hw) (sd zF),?_⟩;apply hN;clear hN N)));try clear zF)
   refine⟨_,T8 (h.frame bp (sd @v1) (sd @v2)) p,?_⟩
   apply hN
   clear hN N
   (have zF:=tw @h1 (tw @v1 (tw @h2 @ah.eq_1));(repeat(first|((repeat(revert N;apply Pn.out));refine wk zF ?_;(repeat(apply Pn.mk;intro N hN)))|((try apply Or.inl);refine⟨_,ax.x (hw) (sd zF),?_⟩;apply hN;clear hN N)));try clear zF)
   exact fc (.inl rfl) (vs:=[.bool false]) (sd @Nat.zero_add) (by rw[show eB s ts p t=false by simp[eB,h2]];rfl)
 ·rw[Bool.not_eq_true]at h0
  rw[h0]at hw
  (have zF:=tw @h1 (tw @v1 @ah.eq_1);(repeat(first|((repeat(revert N;apply Pn.out));refine wk zF ?_;(repeat(apply Pn.mk;intro N hN)))|((try apply Or.inl);refine⟨_,ax.x (hw) (sd zF),?_⟩;apply hN;clear hN N)));try clear zF)
  exact fc (.inl rfl) (vs:=[.bool false]) (sd @Nat.zero_add) (by rw[show eB s ts p t=false by simp[eB,h0]];rfl)
def ir (p:aq):aq:=⟨p.fw,p.fE⟩
theorem rV (p:aq):ir (ir p)=p:=rfl
theorem GY (s:ay) (a:Int):(bz (gF s) a=xt/\bz s a=xt)∨bz (gF s) a=wj (bz s a):=by
 unfold bz gF
 by_cases h:a.toNat<s.ai.length
 ·right
  simp[List.getD_eq_getElem?_getD,h]
 ·left
  constructor<;>simp[List.getD_eq_getElem?_getD,Nat.le_of_not_lt h]
theorem yq (s:ay) (a:Int):bZ (bz (gF s) a) 0=bZ (bz s a) 1/\bZ (bz (gF s) a) 1=bZ (bz s a) 0/\bZ (bz (gF s) a) 2=bZ (bz s a) 3/\bZ (bz (gF s) a) 3=bZ (bz s a) 2:=by
 rcases GY s a with⟨h1,h2⟩|h
 ·rw[h1,h2];exact⟨rfl,rfl,rfl,rfl⟩
 ·rw[h];exact⟨rfl,rfl,rfl,rfl⟩
theorem HA (s:ay) (a b:Int):fM (gF s) a 0 b=fM s a 1 b/\fM (gF s) a 1 b=fM s a 0 b/\fM (gF s) a 2 b=fM s a 3 b/\fM (gF s) a 3 b=fM s a 2 b:=by
 obtain⟨a0,a1,a2,a3⟩:=yq s a
 obtain⟨b0,b1,b2,b3⟩:=yq s b
 have o0:jB 0=2:=rfl
 have o1:jB 1=3:=rfl
 have o2:jB 2=0:=rfl
 have o3:jB 3=1:=rfl
 unfold fM
 rw[o0,o1,o2,o3,a0,a1,a2,a3,b0,b1,b2,b3]
 exact⟨rfl,rfl,rfl,rfl⟩
theorem IS (p:aq):cj (ir p) 0=ir (cj p 1)/\cj (ir p) 1=ir (cj p 0)/\cj (ir p) 2=ir (cj p 3)/\cj (ir p) 3=ir (cj p 2):=⟨rfl,rfl,rfl,rfl⟩
theorem tz (s:ay) (f:aq->Int) (p:aq) (t:Int):lr s f p t=0+(if 0<=f (cj p 0)then fM s t 0 (f (cj p 0))else 0)+(if 0<=f (cj p 1)then fM s t 1 (f (cj p 1))else 0)+(if 0<=f (cj p 2)then fM s t 2 (f (cj p 2))else 0)+(if 0<=f (cj p 3)then fM s t 3 (f (cj p 3))else 0):=rfl
theorem Hy (s:ay) {f f':aq->Int} (h:∀q,f' (ir q)=f q) (p:aq) (t:Int):lr (gF s) f' (ir p) t=lr s f p t:=by
 obtain⟨s0,s1,s2,s3⟩:=IS p
 have hb:=fun b=>HA s t b
 rw[tz,tz,s0,s1,s2,s3,h,h,h,h,(hb _).1,(hb _).2.1,(hb _).2.2.1,(hb _).2.2.2]
 omega
theorem OY (p:aq):yQ (ir p)=yQ p:=by unfold yQ ir;exact Bool.and_comm _ _
def fa (s:au):au:=⟨gF s.az,s.dc,s.aI⟩
theorem w5 (s:au) {l l':List aa} (h:∀q,fy l' (ir q)=fy l q) (p:aq) (t:Int):eB (fa s) l' (ir p) t=eB s l p t:=by
 unfold eB fa
 (try dsimp only)
 rw[OY,h p,Hy s.az h]
theorem ur (s:ay) (t:Int):eF (gF s) t=eF s t:=by unfold eF gF;(try dsimp only);rw[List.length_map]
def OW (rows:List (List AV)):Prop:=∀r∈rows,∃(x y:Int) (v:AV),r=[.int .i64 x,.int .i64 y,v]
def SJ (σ:aw) (O:Id) (g:Rows) (n:Nat):Prop:=σ.next<=n/\(∀x:Id,x.bt<σ.next->x≠O->g x=σ.get x)/\∃rows,g O=some ⟨true,mP.mC,rows⟩/\OW rows
theorem Ut {σ:aw} {c T O:Id} {s:au} {ts:List aa} (h:EU σ.get σ.next c T O s ts) (hS:gL s.az) (hF:∀q,0<=fy ts q->eF s.az (fy ts q)=true) (p:aq) (t:Int) (ht:eF s.az t=true):
  fB (Call Tryz.prog) 131 [.ptr c 0 0,.agg (ah p),.int .i64 t] σ (fun r=>r=.bool (eB s ts p t)):=by
 unfold fB PC
 exact Or.inl (aH _ _ _ _ _ (fun r σ' hr=>⟨_,by rw[hr];exact aZ _ _ _,rfl⟩) (Ur (σ:=⟨V.ro σ.get,σ.next⟩) h.ro hS hF p t ht))
structure nQ (g:Rows) (n:Nat) (c T O:Id) (s:au) (ts:List aa):Prop where
 row:g c=some ⟨true,6,[[.sl (s.az.aQ.map ej),.sl (s.az.ai.map du),.sl (s.dc.ai.map ab),.int .i64 s.aI,.map T mP,.map O mP]]⟩
 tl:g T=some ⟨true,mP.mC,ts.map ab⟩
 op:∃rows,g O=some ⟨true,mP.mC,rows⟩/\OW rows
 cv:c.bt<n
 tv:T.bt<n
 ov:O.bt<n
 cT:c≠T
 cO:c≠O
 TO:T≠O
theorem nQ.Uj {g:Rows} {n:Nat} {c T O:Id} {s:au} {ts:List aa} (h:nQ g n c T O s ts):EU g n c T O s ts:=⟨⟨_,h.row⟩,⟨_,h.tl⟩,h.cv,h.tv,h.ov⟩
theorem nQ.look {σ:aw} {g:Rows} {n:Nat} {c T O:Id} {s:au} {ts:List aa} (h:nQ σ.get σ.next c T O s ts) (k:SJ σ O g n):nQ g n c T O s ts:=
 ⟨(k.2.1 _ h.cv h.cO).trans h.row,(k.2.1 _ h.tv h.TO).trans h.tl,k.2.2,Nat.lt_of_lt_of_le h.cv k.1,Nat.lt_of_lt_of_le h.tv k.1,Nat.lt_of_lt_of_le h.ov k.1,h.cT,h.cO,h.TO⟩
theorem nQ.frame {g g':Rows} {n n':Nat} {c T O:Id} {s:au} {ts:List aa} (h:nQ g n c T O s ts) (hn:n<=n') (hf:∀x:Id,x.bt<n->g' x=g x):nQ g' n' c T O s ts:=
 ⟨(hf _ h.cv).trans h.row,(hf _ h.tv).trans h.tl,by rw[hf _ h.ov];exact h.op,Nat.lt_of_lt_of_le h.cv hn,Nat.lt_of_lt_of_le h.tv hn,Nat.lt_of_lt_of_le h.ov hn,h.cT,h.cO,h.TO⟩
theorem Am {l:List aa} {p:aq}:eO l p<0↔∀t∈l,t.bf≠p:=by
 unfold eO s6
 by_cases h:(l.findIdx fun c=>decide (c.bf=p))<l.length
 ·rw[if_pos h]
  obtain⟨t,ht,h2⟩:=List.findIdx_lt_length.1 h
  exact⟨fun h=>ad,fun h=>absurd (by simpa using h2) (h t ht)⟩
 ·rw[if_neg h]
  exact⟨fun _ t ht e=>h (List.findIdx_lt_length.2 ⟨t,ht,by simp[e]⟩),fun _=>ad⟩
theorem Py {l:List aa} (h:mD l) {k:Nat} (hk:k<l.length):eO (l.take k) (bh l k).bf<0:=by
 rw[Am]
 intro t ht e
 obtain⟨j,hj,rfl⟩:=List.getElem_of_mem ht
 have P6:j<k:=by rw[List.length_take]at hj;omega
 have:=h j k P6 hk
 rw[List.getElem_take]at e
 have e2:bh l j=l[j]'ad:=by unfold bh;rw[List.getD_eq_getElem?_getD,List.getElem?_eq_getElem ad];rfl
 rw[e2,e]at this
 simp[jN]at this
theorem Sg {l:List aa} {k:Nat} (hk:k<l.length):(l.take k).map ab++[[.int .i64 (bh l k).bf.fE,.int .i64 (bh l k).bf.fw,.int .i64 (bh l k).bc]]=(l.take (k+1)).map ab:=by
 have e2:bh l k=l[k]:=by unfold bh;rw[List.getD_eq_getElem?_getD,List.getElem?_eq_getElem hk];rfl
 rw[List.take_succ_eq_append_getElem hk,List.map_append,e2]
 rfl
theorem gL.M5 {s:ay} {l:List aa} (hA:iS s l):∀q,0<=fy l q->eF s (fy l q)=true:=fun _ h=>M4 hA h
def jq:List aa->aa->List aa
 |[],q=>[q]
 |x::r,q=>if jN q.bf x.bf=true then q::x::r else x::jq r q
theorem lY {q x:aa}:∀{l:List aa},x∈jq l q↔x=q∨x∈l
 |[]=>by simp[jq]
 |y::r=>by
  have ih:=@lY q x r
  rw[jq]
  split
  ·simp
  ·simp only[List.mem_cons,ih]
   constructor
   ·rintro(h|h|h)<;>simp[h]
   ·rintro(h|h|h)<;>simp[h]
theorem pg (q:aa):∀l:List aa,(jq l q).length=l.length+1
 |[]=>rfl
 |y::r=>by
  have ih:=pg q r
  rw[jq]
  split
  ·simp
  ·simp[ih]
theorem rQ {l:List aa}:mD l↔l.Pairwise fun a b=>jN a.bf b.bf=true:=by
 rw[List.pairwise_iff_getElem]
 constructor
 ·intro h i j hi hj Ct
  have:=h i j Ct hj
  rwa [gn hi,gn hj]at this
 ·intro h i j Ct hj
  have:=h i j ad hj Ct
  rwa [gn ad,gn hj]
theorem oy {l:List aa} {p:aq}:eO l p<0↔∀t∈l,t.bf≠p:=Am
theorem O0 {q:aa}:∀{l:List aa},mD l->eO l q.bf<0->mD (jq l q):=by
 intro l
 rw[rQ,rQ,oy]
 induction l with
 |nil=>intro _ _;exact List.pairwise_singleton _ _
 |cons y r ih=>
  intro h hn
  obtain⟨h1,h2⟩:=List.pairwise_cons.1 h
  rw[jq]
  split
  ·rename_i hl
   refine List.pairwise_cons.2 ⟨fun x hx=>?_,h⟩
   rcases List.mem_cons.1 hx with rfl|hx
   ·exact hl
   ·exact iX hl (h1 x hx)
  ·rename_i hl
   rw[Bool.not_eq_true]at hl
   refine List.pairwise_cons.2 ⟨fun x hx=>?_,ih h2 fun t ht=>hn t (by simp[ht])⟩
   rcases lY.1 hx with rfl|hx
   ·exact zf hl fun e=>hn y (by simp) e.symm
   ·exact h1 x hx
theorem lD (x:aa) (r:List aa) (p:aq):fy (x::r) p=if x.bf=p then x.bc else fy r p:=by
 unfold fy eO s6
 rw[List.findIdx_cons]
 by_cases h:x.bf=p
 ·simp[h,bh]
 ·simp only[h,decide_false,cond_false,List.length_cons,Nat.add_lt_add_iff_right,if_false]
  by_cases hl:(r.findIdx fun c=>decide (c.bf=p))<r.length
  ·rw[if_pos hl,if_pos hl,if_pos ad,if_pos ad]
   simp[bh]
  ·rw[if_neg hl,if_neg hl];rfl
theorem E7 {q:aa} (p:aq):∀{l:List aa},(∀t∈l,t.bf≠q.bf)->fy (jq l q) p=if q.bf=p then q.bc else fy l p
 |[],_=>by rw[jq,lD]
 |x::r,h=>by
  have ih:=@E7 q p r fun t ht=>h t (by simp[ht])
  rw[jq]
  split
  ·rw[lD]
  ·rw[lD,ih,lD]
   by_cases h1:x.bf=p
   ·have h2:q.bf≠p:=fun e=>h x (by simp) (h1.trans e.symm)
    rw[if_pos h1,if_neg h2,if_pos h1]
   ·rw[if_neg h1,if_neg h1]
theorem uJ {q:aa} (p:aq):∀{l:List aa},(∀t∈l,t.bf≠q.bf)->fy (l++[q]) p=if q.bf=p then q.bc else fy l p
 |[],_=>by rw[List.nil_append,lD]
 |x::r,h=>by
  have ih:=@uJ q p r fun t ht=>h t (by simp[ht])
  rw[List.cons_append,lD,ih,lD]
  by_cases h1:x.bf=p
  ·have h2:q.bf≠p:=fun e=>h x (by simp) (h1.trans e.symm)
   rw[if_pos h1,if_neg h2,if_pos h1]
  ·rw[if_neg h1,if_neg h1]
theorem sD {α:Type} [DecidableEq α]:∀{xs ys:List α},xs.Nodup->(∀x∈xs,x∈ys)->xs.length<=ys.length
 |[],_,_,_=>Nat.zero_le _
 |x::xs,ys,hn,h=>by
  obtain⟨h1,h2⟩:=List.nodup_cons.1 hn
  have hx:=h x (by simp)
  have:=@sD α _ xs (ys.erase x) h2 fun y hy=>(List.mem_erase_of_ne fun e=>h1 (by rw[<-e];exact hy)).2 (h y (by simp[hy]))
  rw[List.length_erase_of_mem hx]at this
  have:=List.length_pos_of_mem hx
  rw[List.length_cons];omega
theorem LO {l:List aa} (h:mD l):l.Nodup:=by
 rw[rQ]at h
 refine List.Pairwise.imp (fun {a b} pB e=>?_) h
 rw[e,iU]at pB;cases pB
abbrev tu:=List aa×List aa
noncomputable def Rn (s:au) (st:tu) (x:aa):tu:=if eB s st.2 x.bf x.bc=true then(st.1++[x],jq st.2 x)else st
noncomputable def DQ (s:au) (l:List aa) (st:tu):tu:=l.foldl (Rn s) st
noncomputable def ZM (s:au) (l:List aa):Nat->tu->tu
 |0,st=>st
 |n+1,st=>if (DQ s l st).1.length=st.1.length then DQ s l st else ZM s l n (DQ s l st)
noncomputable def insA (s:au) (l:List aa):tu:=ZM s l (l.length+1) ([],s.dc.ai)
structure InsI (s:au) (l:List aa) (st:tu):Prop where
 Br:mD st.2
 sub:∀x∈st.2,x∈l
 done:∀x∈st.1,x∈l
 len:st.2.length=s.dc.ai.length+st.1.length
theorem Nw {s:au} {l:List aa} (hA:iS s.az l) {now:List aa} (hs:∀x∈now,x∈l) {p:aq} {t:Int} (h:eB s now p t=true):eO now p<0:=by
 rcases Int.lt_or_le (eO now p) 0 with h0|h0
 ·exact h0
 ·exfalso
  obtain⟨h1,_⟩:=j3 h0
  have h2:=(eo (hA.2 _ (hs _ (gG h1)))).1
  simp[eB,fy,h0]at h
  omega
structure MV (s:au):Prop where
 set:gL s.az
 s9:iS s.az s.dc.ai
 some:1<=s.dc.ai.length
 wi:iW s.aI 1 16=true
theorem jz.w {s:au} (h:jz s):MV s:=⟨h.set,h.s9,h.some,h.wi⟩
theorem Yv (g:Rows) (n:Nat) (x:aa):fA g (n+1) (ab x)=some (ab x):=by simp[ab,cF,dq,eT]
def TR (n:Nat) (L:List aa) (r:AV) (σ':aw):Prop:=∃o:Id,r=.agg [.own o 0 L.length]/\σ'.get o=some ⟨true,3,L.map ab⟩/\n<=o.bt/\o.bt<σ'.next
theorem TR.val {f:Nat} {args args':List AV} {L:List aa} {σ:aw} (h:∀n,Call Tryz.prog f args' ⟨fun _=>none,n⟩ (TR n L)) (hv:eC (ez σ.get) 6 args=some args'):Call Tryz.prog f args σ (fun r σ'=>TR σ.next L r σ'/\Kept σ σ'):=by
 refine ET mixed hv (aH _ _ _ _ _ (fun r σ' hq=>?_) (BW mixed (h σ.next)))
 obtain⟨⟨o,rfl,h2,h3,h4⟩,hn⟩:=hq
 refine⟨[o],rfl,fun i hi=>?_,⟨o,rfl,(lg (by simp)).trans h2,h3,h4⟩,hn,fun j hj=>lL fun hc=>?_⟩
 ·rw[List.mem_singleton.1 hi]
  exact⟨_,h2,rfl,fun cs eD a ha=>by
   obtain⟨x,_,rfl⟩:=List.mem_map.1 eD
   simp[ab]at ha
   rcases ha with rfl|rfl|rfl<;>rfl⟩
 ·rw[List.mem_singleton.1 hc]at hj;omega
theorem Oq (l:List aa) (hl:l.length<=1048576) (n0:Nat):Call Tryz.prog 67 [.er [.sl (l.map ab)]] ⟨fun _=>none,n0⟩ (TR n0 l):=by
 refine fV fW rfl fun jd=>?_
 clear jd
 have EM:(l.map ab).length<=16777216:=by simp;omega
 have eR:(l.map ab).all (fun c=>c.length==3&&c.all AV.cell)=true:=all_map fun x=>⟨rfl,rfl⟩
 have Mw:(l.map ab).length=l.length:=by simp
 generalize lv:l.map ab=rows at EM eR Mw
 (try((repeat(revert N;apply Pn.out));refine wk (tw @EM @eR) ?_;(repeat(apply Pn.mk;intro N hN))))
 exact fc (.inl rfl) (vs:=[.agg [.own ⟨67001005,n0+1⟩ 0 rows.length]]) (sd @Nat.zero_add) ⟨⟨67001005,n0+1⟩,by rw[Mw];rfl,by rw[lv];simp only[go_sem, ↓reduceIte,Nat.reduceEqDiff,Nat.reduceAdd,Nat.reduceSub,Nat.reduceLeDiff,reduceCtorEq],bp,bp⟩
def yG (q:aa) (l:List aa):Bool:=l.any fun x=>jN q.bf x.bf
theorem GJ {q:aa}:∀{l:List aa},yG q l=false->jq l q=l++[q]
 |[],_=>rfl
 |x::l,h=>by
  unfold yG at h
  rw[List.any_cons,Bool.or_eq_false_iff]at h
  rw[jq,if_neg (by rw[h.1];simp),GJ h.2];rfl
theorem CT {q y:aa}:∀{l:List aa},yG q l=true->jq (l++[y]) q=jq l q++[y]
 |x::l,h=>by
  unfold yG at h
  rw[List.any_cons]at h
  rw[List.cons_append,jq,jq]
  cases hx:jN q.bf x.bf
  ·rw[hx,Bool.false_or]at h
   rw[if_neg (by simp),if_neg (by simp),CT h];rfl
  ·simp
theorem CQ {q y:aa}:∀{l:List aa},yG q l=false->jN q.bf y.bf=true->jq (l++[y]) q=l++[q]++[y]
 |[],_,hy=>by simp[jq,hy]
 |x::l,h,hy=>by
  unfold yG at h
  rw[List.any_cons,Bool.or_eq_false_iff]at h
  rw[List.cons_append,jq,if_neg (by rw[h.1];simp),CQ h.2 hy];rfl
def kf (q:aa) (l:List aa):List aa:=if yG q l=true then jq l q else l
theorem zR (q:aa) (l:List aa) (y:aa):yG q (l++[y])=(yG q l||jN q.bf y.bf):=by simp[yG]
theorem LI (q:aa) (l:List aa):(kf q l).length<=l.length+1:=by
 unfold kf
 split
 ·rw[pg];omega
 ·omega
theorem OQ {q y:aa} {l:List aa} (h:yG q l=true∨jN q.bf y.bf=false):kf q (l++[y])=kf q l++[y]:=by
 unfold kf
 rw[zR]
 cases hd:yG q l
 ·rw[hd]at h
  have h2:jN q.bf y.bf=false:=by rcases h with h|h;cases h;exact h
  simp[h2]
 ·simp[CT hd]
theorem OP {q y:aa} {l:List aa} (h:yG q l=false) (hy:jN q.bf y.bf=true):kf q (l++[y])=kf q l++[q]++[y]:=by
 unfold kf
 rw[zR,h,hy]
 simp[CQ h hy]
def GrO (m:Nat) (L:List aa) (v:AV) (g:Rows) (n:Nat):Prop:=(L=[]/\v=.cr)∨∃o:Id,v=.own o 0 L.length/\g o=some ⟨true,3,L.map ab⟩/\m<=o.bt/\o.bt<n
theorem wh {l:List aa} {k:Nat} (hk:k<l.length):l.take (k+1)=l.take k++[bh l k]:=by rw[List.take_succ_eq_append_getElem hk,gn hk]
theorem Gs (L:List aa) (q:aa):(L++[q]).map ab=L.map ab++[[.int .i64 q.bf.fE,.int .i64 q.bf.fw,.int .i64 q.bc]]:=by rw[List.map_append];rfl
theorem vG (L:List aa) (q:aa):(L++[q]).length=L.length+1:=by rw[List.length_append];rfl
theorem Ot (l:List aa) (hl:l.length<=1048576) (p:aq) (t:Int) (n0:Nat):Call Tryz.prog 118 [.er [.sl (l.map ab)],.agg (ah p),.int .i64 t] ⟨fun _=>none,n0⟩ (TR n0 (jq l ⟨p,t⟩)):=by
 refine fV fW rfl fun jd=>?_
 clear jd
 obtain⟨q,hq⟩:∃q:aa,q=⟨p,t⟩:=⟨_,rfl⟩
 (try((repeat(revert N;apply Pn.out));refine wk @ah.eq_1 ?_;(repeat(apply Pn.mk;intro N hN))))
 refine cm (fun n env st=>∃i:Nat,n=(l.length)-i/\i<=(l.length)/\env 9=.int .i64 (i:Int)/\env 8=.bool (yG q (l.take i))/\st.get ⟨118000000,n0⟩=some ⟨true,2,[ah p]⟩/\st.get ⟨118000001,n0⟩=some ⟨true,1,[[.cr]]⟩/\(n0+2<=st.next/\∃v,st.get ⟨118001001,n0+1⟩=some ⟨true,1,[[v]]⟩/\GrO (n0+2) (kf q (l.take i)) v st.get st.next)) (l.length) ⟨0,ad,ad,sl @ah.eq_1,sl @ah.eq_1,sl @ah.eq_1,sl @ah.eq_1,by(try dsimp only);exact⟨ad,.cr,sd @Nat.zero_add,.inl ⟨rfl,rfl⟩⟩⟩ ?_
 rintro n_a env_a st_a ⟨i,rfl,ale,a9,a8,ag0,ag1,oI⟩ eJ
 have a0:=eJ 0 (by kernel_rfl);have a2:=eJ 2 (by kernel_rfl);have a4:=eJ 4 (by kernel_rfl);have a6:=eJ 6 (by kernel_rfl);have a7:=eJ 7 (by kernel_rfl)
 simp only[go_sem, ↓reduceIte,Nat.reduceEqDiff,Nat.reduceAdd,Nat.reduceSub,Nat.reduceLeDiff,reduceCtorEq,ah]at a0 a2 a4 a6 a7
 clear eJ
 obtain⟨an,v,av,aG⟩:=oI
 have vA:=dp (i:=⟨118000000,n0⟩) (n:=st_a.next) bp
 have vB:=dp (i:=⟨118000001,n0⟩) (n:=st_a.next) bp
 have vC:=dp (i:=⟨118001001,n0+1⟩) (n:=st_a.next) bp
 have Q6:=LI q (l.take i)
 rw[List.length_take]at Q6
 by_cases hi:(i:Int)<(l.length:Int)
 ·have eh:∀{e:Env} {gg:Rows} {nx:Nat},(e 9=.int .i64 (IntKind.i64.wrap ((i:Int)+1)))->(e 8=.bool (yG q (l.take (i+1))))->(gg ⟨118000000,n0⟩=some ⟨true,2,[ah p]⟩)->(gg ⟨118000001,n0⟩=some ⟨true,1,[[.cr]]⟩)->(n0+2<=nx/\∃v,gg ⟨118001001,n0+1⟩=some ⟨true,1,[[v]]⟩/\GrO (n0+2) (kf q (l.take (i+1))) v gg nx)->∃m0,m0<(l.length)-i/\∃i:Nat,m0=(l.length)-i/\i<=(l.length)/\e 9=.int .i64 (i:Int)/\e 8=.bool (yG q (l.take i))/\gg ⟨118000000,n0⟩=some ⟨true,2,[ah p]⟩/\gg ⟨118000001,n0⟩=some ⟨true,1,[[.cr]]⟩/\(n0+2<=nx/\∃v,gg ⟨118001001,n0+1⟩=some ⟨true,1,[[v]]⟩/\GrO (n0+2) (kf q (l.take i)) v gg nx):=fun x1 x2 x3 x4 x5=>⟨_,ad,i+1,rfl,ad,(by rw[x1,aX ad]),x2,x3,x4,x5⟩
  have gS:i<l.length:=ad
  have jZ:=gK gS
  have eP:=nY p (bh l i).bf
  have ox:=wh gS
  have hqa:jN q.bf (bh l i).bf=jN p (bh l i).bf:=by rw[hq]
  have gy:(l.map ab).length=l.length:=by simp
  have K3:=zR q (l.take i) (bh l i)
  rw[<-ox,hqa]at K3
  rw[ah,ah]at eP
  by_cases hc:yG q (l.take i)=true∨jN p (bh l i).bf=false
  ·have nP:=OQ (q:=q) (y:=bh l i) (l:=l.take i) (by rw[hqa];exact hc)
   rw[<-ox]at nP
   generalize kf q (l.take i)=L at aG nP Q6
   have tR:=vG L (bh l i)
   have np:=Gs L (bh l i)
   have oi:yG q (l.take (i+1))=yG q (l.take i):=by
    rw[K3]
    rcases hc with h|h<;>rw[h]<;>simp
   rcases aG with⟨hL,rfl⟩|⟨o,rfl,ao,SP,M3⟩
   ·subst hL
    cases hd:yG q (l.take i)
    ·have h2:jN p (bh l i).bf=false:=by rcases hc with h|h;rw[hd]at h;cases h;exact h
     rw[h2]at eP
     rw[hd]at a8 oi
     (have zF:=tw @a9 (tw @a8 (tw @ag0 (tw @ag1 (tw @a0 (tw @a2 (tw @a4 (tw @a6 (tw @a7 (tw @hi (tw @jZ (tw @vA (tw @vB (tw @vC (tw @av (tw @gy (tw @ah.eq_1 @ab.eq_1))))))))))))))));(repeat(first|((repeat(revert N;apply Pn.out));refine wk zF ?_;(repeat(apply Pn.mk;intro N hN)))|((try apply Or.inl);refine⟨_,ax.x (eP) (sd zF),?_⟩;apply hN;clear hN N)));try clear zF)
     refine eh ?_ ?_ ?_ ?_ (by(try dsimp only);exact⟨ad,_,sl @Nat.zero_add,.inr ⟨⟨118009010,st_a.next+1+1⟩,by rw[nP,tR]<;>(simp only[go_sem, ↓reduceIte,Nat.reduceEqDiff,Nat.reduceAdd,Nat.reduceSub,Nat.reduceLeDiff,reduceCtorEq]<;>rfl),by rw[nP,np]<;>(simp only[go_sem, ↓reduceIte,Nat.reduceEqDiff,Nat.reduceAdd,Nat.reduceSub,Nat.reduceLeDiff,reduceCtorEq]<;>rfl),bp,bp⟩⟩)
     all_goals simp only[go_sem, ↓reduceIte,Nat.reduceEqDiff,Nat.reduceAdd,Nat.reduceSub,Nat.reduceLeDiff,reduceCtorEq,a9,a8,ag0,ag1,a0,a2,a4,a6,a7,oi,vA,vB,vC,ah]
    ·rw[hd]at a8 oi
     (try((repeat(revert N;apply Pn.out));refine wk (tw @a9 (tw @a8 (tw @ag0 (tw @ag1 (tw @a0 (tw @a2 (tw @a4 (tw @a6 (tw @a7 (tw @hi (tw @jZ (tw @vA (tw @vB (tw @vC (tw @av (tw @gy (tw @ah.eq_1 @ab.eq_1))))))))))))))))) ?_;(repeat(apply Pn.mk;intro N hN))))
     refine eh ?_ ?_ ?_ ?_ (by(try dsimp only);exact⟨ad,_,sl @Nat.zero_add,.inr ⟨⟨118009010,st_a.next+1+1⟩,by rw[nP,tR]<;>(simp only[go_sem, ↓reduceIte,Nat.reduceEqDiff,Nat.reduceAdd,Nat.reduceSub,Nat.reduceLeDiff,reduceCtorEq]<;>rfl),by rw[nP,np]<;>(simp only[go_sem, ↓reduceIte,Nat.reduceEqDiff,Nat.reduceAdd,Nat.reduceSub,Nat.reduceLeDiff,reduceCtorEq]<;>rfl),bp,bp⟩⟩)
     all_goals simp only[go_sem, ↓reduceIte,Nat.reduceEqDiff,Nat.reduceAdd,Nat.reduceSub,Nat.reduceLeDiff,reduceCtorEq,a9,a8,ag0,ag1,a0,a2,a4,a6,a7,oi,vA,vB,vC,ah]
   ·have vo:=dp M3
    have oA:=ei (a:=⟨118000000,n0⟩) (b:=o) bp
    have oB:=ei (a:=⟨118000001,n0⟩) (b:=o) bp
    have oC:=ei (a:=⟨118001001,n0+1⟩) (b:=o) bp
    have S4:(L.map ab).length=L.length:=by simp
    have lV:L.length<=16777215:=ad
    cases hd:yG q (l.take i)
    ·have h2:jN p (bh l i).bf=false:=by rcases hc with h|h;rw[hd]at h;cases h;exact h
     rw[h2]at eP
     rw[hd]at a8 oi
     (have zF:=tw @a9 (tw @a8 (tw @ag0 (tw @ag1 (tw @a0 (tw @a2 (tw @a4 (tw @a6 (tw @a7 (tw @hi (tw @jZ (tw @vA (tw @vB (tw @vC (tw @vo (tw @oA (tw @oB (tw @oC (tw @ao (tw @av (tw @gy (tw @S4 (tw @lV (tw @ah.eq_1 @ab.eq_1)))))))))))))))))))))));(repeat(first|((repeat(revert N;apply Pn.out));refine wk zF ?_;(repeat(apply Pn.mk;intro N hN)))|((try apply Or.inl);refine⟨_,ax.x (eP) (sd zF),?_⟩;apply hN;clear hN N)));try clear zF)
     refine eh ?_ ?_ ?_ ?_ (by(try dsimp only);exact⟨ad,_,sl @Nat.zero_add,.inr ⟨⟨118009010,st_a.next+1+1⟩,by rw[nP,tR]<;>(simp only[go_sem, ↓reduceIte,Nat.reduceEqDiff,Nat.reduceAdd,Nat.reduceSub,Nat.reduceLeDiff,reduceCtorEq]<;>rfl),by rw[nP,np]<;>(simp only[go_sem, ↓reduceIte,Nat.reduceEqDiff,Nat.reduceAdd,Nat.reduceSub,Nat.reduceLeDiff,reduceCtorEq]<;>rfl),bp,bp⟩⟩)
     all_goals simp only[go_sem, ↓reduceIte,Nat.reduceEqDiff,Nat.reduceAdd,Nat.reduceSub,Nat.reduceLeDiff,reduceCtorEq,a9,a8,ag0,ag1,a0,a2,a4,a6,a7,oi,vA,vB,vC,oA,oB,oC,ah]
    ·rw[hd]at a8 oi
     (try((repeat(revert N;apply Pn.out));refine wk (tw @a9 (tw @a8 (tw @ag0 (tw @ag1 (tw @a0 (tw @a2 (tw @a4 (tw @a6 (tw @a7 (tw @hi (tw @jZ (tw @vA (tw @vB (tw @vC (tw @vo (tw @oA (tw @oB (tw @oC (tw @ao (tw @av (tw @gy (tw @S4 (tw @lV (tw @ah.eq_1 @ab.eq_1)))))))))))))))))))))))) ?_;(repeat(apply Pn.mk;intro N hN))))
     refine eh ?_ ?_ ?_ ?_ (by(try dsimp only);exact⟨ad,_,sl @Nat.zero_add,.inr ⟨⟨118009010,st_a.next+1+1⟩,by rw[nP,tR]<;>(simp only[go_sem, ↓reduceIte,Nat.reduceEqDiff,Nat.reduceAdd,Nat.reduceSub,Nat.reduceLeDiff,reduceCtorEq]<;>rfl),by rw[nP,np]<;>(simp only[go_sem, ↓reduceIte,Nat.reduceEqDiff,Nat.reduceAdd,Nat.reduceSub,Nat.reduceLeDiff,reduceCtorEq]<;>rfl),bp,bp⟩⟩)
     all_goals simp only[go_sem, ↓reduceIte,Nat.reduceEqDiff,Nat.reduceAdd,Nat.reduceSub,Nat.reduceLeDiff,reduceCtorEq,a9,a8,ag0,ag1,a0,a2,a4,a6,a7,oi,vA,vB,vC,oA,oB,oC,ah]
  ·have hd:yG q (l.take i)=false:=by
    cases h:yG q (l.take i)
    ·rfl
    ·exact absurd (.inl h) hc
   have h2:jN p (bh l i).bf=true:=by
    cases h:jN p (bh l i).bf
    ·exact absurd (.inr h) hc
    ·rfl
   have nP:=OP (q:=q) (y:=bh l i) hd (by rw[hqa];exact h2)
   rw[<-ox]at nP
   have oi:yG q (l.take (i+1))=true:=by rw[K3,h2];simp
   rw[hd]at a8
   rw[h2]at eP
   have hqc:ab q=[.int .i64 p.fE,.int .i64 p.fw,.int .i64 t]:=by rw[hq];rfl
   generalize kf q (l.take i)=L at aG nP Q6
   have tR:=vG (L++[q]) (bh l i)
   have np:=Gs (L++[q]) (bh l i)
   have hnl2:=vG L q
   have NZ:(L++[q]).map ab=L.map ab++[[.int .i64 p.fE,.int .i64 p.fw,.int .i64 t]]:=by rw[List.map_append,List.map_singleton,hqc]
   rw[hnl2]at tR
   rw[NZ]at np
   rcases aG with⟨hL,rfl⟩|⟨o,rfl,ao,SP,M3⟩
   ·subst hL
    (have zF:=tw @a9 (tw @a8 (tw @ag0 (tw @ag1 (tw @a0 (tw @a2 (tw @a4 (tw @a6 (tw @a7 (tw @hi (tw @jZ (tw @vA (tw @vB (tw @vC (tw @av (tw @gy (tw @ah.eq_1 @ab.eq_1))))))))))))))));(repeat(first|((repeat(revert N;apply Pn.out));refine wk zF ?_;(repeat(apply Pn.mk;intro N hN)))|((try apply Or.inl);refine⟨_,ax.x (eP) (sd zF),?_⟩;apply hN;clear hN N)));try clear zF)
    refine eh ?_ ?_ ?_ ?_ (by(try dsimp only);exact⟨ad,_,sl @Nat.zero_add,.inr ⟨⟨118009010,st_a.next+1+1+1+1⟩,by rw[nP,tR]<;>(simp only[go_sem, ↓reduceIte,Nat.reduceEqDiff,Nat.reduceAdd,Nat.reduceSub,Nat.reduceLeDiff,reduceCtorEq]<;>rfl),by rw[nP,np]<;>(simp only[go_sem, ↓reduceIte,Nat.reduceEqDiff,Nat.reduceAdd,Nat.reduceSub,Nat.reduceLeDiff,reduceCtorEq]<;>rfl),bp,bp⟩⟩)
    all_goals simp only[go_sem, ↓reduceIte,Nat.reduceEqDiff,Nat.reduceAdd,Nat.reduceSub,Nat.reduceLeDiff,reduceCtorEq,a9,a8,ag0,ag1,a0,a2,a4,a6,a7,oi,vA,vB,vC,ah]
   ·have vo:=dp M3
    have oA:=ei (a:=⟨118000000,n0⟩) (b:=o) bp
    have oB:=ei (a:=⟨118000001,n0⟩) (b:=o) bp
    have oC:=ei (a:=⟨118001001,n0+1⟩) (b:=o) bp
    have S4:(L.map ab).length=L.length:=by simp
    have lV:L.length<=16777214:=ad
    have YG:L.length<=16777215:=ad
    (have zF:=tw @a9 (tw @a8 (tw @ag0 (tw @ag1 (tw @a0 (tw @a2 (tw @a4 (tw @a6 (tw @a7 (tw @hi (tw @jZ (tw @vA (tw @vB (tw @vC (tw @vo (tw @oA (tw @oB (tw @oC (tw @ao (tw @av (tw @gy (tw @S4 (tw @lV (tw @YG (tw @ah.eq_1 @ab.eq_1))))))))))))))))))))))));(repeat(first|((repeat(revert N;apply Pn.out));refine wk zF ?_;(repeat(apply Pn.mk;intro N hN)))|((try apply Or.inl);refine⟨_,ax.x (eP) (sd zF),?_⟩;apply hN;clear hN N)));try clear zF)
    refine eh ?_ ?_ ?_ ?_ (by(try dsimp only);exact⟨ad,_,sl @Nat.zero_add,.inr ⟨⟨118009010,st_a.next+1+1+1+1⟩,by rw[nP,tR]<;>(simp only[go_sem, ↓reduceIte,Nat.reduceEqDiff,Nat.reduceAdd,Nat.reduceSub,Nat.reduceLeDiff,reduceCtorEq]<;>rfl),by rw[nP,np]<;>(simp only[go_sem, ↓reduceIte,Nat.reduceEqDiff,Nat.reduceAdd,Nat.reduceSub,Nat.reduceLeDiff,reduceCtorEq]<;>rfl),bp,bp⟩⟩)
    all_goals simp only[go_sem, ↓reduceIte,Nat.reduceEqDiff,Nat.reduceAdd,Nat.reduceSub,Nat.reduceLeDiff,reduceCtorEq,a9,a8,ag0,ag1,a0,a2,a4,a6,a7,oi,vA,vB,vC,oA,oB,oC,ah]
 ·have oj:i=l.length:=ad
  subst oj
  rw[List.take_length]at a8 aG Q6
  cases hd:yG q l
  ·rw[hd]at a8
   have nP:jq l ⟨p,t⟩=kf q l++[q]:=by rw[<-hq,GJ hd,kf,hd];simp
   have hqc:ab q=[.int .i64 p.fE,.int .i64 p.fw,.int .i64 t]:=by rw[hq];rfl
   generalize kf q l=L at aG Q6 nP
   have tR:=vG L q
   have np:(L++[q]).map ab=L.map ab++[[.int .i64 p.fE,.int .i64 p.fw,.int .i64 t]]:=by rw[List.map_append,List.map_singleton,hqc]
   rcases aG with⟨hL,rfl⟩|⟨o,rfl,ao,SP,M3⟩
   ·subst hL
    (try((repeat(revert N;apply Pn.out));refine wk (tw @a9 (tw @a8 (tw @ag0 (tw @ag1 (tw @a0 (tw @a2 (tw @a4 (tw @a6 (tw @a7 (tw @hi (tw @vA (tw @vB (tw @vC (tw @av (tw @ah.eq_1 @ab.eq_1))))))))))))))) ?_;(repeat(apply Pn.mk;intro N hN))))
    exact fc (.inl rfl) (vs:=[.agg [.own ⟨118011006,st_a.next+1+1⟩ 0 1]]) (sd (tw @a9 (tw @a8 (tw @ag0 (tw @ag1 (tw @a0 (tw @a2 (tw @a4 (tw @a6 (tw @a7 @vB)))))))))) ⟨⟨118011006,st_a.next+1+1⟩,by rw[nP];rfl,by rw[nP];simp only[go_sem, ↓reduceIte,Nat.reduceEqDiff,Nat.reduceAdd,Nat.reduceSub,Nat.reduceLeDiff,reduceCtorEq,vB];rw[hqc],bp,bp⟩
   ·have vo:=dp M3
    have oA:=ei (a:=⟨118000000,n0⟩) (b:=o) bp
    have oB:=ei (a:=⟨118000001,n0⟩) (b:=o) bp
    have oC:=ei (a:=⟨118001001,n0+1⟩) (b:=o) bp
    have S4:(L.map ab).length=L.length:=by simp
    have lV:L.length<=16777215:=ad
    (try((repeat(revert N;apply Pn.out));refine wk (tw @a9 (tw @a8 (tw @ag0 (tw @ag1 (tw @a0 (tw @a2 (tw @a4 (tw @a6 (tw @a7 (tw @hi (tw @vA (tw @vB (tw @vC (tw @vo (tw @oA (tw @oB (tw @oC (tw @ao (tw @av (tw @S4 (tw @lV (tw @ah.eq_1 @ab.eq_1)))))))))))))))))))))) ?_;(repeat(apply Pn.mk;intro N hN))))
    exact fc (.inl rfl) (vs:=[.agg [.own ⟨118011006,st_a.next+1+1⟩ 0 (L.length+1)]]) (sd (tw @a9 (tw @a8 (tw @ag0 (tw @ag1 (tw @a0 (tw @a2 (tw @a4 (tw @a6 (tw @a7 @vB)))))))))) ⟨⟨118011006,st_a.next+1+1⟩,by rw[nP,tR];rfl,by rw[nP,np];simp only[go_sem, ↓reduceIte,Nat.reduceEqDiff,Nat.reduceAdd,Nat.reduceSub,Nat.reduceLeDiff,reduceCtorEq,vB],bp,bp⟩
  ·rw[hd]at a8
   have nP:jq l ⟨p,t⟩=kf q l:=by rw[<-hq,kf,hd];simp
   have lX:0<(kf q l).length:=by rw[<-nP,pg];omega
   generalize kf q l=L at aG Q6 lX nP
   rcases aG with⟨hL,rfl⟩|⟨o,rfl,ao,SP,M3⟩
   ·subst hL;cases lX
   ·have vo:=dp M3
    have oB:=ei (a:=⟨118000001,n0⟩) (b:=o) bp
    (try((repeat(revert N;apply Pn.out));refine wk (tw @a9 (tw @a8 (tw @ag0 (tw @ag1 (tw @a0 (tw @a2 (tw @a4 (tw @a6 (tw @a7 (tw @hi (tw @vA (tw @vB (tw @vC (tw @vo (tw @ao (tw @av (tw @ah.eq_1 @ab.eq_1))))))))))))))))) ?_;(repeat(apply Pn.mk;intro N hN))))
    exact fc (.inl rfl) (vs:=[.agg [.own o 0 L.length]]) (sd (tw @a9 (tw @a8 (tw @ag0 (tw @ag1 (tw @a0 (tw @a2 (tw @a4 (tw @a6 (tw @a7 @vB)))))))))) ⟨o,by rw[nP];rfl,by rw[nP];simp only[go_sem, ↓reduceIte,Nat.reduceEqDiff,Nat.reduceAdd,Nat.reduceSub,Nat.reduceLeDiff,reduceCtorEq,vB,oB,ao],bp,bp⟩
theorem J6 {g:Rows} {X o:Id} {L:List aa} (hX:g X=some ⟨true,1,[[.own o 0 L.length]]⟩) (ho:g o=some ⟨true,3,L.map ab⟩):fz (ez g) 6 (.ptr X 0 0)=some (.er [.sl (L.map ab)]):=by
 have h1:fz (ez g) 5 (.own o 0 L.length)=some (.sl (L.map ab)):=gm (e:=ab) (sz:=3) (by simp[ez,ho]) rfl fun x=>by simp[ab,aj,ar,aJ]
 exact tM (n:=5) (sz:=1) (rows:=[[.own o 0 L.length]]) (cs:=[.own o 0 L.length]) (by simp[ez,hX]) rfl (by simp[aj,ar,h1])
def InL (X:Id) (st:tu) (e7:AV) (g:Rows) (n:Nat):Prop:=∃o u:Id,g X=some ⟨true,1,[[.own o 0 st.2.length]]⟩/\g o=some ⟨true,3,st.2.map ab⟩/\e7=.own u 0 st.1.length/\g u=some ⟨true,3,st.1.map ab⟩/\o.bt<u.bt/\X.bt<u.bt/\u.bt<n/\o≠X
end Go.Proofs.YtoodopepphhpoaaGreatDoor.V

namespace Go.Proofs.YtoodopepphhpoaaGreatDoor.V
open Go.RowKit Go.Shelf Go.Lib Go.Sort
instance:Inhabited aq:=⟨⟨0,0⟩⟩
variable {P:Program} {w:World} {D:Nat->Prop} {ι:Names}
theorem vQ {vs:Array Value} (h:gI P w D ι [] vs):vs= #[]:=Array.eq_empty_of_size_eq_zero h.1
theorem kj {a:AV} {r:List AV} {vs:Array Value} (h:gI P w D ι (a::r) vs):∃u us,vs=(u::us).toArray/\dZ P w D ι a u/\gI P w D ι r us.toArray:=by
 obtain⟨h1,h2⟩:=h
 obtain⟨l⟩:=vs
 cases l with
 |nil=>simp at h1
 |cons u us=>
  obtain⟨u',hu,hr⟩:=h2 0 a rfl
  simp at hu;subst hu
  exact⟨u,us,rfl,hr,by simpa using h1,fun j b hj=>by
   obtain⟨v,hv,om⟩:=h2 (j+1) b (by simpa using hj)
   exact⟨v,by simpa using hv,om⟩⟩
def SM:Prop:=∀(wE off cap:Nat) (d:Array aq) (w:World),HoldsK iu 2 w wE off d->wE<w.heap.size->d.size<4611686018427387904->
 Calls Tryz.prog 156 #[.slice (some ⟨wE,off,none⟩) d.size cap,.func (.func 141) #[] #[]] w fun e w'=>e=.returned (.tuple #[])/\∃d' n os,PermIn 0 d.size d d'/\SortedIn (ltOf qV) 0 d.size d'/\w'=sortWorldK iu 2 w wE off n d' os
def SN:Prop:=∀(p:Option Addr) (cap:Nat) (fv:Value) (w:World),Calls Tryz.prog 156 #[.slice p 0 cap,fv] w fun e w'=>e=.returned (.tuple #[])/\w'=w
theorem QH (p:aq) (j:Nat) (a:AV) (h:(ah p)[j]? =some a) (P:Program) (w:World) (D:Nat->Prop) (ι:Names):dZ P w D ι a (iu p)[j]! :=by
 match j,h with
 |0,h=>simp[ah]at h;subst h;exact .fq _ _ (.int _ _)
 |1,h=>simp[ah]at h;subst h;exact .fq _ _ (.int _ _)
 |j+2,h=>simp[ah]at h
theorem LY (hC:SM) (hN:SN) (ps:List aq) (hlen:ps.length<=1048576) (σ:aw) (id:Id) (hg:σ.get id=some ⟨true,2,ps.map ah⟩):
  Call Tryz.prog 156 [.own id 0 ps.length,.fn 141 []] σ fun r σ'=>σ'.next=σ.next/\(∀x,x≠id->σ'.get x=σ.get x)/\∃qs,σ'.get id=some ⟨true,2,qs.map ah⟩/\qs.length=ps.length/\(∀x,x∈qs↔x∈ps)/\∀i j:Nat,i<j->j<qs.length->jN (kD qs j) (kD qs i)=false:=by
 refine fH fun hs D ι w vs S U A=>?_
 obtain⟨u1,us1,rfl,h1,h2⟩:=kj A
 obtain⟨u2,us2,h3,h4,h5⟩:=kj h2
 simp at h3;subst h3
 have:=vQ h5
 simp at this;subst this
 obtain⟨o,cap,B,rfl,hB,FO,ho,xg,hmax,hk⟩:=jH h1
 obtain⟨vs',gf,rfl,_,hz,_,_⟩:=xC h4
 have hz':vs'= #[]:=Array.eq_empty_of_size_eq_zero (by simpa using hz)
 subst hz'
 by_cases h0:ps=[]
 ·subst h0
  refine(hN _ _ _ w).mono ?_
  rintro e w' ⟨rfl,rfl⟩
  exact⟨.fX [],σ.get,σ.next,D,ι,_,rfl,⟨rfl,fun _ _=>rfl,[],hg,rfl,fun x=>Iff.rfl,fun i j _ hj=>by simp at hj⟩,Step.refl _ _ _ _,S,U,Nat.le_refl _,.fX [] #[] (fun _=>Go.undef) rfl (fun j hj=>by simp at hj) (fun j a h=>by simp at h)⟩
 have lX:0<ps.length:=List.length_pos_iff.2 h0
 obtain⟨B',eE,R,kN,qm⟩:=S.row id _ hg
 rw[hB]at eE;injection eE with eE;subst eE
 replace R:=R.row hk
 have eY:B.sz=2:=R.sz
 have EN:o=0:=by rcases ho with h|h<;>omega
 subst EN
 obtain⟨cur,T,hblk,eD,pb⟩:=R.cur
 have Ac:ps.length*2<=B.C:=by simpa using R.fits
 have hH:HoldsK iu 2 w B.b 0 ps.toArray:=by
  intro t ht
  rw[size_flatK]at ht
  have Zy:t<ps.length*2:=by simpa using ht
  have hi:t / 2<ps.length:=ad
  have NT:w.frozen? ⟨B.b,0+t,none⟩=false:=by
   simp only[World.frozen?,hblk];simp
  refine⟨?_,NT⟩
  rw[get_flatK _ _ _ _ ht]
  have hd:(ps.toArray)[t / 2]! =ps[t / 2]:=by simp[getElem!_pos,hi]
  rw[hd]
  have hj:t % 2=0∨t % 2=1:=ad
  have ht3:0+t=(t / 2)*2+t % 2:=ad
  rw[ht3]
  rcases hj with hj|hj
  ·obtain⟨v,hv,hr⟩:=R.at_ (t / 2) 0 (ah ps[t / 2]) _ (by simp[hi]) rfl
   rw[ev hr]at hv
   rw[hj];exact hv
  ·obtain⟨v,hv,hr⟩:=R.at_ (t / 2) 1 (ah ps[t / 2]) _ (by simp[hi]) rfl
   rw[ev hr]at hv
   rw[hj];exact hv
 have kq:B.b<w.heap.size:=(Array.getElem?_eq_some_iff.1 hblk).1
 have NN:=hC B.b 0 cap ps.toArray w hH kq (by simp;omega)
 rw[show ps.toArray.size=ps.length from by simp]at NN
 refine NN.mono ?_
 rintro e w' ⟨rfl,d',m,os,⟨Ai,_,tj⟩,hsort,rfl⟩
 have DI:d'.size=ps.length:=by rw[Ai];simp
 have XN:d'.toList.length=ps.length:=by simpa using DI
 have hP:d'.toList.Perm ps:=by
  have e1:d'.extract 0 ps.length=d':=by rw[<-DI];exact Array.extract_size
  have e2:ps.toArray.extract 0 ps.length=ps.toArray:=by
   have:ps.length=ps.toArray.size:=by simp
   rw[this];exact Array.extract_size
  rw[e1,e2]at tj
  simpa using tj
 have hF:∀t,t<ps.length*2->(flatK iu 2 d')[t]! =(iu d'[t / 2]!)[t % 2]! :=fun t ht=>get_flatK _ _ _ _ (by rw[DI];exact ht)
 have YD:(flatK iu 2 d').size=ps.length*2:=by rw[size_flatK,DI]
 have hw:sortWorldK iu 2 w B.b 0 m d' os=Go.Sort.grow (Go.Sort.putRow (fun v:Value=>v) (Go.Sort.ahead w m) B.b 0 (flatK iu 2 d')) os:=rfl
 rw[hw]
 clear hw hH
 generalize flatK iu 2 d'=Fl at hF YD ⊢
 have s4:=S.put (r':=⟨true,2,d'.toList.map ah⟩) (cur':=Go.Sort.putCells (fun v:Value=>v) 0 Fl cur) hg rfl hB hblk (by simp[Go.Sort.putCells]) rfl rfl (by simpa[DI]using Ac) (fun cs eD=>by
   obtain⟨x,_,rfl⟩:=List.mem_map.1 eD;rfl) (fun cs eD a ha=>by
   obtain⟨x,_,rfl⟩:=List.mem_map.1 eD
   simp[ah]at ha;rcases ha with rfl|rfl<;>rfl) (fun i j cs a hi hj=>by
   have th:i<d'.toList.length:=by
    have:=(List.getElem?_eq_some_iff.1 hi).1
    simpa using this
   have QY:j<2:=by
    have:=List.mem_of_getElem? hi
    obtain⟨x,_,rfl⟩:=List.mem_map.1 this
    exact(List.getElem?_eq_some_iff.1 hj).1
   have UW:cs=ah d'[i]! :=by
    rw[List.getElem?_map,List.getElem?_eq_getElem th]at hi
    simp at hi
    rw[<-hi,getElem!_pos d' i (by simpa using th)]
   subst UW
   have Hh:i*2+j<ps.length*2:=ad
   refine⟨(iu d'[i]!)[j]!,?_,QH _ _ _ hj _ _ _ _⟩
   have oR:i*2+j<cur.size:=by rw[eD];omega
   show(Go.Sort.putCells (fun v:Value=>v) 0 Fl cur)[i*2+j]? = _
   simp only[Go.Sort.putCells,Array.getElem?_mapIdx,Array.getElem?_eq_getElem oR,Option.map_some]
   rw[if_pos ⟨Nat.zero_le _,by rw[YD];omega⟩,Nat.sub_zero,hF _ Hh,show(i*2+j) / 2=i from by omega,show(i*2+j) % 2=j from by omega])
 obtain⟨S1,uG⟩:=s4
 have iV:(Go.Sort.putRow (fun v:Value=>v) (Go.Sort.ahead w m) B.b 0 Fl).heap.size=w.heap.size:=by simp
 have FT:∀k,k<(w.setRow B.b (Go.Sort.putCells (fun v:Value=>v) 0 Fl cur)).heap.size->(Go.Sort.grow (Go.Sort.putRow (fun v:Value=>v) (Go.Sort.ahead w m) B.b 0 Fl) os).heap[k]? =(w.setRow B.b (Go.Sort.putCells (fun v:Value=>v) 0 Fl cur)).heap[k]? :=fun k hk=>by
  have Hf:k<w.heap.size:=by simpa using hk
  rw[heap_grow_old _ _ (by rw[iV];exact Hf)]
  simp only[Go.Sort.putRow,Go.Sort.mapBlock,heap_ahead,Array.getElem?_modify]
  by_cases U9:B.b=k
  ·subst U9
   rw[setRow_heap w B.b cur _ T _ hblk,if_pos rfl,hblk];rfl
  ·rw[if_neg U9,setRow_other w B.b k _ (fun h=>U9 h.symm)]
 have qH:(w.setRow B.b (Go.Sort.putCells (fun v:Value=>v) 0 Fl cur)).heap.size<=(Go.Sort.grow (Go.Sort.putRow (fun v:Value=>v) (Go.Sort.ahead w m) B.b 0 Fl) os).heap.size:=by
  rw[size_grow,iV];simp
 have S2:=S1.stay (D':=D) (ι':=ι) FT qH (fun _ h=>h) (fun b hb=>Nat.lt_of_lt_of_le (S1.dead b hb) qH) (fun _ h=>.inl h) (fun _ _ h=>h)
 have Qn:=uG.trans (Step.stay (D':=D) (ι':=ι) S1 FT qH (by simp[Go.Sort.grow,Go.Sort.putRow,Go.Sort.mapBlock,Go.Sort.ahead]) (by simp[Go.Sort.grow,Go.Sort.putRow,Go.Sort.mapBlock,Go.Sort.ahead]) (by simp[Go.Sort.grow,Go.Sort.putRow,Go.Sort.mapBlock,Go.Sort.ahead]) (fun _ h=>h) (fun _ h=>.inl h) (fun _ _ h=>h))
 refine⟨.fX [],ck σ.get id ⟨true,2,d'.toList.map ah⟩,σ.next,D,ι,_,rfl,⟨rfl,fun x hx=>by simp[ck,hx],d'.toList,by simp[ck],XN,fun x=>hP.mem_iff,fun i j Ct hj=>?_⟩,Qn,S2,U,Nat.le_refl _,.fX [] #[] (fun _=>Go.undef) rfl (fun j hj=>by simp at hj) (fun j a h=>by simp at h)⟩
 have h:=hsort i j (Nat.zero_le _) Ct ad
 rw[ltOf,n9]at h
 have e1:d'[j]! =kD d'.toList j:=by rw[lH hj,getElem!_pos d' j (by simpa using hj)];rfl
 have hi:i<d'.toList.length:=ad
 have e2:d'[i]! =kD d'.toList i:=by rw[lH hi,getElem!_pos d' i (by simpa using hi)];rfl
 rw[<-e1,<-e2];exact h
end Go.Proofs.YtoodopepphhpoaaGreatDoor.V
