/- The reference's greatest flow, its cut, and the weakest of cuts. -/
import Derived.Test.YtiabgllilcfheaaGreatCmC
import Derived.Test.YtiabgllilcfheaaGreatCmB
import Derived.Test.YtiabgllilcfheaaGreatChecked
import Derived.Shelf.SlSortCmp.WholeK
import Derived.Shelf.SlSortCmp.NoneTotal
import Derived.Ground.SlsfProg
import Derived.Test.YtiabgllilcfheaaGreatProg
import Derived.Maps.RangeRun
set_option linter.unusedVariables false
set_option linter.unusedSimpArgs false
set_option maxRecDepth 100000
set_option maxHeartbeats 16000000
namespace Go.Proofs.YtiabgllilcfheaaGreat.V
open Go.RowKit
attribute [local irreducible] er wpOps fY Call
attribute [local go_sem] aF fC eR fN fK du upd cw K.av cQ AV.cells AV.cell rowOf rowsOf part ld rowAt bK cq dH dX gG bP dd eh fJ fa dw ea db da dM dP bV bd cU bU cW cV dV eb dZ cR bY dc dY bQ aD cY cF gF bD cL bW aY dn bj dI AV.undef bH bJ dQ dW dL dK cK ef eo cz ee ec cX cZ List.getD_cons_zero List.getD_cons_succ List.getD_nil List.all_cons List.all_nil Bool.and_true Bool.true_and Bool.and_self Bool.not_true Bool.not_false Option.map_some Option.map_none Option.bind_some Option.bind_none List.length_cons List.length_nil List.take_succ_cons List.take_zero List.take_nil List.drop_succ_cons List.drop_zero List.drop_nil List.head?_cons List.map_cons List.map_nil List.getElem?_cons_zero List.getElem?_cons_succ List.cons_append List.nil_append List.append_nil List.length_map List.set_cons_zero List.set_cons_succ Nat.reduceMul eq_self Int.toNat_natCast Int.natCast_nonneg and_self true_and and_true decide_true decide_false Bool.false_eq_true Nat.zero_add Nat.add_zero List.contains_cons List.contains_nil Bool.or_false Bool.false_or beq_self_eq_true Nat.reduceBEq ne_eq not_true_eq_false not_false_eq_true Id.mk.injEq false_and and_false Nat.reduceLT Int.reduceLE Int.reduceLT Int.reduceToNat Int.reduceNeg Int.reduceAdd Nat.le_refl List.length_append beq_true beq_false Bool.not_eq_eq_eq_not or_false false_or eu ai aj aP bh bZ cm aW bx aK bf cP bI
def nF (P:Program) (f:Nat) (args:List AV) (R:AV->Prop):Prop:=∀σ:ax,Call P f args ⟨V.ro σ.get,σ.next⟩ fun r0 σ'=>∃r',V.fz σ'.get 6 r0=some r'/\R r'
theorem FY {P:Program} {f:Nat} {args:List AV} {g:Rows} {n:Nat} {R:AV->Prop} (h:Sound P f args ⟨V.ro g,n⟩ fun r0 σ'=>∃r',V.fz σ'.get 6 r0=some r'/\R r'):Sound P f args ⟨g,n⟩ fun r σ'=>R r/\σ'=⟨g,n⟩:=by
 intro hs D ι w vs S U A
 refine(Dh (g0:=g) (K:=R) h (fun _ _ h=>h) S U A).mono ?_
 rintro e w' ⟨r,D',u,rfl,hR,T,S',hr⟩
 exact⟨r,g,n,D',ι,u,rfl,⟨hR,rfl⟩,T,S',U,Nat.le_refl _,hr⟩
theorem nF.x {P:Program} (hm:P.follows .mixedOrders=true) {f:Nat} {args:List AV} {R:AV->Prop} (h:nF P f args R) {σ:ax}:Call P f args σ fun r σ'=>R r/\σ'=σ:=
 iS (FY (iC hm (h σ)))
theorem nF.body {P:Program} {f:Nat} {args:List AV} {R:AV->Prop} {nt na:Nat} {body:VC} {res:List pB} (hf:BP P f=some ⟨nt,na,body,res⟩) (ha:na=args.length) (h:(∀a∈args,fB a)->∀σ:ax,er (Call P) body (mh res fun r0 σ'=>∃r',V.fz σ'.get 6 r0=some r'/\R r') (cw args) ⟨V.ro σ.get,σ.next⟩):nF P f args R:=fun σ=>nH hf ha fun hl=>h hl σ
theorem O6 {g:Rows} {rows:List (List AV)} {xs:List (List Nat)} {ids:List Id} (n:Nat) (h:fX T8 g rows xs ids):eZ g (n+2) rows=some (xs.map fun l=>[Sx l]):=by
 induction h with
 |nil=>rw[eZ];rfl
 |cons h1 _ ih=>
  rename_i x _ _ _ _ _
  rcases h1 with⟨h0,h1,_⟩|⟨id,h1,h0,h2,_⟩
  ·subst h0 h1;rw[eZ,ih,ai,aj,aW];rfl
  ·have iN:x≠[]:=by rintro rfl;simp at h0
   subst h1
   rw[eZ,ih,ai,aj,kG (e:=eN) (sz:=1) h2 rfl fun a=>fzN _ n a]
   simp[Sx,iN]
theorem pY.fz0 {cnt:Nat} {bs:List PB} {f:Nat->Int} {X A F:Id} {g:Rows} {nx:Nat} (h:pY cnt bs f X A F g nx):V.fz g 5 (.ptr X 0 0)=some (.dv (ig cnt bs f)):=by
 have hf:V.fz g 4 (.own F 0 bs.length)=some (.sl (eT f bs.length)):=by
  rw[iW]
  simp only[h.f,if_true]
  rw[if_pos (by rw[eH];omega),List.drop_zero,List.take_of_length_le (by rw[eH];omega),CR];rfl
 have ha:V.fz g 4 (.own A 0 cnt)=some (.sl (sJ cnt bs bs.length)):=by
  obtain⟨rows,ids,h1,h2,_,_⟩:=h.a
  have hl:=h2.len
  rw[kf]at hl
  rw[iW]
  simp only[h1,if_true]
  rw[if_pos ae,List.drop_zero,List.take_of_length_le ae,O6 1 h2]
  simp[mH,sJ]
 rw[bf]
 simp only[h.x,if_true,List.getElem?_cons_zero,List.drop_zero,cJ,ai,aj,aP,cm,ha,hf,Option.map_some,ig]
theorem Ho {S:Nat->Bool}:∀bs:List PB,(∀b∈bs,b.s<=4)->jZ S bs<=4*bs.length
 |[],_=>by simp[jZ]
 |b::bs,h=>by
  rw[ve]
  have:=Ho (S:=S) bs fun x hx=>h x (List.mem_cons_of_mem _ hx)
  have:=h b (by simp)
  simp only[List.length_cons]
  split<;>omega
theorem k9.zero {bs:List PB} {x y:Nat} (h:∀e,e<bs.length->0<=(dm bs e).s/\(dm bs e).s<=4):k9 bs (fun _=>0) x y 0:=
 ⟨fun i hi=>by have:=h i hi;omega,fun S _ _=>kS fun i _=>by simp⟩
theorem NZ {bs:List PB} {b:PB} (h:b∈bs):∃e,e<bs.length/\dm bs e=b:=by
 obtain⟨e,he,rfl⟩:=List.getElem_of_mem h
 exact⟨e,he,by simp[dm,List.getD_eq_getElem?_getD,he]⟩
theorem Jt (cnt:Nat) (hn:cnt<=1048576) (bs:List PB) (ok:pd cnt bs) (iK:bs.length<=1048576) (ev:∀e,e<bs.length->0<=(dm bs e).s/\(dm bs e).s<=4) (x y:Nat) (hx:x<cnt) (hy:y<cnt) (OP:x≠y):
  nF Tryz.prog 125 [.int .i64 cnt,.sl (bs.map aI),.int .i64 x,.int .i64 y] fun r=>∃f val,r=.ib [.dv (ig cnt bs f),.int .i64 val]/\k9 bs f x y val/\∃S:Nat->Bool,S x=true/\S y=false/\val=jZ S bs:=by
 refine nF.body fF rfl fun hl σ=>?_
 clear hl
 (try((repeat(revert hN;revert N;apply Pn.out));refine wk @Nat.zero_add ?_;(repeat(refine Pn.mk ?_;intro N hN))))
 refine .inr (aA _ _ _ _ _ (fun r σ1 hq=>?_) (LS cnt hn bs ok iK _))
 obtain⟨X,A,F,rfl,hX,hS⟩:=hq
 refine hN _ _ ?_
 clear hN N
 have hS0:∀f val,k9 bs f x y val->val<=jZ (fun v=>decide (v=x)) bs:=fun f val hf=>hf.bound (decide_eq_true rfl) (decide_eq_false fun h=>OP h.symm)
 have htot:=Ho (S:=fun v=>decide (v=x)) bs fun b hb=>by
  obtain⟨e,he,rfl⟩:=NZ hb
  exact(ev e he).2
 generalize jZ (fun v=>decide (v=x)) bs=T at *
 (try((repeat(revert hN;revert N;apply Pn.out));refine wk @Nat.zero_add ?_;(repeat(refine Pn.mk ?_;intro N hN))))
 refine bz (fun m env st=>∃(f:Nat->Int) (val:Int),m=(T-val).toNat/\0<=val/\env 10=.ptr X 0 0/\env 11=.int .i64 val/\k9 bs f x y val/\pY cnt bs f X A F st.get σ1.next/\σ1.next<=st.next) T.toNat ⟨_,0,by simp,ae,by(simp only[go_sem, ↓reduceIte,Nat.reduceEqDiff,Nat.reduceAdd,Nat.reduceSub,Nat.reduceLeDiff,reduceCtorEq]),by(simp only[go_sem, ↓reduceIte,Nat.reduceEqDiff,Nat.reduceAdd,Nat.reduceSub,Nat.reduceLeDiff,reduceCtorEq]),k9.zero ev,hS.frame (fun i hi=>rfl) (Nat.le_refl _),aU⟩ ?_
 rintro m env_b st_b ⟨f,val,rfl,s8,b10,b11,hf,hN1,hle⟩ eW
 have b2:=eW 2 (by kernel_rfl)
 have b3:=eW 3 (by kernel_rfl)
 simp only[go_sem, ↓reduceIte,Nat.reduceEqDiff,Nat.reduceAdd,Nat.reduceSub,Nat.reduceLeDiff,reduceCtorEq]at b2 b3
 clear eW
 (try((repeat(revert hN;revert N;apply Pn.out));refine wk (tw @b2 (tw @b3 @b10)) ?_;(repeat(refine Pn.mk ?_;intro N hN))))
 refine .inr (aA _ _ _ _ _ (fun r σ2 hq=>?_) (Rl cnt hn bs ok iK ev f x y hx hy OP val hf X A F ⟨st_b.get,_⟩ σ1.next hN1 aU))
 obtain⟨b,f',rfl,Xc,nu,_,lQ,ZP⟩:=hq
 (try dsimp only at nu)
 refine hN _ _ ?_
 clear hN N
 cases b with
 |true=>
  have Um:=ZP rfl
  have Qb:=hS0 _ _ hf
  have Lj:=hS0 _ _ Um
  have hw:IntKind.i64.wrap (val+1)=val+1:=cD ae
  (try((repeat(revert hN;revert N;apply Pn.out));refine wk (tw @b10 (tw @b11 @hw)) ?_;(repeat(refine Pn.mk ?_;intro N hN))))
  exact⟨_,ae,f',val+1,rfl,ae,sd @b10,sd (tw @b11 @hw),Um,Xc,aU⟩
 |false=>
  obtain⟨rfl,S,h1,h2,h3⟩:=lQ rfl
  (try((repeat(revert hN;revert N;apply Pn.out));refine wk (tw @b10 @b11) ?_;(repeat(refine Pn.mk ?_;intro N hN))))
  have hz:=Xc.fz0
  exact⟨[.ptr X 0 0,.int .i64 val],sd @Nat.zero_add,.ib [.dv (ig cnt bs f'),.int .i64 val],by simp only[gx,bI,ai,aj,hz,aP,Option.map_some],f',val,rfl,hf,S,h1,h2,h3⟩
theorem Ju (cnt:Nat) (hn:cnt<=1048576) (bs:List PB) (ok:pd cnt bs) (iK:bs.length<=1048576) (f:Nat->Int) (hs:Small bs f) (y:Nat) (hy:y<cnt):
  iQ Tryz.prog 126 [.dv (ig cnt bs f),.int .i64 y] fun r=>∃l:List Nat,r=.sl (l.map eN)/\l.length<=cnt:=by
 refine iQ.body fF rfl fun hl n0=>?_
 clear hl
 have hz:∀g:Rows,eC (eu g) 6 [.dv (ig cnt bs f),.int .i64 (y:Int)]=some [.dv (ig cnt bs f),.int .i64 y]:=fun g=>by simp only[ai,aj,aK,aP,Option.map_some]
 (try((repeat(revert hN;revert N;apply Pn.out));refine wk @Nat.zero_add ?_;(repeat(refine Pn.mk ?_;intro N hN))))
 refine .inr (aA _ _ _ _ _ (fun r σ1 hq=>?_) ((Ib cnt hn bs ok iK f hs y hy).x mixed (hz _)))
 obtain⟨⟨out,rfl,R3⟩,rfl⟩:=hq
 refine hN _ _ ?_
 clear hN N
 (try((repeat(revert hN;revert N;apply Pn.out));refine wk @ig.eq_1 ?_;(repeat(refine Pn.mk ?_;intro N hN))))
 refine bz (fun n env st=>∃k:Nat,n=(cnt)-k/\k<=(cnt)/\env 7=.int .i64 (k:Int)/\(∃(o:Id) (l:List Nat),env 6=.own o 0 l.length/\st.get o=some ⟨true,1,l.map eN⟩/\o.bt<st.next/\l.length<=k)) (cnt) ⟨0,ae,ae,sl @ig.eq_1,⟨⟨126002000,n0+1+1+1⟩,[],by(simp only[go_sem, ↓reduceIte,Nat.reduceEqDiff,Nat.reduceAdd,Nat.reduceSub,Nat.reduceLeDiff,reduceCtorEq])<;>rfl,by(simp only[go_sem, ↓reduceIte,Nat.reduceEqDiff,Nat.reduceAdd,Nat.reduceSub,Nat.reduceLeDiff,reduceCtorEq])<;>rfl,aU,by simp⟩⟩ ?_
 rintro n_a env_a st_a ⟨k,rfl,ale,a7,oh⟩ eJ
 have a0:=eJ 0 (by kernel_rfl);have a5:=eJ 5 (by kernel_rfl)
 simp only[go_sem, ↓reduceIte,Nat.reduceEqDiff,Nat.reduceAdd,Nat.reduceSub,Nat.reduceLeDiff,reduceCtorEq,ig]at a0 a5
 clear eJ
 obtain⟨o,l,a6,ag,xJ,Km⟩:=oh
 have s8:=dj xJ
 have gp:(l.map eN).length=l.length:=by simp
 by_cases hk:(k:Int)<(cnt:Int)
 ·have dx:∀{e:Env} {gg:Rows} {nx:Nat},(e 7=.int .i64 (IntKind.i64.wrap ((k:Int)+1)))->(∃(o:Id) (l:List Nat),e 6=.own o 0 l.length/\gg o=some ⟨true,1,l.map eN⟩/\o.bt<nx/\l.length<=(k+1))->∃m0,m0<(cnt)-k/\∃k:Nat,m0=(cnt)-k/\k<=(cnt)/\e 7=.int .i64 (k:Int)/\(∃(o:Id) (l:List Nat),e 6=.own o 0 l.length/\gg o=some ⟨true,1,l.map eN⟩/\o.bt<nx/\l.length<=k):=fun x1 x2=>⟨_,ae,k+1,rfl,ae,(by rw[x1,az ae]),x2⟩
  have yI:=eQ (f:=out) (show k<cnt by omega)
  rw[aJ]at yI
  have e1:l.length+1<=16777216:=ae
  by_cases h0:0<=out k
  ·(try((repeat(revert hN;revert N;apply Pn.out));refine wk (tw @a7 (tw @a0 (tw @a5 (tw @a6 (tw @ag (tw @s8 (tw @hk (tw @yI (tw @h0 (tw @e1 (tw @gp @ig.eq_1))))))))))) ?_;(repeat(refine Pn.mk ?_;intro N hN))))
   exact dx (sd (tw @a7 (tw @a0 (tw @a5 @ig.eq_1)))) (⟨⟨126007003,st_a.next+1+1⟩,l++[k],by rw[List.length_append];simp only[go_sem, ↓reduceIte,Nat.reduceEqDiff,Nat.reduceAdd,Nat.reduceSub,Nat.reduceLeDiff,reduceCtorEq,List.length_cons,List.length_nil],by rw[List.map_append,List.map_cons,List.map_nil];simp only[go_sem, ↓reduceIte,Nat.reduceEqDiff,Nat.reduceAdd,Nat.reduceSub,Nat.reduceLeDiff,reduceCtorEq,eN],aU,by simp;omega⟩)
  ·(try((repeat(revert hN;revert N;apply Pn.out));refine wk (tw @a7 (tw @a0 (tw @a5 (tw @a6 (tw @ag (tw @s8 (tw @hk (tw @yI (tw @h0 (tw @gp @ig.eq_1)))))))))) ?_;(repeat(refine Pn.mk ?_;intro N hN))))
   exact dx (sd (tw @a7 (tw @a0 (tw @a5 @ig.eq_1)))) (⟨o,l,sd @a6,sd @ag,aU,ae⟩)
 ·(try((repeat(revert hN;revert N;apply Pn.out));refine wk (tw @a7 (tw @a0 (tw @a5 (tw @a6 (tw @hk @ig.eq_1))))) ?_;(repeat(refine Pn.mk ?_;intro N hN))))
  have vD:gU st_a.get 6 (.own o 0 l.length)=some (.sl (l.map eN)):=eE ag rfl fun b=>Rg _ 4 b
  exact⟨_,rfl,_,by simp only[go_sem, ↓reduceIte,Nat.reduceEqDiff,Nat.reduceAdd,Nat.reduceSub,Nat.reduceLeDiff,reduceCtorEq,gx];exact vD,l,rfl,ae⟩
theorem EC (v1 v2:Int) (l1 l2:List Nat) (h1:l1.length<=1048576) (h2:l2.length<=1048576):
  iQ Tryz.prog 127 [.int .i64 v1,.sl (l1.map eN),.int .i64 v2,.sl (l2.map eN)] fun r=>∃b,r=.bool b/\(v1<v2->b=true)/\(v2<v1->b=false):=by
 refine iQ.body fF rfl fun hl n0=>?_
 clear hl
 have ret:∀{t:Nat} {env:Env} {σ:ax} {b:Bool} {x:Ex},(x=.ret∨x=.normal)->env t=.bool b->((v1<v2->b=true)/\(v2<v1->b=false))->mh [.tmp t] (fun r0 σ'=>∃r',gU σ'.get 6 r0=some r'/\∃b,r'=.bool b/\(v1<v2->b=true)/\(v2<v1->b=false)) x env σ:=by
  intro t env σ b x hx he hb
  have:∃vs,gS env σ.get [.tmp t]=some vs/\∃r',gU σ.get 6 (gx vs)=some r'/\∃b,r'=.bool b/\(v1<v2->b=true)/\(v2<v1->b=false):=⟨[env t],rfl,.bool b,by rw[he];exact fD _ _ _,b,rfl,hb⟩
  rcases hx with rfl|rfl
  ·exact this
  ·exact this
 have m1:(l1.map eN).length=l1.length:=by simp
 have m2:(l2.map eN).length=l2.length:=by simp
 by_cases hv:v1=v2
 ·have hd:decide (v1=v2)=true:=decide_eq_true hv
  by_cases Km:(l1.length:Int)=(l2.length:Int)
  ·have nr:decide ((l1.length:Int)=(l2.length:Int))=true:=decide_eq_true Km
   have Vz:decide (l1.length=l2.length)=true:=decide_eq_true ae
   (try((repeat(revert hN;revert N;apply Pn.out));refine wk (tw @hd (tw @nr (tw @Vz (tw @m1 @m2)))) ?_;(repeat(refine Pn.mk ?_;intro N hN))))
   refine bz (fun n env st=>∃k:Nat,n=(l1.length)-k/\k<=(l1.length)/\env 9=.int .i64 (k:Int)) (l1.length) ⟨0,ae,ae,sl @Nat.zero_add⟩ ?_
   rintro n_a env_a st_a ⟨k,rfl,ale,a9⟩ eJ
   have a1:=eJ 1 (by kernel_rfl);have a3:=eJ 3 (by kernel_rfl)
   simp only[go_sem, ↓reduceIte,Nat.reduceEqDiff,Nat.reduceAdd,Nat.reduceSub,Nat.reduceLeDiff,reduceCtorEq]at a1 a3
   clear eJ
   by_cases hk:(k:Int)<(l1.length:Int)
   ·have dx:∀{e:Env},(e 9=.int .i64 (IntKind.i64.wrap ((k:Int)+1)))->∃m0,m0<(l1.length)-k/\∃k:Nat,m0=(l1.length)-k/\k<=(l1.length)/\e 9=.int .i64 (k:Int):=fun x1=>⟨_,ae,k+1,rfl,ae,(by rw[x1,az ae])⟩
    have g1:(l1.map eN)[k]? =some (eN (l1.getD k 0)):=getD_map eN ae
    have g2:(l2.map eN)[k]? =some (eN (l2.getD k 0)):=getD_map eN ae
    rw[eN]at g1 g2
    by_cases he:((l1.getD k 0:Nat):Int)=((l2.getD k 0:Nat):Int)
    ·have Nx:decide (((l1.getD k 0:Nat):Int)=((l2.getD k 0:Nat):Int))=true:=decide_eq_true he
     have YU:decide (l1.getD k 0=l2.getD k 0)=true:=decide_eq_true ae
     (try((repeat(revert hN;revert N;apply Pn.out));refine wk (tw @a9 (tw @a1 (tw @a3 (tw @hk (tw @m1 (tw @g1 (tw @g2 (tw @Nx @YU)))))))) ?_;(repeat(refine Pn.mk ?_;intro N hN))))
     exact dx (sd (tw @a9 (tw @a1 @a3)))
    ·have Nx:decide (((l1.getD k 0:Nat):Int)=((l2.getD k 0:Nat):Int))=false:=decide_eq_false he
     have YU:decide (l1.getD k 0=l2.getD k 0)=false:=decide_eq_false ae
     (try((repeat(revert hN;revert N;apply Pn.out));refine wk (tw @a9 (tw @a1 (tw @a3 (tw @hk (tw @m1 (tw @g1 (tw @g2 (tw @Nx @YU)))))))) ?_;(repeat(refine Pn.mk ?_;intro N hN))))
     exact ret (.inl rfl) (by simp only[go_sem, ↓reduceIte,Nat.reduceEqDiff,Nat.reduceAdd,Nat.reduceSub,Nat.reduceLeDiff,reduceCtorEq];rfl) ⟨fun h=>ae,fun h=>ae⟩
   ·(try((repeat(revert hN;revert N;apply Pn.out));refine wk (tw @a9 (tw @a1 (tw @a3 (tw @hk @m1)))) ?_;(repeat(refine Pn.mk ?_;intro N hN))))
    exact ret (b:=false) (.inl rfl) (sd @Nat.zero_add) ⟨fun h=>ae,fun h=>ae⟩
  ·have nr:decide ((l1.length:Int)=(l2.length:Int))=false:=decide_eq_false Km
   have Vz:decide (l1.length=l2.length)=false:=decide_eq_false ae
   (try((repeat(revert hN;revert N;apply Pn.out));refine wk (tw @hd (tw @nr (tw @Vz (tw @m1 @m2)))) ?_;(repeat(refine Pn.mk ?_;intro N hN))))
   exact ret (.inl rfl) (by simp only[go_sem, ↓reduceIte,Nat.reduceEqDiff,Nat.reduceAdd,Nat.reduceSub,Nat.reduceLeDiff,reduceCtorEq];rfl) ⟨fun h=>ae,fun h=>ae⟩
 ·have hd:decide (v1=v2)=false:=decide_eq_false hv
  (try((repeat(revert hN;revert N;apply Pn.out));refine wk @hd ?_;(repeat(refine Pn.mk ?_;intro N hN))))
  exact ret (b:=decide (v1<v2)) (.inl rfl) (sd @Nat.zero_add) ⟨fun h=>decide_eq_true h,fun h=>decide_eq_false ae⟩
def xW (bs:List PB) (cnt:Nat) (j9:Int) (k:Nat):Prop:=(k=1/\j9= -1)∨(0<=j9/\(∀z,1<=z->z<k->∀S:Nat->Bool,S 0=true->S z=false->j9<=jZ S bs)/\∃S:Nat->Bool,S 0=true/\(∃z,z<cnt/\S z=false)/\j9=jZ S bs)
theorem k9.nn {bs:List PB} {val:Int} {S:Nat->Bool} (ev:∀e,e<bs.length->0<=(dm bs e).s/\(dm bs e).s<=4) (h:val=jZ S bs):0<=val:=by
 rw[h,yk]
 have:=uD (f:=fun _=>0) (g:=fun i=>if S (dm bs i).a=S (dm bs i).b then 0 else(dm bs i).s) (n:=bs.length) fun i hi=>by
  have:=ev i hi
  split<;>omega
 rw[kS fun _ _=>rfl]at this
 exact this
theorem xW.done {bs:List PB} {cnt:Nat} {j9:Int} (hc:2<=cnt) (h:xW bs cnt j9 cnt) (t:Int):t<=j9↔lS cnt bs t:=by
 rcases h with⟨h,_⟩|⟨_,h1,S,h2,⟨z,hz,sC⟩,h3⟩
 ·omega
 ·constructor
  ·intro ht S h0 ⟨y,hy,hy2⟩
   have:y≠0:=by rintro rfl;rw[h0]at hy2;cases hy2
   have:=h1 y ae hy S h0 hy2
   omega
  ·intro hH
   rw[h3];exact hH S h2 ⟨z,hz,sC⟩
theorem Ck (cnt:Nat) (h2:2<=cnt) (hn:cnt<=1048576) (bs:List PB) (ok:pd cnt bs) (iK:bs.length<=1048576) (ev:∀e,e<bs.length->0<=(dm bs e).s/\(dm bs e).s<=4):
  nF Tryz.prog 98 [.int .i64 cnt,.sl (bs.map aI)] fun r=>∃j9 p,r=.ib [.int .i64 j9,p]/\∀t:Int,t<=j9↔lS cnt bs t:=by
 refine nF.body fF rfl fun hl σ=>?_
 clear hl
 (try((repeat(revert hN;revert N;apply Pn.out));refine wk @Nat.zero_add ?_;(repeat(refine Pn.mk ?_;intro N hN))))
 have z0:∀(g:Rows) (id:Id),g id=some ⟨true,1,[]⟩->V.fz (eu g) 6 (.own id 0 0)=some (.sl (([]:List Nat).map eN))/\V.fz g 5 (.own id 0 0)=some (.sl (([]:List Nat).map eN)):=fun g id h=>by
  have h':eu g id=some ⟨true,1,[]⟩:=by simp[eu,h]
  constructor
  ·rw[iW];simp only[h',if_true];rw[if_pos (by simp)];simp[qv]
  ·rw[iW];simp only[h,if_true];rw[if_pos (by simp)];simp[qv]
 refine bz (fun m env st=>∃(k:Nat) (j9:Int) (l:List Nat) (p:AV),m=cnt-k/\1<=k/\k<=cnt/\env 8=.int .i64 (k:Int)/\env 6=.int .i64 j9/\env 7=p/\V.fz (eu st.get) 6 p=some (.sl (l.map eN))/\V.fz st.get 5 p=some (.sl (l.map eN))/\l.length<=cnt/\xW bs cnt j9 k) (cnt-1) ⟨1,-1,[],.own ⟨98002000,σ.next+1+1⟩ 0 0,rfl,ae,ae,by(simp only[go_sem, ↓reduceIte,Nat.reduceEqDiff,Nat.reduceAdd,Nat.reduceSub,Nat.reduceLeDiff,reduceCtorEq])<;>rfl,by(simp only[go_sem, ↓reduceIte,Nat.reduceEqDiff,Nat.reduceAdd,Nat.reduceSub,Nat.reduceLeDiff,reduceCtorEq])<;>rfl,by(simp only[go_sem, ↓reduceIte,Nat.reduceEqDiff,Nat.reduceAdd,Nat.reduceSub,Nat.reduceLeDiff,reduceCtorEq])<;>rfl,(z0 _ _ (sd @Nat.zero_add)).1,(z0 _ _ (sd @Nat.zero_add)).2,by simp,.inl ⟨rfl,rfl⟩⟩ ?_
 rintro m env_b st_b ⟨k,j9,l,p,rfl,tC,ue,b8,b6,b7,AR,sC,hl,hB⟩ eW
 have b0:=eW 0 (by kernel_rfl)
 have b1:=eW 1 (by kernel_rfl)
 simp only[go_sem, ↓reduceIte,Nat.reduceEqDiff,Nat.reduceAdd,Nat.reduceSub,Nat.reduceLeDiff,reduceCtorEq]at b0 b1
 clear eW z0
 by_cases hk:(k:Int)<(cnt:Int)
 ·have iR:k<cnt:=ae
  have hFl:=Jt cnt hn bs ok iK ev 0 k ae iR ae
  rw[show(((0:Nat):Int))=0 from rfl]at hFl
  (try((repeat(revert hN;revert N;apply Pn.out));refine wk (tw @b0 (tw @b1 (tw @b6 (tw @b7 (tw @b8 @hk))))) ?_;(repeat(refine Pn.mk ?_;intro N hN))))
  refine .inr (aA _ _ _ _ _ (fun r σ1 hq=>?_) (hFl.x mixed))
  obtain⟨⟨f,val,rfl,hf,S,On,Oo,Ui⟩,rfl⟩:=hq
  refine hN _ _ ?_
  clear hN N
  have Je:=zx ev hf.le
  have vH:=k9.nn (val:=val) ev Ui
  (try((repeat(revert hN;revert N;apply Pn.out));refine wk (tw @b0 (tw @b1 (tw @b6 (tw @b7 @b8)))) ?_;(repeat(refine Pn.mk ?_;intro N hN))))
  refine .inr (aA _ _ _ _ _ (fun r σ1 hq=>?_) ((Ju cnt hn bs ok iK f Je k iR).x mixed (by simp only[ai,aj,aK,aP,Option.map_some])))
  obtain⟨⟨l',rfl,NG⟩,rfl⟩:=hq
  refine hN _ _ ?_
  clear hN N
  have hw:IntKind.i64.wrap ((k:Int)+1)=((k+1:Nat):Int):=az ae
  have Wx:(∀z,1<=z->z<k->∀S:Nat->Bool,S 0=true->S z=false->val<=jZ S bs)->xW bs cnt val (k+1):=fun h=>.inr ⟨vH,fun z AR sC S' h0 h1=>by
   by_cases UF:z=k
   ·subst UF;exact hf.bound h0 h1
   ·exact h z AR ae S' h0 h1,S,On,⟨k,iR,Oo⟩,Ui⟩
  by_cases ll:j9<0
  ·have DX:k=1:=by
    rcases hB with⟨h,_⟩|⟨h,_⟩
    ·exact h
    ·omega
   (try((repeat(revert hN;revert N;apply Pn.out));refine wk (tw @b0 (tw @b1 (tw @b6 (tw @b7 (tw @b8 (tw @ll @hw)))))) ?_;(repeat(refine Pn.mk ?_;intro N hN))))
   refine⟨_,?_,k+1,val,l',.sl (l'.map eN),rfl,ae,ae,sd (tw @b8 @hw),sd @Nat.zero_add,sd @Nat.zero_add,cm _ _ _,cm _ _ _,NG,Wx fun z h1 h2=>ae⟩
   omega
  ·have DX:(∀z,1<=z->z<k->∀S:Nat->Bool,S 0=true->S z=false->j9<=jZ S bs)/\∃S:Nat->Bool,S 0=true/\(∃z,z<cnt/\S z=false)/\j9=jZ S bs:=by
    rcases hB with⟨_,h⟩|⟨_,h⟩
    ·omega
    ·exact h
   (try((repeat(revert hN;revert N;apply Pn.out));refine wk (tw @b0 (tw @b1 (tw @b6 (tw @b7 (tw @b8 (tw @ll @hw)))))) ?_;(repeat(refine Pn.mk ?_;intro N hN))))
   refine .inr (aA _ _ _ _ _ (fun r σ1 hq=>?_) ((EC val j9 l' l ae ae).x mixed (by simp only[ai,aj,cm,aP,AR,Option.map_some])))
   obtain⟨⟨b,rfl,Qb,Lj⟩,rfl⟩:=hq
   refine hN _ _ ?_
   clear hN N
   cases b with
   |true=>
    have UB:val<=j9:=by
     rcases Int.lt_or_le j9 val with h|h
     ·exact absurd (Lj h) (by simp)
     ·exact h
    (try((repeat(revert hN;revert N;apply Pn.out));refine wk (tw @b0 (tw @b1 (tw @b6 (tw @b7 (tw @b8 @hw))))) ?_;(repeat(refine Pn.mk ?_;intro N hN))))
    refine⟨_,?_,k+1,val,l',.sl (l'.map eN),rfl,ae,ae,sd (tw @b8 @hw),sd @Nat.zero_add,sd @Nat.zero_add,cm _ _ _,cm _ _ _,NG,Wx fun z h1 h2 S' h3 h4=>by have:=DX.1 z h1 h2 S' h3 h4;omega⟩
    omega
   |false=>
    have UB:j9<=val:=by
     rcases Int.lt_or_le val j9 with h|h
     ·exact absurd (Qb h) (by simp)
     ·exact h
    (try((repeat(revert hN;revert N;apply Pn.out));refine wk (tw @b0 (tw @b1 (tw @b6 (tw @b7 (tw @b8 @hw))))) ?_;(repeat(refine Pn.mk ?_;intro N hN))))
    refine⟨_,?_,k+1,j9,l,p,rfl,ae,ae,sd (tw @b8 @hw),sd @b6,sd @b7,AR,sC,hl,.inr ⟨ae,fun z h1 h2 S' h3 h4=>?_,DX.2⟩⟩
    ·omega
    ·by_cases UF:z=k
     ·subst UF;have:=hf.bound h3 h4;omega
     ·exact DX.1 z h1 ae S' h3 h4
 ·have mU:k=cnt:=ae
  (try((repeat(revert hN;revert N;apply Pn.out));refine wk (tw @b0 (tw @b1 (tw @b6 (tw @b7 (tw @b8 @hk))))) ?_;(repeat(refine Pn.mk ?_;intro N hN))))
  exact⟨[.int .i64 j9,p],sd @Nat.zero_add,.ib [.int .i64 j9,.sl (l.map eN)],by simp only[gx,bI,ai,aj,sC,aP,Option.map_some],j9,_,rfl,xW.done h2 (mU▸hB)⟩
end Go.Proofs.YtiabgllilcfheaaGreat.V

namespace Go.Proofs.YtiabgllilcfheaaGreat.V
open Go.RowKit
inductive tF:List AV->List AV->Prop
 |nil:tF [] []
 |same (a) {l l'}:tF l l'->tF (a::l) (a::l')
 |ptr (cs rest) {l l'}:tF l l'->tF (.dv (cs++rest)::l) (.dv cs::l')
 |ck {l l'}:tF l l'->tF (.ck::l) (.sl []::l')
theorem Pr {P:Program} {w:World} {D:Nat->Prop} {ι:Names} {cs rest:List AV} {v:Value} (h:dy P w D ι (.dv (cs++rest)) v):dy P w D ι (.dv cs) v:=by
 obtain⟨b,o,vs,rfl,h1,h2,h3,h4⟩:=me h
 exact .fy _ _ (.dv cs b o vs h1 (fun a ha=>h2 a (List.mem_append_left _ ha)) (fun j hj=>h3 j (by rw[List.length_append];omega)) fun j a ha=>h4 j a (by
  have:=(List.getElem?_eq_some_iff.1 ha).1
  rw[List.getElem?_append_left this];exact ha))
theorem Pt {P:Program} {w:World} {D:Nat->Prop} {ι:Names} {v:Value} (h:dy P w D ι .ck v):dy P w D ι (.sl []) v:=by
 cases h with
 |fy _ _ h=>
  cases h with
  |ck=>exact .fy _ _ (.Db none 0 (Nat.zero_le _))
theorem tF.len {l l':List AV} (h:tF l l'):l'.length=l.length:=by induction h<;>simp_all
theorem tF.get {P:Program} {w:World} {D:Nat->Prop} {ι:Names} {l l':List AV} (h:tF l l'):∀{j:Nat} {a':AV},l'[j]? =some a'->∃a,l[j]? =some a/\∀v,dy P w D ι a v->dy P w D ι a' v:=by
 induction h with
 |nil=>intro j a' hj;simp at hj
 |same a _ ih=>
  intro j a' hj
  cases j with
  |zero=>simp at hj;subst hj;exact⟨a,rfl,fun _ h=>h⟩
  |succ j=>exact ih (by simpa using hj)
 |ptr cs rest _ ih=>
  intro j a' hj
  cases j with
  |zero=>simp at hj;subst hj;exact⟨_,rfl,fun _ h=>Pr h⟩
  |succ j=>exact ih (by simpa using hj)
 |ck _ ih=>
  intro j a' hj
  cases j with
  |zero=>simp at hj;subst hj;exact⟨_,rfl,fun _ h=>Pt h⟩
  |succ j=>exact ih (by simpa using hj)
theorem Call.cut {P:Program} (hm:P.follows .mixedOrders=true) {f:Nat} {args args':List AV} {σ:ax} {K:AV->ax->Prop} (hc:tF args args') (h:Call P f args' σ K):Call P f args σ K:=
 iS fun hs D ι w vs S U A=>iC hm h hs D ι w vs S U ⟨by rw[A.1,hc.len],fun j a' hj=>by
  obtain⟨a,ha,hr⟩:=hc.get (P:=P) (w:=w) (D:=D) (ι:=ι) hj
  obtain⟨u,hu,hv⟩:=A.2 j a ha
  exact⟨u,hu,hr u hv⟩⟩
theorem au.cut {P:Program} (hm:P.follows .mixedOrders=true) {f:Nat} {args args':List AV} {r:AV} (hc:tF args args') (h:au P f args' r):au P f args r:=fun n=>(h n).cut hm hc
end Go.Proofs.YtiabgllilcfheaaGreat.V

namespace Go.Proofs.YtiabgllilcfheaaGreat.V
open Go.RowKit
attribute [local irreducible] er wpOps fY Call
attribute [local go_sem] aF fC eR fN fK du upd cw K.av cQ AV.cells AV.cell rowOf rowsOf part ld rowAt bK cq dH dX gG bP dd eh fJ fa dw ea db da dM dP bV bd cU bU cW cV dV eb dZ cR bY dc dY bQ aD cY cF gF bD cL bW aY dn bj dI AV.undef bH bJ dQ dW dL dK cK ef eo cz ee ec cX cZ List.getD_cons_zero List.getD_cons_succ List.getD_nil List.all_cons List.all_nil Bool.and_true Bool.true_and Bool.and_self Bool.not_true Bool.not_false Option.map_some Option.map_none Option.bind_some Option.bind_none List.length_cons List.length_nil List.take_succ_cons List.take_zero List.take_nil List.drop_succ_cons List.drop_zero List.drop_nil List.head?_cons List.map_cons List.map_nil List.getElem?_cons_zero List.getElem?_cons_succ List.cons_append List.nil_append List.append_nil List.length_map List.set_cons_zero List.set_cons_succ Nat.reduceMul eq_self Int.toNat_natCast Int.natCast_nonneg and_self true_and and_true decide_true decide_false Bool.false_eq_true Nat.zero_add Nat.add_zero List.contains_cons List.contains_nil Bool.or_false Bool.false_or beq_self_eq_true Nat.reduceBEq ne_eq not_true_eq_false not_false_eq_true Id.mk.injEq false_and and_false Nat.reduceLT Int.reduceLE Int.reduceLT Int.reduceToNat Int.reduceNeg Int.reduceAdd Nat.le_refl List.length_append beq_true beq_false Bool.not_eq_eq_eq_not or_false false_or eu ai aj aP bh bZ cm aW bx aK bf cP bI
theorem Py {s:ay} (hS:iF s) (a d:Int):sf s (ei (ej s a) d)<=4:=by
 have hF:=hS.form
 have fU:ei (ej s a) d=0∨(0<=ei (ej s a) d/\ei (ej s a) d<=s.br.length):=by
  unfold ei ej
  rw[List.getD_eq_getElem?_getD,List.getD_eq_getElem?_getD]
  rcases ht:s.aq[a.toNat]? with _|t
  ·exact .inl (by simp[Cz])
  ·have V0:=List.mem_of_getElem? ht
   simp only[Option.getD_some]
   rcases hg:t.ep[d.toNat]? with _|g
   ·exact .inl rfl
   ·exact .inr (hF.wG t V0 g (List.mem_of_getElem? hg))
 unfold sf
 by_cases h0:ei (ej s a) d=0
 ·rw[if_pos h0];omega
 ·rw[if_neg h0]
  have hk:(ei (ej s a) d-1).toNat<s.br.length:=ae
  have:=eL (hS.WZ _ hk).2.1
  unfold rV at this
  unfold sU
  omega
theorem Ds {s:ay} (hS:iF s) (a d b:Int):iI s a d b<=4:=by
 unfold iI
 split
 ·exact Py hS a d
 ·omega
theorem Iy {s:ay} {l:List aa} (hS:iF s) {i:Nat} (hi:i<l.length) {d:Int}:∀b∈oD s l i d,b.a<l.length/\b.b<l.length/\0<=b.s/\b.s<=4:=by
 intro b hb
 unfold oD at hb
 split at hb
 ·rename_i h
  simp only[List.mem_singleton]at hb
  subst hb
  exact⟨hi,(kZ h.1).1,by simp only;omega,Ds hS ..⟩
 ·cases hb
theorem Av {s:ay} {l:List aa} (hS:iF s):∀b∈dz s l,b.a<l.length/\b.b<l.length/\0<=b.s/\b.s<=4:=by
 intro b hb
 simp only[dz,iU,iq,List.mem_flatMap,List.mem_range]at hb
 obtain⟨i,hi,j,_,hb⟩:=hb
 exact Iy hS hi b hb
theorem sK {s:ay} {l:List aa} (hF:jz l):(dz s l).length<=1000:=by
 have:=wq s l l.length
 have:=hF.nO
 rw[dz];omega
theorem KH {bs:List PB} {e:Nat} (h:e<bs.length):dm bs e∈bs:=by
 rw[dm,List.getD_eq_getElem?_getD,List.getElem?_eq_getElem h];exact List.getElem_mem h
theorem Jb {n:Nat} {bs:List PB} {t:Int} (h:n<2):lS n bs t:=fun S h0 ⟨y,hy,hf⟩=>by
 have:y=0:=ae
 subst this;rw[h0]at hf;cases hf
def ju (s:ay) (l:List aa) (t:Int):Nat:=(leads l.length (fc (bw t (dz s l)))).length
noncomputable def pz (s:ay) (l:List aa) (t:Int):Bool:=@decide (qW l.length (dz s l) t) (Classical.propDecidable _)
def vk (s:ay) (l:List aa) (t:Int):Int:=if 64<ju s l t then 4 else 0
theorem nZ {s:ay} {l:List aa} {t:Int} {p:Prop} [Decidable p] (h:p↔qW l.length (dz s l) t):decide p=pz s l t:=by
 letI:=Classical.propDecidable (qW l.length (dz s l) t)
 unfold pz
 by_cases hp:p
 ·rw[decide_eq_true hp];exact(decide_eq_true (h.1 hp)).symm
 ·rw[decide_eq_false hp];exact(decide_eq_false fun k=>hp (h.2 k)).symm
theorem EE (s:ay) (l:List aa) (t:Int) (hS:iF s) (hA:gH s l):au Tryz.prog 62 [.dv (ad s),.dv [.sl (l.map ab)],.int .i64 t] (.ib [.bool (pz s l t),.int .i64 (vk s l t)]):=by
 refine au.body fF rfl fun hl n0=>?_
 clear hl
 have hb:=Av (l:=l) hS
 have iK:=sK (s:=s) hA.1
 have F8:=hA.1.nO
 have zK:=Gr s l hS.form hA
 have NI:=ED l.length ae (dz s l) (fun b h=>⟨(hb b h).1,(hb b h).2.1⟩) ae t
 have hL:=wP (bw t (dz s l))
 have fU:=GU hL (fun b h=>⟨(hb b h).1,(hb b h).2.1⟩)
 have hlen:=(oV (fc (bw t (dz s l))) (dz s l)).2
 have pJ:=kK l.length (fc (bw t (dz s l)))
 have fI:(l.map ab).length=l.length:=by simp
 by_cases xh:(64:Int)<(ju s l t:Int)
 ·have xi:64<ju s l t:=ae
  have hd:pz s l t=false:=(nZ (p:=False) ⟨False.elim,fun h=>by have:=h.1;unfold ju at xi;omega⟩).symm.trans (by simp)
  rw[ju]at xh
  (repeat(first|((repeat(revert hN;revert N;apply Pn.out));refine wk (tw @ad.eq_1 (tw @xh @fI)) ?_;(repeat(refine Pn.mk ?_;intro N hN)))|((try apply Or.inl);refine⟨_,au.x (zK) (sd (tw @ad.eq_1 (tw @xh @fI))),?_⟩;refine hN _ _ ?_;clear hN N)|((try apply Or.inl);refine⟨_,au.x (NI) (sd (tw @ad.eq_1 (tw @xh @fI))),?_⟩;refine hN _ _ ?_;clear hN N)))
  exact jL (.inl rfl) (r1:=.bool false) (r2:=.int .i64 4) (sd @Nat.zero_add) (sd @Nat.zero_add) (by rw[hd,vk,if_pos xi];simp only[fu,bF,cH,fD,eK,Option.map_some])
 have xi:¬64<ju s l t:=ae
 have hf:vk s l t=0:=by rw[vk,if_neg xi]
 by_cases h2:(ju s l t:Int)<2
 ·have hd:pz s l t=true:=(nZ (p:=True) ⟨fun _=>⟨by unfold ju at xi;omega,Jb (by unfold ju at h2;omega)⟩,fun _=>trivial⟩).symm.trans (by simp)
  rw[ju]at xh h2
  (repeat(first|((repeat(revert hN;revert N;apply Pn.out));refine wk (tw @ad.eq_1 (tw @xh (tw @h2 @fI))) ?_;(repeat(refine Pn.mk ?_;intro N hN)))|((try apply Or.inl);refine⟨_,au.x (zK) (sd (tw @ad.eq_1 (tw @xh (tw @h2 @fI)))),?_⟩;refine hN _ _ ?_;clear hN N)|((try apply Or.inl);refine⟨_,au.x (NI) (sd (tw @ad.eq_1 (tw @xh (tw @h2 @fI)))),?_⟩;refine hN _ _ ?_;clear hN N)))
  exact jL (.inl rfl) (r1:=.bool true) (r2:=.int .i64 0) (sd @Nat.zero_add) (sd @Nat.zero_add) (by rw[hd,hf];simp only[fu,bF,cH,fD,eK,Option.map_some])
 have OO:=Ck (ju s l t) ae (by unfold ju;omega) (gi (fc (bw t (dz s l))) (dz s l)) (fun e he=>by have:=fU _ (KH he);exact⟨this.1,this.2.1,this.2.2.1⟩) ae (fun e he=>by
  obtain⟨_,_,_,c,hc,eD⟩:=fU _ (KH he)
  rw[eD];have:=hb c hc;omega)
 rw[ju]at xh h2 OO
 (repeat(first|((repeat(revert hN;revert N;apply Pn.out));refine wk (tw @ad.eq_1 (tw @xh (tw @h2 @fI))) ?_;(repeat(refine Pn.mk ?_;intro N hN)))|((try apply Or.inl);refine⟨_,au.x (zK) (sd (tw @ad.eq_1 (tw @xh (tw @h2 @fI)))),?_⟩;refine hN _ _ ?_;clear hN N)|((try apply Or.inl);refine⟨_,au.x (NI) (sd (tw @ad.eq_1 (tw @xh (tw @h2 @fI)))),?_⟩;refine hN _ _ ?_;clear hN N)))
 refine .inr (aA _ _ _ _ _ (fun r σ1 hq=>?_) (OO.x mixed))
 obtain⟨⟨j9,p,rfl,Vu⟩,rfl⟩:=hq
 refine hN _ _ ?_
 clear hN N
 (try((repeat(revert hN;revert N;apply Pn.out));refine wk @Nat.zero_add ?_;(repeat(refine Pn.mk ?_;intro N hN))))
 exact jL (.inl rfl) (r1:=.bool (decide (t<=j9))) (r2:=.int .i64 0) (sd @Nat.zero_add) (sd @Nat.zero_add) (by
  rw[hf,nZ (s:=s) (l:=l) (t:=t) (p:=t<=j9) ((Vu t).trans (Gf.trans ⟨fun h=>⟨by unfold ju at xi;omega,h⟩,fun h=>h.2⟩))]
  simp only[fu,bF,cH,fD,eK,Option.map_some])
theorem vK (t:Int):au Tryz.prog 61 [.int .i64 t] (.bool (js t 1 16)):=by
 refine au.body fF rfl fun hl n0=>?_
 clear hl
 have h:=k6 t 1 16
 (repeat(first|((repeat(revert hN;revert N;apply Pn.out));refine wk @Nat.zero_add ?_;(repeat(refine Pn.mk ?_;intro N hN)))|((try apply Or.inl);refine⟨_,au.x (h) (sd @Nat.zero_add),?_⟩;refine hN _ _ ?_;clear hN N)))
 exact cu (b:=js t 1 16) (.inl rfl) (sd @Nat.zero_add) rfl
structure np (s:aw):Prop where
 set:iF s.aZ
 kQ:gH s.aZ s.cj.aq
 some:1<=s.cj.aq.length
 MR:js s.aX 1 16=true
 holds:qW s.cj.aq.length (dz s.aZ s.cj.aq) s.aX
noncomputable def lI (s:aw):Bool:=@decide (np s) (Classical.propDecidable _)
theorem qR {s:aw}:lI s=true↔np s:=by simp[lI]
theorem k8 {s:aw} (h:¬np s):false=lI s:=by simp[lI,h]
theorem E9 {s:aw} (h:np s):true=lI s:=by simp[lI,h]
theorem rJ {s:ay} {l:List aa} {t:Int}:pz s l t=true↔qW l.length (dz s l) t:=by simp[pz]
theorem HW (s:aw) (hn:jj s.aZ) (hg:s.aZ.br.length<=1048576) (ht:s.aZ.aq.length<=1048576):au Tryz.prog 26 [.dv (aH s)] (.bool (lI s)):=by
 refine au.body fF rfl fun hl n0=>?_
 clear hl
 have h1:=(O0 s.aZ hn hg ht).cut mixed (.ptr _ [.sl (s.cj.aq.map ab),.int .i64 s.aX] .nil)
 by_cases hS:iF s.aZ
 ·rw[nY.2 hS]at h1
  have h2:=(HV s.aZ s.cj.aq).cut mixed (.ptr _ [.sl (s.cj.aq.map ab),.int .i64 s.aX] (.ptr _ [.int .i64 s.aX] .nil))
  by_cases hA:gH s.aZ s.cj.aq
  ·rw[nI.2 hA]at h2
   by_cases h0:(s.cj.aq.length:Int)=0
   ·have hd:decide ((s.cj.aq.length:Int)=0)=true:=decide_eq_true h0
    have lQ:false=lI s:=k8 fun h=>by have:=h.some;omega
    generalize fI:(s.cj.aq.map ab).length=len at *
    (repeat(first|((repeat(revert hN;revert N;apply Pn.out));refine wk (tw @aH.eq_1 (tw @ad.eq_1 @hd)) ?_;(repeat(refine Pn.mk ?_;intro N hN)))|((try apply Or.inl);refine⟨_,au.x (h1) (sd (tw @aH.eq_1 (tw @ad.eq_1 @hd))),?_⟩;refine hN _ _ ?_;clear hN N)|((try apply Or.inl);refine⟨_,au.x (h2) (sd (tw @aH.eq_1 (tw @ad.eq_1 @hd))),?_⟩;refine hN _ _ ?_;clear hN N)))
    exact cu (b:=false) (.inl rfl) (sd @Nat.zero_add) lQ
   ·have hd:decide ((s.cj.aq.length:Int)=0)=false:=decide_eq_false h0
    have h3:=vK s.aX
    cases hT:js s.aX 1 16
    ·rw[hT]at h3
     (repeat(first|((repeat(revert hN;revert N;apply Pn.out));refine wk (tw @aH.eq_1 (tw @ad.eq_1 @hd)) ?_;(repeat(refine Pn.mk ?_;intro N hN)))|((try apply Or.inl);refine⟨_,au.x (h1) (sd (tw @aH.eq_1 (tw @ad.eq_1 @hd))),?_⟩;refine hN _ _ ?_;clear hN N)|((try apply Or.inl);refine⟨_,au.x (h2) (sd (tw @aH.eq_1 (tw @ad.eq_1 @hd))),?_⟩;refine hN _ _ ?_;clear hN N)|((try apply Or.inl);refine⟨_,au.x (h3) (sd (tw @aH.eq_1 (tw @ad.eq_1 @hd))),?_⟩;refine hN _ _ ?_;clear hN N)))
     exact cu (b:=false) (.inl rfl) (sd @Nat.zero_add) (k8 fun h=>by have:=h.MR;rw[hT]at this;cases this)
    ·rw[hT]at h3
     have h4:=(EE s.aZ s.cj.aq s.aX hS hA).cut mixed (.ptr _ [.sl (s.cj.aq.map ab),.int .i64 s.aX] (.ptr _ [.int .i64 s.aX] (.same _ .nil)))
     cases hB:pz s.aZ s.cj.aq s.aX
     ·rw[hB]at h4
      (repeat(first|((repeat(revert hN;revert N;apply Pn.out));refine wk (tw @aH.eq_1 (tw @ad.eq_1 @hd)) ?_;(repeat(refine Pn.mk ?_;intro N hN)))|((try apply Or.inl);refine⟨_,au.x (h1) (sd (tw @aH.eq_1 (tw @ad.eq_1 @hd))),?_⟩;refine hN _ _ ?_;clear hN N)|((try apply Or.inl);refine⟨_,au.x (h2) (sd (tw @aH.eq_1 (tw @ad.eq_1 @hd))),?_⟩;refine hN _ _ ?_;clear hN N)|((try apply Or.inl);refine⟨_,au.x (h3) (sd (tw @aH.eq_1 (tw @ad.eq_1 @hd))),?_⟩;refine hN _ _ ?_;clear hN N)|((try apply Or.inl);refine⟨_,au.x (h4) (sd (tw @aH.eq_1 (tw @ad.eq_1 @hd))),?_⟩;refine hN _ _ ?_;clear hN N)))
      exact cu (b:=false) (.inl rfl) (sd @Nat.zero_add) (k8 fun h=>by have:=rJ.2 h.holds;rw[hB]at this;cases this)
     ·have hP:=rJ.1 hB
      have hf:vk s.aZ s.cj.aq s.aX=0:=by
       have:=hP.1
       rw[vk,if_neg (by unfold ju;omega)]
      rw[hB,hf]at h4
      (repeat(first|((repeat(revert hN;revert N;apply Pn.out));refine wk (tw @aH.eq_1 (tw @ad.eq_1 @hd)) ?_;(repeat(refine Pn.mk ?_;intro N hN)))|((try apply Or.inl);refine⟨_,au.x (h1) (sd (tw @aH.eq_1 (tw @ad.eq_1 @hd))),?_⟩;refine hN _ _ ?_;clear hN N)|((try apply Or.inl);refine⟨_,au.x (h2) (sd (tw @aH.eq_1 (tw @ad.eq_1 @hd))),?_⟩;refine hN _ _ ?_;clear hN N)|((try apply Or.inl);refine⟨_,au.x (h3) (sd (tw @aH.eq_1 (tw @ad.eq_1 @hd))),?_⟩;refine hN _ _ ?_;clear hN N)|((try apply Or.inl);refine⟨_,au.x (h4) (sd (tw @aH.eq_1 (tw @ad.eq_1 @hd))),?_⟩;refine hN _ _ ?_;clear hN N)))
      exact cu (b:=true) (.inl rfl) (sd @Nat.zero_add) (E9 ⟨hS,hA,ae,hT,hP⟩)
  ·have hb:rU s.aZ s.cj.aq=false:=Bool.eq_false_iff.2 fun h=>hA (nI.1 h)
   rw[hb]at h2
   (repeat(first|((repeat(revert hN;revert N;apply Pn.out));refine wk (tw @aH.eq_1 @ad.eq_1) ?_;(repeat(refine Pn.mk ?_;intro N hN)))|((try apply Or.inl);refine⟨_,au.x (h1) (sd (tw @aH.eq_1 @ad.eq_1)),?_⟩;refine hN _ _ ?_;clear hN N)|((try apply Or.inl);refine⟨_,au.x (h2) (sd (tw @aH.eq_1 @ad.eq_1)),?_⟩;refine hN _ _ ?_;clear hN N)))
   exact cu (b:=false) (.inl rfl) (sd @Nat.zero_add) (k8 fun h=>hA h.kQ)
 ·have hb:tu s.aZ=false:=Bool.eq_false_iff.2 fun h=>hS (nY.1 h)
  rw[hb]at h1
  (repeat(first|((repeat(revert hN;revert N;apply Pn.out));refine wk (tw @aH.eq_1 @ad.eq_1) ?_;(repeat(refine Pn.mk ?_;intro N hN)))|((try apply Or.inl);refine⟨_,au.x (h1) (sd (tw @aH.eq_1 @ad.eq_1)),?_⟩;refine hN _ _ ?_;clear hN N)))
  exact cu (b:=false) (.inl rfl) (sd @Nat.zero_add) (k8 fun h=>hS h.set)
theorem Px {s:ay} (hS:iF s) (a d:Int):0<=sf s (ei (ej s a) d):=by
 have hF:=hS.form
 have fU:ei (ej s a) d=0∨(0<=ei (ej s a) d/\ei (ej s a) d<=s.br.length):=by
  unfold ei ej
  rw[List.getD_eq_getElem?_getD,List.getD_eq_getElem?_getD]
  rcases ht:s.aq[a.toNat]? with _|t
  ·exact .inl (by simp[Cz])
  ·have V0:=List.mem_of_getElem? ht
   simp only[Option.getD_some]
   rcases hg:t.ep[d.toNat]? with _|g
   ·exact .inl rfl
   ·exact .inr (hF.wG t V0 g (List.mem_of_getElem? hg))
 unfold sf
 by_cases h0:ei (ej s a) d=0
 ·rw[if_pos h0];omega
 ·rw[if_neg h0]
  have hk:(ei (ej s a) d-1).toNat<s.br.length:=ae
  have:=eL (hS.WZ _ hk).2.1
  unfold rV at this
  unfold sU
  omega
theorem tK {s:ay} (hS:iF s) (a d b:Int):0<=iI s a d b/\iI s a d b<=4:=by
 refine⟨?_,Ds hS a d b⟩
 unfold iI
 split
 ·exact Px hS a d
 ·omega
def dr (s:ay) (f:ar->Int) (p:ar) (t:Int):Nat->Int
 |0=>0
 |d+1=>dr s f p t d+if 0<=f (dq p d)then iI s t d (f (dq p d))else 0
def nL (s:ay) (f:ar->Int) (p:ar) (t:Int):Int:=dr s f p t 4
theorem jW {s:ay} (hS:iF s) (f:ar->Int) (p:ar) (t:Int):∀d,0<=dr s f p t d/\dr s f p t d<=4*(d:Int)
 |0=>⟨Int.le_refl _,Int.le_refl _⟩
 |d+1=>by
  have:=jW hS f p t d
  have hb:=tK hS t d (f (dq p d))
  simp only[dr]
  split<;>omega
theorem Dn {s:ay} {l:List aa} (hA:gH s l) {p:ar} (h:0<=fe l p):eU s (fe l p)=true:=by
 unfold fe at h ⊢
 split at h
 ·rename_i h0
  rw[if_pos h0]
  exact hA.2 _ (fQ (kZ h0).1)
 ·omega
theorem Cj (s:ay) (hS:iF s) (l:List aa) (hA:gH s l) (p:ar) (hx:iB p.fP) (hy:iB p.fE) (t:Int) (ht:eU s t=true):au Tryz.prog 100 [.dv (ad s),.dv [.sl (l.map ab)],.agg (ah p),.int .i64 t] (.int .i64 (nL s (fe l) p t)):=by
 refine au.body fF rfl fun hl n0=>?_
 clear hl
 have hR:=hA.1.om
 have I0:l.length<=1048576:=by have:=hA.1.nO;omega
 (try((repeat(revert hN;revert N;apply Pn.out));refine wk @ah.eq_1 ?_;(repeat(refine Pn.mk ?_;intro N hN))))
 refine bz (fun n env st=>∃k:Nat,n=(4)-k/\k<=(4)/\env 10=.int .i64 (k:Int)/\env 9=.int .i64 (dr s (fe l) p t k)/\st.get ⟨100000000,n0⟩=some ⟨true,2,[ah p]⟩) (4) ⟨0,ae,ae,sl @ah.eq_1,sl @ah.eq_1,sl @ah.eq_1⟩ ?_
 rintro n_a env_a st_a ⟨k,rfl,ale,rQ,a9,ag0⟩ eJ
 have a0:=eJ 0 (by kernel_rfl);have a1:=eJ 1 (by kernel_rfl);have a3:=eJ 3 (by kernel_rfl);have a6:=eJ 6 (by kernel_rfl)
 simp only[go_sem, ↓reduceIte,Nat.reduceEqDiff,Nat.reduceAdd,Nat.reduceSub,Nat.reduceLeDiff,reduceCtorEq,ah]at a0 a1 a3 a6
 clear eJ
 by_cases hk:(k:Int)<4
 ·have dx:∀{e:Env} {gg:Rows},(e 10=.int .i64 (IntKind.i64.wrap ((k:Int)+1)))->(e 9=.int .i64 (dr s (fe l) p t (k+1)))->(gg ⟨100000000,n0⟩=some ⟨true,2,[ah p]⟩)->∃m0,m0<(4)-k/\∃k:Nat,m0=(4)-k/\k<=(4)/\e 10=.int .i64 (k:Int)/\e 9=.int .i64 (dr s (fe l) p t k)/\gg ⟨100000000,n0⟩=some ⟨true,2,[ah p]⟩:=fun x1 x2 x3=>⟨_,ae,k+1,rfl,ae,(by rw[x1,az ae]),x2,x3⟩
  have ev:=rl p k (jo ae) hx hy
  have pI:=xO l (dq p k) hR I0
  have fU:=jW hS (fe l) p t k
  by_cases h0:0<=fe l (dq p k)
  ·have zK:=A5 s hS.form t k (fe l (dq p k)) ht (Dn hA h0) (jo ae)
   have gK:=tK hS t k (fe l (dq p k))
   have hw:IntKind.i64.wrap (dr s (fe l) p t k+iI s t k (fe l (dq p k)))=dr s (fe l) p t (k+1):=by
    rw[cD ae,dr,if_pos h0]
   (repeat(first|((repeat(revert hN;revert N;apply Pn.out));refine wk (tw @rQ (tw @a9 (tw @ag0 (tw @a0 (tw @a1 (tw @a3 (tw @a6 (tw @hk (tw @h0 @ah.eq_1))))))))) ?_;(repeat(refine Pn.mk ?_;intro N hN)))|((try apply Or.inl);refine⟨_,au.x (ev) (sd (tw @rQ (tw @a9 (tw @ag0 (tw @a0 (tw @a1 (tw @a3 (tw @a6 (tw @hk (tw @h0 @ah.eq_1)))))))))),?_⟩;refine hN _ _ ?_;clear hN N)|((try apply Or.inl);refine⟨_,au.x (pI) (sd (tw @rQ (tw @a9 (tw @ag0 (tw @a0 (tw @a1 (tw @a3 (tw @a6 (tw @hk (tw @h0 @ah.eq_1)))))))))),?_⟩;refine hN _ _ ?_;clear hN N)|((try apply Or.inl);refine⟨_,au.x (zK) (sd (tw @rQ (tw @a9 (tw @ag0 (tw @a0 (tw @a1 (tw @a3 (tw @a6 (tw @hk (tw @h0 @ah.eq_1)))))))))),?_⟩;refine hN _ _ ?_;clear hN N)))
   refine dx ?_ ?_ ?_
   all_goals simp only[go_sem, ↓reduceIte,Nat.reduceEqDiff,Nat.reduceAdd,Nat.reduceSub,Nat.reduceLeDiff,reduceCtorEq,rQ,a9,ag0,a0,a1,a3,a6,hw,ah]
  ·have hw:dr s (fe l) p t (k+1)=dr s (fe l) p t k:=by rw[dr,if_neg h0,Int.add_zero]
   (repeat(first|((repeat(revert hN;revert N;apply Pn.out));refine wk (tw @rQ (tw @a9 (tw @ag0 (tw @a0 (tw @a1 (tw @a3 (tw @a6 (tw @hk (tw @h0 @ah.eq_1))))))))) ?_;(repeat(refine Pn.mk ?_;intro N hN)))|((try apply Or.inl);refine⟨_,au.x (ev) (sd (tw @rQ (tw @a9 (tw @ag0 (tw @a0 (tw @a1 (tw @a3 (tw @a6 (tw @hk (tw @h0 @ah.eq_1)))))))))),?_⟩;refine hN _ _ ?_;clear hN N)|((try apply Or.inl);refine⟨_,au.x (pI) (sd (tw @rQ (tw @a9 (tw @ag0 (tw @a0 (tw @a1 (tw @a3 (tw @a6 (tw @hk (tw @h0 @ah.eq_1)))))))))),?_⟩;refine hN _ _ ?_;clear hN N)))
   refine dx ?_ ?_ ?_
   all_goals simp only[go_sem, ↓reduceIte,Nat.reduceEqDiff,Nat.reduceAdd,Nat.reduceSub,Nat.reduceLeDiff,reduceCtorEq,rQ,a9,ag0,a0,a1,a3,a6,hw,ah]
 ·(try((repeat(revert hN;revert N;apply Pn.out));refine wk (tw @rQ (tw @a9 (tw @ag0 (tw @a0 (tw @a1 (tw @a3 (tw @a6 @hk))))))) ?_;(repeat(refine Pn.mk ?_;intro N hN))))
  exact dU (b:=dr s (fe l) p t k) (.inl rfl) (sd (tw @rQ (tw @a9 (tw @ag0 (tw @a0 (tw @a1 (tw @a3 @a6))))))) (by rw[show k=4 by omega];rfl)
def fw (la lb:List aa):Bool:=la.all fun t=>decide (fe lb t.aV=t.bp)
theorem EA (la lb:List aa) (hR:jt lb) (I0:lb.length<=1048576) (h81:la.length<=1048576):au Tryz.prog 71 [.dv [.sl (la.map ab)],.dv [.sl (lb.map ab)]] (.bool (fw la lb)):=by
 refine au.body fF rfl fun hl n0=>?_
 clear hl
 (try((repeat(revert hN;revert N;apply Pn.out));refine wk @Nat.zero_add ?_;(repeat(refine Pn.mk ?_;intro N hN))))
 refine bz (fun n env st=>∃k:Nat,n=(la.length)-k/\k<=(la.length)/\env 5=.int .i64 (k:Int)/\(∀j:Nat,j<k->fe lb (aQ la j).aV=(aQ la j).bp)) (la.length) ⟨0,ae,ae,sl @Nat.zero_add,fun _ h=>absurd h (Nat.not_lt_zero _)⟩ ?_
 rintro n_a env_a st_a ⟨k,rfl,ale,a5,pR⟩ eJ
 have a0:=eJ 0 (by kernel_rfl);have a1:=eJ 1 (by kernel_rfl)
 simp only[go_sem, ↓reduceIte,Nat.reduceEqDiff,Nat.reduceAdd,Nat.reduceSub,Nat.reduceLeDiff,reduceCtorEq]at a0 a1
 clear eJ
 by_cases hk:(k:Int)<(la.length:Int)
 ·have dx:∀{e:Env},(e 5=.int .i64 (IntKind.i64.wrap ((k:Int)+1)))->(fe lb (aQ la k).aV=(aQ la k).bp)->∃m0,m0<(la.length)-k/\∃k:Nat,m0=(la.length)-k/\k<=(la.length)/\e 5=.int .i64 (k:Int)/\(∀j:Nat,j<k->fe lb (aQ la j).aV=(aQ la j).bp):=fun x1 x2=>⟨_,ae,k+1,rfl,ae,(by rw[x1,az ae]),(all_succ pR x2)⟩
  have iR:k<la.length:=ae
  have gq:=fR iR
  have pI:=xO lb (aQ la k).aV hR I0
  by_cases h0:fe lb (aQ la k).aV=(aQ la k).bp
  ·have hd:decide (fe lb (aQ la k).aV=(aQ la k).bp)=true:=decide_eq_true h0
   (repeat(first|((repeat(revert hN;revert N;apply Pn.out));refine wk (tw @a5 (tw @a0 (tw @a1 (tw @hk (tw @gq (tw @hd (tw @ab.eq_1 @ah.eq_1))))))) ?_;(repeat(refine Pn.mk ?_;intro N hN)))|((try apply Or.inl);refine⟨_,au.x (pI) (sd (tw @a5 (tw @a0 (tw @a1 (tw @hk (tw @gq (tw @hd (tw @ab.eq_1 @ah.eq_1)))))))),?_⟩;refine hN _ _ ?_;clear hN N)))
   exact dx (sd (tw @a5 (tw @a0 @a1))) (h0)
  ·have hd:decide (fe lb (aQ la k).aV=(aQ la k).bp)=false:=decide_eq_false h0
   (repeat(first|((repeat(revert hN;revert N;apply Pn.out));refine wk (tw @a5 (tw @a0 (tw @a1 (tw @hk (tw @gq (tw @hd (tw @ab.eq_1 @ah.eq_1))))))) ?_;(repeat(refine Pn.mk ?_;intro N hN)))|((try apply Or.inl);refine⟨_,au.x (pI) (sd (tw @a5 (tw @a0 (tw @a1 (tw @hk (tw @gq (tw @hd (tw @ab.eq_1 @ah.eq_1)))))))),?_⟩;refine hN _ _ ?_;clear hN N)))
   exact cu (b:=false) (.inl rfl) (sd @Nat.zero_add) (List.all_eq_false.2 ⟨_,fQ iR,by rw[hd];simp⟩).symm
 ·(try((repeat(revert hN;revert N;apply Pn.out));refine wk (tw @a5 (tw @a0 (tw @a1 @hk))) ?_;(repeat(refine Pn.mk ?_;intro N hN))))
  exact cu (b:=true) (.inl rfl) (sd @Nat.zero_add) (List.all_eq_true.2 fun t ht=>by
   obtain⟨j,hj,rfl⟩:=List.getElem_of_mem ht
   have:=pR j ae
   rw[fm hj]at this
   exact decide_eq_true this).symm
noncomputable def sI (s:aw) (l:List aa):Bool:=lI s&&rU s.aZ l
theorem Gs (s:aw) (l:List aa) (hn:jj s.aZ) (hg:s.aZ.br.length<=1048576) (ht:s.aZ.aq.length<=1048576):au Tryz.prog 50 [.dv (aH s),.dv [.sl (l.map ab)]] (.int .i64 (if sI s l then 0 else 1)):=by
 refine au.body fF rfl fun hl n0=>?_
 clear hl
 have h1:=HW s hn hg ht
 have h2:=(HV s.aZ l).cut mixed (.ptr _ [.sl (s.cj.aq.map ab),.int .i64 s.aX] (.same _ .nil))
 cases b1:lI s
 ·rw[b1]at h1
  (repeat(first|((repeat(revert hN;revert N;apply Pn.out));refine wk @Nat.zero_add ?_;(repeat(refine Pn.mk ?_;intro N hN)))|((try apply Or.inl);refine⟨_,au.x (h1) (sd @Nat.zero_add),?_⟩;refine hN _ _ ?_;clear hN N)))
  exact dU (b:=1) (.inl rfl) (sd @Nat.zero_add) (by rw[sI,b1];rfl)
 rw[b1]at h1
 rw[aH]at h1 ⊢
 cases b2:rU s.aZ l
 ·rw[b2]at h2
  (repeat(first|((repeat(revert hN;revert N;apply Pn.out));refine wk @ad.eq_1 ?_;(repeat(refine Pn.mk ?_;intro N hN)))|((try apply Or.inl);refine⟨_,au.x (h1) (sd @ad.eq_1),?_⟩;refine hN _ _ ?_;clear hN N)|((try apply Or.inl);refine⟨_,au.x (h2) (sd @ad.eq_1),?_⟩;refine hN _ _ ?_;clear hN N)))
  exact dU (b:=1) (.inl rfl) (sd @Nat.zero_add) (by rw[sI,b1,b2];rfl)
 ·rw[b2]at h2
  (repeat(first|((repeat(revert hN;revert N;apply Pn.out));refine wk @ad.eq_1 ?_;(repeat(refine Pn.mk ?_;intro N hN)))|((try apply Or.inl);refine⟨_,au.x (h1) (sd @ad.eq_1),?_⟩;refine hN _ _ ?_;clear hN N)|((try apply Or.inl);refine⟨_,au.x (h2) (sd @ad.eq_1),?_⟩;refine hN _ _ ?_;clear hN N)))
  exact dU (b:=0) (.inl rfl) (sd @Nat.zero_add) (by rw[sI,b1,b2];rfl)
theorem qf {s:aw} {l:List aa}:sI s l=true↔np s/\gH s.aZ l:=by simp[sI,qR,nI]
noncomputable def sE (s:aw) (l:List aa):Int:=if sI s l then(if fw s.cj.aq l then 0 else 2)else 1
theorem A6 (s:aw) (l:List aa) (hn:jj s.aZ) (hg:s.aZ.br.length<=1048576) (ht:s.aZ.aq.length<=1048576):au Tryz.prog 37 [.dv (aH s),.dv [.sl (l.map ab)]] (.int .i64 (sE s l)):=by
 refine au.body fF rfl fun hl n0=>?_
 clear hl
 have h1:=Gs s l hn hg ht
 cases b1:sI s l
 ·rw[b1]at h1
  (repeat(first|((repeat(revert hN;revert N;apply Pn.out));refine wk @Nat.zero_add ?_;(repeat(refine Pn.mk ?_;intro N hN)))|((try apply Or.inl);refine⟨_,au.x (h1) (sd @Nat.zero_add),?_⟩;refine hN _ _ ?_;clear hN N)))
  exact dU (b:=1) (.inl rfl) (sd @Nat.zero_add) (by rw[sE,b1];rfl)
 obtain⟨hP,hA⟩:=qf.1 b1
 have h2:=(EA s.cj.aq l hA.1.om (by have:=hA.1.nO;omega) (by have:=hP.kQ.1.nO;omega)).cut mixed (.ptr _ [.int .i64 s.aX] (.same _ .nil))
 rw[b1]at h1
 rw[aH]at h1 ⊢
 cases b2:fw s.cj.aq l
 ·rw[b2]at h2
  (repeat(first|((repeat(revert hN;revert N;apply Pn.out));refine wk @Nat.zero_add ?_;(repeat(refine Pn.mk ?_;intro N hN)))|((try apply Or.inl);refine⟨_,au.x (h1) (sd @Nat.zero_add),?_⟩;refine hN _ _ ?_;clear hN N)|((try apply Or.inl);refine⟨_,au.x (h2) (sd @Nat.zero_add),?_⟩;refine hN _ _ ?_;clear hN N)))
  exact dU (b:=2) (.inl rfl) (sd @Nat.zero_add) (by rw[sE,b1,b2];rfl)
 ·rw[b2]at h2
  (repeat(first|((repeat(revert hN;revert N;apply Pn.out));refine wk @Nat.zero_add ?_;(repeat(refine Pn.mk ?_;intro N hN)))|((try apply Or.inl);refine⟨_,au.x (h1) (sd @Nat.zero_add),?_⟩;refine hN _ _ ?_;clear hN N)|((try apply Or.inl);refine⟨_,au.x (h2) (sd @Nat.zero_add),?_⟩;refine hN _ _ ?_;clear hN N)))
  exact dU (b:=0) (.inl rfl) (sd @Nat.zero_add) (by rw[sE,b1,b2];rfl)
theorem Fc {s:ay} {k:Nat} (h:k<s.aq.length):eU s k=true:=by
 unfold eU;exact jo ae
theorem BI {s:ay} {l:List aa} (hA:gH s l) (p:ar):fe l p<0↔eO l p<0:=by
 constructor
 ·intro h
  rcases Int.lt_or_le (eO l p) 0 with h0|h0
  ·exact h0
  ·exfalso
   obtain⟨h1,_⟩:=kZ h0
   have h2:=(eL (hA.2 _ (fQ h1))).1
   rw[fe,if_pos h0]at h
   omega
 ·intro h
  rw[fe,if_neg ae];omega
abbrev mP:MK:=⟨true,[.tI,.tI]⟩
theorem EM (p:ar):∀(ts:List aa) (i:Nat),iy mP (ah p) (ts.map ab) i=some (if rZ ts p<ts.length then some (i+rZ ts p)else none)
 |[],i=>by simp[iy,rZ]
 |t::ts,i=>by
  have e:fa mP.ts (ah p) ((ab t).take mP.ks)=some (decide (p=t.aV)):=by
   have h:(p=t.aV)↔(p.fP=t.aV.fP/\p.fE=t.aV.fE):=⟨fun h=>by rw[h];exact⟨rfl,rfl⟩,fun h=>CD h.1 h.2⟩
   simp[MK.ks,ah,ab,fa,fJ,h]
  have ih:=EM p ts (i+1)
  rw[List.map_cons]
  unfold iy
  rw[e]
  by_cases h:p=t.aV
  ·rw[decide_eq_true h]
   have h0:rZ (t::ts) p=0:=by simp[rZ,List.findIdx_cons,h]
   simp[h0]
  ·rw[decide_eq_false h]
   have h0:rZ (t::ts) p=rZ ts p+1:=by
    simp[rZ,List.findIdx_cons,Ne.symm h]
   simp only[ih,h0,List.length_cons,Nat.add_lt_add_iff_right]
   congr 1
   split<;>simp;omega
theorem Bb (ts:List aa) (p:ar):gW mP (.agg [.int .i64 p.fP,.int .i64 p.fE]) (ts.map ab)=some (if 0<=eO ts p then some (eO ts p).toNat else none):=by
 have h:=EM p ts 0
 unfold gW
 rw[if_pos ⟨rfl,rfl,rfl⟩]
 show iy mP (ah p) _ 0= _
 rw[h]
 unfold eO
 split<;>simp
theorem JE {ts:List aa} {p:ar} (h:0<=eO ts p):gW mP (.agg [.int .i64 p.fP,.int .i64 p.fE]) (ts.map ab)=some (some (eO ts p).toNat):=by rw[Bb,if_pos h]
theorem tf {ts:List aa} {p:ar} (h:eO ts p<0):gW mP (.agg [.int .i64 p.fP,.int .i64 p.fE]) (ts.map ab)=some none:=by rw[Bb,if_neg ae]
structure Fo (g:Rows) (n:Nat) (c T O:Id) (s:aw) (ts:List aa):Prop where
 row:∃b,g c=some ⟨b,6,[[.sl (s.aZ.br.map ez),.sl (s.aZ.aq.map dD),.sl (s.cj.aq.map ab),.int .i64 s.aX,.map T mP,.map O mP]]⟩
 tl:∃b,g T=some ⟨b,mP.pU,ts.map ab⟩
 cv:c.bt<n
 tv:T.bt<n
 ov:O.bt<n
theorem Fo.ro {g:Rows} {n:Nat} {c T O:Id} {s:aw} {ts:List aa} (h:Fo g n c T O s ts):Fo (V.ro g) n c T O s ts:=by
 obtain⟨b,h1⟩:=h.row
 obtain⟨b2,h2⟩:=h.tl
 exact⟨⟨false,by simp[V.ro,h1]⟩,⟨false,by simp[V.ro,h2]⟩,h.cv,h.tv,h.ov⟩
theorem Fo.frame {g g':Rows} {n n':Nat} {c T O:Id} {s:aw} {ts:List aa} (h:Fo g n c T O s ts) (hn:n<=n') (hc:g' c=g c) (hT:g' T=g T):Fo g' n' c T O s ts:=
 ⟨by rw[hc];exact h.row,by rw[hT];exact h.tl,Nat.lt_of_lt_of_le h.cv hn,Nat.lt_of_lt_of_le h.tv hn,Nat.lt_of_lt_of_le h.ov hn⟩
theorem Yg {σ:ax} {c T O:Id} {s:aw} {ts:List aa} (h:Fo σ.get σ.next c T O s ts) (p:ar):Call Tryz.prog 89 [.ptr c 0 0,.agg (ah p)] σ (fun r _=>r=.int .i64 (fe ts p)):=by
 refine ij fF rfl fun jc=>?_
 clear jc
 obtain⟨b,h1⟩:=h.row
 obtain⟨b2,h2⟩:=h.tl
 have v1:=dj h.cv
 have v2:=dj h.tv
 by_cases h0:0<=eO ts p
 ·have hm:=JE h0
  have hg:=fR (kZ h0).1
  have ho:(some (eO ts p).toNat).isSome=true:=rfl
  (try((repeat(revert hN;revert N;apply Pn.out));refine wk (tw @h1 (tw @h2 (tw @v1 (tw @v2 (tw @hm (tw @hg (tw @ho (tw @ah.eq_1 @ab.eq_1)))))))) ?_;(repeat(refine Pn.mk ?_;intro N hN))))
  exact gN (.inl rfl) (vs:=[.int .i64 (aQ ts (eO ts p).toNat).bp]) (sd @Nat.zero_add) (by rw[fe,if_pos h0];rfl)
 ·have hm:=tf (ts:=ts) (p:=p) ae
  have ho:(none:Option Nat).isSome=false:=rfl
  (try((repeat(revert hN;revert N;apply Pn.out));refine wk (tw @h1 (tw @h2 (tw @v1 (tw @v2 (tw @hm (tw @ho @ah.eq_1)))))) ?_;(repeat(refine Pn.mk ?_;intro N hN))))
  exact gN (.inl rfl) (vs:=[.int .i64 (-1)]) (sd @Nat.zero_add) (by rw[fe,if_neg h0];rfl)
theorem QY {σ:ax} {c T O:Id} {s:aw} {ts:List aa} (h:Fo σ.get σ.next c T O s ts) (p:ar):fY (Call Tryz.prog) 89 [.ptr c 0 0,.agg (ah p)] σ (fun r=>r=.int .i64 (fe ts p)):=by
 unfold fY PC
 exact Or.inl (aA _ _ _ _ _ (fun r σ' hr=>⟨_,by rw[hr];exact aP _ _ _ _,rfl⟩) (Yg (σ:=⟨V.ro σ.get,σ.next⟩) h.ro p))
theorem Iw {σ:ax} (s:ay) (hS:iF s) (F:ar->Int) (hF:∀q,0<=F q->eU s (F q)=true) (p:ar) (hx:iB p.fP) (hy:iB p.fE) (t:Int) (ht:eU s t=true) (f:Nat) (first:List AV)
  (pI:∀σ':ax,σ.next<=σ'.next->(∀x:Id,x.bt<σ.next->σ'.get x=σ.get x)->∀q,fY (Call Tryz.prog) f (first++[.agg (ah q)]) σ' (fun r=>r=.int .i64 (F q))):
  Call Tryz.prog 90 [.agg (ad s),.agg (ah p),.int .i64 t,.wR f first] σ (fun r _=>r=.int .i64 (nL s F p t)):=by
 refine ij fF rfl fun jc=>?_
 clear jc
 (try((repeat(revert hN;revert N;apply Pn.out));refine wk (tw @ah.eq_1 @ad.eq_1) ?_;(repeat(refine Pn.mk ?_;intro N hN))))
 refine bz (fun n env st=>∃k:Nat,n=(4)-k/\k<=(4)/\env 12=.int .i64 (k:Int)/\env 9=.int .i64 (dr s F p t k)/\st.get ⟨90000000,σ.next⟩=some ⟨true,2,[ad s]⟩/\st.get ⟨90000001,σ.next⟩=some ⟨true,2,[ah p]⟩/\(σ.next<st.next/\∀x:Id,x.bt<σ.next->st.get x=σ.get x)) (4) ⟨0,ae,ae,sl (tw @ah.eq_1 @ad.eq_1),sl (tw @ah.eq_1 @ad.eq_1),sl (tw @ah.eq_1 @ad.eq_1),sl (tw @ah.eq_1 @ad.eq_1),⟨aU,fun x hx=>by
  have:=dj hx
  simp only[go_sem, ↓reduceIte,Nat.reduceEqDiff,Nat.reduceAdd,Nat.reduceSub,Nat.reduceLeDiff,reduceCtorEq,this]⟩⟩ ?_
 rintro n_a env_a st_a ⟨k,rfl,ale,a12,a9,ag0,ag1,oh⟩ eJ
 have a2:=eJ 2 (by kernel_rfl);have a3:=eJ 3 (by kernel_rfl);have a4:=eJ 4 (by kernel_rfl);have a5:=eJ 5 (by kernel_rfl)
 simp only[go_sem, ↓reduceIte,Nat.reduceEqDiff,Nat.reduceAdd,Nat.reduceSub,Nat.reduceLeDiff,reduceCtorEq,ah,ad]at a2 a3 a4 a5
 clear eJ
 obtain⟨an,eJ⟩:=oh
 by_cases hk:(k:Int)<4
 ·have dx:∀{e:Env} {gg:Rows} {nx:Nat},(e 12=.int .i64 (IntKind.i64.wrap ((k:Int)+1)))->(e 9=.int .i64 (dr s F p t (k+1)))->(gg ⟨90000000,σ.next⟩=some ⟨true,2,[ad s]⟩)->(gg ⟨90000001,σ.next⟩=some ⟨true,2,[ah p]⟩)->(σ.next<nx/\∀x:Id,x.bt<σ.next->gg x=σ.get x)->∃m0,m0<(4)-k/\∃k:Nat,m0=(4)-k/\k<=(4)/\e 12=.int .i64 (k:Int)/\e 9=.int .i64 (dr s F p t k)/\gg ⟨90000000,σ.next⟩=some ⟨true,2,[ad s]⟩/\gg ⟨90000001,σ.next⟩=some ⟨true,2,[ah p]⟩/\(σ.next<nx/\∀x:Id,x.bt<σ.next->gg x=σ.get x):=fun x1 x2 x3 x4 x5=>⟨_,ae,k+1,rfl,ae,(by rw[x1,az ae]),x2,x3,x4,x5⟩
  have ev:=GZ p k (jo ae) hx hy
  have fU:=jW hS F p t k
  (repeat(first|((repeat(revert hN;revert N;apply Pn.out));refine wk (tw @a12 (tw @a9 (tw @ag0 (tw @ag1 (tw @a2 (tw @a3 (tw @a4 (tw @a5 (tw @hk @ah.eq_1))))))))) ?_;(repeat(refine Pn.mk ?_;intro N hN)))|((try apply Or.inl);refine⟨_,au.x (ev) (sd (tw @a12 (tw @a9 (tw @ag0 (tw @ag1 (tw @a2 (tw @a3 (tw @a4 (tw @a5 (tw @hk @ah.eq_1)))))))))),?_⟩;refine hN _ _ ?_;clear hN N)))
  refine .inl ⟨_,pI _ aU (fun x hx=>sd (eJ x hx)) (dq p k),?_⟩
  refine hN _ _ ?_
  clear hN N
  by_cases h0:0<=F (dq p k)
  ·have zK:=KP s hS.form t k (F (dq p k)) ht (hF _ h0) (jo ae)
   have gK:=tK hS t k (F (dq p k))
   have hw:IntKind.i64.wrap (dr s F p t k+iI s t k (F (dq p k)))=dr s F p t (k+1):=by
    rw[cD ae,dr,if_pos h0]
   rw[ad]at zK
   (repeat(first|((repeat(revert hN;revert N;apply Pn.out));refine wk (tw @a12 (tw @a9 (tw @ag0 (tw @ag1 (tw @a2 (tw @a3 (tw @a4 (tw @a5 (tw @h0 @ad.eq_1))))))))) ?_;(repeat(refine Pn.mk ?_;intro N hN)))|((try apply Or.inl);refine⟨_,au.x (zK) (sd (tw @a12 (tw @a9 (tw @ag0 (tw @ag1 (tw @a2 (tw @a3 (tw @a4 (tw @a5 (tw @h0 @ad.eq_1)))))))))),?_⟩;refine hN _ _ ?_;clear hN N)))
   refine dx ?_ ?_ ?_ ?_ (⟨aU,fun x hx=>by
    have h1:=eJ x hx
    simp only[go_sem, ↓reduceIte,Nat.reduceEqDiff,Nat.reduceAdd,Nat.reduceSub,Nat.reduceLeDiff,reduceCtorEq,h1]⟩)
   all_goals simp only[go_sem, ↓reduceIte,Nat.reduceEqDiff,Nat.reduceAdd,Nat.reduceSub,Nat.reduceLeDiff,reduceCtorEq,a12,a9,ag0,ag1,a2,a3,a4,a5,hw,ah,ad]
  ·have hw:dr s F p t (k+1)=dr s F p t k:=by rw[dr,if_neg h0,Int.add_zero]
   (try((repeat(revert hN;revert N;apply Pn.out));refine wk (tw @a12 (tw @a9 (tw @ag0 (tw @ag1 (tw @a2 (tw @a3 (tw @a4 (tw @a5 @h0)))))))) ?_;(repeat(refine Pn.mk ?_;intro N hN))))
   refine dx ?_ ?_ ?_ ?_ (⟨aU,fun x hx=>by
    have h1:=eJ x hx
    simp only[go_sem, ↓reduceIte,Nat.reduceEqDiff,Nat.reduceAdd,Nat.reduceSub,Nat.reduceLeDiff,reduceCtorEq,h1]⟩)
   all_goals simp only[go_sem, ↓reduceIte,Nat.reduceEqDiff,Nat.reduceAdd,Nat.reduceSub,Nat.reduceLeDiff,reduceCtorEq,a12,a9,ag0,ag1,a2,a3,a4,a5,hw,ah,ad]
 ·(try((repeat(revert hN;revert N;apply Pn.out));refine wk (tw @a12 (tw @a9 (tw @ag0 (tw @ag1 (tw @a2 (tw @a3 (tw @a4 (tw @a5 @hk)))))))) ?_;(repeat(refine Pn.mk ?_;intro N hN))))
  exact gN (.inl rfl) (vs:=[.int .i64 (dr s F p t k)]) (sd (tw @a12 (tw @a9 (tw @ag0 (tw @ag1 (tw @a2 (tw @a3 (tw @a4 @a5)))))))) (by rw[show k=4 by omega];rfl)
noncomputable def fW (s:aw) (ts:List aa) (p:ar) (t:Int):Bool:=zf p&&decide (fe ts p<0)&&decide (s.aX<=nL s.aZ (fe ts) p t)
theorem Ix {σ:ax} {c T O:Id} {s:aw} {ts:List aa} (h:Fo σ.get σ.next c T O s ts) (hS:iF s.aZ) (hF:∀q,0<=fe ts q->eU s.aZ (fe ts q)=true) (p:ar) (hx:iB p.fP) (hy:iB p.fE) (t:Int) (ht:eU s.aZ t=true):
  fY (Call Tryz.prog) 90 [.agg (ad s.aZ),.agg (ah p),.int .i64 t,.wR 89 [.ptr c 0 0]] σ (fun r=>r=.int .i64 (nL s.aZ (fe ts) p t)):=by
 unfold fY PC
 exact Or.inl (aA _ _ _ _ _ (fun r σ' hr=>⟨_,by rw[hr];exact aP _ _ _ _,rfl⟩) (Iw (σ:=⟨V.ro σ.get,σ.next⟩) s.aZ hS (fe ts) hF p hx hy t ht _ _
  (fun σ' hn hk q=>QY (h.ro.frame hn (hk _ h.cv) (hk _ h.tv)) q)))
theorem Rc {σ:ax} {c T O:Id} {s:aw} {ts:List aa} (h:Fo σ.get σ.next c T O s ts) (hS:iF s.aZ) (hF:∀q,0<=fe ts q->eU s.aZ (fe ts q)=true) (p:ar) (t:Int) (ht:eU s.aZ t=true):
  Call Tryz.prog 56 [.ptr c 0 0,.agg (ah p),.int .i64 t] σ (fun r _=>r=.bool (fW s ts p t)):=by
 refine ij fF rfl fun jc=>?_
 clear jc
 obtain⟨b,h1⟩:=h.row
 have v1:=dj h.cv
 have hw:=tJ p
 have v2:=dj h.tv
 by_cases h0:zf p=true
 ·rw[h0]at hw
  obtain⟨hx,hy⟩:=qM h0
  by_cases h2:fe ts p<0
  ·(repeat(first|((repeat(revert hN;revert N;apply Pn.out));refine wk (tw @h1 (tw @v1 (tw @h2 @ah.eq_1))) ?_;(repeat(refine Pn.mk ?_;intro N hN)))|((try apply Or.inl);refine⟨_,au.x (hw) (sd (tw @h1 (tw @v1 (tw @h2 @ah.eq_1)))),?_⟩;refine hN _ _ ?_;clear hN N)))
   refine⟨_,QY (h.frame aU (sd @v1) (sd @v2)) p,?_⟩
   refine hN _ _ ?_
   clear hN N
   (repeat(first|((repeat(revert hN;revert N;apply Pn.out));refine wk (tw @h1 (tw @v1 (tw @h2 (tw @ah.eq_1 @ad.eq_1)))) ?_;(repeat(refine Pn.mk ?_;intro N hN)))|((try apply Or.inl);refine⟨_,au.x (hw) (sd (tw @h1 (tw @v1 (tw @h2 (tw @ah.eq_1 @ad.eq_1))))),?_⟩;refine hN _ _ ?_;clear hN N)))
   refine⟨_,Ix (h.frame aU (sd @v1) (sd @v2)) hS hF p hx hy t ht,?_⟩
   refine hN _ _ ?_
   clear hN N
   have hb:=jW hS (fe ts) p t 4
   (repeat(first|((repeat(revert hN;revert N;apply Pn.out));refine wk (tw @h1 (tw @v1 (tw @h2 (tw @ah.eq_1 @ad.eq_1)))) ?_;(repeat(refine Pn.mk ?_;intro N hN)))|((try apply Or.inl);refine⟨_,au.x (hw) (sd (tw @h1 (tw @v1 (tw @h2 (tw @ah.eq_1 @ad.eq_1))))),?_⟩;refine hN _ _ ?_;clear hN N)))
   exact gN (.inl rfl) (vs:=[.bool (decide (s.aX<=nL s.aZ (fe ts) p t))]) (sd @Nat.zero_add) (by rw[show fW s ts p t=decide (s.aX<=nL s.aZ (fe ts) p t) by simp[fW,h0,h2]];rfl)
  ·(repeat(first|((repeat(revert hN;revert N;apply Pn.out));refine wk (tw @h1 (tw @v1 (tw @h2 @ah.eq_1))) ?_;(repeat(refine Pn.mk ?_;intro N hN)))|((try apply Or.inl);refine⟨_,au.x (hw) (sd (tw @h1 (tw @v1 (tw @h2 @ah.eq_1)))),?_⟩;refine hN _ _ ?_;clear hN N)))
   refine⟨_,QY (h.frame aU (sd @v1) (sd @v2)) p,?_⟩
   refine hN _ _ ?_
   clear hN N
   (repeat(first|((repeat(revert hN;revert N;apply Pn.out));refine wk (tw @h1 (tw @v1 (tw @h2 @ah.eq_1))) ?_;(repeat(refine Pn.mk ?_;intro N hN)))|((try apply Or.inl);refine⟨_,au.x (hw) (sd (tw @h1 (tw @v1 (tw @h2 @ah.eq_1)))),?_⟩;refine hN _ _ ?_;clear hN N)))
   exact gN (.inl rfl) (vs:=[.bool false]) (sd @Nat.zero_add) (by rw[show fW s ts p t=false by simp[fW,h2]];rfl)
 ·rw[Bool.not_eq_true]at h0
  rw[h0]at hw
  (repeat(first|((repeat(revert hN;revert N;apply Pn.out));refine wk (tw @h1 (tw @v1 @ah.eq_1)) ?_;(repeat(refine Pn.mk ?_;intro N hN)))|((try apply Or.inl);refine⟨_,au.x (hw) (sd (tw @h1 (tw @v1 @ah.eq_1))),?_⟩;refine hN _ _ ?_;clear hN N)))
  exact gN (.inl rfl) (vs:=[.bool false]) (sd @Nat.zero_add) (by rw[show fW s ts p t=false by simp[fW,h0]];rfl)
def OW (rows:List (List AV)):Prop:=∀r∈rows,∃(x y:Int) (v:AV),r=[.int .i64 x,.int .i64 y,v]
theorem H4 (x y:Int):∀(rows:List (List AV)) (i:Nat),OW rows->∃fi,iy mP [.int .i64 x,.int .i64 y] rows i=some fi
 |[],i,_=>⟨none,by simp[iy]⟩
 |r::rs,i,h=>by
  obtain⟨fi,hf⟩:=H4 x y rs (i+1) fun r hr=>h r (by simp[hr])
  obtain⟨x',y',v,rfl⟩:=h r (by simp)
  unfold iy
  have e:fa mP.ts [.int .i64 x,.int .i64 y] (([.int .i64 x',.int .i64 y',v]:List AV).take mP.ks)=some (decide (x=x')&&decide (y=y')):=by
   simp[MK.ks,fa,fJ]
  rw[e]
  cases decide (x=x')&&decide (y=y')
  ·exact⟨fi,hf⟩
  ·exact⟨some i,rfl⟩
theorem EV {rows:List (List AV)} (h:OW rows) (x y:Int):∃fi,gW mP (.agg [.int .i64 x,.int .i64 y]) rows=some fi:=by
 unfold gW
 rw[if_pos ⟨rfl,rfl,rfl⟩]
 exact H4 x y rows 0 h
theorem Sm {rows:List (List AV)} (h:OW rows) (x y:Int) (v:AV) (fi:Option Nat):OW (dL rows [.int .i64 x,.int .i64 y,v] fi):=by
 intro r hr
 cases fi with
 |none=>
  rcases List.mem_append.1 (show r∈rows++[_]from hr)with h1|h1
  ·exact h r h1
  ·simp at h1;exact⟨x,y,v,h1⟩
 |some i=>
  rcases List.mem_or_eq_of_mem_set (show r∈rows.set i _ from hr)with h1|h1
  ·exact h r h1
  ·exact⟨x,y,v,h1⟩
theorem Mn {rows:List (List AV)} (h:OW rows) (fi:Option Nat):OW (dK rows fi):=by
 intro r hr
 cases fi with
 |none=>exact h r (by simpa[dK]using hr)
 |some i=>exact h r (List.mem_of_mem_eraseIdx (by simpa[dK]using hr))
def lf (σ:ax) (O:Id) (g:Rows) (n:Nat):Prop:=σ.next<=n/\(∀x:Id,x.bt<σ.next->x≠O->g x=σ.get x)/\∃rows,g O=some ⟨true,mP.pU,rows⟩/\OW rows
theorem lf.C3 {σ:ax} {g:Rows} {n:Nat} {c T O:Id} {s:aw} {ts:List aa} (h:Fo σ.get σ.next c T O s ts) (hc:c≠O) (hT:T≠O) (k:lf σ O g n):Fo g n c T O s ts:=
 h.frame k.1 (k.2.1 _ h.cv hc) (k.2.1 _ h.tv hT)
theorem lf.frame {a:ax} {O:Id} {g g':Rows} {n n' m:Nat} (h:lf a O g n) (ha:a.next<=m) (ho:O.bt<m) (hn:n<=n') (hf:∀x:Id,x.bt<m->g' x=g x):lf a O g' n':=by
 refine⟨Nat.le_trans h.1 hn,fun x hx hO=>(hf x (Nat.lt_of_lt_of_le hx ha)).trans (h.2.1 x hx hO),?_⟩
 obtain⟨rows,h1,h2⟩:=h.2.2
 exact⟨rows,(hf O ho).trans h1,h2⟩
theorem lf.write {a:ax} {O:Id} {g g':Rows} {n n':Nat} (h:lf a O g n) (hn:n<=n') (hf:∀x:Id,x.bt<a.next->x≠O->g' x=g x) {rows:List (List AV)} (ho:g' O=some ⟨true,mP.pU,rows⟩) (hw:OW rows):lf a O g' n':=
 ⟨Nat.le_trans h.1 hn,fun x hx hO=>(hf x hx hO).trans (h.2.1 x hx hO),rows,ho,hw⟩
theorem K5 {σ:ax} {c T O:Id} {s:aw} {ts:List aa} (h:Fo σ.get σ.next c T O s ts) (hS:iF s.aZ) (hF:∀q,0<=fe ts q->eU s.aZ (fe ts q)=true) (p:ar) (t:Int) (ht:eU s.aZ t=true):
  fY (Call Tryz.prog) 56 [.ptr c 0 0,.agg (ah p),.int .i64 t] σ (fun r=>r=.bool (fW s ts p t)):=by
 unfold fY PC
 exact Or.inl (aA _ _ _ _ _ (fun r σ' hr=>⟨_,by rw[hr];exact bh _ _ _,rfl⟩) (Rc (σ:=⟨V.ro σ.get,σ.next⟩) h.ro hS hF p t ht))
theorem uk {σ:ax} {c T O:Id} {s:aw} {ts:List aa} (h:Fo σ.get σ.next c T O s ts) (hc:c≠O) (hT:T≠O) (hO:∃rows,σ.get O=some ⟨true,mP.pU,rows⟩/\OW rows) (hS:iF s.aZ) (hF:∀q,0<=fe ts q->eU s.aZ (fe ts q)=true) (p:ar) (hx:iB p.fP) (hy:iB p.fE):
  Call Tryz.prog 81 [.ptr c 0 0,.agg (ah p)] σ (fun r σ'=>r=.ib []/\lf σ O σ'.get σ'.next):=by
 refine ij fF rfl fun jc=>?_
 clear jc
 have NK:=hS.Bw
 have h0:lf σ O σ.get σ.next:=⟨Nat.le_refl _,fun _ _ _=>rfl,hO⟩
 (try((repeat(revert hN;revert N;apply Pn.out));refine wk @ah.eq_1 ?_;(repeat(refine Pn.mk ?_;intro N hN))))
 refine bz (fun n env st=>∃k:Nat,n=(4)-k/\k<=(4)/\env 8=.int .i64 (k:Int)/\st.get ⟨81000000,σ.next⟩=some ⟨true,2,[ah p]⟩/\(σ.next<st.next/\lf σ O st.get st.next)) (4) ⟨0,ae,ae,sl @ah.eq_1,sl @ah.eq_1,⟨aU,h0.frame (Nat.le_refl _) h.ov aU fun x hx=>by
  have:=dj hx
  simp only[go_sem, ↓reduceIte,Nat.reduceEqDiff,Nat.reduceAdd,Nat.reduceSub,Nat.reduceLeDiff,reduceCtorEq,this]⟩⟩ ?_
 rintro n_a env_a st_a ⟨k,rfl,ale,a8,ag0,oh⟩ eJ
 have a0:=eJ 0 (by kernel_rfl);have a3:=eJ 3 (by kernel_rfl)
 simp only[go_sem, ↓reduceIte,Nat.reduceEqDiff,Nat.reduceAdd,Nat.reduceSub,Nat.reduceLeDiff,reduceCtorEq,ah]at a0 a3
 clear eJ
 obtain⟨an,ak⟩:=oh
 have ha:=ak.C3 h hc hT
 by_cases hk:(k:Int)<4
 ·have dx:∀{e:Env} {gg:Rows} {nx:Nat},(e 8=.int .i64 (IntKind.i64.wrap ((k:Int)+1)))->(gg ⟨81000000,σ.next⟩=some ⟨true,2,[ah p]⟩)->(σ.next<nx/\lf σ O gg nx)->∃m0,m0<(4)-k/\∃k:Nat,m0=(4)-k/\k<=(4)/\e 8=.int .i64 (k:Int)/\gg ⟨81000000,σ.next⟩=some ⟨true,2,[ah p]⟩/\(σ.next<nx/\lf σ O gg nx):=fun x1 x2 x3=>⟨_,ae,k+1,rfl,ae,(by rw[x1,az ae]),x2,x3⟩
  have ev:=GZ p k (jo ae) hx hy
  obtain⟨b,h1⟩:=ha.row
  have v1:=dj ha.cv
  (repeat(first|((repeat(revert hN;revert N;apply Pn.out));refine wk (tw @a8 (tw @ag0 (tw @a0 (tw @a3 (tw @hk (tw @h1 (tw @v1 @ah.eq_1))))))) ?_;(repeat(refine Pn.mk ?_;intro N hN)))|((try apply Or.inl);refine⟨_,au.x (ev) (sd (tw @a8 (tw @ag0 (tw @a0 (tw @a3 (tw @hk (tw @h1 (tw @v1 @ah.eq_1)))))))),?_⟩;refine hN _ _ ?_;clear hN N)))
  refine bz (fun n env st=>∃t:Nat,n=(s.aZ.aq.length)-t/\t<=(s.aZ.aq.length)/\env 21=.int .i64 (t:Int)/\st.get ⟨81000000,σ.next⟩=some ⟨true,2,[ah p]⟩/\st.get ⟨81004003,st_a.next+1+1⟩=some ⟨true,2,[ah (dq p k)]⟩/\(st_a.next+3<=st.next/\lf σ O st.get st.next/\(env 6=.ck∨∃(o:Id) (n:Nat) (rows:List (List AV)),env 6=.own o 0 n/\st.get o=some ⟨true,1,rows⟩/\rows.length=n/\0<n/\n<=t/\st_a.next+3<=o.bt/\o.bt<st.next))) (s.aZ.aq.length) ⟨0,ae,ae,sl (tw @a8 (tw @ag0 (tw @a0 (tw @a3 @ah.eq_1)))),sl (tw @a8 (tw @ag0 (tw @a0 (tw @a3 @ah.eq_1)))),sl (tw @a8 (tw @ag0 (tw @a0 (tw @a3 @ah.eq_1)))),⟨aU,ak.frame ak.1 ha.ov aU fun x hx=>(by
   have:=dj hx
   simp only[go_sem, ↓reduceIte,Nat.reduceEqDiff,Nat.reduceAdd,Nat.reduceSub,Nat.reduceLeDiff,reduceCtorEq,this]),.inl (sd @Nat.zero_add)⟩⟩ ?_
  rintro n_b env_b st_b ⟨t,rfl,ble,b21,bg0,bg1,bI0⟩ eW
  have b0:=eW 0 (by kernel_rfl);have b3:=eW 3 (by kernel_rfl);have b5:=eW 5 (by kernel_rfl);have b8:=eW 8 (by kernel_rfl);have Kh:=eW 20 (by kernel_rfl)
  simp only[go_sem, ↓reduceIte,Nat.reduceEqDiff,Nat.reduceAdd,Nat.reduceSub,Nat.reduceLeDiff,reduceCtorEq,a8,ag0,a0,a3,ah]at b0 b3 b5 b8 Kh
  clear eW
  obtain⟨bn,bk,b6⟩:=bI0
  have Uj:=bk.C3 h hc hT
  obtain⟨b2,h2⟩:=Uj.row
  have v2:=dj Uj.cv
  have vt:=dj (i:=⟨81000000,σ.next⟩) (n:=st_b.next) aU
  have vq:=dj (i:=⟨81004003,st_a.next+1+1⟩) (n:=st_b.next) aU
  by_cases ht:(t:Int)<(s.aZ.aq.length:Int)
  ·have fh:∀{e:Env} {gg:Rows} {nx:Nat},(e 21=.int .i64 (IntKind.i64.wrap ((t:Int)+1)))->(gg ⟨81000000,σ.next⟩=some ⟨true,2,[ah p]⟩)->(gg ⟨81004003,st_a.next+1+1⟩=some ⟨true,2,[ah (dq p k)]⟩)->(st_a.next+3<=nx/\lf σ O gg nx/\(e 6=.ck∨∃(o:Id) (n:Nat) (rows:List (List AV)),e 6=.own o 0 n/\gg o=some ⟨true,1,rows⟩/\rows.length=n/\0<n/\n<=(t+1)/\st_a.next+3<=o.bt/\o.bt<nx))->∃m0,m0<(s.aZ.aq.length)-t/\∃t:Nat,m0=(s.aZ.aq.length)-t/\t<=(s.aZ.aq.length)/\e 21=.int .i64 (t:Int)/\gg ⟨81000000,σ.next⟩=some ⟨true,2,[ah p]⟩/\gg ⟨81004003,st_a.next+1+1⟩=some ⟨true,2,[ah (dq p k)]⟩/\(st_a.next+3<=nx/\lf σ O gg nx/\(e 6=.ck∨∃(o:Id) (n:Nat) (rows:List (List AV)),e 6=.own o 0 n/\gg o=some ⟨true,1,rows⟩/\rows.length=n/\0<n/\n<=t/\st_a.next+3<=o.bt/\o.bt<nx)):=fun x1 x2 x3 x4=>⟨_,ae,t+1,rfl,ae,(by rw[x1,az ae]),x2,x3,x4⟩
   have V1:t<s.aZ.aq.length:=ae
   (try((repeat(revert hN;revert N;apply Pn.out));refine wk (tw @b21 (tw @bg0 (tw @bg1 (tw @b0 (tw @b3 (tw @b5 (tw @b8 (tw @Kh (tw @ht (tw @h2 (tw @v2 (tw @vt (tw @vq @ah.eq_1))))))))))))) ?_;(repeat(refine Pn.mk ?_;intro N hN))))
   refine .inl ⟨_,K5 (Uj.frame aU (sd @v2) (by(have:=dj Uj.tv);simp only[go_sem, ↓reduceIte,Nat.reduceEqDiff,Nat.reduceAdd,Nat.reduceSub,Nat.reduceLeDiff,reduceCtorEq,this])) hS hF (dq p k) t (Fc V1),?_⟩
   refine hN _ _ ?_
   clear hN N
   have jn:∀x:Id,x.bt<st_b.next->x≠⟨81010002,st_b.next+1+1+1⟩:=fun x hx h=>by rw[h]at hx;(try dsimp only at hx);omega
   cases hb:fW s ts (dq p k) t
   ·(try((repeat(revert hN;revert N;apply Pn.out));refine wk (tw @b21 (tw @bg0 (tw @bg1 (tw @b0 (tw @b3 (tw @b5 (tw @b8 (tw @Kh @hb)))))))) ?_;(repeat(refine Pn.mk ?_;intro N hN))))
    refine fh ?_ ?_ ?_ (by(try dsimp only);exact⟨ae,bk.frame bk.1 Uj.ov ae (fun x hx=>by
      have h1:=dj (i:=x) (n:=st_b.next) ae
      simp only[go_sem, ↓reduceIte,Nat.reduceEqDiff,Nat.reduceAdd,Nat.reduceSub,Nat.reduceLeDiff,reduceCtorEq,h1]),by
     rcases b6 with h|⟨o,n,rows,h1,h2,h3,h4,h5,h6,h7⟩
     ·exact .inl (sd @h)
     ·have h8:=dj h7
      exact .inr ⟨o,n,rows,sd @h1,sd (tw @h2 @h8),h3,h4,ae,h6,ae⟩⟩)
    all_goals simp only[go_sem, ↓reduceIte,Nat.reduceEqDiff,Nat.reduceAdd,Nat.reduceSub,Nat.reduceLeDiff,reduceCtorEq,b21,bg0,bg1,b0,b3,b5,b8,Kh,ah,vt,vq]
   ·rcases b6 with b6|⟨o,n,rows,b6,bo,o3,o4,o5,o6,o7⟩
    ·(try((repeat(revert hN;revert N;apply Pn.out));refine wk (tw @b21 (tw @bg0 (tw @bg1 (tw @b0 (tw @b3 (tw @b5 (tw @b8 (tw @Kh (tw @b6 @hb))))))))) ?_;(repeat(refine Pn.mk ?_;intro N hN))))
     refine fh ?_ ?_ ?_ (by(try dsimp only);exact⟨ae,bk.frame (m:=st_a.next) ak.1 ha.ov ae (fun x hx=>by
      have h1:=dj (i:=x) (n:=st_b.next) ae
      simp only[go_sem, ↓reduceIte,Nat.reduceEqDiff,Nat.reduceAdd,Nat.reduceSub,Nat.reduceLeDiff,reduceCtorEq,h1]),.inr ⟨⟨81010003,st_b.next+1+1+1⟩,1,[[.int .i64 t]],sl @Nat.zero_add,sd @Nat.zero_add,rfl,ae,ae,aU,aU⟩⟩)
     all_goals simp only[go_sem, ↓reduceIte,Nat.reduceEqDiff,Nat.reduceAdd,Nat.reduceSub,Nat.reduceLeDiff,reduceCtorEq,b21,bg0,bg1,b0,b3,b5,b8,Kh,ah,vt,vq]
    ·subst o3
     have e1:rows.length<=16777215:=ae
     have vo:=dj o7
     have vto:=dp (a:=⟨81000000,σ.next⟩) (b:=o) aU
     have vqo:=dp (a:=⟨81004003,st_a.next+1+1⟩) (b:=o) aU
     (try((repeat(revert hN;revert N;apply Pn.out));refine wk (tw @b21 (tw @bg0 (tw @bg1 (tw @b0 (tw @b3 (tw @b5 (tw @b8 (tw @Kh (tw @b6 (tw @bo (tw @hb (tw @e1 @vo)))))))))))) ?_;(repeat(refine Pn.mk ?_;intro N hN))))
     refine fh ?_ ?_ ?_ (by(try dsimp only);exact⟨ae,bk.frame (m:=st_a.next) ak.1 ha.ov ae (fun x hx=>by
      have h1:=dj (i:=x) (n:=st_b.next) ae
      have h2:=dp (a:=x) (b:=o) ae
      simp only[go_sem, ↓reduceIte,Nat.reduceEqDiff,Nat.reduceAdd,Nat.reduceSub,Nat.reduceLeDiff,reduceCtorEq,h1,h2]),.inr ⟨⟨81010003,st_b.next+1+1+1⟩,rows.length+1,rows++[[.int .i64 t]],sl @Nat.zero_add,sd @Nat.zero_add,by simp,ae,ae,aU,aU⟩⟩)
     all_goals simp only[go_sem, ↓reduceIte,Nat.reduceEqDiff,Nat.reduceAdd,Nat.reduceSub,Nat.reduceLeDiff,reduceCtorEq,b21,bg0,bg1,b0,b3,b5,b8,Kh,ah,vt,vq,vto,vqo]
  ·obtain⟨rows,hg,Zv⟩:=bk.2.2
   have vo:=dj Uj.ov
   obtain⟨fi,I8⟩:=EV Zv (dq p k).fP (dq p k).fE
   have hq:((⟨81000000,σ.next⟩:Id)=O)=False:=(dp (a:=O) (b:=⟨81000000,σ.next⟩) (by have:=h.ov;(try dsimp only);omega)).2
   rcases b6 with b6|⟨o,n,rows2,b6,bo,o3,o4,o5,o6,o7⟩
   ·have d0:decide ((0:Int)<((0:Nat):Int))=false:=rfl
    (try((repeat(revert hN;revert N;apply Pn.out));refine wk (tw @b21 (tw @bg0 (tw @bg1 (tw @b0 (tw @b3 (tw @b5 (tw @b8 (tw @Kh (tw @b6 (tw @ht (tw @h2 (tw @v2 (tw @vt (tw @vq (tw @vo (tw @hg (tw @I8 (tw @ah.eq_1 @d0)))))))))))))))))) ?_;(repeat(refine Pn.mk ?_;intro N hN))))
    refine dx ?_ ?_ (by(try dsimp only);exact⟨ae,bk.write ae (fun x hx Qv=>by
     have h1:=dj (i:=x) (n:=st_b.next) ae
     have h2:(x=O)=False:=eq_false Qv
     simp only[go_sem, ↓reduceIte,Nat.reduceEqDiff,Nat.reduceAdd,Nat.reduceSub,Nat.reduceLeDiff,reduceCtorEq,h1,h2]) (sl @Nat.zero_add) (Mn Zv _)⟩)
    all_goals simp only[go_sem, ↓reduceIte,Nat.reduceEqDiff,Nat.reduceAdd,Nat.reduceSub,Nat.reduceLeDiff,reduceCtorEq,a8,ag0,a0,a3,b21,bg0,bg1,b0,b3,b5,b8,Kh,ah,vt,vo,hq]
   ·have d1:decide ((0:Int)<(n:Int))=true:=decide_eq_true ae
    (try((repeat(revert hN;revert N;apply Pn.out));refine wk (tw @b21 (tw @bg0 (tw @bg1 (tw @b0 (tw @b3 (tw @b5 (tw @b8 (tw @Kh (tw @b6 (tw @ht (tw @h2 (tw @v2 (tw @vt (tw @vq (tw @vo (tw @hg (tw @I8 (tw @ah.eq_1 @d1)))))))))))))))))) ?_;(repeat(refine Pn.mk ?_;intro N hN))))
    refine dx ?_ ?_ (by(try dsimp only);exact⟨ae,bk.write ae (fun x hx Qv=>by
     have h1:=dj (i:=x) (n:=st_b.next) ae
     have h2:(x=O)=False:=eq_false Qv
     simp only[go_sem, ↓reduceIte,Nat.reduceEqDiff,Nat.reduceAdd,Nat.reduceSub,Nat.reduceLeDiff,reduceCtorEq,h1,h2]) (sl @Nat.zero_add) (Sm Zv _ _ _ _)⟩)
    all_goals simp only[go_sem, ↓reduceIte,Nat.reduceEqDiff,Nat.reduceAdd,Nat.reduceSub,Nat.reduceLeDiff,reduceCtorEq,a8,ag0,a0,a3,b21,bg0,bg1,b0,b3,b5,b8,Kh,ah,vt,vo,hq]
 ·(try((repeat(revert hN;revert N;apply Pn.out));refine wk (tw @a8 (tw @ag0 (tw @a0 (tw @a3 @hk)))) ?_;(repeat(refine Pn.mk ?_;intro N hN))))
  exact gN (.inr rfl) (vs:=[]) rfl ⟨rfl,ak.frame ak.1 ha.ov aU (fun x hx=>rfl)⟩
structure mB (g:Rows) (n:Nat) (c T O:Id) (s:aw) (ts:List aa):Prop where
 row:g c=some ⟨true,6,[[.sl (s.aZ.br.map ez),.sl (s.aZ.aq.map dD),.sl (s.cj.aq.map ab),.int .i64 s.aX,.map T mP,.map O mP]]⟩
 tl:g T=some ⟨true,mP.pU,ts.map ab⟩
 op:∃rows,g O=some ⟨true,mP.pU,rows⟩/\OW rows
 cv:c.bt<n
 tv:T.bt<n
 ov:O.bt<n
 cT:c≠T
 cO:c≠O
 TO:T≠O
theorem mB.C3 {g:Rows} {n:Nat} {c T O:Id} {s:aw} {ts:List aa} (h:mB g n c T O s ts):Fo g n c T O s ts:=⟨⟨_,h.row⟩,⟨_,h.tl⟩,h.cv,h.tv,h.ov⟩
theorem mB.look {σ:ax} {g:Rows} {n:Nat} {c T O:Id} {s:aw} {ts:List aa} (h:mB σ.get σ.next c T O s ts) (k:lf σ O g n):mB g n c T O s ts:=
 ⟨(k.2.1 _ h.cv h.cO).trans h.row,(k.2.1 _ h.tv h.TO).trans h.tl,k.2.2,Nat.lt_of_lt_of_le h.cv k.1,Nat.lt_of_lt_of_le h.tv k.1,Nat.lt_of_lt_of_le h.ov k.1,h.cT,h.cO,h.TO⟩
theorem mB.frame {g g':Rows} {n n':Nat} {c T O:Id} {s:aw} {ts:List aa} (h:mB g n c T O s ts) (hn:n<=n') (hf:∀x:Id,x.bt<n->g' x=g x):mB g' n' c T O s ts:=
 ⟨(hf _ h.cv).trans h.row,(hf _ h.tv).trans h.tl,by rw[hf _ h.ov];exact h.op,Nat.lt_of_lt_of_le h.cv hn,Nat.lt_of_lt_of_le h.tv hn,Nat.lt_of_lt_of_le h.ov hn,h.cT,h.cO,h.TO⟩
def X6 (σ:ax) (s:aw) (ts:List aa) (r:AV) (σ':ax):Prop:=
 ∃c T O:Id,r=.ptr c 0 0/\mB σ'.get σ'.next c T O s ts/\σ.next<=c.bt/\σ.next<=T.bt/\σ.next<=O.bt/\σ.next<=σ'.next/\∀x:Id,x.bt<σ.next->σ'.get x=σ.get x
theorem yN {l:List aa} {p:ar}:eO l p<0↔∀t∈l,t.aV≠p:=by
 unfold eO rZ
 by_cases h:(l.findIdx fun c=>decide (c.aV=p))<l.length
 ·rw[if_pos h]
  obtain⟨t,ht,h2⟩:=List.findIdx_lt_length.1 h
  exact⟨fun h=>ae,fun h=>absurd (by simpa using h2) (h t ht)⟩
 ·rw[if_neg h]
  exact⟨fun _ t ht e=>h (List.findIdx_lt_length.2 ⟨t,ht,by simp[e]⟩),fun _=>ae⟩
theorem MP {l:List aa} (h:jt l) {k:Nat} (hk:k<l.length):eO (l.take k) (aQ l k).aV<0:=by
 rw[yN]
 intro t ht e
 obtain⟨j,hj,rfl⟩:=List.getElem_of_mem ht
 have NC:j<k:=by rw[List.length_take]at hj;omega
 have:=h j k NC hk
 rw[List.getElem_take]at e
 have e2:aQ l j=l[j]'ae:=by unfold aQ;rw[List.getD_eq_getElem?_getD,List.getElem?_eq_getElem ae];rfl
 rw[e2,e]at this
 simp[jH]at this
theorem Pz {l:List aa} {k:Nat} (hk:k<l.length):(l.take k).map ab++[[.int .i64 (aQ l k).aV.fP,.int .i64 (aQ l k).aV.fE,.int .i64 (aQ l k).bp]]=(l.take (k+1)).map ab:=by
 have e2:aQ l k=l[k]:=by unfold aQ;rw[List.getD_eq_getElem?_getD,List.getElem?_eq_getElem hk];rfl
 rw[List.take_succ_eq_append_getElem hk,List.map_append,e2]
 rfl
theorem iF.KF {s:ay} {l:List aa} (hA:gH s l):∀q,0<=fe l q->eU s (fe l q)=true:=fun _ h=>Dn hA h
theorem Cy (s:aw) (hS:iF s.aZ) (l:List aa) (hA:gH s.aZ l) (σ:ax):Call Tryz.prog 48 [.agg (aH s),.agg [.sl (l.map ab)]] σ (X6 σ s l):=by
 refine ij fF rfl fun jc=>?_
 clear jc
 have F8:=hA.1.nO
 (try((repeat(revert hN;revert N;apply Pn.out));refine wk @aH.eq_1 ?_;(repeat(refine Pn.mk ?_;intro N hN))))
 refine bz (fun n env st=>∃k:Nat,n=(l.length)-k/\k<=(l.length)/\env 18=.int .i64 (k:Int)/\st.get ⟨48001004,σ.next+1⟩=some ⟨true,6,[[.sl (s.aZ.br.map ez),.sl (s.aZ.aq.map dD),.sl (s.cj.aq.map ab),.int .i64 s.aX,.map ⟨48001001,σ.next+1⟩ mP,.map ⟨48001002,σ.next+1⟩ mP]]⟩/\st.get ⟨48001001,σ.next+1⟩=some ⟨true,mP.pU,(l.take k).map ab⟩/\st.get ⟨48001002,σ.next+1⟩=some ⟨true,mP.pU,[]⟩/\st.get ⟨48000001,σ.next⟩=some ⟨true,1,[[.sl (l.map ab)]]⟩/\(σ.next+3<=st.next/\∀x:Id,x.bt<σ.next->st.get x=σ.get x)) (l.length) ⟨0,ae,ae,sl @Nat.zero_add,sl @Nat.zero_add,sl @Nat.zero_add,sl @Nat.zero_add,sl @Nat.zero_add,⟨aU,fun x hx=>by
  have:=dj hx
  simp only[go_sem, ↓reduceIte,Nat.reduceEqDiff,Nat.reduceAdd,Nat.reduceSub,Nat.reduceLeDiff,reduceCtorEq,this]⟩⟩ ?_
 rintro n_a env_a st_a ⟨k,rfl,ale,a18,ag0,ag1,ag2,ag3,oh⟩ eJ
 have a3:=eJ 3 (by kernel_rfl);have a5:=eJ 5 (by kernel_rfl);have Ua:=eJ 16 (by kernel_rfl);have a17:=eJ 17 (by kernel_rfl)
 simp only[go_sem, ↓reduceIte,Nat.reduceEqDiff,Nat.reduceAdd,Nat.reduceSub,Nat.reduceLeDiff,reduceCtorEq]at a3 a5 Ua a17
 clear eJ
 obtain⟨an,eJ⟩:=oh
 have v1:=dj (i:=⟨48001004,σ.next+1⟩) (n:=st_a.next) aU
 have v2:=dj (i:=⟨48001001,σ.next+1⟩) (n:=st_a.next) aU
 have v3:=dj (i:=⟨48001002,σ.next+1⟩) (n:=st_a.next) aU
 have v4:=dj (i:=⟨48000001,σ.next⟩) (n:=st_a.next) aU
 by_cases hk:(k:Int)<(l.length:Int)
 ·have dx:∀{e:Env} {gg:Rows} {nx:Nat},(e 18=.int .i64 (IntKind.i64.wrap ((k:Int)+1)))->(gg ⟨48001004,σ.next+1⟩=some ⟨true,6,[[.sl (s.aZ.br.map ez),.sl (s.aZ.aq.map dD),.sl (s.cj.aq.map ab),.int .i64 s.aX,.map ⟨48001001,σ.next+1⟩ mP,.map ⟨48001002,σ.next+1⟩ mP]]⟩)->(gg ⟨48001001,σ.next+1⟩=some ⟨true,mP.pU,(l.take (k+1)).map ab⟩)->(gg ⟨48001002,σ.next+1⟩=some ⟨true,mP.pU,[]⟩)->(gg ⟨48000001,σ.next⟩=some ⟨true,1,[[.sl (l.map ab)]]⟩)->(σ.next+3<=nx/\∀x:Id,x.bt<σ.next->gg x=σ.get x)->∃m0,m0<(l.length)-k/\∃k:Nat,m0=(l.length)-k/\k<=(l.length)/\e 18=.int .i64 (k:Int)/\gg ⟨48001004,σ.next+1⟩=some ⟨true,6,[[.sl (s.aZ.br.map ez),.sl (s.aZ.aq.map dD),.sl (s.cj.aq.map ab),.int .i64 s.aX,.map ⟨48001001,σ.next+1⟩ mP,.map ⟨48001002,σ.next+1⟩ mP]]⟩/\gg ⟨48001001,σ.next+1⟩=some ⟨true,mP.pU,(l.take k).map ab⟩/\gg ⟨48001002,σ.next+1⟩=some ⟨true,mP.pU,[]⟩/\gg ⟨48000001,σ.next⟩=some ⟨true,1,[[.sl (l.map ab)]]⟩/\(σ.next+3<=nx/\∀x:Id,x.bt<σ.next->gg x=σ.get x):=fun x1 x2 x3 x4 x5 x6=>⟨_,ae,k+1,rfl,ae,(by rw[x1,az ae]),x2,x3,x4,x5,x6⟩
  have iR:k<l.length:=ae
  have hg:=fR iR
  have hm:=tf (MP hA.1.om iR)
  have pr:=Pz iR
  (try((repeat(revert hN;revert N;apply Pn.out));refine wk (tw @a18 (tw @ag0 (tw @ag1 (tw @ag2 (tw @ag3 (tw @a3 (tw @a5 (tw @Ua (tw @a17 (tw @hk (tw @hg (tw @hm (tw @v1 (tw @v2 (tw @v3 (tw @v4 @ab.eq_1)))))))))))))))) ?_;(repeat(refine Pn.mk ?_;intro N hN))))
  refine dx ?_ ?_ ?_ ?_ ?_ (by(try dsimp only);exact⟨ae,fun x hx=>by
   have h1:=dj (i:=x) (n:=st_a.next) ae
   have h2:=dp (a:=x) (b:=⟨48001001,σ.next+1⟩) aU
   have h3:=eJ x hx
   simp only[go_sem, ↓reduceIte,Nat.reduceEqDiff,Nat.reduceAdd,Nat.reduceSub,Nat.reduceLeDiff,reduceCtorEq,h1,h2,h3]⟩)
  all_goals simp only[go_sem, ↓reduceIte,Nat.reduceEqDiff,Nat.reduceAdd,Nat.reduceSub,Nat.reduceLeDiff,reduceCtorEq,a18,ag0,ag1,ag2,ag3,a3,a5,Ua,a17,ab,v1,v2,v3,v4,pr]
 ·have mU:k=l.length:=ae
  subst mU
  have nE:l.take l.length=l:=List.take_length
  (try((repeat(revert hN;revert N;apply Pn.out));refine wk (tw @a18 (tw @ag0 (tw @ag1 (tw @ag2 (tw @ag3 (tw @a3 (tw @a5 (tw @Ua (tw @a17 (tw @hk (tw @v1 (tw @v2 (tw @v3 @v4))))))))))))) ?_;(repeat(refine Pn.mk ?_;intro N hN))))
  refine bz (fun n env st=>∃j:Nat,n=(l.length)-j/\j<=(l.length)/\env 34=.int .i64 (j:Int)/\(σ.next+3<=st.next/\mB st.get st.next ⟨48001004,σ.next+1⟩ ⟨48001001,σ.next+1⟩ ⟨48001002,σ.next+1⟩ s l/\∀x:Id,x.bt<σ.next->st.get x=σ.get x)) (l.length) ⟨0,ae,ae,sl (tw @a18 (tw @ag0 (tw @ag1 (tw @ag2 (tw @ag3 (tw @a3 (tw @a5 (tw @Ua @a17)))))))),by(try dsimp only);exact⟨ae,⟨sd @ag0,sd (tw @ag1 @nE),⟨[],sd @ag2,by intro r hr;cases hr⟩,aU,aU,aU,(by intro e;injection e with e1 e2;revert e1;decide),(by intro e;injection e with e1 e2;revert e1;decide),(by intro e;injection e with e1 e2;revert e1;decide)⟩,fun x hx=>by
   have h3:=eJ x hx
   simp only[go_sem, ↓reduceIte,Nat.reduceEqDiff,Nat.reduceAdd,Nat.reduceSub,Nat.reduceLeDiff,reduceCtorEq,h3]⟩⟩ ?_
  rintro n_b env_b st_b ⟨j,rfl,ble,b34,bI0⟩ eW
  have b5:=eW 5 (by kernel_rfl);have wj:=eW 32 (by kernel_rfl);have xb:=eW 33 (by kernel_rfl)
  simp only[go_sem, ↓reduceIte,Nat.reduceEqDiff,Nat.reduceAdd,Nat.reduceSub,Nat.reduceLeDiff,reduceCtorEq,a18,ag0,ag1,ag2,ag3,a3,a5,Ua,a17]at b5 wj xb
  clear eW
  obtain⟨bn,bC,eW⟩:=bI0
  by_cases hj:(j:Int)<(l.length:Int)
  ·have fh:∀{e:Env} {gg:Rows} {nx:Nat},(e 34=.int .i64 (IntKind.i64.wrap ((j:Int)+1)))->(σ.next+3<=nx/\mB gg nx ⟨48001004,σ.next+1⟩ ⟨48001001,σ.next+1⟩ ⟨48001002,σ.next+1⟩ s l/\∀x:Id,x.bt<σ.next->gg x=σ.get x)->∃m0,m0<(l.length)-j/\∃j:Nat,m0=(l.length)-j/\j<=(l.length)/\e 34=.int .i64 (j:Int)/\(σ.next+3<=nx/\mB gg nx ⟨48001004,σ.next+1⟩ ⟨48001001,σ.next+1⟩ ⟨48001002,σ.next+1⟩ s l/\∀x:Id,x.bt<σ.next->gg x=σ.get x):=fun x1 x2=>⟨_,ae,j+1,rfl,ae,(by rw[x1,az ae]),x2⟩
   have oi:j<l.length:=ae
   have hg:=fR oi
   have Qk:=qM (hA.1.pt oi)
   (try((repeat(revert hN;revert N;apply Pn.out));refine wk (tw @b34 (tw @b5 (tw @wj (tw @xb (tw @hj (tw @hg @ab.eq_1)))))) ?_;(repeat(refine Pn.mk ?_;intro N hN))))
   have Vh:mB (bK (bK st_b.get ⟨48009002,st_b.next+1⟩ ⟨true,3,[[.int .i64 0,.int .i64 0,.int .i64 0]]⟩) ⟨48009002,st_b.next+1⟩ ⟨true,3,[[.int .i64 (aQ l j).aV.fP,.int .i64 (aQ l j).aV.fE,.int .i64 (aQ l j).bp]]⟩) (st_b.next+1+1+1) ⟨48001004,σ.next+1⟩ ⟨48001001,σ.next+1⟩ ⟨48001002,σ.next+1⟩ s l:=bC.frame ae fun x hx=>by
    have h1:=dj hx
    simp only[go_sem, ↓reduceIte,Nat.reduceEqDiff,Nat.reduceAdd,Nat.reduceSub,Nat.reduceLeDiff,reduceCtorEq,h1]
   refine .inr (aA _ _ _ _ _ (fun r σ1 hq=>?_) (uk (σ:=⟨bK (bK st_b.get ⟨48009002,st_b.next+1⟩ ⟨true,3,[[.int .i64 0,.int .i64 0,.int .i64 0]]⟩) ⟨48009002,st_b.next+1⟩ ⟨true,3,[[.int .i64 (aQ l j).aV.fP,.int .i64 (aQ l j).aV.fE,.int .i64 (aQ l j).bp]]⟩,st_b.next+1+1+1⟩) Vh.C3 Vh.cO Vh.TO Vh.op hS (iF.KF hA) (aQ l j).aV Qk.1 Qk.2))
   obtain⟨g1,x1⟩:=σ1
   obtain⟨rfl,hL⟩:=hq
   (try dsimp only at hL)
   have Lf:=Vh.look hL
   have W9:=hL.1
   have hLf:=hL.2.1
   (try dsimp only at W9 hLf)
   refine hN _ _ ?_
   clear hN N
   (try((repeat(revert hN;revert N;apply Pn.out));refine wk (tw @b34 (tw @b5 (tw @wj @xb))) ?_;(repeat(refine Pn.mk ?_;intro N hN))))
   exact fh (sd (tw @b34 (tw @b5 (tw @wj @xb)))) (by(try dsimp only);exact⟨ae,Lf.frame ae (fun x hx=>rfl),fun x hx=>by
    have h1:=dj (i:=x) (n:=st_b.next) ae
    have h2:=hLf x ae (fun e=>by rw[e]at hx;(try dsimp only at hx);omega)
    have h3:=eW x hx
    simp only[h2]
    simp only[go_sem, ↓reduceIte,Nat.reduceEqDiff,Nat.reduceAdd,Nat.reduceSub,Nat.reduceLeDiff,reduceCtorEq,h1,h3]⟩)
  ·(try((repeat(revert hN;revert N;apply Pn.out));refine wk (tw @b34 (tw @b5 (tw @wj (tw @xb @hj)))) ?_;(repeat(refine Pn.mk ?_;intro N hN))))
   exact gN (.inl rfl) (vs:=[.ptr ⟨48001004,σ.next+1⟩ 0 0]) (sd @Nat.zero_add) ⟨_,_,_,rfl,bC.frame aU (fun x hx=>rfl),aU,aU,aU,aU,eW⟩
end Go.Proofs.YtiabgllilcfheaaGreat.V

namespace Go.Proofs.YtiabgllilcfheaaGreat.V
open Go.RowKit
def iG:List aa->aa->List aa
 |[],q=>[q]
 |x::r,q=>if jH q.aV x.aV=true then q::x::r else x::iG r q
theorem jd {q x:aa}:∀{l:List aa},x∈iG l q↔x=q∨x∈l
 |[]=>by simp[iG]
 |y::r=>by
  have ih:=@jd q x r
  rw[iG]
  split
  ·simp
  ·simp only[List.mem_cons,ih]
   constructor
   ·rintro(h|h|h)<;>simp[h]
   ·rintro(h|h|h)<;>simp[h]
theorem ma (q:aa):∀l:List aa,(iG l q).length=l.length+1
 |[]=>rfl
 |y::r=>by
  have ih:=ma q r
  rw[iG]
  split
  ·simp
  ·simp[ih]
theorem nV {l:List aa}:jt l↔l.Pairwise fun a b=>jH a.aV b.aV=true:=by
 rw[List.pairwise_iff_getElem]
 constructor
 ·intro h i j hi hj Gd
  have:=h i j Gd hj
  rwa [fm hi,fm hj]at this
 ·intro h i j Gd hj
  have:=h i j ae hj Gd
  rwa [fm ae,fm hj]
theorem mY {l:List aa} {p:ar}:eO l p<0↔∀t∈l,t.aV≠p:=yN
theorem EX {q:aa}:∀{l:List aa},jt l->eO l q.aV<0->jt (iG l q):=by
 intro l
 rw[nV,nV,mY]
 induction l with
 |nil=>intro _ _;exact List.pairwise_singleton _ _
 |cons y r ih=>
  intro h hn
  obtain⟨h1,h2⟩:=List.pairwise_cons.1 h
  rw[iG]
  split
  ·rename_i hl
   refine List.pairwise_cons.2 ⟨fun x hx=>?_,h⟩
   rcases List.mem_cons.1 hx with rfl|hx
   ·exact hl
   ·exact jg hl (h1 x hx)
  ·rename_i hl
   rw[Bool.not_eq_true]at hl
   refine List.pairwise_cons.2 ⟨fun x hx=>?_,ih h2 fun t ht=>hn t (by simp[ht])⟩
   rcases jd.1 hx with rfl|hx
   ·exact Cs hl fun e=>hn y (by simp) e.symm
   ·exact h1 x hx
theorem kJ (x:aa) (r:List aa) (p:ar):fe (x::r) p=if x.aV=p then x.bp else fe r p:=by
 unfold fe eO rZ
 rw[List.findIdx_cons]
 by_cases h:x.aV=p
 ·simp[h,aQ]
 ·simp only[h,decide_false,cond_false,List.length_cons,Nat.add_lt_add_iff_right,if_false]
  by_cases hl:(r.findIdx fun c=>decide (c.aV=p))<r.length
  ·rw[if_pos hl,if_pos hl,if_pos ae,if_pos ae]
   simp[aQ]
  ·rw[if_neg hl,if_neg hl];rfl
theorem Dm {q:aa} (p:ar):∀{l:List aa},(∀t∈l,t.aV≠q.aV)->fe (iG l q) p=if q.aV=p then q.bp else fe l p
 |[],_=>by rw[iG,kJ]
 |x::r,h=>by
  have ih:=@Dm q p r fun t ht=>h t (by simp[ht])
  rw[iG]
  split
  ·rw[kJ]
  ·rw[kJ,ih,kJ]
   by_cases h1:x.aV=p
   ·have h2:q.aV≠p:=fun e=>h x (by simp) (h1.trans e.symm)
    rw[if_pos h1,if_neg h2,if_pos h1]
   ·rw[if_neg h1,if_neg h1]
theorem BH {q:aa} (p:ar):∀{l:List aa},(∀t∈l,t.aV≠q.aV)->fe (l++[q]) p=if q.aV=p then q.bp else fe l p
 |[],_=>by rw[List.nil_append,kJ]
 |x::r,h=>by
  have ih:=@BH q p r fun t ht=>h t (by simp[ht])
  rw[List.cons_append,kJ,ih,kJ]
  by_cases h1:x.aV=p
  ·have h2:q.aV≠p:=fun e=>h x (by simp) (h1.trans e.symm)
   rw[if_pos h1,if_neg h2,if_pos h1]
  ·rw[if_neg h1,if_neg h1]
theorem Be {α:Type} [DecidableEq α]:∀{xs ys:List α},xs.Nodup->(∀x∈xs,x∈ys)->xs.length<=ys.length
 |[],_,_,_=>Nat.zero_le _
 |x::xs,ys,hn,h=>by
  obtain⟨h1,h2⟩:=List.nodup_cons.1 hn
  have hx:=h x (by simp)
  have:=@Be α _ xs (ys.erase x) h2 fun y hy=>(List.mem_erase_of_ne fun e=>h1 (by rw[<-e];exact hy)).2 (h y (by simp[hy]))
  rw[List.length_erase_of_mem hx]at this
  have:=List.length_pos_of_mem hx
  rw[List.length_cons];omega
theorem JS {l:List aa} (h:jt l):l.Nodup:=by
 rw[nV]at h
 refine List.Pairwise.imp (fun {a b} qz e=>?_) h
 rw[e,jM]at qz;cases qz
abbrev iT:=List aa×List aa
noncomputable def fH (s:aw) (st:iT) (x:aa):iT:=if fW s st.2 x.aV x.bp=true then(st.1++[x],iG st.2 x)else st
noncomputable def fG (s:aw) (l:List aa) (st:iT):iT:=l.foldl (fH s) st
noncomputable def pP (s:aw) (l:List aa):Nat->iT->iT
 |0,st=>st
 |n+1,st=>if (fG s l st).1.length=st.1.length then fG s l st else pP s l n (fG s l st)
noncomputable def jl (s:aw) (l:List aa):iT:=pP s l (l.length+1) ([],s.cj.aq)
def qu (l now:List aa):Nat:=(l.filter fun x=>decide (eO now x.aV<0)).length
theorem filter_lt {α:Type} {p q:α->Bool} (hpq:∀x,q x=true->p x=true) {x:α} (hp:p x=true) (hq:q x=false):∀{l:List α},x∈l->(l.filter q).length<(l.filter p).length:=by
 have le:∀l:List α,(l.filter q).length<=(l.filter p).length:=fun l=>by
  induction l with
  |nil=>exact Nat.le_refl _
  |cons y r ih=>
   rw[List.filter_cons,List.filter_cons]
   cases h1:q y
   ·cases h2:p y<;>simp<;>omega
   ·rw[hpq y h1];simp;omega
 intro l hl
 induction l with
 |nil=>cases hl
 |cons y r ih=>
  rcases List.mem_cons.1 hl with rfl|hl
  ·have:=le r
   rw[List.filter_cons,List.filter_cons,hp,hq];simp;omega
  ·have:=ih hl
   rw[List.filter_cons,List.filter_cons]
   cases h1:q y
   ·cases h2:p y<;>simp<;>omega
   ·rw[hpq y h1];simp;omega
structure pA (s:aw) (l:List aa) (st:iT):Prop where
 om:jt st.2
 sub:∀x∈st.2,x∈l
 done:∀x∈st.1,x∈l
 len:st.2.length=s.cj.aq.length+st.1.length
theorem pA.nO {s:aw} {l:List aa} {st:iT} (h:pA s l st):st.2.length<=l.length:=by
 classical
 exact Be (JS h.om) h.sub
theorem pA.rR {s:aw} {l:List aa} {st:iT} (h:pA s l st) (hA:gH s.aZ l):gH s.aZ st.2:=by
 refine⟨⟨Nat.le_trans h.nO hA.1.nO,fun i hi=>?_⟩,fun t ht=>hA.2 t (h.sub t ht)⟩
 obtain⟨j,hj,iv⟩:=List.getElem_of_mem (h.sub _ (fQ hi))
 have h1:=hA.1.ok j hj
 rw[Dg,fm hj,iv]at h1
 exact⟨h1.1,h1.2.1,fun h0=>h.om _ _ ae hi⟩
theorem qq {s:aw} {l:List aa} (hA:gH s.aZ l) {now:List aa} (hs:∀x∈now,x∈l) {p:ar} {t:Int} (h:fW s now p t=true):eO now p<0:=by
 rcases Int.lt_or_le (eO now p) 0 with h0|h0
 ·exact h0
 ·exfalso
  obtain⟨h1,_⟩:=kZ h0
  have h2:=(eL (hA.2 _ (hs _ (fQ h1)))).1
  simp[fW,fe,h0]at h
  omega
theorem pA.step {s:aw} {l:List aa} {st:iT} (h:pA s l st) (hA:gH s.aZ l) {x:aa} (hx:x∈l):pA s l (fH s st x):=by
 unfold fH
 split
 ·rename_i hf
  have h0:=qq hA h.sub hf
  exact⟨EX h.om h0,fun y hy=>by rcases jd.1 hy with rfl|hy;exact hx;exact h.sub y hy,fun y hy=>by
   rcases List.mem_append.1 hy with hy|hy
   ·exact h.done y hy
   ·rw[List.mem_singleton.1 hy];exact hx,by rw[ma,List.length_append,List.length_singleton,h.len];omega⟩
 ·exact h
theorem IT {s:aw} {l:List aa} {st:iT} (h:pA s l st) (hA:gH s.aZ l) {x:aa} (hx:x∈l):qu l (fH s st x).2+(fH s st x).1.length<=qu l st.2+st.1.length:=by
 unfold fH
 split
 ·rename_i hf
  have h0:=qq hA h.sub hf
  have:qu l (iG st.2 x)<qu l st.2:=filter_lt (x:=x) (fun y hy=>by
   simp only[decide_eq_true_eq,mY]at hy ⊢
   exact fun t ht=>hy t (jd.2 (.inr ht))) (by simpa using h0) (by
   simp only[decide_eq_false_iff_not,mY]
   exact fun h=>h x (jd.2 (.inl rfl)) rfl) hx
  simp only[List.length_append,List.length_singleton]
  omega
 ·exact Nat.le_refl _
noncomputable def gV (s:aw) (l:List aa) (st:iT) (i:Nat):iT:=(l.take i).foldl (fH s) st
theorem ta (s:aw) (l:List aa) (st:iT) {i:Nat} (hi:i<l.length):gV s l st (i+1)=fH s (gV s l st i) (aQ l i):=by
 unfold gV
 rw[List.take_succ_eq_append_getElem hi,List.foldl_append,fm hi];rfl
theorem nR (s:aw) (l:List aa) (st:iT):gV s l st l.length=fG s l st:=by rw[gV,List.take_length];rfl
theorem wc {s:aw} {l:List aa} {st:iT} (h:pA s l st) (hA:gH s.aZ l):∀i,i<=l.length->pA s l (gV s l st i)/\qu l (gV s l st i).2+(gV s l st i).1.length<=qu l st.2+st.1.length/\st.1.length<=(gV s l st i).1.length
 |0,_=>by simp[gV];exact h
 |i+1,hi=>by
  obtain⟨h1,h2,h3⟩:=wc h hA i ae
  rw[ta s l st hi]
  refine⟨h1.step hA (fQ hi),Nat.le_trans (IT h1 hA (fQ hi)) h2,Nat.le_trans h3 ?_⟩
  unfold fH
  split
  ·simp
  ·exact Nat.le_refl _
theorem HA (l now:List aa):qu l now<=l.length:=List.length_filter_le _ _
structure BE (s:aw):Prop where
 set:iF s.aZ
 kQ:gH s.aZ s.cj.aq
 some:1<=s.cj.aq.length
 MR:js s.aX 1 16=true
theorem np.w {s:aw} (h:np s):BE s:=⟨h.set,h.kQ,h.some,h.MR⟩
theorem rj {s:aw} {l:List aa} (hP:BE s) (hA:gH s.aZ l) (hW:fw s.cj.aq l=true):pA s l ([],s.cj.aq):=by
 refine⟨hP.kQ.1.om,fun x hx=>?_,fun x hx=>by(cases hx),rfl⟩
 unfold fw at hW
 rw[List.all_eq_true]at hW
 have h1:=of_decide_eq_true (hW x hx)
 have h2:=(eL (hP.kQ.2 x hx)).1
 have h0:0<=eO l x.aV:=by
  rcases Int.lt_or_le (eO l x.aV) 0 with h0|h0
  ·rw[fe,if_neg ae]at h1;omega
  ·exact h0
 obtain⟨h3,h4⟩:=kZ h0
 rw[fe,if_pos h0]at h1
 have:x=aQ l (eO l x.aV).toNat:=by
  cases uR:aQ l (eO l x.aV).toNat with
  |mk a t=>rw[uR]at h1 h4;cases x;simp_all
 rw[this];exact fQ h3
theorem AY {s:aw} {l:List aa} {st:iT} (h:pA s l st) (hA:gH s.aZ l) {n:Nat} (hn:qu l st.2<n):
  ((fG s l st).1.length=st.1.length->pP s l n st=fG s l st)/\
  ((fG s l st).1.length≠st.1.length->∃m,n=m+1/\pP s l n st=pP s l m (fG s l st)/\qu l (fG s l st).2<m):=by
 obtain⟨m,rfl⟩:∃m,n=m+1:=⟨n-1,ae⟩
 obtain⟨h1,h2,h3⟩:=wc h hA l.length (Nat.le_refl _)
 rw[nR]at h1 h2 h3
 refine⟨fun e=>by rw[pP,if_pos e],fun e=>⟨m,rfl,by rw[pP,if_neg e],ae⟩⟩
end Go.Proofs.YtiabgllilcfheaaGreat.V

namespace Go.Proofs.YtiabgllilcfheaaGreat.V
open Go.RowKit
attribute [local irreducible] er wpOps fY Call
attribute [local go_sem] aF fC eR fN fK du upd cw K.av cQ AV.cells AV.cell rowOf rowsOf part ld rowAt bK cq dH dX gG bP dd eh fJ fa dw ea db da dM dP bV bd cU bU cW cV dV eb dZ cR bY dc dY bQ aD cY cF gF bD cL bW aY dn bj dI AV.undef bH bJ dQ dW dL dK cK ef eo cz ee ec cX cZ List.getD_cons_zero List.getD_cons_succ List.getD_nil List.all_cons List.all_nil Bool.and_true Bool.true_and Bool.and_self Bool.not_true Bool.not_false Option.map_some Option.map_none Option.bind_some Option.bind_none List.length_cons List.length_nil List.take_succ_cons List.take_zero List.take_nil List.drop_succ_cons List.drop_zero List.drop_nil List.head?_cons List.map_cons List.map_nil List.getElem?_cons_zero List.getElem?_cons_succ List.cons_append List.nil_append List.append_nil List.length_map List.set_cons_zero List.set_cons_succ Nat.reduceMul eq_self Int.toNat_natCast Int.natCast_nonneg and_self true_and and_true decide_true decide_false Bool.false_eq_true Nat.zero_add Nat.add_zero List.contains_cons List.contains_nil Bool.or_false Bool.false_or beq_self_eq_true Nat.reduceBEq ne_eq not_true_eq_false not_false_eq_true Id.mk.injEq false_and and_false Nat.reduceLT Int.reduceLE Int.reduceLT Int.reduceToNat Int.reduceNeg Int.reduceAdd Nat.le_refl List.length_append beq_true beq_false Bool.not_eq_eq_eq_not or_false false_or eu ai aj aP bh bZ cm aW bx aK bf cP bI
def KB (t:jE):Prop:=t.ep.length<=1048576
structure UP (s:ay):Prop where
 g:s.br.length<=1048576
 t:s.aq.length<=1048576
 s:∀t∈s.aq,KB t
structure Di (y:aw):Prop where
 s:UP y.aZ
 a:y.cj.aq.length<=1048576
variable {P:Program}
def Hg {α:Type} (R:Np α) (z:Nat) (g:Rows) (a:AV) (xs:List α) (ids:List Id):Prop:=∃o rows is,a=.own o 0 xs.length/\g o=some ⟨true,z,rows⟩/\fX R g rows xs is/\ids=o::is
def Al {α:Type} (e:α->List AV):Np α:=fun _ cs x ids=>cs=e x/\ids=[]
theorem K6 {α:Type} {e:α->List AV} {z:Nat} (hz:∀x,(e x).length=z) (hc:∀x,(e x).all AV.cell=true) (hs:z<xp):De (Al e) z where
 frame:=fun h _=>h
 len:=fun h=>by rw[h.1];exact hz _
 cell:=fun h=>by rw[h.1];exact hc _
 live:=fun h i hi=>by rw[h.2]at hi;cases hi
 small:=hs
def KA:Np jE:=fun g cs t ids=>∃i,cs=[.str t.cI,.own i 0 t.ep.length]/\g i=some ⟨true,1,t.ep.map aJ⟩/\ids=[i]
theorem ZZ:De KA 2 where
 frame:=fun⟨i,h1,h2,h3⟩ hf=>⟨i,h1,(hf i (by rw[h3];simp)).trans h2,h3⟩
 len:=fun⟨i,h1,_⟩=>by rw[h1];rfl
 cell:=fun⟨i,h1,_⟩=>by rw[h1];rfl
 live:=fun⟨i,h1,h2,h3⟩ j hj=>by
  rw[h3]at hj
  have:j=i:=by simpa using hj
  subst this
  exact⟨_,h2,rfl,by simp[xp]⟩
 small:=by simp[xp]
theorem XQ {g:Rows} {cs:List AV} {t:jE} {ids:List Id} (n:Nat) (h:KA g cs t ids):eC (eu g) (n+2) cs=some (dD t):=by
 obtain⟨i,rfl,h2,_⟩:=h
 have h3:V.fz (eu g) (n+2) (.own i 0 t.ep.length)=some (.sl (t.ep.map aJ)):=kG (e:=aJ) (sz:=1) (by simp[eu,h2]) rfl fun x=>by simp[aJ,ai,aj,aP]
 simp only[ai,aj,bZ,h3,Option.map_some,dD]
end Go.Proofs.YtiabgllilcfheaaGreat.V

namespace Go.Proofs.YtiabgllilcfheaaGreat.V
open Go.RowKit
attribute [local irreducible] er wpOps fY Call
attribute [local go_sem] aF fC eR fN fK du upd cw K.av cQ AV.cells AV.cell rowOf rowsOf part ld rowAt bK cq dH dX gG bP dd eh fJ fa dw ea db da dM dP bV bd cU bU cW cV dV eb dZ cR bY dc dY bQ aD cY cF gF bD cL bW aY dn bj dI AV.undef bH bJ dQ dW dL dK cK ef eo cz ee ec cX cZ List.getD_cons_zero List.getD_cons_succ List.getD_nil List.all_cons List.all_nil Bool.and_true Bool.true_and Bool.and_self Bool.not_true Bool.not_false Option.map_some Option.map_none Option.bind_some Option.bind_none List.length_cons List.length_nil List.take_succ_cons List.take_zero List.take_nil List.drop_succ_cons List.drop_zero List.drop_nil List.head?_cons List.map_cons List.map_nil List.getElem?_cons_zero List.getElem?_cons_succ List.cons_append List.nil_append List.append_nil List.length_map List.set_cons_zero List.set_cons_succ Nat.reduceMul eq_self Int.toNat_natCast Int.natCast_nonneg and_self true_and and_true decide_true decide_false Bool.false_eq_true Nat.zero_add Nat.add_zero List.contains_cons List.contains_nil Bool.or_false Bool.false_or beq_self_eq_true Nat.reduceBEq ne_eq not_true_eq_false not_false_eq_true Id.mk.injEq false_and and_false Nat.reduceLT Int.reduceLE Int.reduceLT Int.reduceToNat Int.reduceNeg Int.reduceAdd Nat.le_refl List.length_append beq_true beq_false Bool.not_eq_eq_eq_not or_false false_or eu ai aj aP bh bZ cm aW bx aK bf cP bI
theorem flatG:De (Al ez) 2:=K6 (fun _=>rfl) (fun _=>rfl) (by simp[xp])
theorem flatP:De (Al ab) 3:=K6 (fun _=>rfl) (fun _=>rfl) (by simp[xp])
def AsmO (g:Rows) (v:AV) (a:sH) (ids:List Id):Prop:=∃x,v=.agg [x]/\Hg (Al ab) 3 g x a.aq ids
structure SysO (g:Rows) (v:AV) (s:aw) (ids:List Id):Prop where
 ex:∃a b c i1 i2 i3,v=.agg [a,b,c,.int .i64 s.aX]/\Hg (Al ez) 2 g a s.aZ.br i1/\Hg KA 2 g b s.aZ.aq i2/\Hg (Al ab) 3 g c s.cj.aq i3/\ids=i1++(i2++i3)
end Go.Proofs.YtiabgllilcfheaaGreat.V

namespace Go.Proofs.YtiabgllilcfheaaGreat
open Go.RowKit
def vh (n:Nat):List UInt8:=if h:n=0 then[]else vh (n / 10)++[UInt8.ofNat (48+n % 10)]
termination_by n
decreasing_by omega
theorem IQ:vh 0=[]:=by unfold vh;simp
theorem KY {n:Nat} (h:n≠0):vh n=vh (n / 10)++[UInt8.ofNat (48+n % 10)]:=by
 conv=>lhs;unfold vh
 rw[dif_neg h]
theorem IG (c:UInt8) (l:ByteArray):((⟨#[c]⟩++l:ByteArray)).data.toList=c::l.data.toList:=by
 simp[ByteArray.data_append]
theorem yq:∀(m n:Nat),n<10 ^ m->(vh n).length<=m
 |0,n,h=>by
  have:n=0:=by simpa using h
  subst this;simp[vh]
 |m+1,n,h=>by
  unfold vh
  split
  ·simp
  ·have:=yq m (n / 10) (by rw[Nat.pow_succ]at h;omega)
   simp;omega
end Go.Proofs.YtiabgllilcfheaaGreat

namespace Go.Proofs.YtiabgllilcfheaaGreat.V
open Go.RowKit
attribute [local irreducible] er wpOps fY Call
attribute [local go_sem] aF fC eR fN fK du upd cw K.av cQ AV.cells AV.cell rowOf rowsOf part ld rowAt bK cq dH dX gG bP dd eh fJ fa dw ea db da dM dP bV bd cU bU cW cV dV eb dZ cR bY dc dY bQ aD cY cF gF bD cL bW aY dn bj dI AV.undef bH bJ dQ dW dL dK cK ef eo cz ee ec cX cZ List.getD_cons_zero List.getD_cons_succ List.getD_nil List.all_cons List.all_nil Bool.and_true Bool.true_and Bool.and_self Bool.not_true Bool.not_false Option.map_some Option.map_none Option.bind_some Option.bind_none List.length_cons List.length_nil List.take_succ_cons List.take_zero List.take_nil List.drop_succ_cons List.drop_zero List.drop_nil List.head?_cons List.map_cons List.map_nil List.getElem?_cons_zero List.getElem?_cons_succ List.cons_append List.nil_append List.append_nil List.length_map List.set_cons_zero List.set_cons_succ Nat.reduceMul eq_self Int.toNat_natCast Int.natCast_nonneg and_self true_and and_true decide_true decide_false Bool.false_eq_true Nat.zero_add Nat.add_zero List.contains_cons List.contains_nil Bool.or_false Bool.false_or beq_self_eq_true Nat.reduceBEq ne_eq not_true_eq_false not_false_eq_true Id.mk.injEq false_and and_false Nat.reduceLT Int.reduceLE Int.reduceLT Int.reduceToNat Int.reduceNeg Int.reduceAdd Nat.le_refl List.length_append beq_true beq_false Bool.not_eq_eq_eq_not or_false false_or eu ai aj aP bh bZ cm aW bx aK bf cP bI
def But (σ:ax) (ids:List Id) (g:Rows) (n:Nat):Prop:=σ.next<=n/\∀x:Id,x.bt<σ.next->x∉ids->g x=σ.get x
theorem Pp {P:Program} {w:World} {D:Nat->Prop} {ι:Names} {k:Int} {vs:Array Value} (h:gy P w D ι [.int .i64 k] vs):vs= #[.int .i64 k]:=by
 obtain⟨h1,h2⟩:=h
 obtain⟨u,hu,hr⟩:=h2 0 _ rfl
 rw[ew hr]at hu
 obtain⟨l⟩:=vs
 cases l with
 |nil=>simp at h1
 |cons a l=>cases l with
  |nil=>simp at hu;subst hu;rfl
  |cons b l=>simp at h1
end Go.Proofs.YtiabgllilcfheaaGreat.V

namespace Go.Proofs.YtiabgllilcfheaaGreat.V
open Go.RowKit
attribute [local irreducible] er wpOps fY Call
attribute [local go_sem] aF fC eR fN fK du upd cw K.av cQ AV.cells AV.cell rowOf rowsOf part ld rowAt bK cq dH dX gG bP dd eh fJ fa dw ea db da dM dP bV bd cU bU cW cV dV eb dZ cR bY dc dY bQ aD cY cF gF bD cL bW aY dn bj dI AV.undef bH bJ dQ dW dL dK cK ef eo cz ee ec cX cZ List.getD_cons_zero List.getD_cons_succ List.getD_nil List.all_cons List.all_nil Bool.and_true Bool.true_and Bool.and_self Bool.not_true Bool.not_false Option.map_some Option.map_none Option.bind_some Option.bind_none List.length_cons List.length_nil List.take_succ_cons List.take_zero List.take_nil List.drop_succ_cons List.drop_zero List.drop_nil List.head?_cons List.map_cons List.map_nil List.getElem?_cons_zero List.getElem?_cons_succ List.cons_append List.nil_append List.append_nil List.length_map List.set_cons_zero List.set_cons_succ eq_self Int.toNat_natCast Int.natCast_nonneg and_self true_and and_true decide_true decide_false Bool.false_eq_true Nat.zero_add Nat.add_zero List.contains_cons List.contains_nil Bool.or_false Bool.false_or beq_self_eq_true ne_eq not_true_eq_false not_false_eq_true Id.mk.injEq false_and and_false Nat.le_refl List.length_append beq_true beq_false Bool.not_eq_eq_eq_not or_false false_or eu ai aj aP bh bZ cm aW bx aK bf cP bI
section
variable {P:Program} {α:Type} {e:α->List AV} {z:Nat} {g g':Rows} {v:AV} {L:List α} {ids:List Id}
def X7 (e:α->List AV) (z:Nat) (g:Rows) (v:AV) (L:List α) (ids:List Id):Prop:=(L=[]/\v=.ck/\ids=[])∨∃o,v=.own o 0 L.length/\g o=some ⟨true,z,L.map e⟩/\ids=[o]/\0<L.length
def XN (e:α->List AV) (L:List α):AV:=if L.length=0 then .ck else .sl (L.map e)
def LikeN (e:α->List AV) (L:List α) (w:AV):Prop:=(w=.ck/\L=[])∨w=.sl (L.map e)
def X5 (P:Program) (f:Nat) (args:List AV) (e:α->List AV) (z:Nat) (L:List α) (c:Int):Prop:=
 ∀n:Nat,Call P f args ⟨fun _=>none,n⟩ (fun r σ'=>∃v ids,r=.ib [v,.int .i64 c]/\X7 e z σ'.get v L ids/\QQ n σ'.next ids)
theorem Aj (hm:P.follows .mixedOrders=true) {f:Nat} {args:List AV} {σ:ax} {K:AV->ax->Prop} (h:Call P f args σ K):Call P f args σ (fun r σ'=>K r σ'/\σ.next<=σ'.next):=
 iS fun hs D ι w vs S U A=>(iC hm h hs D ι w vs S U A).mono (by
  rintro e w' ⟨r,g',n',D2,ι1,u,rfl,hK,T,S1,U1,hn,hR⟩
  exact⟨r,g',n',D2,ι1,u,rfl,⟨hK,hn⟩,T,S1,U1,hn,hR⟩)
end
end Go.Proofs.YtiabgllilcfheaaGreat.V

namespace Go.Proofs.YtiabgllilcfheaaGreat.V
open Go.RowKit
attribute [local irreducible] er wpOps fY Call
attribute [local go_sem] aF fC eR fN fK du upd cw K.av cQ AV.cells AV.cell rowOf rowsOf part ld rowAt bK cq dH dX gG bP dd eh fJ fa dw ea db da dM dP bV bd cU bU cW cV dV eb dZ cR bY dc dY bQ aD cY cF gF bD cL bW aY dn bj dI AV.undef bH bJ dQ dW dL dK cK ef eo cz ee ec cX cZ List.getD_cons_zero List.getD_cons_succ List.getD_nil List.all_cons List.all_nil Bool.and_true Bool.true_and Bool.and_self Bool.not_true Bool.not_false Option.map_some Option.map_none Option.bind_some Option.bind_none List.length_cons List.length_nil List.take_succ_cons List.take_zero List.take_nil List.drop_succ_cons List.drop_zero List.drop_nil List.head?_cons List.map_cons List.map_nil List.getElem?_cons_zero List.getElem?_cons_succ List.cons_append List.nil_append List.append_nil List.length_map List.set_cons_zero List.set_cons_succ Nat.reduceMul eq_self Int.toNat_natCast Int.natCast_nonneg and_self true_and and_true decide_true decide_false Bool.false_eq_true Nat.zero_add Nat.add_zero List.contains_cons List.contains_nil Bool.or_false Bool.false_or beq_self_eq_true Nat.reduceBEq ne_eq not_true_eq_false not_false_eq_true Id.mk.injEq false_and and_false Nat.reduceLT Int.reduceLE Int.reduceLT Int.reduceToNat Int.reduceNeg Int.reduceAdd Nat.le_refl List.length_append beq_true beq_false Bool.not_eq_eq_eq_not or_false false_or eu ai aj aP bh bZ cm aW bx aK bf cP bI
theorem DP (g:Rows) (n:Nat) (x:aa):fb g (n+1) (ab x)=some (ab x):=by simp[ab,bF,cH,eK]
def NS (n:Nat) (L:List aa) (r:AV) (σ':ax):Prop:=∃o:Id,r=.agg [.own o 0 L.length]/\σ'.get o=some ⟨true,3,L.map ab⟩/\n<=o.bt/\o.bt<σ'.next
theorem NS.val {f:Nat} {args args':List AV} {L:List aa} {σ:ax} (h:∀n,Call Tryz.prog f args' ⟨fun _=>none,n⟩ (NS n L)) (hv:eC (eu σ.get) 6 args=some args'):Call Tryz.prog f args σ (fun r σ'=>NS σ.next L r σ'/\Kept σ σ'):=by
 refine Dd mixed hv (aA _ _ _ _ _ (fun r σ' hq=>?_) (Aj mixed (h σ.next)))
 obtain⟨⟨o,rfl,h2,h3,h4⟩,hn⟩:=hq
 refine⟨[o],rfl,fun i hi=>?_,⟨o,rfl,(uF (by simp)).trans h2,h3,h4⟩,hn,fun j hj=>oc fun hc=>?_⟩
 ·rw[List.mem_singleton.1 hi]
  exact⟨_,h2,rfl,fun cs eD a ha=>by
   obtain⟨x,_,rfl⟩:=List.mem_map.1 eD
   simp[ab]at ha
   rcases ha with rfl|rfl|rfl<;>rfl⟩
 ·rw[List.mem_singleton.1 hc]at hj;omega
theorem Ey (l:List aa) (hl:l.length<=1048576) (n0:Nat):Call Tryz.prog 63 [.dv [.sl (l.map ab)]] ⟨fun _=>none,n0⟩ (NS n0 l):=by
 refine ij fF rfl fun jc=>?_
 clear jc
 have Ft:(l.map ab).length<=16777216:=by simp;omega
 have eP:(l.map ab).all (fun c=>c.length==3&&c.all AV.cell)=true:=all_map fun x=>⟨rfl,rfl⟩
 have Km:(l.map ab).length=l.length:=by simp
 generalize qC:l.map ab=rows at Ft eP Km
 (try((repeat(revert hN;revert N;apply Pn.out));refine wk (tw @Ft @eP) ?_;(repeat(refine Pn.mk ?_;intro N hN))))
 exact gN (.inl rfl) (vs:=[.agg [.own ⟨63001005,n0+1⟩ 0 rows.length]]) (sd @Nat.zero_add) ⟨⟨63001005,n0+1⟩,by rw[Km];rfl,by rw[qC];simp only[go_sem, ↓reduceIte,Nat.reduceEqDiff,Nat.reduceAdd,Nat.reduceSub,Nat.reduceLeDiff,reduceCtorEq],aU,aU⟩
def xe (q:aa) (l:List aa):Bool:=l.any fun x=>jH q.aV x.aV
theorem EW {q:aa}:∀{l:List aa},xe q l=false->iG l q=l++[q]
 |[],_=>rfl
 |x::l,h=>by
  unfold xe at h
  rw[List.any_cons,Bool.or_eq_false_iff]at h
  rw[iG,if_neg (by rw[h.1];simp),EW h.2];rfl
theorem Bm {q y:aa}:∀{l:List aa},xe q l=true->iG (l++[y]) q=iG l q++[y]
 |x::l,h=>by
  unfold xe at h
  rw[List.any_cons]at h
  rw[List.cons_append,iG,iG]
  cases hx:jH q.aV x.aV
  ·rw[hx,Bool.false_or]at h
   rw[if_neg (by simp),if_neg (by simp),Bm h];rfl
  ·simp
theorem Bk {q y:aa}:∀{l:List aa},xe q l=false->jH q.aV y.aV=true->iG (l++[y]) q=l++[q]++[y]
 |[],_,hy=>by simp[iG,hy]
 |x::l,h,hy=>by
  unfold xe at h
  rw[List.any_cons,Bool.or_eq_false_iff]at h
  rw[List.cons_append,iG,if_neg (by rw[h.1];simp),Bk h.2 hy];rfl
def jX (q:aa) (l:List aa):List aa:=if xe q l=true then iG l q else l
theorem yu (q:aa) (l:List aa) (y:aa):xe q (l++[y])=(xe q l||jH q.aV y.aV):=by simp[xe]
theorem JK (q:aa) (l:List aa):(jX q l).length<=l.length+1:=by
 unfold jX
 split
 ·rw[ma];omega
 ·omega
theorem Mm {q y:aa} {l:List aa} (h:xe q l=true∨jH q.aV y.aV=false):jX q (l++[y])=jX q l++[y]:=by
 unfold jX
 rw[yu]
 cases hd:xe q l
 ·rw[hd]at h
  have h2:jH q.aV y.aV=false:=by rcases h with h|h;cases h;exact h
  simp[h2]
 ·simp[Bm hd]
theorem Ml {q y:aa} {l:List aa} (h:xe q l=false) (hy:jH q.aV y.aV=true):jX q (l++[y])=jX q l++[q]++[y]:=by
 unfold jX
 rw[yu,h,hy]
 simp[Bk h hy]
def X4 (m:Nat) (L:List aa) (v:AV) (g:Rows) (n:Nat):Prop:=(L=[]/\v=.ck)∨∃o:Id,v=.own o 0 L.length/\g o=some ⟨true,3,L.map ab⟩/\m<=o.bt/\o.bt<n
theorem Fb {l:List aa} {k:Nat} (hk:k<l.length):l.take (k+1)=l.take k++[aQ l k]:=by rw[List.take_succ_eq_append_getElem hk,fm hk]
theorem uq (L:List aa) (q:aa):(L++[q]).map ab=L.map ab++[[.int .i64 q.aV.fP,.int .i64 q.aV.fE,.int .i64 q.bp]]:=by rw[List.map_append];rfl
theorem jJ (L:List aa) (q:aa):(L++[q]).length=L.length+1:=by rw[List.length_append];rfl
theorem Ez (l:List aa) (hl:l.length<=1048576) (p:ar) (t:Int) (n0:Nat):Call Tryz.prog 74 [.dv [.sl (l.map ab)],.agg (ah p),.int .i64 t] ⟨fun _=>none,n0⟩ (NS n0 (iG l ⟨p,t⟩)):=by
 refine ij fF rfl fun jc=>?_
 clear jc
 obtain⟨q,hq⟩:∃q:aa,q=⟨p,t⟩:=⟨_,rfl⟩
 (try((repeat(revert hN;revert N;apply Pn.out));refine wk @ah.eq_1 ?_;(repeat(refine Pn.mk ?_;intro N hN))))
 refine bz (fun n env st=>∃i:Nat,n=(l.length)-i/\i<=(l.length)/\env 9=.int .i64 (i:Int)/\env 8=.bool (xe q (l.take i))/\st.get ⟨74000000,n0⟩=some ⟨true,2,[ah p]⟩/\st.get ⟨74000001,n0⟩=some ⟨true,1,[[.ck]]⟩/\(n0+2<=st.next/\∃v,st.get ⟨74001001,n0+1⟩=some ⟨true,1,[[v]]⟩/\X4 (n0+2) (jX q (l.take i)) v st.get st.next)) (l.length) ⟨0,ae,ae,sl @ah.eq_1,sl @ah.eq_1,sl @ah.eq_1,sl @ah.eq_1,by(try dsimp only);exact⟨ae,.ck,sd @Nat.zero_add,.inl ⟨rfl,rfl⟩⟩⟩ ?_
 rintro n_a env_a st_a ⟨i,rfl,ale,a9,a8,ag0,ag1,oh⟩ eJ
 have a0:=eJ 0 (by kernel_rfl);have a2:=eJ 2 (by kernel_rfl);have a4:=eJ 4 (by kernel_rfl);have a6:=eJ 6 (by kernel_rfl);have a7:=eJ 7 (by kernel_rfl)
 simp only[go_sem, ↓reduceIte,Nat.reduceEqDiff,Nat.reduceAdd,Nat.reduceSub,Nat.reduceLeDiff,reduceCtorEq,ah]at a0 a2 a4 a6 a7
 clear eJ
 obtain⟨an,v,av,aG⟩:=oh
 have vA:=dj (i:=⟨74000000,n0⟩) (n:=st_a.next) aU
 have vB:=dj (i:=⟨74000001,n0⟩) (n:=st_a.next) aU
 have vC:=dj (i:=⟨74001001,n0+1⟩) (n:=st_a.next) aU
 have OE:=JK q (l.take i)
 rw[List.length_take]at OE
 by_cases hi:(i:Int)<(l.length:Int)
 ·have dx:∀{e:Env} {gg:Rows} {nx:Nat},(e 9=.int .i64 (IntKind.i64.wrap ((i:Int)+1)))->(e 8=.bool (xe q (l.take (i+1))))->(gg ⟨74000000,n0⟩=some ⟨true,2,[ah p]⟩)->(gg ⟨74000001,n0⟩=some ⟨true,1,[[.ck]]⟩)->(n0+2<=nx/\∃v,gg ⟨74001001,n0+1⟩=some ⟨true,1,[[v]]⟩/\X4 (n0+2) (jX q (l.take (i+1))) v gg nx)->∃m0,m0<(l.length)-i/\∃i:Nat,m0=(l.length)-i/\i<=(l.length)/\e 9=.int .i64 (i:Int)/\e 8=.bool (xe q (l.take i))/\gg ⟨74000000,n0⟩=some ⟨true,2,[ah p]⟩/\gg ⟨74000001,n0⟩=some ⟨true,1,[[.ck]]⟩/\(n0+2<=nx/\∃v,gg ⟨74001001,n0+1⟩=some ⟨true,1,[[v]]⟩/\X4 (n0+2) (jX q (l.take i)) v gg nx):=fun x1 x2 x3 x4 x5=>⟨_,ae,i+1,rfl,ae,(by rw[x1,az ae]),x2,x3,x4,x5⟩
  have fU:i<l.length:=ae
  have jb:=fR fU
  have eM:=mM p (aQ l i).aV
  have nE:=Fb fU
  have Zz:jH q.aV (aQ l i).aV=jH p (aQ l i).aV:=by rw[hq]
  have gp:(l.map ab).length=l.length:=by simp
  have I6:=yu q (l.take i) (aQ l i)
  rw[<-nE,Zz]at I6
  rw[ah,ah]at eM
  by_cases hc:xe q (l.take i)=true∨jH p (aQ l i).aV=false
  ·have mA:=Mm (q:=q) (y:=aQ l i) (l:=l.take i) (by rw[Zz];exact hc)
   rw[<-nE]at mA
   generalize jX q (l.take i)=L at aG mA OE
   have wJ:=jJ L (aQ l i)
   have l6:=uq L (aQ l i)
   have nr:xe q (l.take (i+1))=xe q (l.take i):=by
    rw[I6]
    rcases hc with h|h<;>rw[h]<;>simp
   rcases aG with⟨hL,rfl⟩|⟨o,rfl,ao,P0,KE⟩
   ·subst hL
    cases hd:xe q (l.take i)
    ·have h2:jH p (aQ l i).aV=false:=by rcases hc with h|h;rw[hd]at h;cases h;exact h
     rw[h2]at eM
     rw[hd]at a8 nr
     (repeat(first|((repeat(revert hN;revert N;apply Pn.out));refine wk (tw @a9 (tw @a8 (tw @ag0 (tw @ag1 (tw @a0 (tw @a2 (tw @a4 (tw @a6 (tw @a7 (tw @hi (tw @jb (tw @vA (tw @vB (tw @vC (tw @av (tw @gp (tw @ah.eq_1 @ab.eq_1))))))))))))))))) ?_;(repeat(refine Pn.mk ?_;intro N hN)))|((try apply Or.inl);refine⟨_,au.x (eM) (sd (tw @a9 (tw @a8 (tw @ag0 (tw @ag1 (tw @a0 (tw @a2 (tw @a4 (tw @a6 (tw @a7 (tw @hi (tw @jb (tw @vA (tw @vB (tw @vC (tw @av (tw @gp (tw @ah.eq_1 @ab.eq_1)))))))))))))))))),?_⟩;refine hN _ _ ?_;clear hN N)))
     refine dx ?_ ?_ ?_ ?_ (by(try dsimp only);exact⟨ae,_,sl @Nat.zero_add,.inr ⟨⟨74009010,st_a.next+1+1⟩,by rw[mA,wJ]<;>(simp only[go_sem, ↓reduceIte,Nat.reduceEqDiff,Nat.reduceAdd,Nat.reduceSub,Nat.reduceLeDiff,reduceCtorEq]<;>rfl),by rw[mA,l6]<;>(simp only[go_sem, ↓reduceIte,Nat.reduceEqDiff,Nat.reduceAdd,Nat.reduceSub,Nat.reduceLeDiff,reduceCtorEq]<;>rfl),aU,aU⟩⟩)
     all_goals simp only[go_sem, ↓reduceIte,Nat.reduceEqDiff,Nat.reduceAdd,Nat.reduceSub,Nat.reduceLeDiff,reduceCtorEq,a9,a8,ag0,ag1,a0,a2,a4,a6,a7,nr,vA,vB,vC,ah]
    ·rw[hd]at a8 nr
     (try((repeat(revert hN;revert N;apply Pn.out));refine wk (tw @a9 (tw @a8 (tw @ag0 (tw @ag1 (tw @a0 (tw @a2 (tw @a4 (tw @a6 (tw @a7 (tw @hi (tw @jb (tw @vA (tw @vB (tw @vC (tw @av (tw @gp (tw @ah.eq_1 @ab.eq_1))))))))))))))))) ?_;(repeat(refine Pn.mk ?_;intro N hN))))
     refine dx ?_ ?_ ?_ ?_ (by(try dsimp only);exact⟨ae,_,sl @Nat.zero_add,.inr ⟨⟨74009010,st_a.next+1+1⟩,by rw[mA,wJ]<;>(simp only[go_sem, ↓reduceIte,Nat.reduceEqDiff,Nat.reduceAdd,Nat.reduceSub,Nat.reduceLeDiff,reduceCtorEq]<;>rfl),by rw[mA,l6]<;>(simp only[go_sem, ↓reduceIte,Nat.reduceEqDiff,Nat.reduceAdd,Nat.reduceSub,Nat.reduceLeDiff,reduceCtorEq]<;>rfl),aU,aU⟩⟩)
     all_goals simp only[go_sem, ↓reduceIte,Nat.reduceEqDiff,Nat.reduceAdd,Nat.reduceSub,Nat.reduceLeDiff,reduceCtorEq,a9,a8,ag0,ag1,a0,a2,a4,a6,a7,nr,vA,vB,vC,ah]
   ·have vo:=dj KE
    have oA:=dp (a:=⟨74000000,n0⟩) (b:=o) aU
    have oB:=dp (a:=⟨74000001,n0⟩) (b:=o) aU
    have oC:=dp (a:=⟨74001001,n0+1⟩) (b:=o) aU
    have Qa:(L.map ab).length=L.length:=by simp
    have kU:L.length<=16777215:=ae
    cases hd:xe q (l.take i)
    ·have h2:jH p (aQ l i).aV=false:=by rcases hc with h|h;rw[hd]at h;cases h;exact h
     rw[h2]at eM
     rw[hd]at a8 nr
     (repeat(first|((repeat(revert hN;revert N;apply Pn.out));refine wk (tw @a9 (tw @a8 (tw @ag0 (tw @ag1 (tw @a0 (tw @a2 (tw @a4 (tw @a6 (tw @a7 (tw @hi (tw @jb (tw @vA (tw @vB (tw @vC (tw @vo (tw @oA (tw @oB (tw @oC (tw @ao (tw @av (tw @gp (tw @Qa (tw @kU (tw @ah.eq_1 @ab.eq_1)))))))))))))))))))))))) ?_;(repeat(refine Pn.mk ?_;intro N hN)))|((try apply Or.inl);refine⟨_,au.x (eM) (sd (tw @a9 (tw @a8 (tw @ag0 (tw @ag1 (tw @a0 (tw @a2 (tw @a4 (tw @a6 (tw @a7 (tw @hi (tw @jb (tw @vA (tw @vB (tw @vC (tw @vo (tw @oA (tw @oB (tw @oC (tw @ao (tw @av (tw @gp (tw @Qa (tw @kU (tw @ah.eq_1 @ab.eq_1))))))))))))))))))))))))),?_⟩;refine hN _ _ ?_;clear hN N)))
     refine dx ?_ ?_ ?_ ?_ (by(try dsimp only);exact⟨ae,_,sl @Nat.zero_add,.inr ⟨⟨74009010,st_a.next+1+1⟩,by rw[mA,wJ]<;>(simp only[go_sem, ↓reduceIte,Nat.reduceEqDiff,Nat.reduceAdd,Nat.reduceSub,Nat.reduceLeDiff,reduceCtorEq]<;>rfl),by rw[mA,l6]<;>(simp only[go_sem, ↓reduceIte,Nat.reduceEqDiff,Nat.reduceAdd,Nat.reduceSub,Nat.reduceLeDiff,reduceCtorEq]<;>rfl),aU,aU⟩⟩)
     all_goals simp only[go_sem, ↓reduceIte,Nat.reduceEqDiff,Nat.reduceAdd,Nat.reduceSub,Nat.reduceLeDiff,reduceCtorEq,a9,a8,ag0,ag1,a0,a2,a4,a6,a7,nr,vA,vB,vC,oA,oB,oC,ah]
    ·rw[hd]at a8 nr
     (try((repeat(revert hN;revert N;apply Pn.out));refine wk (tw @a9 (tw @a8 (tw @ag0 (tw @ag1 (tw @a0 (tw @a2 (tw @a4 (tw @a6 (tw @a7 (tw @hi (tw @jb (tw @vA (tw @vB (tw @vC (tw @vo (tw @oA (tw @oB (tw @oC (tw @ao (tw @av (tw @gp (tw @Qa (tw @kU (tw @ah.eq_1 @ab.eq_1)))))))))))))))))))))))) ?_;(repeat(refine Pn.mk ?_;intro N hN))))
     refine dx ?_ ?_ ?_ ?_ (by(try dsimp only);exact⟨ae,_,sl @Nat.zero_add,.inr ⟨⟨74009010,st_a.next+1+1⟩,by rw[mA,wJ]<;>(simp only[go_sem, ↓reduceIte,Nat.reduceEqDiff,Nat.reduceAdd,Nat.reduceSub,Nat.reduceLeDiff,reduceCtorEq]<;>rfl),by rw[mA,l6]<;>(simp only[go_sem, ↓reduceIte,Nat.reduceEqDiff,Nat.reduceAdd,Nat.reduceSub,Nat.reduceLeDiff,reduceCtorEq]<;>rfl),aU,aU⟩⟩)
     all_goals simp only[go_sem, ↓reduceIte,Nat.reduceEqDiff,Nat.reduceAdd,Nat.reduceSub,Nat.reduceLeDiff,reduceCtorEq,a9,a8,ag0,ag1,a0,a2,a4,a6,a7,nr,vA,vB,vC,oA,oB,oC,ah]
  ·have hd:xe q (l.take i)=false:=by
    cases h:xe q (l.take i)
    ·rfl
    ·exact absurd (.inl h) hc
   have h2:jH p (aQ l i).aV=true:=by
    cases h:jH p (aQ l i).aV
    ·exact absurd (.inr h) hc
    ·rfl
   have mA:=Ml (q:=q) (y:=aQ l i) hd (by rw[Zz];exact h2)
   rw[<-nE]at mA
   have nr:xe q (l.take (i+1))=true:=by rw[I6,h2];simp
   rw[hd]at a8
   rw[h2]at eM
   have Xz:ab q=[.int .i64 p.fP,.int .i64 p.fE,.int .i64 t]:=by rw[hq];rfl
   generalize jX q (l.take i)=L at aG mA OE
   have wJ:=jJ (L++[q]) (aQ l i)
   have l6:=uq (L++[q]) (aQ l i)
   have Zp:=jJ L q
   have Ec:(L++[q]).map ab=L.map ab++[[.int .i64 p.fP,.int .i64 p.fE,.int .i64 t]]:=by rw[List.map_append,List.map_singleton,Xz]
   rw[Zp]at wJ
   rw[Ec]at l6
   rcases aG with⟨hL,rfl⟩|⟨o,rfl,ao,P0,KE⟩
   ·subst hL
    (repeat(first|((repeat(revert hN;revert N;apply Pn.out));refine wk (tw @a9 (tw @a8 (tw @ag0 (tw @ag1 (tw @a0 (tw @a2 (tw @a4 (tw @a6 (tw @a7 (tw @hi (tw @jb (tw @vA (tw @vB (tw @vC (tw @av (tw @gp (tw @ah.eq_1 @ab.eq_1))))))))))))))))) ?_;(repeat(refine Pn.mk ?_;intro N hN)))|((try apply Or.inl);refine⟨_,au.x (eM) (sd (tw @a9 (tw @a8 (tw @ag0 (tw @ag1 (tw @a0 (tw @a2 (tw @a4 (tw @a6 (tw @a7 (tw @hi (tw @jb (tw @vA (tw @vB (tw @vC (tw @av (tw @gp (tw @ah.eq_1 @ab.eq_1)))))))))))))))))),?_⟩;refine hN _ _ ?_;clear hN N)))
    refine dx ?_ ?_ ?_ ?_ (by(try dsimp only);exact⟨ae,_,sl @Nat.zero_add,.inr ⟨⟨74009010,st_a.next+1+1+1+1⟩,by rw[mA,wJ]<;>(simp only[go_sem, ↓reduceIte,Nat.reduceEqDiff,Nat.reduceAdd,Nat.reduceSub,Nat.reduceLeDiff,reduceCtorEq]<;>rfl),by rw[mA,l6]<;>(simp only[go_sem, ↓reduceIte,Nat.reduceEqDiff,Nat.reduceAdd,Nat.reduceSub,Nat.reduceLeDiff,reduceCtorEq]<;>rfl),aU,aU⟩⟩)
    all_goals simp only[go_sem, ↓reduceIte,Nat.reduceEqDiff,Nat.reduceAdd,Nat.reduceSub,Nat.reduceLeDiff,reduceCtorEq,a9,a8,ag0,ag1,a0,a2,a4,a6,a7,nr,vA,vB,vC,ah]
   ·have vo:=dj KE
    have oA:=dp (a:=⟨74000000,n0⟩) (b:=o) aU
    have oB:=dp (a:=⟨74000001,n0⟩) (b:=o) aU
    have oC:=dp (a:=⟨74001001,n0+1⟩) (b:=o) aU
    have Qa:(L.map ab).length=L.length:=by simp
    have kU:L.length<=16777214:=ae
    have Vm:L.length<=16777215:=ae
    (repeat(first|((repeat(revert hN;revert N;apply Pn.out));refine wk (tw @a9 (tw @a8 (tw @ag0 (tw @ag1 (tw @a0 (tw @a2 (tw @a4 (tw @a6 (tw @a7 (tw @hi (tw @jb (tw @vA (tw @vB (tw @vC (tw @vo (tw @oA (tw @oB (tw @oC (tw @ao (tw @av (tw @gp (tw @Qa (tw @kU (tw @Vm (tw @ah.eq_1 @ab.eq_1))))))))))))))))))))))))) ?_;(repeat(refine Pn.mk ?_;intro N hN)))|((try apply Or.inl);refine⟨_,au.x (eM) (sd (tw @a9 (tw @a8 (tw @ag0 (tw @ag1 (tw @a0 (tw @a2 (tw @a4 (tw @a6 (tw @a7 (tw @hi (tw @jb (tw @vA (tw @vB (tw @vC (tw @vo (tw @oA (tw @oB (tw @oC (tw @ao (tw @av (tw @gp (tw @Qa (tw @kU (tw @Vm (tw @ah.eq_1 @ab.eq_1)))))))))))))))))))))))))),?_⟩;refine hN _ _ ?_;clear hN N)))
    refine dx ?_ ?_ ?_ ?_ (by(try dsimp only);exact⟨ae,_,sl @Nat.zero_add,.inr ⟨⟨74009010,st_a.next+1+1+1+1⟩,by rw[mA,wJ]<;>(simp only[go_sem, ↓reduceIte,Nat.reduceEqDiff,Nat.reduceAdd,Nat.reduceSub,Nat.reduceLeDiff,reduceCtorEq]<;>rfl),by rw[mA,l6]<;>(simp only[go_sem, ↓reduceIte,Nat.reduceEqDiff,Nat.reduceAdd,Nat.reduceSub,Nat.reduceLeDiff,reduceCtorEq]<;>rfl),aU,aU⟩⟩)
    all_goals simp only[go_sem, ↓reduceIte,Nat.reduceEqDiff,Nat.reduceAdd,Nat.reduceSub,Nat.reduceLeDiff,reduceCtorEq,a9,a8,ag0,ag1,a0,a2,a4,a6,a7,nr,vA,vB,vC,oA,oB,oC,ah]
 ·have l5:i=l.length:=ae
  subst l5
  rw[List.take_length]at a8 aG OE
  cases hd:xe q l
  ·rw[hd]at a8
   have mA:iG l ⟨p,t⟩=jX q l++[q]:=by rw[<-hq,EW hd,jX,hd];simp
   have Xz:ab q=[.int .i64 p.fP,.int .i64 p.fE,.int .i64 t]:=by rw[hq];rfl
   generalize jX q l=L at aG OE mA
   have wJ:=jJ L q
   have l6:(L++[q]).map ab=L.map ab++[[.int .i64 p.fP,.int .i64 p.fE,.int .i64 t]]:=by rw[List.map_append,List.map_singleton,Xz]
   rcases aG with⟨hL,rfl⟩|⟨o,rfl,ao,P0,KE⟩
   ·subst hL
    (try((repeat(revert hN;revert N;apply Pn.out));refine wk (tw @a9 (tw @a8 (tw @ag0 (tw @ag1 (tw @a0 (tw @a2 (tw @a4 (tw @a6 (tw @a7 (tw @hi (tw @vA (tw @vB (tw @vC (tw @av (tw @ah.eq_1 @ab.eq_1))))))))))))))) ?_;(repeat(refine Pn.mk ?_;intro N hN))))
    exact gN (.inl rfl) (vs:=[.agg [.own ⟨74011006,st_a.next+1+1⟩ 0 1]]) (sd (tw @a9 (tw @a8 (tw @ag0 (tw @ag1 (tw @a0 (tw @a2 (tw @a4 (tw @a6 (tw @a7 @vB)))))))))) ⟨⟨74011006,st_a.next+1+1⟩,by rw[mA];rfl,by rw[mA];simp only[go_sem, ↓reduceIte,Nat.reduceEqDiff,Nat.reduceAdd,Nat.reduceSub,Nat.reduceLeDiff,reduceCtorEq,vB];rw[Xz],aU,aU⟩
   ·have vo:=dj KE
    have oA:=dp (a:=⟨74000000,n0⟩) (b:=o) aU
    have oB:=dp (a:=⟨74000001,n0⟩) (b:=o) aU
    have oC:=dp (a:=⟨74001001,n0+1⟩) (b:=o) aU
    have Qa:(L.map ab).length=L.length:=by simp
    have kU:L.length<=16777215:=ae
    (try((repeat(revert hN;revert N;apply Pn.out));refine wk (tw @a9 (tw @a8 (tw @ag0 (tw @ag1 (tw @a0 (tw @a2 (tw @a4 (tw @a6 (tw @a7 (tw @hi (tw @vA (tw @vB (tw @vC (tw @vo (tw @oA (tw @oB (tw @oC (tw @ao (tw @av (tw @Qa (tw @kU (tw @ah.eq_1 @ab.eq_1)))))))))))))))))))))) ?_;(repeat(refine Pn.mk ?_;intro N hN))))
    exact gN (.inl rfl) (vs:=[.agg [.own ⟨74011006,st_a.next+1+1⟩ 0 (L.length+1)]]) (sd (tw @a9 (tw @a8 (tw @ag0 (tw @ag1 (tw @a0 (tw @a2 (tw @a4 (tw @a6 (tw @a7 @vB)))))))))) ⟨⟨74011006,st_a.next+1+1⟩,by rw[mA,wJ];rfl,by rw[mA,l6];simp only[go_sem, ↓reduceIte,Nat.reduceEqDiff,Nat.reduceAdd,Nat.reduceSub,Nat.reduceLeDiff,reduceCtorEq,vB],aU,aU⟩
  ·rw[hd]at a8
   have mA:iG l ⟨p,t⟩=jX q l:=by rw[<-hq,jX,hd];simp
   have lH:0<(jX q l).length:=by rw[<-mA,ma];omega
   generalize jX q l=L at aG OE lH mA
   rcases aG with⟨hL,rfl⟩|⟨o,rfl,ao,P0,KE⟩
   ·subst hL;cases lH
   ·have vo:=dj KE
    have oB:=dp (a:=⟨74000001,n0⟩) (b:=o) aU
    (try((repeat(revert hN;revert N;apply Pn.out));refine wk (tw @a9 (tw @a8 (tw @ag0 (tw @ag1 (tw @a0 (tw @a2 (tw @a4 (tw @a6 (tw @a7 (tw @hi (tw @vA (tw @vB (tw @vC (tw @vo (tw @ao (tw @av (tw @ah.eq_1 @ab.eq_1))))))))))))))))) ?_;(repeat(refine Pn.mk ?_;intro N hN))))
    exact gN (.inl rfl) (vs:=[.agg [.own o 0 L.length]]) (sd (tw @a9 (tw @a8 (tw @ag0 (tw @ag1 (tw @a0 (tw @a2 (tw @a4 (tw @a6 (tw @a7 @vB)))))))))) ⟨o,by rw[mA];rfl,by rw[mA];simp only[go_sem, ↓reduceIte,Nat.reduceEqDiff,Nat.reduceAdd,Nat.reduceSub,Nat.reduceLeDiff,reduceCtorEq,vB,oB,ao],aU,aU⟩
theorem LU (s:aw) (hP:BE s) (l:List aa) (hA:gH s.aZ l) (p:ar) (t:Int) (ht:eU s.aZ t=true):au Tryz.prog 73 [.dv (aH s),.dv [.sl (l.map ab)],.agg [.int .i64 p.fP,.int .i64 p.fE,.int .i64 t]] (.bool (fW s l p t)):=by
 refine au.body fF rfl fun jc n0=>?_
 clear jc
 have h1:=tb p
 have h2:=(yR s.aZ t).cut mixed (.ptr _ [.sl (s.cj.aq.map ab),.int .i64 s.aX] (.same _ .nil))
 have h3:=oL l p hA.1.om (by have:=hA.1.nO;omega)
 rw[ht]at h2
 by_cases h0:zf p=true
 ·rw[h0]at h1
  obtain⟨hx,hy⟩:=qM h0
  by_cases hi:eO l p<0
  ·have h4:=(Cj s.aZ hP.set l hA p hx hy t ht).cut mixed (.ptr _ [.sl (s.cj.aq.map ab),.int .i64 s.aX] (.same _ (.same _ (.same _ .nil))))
   have e:fW s l p t=decide (s.aX<=nL s.aZ (fe l) p t):=by simp[fW,h0,(BI hA p).2 hi]
   rw[e]
   (repeat(first|((repeat(revert hN;revert N;apply Pn.out));refine wk (tw @aH.eq_1 (tw @ad.eq_1 (tw @ah.eq_1 @hi))) ?_;(repeat(refine Pn.mk ?_;intro N hN)))|((try apply Or.inl);refine⟨_,au.x (h1) (sd (tw @aH.eq_1 (tw @ad.eq_1 (tw @ah.eq_1 @hi)))),?_⟩;refine hN _ _ ?_;clear hN N)|((try apply Or.inl);refine⟨_,au.x (h2) (sd (tw @aH.eq_1 (tw @ad.eq_1 (tw @ah.eq_1 @hi)))),?_⟩;refine hN _ _ ?_;clear hN N)|((try apply Or.inl);refine⟨_,au.x (h3) (sd (tw @aH.eq_1 (tw @ad.eq_1 (tw @ah.eq_1 @hi)))),?_⟩;refine hN _ _ ?_;clear hN N)|((try apply Or.inl);refine⟨_,au.x (h4) (sd (tw @aH.eq_1 (tw @ad.eq_1 (tw @ah.eq_1 @hi)))),?_⟩;refine hN _ _ ?_;clear hN N)))
   exact cu (b:=decide (s.aX<=nL s.aZ (fe l) p t)) (.inl rfl) (sd @Nat.zero_add) rfl
  ·have e:fW s l p t=false:=by
    have:¬fe l p<0:=fun h=>hi ((BI hA p).1 h)
    simp[fW,this]
   rw[e]
   (repeat(first|((repeat(revert hN;revert N;apply Pn.out));refine wk (tw @aH.eq_1 (tw @ad.eq_1 (tw @ah.eq_1 @hi))) ?_;(repeat(refine Pn.mk ?_;intro N hN)))|((try apply Or.inl);refine⟨_,au.x (h1) (sd (tw @aH.eq_1 (tw @ad.eq_1 (tw @ah.eq_1 @hi)))),?_⟩;refine hN _ _ ?_;clear hN N)|((try apply Or.inl);refine⟨_,au.x (h2) (sd (tw @aH.eq_1 (tw @ad.eq_1 (tw @ah.eq_1 @hi)))),?_⟩;refine hN _ _ ?_;clear hN N)|((try apply Or.inl);refine⟨_,au.x (h3) (sd (tw @aH.eq_1 (tw @ad.eq_1 (tw @ah.eq_1 @hi)))),?_⟩;refine hN _ _ ?_;clear hN N)))
   exact cu (b:=false) (.inl rfl) (sd @Nat.zero_add) rfl
 ·rw[Bool.not_eq_true]at h0
  rw[h0]at h1
  have e:fW s l p t=false:=by simp[fW,h0]
  rw[e]
  (repeat(first|((repeat(revert hN;revert N;apply Pn.out));refine wk (tw @aH.eq_1 (tw @ad.eq_1 @ah.eq_1)) ?_;(repeat(refine Pn.mk ?_;intro N hN)))|((try apply Or.inl);refine⟨_,au.x (h1) (sd (tw @aH.eq_1 (tw @ad.eq_1 @ah.eq_1))),?_⟩;refine hN _ _ ?_;clear hN N)))
  exact cu (b:=false) (.inl rfl) (sd @Nat.zero_add) rfl
theorem xR {g:Rows} {X o:Id} {L:List aa} (hX:g X=some ⟨true,1,[[.own o 0 L.length]]⟩) (ho:g o=some ⟨true,3,L.map ab⟩):fz (eu g) 6 (.ptr X 0 0)=some (.dv [.sl (L.map ab)]):=by
 have h1:fz (eu g) 5 (.own o 0 L.length)=some (.sl (L.map ab)):=kG (e:=ab) (sz:=3) (by simp[eu,ho]) rfl fun x=>by simp[ab,ai,aj,aP]
 exact nq (n:=5) (sz:=1) (rows:=[[.own o 0 L.length]]) (cs:=[.own o 0 L.length]) (by simp[eu,hX]) rfl (by simp[ai,aj,h1])
def NR (X:Id) (st:iT) (e7:AV) (g:Rows) (n:Nat):Prop:=∃o u:Id,g X=some ⟨true,1,[[.own o 0 st.2.length]]⟩/\g o=some ⟨true,3,st.2.map ab⟩/\e7=.own u 0 st.1.length/\g u=some ⟨true,3,st.1.map ab⟩/\o.bt<u.bt/\X.bt<u.bt/\u.bt<n/\o≠X
theorem NR.frame {X:Id} {st:iT} {e7 U8:AV} {g g':Rows} {n n':Nat} (h:NR X st e7 g n) (he:U8=e7) (hn:n<=n') (hf:∀x:Id,x.bt<n->g' x=g x):NR X st U8 g' n':=by
 obtain⟨o,u,h1,h2,h3,h4,h5,h6,h7,h8⟩:=h
 exact⟨o,u,(hf X ae).trans h1,(hf o ae).trans h2,he.trans h3,(hf u h7).trans h4,h5,h6,ae,h8⟩
theorem wM {s:aw} {st:iT} {x:aa} (h:fW s st.2 x.aV x.bp=true):fH s st x=(st.1++[x],iG st.2 x):=if_pos h
theorem yP {s:aw} {st:iT} {x:aa} (h:fW s st.2 x.aV x.bp=false):fH s st x=st:=if_neg (by rw[h];simp)
theorem EH (s:aw) (hP:BE s) (l:List aa) (hA:gH s.aZ l) (hW:fw s.cj.aq l=true):au Tryz.prog 39 [.dv (aH s),.dv [.sl (l.map ab)]] (.ib [.sl ((jl s l).1.map ab),.agg [.sl ((jl s l).2.map ab)]]):=by
 refine au.body fF rfl fun jc n0=>?_
 clear jc
 have F8:=hA.1.nO
 have Om:=rj hP hA hW
 have Qo:=Om.nO
 (try dsimp only at Qo)
 (try((repeat(revert hN;revert N;apply Pn.out));refine wk @aH.eq_1 ?_;(repeat(refine Pn.mk ?_;intro N hN))))
 refine .inr (aA _ _ _ _ _ (fun r σ1 hq=>?_) (NS.val (fun n=>(Ey s.cj.aq ae n).cut mixed (.ptr _ [.int .i64 s.aX] .nil)) (by simp only[ai,aj,aK,Option.map_some];rfl)))
 obtain⟨⟨o,rfl,q1,q2,q3⟩,hK⟩:=hq
 obtain⟨g1,x1⟩:=σ1
 (try dsimp only at q1 q2 q3 hK)
 have vG:=hK.1
 have k5:=hK.2 ⟨39000001,n0⟩ aU
 simp only[go_sem, ↓reduceIte,Nat.reduceEqDiff,Nat.reduceAdd,Nat.reduceSub,Nat.reduceLeDiff,reduceCtorEq]at k5
 (try dsimp only at vG)
 refine hN _ _ ?_
 clear hN N
 (try((repeat(revert hN;revert N;apply Pn.out));refine wk (tw @k5 @aH.eq_1) ?_;(repeat(refine Pn.mk ?_;intro N hN))))
 refine bz (fun n env st=>∃(S:iT) (m:Nat) (go:Bool),n=(if go then m else 0)/\env 8=.bool go/\(go=true->pP s l m S=jl s l/\qu l S.2<m)/\(go=false->S=jl s l)/\pA s l S/\NR ⟨39001004,x1⟩ S (env 7) st.get st.next/\st.get ⟨39000001,n0⟩=some ⟨true,1,[[.ck]]⟩) (l.length+1) ⟨([],s.cj.aq),l.length+1,true,rfl,sd @Nat.zero_add,fun _=>⟨rfl,by have:=HA l s.cj.aq;(try dsimp only);omega⟩,fun h=>(by cases h),Om,?_,?_⟩ ?_
 ·have vo:=dj (i:=o) (n:=x1) ae
  have vu:=dj (i:=⟨39001004,x1⟩) (n:=x1+1) aU
  exact⟨o,⟨39002000,x1+1⟩,sd @Nat.zero_add,sd (tw @vo @q1),sl @Nat.zero_add,sl @Nat.zero_add,aU,aU,aU,fun e=>by rw[e]at q3;(try dsimp only at q3);omega⟩
 ·simp only[go_sem, ↓reduceIte,Nat.reduceEqDiff,Nat.reduceAdd,Nat.reduceSub,Nat.reduceLeDiff,reduceCtorEq,k5]
 rintro n1 e1 st1 ⟨S,m,go,rfl,e8,ub,hend,hI,hL,hr5⟩ hk
 have c0:=hk 0 (by kernel_rfl)
 have c1:=hk 1 (by kernel_rfl)
 have c5:=hk 5 (by kernel_rfl)
 have c6:=hk 6 (by kernel_rfl)
 simp only[go_sem, ↓reduceIte,Nat.reduceEqDiff,Nat.reduceAdd,Nat.reduceSub,Nat.reduceLeDiff,reduceCtorEq,aH]at c0 c1 c5 c6
 clear hk q1 q2 q3 hK k5
 cases go
 ·have hS:=hend rfl
  subst hS
  clear hend ub
  obtain⟨o,u,h1,h2,h3,h4,h5,h6,h7,h8⟩:=hL
  (try((repeat(revert hN;revert N;apply Pn.out));refine wk (tw @e8 (tw @c5 (tw @c6 (tw @h1 (tw @h3 @hr5))))) ?_;(repeat(refine Pn.mk ?_;intro N hN))))
  have a5:o=⟨39000001,n0⟩->False:=fun e=>by
   rw[e,hr5]at h2
   simp at h2
  have b5:u=⟨39000001,n0⟩->False:=fun e=>by
   rw[e,hr5]at h4
   simp at h4
  have oa:=eq_false a5
  have ob:=eq_false b5
  exact pw (.inl rfl) (vs:=[.own u 0 (jl s l).1.length,.agg [.own o 0 (jl s l).2.length]]) (sd (tw @c5 @h3)) (by
   simp only[gx,fu,bF,cH,oG]
   rw[eE (e:=ab) (l:=(jl s l).1) (sz:=3) (sd (tw @ob @h4)) rfl (fun x=>DP _ 3 x),eE (e:=ab) (l:=(jl s l).2) (sz:=3) (sd (tw @oa @h2)) rfl (fun x=>DP _ 2 x)];rfl)
 ·obtain⟨hF,hm⟩:=ub rfl
  clear hend ub
  have HL:gV s l S 0=S:=by simp[gV]
  (try((repeat(revert hN;revert N;apply Pn.out));refine wk (tw @e8 (tw @c0 @c1)) ?_;(repeat(refine Pn.mk ?_;intro N hN))))
  refine bz (fun n env st=>∃i:Nat,n=(l.length)-i/\i<=(l.length)/\env 9=.int .i64 (i:Int)/\(env 8=.bool (decide ((gV s l S i).1.length≠S.1.length))/\NR ⟨39001004,x1⟩ (gV s l S i) (env 7) st.get st.next/\st.get ⟨39000001,n0⟩=some ⟨true,1,[[.ck]]⟩)) (l.length) ⟨0,ae,ae,sl (tw @c0 (tw @c1 (tw @c5 @c6))),by(try dsimp only);exact⟨by rw[HL];simp only[go_sem, ↓reduceIte,Nat.reduceEqDiff,Nat.reduceAdd,Nat.reduceSub,Nat.reduceLeDiff,reduceCtorEq]<;>simp,by rw[HL];exact hL.frame (sd @Nat.zero_add) aU fun x _=>rfl,hr5⟩⟩ ?_
  rintro n_b env_b st_b ⟨i,rfl,ble,b9,bI0⟩ eW
  have b0:=eW 0 (by kernel_rfl);have b1:=eW 1 (by kernel_rfl);have b5:=eW 5 (by kernel_rfl);have b6:=eW 6 (by kernel_rfl)
  simp only[go_sem, ↓reduceIte,Nat.reduceEqDiff,Nat.reduceAdd,Nat.reduceSub,Nat.reduceLeDiff,reduceCtorEq,c0,c1,c5,c6]at b0 b1 b5 b6
  clear eW
  obtain⟨b8,bL,WV⟩:=bI0
  obtain⟨C7,D7,AL⟩:=wc hI hA i ae
  by_cases hi:(i:Int)<(l.length:Int)
  ·have fh:∀{e:Env} {gg:Rows} {nx:Nat},(e 9=.int .i64 (IntKind.i64.wrap ((i:Int)+1)))->(e 8=.bool (decide ((gV s l S (i+1)).1.length≠S.1.length))/\NR ⟨39001004,x1⟩ (gV s l S (i+1)) (e 7) gg nx/\gg ⟨39000001,n0⟩=some ⟨true,1,[[.ck]]⟩)->∃m0,m0<(l.length)-i/\∃i:Nat,m0=(l.length)-i/\i<=(l.length)/\e 9=.int .i64 (i:Int)/\(e 8=.bool (decide ((gV s l S i).1.length≠S.1.length))/\NR ⟨39001004,x1⟩ (gV s l S i) (e 7) gg nx/\gg ⟨39000001,n0⟩=some ⟨true,1,[[.ck]]⟩):=fun x1 x2=>⟨_,ae,i+1,rfl,ae,(by rw[x1,az ae]),x2⟩
   have fU:i<l.length:=ae
   have rf:=ta s l S fU
   have hx:=fQ fU
   have ht:=hA.2 _ hx
   have jb:=fR fU
   have Vp:=C7.rR hA
   have Vw:=LU s hP _ Vp (aQ l i).aV (aQ l i).bp ht
   have gp:(l.map ab).length=l.length:=by simp
   have YN:=C7.nO
   have Lg:=C7.len
   generalize gV s l S i=T at C7 Vp Vw rf YN Lg AL b8 bL
   obtain⟨o,u,h1,h2,h3,h4,h5,h6,h7,h8⟩:=bL
   have vo:=dj (i:=o) (n:=st_b.next) ae
   have vu:=dj (i:=u) (n:=st_b.next) ae
   have vX:=dj (i:=⟨39001004,x1⟩) (n:=st_b.next) (by(try dsimp only at h6);(try dsimp only);omega)
   have v5:=dj (i:=⟨39000001,n0⟩) (n:=st_b.next) (by(try dsimp only at h6);(try dsimp only);omega)
   (try((repeat(revert hN;revert N;apply Pn.out));refine wk (tw @b9 (tw @b0 (tw @b1 (tw @b5 (tw @b6 (tw @hi (tw @jb (tw @gp @ab.eq_1)))))))) ?_;(repeat(refine Pn.mk ?_;intro N hN))))
   refine .inl ⟨_,au.x Vw (by
    have hp:=xR (g:=bK (bK st_b.get ⟨39009017,st_b.next+1⟩ ⟨true,3,[[.int .i64 0,.int .i64 0,.int .i64 0]]⟩) ⟨39009017,st_b.next+1⟩ ⟨true,3,[[.int .i64 (aQ l i).aV.fP,.int .i64 (aQ l i).aV.fE,.int .i64 (aQ l i).bp]]⟩) (X:=⟨39001004,x1⟩) (o:=o) (L:=T.2) (sd (tw @vX @h1)) (sd (tw @vo @h2))
    simp only[ai,aj,aK,hp,bx,aP,Option.map_some]
    rfl),?_⟩
   refine hN _ _ ?_
   clear hN N
   cases hf:fW s T.2 (aQ l i).aV (aQ l i).bp
   ·rw[yP hf]at rf
    (try((repeat(revert hN;revert N;apply Pn.out));refine wk (tw @b9 (tw @b0 (tw @b1 (tw @b5 (tw @b6 (tw @hf @jb)))))) ?_;(repeat(refine Pn.mk ?_;intro N hN))))
    exact fh (sd (tw @b9 (tw @b0 (tw @b1 (tw @b5 @b6))))) (by(try dsimp only);exact⟨by rw[rf];simp only[go_sem, ↓reduceIte,Nat.reduceEqDiff,Nat.reduceAdd,Nat.reduceSub,Nat.reduceLeDiff,reduceCtorEq,b8],by rw[rf];exact(show NR ⟨39001004,x1⟩ T (env_b 7) st_b.get st_b.next from⟨o,u,h1,h2,h3,h4,h5,h6,h7,h8⟩).frame (sd @Nat.zero_add) aU (fun y hy=>by
     have h9:=dj hy
     simp only[go_sem, ↓reduceIte,Nat.reduceEqDiff,Nat.reduceAdd,Nat.reduceSub,Nat.reduceLeDiff,reduceCtorEq,h9]),sd (tw @v5 @WV)⟩)
   ·rw[wM hf]at rf
    (try((repeat(revert hN;revert N;apply Pn.out));refine wk (tw @b9 (tw @b0 (tw @b1 (tw @b5 (tw @b6 (tw @hf @jb)))))) ?_;(repeat(refine Pn.mk ?_;intro N hN))))
    refine .inr (aA _ _ _ _ _ (fun r σ2 hq=>?_) (NS.val (fun n=>Ez T.2 ae (aQ l i).aV (aQ l i).bp n) (by
     have hp:=xR (g:=bK (bK st_b.get ⟨39009017,st_b.next+1⟩ ⟨true,3,[[.int .i64 0,.int .i64 0,.int .i64 0]]⟩) ⟨39009017,st_b.next+1⟩ ⟨true,3,[[.int .i64 (aQ l i).aV.fP,.int .i64 (aQ l i).aV.fE,.int .i64 (aQ l i).bp]]⟩) (X:=⟨39001004,x1⟩) (o:=o) (L:=T.2) (sd (tw @vX @h1)) (sd (tw @vo @h2))
     simp only[ai,aj,hp,bx,aP,Option.map_some]
     rfl)))
    obtain⟨⟨o2,rfl,p1,p2,p3⟩,hK⟩:=hq
    obtain⟨g2,x2⟩:=σ2
    (try dsimp only at p1 p2 p3 hK)
    have OD:=hK.1
    (try dsimp only at OD)
    have hXb:x1<st_b.next:=by(try dsimp only at h6);omega
    have kX:=hK.2 ⟨39001004,x1⟩ aU
    have k5:=hK.2 ⟨39000001,n0⟩ aU
    have ku:=hK.2 u aU
    have kt:=hK.2 ⟨39009017,st_b.next+1⟩ aU
    simp only[go_sem, ↓reduceIte,Nat.reduceEqDiff,Nat.reduceAdd,Nat.reduceSub,Nat.reduceLeDiff,reduceCtorEq,vX,v5,vu,h1,h4,WV]at kX k5 ku kt
    have mE:=ma (aQ l i) T.2
    have hpe:iG T.2 ⟨(aQ l i).aV,(aQ l i).bp⟩=iG T.2 (aQ l i):=rfl
    rw[hpe]at p1 ⊢
    refine hN _ _ ?_
    clear hN N
    have ZJ:(T.1.map ab).length=T.1.length:=by simp
    have NL:T.1.length<=16777215:=ae
    have uX:=dp (a:=⟨39001004,x1⟩) (b:=u) (by(try dsimp only at h6);(try dsimp only);omega)
    have u5:=dp (a:=⟨39000001,n0⟩) (b:=u) (by(try dsimp only at h6);(try dsimp only);omega)
    have Z4:=dj (i:=u) (n:=x2) ae
    have NO:=dj (i:=⟨39001004,x1⟩) (n:=x2) aU
    have v52:=dj (i:=⟨39000001,n0⟩) (n:=x2) aU
    have XT:=dj (i:=⟨39009017,st_b.next+1⟩) (n:=x2) aU
    have ut:=dp (a:=u) (b:=⟨39009017,st_b.next+1⟩) aU
    (try((repeat(revert hN;revert N;apply Pn.out));refine wk (tw @b9 (tw @b0 (tw @b1 (tw @b5 (tw @b6 (tw @kX (tw @ku (tw @kt (tw @h3 (tw @uX (tw @ut (tw @Z4 (tw @NO (tw @XT (tw @ZJ @NL))))))))))))))) ?_;(repeat(refine Pn.mk ?_;intro N hN))))
    have hd:decide ((T.1++[aQ l i]).length≠S.1.length)=true:=decide_eq_true (by rw[jJ];omega)
    have wJ:=jJ T.1 (aQ l i)
    have l6:=uq T.1 (aQ l i)
    have WB:=dj (i:=o2) (n:=x2) ae
    have uo2:=dp (a:=u) (b:=o2) ae
    have X2:=dp (a:=⟨39001004,x1⟩) (b:=o2) aU
    exact fh (sd (tw @b9 (tw @b0 (tw @b1 (tw @b5 @b6))))) (by(try dsimp only);exact⟨by rw[rf,hd]<;>simp only[go_sem, ↓reduceIte,Nat.reduceEqDiff,Nat.reduceAdd,Nat.reduceSub,Nat.reduceLeDiff,reduceCtorEq],by
     rw[rf]
     exact⟨o2,⟨39012003,x2+1⟩,sl (tw @NO (tw @uX @mE)),sd (tw @WB (tw @uo2 (tw @X2 @p1))),by rw[wJ];simp only[go_sem, ↓reduceIte,Nat.reduceEqDiff,Nat.reduceAdd,Nat.reduceSub,Nat.reduceLeDiff,reduceCtorEq]<;>rfl,by rw[l6];simp only[go_sem, ↓reduceIte,Nat.reduceEqDiff,Nat.reduceAdd,Nat.reduceSub,Nat.reduceLeDiff,reduceCtorEq]<;>rfl,aU,aU,aU,fun e=>by rw[e]at p2;(try dsimp only at p2);omega⟩,sd (tw @v52 (tw @u5 @k5))⟩)
  ·have l5:i=l.length:=ae
   subst l5
   rw[nR]at C7 bL b8 D7
   have pr:=AY hI hA hm
   (try((repeat(revert hN;revert N;apply Pn.out));refine wk (tw @b9 (tw @b0 (tw @b1 (tw @b5 (tw @b6 @hi))))) ?_;(repeat(refine Pn.mk ?_;intro N hN))))
   have W9:NR ⟨39001004,x1⟩ (fG s l S) (env_b 7) st_b.get st_b.next:=bL
   by_cases he:(fG s l S).1.length=S.1.length
   ·refine⟨0,by show 0<m;omega,fG s l S,0,false,rfl,?_,fun h=>(by cases h),fun _=>(pr.1 he).symm.trans hF,C7,W9.frame (sd @Nat.zero_add) aU fun x _=>rfl,WV⟩
    simp only[go_sem, ↓reduceIte,Nat.reduceEqDiff,Nat.reduceAdd,Nat.reduceSub,Nat.reduceLeDiff,reduceCtorEq,b8,he]<;>simp
   ·obtain⟨m',rfl,Oj,Ce⟩:=pr.2 he
    refine⟨m',Nat.lt_succ_self _,fG s l S,m',true,rfl,?_,fun _=>⟨Oj.symm.trans hF,Ce⟩,fun h=>(by cases h),C7,W9.frame (sd @Nat.zero_add) aU fun x _=>rfl,WV⟩
    have hd:=decide_eq_true he
    simp only[go_sem, ↓reduceIte,Nat.reduceEqDiff,Nat.reduceAdd,Nat.reduceSub,Nat.reduceLeDiff,reduceCtorEq,b8]
    rw[hd]
def pQ (ps:List ar) (i:Nat):ar:=ps.getD i ⟨0,0⟩
theorem oR {ps:List ar} {i:Nat} (h:i<ps.length):pQ ps i=ps[i]:=by simp[pQ,List.getD_eq_getElem?_getD,h]
theorem H5 {ps:List ar} {i:Nat} (h:i<ps.length):pQ ps i∈ps:=by rw[oR h];exact List.getElem_mem h
theorem zh {ps:List ar} {i:Nat} (h:i<ps.length):(ps.map ah)[i]? =some (ah (pQ ps i)):=by simp[pQ,List.getD_eq_getElem?_getD,h]
def yd (ps:List ar):Prop:=ps.Pairwise fun a b=>jH a b=true
theorem yd.at_ {ps:List ar} (h:yd ps) {i j:Nat} (Gd:i<j) (hj:j<ps.length):jH (pQ ps i) (pQ ps j)=true:=by
 rw[oR hj,oR ae]
 exact List.pairwise_iff_getElem.1 h i j ae hj Gd
def kM (ps:List ar) (p:ar):Nat:=ps.findIdx fun q=> !jH q p
theorem Cq (ps:List ar) (p:ar):kM ps p<=ps.length:=List.findIdx_le_length
theorem HY {ps:List ar} {p:ar} {x:Nat} (h:x<kM ps p):jH (pQ ps x) p=true:=by
 have hx:x<ps.length:=Nat.lt_of_lt_of_le h (Cq ps p)
 have:=List.not_of_lt_findIdx h
 rw[oR hx]
 simpa using this
theorem Cp {ps:List ar} {p:ar} (hR:yd ps) {x:Nat} (h:kM ps p<=x) (hx:x<ps.length):jH (pQ ps x) p=false:=by
 have h0:kM ps p<ps.length:=ae
 have h1:jH (pQ ps (kM ps p)) p=false:=by
  have:=List.findIdx_getElem (p:=fun q=> !jH q p) (xs:=ps) (w:=h0)
  rw[oR h0]
  have e:(!jH ps[kM ps p] p)=true:=this
  simpa using e
 by_cases he:kM ps p=x
 ·rw[<-he];exact h1
 ·have h2:=hR.at_ (show kM ps p<x by omega) hx
  cases hc:jH (pQ ps x) p
  ·rfl
  ·rw[jg h2 hc]at h1;cases h1
def sb (ps:List ar) (p:ar):List ar:=if kM ps p<ps.length/\pQ ps (kM ps p)=p then ps else ps.take (kM ps p)++p::ps.drop (kM ps p)
theorem Mt (ps:List ar) (p:ar):(sb ps p).length<=ps.length+1:=by
 unfold sb
 have:=Cq ps p
 split
 ·omega
 ·simp;omega
theorem L7 (ps:List ar) (p x:ar):x∈sb ps p↔x=p∨x∈ps:=by
 unfold sb
 split
 ·rename_i h
  refine⟨.inr,fun hx=>hx.elim (fun e=>?_) id⟩
  rw[e,<-h.2];exact H5 h.1
 ·have:x∈ps↔x∈ps.take (kM ps p)++ps.drop (kM ps p):=by rw[List.take_append_drop]
  rw[this]
  simp only[List.mem_append,List.mem_cons]
  constructor
  ·rintro(h|h|h)
   ·exact .inr (.inl h)
   ·exact .inl h
   ·exact .inr (.inr h)
  ·rintro(h|h|h)
   ·exact .inr (.inl h)
   ·exact .inl h
   ·exact .inr (.inr h)
theorem Mu {ps:List ar} (hR:yd ps) (p:ar):yd (sb ps p):=by
 unfold sb
 split
 ·exact hR
 ·rename_i lQ
  have hd:∀x∈ps.drop (kM ps p),jH p x=true:=fun x hx=>by
   obtain⟨j,hj,rfl⟩:=List.getElem_of_mem hx
   rw[List.length_drop]at hj
   rw[List.getElem_drop]
   have iv:kM ps p+j<ps.length:=ae
   have h1:=Cp (p:=p) hR (Nat.le_add_right _ j) iv
   rw[<-oR iv]
   refine Cs h1 fun he=>?_
   by_cases h0:j=0
   ·subst h0
    exact lQ ⟨ae,by simpa using he⟩
   ·have:=hR.at_ (show kM ps p<kM ps p+j by omega) iv
    rw[he]at this
    have h2:=Cp (p:=p) hR (Nat.le_refl _) (show kM ps p<ps.length by omega)
    rw[this]at h2;cases h2
  have ht:∀x∈ps.take (kM ps p),jH x p=true:=fun x hx=>by
   obtain⟨j,hj,rfl⟩:=List.getElem_of_mem hx
   rw[List.length_take]at hj
   rw[List.getElem_take]
   have:=HY (ps:=ps) (p:=p) (x:=j) ae
   rwa [oR ae]at this
  refine List.pairwise_append.2 ⟨hR.sublist (List.take_sublist _ _),List.pairwise_cons.2 ⟨hd,hR.sublist (List.drop_sublist _ _)⟩,fun x hx y hy=>?_⟩
  rcases List.mem_cons.1 hy with rfl|hy
  ·exact ht x hx
  ·exact jg (ht x hx) (hd y hy)
def UO (σ:ax) (kp:Id->Prop) (ps:List ar) (r:AV) (σ':ax):Prop:=
 ∃o:Id,r=.own o 0 ps.length/\σ'.get o=some ⟨true,2,ps.map ah⟩/\σ.next<=σ'.next/\o.bt<σ'.next/\(σ.next<=o.bt∨¬kp o)/\∀x:Id,x.bt<σ.next->kp x->σ'.get x=σ.get x
theorem QA {ps:List ar} {i:Nat} {q:ar}:(ps.map ah).set i (ah q)=(ps.set i q).map ah:=List.map_set.symm
def By (ps:List ar) (p:ar) (i:Nat):List ar:=(ps++[p]).take (i+1)++ps.drop i
theorem rM (ps:List ar) (p:ar) {i:Nat} (h:i<=ps.length):(By ps p i).length=ps.length+1:=by simp[By];omega
theorem SC {ps:List ar} {p:ar} {i j:Nat} (hi:i<=ps.length) (hj:j<i):pQ (By ps p i) j=pQ ps j:=by
 unfold pQ By
 rw[List.getD_eq_getElem?_getD,List.getD_eq_getElem?_getD,List.getElem?_append_left (by simp;omega),List.getElem?_take,if_pos ae,List.getElem?_append_left ae]
theorem J7 (ps:List ar) (p:ar):By ps p ps.length=ps++[p]:=by
 unfold By
 rw[List.drop_length,List.append_nil,List.take_of_length_le (by simp)]
theorem MT {ps:List ar} {p:ar} {i:Nat} (hi:i<ps.length):(By ps p (i+1)).set (i+1) (pQ ps i)=By ps p i:=by
 refine List.ext_getElem? fun j=>?_
 rw[List.getElem?_set,rM ps p ae]
 unfold By
 by_cases hj:i+1=j
 ·subst hj
  rw[if_pos rfl,if_pos ae,List.getElem?_append_right (by simp;omega)]
  simp only[List.length_take,List.length_append,List.length_cons,List.length_nil]
  rw[show i+1-min (i+1) (ps.length+(0+1))=0 by omega,List.getElem?_drop,Nat.add_zero,List.getElem?_eq_getElem hi,oR hi]
 ·rw[if_neg hj]
  by_cases eM:j<i+1
  ·rw[List.getElem?_append_left (by simp;omega),List.getElem?_append_left (by simp;omega),List.getElem?_take,List.getElem?_take,if_pos ae,if_pos eM]
  ·rw[List.getElem?_append_right (by simp;omega),List.getElem?_append_right (by simp;omega)]
   simp only[List.length_take,List.length_append,List.length_cons,List.length_nil,List.getElem?_drop]
   congr 1
   omega
theorem PD {ps:List ar} {p:ar} {i:Nat} (hi:i<=ps.length):(By ps p i).set i p=ps.take i++p::ps.drop i:=by
 refine List.ext_getElem? fun j=>?_
 rw[List.getElem?_set,rM ps p hi]
 unfold By
 by_cases hj:i=j
 ·subst hj
  rw[if_pos rfl,if_pos ae,List.getElem?_append_right (by simp;omega)]
  simp[Nat.min_eq_left hi]
 ·rw[if_neg hj]
  by_cases eM:j<i
  ·rw[List.getElem?_append_left (by simp;omega),List.getElem?_append_left (by simp;omega),List.getElem?_take,List.getElem?_take,if_pos ae,if_pos eM,List.getElem?_append_left ae]
  ·rw[List.getElem?_append_right (by simp;omega),List.getElem?_append_right (by simp;omega)]
   simp only[List.length_take,List.length_append,List.length_cons,List.length_nil]
   rw[show j-min i ps.length=(j-i-1)+1 by omega,List.getElem?_cons_succ]
   congr 1
   omega
theorem Il {X:gP} {Q:Ex->Env->ax->Prop} {N:Env->ax->Prop} {c:VC} {env:Env} {σ:ax} {id:Nat} (I:Env->ax->Prop) (h2:∀e s,I e s->N e s) (h1:∀N':Env->ax->Prop,(∀e s,I e s->N' e s)->er X c (bj id (dn N' Q)) env σ):er X c (bj id (dn N Q)) env σ:=h1 N h2
theorem Ac (ps:List ar) (hR:yd ps) (hlen:ps.length<=1048576) (p:ar) (o:Id) (σ:ax) (ho:σ.get o=some ⟨true,2,ps.map ah⟩) (xJ:o.bt<σ.next):
  Call Tryz.prog 113 [.own o 0 ps.length,.agg (ah p)] σ (UO σ (fun x=>(x=o)=False) (sb ps p)):=by
 refine ij fF rfl fun jc=>?_
 clear jc
 have s8:=dj xJ
 have Xw:=Cq ps p
 have Ft:(ps.map ah).length=ps.length:=by simp
 (try((repeat(revert hN;revert N;apply Pn.out));refine wk (tw @ah.eq_1 @s8) ?_;(repeat(refine Pn.mk ?_;intro N hN))))
 refine Il (fun e s=>e 5=.int .i64 (kM ps p:Int)/\e 0=.own o 0 ps.length/\e 3=.ptr ⟨113000000,σ.next⟩ 0 0/\s.get ⟨113000000,σ.next⟩=some ⟨true,2,[ah p]⟩/\s.get o=some ⟨true,2,ps.map ah⟩/\σ.next<s.next/\∀x:Id,x.bt<σ.next->s.get x=σ.get x) ?_ ?_
 ·rintro e s ⟨f5,f0,f3,fg0,fg1,fn,ffr⟩
  refine hN _ _ ?_
  clear hN N
  have OM:=dj (i:=o) (n:=s.next) ae
  obtain⟨a,ha⟩:∃a,kM ps p=a:=⟨_,rfl⟩
  rw[ha]at f5 Xw
  by_cases hex:a<ps.length/\pQ ps a=p
  ·have eM:(a:Int)<(ps.length:Int):=ae
   have hg:=zh hex.1
   have hx:decide ((pQ ps a).fP=p.fP)=true:=decide_eq_true (by rw[hex.2])
   have hy:decide ((pQ ps a).fE=p.fE)=true:=decide_eq_true (by rw[hex.2])
   (try((repeat(revert hN;revert N;apply Pn.out));refine wk (tw @f5 (tw @f0 (tw @f3 (tw @fg0 (tw @fg1 (tw @eM (tw @hg (tw @hx (tw @hy (tw @Ft @ah.eq_1)))))))))) ?_;(repeat(refine Pn.mk ?_;intro N hN))))
   have hp:sb ps p=ps:=by unfold sb;rw[ha,if_pos hex]
   rw[hp]
   exact gN (.inl rfl) (vs:=[.own o 0 ps.length]) (sd @Nat.zero_add) ⟨o,rfl,sd @fg1,aU,aU,.inr (by simp),fun x hx _=>sd (ffr x hx)⟩
  refine Fi (fun N hN=>?_)
  refine lJ (fun e s=>e 5=.int .i64 (a:Int)/\e 0=.own o 0 ps.length/\e 3=.ptr ⟨113000000,σ.next⟩ 0 0/\s.get ⟨113000000,σ.next⟩=some ⟨true,2,[ah p]⟩/\s.get o=some ⟨true,2,ps.map ah⟩/\σ.next<s.next/\∀x:Id,x.bt<σ.next->s.get x=σ.get x) ?_ ?_
  ·clear f5 f0 f3 fg0 fg1 fn ffr OM
   rintro e s ⟨f5,f0,f3,fg0,fg1,fn,ffr⟩
   refine hN _ _ ?_
   clear hN N
   have OM:=dj (i:=o) (n:=s.next) ae
   have UB:=dj (i:=⟨113000000,σ.next⟩) (n:=s.next) fn
   have e1:ps.length+1<=16777216:=ae
   have rY:ps.map ah++[[.int .i64 p.fP,.int .i64 p.fE]]=(By ps p ps.length).map ah:=by rw[J7];simp[ah]
   have tD:IntKind.i64.wrap ((ps.length:Int)+1-1)=(ps.length:Int):=by rw[cD ae];omega
   have hp:sb ps p=ps.take a++p::ps.drop a:=by unfold sb;rw[ha,if_neg hex]
   have RT:((⟨113000000,σ.next⟩:Id)=o)=False:=by
    refine eq_false fun h=>?_
    rw[<-h]at xJ;exact Nat.lt_irrefl _ xJ
   (try((repeat(revert hN;revert N;apply Pn.out));refine wk (tw @f5 (tw @f0 (tw @f3 (tw @fg0 (tw @fg1 (tw @OM (tw @UB (tw @RT (tw @Ft (tw @e1 (tw @rY (tw @tD (tw @Int.natCast_add (tw @Int.cast_ofNat_Int @ah.eq_1)))))))))))))) ?_;(repeat(refine Pn.mk ?_;intro N hN))))
   refine bz (fun m env st=>∃i:Nat,m=i/\a<=i/\i<=ps.length/\env 6=.int .i64 (i:Int)/\st.get ⟨113006003,s.next⟩=some ⟨true,2,(By ps p i).map ah⟩/\st.get ⟨113000000,σ.next⟩=some ⟨true,2,[ah p]⟩/\s.next<st.next/\∀x:Id,x.bt<σ.next->(x=o)=False->st.get x=σ.get x) ps.length ⟨ps.length,rfl,Xw,Nat.le_refl _,sd (tw @tD (tw @Int.natCast_add @Int.cast_ofNat_Int)),sd @rY,sd (tw @fg0 (tw @UB (tw @RT @ah.eq_1))),aU,fun x hx xn=>by
    have h1:=dj (i:=x) (n:=s.next) ae
    have h2:=ffr x hx
    simp only[go_sem, ↓reduceIte,Nat.reduceEqDiff,Nat.reduceAdd,Nat.reduceSub,Nat.reduceLeDiff,reduceCtorEq,h1,h2,xn]⟩ ?_
   rintro m env_b st_b ⟨i,hmi,bl,ble,b6,bg0,bg1,bn,eW⟩ bkp
   have b0:=bkp 0 (by kernel_rfl)
   have b3:=bkp 3 (by kernel_rfl)
   have b5:=bkp 5 (by kernel_rfl)
   simp only[go_sem, ↓reduceIte,Nat.reduceEqDiff,Nat.reduceAdd,Nat.reduceSub,Nat.reduceLeDiff,reduceCtorEq,f0,f3,f5,ah]at b0 b3 b5
   clear bkp
   have NL:((By ps p i).map ah).length=ps.length+1:=by rw[List.length_map,rM ps p ble]
   by_cases NA:(a:Int)<(i:Int)
   ·obtain⟨k,rfl⟩:∃k,i=k+1:=⟨i-1,ae⟩
    have iR:k<ps.length:=ae
    have xl:IntKind.i64.wrap (((k+1:Nat):Int)-1)=(k:Int):=by rw[cD ae];omega
    have hq:((By ps p (k+1)).map ah)[k]? =some (ah (pQ ps k)):=by rw[zh (by rw[rM ps p ble];omega),SC ble (Nat.lt_succ_self _)]
    have Fv:∃z,((By ps p (k+1)).map ah)[k+1]? =some (ah z):=⟨_,zh (by rw[rM ps p ble];omega)⟩
    obtain⟨z,Fv⟩:=Fv
    have fj:((By ps p (k+1)).map ah).set (k+1) (ah (pQ ps k))=(By ps p k).map ah:=by rw[QA,MT iR]
    have c1:(k:Int)<(ps.length:Int)+1:=ae
    have c2:(k:Int)+1<(ps.length:Int)+1:=ae
    have c3:(0:Int)<=(k:Int)+1:=ae
    have c4:((k:Int)+1).toNat=k+1:=ae
    have c5:(a:Int)<(k:Int)+1:=ae
    have c6:IntKind.i64.wrap ((k:Int)+1-1)=(k:Int):=by rw[cD ae];omega
    rw[ah]at fj hq Fv
    (try((repeat(revert hN;revert N;apply Pn.out));refine wk (tw @b0 (tw @b3 (tw @b5 (tw @b6 (tw @bg0 (tw @bg1 (tw @NA (tw @xl (tw @hq (tw @Fv (tw @fj (tw @NL (tw @c1 (tw @c2 (tw @c3 (tw @c4 (tw @c5 (tw @c6 (tw @Int.natCast_add @Int.cast_ofNat_Int))))))))))))))))))) ?_;(repeat(refine Pn.mk ?_;intro N hN))))
    exact⟨k,ae,k,rfl,ae,ae,sd @c6,sd @fj,sd (tw @bg1 @RT),aU,fun x hx xn=>by
     have h1:=dj (i:=x) (n:=s.next) ae
     have h2:=eW x hx xn
     simp only[go_sem, ↓reduceIte,Nat.reduceEqDiff,Nat.reduceAdd,Nat.reduceSub,Nat.reduceLeDiff,reduceCtorEq,h1,h2]⟩
   ·obtain rfl:i=a:=ae
    have fj:((By ps p i).map ah).set i (ah p)=(sb ps p).map ah:=by rw[QA,PD Xw,hp]
    have Fv:∃z,((By ps p i).map ah)[i]? =some (ah z):=⟨_,zh (by rw[rM ps p ble];omega)⟩
    obtain⟨z,Fv⟩:=Fv
    have mE:(sb ps p).length=ps.length+1:=by rw[hp];simp;omega
    have c1:(i:Int)<(ps.length:Int)+1:=ae
    rw[ah]at fj Fv
    (try((repeat(revert hN;revert N;apply Pn.out));refine wk (tw @b0 (tw @b3 (tw @b5 (tw @b6 (tw @bg0 (tw @bg1 (tw @NA (tw @Fv (tw @fj (tw @NL (tw @c1 (tw @Int.natCast_add (tw @Int.cast_ofNat_Int @ah.eq_1))))))))))))) ?_;(repeat(refine Pn.mk ?_;intro N hN))))
    rw[<-mE]
    exact gN (.inl rfl) (vs:=[.own ⟨113006003,s.next⟩ 0 (sb ps p).length]) (sd (tw @b0 @mE)) ⟨⟨113006003,s.next⟩,rfl,sd @fj,aU,aU,.inl aU,fun x hx xn=>by
     have h1:=dj (i:=x) (n:=s.next) ae
     have h2:=eW x hx xn
     simp only[go_sem, ↓reduceIte,Nat.reduceEqDiff,Nat.reduceAdd,Nat.reduceSub,Nat.reduceLeDiff,reduceCtorEq,h1,h2]⟩
  ·intro N hN
   by_cases RE:(a:Int)<(ps.length:Int)
   ·have hg:=zh (ps:=ps) (i:=a) ae
    by_cases hx:(pQ ps a).fP=p.fP
    ·have uR:decide ((pQ ps a).fP=p.fP)=true:=decide_eq_true hx
     have XJ:decide ((pQ ps a).fE=p.fE)=false:=decide_eq_false fun h=>hex ⟨ae,CD hx h⟩
     (try((repeat(revert hN;revert N;apply Pn.out));refine wk (tw @f5 (tw @f0 (tw @f3 (tw @fg0 (tw @fg1 (tw @RE (tw @hg (tw @uR (tw @XJ (tw @Ft @ah.eq_1)))))))))) ?_;(repeat(refine Pn.mk ?_;intro N hN))))
     exact⟨sd @f5,sd @f0,sd @f3,sd (tw @fg0 @ah.eq_1),sd @fg1,aU,fun x hx=>sd (ffr x hx)⟩
    ·have uR:decide ((pQ ps a).fP=p.fP)=false:=decide_eq_false hx
     (try((repeat(revert hN;revert N;apply Pn.out));refine wk (tw @f5 (tw @f0 (tw @f3 (tw @fg0 (tw @fg1 (tw @RE (tw @hg (tw @uR (tw @Bool.false_and (tw @Ft @ah.eq_1)))))))))) ?_;(repeat(refine Pn.mk ?_;intro N hN))))
     exact⟨sd @f5,sd @f0,sd @f3,sd (tw @fg0 @ah.eq_1),sd @fg1,aU,fun x hx=>sd (ffr x hx)⟩
   ·(try((repeat(revert hN;revert N;apply Pn.out));refine wk (tw @f5 (tw @f0 (tw @f3 (tw @fg0 (tw @fg1 (tw @RE (tw @Ft @ah.eq_1))))))) ?_;(repeat(refine Pn.mk ?_;intro N hN))))
    exact⟨sd @f5,sd @f0,sd @f3,sd (tw @fg0 @ah.eq_1),sd @fg1,aU,fun x hx=>sd (ffr x hx)⟩
 intro N hN
 refine bz (fun m env st=>∃a:Nat,m=a/\kM ps p<=a/\a<=ps.length/\env 5=.int .i64 (a:Int)/\st.get ⟨113000000,σ.next⟩=some ⟨true,2,[ah p]⟩/\st.get o=some ⟨true,2,ps.map ah⟩/\σ.next<st.next/\∀x:Id,x.bt<σ.next->st.get x=σ.get x) ps.length ⟨ps.length,rfl,Xw,Nat.le_refl _,sd @Nat.zero_add,sd @ah.eq_1,sd (tw @s8 @ho),aU,fun x hx=>by have:=dj hx;simp only[go_sem, ↓reduceIte,Nat.reduceEqDiff,Nat.reduceAdd,Nat.reduceSub,Nat.reduceLeDiff,reduceCtorEq,this]⟩ ?_
 rintro m env_a st_a ⟨a,hma,al,ale,a5,ag0,ag1,an,eJ⟩ akp
 have a0:=akp 0 (by kernel_rfl)
 have a3:=akp 3 (by kernel_rfl)
 simp only[go_sem, ↓reduceIte,Nat.reduceEqDiff,Nat.reduceAdd,Nat.reduceSub,Nat.reduceLeDiff,reduceCtorEq,ah]at a0 a3
 clear akp
 by_cases h0:(0:Int)<(a:Int)
 ·obtain⟨b,rfl⟩:∃b,a=b+1:=⟨a-1,ae⟩
  have iK:b<ps.length:=ae
  have gK:(b:Int)<(ps.length:Int):=ae
  have hg:=zh iK
  have hw:IntKind.i64.wrap (((b+1:Nat):Int)-1)=(b:Int):=by rw[cD ae];omega
  have hq:=mM (pQ ps b) p
  cases hc:jH (pQ ps b) p
  ·rw[hc]at hq
   (repeat(first|((repeat(revert hN;revert N;apply Pn.out));refine wk (tw @a0 (tw @a3 (tw @a5 (tw @ag0 (tw @ag1 (tw @h0 (tw @gK (tw @hg (tw @hw (tw @Ft @ah.eq_1)))))))))) ?_;(repeat(refine Pn.mk ?_;intro N hN)))|((try apply Or.inl);refine⟨_,au.x (hq) (sd (tw @a0 (tw @a3 (tw @a5 (tw @ag0 (tw @ag1 (tw @h0 (tw @gK (tw @hg (tw @hw (tw @Ft @ah.eq_1))))))))))),?_⟩;refine hN _ _ ?_;clear hN N)))
   refine⟨b,ae,b,rfl,?_,ae,sd @hw,sd (tw @ag0 @ah.eq_1),sd @ag1,aU,fun x hx=>sd (eJ x hx)⟩
   rcases Nat.lt_or_ge b (kM ps p)with h|h
   ·rw[HY h]at hc;cases hc
   ·exact h
  ·rw[hc]at hq
   have kI:kM ps p=b+1:=by
    rcases Nat.lt_or_ge b (kM ps p)with h|h
    ·omega
    ·have:=Cp (p:=p) hR h iK
     rw[hc]at this;cases this
   (repeat(first|((repeat(revert hN;revert N;apply Pn.out));refine wk (tw @a0 (tw @a3 (tw @a5 (tw @ag0 (tw @ag1 (tw @h0 (tw @gK (tw @hg (tw @hw (tw @Ft @ah.eq_1)))))))))) ?_;(repeat(refine Pn.mk ?_;intro N hN)))|((try apply Or.inl);refine⟨_,au.x (hq) (sd (tw @a0 (tw @a3 (tw @a5 (tw @ag0 (tw @ag1 (tw @h0 (tw @gK (tw @hg (tw @hw (tw @Ft @ah.eq_1))))))))))),?_⟩;refine hN _ _ ?_;clear hN N)))
   exact⟨sd (tw @a5 @kI),sd @a0,sd @a3,sd (tw @ag0 @ah.eq_1),sd @ag1,aU,fun x hx=>sd (eJ x hx)⟩
 ·have kI:kM ps p=a:=ae
  (try((repeat(revert hN;revert N;apply Pn.out));refine wk (tw @a0 (tw @a3 (tw @a5 (tw @ag0 (tw @ag1 (tw @h0 (tw @Ft @ah.eq_1))))))) ?_;(repeat(refine Pn.mk ?_;intro N hN))))
  exact⟨sd (tw @a5 @kI),sd @a0,sd @a3,sd (tw @ag0 @ah.eq_1),sd @ag1,aU,fun x hx=>sd (eJ x hx)⟩
end Go.Proofs.YtiabgllilcfheaaGreat.V

namespace Go.Proofs.YtiabgllilcfheaaGreat.V
open Go.RowKit Go.Shelf Go.Lib Go.Sort
instance:Inhabited ar:=⟨⟨0,0⟩⟩
variable {P:Program} {w:World} {D:Nat->Prop} {ι:Names}
theorem Mv {vs:Array Value} (h:gy P w D ι [] vs):vs= #[]:=Array.eq_empty_of_size_eq_zero h.1
theorem Bo {a:AV} {r:List AV} {vs:Array Value} (h:gy P w D ι (a::r) vs):∃u us,vs=(u::us).toArray/\dy P w D ι a u/\gy P w D ι r us.toArray:=by
 obtain⟨h1,h2⟩:=h
 obtain⟨l⟩:=vs
 cases l with
 |nil=>simp at h1
 |cons u us=>
  obtain⟨u',hu,hr⟩:=h2 0 a rfl
  simp at hu;subst hu
  exact⟨u,us,rfl,hr,by simpa using h1,fun j b hj=>by
   obtain⟨v,hv,mV⟩:=h2 (j+1) b (by simpa using hj)
   exact⟨v,by simpa using hv,mV⟩⟩
end Go.Proofs.YtiabgllilcfheaaGreat.V

namespace Go.Proofs
open Go.Shelf
def Tryz.GV:Go.Shelf.Ren:=⟨fun|6=>128|15=>138|14=>147|28=>160|29=>161|20=>165|21=>166|22=>167|23=>168|24=>169|25=>170|26=>171|27=>172|46=>185|47=>181|48=>182|49=>186|50=>187|57=>194|n=>n,fun|22=>28|24=>70|25=>174|3=>3|39=>144|0=>0|53=>203|55=>93|4=>4|46=>197|45=>196|50=>108|5=>5|9=>9|66=>225|70=>229|76=>244|77=>245|n=>n,fun|n=>n⟩
theorem Tryz.MJ:Go.Proofs.SlLaysF0.n6 Tryz.prog Tryz.GV:={
 mixed:=by kernel_rfl
 f6:=⟨Tryz.f128.name,by decide,Tryz.func128.trans (congrArg some (by kernel_rfl))⟩
 f14:=⟨Tryz.f147.name,by decide,Tryz.func147.trans (congrArg some (by kernel_rfl))⟩
 f15:=Tryz.func138.trans (congrArg some (by kernel_rfl))
 f20:=⟨Tryz.f165.name,by decide,Tryz.func165.trans (congrArg some (by kernel_rfl))⟩
 f21:=⟨Tryz.f166.name,by decide,Tryz.func166.trans (congrArg some (by kernel_rfl))⟩
 f22:=⟨Tryz.f167.name,by decide,Tryz.func167.trans (congrArg some (by kernel_rfl))⟩
 f23:=⟨Tryz.f168.name,by decide,Tryz.func168.trans (congrArg some (by kernel_rfl))⟩
 f24:=⟨Tryz.f169.name,by decide,Tryz.func169.trans (congrArg some (by kernel_rfl))⟩
 f25:=⟨Tryz.f170.name,by decide,Tryz.func170.trans (congrArg some (by kernel_rfl))⟩
 f26:=⟨Tryz.f171.name,by decide,Tryz.func171.trans (congrArg some (by kernel_rfl))⟩
 f27:=⟨Tryz.f172.name,by decide,Tryz.func172.trans (congrArg some (by kernel_rfl))⟩
 f28:=Tryz.func160.trans (congrArg some (by kernel_rfl))
 f29:=Tryz.func161.trans (congrArg some (by kernel_rfl))
 f46:=⟨Tryz.f185.name,by decide,Tryz.func185.trans (congrArg some (by kernel_rfl))⟩
 f47:=Tryz.func181.trans (congrArg some (by kernel_rfl))
 f48:=Tryz.func182.trans (congrArg some (by kernel_rfl))
 f49:=⟨Tryz.f186.name,by decide,Tryz.func186.trans (congrArg some (by kernel_rfl))⟩
 f50:=⟨Tryz.f187.name,by decide,Tryz.func187.trans (congrArg some (by kernel_rfl))⟩
 f57:=⟨Tryz.f194.name,by decide,Tryz.func194.trans (congrArg some (by kernel_rfl))⟩
 t0:=Tryz.underlying0
 a0:=Tryz.isAgg0
 z0:=Tryz.sizeOf0
 v0:=Tryz.zeroValue0
 t3:=Tryz.underlying3
 a3:=Tryz.isAgg3
 z3:=Tryz.sizeOf3
 v3:=Tryz.zeroValue3
 t4:=Tryz.underlying4
 a4:=Tryz.isAgg4
 z4:=Tryz.sizeOf4
 v4:=Tryz.zeroValue4
 t5:=Tryz.underlying5
 a5:=Tryz.isAgg5
 z5:=Tryz.sizeOf5
 v5:=Tryz.zeroValue5
 t9:=Tryz.underlying9
 a9:=Tryz.isAgg9
 z9:=Tryz.sizeOf9
 v9:=Tryz.zeroValue9
 t22:=Tryz.underlying28
 a22:=Tryz.isAgg28
 z22:=Tryz.sizeOf28
 v22:=Tryz.zeroValue28
 t25:=Tryz.underlying174
 a25:=Tryz.isAgg174
 z25:=Tryz.sizeOf174
 v25:=Tryz.zeroValue174
 t39:=Tryz.underlying144
 a39:=Tryz.isAgg144
 z39:=Tryz.sizeOf144
 v39:=Tryz.zeroValue144
 t45:=Tryz.underlying196
 a45:=Tryz.isAgg196
 z45:=Tryz.sizeOf196
 v45:=Tryz.zeroValue196
 t46:=Tryz.underlying197
 a46:=Tryz.isAgg197
 z46:=Tryz.sizeOf197
 v46:=Tryz.zeroValue197
 t50:=Tryz.underlying108
 a50:=Tryz.isAgg108
 z50:=Tryz.sizeOf108
 v50:=Tryz.zeroValue108
 t53:=Tryz.underlying203
 a53:=Tryz.isAgg203
 z53:=Tryz.sizeOf203
 v53:=Tryz.zeroValue203
 t55:=Tryz.underlying93
 a55:=Tryz.isAgg93
 z55:=Tryz.sizeOf93
 v55:=Tryz.zeroValue93
 t66:=Tryz.underlying225
 a66:=Tryz.isAgg225
 z66:=Tryz.sizeOf225
 v66:=Tryz.zeroValue225
 t70:=Tryz.underlying229
 a70:=Tryz.isAgg229
 z70:=Tryz.sizeOf229
 v70:=Tryz.zeroValue229
 t76:=Tryz.underlying244
 a76:=Tryz.isAgg244
 z76:=Tryz.sizeOf244
 v76:=Tryz.zeroValue244
 t77:=Tryz.underlying245
 a77:=Tryz.isAgg245
 z77:=Tryz.sizeOf245
 v77:=Tryz.zeroValue245}
end Go.Proofs

namespace Go.Proofs.YtiabgllilcfheaaGreat.V
open Go.RowKit Go.Shelf Go.Lib Go.Sort
theorem Dy (w:World) (a b:Int):Calls Tryz.prog 111 #[.int .i64 a,.int .i64 b] w fun e w'=>e=.returned (.int .i64 (tR a b))/\w=w':=by
 go_enter Tryz.func111,Tryz.ntmps111
 go_wp2_with go_in
 all_goals
  go_ret
  exact⟨H7 (by unfold tR;split<;>(try split)<;>omega),rfl⟩
theorem Pf (w:World) (a b:Int) (g:Nat) (ha:w.cell? ⟨g,0,none⟩=some (.int .i64 a)) (hb:w.cell? ⟨g,1,none⟩=some (.int .i64 b)):Calls Tryz.prog 110 #[.slice (some ⟨g,0,none⟩) 2 2] w fun e w'=>e=.returned (.int .i64 (Pg a b))/\w=w':=by
 go_enter Tryz.func110,Tryz.ntmps110
 go_wp2_with fail
 go_loop [8] (fun i=>∃k:Nat,k<=2/\i=.int .i64 k/\Hid ((1<=k->a=0)/\(2<=k->b=0))) (fun i=>2-(intOf i).toNat)
 case atStart=>exact⟨0,ae,rfl,Lib.hid ⟨fun h=>ae,fun h=>ae⟩⟩
 case round=>
  obtain⟨k,hk,rfl,hz⟩:=hrel
  have h3:k=0∨k=1∨k=2:=ae
  rcases h3 with rfl|rfl|rfl
  ·go_wp2_with fail
   ·rename_i h
    go_ret
    exact⟨H7 (by unfold Pg;simp_all),rfl⟩
   ·rename_i h
    go_round
    case rel=>exact⟨1,ae,rfl,Lib.hid ⟨fun _=>by simpa using h,fun h=>ae⟩⟩
    case measure=>simp[intOf]
  ·have h0:=hz.out.1 ae
   replace h0:=Lib.hid h0
   go_wp2_with fail
   ·go_ret
    exact⟨H7 (by unfold Pg;rw[if_pos h0.out]),rfl⟩
   ·rename_i h
    go_round
    case rel=>exact⟨2,ae,rfl,Lib.hid ⟨fun _=>h0.out,fun _=>by simpa using h⟩⟩
    case measure=>simp[intOf]
  ·have h0:=Lib.hid (hz.out.1 ae)
   have h1:=Lib.hid (hz.out.2 ae)
   go_wp2_with fail
   go_ret
   exact⟨H7 (by unfold Pg;rw[if_pos h0.out,h1.out]),rfl⟩
def Grown (w w':World):Prop:=∃(q:Nat) (os:Array Obj),w'=Go.Sort.grow (w.drewN q) os
theorem Grown.refl (w:World):Grown w w:=⟨0, #[],by rw[grow_empty];rfl⟩
theorem Grown.alloc {w w':World} (h:Grown w w') (o:Obj):Grown w (w'.alloc o):=by
 obtain⟨q,os,rfl⟩:=h
 exact⟨q,os++ #[o],by rw[alloc_eq_grow,grow_grow]⟩
theorem Grown.drew {w w':World} (h:Grown w w'):Grown w w'.drew:=by
 obtain⟨q,os,rfl⟩:=h
 exact⟨q+1,os,by rw[drew_grow];rfl⟩
theorem Grown.dN {w w':World} (h:Grown w w') (n:Nat):Grown w (w'.drewN n):=by
 obtain⟨q,os,rfl⟩:=h
 exact⟨q+n,os,by
  show Go.Sort.grow ((w.drewN q).drewN n) os=Go.Sort.grow (w.drewN (q+n)) os
  simp[World.drewN,Nat.add_assoc]⟩
theorem xd (w:World) (a b:ar):Calls Tryz.prog 84 #[.agg #[.int .i64 a.fP,.int .i64 a.fE],.agg #[.int .i64 b.fP,.int .i64 b.fE]] w fun e w'=>e=.returned (.int .i64 (tT a b))/\Grown w w':=by
 go_enter Tryz.func84,Tryz.ntmps84
 go_wp2_with fail
 go_region_held3 (fun w'=>w'.cell? ⟨w.heap.size,0,none⟩=some (.int .i64 a.fP)/\w'.cell? ⟨w.heap.size,1,none⟩=some (.int .i64 a.fE)/\
   w'.cell? ⟨w.heap.size+1,0,none⟩=some (.int .i64 b.fP)/\w'.cell? ⟨w.heap.size+1,1,none⟩=some (.int .i64 b.fE))
  (first|go_keep)
  (first|(go_at_call 111;refine(Dy _ _ _).mono ?_;rintro e w' ⟨rfl,rfl⟩)|(go_at_call 110;refine(Pf _ (tR a.fE b.fE) (tR a.fP b.fP) _ (by simp[go_sem]) (by simp[go_sem])).mono ?_;rintro e w' ⟨rfl,rfl⟩))
 go_wp2_with fail
 go_ret
 refine⟨rfl,?_⟩
 repeat(first|(with_reducible exact Grown.refl _)|(refine Grown.alloc ?_ _)|(refine Grown.drew ?_)|(refine Grown.dN ?_ _))
instance:Inhabited aa:=⟨⟨⟨0,0⟩,0⟩⟩
variable {P:Program} {w:World} {D:Nat->Prop} {ι:Names}
def IB (a b:aa):Int:=tT a.aV b.aV
theorem xz (a b:aa):ltOf IB a b=jH a.aV b.aV:=by rw[ltOf,IB,xC]
def Ky:Prop:=∀(zQ off cap:Nat) (d:Array aa) (w:World),HoldsK gn 3 w zQ off d->zQ<w.heap.size->d.size<4611686018427387904->
 Calls Tryz.prog 128 #[.slice (some ⟨zQ,off,none⟩) d.size cap,.func (.func 129) #[] #[]] w fun e w'=>e=.returned (.tuple #[])/\∃d' n os,PermIn 0 d.size d d'/\SortedIn (ltOf IB) 0 d.size d'/\w'=sortWorldK gn 3 w zQ off n d' os
def Kz:Prop:=∀(p:Option Addr) (cap:Nat) (fv:Value) (w:World),Calls Tryz.prog 128 #[.slice p 0 cap,fv] w fun e w'=>e=.returned (.tuple #[])/\w'=w
theorem K1 (p:aa) (j:Nat) (a:AV) (h:(ab p)[j]? =some a) (P:Program) (w:World) (D:Nat->Prop) (ι:Names):dy P w D ι a (gn p)[j]! :=by
 match j,h with
 |0,h=>simp[ab]at h;subst h;exact .fy _ _ (.int _ _)
 |1,h=>simp[ab]at h;subst h;exact .fy _ _ (.int _ _)
 |2,h=>simp[ab]at h;subst h;exact .fy _ _ (.int _ _)
 |j+3,h=>simp[ab]at h
theorem JY (hC:Ky) (hN:Kz) (ps:List aa) (hlen:ps.length<=1048576) (σ:ax) (id:Id) (hg:σ.get id=some ⟨true,3,ps.map ab⟩):
  Call Tryz.prog 128 [.own id 0 ps.length,.fn 129 []] σ fun r σ'=>σ'.next=σ.next/\(∀x,x≠id->σ'.get x=σ.get x)/\∃qs,σ'.get id=some ⟨true,3,qs.map ab⟩/\qs.length=ps.length/\qs.Perm ps/\∀i j:Nat,i<j->j<qs.length->jH (aQ qs j).aV (aQ qs i).aV=false:=by
 refine iS fun hs D ι w vs S U A=>?_
 obtain⟨u1,us1,rfl,h1,h2⟩:=Bo A
 obtain⟨u2,us2,h3,h4,h5⟩:=Bo h2
 simp at h3;subst h3
 have:=Mv h5
 simp at this;subst this
 obtain⟨o,cap,B,rfl,hB,Lk,ho,zX,hmax,hk⟩:=jO h1
 obtain⟨Z3,gf,rfl,_,hz,_,_⟩:=CF h4
 have hz':Z3= #[]:=Array.eq_empty_of_size_eq_zero (by simpa using hz)
 subst hz'
 by_cases h0:ps=[]
 ·subst h0
  refine(hN _ _ _ w).mono ?_
  rintro e w' ⟨rfl,rfl⟩
  exact⟨.ib [],σ.get,σ.next,D,ι,_,rfl,⟨rfl,fun _ _=>rfl,[],hg,rfl,List.Perm.refl _,fun i j _ hj=>by simp at hj⟩,Step.refl _ _ _ _,S,U,Nat.le_refl _,.ib [] #[] (fun _=>Go.undef) rfl (fun j hj=>by simp at hj) (fun j a h=>by simp at h)⟩
 have lH:0<ps.length:=List.length_pos_iff.2 h0
 obtain⟨B',eG,R,kI,re⟩:=S.row id _ hg
 rw[hB]at eG;injection eG with eG;subst eG
 replace R:=R.row hk
 have e9:B.sz=3:=R.sz
 have Fu:o=0:=by rcases ho with h|h<;>omega
 subst Fu
 obtain⟨cur,T,hblk,eD,pI⟩:=R.cur
 have D6:ps.length*3<=B.C:=by simpa using R.fits
 have hH:HoldsK gn 3 w B.b 0 ps.toArray:=by
  intro t ht
  rw[size_flatK]at ht
  have ht2:t<ps.length*3:=by simpa using ht
  have hi:t / 3<ps.length:=ae
  have Ou:w.frozen? ⟨B.b,0+t,none⟩=false:=by
   simp only[World.frozen?,hblk];simp
  refine⟨?_,Ou⟩
  rw[get_flatK _ _ _ _ ht]
  have hd:(ps.toArray)[t / 3]! =ps[t / 3]:=by simp[getElem!_pos,hi]
  rw[hd]
  have hj:t % 3=0∨t % 3=1∨t % 3=2:=ae
  have ht3:0+t=(t / 3)*3+t % 3:=ae
  rw[ht3]
  rcases hj with hj|hj|hj
  ·obtain⟨v,hv,hr⟩:=R.at_ (t / 3) 0 (ab ps[t / 3]) _ (by simp[hi]) rfl
   rw[ew hr]at hv
   rw[hj];exact hv
  ·obtain⟨v,hv,hr⟩:=R.at_ (t / 3) 1 (ab ps[t / 3]) _ (by simp[hi]) rfl
   rw[ew hr]at hv
   rw[hj];exact hv
  ·obtain⟨v,hv,hr⟩:=R.at_ (t / 3) 2 (ab ps[t / 3]) _ (by simp[hi]) rfl
   rw[ew hr]at hv
   rw[hj];exact hv
 have iK:B.b<w.heap.size:=(Array.getElem?_eq_some_iff.1 hblk).1
 have Vy:=hC B.b 0 cap ps.toArray w hH iK (by simp;omega)
 rw[show ps.toArray.size=ps.length from by simp]at Vy
 refine Vy.mono ?_
 rintro e w' ⟨rfl,d',m,os,⟨xL,_,HI⟩,hsort,rfl⟩
 have F7:d'.size=ps.length:=by rw[xL];simp
 have hql:d'.toList.length=ps.length:=by simpa using F7
 have hP:d'.toList.Perm ps:=by
  have e1:d'.extract 0 ps.length=d':=by rw[<-F7];exact Array.extract_size
  have e2:ps.toArray.extract 0 ps.length=ps.toArray:=by
   have:ps.length=ps.toArray.size:=by simp
   rw[this];exact Array.extract_size
  rw[e1,e2]at HI
  simpa using HI
 have hF:∀t,t<ps.length*3->(flatK gn 3 d')[t]! =(gn d'[t / 3]!)[t % 3]! :=fun t ht=>get_flatK _ _ _ _ (by rw[F7];exact ht)
 have hFs:(flatK gn 3 d').size=ps.length*3:=by rw[size_flatK,F7]
 have hw:sortWorldK gn 3 w B.b 0 m d' os=Go.Sort.grow (Go.Sort.putRow (fun v:Value=>v) (Go.Sort.ahead w m) B.b 0 (flatK gn 3 d')) os:=rfl
 rw[hw]
 clear hw hH
 generalize flatK gn 3 d'=Fl at hF hFs ⊢
 have yJ:=S.put (r':=⟨true,3,d'.toList.map ab⟩) (cur':=Go.Sort.putCells (fun v:Value=>v) 0 Fl cur) hg rfl hB hblk (by simp[Go.Sort.putCells]) rfl rfl (by simpa[F7]using D6) (fun cs eD=>by
   obtain⟨x,_,rfl⟩:=List.mem_map.1 eD;rfl) (fun cs eD a ha=>by
   obtain⟨x,_,rfl⟩:=List.mem_map.1 eD
   simp[ab]at ha;rcases ha with rfl|rfl|rfl<;>rfl) (fun i j cs a hi hj=>by
   have xI:i<d'.toList.length:=by
    have:=(List.getElem?_eq_some_iff.1 hi).1
    simpa using this
   have Uo:j<3:=by
    have:=List.mem_of_getElem? hi
    obtain⟨x,_,rfl⟩:=List.mem_map.1 this
    exact(List.getElem?_eq_some_iff.1 hj).1
   have YT:cs=ab d'[i]! :=by
    rw[List.getElem?_map,List.getElem?_eq_getElem xI]at hi
    simp at hi
    rw[<-hi,getElem!_pos d' i (by simpa using xI)]
   subst YT
   have NK:i*3+j<ps.length*3:=ae
   refine⟨(gn d'[i]!)[j]!,?_,K1 _ _ _ hj _ _ _ _⟩
   have pJ:i*3+j<cur.size:=by rw[eD];omega
   show(Go.Sort.putCells (fun v:Value=>v) 0 Fl cur)[i*3+j]? = _
   simp only[Go.Sort.putCells,Array.getElem?_mapIdx,Array.getElem?_eq_getElem pJ,Option.map_some]
   rw[if_pos ⟨Nat.zero_le _,by rw[hFs];omega⟩,Nat.sub_zero,hF _ NK,show(i*3+j) / 3=i from by omega,show(i*3+j) % 3=j from by omega])
 obtain⟨S1,uW⟩:=yJ
 have iL:(Go.Sort.putRow (fun v:Value=>v) (Go.Sort.ahead w m) B.b 0 Fl).heap.size=w.heap.size:=by simp
 have Qf:∀k,k<(w.setRow B.b (Go.Sort.putCells (fun v:Value=>v) 0 Fl cur)).heap.size->(Go.Sort.grow (Go.Sort.putRow (fun v:Value=>v) (Go.Sort.ahead w m) B.b 0 Fl) os).heap[k]? =(w.setRow B.b (Go.Sort.putCells (fun v:Value=>v) 0 Fl cur)).heap[k]? :=fun k hk=>by
  have HH:k<w.heap.size:=by simpa using hk
  rw[heap_grow_old _ _ (by rw[iL];exact HH)]
  simp only[Go.Sort.putRow,Go.Sort.mapBlock,heap_ahead,Array.getElem?_modify]
  by_cases Zc:B.b=k
  ·subst Zc
   rw[setRow_heap w B.b cur _ T _ hblk,if_pos rfl,hblk];rfl
  ·rw[if_neg Zc,setRow_other w B.b k _ (fun h=>Zc h.symm)]
 have sC:(w.setRow B.b (Go.Sort.putCells (fun v:Value=>v) 0 Fl cur)).heap.size<=(Go.Sort.grow (Go.Sort.putRow (fun v:Value=>v) (Go.Sort.ahead w m) B.b 0 Fl) os).heap.size:=by
  rw[size_grow,iL];simp
 have S2:=S1.stay (D':=D) (ι':=ι) Qf sC (fun _ h=>h) (fun b hb=>Nat.lt_of_lt_of_le (S1.dead b hb) sC) (fun _ h=>.inl h) (fun _ _ h=>h)
 have QS:=uW.trans (Step.stay (D':=D) (ι':=ι) S1 Qf sC (by simp[Go.Sort.grow,Go.Sort.putRow,Go.Sort.mapBlock,Go.Sort.ahead]) (by simp[Go.Sort.grow,Go.Sort.putRow,Go.Sort.mapBlock,Go.Sort.ahead]) (by simp[Go.Sort.grow,Go.Sort.putRow,Go.Sort.mapBlock,Go.Sort.ahead]) (fun _ h=>h) (fun _ h=>.inl h) (fun _ _ h=>h))
 refine⟨.ib [],bK σ.get id ⟨true,3,d'.toList.map ab⟩,σ.next,D,ι,_,rfl,⟨rfl,fun x hx=>by simp[bK,hx],d'.toList,by simp[bK],hql,hP,fun i j Gd hj=>?_⟩,QS,S2,U,Nat.le_refl _,.ib [] #[] (fun _=>Go.undef) rfl (fun j hj=>by simp at hj) (fun j a h=>by simp at h)⟩
 have h:=hsort i j (Nat.zero_le _) Gd ae
 rw[xz]at h
 have e1:d'[j]! =aQ d'.toList j:=by rw[fm hj,getElem!_pos d' j (by simpa using hj)];rfl
 have hi:i<d'.toList.length:=ae
 have e2:d'[i]! =aQ d'.toList i:=by rw[fm hi,getElem!_pos d' i (by simpa using hi)];rfl
 rw[<-e1,<-e2];exact h
theorem QN {w w':World} (h:Grown w w') (os:Array Obj):Grown w (Go.Sort.grow w' os):=by
 obtain⟨q,os0,rfl⟩:=h
 exact⟨q,os0++os,by rw[grow_grow]⟩
theorem N5 (w:World) (a b:aa):Calls Tryz.prog 129 #[.agg #[.int .i64 a.aV.fP,.int .i64 a.aV.fE,.int .i64 a.bp],.agg #[.int .i64 b.aV.fP,.int .i64 b.aV.fE,.int .i64 b.bp]] w fun e w'=>e=.returned (.int .i64 (IB a b))/\Grown w w':=by
 go_enter Tryz.func129,Tryz.ntmps129
 go_wp2_with (first|(go_at_call 84;refine(xd _ a.aV b.aV).mono ?_;rintro e w' ⟨rfl,hG⟩))
 obtain⟨q,os,rfl⟩:=hG
 go_ret
 refine⟨rfl,QN (Grown.dN ?_ q) os⟩
 repeat(first|(with_reducible exact Grown.refl _)|(refine Grown.alloc ?_ _)|(refine Grown.drew ?_)|(refine Grown.dN ?_ _))
theorem ZY:SWO (ltOf IB) where
 irrefl x:=by rw[xz];exact jM
 trans x y z h1 h2:=by rw[xz]at *;exact jg h1 h2
 ntrans x y z h1 h2:=by rw[xz]at *;rw[rn]at *;omega
theorem Sy:Ky:=fun zQ off cap d w hH hblk e9=>by
 have eg:∀args w,(callFunc 129 args).run Tryz.prog w=.ok (.enter 129 args) w:=enters_of Tryz.func129 (by kernel_rfl) rfl
 have h:=AnyQ.slices_SortFunc Tryz.MJ 3 Tryz.isAgg70 Tryz.sizeOf70 gn (fun _=>rfl) (fun x v hv=>by simp[gn]at hv;rcases hv with rfl|rfl|rfl<;>rfl) IB ZY 129 #[] zQ off cap d w eg (fun m os dk _ x y=>(N5 _ x y).mono fun _ _ ⟨he,q,os',hw⟩=>⟨he,q,os',hw⟩) hH hblk e9
 exact h
theorem Sz:Kz:=fun p cap fv w=>AnyF.slices_SortFunc_none Tryz.MJ p cap fv w
end Go.Proofs.YtiabgllilcfheaaGreat.V

namespace Go.Proofs.YtiabgllilcfheaaGreat.V
open Go.RowKit
attribute [local irreducible] er wpOps fY Call
attribute [local go_sem] aF fC eR fN fK du upd cw K.av cQ AV.cells AV.cell rowOf rowsOf part ld rowAt bK cq dH dX gG bP dd eh fJ fa dw ea db da dM dP bV bd cU bU cW cV dV eb dZ cR bY dc dY bQ aD cY cF gF bD cL bW aY dn bj dI AV.undef bH bJ dQ dW dL dK cK ef eo cz ee ec cX cZ List.getD_cons_zero List.getD_cons_succ List.getD_nil List.all_cons List.all_nil Bool.and_true Bool.true_and Bool.and_self Bool.not_true Bool.not_false Option.map_some Option.map_none Option.bind_some Option.bind_none List.length_cons List.length_nil List.take_succ_cons List.take_zero List.take_nil List.drop_succ_cons List.drop_zero List.drop_nil List.head?_cons List.map_cons List.map_nil List.getElem?_cons_zero List.getElem?_cons_succ List.cons_append List.nil_append List.append_nil List.length_map List.set_cons_zero List.set_cons_succ Nat.reduceMul eq_self Int.toNat_natCast Int.natCast_nonneg and_self true_and and_true decide_true decide_false Bool.false_eq_true Nat.zero_add Nat.add_zero List.contains_cons List.contains_nil Bool.or_false Bool.false_or beq_self_eq_true Nat.reduceBEq ne_eq not_true_eq_false not_false_eq_true Id.mk.injEq false_and and_false Nat.reduceLT Int.reduceLE Int.reduceLT Int.reduceToNat Int.reduceNeg Int.reduceAdd Nat.le_refl List.length_append beq_true beq_false Bool.not_eq_eq_eq_not or_false false_or eu ai aj aP bh bZ cm aW bx aK bf cP bI
theorem Wo {σ:ax} {c T O:Id} {s:aw} {ts:List aa} (h:mB σ.get σ.next c T O s ts) (hS:iF s.aZ) (hF:∀q,0<=fe ts q->eU s.aZ (fe ts q)=true) (p:ar) (hp:zf p=true) (t:Int) (ht:eU s.aZ t=true) (h0:eO ts p<0):
  Call Tryz.prog 69 [.ptr c 0 0,.agg (ah p),.int .i64 t] σ (fun r σ'=>r=.ib []/\mB σ'.get σ'.next c T O s (ts++[⟨p,t⟩])/\σ.next<=σ'.next/\∀x:Id,x.bt<σ.next->x≠T->x≠O->σ'.get x=σ.get x):=by
 refine ij fF rfl fun jc=>?_
 clear jc
 obtain⟨hx,hy⟩:=qM hp
 have lQ:=mY.1 h0
 have Oj:∀q,0<=fe (ts++[⟨p,t⟩]) q->eU s.aZ (fe (ts++[⟨p,t⟩]) q)=true:=fun q hq=>by
  rw[BH q lQ]at hq ⊢
  split at hq
  ·rename_i he;rw[if_pos he];exact ht
  ·rename_i he;rw[if_neg he];exact hF q hq
 obtain⟨rows,ho,hw⟩:=h.op
 obtain⟨fi,I8⟩:=EV hw p.fP p.fE
 have h1:=h.row
 have h2:=h.tl
 have v1:=dj h.cv
 have v2:=dj h.tv
 have v3:=dj h.ov
 have hm:=tf h0
 have cT:=eq_false h.cT
 have cO:=eq_false h.cO
 have TO:=eq_false h.TO
 have Tc:=eq_false (fun e:T=c=>h.cT e.symm)
 have Oc:=eq_false (fun e:O=c=>h.cO e.symm)
 have OT:=eq_false (fun e:O=T=>h.TO e.symm)
 (try((repeat(revert hN;revert N;apply Pn.out));refine wk (tw @h1 (tw @h2 (tw @ho (tw @v1 (tw @v2 (tw @v3 (tw @hm (tw @I8 (tw @cT (tw @cO (tw @TO (tw @Tc (tw @Oc (tw @OT @ah.eq_1)))))))))))))) ?_;(repeat(refine Pn.mk ?_;intro N hN))))
 have hG:∀x:Id,x.bt<σ.next->x≠T->x≠O->(bK (bK (bK σ.get ⟨69000000,σ.next⟩ ⟨true,2,[[.int .i64 p.fP,.int .i64 p.fE]]⟩) T ⟨true,mP.pU,ts.map ab++[[.int .i64 p.fP,.int .i64 p.fE,.int .i64 t]]⟩) O ⟨true,mP.pU,dK rows fi⟩) x=σ.get x:=fun x R9 ZN Qv=>by
  have a1:=eq_false ZN
  have a2:=eq_false Qv
  have a3:=dj R9
  simp only[go_sem, ↓reduceIte,Nat.reduceEqDiff,Nat.reduceAdd,Nat.reduceSub,Nat.reduceLeDiff,reduceCtorEq,a1,a2,a3]
 have hC:mB (bK (bK (bK σ.get ⟨69000000,σ.next⟩ ⟨true,2,[[.int .i64 p.fP,.int .i64 p.fE]]⟩) T ⟨true,mP.pU,ts.map ab++[[.int .i64 p.fP,.int .i64 p.fE,.int .i64 t]]⟩) O ⟨true,mP.pU,dK rows fi⟩) (σ.next+1+1+1+1) c T O s (ts++[⟨p,t⟩]):=
  ⟨(hG c h.cv h.cT h.cO).trans h1,by simp only[go_sem, ↓reduceIte,Nat.reduceEqDiff,Nat.reduceAdd,Nat.reduceSub,Nat.reduceLeDiff,reduceCtorEq,TO];rw[List.map_append];rfl,⟨_,sd @Nat.zero_add,Mn hw fi⟩,by have:=h.cv;omega,by have:=h.tv;omega,by have:=h.ov;omega,h.cT,h.cO,h.TO⟩
 refine .inr (aA _ _ _ _ _ (fun r σ1 hq=>?_) (uk (σ:=⟨_,σ.next+1+1+1+1⟩) hC.C3 hC.cO hC.TO hC.op hS Oj p hx hy))
 obtain⟨g1,x1⟩:=σ1
 obtain⟨rfl,hL⟩:=hq
 (try dsimp only at hL)
 have Lf:=hC.look (σ:=⟨_,σ.next+1+1+1+1⟩) hL
 have hn:=hL.1
 have hf:=hL.2.1
 (try dsimp only at hn hf)
 refine hN _ _ ?_
 clear hN N
 (try((repeat(revert hN;revert N;apply Pn.out));refine wk @Nat.zero_add ?_;(repeat(refine Pn.mk ?_;intro N hN))))
 exact gN (.inr rfl) (vs:=[]) rfl ⟨rfl,Lf.frame aU fun _ _=>rfl,aU,fun x R9 ZN Qv=>(hf x ae Qv).trans (hG x R9 ZN Qv)⟩
end Go.Proofs.YtiabgllilcfheaaGreat.V

namespace Go.Proofs.YtiabgllilcfheaaGreat.V
open Go.RowKit
def E5 (m:MK) (it nx ok en:Nat) (id:Id) (B:(Ex->Env->ax->Prop)->Env->ax->Prop) (b b1:Nat) (Q:Ex->Env->ax->Prop):Nat->List (List AV)->Env->ax->Prop
 |0,_,env,σ=>env it=.ptr id 0 0/\Q .normal (upd (upd env (some nx) (.ib [.bool false])) (some ok) (.bool false)) ⟨σ.get,σ.next+1⟩
 |n+1,left,env,σ=>env it=.ptr id 0 0/\∀i cs kv vv,left[i]? =some cs->part m.ka m.ks cs=some kv->cs[m.ks]? =some vv->
   B (bj b1 (dn (E5 m it nx ok en id B b b1 Q n (left.eraseIdx i)) (bj b Q))) (upd (upd (upd env (some nx) (.ib [.bool true,kv,vv])) (some ok) (.bool true)) (some en) (.ib [kv,vv])) ⟨σ.get,σ.next+1⟩
def JT (m:MK) (tm:O) (site it nx ok en:Nat) (B:(Ex->Env->ax->Prop)->Env->ax->Prop) (b b1:Nat) (Q:Ex->Env->ax->Prop) (env:Env) (σ:ax):Prop:=
 ∃id r,du env tm=.map id m/\σ.get id=some r/\r.w=true/\E5 m it nx ok en ⟨site,σ.next⟩ B b b1 Q r.rows.length r.rows (upd env (some it) (.ptr ⟨site,σ.next⟩ 0 0)) ⟨bK σ.get id {r with w:=false},σ.next+1⟩
variable {P:Program} {w w':World} {D D':Nat->Prop} {ι ι':Names} {hs:Nat} {g:Rows}
theorem ly.FX (hc:∀b x,D b->w'.cell? ⟨b,x,none⟩=w.cell? ⟨b,x,none⟩) {a:AV} {v:Value} (h:ly P w D a v):ly P w' D a v:=by
 induction h with
 |int k n=>exact .int k n
 |bool b=>exact .bool b
 |str s=>exact .str s
 |ck=>exact .ck
 |iZ=>exact .iZ
 |jS=>exact .jS
 |j6=>exact .j6
 |Db a c h=>exact .Db a c h
 |sl rows b o n c sz vs h1 h2 h3 h4 h5 h5' h6 _ ih=>exact .sl rows b o n c sz vs h1 h2 h3 h4 h5 h5' (fun i j hi hj=>(hc b _ h4).trans (h6 i j hi hj)) ih
 |dv cs b o vs h1 Rm h2 _ ih=>exact .dv cs b o vs h1 Rm (fun j hj=>(hc b _ h1).trans (h2 j hj)) ih
 |agg cs vs f h1 h2 h3 _ ih=>exact .agg cs vs f h1 h2 h3 ih
 |fn f dG vs g h1 h2 h3 _ ih=>exact .fn f dG vs g h1 h2 h3 ih
theorem dy.FX (hc:∀b x,D b->w'.cell? ⟨b,x,none⟩=w.cell? ⟨b,x,none⟩) {a:AV} {v:Value} (h:dy P w D ι a v):dy P w' D ι a v:=by
 induction h with
 |fy a v h=>exact .fy a v (h.FX hc)
 |map id m B h1 h2=>exact .map id m B h1 h2
 |tQ id c B h1 h2=>exact .tQ id c B h1 h2
 |own id off len o cap B h1 h2 h3 h4 h5 h6=>exact .own id off len o cap B h1 h2 h3 h4 h5 h6
 |ptr id i off B h1 h2=>exact .ptr id i off B h1 h2
 |agg cs vs f h1 h2 h3 _ ih=>exact .agg cs vs f h1 h2 h3 ih
 |ib cs vs f h1 h2 _ ih=>exact .ib cs vs f h1 h2 ih
 |fn f dG vs g h1 h2 h3 _ ih=>exact .fn f dG vs g h1 h2 h3 ih
 |wR f dG vs g h1 h2 h3 _ ih=>exact .wR f dG vs g h1 h2 h3 ih
def oq (w:World) (rr:Nat):Prop:=∃m s seen c,w.heap[rr]? =some (.mapIter m s seen c)
theorem oq.cell {rr:Nat} (h:oq w rr) (x:Nat):w.cell? ⟨rr,x,none⟩=none:=by
 obtain⟨m,s,seen,c,h⟩:=h
 simp[World.cell?,h]
theorem jk.Me {B:uS} {r:Row} (R:jk P w D ι B r):¬oq w B.b:=by
 rintro⟨m,s,seen,c,h⟩
 cases hk:B.k with
 |none=>obtain⟨c',T,h3,_⟩:=(R.row hk).zQ;rw[h]at h3;cases h3
 |some k=>
  cases k with
  |map m=>obtain⟨_,es,c',h3,_⟩:=R.map m hk;rw[h]at h3;cases h3
  |chan c=>obtain⟨_,buf,s',q,h3,_⟩:=R.chan c hk;rw[h]at h3;cases h3
theorem A3 {rr:Nat} (h:oq w rr) (h':oq w' rr) (ho:∀b,b≠rr->w'.heap[b]? =w.heap[b]?):(∀{a v},dy P w D ι a v->dy P w' D ι a v):=fun hr=>hr.FX fun b x _=>by
 by_cases hb:b=rr
 ·subst hb;rw[h.cell,h'.cell]
 ·exact World.cell?_of_block (ho b hb)
theorem iD.iter {rr:Nat} (S:iD P hs D ι g w) (h:oq w rr) (h':oq w' rr) (ho:∀b,b≠rr->w'.heap[b]? =w.heap[b]?) (hz:w'.heap.size=w.heap.size):iD P hs D ι g w':=
 ⟨by rw[hz];exact S.lo,fun b hb=>by rw[hz];exact S.dead b hb,fun id r hg=>by
  obtain⟨B,hB,R,k1,k2⟩:=S.row id r hg
  exact⟨B,hB,R.frame (ho _ fun e=>R.Me (e▸h)) fun a v hr=>A3 h h' ho hr,k1,k2⟩,S.inj⟩
theorem oe {ops:Array Oper} {Q:Exit->Act->World->Prop} {a:Act} {o:Oper} {l:List Oper} {v:Value} (hg:o.guard=none) (iw:(execOp a.eval o).run P w=.ok (.value v) w') (h:wpList P ops Q l (a.put o.dst v) w'):wpList P ops Q (o::l) a w:=by
 unfold wpList
 rw[if_pos (by simp[Region.wanted,hg])]
 exact .inl (by unfold Oper.wp;rw[iw];exact h)
theorem My {x y:AV} {u v:Value} (h1:dy P w D ι x u) (h2:dy P w D ι y v):dy P w D ι (.ib [x,y]) (.tuple #[u,v]):=
 .ib _ _ (fun j=>if j=0 then u else v) rfl (fun j hj=>by match j,hj with|0,_=>rfl|1,_=>rfl|j+2,hj=>simp at hj;omega) (fun j a ha=>by match j,ha with|0,ha=>simp at ha;subst ha;exact h1|1,ha=>simp at ha;subst ha;exact h2|j+2,ha=>simp at ha)
theorem Mz {x y z:AV} {u v t:Value} (h1:dy P w D ι x u) (h2:dy P w D ι y v) (h3:dy P w D ι z t):dy P w D ι (.ib [x,y,z]) (.tuple #[u,v,t]):=
 .ib _ _ (fun j=>if j=0 then u else if j=1 then v else t) rfl (fun j hj=>by match j,hj with|0,_=>rfl|1,_=>rfl|2,_=>rfl|j+3,hj=>simp at hj;omega) (fun j a ha=>by match j,ha with|0,ha=>simp at ha;subst ha;exact h1|1,ha=>simp at ha;subst ha;exact h2|2,ha=>simp at ha;subst ha;exact h3|j+3,ha=>simp at ha)
theorem Mx {x:AV} {u:Value} (h1:dy P w D ι x u):dy P w D ι (.ib [x]) (.tuple #[u]):=
 .ib _ _ (fun _=>u) rfl (fun j hj=>by match j,hj with|0,_=>rfl|j+1,hj=>simp at hj) (fun j a ha=>by match j,ha with|0,ha=>simp at ha;subst ha;exact h1|j+1,ha=>simp at ha)
structure PY (P:Program) (w:World) (D:Nat->Prop) (ι:Names) (m:MK) (L:List MapEntry) (left:List (List AV)):Prop where
 len:left.length=L.length
 at_:∀(i:Nat) (cs:List AV),left[i]? =some cs->∃(e:MapEntry) (kv vv:AV),L[i]? =some e/\part m.ka m.ks cs=some kv/\cs[m.ks]? =some vv/\dy P w D ι kv e.key/\dy P w D ι vv e.val
theorem PY.rep {m:MK} {L:List MapEntry} {left:List (List AV)} (h:PY P w D ι m L left) (hr:∀{a v},dy P w D ι a v->dy P w' D' ι' a v):PY P w' D' ι' m L left:=⟨h.len,fun i cs hi=>by
 obtain⟨e,kv,vv,h1,h2,h3,h4,h5⟩:=h.at_ i cs hi
 exact⟨e,kv,vv,h1,h2,h3,hr h4,hr h5⟩⟩
theorem oH {α β:Type} {l:List α} {k:List β} {i j:Nat} {x:α} (hl:l.length=k.length) (h:(l.eraseIdx i)[j]? =some x):∃q:Nat,l[q]? =some x/\(k.eraseIdx i)[j]? =k[q]? :=by
 rw[List.getElem?_eraseIdx]at h
 split at h
 ·rename_i hj;exact⟨j,h,by rw[List.getElem?_eraseIdx,if_pos hj]⟩
 ·rename_i hj;exact⟨j+1,h,by rw[List.getElem?_eraseIdx,if_neg hj]⟩
theorem PY.erase {m:MK} {L:List MapEntry} {left:List (List AV)} (h:PY P w D ι m L left) {i:Nat} (hi:i<L.length):PY P w D ι m (L.eraseIdx i) (left.eraseIdx i):=⟨by
 rw[List.length_eraseIdx,List.length_eraseIdx,h.len],fun j cs hj=>by
 obtain⟨q,hq,he⟩:=oH h.len hj
 obtain⟨e,kv,vv,h1,h2⟩:=h.at_ q cs hq
 exact⟨e,kv,vv,he.trans h1,h2⟩⟩
theorem pk:∀{l:List MapEntry} {i:Nat} {e:MapEntry},(l.map (·.born)).Nodup->l[i]? =some e->l.filter (fun x=>x.born !=e.born)=l.eraseIdx i
 |x::l,0,e,hn,h=>by
  simp at h;subst h
  obtain⟨h1,h2⟩:=List.nodup_cons.1 (show(x.born::l.map (·.born)).Nodup from hn)
  rw[List.filter_cons,if_neg (by simp),List.eraseIdx_cons_zero]
  refine List.filter_eq_self.2 fun y hy=>?_
  have:y.born≠x.born:=fun hc=>h1 (by rw[<-hc];exact List.mem_map_of_mem hy)
  simpa using this
 |x::l,i+1,e,hn,h=>by
  obtain⟨h1,h2⟩:=List.nodup_cons.1 (show(x.born::l.map (·.born)).Nodup from hn)
  simp only[List.getElem?_cons_succ]at h
  have hx:x.born≠e.born:=fun hc=>h1 (by rw[hc];exact List.mem_map_of_mem (List.mem_of_getElem? h))
  rw[List.filter_cons,if_pos (by simpa using hx),List.eraseIdx_cons_succ,pk h2 h]
theorem Gw {es:Array MapEntry} {clock:Nat} {seen:Array Nat} {i:Nat} {e:MapEntry} (hs:NU es clock) (h:(leftOf es seen).toList[i]? =some e):(leftOf es (seen.push e.born)).toList=(leftOf es seen).toList.eraseIdx i:=by
 have hn:((leftOf es seen).toList.map (·.born)).Nodup:=by
  unfold leftOf
  rw[Array.toList_filter]
  exact((List.filter_sublist (p:=fun e=> !seen.contains e.born) (l:=es.toList)).map MapEntry.born).nodup hs.2
 rw[<-pk hn h]
 unfold leftOf
 rw[Array.toList_filter,Array.toList_filter,List.filter_filter]
 refine List.filter_congr fun x _=>?_
 rw[contains_push]
 cases seen.contains x.born<;>cases hb:(x.born==e.born)<;>simp_all
theorem eval_put {a:Act} {d:Nat} {v:Value} (h:d<a.tmps.size):(a.put (some d) v).eval (.tmp d)=v:=by
 simp[Act.put,Act.eval,h]
def MD (ix ie b b1 ok:Nat) (GB JI GA:Oper) (uv:List Oper) (pj:Code):Code:=
 .seq (.region ix #[GB,JI] false) (.seq (.cond (.tmp ok) .skip (.exit b)) (.block b1 (.seq (.region ie (GA::uv).toArray false) pj)))
structure Kx (P:Program) (md:List (Nat×Nat)) (nt fid s0 it nx ok en:Nat) (GB JI GA:Oper) (uv:List Oper) (pj:Code) (vE:List bc) (uK:VC):Prop where
 h1:GB.op=.next (.tmp it) false
 h2:GB.dst=some nx
 h3:GB.guard=none
 h4:JI.op=.extract (.tmp nx) 0
 h5:JI.dst=some ok
 h6:JI.guard=none
 h7:GA.op=.entry (.tmp it)
 h8:GA.dst=some en
 h9:GA.guard=none
 UI:nx<nt
 XM:ok<nt
 lt3:en<nt
 ne1:it≠nx
 ne2:it≠ok
 hE:allM (lU P (GA::uv).toArray nt s0 false false #[] []) uv 1=some vE
 hR:jA P md nt fid pj=some uK
theorem GM (hm:P.follows .mixedOrders=true) {md:List (Nat×Nat)} {nt fid s0 ix ie b b1 it nx ok en:Nat} {m:MK} {id:Id} {GB JI GA:Oper} {uv:List Oper} {pj:Code} {vE:List bc} {uK:VC}
  (O:Kx P md nt fid s0 it nx ok en GB JI GA uv pj vE uK) {rr bm:Nat} {es:Array MapEntry} {clock:Nat} (Jf:NU es clock) {ds:List Deferred} {n0:Nat} {D0:Nat->Prop} {ι0:Names} {w0:World} {Q:Ex->Env->ax->Prop} {Q':Exit->Act->World->Prop}
  (hQ:wi P hs nt ds Q n0 D0 ι0 w0 Q') (hD0:¬D0 rr) (hrr:hs<=rr) (iN:bm≠rr):
  ∀(n:Nat) (left:List (List AV)) (env:Env) (σ:ax) (a:Act) (w:World) (D:Nat->Prop) (ι:Names) (seen:Array Nat),
   E5 m it nx ok en id (er (Sound P) (.seq (.fo false vE) uK)) b b1 Q n left env σ->St P hs nt D ι env σ a w->a.defers=ds->n0<=σ.next->Step hs D0 ι0 w0 D ι w->
   (∃sz C,ι id=some ⟨rr,sz,C,none⟩)->D rr->D bm->w.heap[rr]? =some (.mapIter (some bm) clock seen clock)->w.heap[bm]? =some (.map es clock)->left.length=n->PY P w D ι m (leftOf es seen).toList left->
   rq P (MD ix ie b b1 ok GB JI GA uv pj) (Exit.inBlock b Q') (n+1) a w:=by
 intro n
 induction n with
 |zero=>
  intro left env σ a w D ι seen hv ev hd Ge T hid YA Yz hr hb hlen hL
  obtain⟨Oz,hq⟩:=hv
  have ha:a.tmps.getD it undef=.pointer (some ⟨rr,0,none⟩):=by
   have:=ev.env it
   rw[Oz]at this
   obtain⟨B,e,hB,_⟩:=jy this
   obtain⟨sz,C,hid⟩:=hid
   rw[hid]at hB;injection hB with hB;subst hB
   simpa using e
  have Xe:a.eval (.tmp it)=.pointer (some ⟨rr,0,none⟩):=ha
  rcases run_next_at (P:=P) w GB.type rr bm clock clock seen es clock hr hb Jf.1 (Nat.le_refl _)with⟨_,iw⟩|⟨e,he,_⟩
  rotate_left
  ·have h0:(leftOf es seen).toList=[]:=List.eq_nil_of_length_eq_zero (by rw[<-hL.len,hlen])
   rw[h0]at he;simp at he
  have xL:nx<a.tmps.size:=by rw[ev.size];exact O.UI
  have E2:=jw (jw ev.env (Mx (.fy _ _ (.bool false))) (dst:=some nx) (fun d h=>by cases h;exact O.UI) ev.size) (.fy _ _ (.bool false)) (dst:=some ok) (fun d h=>by cases h;exact O.XM) (by rw[fS];exact ev.size)
  show Am P (.seq _ _) _ a w
  refine nh (kO (wp_region_list ?_))
  refine oe (v:=.tuple #[.bool false]) (w':=w) O.h3 (by simp[execOp,O.h1,Xe,iw,Result.andThen]) ?_
  refine oe (v:=.bool false) (w':=w) O.h6 (by rw[O.h2];simp[execOp,O.h4,eval_put xL,Instr.extract]) ?_
  rw[O.h2,O.h5]
  refine nh (y6 (t:=false) (eval_put (by rw[fS,ev.size];exact O.XM)) (kO (wp_exit ?_)))
  show Exit.inBlock b Q' (.exit b) _ _
  simp only[Exit.inBlock,if_true]
  exact hQ .normal _ ⟨σ.get,σ.next+1⟩ _ w D ι hq T ⟨ev.vZ,ev.used.next,E2,by rw[fS,fS];exact ev.size⟩ (by rw[put_defers,put_defers];exact hd) (Nat.le_succ_of_le Ge)
 |succ n ih=>
  intro left env σ a w D ι seen hv ev hd Ge T hid YA Yz hr hb hlen hL
  obtain⟨Oz,hq⟩:=hv
  have ha:a.tmps.getD it undef=.pointer (some ⟨rr,0,none⟩):=by
   have:=ev.env it
   rw[Oz]at this
   obtain⟨B,e,hB,_⟩:=jy this
   obtain⟨sz,C,hid⟩:=hid
   rw[hid]at hB;injection hB with hB;subst hB
   simpa using e
  have Xe:a.eval (.tmp it)=.pointer (some ⟨rr,0,none⟩):=ha
  rcases run_next_at (P:=P) w GB.type rr bm clock clock seen es clock hr hb Jf.1 (Nat.le_refl _)with⟨h0,_⟩|⟨e,he,w1,tD,iw⟩
  ·have:=hL.len
   rw[hlen,Array.length_toList]at this;omega
  obtain⟨i,hi,C8⟩:=List.getElem_of_mem he
  have VL:(leftOf es seen).toList[i]? =some e:=by rw[List.getElem?_eq_getElem hi,C8]
  have l5:i<left.length:=by rw[hL.len];exact hi
  obtain⟨e',kv,vv,q1,q2,q3,q4,q5⟩:=hL.at_ i left[i] (List.getElem?_eq_getElem l5)
  rw[VL]at q1;injection q1 with q1;subst q1
  replace hq:=hq i left[i] kv vv (List.getElem?_eq_getElem l5) q2 q3
  have ZD:w1.heap[rr]? =some (.mapIter (some bm) clock seen clock):=by rcases tD with rfl|rfl<;>exact hr
  have fj:=MapKept.heap_set (o':=.mapIter (some bm) clock (seen.push e.born) clock) ZD
  obtain⟨w2,xl⟩:∃w2,ChangeMaps.setBlock w1 rr (.mapIter (some bm) clock (seen.push e.born) clock)=w2:=⟨_,rfl⟩
  have ho:∀k,k≠rr->w2.heap[k]? =w.heap[k]? :=fun k hk=>by
   rw[<-xl]
   refine(fj.2 k hk).trans ?_
   rcases tD with rfl|rfl<;>rfl
  have hz:w2.heap.size=w.heap.size:=by
   rw[<-xl]
   rcases tD with rfl|rfl<;>simp[ChangeMaps.setBlock]
  have OJ:w2.heap[rr]? =some (.mapIter (some bm) clock (seen.push e.born) clock):=by rw[<-xl];exact fj.1
  have zZ:w2.os=w.os/\w2.tape=w.tape/\w2.output=w.output:=by
   rw[<-xl]
   rcases tD with rfl|rfl<;>exact⟨rfl,rfl,rfl⟩
  rw[xl]at iw
  clear xl fj
  have I1:oq w rr:=⟨_,_,_,_,hr⟩
  have I2:oq w2 rr:=⟨_,_,_,_,OJ⟩
  have rt:∀{a v},dy P w D ι a v->dy P w2 D ι a v:=A3 I1 I2 ho
  have S2:=ev.vZ.iter I1 I2 ho hz
  have T2:Step hs D0 ι0 w0 D ι w2:=⟨⟨zZ.1.trans T.below.os,zZ.2.1.trans T.below.tape,zZ.2.2.trans T.below.output,by rw[hz];exact T.below.size,fun k hk=>(ho k ae).trans (T.below.block k hk)⟩,fun k hk=>(ho k (fun hc=>hD0 (hc▸hk))).trans (T.sa k hk),T.dead,T.names,T.new⟩
  have Lj:w2.heap[bm]? =some (.map es clock):=(ho bm iN).trans hb
  have xL:nx<a.tmps.size:=by rw[ev.size];exact O.UI
  have E1:di P w2 D ι env a:=fun t=>rt (ev.env t)
  have E2:=jw (jw E1 (Mz (.fy _ _ (.bool true)) (rt q4) (rt q5)) (dst:=some nx) (fun d h=>by cases h;exact O.UI) ev.size) (.fy _ _ (.bool true)) (dst:=some ok) (fun d h=>by cases h;exact O.XM) (by rw[fS];exact ev.size)
  have E3:=jw E2 (My (rt q4) (rt q5)) (dst:=some en) (fun d h=>by cases h;exact O.lt3) (by rw[fS,fS];exact ev.size)
  have YY:=run_entry_at (P:=P) w2 rr bm clock seen es clock e OJ Lj (mem_left he).1 Jf.2
  show Am P (.seq _ _) _ a w
  refine nh (kO (wp_region_list ?_))
  refine oe (v:=.tuple #[.bool true,e.key,e.val]) (w':=w2) O.h3 (by simp[execOp,O.h1,Xe,iw,Result.andThen]) ?_
  refine oe (v:=.bool true) (w':=w2) O.h6 (by rw[O.h2];simp[execOp,O.h4,eval_put xL,Instr.extract]) ?_
  rw[O.h2,O.h5]
  refine nh (y6 (t:=true) (eval_put (by rw[fS,ev.size];exact O.XM)) (kO (wp_skip ?_)))
  refine vN (nh (kO (wp_region_list ?_)))
  show wpList P _ _ (GA::uv) _ _
  have ha3:(((a.put (some nx) (.tuple #[.bool true,e.key,e.val])).put (some ok) (.bool true)).eval (.tmp it))=.pointer (some ⟨rr,0,none⟩):=by
   have n1:=O.ne1
   have n2:=O.ne2
   rw[<-Xe]
   simp[Act.put,Act.eval,Array.getD_eq_getD_getElem?,Array.getElem?_setIfInBounds,Ne.symm n1,Ne.symm n2]
  refine oe (v:=.tuple #[e.key,e.val]) (w':=w2) O.h9 (by simp[execOp,O.h7,ha3,YY,Result.andThen]) ?_
  rw[O.h8]
  refine Bg uv vE 1 _ ⟨σ.get,σ.next+1⟩ _ w2 D ι (fun _=>False) O.hE hq S2 ev.used.next (fun _ h=>h.elim) E3 (by rw[fS,fS,fS];exact ev.size) fun Yn σ3 a3 w3 D3 ι3 hk T3 St3 Vz Ze=>?_
  refine sO hm pj uK O.hR _ Yn σ3 a3 w3 D3 ι3 _ hk St3 fun ex K2 σ4 a4 w4 D4 ι4 LC T4 X9 Nx Zf=>?_
  have YV:a4.defers=ds:=by rw[Nx,Vz,put_defers,put_defers,put_defers];exact hd
  have Zq:n0<=σ4.next:=Nat.le_trans Ge (Nat.le_trans (Nat.le_succ _) (Nat.le_trans Ze Zf))
  have QT:=T3.trans T4
  have TT:=T2.trans QT
  have wT:E5 m it nx ok en id (er (Sound P) (.seq (.fo false vE) uK)) b b1 Q n (left.eraseIdx i) K2 σ4->rq P (MD ix ie b b1 ok GB JI GA uv pj) (Exit.inBlock b Q') (n+1) a4 w4:=fun hq5=>by
   refine ih (left.eraseIdx i) K2 σ4 a4 w4 D4 ι4 (seen.push e.born) hq5 X9 YV Zq TT ?_ (QT.dead _ YA) (QT.dead _ Yz) ((QT.sa _ YA).trans OJ) ((QT.sa _ Yz).trans Lj) ?_ ?_
   ·obtain⟨sz,C,hid⟩:=hid;exact⟨sz,C,QT.names _ _ hid⟩
   ·rw[List.length_eraseIdx,if_pos l5,hlen];rfl
   ·rw[Gw Jf VL]
    exact(hL.erase hi).rep fun hr=>QT.rep (rt hr)
  have out:∀ex,ex≠.normal->Q ex K2 σ4->Q' (WY ex) a4 w4:=fun ex _ h=>hQ ex K2 σ4 a4 w4 D4 ι4 h TT X9 YV Zq
  cases ex with
  |normal=>exact wT LC
  |ret=>exact out .ret (by simp) LC
  |exit kV=>
   simp only[bj]at LC
   simp only[WY,Exit.inBlock]
   by_cases h1:kV=b1
   ·rw[if_pos h1]at LC ⊢
    exact wT LC
   ·rw[if_neg h1]at LC ⊢
    simp only[dn,bj]at LC
    show Exit.inBlock b Q' (.exit kV) a4 w4
    simp only[Exit.inBlock]
    by_cases h2:kV=b
    ·rw[if_pos h2]at LC ⊢
     exact hQ .normal K2 σ4 a4 w4 D4 ι4 LC TT X9 YV Zq
    ·rw[if_neg h2]at LC ⊢
     exact out (.exit kV) (by simp) LC
def CS (P:Program) (nt:Nat) (c:Code) (W:(Ex->Env->ax->Prop)->Env->ax->Prop):Prop:=
 ∀(hs:Nat) (Q:Ex->Env->ax->Prop) (env:Env) (σ:ax) (a:Act) (w:World) (D:Nat->Prop) (ι:Names) (Q':Exit->Act->World->Prop),W Q env σ->St P hs nt D ι env σ a w->wi P hs nt a.defers Q σ.next D ι w Q'->Am P c Q' a w
theorem CS.code (hm:P.follows .mixedOrders=true) {md:List (Nat×Nat)} {nt fid:Nat} {c:Code} {vc:VC} (h:jA P md nt fid c=some vc):CS P nt c (er (Sound P) vc):=
 fun _ Q env σ a w D ι Q' hv ev hQ=>sO hm c vc h Q env σ a w D ι Q' hv ev hQ
theorem CS.seq {nt:Nat} {x y:Code} {V W:(Ex->Env->ax->Prop)->Env->ax->Prop} (h:CS P nt x V) (k:CS P nt y W):CS P nt (.seq x y) (fun Q=>V (dn (W Q) Q)):=fun hs Q env σ a w D ι Q' hv ev hQ=>by
 refine nh (h hs _ env σ a w D ι _ hv ev fun ex jI σ1 a1 w1 D1 ι1 hq T kq hd hle=>?_)
 cases ex with
 |normal=>exact k hs Q jI σ1 a1 w1 D1 ι1 Q' hq kq (by rw[hd];exact hQ.later T hle)
 |exit id=>exact hQ (.exit id) jI σ1 a1 w1 D1 ι1 hq T kq hd hle
 |ret=>exact hQ .ret jI σ1 a1 w1 D1 ι1 hq T kq hd hle
theorem CS.rng (hm:P.follows .mixedOrders=true) {md:List (Nat×Nat)} {nt fid s0 sA site ia ix ie b b1 it nx ok en:Nat} {m:MK} {GB JI GA GF:Oper} {Ms uv:List Oper} {pj:Code} {vA vE:List bc} {uK:VC} {t k e:TypeId} {tm:Operand} {tm':O}
  (O:Kx P md nt fid s0 it nx ok en GB JI GA uv pj vE uK) (h1:GF.op=.range t tm) (h2:GF.dst=some it) (h3:GF.guard=none) (eM:it<nt) (ht:P.underlying t=some (.map k e)) (V0:cO P tm=some tm') (hA:allM (lU P (Ms++[GF]).toArray nt sA false false #[] []) Ms 0=some vA):
  CS P nt (.seq (.region ia (Ms++[GF]).toArray false) (.block b (.loop (MD ix ie b b1 ok GB JI GA uv pj))))
   (fun Q=>wpOps (Sound P) false vA (JT m tm' site it nx ok en (er (Sound P) (.seq (.fo false vE) uK)) b b1 Q)):=fun hs Q env σ a w D ι Q' hv ev hQ=>by
 refine nh (kO (wp_region_list ?_))
 show wpList P _ _ (Ms++[GF]) a w
 refine y8 [GF] Ms vA 0 env σ a w D ι (fun _=>False) hA hv ev.vZ ev.used (fun _ h=>h.elim) ev.env ev.size fun jI σ1 a1 w1 D1 ι1 hk T uW wI I9=>?_
 obtain⟨id,r,hid,hg,hw,hr⟩:=hk
 have iP:=ek uW.env V0
 rw[hid]at iP
 obtain⟨B,hv,hB,hk⟩:=H6 iP
 obtain⟨B',eG,R,kI,re⟩:=uW.vZ.row id r hg
 rw[hB]at eG;injection eG with eG;subst eG
 obtain⟨hrsz,es,clock,hb,e9,⟨hlen,Jf⟩,hM⟩:=R.map m hk
 have W4:=R.lt
 have iw:=run_range_map (P:=P) w1 t k e B.b es clock ht hb
 refine oe (v:=.pointer (some ⟨w1.heap.size,0,none⟩)) (w':=w1.alloc (.mapIter (some B.b) clock #[] clock)) h3 (by simp[execOp,h1,hv,iw,Result.andThen]) ?_
 rw[h2]
 obtain⟨w2,xl⟩:∃w2,w1.alloc (.mapIter (some B.b) clock #[] clock)=w2:=⟨_,rfl⟩
 have hblk:∀b,b<w1.heap.size->w2.heap[b]? =w1.heap[b]? :=fun b hb=>by rw[<-xl];exact Below.heap_alloc _ _ _ hb
 have lG:w2.heap[w1.heap.size]? =some (.mapIter (some B.b) clock #[] clock):=by rw[<-xl];exact heap_alloc_new _ _
 have hz:w2.heap.size=w1.heap.size+1:=by rw[<-xl];simp
 have zZ:w2.os=w1.os/\w2.tape=w1.tape/\w2.output=w1.output:=by rw[<-xl];exact⟨rfl,rfl,rfl⟩
 rw[xl]
 clear xl iw
 let D2:Nat->Prop:=fun x=>D1 x∨x=B.b∨x=w1.heap.size
 let ι2:Names:=lO ι1 ⟨site,σ1.next⟩ ⟨w1.heap.size,1,0,none⟩
 have jn:ι1 ⟨site,σ1.next⟩=none:=fresh uW.used (fun h=>h)
 have XB:∀{a v},dy P w1 D1 ι1 a v->dy P w2 D2 ι2 a v:=fun h=>h.frame (fun b hd=>hblk b (uW.vZ.dead b hd)) (fun _ h=>.inl h) (gm jn)
 have Bf:∀{j q C},σ1.get j=some q->ι2 j=some C->ι1 j=some C:=fun {j q C} hj hC=>by
  obtain⟨C',xj,_⟩:=uW.vZ.row j q hj
  have:=gm (B:=⟨w1.heap.size,1,0,none⟩) jn j C' xj
  have e:=this.symm.trans hC
  injection e with e;rw[<-e];exact xj
 have lt:∀{j q C},σ1.get j=some q->ι1 j=some C->C.b<w1.heap.size:=fun {j q C} hj hC=>by
  obtain⟨C',xj,R',_⟩:=uW.vZ.row j q hj
  rw[hC]at xj;injection xj with xj;subst xj
  exact R'.lt
 have Rk:∀{j q},bK σ1.get id {r with w:=false} j=some q->∃q0,σ1.get j=some q0/\(q.w=true->q=q0/\j≠id)/\(j=id->q={r with w:=false}/\q0=r)/\(j≠id->q=q0):=fun {j q} h=>by
  unfold bK at h
  split at h
  ·rename_i e
   injection h with h;subst h
   exact⟨r,e▸hg,fun h=>(by cases h),fun _=>⟨rfl,rfl⟩,fun hc=>absurd e hc⟩
  ·rename_i e
   exact⟨q,h,fun _=>⟨rfl,e⟩,fun hc=>absurd hc e,fun _=>rfl⟩
 have S2:iD P hs D2 ι2 (bK σ1.get id {r with w:=false}) w2:=by
  refine⟨by rw[hz];exact Nat.le_succ_of_le uW.vZ.lo,fun b hb=>?_,fun j q h=>?_,fun j j' q q' C C' h h' LD hC xj he=>?_⟩
  ·rw[hz]
   rcases hb with hb|rfl|rfl
   ·exact Nat.lt_succ_of_lt (uW.vZ.dead b hb)
   ·exact Nat.lt_succ_of_lt W4
   ·exact Nat.lt_succ_self _
  ·obtain⟨q0,Ql,LD,Cc,iN⟩:=Rk h
   obtain⟨C,hC,RC,k1,k2⟩:=uW.vZ.row j q0 Ql
   have hCl:=lt Ql hC
   refine⟨C,gm jn j C hC,?_,fun UC=>k1 ((LD UC).1▸UC),fun UC hD=>?_⟩
   ·have RF:jk P w2 D2 ι2 C q0:=RC.frame (hblk _ hCl) fun a v h=>XB h
    by_cases hj:j=id
    ·obtain⟨e1,e2⟩:=Cc hj
     rw[e1,<-e2];exact RF.flag false
    ·rw[iN hj];exact RF
   ·obtain⟨e1,e2⟩:=LD UC
    rcases hD with hD|hD|hD
    ·exact k2 (e1▸UC) hD
    ·exact e2 (uW.vZ.inj j id q0 r C B Ql hg (e1▸UC) hC hB hD)
    ·omega
  ·obtain⟨q0,Ql,ZB,_⟩:=Rk h
   obtain⟨q0',VW,_⟩:=Rk h'
   exact uW.vZ.inj j j' q0 q0' C C' Ql VW ((ZB LD).1▸LD) (Bf Ql hC) (Bf VW xj) he
 have T2:Step hs D1 ι1 w1 D2 ι2 w2:=⟨⟨zZ.1,zZ.2.1,zZ.2.2,ae,fun k hk=>hblk k (Nat.lt_of_lt_of_le hk uW.vZ.lo)⟩,fun b hb=>hblk b (uW.vZ.dead b hb),fun _ h=>.inl h,gm jn,fun b hb=>by
  rcases hb with hb|rfl|rfl
  ·exact .inl hb
  ·exact .inr (kI hw)
  ·exact .inr uW.vZ.lo⟩
 have E2:di P w2 D2 ι2 (upd jI (some it) (.ptr ⟨site,σ1.next⟩ 0 0)) (a1.put (some it) (.pointer (some ⟨w1.heap.size,0,none⟩))):=
  jw (fun t=>XB (uW.env t)) (by have:=dy.ptr (P:=P) (w:=w2) (D:=D2) (ι:=ι2) ⟨site,σ1.next⟩ 0 0 ⟨w1.heap.size,1,0,none⟩ (eV _ _ _) rfl;simpa using this) (fun d h=>by cases h;exact eM) uW.size
 have L2:PY P w2 D2 ι2 m (leftOf es #[]).toList r.rows:=by
  have he:(leftOf es #[]).toList=es.toList:=by simp[leftOf]
  rw[he]
  refine⟨by simpa using e9.symm,fun i cs hi=>?_⟩
  obtain⟨Vb,kv,vv,q1,q2,q3,q4,q5⟩:=hM i cs hi
  exact⟨Vb,kv,vv,by simpa using q1,q2,q3,XB q4,XB q5⟩
 show Am P (.block b (.loop (MD ix ie b b1 ok GB JI GA uv pj))) Q' _ w2
 exact vN (ES (r.rows.length+1) (GM hm O Jf (ds:=a.defers) (n0:=σ.next) (D0:=D) (ι0:=ι) (w0:=w) hQ
  (fun hc=>by have:=ev.vZ.dead _ hc;have:=T.below.size;omega) uW.vZ.lo ae r.rows.length r.rows _ ⟨bK σ1.get id {r with w:=false},σ1.next+1⟩ _ w2 D2 ι2 #[] hr
  ⟨S2,uW.used.upd.next,E2,by rw[fS];exact uW.size⟩ (by rw[put_defers];exact wI) (Nat.le_succ_of_le I9) (T.trans T2) ⟨1,0,eV _ _ _⟩ (.inr (.inr rfl)) (.inr (.inl rfl)) lG ((hblk _ W4).trans hb) rfl L2))
theorem CS.fn {f:Nat} {fn:Func} {c:Code} {args:List AV} {σ:ax} {K:AV->ax->Prop} {vr:List pB} {W:(Ex->Env->ax->Prop)->Env->ax->Prop} (Un:P.funcs[f]? =some fn) (hc:fn.body=some c) (hr:fn.results.toList.mapM (FM P)=some vr) (ha:fn.params.size+fn.nfree=args.length) (hle:fn.params.size+fn.nfree<=fn.ntmps)
  (h:CS P fn.ntmps c W) (hv:W (mh vr K) (cw args) σ):Call P f args σ K:=
 iS (yf Un hc hr ha hle fun hs w D ι a Q' ev hQ=>h hs (mh vr K) (cw args) σ a w D ι Q' hv ev hQ)
theorem uL (hm:P.follows .mixedOrders=true) {c:VC} {Q Q':Ex->Env->ax->Prop} {env:Env} {σ:ax} (hQ:∀x e s,Q x e s->Q' x e s) (h:er (Call P) c Q env σ):er (Sound P) c Q' env σ:=
 km (fun _ _ _ _ h=>iC hm h) lT c Q Q' env σ hQ h
theorem Br {m:MK} {it nx ok en:Nat} {id:Id} {B B':(Ex->Env->ax->Prop)->Env->ax->Prop} {b b1:Nat} {Q Q':Ex->Env->ax->Prop} (hB:∀R R' e s,(∀x e s,R x e s->R' x e s)->B R e s->B' R' e s) (hQ:∀x e s,Q x e s->Q' x e s):
  ∀(n:Nat) (left:List (List AV)) (env:Env) (σ:ax),E5 m it nx ok en id B b b1 Q n left env σ->E5 m it nx ok en id B' b b1 Q' n left env σ
 |0,_,env,σ,h=>⟨h.1,hQ _ _ _ h.2⟩
 |n+1,left,env,σ,h=>⟨h.1,fun i cs kv vv h1 h2 h3=>hB _ _ _ _ (fun x e s hx=>by
  have hn:=Br (id:=id) (m:=m) (it:=it) (nx:=nx) (ok:=ok) (en:=en) (b:=b) (b1:=b1) hB hQ n (left.eraseIdx i) e s
  cases x with
  |normal=>exact hn hx
  |ret=>exact hQ _ _ _ hx
  |exit kV=>
   simp only[bj]at hx ⊢
   split at hx
   ·rename_i h1;rw[if_pos h1];exact hn hx
   ·rename_i h1
    rw[if_neg h1]
    simp only[dn,bj]at hx ⊢
    split at hx
    ·rename_i h2;rw[if_pos h2];exact hQ _ _ _ hx
    ·rename_i h2;rw[if_neg h2];exact hQ _ _ _ hx) (h.2 i cs kv vv h1 h2 h3)⟩
theorem JU (hm:P.follows .mixedOrders=true) {m:MK} {tm:O} {site it nx ok en:Nat} {c:VC} {b b1:Nat} {Q Q':Ex->Env->ax->Prop} {env:Env} {σ:ax} (hQ:∀x e s,Q x e s->Q' x e s) (h:JT m tm site it nx ok en (er (Call P) c) b b1 Q env σ):JT m tm site it nx ok en (er (Sound P) c) b b1 Q' env σ:=by
 obtain⟨id,r,h1,h2,h3,h4⟩:=h
 exact⟨id,r,h1,h2,h3,Br (B':=er (Sound P) c) (fun R R' e s hR hb=>uL hm hR hb) hQ _ _ _ _ h4⟩
theorem zc {α:Type}:∀{l:List α} {i:Nat} {x:α},l[i]? =some x->(x::l.eraseIdx i).Perm l
 |y::l,0,x,h=>by simp at h;subst h;exact List.Perm.refl _
 |y::l,i+1,x,h=>by
  simp only[List.getElem?_cons_succ]at h
  rw[List.eraseIdx_cons_succ]
  exact(List.Perm.swap _ _ _).trans ((zc h).cons _)
theorem WG {m:MK} {tm:O} {site it nx ok en:Nat} {c:VC} {b b1:Nat} {Q:Ex->Env->ax->Prop} {env:Env} {σ:ax} {id:Id} {r:Row} (I:List (List AV)->Env->ax->Prop) (h1:du env tm=.map id m) (h2:σ.get id=some r) (h3:r.w=true) (Oz:([nx,ok,en]++Ar c).contains it=false)
  (h0:I [] (upd env (some it) (.ptr ⟨site,σ.next⟩ 0 0)) ⟨bK σ.get id {r with w:=false},σ.next+1⟩)
  (step:∀pre cs rest e s kv vv,(pre++cs::rest).Perm r.rows->I pre e s->jU ([nx,ok,en]++Ar c) (upd env (some it) (.ptr ⟨site,σ.next⟩ 0 0)) e->part m.ka m.ks cs=some kv->cs[m.ks]? =some vv->
   er (Call P) c (bj b1 (dn (I (pre++[cs])) (bj b Q))) (upd (upd (upd e (some nx) (.ib [.bool true,kv,vv])) (some ok) (.bool true)) (some en) (.ib [kv,vv])) ⟨s.get,s.next+1⟩)
  (fin:∀pre e s,pre.Perm r.rows->I pre e s->jU ([nx,ok,en]++Ar c) (upd env (some it) (.ptr ⟨site,σ.next⟩ 0 0)) e->Q .normal (upd (upd e (some nx) (.ib [.bool false])) (some ok) (.bool false)) ⟨s.get,s.next+1⟩):
  JT m tm site it nx ok en (er (Call P) c) b b1 Q env σ:=by
 refine⟨id,r,h1,h2,h3,?_⟩
 have VA:∀e,jU ([nx,ok,en]++Ar c) (upd env (some it) (.ptr ⟨site,σ.next⟩ 0 0)) e->e it=.ptr ⟨site,σ.next⟩ 0 0:=fun e h=>by
  rw[h it Oz];simp[upd]
 have key:∀n left pre e s,(pre++left).Perm r.rows->left.length=n->I pre e s->jU ([nx,ok,en]++Ar c) (upd env (some it) (.ptr ⟨site,σ.next⟩ 0 0)) e->E5 m it nx ok en ⟨site,σ.next⟩ (er (Call P) c) b b1 Q n left e s:=by
  intro n
  induction n with
  |zero=>
   intro left pre e s hp hl hI hK
   have:left=[]:=List.eq_nil_of_length_eq_zero hl
   subst this
   rw[List.append_nil]at hp
   exact⟨VA e hK,fin pre e s hp hI hK⟩
  |succ n ih=>
   intro left pre e s hp hl hI hK
   refine⟨VA e hK,fun i cs kv vv hi hk hv=>?_⟩
   have l5:=(List.getElem?_eq_some_iff.1 hi).1
   have HI:(cs::left.eraseIdx i).Perm left:=by
    exact zc hi
   have Lx:(pre++cs::left.eraseIdx i).Perm r.rows:=(HI.append_left pre).trans hp
   have RA:jU ([nx,ok,en]++Ar c) (upd env (some it) (.ptr ⟨site,σ.next⟩ 0 0)) (upd (upd (upd e (some nx) (.ib [.bool true,kv,vv])) (some ok) (.bool true)) (some en) (.ib [kv,vv])):=
    ((hK.upd (fun t h=>by cases h;simp)).upd (fun t h=>by cases h;simp)).upd (fun t h=>by cases h;simp)
   refine km (fun _ _ _ _ h=>h) aA c _ _ _ _ (fun x e' s' hx=>?_) (BA c _ _ _ (fun t ht=>List.mem_append_right _ ht) RA (step pre cs (left.eraseIdx i) e s kv vv Lx hI hK hk hv))
   obtain⟨hx,HH⟩:=hx
   have wT:I (pre++[cs]) e' s'->E5 m it nx ok en ⟨site,σ.next⟩ (er (Call P) c) b b1 Q n (left.eraseIdx i) e' s':=fun YI=>
    ih (left.eraseIdx i) (pre++[cs]) e' s' (by rw[List.append_assoc];exact Lx) (by rw[List.length_eraseIdx,if_pos l5];omega) YI HH
   cases x with
   |normal=>exact wT hx
   |ret=>exact hx
   |exit kV=>
    simp only[bj]at hx ⊢
    split at hx
    ·rename_i h1;rw[if_pos h1];exact wT hx
    ·rename_i h1;rw[if_neg h1];exact hx
 exact key _ r.rows [] _ _ (List.Perm.refl _) rfl h0 (jU.refl _ _)
end Go.Proofs.YtiabgllilcfheaaGreat.V

namespace Go.Proofs.YtiabgllilcfheaaGreat.V
open Go.RowKit
def QL:Code->Code
 | .seq a _=>a
 |c=>c
def Kq:Code->Code
 | .seq _ b=>b
 |c=>c
def XV:Code->Code
 | .block _ c=>c
 |c=>c
def Z5:Code->Code
 | .loop c=>c
 |c=>c
def WT:Code->List Oper
 | .region _ o _=>o.toList
 |_=>[]
def rg2 (k:Code):Code:=QL (QL (Kq (Kq k)))
def ZV (k:Code):Code:=Kq (QL (Kq (Kq k)))
def rgL (k:Code):Code:=Z5 (XV (ZV k))
def Sr (k:Code):Code:=Kq (Kq (rgL k))
def S4:Oper:={dst:=none,op:=.nilCheck (.tmp 0),type:=0,pos:= "",after:= #[],guard:=none}
def rgP (k:Code):List Oper:=(WT (rg2 k)).dropLast
def rgO (k:Code):Oper:=(WT (rg2 k)).getLastD S4
def XO (k:Code) (i:Nat):Oper:=(WT (QL (rgL k))).getD i S4
def Wt (k:Code):Oper:=(WT (QL (XV (Sr k)))).headD S4
def Wu (k:Code):List Oper:=(WT (QL (XV (Sr k)))).tail
def rgR (k:Code):Code:=Kq (XV (Sr k))
def Wv (P:Program) (v0 v1:VC) (vA:List bc) (m:MK) (tm:O) (site it nx ok en:Nat) (vE:List bc) (vR:VC) (b b1:Nat) (vT:VC) (Q:Ex->Env->ax->Prop):Env->ax->Prop:=
 er (Sound P) v0 (dn (er (Sound P) v1 (dn (wpOps (Sound P) false vA (JT m tm site it nx ok en (er (Sound P) (.seq (.fo false vE) vR)) b b1 (dn (er (Sound P) vT Q) Q))) Q)) Q)
def Ss (P:Program) (v0 v1:VC) (vA:List bc) (m:MK) (tm:O) (site it nx ok en:Nat) (vE:List bc) (vR:VC) (b b1:Nat) (vT:VC) (Q:Ex->Env->ax->Prop):Env->ax->Prop:=
 er (Call P) v0 (dn (er (Call P) v1 (dn (wpOps (Call P) false vA (JT m tm site it nx ok en (er (Call P) (.seq (.fo false vE) vR)) b b1 (dn (er (Call P) vT Q) Q))) Q)) Q)
theorem zu {F F':Env->ax->Prop} {Q:Ex->Env->ax->Prop} (h:∀e s,F e s->F' e s):∀x e s,dn F Q x e s->dn F' Q x e s:=fun x e s hx=>by
 cases x with
 |normal=>exact h e s hx
 |ret=>exact hx
 |exit id=>exact hx
theorem ME {P:Program} (hm:P.follows .mixedOrders=true) {v0 v1:VC} {vA:List bc} {m:MK} {tm:O} {site it nx ok en:Nat} {vE:List bc} {vR:VC} {b b1:Nat} {vT:VC} {Q:Ex->Env->ax->Prop} {env:Env} {σ:ax}
  (h:Ss P v0 v1 vA m tm site it nx ok en vE vR b b1 vT Q env σ):Wv P v0 v1 vA m tm site it nx ok en vE vR b b1 vT Q env σ:=
 uL hm (zu fun _ _ h=>uL hm (zu fun _ _ h=>mv (fun _ _ _ _ h=>iC hm h) lT (fun _ _ h=>JU hm (zu fun _ _ h=>uL hm (fun _ _ _ h=>h) h) h) _ _ _ h) h) h
noncomputable def Et:Go.Code:=Tryz.f70.body.getD .skip
def MU:VC:=(.fo false [⟨(some 2),(.new [.ck]),none,70000000,[]⟩])
def QF:VC:=(.fo false [⟨(some 3),(.dF (.k .ck)),none,70001000,[]⟩])
def QG:List bc:=[⟨(some 6),(.dF (.t 0)),none,70002000,[]⟩,⟨(some 7),(.C2 (.t 6)),none,70002001,[]⟩,⟨(some 8),(.eA 4 (.t 7)),none,70002002,[]⟩,⟨(some 9),(.load false 1 (.t 8)),none,70002003,[]⟩]
def Ig:List bc:=[⟨(some 14),(.extract 0 (.t 13)),none,70004001,[]⟩,⟨(some 15),(.extract 1 (.t 13)),none,70004002,[]⟩,⟨(some 4),(.new [(.int .i64 0),(.int .i64 0)]),none,70004003,[]⟩,⟨none,(.store 2 (.t 4) (.t 14)),none,70004004,[]⟩,⟨(some 5),(.dF (.t 15)),none,70004005,[]⟩]
def Ih:VC:=(.fo false [⟨(some 16),(.dF (.t 3)),none,70005000,[]⟩,⟨(some 17),(.load true 2 (.t 4)),none,70005001,[]⟩,⟨(some 18),(.dF (.t 5)),none,70005002,[]⟩,⟨(some 19),(.build [(.int .i64 0),(.int .i64 0),(.int .i64 0)] [(0,(2,(.t 17))),(2,(1,(.t 18)))]),none,70005003,[]⟩,⟨(some 20),(.fZ 3 1 [(.t 19)]),none,70005004,[]⟩,⟨(some 21),(.append 3 (.t 16) (.t 20)),none,70005005,[]⟩,⟨(some 3),(.dF (.t 21)),none,70005006,[]⟩])
def Ii:VC:=(.seq (.fo false [⟨(some 22),(.dF (.t 3)),none,70006000,[]⟩,⟨(some 23),(.call 99 [(.t 22)]),none,70006001,[]⟩,⟨none,(.store 1 (.t 2) (.t 23)),none,70006002,[]⟩]) .ret)
def Ik:List pB:=[(.cell true 1 2)]
def MS:O:=(.t 9)
theorem Wl:Kx Tryz.prog [] Tryz.f70.ntmps 70 70004000 10 11 12 13 (XO Et 0) (XO Et 1) (Wt Et) (Wu Et) (rgR Et) Ig Ih:=⟨by kernel_rfl,by kernel_rfl,by kernel_rfl,by kernel_rfl,by kernel_rfl,by kernel_rfl,by kernel_rfl,by kernel_rfl,by kernel_rfl,by decide,by decide,by decide,by decide,by decide,by kernel_rfl,by kernel_rfl⟩
theorem Ww:Et=.seq (QL Et) (.seq (QL (Kq Et)) (.seq (.seq (.region 2 (rgP Et++[rgO Et]).toArray false) (.block 0 (.loop (MD 3 4 0 1 12 (XO Et 0) (XO Et 1) (Wt Et) (Wu Et) (rgR Et))))) (Kq (Kq (Kq Et))))):=by kernel_rfl
theorem U6 (m:MK):CS Tryz.prog Tryz.f70.ntmps Et (Wv Tryz.prog MU QF QG m MS 70002999 10 11 12 13 Ig Ih 0 1 Ii):=by
 rw[Ww]
 exact CS.seq (CS.code (md:=[]) (fid:=70) mixed (by kernel_rfl)) (CS.seq (CS.code (md:=[]) (fid:=70) mixed (by kernel_rfl)) (CS.seq (CS.rng (tm:=.tmp 9) (sA:=70002000) (t:=120) (k:=50) (e:=2) mixed Wl (by kernel_rfl) (by kernel_rfl) (by kernel_rfl) (by decide) (by kernel_rfl) (by kernel_rfl) (by kernel_rfl)) (CS.code (md:=[]) (fid:=70) mixed (by kernel_rfl))))
theorem Ws {args:List AV} {σ:ax} {K:AV->ax->Prop} (ha:args.length=Tryz.f70.params.size) (m:MK) (h:Ss Tryz.prog MU QF QG m MS 70002999 10 11 12 13 Ig Ih 0 1 Ii (mh Ik K) (cw args) σ):Call Tryz.prog 70 args σ K:=
 CS.fn Tryz.func70 (by kernel_rfl) (by kernel_rfl) ha.symm (by decide) (U6 m) (ME mixed h)
end Go.Proofs.YtiabgllilcfheaaGreat.V

namespace Go.Proofs.YtiabgllilcfheaaGreat.V
open Go.RowKit
attribute [local irreducible] er wpOps fY Call
attribute [local go_sem] aF fC eR fN fK du upd cw K.av cQ AV.cells AV.cell rowOf rowsOf part ld rowAt bK cq dH dX gG bP dd eh fJ fa dw ea db da dM dP bV bd cU bU cW cV dV eb dZ cR bY dc dY bQ aD cY cF gF bD cL bW aY dn bj dI AV.undef bH bJ dQ dW dL dK cK ef eo cz ee ec cX cZ List.getD_cons_zero List.getD_cons_succ List.getD_nil List.all_cons List.all_nil Bool.and_true Bool.true_and Bool.and_self Bool.not_true Bool.not_false Option.map_some Option.map_none Option.bind_some Option.bind_none List.length_cons List.length_nil List.take_succ_cons List.take_zero List.take_nil List.drop_succ_cons List.drop_zero List.drop_nil List.head?_cons List.map_cons List.map_nil List.getElem?_cons_zero List.getElem?_cons_succ List.cons_append List.nil_append List.append_nil List.length_map List.set_cons_zero List.set_cons_succ Nat.reduceMul eq_self Int.toNat_natCast Int.natCast_nonneg and_self true_and and_true decide_true decide_false Bool.false_eq_true Nat.zero_add Nat.add_zero List.contains_cons List.contains_nil Bool.or_false Bool.false_or beq_self_eq_true Nat.reduceBEq ne_eq not_true_eq_false not_false_eq_true Id.mk.injEq false_and and_false Nat.reduceLT Int.reduceLE Int.reduceLT Int.reduceToNat Int.reduceNeg Int.reduceAdd Nat.le_refl List.length_append beq_true beq_false Bool.not_eq_eq_eq_not or_false false_or eu ai aj aP bh bZ cm aW bx aK bf cP bI
theorem Bp:∀{ps qs:List aa},(ps.Pairwise fun a b=>jH a.aV b.aV=true)->(qs.Pairwise fun a b=>jH a.aV b.aV=true)->(∀x,x∈ps↔x∈qs)->ps=qs
 |[],[],_,_,_=>rfl
 |[],q::qs,_,_,h=>absurd ((h q).2 (by simp)) (by simp)
 |p::ps,[],_,_,h=>absurd ((h p).1 (by simp)) (by simp)
 |p::ps,q::qs,hp,hq,h=>by
  obtain⟨p1,p2⟩:=List.pairwise_cons.1 hp
  obtain⟨q1,q2⟩:=List.pairwise_cons.1 hq
  have e:p=q:=by
   rcases List.mem_cons.1 ((h p).1 (by simp))with e|e
   ·exact e
   ·rcases List.mem_cons.1 ((h q).2 (by simp))with e'|e'
    ·exact e'.symm
    ·have:=L3 (q1 p e)
     rw[p1 q e']at this;cases this
  subst e
  congr 1
  refine Bp p2 q2 fun x=>⟨fun hx=>?_,fun hx=>?_⟩
  ·rcases List.mem_cons.1 ((h x).1 (List.mem_cons_of_mem _ hx))with e|e
   ·subst e;have:=p1 x hx;rw[jM]at this;cases this
   ·exact e
  ·rcases List.mem_cons.1 ((h x).2 (List.mem_cons_of_mem _ hx))with e|e
   ·subst e;have:=q1 x hx;rw[jM]at this;cases this
   ·exact e
theorem GW {L qs:List aa} (hR:jt L) (hp:qs.Perm L) (hs:∀i j:Nat,i<j->j<qs.length->jH (aQ qs j).aV (aQ qs i).aV=false):qs=L:=by
 rw[nV]at hR
 have hd:L.Pairwise fun a b=>a.aV≠b.aV:=hR.imp fun {a b} h e=>by rw[e,jM]at h;cases h
 have hdq:qs.Pairwise fun a b=>a.aV≠b.aV:=hp.symm.pairwise hd fun {a b} h e=>h e.symm
 refine Bp ?_ hR fun x=>hp.mem_iff
 rw[List.pairwise_iff_getElem]at hdq ⊢
 intro i j hi hj Gd
 have h1:=hs i j Gd hj
 rw[fm hj,fm hi]at h1
 exact Cs h1 fun e=>hdq i j hi hj Gd e.symm
theorem FN (ps:List aa) (h0:ps≠[]) (hlen:ps.length<=1048576) (σ:ax) (id:Id) (hv:id.bt<σ.next) (hg:σ.get id=some ⟨true,3,ps.map ab⟩):
  Call Tryz.prog 33 [.own id 0 ps.length] σ fun a σ'=>∃o:Id,a=.own o 0 ps.length/\σ'.get o=some ⟨true,3,ps.map ab⟩/\σ.next<=o.bt/\o.bt<σ'.next/\∀x:Id,x.bt<σ.next->σ'.get x=σ.get x:=by
 refine ij fF rfl fun hl=>?_
 clear hl
 have h2:ps.length<=16777216:=ae
 have hm:(ps.map ab).length=ps.length:=by simp
 have v1:=dj hv
 have ht:(ps.map ab).take ps.length=ps.map ab:=by rw[<-hm,List.take_length]
 have ha:(ps.map ab).all (fun c=>c.length==3&&c.all AV.cell)=true:=all_map fun x=>by simp[ab,AV.cell]
 (try((repeat(revert hN;revert N;apply Pn.out));refine wk (tw @hg (tw @h2 (tw @hm (tw @v1 (tw @ht @ha))))) ?_;(repeat(refine Pn.mk ?_;intro N hN))))
 exact gN (vs:=[.own ⟨33003002,σ.next+2⟩ 0 ps.length]) (.inl rfl) (sd @Nat.zero_add) ⟨_,rfl,sd @Nat.zero_add,aU,aU,fun x hx=>by
  have:=dj hx
  simp only[go_sem, ↓reduceIte,Nat.reduceEqDiff,Nat.reduceAdd,Nat.reduceSub,Nat.reduceLeDiff,reduceCtorEq,this]⟩
theorem BG (ps L:List aa) (hlen:ps.length<=1000000) (h0:ps≠[]) (hR:jt L) (hp:ps.Perm L) (σ:ax) (id:Id) (hv:id.bt<σ.next) (hg:σ.get id=some ⟨true,3,ps.map ab⟩):
  Call Tryz.prog 99 [.own id 0 ps.length] σ fun a σ'=>∃o:Id,a=.agg [.own o 0 L.length]/\σ'.get o=some ⟨true,3,L.map ab⟩/\σ.next<=o.bt/\o.bt<σ'.next/\∀x:Id,x.bt<σ.next->σ'.get x=σ.get x:=by
 refine ij fF rfl fun hl=>?_
 clear hl
 have v1:=dj hv
 (try((repeat(revert hN;revert N;apply Pn.out));refine wk (tw @hg @v1) ?_;(repeat(refine Pn.mk ?_;intro N hN))))
 refine .inr (aA _ _ _ _ _ (fun r σ1 hq=>?_) (FN ps h0 ae ⟨_,_⟩ id aU (sd (tw @v1 @hg))))
 obtain⟨g1,x1⟩:=σ1
 obtain⟨o,rfl,q1,q2,q3,q4⟩:=hq
 (try dsimp only at q1 q2 q3 q4)
 have k2:=q4 ⟨99000000,σ.next⟩ aU
 simp only[go_sem, ↓reduceIte,Nat.reduceEqDiff,Nat.reduceAdd,Nat.reduceSub,Nat.reduceLeDiff,reduceCtorEq]at k2
 refine hN _ _ ?_
 clear hN N
 (try((repeat(revert hN;revert N;apply Pn.out));refine wk @Nat.zero_add ?_;(repeat(refine Pn.mk ?_;intro N hN))))
 refine .inr (aA _ _ _ _ _ (fun r σ2 hq=>?_) (JY Sy Sz ps ae ⟨g1,_⟩ o q1))
 obtain⟨g2,x2⟩:=σ2
 obtain⟨u1,u2,ss,u3,u4,u5,u6⟩:=hq
 (try dsimp only at u1 u2 u3)
 have XC:ss=L:=GW hR (u5.trans hp) u6
 rw[XC]at u3 u4
 have o2:(⟨99000000,σ.next⟩:Id)≠o:=fun e=>by rw[<-e]at q2;(try dsimp only at q2);omega
 have k3:=(u2 _ o2).trans k2
 have of:=eq_false (fun e:o=(⟨99000000,σ.next⟩:Id)=>o2 e.symm)
 refine hN _ _ ?_
 clear hN N
 (try((repeat(revert hN;revert N;apply Pn.out));refine wk @k3 ?_;(repeat(refine Pn.mk ?_;intro N hN))))
 exact gN (.inl rfl) (vs:=[.agg [.own o 0 ps.length]]) (sd @Nat.zero_add) ⟨o,by rw[u4];rfl,sd (tw @of @u3),ae,aU,fun x hx=>by
  have h1:x≠o:=fun e=>by rw[e]at hx;omega
  have h2:=u2 x h1
  have h3:=q4 x aU
  have h4:=dj hx
  simp only[go_sem, ↓reduceIte,Nat.reduceEqDiff,Nat.reduceAdd,Nat.reduceSub,Nat.reduceLeDiff,reduceCtorEq,h4]at h3
  simp only[go_sem, ↓reduceIte,Nat.reduceEqDiff,Nat.reduceAdd,Nat.reduceSub,Nat.reduceLeDiff,reduceCtorEq,h4,h2,h3]⟩
def AsI (σ:ax) (T:Id) (ts:List aa) (pre:List (List AV)) (e0:Env) (s0:ax):Prop:=
 ∃l':List aa,pre=l'.map ab/\((l'=[]/\e0 3=.ck)∨∃o:Id,e0 3=.own o 0 l'.length/\s0.get o=some ⟨true,3,l'.map ab⟩/\σ.next<o.bt/\o.bt<s0.next)/\σ.next<s0.next/\(∀x:Id,x.bt<σ.next->x≠T->s0.get x=σ.get x)/\s0.get T=some ⟨false,mP.pU,ts.map ab⟩/\s0.get ⟨70000000,σ.next⟩=some ⟨true,1,[[.ck]]⟩/\e0 2=.ptr ⟨70000000,σ.next⟩ 0 0
theorem JA (L:List aa) (x:aa):(L++[x]).length=L.length+1:=by rw[List.length_append];rfl
theorem FE {σ:ax} {c T O:Id} {s:aw} {ts L:List aa} (h:mB σ.get σ.next c T O s ts) (hlen:ts.length<=100000) (h0:ts≠[]) (hR:jt L) (hp:ts.Perm L):
  Call Tryz.prog 70 [.ptr c 0 0] σ (fun r σ'=>∃o:Id,r=.agg [.own o 0 L.length]/\σ'.get o=some ⟨true,3,L.map ab⟩/\σ.next<=o.bt/\o.bt<σ'.next/\σ.next<=σ'.next/\∀x:Id,x.bt<σ.next->x≠T->σ'.get x=σ.get x):=by
 refine Ws rfl mP ?_
 have fI:=h.row
 have NK:=h.tl
 have v1:=dj h.cv
 have v2:=dj h.tv
 unfold Ss
 rw[MU]
 (try((repeat(revert hN;revert N;apply Pn.out));refine wk (tw @fI @v1) ?_;(repeat(refine Pn.mk ?_;intro N hN))))
 refine Fh (WG (id:=T) (r:=⟨true,mP.pU,ts.map ab⟩) (AsI σ T ts) (sd @MS.eq_1) (sd (tw @NK @v2)) rfl (by decide) ?_ ?_ ?_)
 ·have vT:(T=(⟨70000000,σ.next⟩:Id))=False:=eq_false fun e=>by have:=h.tv;rw[e]at this;(try dsimp only at this);omega
  have vT2:((⟨70000000,σ.next⟩:Id)=T)=False:=eq_false fun e=>by have:=h.tv;rw[<-e]at this;(try dsimp only at this);omega
  exact⟨[],rfl,.inl ⟨rfl,sd @Nat.zero_add⟩,aU,fun x hx hT=>by
   have h1:=dj hx
   have h2:=eq_false hT
   simp only[go_sem, ↓reduceIte,Nat.reduceEqDiff,Nat.reduceAdd,Nat.reduceSub,Nat.reduceLeDiff,reduceCtorEq,h1,h2],sd @Nat.zero_add,sd @vT2,sd @Nat.zero_add⟩
 ·rintro pre cs rest e0 s0 kv vv hpp ⟨l',rfl,hout,Ge,jn,hT,h5,e2⟩ hK hpart hvv
  have sZ:cs∈ts.map ab:=hpp.subset (by simp)
  obtain⟨tl,hx,rfl⟩:=List.mem_map.1 sZ
  have Km:=hpp.length_eq
  simp only[List.length_append,List.length_map,List.length_cons]at Km
  simp[part,ab,MK.ks]at hpart hvv
  subst hpart hvv
  rw[Ig,Ih]
  have Xd:=h.tv
  have vT:=dj (i:=T) (n:=s0.next) ae
  have v5:=dj (i:=⟨70000000,σ.next⟩) (n:=s0.next) aU
  clear hpp sZ hK
  have Qi:l'.map ab++[ab tl]=(l'++[tl]).map ab:=by simp
  have wJ:=JA l' tl
  have l6:(l'++[tl]).map ab=l'.map ab++[[.int .i64 tl.aV.fP,.int .i64 tl.aV.fE,.int .i64 tl.bp]]:=by rw[List.map_append];rfl
  rcases hout with⟨Qh,e3⟩|⟨o,e3,og,on,ov⟩
  ·subst Qh
   (try((repeat(revert hN;revert N;apply Pn.out));refine wk (tw @e3 @e2) ?_;(repeat(refine Pn.mk ?_;intro N hN))))
   exact⟨[]++[tl],Qi,.inr ⟨⟨70005005,s0.next+1+1⟩,sl @Nat.zero_add,sl @Nat.zero_add,aU,aU⟩,aU,fun y hy V7=>by
    have h1:=dj (i:=y) (n:=s0.next) ae
    have h2:=jn y hy V7
    simp only[go_sem, ↓reduceIte,Nat.reduceEqDiff,Nat.reduceAdd,Nat.reduceSub,Nat.reduceLeDiff,reduceCtorEq,h1,h2],sd (tw @vT @hT),sd (tw @v5 @h5),sd @e2⟩
  ·have vo:=dj ov
   have oT:=dp (a:=T) (b:=o) ae
   have o5:=dp (a:=⟨70000000,σ.next⟩) (b:=o) aU
   have gp:(l'.map ab).length=l'.length:=by simp
   have e1:l'.length<=16777215:=ae
   (try((repeat(revert hN;revert N;apply Pn.out));refine wk (tw @e3 (tw @e2 (tw @og (tw @vo (tw @gp @e1))))) ?_;(repeat(refine Pn.mk ?_;intro N hN))))
   exact⟨l'++[tl],Qi,.inr ⟨⟨70005005,s0.next+1+1⟩,by rw[wJ];simp only[go_sem, ↓reduceIte,Nat.reduceEqDiff,Nat.reduceAdd,Nat.reduceSub,Nat.reduceLeDiff,reduceCtorEq]<;>rfl,by rw[l6];simp only[go_sem, ↓reduceIte,Nat.reduceEqDiff,Nat.reduceAdd,Nat.reduceSub,Nat.reduceLeDiff,reduceCtorEq]<;>rfl,aU,aU⟩,aU,fun y hy V7=>by
    have h1:=dj (i:=y) (n:=s0.next) ae
    have h2:=jn y hy V7
    have h3:=dp (a:=y) (b:=o) ae
    simp only[go_sem, ↓reduceIte,Nat.reduceEqDiff,Nat.reduceAdd,Nat.reduceSub,Nat.reduceLeDiff,reduceCtorEq,h1,h2,h3],sd (tw @vT (tw @oT @hT)),sd (tw @v5 (tw @o5 @h5)),sd @e2⟩
 ·rintro pre e0 s0 hpp ⟨l',rfl,hout,Ge,jn,hT,h5,e2⟩ hK
  clear hK
  have mE:l'.Perm ts:=by
   have:∀{a b:List aa},(a.map ab).Perm (b.map ab)->a.Perm b:=fun {a b} qz=>by
    have h2:=qz.map (fun cs:List AV=>match cs with|[.int _ x,.int _ y,.int _ t]=>(⟨⟨x,y⟩,t⟩:aa)|_=>default)
    simpa[List.map_map,Function.comp_def,ab]using h2
   exact this hpp
  have Uq:=mE.length_eq
  rcases hout with⟨Qh,e3⟩|⟨o,e3,og,on,ov⟩
  ·exfalso
   subst Qh
   exact h0 (List.eq_nil_of_length_eq_zero Uq.symm)
  have iN:l'≠[]:=fun e=>h0 (List.eq_nil_of_length_eq_zero (by rw[<-Uq,e];rfl))
  (try((repeat(revert hN;revert N;apply Pn.out));refine wk (tw @Ii.eq_1 (tw @Ik.eq_1 (tw @e3 @e2))) ?_;(repeat(refine Pn.mk ?_;intro N hN))))
  refine .inr (aA _ _ _ _ _ (fun r σ1 hq=>?_) (BG l' L ae iN hR (mE.trans hp) ⟨s0.get,_⟩ o aU og))
  obtain⟨g1,x1⟩:=σ1
  obtain⟨o2,rfl,q1,q2,q3,q4⟩:=hq
  (try dsimp only at q1 q2 q3 q4)
  have k5:=(q4 ⟨70000000,σ.next⟩ aU).trans h5
  have o25:=dp (a:=⟨70000000,σ.next⟩) (b:=o2) aU
  refine hN _ _ ?_
  clear hN N
  (try((repeat(revert hN;revert N;apply Pn.out));refine wk (tw @Ii.eq_1 (tw @Ik.eq_1 (tw @e2 @k5))) ?_;(repeat(refine Pn.mk ?_;intro N hN))))
  exact gN (.inl rfl) (vs:=[.agg [.own o2 0 L.length]]) (by rw[Ik];simp only[gS,jD,go_sem, ↓reduceIte,Nat.reduceEqDiff,Nat.reduceAdd,Nat.reduceSub,Nat.reduceLeDiff,reduceCtorEq,e2]) ⟨o2,rfl,sd (tw @o25 @q1),ae,aU,aU,fun y hy V7=>by
   have h1:=dj (i:=y) (n:=σ.next) hy
   simp only[go_sem, ↓reduceIte,Nat.reduceEqDiff,Nat.reduceAdd,Nat.reduceSub,Nat.reduceLeDiff,reduceCtorEq,h1]
   exact(q4 y ae).trans (jn y hy V7)⟩
end Go.Proofs.YtiabgllilcfheaaGreat.V
