/- Copies of one's own of the laws' arguments: lists whose elements may hold rows of their own. -/
import Derived.Test.YtphenfakmdknlaaGreatBrB
import Derived.Test.YtphenfakmdknlaaGreatChecked
import Derived.Test.YtphenfakmdknlaaGreatBrA
set_option linter.unusedVariables false
set_option linter.unusedSimpArgs false
set_option maxRecDepth 100000
set_option maxHeartbeats 16000000
namespace Go.Proofs.YtphenfakmdknlaaGreat.V
open Go.RowKit
attribute [local irreducible] dJ wpOps e8 Call
attribute [local go_sem] ax eB dY eJ eI cJ upd bD K.av bW AV.cells AV.cell rowOf rowsOf part ld rowAt bC bx cU de fj bf cC dv eO er cL dm cw cu cZ da bl aI bZ bj ck cj di dn dj bY bo cz dh bh au cq bJ fh aT bV bm aH cS aQ cV AV.undef aV bc db dd cY dc bQ du dw bG dq dp cm cr List.getD_cons_zero List.getD_cons_succ List.getD_nil List.all_cons List.all_nil Bool.and_true Bool.true_and Bool.and_self Bool.not_true Bool.not_false Option.map_some Option.map_none Option.bind_some Option.bind_none List.length_cons List.length_nil List.take_succ_cons List.take_zero List.take_nil List.drop_succ_cons List.drop_zero List.drop_nil List.head?_cons List.map_cons List.map_nil List.getElem?_cons_zero List.getElem?_cons_succ List.cons_append List.nil_append List.append_nil List.length_map List.set_cons_zero List.set_cons_succ Nat.reduceMul eq_self Int.toNat_natCast Int.natCast_nonneg and_self true_and and_true decide_true decide_false Bool.false_eq_true Nat.zero_add Nat.add_zero List.contains_cons List.contains_nil Bool.or_false Bool.false_or beq_self_eq_true Nat.reduceBEq ne_eq not_true_eq_false not_false_eq_true Id.mk.injEq false_and and_false Nat.reduceLT Int.reduceLE Int.reduceLT Int.reduceToNat Int.reduceNeg Int.reduceAdd Nat.le_refl List.length_append beq_true beq_false Bool.not_eq_eq_eq_not or_false false_or dG ab ae az aU bu aC aP aE aJ cD aX
variable {P:Program}
def Ie {α:Type} (R:tO α) (x:α) (σ:ar) (r:AV) (σ':ar):Prop:=∃cs ids,r=.agg cs/\R σ'.get cs x ids/\eW σ.next σ'.next ids/\Kept σ σ'
def fI {α:Type} (R:tO α) (z:Nat) (g:Rows) (a:AV) (xs:List α) (ids:List Id):Prop:=∃o rows is,a=.own o 0 xs.length/\g o=some ⟨true,z,rows⟩/\cW R g rows xs is/\ids=o::is
def Ig {α:Type} (R:tO α) (z:Nat) (xs:List α) (σ:ar) (r:AV) (σ':ar):Prop:=∃ids,fI R z σ'.get r xs ids/\eW σ.next σ'.next ids/\Kept σ σ'
theorem fI.frame {α:Type} {R:tO α} {z:Nat} {g g':Rows} {a:AV} {xs:List α} {ids:List Id} (ok:nM R z) (h:fI R z g a xs ids) (hf:∀i∈ids,g' i=g i):fI R z g' a xs ids:=by
 obtain⟨o,rows,is,h1,h2,h3,rfl⟩:=h
 exact⟨o,rows,is,h1,(hf o (by simp)).trans h2,h3.frame ok fun i hi=>hf i (by simp[hi]),rfl⟩
theorem fI.fz {α:Type} {R:tO α} {z n:Nat} {e:α->List AV} {g:Rows} {a:AV} {xs:List α} {ids:List Id} (h:fI R z g a xs ids) (hz:∀{cs x ids},R g cs x ids->cR (dG g) n cs=some (e x)):V.fz (dG g) (n+1) a=some (.sl (xs.map e)):=by
 obtain⟨o,rows,is,rfl,h2,h3,rfl⟩:=h
 rw[gm]
 simp only[dG,h2,Option.map_some,if_true]
 rw[if_pos (by rw[h3.len];omega),List.drop_zero,List.take_of_length_le (by rw[h3.len];exact Nat.le_refl _),h3.fz hz];rfl
def jO {α:Type} (e:α->List AV):tO α:=fun _ cs x ids=>cs=e x/\ids=[]
theorem F4 {α:Type} {e:α->List AV} {z:Nat} (hz:∀x,(e x).length=z) (hc:∀x,(e x).all AV.cell=true) (hs:z<l6):nM (jO e) z where
 frame:=fun h _=>h
 len:=fun h=>by rw[h.1];exact hz _
 cell:=fun h=>by rw[h.1];exact hc _
 live:=fun h i hi=>by rw[h.2]at hi;cases hi
 small:=hs
def lK:tO eu:=fun g cs t ids=>∃i,cs=[.str t.aD,.own i 0 t.bB.length]/\g i=some ⟨true,1,t.bB.map aM⟩/\ids=[i]
theorem tu:nM lK 2 where
 frame:=fun⟨i,h1,h2,h3⟩ hf=>⟨i,h1,(hf i (by rw[h3];simp)).trans h2,h3⟩
 len:=fun⟨i,h1,_⟩=>by rw[h1];rfl
 cell:=fun⟨i,h1,_⟩=>by rw[h1];rfl
 live:=fun⟨i,h1,h2,h3⟩ j hj=>by
  rw[h3]at hj
  have:j=i:=by simpa using hj
  subst this
  exact⟨_,h2,rfl,by simp[l6]⟩
 small:=by simp[l6]
theorem JV {g:Rows} {cs:List AV} {t:eu} {ids:List Id} (n:Nat) (h:lK g cs t ids):cR (dG g) (n+2) cs=some (bI t):=by
 obtain⟨i,rfl,h2,_⟩:=h
 have h3:V.fz (dG g) (n+2) (.own i 0 t.bB.length)=some (.sl (t.bB.map aM)):=fF (e:=aM) (sz:=1) (by simp[dG,h2]) rfl fun x=>by simp[aM,ab,ae,az]
 simp only[ab,ae,aU,h3,Option.map_some,bI]
theorem JN {α:Type} {a b:List α} {x y:α} {k:Nat} (hk:a.length=k):(a++x::b).set k y=a++[y]++b:=by subst hk;simp
theorem xb {α:Type} {R:tO α} {en:α->List AV} {z fk gk:Nat} {zero:List K} (ok:nM R z) (hc:lN P fk=some (rm fk gk z zero)) (Fl:zero.length=z) (hz:∀x,(en x).length=z) (xs:List α) (hlen:xs.length<=1048576)
  (hg:∀x∈xs,∀σ,Call P gk [.agg (en x)] σ (Ie R x σ)) (σ:ar):Call P fk [.sl (xs.map en)] σ (Ig R z xs σ):=by
 refine gj hc rfl fun hl=>?_
 try simp only[q]
 clear hl
 have hm:(xs.length:Int)<=((16777216:Nat):Int):=ad
 have h0:(0:Int)<=(xs.length:Int):=ad
 (try((repeat(revert hN;revert N;apply Pn.out));refine wk (tw @hm (tw @h0 (tw @Int.le_refl @Fl))) ?_;(repeat(refine Pn.mk ?_;intro N hN))))
 refine bp (fun n env st=>∃k:Nat,n=(xs.length)-k/\k<=(xs.length)/\env 4=.int .i64 (k:Int)/\(σ.next+2<=st.next/\(∀y:Id,y.bR<σ.next->st.get y=σ.get y)/\∃rows is,st.get ⟨fk*1000000+1002,σ.next+1⟩=some ⟨true,z,rows++List.replicate (xs.length-k) (zero.map K.av)⟩/\cW R st.get rows (xs.take k) is/\eW (σ.next+2) st.next is)) (xs.length) ⟨0,ad,ad,sl @Nat.zero_add,by(try dsimp only);exact⟨ad,fun y hy=>by
  have h1:=dW hy
  simp only[go_sem, ↓reduceIte,Nat.reduceEqDiff,Nat.reduceAdd,Nat.reduceSub,Nat.reduceLeDiff,reduceCtorEq,h1],[],[],sl @Nat.zero_add,.nil,List.nodup_nil,fun i hi=>by cases hi⟩⟩ ?_
 rintro n_a env_a st_a ⟨k,rfl,ale,a4,aI0⟩ dt
 have a0:=dt 0 (by kernel_rfl);have a3:=dt 3 (by kernel_rfl)
 simp only[go_sem, ↓reduceIte,Nat.reduceEqDiff,Nat.reduceAdd,Nat.reduceSub,Nat.reduceLeDiff,reduceCtorEq]at a0 a3
 clear dt
 obtain⟨an,aK,rows,is,ag,aR,aN⟩:=aI0
 have qp:rows.length=k:=by rw[aR.len,List.length_take];omega
 by_cases hk:(k:Int)<(xs.length:Int)
 ·have bK:∀{e:Env} {gg:Rows} {nx:Nat},(e 4=.int .i64 (IntKind.i64.wrap ((k:Int)+1)))->(σ.next+2<=nx/\(∀y:Id,y.bR<σ.next->gg y=σ.get y)/\∃rows is,gg ⟨fk*1000000+1002,σ.next+1⟩=some ⟨true,z,rows++List.replicate (xs.length-(k+1)) (zero.map K.av)⟩/\cW R gg rows (xs.take (k+1)) is/\eW (σ.next+2) nx is)->∃m0,m0<(xs.length)-k/\∃k:Nat,m0=(xs.length)-k/\k<=(xs.length)/\e 4=.int .i64 (k:Int)/\(σ.next+2<=nx/\(∀y:Id,y.bR<σ.next->gg y=σ.get y)/\∃rows is,gg ⟨fk*1000000+1002,σ.next+1⟩=some ⟨true,z,rows++List.replicate (xs.length-k) (zero.map K.av)⟩/\cW R gg rows (xs.take k) is/\eW (σ.next+2) nx is):=fun x1 x2=>⟨_,ad,k+1,rfl,ad,(by rw[x1,aA ad]),x2⟩
  have eo:k<xs.length:=ad
  have eC:(xs.map en)[k]? =some (en xs[k]):=by simp[eo]
  have oU:=hz xs[k]
  have ht:(en xs[k]).take z=en xs[k]:=by rw[<-oU,List.take_length]
  have gx:=hg _ (List.getElem_mem eo)
  obtain⟨m,Ky⟩:∃m,xs.length-k=m+1:=⟨xs.length-k-1,ad⟩
  rw[Ky,List.replicate_succ]at ag
  generalize hex:en xs[k]=c at gx eC oU ht
  (try((repeat(revert hN;revert N;apply Pn.out));refine wk (tw @a4 (tw @a0 (tw @a3 (tw @hk (tw @eC (tw @oU (tw @ht @Nat.le_refl))))))) ?_;(repeat(refine Pn.mk ?_;intro N hN))))
  refine .inr (bd _ _ _ _ _ (fun r σ1 hq=>?_) (gx _))
  obtain⟨cs,ids,rfl,hR,hI,hK⟩:=hq
  obtain⟨g1,x1⟩:=σ1
  (try dsimp only at hR hI hK)
  have xm:=(hK.2 ⟨fk*1000000+1002,σ.next+1⟩ cE)
  simp only[go_sem, ↓reduceIte,Nat.reduceEqDiff,Nat.reduceAdd,Nat.reduceSub,Nat.reduceLeDiff,reduceCtorEq,ag]at xm
  have kY:=ok.len hR
  have v7:=ok.cell hR
  have ev:(rows++zero.map K.av::List.replicate m (zero.map K.av))[k]? =some (zero.map K.av):=by rw[List.getElem?_append_right ad,qp,Nat.sub_self];rfl
  have eX:(rows++zero.map K.av::List.replicate m (zero.map K.av)).set k cs=rows++[cs]++List.replicate m (zero.map K.av):=JN qp
  have Gi:(zero.map K.av).drop z=[]:=List.drop_of_length_le (by simp[Fl])
  have sJ:(rows++zero.map K.av::List.replicate m (zero.map K.av)).length=xs.length:=by simp[qp];omega
  refine hN _ _ ?_
  clear hN N
  (try((repeat(revert hN;revert N;apply Pn.out));refine wk (tw @a4 (tw @a0 (tw @a3 (tw @hk (tw @xm (tw @ev (tw @eX (tw @sJ (tw @Gi (tw @se (tw @kY (tw @v7 (tw @Nat.le_refl @Fl))))))))))))) ?_;(repeat(refine Pn.mk ?_;intro N hN))))
  have DQ:=hK.1
  have Ct:∀i∈is,(i=⟨fk*1000000+1002,σ.next+1⟩)=False:=fun i hi=>eq_false fun e=>by
   have:=(aN.2 i hi).1
   subst e;(try dsimp only at this);omega
  have tH:∀i∈ids,(i=⟨fk*1000000+1002,σ.next+1⟩)=False:=fun i hi=>eq_false fun e=>by
   have:=(hI.2 i hi).1
   subst e;(try dsimp only at this);omega
  exact bK (sd (tw @a4 (tw @a0 @a3))) (by(try dsimp only at *);exact⟨ad,fun y hy=>by
   have h1:=dW hy
   have h2:=hK.2 y cE
   have h3:=aK y hy
   simp only[go_sem, ↓reduceIte,Nat.reduceEqDiff,Nat.reduceAdd,Nat.reduceSub,Nat.reduceLeDiff,reduceCtorEq]at h2
   simp only[go_sem, ↓reduceIte,Nat.reduceEqDiff,Nat.reduceAdd,Nat.reduceSub,Nat.reduceLeDiff,reduceCtorEq,h1,h2,h3],rows++[cs],is++ids,by
    rw[show xs.length-(k+1)=m by omega]
    simp only[go_sem, ↓reduceIte,Nat.reduceEqDiff,Nat.reduceAdd,Nat.reduceSub,Nat.reduceLeDiff,reduceCtorEq]<;>rfl,by
    rw[List.take_succ_eq_append_getElem eo]
    refine((aR.frame ok fun i hi=>?_).app (.one (ok.frame hR fun i hi=>?_)))
    ·have h1:=Ct i hi
     have h2:=hK.2 i (by(try dsimp only);have:=(aN.2 i hi).2;omega)
     simp only[go_sem, ↓reduceIte,Nat.reduceEqDiff,Nat.reduceAdd,Nat.reduceSub,Nat.reduceLeDiff,reduceCtorEq]at h2
     simp only[go_sem, ↓reduceIte,Nat.reduceEqDiff,Nat.reduceAdd,Nat.reduceSub,Nat.reduceLeDiff,reduceCtorEq,h1,h2]
    ·have h1:=tH i hi
     simp only[go_sem, ↓reduceIte,Nat.reduceEqDiff,Nat.reduceAdd,Nat.reduceSub,Nat.reduceLeDiff,reduceCtorEq,h1],(aN.app hI cE ad cE).wide (Nat.le_refl _) cE⟩)
 ·(try((repeat(revert hN;revert N;apply Pn.out));refine wk (tw @a4 (tw @a0 (tw @a3 @hk))) ?_;(repeat(refine Pn.mk ?_;intro N hN))))
  have eo:k=xs.length:=ad
  subst eo
  rw[Nat.sub_self,List.replicate_zero,List.append_nil]at ag
  rw[List.take_length]at aR
  refine gI (.inl rfl) (vs:=[.own ⟨fk*1000000+1002,σ.next+1⟩ 0 xs.length]) (sd (tw @a4 (tw @a0 @a3))) ?_
  exact⟨_,⟨_,rows,is,rfl,ag,aR,rfl⟩,⟨List.nodup_cons.2 ⟨fun hi=>by have:=(aN.2 _ hi).1;(try dsimp only at this);omega,aN.1⟩,fun i hi=>by
   rcases List.mem_cons.1 hi with rfl|hi
   ·(try dsimp only);omega
   ·have:=aN.2 i hi;(try dsimp only);omega⟩,⟨cE,fun j hj=>aK j hj⟩⟩
end Go.Proofs.YtphenfakmdknlaaGreat.V

namespace Go.Proofs.YtphenfakmdknlaaGreat.V
open Go.RowKit
attribute [local irreducible] dJ wpOps e8 Call
attribute [local go_sem] ax eB dY eJ eI cJ upd bD K.av bW AV.cells AV.cell rowOf rowsOf part ld rowAt bC bx cU de fj bf cC dv eO er cL dm cw cu cZ da bl aI bZ bj ck cj di dn dj bY bo cz dh bh au cq bJ fh aT bV bm aH cS aQ cV AV.undef aV bc db dd cY dc bQ du dw bG dq dp cm cr List.getD_cons_zero List.getD_cons_succ List.getD_nil List.all_cons List.all_nil Bool.and_true Bool.true_and Bool.and_self Bool.not_true Bool.not_false Option.map_some Option.map_none Option.bind_some Option.bind_none List.length_cons List.length_nil List.take_succ_cons List.take_zero List.take_nil List.drop_succ_cons List.drop_zero List.drop_nil List.head?_cons List.map_cons List.map_nil List.getElem?_cons_zero List.getElem?_cons_succ List.cons_append List.nil_append List.append_nil List.length_map List.set_cons_zero List.set_cons_succ Nat.reduceMul eq_self Int.toNat_natCast Int.natCast_nonneg and_self true_and and_true decide_true decide_false Bool.false_eq_true Nat.zero_add Nat.add_zero List.contains_cons List.contains_nil Bool.or_false Bool.false_or beq_self_eq_true Nat.reduceBEq ne_eq not_true_eq_false not_false_eq_true Id.mk.injEq false_and and_false Nat.reduceLT Int.reduceLE Int.reduceLT Int.reduceToNat Int.reduceNeg Int.reduceAdd Nat.le_refl List.length_append beq_true beq_false Bool.not_eq_eq_eq_not or_false false_or dG ab ae az aU bu aC aP aE aJ cD aX
theorem fI.wz {α:Type} {R:tO α} {z:Nat} {g:Rows} {a:AV} {xs:List α} {ids:List Id} (h:fI R z g a xs ids):∃o,a=.own o 0 xs.length:=by
 obtain⟨o,rows,is,rfl,_⟩:=h;exact⟨o,rfl⟩
theorem HH (xs:List Int) (hlen:xs.length<=1048576) (σ:ar):Call Tryz.prog 263 [.sl (xs.map aM)] σ (fun r σ'=>∃i,r=.own i 0 xs.length/\σ'.get i=some ⟨true,1,xs.map aM⟩/\eW σ.next σ'.next [i]/\Kept σ σ'):=by
 refine gj (show lN Tryz.prog 263=some (HJ 263 (.int .i64 0)) by kernel_rfl) rfl fun hl=>?_
 try simp only[q]
 clear hl
 obtain⟨en,H0⟩:∃en:Int->List AV,en=aM:=⟨_,rfl⟩
 rw[<-H0]
 have hm:(xs.length:Int)<=((16777216:Nat):Int):=ad
 have h0:(0:Int)<=(xs.length:Int):=ad
 (try((repeat(revert hN;revert N;apply Pn.out));refine wk (tw @hm (tw @h0 (tw @Int.le_refl (mv en [AV.int .i64 0] xs)))) ?_;(repeat(refine Pn.mk ?_;intro N hN))))
 refine bp (fun n env st=>∃k:Nat,n=(xs.length)-k/\k<=(xs.length)/\env 4=.int .i64 (k:Int)/\st.get ⟨263*1000000+1002,σ.next+1⟩=some ⟨true,1,fU en [AV.int .i64 0] xs k⟩/\(σ.next+2<=st.next/\∀y:Id,y.bR<σ.next->st.get y=σ.get y)) (xs.length) ⟨0,ad,ad,sl @Nat.zero_add,sl @Nat.zero_add,by(try dsimp only);exact⟨ad,fun y hy=>by
  have h1:=dW hy
  simp only[go_sem, ↓reduceIte,Nat.reduceEqDiff,Nat.reduceAdd,Nat.reduceSub,Nat.reduceLeDiff,reduceCtorEq,h1]⟩⟩ ?_
 rintro n_a env_a st_a ⟨k,rfl,ale,a4,ag0,aI0⟩ dt
 have a0:=dt 0 (by kernel_rfl);have a3:=dt 3 (by kernel_rfl)
 simp only[go_sem, ↓reduceIte,Nat.reduceEqDiff,Nat.reduceAdd,Nat.reduceSub,Nat.reduceLeDiff,reduceCtorEq]at a0 a3
 clear dt
 obtain⟨an,aK⟩:=aI0
 by_cases hk:(k:Int)<(xs.length:Int)
 ·have bK:∀{e:Env} {gg:Rows} {nx:Nat},(e 4=.int .i64 (IntKind.i64.wrap ((k:Int)+1)))->(gg ⟨263*1000000+1002,σ.next+1⟩=some ⟨true,1,fU en [AV.int .i64 0] xs (k+1)⟩)->(σ.next+2<=nx/\∀y:Id,y.bR<σ.next->gg y=σ.get y)->∃m0,m0<(xs.length)-k/\∃k:Nat,m0=(xs.length)-k/\k<=(xs.length)/\e 4=.int .i64 (k:Int)/\gg ⟨263*1000000+1002,σ.next+1⟩=some ⟨true,1,fU en [AV.int .i64 0] xs k⟩/\(σ.next+2<=nx/\∀y:Id,y.bR<σ.next->gg y=σ.get y):=fun x1 x2 x3=>⟨_,ad,k+1,rfl,ad,(by rw[x1,aA ad]),x2,x3⟩
  have eo:k<xs.length:=ad
  have eC:(xs.map en)[k]? =some [AV.int .i64 xs[k]]:=by simp[eo,H0,aM]
  have kM:=oB en [AV.int .i64 0] xs eo
  have eX:=oC en [AV.int .i64 0] xs eo
  rw[show en xs[k]=[AV.int .i64 xs[k]] by rw[H0];rfl]at eX
  (try((repeat(revert hN;revert N;apply Pn.out));refine wk (tw @a4 (tw @ag0 (tw @a0 (tw @a3 (tw @hk (tw @eC (tw @kM @eX))))))) ?_;(repeat(refine Pn.mk ?_;intro N hN))))
  refine bK ?_ ?_ (by(try dsimp only);exact⟨ad,fun y hy=>by
   have h1:=dW hy
   have h3:=aK y hy
   simp only[go_sem, ↓reduceIte,Nat.reduceEqDiff,Nat.reduceAdd,Nat.reduceSub,Nat.reduceLeDiff,reduceCtorEq,h1,h3]⟩)
  all_goals simp only[go_sem, ↓reduceIte,Nat.reduceEqDiff,Nat.reduceAdd,Nat.reduceSub,Nat.reduceLeDiff,reduceCtorEq,a4,ag0,a0,a3]
 ·(try((repeat(revert hN;revert N;apply Pn.out));refine wk (tw @a4 (tw @ag0 (tw @a0 (tw @a3 @hk)))) ?_;(repeat(refine Pn.mk ?_;intro N hN))))
  have eo:k=xs.length:=ad
  subst eo
  refine gI (.inl rfl) (vs:=[.own ⟨263*1000000+1002,σ.next+1⟩ 0 xs.length]) (sd (tw @a4 (tw @ag0 (tw @a0 @a3)))) ?_
  rw[oA]at ag0
  exact⟨_,rfl,ag0,⟨List.nodup_cons.2 ⟨by simp,List.nodup_nil⟩,fun i hi=>by
   rw[List.mem_singleton.1 hi];(try dsimp only);omega⟩,⟨cE,fun j hj=>aK j hj⟩⟩
theorem HK (p:eu) (hs:qd p) (σ:ar):Call Tryz.prog 173 [.agg (bI p)] σ (Ie lK p σ):=by
 refine gj eL rfl fun hl=>?_
 clear hl
 (try((repeat(revert hN;revert N;apply Pn.out));refine wk @bI.eq_1 ?_;(repeat(refine Pn.mk ?_;intro N hN))))
 refine .inr (bd _ _ _ _ _ (fun r σ1 hq=>?_) (HH p.bB hs _))
 obtain⟨i,rfl,hg,hI,hK⟩:=hq
 obtain⟨g1,x1⟩:=σ1
 (try dsimp only at hg hI hK)
 have hn:=hK.1
 refine hN _ _ ?_
 clear hN N
 have hi:=hI.2 i (by simp)
 have k2:=hK.2 ⟨173000001,σ.next⟩ cE
 have k3:=hK.2 ⟨173001000,σ.next+1⟩ cE
 simp only[go_sem, ↓reduceIte,Nat.reduceEqDiff,Nat.reduceAdd,Nat.reduceSub,Nat.reduceLeDiff,reduceCtorEq]at k2 k3
 (try((repeat(revert hN;revert N;apply Pn.out));refine wk (tw @bI.eq_1 (tw @k2 @k3)) ?_;(repeat(refine Pn.mk ?_;intro N hN))))
 refine gI (.inl rfl) (vs:=[.agg [.str p.aD,.own i 0 p.bB.length]]) (sd @Nat.zero_add) ?_
 refine⟨_,[i],rfl,⟨i,rfl,?_,rfl⟩,⟨hI.1,fun j hj=>?_⟩,⟨?_,fun j hj=>?_⟩⟩
 ·have i2:=dE (b:=i) (a:=⟨173000001,σ.next⟩) (by(try dsimp only at *);omega)
  have i3:=dE (b:=i) (a:=⟨173001000,σ.next+1⟩) (by(try dsimp only at *);omega)
  simp only[go_sem, ↓reduceIte,Nat.reduceEqDiff,Nat.reduceAdd,Nat.reduceSub,Nat.reduceLeDiff,reduceCtorEq,i2,i3,hg]
 ·rw[List.mem_singleton.1 hj]
  (try dsimp only at *);omega
 ·(try dsimp only at *);omega
 ·have h2:=hK.2 j cE
  have h1:=dW hj
  simp only[go_sem, ↓reduceIte,Nat.reduceEqDiff,Nat.reduceAdd,Nat.reduceSub,Nat.reduceLeDiff,reduceCtorEq,h1]at h2
  simp only[go_sem, ↓reduceIte,Nat.reduceEqDiff,Nat.reduceAdd,Nat.reduceSub,Nat.reduceLeDiff,reduceCtorEq,h1,h2]
theorem F3:nM (jO bS) 2:=F4 (fun _=>rfl) (fun _=>rfl) (by simp[l6])
theorem F5:nM (jO ah) 3:=F4 (fun _=>rfl) (fun _=>rfl) (by simp[l6])
theorem HF (p:eV) (σ:ar):Call Tryz.prog 172 [.agg (bS p)] σ (Ie (jO bS) p σ):=by
 refine gj eL rfl fun hl=>?_
 clear hl
 (try((repeat(revert hN;revert N;apply Pn.out));refine wk @bS.eq_1 ?_;(repeat(refine Pn.mk ?_;intro N hN))))
 refine gI (.inl rfl) (vs:=[.agg (bS p)]) (sd @bS.eq_1) ?_
 exact⟨_,[],rfl,⟨rfl,rfl⟩,⟨List.nodup_nil,fun i hi=>by cases hi⟩,⟨cE,fun j hj=>by
  have h1:=dW hj
  simp only[go_sem, ↓reduceIte,Nat.reduceEqDiff,Nat.reduceAdd,Nat.reduceSub,Nat.reduceLeDiff,reduceCtorEq,h1]⟩⟩
theorem BQ (p:ai) (σ:ar):Call Tryz.prog 174 [.agg (ah p)] σ (Ie (jO ah) p σ):=by
 refine gj eL rfl fun hl=>?_
 clear hl
 have h:=vg p.cG
 rw[aq]at h
 (repeat(first|((repeat(revert hN;revert N;apply Pn.out));refine wk @ah.eq_1 ?_;(repeat(refine Pn.mk ?_;intro N hN)))|((try apply Or.inl);refine⟨_,ki.x (h) _,?_⟩;refine hN _ _ ?_;clear hN N)))
 refine gI (.inl rfl) (vs:=[.agg (ah p)]) (sd @ah.eq_1) ?_
 exact⟨_,[],rfl,⟨rfl,rfl⟩,⟨List.nodup_nil,fun i hi=>by cases hi⟩,⟨cE,fun j hj=>by
  have h1:=dW hj
  simp only[go_sem, ↓reduceIte,Nat.reduceEqDiff,Nat.reduceAdd,Nat.reduceSub,Nat.reduceLeDiff,reduceCtorEq,h1]⟩⟩
theorem EZ (xs:List eV) (h:xs.length<=1048576) (σ:ar):Call Tryz.prog 74 [.sl (xs.map bS)] σ (Ig (jO bS) 2 xs σ):=
 xb F3 (show lN Tryz.prog 74=some (rm 74 172 2 [.str [],.int .i64 0]) by kernel_rfl) rfl (fun _=>rfl) xs h (fun x _ σ=>HF x σ) σ
theorem E3 (xs:List eu) (h:xs.length<=1048576) (hs:∀t∈xs,qd t) (σ:ar):Call Tryz.prog 75 [.sl (xs.map bI)] σ (Ig lK 2 xs σ):=
 xb tu (show lN Tryz.prog 75=some (rm 75 173 2 [.str [],.cK]) by kernel_rfl) rfl (fun _=>rfl) xs h (fun x hx σ=>HK x (hs x hx) σ) σ
theorem zA (xs:List ai) (h:xs.length<=1048576) (σ:ar):Call Tryz.prog 76 [.sl (xs.map ah)] σ (Ig (jO ah) 3 xs σ):=
 xb F5 (show lN Tryz.prog 76=some (rm 76 174 3 [.int .i64 0,.int .i64 0,.int .i64 0]) by kernel_rfl) rfl (fun _=>rfl) xs h (fun x _ σ=>BQ x σ) σ
def vm (g:Rows) (v:AV) (a:dV) (ids:List Id):Prop:=∃x,v=.agg [x]/\fI (jO ah) 3 g x a.aj ids
structure SysO (g:Rows) (v:AV) (s:eT) (ids:List Id):Prop where
 ex:∃a b c i1 i2 i3,v=.agg [a,b,c,.int .i64 s.eK]/\fI (jO bS) 2 g a s.iU.ay i1/\fI lK 2 g b s.iU.aj i2/\fI (jO ah) 3 g c s.gH.aj i3/\ids=i1++(i2++i3)
theorem vm.frame {g g':Rows} {v:AV} {a:dV} {ids:List Id} (h:vm g v a ids) (hf:∀i∈ids,g' i=g i):vm g' v a ids:=by
 obtain⟨x,h1,h2⟩:=h
 exact⟨x,h1,h2.frame F5 hf⟩
theorem vm.fz {g:Rows} {v:AV} {a:dV} {ids:List Id} (n:Nat) (h:vm g v a ids):V.fz (dG g) (n+4) v=some (.agg (aY a)):=by
 obtain⟨x,rfl,h2⟩:=h
 have h3:=h2.fz (n:=n+2) (e:=ah) fun hc=>by rw[hc.1];simp[ah,ab,ae,az]
 simp only[aP,ab,ae,h3,Option.map_some,aY]
theorem w8 (p:dV) (hs:p.aj.length<=1048576) (σ:ar):Call Tryz.prog 14 [.agg (aY p)] σ (fun r σ'=>∃ids,vm σ'.get r p ids/\eW σ.next σ'.next ids/\Kept σ σ'):=by
 refine gj eL rfl fun hl=>?_
 clear hl
 (try((repeat(revert hN;revert N;apply Pn.out));refine wk @aY.eq_1 ?_;(repeat(refine Pn.mk ?_;intro N hN))))
 refine .inr (bd _ _ _ _ _ (fun r σ1 hq=>?_) (zA p.aj hs _))
 obtain⟨ids,hR,hI,hK⟩:=hq
 obtain⟨g1,x1⟩:=σ1
 (try dsimp only at hR hI hK)
 have hn:=hK.1
 obtain⟨o,rows,is,rfl,hg,Rb,rfl⟩:=hR
 refine hN _ _ ?_
 clear hN N
 have k2:=hK.2 ⟨14000001,σ.next⟩ cE
 have k3:=hK.2 ⟨14001000,σ.next+1⟩ cE
 simp only[go_sem, ↓reduceIte,Nat.reduceEqDiff,Nat.reduceAdd,Nat.reduceSub,Nat.reduceLeDiff,reduceCtorEq]at k2 k3
 (try((repeat(revert hN;revert N;apply Pn.out));refine wk (tw @aY.eq_1 (tw @k2 @k3)) ?_;(repeat(refine Pn.mk ?_;intro N hN))))
 refine gI (.inl rfl) (vs:=[.agg [.own o 0 p.aj.length]]) (sd @Nat.zero_add) ?_
 have hb:=hI.2
 (try dsimp only at hb hn)
 refine⟨_,⟨_,rfl,fI.frame F5 ⟨o,rows,is,rfl,hg,Rb,rfl⟩ fun j hj=>?_⟩,⟨hI.1,fun j hj=>?_⟩,⟨?_,fun j hj=>?_⟩⟩
 ·have Ku:=hb j hj
  have i2:=dE (b:=j) (a:=⟨14000001,σ.next⟩) cE
  have i3:=dE (b:=j) (a:=⟨14001000,σ.next+1⟩) cE
  simp only[go_sem, ↓reduceIte,Nat.reduceEqDiff,Nat.reduceAdd,Nat.reduceSub,Nat.reduceLeDiff,reduceCtorEq,i2,i3]
 ·have:=hb j hj
  (try dsimp only);omega
 ·(try dsimp only);omega
 ·have h2:=hK.2 j cE
  have h1:=dW hj
  simp only[go_sem, ↓reduceIte,Nat.reduceEqDiff,Nat.reduceAdd,Nat.reduceSub,Nat.reduceLeDiff,reduceCtorEq,h1]at h2
  simp only[go_sem, ↓reduceIte,Nat.reduceEqDiff,Nat.reduceAdd,Nat.reduceSub,Nat.reduceLeDiff,reduceCtorEq,h1,h2]
theorem zC (p:ao) (hs:qQ p) (σ:ar):Call Tryz.prog 13 [.agg (aa p)] σ (fun r σ'=>∃a b i1 i2,r=.agg [a,b]/\fI (jO bS) 2 σ'.get a p.ay i1/\fI lK 2 σ'.get b p.aj i2/\eW σ.next σ'.next (i1++i2)/\Kept σ σ'):=by
 refine gj eL rfl fun hl=>?_
 clear hl
 (try((repeat(revert hN;revert N;apply Pn.out));refine wk @aa.eq_1 ?_;(repeat(refine Pn.mk ?_;intro N hN))))
 refine .inr (bd _ _ _ _ _ (fun r σ1 hq=>?_) (EZ p.ay hs.g _))
 obtain⟨i1,hR,hI,hK⟩:=hq
 obtain⟨g1,x1⟩:=σ1
 (try dsimp only at hR hI hK)
 have hn:=hK.1
 obtain⟨o,rows,is,rfl,hg,Rb,rfl⟩:=hR
 have hb:=hI.2
 (try dsimp only at hb hn)
 refine hN _ _ ?_
 clear hN N
 have k1:=hK.2 ⟨13000000,σ.next⟩ cE
 have k2:=hK.2 ⟨13000001,σ.next⟩ cE
 have k3:=hK.2 ⟨13001000,σ.next+1⟩ cE
 simp only[go_sem, ↓reduceIte,Nat.reduceEqDiff,Nat.reduceAdd,Nat.reduceSub,Nat.reduceLeDiff,reduceCtorEq]at k1 k2 k3
 (try((repeat(revert hN;revert N;apply Pn.out));refine wk (tw @aa.eq_1 (tw @k1 (tw @k2 @k3))) ?_;(repeat(refine Pn.mk ?_;intro N hN))))
 refine .inr (bd _ _ _ _ _ (fun r σ2 hq=>?_) (E3 p.aj hs.t hs.s _))
 obtain⟨i2,hS,hJ,hL⟩:=hq
 obtain⟨g2,x2⟩:=σ2
 (try dsimp only at hS hJ hL)
 have OS:=hL.1
 obtain⟨o2,u3,Mg,rfl,DN,hS',rfl⟩:=hS
 have hc:=hJ.2
 (try dsimp only at hc OS)
 refine hN _ _ ?_
 clear hN N
 have l2:=hL.2 ⟨13000001,σ.next⟩ cE
 have l3:=hL.2 ⟨13001000,σ.next+1⟩ cE
 simp only[go_sem, ↓reduceIte,Nat.reduceEqDiff,Nat.reduceAdd,Nat.reduceSub,Nat.reduceLeDiff,reduceCtorEq,k2,k3]at l2 l3
 (try((repeat(revert hN;revert N;apply Pn.out));refine wk (tw @aa.eq_1 (tw @l2 @l3)) ?_;(repeat(refine Pn.mk ?_;intro N hN))))
 refine gI (.inl rfl) (vs:=[.agg [.own o 0 p.ay.length,.own o2 0 p.aj.length]]) (sd @Nat.zero_add) ?_
 have fr:∀x:Id,σ.next+2<=x.bR->(x=⟨13000001,σ.next⟩)=False/\(x=⟨13001000,σ.next+1⟩)=False:=fun x hx=>⟨(dE (a:=⟨13000001,σ.next⟩) (b:=x) cE).2,(dE (a:=⟨13001000,σ.next+1⟩) (b:=x) cE).2⟩
 refine⟨_,_,_,_,rfl,fI.frame (g:=g1) F3 ⟨o,rows,is,rfl,hg,Rb,rfl⟩ fun i hi=>?_,fI.frame (g:=g2) tu ⟨o2,u3,Mg,rfl,DN,hS',rfl⟩ fun i hi=>?_,?_,⟨cE,fun j hj=>?_⟩⟩
 ·have h1:=hb i hi
  have h2:=hL.2 i cE
  have h3:=fr i ad
  simp only[go_sem, ↓reduceIte,Nat.reduceEqDiff,Nat.reduceAdd,Nat.reduceSub,Nat.reduceLeDiff,reduceCtorEq,h3]at h2
  simp only[go_sem, ↓reduceIte,Nat.reduceEqDiff,Nat.reduceAdd,Nat.reduceSub,Nat.reduceLeDiff,reduceCtorEq,h2,h3]
 ·have h1:=hc i hi
  have h3:=fr i ad
  simp only[go_sem, ↓reduceIte,Nat.reduceEqDiff,Nat.reduceAdd,Nat.reduceSub,Nat.reduceLeDiff,reduceCtorEq,h3]
 ·(try dsimp only at *)
  exact(hI.app hJ ad ad ad).wide ad ad
 ·have h1:=dW hj
  have h2:=hL.2 j cE
  have h3:=hK.2 j cE
  simp only[go_sem, ↓reduceIte,Nat.reduceEqDiff,Nat.reduceAdd,Nat.reduceSub,Nat.reduceLeDiff,reduceCtorEq,h1]at h2 h3
  simp only[go_sem, ↓reduceIte,Nat.reduceEqDiff,Nat.reduceAdd,Nat.reduceSub,Nat.reduceLeDiff,reduceCtorEq,h1,h2,h3]
end Go.Proofs.YtphenfakmdknlaaGreat.V

namespace Go.Proofs.YtphenfakmdknlaaGreat
open Go.RowKit
def jX (n:Int):Bool:=(decide (97<=n)&&decide (n<=122))||(decide (65<=n)&&decide (n<=90))
def kj (n:Int):Bool:=decide (48<=n)&&decide (n<=57)
def rq (i:Nat) (n:Int):Prop:=jX n=true∨(0<i/\(kj n=true∨n=95))
def r5 (s:ByteArray):Prop:=(1<=s.size/\s.size<=12)/\∀i (h:i<s.size),rq i s[i].toNat
open Classical in
noncomputable def iW (s:ByteArray):Bool:=decide (r5 s)
theorem Bo {s:ByteArray} (h:r5 s):true=iW s:=by simp[iW,h]
theorem dU {s:ByteArray} (h:¬r5 s):false=iW s:=by simp[iW,h]
theorem zb {s:ByteArray} {b:Bool} (hb:b=true) (h:r5 s):b=iW s:=by simp[iW,h,hb]
theorem pH {s:ByteArray} {b:Bool} (hb:b=false) (h:¬r5 s):b=iW s:=by simp[iW,h,hb]
theorem sR (w:World) (n:Int):Calls Tryz.prog 316 #[.int .u8 n] w fun e w'=>e=.returned (.bool (jX n))/\w=w':=by
 go_enter Tryz.func316,Tryz.ntmps316
 go_wp2_with fail
 all_goals
  go_ret
  exact⟨gF (by unfold jX;simp[*];try omega),rfl⟩
theorem Dw (w:World) (n:Int):Calls Tryz.prog 317 #[.int .u8 n] w fun e w'=>e=.returned (.bool (kj n))/\w=w':=by
 go_enter Tryz.func317,Tryz.ntmps317
 go_wp2_with fail
 all_goals
  go_ret
  exact⟨gF (by unfold kj;simp[*];try omega),rfl⟩
theorem zq (w:World) (s:ByteArray) (hs:s.size<=9223372036854775807):Calls Tryz.prog 256 #[.string s] w fun e w'=>e=.returned (.bool (iW s))/\Below w.heap.size w w':=by
 by_cases h1:1<=s.size
 case neg=>
  go_enter Tryz.func256,Tryz.ntmps256
  go_wp2_with fail
  go_ret
  exact⟨gF (dU fun h=>h1 h.1.1),Below.refl _ _⟩
 by_cases h2:s.size<=12
 case neg=>
  go_enter Tryz.func256,Tryz.ntmps256
  go_wp2_with fail
  go_ret
  exact⟨gF (dU fun h=>h2 h.1.2),Below.refl _ _⟩
 go_enter Tryz.func256,Tryz.ntmps256
 go_wp2_with fail
 refine(sR _ _).mono ?_
 rintro e w' ⟨rfl,rfl⟩
 cases h3:jX s[0].toNat
 ·go_wp2_with fail
  go_ret
  exact⟨gF (dU fun h=>by have:=h.2 0 (by omega);simp only[rq]at this;rw[h3]at this;simp at this),Below.refl _ _⟩
 ·replace h3:=Lib.hid h3
  go_wp2_with fail
  go_loop [3] (fun i=>∃k:Nat,1<=k/\k<=s.size/\i=.int .i64 k/\Hid (∀j (h:j<s.size),j<k->rq j s[j].toNat)) (fun i=>s.size-(intOf i).toNat)
  case atStart=>exact⟨1,by omega,by omega,rfl,Lib.hid fun j h hj=>by
   obtain rfl:j=0:=by omega
   exact .inl h3.out⟩
  case round=>
   obtain⟨k,rD,hk,rfl,dy⟩:=hrel
   by_cases ea:k<s.size
   ·go_wp2_with fail
    refine(sR _ _).mono ?_
    rintro e w' ⟨rfl,rfl⟩
    have lv:rq k s[k].toNat∨¬rq k s[k].toNat:=Classical.em _
    cases hl:jX s[k].toNat
    ·go_wp2_with fail
     refine(Dw _ _).mono ?_
     rintro e w' ⟨rfl,rfl⟩
     cases hd:kj s[k].toNat
     ·by_cases rN:(s[k].toNat:Int)=95
      ·have Q0:((s[k].toNat:Int) !=95)=false:=by simp;omega
       replace rN:=Lib.hid rN
       replace hl:=Lib.hid hl
       replace hd:=Lib.hid hd
       go_wp2_with fail
       go_round
       case rel=>exact⟨k+1,by omega,by omega,by go_num,Lib.hid fun j h hj=>by
        by_cases uK:j=k
        ·subst uK;exact .inr ⟨by omega,.inr rN.out⟩
        ·exact dy.out j h (by omega)⟩
       case measure=>simp[intOf];omega
      ·have Q0:((s[k].toNat:Int) !=95)=true:=by simp;omega
       replace rN:=Lib.hid rN
       replace hl:=Lib.hid hl
       replace hd:=Lib.hid hd
       go_wp2_with fail
       go_ret
       exact⟨gF (dU fun h=>by
        have:=h.2 k ea;simp only[rq,hl.out,hd.out]at this;exact rN.out (by simp at this;exact this.2)),Below.refl _ _⟩
     ·replace hl:=Lib.hid hl
      replace hd:=Lib.hid hd
      go_wp2_with fail
      go_round
      case rel=>exact⟨k+1,by omega,by omega,by go_num,Lib.hid fun j h hj=>by
       by_cases uK:j=k
       ·subst uK;exact .inr ⟨by omega,.inl hd.out⟩
       ·exact dy.out j h (by omega)⟩
      case measure=>simp[intOf];omega
    ·replace hl:=Lib.hid hl
     go_wp2_with fail
     go_round
     case rel=>exact⟨k+1,by omega,by omega,by go_num,Lib.hid fun j h hj=>by
      by_cases uK:j=k
      ·subst uK;exact .inl hl.out
      ·exact dy.out j h (by omega)⟩
     case measure=>simp[intOf];omega
   ·go_wp2_with fail
    go_ret
    exact⟨gF (Bo ⟨⟨h1,h2⟩,fun i h=>dy.out i h (by omega)⟩),Below.refl _ _⟩
theorem yN (w:World) (s:ByteArray) (hs:s.size<=9223372036854775807):Calls Tryz.prog 264 #[.string s] w fun e w'=>e=.returned (.bool (iW s))/\w=w':=by
 go_enter Tryz.func264,Tryz.ntmps264
 go_wp2_with fail
 go_loop [8] (fun i=>∃k:Nat,k<=s.size/\i=.int .i64 k/\Hid (∀j (h:j<s.size),j<k->rq j s[j].toNat)) (fun i=>s.size-(intOf i).toNat)
 case atStart=>exact⟨0,by omega,rfl,Lib.hid fun j h hj=>by omega⟩
 case round=>
  obtain⟨k,hk,rfl,dy⟩:=hrel
  by_cases ea:k<s.size
  ·have hc:(s[k].toNat:Int)<48∨(48<=(s[k].toNat:Int)/\(s[k].toNat:Int)<=57)∨(58<=(s[k].toNat:Int)/\(s[k].toNat:Int)<=64)∨(65<=(s[k].toNat:Int)/\(s[k].toNat:Int)<=90)∨(91<=(s[k].toNat:Int)/\(s[k].toNat:Int)<=94)∨(95<=(s[k].toNat:Int)/\(s[k].toNat:Int)<=95)∨(96<=(s[k].toNat:Int)/\(s[k].toNat:Int)<=96)∨(97<=(s[k].toNat:Int)/\(s[k].toNat:Int)<=122)∨123<=(s[k].toNat:Int):=by omega
   by_cases tJ:k=0
   ·subst tJ
    rcases hc with h|⟨h,h'⟩|⟨h,h'⟩|⟨h,h'⟩|⟨h,h'⟩|⟨h,h'⟩|⟨h,h'⟩|⟨h,h'⟩|h
    ·have rN:((s[0].toNat:Int) !=95)=true:=by simp;try omega
     go_wp2_with fail
     all_goals first
      |(go_ret;exact⟨gF (dU fun hh=>by have:=hh.2 0 ea;simp[rq,jX,kj]at this;omega),rfl⟩)
      |(exfalso;simp_all;done)
      |(exfalso;simp_all;omega)
    ·have rN:((s[0].toNat:Int) !=95)=true:=by simp;try omega
     go_wp2_with fail
     all_goals first
      |(go_ret;exact⟨gF (dU fun hh=>by have:=hh.2 0 ea;simp[rq,jX,kj]at this;omega),rfl⟩)
      |(exfalso;simp_all;done)
      |(exfalso;simp_all;omega)
    ·have rN:((s[0].toNat:Int) !=95)=true:=by simp;try omega
     go_wp2_with fail
     all_goals first
      |(go_ret;exact⟨gF (dU fun hh=>by have:=hh.2 0 ea;simp[rq,jX,kj]at this;omega),rfl⟩)
      |(exfalso;simp_all;done)
      |(exfalso;simp_all;omega)
    ·have rN:((s[0].toNat:Int) !=95)=true:=by simp;try omega
     go_wp2_with fail
     go_round
     case rel=>exact⟨0+1,by omega,by go_num,Lib.hid fun j hj uK=>by
      by_cases Gn:j=0
      ·subst Gn;simp[rq,jX,kj];omega
      ·exact dy.out j hj (by omega)⟩
     case measure=>simp[intOf];try omega
    ·have rN:((s[0].toNat:Int) !=95)=true:=by simp;try omega
     go_wp2_with fail
     all_goals first
      |(go_ret;exact⟨gF (dU fun hh=>by have:=hh.2 0 ea;simp[rq,jX,kj]at this;omega),rfl⟩)
      |(exfalso;simp_all;done)
      |(exfalso;simp_all;omega)
    ·have rN:((s[0].toNat:Int) !=95)=false:=by simp;try omega
     go_wp2_with fail
     all_goals first
      |(go_ret;exact⟨gF (dU fun hh=>by have:=hh.2 0 ea;simp[rq,jX,kj]at this;omega),rfl⟩)
      |(exfalso;simp_all;done)
      |(exfalso;simp_all;omega)
    ·have rN:((s[0].toNat:Int) !=95)=true:=by simp;try omega
     go_wp2_with fail
     all_goals first
      |(go_ret;exact⟨gF (dU fun hh=>by have:=hh.2 0 ea;simp[rq,jX,kj]at this;omega),rfl⟩)
      |(exfalso;simp_all;done)
      |(exfalso;simp_all;omega)
    ·have rN:((s[0].toNat:Int) !=95)=true:=by simp;try omega
     go_wp2_with fail
     go_round
     case rel=>exact⟨0+1,by omega,by go_num,Lib.hid fun j hj uK=>by
      by_cases Gn:j=0
      ·subst Gn;simp[rq,jX,kj];omega
      ·exact dy.out j hj (by omega)⟩
     case measure=>simp[intOf];try omega
    ·have rN:((s[0].toNat:Int) !=95)=true:=by simp;try omega
     go_wp2_with fail
     all_goals first
      |(go_ret;exact⟨gF (dU fun hh=>by have:=hh.2 0 ea;simp[rq,jX,kj]at this;omega),rfl⟩)
      |(exfalso;simp_all;done)
      |(exfalso;simp_all;omega)
   ·have hz:((k:Int)==0)=false:=by simpa using tJ
    have rD:1<=k:=by omega
    clear tJ
    rcases hc with h|⟨h,h'⟩|⟨h,h'⟩|⟨h,h'⟩|⟨h,h'⟩|⟨h,h'⟩|⟨h,h'⟩|⟨h,h'⟩|h
    ·have rN:((s[k].toNat:Int) !=95)=true:=by simp;try omega
     go_wp2_with fail
     all_goals first
      |(go_ret;exact⟨gF (dU fun hh=>by have:=hh.2 k ea;simp[rq,jX,kj]at this;omega),rfl⟩)
      |(exfalso;simp_all;done)
      |(exfalso;simp_all;omega)
    ·have rN:((s[k].toNat:Int) !=95)=true:=by simp;try omega
     go_wp2_with fail
     go_round
     case rel=>exact⟨k+1,by omega,by go_num,Lib.hid fun j hj uK=>by
      by_cases Gn:j=k
      ·subst Gn;simp[rq,jX,kj];omega
      ·exact dy.out j hj (by omega)⟩
     case measure=>simp[intOf];try omega
    ·have rN:((s[k].toNat:Int) !=95)=true:=by simp;try omega
     go_wp2_with fail
     all_goals first
      |(go_ret;exact⟨gF (dU fun hh=>by have:=hh.2 k ea;simp[rq,jX,kj]at this;omega),rfl⟩)
      |(exfalso;simp_all;done)
      |(exfalso;simp_all;omega)
    ·have rN:((s[k].toNat:Int) !=95)=true:=by simp;try omega
     go_wp2_with fail
     go_round
     case rel=>exact⟨k+1,by omega,by go_num,Lib.hid fun j hj uK=>by
      by_cases Gn:j=k
      ·subst Gn;simp[rq,jX,kj];omega
      ·exact dy.out j hj (by omega)⟩
     case measure=>simp[intOf];try omega
    ·have rN:((s[k].toNat:Int) !=95)=true:=by simp;try omega
     go_wp2_with fail
     all_goals first
      |(go_ret;exact⟨gF (dU fun hh=>by have:=hh.2 k ea;simp[rq,jX,kj]at this;omega),rfl⟩)
      |(exfalso;simp_all;done)
      |(exfalso;simp_all;omega)
    ·have rN:((s[k].toNat:Int) !=95)=false:=by simp;try omega
     go_wp2_with fail
     go_round
     case rel=>exact⟨k+1,by omega,by go_num,Lib.hid fun j hj uK=>by
      by_cases Gn:j=k
      ·subst Gn;simp[rq,jX,kj];omega
      ·exact dy.out j hj (by omega)⟩
     case measure=>simp[intOf];try omega
    ·have rN:((s[k].toNat:Int) !=95)=true:=by simp;try omega
     go_wp2_with fail
     all_goals first
      |(go_ret;exact⟨gF (dU fun hh=>by have:=hh.2 k ea;simp[rq,jX,kj]at this;omega),rfl⟩)
      |(exfalso;simp_all;done)
      |(exfalso;simp_all;omega)
    ·have rN:((s[k].toNat:Int) !=95)=true:=by simp;try omega
     go_wp2_with fail
     go_round
     case rel=>exact⟨k+1,by omega,by go_num,Lib.hid fun j hj uK=>by
      by_cases Gn:j=k
      ·subst Gn;simp[rq,jX,kj];omega
      ·exact dy.out j hj (by omega)⟩
     case measure=>simp[intOf];try omega
    ·have rN:((s[k].toNat:Int) !=95)=true:=by simp;try omega
     go_wp2_with fail
     all_goals first
      |(go_ret;exact⟨gF (dU fun hh=>by have:=hh.2 k ea;simp[rq,jX,kj]at this;omega),rfl⟩)
      |(exfalso;simp_all;done)
      |(exfalso;simp_all;omega)
  ·by_cases h1:1<=s.size
   ·by_cases h2:s.size<=12
    ·go_wp2_with fail
     go_ret
     exact⟨gF (zb (by simp<;>omega) ⟨⟨h1,h2⟩,fun i h=>dy.out i h (by omega)⟩),rfl⟩
    ·go_wp2_with fail
     go_ret
     exact⟨gF (pH (by simp<;>omega) fun h=>h2 h.1.2),rfl⟩
   ·go_wp2_with fail
    go_ret
    exact⟨gF (pH (by simp<;>omega) fun h=>h1 h.1.1),rfl⟩
end Go.Proofs.YtphenfakmdknlaaGreat

namespace Go.Proofs.YtphenfakmdknlaaGreat.V
open Go.RowKit
theorem mixed:Tryz.prog.follows .mixedOrders=true:=by kernel_rfl
variable {P:Program} {w:World} {D:Nat->Prop} {ι:Names}
theorem kP {f:Nat} {args:List AV} {r:AV} {vs0:Array Value} {u0:Value} (lP:∀(w:World) (D:Nat->Prop) (ι:Names) vs,eP P w D ι args vs->vs=vs0) (hr:∀(w:World) (D:Nat->Prop) (ι:Names),cQ P w D ι r u0) (Cx:∀g,fu g 6 r=some r)
  (h:∀w,Calls P f vs0 w fun e w'=>e=.returned u0/\Below w.heap.size w w'):ak P f args r:=by
 intro n
 refine gr fun hs D ι w vs S U A=>?_
 have:=lP w D ι vs A
 subst this
 refine(h w).mono ?_
 rintro e w' ⟨rfl,hb⟩
 exact⟨r,_,n,D,ι,u0,rfl,⟨r,Cx _,rfl⟩,Step.stay S hb.block hb.size hb.os hb.tape hb.output (fun _ h=>h) (fun _ h=>.inl h) (fun _ _ h=>h),
  S.stay hb.block hb.size (fun _ h=>h) (fun b hd=>Nat.lt_of_lt_of_le (S.dead b hd) hb.size) (fun _ h=>.inl h) (fun _ _ h=>h),U,Nat.le_refl _,hr _ _ _⟩
theorem zl {s:ByteArray} {vs:Array Value} (h:eP P w D ι [.str s] vs):vs= #[.string s]:=by
 obtain⟨h1,h2⟩:=h
 obtain⟨u,hu,hr⟩:=h2 0 _ rfl
 rw[eY hr]at hu
 obtain⟨l⟩:=vs
 cases l with
 |nil=>simp at h1
 |cons a l=>cases l with
  |nil=>simp at hu;subst hu;rfl
  |cons b l=>simp at h1
theorem CT (s:ByteArray) (hs:s.size<=9223372036854775807):ak Tryz.prog 256 [.str s] (.bool (iW s)):=
 kP (fun _ _ _ _=>zl) (fun _ _ _=>.ez _ _ (.bool _)) (fun g=>jS g 5 _) fun w=>zq w s hs
theorem CI (s:ByteArray) (hs:s.size<=9223372036854775807):ak Tryz.prog 264 [.str s] (.bool (iW s)):=
 kP (fun _ _ _ _=>zl) (fun _ _ _=>.ez _ _ (.bool _)) (fun g=>jS g 5 _) fun w=>(yN w s hs).mono (by rintro e w' ⟨rfl,rfl⟩;exact⟨rfl,Below.refl _ _⟩)
end Go.Proofs.YtphenfakmdknlaaGreat.V

namespace Go.Proofs.YtphenfakmdknlaaGreat
open Go.RowKit
def rC (n:Nat):List UInt8:=if h:n=0 then[]else rC (n / 10)++[UInt8.ofNat (48+n % 10)]
termination_by n
decreasing_by omega
def mL (k:Int):ByteArray:=if k<=0 then⟨#[109,48]⟩else⟨(109::rC k.toNat).toArray⟩
theorem Dx:rC 0=[]:=by unfold rC;simp
theorem FR {n:Nat} (h:n≠0):rC n=rC (n / 10)++[UInt8.ofNat (48+n % 10)]:=by
 conv=>lhs;unfold rC
 rw[dif_neg h]
theorem uA (c:UInt8) (l:ByteArray):((⟨#[c]⟩++l:ByteArray)).data.toList=c::l.data.toList:=by
 simp[ByteArray.data_append]
theorem xX:∀(m n:Nat),n<10 ^ m->(rC n).length<=m
 |0,n,h=>by
  have:n=0:=by simpa using h
  subst this;simp[rC]
 |m+1,n,h=>by
  unfold rC
  split
  ·simp
  ·have:=xX m (n / 10) (by rw[Nat.pow_succ]at h;omega)
   simp;omega
theorem wK (w:World) (k:Int) (h0:0<=k) (h1:k<=4611686018427387904):
  Calls Tryz.prog 190 #[.int .i64 k] w fun e w'=>e=.returned (.string (mL k))/\Below w.heap.size w w':=by
 by_cases hk:k<=0
 ·go_enter Tryz.func190,Tryz.ntmps190
  go_wp2_with fail
  go_ret
  exact⟨by simp[mL,hk],Below.refl _ _⟩
 ·go_enter Tryz.func190,Tryz.ntmps190
  go_wp2_with fail
  go_loopw [0,3] (fun a s wr=>∃(j:Int) (l:ByteArray),a=.int .i64 j/\s=.string l/\0<=j/\j<=4611686018427387904/\Hid (rC j.toNat++l.data.toList=rC k.toNat)/\Below w.heap.size w wr) (fun a _ _=>(intOf a).toNat)
  case atStart=>exact⟨k,⟨#[]⟩,rfl,rfl,h0,h1,Lib.hid (by simp),Below.refl _ _⟩
  case round=>
   obtain⟨j,l,rfl,rfl,hj0,hj1,hd,hb⟩:=hrel
   have fq:l.size<=19:=by
    have h1:=congrArg List.length hd.out
    have h2:=xX 19 k.toNat (by omega)
    rw[List.length_append]at h1
    have:l.data.toList.length=l.size:=by rw[Array.length_toList];rfl
    omega
   by_cases hj:0<j
   ·have hcv:∀v:Int,(convert 56 9 (.slice (some ⟨wr.heap.size,0,none⟩) 1 1)).run Tryz.prog (wr.alloc (.cells #[.int .u8 v] 5))=.ok (.string ⟨#[UInt8.ofNat v.toNat]⟩) (wr.alloc (.cells #[.int .u8 v] 5)):=by
     intro v
     rw[run_convert_bytes_string _ _ _ 5 _ _ _ Tryz.underlying56 Tryz.underlying5 Tryz.underlying9,run_bytesToString _ _ _ _ [v] (by simp[loadCells,loadCellsFrom,go_sem])]
     rfl
    have hr:=fq
    go_wp2_with fail
    go_roundw
    case rel=>
     refine⟨_,_,rfl,rfl,by omega,by omega,Lib.hid ?_,hb.alloc hb.size _⟩
     rw[<-hd.out,uA,FR (show j.toNat≠0 by omega),show(j / 10).toNat=j.toNat / 10 by omega,show(48+j % 10).toNat=48+j.toNat % 10 by omega]
     simp
    case measure=>simp[intOf];omega
   ·go_wp2_with fail
    go_ret
    refine⟨?_,hb⟩
    have h1:=hd.out
    rw[show j.toNat=0 by omega,Dx,List.nil_append]at h1
    have h2:(⟨#[109]⟩++l:ByteArray)=mL k:=by
     rw[mL,if_neg (by omega)]
     refine ByteArray.ext (Array.ext' ?_)
     rw[uA,h1]
    rw[h2];rfl
end Go.Proofs.YtphenfakmdknlaaGreat

namespace Go.Proofs.YtphenfakmdknlaaGreat.V
open Go.RowKit
attribute [local irreducible] dJ wpOps e8 Call
attribute [local go_sem] ax eB dY eJ eI cJ upd bD K.av bW AV.cells AV.cell rowOf rowsOf part ld rowAt bC bx cU de fj bf cC dv eO er cL dm cw cu cZ da bl aI bZ bj ck cj di dn dj bY bo cz dh bh au cq bJ fh aT bV bm aH cS aQ cV AV.undef aV bc db dd cY dc bQ du dw bG dq dp cm cr List.getD_cons_zero List.getD_cons_succ List.getD_nil List.all_cons List.all_nil Bool.and_true Bool.true_and Bool.and_self Bool.not_true Bool.not_false Option.map_some Option.map_none Option.bind_some Option.bind_none List.length_cons List.length_nil List.take_succ_cons List.take_zero List.take_nil List.drop_succ_cons List.drop_zero List.drop_nil List.head?_cons List.map_cons List.map_nil List.getElem?_cons_zero List.getElem?_cons_succ List.cons_append List.nil_append List.append_nil List.length_map List.set_cons_zero List.set_cons_succ Nat.reduceMul eq_self Int.toNat_natCast Int.natCast_nonneg and_self true_and and_true decide_true decide_false Bool.false_eq_true Nat.zero_add Nat.add_zero List.contains_cons List.contains_nil Bool.or_false Bool.false_or beq_self_eq_true Nat.reduceBEq ne_eq not_true_eq_false not_false_eq_true Id.mk.injEq false_and and_false Nat.reduceLT Int.reduceLE Int.reduceLT Int.reduceToNat Int.reduceNeg Int.reduceAdd Nat.le_refl List.length_append beq_true beq_false Bool.not_eq_eq_eq_not or_false false_or dG ab ae az aU bu aC aP aE aJ cD aX
def oV (σ:ar) (ids:List Id) (g:Rows) (n:Nat):Prop:=σ.next<=n/\∀x:Id,x.bR<σ.next->x∉ids->g x=σ.get x
theorem tj (l:List (List AV)) (i:Nat) (a b:List AV):(l.set i a).set i b=l.set i b:=List.set_set ..
theorem xZ {l:List Int} {j:Nat} (h:j<l.length):(l.map aM)[j]? =some [.int .i64 l[j]]:=by simp[h,aM]
theorem JH {P:Program} {w:World} {D:Nat->Prop} {ι:Names} {k:Int} {vs:Array Value} (h:eP P w D ι [.int .i64 k] vs):vs= #[.int .i64 k]:=by
 obtain⟨h1,h2⟩:=h
 obtain⟨u,hu,hr⟩:=h2 0 _ rfl
 rw[dz hr]at hu
 obtain⟨l⟩:=vs
 cases l with
 |nil=>simp at h1
 |cons a l=>cases l with
  |nil=>simp at hu;subst hu;rfl
  |cons b l=>simp at h1
theorem sS (k:Int) (h0:0<=k) (h1:k<=4611686018427387904):ak Tryz.prog 190 [.int .i64 k] (.str (mL k)):=
 kP (vs0:= #[.int .i64 k]) (u0:=.string (mL k)) (fun _ _ _ _=>JH) (fun w D ι=>.ez _ _ (.str _)) (fun g=>ID g 5 _) fun w=>wK w k h0 h1
theorem Bm (i:Id) (l:List Int) (k:Int) (h0:0<=k) (h1:k+l.length<=4611686018427387904) (σ:ar) (hv:i.bR<σ.next) (hg:σ.get i=some ⟨true,1,l.map aM⟩):
  Call Tryz.prog 100 [.own i 0 l.length,.int .i64 k] σ (fun r σ'=>r=.int .i64 (k+l.length)/\oV σ [i] σ'.get σ'.next):=by
 refine gj eL rfl fun hl=>?_
 clear hl
 obtain⟨nn,hn⟩:∃nn,l.length=nn:=⟨_,rfl⟩
 rw[hn]at h1 ⊢
 (try((repeat(revert hN;revert N;apply Pn.out));refine wk @Nat.zero_add ?_;(repeat(refine Pn.mk ?_;intro N hN))))
 refine bp (fun n env st=>∃j:Nat,n=(nn)-j/\j<=(nn)/\env 5=.int .i64 (j:Int)/\env 1=.int .i64 (k+j)/\(oV σ [i] st.get st.next/\∃l':List Int,l'.length=nn/\st.get i=some ⟨true,1,l'.map aM⟩)) (nn) ⟨0,ad,ad,sl (tw @Int.add_zero @Int.natCast_zero),sl (tw @Int.add_zero @Int.natCast_zero),by(try dsimp only);exact⟨⟨cE,fun x _ _=>rfl⟩,l,hn,hg⟩⟩ ?_
 rintro n_a env_a st_a ⟨j,rfl,ale,a5,a1,aI0⟩ dt
 have a0:=dt 0 (by kernel_rfl)
 simp only[go_sem, ↓reduceIte,Nat.reduceEqDiff,Nat.reduceAdd,Nat.reduceSub,Nat.reduceLeDiff,reduceCtorEq,Int.add_zero,Int.natCast_zero]at a0
 clear dt
 obtain⟨⟨an,aF⟩,l',al,ag⟩:=aI0
 by_cases hj:(j:Int)<(nn:Int)
 ·have bK:∀{e:Env} {gg:Rows} {nx:Nat},(e 5=.int .i64 (IntKind.i64.wrap ((j:Int)+1)))->(e 1=.int .i64 (k+(j+1)))->(oV σ [i] gg nx/\∃l':List Int,l'.length=nn/\gg i=some ⟨true,1,l'.map aM⟩)->∃m0,m0<(nn)-j/\∃j:Nat,m0=(nn)-j/\j<=(nn)/\e 5=.int .i64 (j:Int)/\e 1=.int .i64 (k+j)/\(oV σ [i] gg nx/\∃l':List Int,l'.length=nn/\gg i=some ⟨true,1,l'.map aM⟩):=fun x1 x2 x3=>⟨_,ad,j+1,rfl,ad,(by rw[x1,aA ad]),x2,x3⟩
  have ib:j<l'.length:=ad
  have ev:=xZ ib
  have eX:(l'.map aM).set j [.int .i64 (k+j)]=(l'.set j (k+j)).map aM:=by rw[List.map_set];rfl
  have hw:IntKind.i64.wrap (k+(j:Int)+1)=k+((j:Int)+1):=by rw[bP ad];omega
  (try((repeat(revert hN;revert N;apply Pn.out));refine wk (tw @a5 (tw @a1 (tw @a0 (tw @hj (tw @ag (tw @ev (tw @eX @hw))))))) ?_;(repeat(refine Pn.mk ?_;intro N hN))))
  refine bK ?_ ?_ (by(try dsimp only);exact⟨⟨cE,fun x hx hi=>by
   have h2:=aF x hx hi
   have h3:(x=i)=False:=eq_false fun e=>hi (by simp[e])
   simp only[go_sem, ↓reduceIte,Nat.reduceEqDiff,Nat.reduceAdd,Nat.reduceSub,Nat.reduceLeDiff,reduceCtorEq,h2,h3]⟩,l'.set j (k+j),by simp[al],sl @Nat.zero_add⟩)
  all_goals simp only[go_sem, ↓reduceIte,Nat.reduceEqDiff,Nat.reduceAdd,Nat.reduceSub,Nat.reduceLeDiff,reduceCtorEq,a5,a1,a0,hw]
 ·have ib:j=nn:=ad
  subst ib
  (try((repeat(revert hN;revert N;apply Pn.out));refine wk (tw @a5 (tw @a1 (tw @a0 @hj))) ?_;(repeat(refine Pn.mk ?_;intro N hN))))
  exact gI (.inl rfl) (vs:=[.int .i64 (k+j)]) (sd (tw @a5 (tw @a1 @a0))) ⟨rfl,⟨cE,fun x hx hi=>aF x hx hi⟩⟩
def Jp (k:Int) (n:Nat):List ai:=(List.range n).map fun j:Nat=>⟨⟨k+3*(j:Int),k+3*(j:Int)+1⟩,k+3*(j:Int)+2⟩
theorem pG (k:Int) (n:Nat):(Jp k n).length=n:=by simp[Jp]
theorem GZ (k:Int) (n:Nat):Jp k (n+1)=Jp k n++[⟨⟨k+3*(n:Int),k+3*(n:Int)+1⟩,k+3*(n:Int)+2⟩]:=by simp[Jp,List.range_succ]
def lz (k:Int) (l:List ai) (j:Nat):List ai:=Jp k j++l.drop j
theorem G0 {k:Int} {l:List ai} {j:Nat} (h:j<=l.length):(lz k l j).length=l.length:=by simp[lz,pG];omega
theorem Jq {k:Int} {l:List ai} {j:Nat} (h:j<l.length):((lz k l j).map ah)[j]? =some [.int .i64 l[j].cG.fZ,.int .i64 l[j].cG.fC,.int .i64 l[j].bU]:=by
 rw[List.getElem?_map,lz,List.getElem?_append_right (by rw[pG];omega),pG,Nat.sub_self,List.getElem?_drop,Nat.add_zero,List.getElem?_eq_getElem h];rfl
theorem G1 {k:Int} {l:List ai} {j:Nat} (h:j<l.length):((lz k l j).map ah).set j [.int .i64 (k+3*(j:Int)),.int .i64 (k+3*(j:Int)+1),.int .i64 (k+3*(j:Int)+2)]=(lz k l (j+1)).map ah:=by
 have:(lz k l j).set j ⟨⟨k+3*(j:Int),k+3*(j:Int)+1⟩,k+3*(j:Int)+2⟩=lz k l (j+1):=by
  rw[lz,List.set_append_right _ _ (by rw[pG];omega),pG,Nat.sub_self,List.drop_eq_getElem_cons h,List.set_cons_zero,lz,GZ,List.append_assoc];rfl
 rw[<-this,List.map_set];rfl
theorem wJ (i:Id) (l:List ai) (k:Int) (h0:0<=k) (h1:k+3*l.length<=4611686018427387904) (σ:ar) (hv:i.bR<σ.next) (hg:σ.get i=some ⟨true,3,l.map ah⟩):
  Call Tryz.prog 86 [.own i 0 l.length,.int .i64 k] σ (fun r σ'=>r=.int .i64 (k+3*l.length)/\oV σ [i] σ'.get σ'.next/\σ'.get i=some ⟨true,3,(Jp k l.length).map ah⟩):=by
 refine gj eL rfl fun hl=>?_
 clear hl
 have hz:lz k l 0=l:=by simp[lz,Jp]
 (try((repeat(revert hN;revert N;apply Pn.out));refine wk @Nat.zero_add ?_;(repeat(refine Pn.mk ?_;intro N hN))))
 refine bp (fun n env st=>∃j:Nat,n=(l.length)-j/\j<=(l.length)/\env 5=.int .i64 (j:Int)/\env 1=.int .i64 (k+3*j)/\st.get i=some ⟨true,3,(lz k l j).map ah⟩/\(oV σ [i] st.get st.next)) (l.length) ⟨0,ad,ad,sl (tw @Int.add_zero (tw @Int.natCast_zero (tw @Int.mul_zero (tw @hz @hg)))),sl (tw @Int.add_zero (tw @Int.natCast_zero (tw @Int.mul_zero (tw @hz @hg)))),sl (tw @Int.add_zero (tw @Int.natCast_zero (tw @Int.mul_zero (tw @hz @hg)))),by(try dsimp only);exact⟨cE,fun x _ _=>rfl⟩⟩ ?_
 rintro n_a env_a st_a ⟨j,rfl,ale,a5,a1,ag0,aI0⟩ dt
 have a0:=dt 0 (by kernel_rfl)
 simp only[go_sem, ↓reduceIte,Nat.reduceEqDiff,Nat.reduceAdd,Nat.reduceSub,Nat.reduceLeDiff,reduceCtorEq,Int.add_zero,Int.natCast_zero,Int.mul_zero,hz,hg]at a0
 clear dt
 obtain⟨an,aF⟩:=aI0
 by_cases hj:(j:Int)<(l.length:Int)
 ·have bK:∀{e:Env} {gg:Rows} {nx:Nat},(e 5=.int .i64 (IntKind.i64.wrap ((j:Int)+1)))->(e 1=.int .i64 (k+3*(j+1)))->(gg i=some ⟨true,3,(lz k l (j+1)).map ah⟩)->(oV σ [i] gg nx)->∃m0,m0<(l.length)-j/\∃j:Nat,m0=(l.length)-j/\j<=(l.length)/\e 5=.int .i64 (j:Int)/\e 1=.int .i64 (k+3*j)/\gg i=some ⟨true,3,(lz k l j).map ah⟩/\(oV σ [i] gg nx):=fun x1 x2 x3 x4=>⟨_,ad,j+1,rfl,ad,(by rw[x1,aA ad]),x2,x3,x4⟩
  have ib:j<l.length:=ad
  have ev:=Jq (k:=k) ib
  have eX:=G1 (k:=k) ib
  have pq:IntKind.i64.wrap (k+3*(j:Int)+1)=k+3*(j:Int)+1:=bP ad
  have wo:IntKind.i64.wrap (k+3*(j:Int)+1+1)=k+3*(j:Int)+2:=by rw[bP ad];omega
  have Pe:IntKind.i64.wrap (k+3*(j:Int)+2+1)=k+3*((j:Int)+1):=by rw[bP ad];omega
  have hlen:((lz k l j).map ah).length=l.length:=by rw[List.length_map,G0 ad]
  have IM:∀c:List AV,(((lz k l j).map ah).set j c)[j]? =some c:=fun c=>by rw[List.getElem?_set_self (by rw[hlen];exact ib)]
  (try((repeat(revert hN;revert N;apply Pn.out));refine wk (tw @a5 (tw @a1 (tw @ag0 (tw @a0 (tw @hj (tw @ev (tw @IM (tw @eX (tw @pq (tw @wo (tw @Pe (tw @hlen @tj)))))))))))) ?_;(repeat(refine Pn.mk ?_;intro N hN))))
  refine bK ?_ ?_ ?_ (by(try dsimp only);exact⟨cE,fun x hx hi=>by
   have h2:=aF x hx hi
   have h3:(x=i)=False:=eq_false fun e=>hi (by simp[e])
   simp only[go_sem, ↓reduceIte,Nat.reduceEqDiff,Nat.reduceAdd,Nat.reduceSub,Nat.reduceLeDiff,reduceCtorEq,h2,h3]⟩)
  all_goals simp only[go_sem, ↓reduceIte,Nat.reduceEqDiff,Nat.reduceAdd,Nat.reduceSub,Nat.reduceLeDiff,reduceCtorEq,a5,a1,ag0,a0,Pe,eX]
 ·have ib:j=l.length:=ad
  subst ib
  (try((repeat(revert hN;revert N;apply Pn.out));refine wk (tw @a5 (tw @a1 (tw @ag0 (tw @a0 @hj)))) ?_;(repeat(refine Pn.mk ?_;intro N hN))))
  have jw:lz k l l.length=Jp k l.length:=by simp[lz]
  rw[jw]at ag0
  exact gI (.inl rfl) (vs:=[.int .i64 (k+3*l.length)]) (sd (tw @a5 (tw @a1 (tw @ag0 @a0)))) ⟨rfl,⟨cE,fun x hx hi=>aF x hx hi⟩,ag0⟩
theorem y7 (i:Id) (l:List eV) (k:Int) (h0:0<=k) (h1:k+2*l.length<=4611686018427387904) (σ:ar) (hv:i.bR<σ.next) (hg:σ.get i=some ⟨true,2,l.map bS⟩):
  Call Tryz.prog 84 [.own i 0 l.length,.int .i64 k] σ (fun r σ'=>r=.int .i64 (k+2*l.length)/\oV σ [i] σ'.get σ'.next):=by
 refine gj eL rfl fun hl=>?_
 clear hl
 obtain⟨nn,hn⟩:∃nn,l.length=nn:=⟨_,rfl⟩
 rw[hn]at h1 ⊢
 (try((repeat(revert hN;revert N;apply Pn.out));refine wk @Nat.zero_add ?_;(repeat(refine Pn.mk ?_;intro N hN))))
 refine bp (fun n env st=>∃j:Nat,n=(nn)-j/\j<=(nn)/\env 5=.int .i64 (j:Int)/\env 1=.int .i64 (k+2*j)/\(oV σ [i] st.get st.next/\∃l':List eV,l'.length=nn/\st.get i=some ⟨true,2,l'.map bS⟩)) (nn) ⟨0,ad,ad,sl (tw @Int.add_zero (tw @Int.natCast_zero @Int.mul_zero)),sl (tw @Int.add_zero (tw @Int.natCast_zero @Int.mul_zero)),by(try dsimp only);exact⟨⟨cE,fun x _ _=>rfl⟩,l,hn,hg⟩⟩ ?_
 rintro n_a env_a st_a ⟨j,rfl,ale,a5,a1,aI0⟩ dt
 have a0:=dt 0 (by kernel_rfl)
 simp only[go_sem, ↓reduceIte,Nat.reduceEqDiff,Nat.reduceAdd,Nat.reduceSub,Nat.reduceLeDiff,reduceCtorEq,Int.add_zero,Int.natCast_zero,Int.mul_zero]at a0
 clear dt
 obtain⟨⟨an,aF⟩,l',al,ag⟩:=aI0
 by_cases hj:(j:Int)<(nn:Int)
 ·have bK:∀{e:Env} {gg:Rows} {nx:Nat},(e 5=.int .i64 (IntKind.i64.wrap ((j:Int)+1)))->(e 1=.int .i64 (k+2*(j+1)))->(oV σ [i] gg nx/\∃l':List eV,l'.length=nn/\gg i=some ⟨true,2,l'.map bS⟩)->∃m0,m0<(nn)-j/\∃j:Nat,m0=(nn)-j/\j<=(nn)/\e 5=.int .i64 (j:Int)/\e 1=.int .i64 (k+2*j)/\(oV σ [i] gg nx/\∃l':List eV,l'.length=nn/\gg i=some ⟨true,2,l'.map bS⟩):=fun x1 x2 x3=>⟨_,ad,j+1,rfl,ad,(by rw[x1,aA ad]),x2,x3⟩
  have ib:j<l'.length:=ad
  have ev:(l'.map bS)[j]? =some [.str l'[j].aD,.int .i64 l'[j].ec]:=by simp[ib,bS]
  have hlen:(l'.map bS).length=nn:=by rw[List.length_map,al]
  have IM:∀c:List AV,((l'.map bS).set j c)[j]? =some c:=fun c=>by rw[List.getElem?_set_self (by rw[List.length_map];exact ib)]
  have ht:=sS (k+2*(j:Int)) ad ad
  have pq:IntKind.i64.wrap (k+2*(j:Int)+1)=k+2*(j:Int)+1:=bP ad
  have wo:IntKind.i64.wrap (k+2*(j:Int)+1+1)=k+2*((j:Int)+1):=by rw[bP ad];omega
  generalize mL (k+2*(j:Int))=mt at ht
  have eX:(l'.map bS).set j [.str mt,.int .i64 (k+2*(j:Int)+1)]=(l'.set j ⟨mt,k+2*(j:Int)+1⟩).map bS:=by rw[List.map_set];rfl
  (repeat(first|((repeat(revert hN;revert N;apply Pn.out));refine wk (tw @a5 (tw @a1 (tw @a0 (tw @hj (tw @ag (tw @ev (tw @IM (tw @eX (tw @pq (tw @wo (tw @hlen @tj))))))))))) ?_;(repeat(refine Pn.mk ?_;intro N hN)))|((try apply Or.inl);refine⟨_,ak.x (ht) (sd (tw @a5 (tw @a1 (tw @a0 (tw @hj (tw @ag (tw @ev (tw @IM (tw @eX (tw @pq (tw @wo (tw @hlen @tj)))))))))))),?_⟩;refine hN _ _ ?_;clear hN N)))
  refine bK ?_ ?_ (by(try dsimp only);exact⟨⟨cE,fun x hx hi=>by
   have h2:=aF x hx hi
   have h3:(x=i)=False:=eq_false fun e=>hi (by simp[e])
   simp only[go_sem, ↓reduceIte,Nat.reduceEqDiff,Nat.reduceAdd,Nat.reduceSub,Nat.reduceLeDiff,reduceCtorEq,h2,h3]⟩,l'.set j ⟨mt,k+2*(j:Int)+1⟩,by simp[al],sl @Nat.zero_add⟩)
  all_goals simp only[go_sem, ↓reduceIte,Nat.reduceEqDiff,Nat.reduceAdd,Nat.reduceSub,Nat.reduceLeDiff,reduceCtorEq,a5,a1,a0,wo,eX]
 ·have ib:j=nn:=ad
  subst ib
  (try((repeat(revert hN;revert N;apply Pn.out));refine wk (tw @a5 (tw @a1 (tw @a0 @hj))) ?_;(repeat(refine Pn.mk ?_;intro N hN))))
  exact gI (.inl rfl) (vs:=[.int .i64 (k+2*j)]) (sd (tw @a5 (tw @a1 @a0))) ⟨rfl,⟨cE,fun x hx hi=>aF x hx hi⟩⟩
theorem fI.flat {α:Type} {e:α->List AV} {z:Nat} {g:Rows} {a:AV} {xs:List α} {ids:List Id} (h:fI (jO e) z g a xs ids):∃o,a=.own o 0 xs.length/\g o=some ⟨true,z,xs.map e⟩/\ids=[o]:=by
 obtain⟨o,rows,is,h1,h2,h3,rfl⟩:=h
 have:∀{rows:List (List AV)} {xs:List α} {is:List Id},cW (jO e) g rows xs is->rows=xs.map e/\is=[]:=fun h=>by
  induction h with
  |nil=>exact⟨rfl,rfl⟩
  |cons h1 _ ih=>obtain⟨rfl,rfl⟩:=h1;obtain⟨rfl,rfl⟩:=ih;exact⟨rfl,rfl⟩
 obtain⟨rfl,rfl⟩:=this h3
 exact⟨o,h1,h2,rfl⟩
def gh (t:eu):Nat:=1+t.bB.length
theorem y8 (a:AV) (l:List eu) (ids:List Id) (k:Int) (h0:0<=k) (Nx:l.length<=1048576) (h1:k+(l.map gh).sum<=4611686018427387904) (σ:ar) (hv:∀i∈ids,i.bR<σ.next) (kD:ids.Nodup) (hg:fI lK 2 σ.get a l ids):
  Call Tryz.prog 85 [a,.int .i64 k] σ (fun r σ'=>r=.int .i64 (k+(l.map gh).sum)/\oV σ ids σ'.get σ'.next):=by
 obtain⟨o,rows,is,rfl,ho,hR,rfl⟩:=hg
 refine gj eL rfl fun hl=>?_
 clear hl
 have uL:=hv o (by simp)
 have wi:=jd gh l
 (try((repeat(revert hN;revert N;apply Pn.out));refine wk @Nat.zero_add ?_;(repeat(refine Pn.mk ?_;intro N hN))))
 refine bp (fun n env st=>∃j:Nat,n=(l.length)-j/\j<=(l.length)/\env 5=.int .i64 (j:Int)/\env 1=.int .i64 (k+e6 gh l j)/\(oV σ (o::is) st.get st.next/\∃pre rest ir,st.get o=some ⟨true,2,pre++rest⟩/\pre.length=j/\cW lK st.get rest (l.drop j) ir/\(o::ir).Nodup/\∀i∈ir,i∈is)) (l.length) ⟨0,ad,ad,sl (tw @Int.add_zero (tw @Int.natCast_zero @wi)),sl (tw @Int.add_zero (tw @Int.natCast_zero @wi)),by(try dsimp only);exact⟨⟨cE,fun x _ _=>rfl⟩,[],rows,is,ho,rfl,hR,kD,fun _ h=>h⟩⟩ ?_
 rintro n_a env_a st_a ⟨j,rfl,ale,a5,a1,aI0⟩ dt
 have a0:=dt 0 (by kernel_rfl)
 simp only[go_sem, ↓reduceIte,Nat.reduceEqDiff,Nat.reduceAdd,Nat.reduceSub,Nat.reduceLeDiff,reduceCtorEq,Int.add_zero,Int.natCast_zero,wi]at a0
 clear dt
 obtain⟨⟨an,aF⟩,pre,rest,ir,ag,apl,aR,aN,aS⟩:=aI0
 by_cases hj:(j:Int)<(l.length:Int)
 ·have bK:∀{e:Env} {gg:Rows} {nx:Nat},(e 5=.int .i64 (IntKind.i64.wrap ((j:Int)+1)))->(e 1=.int .i64 (k+e6 gh l (j+1)))->(oV σ (o::is) gg nx/\∃pre rest ir,gg o=some ⟨true,2,pre++rest⟩/\pre.length=(j+1)/\cW lK gg rest (l.drop (j+1)) ir/\(o::ir).Nodup/\∀i∈ir,i∈is)->∃m0,m0<(l.length)-j/\∃j:Nat,m0=(l.length)-j/\j<=(l.length)/\e 5=.int .i64 (j:Int)/\e 1=.int .i64 (k+e6 gh l j)/\(oV σ (o::is) gg nx/\∃pre rest ir,gg o=some ⟨true,2,pre++rest⟩/\pre.length=j/\cW lK gg rest (l.drop j) ir/\(o::ir).Nodup/\∀i∈ir,i∈is):=fun x1 x2 x3=>⟨_,ad,j+1,rfl,ad,(by rw[x1,aA ad]),x2,x3⟩
  have ib:j<l.length:=ad
  have DU:=lF gh ib
  have hle:=jh gh l (j+1)
  obtain⟨t,htj⟩:∃t,l[j]=t:=⟨_,rfl⟩
  rw[List.drop_eq_getElem_cons ib,htj]at aR
  rw[htj]at DU
  cases aR with
  | @cons cs _ ic rs _ i2 hT Om=>
  obtain⟨i,rfl,hi,rfl⟩:=hT
  rw[List.singleton_append]at aN aS
  obtain⟨n1,n2⟩:=List.nodup_cons.1 aN
  obtain⟨n3,n4⟩:=List.nodup_cons.1 n2
  have O0:(o=i)=False:=eq_false fun e=>n1 (by simp[e])
  have ON:(i=o)=False:=eq_false fun e=>n1 (by simp[e])
  have hiv:i.bR<σ.next:=hv i (by simp[aS i (by simp)])
  have OR:gh t=1+t.bB.length:=rfl
  have ht:=sS (k+(e6 gh l j:Nat)) ad ad
  have pq:IntKind.i64.wrap (k+(e6 gh l j:Nat)+1)=k+(e6 gh l j:Nat)+1:=bP ad
  generalize mL (k+(e6 gh l j:Nat))=mt at ht
  have ev:(pre++[.str t.aD,.own i 0 t.bB.length]::rs)[j]? =some [.str t.aD,.own i 0 t.bB.length]:=by subst apl;simp
  have eX:(pre++[.str t.aD,.own i 0 t.bB.length]::rs).set j [.str mt,.own i 0 t.bB.length]=pre++[.str mt,.own i 0 t.bB.length]::rs:=by subst apl;simp
  have Kn:(pre++[.str mt,.own i 0 t.bB.length]::rs)[j]? =some [.str mt,.own i 0 t.bB.length]:=by subst apl;simp
  (repeat(first|((repeat(revert hN;revert N;apply Pn.out));refine wk (tw @a5 (tw @a1 (tw @a0 (tw @hj (tw @ag (tw @ev (tw @eX (tw @Kn (tw @pq (tw @O0 (tw @ON @hi))))))))))) ?_;(repeat(refine Pn.mk ?_;intro N hN)))|((try apply Or.inl);refine⟨_,ak.x (ht) (sd (tw @a5 (tw @a1 (tw @a0 (tw @hj (tw @ag (tw @ev (tw @eX (tw @Kn (tw @pq (tw @O0 (tw @ON @hi)))))))))))),?_⟩;refine hN _ _ ?_;clear hN N)))
  refine .inr (bd _ _ _ _ _ (fun r σ1 hq=>?_) (Bm i t.bB (k+(e6 gh l j:Nat)+1) ad ad _ cE (sd (tw @O0 (tw @ON @hi)))))
  obtain⟨g1,x1⟩:=σ1
  obtain⟨rfl,H7,oK⟩:=hq
  (try dsimp only at H7 oK)
  refine hN _ _ ?_
  clear hN N
  have Kv:k+(e6 gh l j:Nat)+1+t.bB.length=k+(e6 gh l (j+1):Nat):=ad
  (try((repeat(revert hN;revert N;apply Pn.out));refine wk (tw @a5 (tw @a1 (tw @a0 @Kv))) ?_;(repeat(refine Pn.mk ?_;intro N hN))))
  have gk:∀x:Id,x.bR<σ.next->x≠o->x≠i->g1 x=st_a.get x:=fun x hx h3 h4=>by
   have h2:=oK x cE (by simp[h4])
   have h5:=eq_false h3
   simp only[go_sem, ↓reduceIte,Nat.reduceEqDiff,Nat.reduceAdd,Nat.reduceSub,Nat.reduceLeDiff,reduceCtorEq,h5]at h2
   exact h2
  have go:=oK o cE (by simp only[List.mem_singleton];exact fun e=>n1 (by simp[e]))
  simp only[go_sem, ↓reduceIte,Nat.reduceEqDiff,Nat.reduceAdd,Nat.reduceSub,Nat.reduceLeDiff,reduceCtorEq]at go
  refine bK ?_ ?_ (by(try dsimp only);exact⟨⟨cE,fun x hx hi=>by
   have h3:x≠o:=fun e=>hi (by simp[e])
   have h4:x≠i:=fun e=>hi (by simp[e,aS i (by simp)])
   rw[gk x hx h3 h4]
   exact aF x hx hi⟩,pre++[[.str mt,.own i 0 t.bB.length]],rs,i2,by rw[go];simp,by simp[apl],Om.frame tu (fun x hx=>gk x (hv x (by simp[aS x (by simp[hx])])) (fun e=>n1 (by simp[<-e,hx])) (fun e=>n3 (by rw[<-e];exact hx))),List.nodup_cons.2 ⟨fun h=>n1 (by simp[h]),n4⟩,fun x hx=>aS x (by simp[hx])⟩)
  all_goals simp only[go_sem, ↓reduceIte,Nat.reduceEqDiff,Nat.reduceAdd,Nat.reduceSub,Nat.reduceLeDiff,reduceCtorEq,a5,a1,a0,Kv]
 ·have ib:j=l.length:=ad
  subst ib
  have dy:=pT gh l
  rw[dy]at a1
  (try((repeat(revert hN;revert N;apply Pn.out));refine wk (tw @a5 (tw @a1 (tw @a0 @hj))) ?_;(repeat(refine Pn.mk ?_;intro N hN))))
  exact gI (.inl rfl) (vs:=[.int .i64 (k+(l.map gh).sum)]) (sd (tw @a5 (tw @a1 @a0))) ⟨rfl,⟨cE,fun x hx hi=>aF x hx hi⟩⟩
theorem Ek (v:AV) (p:dV) (ids:List Id) (k:Int) (h0:0<=k) (h1:k+3*p.aj.length<=4611686018427387904) (σ:ar) (hv:∀i∈ids,i.bR<σ.next) (hg:vm σ.get v p ids):
  Call Tryz.prog 20 [v,.int .i64 k] σ (fun r σ'=>r=.int .i64 (k+3*p.aj.length)/\oV σ ids σ'.get σ'.next):=by
 obtain⟨c,rfl,hc⟩:=hg
 obtain⟨o,rfl,ho,rfl⟩:=hc.flat
 refine gj eL rfl fun hl=>?_
 clear hl
 have uL:=dW (hv o (by simp))
 have IS:=hv o (by simp)
 (try((repeat(revert hN;revert N;apply Pn.out));refine wk @Nat.zero_add ?_;(repeat(refine Pn.mk ?_;intro N hN))))
 refine .inr (bd _ _ _ _ _ (fun r σ1 hq=>?_) (wJ o p.aj k h0 h1 _ cE (sd (tw @uL @ho))))
 obtain⟨g1,x1⟩:=σ1
 obtain⟨rfl,⟨H7,oK⟩,_⟩:=hq
 (try dsimp only at H7 oK)
 refine hN _ _ ?_
 clear hN N
 (try((repeat(revert hN;revert N;apply Pn.out));refine wk @Nat.zero_add ?_;(repeat(refine Pn.mk ?_;intro N hN))))
 exact gI (.inl rfl) (vs:=[.int .i64 (k+3*p.aj.length)]) (sd @Nat.zero_add) ⟨rfl,⟨cE,fun x hx hi=>by
  have h2:=oK x cE hi
  have h3:=dW hx
  simp only[go_sem, ↓reduceIte,Nat.reduceEqDiff,Nat.reduceAdd,Nat.reduceSub,Nat.reduceLeDiff,reduceCtorEq,h3]at h2
  exact h2⟩⟩
theorem En (a b:AV) (p:ao) (i1 i2:List Id) (k:Int) (h0:0<=k) (Nx:p.aj.length<=1048576) (h1:k+2*p.ay.length+(p.aj.map gh).sum<=4611686018427387904) (σ:ar) (hv:∀i∈i1++i2,i.bR<σ.next) (kD:(i1++i2).Nodup)
  (hA:fI (jO bS) 2 σ.get a p.ay i1) (hB:fI lK 2 σ.get b p.aj i2):
  Call Tryz.prog 19 [.agg [a,b],.int .i64 k] σ (fun r σ'=>r=.int .i64 (k+2*p.ay.length+(p.aj.map gh).sum)/\oV σ (i1++i2) σ'.get σ'.next):=by
 obtain⟨_,n2,n3⟩:=List.nodup_append.1 kD
 obtain⟨o,rfl,ho,rfl⟩:=hA.flat
 obtain⟨ob,rfl⟩:=hB.wz
 refine gj eL rfl fun hl=>?_
 clear hl
 have IS:=hv o (by simp)
 have uL:=dW IS
 (try((repeat(revert hN;revert N;apply Pn.out));refine wk @Nat.zero_add ?_;(repeat(refine Pn.mk ?_;intro N hN))))
 refine .inr (bd _ _ _ _ _ (fun r σ1 hq=>?_) (y7 o p.ay k h0 ad _ cE (sd (tw @uL @ho))))
 obtain⟨g1,x1⟩:=σ1
 obtain⟨rfl,H7,oK⟩:=hq
 (try dsimp only at H7 oK)
 refine hN _ _ ?_
 clear hN N
 have k1:=oK ⟨19000000,σ.next⟩ cE (by simp only[List.mem_singleton];intro e;rw[<-e]at IS;(try dsimp only at IS);omega)
 simp only[go_sem, ↓reduceIte,Nat.reduceEqDiff,Nat.reduceAdd,Nat.reduceSub,Nat.reduceLeDiff,reduceCtorEq]at k1
 (try((repeat(revert hN;revert N;apply Pn.out));refine wk @k1 ?_;(repeat(refine Pn.mk ?_;intro N hN))))
 have hf:∀x:Id,x.bR<σ.next->x≠o->g1 x=σ.get x:=fun x hx ho=>by
  have h2:=oK x cE (by simp[ho])
  have h3:=dW hx
  simp only[go_sem, ↓reduceIte,Nat.reduceEqDiff,Nat.reduceAdd,Nat.reduceSub,Nat.reduceLeDiff,reduceCtorEq,h3]at h2
  exact h2
 refine .inr (bd _ _ _ _ _ (fun r σ2 hq=>?_) (y8 _ p.aj i2 (k+2*p.ay.length) ad Nx h1 _ (fun i hi=>by have:=hv i (by simp[hi]);(try dsimp only);omega) n2 (hB.frame tu fun i hi=>hf i (hv i (by simp[hi])) fun e=>n3 o (by simp) i hi e.symm)))
 obtain⟨g2,x2⟩:=σ2
 obtain⟨rfl,Gv,tK⟩:=hq
 (try dsimp only at Gv tK)
 refine hN _ _ ?_
 clear hN N
 (try((repeat(revert hN;revert N;apply Pn.out));refine wk @Nat.zero_add ?_;(repeat(refine Pn.mk ?_;intro N hN))))
 exact gI (.inl rfl) (vs:=[.int .i64 (k+2*p.ay.length+(p.aj.map gh).sum)]) (sd @Nat.zero_add) ⟨rfl,⟨cE,fun x hx hi=>(tK x cE fun h=>hi (by simp[h])).trans (hf x hx fun e=>hi (by simp[e]))⟩⟩
end Go.Proofs.YtphenfakmdknlaaGreat.V

namespace Go.Proofs.YtphenfakmdknlaaGreat.V
open Go.RowKit
def AV.clean:AV->Bool
 | .int .. | .bool _| .str _| .cK| .iR| .iH| .iQ| .own .. | .ptr .. | .map .. | .qj _=>true
 | .sl l=>l.isEmpty
 |_=>false
def AV.qk:AV->Bool
 | .agg cs=>cs.all AV.clean
 | .im cs=>cs.all fun a=>match a with
  | .agg cs=>cs.all AV.clean
  |a=>a.clean
 |a=>a.clean
def ve (ids:List Id) (g g':Rows):Rows:=fun id=>if id∈ids then g' id else g id
theorem tt {ids:List Id} {g g':Rows} {id:Id} (h:id∈ids):ve ids g g' id=g' id:=if_pos h
theorem qG {ids:List Id} {g g':Rows} {id:Id} (h:id∉ids):ve ids g g' id=g id:=if_neg h
section
variable {P:Program} {w w':World} {D D' D1 D2:Nat->Prop} {ι ι1 ι2:Names}
theorem jb {a:AV} {v:Value} (hp:a.clean=true) (h:cQ P w D1 ι1 a v):cQ P w D2 ι1 a v:=by
 cases h with
 |ez a v h=>
  cases h with
  |int=>exact .ez _ _ (.int _ _)
  |bool=>exact .ez _ _ (.bool _)
  |str=>exact .ez _ _ (.str _)
  |cK=>exact .ez _ _ .cK
  |iR=>exact .ez _ _ .iR
  |iH=>exact .ez _ _ .iH
  |iQ=>exact .ez _ _ .iQ
  |zP a c h=>exact .ez _ _ (.zP a c h)
  |sl rows b o n c sz vs h1 h2 h3=>
   have:rows=[]:=by simpa[AV.clean]using hp
   subst this
   simp only[List.length_nil]at h1
   subst h1
   exact .ez _ _ (.zP _ _ h3)
  |dI=>simp[AV.clean]at hp
  |agg=>simp[AV.clean]at hp
  |fn=>simp[AV.clean]at hp
 |own id off len o cap B h1 h2 h3 h4 h5 h6=>exact .own id off len o cap B h1 h2 h3 h4 h5 h6
 |map id m B h1 h2=>exact .map id m B h1 h2
 |qj id c B h1 h2=>exact .qj id c B h1 h2
 |ptr id i off B h1 h2=>exact .ptr id i off B h1 h2
 |agg=>simp[AV.clean]at hp
 |im=>simp[AV.clean]at hp
 |fn=>simp[AV.clean]at hp
 |tN=>simp[AV.clean]at hp
theorem kO {cs:List AV} {v:Value} (hc:cs.all AV.clean=true) (h:cQ P w D1 ι1 (.agg cs) v):cQ P w D2 ι1 (.agg cs) v:=by
 obtain⟨vs,f,rfl,h1,h2,h3,h4⟩:=gV h
 rw[List.all_eq_true]at hc
 exact .agg cs vs f h1 h2 h3 fun j a ha=>jb (hc a (List.mem_of_getElem? ha)) (h4 j a ha)
theorem BA {a:AV} {v:Value} (hp:a.qk=true) (h:cQ P w D1 ι1 a v):cQ P w D2 ι1 a v:=by
 cases a with
 |agg cs=>exact kO hp h
 |im cs=>
  obtain⟨vs,f,rfl,h1,h3,h4⟩:=rV h
  simp only[AV.qk,List.all_eq_true]at hp
  refine .im cs vs f h1 h3 fun j a ha=>?_
  have:=hp a (List.mem_of_getElem? ha)
  split at this
  ·exact kO this (h4 j _ ha)
  ·exact jb this (h4 j _ ha)
 |_=>exact jb hp h
theorem By {ag:Bool} {n:Nat} {cs:List AV} {x:AV} {v:Value} (hc:∀a∈cs,a.clean=true) (hp:part ag n cs=some x) (hr:cQ P w D1 ι1 x v):cQ P w D2 ι1 x v:=by
 unfold part at hp
 split at hp
 ·split at hp
  ·simp only[Option.some.injEq]at hp;subst hp
   exact kO (List.all_eq_true.2 fun a ha=>hc a (List.mem_of_mem_take ha)) hr
  ·cases hp
 ·exact jb (hc x (List.mem_of_mem_head? hp)) hr
theorem gL.clean {B:qM} {r:Row} (R:gL P w D1 ι1 B r) (h:∀cs∈r.rows,∀a∈cs,a.clean=true):gL P w D2 ι1 B r:=
 ⟨R.sz,R.flat,fun hk=>⟨R.sz,(R.row hk).vH,(R.row hk).fits,(R.row hk).len,R.flat,fun i j cs a hi hj=>by
  obtain⟨v,q1,q2⟩:=(R.row hk).at_ i j cs a hi hj
  exact⟨v,q1,jb (h cs (List.mem_of_getElem? hi) a (List.mem_of_getElem? hj)) q2⟩⟩,fun m hm=>by
  obtain⟨h1,es,c,h2,h3,h5,h4⟩:=R.map m hm
  refine⟨h1,es,c,h2,h3,h5,fun i cs hi=>?_⟩
  obtain⟨e,kv,vv,q1,q2,q3,q4,q5⟩:=h4 i cs hi
  have hc:=h cs (List.mem_of_getElem? hi)
  exact⟨e,kv,vv,q1,q2,q3,By hc q2 q4,jb (hc vv (List.mem_of_getElem? q3)) q5⟩,fun c hc=>by
  obtain⟨h1,buf,s,q,h2,h3,h4⟩:=R.chan c hc
  refine⟨h1,buf,s,q,h2,h3,fun i cs hi=>?_⟩
  obtain⟨a,u,rfl,q2,q3⟩:=h4 i cs hi
  exact⟨a,u,rfl,q2,jb (h [a] (List.mem_of_getElem? hi) a (by simp)) q3⟩⟩
def Handed (ids:List Id) (g:Rows):Prop:=∀id∈ids,∃r,g id=some r/\r.w=true/\∀cs∈r.rows,∀a∈cs,a.clean=true
theorem E7 {f:Nat} {args eA:List AV} {g:Rows} {n:Nat} {K:AV->ar->Prop} (hv:cR (dG g) 6 args=some eA)
  (h:Sound P f eA ⟨fun _=>none,n⟩ fun r σ'=>∃ids,r.qk=true/\Handed ids σ'.get/\K r ⟨ve ids g σ'.get,σ'.next⟩):Sound P f args ⟨g,n⟩ K:=by
 intro hs D ι w vs S U A
 let E:Nat->Prop:=fun b=>D b∨∃id r B,g id=some r/\ι id=some B/\b=B.b
 have lt:∀id r B,g id=some r->ι id=some B->B.b<w.heap.size:=fun id r B h1 h2=>by
  obtain⟨B',dH,R,_⟩:=S.row id r h1
  rw[h2]at dH;injection dH with dH;subst dH
  exact R.lt
 have S0:fN P w.heap.size E ι (fun _=>none) w:=⟨Nat.le_refl _,fun b hb=>by
  rcases hb with hb|⟨id,r,B,h1,h2,rfl⟩
  ·exact S.dead b hb
  ·exact lt id r B h1 h2,fun id r h=>(by cases h),fun id jW r r' B B' h=>(by cases h)⟩
 obtain⟨l1,l2⟩:=fJ hv
 have A':eP P w E ι eA vs:=⟨by rw[A.1,l1],fun j a hj=>by
  obtain⟨a0,kg,hz⟩:=l2 j a hj
  obtain⟨u,hu,hr⟩:=A.2 j a0 kg
  refine⟨u,hu,(pb (D2:=E) (ι2:=ι) (fun b h=>.inl h) (fun id row hg hw=>?_) 6 a0 u a hr hz).1⟩
  unfold dG at hg
  simp only[Option.map_eq_some_iff]at hg
  obtain⟨r,lS,rfl⟩:=hg
  obtain⟨B,hB,R,_,_⟩:=S.row id r lS
  exact⟨B,hB,R.flag true,.inr ⟨id,r,B,lS,hB,rfl⟩⟩⟩
 refine(h w.heap.size E ι w vs S0 U A').mono ?_
 rintro e w' ⟨r0,g',n',D2,ι1,u,rfl,⟨ids,kY,hid,hK⟩,T,S1,U1,hn,hR⟩
 have hb:∀b,b<w.heap.size->w'.heap[b]? =w.heap[b]? :=T.below.block
 have hz:=T.below.size
 have frame:∀{a v},cQ P w D ι a v->cQ P w' D ι1 a v:=fun h=>h.frame (fun b hd=>hb b (S.dead b hd)) (fun _ h=>h) T.names
 refine⟨r0,_,n',D,ι1,u,rfl,hK,⟨T.below.mono S.lo,fun b hd=>hb b (S.dead b hd),fun _ h=>h,T.names,fun _ h=>.inl h⟩,⟨Nat.le_trans S.lo hz,fun b hd=>Nat.lt_of_lt_of_le (S.dead b hd) hz,fun id r hr=>?_,fun Po id2 r1 r2 B1 B2 h1 h2 hw xk nQ Kj=>?_⟩,U1,hn,BA kY hR⟩
 ·by_cases hi:id∈ids
  ·rw[tt hi]at hr
   obtain⟨r',lS,hw,hcr⟩:=hid id hi
   rw[hr]at lS;injection lS with lS;subst lS
   obtain⟨B,hB,R,k1,k2⟩:=S1.row id r hr
   have jH:=k1 hw
   exact⟨B,hB,R.clean hcr,fun _=>Nat.le_trans S.lo jH,fun _ hd=>Nat.lt_irrefl _ (Nat.lt_of_lt_of_le (S.dead _ hd) jH)⟩
  ·rw[qG hi]at hr
   obtain⟨B,hB,R,k1,k2⟩:=S.row id r hr
   have hBl:=lt id r B hr hB
   exact⟨B,T.names _ _ hB,R.frame (hb _ hBl) fun a v h=>frame h,k1,k2⟩
 ·have new:∀{id r B},id∈ids->ve ids g g' id=some r->ι1 id=some B->w.heap.size<=B.b/\g' id=some r/\r.w=true:=fun {id r B} hi hr hB=>by
   rw[tt hi]at hr
   obtain⟨r',lS,hw,_⟩:=hid id hi
   replace lS:g' id=some r':=lS
   rw[hr]at lS;injection lS with lS;subst lS
   obtain⟨B',dH,_,k1,_⟩:=S1.row id r hr
   rw[hB]at dH;injection dH with dH;subst dH
   exact⟨k1 hw,hr,hw⟩
  have zg:∀{id r B},id∉ids->ve ids g g' id=some r->ι1 id=some B->B.b<w.heap.size/\g id=some r/\ι id=some B:=fun {id r B} hi hr hB=>by
   rw[qG hi]at hr
   obtain⟨B',dH,_⟩:=S.row id r hr
   have:=T.names _ _ dH
   rw[hB]at this;injection this with this;subst this
   exact⟨lt id r _ hr dH,hr,dH⟩
  by_cases i1:Po∈ids
  ·obtain⟨a1,a2,a3⟩:=new i1 h1 xk
   by_cases i2:id2∈ids
   ·obtain⟨b1,b2,b3⟩:=new i2 h2 nQ
    exact S1.inj Po id2 r1 r2 B1 B2 a2 b2 hw xk nQ Kj
   ·obtain⟨b1,_⟩:=zg i2 h2 nQ
    omega
  ·obtain⟨a1,a2,a3⟩:=zg i1 h1 xk
   by_cases i2:id2∈ids
   ·obtain⟨b1,_⟩:=new i2 h2 nQ
    omega
   ·obtain⟨b1,b2,b3⟩:=zg i2 h2 nQ
    exact S.inj Po id2 r1 r2 B1 B2 a2 b2 hw a3 b3 Kj
theorem Fq (hm:P.follows .mixedOrders=true) {f:Nat} {args eA:List AV} {σ:ar} {K:AV->ar->Prop} (hv:cR (dG σ.get) 6 args=some eA)
  (h:Call P f eA ⟨fun _=>none,σ.next⟩ fun r σ'=>∃ids,r.qk=true/\Handed ids σ'.get/\K r ⟨ve ids σ.get σ'.get,σ'.next⟩):Call P f args σ K:=
 gr (E7 hv (gw hm h))
end
inductive nL:List AV->List AV->Prop
 |nil:nL [] []
 |same (a) {l l'}:nL l l'->nL (a::l) (a::l')
 |ptr (cs rest) {l l'}:nL l l'->nL (.dI (cs++rest)::l) (.dI cs::l')
 |cK {l l'}:nL l l'->nL (.cK::l) (.sl []::l')
theorem JJ {P:Program} {w:World} {D:Nat->Prop} {ι:Names} {cs rest:List AV} {v:Value} (h:cQ P w D ι (.dI (cs++rest)) v):cQ P w D ι (.dI cs) v:=by
 obtain⟨b,o,vs,rfl,h1,h2,h3,h4⟩:=j8 h
 exact .ez _ _ (.dI cs b o vs h1 (fun a ha=>h2 a (List.mem_append_left _ ha)) (fun j hj=>h3 j (by rw[List.length_append];omega)) fun j a ha=>h4 j a (by
  have:=(List.getElem?_eq_some_iff.1 ha).1
  rw[List.getElem?_append_left this];exact ha))
theorem JM {P:Program} {w:World} {D:Nat->Prop} {ι:Names} {v:Value} (h:cQ P w D ι .cK v):cQ P w D ι (.sl []) v:=by
 cases h with
 |ez _ _ h=>
  cases h with
  |cK=>exact .ez _ _ (.zP none 0 (Nat.zero_le _))
theorem nL.len {l l':List AV} (h:nL l l'):l'.length=l.length:=by induction h<;>simp_all
theorem nL.get {P:Program} {w:World} {D:Nat->Prop} {ι:Names} {l l':List AV} (h:nL l l'):∀{j:Nat} {a':AV},l'[j]? =some a'->∃a,l[j]? =some a/\∀v,cQ P w D ι a v->cQ P w D ι a' v:=by
 induction h with
 |nil=>intro j a' hj;simp at hj
 |same a _ ih=>
  intro j a' hj
  cases j with
  |zero=>simp at hj;subst hj;exact⟨a,rfl,fun _ h=>h⟩
  |succ j=>exact ih (by simpa using hj)
 |ptr cs rest _ ih=>
  intro j a' hj
  cases j with
  |zero=>simp at hj;subst hj;exact⟨_,rfl,fun _ h=>JJ h⟩
  |succ j=>exact ih (by simpa using hj)
 |cK _ ih=>
  intro j a' hj
  cases j with
  |zero=>simp at hj;subst hj;exact⟨_,rfl,fun _ h=>JM h⟩
  |succ j=>exact ih (by simpa using hj)
theorem Call.cut {P:Program} (hm:P.follows .mixedOrders=true) {f:Nat} {args eA:List AV} {σ:ar} {K:AV->ar->Prop} (hc:nL args eA) (h:Call P f eA σ K):Call P f args σ K:=
 gr fun hs D ι w vs S U A=>gw hm h hs D ι w vs S U ⟨by rw[A.1,hc.len],fun j a' hj=>by
  obtain⟨a,ha,hr⟩:=hc.get (P:=P) (w:=w) (D:=D) (ι:=ι) hj
  obtain⟨u,hu,hv⟩:=A.2 j a ha
  exact⟨u,hu,hr u hv⟩⟩
theorem ak.cut {P:Program} (hm:P.follows .mixedOrders=true) {f:Nat} {args eA:List AV} {r:AV} (hc:nL args eA) (h:ak P f eA r):ak P f args r:=fun n=>(h n).cut hm hc
end Go.Proofs.YtphenfakmdknlaaGreat.V

namespace Go.Proofs.YtphenfakmdknlaaGreat.V
open Go.RowKit
attribute [local irreducible] dJ wpOps e8 Call
attribute [local go_sem] ax eB dY eJ eI cJ upd bD K.av bW AV.cells AV.cell rowOf rowsOf part ld rowAt bC bx cU de fj bf cC dv eO er cL dm cw cu cZ da bl aI bZ bj ck cj di dn dj bY bo cz dh bh au cq bJ fh aT bV bm aH cS aQ cV AV.undef aV bc db dd cY dc bQ du dw bG dq dp cm cr List.getD_cons_zero List.getD_cons_succ List.getD_nil List.all_cons List.all_nil Bool.and_true Bool.true_and Bool.and_self Bool.not_true Bool.not_false Option.map_some Option.map_none Option.bind_some Option.bind_none List.length_cons List.length_nil List.take_succ_cons List.take_zero List.take_nil List.drop_succ_cons List.drop_zero List.drop_nil List.head?_cons List.map_cons List.map_nil List.getElem?_cons_zero List.getElem?_cons_succ List.cons_append List.nil_append List.append_nil List.length_map List.set_cons_zero List.set_cons_succ eq_self Int.toNat_natCast Int.natCast_nonneg and_self true_and and_true decide_true decide_false Bool.false_eq_true Nat.zero_add Nat.add_zero List.contains_cons List.contains_nil Bool.or_false Bool.false_or beq_self_eq_true ne_eq not_true_eq_false not_false_eq_true Id.mk.injEq false_and and_false Nat.le_refl List.length_append beq_true beq_false Bool.not_eq_eq_eq_not or_false false_or dG ab ae az aU bu aC aP aE aJ cD aX
section
variable {P:Program} {α:Type} {e:α->List AV} {z:Nat} {g g':Rows} {v:AV} {L:List α} {ids:List Id}
def QI (e:α->List AV) (z:Nat) (g:Rows) (v:AV) (L:List α) (ids:List Id):Prop:=(L=[]/\v=.cK/\ids=[])∨∃o,v=.own o 0 L.length/\g o=some ⟨true,z,L.map e⟩/\ids=[o]/\0<L.length
def Mv (e:α->List AV) (L:List α):AV:=if L.length=0 then .cK else .sl (L.map e)
def mc (e:α->List AV) (L:List α) (w:AV):Prop:=(w=.cK/\L=[])∨w=.sl (L.map e)
def QH (P:Program) (f:Nat) (args:List AV) (e:α->List AV) (z:Nat) (L:List α) (c:Int):Prop:=
 ∀n:Nat,Call P f args ⟨fun _=>none,n⟩ (fun r σ'=>∃v ids,r=.im [v,.int .i64 c]/\QI e z σ'.get v L ids/\eW n σ'.next ids)
theorem C9 (hm:P.follows .mixedOrders=true) {f:Nat} {args:List AV} {σ:ar} {K:AV->ar->Prop} (h:Call P f args σ K):Call P f args σ (fun r σ'=>K r σ'/\σ.next<=σ'.next):=
 gr fun hs D ι w vs S U A=>(gw hm h hs D ι w vs S U A).mono (by
  rintro e w' ⟨r,g',n',D2,ι1,u,rfl,hK,T,S1,U1,hn,hR⟩
  exact⟨r,g',n',D2,ι1,u,rfl,⟨hK,hn⟩,T,S1,U1,hn,hR⟩)
theorem G5:mc e L (Mv e L):=by
 unfold Mv
 split
 ·rename_i h;exact .inl ⟨rfl,List.eq_nil_of_length_eq_zero h⟩
 ·exact .inr rfl
end
theorem mc.cut {α:Type} {e:α->List AV} {L:List α} {w:AV} (h:mc e L w) {l l':List AV} (hl:nL l l'):nL (w::l) (.sl (L.map e)::l'):=by
 rcases h with⟨rfl,rfl⟩|rfl
 ·exact .cK hl
 ·exact .same _ hl
end Go.Proofs.YtphenfakmdknlaaGreat.V

namespace Go.Proofs.YtphenfakmdknlaaGreat.V
open Go.RowKit
attribute [local irreducible] dJ wpOps e8 Call
attribute [local go_sem] ax eB dY eJ eI cJ upd bD K.av bW AV.cells AV.cell rowOf rowsOf part ld rowAt bC bx cU de fj bf cC dv eO er cL dm cw cu cZ da bl aI bZ bj ck cj di dn dj bY bo cz dh bh au cq bJ fh aT bV bm aH cS aQ cV AV.undef aV bc db dd cY dc bQ du dw bG dq dp cm cr List.getD_cons_zero List.getD_cons_succ List.getD_nil List.all_cons List.all_nil Bool.and_true Bool.true_and Bool.and_self Bool.not_true Bool.not_false Option.map_some Option.map_none Option.bind_some Option.bind_none List.length_cons List.length_nil List.take_succ_cons List.take_zero List.take_nil List.drop_succ_cons List.drop_zero List.drop_nil List.head?_cons List.map_cons List.map_nil List.getElem?_cons_zero List.getElem?_cons_succ List.cons_append List.nil_append List.append_nil List.length_map List.set_cons_zero List.set_cons_succ Nat.reduceMul eq_self Int.toNat_natCast Int.natCast_nonneg and_self true_and and_true decide_true decide_false Bool.false_eq_true Nat.zero_add Nat.add_zero List.contains_cons List.contains_nil Bool.or_false Bool.false_or beq_self_eq_true Nat.reduceBEq ne_eq not_true_eq_false not_false_eq_true Id.mk.injEq false_and and_false Nat.reduceLT Int.reduceLE Int.reduceLT Int.reduceToNat Int.reduceNeg Int.reduceAdd Nat.le_refl List.length_append beq_true beq_false Bool.not_eq_eq_eq_not or_false false_or dG ab ae az aU bu aC aP aE aJ cD aX
end Go.Proofs.YtphenfakmdknlaaGreat.V

namespace Go.Proofs.YtphenfakmdknlaaGreat.V
open Go.RowKit
variable {P:Program}
theorem Mm (hm:P.follows .mixedOrders=true) {f:Nat} {args:List AV} {vs:Array Value} {w:World} (h:ak P f args (.bool true)) (hA:eP P w (fun b=>b<w.heap.size) (fun _=>none) args vs):
  Calls P f vs w fun e w'=>e=.returned (.bool true)/\Below w.heap.size w w':=by
 have hs:=gw hm (h 0) w.heap.size (fun b=>b<w.heap.size) (fun _=>none) w vs ⟨Nat.le_refl _,fun _ h=>h,fun id r h=>(by cases h),fun id jW r r' B B' h=>(by cases h)⟩ (fun id h=>absurd rfl h) hA
 refine hs.mono ?_
 rintro e w' ⟨r,g',n',D',ι',u,rfl,⟨r',hz,rfl⟩,ee,hsim,_,_,km⟩
 have hr:r=.bool true:=by
  cases r<;>rw[fu]at hz<;>simp_all
  all_goals (repeat' (split at hz))<;>simp_all
 subst hr
 exact⟨by rw[eG km],ee.below⟩
theorem j7 {xs:List AV} {w:World} {D:Nat->Prop} {ι:Names} {a:AV} {v:Value} {vs:Array Value} (h:jk P w D a v) (k:eP P w D ι xs vs):eP P w D ι (a::xs) (#[v]++vs):=
 mT (xs:=[a]) ⟨rfl,fun j b hj=>by
  cases j with
  |zero=>simp at hj;subst hj;exact⟨v,rfl,.ez _ _ h⟩
  |succ j=>simp at hj⟩ k
end Go.Proofs.YtphenfakmdknlaaGreat.V

namespace Go.Proofs.YtphenfakmdknlaaGreat.V
open Go.RowKit
attribute [local irreducible] dJ wpOps e8 Call
attribute [local go_sem] ax eB dY eJ eI cJ upd bD K.av bW AV.cells AV.cell rowOf rowsOf part ld rowAt bC bx cU de fj bf cC dv eO er cL dm cw cu cZ da bl aI bZ bj ck cj di dn dj bY bo cz dh bh au cq bJ fh aT bV bm aH cS aQ cV AV.undef aV bc db dd cY dc bQ du dw bG dq dp cm cr List.getD_cons_zero List.getD_cons_succ List.getD_nil List.all_cons List.all_nil Bool.and_true Bool.true_and Bool.and_self Bool.not_true Bool.not_false Option.map_some Option.map_none Option.bind_some Option.bind_none List.length_cons List.length_nil List.take_succ_cons List.take_zero List.take_nil List.drop_succ_cons List.drop_zero List.drop_nil List.head?_cons List.map_cons List.map_nil List.getElem?_cons_zero List.getElem?_cons_succ List.cons_append List.nil_append List.append_nil List.length_map List.set_cons_zero List.set_cons_succ Nat.reduceMul eq_self Int.toNat_natCast Int.natCast_nonneg and_self true_and and_true decide_true decide_false Bool.false_eq_true Nat.zero_add Nat.add_zero List.contains_cons List.contains_nil Bool.or_false Bool.false_or beq_self_eq_true Nat.reduceBEq ne_eq not_true_eq_false not_false_eq_true Id.mk.injEq false_and and_false Nat.reduceLT Int.reduceLE Int.reduceLT Int.reduceToNat Int.reduceNeg Int.reduceAdd Nat.le_refl List.length_append beq_true beq_false Bool.not_eq_eq_eq_not or_false false_or dG ab ae az aU bu aC aP aE aJ cD aX
theorem MJ {α:Type} (f:α->Nat) {xs:List α} {x:α} (h:x∈xs):f x<=(xs.map f).sum:=by
 induction xs with
 |nil=>cases h
 |cons y ys ih=>
  simp only[List.map_cons,List.sum_cons]
  rcases List.mem_cons.1 h with rfl|h
  ·omega
  ·have:=ih h;omega
theorem vP (a:dV):ak Tryz.prog 18 [.agg (aY a),.agg (aY a)] (.bool true):=by
 refine ak.body eL rfl fun hl n0=>?_
 clear hl
 have h1:=x9 a.aj a.aj
 rw[decide_eq_true rfl]at h1
 (repeat(first|((repeat(revert hN;revert N;apply Pn.out));refine wk @aY.eq_1 ?_;(repeat(refine Pn.mk ?_;intro N hN)))|((try apply Or.inl);refine⟨_,ak.x (h1) (sd @aY.eq_1),?_⟩;refine hN _ _ ?_;clear hN N)))
 exact bt (b:=true) (.inl rfl) (sd @Nat.zero_add) rfl
end Go.Proofs.YtphenfakmdknlaaGreat.V

namespace Go.Proofs.YtphenfakmdknlaaGreat.V
open Go.RowKit
attribute [local irreducible] dJ wpOps e8 Call
attribute [local go_sem] ax eB dY eJ eI cJ upd bD K.av bW AV.cells AV.cell rowOf rowsOf part ld rowAt bC bx cU de fj bf cC dv eO er cL dm cw cu cZ da bl aI bZ bj ck cj di dn dj bY bo cz dh bh au cq bJ fh aT bV bm aH cS aQ cV AV.undef aV bc db dd cY dc bQ du dw bG dq dp cm cr List.getD_cons_zero List.getD_cons_succ List.getD_nil List.all_cons List.all_nil Bool.and_true Bool.true_and Bool.and_self Bool.not_true Bool.not_false Option.map_some Option.map_none Option.bind_some Option.bind_none List.length_cons List.length_nil List.take_succ_cons List.take_zero List.take_nil List.drop_succ_cons List.drop_zero List.drop_nil List.head?_cons List.map_cons List.map_nil List.getElem?_cons_zero List.getElem?_cons_succ List.cons_append List.nil_append List.append_nil List.length_map List.set_cons_zero List.set_cons_succ eq_self Int.toNat_natCast Int.natCast_nonneg and_self true_and and_true decide_true decide_false Bool.false_eq_true Nat.zero_add Nat.add_zero List.contains_cons List.contains_nil Bool.or_false Bool.false_or beq_self_eq_true ne_eq not_true_eq_false not_false_eq_true Id.mk.injEq false_and and_false Nat.le_refl List.length_append beq_true beq_false Bool.not_eq_eq_eq_not or_false false_or dG ab ae az aU bu aC aP aE aJ cD aX
theorem Il {g:Rows} {v w:AV} {s:dV} {i:List Id} (hX:vm g v s i) (hw:fz (dG g) 6 w=some w):cR (dG g) 6 [v,w]=some [.agg (aY s),w]:=by
 simp only[ab,ae,hX.fz 2,hw,Option.map_some]
theorem Cf (g:Rows) (s:dV):fz g 6 (.agg (aY s))=some (.agg (aY s)):=by simp[aY,aP,ab,ae,bu]
theorem tz {g:Rows} {v w v' w':AV} (h1:fz g 6 v=some v') (h2:fz g 6 w=some w'):cR g 6 [v,w]=some [v',w']:=by
 simp only[ab,ae,h1,h2,Option.map_some]
theorem eW.not {a b:Nat} {ids:List Id} (h:eW a b ids) {x:Id} (hx:x.bR<a∨b<=x.bR):x∉ids:=fun hc=>by
 have:=h.2 x hc;omega
theorem mc.fz {α:Type} {e:α->List AV} {L:List α} {w:AV} (h:mc e L w) (g:Rows):V.fz g 6 w=some w:=by
 rcases h with⟨rfl,rfl⟩|rfl
 ·exact aC _ _
 ·exact bu _ _ _
end Go.Proofs.YtphenfakmdknlaaGreat.V

namespace Go.Proofs.YtphenfakmdknlaaGreat.V
open Go.RowKit
attribute [local irreducible] dJ wpOps e8 Call
attribute [local go_sem] ax eB dY eJ eI cJ upd bD K.av bW AV.cells AV.cell rowOf rowsOf part ld rowAt bC bx cU de fj bf cC dv eO er cL dm cw cu cZ da bl aI bZ bj ck cj di dn dj bY bo cz dh bh au cq bJ fh aT bV bm aH cS aQ cV AV.undef aV bc db dd cY dc bQ du dw bG dq dp cm cr List.getD_cons_zero List.getD_cons_succ List.getD_nil List.all_cons List.all_nil Bool.and_true Bool.true_and Bool.and_self Bool.not_true Bool.not_false Option.map_some Option.map_none Option.bind_some Option.bind_none List.length_cons List.length_nil List.take_succ_cons List.take_zero List.take_nil List.drop_succ_cons List.drop_zero List.drop_nil List.head?_cons List.map_cons List.map_nil List.getElem?_cons_zero List.getElem?_cons_succ List.cons_append List.nil_append List.append_nil List.length_map List.set_cons_zero List.set_cons_succ Nat.reduceMul eq_self Int.toNat_natCast Int.natCast_nonneg and_self true_and and_true decide_true decide_false Bool.false_eq_true Nat.zero_add Nat.add_zero List.contains_cons List.contains_nil Bool.or_false Bool.false_or beq_self_eq_true Nat.reduceBEq ne_eq not_true_eq_false not_false_eq_true Id.mk.injEq false_and and_false Nat.reduceLT Int.reduceLE Int.reduceLT Int.reduceToNat Int.reduceNeg Int.reduceAdd Nat.le_refl List.length_append beq_true beq_false Bool.not_eq_eq_eq_not or_false false_or dG ab ae az aU bu aC aP aE aJ cD aX
end Go.Proofs.YtphenfakmdknlaaGreat.V

namespace Go.Proofs.YtphenfakmdknlaaGreat.V
open Go.RowKit
attribute [local irreducible] dJ wpOps e8 Call
attribute [local go_sem] ax eB dY eJ eI cJ upd bD K.av bW AV.cells AV.cell rowOf rowsOf part ld rowAt bC bx cU de fj bf cC dv eO er cL dm cw cu cZ da bl aI bZ bj ck cj di dn dj bY bo cz dh bh au cq bJ fh aT bV bm aH cS aQ cV AV.undef aV bc db dd cY dc bQ du dw bG dq dp cm cr List.getD_cons_zero List.getD_cons_succ List.getD_nil List.all_cons List.all_nil Bool.and_true Bool.true_and Bool.and_self Bool.not_true Bool.not_false Option.map_some Option.map_none Option.bind_some Option.bind_none List.length_cons List.length_nil List.take_succ_cons List.take_zero List.take_nil List.drop_succ_cons List.drop_zero List.drop_nil List.head?_cons List.map_cons List.map_nil List.getElem?_cons_zero List.getElem?_cons_succ List.cons_append List.nil_append List.append_nil List.length_map List.set_cons_zero List.set_cons_succ eq_self Int.toNat_natCast Int.natCast_nonneg and_self true_and and_true decide_true decide_false Bool.false_eq_true Nat.zero_add Nat.add_zero List.contains_cons List.contains_nil Bool.or_false Bool.false_or beq_self_eq_true ne_eq not_true_eq_false not_false_eq_true Id.mk.injEq false_and and_false Nat.le_refl List.length_append beq_true beq_false Bool.not_eq_eq_eq_not or_false false_or dG ab ae az aU bu aC aP aE aJ cD aX
end Go.Proofs.YtphenfakmdknlaaGreat.V

namespace Go.Proofs.YtphenfakmdknlaaGreat.V
open Go.RowKit
attribute [local irreducible] dJ wpOps e8 Call
attribute [local go_sem] ax eB dY eJ eI cJ upd bD K.av bW AV.cells AV.cell rowOf rowsOf part ld rowAt bC bx cU de fj bf cC dv eO er cL dm cw cu cZ da bl aI bZ bj ck cj di dn dj bY bo cz dh bh au cq bJ fh aT bV bm aH cS aQ cV AV.undef aV bc db dd cY dc bQ du dw bG dq dp cm cr List.getD_cons_zero List.getD_cons_succ List.getD_nil List.all_cons List.all_nil Bool.and_true Bool.true_and Bool.and_self Bool.not_true Bool.not_false Option.map_some Option.map_none Option.bind_some Option.bind_none List.length_cons List.length_nil List.take_succ_cons List.take_zero List.take_nil List.drop_succ_cons List.drop_zero List.drop_nil List.head?_cons List.map_cons List.map_nil List.getElem?_cons_zero List.getElem?_cons_succ List.cons_append List.nil_append List.append_nil List.length_map List.set_cons_zero List.set_cons_succ Nat.reduceMul eq_self Int.toNat_natCast Int.natCast_nonneg and_self true_and and_true decide_true decide_false Bool.false_eq_true Nat.zero_add Nat.add_zero List.contains_cons List.contains_nil Bool.or_false Bool.false_or beq_self_eq_true Nat.reduceBEq ne_eq not_true_eq_false not_false_eq_true Id.mk.injEq false_and and_false Nat.reduceLT Int.reduceLE Int.reduceLT Int.reduceToNat Int.reduceNeg Int.reduceAdd Nat.le_refl List.length_append beq_true beq_false Bool.not_eq_eq_eq_not or_false false_or dG ab ae az aU bu aC aP aE aJ cD aX
theorem C8 {P:Program} {K:AV->Rows->List Id->Prop} (hm:P.follows .mixedOrders=true) {f:Nat} {args eA:List AV} {σ:ar}
  (kY:∀r g ids,K r g ids->r.qk=true/\Handed ids g) (lQ:∀r g g' ids,K r g ids->(∀i∈ids,g' i=g i)->K r g' ids)
  (h:∀n:Nat,Call P f eA ⟨fun _=>none,n⟩ (fun r σ'=>∃ids,K r σ'.get ids/\eW n σ'.next ids)) (hv:cR (dG σ.get) 6 args=some eA):
  Call P f args σ (fun r σ'=>∃ids,K r σ'.get ids/\eW σ.next σ'.next ids/\Kept σ σ'):=by
 refine Fq hm hv (bd _ _ _ _ _ (fun r σ' hq=>?_) (C9 hm (h σ.next)))
 obtain⟨⟨ids,hK,hi⟩,hn⟩:=hq
 obtain⟨c1,c2⟩:=kY _ _ _ hK
 exact⟨ids,c1,c2,ids,lQ _ _ _ _ hK (fun i hi=>tt hi),hi,hn,fun j hj=>qG fun hc=>by have:=(hi.2 j hc).1;omega⟩
theorem Handed.app {i j:List Id} {g:Rows} (h:Handed i g) (k:Handed j g):Handed (i++j) g:=fun x hx=>by
 rcases List.mem_append.1 hx with h1|h1
 ·exact h x h1
 ·exact k x h1
theorem Handed.nil {g:Rows}:Handed [] g:=fun x hx=>by cases hx
section
variable {P:Program} {α:Type} {e:α->List AV} {z:Nat} {g g':Rows} {v:AV} {L:List α} {ids:List Id}
def OutT (e:α->List AV) (z:Nat) (g:Rows) (v:AV) (L:List α) (ids:List Id):Prop:=(L=[]/\v=.cK/\ids=[])∨∃(o:Id) (J:List α),v=.own o 0 L.length/\g o=some ⟨true,z,(L++J).map e⟩/\ids=[o]/\0<L.length
def CU (e:α->List AV) (v:AV) (L:List α):AV:=match v with| .cK=>.cK|_=>.sl (L.map e)
theorem Kg {n:Nat} {o:Id} {J:List α} (h2:g o=some ⟨true,z,(L++J).map e⟩) (he:∀x g,cR g n (e x)=some (e x)):V.fz (dG g) (n+1) (.own o 0 L.length)=some (.sl (L.map e)):=by
 rw[gm]
 have:dG g o=some ⟨true,z,(L++J).map e⟩:=by simp[dG,h2]
 simp only[this,if_true]
 have h4:((L++J).map e).take L.length=L.map e:=by rw[<-List.map_take,List.take_append_of_le_length (Nat.le_refl _),List.take_length]
 rw[if_pos (by simp),List.drop_zero,h4,oH fun x=>he x _];rfl
end
def vM (a:AV):Bool:=match a with| .agg cs=>cs.all AV.clean|a=>a.clean
theorem Ap (cs:List AV):(AV.im cs).qk=cs.all vM:=rfl
theorem Dn {a:AV} (h:a.clean=true):vM a=true:=by
 cases a<;>first|exact h|(simp[AV.clean]at h)
theorem Ao (k:IntKind) (n:Int):vM (.int k n)=true:=rfl
theorem xR (b:Bool):vM (.bool b)=true:=rfl
theorem Od {g:Rows} {u v u' v':AV} (h0:V.fz g 6 u=some u') (h1:V.fz g 6 v=some v'):cR g 6 [u,v]=some [u',v']:=by simp only[ab,ae,h0,h1,Option.map_some]
theorem Oe {g:Rows} {u v w u' v' w':AV} (h0:V.fz g 6 u=some u') (h1:V.fz g 6 v=some v') (h2:V.fz g 6 w=some w'):cR g 6 [u,v,w]=some [u',v',w']:=by simp only[ab,ae,h0,h1,h2,Option.map_some]
theorem QQ (x:ai):(ah x).all AV.clean=true:=rfl
end Go.Proofs.YtphenfakmdknlaaGreat.V

namespace Go.Proofs.YtphenfakmdknlaaGreat.V
open Go.RowKit
attribute [local irreducible] dJ wpOps e8 Call
attribute [local go_sem] ax eB dY eJ eI cJ upd bD K.av bW AV.cells AV.cell rowOf rowsOf part ld rowAt bC bx cU de fj bf cC dv eO er cL dm cw cu cZ da bl aI bZ bj ck cj di dn dj bY bo cz dh bh au cq bJ fh aT bV bm aH cS aQ cV AV.undef aV bc db dd cY dc bQ du dw bG dq dp cm cr List.getD_cons_zero List.getD_cons_succ List.getD_nil List.all_cons List.all_nil Bool.and_true Bool.true_and Bool.and_self Bool.not_true Bool.not_false Option.map_some Option.map_none Option.bind_some Option.bind_none List.length_cons List.length_nil List.take_succ_cons List.take_zero List.take_nil List.drop_succ_cons List.drop_zero List.drop_nil List.head?_cons List.map_cons List.map_nil List.getElem?_cons_zero List.getElem?_cons_succ List.cons_append List.nil_append List.append_nil List.length_map List.set_cons_zero List.set_cons_succ eq_self Int.toNat_natCast Int.natCast_nonneg and_self true_and and_true decide_true decide_false Bool.false_eq_true Nat.zero_add Nat.add_zero List.contains_cons List.contains_nil Bool.or_false Bool.false_or beq_self_eq_true ne_eq not_true_eq_false not_false_eq_true Id.mk.injEq false_and and_false Nat.le_refl List.length_append beq_true beq_false Bool.not_eq_eq_eq_not or_false false_or dG ab ae az aU bu aC aP aE aJ cD aX
section
variable {P:Program} {α:Type} {R:tO α} {e:α->List AV} {z:Nat} {g g':Rows} {v:AV} {L:List α} {ids:List Id}
def kJ (R:tO α) (z:Nat) (g:Rows) (v:AV) (L:List α) (ids:List Id):Prop:=(L=[]/\v=.cK/\ids=[])∨(fI R z g v L ids/\0<L.length)
theorem kJ.frame (ok:nM R z) (h:kJ R z g v L ids) (hf:∀i∈ids,g' i=g i):kJ R z g' v L ids:=by
 rcases h with h|⟨h,hp⟩
 ·exact .inl h
 ·exact .inr ⟨h.frame ok hf,hp⟩
theorem kJ.Ei (h:kJ R z g v L ids):mc e L (CU e v L):=by
 rcases h with⟨rfl,rfl,_⟩|⟨⟨o,rows,is,rfl,_⟩,_⟩
 ·exact .inl ⟨rfl,rfl⟩
 ·exact .inr rfl
theorem kJ.Nn (h:kJ R z g v L ids) {n:Nat} (hz:∀{cs x ids},R g cs x ids->cR (dG g) n cs=some (e x)):V.fz (dG g) (n+1) v=some (CU e v L):=by
 rcases h with⟨rfl,rfl,_⟩|⟨h,_⟩
 ·exact aC _ _
 ·rw[h.fz hz]
  obtain⟨o,rows,is,rfl,_⟩:=h;rfl
theorem kJ.clean (h:kJ R z g v L ids):v.clean=true:=by
 rcases h with⟨_,rfl,_⟩|⟨⟨o,rows,is,rfl,_⟩,_⟩<;>rfl
theorem cW.hand {rows:List (List AV)} (h:cW R g rows L ids) (hc:∀{cs x ids},R g cs x ids->cs.all AV.clean=true/\Handed ids g):(∀cs∈rows,∀a∈cs,a.clean=true)/\Handed ids g:=by
 induction h with
 |nil=>exact⟨fun cs h=>(by cases h),Handed.nil⟩
 |cons h1 _ ih=>
  obtain⟨c1,c2⟩:=hc h1
  refine⟨fun cs dx a ha=>?_,c2.app ih.2⟩
  rcases List.mem_cons.1 dx with rfl|dx
  ·exact List.all_eq_true.1 c1 a ha
  ·exact ih.1 cs dx a ha
theorem kJ.hand (h:kJ R z g v L ids) (hc:∀{cs x ids},R g cs x ids->cs.all AV.clean=true/\Handed ids g):Handed ids g:=by
 rcases h with⟨_,_,rfl⟩|⟨⟨o,rows,is,_,h2,h3,rfl⟩,_⟩
 ·exact Handed.nil
 ·obtain⟨c1,c2⟩:=h3.hand hc
  intro i hi
  rcases List.mem_cons.1 hi with rfl|hi
  ·exact⟨_,h2,rfl,c1⟩
  ·exact c2 i hi
theorem cW.fu {n:Nat} {rows:List (List AV)} (h:cW R g rows L ids) (hz:∀{cs x ids},R g cs x ids->dM g n cs=some (e x)):fx g n rows=some (L.map e):=by
 induction h with
 |nil=>rw[fx];rfl
 |cons h1 _ ih=>rw[fx,hz h1,ih];rfl
theorem kJ.s (h:kJ R z g v L ids) {n:Nat} (hz:∀{cs x ids},R g cs x ids->dM g n cs=some (e x)):fu g (n+1) v=some (Mv e L):=by
 rcases h with⟨rfl,rfl,_⟩|⟨⟨o,rows,is,rfl,h2,h3,_⟩,hp⟩
 ·rw[sF];rfl
 ·rw[rM (sz:=z) (rows:=rows) (rows':=L.map e) h2 (by rw[h3.len];omega) (by
   rw[List.drop_zero,List.take_of_length_le (by rw[h3.len];exact Nat.le_refl _),h3.fu hz]),Mv,if_neg ad]
end
def vO (R:List ai):List AV:=[.sl (R.map ah)]
def r7:tO (List ai):=fun g cs R ids=>∃u,cs=[.own u 0 R.length]/\g u=some ⟨true,3,R.map ah⟩/\ids=[u]
theorem Qx:nM r7 1 where
 frame:=fun⟨i,h1,h2,h3⟩ hf=>⟨i,h1,(hf i (by rw[h3];simp)).trans h2,h3⟩
 len:=fun⟨i,h1,_⟩=>by rw[h1];rfl
 cell:=fun⟨i,h1,_⟩=>by rw[h1];rfl
 live:=fun⟨i,h1,h2,h3⟩ j hj=>by
  rw[h3]at hj
  have:j=i:=by simpa using hj
  subst this
  exact⟨_,h2,rfl,by simp[l6]⟩
 small:=by simp[l6]
theorem PH {g:Rows} {cs:List AV} {x:List ai} {ids:List Id} (n:Nat) (h:r7 g cs x ids):cR (dG g) (n+2) cs=some (vO x):=by
 obtain⟨i,rfl,h2,_⟩:=h
 have h3:V.fz (dG g) (n+2) (.own i 0 x.length)=some (.sl (x.map ah)):=fF (e:=ah) (sz:=3) (by simp[dG,h2]) rfl fun y=>by simp[ah,ab,ae,az]
 simp only[ab,ae,h3,Option.map_some,vO]
theorem NK {g:Rows} {cs:List AV} {x:List ai} {ids:List Id} (n:Nat) (h:r7 g cs x ids):dM g (n+2) cs=some (vO x):=by
 obtain⟨i,rfl,h2,_⟩:=h
 have h3:fu g (n+2) (.own i 0 x.length)=some (.sl (x.map ah)):=fa (e:=ah) h2 rfl fun y=>by simp[ah,cN,dC,fV]
 simp only[cN,dC,h3,Option.map_some,vO]
theorem MD {g:Rows} {cs:List AV} {x:List ai} {ids:List Id} (h:r7 g cs x ids):cs.all AV.clean=true/\Handed ids g:=by
 obtain⟨i,rfl,h2,rfl⟩:=h
 refine⟨rfl,fun j hj=>?_⟩
 rw[List.mem_singleton.1 hj]
 refine⟨_,h2,rfl,fun cs dx a ha=>?_⟩
 obtain⟨y,_,rfl⟩:=List.mem_map.1 dx
 exact List.all_eq_true.1 (QQ y) a ha
def OutRs (g:Rows) (v:AV) (L:List (List ai)) (ids:List Id):Prop:=kJ r7 1 g v L ids
section
variable {g g':Rows} {v:AV} {L:List (List ai)} {ids:List Id}
end
end Go.Proofs.YtphenfakmdknlaaGreat.V

namespace Go.Proofs.YtphenfakmdknlaaGreat.V
open Go.RowKit
attribute [local irreducible] dJ wpOps e8 Call
attribute [local go_sem] ax eB dY eJ eI cJ upd bD K.av bW AV.cells AV.cell rowOf rowsOf part ld rowAt bC bx cU de fj bf cC dv eO er cL dm cw cu cZ da bl aI bZ bj ck cj di dn dj bY bo cz dh bh au cq bJ fh aT bV bm aH cS aQ cV AV.undef aV bc db dd cY dc bQ du dw bG dq dp cm cr List.getD_cons_zero List.getD_cons_succ List.getD_nil List.all_cons List.all_nil Bool.and_true Bool.true_and Bool.and_self Bool.not_true Bool.not_false Option.map_some Option.map_none Option.bind_some Option.bind_none List.length_cons List.length_nil List.take_succ_cons List.take_zero List.take_nil List.drop_succ_cons List.drop_zero List.drop_nil List.head?_cons List.map_cons List.map_nil List.getElem?_cons_zero List.getElem?_cons_succ List.cons_append List.nil_append List.append_nil List.length_map List.set_cons_zero List.set_cons_succ Nat.reduceMul eq_self Int.toNat_natCast Int.natCast_nonneg and_self true_and and_true decide_true decide_false Bool.false_eq_true Nat.zero_add Nat.add_zero List.contains_cons List.contains_nil Bool.or_false Bool.false_or beq_self_eq_true Nat.reduceBEq ne_eq not_true_eq_false not_false_eq_true Id.mk.injEq false_and and_false Nat.reduceLT Int.reduceLE Int.reduceLT Int.reduceToNat Int.reduceNeg Int.reduceAdd Nat.le_refl List.length_append beq_true beq_false Bool.not_eq_eq_eq_not or_false false_or dG ab ae az aU bu aC aP aE aJ cD aX
def CO (k:Int) (n:Nat):List Int:=(List.range n).map fun j:Nat=>k+(j:Int)
theorem iG (k:Int) (n:Nat):(CO k n).length=n:=by simp[CO]
def iF (k:Int) (l:List Int) (j:Nat):List Int:=CO k j++l.drop j
theorem uR {k:Int} {l:List Int} {j:Nat} (h:j<=l.length):(iF k l j).length=l.length:=by simp[iF,iG];omega
theorem GY {k:Int} {l:List Int} {j:Nat} (h:j<l.length):((iF k l j).map aM)[j]? =some [.int .i64 l[j]]:=by
 have h2:j<(iF k l j).length:=by rw[uR ad];exact h
 have h3:(iF k l j)[j]'h2=l[j]:=by simp[iF,List.getElem_append,iG]
 rw[xZ h2,h3]
theorem Ep {k:Int} {l:List Int} {j:Nat} (h:j<l.length):((iF k l j).map aM).set j [.int .i64 (k+(j:Int))]=(iF k l (j+1)).map aM:=by
 have h1:(iF k l j).set j (k+(j:Int))=iF k l (j+1):=by
  unfold iF
  rw[List.set_append_right _ _ (by rw[iG];omega),iG,Nat.sub_self]
  have h2:l.drop j=l[j]::l.drop (j+1):=List.drop_eq_getElem_cons h
  rw[h2,List.set_cons_zero]
  simp[CO,List.range_succ]
 rw[<-h1,List.map_set];rfl
theorem Jn (i:Id) (l:List Int) (k:Int) (h0:0<=k) (h1:k+l.length<=4611686018427387904) (σ:ar) (hv:i.bR<σ.next) (hg:σ.get i=some ⟨true,1,l.map aM⟩):
  Call Tryz.prog 100 [.own i 0 l.length,.int .i64 k] σ (fun r σ'=>r=.int .i64 (k+l.length)/\oV σ [i] σ'.get σ'.next/\σ'.get i=some ⟨true,1,(CO k l.length).map aM⟩):=by
 refine gj eL rfl fun hl=>?_
 clear hl
 have hz:iF k l 0=l:=by simp[iF,CO]
 (try((repeat(revert hN;revert N;apply Pn.out));refine wk @Nat.zero_add ?_;(repeat(refine Pn.mk ?_;intro N hN))))
 refine bp (fun n env st=>∃j:Nat,n=(l.length)-j/\j<=(l.length)/\env 5=.int .i64 (j:Int)/\env 1=.int .i64 (k+j)/\st.get i=some ⟨true,1,(iF k l j).map aM⟩/\(oV σ [i] st.get st.next)) (l.length) ⟨0,ad,ad,sl (tw @Int.add_zero (tw @Int.natCast_zero (tw @hz @hg))),sl (tw @Int.add_zero (tw @Int.natCast_zero (tw @hz @hg))),sl (tw @Int.add_zero (tw @Int.natCast_zero (tw @hz @hg))),by(try dsimp only);exact⟨cE,fun x _ _=>rfl⟩⟩ ?_
 rintro n_a env_a st_a ⟨j,rfl,ale,a5,a1,ag0,aI0⟩ dt
 have a0:=dt 0 (by kernel_rfl)
 simp only[go_sem, ↓reduceIte,Nat.reduceEqDiff,Nat.reduceAdd,Nat.reduceSub,Nat.reduceLeDiff,reduceCtorEq,Int.add_zero,Int.natCast_zero,hz,hg]at a0
 clear dt
 obtain⟨an,aF⟩:=aI0
 by_cases hj:(j:Int)<(l.length:Int)
 ·have bK:∀{e:Env} {gg:Rows} {nx:Nat},(e 5=.int .i64 (IntKind.i64.wrap ((j:Int)+1)))->(e 1=.int .i64 (k+(j+1)))->(gg i=some ⟨true,1,(iF k l (j+1)).map aM⟩)->(oV σ [i] gg nx)->∃m0,m0<(l.length)-j/\∃j:Nat,m0=(l.length)-j/\j<=(l.length)/\e 5=.int .i64 (j:Int)/\e 1=.int .i64 (k+j)/\gg i=some ⟨true,1,(iF k l j).map aM⟩/\(oV σ [i] gg nx):=fun x1 x2 x3 x4=>⟨_,ad,j+1,rfl,ad,(by rw[x1,aA ad]),x2,x3,x4⟩
  have ib:j<l.length:=ad
  have ev:=GY (k:=k) ib
  have eX:=Ep (k:=k) ib
  have hw:IntKind.i64.wrap (k+(j:Int)+1)=k+((j:Int)+1):=by rw[bP ad];omega
  have hlen:((iF k l j).map aM).length=l.length:=by rw[List.length_map,uR ad]
  (try((repeat(revert hN;revert N;apply Pn.out));refine wk (tw @a5 (tw @a1 (tw @ag0 (tw @a0 (tw @hj (tw @ev (tw @eX (tw @hw @hlen)))))))) ?_;(repeat(refine Pn.mk ?_;intro N hN))))
  refine bK ?_ ?_ ?_ (by(try dsimp only);exact⟨cE,fun x hx hi=>by
   have h2:=aF x hx hi
   have h3:(x=i)=False:=eq_false fun e=>hi (by simp[e])
   simp only[go_sem, ↓reduceIte,Nat.reduceEqDiff,Nat.reduceAdd,Nat.reduceSub,Nat.reduceLeDiff,reduceCtorEq,h2,h3]⟩)
  all_goals simp only[go_sem, ↓reduceIte,Nat.reduceEqDiff,Nat.reduceAdd,Nat.reduceSub,Nat.reduceLeDiff,reduceCtorEq,a5,a1,ag0,a0,hw,eX]
 ·have ib:j=l.length:=ad
  subst ib
  (try((repeat(revert hN;revert N;apply Pn.out));refine wk (tw @a5 (tw @a1 (tw @ag0 (tw @a0 @hj)))) ?_;(repeat(refine Pn.mk ?_;intro N hN))))
  have jw:iF k l l.length=CO k l.length:=by simp[iF]
  rw[jw]at ag0
  exact gI (.inl rfl) (vs:=[.int .i64 (k+l.length)]) (sd (tw @a5 (tw @a1 (tw @ag0 @a0)))) ⟨rfl,⟨cE,fun x hx hi=>aF x hx hi⟩,ag0⟩
theorem Ms (k:Int) {n j:Nat} (h:j<n):((CO k n).map aM)[j]? =some [.int .i64 (k+(j:Int))]:=by
 simp[CO,h,aM]
theorem IL (k:Int) (n:Nat) (h0:0<=k) (h1:k+n<=4611686018427387904):ak Tryz.prog 101 [.sl ((CO k n).map aM),.int .i64 k] (.int .i64 (k+n)):=by
 refine ak.body eL rfl fun hl n0=>?_
 clear hl
 obtain⟨m,hm⟩:∃m,n=m:=⟨_,rfl⟩
 rw[hm]at h1 ⊢
 (try((repeat(revert hN;revert N;apply Pn.out));refine wk @iG ?_;(repeat(refine Pn.mk ?_;intro N hN))))
 refine bp (fun n env st=>∃j:Nat,n=(m)-j/\j<=(m)/\env 5=.int .i64 (j:Int)/\env 1=.int .i64 (k+j)) (m) ⟨0,ad,ad,sl (tw @Int.add_zero (tw @Int.natCast_zero @iG)),sl (tw @Int.add_zero (tw @Int.natCast_zero @iG))⟩ ?_
 rintro n_a env_a st_a ⟨j,rfl,ale,a5,a1⟩ dt
 have a0:=dt 0 (by kernel_rfl)
 simp only[go_sem, ↓reduceIte,Nat.reduceEqDiff,Nat.reduceAdd,Nat.reduceSub,Nat.reduceLeDiff,reduceCtorEq,Int.add_zero,Int.natCast_zero,iG]at a0
 clear dt
 by_cases hj:(j:Int)<(m:Int)
 ·have bK:∀{e:Env},(e 5=.int .i64 (IntKind.i64.wrap ((j:Int)+1)))->(e 1=.int .i64 (k+(j+1)))->∃m0,m0<(m)-j/\∃j:Nat,m0=(m)-j/\j<=(m)/\e 5=.int .i64 (j:Int)/\e 1=.int .i64 (k+j):=fun x1 x2=>⟨_,ad,j+1,rfl,ad,(by rw[x1,aA ad]),x2⟩
  have ev:=Ms k (n:=m) (j:=j) ad
  have hw:IntKind.i64.wrap (k+(j:Int)+1)=k+((j:Int)+1):=by rw[bP ad];omega
  have e1:decide (k+(j:Int)=k+(j:Int))=true:=decide_eq_true rfl
  (try((repeat(revert hN;revert N;apply Pn.out));refine wk (tw @a5 (tw @a1 (tw @a0 (tw @hj (tw @ev (tw @hw (tw @iG @e1))))))) ?_;(repeat(refine Pn.mk ?_;intro N hN))))
  refine bK ?_ ?_
  all_goals simp only[go_sem, ↓reduceIte,Nat.reduceEqDiff,Nat.reduceAdd,Nat.reduceSub,Nat.reduceLeDiff,reduceCtorEq,a5,a1,a0,hw]
 ·have ib:j=m:=ad
  subst ib
  (try((repeat(revert hN;revert N;apply Pn.out));refine wk (tw @a5 (tw @a1 (tw @a0 (tw @hj @iG)))) ?_;(repeat(refine Pn.mk ?_;intro N hN))))
  exact cH (b:=k+(j:Int)) (.inl rfl) (sd (tw @a5 (tw @a1 @a0))) rfl
theorem clI (x:Int):(aM x).all AV.clean=true:=rfl
def qV (R:List Int):List AV:=[.sl (R.map aM)]
def mb:tO (List Int):=fun g cs R ids=>∃u,cs=[.own u 0 R.length]/\g u=some ⟨true,1,R.map aM⟩/\ids=[u]
theorem GG:nM mb 1 where
 frame:=fun⟨i,h1,h2,h3⟩ hf=>⟨i,h1,(hf i (by rw[h3];simp)).trans h2,h3⟩
 len:=fun⟨i,h1,_⟩=>by rw[h1];rfl
 cell:=fun⟨i,h1,_⟩=>by rw[h1];rfl
 live:=fun⟨i,h1,h2,h3⟩ j hj=>by
  rw[h3]at hj
  have:j=i:=by simpa using hj
  subst this
  exact⟨_,h2,rfl,by simp[l6]⟩
 small:=by simp[l6]
theorem Jb {g:Rows} {cs:List AV} {x:List Int} {ids:List Id} (n:Nat) (h:mb g cs x ids):cR (dG g) (n+2) cs=some (qV x):=by
 obtain⟨i,rfl,h2,_⟩:=h
 have h3:V.fz (dG g) (n+2) (.own i 0 x.length)=some (.sl (x.map aM)):=fF (e:=aM) (sz:=1) (by simp[dG,h2]) rfl fun y=>by simp[aM,ab,ae,az]
 simp only[ab,ae,h3,Option.map_some,qV]
theorem GH {g:Rows} {cs:List AV} {x:List Int} {ids:List Id} (n:Nat) (h:mb g cs x ids):dM g (n+2) cs=some (qV x):=by
 obtain⟨i,rfl,h2,_⟩:=h
 have h3:fu g (n+2) (.own i 0 x.length)=some (.sl (x.map aM)):=fa (e:=aM) h2 rfl fun y=>by simp[aM,cN,dC,fV]
 simp only[cN,dC,h3,Option.map_some,qV]
theorem D6 {g:Rows} {cs:List AV} {x:List Int} {ids:List Id} (h:mb g cs x ids):cs.all AV.clean=true/\Handed ids g:=by
 obtain⟨i,rfl,h2,rfl⟩:=h
 refine⟨rfl,fun j hj=>?_⟩
 rw[List.mem_singleton.1 hj]
 refine⟨_,h2,rfl,fun cs dx a ha=>?_⟩
 obtain⟨y,_,rfl⟩:=List.mem_map.1 dx
 exact List.all_eq_true.1 (clI y) a ha
def iw (g:Rows) (v:AV) (L:List (List Int)) (ids:List Id):Prop:=kJ mb 1 g v L ids
section
variable {g g':Rows} {v:AV} {L:List (List Int)} {ids:List Id}
theorem iw.frame (h:iw g v L ids) (hf:∀i∈ids,g' i=g i):iw g' v L ids:=kJ.frame GG h hf
theorem iw.Ei (h:iw g v L ids):mc qV L (CU qV v L):=kJ.Ei h
theorem iw.Nn (h:iw g v L ids):V.fz (dG g) 6 v=some (CU qV v L):=kJ.Nn h fun h=>Jb 3 h
theorem iw.clean (h:iw g v L ids):v.clean=true:=kJ.clean h
theorem iw.hand (h:iw g v L ids):Handed ids g:=kJ.hand h fun h=>D6 h
theorem iw.s (h:iw g v L ids):fu g 5 v=some (Mv qV L):=kJ.s h fun h=>GH 2 h
end
def kh (R:List Int):Nat:=R.length
def jx (k:Int):List (List Int)->List (List Int)
 |[]=>[]
 |R::L=>CO k R.length::jx (k+(R.length:Int)) L
theorem gR:∀(k:Int) (L:List (List Int)),(jx k L).length=L.length
 |_,[]=>rfl
 |k,R::L=>by rw[jx,List.length_cons,gR,List.length_cons]
theorem sU:∀(k:Int) (A B:List (List Int)),jx k (A++B)=jx k A++jx (k+((A.map kh).sum:Nat)) B
 |k,[],B=>by simp[jx]
 |k,R::A,B=>by
  rw[List.cons_append,jx,jx,sU,List.cons_append]
  congr 3
  simp only[List.map_cons,List.sum_cons,kh];omega
def jA (k:Int) (L:List (List Int)) (j:Nat):List (List Int):=jx k (L.take j)++L.drop j
theorem Es {k:Int} {L:List (List Int)} {j:Nat} (h:j<=L.length):(jA k L j).length=L.length:=by
 rw[jA,List.length_append,gR,List.length_take,List.length_drop];omega
theorem Er {k:Int} {L:List (List Int)} {j:Nat} (h:j<L.length):(jA k L j)[j]? =some L[j]:=by
 rw[jA,List.getElem?_append_right (by rw[gR,List.length_take];omega),gR,List.length_take,List.getElem?_drop,Nat.min_eq_left ad,Nat.sub_self,Nat.add_zero,List.getElem?_eq_getElem h]
theorem Et {k:Int} {L:List (List Int)} {j:Nat} (h:j<L.length):(jA k L j).set j (CO (k+(e6 kh L j:Nat)) L[j].length)=jA k L (j+1):=by
 have h1:(jx k (L.take j)).length=j:=by rw[gR,List.length_take];omega
 rw[jA,List.drop_eq_getElem_cons h,jA,List.take_succ_eq_append_getElem h,sU,List.append_assoc]
 rw[List.set_append_right _ _ ad,h1,Nat.sub_self,List.set_cons_zero]
 rfl
theorem GX (v:AV) (L:List (List Int)) (ids:List Id) (k:Int) (h0:0<=k) (h1:k+((L.map kh).sum+L.length:Nat)<=4611686018427387904) (σ:ar) (hv:∀i∈ids,i.bR<σ.next) (kD:ids.Nodup) (hg:fI mb 1 σ.get v L ids):
  Call Tryz.prog 26 [v,.int .i64 k] σ (fun r σ'=>r=.int .i64 (k+(L.map kh).sum)/\oV σ ids σ'.get σ'.next/\fI mb 1 σ'.get v (jx k L) ids):=by
 obtain⟨o,rows,is,rfl,ho,hR,rfl⟩:=hg
 refine gj eL rfl fun hl=>?_
 clear hl
 have uL:=hv o (by simp)
 have wi:=jd kh L
 obtain⟨O0,RN⟩:=List.nodup_cons.1 kD
 have hz:jA k L 0=L:=by simp[jA,jx]
 have qp:=hR.len
 (try((repeat(revert hN;revert N;apply Pn.out));refine wk @Nat.zero_add ?_;(repeat(refine Pn.mk ?_;intro N hN))))
 refine bp (fun n env st=>∃j:Nat,n=(L.length)-j/\j<=(L.length)/\env 5=.int .i64 (j:Int)/\env 1=.int .i64 (k+e6 kh L j)/\st.get o=some ⟨true,1,rows⟩/\(oV σ (o::is) st.get st.next/\cW mb st.get rows (jA k L j) is)) (L.length) ⟨0,ad,ad,sl (tw @Int.add_zero (tw @Int.natCast_zero (tw @wi @ho))),sl (tw @Int.add_zero (tw @Int.natCast_zero (tw @wi @ho))),sl (tw @Int.add_zero (tw @Int.natCast_zero (tw @wi @ho))),by(try dsimp only);exact⟨⟨cE,fun x _ _=>rfl⟩,by rw[hz];exact hR⟩⟩ ?_
 rintro n_a env_a st_a ⟨j,rfl,ale,a5,a1,ag0,aI0⟩ dt
 have a0:=dt 0 (by kernel_rfl)
 simp only[go_sem, ↓reduceIte,Nat.reduceEqDiff,Nat.reduceAdd,Nat.reduceSub,Nat.reduceLeDiff,reduceCtorEq,Int.add_zero,Int.natCast_zero,wi,ho]at a0
 clear dt
 obtain⟨⟨an,aF⟩,aR⟩:=aI0
 by_cases hj:(j:Int)<(L.length:Int)
 ·have bK:∀{e:Env} {gg:Rows} {nx:Nat},(e 5=.int .i64 (IntKind.i64.wrap ((j:Int)+1)))->(e 1=.int .i64 (k+e6 kh L (j+1)))->(gg o=some ⟨true,1,rows⟩)->(oV σ (o::is) gg nx/\cW mb gg rows (jA k L (j+1)) is)->∃m0,m0<(L.length)-j/\∃j:Nat,m0=(L.length)-j/\j<=(L.length)/\e 5=.int .i64 (j:Int)/\e 1=.int .i64 (k+e6 kh L j)/\gg o=some ⟨true,1,rows⟩/\(oV σ (o::is) gg nx/\cW mb gg rows (jA k L j) is):=fun x1 x2 x3 x4=>⟨_,ad,j+1,rfl,ad,(by rw[x1,aA ad]),x2,x3,x4⟩
  have ib:j<L.length:=ad
  have DU:=lF kh ib
  have hle:=jh kh L (j+1)
  have hlen:=Es (k:=k) (L:=L) (j:=j) ad
  have nR:(jA k L j)[j]'ad=L[j]:=by
   have:=Er (k:=k) ib
   rw[List.getElem?_eq_getElem ad]at this
   exact Option.some.inj this
  obtain⟨cs,ic,hgc,hT,n3,OK,sK⟩:=aR.put GG RN j ad
  rw[nR]at hT
  have eX:=Et (k:=k) ib
  obtain⟨X,hX⟩:∃X,L[j]=X:=⟨_,rfl⟩
  rw[hX]at hT eX DU
  obtain⟨i,rfl,hi,rfl⟩:=hT
  have Pg:kh X=X.length:=rfl
  have OL:i∈is:=OK i (by simp)
  have ON:i≠o:=fun e=>O0 (e▸OL)
  have hiv:i.bR<σ.next:=hv i (by simp[OL])
  (try((repeat(revert hN;revert N;apply Pn.out));refine wk (tw @a5 (tw @a1 (tw @ag0 (tw @a0 (tw @hj @hgc))))) ?_;(repeat(refine Pn.mk ?_;intro N hN))))
  refine .inr (bd _ _ _ _ _ (fun r σ1 hq=>?_) (Jn i X (k+(e6 kh L j:Nat)) ad ad _ cE hi))
  obtain⟨g1,x1⟩:=σ1
  obtain⟨rfl,⟨H7,oK⟩,hq3⟩:=hq
  (try dsimp only at H7 oK hq3)
  refine hN _ _ ?_
  clear hN N
  have Kv:k+(e6 kh L j:Nat)+(X.length:Int)=k+(e6 kh L (j+1):Nat):=ad
  have go:=(oK o cE (by simp only[List.mem_singleton];exact fun e=>ON e.symm)).trans ag0
  (try((repeat(revert hN;revert N;apply Pn.out));refine wk (tw @a5 (tw @a1 (tw @ag0 (tw @a0 (tw @Kv @go))))) ?_;(repeat(refine Pn.mk ?_;intro N hN))))
  refine bK ?_ ?_ ?_ (by(try dsimp only);exact⟨⟨cE,fun x hx pg=>by
   have h4:x≠i:=fun e=>pg (by simp[e,OL])
   rw[oK x cE (by simp[h4])]
   exact aF x hx pg⟩,by
    rw[<-eX]
    exact sK _ _ ⟨i,by rw[iG],by rw[hq3],rfl⟩ fun x hx zN=>oK x (by have:=hv x (by simp[hx]);(try dsimp only);omega) zN⟩)
  all_goals simp only[go_sem, ↓reduceIte,Nat.reduceEqDiff,Nat.reduceAdd,Nat.reduceSub,Nat.reduceLeDiff,reduceCtorEq,a5,a1,ag0,a0,Kv,go]
 ·have ib:j=L.length:=ad
  subst ib
  have dy:=pT kh L
  rw[dy]at a1
  (try((repeat(revert hN;revert N;apply Pn.out));refine wk (tw @a5 (tw @a1 (tw @ag0 (tw @a0 @hj)))) ?_;(repeat(refine Pn.mk ?_;intro N hN))))
  have jw:jA k L L.length=jx k L:=by simp[jA]
  rw[jw]at aR
  exact gI (.inl rfl) (vs:=[.int .i64 (k+(L.map kh).sum)]) (sd (tw @a5 (tw @a1 (tw @ag0 @a0)))) ⟨rfl,⟨cE,fun x hx hi=>aF x hx hi⟩,⟨o,rows,is,by rw[gR],ag0,aR,rfl⟩⟩
theorem El (k:Int) (σ:ar):Call Tryz.prog 26 [.cK,.int .i64 k] σ (fun r σ'=>r=.int .i64 k/\oV σ [] σ'.get σ'.next):=by
 refine gj eL rfl fun hl=>?_
 clear hl
 (try((repeat(revert hN;revert N;apply Pn.out));refine wk @Nat.zero_add ?_;(repeat(refine Pn.mk ?_;intro N hN))))
 refine bp (fun n env st=>(env 1=.int .i64 k/\env 5=.int .i64 0/\env 0=.cK)/\σ.next<=st.next/\∀x:Id,st.get x=σ.get x) 0 ⟨⟨sd @Nat.zero_add,sd @Nat.zero_add,sd @Nat.zero_add⟩,cE,fun _=>rfl⟩ ?_
 rintro m e st ⟨⟨a1,a5,a0⟩,an,aF⟩ -
 have d0:decide ((0:Int)<((0:Nat):Int))=false:=rfl
 (try((repeat(revert hN;revert N;apply Pn.out));refine wk (tw @a0 (tw @a1 (tw @a5 @d0))) ?_;(repeat(refine Pn.mk ?_;intro N hN))))
 exact gI (.inl rfl) (vs:=[.int .i64 k]) (sd @a1) ⟨rfl,⟨cE,fun x hx hi=>aF x⟩⟩
theorem Em {v:AV} {L:List (List Int)} {ids:List Id} (k:Int) (h0:0<=k) (h1:k+((L.map kh).sum+L.length:Nat)<=4611686018427387904) (σ:ar) (hv:∀i∈ids,i.bR<σ.next) (kD:ids.Nodup) (h:iw σ.get v L ids):
  Call Tryz.prog 26 [v,.int .i64 k] σ (fun r σ'=>r=.int .i64 (k+(L.map kh).sum)/\oV σ ids σ'.get σ'.next/\iw σ'.get v (jx k L) ids):=by
 rcases h with⟨rfl,rfl,rfl⟩|⟨h,hp⟩
 ·refine bd _ _ _ _ _ (fun r σ' hq=>?_) (El k σ)
  obtain⟨rfl,hB⟩:=hq
  exact⟨by simp,hB,.inl ⟨rfl,rfl,rfl⟩⟩
 ·refine bd _ _ _ _ _ (fun r σ' hq=>?_) (GX v L ids k h0 h1 σ hv kD h)
  obtain⟨rfl,hB,hg⟩:=hq
  exact⟨rfl,hB,.inr ⟨hg,by rw[gR];exact hp⟩⟩
theorem Jo {k:Int} {L:List (List Int)} {j:Nat} (h:j<L.length):((jx k L).map qV)[j]? =some [.sl ((CO (k+(e6 kh L j:Nat)) L[j].length).map aM)]:=by
 have h1:(jx k (L.take j)).length=j:=by rw[gR,List.length_take];omega
 have h2:L=L.take j++L[j]::L.drop (j+1):=by rw[<-List.drop_eq_getElem_cons h,List.take_append_drop]
 have h3:jx k L=jx k (L.take j)++jx (k+(((L.take j).map kh).sum:Nat)) (L[j]::L.drop (j+1)):=by rw[<-sU,<-h2]
 rw[h3,List.map_append,List.getElem?_append_right (by rw[List.length_map,h1];omega),List.length_map,h1,Nat.sub_self,jx]
 rfl
theorem Gk (k:Int) (L:List (List Int)) (h0:0<=k) (h1:k+(L.map kh).sum<=4611686018427387904):ak Tryz.prog 27 [.sl ((jx k L).map qV),.int .i64 k] (.int .i64 (k+(L.map kh).sum)):=by
 refine ak.body eL rfl fun hl n0=>?_
 have hL:L.length<=9223372036854775807:=by simpa[gR]using(hl (.sl ((jx k L).map qV)) (by simp)).len
 clear hl
 have wi:=jd kh L
 have fP:((jx k L).map qV).length=L.length:=by rw[List.length_map,gR]
 (try((repeat(revert hN;revert N;apply Pn.out));refine wk @fP ?_;(repeat(refine Pn.mk ?_;intro N hN))))
 refine bp (fun n env st=>∃j:Nat,n=(L.length)-j/\j<=(L.length)/\env 5=.int .i64 (j:Int)/\env 1=.int .i64 (k+e6 kh L j)) (L.length) ⟨0,ad,ad,sl (tw @Int.add_zero (tw @Int.natCast_zero (tw @wi @fP))),sl (tw @Int.add_zero (tw @Int.natCast_zero (tw @wi @fP)))⟩ ?_
 rintro n_a env_a st_a ⟨j,rfl,ale,a5,a1⟩ dt
 have a0:=dt 0 (by kernel_rfl)
 simp only[go_sem, ↓reduceIte,Nat.reduceEqDiff,Nat.reduceAdd,Nat.reduceSub,Nat.reduceLeDiff,reduceCtorEq,Int.add_zero,Int.natCast_zero,wi,fP]at a0
 clear dt
 by_cases hj:(j:Int)<(L.length:Int)
 ·have bK:∀{e:Env},(e 5=.int .i64 (IntKind.i64.wrap ((j:Int)+1)))->(e 1=.int .i64 (k+e6 kh L (j+1)))->∃m0,m0<(L.length)-j/\∃j:Nat,m0=(L.length)-j/\j<=(L.length)/\e 5=.int .i64 (j:Int)/\e 1=.int .i64 (k+e6 kh L j):=fun x1 x2=>⟨_,ad,j+1,rfl,ad,(by rw[x1,aA ad]),x2⟩
  have ib:j<L.length:=ad
  have DU:=lF kh ib
  have hle:=jh kh L (j+1)
  have ev:=Jo (k:=k) ib
  have Pg:kh L[j]=L[j].length:=rfl
  have hh:=IL (k+(e6 kh L j:Nat)) L[j].length ad ad
  have Kv:k+(e6 kh L j:Nat)+(L[j].length:Int)=k+(e6 kh L (j+1):Nat):=ad
  rw[Kv]at hh
  have hp:¬k+((e6 kh L (j+1):Nat):Int)<0:=ad
  generalize (CO (k+(e6 kh L j:Nat)) L[j].length).map aM=M at ev hh
  (repeat(first|((repeat(revert hN;revert N;apply Pn.out));refine wk (tw @a5 (tw @a1 (tw @a0 (tw @hj (tw @ev (tw @fP @hp)))))) ?_;(repeat(refine Pn.mk ?_;intro N hN)))|((try apply Or.inl);refine⟨_,ak.x (hh) (sd (tw @a5 (tw @a1 (tw @a0 (tw @hj (tw @ev (tw @fP @hp))))))),?_⟩;refine hN _ _ ?_;clear hN N)))
  refine bK ?_ ?_
  all_goals simp only[go_sem, ↓reduceIte,Nat.reduceEqDiff,Nat.reduceAdd,Nat.reduceSub,Nat.reduceLeDiff,reduceCtorEq,a5,a1,a0,fP]
 ·have ib:j=L.length:=ad
  subst ib
  have dy:=pT kh L
  rw[dy]at a1
  (try((repeat(revert hN;revert N;apply Pn.out));refine wk (tw @a5 (tw @a1 (tw @a0 (tw @hj @fP)))) ?_;(repeat(refine Pn.mk ?_;intro N hN))))
  exact cH (b:=k+(L.map kh).sum) (.inl rfl) (sd (tw @a5 (tw @a1 @a0))) rfl
theorem uJ {w:AV} (k:Int) (L:List (List Int)) (h0:0<=k) (h1:k+(L.map kh).sum<=4611686018427387904) (hw:mc qV (jx k L) w):ak Tryz.prog 27 [w,.int .i64 k] (.int .i64 (k+(L.map kh).sum)):=
 (Gk k L h0 h1).cut mixed (hw.cut (.same _ .nil))
theorem Lo (L:List (List Int)):ak Tryz.prog 25 [.sl (L.map qV),.sl (L.map qV)] (.bool true):=by
 refine ak.body eL rfl fun hl n0=>?_
 have hL:L.length<=9223372036854775807:=by simpa using(hl (.sl (L.map qV)) (by simp)).len
 clear hl
 have fP:(L.map qV).length=L.length:=by simp
 have d0:decide ((L.length:Int)=(L.length:Int))=true:=decide_eq_true rfl
 (try((repeat(revert hN;revert N;apply Pn.out));refine wk (tw @fP @d0) ?_;(repeat(refine Pn.mk ?_;intro N hN))))
 refine bp (fun n env st=>∃j:Nat,n=(L.length)-j/\j<=(L.length)/\env 5=.int .i64 (j:Int)) (L.length) ⟨0,ad,ad,sl @fP⟩ ?_
 rintro n_a env_a st_a ⟨j,rfl,ale,a5⟩ dt
 have a0:=dt 0 (by kernel_rfl);have a1:=dt 1 (by kernel_rfl)
 simp only[go_sem, ↓reduceIte,Nat.reduceEqDiff,Nat.reduceAdd,Nat.reduceSub,Nat.reduceLeDiff,reduceCtorEq,fP]at a0 a1
 clear dt
 by_cases hj:(j:Int)<(L.length:Int)
 ·have bK:∀{e:Env},(e 5=.int .i64 (IntKind.i64.wrap ((j:Int)+1)))->∃m0,m0<(L.length)-j/\∃j:Nat,m0=(L.length)-j/\j<=(L.length)/\e 5=.int .i64 (j:Int):=fun x1=>⟨_,ad,j+1,rfl,ad,(by rw[x1,aA ad])⟩
  have ib:j<L.length:=ad
  have ev:(L.map qV)[j]? =some [.sl (L[j].map aM)]:=by simp[ib,qV]
  have hh:=x7 L[j] L[j]
  rw[decide_eq_true rfl]at hh
  generalize L[j].map aM=M at ev hh
  (repeat(first|((repeat(revert hN;revert N;apply Pn.out));refine wk (tw @a5 (tw @a0 (tw @a1 (tw @hj (tw @ev @fP))))) ?_;(repeat(refine Pn.mk ?_;intro N hN)))|((try apply Or.inl);refine⟨_,ak.x (hh) (sd (tw @a5 (tw @a0 (tw @a1 (tw @hj (tw @ev @fP)))))),?_⟩;refine hN _ _ ?_;clear hN N)))
  exact bK (sd (tw @a5 (tw @a0 (tw @a1 @fP))))
 ·have ib:j=L.length:=ad
  subst ib
  (try((repeat(revert hN;revert N;apply Pn.out));refine wk (tw @a5 (tw @a0 (tw @a1 (tw @hj @fP)))) ?_;(repeat(refine Pn.mk ?_;intro N hN))))
  exact bt (b:=true) (.inl rfl) (sd @Nat.zero_add) rfl
theorem vQ {L:List (List Int)} {v w:AV} (hv:mc qV L v) (hw:mc qV L w):ak Tryz.prog 25 [v,w] (.bool true):=
 (Lo L).cut mixed (hv.cut (hw.cut .nil))
structure xu (g:Rows) (v:AV) (s:ao) (ids:List Id):Prop where
 ex:∃a b i1 i2,v=.agg [a,b]/\fI (jO bS) 2 g a s.ay i1/\fI lK 2 g b s.aj i2/\ids=i1++i2
theorem xu.frame {g g':Rows} {v:AV} {s:ao} {ids:List Id} (h:xu g v s ids) (hf:∀i∈ids,g' i=g i):xu g' v s ids:=by
 obtain⟨a,b,i1,i2,h1,h2,h3,rfl⟩:=h.ex
 exact⟨a,b,i1,i2,h1,h2.frame F3 fun i hi=>hf i (by simp[hi]),h3.frame tu fun i hi=>hf i (by simp[hi]),rfl⟩
theorem xu.fz {g:Rows} {v:AV} {s:ao} {ids:List Id} (n:Nat) (h:xu g v s ids):V.fz (dG g) (n+5) v=some (.agg (aa s)):=by
 obtain⟨a,b,i1,i2,rfl,h2,h3,rfl⟩:=h.ex
 have q1:=h2.fz (n:=n+3) (e:=bS) fun hc=>by rw[hc.1];simp[bS,ab,ae,az,aU]
 have q2:=h3.fz (n:=n+3) (e:=bI) fun hc=>JV (n+1) hc
 simp only[aP,ab,ae,q1,q2,Option.map_some,aa]
theorem zE (p:ao) (hs:qQ p) (σ:ar):Call Tryz.prog 13 [.agg (aa p)] σ (fun r σ'=>∃ids,xu σ'.get r p ids/\eW σ.next σ'.next ids/\Kept σ σ'):=
 bd _ _ _ _ _ (fun r σ' hq=>by
  obtain⟨a,b,i1,i2,rfl,h1,h2,h3,h4⟩:=hq
  exact⟨i1++i2,⟨a,b,i1,i2,rfl,h1,h2,rfl⟩,h3,h4⟩) (zC p hs σ)
def y6 (s:ao):Nat:=2*s.ay.length+(s.aj.map gh).sum
theorem Jm (s:ao):y6 s<=3*tD s:=by
 have h:∀l:List eu,(l.map gh).sum<=l.length+(l.map jC).sum:=fun l=>by
  induction l with
  |nil=>simp
  |cons t l ih=>simp only[List.map_cons,List.sum_cons,List.length_cons,gh,jC]at *;omega
 have:=h s.aj
 unfold y6 tD
 omega
theorem Eo (v:AV) (p:ao) (ids:List Id) (k:Int) (h0:0<=k) (Nx:p.aj.length<=1048576) (h1:k+y6 p<=4611686018427387904) (σ:ar) (hv:∀i∈ids,i.bR<σ.next) (kD:ids.Nodup) (hg:xu σ.get v p ids):
  Call Tryz.prog 19 [v,.int .i64 k] σ (fun r σ'=>r=.int .i64 (k+y6 p)/\oV σ ids σ'.get σ'.next):=by
 obtain⟨a,b,i1,i2,rfl,hA,hB,rfl⟩:=hg.ex
 have hm:(y6 p:Int)=2*p.ay.length+(p.aj.map gh).sum:=by simp[y6]
 refine bd _ _ _ _ _ (fun r σ' hq=>?_) (En a b p i1 i2 k h0 Nx ad σ hv kD hA hB)
 obtain⟨rfl,hb⟩:=hq
 exact⟨by rw[hm];exact congrArg (AV.int .i64) ad,hb⟩
theorem EN {s:ao} (h:tD s<=1048576):qQ s:=by
 unfold tD at h
 refine⟨ad,ad,fun t ht=>?_⟩
 have:=MJ jC ht
 have h2:t.bB.length<=jC t:=by unfold jC;omega
 unfold qd
 omega
theorem ya (a:ao):ak Tryz.prog 17 [.agg (aa a),.agg (aa a)] (.bool true):=by
 refine ak.body eL rfl fun hl n0=>?_
 clear hl
 have h1:=Dz a.ay a.ay
 have h2:=DE a.aj a.aj
 rw[decide_eq_true rfl]at h1 h2
 (repeat(first|((repeat(revert hN;revert N;apply Pn.out));refine wk @aa.eq_1 ?_;(repeat(refine Pn.mk ?_;intro N hN)))|((try apply Or.inl);refine⟨_,ak.x (h1) (sd @aa.eq_1),?_⟩;refine hN _ _ ?_;clear hN N)|((try apply Or.inl);refine⟨_,ak.x (h2) (sd @aa.eq_1),?_⟩;refine hN _ _ ?_;clear hN N)))
 exact bt (b:=true) (.inl rfl) (sd @Nat.zero_add) rfl
theorem JO {g:Rows} {v w:AV} {s:ao} {i:List Id} (hX:xu g v s i) (hw:fz (dG g) 6 w=some w):cR (dG g) 6 [v,w]=some [.agg (aa s),w]:=by
 simp only[ab,ae,hX.fz 1,hw,Option.map_some]
theorem Cg (g:Rows) (s:ao):fz g 6 (.agg (aa s))=some (.agg (aa s)):=by simp[aa,aP,ab,ae,bu]
theorem Jh (Kc:ao->dV->Int->List (List Int)×Int)
  (O7:∀s a t,fR s->qQ s->a.aj.length<=1048576->∃w0,mc qV (Kc s a t).1 w0/\ki Tryz.prog 23 [.agg (aa s),.agg (aY a),.int .i64 t] (.im [w0,.int .i64 (Kc s a t).2]))
  (OM:∀s a t,fR s->qQ s->a.aj.length<=1048576->∀n:Nat,Call Tryz.prog 24 [.agg (aa s),.agg (aY a),.int .i64 t] ⟨fun _=>none,n⟩ (fun r σ'=>∃ids,(∃v0 i0,r=.im [v0,.int .i64 (Kc s a t).2]/\iw σ'.get v0 (Kc s a t).1 i0/\ids=i0)/\eW n σ'.next ids))
  (Kx:∀s a t,fR s->qQ s->a.aj.length<=1048576->(((Kc s a t).1.map kh).sum+(Kc s a t).1.length)<=1099511627776)
  (s:ao) (a:dV) (t:Int) (hn:fR s):ak Tryz.prog 4 [.agg (aa s),.agg (aY a),.int .i64 t] (.bool true):=by
 refine ak.body eL rfl fun hl n0=>?_
 clear hl
 have h1:=zy s 1048576 ad ad hn
 by_cases OC:((tD s:Nat):Int)<=1048576
 ·rw[ji OC]at h1
  have DM:¬(1048576:Int)-((tD s:Nat):Int)<0:=ad
  have h2:=wW a (1048576-((tD s:Nat):Int)) ad ad
  by_cases OD:((a.aj.length:Nat):Int)<=1048576-((tD s:Nat):Int)
  ·rw[ji OD]at h2
   have LN:¬(1048576:Int)-((tD s:Nat):Int)-((a.aj.length:Nat):Int)<0:=ad
   have sm:=EN (s:=s) ad
   have ma:a.aj.length<=1048576:=ad
   have t1:=zD s sm
   have t2:=w9 a ma
   obtain⟨w0,Fk,r1⟩:=O7 s a t hn sm ma
   have r2:=OM s a t hn sm ma
   have q1:=ya s
   have q2:=vP a
   have Oj:=Kx s a t hn sm ma
   obtain⟨L0,hR0⟩:∃R,(Kc s a t).1=R:=⟨_,rfl⟩
   obtain⟨c1,LK⟩:∃R,(Kc s a t).2=R:=⟨_,rfl⟩
   simp only[hR0,LK]at r1 r2 Fk Oj
   have o1:=fun σ=>zE s sm σ
   rw[aa]at o1
   have o2:=fun σ=>w8 a ma σ
   rw[aY]at o2
   have HX:decide (c1=c1)=true:=by simp
   rw[aa]at h1
   rw[aY]at h2
   (repeat(first|((repeat(revert hN;revert N;apply Pn.out));refine wk (tw @aa.eq_1 (tw @aY.eq_1 (tw @DM @LN))) ?_;(repeat(refine Pn.mk ?_;intro N hN)))|((try apply Or.inl);refine⟨_,ak.x (h1) (sd (tw @aa.eq_1 (tw @aY.eq_1 (tw @DM @LN)))),?_⟩;refine hN _ _ ?_;clear hN N)|((try apply Or.inl);refine⟨_,ak.x (h2) (sd (tw @aa.eq_1 (tw @aY.eq_1 (tw @DM @LN)))),?_⟩;refine hN _ _ ?_;clear hN N)))
   refine⟨_,ki.x (by rw[aa]at t1;exact t1) _,?_⟩
   refine hN _ _ ?_
   clear hN N
   (try((repeat(revert hN;revert N;apply Pn.out));refine wk (tw @aa.eq_1 @aY.eq_1) ?_;(repeat(refine Pn.mk ?_;intro N hN))))
   refine⟨_,ki.x (by rw[aY]at t2;exact t2) _,?_⟩
   refine hN _ _ ?_
   clear hN N
   (try((repeat(revert hN;revert N;apply Pn.out));refine wk @Nat.zero_add ?_;(repeat(refine Pn.mk ?_;intro N hN))))
   refine⟨_,ki.x (by rw[aa,aY]at r1;exact r1) _,?_⟩
   refine hN _ _ ?_
   clear hN N
   (try((repeat(revert hN;revert N;apply Pn.out));refine wk @Nat.zero_add ?_;(repeat(refine Pn.mk ?_;intro N hN))))
   refine .inr (bd _ _ _ _ _ (fun r' σ1 hq=>?_) (o1 _))
   obtain⟨is,Hs,Ns,Ks⟩:=hq
   obtain⟨g1,x1⟩:=σ1
   (try dsimp only at Hs Ns Ks)
   obtain⟨As,Bs,j1s,j2s,rfl,Oh,Cr,-⟩:=Hs.ex
   obtain⟨oAs,rfl⟩:=Oh.wz
   obtain⟨oBs,rfl⟩:=Cr.wz
   clear Oh Cr
   have ns:=Ks.1
   have bs:=Ns.2
   (try dsimp only at ns bs)
   have Lq:=Ks.2 ⟨4000000,n0⟩ cE
   have Lr:=Ks.2 ⟨4000001,n0⟩ cE
   simp only[go_sem, ↓reduceIte,Nat.reduceEqDiff,Nat.reduceAdd,Nat.reduceSub,Nat.reduceLeDiff,reduceCtorEq]at Lq Lr
   clear Ks
   refine hN _ _ ?_
   clear hN N
   (try((repeat(revert hN;revert N;apply Pn.out));refine wk (tw @Lq @Lr) ?_;(repeat(refine Pn.mk ?_;intro N hN))))
   refine .inr (bd _ _ _ _ _ (fun r' σ2 hq=>?_) (o2 _))
   obtain⟨ia,Ha,Na,Ka⟩:=hq
   obtain⟨g2,x2⟩:=σ2
   (try dsimp only at Ha Na Ka)
   obtain⟨Da,hDa⟩:=Ha
   obtain⟨rfl,Q3⟩:=hDa
   obtain⟨oDa,rfl⟩:=Q3.wz
   have Ha:vm g2 (.agg [.own oDa 0 a.aj.length]) a ia:=⟨_,rfl,Q3⟩
   clear Q3
   have na:=Ka.1
   have ba:=Na.2
   (try dsimp only at na ba)
   have QV:∀i:Id,i.bR<x1->g2 i=g1 i:=fun i hi=>by
    have h4:=Ka.2 i cE
    have h5:=dW (i:=i) (n:=x1) hi
    simp only[go_sem, ↓reduceIte,Nat.reduceEqDiff,Nat.reduceAdd,Nat.reduceSub,Nat.reduceLeDiff,reduceCtorEq,h5]at h4
    exact h4
   have N4:=(QV ⟨4000000,n0⟩ cE).trans Lq
   have N5:=(QV ⟨4000001,n0⟩ cE).trans Lr
   have Ls:=Ka.2 ⟨4009002,x1⟩ cE
   simp only[go_sem, ↓reduceIte,Nat.reduceEqDiff,Nat.reduceAdd,Nat.reduceSub,Nat.reduceLeDiff,reduceCtorEq]at Ls
   have Hs:=Hs.frame (g':=g2) fun i hi=>QV i (by have:=bs i hi;omega)
   clear Ka
   refine hN _ _ ?_
   clear hN N
   (try((repeat(revert hN;revert N;apply Pn.out));refine wk (tw @N4 (tw @N5 @Ls)) ?_;(repeat(refine Pn.mk ?_;intro N hN))))
   refine .inr (bd _ _ _ _ _ (fun r' σ3 hq=>?_) (C8 mixed (K:=fun r g ids=>(∃v0 i0,r=.im [v0,.int .i64 c1]/\iw g v0 L0 i0/\ids=i0)) (by
    rintro r g ids ⟨v0,i0,rfl,k0,rfl⟩
    exact⟨by simp[Ap,Dn k0.clean,Ao,xR],(k0.hand)⟩) (by
    rintro r g g' ids ⟨v0,i0,rfl,k0,rfl⟩ hf
    exact⟨v0,ids,rfl,k0.frame (fun i hi=>hf i (by simp[hi])),rfl⟩) r2 (Oe ((Hs.frame fun i hi=>by
    have h5:=dW (i:=i) (n:=x2) (by have:=bs i hi;omega)
    simp only[go_sem, ↓reduceIte,Nat.reduceEqDiff,Nat.reduceAdd,Nat.reduceSub,Nat.reduceLeDiff,reduceCtorEq,h5]).fz 1) ((Ha.frame fun i hi=>by
    have h5:=dW (i:=i) (n:=x2) (by have:=ba i hi;omega)
    simp only[go_sem, ↓reduceIte,Nat.reduceEqDiff,Nat.reduceAdd,Nat.reduceSub,Nat.reduceLeDiff,reduceCtorEq,h5]).fz 2) (az _ _ _ _))))
   obtain⟨iZ,⟨v0,iZ0,rfl,Z0,rfl⟩,NZ,KZ⟩:=hq
   obtain⟨g3,x3⟩:=σ3
   (try dsimp only at Z0 NZ KZ)
   have nZ:=KZ.1
   (try dsimp only at nZ)
   have N0:=NZ
   have b0:=N0.2
   (try dsimp only at b0)
   have Oa:∀i:Id,i.bR<x2->g3 i=g2 i:=fun i hi=>by
    have h4:=KZ.2 i cE
    have h5:=dW (i:=i) (n:=x2) hi
    simp only[go_sem, ↓reduceIte,Nat.reduceEqDiff,Nat.reduceAdd,Nat.reduceSub,Nat.reduceLeDiff,reduceCtorEq,h5]at h4
    exact h4
   have Ay:=(Oa ⟨4000000,n0⟩ cE).trans N4
   have Az:=(Oa ⟨4000001,n0⟩ cE).trans N5
   have DF:=(Oa ⟨4009002,x1⟩ cE).trans Ls
   have yc:=KZ.2 ⟨4010002,x2⟩ cE
   simp only[go_sem, ↓reduceIte,Nat.reduceEqDiff,Nat.reduceAdd,Nat.reduceSub,Nat.reduceLeDiff,reduceCtorEq]at yc
   have Hs:=Hs.frame (g':=g3) fun i hi=>Oa i (by have:=bs i hi;omega)
   have Ha:=Ha.frame (g':=g3) fun i hi=>Oa i (by have:=ba i hi;omega)
   clear KZ
   refine hN _ _ ?_
   clear hN N
   (try((repeat(revert hN;revert N;apply Pn.out));refine wk (tw @Ay (tw @Az (tw @DF @yc))) ?_;(repeat(refine Pn.mk ?_;intro N hN))))
   refine .inl ⟨_,ak.x (vQ Z0.Ei Fk) (tz ((Z0.frame fun i hi=>by
    have h5:=dW (i:=i) (n:=x3) (by have:=b0 i hi;omega)
    simp only[go_sem, ↓reduceIte,Nat.reduceEqDiff,Nat.reduceAdd,Nat.reduceSub,Nat.reduceLeDiff,reduceCtorEq,h5]).Nn) (Fk.fz _)),?_⟩
   refine hN _ _ ?_
   clear hN N
   (try((repeat(revert hN;revert N;apply Pn.out));refine wk (tw @Ay (tw @Az (tw @DF (tw @yc @HX)))) ?_;(repeat(refine Pn.mk ?_;intro N hN))))
   refine⟨_,ki.x (by rw[aa]at t1;exact t1) _,?_⟩
   refine hN _ _ ?_
   clear hN N
   (try((repeat(revert hN;revert N;apply Pn.out));refine wk (tw @Ay (tw @Az (tw @DF (tw @yc @HX)))) ?_;(repeat(refine Pn.mk ?_;intro N hN))))
   refine⟨_,ak.x (by rw[aa]at q1;exact q1) (by rw[<-aa];exact JO (Hs.frame fun i hi=>by
    have h5:=dW (i:=i) (n:=x3) (by have:=bs i hi;omega)
    simp only[go_sem, ↓reduceIte,Nat.reduceEqDiff,Nat.reduceAdd,Nat.reduceSub,Nat.reduceLeDiff,reduceCtorEq,h5]) (Cg _ _)),?_⟩
   refine hN _ _ ?_
   clear hN N
   (try((repeat(revert hN;revert N;apply Pn.out));refine wk (tw @Ay (tw @Az (tw @DF (tw @yc @HX)))) ?_;(repeat(refine Pn.mk ?_;intro N hN))))
   refine⟨_,ki.x (by rw[aY]at t2;exact t2) _,?_⟩
   refine hN _ _ ?_
   clear hN N
   (try((repeat(revert hN;revert N;apply Pn.out));refine wk (tw @Ay (tw @Az (tw @DF (tw @yc @HX)))) ?_;(repeat(refine Pn.mk ?_;intro N hN))))
   refine⟨_,ak.x (by rw[aY]at q2;exact q2) (by rw[<-aY];exact Il (Ha.frame fun i hi=>by
    have h5:=dW (i:=i) (n:=x3) (by have:=ba i hi;omega)
    simp only[go_sem, ↓reduceIte,Nat.reduceEqDiff,Nat.reduceAdd,Nat.reduceSub,Nat.reduceLeDiff,reduceCtorEq,h5]) (Cf _ _)),?_⟩
   refine hN _ _ ?_
   clear hN N
   (try((repeat(revert hN;revert N;apply Pn.out));refine wk (tw @Ay (tw @Az (tw @DF (tw @yc @HX)))) ?_;(repeat(refine Pn.mk ?_;intro N hN))))
   have LY:=Jm s
   refine .inr (bd _ _ _ _ _ (fun r' σ4 hq=>?_) (Eo _ s _ 1 ad sm.t ad _ (fun i hi=>by have:=bs i hi;(try dsimp only);omega) Ns.1 (Hs.frame fun i hi=>by
    have h5:=dW (i:=i) (n:=x3) (by have:=bs i hi;omega)
    simp only[go_sem, ↓reduceIte,Nat.reduceEqDiff,Nat.reduceAdd,Nat.reduceSub,Nat.reduceLeDiff,reduceCtorEq,h5])))
   obtain⟨rfl,hM⟩:=hq
   obtain⟨g4,x4⟩:=σ4
   (try dsimp only at hM)
   have nM4:=hM.1
   (try dsimp only at nM4)
   have Ob:∀i:Id,i.bR<x3->i∉is->g4 i=g3 i:=fun i hi hx=>hM.2 i cE hx
   have N6:=(Ob ⟨4000000,n0⟩ cE (Ns.not cE)).trans Ay
   have N7:=(Ob ⟨4000001,n0⟩ cE (Ns.not cE)).trans Az
   have QT:=(Ob ⟨4010002,x2⟩ cE (Ns.not cE)).trans yc
   have Ha:=Ha.frame (g':=g4) fun i hi=>Ob i (by have:=ba i hi;omega) (Ns.not (by have:=ba i hi;omega))
   have Z0:=Z0.frame (g':=g4) fun i hi=>Ob i (by have:=b0 i hi;omega) (Ns.not (by have:=b0 i hi;omega))
   clear hM
   refine hN _ _ ?_
   clear hN N
   (try((repeat(revert hN;revert N;apply Pn.out));refine wk (tw @N6 (tw @N7 @QT)) ?_;(repeat(refine Pn.mk ?_;intro N hN))))
   refine .inr (bd _ _ _ _ _ (fun r' σ5 hq=>?_) (Ek _ a _ (1+y6 s) ad ad _ (fun i hi=>by have:=ba i hi;(try dsimp only);omega) Ha))
   obtain⟨rfl,hM⟩:=hq
   obtain⟨g5,x5⟩:=σ5
   (try dsimp only at hM)
   have nM5:=hM.1
   (try dsimp only at nM5)
   have QW:∀i:Id,i.bR<x4->i∉ia->g5 i=g4 i:=fun i hi hx=>hM.2 i cE hx
   have Lt:=(QW ⟨4000000,n0⟩ cE (Na.not cE)).trans N6
   have Lu:=(QW ⟨4000001,n0⟩ cE (Na.not cE)).trans N7
   have Z0:=Z0.frame (g':=g5) fun i hi=>QW i (by have:=b0 i hi;omega) (Na.not (by have:=b0 i hi;omega))
   clear hM
   have e3:decide (1+((y6 s:Nat):Int)+3*(a.aj.length:Int)<0)=false:=decide_eq_false ad
   refine hN _ _ ?_
   clear hN N
   (try((repeat(revert hN;revert N;apply Pn.out));refine wk (tw @Lt (tw @Lu @e3)) ?_;(repeat(refine Pn.mk ?_;intro N hN))))
   refine .inl ⟨_,ak.x (vQ Z0.Ei Fk) (tz (Z0.Nn) (Fk.fz _)),?_⟩
   refine hN _ _ ?_
   clear hN N
   (try((repeat(revert hN;revert N;apply Pn.out));refine wk (tw @Lt (tw @Lu (tw @HX @e3))) ?_;(repeat(refine Pn.mk ?_;intro N hN))))
   refine .inr (bd _ _ _ _ _ (fun r' σ6 hq=>?_) (Em 1 ad ad _ (fun i hi=>by have:=b0 i hi;(try dsimp only);omega) N0.1 Z0))
   obtain⟨rfl,hM,Y0⟩:=hq
   obtain⟨g6,x6⟩:=σ6
   (try dsimp only at hM Y0)
   have nM6:=hM.1
   (try dsimp only at nM6)
   have fr6:∀i:Id,i.bR<x5->i∉iZ->g6 i=g5 i:=fun i hi hx=>hM.2 i cE hx
   have AA:=(fr6 ⟨4000000,n0⟩ cE (N0.not cE)).trans Lt
   have AB:=(fr6 ⟨4000001,n0⟩ cE (N0.not cE)).trans Lu
   clear hM
   refine hN _ _ ?_
   clear hN N
   (try((repeat(revert hN;revert N;apply Pn.out));refine wk (tw @AA @AB) ?_;(repeat(refine Pn.mk ?_;intro N hN))))
   have P5:decide (1+(((L0.map kh).sum:Nat):Int)<0)=false:=decide_eq_false ad
   refine .inl ⟨_,ak.x (uJ 1 L0 ad ad Y0.Ei) (tz (Y0.Nn) (az _ _ _ _)),?_⟩
   refine hN _ _ ?_
   clear hN N
   have e5:decide (1+(((L0.map kh).sum:Nat):Int)=1+(((L0.map kh).sum:Nat):Int))=true:=decide_eq_true rfl
   (try((repeat(revert hN;revert N;apply Pn.out));refine wk (tw @AA (tw @AB (tw @P5 @e5))) ?_;(repeat(refine Pn.mk ?_;intro N hN))))
   refine⟨_,ki.x (by rw[aa]at t1;exact t1) _,?_⟩
   refine hN _ _ ?_
   clear hN N
   (try((repeat(revert hN;revert N;apply Pn.out));refine wk (tw @AA (tw @AB (tw @P5 @e5))) ?_;(repeat(refine Pn.mk ?_;intro N hN))))
   refine⟨_,ki.x (by rw[aY]at t2;exact t2) _,?_⟩
   refine hN _ _ ?_
   clear hN N
   (try((repeat(revert hN;revert N;apply Pn.out));refine wk (tw @AA (tw @AB (tw @P5 @e5))) ?_;(repeat(refine Pn.mk ?_;intro N hN))))
   have rs:ak Tryz.prog 24 [.agg (aa s),.agg (aY a),.int .i64 t] (.im [Mv qV L0,.int .i64 c1]):=fun n=>bd _ _ _ _ _ (fun r σ' hq=>by
    obtain⟨ids,⟨v0,i0,rfl,k0,rfl⟩,-⟩:=hq
    exact⟨_,by simp only[lr,cN,dC,vT,k0.s,fV,jS,Option.map_some]<;>rfl,rfl⟩) (r2 n)
   refine⟨_,ak.x (by rw[aa,aY]at rs;exact rs) (Oe (by rw[<-aa];exact Cg _ _) (by rw[<-aY];exact Cf _ _) (az _ _ _ _)),?_⟩
   refine hN _ _ ?_
   clear hN N
   have H6:=(G5 (e:=qV) (L:=L0))
   generalize Mv qV L0=u0 at H6 ⊢
   (try((repeat(revert hN;revert N;apply Pn.out));refine wk (tw @AA (tw @AB @HX)) ?_;(repeat(refine Pn.mk ?_;intro N hN))))
   refine .inl ⟨_,ak.x (vQ H6 Fk) (tz (H6.fz _) (Fk.fz _)),?_⟩
   refine hN _ _ ?_
   clear hN N
   (try((repeat(revert hN;revert N;apply Pn.out));refine wk (tw @AA (tw @AB @HX)) ?_;(repeat(refine Pn.mk ?_;intro N hN))))
   refine .inl ⟨_,ak.x (uJ 1 L0 ad ad Y0.Ei) (tz ((Y0.frame fun i hi=>by
    have h5:=dW (i:=i) (n:=x6) (by have:=b0 i hi;omega)
    simp only[go_sem, ↓reduceIte,Nat.reduceEqDiff,Nat.reduceAdd,Nat.reduceSub,Nat.reduceLeDiff,reduceCtorEq,h5]).Nn) (az _ _ _ _)),?_⟩
   refine hN _ _ ?_
   clear hN N
   (try((repeat(revert hN;revert N;apply Pn.out));refine wk (tw @AA (tw @AB (tw @P5 @e5))) ?_;(repeat(refine Pn.mk ?_;intro N hN))))
   exact bt (b:=true) (.inl rfl) (sd @Nat.zero_add) rfl
  ·rw[jy OD]at h2
   rw[aa]at h1
   rw[aY]at h2
   (repeat(first|((repeat(revert hN;revert N;apply Pn.out));refine wk (tw @aa.eq_1 (tw @aY.eq_1 @DM)) ?_;(repeat(refine Pn.mk ?_;intro N hN)))|((try apply Or.inl);refine⟨_,ak.x (h1) (sd (tw @aa.eq_1 (tw @aY.eq_1 @DM))),?_⟩;refine hN _ _ ?_;clear hN N)|((try apply Or.inl);refine⟨_,ak.x (h2) (sd (tw @aa.eq_1 (tw @aY.eq_1 @DM))),?_⟩;refine hN _ _ ?_;clear hN N)))
   exact bt (b:=true) (.inl rfl) (sd @Nat.zero_add) rfl
 ·rw[jy OC]at h1
  rw[aa]at h1
  (repeat(first|((repeat(revert hN;revert N;apply Pn.out));refine wk (tw @aa.eq_1 @aY.eq_1) ?_;(repeat(refine Pn.mk ?_;intro N hN)))|((try apply Or.inl);refine⟨_,ak.x (h1) (sd (tw @aa.eq_1 @aY.eq_1)),?_⟩;refine hN _ _ ?_;clear hN N)))
  exact bt (b:=true) (.inl rfl) (sd @Nat.zero_add) rfl
def ig (n lo hi:Int):Bool:=decide (lo<=n)&&decide (n<=hi)
theorem ei {n lo hi:Int} (h:ig n lo hi=true):lo<=n/\n<=hi:=by simpa[ig]using h
theorem sM {n lo hi:Int} (h:lo<=n/\n<=hi):ig n lo hi=true:=by simpa[ig]using h
def EE (p:br):Bool:=ig p.fZ (-60) 60&&ig p.fC (-60) 60
theorem kE (n lo hi:Int):ak Tryz.prog 128 [.int .i64 n,.int .i64 lo,.int .i64 hi] (.bool (ig n lo hi)):=by
 refine ak.body eL rfl fun hl n0=>?_
 clear hl
 by_cases h1:lo<=n
 ·(try((repeat(revert hN;revert N;apply Pn.out));refine wk @h1 ?_;(repeat(refine Pn.mk ?_;intro N hN))))
  exact bt (b:=decide (n<=hi)) (.inl rfl) (sd @Nat.zero_add) (by simp[ig,h1])
 ·(try((repeat(revert hN;revert N;apply Pn.out));refine wk @h1 ?_;(repeat(refine Pn.mk ?_;intro N hN))))
  exact bt (b:=false) (.inl rfl) (sd @Nat.zero_add) (by simp[ig,h1])
theorem ke (n lo hi:Int):ak Tryz.prog 198 [.int .i64 n,.int .i64 lo,.int .i64 hi] (.bool (ig n lo hi)):=by
 refine ak.body eL rfl fun hl n0=>?_
 clear hl
 by_cases h1:lo<=n
 ·(try((repeat(revert hN;revert N;apply Pn.out));refine wk @h1 ?_;(repeat(refine Pn.mk ?_;intro N hN))))
  exact bt (b:=decide (n<=hi)) (.inl rfl) (sd @Nat.zero_add) (by simp[ig,h1])
 ·(try((repeat(revert hN;revert N;apply Pn.out));refine wk @h1 ?_;(repeat(refine Pn.mk ?_;intro N hN))))
  exact bt (b:=false) (.inl rfl) (sd @Nat.zero_add) (by simp[ig,h1])
theorem GN (d:Int):ak Tryz.prog 321 [.int .i64 d] (.bool (ig d 0 3)):=by
 refine ak.body eL rfl fun hl n0=>?_
 clear hl
 have h:=kE d 0 3
 (repeat(first|((repeat(revert hN;revert N;apply Pn.out));refine wk @Nat.zero_add ?_;(repeat(refine Pn.mk ?_;intro N hN)))|((try apply Or.inl);refine⟨_,ak.x (h) (sd @Nat.zero_add),?_⟩;refine hN _ _ ?_;clear hN N)))
 exact bt (b:=ig d 0 3) (.inl rfl) (sd @Nat.zero_add) rfl
theorem Bd (p:br):ak Tryz.prog 217 [.agg (aq p)] (.bool (EE p)):=by
 refine ak.body eL rfl fun hl n0=>?_
 clear hl
 have h1:=kE p.fZ (-60) 60
 have h2:=kE p.fC (-60) 60
 by_cases q:ig p.fZ (-60) 60=true
 ·rw[q]at h1
  (repeat(first|((repeat(revert hN;revert N;apply Pn.out));refine wk @aq.eq_1 ?_;(repeat(refine Pn.mk ?_;intro N hN)))|((try apply Or.inl);refine⟨_,ak.x (h1) (sd @aq.eq_1),?_⟩;refine hN _ _ ?_;clear hN N)|((try apply Or.inl);refine⟨_,ak.x (h2) (sd @aq.eq_1),?_⟩;refine hN _ _ ?_;clear hN N)))
  exact bt (b:=ig p.fC (-60) 60) (.inl rfl) (sd @Nat.zero_add) (by rw[EE,q];rfl)
 ·rw[Bool.not_eq_true]at q
  rw[q]at h1
  (repeat(first|((repeat(revert hN;revert N;apply Pn.out));refine wk @aq.eq_1 ?_;(repeat(refine Pn.mk ?_;intro N hN)))|((try apply Or.inl);refine⟨_,ak.x (h1) (sd @aq.eq_1),?_⟩;refine hN _ _ ?_;clear hN N)|((try apply Or.inl);refine⟨_,ak.x (h2) (sd @aq.eq_1),?_⟩;refine hN _ _ ?_;clear hN N)))
  exact bt (b:=false) (.inl rfl) (sd @Nat.zero_add) (by rw[EE,q];rfl)
theorem vC (p:br):ak Tryz.prog 232 [.agg (aq p)] (.bool (EE p)):=by
 refine ak.body eL rfl fun hl n0=>?_
 clear hl
 have h1:=ke p.fZ (-60) 60
 have h2:=ke p.fC (-60) 60
 by_cases q:ig p.fZ (-60) 60=true
 ·rw[q]at h1
  (repeat(first|((repeat(revert hN;revert N;apply Pn.out));refine wk @aq.eq_1 ?_;(repeat(refine Pn.mk ?_;intro N hN)))|((try apply Or.inl);refine⟨_,ak.x (h1) (sd @aq.eq_1),?_⟩;refine hN _ _ ?_;clear hN N)|((try apply Or.inl);refine⟨_,ak.x (h2) (sd @aq.eq_1),?_⟩;refine hN _ _ ?_;clear hN N)))
  exact bt (b:=ig p.fC (-60) 60) (.inl rfl) (sd @Nat.zero_add) (by rw[EE,q];rfl)
 ·rw[Bool.not_eq_true]at q
  rw[q]at h1
  (repeat(first|((repeat(revert hN;revert N;apply Pn.out));refine wk @aq.eq_1 ?_;(repeat(refine Pn.mk ?_;intro N hN)))|((try apply Or.inl);refine⟨_,ak.x (h1) (sd @aq.eq_1),?_⟩;refine hN _ _ ?_;clear hN N)|((try apply Or.inl);refine⟨_,ak.x (h2) (sd @aq.eq_1),?_⟩;refine hN _ _ ?_;clear hN N)))
  exact bt (b:=false) (.inl rfl) (sd @Nat.zero_add) (by rw[EE,q];rfl)
def qy (d:Int):Int:=if ig d 0 3 then(d+2) % 4 else -1
def ej (p:br) (d:Int):br:=
 if d=0 then⟨p.fZ,p.fC+1⟩else if d=1 then⟨p.fZ+1,p.fC⟩else if d=2 then⟨p.fZ,p.fC-1⟩else if d=3 then⟨p.fZ-1,p.fC⟩else p
def iB (n:Int):Prop:=-4611686018427387904<=n/\n<=4611686018427387904
theorem Ea (p:br) (d:Int) (hd:ig d 0 3=true) (hx:iB p.fZ) (hy:iB p.fC):ak Tryz.prog 244 [.agg (aq p),.int .i64 d] (.agg (aq (ej p d))):=by
 refine ak.body eL rfl fun hl n0=>?_
 clear hl
 obtain⟨x1,x2⟩:=hx
 obtain⟨y1,y2⟩:=hy
 have w1:IntKind.i64.wrap (p.fZ+1)=p.fZ+1:=bP ad
 have w2:IntKind.i64.wrap (p.fZ-1)=p.fZ-1:=bP ad
 have w3:IntKind.i64.wrap (p.fC+1)=p.fC+1:=bP ad
 have w4:IntKind.i64.wrap (p.fC-1)=p.fC-1:=bP ad
 have hb:=ei hd
 have hc:d=0∨d=1∨d=2∨d=3:=ad
 rcases hc with rfl|rfl|rfl|rfl
 ·(try((repeat(revert hN;revert N;apply Pn.out));refine wk (tw @aq.eq_1 @w3) ?_;(repeat(refine Pn.mk ?_;intro N hN))))
  exact mU (.inl rfl) (vs:=[.agg (aq (ej p 0))]) (by simp only[go_sem, ↓reduceIte,Nat.reduceEqDiff,Nat.reduceAdd,Nat.reduceSub,Nat.reduceLeDiff,reduceCtorEq,fe,iq,aq,ej]) (by simp[eH,aq,fu,dM])
 ·(try((repeat(revert hN;revert N;apply Pn.out));refine wk (tw @aq.eq_1 @w1) ?_;(repeat(refine Pn.mk ?_;intro N hN))))
  exact mU (.inl rfl) (vs:=[.agg (aq (ej p 1))]) (by simp[fe,iq,aq,ej,ld,rowAt,bC,upd,part]) (by simp[eH,aq,fu,dM])
 ·(try((repeat(revert hN;revert N;apply Pn.out));refine wk (tw @aq.eq_1 @w4) ?_;(repeat(refine Pn.mk ?_;intro N hN))))
  exact mU (.inl rfl) (vs:=[.agg (aq (ej p 2))]) (by simp[fe,iq,aq,ej,ld,rowAt,bC,upd,part]) (by simp[eH,aq,fu,dM])
 ·(try((repeat(revert hN;revert N;apply Pn.out));refine wk (tw @aq.eq_1 @w2) ?_;(repeat(refine Pn.mk ?_;intro N hN))))
  exact mU (.inl rfl) (vs:=[.agg (aq (ej p 3))]) (by simp[fe,iq,aq,ej,ld,rowAt,bC,upd,part]) (by simp[eH,aq,fu,dM])
theorem wQ (p p2:br) (x y:Int) (hx:IntKind.i64.wrap (p.fZ+p2.fZ)=x) (hy:IntKind.i64.wrap (p.fC+p2.fC)=y):ak Tryz.prog 254 [.agg (aq p),.agg (aq p2)] (.agg [.int .i64 x,.int .i64 y]):=by
 refine ak.body eL rfl fun hl n0=>?_
 clear hl
 (try((repeat(revert hN;revert N;apply Pn.out));refine wk (tw @aq.eq_1 (tw @hx @hy)) ?_;(repeat(refine Pn.mk ?_;intro N hN))))
 exact mU (.inl rfl) (vs:=[.agg [.int .i64 x,.int .i64 y]]) (by simp only[go_sem, ↓reduceIte,Nat.reduceEqDiff,Nat.reduceAdd,Nat.reduceSub,Nat.reduceLeDiff,reduceCtorEq,fe,iq,aq]) (by simp[eH,fu,dM])
theorem MI (p:br) (d:Int) (hd:ig d 0 3=true) (hx:iB p.fZ) (hy:iB p.fC):ak Tryz.prog 161 [.agg (aq p),.int .i64 d] (.agg (aq (ej p d))):=by
 refine ak.body eL rfl fun hl n0=>?_
 clear hl
 obtain⟨x1,x2⟩:=hx
 obtain⟨y1,y2⟩:=hy
 have hb:=ei hd
 have hc:d=0∨d=1∨d=2∨d=3:=ad
 rcases hc with rfl|rfl|rfl|rfl
 ·have h:=wQ p ⟨0,1⟩ (p.fZ) (p.fC+1) (by rw[bP (by constructor<;>simp only<;>omega)]<;>(try simp only)<;>(try omega)) (by rw[bP (by constructor<;>simp only<;>omega)]<;>(try simp only)<;>(try omega))
  simp only[aq]at h
  (repeat(first|((repeat(revert hN;revert N;apply Pn.out));refine wk @aq.eq_1 ?_;(repeat(refine Pn.mk ?_;intro N hN)))|((try apply Or.inl);refine⟨_,ak.x (h) (sd @aq.eq_1),?_⟩;refine hN _ _ ?_;clear hN N)))
  exact mU (.inl rfl) (vs:=[.agg (aq (ej p 0))]) (by simp[fe,iq,aq,ej,ld,rowAt,bC,upd,part]) (by simp[eH,aq,fu,dM])
 ·have h:=wQ p ⟨1,0⟩ (p.fZ+1) (p.fC) (by rw[bP (by constructor<;>simp only<;>omega)]<;>(try simp only)<;>(try omega)) (by rw[bP (by constructor<;>simp only<;>omega)]<;>(try simp only)<;>(try omega))
  simp only[aq]at h
  (repeat(first|((repeat(revert hN;revert N;apply Pn.out));refine wk @aq.eq_1 ?_;(repeat(refine Pn.mk ?_;intro N hN)))|((try apply Or.inl);refine⟨_,ak.x (h) (sd @aq.eq_1),?_⟩;refine hN _ _ ?_;clear hN N)))
  exact mU (.inl rfl) (vs:=[.agg (aq (ej p 1))]) (by simp[fe,iq,aq,ej,ld,rowAt,bC,upd,part]) (by simp[eH,aq,fu,dM])
 ·have h:=wQ p ⟨0,(-1)⟩ (p.fZ) (p.fC-1) (by rw[bP (by constructor<;>simp only<;>omega)]<;>(try simp only)<;>(try omega)) (by rw[bP (by constructor<;>simp only<;>omega)]<;>(try simp only)<;>(try omega))
  simp only[aq]at h
  (repeat(first|((repeat(revert hN;revert N;apply Pn.out));refine wk @aq.eq_1 ?_;(repeat(refine Pn.mk ?_;intro N hN)))|((try apply Or.inl);refine⟨_,ak.x (h) (sd @aq.eq_1),?_⟩;refine hN _ _ ?_;clear hN N)))
  exact mU (.inl rfl) (vs:=[.agg (aq (ej p 2))]) (by simp[fe,iq,aq,ej,ld,rowAt,bC,upd,part]) (by simp[eH,aq,fu,dM])
 ·have h:=wQ p ⟨(-1),0⟩ (p.fZ-1) (p.fC) (by rw[bP (by constructor<;>simp only<;>omega)]<;>(try simp only)<;>(try omega)) (by rw[bP (by constructor<;>simp only<;>omega)]<;>(try simp only)<;>(try omega))
  simp only[aq]at h
  (repeat(first|((repeat(revert hN;revert N;apply Pn.out));refine wk @aq.eq_1 ?_;(repeat(refine Pn.mk ?_;intro N hN)))|((try apply Or.inl);refine⟨_,ak.x (h) (sd @aq.eq_1),?_⟩;refine hN _ _ ?_;clear hN N)))
  exact mU (.inl rfl) (vs:=[.agg (aq (ej p 3))]) (by simp[fe,iq,aq,ej,ld,rowAt,bC,upd,part]) (by simp[eH,aq,fu,dM])
theorem Bu (d:Int) (hd:ig d 0 3=true):ak Tryz.prog 162 [.int .i64 d] (.int .i64 (qy d)):=by
 refine ak.body eL rfl fun hl n0=>?_
 clear hl
 have hb:=ei hd
 have hw:IntKind.i64.wrap (d+2)=d+2:=bP ad
 have ht:Int.tmod (d+2) 4=(d+2) % 4:=Int.tmod_eq_emod_of_nonneg ad
 have h4:¬((4:Int)=0):=ad
 (try((repeat(revert hN;revert N;apply Pn.out));refine wk (tw @hw (tw @ht @h4)) ?_;(repeat(refine Pn.mk ?_;intro N hN))))
 exact cH (b:=(d+2) % 4) (.inl rfl) (sd @Nat.zero_add) (by rw[qy,if_pos hd])
theorem zZ (d:Int) (hd:ig d 0 3=true):ak Tryz.prog 276 [.int .i64 d] (.int .i64 (qy d)):=by
 refine ak.body eL rfl fun hl n0=>?_
 clear hl
 have hb:=ei hd
 have hw:IntKind.i64.wrap (d+2)=d+2:=bP ad
 have ht:Int.tmod (d+2) 4=(d+2) % 4:=Int.tmod_eq_emod_of_nonneg ad
 have h4:¬((4:Int)=0):=ad
 have h:=GN d
 rw[hd]at h
 (repeat(first|((repeat(revert hN;revert N;apply Pn.out));refine wk (tw @hw (tw @ht @h4)) ?_;(repeat(refine Pn.mk ?_;intro N hN)))|((try apply Or.inl);refine⟨_,ak.x (h) (sd (tw @hw (tw @ht @h4))),?_⟩;refine hN _ _ ?_;clear hN N)))
 exact cH (b:=(d+2) % 4) (.inl rfl) (sd @Nat.zero_add) (by rw[qy,if_pos hd])
def gp (s:ao) (t:Int):Bool:=ig t 0 ((s.aj.length:Int)-1)
theorem Be (s:ao) (t:Int):ak Tryz.prog 259 [.dI (aa s),.int .i64 t] (.bool (gp s t)):=by
 refine ak.body eL rfl fun hl n0=>?_
 have hn:s.aj.length<=9223372036854775807:=by
  have h1:=(hl (.dI (aa s)) (by simp)).yU (a:=.sl (s.aj.map bI)) (by simp[aa])
  simpa using h1.len
 clear hl
 have hw:IntKind.i64.wrap ((s.aj.length:Int)-1)=(s.aj.length:Int)-1:=bP ad
 have h:=kE t 0 ((s.aj.length:Int)-1)
 (repeat(first|((repeat(revert hN;revert N;apply Pn.out));refine wk (tw @aa.eq_1 @hw) ?_;(repeat(refine Pn.mk ?_;intro N hN)))|((try apply Or.inl);refine⟨_,ak.x (h) (sd (tw @aa.eq_1 @hw)),?_⟩;refine hN _ _ ?_;clear hN N)))
 exact bt (b:=gp s t) (.inl rfl) (by simp only[go_sem, ↓reduceIte,Nat.reduceEqDiff,Nat.reduceAdd,Nat.reduceSub,Nat.reduceLeDiff,reduceCtorEq,gp]) rfl
theorem uP (t n:Int) (h0:0<=n) (h1:n<=9223372036854775807):ak Tryz.prog 183 [.int .i64 t,.int .i64 n] (.bool (ig t 0 (n-1))):=by
 refine ak.body eL rfl fun hl n0=>?_
 clear hl
 have hw:IntKind.i64.wrap (n-1)=n-1:=bP ad
 have h:=ke t 0 (n-1)
 (repeat(first|((repeat(revert hN;revert N;apply Pn.out));refine wk @hw ?_;(repeat(refine Pn.mk ?_;intro N hN)))|((try apply Or.inl);refine⟨_,ak.x (h) (sd @hw),?_⟩;refine hN _ _ ?_;clear hN N)))
 exact bt (b:=ig t 0 (n-1)) (.inl rfl) (sd @Nat.zero_add) rfl
theorem GJ (s:ao) (t:Int):ak Tryz.prog 150 [.agg (aa s),.int .i64 t] (.bool (gp s t)):=by
 refine ak.body eL rfl fun hl n0=>?_
 have hn:s.aj.length<=9223372036854775807:=by
  have h1:=(hl (.agg (aa s)) (by simp)).K8 (a:=.sl (s.aj.map bI)) (by simp[aa])
  simpa using h1.len
 clear hl
 have h:=uP t s.aj.length ad ad
 (repeat(first|((repeat(revert hN;revert N;apply Pn.out));refine wk @aa.eq_1 ?_;(repeat(refine Pn.mk ?_;intro N hN)))|((try apply Or.inl);refine⟨_,ak.x (h) (sd @aa.eq_1),?_⟩;refine hN _ _ ?_;clear hN N)))
 exact bt (b:=gp s t) (.inl rfl) (by simp only[go_sem, ↓reduceIte,Nat.reduceEqDiff,Nat.reduceAdd,Nat.reduceSub,Nat.reduceLeDiff,reduceCtorEq,gp]) rfl
def Bp:eu:=⟨⟨#[]⟩,[]⟩
def dQ (s:ao) (t:Int):eu:=s.aj.getD t.toNat Bp
def dO (t:eu) (d:Int):Int:=t.bB.getD d.toNat 0
def qm (s:ao) (g:Int):eV:=s.ay.getD g.toNat ⟨⟨#[]⟩,0⟩
def tq (s:ao) (g:Int):Int:=if g=0 then 0 else(qm s (g-1)).ec
def gM (s:ao) (a d b:Int):Int:=if dO (dQ s a) d=dO (dQ s b) (qy d)then tq s (dO (dQ s a) d)else 0
structure jL (s:ao):Prop where
 tn:∀t∈s.aj,t.bB.length=4
 uH:∀t∈s.aj,∀g∈t.bB,0<=g/\g<=s.ay.length
theorem getD_map {α β:Type} (e:α->β) {l:List α} {k:Nat} {d:α} (h:k<l.length):(l.map e)[k]? =some (e (l.getD k d)):=by simp[List.getD_eq_getElem?_getD,h]
theorem uc (s:ao) (g:Int) (h0:0<=g) (h1:g<=s.ay.length):ak Tryz.prog 277 [.dI (aa s),.int .i64 g] (.int .i64 (tq s g)):=by
 refine ak.body eL rfl fun hl n0=>?_
 have hn:s.ay.length<=9223372036854775807:=by
  have h1:=(hl (.dI (aa s)) (by simp)).yU (a:=.sl (s.ay.map bS)) (by simp[aa])
  simpa using h1.len
 clear hl
 by_cases hg:g=0
 ·have e:decide (g=0)=true:=decide_eq_true hg
  (try((repeat(revert hN;revert N;apply Pn.out));refine wk (tw @aa.eq_1 @e) ?_;(repeat(refine Pn.mk ?_;intro N hN))))
  exact cH (b:=0) (.inl rfl) (sd @Nat.zero_add) (by rw[tq,if_pos hg])
 ·have e:decide (g=0)=false:=decide_eq_false hg
  have hw:IntKind.i64.wrap (g-1)=g-1:=bP ad
  have nR:0<=g-1:=ad
  have ev:(s.ay.map bS)[(g-1).toNat]? =some (bS (qm s (g-1))):=getD_map bS ad
  (try((repeat(revert hN;revert N;apply Pn.out));refine wk (tw @aa.eq_1 (tw @e (tw @hw (tw @nR (tw @ev @bS.eq_1))))) ?_;(repeat(refine Pn.mk ?_;intro N hN))))
  exact cH (b:=(qm s (g-1)).ec) (.inl rfl) (sd @Nat.zero_add) (by rw[tq,if_neg hg])
theorem nh {s:ao} {a:Int} (h:gp s a=true):0<=a/\(s.aj.map bI)[a.toNat]? =some (bI (dQ s a))/\dQ s a∈s.aj:=by
 have h':=ei h
 have ea:a.toNat<s.aj.length:=ad
 refine⟨h'.1,getD_map bI ea,?_⟩
 unfold dQ
 rw[List.getD_eq_getElem?_getD,List.getElem?_eq_getElem ea]
 exact List.getElem_mem ea
theorem mY {t:eu} {d:Int} (h:t.bB.length=4) (hd:ig d 0 3=true):(t.bB.map aM)[d.toNat]? =some [.int .i64 (dO t d)]:=by
 have:=ei hd
 exact getD_map aM ad
theorem zt {t:eu} {d:Int} (h:t.bB.length=4) (hd:ig d 0 3=true):dO t d∈t.bB:=by
 have:=ei hd
 have ea:d.toNat<t.bB.length:=ad
 unfold dO
 rw[List.getD_eq_getElem?_getD,List.getElem?_eq_getElem ea]
 exact List.getElem_mem ea
theorem wO {d:Int} (hd:ig d 0 3=true):ig (qy d) 0 3=true:=by
 have:=ei hd
 refine sM ?_
 rw[qy,if_pos hd];omega
theorem Eb (s:ao) (hF:jL s) (a d b:Int) (ha:gp s a=true) (hb:gp s b=true) (hd:ig d 0 3=true):ak Tryz.prog 191 [.dI (aa s),.int .i64 a,.int .i64 d,.int .i64 b] (.int .i64 (gM s a d b)):=by
 refine ak.body eL rfl fun hl n0=>?_
 clear hl
 obtain⟨a0,a1,a2⟩:=nh ha
 obtain⟨b0,b1,b2⟩:=nh hb
 have s1:=mY (hF.tn _ a2) hd
 have s2:=mY (hF.tn _ b2) (wO hd)
 have gl:=hF.uH _ a2 _ (zt (hF.tn _ a2) hd)
 have d0:=(ei hd).1
 have d1:=(ei (wO hd)).1
 have h:=zZ d hd
 have hs:=uc s (dO (dQ s a) d) gl.1 gl.2
 rw[aa]at hs
 by_cases e:dO (dQ s a) d=dO (dQ s b) (qy d)
 ·have e':decide (dO (dQ s a) d=dO (dQ s b) (qy d))=true:=decide_eq_true e
  (repeat(first|((repeat(revert hN;revert N;apply Pn.out));refine wk (tw @aa.eq_1 (tw @bI.eq_1 (tw @a0 (tw @a1 (tw @b0 (tw @b1 (tw @s1 (tw @s2 (tw @d0 (tw @d1 @e')))))))))) ?_;(repeat(refine Pn.mk ?_;intro N hN)))|((try apply Or.inl);refine⟨_,ak.x (h) (sd (tw @aa.eq_1 (tw @bI.eq_1 (tw @a0 (tw @a1 (tw @b0 (tw @b1 (tw @s1 (tw @s2 (tw @d0 (tw @d1 @e'))))))))))),?_⟩;refine hN _ _ ?_;clear hN N)|((try apply Or.inl);refine⟨_,ak.x (hs) (sd (tw @aa.eq_1 (tw @bI.eq_1 (tw @a0 (tw @a1 (tw @b0 (tw @b1 (tw @s1 (tw @s2 (tw @d0 (tw @d1 @e'))))))))))),?_⟩;refine hN _ _ ?_;clear hN N)))
  exact cH (b:=tq s (dO (dQ s a) d)) (.inl rfl) (sd @Nat.zero_add) (by rw[gM,if_pos e])
 ·have e':decide (dO (dQ s a) d=dO (dQ s b) (qy d))=false:=decide_eq_false e
  (repeat(first|((repeat(revert hN;revert N;apply Pn.out));refine wk (tw @aa.eq_1 (tw @bI.eq_1 (tw @a0 (tw @a1 (tw @b0 (tw @b1 (tw @s1 (tw @s2 (tw @d0 (tw @d1 @e')))))))))) ?_;(repeat(refine Pn.mk ?_;intro N hN)))|((try apply Or.inl);refine⟨_,ak.x (h) (sd (tw @aa.eq_1 (tw @bI.eq_1 (tw @a0 (tw @a1 (tw @b0 (tw @b1 (tw @s1 (tw @s2 (tw @d0 (tw @d1 @e'))))))))))),?_⟩;refine hN _ _ ?_;clear hN N)))
  exact cH (b:=0) (.inl rfl) (sd @Nat.zero_add) (by rw[gM,if_neg e])
theorem BO (s:ao) (hF:jL s) (a d:Int) (ha:gp s a=true) (hd:ig d 0 3=true):ak Tryz.prog 327 [.agg (aa s),.int .i64 a,.int .i64 d] (.int .i64 (tq s (dO (dQ s a) d))):=by
 refine ak.body eL rfl fun hl n0=>?_
 have hn:s.ay.length<=9223372036854775807:=by
  have h1:=(hl (.agg (aa s)) (by simp)).K8 (a:=.sl (s.ay.map bS)) (by simp[aa])
  simpa using h1.len
 clear hl
 obtain⟨a0,a1,a2⟩:=nh ha
 have s1:=mY (hF.tn _ a2) hd
 have gl:=hF.uH _ a2 _ (zt (hF.tn _ a2) hd)
 have d0:=(ei hd).1
 by_cases hg:dO (dQ s a) d=0
 ·have e:¬(0<dO (dQ s a) d):=ad
  (try((repeat(revert hN;revert N;apply Pn.out));refine wk (tw @aa.eq_1 (tw @bI.eq_1 (tw @a0 (tw @a1 (tw @s1 (tw @d0 @e)))))) ?_;(repeat(refine Pn.mk ?_;intro N hN))))
  exact cH (b:=0) (.inl rfl) (sd @Nat.zero_add) (by rw[tq,if_pos hg])
 ·have e:0<dO (dQ s a) d:=ad
  have hw:IntKind.i64.wrap (dO (dQ s a) d-1)=dO (dQ s a) d-1:=bP ad
  have nR:0<=dO (dQ s a) d-1:=ad
  have ev:(s.ay.map bS)[(dO (dQ s a) d-1).toNat]? =some (bS (qm s (dO (dQ s a) d-1))):=getD_map bS ad
  (try((repeat(revert hN;revert N;apply Pn.out));refine wk (tw @aa.eq_1 (tw @bI.eq_1 (tw @a0 (tw @a1 (tw @s1 (tw @d0 (tw @e (tw @hw (tw @nR (tw @ev @bS.eq_1)))))))))) ?_;(repeat(refine Pn.mk ?_;intro N hN))))
  exact cH (b:=(qm s (dO (dQ s a) d-1)).ec) (.inl rfl) (sd @Nat.zero_add) (by rw[tq,if_neg hg])
theorem Le (s:ao) (hF:jL s) (a d b:Int) (ha:gp s a=true) (hb:gp s b=true) (hd:ig d 0 3=true):ak Tryz.prog 283 [.agg (aa s),.int .i64 a,.int .i64 d,.int .i64 b] (.int .i64 (gM s a d b)):=by
 refine ak.body eL rfl fun hl n0=>?_
 clear hl
 obtain⟨a0,a1,a2⟩:=nh ha
 obtain⟨b0,b1,b2⟩:=nh hb
 have s1:=mY (hF.tn _ a2) hd
 have s2:=mY (hF.tn _ b2) (wO hd)
 have d0:=(ei hd).1
 have d1:=(ei (wO hd)).1
 have h:=Bu d hd
 have hs:=BO s hF a d ha hd
 rw[aa]at hs
 by_cases e:dO (dQ s a) d=dO (dQ s b) (qy d)
 ·have e':decide (dO (dQ s a) d=dO (dQ s b) (qy d))=true:=decide_eq_true e
  (repeat(first|((repeat(revert hN;revert N;apply Pn.out));refine wk (tw @aa.eq_1 (tw @bI.eq_1 (tw @a0 (tw @a1 (tw @b0 (tw @b1 (tw @s1 (tw @s2 (tw @d0 (tw @d1 @e')))))))))) ?_;(repeat(refine Pn.mk ?_;intro N hN)))|((try apply Or.inl);refine⟨_,ak.x (h) (sd (tw @aa.eq_1 (tw @bI.eq_1 (tw @a0 (tw @a1 (tw @b0 (tw @b1 (tw @s1 (tw @s2 (tw @d0 (tw @d1 @e'))))))))))),?_⟩;refine hN _ _ ?_;clear hN N)|((try apply Or.inl);refine⟨_,ak.x (hs) (sd (tw @aa.eq_1 (tw @bI.eq_1 (tw @a0 (tw @a1 (tw @b0 (tw @b1 (tw @s1 (tw @s2 (tw @d0 (tw @d1 @e'))))))))))),?_⟩;refine hN _ _ ?_;clear hN N)))
  exact cH (b:=tq s (dO (dQ s a) d)) (.inl rfl) (sd @Nat.zero_add) (by rw[gM,if_pos e])
 ·have e':decide (dO (dQ s a) d=dO (dQ s b) (qy d))=false:=decide_eq_false e
  (repeat(first|((repeat(revert hN;revert N;apply Pn.out));refine wk (tw @aa.eq_1 (tw @bI.eq_1 (tw @a0 (tw @a1 (tw @b0 (tw @b1 (tw @s1 (tw @s2 (tw @d0 (tw @d1 @e')))))))))) ?_;(repeat(refine Pn.mk ?_;intro N hN)))|((try apply Or.inl);refine⟨_,ak.x (h) (sd (tw @aa.eq_1 (tw @bI.eq_1 (tw @a0 (tw @a1 (tw @b0 (tw @b1 (tw @s1 (tw @s2 (tw @d0 (tw @d1 @e'))))))))))),?_⟩;refine hN _ _ ?_;clear hN N)))
  exact cH (b:=0) (.inl rfl) (sd @Nat.zero_add) (by rw[gM,if_neg e])
def oe (s:ao) (i:Nat):eV:=s.ay.getD i ⟨⟨#[]⟩,0⟩
def nf (s:ao) (i:Nat):eu:=s.aj.getD i Bp
def zU (s:ao) (i:Nat):Prop:=iW (oe s i).aD=true/\ig (oe s i).ec 1 4=true/\∀j,j<i->(oe s j).aD≠(oe s i).aD
def xw (s:ao) (i:Nat):Prop:=iW (nf s i).aD=true/\(nf s i).bB.length=4/\(∀j,j<i->(nf s j).aD≠(nf s i).aD)/\∀g∈(nf s i).bB,ig g 0 s.ay.length=true
structure lV (s:ao):Prop where
 uH:s.ay.length<=200
 some:1<=s.aj.length
 KU:s.aj.length<=160
 QY:∀i,i<s.ay.length->zU s i
 tok:∀i,i<s.aj.length->xw s i
noncomputable def nW (s:ao):Bool:=@decide (lV s) (Classical.propDecidable _)
theorem th {s:ao}:nW s=true↔lV s:=by simp[nW]
theorem eZ {s:ao} (h:¬lV s):false=nW s:=by simp[nW,h]
theorem zr {s:ao} (h:lV s):true=nW s:=by simp[nW,h]
theorem wZ {s:ao} {i:Nat} (h:i<s.aj.length):(s.aj.map bI)[i]? =some (bI (nf s i)):=getD_map bI h
theorem vV {s:ao} {i:Nat} (h:i<s.ay.length):(s.ay.map bS)[i]? =some (bS (oe s i)):=getD_map bS h
theorem lV.form {s:ao} (h:lV s):jL s:=by
 have key:∀t∈s.aj,∃i,i<s.aj.length/\t=nf s i:=fun t ht=>by
  obtain⟨i,hi,rfl⟩:=List.getElem_of_mem ht
  exact⟨i,hi,by simp[nf,List.getD_eq_getElem?_getD,hi]⟩
 refine⟨fun t ht=>?_,fun t ht g hg=>?_⟩
 ·obtain⟨i,hi,rfl⟩:=key t ht
  exact(h.tok i hi).2.1
 ·obtain⟨i,hi,rfl⟩:=key t ht
  exact ei ((h.tok i hi).2.2.2 g hg)
def dB (l:List ByteArray):List (List AV):=l.map fun n=>[.str n,.bool true]
abbrev mS:MK:=⟨false,[.tS]⟩
theorem u5 (n:ByteArray):∀(l:List ByteArray) (i:Nat),∃r,jY mS [.str n] (dB l) i=some r/\((r=none/\n∉l)∨∃j,r=some (i+j)/\n∈l/\(dB l)[j]? =some [.str n,.bool true])
 |[],i=>⟨none,rfl,.inl ⟨rfl,by simp⟩⟩
 |m::l,i=>by
  obtain⟨r,h1,h2⟩:=u5 n l (i+1)
  by_cases h:n=m
  ·subst h
   exact⟨some i,by simp[dB,jY,er,eO,MK.ks],.inr ⟨0,rfl,by simp,rfl⟩⟩
  ·refine⟨r,?_,?_⟩
   ·unfold dB at h1 ⊢
    simp only[List.map_cons,jY,MK.ks,List.length_cons,List.length_nil,Nat.zero_add,List.take_succ_cons,List.take_zero,er,eO,h,decide_false,Bool.and_true]
    exact h1
   ·rcases h2 with⟨rfl,h2⟩|⟨j,rfl,h2,h3⟩
    ·exact .inl ⟨rfl,by simp[h,h2]⟩
    ·exact .inr ⟨j+1,by congr 1;omega,by simp[h2],by simpa[dB]using h3⟩
theorem tg (n:ByteArray) (l:List ByteArray):(n∉l/\jZ mS (.str n) (dB l)=some none)∨∃j,n∈l/\jZ mS (.str n) (dB l)=some (some j)/\(dB l)[j]? =some [.str n,.bool true]:=by
 obtain⟨r,h1,h2⟩:=u5 n l 0
 have e:jZ mS (.str n) (dB l)=some r:=by
  unfold jZ
  rw[if_pos ⟨rfl,rfl,rfl⟩];exact h1
 rcases h2 with⟨rfl,h2⟩|⟨j,rfl,h2,h3⟩
 ·exact .inl ⟨h2,e⟩
 ·exact .inr ⟨j,h2,by rw[e,Nat.zero_add],h3⟩
theorem MF (s:ao) (g:Int):ak Tryz.prog 266 [.int .i64 g,.dI (aa s)] (.bool (!ig g 0 s.ay.length)):=by
 refine ak.body eL rfl fun hl n0=>?_
 clear hl
 have h:=ke g 0 s.ay.length
 (repeat(first|((repeat(revert hN;revert N;apply Pn.out));refine wk @aa.eq_1 ?_;(repeat(refine Pn.mk ?_;intro N hN)))|((try apply Or.inl);refine⟨_,ak.x (h) (sd @aa.eq_1),?_⟩;refine hN _ _ ?_;clear hN N)))
 exact bt (b:= !ig g 0 s.ay.length) (.inl rfl) (sd @Nat.zero_add) rfl
theorem IA:P4 aM (fun c=>.int .i64 c) 1 false:=⟨fun _=>rfl,fun _=>rfl,fun x g=>by rw[ab,az,ae];rfl⟩
theorem JQ (s:ao) (l:List Int) (hl:l.length<=1048576):ak Tryz.prog 265 [.sl (l.map aM),.fn 266 [.dI (aa s)]] (.bool (l.any fun g=> !ig g 0 s.ay.length)):=
 mu IA (show lN Tryz.prog 265=some (AN 265 319) by kernel_rfl)
  (show lN Tryz.prog 319=some (wv 319 1 false) by kernel_rfl) l hl _ _ _ rfl (fun g=>by rw[ab,aE,ae];rfl) (fun x _=>MF s x) fun g=>by rw[ab,aE,ae];rfl
theorem sZ {α:Type} (f:Nat->α) (n k:Nat) (x:α):x∉(List.range k).map f↔∀j,j<k->f j≠x:=by
 constructor
 ·intro h j hj he
  exact h (List.mem_map.2 ⟨j,List.mem_range.2 hj,he⟩)
 ·intro h hm
  obtain⟨j,hj,he⟩:=List.mem_map.1 hm
  exact h j (List.mem_range.1 hj) he
theorem z6 (s:ao) (hn:fR s) (hg:s.ay.length<=1048576) (ht:s.aj.length<=1048576) (hs:∀t∈s.aj,t.bB.length<=1048576):ak Tryz.prog 175 [.agg (aa s)] (.bool (nW s)):=by
 refine ak.body eL rfl fun hl n0=>?_
 clear hl
 have OH:∀i,i<s.ay.length->(oe s i).aD.size<=9223372036854775807:=fun i hi=>hn.1 _ (by simp[oe,List.getD_eq_getElem?_getD,hi])
 have Sc:∀i,i<s.aj.length->(nf s i).aD.size<=9223372036854775807:=fun i hi=>hn.2 _ (by simp[nf,List.getD_eq_getElem?_getD,hi])
 have tZ:∀i,i<s.aj.length->(nf s i).bB.length<=1048576:=fun i hi=>hs _ (by simp[nf,List.getD_eq_getElem?_getD,hi])
 have hw:=ke (s.aj.length:Int) 1 160
 by_cases h1:(200:Int)<(s.ay.length:Int)
 ·(try((repeat(revert hN;revert N;apply Pn.out));refine wk (tw @aa.eq_1 @h1) ?_;(repeat(refine Pn.mk ?_;intro N hN))))
  exact bt (b:=false) (.inl rfl) (sd @Nat.zero_add) (eZ fun h=>by have:=h.uH;omega)
 by_cases h2:ig (s.aj.length:Int) 1 160=true
 ·have uI:=ei h2
  rw[h2]at hw
  (repeat(first|((repeat(revert hN;revert N;apply Pn.out));refine wk (tw @aa.eq_1 @h1) ?_;(repeat(refine Pn.mk ?_;intro N hN)))|((try apply Or.inl);refine⟨_,ak.x (hw) (sd (tw @aa.eq_1 @h1)),?_⟩;refine hN _ _ ?_;clear hN N)))
  refine bp (fun n env st=>∃k:Nat,n=(s.ay.length)-k/\k<=(s.ay.length)/\env 24=.int .i64 (k:Int)/\st.get ⟨175000000,n0⟩=some ⟨true,2,[aa s]⟩/\st.get ⟨175003000,n0+1+1⟩=some ⟨true,mS.zO,dB ((List.range k).map fun i=>(oe s i).aD)⟩/\(∀j:Nat,j<k->zU s j)) (s.ay.length) ⟨0,ad,ad,by(try simp only[go_sem, ↓reduceIte,Nat.reduceEqDiff,Nat.reduceAdd,Nat.reduceSub,Nat.reduceLeDiff,reduceCtorEq,aa,List.range_zero,List.map_nil,dB]);try rfl,by(try simp only[go_sem, ↓reduceIte,Nat.reduceEqDiff,Nat.reduceAdd,Nat.reduceSub,Nat.reduceLeDiff,reduceCtorEq,aa,List.range_zero,List.map_nil,dB]);try rfl,by(try simp only[go_sem, ↓reduceIte,Nat.reduceEqDiff,Nat.reduceAdd,Nat.reduceSub,Nat.reduceLeDiff,reduceCtorEq,aa,List.range_zero,List.map_nil,dB]);try rfl,fun _ h=>absurd h (Nat.not_lt_zero _)⟩ ?_
  rintro n_a env_a st_a ⟨k,rfl,ale,a24,ag0,ag1,aA0⟩ dt
  have a1:=dt 1 (by kernel_rfl);have a3:=dt 3 (by kernel_rfl);have a22:=dt 22 (by kernel_rfl);have a23:=dt 23 (by kernel_rfl)
  simp only[go_sem, ↓reduceIte,Nat.reduceEqDiff,Nat.reduceAdd,Nat.reduceSub,Nat.reduceLeDiff,reduceCtorEq,aa,List.range_zero,List.map_nil,dB]at a1 a3 a22 a23
  clear dt
  by_cases hk:(k:Int)<(s.ay.length:Int)
  ·have bK:∀{e:Env} {gg:Rows},(e 24=.int .i64 (IntKind.i64.wrap ((k:Int)+1)))->(gg ⟨175000000,n0⟩=some ⟨true,2,[aa s]⟩)->(gg ⟨175003000,n0+1+1⟩=some ⟨true,mS.zO,dB ((List.range (k+1)).map fun i=>(oe s i).aD)⟩)->(zU s k)->∃m0,m0<(s.ay.length)-k/\∃k:Nat,m0=(s.ay.length)-k/\k<=(s.ay.length)/\e 24=.int .i64 (k:Int)/\gg ⟨175000000,n0⟩=some ⟨true,2,[aa s]⟩/\gg ⟨175003000,n0+1+1⟩=some ⟨true,mS.zO,dB ((List.range k).map fun i=>(oe s i).aD)⟩/\(∀j:Nat,j<k->zU s j):=fun x1 x2 x3 x4=>⟨_,ad,k+1,rfl,ad,(by rw[x1,aA ad]),x2,x3,(all_succ aA0 x4)⟩
   have eo:k<s.ay.length:=ad
   have eC:=vV eo
   have p7:=CI (oe s k).aD (OH k eo)
   have H9:=ke (oe s k).ec 1 4
   have yF:=tg (oe s k).aD ((List.range k).map fun i=>(oe s i).aD)
   rw[sZ _ k]at yF
   have lv:(¬zU s k)->¬lV s:=fun h hp=>h (hp.QY k eo)
   generalize hgd:oe s k=gl at *
   cases hb:iW gl.aD
   ·rw[hb]at p7
    (repeat(first|((repeat(revert hN;revert N;apply Pn.out));refine wk (tw @a24 (tw @ag0 (tw @ag1 (tw @a1 (tw @a3 (tw @a22 (tw @a23 (tw @hk (tw @eC (tw @bS.eq_1 @aa.eq_1)))))))))) ?_;(repeat(refine Pn.mk ?_;intro N hN)))|((try apply Or.inl);refine⟨_,ak.x (p7) (sd (tw @a24 (tw @ag0 (tw @ag1 (tw @a1 (tw @a3 (tw @a22 (tw @a23 (tw @hk (tw @eC (tw @bS.eq_1 @aa.eq_1))))))))))),?_⟩;refine hN _ _ ?_;clear hN N)))
    exact bt (b:=false) (.inl rfl) (sd @Nat.zero_add) (eZ (lv fun h=>by rw[zU,hgd,hb]at h;cases h.1))
   ·rw[hb]at p7
    rcases yF with⟨AQ,lx⟩|⟨j,gP,lx,kM⟩
    ·cases ee:ig gl.ec 1 4
     ·rw[ee]at H9
      (repeat(first|((repeat(revert hN;revert N;apply Pn.out));refine wk (tw @a24 (tw @ag0 (tw @ag1 (tw @a1 (tw @a3 (tw @a22 (tw @a23 (tw @hk (tw @eC (tw @lx (tw @bS.eq_1 @aa.eq_1))))))))))) ?_;(repeat(refine Pn.mk ?_;intro N hN)))|((try apply Or.inl);refine⟨_,ak.x (p7) (sd (tw @a24 (tw @ag0 (tw @ag1 (tw @a1 (tw @a3 (tw @a22 (tw @a23 (tw @hk (tw @eC (tw @lx (tw @bS.eq_1 @aa.eq_1)))))))))))),?_⟩;refine hN _ _ ?_;clear hN N)|((try apply Or.inl);refine⟨_,ak.x (H9) (sd (tw @a24 (tw @ag0 (tw @ag1 (tw @a1 (tw @a3 (tw @a22 (tw @a23 (tw @hk (tw @eC (tw @lx (tw @bS.eq_1 @aa.eq_1)))))))))))),?_⟩;refine hN _ _ ?_;clear hN N)))
      exact bt (b:=false) (.inl rfl) (sd @Nat.zero_add) (eZ (lv fun h=>by rw[zU,hgd,ee]at h;cases h.2.1))
     ·rw[ee]at H9
      have yD:dB ((List.range k).map fun i=>(oe s i).aD)++[[.str gl.aD,.bool true]]=dB (List.map (fun i=>(oe s i).aD) (List.range k++[k])):=by simp[dB,hgd]
      (repeat(first|((repeat(revert hN;revert N;apply Pn.out));refine wk (tw @a24 (tw @ag0 (tw @ag1 (tw @a1 (tw @a3 (tw @a22 (tw @a23 (tw @hk (tw @eC (tw @lx (tw @bS.eq_1 @aa.eq_1))))))))))) ?_;(repeat(refine Pn.mk ?_;intro N hN)))|((try apply Or.inl);refine⟨_,ak.x (p7) (sd (tw @a24 (tw @ag0 (tw @ag1 (tw @a1 (tw @a3 (tw @a22 (tw @a23 (tw @hk (tw @eC (tw @lx (tw @bS.eq_1 @aa.eq_1)))))))))))),?_⟩;refine hN _ _ ?_;clear hN N)|((try apply Or.inl);refine⟨_,ak.x (H9) (sd (tw @a24 (tw @ag0 (tw @ag1 (tw @a1 (tw @a3 (tw @a22 (tw @a23 (tw @hk (tw @eC (tw @lx (tw @bS.eq_1 @aa.eq_1)))))))))))),?_⟩;refine hN _ _ ?_;clear hN N)))
      refine bK ?_ ?_ ?_ (⟨by rw[hgd];exact hb,by rw[hgd];exact ee,fun j hj=>by rw[hgd];exact AQ j hj⟩)
      all_goals simp only[go_sem, ↓reduceIte,Nat.reduceEqDiff,Nat.reduceAdd,Nat.reduceSub,Nat.reduceLeDiff,reduceCtorEq,a24,ag0,ag1,a1,a3,a22,a23,lx,yD]
    ·(repeat(first|((repeat(revert hN;revert N;apply Pn.out));refine wk (tw @a24 (tw @ag0 (tw @ag1 (tw @a1 (tw @a3 (tw @a22 (tw @a23 (tw @hk (tw @eC (tw @lx (tw @kM (tw @bS.eq_1 @aa.eq_1)))))))))))) ?_;(repeat(refine Pn.mk ?_;intro N hN)))|((try apply Or.inl);refine⟨_,ak.x (p7) (sd (tw @a24 (tw @ag0 (tw @ag1 (tw @a1 (tw @a3 (tw @a22 (tw @a23 (tw @hk (tw @eC (tw @lx (tw @kM (tw @bS.eq_1 @aa.eq_1))))))))))))),?_⟩;refine hN _ _ ?_;clear hN N)))
     exact bt (b:=false) (.inl rfl) (sd @Nat.zero_add) (eZ (lv fun h=>by
      rw[zU,hgd]at h
      obtain⟨i,hi,he⟩:=List.mem_map.1 gP
      exact h.2.2 i (List.mem_range.1 hi) he))
  ·have jz:k=s.ay.length:=ad
   (try((repeat(revert hN;revert N;apply Pn.out));refine wk (tw @a24 (tw @ag0 (tw @ag1 (tw @a1 (tw @a3 (tw @a22 (tw @a23 (tw @hk @aa.eq_1)))))))) ?_;(repeat(refine Pn.mk ?_;intro N hN))))
   refine bp (fun n env st=>∃j:Nat,n=(s.aj.length)-j/\j<=(s.aj.length)/\env 52=.int .i64 (j:Int)/\st.get ⟨175000000,n0⟩=some ⟨true,2,[aa s]⟩/\st.get ⟨175011000,st_a.next+1⟩=some ⟨true,mS.zO,dB ((List.range j).map fun i=>(nf s i).aD)⟩/\(∀i:Nat,i<j->xw s i)/\(st_a.next<st.next)) (s.aj.length) ⟨0,ad,ad,by(try simp only[go_sem, ↓reduceIte,Nat.reduceEqDiff,Nat.reduceAdd,Nat.reduceSub,Nat.reduceLeDiff,reduceCtorEq,a24,ag0,ag1,a1,a3,a22,a23,aa,List.range_zero,List.map_nil,dB]);try rfl,by(try simp only[go_sem, ↓reduceIte,Nat.reduceEqDiff,Nat.reduceAdd,Nat.reduceSub,Nat.reduceLeDiff,reduceCtorEq,a24,ag0,ag1,a1,a3,a22,a23,aa,List.range_zero,List.map_nil,dB]);try rfl,by(try simp only[go_sem, ↓reduceIte,Nat.reduceEqDiff,Nat.reduceAdd,Nat.reduceSub,Nat.reduceLeDiff,reduceCtorEq,a24,ag0,ag1,a1,a3,a22,a23,aa,List.range_zero,List.map_nil,dB]);try rfl,fun _ h=>absurd h (Nat.not_lt_zero _),cE⟩ ?_
   rintro n_b env_b st_b ⟨j,rfl,ble,b52,bg0,bg1,bA0,bI0⟩ bfr
   have b1:=bfr 1 (by kernel_rfl);have b6:=bfr 6 (by kernel_rfl);have Ab:=bfr 50 (by kernel_rfl);have Ac:=bfr 51 (by kernel_rfl)
   simp only[go_sem, ↓reduceIte,Nat.reduceEqDiff,Nat.reduceAdd,Nat.reduceSub,Nat.reduceLeDiff,reduceCtorEq,a24,ag0,ag1,a1,a3,a22,a23,aa,List.range_zero,List.map_nil,dB]at b1 b6 Ab Ac
   clear bfr
   by_cases hj:(j:Int)<(s.aj.length:Int)
   ·have j3:∀{e:Env} {gg:Rows} {nx:Nat},(e 52=.int .i64 (IntKind.i64.wrap ((j:Int)+1)))->(gg ⟨175000000,n0⟩=some ⟨true,2,[aa s]⟩)->(gg ⟨175011000,st_a.next+1⟩=some ⟨true,mS.zO,dB ((List.range (j+1)).map fun i=>(nf s i).aD)⟩)->(xw s j)->(st_a.next<nx)->∃m0,m0<(s.aj.length)-j/\∃j:Nat,m0=(s.aj.length)-j/\j<=(s.aj.length)/\e 52=.int .i64 (j:Int)/\gg ⟨175000000,n0⟩=some ⟨true,2,[aa s]⟩/\gg ⟨175011000,st_a.next+1⟩=some ⟨true,mS.zO,dB ((List.range j).map fun i=>(nf s i).aD)⟩/\(∀i:Nat,i<j->xw s i)/\(st_a.next<nx):=fun x1 x2 x3 x4 x5=>⟨_,ad,j+1,rfl,ad,(by rw[x1,aA ad]),x2,x3,(all_succ bA0 x4),x5⟩
    have ib:j<s.aj.length:=ad
    have lT:=wZ ib
    have p7:=CI (nf s j).aD (Sc j ib)
    have Qq:=JQ s (nf s j).bB (tZ j ib)
    have yF:=tg (nf s j).aD ((List.range j).map fun i=>(nf s i).aD)
    rw[sZ _ j]at yF
    have lv:(¬xw s j)->¬lV s:=fun h hp=>h (hp.tok j ib)
    have gQ:(⟨175011000,st_a.next+1⟩:Id)≠⟨175000000,n0⟩:=by simp
    generalize htd:nf s j=tl at *
    cases hb:iW tl.aD
    ·rw[hb]at p7
     (repeat(first|((repeat(revert hN;revert N;apply Pn.out));refine wk (tw @b52 (tw @bg0 (tw @bg1 (tw @b1 (tw @b6 (tw @Ab (tw @Ac (tw @hj (tw @lT (tw @bI.eq_1 @aa.eq_1)))))))))) ?_;(repeat(refine Pn.mk ?_;intro N hN)))|((try apply Or.inl);refine⟨_,ak.x (p7) (sd (tw @b52 (tw @bg0 (tw @bg1 (tw @b1 (tw @b6 (tw @Ab (tw @Ac (tw @hj (tw @lT (tw @bI.eq_1 @aa.eq_1))))))))))),?_⟩;refine hN _ _ ?_;clear hN N)))
     exact bt (b:=false) (.inl rfl) (sd @Nat.zero_add) (eZ (lv fun h=>by rw[xw,htd,hb]at h;cases h.1))
    ·rw[hb]at p7
     rcases yF with⟨AQ,lx⟩|⟨i,gP,lx,kM⟩
     ·by_cases h4:(tl.bB.length:Int)=4
      ·have vZ:decide ((tl.bB.length:Int)=4)=true:=decide_eq_true h4
       cases hany:tl.bB.any fun g=> !ig g 0 s.ay.length
       ·rw[hany]at Qq
        have yD:dB ((List.range j).map fun i=>(nf s i).aD)++[[.str tl.aD,.bool true]]=dB (List.map (fun i=>(nf s i).aD) (List.range j++[j])):=by simp[dB,htd]
        (repeat(first|((repeat(revert hN;revert N;apply Pn.out));refine wk (tw @b52 (tw @bg0 (tw @bg1 (tw @b1 (tw @b6 (tw @Ab (tw @Ac (tw @hj (tw @lT (tw @lx (tw @vZ (tw @bI.eq_1 @aa.eq_1)))))))))))) ?_;(repeat(refine Pn.mk ?_;intro N hN)))|((try apply Or.inl);refine⟨_,ak.x (p7) (sd (tw @b52 (tw @bg0 (tw @bg1 (tw @b1 (tw @b6 (tw @Ab (tw @Ac (tw @hj (tw @lT (tw @lx (tw @vZ (tw @bI.eq_1 @aa.eq_1))))))))))))),?_⟩;refine hN _ _ ?_;clear hN N)|((try apply Or.inl);refine⟨_,ak.x (Qq) (sd (tw @b52 (tw @bg0 (tw @bg1 (tw @b1 (tw @b6 (tw @Ab (tw @Ac (tw @hj (tw @lT (tw @lx (tw @vZ (tw @bI.eq_1 @aa.eq_1))))))))))))),?_⟩;refine hN _ _ ?_;clear hN N)))
        refine j3 ?_ ?_ ?_ (⟨by rw[htd];exact hb,by rw[htd];omega,fun i hi=>(by rw[htd];exact AQ i hi),fun g hg=>by rw[htd]at hg;have:=List.any_eq_false.1 hany g hg;simpa using this⟩) cE
        all_goals simp only[go_sem, ↓reduceIte,Nat.reduceEqDiff,Nat.reduceAdd,Nat.reduceSub,Nat.reduceLeDiff,reduceCtorEq,b52,bg0,bg1,b1,b6,Ab,Ac,lx,yD]
       ·rw[hany]at Qq
        (repeat(first|((repeat(revert hN;revert N;apply Pn.out));refine wk (tw @b52 (tw @bg0 (tw @bg1 (tw @b1 (tw @b6 (tw @Ab (tw @Ac (tw @hj (tw @lT (tw @lx (tw @vZ (tw @bI.eq_1 @aa.eq_1)))))))))))) ?_;(repeat(refine Pn.mk ?_;intro N hN)))|((try apply Or.inl);refine⟨_,ak.x (p7) (sd (tw @b52 (tw @bg0 (tw @bg1 (tw @b1 (tw @b6 (tw @Ab (tw @Ac (tw @hj (tw @lT (tw @lx (tw @vZ (tw @bI.eq_1 @aa.eq_1))))))))))))),?_⟩;refine hN _ _ ?_;clear hN N)|((try apply Or.inl);refine⟨_,ak.x (Qq) (sd (tw @b52 (tw @bg0 (tw @bg1 (tw @b1 (tw @b6 (tw @Ab (tw @Ac (tw @hj (tw @lT (tw @lx (tw @vZ (tw @bI.eq_1 @aa.eq_1))))))))))))),?_⟩;refine hN _ _ ?_;clear hN N)))
        exact bt (b:=false) (.inl rfl) (sd @Nat.zero_add) (eZ (lv fun h=>by
         rw[xw,htd]at h
         obtain⟨g,hg,hq⟩:=List.any_eq_true.1 hany
         have:=h.2.2.2 g hg
         rw[this]at hq;cases hq))
      ·have vZ:decide ((tl.bB.length:Int)=4)=false:=decide_eq_false h4
       (repeat(first|((repeat(revert hN;revert N;apply Pn.out));refine wk (tw @b52 (tw @bg0 (tw @bg1 (tw @b1 (tw @b6 (tw @Ab (tw @Ac (tw @hj (tw @lT (tw @lx (tw @vZ (tw @bI.eq_1 @aa.eq_1)))))))))))) ?_;(repeat(refine Pn.mk ?_;intro N hN)))|((try apply Or.inl);refine⟨_,ak.x (p7) (sd (tw @b52 (tw @bg0 (tw @bg1 (tw @b1 (tw @b6 (tw @Ab (tw @Ac (tw @hj (tw @lT (tw @lx (tw @vZ (tw @bI.eq_1 @aa.eq_1))))))))))))),?_⟩;refine hN _ _ ?_;clear hN N)))
       exact bt (b:=false) (.inl rfl) (sd @Nat.zero_add) (eZ (lv fun h=>by rw[xw,htd]at h;have:=h.2.1;omega))
     ·(repeat(first|((repeat(revert hN;revert N;apply Pn.out));refine wk (tw @b52 (tw @bg0 (tw @bg1 (tw @b1 (tw @b6 (tw @Ab (tw @Ac (tw @hj (tw @lT (tw @lx (tw @kM (tw @bI.eq_1 @aa.eq_1)))))))))))) ?_;(repeat(refine Pn.mk ?_;intro N hN)))|((try apply Or.inl);refine⟨_,ak.x (p7) (sd (tw @b52 (tw @bg0 (tw @bg1 (tw @b1 (tw @b6 (tw @Ab (tw @Ac (tw @hj (tw @lT (tw @lx (tw @kM (tw @bI.eq_1 @aa.eq_1))))))))))))),?_⟩;refine hN _ _ ?_;clear hN N)))
      exact bt (b:=false) (.inl rfl) (sd @Nat.zero_add) (eZ (lv fun h=>by
       rw[xw,htd]at h
       obtain⟨i,hi,he⟩:=List.mem_map.1 gP
       exact h.2.2.1 i (List.mem_range.1 hi) he))
   ·(try((repeat(revert hN;revert N;apply Pn.out));refine wk (tw @b52 (tw @bg0 (tw @bg1 (tw @b1 (tw @b6 (tw @Ab (tw @Ac (tw @hj @aa.eq_1)))))))) ?_;(repeat(refine Pn.mk ?_;intro N hN))))
    exact bt (b:=true) (.inl rfl) (sd @Nat.zero_add) (zr ⟨ad,ad,ad,fun i hi=>aA0 i ad,fun i hi=>bA0 i ad⟩)
 ·rw[Bool.not_eq_true]at h2
  rw[h2]at hw
  (repeat(first|((repeat(revert hN;revert N;apply Pn.out));refine wk (tw @aa.eq_1 @h1) ?_;(repeat(refine Pn.mk ?_;intro N hN)))|((try apply Or.inl);refine⟨_,ak.x (hw) (sd (tw @aa.eq_1 @h1)),?_⟩;refine hN _ _ ?_;clear hN N)))
  exact bt (b:=false) (.inl rfl) (sd @Nat.zero_add) (eZ fun h=>by
   have h3:=h.some
   have h4:=h.KU
   rw[sM ⟨ad,ad⟩]at h2;cases h2)
theorem rL {α:Type} {p:α->Bool} {xs:List α} {k:Nat} (hk:k<xs.length) (h1:p xs[k]=true) (h2:∀j (h:j<xs.length),j<k->p xs[j]=false):oD p xs=k:=by
 have:xs.findIdx p=k:=by rw[List.findIdx_eq hk];exact⟨h1,fun j hj=>h2 j ad hj⟩
 rw[oD,this,if_pos hk]
theorem uB {α:Type} {p:α->Bool} {xs:List α} (h:∀j (h:j<xs.length),p xs[j]=false):oD p xs= -1:=by
 rw[oD,if_neg]
 rw[List.findIdx_lt_length]
 rintro⟨x,hx,O3⟩
 obtain⟨j,hj,rfl⟩:=List.getElem_of_mem hx
 rw[h j hj]at O3;cases O3
theorem vU {s:ao} {i:Nat} (h:i<s.ay.length):oe s i=s.ay[i]:=by simp[oe,List.getD_eq_getElem?_getD,h]
theorem wY {s:ao} {i:Nat} (h:i<s.aj.length):nf s i=s.aj[i]:=by simp[nf,List.getD_eq_getElem?_getD,h]
def HY (s:ao) (n:ByteArray):Int:=oD (fun g:eV=>decide (g.aD=n)) s.ay
def KT (s:ao) (n:ByteArray):Int:=oD (fun t:eu=>decide (t.aD=n)) s.aj
theorem Ec (s:ao) (nm:ByteArray):ak Tryz.prog 257 [.dI (aa s),.str nm] (.int .i64 (HY s nm+1)):=by
 refine ak.body eL rfl fun hl n0=>?_
 have hlen:s.ay.length<=9223372036854775807:=by
  have h1:=(hl (.dI (aa s)) (by simp)).yU (a:=.sl (s.ay.map bS)) (by simp[aa])
  simpa using h1.len
 clear hl
 (try((repeat(revert hN;revert N;apply Pn.out));refine wk @aa.eq_1 ?_;(repeat(refine Pn.mk ?_;intro N hN))))
 refine bp (fun n env st=>∃k:Nat,n=(s.ay.length)-k/\k<=(s.ay.length)/\env 5=.int .i64 (k:Int)/\(∀j:Nat,j<k->∀h:j<s.ay.length,decide (s.ay[j].aD=nm)=false)) (s.ay.length) ⟨0,ad,ad,sl @aa.eq_1,fun _ h=>absurd h (Nat.not_lt_zero _)⟩ ?_
 rintro n_a env_a st_a ⟨k,rfl,ale,a5,aA0⟩ dt
 have a0:=dt 0 (by kernel_rfl);have a1:=dt 1 (by kernel_rfl)
 simp only[go_sem, ↓reduceIte,Nat.reduceEqDiff,Nat.reduceAdd,Nat.reduceSub,Nat.reduceLeDiff,reduceCtorEq,aa]at a0 a1
 clear dt
 by_cases hk:(k:Int)<(s.ay.length:Int)
 ·have bK:∀{e:Env},(e 5=.int .i64 (IntKind.i64.wrap ((k:Int)+1)))->(∀h:k<s.ay.length,decide (s.ay[k].aD=nm)=false)->∃m0,m0<(s.ay.length)-k/\∃k:Nat,m0=(s.ay.length)-k/\k<=(s.ay.length)/\e 5=.int .i64 (k:Int)/\(∀j:Nat,j<k->∀h:j<s.ay.length,decide (s.ay[j].aD=nm)=false):=fun x1 x2=>⟨_,ad,k+1,rfl,ad,(by rw[x1,aA ad]),(all_succ aA0 x2)⟩
  have eo:k<s.ay.length:=ad
  have eC:=vV eo
  have e:=vU eo
  cases hd:decide ((oe s k).aD=nm)
  ·have Qh:=of_decide_eq_false hd
   (try((repeat(revert hN;revert N;apply Pn.out));refine wk (tw @a5 (tw @a0 (tw @a1 (tw @hk (tw @eC (tw @Qh (tw @hd (tw @bS.eq_1 @aa.eq_1)))))))) ?_;(repeat(refine Pn.mk ?_;intro N hN))))
   exact bK (sd (tw @a5 (tw @a0 @a1))) (fun _=>by rw[e]at hd;exact hd)
  ·have Qh:=of_decide_eq_true hd
   have hw:IntKind.i64.wrap ((k:Int)+1)=(k:Int)+1:=bP ad
   (try((repeat(revert hN;revert N;apply Pn.out));refine wk (tw @a5 (tw @a0 (tw @a1 (tw @hk (tw @eC (tw @hd (tw @hw (tw @bS.eq_1 @aa.eq_1)))))))) ?_;(repeat(refine Pn.mk ?_;intro N hN))))
   exact cH (b:=(k:Int)+1) (.inl rfl) (sd @Nat.zero_add) (by rw[HY,rL eo (by rw[e]at hd;exact hd) fun j h hj=>aA0 j hj h])
 ·(try((repeat(revert hN;revert N;apply Pn.out));refine wk (tw @a5 (tw @a0 (tw @a1 (tw @hk @aa.eq_1)))) ?_;(repeat(refine Pn.mk ?_;intro N hN))))
  exact cH (b:=0) (.inl rfl) (sd @Nat.zero_add) (by rw[HY,uB fun j h=>aA0 j ad h];rfl)
theorem Ed (s:ao) (nm:ByteArray):ak Tryz.prog 258 [.dI (aa s),.str nm] (.int .i64 (KT s nm)):=by
 refine ak.body eL rfl fun hl n0=>?_
 have hlen:s.aj.length<=9223372036854775807:=by
  have h1:=(hl (.dI (aa s)) (by simp)).yU (a:=.sl (s.aj.map bI)) (by simp[aa])
  simpa using h1.len
 clear hl
 (try((repeat(revert hN;revert N;apply Pn.out));refine wk @aa.eq_1 ?_;(repeat(refine Pn.mk ?_;intro N hN))))
 refine bp (fun n env st=>∃k:Nat,n=(s.aj.length)-k/\k<=(s.aj.length)/\env 5=.int .i64 (k:Int)/\(∀j:Nat,j<k->∀h:j<s.aj.length,decide (s.aj[j].aD=nm)=false)) (s.aj.length) ⟨0,ad,ad,sl @aa.eq_1,fun _ h=>absurd h (Nat.not_lt_zero _)⟩ ?_
 rintro n_a env_a st_a ⟨k,rfl,ale,a5,aA0⟩ dt
 have a0:=dt 0 (by kernel_rfl);have a1:=dt 1 (by kernel_rfl)
 simp only[go_sem, ↓reduceIte,Nat.reduceEqDiff,Nat.reduceAdd,Nat.reduceSub,Nat.reduceLeDiff,reduceCtorEq,aa]at a0 a1
 clear dt
 by_cases hk:(k:Int)<(s.aj.length:Int)
 ·have bK:∀{e:Env},(e 5=.int .i64 (IntKind.i64.wrap ((k:Int)+1)))->(∀h:k<s.aj.length,decide (s.aj[k].aD=nm)=false)->∃m0,m0<(s.aj.length)-k/\∃k:Nat,m0=(s.aj.length)-k/\k<=(s.aj.length)/\e 5=.int .i64 (k:Int)/\(∀j:Nat,j<k->∀h:j<s.aj.length,decide (s.aj[j].aD=nm)=false):=fun x1 x2=>⟨_,ad,k+1,rfl,ad,(by rw[x1,aA ad]),(all_succ aA0 x2)⟩
  have eo:k<s.aj.length:=ad
  have eC:=wZ eo
  have e:=wY eo
  cases hd:decide ((nf s k).aD=nm)
  ·(try((repeat(revert hN;revert N;apply Pn.out));refine wk (tw @a5 (tw @a0 (tw @a1 (tw @hk (tw @eC (tw @hd (tw @bI.eq_1 @aa.eq_1))))))) ?_;(repeat(refine Pn.mk ?_;intro N hN))))
   exact bK (sd (tw @a5 (tw @a0 @a1))) (fun _=>by rw[e]at hd;exact hd)
  ·(try((repeat(revert hN;revert N;apply Pn.out));refine wk (tw @a5 (tw @a0 (tw @a1 (tw @hk (tw @eC (tw @hd (tw @bI.eq_1 @aa.eq_1))))))) ?_;(repeat(refine Pn.mk ?_;intro N hN))))
   exact cH (b:=(k:Int)) (.inl rfl) (sd @Nat.zero_add) (by rw[KT,rL eo (by rw[e]at hd;exact hd) fun j h hj=>aA0 j hj h])
 ·(try((repeat(revert hN;revert N;apply Pn.out));refine wk (tw @a5 (tw @a0 (tw @a1 (tw @hk @aa.eq_1)))) ?_;(repeat(refine Pn.mk ?_;intro N hN))))
  exact cH (b:=-1) (.inl rfl) (sd @Nat.zero_add) (by rw[KT,uB fun j h=>aA0 j ad h])
theorem Ly {s:ao} {i:Nat} (h:i<s.ay.length):HY s (oe s i).aD=i↔∀j,j<i->(oe s j).aD≠(oe s i).aD:=by
 constructor
 ·intro he j hj hc
  have gJ:j<s.ay.length:=ad
  have:s.ay.findIdx (fun g:eV=>decide (g.aD=(oe s i).aD))<=j:=by
   rcases Nat.lt_or_ge j (s.ay.findIdx fun g:eV=>decide (g.aD=(oe s i).aD))with ea|nR
   ·have:=List.not_of_lt_findIdx ea
    rw[<-vU gJ]at this
    simp[hc]at this
   ·exact nR
  unfold HY oD at he
  split at he<;>omega
 ·intro hd
  exact rL h (by rw[<-vU h];simp) fun j gJ hj=>by rw[<-vU gJ];simpa using hd j hj
theorem ML {s:ao} {i:Nat} (h:i<s.aj.length):KT s (nf s i).aD=i↔∀j,j<i->(nf s j).aD≠(nf s i).aD:=by
 constructor
 ·intro he j hj hc
  have gJ:j<s.aj.length:=ad
  have:s.aj.findIdx (fun g:eu=>decide (g.aD=(nf s i).aD))<=j:=by
   rcases Nat.lt_or_ge j (s.aj.findIdx fun g:eu=>decide (g.aD=(nf s i).aD))with ea|nR
   ·have:=List.not_of_lt_findIdx ea
    rw[<-wY gJ]at this
    simp[hc]at this
   ·exact nR
  unfold KT oD at he
  split at he<;>omega
 ·intro hd
  exact rL h (by rw[<-wY h];simp) fun j gJ hj=>by rw[<-wY gJ];simpa using hd j hj
theorem Jf (s:ao) (hn:fR s) (hg:s.ay.length<=1048576) (ht:s.aj.length<=1048576):ak Tryz.prog 166 [.dI (aa s)] (.bool (nW s)):=by
 refine ak.body eL rfl fun hl n0=>?_
 clear hl
 have OH:∀i,i<s.ay.length->(oe s i).aD.size<=9223372036854775807:=fun i hi=>hn.1 _ (by simp[oe,List.getD_eq_getElem?_getD,hi])
 have Sc:∀i,i<s.aj.length->(nf s i).aD.size<=9223372036854775807:=fun i hi=>hn.2 _ (by simp[nf,List.getD_eq_getElem?_getD,hi])
 by_cases h1:(200:Int)<(s.ay.length:Int)
 ·(try((repeat(revert hN;revert N;apply Pn.out));refine wk (tw @aa.eq_1 @h1) ?_;(repeat(refine Pn.mk ?_;intro N hN))))
  exact bt (b:=false) (.inl rfl) (sd @Nat.zero_add) (eZ fun h=>by have:=h.uH;omega)
 by_cases h2:(s.aj.length:Int)<1
 ·(try((repeat(revert hN;revert N;apply Pn.out));refine wk (tw @aa.eq_1 (tw @h1 @h2)) ?_;(repeat(refine Pn.mk ?_;intro N hN))))
  exact bt (b:=false) (.inl rfl) (sd @Nat.zero_add) (eZ fun h=>by have:=h.some;omega)
 by_cases h3:(160:Int)<(s.aj.length:Int)
 ·(try((repeat(revert hN;revert N;apply Pn.out));refine wk (tw @aa.eq_1 (tw @h1 (tw @h2 @h3))) ?_;(repeat(refine Pn.mk ?_;intro N hN))))
  exact bt (b:=false) (.inl rfl) (sd @Nat.zero_add) (eZ fun h=>by have:=h.KU;omega)
 (try((repeat(revert hN;revert N;apply Pn.out));refine wk (tw @aa.eq_1 (tw @h1 (tw @h2 @h3))) ?_;(repeat(refine Pn.mk ?_;intro N hN))))
 refine bp (fun n env st=>∃k:Nat,n=(s.ay.length)-k/\k<=(s.ay.length)/\env 3=.int .i64 (k:Int)/\(∀j:Nat,j<k->zU s j)) (s.ay.length) ⟨0,ad,ad,sl @aa.eq_1,fun _ h=>absurd h (Nat.not_lt_zero _)⟩ ?_
 rintro n_a env_a st_a ⟨k,rfl,ale,a3,aA0⟩ dt
 have a0:=dt 0 (by kernel_rfl)
 simp only[go_sem, ↓reduceIte,Nat.reduceEqDiff,Nat.reduceAdd,Nat.reduceSub,Nat.reduceLeDiff,reduceCtorEq,aa]at a0
 clear dt
 by_cases hk:(k:Int)<(s.ay.length:Int)
 ·have bK:∀{e:Env},(e 3=.int .i64 (IntKind.i64.wrap ((k:Int)+1)))->(zU s k)->∃m0,m0<(s.ay.length)-k/\∃k:Nat,m0=(s.ay.length)-k/\k<=(s.ay.length)/\e 3=.int .i64 (k:Int)/\(∀j:Nat,j<k->zU s j):=fun x1 x2=>⟨_,ad,k+1,rfl,ad,(by rw[x1,aA ad]),(all_succ aA0 x2)⟩
  have eo:k<s.ay.length:=ad
  have eC:=vV eo
  have p7:=CT (oe s k).aD (OH k eo)
  have H9:=kE (oe s k).ec 1 4
  have DP:=Ec s (oe s k).aD
  have Gm:=Ly eo
  have lv:(¬zU s k)->¬lV s:=fun h hp=>h (hp.QY k eo)
  have hw:IntKind.i64.wrap ((k:Int)+1)=(k:Int)+1:=bP ad
  generalize hgd:oe s k=gl at *
  cases hb:iW gl.aD
  ·rw[hb]at p7
   (repeat(first|((repeat(revert hN;revert N;apply Pn.out));refine wk (tw @a3 (tw @a0 (tw @hk (tw @eC (tw @bS.eq_1 @aa.eq_1))))) ?_;(repeat(refine Pn.mk ?_;intro N hN)))|((try apply Or.inl);refine⟨_,ak.x (p7) (sd (tw @a3 (tw @a0 (tw @hk (tw @eC (tw @bS.eq_1 @aa.eq_1)))))),?_⟩;refine hN _ _ ?_;clear hN N)))
   exact bt (b:=false) (.inl rfl) (sd @Nat.zero_add) (eZ (lv fun h=>by rw[zU,hgd,hb]at h;cases h.1))
  rw[hb]at p7
  cases ee:ig gl.ec 1 4
  ·rw[ee]at H9
   (repeat(first|((repeat(revert hN;revert N;apply Pn.out));refine wk (tw @a3 (tw @a0 (tw @hk (tw @eC (tw @bS.eq_1 @aa.eq_1))))) ?_;(repeat(refine Pn.mk ?_;intro N hN)))|((try apply Or.inl);refine⟨_,ak.x (p7) (sd (tw @a3 (tw @a0 (tw @hk (tw @eC (tw @bS.eq_1 @aa.eq_1)))))),?_⟩;refine hN _ _ ?_;clear hN N)|((try apply Or.inl);refine⟨_,ak.x (H9) (sd (tw @a3 (tw @a0 (tw @hk (tw @eC (tw @bS.eq_1 @aa.eq_1)))))),?_⟩;refine hN _ _ ?_;clear hN N)))
   exact bt (b:=false) (.inl rfl) (sd @Nat.zero_add) (eZ (lv fun h=>by rw[zU,hgd,ee]at h;cases h.2.1))
  rw[ee]at H9
  rw[aa]at DP
  by_cases hq:HY s gl.aD=(k:Int)
  ·have hd:decide (HY s gl.aD+1=(k:Int)+1)=true:=decide_eq_true ad
   have jg:decide (HY s gl.aD=(k:Int))=true:=decide_eq_true hq
   (repeat(first|((repeat(revert hN;revert N;apply Pn.out));refine wk (tw @a3 (tw @a0 (tw @hk (tw @eC (tw @hw (tw @hd (tw @jg (tw @bS.eq_1 @aa.eq_1)))))))) ?_;(repeat(refine Pn.mk ?_;intro N hN)))|((try apply Or.inl);refine⟨_,ak.x (p7) (sd (tw @a3 (tw @a0 (tw @hk (tw @eC (tw @hw (tw @hd (tw @jg (tw @bS.eq_1 @aa.eq_1))))))))),?_⟩;refine hN _ _ ?_;clear hN N)|((try apply Or.inl);refine⟨_,ak.x (H9) (sd (tw @a3 (tw @a0 (tw @hk (tw @eC (tw @hw (tw @hd (tw @jg (tw @bS.eq_1 @aa.eq_1))))))))),?_⟩;refine hN _ _ ?_;clear hN N)|((try apply Or.inl);refine⟨_,ak.x (DP) (sd (tw @a3 (tw @a0 (tw @hk (tw @eC (tw @hw (tw @hd (tw @jg (tw @bS.eq_1 @aa.eq_1))))))))),?_⟩;refine hN _ _ ?_;clear hN N)))
   exact bK (sd (tw @a3 (tw @a0 @hw))) (⟨by rw[hgd];exact hb,by rw[hgd];exact ee,fun j hj=>by rw[hgd];exact Gm.1 hq j hj⟩)
  ·have hd:decide (HY s gl.aD+1=(k:Int)+1)=false:=decide_eq_false ad
   have jg:decide (HY s gl.aD=(k:Int))=false:=decide_eq_false hq
   (repeat(first|((repeat(revert hN;revert N;apply Pn.out));refine wk (tw @a3 (tw @a0 (tw @hk (tw @eC (tw @hw (tw @hd (tw @jg (tw @bS.eq_1 @aa.eq_1)))))))) ?_;(repeat(refine Pn.mk ?_;intro N hN)))|((try apply Or.inl);refine⟨_,ak.x (p7) (sd (tw @a3 (tw @a0 (tw @hk (tw @eC (tw @hw (tw @hd (tw @jg (tw @bS.eq_1 @aa.eq_1))))))))),?_⟩;refine hN _ _ ?_;clear hN N)|((try apply Or.inl);refine⟨_,ak.x (H9) (sd (tw @a3 (tw @a0 (tw @hk (tw @eC (tw @hw (tw @hd (tw @jg (tw @bS.eq_1 @aa.eq_1))))))))),?_⟩;refine hN _ _ ?_;clear hN N)|((try apply Or.inl);refine⟨_,ak.x (DP) (sd (tw @a3 (tw @a0 (tw @hk (tw @eC (tw @hw (tw @hd (tw @jg (tw @bS.eq_1 @aa.eq_1))))))))),?_⟩;refine hN _ _ ?_;clear hN N)))
   exact bt (b:=false) (.inl rfl) (sd @Nat.zero_add) (eZ (lv fun h=>by
    rw[zU,hgd]at h
    exact hq (Gm.2 h.2.2)))
 ·have jz:k=s.ay.length:=ad
  (try((repeat(revert hN;revert N;apply Pn.out));refine wk (tw @a3 (tw @a0 (tw @hk @aa.eq_1))) ?_;(repeat(refine Pn.mk ?_;intro N hN))))
  refine bp (fun n env st=>∃j:Nat,n=(s.aj.length)-j/\j<=(s.aj.length)/\env 5=.int .i64 (j:Int)/\(∀i:Nat,i<j->xw s i)) (s.aj.length) ⟨0,ad,ad,sl (tw @a3 (tw @a0 @aa.eq_1)),fun _ h=>absurd h (Nat.not_lt_zero _)⟩ ?_
  rintro n_b env_b st_b ⟨j,rfl,ble,b5,bA0⟩ bfr
  have b0:=bfr 0 (by kernel_rfl)
  simp only[go_sem, ↓reduceIte,Nat.reduceEqDiff,Nat.reduceAdd,Nat.reduceSub,Nat.reduceLeDiff,reduceCtorEq,a3,a0,aa]at b0
  clear bfr
  by_cases hj:(j:Int)<(s.aj.length:Int)
  ·have j3:∀{e:Env},(e 5=.int .i64 (IntKind.i64.wrap ((j:Int)+1)))->(xw s j)->∃m0,m0<(s.aj.length)-j/\∃j:Nat,m0=(s.aj.length)-j/\j<=(s.aj.length)/\e 5=.int .i64 (j:Int)/\(∀i:Nat,i<j->xw s i):=fun x1 x2=>⟨_,ad,j+1,rfl,ad,(by rw[x1,aA ad]),(all_succ bA0 x2)⟩
   have ib:j<s.aj.length:=ad
   have lT:=wZ ib
   have p7:=CT (nf s j).aD (Sc j ib)
   have DP:=Ed s (nf s j).aD
   have Gm:=ML ib
   have lv:(¬xw s j)->¬lV s:=fun h hp=>h (hp.tok j ib)
   generalize htd:nf s j=tl at *
   cases hb:iW tl.aD
   ·rw[hb]at p7
    (repeat(first|((repeat(revert hN;revert N;apply Pn.out));refine wk (tw @b5 (tw @b0 (tw @hj (tw @lT (tw @bI.eq_1 @aa.eq_1))))) ?_;(repeat(refine Pn.mk ?_;intro N hN)))|((try apply Or.inl);refine⟨_,ak.x (p7) (sd (tw @b5 (tw @b0 (tw @hj (tw @lT (tw @bI.eq_1 @aa.eq_1)))))),?_⟩;refine hN _ _ ?_;clear hN N)))
    exact bt (b:=false) (.inl rfl) (sd @Nat.zero_add) (eZ (lv fun h=>by rw[xw,htd,hb]at h;cases h.1))
   rw[hb]at p7
   by_cases h4:(tl.bB.length:Int)=4
   ·have vZ:decide ((tl.bB.length:Int)=4)=true:=decide_eq_true h4
    rw[aa]at DP
    by_cases hq:KT s tl.aD=(j:Int)
    ·have hd:decide (KT s tl.aD=(j:Int))=true:=decide_eq_true hq
     (repeat(first|((repeat(revert hN;revert N;apply Pn.out));refine wk (tw @b5 (tw @b0 (tw @hj (tw @lT (tw @vZ (tw @hd (tw @bI.eq_1 @aa.eq_1))))))) ?_;(repeat(refine Pn.mk ?_;intro N hN)))|((try apply Or.inl);refine⟨_,ak.x (p7) (sd (tw @b5 (tw @b0 (tw @hj (tw @lT (tw @vZ (tw @hd (tw @bI.eq_1 @aa.eq_1)))))))),?_⟩;refine hN _ _ ?_;clear hN N)|((try apply Or.inl);refine⟨_,ak.x (DP) (sd (tw @b5 (tw @b0 (tw @hj (tw @lT (tw @vZ (tw @hd (tw @bI.eq_1 @aa.eq_1)))))))),?_⟩;refine hN _ _ ?_;clear hN N)))
     refine bp (fun n env st=>∃i:Nat,n=(4)-i/\i<=(4)/\env 7=.int .i64 (i:Int)/\st.get ⟨166012007,st_b.next+1⟩=some ⟨true,2,[bI tl]⟩/\(∀x:Nat,x<i->ig (tl.bB.getD x 0) 0 s.ay.length=true)) (4) ⟨0,ad,ad,sl (tw @b5 (tw @b0 (tw @bI.eq_1 @aa.eq_1))),sl (tw @b5 (tw @b0 (tw @bI.eq_1 @aa.eq_1))),fun _ h=>absurd h (Nat.not_lt_zero _)⟩ ?_
     rintro n_c env_c st_c ⟨i,rfl,cle,c7,cg0,cA0⟩ cfr
     have c0:=cfr 0 (by kernel_rfl);have c5:=cfr 5 (by kernel_rfl);have c6:=cfr 6 (by kernel_rfl)
     simp only[go_sem, ↓reduceIte,Nat.reduceEqDiff,Nat.reduceAdd,Nat.reduceSub,Nat.reduceLeDiff,reduceCtorEq,b5,b0,bI,aa]at c0 c5 c6
     clear cfr
     by_cases hi:(i:Int)<4
     ·have kF:∀{e:Env} {gg:Rows},(e 7=.int .i64 (IntKind.i64.wrap ((i:Int)+1)))->(gg ⟨166012007,st_b.next+1⟩=some ⟨true,2,[bI tl]⟩)->(ig (tl.bB.getD i 0) 0 s.ay.length=true)->∃m0,m0<(4)-i/\∃i:Nat,m0=(4)-i/\i<=(4)/\e 7=.int .i64 (i:Int)/\gg ⟨166012007,st_b.next+1⟩=some ⟨true,2,[bI tl]⟩/\(∀x:Nat,x<i->ig (tl.bB.getD x 0) 0 s.ay.length=true):=fun x1 x2 x3=>⟨_,ad,i+1,rfl,ad,(by rw[x1,aA ad]),x2,(all_succ cA0 x3)⟩
      have gP:i<tl.bB.length:=ad
      have xn:(tl.bB.map aM)[i]? =some (aM (tl.bB.getD i 0)):=getD_map aM gP
      have iP:tl.bB.getD i 0∈tl.bB:=by rw[List.getD_eq_getElem?_getD,List.getElem?_eq_getElem gP];exact List.getElem_mem gP
      have CB:=kE (tl.bB.getD i 0) 0 s.ay.length
      generalize H3:tl.bB.getD i 0=gv at *
      cases hv:ig gv 0 s.ay.length
      ·rw[hv]at CB
       (repeat(first|((repeat(revert hN;revert N;apply Pn.out));refine wk (tw @c7 (tw @cg0 (tw @c0 (tw @c5 (tw @c6 (tw @hi (tw @xn (tw @aM.eq_1 (tw @bI.eq_1 @aa.eq_1))))))))) ?_;(repeat(refine Pn.mk ?_;intro N hN)))|((try apply Or.inl);refine⟨_,ak.x (CB) (sd (tw @c7 (tw @cg0 (tw @c0 (tw @c5 (tw @c6 (tw @hi (tw @xn (tw @aM.eq_1 (tw @bI.eq_1 @aa.eq_1)))))))))),?_⟩;refine hN _ _ ?_;clear hN N)))
       exact bt (b:=false) (.inl rfl) (sd @Nat.zero_add) (eZ (lv fun h=>by
        rw[xw,htd]at h
        have:=h.2.2.2 gv iP
        rw[hv]at this;cases this))
      ·rw[hv]at CB
       (repeat(first|((repeat(revert hN;revert N;apply Pn.out));refine wk (tw @c7 (tw @cg0 (tw @c0 (tw @c5 (tw @c6 (tw @hi (tw @xn (tw @aM.eq_1 (tw @bI.eq_1 @aa.eq_1))))))))) ?_;(repeat(refine Pn.mk ?_;intro N hN)))|((try apply Or.inl);refine⟨_,ak.x (CB) (sd (tw @c7 (tw @cg0 (tw @c0 (tw @c5 (tw @c6 (tw @hi (tw @xn (tw @aM.eq_1 (tw @bI.eq_1 @aa.eq_1)))))))))),?_⟩;refine hN _ _ ?_;clear hN N)))
       refine kF ?_ ?_ (hv)
       all_goals simp only[go_sem, ↓reduceIte,Nat.reduceEqDiff,Nat.reduceAdd,Nat.reduceSub,Nat.reduceLeDiff,reduceCtorEq,c7,cg0,c0,c5,c6]
     ·have hi4:i=4:=ad
      (try((repeat(revert hN;revert N;apply Pn.out));refine wk (tw @c7 (tw @cg0 (tw @c0 (tw @c5 (tw @c6 (tw @hi (tw @bI.eq_1 @aa.eq_1))))))) ?_;(repeat(refine Pn.mk ?_;intro N hN))))
      exact j3 (sd (tw @b5 (tw @b0 (tw @c7 (tw @cg0 (tw @c0 (tw @c5 @c6))))))) (⟨by rw[htd];exact hb,by rw[htd];omega,fun x hx=>(by rw[htd];exact Gm.1 hq x hx),fun g hg=>by
       rw[htd]at hg
       obtain⟨x,hx,rfl⟩:=List.getElem_of_mem hg
       have:=cA0 x ad
       rwa [List.getD_eq_getElem?_getD,List.getElem?_eq_getElem hx]at this⟩)
    ·have hd:decide (KT s tl.aD=(j:Int))=false:=decide_eq_false hq
     (repeat(first|((repeat(revert hN;revert N;apply Pn.out));refine wk (tw @b5 (tw @b0 (tw @hj (tw @lT (tw @vZ (tw @hd (tw @bI.eq_1 @aa.eq_1))))))) ?_;(repeat(refine Pn.mk ?_;intro N hN)))|((try apply Or.inl);refine⟨_,ak.x (p7) (sd (tw @b5 (tw @b0 (tw @hj (tw @lT (tw @vZ (tw @hd (tw @bI.eq_1 @aa.eq_1)))))))),?_⟩;refine hN _ _ ?_;clear hN N)|((try apply Or.inl);refine⟨_,ak.x (DP) (sd (tw @b5 (tw @b0 (tw @hj (tw @lT (tw @vZ (tw @hd (tw @bI.eq_1 @aa.eq_1)))))))),?_⟩;refine hN _ _ ?_;clear hN N)))
     exact bt (b:=false) (.inl rfl) (sd @Nat.zero_add) (eZ (lv fun h=>by
      rw[xw,htd]at h
      exact hq (Gm.2 h.2.2.1)))
   ·have vZ:decide ((tl.bB.length:Int)=4)=false:=decide_eq_false h4
    (repeat(first|((repeat(revert hN;revert N;apply Pn.out));refine wk (tw @b5 (tw @b0 (tw @hj (tw @lT (tw @vZ (tw @bI.eq_1 @aa.eq_1)))))) ?_;(repeat(refine Pn.mk ?_;intro N hN)))|((try apply Or.inl);refine⟨_,ak.x (p7) (sd (tw @b5 (tw @b0 (tw @hj (tw @lT (tw @vZ (tw @bI.eq_1 @aa.eq_1))))))),?_⟩;refine hN _ _ ?_;clear hN N)))
    exact bt (b:=false) (.inl rfl) (sd @Nat.zero_add) (eZ (lv fun h=>by rw[xw,htd]at h;have:=h.2.1;omega))
  ·(try((repeat(revert hN;revert N;apply Pn.out));refine wk (tw @b5 (tw @b0 (tw @hj @aa.eq_1))) ?_;(repeat(refine Pn.mk ?_;intro N hN))))
   exact bt (b:=true) (.inl rfl) (sd @Nat.zero_add) (zr ⟨ad,ad,ad,fun i hi=>aA0 i ad,fun i hi=>bA0 i ad⟩)
end Go.Proofs.YtphenfakmdknlaaGreat.V

namespace Go.Proofs.YtphenfakmdknlaaGreat.V
def nV (a b:br):Bool:=decide (a.fC<b.fC)||(decide (a.fC=b.fC)&&decide (a.fZ<b.fZ))
theorem wH {a b:br}:nV a b=true↔a.fC<b.fC∨(a.fC=b.fC/\a.fZ<b.fZ):=by simp[nV]
theorem uQ {a b:br}:nV a b=false↔¬(a.fC<b.fC∨(a.fC=b.fC/\a.fZ<b.fZ)):=by rw[<-wH,Bool.not_eq_true]
theorem Hh {a b:br} (h1:a.fZ=b.fZ) (h2:a.fC=b.fC):a=b:=by cases a;cases b;simp_all
theorem jN {a b c:br} (h:nV a b=true) (k:nV b c=true):nV a c=true:=by rw[wH]at *;omega
theorem pB {a:br}:nV a a=false:=by rw[uQ];omega
theorem Jl {a b:br} (h:nV a b=false) (gQ:a≠b):nV b a=true:=by
 rw[uQ]at h;rw[wH]
 by_cases hy:a.fC=b.fC
 ·by_cases hx:a.fZ=b.fZ
  ·exact absurd (Hh hx hy) gQ
  ·omega
 ·omega
def kK (a b:Int):Int:=if a<b then -1 else if b<a then 1 else 0
def Py (a b:Int):Int:=if a=0 then b else a
def rz (a b:br):Int:=Py (kK a.fC b.fC) (kK a.fZ b.fZ)
theorem vN (a b:br):decide (rz a b<0)=nV a b:=by
 unfold rz Py kK nV
 by_cases h1:a.fC<b.fC
 ·simp[h1]
 ·by_cases h2:b.fC<a.fC
  ·have:¬a.fC=b.fC:=ad
   simp[h1,h2,this]
  ·have:a.fC=b.fC:=ad
   by_cases h3:a.fZ<b.fZ
   ·simp[h1,h2,this,h3]
   ·by_cases h4:b.fZ<a.fZ<;>simp[h1,h2,this,h3,h4]
theorem Dq (a b:br):(rz a b=0)↔a=b:=by
 cases a;cases b
 unfold rz Py kK
 simp only[br.mk.injEq]
 split<;>(try split)<;>(try split)<;>(try split)<;>omega
def G6:ai:=⟨⟨0,0⟩,0⟩
def bH (l:List ai) (i:Nat):ai:=l.getD i G6
theorem eQ {l:List ai} {i:Nat} (h:i<l.length):bH l i=l[i]:=by simp[bH,List.getD_eq_getElem?_getD,h]
theorem mO {l:List ai} {i:Nat} (h:i<l.length):bH l i∈l:=by rw[eQ h];exact List.getElem_mem h
def mi (l:List ai):Prop:=∀i j:Nat,i<j->j<l.length->nV (bH l i).cG (bH l j).cG=true
def yP (l:List ai) (p:br):Nat:=l.findIdx fun c=>decide (c.cG=p)
def ew (l:List ai) (p:br):Int:=if yP l p<l.length then(yP l p:Int)else -1
def pA (l:List ai) (p:br):Nat:=l.findIdx fun c=> !nV c.cG p
theorem wG {l:List ai} {p:br} {i:Nat} (hi:i<=l.length) (h1:∀x,x<i->nV (bH l x).cG p=true) (h2:i<l.length->nV (bH l i).cG p=false):pA l p=i:=by
 unfold pA
 by_cases h:i<l.length
 ·rw[List.findIdx_eq h]
  refine⟨by have:=h2 h;rw[eQ h]at this;simp[this],fun j hj=>?_⟩
  have:=h1 j hj
  rw[eQ ad]at this
  simp[this]
 ·have:i=l.length:=ad
  subst this
  refine List.findIdx_eq_length_of_false fun x hx=>?_
  obtain⟨j,hj,rfl⟩:=List.getElem_of_mem hx
  have:=h1 j hj
  rw[eQ hj]at this
  simp[this]
theorem CL {l:List ai} {p:br} (hR:mi l):ew l p=if pA l p<l.length/\(bH l (pA l p)).cG=p then(pA l p:Int)else -1:=by
 by_cases h:∃i,i<l.length/\(bH l i).cG=p
 ·obtain⟨i,hi,hp⟩:=h
  have h1:pA l p=i:=wG ad (fun x hx=>by rw[<-hp];exact hR x i hx hi) fun _=>by rw[hp];exact pB
  have h2:yP l p=i:=by
   rw[yP,List.findIdx_eq hi]
   refine⟨by rw[eQ hi]at hp;simpa using hp,fun j hj=>?_⟩
   have:=hR j i hj hi
   rw[hp,eQ ad]at this
   simp only[decide_eq_false_iff_not]
   intro hc
   rw[hc,pB]at this
   cases this
  rw[ew,h1,h2,if_pos hi,if_pos ⟨hi,hp⟩]
 ·have h2:¬yP l p<l.length:=by
   rw[yP,List.findIdx_lt_length]
   rintro⟨c,hc,he⟩
   obtain⟨j,hj,rfl⟩:=List.getElem_of_mem hc
   exact h ⟨j,hj,by rw[eQ hj];simpa using he⟩
  rw[ew,if_neg h2,if_neg]
  rintro⟨h3,h4⟩
  exact h ⟨_,h3,h4⟩
theorem ly {l:List ai} {p:br} (h:0<=ew l p):(ew l p).toNat<l.length/\(bH l (ew l p).toNat).cG=p:=by
 unfold ew at h ⊢
 split at h
 ·rename_i hc
  rw[if_pos hc]
  refine⟨ad,?_⟩
  have:=of_decide_eq_true (List.findIdx_getElem (p:=fun c:ai=>decide (c.cG=p)) (xs:=l) (w:=hc))
  rw[Int.toNat_natCast,eQ hc]
  exact this
 ·omega
theorem Bb (l:List ai) (p:br): -1<=ew l p/\ew l p<l.length:=by
 unfold ew;split<;>omega
def Dg (l:List ai) (p:br):Int:=if 0<=ew l p then(bH l (ew l p).toNat).bU else -1
end Go.Proofs.YtphenfakmdknlaaGreat.V

namespace Go.Proofs.YtphenfakmdknlaaGreat.V
open Go.RowKit
attribute [local irreducible] dJ wpOps e8 Call
attribute [local go_sem] ax eB dY eJ eI cJ upd bD K.av bW AV.cells AV.cell rowOf rowsOf part ld rowAt bC bx cU de fj bf cC dv eO er cL dm cw cu cZ da bl aI bZ bj ck cj di dn dj bY bo cz dh bh au cq bJ fh aT bV bm aH cS aQ cV AV.undef aV bc db dd cY dc bQ du dw bG dq dp cm cr List.getD_cons_zero List.getD_cons_succ List.getD_nil List.all_cons List.all_nil Bool.and_true Bool.true_and Bool.and_self Bool.not_true Bool.not_false Option.map_some Option.map_none Option.bind_some Option.bind_none List.length_cons List.length_nil List.take_succ_cons List.take_zero List.take_nil List.drop_succ_cons List.drop_zero List.drop_nil List.head?_cons List.map_cons List.map_nil List.getElem?_cons_zero List.getElem?_cons_succ List.cons_append List.nil_append List.append_nil List.length_map List.set_cons_zero List.set_cons_succ Nat.reduceMul eq_self Int.toNat_natCast Int.natCast_nonneg and_self true_and and_true decide_true decide_false Bool.false_eq_true Nat.zero_add Nat.add_zero List.contains_cons List.contains_nil Bool.or_false Bool.false_or beq_self_eq_true Nat.reduceBEq ne_eq not_true_eq_false not_false_eq_true Id.mk.injEq false_and and_false Nat.reduceLT Int.reduceLE Int.reduceLT Int.reduceToNat Int.reduceNeg Int.reduceAdd Nat.le_refl List.length_append beq_true beq_false Bool.not_eq_eq_eq_not or_false false_or dG ab ae az aU bu aC aP aE aJ cD aX
theorem qP (a b:br):ak Tryz.prog 218 [.agg (aq a),.agg (aq b)] (.bool (nV a b)):=by
 refine ak.body eL rfl fun hl n0=>?_
 clear hl
 by_cases h0:a.fC<b.fC
 ·(try((repeat(revert hN;revert N;apply Pn.out));refine wk (tw @aq.eq_1 @h0) ?_;(repeat(refine Pn.mk ?_;intro N hN))))
  exact bt (b:=true) (.inl rfl) (sd @Nat.zero_add) (by simp[nV,h0])
 ·by_cases h1:a.fC=b.fC
  ·have h2:¬b.fC<b.fC:=ad
   (try((repeat(revert hN;revert N;apply Pn.out));refine wk (tw @aq.eq_1 (tw @h1 @h2)) ?_;(repeat(refine Pn.mk ?_;intro N hN))))
   exact bt (b:=decide (a.fZ<b.fZ)) (.inl rfl) (sd @Nat.zero_add) (by simp[nV,h1])
  ·(try((repeat(revert hN;revert N;apply Pn.out));refine wk (tw @aq.eq_1 (tw @h0 @h1)) ?_;(repeat(refine Pn.mk ?_;intro N hN))))
   exact bt (b:=false) (.inl rfl) (sd @Nat.zero_add) (by simp[nV,h0,h1])
theorem gy {l:List ai} {i:Nat} (h:i<l.length):(l.map ah)[i]? =some (ah (bH l i)):=getD_map ah h
def B4 (l:List ai) (i:Nat):Prop:=EE (bH l i).cG=true/\ig (bH l i).bU 0 159=true/\(0<i->nV (bH l (i-1)).cG (bH l i).cG=true)
structure jP (l:List ai):Prop where
 IB:l.length<=500
 ok:∀i,i<l.length->B4 l i
noncomputable def mD (l:List ai):Bool:=@decide (jP l) (Classical.propDecidable _)
theorem DH {l:List ai}:mD l=true↔jP l:=by simp[mD]
theorem jn {l:List ai} (h:¬jP l):false=mD l:=by simp[mD,h]
theorem uE {l:List ai} (h:jP l):true=mD l:=by simp[mD,h]
theorem jP.PG {l:List ai} (h:jP l):mi l:=by
 intro i j DO hj
 induction j with
 |zero=>omega
 |succ j ih=>
  have h1:=(h.ok (j+1) hj).2.2 ad
  rw[Nat.add_sub_cancel]at h1
  by_cases he:i=j
  ·subst he;exact h1
  ·exact jN (ih ad ad) h1
theorem jP.pt {l:List ai} (h:jP l) {i:Nat} (hi:i<l.length):EE (bH l i).cG=true:=(h.ok i hi).1
theorem Hg {p:br} (h:EE p=true):iB p.fZ/\iB p.fC:=by
 unfold EE at h
 simp only[Bool.and_eq_true]at h
 have:=ei h.1;have:=ei h.2
 unfold iB;omega
theorem Ee (l:List ai):ak Tryz.prog 113 [.dI [.sl (l.map ah)]] (.bool (mD l)):=by
 refine ak.body eL rfl fun hl n0=>?_
 clear hl
 by_cases h1:(500:Int)<(l.length:Int)
 ·(try((repeat(revert hN;revert N;apply Pn.out));refine wk @h1 ?_;(repeat(refine Pn.mk ?_;intro N hN))))
  exact bt (b:=false) (.inl rfl) (sd @Nat.zero_add) (jn fun h=>by have:=h.IB;omega)
 (try((repeat(revert hN;revert N;apply Pn.out));refine wk @h1 ?_;(repeat(refine Pn.mk ?_;intro N hN))))
 refine bp (fun n env st=>∃k:Nat,n=(l.length)-k/\k<=(l.length)/\env 3=.int .i64 (k:Int)/\(∀j:Nat,j<k->B4 l j)) (l.length) ⟨0,ad,ad,sl @Nat.zero_add,fun _ h=>absurd h (Nat.not_lt_zero _)⟩ ?_
 rintro n_a env_a st_a ⟨k,rfl,ale,a3,aA0⟩ dt
 have a0:=dt 0 (by kernel_rfl)
 simp only[go_sem, ↓reduceIte,Nat.reduceEqDiff,Nat.reduceAdd,Nat.reduceSub,Nat.reduceLeDiff,reduceCtorEq]at a0
 clear dt
 by_cases hk:(k:Int)<(l.length:Int)
 ·have bK:∀{e:Env},(e 3=.int .i64 (IntKind.i64.wrap ((k:Int)+1)))->(B4 l k)->∃m0,m0<(l.length)-k/\∃k:Nat,m0=(l.length)-k/\k<=(l.length)/\e 3=.int .i64 (k:Int)/\(∀j:Nat,j<k->B4 l j):=fun x1 x2=>⟨_,ad,k+1,rfl,ad,(by rw[x1,aA ad]),(all_succ aA0 x2)⟩
  have eo:k<l.length:=ad
  have eC:=gy eo
  have lv:(¬B4 l k)->¬jP l:=fun h hp=>h (hp.ok k eo)
  have hp:=Bd (bH l k).cG
  have ht:=kE (bH l k).bU 0 159
  cases b1:EE (bH l k).cG
  ·rw[b1]at hp
   (repeat(first|((repeat(revert hN;revert N;apply Pn.out));refine wk (tw @a3 (tw @a0 (tw @hk (tw @eC (tw @ah.eq_1 @aq.eq_1))))) ?_;(repeat(refine Pn.mk ?_;intro N hN)))|((try apply Or.inl);refine⟨_,ak.x (hp) (sd (tw @a3 (tw @a0 (tw @hk (tw @eC (tw @ah.eq_1 @aq.eq_1)))))),?_⟩;refine hN _ _ ?_;clear hN N)))
   exact bt (b:=false) (.inl rfl) (sd @Nat.zero_add) (jn (lv fun h=>by rw[B4,b1]at h;cases h.1))
  rw[b1]at hp
  cases b2:ig (bH l k).bU 0 159
  ·rw[b2]at ht
   (repeat(first|((repeat(revert hN;revert N;apply Pn.out));refine wk (tw @a3 (tw @a0 (tw @hk (tw @eC (tw @ah.eq_1 @aq.eq_1))))) ?_;(repeat(refine Pn.mk ?_;intro N hN)))|((try apply Or.inl);refine⟨_,ak.x (hp) (sd (tw @a3 (tw @a0 (tw @hk (tw @eC (tw @ah.eq_1 @aq.eq_1)))))),?_⟩;refine hN _ _ ?_;clear hN N)|((try apply Or.inl);refine⟨_,ak.x (ht) (sd (tw @a3 (tw @a0 (tw @hk (tw @eC (tw @ah.eq_1 @aq.eq_1)))))),?_⟩;refine hN _ _ ?_;clear hN N)))
   exact bt (b:=false) (.inl rfl) (sd @Nat.zero_add) (jn (lv fun h=>by rw[B4,b2]at h;cases h.2.1))
  rw[b2]at ht
  by_cases h0:(0:Int)<(k:Int)
  ·have yw:=gy (l:=l) (i:=k-1) ad
   have hw:IntKind.i64.wrap ((k:Int)-1)=((k-1:Nat):Int):=by rw[bP (by have:=eo;omega)];omega
   have hq:=qP (bH l (k-1)).cG (bH l k).cG
   cases b3:nV (bH l (k-1)).cG (bH l k).cG
   ·rw[b3]at hq
    (repeat(first|((repeat(revert hN;revert N;apply Pn.out));refine wk (tw @a3 (tw @a0 (tw @hk (tw @eC (tw @yw (tw @h0 (tw @hw (tw @ah.eq_1 @aq.eq_1)))))))) ?_;(repeat(refine Pn.mk ?_;intro N hN)))|((try apply Or.inl);refine⟨_,ak.x (hp) (sd (tw @a3 (tw @a0 (tw @hk (tw @eC (tw @yw (tw @h0 (tw @hw (tw @ah.eq_1 @aq.eq_1))))))))),?_⟩;refine hN _ _ ?_;clear hN N)|((try apply Or.inl);refine⟨_,ak.x (ht) (sd (tw @a3 (tw @a0 (tw @hk (tw @eC (tw @yw (tw @h0 (tw @hw (tw @ah.eq_1 @aq.eq_1))))))))),?_⟩;refine hN _ _ ?_;clear hN N)|((try apply Or.inl);refine⟨_,ak.x (hq) (sd (tw @a3 (tw @a0 (tw @hk (tw @eC (tw @yw (tw @h0 (tw @hw (tw @ah.eq_1 @aq.eq_1))))))))),?_⟩;refine hN _ _ ?_;clear hN N)))
    exact bt (b:=false) (.inl rfl) (sd @Nat.zero_add) (jn (lv fun h=>by have:=h.2.2 ad;rw[b3]at this;cases this))
   ·rw[b3]at hq
    (repeat(first|((repeat(revert hN;revert N;apply Pn.out));refine wk (tw @a3 (tw @a0 (tw @hk (tw @eC (tw @yw (tw @h0 (tw @hw (tw @ah.eq_1 @aq.eq_1)))))))) ?_;(repeat(refine Pn.mk ?_;intro N hN)))|((try apply Or.inl);refine⟨_,ak.x (hp) (sd (tw @a3 (tw @a0 (tw @hk (tw @eC (tw @yw (tw @h0 (tw @hw (tw @ah.eq_1 @aq.eq_1))))))))),?_⟩;refine hN _ _ ?_;clear hN N)|((try apply Or.inl);refine⟨_,ak.x (ht) (sd (tw @a3 (tw @a0 (tw @hk (tw @eC (tw @yw (tw @h0 (tw @hw (tw @ah.eq_1 @aq.eq_1))))))))),?_⟩;refine hN _ _ ?_;clear hN N)|((try apply Or.inl);refine⟨_,ak.x (hq) (sd (tw @a3 (tw @a0 (tw @hk (tw @eC (tw @yw (tw @h0 (tw @hw (tw @ah.eq_1 @aq.eq_1))))))))),?_⟩;refine hN _ _ ?_;clear hN N)))
    exact bK (sd (tw @a3 @a0)) (⟨b1,b2,fun _=>b3⟩)
  ·have tJ:k=0:=ad
   (repeat(first|((repeat(revert hN;revert N;apply Pn.out));refine wk (tw @a3 (tw @a0 (tw @hk (tw @eC (tw @h0 (tw @ah.eq_1 @aq.eq_1)))))) ?_;(repeat(refine Pn.mk ?_;intro N hN)))|((try apply Or.inl);refine⟨_,ak.x (hp) (sd (tw @a3 (tw @a0 (tw @hk (tw @eC (tw @h0 (tw @ah.eq_1 @aq.eq_1))))))),?_⟩;refine hN _ _ ?_;clear hN N)|((try apply Or.inl);refine⟨_,ak.x (ht) (sd (tw @a3 (tw @a0 (tw @hk (tw @eC (tw @h0 (tw @ah.eq_1 @aq.eq_1))))))),?_⟩;refine hN _ _ ?_;clear hN N)))
   exact bK (sd (tw @a3 @a0)) (⟨b1,b2,fun h=>ad⟩)
 ·(try((repeat(revert hN;revert N;apply Pn.out));refine wk (tw @a3 (tw @a0 @hk)) ?_;(repeat(refine Pn.mk ?_;intro N hN))))
  exact bt (b:=true) (.inl rfl) (sd @Nat.zero_add) (uE ⟨ad,fun i hi=>aA0 i ad⟩)
theorem ql (a b:Int):ak Tryz.prog 205 [.int .i64 a,.int .i64 b] (.int .i64 (kK a b)):=by
 have nan:∀x:Int,ak Tryz.prog 295 [.int .i64 x] (.bool false):=fun x=>by
  refine ak.body eL rfl fun hl n0=>?_
  clear hl
  have e:decide (x=x)=true:=decide_eq_true rfl
  (try((repeat(revert hN;revert N;apply Pn.out));refine wk @e ?_;(repeat(refine Pn.mk ?_;intro N hN))))
  exact bt (b:=false) (.inl rfl) (sd @Nat.zero_add) rfl
 refine ak.body eL rfl fun hl n0=>?_
 clear hl
 have ha:=nan a
 have hb:=nan b
 by_cases h1:a<b
 ·(repeat(first|((repeat(revert hN;revert N;apply Pn.out));refine wk @h1 ?_;(repeat(refine Pn.mk ?_;intro N hN)))|((try apply Or.inl);refine⟨_,ak.x (ha) (sd @h1),?_⟩;refine hN _ _ ?_;clear hN N)|((try apply Or.inl);refine⟨_,ak.x (hb) (sd @h1),?_⟩;refine hN _ _ ?_;clear hN N)))
  exact cH (b:=-1) (.inl rfl) (sd @Nat.zero_add) (by rw[kK,if_pos h1])
 by_cases h2:b<a
 ·(repeat(first|((repeat(revert hN;revert N;apply Pn.out));refine wk (tw @h1 @h2) ?_;(repeat(refine Pn.mk ?_;intro N hN)))|((try apply Or.inl);refine⟨_,ak.x (ha) (sd (tw @h1 @h2)),?_⟩;refine hN _ _ ?_;clear hN N)|((try apply Or.inl);refine⟨_,ak.x (hb) (sd (tw @h1 @h2)),?_⟩;refine hN _ _ ?_;clear hN N)))
  exact cH (b:=1) (.inl rfl) (sd @Nat.zero_add) (by rw[kK,if_neg h1,if_pos h2])
 ·(repeat(first|((repeat(revert hN;revert N;apply Pn.out));refine wk (tw @h1 @h2) ?_;(repeat(refine Pn.mk ?_;intro N hN)))|((try apply Or.inl);refine⟨_,ak.x (ha) (sd (tw @h1 @h2)),?_⟩;refine hN _ _ ?_;clear hN N)|((try apply Or.inl);refine⟨_,ak.x (hb) (sd (tw @h1 @h2)),?_⟩;refine hN _ _ ?_;clear hN N)))
  exact cH (b:=0) (.inl rfl) (sd @Nat.zero_add) (by rw[kK,if_neg h1,if_neg h2])
def Fm:List Int->Int
 |[]=>0
 |a::r=>if a=0 then Fm r else a
theorem Hc:∀{l:List Int} {k:Nat} (hk:k<l.length),l[k]≠0->(∀j (h:j<l.length),j<k->l[j]=0)->Fm l=l[k]
 |a::r,0,_,h,_=>by
  have h':a≠0:=h
  rw[Fm,if_neg h'];rfl
 |a::r,k+1,hk,h,h0=>by
  have h':a=0:=h0 0 (by simp) ad
  rw[Fm,if_pos h',Hc (k:=k) (by simpa using hk) h fun j hj uK=>h0 (j+1) (by simpa using hj) ad];rfl
theorem zh:∀{l:List Int},(∀j (h:j<l.length),l[j]=0)->Fm l=0
 |[],_=>rfl
 |a::r,h=>by
  have h':a=0:=h 0 (by simp)
  rw[Fm,if_pos h',zh fun j hj=>h (j+1) (by simpa using hj)]
theorem JA (a b:Int):Fm [a,b]=Py a b:=by
 unfold Py
 by_cases h:a=0
 ·rw[Fm,if_pos h,if_pos h,Fm,Fm];split<;>simp_all
 ·rw[Fm,if_neg h,if_neg h]
theorem It (l:List Int):ak Tryz.prog 303 [.sl (l.map aM)] (.int .i64 (Fm l)):=by
 refine ak.body eL rfl fun hl n0=>?_
 have hlen:l.length<=9223372036854775807:=by simpa using(hl (.sl (l.map aM)) (by simp)).len
 clear hl
 (try((repeat(revert hN;revert N;apply Pn.out));refine wk @Nat.zero_add ?_;(repeat(refine Pn.mk ?_;intro N hN))))
 refine bp (fun n env st=>∃k:Nat,n=(l.length)-k/\k<=(l.length)/\env 8=.int .i64 (k:Int)/\(∀j:Nat,j<k->∀h:j<l.length,l[j]=0)) (l.length) ⟨0,ad,ad,sl @Nat.zero_add,fun _ h=>absurd h (Nat.not_lt_zero _)⟩ ?_
 rintro n_a env_a st_a ⟨k,rfl,ale,a8,aA0⟩ dt
 have a3:=dt 3 (by kernel_rfl);have a6:=dt 6 (by kernel_rfl);have a7:=dt 7 (by kernel_rfl)
 simp only[go_sem, ↓reduceIte,Nat.reduceEqDiff,Nat.reduceAdd,Nat.reduceSub,Nat.reduceLeDiff,reduceCtorEq]at a3 a6 a7
 clear dt
 by_cases hk:(k:Int)<(l.length:Int)
 ·have bK:∀{e:Env},(e 8=.int .i64 (IntKind.i64.wrap ((k:Int)+1)))->(∀h:k<l.length,l[k]=0)->∃m0,m0<(l.length)-k/\∃k:Nat,m0=(l.length)-k/\k<=(l.length)/\e 8=.int .i64 (k:Int)/\(∀j:Nat,j<k->∀h:j<l.length,l[j]=0):=fun x1 x2=>⟨_,ad,k+1,rfl,ad,(by rw[x1,aA ad]),(all_succ aA0 x2)⟩
  have eo:k<l.length:=ad
  have eC:(l.map aM)[k]? =some (aM l[k]):=by simp[eo]
  generalize hv:l[k]=v at eC
  by_cases h0:v=0
  ·have e:decide (v=0)=true:=decide_eq_true h0
   (try((repeat(revert hN;revert N;apply Pn.out));refine wk (tw @a8 (tw @a3 (tw @a6 (tw @a7 (tw @e (tw @hk (tw @eC @aM.eq_1))))))) ?_;(repeat(refine Pn.mk ?_;intro N hN))))
   exact bK (sd (tw @a8 (tw @a3 (tw @a6 @a7)))) (fun _=>hv.trans h0)
  ·have e:decide (v=0)=false:=decide_eq_false h0
   (try((repeat(revert hN;revert N;apply Pn.out));refine wk (tw @a8 (tw @a3 (tw @a6 (tw @a7 (tw @e (tw @hk (tw @eC @aM.eq_1))))))) ?_;(repeat(refine Pn.mk ?_;intro N hN))))
   exact cH (b:=v) (.inl rfl) (sd @Nat.zero_add) (by rw[Hc eo (by rw[hv];exact h0) fun j h hj=>aA0 j hj h,hv])
 ·(try((repeat(revert hN;revert N;apply Pn.out));refine wk (tw @a8 (tw @a3 (tw @a6 (tw @a7 @hk)))) ?_;(repeat(refine Pn.mk ?_;intro N hN))))
  exact cH (b:=0) (.inl rfl) (sd @Nat.zero_add) (by rw[zh fun j h=>aA0 j ad h])
section
attribute [local go_sem] List.drop_zero List.take_succ_cons List.take_zero List.length_cons List.length_nil gm vR mE
theorem lO (a b:br):ak Tryz.prog 216 [.agg (aq a),.agg (aq b)] (.int .i64 (rz a b)):=by
 refine ak.body eL rfl fun hl n0=>?_
 clear hl
 have h1:=ql a.fC b.fC
 have h2:=ql a.fZ b.fZ
 have h3:=It [kK a.fC b.fC,kK a.fZ b.fZ]
 rw[JA,List.map_cons,List.map_cons,List.map_nil,aM,aM]at h3
 (repeat(first|((repeat(revert hN;revert N;apply Pn.out));refine wk @aq.eq_1 ?_;(repeat(refine Pn.mk ?_;intro N hN)))|((try apply Or.inl);refine⟨_,ak.x (h1) (sd @aq.eq_1),?_⟩;refine hN _ _ ?_;clear hN N)|((try apply Or.inl);refine⟨_,ak.x (h2) (sd @aq.eq_1),?_⟩;refine hN _ _ ?_;clear hN N)|((try apply Or.inl);refine⟨_,ak.x (h3) (sd @aq.eq_1),?_⟩;refine hN _ _ ?_;clear hN N)))
 exact cH (b:=rz a b) (.inl rfl) (by simp only[go_sem, ↓reduceIte,Nat.reduceEqDiff,Nat.reduceAdd,Nat.reduceSub,Nat.reduceLeDiff,reduceCtorEq,rz]) rfl
end
theorem I6 (a b:br):ak Tryz.prog 233 [.agg (aq a),.agg (aq b)] (.bool (nV a b)):=by
 refine ak.body eL rfl fun hl n0=>?_
 clear hl
 have h1:=lO a b
 rw[aq,aq]at h1
 (repeat(first|((repeat(revert hN;revert N;apply Pn.out));refine wk @aq.eq_1 ?_;(repeat(refine Pn.mk ?_;intro N hN)))|((try apply Or.inl);refine⟨_,ak.x (h1) (sd @aq.eq_1),?_⟩;refine hN _ _ ?_;clear hN N)))
 exact bt (b:=decide (rz a b<0)) (.inl rfl) (sd @Nat.zero_add) (vN a b)
theorem jv (t:ai) (p:br):ak Tryz.prog 228 [.agg (ah t),.agg (aq p)] (.int .i64 (rz t.cG p)):=by
 refine ak.body eL rfl fun hl n0=>?_
 clear hl
 have h1:=lO t.cG p
 rw[aq,aq]at h1
 (repeat(first|((repeat(revert hN;revert N;apply Pn.out));refine wk (tw @ah.eq_1 @aq.eq_1) ?_;(repeat(refine Pn.mk ?_;intro N hN)))|((try apply Or.inl);refine⟨_,ak.x (h1) (sd (tw @ah.eq_1 @aq.eq_1)),?_⟩;refine hN _ _ ?_;clear hN N)))
 exact cH (b:=rz t.cG p) (.inl rfl) (sd @Nat.zero_add) rfl
theorem DK (l:List ai):ak Tryz.prog 140 [.agg [.sl (l.map ah)]] (.bool (mD l)):=by
 refine ak.body eL rfl fun hl n0=>?_
 have hlen:l.length<=9223372036854775807:=by
  have h1:=(hl (.agg [.sl (l.map ah)]) (by simp)).K8 (a:=.sl (l.map ah)) (by simp)
  simpa using h1.len
 clear hl
 (try((repeat(revert hN;revert N;apply Pn.out));refine wk @Nat.zero_add ?_;(repeat(refine Pn.mk ?_;intro N hN))))
 refine bp (fun n env st=>∃k:Nat,n=(l.length)-k/\k<=(l.length)/\env 8=.int .i64 (k:Int)/\st.get ⟨140000000,n0⟩=some ⟨true,1,[[.sl (l.map ah)]]⟩/\(∀j:Nat,j<k->B4 l j)) (l.length) ⟨0,ad,ad,sl @Nat.zero_add,sl @Nat.zero_add,fun _ h=>absurd h (Nat.not_lt_zero _)⟩ ?_
 rintro n_a env_a st_a ⟨k,rfl,ale,a8,ag0,aA0⟩ dt
 have a1:=dt 1 (by kernel_rfl);have a6:=dt 6 (by kernel_rfl);have a7:=dt 7 (by kernel_rfl)
 simp only[go_sem, ↓reduceIte,Nat.reduceEqDiff,Nat.reduceAdd,Nat.reduceSub,Nat.reduceLeDiff,reduceCtorEq]at a1 a6 a7
 clear dt
 by_cases hk:(k:Int)<(l.length:Int)
 ·have bK:∀{e:Env} {gg:Rows},(e 8=.int .i64 (IntKind.i64.wrap ((k:Int)+1)))->(gg ⟨140000000,n0⟩=some ⟨true,1,[[.sl (l.map ah)]]⟩)->(B4 l k)->∃m0,m0<(l.length)-k/\∃k:Nat,m0=(l.length)-k/\k<=(l.length)/\e 8=.int .i64 (k:Int)/\gg ⟨140000000,n0⟩=some ⟨true,1,[[.sl (l.map ah)]]⟩/\(∀j:Nat,j<k->B4 l j):=fun x1 x2 x3=>⟨_,ad,k+1,rfl,ad,(by rw[x1,aA ad]),x2,(all_succ aA0 x3)⟩
  have eo:k<l.length:=ad
  have eC:=gy eo
  have lv:(¬B4 l k)->¬jP l:=fun h hp=>h (hp.ok k eo)
  have hp:=vC (bH l k).cG
  have ht:=uP (bH l k).bU 160 ad ad
  rw[show(160:Int)-1=159 from rfl]at ht
  cases b1:EE (bH l k).cG
  ·rw[b1]at hp
   (repeat(first|((repeat(revert hN;revert N;apply Pn.out));refine wk (tw @a8 (tw @ag0 (tw @a1 (tw @a6 (tw @a7 (tw @hk (tw @eC (tw @ah.eq_1 @aq.eq_1)))))))) ?_;(repeat(refine Pn.mk ?_;intro N hN)))|((try apply Or.inl);refine⟨_,ak.x (hp) (sd (tw @a8 (tw @ag0 (tw @a1 (tw @a6 (tw @a7 (tw @hk (tw @eC (tw @ah.eq_1 @aq.eq_1))))))))),?_⟩;refine hN _ _ ?_;clear hN N)))
   exact bt (b:=false) (.inl rfl) (sd @Nat.zero_add) (jn (lv fun h=>by rw[B4,b1]at h;cases h.1))
  rw[b1]at hp
  cases b2:ig (bH l k).bU 0 159
  ·rw[b2]at ht
   (repeat(first|((repeat(revert hN;revert N;apply Pn.out));refine wk (tw @a8 (tw @ag0 (tw @a1 (tw @a6 (tw @a7 (tw @hk (tw @eC (tw @ah.eq_1 @aq.eq_1)))))))) ?_;(repeat(refine Pn.mk ?_;intro N hN)))|((try apply Or.inl);refine⟨_,ak.x (hp) (sd (tw @a8 (tw @ag0 (tw @a1 (tw @a6 (tw @a7 (tw @hk (tw @eC (tw @ah.eq_1 @aq.eq_1))))))))),?_⟩;refine hN _ _ ?_;clear hN N)|((try apply Or.inl);refine⟨_,ak.x (ht) (sd (tw @a8 (tw @ag0 (tw @a1 (tw @a6 (tw @a7 (tw @hk (tw @eC (tw @ah.eq_1 @aq.eq_1))))))))),?_⟩;refine hN _ _ ?_;clear hN N)))
   exact bt (b:=false) (.inl rfl) (sd @Nat.zero_add) (jn (lv fun h=>by rw[B4,b2]at h;cases h.2.1))
  rw[b2]at ht
  by_cases h0:(0:Int)<(k:Int)
  ·have yw:=gy (l:=l) (i:=k-1) ad
   have hw:IntKind.i64.wrap ((k:Int)-1)=((k-1:Nat):Int):=by rw[bP ad];omega
   have hq:=I6 (bH l (k-1)).cG (bH l k).cG
   cases b3:nV (bH l (k-1)).cG (bH l k).cG
   ·rw[b3]at hq
    (repeat(first|((repeat(revert hN;revert N;apply Pn.out));refine wk (tw @a8 (tw @ag0 (tw @a1 (tw @a6 (tw @a7 (tw @hk (tw @eC (tw @yw (tw @h0 (tw @hw (tw @ah.eq_1 @aq.eq_1))))))))))) ?_;(repeat(refine Pn.mk ?_;intro N hN)))|((try apply Or.inl);refine⟨_,ak.x (hp) (sd (tw @a8 (tw @ag0 (tw @a1 (tw @a6 (tw @a7 (tw @hk (tw @eC (tw @yw (tw @h0 (tw @hw (tw @ah.eq_1 @aq.eq_1)))))))))))),?_⟩;refine hN _ _ ?_;clear hN N)|((try apply Or.inl);refine⟨_,ak.x (ht) (sd (tw @a8 (tw @ag0 (tw @a1 (tw @a6 (tw @a7 (tw @hk (tw @eC (tw @yw (tw @h0 (tw @hw (tw @ah.eq_1 @aq.eq_1)))))))))))),?_⟩;refine hN _ _ ?_;clear hN N)|((try apply Or.inl);refine⟨_,ak.x (hq) (sd (tw @a8 (tw @ag0 (tw @a1 (tw @a6 (tw @a7 (tw @hk (tw @eC (tw @yw (tw @h0 (tw @hw (tw @ah.eq_1 @aq.eq_1)))))))))))),?_⟩;refine hN _ _ ?_;clear hN N)))
    exact bt (b:=false) (.inl rfl) (sd @Nat.zero_add) (jn (lv fun h=>by have:=h.2.2 ad;rw[b3]at this;cases this))
   ·rw[b3]at hq
    (repeat(first|((repeat(revert hN;revert N;apply Pn.out));refine wk (tw @a8 (tw @ag0 (tw @a1 (tw @a6 (tw @a7 (tw @hk (tw @eC (tw @yw (tw @h0 (tw @hw (tw @ah.eq_1 @aq.eq_1))))))))))) ?_;(repeat(refine Pn.mk ?_;intro N hN)))|((try apply Or.inl);refine⟨_,ak.x (hp) (sd (tw @a8 (tw @ag0 (tw @a1 (tw @a6 (tw @a7 (tw @hk (tw @eC (tw @yw (tw @h0 (tw @hw (tw @ah.eq_1 @aq.eq_1)))))))))))),?_⟩;refine hN _ _ ?_;clear hN N)|((try apply Or.inl);refine⟨_,ak.x (ht) (sd (tw @a8 (tw @ag0 (tw @a1 (tw @a6 (tw @a7 (tw @hk (tw @eC (tw @yw (tw @h0 (tw @hw (tw @ah.eq_1 @aq.eq_1)))))))))))),?_⟩;refine hN _ _ ?_;clear hN N)|((try apply Or.inl);refine⟨_,ak.x (hq) (sd (tw @a8 (tw @ag0 (tw @a1 (tw @a6 (tw @a7 (tw @hk (tw @eC (tw @yw (tw @h0 (tw @hw (tw @ah.eq_1 @aq.eq_1)))))))))))),?_⟩;refine hN _ _ ?_;clear hN N)))
    refine bK ?_ ?_ (⟨b1,b2,fun _=>b3⟩)
    all_goals simp only[go_sem, ↓reduceIte,Nat.reduceEqDiff,Nat.reduceAdd,Nat.reduceSub,Nat.reduceLeDiff,reduceCtorEq,a8,ag0,a1,a6,a7]
  ·have tJ:k=0:=ad
   (repeat(first|((repeat(revert hN;revert N;apply Pn.out));refine wk (tw @a8 (tw @ag0 (tw @a1 (tw @a6 (tw @a7 (tw @hk (tw @eC (tw @h0 (tw @ah.eq_1 @aq.eq_1))))))))) ?_;(repeat(refine Pn.mk ?_;intro N hN)))|((try apply Or.inl);refine⟨_,ak.x (hp) (sd (tw @a8 (tw @ag0 (tw @a1 (tw @a6 (tw @a7 (tw @hk (tw @eC (tw @h0 (tw @ah.eq_1 @aq.eq_1)))))))))),?_⟩;refine hN _ _ ?_;clear hN N)|((try apply Or.inl);refine⟨_,ak.x (ht) (sd (tw @a8 (tw @ag0 (tw @a1 (tw @a6 (tw @a7 (tw @hk (tw @eC (tw @h0 (tw @ah.eq_1 @aq.eq_1)))))))))),?_⟩;refine hN _ _ ?_;clear hN N)))
   refine bK ?_ ?_ (⟨b1,b2,fun h=>ad⟩)
   all_goals simp only[go_sem, ↓reduceIte,Nat.reduceEqDiff,Nat.reduceAdd,Nat.reduceSub,Nat.reduceLeDiff,reduceCtorEq,a8,ag0,a1,a6,a7]
 ·(try((repeat(revert hN;revert N;apply Pn.out));refine wk (tw @a8 (tw @ag0 (tw @a1 (tw @a6 (tw @a7 @hk))))) ?_;(repeat(refine Pn.mk ?_;intro N hN))))
  refine bt (b:=decide ((l.length:Int)<=500)) (.inl rfl) (sd @Nat.zero_add) ?_
  by_cases h5:(l.length:Int)<=500
  ·rw[decide_eq_true h5];exact uE ⟨ad,fun i hi=>aA0 i ad⟩
  ·rw[decide_eq_false h5];exact jn fun h=>by have:=h.IB;omega
theorem Dk (cells:List ai) (p:br) (hR:mi cells) (Og:cells.length<=1048576):
  ak Tryz.prog 227 [.sl (cells.map ah),.agg (aq p),.fn 228 []] (.im [.int .i64 (pA cells p),.bool (decide (pA cells p<cells.length)&&decide ((bH cells (pA cells p)).cG=p))]):=by
 refine ak.body eL rfl fun hl n0=>?_
 clear hl
 (try((repeat(revert hN;revert N;apply Pn.out));refine wk @aq.eq_1 ?_;(repeat(refine Pn.mk ?_;intro N hN))))
 refine bp (fun n env st=>∃i j:Nat,n=j-i/\i<=j/\j<=cells.length/\(∀x,x<i->nV (bH cells x).cG p=true)/\(∀x,j<=x->x<cells.length->nV (bH cells x).cG p=false)/\env 9=.int .i64 i/\env 10=.int .i64 j/\st.get ⟨227000000,n0⟩=some ⟨true,2,[aq p]⟩) cells.length ⟨0,cells.length,ad,ad,ad,fun x h=>ad,fun x h1 h2=>ad,by(simp only[go_sem, ↓reduceIte,Nat.reduceEqDiff,Nat.reduceAdd,Nat.reduceSub,Nat.reduceLeDiff,reduceCtorEq])<;>rfl,sd @Nat.zero_add,sd @aq.eq_1⟩ ?_
 rintro n env st ⟨i,j,rfl,DO,hj,jH,zJ,h9,h10,hg⟩ fr
 have h0:=fr 0 (by kernel_rfl)
 have h2:=fr 2 (by kernel_rfl)
 have h4:=fr 4 (by kernel_rfl)
 have h8:=fr 8 (by kernel_rfl)
 simp only[go_sem, ↓reduceIte,Nat.reduceEqDiff,Nat.reduceAdd,Nat.reduceSub,Nat.reduceLeDiff,reduceCtorEq]at h0 h2 h4 h8
 clear fr
 by_cases ea:(i:Int)<(j:Int)
 ·have e1:IntKind.i64.wrap ((i:Int)+j)=((i+j:Nat):Int):=by rw[bP ad];rfl
  have hm:(i+j) / 2<cells.length:=ad
  have ev:(cells.map ah)[(i+j) / 2]? =some (ah (bH cells ((i+j) / 2))):=gy (l:=cells) hm
  have e2:IntKind.i64.wrap ((IntKind.u64.wrap ((i+j:Nat):Int)).fdiv (2 ^ min 1 IntKind.u64.bits))=(((i+j) / 2:Nat):Int):=by
   have h:IntKind.u64.wrap ((i+j:Nat):Int)=((i+j:Nat):Int):=by rw[IntKind.wrap_u64];omega
   rw[h,show min 1 IntKind.u64.bits=1 from rfl,show((2:Int) ^ 1)=2 from rfl,Int.fdiv_eq_ediv_of_nonneg _ ad]
   rw[bP ad];omega
  have NX:IntKind.i64.wrap ((IntKind.u64.wrap ((i+j:Nat):Int)).fdiv (2 ^ min 1 64))=(((i+j) / 2:Nat):Int):=e2
  have e3:=aA (k:=(i+j) / 2) ad
  by_cases hc:rz (bH cells ((i+j) / 2)).cG p<0
  ·have hl:nV (bH cells ((i+j) / 2)).cG p=true:=by rw[<-vN];simpa using hc
   (repeat(first|((repeat(revert hN;revert N;apply Pn.out));refine wk (tw @h0 (tw @h2 (tw @h4 (tw @h8 (tw @h9 (tw @h10 (tw @hg (tw @ea (tw @e1 (tw @e2 (tw @NX (tw @ev (tw @hc (tw @ah.eq_1 @aq.eq_1)))))))))))))) ?_;(repeat(refine Pn.mk ?_;intro N hN)))|((try apply Or.inl);refine⟨_,ak.x (jv (bH cells ((i+j) / 2)) p) (sd (tw @h0 (tw @h2 (tw @h4 (tw @h8 (tw @h9 (tw @h10 (tw @hg (tw @ea (tw @e1 (tw @e2 (tw @NX (tw @ev (tw @hc (tw @ah.eq_1 @aq.eq_1))))))))))))))),?_⟩;refine hN _ _ ?_;clear hN N)))
   refine⟨_,?_,(i+j) / 2+1,j,rfl,ad,hj,fun x hx=>?_,zJ,sd @e3,sd @h10,sd (tw @hg @aq.eq_1)⟩
   ·omega
   ·by_cases Md:x=(i+j) / 2
    ·subst Md;exact hl
    ·exact jN (hR x _ ad hm) hl
  ·have hl:nV (bH cells ((i+j) / 2)).cG p=false:=by rw[<-vN];simpa using hc
   (repeat(first|((repeat(revert hN;revert N;apply Pn.out));refine wk (tw @h0 (tw @h2 (tw @h4 (tw @h8 (tw @h9 (tw @h10 (tw @hg (tw @ea (tw @e1 (tw @e2 (tw @NX (tw @ev (tw @hc (tw @ah.eq_1 @aq.eq_1)))))))))))))) ?_;(repeat(refine Pn.mk ?_;intro N hN)))|((try apply Or.inl);refine⟨_,ak.x (jv (bH cells ((i+j) / 2)) p) (sd (tw @h0 (tw @h2 (tw @h4 (tw @h8 (tw @h9 (tw @h10 (tw @hg (tw @ea (tw @e1 (tw @e2 (tw @NX (tw @ev (tw @hc (tw @ah.eq_1 @aq.eq_1))))))))))))))),?_⟩;refine hN _ _ ?_;clear hN N)))
   refine⟨_,?_,i,(i+j) / 2,rfl,ad,ad,jH,fun x h1 h2=>?_,sd @h9,sd (tw @e2 @NX),sd (tw @hg @aq.eq_1)⟩
   ·omega
   ·by_cases Md:x=(i+j) / 2
    ·subst Md;exact hl
    ·rw[Bool.eq_false_iff]
     intro hc
     have h3:=jN (hR ((i+j) / 2) x ad h2) hc
     rw[hl]at h3;cases h3
 ·have LS:i=j:=ad
  subst LS
  have AX:pA cells p=i:=wG hj jH fun h=>zJ i (Nat.le_refl _) h
  by_cases hn:(i:Int)<(cells.length:Int)
  ·have gP:i<cells.length:=ad
   have ev:(cells.map ah)[i]? =some (ah (bH cells i)):=gy (l:=cells) gP
   have hd:decide (rz (bH cells i).cG p=0)=decide ((bH cells i).cG=p):=by simp only[Dq]
   (repeat(first|((repeat(revert hN;revert N;apply Pn.out));refine wk (tw @h0 (tw @h2 (tw @h4 (tw @h8 (tw @h9 (tw @h10 (tw @hg (tw @ea (tw @hn (tw @ev (tw @ah.eq_1 @aq.eq_1))))))))))) ?_;(repeat(refine Pn.mk ?_;intro N hN)))|((try apply Or.inl);refine⟨_,ak.x (jv (bH cells i) p) (sd (tw @h0 (tw @h2 (tw @h4 (tw @h8 (tw @h9 (tw @h10 (tw @hg (tw @ea (tw @hn (tw @ev (tw @ah.eq_1 @aq.eq_1)))))))))))),?_⟩;refine hN _ _ ?_;clear hN N)))
   refine uZ (.inl rfl) (r1:=.int .i64 i) (r2:=.bool (decide ((bH cells i).cG=p))) ?_ ?_ ?_
   ·simp only[go_sem, ↓reduceIte,Nat.reduceEqDiff,Nat.reduceAdd,Nat.reduceSub,Nat.reduceLeDiff,reduceCtorEq]
   ·simp only[go_sem, ↓reduceIte,Nat.reduceEqDiff,Nat.reduceAdd,Nat.reduceSub,Nat.reduceLeDiff,reduceCtorEq,hd]
   ·simp only[lr,cN,dC,fV,jS,Option.map_some,AX,gP,decide_true,Bool.true_and]
  ·have gP:¬i<cells.length:=ad
   (try((repeat(revert hN;revert N;apply Pn.out));refine wk (tw @h0 (tw @h2 (tw @h4 (tw @h8 (tw @h9 (tw @h10 (tw @hg (tw @ea (tw @hn (tw @ah.eq_1 @aq.eq_1)))))))))) ?_;(repeat(refine Pn.mk ?_;intro N hN))))
   refine uZ (.inl rfl) (r1:=.int .i64 i) (r2:=.bool false) ?_ ?_ ?_
   ·simp only[go_sem, ↓reduceIte,Nat.reduceEqDiff,Nat.reduceAdd,Nat.reduceSub,Nat.reduceLeDiff,reduceCtorEq]
   ·simp only[go_sem, ↓reduceIte,Nat.reduceEqDiff,Nat.reduceAdd,Nat.reduceSub,Nat.reduceLeDiff,reduceCtorEq]
   ·simp only[lr,cN,dC,fV,jS,Option.map_some,AX,gP,decide_false,Bool.false_and]
theorem ED (l:List ai) (p:br) (hR:mi l) (Og:l.length<=1048576):ak Tryz.prog 250 [.agg [.sl (l.map ah)],.agg (aq p)] (.int .i64 (ew l p)):=by
 refine ak.body eL rfl fun hl n0=>?_
 clear hl
 rw[CL hR]
 have hb:=Dk l p hR Og
 rw[aq]at hb
 cases hf:(decide (pA l p<l.length)&&decide ((bH l (pA l p)).cG=p))
 ·rw[hf]at hb
  (repeat(first|((repeat(revert hN;revert N;apply Pn.out));refine wk @aq.eq_1 ?_;(repeat(refine Pn.mk ?_;intro N hN)))|((try apply Or.inl);refine⟨_,ak.x (hb) (sd @aq.eq_1),?_⟩;refine hN _ _ ?_;clear hN N)))
  exact cH (b:=-1) (.inl rfl) (sd @Nat.zero_add) (by rw[if_neg];intro h;simp[h.1,h.2]at hf)
 ·rw[hf]at hb
  (repeat(first|((repeat(revert hN;revert N;apply Pn.out));refine wk @aq.eq_1 ?_;(repeat(refine Pn.mk ?_;intro N hN)))|((try apply Or.inl);refine⟨_,ak.x (hb) (sd @aq.eq_1),?_⟩;refine hN _ _ ?_;clear hN N)))
  exact cH (b:=(pA l p:Int)) (.inl rfl) (sd @Nat.zero_add) (by rw[if_pos];simpa using hf)
theorem Bf (l:List ai) (p:br) (hR:mi l) (Og:l.length<=1048576):ak Tryz.prog 115 [.dI [.sl (l.map ah)],.agg (aq p)] (.int .i64 (ew l p)):=by
 refine ak.body eL rfl fun hl n0=>?_
 clear hl
 rw[CL hR]
 (try((repeat(revert hN;revert N;apply Pn.out));refine wk @aq.eq_1 ?_;(repeat(refine Pn.mk ?_;intro N hN))))
 refine bp (fun n env st=>∃i j:Nat,n=j-i/\i<=j/\j<=l.length/\(∀x,x<i->nV (bH l x).cG p=true)/\(∀x,j<=x->x<l.length->nV (bH l x).cG p=false)/\env 5=.int .i64 i/\env 6=.int .i64 j/\st.get ⟨115000000,n0⟩=some ⟨true,2,[aq p]⟩) l.length ⟨0,l.length,ad,ad,ad,fun x h=>ad,fun x h1 h2=>ad,by(simp only[go_sem, ↓reduceIte,Nat.reduceEqDiff,Nat.reduceAdd,Nat.reduceSub,Nat.reduceLeDiff,reduceCtorEq])<;>rfl,sd @Nat.zero_add,sd @aq.eq_1⟩ ?_
 rintro n env st ⟨i,j,rfl,DO,hj,jH,zJ,h5,h6,hg⟩ fr
 have h0:=fr 0 (by kernel_rfl)
 have h3:=fr 3 (by kernel_rfl)
 simp only[go_sem, ↓reduceIte,Nat.reduceEqDiff,Nat.reduceAdd,Nat.reduceSub,Nat.reduceLeDiff,reduceCtorEq]at h0 h3
 clear fr
 by_cases ea:(i:Int)<(j:Int)
 ·have e1:IntKind.i64.wrap ((i:Int)+j)=((i+j:Nat):Int):=by rw[bP ad];rfl
  have hm:(i+j) / 2<l.length:=ad
  have ev:=gy hm
  have e2:IntKind.i64.wrap (((i+j:Nat):Int).tdiv 2)=(((i+j) / 2:Nat):Int):=by
   rw[Int.tdiv_eq_ediv_of_nonneg ad,bP ad];omega
  have e3:=aA (k:=(i+j) / 2) ad
  have hq:=qP (bH l ((i+j) / 2)).cG p
  cases hl:nV (bH l ((i+j) / 2)).cG p
  ·rw[hl]at hq
   (repeat(first|((repeat(revert hN;revert N;apply Pn.out));refine wk (tw @h0 (tw @h3 (tw @h5 (tw @h6 (tw @hg (tw @ea (tw @e1 (tw @e2 (tw @ev (tw @ah.eq_1 @aq.eq_1)))))))))) ?_;(repeat(refine Pn.mk ?_;intro N hN)))|((try apply Or.inl);refine⟨_,ak.x (hq) (sd (tw @h0 (tw @h3 (tw @h5 (tw @h6 (tw @hg (tw @ea (tw @e1 (tw @e2 (tw @ev (tw @ah.eq_1 @aq.eq_1))))))))))),?_⟩;refine hN _ _ ?_;clear hN N)))
   refine⟨_,?_,i,(i+j) / 2,rfl,ad,ad,jH,fun x h1 h2=>?_,sd @h5,sd @e2,sd (tw @hg @aq.eq_1)⟩
   ·omega
   ·by_cases Md:x=(i+j) / 2
    ·subst Md;exact hl
    ·rw[Bool.eq_false_iff]
     intro hc
     have h3:=jN (hR ((i+j) / 2) x ad h2) hc
     rw[hl]at h3;cases h3
  ·rw[hl]at hq
   (repeat(first|((repeat(revert hN;revert N;apply Pn.out));refine wk (tw @h0 (tw @h3 (tw @h5 (tw @h6 (tw @hg (tw @ea (tw @e1 (tw @e2 (tw @ev (tw @ah.eq_1 @aq.eq_1)))))))))) ?_;(repeat(refine Pn.mk ?_;intro N hN)))|((try apply Or.inl);refine⟨_,ak.x (hq) (sd (tw @h0 (tw @h3 (tw @h5 (tw @h6 (tw @hg (tw @ea (tw @e1 (tw @e2 (tw @ev (tw @ah.eq_1 @aq.eq_1))))))))))),?_⟩;refine hN _ _ ?_;clear hN N)))
   refine⟨_,?_,(i+j) / 2+1,j,rfl,ad,hj,fun x hx=>?_,zJ,sd @e3,sd @h6,sd (tw @hg @aq.eq_1)⟩
   ·omega
   ·by_cases Md:x=(i+j) / 2
    ·subst Md;exact hl
    ·exact jN (hR x _ ad hm) hl
 ·have LS:i=j:=ad
  subst LS
  have AX:pA l p=i:=wG hj jH fun h=>zJ i (Nat.le_refl _) h
  by_cases hn:(i:Int)<(l.length:Int)
  ·have gP:i<l.length:=ad
   have ev:=gy gP
   by_cases hp:(bH l i).cG=p
   ·have hx:decide ((bH l i).cG.fZ=p.fZ)=true:=decide_eq_true (by rw[hp])
    have hy:decide ((bH l i).cG.fC=p.fC)=true:=decide_eq_true (by rw[hp])
    (try((repeat(revert hN;revert N;apply Pn.out));refine wk (tw @h0 (tw @h3 (tw @h5 (tw @h6 (tw @hg (tw @ea (tw @hn (tw @ev (tw @hx (tw @hy (tw @ah.eq_1 @aq.eq_1))))))))))) ?_;(repeat(refine Pn.mk ?_;intro N hN))))
    exact cH (b:=(i:Int)) (.inl rfl) (sd @Nat.zero_add) (by rw[AX,if_pos ⟨gP,hp⟩])
   ·by_cases hx:(bH l i).cG.fZ=p.fZ
    ·have tM:decide ((bH l i).cG.fZ=p.fZ)=true:=decide_eq_true hx
     have hy':decide ((bH l i).cG.fC=p.fC)=false:=decide_eq_false fun h=>hp (Hh hx h)
     (try((repeat(revert hN;revert N;apply Pn.out));refine wk (tw @h0 (tw @h3 (tw @h5 (tw @h6 (tw @hg (tw @ea (tw @hn (tw @ev (tw @tM (tw @hy' (tw @ah.eq_1 @aq.eq_1))))))))))) ?_;(repeat(refine Pn.mk ?_;intro N hN))))
     exact cH (b:=-1) (.inl rfl) (sd @Nat.zero_add) (by rw[AX,if_neg fun h=>hp h.2])
    ·have tM:decide ((bH l i).cG.fZ=p.fZ)=false:=decide_eq_false hx
     (try((repeat(revert hN;revert N;apply Pn.out));refine wk (tw @h0 (tw @h3 (tw @h5 (tw @h6 (tw @hg (tw @ea (tw @hn (tw @ev (tw @tM (tw @Bool.false_and (tw @ah.eq_1 @aq.eq_1))))))))))) ?_;(repeat(refine Pn.mk ?_;intro N hN))))
     exact cH (b:=-1) (.inl rfl) (sd @Nat.zero_add) (by rw[AX,if_neg fun h=>hp h.2])
  ·have gP:¬i<l.length:=ad
   (try((repeat(revert hN;revert N;apply Pn.out));refine wk (tw @h0 (tw @h3 (tw @h5 (tw @h6 (tw @hg (tw @ea (tw @hn (tw @ah.eq_1 @aq.eq_1)))))))) ?_;(repeat(refine Pn.mk ?_;intro N hN))))
   exact cH (b:=-1) (.inl rfl) (sd @Nat.zero_add) (by rw[AX,if_neg fun h=>gP h.1])
def qc (s:ao) (l:List ai):Prop:=jP l/\∀t∈l,gp s t.bU=true
noncomputable def oq (s:ao) (l:List ai):Bool:=mD l&&l.all fun t=>gp s t.bU
theorem xD {s:ao} {l:List ai}:oq s l=true↔qc s l:=by simp[oq,qc,DH]
theorem Au:P4 ah (fun c=>.agg (ah c)) 3 true:=⟨fun _=>rfl,fun _=>rfl,fun x g=>by simp only[ah,ab,ae,aP,az,Option.map_some]⟩
theorem Ew (s:ao) (t:ai) (hs:s.aj.length<=1048576):ak Tryz.prog 197 [.agg (ah t),.dI (aa s)] (.bool (!gp s t.bU)):=by
 refine ak.body eL rfl fun hl n0=>?_
 clear hl
 have h:=GJ s t.bU
 rw[aa]at h
 (repeat(first|((repeat(revert hN;revert N;apply Pn.out));refine wk (tw @ah.eq_1 @aa.eq_1) ?_;(repeat(refine Pn.mk ?_;intro N hN)))|((try apply Or.inl);refine⟨_,ak.x (h) (sd (tw @ah.eq_1 @aa.eq_1)),?_⟩;refine hN _ _ ?_;clear hN N)))
 exact bt (b:= !gp s t.bU) (.inl rfl) (sd @Nat.zero_add) rfl
theorem JW (s:ao) (l:List ai) (hs:s.aj.length<=1048576) (hl:l.length<=1048576):ak Tryz.prog 141 [.sl (l.map ah),.fn 197 [.dI (aa s)]] (.bool (l.any fun t=> !gp s t.bU)):=
 mu Au (show lN Tryz.prog 141=some (AN 141 226) by kernel_rfl)
  (show lN Tryz.prog 226=some (wv 226 3 true) by kernel_rfl) l hl _ _ _ rfl (fun g=>by rw[ab,aE,ae];rfl) (fun x _=>Ew s x hs) fun g=>by rw[ab,aE,ae];rfl
theorem Ik {α:Type} (p:α->Bool) (l:List α):(!l.any fun t=> !p t)=l.all p:=by
 induction l with
 |nil=>rfl
 |cons x l ih=>simp only[List.any_cons,List.all_cons,<-ih];cases p x<;>simp
theorem rn (s:ao) (l:List ai) (hn:fR s) (hg:s.ay.length<=1048576) (ht:s.aj.length<=1048576) (hs:∀t∈s.aj,t.bB.length<=1048576) (hl:l.length<=1048576):ak Tryz.prog 94 [.agg (aa s),.agg [.sl (l.map ah)]] (.bool (nW s&&oq s l)):=by
 refine ak.body eL rfl fun hl n0=>?_
 clear hl
 have h1:=z6 s hn hg ht hs
 have h2:=DK l
 have h3:=JW s l ht hl
 rw[aa]at h1 h3
 cases b1:nW s
 ·rw[b1]at h1
  (repeat(first|((repeat(revert hN;revert N;apply Pn.out));refine wk @aa.eq_1 ?_;(repeat(refine Pn.mk ?_;intro N hN)))|((try apply Or.inl);refine⟨_,ak.x (h1) (sd @aa.eq_1),?_⟩;refine hN _ _ ?_;clear hN N)))
  exact bt (b:=false) (.inl rfl) (sd @Nat.zero_add) rfl
 rw[b1]at h1
 cases b2:mD l
 ·rw[b2]at h2
  (repeat(first|((repeat(revert hN;revert N;apply Pn.out));refine wk @aa.eq_1 ?_;(repeat(refine Pn.mk ?_;intro N hN)))|((try apply Or.inl);refine⟨_,ak.x (h1) (sd @aa.eq_1),?_⟩;refine hN _ _ ?_;clear hN N)|((try apply Or.inl);refine⟨_,ak.x (h2) (sd @aa.eq_1),?_⟩;refine hN _ _ ?_;clear hN N)))
  exact bt (b:=false) (.inl rfl) (sd @Nat.zero_add) (by rw[oq,b2];rfl)
 rw[b2]at h2
 (repeat(first|((repeat(revert hN;revert N;apply Pn.out));refine wk @aa.eq_1 ?_;(repeat(refine Pn.mk ?_;intro N hN)))|((try apply Or.inl);refine⟨_,ak.x (h1) (sd @aa.eq_1),?_⟩;refine hN _ _ ?_;clear hN N)|((try apply Or.inl);refine⟨_,ak.x (h2) (sd @aa.eq_1),?_⟩;refine hN _ _ ?_;clear hN N)|((try apply Or.inl);refine⟨_,ak.x (h3) (sd @aa.eq_1),?_⟩;refine hN _ _ ?_;clear hN N)))
 exact bt (b:= !(l.any fun t=> !gp s t.bU)) (.inl rfl) (sd @Nat.zero_add) (by rw[Ik,oq,b2];rfl)
theorem Jg (s:ao) (l:List ai):ak Tryz.prog 167 [.dI (aa s),.dI [.sl (l.map ah)]] (.bool (oq s l)):=by
 refine ak.body eL rfl fun hl n0=>?_
 have hlen:l.length<=9223372036854775807:=by
  have h1:=(hl (.dI [.sl (l.map ah)]) (by simp)).yU (a:=.sl (l.map ah)) (by simp)
  simpa using h1.len
 clear hl
 have h2:=Ee l
 cases b2:mD l
 ·rw[b2]at h2
  (repeat(first|((repeat(revert hN;revert N;apply Pn.out));refine wk @Nat.zero_add ?_;(repeat(refine Pn.mk ?_;intro N hN)))|((try apply Or.inl);refine⟨_,ak.x (h2) (sd @Nat.zero_add),?_⟩;refine hN _ _ ?_;clear hN N)))
  exact bt (b:=false) (.inl rfl) (sd @Nat.zero_add) (by rw[oq,b2];rfl)
 rw[b2]at h2
 (repeat(first|((repeat(revert hN;revert N;apply Pn.out));refine wk @Nat.zero_add ?_;(repeat(refine Pn.mk ?_;intro N hN)))|((try apply Or.inl);refine⟨_,ak.x (h2) (sd @Nat.zero_add),?_⟩;refine hN _ _ ?_;clear hN N)))
 refine bp (fun n env st=>∃k:Nat,n=(l.length)-k/\k<=(l.length)/\env 5=.int .i64 (k:Int)/\(∀j:Nat,j<k->gp s (bH l j).bU=true)) (l.length) ⟨0,ad,ad,sl @Nat.zero_add,fun _ h=>absurd h (Nat.not_lt_zero _)⟩ ?_
 rintro n_a env_a st_a ⟨k,rfl,ale,a5,aA0⟩ dt
 have a0:=dt 0 (by kernel_rfl);have a1:=dt 1 (by kernel_rfl)
 simp only[go_sem, ↓reduceIte,Nat.reduceEqDiff,Nat.reduceAdd,Nat.reduceSub,Nat.reduceLeDiff,reduceCtorEq]at a0 a1
 clear dt
 by_cases hk:(k:Int)<(l.length:Int)
 ·have bK:∀{e:Env},(e 5=.int .i64 (IntKind.i64.wrap ((k:Int)+1)))->(gp s (bH l k).bU=true)->∃m0,m0<(l.length)-k/\∃k:Nat,m0=(l.length)-k/\k<=(l.length)/\e 5=.int .i64 (k:Int)/\(∀j:Nat,j<k->gp s (bH l j).bU=true):=fun x1 x2=>⟨_,ad,k+1,rfl,ad,(by rw[x1,aA ad]),(all_succ aA0 x2)⟩
  have eo:k<l.length:=ad
  have eC:=gy eo
  have ht:=Be s (bH l k).bU
  cases b3:gp s (bH l k).bU
  ·rw[b3]at ht
   (repeat(first|((repeat(revert hN;revert N;apply Pn.out));refine wk (tw @a5 (tw @a0 (tw @a1 (tw @hk (tw @eC @ah.eq_1))))) ?_;(repeat(refine Pn.mk ?_;intro N hN)))|((try apply Or.inl);refine⟨_,ak.x (ht) (sd (tw @a5 (tw @a0 (tw @a1 (tw @hk (tw @eC @ah.eq_1)))))),?_⟩;refine hN _ _ ?_;clear hN N)))
   exact bt (b:=false) (.inl rfl) (sd @Nat.zero_add) (by
    have:l.all (fun t=>gp s t.bU)=false:=List.all_eq_false.2 ⟨_,mO eo,by rw[b3];simp⟩
    rw[oq,this,Bool.and_false])
  ·rw[b3]at ht
   (repeat(first|((repeat(revert hN;revert N;apply Pn.out));refine wk (tw @a5 (tw @a0 (tw @a1 (tw @hk (tw @eC @ah.eq_1))))) ?_;(repeat(refine Pn.mk ?_;intro N hN)))|((try apply Or.inl);refine⟨_,ak.x (ht) (sd (tw @a5 (tw @a0 (tw @a1 (tw @hk (tw @eC @ah.eq_1)))))),?_⟩;refine hN _ _ ?_;clear hN N)))
   exact bK (sd (tw @a5 (tw @a0 @a1))) (b3)
 ·(try((repeat(revert hN;revert N;apply Pn.out));refine wk (tw @a5 (tw @a0 (tw @a1 @hk))) ?_;(repeat(refine Pn.mk ?_;intro N hN))))
  exact bt (b:=true) (.inl rfl) (sd @Nat.zero_add) (by
   have:l.all (fun t=>gp s t.bU)=true:=List.all_eq_true.2 fun t ht=>by
    obtain⟨j,hj,rfl⟩:=List.getElem_of_mem ht
    have:=aA0 j ad
    rwa [eQ hj]at this
   rw[oq,b2,this];rfl)
theorem ud (l:List ai) (hF:jP l) (i:Nat) (d:Int) (hi:i<l.length) (hd:ig d 0 3=true):ak Tryz.prog 154 [.dI [.sl (l.map ah)],.int .i64 i,.int .i64 d] (.int .i64 (ew l (ej (bH l i).cG d))):=by
 refine ak.body eL rfl fun hl n0=>?_
 clear hl
 have hg:=gy hi
 have hp:=Hg (hF.pt hi)
 have h1:=Ea (bH l i).cG d hd hp.1 hp.2
 have h2:=Bf l (ej (bH l i).cG d) hF.PG (by have:=hF.IB;omega)
 rw[aq]at h1 h2
 (repeat(first|((repeat(revert hN;revert N;apply Pn.out));refine wk (tw @ah.eq_1 (tw @hg @aq.eq_1)) ?_;(repeat(refine Pn.mk ?_;intro N hN)))|((try apply Or.inl);refine⟨_,ak.x (h1) (sd (tw @ah.eq_1 (tw @hg @aq.eq_1))),?_⟩;refine hN _ _ ?_;clear hN N)|((try apply Or.inl);refine⟨_,ak.x (h2) (sd (tw @ah.eq_1 (tw @hg @aq.eq_1))),?_⟩;refine hN _ _ ?_;clear hN N)))
 exact cH (b:=ew l (ej (bH l i).cG d)) (.inl rfl) (sd @Nat.zero_add) rfl
end Go.Proofs.YtphenfakmdknlaaGreat.V

namespace Go.Proofs.YtphenfakmdknlaaGreat.V
def bi (b:Bool):Int:=if b then 1 else 0
def jr (f:Nat->Int):Nat->Int
 |0=>0
 |n+1=>jr f n+f n
theorem gz {f g:Nat->Int}:∀{n:Nat},(∀i,i<n->f i=g i)->jr f n=jr g n
 |0,_=>rfl
 |n+1,h=>by
  simp only[jr]
  rw[gz fun i hi=>h i ad,h n ad]
theorem nH {f g:Nat->Int}:∀{n:Nat},(∀i,i<n->f i<=g i)->jr f n<=jr g n
 |0,_=>Int.le_refl _
 |n+1,h=>by
  simp only[jr]
  have:=nH (n:=n) fun i hi=>h i ad
  have:=h n ad
  omega
theorem je:∀{n:Nat} {f:Nat->Int},(∀i,i<n->f i=0)->jr f n=0
 |0,_,_=>rfl
 |n+1,f,h=>by
  simp only[jr]
  rw[je fun i hi=>h i ad,h n ad];rfl
theorem nG {f:Nat->Int} {a:Nat} {d:Int}:∀n,jr (fun i=>f i+if i=a then d else 0) n=jr f n+if a<n then d else 0
 |0=>by simp[jr]
 |n+1=>by
  simp only[jr]
  rw[nG n]
  by_cases h:n=a
  ·subst h;simp;omega
  ·rw[if_neg h]
   by_cases h2:a<n
   ·rw[if_pos h2,if_pos ad];omega
   ·rw[if_neg h2,if_neg ad];omega
def ll (n:Nat) (S:Nat->Bool) (f:Nat->Nat->Int):Int:=jr (fun u=>jr (fun v=>if S u&& !S v then f u v else 0) n) n
def bump (f:Nat->Nat->Int) (a b:Nat) (d:Int):Nat->Nat->Int:=fun u v=>f u v+if u=a/\v=b then d else 0
theorem nv {n:Nat} {S:Nat->Bool} {f:Nat->Nat->Int} {a b:Nat} {d:Int} (ha:a<n) (hb:b<n):ll n S (bump f a b d)=ll n S f+if S a&& !S b then d else 0:=by
 unfold ll
 have h1:∀u,u<n->jr (fun v=>if S u&& !S v then bump f a b d u v else 0) n=jr (fun v=>if S u&& !S v then f u v else 0) n+if u=a then(if S a&& !S b then d else 0)else 0:=by
  intro u hu
  by_cases h:u=a
  ·subst h
   have h2:∀v,v<n->(if S u&& !S v then bump f u b d u v else 0)=(fun v=>if S u&& !S v then f u v else 0) v+if v=b then(if S u&& !S b then d else 0)else 0:=by
    intro v hv
    unfold bump
    by_cases h3:v=b
    ·subst h3;simp only[and_self,if_true];split<;>omega
    ·simp only[h3,and_false,if_false];split<;>omega
   rw[gz h2,nG,if_pos hb,if_pos rfl]
  ·rw[if_neg h,Int.add_zero]
   refine gz fun v hv=>?_
   unfold bump
   simp[h]
 rw[gz h1,nG,if_pos ha]
theorem Iw {n:Nat} {S:Nat->Bool} {f c:Nat->Nat->Int} (h:∀u v,u<n->v<n->f u v<=c u v):ll n S f<=ll n S c:=
 nH fun u hu=>nH fun v hv=>by split;exact h u v hu hv;exact Int.le_refl _
theorem Iv {n:Nat} {S:Nat->Bool} {f c:Nat->Nat->Int} (h:∀u v,u<n->v<n->S u=true->S v=false->f u v=c u v):ll n S f=ll n S c:=
 gz fun u hu=>gz fun v hv=>by
  split
  ·rename_i hc
   simp only[Bool.and_eq_true,Bool.not_eq_true']at hc
   exact h u v hu hv hc.1 hc.2
  ·rfl
def jB (f:Nat->Nat->Int) (a b:Nat):Nat->Nat->Int:=bump (bump f a b 1) b a (-1)
theorem Du {n:Nat} {S:Nat->Bool} {f:Nat->Nat->Int} {a b:Nat} (ha:a<n) (hb:b<n):ll n S (jB f a b)=ll n S f+bi (S a)-bi (S b):=by
 unfold jB
 rw[nv hb ha,nv ha hb]
 cases S a<;>cases S b<;>simp[bi]<;>omega
def kU (f:Nat->Nat->Int):List Nat->Nat->Nat->Int
 |a::b::r=>kU (jB f a b) (b::r)
 |_=>f
def kS (f c:Nat->Nat->Int):List Nat->Prop
 |a::b::r=>f a b<c a b/\kS f c (b::r)
 |_=>True
theorem xF {n:Nat} {S:Nat->Bool}:∀(r:List Nat) (a:Nat) (f:Nat->Nat->Int),(∀x∈a::r,x<n)->ll n S (kU f (a::r))=ll n S f+bi (S a)-bi (S ((a::r).getLast (by simp)))
 |[],a,f,_=>by simp[kU]
 |b::r,a,f,h=>by
  rw[kU,xF r b (jB f a b) fun x hx=>h x (List.mem_cons_of_mem _ hx),Du (h a (by simp)) (h b (by simp)),List.getLast_cons_cons]
  generalize bi (S b)=q
  omega
theorem kS.less {f g c:Nat->Nat->Int}:∀{p:List Nat},kS f c p->(∀u,u∈p->∀v,g u v<=f u v)->kS g c p
 |[],_,_=>trivial
 |[_],_,_=>trivial
 |a::b::r,h,hl=>⟨Int.lt_of_le_of_lt (hl a (by simp) b) h.1,kS.less (p:=b::r) h.2 fun u hu=>hl u (List.mem_cons_of_mem _ hu)⟩
theorem B8 {n:Nat} {c:Nat->Nat->Int}:∀(p:List Nat) (f:Nat->Nat->Int),p.Nodup->kS f c p->(∀u v,u<n->v<n->f u v<=c u v)->∀u v,u<n->v<n->kU f p u v<=c u v
 |[],f,_,_,h=>h
 |[_],f,_,_,h=>h
 |a::b::r,f,hn,hr,h=>by
  rw[kU]
  have l7:a∉b::r:=(List.nodup_cons.1 hn).1
  refine B8 (b::r) _ (List.nodup_cons.1 hn).2 (hr.2.less fun u hu v=>?_) fun u v hu hv=>?_
  ·unfold jB bump
   have:u≠a:=by rintro rfl;exact l7 hu
   simp only[this,false_and,if_false]
   split<;>omega
  ·have h0:=h u v hu hv
   have h1:=hr.1
   unfold jB bump
   by_cases e:u=a/\v=b
   ·obtain⟨rfl,rfl⟩:=e
    rw[if_pos ⟨rfl,rfl⟩];split<;>omega
   ·rw[if_neg e];split<;>omega
structure kA (n:Nat) (c f:Nat->Nat->Int) (x y:Nat) (val:Int):Prop where
 le:∀u v,u<n->v<n->f u v<=c u v
 cut:∀S:Nat->Bool,S x=true->S y=false->ll n S f=val
theorem kA.zero {n:Nat} {c:Nat->Nat->Int} {x y:Nat} (h:∀u v,u<n->v<n->0<=c u v):kA n c (fun _ _=>0) x y 0:=
 ⟨h,fun S _ _=>je fun u hu=>je fun v hv=>by split<;>rfl⟩
theorem kA.aug {n:Nat} {c f:Nat->Nat->Int} {x y:Nat} {val:Int} (h:kA n c f x y val) {r:List Nat} (hl:(x::r).getLast (by simp)=y) (hn:(x::r).Nodup) (hr:kS f c (x::r)) (hb:∀v∈x::r,v<n):kA n c (kU f (x::r)) x y (val+1):=
 ⟨B8 _ _ hn hr h.le,fun S hx hy=>by rw[xF r x f hb,hl,h.cut S hx hy,hx,hy];simp[bi]⟩
theorem kA.bound {n:Nat} {c f:Nat->Nat->Int} {x y:Nat} {val:Int} (h:kA n c f x y val) {S:Nat->Bool} (hx:S x=true) (hy:S y=false):val<=ll n S c:=by
 rw[<-h.cut S hx hy];exact Iw h.le
theorem kA.full {n:Nat} {c f:Nat->Nat->Int} {x y:Nat} {val:Int} (h:kA n c f x y val) {S:Nat->Bool} (hx:S x=true) (hy:S y=false) (hS:∀u v,u<n->v<n->S u=true->S v=false->¬f u v<c u v):val=ll n S c:=by
 rw[<-h.cut S hx hy]
 exact Iv fun u v hu hv h1 h2=>by have:=hS u v hu hv h1 h2;have:=h.le u v hu hv;omega
structure PB where
 a:Nat
 b:Nat
 s:Int
 deriving Inhabited
def bL (bs:List PB) (i:Nat):PB:=bs.getD i default
def fO (S:Nat->Bool) (bs:List PB):Int:=(bs.map fun b=>if S b.a=S b.b then 0 else b.s).sum
def lW (c:Nat->Nat->Int) (b:PB):Nat->Nat->Int:=bump (bump c b.a b.b b.s) b.b b.a b.s
def eM (bs:List PB):Nat->Nat->Int:=bs.foldl lW fun _ _=>0
theorem BC (bs:List PB) (b:PB):eM (bs++[b])=lW (eM bs) b:=by simp[eM]
theorem xW {n:Nat} {S:Nat->Bool}:∀(bs:List PB) (c:Nat->Nat->Int),(∀b∈bs,b.a<n/\b.b<n)->ll n S (bs.foldl lW c)=ll n S c+fO S bs
 |[],c,_=>by simp[fO]
 |b::bs,c,h=>by
  have hb:=h b (by simp)
  rw[List.foldl_cons,xW bs _ fun x hx=>h x (List.mem_cons_of_mem _ hx)]
  unfold lW fO
  rw[nv hb.2 hb.1,nv hb.1 hb.2,List.map_cons,List.sum_cons]
  cases S b.a<;>cases S b.b<;>simp<;>omega
theorem sr {n:Nat} {S:Nat->Bool} {bs:List PB} (h:∀b∈bs,b.a<n/\b.b<n):ll n S (eM bs)=fO S bs:=by
 rw[eM,xW bs _ h]
 have:ll n S (fun _ _=>0)=0:=je fun u hu=>je fun v hv=>by split<;>rfl
 omega
theorem wT:∀(bs:List PB) (c:Nat->Nat->Int),(∀b∈bs,0<=b.s)->(∀u v,0<=c u v)->∀u v,0<=bs.foldl lW c u v
 |[],c,_,h=>h
 |b::bs,c,hb,h=>by
  rw[List.foldl_cons]
  refine wT bs _ (fun x hx=>hb x (List.mem_cons_of_mem _ hx)) fun u v=>?_
  have:=hb b (by simp);have:=h u v
  unfold lW bump
  split<;>split<;>omega
theorem room_le:∀(bs:List PB) (c:Nat->Nat->Int) (m:Int),(∀b∈bs,b.s<=4)->(∀u v,c u v<=m)->0<=m->∀u v,bs.foldl lW c u v<=m+8*bs.length
 |[],c,m,_,h,_=>fun u v=>by have:=h u v;simp;omega
 |b::bs,c,m,hb,h,h0=>fun u v=>by
  rw[List.foldl_cons]
  have:=room_le bs (lW c b) (m+8) (fun x hx=>hb x (List.mem_cons_of_mem _ hx)) (fun u v=>by
   have:=hb b (by simp);have:=h u v
   unfold lW bump
   split<;>split<;>omega) ad u v
  simp only[List.length_cons];omega
def oi (n:Nat) (bs:List PB) (t:Int):Prop:=∀S:Nat->Bool,S 0=true->(∃y,y<n/\S y=false)->t<=fO S bs
def Ds (S:Nat->Bool) (bs:List PB) (f:Nat->Int):Int:=jr (fun i=>f i*(bi (S (bL bs i).a)-bi (S (bL bs i).b))) bs.length
structure gK (bs:List PB) (f:Nat->Int) (x y:Nat) (val:Int):Prop where
 le:∀i,i<bs.length->f i<=(bL bs i).s/\-(bL bs i).s<=f i
 cut:∀S:Nat->Bool,S x=true->S y=false->Ds S bs f=val
theorem o8 (S:Nat->Bool):∀bs:List PB,fO S bs=jr (fun i=>if S (bL bs i).a=S (bL bs i).b then 0 else(bL bs i).s) bs.length:=by
 intro bs
 have key:∀n,n<=bs.length->fO S (bs.take n)=jr (fun i=>if S (bL bs i).a=S (bL bs i).b then 0 else(bL bs i).s) n:=by
  intro n
  induction n with
  |zero=>intro _;rfl
  |succ n ih=>
   intro h
   have e:bL bs n=bs[n]:=by simp[bL,List.getD_eq_getElem?_getD,List.getElem?_eq_getElem (show n<bs.length by omega)]
   rw[List.take_succ_eq_append_getElem ad,jr,<-ih ad,e]
   unfold fO
   rw[List.map_append,List.sum_append]
   simp only[List.map_cons,List.map_nil,List.sum_cons,List.sum_nil,Int.add_zero]
 have:=key bs.length (Nat.le_refl _)
 rwa [List.take_length]at this
theorem gK.bound {bs:List PB} {f:Nat->Int} {x y:Nat} {val:Int} (h:gK bs f x y val) {S:Nat->Bool} (hx:S x=true) (hy:S y=false):val<=fO S bs:=by
 rw[<-h.cut S hx hy,o8]
 refine nH fun i hi=>?_
 have:=h.le i hi
 cases S (bL bs i).a<;>cases S (bL bs i).b<;>simp[bi]<;>omega
def eR (bs:List PB) (f:Nat->Int) (i u:Nat):Int:=if (bL bs i).a=u then(bL bs i).s-f i else(bL bs i).s+f i
def bE (bs:List PB) (i u:Nat):Nat:=if (bL bs i).a=u then(bL bs i).b else(bL bs i).a
theorem gK.full {bs:List PB} {f:Nat->Int} {x y:Nat} {val:Int} (h:gK bs f x y val) {S:Nat->Bool} (hx:S x=true) (hy:S y=false)
  (hS:∀i,i<bs.length->((bL bs i).a≠(bL bs i).b->(S (bL bs i).a=true->S (bL bs i).b=false->¬0<eR bs f i (bL bs i).a)/\(S (bL bs i).b=true->S (bL bs i).a=false->¬0<eR bs f i (bL bs i).b))):val=fO S bs:=by
 rw[<-h.cut S hx hy,o8]
 refine gz fun i hi=>?_
 have h1:=h.le i hi
 by_cases l7:(bL bs i).a=(bL bs i).b
 ·rw[l7];simp
 ·have h2:=hS i hi l7
  unfold eR at h2
  rw[if_pos rfl,if_neg l7]at h2
  cases ha:S (bL bs i).a<;>cases hb:S (bL bs i).b<;>rw[ha,hb]at h2<;>simp[bi]at h2 ⊢ <;>omega
def rj (bs:List PB) (f:Nat->Int) (i u:Nat):Nat->Int:=fun j=>f j+if j=i then(if (bL bs i).a=u then 1 else -1)else 0
theorem Dt {S:Nat->Bool} {bs:List PB} {f:Nat->Int} {i u:Nat} (hi:i<bs.length) (hu:(bL bs i).a=u∨(bL bs i).b=u):Ds S bs (rj bs f i u)=Ds S bs f+bi (S u)-bi (S (bE bs i u)):=by
 unfold Ds rj
 have e:∀j,j<bs.length->(f j+if j=i then(if (bL bs i).a=u then 1 else -1)else 0)*(bi (S (bL bs j).a)-bi (S (bL bs j).b))=(fun j=>f j*(bi (S (bL bs j).a)-bi (S (bL bs j).b))) j+if j=i then(if (bL bs i).a=u then 1 else -1)*(bi (S (bL bs i).a)-bi (S (bL bs i).b))else 0:=by
  intro j hj
  by_cases h:j=i
  ·subst h;simp only[if_true];rw[Int.add_mul]
  ·simp only[h,if_false];simp
 rw[gz e,nG,if_pos hi]
 unfold bE
 by_cases ha:(bL bs i).a=u
 ·rw[if_pos ha,if_pos ha,ha];omega
 ·rw[if_neg ha,if_neg ha]
  rcases hu with hu|hu
  ·exact absurd hu ha
  ·rw[hu];omega
theorem gS:∀(n:Nat) (l:List Nat),l.Nodup->(∀x∈l,x<n)->l.length<=n
 |0,l,_,h=>by
  cases l with
  |nil=>simp
  |cons x l=>exact absurd (h x (by simp)) ad
 |n+1,l,hn,h=>by
  have h1:=gS n (l.erase n) (hn.erase _) fun x hx=>by
   have h2:=(hn.mem_erase_iff).1 hx
   have h3:=h x h2.2
   have h4:=h2.1
   omega
  rw[List.length_erase]at h1
  split at h1<;>omega
end Go.Proofs.YtphenfakmdknlaaGreat.V
