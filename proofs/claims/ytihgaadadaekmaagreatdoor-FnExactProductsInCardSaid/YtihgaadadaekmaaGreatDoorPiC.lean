/- Slices of one's own that grow from an empty one. -/
import Derived.Test.YtihgaadadaekmaaGreatDoorPiB
import Derived.Test.YtihgaadadaekmaaGreatDoorChecked
import Derived.Test.YtihgaadadaekmaaGreatDoorPiA
set_option linter.unusedVariables false
set_option linter.unusedSimpArgs false
set_option maxRecDepth 100000
set_option maxHeartbeats 16000000
namespace Go.Proofs.YtihgaadadaekmaaGreatDoor.V
open Go.RowKit
variable {P:Program} {X:fx} {K:Env->ax->Prop} {env:Env} {σ:ax}
def lZ {α:Type} (enc:α->List AV) (sz:Nat) (x:AV) (g:Rows) (S:Id->Prop) (L:List α):Prop:=∃o:Id,S o/\x=.own o 0 L.length/\g o=some ⟨true,sz,L.map enc⟩
section
variable {α:Type} {enc:α->List AV} {sz:Nat} {x:AV} {g g':Rows} {S:Id->Prop} {L L':List α}
theorem lZ.cast (h:lZ enc sz x g S L) (hL:L'=L):lZ enc sz x g S L':=by subst hL;exact h
theorem lZ.frame (h:lZ enc sz x g S L) (hg:∀o:Id,S o->g' o=g o):lZ enc sz x g' S L:=by
 obtain⟨o,h1,h2,h3⟩:=h
 exact⟨o,h1,h2,(hg o h1).trans h3⟩
theorem lZ.app (hz:∀a,(enc a).length=sz/\(enc a).all AV.cell=true) (h:lZ enc sz x g S L) (id:Id) (hid:S id) (M:List α) (hlen:L.length+M.length<=dL):
  ∃v g',aX g id sz x (M.map enc)=some (v,g')/\lZ enc sz v g' S (L++M)/\∀j:Id,¬S j->g' j=g j:=by
 obtain⟨o,h1,rfl,h4⟩:=h
 refine⟨.own id 0 (L.length+(M.map enc).length),bY (ck g o) id ⟨true,sz,L.map enc++M.map enc⟩,?_,⟨id,hid,by simp,by simp[bY]⟩,fun j hj=>?_⟩
 ·have ha:=all_map (l:=M) hz
  simp only[aX,h4,Option.bind_some]
  rw[if_pos ⟨trivial,trivial,by simp,by simpa using hlen,ha⟩]
 ·have e1:¬j=id:=fun h=>hj (h▸hid)
  have e2:¬j=o:=fun h=>hj (h▸h1)
  simp[bY,ck,e1,e2]
theorem NU {draw:Bool} {o:bl} {r:List bl} {x' y:O} {xv:AV} (M:List α) (ho:o.op=.append sz x' y) (hw:aM o.guard env=true) (hx:cE env x'=xv) (hO:lZ enc sz xv σ.get S L)
  (hy:bw σ.get (cE env y)=some (M.map enc)) (hz:∀a,(enc a).length=sz/\(enc a).all AV.cell=true) (hid:S ⟨o.site,σ.next⟩) (hlen:L.length+M.length<=dL)
  (next:∀v g',lZ enc sz v g' S (L++M)->(∀j:Id,¬S j->g' j=σ.get j)->wpOps X draw r K (upd env o.dst v) ⟨g',σ.next⟩):wpOps X draw (o::r) K env σ:=by
 obtain⟨v,g',h1,h2,h3⟩:=hO.app hz ⟨o.site,σ.next⟩ hid M hlen
 unfold wpOps
 rw[if_pos hw]
 unfold fQ
 simp only[ho,gi,hy,hx,Option.bind_some,h1]
 exact next v g' h2 h3
theorem lZ.fD {n:Nat} (h:lZ enc sz x g S L) (he:∀a,dH g n (enc a)=some (enc a)):fD g (n+1) x=some (.sl (L.map enc)):=by
 obtain⟨o,_,rfl,h3⟩:=h
 exact fH h3 rfl he
end
theorem dr {a b:Id} (h:a.cq<b.cq):(a=b)=False/\(b=a)=False:=by
 constructor<;>(simp only[eq_iff_iff,iff_false];rintro rfl;omega)
theorem yu {o:Id} {a:Nat} (h:o.site=a) {b v:Nat} (si:(a==b)=false):(o=⟨b,v⟩)=False:=by
 simp only[eq_iff_iff,iff_false]
 rintro rfl
 simp only at h
 subst h
 simp at si
def eN (n:Nat):List AV:=[.int .i64 n]
theorem fzN (g:Rows) (n:Nat) (a:Nat):cm g (n+1) (eN a)=some (eN a):=by simp[eN,ad,aj,aI]
theorem Mt (g:Rows) (n:Nat) (a:Nat):dH g (n+1) (eN a)=some (eN a):=by simp[eN,br,bV,eC]
def Oh:uZ (List Nat):=fun g cs x ids=>∃id,cs=[.own id 0 x.length]/\g id=some ⟨true,1,x.map eN⟩/\ids=[id]
theorem Np:pR Oh 1 where
 frame:=fun⟨id,h1,h2,h3⟩ hf=>by subst h3;exact⟨id,h1,(hf id (by simp)).trans h2,rfl⟩
 len:=fun⟨id,h1,_⟩=>by subst h1;rfl
 cell:=fun⟨id,h1,_⟩=>by subst h1;rfl
 live:=fun⟨id,h1,h2,h3⟩ i hi=>by
  subst h3
  have:i=id:=by simpa using hi
  subst this
  exact⟨_,h2,rfl,by simp[nN]⟩
 small:=by simp[nN]
def yO (l:List Nat):List AV:=[.sl (l.map eN)]
theorem HT {g:Rows} {rows:List (List AV)} {xs:List (List Nat)} {ids:List Id} (n:Nat) (h:dw Oh g rows xs ids):gK g (n+2) rows=some (xs.map yO):=by
 induction h with
 |nil=>rw[gK];rfl
 |cons h1 _ ih=>
  obtain⟨id,rfl,h2,_⟩:=h1
  rw[gK,ih,br,bV,fH (e:=eN) (sz:=1) h2 rfl fun a=>Mt g n a];rfl
end Go.Proofs.YtihgaadadaekmaaGreatDoor.V

namespace Go.Proofs.YtihgaadadaekmaaGreatDoor.V
open Go.RowKit
attribute [local irreducible] ea wpOps gS Call
attribute [local go_sem] aM fQ eM gi gh cE upd cu K.av cL AV.cells AV.cell rowOf rowsOf part ld rowAt bY ck dI eh ij bL da eA gp e8 du eo cY cX dV dW bR bm cQ bQ cT cR ej er ek cP bW cZ ei bP aQ cV cC ig bw cH bS aX dG bu dL AV.undef bF bH dY ef dU ec cF ez eF cw ev eu cU cW List.getD_cons_zero List.getD_cons_succ List.getD_nil List.all_cons List.all_nil Bool.and_true Bool.true_and Bool.and_self Bool.not_true Bool.not_false Option.map_some Option.map_none Option.bind_some Option.bind_none List.length_cons List.length_nil List.take_succ_cons List.take_zero List.take_nil List.drop_succ_cons List.drop_zero List.drop_nil List.head?_cons List.map_cons List.map_nil List.getElem?_cons_zero List.getElem?_cons_succ List.cons_append List.nil_append List.append_nil List.length_map List.set_cons_zero List.set_cons_succ Nat.reduceMul eq_self Int.toNat_natCast Int.natCast_nonneg and_self true_and and_true decide_true decide_false Bool.false_eq_true Nat.zero_add Nat.add_zero List.contains_cons List.contains_nil Bool.or_false Bool.false_or beq_self_eq_true Nat.reduceBEq ne_eq not_true_eq_false not_false_eq_true Id.mk.injEq false_and and_false Nat.reduceLT Int.reduceLE Int.reduceLT Int.reduceToNat Int.reduceNeg Int.reduceAdd Nat.le_refl List.length_append beq_true beq_false Bool.not_eq_eq_eq_not or_false false_or dE ad aj aI bE cj aV bf aU bo cN bG
variable {P:Program}
def Gy {α:Type} (R:uZ α) (x:α) (σ:ax) (r:AV) (σ':ax):Prop:=∃cs ids,r=.agg cs/\R σ'.get cs x ids/\eO σ.next σ'.next ids/\Kept σ σ'
def fV {α:Type} (R:uZ α) (z:Nat) (g:Rows) (a:AV) (xs:List α) (ids:List Id):Prop:=∃o rows is,a=.own o 0 xs.length/\g o=some ⟨true,z,rows⟩/\dw R g rows xs is/\ids=o::is
def Ej {α:Type} (R:uZ α) (z:Nat) (xs:List α) (σ:ax) (r:AV) (σ':ax):Prop:=∃ids,fV R z σ'.get r xs ids/\eO σ.next σ'.next ids/\Kept σ σ'
theorem fV.frame {α:Type} {R:uZ α} {z:Nat} {g g':Rows} {a:AV} {xs:List α} {ids:List Id} (ok:pR R z) (h:fV R z g a xs ids) (hf:∀i∈ids,g' i=g i):fV R z g' a xs ids:=by
 obtain⟨o,rows,is,h1,h2,h3,rfl⟩:=h
 exact⟨o,rows,is,h1,(hf o (by simp)).trans h2,h3.frame ok fun i hi=>hf i (by simp[hi]),rfl⟩
theorem fV.fz {α:Type} {R:uZ α} {z n:Nat} {e:α->List AV} {g:Rows} {a:AV} {xs:List α} {ids:List Id} (h:fV R z g a xs ids) (hz:∀{cs x ids},R g cs x ids->cm (dE g) n cs=some (e x)):V.fz (dE g) (n+1) a=some (.sl (xs.map e)):=by
 obtain⟨o,rows,is,rfl,h2,h3,rfl⟩:=h
 rw[fU]
 simp only[dE,h2,Option.map_some,if_true]
 rw[if_pos (by rw[h3.len];omega),List.drop_zero,List.take_of_length_le (by rw[h3.len];exact Nat.le_refl _),h3.fz hz];rfl
def jE {α:Type} (e:α->List AV):uZ α:=fun _ cs x ids=>cs=e x/\ids=[]
theorem BD {α:Type} {e:α->List AV} {z:Nat} (hz:∀x,(e x).length=z) (hc:∀x,(e x).all AV.cell=true) (hs:z<nN):pR (jE e) z where
 frame:=fun h _=>h
 len:=fun h=>by rw[h.1];exact hz _
 cell:=fun h=>by rw[h.1];exact hc _
 live:=fun h i hi=>by rw[h.2]at hi;cases hi
 small:=hs
def nq:uZ eJ:=fun g cs t ids=>∃i,cs=[.str t.aB,.own i 0 t.bp.length]/\g i=some ⟨true,1,t.bp.map au⟩/\ids=[i]
theorem pM:pR nq 2 where
 frame:=fun⟨i,h1,h2,h3⟩ hf=>⟨i,h1,(hf i (by rw[h3];simp)).trans h2,h3⟩
 len:=fun⟨i,h1,_⟩=>by rw[h1];rfl
 cell:=fun⟨i,h1,_⟩=>by rw[h1];rfl
 live:=fun⟨i,h1,h2,h3⟩ j hj=>by
  rw[h3]at hj
  have:j=i:=by simpa using hj
  subst this
  exact⟨_,h2,rfl,by simp[nN]⟩
 small:=by simp[nN]
theorem K1 {g:Rows} {cs:List AV} {t:eJ} {ids:List Id} (n:Nat) (h:nq g cs t ids):cm (dE g) (n+2) cs=some (bj t):=by
 obtain⟨i,rfl,h2,_⟩:=h
 have h3:V.fz (dE g) (n+2) (.own i 0 t.bp.length)=some (.sl (t.bp.map au)):=e7 (e:=au) (sz:=1) (by simp[dE,h2]) rfl fun x=>by simp[au,ad,aj,aI]
 simp only[ad,aj,bE,h3,Option.map_some,bj]
theorem DY {α:Type} {a b:List α} {x y:α} {k:Nat} (hk:a.length=k):(a++x::b).set k y=a++[y]++b:=by subst hk;simp
theorem tb {α:Type} {R:uZ α} {en:α->List AV} {z fk gk:Nat} {zero:List K} (ok:pR R z) (hc:kO P fk=some (o8 fk gk z zero)) (Gn:zero.length=z) (hz:∀x,(en x).length=z) (xs:List α) (hlen:xs.length<=1048576)
  (hg:∀x∈xs,∀σ,Call P gk [.agg (en x)] σ (Gy R x σ)) (σ:ax):Call P fk [.sl (xs.map en)] σ (Ej R z xs σ):=by
 refine eX hc rfl fun hl=>?_
 try simp only[q]
 clear hl
 have hm:(xs.length:Int)<=((16777216:Nat):Int):=ab
 have h0:(0:Int)<=(xs.length:Int):=ab
 (try((repeat(revert hN;revert N;apply Pn.out));refine wk (tw @hm (tw @h0 (tw @Int.le_refl @Gn))) ?_;(repeat(refine Pn.mk ?_;intro N hN))))
 refine aP (fun n env st=>∃k:Nat,n=(xs.length)-k/\k<=(xs.length)/\env 4=.int .i64 (k:Int)/\(σ.next+2<=st.next/\(∀y:Id,y.cq<σ.next->st.get y=σ.get y)/\∃rows is,st.get ⟨fk*1000000+1002,σ.next+1⟩=some ⟨true,z,rows++List.replicate (xs.length-k) (zero.map K.av)⟩/\dw R st.get rows (xs.take k) is/\eO (σ.next+2) st.next is)) (xs.length) ⟨0,ab,ab,sl @Nat.zero_add,by(try dsimp only);exact⟨ab,fun y hy=>by
  have h1:=eP hy
  simp only[go_sem, ↓reduceIte,Nat.reduceEqDiff,Nat.reduceAdd,Nat.reduceSub,Nat.reduceLeDiff,reduceCtorEq,h1],[],[],sl @Nat.zero_add,.nil,List.nodup_nil,fun i hi=>by cases hi⟩⟩ ?_
 rintro n_a env_a st_a ⟨k,rfl,ale,a4,j0⟩ dm
 have a0:=dm 0 (by kernel_rfl);have a3:=dm 3 (by kernel_rfl)
 simp only[go_sem, ↓reduceIte,Nat.reduceEqDiff,Nat.reduceAdd,Nat.reduceSub,Nat.reduceLeDiff,reduceCtorEq]at a0 a3
 clear dm
 obtain⟨an,aK,rows,is,ag,aR,aN⟩:=j0
 have oO:rows.length=k:=by rw[aR.len,List.length_take];omega
 by_cases hk:(k:Int)<(xs.length:Int)
 ·have bD:∀{e:Env} {gg:Rows} {nx:Nat},(e 4=.int .i64 (IntKind.i64.wrap ((k:Int)+1)))->(σ.next+2<=nx/\(∀y:Id,y.cq<σ.next->gg y=σ.get y)/\∃rows is,gg ⟨fk*1000000+1002,σ.next+1⟩=some ⟨true,z,rows++List.replicate (xs.length-(k+1)) (zero.map K.av)⟩/\dw R gg rows (xs.take (k+1)) is/\eO (σ.next+2) nx is)->∃m0,m0<(xs.length)-k/\∃k:Nat,m0=(xs.length)-k/\k<=(xs.length)/\e 4=.int .i64 (k:Int)/\(σ.next+2<=nx/\(∀y:Id,y.cq<σ.next->gg y=σ.get y)/\∃rows is,gg ⟨fk*1000000+1002,σ.next+1⟩=some ⟨true,z,rows++List.replicate (xs.length-k) (zero.map K.av)⟩/\dw R gg rows (xs.take k) is/\eO (σ.next+2) nx is):=fun x1 x2=>⟨_,ab,k+1,rfl,ab,(by rw[x1,ay ab]),x2⟩
  have dX:k<xs.length:=ab
  have eD:(xs.map en)[k]? =some (en xs[k]):=by simp[dX]
  have sk:=hz xs[k]
  have ht:(en xs[k]).take z=en xs[k]:=by rw[<-sk,List.take_length]
  have fu:=hg _ (List.getElem_mem dX)
  obtain⟨m,Jj⟩:∃m,xs.length-k=m+1:=⟨xs.length-k-1,ab⟩
  rw[Jj,List.replicate_succ]at ag
  generalize hex:en xs[k]=c at fu eD sk ht
  (try((repeat(revert hN;revert N;apply Pn.out));refine wk (tw @a4 (tw @a0 (tw @a3 (tw @hk (tw @eD (tw @sk (tw @ht @Nat.le_refl))))))) ?_;(repeat(refine Pn.mk ?_;intro N hN))))
  refine .inr (aO _ _ _ _ _ (fun r σ1 hq=>?_) (fu _))
  obtain⟨cs,ids,rfl,hR,hI,hK⟩:=hq
  obtain⟨g1,x1⟩:=σ1
  (try dsimp only at hR hI hK)
  have tV:=(hK.2 ⟨fk*1000000+1002,σ.next+1⟩ bt)
  simp only[go_sem, ↓reduceIte,Nat.reduceEqDiff,Nat.reduceAdd,Nat.reduceSub,Nat.reduceLeDiff,reduceCtorEq,ag]at tV
  have lu:=ok.len hR
  have xS:=ok.cell hR
  have dR:(rows++zero.map K.av::List.replicate m (zero.map K.av))[k]? =some (zero.map K.av):=by rw[List.getElem?_append_right ab,oO,Nat.sub_self];rfl
  have dP:(rows++zero.map K.av::List.replicate m (zero.map K.av)).set k cs=rows++[cs]++List.replicate m (zero.map K.av):=DY oO
  have Hk:(zero.map K.av).drop z=[]:=List.drop_of_length_le (by simp[Gn])
  have vD:(rows++zero.map K.av::List.replicate m (zero.map K.av)).length=xs.length:=by simp[oO];omega
  refine hN _ _ ?_
  clear hN N
  (try((repeat(revert hN;revert N;apply Pn.out));refine wk (tw @a4 (tw @a0 (tw @a3 (tw @hk (tw @tV (tw @dR (tw @dP (tw @vD (tw @Hk (tw @tu (tw @lu (tw @xS (tw @Nat.le_refl @Gn))))))))))))) ?_;(repeat(refine Pn.mk ?_;intro N hN))))
  have tZ:=hK.1
  have Gd:∀i∈is,(i=⟨fk*1000000+1002,σ.next+1⟩)=False:=fun i hi=>eq_false fun e=>by
   have:=(aN.2 i hi).1
   subst e;(try dsimp only at this);omega
  have Ge:∀i∈ids,(i=⟨fk*1000000+1002,σ.next+1⟩)=False:=fun i hi=>eq_false fun e=>by
   have:=(hI.2 i hi).1
   subst e;(try dsimp only at this);omega
  exact bD (sd (tw @a4 (tw @a0 @a3))) (by(try dsimp only at *);exact⟨ab,fun y hy=>by
   have h1:=eP hy
   have h2:=hK.2 y bt
   have h3:=aK y hy
   simp only[go_sem, ↓reduceIte,Nat.reduceEqDiff,Nat.reduceAdd,Nat.reduceSub,Nat.reduceLeDiff,reduceCtorEq]at h2
   simp only[go_sem, ↓reduceIte,Nat.reduceEqDiff,Nat.reduceAdd,Nat.reduceSub,Nat.reduceLeDiff,reduceCtorEq,h1,h2,h3],rows++[cs],is++ids,by
    rw[show xs.length-(k+1)=m by omega]
    simp only[go_sem, ↓reduceIte,Nat.reduceEqDiff,Nat.reduceAdd,Nat.reduceSub,Nat.reduceLeDiff,reduceCtorEq]<;>rfl,by
    rw[List.take_succ_eq_append_getElem dX]
    refine((aR.frame ok fun i hi=>?_).app (.one (ok.frame hR fun i hi=>?_)))
    ·have h1:=Gd i hi
     have h2:=hK.2 i (by(try dsimp only);have:=(aN.2 i hi).2;omega)
     simp only[go_sem, ↓reduceIte,Nat.reduceEqDiff,Nat.reduceAdd,Nat.reduceSub,Nat.reduceLeDiff,reduceCtorEq]at h2
     simp only[go_sem, ↓reduceIte,Nat.reduceEqDiff,Nat.reduceAdd,Nat.reduceSub,Nat.reduceLeDiff,reduceCtorEq,h1,h2]
    ·have h1:=Ge i hi
     simp only[go_sem, ↓reduceIte,Nat.reduceEqDiff,Nat.reduceAdd,Nat.reduceSub,Nat.reduceLeDiff,reduceCtorEq,h1],(aN.app hI bt ab bt).wide (Nat.le_refl _) bt⟩)
 ·(try((repeat(revert hN;revert N;apply Pn.out));refine wk (tw @a4 (tw @a0 (tw @a3 @hk))) ?_;(repeat(refine Pn.mk ?_;intro N hN))))
  have dX:k=xs.length:=ab
  subst dX
  rw[Nat.sub_self,List.replicate_zero,List.append_nil]at ag
  rw[List.take_length]at aR
  refine gn (.inl rfl) (vs:=[.own ⟨fk*1000000+1002,σ.next+1⟩ 0 xs.length]) (sd (tw @a4 (tw @a0 @a3))) ?_
  exact⟨_,⟨_,rows,is,rfl,ag,aR,rfl⟩,⟨List.nodup_cons.2 ⟨fun hi=>by have:=(aN.2 _ hi).1;(try dsimp only at this);omega,aN.1⟩,fun i hi=>by
   rcases List.mem_cons.1 hi with rfl|hi
   ·(try dsimp only);omega
   ·have:=aN.2 i hi;(try dsimp only);omega⟩,⟨bt,fun j hj=>aK j hj⟩⟩
end Go.Proofs.YtihgaadadaekmaaGreatDoor.V

namespace Go.Proofs.YtihgaadadaekmaaGreatDoor.V
open Go.RowKit
attribute [local irreducible] ea wpOps gS Call
attribute [local go_sem] aM fQ eM gi gh cE upd cu K.av cL AV.cells AV.cell rowOf rowsOf part ld rowAt bY ck dI eh ij bL da eA gp e8 du eo cY cX dV dW bR bm cQ bQ cT cR ej er ek cP bW cZ ei bP aQ cV cC ig bw cH bS aX dG bu dL AV.undef bF bH dY ef dU ec cF ez eF cw ev eu cU cW List.getD_cons_zero List.getD_cons_succ List.getD_nil List.all_cons List.all_nil Bool.and_true Bool.true_and Bool.and_self Bool.not_true Bool.not_false Option.map_some Option.map_none Option.bind_some Option.bind_none List.length_cons List.length_nil List.take_succ_cons List.take_zero List.take_nil List.drop_succ_cons List.drop_zero List.drop_nil List.head?_cons List.map_cons List.map_nil List.getElem?_cons_zero List.getElem?_cons_succ List.cons_append List.nil_append List.append_nil List.length_map List.set_cons_zero List.set_cons_succ Nat.reduceMul eq_self Int.toNat_natCast Int.natCast_nonneg and_self true_and and_true decide_true decide_false Bool.false_eq_true Nat.zero_add Nat.add_zero List.contains_cons List.contains_nil Bool.or_false Bool.false_or beq_self_eq_true Nat.reduceBEq ne_eq not_true_eq_false not_false_eq_true Id.mk.injEq false_and and_false Nat.reduceLT Int.reduceLE Int.reduceLT Int.reduceToNat Int.reduceNeg Int.reduceAdd Nat.le_refl List.length_append beq_true beq_false Bool.not_eq_eq_eq_not or_false false_or dE ad aj aI bE cj aV bf aU bo cN bG
theorem fV.jS {α:Type} {R:uZ α} {z:Nat} {g:Rows} {a:AV} {xs:List α} {ids:List Id} (h:fV R z g a xs ids):∃o,a=.own o 0 xs.length:=by
 obtain⟨o,rows,is,rfl,_⟩:=h;exact⟨o,rfl⟩
theorem AM (xs:List Int) (hlen:xs.length<=1048576) (σ:ax):Call Tryz.prog 86 [.sl (xs.map au)] σ (fun r σ'=>∃i,r=.own i 0 xs.length/\σ'.get i=some ⟨true,1,xs.map au⟩/\eO σ.next σ'.next [i]/\Kept σ σ'):=by
 refine eX (show kO Tryz.prog 86=some (IV 86 (.int .i64 0)) by kernel_rfl) rfl fun hl=>?_
 try simp only[q]
 clear hl
 obtain⟨en,Jc⟩:∃en:Int->List AV,en=au:=⟨_,rfl⟩
 rw[<-Jc]
 have hm:(xs.length:Int)<=((16777216:Nat):Int):=ab
 have h0:(0:Int)<=(xs.length:Int):=ab
 (try((repeat(revert hN;revert N;apply Pn.out));refine wk (tw @hm (tw @h0 (tw @Int.le_refl (nB en [AV.int .i64 0] xs)))) ?_;(repeat(refine Pn.mk ?_;intro N hN))))
 refine aP (fun n env st=>∃k:Nat,n=(xs.length)-k/\k<=(xs.length)/\env 4=.int .i64 (k:Int)/\st.get ⟨86*1000000+1002,σ.next+1⟩=some ⟨true,1,gr en [AV.int .i64 0] xs k⟩/\(σ.next+2<=st.next/\∀y:Id,y.cq<σ.next->st.get y=σ.get y)) (xs.length) ⟨0,ab,ab,sl @Nat.zero_add,sl @Nat.zero_add,by(try dsimp only);exact⟨ab,fun y hy=>by
  have h1:=eP hy
  simp only[go_sem, ↓reduceIte,Nat.reduceEqDiff,Nat.reduceAdd,Nat.reduceSub,Nat.reduceLeDiff,reduceCtorEq,h1]⟩⟩ ?_
 rintro n_a env_a st_a ⟨k,rfl,ale,a4,ag0,j0⟩ dm
 have a0:=dm 0 (by kernel_rfl);have a3:=dm 3 (by kernel_rfl)
 simp only[go_sem, ↓reduceIte,Nat.reduceEqDiff,Nat.reduceAdd,Nat.reduceSub,Nat.reduceLeDiff,reduceCtorEq]at a0 a3
 clear dm
 obtain⟨an,aK⟩:=j0
 by_cases hk:(k:Int)<(xs.length:Int)
 ·have bD:∀{e:Env} {gg:Rows} {nx:Nat},(e 4=.int .i64 (IntKind.i64.wrap ((k:Int)+1)))->(gg ⟨86*1000000+1002,σ.next+1⟩=some ⟨true,1,gr en [AV.int .i64 0] xs (k+1)⟩)->(σ.next+2<=nx/\∀y:Id,y.cq<σ.next->gg y=σ.get y)->∃m0,m0<(xs.length)-k/\∃k:Nat,m0=(xs.length)-k/\k<=(xs.length)/\e 4=.int .i64 (k:Int)/\gg ⟨86*1000000+1002,σ.next+1⟩=some ⟨true,1,gr en [AV.int .i64 0] xs k⟩/\(σ.next+2<=nx/\∀y:Id,y.cq<σ.next->gg y=σ.get y):=fun x1 x2 x3=>⟨_,ab,k+1,rfl,ab,(by rw[x1,ay ab]),x2,x3⟩
  have dX:k<xs.length:=ab
  have eD:(xs.map en)[k]? =some [AV.int .i64 xs[k]]:=by simp[dX,Jc,au]
  have fI:=pk en [AV.int .i64 0] xs dX
  have dP:=po en [AV.int .i64 0] xs dX
  rw[show en xs[k]=[AV.int .i64 xs[k]] by rw[Jc];rfl]at dP
  (try((repeat(revert hN;revert N;apply Pn.out));refine wk (tw @a4 (tw @ag0 (tw @a0 (tw @a3 (tw @hk (tw @eD (tw @fI @dP))))))) ?_;(repeat(refine Pn.mk ?_;intro N hN))))
  refine bD ?_ ?_ (by(try dsimp only);exact⟨ab,fun y hy=>by
   have h1:=eP hy
   have h3:=aK y hy
   simp only[go_sem, ↓reduceIte,Nat.reduceEqDiff,Nat.reduceAdd,Nat.reduceSub,Nat.reduceLeDiff,reduceCtorEq,h1,h3]⟩)
  all_goals simp only[go_sem, ↓reduceIte,Nat.reduceEqDiff,Nat.reduceAdd,Nat.reduceSub,Nat.reduceLeDiff,reduceCtorEq,a4,ag0,a0,a3]
 ·(try((repeat(revert hN;revert N;apply Pn.out));refine wk (tw @a4 (tw @ag0 (tw @a0 (tw @a3 @hk)))) ?_;(repeat(refine Pn.mk ?_;intro N hN))))
  have dX:k=xs.length:=ab
  subst dX
  refine gn (.inl rfl) (vs:=[.own ⟨86*1000000+1002,σ.next+1⟩ 0 xs.length]) (sd (tw @a4 (tw @ag0 (tw @a0 @a3)))) ?_
  rw[pj]at ag0
  exact⟨_,rfl,ag0,⟨List.nodup_cons.2 ⟨by simp,List.nodup_nil⟩,fun i hi=>by
   rw[List.mem_singleton.1 hi];(try dsimp only);omega⟩,⟨bt,fun j hj=>aK j hj⟩⟩
theorem IW (p:eJ) (hs:rf p) (σ:ax):Call Tryz.prog 99 [.agg (bj p)] σ (Gy nq p σ):=by
 refine eX dK rfl fun hl=>?_
 clear hl
 (try((repeat(revert hN;revert N;apply Pn.out));refine wk @bj.eq_1 ?_;(repeat(refine Pn.mk ?_;intro N hN))))
 refine .inr (aO _ _ _ _ _ (fun r σ1 hq=>?_) (AM p.bp hs _))
 obtain⟨i,rfl,hg,hI,hK⟩:=hq
 obtain⟨g1,x1⟩:=σ1
 (try dsimp only at hg hI hK)
 have hn:=hK.1
 refine hN _ _ ?_
 clear hN N
 have hi:=hI.2 i (by simp)
 have k2:=hK.2 ⟨99000001,σ.next⟩ bt
 have k3:=hK.2 ⟨99001000,σ.next+1⟩ bt
 simp only[go_sem, ↓reduceIte,Nat.reduceEqDiff,Nat.reduceAdd,Nat.reduceSub,Nat.reduceLeDiff,reduceCtorEq]at k2 k3
 (try((repeat(revert hN;revert N;apply Pn.out));refine wk (tw @bj.eq_1 (tw @k2 @k3)) ?_;(repeat(refine Pn.mk ?_;intro N hN))))
 refine gn (.inl rfl) (vs:=[.agg [.str p.aB,.own i 0 p.bp.length]]) (sd @Nat.zero_add) ?_
 refine⟨_,[i],rfl,⟨i,rfl,?_,rfl⟩,⟨hI.1,fun j hj=>?_⟩,⟨?_,fun j hj=>?_⟩⟩
 ·have i2:=dr (b:=i) (a:=⟨99000001,σ.next⟩) (by(try dsimp only at *);omega)
  have i3:=dr (b:=i) (a:=⟨99001000,σ.next+1⟩) (by(try dsimp only at *);omega)
  simp only[go_sem, ↓reduceIte,Nat.reduceEqDiff,Nat.reduceAdd,Nat.reduceSub,Nat.reduceLeDiff,reduceCtorEq,i2,i3,hg]
 ·rw[List.mem_singleton.1 hj]
  (try dsimp only at *);omega
 ·(try dsimp only at *);omega
 ·have h2:=hK.2 j bt
  have h1:=eP hj
  simp only[go_sem, ↓reduceIte,Nat.reduceEqDiff,Nat.reduceAdd,Nat.reduceSub,Nat.reduceLeDiff,reduceCtorEq,h1]at h2
  simp only[go_sem, ↓reduceIte,Nat.reduceEqDiff,Nat.reduceAdd,Nat.reduceSub,Nat.reduceLeDiff,reduceCtorEq,h1,h2]
theorem zH:pR (jE bd) 2:=BD (fun _=>rfl) (fun _=>rfl) (by simp[nN])
theorem wi:pR (jE ai) 3:=BD (fun _=>rfl) (fun _=>rfl) (by simp[nN])
theorem IQ (p:fe) (σ:ax):Call Tryz.prog 98 [.agg (bd p)] σ (Gy (jE bd) p σ):=by
 refine eX dK rfl fun hl=>?_
 clear hl
 (try((repeat(revert hN;revert N;apply Pn.out));refine wk @bd.eq_1 ?_;(repeat(refine Pn.mk ?_;intro N hN))))
 refine gn (.inl rfl) (vs:=[.agg (bd p)]) (sd @bd.eq_1) ?_
 exact⟨_,[],rfl,⟨rfl,rfl⟩,⟨List.nodup_nil,fun i hi=>by cases hi⟩,⟨bt,fun j hj=>by
  have h1:=eP hj
  simp only[go_sem, ↓reduceIte,Nat.reduceEqDiff,Nat.reduceAdd,Nat.reduceSub,Nat.reduceLeDiff,reduceCtorEq,h1]⟩⟩
theorem CR (p:aq) (σ:ax):Call Tryz.prog 71 [.agg (ai p)] σ (Gy (jE ai) p σ):=by
 refine eX dK rfl fun hl=>?_
 clear hl
 have h:=w8 p.cI
 rw[ao]at h
 (repeat(first|((repeat(revert hN;revert N;apply Pn.out));refine wk @ai.eq_1 ?_;(repeat(refine Pn.mk ?_;intro N hN)))|((try apply Or.inl);refine⟨_,iP.x (h) _,?_⟩;refine hN _ _ ?_;clear hN N)))
 refine gn (.inl rfl) (vs:=[.agg (ai p)]) (sd @ai.eq_1) ?_
 exact⟨_,[],rfl,⟨rfl,rfl⟩,⟨List.nodup_nil,fun i hi=>by cases hi⟩,⟨bt,fun j hj=>by
  have h1:=eP hj
  simp only[go_sem, ↓reduceIte,Nat.reduceEqDiff,Nat.reduceAdd,Nat.reduceSub,Nat.reduceLeDiff,reduceCtorEq,h1]⟩⟩
theorem F0 (xs:List fe) (h:xs.length<=1048576) (σ:ax):Call Tryz.prog 69 [.sl (xs.map bd)] σ (Ej (jE bd) 2 xs σ):=
 tb zH (show kO Tryz.prog 69=some (o8 69 98 2 [.str [],.int .i64 0]) by kernel_rfl) rfl (fun _=>rfl) xs h (fun x _ σ=>IQ x σ) σ
theorem F2 (xs:List eJ) (h:xs.length<=1048576) (hs:∀t∈xs,rf t) (σ:ax):Call Tryz.prog 70 [.sl (xs.map bj)] σ (Ej nq 2 xs σ):=
 tb pM (show kO Tryz.prog 70=some (o8 70 99 2 [.str [],.bK]) by kernel_rfl) rfl (fun _=>rfl) xs h (fun x hx σ=>IW x (hs x hx) σ) σ
theorem AN (xs:List aq) (h:xs.length<=1048576) (σ:ax):Call Tryz.prog 40 [.sl (xs.map ai)] σ (Ej (jE ai) 3 xs σ):=
 tb wi (show kO Tryz.prog 40=some (o8 40 71 3 [.int .i64 0,.int .i64 0,.int .i64 0]) by kernel_rfl) rfl (fun _=>rfl) xs h (fun x _ σ=>CR x σ) σ
def xb (g:Rows) (v:AV) (a:dj) (ids:List Id):Prop:=∃x,v=.agg [x]/\fV (jE ai) 3 g x a.ah ids
structure y5 (g:Rows) (v:AV) (s:cl) (ids:List Id):Prop where
 ex:∃a b c i1 i2 i3,v=.agg [a,b,c,.int .i64 s.aH]/\fV (jE bd) 2 g a s.aE.aw i1/\fV nq 2 g b s.aE.ah i2/\fV (jE ai) 3 g c s.bZ.ah i3/\ids=i1++(i2++i3)
theorem xb.frame {g g':Rows} {v:AV} {a:dj} {ids:List Id} (h:xb g v a ids) (hf:∀i∈ids,g' i=g i):xb g' v a ids:=by
 obtain⟨x,h1,h2⟩:=h
 exact⟨x,h1,h2.frame wi hf⟩
theorem y5.frame {g g':Rows} {v:AV} {s:cl} {ids:List Id} (h:y5 g v s ids) (hf:∀i∈ids,g' i=g i):y5 g' v s ids:=by
 obtain⟨a,b,c,i1,i2,i3,h1,h2,h3,h4,rfl⟩:=h.ex
 exact⟨a,b,c,i1,i2,i3,h1,h2.frame zH fun i hi=>hf i (by simp[hi]),h3.frame pM fun i hi=>hf i (by simp[hi]),h4.frame wi fun i hi=>hf i (by simp[hi]),rfl⟩
theorem xb.fz {g:Rows} {v:AV} {a:dj} {ids:List Id} (n:Nat) (h:xb g v a ids):V.fz (dE g) (n+4) v=some (.agg (aD a)):=by
 obtain⟨x,rfl,h2⟩:=h
 have h3:=h2.fz (n:=n+2) (e:=ai) fun hc=>by rw[hc.1];simp[ai,ad,aj,aI]
 simp only[bf,ad,aj,h3,Option.map_some,aD]
theorem y5.fz {g:Rows} {v:AV} {s:cl} {ids:List Id} (n:Nat) (h:y5 g v s ids):V.fz (dE g) (n+5) v=some (.agg (az s)):=by
 obtain⟨a,b,c,i1,i2,i3,rfl,h2,h3,h4,rfl⟩:=h.ex
 have q1:=h2.fz (n:=n+3) (e:=bd) fun hc=>by rw[hc.1];simp[bd,ad,aj,aI,bE]
 have q2:=h3.fz (n:=n+3) (e:=bj) fun hc=>K1 (n+1) hc
 have q3:=h4.fz (n:=n+3) (e:=ai) fun hc=>by rw[hc.1];simp[ai,ad,aj,aI]
 simp only[bf,ad,aj,q1,q2,q3,aI,Option.map_some,az]
theorem qP (p:dj) (hs:p.ah.length<=1048576) (σ:ax):Call Tryz.prog 11 [.agg (aD p)] σ (fun r σ'=>∃ids,xb σ'.get r p ids/\eO σ.next σ'.next ids/\Kept σ σ'):=by
 refine eX dK rfl fun hl=>?_
 clear hl
 (try((repeat(revert hN;revert N;apply Pn.out));refine wk @aD.eq_1 ?_;(repeat(refine Pn.mk ?_;intro N hN))))
 refine .inr (aO _ _ _ _ _ (fun r σ1 hq=>?_) (AN p.ah hs _))
 obtain⟨ids,hR,hI,hK⟩:=hq
 obtain⟨g1,x1⟩:=σ1
 (try dsimp only at hR hI hK)
 have hn:=hK.1
 obtain⟨o,rows,is,rfl,hg,Se,rfl⟩:=hR
 refine hN _ _ ?_
 clear hN N
 have k2:=hK.2 ⟨11000001,σ.next⟩ bt
 have k3:=hK.2 ⟨11001000,σ.next+1⟩ bt
 simp only[go_sem, ↓reduceIte,Nat.reduceEqDiff,Nat.reduceAdd,Nat.reduceSub,Nat.reduceLeDiff,reduceCtorEq]at k2 k3
 (try((repeat(revert hN;revert N;apply Pn.out));refine wk (tw @aD.eq_1 (tw @k2 @k3)) ?_;(repeat(refine Pn.mk ?_;intro N hN))))
 refine gn (.inl rfl) (vs:=[.agg [.own o 0 p.ah.length]]) (sd @Nat.zero_add) ?_
 have hb:=hI.2
 (try dsimp only at hb hn)
 refine⟨_,⟨_,rfl,fV.frame wi ⟨o,rows,is,rfl,hg,Se,rfl⟩ fun j hj=>?_⟩,⟨hI.1,fun j hj=>?_⟩,⟨?_,fun j hj=>?_⟩⟩
 ·have SG:=hb j hj
  have i2:=dr (b:=j) (a:=⟨11000001,σ.next⟩) bt
  have i3:=dr (b:=j) (a:=⟨11001000,σ.next+1⟩) bt
  simp only[go_sem, ↓reduceIte,Nat.reduceEqDiff,Nat.reduceAdd,Nat.reduceSub,Nat.reduceLeDiff,reduceCtorEq,i2,i3]
 ·have:=hb j hj
  (try dsimp only);omega
 ·(try dsimp only);omega
 ·have h2:=hK.2 j bt
  have h1:=eP hj
  simp only[go_sem, ↓reduceIte,Nat.reduceEqDiff,Nat.reduceAdd,Nat.reduceSub,Nat.reduceLeDiff,reduceCtorEq,h1]at h2
  simp only[go_sem, ↓reduceIte,Nat.reduceEqDiff,Nat.reduceAdd,Nat.reduceSub,Nat.reduceLeDiff,reduceCtorEq,h1,h2]
theorem AP (p:ar) (hs:GD p) (σ:ax):Call Tryz.prog 39 [.agg (aa p)] σ (fun r σ'=>∃a b i1 i2,r=.agg [a,b]/\fV (jE bd) 2 σ'.get a p.aw i1/\fV nq 2 σ'.get b p.ah i2/\eO σ.next σ'.next (i1++i2)/\Kept σ σ'):=by
 refine eX dK rfl fun hl=>?_
 clear hl
 (try((repeat(revert hN;revert N;apply Pn.out));refine wk @aa.eq_1 ?_;(repeat(refine Pn.mk ?_;intro N hN))))
 refine .inr (aO _ _ _ _ _ (fun r σ1 hq=>?_) (F0 p.aw hs.g _))
 obtain⟨i1,hR,hI,hK⟩:=hq
 obtain⟨g1,x1⟩:=σ1
 (try dsimp only at hR hI hK)
 have hn:=hK.1
 obtain⟨o,rows,is,rfl,hg,Se,rfl⟩:=hR
 have hb:=hI.2
 (try dsimp only at hb hn)
 refine hN _ _ ?_
 clear hN N
 have k1:=hK.2 ⟨39000000,σ.next⟩ bt
 have k2:=hK.2 ⟨39000001,σ.next⟩ bt
 have k3:=hK.2 ⟨39001000,σ.next+1⟩ bt
 simp only[go_sem, ↓reduceIte,Nat.reduceEqDiff,Nat.reduceAdd,Nat.reduceSub,Nat.reduceLeDiff,reduceCtorEq]at k1 k2 k3
 (try((repeat(revert hN;revert N;apply Pn.out));refine wk (tw @aa.eq_1 (tw @k1 (tw @k2 @k3))) ?_;(repeat(refine Pn.mk ?_;intro N hN))))
 refine .inr (aO _ _ _ _ _ (fun r σ2 hq=>?_) (F2 p.ah hs.t hs.s _))
 obtain⟨i2,hS,hJ,hL⟩:=hq
 obtain⟨g2,x2⟩:=σ2
 (try dsimp only at hS hJ hL)
 have MV:=hL.1
 obtain⟨o2,QE,is2,rfl,oL,hS',rfl⟩:=hS
 have hc:=hJ.2
 (try dsimp only at hc MV)
 refine hN _ _ ?_
 clear hN N
 have l2:=hL.2 ⟨39000001,σ.next⟩ bt
 have l3:=hL.2 ⟨39001000,σ.next+1⟩ bt
 simp only[go_sem, ↓reduceIte,Nat.reduceEqDiff,Nat.reduceAdd,Nat.reduceSub,Nat.reduceLeDiff,reduceCtorEq,k2,k3]at l2 l3
 (try((repeat(revert hN;revert N;apply Pn.out));refine wk (tw @aa.eq_1 (tw @l2 @l3)) ?_;(repeat(refine Pn.mk ?_;intro N hN))))
 refine gn (.inl rfl) (vs:=[.agg [.own o 0 p.aw.length,.own o2 0 p.ah.length]]) (sd @Nat.zero_add) ?_
 have fr:∀x:Id,σ.next+2<=x.cq->(x=⟨39000001,σ.next⟩)=False/\(x=⟨39001000,σ.next+1⟩)=False:=fun x hx=>⟨(dr (a:=⟨39000001,σ.next⟩) (b:=x) bt).2,(dr (a:=⟨39001000,σ.next+1⟩) (b:=x) bt).2⟩
 refine⟨_,_,_,_,rfl,fV.frame (g:=g1) zH ⟨o,rows,is,rfl,hg,Se,rfl⟩ fun i hi=>?_,fV.frame (g:=g2) pM ⟨o2,QE,is2,rfl,oL,hS',rfl⟩ fun i hi=>?_,?_,⟨bt,fun j hj=>?_⟩⟩
 ·have h1:=hb i hi
  have h2:=hL.2 i bt
  have h3:=fr i ab
  simp only[go_sem, ↓reduceIte,Nat.reduceEqDiff,Nat.reduceAdd,Nat.reduceSub,Nat.reduceLeDiff,reduceCtorEq,h3]at h2
  simp only[go_sem, ↓reduceIte,Nat.reduceEqDiff,Nat.reduceAdd,Nat.reduceSub,Nat.reduceLeDiff,reduceCtorEq,h2,h3]
 ·have h1:=hc i hi
  have h3:=fr i ab
  simp only[go_sem, ↓reduceIte,Nat.reduceEqDiff,Nat.reduceAdd,Nat.reduceSub,Nat.reduceLeDiff,reduceCtorEq,h3]
 ·(try dsimp only at *)
  exact(hI.app hJ ab ab ab).wide ab ab
 ·have h1:=eP hj
  have h2:=hL.2 j bt
  have h3:=hK.2 j bt
  simp only[go_sem, ↓reduceIte,Nat.reduceEqDiff,Nat.reduceAdd,Nat.reduceSub,Nat.reduceLeDiff,reduceCtorEq,h1]at h2 h3
  simp only[go_sem, ↓reduceIte,Nat.reduceEqDiff,Nat.reduceAdd,Nat.reduceSub,Nat.reduceLeDiff,reduceCtorEq,h1,h2,h3]
theorem CT (p:cl) (hs:pY p) (σ:ax):Call Tryz.prog 10 [.agg (az p)] σ (fun r σ'=>∃ids,y5 σ'.get r p ids/\eO σ.next σ'.next ids/\Kept σ σ'):=by
 refine eX dK rfl fun hl=>?_
 clear hl
 have t1:=fun σ=>AP p.aE hs.s σ
 have t2:=fun σ=>qP p.bZ hs.a σ
 rw[aa]at t1
 rw[aD]at t2
 (try((repeat(revert hN;revert N;apply Pn.out));refine wk @az.eq_1 ?_;(repeat(refine Pn.mk ?_;intro N hN))))
 refine .inr (aO _ _ _ _ _ (fun r σ1 hq=>?_) (t1 _))
 obtain⟨a,b,i1,i2,rfl,hA,hB,hI,hK⟩:=hq
 obtain⟨g1,x1⟩:=σ1
 (try dsimp only at hA hB hI hK)
 have hn:=hK.1
 have hb:=hI.2
 (try dsimp only at hb hn)
 refine hN _ _ ?_
 clear hN N
 have k1:=hK.2 ⟨10000000,σ.next⟩ bt
 have k2:=hK.2 ⟨10000001,σ.next⟩ bt
 have k3:=hK.2 ⟨10001000,σ.next+1⟩ bt
 simp only[go_sem, ↓reduceIte,Nat.reduceEqDiff,Nat.reduceAdd,Nat.reduceSub,Nat.reduceLeDiff,reduceCtorEq]at k1 k2 k3
 obtain⟨oa,rfl⟩:=hA.jS
 obtain⟨ob,rfl⟩:=hB.jS
 (try((repeat(revert hN;revert N;apply Pn.out));refine wk (tw @az.eq_1 (tw @k1 (tw @k2 @k3))) ?_;(repeat(refine Pn.mk ?_;intro N hN))))
 refine .inr (aO _ _ _ _ _ (fun r σ2 hq=>?_) (t2 _))
 obtain⟨i3,hC,hJ,hL⟩:=hq
 obtain⟨g2,x2⟩:=σ2
 (try dsimp only at hC hJ hL)
 have MV:=hL.1
 have hc:=hJ.2
 (try dsimp only at hc MV)
 obtain⟨c,rfl,hC⟩:=hC
 obtain⟨oc,rfl⟩:=hC.jS
 refine hN _ _ ?_
 clear hN N
 have l1:=hL.2 ⟨10000000,σ.next⟩ bt
 have l2:=hL.2 ⟨10000001,σ.next⟩ bt
 have l3:=hL.2 ⟨10001000,σ.next+1⟩ bt
 simp only[go_sem, ↓reduceIte,Nat.reduceEqDiff,Nat.reduceAdd,Nat.reduceSub,Nat.reduceLeDiff,reduceCtorEq,k1,k2,k3]at l1 l2 l3
 (try((repeat(revert hN;revert N;apply Pn.out));refine wk (tw @az.eq_1 (tw @l1 (tw @l2 @l3))) ?_;(repeat(refine Pn.mk ?_;intro N hN))))
 refine gn (.inl rfl) (vs:=[.agg [.own oa 0 p.aE.aw.length,.own ob 0 p.aE.ah.length,.own oc 0 p.bZ.ah.length,.int .i64 p.aH]]) (sd @Nat.zero_add) ?_
 have fr:∀x:Id,σ.next+2<=x.cq->(x=⟨10000001,σ.next⟩)=False/\(x=⟨10001000,σ.next+1⟩)=False:=fun x hx=>⟨(dr (a:=⟨10000001,σ.next⟩) (b:=x) bt).2,(dr (a:=⟨10001000,σ.next+1⟩) (b:=x) bt).2⟩
 have Mr:∀i∈i1++i2,g2 i=g1 i:=fun i hi=>by
  have h1:=hb i hi
  have h2:=hL.2 i bt
  have h3:=fr i ab
  simp only[go_sem, ↓reduceIte,Nat.reduceEqDiff,Nat.reduceAdd,Nat.reduceSub,Nat.reduceLeDiff,reduceCtorEq,h3]at h2
  exact h2
 refine⟨i1++(i2++i3),⟨_,_,_,i1,i2,i3,rfl,hA.frame zH fun i hi=>?_,hB.frame pM fun i hi=>?_,hC.frame wi fun i hi=>?_,rfl⟩,?_,⟨bt,fun j hj=>?_⟩⟩
 ·have h1:=hb i (by simp[hi])
  have h2:=Mr i (by simp[hi])
  have h3:=fr i ab
  simp only[go_sem, ↓reduceIte,Nat.reduceEqDiff,Nat.reduceAdd,Nat.reduceSub,Nat.reduceLeDiff,reduceCtorEq,h2,h3]
 ·have h1:=hb i (by simp[hi])
  have h2:=Mr i (by simp[hi])
  have h3:=fr i ab
  simp only[go_sem, ↓reduceIte,Nat.reduceEqDiff,Nat.reduceAdd,Nat.reduceSub,Nat.reduceLeDiff,reduceCtorEq,h2,h3]
 ·have h1:=hc i hi
  have h3:=fr i ab
  simp only[go_sem, ↓reduceIte,Nat.reduceEqDiff,Nat.reduceAdd,Nat.reduceSub,Nat.reduceLeDiff,reduceCtorEq,h3]
 ·(try dsimp only at *)
  rw[<-List.append_assoc]
  exact(hI.app hJ ab ab ab).wide ab ab
 ·have h1:=eP hj
  have h2:=hL.2 j bt
  have h3:=hK.2 j bt
  simp only[go_sem, ↓reduceIte,Nat.reduceEqDiff,Nat.reduceAdd,Nat.reduceSub,Nat.reduceLeDiff,reduceCtorEq,h1]at h2 h3
  simp only[go_sem, ↓reduceIte,Nat.reduceEqDiff,Nat.reduceAdd,Nat.reduceSub,Nat.reduceLeDiff,reduceCtorEq,h1,h2,h3]
end Go.Proofs.YtihgaadadaekmaaGreatDoor.V

namespace Go.Proofs.YtihgaadadaekmaaGreatDoor
open Go.RowKit
def kp (n:Int):Bool:=(decide (97<=n)&&decide (n<=122))||(decide (65<=n)&&decide (n<=90))
def kP (n:Int):Bool:=decide (48<=n)&&decide (n<=57)
def sE (i:Nat) (n:Int):Prop:=kp n=true∨(0<i/\(kP n=true∨n=95))
def tn (s:ByteArray):Prop:=(1<=s.size/\s.size<=12)/\∀i (h:i<s.size),sE i s[i].toNat
open Classical in
noncomputable def jq (s:ByteArray):Bool:=decide (tn s)
theorem Co {s:ByteArray} (h:tn s):true=jq s:=by simp[jq,h]
theorem dN {s:ByteArray} (h:¬tn s):false=jq s:=by simp[jq,h]
theorem Ar {s:ByteArray} {b:Bool} (hb:b=true) (h:tn s):b=jq s:=by simp[jq,h,hb]
theorem qx {s:ByteArray} {b:Bool} (hb:b=false) (h:¬tn s):b=jq s:=by simp[jq,h,hb]
theorem uo (w:World) (n:Int):Calls Tryz.prog 144 #[.int .u8 n] w fun e w'=>e=.returned (.bool (kp n))/\w=w':=by
 go_enter Tryz.func144,Tryz.ntmps144
 go_wp2_with fail
 all_goals
  go_ret
  exact⟨g9 (by unfold kp;simp[*];try omega),rfl⟩
theorem EF (w:World) (n:Int):Calls Tryz.prog 68 #[.int .u8 n] w fun e w'=>e=.returned (.bool (kP n))/\w=w':=by
 go_enter Tryz.func68,Tryz.ntmps68
 go_wp2_with fail
 all_goals
  go_ret
  exact⟨g9 (by unfold kP;simp[*];try omega),rfl⟩
theorem AE (w:World) (s:ByteArray) (hs:s.size<=9223372036854775807):Calls Tryz.prog 123 #[.string s] w fun e w'=>e=.returned (.bool (jq s))/\Below w.heap.size w w':=by
 by_cases h1:1<=s.size
 case neg=>
  go_enter Tryz.func123,Tryz.ntmps123
  go_wp2_with fail
  go_ret
  exact⟨g9 (dN fun h=>h1 h.1.1),Below.refl _ _⟩
 by_cases h2:s.size<=12
 case neg=>
  go_enter Tryz.func123,Tryz.ntmps123
  go_wp2_with fail
  go_ret
  exact⟨g9 (dN fun h=>h2 h.1.2),Below.refl _ _⟩
 go_enter Tryz.func123,Tryz.ntmps123
 go_wp2_with fail
 refine(uo _ _).mono ?_
 rintro e w' ⟨rfl,rfl⟩
 cases h3:kp s[0].toNat
 ·go_wp2_with fail
  go_ret
  exact⟨g9 (dN fun h=>by have:=h.2 0 (by omega);simp only[sE]at this;rw[h3]at this;simp at this),Below.refl _ _⟩
 ·replace h3:=Lib.hid h3
  go_wp2_with fail
  go_loop [3] (fun i=>∃k:Nat,1<=k/\k<=s.size/\i=.int .i64 k/\Hid (∀j (h:j<s.size),j<k->sE j s[j].toNat)) (fun i=>s.size-(intOf i).toNat)
  case atStart=>exact⟨1,by omega,by omega,rfl,Lib.hid fun j h hj=>by
   obtain rfl:j=0:=by omega
   exact .inl h3.out⟩
  case round=>
   obtain⟨k,qW,hk,rfl,dk⟩:=hrel
   by_cases dD:k<s.size
   ·go_wp2_with fail
    refine(uo _ _).mono ?_
    rintro e w' ⟨rfl,rfl⟩
    have lg:sE k s[k].toNat∨¬sE k s[k].toNat:=Classical.em _
    cases hl:kp s[k].toNat
    ·go_wp2_with fail
     refine(EF _ _).mono ?_
     rintro e w' ⟨rfl,rfl⟩
     cases hd:kP s[k].toNat
     ·by_cases sV:(s[k].toNat:Int)=95
      ·have RW:((s[k].toNat:Int) !=95)=false:=by simp;omega
       replace sV:=Lib.hid sV
       replace hl:=Lib.hid hl
       replace hd:=Lib.hid hd
       go_wp2_with fail
       go_round
       case rel=>exact⟨k+1,by omega,by omega,by go_num,Lib.hid fun j h hj=>by
        by_cases wD:j=k
        ·subst wD;exact .inr ⟨by omega,.inr sV.out⟩
        ·exact dk.out j h (by omega)⟩
       case measure=>simp[intOf];omega
      ·have RW:((s[k].toNat:Int) !=95)=true:=by simp;omega
       replace sV:=Lib.hid sV
       replace hl:=Lib.hid hl
       replace hd:=Lib.hid hd
       go_wp2_with fail
       go_ret
       exact⟨g9 (dN fun h=>by
        have:=h.2 k dD;simp only[sE,hl.out,hd.out]at this;exact sV.out (by simp at this;exact this.2)),Below.refl _ _⟩
     ·replace hl:=Lib.hid hl
      replace hd:=Lib.hid hd
      go_wp2_with fail
      go_round
      case rel=>exact⟨k+1,by omega,by omega,by go_num,Lib.hid fun j h hj=>by
       by_cases wD:j=k
       ·subst wD;exact .inr ⟨by omega,.inl hd.out⟩
       ·exact dk.out j h (by omega)⟩
      case measure=>simp[intOf];omega
    ·replace hl:=Lib.hid hl
     go_wp2_with fail
     go_round
     case rel=>exact⟨k+1,by omega,by omega,by go_num,Lib.hid fun j h hj=>by
      by_cases wD:j=k
      ·subst wD;exact .inl hl.out
      ·exact dk.out j h (by omega)⟩
     case measure=>simp[intOf];omega
   ·go_wp2_with fail
    go_ret
    exact⟨g9 (Co ⟨⟨h1,h2⟩,fun i h=>dk.out i h (by omega)⟩),Below.refl _ _⟩
theorem z8 (w:World) (s:ByteArray) (hs:s.size<=9223372036854775807):Calls Tryz.prog 132 #[.string s] w fun e w'=>e=.returned (.bool (jq s))/\w=w':=by
 go_enter Tryz.func132,Tryz.ntmps132
 go_wp2_with fail
 go_loop [8] (fun i=>∃k:Nat,k<=s.size/\i=.int .i64 k/\Hid (∀j (h:j<s.size),j<k->sE j s[j].toNat)) (fun i=>s.size-(intOf i).toNat)
 case atStart=>exact⟨0,by omega,rfl,Lib.hid fun j h hj=>by omega⟩
 case round=>
  obtain⟨k,hk,rfl,dk⟩:=hrel
  by_cases dD:k<s.size
  ·have hc:(s[k].toNat:Int)<48∨(48<=(s[k].toNat:Int)/\(s[k].toNat:Int)<=57)∨(58<=(s[k].toNat:Int)/\(s[k].toNat:Int)<=64)∨(65<=(s[k].toNat:Int)/\(s[k].toNat:Int)<=90)∨(91<=(s[k].toNat:Int)/\(s[k].toNat:Int)<=94)∨(95<=(s[k].toNat:Int)/\(s[k].toNat:Int)<=95)∨(96<=(s[k].toNat:Int)/\(s[k].toNat:Int)<=96)∨(97<=(s[k].toNat:Int)/\(s[k].toNat:Int)<=122)∨123<=(s[k].toNat:Int):=by omega
   by_cases kN:k=0
   ·subst kN
    rcases hc with h|⟨h,h'⟩|⟨h,h'⟩|⟨h,h'⟩|⟨h,h'⟩|⟨h,h'⟩|⟨h,h'⟩|⟨h,h'⟩|h
    ·have sV:((s[0].toNat:Int) !=95)=true:=by simp;try omega
     go_wp2_with fail
     all_goals first
      |(go_ret;exact⟨g9 (dN fun hh=>by have:=hh.2 0 dD;simp[sE,kp,kP]at this;omega),rfl⟩)
      |(exfalso;simp_all;done)
      |(exfalso;simp_all;omega)
    ·have sV:((s[0].toNat:Int) !=95)=true:=by simp;try omega
     go_wp2_with fail
     all_goals first
      |(go_ret;exact⟨g9 (dN fun hh=>by have:=hh.2 0 dD;simp[sE,kp,kP]at this;omega),rfl⟩)
      |(exfalso;simp_all;done)
      |(exfalso;simp_all;omega)
    ·have sV:((s[0].toNat:Int) !=95)=true:=by simp;try omega
     go_wp2_with fail
     all_goals first
      |(go_ret;exact⟨g9 (dN fun hh=>by have:=hh.2 0 dD;simp[sE,kp,kP]at this;omega),rfl⟩)
      |(exfalso;simp_all;done)
      |(exfalso;simp_all;omega)
    ·have sV:((s[0].toNat:Int) !=95)=true:=by simp;try omega
     go_wp2_with fail
     go_round
     case rel=>exact⟨0+1,by omega,by go_num,Lib.hid fun j hj wD=>by
      by_cases Hr:j=0
      ·subst Hr;simp[sE,kp,kP];omega
      ·exact dk.out j hj (by omega)⟩
     case measure=>simp[intOf];try omega
    ·have sV:((s[0].toNat:Int) !=95)=true:=by simp;try omega
     go_wp2_with fail
     all_goals first
      |(go_ret;exact⟨g9 (dN fun hh=>by have:=hh.2 0 dD;simp[sE,kp,kP]at this;omega),rfl⟩)
      |(exfalso;simp_all;done)
      |(exfalso;simp_all;omega)
    ·have sV:((s[0].toNat:Int) !=95)=false:=by simp;try omega
     go_wp2_with fail
     all_goals first
      |(go_ret;exact⟨g9 (dN fun hh=>by have:=hh.2 0 dD;simp[sE,kp,kP]at this;omega),rfl⟩)
      |(exfalso;simp_all;done)
      |(exfalso;simp_all;omega)
    ·have sV:((s[0].toNat:Int) !=95)=true:=by simp;try omega
     go_wp2_with fail
     all_goals first
      |(go_ret;exact⟨g9 (dN fun hh=>by have:=hh.2 0 dD;simp[sE,kp,kP]at this;omega),rfl⟩)
      |(exfalso;simp_all;done)
      |(exfalso;simp_all;omega)
    ·have sV:((s[0].toNat:Int) !=95)=true:=by simp;try omega
     go_wp2_with fail
     go_round
     case rel=>exact⟨0+1,by omega,by go_num,Lib.hid fun j hj wD=>by
      by_cases Hr:j=0
      ·subst Hr;simp[sE,kp,kP];omega
      ·exact dk.out j hj (by omega)⟩
     case measure=>simp[intOf];try omega
    ·have sV:((s[0].toNat:Int) !=95)=true:=by simp;try omega
     go_wp2_with fail
     all_goals first
      |(go_ret;exact⟨g9 (dN fun hh=>by have:=hh.2 0 dD;simp[sE,kp,kP]at this;omega),rfl⟩)
      |(exfalso;simp_all;done)
      |(exfalso;simp_all;omega)
   ·have hz:((k:Int)==0)=false:=by simpa using kN
    have qW:1<=k:=by omega
    clear kN
    rcases hc with h|⟨h,h'⟩|⟨h,h'⟩|⟨h,h'⟩|⟨h,h'⟩|⟨h,h'⟩|⟨h,h'⟩|⟨h,h'⟩|h
    ·have sV:((s[k].toNat:Int) !=95)=true:=by simp;try omega
     go_wp2_with fail
     all_goals first
      |(go_ret;exact⟨g9 (dN fun hh=>by have:=hh.2 k dD;simp[sE,kp,kP]at this;omega),rfl⟩)
      |(exfalso;simp_all;done)
      |(exfalso;simp_all;omega)
    ·have sV:((s[k].toNat:Int) !=95)=true:=by simp;try omega
     go_wp2_with fail
     go_round
     case rel=>exact⟨k+1,by omega,by go_num,Lib.hid fun j hj wD=>by
      by_cases Hr:j=k
      ·subst Hr;simp[sE,kp,kP];omega
      ·exact dk.out j hj (by omega)⟩
     case measure=>simp[intOf];try omega
    ·have sV:((s[k].toNat:Int) !=95)=true:=by simp;try omega
     go_wp2_with fail
     all_goals first
      |(go_ret;exact⟨g9 (dN fun hh=>by have:=hh.2 k dD;simp[sE,kp,kP]at this;omega),rfl⟩)
      |(exfalso;simp_all;done)
      |(exfalso;simp_all;omega)
    ·have sV:((s[k].toNat:Int) !=95)=true:=by simp;try omega
     go_wp2_with fail
     go_round
     case rel=>exact⟨k+1,by omega,by go_num,Lib.hid fun j hj wD=>by
      by_cases Hr:j=k
      ·subst Hr;simp[sE,kp,kP];omega
      ·exact dk.out j hj (by omega)⟩
     case measure=>simp[intOf];try omega
    ·have sV:((s[k].toNat:Int) !=95)=true:=by simp;try omega
     go_wp2_with fail
     all_goals first
      |(go_ret;exact⟨g9 (dN fun hh=>by have:=hh.2 k dD;simp[sE,kp,kP]at this;omega),rfl⟩)
      |(exfalso;simp_all;done)
      |(exfalso;simp_all;omega)
    ·have sV:((s[k].toNat:Int) !=95)=false:=by simp;try omega
     go_wp2_with fail
     go_round
     case rel=>exact⟨k+1,by omega,by go_num,Lib.hid fun j hj wD=>by
      by_cases Hr:j=k
      ·subst Hr;simp[sE,kp,kP];omega
      ·exact dk.out j hj (by omega)⟩
     case measure=>simp[intOf];try omega
    ·have sV:((s[k].toNat:Int) !=95)=true:=by simp;try omega
     go_wp2_with fail
     all_goals first
      |(go_ret;exact⟨g9 (dN fun hh=>by have:=hh.2 k dD;simp[sE,kp,kP]at this;omega),rfl⟩)
      |(exfalso;simp_all;done)
      |(exfalso;simp_all;omega)
    ·have sV:((s[k].toNat:Int) !=95)=true:=by simp;try omega
     go_wp2_with fail
     go_round
     case rel=>exact⟨k+1,by omega,by go_num,Lib.hid fun j hj wD=>by
      by_cases Hr:j=k
      ·subst Hr;simp[sE,kp,kP];omega
      ·exact dk.out j hj (by omega)⟩
     case measure=>simp[intOf];try omega
    ·have sV:((s[k].toNat:Int) !=95)=true:=by simp;try omega
     go_wp2_with fail
     all_goals first
      |(go_ret;exact⟨g9 (dN fun hh=>by have:=hh.2 k dD;simp[sE,kp,kP]at this;omega),rfl⟩)
      |(exfalso;simp_all;done)
      |(exfalso;simp_all;omega)
  ·by_cases h1:1<=s.size
   ·by_cases h2:s.size<=12
    ·go_wp2_with fail
     go_ret
     exact⟨g9 (Ar (by simp<;>omega) ⟨⟨h1,h2⟩,fun i h=>dk.out i h (by omega)⟩),rfl⟩
    ·go_wp2_with fail
     go_ret
     exact⟨g9 (qx (by simp<;>omega) fun h=>h2 h.1.2),rfl⟩
   ·go_wp2_with fail
    go_ret
    exact⟨g9 (qx (by simp<;>omega) fun h=>h1 h.1.1),rfl⟩
end Go.Proofs.YtihgaadadaekmaaGreatDoor

namespace Go.Proofs.YtihgaadadaekmaaGreatDoor.V
open Go.RowKit
theorem mixed:Tryz.prog.follows .mixedOrders=true:=by kernel_rfl
variable {P:Program} {w:World} {D:Nat->Prop} {ι:Names}
theorem iq {f:Nat} {args:List AV} {r:AV} {vs0:Array Value} {u0:Value} (mO:∀(w:World) (D:Nat->Prop) (ι:Names) vs,e9 P w D ι args vs->vs=vs0) (hr:∀(w:World) (D:Nat->Prop) (ι:Names),cG P w D ι r u0) (Dw:∀g,fD g 6 r=some r)
  (h:∀w,Calls P f vs0 w fun e w'=>e=.returned u0/\Below w.heap.size w w'):ae P f args r:=by
 intro n
 refine iy fun hs D ι w vs S U A=>?_
 have:=mO w D ι vs A
 subst this
 refine(h w).mono ?_
 rintro e w' ⟨rfl,hb⟩
 exact⟨r,_,n,D,ι,u0,rfl,⟨r,Dw _,rfl⟩,Step.stay S hb.block hb.size hb.os hb.tape hb.output (fun _ h=>h) (fun _ h=>.inl h) (fun _ _ h=>h),
  S.stay hb.block hb.size (fun _ h=>h) (fun b hd=>Nat.lt_of_lt_of_le (S.dead b hd) hb.size) (fun _ h=>.inl h) (fun _ _ h=>h),U,Nat.le_refl _,hr _ _ _⟩
theorem AA {s:ByteArray} {vs:Array Value} (h:e9 P w D ι [.str s] vs):vs= #[.string s]:=by
 obtain⟨h1,h2⟩:=h
 obtain⟨u,hu,hr⟩:=h2 0 _ rfl
 rw[fj hr]at hu
 obtain⟨l⟩:=vs
 cases l with
 |nil=>simp at h1
 |cons a l=>cases l with
  |nil=>simp at hu;subst hu;rfl
  |cons b l=>simp at h1
theorem DW (s:ByteArray) (hs:s.size<=9223372036854775807):ae Tryz.prog 123 [.str s] (.bool (jq s)):=
 iq (fun _ _ _ _=>AA) (fun _ _ _=>.eK _ _ (.bool _)) (fun g=>fa g 5 _) fun w=>AE w s hs
theorem DK (s:ByteArray) (hs:s.size<=9223372036854775807):ae Tryz.prog 132 [.str s] (.bool (jq s)):=
 iq (fun _ _ _ _=>AA) (fun _ _ _=>.eK _ _ (.bool _)) (fun g=>fa g 5 _) fun w=>(z8 w s hs).mono (by rintro e w' ⟨rfl,rfl⟩;exact⟨rfl,Below.refl _ _⟩)
end Go.Proofs.YtihgaadadaekmaaGreatDoor.V

namespace Go.Proofs.YtihgaadadaekmaaGreatDoor
open Go.RowKit
def oJ (n:Nat):List UInt8:=if h:n=0 then[]else oJ (n / 10)++[UInt8.ofNat (48+n % 10)]
termination_by n
decreasing_by omega
def nM (k:Int):ByteArray:=if k<=0 then⟨#[109,48]⟩else⟨(109::oJ k.toNat).toArray⟩
theorem oj:oJ 0=[]:=by unfold oJ;simp
theorem qd {n:Nat} (h:n≠0):oJ n=oJ (n / 10)++[UInt8.ofNat (48+n % 10)]:=by
 conv=>lhs;unfold oJ
 rw[dif_neg h]
theorem rz (c:UInt8) (l:ByteArray):((⟨#[c]⟩++l:ByteArray)).data.toList=c::l.data.toList:=by
 simp[ByteArray.data_append]
theorem tH:∀(m n:Nat),n<10 ^ m->(oJ n).length<=m
 |0,n,h=>by
  have:n=0:=by simpa using h
  subst this;simp[oJ]
 |m+1,n,h=>by
  unfold oJ
  split
  ·simp
  ·have:=tH m (n / 10) (by rw[Nat.pow_succ]at h;omega)
   simp;omega
theorem yi (w:World) (k:Int) (h0:0<=k) (h1:k<=4611686018427387904):
  Calls Tryz.prog 112 #[.int .i64 k] w fun e w'=>e=.returned (.string (nM k))/\Below w.heap.size w w':=by
 by_cases hk:k<=0
 ·go_enter Tryz.func112,Tryz.ntmps112
  go_wp2_with fail
  go_ret
  exact⟨by simp[nM,hk],Below.refl _ _⟩
 ·go_enter Tryz.func112,Tryz.ntmps112
  go_wp2_with fail
  go_loopw [0,3] (fun a s wr=>∃(j:Int) (l:ByteArray),a=.int .i64 j/\s=.string l/\0<=j/\j<=4611686018427387904/\Hid (oJ j.toNat++l.data.toList=oJ k.toNat)/\Below w.heap.size w wr) (fun a _ _=>(intOf a).toNat)
  case atStart=>exact⟨k,⟨#[]⟩,rfl,rfl,h0,h1,Lib.hid (by simp),Below.refl _ _⟩
  case round=>
   obtain⟨j,l,rfl,rfl,SE,SF,hd,hb⟩:=hrel
   have fv:l.size<=19:=by
    have h1:=congrArg List.length hd.out
    have h2:=tH 19 k.toNat (by omega)
    rw[List.length_append]at h1
    have:l.data.toList.length=l.size:=by rw[Array.length_toList];rfl
    omega
   by_cases hj:0<j
   ·have Sn:∀v:Int,(convert 142 9 (.slice (some ⟨wr.heap.size,0,none⟩) 1 1)).run Tryz.prog (wr.alloc (.cells #[.int .u8 v] 5))=.ok (.string ⟨#[UInt8.ofNat v.toNat]⟩) (wr.alloc (.cells #[.int .u8 v] 5)):=by
     intro v
     rw[run_convert_bytes_string _ _ _ 5 _ _ _ Tryz.underlying142 Tryz.underlying5 Tryz.underlying9,run_bytesToString _ _ _ _ [v] (by simp[loadCells,loadCellsFrom,go_sem])]
     rfl
    have hr:=fv
    go_wp2_with fail
    go_roundw
    case rel=>
     refine⟨_,_,rfl,rfl,by omega,by omega,Lib.hid ?_,hb.alloc hb.size _⟩
     rw[<-hd.out,rz,qd (show j.toNat≠0 by omega),show(j / 10).toNat=j.toNat / 10 by omega,show(48+j % 10).toNat=48+j.toNat % 10 by omega]
     simp
    case measure=>simp[intOf];omega
   ·go_wp2_with fail
    go_ret
    refine⟨?_,hb⟩
    have h1:=hd.out
    rw[show j.toNat=0 by omega,oj,List.nil_append]at h1
    have h2:(⟨#[109]⟩++l:ByteArray)=nM k:=by
     rw[nM,if_neg (by omega)]
     refine ByteArray.ext (Array.ext' ?_)
     rw[rz,h1]
    rw[h2];rfl
end Go.Proofs.YtihgaadadaekmaaGreatDoor

namespace Go.Proofs.YtihgaadadaekmaaGreatDoor.V
open Go.RowKit
attribute [local irreducible] ea wpOps gS Call
attribute [local go_sem] aM fQ eM gi gh cE upd cu K.av cL AV.cells AV.cell rowOf rowsOf part ld rowAt bY ck dI eh ij bL da eA gp e8 du eo cY cX dV dW bR bm cQ bQ cT cR ej er ek cP bW cZ ei bP aQ cV cC ig bw cH bS aX dG bu dL AV.undef bF bH dY ef dU ec cF ez eF cw ev eu cU cW List.getD_cons_zero List.getD_cons_succ List.getD_nil List.all_cons List.all_nil Bool.and_true Bool.true_and Bool.and_self Bool.not_true Bool.not_false Option.map_some Option.map_none Option.bind_some Option.bind_none List.length_cons List.length_nil List.take_succ_cons List.take_zero List.take_nil List.drop_succ_cons List.drop_zero List.drop_nil List.head?_cons List.map_cons List.map_nil List.getElem?_cons_zero List.getElem?_cons_succ List.cons_append List.nil_append List.append_nil List.length_map List.set_cons_zero List.set_cons_succ Nat.reduceMul eq_self Int.toNat_natCast Int.natCast_nonneg and_self true_and and_true decide_true decide_false Bool.false_eq_true Nat.zero_add Nat.add_zero List.contains_cons List.contains_nil Bool.or_false Bool.false_or beq_self_eq_true Nat.reduceBEq ne_eq not_true_eq_false not_false_eq_true Id.mk.injEq false_and and_false Nat.reduceLT Int.reduceLE Int.reduceLT Int.reduceToNat Int.reduceNeg Int.reduceAdd Nat.le_refl List.length_append beq_true beq_false Bool.not_eq_eq_eq_not or_false false_or dE ad aj aI bE cj aV bf aU bo cN bG
def m8 (σ:ax) (ids:List Id) (g:Rows) (n:Nat):Prop:=σ.next<=n/\∀x:Id,x.cq<σ.next->x∉ids->g x=σ.get x
theorem qH (l:List (List AV)) (i:Nat) (a b:List AV):(l.set i a).set i b=l.set i b:=List.set_set ..
theorem zt {l:List Int} {j:Nat} (h:j<l.length):(l.map au)[j]? =some [.int .i64 l[j]]:=by simp[h,au]
theorem DV {P:Program} {w:World} {D:Nat->Prop} {ι:Names} {k:Int} {vs:Array Value} (h:e9 P w D ι [.int .i64 k] vs):vs= #[.int .i64 k]:=by
 obtain⟨h1,h2⟩:=h
 obtain⟨u,hu,hr⟩:=h2 0 _ rfl
 rw[dh hr]at hu
 obtain⟨l⟩:=vs
 cases l with
 |nil=>simp at h1
 |cons a l=>cases l with
  |nil=>simp at hu;subst hu;rfl
  |cons b l=>simp at h1
theorem ur (k:Int) (h0:0<=k) (h1:k<=4611686018427387904):ae Tryz.prog 112 [.int .i64 k] (.str (nM k)):=
 iq (vs0:= #[.int .i64 k]) (u0:=.string (nM k)) (fun _ _ _ _=>DV) (fun w D ι=>.eK _ _ (.str _)) (fun g=>jz g 5 _) fun w=>yi w k h0 h1
theorem Cl (i:Id) (l:List Int) (k:Int) (h0:0<=k) (h1:k+l.length<=4611686018427387904) (σ:ax) (hv:i.cq<σ.next) (hg:σ.get i=some ⟨true,1,l.map au⟩):
  Call Tryz.prog 23 [.own i 0 l.length,.int .i64 k] σ (fun r σ'=>r=.int .i64 (k+l.length)/\m8 σ [i] σ'.get σ'.next):=by
 refine eX dK rfl fun hl=>?_
 clear hl
 obtain⟨nn,hn⟩:∃nn,l.length=nn:=⟨_,rfl⟩
 rw[hn]at h1 ⊢
 (try((repeat(revert hN;revert N;apply Pn.out));refine wk @Nat.zero_add ?_;(repeat(refine Pn.mk ?_;intro N hN))))
 refine aP (fun n env st=>∃j:Nat,n=(nn)-j/\j<=(nn)/\env 5=.int .i64 (j:Int)/\env 1=.int .i64 (k+j)/\(m8 σ [i] st.get st.next/\∃l':List Int,l'.length=nn/\st.get i=some ⟨true,1,l'.map au⟩)) (nn) ⟨0,ab,ab,sl (tw @Int.add_zero @Int.natCast_zero),sl (tw @Int.add_zero @Int.natCast_zero),by(try dsimp only);exact⟨⟨bt,fun x _ _=>rfl⟩,l,hn,hg⟩⟩ ?_
 rintro n_a env_a st_a ⟨j,rfl,ale,a5,a1,j0⟩ dm
 have a0:=dm 0 (by kernel_rfl)
 simp only[go_sem, ↓reduceIte,Nat.reduceEqDiff,Nat.reduceAdd,Nat.reduceSub,Nat.reduceLeDiff,reduceCtorEq,Int.add_zero,Int.natCast_zero]at a0
 clear dm
 obtain⟨⟨an,aF⟩,l',al,ag⟩:=j0
 by_cases hj:(j:Int)<(nn:Int)
 ·have bD:∀{e:Env} {gg:Rows} {nx:Nat},(e 5=.int .i64 (IntKind.i64.wrap ((j:Int)+1)))->(e 1=.int .i64 (k+(j+1)))->(m8 σ [i] gg nx/\∃l':List Int,l'.length=nn/\gg i=some ⟨true,1,l'.map au⟩)->∃m0,m0<(nn)-j/\∃j:Nat,m0=(nn)-j/\j<=(nn)/\e 5=.int .i64 (j:Int)/\e 1=.int .i64 (k+j)/\(m8 σ [i] gg nx/\∃l':List Int,l'.length=nn/\gg i=some ⟨true,1,l'.map au⟩):=fun x1 x2 x3=>⟨_,ab,j+1,rfl,ab,(by rw[x1,ay ab]),x2,x3⟩
  have gm:j<l'.length:=ab
  have dR:=zt gm
  have dP:(l'.map au).set j [.int .i64 (k+j)]=(l'.set j (k+j)).map au:=by rw[List.map_set];rfl
  have hw:IntKind.i64.wrap (k+(j:Int)+1)=k+((j:Int)+1):=by rw[aT ab];omega
  (try((repeat(revert hN;revert N;apply Pn.out));refine wk (tw @a5 (tw @a1 (tw @a0 (tw @hj (tw @ag (tw @dR (tw @dP @hw))))))) ?_;(repeat(refine Pn.mk ?_;intro N hN))))
  refine bD ?_ ?_ (by(try dsimp only);exact⟨⟨bt,fun x hx hi=>by
   have h2:=aF x hx hi
   have h3:(x=i)=False:=eq_false fun e=>hi (by simp[e])
   simp only[go_sem, ↓reduceIte,Nat.reduceEqDiff,Nat.reduceAdd,Nat.reduceSub,Nat.reduceLeDiff,reduceCtorEq,h2,h3]⟩,l'.set j (k+j),by simp[al],sl @Nat.zero_add⟩)
  all_goals simp only[go_sem, ↓reduceIte,Nat.reduceEqDiff,Nat.reduceAdd,Nat.reduceSub,Nat.reduceLeDiff,reduceCtorEq,a5,a1,a0,hw]
 ·have gm:j=nn:=ab
  subst gm
  (try((repeat(revert hN;revert N;apply Pn.out));refine wk (tw @a5 (tw @a1 (tw @a0 @hj))) ?_;(repeat(refine Pn.mk ?_;intro N hN))))
  exact gn (.inl rfl) (vs:=[.int .i64 (k+j)]) (sd (tw @a5 (tw @a1 @a0))) ⟨rfl,⟨bt,fun x hx hi=>aF x hx hi⟩⟩
def Kv (k:Int) (n:Nat):List aq:=(List.range n).map fun j:Nat=>⟨⟨k+3*(j:Int),k+3*(j:Int)+1⟩,k+3*(j:Int)+2⟩
theorem qw (k:Int) (n:Nat):(Kv k n).length=n:=by simp[Kv]
theorem H4 (k:Int) (n:Nat):Kv k (n+1)=Kv k n++[⟨⟨k+3*(n:Int),k+3*(n:Int)+1⟩,k+3*(n:Int)+2⟩]:=by simp[Kv,List.range_succ]
def mi (k:Int) (l:List aq) (j:Nat):List aq:=Kv k j++l.drop j
theorem H5 {k:Int} {l:List aq} {j:Nat} (h:j<=l.length):(mi k l j).length=l.length:=by simp[mi,qw];omega
theorem Kw {k:Int} {l:List aq} {j:Nat} (h:j<l.length):((mi k l j).map ai)[j]? =some [.int .i64 l[j].cI.gG,.int .i64 l[j].cI.fR,.int .i64 l[j].bJ]:=by
 rw[List.getElem?_map,mi,List.getElem?_append_right (by rw[qw];omega),qw,Nat.sub_self,List.getElem?_drop,Nat.add_zero,List.getElem?_eq_getElem h];rfl
theorem H6 {k:Int} {l:List aq} {j:Nat} (h:j<l.length):((mi k l j).map ai).set j [.int .i64 (k+3*(j:Int)),.int .i64 (k+3*(j:Int)+1),.int .i64 (k+3*(j:Int)+2)]=(mi k l (j+1)).map ai:=by
 have:(mi k l j).set j ⟨⟨k+3*(j:Int),k+3*(j:Int)+1⟩,k+3*(j:Int)+2⟩=mi k l (j+1):=by
  rw[mi,List.set_append_right _ _ (by rw[qw];omega),qw,Nat.sub_self,List.drop_eq_getElem_cons h,List.set_cons_zero,mi,H4,List.append_assoc];rfl
 rw[<-this,List.map_set];rfl
theorem yh (i:Id) (l:List aq) (k:Int) (h0:0<=k) (h1:k+3*l.length<=4611686018427387904) (σ:ax) (hv:i.cq<σ.next) (hg:σ.get i=some ⟨true,3,l.map ai⟩):
  Call Tryz.prog 48 [.own i 0 l.length,.int .i64 k] σ (fun r σ'=>r=.int .i64 (k+3*l.length)/\m8 σ [i] σ'.get σ'.next/\σ'.get i=some ⟨true,3,(Kv k l.length).map ai⟩):=by
 refine eX dK rfl fun hl=>?_
 clear hl
 have hz:mi k l 0=l:=by simp[mi,Kv]
 (try((repeat(revert hN;revert N;apply Pn.out));refine wk @Nat.zero_add ?_;(repeat(refine Pn.mk ?_;intro N hN))))
 refine aP (fun n env st=>∃j:Nat,n=(l.length)-j/\j<=(l.length)/\env 5=.int .i64 (j:Int)/\env 1=.int .i64 (k+3*j)/\st.get i=some ⟨true,3,(mi k l j).map ai⟩/\(m8 σ [i] st.get st.next)) (l.length) ⟨0,ab,ab,sl (tw @Int.add_zero (tw @Int.natCast_zero (tw @Int.mul_zero (tw @hz @hg)))),sl (tw @Int.add_zero (tw @Int.natCast_zero (tw @Int.mul_zero (tw @hz @hg)))),sl (tw @Int.add_zero (tw @Int.natCast_zero (tw @Int.mul_zero (tw @hz @hg)))),by(try dsimp only);exact⟨bt,fun x _ _=>rfl⟩⟩ ?_
 rintro n_a env_a st_a ⟨j,rfl,ale,a5,a1,ag0,j0⟩ dm
 have a0:=dm 0 (by kernel_rfl)
 simp only[go_sem, ↓reduceIte,Nat.reduceEqDiff,Nat.reduceAdd,Nat.reduceSub,Nat.reduceLeDiff,reduceCtorEq,Int.add_zero,Int.natCast_zero,Int.mul_zero,hz,hg]at a0
 clear dm
 obtain⟨an,aF⟩:=j0
 by_cases hj:(j:Int)<(l.length:Int)
 ·have bD:∀{e:Env} {gg:Rows} {nx:Nat},(e 5=.int .i64 (IntKind.i64.wrap ((j:Int)+1)))->(e 1=.int .i64 (k+3*(j+1)))->(gg i=some ⟨true,3,(mi k l (j+1)).map ai⟩)->(m8 σ [i] gg nx)->∃m0,m0<(l.length)-j/\∃j:Nat,m0=(l.length)-j/\j<=(l.length)/\e 5=.int .i64 (j:Int)/\e 1=.int .i64 (k+3*j)/\gg i=some ⟨true,3,(mi k l j).map ai⟩/\(m8 σ [i] gg nx):=fun x1 x2 x3 x4=>⟨_,ab,j+1,rfl,ab,(by rw[x1,ay ab]),x2,x3,x4⟩
  have gm:j<l.length:=ab
  have dR:=Kw (k:=k) gm
  have dP:=H6 (k:=k) gm
  have pB:IntKind.i64.wrap (k+3*(j:Int)+1)=k+3*(j:Int)+1:=aT ab
  have wI:IntKind.i64.wrap (k+3*(j:Int)+1+1)=k+3*(j:Int)+2:=by rw[aT ab];omega
  have Qh:IntKind.i64.wrap (k+3*(j:Int)+2+1)=k+3*((j:Int)+1):=by rw[aT ab];omega
  have hlen:((mi k l j).map ai).length=l.length:=by rw[List.length_map,H5 ab]
  have Hp:∀c:List AV,(((mi k l j).map ai).set j c)[j]? =some c:=fun c=>by rw[List.getElem?_set_self (by rw[hlen];exact gm)]
  (try((repeat(revert hN;revert N;apply Pn.out));refine wk (tw @a5 (tw @a1 (tw @ag0 (tw @a0 (tw @hj (tw @dR (tw @Hp (tw @dP (tw @pB (tw @wI (tw @Qh (tw @hlen @qH)))))))))))) ?_;(repeat(refine Pn.mk ?_;intro N hN))))
  refine bD ?_ ?_ ?_ (by(try dsimp only);exact⟨bt,fun x hx hi=>by
   have h2:=aF x hx hi
   have h3:(x=i)=False:=eq_false fun e=>hi (by simp[e])
   simp only[go_sem, ↓reduceIte,Nat.reduceEqDiff,Nat.reduceAdd,Nat.reduceSub,Nat.reduceLeDiff,reduceCtorEq,h2,h3]⟩)
  all_goals simp only[go_sem, ↓reduceIte,Nat.reduceEqDiff,Nat.reduceAdd,Nat.reduceSub,Nat.reduceLeDiff,reduceCtorEq,a5,a1,ag0,a0,Qh,dP]
 ·have gm:j=l.length:=ab
  subst gm
  (try((repeat(revert hN;revert N;apply Pn.out));refine wk (tw @a5 (tw @a1 (tw @ag0 (tw @a0 @hj)))) ?_;(repeat(refine Pn.mk ?_;intro N hN))))
  have k7:mi k l l.length=Kv k l.length:=by simp[mi]
  rw[k7]at ag0
  exact gn (.inl rfl) (vs:=[.int .i64 (k+3*l.length)]) (sd (tw @a5 (tw @a1 (tw @ag0 @a0)))) ⟨rfl,⟨bt,fun x hx hi=>aF x hx hi⟩,ag0⟩
theorem Am (i:Id) (l:List fe) (k:Int) (h0:0<=k) (h1:k+2*l.length<=4611686018427387904) (σ:ax) (hv:i.cq<σ.next) (hg:σ.get i=some ⟨true,2,l.map bd⟩):
  Call Tryz.prog 79 [.own i 0 l.length,.int .i64 k] σ (fun r σ'=>r=.int .i64 (k+2*l.length)/\m8 σ [i] σ'.get σ'.next):=by
 refine eX dK rfl fun hl=>?_
 clear hl
 obtain⟨nn,hn⟩:∃nn,l.length=nn:=⟨_,rfl⟩
 rw[hn]at h1 ⊢
 (try((repeat(revert hN;revert N;apply Pn.out));refine wk @Nat.zero_add ?_;(repeat(refine Pn.mk ?_;intro N hN))))
 refine aP (fun n env st=>∃j:Nat,n=(nn)-j/\j<=(nn)/\env 5=.int .i64 (j:Int)/\env 1=.int .i64 (k+2*j)/\(m8 σ [i] st.get st.next/\∃l':List fe,l'.length=nn/\st.get i=some ⟨true,2,l'.map bd⟩)) (nn) ⟨0,ab,ab,sl (tw @Int.add_zero (tw @Int.natCast_zero @Int.mul_zero)),sl (tw @Int.add_zero (tw @Int.natCast_zero @Int.mul_zero)),by(try dsimp only);exact⟨⟨bt,fun x _ _=>rfl⟩,l,hn,hg⟩⟩ ?_
 rintro n_a env_a st_a ⟨j,rfl,ale,a5,a1,j0⟩ dm
 have a0:=dm 0 (by kernel_rfl)
 simp only[go_sem, ↓reduceIte,Nat.reduceEqDiff,Nat.reduceAdd,Nat.reduceSub,Nat.reduceLeDiff,reduceCtorEq,Int.add_zero,Int.natCast_zero,Int.mul_zero]at a0
 clear dm
 obtain⟨⟨an,aF⟩,l',al,ag⟩:=j0
 by_cases hj:(j:Int)<(nn:Int)
 ·have bD:∀{e:Env} {gg:Rows} {nx:Nat},(e 5=.int .i64 (IntKind.i64.wrap ((j:Int)+1)))->(e 1=.int .i64 (k+2*(j+1)))->(m8 σ [i] gg nx/\∃l':List fe,l'.length=nn/\gg i=some ⟨true,2,l'.map bd⟩)->∃m0,m0<(nn)-j/\∃j:Nat,m0=(nn)-j/\j<=(nn)/\e 5=.int .i64 (j:Int)/\e 1=.int .i64 (k+2*j)/\(m8 σ [i] gg nx/\∃l':List fe,l'.length=nn/\gg i=some ⟨true,2,l'.map bd⟩):=fun x1 x2 x3=>⟨_,ab,j+1,rfl,ab,(by rw[x1,ay ab]),x2,x3⟩
  have gm:j<l'.length:=ab
  have dR:(l'.map bd)[j]? =some [.str l'[j].aB,.int .i64 l'[j].dQ]:=by simp[gm,bd]
  have hlen:(l'.map bd).length=nn:=by rw[List.length_map,al]
  have Hp:∀c:List AV,((l'.map bd).set j c)[j]? =some c:=fun c=>by rw[List.getElem?_set_self (by rw[List.length_map];exact gm)]
  have ht:=ur (k+2*(j:Int)) ab ab
  have pB:IntKind.i64.wrap (k+2*(j:Int)+1)=k+2*(j:Int)+1:=aT ab
  have wI:IntKind.i64.wrap (k+2*(j:Int)+1+1)=k+2*((j:Int)+1):=by rw[aT ab];omega
  generalize nM (k+2*(j:Int))=mt at ht
  have dP:(l'.map bd).set j [.str mt,.int .i64 (k+2*(j:Int)+1)]=(l'.set j ⟨mt,k+2*(j:Int)+1⟩).map bd:=by rw[List.map_set];rfl
  (repeat(first|((repeat(revert hN;revert N;apply Pn.out));refine wk (tw @a5 (tw @a1 (tw @a0 (tw @hj (tw @ag (tw @dR (tw @Hp (tw @dP (tw @pB (tw @wI (tw @hlen @qH))))))))))) ?_;(repeat(refine Pn.mk ?_;intro N hN)))|((try apply Or.inl);refine⟨_,ae.x (ht) (sd (tw @a5 (tw @a1 (tw @a0 (tw @hj (tw @ag (tw @dR (tw @Hp (tw @dP (tw @pB (tw @wI (tw @hlen @qH)))))))))))),?_⟩;refine hN _ _ ?_;clear hN N)))
  refine bD ?_ ?_ (by(try dsimp only);exact⟨⟨bt,fun x hx hi=>by
   have h2:=aF x hx hi
   have h3:(x=i)=False:=eq_false fun e=>hi (by simp[e])
   simp only[go_sem, ↓reduceIte,Nat.reduceEqDiff,Nat.reduceAdd,Nat.reduceSub,Nat.reduceLeDiff,reduceCtorEq,h2,h3]⟩,l'.set j ⟨mt,k+2*(j:Int)+1⟩,by simp[al],sl @Nat.zero_add⟩)
  all_goals simp only[go_sem, ↓reduceIte,Nat.reduceEqDiff,Nat.reduceAdd,Nat.reduceSub,Nat.reduceLeDiff,reduceCtorEq,a5,a1,a0,wI,dP]
 ·have gm:j=nn:=ab
  subst gm
  (try((repeat(revert hN;revert N;apply Pn.out));refine wk (tw @a5 (tw @a1 (tw @a0 @hj))) ?_;(repeat(refine Pn.mk ?_;intro N hN))))
  exact gn (.inl rfl) (vs:=[.int .i64 (k+2*j)]) (sd (tw @a5 (tw @a1 @a0))) ⟨rfl,⟨bt,fun x hx hi=>aF x hx hi⟩⟩
theorem fV.flat {α:Type} {e:α->List AV} {z:Nat} {g:Rows} {a:AV} {xs:List α} {ids:List Id} (h:fV (jE e) z g a xs ids):∃o,a=.own o 0 xs.length/\g o=some ⟨true,z,xs.map e⟩/\ids=[o]:=by
 obtain⟨o,rows,is,h1,h2,h3,rfl⟩:=h
 have:∀{rows:List (List AV)} {xs:List α} {is:List Id},dw (jE e) g rows xs is->rows=xs.map e/\is=[]:=fun h=>by
  induction h with
  |nil=>exact⟨rfl,rfl⟩
  |cons h1 _ ih=>obtain⟨rfl,rfl⟩:=h1;obtain⟨rfl,rfl⟩:=ih;exact⟨rfl,rfl⟩
 obtain⟨rfl,rfl⟩:=this h3
 exact⟨o,h1,h2,rfl⟩
def fY (t:eJ):Nat:=1+t.bp.length
theorem An (a:AV) (l:List eJ) (ids:List Id) (k:Int) (h0:0<=k) (OA:l.length<=1048576) (h1:k+(l.map fY).sum<=4611686018427387904) (σ:ax) (hv:∀i∈ids,i.cq<σ.next) (kQ:ids.Nodup) (hg:fV nq 2 σ.get a l ids):
  Call Tryz.prog 80 [a,.int .i64 k] σ (fun r σ'=>r=.int .i64 (k+(l.map fY).sum)/\m8 σ ids σ'.get σ'.next):=by
 obtain⟨o,rows,is,rfl,ho,hR,rfl⟩:=hg
 refine eX dK rfl fun hl=>?_
 clear hl
 have sJ:=hv o (by simp)
 have EZ:=gE fY l
 (try((repeat(revert hN;revert N;apply Pn.out));refine wk @Nat.zero_add ?_;(repeat(refine Pn.mk ?_;intro N hN))))
 refine aP (fun n env st=>∃j:Nat,n=(l.length)-j/\j<=(l.length)/\env 5=.int .i64 (j:Int)/\env 1=.int .i64 (k+eW fY l j)/\(m8 σ (o::is) st.get st.next/\∃pre rest ir,st.get o=some ⟨true,2,pre++rest⟩/\pre.length=j/\dw nq st.get rest (l.drop j) ir/\(o::ir).Nodup/\∀i∈ir,i∈is)) (l.length) ⟨0,ab,ab,sl (tw @Int.add_zero (tw @Int.natCast_zero @EZ)),sl (tw @Int.add_zero (tw @Int.natCast_zero @EZ)),by(try dsimp only);exact⟨⟨bt,fun x _ _=>rfl⟩,[],rows,is,ho,rfl,hR,kQ,fun _ h=>h⟩⟩ ?_
 rintro n_a env_a st_a ⟨j,rfl,ale,a5,a1,j0⟩ dm
 have a0:=dm 0 (by kernel_rfl)
 simp only[go_sem, ↓reduceIte,Nat.reduceEqDiff,Nat.reduceAdd,Nat.reduceSub,Nat.reduceLeDiff,reduceCtorEq,Int.add_zero,Int.natCast_zero,EZ]at a0
 clear dm
 obtain⟨⟨an,aF⟩,pre,rest,ir,ag,apl,aR,aN,aS⟩:=j0
 by_cases hj:(j:Int)<(l.length:Int)
 ·have bD:∀{e:Env} {gg:Rows} {nx:Nat},(e 5=.int .i64 (IntKind.i64.wrap ((j:Int)+1)))->(e 1=.int .i64 (k+eW fY l (j+1)))->(m8 σ (o::is) gg nx/\∃pre rest ir,gg o=some ⟨true,2,pre++rest⟩/\pre.length=(j+1)/\dw nq gg rest (l.drop (j+1)) ir/\(o::ir).Nodup/\∀i∈ir,i∈is)->∃m0,m0<(l.length)-j/\∃j:Nat,m0=(l.length)-j/\j<=(l.length)/\e 5=.int .i64 (j:Int)/\e 1=.int .i64 (k+eW fY l j)/\(m8 σ (o::is) gg nx/\∃pre rest ir,gg o=some ⟨true,2,pre++rest⟩/\pre.length=j/\dw nq gg rest (l.drop j) ir/\(o::ir).Nodup/\∀i∈ir,i∈is):=fun x1 x2 x3=>⟨_,ab,j+1,rfl,ab,(by rw[x1,ay ab]),x2,x3⟩
  have gm:j<l.length:=ab
  have HE:=mu fY gm
  have hle:=jC fY l (j+1)
  obtain⟨t,htj⟩:∃t,l[j]=t:=⟨_,rfl⟩
  rw[List.drop_eq_getElem_cons gm,htj]at aR
  rw[htj]at HE
  cases aR with
  | @cons cs _ ic rs _ i2 hT PD=>
  obtain⟨i,rfl,hi,rfl⟩:=hT
  rw[List.singleton_append]at aN aS
  obtain⟨n1,n2⟩:=List.nodup_cons.1 aN
  obtain⟨n3,n4⟩:=List.nodup_cons.1 n2
  have Lx:(o=i)=False:=eq_false fun e=>n1 (by simp[e])
  have Lu:(i=o)=False:=eq_false fun e=>n1 (by simp[e])
  have hiv:i.cq<σ.next:=hv i (by simp[aS i (by simp)])
  have P0:fY t=1+t.bp.length:=rfl
  have ht:=ur (k+(eW fY l j:Nat)) ab ab
  have pB:IntKind.i64.wrap (k+(eW fY l j:Nat)+1)=k+(eW fY l j:Nat)+1:=aT ab
  generalize nM (k+(eW fY l j:Nat))=mt at ht
  have dR:(pre++[.str t.aB,.own i 0 t.bp.length]::rs)[j]? =some [.str t.aB,.own i 0 t.bp.length]:=by subst apl;simp
  have dP:(pre++[.str t.aB,.own i 0 t.bp.length]::rs).set j [.str mt,.own i 0 t.bp.length]=pre++[.str mt,.own i 0 t.bp.length]::rs:=by subst apl;simp
  have Lr:(pre++[.str mt,.own i 0 t.bp.length]::rs)[j]? =some [.str mt,.own i 0 t.bp.length]:=by subst apl;simp
  (repeat(first|((repeat(revert hN;revert N;apply Pn.out));refine wk (tw @a5 (tw @a1 (tw @a0 (tw @hj (tw @ag (tw @dR (tw @dP (tw @Lr (tw @pB (tw @Lx (tw @Lu @hi))))))))))) ?_;(repeat(refine Pn.mk ?_;intro N hN)))|((try apply Or.inl);refine⟨_,ae.x (ht) (sd (tw @a5 (tw @a1 (tw @a0 (tw @hj (tw @ag (tw @dR (tw @dP (tw @Lr (tw @pB (tw @Lx (tw @Lu @hi)))))))))))),?_⟩;refine hN _ _ ?_;clear hN N)))
  refine .inr (aO _ _ _ _ _ (fun r σ1 hq=>?_) (Cl i t.bp (k+(eW fY l j:Nat)+1) ab ab _ bt (sd (tw @Lx (tw @Lu @hi)))))
  obtain⟨g1,x1⟩:=σ1
  obtain⟨rfl,DD,ot⟩:=hq
  (try dsimp only at DD ot)
  refine hN _ _ ?_
  clear hN N
  have Ox:k+(eW fY l j:Nat)+1+t.bp.length=k+(eW fY l (j+1):Nat):=ab
  (try((repeat(revert hN;revert N;apply Pn.out));refine wk (tw @a5 (tw @a1 (tw @a0 @Ox))) ?_;(repeat(refine Pn.mk ?_;intro N hN))))
  have gk:∀x:Id,x.cq<σ.next->x≠o->x≠i->g1 x=st_a.get x:=fun x hx h3 h4=>by
   have h2:=ot x bt (by simp[h4])
   have h5:=eq_false h3
   simp only[go_sem, ↓reduceIte,Nat.reduceEqDiff,Nat.reduceAdd,Nat.reduceSub,Nat.reduceLeDiff,reduceCtorEq,h5]at h2
   exact h2
  have go:=ot o bt (by simp only[List.mem_singleton];exact fun e=>n1 (by simp[e]))
  simp only[go_sem, ↓reduceIte,Nat.reduceEqDiff,Nat.reduceAdd,Nat.reduceSub,Nat.reduceLeDiff,reduceCtorEq]at go
  refine bD ?_ ?_ (by(try dsimp only);exact⟨⟨bt,fun x hx hi=>by
   have h3:x≠o:=fun e=>hi (by simp[e])
   have h4:x≠i:=fun e=>hi (by simp[e,aS i (by simp)])
   rw[gk x hx h3 h4]
   exact aF x hx hi⟩,pre++[[.str mt,.own i 0 t.bp.length]],rs,i2,by rw[go];simp,by simp[apl],PD.frame pM (fun x hx=>gk x (hv x (by simp[aS x (by simp[hx])])) (fun e=>n1 (by simp[<-e,hx])) (fun e=>n3 (by rw[<-e];exact hx))),List.nodup_cons.2 ⟨fun h=>n1 (by simp[h]),n4⟩,fun x hx=>aS x (by simp[hx])⟩)
  all_goals simp only[go_sem, ↓reduceIte,Nat.reduceEqDiff,Nat.reduceAdd,Nat.reduceSub,Nat.reduceLeDiff,reduceCtorEq,a5,a1,a0,Ox]
 ·have gm:j=l.length:=ab
  subst gm
  have dk:=qL fY l
  rw[dk]at a1
  (try((repeat(revert hN;revert N;apply Pn.out));refine wk (tw @a5 (tw @a1 (tw @a0 @hj))) ?_;(repeat(refine Pn.mk ?_;intro N hN))))
  exact gn (.inl rfl) (vs:=[.int .i64 (k+(l.map fY).sum)]) (sd (tw @a5 (tw @a1 @a0))) ⟨rfl,⟨bt,fun x hx hi=>aF x hx hi⟩⟩
theorem wQ (v:AV) (p:dj) (ids:List Id) (k:Int) (h0:0<=k) (h1:k+3*p.ah.length<=4611686018427387904) (σ:ax) (hv:∀i∈ids,i.cq<σ.next) (hg:xb σ.get v p ids):
  Call Tryz.prog 17 [v,.int .i64 k] σ (fun r σ'=>r=.int .i64 (k+3*p.ah.length)/\m8 σ ids σ'.get σ'.next):=by
 obtain⟨c,rfl,hc⟩:=hg
 obtain⟨o,rfl,ho,rfl⟩:=hc.flat
 refine eX dK rfl fun hl=>?_
 clear hl
 have sJ:=eP (hv o (by simp))
 have J2:=hv o (by simp)
 (try((repeat(revert hN;revert N;apply Pn.out));refine wk @Nat.zero_add ?_;(repeat(refine Pn.mk ?_;intro N hN))))
 refine .inr (aO _ _ _ _ _ (fun r σ1 hq=>?_) (yh o p.ah k h0 h1 _ bt (sd (tw @sJ @ho))))
 obtain⟨g1,x1⟩:=σ1
 obtain⟨rfl,⟨DD,ot⟩,_⟩:=hq
 (try dsimp only at DD ot)
 refine hN _ _ ?_
 clear hN N
 (try((repeat(revert hN;revert N;apply Pn.out));refine wk @Nat.zero_add ?_;(repeat(refine Pn.mk ?_;intro N hN))))
 exact gn (.inl rfl) (vs:=[.int .i64 (k+3*p.ah.length)]) (sd @Nat.zero_add) ⟨rfl,⟨bt,fun x hx hi=>by
  have h2:=ot x bt hi
  have h3:=eP hx
  simp only[go_sem, ↓reduceIte,Nat.reduceEqDiff,Nat.reduceAdd,Nat.reduceSub,Nat.reduceLeDiff,reduceCtorEq,h3]at h2
  exact h2⟩⟩
def yf (s:cl):Nat:=2*s.aE.aw.length+(s.aE.ah.map fY).sum+3*s.bZ.ah.length
theorem Fs (a b:AV) (p:ar) (i1 i2:List Id) (k:Int) (h0:0<=k) (OA:p.ah.length<=1048576) (h1:k+2*p.aw.length+(p.ah.map fY).sum<=4611686018427387904) (σ:ax) (hv:∀i∈i1++i2,i.cq<σ.next) (kQ:(i1++i2).Nodup)
  (hA:fV (jE bd) 2 σ.get a p.aw i1) (hB:fV nq 2 σ.get b p.ah i2):
  Call Tryz.prog 47 [.agg [a,b],.int .i64 k] σ (fun r σ'=>r=.int .i64 (k+2*p.aw.length+(p.ah.map fY).sum)/\m8 σ (i1++i2) σ'.get σ'.next):=by
 obtain⟨_,n2,n3⟩:=List.nodup_append.1 kQ
 obtain⟨o,rfl,ho,rfl⟩:=hA.flat
 obtain⟨ob,rfl⟩:=hB.jS
 refine eX dK rfl fun hl=>?_
 clear hl
 have J2:=hv o (by simp)
 have sJ:=eP J2
 (try((repeat(revert hN;revert N;apply Pn.out));refine wk @Nat.zero_add ?_;(repeat(refine Pn.mk ?_;intro N hN))))
 refine .inr (aO _ _ _ _ _ (fun r σ1 hq=>?_) (Am o p.aw k h0 ab _ bt (sd (tw @sJ @ho))))
 obtain⟨g1,x1⟩:=σ1
 obtain⟨rfl,DD,ot⟩:=hq
 (try dsimp only at DD ot)
 refine hN _ _ ?_
 clear hN N
 have k1:=ot ⟨47000000,σ.next⟩ bt (by simp only[List.mem_singleton];intro e;rw[<-e]at J2;(try dsimp only at J2);omega)
 simp only[go_sem, ↓reduceIte,Nat.reduceEqDiff,Nat.reduceAdd,Nat.reduceSub,Nat.reduceLeDiff,reduceCtorEq]at k1
 (try((repeat(revert hN;revert N;apply Pn.out));refine wk @k1 ?_;(repeat(refine Pn.mk ?_;intro N hN))))
 have hf:∀x:Id,x.cq<σ.next->x≠o->g1 x=σ.get x:=fun x hx ho=>by
  have h2:=ot x bt (by simp[ho])
  have h3:=eP hx
  simp only[go_sem, ↓reduceIte,Nat.reduceEqDiff,Nat.reduceAdd,Nat.reduceSub,Nat.reduceLeDiff,reduceCtorEq,h3]at h2
  exact h2
 refine .inr (aO _ _ _ _ _ (fun r σ2 hq=>?_) (An _ p.ah i2 (k+2*p.aw.length) ab OA h1 _ (fun i hi=>by have:=hv i (by simp[hi]);(try dsimp only);omega) n2 (hB.frame pM fun i hi=>hf i (hv i (by simp[hi])) fun e=>n3 o (by simp) i hi e.symm)))
 obtain⟨g2,x2⟩:=σ2
 obtain⟨rfl,M4,AY⟩:=hq
 (try dsimp only at M4 AY)
 refine hN _ _ ?_
 clear hN N
 (try((repeat(revert hN;revert N;apply Pn.out));refine wk @Nat.zero_add ?_;(repeat(refine Pn.mk ?_;intro N hN))))
 exact gn (.inl rfl) (vs:=[.int .i64 (k+2*p.aw.length+(p.ah.map fY).sum)]) (sd @Nat.zero_add) ⟨rfl,⟨bt,fun x hx hi=>(AY x bt fun h=>hi (by simp[h])).trans (hf x hx fun e=>hi (by simp[e]))⟩⟩
theorem Ft (v:AV) (p:cl) (ids:List Id) (k:Int) (h0:0<=k) (OA:p.aE.ah.length<=1048576) (h1:k+yf p<=4611686018427387904) (σ:ax) (hv:∀i∈ids,i.cq<σ.next) (kQ:ids.Nodup) (hg:y5 σ.get v p ids):
  Call Tryz.prog 16 [v,.int .i64 k] σ (fun r σ'=>r=.int .i64 (k+yf p)/\m8 σ ids σ'.get σ'.next):=by
 obtain⟨a,b,c,i1,i2,i3,rfl,hA,hB,hC,rfl⟩:=hg.ex
 rw[<-List.append_assoc]at kQ
 obtain⟨n1,_,n3⟩:=List.nodup_append.1 kQ
 obtain⟨oa,rfl⟩:=hA.jS
 obtain⟨ob,rfl⟩:=hB.jS
 obtain⟨oc,rfl⟩:=hC.jS
 have hm:(yf p:Int)=2*p.aE.aw.length+(p.aE.ah.map fY).sum+3*p.bZ.ah.length:=by simp[yf]
 refine eX dK rfl fun hl=>?_
 clear hl
 have RQ:∀x∈i1++(i2++i3),bY σ.get ⟨16000000,σ.next⟩ ⟨true,4,[[.own oa 0 p.aE.aw.length,.own ob 0 p.aE.ah.length,.own oc 0 p.bZ.ah.length,.int .i64 p.aH]]⟩ x=σ.get x:=fun x hx=>by
  have:=eP (hv x hx)
  simp only[go_sem, ↓reduceIte,Nat.reduceEqDiff,Nat.reduceAdd,Nat.reduceSub,Nat.reduceLeDiff,reduceCtorEq,this]
 (try((repeat(revert hN;revert N;apply Pn.out));refine wk @Nat.zero_add ?_;(repeat(refine Pn.mk ?_;intro N hN))))
 refine .inr (aO _ _ _ _ _ (fun r σ1 hq=>?_) (Fs _ _ p.aE i1 i2 k h0 OA ab _ (fun i hi=>by have:=hv i (by rcases List.mem_append.1 hi with h|h<;>simp[h]);(try dsimp only);omega) n1 (hA.frame zH fun i hi=>RQ i (by simp[hi])) (hB.frame pM fun i hi=>RQ i (by simp[hi]))))
 obtain⟨g1,x1⟩:=σ1
 obtain⟨rfl,DD,ot⟩:=hq
 (try dsimp only at DD ot)
 refine hN _ _ ?_
 clear hN N
 have k1:=ot ⟨16000000,σ.next⟩ bt (fun h=>by
  have:=hv ⟨16000000,σ.next⟩ (by rcases List.mem_append.1 h with h|h<;>simp[h])
  (try dsimp only at this);omega)
 simp only[go_sem, ↓reduceIte,Nat.reduceEqDiff,Nat.reduceAdd,Nat.reduceSub,Nat.reduceLeDiff,reduceCtorEq]at k1
 (try((repeat(revert hN;revert N;apply Pn.out));refine wk @k1 ?_;(repeat(refine Pn.mk ?_;intro N hN))))
 refine .inr (aO _ _ _ _ _ (fun r σ2 hq=>?_) (wQ _ p.bZ i3 (k+2*p.aE.aw.length+(p.aE.ah.map fY).sum) ab ab _ (fun i hi=>by have:=hv i (by simp[hi]);(try dsimp only);omega) ⟨_,rfl,hC.frame wi fun i hi=>?_⟩))
 rotate_left
 ·exact(ot i (by have:=hv i (by simp[hi]);(try dsimp only);omega) fun h=>n3 i h i hi rfl).trans (RQ i (by simp[hi]))
 obtain⟨g2,x2⟩:=σ2
 obtain⟨rfl,M4,AY⟩:=hq
 (try dsimp only at M4 AY)
 refine hN _ _ ?_
 clear hN N
 (try((repeat(revert hN;revert N;apply Pn.out));refine wk @Nat.zero_add ?_;(repeat(refine Pn.mk ?_;intro N hN))))
 exact gn (.inl rfl) (vs:=[.int .i64 (k+2*p.aE.aw.length+(p.aE.ah.map fY).sum+3*p.bZ.ah.length)]) (sd @Nat.zero_add) ⟨by rw[hm];exact congrArg (AV.int .i64) ab,⟨bt,fun x hx hi=>by
  have h2:=AY x bt fun h=>hi (by simp[h])
  have h3:=ot x bt fun h=>hi (by rcases List.mem_append.1 h with h|h<;>simp[h])
  have h4:=eP hx
  simp only[go_sem, ↓reduceIte,Nat.reduceEqDiff,Nat.reduceAdd,Nat.reduceSub,Nat.reduceLeDiff,reduceCtorEq,h4]at h3
  exact h2.trans h3⟩⟩
end Go.Proofs.YtihgaadadaekmaaGreatDoor.V

namespace Go.Proofs.YtihgaadadaekmaaGreatDoor.V
open Go.RowKit
def AV.clean:AV->Bool
 | .int .. | .bool _| .str _| .bK| .gI| .jc| .jl| .own .. | .ptr .. | .map .. | .rq _=>true
 | .sl l=>l.isEmpty
 |_=>false
def AV.rr:AV->Bool
 | .agg cs=>cs.all AV.clean
 | .iN cs=>cs.all fun a=>match a with
  | .agg cs=>cs.all AV.clean
  |a=>a.clean
 |a=>a.clean
def w7 (ids:List Id) (g g':Rows):Rows:=fun id=>if id∈ids then g' id else g id
theorem uT {ids:List Id} {g g':Rows} {id:Id} (h:id∈ids):w7 ids g g' id=g' id:=if_pos h
theorem rU {ids:List Id} {g g':Rows} {id:Id} (h:id∉ids):w7 ids g g' id=g id:=if_neg h
section
variable {P:Program} {w w':World} {D D' D1 D2:Nat->Prop} {ι ι1 ι2:Names}
theorem jv {a:AV} {v:Value} (hp:a.clean=true) (h:cG P w D1 ι1 a v):cG P w D2 ι1 a v:=by
 cases h with
 |eK a v h=>
  cases h with
  |int=>exact .eK _ _ (.int _ _)
  |bool=>exact .eK _ _ (.bool _)
  |str=>exact .eK _ _ (.str _)
  |bK=>exact .eK _ _ .bK
  |gI=>exact .eK _ _ .gI
  |jc=>exact .eK _ _ .jc
  |jl=>exact .eK _ _ .jl
  |A4 a c h=>exact .eK _ _ (.A4 a c h)
  |sl rows b o n c sz vs h1 h2 h3=>
   have:rows=[]:=by simpa[AV.clean]using hp
   subst this
   simp only[List.length_nil]at h1
   subst h1
   exact .eK _ _ (.A4 _ _ h3)
  |cJ=>simp[AV.clean]at hp
  |agg=>simp[AV.clean]at hp
  |fn=>simp[AV.clean]at hp
 |own id off len o cap B h1 h2 h3 h4 h5 h6=>exact .own id off len o cap B h1 h2 h3 h4 h5 h6
 |map id m B h1 h2=>exact .map id m B h1 h2
 |rq id c B h1 h2=>exact .rq id c B h1 h2
 |ptr id i off B h1 h2=>exact .ptr id i off B h1 h2
 |agg=>simp[AV.clean]at hp
 |iN=>simp[AV.clean]at hp
 |fn=>simp[AV.clean]at hp
 |u7=>simp[AV.clean]at hp
theorem lk {cs:List AV} {v:Value} (hc:cs.all AV.clean=true) (h:cG P w D1 ι1 (.agg cs) v):cG P w D2 ι1 (.agg cs) v:=by
 obtain⟨vs,f,rfl,h1,h2,h3,h4⟩:=iw h
 rw[List.all_eq_true]at hc
 exact .agg cs vs f h1 h2 h3 fun j a ha=>jv (hc a (List.mem_of_getElem? ha)) (h4 j a ha)
theorem Cy {a:AV} {v:Value} (hp:a.rr=true) (h:cG P w D1 ι1 a v):cG P w D2 ι1 a v:=by
 cases a with
 |agg cs=>exact lk hp h
 |iN cs=>
  obtain⟨vs,f,rfl,h1,h3,h4⟩:=s8 h
  simp only[AV.rr,List.all_eq_true]at hp
  refine .iN cs vs f h1 h3 fun j a ha=>?_
  have:=hp a (List.mem_of_getElem? ha)
  split at this
  ·exact lk this (h4 j _ ha)
  ·exact jv this (h4 j _ ha)
 |_=>exact jv hp h
theorem Cw {ag:Bool} {n:Nat} {cs:List AV} {x:AV} {v:Value} (hc:∀a∈cs,a.clean=true) (hp:part ag n cs=some x) (hr:cG P w D1 ι1 x v):cG P w D2 ι1 x v:=by
 unfold part at hp
 split at hp
 ·split at hp
  ·simp only[Option.some.injEq]at hp;subst hp
   exact lk (List.all_eq_true.2 fun a ha=>hc a (List.mem_of_mem_take ha)) hr
  ·cases hp
 ·exact jv (hc x (List.mem_of_mem_head? hp)) hr
theorem ik.clean {B:rY} {r:Row} (R:ik P w D1 ι1 B r) (h:∀cs∈r.rows,∀a∈cs,a.clean=true):ik P w D2 ι1 B r:=
 ⟨R.sz,R.flat,fun hk=>⟨R.sz,(R.row hk).Ep,(R.row hk).fits,(R.row hk).len,R.flat,fun i j cs a hi hj=>by
  obtain⟨v,q1,q2⟩:=(R.row hk).at_ i j cs a hi hj
  exact⟨v,q1,jv (h cs (List.mem_of_getElem? hi) a (List.mem_of_getElem? hj)) q2⟩⟩,fun m hm=>by
  obtain⟨h1,es,c,h2,h3,h5,h4⟩:=R.map m hm
  refine⟨h1,es,c,h2,h3,h5,fun i cs hi=>?_⟩
  obtain⟨e,kv,vv,q1,q2,q3,q4,q5⟩:=h4 i cs hi
  have hc:=h cs (List.mem_of_getElem? hi)
  exact⟨e,kv,vv,q1,q2,q3,Cw hc q2 q4,jv (hc vv (List.mem_of_getElem? q3)) q5⟩,fun c hc=>by
  obtain⟨h1,buf,s,q,h2,h3,h4⟩:=R.chan c hc
  refine⟨h1,buf,s,q,h2,h3,fun i cs hi=>?_⟩
  obtain⟨a,u,rfl,q2,q3⟩:=h4 i cs hi
  exact⟨a,u,rfl,q2,jv (h [a] (List.mem_of_getElem? hi) a (by simp)) q3⟩⟩
def Handed (ids:List Id) (g:Rows):Prop:=∀id∈ids,∃r,g id=some r/\r.w=true/\∀cs∈r.rows,∀a∈cs,a.clean=true
theorem F6 {f:Nat} {args eT:List AV} {g:Rows} {n:Nat} {K:AV->ax->Prop} (hv:cm (dE g) 6 args=some eT)
  (h:Sound P f eT ⟨fun _=>none,n⟩ fun r σ'=>∃ids,r.rr=true/\Handed ids σ'.get/\K r ⟨w7 ids g σ'.get,σ'.next⟩):Sound P f args ⟨g,n⟩ K:=by
 intro hs D ι w vs S U A
 let E:Nat->Prop:=fun b=>D b∨∃id r B,g id=some r/\ι id=some B/\b=B.b
 have lt:∀id r B,g id=some r->ι id=some B->B.b<w.heap.size:=fun id r B h1 h2=>by
  obtain⟨B',dx,R,_⟩:=S.row id r h1
  rw[h2]at dx;injection dx with dx;subst dx
  exact R.lt
 have S0:ga P w.heap.size E ι (fun _=>none) w:=⟨Nat.le_refl _,fun b hb=>by
  rcases hb with hb|⟨id,r,B,h1,h2,rfl⟩
  ·exact S.dead b hb
  ·exact lt id r B h1 h2,fun id r h=>(by cases h),fun id kn r r' B B' h=>(by cases h)⟩
 obtain⟨l1,l2⟩:=fW hv
 have A':e9 P w E ι eT vs:=⟨by rw[A.1,l1],fun j a hj=>by
  obtain⟨a0,kK,hz⟩:=l2 j a hj
  obtain⟨u,hu,hr⟩:=A.2 j a0 kK
  refine⟨u,hu,(qh (D2:=E) (ι2:=ι) (fun b h=>.inl h) (fun id row hg hw=>?_) 6 a0 u a hr hz).1⟩
  unfold dE at hg
  simp only[Option.map_eq_some_iff]at hg
  obtain⟨r,m7,rfl⟩:=hg
  obtain⟨B,hB,R,_,_⟩:=S.row id r m7
  exact⟨B,hB,R.flag true,.inr ⟨id,r,B,m7,hB,rfl⟩⟩⟩
 refine(h w.heap.size E ι w vs S0 U A').mono ?_
 rintro e w' ⟨r0,g',n',D2,ι1,u,rfl,⟨ids,lu,hid,hK⟩,T,S1,U1,hn,hR⟩
 have hb:∀b,b<w.heap.size->w'.heap[b]? =w.heap[b]? :=T.below.block
 have hz:=T.below.size
 have frame:∀{a v},cG P w D ι a v->cG P w' D ι1 a v:=fun h=>h.frame (fun b hd=>hb b (S.dead b hd)) (fun _ h=>h) T.names
 refine⟨r0,_,n',D,ι1,u,rfl,hK,⟨T.below.mono S.lo,fun b hd=>hb b (S.dead b hd),fun _ h=>h,T.names,fun _ h=>.inl h⟩,⟨Nat.le_trans S.lo hz,fun b hd=>Nat.lt_of_lt_of_le (S.dead b hd) hz,fun id r hr=>?_,fun Qo id2 r1 r2 B1 B2 h1 h2 hw yQ oK Lm=>?_⟩,U1,hn,Cy lu hR⟩
 ·by_cases hi:id∈ids
  ·rw[uT hi]at hr
   obtain⟨r',m7,hw,hcr⟩:=hid id hi
   rw[hr]at m7;injection m7 with m7;subst m7
   obtain⟨B,hB,R,k1,k2⟩:=S1.row id r hr
   have jV:=k1 hw
   exact⟨B,hB,R.clean hcr,fun _=>Nat.le_trans S.lo jV,fun _ hd=>Nat.lt_irrefl _ (Nat.lt_of_lt_of_le (S.dead _ hd) jV)⟩
  ·rw[rU hi]at hr
   obtain⟨B,hB,R,k1,k2⟩:=S.row id r hr
   have Mz:=lt id r B hr hB
   exact⟨B,T.names _ _ hB,R.frame (hb _ Mz) fun a v h=>frame h,k1,k2⟩
 ·have new:∀{id r B},id∈ids->w7 ids g g' id=some r->ι1 id=some B->w.heap.size<=B.b/\g' id=some r/\r.w=true:=fun {id r B} hi hr hB=>by
   rw[uT hi]at hr
   obtain⟨r',m7,hw,_⟩:=hid id hi
   replace m7:g' id=some r':=m7
   rw[hr]at m7;injection m7 with m7;subst m7
   obtain⟨B',dx,_,k1,_⟩:=S1.row id r hr
   rw[hB]at dx;injection dx with dx;subst dx
   exact⟨k1 hw,hr,hw⟩
  have Ax:∀{id r B},id∉ids->w7 ids g g' id=some r->ι1 id=some B->B.b<w.heap.size/\g id=some r/\ι id=some B:=fun {id r B} hi hr hB=>by
   rw[rU hi]at hr
   obtain⟨B',dx,_⟩:=S.row id r hr
   have:=T.names _ _ dx
   rw[hB]at this;injection this with this;subst this
   exact⟨lt id r _ hr dx,hr,dx⟩
  by_cases i1:Qo∈ids
  ·obtain⟨a1,a2,a3⟩:=new i1 h1 yQ
   by_cases i2:id2∈ids
   ·obtain⟨b1,b2,b3⟩:=new i2 h2 oK
    exact S1.inj Qo id2 r1 r2 B1 B2 a2 b2 hw yQ oK Lm
   ·obtain⟨b1,_⟩:=Ax i2 h2 oK
    omega
  ·obtain⟨a1,a2,a3⟩:=Ax i1 h1 yQ
   by_cases i2:id2∈ids
   ·obtain⟨b1,_⟩:=new i2 h2 oK
    omega
   ·obtain⟨b1,b2,b3⟩:=Ax i2 h2 oK
    exact S.inj Qo id2 r1 r2 B1 B2 a2 b2 hw a3 b3 Lm
theorem Gt (hm:P.follows .mixedOrders=true) {f:Nat} {args eT:List AV} {σ:ax} {K:AV->ax->Prop} (hv:cm (dE σ.get) 6 args=some eT)
  (h:Call P f eT ⟨fun _=>none,σ.next⟩ fun r σ'=>∃ids,r.rr=true/\Handed ids σ'.get/\K r ⟨w7 ids σ.get σ'.get,σ'.next⟩):Call P f args σ K:=
 iy (F6 hv (gP hm h))
end
inductive o9:List AV->List AV->Prop
 |nil:o9 [] []
 |same (a) {l l'}:o9 l l'->o9 (a::l) (a::l')
 |ptr (cs rest) {l l'}:o9 l l'->o9 (.cJ (cs++rest)::l) (.cJ cs::l')
 |bK {l l'}:o9 l l'->o9 (.bK::l) (.sl []::l')
theorem KR {P:Program} {w:World} {D:Nat->Prop} {ι:Names} {cs rest:List AV} {v:Value} (h:cG P w D ι (.cJ (cs++rest)) v):cG P w D ι (.cJ cs) v:=by
 obtain⟨b,o,vs,rfl,h1,h2,h3,h4⟩:=kB h
 exact .eK _ _ (.cJ cs b o vs h1 (fun a ha=>h2 a (List.mem_append_left _ ha)) (fun j hj=>h3 j (by rw[List.length_append];omega)) fun j a ha=>h4 j a (by
  have:=(List.getElem?_eq_some_iff.1 ha).1
  rw[List.getElem?_append_left this];exact ha))
theorem KU {P:Program} {w:World} {D:Nat->Prop} {ι:Names} {v:Value} (h:cG P w D ι .bK v):cG P w D ι (.sl []) v:=by
 cases h with
 |eK _ _ h=>
  cases h with
  |bK=>exact .eK _ _ (.A4 none 0 (Nat.zero_le _))
theorem o9.len {l l':List AV} (h:o9 l l'):l'.length=l.length:=by induction h<;>simp_all
theorem o9.get {P:Program} {w:World} {D:Nat->Prop} {ι:Names} {l l':List AV} (h:o9 l l'):∀{j:Nat} {a':AV},l'[j]? =some a'->∃a,l[j]? =some a/\∀v,cG P w D ι a v->cG P w D ι a' v:=by
 induction h with
 |nil=>intro j a' hj;simp at hj
 |same a _ ih=>
  intro j a' hj
  cases j with
  |zero=>simp at hj;subst hj;exact⟨a,rfl,fun _ h=>h⟩
  |succ j=>exact ih (by simpa using hj)
 |ptr cs rest _ ih=>
  intro j a' hj
  cases j with
  |zero=>simp at hj;subst hj;exact⟨_,rfl,fun _ h=>KR h⟩
  |succ j=>exact ih (by simpa using hj)
 |bK _ ih=>
  intro j a' hj
  cases j with
  |zero=>simp at hj;subst hj;exact⟨_,rfl,fun _ h=>KU h⟩
  |succ j=>exact ih (by simpa using hj)
theorem Call.cut {P:Program} (hm:P.follows .mixedOrders=true) {f:Nat} {args eT:List AV} {σ:ax} {K:AV->ax->Prop} (hc:o9 args eT) (h:Call P f eT σ K):Call P f args σ K:=
 iy fun hs D ι w vs S U A=>gP hm h hs D ι w vs S U ⟨by rw[A.1,hc.len],fun j a' hj=>by
  obtain⟨a,ha,hr⟩:=hc.get (P:=P) (w:=w) (D:=D) (ι:=ι) hj
  obtain⟨u,hu,hv⟩:=A.2 j a ha
  exact⟨u,hu,hr u hv⟩⟩
theorem ae.cut {P:Program} (hm:P.follows .mixedOrders=true) {f:Nat} {args eT:List AV} {r:AV} (hc:o9 args eT) (h:ae P f eT r):ae P f args r:=fun n=>(h n).cut hm hc
end Go.Proofs.YtihgaadadaekmaaGreatDoor.V

namespace Go.Proofs.YtihgaadadaekmaaGreatDoor.V
open Go.RowKit
attribute [local irreducible] ea wpOps gS Call
attribute [local go_sem] aM fQ eM gi gh cE upd cu K.av cL AV.cells AV.cell rowOf rowsOf part ld rowAt bY ck dI eh ij bL da eA gp e8 du eo cY cX dV dW bR bm cQ bQ cT cR ej er ek cP bW cZ ei bP aQ cV cC ig bw cH bS aX dG bu dL AV.undef bF bH dY ef dU ec cF ez eF cw ev eu cU cW List.getD_cons_zero List.getD_cons_succ List.getD_nil List.all_cons List.all_nil Bool.and_true Bool.true_and Bool.and_self Bool.not_true Bool.not_false Option.map_some Option.map_none Option.bind_some Option.bind_none List.length_cons List.length_nil List.take_succ_cons List.take_zero List.take_nil List.drop_succ_cons List.drop_zero List.drop_nil List.head?_cons List.map_cons List.map_nil List.getElem?_cons_zero List.getElem?_cons_succ List.cons_append List.nil_append List.append_nil List.length_map List.set_cons_zero List.set_cons_succ eq_self Int.toNat_natCast Int.natCast_nonneg and_self true_and and_true decide_true decide_false Bool.false_eq_true Nat.zero_add Nat.add_zero List.contains_cons List.contains_nil Bool.or_false Bool.false_or beq_self_eq_true ne_eq not_true_eq_false not_false_eq_true Id.mk.injEq false_and and_false Nat.le_refl List.length_append beq_true beq_false Bool.not_eq_eq_eq_not or_false false_or dE ad aj aI bE cj aV bf aU bo cN bG
section
variable {P:Program} {α:Type} {e:α->List AV} {z:Nat} {g g':Rows} {v:AV} {L:List α} {ids:List Id}
def pa (e:α->List AV) (z:Nat) (g:Rows) (v:AV) (L:List α) (ids:List Id):Prop:=(L=[]/\v=.bK/\ids=[])∨∃o,v=.own o 0 L.length/\g o=some ⟨true,z,L.map e⟩/\ids=[o]/\0<L.length
def Nv (e:α->List AV) (L:List α):AV:=if L.length=0 then .bK else .sl (L.map e)
theorem pa.frame (h:pa e z g v L ids) (hf:∀i∈ids,g' i=g i):pa e z g' v L ids:=by
 rcases h with h|⟨o,h1,h2,rfl,hp⟩
 ·exact .inl h
 ·exact .inr ⟨o,h1,(hf o (by simp)).trans h2,rfl,hp⟩
def mH (e:α->List AV) (L:List α) (w:AV):Prop:=(w=.bK/\L=[])∨w=.sl (L.map e)
def RA (P:Program) (f:Nat) (args:List AV) (e:α->List AV) (z:Nat) (L:List α) (c:Int):Prop:=
 ∀n:Nat,Call P f args ⟨fun _=>none,n⟩ (fun r σ'=>∃v ids,r=.iN [v,.int .i64 c]/\pa e z σ'.get v L ids/\eO n σ'.next ids)
theorem Ee (hm:P.follows .mixedOrders=true) {f:Nat} {args:List AV} {σ:ax} {K:AV->ax->Prop} (h:Call P f args σ K):Call P f args σ (fun r σ'=>K r σ'/\σ.next<=σ'.next):=
 iy fun hs D ι w vs S U A=>(gP hm h hs D ι w vs S U A).mono (by
  rintro e w' ⟨r,g',n',D2,ι1,u,rfl,hK,T,S1,U1,hn,hR⟩
  exact⟨r,g',n',D2,ι1,u,rfl,⟨hK,hn⟩,T,S1,U1,hn,hR⟩)
theorem Ia:mH e L (Nv e L):=by
 unfold Nv
 split
 ·rename_i h;exact .inl ⟨rfl,List.eq_nil_of_length_eq_zero h⟩
 ·exact .inr rfl
end
theorem mH.cut {α:Type} {e:α->List AV} {L:List α} {w:AV} (h:mH e L w) {l l':List AV} (hl:o9 l l'):o9 (w::l) (.sl (L.map e)::l'):=by
 rcases h with⟨rfl,rfl⟩|rfl
 ·exact .bK hl
 ·exact .same _ hl
end Go.Proofs.YtihgaadadaekmaaGreatDoor.V

namespace Go.Proofs.YtihgaadadaekmaaGreatDoor.V
open Go.RowKit
attribute [local irreducible] ea wpOps gS Call
attribute [local go_sem] aM fQ eM gi gh cE upd cu K.av cL AV.cells AV.cell rowOf rowsOf part ld rowAt bY ck dI eh ij bL da eA gp e8 du eo cY cX dV dW bR bm cQ bQ cT cR ej er ek cP bW cZ ei bP aQ cV cC ig bw cH bS aX dG bu dL AV.undef bF bH dY ef dU ec cF ez eF cw ev eu cU cW List.getD_cons_zero List.getD_cons_succ List.getD_nil List.all_cons List.all_nil Bool.and_true Bool.true_and Bool.and_self Bool.not_true Bool.not_false Option.map_some Option.map_none Option.bind_some Option.bind_none List.length_cons List.length_nil List.take_succ_cons List.take_zero List.take_nil List.drop_succ_cons List.drop_zero List.drop_nil List.head?_cons List.map_cons List.map_nil List.getElem?_cons_zero List.getElem?_cons_succ List.cons_append List.nil_append List.append_nil List.length_map List.set_cons_zero List.set_cons_succ Nat.reduceMul eq_self Int.toNat_natCast Int.natCast_nonneg and_self true_and and_true decide_true decide_false Bool.false_eq_true Nat.zero_add Nat.add_zero List.contains_cons List.contains_nil Bool.or_false Bool.false_or beq_self_eq_true Nat.reduceBEq ne_eq not_true_eq_false not_false_eq_true Id.mk.injEq false_and and_false Nat.reduceLT Int.reduceLE Int.reduceLT Int.reduceToNat Int.reduceNeg Int.reduceAdd Nat.le_refl List.length_append beq_true beq_false Bool.not_eq_eq_eq_not or_false false_or dE ad aj aI bE cj aV bf aU bo cN bG
end Go.Proofs.YtihgaadadaekmaaGreatDoor.V

namespace Go.Proofs.YtihgaadadaekmaaGreatDoor.V
open Go.RowKit
variable {P:Program}
theorem Nl (hm:P.follows .mixedOrders=true) {f:Nat} {args:List AV} {vs:Array Value} {w:World} (h:ae P f args (.bool true)) (hA:e9 P w (fun b=>b<w.heap.size) (fun _=>none) args vs):
  Calls P f vs w fun e w'=>e=.returned (.bool true)/\Below w.heap.size w w':=by
 have hs:=gP hm (h 0) w.heap.size (fun b=>b<w.heap.size) (fun _=>none) w vs ⟨Nat.le_refl _,fun _ h=>h,fun id r h=>(by cases h),fun id kn r r' B B' h=>(by cases h)⟩ (fun id h=>absurd rfl h) hA
 refine hs.mono ?_
 rintro e w' ⟨r,g',n',D',ι',u,rfl,⟨r',hz,rfl⟩,ew,hsim,_,_,gH⟩
 have hr:r=.bool true:=by
  cases r<;>rw[fD]at hz<;>simp_all
  all_goals (repeat' (split at hz))<;>simp_all
 subst hr
 exact⟨by rw[eR gH],ew.below⟩
theorem kA {xs:List AV} {w:World} {D:Nat->Prop} {ι:Names} {a:AV} {v:Value} {vs:Array Value} (h:jh P w D a v) (k:e9 P w D ι xs vs):e9 P w D ι (a::xs) (#[v]++vs):=
 nT (xs:=[a]) ⟨rfl,fun j b hj=>by
  cases j with
  |zero=>simp at hj;subst hj;exact⟨v,rfl,.eK _ _ h⟩
  |succ j=>simp at hj⟩ k
end Go.Proofs.YtihgaadadaekmaaGreatDoor.V

namespace Go.Proofs.YtihgaadadaekmaaGreatDoor.V
open Go.RowKit
attribute [local irreducible] ea wpOps gS Call
attribute [local go_sem] aM fQ eM gi gh cE upd cu K.av cL AV.cells AV.cell rowOf rowsOf part ld rowAt bY ck dI eh ij bL da eA gp e8 du eo cY cX dV dW bR bm cQ bQ cT cR ej er ek cP bW cZ ei bP aQ cV cC ig bw cH bS aX dG bu dL AV.undef bF bH dY ef dU ec cF ez eF cw ev eu cU cW List.getD_cons_zero List.getD_cons_succ List.getD_nil List.all_cons List.all_nil Bool.and_true Bool.true_and Bool.and_self Bool.not_true Bool.not_false Option.map_some Option.map_none Option.bind_some Option.bind_none List.length_cons List.length_nil List.take_succ_cons List.take_zero List.take_nil List.drop_succ_cons List.drop_zero List.drop_nil List.head?_cons List.map_cons List.map_nil List.getElem?_cons_zero List.getElem?_cons_succ List.cons_append List.nil_append List.append_nil List.length_map List.set_cons_zero List.set_cons_succ Nat.reduceMul eq_self Int.toNat_natCast Int.natCast_nonneg and_self true_and and_true decide_true decide_false Bool.false_eq_true Nat.zero_add Nat.add_zero List.contains_cons List.contains_nil Bool.or_false Bool.false_or beq_self_eq_true Nat.reduceBEq ne_eq not_true_eq_false not_false_eq_true Id.mk.injEq false_and and_false Nat.reduceLT Int.reduceLE Int.reduceLT Int.reduceToNat Int.reduceNeg Int.reduceAdd Nat.le_refl List.length_append beq_true beq_false Bool.not_eq_eq_eq_not or_false false_or dE ad aj aI bE cj aV bf aU bo cN bG
theorem ID {α:Type} (f:α->Nat) {xs:List α} {x:α} (h:x∈xs):f x<=(xs.map f).sum:=by
 induction xs with
 |nil=>cases h
 |cons y ys ih=>
  simp only[List.map_cons,List.sum_cons]
  rcases List.mem_cons.1 h with rfl|h
  ·omega
  ·have:=ih h;omega
theorem FQ {s:cl} (h:qU s<=1048576):pY s:=by
 unfold qU sN at h
 refine⟨⟨ab,ab,fun t ht=>?_⟩,ab⟩
 have:=ID jZ ht
 have h2:t.bp.length<=jZ t:=by unfold jZ;omega
 unfold rf
 omega
theorem xC (a:dj):ae Tryz.prog 15 [.agg (aD a),.agg (aD a)] (.bool true):=by
 refine ae.body dK rfl fun hl n0=>?_
 clear hl
 have h1:=r8 a.ah a.ah
 rw[decide_eq_true rfl]at h1
 (repeat(first|((repeat(revert hN;revert N;apply Pn.out));refine wk @aD.eq_1 ?_;(repeat(refine Pn.mk ?_;intro N hN)))|((try apply Or.inl);refine⟨_,ae.x (h1) (sd @aD.eq_1),?_⟩;refine hN _ _ ?_;clear hN N)))
 exact aC (b:=true) (.inl rfl) (sd @Nat.zero_add) rfl
end Go.Proofs.YtihgaadadaekmaaGreatDoor.V

namespace Go.Proofs.YtihgaadadaekmaaGreatDoor.V
open Go.RowKit
attribute [local irreducible] ea wpOps gS Call
attribute [local go_sem] aM fQ eM gi gh cE upd cu K.av cL AV.cells AV.cell rowOf rowsOf part ld rowAt bY ck dI eh ij bL da eA gp e8 du eo cY cX dV dW bR bm cQ bQ cT cR ej er ek cP bW cZ ei bP aQ cV cC ig bw cH bS aX dG bu dL AV.undef bF bH dY ef dU ec cF ez eF cw ev eu cU cW List.getD_cons_zero List.getD_cons_succ List.getD_nil List.all_cons List.all_nil Bool.and_true Bool.true_and Bool.and_self Bool.not_true Bool.not_false Option.map_some Option.map_none Option.bind_some Option.bind_none List.length_cons List.length_nil List.take_succ_cons List.take_zero List.take_nil List.drop_succ_cons List.drop_zero List.drop_nil List.head?_cons List.map_cons List.map_nil List.getElem?_cons_zero List.getElem?_cons_succ List.cons_append List.nil_append List.append_nil List.length_map List.set_cons_zero List.set_cons_succ eq_self Int.toNat_natCast Int.natCast_nonneg and_self true_and and_true decide_true decide_false Bool.false_eq_true Nat.zero_add Nat.add_zero List.contains_cons List.contains_nil Bool.or_false Bool.false_or beq_self_eq_true ne_eq not_true_eq_false not_false_eq_true Id.mk.injEq false_and and_false Nat.le_refl List.length_append beq_true beq_false Bool.not_eq_eq_eq_not or_false false_or dE ad aj aI bE cj aV bf aU bo cN bG
theorem K0 {g:Rows} {v w:AV} {s:cl} {i:List Id} (hX:y5 g v s i) (hw:fz (dE g) 6 w=some w):cm (dE g) 6 [v,w]=some [.agg (az s),w]:=by
 simp only[ad,aj,hX.fz 1,hw,Option.map_some]
theorem Ju {g:Rows} {v w:AV} {s:dj} {i:List Id} (hX:xb g v s i) (hw:fz (dE g) 6 w=some w):cm (dE g) 6 [v,w]=some [.agg (aD s),w]:=by
 simp only[ad,aj,hX.fz 2,hw,Option.map_some]
theorem Dg (g:Rows) (s:cl):fz g 6 (.agg (az s))=some (.agg (az s)):=by simp[az,bf,ad,aj,cj,aI]
theorem De (g:Rows) (s:dj):fz g 6 (.agg (aD s))=some (.agg (aD s)):=by simp[aD,bf,ad,aj,cj]
theorem uV {g:Rows} {v w v' w':AV} (h1:fz g 6 v=some v') (h2:fz g 6 w=some w'):cm g 6 [v,w]=some [v',w']:=by
 simp only[ad,aj,h1,h2,Option.map_some]
theorem Ku (s:cl):yf s<=3*qU s:=by
 have h:∀l:List eJ,(l.map fY).sum<=l.length+(l.map jZ).sum:=fun l=>by
  induction l with
  |nil=>simp
  |cons t l ih=>simp only[List.map_cons,List.sum_cons,List.length_cons,fY,jZ]at *;omega
 have:=h s.aE.ah
 unfold yf qU sN
 omega
theorem eO.not {a b:Nat} {ids:List Id} (h:eO a b ids) {x:Id} (hx:x.cq<a∨b<=x.cq):x∉ids:=fun hc=>by
 have:=h.2 x hc;omega
theorem mH.fz {α:Type} {e:α->List AV} {L:List α} {w:AV} (h:mH e L w) (g:Rows):V.fz g 6 w=some w:=by
 rcases h with⟨rfl,rfl⟩|rfl
 ·exact aV _ _
 ·exact cj _ _ _
end Go.Proofs.YtihgaadadaekmaaGreatDoor.V

namespace Go.Proofs.YtihgaadadaekmaaGreatDoor.V
open Go.RowKit
attribute [local irreducible] ea wpOps gS Call
attribute [local go_sem] aM fQ eM gi gh cE upd cu K.av cL AV.cells AV.cell rowOf rowsOf part ld rowAt bY ck dI eh ij bL da eA gp e8 du eo cY cX dV dW bR bm cQ bQ cT cR ej er ek cP bW cZ ei bP aQ cV cC ig bw cH bS aX dG bu dL AV.undef bF bH dY ef dU ec cF ez eF cw ev eu cU cW List.getD_cons_zero List.getD_cons_succ List.getD_nil List.all_cons List.all_nil Bool.and_true Bool.true_and Bool.and_self Bool.not_true Bool.not_false Option.map_some Option.map_none Option.bind_some Option.bind_none List.length_cons List.length_nil List.take_succ_cons List.take_zero List.take_nil List.drop_succ_cons List.drop_zero List.drop_nil List.head?_cons List.map_cons List.map_nil List.getElem?_cons_zero List.getElem?_cons_succ List.cons_append List.nil_append List.append_nil List.length_map List.set_cons_zero List.set_cons_succ Nat.reduceMul eq_self Int.toNat_natCast Int.natCast_nonneg and_self true_and and_true decide_true decide_false Bool.false_eq_true Nat.zero_add Nat.add_zero List.contains_cons List.contains_nil Bool.or_false Bool.false_or beq_self_eq_true Nat.reduceBEq ne_eq not_true_eq_false not_false_eq_true Id.mk.injEq false_and and_false Nat.reduceLT Int.reduceLE Int.reduceLT Int.reduceToNat Int.reduceNeg Int.reduceAdd Nat.le_refl List.length_append beq_true beq_false Bool.not_eq_eq_eq_not or_false false_or dE ad aj aI bE cj aV bf aU bo cN bG
end Go.Proofs.YtihgaadadaekmaaGreatDoor.V

namespace Go.Proofs.YtihgaadadaekmaaGreatDoor.V
open Go.RowKit
attribute [local irreducible] ea wpOps gS Call
attribute [local go_sem] aM fQ eM gi gh cE upd cu K.av cL AV.cells AV.cell rowOf rowsOf part ld rowAt bY ck dI eh ij bL da eA gp e8 du eo cY cX dV dW bR bm cQ bQ cT cR ej er ek cP bW cZ ei bP aQ cV cC ig bw cH bS aX dG bu dL AV.undef bF bH dY ef dU ec cF ez eF cw ev eu cU cW List.getD_cons_zero List.getD_cons_succ List.getD_nil List.all_cons List.all_nil Bool.and_true Bool.true_and Bool.and_self Bool.not_true Bool.not_false Option.map_some Option.map_none Option.bind_some Option.bind_none List.length_cons List.length_nil List.take_succ_cons List.take_zero List.take_nil List.drop_succ_cons List.drop_zero List.drop_nil List.head?_cons List.map_cons List.map_nil List.getElem?_cons_zero List.getElem?_cons_succ List.cons_append List.nil_append List.append_nil List.length_map List.set_cons_zero List.set_cons_succ eq_self Int.toNat_natCast Int.natCast_nonneg and_self true_and and_true decide_true decide_false Bool.false_eq_true Nat.zero_add Nat.add_zero List.contains_cons List.contains_nil Bool.or_false Bool.false_or beq_self_eq_true ne_eq not_true_eq_false not_false_eq_true Id.mk.injEq false_and and_false Nat.le_refl List.length_append beq_true beq_false Bool.not_eq_eq_eq_not or_false false_or dE ad aj aI bE cj aV bf aU bo cN bG
end Go.Proofs.YtihgaadadaekmaaGreatDoor.V

namespace Go.Proofs.YtihgaadadaekmaaGreatDoor.V
open Go.RowKit
attribute [local irreducible] ea wpOps gS Call
attribute [local go_sem] aM fQ eM gi gh cE upd cu K.av cL AV.cells AV.cell rowOf rowsOf part ld rowAt bY ck dI eh ij bL da eA gp e8 du eo cY cX dV dW bR bm cQ bQ cT cR ej er ek cP bW cZ ei bP aQ cV cC ig bw cH bS aX dG bu dL AV.undef bF bH dY ef dU ec cF ez eF cw ev eu cU cW List.getD_cons_zero List.getD_cons_succ List.getD_nil List.all_cons List.all_nil Bool.and_true Bool.true_and Bool.and_self Bool.not_true Bool.not_false Option.map_some Option.map_none Option.bind_some Option.bind_none List.length_cons List.length_nil List.take_succ_cons List.take_zero List.take_nil List.drop_succ_cons List.drop_zero List.drop_nil List.head?_cons List.map_cons List.map_nil List.getElem?_cons_zero List.getElem?_cons_succ List.cons_append List.nil_append List.append_nil List.length_map List.set_cons_zero List.set_cons_succ Nat.reduceMul eq_self Int.toNat_natCast Int.natCast_nonneg and_self true_and and_true decide_true decide_false Bool.false_eq_true Nat.zero_add Nat.add_zero List.contains_cons List.contains_nil Bool.or_false Bool.false_or beq_self_eq_true Nat.reduceBEq ne_eq not_true_eq_false not_false_eq_true Id.mk.injEq false_and and_false Nat.reduceLT Int.reduceLE Int.reduceLT Int.reduceToNat Int.reduceNeg Int.reduceAdd Nat.le_refl List.length_append beq_true beq_false Bool.not_eq_eq_eq_not or_false false_or dE ad aj aI bE cj aV bf aU bo cN bG
theorem Ed {P:Program} {K:AV->Rows->List Id->Prop} (hm:P.follows .mixedOrders=true) {f:Nat} {args eT:List AV} {σ:ax}
  (lu:∀r g ids,K r g ids->r.rr=true/\Handed ids g) (lv:∀r g g' ids,K r g ids->(∀i∈ids,g' i=g i)->K r g' ids)
  (h:∀n:Nat,Call P f eT ⟨fun _=>none,n⟩ (fun r σ'=>∃ids,K r σ'.get ids/\eO n σ'.next ids)) (hv:cm (dE σ.get) 6 args=some eT):
  Call P f args σ (fun r σ'=>∃ids,K r σ'.get ids/\eO σ.next σ'.next ids/\Kept σ σ'):=by
 refine Gt hm hv (aO _ _ _ _ _ (fun r σ' hq=>?_) (Ee hm (h σ.next)))
 obtain⟨⟨ids,hK,hi⟩,hn⟩:=hq
 obtain⟨c1,c2⟩:=lu _ _ _ hK
 exact⟨ids,c1,c2,ids,lv _ _ _ _ hK (fun i hi=>uT hi),hi,hn,fun j hj=>rU fun hc=>by have:=(hi.2 j hc).1;omega⟩
theorem Handed.nil {g:Rows}:Handed [] g:=fun x hx=>by cases hx
section
variable {P:Program} {α:Type} {e:α->List AV} {z:Nat} {g g':Rows} {v:AV} {L:List α} {ids:List Id}
def tp (e:α->List AV) (z:Nat) (g:Rows) (v:AV) (L:List α) (ids:List Id):Prop:=(L=[]/\v=.bK/\ids=[])∨∃(o:Id) (J:List α),v=.own o 0 L.length/\g o=some ⟨true,z,(L++J).map e⟩/\ids=[o]/\0<L.length
theorem pa.t (h:pa e z g v L ids):tp e z g v L ids:=by
 rcases h with h|⟨o,h1,h2,h3,h4⟩
 ·exact .inl h
 ·exact .inr ⟨o,[],h1,by rw[List.append_nil];exact h2,h3,h4⟩
def DX (e:α->List AV) (v:AV) (L:List α):AV:=match v with| .bK=>.bK|_=>.sl (L.map e)
theorem tp.Fo (h:tp e z g v L ids):mH e L (DX e v L):=by
 rcases h with⟨rfl,rfl,_⟩|⟨o,J,rfl,_⟩
 ·exact .inl ⟨rfl,rfl⟩
 ·exact .inr rfl
theorem zL {n:Nat} {o:Id} {J:List α} (h2:g o=some ⟨true,z,(L++J).map e⟩) (he:∀x g,cm g n (e x)=some (e x)):V.fz (dE g) (n+1) (.own o 0 L.length)=some (.sl (L.map e)):=by
 rw[fU]
 have:dE g o=some ⟨true,z,(L++J).map e⟩:=by simp[dE,h2]
 simp only[this,if_true]
 have h4:((L++J).map e).take L.length=L.map e:=by rw[<-List.map_take,List.take_append_of_le_length (Nat.le_refl _),List.take_length]
 rw[if_pos (by simp),List.drop_zero,h4,mb fun x=>he x _];rfl
theorem tp.Oo (h:tp e z g v L ids) {n:Nat} (he:∀x g,cm g n (e x)=some (e x)):V.fz (dE g) (n+1) v=some (DX e v L):=by
 rcases h with⟨rfl,rfl,_⟩|⟨o,J,rfl,h2,_⟩
 ·exact aV _ _
 ·exact zL h2 he
theorem tp.clean (h:tp e z g v L ids):v.clean=true:=by
 rcases h with⟨_,rfl,_⟩|⟨o,J,rfl,_⟩<;>rfl
theorem tp.hand (h:tp e z g v L ids) (lu:∀x,(e x).all AV.clean=true):Handed ids g:=by
 rcases h with⟨_,_,rfl⟩|⟨o,J,_,h2,rfl,_⟩
 ·exact Handed.nil
 ·intro i hi
  rw[List.mem_singleton.1 hi]
  refine⟨_,h2,rfl,fun cs dq a ha=>?_⟩
  obtain⟨x,_,rfl⟩:=List.mem_map.1 dq
  have:=lu x
  rw[List.all_eq_true]at this
  exact this a ha
theorem tp.s (h:tp e z g v L ids) {n:Nat} (he:∀x g,dH g n (e x)=some (e x)):fD g (n+1) v=some (Nv e L):=by
 rcases h with⟨rfl,rfl,_⟩|⟨o,J,rfl,h2,_,hp⟩
 ·rw[kg];rfl
 ·rw[qg (sz:=z) (rows:=(L++J).map e) (rows':=L.map e) h2 (by simp) (by
   have h4:((L++J).map e).take L.length=L.map e:=by rw[<-List.map_take,List.take_append_of_le_length (Nat.le_refl _),List.take_length]
   rw[List.drop_zero,h4,nI fun x=>he x _]),Nv,if_neg ab]
end
def xt (a:AV):Bool:=match a with| .agg cs=>cs.all AV.clean|a=>a.clean
theorem Bm (cs:List AV):(AV.iN cs).rr=cs.all xt:=rfl
theorem Et {a:AV} (h:a.clean=true):xt a=true:=by
 cases a<;>first|exact h|(simp[AV.clean]at h)
theorem Bl (k:IntKind) (n:Int):xt (.int k n)=true:=rfl
theorem zm (b:Bool):xt (.bool b)=true:=rfl
theorem Pv {g:Rows} {u v w u' v' w':AV} (h0:V.fz g 6 u=some u') (h1:V.fz g 6 v=some v') (h2:V.fz g 6 w=some w'):cm g 6 [u,v,w]=some [u',v',w']:=by simp only[ad,aj,h0,h1,h2,Option.map_some]
theorem RJ (x:aq):(ai x).all AV.clean=true:=rfl
def Cm (k:Int) (n:Nat):List Int:=(List.range n).map fun j:Nat=>k+(j:Int)
theorem gW (k:Int) (n:Nat):(Cm k n).length=n:=by simp[Cm]
def jb (k:Int) (l:List Int) (j:Nat):List Int:=Cm k j++l.drop j
theorem wR {k:Int} {l:List Int} {j:Nat} (h:j<=l.length):(jb k l j).length=l.length:=by simp[jb,gW];omega
theorem H3 {k:Int} {l:List Int} {j:Nat} (h:j<l.length):((jb k l j).map au)[j]? =some [.int .i64 l[j]]:=by
 have h2:j<(jb k l j).length:=by rw[wR ab];exact h
 have h3:(jb k l j)[j]'h2=l[j]:=by simp[jb,List.getElem_append,gW]
 rw[zt h2,h3]
theorem Fu {k:Int} {l:List Int} {j:Nat} (h:j<l.length):((jb k l j).map au).set j [.int .i64 (k+(j:Int))]=(jb k l (j+1)).map au:=by
 have h1:(jb k l j).set j (k+(j:Int))=jb k l (j+1):=by
  unfold jb
  rw[List.set_append_right _ _ (by rw[gW];omega),gW,Nat.sub_self]
  have h2:l.drop j=l[j]::l.drop (j+1):=List.drop_eq_getElem_cons h
  rw[h2,List.set_cons_zero]
  simp[Cm,List.range_succ]
 rw[<-h1,List.map_set];rfl
theorem DS (i:Id) (l:List Int) (k:Int) (h0:0<=k) (h1:k+l.length<=4611686018427387904) (σ:ax) (hv:i.cq<σ.next) (hg:σ.get i=some ⟨true,1,l.map au⟩):
  Call Tryz.prog 23 [.own i 0 l.length,.int .i64 k] σ (fun r σ'=>r=.int .i64 (k+l.length)/\m8 σ [i] σ'.get σ'.next/\σ'.get i=some ⟨true,1,(Cm k l.length).map au⟩):=by
 refine eX dK rfl fun hl=>?_
 clear hl
 have hz:jb k l 0=l:=by simp[jb,Cm]
 (try((repeat(revert hN;revert N;apply Pn.out));refine wk @Nat.zero_add ?_;(repeat(refine Pn.mk ?_;intro N hN))))
 refine aP (fun n env st=>∃j:Nat,n=(l.length)-j/\j<=(l.length)/\env 5=.int .i64 (j:Int)/\env 1=.int .i64 (k+j)/\st.get i=some ⟨true,1,(jb k l j).map au⟩/\(m8 σ [i] st.get st.next)) (l.length) ⟨0,ab,ab,sl (tw @Int.add_zero (tw @Int.natCast_zero (tw @hz @hg))),sl (tw @Int.add_zero (tw @Int.natCast_zero (tw @hz @hg))),sl (tw @Int.add_zero (tw @Int.natCast_zero (tw @hz @hg))),by(try dsimp only);exact⟨bt,fun x _ _=>rfl⟩⟩ ?_
 rintro n_a env_a st_a ⟨j,rfl,ale,a5,a1,ag0,j0⟩ dm
 have a0:=dm 0 (by kernel_rfl)
 simp only[go_sem, ↓reduceIte,Nat.reduceEqDiff,Nat.reduceAdd,Nat.reduceSub,Nat.reduceLeDiff,reduceCtorEq,Int.add_zero,Int.natCast_zero,hz,hg]at a0
 clear dm
 obtain⟨an,aF⟩:=j0
 by_cases hj:(j:Int)<(l.length:Int)
 ·have bD:∀{e:Env} {gg:Rows} {nx:Nat},(e 5=.int .i64 (IntKind.i64.wrap ((j:Int)+1)))->(e 1=.int .i64 (k+(j+1)))->(gg i=some ⟨true,1,(jb k l (j+1)).map au⟩)->(m8 σ [i] gg nx)->∃m0,m0<(l.length)-j/\∃j:Nat,m0=(l.length)-j/\j<=(l.length)/\e 5=.int .i64 (j:Int)/\e 1=.int .i64 (k+j)/\gg i=some ⟨true,1,(jb k l j).map au⟩/\(m8 σ [i] gg nx):=fun x1 x2 x3 x4=>⟨_,ab,j+1,rfl,ab,(by rw[x1,ay ab]),x2,x3,x4⟩
  have gm:j<l.length:=ab
  have dR:=H3 (k:=k) gm
  have dP:=Fu (k:=k) gm
  have hw:IntKind.i64.wrap (k+(j:Int)+1)=k+((j:Int)+1):=by rw[aT ab];omega
  have hlen:((jb k l j).map au).length=l.length:=by rw[List.length_map,wR ab]
  (try((repeat(revert hN;revert N;apply Pn.out));refine wk (tw @a5 (tw @a1 (tw @ag0 (tw @a0 (tw @hj (tw @dR (tw @dP (tw @hw @hlen)))))))) ?_;(repeat(refine Pn.mk ?_;intro N hN))))
  refine bD ?_ ?_ ?_ (by(try dsimp only);exact⟨bt,fun x hx hi=>by
   have h2:=aF x hx hi
   have h3:(x=i)=False:=eq_false fun e=>hi (by simp[e])
   simp only[go_sem, ↓reduceIte,Nat.reduceEqDiff,Nat.reduceAdd,Nat.reduceSub,Nat.reduceLeDiff,reduceCtorEq,h2,h3]⟩)
  all_goals simp only[go_sem, ↓reduceIte,Nat.reduceEqDiff,Nat.reduceAdd,Nat.reduceSub,Nat.reduceLeDiff,reduceCtorEq,a5,a1,ag0,a0,hw,dP]
 ·have gm:j=l.length:=ab
  subst gm
  (try((repeat(revert hN;revert N;apply Pn.out));refine wk (tw @a5 (tw @a1 (tw @ag0 (tw @a0 @hj)))) ?_;(repeat(refine Pn.mk ?_;intro N hN))))
  have k7:jb k l l.length=Cm k l.length:=by simp[jb]
  rw[k7]at ag0
  exact gn (.inl rfl) (vs:=[.int .i64 (k+l.length)]) (sd (tw @a5 (tw @a1 (tw @ag0 @a0)))) ⟨rfl,⟨bt,fun x hx hi=>aF x hx hi⟩,ag0⟩
theorem HX (k:Int) (σ:ax):Call Tryz.prog 23 [.bK,.int .i64 k] σ (fun r σ'=>r=.int .i64 k/\m8 σ [] σ'.get σ'.next):=by
 refine eX dK rfl fun hl=>?_
 clear hl
 (try((repeat(revert hN;revert N;apply Pn.out));refine wk @Nat.zero_add ?_;(repeat(refine Pn.mk ?_;intro N hN))))
 refine aP (fun n env st=>(env 1=.int .i64 k/\env 5=.int .i64 0/\env 0=.bK)/\σ.next<=st.next/\∀x:Id,st.get x=σ.get x) 0 ⟨⟨sd @Nat.zero_add,sd @Nat.zero_add,sd @Nat.zero_add⟩,bt,fun _=>rfl⟩ ?_
 rintro m e st ⟨⟨a1,a5,a0⟩,an,aF⟩ -
 have d0:decide ((0:Int)<((0:Nat):Int))=false:=rfl
 (try((repeat(revert hN;revert N;apply Pn.out));refine wk (tw @a0 (tw @a1 (tw @a5 @d0))) ?_;(repeat(refine Pn.mk ?_;intro N hN))))
 exact gn (.inl rfl) (vs:=[.int .i64 k]) (sd @a1) ⟨rfl,⟨bt,fun x hx hi=>aF x⟩⟩
theorem HZ {v:AV} {L:List Int} {ids:List Id} (k:Int) (h0:0<=k) (h1:k+L.length<=4611686018427387904) (σ:ax) (hv:∀i∈ids,i.cq<σ.next) (h:pa au 1 σ.get v L ids):
  Call Tryz.prog 23 [v,.int .i64 k] σ (fun r σ'=>r=.int .i64 (k+L.length)/\m8 σ ids σ'.get σ'.next/\pa au 1 σ'.get v (Cm k L.length) ids):=by
 rcases h with⟨rfl,rfl,rfl⟩|⟨o,rfl,h2,rfl,hp⟩
 ·refine aO _ _ _ _ _ (fun r σ' hq=>?_) (HX k σ)
  obtain⟨rfl,hB⟩:=hq
  exact⟨by simp,hB,.inl ⟨rfl,rfl,rfl⟩⟩
 ·refine aO _ _ _ _ _ (fun r σ' hq=>?_) (DS o L k h0 h1 σ (hv o (by simp)) h2)
  obtain⟨rfl,hB,hg⟩:=hq
  exact⟨rfl,hB,.inr ⟨o,by rw[gW],hg,rfl,by rw[gW];exact hp⟩⟩
theorem Nt (k:Int) {n j:Nat} (h:j<n):((Cm k n).map au)[j]? =some [.int .i64 (k+(j:Int))]:=by
 simp[Cm,h,au]
theorem JR (k:Int) (n:Nat) (h0:0<=k) (h1:k+n<=4611686018427387904):ae Tryz.prog 24 [.sl ((Cm k n).map au),.int .i64 k] (.int .i64 (k+n)):=by
 refine ae.body dK rfl fun hl n0=>?_
 clear hl
 obtain⟨m,hm⟩:∃m,n=m:=⟨_,rfl⟩
 rw[hm]at h1 ⊢
 (try((repeat(revert hN;revert N;apply Pn.out));refine wk @gW ?_;(repeat(refine Pn.mk ?_;intro N hN))))
 refine aP (fun n env st=>∃j:Nat,n=(m)-j/\j<=(m)/\env 5=.int .i64 (j:Int)/\env 1=.int .i64 (k+j)) (m) ⟨0,ab,ab,sl (tw @Int.add_zero (tw @Int.natCast_zero @gW)),sl (tw @Int.add_zero (tw @Int.natCast_zero @gW))⟩ ?_
 rintro n_a env_a st_a ⟨j,rfl,ale,a5,a1⟩ dm
 have a0:=dm 0 (by kernel_rfl)
 simp only[go_sem, ↓reduceIte,Nat.reduceEqDiff,Nat.reduceAdd,Nat.reduceSub,Nat.reduceLeDiff,reduceCtorEq,Int.add_zero,Int.natCast_zero,gW]at a0
 clear dm
 by_cases hj:(j:Int)<(m:Int)
 ·have bD:∀{e:Env},(e 5=.int .i64 (IntKind.i64.wrap ((j:Int)+1)))->(e 1=.int .i64 (k+(j+1)))->∃m0,m0<(m)-j/\∃j:Nat,m0=(m)-j/\j<=(m)/\e 5=.int .i64 (j:Int)/\e 1=.int .i64 (k+j):=fun x1 x2=>⟨_,ab,j+1,rfl,ab,(by rw[x1,ay ab]),x2⟩
  have dR:=Nt k (n:=m) (j:=j) ab
  have hw:IntKind.i64.wrap (k+(j:Int)+1)=k+((j:Int)+1):=by rw[aT ab];omega
  have e1:decide (k+(j:Int)=k+(j:Int))=true:=decide_eq_true rfl
  (try((repeat(revert hN;revert N;apply Pn.out));refine wk (tw @a5 (tw @a1 (tw @a0 (tw @hj (tw @dR (tw @hw (tw @gW @e1))))))) ?_;(repeat(refine Pn.mk ?_;intro N hN))))
  refine bD ?_ ?_
  all_goals simp only[go_sem, ↓reduceIte,Nat.reduceEqDiff,Nat.reduceAdd,Nat.reduceSub,Nat.reduceLeDiff,reduceCtorEq,a5,a1,a0,hw]
 ·have gm:j=m:=ab
  subst gm
  (try((repeat(revert hN;revert N;apply Pn.out));refine wk (tw @a5 (tw @a1 (tw @a0 (tw @hj @gW)))) ?_;(repeat(refine Pn.mk ?_;intro N hN))))
  exact aZ (b:=k+(j:Int)) (.inl rfl) (sd (tw @a5 (tw @a1 @a0))) rfl
theorem zV {w:AV} (k:Int) (n:Nat) (h0:0<=k) (h1:k+n<=4611686018427387904) (hw:mH au (Cm k n) w):ae Tryz.prog 24 [w,.int .i64 k] (.int .i64 (k+n)):=
 (JR k n h0 h1).cut mixed (hw.cut (.same _ .nil))
theorem Bu {L:List Int} {v w:AV} (hv:mH au L v) (hw:mH au L w):ae Tryz.prog 22 [v,w] (.bool true):=by
 have h:=tJ L L
 rw[decide_eq_true rfl]at h
 exact h.cut mixed (hv.cut (hw.cut .nil))
end Go.Proofs.YtihgaadadaekmaaGreatDoor.V

namespace Go.Proofs.YtihgaadadaekmaaGreatDoor.V
open Go.RowKit
attribute [local irreducible] ea wpOps gS Call
attribute [local go_sem] aM fQ eM gi gh cE upd cu K.av cL AV.cells AV.cell rowOf rowsOf part ld rowAt bY ck dI eh ij bL da eA gp e8 du eo cY cX dV dW bR bm cQ bQ cT cR ej er ek cP bW cZ ei bP aQ cV cC ig bw cH bS aX dG bu dL AV.undef bF bH dY ef dU ec cF ez eF cw ev eu cU cW List.getD_cons_zero List.getD_cons_succ List.getD_nil List.all_cons List.all_nil Bool.and_true Bool.true_and Bool.and_self Bool.not_true Bool.not_false Option.map_some Option.map_none Option.bind_some Option.bind_none List.length_cons List.length_nil List.take_succ_cons List.take_zero List.take_nil List.drop_succ_cons List.drop_zero List.drop_nil List.head?_cons List.map_cons List.map_nil List.getElem?_cons_zero List.getElem?_cons_succ List.cons_append List.nil_append List.append_nil List.length_map List.set_cons_zero List.set_cons_succ eq_self Int.toNat_natCast Int.natCast_nonneg and_self true_and and_true decide_true decide_false Bool.false_eq_true Nat.zero_add Nat.add_zero List.contains_cons List.contains_nil Bool.or_false Bool.false_or beq_self_eq_true ne_eq not_true_eq_false not_false_eq_true Id.mk.injEq false_and and_false Nat.le_refl List.length_append beq_true beq_false Bool.not_eq_eq_eq_not or_false false_or dE ad aj aI bE cj aV bf aU bo cN bG
section
variable {P:Program} {α:Type} {R:uZ α} {e:α->List AV} {z:Nat} {g g':Rows} {v:AV} {L:List α} {ids:List Id}
def OV (R:uZ α) (z:Nat) (g:Rows) (v:AV) (L:List α) (ids:List Id):Prop:=(L=[]/\v=.bK/\ids=[])∨(fV R z g v L ids/\0<L.length)
end
def xz (R:List aq):List AV:=[.sl (R.map ai)]
def tq:uZ (List aq):=fun g cs R ids=>∃u,cs=[.own u 0 R.length]/\g u=some ⟨true,3,R.map ai⟩/\ids=[u]
theorem Ru:pR tq 1 where
 frame:=fun⟨i,h1,h2,h3⟩ hf=>⟨i,h1,(hf i (by rw[h3];simp)).trans h2,h3⟩
 len:=fun⟨i,h1,_⟩=>by rw[h1];rfl
 cell:=fun⟨i,h1,_⟩=>by rw[h1];rfl
 live:=fun⟨i,h1,h2,h3⟩ j hj=>by
  rw[h3]at hj
  have:j=i:=by simpa using hj
  subst this
  exact⟨_,h2,rfl,by simp[nN]⟩
 small:=by simp[nN]
theorem QD {g:Rows} {cs:List AV} {x:List aq} {ids:List Id} (n:Nat) (h:tq g cs x ids):cm (dE g) (n+2) cs=some (xz x):=by
 obtain⟨i,rfl,h2,_⟩:=h
 have h3:V.fz (dE g) (n+2) (.own i 0 x.length)=some (.sl (x.map ai)):=e7 (e:=ai) (sz:=3) (by simp[dE,h2]) rfl fun y=>by simp[ai,ad,aj,aI]
 simp only[ad,aj,h3,Option.map_some,xz]
theorem OS {g:Rows} {cs:List AV} {x:List aq} {ids:List Id} (n:Nat) (h:tq g cs x ids):dH g (n+2) cs=some (xz x):=by
 obtain⟨i,rfl,h2,_⟩:=h
 have h3:fD g (n+2) (.own i 0 x.length)=some (.sl (x.map ai)):=fH (e:=ai) h2 rfl fun y=>by simp[ai,br,bV,eC]
 simp only[br,bV,h3,Option.map_some,xz]
theorem NF {g:Rows} {cs:List AV} {x:List aq} {ids:List Id} (h:tq g cs x ids):cs.all AV.clean=true/\Handed ids g:=by
 obtain⟨i,rfl,h2,rfl⟩:=h
 refine⟨rfl,fun j hj=>?_⟩
 rw[List.mem_singleton.1 hj]
 refine⟨_,h2,rfl,fun cs dq a ha=>?_⟩
 obtain⟨y,_,rfl⟩:=List.mem_map.1 dq
 exact List.all_eq_true.1 (RJ y) a ha
def OutRs (g:Rows) (v:AV) (L:List (List aq)) (ids:List Id):Prop:=OV tq 1 g v L ids
section
variable {g g':Rows} {v:AV} {L:List (List aq)} {ids:List Id}
end
end Go.Proofs.YtihgaadadaekmaaGreatDoor.V

namespace Go.Proofs.YtihgaadadaekmaaGreatDoor.V
open Go.RowKit
attribute [local irreducible] ea wpOps gS Call
attribute [local go_sem] aM fQ eM gi gh cE upd cu K.av cL AV.cells AV.cell rowOf rowsOf part ld rowAt bY ck dI eh ij bL da eA gp e8 du eo cY cX dV dW bR bm cQ bQ cT cR ej er ek cP bW cZ ei bP aQ cV cC ig bw cH bS aX dG bu dL AV.undef bF bH dY ef dU ec cF ez eF cw ev eu cU cW List.getD_cons_zero List.getD_cons_succ List.getD_nil List.all_cons List.all_nil Bool.and_true Bool.true_and Bool.and_self Bool.not_true Bool.not_false Option.map_some Option.map_none Option.bind_some Option.bind_none List.length_cons List.length_nil List.take_succ_cons List.take_zero List.take_nil List.drop_succ_cons List.drop_zero List.drop_nil List.head?_cons List.map_cons List.map_nil List.getElem?_cons_zero List.getElem?_cons_succ List.cons_append List.nil_append List.append_nil List.length_map List.set_cons_zero List.set_cons_succ Nat.reduceMul eq_self Int.toNat_natCast Int.natCast_nonneg and_self true_and and_true decide_true decide_false Bool.false_eq_true Nat.zero_add Nat.add_zero List.contains_cons List.contains_nil Bool.or_false Bool.false_or beq_self_eq_true Nat.reduceBEq ne_eq not_true_eq_false not_false_eq_true Id.mk.injEq false_and and_false Nat.reduceLT Int.reduceLE Int.reduceLT Int.reduceToNat Int.reduceNeg Int.reduceAdd Nat.le_refl List.length_append beq_true beq_false Bool.not_eq_eq_eq_not or_false false_or dE ad aj aI bE cj aV bf aU bo cN bG
theorem clI (x:Int):(au x).all AV.clean=true:=rfl
def kf (R:List Int):List AV:=[.sl (R.map au)]
def jT:uZ (List Int):=fun g cs R ids=>∃u,cs=[.own u 0 R.length]/\g u=some ⟨true,1,R.map au⟩/\ids=[u]
theorem ug:pR jT 1 where
 frame:=fun⟨i,h1,h2,h3⟩ hf=>⟨i,h1,(hf i (by rw[h3];simp)).trans h2,h3⟩
 len:=fun⟨i,h1,_⟩=>by rw[h1];rfl
 cell:=fun⟨i,h1,_⟩=>by rw[h1];rfl
 live:=fun⟨i,h1,h2,h3⟩ j hj=>by
  rw[h3]at hj
  have:j=i:=by simpa using hj
  subst this
  exact⟨_,h2,rfl,by simp[nN]⟩
 small:=by simp[nN]
theorem Kh {g:Rows} {cs:List AV} {x:List Int} {ids:List Id} (n:Nat) (h:jT g cs x ids):cm (dE g) (n+2) cs=some (kf x):=by
 obtain⟨i,rfl,h2,_⟩:=h
 have h3:V.fz (dE g) (n+2) (.own i 0 x.length)=some (.sl (x.map au)):=e7 (e:=au) (sz:=1) (by simp[dE,h2]) rfl fun y=>by simp[au,ad,aj,aI]
 simp only[ad,aj,h3,Option.map_some,kf]
theorem Qp {g:Rows} {cs:List AV} {x:List Int} {ids:List Id} (n:Nat) (h:jT g cs x ids):dH g (n+2) cs=some (kf x):=by
 obtain⟨i,rfl,h2,_⟩:=h
 have h3:fD g (n+2) (.own i 0 x.length)=some (.sl (x.map au)):=fH (e:=au) h2 rfl fun y=>by simp[au,br,bV,eC]
 simp only[br,bV,h3,Option.map_some,kf]
theorem OQ {g:Rows} {cs:List AV} {x:List Int} {ids:List Id} (h:jT g cs x ids):cs.all AV.clean=true/\Handed ids g:=by
 obtain⟨i,rfl,h2,rfl⟩:=h
 refine⟨rfl,fun j hj=>?_⟩
 rw[List.mem_singleton.1 hj]
 refine⟨_,h2,rfl,fun cs dq a ha=>?_⟩
 obtain⟨y,_,rfl⟩:=List.mem_map.1 dq
 exact List.all_eq_true.1 (clI y) a ha
def OutIs (g:Rows) (v:AV) (L:List (List Int)) (ids:List Id):Prop:=OV jT 1 g v L ids
section
variable {g g':Rows} {v:AV} {L:List (List Int)} {ids:List Id}
end
def lz (R:List Int):Nat:=R.length
def qv (k:Int):List (List Int)->List (List Int)
 |[]=>[]
 |R::L=>Cm k R.length::qv (k+(R.length:Int)) L
theorem lO:∀(k:Int) (L:List (List Int)),(qv k L).length=L.length
 |_,[]=>rfl
 |k,R::L=>by rw[qv,List.length_cons,lO,List.length_cons]
theorem Aq:∀(k:Int) (A B:List (List Int)),qv k (A++B)=qv k A++qv (k+((A.map lz).sum:Nat)) B
 |k,[],B=>by simp[qv]
 |k,R::A,B=>by
  rw[List.cons_append,qv,qv,Aq,List.cons_append]
  congr 3
  simp only[List.map_cons,List.sum_cons,lz];omega
def jW (k:Int) (L:List (List Int)) (j:Nat):List (List Int):=qv k (L.take j)++L.drop j
theorem Fw {k:Int} {L:List (List Int)} {j:Nat} (h:j<=L.length):(jW k L j).length=L.length:=by
 rw[jW,List.length_append,lO,List.length_take,List.length_drop];omega
theorem Fv {k:Int} {L:List (List Int)} {j:Nat} (h:j<L.length):(jW k L j)[j]? =some L[j]:=by
 rw[jW,List.getElem?_append_right (by rw[lO,List.length_take];omega),lO,List.length_take,List.getElem?_drop,Nat.min_eq_left ab,Nat.sub_self,Nat.add_zero,List.getElem?_eq_getElem h]
theorem Fx {k:Int} {L:List (List Int)} {j:Nat} (h:j<L.length):(jW k L j).set j (Cm (k+(eW lz L j:Nat)) L[j].length)=jW k L (j+1):=by
 have h1:(qv k (L.take j)).length=j:=by rw[lO,List.length_take];omega
 rw[jW,List.drop_eq_getElem_cons h,jW,List.take_succ_eq_append_getElem h,Aq,List.append_assoc]
 rw[List.set_append_right _ _ ab,h1,Nat.sub_self,List.set_cons_zero]
 rfl
theorem H0 (v:AV) (L:List (List Int)) (ids:List Id) (k:Int) (h0:0<=k) (h1:k+((L.map lz).sum+L.length:Nat)<=4611686018427387904) (σ:ax) (hv:∀i∈ids,i.cq<σ.next) (kQ:ids.Nodup) (hg:fV jT 1 σ.get v L ids):
  Call Tryz.prog 18 [v,.int .i64 k] σ (fun r σ'=>r=.int .i64 (k+(L.map lz).sum)/\m8 σ ids σ'.get σ'.next/\fV jT 1 σ'.get v (qv k L) ids):=by
 obtain⟨o,rows,is,rfl,ho,hR,rfl⟩:=hg
 refine eX dK rfl fun hl=>?_
 clear hl
 have sJ:=hv o (by simp)
 have EZ:=gE lz L
 obtain⟨Lx,SP⟩:=List.nodup_cons.1 kQ
 have hz:jW k L 0=L:=by simp[jW,qv]
 have oO:=hR.len
 (try((repeat(revert hN;revert N;apply Pn.out));refine wk @Nat.zero_add ?_;(repeat(refine Pn.mk ?_;intro N hN))))
 refine aP (fun n env st=>∃j:Nat,n=(L.length)-j/\j<=(L.length)/\env 5=.int .i64 (j:Int)/\env 1=.int .i64 (k+eW lz L j)/\st.get o=some ⟨true,1,rows⟩/\(m8 σ (o::is) st.get st.next/\dw jT st.get rows (jW k L j) is)) (L.length) ⟨0,ab,ab,sl (tw @Int.add_zero (tw @Int.natCast_zero (tw @EZ @ho))),sl (tw @Int.add_zero (tw @Int.natCast_zero (tw @EZ @ho))),sl (tw @Int.add_zero (tw @Int.natCast_zero (tw @EZ @ho))),by(try dsimp only);exact⟨⟨bt,fun x _ _=>rfl⟩,by rw[hz];exact hR⟩⟩ ?_
 rintro n_a env_a st_a ⟨j,rfl,ale,a5,a1,ag0,j0⟩ dm
 have a0:=dm 0 (by kernel_rfl)
 simp only[go_sem, ↓reduceIte,Nat.reduceEqDiff,Nat.reduceAdd,Nat.reduceSub,Nat.reduceLeDiff,reduceCtorEq,Int.add_zero,Int.natCast_zero,EZ,ho]at a0
 clear dm
 obtain⟨⟨an,aF⟩,aR⟩:=j0
 by_cases hj:(j:Int)<(L.length:Int)
 ·have bD:∀{e:Env} {gg:Rows} {nx:Nat},(e 5=.int .i64 (IntKind.i64.wrap ((j:Int)+1)))->(e 1=.int .i64 (k+eW lz L (j+1)))->(gg o=some ⟨true,1,rows⟩)->(m8 σ (o::is) gg nx/\dw jT gg rows (jW k L (j+1)) is)->∃m0,m0<(L.length)-j/\∃j:Nat,m0=(L.length)-j/\j<=(L.length)/\e 5=.int .i64 (j:Int)/\e 1=.int .i64 (k+eW lz L j)/\gg o=some ⟨true,1,rows⟩/\(m8 σ (o::is) gg nx/\dw jT gg rows (jW k L j) is):=fun x1 x2 x3 x4=>⟨_,ab,j+1,rfl,ab,(by rw[x1,ay ab]),x2,x3,x4⟩
  have gm:j<L.length:=ab
  have HE:=mu lz gm
  have hle:=jC lz L (j+1)
  have hlen:=Fw (k:=k) (L:=L) (j:=j) ab
  have jA:(jW k L j)[j]'ab=L[j]:=by
   have:=Fv (k:=k) gm
   rw[List.getElem?_eq_getElem ab]at this
   exact Option.some.inj this
  obtain⟨cs,ic,Ov,hT,n3,MR,uc⟩:=aR.put ug SP j ab
  rw[jA]at hT
  have dP:=Fx (k:=k) gm
  obtain⟨X,hX⟩:∃X,L[j]=X:=⟨_,rfl⟩
  rw[hX]at hT dP HE
  obtain⟨i,rfl,hi,rfl⟩:=hT
  have hwx:lz X=X.length:=rfl
  have PV:i∈is:=MR i (by simp)
  have Lu:i≠o:=fun e=>Lx (e▸PV)
  have hiv:i.cq<σ.next:=hv i (by simp[PV])
  (try((repeat(revert hN;revert N;apply Pn.out));refine wk (tw @a5 (tw @a1 (tw @ag0 (tw @a0 (tw @hj @Ov))))) ?_;(repeat(refine Pn.mk ?_;intro N hN))))
  refine .inr (aO _ _ _ _ _ (fun r σ1 hq=>?_) (DS i X (k+(eW lz L j:Nat)) ab ab _ bt hi))
  obtain⟨g1,x1⟩:=σ1
  obtain⟨rfl,⟨DD,ot⟩,hq3⟩:=hq
  (try dsimp only at DD ot hq3)
  refine hN _ _ ?_
  clear hN N
  have Ox:k+(eW lz L j:Nat)+(X.length:Int)=k+(eW lz L (j+1):Nat):=ab
  have go:=(ot o bt (by simp only[List.mem_singleton];exact fun e=>Lu e.symm)).trans ag0
  (try((repeat(revert hN;revert N;apply Pn.out));refine wk (tw @a5 (tw @a1 (tw @ag0 (tw @a0 (tw @Ox @go))))) ?_;(repeat(refine Pn.mk ?_;intro N hN))))
  refine bD ?_ ?_ ?_ (by(try dsimp only);exact⟨⟨bt,fun x hx wz=>by
   have h4:x≠i:=fun e=>wz (by simp[e,PV])
   rw[ot x bt (by simp[h4])]
   exact aF x hx wz⟩,by
    rw[<-dP]
    exact uc _ _ ⟨i,by rw[gW],by rw[hq3],rfl⟩ fun x hx yV=>ot x (by have:=hv x (by simp[hx]);(try dsimp only);omega) yV⟩)
  all_goals simp only[go_sem, ↓reduceIte,Nat.reduceEqDiff,Nat.reduceAdd,Nat.reduceSub,Nat.reduceLeDiff,reduceCtorEq,a5,a1,ag0,a0,Ox,go]
 ·have gm:j=L.length:=ab
  subst gm
  have dk:=qL lz L
  rw[dk]at a1
  (try((repeat(revert hN;revert N;apply Pn.out));refine wk (tw @a5 (tw @a1 (tw @ag0 (tw @a0 @hj)))) ?_;(repeat(refine Pn.mk ?_;intro N hN))))
  have k7:jW k L L.length=qv k L:=by simp[jW]
  rw[k7]at aR
  exact gn (.inl rfl) (vs:=[.int .i64 (k+(L.map lz).sum)]) (sd (tw @a5 (tw @a1 (tw @ag0 @a0)))) ⟨rfl,⟨bt,fun x hx hi=>aF x hx hi⟩,⟨o,rows,is,by rw[lO],ag0,aR,rfl⟩⟩
theorem Mg (L:List (List Int)):ae Tryz.prog 13 [.sl (L.map kf),.sl (L.map kf)] (.bool true):=by
 refine ae.body dK rfl fun hl n0=>?_
 have hL:L.length<=9223372036854775807:=by simpa using(hl (.sl (L.map kf)) (by simp)).len
 clear hl
 have gy:(L.map kf).length=L.length:=by simp
 have d0:decide ((L.length:Int)=(L.length:Int))=true:=decide_eq_true rfl
 (try((repeat(revert hN;revert N;apply Pn.out));refine wk (tw @gy @d0) ?_;(repeat(refine Pn.mk ?_;intro N hN))))
 refine aP (fun n env st=>∃j:Nat,n=(L.length)-j/\j<=(L.length)/\env 5=.int .i64 (j:Int)) (L.length) ⟨0,ab,ab,sl @gy⟩ ?_
 rintro n_a env_a st_a ⟨j,rfl,ale,a5⟩ dm
 have a0:=dm 0 (by kernel_rfl);have a1:=dm 1 (by kernel_rfl)
 simp only[go_sem, ↓reduceIte,Nat.reduceEqDiff,Nat.reduceAdd,Nat.reduceSub,Nat.reduceLeDiff,reduceCtorEq,gy]at a0 a1
 clear dm
 by_cases hj:(j:Int)<(L.length:Int)
 ·have bD:∀{e:Env},(e 5=.int .i64 (IntKind.i64.wrap ((j:Int)+1)))->∃m0,m0<(L.length)-j/\∃j:Nat,m0=(L.length)-j/\j<=(L.length)/\e 5=.int .i64 (j:Int):=fun x1=>⟨_,ab,j+1,rfl,ab,(by rw[x1,ay ab])⟩
  have gm:j<L.length:=ab
  have dR:(L.map kf)[j]? =some [.sl (L[j].map au)]:=by simp[gm,kf]
  have hh:=tJ L[j] L[j]
  rw[decide_eq_true rfl]at hh
  generalize L[j].map au=M at dR hh
  (repeat(first|((repeat(revert hN;revert N;apply Pn.out));refine wk (tw @a5 (tw @a0 (tw @a1 (tw @hj (tw @dR @gy))))) ?_;(repeat(refine Pn.mk ?_;intro N hN)))|((try apply Or.inl);refine⟨_,ae.x (hh) (sd (tw @a5 (tw @a0 (tw @a1 (tw @hj (tw @dR @gy)))))),?_⟩;refine hN _ _ ?_;clear hN N)))
  exact bD (sd (tw @a5 (tw @a0 (tw @a1 @gy))))
 ·have gm:j=L.length:=ab
  subst gm
  (try((repeat(revert hN;revert N;apply Pn.out));refine wk (tw @a5 (tw @a0 (tw @a1 (tw @hj @gy)))) ?_;(repeat(refine Pn.mk ?_;intro N hN))))
  exact aC (b:=true) (.inl rfl) (sd @Nat.zero_add) rfl
end Go.Proofs.YtihgaadadaekmaaGreatDoor.V

namespace Go.Proofs.YtihgaadadaekmaaGreatDoor.V
open Go.RowKit
variable {g g':Rows} {v:AV} {L:List Int} {ids:List Id}
theorem RT (x:Int) (g:Rows):cm g 5 (au x)=some (au x):=by simp[au,ad,aj,aI]
theorem Pu (x:Int) (g:Rows):dH g 4 (au x)=some (au x):=by simp[au,br,bV,eC]
def lY (g:Rows) (v:AV) (L:List Int) (ids:List Id):Prop:=pa au 1 g v L ids
theorem lY.frame (h:lY g v L ids) (hf:∀i∈ids,g' i=g i):lY g' v L ids:=pa.frame h hf
theorem lY.Fo (h:lY g v L ids):mH au L (DX au v L):=(pa.t h).Fo
theorem lY.Oo (h:lY g v L ids):V.fz (dE g) 6 v=some (DX au v L):=(pa.t h).Oo RT
theorem lY.clean (h:lY g v L ids):v.clean=true:=(pa.t h).clean
theorem lY.hand (h:lY g v L ids):Handed ids g:=(pa.t h).hand clI
theorem lY.s (h:lY g v L ids):fD g 5 v=some (Nv au L):=(pa.t h).s Pu
theorem HY (k:Int) (h0:0<=k) (h1:k+L.length<=4611686018427387904) (σ:ax) (hv:∀i∈ids,i.cq<σ.next) (h:lY σ.get v L ids):
  Call Tryz.prog 23 [v,.int .i64 k] σ (fun r σ'=>r=.int .i64 (k+L.length)/\m8 σ ids σ'.get σ'.next/\lY σ'.get v (Cm k L.length) ids):=HZ k h0 h1 σ hv h
def OT (z m:Nat) (L:List Int) (v:AV) (g:Rows) (n:Nat):Prop:=(L=[]/\v=.bK)∨∃u:Id,v=.own u 0 L.length/\g u=some ⟨true,1,L.map au⟩/\m<=u.cq/\u.cq<n/\0<L.length/\u.site=z
theorem OT.out {z m:Nat} {L:List Int} {v:AV} {g:Rows} {n:Nat} (h:OT z m L v g n):∃ids,lY g v L ids/\eO m n ids:=by
 rcases h with⟨h1,h2⟩|⟨u,h1,h2,h3,h4,h5,_⟩
 ·exact⟨[],.inl ⟨h1,h2,rfl⟩,⟨List.nodup_nil,fun i hi=>by cases hi⟩⟩
 ·exact⟨[u],.inr ⟨u,h1,h2,rfl,h5⟩,⟨List.nodup_cons.2 ⟨by simp,List.nodup_nil⟩,fun i hi=>by rw[List.mem_singleton.1 hi];exact⟨h3,h4⟩⟩⟩
def LR (P:Program) (f:Nat) (args:List AV) (R:List Int×Int):Prop:=
 ∀n:Nat,Call P f args ⟨fun _=>none,n⟩ (fun r σ'=>∃ids,(∃v0 i0,r=.iN [v0,.int .i64 R.2]/\lY σ'.get v0 R.1 i0/\ids=i0)/\eO n σ'.next ids)
end Go.Proofs.YtihgaadadaekmaaGreatDoor.V

namespace Go.Proofs.YtihgaadadaekmaaGreatDoor.V
open Go.RowKit
attribute [local irreducible] ea wpOps gS Call
attribute [local go_sem] aM fQ eM gi gh cE upd cu K.av cL AV.cells AV.cell rowOf rowsOf part ld rowAt bY ck dI eh ij bL da eA gp e8 du eo cY cX dV dW bR bm cQ bQ cT cR ej er ek cP bW cZ ei bP aQ cV cC ig bw cH bS aX dG bu dL AV.undef bF bH dY ef dU ec cF ez eF cw ev eu cU cW List.getD_cons_zero List.getD_cons_succ List.getD_nil List.all_cons List.all_nil Bool.and_true Bool.true_and Bool.and_self Bool.not_true Bool.not_false Option.map_some Option.map_none Option.bind_some Option.bind_none List.length_cons List.length_nil List.take_succ_cons List.take_zero List.take_nil List.drop_succ_cons List.drop_zero List.drop_nil List.head?_cons List.map_cons List.map_nil List.getElem?_cons_zero List.getElem?_cons_succ List.cons_append List.nil_append List.append_nil List.length_map List.set_cons_zero List.set_cons_succ Nat.reduceMul eq_self Int.toNat_natCast Int.natCast_nonneg and_self true_and and_true decide_true decide_false Bool.false_eq_true Nat.zero_add Nat.add_zero List.contains_cons List.contains_nil Bool.or_false Bool.false_or beq_self_eq_true Nat.reduceBEq ne_eq not_true_eq_false not_false_eq_true Id.mk.injEq false_and and_false Nat.reduceLT Int.reduceLE Int.reduceLT Int.reduceToNat Int.reduceNeg Int.reduceAdd Nat.le_refl List.length_append beq_true beq_false Bool.not_eq_eq_eq_not or_false false_or dE ad aj aI bE cj aV bf aU bo cN bG
def fJ (n lo hi:Int):Bool:=decide (lo<=n)&&decide (n<=hi)
theorem dB {n lo hi:Int} (h:fJ n lo hi=true):lo<=n/\n<=hi:=by simpa[fJ]using h
theorem nK {n lo hi:Int} (h:lo<=n/\n<=hi):fJ n lo hi=true:=by simpa[fJ]using h
def Gq (p:cr):Bool:=fJ p.gG (-60) 60&&fJ p.fR (-60) 60
theorem gV (n lo hi:Int):ae Tryz.prog 36 [.int .i64 n,.int .i64 lo,.int .i64 hi] (.bool (fJ n lo hi)):=by
 refine ae.body dK rfl fun hl n0=>?_
 clear hl
 by_cases h1:lo<=n
 ·(try((repeat(revert hN;revert N;apply Pn.out));refine wk @h1 ?_;(repeat(refine Pn.mk ?_;intro N hN))))
  exact aC (b:=decide (n<=hi)) (.inl rfl) (sd @Nat.zero_add) (by simp[fJ,h1])
 ·(try((repeat(revert hN;revert N;apply Pn.out));refine wk @h1 ?_;(repeat(refine Pn.mk ?_;intro N hN))))
  exact aC (b:=false) (.inl rfl) (sd @Nat.zero_add) (by simp[fJ,h1])
theorem iu (n lo hi:Int):ae Tryz.prog 42 [.int .i64 n,.int .i64 lo,.int .i64 hi] (.bool (fJ n lo hi)):=by
 refine ae.body dK rfl fun hl n0=>?_
 clear hl
 by_cases h1:lo<=n
 ·(try((repeat(revert hN;revert N;apply Pn.out));refine wk @h1 ?_;(repeat(refine Pn.mk ?_;intro N hN))))
  exact aC (b:=decide (n<=hi)) (.inl rfl) (sd @Nat.zero_add) (by simp[fJ,h1])
 ·(try((repeat(revert hN;revert N;apply Pn.out));refine wk @h1 ?_;(repeat(refine Pn.mk ?_;intro N hN))))
  exact aC (b:=false) (.inl rfl) (sd @Nat.zero_add) (by simp[fJ,h1])
theorem HL (d:Int):ae Tryz.prog 181 [.int .i64 d] (.bool (fJ d 0 3)):=by
 refine ae.body dK rfl fun hl n0=>?_
 clear hl
 have h:=gV d 0 3
 (repeat(first|((repeat(revert hN;revert N;apply Pn.out));refine wk @Nat.zero_add ?_;(repeat(refine Pn.mk ?_;intro N hN)))|((try apply Or.inl);refine⟨_,ae.x (h) (sd @Nat.zero_add),?_⟩;refine hN _ _ ?_;clear hN N)))
 exact aC (b:=fJ d 0 3) (.inl rfl) (sd @Nat.zero_add) rfl
theorem Cd (p:cr):ae Tryz.prog 129 [.agg (ao p)] (.bool (Gq p)):=by
 refine ae.body dK rfl fun hl n0=>?_
 clear hl
 have h1:=gV p.gG (-60) 60
 have h2:=gV p.fR (-60) 60
 by_cases q:fJ p.gG (-60) 60=true
 ·rw[q]at h1
  (repeat(first|((repeat(revert hN;revert N;apply Pn.out));refine wk @ao.eq_1 ?_;(repeat(refine Pn.mk ?_;intro N hN)))|((try apply Or.inl);refine⟨_,ae.x (h1) (sd @ao.eq_1),?_⟩;refine hN _ _ ?_;clear hN N)|((try apply Or.inl);refine⟨_,ae.x (h2) (sd @ao.eq_1),?_⟩;refine hN _ _ ?_;clear hN N)))
  exact aC (b:=fJ p.fR (-60) 60) (.inl rfl) (sd @Nat.zero_add) (by rw[Gq,q];rfl)
 ·rw[Bool.not_eq_true]at q
  rw[q]at h1
  (repeat(first|((repeat(revert hN;revert N;apply Pn.out));refine wk @ao.eq_1 ?_;(repeat(refine Pn.mk ?_;intro N hN)))|((try apply Or.inl);refine⟨_,ae.x (h1) (sd @ao.eq_1),?_⟩;refine hN _ _ ?_;clear hN N)|((try apply Or.inl);refine⟨_,ae.x (h2) (sd @ao.eq_1),?_⟩;refine hN _ _ ?_;clear hN N)))
  exact aC (b:=false) (.inl rfl) (sd @Nat.zero_add) (by rw[Gq,q];rfl)
theorem xj (p:cr):ae Tryz.prog 135 [.agg (ao p)] (.bool (Gq p)):=by
 refine ae.body dK rfl fun hl n0=>?_
 clear hl
 have h1:=iu p.gG (-60) 60
 have h2:=iu p.fR (-60) 60
 by_cases q:fJ p.gG (-60) 60=true
 ·rw[q]at h1
  (repeat(first|((repeat(revert hN;revert N;apply Pn.out));refine wk @ao.eq_1 ?_;(repeat(refine Pn.mk ?_;intro N hN)))|((try apply Or.inl);refine⟨_,ae.x (h1) (sd @ao.eq_1),?_⟩;refine hN _ _ ?_;clear hN N)|((try apply Or.inl);refine⟨_,ae.x (h2) (sd @ao.eq_1),?_⟩;refine hN _ _ ?_;clear hN N)))
  exact aC (b:=fJ p.fR (-60) 60) (.inl rfl) (sd @Nat.zero_add) (by rw[Gq,q];rfl)
 ·rw[Bool.not_eq_true]at q
  rw[q]at h1
  (repeat(first|((repeat(revert hN;revert N;apply Pn.out));refine wk @ao.eq_1 ?_;(repeat(refine Pn.mk ?_;intro N hN)))|((try apply Or.inl);refine⟨_,ae.x (h1) (sd @ao.eq_1),?_⟩;refine hN _ _ ?_;clear hN N)|((try apply Or.inl);refine⟨_,ae.x (h2) (sd @ao.eq_1),?_⟩;refine hN _ _ ?_;clear hN N)))
  exact aC (b:=false) (.inl rfl) (sd @Nat.zero_add) (by rw[Gq,q];rfl)
def rO (d:Int):Int:=if fJ d 0 3 then(d+2) % 4 else -1
def eL (p:cr) (d:Int):cr:=
 if d=0 then⟨p.gG,p.fR+1⟩else if d=1 then⟨p.gG+1,p.fR⟩else if d=2 then⟨p.gG,p.fR-1⟩else if d=3 then⟨p.gG-1,p.fR⟩else p
def iB (n:Int):Prop:=-4611686018427387904<=n/\n<=4611686018427387904
theorem Fa (p:cr) (d:Int) (hd:fJ d 0 3=true) (hx:iB p.gG) (hy:iB p.fR):ae Tryz.prog 162 [.agg (ao p),.int .i64 d] (.agg (ao (eL p d))):=by
 refine ae.body dK rfl fun hl n0=>?_
 clear hl
 obtain⟨x1,x2⟩:=hx
 obtain⟨y1,y2⟩:=hy
 have w1:IntKind.i64.wrap (p.gG+1)=p.gG+1:=aT ab
 have w2:IntKind.i64.wrap (p.gG-1)=p.gG-1:=aT ab
 have w3:IntKind.i64.wrap (p.fR+1)=p.fR+1:=aT ab
 have w4:IntKind.i64.wrap (p.fR-1)=p.fR-1:=aT ab
 have hb:=dB hd
 have hc:d=0∨d=1∨d=2∨d=3:=ab
 rcases hc with rfl|rfl|rfl|rfl
 ·(try((repeat(revert hN;revert N;apply Pn.out));refine wk (tw @ao.eq_1 @w3) ?_;(repeat(refine Pn.mk ?_;intro N hN))))
  exact jY (.inl rfl) (vs:=[.agg (ao (eL p 0))]) (by simp only[go_sem, ↓reduceIte,Nat.reduceEqDiff,Nat.reduceAdd,Nat.reduceSub,Nat.reduceLeDiff,reduceCtorEq,eV,gM,ao,eL]) (by simp[eB,ao,fD,dH])
 ·(try((repeat(revert hN;revert N;apply Pn.out));refine wk (tw @ao.eq_1 @w1) ?_;(repeat(refine Pn.mk ?_;intro N hN))))
  exact jY (.inl rfl) (vs:=[.agg (ao (eL p 1))]) (by simp[eV,gM,ao,eL,ld,rowAt,bY,upd,part]) (by simp[eB,ao,fD,dH])
 ·(try((repeat(revert hN;revert N;apply Pn.out));refine wk (tw @ao.eq_1 @w4) ?_;(repeat(refine Pn.mk ?_;intro N hN))))
  exact jY (.inl rfl) (vs:=[.agg (ao (eL p 2))]) (by simp[eV,gM,ao,eL,ld,rowAt,bY,upd,part]) (by simp[eB,ao,fD,dH])
 ·(try((repeat(revert hN;revert N;apply Pn.out));refine wk (tw @ao.eq_1 @w2) ?_;(repeat(refine Pn.mk ?_;intro N hN))))
  exact jY (.inl rfl) (vs:=[.agg (ao (eL p 3))]) (by simp[eV,gM,ao,eL,ld,rowAt,bY,upd,part]) (by simp[eB,ao,fD,dH])
theorem yl (p p2:cr) (x y:Int) (hx:IntKind.i64.wrap (p.gG+p2.gG)=x) (hy:IntKind.i64.wrap (p.fR+p2.fR)=y):ae Tryz.prog 194 [.agg (ao p),.agg (ao p2)] (.agg [.int .i64 x,.int .i64 y]):=by
 refine ae.body dK rfl fun hl n0=>?_
 clear hl
 (try((repeat(revert hN;revert N;apply Pn.out));refine wk (tw @ao.eq_1 (tw @hx @hy)) ?_;(repeat(refine Pn.mk ?_;intro N hN))))
 exact jY (.inl rfl) (vs:=[.agg [.int .i64 x,.int .i64 y]]) (by simp only[go_sem, ↓reduceIte,Nat.reduceEqDiff,Nat.reduceAdd,Nat.reduceSub,Nat.reduceLeDiff,reduceCtorEq,eV,gM,ao]) (by simp[eB,fD,dH])
theorem NL (p:cr) (d:Int) (hd:fJ d 0 3=true) (hx:iB p.gG) (hy:iB p.fR):ae Tryz.prog 188 [.agg (ao p),.int .i64 d] (.agg (ao (eL p d))):=by
 refine ae.body dK rfl fun hl n0=>?_
 clear hl
 obtain⟨x1,x2⟩:=hx
 obtain⟨y1,y2⟩:=hy
 have hb:=dB hd
 have hc:d=0∨d=1∨d=2∨d=3:=ab
 rcases hc with rfl|rfl|rfl|rfl
 ·have h:=yl p ⟨0,1⟩ (p.gG) (p.fR+1) (by rw[aT (by constructor<;>simp only<;>omega)]<;>(try simp only)<;>(try omega)) (by rw[aT (by constructor<;>simp only<;>omega)]<;>(try simp only)<;>(try omega))
  simp only[ao]at h
  (repeat(first|((repeat(revert hN;revert N;apply Pn.out));refine wk @ao.eq_1 ?_;(repeat(refine Pn.mk ?_;intro N hN)))|((try apply Or.inl);refine⟨_,ae.x (h) (sd @ao.eq_1),?_⟩;refine hN _ _ ?_;clear hN N)))
  exact jY (.inl rfl) (vs:=[.agg (ao (eL p 0))]) (by simp[eV,gM,ao,eL,ld,rowAt,bY,upd,part]) (by simp[eB,ao,fD,dH])
 ·have h:=yl p ⟨1,0⟩ (p.gG+1) (p.fR) (by rw[aT (by constructor<;>simp only<;>omega)]<;>(try simp only)<;>(try omega)) (by rw[aT (by constructor<;>simp only<;>omega)]<;>(try simp only)<;>(try omega))
  simp only[ao]at h
  (repeat(first|((repeat(revert hN;revert N;apply Pn.out));refine wk @ao.eq_1 ?_;(repeat(refine Pn.mk ?_;intro N hN)))|((try apply Or.inl);refine⟨_,ae.x (h) (sd @ao.eq_1),?_⟩;refine hN _ _ ?_;clear hN N)))
  exact jY (.inl rfl) (vs:=[.agg (ao (eL p 1))]) (by simp[eV,gM,ao,eL,ld,rowAt,bY,upd,part]) (by simp[eB,ao,fD,dH])
 ·have h:=yl p ⟨0,(-1)⟩ (p.gG) (p.fR-1) (by rw[aT (by constructor<;>simp only<;>omega)]<;>(try simp only)<;>(try omega)) (by rw[aT (by constructor<;>simp only<;>omega)]<;>(try simp only)<;>(try omega))
  simp only[ao]at h
  (repeat(first|((repeat(revert hN;revert N;apply Pn.out));refine wk @ao.eq_1 ?_;(repeat(refine Pn.mk ?_;intro N hN)))|((try apply Or.inl);refine⟨_,ae.x (h) (sd @ao.eq_1),?_⟩;refine hN _ _ ?_;clear hN N)))
  exact jY (.inl rfl) (vs:=[.agg (ao (eL p 2))]) (by simp[eV,gM,ao,eL,ld,rowAt,bY,upd,part]) (by simp[eB,ao,fD,dH])
 ·have h:=yl p ⟨(-1),0⟩ (p.gG-1) (p.fR) (by rw[aT (by constructor<;>simp only<;>omega)]<;>(try simp only)<;>(try omega)) (by rw[aT (by constructor<;>simp only<;>omega)]<;>(try simp only)<;>(try omega))
  simp only[ao]at h
  (repeat(first|((repeat(revert hN;revert N;apply Pn.out));refine wk @ao.eq_1 ?_;(repeat(refine Pn.mk ?_;intro N hN)))|((try apply Or.inl);refine⟨_,ae.x (h) (sd @ao.eq_1),?_⟩;refine hN _ _ ?_;clear hN N)))
  exact jY (.inl rfl) (vs:=[.agg (ao (eL p 3))]) (by simp[eV,gM,ao,eL,ld,rowAt,bY,upd,part]) (by simp[eB,ao,fD,dH])
theorem Ct (d:Int) (hd:fJ d 0 3=true):ae Tryz.prog 189 [.int .i64 d] (.int .i64 (rO d)):=by
 refine ae.body dK rfl fun hl n0=>?_
 clear hl
 have hb:=dB hd
 have hw:IntKind.i64.wrap (d+2)=d+2:=aT ab
 have ht:Int.tmod (d+2) 4=(d+2) % 4:=Int.tmod_eq_emod_of_nonneg ab
 have h4:¬((4:Int)=0):=ab
 (try((repeat(revert hN;revert N;apply Pn.out));refine wk (tw @hw (tw @ht @h4)) ?_;(repeat(refine Pn.mk ?_;intro N hN))))
 exact aZ (b:=(d+2) % 4) (.inl rfl) (sd @Nat.zero_add) (by rw[rO,if_pos hd])
theorem A9 (d:Int) (hd:fJ d 0 3=true):ae Tryz.prog 163 [.int .i64 d] (.int .i64 (rO d)):=by
 refine ae.body dK rfl fun hl n0=>?_
 clear hl
 have hb:=dB hd
 have hw:IntKind.i64.wrap (d+2)=d+2:=aT ab
 have ht:Int.tmod (d+2) 4=(d+2) % 4:=Int.tmod_eq_emod_of_nonneg ab
 have h4:¬((4:Int)=0):=ab
 have h:=HL d
 rw[hd]at h
 (repeat(first|((repeat(revert hN;revert N;apply Pn.out));refine wk (tw @hw (tw @ht @h4)) ?_;(repeat(refine Pn.mk ?_;intro N hN)))|((try apply Or.inl);refine⟨_,ae.x (h) (sd (tw @hw (tw @ht @h4))),?_⟩;refine hN _ _ ?_;clear hN N)))
 exact aZ (b:=(d+2) % 4) (.inl rfl) (sd @Nat.zero_add) (by rw[rO,if_pos hd])
def gC (s:ar) (t:Int):Bool:=fJ t 0 ((s.ah.length:Int)-1)
theorem Ce (s:ar) (t:Int):ae Tryz.prog 96 [.cJ (aa s),.int .i64 t] (.bool (gC s t)):=by
 refine ae.body dK rfl fun hl n0=>?_
 have hn:s.ah.length<=9223372036854775807:=by
  have h1:=(hl (.cJ (aa s)) (by simp)).uh (a:=.sl (s.ah.map bj)) (by simp[aa])
  simpa using h1.len
 clear hl
 have hw:IntKind.i64.wrap ((s.ah.length:Int)-1)=(s.ah.length:Int)-1:=aT ab
 have h:=gV t 0 ((s.ah.length:Int)-1)
 (repeat(first|((repeat(revert hN;revert N;apply Pn.out));refine wk (tw @aa.eq_1 @hw) ?_;(repeat(refine Pn.mk ?_;intro N hN)))|((try apply Or.inl);refine⟨_,ae.x (h) (sd (tw @aa.eq_1 @hw)),?_⟩;refine hN _ _ ?_;clear hN N)))
 exact aC (b:=gC s t) (.inl rfl) (by simp only[go_sem, ↓reduceIte,Nat.reduceEqDiff,Nat.reduceAdd,Nat.reduceSub,Nat.reduceLeDiff,reduceCtorEq,gC]) rfl
theorem rL (t n:Int) (h0:0<=n) (h1:n<=9223372036854775807):ae Tryz.prog 136 [.int .i64 t,.int .i64 n] (.bool (fJ t 0 (n-1))):=by
 refine ae.body dK rfl fun hl n0=>?_
 clear hl
 have hw:IntKind.i64.wrap (n-1)=n-1:=aT ab
 have h:=iu t 0 (n-1)
 (repeat(first|((repeat(revert hN;revert N;apply Pn.out));refine wk @hw ?_;(repeat(refine Pn.mk ?_;intro N hN)))|((try apply Or.inl);refine⟨_,ae.x (h) (sd @hw),?_⟩;refine hN _ _ ?_;clear hN N)))
 exact aC (b:=fJ t 0 (n-1)) (.inl rfl) (sd @Nat.zero_add) rfl
theorem HK (s:ar) (t:Int):ae Tryz.prog 106 [.agg (aa s),.int .i64 t] (.bool (gC s t)):=by
 refine ae.body dK rfl fun hl n0=>?_
 have hn:s.ah.length<=9223372036854775807:=by
  have h1:=(hl (.agg (aa s)) (by simp)).GI (a:=.sl (s.ah.map bj)) (by simp[aa])
  simpa using h1.len
 clear hl
 have h:=rL t s.ah.length ab ab
 (repeat(first|((repeat(revert hN;revert N;apply Pn.out));refine wk @aa.eq_1 ?_;(repeat(refine Pn.mk ?_;intro N hN)))|((try apply Or.inl);refine⟨_,ae.x (h) (sd @aa.eq_1),?_⟩;refine hN _ _ ?_;clear hN N)))
 exact aC (b:=gC s t) (.inl rfl) (by simp only[go_sem, ↓reduceIte,Nat.reduceEqDiff,Nat.reduceAdd,Nat.reduceSub,Nat.reduceLeDiff,reduceCtorEq,gC]) rfl
def Cp:eJ:=⟨⟨#[]⟩,[]⟩
def dd (s:ar) (t:Int):eJ:=s.ah.getD t.toNat Cp
def dc (t:eJ) (d:Int):Int:=t.bp.getD d.toNat 0
def iD (s:ar) (g:Int):fe:=s.aw.getD g.toNat ⟨⟨#[]⟩,0⟩
def uN (s:ar) (g:Int):Int:=if g=0 then 0 else(iD s (g-1)).dQ
def iT (s:ar) (a d b:Int):Int:=if dc (dd s a) d=dc (dd s b) (rO d)then uN s (dc (dd s a) d)else 0
structure iG (s:ar):Prop where
 nV:∀t∈s.ah,t.bp.length=4
 sf:∀t∈s.ah,∀g∈t.bp,0<=g/\g<=s.aw.length
theorem getD_map {α β:Type} (e:α->β) {l:List α} {k:Nat} {d:α} (h:k<l.length):(l.map e)[k]? =some (e (l.getD k d)):=by simp[List.getD_eq_getElem?_getD,h]
theorem vJ (s:ar) (g:Int) (h0:0<=g) (h1:g<=s.aw.length):ae Tryz.prog 164 [.cJ (aa s),.int .i64 g] (.int .i64 (uN s g)):=by
 refine ae.body dK rfl fun hl n0=>?_
 have hn:s.aw.length<=9223372036854775807:=by
  have h1:=(hl (.cJ (aa s)) (by simp)).uh (a:=.sl (s.aw.map bd)) (by simp[aa])
  simpa using h1.len
 clear hl
 by_cases hg:g=0
 ·have e:decide (g=0)=true:=decide_eq_true hg
  (try((repeat(revert hN;revert N;apply Pn.out));refine wk (tw @aa.eq_1 @e) ?_;(repeat(refine Pn.mk ?_;intro N hN))))
  exact aZ (b:=0) (.inl rfl) (sd @Nat.zero_add) (by rw[uN,if_pos hg])
 ·have e:decide (g=0)=false:=decide_eq_false hg
  have hw:IntKind.i64.wrap (g-1)=g-1:=aT ab
  have jA:0<=g-1:=ab
  have dR:(s.aw.map bd)[(g-1).toNat]? =some (bd (iD s (g-1))):=getD_map bd ab
  (try((repeat(revert hN;revert N;apply Pn.out));refine wk (tw @aa.eq_1 (tw @e (tw @hw (tw @jA (tw @dR @bd.eq_1))))) ?_;(repeat(refine Pn.mk ?_;intro N hN))))
  exact aZ (b:=(iD s (g-1)).dQ) (.inl rfl) (sd @Nat.zero_add) (by rw[uN,if_neg hg])
theorem kH {s:ar} {a:Int} (h:gC s a=true):0<=a/\(s.ah.map bj)[a.toNat]? =some (bj (dd s a))/\dd s a∈s.ah:=by
 have h':=dB h
 have dD:a.toNat<s.ah.length:=ab
 refine⟨h'.1,getD_map bj dD,?_⟩
 unfold dd
 rw[List.getD_eq_getElem?_getD,List.getElem?_eq_getElem dD]
 exact List.getElem_mem dD
theorem kE {t:eJ} {d:Int} (h:t.bp.length=4) (hd:fJ d 0 3=true):(t.bp.map au)[d.toNat]? =some [.int .i64 (dc t d)]:=by
 have:=dB hd
 exact getD_map au ab
theorem qI {t:eJ} {d:Int} (h:t.bp.length=4) (hd:fJ d 0 3=true):dc t d∈t.bp:=by
 have:=dB hd
 have dD:d.toNat<t.bp.length:=ab
 unfold dc
 rw[List.getD_eq_getElem?_getD,List.getElem?_eq_getElem dD]
 exact List.getElem_mem dD
theorem yk {d:Int} (hd:fJ d 0 3=true):fJ (rO d) 0 3=true:=by
 have:=dB hd
 refine nK ?_
 rw[rO,if_pos hd];omega
theorem Fb (s:ar) (hF:iG s) (a d b:Int) (ha:gC s a=true) (hb:gC s b=true) (hd:fJ d 0 3=true):ae Tryz.prog 149 [.cJ (aa s),.int .i64 a,.int .i64 d,.int .i64 b] (.int .i64 (iT s a d b)):=by
 refine ae.body dK rfl fun hl n0=>?_
 clear hl
 obtain⟨a0,a1,a2⟩:=kH ha
 obtain⟨b0,b1,b2⟩:=kH hb
 have s1:=kE (hF.nV _ a2) hd
 have s2:=kE (hF.nV _ b2) (yk hd)
 have gl:=hF.sf _ a2 _ (qI (hF.nV _ a2) hd)
 have d0:=(dB hd).1
 have d1:=(dB (yk hd)).1
 have h:=A9 d hd
 have hs:=vJ s (dc (dd s a) d) gl.1 gl.2
 rw[aa]at hs
 by_cases e:dc (dd s a) d=dc (dd s b) (rO d)
 ·have e':decide (dc (dd s a) d=dc (dd s b) (rO d))=true:=decide_eq_true e
  (repeat(first|((repeat(revert hN;revert N;apply Pn.out));refine wk (tw @aa.eq_1 (tw @bj.eq_1 (tw @a0 (tw @a1 (tw @b0 (tw @b1 (tw @s1 (tw @s2 (tw @d0 (tw @d1 @e')))))))))) ?_;(repeat(refine Pn.mk ?_;intro N hN)))|((try apply Or.inl);refine⟨_,ae.x (h) (sd (tw @aa.eq_1 (tw @bj.eq_1 (tw @a0 (tw @a1 (tw @b0 (tw @b1 (tw @s1 (tw @s2 (tw @d0 (tw @d1 @e'))))))))))),?_⟩;refine hN _ _ ?_;clear hN N)|((try apply Or.inl);refine⟨_,ae.x (hs) (sd (tw @aa.eq_1 (tw @bj.eq_1 (tw @a0 (tw @a1 (tw @b0 (tw @b1 (tw @s1 (tw @s2 (tw @d0 (tw @d1 @e'))))))))))),?_⟩;refine hN _ _ ?_;clear hN N)))
  exact aZ (b:=uN s (dc (dd s a) d)) (.inl rfl) (sd @Nat.zero_add) (by rw[iT,if_pos e])
 ·have e':decide (dc (dd s a) d=dc (dd s b) (rO d))=false:=decide_eq_false e
  (repeat(first|((repeat(revert hN;revert N;apply Pn.out));refine wk (tw @aa.eq_1 (tw @bj.eq_1 (tw @a0 (tw @a1 (tw @b0 (tw @b1 (tw @s1 (tw @s2 (tw @d0 (tw @d1 @e')))))))))) ?_;(repeat(refine Pn.mk ?_;intro N hN)))|((try apply Or.inl);refine⟨_,ae.x (h) (sd (tw @aa.eq_1 (tw @bj.eq_1 (tw @a0 (tw @a1 (tw @b0 (tw @b1 (tw @s1 (tw @s2 (tw @d0 (tw @d1 @e'))))))))))),?_⟩;refine hN _ _ ?_;clear hN N)))
  exact aZ (b:=0) (.inl rfl) (sd @Nat.zero_add) (by rw[iT,if_neg e])
theorem CN (s:ar) (hF:iG s) (a d:Int) (ha:gC s a=true) (hd:fJ d 0 3=true):ae Tryz.prog 190 [.agg (aa s),.int .i64 a,.int .i64 d] (.int .i64 (uN s (dc (dd s a) d))):=by
 refine ae.body dK rfl fun hl n0=>?_
 have hn:s.aw.length<=9223372036854775807:=by
  have h1:=(hl (.agg (aa s)) (by simp)).GI (a:=.sl (s.aw.map bd)) (by simp[aa])
  simpa using h1.len
 clear hl
 obtain⟨a0,a1,a2⟩:=kH ha
 have s1:=kE (hF.nV _ a2) hd
 have gl:=hF.sf _ a2 _ (qI (hF.nV _ a2) hd)
 have d0:=(dB hd).1
 by_cases hg:dc (dd s a) d=0
 ·have e:¬(0<dc (dd s a) d):=ab
  (try((repeat(revert hN;revert N;apply Pn.out));refine wk (tw @aa.eq_1 (tw @bj.eq_1 (tw @a0 (tw @a1 (tw @s1 (tw @d0 @e)))))) ?_;(repeat(refine Pn.mk ?_;intro N hN))))
  exact aZ (b:=0) (.inl rfl) (sd @Nat.zero_add) (by rw[uN,if_pos hg])
 ·have e:0<dc (dd s a) d:=ab
  have hw:IntKind.i64.wrap (dc (dd s a) d-1)=dc (dd s a) d-1:=aT ab
  have jA:0<=dc (dd s a) d-1:=ab
  have dR:(s.aw.map bd)[(dc (dd s a) d-1).toNat]? =some (bd (iD s (dc (dd s a) d-1))):=getD_map bd ab
  (try((repeat(revert hN;revert N;apply Pn.out));refine wk (tw @aa.eq_1 (tw @bj.eq_1 (tw @a0 (tw @a1 (tw @s1 (tw @d0 (tw @e (tw @hw (tw @jA (tw @dR @bd.eq_1)))))))))) ?_;(repeat(refine Pn.mk ?_;intro N hN))))
  exact aZ (b:=(iD s (dc (dd s a) d-1)).dQ) (.inl rfl) (sd @Nat.zero_add) (by rw[uN,if_neg hg])
theorem L5 (s:ar) (hF:iG s) (a d b:Int) (ha:gC s a=true) (hb:gC s b=true) (hd:fJ d 0 3=true):ae Tryz.prog 173 [.agg (aa s),.int .i64 a,.int .i64 d,.int .i64 b] (.int .i64 (iT s a d b)):=by
 refine ae.body dK rfl fun hl n0=>?_
 clear hl
 obtain⟨a0,a1,a2⟩:=kH ha
 obtain⟨b0,b1,b2⟩:=kH hb
 have s1:=kE (hF.nV _ a2) hd
 have s2:=kE (hF.nV _ b2) (yk hd)
 have d0:=(dB hd).1
 have d1:=(dB (yk hd)).1
 have h:=Ct d hd
 have hs:=CN s hF a d ha hd
 rw[aa]at hs
 by_cases e:dc (dd s a) d=dc (dd s b) (rO d)
 ·have e':decide (dc (dd s a) d=dc (dd s b) (rO d))=true:=decide_eq_true e
  (repeat(first|((repeat(revert hN;revert N;apply Pn.out));refine wk (tw @aa.eq_1 (tw @bj.eq_1 (tw @a0 (tw @a1 (tw @b0 (tw @b1 (tw @s1 (tw @s2 (tw @d0 (tw @d1 @e')))))))))) ?_;(repeat(refine Pn.mk ?_;intro N hN)))|((try apply Or.inl);refine⟨_,ae.x (h) (sd (tw @aa.eq_1 (tw @bj.eq_1 (tw @a0 (tw @a1 (tw @b0 (tw @b1 (tw @s1 (tw @s2 (tw @d0 (tw @d1 @e'))))))))))),?_⟩;refine hN _ _ ?_;clear hN N)|((try apply Or.inl);refine⟨_,ae.x (hs) (sd (tw @aa.eq_1 (tw @bj.eq_1 (tw @a0 (tw @a1 (tw @b0 (tw @b1 (tw @s1 (tw @s2 (tw @d0 (tw @d1 @e'))))))))))),?_⟩;refine hN _ _ ?_;clear hN N)))
  exact aZ (b:=uN s (dc (dd s a) d)) (.inl rfl) (sd @Nat.zero_add) (by rw[iT,if_pos e])
 ·have e':decide (dc (dd s a) d=dc (dd s b) (rO d))=false:=decide_eq_false e
  (repeat(first|((repeat(revert hN;revert N;apply Pn.out));refine wk (tw @aa.eq_1 (tw @bj.eq_1 (tw @a0 (tw @a1 (tw @b0 (tw @b1 (tw @s1 (tw @s2 (tw @d0 (tw @d1 @e')))))))))) ?_;(repeat(refine Pn.mk ?_;intro N hN)))|((try apply Or.inl);refine⟨_,ae.x (h) (sd (tw @aa.eq_1 (tw @bj.eq_1 (tw @a0 (tw @a1 (tw @b0 (tw @b1 (tw @s1 (tw @s2 (tw @d0 (tw @d1 @e'))))))))))),?_⟩;refine hN _ _ ?_;clear hN N)))
  exact aZ (b:=0) (.inl rfl) (sd @Nat.zero_add) (by rw[iT,if_neg e])
def oX (s:ar) (i:Nat):fe:=s.aw.getD i ⟨⟨#[]⟩,0⟩
def nX (s:ar) (i:Nat):eJ:=s.ah.getD i Cp
def A8 (s:ar) (i:Nat):Prop:=jq (oX s i).aB=true/\fJ (oX s i).dQ 1 4=true/\∀j,j<i->(oX s j).aB≠(oX s i).aB
def y6 (s:ar) (i:Nat):Prop:=jq (nX s i).aB=true/\(nX s i).bp.length=4/\(∀j,j<i->(nX s j).aB≠(nX s i).aB)/\∀g∈(nX s i).bp,fJ g 0 s.aw.length=true
structure l5 (s:ar):Prop where
 sf:s.aw.length<=200
 some:1<=s.ah.length
 LM:s.ah.length<=160
 RV:∀i,i<s.aw.length->A8 s i
 tok:∀i,i<s.ah.length->y6 s i
noncomputable def pK (s:ar):Bool:=@decide (l5 s) (Classical.propDecidable _)
theorem lR {s:ar}:pK s=true↔l5 s:=by simp[pK]
theorem fo {s:ar} (h:¬l5 s):false=pK s:=by simp[pK,h]
theorem AF {s:ar} (h:l5 s):true=pK s:=by simp[pK,h]
theorem yD {s:ar} {i:Nat} (h:i<s.ah.length):(s.ah.map bj)[i]? =some (bj (nX s i)):=getD_map bj h
theorem xM {s:ar} {i:Nat} (h:i<s.aw.length):(s.aw.map bd)[i]? =some (bd (oX s i)):=getD_map bd h
theorem l5.form {s:ar} (h:l5 s):iG s:=by
 have key:∀t∈s.ah,∃i,i<s.ah.length/\t=nX s i:=fun t ht=>by
  obtain⟨i,hi,rfl⟩:=List.getElem_of_mem ht
  exact⟨i,hi,by simp[nX,List.getD_eq_getElem?_getD,hi]⟩
 refine⟨fun t ht=>?_,fun t ht g hg=>?_⟩
 ·obtain⟨i,hi,rfl⟩:=key t ht
  exact(h.tok i hi).2.1
 ·obtain⟨i,hi,rfl⟩:=key t ht
  exact dB ((h.tok i hi).2.2.2 g hg)
def dp (l:List ByteArray):List (List AV):=l.map fun n=>[.str n,.bool true]
abbrev mS:MK:=⟨false,[.tS]⟩
theorem w5 (n:ByteArray):∀(l:List ByteArray) (i:Nat),∃r,gZ mS [.str n] (dp l) i=some r/\((r=none/\n∉l)∨∃j,r=some (i+j)/\n∈l/\(dp l)[j]? =some [.str n,.bool true])
 |[],i=>⟨none,rfl,.inl ⟨rfl,by simp⟩⟩
 |m::l,i=>by
  obtain⟨r,h1,h2⟩:=w5 n l (i+1)
  by_cases h:n=m
  ·subst h
   exact⟨some i,by simp[dp,gZ,e8,gp,MK.ks],.inr ⟨0,rfl,by simp,rfl⟩⟩
  ·refine⟨r,?_,?_⟩
   ·unfold dp at h1 ⊢
    simp only[List.map_cons,gZ,MK.ks,List.length_cons,List.length_nil,Nat.zero_add,List.take_succ_cons,List.take_zero,e8,gp,h,decide_false,Bool.and_true]
    exact h1
   ·rcases h2 with⟨rfl,h2⟩|⟨j,rfl,h2,h3⟩
    ·exact .inl ⟨rfl,by simp[h,h2]⟩
    ·exact .inr ⟨j+1,by congr 1;omega,by simp[h2],by simpa[dp]using h3⟩
theorem uL (n:ByteArray) (l:List ByteArray):(n∉l/\gQ mS (.str n) (dp l)=some none)∨∃j,n∈l/\gQ mS (.str n) (dp l)=some (some j)/\(dp l)[j]? =some [.str n,.bool true]:=by
 obtain⟨r,h1,h2⟩:=w5 n l 0
 have e:gQ mS (.str n) (dp l)=some r:=by
  unfold gQ
  rw[if_pos ⟨rfl,rfl,rfl⟩];exact h1
 rcases h2 with⟨rfl,h2⟩|⟨j,rfl,h2,h3⟩
 ·exact .inl ⟨h2,e⟩
 ·exact .inr ⟨j,h2,by rw[e,Nat.zero_add],h3⟩
theorem NJ (s:ar) (g:Int):ae Tryz.prog 134 [.int .i64 g,.cJ (aa s)] (.bool (!fJ g 0 s.aw.length)):=by
 refine ae.body dK rfl fun hl n0=>?_
 clear hl
 have h:=iu g 0 s.aw.length
 (repeat(first|((repeat(revert hN;revert N;apply Pn.out));refine wk @aa.eq_1 ?_;(repeat(refine Pn.mk ?_;intro N hN)))|((try apply Or.inl);refine⟨_,ae.x (h) (sd @aa.eq_1),?_⟩;refine hN _ _ ?_;clear hN N)))
 exact aC (b:= !fJ g 0 s.aw.length) (.inl rfl) (sd @Nat.zero_add) rfl
theorem JH:Of au (fun c=>.int .i64 c) 1 false:=⟨fun _=>rfl,fun _=>rfl,fun x g=>by rw[ad,aI,aj];rfl⟩
theorem KV (s:ar) (l:List Int) (hl:l.length<=1048576):ae Tryz.prog 133 [.sl (l.map au),.fn 134 [.cJ (aa s)]] (.bool (l.any fun g=> !fJ g 0 s.aw.length)):=
 ke JH (show kO Tryz.prog 133=some (xQ 133 156) by kernel_rfl)
  (show kO Tryz.prog 156=some (rI 156 1 false) by kernel_rfl) l hl _ _ _ rfl (fun g=>by rw[ad,aU,aj];rfl) (fun x _=>NJ s x) fun g=>by rw[ad,aU,aj];rfl
theorem uw {α:Type} (f:Nat->α) (n k:Nat) (x:α):x∉(List.range k).map f↔∀j,j<k->f j≠x:=by
 constructor
 ·intro h j hj he
  exact h (List.mem_map.2 ⟨j,List.mem_range.2 hj,he⟩)
 ·intro h hm
  obtain⟨j,hj,he⟩:=List.mem_map.1 hm
  exact h j (List.mem_range.1 hj) he
theorem Bc (s:ar) (hn:fA s) (hg:s.aw.length<=1048576) (ht:s.ah.length<=1048576) (hs:∀t∈s.ah,t.bp.length<=1048576):ae Tryz.prog 102 [.agg (aa s)] (.bool (pK s)):=by
 refine ae.body dK rfl fun hl n0=>?_
 clear hl
 have ML:∀i,i<s.aw.length->(oX s i).aB.size<=9223372036854775807:=fun i hi=>hn.1 _ (by simp[oX,List.getD_eq_getElem?_getD,hi])
 have S5:∀i,i<s.ah.length->(nX s i).aB.size<=9223372036854775807:=fun i hi=>hn.2 _ (by simp[nX,List.getD_eq_getElem?_getD,hi])
 have vH:∀i,i<s.ah.length->(nX s i).bp.length<=1048576:=fun i hi=>hs _ (by simp[nX,List.getD_eq_getElem?_getD,hi])
 have hw:=iu (s.ah.length:Int) 1 160
 by_cases h1:(200:Int)<(s.aw.length:Int)
 ·(try((repeat(revert hN;revert N;apply Pn.out));refine wk (tw @aa.eq_1 @h1) ?_;(repeat(refine Pn.mk ?_;intro N hN))))
  exact aC (b:=false) (.inl rfl) (sd @Nat.zero_add) (fo fun h=>by have:=h.sf;omega)
 by_cases h2:fJ (s.ah.length:Int) 1 160=true
 ·have yP:=dB h2
  rw[h2]at hw
  (repeat(first|((repeat(revert hN;revert N;apply Pn.out));refine wk (tw @aa.eq_1 @h1) ?_;(repeat(refine Pn.mk ?_;intro N hN)))|((try apply Or.inl);refine⟨_,ae.x (hw) (sd (tw @aa.eq_1 @h1)),?_⟩;refine hN _ _ ?_;clear hN N)))
  refine aP (fun n env st=>∃k:Nat,n=(s.aw.length)-k/\k<=(s.aw.length)/\env 24=.int .i64 (k:Int)/\st.get ⟨102000000,n0⟩=some ⟨true,2,[aa s]⟩/\st.get ⟨102003000,n0+1+1⟩=some ⟨true,mS.CD,dp ((List.range k).map fun i=>(oX s i).aB)⟩/\(∀j:Nat,j<k->A8 s j)) (s.aw.length) ⟨0,ab,ab,by(try simp only[go_sem, ↓reduceIte,Nat.reduceEqDiff,Nat.reduceAdd,Nat.reduceSub,Nat.reduceLeDiff,reduceCtorEq,aa,List.range_zero,List.map_nil,dp]);try rfl,by(try simp only[go_sem, ↓reduceIte,Nat.reduceEqDiff,Nat.reduceAdd,Nat.reduceSub,Nat.reduceLeDiff,reduceCtorEq,aa,List.range_zero,List.map_nil,dp]);try rfl,by(try simp only[go_sem, ↓reduceIte,Nat.reduceEqDiff,Nat.reduceAdd,Nat.reduceSub,Nat.reduceLeDiff,reduceCtorEq,aa,List.range_zero,List.map_nil,dp]);try rfl,fun _ h=>absurd h (Nat.not_lt_zero _)⟩ ?_
  rintro n_a env_a st_a ⟨k,rfl,ale,oU,ag0,ag1,iO⟩ dm
  have a1:=dm 1 (by kernel_rfl);have a3:=dm 3 (by kernel_rfl);have oG:=dm 22 (by kernel_rfl);have oH:=dm 23 (by kernel_rfl)
  simp only[go_sem, ↓reduceIte,Nat.reduceEqDiff,Nat.reduceAdd,Nat.reduceSub,Nat.reduceLeDiff,reduceCtorEq,aa,List.range_zero,List.map_nil,dp]at a1 a3 oG oH
  clear dm
  by_cases hk:(k:Int)<(s.aw.length:Int)
  ·have bD:∀{e:Env} {gg:Rows},(e 24=.int .i64 (IntKind.i64.wrap ((k:Int)+1)))->(gg ⟨102000000,n0⟩=some ⟨true,2,[aa s]⟩)->(gg ⟨102003000,n0+1+1⟩=some ⟨true,mS.CD,dp ((List.range (k+1)).map fun i=>(oX s i).aB)⟩)->(A8 s k)->∃m0,m0<(s.aw.length)-k/\∃k:Nat,m0=(s.aw.length)-k/\k<=(s.aw.length)/\e 24=.int .i64 (k:Int)/\gg ⟨102000000,n0⟩=some ⟨true,2,[aa s]⟩/\gg ⟨102003000,n0+1+1⟩=some ⟨true,mS.CD,dp ((List.range k).map fun i=>(oX s i).aB)⟩/\(∀j:Nat,j<k->A8 s j):=fun x1 x2 x3 x4=>⟨_,ab,k+1,rfl,ab,(by rw[x1,ay ab]),x2,x3,(all_succ iO x4)⟩
   have dX:k<s.aw.length:=ab
   have eD:=xM dX
   have qY:=DK (oX s k).aB (ML k dX)
   have Jn:=iu (oX s k).dQ 1 4
   have z4:=uL (oX s k).aB ((List.range k).map fun i=>(oX s i).aB)
   rw[uw _ k]at z4
   have lg:(¬A8 s k)->¬l5 s:=fun h hp=>h (hp.RV k dX)
   generalize sZ:oX s k=gl at *
   cases hb:jq gl.aB
   ·rw[hb]at qY
    (repeat(first|((repeat(revert hN;revert N;apply Pn.out));refine wk (tw @oU (tw @ag0 (tw @ag1 (tw @a1 (tw @a3 (tw @oG (tw @oH (tw @hk (tw @eD (tw @bd.eq_1 @aa.eq_1)))))))))) ?_;(repeat(refine Pn.mk ?_;intro N hN)))|((try apply Or.inl);refine⟨_,ae.x (qY) (sd (tw @oU (tw @ag0 (tw @ag1 (tw @a1 (tw @a3 (tw @oG (tw @oH (tw @hk (tw @eD (tw @bd.eq_1 @aa.eq_1))))))))))),?_⟩;refine hN _ _ ?_;clear hN N)))
    exact aC (b:=false) (.inl rfl) (sd @Nat.zero_add) (fo (lg fun h=>by rw[A8,sZ,hb]at h;cases h.1))
   ·rw[hb]at qY
    rcases z4 with⟨BT,mY⟩|⟨j,fP,mY,fI⟩
    ·cases ew:fJ gl.dQ 1 4
     ·rw[ew]at Jn
      (repeat(first|((repeat(revert hN;revert N;apply Pn.out));refine wk (tw @oU (tw @ag0 (tw @ag1 (tw @a1 (tw @a3 (tw @oG (tw @oH (tw @hk (tw @eD (tw @mY (tw @bd.eq_1 @aa.eq_1))))))))))) ?_;(repeat(refine Pn.mk ?_;intro N hN)))|((try apply Or.inl);refine⟨_,ae.x (qY) (sd (tw @oU (tw @ag0 (tw @ag1 (tw @a1 (tw @a3 (tw @oG (tw @oH (tw @hk (tw @eD (tw @mY (tw @bd.eq_1 @aa.eq_1)))))))))))),?_⟩;refine hN _ _ ?_;clear hN N)|((try apply Or.inl);refine⟨_,ae.x (Jn) (sd (tw @oU (tw @ag0 (tw @ag1 (tw @a1 (tw @a3 (tw @oG (tw @oH (tw @hk (tw @eD (tw @mY (tw @bd.eq_1 @aa.eq_1)))))))))))),?_⟩;refine hN _ _ ?_;clear hN N)))
      exact aC (b:=false) (.inl rfl) (sd @Nat.zero_add) (fo (lg fun h=>by rw[A8,sZ,ew]at h;cases h.2.1))
     ·rw[ew]at Jn
      have ua:dp ((List.range k).map fun i=>(oX s i).aB)++[[.str gl.aB,.bool true]]=dp (List.map (fun i=>(oX s i).aB) (List.range k++[k])):=by simp[dp,sZ]
      (repeat(first|((repeat(revert hN;revert N;apply Pn.out));refine wk (tw @oU (tw @ag0 (tw @ag1 (tw @a1 (tw @a3 (tw @oG (tw @oH (tw @hk (tw @eD (tw @mY (tw @bd.eq_1 @aa.eq_1))))))))))) ?_;(repeat(refine Pn.mk ?_;intro N hN)))|((try apply Or.inl);refine⟨_,ae.x (qY) (sd (tw @oU (tw @ag0 (tw @ag1 (tw @a1 (tw @a3 (tw @oG (tw @oH (tw @hk (tw @eD (tw @mY (tw @bd.eq_1 @aa.eq_1)))))))))))),?_⟩;refine hN _ _ ?_;clear hN N)|((try apply Or.inl);refine⟨_,ae.x (Jn) (sd (tw @oU (tw @ag0 (tw @ag1 (tw @a1 (tw @a3 (tw @oG (tw @oH (tw @hk (tw @eD (tw @mY (tw @bd.eq_1 @aa.eq_1)))))))))))),?_⟩;refine hN _ _ ?_;clear hN N)))
      refine bD ?_ ?_ ?_ (⟨by rw[sZ];exact hb,by rw[sZ];exact ew,fun j hj=>by rw[sZ];exact BT j hj⟩)
      all_goals simp only[go_sem, ↓reduceIte,Nat.reduceEqDiff,Nat.reduceAdd,Nat.reduceSub,Nat.reduceLeDiff,reduceCtorEq,oU,ag0,ag1,a1,a3,oG,oH,mY,ua]
    ·(repeat(first|((repeat(revert hN;revert N;apply Pn.out));refine wk (tw @oU (tw @ag0 (tw @ag1 (tw @a1 (tw @a3 (tw @oG (tw @oH (tw @hk (tw @eD (tw @mY (tw @fI (tw @bd.eq_1 @aa.eq_1)))))))))))) ?_;(repeat(refine Pn.mk ?_;intro N hN)))|((try apply Or.inl);refine⟨_,ae.x (qY) (sd (tw @oU (tw @ag0 (tw @ag1 (tw @a1 (tw @a3 (tw @oG (tw @oH (tw @hk (tw @eD (tw @mY (tw @fI (tw @bd.eq_1 @aa.eq_1))))))))))))),?_⟩;refine hN _ _ ?_;clear hN N)))
     exact aC (b:=false) (.inl rfl) (sd @Nat.zero_add) (fo (lg fun h=>by
      rw[A8,sZ]at h
      obtain⟨i,hi,he⟩:=List.mem_map.1 fP
      exact h.2.2 i (List.mem_range.1 hi) he))
  ·have lx:k=s.aw.length:=ab
   (try((repeat(revert hN;revert N;apply Pn.out));refine wk (tw @oU (tw @ag0 (tw @ag1 (tw @a1 (tw @a3 (tw @oG (tw @oH (tw @hk @aa.eq_1)))))))) ?_;(repeat(refine Pn.mk ?_;intro N hN))))
   refine aP (fun n env st=>∃j:Nat,n=(s.ah.length)-j/\j<=(s.ah.length)/\env 52=.int .i64 (j:Int)/\st.get ⟨102000000,n0⟩=some ⟨true,2,[aa s]⟩/\st.get ⟨102011000,st_a.next+1⟩=some ⟨true,mS.CD,dp ((List.range j).map fun i=>(nX s i).aB)⟩/\(∀i:Nat,i<j->y6 s i)/\(st_a.next<st.next)) (s.ah.length) ⟨0,ab,ab,by(try simp only[go_sem, ↓reduceIte,Nat.reduceEqDiff,Nat.reduceAdd,Nat.reduceSub,Nat.reduceLeDiff,reduceCtorEq,oU,ag0,ag1,a1,a3,oG,oH,aa,List.range_zero,List.map_nil,dp]);try rfl,by(try simp only[go_sem, ↓reduceIte,Nat.reduceEqDiff,Nat.reduceAdd,Nat.reduceSub,Nat.reduceLeDiff,reduceCtorEq,oU,ag0,ag1,a1,a3,oG,oH,aa,List.range_zero,List.map_nil,dp]);try rfl,by(try simp only[go_sem, ↓reduceIte,Nat.reduceEqDiff,Nat.reduceAdd,Nat.reduceSub,Nat.reduceLeDiff,reduceCtorEq,oU,ag0,ag1,a1,a3,oG,oH,aa,List.range_zero,List.map_nil,dp]);try rfl,fun _ h=>absurd h (Nat.not_lt_zero _),bt⟩ ?_
   rintro n_b env_b st_b ⟨j,rfl,ble,b52,bg0,bg1,bA0,bI0⟩ bfr
   have b1:=bfr 1 (by kernel_rfl);have b6:=bfr 6 (by kernel_rfl);have Bf:=bfr 50 (by kernel_rfl);have Bg:=bfr 51 (by kernel_rfl)
   simp only[go_sem, ↓reduceIte,Nat.reduceEqDiff,Nat.reduceAdd,Nat.reduceSub,Nat.reduceLeDiff,reduceCtorEq,oU,ag0,ag1,a1,a3,oG,oH,aa,List.range_zero,List.map_nil,dp]at b1 b6 Bf Bg
   clear bfr
   by_cases hj:(j:Int)<(s.ah.length:Int)
   ·have jr:∀{e:Env} {gg:Rows} {nx:Nat},(e 52=.int .i64 (IntKind.i64.wrap ((j:Int)+1)))->(gg ⟨102000000,n0⟩=some ⟨true,2,[aa s]⟩)->(gg ⟨102011000,st_a.next+1⟩=some ⟨true,mS.CD,dp ((List.range (j+1)).map fun i=>(nX s i).aB)⟩)->(y6 s j)->(st_a.next<nx)->∃m0,m0<(s.ah.length)-j/\∃j:Nat,m0=(s.ah.length)-j/\j<=(s.ah.length)/\e 52=.int .i64 (j:Int)/\gg ⟨102000000,n0⟩=some ⟨true,2,[aa s]⟩/\gg ⟨102011000,st_a.next+1⟩=some ⟨true,mS.CD,dp ((List.range j).map fun i=>(nX s i).aB)⟩/\(∀i:Nat,i<j->y6 s i)/\(st_a.next<nx):=fun x1 x2 x3 x4 x5=>⟨_,ab,j+1,rfl,ab,(by rw[x1,ay ab]),x2,x3,(all_succ bA0 x4),x5⟩
    have gm:j<s.ah.length:=ab
    have ou:=yD gm
    have qY:=DK (nX s j).aB (S5 j gm)
    have Ro:=KV s (nX s j).bp (vH j gm)
    have z4:=uL (nX s j).aB ((List.range j).map fun i=>(nX s i).aB)
    rw[uw _ j]at z4
    have lg:(¬y6 s j)->¬l5 s:=fun h hp=>h (hp.tok j gm)
    have gY:(⟨102011000,st_a.next+1⟩:Id)≠⟨102000000,n0⟩:=by simp
    generalize htd:nX s j=tl at *
    cases hb:jq tl.aB
    ·rw[hb]at qY
     (repeat(first|((repeat(revert hN;revert N;apply Pn.out));refine wk (tw @b52 (tw @bg0 (tw @bg1 (tw @b1 (tw @b6 (tw @Bf (tw @Bg (tw @hj (tw @ou (tw @bj.eq_1 @aa.eq_1)))))))))) ?_;(repeat(refine Pn.mk ?_;intro N hN)))|((try apply Or.inl);refine⟨_,ae.x (qY) (sd (tw @b52 (tw @bg0 (tw @bg1 (tw @b1 (tw @b6 (tw @Bf (tw @Bg (tw @hj (tw @ou (tw @bj.eq_1 @aa.eq_1))))))))))),?_⟩;refine hN _ _ ?_;clear hN N)))
     exact aC (b:=false) (.inl rfl) (sd @Nat.zero_add) (fo (lg fun h=>by rw[y6,htd,hb]at h;cases h.1))
    ·rw[hb]at qY
     rcases z4 with⟨BT,mY⟩|⟨i,fP,mY,fI⟩
     ·by_cases h4:(tl.bp.length:Int)=4
      ·have xO:decide ((tl.bp.length:Int)=4)=true:=decide_eq_true h4
       cases hany:tl.bp.any fun g=> !fJ g 0 s.aw.length
       ·rw[hany]at Ro
        have ua:dp ((List.range j).map fun i=>(nX s i).aB)++[[.str tl.aB,.bool true]]=dp (List.map (fun i=>(nX s i).aB) (List.range j++[j])):=by simp[dp,htd]
        (repeat(first|((repeat(revert hN;revert N;apply Pn.out));refine wk (tw @b52 (tw @bg0 (tw @bg1 (tw @b1 (tw @b6 (tw @Bf (tw @Bg (tw @hj (tw @ou (tw @mY (tw @xO (tw @bj.eq_1 @aa.eq_1)))))))))))) ?_;(repeat(refine Pn.mk ?_;intro N hN)))|((try apply Or.inl);refine⟨_,ae.x (qY) (sd (tw @b52 (tw @bg0 (tw @bg1 (tw @b1 (tw @b6 (tw @Bf (tw @Bg (tw @hj (tw @ou (tw @mY (tw @xO (tw @bj.eq_1 @aa.eq_1))))))))))))),?_⟩;refine hN _ _ ?_;clear hN N)|((try apply Or.inl);refine⟨_,ae.x (Ro) (sd (tw @b52 (tw @bg0 (tw @bg1 (tw @b1 (tw @b6 (tw @Bf (tw @Bg (tw @hj (tw @ou (tw @mY (tw @xO (tw @bj.eq_1 @aa.eq_1))))))))))))),?_⟩;refine hN _ _ ?_;clear hN N)))
        refine jr ?_ ?_ ?_ (⟨by rw[htd];exact hb,by rw[htd];omega,fun i hi=>(by rw[htd];exact BT i hi),fun g hg=>by rw[htd]at hg;have:=List.any_eq_false.1 hany g hg;simpa using this⟩) bt
        all_goals simp only[go_sem, ↓reduceIte,Nat.reduceEqDiff,Nat.reduceAdd,Nat.reduceSub,Nat.reduceLeDiff,reduceCtorEq,b52,bg0,bg1,b1,b6,Bf,Bg,mY,ua]
       ·rw[hany]at Ro
        (repeat(first|((repeat(revert hN;revert N;apply Pn.out));refine wk (tw @b52 (tw @bg0 (tw @bg1 (tw @b1 (tw @b6 (tw @Bf (tw @Bg (tw @hj (tw @ou (tw @mY (tw @xO (tw @bj.eq_1 @aa.eq_1)))))))))))) ?_;(repeat(refine Pn.mk ?_;intro N hN)))|((try apply Or.inl);refine⟨_,ae.x (qY) (sd (tw @b52 (tw @bg0 (tw @bg1 (tw @b1 (tw @b6 (tw @Bf (tw @Bg (tw @hj (tw @ou (tw @mY (tw @xO (tw @bj.eq_1 @aa.eq_1))))))))))))),?_⟩;refine hN _ _ ?_;clear hN N)|((try apply Or.inl);refine⟨_,ae.x (Ro) (sd (tw @b52 (tw @bg0 (tw @bg1 (tw @b1 (tw @b6 (tw @Bf (tw @Bg (tw @hj (tw @ou (tw @mY (tw @xO (tw @bj.eq_1 @aa.eq_1))))))))))))),?_⟩;refine hN _ _ ?_;clear hN N)))
        exact aC (b:=false) (.inl rfl) (sd @Nat.zero_add) (fo (lg fun h=>by
         rw[y6,htd]at h
         obtain⟨g,hg,hq⟩:=List.any_eq_true.1 hany
         have:=h.2.2.2 g hg
         rw[this]at hq;cases hq))
      ·have xO:decide ((tl.bp.length:Int)=4)=false:=decide_eq_false h4
       (repeat(first|((repeat(revert hN;revert N;apply Pn.out));refine wk (tw @b52 (tw @bg0 (tw @bg1 (tw @b1 (tw @b6 (tw @Bf (tw @Bg (tw @hj (tw @ou (tw @mY (tw @xO (tw @bj.eq_1 @aa.eq_1)))))))))))) ?_;(repeat(refine Pn.mk ?_;intro N hN)))|((try apply Or.inl);refine⟨_,ae.x (qY) (sd (tw @b52 (tw @bg0 (tw @bg1 (tw @b1 (tw @b6 (tw @Bf (tw @Bg (tw @hj (tw @ou (tw @mY (tw @xO (tw @bj.eq_1 @aa.eq_1))))))))))))),?_⟩;refine hN _ _ ?_;clear hN N)))
       exact aC (b:=false) (.inl rfl) (sd @Nat.zero_add) (fo (lg fun h=>by rw[y6,htd]at h;have:=h.2.1;omega))
     ·(repeat(first|((repeat(revert hN;revert N;apply Pn.out));refine wk (tw @b52 (tw @bg0 (tw @bg1 (tw @b1 (tw @b6 (tw @Bf (tw @Bg (tw @hj (tw @ou (tw @mY (tw @fI (tw @bj.eq_1 @aa.eq_1)))))))))))) ?_;(repeat(refine Pn.mk ?_;intro N hN)))|((try apply Or.inl);refine⟨_,ae.x (qY) (sd (tw @b52 (tw @bg0 (tw @bg1 (tw @b1 (tw @b6 (tw @Bf (tw @Bg (tw @hj (tw @ou (tw @mY (tw @fI (tw @bj.eq_1 @aa.eq_1))))))))))))),?_⟩;refine hN _ _ ?_;clear hN N)))
      exact aC (b:=false) (.inl rfl) (sd @Nat.zero_add) (fo (lg fun h=>by
       rw[y6,htd]at h
       obtain⟨i,hi,he⟩:=List.mem_map.1 fP
       exact h.2.2.1 i (List.mem_range.1 hi) he))
   ·(try((repeat(revert hN;revert N;apply Pn.out));refine wk (tw @b52 (tw @bg0 (tw @bg1 (tw @b1 (tw @b6 (tw @Bf (tw @Bg (tw @hj @aa.eq_1)))))))) ?_;(repeat(refine Pn.mk ?_;intro N hN))))
    exact aC (b:=true) (.inl rfl) (sd @Nat.zero_add) (AF ⟨ab,ab,ab,fun i hi=>iO i ab,fun i hi=>bA0 i ab⟩)
 ·rw[Bool.not_eq_true]at h2
  rw[h2]at hw
  (repeat(first|((repeat(revert hN;revert N;apply Pn.out));refine wk (tw @aa.eq_1 @h1) ?_;(repeat(refine Pn.mk ?_;intro N hN)))|((try apply Or.inl);refine⟨_,ae.x (hw) (sd (tw @aa.eq_1 @h1)),?_⟩;refine hN _ _ ?_;clear hN N)))
  exact aC (b:=false) (.inl rfl) (sd @Nat.zero_add) (fo fun h=>by
   have h3:=h.some
   have h4:=h.LM
   rw[nK ⟨ab,ab⟩]at h2;cases h2)
theorem sS {α:Type} {p:α->Bool} {xs:List α} {k:Nat} (hk:k<xs.length) (h1:p xs[k]=true) (h2:∀j (h:j<xs.length),j<k->p xs[j]=false):jR p xs=k:=by
 have:xs.findIdx p=k:=by rw[List.findIdx_eq hk];exact⟨h1,fun j hj=>h2 j ab hj⟩
 rw[jR,this,if_pos hk]
theorem wh {α:Type} {p:α->Bool} {xs:List α} (h:∀j (h:j<xs.length),p xs[j]=false):jR p xs= -1:=by
 rw[jR,if_neg]
 rw[List.findIdx_lt_length]
 rintro⟨x,hx,M1⟩
 obtain⟨j,hj,rfl⟩:=List.getElem_of_mem hx
 rw[h j hj]at M1;cases M1
theorem xL {s:ar} {i:Nat} (h:i<s.aw.length):oX s i=s.aw[i]:=by simp[oX,List.getD_eq_getElem?_getD,h]
theorem yC {s:ar} {i:Nat} (h:i<s.ah.length):nX s i=s.ah[i]:=by simp[nX,List.getD_eq_getElem?_getD,h]
def I9 (s:ar) (n:ByteArray):Int:=jR (fun g:fe=>decide (g.aB=n)) s.aw
def LL (s:ar) (n:ByteArray):Int:=jR (fun t:eJ=>decide (t.aB=n)) s.ah
theorem Fc (s:ar) (nm:ByteArray):ae Tryz.prog 124 [.cJ (aa s),.str nm] (.int .i64 (I9 s nm+1)):=by
 refine ae.body dK rfl fun hl n0=>?_
 have hlen:s.aw.length<=9223372036854775807:=by
  have h1:=(hl (.cJ (aa s)) (by simp)).uh (a:=.sl (s.aw.map bd)) (by simp[aa])
  simpa using h1.len
 clear hl
 (try((repeat(revert hN;revert N;apply Pn.out));refine wk @aa.eq_1 ?_;(repeat(refine Pn.mk ?_;intro N hN))))
 refine aP (fun n env st=>∃k:Nat,n=(s.aw.length)-k/\k<=(s.aw.length)/\env 5=.int .i64 (k:Int)/\(∀j:Nat,j<k->∀h:j<s.aw.length,decide (s.aw[j].aB=nm)=false)) (s.aw.length) ⟨0,ab,ab,sl @aa.eq_1,fun _ h=>absurd h (Nat.not_lt_zero _)⟩ ?_
 rintro n_a env_a st_a ⟨k,rfl,ale,a5,iO⟩ dm
 have a0:=dm 0 (by kernel_rfl);have a1:=dm 1 (by kernel_rfl)
 simp only[go_sem, ↓reduceIte,Nat.reduceEqDiff,Nat.reduceAdd,Nat.reduceSub,Nat.reduceLeDiff,reduceCtorEq,aa]at a0 a1
 clear dm
 by_cases hk:(k:Int)<(s.aw.length:Int)
 ·have bD:∀{e:Env},(e 5=.int .i64 (IntKind.i64.wrap ((k:Int)+1)))->(∀h:k<s.aw.length,decide (s.aw[k].aB=nm)=false)->∃m0,m0<(s.aw.length)-k/\∃k:Nat,m0=(s.aw.length)-k/\k<=(s.aw.length)/\e 5=.int .i64 (k:Int)/\(∀j:Nat,j<k->∀h:j<s.aw.length,decide (s.aw[j].aB=nm)=false):=fun x1 x2=>⟨_,ab,k+1,rfl,ab,(by rw[x1,ay ab]),(all_succ iO x2)⟩
  have dX:k<s.aw.length:=ab
  have eD:=xM dX
  have e:=xL dX
  cases hd:decide ((oX s k).aB=nm)
  ·have Q9:=of_decide_eq_false hd
   (try((repeat(revert hN;revert N;apply Pn.out));refine wk (tw @a5 (tw @a0 (tw @a1 (tw @hk (tw @eD (tw @Q9 (tw @hd (tw @bd.eq_1 @aa.eq_1)))))))) ?_;(repeat(refine Pn.mk ?_;intro N hN))))
   exact bD (sd (tw @a5 (tw @a0 @a1))) (fun _=>by rw[e]at hd;exact hd)
  ·have Q9:=of_decide_eq_true hd
   have hw:IntKind.i64.wrap ((k:Int)+1)=(k:Int)+1:=aT ab
   (try((repeat(revert hN;revert N;apply Pn.out));refine wk (tw @a5 (tw @a0 (tw @a1 (tw @hk (tw @eD (tw @hd (tw @hw (tw @bd.eq_1 @aa.eq_1)))))))) ?_;(repeat(refine Pn.mk ?_;intro N hN))))
   exact aZ (b:=(k:Int)+1) (.inl rfl) (sd @Nat.zero_add) (by rw[I9,sS dX (by rw[e]at hd;exact hd) fun j h hj=>iO j hj h])
 ·(try((repeat(revert hN;revert N;apply Pn.out));refine wk (tw @a5 (tw @a0 (tw @a1 (tw @hk @aa.eq_1)))) ?_;(repeat(refine Pn.mk ?_;intro N hN))))
  exact aZ (b:=0) (.inl rfl) (sd @Nat.zero_add) (by rw[I9,wh fun j h=>iO j ab h];rfl)
theorem Fe (s:ar) (nm:ByteArray):ae Tryz.prog 125 [.cJ (aa s),.str nm] (.int .i64 (LL s nm)):=by
 refine ae.body dK rfl fun hl n0=>?_
 have hlen:s.ah.length<=9223372036854775807:=by
  have h1:=(hl (.cJ (aa s)) (by simp)).uh (a:=.sl (s.ah.map bj)) (by simp[aa])
  simpa using h1.len
 clear hl
 (try((repeat(revert hN;revert N;apply Pn.out));refine wk @aa.eq_1 ?_;(repeat(refine Pn.mk ?_;intro N hN))))
 refine aP (fun n env st=>∃k:Nat,n=(s.ah.length)-k/\k<=(s.ah.length)/\env 5=.int .i64 (k:Int)/\(∀j:Nat,j<k->∀h:j<s.ah.length,decide (s.ah[j].aB=nm)=false)) (s.ah.length) ⟨0,ab,ab,sl @aa.eq_1,fun _ h=>absurd h (Nat.not_lt_zero _)⟩ ?_
 rintro n_a env_a st_a ⟨k,rfl,ale,a5,iO⟩ dm
 have a0:=dm 0 (by kernel_rfl);have a1:=dm 1 (by kernel_rfl)
 simp only[go_sem, ↓reduceIte,Nat.reduceEqDiff,Nat.reduceAdd,Nat.reduceSub,Nat.reduceLeDiff,reduceCtorEq,aa]at a0 a1
 clear dm
 by_cases hk:(k:Int)<(s.ah.length:Int)
 ·have bD:∀{e:Env},(e 5=.int .i64 (IntKind.i64.wrap ((k:Int)+1)))->(∀h:k<s.ah.length,decide (s.ah[k].aB=nm)=false)->∃m0,m0<(s.ah.length)-k/\∃k:Nat,m0=(s.ah.length)-k/\k<=(s.ah.length)/\e 5=.int .i64 (k:Int)/\(∀j:Nat,j<k->∀h:j<s.ah.length,decide (s.ah[j].aB=nm)=false):=fun x1 x2=>⟨_,ab,k+1,rfl,ab,(by rw[x1,ay ab]),(all_succ iO x2)⟩
  have dX:k<s.ah.length:=ab
  have eD:=yD dX
  have e:=yC dX
  cases hd:decide ((nX s k).aB=nm)
  ·(try((repeat(revert hN;revert N;apply Pn.out));refine wk (tw @a5 (tw @a0 (tw @a1 (tw @hk (tw @eD (tw @hd (tw @bj.eq_1 @aa.eq_1))))))) ?_;(repeat(refine Pn.mk ?_;intro N hN))))
   exact bD (sd (tw @a5 (tw @a0 @a1))) (fun _=>by rw[e]at hd;exact hd)
  ·(try((repeat(revert hN;revert N;apply Pn.out));refine wk (tw @a5 (tw @a0 (tw @a1 (tw @hk (tw @eD (tw @hd (tw @bj.eq_1 @aa.eq_1))))))) ?_;(repeat(refine Pn.mk ?_;intro N hN))))
   exact aZ (b:=(k:Int)) (.inl rfl) (sd @Nat.zero_add) (by rw[LL,sS dX (by rw[e]at hd;exact hd) fun j h hj=>iO j hj h])
 ·(try((repeat(revert hN;revert N;apply Pn.out));refine wk (tw @a5 (tw @a0 (tw @a1 (tw @hk @aa.eq_1)))) ?_;(repeat(refine Pn.mk ?_;intro N hN))))
  exact aZ (b:=-1) (.inl rfl) (sd @Nat.zero_add) (by rw[LL,wh fun j h=>iO j ab h])
theorem Mu {s:ar} {i:Nat} (h:i<s.aw.length):I9 s (oX s i).aB=i↔∀j,j<i->(oX s j).aB≠(oX s i).aB:=by
 constructor
 ·intro he j hj hc
  have gN:j<s.aw.length:=ab
  have:s.aw.findIdx (fun g:fe=>decide (g.aB=(oX s i).aB))<=j:=by
   rcases Nat.lt_or_ge j (s.aw.findIdx fun g:fe=>decide (g.aB=(oX s i).aB))with dD|jA
   ·have:=List.not_of_lt_findIdx dD
    rw[<-xL gN]at this
    simp[hc]at this
   ·exact jA
  unfold I9 jR at he
  split at he<;>omega
 ·intro hd
  exact sS h (by rw[<-xL h];simp) fun j gN hj=>by rw[<-xL gN];simpa using hd j hj
theorem NN {s:ar} {i:Nat} (h:i<s.ah.length):LL s (nX s i).aB=i↔∀j,j<i->(nX s j).aB≠(nX s i).aB:=by
 constructor
 ·intro he j hj hc
  have gN:j<s.ah.length:=ab
  have:s.ah.findIdx (fun g:eJ=>decide (g.aB=(nX s i).aB))<=j:=by
   rcases Nat.lt_or_ge j (s.ah.findIdx fun g:eJ=>decide (g.aB=(nX s i).aB))with dD|jA
   ·have:=List.not_of_lt_findIdx dD
    rw[<-yC gN]at this
    simp[hc]at this
   ·exact jA
  unfold LL jR at he
  split at he<;>omega
 ·intro hd
  exact sS h (by rw[<-yC h];simp) fun j gN hj=>by rw[<-yC gN];simpa using hd j hj
theorem Kl (s:ar) (hn:fA s) (hg:s.aw.length<=1048576) (ht:s.ah.length<=1048576):ae Tryz.prog 92 [.cJ (aa s)] (.bool (pK s)):=by
 refine ae.body dK rfl fun hl n0=>?_
 clear hl
 have ML:∀i,i<s.aw.length->(oX s i).aB.size<=9223372036854775807:=fun i hi=>hn.1 _ (by simp[oX,List.getD_eq_getElem?_getD,hi])
 have S5:∀i,i<s.ah.length->(nX s i).aB.size<=9223372036854775807:=fun i hi=>hn.2 _ (by simp[nX,List.getD_eq_getElem?_getD,hi])
 by_cases h1:(200:Int)<(s.aw.length:Int)
 ·(try((repeat(revert hN;revert N;apply Pn.out));refine wk (tw @aa.eq_1 @h1) ?_;(repeat(refine Pn.mk ?_;intro N hN))))
  exact aC (b:=false) (.inl rfl) (sd @Nat.zero_add) (fo fun h=>by have:=h.sf;omega)
 by_cases h2:(s.ah.length:Int)<1
 ·(try((repeat(revert hN;revert N;apply Pn.out));refine wk (tw @aa.eq_1 (tw @h1 @h2)) ?_;(repeat(refine Pn.mk ?_;intro N hN))))
  exact aC (b:=false) (.inl rfl) (sd @Nat.zero_add) (fo fun h=>by have:=h.some;omega)
 by_cases h3:(160:Int)<(s.ah.length:Int)
 ·(try((repeat(revert hN;revert N;apply Pn.out));refine wk (tw @aa.eq_1 (tw @h1 (tw @h2 @h3))) ?_;(repeat(refine Pn.mk ?_;intro N hN))))
  exact aC (b:=false) (.inl rfl) (sd @Nat.zero_add) (fo fun h=>by have:=h.LM;omega)
 (try((repeat(revert hN;revert N;apply Pn.out));refine wk (tw @aa.eq_1 (tw @h1 (tw @h2 @h3))) ?_;(repeat(refine Pn.mk ?_;intro N hN))))
 refine aP (fun n env st=>∃k:Nat,n=(s.aw.length)-k/\k<=(s.aw.length)/\env 3=.int .i64 (k:Int)/\(∀j:Nat,j<k->A8 s j)) (s.aw.length) ⟨0,ab,ab,sl @aa.eq_1,fun _ h=>absurd h (Nat.not_lt_zero _)⟩ ?_
 rintro n_a env_a st_a ⟨k,rfl,ale,a3,iO⟩ dm
 have a0:=dm 0 (by kernel_rfl)
 simp only[go_sem, ↓reduceIte,Nat.reduceEqDiff,Nat.reduceAdd,Nat.reduceSub,Nat.reduceLeDiff,reduceCtorEq,aa]at a0
 clear dm
 by_cases hk:(k:Int)<(s.aw.length:Int)
 ·have bD:∀{e:Env},(e 3=.int .i64 (IntKind.i64.wrap ((k:Int)+1)))->(A8 s k)->∃m0,m0<(s.aw.length)-k/\∃k:Nat,m0=(s.aw.length)-k/\k<=(s.aw.length)/\e 3=.int .i64 (k:Int)/\(∀j:Nat,j<k->A8 s j):=fun x1 x2=>⟨_,ab,k+1,rfl,ab,(by rw[x1,ay ab]),(all_succ iO x2)⟩
  have dX:k<s.aw.length:=ab
  have eD:=xM dX
  have qY:=DW (oX s k).aB (ML k dX)
  have Jn:=gV (oX s k).dQ 1 4
  have EU:=Fc s (oX s k).aB
  have oM:=Mu dX
  have lg:(¬A8 s k)->¬l5 s:=fun h hp=>h (hp.RV k dX)
  have hw:IntKind.i64.wrap ((k:Int)+1)=(k:Int)+1:=aT ab
  generalize sZ:oX s k=gl at *
  cases hb:jq gl.aB
  ·rw[hb]at qY
   (repeat(first|((repeat(revert hN;revert N;apply Pn.out));refine wk (tw @a3 (tw @a0 (tw @hk (tw @eD (tw @bd.eq_1 @aa.eq_1))))) ?_;(repeat(refine Pn.mk ?_;intro N hN)))|((try apply Or.inl);refine⟨_,ae.x (qY) (sd (tw @a3 (tw @a0 (tw @hk (tw @eD (tw @bd.eq_1 @aa.eq_1)))))),?_⟩;refine hN _ _ ?_;clear hN N)))
   exact aC (b:=false) (.inl rfl) (sd @Nat.zero_add) (fo (lg fun h=>by rw[A8,sZ,hb]at h;cases h.1))
  rw[hb]at qY
  cases ew:fJ gl.dQ 1 4
  ·rw[ew]at Jn
   (repeat(first|((repeat(revert hN;revert N;apply Pn.out));refine wk (tw @a3 (tw @a0 (tw @hk (tw @eD (tw @bd.eq_1 @aa.eq_1))))) ?_;(repeat(refine Pn.mk ?_;intro N hN)))|((try apply Or.inl);refine⟨_,ae.x (qY) (sd (tw @a3 (tw @a0 (tw @hk (tw @eD (tw @bd.eq_1 @aa.eq_1)))))),?_⟩;refine hN _ _ ?_;clear hN N)|((try apply Or.inl);refine⟨_,ae.x (Jn) (sd (tw @a3 (tw @a0 (tw @hk (tw @eD (tw @bd.eq_1 @aa.eq_1)))))),?_⟩;refine hN _ _ ?_;clear hN N)))
   exact aC (b:=false) (.inl rfl) (sd @Nat.zero_add) (fo (lg fun h=>by rw[A8,sZ,ew]at h;cases h.2.1))
  rw[ew]at Jn
  rw[aa]at EU
  by_cases hq:I9 s gl.aB=(k:Int)
  ·have hd:decide (I9 s gl.aB+1=(k:Int)+1)=true:=decide_eq_true ab
   have qj:decide (I9 s gl.aB=(k:Int))=true:=decide_eq_true hq
   (repeat(first|((repeat(revert hN;revert N;apply Pn.out));refine wk (tw @a3 (tw @a0 (tw @hk (tw @eD (tw @hw (tw @hd (tw @qj (tw @bd.eq_1 @aa.eq_1)))))))) ?_;(repeat(refine Pn.mk ?_;intro N hN)))|((try apply Or.inl);refine⟨_,ae.x (qY) (sd (tw @a3 (tw @a0 (tw @hk (tw @eD (tw @hw (tw @hd (tw @qj (tw @bd.eq_1 @aa.eq_1))))))))),?_⟩;refine hN _ _ ?_;clear hN N)|((try apply Or.inl);refine⟨_,ae.x (Jn) (sd (tw @a3 (tw @a0 (tw @hk (tw @eD (tw @hw (tw @hd (tw @qj (tw @bd.eq_1 @aa.eq_1))))))))),?_⟩;refine hN _ _ ?_;clear hN N)|((try apply Or.inl);refine⟨_,ae.x (EU) (sd (tw @a3 (tw @a0 (tw @hk (tw @eD (tw @hw (tw @hd (tw @qj (tw @bd.eq_1 @aa.eq_1))))))))),?_⟩;refine hN _ _ ?_;clear hN N)))
   exact bD (sd (tw @a3 (tw @a0 @hw))) (⟨by rw[sZ];exact hb,by rw[sZ];exact ew,fun j hj=>by rw[sZ];exact oM.1 hq j hj⟩)
  ·have hd:decide (I9 s gl.aB+1=(k:Int)+1)=false:=decide_eq_false ab
   have qj:decide (I9 s gl.aB=(k:Int))=false:=decide_eq_false hq
   (repeat(first|((repeat(revert hN;revert N;apply Pn.out));refine wk (tw @a3 (tw @a0 (tw @hk (tw @eD (tw @hw (tw @hd (tw @qj (tw @bd.eq_1 @aa.eq_1)))))))) ?_;(repeat(refine Pn.mk ?_;intro N hN)))|((try apply Or.inl);refine⟨_,ae.x (qY) (sd (tw @a3 (tw @a0 (tw @hk (tw @eD (tw @hw (tw @hd (tw @qj (tw @bd.eq_1 @aa.eq_1))))))))),?_⟩;refine hN _ _ ?_;clear hN N)|((try apply Or.inl);refine⟨_,ae.x (Jn) (sd (tw @a3 (tw @a0 (tw @hk (tw @eD (tw @hw (tw @hd (tw @qj (tw @bd.eq_1 @aa.eq_1))))))))),?_⟩;refine hN _ _ ?_;clear hN N)|((try apply Or.inl);refine⟨_,ae.x (EU) (sd (tw @a3 (tw @a0 (tw @hk (tw @eD (tw @hw (tw @hd (tw @qj (tw @bd.eq_1 @aa.eq_1))))))))),?_⟩;refine hN _ _ ?_;clear hN N)))
   exact aC (b:=false) (.inl rfl) (sd @Nat.zero_add) (fo (lg fun h=>by
    rw[A8,sZ]at h
    exact hq (oM.2 h.2.2)))
 ·have lx:k=s.aw.length:=ab
  (try((repeat(revert hN;revert N;apply Pn.out));refine wk (tw @a3 (tw @a0 (tw @hk @aa.eq_1))) ?_;(repeat(refine Pn.mk ?_;intro N hN))))
  refine aP (fun n env st=>∃j:Nat,n=(s.ah.length)-j/\j<=(s.ah.length)/\env 5=.int .i64 (j:Int)/\(∀i:Nat,i<j->y6 s i)) (s.ah.length) ⟨0,ab,ab,sl (tw @a3 (tw @a0 @aa.eq_1)),fun _ h=>absurd h (Nat.not_lt_zero _)⟩ ?_
  rintro n_b env_b st_b ⟨j,rfl,ble,b5,bA0⟩ bfr
  have b0:=bfr 0 (by kernel_rfl)
  simp only[go_sem, ↓reduceIte,Nat.reduceEqDiff,Nat.reduceAdd,Nat.reduceSub,Nat.reduceLeDiff,reduceCtorEq,a3,a0,aa]at b0
  clear bfr
  by_cases hj:(j:Int)<(s.ah.length:Int)
  ·have jr:∀{e:Env},(e 5=.int .i64 (IntKind.i64.wrap ((j:Int)+1)))->(y6 s j)->∃m0,m0<(s.ah.length)-j/\∃j:Nat,m0=(s.ah.length)-j/\j<=(s.ah.length)/\e 5=.int .i64 (j:Int)/\(∀i:Nat,i<j->y6 s i):=fun x1 x2=>⟨_,ab,j+1,rfl,ab,(by rw[x1,ay ab]),(all_succ bA0 x2)⟩
   have gm:j<s.ah.length:=ab
   have ou:=yD gm
   have qY:=DW (nX s j).aB (S5 j gm)
   have EU:=Fe s (nX s j).aB
   have oM:=NN gm
   have lg:(¬y6 s j)->¬l5 s:=fun h hp=>h (hp.tok j gm)
   generalize htd:nX s j=tl at *
   cases hb:jq tl.aB
   ·rw[hb]at qY
    (repeat(first|((repeat(revert hN;revert N;apply Pn.out));refine wk (tw @b5 (tw @b0 (tw @hj (tw @ou (tw @bj.eq_1 @aa.eq_1))))) ?_;(repeat(refine Pn.mk ?_;intro N hN)))|((try apply Or.inl);refine⟨_,ae.x (qY) (sd (tw @b5 (tw @b0 (tw @hj (tw @ou (tw @bj.eq_1 @aa.eq_1)))))),?_⟩;refine hN _ _ ?_;clear hN N)))
    exact aC (b:=false) (.inl rfl) (sd @Nat.zero_add) (fo (lg fun h=>by rw[y6,htd,hb]at h;cases h.1))
   rw[hb]at qY
   by_cases h4:(tl.bp.length:Int)=4
   ·have xO:decide ((tl.bp.length:Int)=4)=true:=decide_eq_true h4
    rw[aa]at EU
    by_cases hq:LL s tl.aB=(j:Int)
    ·have hd:decide (LL s tl.aB=(j:Int))=true:=decide_eq_true hq
     (repeat(first|((repeat(revert hN;revert N;apply Pn.out));refine wk (tw @b5 (tw @b0 (tw @hj (tw @ou (tw @xO (tw @hd (tw @bj.eq_1 @aa.eq_1))))))) ?_;(repeat(refine Pn.mk ?_;intro N hN)))|((try apply Or.inl);refine⟨_,ae.x (qY) (sd (tw @b5 (tw @b0 (tw @hj (tw @ou (tw @xO (tw @hd (tw @bj.eq_1 @aa.eq_1)))))))),?_⟩;refine hN _ _ ?_;clear hN N)|((try apply Or.inl);refine⟨_,ae.x (EU) (sd (tw @b5 (tw @b0 (tw @hj (tw @ou (tw @xO (tw @hd (tw @bj.eq_1 @aa.eq_1)))))))),?_⟩;refine hN _ _ ?_;clear hN N)))
     refine aP (fun n env st=>∃i:Nat,n=(4)-i/\i<=(4)/\env 7=.int .i64 (i:Int)/\st.get ⟨92012007,st_b.next+1⟩=some ⟨true,2,[bj tl]⟩/\(∀x:Nat,x<i->fJ (tl.bp.getD x 0) 0 s.aw.length=true)) (4) ⟨0,ab,ab,sl (tw @b5 (tw @b0 (tw @bj.eq_1 @aa.eq_1))),sl (tw @b5 (tw @b0 (tw @bj.eq_1 @aa.eq_1))),fun _ h=>absurd h (Nat.not_lt_zero _)⟩ ?_
     rintro n_c env_c st_c ⟨i,rfl,cle,c7,cg0,cA0⟩ cfr
     have c0:=cfr 0 (by kernel_rfl);have c5:=cfr 5 (by kernel_rfl);have c6:=cfr 6 (by kernel_rfl)
     simp only[go_sem, ↓reduceIte,Nat.reduceEqDiff,Nat.reduceAdd,Nat.reduceSub,Nat.reduceLeDiff,reduceCtorEq,b5,b0,bj,aa]at c0 c5 c6
     clear cfr
     by_cases hi:(i:Int)<4
     ·have gL:∀{e:Env} {gg:Rows},(e 7=.int .i64 (IntKind.i64.wrap ((i:Int)+1)))->(gg ⟨92012007,st_b.next+1⟩=some ⟨true,2,[bj tl]⟩)->(fJ (tl.bp.getD i 0) 0 s.aw.length=true)->∃m0,m0<(4)-i/\∃i:Nat,m0=(4)-i/\i<=(4)/\e 7=.int .i64 (i:Int)/\gg ⟨92012007,st_b.next+1⟩=some ⟨true,2,[bj tl]⟩/\(∀x:Nat,x<i->fJ (tl.bp.getD x 0) 0 s.aw.length=true):=fun x1 x2 x3=>⟨_,ab,i+1,rfl,ab,(by rw[x1,ay ab]),x2,(all_succ cA0 x3)⟩
      have fP:i<tl.bp.length:=ab
      have oq:(tl.bp.map au)[i]? =some (au (tl.bp.getD i 0)):=getD_map au fP
      have rG:tl.bp.getD i 0∈tl.bp:=by rw[List.getD_eq_getElem?_getD,List.getElem?_eq_getElem fP];exact List.getElem_mem fP
      have Ht:=gV (tl.bp.getD i 0) 0 s.aw.length
      generalize MN:tl.bp.getD i 0=gv at *
      cases hv:fJ gv 0 s.aw.length
      ·rw[hv]at Ht
       (repeat(first|((repeat(revert hN;revert N;apply Pn.out));refine wk (tw @c7 (tw @cg0 (tw @c0 (tw @c5 (tw @c6 (tw @hi (tw @oq (tw @au.eq_1 (tw @bj.eq_1 @aa.eq_1))))))))) ?_;(repeat(refine Pn.mk ?_;intro N hN)))|((try apply Or.inl);refine⟨_,ae.x (Ht) (sd (tw @c7 (tw @cg0 (tw @c0 (tw @c5 (tw @c6 (tw @hi (tw @oq (tw @au.eq_1 (tw @bj.eq_1 @aa.eq_1)))))))))),?_⟩;refine hN _ _ ?_;clear hN N)))
       exact aC (b:=false) (.inl rfl) (sd @Nat.zero_add) (fo (lg fun h=>by
        rw[y6,htd]at h
        have:=h.2.2.2 gv rG
        rw[hv]at this;cases this))
      ·rw[hv]at Ht
       (repeat(first|((repeat(revert hN;revert N;apply Pn.out));refine wk (tw @c7 (tw @cg0 (tw @c0 (tw @c5 (tw @c6 (tw @hi (tw @oq (tw @au.eq_1 (tw @bj.eq_1 @aa.eq_1))))))))) ?_;(repeat(refine Pn.mk ?_;intro N hN)))|((try apply Or.inl);refine⟨_,ae.x (Ht) (sd (tw @c7 (tw @cg0 (tw @c0 (tw @c5 (tw @c6 (tw @hi (tw @oq (tw @au.eq_1 (tw @bj.eq_1 @aa.eq_1)))))))))),?_⟩;refine hN _ _ ?_;clear hN N)))
       refine gL ?_ ?_ (hv)
       all_goals simp only[go_sem, ↓reduceIte,Nat.reduceEqDiff,Nat.reduceAdd,Nat.reduceSub,Nat.reduceLeDiff,reduceCtorEq,c7,cg0,c0,c5,c6]
     ·have hi4:i=4:=ab
      (try((repeat(revert hN;revert N;apply Pn.out));refine wk (tw @c7 (tw @cg0 (tw @c0 (tw @c5 (tw @c6 (tw @hi (tw @bj.eq_1 @aa.eq_1))))))) ?_;(repeat(refine Pn.mk ?_;intro N hN))))
      exact jr (sd (tw @b5 (tw @b0 (tw @c7 (tw @cg0 (tw @c0 (tw @c5 @c6))))))) (⟨by rw[htd];exact hb,by rw[htd];omega,fun x hx=>(by rw[htd];exact oM.1 hq x hx),fun g hg=>by
       rw[htd]at hg
       obtain⟨x,hx,rfl⟩:=List.getElem_of_mem hg
       have:=cA0 x ab
       rwa [List.getD_eq_getElem?_getD,List.getElem?_eq_getElem hx]at this⟩)
    ·have hd:decide (LL s tl.aB=(j:Int))=false:=decide_eq_false hq
     (repeat(first|((repeat(revert hN;revert N;apply Pn.out));refine wk (tw @b5 (tw @b0 (tw @hj (tw @ou (tw @xO (tw @hd (tw @bj.eq_1 @aa.eq_1))))))) ?_;(repeat(refine Pn.mk ?_;intro N hN)))|((try apply Or.inl);refine⟨_,ae.x (qY) (sd (tw @b5 (tw @b0 (tw @hj (tw @ou (tw @xO (tw @hd (tw @bj.eq_1 @aa.eq_1)))))))),?_⟩;refine hN _ _ ?_;clear hN N)|((try apply Or.inl);refine⟨_,ae.x (EU) (sd (tw @b5 (tw @b0 (tw @hj (tw @ou (tw @xO (tw @hd (tw @bj.eq_1 @aa.eq_1)))))))),?_⟩;refine hN _ _ ?_;clear hN N)))
     exact aC (b:=false) (.inl rfl) (sd @Nat.zero_add) (fo (lg fun h=>by
      rw[y6,htd]at h
      exact hq (oM.2 h.2.2.1)))
   ·have xO:decide ((tl.bp.length:Int)=4)=false:=decide_eq_false h4
    (repeat(first|((repeat(revert hN;revert N;apply Pn.out));refine wk (tw @b5 (tw @b0 (tw @hj (tw @ou (tw @xO (tw @bj.eq_1 @aa.eq_1)))))) ?_;(repeat(refine Pn.mk ?_;intro N hN)))|((try apply Or.inl);refine⟨_,ae.x (qY) (sd (tw @b5 (tw @b0 (tw @hj (tw @ou (tw @xO (tw @bj.eq_1 @aa.eq_1))))))),?_⟩;refine hN _ _ ?_;clear hN N)))
    exact aC (b:=false) (.inl rfl) (sd @Nat.zero_add) (fo (lg fun h=>by rw[y6,htd]at h;have:=h.2.1;omega))
  ·(try((repeat(revert hN;revert N;apply Pn.out));refine wk (tw @b5 (tw @b0 (tw @hj @aa.eq_1))) ?_;(repeat(refine Pn.mk ?_;intro N hN))))
   exact aC (b:=true) (.inl rfl) (sd @Nat.zero_add) (AF ⟨ab,ab,ab,fun i hi=>iO i ab,fun i hi=>bA0 i ab⟩)
end Go.Proofs.YtihgaadadaekmaaGreatDoor.V

namespace Go.Proofs.YtihgaadadaekmaaGreatDoor.V
def q9 (a b:cr):Bool:=decide (a.fR<b.fR)||(decide (a.fR=b.fR)&&decide (a.gG<b.gG))
theorem DQ {a b:cr}:q9 a b=true↔a.fR<b.fR∨(a.fR=b.fR/\a.gG<b.gG):=by simp[q9]
theorem Fp {a b:cr}:q9 a b=false↔¬(a.fR<b.fR∨(a.fR=b.fR/\a.gG<b.gG)):=by rw[<-DQ,Bool.not_eq_true]
theorem NA {a b:cr} (h1:a.gG=b.gG) (h2:a.fR=b.fR):a=b:=by cases a;cases b;simp_all
theorem lN {a b c:cr} (h:q9 a b=true) (k:q9 b c=true):q9 a c=true:=by rw[DQ]at *;omega
theorem DR {a:cr}:q9 a a=false:=by rw[Fp];omega
def ph (a b:Int):Int:=if a<b then -1 else if b<a then 1 else 0
def Nx (a b:Int):Int:=if a=0 then b else a
def sF (a b:cr):Int:=Nx (ph a.fR b.fR) (ph a.gG b.gG)
theorem xu (a b:cr):decide (sF a b<0)=q9 a b:=by
 unfold sF Nx ph q9
 by_cases h1:a.fR<b.fR
 ·simp[h1]
 ·by_cases h2:b.fR<a.fR
  ·have:¬a.fR=b.fR:=ab
   simp[h1,h2,this]
  ·have:a.fR=b.fR:=ab
   by_cases h3:a.gG<b.gG
   ·simp[h1,h2,this,h3]
   ·by_cases h4:b.gG<a.gG<;>simp[h1,h2,this,h3,h4]
theorem Ev (a b:cr):(sF a b=0)↔a=b:=by
 cases a;cases b
 unfold sF Nx ph
 simp only[cr.mk.injEq]
 split<;>(try split)<;>(try split)<;>(try split)<;>omega
def Ib:aq:=⟨⟨0,0⟩,0⟩
def bC (l:List aq) (i:Nat):aq:=l.getD i Ib
theorem j7 {l:List aq} {i:Nat} (h:i<l.length):bC l i=l[i]:=by simp[bC,List.getD_eq_getElem?_getD,h]
theorem qz {l:List aq} {i:Nat} (h:i<l.length):bC l i∈l:=by rw[j7 h];exact List.getElem_mem h
def yZ (l:List aq):Prop:=∀i j:Nat,i<j->j<l.length->q9 (bC l i).cI (bC l j).cI=true
def E3 (l:List aq) (p:cr):Nat:=l.findIdx fun c=>decide (c.cI=p)
def fX (l:List aq) (p:cr):Int:=if E3 l p<l.length then(E3 l p:Int)else -1
def lL (l:List aq) (p:cr):Nat:=l.findIdx fun c=> !q9 c.cI p
theorem yc {l:List aq} {p:cr} {i:Nat} (hi:i<=l.length) (h1:∀x,x<i->q9 (bC l x).cI p=true) (h2:i<l.length->q9 (bC l i).cI p=false):lL l p=i:=by
 unfold lL
 by_cases h:i<l.length
 ·rw[List.findIdx_eq h]
  refine⟨by have:=h2 h;rw[j7 h]at this;simp[this],fun j hj=>?_⟩
  have:=h1 j hj
  rw[j7 ab]at this
  simp[this]
 ·have:i=l.length:=ab
  subst this
  refine List.findIdx_eq_length_of_false fun x hx=>?_
  obtain⟨j,hj,rfl⟩:=List.getElem_of_mem hx
  have:=h1 j hj
  rw[j7 hj]at this
  simp[this]
theorem yd {l:List aq} {p:cr} (hR:yZ l):fX l p=if lL l p<l.length/\(bC l (lL l p)).cI=p then(lL l p:Int)else -1:=by
 by_cases h:∃i,i<l.length/\(bC l i).cI=p
 ·obtain⟨i,hi,hp⟩:=h
  have h1:lL l p=i:=yc ab (fun x hx=>by rw[<-hp];exact hR x i hx hi) fun _=>by rw[hp];exact DR
  have h2:E3 l p=i:=by
   rw[E3,List.findIdx_eq hi]
   refine⟨by rw[j7 hi]at hp;simpa using hp,fun j hj=>?_⟩
   have:=hR j i hj hi
   rw[hp,j7 ab]at this
   simp only[decide_eq_false_iff_not]
   intro hc
   rw[hc,DR]at this
   cases this
  rw[fX,h1,h2,if_pos hi,if_pos ⟨hi,hp⟩]
 ·have h2:¬E3 l p<l.length:=by
   rw[E3,List.findIdx_lt_length]
   rintro⟨c,hc,he⟩
   obtain⟨j,hj,rfl⟩:=List.getElem_of_mem hc
   exact h ⟨j,hj,by rw[j7 hj];simpa using he⟩
  rw[fX,if_neg h2,if_neg]
  rintro⟨h3,h4⟩
  exact h ⟨_,h3,h4⟩
theorem s5 {l:List aq} {p:cr} (h:0<=fX l p):(fX l p).toNat<l.length/\(bC l (fX l p).toNat).cI=p:=by
 unfold fX at h ⊢
 split at h
 ·rename_i hc
  rw[if_pos hc]
  refine⟨ab,?_⟩
  have:=of_decide_eq_true (List.findIdx_getElem (p:=fun c:aq=>decide (c.cI=p)) (xs:=l) (w:=hc))
  rw[Int.toNat_natCast,j7 hc]
  exact this
 ·omega
def vW (l:List aq) (p:cr):Int:=if 0<=fX l p then(bC l (fX l p).toNat).bJ else -1
end Go.Proofs.YtihgaadadaekmaaGreatDoor.V

namespace Go.Proofs.YtihgaadadaekmaaGreatDoor.V
open Go.RowKit
attribute [local irreducible] ea wpOps gS Call
attribute [local go_sem] aM fQ eM gi gh cE upd cu K.av cL AV.cells AV.cell rowOf rowsOf part ld rowAt bY ck dI eh ij bL da eA gp e8 du eo cY cX dV dW bR bm cQ bQ cT cR ej er ek cP bW cZ ei bP aQ cV cC ig bw cH bS aX dG bu dL AV.undef bF bH dY ef dU ec cF ez eF cw ev eu cU cW List.getD_cons_zero List.getD_cons_succ List.getD_nil List.all_cons List.all_nil Bool.and_true Bool.true_and Bool.and_self Bool.not_true Bool.not_false Option.map_some Option.map_none Option.bind_some Option.bind_none List.length_cons List.length_nil List.take_succ_cons List.take_zero List.take_nil List.drop_succ_cons List.drop_zero List.drop_nil List.head?_cons List.map_cons List.map_nil List.getElem?_cons_zero List.getElem?_cons_succ List.cons_append List.nil_append List.append_nil List.length_map List.set_cons_zero List.set_cons_succ Nat.reduceMul eq_self Int.toNat_natCast Int.natCast_nonneg and_self true_and and_true decide_true decide_false Bool.false_eq_true Nat.zero_add Nat.add_zero List.contains_cons List.contains_nil Bool.or_false Bool.false_or beq_self_eq_true Nat.reduceBEq ne_eq not_true_eq_false not_false_eq_true Id.mk.injEq false_and and_false Nat.reduceLT Int.reduceLE Int.reduceLT Int.reduceToNat Int.reduceNeg Int.reduceAdd Nat.le_refl List.length_append beq_true beq_false Bool.not_eq_eq_eq_not or_false false_or dE ad aj aI bE cj aV bf aU bo cN bG
theorem r4 (a b:cr):ae Tryz.prog 97 [.agg (ao a),.agg (ao b)] (.bool (q9 a b)):=by
 refine ae.body dK rfl fun hl n0=>?_
 clear hl
 by_cases h0:a.fR<b.fR
 ·(try((repeat(revert hN;revert N;apply Pn.out));refine wk (tw @ao.eq_1 @h0) ?_;(repeat(refine Pn.mk ?_;intro N hN))))
  exact aC (b:=true) (.inl rfl) (sd @Nat.zero_add) (by simp[q9,h0])
 ·by_cases h1:a.fR=b.fR
  ·have h2:¬b.fR<b.fR:=ab
   (try((repeat(revert hN;revert N;apply Pn.out));refine wk (tw @ao.eq_1 (tw @h1 @h2)) ?_;(repeat(refine Pn.mk ?_;intro N hN))))
   exact aC (b:=decide (a.gG<b.gG)) (.inl rfl) (sd @Nat.zero_add) (by simp[q9,h1])
  ·(try((repeat(revert hN;revert N;apply Pn.out));refine wk (tw @ao.eq_1 (tw @h0 @h1)) ?_;(repeat(refine Pn.mk ?_;intro N hN))))
   exact aC (b:=false) (.inl rfl) (sd @Nat.zero_add) (by simp[q9,h0,h1])
theorem gJ {l:List aq} {i:Nat} (h:i<l.length):(l.map ai)[i]? =some (ai (bC l i)):=getD_map ai h
def Ek (l:List aq) (i:Nat):Prop:=Gq (bC l i).cI=true/\fJ (bC l i).bJ 0 159=true/\(0<i->q9 (bC l (i-1)).cI (bC l i).cI=true)
structure kc (l:List aq):Prop where
 Gc:l.length<=500
 ok:∀i,i<l.length->Ek l i
noncomputable def nG (l:List aq):Bool:=@decide (kc l) (Classical.propDecidable _)
theorem EM {l:List aq}:nG l=true↔kc l:=by simp[nG]
theorem jJ {l:List aq} (h:¬kc l):false=nG l:=by simp[nG,h]
theorem wm {l:List aq} (h:kc l):true=nG l:=by simp[nG,h]
theorem kc.Rt {l:List aq} (h:kc l):yZ l:=by
 intro i j Re hj
 induction j with
 |zero=>omega
 |succ j ih=>
  have h1:=(h.ok (j+1) hj).2.2 ab
  rw[Nat.add_sub_cancel]at h1
  by_cases he:i=j
  ·subst he;exact h1
  ·exact lN (ih ab ab) h1
theorem kc.pt {l:List aq} (h:kc l) {i:Nat} (hi:i<l.length):Gq (bC l i).cI=true:=(h.ok i hi).1
theorem Is {p:cr} (h:Gq p=true):iB p.gG/\iB p.fR:=by
 unfold Gq at h
 simp only[Bool.and_eq_true]at h
 have:=dB h.1;have:=dB h.2
 unfold iB;omega
theorem Ff (l:List aq):ae Tryz.prog 95 [.cJ [.sl (l.map ai)]] (.bool (nG l)):=by
 refine ae.body dK rfl fun hl n0=>?_
 clear hl
 by_cases h1:(500:Int)<(l.length:Int)
 ·(try((repeat(revert hN;revert N;apply Pn.out));refine wk @h1 ?_;(repeat(refine Pn.mk ?_;intro N hN))))
  exact aC (b:=false) (.inl rfl) (sd @Nat.zero_add) (jJ fun h=>by have:=h.Gc;omega)
 (try((repeat(revert hN;revert N;apply Pn.out));refine wk @h1 ?_;(repeat(refine Pn.mk ?_;intro N hN))))
 refine aP (fun n env st=>∃k:Nat,n=(l.length)-k/\k<=(l.length)/\env 3=.int .i64 (k:Int)/\(∀j:Nat,j<k->Ek l j)) (l.length) ⟨0,ab,ab,sl @Nat.zero_add,fun _ h=>absurd h (Nat.not_lt_zero _)⟩ ?_
 rintro n_a env_a st_a ⟨k,rfl,ale,a3,iO⟩ dm
 have a0:=dm 0 (by kernel_rfl)
 simp only[go_sem, ↓reduceIte,Nat.reduceEqDiff,Nat.reduceAdd,Nat.reduceSub,Nat.reduceLeDiff,reduceCtorEq]at a0
 clear dm
 by_cases hk:(k:Int)<(l.length:Int)
 ·have bD:∀{e:Env},(e 3=.int .i64 (IntKind.i64.wrap ((k:Int)+1)))->(Ek l k)->∃m0,m0<(l.length)-k/\∃k:Nat,m0=(l.length)-k/\k<=(l.length)/\e 3=.int .i64 (k:Int)/\(∀j:Nat,j<k->Ek l j):=fun x1 x2=>⟨_,ab,k+1,rfl,ab,(by rw[x1,ay ab]),(all_succ iO x2)⟩
  have dX:k<l.length:=ab
  have eD:=gJ dX
  have lg:(¬Ek l k)->¬kc l:=fun h hp=>h (hp.ok k dX)
  have hp:=Cd (bC l k).cI
  have ht:=gV (bC l k).bJ 0 159
  cases b1:Gq (bC l k).cI
  ·rw[b1]at hp
   (repeat(first|((repeat(revert hN;revert N;apply Pn.out));refine wk (tw @a3 (tw @a0 (tw @hk (tw @eD (tw @ai.eq_1 @ao.eq_1))))) ?_;(repeat(refine Pn.mk ?_;intro N hN)))|((try apply Or.inl);refine⟨_,ae.x (hp) (sd (tw @a3 (tw @a0 (tw @hk (tw @eD (tw @ai.eq_1 @ao.eq_1)))))),?_⟩;refine hN _ _ ?_;clear hN N)))
   exact aC (b:=false) (.inl rfl) (sd @Nat.zero_add) (jJ (lg fun h=>by rw[Ek,b1]at h;cases h.1))
  rw[b1]at hp
  cases b2:fJ (bC l k).bJ 0 159
  ·rw[b2]at ht
   (repeat(first|((repeat(revert hN;revert N;apply Pn.out));refine wk (tw @a3 (tw @a0 (tw @hk (tw @eD (tw @ai.eq_1 @ao.eq_1))))) ?_;(repeat(refine Pn.mk ?_;intro N hN)))|((try apply Or.inl);refine⟨_,ae.x (hp) (sd (tw @a3 (tw @a0 (tw @hk (tw @eD (tw @ai.eq_1 @ao.eq_1)))))),?_⟩;refine hN _ _ ?_;clear hN N)|((try apply Or.inl);refine⟨_,ae.x (ht) (sd (tw @a3 (tw @a0 (tw @hk (tw @eD (tw @ai.eq_1 @ao.eq_1)))))),?_⟩;refine hN _ _ ?_;clear hN N)))
   exact aC (b:=false) (.inl rfl) (sd @Nat.zero_add) (jJ (lg fun h=>by rw[Ek,b2]at h;cases h.2.1))
  rw[b2]at ht
  by_cases h0:(0:Int)<(k:Int)
  ·have tW:=gJ (l:=l) (i:=k-1) ab
   have hw:IntKind.i64.wrap ((k:Int)-1)=((k-1:Nat):Int):=by rw[aT (by have:=dX;omega)];omega
   have hq:=r4 (bC l (k-1)).cI (bC l k).cI
   cases b3:q9 (bC l (k-1)).cI (bC l k).cI
   ·rw[b3]at hq
    (repeat(first|((repeat(revert hN;revert N;apply Pn.out));refine wk (tw @a3 (tw @a0 (tw @hk (tw @eD (tw @tW (tw @h0 (tw @hw (tw @ai.eq_1 @ao.eq_1)))))))) ?_;(repeat(refine Pn.mk ?_;intro N hN)))|((try apply Or.inl);refine⟨_,ae.x (hp) (sd (tw @a3 (tw @a0 (tw @hk (tw @eD (tw @tW (tw @h0 (tw @hw (tw @ai.eq_1 @ao.eq_1))))))))),?_⟩;refine hN _ _ ?_;clear hN N)|((try apply Or.inl);refine⟨_,ae.x (ht) (sd (tw @a3 (tw @a0 (tw @hk (tw @eD (tw @tW (tw @h0 (tw @hw (tw @ai.eq_1 @ao.eq_1))))))))),?_⟩;refine hN _ _ ?_;clear hN N)|((try apply Or.inl);refine⟨_,ae.x (hq) (sd (tw @a3 (tw @a0 (tw @hk (tw @eD (tw @tW (tw @h0 (tw @hw (tw @ai.eq_1 @ao.eq_1))))))))),?_⟩;refine hN _ _ ?_;clear hN N)))
    exact aC (b:=false) (.inl rfl) (sd @Nat.zero_add) (jJ (lg fun h=>by have:=h.2.2 ab;rw[b3]at this;cases this))
   ·rw[b3]at hq
    (repeat(first|((repeat(revert hN;revert N;apply Pn.out));refine wk (tw @a3 (tw @a0 (tw @hk (tw @eD (tw @tW (tw @h0 (tw @hw (tw @ai.eq_1 @ao.eq_1)))))))) ?_;(repeat(refine Pn.mk ?_;intro N hN)))|((try apply Or.inl);refine⟨_,ae.x (hp) (sd (tw @a3 (tw @a0 (tw @hk (tw @eD (tw @tW (tw @h0 (tw @hw (tw @ai.eq_1 @ao.eq_1))))))))),?_⟩;refine hN _ _ ?_;clear hN N)|((try apply Or.inl);refine⟨_,ae.x (ht) (sd (tw @a3 (tw @a0 (tw @hk (tw @eD (tw @tW (tw @h0 (tw @hw (tw @ai.eq_1 @ao.eq_1))))))))),?_⟩;refine hN _ _ ?_;clear hN N)|((try apply Or.inl);refine⟨_,ae.x (hq) (sd (tw @a3 (tw @a0 (tw @hk (tw @eD (tw @tW (tw @h0 (tw @hw (tw @ai.eq_1 @ao.eq_1))))))))),?_⟩;refine hN _ _ ?_;clear hN N)))
    exact bD (sd (tw @a3 @a0)) (⟨b1,b2,fun _=>b3⟩)
  ·have kN:k=0:=ab
   (repeat(first|((repeat(revert hN;revert N;apply Pn.out));refine wk (tw @a3 (tw @a0 (tw @hk (tw @eD (tw @h0 (tw @ai.eq_1 @ao.eq_1)))))) ?_;(repeat(refine Pn.mk ?_;intro N hN)))|((try apply Or.inl);refine⟨_,ae.x (hp) (sd (tw @a3 (tw @a0 (tw @hk (tw @eD (tw @h0 (tw @ai.eq_1 @ao.eq_1))))))),?_⟩;refine hN _ _ ?_;clear hN N)|((try apply Or.inl);refine⟨_,ae.x (ht) (sd (tw @a3 (tw @a0 (tw @hk (tw @eD (tw @h0 (tw @ai.eq_1 @ao.eq_1))))))),?_⟩;refine hN _ _ ?_;clear hN N)))
   exact bD (sd (tw @a3 @a0)) (⟨b1,b2,fun h=>ab⟩)
 ·(try((repeat(revert hN;revert N;apply Pn.out));refine wk (tw @a3 (tw @a0 @hk)) ?_;(repeat(refine Pn.mk ?_;intro N hN))))
  exact aC (b:=true) (.inl rfl) (sd @Nat.zero_add) (wm ⟨ab,fun i hi=>iO i ab⟩)
theorem og (a b:Int):ae Tryz.prog 141 [.int .i64 a,.int .i64 b] (.int .i64 (ph a b)):=by
 have nan:∀x:Int,ae Tryz.prog 157 [.int .i64 x] (.bool false):=fun x=>by
  refine ae.body dK rfl fun hl n0=>?_
  clear hl
  have e:decide (x=x)=true:=decide_eq_true rfl
  (try((repeat(revert hN;revert N;apply Pn.out));refine wk @e ?_;(repeat(refine Pn.mk ?_;intro N hN))))
  exact aC (b:=false) (.inl rfl) (sd @Nat.zero_add) rfl
 refine ae.body dK rfl fun hl n0=>?_
 clear hl
 have ha:=nan a
 have hb:=nan b
 by_cases h1:a<b
 ·(repeat(first|((repeat(revert hN;revert N;apply Pn.out));refine wk @h1 ?_;(repeat(refine Pn.mk ?_;intro N hN)))|((try apply Or.inl);refine⟨_,ae.x (ha) (sd @h1),?_⟩;refine hN _ _ ?_;clear hN N)|((try apply Or.inl);refine⟨_,ae.x (hb) (sd @h1),?_⟩;refine hN _ _ ?_;clear hN N)))
  exact aZ (b:=-1) (.inl rfl) (sd @Nat.zero_add) (by rw[ph,if_pos h1])
 by_cases h2:b<a
 ·(repeat(first|((repeat(revert hN;revert N;apply Pn.out));refine wk (tw @h1 @h2) ?_;(repeat(refine Pn.mk ?_;intro N hN)))|((try apply Or.inl);refine⟨_,ae.x (ha) (sd (tw @h1 @h2)),?_⟩;refine hN _ _ ?_;clear hN N)|((try apply Or.inl);refine⟨_,ae.x (hb) (sd (tw @h1 @h2)),?_⟩;refine hN _ _ ?_;clear hN N)))
  exact aZ (b:=1) (.inl rfl) (sd @Nat.zero_add) (by rw[ph,if_neg h1,if_pos h2])
 ·(repeat(first|((repeat(revert hN;revert N;apply Pn.out));refine wk (tw @h1 @h2) ?_;(repeat(refine Pn.mk ?_;intro N hN)))|((try apply Or.inl);refine⟨_,ae.x (ha) (sd (tw @h1 @h2)),?_⟩;refine hN _ _ ?_;clear hN N)|((try apply Or.inl);refine⟨_,ae.x (hb) (sd (tw @h1 @h2)),?_⟩;refine hN _ _ ?_;clear hN N)))
  exact aZ (b:=0) (.inl rfl) (sd @Nat.zero_add) (by rw[ph,if_neg h1,if_neg h2])
def Gp:List Int->Int
 |[]=>0
 |a::r=>if a=0 then Gp r else a
theorem Il:∀{l:List Int} {k:Nat} (hk:k<l.length),l[k]≠0->(∀j (h:j<l.length),j<k->l[j]=0)->Gp l=l[k]
 |a::r,0,_,h,_=>by
  have h':a≠0:=h
  rw[Gp,if_neg h'];rfl
 |a::r,k+1,hk,h,h0=>by
  have h':a=0:=h0 0 (by simp) ab
  rw[Gp,if_pos h',Il (k:=k) (by simpa using hk) h fun j hj wD=>h0 (j+1) (by simpa using hj) ab];rfl
theorem Ay:∀{l:List Int},(∀j (h:j<l.length),l[j]=0)->Gp l=0
 |[],_=>rfl
 |a::r,h=>by
  have h':a=0:=h 0 (by simp)
  rw[Gp,if_pos h',Ay fun j hj=>h (j+1) (by simpa using hj)]
theorem DU (a b:Int):Gp [a,b]=Nx a b:=by
 unfold Nx
 by_cases h:a=0
 ·rw[Gp,if_pos h,if_pos h,Gp,Gp];split<;>simp_all
 ·rw[Gp,if_neg h,if_neg h]
theorem Dc (l:List Int):ae Tryz.prog 140 [.sl (l.map au)] (.int .i64 (Gp l)):=by
 refine ae.body dK rfl fun hl n0=>?_
 have hlen:l.length<=9223372036854775807:=by simpa using(hl (.sl (l.map au)) (by simp)).len
 clear hl
 (try((repeat(revert hN;revert N;apply Pn.out));refine wk @Nat.zero_add ?_;(repeat(refine Pn.mk ?_;intro N hN))))
 refine aP (fun n env st=>∃k:Nat,n=(l.length)-k/\k<=(l.length)/\env 8=.int .i64 (k:Int)/\(∀j:Nat,j<k->∀h:j<l.length,l[j]=0)) (l.length) ⟨0,ab,ab,sl @Nat.zero_add,fun _ h=>absurd h (Nat.not_lt_zero _)⟩ ?_
 rintro n_a env_a st_a ⟨k,rfl,ale,a8,iO⟩ dm
 have a3:=dm 3 (by kernel_rfl);have a6:=dm 6 (by kernel_rfl);have a7:=dm 7 (by kernel_rfl)
 simp only[go_sem, ↓reduceIte,Nat.reduceEqDiff,Nat.reduceAdd,Nat.reduceSub,Nat.reduceLeDiff,reduceCtorEq]at a3 a6 a7
 clear dm
 by_cases hk:(k:Int)<(l.length:Int)
 ·have bD:∀{e:Env},(e 8=.int .i64 (IntKind.i64.wrap ((k:Int)+1)))->(∀h:k<l.length,l[k]=0)->∃m0,m0<(l.length)-k/\∃k:Nat,m0=(l.length)-k/\k<=(l.length)/\e 8=.int .i64 (k:Int)/\(∀j:Nat,j<k->∀h:j<l.length,l[j]=0):=fun x1 x2=>⟨_,ab,k+1,rfl,ab,(by rw[x1,ay ab]),(all_succ iO x2)⟩
  have dX:k<l.length:=ab
  have eD:(l.map au)[k]? =some (au l[k]):=by simp[dX]
  generalize hv:l[k]=v at eD
  by_cases h0:v=0
  ·have e:decide (v=0)=true:=decide_eq_true h0
   (try((repeat(revert hN;revert N;apply Pn.out));refine wk (tw @a8 (tw @a3 (tw @a6 (tw @a7 (tw @e (tw @hk (tw @eD @au.eq_1))))))) ?_;(repeat(refine Pn.mk ?_;intro N hN))))
   exact bD (sd (tw @a8 (tw @a3 (tw @a6 @a7)))) (fun _=>hv.trans h0)
  ·have e:decide (v=0)=false:=decide_eq_false h0
   (try((repeat(revert hN;revert N;apply Pn.out));refine wk (tw @a8 (tw @a3 (tw @a6 (tw @a7 (tw @e (tw @hk (tw @eD @au.eq_1))))))) ?_;(repeat(refine Pn.mk ?_;intro N hN))))
   exact aZ (b:=v) (.inl rfl) (sd @Nat.zero_add) (by rw[Il dX (by rw[hv];exact h0) fun j h hj=>iO j hj h,hv])
 ·(try((repeat(revert hN;revert N;apply Pn.out));refine wk (tw @a8 (tw @a3 (tw @a6 (tw @a7 @hk)))) ?_;(repeat(refine Pn.mk ?_;intro N hN))))
  exact aZ (b:=0) (.inl rfl) (sd @Nat.zero_add) (by rw[Ay fun j h=>iO j ab h])
section
attribute [local go_sem] List.drop_zero List.take_succ_cons List.take_zero List.length_cons List.length_nil fU qf kZ
theorem mN (a b:cr):ae Tryz.prog 139 [.agg (ao a),.agg (ao b)] (.int .i64 (sF a b)):=by
 refine ae.body dK rfl fun hl n0=>?_
 clear hl
 have h1:=og a.fR b.fR
 have h2:=og a.gG b.gG
 have h3:=Dc [ph a.fR b.fR,ph a.gG b.gG]
 rw[DU,List.map_cons,List.map_cons,List.map_nil,au,au]at h3
 (repeat(first|((repeat(revert hN;revert N;apply Pn.out));refine wk @ao.eq_1 ?_;(repeat(refine Pn.mk ?_;intro N hN)))|((try apply Or.inl);refine⟨_,ae.x (h1) (sd @ao.eq_1),?_⟩;refine hN _ _ ?_;clear hN N)|((try apply Or.inl);refine⟨_,ae.x (h2) (sd @ao.eq_1),?_⟩;refine hN _ _ ?_;clear hN N)|((try apply Or.inl);refine⟨_,ae.x (h3) (sd @ao.eq_1),?_⟩;refine hN _ _ ?_;clear hN N)))
 exact aZ (b:=sF a b) (.inl rfl) (by simp only[go_sem, ↓reduceIte,Nat.reduceEqDiff,Nat.reduceAdd,Nat.reduceSub,Nat.reduceLeDiff,reduceCtorEq,sF]) rfl
end
theorem Kd (a b:cr):ae Tryz.prog 137 [.agg (ao a),.agg (ao b)] (.bool (q9 a b)):=by
 refine ae.body dK rfl fun hl n0=>?_
 clear hl
 have h1:=mN a b
 rw[ao,ao]at h1
 (repeat(first|((repeat(revert hN;revert N;apply Pn.out));refine wk @ao.eq_1 ?_;(repeat(refine Pn.mk ?_;intro N hN)))|((try apply Or.inl);refine⟨_,ae.x (h1) (sd @ao.eq_1),?_⟩;refine hN _ _ ?_;clear hN N)))
 exact aC (b:=decide (sF a b<0)) (.inl rfl) (sd @Nat.zero_add) (xu a b)
theorem jQ (t:aq) (p:cr):ae Tryz.prog 108 [.agg (ai t),.agg (ao p)] (.int .i64 (sF t.cI p)):=by
 refine ae.body dK rfl fun hl n0=>?_
 clear hl
 have h1:=mN t.cI p
 rw[ao,ao]at h1
 (repeat(first|((repeat(revert hN;revert N;apply Pn.out));refine wk (tw @ai.eq_1 @ao.eq_1) ?_;(repeat(refine Pn.mk ?_;intro N hN)))|((try apply Or.inl);refine⟨_,ae.x (h1) (sd (tw @ai.eq_1 @ao.eq_1)),?_⟩;refine hN _ _ ?_;clear hN N)))
 exact aZ (b:=sF t.cI p) (.inl rfl) (sd @Nat.zero_add) rfl
theorem EP (l:List aq):ae Tryz.prog 103 [.agg [.sl (l.map ai)]] (.bool (nG l)):=by
 refine ae.body dK rfl fun hl n0=>?_
 have hlen:l.length<=9223372036854775807:=by
  have h1:=(hl (.agg [.sl (l.map ai)]) (by simp)).GI (a:=.sl (l.map ai)) (by simp)
  simpa using h1.len
 clear hl
 (try((repeat(revert hN;revert N;apply Pn.out));refine wk @Nat.zero_add ?_;(repeat(refine Pn.mk ?_;intro N hN))))
 refine aP (fun n env st=>∃k:Nat,n=(l.length)-k/\k<=(l.length)/\env 8=.int .i64 (k:Int)/\st.get ⟨103000000,n0⟩=some ⟨true,1,[[.sl (l.map ai)]]⟩/\(∀j:Nat,j<k->Ek l j)) (l.length) ⟨0,ab,ab,sl @Nat.zero_add,sl @Nat.zero_add,fun _ h=>absurd h (Nat.not_lt_zero _)⟩ ?_
 rintro n_a env_a st_a ⟨k,rfl,ale,a8,ag0,iO⟩ dm
 have a1:=dm 1 (by kernel_rfl);have a6:=dm 6 (by kernel_rfl);have a7:=dm 7 (by kernel_rfl)
 simp only[go_sem, ↓reduceIte,Nat.reduceEqDiff,Nat.reduceAdd,Nat.reduceSub,Nat.reduceLeDiff,reduceCtorEq]at a1 a6 a7
 clear dm
 by_cases hk:(k:Int)<(l.length:Int)
 ·have bD:∀{e:Env} {gg:Rows},(e 8=.int .i64 (IntKind.i64.wrap ((k:Int)+1)))->(gg ⟨103000000,n0⟩=some ⟨true,1,[[.sl (l.map ai)]]⟩)->(Ek l k)->∃m0,m0<(l.length)-k/\∃k:Nat,m0=(l.length)-k/\k<=(l.length)/\e 8=.int .i64 (k:Int)/\gg ⟨103000000,n0⟩=some ⟨true,1,[[.sl (l.map ai)]]⟩/\(∀j:Nat,j<k->Ek l j):=fun x1 x2 x3=>⟨_,ab,k+1,rfl,ab,(by rw[x1,ay ab]),x2,(all_succ iO x3)⟩
  have dX:k<l.length:=ab
  have eD:=gJ dX
  have lg:(¬Ek l k)->¬kc l:=fun h hp=>h (hp.ok k dX)
  have hp:=xj (bC l k).cI
  have ht:=rL (bC l k).bJ 160 ab ab
  rw[show(160:Int)-1=159 from rfl]at ht
  cases b1:Gq (bC l k).cI
  ·rw[b1]at hp
   (repeat(first|((repeat(revert hN;revert N;apply Pn.out));refine wk (tw @a8 (tw @ag0 (tw @a1 (tw @a6 (tw @a7 (tw @hk (tw @eD (tw @ai.eq_1 @ao.eq_1)))))))) ?_;(repeat(refine Pn.mk ?_;intro N hN)))|((try apply Or.inl);refine⟨_,ae.x (hp) (sd (tw @a8 (tw @ag0 (tw @a1 (tw @a6 (tw @a7 (tw @hk (tw @eD (tw @ai.eq_1 @ao.eq_1))))))))),?_⟩;refine hN _ _ ?_;clear hN N)))
   exact aC (b:=false) (.inl rfl) (sd @Nat.zero_add) (jJ (lg fun h=>by rw[Ek,b1]at h;cases h.1))
  rw[b1]at hp
  cases b2:fJ (bC l k).bJ 0 159
  ·rw[b2]at ht
   (repeat(first|((repeat(revert hN;revert N;apply Pn.out));refine wk (tw @a8 (tw @ag0 (tw @a1 (tw @a6 (tw @a7 (tw @hk (tw @eD (tw @ai.eq_1 @ao.eq_1)))))))) ?_;(repeat(refine Pn.mk ?_;intro N hN)))|((try apply Or.inl);refine⟨_,ae.x (hp) (sd (tw @a8 (tw @ag0 (tw @a1 (tw @a6 (tw @a7 (tw @hk (tw @eD (tw @ai.eq_1 @ao.eq_1))))))))),?_⟩;refine hN _ _ ?_;clear hN N)|((try apply Or.inl);refine⟨_,ae.x (ht) (sd (tw @a8 (tw @ag0 (tw @a1 (tw @a6 (tw @a7 (tw @hk (tw @eD (tw @ai.eq_1 @ao.eq_1))))))))),?_⟩;refine hN _ _ ?_;clear hN N)))
   exact aC (b:=false) (.inl rfl) (sd @Nat.zero_add) (jJ (lg fun h=>by rw[Ek,b2]at h;cases h.2.1))
  rw[b2]at ht
  by_cases h0:(0:Int)<(k:Int)
  ·have tW:=gJ (l:=l) (i:=k-1) ab
   have hw:IntKind.i64.wrap ((k:Int)-1)=((k-1:Nat):Int):=by rw[aT ab];omega
   have hq:=Kd (bC l (k-1)).cI (bC l k).cI
   cases b3:q9 (bC l (k-1)).cI (bC l k).cI
   ·rw[b3]at hq
    (repeat(first|((repeat(revert hN;revert N;apply Pn.out));refine wk (tw @a8 (tw @ag0 (tw @a1 (tw @a6 (tw @a7 (tw @hk (tw @eD (tw @tW (tw @h0 (tw @hw (tw @ai.eq_1 @ao.eq_1))))))))))) ?_;(repeat(refine Pn.mk ?_;intro N hN)))|((try apply Or.inl);refine⟨_,ae.x (hp) (sd (tw @a8 (tw @ag0 (tw @a1 (tw @a6 (tw @a7 (tw @hk (tw @eD (tw @tW (tw @h0 (tw @hw (tw @ai.eq_1 @ao.eq_1)))))))))))),?_⟩;refine hN _ _ ?_;clear hN N)|((try apply Or.inl);refine⟨_,ae.x (ht) (sd (tw @a8 (tw @ag0 (tw @a1 (tw @a6 (tw @a7 (tw @hk (tw @eD (tw @tW (tw @h0 (tw @hw (tw @ai.eq_1 @ao.eq_1)))))))))))),?_⟩;refine hN _ _ ?_;clear hN N)|((try apply Or.inl);refine⟨_,ae.x (hq) (sd (tw @a8 (tw @ag0 (tw @a1 (tw @a6 (tw @a7 (tw @hk (tw @eD (tw @tW (tw @h0 (tw @hw (tw @ai.eq_1 @ao.eq_1)))))))))))),?_⟩;refine hN _ _ ?_;clear hN N)))
    exact aC (b:=false) (.inl rfl) (sd @Nat.zero_add) (jJ (lg fun h=>by have:=h.2.2 ab;rw[b3]at this;cases this))
   ·rw[b3]at hq
    (repeat(first|((repeat(revert hN;revert N;apply Pn.out));refine wk (tw @a8 (tw @ag0 (tw @a1 (tw @a6 (tw @a7 (tw @hk (tw @eD (tw @tW (tw @h0 (tw @hw (tw @ai.eq_1 @ao.eq_1))))))))))) ?_;(repeat(refine Pn.mk ?_;intro N hN)))|((try apply Or.inl);refine⟨_,ae.x (hp) (sd (tw @a8 (tw @ag0 (tw @a1 (tw @a6 (tw @a7 (tw @hk (tw @eD (tw @tW (tw @h0 (tw @hw (tw @ai.eq_1 @ao.eq_1)))))))))))),?_⟩;refine hN _ _ ?_;clear hN N)|((try apply Or.inl);refine⟨_,ae.x (ht) (sd (tw @a8 (tw @ag0 (tw @a1 (tw @a6 (tw @a7 (tw @hk (tw @eD (tw @tW (tw @h0 (tw @hw (tw @ai.eq_1 @ao.eq_1)))))))))))),?_⟩;refine hN _ _ ?_;clear hN N)|((try apply Or.inl);refine⟨_,ae.x (hq) (sd (tw @a8 (tw @ag0 (tw @a1 (tw @a6 (tw @a7 (tw @hk (tw @eD (tw @tW (tw @h0 (tw @hw (tw @ai.eq_1 @ao.eq_1)))))))))))),?_⟩;refine hN _ _ ?_;clear hN N)))
    refine bD ?_ ?_ (⟨b1,b2,fun _=>b3⟩)
    all_goals simp only[go_sem, ↓reduceIte,Nat.reduceEqDiff,Nat.reduceAdd,Nat.reduceSub,Nat.reduceLeDiff,reduceCtorEq,a8,ag0,a1,a6,a7]
  ·have kN:k=0:=ab
   (repeat(first|((repeat(revert hN;revert N;apply Pn.out));refine wk (tw @a8 (tw @ag0 (tw @a1 (tw @a6 (tw @a7 (tw @hk (tw @eD (tw @h0 (tw @ai.eq_1 @ao.eq_1))))))))) ?_;(repeat(refine Pn.mk ?_;intro N hN)))|((try apply Or.inl);refine⟨_,ae.x (hp) (sd (tw @a8 (tw @ag0 (tw @a1 (tw @a6 (tw @a7 (tw @hk (tw @eD (tw @h0 (tw @ai.eq_1 @ao.eq_1)))))))))),?_⟩;refine hN _ _ ?_;clear hN N)|((try apply Or.inl);refine⟨_,ae.x (ht) (sd (tw @a8 (tw @ag0 (tw @a1 (tw @a6 (tw @a7 (tw @hk (tw @eD (tw @h0 (tw @ai.eq_1 @ao.eq_1)))))))))),?_⟩;refine hN _ _ ?_;clear hN N)))
   refine bD ?_ ?_ (⟨b1,b2,fun h=>ab⟩)
   all_goals simp only[go_sem, ↓reduceIte,Nat.reduceEqDiff,Nat.reduceAdd,Nat.reduceSub,Nat.reduceLeDiff,reduceCtorEq,a8,ag0,a1,a6,a7]
 ·(try((repeat(revert hN;revert N;apply Pn.out));refine wk (tw @a8 (tw @ag0 (tw @a1 (tw @a6 (tw @a7 @hk))))) ?_;(repeat(refine Pn.mk ?_;intro N hN))))
  refine aC (b:=decide ((l.length:Int)<=500)) (.inl rfl) (sd @Nat.zero_add) ?_
  by_cases h5:(l.length:Int)<=500
  ·rw[decide_eq_true h5];exact wm ⟨ab,fun i hi=>iO i ab⟩
  ·rw[decide_eq_false h5];exact jJ fun h=>by have:=h.Gc;omega
end Go.Proofs.YtihgaadadaekmaaGreatDoor.V

namespace Go.Proofs.YtihgaadadaekmaaGreatDoor
open Go.RowKit
structure eI where
 dn:Int
 de:Int
deriving DecidableEq
structure dF where
 aL:Int
 ak:List eI
 aY:List (List Int)
deriving DecidableEq
end Go.Proofs.YtihgaadadaekmaaGreatDoor
namespace Go.Proofs.YtihgaadadaekmaaGreatDoor.V
open Go.RowKit
attribute [local irreducible] ea wpOps gS Call
attribute [local go_sem] aM fQ eM gi gh cE upd cu K.av cL AV.cells AV.cell rowOf rowsOf part ld rowAt bY ck dI eh ij bL da eA gp e8 du eo cY cX dV dW bR bm cQ bQ cT cR ej er ek cP bW cZ ei bP aQ cV cC ig bw cH bS aX dG bu dL AV.undef bF bH dY ef dU ec cF ez eF cw ev eu cU cW List.getD_cons_zero List.getD_cons_succ List.getD_nil List.all_cons List.all_nil Bool.and_true Bool.true_and Bool.and_self Bool.not_true Bool.not_false Option.map_some Option.map_none Option.bind_some Option.bind_none List.length_cons List.length_nil List.take_succ_cons List.take_zero List.take_nil List.drop_succ_cons List.drop_zero List.drop_nil List.head?_cons List.map_cons List.map_nil List.getElem?_cons_zero List.getElem?_cons_succ List.cons_append List.nil_append List.append_nil List.length_map List.set_cons_zero List.set_cons_succ eq_self Int.toNat_natCast Int.natCast_nonneg and_self true_and and_true decide_true decide_false Bool.false_eq_true Nat.zero_add Nat.add_zero List.contains_cons List.contains_nil Bool.or_false Bool.false_or beq_self_eq_true ne_eq not_true_eq_false not_false_eq_true Id.mk.injEq false_and and_false Nat.le_refl List.length_append beq_true beq_false Bool.not_eq_eq_eq_not or_false false_or dE ad aj aI bE cj aV bf aU bo cN bG
def bh (d:eI):List AV:=[.int .i64 d.dn,.int .i64 d.de]
def bc (d:dF):List AV:=[.int .i64 d.aL,.sl (d.ak.map bh),.sl (d.aY.map kf)]
def iI (l:List eI) (i:Nat):eI:=l.getD i ⟨0,0⟩
theorem sR {l:List eI} {k:Nat} (h:k<l.length):(l.map bh)[k]? =some (bh (iI l k)):=getD_map bh h
def qK (l:List (List Int)) (i:Nat):List Int:=l.getD i []
theorem KY {l:List (List Int)} {k:Nat} (h:k<l.length):(l.map kf)[k]? =some [.sl ((qK l k).map au)]:=getD_map kf h
def Bd (a b:Int):Int:=IntKind.i64.wrap ((BitVec.ofInt IntKind.i64.bits a&&& BitVec.ofInt IntKind.i64.bits b).toNat)
theorem Lf (a b:Int):dI .and .i64 a b=some (.int .i64 (Bd a b)):=rfl
def mz (n:Int):Int:=(2:Int) ^ n.toNat
theorem IA {n:Int} (h0:1<=n) (h1:n<=4):IntKind.i64.wrap (1*2 ^ min n.toNat 64)=mz n:=by
 obtain⟨k,rfl⟩:∃k:Nat,n=(k:Int):=⟨n.toNat,ab⟩
 have:∀k:Fin 5,IntKind.i64.wrap (1*2 ^ min ((k.1:Int)).toNat 64)=mz (k.1:Int):=by decide
 exact this ⟨k,ab⟩
theorem yG {n:Int} (h0:1<=n) (h1:n<=4):2<=mz n/\mz n<=16:=by
 obtain⟨k,rfl⟩:∃k:Nat,n=(k:Int):=⟨n.toNat,ab⟩
 have:∀k:Fin 5,1<=k.1->2<=mz (k.1:Int)/\mz (k.1:Int)<=16:=by decide
 exact this ⟨k,ab⟩ (by simp;omega)
def oW (n:Int) (c:eI):Bool:=fJ c.dn 0 (mz n-1)&&decide (Bd c.de c.dn=c.de)
theorem Bo {n:Int} (h0:1<=n) (h1:n<=4) {c:eI} (hc:fJ c.dn 0 (mz n-1)=true) (hv:Bd c.de c.dn=c.de):fJ c.de 0 (mz n-1)=true:=by
 have h2:=dB hc
 have h3:=yG h0 h1
 have h4:(BitVec.ofInt IntKind.i64.bits c.de&&& BitVec.ofInt IntKind.i64.bits c.dn).toNat<=c.dn.toNat:=by
  rw[BitVec.toNat_and]
  refine Nat.le_trans Nat.and_le_right ?_
  have e:IntKind.i64.bits=64:=rfl
  rw[e,BitVec.toNat_ofInt]
  omega
 have h5:Bd c.de c.dn=((BitVec.ofInt IntKind.i64.bits c.de&&& BitVec.ofInt IntKind.i64.bits c.dn).toNat:Int):=aT ab
 refine nK ?_
 omega
def qc (a b:eI):Bool:=decide (a.dn<b.dn)||(decide (a.dn=b.dn)&&decide (a.de<b.de))
def Eu (a b:eI):Int:=Nx (ph a.dn b.dn) (ph a.de b.de)
theorem JB (a b:eI):decide (0<=Eu a b)= !qc a b:=by
 unfold Eu Nx ph qc
 by_cases h1:a.dn<b.dn
 ·simp[h1]
 ·by_cases h2:b.dn<a.dn
  ·have h3:¬a.dn=b.dn:=ab
   simp[h1,h2,h3]
  ·have h3:a.dn=b.dn:=ab
   simp[h3]
   by_cases h4:a.de<b.de
   ·simp[h4]
   ·by_cases h5:b.de<a.de
    ·simp[h4,h5]
    ·simp[h4,h5]
def np (m:Int) (l:List Int) (i:Nat):Prop:=fJ (l.getD i 0) 0 (m-1)=true/\(0<i->l.getD (i-1) 0<l.getD i 0)
instance (m:Int) (l:List Int) (i:Nat):Decidable (np m l i):=by unfold np;exact inferInstance
def m4 (m:Int) (l:List Int):Bool:=(List.range l.length).all fun i=>decide (np m l i)
theorem s9 {m:Int} {l:List Int} {i:Nat} (hi:i<l.length) (h:¬np m l i):false=m4 m l:=by
 symm
 simp only[m4,List.all_eq_false,List.mem_range]
 exact⟨i,hi,by simpa using h⟩
theorem AD {m:Int} {l:List Int} (h:∀i,i<l.length->np m l i):true=m4 m l:=by
 symm
 simp only[m4,List.all_eq_true,List.mem_range]
 exact fun i hi=>decide_eq_true (h i hi)
def lX (n:Int) (l:List eI) (i:Nat):Prop:=oW n (iI l i)=true/\(0<i->qc (iI l (i-1)) (iI l i)=true)
instance (n:Int) (l:List eI) (i:Nat):Decidable (lX n l i):=by unfold lX;exact inferInstance
def nH (f:dF):Bool:=(fJ f.aL 1 4&&fJ f.aY.length 1 3&&decide (f.ak.length<=81))&&((List.range f.ak.length).all fun i=>decide (lX f.aL f.ak i))&&f.aY.all fun l=>m4 f.ak.length l
theorem j9 {f:dF} (h:(fJ f.aL 1 4&&fJ f.aY.length 1 3&&decide (f.ak.length<=81))=false):false=nH f:=by rw[nH,h];rfl
theorem om {f:dF} {i:Nat} (hi:i<f.ak.length) (h:¬lX f.aL f.ak i):false=nH f:=by
 have:((List.range f.ak.length).all fun i=>decide (lX f.aL f.ak i))=false:=by
  simp only[List.all_eq_false,List.mem_range]
  exact⟨i,hi,by simpa using h⟩
 rw[nH,this,Bool.and_false,Bool.false_and]
theorem wu {f:dF} (h:(fJ f.aL 1 4&&fJ f.aY.length 1 3&&decide (f.ak.length<=81))=true) (hc:∀i,i<f.ak.length->lX f.aL f.ak i):nH f=f.aY.all fun l=>m4 f.ak.length l:=by
 have:((List.range f.ak.length).all fun i=>decide (lX f.aL f.ak i))=true:=by
  simp only[List.all_eq_true,List.mem_range]
  exact fun i hi=>decide_eq_true (hc i hi)
 rw[nH,this,h];rfl
end Go.Proofs.YtihgaadadaekmaaGreatDoor.V

namespace Go.Proofs.YtihgaadadaekmaaGreatDoor.V
open Go.RowKit
attribute [local irreducible] ea wpOps gS Call
attribute [local go_sem] aM fQ eM gi gh cE upd cu K.av cL AV.cells AV.cell rowOf rowsOf part ld rowAt bY ck dI eh ij bL da eA gp e8 du eo cY cX dV dW bR bm cQ bQ cT cR ej er ek cP bW cZ ei bP aQ cV cC ig bw cH bS aX dG bu dL AV.undef bF bH dY ef dU ec cF ez eF cw ev eu cU cW List.getD_cons_zero List.getD_cons_succ List.getD_nil List.all_cons List.all_nil Bool.and_true Bool.true_and Bool.and_self Bool.not_true Bool.not_false Option.map_some Option.map_none Option.bind_some Option.bind_none List.length_cons List.length_nil List.take_succ_cons List.take_zero List.take_nil List.drop_succ_cons List.drop_zero List.drop_nil List.head?_cons List.map_cons List.map_nil List.getElem?_cons_zero List.getElem?_cons_succ List.cons_append List.nil_append List.append_nil List.length_map List.set_cons_zero List.set_cons_succ Nat.reduceMul eq_self Int.toNat_natCast Int.natCast_nonneg and_self true_and and_true decide_true decide_false Bool.false_eq_true Nat.zero_add Nat.add_zero List.contains_cons List.contains_nil Bool.or_false Bool.false_or beq_self_eq_true Nat.reduceBEq ne_eq not_true_eq_false not_false_eq_true Id.mk.injEq false_and and_false Nat.reduceLT Int.reduceLE Int.reduceLT Int.reduceToNat Int.reduceNeg Int.reduceAdd Nat.le_refl List.length_append beq_true beq_false Bool.not_eq_eq_eq_not or_false false_or dE ad aj aI bE cj aV bf aU bo cN bG
theorem v8 (cells:List aq) (p:cr) (hR:yZ cells) (JL:cells.length<=1048576):
  ae Tryz.prog 107 [.sl (cells.map ai),.agg (ao p),.fn 108 []] (.iN [.int .i64 (lL cells p),.bool (decide (lL cells p<cells.length)&&decide ((bC cells (lL cells p)).cI=p))]):=by
 refine ae.body dK rfl fun hl n0=>?_
 clear hl
 (try((repeat(revert hN;revert N;apply Pn.out));refine wk @ao.eq_1 ?_;(repeat(refine Pn.mk ?_;intro N hN))))
 refine aP (fun n env st=>∃i j:Nat,n=j-i/\i<=j/\j<=cells.length/\(∀x,x<i->q9 (bC cells x).cI p=true)/\(∀x,j<=x->x<cells.length->q9 (bC cells x).cI p=false)/\env 9=.int .i64 i/\env 10=.int .i64 j/\st.get ⟨107000000,n0⟩=some ⟨true,2,[ao p]⟩) cells.length ⟨0,cells.length,ab,ab,ab,fun x h=>ab,fun x h1 h2=>ab,by(simp only[go_sem, ↓reduceIte,Nat.reduceEqDiff,Nat.reduceAdd,Nat.reduceSub,Nat.reduceLeDiff,reduceCtorEq])<;>rfl,sd @Nat.zero_add,sd @ao.eq_1⟩ ?_
 rintro n env st ⟨i,j,rfl,Re,hj,jV,AX,h9,Dr,hg⟩ fr
 have h0:=fr 0 (by kernel_rfl)
 have h2:=fr 2 (by kernel_rfl)
 have h4:=fr 4 (by kernel_rfl)
 have h8:=fr 8 (by kernel_rfl)
 simp only[go_sem, ↓reduceIte,Nat.reduceEqDiff,Nat.reduceAdd,Nat.reduceSub,Nat.reduceLeDiff,reduceCtorEq]at h0 h2 h4 h8
 clear fr
 by_cases dD:(i:Int)<(j:Int)
 ·have e1:IntKind.i64.wrap ((i:Int)+j)=((i+j:Nat):Int):=by rw[aT ab];rfl
  have hm:(i+j) / 2<cells.length:=ab
  have dR:(cells.map ai)[(i+j) / 2]? =some (ai (bC cells ((i+j) / 2))):=gJ (l:=cells) hm
  have e2:IntKind.i64.wrap ((IntKind.u64.wrap ((i+j:Nat):Int)).fdiv (2 ^ min 1 IntKind.u64.bits))=(((i+j) / 2:Nat):Int):=by
   have h:IntKind.u64.wrap ((i+j:Nat):Int)=((i+j:Nat):Int):=by rw[IntKind.wrap_u64];omega
   rw[h,show min 1 IntKind.u64.bits=1 from rfl,show((2:Int) ^ 1)=2 from rfl,Int.fdiv_eq_ediv_of_nonneg _ ab]
   rw[aT ab];omega
  have O6:IntKind.i64.wrap ((IntKind.u64.wrap ((i+j:Nat):Int)).fdiv (2 ^ min 1 64))=(((i+j) / 2:Nat):Int):=e2
  have e3:=ay (k:=(i+j) / 2) ab
  by_cases hc:sF (bC cells ((i+j) / 2)).cI p<0
  ·have hl:q9 (bC cells ((i+j) / 2)).cI p=true:=by rw[<-xu];simpa using hc
   (repeat(first|((repeat(revert hN;revert N;apply Pn.out));refine wk (tw @h0 (tw @h2 (tw @h4 (tw @h8 (tw @h9 (tw @Dr (tw @hg (tw @dD (tw @e1 (tw @e2 (tw @O6 (tw @dR (tw @hc (tw @ai.eq_1 @ao.eq_1)))))))))))))) ?_;(repeat(refine Pn.mk ?_;intro N hN)))|((try apply Or.inl);refine⟨_,ae.x (jQ (bC cells ((i+j) / 2)) p) (sd (tw @h0 (tw @h2 (tw @h4 (tw @h8 (tw @h9 (tw @Dr (tw @hg (tw @dD (tw @e1 (tw @e2 (tw @O6 (tw @dR (tw @hc (tw @ai.eq_1 @ao.eq_1))))))))))))))),?_⟩;refine hN _ _ ?_;clear hN N)))
   refine⟨_,?_,(i+j) / 2+1,j,rfl,ab,hj,fun x hx=>?_,AX,sd @e3,sd @Dr,sd (tw @hg @ao.eq_1)⟩
   ·omega
   ·by_cases Nh:x=(i+j) / 2
    ·subst Nh;exact hl
    ·exact lN (hR x _ ab hm) hl
  ·have hl:q9 (bC cells ((i+j) / 2)).cI p=false:=by rw[<-xu];simpa using hc
   (repeat(first|((repeat(revert hN;revert N;apply Pn.out));refine wk (tw @h0 (tw @h2 (tw @h4 (tw @h8 (tw @h9 (tw @Dr (tw @hg (tw @dD (tw @e1 (tw @e2 (tw @O6 (tw @dR (tw @hc (tw @ai.eq_1 @ao.eq_1)))))))))))))) ?_;(repeat(refine Pn.mk ?_;intro N hN)))|((try apply Or.inl);refine⟨_,ae.x (jQ (bC cells ((i+j) / 2)) p) (sd (tw @h0 (tw @h2 (tw @h4 (tw @h8 (tw @h9 (tw @Dr (tw @hg (tw @dD (tw @e1 (tw @e2 (tw @O6 (tw @dR (tw @hc (tw @ai.eq_1 @ao.eq_1))))))))))))))),?_⟩;refine hN _ _ ?_;clear hN N)))
   refine⟨_,?_,i,(i+j) / 2,rfl,ab,ab,jV,fun x h1 h2=>?_,sd @h9,sd (tw @e2 @O6),sd (tw @hg @ao.eq_1)⟩
   ·omega
   ·by_cases Nh:x=(i+j) / 2
    ·subst Nh;exact hl
    ·rw[Bool.eq_false_iff]
     intro hc
     have h3:=lN (hR ((i+j) / 2) x ab h2) hc
     rw[hl]at h3;cases h3
 ·have MS:i=j:=ab
  subst MS
  have BY:lL cells p=i:=yc hj jV fun h=>AX i (Nat.le_refl _) h
  by_cases hn:(i:Int)<(cells.length:Int)
  ·have fP:i<cells.length:=ab
   have dR:(cells.map ai)[i]? =some (ai (bC cells i)):=gJ (l:=cells) fP
   have hd:decide (sF (bC cells i).cI p=0)=decide ((bC cells i).cI=p):=by simp only[Ev]
   (repeat(first|((repeat(revert hN;revert N;apply Pn.out));refine wk (tw @h0 (tw @h2 (tw @h4 (tw @h8 (tw @h9 (tw @Dr (tw @hg (tw @dD (tw @hn (tw @dR (tw @ai.eq_1 @ao.eq_1))))))))))) ?_;(repeat(refine Pn.mk ?_;intro N hN)))|((try apply Or.inl);refine⟨_,ae.x (jQ (bC cells i) p) (sd (tw @h0 (tw @h2 (tw @h4 (tw @h8 (tw @h9 (tw @Dr (tw @hg (tw @dD (tw @hn (tw @dR (tw @ai.eq_1 @ao.eq_1)))))))))))),?_⟩;refine hN _ _ ?_;clear hN N)))
   refine jf (.inl rfl) (r1:=.int .i64 i) (r2:=.bool (decide ((bC cells i).cI=p))) ?_ ?_ ?_
   ·simp only[go_sem, ↓reduceIte,Nat.reduceEqDiff,Nat.reduceAdd,Nat.reduceSub,Nat.reduceLeDiff,reduceCtorEq]
   ·simp only[go_sem, ↓reduceIte,Nat.reduceEqDiff,Nat.reduceAdd,Nat.reduceSub,Nat.reduceLeDiff,reduceCtorEq,hd]
   ·simp only[eY,br,bV,eC,fa,Option.map_some,BY,fP,decide_true,Bool.true_and]
  ·have fP:¬i<cells.length:=ab
   (try((repeat(revert hN;revert N;apply Pn.out));refine wk (tw @h0 (tw @h2 (tw @h4 (tw @h8 (tw @h9 (tw @Dr (tw @hg (tw @dD (tw @hn (tw @ai.eq_1 @ao.eq_1)))))))))) ?_;(repeat(refine Pn.mk ?_;intro N hN))))
   refine jf (.inl rfl) (r1:=.int .i64 i) (r2:=.bool false) ?_ ?_ ?_
   ·simp only[go_sem, ↓reduceIte,Nat.reduceEqDiff,Nat.reduceAdd,Nat.reduceSub,Nat.reduceLeDiff,reduceCtorEq]
   ·simp only[go_sem, ↓reduceIte,Nat.reduceEqDiff,Nat.reduceAdd,Nat.reduceSub,Nat.reduceLeDiff,reduceCtorEq]
   ·simp only[eY,br,bV,eC,fa,Option.map_some,BY,fP,decide_false,Bool.false_and]
theorem FF (l:List aq) (p:cr) (hR:yZ l) (JL:l.length<=1048576):ae Tryz.prog 187 [.agg [.sl (l.map ai)],.agg (ao p)] (.int .i64 (fX l p)):=by
 refine ae.body dK rfl fun hl n0=>?_
 clear hl
 rw[yd hR]
 have hb:=v8 l p hR JL
 rw[ao]at hb
 cases hf:(decide (lL l p<l.length)&&decide ((bC l (lL l p)).cI=p))
 ·rw[hf]at hb
  (repeat(first|((repeat(revert hN;revert N;apply Pn.out));refine wk @ao.eq_1 ?_;(repeat(refine Pn.mk ?_;intro N hN)))|((try apply Or.inl);refine⟨_,ae.x (hb) (sd @ao.eq_1),?_⟩;refine hN _ _ ?_;clear hN N)))
  exact aZ (b:=-1) (.inl rfl) (sd @Nat.zero_add) (by rw[if_neg];intro h;simp[h.1,h.2]at hf)
 ·rw[hf]at hb
  (repeat(first|((repeat(revert hN;revert N;apply Pn.out));refine wk @ao.eq_1 ?_;(repeat(refine Pn.mk ?_;intro N hN)))|((try apply Or.inl);refine⟨_,ae.x (hb) (sd @ao.eq_1),?_⟩;refine hN _ _ ?_;clear hN N)))
  exact aZ (b:=(lL l p:Int)) (.inl rfl) (sd @Nat.zero_add) (by rw[if_pos];simpa using hf)
theorem RF (l:List aq) (p:cr) (hR:yZ l) (JL:l.length<=1048576):ae Tryz.prog 75 [.agg [.sl (l.map ai)],.agg (ao p)] (.int .i64 (vW l p)):=by
 refine ae.body dK rfl fun hl n0=>?_
 clear hl
 have hi:=yd (l:=l) (p:=p) hR
 have hb:=v8 l p hR JL
 rw[ao]at hb
 cases hf:(decide (lL l p<l.length)&&decide ((bC l (lL l p)).cI=p))
 ·rw[hf]at hb
  (repeat(first|((repeat(revert hN;revert N;apply Pn.out));refine wk @ao.eq_1 ?_;(repeat(refine Pn.mk ?_;intro N hN)))|((try apply Or.inl);refine⟨_,ae.x (hb) (sd @ao.eq_1),?_⟩;refine hN _ _ ?_;clear hN N)))
  exact aZ (b:=-1) (.inl rfl) (sd @Nat.zero_add) (by
   have hx:fX l p= -1:=by rw[hi,if_neg (by intro h;simp[h.1,h.2]at hf)]
   rw[vW,hx];rfl)
 ·rw[hf]at hb
  have hc:lL l p<l.length/\(bC l (lL l p)).cI=p:=by simpa using hf
  have hg:=gJ hc.1
  (repeat(first|((repeat(revert hN;revert N;apply Pn.out));refine wk (tw @ao.eq_1 (tw @hg @ai.eq_1)) ?_;(repeat(refine Pn.mk ?_;intro N hN)))|((try apply Or.inl);refine⟨_,ae.x (hb) (sd (tw @ao.eq_1 (tw @hg @ai.eq_1))),?_⟩;refine hN _ _ ?_;clear hN N)))
  exact aZ (b:=(bC l (lL l p)).bJ) (.inl rfl) (sd @Nat.zero_add) (by
   have hx:fX l p=(lL l p:Int):=by rw[hi,if_pos hc]
   rw[vW,hx,if_pos ab,Int.toNat_natCast])
theorem uj (l:List aq) (p:cr) (hR:yZ l) (JL:l.length<=1048576):ae Tryz.prog 67 [.cJ [.sl (l.map ai)],.agg (ao p)] (.int .i64 (fX l p)):=by
 refine ae.body dK rfl fun hl n0=>?_
 clear hl
 rw[yd hR]
 (try((repeat(revert hN;revert N;apply Pn.out));refine wk @ao.eq_1 ?_;(repeat(refine Pn.mk ?_;intro N hN))))
 refine aP (fun n env st=>∃i j:Nat,n=j-i/\i<=j/\j<=l.length/\(∀x,x<i->q9 (bC l x).cI p=true)/\(∀x,j<=x->x<l.length->q9 (bC l x).cI p=false)/\env 5=.int .i64 i/\env 6=.int .i64 j/\st.get ⟨67000000,n0⟩=some ⟨true,2,[ao p]⟩) l.length ⟨0,l.length,ab,ab,ab,fun x h=>ab,fun x h1 h2=>ab,by(simp only[go_sem, ↓reduceIte,Nat.reduceEqDiff,Nat.reduceAdd,Nat.reduceSub,Nat.reduceLeDiff,reduceCtorEq])<;>rfl,sd @Nat.zero_add,sd @ao.eq_1⟩ ?_
 rintro n env st ⟨i,j,rfl,Re,hj,jV,AX,h5,h6,hg⟩ fr
 have h0:=fr 0 (by kernel_rfl)
 have h3:=fr 3 (by kernel_rfl)
 simp only[go_sem, ↓reduceIte,Nat.reduceEqDiff,Nat.reduceAdd,Nat.reduceSub,Nat.reduceLeDiff,reduceCtorEq]at h0 h3
 clear fr
 by_cases dD:(i:Int)<(j:Int)
 ·have e1:IntKind.i64.wrap ((i:Int)+j)=((i+j:Nat):Int):=by rw[aT ab];rfl
  have hm:(i+j) / 2<l.length:=ab
  have dR:=gJ hm
  have e2:IntKind.i64.wrap (((i+j:Nat):Int).tdiv 2)=(((i+j) / 2:Nat):Int):=by
   rw[Int.tdiv_eq_ediv_of_nonneg ab,aT ab];omega
  have e3:=ay (k:=(i+j) / 2) ab
  have hq:=r4 (bC l ((i+j) / 2)).cI p
  cases hl:q9 (bC l ((i+j) / 2)).cI p
  ·rw[hl]at hq
   (repeat(first|((repeat(revert hN;revert N;apply Pn.out));refine wk (tw @h0 (tw @h3 (tw @h5 (tw @h6 (tw @hg (tw @dD (tw @e1 (tw @e2 (tw @dR (tw @ai.eq_1 @ao.eq_1)))))))))) ?_;(repeat(refine Pn.mk ?_;intro N hN)))|((try apply Or.inl);refine⟨_,ae.x (hq) (sd (tw @h0 (tw @h3 (tw @h5 (tw @h6 (tw @hg (tw @dD (tw @e1 (tw @e2 (tw @dR (tw @ai.eq_1 @ao.eq_1))))))))))),?_⟩;refine hN _ _ ?_;clear hN N)))
   refine⟨_,?_,i,(i+j) / 2,rfl,ab,ab,jV,fun x h1 h2=>?_,sd @h5,sd @e2,sd (tw @hg @ao.eq_1)⟩
   ·omega
   ·by_cases Nh:x=(i+j) / 2
    ·subst Nh;exact hl
    ·rw[Bool.eq_false_iff]
     intro hc
     have h3:=lN (hR ((i+j) / 2) x ab h2) hc
     rw[hl]at h3;cases h3
  ·rw[hl]at hq
   (repeat(first|((repeat(revert hN;revert N;apply Pn.out));refine wk (tw @h0 (tw @h3 (tw @h5 (tw @h6 (tw @hg (tw @dD (tw @e1 (tw @e2 (tw @dR (tw @ai.eq_1 @ao.eq_1)))))))))) ?_;(repeat(refine Pn.mk ?_;intro N hN)))|((try apply Or.inl);refine⟨_,ae.x (hq) (sd (tw @h0 (tw @h3 (tw @h5 (tw @h6 (tw @hg (tw @dD (tw @e1 (tw @e2 (tw @dR (tw @ai.eq_1 @ao.eq_1))))))))))),?_⟩;refine hN _ _ ?_;clear hN N)))
   refine⟨_,?_,(i+j) / 2+1,j,rfl,ab,hj,fun x hx=>?_,AX,sd @e3,sd @h6,sd (tw @hg @ao.eq_1)⟩
   ·omega
   ·by_cases Nh:x=(i+j) / 2
    ·subst Nh;exact hl
    ·exact lN (hR x _ ab hm) hl
 ·have MS:i=j:=ab
  subst MS
  have BY:lL l p=i:=yc hj jV fun h=>AX i (Nat.le_refl _) h
  by_cases hn:(i:Int)<(l.length:Int)
  ·have fP:i<l.length:=ab
   have dR:=gJ fP
   by_cases hp:(bC l i).cI=p
   ·have hx:decide ((bC l i).cI.gG=p.gG)=true:=decide_eq_true (by rw[hp])
    have hy:decide ((bC l i).cI.fR=p.fR)=true:=decide_eq_true (by rw[hp])
    (try((repeat(revert hN;revert N;apply Pn.out));refine wk (tw @h0 (tw @h3 (tw @h5 (tw @h6 (tw @hg (tw @dD (tw @hn (tw @dR (tw @hx (tw @hy (tw @ai.eq_1 @ao.eq_1))))))))))) ?_;(repeat(refine Pn.mk ?_;intro N hN))))
    exact aZ (b:=(i:Int)) (.inl rfl) (sd @Nat.zero_add) (by rw[BY,if_pos ⟨fP,hp⟩])
   ·by_cases hx:(bC l i).cI.gG=p.gG
    ·have u6:decide ((bC l i).cI.gG=p.gG)=true:=decide_eq_true hx
     have hy':decide ((bC l i).cI.fR=p.fR)=false:=decide_eq_false fun h=>hp (NA hx h)
     (try((repeat(revert hN;revert N;apply Pn.out));refine wk (tw @h0 (tw @h3 (tw @h5 (tw @h6 (tw @hg (tw @dD (tw @hn (tw @dR (tw @u6 (tw @hy' (tw @ai.eq_1 @ao.eq_1))))))))))) ?_;(repeat(refine Pn.mk ?_;intro N hN))))
     exact aZ (b:=-1) (.inl rfl) (sd @Nat.zero_add) (by rw[BY,if_neg fun h=>hp h.2])
    ·have u6:decide ((bC l i).cI.gG=p.gG)=false:=decide_eq_false hx
     (try((repeat(revert hN;revert N;apply Pn.out));refine wk (tw @h0 (tw @h3 (tw @h5 (tw @h6 (tw @hg (tw @dD (tw @hn (tw @dR (tw @u6 (tw @Bool.false_and (tw @ai.eq_1 @ao.eq_1))))))))))) ?_;(repeat(refine Pn.mk ?_;intro N hN))))
     exact aZ (b:=-1) (.inl rfl) (sd @Nat.zero_add) (by rw[BY,if_neg fun h=>hp h.2])
  ·have fP:¬i<l.length:=ab
   (try((repeat(revert hN;revert N;apply Pn.out));refine wk (tw @h0 (tw @h3 (tw @h5 (tw @h6 (tw @hg (tw @dD (tw @hn (tw @ai.eq_1 @ao.eq_1)))))))) ?_;(repeat(refine Pn.mk ?_;intro N hN))))
   exact aZ (b:=-1) (.inl rfl) (sd @Nat.zero_add) (by rw[BY,if_neg fun h=>fP h.1])
theorem Km (l:List aq) (p:cr) (hR:yZ l) (JL:l.length<=1048576):ae Tryz.prog 37 [.cJ [.sl (l.map ai)],.agg (ao p)] (.int .i64 (vW l p)):=by
 refine ae.body dK rfl fun hl n0=>?_
 clear hl
 have hb:=uj l p hR JL
 by_cases hi:fX l p<0
 ·rw[ao]at hb
  (repeat(first|((repeat(revert hN;revert N;apply Pn.out));refine wk (tw @ao.eq_1 @hi) ?_;(repeat(refine Pn.mk ?_;intro N hN)))|((try apply Or.inl);refine⟨_,ae.x (hb) (sd (tw @ao.eq_1 @hi)),?_⟩;refine hN _ _ ?_;clear hN N)))
  exact aZ (b:=-1) (.inl rfl) (sd @Nat.zero_add) (by rw[vW,if_neg ab])
 ·have h0:0<=fX l p:=ab
  have hg:=gJ (s5 h0).1
  rw[ao]at hb
  (repeat(first|((repeat(revert hN;revert N;apply Pn.out));refine wk (tw @ao.eq_1 (tw @hi (tw @h0 (tw @hg @ai.eq_1)))) ?_;(repeat(refine Pn.mk ?_;intro N hN)))|((try apply Or.inl);refine⟨_,ae.x (hb) (sd (tw @ao.eq_1 (tw @hi (tw @h0 (tw @hg @ai.eq_1))))),?_⟩;refine hN _ _ ?_;clear hN N)))
  exact aZ (b:=(bC l (fX l p).toNat).bJ) (.inl rfl) (sd @Nat.zero_add) (by rw[vW,if_pos h0])
def re (s:ar) (l:List aq):Prop:=kc l/\∀t∈l,gC s t.bJ=true
noncomputable def oI (s:ar) (l:List aq):Bool:=nG l&&l.all fun t=>gC s t.bJ
theorem lE {s:ar} {l:List aq}:oI s l=true↔re s l:=by simp[oI,re,EM]
theorem Br:Of ai (fun c=>.agg (ai c)) 3 true:=⟨fun _=>rfl,fun _=>rfl,fun x g=>by simp only[ai,ad,aj,bf,aI,Option.map_some]⟩
theorem Fz (s:ar) (t:aq) (hs:s.ah.length<=1048576):ae Tryz.prog 105 [.agg (ai t),.cJ (aa s)] (.bool (!gC s t.bJ)):=by
 refine ae.body dK rfl fun hl n0=>?_
 clear hl
 have h:=HK s t.bJ
 rw[aa]at h
 (repeat(first|((repeat(revert hN;revert N;apply Pn.out));refine wk (tw @ai.eq_1 @aa.eq_1) ?_;(repeat(refine Pn.mk ?_;intro N hN)))|((try apply Or.inl);refine⟨_,ae.x (h) (sd (tw @ai.eq_1 @aa.eq_1)),?_⟩;refine hN _ _ ?_;clear hN N)))
 exact aC (b:= !gC s t.bJ) (.inl rfl) (sd @Nat.zero_add) rfl
theorem K2 (s:ar) (l:List aq) (hs:s.ah.length<=1048576) (hl:l.length<=1048576):ae Tryz.prog 104 [.sl (l.map ai),.fn 105 [.cJ (aa s)]] (.bool (l.any fun t=> !gC s t.bJ)):=
 ke Br (show kO Tryz.prog 104=some (xQ 104 138) by kernel_rfl)
  (show kO Tryz.prog 138=some (rI 138 3 true) by kernel_rfl) l hl _ _ _ rfl (fun g=>by rw[ad,aU,aj];rfl) (fun x _=>Fz s x hs) fun g=>by rw[ad,aU,aj];rfl
theorem Jt {α:Type} (p:α->Bool) (l:List α):(!l.any fun t=> !p t)=l.all p:=by
 induction l with
 |nil=>rfl
 |cons x l ih=>simp only[List.any_cons,List.all_cons,<-ih];cases p x<;>simp
theorem mL (s:ar) (l:List aq) (hn:fA s) (hg:s.aw.length<=1048576) (ht:s.ah.length<=1048576) (hs:∀t∈s.ah,t.bp.length<=1048576) (hl:l.length<=1048576):ae Tryz.prog 73 [.agg (aa s),.agg [.sl (l.map ai)]] (.bool (pK s&&oI s l)):=by
 refine ae.body dK rfl fun hl n0=>?_
 clear hl
 have h1:=Bc s hn hg ht hs
 have h2:=EP l
 have h3:=K2 s l ht hl
 rw[aa]at h1 h3
 cases b1:pK s
 ·rw[b1]at h1
  (repeat(first|((repeat(revert hN;revert N;apply Pn.out));refine wk @aa.eq_1 ?_;(repeat(refine Pn.mk ?_;intro N hN)))|((try apply Or.inl);refine⟨_,ae.x (h1) (sd @aa.eq_1),?_⟩;refine hN _ _ ?_;clear hN N)))
  exact aC (b:=false) (.inl rfl) (sd @Nat.zero_add) rfl
 rw[b1]at h1
 cases b2:nG l
 ·rw[b2]at h2
  (repeat(first|((repeat(revert hN;revert N;apply Pn.out));refine wk @aa.eq_1 ?_;(repeat(refine Pn.mk ?_;intro N hN)))|((try apply Or.inl);refine⟨_,ae.x (h1) (sd @aa.eq_1),?_⟩;refine hN _ _ ?_;clear hN N)|((try apply Or.inl);refine⟨_,ae.x (h2) (sd @aa.eq_1),?_⟩;refine hN _ _ ?_;clear hN N)))
  exact aC (b:=false) (.inl rfl) (sd @Nat.zero_add) (by rw[oI,b2];rfl)
 rw[b2]at h2
 (repeat(first|((repeat(revert hN;revert N;apply Pn.out));refine wk @aa.eq_1 ?_;(repeat(refine Pn.mk ?_;intro N hN)))|((try apply Or.inl);refine⟨_,ae.x (h1) (sd @aa.eq_1),?_⟩;refine hN _ _ ?_;clear hN N)|((try apply Or.inl);refine⟨_,ae.x (h2) (sd @aa.eq_1),?_⟩;refine hN _ _ ?_;clear hN N)|((try apply Or.inl);refine⟨_,ae.x (h3) (sd @aa.eq_1),?_⟩;refine hN _ _ ?_;clear hN N)))
 exact aC (b:= !(l.any fun t=> !gC s t.bJ)) (.inl rfl) (sd @Nat.zero_add) (by rw[Jt,oI,b2];rfl)
theorem DM (s:ar) (l:List aq):ae Tryz.prog 66 [.cJ (aa s),.cJ [.sl (l.map ai)]] (.bool (oI s l)):=by
 refine ae.body dK rfl fun hl n0=>?_
 have hlen:l.length<=9223372036854775807:=by
  have h1:=(hl (.cJ [.sl (l.map ai)]) (by simp)).uh (a:=.sl (l.map ai)) (by simp)
  simpa using h1.len
 clear hl
 have h2:=Ff l
 cases b2:nG l
 ·rw[b2]at h2
  (repeat(first|((repeat(revert hN;revert N;apply Pn.out));refine wk @Nat.zero_add ?_;(repeat(refine Pn.mk ?_;intro N hN)))|((try apply Or.inl);refine⟨_,ae.x (h2) (sd @Nat.zero_add),?_⟩;refine hN _ _ ?_;clear hN N)))
  exact aC (b:=false) (.inl rfl) (sd @Nat.zero_add) (by rw[oI,b2];rfl)
 rw[b2]at h2
 (repeat(first|((repeat(revert hN;revert N;apply Pn.out));refine wk @Nat.zero_add ?_;(repeat(refine Pn.mk ?_;intro N hN)))|((try apply Or.inl);refine⟨_,ae.x (h2) (sd @Nat.zero_add),?_⟩;refine hN _ _ ?_;clear hN N)))
 refine aP (fun n env st=>∃k:Nat,n=(l.length)-k/\k<=(l.length)/\env 5=.int .i64 (k:Int)/\(∀j:Nat,j<k->gC s (bC l j).bJ=true)) (l.length) ⟨0,ab,ab,sl @Nat.zero_add,fun _ h=>absurd h (Nat.not_lt_zero _)⟩ ?_
 rintro n_a env_a st_a ⟨k,rfl,ale,a5,iO⟩ dm
 have a0:=dm 0 (by kernel_rfl);have a1:=dm 1 (by kernel_rfl)
 simp only[go_sem, ↓reduceIte,Nat.reduceEqDiff,Nat.reduceAdd,Nat.reduceSub,Nat.reduceLeDiff,reduceCtorEq]at a0 a1
 clear dm
 by_cases hk:(k:Int)<(l.length:Int)
 ·have bD:∀{e:Env},(e 5=.int .i64 (IntKind.i64.wrap ((k:Int)+1)))->(gC s (bC l k).bJ=true)->∃m0,m0<(l.length)-k/\∃k:Nat,m0=(l.length)-k/\k<=(l.length)/\e 5=.int .i64 (k:Int)/\(∀j:Nat,j<k->gC s (bC l j).bJ=true):=fun x1 x2=>⟨_,ab,k+1,rfl,ab,(by rw[x1,ay ab]),(all_succ iO x2)⟩
  have dX:k<l.length:=ab
  have eD:=gJ dX
  have ht:=Ce s (bC l k).bJ
  cases b3:gC s (bC l k).bJ
  ·rw[b3]at ht
   (repeat(first|((repeat(revert hN;revert N;apply Pn.out));refine wk (tw @a5 (tw @a0 (tw @a1 (tw @hk (tw @eD @ai.eq_1))))) ?_;(repeat(refine Pn.mk ?_;intro N hN)))|((try apply Or.inl);refine⟨_,ae.x (ht) (sd (tw @a5 (tw @a0 (tw @a1 (tw @hk (tw @eD @ai.eq_1)))))),?_⟩;refine hN _ _ ?_;clear hN N)))
   exact aC (b:=false) (.inl rfl) (sd @Nat.zero_add) (by
    have:l.all (fun t=>gC s t.bJ)=false:=List.all_eq_false.2 ⟨_,qz dX,by rw[b3];simp⟩
    rw[oI,this,Bool.and_false])
  ·rw[b3]at ht
   (repeat(first|((repeat(revert hN;revert N;apply Pn.out));refine wk (tw @a5 (tw @a0 (tw @a1 (tw @hk (tw @eD @ai.eq_1))))) ?_;(repeat(refine Pn.mk ?_;intro N hN)))|((try apply Or.inl);refine⟨_,ae.x (ht) (sd (tw @a5 (tw @a0 (tw @a1 (tw @hk (tw @eD @ai.eq_1)))))),?_⟩;refine hN _ _ ?_;clear hN N)))
   exact bD (sd (tw @a5 (tw @a0 @a1))) (b3)
 ·(try((repeat(revert hN;revert N;apply Pn.out));refine wk (tw @a5 (tw @a0 (tw @a1 @hk))) ?_;(repeat(refine Pn.mk ?_;intro N hN))))
  exact aC (b:=true) (.inl rfl) (sd @Nat.zero_add) (by
   have:l.all (fun t=>gC s t.bJ)=true:=List.all_eq_true.2 fun t ht=>by
    obtain⟨j,hj,rfl⟩:=List.getElem_of_mem ht
    have:=iO j ab
    rwa [j7 hj]at this
   rw[oI,b2,this];rfl)
theorem vK (l:List aq) (hF:kc l) (i:Nat) (d:Int) (hi:i<l.length) (hd:fJ d 0 3=true):ae Tryz.prog 148 [.cJ [.sl (l.map ai)],.int .i64 i,.int .i64 d] (.int .i64 (fX l (eL (bC l i).cI d))):=by
 refine ae.body dK rfl fun hl n0=>?_
 clear hl
 have hg:=gJ hi
 have hp:=Is (hF.pt hi)
 have h1:=Fa (bC l i).cI d hd hp.1 hp.2
 have h2:=uj l (eL (bC l i).cI d) hF.Rt (by have:=hF.Gc;omega)
 rw[ao]at h1 h2
 (repeat(first|((repeat(revert hN;revert N;apply Pn.out));refine wk (tw @ai.eq_1 (tw @hg @ao.eq_1)) ?_;(repeat(refine Pn.mk ?_;intro N hN)))|((try apply Or.inl);refine⟨_,ae.x (h1) (sd (tw @ai.eq_1 (tw @hg @ao.eq_1))),?_⟩;refine hN _ _ ?_;clear hN N)|((try apply Or.inl);refine⟨_,ae.x (h2) (sd (tw @ai.eq_1 (tw @hg @ao.eq_1))),?_⟩;refine hN _ _ ?_;clear hN N)))
 exact aZ (b:=fX l (eL (bC l i).cI d)) (.inl rfl) (sd @Nat.zero_add) rfl
end Go.Proofs.YtihgaadadaekmaaGreatDoor.V

namespace Go.Proofs.YtihgaadadaekmaaGreatDoor.V
def bi (b:Bool):Int:=if b then 1 else 0
def lq (f:Nat->Int):Nat->Int
 |0=>0
 |n+1=>lq f n+f n
theorem gR {f g:Nat->Int}:∀{n:Nat},(∀i,i<n->f i=g i)->lq f n=lq g n
 |0,_=>rfl
 |n+1,h=>by
  simp only[lq]
  rw[gR fun i hi=>h i ab,h n ab]
theorem qM {f g:Nat->Int}:∀{n:Nat},(∀i,i<n->f i<=g i)->lq f n<=lq g n
 |0,_=>Int.le_refl _
 |n+1,h=>by
  simp only[lq]
  have:=qM (n:=n) fun i hi=>h i ab
  have:=h n ab
  omega
theorem jx:∀{n:Nat} {f:Nat->Int},(∀i,i<n->f i=0)->lq f n=0
 |0,_,_=>rfl
 |n+1,f,h=>by
  simp only[lq]
  rw[jx fun i hi=>h i ab,h n ab];rfl
theorem oC {f:Nat->Int} {a:Nat} {d:Int}:∀n,lq (fun i=>f i+if i=a then d else 0) n=lq f n+if a<n then d else 0
 |0=>by simp[lq]
 |n+1=>by
  simp only[lq]
  rw[oC n]
  by_cases h:n=a
  ·subst h;simp;omega
  ·rw[if_neg h]
   by_cases h2:a<n
   ·rw[if_pos h2,if_pos ab];omega
   ·rw[if_neg h2,if_neg ab];omega
def lI (n:Nat) (S:Nat->Bool) (f:Nat->Nat->Int):Int:=lq (fun u=>lq (fun v=>if S u&& !S v then f u v else 0) n) n
def bump (f:Nat->Nat->Int) (a b:Nat) (d:Int):Nat->Nat->Int:=fun u v=>f u v+if u=a/\v=b then d else 0
theorem oi {n:Nat} {S:Nat->Bool} {f:Nat->Nat->Int} {a b:Nat} {d:Int} (ha:a<n) (hb:b<n):lI n S (bump f a b d)=lI n S f+if S a&& !S b then d else 0:=by
 unfold lI
 have h1:∀u,u<n->lq (fun v=>if S u&& !S v then bump f a b d u v else 0) n=lq (fun v=>if S u&& !S v then f u v else 0) n+if u=a then(if S a&& !S b then d else 0)else 0:=by
  intro u hu
  by_cases h:u=a
  ·subst h
   have h2:∀v,v<n->(if S u&& !S v then bump f u b d u v else 0)=(fun v=>if S u&& !S v then f u v else 0) v+if v=b then(if S u&& !S b then d else 0)else 0:=by
    intro v hv
    unfold bump
    by_cases h3:v=b
    ·subst h3;simp only[and_self,if_true];split<;>omega
    ·simp only[h3,and_false,if_false];split<;>omega
   rw[gR h2,oC,if_pos hb,if_pos rfl]
  ·rw[if_neg h,Int.add_zero]
   refine gR fun v hv=>?_
   unfold bump
   simp[h]
 rw[gR h1,oC,if_pos ha]
theorem JE {n:Nat} {S:Nat->Bool} {f c:Nat->Nat->Int} (h:∀u v,u<n->v<n->f u v<=c u v):lI n S f<=lI n S c:=
 qM fun u hu=>qM fun v hv=>by split;exact h u v hu hv;exact Int.le_refl _
theorem JD {n:Nat} {S:Nat->Bool} {f c:Nat->Nat->Int} (h:∀u v,u<n->v<n->S u=true->S v=false->f u v=c u v):lI n S f=lI n S c:=
 gR fun u hu=>gR fun v hv=>by
  split
  ·rename_i hc
   simp only[Bool.and_eq_true,Bool.not_eq_true']at hc
   exact h u v hu hv hc.1 hc.2
  ·rfl
def jX (f:Nat->Nat->Int) (a b:Nat):Nat->Nat->Int:=bump (bump f a b 1) b a (-1)
theorem EA {n:Nat} {S:Nat->Bool} {f:Nat->Nat->Int} {a b:Nat} (ha:a<n) (hb:b<n):lI n S (jX f a b)=lI n S f+bi (S a)-bi (S b):=by
 unfold jX
 rw[oi hb ha,oi ha hb]
 cases S a<;>cases S b<;>simp[bi]<;>omega
def lF (f:Nat->Nat->Int):List Nat->Nat->Nat->Int
 |a::b::r=>lF (jX f a b) (b::r)
 |_=>f
def pT (f c:Nat->Nat->Int):List Nat->Prop
 |a::b::r=>f a b<c a b/\pT f c (b::r)
 |_=>True
theorem ze {n:Nat} {S:Nat->Bool}:∀(r:List Nat) (a:Nat) (f:Nat->Nat->Int),(∀x∈a::r,x<n)->lI n S (lF f (a::r))=lI n S f+bi (S a)-bi (S ((a::r).getLast (by simp)))
 |[],a,f,_=>by simp[lF]
 |b::r,a,f,h=>by
  rw[lF,ze r b (jX f a b) fun x hx=>h x (List.mem_cons_of_mem _ hx),EA (h a (by simp)) (h b (by simp)),List.getLast_cons_cons]
  generalize bi (S b)=q
  omega
theorem pT.less {f g c:Nat->Nat->Int}:∀{p:List Nat},pT f c p->(∀u,u∈p->∀v,g u v<=f u v)->pT g c p
 |[],_,_=>trivial
 |[_],_,_=>trivial
 |a::b::r,h,hl=>⟨Int.lt_of_le_of_lt (hl a (by simp) b) h.1,pT.less (p:=b::r) h.2 fun u hu=>hl u (List.mem_cons_of_mem _ hu)⟩
theorem C7 {n:Nat} {c:Nat->Nat->Int}:∀(p:List Nat) (f:Nat->Nat->Int),p.Nodup->pT f c p->(∀u v,u<n->v<n->f u v<=c u v)->∀u v,u<n->v<n->lF f p u v<=c u v
 |[],f,_,_,h=>h
 |[_],f,_,_,h=>h
 |a::b::r,f,hn,hr,h=>by
  rw[lF]
  have si:a∉b::r:=(List.nodup_cons.1 hn).1
  refine C7 (b::r) _ (List.nodup_cons.1 hn).2 (hr.2.less fun u hu v=>?_) fun u v hu hv=>?_
  ·unfold jX bump
   have:u≠a:=by rintro rfl;exact si hu
   simp only[this,false_and,if_false]
   split<;>omega
  ·have h0:=h u v hu hv
   have h1:=hr.1
   unfold jX bump
   by_cases e:u=a/\v=b
   ·obtain⟨rfl,rfl⟩:=e
    rw[if_pos ⟨rfl,rfl⟩];split<;>omega
   ·rw[if_neg e];split<;>omega
structure mE (n:Nat) (c f:Nat->Nat->Int) (x y:Nat) (val:Int):Prop where
 le:∀u v,u<n->v<n->f u v<=c u v
 cut:∀S:Nat->Bool,S x=true->S y=false->lI n S f=val
theorem mE.zero {n:Nat} {c:Nat->Nat->Int} {x y:Nat} (h:∀u v,u<n->v<n->0<=c u v):mE n c (fun _ _=>0) x y 0:=
 ⟨h,fun S _ _=>jx fun u hu=>jx fun v hv=>by split<;>rfl⟩
theorem mE.aug {n:Nat} {c f:Nat->Nat->Int} {x y:Nat} {val:Int} (h:mE n c f x y val) {r:List Nat} (hl:(x::r).getLast (by simp)=y) (hn:(x::r).Nodup) (hr:pT f c (x::r)) (hb:∀v∈x::r,v<n):mE n c (lF f (x::r)) x y (val+1):=
 ⟨C7 _ _ hn hr h.le,fun S hx hy=>by rw[ze r x f hb,hl,h.cut S hx hy,hx,hy];simp[bi]⟩
theorem mE.bound {n:Nat} {c f:Nat->Nat->Int} {x y:Nat} {val:Int} (h:mE n c f x y val) {S:Nat->Bool} (hx:S x=true) (hy:S y=false):val<=lI n S c:=by
 rw[<-h.cut S hx hy];exact JE h.le
theorem mE.full {n:Nat} {c f:Nat->Nat->Int} {x y:Nat} {val:Int} (h:mE n c f x y val) {S:Nat->Bool} (hx:S x=true) (hy:S y=false) (hS:∀u v,u<n->v<n->S u=true->S v=false->¬f u v<c u v):val=lI n S c:=by
 rw[<-h.cut S hx hy]
 exact JD fun u v hu hv h1 h2=>by have:=hS u v hu hv h1 h2;have:=h.le u v hu hv;omega
structure PB where
 a:Nat
 b:Nat
 s:Int
 deriving Inhabited
def bU (bs:List PB) (i:Nat):PB:=bs.getD i default
def iK (S:Nat->Bool) (bs:List PB):Int:=(bs.map fun b=>if S b.a=S b.b then 0 else b.s).sum
def mQ (c:Nat->Nat->Int) (b:PB):Nat->Nat->Int:=bump (bump c b.a b.b b.s) b.b b.a b.s
def kC (bs:List PB):Nat->Nat->Int:=bs.foldl mQ fun _ _=>0
theorem CB (bs:List PB) (b:PB):kC (bs++[b])=mQ (kC bs) b:=by simp[kC]
theorem zo {n:Nat} {S:Nat->Bool}:∀(bs:List PB) (c:Nat->Nat->Int),(∀b∈bs,b.a<n/\b.b<n)->lI n S (bs.foldl mQ c)=lI n S c+iK S bs
 |[],c,_=>by simp[iK]
 |b::bs,c,h=>by
  have hb:=h b (by simp)
  rw[List.foldl_cons,zo bs _ fun x hx=>h x (List.mem_cons_of_mem _ hx)]
  unfold mQ iK
  rw[oi hb.2 hb.1,oi hb.1 hb.2,List.map_cons,List.sum_cons]
  cases S b.a<;>cases S b.b<;>simp<;>omega
theorem zp {n:Nat} {S:Nat->Bool} {bs:List PB} (h:∀b∈bs,b.a<n/\b.b<n):lI n S (kC bs)=iK S bs:=by
 rw[kC,zo bs _ h]
 have:lI n S (fun _ _=>0)=0:=jx fun u hu=>jx fun v hv=>by split<;>rfl
 omega
theorem yn:∀(bs:List PB) (c:Nat->Nat->Int),(∀b∈bs,0<=b.s)->(∀u v,0<=c u v)->∀u v,0<=bs.foldl mQ c u v
 |[],c,_,h=>h
 |b::bs,c,hb,h=>by
  rw[List.foldl_cons]
  refine yn bs _ (fun x hx=>hb x (List.mem_cons_of_mem _ hx)) fun u v=>?_
  have:=hb b (by simp);have:=h u v
  unfold mQ bump
  split<;>split<;>omega
theorem room_le:∀(bs:List PB) (c:Nat->Nat->Int) (m:Int),(∀b∈bs,b.s<=4)->(∀u v,c u v<=m)->0<=m->∀u v,bs.foldl mQ c u v<=m+8*bs.length
 |[],c,m,_,h,_=>fun u v=>by have:=h u v;simp;omega
 |b::bs,c,m,hb,h,h0=>fun u v=>by
  rw[List.foldl_cons]
  have:=room_le bs (mQ c b) (m+8) (fun x hx=>hb x (List.mem_cons_of_mem _ hx)) (fun u v=>by
   have:=hb b (by simp);have:=h u v
   unfold mQ bump
   split<;>split<;>omega) ab u v
  simp only[List.length_cons];omega
def kd (n:Nat) (bs:List PB) (t:Int):Prop:=∀S:Nat->Bool,S 0=true->(∃y,y<n/\S y=false)->t<=iK S bs
def Ey (S:Nat->Bool) (bs:List PB) (f:Nat->Int):Int:=lq (fun i=>f i*(bi (S (bU bs i).a)-bi (S (bU bs i).b))) bs.length
structure jF (bs:List PB) (f:Nat->Int) (x y:Nat) (val:Int):Prop where
 le:∀i,i<bs.length->f i<=(bU bs i).s/\-(bU bs i).s<=f i
 cut:∀S:Nat->Bool,S x=true->S y=false->Ey S bs f=val
theorem tC (S:Nat->Bool):∀bs:List PB,iK S bs=lq (fun i=>if S (bU bs i).a=S (bU bs i).b then 0 else(bU bs i).s) bs.length:=by
 intro bs
 have key:∀n,n<=bs.length->iK S (bs.take n)=lq (fun i=>if S (bU bs i).a=S (bU bs i).b then 0 else(bU bs i).s) n:=by
  intro n
  induction n with
  |zero=>intro _;rfl
  |succ n ih=>
   intro h
   have e:bU bs n=bs[n]:=by simp[bU,List.getD_eq_getElem?_getD,List.getElem?_eq_getElem (show n<bs.length by omega)]
   rw[List.take_succ_eq_append_getElem ab,lq,<-ih ab,e]
   unfold iK
   rw[List.map_append,List.sum_append]
   simp only[List.map_cons,List.map_nil,List.sum_cons,List.sum_nil,Int.add_zero]
 have:=key bs.length (Nat.le_refl _)
 rwa [List.take_length]at this
theorem jF.bound {bs:List PB} {f:Nat->Int} {x y:Nat} {val:Int} (h:jF bs f x y val) {S:Nat->Bool} (hx:S x=true) (hy:S y=false):val<=iK S bs:=by
 rw[<-h.cut S hx hy,tC]
 refine qM fun i hi=>?_
 have:=h.le i hi
 cases S (bU bs i).a<;>cases S (bU bs i).b<;>simp[bi]<;>omega
def fw (bs:List PB) (f:Nat->Int) (i u:Nat):Int:=if (bU bs i).a=u then(bU bs i).s-f i else(bU bs i).s+f i
def bB (bs:List PB) (i u:Nat):Nat:=if (bU bs i).a=u then(bU bs i).b else(bU bs i).a
theorem jF.full {bs:List PB} {f:Nat->Int} {x y:Nat} {val:Int} (h:jF bs f x y val) {S:Nat->Bool} (hx:S x=true) (hy:S y=false)
  (hS:∀i,i<bs.length->((bU bs i).a≠(bU bs i).b->(S (bU bs i).a=true->S (bU bs i).b=false->¬0<fw bs f i (bU bs i).a)/\(S (bU bs i).b=true->S (bU bs i).a=false->¬0<fw bs f i (bU bs i).b))):val=iK S bs:=by
 rw[<-h.cut S hx hy,tC]
 refine gR fun i hi=>?_
 have h1:=h.le i hi
 by_cases si:(bU bs i).a=(bU bs i).b
 ·rw[si];simp
 ·have h2:=hS i hi si
  unfold fw at h2
  rw[if_pos rfl,if_neg si]at h2
  cases ha:S (bU bs i).a<;>cases hb:S (bU bs i).b<;>rw[ha,hb]at h2<;>simp[bi]at h2 ⊢ <;>omega
def ss (bs:List PB) (f:Nat->Int) (i u:Nat):Nat->Int:=fun j=>f j+if j=i then(if (bU bs i).a=u then 1 else -1)else 0
theorem Ez {S:Nat->Bool} {bs:List PB} {f:Nat->Int} {i u:Nat} (hi:i<bs.length) (hu:(bU bs i).a=u∨(bU bs i).b=u):Ey S bs (ss bs f i u)=Ey S bs f+bi (S u)-bi (S (bB bs i u)):=by
 unfold Ey ss
 have e:∀j,j<bs.length->(f j+if j=i then(if (bU bs i).a=u then 1 else -1)else 0)*(bi (S (bU bs j).a)-bi (S (bU bs j).b))=(fun j=>f j*(bi (S (bU bs j).a)-bi (S (bU bs j).b))) j+if j=i then(if (bU bs i).a=u then 1 else -1)*(bi (S (bU bs i).a)-bi (S (bU bs i).b))else 0:=by
  intro j hj
  by_cases h:j=i
  ·subst h;simp only[if_true];rw[Int.add_mul]
  ·simp only[h,if_false];simp
 rw[gR e,oC,if_pos hi]
 unfold bB
 by_cases ha:(bU bs i).a=u
 ·rw[if_pos ha,if_pos ha,ha];omega
 ·rw[if_neg ha,if_neg ha]
  rcases hu with hu|hu
  ·exact absurd hu ha
  ·rw[hu];omega
theorem nP:∀(n:Nat) (l:List Nat),l.Nodup->(∀x∈l,x<n)->l.length<=n
 |0,l,_,h=>by
  cases l with
  |nil=>simp
  |cons x l=>exact absurd (h x (by simp)) ab
 |n+1,l,hn,h=>by
  have h1:=nP n (l.erase n) (hn.erase _) fun x hx=>by
   have h2:=(hn.mem_erase_iff).1 hx
   have h3:=h x h2.2
   have h4:=h2.1
   omega
  rw[List.length_erase]at h1
  split at h1<;>omega
end Go.Proofs.YtihgaadadaekmaaGreatDoor.V
