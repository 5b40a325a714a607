/- Slices of one's own that grow from an empty one. -/
import Derived.Test.YtihgaadadaekmaaGreatDoorDfB
import Derived.Test.YtihgaadadaekmaaGreatDoorChecked
import Derived.Test.YtihgaadadaekmaaGreatDoorDfA
set_option linter.unusedVariables false
set_option linter.unusedSimpArgs false
set_option maxRecDepth 100000
set_option maxHeartbeats 16000000
namespace Go.Proofs.YtihgaadadaekmaaGreatDoor.V
open Go.RowKit
variable {P:Program} {X:fv} {K:Env->ax->Prop} {env:Env} {σ:ax}
def lX {α:Type} (enc:α->List AV) (sz:Nat) (x:AV) (g:Rows) (S:Id->Prop) (L:List α):Prop:=∃o:Id,S o/\x=.own o 0 L.length/\g o=some ⟨true,sz,L.map enc⟩
section
variable {α:Type} {enc:α->List AV} {sz:Nat} {x:AV} {g g':Rows} {S:Id->Prop} {L L':List α}
theorem lX.cast (h:lX enc sz x g S L) (hL:L'=L):lX enc sz x g S L':=by subst hL;exact h
theorem lX.frame (h:lX enc sz x g S L) (hg:∀o:Id,S o->g' o=g o):lX enc sz x g' S L:=by
 obtain⟨o,h1,h2,h3⟩:=h
 exact⟨o,h1,h2,(hg o h1).trans h3⟩
theorem lX.app (hz:∀a,(enc a).length=sz/\(enc a).all AV.cell=true) (h:lX enc sz x g S L) (id:Id) (hid:S id) (M:List α) (hlen:L.length+M.length<=dK):
  ∃v g',aY g id sz x (M.map enc)=some (v,g')/\lX enc sz v g' S (L++M)/\∀j:Id,¬S j->g' j=g j:=by
 obtain⟨o,h1,rfl,h4⟩:=h
 refine⟨.own id 0 (L.length+(M.map enc).length),bY (ck g o) id ⟨true,sz,L.map enc++M.map enc⟩,?_,⟨id,hid,by simp,by simp[bY]⟩,fun j hj=>?_⟩
 ·have ha:=all_map (l:=M) hz
  simp only[aY,h4,Option.bind_some]
  rw[if_pos ⟨trivial,trivial,by simp,by simpa using hlen,ha⟩]
 ·have e1:¬j=id:=fun h=>hj (h▸hid)
  have e2:¬j=o:=fun h=>hj (h▸h1)
  simp[bY,ck,e1,e2]
theorem NJ {draw:Bool} {o:bl} {r:List bl} {x' y:O} {xv:AV} (M:List α) (ho:o.op=.append sz x' y) (hw:aM o.guard env=true) (hx:cE env x'=xv) (hO:lX enc sz xv σ.get S L)
  (hy:bw σ.get (cE env y)=some (M.map enc)) (hz:∀a,(enc a).length=sz/\(enc a).all AV.cell=true) (hid:S ⟨o.site,σ.next⟩) (hlen:L.length+M.length<=dK)
  (next:∀v g',lX enc sz v g' S (L++M)->(∀j:Id,¬S j->g' j=σ.get j)->wpOps X draw r K (upd env o.dst v) ⟨g',σ.next⟩):wpOps X draw (o::r) K env σ:=by
 obtain⟨v,g',h1,h2,h3⟩:=hO.app hz ⟨o.site,σ.next⟩ hid M hlen
 unfold wpOps
 rw[if_pos hw]
 unfold fP
 simp only[ho,gh,hy,hx,Option.bind_some,h1]
 exact next v g' h2 h3
theorem lX.fC {n:Nat} (h:lX enc sz x g S L) (he:∀a,dH g n (enc a)=some (enc a)):fC g (n+1) x=some (.sl (L.map enc)):=by
 obtain⟨o,_,rfl,h3⟩:=h
 exact fG h3 rfl he
end
theorem dr {a b:Id} (h:a.cq<b.cq):(a=b)=False/\(b=a)=False:=by
 constructor<;>(simp only[eq_iff_iff,iff_false];rintro rfl;omega)
theorem yf {o:Id} {a:Nat} (h:o.site=a) {b v:Nat} (r8:(a==b)=false):(o=⟨b,v⟩)=False:=by
 simp only[eq_iff_iff,iff_false]
 rintro rfl
 simp only at h
 subst h
 simp at r8
def eN (n:Nat):List AV:=[.int .i64 n]
theorem fzN (g:Rows) (n:Nat) (a:Nat):cm g (n+1) (eN a)=some (eN a):=by simp[eN,ad,aj,aI]
theorem Mh (g:Rows) (n:Nat) (a:Nat):dH g (n+1) (eN a)=some (eN a):=by simp[eN,br,bV,eA]
def N6:uQ (List Nat):=fun g cs x ids=>∃id,cs=[.own id 0 x.length]/\g id=some ⟨true,1,x.map eN⟩/\ids=[id]
theorem Nc:pM N6 1 where
 frame:=fun⟨id,h1,h2,h3⟩ hf=>by subst h3;exact⟨id,h1,(hf id (by simp)).trans h2,rfl⟩
 len:=fun⟨id,h1,_⟩=>by subst h1;rfl
 cell:=fun⟨id,h1,_⟩=>by subst h1;rfl
 live:=fun⟨id,h1,h2,h3⟩ i hi=>by
  subst h3
  have:i=id:=by simpa using hi
  subst this
  exact⟨_,h2,rfl,by simp[nL]⟩
 small:=by simp[nL]
def yD (l:List Nat):List AV:=[.sl (l.map eN)]
theorem HJ {g:Rows} {rows:List (List AV)} {xs:List (List Nat)} {ids:List Id} (n:Nat) (h:dw N6 g rows xs ids):gI g (n+2) rows=some (xs.map yD):=by
 induction h with
 |nil=>rw[gI];rfl
 |cons h1 _ ih=>
  obtain⟨id,rfl,h2,_⟩:=h1
  rw[gI,ih,br,bV,fG (e:=eN) (sz:=1) h2 rfl fun a=>Mh g n a];rfl
end Go.Proofs.YtihgaadadaekmaaGreatDoor.V

namespace Go.Proofs.YtihgaadadaekmaaGreatDoor.V
open Go.RowKit
attribute [local irreducible] ea wpOps gR Call
attribute [local go_sem] aM fP eL gh ga cE upd cu K.av cL AV.cells AV.cell rowOf rowsOf part ld rowAt bY ck dI ef ig bL da ez gn e7 du ek cY cX dV dW bR bm cQ bQ cT cR ei eo ej cP bW cZ eh bP aQ cV cC ib bw cH bS aY dF bu dK AV.undef bF bH dY ee dU eb cF ew eD cw eu er cU cW List.getD_cons_zero List.getD_cons_succ List.getD_nil List.all_cons List.all_nil Bool.and_true Bool.true_and Bool.and_self Bool.not_true Bool.not_false Option.map_some Option.map_none Option.bind_some Option.bind_none List.length_cons List.length_nil List.take_succ_cons List.take_zero List.take_nil List.drop_succ_cons List.drop_zero List.drop_nil List.head?_cons List.map_cons List.map_nil List.getElem?_cons_zero List.getElem?_cons_succ List.cons_append List.nil_append List.append_nil List.length_map List.set_cons_zero List.set_cons_succ Nat.reduceMul eq_self Int.toNat_natCast Int.natCast_nonneg and_self true_and and_true decide_true decide_false Bool.false_eq_true Nat.zero_add Nat.add_zero List.contains_cons List.contains_nil Bool.or_false Bool.false_or beq_self_eq_true Nat.reduceBEq ne_eq not_true_eq_false not_false_eq_true Id.mk.injEq false_and and_false Nat.reduceLT Int.reduceLE Int.reduceLT Int.reduceToNat Int.reduceNeg Int.reduceAdd Nat.le_refl List.length_append beq_true beq_false Bool.not_eq_eq_eq_not or_false false_or dE ad aj aI bE cj aW bf aV bo cN bG
variable {P:Program}
def Gg {α:Type} (R:uQ α) (x:α) (σ:ax) (r:AV) (σ':ax):Prop:=∃cs ids,r=.agg cs/\R σ'.get cs x ids/\eM σ.next σ'.next ids/\Kept σ σ'
def fU {α:Type} (R:uQ α) (z:Nat) (g:Rows) (a:AV) (xs:List α) (ids:List Id):Prop:=∃o rows is,a=.own o 0 xs.length/\g o=some ⟨true,z,rows⟩/\dw R g rows xs is/\ids=o::is
def DZ {α:Type} (R:uQ α) (z:Nat) (xs:List α) (σ:ax) (r:AV) (σ':ax):Prop:=∃ids,fU R z σ'.get r xs ids/\eM σ.next σ'.next ids/\Kept σ σ'
theorem fU.frame {α:Type} {R:uQ α} {z:Nat} {g g':Rows} {a:AV} {xs:List α} {ids:List Id} (ok:pM R z) (h:fU R z g a xs ids) (hf:∀i∈ids,g' i=g i):fU R z g' a xs ids:=by
 obtain⟨o,rows,is,h1,h2,h3,rfl⟩:=h
 exact⟨o,rows,is,h1,(hf o (by simp)).trans h2,h3.frame ok fun i hi=>hf i (by simp[hi]),rfl⟩
theorem fU.fz {α:Type} {R:uQ α} {z n:Nat} {e:α->List AV} {g:Rows} {a:AV} {xs:List α} {ids:List Id} (h:fU R z g a xs ids) (hz:∀{cs x ids},R g cs x ids->cm (dE g) n cs=some (e x)):V.fz (dE g) (n+1) a=some (.sl (xs.map e)):=by
 obtain⟨o,rows,is,rfl,h2,h3,rfl⟩:=h
 rw[fS]
 simp only[dE,h2,Option.map_some,if_true]
 rw[if_pos (by rw[h3.len];omega),List.drop_zero,List.take_of_length_le (by rw[h3.len];exact Nat.le_refl _),h3.fz hz];rfl
def jC {α:Type} (e:α->List AV):uQ α:=fun _ cs x ids=>cs=e x/\ids=[]
theorem Bn {α:Type} {e:α->List AV} {z:Nat} (hz:∀x,(e x).length=z) (hc:∀x,(e x).all AV.cell=true) (hs:z<nL):pM (jC e) z where
 frame:=fun h _=>h
 len:=fun h=>by rw[h.1];exact hz _
 cell:=fun h=>by rw[h.1];exact hc _
 live:=fun h i hi=>by rw[h.2]at hi;cases hi
 small:=hs
def nk:uQ eI:=fun g cs t ids=>∃i,cs=[.str t.aB,.own i 0 t.bp.length]/\g i=some ⟨true,1,t.bp.map ar⟩/\ids=[i]
theorem pG:pM nk 2 where
 frame:=fun⟨i,h1,h2,h3⟩ hf=>⟨i,h1,(hf i (by rw[h3];simp)).trans h2,h3⟩
 len:=fun⟨i,h1,_⟩=>by rw[h1];rfl
 cell:=fun⟨i,h1,_⟩=>by rw[h1];rfl
 live:=fun⟨i,h1,h2,h3⟩ j hj=>by
  rw[h3]at hj
  have:j=i:=by simpa using hj
  subst this
  exact⟨_,h2,rfl,by simp[nL]⟩
 small:=by simp[nL]
theorem KQ {g:Rows} {cs:List AV} {t:eI} {ids:List Id} (n:Nat) (h:nk g cs t ids):cm (dE g) (n+2) cs=some (bj t):=by
 obtain⟨i,rfl,h2,_⟩:=h
 have h3:V.fz (dE g) (n+2) (.own i 0 t.bp.length)=some (.sl (t.bp.map ar)):=e6 (e:=ar) (sz:=1) (by simp[dE,h2]) rfl fun x=>by simp[ar,ad,aj,aI]
 simp only[ad,aj,bE,h3,Option.map_some,bj]
theorem DH {α:Type} {a b:List α} {x y:α} {k:Nat} (hk:a.length=k):(a++x::b).set k y=a++[y]++b:=by subst hk;simp
theorem s6 {α:Type} {R:uQ α} {en:α->List AV} {z fk gk:Nat} {zero:List K} (ok:pM R z) (hc:kK P fk=some (oW fk gk z zero)) (F6:zero.length=z) (hz:∀x,(en x).length=z) (xs:List α) (hlen:xs.length<=1048576)
  (hg:∀x∈xs,∀σ,Call P gk [.agg (en x)] σ (Gg R x σ)) (σ:ax):Call P fk [.sl (xs.map en)] σ (DZ R z xs σ):=by
 refine eW hc rfl fun hl=>?_
 try simp only[q]
 clear hl
 have hm:(xs.length:Int)<=((16777216:Nat):Int):=ab
 have h0:(0:Int)<=(xs.length:Int):=ab
 (try((repeat(revert hN;revert N;apply Pn.out));refine wk (tw @hm (tw @h0 (tw @Int.le_refl @F6))) ?_;(repeat(refine Pn.mk ?_;intro N hN))))
 refine aP (fun n env st=>∃k:Nat,n=(xs.length)-k/\k<=(xs.length)/\env 4=.int .i64 (k:Int)/\(σ.next+2<=st.next/\(∀y:Id,y.cq<σ.next->st.get y=σ.get y)/\∃rows is,st.get ⟨fk*1000000+1002,σ.next+1⟩=some ⟨true,z,rows++List.replicate (xs.length-k) (zero.map K.av)⟩/\dw R st.get rows (xs.take k) is/\eM (σ.next+2) st.next is)) (xs.length) ⟨0,ab,ab,sl @Nat.zero_add,by(try dsimp only);exact⟨ab,fun y hy=>by
  have h1:=eO hy
  simp only[go_sem, ↓reduceIte,Nat.reduceEqDiff,Nat.reduceAdd,Nat.reduceSub,Nat.reduceLeDiff,reduceCtorEq,h1],[],[],sl @Nat.zero_add,.nil,List.nodup_nil,fun i hi=>by cases hi⟩⟩ ?_
 rintro n_a env_a st_a ⟨k,rfl,ale,a4,jW⟩ dm
 have a0:=dm 0 (by kernel_rfl);have a3:=dm 3 (by kernel_rfl)
 simp only[go_sem, ↓reduceIte,Nat.reduceEqDiff,Nat.reduceAdd,Nat.reduceSub,Nat.reduceLeDiff,reduceCtorEq]at a0 a3
 clear dm
 obtain⟨an,aK,rows,is,ag,aR,aN⟩:=jW
 have oI:rows.length=k:=by rw[aR.len,List.length_take];omega
 by_cases hk:(k:Int)<(xs.length:Int)
 ·have bD:∀{e:Env} {gg:Rows} {nx:Nat},(e 4=.int .i64 (IntKind.i64.wrap ((k:Int)+1)))->(σ.next+2<=nx/\(∀y:Id,y.cq<σ.next->gg y=σ.get y)/\∃rows is,gg ⟨fk*1000000+1002,σ.next+1⟩=some ⟨true,z,rows++List.replicate (xs.length-(k+1)) (zero.map K.av)⟩/\dw R gg rows (xs.take (k+1)) is/\eM (σ.next+2) nx is)->∃m0,m0<(xs.length)-k/\∃k:Nat,m0=(xs.length)-k/\k<=(xs.length)/\e 4=.int .i64 (k:Int)/\(σ.next+2<=nx/\(∀y:Id,y.cq<σ.next->gg y=σ.get y)/\∃rows is,gg ⟨fk*1000000+1002,σ.next+1⟩=some ⟨true,z,rows++List.replicate (xs.length-k) (zero.map K.av)⟩/\dw R gg rows (xs.take k) is/\eM (σ.next+2) nx is):=fun x1 x2=>⟨_,ab,k+1,rfl,ab,(by rw[x1,ay ab]),x2⟩
  have dX:k<xs.length:=ab
  have eB:(xs.map en)[k]? =some (en xs[k]):=by simp[dX]
  have sb:=hz xs[k]
  have ht:(en xs[k]).take z=en xs[k]:=by rw[<-sb,List.take_length]
  have ft:=hg _ (List.getElem_mem dX)
  obtain⟨m,I6⟩:∃m,xs.length-k=m+1:=⟨xs.length-k-1,ab⟩
  rw[I6,List.replicate_succ]at ag
  generalize hex:en xs[k]=c at ft eB sb ht
  (try((repeat(revert hN;revert N;apply Pn.out));refine wk (tw @a4 (tw @a0 (tw @a3 (tw @hk (tw @eB (tw @sb (tw @ht @Nat.le_refl))))))) ?_;(repeat(refine Pn.mk ?_;intro N hN))))
  refine .inr (aO _ _ _ _ _ (fun r σ1 hq=>?_) (ft _))
  obtain⟨cs,ids,rfl,hR,hI,hK⟩:=hq
  obtain⟨g1,x1⟩:=σ1
  (try dsimp only at hR hI hK)
  have tN:=(hK.2 ⟨fk*1000000+1002,σ.next+1⟩ bt)
  simp only[go_sem, ↓reduceIte,Nat.reduceEqDiff,Nat.reduceAdd,Nat.reduceSub,Nat.reduceLeDiff,reduceCtorEq,ag]at tN
  have lq:=ok.len hR
  have xG:=ok.cell hR
  have dR:(rows++zero.map K.av::List.replicate m (zero.map K.av))[k]? =some (zero.map K.av):=by rw[List.getElem?_append_right ab,oI,Nat.sub_self];rfl
  have dP:(rows++zero.map K.av::List.replicate m (zero.map K.av)).set k cs=rows++[cs]++List.replicate m (zero.map K.av):=DH oI
  have G8:(zero.map K.av).drop z=[]:=List.drop_of_length_le (by simp[F6])
  have xI:(rows++zero.map K.av::List.replicate m (zero.map K.av)).length=xs.length:=by simp[oI];omega
  refine hN _ _ ?_
  clear hN N
  (try((repeat(revert hN;revert N;apply Pn.out));refine wk (tw @a4 (tw @a0 (tw @a3 (tw @hk (tw @tN (tw @dR (tw @dP (tw @xI (tw @G8 (tw @tk (tw @lq (tw @xG (tw @Nat.le_refl @F6))))))))))))) ?_;(repeat(refine Pn.mk ?_;intro N hN))))
  have tR:=hK.1
  have FX:∀i∈is,(i=⟨fk*1000000+1002,σ.next+1⟩)=False:=fun i hi=>eq_false fun e=>by
   have:=(aN.2 i hi).1
   subst e;(try dsimp only at this);omega
  have FY:∀i∈ids,(i=⟨fk*1000000+1002,σ.next+1⟩)=False:=fun i hi=>eq_false fun e=>by
   have:=(hI.2 i hi).1
   subst e;(try dsimp only at this);omega
  exact bD (sd (tw @a4 (tw @a0 @a3))) (by(try dsimp only at *);exact⟨ab,fun y hy=>by
   have h1:=eO hy
   have h2:=hK.2 y bt
   have h3:=aK y hy
   simp only[go_sem, ↓reduceIte,Nat.reduceEqDiff,Nat.reduceAdd,Nat.reduceSub,Nat.reduceLeDiff,reduceCtorEq]at h2
   simp only[go_sem, ↓reduceIte,Nat.reduceEqDiff,Nat.reduceAdd,Nat.reduceSub,Nat.reduceLeDiff,reduceCtorEq,h1,h2,h3],rows++[cs],is++ids,by
    rw[show xs.length-(k+1)=m by omega]
    simp only[go_sem, ↓reduceIte,Nat.reduceEqDiff,Nat.reduceAdd,Nat.reduceSub,Nat.reduceLeDiff,reduceCtorEq]<;>rfl,by
    rw[List.take_succ_eq_append_getElem dX]
    refine((aR.frame ok fun i hi=>?_).app (.one (ok.frame hR fun i hi=>?_)))
    ·have h1:=FX i hi
     have h2:=hK.2 i (by(try dsimp only);have:=(aN.2 i hi).2;omega)
     simp only[go_sem, ↓reduceIte,Nat.reduceEqDiff,Nat.reduceAdd,Nat.reduceSub,Nat.reduceLeDiff,reduceCtorEq]at h2
     simp only[go_sem, ↓reduceIte,Nat.reduceEqDiff,Nat.reduceAdd,Nat.reduceSub,Nat.reduceLeDiff,reduceCtorEq,h1,h2]
    ·have h1:=FY i hi
     simp only[go_sem, ↓reduceIte,Nat.reduceEqDiff,Nat.reduceAdd,Nat.reduceSub,Nat.reduceLeDiff,reduceCtorEq,h1],(aN.app hI bt ab bt).wide (Nat.le_refl _) bt⟩)
 ·(try((repeat(revert hN;revert N;apply Pn.out));refine wk (tw @a4 (tw @a0 (tw @a3 @hk))) ?_;(repeat(refine Pn.mk ?_;intro N hN))))
  have dX:k=xs.length:=ab
  subst dX
  rw[Nat.sub_self,List.replicate_zero,List.append_nil]at ag
  rw[List.take_length]at aR
  refine gm (.inl rfl) (vs:=[.own ⟨fk*1000000+1002,σ.next+1⟩ 0 xs.length]) (sd (tw @a4 (tw @a0 @a3))) ?_
  exact⟨_,⟨_,rows,is,rfl,ag,aR,rfl⟩,⟨List.nodup_cons.2 ⟨fun hi=>by have:=(aN.2 _ hi).1;(try dsimp only at this);omega,aN.1⟩,fun i hi=>by
   rcases List.mem_cons.1 hi with rfl|hi
   ·(try dsimp only);omega
   ·have:=aN.2 i hi;(try dsimp only);omega⟩,⟨bt,fun j hj=>aK j hj⟩⟩
end Go.Proofs.YtihgaadadaekmaaGreatDoor.V

namespace Go.Proofs.YtihgaadadaekmaaGreatDoor.V
open Go.RowKit
attribute [local irreducible] ea wpOps gR Call
attribute [local go_sem] aM fP eL gh ga cE upd cu K.av cL AV.cells AV.cell rowOf rowsOf part ld rowAt bY ck dI ef ig bL da ez gn e7 du ek cY cX dV dW bR bm cQ bQ cT cR ei eo ej cP bW cZ eh bP aQ cV cC ib bw cH bS aY dF bu dK AV.undef bF bH dY ee dU eb cF ew eD cw eu er cU cW List.getD_cons_zero List.getD_cons_succ List.getD_nil List.all_cons List.all_nil Bool.and_true Bool.true_and Bool.and_self Bool.not_true Bool.not_false Option.map_some Option.map_none Option.bind_some Option.bind_none List.length_cons List.length_nil List.take_succ_cons List.take_zero List.take_nil List.drop_succ_cons List.drop_zero List.drop_nil List.head?_cons List.map_cons List.map_nil List.getElem?_cons_zero List.getElem?_cons_succ List.cons_append List.nil_append List.append_nil List.length_map List.set_cons_zero List.set_cons_succ Nat.reduceMul eq_self Int.toNat_natCast Int.natCast_nonneg and_self true_and and_true decide_true decide_false Bool.false_eq_true Nat.zero_add Nat.add_zero List.contains_cons List.contains_nil Bool.or_false Bool.false_or beq_self_eq_true Nat.reduceBEq ne_eq not_true_eq_false not_false_eq_true Id.mk.injEq false_and and_false Nat.reduceLT Int.reduceLE Int.reduceLT Int.reduceToNat Int.reduceNeg Int.reduceAdd Nat.le_refl List.length_append beq_true beq_false Bool.not_eq_eq_eq_not or_false false_or dE ad aj aI bE cj aW bf aV bo cN bG
theorem fU.jP {α:Type} {R:uQ α} {z:Nat} {g:Rows} {a:AV} {xs:List α} {ids:List Id} (h:fU R z g a xs ids):∃o,a=.own o 0 xs.length:=by
 obtain⟨o,rows,is,rfl,_⟩:=h;exact⟨o,rfl⟩
theorem Ay (xs:List Int) (hlen:xs.length<=1048576) (σ:ax):Call Tryz.prog 86 [.sl (xs.map ar)] σ (fun r σ'=>∃i,r=.own i 0 xs.length/\σ'.get i=some ⟨true,1,xs.map ar⟩/\eM σ.next σ'.next [i]/\Kept σ σ'):=by
 refine eW (show kK Tryz.prog 86=some (IH 86 (.int .i64 0)) by kernel_rfl) rfl fun hl=>?_
 try simp only[q]
 clear hl
 obtain⟨en,I0⟩:∃en:Int->List AV,en=ar:=⟨_,rfl⟩
 rw[<-I0]
 have hm:(xs.length:Int)<=((16777216:Nat):Int):=ab
 have h0:(0:Int)<=(xs.length:Int):=ab
 (try((repeat(revert hN;revert N;apply Pn.out));refine wk (tw @hm (tw @h0 (tw @Int.le_refl (ny en [AV.int .i64 0] xs)))) ?_;(repeat(refine Pn.mk ?_;intro N hN))))
 refine aP (fun n env st=>∃k:Nat,n=(xs.length)-k/\k<=(xs.length)/\env 4=.int .i64 (k:Int)/\st.get ⟨86*1000000+1002,σ.next+1⟩=some ⟨true,1,gq en [AV.int .i64 0] xs k⟩/\(σ.next+2<=st.next/\∀y:Id,y.cq<σ.next->st.get y=σ.get y)) (xs.length) ⟨0,ab,ab,sl @Nat.zero_add,sl @Nat.zero_add,by(try dsimp only);exact⟨ab,fun y hy=>by
  have h1:=eO hy
  simp only[go_sem, ↓reduceIte,Nat.reduceEqDiff,Nat.reduceAdd,Nat.reduceSub,Nat.reduceLeDiff,reduceCtorEq,h1]⟩⟩ ?_
 rintro n_a env_a st_a ⟨k,rfl,ale,a4,ag0,jW⟩ dm
 have a0:=dm 0 (by kernel_rfl);have a3:=dm 3 (by kernel_rfl)
 simp only[go_sem, ↓reduceIte,Nat.reduceEqDiff,Nat.reduceAdd,Nat.reduceSub,Nat.reduceLeDiff,reduceCtorEq]at a0 a3
 clear dm
 obtain⟨an,aK⟩:=jW
 by_cases hk:(k:Int)<(xs.length:Int)
 ·have bD:∀{e:Env} {gg:Rows} {nx:Nat},(e 4=.int .i64 (IntKind.i64.wrap ((k:Int)+1)))->(gg ⟨86*1000000+1002,σ.next+1⟩=some ⟨true,1,gq en [AV.int .i64 0] xs (k+1)⟩)->(σ.next+2<=nx/\∀y:Id,y.cq<σ.next->gg y=σ.get y)->∃m0,m0<(xs.length)-k/\∃k:Nat,m0=(xs.length)-k/\k<=(xs.length)/\e 4=.int .i64 (k:Int)/\gg ⟨86*1000000+1002,σ.next+1⟩=some ⟨true,1,gq en [AV.int .i64 0] xs k⟩/\(σ.next+2<=nx/\∀y:Id,y.cq<σ.next->gg y=σ.get y):=fun x1 x2 x3=>⟨_,ab,k+1,rfl,ab,(by rw[x1,ay ab]),x2,x3⟩
  have dX:k<xs.length:=ab
  have eB:(xs.map en)[k]? =some [AV.int .i64 xs[k]]:=by simp[dX,I0,ar]
  have fH:=pe en [AV.int .i64 0] xs dX
  have dP:=pf en [AV.int .i64 0] xs dX
  rw[show en xs[k]=[AV.int .i64 xs[k]] by rw[I0];rfl]at dP
  (try((repeat(revert hN;revert N;apply Pn.out));refine wk (tw @a4 (tw @ag0 (tw @a0 (tw @a3 (tw @hk (tw @eB (tw @fH @dP))))))) ?_;(repeat(refine Pn.mk ?_;intro N hN))))
  refine bD ?_ ?_ (by(try dsimp only);exact⟨ab,fun y hy=>by
   have h1:=eO hy
   have h3:=aK y hy
   simp only[go_sem, ↓reduceIte,Nat.reduceEqDiff,Nat.reduceAdd,Nat.reduceSub,Nat.reduceLeDiff,reduceCtorEq,h1,h3]⟩)
  all_goals simp only[go_sem, ↓reduceIte,Nat.reduceEqDiff,Nat.reduceAdd,Nat.reduceSub,Nat.reduceLeDiff,reduceCtorEq,a4,ag0,a0,a3]
 ·(try((repeat(revert hN;revert N;apply Pn.out));refine wk (tw @a4 (tw @ag0 (tw @a0 (tw @a3 @hk)))) ?_;(repeat(refine Pn.mk ?_;intro N hN))))
  have dX:k=xs.length:=ab
  subst dX
  refine gm (.inl rfl) (vs:=[.own ⟨86*1000000+1002,σ.next+1⟩ 0 xs.length]) (sd (tw @a4 (tw @ag0 (tw @a0 @a3)))) ?_
  rw[pd]at ag0
  exact⟨_,rfl,ag0,⟨List.nodup_cons.2 ⟨by simp,List.nodup_nil⟩,fun i hi=>by
   rw[List.mem_singleton.1 hi];(try dsimp only);omega⟩,⟨bt,fun j hj=>aK j hj⟩⟩
theorem II (p:eI) (hs:qV p) (σ:ax):Call Tryz.prog 99 [.agg (bj p)] σ (Gg nk p σ):=by
 refine eW dM rfl fun hl=>?_
 clear hl
 (try((repeat(revert hN;revert N;apply Pn.out));refine wk @bj.eq_1 ?_;(repeat(refine Pn.mk ?_;intro N hN))))
 refine .inr (aO _ _ _ _ _ (fun r σ1 hq=>?_) (Ay p.bp hs _))
 obtain⟨i,rfl,hg,hI,hK⟩:=hq
 obtain⟨g1,x1⟩:=σ1
 (try dsimp only at hg hI hK)
 have hn:=hK.1
 refine hN _ _ ?_
 clear hN N
 have hi:=hI.2 i (by simp)
 have k2:=hK.2 ⟨99000001,σ.next⟩ bt
 have k3:=hK.2 ⟨99001000,σ.next+1⟩ bt
 simp only[go_sem, ↓reduceIte,Nat.reduceEqDiff,Nat.reduceAdd,Nat.reduceSub,Nat.reduceLeDiff,reduceCtorEq]at k2 k3
 (try((repeat(revert hN;revert N;apply Pn.out));refine wk (tw @bj.eq_1 (tw @k2 @k3)) ?_;(repeat(refine Pn.mk ?_;intro N hN))))
 refine gm (.inl rfl) (vs:=[.agg [.str p.aB,.own i 0 p.bp.length]]) (sd @Nat.zero_add) ?_
 refine⟨_,[i],rfl,⟨i,rfl,?_,rfl⟩,⟨hI.1,fun j hj=>?_⟩,⟨?_,fun j hj=>?_⟩⟩
 ·have i2:=dr (b:=i) (a:=⟨99000001,σ.next⟩) (by(try dsimp only at *);omega)
  have i3:=dr (b:=i) (a:=⟨99001000,σ.next+1⟩) (by(try dsimp only at *);omega)
  simp only[go_sem, ↓reduceIte,Nat.reduceEqDiff,Nat.reduceAdd,Nat.reduceSub,Nat.reduceLeDiff,reduceCtorEq,i2,i3,hg]
 ·rw[List.mem_singleton.1 hj]
  (try dsimp only at *);omega
 ·(try dsimp only at *);omega
 ·have h2:=hK.2 j bt
  have h1:=eO hj
  simp only[go_sem, ↓reduceIte,Nat.reduceEqDiff,Nat.reduceAdd,Nat.reduceSub,Nat.reduceLeDiff,reduceCtorEq,h1]at h2
  simp only[go_sem, ↓reduceIte,Nat.reduceEqDiff,Nat.reduceAdd,Nat.reduceSub,Nat.reduceLeDiff,reduceCtorEq,h1,h2]
theorem zu:pM (jC bd) 2:=Bn (fun _=>rfl) (fun _=>rfl) (by simp[nL])
theorem vZ:pM (jC ai) 3:=Bn (fun _=>rfl) (fun _=>rfl) (by simp[nL])
theorem ID (p:fc) (σ:ax):Call Tryz.prog 98 [.agg (bd p)] σ (Gg (jC bd) p σ):=by
 refine eW dM rfl fun hl=>?_
 clear hl
 (try((repeat(revert hN;revert N;apply Pn.out));refine wk @bd.eq_1 ?_;(repeat(refine Pn.mk ?_;intro N hN))))
 refine gm (.inl rfl) (vs:=[.agg (bd p)]) (sd @bd.eq_1) ?_
 exact⟨_,[],rfl,⟨rfl,rfl⟩,⟨List.nodup_nil,fun i hi=>by cases hi⟩,⟨bt,fun j hj=>by
  have h1:=eO hj
  simp only[go_sem, ↓reduceIte,Nat.reduceEqDiff,Nat.reduceAdd,Nat.reduceSub,Nat.reduceLeDiff,reduceCtorEq,h1]⟩⟩
theorem CD (p:ao) (σ:ax):Call Tryz.prog 71 [.agg (ai p)] σ (Gg (jC ai) p σ):=by
 refine eW dM rfl fun hl=>?_
 clear hl
 have h:=wR p.cI
 rw[ak]at h
 (repeat(first|((repeat(revert hN;revert N;apply Pn.out));refine wk @ai.eq_1 ?_;(repeat(refine Pn.mk ?_;intro N hN)))|((try apply Or.inl);refine⟨_,iN.x (h) _,?_⟩;refine hN _ _ ?_;clear hN N)))
 refine gm (.inl rfl) (vs:=[.agg (ai p)]) (sd @ai.eq_1) ?_
 exact⟨_,[],rfl,⟨rfl,rfl⟩,⟨List.nodup_nil,fun i hi=>by cases hi⟩,⟨bt,fun j hj=>by
  have h1:=eO hj
  simp only[go_sem, ↓reduceIte,Nat.reduceEqDiff,Nat.reduceAdd,Nat.reduceSub,Nat.reduceLeDiff,reduceCtorEq,h1]⟩⟩
theorem FJ (xs:List fc) (h:xs.length<=1048576) (σ:ax):Call Tryz.prog 69 [.sl (xs.map bd)] σ (DZ (jC bd) 2 xs σ):=
 s6 zu (show kK Tryz.prog 69=some (oW 69 98 2 [.str [],.int .i64 0]) by kernel_rfl) rfl (fun _=>rfl) xs h (fun x _ σ=>ID x σ) σ
theorem FL (xs:List eI) (h:xs.length<=1048576) (hs:∀t∈xs,qV t) (σ:ax):Call Tryz.prog 70 [.sl (xs.map bj)] σ (DZ nk 2 xs σ):=
 s6 pG (show kK Tryz.prog 70=some (oW 70 99 2 [.str [],.bK]) by kernel_rfl) rfl (fun _=>rfl) xs h (fun x hx σ=>II x (hs x hx) σ) σ
theorem Az (xs:List ao) (h:xs.length<=1048576) (σ:ax):Call Tryz.prog 40 [.sl (xs.map ai)] σ (DZ (jC ai) 3 xs σ):=
 s6 vZ (show kK Tryz.prog 40=some (oW 40 71 3 [.int .i64 0,.int .i64 0,.int .i64 0]) by kernel_rfl) rfl (fun _=>rfl) xs h (fun x _ σ=>CD x σ) σ
def wT (g:Rows) (v:AV) (a:dj) (ids:List Id):Prop:=∃x,v=.agg [x]/\fU (jC ai) 3 g x a.ah ids
structure yP (g:Rows) (v:AV) (s:cl) (ids:List Id):Prop where
 ex:∃a b c i1 i2 i3,v=.agg [a,b,c,.int .i64 s.aH]/\fU (jC bd) 2 g a s.aE.au i1/\fU nk 2 g b s.aE.ah i2/\fU (jC ai) 3 g c s.bZ.ah i3/\ids=i1++(i2++i3)
theorem wT.frame {g g':Rows} {v:AV} {a:dj} {ids:List Id} (h:wT g v a ids) (hf:∀i∈ids,g' i=g i):wT g' v a ids:=by
 obtain⟨x,h1,h2⟩:=h
 exact⟨x,h1,h2.frame vZ hf⟩
theorem yP.frame {g g':Rows} {v:AV} {s:cl} {ids:List Id} (h:yP g v s ids) (hf:∀i∈ids,g' i=g i):yP g' v s ids:=by
 obtain⟨a,b,c,i1,i2,i3,h1,h2,h3,h4,rfl⟩:=h.ex
 exact⟨a,b,c,i1,i2,i3,h1,h2.frame zu fun i hi=>hf i (by simp[hi]),h3.frame pG fun i hi=>hf i (by simp[hi]),h4.frame vZ fun i hi=>hf i (by simp[hi]),rfl⟩
theorem wT.fz {g:Rows} {v:AV} {a:dj} {ids:List Id} (n:Nat) (h:wT g v a ids):V.fz (dE g) (n+4) v=some (.agg (aD a)):=by
 obtain⟨x,rfl,h2⟩:=h
 have h3:=h2.fz (n:=n+2) (e:=ai) fun hc=>by rw[hc.1];simp[ai,ad,aj,aI]
 simp only[bf,ad,aj,h3,Option.map_some,aD]
theorem yP.fz {g:Rows} {v:AV} {s:cl} {ids:List Id} (n:Nat) (h:yP g v s ids):V.fz (dE g) (n+5) v=some (.agg (az s)):=by
 obtain⟨a,b,c,i1,i2,i3,rfl,h2,h3,h4,rfl⟩:=h.ex
 have q1:=h2.fz (n:=n+3) (e:=bd) fun hc=>by rw[hc.1];simp[bd,ad,aj,aI,bE]
 have q2:=h3.fz (n:=n+3) (e:=bj) fun hc=>KQ (n+1) hc
 have q3:=h4.fz (n:=n+3) (e:=ai) fun hc=>by rw[hc.1];simp[ai,ad,aj,aI]
 simp only[bf,ad,aj,q1,q2,q3,aI,Option.map_some,az]
theorem qK (p:dj) (hs:p.ah.length<=1048576) (σ:ax):Call Tryz.prog 11 [.agg (aD p)] σ (fun r σ'=>∃ids,wT σ'.get r p ids/\eM σ.next σ'.next ids/\Kept σ σ'):=by
 refine eW dM rfl fun hl=>?_
 clear hl
 (try((repeat(revert hN;revert N;apply Pn.out));refine wk @aD.eq_1 ?_;(repeat(refine Pn.mk ?_;intro N hN))))
 refine .inr (aO _ _ _ _ _ (fun r σ1 hq=>?_) (Az p.ah hs _))
 obtain⟨ids,hR,hI,hK⟩:=hq
 obtain⟨g1,x1⟩:=σ1
 (try dsimp only at hR hI hK)
 have hn:=hK.1
 obtain⟨o,rows,is,rfl,hg,R3,rfl⟩:=hR
 refine hN _ _ ?_
 clear hN N
 have k2:=hK.2 ⟨11000001,σ.next⟩ bt
 have k3:=hK.2 ⟨11001000,σ.next+1⟩ bt
 simp only[go_sem, ↓reduceIte,Nat.reduceEqDiff,Nat.reduceAdd,Nat.reduceSub,Nat.reduceLeDiff,reduceCtorEq]at k2 k3
 (try((repeat(revert hN;revert N;apply Pn.out));refine wk (tw @aD.eq_1 (tw @k2 @k3)) ?_;(repeat(refine Pn.mk ?_;intro N hN))))
 refine gm (.inl rfl) (vs:=[.agg [.own o 0 p.ah.length]]) (sd @Nat.zero_add) ?_
 have hb:=hI.2
 (try dsimp only at hb hn)
 refine⟨_,⟨_,rfl,fU.frame vZ ⟨o,rows,is,rfl,hg,R3,rfl⟩ fun j hj=>?_⟩,⟨hI.1,fun j hj=>?_⟩,⟨?_,fun j hj=>?_⟩⟩
 ·have Sr:=hb j hj
  have i2:=dr (b:=j) (a:=⟨11000001,σ.next⟩) bt
  have i3:=dr (b:=j) (a:=⟨11001000,σ.next+1⟩) bt
  simp only[go_sem, ↓reduceIte,Nat.reduceEqDiff,Nat.reduceAdd,Nat.reduceSub,Nat.reduceLeDiff,reduceCtorEq,i2,i3]
 ·have:=hb j hj
  (try dsimp only);omega
 ·(try dsimp only);omega
 ·have h2:=hK.2 j bt
  have h1:=eO hj
  simp only[go_sem, ↓reduceIte,Nat.reduceEqDiff,Nat.reduceAdd,Nat.reduceSub,Nat.reduceLeDiff,reduceCtorEq,h1]at h2
  simp only[go_sem, ↓reduceIte,Nat.reduceEqDiff,Nat.reduceAdd,Nat.reduceSub,Nat.reduceLeDiff,reduceCtorEq,h1,h2]
theorem AB (p:aw) (hs:Gl p) (σ:ax):Call Tryz.prog 39 [.agg (aa p)] σ (fun r σ'=>∃a b i1 i2,r=.agg [a,b]/\fU (jC bd) 2 σ'.get a p.au i1/\fU nk 2 σ'.get b p.ah i2/\eM σ.next σ'.next (i1++i2)/\Kept σ σ'):=by
 refine eW dM rfl fun hl=>?_
 clear hl
 (try((repeat(revert hN;revert N;apply Pn.out));refine wk @aa.eq_1 ?_;(repeat(refine Pn.mk ?_;intro N hN))))
 refine .inr (aO _ _ _ _ _ (fun r σ1 hq=>?_) (FJ p.au hs.g _))
 obtain⟨i1,hR,hI,hK⟩:=hq
 obtain⟨g1,x1⟩:=σ1
 (try dsimp only at hR hI hK)
 have hn:=hK.1
 obtain⟨o,rows,is,rfl,hg,R3,rfl⟩:=hR
 have hb:=hI.2
 (try dsimp only at hb hn)
 refine hN _ _ ?_
 clear hN N
 have k1:=hK.2 ⟨39000000,σ.next⟩ bt
 have k2:=hK.2 ⟨39000001,σ.next⟩ bt
 have k3:=hK.2 ⟨39001000,σ.next+1⟩ bt
 simp only[go_sem, ↓reduceIte,Nat.reduceEqDiff,Nat.reduceAdd,Nat.reduceSub,Nat.reduceLeDiff,reduceCtorEq]at k1 k2 k3
 (try((repeat(revert hN;revert N;apply Pn.out));refine wk (tw @aa.eq_1 (tw @k1 (tw @k2 @k3))) ?_;(repeat(refine Pn.mk ?_;intro N hN))))
 refine .inr (aO _ _ _ _ _ (fun r σ2 hq=>?_) (FL p.ah hs.t hs.s _))
 obtain⟨i2,hS,hJ,hL⟩:=hq
 obtain⟨g2,x2⟩:=σ2
 (try dsimp only at hS hJ hL)
 have MI:=hL.1
 obtain⟨o2,Qu,is2,rfl,oF,hS',rfl⟩:=hS
 have hc:=hJ.2
 (try dsimp only at hc MI)
 refine hN _ _ ?_
 clear hN N
 have l2:=hL.2 ⟨39000001,σ.next⟩ bt
 have l3:=hL.2 ⟨39001000,σ.next+1⟩ bt
 simp only[go_sem, ↓reduceIte,Nat.reduceEqDiff,Nat.reduceAdd,Nat.reduceSub,Nat.reduceLeDiff,reduceCtorEq,k2,k3]at l2 l3
 (try((repeat(revert hN;revert N;apply Pn.out));refine wk (tw @aa.eq_1 (tw @l2 @l3)) ?_;(repeat(refine Pn.mk ?_;intro N hN))))
 refine gm (.inl rfl) (vs:=[.agg [.own o 0 p.au.length,.own o2 0 p.ah.length]]) (sd @Nat.zero_add) ?_
 have fr:∀x:Id,σ.next+2<=x.cq->(x=⟨39000001,σ.next⟩)=False/\(x=⟨39001000,σ.next+1⟩)=False:=fun x hx=>⟨(dr (a:=⟨39000001,σ.next⟩) (b:=x) bt).2,(dr (a:=⟨39001000,σ.next+1⟩) (b:=x) bt).2⟩
 refine⟨_,_,_,_,rfl,fU.frame (g:=g1) zu ⟨o,rows,is,rfl,hg,R3,rfl⟩ fun i hi=>?_,fU.frame (g:=g2) pG ⟨o2,Qu,is2,rfl,oF,hS',rfl⟩ fun i hi=>?_,?_,⟨bt,fun j hj=>?_⟩⟩
 ·have h1:=hb i hi
  have h2:=hL.2 i bt
  have h3:=fr i ab
  simp only[go_sem, ↓reduceIte,Nat.reduceEqDiff,Nat.reduceAdd,Nat.reduceSub,Nat.reduceLeDiff,reduceCtorEq,h3]at h2
  simp only[go_sem, ↓reduceIte,Nat.reduceEqDiff,Nat.reduceAdd,Nat.reduceSub,Nat.reduceLeDiff,reduceCtorEq,h2,h3]
 ·have h1:=hc i hi
  have h3:=fr i ab
  simp only[go_sem, ↓reduceIte,Nat.reduceEqDiff,Nat.reduceAdd,Nat.reduceSub,Nat.reduceLeDiff,reduceCtorEq,h3]
 ·(try dsimp only at *)
  exact(hI.app hJ ab ab ab).wide ab ab
 ·have h1:=eO hj
  have h2:=hL.2 j bt
  have h3:=hK.2 j bt
  simp only[go_sem, ↓reduceIte,Nat.reduceEqDiff,Nat.reduceAdd,Nat.reduceSub,Nat.reduceLeDiff,reduceCtorEq,h1]at h2 h3
  simp only[go_sem, ↓reduceIte,Nat.reduceEqDiff,Nat.reduceAdd,Nat.reduceSub,Nat.reduceLeDiff,reduceCtorEq,h1,h2,h3]
theorem CF (p:cl) (hs:pS p) (σ:ax):Call Tryz.prog 10 [.agg (az p)] σ (fun r σ'=>∃ids,yP σ'.get r p ids/\eM σ.next σ'.next ids/\Kept σ σ'):=by
 refine eW dM rfl fun hl=>?_
 clear hl
 have t1:=fun σ=>AB p.aE hs.s σ
 have t2:=fun σ=>qK p.bZ hs.a σ
 rw[aa]at t1
 rw[aD]at t2
 (try((repeat(revert hN;revert N;apply Pn.out));refine wk @az.eq_1 ?_;(repeat(refine Pn.mk ?_;intro N hN))))
 refine .inr (aO _ _ _ _ _ (fun r σ1 hq=>?_) (t1 _))
 obtain⟨a,b,i1,i2,rfl,hA,hB,hI,hK⟩:=hq
 obtain⟨g1,x1⟩:=σ1
 (try dsimp only at hA hB hI hK)
 have hn:=hK.1
 have hb:=hI.2
 (try dsimp only at hb hn)
 refine hN _ _ ?_
 clear hN N
 have k1:=hK.2 ⟨10000000,σ.next⟩ bt
 have k2:=hK.2 ⟨10000001,σ.next⟩ bt
 have k3:=hK.2 ⟨10001000,σ.next+1⟩ bt
 simp only[go_sem, ↓reduceIte,Nat.reduceEqDiff,Nat.reduceAdd,Nat.reduceSub,Nat.reduceLeDiff,reduceCtorEq]at k1 k2 k3
 obtain⟨oa,rfl⟩:=hA.jP
 obtain⟨ob,rfl⟩:=hB.jP
 (try((repeat(revert hN;revert N;apply Pn.out));refine wk (tw @az.eq_1 (tw @k1 (tw @k2 @k3))) ?_;(repeat(refine Pn.mk ?_;intro N hN))))
 refine .inr (aO _ _ _ _ _ (fun r σ2 hq=>?_) (t2 _))
 obtain⟨i3,hC,hJ,hL⟩:=hq
 obtain⟨g2,x2⟩:=σ2
 (try dsimp only at hC hJ hL)
 have MI:=hL.1
 have hc:=hJ.2
 (try dsimp only at hc MI)
 obtain⟨c,rfl,hC⟩:=hC
 obtain⟨oc,rfl⟩:=hC.jP
 refine hN _ _ ?_
 clear hN N
 have l1:=hL.2 ⟨10000000,σ.next⟩ bt
 have l2:=hL.2 ⟨10000001,σ.next⟩ bt
 have l3:=hL.2 ⟨10001000,σ.next+1⟩ bt
 simp only[go_sem, ↓reduceIte,Nat.reduceEqDiff,Nat.reduceAdd,Nat.reduceSub,Nat.reduceLeDiff,reduceCtorEq,k1,k2,k3]at l1 l2 l3
 (try((repeat(revert hN;revert N;apply Pn.out));refine wk (tw @az.eq_1 (tw @l1 (tw @l2 @l3))) ?_;(repeat(refine Pn.mk ?_;intro N hN))))
 refine gm (.inl rfl) (vs:=[.agg [.own oa 0 p.aE.au.length,.own ob 0 p.aE.ah.length,.own oc 0 p.bZ.ah.length,.int .i64 p.aH]]) (sd @Nat.zero_add) ?_
 have fr:∀x:Id,σ.next+2<=x.cq->(x=⟨10000001,σ.next⟩)=False/\(x=⟨10001000,σ.next+1⟩)=False:=fun x hx=>⟨(dr (a:=⟨10000001,σ.next⟩) (b:=x) bt).2,(dr (a:=⟨10001000,σ.next+1⟩) (b:=x) bt).2⟩
 have Mf:∀i∈i1++i2,g2 i=g1 i:=fun i hi=>by
  have h1:=hb i hi
  have h2:=hL.2 i bt
  have h3:=fr i ab
  simp only[go_sem, ↓reduceIte,Nat.reduceEqDiff,Nat.reduceAdd,Nat.reduceSub,Nat.reduceLeDiff,reduceCtorEq,h3]at h2
  exact h2
 refine⟨i1++(i2++i3),⟨_,_,_,i1,i2,i3,rfl,hA.frame zu fun i hi=>?_,hB.frame pG fun i hi=>?_,hC.frame vZ fun i hi=>?_,rfl⟩,?_,⟨bt,fun j hj=>?_⟩⟩
 ·have h1:=hb i (by simp[hi])
  have h2:=Mf i (by simp[hi])
  have h3:=fr i ab
  simp only[go_sem, ↓reduceIte,Nat.reduceEqDiff,Nat.reduceAdd,Nat.reduceSub,Nat.reduceLeDiff,reduceCtorEq,h2,h3]
 ·have h1:=hb i (by simp[hi])
  have h2:=Mf i (by simp[hi])
  have h3:=fr i ab
  simp only[go_sem, ↓reduceIte,Nat.reduceEqDiff,Nat.reduceAdd,Nat.reduceSub,Nat.reduceLeDiff,reduceCtorEq,h2,h3]
 ·have h1:=hc i hi
  have h3:=fr i ab
  simp only[go_sem, ↓reduceIte,Nat.reduceEqDiff,Nat.reduceAdd,Nat.reduceSub,Nat.reduceLeDiff,reduceCtorEq,h3]
 ·(try dsimp only at *)
  rw[<-List.append_assoc]
  exact(hI.app hJ ab ab ab).wide ab ab
 ·have h1:=eO hj
  have h2:=hL.2 j bt
  have h3:=hK.2 j bt
  simp only[go_sem, ↓reduceIte,Nat.reduceEqDiff,Nat.reduceAdd,Nat.reduceSub,Nat.reduceLeDiff,reduceCtorEq,h1]at h2 h3
  simp only[go_sem, ↓reduceIte,Nat.reduceEqDiff,Nat.reduceAdd,Nat.reduceSub,Nat.reduceLeDiff,reduceCtorEq,h1,h2,h3]
end Go.Proofs.YtihgaadadaekmaaGreatDoor.V

namespace Go.Proofs.YtihgaadadaekmaaGreatDoor
open Go.RowKit
def ki (n:Int):Bool:=(decide (97<=n)&&decide (n<=122))||(decide (65<=n)&&decide (n<=90))
def kM (n:Int):Bool:=decide (48<=n)&&decide (n<=57)
def su (i:Nat) (n:Int):Prop:=ki n=true∨(0<i/\(kM n=true∨n=95))
def tf (s:ByteArray):Prop:=(1<=s.size/\s.size<=12)/\∀i (h:i<s.size),su i s[i].toNat
open Classical in
noncomputable def jn (s:ByteArray):Bool:=decide (tf s)
theorem Ca {s:ByteArray} (h:tf s):true=jn s:=by simp[jn,h]
theorem dN {s:ByteArray} (h:¬tf s):false=jn s:=by simp[jn,h]
theorem Ad {s:ByteArray} {b:Bool} (hb:b=true) (h:tf s):b=jn s:=by simp[jn,h,hb]
theorem qq {s:ByteArray} {b:Bool} (hb:b=false) (h:¬tf s):b=jn s:=by simp[jn,h,hb]
theorem uf (w:World) (n:Int):Calls Tryz.prog 144 #[.int .u8 n] w fun e w'=>e=.returned (.bool (ki n))/\w=w':=by
 go_enter Tryz.func144,Tryz.ntmps144
 go_wp2_with fail
 all_goals
  go_ret
  exact⟨gZ (by unfold ki;simp[*];try omega),rfl⟩
theorem En (w:World) (n:Int):Calls Tryz.prog 68 #[.int .u8 n] w fun e w'=>e=.returned (.bool (kM n))/\w=w':=by
 go_enter Tryz.func68,Tryz.ntmps68
 go_wp2_with fail
 all_goals
  go_ret
  exact⟨gZ (by unfold kM;simp[*];try omega),rfl⟩
theorem Ao (w:World) (s:ByteArray) (hs:s.size<=9223372036854775807):Calls Tryz.prog 123 #[.string s] w fun e w'=>e=.returned (.bool (jn s))/\Below w.heap.size w w':=by
 by_cases h1:1<=s.size
 case neg=>
  go_enter Tryz.func123,Tryz.ntmps123
  go_wp2_with fail
  go_ret
  exact⟨gZ (dN fun h=>h1 h.1.1),Below.refl _ _⟩
 by_cases h2:s.size<=12
 case neg=>
  go_enter Tryz.func123,Tryz.ntmps123
  go_wp2_with fail
  go_ret
  exact⟨gZ (dN fun h=>h2 h.1.2),Below.refl _ _⟩
 go_enter Tryz.func123,Tryz.ntmps123
 go_wp2_with fail
 refine(uf _ _).mono ?_
 rintro e w' ⟨rfl,rfl⟩
 cases h3:ki s[0].toNat
 ·go_wp2_with fail
  go_ret
  exact⟨gZ (dN fun h=>by have:=h.2 0 (by omega);simp only[su]at this;rw[h3]at this;simp at this),Below.refl _ _⟩
 ·replace h3:=Lib.hid h3
  go_wp2_with fail
  go_loop [3] (fun i=>∃k:Nat,1<=k/\k<=s.size/\i=.int .i64 k/\Hid (∀j (h:j<s.size),j<k->su j s[j].toNat)) (fun i=>s.size-(intOf i).toNat)
  case atStart=>exact⟨1,by omega,by omega,rfl,Lib.hid fun j h hj=>by
   obtain rfl:j=0:=by omega
   exact .inl h3.out⟩
  case round=>
   obtain⟨k,r9,hk,rfl,dk⟩:=hrel
   by_cases dD:k<s.size
   ·go_wp2_with fail
    refine(uf _ _).mono ?_
    rintro e w' ⟨rfl,rfl⟩
    have la:su k s[k].toNat∨¬su k s[k].toNat:=Classical.em _
    cases hl:ki s[k].toNat
    ·go_wp2_with fail
     refine(En _ _).mono ?_
     rintro e w' ⟨rfl,rfl⟩
     cases hd:kM s[k].toNat
     ·by_cases sP:(s[k].toNat:Int)=95
      ·have RI:((s[k].toNat:Int) !=95)=false:=by simp;omega
       replace sP:=Lib.hid sP
       replace hl:=Lib.hid hl
       replace hd:=Lib.hid hd
       go_wp2_with fail
       go_round
       case rel=>exact⟨k+1,by omega,by omega,by go_num,Lib.hid fun j h hj=>by
        by_cases wh:j=k
        ·subst wh;exact .inr ⟨by omega,.inr sP.out⟩
        ·exact dk.out j h (by omega)⟩
       case measure=>simp[intOf];omega
      ·have RI:((s[k].toNat:Int) !=95)=true:=by simp;omega
       replace sP:=Lib.hid sP
       replace hl:=Lib.hid hl
       replace hd:=Lib.hid hd
       go_wp2_with fail
       go_ret
       exact⟨gZ (dN fun h=>by
        have:=h.2 k dD;simp only[su,hl.out,hd.out]at this;exact sP.out (by simp at this;exact this.2)),Below.refl _ _⟩
     ·replace hl:=Lib.hid hl
      replace hd:=Lib.hid hd
      go_wp2_with fail
      go_round
      case rel=>exact⟨k+1,by omega,by omega,by go_num,Lib.hid fun j h hj=>by
       by_cases wh:j=k
       ·subst wh;exact .inr ⟨by omega,.inl hd.out⟩
       ·exact dk.out j h (by omega)⟩
      case measure=>simp[intOf];omega
    ·replace hl:=Lib.hid hl
     go_wp2_with fail
     go_round
     case rel=>exact⟨k+1,by omega,by omega,by go_num,Lib.hid fun j h hj=>by
      by_cases wh:j=k
      ·subst wh;exact .inl hl.out
      ·exact dk.out j h (by omega)⟩
     case measure=>simp[intOf];omega
   ·go_wp2_with fail
    go_ret
    exact⟨gZ (Ca ⟨⟨h1,h2⟩,fun i h=>dk.out i h (by omega)⟩),Below.refl _ _⟩
theorem zT (w:World) (s:ByteArray) (hs:s.size<=9223372036854775807):Calls Tryz.prog 132 #[.string s] w fun e w'=>e=.returned (.bool (jn s))/\w=w':=by
 go_enter Tryz.func132,Tryz.ntmps132
 go_wp2_with fail
 go_loop [8] (fun i=>∃k:Nat,k<=s.size/\i=.int .i64 k/\Hid (∀j (h:j<s.size),j<k->su j s[j].toNat)) (fun i=>s.size-(intOf i).toNat)
 case atStart=>exact⟨0,by omega,rfl,Lib.hid fun j h hj=>by omega⟩
 case round=>
  obtain⟨k,hk,rfl,dk⟩:=hrel
  by_cases dD:k<s.size
  ·have hc:(s[k].toNat:Int)<48∨(48<=(s[k].toNat:Int)/\(s[k].toNat:Int)<=57)∨(58<=(s[k].toNat:Int)/\(s[k].toNat:Int)<=64)∨(65<=(s[k].toNat:Int)/\(s[k].toNat:Int)<=90)∨(91<=(s[k].toNat:Int)/\(s[k].toNat:Int)<=94)∨(95<=(s[k].toNat:Int)/\(s[k].toNat:Int)<=95)∨(96<=(s[k].toNat:Int)/\(s[k].toNat:Int)<=96)∨(97<=(s[k].toNat:Int)/\(s[k].toNat:Int)<=122)∨123<=(s[k].toNat:Int):=by omega
   by_cases kJ:k=0
   ·subst kJ
    rcases hc with h|⟨h,h'⟩|⟨h,h'⟩|⟨h,h'⟩|⟨h,h'⟩|⟨h,h'⟩|⟨h,h'⟩|⟨h,h'⟩|h
    ·have sP:((s[0].toNat:Int) !=95)=true:=by simp;try omega
     go_wp2_with fail
     all_goals first
      |(go_ret;exact⟨gZ (dN fun hh=>by have:=hh.2 0 dD;simp[su,ki,kM]at this;omega),rfl⟩)
      |(exfalso;simp_all;done)
      |(exfalso;simp_all;omega)
    ·have sP:((s[0].toNat:Int) !=95)=true:=by simp;try omega
     go_wp2_with fail
     all_goals first
      |(go_ret;exact⟨gZ (dN fun hh=>by have:=hh.2 0 dD;simp[su,ki,kM]at this;omega),rfl⟩)
      |(exfalso;simp_all;done)
      |(exfalso;simp_all;omega)
    ·have sP:((s[0].toNat:Int) !=95)=true:=by simp;try omega
     go_wp2_with fail
     all_goals first
      |(go_ret;exact⟨gZ (dN fun hh=>by have:=hh.2 0 dD;simp[su,ki,kM]at this;omega),rfl⟩)
      |(exfalso;simp_all;done)
      |(exfalso;simp_all;omega)
    ·have sP:((s[0].toNat:Int) !=95)=true:=by simp;try omega
     go_wp2_with fail
     go_round
     case rel=>exact⟨0+1,by omega,by go_num,Lib.hid fun j hj wh=>by
      by_cases Hg:j=0
      ·subst Hg;simp[su,ki,kM];omega
      ·exact dk.out j hj (by omega)⟩
     case measure=>simp[intOf];try omega
    ·have sP:((s[0].toNat:Int) !=95)=true:=by simp;try omega
     go_wp2_with fail
     all_goals first
      |(go_ret;exact⟨gZ (dN fun hh=>by have:=hh.2 0 dD;simp[su,ki,kM]at this;omega),rfl⟩)
      |(exfalso;simp_all;done)
      |(exfalso;simp_all;omega)
    ·have sP:((s[0].toNat:Int) !=95)=false:=by simp;try omega
     go_wp2_with fail
     all_goals first
      |(go_ret;exact⟨gZ (dN fun hh=>by have:=hh.2 0 dD;simp[su,ki,kM]at this;omega),rfl⟩)
      |(exfalso;simp_all;done)
      |(exfalso;simp_all;omega)
    ·have sP:((s[0].toNat:Int) !=95)=true:=by simp;try omega
     go_wp2_with fail
     all_goals first
      |(go_ret;exact⟨gZ (dN fun hh=>by have:=hh.2 0 dD;simp[su,ki,kM]at this;omega),rfl⟩)
      |(exfalso;simp_all;done)
      |(exfalso;simp_all;omega)
    ·have sP:((s[0].toNat:Int) !=95)=true:=by simp;try omega
     go_wp2_with fail
     go_round
     case rel=>exact⟨0+1,by omega,by go_num,Lib.hid fun j hj wh=>by
      by_cases Hg:j=0
      ·subst Hg;simp[su,ki,kM];omega
      ·exact dk.out j hj (by omega)⟩
     case measure=>simp[intOf];try omega
    ·have sP:((s[0].toNat:Int) !=95)=true:=by simp;try omega
     go_wp2_with fail
     all_goals first
      |(go_ret;exact⟨gZ (dN fun hh=>by have:=hh.2 0 dD;simp[su,ki,kM]at this;omega),rfl⟩)
      |(exfalso;simp_all;done)
      |(exfalso;simp_all;omega)
   ·have hz:((k:Int)==0)=false:=by simpa using kJ
    have r9:1<=k:=by omega
    clear kJ
    rcases hc with h|⟨h,h'⟩|⟨h,h'⟩|⟨h,h'⟩|⟨h,h'⟩|⟨h,h'⟩|⟨h,h'⟩|⟨h,h'⟩|h
    ·have sP:((s[k].toNat:Int) !=95)=true:=by simp;try omega
     go_wp2_with fail
     all_goals first
      |(go_ret;exact⟨gZ (dN fun hh=>by have:=hh.2 k dD;simp[su,ki,kM]at this;omega),rfl⟩)
      |(exfalso;simp_all;done)
      |(exfalso;simp_all;omega)
    ·have sP:((s[k].toNat:Int) !=95)=true:=by simp;try omega
     go_wp2_with fail
     go_round
     case rel=>exact⟨k+1,by omega,by go_num,Lib.hid fun j hj wh=>by
      by_cases Hg:j=k
      ·subst Hg;simp[su,ki,kM];omega
      ·exact dk.out j hj (by omega)⟩
     case measure=>simp[intOf];try omega
    ·have sP:((s[k].toNat:Int) !=95)=true:=by simp;try omega
     go_wp2_with fail
     all_goals first
      |(go_ret;exact⟨gZ (dN fun hh=>by have:=hh.2 k dD;simp[su,ki,kM]at this;omega),rfl⟩)
      |(exfalso;simp_all;done)
      |(exfalso;simp_all;omega)
    ·have sP:((s[k].toNat:Int) !=95)=true:=by simp;try omega
     go_wp2_with fail
     go_round
     case rel=>exact⟨k+1,by omega,by go_num,Lib.hid fun j hj wh=>by
      by_cases Hg:j=k
      ·subst Hg;simp[su,ki,kM];omega
      ·exact dk.out j hj (by omega)⟩
     case measure=>simp[intOf];try omega
    ·have sP:((s[k].toNat:Int) !=95)=true:=by simp;try omega
     go_wp2_with fail
     all_goals first
      |(go_ret;exact⟨gZ (dN fun hh=>by have:=hh.2 k dD;simp[su,ki,kM]at this;omega),rfl⟩)
      |(exfalso;simp_all;done)
      |(exfalso;simp_all;omega)
    ·have sP:((s[k].toNat:Int) !=95)=false:=by simp;try omega
     go_wp2_with fail
     go_round
     case rel=>exact⟨k+1,by omega,by go_num,Lib.hid fun j hj wh=>by
      by_cases Hg:j=k
      ·subst Hg;simp[su,ki,kM];omega
      ·exact dk.out j hj (by omega)⟩
     case measure=>simp[intOf];try omega
    ·have sP:((s[k].toNat:Int) !=95)=true:=by simp;try omega
     go_wp2_with fail
     all_goals first
      |(go_ret;exact⟨gZ (dN fun hh=>by have:=hh.2 k dD;simp[su,ki,kM]at this;omega),rfl⟩)
      |(exfalso;simp_all;done)
      |(exfalso;simp_all;omega)
    ·have sP:((s[k].toNat:Int) !=95)=true:=by simp;try omega
     go_wp2_with fail
     go_round
     case rel=>exact⟨k+1,by omega,by go_num,Lib.hid fun j hj wh=>by
      by_cases Hg:j=k
      ·subst Hg;simp[su,ki,kM];omega
      ·exact dk.out j hj (by omega)⟩
     case measure=>simp[intOf];try omega
    ·have sP:((s[k].toNat:Int) !=95)=true:=by simp;try omega
     go_wp2_with fail
     all_goals first
      |(go_ret;exact⟨gZ (dN fun hh=>by have:=hh.2 k dD;simp[su,ki,kM]at this;omega),rfl⟩)
      |(exfalso;simp_all;done)
      |(exfalso;simp_all;omega)
  ·by_cases h1:1<=s.size
   ·by_cases h2:s.size<=12
    ·go_wp2_with fail
     go_ret
     exact⟨gZ (Ad (by simp<;>omega) ⟨⟨h1,h2⟩,fun i h=>dk.out i h (by omega)⟩),rfl⟩
    ·go_wp2_with fail
     go_ret
     exact⟨gZ (qq (by simp<;>omega) fun h=>h2 h.1.2),rfl⟩
   ·go_wp2_with fail
    go_ret
    exact⟨gZ (qq (by simp<;>omega) fun h=>h1 h.1.1),rfl⟩
end Go.Proofs.YtihgaadadaekmaaGreatDoor

namespace Go.Proofs.YtihgaadadaekmaaGreatDoor.V
open Go.RowKit
theorem mixed:Tryz.prog.follows .mixedOrders=true:=by kernel_rfl
variable {P:Program} {w:World} {D:Nat->Prop} {ι:Names}
theorem jz {f:Nat} {args:List AV} {r:AV} {vs0:Array Value} {u0:Value} (mM:∀(w:World) (D:Nat->Prop) (ι:Names) vs,e8 P w D ι args vs->vs=vs0) (hr:∀(w:World) (D:Nat->Prop) (ι:Names),cG P w D ι r u0) (Df:∀g,fC g 6 r=some r)
  (h:∀w,Calls P f vs0 w fun e w'=>e=.returned u0/\Below w.heap.size w w'):ae P f args r:=by
 intro n
 refine iv fun hs D ι w vs S U A=>?_
 have:=mM w D ι vs A
 subst this
 refine(h w).mono ?_
 rintro e w' ⟨rfl,hb⟩
 exact⟨r,_,n,D,ι,u0,rfl,⟨r,Df _,rfl⟩,Step.stay S hb.block hb.size hb.os hb.tape hb.output (fun _ h=>h) (fun _ h=>.inl h) (fun _ _ h=>h),
  S.stay hb.block hb.size (fun _ h=>h) (fun b hd=>Nat.lt_of_lt_of_le (S.dead b hd) hb.size) (fun _ h=>.inl h) (fun _ _ h=>h),U,Nat.le_refl _,hr _ _ _⟩
theorem Al {s:ByteArray} {vs:Array Value} (h:e8 P w D ι [.str s] vs):vs= #[.string s]:=by
 obtain⟨h1,h2⟩:=h
 obtain⟨u,hu,hr⟩:=h2 0 _ rfl
 rw[fh hr]at hu
 obtain⟨l⟩:=vs
 cases l with
 |nil=>simp at h1
 |cons a l=>cases l with
  |nil=>simp at hu;subst hu;rfl
  |cons b l=>simp at h1
theorem DE (s:ByteArray) (hs:s.size<=9223372036854775807):ae Tryz.prog 123 [.str s] (.bool (jn s)):=
 jz (fun _ _ _ _=>Al) (fun _ _ _=>.eJ _ _ (.bool _)) (fun g=>e9 g 5 _) fun w=>Ao w s hs
theorem Dq (s:ByteArray) (hs:s.size<=9223372036854775807):ae Tryz.prog 132 [.str s] (.bool (jn s)):=
 jz (fun _ _ _ _=>Al) (fun _ _ _=>.eJ _ _ (.bool _)) (fun g=>e9 g 5 _) fun w=>(zT w s hs).mono (by rintro e w' ⟨rfl,rfl⟩;exact⟨rfl,Below.refl _ _⟩)
end Go.Proofs.YtihgaadadaekmaaGreatDoor.V

namespace Go.Proofs.YtihgaadadaekmaaGreatDoor
open Go.RowKit
def sw (n:Nat):List UInt8:=if h:n=0 then[]else sw (n / 10)++[UInt8.ofNat (48+n % 10)]
termination_by n
decreasing_by omega
def nK (k:Int):ByteArray:=if k<=0 then⟨#[109,48]⟩else⟨(109::sw k.toNat).toArray⟩
theorem Eo:sw 0=[]:=by unfold sw;simp
theorem GJ {n:Nat} (h:n≠0):sw n=sw (n / 10)++[UInt8.ofNat (48+n % 10)]:=by
 conv=>lhs;unfold sw
 rw[dif_neg h]
theorem vW (c:UInt8) (l:ByteArray):((⟨#[c]⟩++l:ByteArray)).data.toList=c::l.data.toList:=by
 simp[ByteArray.data_append]
theorem zd:∀(m n:Nat),n<10 ^ m->(sw n).length<=m
 |0,n,h=>by
  have:n=0:=by simpa using h
  subst this;simp[sw]
 |m+1,n,h=>by
  unfold sw
  split
  ·simp
  ·have:=zd m (n / 10) (by rw[Nat.pow_succ]at h;omega)
   simp;omega
theorem xX (w:World) (k:Int) (h0:0<=k) (h1:k<=4611686018427387904):
  Calls Tryz.prog 112 #[.int .i64 k] w fun e w'=>e=.returned (.string (nK k))/\Below w.heap.size w w':=by
 by_cases hk:k<=0
 ·go_enter Tryz.func112,Tryz.ntmps112
  go_wp2_with fail
  go_ret
  exact⟨by simp[nK,hk],Below.refl _ _⟩
 ·go_enter Tryz.func112,Tryz.ntmps112
  go_wp2_with fail
  go_loopw [0,3] (fun a s wr=>∃(j:Int) (l:ByteArray),a=.int .i64 j/\s=.string l/\0<=j/\j<=4611686018427387904/\Hid (sw j.toNat++l.data.toList=sw k.toNat)/\Below w.heap.size w wr) (fun a _ _=>(intOf a).toNat)
  case atStart=>exact⟨k,⟨#[]⟩,rfl,rfl,h0,h1,Lib.hid (by simp),Below.refl _ _⟩
  case round=>
   obtain⟨j,l,rfl,rfl,hj0,hj1,hd,hb⟩:=hrel
   have fA:l.size<=19:=by
    have h1:=congrArg List.length hd.out
    have h2:=zd 19 k.toNat (by omega)
    rw[List.length_append]at h1
    have:l.data.toList.length=l.size:=by rw[Array.length_toList];rfl
    omega
   by_cases hj:0<j
   ·have hcv:∀v:Int,(convert 142 9 (.slice (some ⟨wr.heap.size,0,none⟩) 1 1)).run Tryz.prog (wr.alloc (.cells #[.int .u8 v] 5))=.ok (.string ⟨#[UInt8.ofNat v.toNat]⟩) (wr.alloc (.cells #[.int .u8 v] 5)):=by
     intro v
     rw[run_convert_bytes_string _ _ _ 5 _ _ _ Tryz.underlying142 Tryz.underlying5 Tryz.underlying9,run_bytesToString _ _ _ _ [v] (by simp[loadCells,loadCellsFrom,go_sem])]
     rfl
    have hr:=fA
    go_wp2_with fail
    go_roundw
    case rel=>
     refine⟨_,_,rfl,rfl,by omega,by omega,Lib.hid ?_,hb.alloc hb.size _⟩
     rw[<-hd.out,vW,GJ (show j.toNat≠0 by omega),show(j / 10).toNat=j.toNat / 10 by omega,show(48+j % 10).toNat=48+j.toNat % 10 by omega]
     simp
    case measure=>simp[intOf];omega
   ·go_wp2_with fail
    go_ret
    refine⟨?_,hb⟩
    have h1:=hd.out
    rw[show j.toNat=0 by omega,Eo,List.nil_append]at h1
    have h2:(⟨#[109]⟩++l:ByteArray)=nK k:=by
     rw[nK,if_neg (by omega)]
     refine ByteArray.ext (Array.ext' ?_)
     rw[vW,h1]
    rw[h2];rfl
end Go.Proofs.YtihgaadadaekmaaGreatDoor

namespace Go.Proofs.YtihgaadadaekmaaGreatDoor.V
open Go.RowKit
attribute [local irreducible] ea wpOps gR Call
attribute [local go_sem] aM fP eL gh ga cE upd cu K.av cL AV.cells AV.cell rowOf rowsOf part ld rowAt bY ck dI ef ig bL da ez gn e7 du ek cY cX dV dW bR bm cQ bQ cT cR ei eo ej cP bW cZ eh bP aQ cV cC ib bw cH bS aY dF bu dK AV.undef bF bH dY ee dU eb cF ew eD cw eu er cU cW List.getD_cons_zero List.getD_cons_succ List.getD_nil List.all_cons List.all_nil Bool.and_true Bool.true_and Bool.and_self Bool.not_true Bool.not_false Option.map_some Option.map_none Option.bind_some Option.bind_none List.length_cons List.length_nil List.take_succ_cons List.take_zero List.take_nil List.drop_succ_cons List.drop_zero List.drop_nil List.head?_cons List.map_cons List.map_nil List.getElem?_cons_zero List.getElem?_cons_succ List.cons_append List.nil_append List.append_nil List.length_map List.set_cons_zero List.set_cons_succ Nat.reduceMul eq_self Int.toNat_natCast Int.natCast_nonneg and_self true_and and_true decide_true decide_false Bool.false_eq_true Nat.zero_add Nat.add_zero List.contains_cons List.contains_nil Bool.or_false Bool.false_or beq_self_eq_true Nat.reduceBEq ne_eq not_true_eq_false not_false_eq_true Id.mk.injEq false_and and_false Nat.reduceLT Int.reduceLE Int.reduceLT Int.reduceToNat Int.reduceNeg Int.reduceAdd Nat.le_refl List.length_append beq_true beq_false Bool.not_eq_eq_eq_not or_false false_or dE ad aj aI bE cj aW bf aV bo cN bG
def m4 (σ:ax) (ids:List Id) (g:Rows) (n:Nat):Prop:=σ.next<=n/\∀x:Id,x.cq<σ.next->x∉ids->g x=σ.get x
theorem qC (l:List (List AV)) (i:Nat) (a b:List AV):(l.set i a).set i b=l.set i b:=List.set_set ..
theorem zf {l:List Int} {j:Nat} (h:j<l.length):(l.map ar)[j]? =some [.int .i64 l[j]]:=by simp[h,ar]
theorem KE {P:Program} {w:World} {D:Nat->Prop} {ι:Names} {k:Int} {vs:Array Value} (h:e8 P w D ι [.int .i64 k] vs):vs= #[.int .i64 k]:=by
 obtain⟨h1,h2⟩:=h
 obtain⟨u,hu,hr⟩:=h2 0 _ rfl
 rw[dh hr]at hu
 obtain⟨l⟩:=vs
 cases l with
 |nil=>simp at h1
 |cons a l=>cases l with
  |nil=>simp at hu;subst hu;rfl
  |cons b l=>simp at h1
theorem uh (k:Int) (h0:0<=k) (h1:k<=4611686018427387904):ae Tryz.prog 112 [.int .i64 k] (.str (nK k)):=
 jz (vs0:= #[.int .i64 k]) (u0:=.string (nK k)) (fun _ _ _ _=>KE) (fun w D ι=>.eJ _ _ (.str _)) (fun g=>kX g 5 _) fun w=>xX w k h0 h1
theorem B7 (i:Id) (l:List Int) (k:Int) (h0:0<=k) (h1:k+l.length<=4611686018427387904) (σ:ax) (hv:i.cq<σ.next) (hg:σ.get i=some ⟨true,1,l.map ar⟩):
  Call Tryz.prog 23 [.own i 0 l.length,.int .i64 k] σ (fun r σ'=>r=.int .i64 (k+l.length)/\m4 σ [i] σ'.get σ'.next):=by
 refine eW dM rfl fun hl=>?_
 clear hl
 obtain⟨nn,hn⟩:∃nn,l.length=nn:=⟨_,rfl⟩
 rw[hn]at h1 ⊢
 (try((repeat(revert hN;revert N;apply Pn.out));refine wk @Nat.zero_add ?_;(repeat(refine Pn.mk ?_;intro N hN))))
 refine aP (fun n env st=>∃j:Nat,n=(nn)-j/\j<=(nn)/\env 5=.int .i64 (j:Int)/\env 1=.int .i64 (k+j)/\(m4 σ [i] st.get st.next/\∃l':List Int,l'.length=nn/\st.get i=some ⟨true,1,l'.map ar⟩)) (nn) ⟨0,ab,ab,sl (tw @Int.add_zero @Int.natCast_zero),sl (tw @Int.add_zero @Int.natCast_zero),by(try dsimp only);exact⟨⟨bt,fun x _ _=>rfl⟩,l,hn,hg⟩⟩ ?_
 rintro n_a env_a st_a ⟨j,rfl,ale,a5,a1,jW⟩ dm
 have a0:=dm 0 (by kernel_rfl)
 simp only[go_sem, ↓reduceIte,Nat.reduceEqDiff,Nat.reduceAdd,Nat.reduceSub,Nat.reduceLeDiff,reduceCtorEq,Int.add_zero,Int.natCast_zero]at a0
 clear dm
 obtain⟨⟨an,aF⟩,l',al,ag⟩:=jW
 by_cases hj:(j:Int)<(nn:Int)
 ·have bD:∀{e:Env} {gg:Rows} {nx:Nat},(e 5=.int .i64 (IntKind.i64.wrap ((j:Int)+1)))->(e 1=.int .i64 (k+(j+1)))->(m4 σ [i] gg nx/\∃l':List Int,l'.length=nn/\gg i=some ⟨true,1,l'.map ar⟩)->∃m0,m0<(nn)-j/\∃j:Nat,m0=(nn)-j/\j<=(nn)/\e 5=.int .i64 (j:Int)/\e 1=.int .i64 (k+j)/\(m4 σ [i] gg nx/\∃l':List Int,l'.length=nn/\gg i=some ⟨true,1,l'.map ar⟩):=fun x1 x2 x3=>⟨_,ab,j+1,rfl,ab,(by rw[x1,ay ab]),x2,x3⟩
  have gj:j<l'.length:=ab
  have dR:=zf gj
  have dP:(l'.map ar).set j [.int .i64 (k+j)]=(l'.set j (k+j)).map ar:=by rw[List.map_set];rfl
  have hw:IntKind.i64.wrap (k+(j:Int)+1)=k+((j:Int)+1):=by rw[aT ab];omega
  (try((repeat(revert hN;revert N;apply Pn.out));refine wk (tw @a5 (tw @a1 (tw @a0 (tw @hj (tw @ag (tw @dR (tw @dP @hw))))))) ?_;(repeat(refine Pn.mk ?_;intro N hN))))
  refine bD ?_ ?_ (by(try dsimp only);exact⟨⟨bt,fun x hx hi=>by
   have h2:=aF x hx hi
   have h3:(x=i)=False:=eq_false fun e=>hi (by simp[e])
   simp only[go_sem, ↓reduceIte,Nat.reduceEqDiff,Nat.reduceAdd,Nat.reduceSub,Nat.reduceLeDiff,reduceCtorEq,h2,h3]⟩,l'.set j (k+j),by simp[al],sl @Nat.zero_add⟩)
  all_goals simp only[go_sem, ↓reduceIte,Nat.reduceEqDiff,Nat.reduceAdd,Nat.reduceSub,Nat.reduceLeDiff,reduceCtorEq,a5,a1,a0,hw]
 ·have gj:j=nn:=ab
  subst gj
  (try((repeat(revert hN;revert N;apply Pn.out));refine wk (tw @a5 (tw @a1 (tw @a0 @hj))) ?_;(repeat(refine Pn.mk ?_;intro N hN))))
  exact gm (.inl rfl) (vs:=[.int .i64 (k+j)]) (sd (tw @a5 (tw @a1 @a0))) ⟨rfl,⟨bt,fun x hx hi=>aF x hx hi⟩⟩
def Kl (k:Int) (n:Nat):List ao:=(List.range n).map fun j:Nat=>⟨⟨k+3*(j:Int),k+3*(j:Int)+1⟩,k+3*(j:Int)+2⟩
theorem qp (k:Int) (n:Nat):(Kl k n).length=n:=by simp[Kl]
theorem HS (k:Int) (n:Nat):Kl k (n+1)=Kl k n++[⟨⟨k+3*(n:Int),k+3*(n:Int)+1⟩,k+3*(n:Int)+2⟩]:=by simp[Kl,List.range_succ]
def me (k:Int) (l:List ao) (j:Nat):List ao:=Kl k j++l.drop j
theorem HT {k:Int} {l:List ao} {j:Nat} (h:j<=l.length):(me k l j).length=l.length:=by simp[me,qp];omega
theorem Km {k:Int} {l:List ao} {j:Nat} (h:j<l.length):((me k l j).map ai)[j]? =some [.int .i64 l[j].cI.gE,.int .i64 l[j].cI.fQ,.int .i64 l[j].bJ]:=by
 rw[List.getElem?_map,me,List.getElem?_append_right (by rw[qp];omega),qp,Nat.sub_self,List.getElem?_drop,Nat.add_zero,List.getElem?_eq_getElem h];rfl
theorem HU {k:Int} {l:List ao} {j:Nat} (h:j<l.length):((me k l j).map ai).set j [.int .i64 (k+3*(j:Int)),.int .i64 (k+3*(j:Int)+1),.int .i64 (k+3*(j:Int)+2)]=(me k l (j+1)).map ai:=by
 have:(me k l j).set j ⟨⟨k+3*(j:Int),k+3*(j:Int)+1⟩,k+3*(j:Int)+2⟩=me k l (j+1):=by
  rw[me,List.set_append_right _ _ (by rw[qp];omega),qp,Nat.sub_self,List.drop_eq_getElem_cons h,List.set_cons_zero,me,HS,List.append_assoc];rfl
 rw[<-this,List.map_set];rfl
theorem xW (i:Id) (l:List ao) (k:Int) (h0:0<=k) (h1:k+3*l.length<=4611686018427387904) (σ:ax) (hv:i.cq<σ.next) (hg:σ.get i=some ⟨true,3,l.map ai⟩):
  Call Tryz.prog 48 [.own i 0 l.length,.int .i64 k] σ (fun r σ'=>r=.int .i64 (k+3*l.length)/\m4 σ [i] σ'.get σ'.next/\σ'.get i=some ⟨true,3,(Kl k l.length).map ai⟩):=by
 refine eW dM rfl fun hl=>?_
 clear hl
 have hz:me k l 0=l:=by simp[me,Kl]
 (try((repeat(revert hN;revert N;apply Pn.out));refine wk @Nat.zero_add ?_;(repeat(refine Pn.mk ?_;intro N hN))))
 refine aP (fun n env st=>∃j:Nat,n=(l.length)-j/\j<=(l.length)/\env 5=.int .i64 (j:Int)/\env 1=.int .i64 (k+3*j)/\st.get i=some ⟨true,3,(me k l j).map ai⟩/\(m4 σ [i] st.get st.next)) (l.length) ⟨0,ab,ab,sl (tw @Int.add_zero (tw @Int.natCast_zero (tw @Int.mul_zero (tw @hz @hg)))),sl (tw @Int.add_zero (tw @Int.natCast_zero (tw @Int.mul_zero (tw @hz @hg)))),sl (tw @Int.add_zero (tw @Int.natCast_zero (tw @Int.mul_zero (tw @hz @hg)))),by(try dsimp only);exact⟨bt,fun x _ _=>rfl⟩⟩ ?_
 rintro n_a env_a st_a ⟨j,rfl,ale,a5,a1,ag0,jW⟩ dm
 have a0:=dm 0 (by kernel_rfl)
 simp only[go_sem, ↓reduceIte,Nat.reduceEqDiff,Nat.reduceAdd,Nat.reduceSub,Nat.reduceLeDiff,reduceCtorEq,Int.add_zero,Int.natCast_zero,Int.mul_zero,hz,hg]at a0
 clear dm
 obtain⟨an,aF⟩:=jW
 by_cases hj:(j:Int)<(l.length:Int)
 ·have bD:∀{e:Env} {gg:Rows} {nx:Nat},(e 5=.int .i64 (IntKind.i64.wrap ((j:Int)+1)))->(e 1=.int .i64 (k+3*(j+1)))->(gg i=some ⟨true,3,(me k l (j+1)).map ai⟩)->(m4 σ [i] gg nx)->∃m0,m0<(l.length)-j/\∃j:Nat,m0=(l.length)-j/\j<=(l.length)/\e 5=.int .i64 (j:Int)/\e 1=.int .i64 (k+3*j)/\gg i=some ⟨true,3,(me k l j).map ai⟩/\(m4 σ [i] gg nx):=fun x1 x2 x3 x4=>⟨_,ab,j+1,rfl,ab,(by rw[x1,ay ab]),x2,x3,x4⟩
  have gj:j<l.length:=ab
  have dR:=Km (k:=k) gj
  have dP:=HU (k:=k) gj
  have pv:IntKind.i64.wrap (k+3*(j:Int)+1)=k+3*(j:Int)+1:=aT ab
  have wo:IntKind.i64.wrap (k+3*(j:Int)+1+1)=k+3*(j:Int)+2:=by rw[aT ab];omega
  have P7:IntKind.i64.wrap (k+3*(j:Int)+2+1)=k+3*((j:Int)+1):=by rw[aT ab];omega
  have hlen:((me k l j).map ai).length=l.length:=by rw[List.length_map,HT ab]
  have He:∀c:List AV,(((me k l j).map ai).set j c)[j]? =some c:=fun c=>by rw[List.getElem?_set_self (by rw[hlen];exact gj)]
  (try((repeat(revert hN;revert N;apply Pn.out));refine wk (tw @a5 (tw @a1 (tw @ag0 (tw @a0 (tw @hj (tw @dR (tw @He (tw @dP (tw @pv (tw @wo (tw @P7 (tw @hlen @qC)))))))))))) ?_;(repeat(refine Pn.mk ?_;intro N hN))))
  refine bD ?_ ?_ ?_ (by(try dsimp only);exact⟨bt,fun x hx hi=>by
   have h2:=aF x hx hi
   have h3:(x=i)=False:=eq_false fun e=>hi (by simp[e])
   simp only[go_sem, ↓reduceIte,Nat.reduceEqDiff,Nat.reduceAdd,Nat.reduceSub,Nat.reduceLeDiff,reduceCtorEq,h2,h3]⟩)
  all_goals simp only[go_sem, ↓reduceIte,Nat.reduceEqDiff,Nat.reduceAdd,Nat.reduceSub,Nat.reduceLeDiff,reduceCtorEq,a5,a1,ag0,a0,P7,dP]
 ·have gj:j=l.length:=ab
  subst gj
  (try((repeat(revert hN;revert N;apply Pn.out));refine wk (tw @a5 (tw @a1 (tw @ag0 (tw @a0 @hj)))) ?_;(repeat(refine Pn.mk ?_;intro N hN))))
  have k5:me k l l.length=Kl k l.length:=by simp[me]
  rw[k5]at ag0
  exact gm (.inl rfl) (vs:=[.int .i64 (k+3*l.length)]) (sd (tw @a5 (tw @a1 (tw @ag0 @a0)))) ⟨rfl,⟨bt,fun x hx hi=>aF x hx hi⟩,ag0⟩
theorem z8 (i:Id) (l:List fc) (k:Int) (h0:0<=k) (h1:k+2*l.length<=4611686018427387904) (σ:ax) (hv:i.cq<σ.next) (hg:σ.get i=some ⟨true,2,l.map bd⟩):
  Call Tryz.prog 79 [.own i 0 l.length,.int .i64 k] σ (fun r σ'=>r=.int .i64 (k+2*l.length)/\m4 σ [i] σ'.get σ'.next):=by
 refine eW dM rfl fun hl=>?_
 clear hl
 obtain⟨nn,hn⟩:∃nn,l.length=nn:=⟨_,rfl⟩
 rw[hn]at h1 ⊢
 (try((repeat(revert hN;revert N;apply Pn.out));refine wk @Nat.zero_add ?_;(repeat(refine Pn.mk ?_;intro N hN))))
 refine aP (fun n env st=>∃j:Nat,n=(nn)-j/\j<=(nn)/\env 5=.int .i64 (j:Int)/\env 1=.int .i64 (k+2*j)/\(m4 σ [i] st.get st.next/\∃l':List fc,l'.length=nn/\st.get i=some ⟨true,2,l'.map bd⟩)) (nn) ⟨0,ab,ab,sl (tw @Int.add_zero (tw @Int.natCast_zero @Int.mul_zero)),sl (tw @Int.add_zero (tw @Int.natCast_zero @Int.mul_zero)),by(try dsimp only);exact⟨⟨bt,fun x _ _=>rfl⟩,l,hn,hg⟩⟩ ?_
 rintro n_a env_a st_a ⟨j,rfl,ale,a5,a1,jW⟩ dm
 have a0:=dm 0 (by kernel_rfl)
 simp only[go_sem, ↓reduceIte,Nat.reduceEqDiff,Nat.reduceAdd,Nat.reduceSub,Nat.reduceLeDiff,reduceCtorEq,Int.add_zero,Int.natCast_zero,Int.mul_zero]at a0
 clear dm
 obtain⟨⟨an,aF⟩,l',al,ag⟩:=jW
 by_cases hj:(j:Int)<(nn:Int)
 ·have bD:∀{e:Env} {gg:Rows} {nx:Nat},(e 5=.int .i64 (IntKind.i64.wrap ((j:Int)+1)))->(e 1=.int .i64 (k+2*(j+1)))->(m4 σ [i] gg nx/\∃l':List fc,l'.length=nn/\gg i=some ⟨true,2,l'.map bd⟩)->∃m0,m0<(nn)-j/\∃j:Nat,m0=(nn)-j/\j<=(nn)/\e 5=.int .i64 (j:Int)/\e 1=.int .i64 (k+2*j)/\(m4 σ [i] gg nx/\∃l':List fc,l'.length=nn/\gg i=some ⟨true,2,l'.map bd⟩):=fun x1 x2 x3=>⟨_,ab,j+1,rfl,ab,(by rw[x1,ay ab]),x2,x3⟩
  have gj:j<l'.length:=ab
  have dR:(l'.map bd)[j]? =some [.str l'[j].aB,.int .i64 l'[j].dQ]:=by simp[gj,bd]
  have hlen:(l'.map bd).length=nn:=by rw[List.length_map,al]
  have He:∀c:List AV,((l'.map bd).set j c)[j]? =some c:=fun c=>by rw[List.getElem?_set_self (by rw[List.length_map];exact gj)]
  have ht:=uh (k+2*(j:Int)) ab ab
  have pv:IntKind.i64.wrap (k+2*(j:Int)+1)=k+2*(j:Int)+1:=aT ab
  have wo:IntKind.i64.wrap (k+2*(j:Int)+1+1)=k+2*((j:Int)+1):=by rw[aT ab];omega
  generalize nK (k+2*(j:Int))=mt at ht
  have dP:(l'.map bd).set j [.str mt,.int .i64 (k+2*(j:Int)+1)]=(l'.set j ⟨mt,k+2*(j:Int)+1⟩).map bd:=by rw[List.map_set];rfl
  (repeat(first|((repeat(revert hN;revert N;apply Pn.out));refine wk (tw @a5 (tw @a1 (tw @a0 (tw @hj (tw @ag (tw @dR (tw @He (tw @dP (tw @pv (tw @wo (tw @hlen @qC))))))))))) ?_;(repeat(refine Pn.mk ?_;intro N hN)))|((try apply Or.inl);refine⟨_,ae.x (ht) (sd (tw @a5 (tw @a1 (tw @a0 (tw @hj (tw @ag (tw @dR (tw @He (tw @dP (tw @pv (tw @wo (tw @hlen @qC)))))))))))),?_⟩;refine hN _ _ ?_;clear hN N)))
  refine bD ?_ ?_ (by(try dsimp only);exact⟨⟨bt,fun x hx hi=>by
   have h2:=aF x hx hi
   have h3:(x=i)=False:=eq_false fun e=>hi (by simp[e])
   simp only[go_sem, ↓reduceIte,Nat.reduceEqDiff,Nat.reduceAdd,Nat.reduceSub,Nat.reduceLeDiff,reduceCtorEq,h2,h3]⟩,l'.set j ⟨mt,k+2*(j:Int)+1⟩,by simp[al],sl @Nat.zero_add⟩)
  all_goals simp only[go_sem, ↓reduceIte,Nat.reduceEqDiff,Nat.reduceAdd,Nat.reduceSub,Nat.reduceLeDiff,reduceCtorEq,a5,a1,a0,wo,dP]
 ·have gj:j=nn:=ab
  subst gj
  (try((repeat(revert hN;revert N;apply Pn.out));refine wk (tw @a5 (tw @a1 (tw @a0 @hj))) ?_;(repeat(refine Pn.mk ?_;intro N hN))))
  exact gm (.inl rfl) (vs:=[.int .i64 (k+2*j)]) (sd (tw @a5 (tw @a1 @a0))) ⟨rfl,⟨bt,fun x hx hi=>aF x hx hi⟩⟩
theorem fU.flat {α:Type} {e:α->List AV} {z:Nat} {g:Rows} {a:AV} {xs:List α} {ids:List Id} (h:fU (jC e) z g a xs ids):∃o,a=.own o 0 xs.length/\g o=some ⟨true,z,xs.map e⟩/\ids=[o]:=by
 obtain⟨o,rows,is,h1,h2,h3,rfl⟩:=h
 have:∀{rows:List (List AV)} {xs:List α} {is:List Id},dw (jC e) g rows xs is->rows=xs.map e/\is=[]:=fun h=>by
  induction h with
  |nil=>exact⟨rfl,rfl⟩
  |cons h1 _ ih=>obtain⟨rfl,rfl⟩:=h1;obtain⟨rfl,rfl⟩:=ih;exact⟨rfl,rfl⟩
 obtain⟨rfl,rfl⟩:=this h3
 exact⟨o,h1,h2,rfl⟩
def fX (t:eI):Nat:=1+t.bp.length
theorem z9 (a:AV) (l:List eI) (ids:List Id) (k:Int) (h0:0<=k) (Om:l.length<=1048576) (h1:k+(l.map fX).sum<=4611686018427387904) (σ:ax) (hv:∀i∈ids,i.cq<σ.next) (kN:ids.Nodup) (hg:fU nk 2 σ.get a l ids):
  Call Tryz.prog 80 [a,.int .i64 k] σ (fun r σ'=>r=.int .i64 (k+(l.map fX).sum)/\m4 σ ids σ'.get σ'.next):=by
 obtain⟨o,rows,is,rfl,ho,hR,rfl⟩:=hg
 refine eW dM rfl fun hl=>?_
 clear hl
 have sE:=hv o (by simp)
 have EJ:=gC fX l
 (try((repeat(revert hN;revert N;apply Pn.out));refine wk @Nat.zero_add ?_;(repeat(refine Pn.mk ?_;intro N hN))))
 refine aP (fun n env st=>∃j:Nat,n=(l.length)-j/\j<=(l.length)/\env 5=.int .i64 (j:Int)/\env 1=.int .i64 (k+eV fX l j)/\(m4 σ (o::is) st.get st.next/\∃pre rest ir,st.get o=some ⟨true,2,pre++rest⟩/\pre.length=j/\dw nk st.get rest (l.drop j) ir/\(o::ir).Nodup/\∀i∈ir,i∈is)) (l.length) ⟨0,ab,ab,sl (tw @Int.add_zero (tw @Int.natCast_zero @EJ)),sl (tw @Int.add_zero (tw @Int.natCast_zero @EJ)),by(try dsimp only);exact⟨⟨bt,fun x _ _=>rfl⟩,[],rows,is,ho,rfl,hR,kN,fun _ h=>h⟩⟩ ?_
 rintro n_a env_a st_a ⟨j,rfl,ale,a5,a1,jW⟩ dm
 have a0:=dm 0 (by kernel_rfl)
 simp only[go_sem, ↓reduceIte,Nat.reduceEqDiff,Nat.reduceAdd,Nat.reduceSub,Nat.reduceLeDiff,reduceCtorEq,Int.add_zero,Int.natCast_zero,EJ]at a0
 clear dm
 obtain⟨⟨an,aF⟩,pre,rest,ir,ag,apl,aR,aN,aS⟩:=jW
 by_cases hj:(j:Int)<(l.length:Int)
 ·have bD:∀{e:Env} {gg:Rows} {nx:Nat},(e 5=.int .i64 (IntKind.i64.wrap ((j:Int)+1)))->(e 1=.int .i64 (k+eV fX l (j+1)))->(m4 σ (o::is) gg nx/\∃pre rest ir,gg o=some ⟨true,2,pre++rest⟩/\pre.length=(j+1)/\dw nk gg rest (l.drop (j+1)) ir/\(o::ir).Nodup/\∀i∈ir,i∈is)->∃m0,m0<(l.length)-j/\∃j:Nat,m0=(l.length)-j/\j<=(l.length)/\e 5=.int .i64 (j:Int)/\e 1=.int .i64 (k+eV fX l j)/\(m4 σ (o::is) gg nx/\∃pre rest ir,gg o=some ⟨true,2,pre++rest⟩/\pre.length=j/\dw nk gg rest (l.drop j) ir/\(o::ir).Nodup/\∀i∈ir,i∈is):=fun x1 x2 x3=>⟨_,ab,j+1,rfl,ab,(by rw[x1,ay ab]),x2,x3⟩
  have gj:j<l.length:=ab
  have Ht:=mm fX gj
  have hle:=jA fX l (j+1)
  obtain⟨t,htj⟩:∃t,l[j]=t:=⟨_,rfl⟩
  rw[List.drop_eq_getElem_cons gj,htj]at aR
  rw[htj]at Ht
  cases aR with
  | @cons cs _ ic rs _ i2 hT Pr=>
  obtain⟨i,rfl,hi,rfl⟩:=hT
  rw[List.singleton_append]at aN aS
  obtain⟨n1,n2⟩:=List.nodup_cons.1 aN
  obtain⟨n3,n4⟩:=List.nodup_cons.1 n2
  have Ln:(o=i)=False:=eq_false fun e=>n1 (by simp[e])
  have Lk:(i=o)=False:=eq_false fun e=>n1 (by simp[e])
  have hiv:i.cq<σ.next:=hv i (by simp[aS i (by simp)])
  have PQ:fX t=1+t.bp.length:=rfl
  have ht:=uh (k+(eV fX l j:Nat)) ab ab
  have pv:IntKind.i64.wrap (k+(eV fX l j:Nat)+1)=k+(eV fX l j:Nat)+1:=aT ab
  generalize nK (k+(eV fX l j:Nat))=mt at ht
  have dR:(pre++[.str t.aB,.own i 0 t.bp.length]::rs)[j]? =some [.str t.aB,.own i 0 t.bp.length]:=by subst apl;simp
  have dP:(pre++[.str t.aB,.own i 0 t.bp.length]::rs).set j [.str mt,.own i 0 t.bp.length]=pre++[.str mt,.own i 0 t.bp.length]::rs:=by subst apl;simp
  have Lh:(pre++[.str mt,.own i 0 t.bp.length]::rs)[j]? =some [.str mt,.own i 0 t.bp.length]:=by subst apl;simp
  (repeat(first|((repeat(revert hN;revert N;apply Pn.out));refine wk (tw @a5 (tw @a1 (tw @a0 (tw @hj (tw @ag (tw @dR (tw @dP (tw @Lh (tw @pv (tw @Ln (tw @Lk @hi))))))))))) ?_;(repeat(refine Pn.mk ?_;intro N hN)))|((try apply Or.inl);refine⟨_,ae.x (ht) (sd (tw @a5 (tw @a1 (tw @a0 (tw @hj (tw @ag (tw @dR (tw @dP (tw @Lh (tw @pv (tw @Ln (tw @Lk @hi)))))))))))),?_⟩;refine hN _ _ ?_;clear hN N)))
  refine .inr (aO _ _ _ _ _ (fun r σ1 hq=>?_) (B7 i t.bp (k+(eV fX l j:Nat)+1) ab ab _ bt (sd (tw @Ln (tw @Lk @hi)))))
  obtain⟨g1,x1⟩:=σ1
  obtain⟨rfl,Dj,oj⟩:=hq
  (try dsimp only at Dj oj)
  refine hN _ _ ?_
  clear hN N
  have Oj:k+(eV fX l j:Nat)+1+t.bp.length=k+(eV fX l (j+1):Nat):=ab
  (try((repeat(revert hN;revert N;apply Pn.out));refine wk (tw @a5 (tw @a1 (tw @a0 @Oj))) ?_;(repeat(refine Pn.mk ?_;intro N hN))))
  have gk:∀x:Id,x.cq<σ.next->x≠o->x≠i->g1 x=st_a.get x:=fun x hx h3 h4=>by
   have h2:=oj x bt (by simp[h4])
   have h5:=eq_false h3
   simp only[go_sem, ↓reduceIte,Nat.reduceEqDiff,Nat.reduceAdd,Nat.reduceSub,Nat.reduceLeDiff,reduceCtorEq,h5]at h2
   exact h2
  have go:=oj o bt (by simp only[List.mem_singleton];exact fun e=>n1 (by simp[e]))
  simp only[go_sem, ↓reduceIte,Nat.reduceEqDiff,Nat.reduceAdd,Nat.reduceSub,Nat.reduceLeDiff,reduceCtorEq]at go
  refine bD ?_ ?_ (by(try dsimp only);exact⟨⟨bt,fun x hx hi=>by
   have h3:x≠o:=fun e=>hi (by simp[e])
   have h4:x≠i:=fun e=>hi (by simp[e,aS i (by simp)])
   rw[gk x hx h3 h4]
   exact aF x hx hi⟩,pre++[[.str mt,.own i 0 t.bp.length]],rs,i2,by rw[go];simp,by simp[apl],Pr.frame pG (fun x hx=>gk x (hv x (by simp[aS x (by simp[hx])])) (fun e=>n1 (by simp[<-e,hx])) (fun e=>n3 (by rw[<-e];exact hx))),List.nodup_cons.2 ⟨fun h=>n1 (by simp[h]),n4⟩,fun x hx=>aS x (by simp[hx])⟩)
  all_goals simp only[go_sem, ↓reduceIte,Nat.reduceEqDiff,Nat.reduceAdd,Nat.reduceSub,Nat.reduceLeDiff,reduceCtorEq,a5,a1,a0,Oj]
 ·have gj:j=l.length:=ab
  subst gj
  have dk:=qG fX l
  rw[dk]at a1
  (try((repeat(revert hN;revert N;apply Pn.out));refine wk (tw @a5 (tw @a1 (tw @a0 @hj))) ?_;(repeat(refine Pn.mk ?_;intro N hN))))
  exact gm (.inl rfl) (vs:=[.int .i64 (k+(l.map fX).sum)]) (sd (tw @a5 (tw @a1 @a0))) ⟨rfl,⟨bt,fun x hx hi=>aF x hx hi⟩⟩
theorem wG (v:AV) (p:dj) (ids:List Id) (k:Int) (h0:0<=k) (h1:k+3*p.ah.length<=4611686018427387904) (σ:ax) (hv:∀i∈ids,i.cq<σ.next) (hg:wT σ.get v p ids):
  Call Tryz.prog 17 [v,.int .i64 k] σ (fun r σ'=>r=.int .i64 (k+3*p.ah.length)/\m4 σ ids σ'.get σ'.next):=by
 obtain⟨c,rfl,hc⟩:=hg
 obtain⟨o,rfl,ho,rfl⟩:=hc.flat
 refine eW dM rfl fun hl=>?_
 clear hl
 have sE:=eO (hv o (by simp))
 have JT:=hv o (by simp)
 (try((repeat(revert hN;revert N;apply Pn.out));refine wk @Nat.zero_add ?_;(repeat(refine Pn.mk ?_;intro N hN))))
 refine .inr (aO _ _ _ _ _ (fun r σ1 hq=>?_) (xW o p.ah k h0 h1 _ bt (sd (tw @sE @ho))))
 obtain⟨g1,x1⟩:=σ1
 obtain⟨rfl,⟨Dj,oj⟩,_⟩:=hq
 (try dsimp only at Dj oj)
 refine hN _ _ ?_
 clear hN N
 (try((repeat(revert hN;revert N;apply Pn.out));refine wk @Nat.zero_add ?_;(repeat(refine Pn.mk ?_;intro N hN))))
 exact gm (.inl rfl) (vs:=[.int .i64 (k+3*p.ah.length)]) (sd @Nat.zero_add) ⟨rfl,⟨bt,fun x hx hi=>by
  have h2:=oj x bt hi
  have h3:=eO hx
  simp only[go_sem, ↓reduceIte,Nat.reduceEqDiff,Nat.reduceAdd,Nat.reduceSub,Nat.reduceLeDiff,reduceCtorEq,h3]at h2
  exact h2⟩⟩
def xU (s:cl):Nat:=2*s.aE.au.length+(s.aE.ah.map fX).sum+3*s.bZ.ah.length
theorem Fa (a b:AV) (p:aw) (i1 i2:List Id) (k:Int) (h0:0<=k) (Om:p.ah.length<=1048576) (h1:k+2*p.au.length+(p.ah.map fX).sum<=4611686018427387904) (σ:ax) (hv:∀i∈i1++i2,i.cq<σ.next) (kN:(i1++i2).Nodup)
  (hA:fU (jC bd) 2 σ.get a p.au i1) (hB:fU nk 2 σ.get b p.ah i2):
  Call Tryz.prog 47 [.agg [a,b],.int .i64 k] σ (fun r σ'=>r=.int .i64 (k+2*p.au.length+(p.ah.map fX).sum)/\m4 σ (i1++i2) σ'.get σ'.next):=by
 obtain⟨_,n2,n3⟩:=List.nodup_append.1 kN
 obtain⟨o,rfl,ho,rfl⟩:=hA.flat
 obtain⟨ob,rfl⟩:=hB.jP
 refine eW dM rfl fun hl=>?_
 clear hl
 have JT:=hv o (by simp)
 have sE:=eO JT
 (try((repeat(revert hN;revert N;apply Pn.out));refine wk @Nat.zero_add ?_;(repeat(refine Pn.mk ?_;intro N hN))))
 refine .inr (aO _ _ _ _ _ (fun r σ1 hq=>?_) (z8 o p.au k h0 ab _ bt (sd (tw @sE @ho))))
 obtain⟨g1,x1⟩:=σ1
 obtain⟨rfl,Dj,oj⟩:=hq
 (try dsimp only at Dj oj)
 refine hN _ _ ?_
 clear hN N
 have k1:=oj ⟨47000000,σ.next⟩ bt (by simp only[List.mem_singleton];intro e;rw[<-e]at JT;(try dsimp only at JT);omega)
 simp only[go_sem, ↓reduceIte,Nat.reduceEqDiff,Nat.reduceAdd,Nat.reduceSub,Nat.reduceLeDiff,reduceCtorEq]at k1
 (try((repeat(revert hN;revert N;apply Pn.out));refine wk @k1 ?_;(repeat(refine Pn.mk ?_;intro N hN))))
 have hf:∀x:Id,x.cq<σ.next->x≠o->g1 x=σ.get x:=fun x hx ho=>by
  have h2:=oj x bt (by simp[ho])
  have h3:=eO hx
  simp only[go_sem, ↓reduceIte,Nat.reduceEqDiff,Nat.reduceAdd,Nat.reduceSub,Nat.reduceLeDiff,reduceCtorEq,h3]at h2
  exact h2
 refine .inr (aO _ _ _ _ _ (fun r σ2 hq=>?_) (z9 _ p.ah i2 (k+2*p.au.length) ab Om h1 _ (fun i hi=>by have:=hv i (by simp[hi]);(try dsimp only);omega) n2 (hB.frame pG fun i hi=>hf i (hv i (by simp[hi])) fun e=>n3 o (by simp) i hi e.symm)))
 obtain⟨g2,x2⟩:=σ2
 obtain⟨rfl,MR,AK⟩:=hq
 (try dsimp only at MR AK)
 refine hN _ _ ?_
 clear hN N
 (try((repeat(revert hN;revert N;apply Pn.out));refine wk @Nat.zero_add ?_;(repeat(refine Pn.mk ?_;intro N hN))))
 exact gm (.inl rfl) (vs:=[.int .i64 (k+2*p.au.length+(p.ah.map fX).sum)]) (sd @Nat.zero_add) ⟨rfl,⟨bt,fun x hx hi=>(AK x bt fun h=>hi (by simp[h])).trans (hf x hx fun e=>hi (by simp[e]))⟩⟩
theorem Fb (v:AV) (p:cl) (ids:List Id) (k:Int) (h0:0<=k) (Om:p.aE.ah.length<=1048576) (h1:k+xU p<=4611686018427387904) (σ:ax) (hv:∀i∈ids,i.cq<σ.next) (kN:ids.Nodup) (hg:yP σ.get v p ids):
  Call Tryz.prog 16 [v,.int .i64 k] σ (fun r σ'=>r=.int .i64 (k+xU p)/\m4 σ ids σ'.get σ'.next):=by
 obtain⟨a,b,c,i1,i2,i3,rfl,hA,hB,hC,rfl⟩:=hg.ex
 rw[<-List.append_assoc]at kN
 obtain⟨n1,_,n3⟩:=List.nodup_append.1 kN
 obtain⟨oa,rfl⟩:=hA.jP
 obtain⟨ob,rfl⟩:=hB.jP
 obtain⟨oc,rfl⟩:=hC.jP
 have hm:(xU p:Int)=2*p.aE.au.length+(p.aE.ah.map fX).sum+3*p.bZ.ah.length:=by simp[xU]
 refine eW dM rfl fun hl=>?_
 clear hl
 have RD:∀x∈i1++(i2++i3),bY σ.get ⟨16000000,σ.next⟩ ⟨true,4,[[.own oa 0 p.aE.au.length,.own ob 0 p.aE.ah.length,.own oc 0 p.bZ.ah.length,.int .i64 p.aH]]⟩ x=σ.get x:=fun x hx=>by
  have:=eO (hv x hx)
  simp only[go_sem, ↓reduceIte,Nat.reduceEqDiff,Nat.reduceAdd,Nat.reduceSub,Nat.reduceLeDiff,reduceCtorEq,this]
 (try((repeat(revert hN;revert N;apply Pn.out));refine wk @Nat.zero_add ?_;(repeat(refine Pn.mk ?_;intro N hN))))
 refine .inr (aO _ _ _ _ _ (fun r σ1 hq=>?_) (Fa _ _ p.aE i1 i2 k h0 Om ab _ (fun i hi=>by have:=hv i (by rcases List.mem_append.1 hi with h|h<;>simp[h]);(try dsimp only);omega) n1 (hA.frame zu fun i hi=>RD i (by simp[hi])) (hB.frame pG fun i hi=>RD i (by simp[hi]))))
 obtain⟨g1,x1⟩:=σ1
 obtain⟨rfl,Dj,oj⟩:=hq
 (try dsimp only at Dj oj)
 refine hN _ _ ?_
 clear hN N
 have k1:=oj ⟨16000000,σ.next⟩ bt (fun h=>by
  have:=hv ⟨16000000,σ.next⟩ (by rcases List.mem_append.1 h with h|h<;>simp[h])
  (try dsimp only at this);omega)
 simp only[go_sem, ↓reduceIte,Nat.reduceEqDiff,Nat.reduceAdd,Nat.reduceSub,Nat.reduceLeDiff,reduceCtorEq]at k1
 (try((repeat(revert hN;revert N;apply Pn.out));refine wk @k1 ?_;(repeat(refine Pn.mk ?_;intro N hN))))
 refine .inr (aO _ _ _ _ _ (fun r σ2 hq=>?_) (wG _ p.bZ i3 (k+2*p.aE.au.length+(p.aE.ah.map fX).sum) ab ab _ (fun i hi=>by have:=hv i (by simp[hi]);(try dsimp only);omega) ⟨_,rfl,hC.frame vZ fun i hi=>?_⟩))
 rotate_left
 ·exact(oj i (by have:=hv i (by simp[hi]);(try dsimp only);omega) fun h=>n3 i h i hi rfl).trans (RD i (by simp[hi]))
 obtain⟨g2,x2⟩:=σ2
 obtain⟨rfl,MR,AK⟩:=hq
 (try dsimp only at MR AK)
 refine hN _ _ ?_
 clear hN N
 (try((repeat(revert hN;revert N;apply Pn.out));refine wk @Nat.zero_add ?_;(repeat(refine Pn.mk ?_;intro N hN))))
 exact gm (.inl rfl) (vs:=[.int .i64 (k+2*p.aE.au.length+(p.aE.ah.map fX).sum+3*p.bZ.ah.length)]) (sd @Nat.zero_add) ⟨by rw[hm];exact congrArg (AV.int .i64) ab,⟨bt,fun x hx hi=>by
  have h2:=AK x bt fun h=>hi (by simp[h])
  have h3:=oj x bt fun h=>hi (by rcases List.mem_append.1 h with h|h<;>simp[h])
  have h4:=eO hx
  simp only[go_sem, ↓reduceIte,Nat.reduceEqDiff,Nat.reduceAdd,Nat.reduceSub,Nat.reduceLeDiff,reduceCtorEq,h4]at h3
  exact h2.trans h3⟩⟩
end Go.Proofs.YtihgaadadaekmaaGreatDoor.V

namespace Go.Proofs.YtihgaadadaekmaaGreatDoor.V
open Go.RowKit
def AV.clean:AV->Bool
 | .int .. | .bool _| .str _| .bK| .gG| .iY| .jj| .own .. | .ptr .. | .map .. | .rf _=>true
 | .sl l=>l.isEmpty
 |_=>false
def AV.rh:AV->Bool
 | .agg cs=>cs.all AV.clean
 | .iL cs=>cs.all fun a=>match a with
  | .agg cs=>cs.all AV.clean
  |a=>a.clean
 |a=>a.clean
def wQ (ids:List Id) (g g':Rows):Rows:=fun id=>if id∈ids then g' id else g id
theorem uK {ids:List Id} {g g':Rows} {id:Id} (h:id∈ids):wQ ids g g' id=g' id:=if_pos h
theorem rN {ids:List Id} {g g':Rows} {id:Id} (h:id∉ids):wQ ids g g' id=g id:=if_neg h
section
variable {P:Program} {w w':World} {D D' D1 D2:Nat->Prop} {ι ι1 ι2:Names}
theorem jt {a:AV} {v:Value} (hp:a.clean=true) (h:cG P w D1 ι1 a v):cG P w D2 ι1 a v:=by
 cases h with
 |eJ a v h=>
  cases h with
  |int=>exact .eJ _ _ (.int _ _)
  |bool=>exact .eJ _ _ (.bool _)
  |str=>exact .eJ _ _ (.str _)
  |bK=>exact .eJ _ _ .bK
  |gG=>exact .eJ _ _ .gG
  |iY=>exact .eJ _ _ .iY
  |jj=>exact .eJ _ _ .jj
  |AM a c h=>exact .eJ _ _ (.AM a c h)
  |sl rows b o n c sz vs h1 h2 h3=>
   have:rows=[]:=by simpa[AV.clean]using hp
   subst this
   simp only[List.length_nil]at h1
   subst h1
   exact .eJ _ _ (.AM _ _ h3)
  |cJ=>simp[AV.clean]at hp
  |agg=>simp[AV.clean]at hp
  |fn=>simp[AV.clean]at hp
 |own id off len o cap B h1 h2 h3 h4 h5 h6=>exact .own id off len o cap B h1 h2 h3 h4 h5 h6
 |map id m B h1 h2=>exact .map id m B h1 h2
 |rf id c B h1 h2=>exact .rf id c B h1 h2
 |ptr id i off B h1 h2=>exact .ptr id i off B h1 h2
 |agg=>simp[AV.clean]at hp
 |iL=>simp[AV.clean]at hp
 |fn=>simp[AV.clean]at hp
 |uT=>simp[AV.clean]at hp
theorem lh {cs:List AV} {v:Value} (hc:cs.all AV.clean=true) (h:cG P w D1 ι1 (.agg cs) v):cG P w D2 ι1 (.agg cs) v:=by
 obtain⟨vs,f,rfl,h1,h2,h3,h4⟩:=iu h
 rw[List.all_eq_true]at hc
 exact .agg cs vs f h1 h2 h3 fun j a ha=>jt (hc a (List.mem_of_getElem? ha)) (h4 j a ha)
theorem Ck {a:AV} {v:Value} (hp:a.rh=true) (h:cG P w D1 ι1 a v):cG P w D2 ι1 a v:=by
 cases a with
 |agg cs=>exact lh hp h
 |iL cs=>
  obtain⟨vs,f,rfl,h1,h3,h4⟩:=sZ h
  simp only[AV.rh,List.all_eq_true]at hp
  refine .iL cs vs f h1 h3 fun j a ha=>?_
  have:=hp a (List.mem_of_getElem? ha)
  split at this
  ·exact lh this (h4 j _ ha)
  ·exact jt this (h4 j _ ha)
 |_=>exact jt hp h
theorem Ci {ag:Bool} {n:Nat} {cs:List AV} {x:AV} {v:Value} (hc:∀a∈cs,a.clean=true) (hp:part ag n cs=some x) (hr:cG P w D1 ι1 x v):cG P w D2 ι1 x v:=by
 unfold part at hp
 split at hp
 ·split at hp
  ·simp only[Option.some.injEq]at hp;subst hp
   exact lh (List.all_eq_true.2 fun a ha=>hc a (List.mem_of_mem_take ha)) hr
  ·cases hp
 ·exact jt (hc x (List.mem_of_mem_head? hp)) hr
theorem ij.clean {B:rR} {r:Row} (R:ij P w D1 ι1 B r) (h:∀cs∈r.rows,∀a∈cs,a.clean=true):ij P w D2 ι1 B r:=
 ⟨R.sz,R.flat,fun hk=>⟨R.sz,(R.row hk).D9,(R.row hk).fits,(R.row hk).len,R.flat,fun i j cs a hi hj=>by
  obtain⟨v,q1,q2⟩:=(R.row hk).at_ i j cs a hi hj
  exact⟨v,q1,jt (h cs (List.mem_of_getElem? hi) a (List.mem_of_getElem? hj)) q2⟩⟩,fun m hm=>by
  obtain⟨h1,es,c,h2,h3,h5,h4⟩:=R.map m hm
  refine⟨h1,es,c,h2,h3,h5,fun i cs hi=>?_⟩
  obtain⟨e,kv,vv,q1,q2,q3,q4,q5⟩:=h4 i cs hi
  have hc:=h cs (List.mem_of_getElem? hi)
  exact⟨e,kv,vv,q1,q2,q3,Ci hc q2 q4,jt (hc vv (List.mem_of_getElem? q3)) q5⟩,fun c hc=>by
  obtain⟨h1,buf,s,q,h2,h3,h4⟩:=R.chan c hc
  refine⟨h1,buf,s,q,h2,h3,fun i cs hi=>?_⟩
  obtain⟨a,u,rfl,q2,q3⟩:=h4 i cs hi
  exact⟨a,u,rfl,q2,jt (h [a] (List.mem_of_getElem? hi) a (by simp)) q3⟩⟩
def Handed (ids:List Id) (g:Rows):Prop:=∀id∈ids,∃r,g id=some r/\r.w=true/\∀cs∈r.rows,∀a∈cs,a.clean=true
theorem FP {f:Nat} {args eS:List AV} {g:Rows} {n:Nat} {K:AV->ax->Prop} (hv:cm (dE g) 6 args=some eS)
  (h:Sound P f eS ⟨fun _=>none,n⟩ fun r σ'=>∃ids,r.rh=true/\Handed ids σ'.get/\K r ⟨wQ ids g σ'.get,σ'.next⟩):Sound P f args ⟨g,n⟩ K:=by
 intro hs D ι w vs S U A
 let E:Nat->Prop:=fun b=>D b∨∃id r B,g id=some r/\ι id=some B/\b=B.b
 have lt:∀id r B,g id=some r->ι id=some B->B.b<w.heap.size:=fun id r B h1 h2=>by
  obtain⟨B',dx,R,_⟩:=S.row id r h1
  rw[h2]at dx;injection dx with dx;subst dx
  exact R.lt
 have S0:fZ P w.heap.size E ι (fun _=>none) w:=⟨Nat.le_refl _,fun b hb=>by
  rcases hb with hb|⟨id,r,B,h1,h2,rfl⟩
  ·exact S.dead b hb
  ·exact lt id r B h1 h2,fun id r h=>(by cases h),fun id kg r r' B B' h=>(by cases h)⟩
 obtain⟨l1,l2⟩:=fV hv
 have A':e8 P w E ι eS vs:=⟨by rw[A.1,l1],fun j a hj=>by
  obtain⟨a0,kH,hz⟩:=l2 j a hj
  obtain⟨u,hu,hr⟩:=A.2 j a0 kH
  refine⟨u,hu,(qb (D2:=E) (ι2:=ι) (fun b h=>.inl h) (fun id row hg hw=>?_) 6 a0 u a hr hz).1⟩
  unfold dE at hg
  simp only[Option.map_eq_some_iff]at hg
  obtain⟨r,m3,rfl⟩:=hg
  obtain⟨B,hB,R,_,_⟩:=S.row id r m3
  exact⟨B,hB,R.flag true,.inr ⟨id,r,B,m3,hB,rfl⟩⟩⟩
 refine(h w.heap.size E ι w vs S0 U A').mono ?_
 rintro e w' ⟨r0,g',n',D2,ι1,u,rfl,⟨ids,lq,hid,hK⟩,T,S1,U1,hn,hR⟩
 have hb:∀b,b<w.heap.size->w'.heap[b]? =w.heap[b]? :=T.below.block
 have hz:=T.below.size
 have frame:∀{a v},cG P w D ι a v->cG P w' D ι1 a v:=fun h=>h.frame (fun b hd=>hb b (S.dead b hd)) (fun _ h=>h) T.names
 refine⟨r0,_,n',D,ι1,u,rfl,hK,⟨T.below.mono S.lo,fun b hd=>hb b (S.dead b hd),fun _ h=>h,T.names,fun _ h=>.inl h⟩,⟨Nat.le_trans S.lo hz,fun b hd=>Nat.lt_of_lt_of_le (S.dead b hd) hz,fun id r hr=>?_,fun Qe id2 r1 r2 B1 B2 h1 h2 hw yF oE Lc=>?_⟩,U1,hn,Ck lq hR⟩
 ·by_cases hi:id∈ids
  ·rw[uK hi]at hr
   obtain⟨r',m3,hw,hcr⟩:=hid id hi
   rw[hr]at m3;injection m3 with m3;subst m3
   obtain⟨B,hB,R,k1,k2⟩:=S1.row id r hr
   have jS:=k1 hw
   exact⟨B,hB,R.clean hcr,fun _=>Nat.le_trans S.lo jS,fun _ hd=>Nat.lt_irrefl _ (Nat.lt_of_lt_of_le (S.dead _ hd) jS)⟩
  ·rw[rN hi]at hr
   obtain⟨B,hB,R,k1,k2⟩:=S.row id r hr
   have Mo:=lt id r B hr hB
   exact⟨B,T.names _ _ hB,R.frame (hb _ Mo) fun a v h=>frame h,k1,k2⟩
 ·have new:∀{id r B},id∈ids->wQ ids g g' id=some r->ι1 id=some B->w.heap.size<=B.b/\g' id=some r/\r.w=true:=fun {id r B} hi hr hB=>by
   rw[uK hi]at hr
   obtain⟨r',m3,hw,_⟩:=hid id hi
   replace m3:g' id=some r':=m3
   rw[hr]at m3;injection m3 with m3;subst m3
   obtain⟨B',dx,_,k1,_⟩:=S1.row id r hr
   rw[hB]at dx;injection dx with dx;subst dx
   exact⟨k1 hw,hr,hw⟩
  have Ai:∀{id r B},id∉ids->wQ ids g g' id=some r->ι1 id=some B->B.b<w.heap.size/\g id=some r/\ι id=some B:=fun {id r B} hi hr hB=>by
   rw[rN hi]at hr
   obtain⟨B',dx,_⟩:=S.row id r hr
   have:=T.names _ _ dx
   rw[hB]at this;injection this with this;subst this
   exact⟨lt id r _ hr dx,hr,dx⟩
  by_cases i1:Qe∈ids
  ·obtain⟨a1,a2,a3⟩:=new i1 h1 yF
   by_cases i2:id2∈ids
   ·obtain⟨b1,b2,b3⟩:=new i2 h2 oE
    exact S1.inj Qe id2 r1 r2 B1 B2 a2 b2 hw yF oE Lc
   ·obtain⟨b1,_⟩:=Ai i2 h2 oE
    omega
  ·obtain⟨a1,a2,a3⟩:=Ai i1 h1 yF
   by_cases i2:id2∈ids
   ·obtain⟨b1,_⟩:=new i2 h2 oE
    omega
   ·obtain⟨b1,b2,b3⟩:=Ai i2 h2 oE
    exact S.inj Qe id2 r1 r2 B1 B2 a2 b2 hw a3 b3 Lc
theorem Gb (hm:P.follows .mixedOrders=true) {f:Nat} {args eS:List AV} {σ:ax} {K:AV->ax->Prop} (hv:cm (dE σ.get) 6 args=some eS)
  (h:Call P f eS ⟨fun _=>none,σ.next⟩ fun r σ'=>∃ids,r.rh=true/\Handed ids σ'.get/\K r ⟨wQ ids σ.get σ'.get,σ'.next⟩):Call P f args σ K:=
 iv (FP hv (gN hm h))
end
inductive oX:List AV->List AV->Prop
 |nil:oX [] []
 |same (a) {l l'}:oX l l'->oX (a::l) (a::l')
 |ptr (cs rest) {l l'}:oX l l'->oX (.cJ (cs++rest)::l) (.cJ cs::l')
 |bK {l l'}:oX l l'->oX (.bK::l) (.sl []::l')
theorem KH {P:Program} {w:World} {D:Nat->Prop} {ι:Names} {cs rest:List AV} {v:Value} (h:cG P w D ι (.cJ (cs++rest)) v):cG P w D ι (.cJ cs) v:=by
 obtain⟨b,o,vs,rfl,h1,h2,h3,h4⟩:=kq h
 exact .eJ _ _ (.cJ cs b o vs h1 (fun a ha=>h2 a (List.mem_append_left _ ha)) (fun j hj=>h3 j (by rw[List.length_append];omega)) fun j a ha=>h4 j a (by
  have:=(List.getElem?_eq_some_iff.1 ha).1
  rw[List.getElem?_append_left this];exact ha))
theorem KK {P:Program} {w:World} {D:Nat->Prop} {ι:Names} {v:Value} (h:cG P w D ι .bK v):cG P w D ι (.sl []) v:=by
 cases h with
 |eJ _ _ h=>
  cases h with
  |bK=>exact .eJ _ _ (.AM none 0 (Nat.zero_le _))
theorem oX.len {l l':List AV} (h:oX l l'):l'.length=l.length:=by induction h<;>simp_all
theorem oX.get {P:Program} {w:World} {D:Nat->Prop} {ι:Names} {l l':List AV} (h:oX l l'):∀{j:Nat} {a':AV},l'[j]? =some a'->∃a,l[j]? =some a/\∀v,cG P w D ι a v->cG P w D ι a' v:=by
 induction h with
 |nil=>intro j a' hj;simp at hj
 |same a _ ih=>
  intro j a' hj
  cases j with
  |zero=>simp at hj;subst hj;exact⟨a,rfl,fun _ h=>h⟩
  |succ j=>exact ih (by simpa using hj)
 |ptr cs rest _ ih=>
  intro j a' hj
  cases j with
  |zero=>simp at hj;subst hj;exact⟨_,rfl,fun _ h=>KH h⟩
  |succ j=>exact ih (by simpa using hj)
 |bK _ ih=>
  intro j a' hj
  cases j with
  |zero=>simp at hj;subst hj;exact⟨_,rfl,fun _ h=>KK h⟩
  |succ j=>exact ih (by simpa using hj)
theorem Call.cut {P:Program} (hm:P.follows .mixedOrders=true) {f:Nat} {args eS:List AV} {σ:ax} {K:AV->ax->Prop} (hc:oX args eS) (h:Call P f eS σ K):Call P f args σ K:=
 iv fun hs D ι w vs S U A=>gN hm h hs D ι w vs S U ⟨by rw[A.1,hc.len],fun j a' hj=>by
  obtain⟨a,ha,hr⟩:=hc.get (P:=P) (w:=w) (D:=D) (ι:=ι) hj
  obtain⟨u,hu,hv⟩:=A.2 j a ha
  exact⟨u,hu,hr u hv⟩⟩
theorem ae.cut {P:Program} (hm:P.follows .mixedOrders=true) {f:Nat} {args eS:List AV} {r:AV} (hc:oX args eS) (h:ae P f eS r):ae P f args r:=fun n=>(h n).cut hm hc
end Go.Proofs.YtihgaadadaekmaaGreatDoor.V

namespace Go.Proofs.YtihgaadadaekmaaGreatDoor.V
open Go.RowKit
attribute [local irreducible] ea wpOps gR Call
attribute [local go_sem] aM fP eL gh ga cE upd cu K.av cL AV.cells AV.cell rowOf rowsOf part ld rowAt bY ck dI ef ig bL da ez gn e7 du ek cY cX dV dW bR bm cQ bQ cT cR ei eo ej cP bW cZ eh bP aQ cV cC ib bw cH bS aY dF bu dK AV.undef bF bH dY ee dU eb cF ew eD cw eu er cU cW List.getD_cons_zero List.getD_cons_succ List.getD_nil List.all_cons List.all_nil Bool.and_true Bool.true_and Bool.and_self Bool.not_true Bool.not_false Option.map_some Option.map_none Option.bind_some Option.bind_none List.length_cons List.length_nil List.take_succ_cons List.take_zero List.take_nil List.drop_succ_cons List.drop_zero List.drop_nil List.head?_cons List.map_cons List.map_nil List.getElem?_cons_zero List.getElem?_cons_succ List.cons_append List.nil_append List.append_nil List.length_map List.set_cons_zero List.set_cons_succ eq_self Int.toNat_natCast Int.natCast_nonneg and_self true_and and_true decide_true decide_false Bool.false_eq_true Nat.zero_add Nat.add_zero List.contains_cons List.contains_nil Bool.or_false Bool.false_or beq_self_eq_true ne_eq not_true_eq_false not_false_eq_true Id.mk.injEq false_and and_false Nat.le_refl List.length_append beq_true beq_false Bool.not_eq_eq_eq_not or_false false_or dE ad aj aI bE cj aW bf aV bo cN bG
section
variable {P:Program} {α:Type} {e:α->List AV} {z:Nat} {g g':Rows} {v:AV} {L:List α} {ids:List Id}
def oY (e:α->List AV) (z:Nat) (g:Rows) (v:AV) (L:List α) (ids:List Id):Prop:=(L=[]/\v=.bK/\ids=[])∨∃o,v=.own o 0 L.length/\g o=some ⟨true,z,L.map e⟩/\ids=[o]/\0<L.length
def Ni (e:α->List AV) (L:List α):AV:=if L.length=0 then .bK else .sl (L.map e)
theorem oY.frame (h:oY e z g v L ids) (hf:∀i∈ids,g' i=g i):oY e z g' v L ids:=by
 rcases h with h|⟨o,h1,h2,rfl,hp⟩
 ·exact .inl h
 ·exact .inr ⟨o,h1,(hf o (by simp)).trans h2,rfl,hp⟩
def mD (e:α->List AV) (L:List α) (w:AV):Prop:=(w=.bK/\L=[])∨w=.sl (L.map e)
def Ro (P:Program) (f:Nat) (args:List AV) (e:α->List AV) (z:Nat) (L:List α) (c:Int):Prop:=
 ∀n:Nat,Call P f args ⟨fun _=>none,n⟩ (fun r σ'=>∃v ids,r=.iL [v,.int .i64 c]/\oY e z σ'.get v L ids/\eM n σ'.next ids)
theorem DT (hm:P.follows .mixedOrders=true) {f:Nat} {args:List AV} {σ:ax} {K:AV->ax->Prop} (h:Call P f args σ K):Call P f args σ (fun r σ'=>K r σ'/\σ.next<=σ'.next):=
 iv fun hs D ι w vs S U A=>(gN hm h hs D ι w vs S U A).mono (by
  rintro e w' ⟨r,g',n',D2,ι1,u,rfl,hK,T,S1,U1,hn,hR⟩
  exact⟨r,g',n',D2,ι1,u,rfl,⟨hK,hn⟩,T,S1,U1,hn,hR⟩)
theorem HY:mD e L (Ni e L):=by
 unfold Ni
 split
 ·rename_i h;exact .inl ⟨rfl,List.eq_nil_of_length_eq_zero h⟩
 ·exact .inr rfl
end
theorem mD.cut {α:Type} {e:α->List AV} {L:List α} {w:AV} (h:mD e L w) {l l':List AV} (hl:oX l l'):oX (w::l) (.sl (L.map e)::l'):=by
 rcases h with⟨rfl,rfl⟩|rfl
 ·exact .bK hl
 ·exact .same _ hl
end Go.Proofs.YtihgaadadaekmaaGreatDoor.V

namespace Go.Proofs.YtihgaadadaekmaaGreatDoor.V
open Go.RowKit
attribute [local irreducible] ea wpOps gR Call
attribute [local go_sem] aM fP eL gh ga cE upd cu K.av cL AV.cells AV.cell rowOf rowsOf part ld rowAt bY ck dI ef ig bL da ez gn e7 du ek cY cX dV dW bR bm cQ bQ cT cR ei eo ej cP bW cZ eh bP aQ cV cC ib bw cH bS aY dF bu dK AV.undef bF bH dY ee dU eb cF ew eD cw eu er cU cW List.getD_cons_zero List.getD_cons_succ List.getD_nil List.all_cons List.all_nil Bool.and_true Bool.true_and Bool.and_self Bool.not_true Bool.not_false Option.map_some Option.map_none Option.bind_some Option.bind_none List.length_cons List.length_nil List.take_succ_cons List.take_zero List.take_nil List.drop_succ_cons List.drop_zero List.drop_nil List.head?_cons List.map_cons List.map_nil List.getElem?_cons_zero List.getElem?_cons_succ List.cons_append List.nil_append List.append_nil List.length_map List.set_cons_zero List.set_cons_succ Nat.reduceMul eq_self Int.toNat_natCast Int.natCast_nonneg and_self true_and and_true decide_true decide_false Bool.false_eq_true Nat.zero_add Nat.add_zero List.contains_cons List.contains_nil Bool.or_false Bool.false_or beq_self_eq_true Nat.reduceBEq ne_eq not_true_eq_false not_false_eq_true Id.mk.injEq false_and and_false Nat.reduceLT Int.reduceLE Int.reduceLT Int.reduceToNat Int.reduceNeg Int.reduceAdd Nat.le_refl List.length_append beq_true beq_false Bool.not_eq_eq_eq_not or_false false_or dE ad aj aI bE cj aW bf aV bo cN bG
end Go.Proofs.YtihgaadadaekmaaGreatDoor.V

namespace Go.Proofs.YtihgaadadaekmaaGreatDoor.V
open Go.RowKit
variable {P:Program}
theorem M8 (hm:P.follows .mixedOrders=true) {f:Nat} {args:List AV} {vs:Array Value} {w:World} (h:ae P f args (.bool true)) (hA:e8 P w (fun b=>b<w.heap.size) (fun _=>none) args vs):
  Calls P f vs w fun e w'=>e=.returned (.bool true)/\Below w.heap.size w w':=by
 have hs:=gN hm (h 0) w.heap.size (fun b=>b<w.heap.size) (fun _=>none) w vs ⟨Nat.le_refl _,fun _ h=>h,fun id r h=>(by cases h),fun id kg r r' B B' h=>(by cases h)⟩ (fun id h=>absurd rfl h) hA
 refine hs.mono ?_
 rintro e w' ⟨r,g',n',D',ι',u,rfl,⟨r',hz,rfl⟩,ev,hsim,_,_,gF⟩
 have hr:r=.bool true:=by
  cases r<;>rw[fC]at hz<;>simp_all
  all_goals (repeat' (split at hz))<;>simp_all
 subst hr
 exact⟨by rw[eQ gF],ev.below⟩
theorem kp {xs:List AV} {w:World} {D:Nat->Prop} {ι:Names} {a:AV} {v:Value} {vs:Array Value} (h:je P w D a v) (k:e8 P w D ι xs vs):e8 P w D ι (a::xs) (#[v]++vs):=
 nR (xs:=[a]) ⟨rfl,fun j b hj=>by
  cases j with
  |zero=>simp at hj;subst hj;exact⟨v,rfl,.eJ _ _ h⟩
  |succ j=>simp at hj⟩ k
end Go.Proofs.YtihgaadadaekmaaGreatDoor.V

namespace Go.Proofs.YtihgaadadaekmaaGreatDoor.V
open Go.RowKit
attribute [local irreducible] ea wpOps gR Call
attribute [local go_sem] aM fP eL gh ga cE upd cu K.av cL AV.cells AV.cell rowOf rowsOf part ld rowAt bY ck dI ef ig bL da ez gn e7 du ek cY cX dV dW bR bm cQ bQ cT cR ei eo ej cP bW cZ eh bP aQ cV cC ib bw cH bS aY dF bu dK AV.undef bF bH dY ee dU eb cF ew eD cw eu er cU cW List.getD_cons_zero List.getD_cons_succ List.getD_nil List.all_cons List.all_nil Bool.and_true Bool.true_and Bool.and_self Bool.not_true Bool.not_false Option.map_some Option.map_none Option.bind_some Option.bind_none List.length_cons List.length_nil List.take_succ_cons List.take_zero List.take_nil List.drop_succ_cons List.drop_zero List.drop_nil List.head?_cons List.map_cons List.map_nil List.getElem?_cons_zero List.getElem?_cons_succ List.cons_append List.nil_append List.append_nil List.length_map List.set_cons_zero List.set_cons_succ Nat.reduceMul eq_self Int.toNat_natCast Int.natCast_nonneg and_self true_and and_true decide_true decide_false Bool.false_eq_true Nat.zero_add Nat.add_zero List.contains_cons List.contains_nil Bool.or_false Bool.false_or beq_self_eq_true Nat.reduceBEq ne_eq not_true_eq_false not_false_eq_true Id.mk.injEq false_and and_false Nat.reduceLT Int.reduceLE Int.reduceLT Int.reduceToNat Int.reduceNeg Int.reduceAdd Nat.le_refl List.length_append beq_true beq_false Bool.not_eq_eq_eq_not or_false false_or dE ad aj aI bE cj aW bf aV bo cN bG
theorem Ir {α:Type} (f:α->Nat) {xs:List α} {x:α} (h:x∈xs):f x<=(xs.map f).sum:=by
 induction xs with
 |nil=>cases h
 |cons y ys ih=>
  simp only[List.map_cons,List.sum_cons]
  rcases List.mem_cons.1 h with rfl|h
  ·omega
  ·have:=ih h;omega
theorem FA {s:cl} (h:qP s<=1048576):pS s:=by
 unfold qP sI at h
 refine⟨⟨ab,ab,fun t ht=>?_⟩,ab⟩
 have:=Ir jV ht
 have h2:t.bp.length<=jV t:=by unfold jV;omega
 unfold qV
 omega
theorem xk (a:dj):ae Tryz.prog 15 [.agg (aD a),.agg (aD a)] (.bool true):=by
 refine ae.body dM rfl fun hl n0=>?_
 clear hl
 have h1:=rX a.ah a.ah
 rw[decide_eq_true rfl]at h1
 (repeat(first|((repeat(revert hN;revert N;apply Pn.out));refine wk @aD.eq_1 ?_;(repeat(refine Pn.mk ?_;intro N hN)))|((try apply Or.inl);refine⟨_,ae.x (h1) (sd @aD.eq_1),?_⟩;refine hN _ _ ?_;clear hN N)))
 exact aC (b:=true) (.inl rfl) (sd @Nat.zero_add) rfl
end Go.Proofs.YtihgaadadaekmaaGreatDoor.V

namespace Go.Proofs.YtihgaadadaekmaaGreatDoor.V
open Go.RowKit
attribute [local irreducible] ea wpOps gR Call
attribute [local go_sem] aM fP eL gh ga cE upd cu K.av cL AV.cells AV.cell rowOf rowsOf part ld rowAt bY ck dI ef ig bL da ez gn e7 du ek cY cX dV dW bR bm cQ bQ cT cR ei eo ej cP bW cZ eh bP aQ cV cC ib bw cH bS aY dF bu dK AV.undef bF bH dY ee dU eb cF ew eD cw eu er cU cW List.getD_cons_zero List.getD_cons_succ List.getD_nil List.all_cons List.all_nil Bool.and_true Bool.true_and Bool.and_self Bool.not_true Bool.not_false Option.map_some Option.map_none Option.bind_some Option.bind_none List.length_cons List.length_nil List.take_succ_cons List.take_zero List.take_nil List.drop_succ_cons List.drop_zero List.drop_nil List.head?_cons List.map_cons List.map_nil List.getElem?_cons_zero List.getElem?_cons_succ List.cons_append List.nil_append List.append_nil List.length_map List.set_cons_zero List.set_cons_succ eq_self Int.toNat_natCast Int.natCast_nonneg and_self true_and and_true decide_true decide_false Bool.false_eq_true Nat.zero_add Nat.add_zero List.contains_cons List.contains_nil Bool.or_false Bool.false_or beq_self_eq_true ne_eq not_true_eq_false not_false_eq_true Id.mk.injEq false_and and_false Nat.le_refl List.length_append beq_true beq_false Bool.not_eq_eq_eq_not or_false false_or dE ad aj aI bE cj aW bf aV bo cN bG
theorem KP {g:Rows} {v w:AV} {s:cl} {i:List Id} (hX:yP g v s i) (hw:fz (dE g) 6 w=some w):cm (dE g) 6 [v,w]=some [.agg (az s),w]:=by
 simp only[ad,aj,hX.fz 1,hw,Option.map_some]
theorem Jh {g:Rows} {v w:AV} {s:dj} {i:List Id} (hX:wT g v s i) (hw:fz (dE g) 6 w=some w):cm (dE g) 6 [v,w]=some [.agg (aD s),w]:=by
 simp only[ad,aj,hX.fz 2,hw,Option.map_some]
theorem CZ (g:Rows) (s:cl):fz g 6 (.agg (az s))=some (.agg (az s)):=by simp[az,bf,ad,aj,cj,aI]
theorem CX (g:Rows) (s:dj):fz g 6 (.agg (aD s))=some (.agg (aD s)):=by simp[aD,bf,ad,aj,cj]
theorem uM {g:Rows} {v w v' w':AV} (h1:fz g 6 v=some v') (h2:fz g 6 w=some w'):cm g 6 [v,w]=some [v',w']:=by
 simp only[ad,aj,h1,h2,Option.map_some]
theorem Kk (s:cl):xU s<=3*qP s:=by
 have h:∀l:List eI,(l.map fX).sum<=l.length+(l.map jV).sum:=fun l=>by
  induction l with
  |nil=>simp
  |cons t l ih=>simp only[List.map_cons,List.sum_cons,List.length_cons,fX,jV]at *;omega
 have:=h s.aE.ah
 unfold xU qP sI
 omega
theorem eM.not {a b:Nat} {ids:List Id} (h:eM a b ids) {x:Id} (hx:x.cq<a∨b<=x.cq):x∉ids:=fun hc=>by
 have:=h.2 x hc;omega
theorem mD.fz {α:Type} {e:α->List AV} {L:List α} {w:AV} (h:mD e L w) (g:Rows):V.fz g 6 w=some w:=by
 rcases h with⟨rfl,rfl⟩|rfl
 ·exact aW _ _
 ·exact cj _ _ _
end Go.Proofs.YtihgaadadaekmaaGreatDoor.V

namespace Go.Proofs.YtihgaadadaekmaaGreatDoor.V
open Go.RowKit
attribute [local irreducible] ea wpOps gR Call
attribute [local go_sem] aM fP eL gh ga cE upd cu K.av cL AV.cells AV.cell rowOf rowsOf part ld rowAt bY ck dI ef ig bL da ez gn e7 du ek cY cX dV dW bR bm cQ bQ cT cR ei eo ej cP bW cZ eh bP aQ cV cC ib bw cH bS aY dF bu dK AV.undef bF bH dY ee dU eb cF ew eD cw eu er cU cW List.getD_cons_zero List.getD_cons_succ List.getD_nil List.all_cons List.all_nil Bool.and_true Bool.true_and Bool.and_self Bool.not_true Bool.not_false Option.map_some Option.map_none Option.bind_some Option.bind_none List.length_cons List.length_nil List.take_succ_cons List.take_zero List.take_nil List.drop_succ_cons List.drop_zero List.drop_nil List.head?_cons List.map_cons List.map_nil List.getElem?_cons_zero List.getElem?_cons_succ List.cons_append List.nil_append List.append_nil List.length_map List.set_cons_zero List.set_cons_succ Nat.reduceMul eq_self Int.toNat_natCast Int.natCast_nonneg and_self true_and and_true decide_true decide_false Bool.false_eq_true Nat.zero_add Nat.add_zero List.contains_cons List.contains_nil Bool.or_false Bool.false_or beq_self_eq_true Nat.reduceBEq ne_eq not_true_eq_false not_false_eq_true Id.mk.injEq false_and and_false Nat.reduceLT Int.reduceLE Int.reduceLT Int.reduceToNat Int.reduceNeg Int.reduceAdd Nat.le_refl List.length_append beq_true beq_false Bool.not_eq_eq_eq_not or_false false_or dE ad aj aI bE cj aW bf aV bo cN bG
end Go.Proofs.YtihgaadadaekmaaGreatDoor.V

namespace Go.Proofs.YtihgaadadaekmaaGreatDoor.V
open Go.RowKit
attribute [local irreducible] ea wpOps gR Call
attribute [local go_sem] aM fP eL gh ga cE upd cu K.av cL AV.cells AV.cell rowOf rowsOf part ld rowAt bY ck dI ef ig bL da ez gn e7 du ek cY cX dV dW bR bm cQ bQ cT cR ei eo ej cP bW cZ eh bP aQ cV cC ib bw cH bS aY dF bu dK AV.undef bF bH dY ee dU eb cF ew eD cw eu er cU cW List.getD_cons_zero List.getD_cons_succ List.getD_nil List.all_cons List.all_nil Bool.and_true Bool.true_and Bool.and_self Bool.not_true Bool.not_false Option.map_some Option.map_none Option.bind_some Option.bind_none List.length_cons List.length_nil List.take_succ_cons List.take_zero List.take_nil List.drop_succ_cons List.drop_zero List.drop_nil List.head?_cons List.map_cons List.map_nil List.getElem?_cons_zero List.getElem?_cons_succ List.cons_append List.nil_append List.append_nil List.length_map List.set_cons_zero List.set_cons_succ eq_self Int.toNat_natCast Int.natCast_nonneg and_self true_and and_true decide_true decide_false Bool.false_eq_true Nat.zero_add Nat.add_zero List.contains_cons List.contains_nil Bool.or_false Bool.false_or beq_self_eq_true ne_eq not_true_eq_false not_false_eq_true Id.mk.injEq false_and and_false Nat.le_refl List.length_append beq_true beq_false Bool.not_eq_eq_eq_not or_false false_or dE ad aj aI bE cj aW bf aV bo cN bG
end Go.Proofs.YtihgaadadaekmaaGreatDoor.V

namespace Go.Proofs.YtihgaadadaekmaaGreatDoor.V
open Go.RowKit
attribute [local irreducible] ea wpOps gR Call
attribute [local go_sem] aM fP eL gh ga cE upd cu K.av cL AV.cells AV.cell rowOf rowsOf part ld rowAt bY ck dI ef ig bL da ez gn e7 du ek cY cX dV dW bR bm cQ bQ cT cR ei eo ej cP bW cZ eh bP aQ cV cC ib bw cH bS aY dF bu dK AV.undef bF bH dY ee dU eb cF ew eD cw eu er cU cW List.getD_cons_zero List.getD_cons_succ List.getD_nil List.all_cons List.all_nil Bool.and_true Bool.true_and Bool.and_self Bool.not_true Bool.not_false Option.map_some Option.map_none Option.bind_some Option.bind_none List.length_cons List.length_nil List.take_succ_cons List.take_zero List.take_nil List.drop_succ_cons List.drop_zero List.drop_nil List.head?_cons List.map_cons List.map_nil List.getElem?_cons_zero List.getElem?_cons_succ List.cons_append List.nil_append List.append_nil List.length_map List.set_cons_zero List.set_cons_succ Nat.reduceMul eq_self Int.toNat_natCast Int.natCast_nonneg and_self true_and and_true decide_true decide_false Bool.false_eq_true Nat.zero_add Nat.add_zero List.contains_cons List.contains_nil Bool.or_false Bool.false_or beq_self_eq_true Nat.reduceBEq ne_eq not_true_eq_false not_false_eq_true Id.mk.injEq false_and and_false Nat.reduceLT Int.reduceLE Int.reduceLT Int.reduceToNat Int.reduceNeg Int.reduceAdd Nat.le_refl List.length_append beq_true beq_false Bool.not_eq_eq_eq_not or_false false_or dE ad aj aI bE cj aW bf aV bo cN bG
theorem DS {P:Program} {K:AV->Rows->List Id->Prop} (hm:P.follows .mixedOrders=true) {f:Nat} {args eS:List AV} {σ:ax}
  (lq:∀r g ids,K r g ids->r.rh=true/\Handed ids g) (lr:∀r g g' ids,K r g ids->(∀i∈ids,g' i=g i)->K r g' ids)
  (h:∀n:Nat,Call P f eS ⟨fun _=>none,n⟩ (fun r σ'=>∃ids,K r σ'.get ids/\eM n σ'.next ids)) (hv:cm (dE σ.get) 6 args=some eS):
  Call P f args σ (fun r σ'=>∃ids,K r σ'.get ids/\eM σ.next σ'.next ids/\Kept σ σ'):=by
 refine Gb hm hv (aO _ _ _ _ _ (fun r σ' hq=>?_) (DT hm (h σ.next)))
 obtain⟨⟨ids,hK,hi⟩,hn⟩:=hq
 obtain⟨c1,c2⟩:=lq _ _ _ hK
 exact⟨ids,c1,c2,ids,lr _ _ _ _ hK (fun i hi=>uK hi),hi,hn,fun j hj=>rN fun hc=>by have:=(hi.2 j hc).1;omega⟩
theorem Handed.nil {g:Rows}:Handed [] g:=fun x hx=>by cases hx
section
variable {P:Program} {α:Type} {e:α->List AV} {z:Nat} {g g':Rows} {v:AV} {L:List α} {ids:List Id}
def tg (e:α->List AV) (z:Nat) (g:Rows) (v:AV) (L:List α) (ids:List Id):Prop:=(L=[]/\v=.bK/\ids=[])∨∃(o:Id) (J:List α),v=.own o 0 L.length/\g o=some ⟨true,z,(L++J).map e⟩/\ids=[o]/\0<L.length
theorem oY.t (h:oY e z g v L ids):tg e z g v L ids:=by
 rcases h with h|⟨o,h1,h2,h3,h4⟩
 ·exact .inl h
 ·exact .inr ⟨o,[],h1,by rw[List.append_nil];exact h2,h3,h4⟩
def DF (e:α->List AV) (v:AV) (L:List α):AV:=match v with| .bK=>.bK|_=>.sl (L.map e)
theorem tg.E7 (h:tg e z g v L ids):mD e L (DF e v L):=by
 rcases h with⟨rfl,rfl,_⟩|⟨o,J,rfl,_⟩
 ·exact .inl ⟨rfl,rfl⟩
 ·exact .inr rfl
theorem zz {n:Nat} {o:Id} {J:List α} (h2:g o=some ⟨true,z,(L++J).map e⟩) (he:∀x g,cm g n (e x)=some (e x)):V.fz (dE g) (n+1) (.own o 0 L.length)=some (.sl (L.map e)):=by
 rw[fS]
 have:dE g o=some ⟨true,z,(L++J).map e⟩:=by simp[dE,h2]
 simp only[this,if_true]
 have h4:((L++J).map e).take L.length=L.map e:=by rw[<-List.map_take,List.take_append_of_le_length (Nat.le_refl _),List.take_length]
 rw[if_pos (by simp),List.drop_zero,h4,l8 fun x=>he x _];rfl
theorem tg.Od (h:tg e z g v L ids) {n:Nat} (he:∀x g,cm g n (e x)=some (e x)):V.fz (dE g) (n+1) v=some (DF e v L):=by
 rcases h with⟨rfl,rfl,_⟩|⟨o,J,rfl,h2,_⟩
 ·exact aW _ _
 ·exact zz h2 he
theorem tg.clean (h:tg e z g v L ids):v.clean=true:=by
 rcases h with⟨_,rfl,_⟩|⟨o,J,rfl,_⟩<;>rfl
theorem tg.hand (h:tg e z g v L ids) (lq:∀x,(e x).all AV.clean=true):Handed ids g:=by
 rcases h with⟨_,_,rfl⟩|⟨o,J,_,h2,rfl,_⟩
 ·exact Handed.nil
 ·intro i hi
  rw[List.mem_singleton.1 hi]
  refine⟨_,h2,rfl,fun cs dq a ha=>?_⟩
  obtain⟨x,_,rfl⟩:=List.mem_map.1 dq
  have:=lq x
  rw[List.all_eq_true]at this
  exact this a ha
theorem tg.s (h:tg e z g v L ids) {n:Nat} (he:∀x g,dH g n (e x)=some (e x)):fC g (n+1) v=some (Ni e L):=by
 rcases h with⟨rfl,rfl,_⟩|⟨o,J,rfl,h2,_,hp⟩
 ·rw[kb];rfl
 ·rw[qa (sz:=z) (rows:=(L++J).map e) (rows':=L.map e) h2 (by simp) (by
   have h4:((L++J).map e).take L.length=L.map e:=by rw[<-List.map_take,List.take_append_of_le_length (Nat.le_refl _),List.take_length]
   rw[List.drop_zero,h4,nG fun x=>he x _]),Ni,if_neg ab]
end
def xf (a:AV):Bool:=match a with| .agg cs=>cs.all AV.clean|a=>a.clean
theorem A9 (cs:List AV):(AV.iL cs).rh=cs.all xf:=rfl
theorem Ec {a:AV} (h:a.clean=true):xf a=true:=by
 cases a<;>first|exact h|(simp[AV.clean]at h)
theorem A8 (k:IntKind) (n:Int):xf (.int k n)=true:=rfl
theorem y9 (b:Bool):xf (.bool b)=true:=rfl
theorem Pj {g:Rows} {u v w u' v' w':AV} (h0:V.fz g 6 u=some u') (h1:V.fz g 6 v=some v') (h2:V.fz g 6 w=some w'):cm g 6 [u,v,w]=some [u',v',w']:=by simp only[ad,aj,h0,h1,h2,Option.map_some]
theorem Rw (x:ao):(ai x).all AV.clean=true:=rfl
def B8 (k:Int) (n:Nat):List Int:=(List.range n).map fun j:Nat=>k+(j:Int)
theorem gV (k:Int) (n:Nat):(B8 k n).length=n:=by simp[B8]
def iX (k:Int) (l:List Int) (j:Nat):List Int:=B8 k j++l.drop j
theorem wH {k:Int} {l:List Int} {j:Nat} (h:j<=l.length):(iX k l j).length=l.length:=by simp[iX,gV];omega
theorem HR {k:Int} {l:List Int} {j:Nat} (h:j<l.length):((iX k l j).map ar)[j]? =some [.int .i64 l[j]]:=by
 have h2:j<(iX k l j).length:=by rw[wH ab];exact h
 have h3:(iX k l j)[j]'h2=l[j]:=by simp[iX,List.getElem_append,gV]
 rw[zf h2,h3]
theorem Fc {k:Int} {l:List Int} {j:Nat} (h:j<l.length):((iX k l j).map ar).set j [.int .i64 (k+(j:Int))]=(iX k l (j+1)).map ar:=by
 have h1:(iX k l j).set j (k+(j:Int))=iX k l (j+1):=by
  unfold iX
  rw[List.set_append_right _ _ (by rw[gV];omega),gV,Nat.sub_self]
  have h2:l.drop j=l[j]::l.drop (j+1):=List.drop_eq_getElem_cons h
  rw[h2,List.set_cons_zero]
  simp[B8,List.range_succ]
 rw[<-h1,List.map_set];rfl
theorem Dy (i:Id) (l:List Int) (k:Int) (h0:0<=k) (h1:k+l.length<=4611686018427387904) (σ:ax) (hv:i.cq<σ.next) (hg:σ.get i=some ⟨true,1,l.map ar⟩):
  Call Tryz.prog 23 [.own i 0 l.length,.int .i64 k] σ (fun r σ'=>r=.int .i64 (k+l.length)/\m4 σ [i] σ'.get σ'.next/\σ'.get i=some ⟨true,1,(B8 k l.length).map ar⟩):=by
 refine eW dM rfl fun hl=>?_
 clear hl
 have hz:iX k l 0=l:=by simp[iX,B8]
 (try((repeat(revert hN;revert N;apply Pn.out));refine wk @Nat.zero_add ?_;(repeat(refine Pn.mk ?_;intro N hN))))
 refine aP (fun n env st=>∃j:Nat,n=(l.length)-j/\j<=(l.length)/\env 5=.int .i64 (j:Int)/\env 1=.int .i64 (k+j)/\st.get i=some ⟨true,1,(iX k l j).map ar⟩/\(m4 σ [i] st.get st.next)) (l.length) ⟨0,ab,ab,sl (tw @Int.add_zero (tw @Int.natCast_zero (tw @hz @hg))),sl (tw @Int.add_zero (tw @Int.natCast_zero (tw @hz @hg))),sl (tw @Int.add_zero (tw @Int.natCast_zero (tw @hz @hg))),by(try dsimp only);exact⟨bt,fun x _ _=>rfl⟩⟩ ?_
 rintro n_a env_a st_a ⟨j,rfl,ale,a5,a1,ag0,jW⟩ dm
 have a0:=dm 0 (by kernel_rfl)
 simp only[go_sem, ↓reduceIte,Nat.reduceEqDiff,Nat.reduceAdd,Nat.reduceSub,Nat.reduceLeDiff,reduceCtorEq,Int.add_zero,Int.natCast_zero,hz,hg]at a0
 clear dm
 obtain⟨an,aF⟩:=jW
 by_cases hj:(j:Int)<(l.length:Int)
 ·have bD:∀{e:Env} {gg:Rows} {nx:Nat},(e 5=.int .i64 (IntKind.i64.wrap ((j:Int)+1)))->(e 1=.int .i64 (k+(j+1)))->(gg i=some ⟨true,1,(iX k l (j+1)).map ar⟩)->(m4 σ [i] gg nx)->∃m0,m0<(l.length)-j/\∃j:Nat,m0=(l.length)-j/\j<=(l.length)/\e 5=.int .i64 (j:Int)/\e 1=.int .i64 (k+j)/\gg i=some ⟨true,1,(iX k l j).map ar⟩/\(m4 σ [i] gg nx):=fun x1 x2 x3 x4=>⟨_,ab,j+1,rfl,ab,(by rw[x1,ay ab]),x2,x3,x4⟩
  have gj:j<l.length:=ab
  have dR:=HR (k:=k) gj
  have dP:=Fc (k:=k) gj
  have hw:IntKind.i64.wrap (k+(j:Int)+1)=k+((j:Int)+1):=by rw[aT ab];omega
  have hlen:((iX k l j).map ar).length=l.length:=by rw[List.length_map,wH ab]
  (try((repeat(revert hN;revert N;apply Pn.out));refine wk (tw @a5 (tw @a1 (tw @ag0 (tw @a0 (tw @hj (tw @dR (tw @dP (tw @hw @hlen)))))))) ?_;(repeat(refine Pn.mk ?_;intro N hN))))
  refine bD ?_ ?_ ?_ (by(try dsimp only);exact⟨bt,fun x hx hi=>by
   have h2:=aF x hx hi
   have h3:(x=i)=False:=eq_false fun e=>hi (by simp[e])
   simp only[go_sem, ↓reduceIte,Nat.reduceEqDiff,Nat.reduceAdd,Nat.reduceSub,Nat.reduceLeDiff,reduceCtorEq,h2,h3]⟩)
  all_goals simp only[go_sem, ↓reduceIte,Nat.reduceEqDiff,Nat.reduceAdd,Nat.reduceSub,Nat.reduceLeDiff,reduceCtorEq,a5,a1,ag0,a0,hw,dP]
 ·have gj:j=l.length:=ab
  subst gj
  (try((repeat(revert hN;revert N;apply Pn.out));refine wk (tw @a5 (tw @a1 (tw @ag0 (tw @a0 @hj)))) ?_;(repeat(refine Pn.mk ?_;intro N hN))))
  have k5:iX k l l.length=B8 k l.length:=by simp[iX]
  rw[k5]at ag0
  exact gm (.inl rfl) (vs:=[.int .i64 (k+l.length)]) (sd (tw @a5 (tw @a1 (tw @ag0 @a0)))) ⟨rfl,⟨bt,fun x hx hi=>aF x hx hi⟩,ag0⟩
theorem HN (k:Int) (σ:ax):Call Tryz.prog 23 [.bK,.int .i64 k] σ (fun r σ'=>r=.int .i64 k/\m4 σ [] σ'.get σ'.next):=by
 refine eW dM rfl fun hl=>?_
 clear hl
 (try((repeat(revert hN;revert N;apply Pn.out));refine wk @Nat.zero_add ?_;(repeat(refine Pn.mk ?_;intro N hN))))
 refine aP (fun n env st=>(env 1=.int .i64 k/\env 5=.int .i64 0/\env 0=.bK)/\σ.next<=st.next/\∀x:Id,st.get x=σ.get x) 0 ⟨⟨sd @Nat.zero_add,sd @Nat.zero_add,sd @Nat.zero_add⟩,bt,fun _=>rfl⟩ ?_
 rintro m e st ⟨⟨a1,a5,a0⟩,an,aF⟩ -
 have d0:decide ((0:Int)<((0:Nat):Int))=false:=rfl
 (try((repeat(revert hN;revert N;apply Pn.out));refine wk (tw @a0 (tw @a1 (tw @a5 @d0))) ?_;(repeat(refine Pn.mk ?_;intro N hN))))
 exact gm (.inl rfl) (vs:=[.int .i64 k]) (sd @a1) ⟨rfl,⟨bt,fun x hx hi=>aF x⟩⟩
theorem HP {v:AV} {L:List Int} {ids:List Id} (k:Int) (h0:0<=k) (h1:k+L.length<=4611686018427387904) (σ:ax) (hv:∀i∈ids,i.cq<σ.next) (h:oY ar 1 σ.get v L ids):
  Call Tryz.prog 23 [v,.int .i64 k] σ (fun r σ'=>r=.int .i64 (k+L.length)/\m4 σ ids σ'.get σ'.next/\oY ar 1 σ'.get v (B8 k L.length) ids):=by
 rcases h with⟨rfl,rfl,rfl⟩|⟨o,rfl,h2,rfl,hp⟩
 ·refine aO _ _ _ _ _ (fun r σ' hq=>?_) (HN k σ)
  obtain⟨rfl,hB⟩:=hq
  exact⟨by simp,hB,.inl ⟨rfl,rfl,rfl⟩⟩
 ·refine aO _ _ _ _ _ (fun r σ' hq=>?_) (Dy o L k h0 h1 σ (hv o (by simp)) h2)
  obtain⟨rfl,hB,hg⟩:=hq
  exact⟨rfl,hB,.inr ⟨o,by rw[gV],hg,rfl,by rw[gV];exact hp⟩⟩
theorem Ng (k:Int) {n j:Nat} (h:j<n):((B8 k n).map ar)[j]? =some [.int .i64 (k+(j:Int))]:=by
 simp[B8,h,ar]
theorem JH (k:Int) (n:Nat) (h0:0<=k) (h1:k+n<=4611686018427387904):ae Tryz.prog 24 [.sl ((B8 k n).map ar),.int .i64 k] (.int .i64 (k+n)):=by
 refine ae.body dM rfl fun hl n0=>?_
 clear hl
 obtain⟨m,hm⟩:∃m,n=m:=⟨_,rfl⟩
 rw[hm]at h1 ⊢
 (try((repeat(revert hN;revert N;apply Pn.out));refine wk @gV ?_;(repeat(refine Pn.mk ?_;intro N hN))))
 refine aP (fun n env st=>∃j:Nat,n=(m)-j/\j<=(m)/\env 5=.int .i64 (j:Int)/\env 1=.int .i64 (k+j)) (m) ⟨0,ab,ab,sl (tw @Int.add_zero (tw @Int.natCast_zero @gV)),sl (tw @Int.add_zero (tw @Int.natCast_zero @gV))⟩ ?_
 rintro n_a env_a st_a ⟨j,rfl,ale,a5,a1⟩ dm
 have a0:=dm 0 (by kernel_rfl)
 simp only[go_sem, ↓reduceIte,Nat.reduceEqDiff,Nat.reduceAdd,Nat.reduceSub,Nat.reduceLeDiff,reduceCtorEq,Int.add_zero,Int.natCast_zero,gV]at a0
 clear dm
 by_cases hj:(j:Int)<(m:Int)
 ·have bD:∀{e:Env},(e 5=.int .i64 (IntKind.i64.wrap ((j:Int)+1)))->(e 1=.int .i64 (k+(j+1)))->∃m0,m0<(m)-j/\∃j:Nat,m0=(m)-j/\j<=(m)/\e 5=.int .i64 (j:Int)/\e 1=.int .i64 (k+j):=fun x1 x2=>⟨_,ab,j+1,rfl,ab,(by rw[x1,ay ab]),x2⟩
  have dR:=Ng k (n:=m) (j:=j) ab
  have hw:IntKind.i64.wrap (k+(j:Int)+1)=k+((j:Int)+1):=by rw[aT ab];omega
  have e1:decide (k+(j:Int)=k+(j:Int))=true:=decide_eq_true rfl
  (try((repeat(revert hN;revert N;apply Pn.out));refine wk (tw @a5 (tw @a1 (tw @a0 (tw @hj (tw @dR (tw @hw (tw @gV @e1))))))) ?_;(repeat(refine Pn.mk ?_;intro N hN))))
  refine bD ?_ ?_
  all_goals simp only[go_sem, ↓reduceIte,Nat.reduceEqDiff,Nat.reduceAdd,Nat.reduceSub,Nat.reduceLeDiff,reduceCtorEq,a5,a1,a0,hw]
 ·have gj:j=m:=ab
  subst gj
  (try((repeat(revert hN;revert N;apply Pn.out));refine wk (tw @a5 (tw @a1 (tw @a0 (tw @hj @gV)))) ?_;(repeat(refine Pn.mk ?_;intro N hN))))
  exact aZ (b:=k+(j:Int)) (.inl rfl) (sd (tw @a5 (tw @a1 @a0))) rfl
theorem zJ {w:AV} (k:Int) (n:Nat) (h0:0<=k) (h1:k+n<=4611686018427387904) (hw:mD ar (B8 k n) w):ae Tryz.prog 24 [w,.int .i64 k] (.int .i64 (k+n)):=
 (JH k n h0 h1).cut mixed (hw.cut (.same _ .nil))
theorem Bf {L:List Int} {v w:AV} (hv:mD ar L v) (hw:mD ar L w):ae Tryz.prog 22 [v,w] (.bool true):=by
 have h:=tA L L
 rw[decide_eq_true rfl]at h
 exact h.cut mixed (hv.cut (hw.cut .nil))
end Go.Proofs.YtihgaadadaekmaaGreatDoor.V

namespace Go.Proofs.YtihgaadadaekmaaGreatDoor.V
open Go.RowKit
attribute [local irreducible] ea wpOps gR Call
attribute [local go_sem] aM fP eL gh ga cE upd cu K.av cL AV.cells AV.cell rowOf rowsOf part ld rowAt bY ck dI ef ig bL da ez gn e7 du ek cY cX dV dW bR bm cQ bQ cT cR ei eo ej cP bW cZ eh bP aQ cV cC ib bw cH bS aY dF bu dK AV.undef bF bH dY ee dU eb cF ew eD cw eu er cU cW List.getD_cons_zero List.getD_cons_succ List.getD_nil List.all_cons List.all_nil Bool.and_true Bool.true_and Bool.and_self Bool.not_true Bool.not_false Option.map_some Option.map_none Option.bind_some Option.bind_none List.length_cons List.length_nil List.take_succ_cons List.take_zero List.take_nil List.drop_succ_cons List.drop_zero List.drop_nil List.head?_cons List.map_cons List.map_nil List.getElem?_cons_zero List.getElem?_cons_succ List.cons_append List.nil_append List.append_nil List.length_map List.set_cons_zero List.set_cons_succ eq_self Int.toNat_natCast Int.natCast_nonneg and_self true_and and_true decide_true decide_false Bool.false_eq_true Nat.zero_add Nat.add_zero List.contains_cons List.contains_nil Bool.or_false Bool.false_or beq_self_eq_true ne_eq not_true_eq_false not_false_eq_true Id.mk.injEq false_and and_false Nat.le_refl List.length_append beq_true beq_false Bool.not_eq_eq_eq_not or_false false_or dE ad aj aI bE cj aW bf aV bo cN bG
section
variable {P:Program} {α:Type} {R:uQ α} {e:α->List AV} {z:Nat} {g g':Rows} {v:AV} {L:List α} {ids:List Id}
def OK (R:uQ α) (z:Nat) (g:Rows) (v:AV) (L:List α) (ids:List Id):Prop:=(L=[]/\v=.bK/\ids=[])∨(fU R z g v L ids/\0<L.length)
end
def xj (R:List ao):List AV:=[.sl (R.map ai)]
def th:uQ (List ao):=fun g cs R ids=>∃u,cs=[.own u 0 R.length]/\g u=some ⟨true,3,R.map ai⟩/\ids=[u]
theorem Ri:pM th 1 where
 frame:=fun⟨i,h1,h2,h3⟩ hf=>⟨i,h1,(hf i (by rw[h3];simp)).trans h2,h3⟩
 len:=fun⟨i,h1,_⟩=>by rw[h1];rfl
 cell:=fun⟨i,h1,_⟩=>by rw[h1];rfl
 live:=fun⟨i,h1,h2,h3⟩ j hj=>by
  rw[h3]at hj
  have:j=i:=by simpa using hj
  subst this
  exact⟨_,h2,rfl,by simp[nL]⟩
 small:=by simp[nL]
theorem Qt {g:Rows} {cs:List AV} {x:List ao} {ids:List Id} (n:Nat) (h:th g cs x ids):cm (dE g) (n+2) cs=some (xj x):=by
 obtain⟨i,rfl,h2,_⟩:=h
 have h3:V.fz (dE g) (n+2) (.own i 0 x.length)=some (.sl (x.map ai)):=e6 (e:=ai) (sz:=3) (by simp[dE,h2]) rfl fun y=>by simp[ai,ad,aj,aI]
 simp only[ad,aj,h3,Option.map_some,xj]
theorem OH {g:Rows} {cs:List AV} {x:List ao} {ids:List Id} (n:Nat) (h:th g cs x ids):dH g (n+2) cs=some (xj x):=by
 obtain⟨i,rfl,h2,_⟩:=h
 have h3:fC g (n+2) (.own i 0 x.length)=some (.sl (x.map ai)):=fG (e:=ai) h2 rfl fun y=>by simp[ai,br,bV,eA]
 simp only[br,bV,h3,Option.map_some,xj]
theorem Nr {g:Rows} {cs:List AV} {x:List ao} {ids:List Id} (h:th g cs x ids):cs.all AV.clean=true/\Handed ids g:=by
 obtain⟨i,rfl,h2,rfl⟩:=h
 refine⟨rfl,fun j hj=>?_⟩
 rw[List.mem_singleton.1 hj]
 refine⟨_,h2,rfl,fun cs dq a ha=>?_⟩
 obtain⟨y,_,rfl⟩:=List.mem_map.1 dq
 exact List.all_eq_true.1 (Rw y) a ha
def OutRs (g:Rows) (v:AV) (L:List (List ao)) (ids:List Id):Prop:=OK th 1 g v L ids
section
variable {g g':Rows} {v:AV} {L:List (List ao)} {ids:List Id}
end
end Go.Proofs.YtihgaadadaekmaaGreatDoor.V

namespace Go.Proofs.YtihgaadadaekmaaGreatDoor.V
open Go.RowKit
attribute [local irreducible] ea wpOps gR Call
attribute [local go_sem] aM fP eL gh ga cE upd cu K.av cL AV.cells AV.cell rowOf rowsOf part ld rowAt bY ck dI ef ig bL da ez gn e7 du ek cY cX dV dW bR bm cQ bQ cT cR ei eo ej cP bW cZ eh bP aQ cV cC ib bw cH bS aY dF bu dK AV.undef bF bH dY ee dU eb cF ew eD cw eu er cU cW List.getD_cons_zero List.getD_cons_succ List.getD_nil List.all_cons List.all_nil Bool.and_true Bool.true_and Bool.and_self Bool.not_true Bool.not_false Option.map_some Option.map_none Option.bind_some Option.bind_none List.length_cons List.length_nil List.take_succ_cons List.take_zero List.take_nil List.drop_succ_cons List.drop_zero List.drop_nil List.head?_cons List.map_cons List.map_nil List.getElem?_cons_zero List.getElem?_cons_succ List.cons_append List.nil_append List.append_nil List.length_map List.set_cons_zero List.set_cons_succ Nat.reduceMul eq_self Int.toNat_natCast Int.natCast_nonneg and_self true_and and_true decide_true decide_false Bool.false_eq_true Nat.zero_add Nat.add_zero List.contains_cons List.contains_nil Bool.or_false Bool.false_or beq_self_eq_true Nat.reduceBEq ne_eq not_true_eq_false not_false_eq_true Id.mk.injEq false_and and_false Nat.reduceLT Int.reduceLE Int.reduceLT Int.reduceToNat Int.reduceNeg Int.reduceAdd Nat.le_refl List.length_append beq_true beq_false Bool.not_eq_eq_eq_not or_false false_or dE ad aj aI bE cj aW bf aV bo cN bG
theorem clI (x:Int):(ar x).all AV.clean=true:=rfl
def j9 (R:List Int):List AV:=[.sl (R.map ar)]
def jQ:uQ (List Int):=fun g cs R ids=>∃u,cs=[.own u 0 R.length]/\g u=some ⟨true,1,R.map ar⟩/\ids=[u]
theorem tZ:pM jQ 1 where
 frame:=fun⟨i,h1,h2,h3⟩ hf=>⟨i,h1,(hf i (by rw[h3];simp)).trans h2,h3⟩
 len:=fun⟨i,h1,_⟩=>by rw[h1];rfl
 cell:=fun⟨i,h1,_⟩=>by rw[h1];rfl
 live:=fun⟨i,h1,h2,h3⟩ j hj=>by
  rw[h3]at hj
  have:j=i:=by simpa using hj
  subst this
  exact⟨_,h2,rfl,by simp[nL]⟩
 small:=by simp[nL]
theorem J7 {g:Rows} {cs:List AV} {x:List Int} {ids:List Id} (n:Nat) (h:jQ g cs x ids):cm (dE g) (n+2) cs=some (j9 x):=by
 obtain⟨i,rfl,h2,_⟩:=h
 have h3:V.fz (dE g) (n+2) (.own i 0 x.length)=some (.sl (x.map ar)):=e6 (e:=ar) (sz:=1) (by simp[dE,h2]) rfl fun y=>by simp[ar,ad,aj,aI]
 simp only[ad,aj,h3,Option.map_some,j9]
theorem Qf {g:Rows} {cs:List AV} {x:List Int} {ids:List Id} (n:Nat) (h:jQ g cs x ids):dH g (n+2) cs=some (j9 x):=by
 obtain⟨i,rfl,h2,_⟩:=h
 have h3:fC g (n+2) (.own i 0 x.length)=some (.sl (x.map ar)):=fG (e:=ar) h2 rfl fun y=>by simp[ar,br,bV,eA]
 simp only[br,bV,h3,Option.map_some,j9]
theorem OF {g:Rows} {cs:List AV} {x:List Int} {ids:List Id} (h:jQ g cs x ids):cs.all AV.clean=true/\Handed ids g:=by
 obtain⟨i,rfl,h2,rfl⟩:=h
 refine⟨rfl,fun j hj=>?_⟩
 rw[List.mem_singleton.1 hj]
 refine⟨_,h2,rfl,fun cs dq a ha=>?_⟩
 obtain⟨y,_,rfl⟩:=List.mem_map.1 dq
 exact List.all_eq_true.1 (clI y) a ha
def OutIs (g:Rows) (v:AV) (L:List (List Int)) (ids:List Id):Prop:=OK jQ 1 g v L ids
section
variable {g g':Rows} {v:AV} {L:List (List Int)} {ids:List Id}
end
def lx (R:List Int):Nat:=R.length
def qo (k:Int):List (List Int)->List (List Int)
 |[]=>[]
 |R::L=>B8 k R.length::qo (k+(R.length:Int)) L
theorem lL:∀(k:Int) (L:List (List Int)),(qo k L).length=L.length
 |_,[]=>rfl
 |k,R::L=>by rw[qo,List.length_cons,lL,List.length_cons]
theorem Ac:∀(k:Int) (A B:List (List Int)),qo k (A++B)=qo k A++qo (k+((A.map lx).sum:Nat)) B
 |k,[],B=>by simp[qo]
 |k,R::A,B=>by
  rw[List.cons_append,qo,qo,Ac,List.cons_append]
  congr 3
  simp only[List.map_cons,List.sum_cons,lx];omega
def jT (k:Int) (L:List (List Int)) (j:Nat):List (List Int):=qo k (L.take j)++L.drop j
theorem Ff {k:Int} {L:List (List Int)} {j:Nat} (h:j<=L.length):(jT k L j).length=L.length:=by
 rw[jT,List.length_append,lL,List.length_take,List.length_drop];omega
theorem Fe {k:Int} {L:List (List Int)} {j:Nat} (h:j<L.length):(jT k L j)[j]? =some L[j]:=by
 rw[jT,List.getElem?_append_right (by rw[lL,List.length_take];omega),lL,List.length_take,List.getElem?_drop,Nat.min_eq_left ab,Nat.sub_self,Nat.add_zero,List.getElem?_eq_getElem h]
theorem Fg {k:Int} {L:List (List Int)} {j:Nat} (h:j<L.length):(jT k L j).set j (B8 (k+(eV lx L j:Nat)) L[j].length)=jT k L (j+1):=by
 have h1:(qo k (L.take j)).length=j:=by rw[lL,List.length_take];omega
 rw[jT,List.drop_eq_getElem_cons h,jT,List.take_succ_eq_append_getElem h,Ac,List.append_assoc]
 rw[List.set_append_right _ _ ab,h1,Nat.sub_self,List.set_cons_zero]
 rfl
theorem HQ (v:AV) (L:List (List Int)) (ids:List Id) (k:Int) (h0:0<=k) (h1:k+((L.map lx).sum+L.length:Nat)<=4611686018427387904) (σ:ax) (hv:∀i∈ids,i.cq<σ.next) (kN:ids.Nodup) (hg:fU jQ 1 σ.get v L ids):
  Call Tryz.prog 18 [v,.int .i64 k] σ (fun r σ'=>r=.int .i64 (k+(L.map lx).sum)/\m4 σ ids σ'.get σ'.next/\fU jQ 1 σ'.get v (qo k L) ids):=by
 obtain⟨o,rows,is,rfl,ho,hR,rfl⟩:=hg
 refine eW dM rfl fun hl=>?_
 clear hl
 have sE:=hv o (by simp)
 have EJ:=gC lx L
 obtain⟨Ln,SA⟩:=List.nodup_cons.1 kN
 have hz:jT k L 0=L:=by simp[jT,qo]
 have oI:=hR.len
 (try((repeat(revert hN;revert N;apply Pn.out));refine wk @Nat.zero_add ?_;(repeat(refine Pn.mk ?_;intro N hN))))
 refine aP (fun n env st=>∃j:Nat,n=(L.length)-j/\j<=(L.length)/\env 5=.int .i64 (j:Int)/\env 1=.int .i64 (k+eV lx L j)/\st.get o=some ⟨true,1,rows⟩/\(m4 σ (o::is) st.get st.next/\dw jQ st.get rows (jT k L j) is)) (L.length) ⟨0,ab,ab,sl (tw @Int.add_zero (tw @Int.natCast_zero (tw @EJ @ho))),sl (tw @Int.add_zero (tw @Int.natCast_zero (tw @EJ @ho))),sl (tw @Int.add_zero (tw @Int.natCast_zero (tw @EJ @ho))),by(try dsimp only);exact⟨⟨bt,fun x _ _=>rfl⟩,by rw[hz];exact hR⟩⟩ ?_
 rintro n_a env_a st_a ⟨j,rfl,ale,a5,a1,ag0,jW⟩ dm
 have a0:=dm 0 (by kernel_rfl)
 simp only[go_sem, ↓reduceIte,Nat.reduceEqDiff,Nat.reduceAdd,Nat.reduceSub,Nat.reduceLeDiff,reduceCtorEq,Int.add_zero,Int.natCast_zero,EJ,ho]at a0
 clear dm
 obtain⟨⟨an,aF⟩,aR⟩:=jW
 by_cases hj:(j:Int)<(L.length:Int)
 ·have bD:∀{e:Env} {gg:Rows} {nx:Nat},(e 5=.int .i64 (IntKind.i64.wrap ((j:Int)+1)))->(e 1=.int .i64 (k+eV lx L (j+1)))->(gg o=some ⟨true,1,rows⟩)->(m4 σ (o::is) gg nx/\dw jQ gg rows (jT k L (j+1)) is)->∃m0,m0<(L.length)-j/\∃j:Nat,m0=(L.length)-j/\j<=(L.length)/\e 5=.int .i64 (j:Int)/\e 1=.int .i64 (k+eV lx L j)/\gg o=some ⟨true,1,rows⟩/\(m4 σ (o::is) gg nx/\dw jQ gg rows (jT k L j) is):=fun x1 x2 x3 x4=>⟨_,ab,j+1,rfl,ab,(by rw[x1,ay ab]),x2,x3,x4⟩
  have gj:j<L.length:=ab
  have Ht:=mm lx gj
  have hle:=jA lx L (j+1)
  have hlen:=Ff (k:=k) (L:=L) (j:=j) ab
  have jx:(jT k L j)[j]'ab=L[j]:=by
   have:=Fe (k:=k) gj
   rw[List.getElem?_eq_getElem ab]at this
   exact Option.some.inj this
  obtain⟨cs,ic,Oh,hT,n3,ME,tV⟩:=aR.put tZ SA j ab
  rw[jx]at hT
  have dP:=Fg (k:=k) gj
  obtain⟨X,hX⟩:∃X,L[j]=X:=⟨_,rfl⟩
  rw[hX]at hT dP Ht
  obtain⟨i,rfl,hi,rfl⟩:=hT
  have hwx:lx X=X.length:=rfl
  have PK:i∈is:=ME i (by simp)
  have Lk:i≠o:=fun e=>Ln (e▸PK)
  have hiv:i.cq<σ.next:=hv i (by simp[PK])
  (try((repeat(revert hN;revert N;apply Pn.out));refine wk (tw @a5 (tw @a1 (tw @ag0 (tw @a0 (tw @hj @Oh))))) ?_;(repeat(refine Pn.mk ?_;intro N hN))))
  refine .inr (aO _ _ _ _ _ (fun r σ1 hq=>?_) (Dy i X (k+(eV lx L j:Nat)) ab ab _ bt hi))
  obtain⟨g1,x1⟩:=σ1
  obtain⟨rfl,⟨Dj,oj⟩,hq3⟩:=hq
  (try dsimp only at Dj oj hq3)
  refine hN _ _ ?_
  clear hN N
  have Oj:k+(eV lx L j:Nat)+(X.length:Int)=k+(eV lx L (j+1):Nat):=ab
  have go:=(oj o bt (by simp only[List.mem_singleton];exact fun e=>Lk e.symm)).trans ag0
  (try((repeat(revert hN;revert N;apply Pn.out));refine wk (tw @a5 (tw @a1 (tw @ag0 (tw @a0 (tw @Oj @go))))) ?_;(repeat(refine Pn.mk ?_;intro N hN))))
  refine bD ?_ ?_ ?_ (by(try dsimp only);exact⟨⟨bt,fun x hx we=>by
   have h4:x≠i:=fun e=>we (by simp[e,PK])
   rw[oj x bt (by simp[h4])]
   exact aF x hx we⟩,by
    rw[<-dP]
    exact tV _ _ ⟨i,by rw[gV],by rw[hq3],rfl⟩ fun x hx yK=>oj x (by have:=hv x (by simp[hx]);(try dsimp only);omega) yK⟩)
  all_goals simp only[go_sem, ↓reduceIte,Nat.reduceEqDiff,Nat.reduceAdd,Nat.reduceSub,Nat.reduceLeDiff,reduceCtorEq,a5,a1,ag0,a0,Oj,go]
 ·have gj:j=L.length:=ab
  subst gj
  have dk:=qG lx L
  rw[dk]at a1
  (try((repeat(revert hN;revert N;apply Pn.out));refine wk (tw @a5 (tw @a1 (tw @ag0 (tw @a0 @hj)))) ?_;(repeat(refine Pn.mk ?_;intro N hN))))
  have k5:jT k L L.length=qo k L:=by simp[jT]
  rw[k5]at aR
  exact gm (.inl rfl) (vs:=[.int .i64 (k+(L.map lx).sum)]) (sd (tw @a5 (tw @a1 (tw @ag0 @a0)))) ⟨rfl,⟨bt,fun x hx hi=>aF x hx hi⟩,⟨o,rows,is,by rw[lL],ag0,aR,rfl⟩⟩
theorem L5 (L:List (List Int)):ae Tryz.prog 13 [.sl (L.map j9),.sl (L.map j9)] (.bool true):=by
 refine ae.body dM rfl fun hl n0=>?_
 have hL:L.length<=9223372036854775807:=by simpa using(hl (.sl (L.map j9)) (by simp)).len
 clear hl
 have gw:(L.map j9).length=L.length:=by simp
 have d0:decide ((L.length:Int)=(L.length:Int))=true:=decide_eq_true rfl
 (try((repeat(revert hN;revert N;apply Pn.out));refine wk (tw @gw @d0) ?_;(repeat(refine Pn.mk ?_;intro N hN))))
 refine aP (fun n env st=>∃j:Nat,n=(L.length)-j/\j<=(L.length)/\env 5=.int .i64 (j:Int)) (L.length) ⟨0,ab,ab,sl @gw⟩ ?_
 rintro n_a env_a st_a ⟨j,rfl,ale,a5⟩ dm
 have a0:=dm 0 (by kernel_rfl);have a1:=dm 1 (by kernel_rfl)
 simp only[go_sem, ↓reduceIte,Nat.reduceEqDiff,Nat.reduceAdd,Nat.reduceSub,Nat.reduceLeDiff,reduceCtorEq,gw]at a0 a1
 clear dm
 by_cases hj:(j:Int)<(L.length:Int)
 ·have bD:∀{e:Env},(e 5=.int .i64 (IntKind.i64.wrap ((j:Int)+1)))->∃m0,m0<(L.length)-j/\∃j:Nat,m0=(L.length)-j/\j<=(L.length)/\e 5=.int .i64 (j:Int):=fun x1=>⟨_,ab,j+1,rfl,ab,(by rw[x1,ay ab])⟩
  have gj:j<L.length:=ab
  have dR:(L.map j9)[j]? =some [.sl (L[j].map ar)]:=by simp[gj,j9]
  have hh:=tA L[j] L[j]
  rw[decide_eq_true rfl]at hh
  generalize L[j].map ar=M at dR hh
  (repeat(first|((repeat(revert hN;revert N;apply Pn.out));refine wk (tw @a5 (tw @a0 (tw @a1 (tw @hj (tw @dR @gw))))) ?_;(repeat(refine Pn.mk ?_;intro N hN)))|((try apply Or.inl);refine⟨_,ae.x (hh) (sd (tw @a5 (tw @a0 (tw @a1 (tw @hj (tw @dR @gw)))))),?_⟩;refine hN _ _ ?_;clear hN N)))
  exact bD (sd (tw @a5 (tw @a0 (tw @a1 @gw))))
 ·have gj:j=L.length:=ab
  subst gj
  (try((repeat(revert hN;revert N;apply Pn.out));refine wk (tw @a5 (tw @a0 (tw @a1 (tw @hj @gw)))) ?_;(repeat(refine Pn.mk ?_;intro N hN))))
  exact aC (b:=true) (.inl rfl) (sd @Nat.zero_add) rfl
end Go.Proofs.YtihgaadadaekmaaGreatDoor.V

namespace Go.Proofs.YtihgaadadaekmaaGreatDoor.V
open Go.RowKit
variable {g g':Rows} {v:AV} {L:List Int} {ids:List Id}
theorem RF (x:Int) (g:Rows):cm g 5 (ar x)=some (ar x):=by simp[ar,ad,aj,aI]
theorem Ph (x:Int) (g:Rows):dH g 4 (ar x)=some (ar x):=by simp[ar,br,bV,eA]
def lW (g:Rows) (v:AV) (L:List Int) (ids:List Id):Prop:=oY ar 1 g v L ids
theorem lW.frame (h:lW g v L ids) (hf:∀i∈ids,g' i=g i):lW g' v L ids:=oY.frame h hf
theorem lW.E7 (h:lW g v L ids):mD ar L (DF ar v L):=(oY.t h).E7
theorem lW.Od (h:lW g v L ids):V.fz (dE g) 6 v=some (DF ar v L):=(oY.t h).Od RF
theorem lW.clean (h:lW g v L ids):v.clean=true:=(oY.t h).clean
theorem lW.hand (h:lW g v L ids):Handed ids g:=(oY.t h).hand clI
theorem lW.s (h:lW g v L ids):fC g 5 v=some (Ni ar L):=(oY.t h).s Ph
theorem HO (k:Int) (h0:0<=k) (h1:k+L.length<=4611686018427387904) (σ:ax) (hv:∀i∈ids,i.cq<σ.next) (h:lW σ.get v L ids):
  Call Tryz.prog 23 [v,.int .i64 k] σ (fun r σ'=>r=.int .i64 (k+L.length)/\m4 σ ids σ'.get σ'.next/\lW σ'.get v (B8 k L.length) ids):=HP k h0 h1 σ hv h
def OI (z m:Nat) (L:List Int) (v:AV) (g:Rows) (n:Nat):Prop:=(L=[]/\v=.bK)∨∃u:Id,v=.own u 0 L.length/\g u=some ⟨true,1,L.map ar⟩/\m<=u.cq/\u.cq<n/\0<L.length/\u.site=z
theorem OI.out {z m:Nat} {L:List Int} {v:AV} {g:Rows} {n:Nat} (h:OI z m L v g n):∃ids,lW g v L ids/\eM m n ids:=by
 rcases h with⟨h1,h2⟩|⟨u,h1,h2,h3,h4,h5,_⟩
 ·exact⟨[],.inl ⟨h1,h2,rfl⟩,⟨List.nodup_nil,fun i hi=>by cases hi⟩⟩
 ·exact⟨[u],.inr ⟨u,h1,h2,rfl,h5⟩,⟨List.nodup_cons.2 ⟨by simp,List.nodup_nil⟩,fun i hi=>by rw[List.mem_singleton.1 hi];exact⟨h3,h4⟩⟩⟩
def LH (P:Program) (f:Nat) (args:List AV) (R:List Int×Int):Prop:=
 ∀n:Nat,Call P f args ⟨fun _=>none,n⟩ (fun r σ'=>∃ids,(∃v0 i0,r=.iL [v0,.int .i64 R.2]/\lW σ'.get v0 R.1 i0/\ids=i0)/\eM n σ'.next ids)
end Go.Proofs.YtihgaadadaekmaaGreatDoor.V

namespace Go.Proofs.YtihgaadadaekmaaGreatDoor.V
open Go.RowKit
attribute [local irreducible] ea wpOps gR Call
attribute [local go_sem] aM fP eL gh ga cE upd cu K.av cL AV.cells AV.cell rowOf rowsOf part ld rowAt bY ck dI ef ig bL da ez gn e7 du ek cY cX dV dW bR bm cQ bQ cT cR ei eo ej cP bW cZ eh bP aQ cV cC ib bw cH bS aY dF bu dK AV.undef bF bH dY ee dU eb cF ew eD cw eu er cU cW List.getD_cons_zero List.getD_cons_succ List.getD_nil List.all_cons List.all_nil Bool.and_true Bool.true_and Bool.and_self Bool.not_true Bool.not_false Option.map_some Option.map_none Option.bind_some Option.bind_none List.length_cons List.length_nil List.take_succ_cons List.take_zero List.take_nil List.drop_succ_cons List.drop_zero List.drop_nil List.head?_cons List.map_cons List.map_nil List.getElem?_cons_zero List.getElem?_cons_succ List.cons_append List.nil_append List.append_nil List.length_map List.set_cons_zero List.set_cons_succ Nat.reduceMul eq_self Int.toNat_natCast Int.natCast_nonneg and_self true_and and_true decide_true decide_false Bool.false_eq_true Nat.zero_add Nat.add_zero List.contains_cons List.contains_nil Bool.or_false Bool.false_or beq_self_eq_true Nat.reduceBEq ne_eq not_true_eq_false not_false_eq_true Id.mk.injEq false_and and_false Nat.reduceLT Int.reduceLE Int.reduceLT Int.reduceToNat Int.reduceNeg Int.reduceAdd Nat.le_refl List.length_append beq_true beq_false Bool.not_eq_eq_eq_not or_false false_or dE ad aj aI bE cj aW bf aV bo cN bG
def fI (n lo hi:Int):Bool:=decide (lo<=n)&&decide (n<=hi)
theorem dB {n lo hi:Int} (h:fI n lo hi=true):lo<=n/\n<=hi:=by simpa[fI]using h
theorem nI {n lo hi:Int} (h:lo<=n/\n<=hi):fI n lo hi=true:=by simpa[fI]using h
def F8 (p:cr):Bool:=fI p.gE (-60) 60&&fI p.fQ (-60) 60
theorem gU (n lo hi:Int):ae Tryz.prog 36 [.int .i64 n,.int .i64 lo,.int .i64 hi] (.bool (fI n lo hi)):=by
 refine ae.body dM rfl fun hl n0=>?_
 clear hl
 by_cases h1:lo<=n
 ·(try((repeat(revert hN;revert N;apply Pn.out));refine wk @h1 ?_;(repeat(refine Pn.mk ?_;intro N hN))))
  exact aC (b:=decide (n<=hi)) (.inl rfl) (sd @Nat.zero_add) (by simp[fI,h1])
 ·(try((repeat(revert hN;revert N;apply Pn.out));refine wk @h1 ?_;(repeat(refine Pn.mk ?_;intro N hN))))
  exact aC (b:=false) (.inl rfl) (sd @Nat.zero_add) (by simp[fI,h1])
theorem iq (n lo hi:Int):ae Tryz.prog 42 [.int .i64 n,.int .i64 lo,.int .i64 hi] (.bool (fI n lo hi)):=by
 refine ae.body dM rfl fun hl n0=>?_
 clear hl
 by_cases h1:lo<=n
 ·(try((repeat(revert hN;revert N;apply Pn.out));refine wk @h1 ?_;(repeat(refine Pn.mk ?_;intro N hN))))
  exact aC (b:=decide (n<=hi)) (.inl rfl) (sd @Nat.zero_add) (by simp[fI,h1])
 ·(try((repeat(revert hN;revert N;apply Pn.out));refine wk @h1 ?_;(repeat(refine Pn.mk ?_;intro N hN))))
  exact aC (b:=false) (.inl rfl) (sd @Nat.zero_add) (by simp[fI,h1])
theorem HB (d:Int):ae Tryz.prog 181 [.int .i64 d] (.bool (fI d 0 3)):=by
 refine ae.body dM rfl fun hl n0=>?_
 clear hl
 have h:=gU d 0 3
 (repeat(first|((repeat(revert hN;revert N;apply Pn.out));refine wk @Nat.zero_add ?_;(repeat(refine Pn.mk ?_;intro N hN)))|((try apply Or.inl);refine⟨_,ae.x (h) (sd @Nat.zero_add),?_⟩;refine hN _ _ ?_;clear hN N)))
 exact aC (b:=fI d 0 3) (.inl rfl) (sd @Nat.zero_add) rfl
theorem BW (p:cr):ae Tryz.prog 129 [.agg (ak p)] (.bool (F8 p)):=by
 refine ae.body dM rfl fun hl n0=>?_
 clear hl
 have h1:=gU p.gE (-60) 60
 have h2:=gU p.fQ (-60) 60
 by_cases q:fI p.gE (-60) 60=true
 ·rw[q]at h1
  (repeat(first|((repeat(revert hN;revert N;apply Pn.out));refine wk @ak.eq_1 ?_;(repeat(refine Pn.mk ?_;intro N hN)))|((try apply Or.inl);refine⟨_,ae.x (h1) (sd @ak.eq_1),?_⟩;refine hN _ _ ?_;clear hN N)|((try apply Or.inl);refine⟨_,ae.x (h2) (sd @ak.eq_1),?_⟩;refine hN _ _ ?_;clear hN N)))
  exact aC (b:=fI p.fQ (-60) 60) (.inl rfl) (sd @Nat.zero_add) (by rw[F8,q];rfl)
 ·rw[Bool.not_eq_true]at q
  rw[q]at h1
  (repeat(first|((repeat(revert hN;revert N;apply Pn.out));refine wk @ak.eq_1 ?_;(repeat(refine Pn.mk ?_;intro N hN)))|((try apply Or.inl);refine⟨_,ae.x (h1) (sd @ak.eq_1),?_⟩;refine hN _ _ ?_;clear hN N)|((try apply Or.inl);refine⟨_,ae.x (h2) (sd @ak.eq_1),?_⟩;refine hN _ _ ?_;clear hN N)))
  exact aC (b:=false) (.inl rfl) (sd @Nat.zero_add) (by rw[F8,q];rfl)
theorem w7 (p:cr):ae Tryz.prog 135 [.agg (ak p)] (.bool (F8 p)):=by
 refine ae.body dM rfl fun hl n0=>?_
 clear hl
 have h1:=iq p.gE (-60) 60
 have h2:=iq p.fQ (-60) 60
 by_cases q:fI p.gE (-60) 60=true
 ·rw[q]at h1
  (repeat(first|((repeat(revert hN;revert N;apply Pn.out));refine wk @ak.eq_1 ?_;(repeat(refine Pn.mk ?_;intro N hN)))|((try apply Or.inl);refine⟨_,ae.x (h1) (sd @ak.eq_1),?_⟩;refine hN _ _ ?_;clear hN N)|((try apply Or.inl);refine⟨_,ae.x (h2) (sd @ak.eq_1),?_⟩;refine hN _ _ ?_;clear hN N)))
  exact aC (b:=fI p.fQ (-60) 60) (.inl rfl) (sd @Nat.zero_add) (by rw[F8,q];rfl)
 ·rw[Bool.not_eq_true]at q
  rw[q]at h1
  (repeat(first|((repeat(revert hN;revert N;apply Pn.out));refine wk @ak.eq_1 ?_;(repeat(refine Pn.mk ?_;intro N hN)))|((try apply Or.inl);refine⟨_,ae.x (h1) (sd @ak.eq_1),?_⟩;refine hN _ _ ?_;clear hN N)|((try apply Or.inl);refine⟨_,ae.x (h2) (sd @ak.eq_1),?_⟩;refine hN _ _ ?_;clear hN N)))
  exact aC (b:=false) (.inl rfl) (sd @Nat.zero_add) (by rw[F8,q];rfl)
def rH (d:Int):Int:=if fI d 0 3 then(d+2) % 4 else -1
def eK (p:cr) (d:Int):cr:=
 if d=0 then⟨p.gE,p.fQ+1⟩else if d=1 then⟨p.gE+1,p.fQ⟩else if d=2 then⟨p.gE,p.fQ-1⟩else if d=3 then⟨p.gE-1,p.fQ⟩else p
def iB (n:Int):Prop:=-4611686018427387904<=n/\n<=4611686018427387904
theorem ET (p:cr) (d:Int) (hd:fI d 0 3=true) (hx:iB p.gE) (hy:iB p.fQ):ae Tryz.prog 162 [.agg (ak p),.int .i64 d] (.agg (ak (eK p d))):=by
 refine ae.body dM rfl fun hl n0=>?_
 clear hl
 obtain⟨x1,x2⟩:=hx
 obtain⟨y1,y2⟩:=hy
 have w1:IntKind.i64.wrap (p.gE+1)=p.gE+1:=aT ab
 have w2:IntKind.i64.wrap (p.gE-1)=p.gE-1:=aT ab
 have w3:IntKind.i64.wrap (p.fQ+1)=p.fQ+1:=aT ab
 have w4:IntKind.i64.wrap (p.fQ-1)=p.fQ-1:=aT ab
 have hb:=dB hd
 have hc:d=0∨d=1∨d=2∨d=3:=ab
 rcases hc with rfl|rfl|rfl|rfl
 ·(try((repeat(revert hN;revert N;apply Pn.out));refine wk (tw @ak.eq_1 @w3) ?_;(repeat(refine Pn.mk ?_;intro N hN))))
  exact kr (.inl rfl) (vs:=[.agg (ak (eK p 0))]) (by simp only[go_sem, ↓reduceIte,Nat.reduceEqDiff,Nat.reduceAdd,Nat.reduceSub,Nat.reduceLeDiff,reduceCtorEq,eU,gK,ak,eK]) (by simp[eF,ak,fC,dH])
 ·(try((repeat(revert hN;revert N;apply Pn.out));refine wk (tw @ak.eq_1 @w1) ?_;(repeat(refine Pn.mk ?_;intro N hN))))
  exact kr (.inl rfl) (vs:=[.agg (ak (eK p 1))]) (by simp[eU,gK,ak,eK,ld,rowAt,bY,upd,part]) (by simp[eF,ak,fC,dH])
 ·(try((repeat(revert hN;revert N;apply Pn.out));refine wk (tw @ak.eq_1 @w4) ?_;(repeat(refine Pn.mk ?_;intro N hN))))
  exact kr (.inl rfl) (vs:=[.agg (ak (eK p 2))]) (by simp[eU,gK,ak,eK,ld,rowAt,bY,upd,part]) (by simp[eF,ak,fC,dH])
 ·(try((repeat(revert hN;revert N;apply Pn.out));refine wk (tw @ak.eq_1 @w2) ?_;(repeat(refine Pn.mk ?_;intro N hN))))
  exact kr (.inl rfl) (vs:=[.agg (ak (eK p 3))]) (by simp[eU,gK,ak,eK,ld,rowAt,bY,upd,part]) (by simp[eF,ak,fC,dH])
theorem x9 (p p2:cr) (x y:Int) (hx:IntKind.i64.wrap (p.gE+p2.gE)=x) (hy:IntKind.i64.wrap (p.fQ+p2.fQ)=y):ae Tryz.prog 194 [.agg (ak p),.agg (ak p2)] (.agg [.int .i64 x,.int .i64 y]):=by
 refine ae.body dM rfl fun hl n0=>?_
 clear hl
 (try((repeat(revert hN;revert N;apply Pn.out));refine wk (tw @ak.eq_1 (tw @hx @hy)) ?_;(repeat(refine Pn.mk ?_;intro N hN))))
 exact kr (.inl rfl) (vs:=[.agg [.int .i64 x,.int .i64 y]]) (by simp only[go_sem, ↓reduceIte,Nat.reduceEqDiff,Nat.reduceAdd,Nat.reduceSub,Nat.reduceLeDiff,reduceCtorEq,eU,gK,ak]) (by simp[eF,fC,dH])
theorem Ny (p:cr) (d:Int) (hd:fI d 0 3=true) (hx:iB p.gE) (hy:iB p.fQ):ae Tryz.prog 188 [.agg (ak p),.int .i64 d] (.agg (ak (eK p d))):=by
 refine ae.body dM rfl fun hl n0=>?_
 clear hl
 obtain⟨x1,x2⟩:=hx
 obtain⟨y1,y2⟩:=hy
 have hb:=dB hd
 have hc:d=0∨d=1∨d=2∨d=3:=ab
 rcases hc with rfl|rfl|rfl|rfl
 ·have h:=x9 p ⟨0,1⟩ (p.gE) (p.fQ+1) (by rw[aT (by constructor<;>simp only<;>omega)]<;>(try simp only)<;>(try omega)) (by rw[aT (by constructor<;>simp only<;>omega)]<;>(try simp only)<;>(try omega))
  simp only[ak]at h
  (repeat(first|((repeat(revert hN;revert N;apply Pn.out));refine wk @ak.eq_1 ?_;(repeat(refine Pn.mk ?_;intro N hN)))|((try apply Or.inl);refine⟨_,ae.x (h) (sd @ak.eq_1),?_⟩;refine hN _ _ ?_;clear hN N)))
  exact kr (.inl rfl) (vs:=[.agg (ak (eK p 0))]) (by simp[eU,gK,ak,eK,ld,rowAt,bY,upd,part]) (by simp[eF,ak,fC,dH])
 ·have h:=x9 p ⟨1,0⟩ (p.gE+1) (p.fQ) (by rw[aT (by constructor<;>simp only<;>omega)]<;>(try simp only)<;>(try omega)) (by rw[aT (by constructor<;>simp only<;>omega)]<;>(try simp only)<;>(try omega))
  simp only[ak]at h
  (repeat(first|((repeat(revert hN;revert N;apply Pn.out));refine wk @ak.eq_1 ?_;(repeat(refine Pn.mk ?_;intro N hN)))|((try apply Or.inl);refine⟨_,ae.x (h) (sd @ak.eq_1),?_⟩;refine hN _ _ ?_;clear hN N)))
  exact kr (.inl rfl) (vs:=[.agg (ak (eK p 1))]) (by simp[eU,gK,ak,eK,ld,rowAt,bY,upd,part]) (by simp[eF,ak,fC,dH])
 ·have h:=x9 p ⟨0,(-1)⟩ (p.gE) (p.fQ-1) (by rw[aT (by constructor<;>simp only<;>omega)]<;>(try simp only)<;>(try omega)) (by rw[aT (by constructor<;>simp only<;>omega)]<;>(try simp only)<;>(try omega))
  simp only[ak]at h
  (repeat(first|((repeat(revert hN;revert N;apply Pn.out));refine wk @ak.eq_1 ?_;(repeat(refine Pn.mk ?_;intro N hN)))|((try apply Or.inl);refine⟨_,ae.x (h) (sd @ak.eq_1),?_⟩;refine hN _ _ ?_;clear hN N)))
  exact kr (.inl rfl) (vs:=[.agg (ak (eK p 2))]) (by simp[eU,gK,ak,eK,ld,rowAt,bY,upd,part]) (by simp[eF,ak,fC,dH])
 ·have h:=x9 p ⟨(-1),0⟩ (p.gE-1) (p.fQ) (by rw[aT (by constructor<;>simp only<;>omega)]<;>(try simp only)<;>(try omega)) (by rw[aT (by constructor<;>simp only<;>omega)]<;>(try simp only)<;>(try omega))
  simp only[ak]at h
  (repeat(first|((repeat(revert hN;revert N;apply Pn.out));refine wk @ak.eq_1 ?_;(repeat(refine Pn.mk ?_;intro N hN)))|((try apply Or.inl);refine⟨_,ae.x (h) (sd @ak.eq_1),?_⟩;refine hN _ _ ?_;clear hN N)))
  exact kr (.inl rfl) (vs:=[.agg (ak (eK p 3))]) (by simp[eU,gK,ak,eK,ld,rowAt,bY,upd,part]) (by simp[eF,ak,fC,dH])
theorem Cf (d:Int) (hd:fI d 0 3=true):ae Tryz.prog 189 [.int .i64 d] (.int .i64 (rH d)):=by
 refine ae.body dM rfl fun hl n0=>?_
 clear hl
 have hb:=dB hd
 have hw:IntKind.i64.wrap (d+2)=d+2:=aT ab
 have ht:Int.tmod (d+2) 4=(d+2) % 4:=Int.tmod_eq_emod_of_nonneg ab
 have h4:¬((4:Int)=0):=ab
 (try((repeat(revert hN;revert N;apply Pn.out));refine wk (tw @hw (tw @ht @h4)) ?_;(repeat(refine Pn.mk ?_;intro N hN))))
 exact aZ (b:=(d+2) % 4) (.inl rfl) (sd @Nat.zero_add) (by rw[rH,if_pos hd])
theorem AR (d:Int) (hd:fI d 0 3=true):ae Tryz.prog 163 [.int .i64 d] (.int .i64 (rH d)):=by
 refine ae.body dM rfl fun hl n0=>?_
 clear hl
 have hb:=dB hd
 have hw:IntKind.i64.wrap (d+2)=d+2:=aT ab
 have ht:Int.tmod (d+2) 4=(d+2) % 4:=Int.tmod_eq_emod_of_nonneg ab
 have h4:¬((4:Int)=0):=ab
 have h:=HB d
 rw[hd]at h
 (repeat(first|((repeat(revert hN;revert N;apply Pn.out));refine wk (tw @hw (tw @ht @h4)) ?_;(repeat(refine Pn.mk ?_;intro N hN)))|((try apply Or.inl);refine⟨_,ae.x (h) (sd (tw @hw (tw @ht @h4))),?_⟩;refine hN _ _ ?_;clear hN N)))
 exact aZ (b:=(d+2) % 4) (.inl rfl) (sd @Nat.zero_add) (by rw[rH,if_pos hd])
def gy (s:aw) (t:Int):Bool:=fI t 0 ((s.ah.length:Int)-1)
theorem BX (s:aw) (t:Int):ae Tryz.prog 96 [.cJ (aa s),.int .i64 t] (.bool (gy s t)):=by
 refine ae.body dM rfl fun hl n0=>?_
 have hn:s.ah.length<=9223372036854775807:=by
  have h1:=(hl (.cJ (aa s)) (by simp)).ua (a:=.sl (s.ah.map bj)) (by simp[aa])
  simpa using h1.len
 clear hl
 have hw:IntKind.i64.wrap ((s.ah.length:Int)-1)=(s.ah.length:Int)-1:=aT ab
 have h:=gU t 0 ((s.ah.length:Int)-1)
 (repeat(first|((repeat(revert hN;revert N;apply Pn.out));refine wk (tw @aa.eq_1 @hw) ?_;(repeat(refine Pn.mk ?_;intro N hN)))|((try apply Or.inl);refine⟨_,ae.x (h) (sd (tw @aa.eq_1 @hw)),?_⟩;refine hN _ _ ?_;clear hN N)))
 exact aC (b:=gy s t) (.inl rfl) (by simp only[go_sem, ↓reduceIte,Nat.reduceEqDiff,Nat.reduceAdd,Nat.reduceSub,Nat.reduceLeDiff,reduceCtorEq,gy]) rfl
theorem rE (t n:Int) (h0:0<=n) (h1:n<=9223372036854775807):ae Tryz.prog 136 [.int .i64 t,.int .i64 n] (.bool (fI t 0 (n-1))):=by
 refine ae.body dM rfl fun hl n0=>?_
 clear hl
 have hw:IntKind.i64.wrap (n-1)=n-1:=aT ab
 have h:=iq t 0 (n-1)
 (repeat(first|((repeat(revert hN;revert N;apply Pn.out));refine wk @hw ?_;(repeat(refine Pn.mk ?_;intro N hN)))|((try apply Or.inl);refine⟨_,ae.x (h) (sd @hw),?_⟩;refine hN _ _ ?_;clear hN N)))
 exact aC (b:=fI t 0 (n-1)) (.inl rfl) (sd @Nat.zero_add) rfl
theorem HA (s:aw) (t:Int):ae Tryz.prog 106 [.agg (aa s),.int .i64 t] (.bool (gy s t)):=by
 refine ae.body dM rfl fun hl n0=>?_
 have hn:s.ah.length<=9223372036854775807:=by
  have h1:=(hl (.agg (aa s)) (by simp)).Gt (a:=.sl (s.ah.map bj)) (by simp[aa])
  simpa using h1.len
 clear hl
 have h:=rE t s.ah.length ab ab
 (repeat(first|((repeat(revert hN;revert N;apply Pn.out));refine wk @aa.eq_1 ?_;(repeat(refine Pn.mk ?_;intro N hN)))|((try apply Or.inl);refine⟨_,ae.x (h) (sd @aa.eq_1),?_⟩;refine hN _ _ ?_;clear hN N)))
 exact aC (b:=gy s t) (.inl rfl) (by simp only[go_sem, ↓reduceIte,Nat.reduceEqDiff,Nat.reduceAdd,Nat.reduceSub,Nat.reduceLeDiff,reduceCtorEq,gy]) rfl
def Cb:eI:=⟨⟨#[]⟩,[]⟩
def dd (s:aw) (t:Int):eI:=s.ah.getD t.toNat Cb
def dc (t:eI) (d:Int):Int:=t.bp.getD d.toNat 0
def iA (s:aw) (g:Int):fc:=s.au.getD g.toNat ⟨⟨#[]⟩,0⟩
def uE (s:aw) (g:Int):Int:=if g=0 then 0 else(iA s (g-1)).dQ
def iR (s:aw) (a d b:Int):Int:=if dc (dd s a) d=dc (dd s b) (rH d)then uE s (dc (dd s a) d)else 0
structure iE (s:aw):Prop where
 nT:∀t∈s.ah,t.bp.length=4
 r6:∀t∈s.ah,∀g∈t.bp,0<=g/\g<=s.au.length
theorem getD_map {α β:Type} (e:α->β) {l:List α} {k:Nat} {d:α} (h:k<l.length):(l.map e)[k]? =some (e (l.getD k d)):=by simp[List.getD_eq_getElem?_getD,h]
theorem vw (s:aw) (g:Int) (h0:0<=g) (h1:g<=s.au.length):ae Tryz.prog 164 [.cJ (aa s),.int .i64 g] (.int .i64 (uE s g)):=by
 refine ae.body dM rfl fun hl n0=>?_
 have hn:s.au.length<=9223372036854775807:=by
  have h1:=(hl (.cJ (aa s)) (by simp)).ua (a:=.sl (s.au.map bd)) (by simp[aa])
  simpa using h1.len
 clear hl
 by_cases hg:g=0
 ·have e:decide (g=0)=true:=decide_eq_true hg
  (try((repeat(revert hN;revert N;apply Pn.out));refine wk (tw @aa.eq_1 @e) ?_;(repeat(refine Pn.mk ?_;intro N hN))))
  exact aZ (b:=0) (.inl rfl) (sd @Nat.zero_add) (by rw[uE,if_pos hg])
 ·have e:decide (g=0)=false:=decide_eq_false hg
  have hw:IntKind.i64.wrap (g-1)=g-1:=aT ab
  have jx:0<=g-1:=ab
  have dR:(s.au.map bd)[(g-1).toNat]? =some (bd (iA s (g-1))):=getD_map bd ab
  (try((repeat(revert hN;revert N;apply Pn.out));refine wk (tw @aa.eq_1 (tw @e (tw @hw (tw @jx (tw @dR @bd.eq_1))))) ?_;(repeat(refine Pn.mk ?_;intro N hN))))
  exact aZ (b:=(iA s (g-1)).dQ) (.inl rfl) (sd @Nat.zero_add) (by rw[uE,if_neg hg])
theorem kD {s:aw} {a:Int} (h:gy s a=true):0<=a/\(s.ah.map bj)[a.toNat]? =some (bj (dd s a))/\dd s a∈s.ah:=by
 have h':=dB h
 have dD:a.toNat<s.ah.length:=ab
 refine⟨h'.1,getD_map bj dD,?_⟩
 unfold dd
 rw[List.getD_eq_getElem?_getD,List.getElem?_eq_getElem dD]
 exact List.getElem_mem dD
theorem kA {t:eI} {d:Int} (h:t.bp.length=4) (hd:fI d 0 3=true):(t.bp.map ar)[d.toNat]? =some [.int .i64 (dc t d)]:=by
 have:=dB hd
 exact getD_map ar ab
theorem qD {t:eI} {d:Int} (h:t.bp.length=4) (hd:fI d 0 3=true):dc t d∈t.bp:=by
 have:=dB hd
 have dD:d.toNat<t.bp.length:=ab
 unfold dc
 rw[List.getD_eq_getElem?_getD,List.getElem?_eq_getElem dD]
 exact List.getElem_mem dD
theorem xZ {d:Int} (hd:fI d 0 3=true):fI (rH d) 0 3=true:=by
 have:=dB hd
 refine nI ?_
 rw[rH,if_pos hd];omega
theorem EU (s:aw) (hF:iE s) (a d b:Int) (ha:gy s a=true) (hb:gy s b=true) (hd:fI d 0 3=true):ae Tryz.prog 149 [.cJ (aa s),.int .i64 a,.int .i64 d,.int .i64 b] (.int .i64 (iR s a d b)):=by
 refine ae.body dM rfl fun hl n0=>?_
 clear hl
 obtain⟨a0,a1,a2⟩:=kD ha
 obtain⟨b0,b1,b2⟩:=kD hb
 have s1:=kA (hF.nT _ a2) hd
 have s2:=kA (hF.nT _ b2) (xZ hd)
 have gl:=hF.r6 _ a2 _ (qD (hF.nT _ a2) hd)
 have d0:=(dB hd).1
 have d1:=(dB (xZ hd)).1
 have h:=AR d hd
 have hs:=vw s (dc (dd s a) d) gl.1 gl.2
 rw[aa]at hs
 by_cases e:dc (dd s a) d=dc (dd s b) (rH d)
 ·have e':decide (dc (dd s a) d=dc (dd s b) (rH d))=true:=decide_eq_true e
  (repeat(first|((repeat(revert hN;revert N;apply Pn.out));refine wk (tw @aa.eq_1 (tw @bj.eq_1 (tw @a0 (tw @a1 (tw @b0 (tw @b1 (tw @s1 (tw @s2 (tw @d0 (tw @d1 @e')))))))))) ?_;(repeat(refine Pn.mk ?_;intro N hN)))|((try apply Or.inl);refine⟨_,ae.x (h) (sd (tw @aa.eq_1 (tw @bj.eq_1 (tw @a0 (tw @a1 (tw @b0 (tw @b1 (tw @s1 (tw @s2 (tw @d0 (tw @d1 @e'))))))))))),?_⟩;refine hN _ _ ?_;clear hN N)|((try apply Or.inl);refine⟨_,ae.x (hs) (sd (tw @aa.eq_1 (tw @bj.eq_1 (tw @a0 (tw @a1 (tw @b0 (tw @b1 (tw @s1 (tw @s2 (tw @d0 (tw @d1 @e'))))))))))),?_⟩;refine hN _ _ ?_;clear hN N)))
  exact aZ (b:=uE s (dc (dd s a) d)) (.inl rfl) (sd @Nat.zero_add) (by rw[iR,if_pos e])
 ·have e':decide (dc (dd s a) d=dc (dd s b) (rH d))=false:=decide_eq_false e
  (repeat(first|((repeat(revert hN;revert N;apply Pn.out));refine wk (tw @aa.eq_1 (tw @bj.eq_1 (tw @a0 (tw @a1 (tw @b0 (tw @b1 (tw @s1 (tw @s2 (tw @d0 (tw @d1 @e')))))))))) ?_;(repeat(refine Pn.mk ?_;intro N hN)))|((try apply Or.inl);refine⟨_,ae.x (h) (sd (tw @aa.eq_1 (tw @bj.eq_1 (tw @a0 (tw @a1 (tw @b0 (tw @b1 (tw @s1 (tw @s2 (tw @d0 (tw @d1 @e'))))))))))),?_⟩;refine hN _ _ ?_;clear hN N)))
  exact aZ (b:=0) (.inl rfl) (sd @Nat.zero_add) (by rw[iR,if_neg e])
theorem Cz (s:aw) (hF:iE s) (a d:Int) (ha:gy s a=true) (hd:fI d 0 3=true):ae Tryz.prog 190 [.agg (aa s),.int .i64 a,.int .i64 d] (.int .i64 (uE s (dc (dd s a) d))):=by
 refine ae.body dM rfl fun hl n0=>?_
 have hn:s.au.length<=9223372036854775807:=by
  have h1:=(hl (.agg (aa s)) (by simp)).Gt (a:=.sl (s.au.map bd)) (by simp[aa])
  simpa using h1.len
 clear hl
 obtain⟨a0,a1,a2⟩:=kD ha
 have s1:=kA (hF.nT _ a2) hd
 have gl:=hF.r6 _ a2 _ (qD (hF.nT _ a2) hd)
 have d0:=(dB hd).1
 by_cases hg:dc (dd s a) d=0
 ·have e:¬(0<dc (dd s a) d):=ab
  (try((repeat(revert hN;revert N;apply Pn.out));refine wk (tw @aa.eq_1 (tw @bj.eq_1 (tw @a0 (tw @a1 (tw @s1 (tw @d0 @e)))))) ?_;(repeat(refine Pn.mk ?_;intro N hN))))
  exact aZ (b:=0) (.inl rfl) (sd @Nat.zero_add) (by rw[uE,if_pos hg])
 ·have e:0<dc (dd s a) d:=ab
  have hw:IntKind.i64.wrap (dc (dd s a) d-1)=dc (dd s a) d-1:=aT ab
  have jx:0<=dc (dd s a) d-1:=ab
  have dR:(s.au.map bd)[(dc (dd s a) d-1).toNat]? =some (bd (iA s (dc (dd s a) d-1))):=getD_map bd ab
  (try((repeat(revert hN;revert N;apply Pn.out));refine wk (tw @aa.eq_1 (tw @bj.eq_1 (tw @a0 (tw @a1 (tw @s1 (tw @d0 (tw @e (tw @hw (tw @jx (tw @dR @bd.eq_1)))))))))) ?_;(repeat(refine Pn.mk ?_;intro N hN))))
  exact aZ (b:=(iA s (dc (dd s a) d-1)).dQ) (.inl rfl) (sd @Nat.zero_add) (by rw[uE,if_neg hg])
theorem LS (s:aw) (hF:iE s) (a d b:Int) (ha:gy s a=true) (hb:gy s b=true) (hd:fI d 0 3=true):ae Tryz.prog 173 [.agg (aa s),.int .i64 a,.int .i64 d,.int .i64 b] (.int .i64 (iR s a d b)):=by
 refine ae.body dM rfl fun hl n0=>?_
 clear hl
 obtain⟨a0,a1,a2⟩:=kD ha
 obtain⟨b0,b1,b2⟩:=kD hb
 have s1:=kA (hF.nT _ a2) hd
 have s2:=kA (hF.nT _ b2) (xZ hd)
 have d0:=(dB hd).1
 have d1:=(dB (xZ hd)).1
 have h:=Cf d hd
 have hs:=Cz s hF a d ha hd
 rw[aa]at hs
 by_cases e:dc (dd s a) d=dc (dd s b) (rH d)
 ·have e':decide (dc (dd s a) d=dc (dd s b) (rH d))=true:=decide_eq_true e
  (repeat(first|((repeat(revert hN;revert N;apply Pn.out));refine wk (tw @aa.eq_1 (tw @bj.eq_1 (tw @a0 (tw @a1 (tw @b0 (tw @b1 (tw @s1 (tw @s2 (tw @d0 (tw @d1 @e')))))))))) ?_;(repeat(refine Pn.mk ?_;intro N hN)))|((try apply Or.inl);refine⟨_,ae.x (h) (sd (tw @aa.eq_1 (tw @bj.eq_1 (tw @a0 (tw @a1 (tw @b0 (tw @b1 (tw @s1 (tw @s2 (tw @d0 (tw @d1 @e'))))))))))),?_⟩;refine hN _ _ ?_;clear hN N)|((try apply Or.inl);refine⟨_,ae.x (hs) (sd (tw @aa.eq_1 (tw @bj.eq_1 (tw @a0 (tw @a1 (tw @b0 (tw @b1 (tw @s1 (tw @s2 (tw @d0 (tw @d1 @e'))))))))))),?_⟩;refine hN _ _ ?_;clear hN N)))
  exact aZ (b:=uE s (dc (dd s a) d)) (.inl rfl) (sd @Nat.zero_add) (by rw[iR,if_pos e])
 ·have e':decide (dc (dd s a) d=dc (dd s b) (rH d))=false:=decide_eq_false e
  (repeat(first|((repeat(revert hN;revert N;apply Pn.out));refine wk (tw @aa.eq_1 (tw @bj.eq_1 (tw @a0 (tw @a1 (tw @b0 (tw @b1 (tw @s1 (tw @s2 (tw @d0 (tw @d1 @e')))))))))) ?_;(repeat(refine Pn.mk ?_;intro N hN)))|((try apply Or.inl);refine⟨_,ae.x (h) (sd (tw @aa.eq_1 (tw @bj.eq_1 (tw @a0 (tw @a1 (tw @b0 (tw @b1 (tw @s1 (tw @s2 (tw @d0 (tw @d1 @e'))))))))))),?_⟩;refine hN _ _ ?_;clear hN N)))
  exact aZ (b:=0) (.inl rfl) (sd @Nat.zero_add) (by rw[iR,if_neg e])
def oP (s:aw) (i:Nat):fc:=s.au.getD i ⟨⟨#[]⟩,0⟩
def nV (s:aw) (i:Nat):eI:=s.ah.getD i Cb
def AQ (s:aw) (i:Nat):Prop:=jn (oP s i).aB=true/\fI (oP s i).dQ 1 4=true/\∀j,j<i->(oP s j).aB≠(oP s i).aB
def yQ (s:aw) (i:Nat):Prop:=jn (nV s i).aB=true/\(nV s i).bp.length=4/\(∀j,j<i->(nV s j).aB≠(nV s i).aB)/\∀g∈(nV s i).bp,fI g 0 s.au.length=true
structure lY (s:aw):Prop where
 r6:s.au.length<=200
 some:1<=s.ah.length
 LB:s.ah.length<=160
 RH:∀i,i<s.au.length->AQ s i
 tok:∀i,i<s.ah.length->yQ s i
noncomputable def pE (s:aw):Bool:=@decide (lY s) (Classical.propDecidable _)
theorem lP {s:aw}:pE s=true↔lY s:=by simp[pE]
theorem fj {s:aw} (h:¬lY s):false=pE s:=by simp[pE,h]
theorem Ap {s:aw} (h:lY s):true=pE s:=by simp[pE,h]
theorem yl {s:aw} {i:Nat} (h:i<s.ah.length):(s.ah.map bj)[i]? =some (bj (nV s i)):=getD_map bj h
theorem xx {s:aw} {i:Nat} (h:i<s.au.length):(s.au.map bd)[i]? =some (bd (oP s i)):=getD_map bd h
theorem lY.form {s:aw} (h:lY s):iE s:=by
 have key:∀t∈s.ah,∃i,i<s.ah.length/\t=nV s i:=fun t ht=>by
  obtain⟨i,hi,rfl⟩:=List.getElem_of_mem ht
  exact⟨i,hi,by simp[nV,List.getD_eq_getElem?_getD,hi]⟩
 refine⟨fun t ht=>?_,fun t ht g hg=>?_⟩
 ·obtain⟨i,hi,rfl⟩:=key t ht
  exact(h.tok i hi).2.1
 ·obtain⟨i,hi,rfl⟩:=key t ht
  exact dB ((h.tok i hi).2.2.2 g hg)
def dp (l:List ByteArray):List (List AV):=l.map fun n=>[.str n,.bool true]
abbrev mS:MK:=⟨false,[.tS]⟩
theorem wO (n:ByteArray):∀(l:List ByteArray) (i:Nat),∃r,gY mS [.str n] (dp l) i=some r/\((r=none/\n∉l)∨∃j,r=some (i+j)/\n∈l/\(dp l)[j]? =some [.str n,.bool true])
 |[],i=>⟨none,rfl,.inl ⟨rfl,by simp⟩⟩
 |m::l,i=>by
  obtain⟨r,h1,h2⟩:=wO n l (i+1)
  by_cases h:n=m
  ·subst h
   exact⟨some i,by simp[dp,gY,e7,gn,MK.ks],.inr ⟨0,rfl,by simp,rfl⟩⟩
  ·refine⟨r,?_,?_⟩
   ·unfold dp at h1 ⊢
    simp only[List.map_cons,gY,MK.ks,List.length_cons,List.length_nil,Nat.zero_add,List.take_succ_cons,List.take_zero,e7,gn,h,decide_false,Bool.and_true]
    exact h1
   ·rcases h2 with⟨rfl,h2⟩|⟨j,rfl,h2,h3⟩
    ·exact .inl ⟨rfl,by simp[h,h2]⟩
    ·exact .inr ⟨j+1,by congr 1;omega,by simp[h2],by simpa[dp]using h3⟩
theorem uC (n:ByteArray) (l:List ByteArray):(n∉l/\gP mS (.str n) (dp l)=some none)∨∃j,n∈l/\gP mS (.str n) (dp l)=some (some j)/\(dp l)[j]? =some [.str n,.bool true]:=by
 obtain⟨r,h1,h2⟩:=wO n l 0
 have e:gP mS (.str n) (dp l)=some r:=by
  unfold gP
  rw[if_pos ⟨rfl,rfl,rfl⟩];exact h1
 rcases h2 with⟨rfl,h2⟩|⟨j,rfl,h2,h3⟩
 ·exact .inl ⟨h2,e⟩
 ·exact .inr ⟨j,h2,by rw[e,Nat.zero_add],h3⟩
theorem Nw (s:aw) (g:Int):ae Tryz.prog 134 [.int .i64 g,.cJ (aa s)] (.bool (!fI g 0 s.au.length)):=by
 refine ae.body dM rfl fun hl n0=>?_
 clear hl
 have h:=iq g 0 s.au.length
 (repeat(first|((repeat(revert hN;revert N;apply Pn.out));refine wk @aa.eq_1 ?_;(repeat(refine Pn.mk ?_;intro N hN)))|((try apply Or.inl);refine⟨_,ae.x (h) (sd @aa.eq_1),?_⟩;refine hN _ _ ?_;clear hN N)))
 exact aC (b:= !fI g 0 s.au.length) (.inl rfl) (sd @Nat.zero_add) rfl
theorem Jv:N4 ar (fun c=>.int .i64 c) 1 false:=⟨fun _=>rfl,fun _=>rfl,fun x g=>by rw[ad,aI,aj];rfl⟩
theorem KL (s:aw) (l:List Int) (hl:l.length<=1048576):ae Tryz.prog 133 [.sl (l.map ar),.fn 134 [.cJ (aa s)]] (.bool (l.any fun g=> !fI g 0 s.au.length)):=
 j8 Jv (show kK Tryz.prog 133=some (xE 133 156) by kernel_rfl)
  (show kK Tryz.prog 156=some (rz 156 1 false) by kernel_rfl) l hl _ _ _ rfl (fun g=>by rw[ad,aV,aj];rfl) (fun x _=>Nw s x) fun g=>by rw[ad,aV,aj];rfl
theorem uk {α:Type} (f:Nat->α) (n k:Nat) (x:α):x∉(List.range k).map f↔∀j,j<k->f j≠x:=by
 constructor
 ·intro h j hj he
  exact h (List.mem_map.2 ⟨j,List.mem_range.2 hj,he⟩)
 ·intro h hm
  obtain⟨j,hj,he⟩:=List.mem_map.1 hm
  exact h j (List.mem_range.1 hj) he
theorem AT (s:aw) (hn:fx s) (hg:s.au.length<=1048576) (ht:s.ah.length<=1048576) (hs:∀t∈s.ah,t.bp.length<=1048576):ae Tryz.prog 102 [.agg (aa s)] (.bool (pE s)):=by
 refine ae.body dM rfl fun hl n0=>?_
 clear hl
 have Mz:∀i,i<s.au.length->(oP s i).aB.size<=9223372036854775807:=fun i hi=>hn.1 _ (by simp[oP,List.getD_eq_getElem?_getD,hi])
 have SL:∀i,i<s.ah.length->(nV s i).aB.size<=9223372036854775807:=fun i hi=>hn.2 _ (by simp[nV,List.getD_eq_getElem?_getD,hi])
 have vp:∀i,i<s.ah.length->(nV s i).bp.length<=1048576:=fun i hi=>hs _ (by simp[nV,List.getD_eq_getElem?_getD,hi])
 have hw:=iq (s.ah.length:Int) 1 160
 by_cases h1:(200:Int)<(s.au.length:Int)
 ·(try((repeat(revert hN;revert N;apply Pn.out));refine wk (tw @aa.eq_1 @h1) ?_;(repeat(refine Pn.mk ?_;intro N hN))))
  exact aC (b:=false) (.inl rfl) (sd @Nat.zero_add) (fj fun h=>by have:=h.r6;omega)
 by_cases h2:fI (s.ah.length:Int) 1 160=true
 ·have yE:=dB h2
  rw[h2]at hw
  (repeat(first|((repeat(revert hN;revert N;apply Pn.out));refine wk (tw @aa.eq_1 @h1) ?_;(repeat(refine Pn.mk ?_;intro N hN)))|((try apply Or.inl);refine⟨_,ae.x (hw) (sd (tw @aa.eq_1 @h1)),?_⟩;refine hN _ _ ?_;clear hN N)))
  refine aP (fun n env st=>∃k:Nat,n=(s.au.length)-k/\k<=(s.au.length)/\env 24=.int .i64 (k:Int)/\st.get ⟨102000000,n0⟩=some ⟨true,2,[aa s]⟩/\st.get ⟨102003000,n0+1+1⟩=some ⟨true,mS.Cp,dp ((List.range k).map fun i=>(oP s i).aB)⟩/\(∀j:Nat,j<k->AQ s j)) (s.au.length) ⟨0,ab,ab,by(try simp only[go_sem, ↓reduceIte,Nat.reduceEqDiff,Nat.reduceAdd,Nat.reduceSub,Nat.reduceLeDiff,reduceCtorEq,aa,List.range_zero,List.map_nil,dp]);try rfl,by(try simp only[go_sem, ↓reduceIte,Nat.reduceEqDiff,Nat.reduceAdd,Nat.reduceSub,Nat.reduceLeDiff,reduceCtorEq,aa,List.range_zero,List.map_nil,dp]);try rfl,by(try simp only[go_sem, ↓reduceIte,Nat.reduceEqDiff,Nat.reduceAdd,Nat.reduceSub,Nat.reduceLeDiff,reduceCtorEq,aa,List.range_zero,List.map_nil,dp]);try rfl,fun _ h=>absurd h (Nat.not_lt_zero _)⟩ ?_
  rintro n_a env_a st_a ⟨k,rfl,ale,oM,ag0,ag1,iM⟩ dm
  have a1:=dm 1 (by kernel_rfl);have a3:=dm 3 (by kernel_rfl);have o6:=dm 22 (by kernel_rfl);have kG:=dm 23 (by kernel_rfl)
  simp only[go_sem, ↓reduceIte,Nat.reduceEqDiff,Nat.reduceAdd,Nat.reduceSub,Nat.reduceLeDiff,reduceCtorEq,aa,List.range_zero,List.map_nil,dp]at a1 a3 o6 kG
  clear dm
  by_cases hk:(k:Int)<(s.au.length:Int)
  ·have bD:∀{e:Env} {gg:Rows},(e 24=.int .i64 (IntKind.i64.wrap ((k:Int)+1)))->(gg ⟨102000000,n0⟩=some ⟨true,2,[aa s]⟩)->(gg ⟨102003000,n0+1+1⟩=some ⟨true,mS.Cp,dp ((List.range (k+1)).map fun i=>(oP s i).aB)⟩)->(AQ s k)->∃m0,m0<(s.au.length)-k/\∃k:Nat,m0=(s.au.length)-k/\k<=(s.au.length)/\e 24=.int .i64 (k:Int)/\gg ⟨102000000,n0⟩=some ⟨true,2,[aa s]⟩/\gg ⟨102003000,n0+1+1⟩=some ⟨true,mS.Cp,dp ((List.range k).map fun i=>(oP s i).aB)⟩/\(∀j:Nat,j<k->AQ s j):=fun x1 x2 x3 x4=>⟨_,ab,k+1,rfl,ab,(by rw[x1,ay ab]),x2,x3,(all_succ iM x4)⟩
   have dX:k<s.au.length:=ab
   have eB:=xx dX
   have qR:=Dq (oP s k).aB (Mz k dX)
   have Ja:=iq (oP s k).dQ 1 4
   have zP:=uC (oP s k).aB ((List.range k).map fun i=>(oP s i).aB)
   rw[uk _ k]at zP
   have la:(¬AQ s k)->¬lY s:=fun h hp=>h (hp.RH k dX)
   generalize sS:oP s k=gl at *
   cases hb:jn gl.aB
   ·rw[hb]at qR
    (repeat(first|((repeat(revert hN;revert N;apply Pn.out));refine wk (tw @oM (tw @ag0 (tw @ag1 (tw @a1 (tw @a3 (tw @o6 (tw @kG (tw @hk (tw @eB (tw @bd.eq_1 @aa.eq_1)))))))))) ?_;(repeat(refine Pn.mk ?_;intro N hN)))|((try apply Or.inl);refine⟨_,ae.x (qR) (sd (tw @oM (tw @ag0 (tw @ag1 (tw @a1 (tw @a3 (tw @o6 (tw @kG (tw @hk (tw @eB (tw @bd.eq_1 @aa.eq_1))))))))))),?_⟩;refine hN _ _ ?_;clear hN N)))
    exact aC (b:=false) (.inl rfl) (sd @Nat.zero_add) (fj (la fun h=>by rw[AQ,sS,hb]at h;cases h.1))
   ·rw[hb]at qR
    rcases zP with⟨BE,mV⟩|⟨j,fN,mV,fH⟩
    ·cases ev:fI gl.dQ 1 4
     ·rw[ev]at Ja
      (repeat(first|((repeat(revert hN;revert N;apply Pn.out));refine wk (tw @oM (tw @ag0 (tw @ag1 (tw @a1 (tw @a3 (tw @o6 (tw @kG (tw @hk (tw @eB (tw @mV (tw @bd.eq_1 @aa.eq_1))))))))))) ?_;(repeat(refine Pn.mk ?_;intro N hN)))|((try apply Or.inl);refine⟨_,ae.x (qR) (sd (tw @oM (tw @ag0 (tw @ag1 (tw @a1 (tw @a3 (tw @o6 (tw @kG (tw @hk (tw @eB (tw @mV (tw @bd.eq_1 @aa.eq_1)))))))))))),?_⟩;refine hN _ _ ?_;clear hN N)|((try apply Or.inl);refine⟨_,ae.x (Ja) (sd (tw @oM (tw @ag0 (tw @ag1 (tw @a1 (tw @a3 (tw @o6 (tw @kG (tw @hk (tw @eB (tw @mV (tw @bd.eq_1 @aa.eq_1)))))))))))),?_⟩;refine hN _ _ ?_;clear hN N)))
      exact aC (b:=false) (.inl rfl) (sd @Nat.zero_add) (fj (la fun h=>by rw[AQ,sS,ev]at h;cases h.2.1))
     ·rw[ev]at Ja
      have tT:dp ((List.range k).map fun i=>(oP s i).aB)++[[.str gl.aB,.bool true]]=dp (List.map (fun i=>(oP s i).aB) (List.range k++[k])):=by simp[dp,sS]
      (repeat(first|((repeat(revert hN;revert N;apply Pn.out));refine wk (tw @oM (tw @ag0 (tw @ag1 (tw @a1 (tw @a3 (tw @o6 (tw @kG (tw @hk (tw @eB (tw @mV (tw @bd.eq_1 @aa.eq_1))))))))))) ?_;(repeat(refine Pn.mk ?_;intro N hN)))|((try apply Or.inl);refine⟨_,ae.x (qR) (sd (tw @oM (tw @ag0 (tw @ag1 (tw @a1 (tw @a3 (tw @o6 (tw @kG (tw @hk (tw @eB (tw @mV (tw @bd.eq_1 @aa.eq_1)))))))))))),?_⟩;refine hN _ _ ?_;clear hN N)|((try apply Or.inl);refine⟨_,ae.x (Ja) (sd (tw @oM (tw @ag0 (tw @ag1 (tw @a1 (tw @a3 (tw @o6 (tw @kG (tw @hk (tw @eB (tw @mV (tw @bd.eq_1 @aa.eq_1)))))))))))),?_⟩;refine hN _ _ ?_;clear hN N)))
      refine bD ?_ ?_ ?_ (⟨by rw[sS];exact hb,by rw[sS];exact ev,fun j hj=>by rw[sS];exact BE j hj⟩)
      all_goals simp only[go_sem, ↓reduceIte,Nat.reduceEqDiff,Nat.reduceAdd,Nat.reduceSub,Nat.reduceLeDiff,reduceCtorEq,oM,ag0,ag1,a1,a3,o6,kG,mV,tT]
    ·(repeat(first|((repeat(revert hN;revert N;apply Pn.out));refine wk (tw @oM (tw @ag0 (tw @ag1 (tw @a1 (tw @a3 (tw @o6 (tw @kG (tw @hk (tw @eB (tw @mV (tw @fH (tw @bd.eq_1 @aa.eq_1)))))))))))) ?_;(repeat(refine Pn.mk ?_;intro N hN)))|((try apply Or.inl);refine⟨_,ae.x (qR) (sd (tw @oM (tw @ag0 (tw @ag1 (tw @a1 (tw @a3 (tw @o6 (tw @kG (tw @hk (tw @eB (tw @mV (tw @fH (tw @bd.eq_1 @aa.eq_1))))))))))))),?_⟩;refine hN _ _ ?_;clear hN N)))
     exact aC (b:=false) (.inl rfl) (sd @Nat.zero_add) (fj (la fun h=>by
      rw[AQ,sS]at h
      obtain⟨i,hi,he⟩:=List.mem_map.1 fN
      exact h.2.2 i (List.mem_range.1 hi) he))
  ·have lu:k=s.au.length:=ab
   (try((repeat(revert hN;revert N;apply Pn.out));refine wk (tw @oM (tw @ag0 (tw @ag1 (tw @a1 (tw @a3 (tw @o6 (tw @kG (tw @hk @aa.eq_1)))))))) ?_;(repeat(refine Pn.mk ?_;intro N hN))))
   refine aP (fun n env st=>∃j:Nat,n=(s.ah.length)-j/\j<=(s.ah.length)/\env 52=.int .i64 (j:Int)/\st.get ⟨102000000,n0⟩=some ⟨true,2,[aa s]⟩/\st.get ⟨102011000,st_a.next+1⟩=some ⟨true,mS.Cp,dp ((List.range j).map fun i=>(nV s i).aB)⟩/\(∀i:Nat,i<j->yQ s i)/\(st_a.next<st.next)) (s.ah.length) ⟨0,ab,ab,by(try simp only[go_sem, ↓reduceIte,Nat.reduceEqDiff,Nat.reduceAdd,Nat.reduceSub,Nat.reduceLeDiff,reduceCtorEq,oM,ag0,ag1,a1,a3,o6,kG,aa,List.range_zero,List.map_nil,dp]);try rfl,by(try simp only[go_sem, ↓reduceIte,Nat.reduceEqDiff,Nat.reduceAdd,Nat.reduceSub,Nat.reduceLeDiff,reduceCtorEq,oM,ag0,ag1,a1,a3,o6,kG,aa,List.range_zero,List.map_nil,dp]);try rfl,by(try simp only[go_sem, ↓reduceIte,Nat.reduceEqDiff,Nat.reduceAdd,Nat.reduceSub,Nat.reduceLeDiff,reduceCtorEq,oM,ag0,ag1,a1,a3,o6,kG,aa,List.range_zero,List.map_nil,dp]);try rfl,fun _ h=>absurd h (Nat.not_lt_zero _),bt⟩ ?_
   rintro n_b env_b st_b ⟨j,rfl,ble,b52,bg0,bg1,bA0,bI0⟩ bfr
   have b1:=bfr 1 (by kernel_rfl);have b6:=bfr 6 (by kernel_rfl);have AY:=bfr 50 (by kernel_rfl);have AZ:=bfr 51 (by kernel_rfl)
   simp only[go_sem, ↓reduceIte,Nat.reduceEqDiff,Nat.reduceAdd,Nat.reduceSub,Nat.reduceLeDiff,reduceCtorEq,oM,ag0,ag1,a1,a3,o6,kG,aa,List.range_zero,List.map_nil,dp]at b1 b6 AY AZ
   clear bfr
   by_cases hj:(j:Int)<(s.ah.length:Int)
   ·have jo:∀{e:Env} {gg:Rows} {nx:Nat},(e 52=.int .i64 (IntKind.i64.wrap ((j:Int)+1)))->(gg ⟨102000000,n0⟩=some ⟨true,2,[aa s]⟩)->(gg ⟨102011000,st_a.next+1⟩=some ⟨true,mS.Cp,dp ((List.range (j+1)).map fun i=>(nV s i).aB)⟩)->(yQ s j)->(st_a.next<nx)->∃m0,m0<(s.ah.length)-j/\∃j:Nat,m0=(s.ah.length)-j/\j<=(s.ah.length)/\e 52=.int .i64 (j:Int)/\gg ⟨102000000,n0⟩=some ⟨true,2,[aa s]⟩/\gg ⟨102011000,st_a.next+1⟩=some ⟨true,mS.Cp,dp ((List.range j).map fun i=>(nV s i).aB)⟩/\(∀i:Nat,i<j->yQ s i)/\(st_a.next<nx):=fun x1 x2 x3 x4 x5=>⟨_,ab,j+1,rfl,ab,(by rw[x1,ay ab]),x2,x3,(all_succ bA0 x4),x5⟩
    have gj:j<s.ah.length:=ab
    have om:=yl gj
    have qR:=Dq (nV s j).aB (SL j gj)
    have Rc:=KL s (nV s j).bp (vp j gj)
    have zP:=uC (nV s j).aB ((List.range j).map fun i=>(nV s i).aB)
    rw[uk _ j]at zP
    have la:(¬yQ s j)->¬lY s:=fun h hp=>h (hp.tok j gj)
    have gW:(⟨102011000,st_a.next+1⟩:Id)≠⟨102000000,n0⟩:=by simp
    generalize htd:nV s j=tl at *
    cases hb:jn tl.aB
    ·rw[hb]at qR
     (repeat(first|((repeat(revert hN;revert N;apply Pn.out));refine wk (tw @b52 (tw @bg0 (tw @bg1 (tw @b1 (tw @b6 (tw @AY (tw @AZ (tw @hj (tw @om (tw @bj.eq_1 @aa.eq_1)))))))))) ?_;(repeat(refine Pn.mk ?_;intro N hN)))|((try apply Or.inl);refine⟨_,ae.x (qR) (sd (tw @b52 (tw @bg0 (tw @bg1 (tw @b1 (tw @b6 (tw @AY (tw @AZ (tw @hj (tw @om (tw @bj.eq_1 @aa.eq_1))))))))))),?_⟩;refine hN _ _ ?_;clear hN N)))
     exact aC (b:=false) (.inl rfl) (sd @Nat.zero_add) (fj (la fun h=>by rw[yQ,htd,hb]at h;cases h.1))
    ·rw[hb]at qR
     rcases zP with⟨BE,mV⟩|⟨i,fN,mV,fH⟩
     ·by_cases h4:(tl.bp.length:Int)=4
      ·have xC:decide ((tl.bp.length:Int)=4)=true:=decide_eq_true h4
       cases hany:tl.bp.any fun g=> !fI g 0 s.au.length
       ·rw[hany]at Rc
        have tT:dp ((List.range j).map fun i=>(nV s i).aB)++[[.str tl.aB,.bool true]]=dp (List.map (fun i=>(nV s i).aB) (List.range j++[j])):=by simp[dp,htd]
        (repeat(first|((repeat(revert hN;revert N;apply Pn.out));refine wk (tw @b52 (tw @bg0 (tw @bg1 (tw @b1 (tw @b6 (tw @AY (tw @AZ (tw @hj (tw @om (tw @mV (tw @xC (tw @bj.eq_1 @aa.eq_1)))))))))))) ?_;(repeat(refine Pn.mk ?_;intro N hN)))|((try apply Or.inl);refine⟨_,ae.x (qR) (sd (tw @b52 (tw @bg0 (tw @bg1 (tw @b1 (tw @b6 (tw @AY (tw @AZ (tw @hj (tw @om (tw @mV (tw @xC (tw @bj.eq_1 @aa.eq_1))))))))))))),?_⟩;refine hN _ _ ?_;clear hN N)|((try apply Or.inl);refine⟨_,ae.x (Rc) (sd (tw @b52 (tw @bg0 (tw @bg1 (tw @b1 (tw @b6 (tw @AY (tw @AZ (tw @hj (tw @om (tw @mV (tw @xC (tw @bj.eq_1 @aa.eq_1))))))))))))),?_⟩;refine hN _ _ ?_;clear hN N)))
        refine jo ?_ ?_ ?_ (⟨by rw[htd];exact hb,by rw[htd];omega,fun i hi=>(by rw[htd];exact BE i hi),fun g hg=>by rw[htd]at hg;have:=List.any_eq_false.1 hany g hg;simpa using this⟩) bt
        all_goals simp only[go_sem, ↓reduceIte,Nat.reduceEqDiff,Nat.reduceAdd,Nat.reduceSub,Nat.reduceLeDiff,reduceCtorEq,b52,bg0,bg1,b1,b6,AY,AZ,mV,tT]
       ·rw[hany]at Rc
        (repeat(first|((repeat(revert hN;revert N;apply Pn.out));refine wk (tw @b52 (tw @bg0 (tw @bg1 (tw @b1 (tw @b6 (tw @AY (tw @AZ (tw @hj (tw @om (tw @mV (tw @xC (tw @bj.eq_1 @aa.eq_1)))))))))))) ?_;(repeat(refine Pn.mk ?_;intro N hN)))|((try apply Or.inl);refine⟨_,ae.x (qR) (sd (tw @b52 (tw @bg0 (tw @bg1 (tw @b1 (tw @b6 (tw @AY (tw @AZ (tw @hj (tw @om (tw @mV (tw @xC (tw @bj.eq_1 @aa.eq_1))))))))))))),?_⟩;refine hN _ _ ?_;clear hN N)|((try apply Or.inl);refine⟨_,ae.x (Rc) (sd (tw @b52 (tw @bg0 (tw @bg1 (tw @b1 (tw @b6 (tw @AY (tw @AZ (tw @hj (tw @om (tw @mV (tw @xC (tw @bj.eq_1 @aa.eq_1))))))))))))),?_⟩;refine hN _ _ ?_;clear hN N)))
        exact aC (b:=false) (.inl rfl) (sd @Nat.zero_add) (fj (la fun h=>by
         rw[yQ,htd]at h
         obtain⟨g,hg,hq⟩:=List.any_eq_true.1 hany
         have:=h.2.2.2 g hg
         rw[this]at hq;cases hq))
      ·have xC:decide ((tl.bp.length:Int)=4)=false:=decide_eq_false h4
       (repeat(first|((repeat(revert hN;revert N;apply Pn.out));refine wk (tw @b52 (tw @bg0 (tw @bg1 (tw @b1 (tw @b6 (tw @AY (tw @AZ (tw @hj (tw @om (tw @mV (tw @xC (tw @bj.eq_1 @aa.eq_1)))))))))))) ?_;(repeat(refine Pn.mk ?_;intro N hN)))|((try apply Or.inl);refine⟨_,ae.x (qR) (sd (tw @b52 (tw @bg0 (tw @bg1 (tw @b1 (tw @b6 (tw @AY (tw @AZ (tw @hj (tw @om (tw @mV (tw @xC (tw @bj.eq_1 @aa.eq_1))))))))))))),?_⟩;refine hN _ _ ?_;clear hN N)))
       exact aC (b:=false) (.inl rfl) (sd @Nat.zero_add) (fj (la fun h=>by rw[yQ,htd]at h;have:=h.2.1;omega))
     ·(repeat(first|((repeat(revert hN;revert N;apply Pn.out));refine wk (tw @b52 (tw @bg0 (tw @bg1 (tw @b1 (tw @b6 (tw @AY (tw @AZ (tw @hj (tw @om (tw @mV (tw @fH (tw @bj.eq_1 @aa.eq_1)))))))))))) ?_;(repeat(refine Pn.mk ?_;intro N hN)))|((try apply Or.inl);refine⟨_,ae.x (qR) (sd (tw @b52 (tw @bg0 (tw @bg1 (tw @b1 (tw @b6 (tw @AY (tw @AZ (tw @hj (tw @om (tw @mV (tw @fH (tw @bj.eq_1 @aa.eq_1))))))))))))),?_⟩;refine hN _ _ ?_;clear hN N)))
      exact aC (b:=false) (.inl rfl) (sd @Nat.zero_add) (fj (la fun h=>by
       rw[yQ,htd]at h
       obtain⟨i,hi,he⟩:=List.mem_map.1 fN
       exact h.2.2.1 i (List.mem_range.1 hi) he))
   ·(try((repeat(revert hN;revert N;apply Pn.out));refine wk (tw @b52 (tw @bg0 (tw @bg1 (tw @b1 (tw @b6 (tw @AY (tw @AZ (tw @hj @aa.eq_1)))))))) ?_;(repeat(refine Pn.mk ?_;intro N hN))))
    exact aC (b:=true) (.inl rfl) (sd @Nat.zero_add) (Ap ⟨ab,ab,ab,fun i hi=>iM i ab,fun i hi=>bA0 i ab⟩)
 ·rw[Bool.not_eq_true]at h2
  rw[h2]at hw
  (repeat(first|((repeat(revert hN;revert N;apply Pn.out));refine wk (tw @aa.eq_1 @h1) ?_;(repeat(refine Pn.mk ?_;intro N hN)))|((try apply Or.inl);refine⟨_,ae.x (hw) (sd (tw @aa.eq_1 @h1)),?_⟩;refine hN _ _ ?_;clear hN N)))
  exact aC (b:=false) (.inl rfl) (sd @Nat.zero_add) (fj fun h=>by
   have h3:=h.some
   have h4:=h.LB
   rw[nI ⟨ab,ab⟩]at h2;cases h2)
theorem sN {α:Type} {p:α->Bool} {xs:List α} {k:Nat} (hk:k<xs.length) (h1:p xs[k]=true) (h2:∀j (h:j<xs.length),j<k->p xs[j]=false):jO p xs=k:=by
 have:xs.findIdx p=k:=by rw[List.findIdx_eq hk];exact⟨h1,fun j hj=>h2 j ab hj⟩
 rw[jO,this,if_pos hk]
theorem vY {α:Type} {p:α->Bool} {xs:List α} (h:∀j (h:j<xs.length),p xs[j]=false):jO p xs= -1:=by
 rw[jO,if_neg]
 rw[List.findIdx_lt_length]
 rintro⟨x,hx,MO⟩
 obtain⟨j,hj,rfl⟩:=List.getElem_of_mem hx
 rw[h j hj]at MO;cases MO
theorem xw {s:aw} {i:Nat} (h:i<s.au.length):oP s i=s.au[i]:=by simp[oP,List.getD_eq_getElem?_getD,h]
theorem yk {s:aw} {i:Nat} (h:i<s.ah.length):nV s i=s.ah[i]:=by simp[nV,List.getD_eq_getElem?_getD,h]
def IX (s:aw) (n:ByteArray):Int:=jO (fun g:fc=>decide (g.aB=n)) s.au
def Lz (s:aw) (n:ByteArray):Int:=jO (fun t:eI=>decide (t.aB=n)) s.ah
theorem EV (s:aw) (nm:ByteArray):ae Tryz.prog 124 [.cJ (aa s),.str nm] (.int .i64 (IX s nm+1)):=by
 refine ae.body dM rfl fun hl n0=>?_
 have hlen:s.au.length<=9223372036854775807:=by
  have h1:=(hl (.cJ (aa s)) (by simp)).ua (a:=.sl (s.au.map bd)) (by simp[aa])
  simpa using h1.len
 clear hl
 (try((repeat(revert hN;revert N;apply Pn.out));refine wk @aa.eq_1 ?_;(repeat(refine Pn.mk ?_;intro N hN))))
 refine aP (fun n env st=>∃k:Nat,n=(s.au.length)-k/\k<=(s.au.length)/\env 5=.int .i64 (k:Int)/\(∀j:Nat,j<k->∀h:j<s.au.length,decide (s.au[j].aB=nm)=false)) (s.au.length) ⟨0,ab,ab,sl @aa.eq_1,fun _ h=>absurd h (Nat.not_lt_zero _)⟩ ?_
 rintro n_a env_a st_a ⟨k,rfl,ale,a5,iM⟩ dm
 have a0:=dm 0 (by kernel_rfl);have a1:=dm 1 (by kernel_rfl)
 simp only[go_sem, ↓reduceIte,Nat.reduceEqDiff,Nat.reduceAdd,Nat.reduceSub,Nat.reduceLeDiff,reduceCtorEq,aa]at a0 a1
 clear dm
 by_cases hk:(k:Int)<(s.au.length:Int)
 ·have bD:∀{e:Env},(e 5=.int .i64 (IntKind.i64.wrap ((k:Int)+1)))->(∀h:k<s.au.length,decide (s.au[k].aB=nm)=false)->∃m0,m0<(s.au.length)-k/\∃k:Nat,m0=(s.au.length)-k/\k<=(s.au.length)/\e 5=.int .i64 (k:Int)/\(∀j:Nat,j<k->∀h:j<s.au.length,decide (s.au[j].aB=nm)=false):=fun x1 x2=>⟨_,ab,k+1,rfl,ab,(by rw[x1,ay ab]),(all_succ iM x2)⟩
  have dX:k<s.au.length:=ab
  have eB:=xx dX
  have e:=xw dX
  cases hd:decide ((oP s k).aB=nm)
  ·have QY:=of_decide_eq_false hd
   (try((repeat(revert hN;revert N;apply Pn.out));refine wk (tw @a5 (tw @a0 (tw @a1 (tw @hk (tw @eB (tw @QY (tw @hd (tw @bd.eq_1 @aa.eq_1)))))))) ?_;(repeat(refine Pn.mk ?_;intro N hN))))
   exact bD (sd (tw @a5 (tw @a0 @a1))) (fun _=>by rw[e]at hd;exact hd)
  ·have QY:=of_decide_eq_true hd
   have hw:IntKind.i64.wrap ((k:Int)+1)=(k:Int)+1:=aT ab
   (try((repeat(revert hN;revert N;apply Pn.out));refine wk (tw @a5 (tw @a0 (tw @a1 (tw @hk (tw @eB (tw @hd (tw @hw (tw @bd.eq_1 @aa.eq_1)))))))) ?_;(repeat(refine Pn.mk ?_;intro N hN))))
   exact aZ (b:=(k:Int)+1) (.inl rfl) (sd @Nat.zero_add) (by rw[IX,sN dX (by rw[e]at hd;exact hd) fun j h hj=>iM j hj h])
 ·(try((repeat(revert hN;revert N;apply Pn.out));refine wk (tw @a5 (tw @a0 (tw @a1 (tw @hk @aa.eq_1)))) ?_;(repeat(refine Pn.mk ?_;intro N hN))))
  exact aZ (b:=0) (.inl rfl) (sd @Nat.zero_add) (by rw[IX,vY fun j h=>iM j ab h];rfl)
theorem EW (s:aw) (nm:ByteArray):ae Tryz.prog 125 [.cJ (aa s),.str nm] (.int .i64 (Lz s nm)):=by
 refine ae.body dM rfl fun hl n0=>?_
 have hlen:s.ah.length<=9223372036854775807:=by
  have h1:=(hl (.cJ (aa s)) (by simp)).ua (a:=.sl (s.ah.map bj)) (by simp[aa])
  simpa using h1.len
 clear hl
 (try((repeat(revert hN;revert N;apply Pn.out));refine wk @aa.eq_1 ?_;(repeat(refine Pn.mk ?_;intro N hN))))
 refine aP (fun n env st=>∃k:Nat,n=(s.ah.length)-k/\k<=(s.ah.length)/\env 5=.int .i64 (k:Int)/\(∀j:Nat,j<k->∀h:j<s.ah.length,decide (s.ah[j].aB=nm)=false)) (s.ah.length) ⟨0,ab,ab,sl @aa.eq_1,fun _ h=>absurd h (Nat.not_lt_zero _)⟩ ?_
 rintro n_a env_a st_a ⟨k,rfl,ale,a5,iM⟩ dm
 have a0:=dm 0 (by kernel_rfl);have a1:=dm 1 (by kernel_rfl)
 simp only[go_sem, ↓reduceIte,Nat.reduceEqDiff,Nat.reduceAdd,Nat.reduceSub,Nat.reduceLeDiff,reduceCtorEq,aa]at a0 a1
 clear dm
 by_cases hk:(k:Int)<(s.ah.length:Int)
 ·have bD:∀{e:Env},(e 5=.int .i64 (IntKind.i64.wrap ((k:Int)+1)))->(∀h:k<s.ah.length,decide (s.ah[k].aB=nm)=false)->∃m0,m0<(s.ah.length)-k/\∃k:Nat,m0=(s.ah.length)-k/\k<=(s.ah.length)/\e 5=.int .i64 (k:Int)/\(∀j:Nat,j<k->∀h:j<s.ah.length,decide (s.ah[j].aB=nm)=false):=fun x1 x2=>⟨_,ab,k+1,rfl,ab,(by rw[x1,ay ab]),(all_succ iM x2)⟩
  have dX:k<s.ah.length:=ab
  have eB:=yl dX
  have e:=yk dX
  cases hd:decide ((nV s k).aB=nm)
  ·(try((repeat(revert hN;revert N;apply Pn.out));refine wk (tw @a5 (tw @a0 (tw @a1 (tw @hk (tw @eB (tw @hd (tw @bj.eq_1 @aa.eq_1))))))) ?_;(repeat(refine Pn.mk ?_;intro N hN))))
   exact bD (sd (tw @a5 (tw @a0 @a1))) (fun _=>by rw[e]at hd;exact hd)
  ·(try((repeat(revert hN;revert N;apply Pn.out));refine wk (tw @a5 (tw @a0 (tw @a1 (tw @hk (tw @eB (tw @hd (tw @bj.eq_1 @aa.eq_1))))))) ?_;(repeat(refine Pn.mk ?_;intro N hN))))
   exact aZ (b:=(k:Int)) (.inl rfl) (sd @Nat.zero_add) (by rw[Lz,sN dX (by rw[e]at hd;exact hd) fun j h hj=>iM j hj h])
 ·(try((repeat(revert hN;revert N;apply Pn.out));refine wk (tw @a5 (tw @a0 (tw @a1 (tw @hk @aa.eq_1)))) ?_;(repeat(refine Pn.mk ?_;intro N hN))))
  exact aZ (b:=-1) (.inl rfl) (sd @Nat.zero_add) (by rw[Lz,vY fun j h=>iM j ab h])
theorem Mi {s:aw} {i:Nat} (h:i<s.au.length):IX s (oP s i).aB=i↔∀j,j<i->(oP s j).aB≠(oP s i).aB:=by
 constructor
 ·intro he j hj hc
  have gL:j<s.au.length:=ab
  have:s.au.findIdx (fun g:fc=>decide (g.aB=(oP s i).aB))<=j:=by
   rcases Nat.lt_or_ge j (s.au.findIdx fun g:fc=>decide (g.aB=(oP s i).aB))with dD|jx
   ·have:=List.not_of_lt_findIdx dD
    rw[<-xw gL]at this
    simp[hc]at this
   ·exact jx
  unfold IX jO at he
  split at he<;>omega
 ·intro hd
  exact sN h (by rw[<-xw h];simp) fun j gL hj=>by rw[<-xw gL];simpa using hd j hj
theorem NB {s:aw} {i:Nat} (h:i<s.ah.length):Lz s (nV s i).aB=i↔∀j,j<i->(nV s j).aB≠(nV s i).aB:=by
 constructor
 ·intro he j hj hc
  have gL:j<s.ah.length:=ab
  have:s.ah.findIdx (fun g:eI=>decide (g.aB=(nV s i).aB))<=j:=by
   rcases Nat.lt_or_ge j (s.ah.findIdx fun g:eI=>decide (g.aB=(nV s i).aB))with dD|jx
   ·have:=List.not_of_lt_findIdx dD
    rw[<-yk gL]at this
    simp[hc]at this
   ·exact jx
  unfold Lz jO at he
  split at he<;>omega
 ·intro hd
  exact sN h (by rw[<-yk h];simp) fun j gL hj=>by rw[<-yk gL];simpa using hd j hj
theorem Kc (s:aw) (hn:fx s) (hg:s.au.length<=1048576) (ht:s.ah.length<=1048576):ae Tryz.prog 92 [.cJ (aa s)] (.bool (pE s)):=by
 refine ae.body dM rfl fun hl n0=>?_
 clear hl
 have Mz:∀i,i<s.au.length->(oP s i).aB.size<=9223372036854775807:=fun i hi=>hn.1 _ (by simp[oP,List.getD_eq_getElem?_getD,hi])
 have SL:∀i,i<s.ah.length->(nV s i).aB.size<=9223372036854775807:=fun i hi=>hn.2 _ (by simp[nV,List.getD_eq_getElem?_getD,hi])
 by_cases h1:(200:Int)<(s.au.length:Int)
 ·(try((repeat(revert hN;revert N;apply Pn.out));refine wk (tw @aa.eq_1 @h1) ?_;(repeat(refine Pn.mk ?_;intro N hN))))
  exact aC (b:=false) (.inl rfl) (sd @Nat.zero_add) (fj fun h=>by have:=h.r6;omega)
 by_cases h2:(s.ah.length:Int)<1
 ·(try((repeat(revert hN;revert N;apply Pn.out));refine wk (tw @aa.eq_1 (tw @h1 @h2)) ?_;(repeat(refine Pn.mk ?_;intro N hN))))
  exact aC (b:=false) (.inl rfl) (sd @Nat.zero_add) (fj fun h=>by have:=h.some;omega)
 by_cases h3:(160:Int)<(s.ah.length:Int)
 ·(try((repeat(revert hN;revert N;apply Pn.out));refine wk (tw @aa.eq_1 (tw @h1 (tw @h2 @h3))) ?_;(repeat(refine Pn.mk ?_;intro N hN))))
  exact aC (b:=false) (.inl rfl) (sd @Nat.zero_add) (fj fun h=>by have:=h.LB;omega)
 (try((repeat(revert hN;revert N;apply Pn.out));refine wk (tw @aa.eq_1 (tw @h1 (tw @h2 @h3))) ?_;(repeat(refine Pn.mk ?_;intro N hN))))
 refine aP (fun n env st=>∃k:Nat,n=(s.au.length)-k/\k<=(s.au.length)/\env 3=.int .i64 (k:Int)/\(∀j:Nat,j<k->AQ s j)) (s.au.length) ⟨0,ab,ab,sl @aa.eq_1,fun _ h=>absurd h (Nat.not_lt_zero _)⟩ ?_
 rintro n_a env_a st_a ⟨k,rfl,ale,a3,iM⟩ dm
 have a0:=dm 0 (by kernel_rfl)
 simp only[go_sem, ↓reduceIte,Nat.reduceEqDiff,Nat.reduceAdd,Nat.reduceSub,Nat.reduceLeDiff,reduceCtorEq,aa]at a0
 clear dm
 by_cases hk:(k:Int)<(s.au.length:Int)
 ·have bD:∀{e:Env},(e 3=.int .i64 (IntKind.i64.wrap ((k:Int)+1)))->(AQ s k)->∃m0,m0<(s.au.length)-k/\∃k:Nat,m0=(s.au.length)-k/\k<=(s.au.length)/\e 3=.int .i64 (k:Int)/\(∀j:Nat,j<k->AQ s j):=fun x1 x2=>⟨_,ab,k+1,rfl,ab,(by rw[x1,ay ab]),(all_succ iM x2)⟩
  have dX:k<s.au.length:=ab
  have eB:=xx dX
  have qR:=DE (oP s k).aB (Mz k dX)
  have Ja:=gU (oP s k).dQ 1 4
  have EE:=EV s (oP s k).aB
  have oG:=Mi dX
  have la:(¬AQ s k)->¬lY s:=fun h hp=>h (hp.RH k dX)
  have hw:IntKind.i64.wrap ((k:Int)+1)=(k:Int)+1:=aT ab
  generalize sS:oP s k=gl at *
  cases hb:jn gl.aB
  ·rw[hb]at qR
   (repeat(first|((repeat(revert hN;revert N;apply Pn.out));refine wk (tw @a3 (tw @a0 (tw @hk (tw @eB (tw @bd.eq_1 @aa.eq_1))))) ?_;(repeat(refine Pn.mk ?_;intro N hN)))|((try apply Or.inl);refine⟨_,ae.x (qR) (sd (tw @a3 (tw @a0 (tw @hk (tw @eB (tw @bd.eq_1 @aa.eq_1)))))),?_⟩;refine hN _ _ ?_;clear hN N)))
   exact aC (b:=false) (.inl rfl) (sd @Nat.zero_add) (fj (la fun h=>by rw[AQ,sS,hb]at h;cases h.1))
  rw[hb]at qR
  cases ev:fI gl.dQ 1 4
  ·rw[ev]at Ja
   (repeat(first|((repeat(revert hN;revert N;apply Pn.out));refine wk (tw @a3 (tw @a0 (tw @hk (tw @eB (tw @bd.eq_1 @aa.eq_1))))) ?_;(repeat(refine Pn.mk ?_;intro N hN)))|((try apply Or.inl);refine⟨_,ae.x (qR) (sd (tw @a3 (tw @a0 (tw @hk (tw @eB (tw @bd.eq_1 @aa.eq_1)))))),?_⟩;refine hN _ _ ?_;clear hN N)|((try apply Or.inl);refine⟨_,ae.x (Ja) (sd (tw @a3 (tw @a0 (tw @hk (tw @eB (tw @bd.eq_1 @aa.eq_1)))))),?_⟩;refine hN _ _ ?_;clear hN N)))
   exact aC (b:=false) (.inl rfl) (sd @Nat.zero_add) (fj (la fun h=>by rw[AQ,sS,ev]at h;cases h.2.1))
  rw[ev]at Ja
  rw[aa]at EE
  by_cases hq:IX s gl.aB=(k:Int)
  ·have hd:decide (IX s gl.aB+1=(k:Int)+1)=true:=decide_eq_true ab
   have sD:decide (IX s gl.aB=(k:Int))=true:=decide_eq_true hq
   (repeat(first|((repeat(revert hN;revert N;apply Pn.out));refine wk (tw @a3 (tw @a0 (tw @hk (tw @eB (tw @hw (tw @hd (tw @sD (tw @bd.eq_1 @aa.eq_1)))))))) ?_;(repeat(refine Pn.mk ?_;intro N hN)))|((try apply Or.inl);refine⟨_,ae.x (qR) (sd (tw @a3 (tw @a0 (tw @hk (tw @eB (tw @hw (tw @hd (tw @sD (tw @bd.eq_1 @aa.eq_1))))))))),?_⟩;refine hN _ _ ?_;clear hN N)|((try apply Or.inl);refine⟨_,ae.x (Ja) (sd (tw @a3 (tw @a0 (tw @hk (tw @eB (tw @hw (tw @hd (tw @sD (tw @bd.eq_1 @aa.eq_1))))))))),?_⟩;refine hN _ _ ?_;clear hN N)|((try apply Or.inl);refine⟨_,ae.x (EE) (sd (tw @a3 (tw @a0 (tw @hk (tw @eB (tw @hw (tw @hd (tw @sD (tw @bd.eq_1 @aa.eq_1))))))))),?_⟩;refine hN _ _ ?_;clear hN N)))
   exact bD (sd (tw @a3 (tw @a0 @hw))) (⟨by rw[sS];exact hb,by rw[sS];exact ev,fun j hj=>by rw[sS];exact oG.1 hq j hj⟩)
  ·have hd:decide (IX s gl.aB+1=(k:Int)+1)=false:=decide_eq_false ab
   have sD:decide (IX s gl.aB=(k:Int))=false:=decide_eq_false hq
   (repeat(first|((repeat(revert hN;revert N;apply Pn.out));refine wk (tw @a3 (tw @a0 (tw @hk (tw @eB (tw @hw (tw @hd (tw @sD (tw @bd.eq_1 @aa.eq_1)))))))) ?_;(repeat(refine Pn.mk ?_;intro N hN)))|((try apply Or.inl);refine⟨_,ae.x (qR) (sd (tw @a3 (tw @a0 (tw @hk (tw @eB (tw @hw (tw @hd (tw @sD (tw @bd.eq_1 @aa.eq_1))))))))),?_⟩;refine hN _ _ ?_;clear hN N)|((try apply Or.inl);refine⟨_,ae.x (Ja) (sd (tw @a3 (tw @a0 (tw @hk (tw @eB (tw @hw (tw @hd (tw @sD (tw @bd.eq_1 @aa.eq_1))))))))),?_⟩;refine hN _ _ ?_;clear hN N)|((try apply Or.inl);refine⟨_,ae.x (EE) (sd (tw @a3 (tw @a0 (tw @hk (tw @eB (tw @hw (tw @hd (tw @sD (tw @bd.eq_1 @aa.eq_1))))))))),?_⟩;refine hN _ _ ?_;clear hN N)))
   exact aC (b:=false) (.inl rfl) (sd @Nat.zero_add) (fj (la fun h=>by
    rw[AQ,sS]at h
    exact hq (oG.2 h.2.2)))
 ·have lu:k=s.au.length:=ab
  (try((repeat(revert hN;revert N;apply Pn.out));refine wk (tw @a3 (tw @a0 (tw @hk @aa.eq_1))) ?_;(repeat(refine Pn.mk ?_;intro N hN))))
  refine aP (fun n env st=>∃j:Nat,n=(s.ah.length)-j/\j<=(s.ah.length)/\env 5=.int .i64 (j:Int)/\(∀i:Nat,i<j->yQ s i)) (s.ah.length) ⟨0,ab,ab,sl (tw @a3 (tw @a0 @aa.eq_1)),fun _ h=>absurd h (Nat.not_lt_zero _)⟩ ?_
  rintro n_b env_b st_b ⟨j,rfl,ble,b5,bA0⟩ bfr
  have b0:=bfr 0 (by kernel_rfl)
  simp only[go_sem, ↓reduceIte,Nat.reduceEqDiff,Nat.reduceAdd,Nat.reduceSub,Nat.reduceLeDiff,reduceCtorEq,a3,a0,aa]at b0
  clear bfr
  by_cases hj:(j:Int)<(s.ah.length:Int)
  ·have jo:∀{e:Env},(e 5=.int .i64 (IntKind.i64.wrap ((j:Int)+1)))->(yQ s j)->∃m0,m0<(s.ah.length)-j/\∃j:Nat,m0=(s.ah.length)-j/\j<=(s.ah.length)/\e 5=.int .i64 (j:Int)/\(∀i:Nat,i<j->yQ s i):=fun x1 x2=>⟨_,ab,j+1,rfl,ab,(by rw[x1,ay ab]),(all_succ bA0 x2)⟩
   have gj:j<s.ah.length:=ab
   have om:=yl gj
   have qR:=DE (nV s j).aB (SL j gj)
   have EE:=EW s (nV s j).aB
   have oG:=NB gj
   have la:(¬yQ s j)->¬lY s:=fun h hp=>h (hp.tok j gj)
   generalize htd:nV s j=tl at *
   cases hb:jn tl.aB
   ·rw[hb]at qR
    (repeat(first|((repeat(revert hN;revert N;apply Pn.out));refine wk (tw @b5 (tw @b0 (tw @hj (tw @om (tw @bj.eq_1 @aa.eq_1))))) ?_;(repeat(refine Pn.mk ?_;intro N hN)))|((try apply Or.inl);refine⟨_,ae.x (qR) (sd (tw @b5 (tw @b0 (tw @hj (tw @om (tw @bj.eq_1 @aa.eq_1)))))),?_⟩;refine hN _ _ ?_;clear hN N)))
    exact aC (b:=false) (.inl rfl) (sd @Nat.zero_add) (fj (la fun h=>by rw[yQ,htd,hb]at h;cases h.1))
   rw[hb]at qR
   by_cases h4:(tl.bp.length:Int)=4
   ·have xC:decide ((tl.bp.length:Int)=4)=true:=decide_eq_true h4
    rw[aa]at EE
    by_cases hq:Lz s tl.aB=(j:Int)
    ·have hd:decide (Lz s tl.aB=(j:Int))=true:=decide_eq_true hq
     (repeat(first|((repeat(revert hN;revert N;apply Pn.out));refine wk (tw @b5 (tw @b0 (tw @hj (tw @om (tw @xC (tw @hd (tw @bj.eq_1 @aa.eq_1))))))) ?_;(repeat(refine Pn.mk ?_;intro N hN)))|((try apply Or.inl);refine⟨_,ae.x (qR) (sd (tw @b5 (tw @b0 (tw @hj (tw @om (tw @xC (tw @hd (tw @bj.eq_1 @aa.eq_1)))))))),?_⟩;refine hN _ _ ?_;clear hN N)|((try apply Or.inl);refine⟨_,ae.x (EE) (sd (tw @b5 (tw @b0 (tw @hj (tw @om (tw @xC (tw @hd (tw @bj.eq_1 @aa.eq_1)))))))),?_⟩;refine hN _ _ ?_;clear hN N)))
     refine aP (fun n env st=>∃i:Nat,n=(4)-i/\i<=(4)/\env 7=.int .i64 (i:Int)/\st.get ⟨92012007,st_b.next+1⟩=some ⟨true,2,[bj tl]⟩/\(∀x:Nat,x<i->fI (tl.bp.getD x 0) 0 s.au.length=true)) (4) ⟨0,ab,ab,sl (tw @b5 (tw @b0 (tw @bj.eq_1 @aa.eq_1))),sl (tw @b5 (tw @b0 (tw @bj.eq_1 @aa.eq_1))),fun _ h=>absurd h (Nat.not_lt_zero _)⟩ ?_
     rintro n_c env_c st_c ⟨i,rfl,cle,c7,cg0,cA0⟩ cfr
     have c0:=cfr 0 (by kernel_rfl);have c5:=cfr 5 (by kernel_rfl);have c6:=cfr 6 (by kernel_rfl)
     simp only[go_sem, ↓reduceIte,Nat.reduceEqDiff,Nat.reduceAdd,Nat.reduceSub,Nat.reduceLeDiff,reduceCtorEq,b5,b0,bj,aa]at c0 c5 c6
     clear cfr
     by_cases hi:(i:Int)<4
     ·have gJ:∀{e:Env} {gg:Rows},(e 7=.int .i64 (IntKind.i64.wrap ((i:Int)+1)))->(gg ⟨92012007,st_b.next+1⟩=some ⟨true,2,[bj tl]⟩)->(fI (tl.bp.getD i 0) 0 s.au.length=true)->∃m0,m0<(4)-i/\∃i:Nat,m0=(4)-i/\i<=(4)/\e 7=.int .i64 (i:Int)/\gg ⟨92012007,st_b.next+1⟩=some ⟨true,2,[bj tl]⟩/\(∀x:Nat,x<i->fI (tl.bp.getD x 0) 0 s.au.length=true):=fun x1 x2 x3=>⟨_,ab,i+1,rfl,ab,(by rw[x1,ay ab]),x2,(all_succ cA0 x3)⟩
      have fN:i<tl.bp.length:=ab
      have oi:(tl.bp.map ar)[i]? =some (ar (tl.bp.getD i 0)):=getD_map ar fN
      have rq:tl.bp.getD i 0∈tl.bp:=by rw[List.getD_eq_getElem?_getD,List.getElem?_eq_getElem fN];exact List.getElem_mem fN
      have Hh:=gU (tl.bp.getD i 0) 0 s.au.length
      generalize MB:tl.bp.getD i 0=gv at *
      cases hv:fI gv 0 s.au.length
      ·rw[hv]at Hh
       (repeat(first|((repeat(revert hN;revert N;apply Pn.out));refine wk (tw @c7 (tw @cg0 (tw @c0 (tw @c5 (tw @c6 (tw @hi (tw @oi (tw @ar.eq_1 (tw @bj.eq_1 @aa.eq_1))))))))) ?_;(repeat(refine Pn.mk ?_;intro N hN)))|((try apply Or.inl);refine⟨_,ae.x (Hh) (sd (tw @c7 (tw @cg0 (tw @c0 (tw @c5 (tw @c6 (tw @hi (tw @oi (tw @ar.eq_1 (tw @bj.eq_1 @aa.eq_1)))))))))),?_⟩;refine hN _ _ ?_;clear hN N)))
       exact aC (b:=false) (.inl rfl) (sd @Nat.zero_add) (fj (la fun h=>by
        rw[yQ,htd]at h
        have:=h.2.2.2 gv rq
        rw[hv]at this;cases this))
      ·rw[hv]at Hh
       (repeat(first|((repeat(revert hN;revert N;apply Pn.out));refine wk (tw @c7 (tw @cg0 (tw @c0 (tw @c5 (tw @c6 (tw @hi (tw @oi (tw @ar.eq_1 (tw @bj.eq_1 @aa.eq_1))))))))) ?_;(repeat(refine Pn.mk ?_;intro N hN)))|((try apply Or.inl);refine⟨_,ae.x (Hh) (sd (tw @c7 (tw @cg0 (tw @c0 (tw @c5 (tw @c6 (tw @hi (tw @oi (tw @ar.eq_1 (tw @bj.eq_1 @aa.eq_1)))))))))),?_⟩;refine hN _ _ ?_;clear hN N)))
       refine gJ ?_ ?_ (hv)
       all_goals simp only[go_sem, ↓reduceIte,Nat.reduceEqDiff,Nat.reduceAdd,Nat.reduceSub,Nat.reduceLeDiff,reduceCtorEq,c7,cg0,c0,c5,c6]
     ·have hi4:i=4:=ab
      (try((repeat(revert hN;revert N;apply Pn.out));refine wk (tw @c7 (tw @cg0 (tw @c0 (tw @c5 (tw @c6 (tw @hi (tw @bj.eq_1 @aa.eq_1))))))) ?_;(repeat(refine Pn.mk ?_;intro N hN))))
      exact jo (sd (tw @b5 (tw @b0 (tw @c7 (tw @cg0 (tw @c0 (tw @c5 @c6))))))) (⟨by rw[htd];exact hb,by rw[htd];omega,fun x hx=>(by rw[htd];exact oG.1 hq x hx),fun g hg=>by
       rw[htd]at hg
       obtain⟨x,hx,rfl⟩:=List.getElem_of_mem hg
       have:=cA0 x ab
       rwa [List.getD_eq_getElem?_getD,List.getElem?_eq_getElem hx]at this⟩)
    ·have hd:decide (Lz s tl.aB=(j:Int))=false:=decide_eq_false hq
     (repeat(first|((repeat(revert hN;revert N;apply Pn.out));refine wk (tw @b5 (tw @b0 (tw @hj (tw @om (tw @xC (tw @hd (tw @bj.eq_1 @aa.eq_1))))))) ?_;(repeat(refine Pn.mk ?_;intro N hN)))|((try apply Or.inl);refine⟨_,ae.x (qR) (sd (tw @b5 (tw @b0 (tw @hj (tw @om (tw @xC (tw @hd (tw @bj.eq_1 @aa.eq_1)))))))),?_⟩;refine hN _ _ ?_;clear hN N)|((try apply Or.inl);refine⟨_,ae.x (EE) (sd (tw @b5 (tw @b0 (tw @hj (tw @om (tw @xC (tw @hd (tw @bj.eq_1 @aa.eq_1)))))))),?_⟩;refine hN _ _ ?_;clear hN N)))
     exact aC (b:=false) (.inl rfl) (sd @Nat.zero_add) (fj (la fun h=>by
      rw[yQ,htd]at h
      exact hq (oG.2 h.2.2.1)))
   ·have xC:decide ((tl.bp.length:Int)=4)=false:=decide_eq_false h4
    (repeat(first|((repeat(revert hN;revert N;apply Pn.out));refine wk (tw @b5 (tw @b0 (tw @hj (tw @om (tw @xC (tw @bj.eq_1 @aa.eq_1)))))) ?_;(repeat(refine Pn.mk ?_;intro N hN)))|((try apply Or.inl);refine⟨_,ae.x (qR) (sd (tw @b5 (tw @b0 (tw @hj (tw @om (tw @xC (tw @bj.eq_1 @aa.eq_1))))))),?_⟩;refine hN _ _ ?_;clear hN N)))
    exact aC (b:=false) (.inl rfl) (sd @Nat.zero_add) (fj (la fun h=>by rw[yQ,htd]at h;have:=h.2.1;omega))
  ·(try((repeat(revert hN;revert N;apply Pn.out));refine wk (tw @b5 (tw @b0 (tw @hj @aa.eq_1))) ?_;(repeat(refine Pn.mk ?_;intro N hN))))
   exact aC (b:=true) (.inl rfl) (sd @Nat.zero_add) (Ap ⟨ab,ab,ab,fun i hi=>iM i ab,fun i hi=>bA0 i ab⟩)
end Go.Proofs.YtihgaadadaekmaaGreatDoor.V

namespace Go.Proofs.YtihgaadadaekmaaGreatDoor.V
def qT (a b:cr):Bool:=decide (a.fQ<b.fQ)||(decide (a.fQ=b.fQ)&&decide (a.gE<b.gE))
theorem Dw {a b:cr}:qT a b=true↔a.fQ<b.fQ∨(a.fQ=b.fQ/\a.gE<b.gE):=by simp[qT]
theorem E8 {a b:cr}:qT a b=false↔¬(a.fQ<b.fQ∨(a.fQ=b.fQ/\a.gE<b.gE)):=by rw[<-Dw,Bool.not_eq_true]
theorem Nm {a b:cr} (h1:a.gE=b.gE) (h2:a.fQ=b.fQ):a=b:=by cases a;cases b;simp_all
theorem lK {a b c:cr} (h:qT a b=true) (k:qT b c=true):qT a c=true:=by rw[Dw]at *;omega
theorem Dx {a:cr}:qT a a=false:=by rw[E8];omega
def pc (a b:Int):Int:=if a<b then -1 else if b<a then 1 else 0
def Nk (a b:Int):Int:=if a=0 then b else a
def sv (a b:cr):Int:=Nk (pc a.fQ b.fQ) (pc a.gE b.gE)
theorem xg (a b:cr):decide (sv a b<0)=qT a b:=by
 unfold sv Nk pc qT
 by_cases h1:a.fQ<b.fQ
 ·simp[h1]
 ·by_cases h2:b.fQ<a.fQ
  ·have:¬a.fQ=b.fQ:=ab
   simp[h1,h2,this]
  ·have:a.fQ=b.fQ:=ab
   by_cases h3:a.gE<b.gE
   ·simp[h1,h2,this,h3]
   ·by_cases h4:b.gE<a.gE<;>simp[h1,h2,this,h3,h4]
theorem Ee (a b:cr):(sv a b=0)↔a=b:=by
 cases a;cases b
 unfold sv Nk pc
 simp only[cr.mk.injEq]
 split<;>(try split)<;>(try split)<;>(try split)<;>omega
def HZ:ao:=⟨⟨0,0⟩,0⟩
def bC (l:List ao) (i:Nat):ao:=l.getD i HZ
theorem j0 {l:List ao} {i:Nat} (h:i<l.length):bC l i=l[i]:=by simp[bC,List.getD_eq_getElem?_getD,h]
theorem qu {l:List ao} {i:Nat} (h:i<l.length):bC l i∈l:=by rw[j0 h];exact List.getElem_mem h
def yO (l:List ao):Prop:=∀i j:Nat,i<j->j<l.length->qT (bC l i).cI (bC l j).cI=true
def EL (l:List ao) (p:cr):Nat:=l.findIdx fun c=>decide (c.cI=p)
def fW (l:List ao) (p:cr):Int:=if EL l p<l.length then(EL l p:Int)else -1
def lJ (l:List ao) (p:cr):Nat:=l.findIdx fun c=> !qT c.cI p
theorem xR {l:List ao} {p:cr} {i:Nat} (hi:i<=l.length) (h1:∀x,x<i->qT (bC l x).cI p=true) (h2:i<l.length->qT (bC l i).cI p=false):lJ l p=i:=by
 unfold lJ
 by_cases h:i<l.length
 ·rw[List.findIdx_eq h]
  refine⟨by have:=h2 h;rw[j0 h]at this;simp[this],fun j hj=>?_⟩
  have:=h1 j hj
  rw[j0 ab]at this
  simp[this]
 ·have:i=l.length:=ab
  subst this
  refine List.findIdx_eq_length_of_false fun x hx=>?_
  obtain⟨j,hj,rfl⟩:=List.getElem_of_mem hx
  have:=h1 j hj
  rw[j0 hj]at this
  simp[this]
theorem xS {l:List ao} {p:cr} (hR:yO l):fW l p=if lJ l p<l.length/\(bC l (lJ l p)).cI=p then(lJ l p:Int)else -1:=by
 by_cases h:∃i,i<l.length/\(bC l i).cI=p
 ·obtain⟨i,hi,hp⟩:=h
  have h1:lJ l p=i:=xR ab (fun x hx=>by rw[<-hp];exact hR x i hx hi) fun _=>by rw[hp];exact Dx
  have h2:EL l p=i:=by
   rw[EL,List.findIdx_eq hi]
   refine⟨by rw[j0 hi]at hp;simpa using hp,fun j hj=>?_⟩
   have:=hR j i hj hi
   rw[hp,j0 ab]at this
   simp only[decide_eq_false_iff_not]
   intro hc
   rw[hc,Dx]at this
   cases this
  rw[fW,h1,h2,if_pos hi,if_pos ⟨hi,hp⟩]
 ·have h2:¬EL l p<l.length:=by
   rw[EL,List.findIdx_lt_length]
   rintro⟨c,hc,he⟩
   obtain⟨j,hj,rfl⟩:=List.getElem_of_mem hc
   exact h ⟨j,hj,by rw[j0 hj];simpa using he⟩
  rw[fW,if_neg h2,if_neg]
  rintro⟨h3,h4⟩
  exact h ⟨_,h3,h4⟩
theorem sV {l:List ao} {p:cr} (h:0<=fW l p):(fW l p).toNat<l.length/\(bC l (fW l p).toNat).cI=p:=by
 unfold fW at h ⊢
 split at h
 ·rename_i hc
  rw[if_pos hc]
  refine⟨ab,?_⟩
  have:=of_decide_eq_true (List.findIdx_getElem (p:=fun c:ao=>decide (c.cI=p)) (xs:=l) (w:=hc))
  rw[Int.toNat_natCast,j0 hc]
  exact this
 ·omega
def vK (l:List ao) (p:cr):Int:=if 0<=fW l p then(bC l (fW l p).toNat).bJ else -1
end Go.Proofs.YtihgaadadaekmaaGreatDoor.V

namespace Go.Proofs.YtihgaadadaekmaaGreatDoor.V
open Go.RowKit
attribute [local irreducible] ea wpOps gR Call
attribute [local go_sem] aM fP eL gh ga cE upd cu K.av cL AV.cells AV.cell rowOf rowsOf part ld rowAt bY ck dI ef ig bL da ez gn e7 du ek cY cX dV dW bR bm cQ bQ cT cR ei eo ej cP bW cZ eh bP aQ cV cC ib bw cH bS aY dF bu dK AV.undef bF bH dY ee dU eb cF ew eD cw eu er cU cW List.getD_cons_zero List.getD_cons_succ List.getD_nil List.all_cons List.all_nil Bool.and_true Bool.true_and Bool.and_self Bool.not_true Bool.not_false Option.map_some Option.map_none Option.bind_some Option.bind_none List.length_cons List.length_nil List.take_succ_cons List.take_zero List.take_nil List.drop_succ_cons List.drop_zero List.drop_nil List.head?_cons List.map_cons List.map_nil List.getElem?_cons_zero List.getElem?_cons_succ List.cons_append List.nil_append List.append_nil List.length_map List.set_cons_zero List.set_cons_succ Nat.reduceMul eq_self Int.toNat_natCast Int.natCast_nonneg and_self true_and and_true decide_true decide_false Bool.false_eq_true Nat.zero_add Nat.add_zero List.contains_cons List.contains_nil Bool.or_false Bool.false_or beq_self_eq_true Nat.reduceBEq ne_eq not_true_eq_false not_false_eq_true Id.mk.injEq false_and and_false Nat.reduceLT Int.reduceLE Int.reduceLT Int.reduceToNat Int.reduceNeg Int.reduceAdd Nat.le_refl List.length_append beq_true beq_false Bool.not_eq_eq_eq_not or_false false_or dE ad aj aI bE cj aW bf aV bo cN bG
theorem rT (a b:cr):ae Tryz.prog 97 [.agg (ak a),.agg (ak b)] (.bool (qT a b)):=by
 refine ae.body dM rfl fun hl n0=>?_
 clear hl
 by_cases h0:a.fQ<b.fQ
 ·(try((repeat(revert hN;revert N;apply Pn.out));refine wk (tw @ak.eq_1 @h0) ?_;(repeat(refine Pn.mk ?_;intro N hN))))
  exact aC (b:=true) (.inl rfl) (sd @Nat.zero_add) (by simp[qT,h0])
 ·by_cases h1:a.fQ=b.fQ
  ·have h2:¬b.fQ<b.fQ:=ab
   (try((repeat(revert hN;revert N;apply Pn.out));refine wk (tw @ak.eq_1 (tw @h1 @h2)) ?_;(repeat(refine Pn.mk ?_;intro N hN))))
   exact aC (b:=decide (a.gE<b.gE)) (.inl rfl) (sd @Nat.zero_add) (by simp[qT,h1])
  ·(try((repeat(revert hN;revert N;apply Pn.out));refine wk (tw @ak.eq_1 (tw @h0 @h1)) ?_;(repeat(refine Pn.mk ?_;intro N hN))))
   exact aC (b:=false) (.inl rfl) (sd @Nat.zero_add) (by simp[qT,h0,h1])
theorem gH {l:List ao} {i:Nat} (h:i<l.length):(l.map ai)[i]? =some (ai (bC l i)):=getD_map ai h
def D4 (l:List ao) (i:Nat):Prop:=F8 (bC l i).cI=true/\fI (bC l i).bJ 0 159=true/\(0<i->qT (bC l (i-1)).cI (bC l i).cI=true)
structure j6 (l:List ao):Prop where
 FW:l.length<=500
 ok:∀i,i<l.length->D4 l i
noncomputable def nE (l:List ao):Bool:=@decide (j6 l) (Classical.propDecidable _)
theorem Ew {l:List ao}:nE l=true↔j6 l:=by simp[nE]
theorem jG {l:List ao} (h:¬j6 l):false=nE l:=by simp[nE,h]
theorem v5 {l:List ao} (h:j6 l):true=nE l:=by simp[nE,h]
theorem j6.Rh {l:List ao} (h:j6 l):yO l:=by
 intro i j Q3 hj
 induction j with
 |zero=>omega
 |succ j ih=>
  have h1:=(h.ok (j+1) hj).2.2 ab
  rw[Nat.add_sub_cancel]at h1
  by_cases he:i=j
  ·subst he;exact h1
  ·exact lK (ih ab ab) h1
theorem j6.pt {l:List ao} (h:j6 l) {i:Nat} (hi:i<l.length):F8 (bC l i).cI=true:=(h.ok i hi).1
theorem Ie {p:cr} (h:F8 p=true):iB p.gE/\iB p.fQ:=by
 unfold F8 at h
 simp only[Bool.and_eq_true]at h
 have:=dB h.1;have:=dB h.2
 unfold iB;omega
theorem EX (l:List ao):ae Tryz.prog 95 [.cJ [.sl (l.map ai)]] (.bool (nE l)):=by
 refine ae.body dM rfl fun hl n0=>?_
 clear hl
 by_cases h1:(500:Int)<(l.length:Int)
 ·(try((repeat(revert hN;revert N;apply Pn.out));refine wk @h1 ?_;(repeat(refine Pn.mk ?_;intro N hN))))
  exact aC (b:=false) (.inl rfl) (sd @Nat.zero_add) (jG fun h=>by have:=h.FW;omega)
 (try((repeat(revert hN;revert N;apply Pn.out));refine wk @h1 ?_;(repeat(refine Pn.mk ?_;intro N hN))))
 refine aP (fun n env st=>∃k:Nat,n=(l.length)-k/\k<=(l.length)/\env 3=.int .i64 (k:Int)/\(∀j:Nat,j<k->D4 l j)) (l.length) ⟨0,ab,ab,sl @Nat.zero_add,fun _ h=>absurd h (Nat.not_lt_zero _)⟩ ?_
 rintro n_a env_a st_a ⟨k,rfl,ale,a3,iM⟩ dm
 have a0:=dm 0 (by kernel_rfl)
 simp only[go_sem, ↓reduceIte,Nat.reduceEqDiff,Nat.reduceAdd,Nat.reduceSub,Nat.reduceLeDiff,reduceCtorEq]at a0
 clear dm
 by_cases hk:(k:Int)<(l.length:Int)
 ·have bD:∀{e:Env},(e 3=.int .i64 (IntKind.i64.wrap ((k:Int)+1)))->(D4 l k)->∃m0,m0<(l.length)-k/\∃k:Nat,m0=(l.length)-k/\k<=(l.length)/\e 3=.int .i64 (k:Int)/\(∀j:Nat,j<k->D4 l j):=fun x1 x2=>⟨_,ab,k+1,rfl,ab,(by rw[x1,ay ab]),(all_succ iM x2)⟩
  have dX:k<l.length:=ab
  have eB:=gH dX
  have la:(¬D4 l k)->¬j6 l:=fun h hp=>h (hp.ok k dX)
  have hp:=BW (bC l k).cI
  have ht:=gU (bC l k).bJ 0 159
  cases b1:F8 (bC l k).cI
  ·rw[b1]at hp
   (repeat(first|((repeat(revert hN;revert N;apply Pn.out));refine wk (tw @a3 (tw @a0 (tw @hk (tw @eB (tw @ai.eq_1 @ak.eq_1))))) ?_;(repeat(refine Pn.mk ?_;intro N hN)))|((try apply Or.inl);refine⟨_,ae.x (hp) (sd (tw @a3 (tw @a0 (tw @hk (tw @eB (tw @ai.eq_1 @ak.eq_1)))))),?_⟩;refine hN _ _ ?_;clear hN N)))
   exact aC (b:=false) (.inl rfl) (sd @Nat.zero_add) (jG (la fun h=>by rw[D4,b1]at h;cases h.1))
  rw[b1]at hp
  cases b2:fI (bC l k).bJ 0 159
  ·rw[b2]at ht
   (repeat(first|((repeat(revert hN;revert N;apply Pn.out));refine wk (tw @a3 (tw @a0 (tw @hk (tw @eB (tw @ai.eq_1 @ak.eq_1))))) ?_;(repeat(refine Pn.mk ?_;intro N hN)))|((try apply Or.inl);refine⟨_,ae.x (hp) (sd (tw @a3 (tw @a0 (tw @hk (tw @eB (tw @ai.eq_1 @ak.eq_1)))))),?_⟩;refine hN _ _ ?_;clear hN N)|((try apply Or.inl);refine⟨_,ae.x (ht) (sd (tw @a3 (tw @a0 (tw @hk (tw @eB (tw @ai.eq_1 @ak.eq_1)))))),?_⟩;refine hN _ _ ?_;clear hN N)))
   exact aC (b:=false) (.inl rfl) (sd @Nat.zero_add) (jG (la fun h=>by rw[D4,b2]at h;cases h.2.1))
  rw[b2]at ht
  by_cases h0:(0:Int)<(k:Int)
  ·have tO:=gH (l:=l) (i:=k-1) ab
   have hw:IntKind.i64.wrap ((k:Int)-1)=((k-1:Nat):Int):=by rw[aT (by have:=dX;omega)];omega
   have hq:=rT (bC l (k-1)).cI (bC l k).cI
   cases b3:qT (bC l (k-1)).cI (bC l k).cI
   ·rw[b3]at hq
    (repeat(first|((repeat(revert hN;revert N;apply Pn.out));refine wk (tw @a3 (tw @a0 (tw @hk (tw @eB (tw @tO (tw @h0 (tw @hw (tw @ai.eq_1 @ak.eq_1)))))))) ?_;(repeat(refine Pn.mk ?_;intro N hN)))|((try apply Or.inl);refine⟨_,ae.x (hp) (sd (tw @a3 (tw @a0 (tw @hk (tw @eB (tw @tO (tw @h0 (tw @hw (tw @ai.eq_1 @ak.eq_1))))))))),?_⟩;refine hN _ _ ?_;clear hN N)|((try apply Or.inl);refine⟨_,ae.x (ht) (sd (tw @a3 (tw @a0 (tw @hk (tw @eB (tw @tO (tw @h0 (tw @hw (tw @ai.eq_1 @ak.eq_1))))))))),?_⟩;refine hN _ _ ?_;clear hN N)|((try apply Or.inl);refine⟨_,ae.x (hq) (sd (tw @a3 (tw @a0 (tw @hk (tw @eB (tw @tO (tw @h0 (tw @hw (tw @ai.eq_1 @ak.eq_1))))))))),?_⟩;refine hN _ _ ?_;clear hN N)))
    exact aC (b:=false) (.inl rfl) (sd @Nat.zero_add) (jG (la fun h=>by have:=h.2.2 ab;rw[b3]at this;cases this))
   ·rw[b3]at hq
    (repeat(first|((repeat(revert hN;revert N;apply Pn.out));refine wk (tw @a3 (tw @a0 (tw @hk (tw @eB (tw @tO (tw @h0 (tw @hw (tw @ai.eq_1 @ak.eq_1)))))))) ?_;(repeat(refine Pn.mk ?_;intro N hN)))|((try apply Or.inl);refine⟨_,ae.x (hp) (sd (tw @a3 (tw @a0 (tw @hk (tw @eB (tw @tO (tw @h0 (tw @hw (tw @ai.eq_1 @ak.eq_1))))))))),?_⟩;refine hN _ _ ?_;clear hN N)|((try apply Or.inl);refine⟨_,ae.x (ht) (sd (tw @a3 (tw @a0 (tw @hk (tw @eB (tw @tO (tw @h0 (tw @hw (tw @ai.eq_1 @ak.eq_1))))))))),?_⟩;refine hN _ _ ?_;clear hN N)|((try apply Or.inl);refine⟨_,ae.x (hq) (sd (tw @a3 (tw @a0 (tw @hk (tw @eB (tw @tO (tw @h0 (tw @hw (tw @ai.eq_1 @ak.eq_1))))))))),?_⟩;refine hN _ _ ?_;clear hN N)))
    exact bD (sd (tw @a3 @a0)) (⟨b1,b2,fun _=>b3⟩)
  ·have kJ:k=0:=ab
   (repeat(first|((repeat(revert hN;revert N;apply Pn.out));refine wk (tw @a3 (tw @a0 (tw @hk (tw @eB (tw @h0 (tw @ai.eq_1 @ak.eq_1)))))) ?_;(repeat(refine Pn.mk ?_;intro N hN)))|((try apply Or.inl);refine⟨_,ae.x (hp) (sd (tw @a3 (tw @a0 (tw @hk (tw @eB (tw @h0 (tw @ai.eq_1 @ak.eq_1))))))),?_⟩;refine hN _ _ ?_;clear hN N)|((try apply Or.inl);refine⟨_,ae.x (ht) (sd (tw @a3 (tw @a0 (tw @hk (tw @eB (tw @h0 (tw @ai.eq_1 @ak.eq_1))))))),?_⟩;refine hN _ _ ?_;clear hN N)))
   exact bD (sd (tw @a3 @a0)) (⟨b1,b2,fun h=>ab⟩)
 ·(try((repeat(revert hN;revert N;apply Pn.out));refine wk (tw @a3 (tw @a0 @hk)) ?_;(repeat(refine Pn.mk ?_;intro N hN))))
  exact aC (b:=true) (.inl rfl) (sd @Nat.zero_add) (v5 ⟨ab,fun i hi=>iM i ab⟩)
theorem od (a b:Int):ae Tryz.prog 141 [.int .i64 a,.int .i64 b] (.int .i64 (pc a b)):=by
 have nan:∀x:Int,ae Tryz.prog 157 [.int .i64 x] (.bool false):=fun x=>by
  refine ae.body dM rfl fun hl n0=>?_
  clear hl
  have e:decide (x=x)=true:=decide_eq_true rfl
  (try((repeat(revert hN;revert N;apply Pn.out));refine wk @e ?_;(repeat(refine Pn.mk ?_;intro N hN))))
  exact aC (b:=false) (.inl rfl) (sd @Nat.zero_add) rfl
 refine ae.body dM rfl fun hl n0=>?_
 clear hl
 have ha:=nan a
 have hb:=nan b
 by_cases h1:a<b
 ·(repeat(first|((repeat(revert hN;revert N;apply Pn.out));refine wk @h1 ?_;(repeat(refine Pn.mk ?_;intro N hN)))|((try apply Or.inl);refine⟨_,ae.x (ha) (sd @h1),?_⟩;refine hN _ _ ?_;clear hN N)|((try apply Or.inl);refine⟨_,ae.x (hb) (sd @h1),?_⟩;refine hN _ _ ?_;clear hN N)))
  exact aZ (b:=-1) (.inl rfl) (sd @Nat.zero_add) (by rw[pc,if_pos h1])
 by_cases h2:b<a
 ·(repeat(first|((repeat(revert hN;revert N;apply Pn.out));refine wk (tw @h1 @h2) ?_;(repeat(refine Pn.mk ?_;intro N hN)))|((try apply Or.inl);refine⟨_,ae.x (ha) (sd (tw @h1 @h2)),?_⟩;refine hN _ _ ?_;clear hN N)|((try apply Or.inl);refine⟨_,ae.x (hb) (sd (tw @h1 @h2)),?_⟩;refine hN _ _ ?_;clear hN N)))
  exact aZ (b:=1) (.inl rfl) (sd @Nat.zero_add) (by rw[pc,if_neg h1,if_pos h2])
 ·(repeat(first|((repeat(revert hN;revert N;apply Pn.out));refine wk (tw @h1 @h2) ?_;(repeat(refine Pn.mk ?_;intro N hN)))|((try apply Or.inl);refine⟨_,ae.x (ha) (sd (tw @h1 @h2)),?_⟩;refine hN _ _ ?_;clear hN N)|((try apply Or.inl);refine⟨_,ae.x (hb) (sd (tw @h1 @h2)),?_⟩;refine hN _ _ ?_;clear hN N)))
  exact aZ (b:=0) (.inl rfl) (sd @Nat.zero_add) (by rw[pc,if_neg h1,if_neg h2])
def F7:List Int->Int
 |[]=>0
 |a::r=>if a=0 then F7 r else a
theorem H9:∀{l:List Int} {k:Nat} (hk:k<l.length),l[k]≠0->(∀j (h:j<l.length),j<k->l[j]=0)->F7 l=l[k]
 |a::r,0,_,h,_=>by
  have h':a≠0:=h
  rw[F7,if_neg h'];rfl
 |a::r,k+1,hk,h,h0=>by
  have h':a=0:=h0 0 (by simp) ab
  rw[F7,if_pos h',H9 (k:=k) (by simpa using hk) h fun j hj wh=>h0 (j+1) (by simpa using hj) ab];rfl
theorem Aj:∀{l:List Int},(∀j (h:j<l.length),l[j]=0)->F7 l=0
 |[],_=>rfl
 |a::r,h=>by
  have h':a=0:=h 0 (by simp)
  rw[F7,if_pos h',Aj fun j hj=>h (j+1) (by simpa using hj)]
theorem DD (a b:Int):F7 [a,b]=Nk a b:=by
 unfold Nk
 by_cases h:a=0
 ·rw[F7,if_pos h,if_pos h,F7,F7];split<;>simp_all
 ·rw[F7,if_neg h,if_neg h]
theorem CV (l:List Int):ae Tryz.prog 140 [.sl (l.map ar)] (.int .i64 (F7 l)):=by
 refine ae.body dM rfl fun hl n0=>?_
 have hlen:l.length<=9223372036854775807:=by simpa using(hl (.sl (l.map ar)) (by simp)).len
 clear hl
 (try((repeat(revert hN;revert N;apply Pn.out));refine wk @Nat.zero_add ?_;(repeat(refine Pn.mk ?_;intro N hN))))
 refine aP (fun n env st=>∃k:Nat,n=(l.length)-k/\k<=(l.length)/\env 8=.int .i64 (k:Int)/\(∀j:Nat,j<k->∀h:j<l.length,l[j]=0)) (l.length) ⟨0,ab,ab,sl @Nat.zero_add,fun _ h=>absurd h (Nat.not_lt_zero _)⟩ ?_
 rintro n_a env_a st_a ⟨k,rfl,ale,a8,iM⟩ dm
 have a3:=dm 3 (by kernel_rfl);have a6:=dm 6 (by kernel_rfl);have a7:=dm 7 (by kernel_rfl)
 simp only[go_sem, ↓reduceIte,Nat.reduceEqDiff,Nat.reduceAdd,Nat.reduceSub,Nat.reduceLeDiff,reduceCtorEq]at a3 a6 a7
 clear dm
 by_cases hk:(k:Int)<(l.length:Int)
 ·have bD:∀{e:Env},(e 8=.int .i64 (IntKind.i64.wrap ((k:Int)+1)))->(∀h:k<l.length,l[k]=0)->∃m0,m0<(l.length)-k/\∃k:Nat,m0=(l.length)-k/\k<=(l.length)/\e 8=.int .i64 (k:Int)/\(∀j:Nat,j<k->∀h:j<l.length,l[j]=0):=fun x1 x2=>⟨_,ab,k+1,rfl,ab,(by rw[x1,ay ab]),(all_succ iM x2)⟩
  have dX:k<l.length:=ab
  have eB:(l.map ar)[k]? =some (ar l[k]):=by simp[dX]
  generalize hv:l[k]=v at eB
  by_cases h0:v=0
  ·have e:decide (v=0)=true:=decide_eq_true h0
   (try((repeat(revert hN;revert N;apply Pn.out));refine wk (tw @a8 (tw @a3 (tw @a6 (tw @a7 (tw @e (tw @hk (tw @eB @ar.eq_1))))))) ?_;(repeat(refine Pn.mk ?_;intro N hN))))
   exact bD (sd (tw @a8 (tw @a3 (tw @a6 @a7)))) (fun _=>hv.trans h0)
  ·have e:decide (v=0)=false:=decide_eq_false h0
   (try((repeat(revert hN;revert N;apply Pn.out));refine wk (tw @a8 (tw @a3 (tw @a6 (tw @a7 (tw @e (tw @hk (tw @eB @ar.eq_1))))))) ?_;(repeat(refine Pn.mk ?_;intro N hN))))
   exact aZ (b:=v) (.inl rfl) (sd @Nat.zero_add) (by rw[H9 dX (by rw[hv];exact h0) fun j h hj=>iM j hj h,hv])
 ·(try((repeat(revert hN;revert N;apply Pn.out));refine wk (tw @a8 (tw @a3 (tw @a6 (tw @a7 @hk)))) ?_;(repeat(refine Pn.mk ?_;intro N hN))))
  exact aZ (b:=0) (.inl rfl) (sd @Nat.zero_add) (by rw[Aj fun j h=>iM j ab h])
section
attribute [local go_sem] List.drop_zero List.take_succ_cons List.take_zero List.length_cons List.length_nil fS p9 kW
theorem mL (a b:cr):ae Tryz.prog 139 [.agg (ak a),.agg (ak b)] (.int .i64 (sv a b)):=by
 refine ae.body dM rfl fun hl n0=>?_
 clear hl
 have h1:=od a.fQ b.fQ
 have h2:=od a.gE b.gE
 have h3:=CV [pc a.fQ b.fQ,pc a.gE b.gE]
 rw[DD,List.map_cons,List.map_cons,List.map_nil,ar,ar]at h3
 (repeat(first|((repeat(revert hN;revert N;apply Pn.out));refine wk @ak.eq_1 ?_;(repeat(refine Pn.mk ?_;intro N hN)))|((try apply Or.inl);refine⟨_,ae.x (h1) (sd @ak.eq_1),?_⟩;refine hN _ _ ?_;clear hN N)|((try apply Or.inl);refine⟨_,ae.x (h2) (sd @ak.eq_1),?_⟩;refine hN _ _ ?_;clear hN N)|((try apply Or.inl);refine⟨_,ae.x (h3) (sd @ak.eq_1),?_⟩;refine hN _ _ ?_;clear hN N)))
 exact aZ (b:=sv a b) (.inl rfl) (by simp only[go_sem, ↓reduceIte,Nat.reduceEqDiff,Nat.reduceAdd,Nat.reduceSub,Nat.reduceLeDiff,reduceCtorEq,sv]) rfl
end
theorem J3 (a b:cr):ae Tryz.prog 137 [.agg (ak a),.agg (ak b)] (.bool (qT a b)):=by
 refine ae.body dM rfl fun hl n0=>?_
 clear hl
 have h1:=mL a b
 rw[ak,ak]at h1
 (repeat(first|((repeat(revert hN;revert N;apply Pn.out));refine wk @ak.eq_1 ?_;(repeat(refine Pn.mk ?_;intro N hN)))|((try apply Or.inl);refine⟨_,ae.x (h1) (sd @ak.eq_1),?_⟩;refine hN _ _ ?_;clear hN N)))
 exact aC (b:=decide (sv a b<0)) (.inl rfl) (sd @Nat.zero_add) (xg a b)
theorem jM (t:ao) (p:cr):ae Tryz.prog 108 [.agg (ai t),.agg (ak p)] (.int .i64 (sv t.cI p)):=by
 refine ae.body dM rfl fun hl n0=>?_
 clear hl
 have h1:=mL t.cI p
 rw[ak,ak]at h1
 (repeat(first|((repeat(revert hN;revert N;apply Pn.out));refine wk (tw @ai.eq_1 @ak.eq_1) ?_;(repeat(refine Pn.mk ?_;intro N hN)))|((try apply Or.inl);refine⟨_,ae.x (h1) (sd (tw @ai.eq_1 @ak.eq_1)),?_⟩;refine hN _ _ ?_;clear hN N)))
 exact aZ (b:=sv t.cI p) (.inl rfl) (sd @Nat.zero_add) rfl
theorem EA (l:List ao):ae Tryz.prog 103 [.agg [.sl (l.map ai)]] (.bool (nE l)):=by
 refine ae.body dM rfl fun hl n0=>?_
 have hlen:l.length<=9223372036854775807:=by
  have h1:=(hl (.agg [.sl (l.map ai)]) (by simp)).Gt (a:=.sl (l.map ai)) (by simp)
  simpa using h1.len
 clear hl
 (try((repeat(revert hN;revert N;apply Pn.out));refine wk @Nat.zero_add ?_;(repeat(refine Pn.mk ?_;intro N hN))))
 refine aP (fun n env st=>∃k:Nat,n=(l.length)-k/\k<=(l.length)/\env 8=.int .i64 (k:Int)/\st.get ⟨103000000,n0⟩=some ⟨true,1,[[.sl (l.map ai)]]⟩/\(∀j:Nat,j<k->D4 l j)) (l.length) ⟨0,ab,ab,sl @Nat.zero_add,sl @Nat.zero_add,fun _ h=>absurd h (Nat.not_lt_zero _)⟩ ?_
 rintro n_a env_a st_a ⟨k,rfl,ale,a8,ag0,iM⟩ dm
 have a1:=dm 1 (by kernel_rfl);have a6:=dm 6 (by kernel_rfl);have a7:=dm 7 (by kernel_rfl)
 simp only[go_sem, ↓reduceIte,Nat.reduceEqDiff,Nat.reduceAdd,Nat.reduceSub,Nat.reduceLeDiff,reduceCtorEq]at a1 a6 a7
 clear dm
 by_cases hk:(k:Int)<(l.length:Int)
 ·have bD:∀{e:Env} {gg:Rows},(e 8=.int .i64 (IntKind.i64.wrap ((k:Int)+1)))->(gg ⟨103000000,n0⟩=some ⟨true,1,[[.sl (l.map ai)]]⟩)->(D4 l k)->∃m0,m0<(l.length)-k/\∃k:Nat,m0=(l.length)-k/\k<=(l.length)/\e 8=.int .i64 (k:Int)/\gg ⟨103000000,n0⟩=some ⟨true,1,[[.sl (l.map ai)]]⟩/\(∀j:Nat,j<k->D4 l j):=fun x1 x2 x3=>⟨_,ab,k+1,rfl,ab,(by rw[x1,ay ab]),x2,(all_succ iM x3)⟩
  have dX:k<l.length:=ab
  have eB:=gH dX
  have la:(¬D4 l k)->¬j6 l:=fun h hp=>h (hp.ok k dX)
  have hp:=w7 (bC l k).cI
  have ht:=rE (bC l k).bJ 160 ab ab
  rw[show(160:Int)-1=159 from rfl]at ht
  cases b1:F8 (bC l k).cI
  ·rw[b1]at hp
   (repeat(first|((repeat(revert hN;revert N;apply Pn.out));refine wk (tw @a8 (tw @ag0 (tw @a1 (tw @a6 (tw @a7 (tw @hk (tw @eB (tw @ai.eq_1 @ak.eq_1)))))))) ?_;(repeat(refine Pn.mk ?_;intro N hN)))|((try apply Or.inl);refine⟨_,ae.x (hp) (sd (tw @a8 (tw @ag0 (tw @a1 (tw @a6 (tw @a7 (tw @hk (tw @eB (tw @ai.eq_1 @ak.eq_1))))))))),?_⟩;refine hN _ _ ?_;clear hN N)))
   exact aC (b:=false) (.inl rfl) (sd @Nat.zero_add) (jG (la fun h=>by rw[D4,b1]at h;cases h.1))
  rw[b1]at hp
  cases b2:fI (bC l k).bJ 0 159
  ·rw[b2]at ht
   (repeat(first|((repeat(revert hN;revert N;apply Pn.out));refine wk (tw @a8 (tw @ag0 (tw @a1 (tw @a6 (tw @a7 (tw @hk (tw @eB (tw @ai.eq_1 @ak.eq_1)))))))) ?_;(repeat(refine Pn.mk ?_;intro N hN)))|((try apply Or.inl);refine⟨_,ae.x (hp) (sd (tw @a8 (tw @ag0 (tw @a1 (tw @a6 (tw @a7 (tw @hk (tw @eB (tw @ai.eq_1 @ak.eq_1))))))))),?_⟩;refine hN _ _ ?_;clear hN N)|((try apply Or.inl);refine⟨_,ae.x (ht) (sd (tw @a8 (tw @ag0 (tw @a1 (tw @a6 (tw @a7 (tw @hk (tw @eB (tw @ai.eq_1 @ak.eq_1))))))))),?_⟩;refine hN _ _ ?_;clear hN N)))
   exact aC (b:=false) (.inl rfl) (sd @Nat.zero_add) (jG (la fun h=>by rw[D4,b2]at h;cases h.2.1))
  rw[b2]at ht
  by_cases h0:(0:Int)<(k:Int)
  ·have tO:=gH (l:=l) (i:=k-1) ab
   have hw:IntKind.i64.wrap ((k:Int)-1)=((k-1:Nat):Int):=by rw[aT ab];omega
   have hq:=J3 (bC l (k-1)).cI (bC l k).cI
   cases b3:qT (bC l (k-1)).cI (bC l k).cI
   ·rw[b3]at hq
    (repeat(first|((repeat(revert hN;revert N;apply Pn.out));refine wk (tw @a8 (tw @ag0 (tw @a1 (tw @a6 (tw @a7 (tw @hk (tw @eB (tw @tO (tw @h0 (tw @hw (tw @ai.eq_1 @ak.eq_1))))))))))) ?_;(repeat(refine Pn.mk ?_;intro N hN)))|((try apply Or.inl);refine⟨_,ae.x (hp) (sd (tw @a8 (tw @ag0 (tw @a1 (tw @a6 (tw @a7 (tw @hk (tw @eB (tw @tO (tw @h0 (tw @hw (tw @ai.eq_1 @ak.eq_1)))))))))))),?_⟩;refine hN _ _ ?_;clear hN N)|((try apply Or.inl);refine⟨_,ae.x (ht) (sd (tw @a8 (tw @ag0 (tw @a1 (tw @a6 (tw @a7 (tw @hk (tw @eB (tw @tO (tw @h0 (tw @hw (tw @ai.eq_1 @ak.eq_1)))))))))))),?_⟩;refine hN _ _ ?_;clear hN N)|((try apply Or.inl);refine⟨_,ae.x (hq) (sd (tw @a8 (tw @ag0 (tw @a1 (tw @a6 (tw @a7 (tw @hk (tw @eB (tw @tO (tw @h0 (tw @hw (tw @ai.eq_1 @ak.eq_1)))))))))))),?_⟩;refine hN _ _ ?_;clear hN N)))
    exact aC (b:=false) (.inl rfl) (sd @Nat.zero_add) (jG (la fun h=>by have:=h.2.2 ab;rw[b3]at this;cases this))
   ·rw[b3]at hq
    (repeat(first|((repeat(revert hN;revert N;apply Pn.out));refine wk (tw @a8 (tw @ag0 (tw @a1 (tw @a6 (tw @a7 (tw @hk (tw @eB (tw @tO (tw @h0 (tw @hw (tw @ai.eq_1 @ak.eq_1))))))))))) ?_;(repeat(refine Pn.mk ?_;intro N hN)))|((try apply Or.inl);refine⟨_,ae.x (hp) (sd (tw @a8 (tw @ag0 (tw @a1 (tw @a6 (tw @a7 (tw @hk (tw @eB (tw @tO (tw @h0 (tw @hw (tw @ai.eq_1 @ak.eq_1)))))))))))),?_⟩;refine hN _ _ ?_;clear hN N)|((try apply Or.inl);refine⟨_,ae.x (ht) (sd (tw @a8 (tw @ag0 (tw @a1 (tw @a6 (tw @a7 (tw @hk (tw @eB (tw @tO (tw @h0 (tw @hw (tw @ai.eq_1 @ak.eq_1)))))))))))),?_⟩;refine hN _ _ ?_;clear hN N)|((try apply Or.inl);refine⟨_,ae.x (hq) (sd (tw @a8 (tw @ag0 (tw @a1 (tw @a6 (tw @a7 (tw @hk (tw @eB (tw @tO (tw @h0 (tw @hw (tw @ai.eq_1 @ak.eq_1)))))))))))),?_⟩;refine hN _ _ ?_;clear hN N)))
    refine bD ?_ ?_ (⟨b1,b2,fun _=>b3⟩)
    all_goals simp only[go_sem, ↓reduceIte,Nat.reduceEqDiff,Nat.reduceAdd,Nat.reduceSub,Nat.reduceLeDiff,reduceCtorEq,a8,ag0,a1,a6,a7]
  ·have kJ:k=0:=ab
   (repeat(first|((repeat(revert hN;revert N;apply Pn.out));refine wk (tw @a8 (tw @ag0 (tw @a1 (tw @a6 (tw @a7 (tw @hk (tw @eB (tw @h0 (tw @ai.eq_1 @ak.eq_1))))))))) ?_;(repeat(refine Pn.mk ?_;intro N hN)))|((try apply Or.inl);refine⟨_,ae.x (hp) (sd (tw @a8 (tw @ag0 (tw @a1 (tw @a6 (tw @a7 (tw @hk (tw @eB (tw @h0 (tw @ai.eq_1 @ak.eq_1)))))))))),?_⟩;refine hN _ _ ?_;clear hN N)|((try apply Or.inl);refine⟨_,ae.x (ht) (sd (tw @a8 (tw @ag0 (tw @a1 (tw @a6 (tw @a7 (tw @hk (tw @eB (tw @h0 (tw @ai.eq_1 @ak.eq_1)))))))))),?_⟩;refine hN _ _ ?_;clear hN N)))
   refine bD ?_ ?_ (⟨b1,b2,fun h=>ab⟩)
   all_goals simp only[go_sem, ↓reduceIte,Nat.reduceEqDiff,Nat.reduceAdd,Nat.reduceSub,Nat.reduceLeDiff,reduceCtorEq,a8,ag0,a1,a6,a7]
 ·(try((repeat(revert hN;revert N;apply Pn.out));refine wk (tw @a8 (tw @ag0 (tw @a1 (tw @a6 (tw @a7 @hk))))) ?_;(repeat(refine Pn.mk ?_;intro N hN))))
  refine aC (b:=decide ((l.length:Int)<=500)) (.inl rfl) (sd @Nat.zero_add) ?_
  by_cases h5:(l.length:Int)<=500
  ·rw[decide_eq_true h5];exact v5 ⟨ab,fun i hi=>iM i ab⟩
  ·rw[decide_eq_false h5];exact jG fun h=>by have:=h.FW;omega
end Go.Proofs.YtihgaadadaekmaaGreatDoor.V

namespace Go.Proofs.YtihgaadadaekmaaGreatDoor
open Go.RowKit
structure eH where
 dn:Int
 de:Int
deriving DecidableEq
structure dG where
 aU:Int
 aq:List eH
 aL:List (List Int)
deriving DecidableEq
end Go.Proofs.YtihgaadadaekmaaGreatDoor
namespace Go.Proofs.YtihgaadadaekmaaGreatDoor.V
open Go.RowKit
attribute [local irreducible] ea wpOps gR Call
attribute [local go_sem] aM fP eL gh ga cE upd cu K.av cL AV.cells AV.cell rowOf rowsOf part ld rowAt bY ck dI ef ig bL da ez gn e7 du ek cY cX dV dW bR bm cQ bQ cT cR ei eo ej cP bW cZ eh bP aQ cV cC ib bw cH bS aY dF bu dK AV.undef bF bH dY ee dU eb cF ew eD cw eu er cU cW List.getD_cons_zero List.getD_cons_succ List.getD_nil List.all_cons List.all_nil Bool.and_true Bool.true_and Bool.and_self Bool.not_true Bool.not_false Option.map_some Option.map_none Option.bind_some Option.bind_none List.length_cons List.length_nil List.take_succ_cons List.take_zero List.take_nil List.drop_succ_cons List.drop_zero List.drop_nil List.head?_cons List.map_cons List.map_nil List.getElem?_cons_zero List.getElem?_cons_succ List.cons_append List.nil_append List.append_nil List.length_map List.set_cons_zero List.set_cons_succ eq_self Int.toNat_natCast Int.natCast_nonneg and_self true_and and_true decide_true decide_false Bool.false_eq_true Nat.zero_add Nat.add_zero List.contains_cons List.contains_nil Bool.or_false Bool.false_or beq_self_eq_true ne_eq not_true_eq_false not_false_eq_true Id.mk.injEq false_and and_false Nat.le_refl List.length_append beq_true beq_false Bool.not_eq_eq_eq_not or_false false_or dE ad aj aI bE cj aW bf aV bo cN bG
def bh (d:eH):List AV:=[.int .i64 d.dn,.int .i64 d.de]
def bc (d:dG):List AV:=[.int .i64 d.aU,.sl (d.aq.map bh),.sl (d.aL.map j9)]
def iG (l:List eH) (i:Nat):eH:=l.getD i ⟨0,0⟩
theorem sM {l:List eH} {k:Nat} (h:k<l.length):(l.map bh)[k]? =some (bh (iG l k)):=getD_map bh h
def qF (l:List (List Int)) (i:Nat):List Int:=l.getD i []
theorem KO {l:List (List Int)} {k:Nat} (h:k<l.length):(l.map j9)[k]? =some [.sl ((qF l k).map ar)]:=getD_map j9 h
def AW (a b:Int):Int:=IntKind.i64.wrap ((BitVec.ofInt IntKind.i64.bits a&&& BitVec.ofInt IntKind.i64.bits b).toNat)
theorem K3 (a b:Int):dI .and .i64 a b=some (.int .i64 (AW a b)):=rfl
def mu (n:Int):Int:=(2:Int) ^ n.toNat
theorem Io {n:Int} (h0:1<=n) (h1:n<=4):IntKind.i64.wrap (1*2 ^ min n.toNat 64)=mu n:=by
 obtain⟨k,rfl⟩:∃k:Nat,n=(k:Int):=⟨n.toNat,ab⟩
 have:∀k:Fin 5,IntKind.i64.wrap (1*2 ^ min ((k.1:Int)).toNat 64)=mu (k.1:Int):=by decide
 exact this ⟨k,ab⟩
theorem yp {n:Int} (h0:1<=n) (h1:n<=4):2<=mu n/\mu n<=16:=by
 obtain⟨k,rfl⟩:∃k:Nat,n=(k:Int):=⟨n.toNat,ab⟩
 have:∀k:Fin 5,1<=k.1->2<=mu (k.1:Int)/\mu (k.1:Int)<=16:=by decide
 exact this ⟨k,ab⟩ (by simp;omega)
def oO (n:Int) (c:eH):Bool:=fI c.dn 0 (mu n-1)&&decide (AW c.de c.dn=c.de)
theorem Bc {n:Int} (h0:1<=n) (h1:n<=4) {c:eH} (hc:fI c.dn 0 (mu n-1)=true) (hv:AW c.de c.dn=c.de):fI c.de 0 (mu n-1)=true:=by
 have h2:=dB hc
 have h3:=yp h0 h1
 have h4:(BitVec.ofInt IntKind.i64.bits c.de&&& BitVec.ofInt IntKind.i64.bits c.dn).toNat<=c.dn.toNat:=by
  rw[BitVec.toNat_and]
  refine Nat.le_trans Nat.and_le_right ?_
  have e:IntKind.i64.bits=64:=rfl
  rw[e,BitVec.toNat_ofInt]
  omega
 have h5:AW c.de c.dn=((BitVec.ofInt IntKind.i64.bits c.de&&& BitVec.ofInt IntKind.i64.bits c.dn).toNat:Int):=aT ab
 refine nI ?_
 omega
def p4 (a b:eH):Bool:=decide (a.dn<b.dn)||(decide (a.dn=b.dn)&&decide (a.de<b.de))
def Ed (a b:eH):Int:=Nk (pc a.dn b.dn) (pc a.de b.de)
theorem Jn (a b:eH):decide (0<=Ed a b)= !p4 a b:=by
 unfold Ed Nk pc p4
 by_cases h1:a.dn<b.dn
 ·simp[h1]
 ·by_cases h2:b.dn<a.dn
  ·have h3:¬a.dn=b.dn:=ab
   simp[h1,h2,h3]
  ·have h3:a.dn=b.dn:=ab
   simp[h3]
   by_cases h4:a.de<b.de
   ·simp[h4]
   ·by_cases h5:b.de<a.de
    ·simp[h4,h5]
    ·simp[h4,h5]
def nj (m:Int) (l:List Int) (i:Nat):Prop:=fI (l.getD i 0) 0 (m-1)=true/\(0<i->l.getD (i-1) 0<l.getD i 0)
instance (m:Int) (l:List Int) (i:Nat):Decidable (nj m l i):=by unfold nj;exact inferInstance
def mZ (m:Int) (l:List Int):Bool:=(List.range l.length).all fun i=>decide (nj m l i)
theorem s4 {m:Int} {l:List Int} {i:Nat} (hi:i<l.length) (h:¬nj m l i):false=mZ m l:=by
 symm
 simp only[mZ,List.all_eq_false,List.mem_range]
 exact⟨i,hi,by simpa using h⟩
theorem An {m:Int} {l:List Int} (h:∀i,i<l.length->nj m l i):true=mZ m l:=by
 symm
 simp only[mZ,List.all_eq_true,List.mem_range]
 exact fun i hi=>decide_eq_true (h i hi)
def lV (n:Int) (l:List eH) (i:Nat):Prop:=oO n (iG l i)=true/\(0<i->p4 (iG l (i-1)) (iG l i)=true)
instance (n:Int) (l:List eH) (i:Nat):Decidable (lV n l i):=by unfold lV;exact inferInstance
def nF (f:dG):Bool:=(fI f.aU 1 4&&fI f.aL.length 1 3&&decide (f.aq.length<=81))&&((List.range f.aq.length).all fun i=>decide (lV f.aU f.aq i))&&f.aL.all fun l=>mZ f.aq.length l
theorem j4 {f:dG} (h:(fI f.aU 1 4&&fI f.aL.length 1 3&&decide (f.aq.length<=81))=false):false=nF f:=by rw[nF,h];rfl
theorem oh {f:dG} {i:Nat} (hi:i<f.aq.length) (h:¬lV f.aU f.aq i):false=nF f:=by
 have:((List.range f.aq.length).all fun i=>decide (lV f.aU f.aq i))=false:=by
  simp only[List.all_eq_false,List.mem_range]
  exact⟨i,hi,by simpa using h⟩
 rw[nF,this,Bool.and_false,Bool.false_and]
theorem wb {f:dG} (h:(fI f.aU 1 4&&fI f.aL.length 1 3&&decide (f.aq.length<=81))=true) (hc:∀i,i<f.aq.length->lV f.aU f.aq i):nF f=f.aL.all fun l=>mZ f.aq.length l:=by
 have:((List.range f.aq.length).all fun i=>decide (lV f.aU f.aq i))=true:=by
  simp only[List.all_eq_true,List.mem_range]
  exact fun i hi=>decide_eq_true (hc i hi)
 rw[nF,this,h];rfl
end Go.Proofs.YtihgaadadaekmaaGreatDoor.V

namespace Go.Proofs.YtihgaadadaekmaaGreatDoor.V
open Go.RowKit
attribute [local irreducible] ea wpOps gR Call
attribute [local go_sem] aM fP eL gh ga cE upd cu K.av cL AV.cells AV.cell rowOf rowsOf part ld rowAt bY ck dI ef ig bL da ez gn e7 du ek cY cX dV dW bR bm cQ bQ cT cR ei eo ej cP bW cZ eh bP aQ cV cC ib bw cH bS aY dF bu dK AV.undef bF bH dY ee dU eb cF ew eD cw eu er cU cW List.getD_cons_zero List.getD_cons_succ List.getD_nil List.all_cons List.all_nil Bool.and_true Bool.true_and Bool.and_self Bool.not_true Bool.not_false Option.map_some Option.map_none Option.bind_some Option.bind_none List.length_cons List.length_nil List.take_succ_cons List.take_zero List.take_nil List.drop_succ_cons List.drop_zero List.drop_nil List.head?_cons List.map_cons List.map_nil List.getElem?_cons_zero List.getElem?_cons_succ List.cons_append List.nil_append List.append_nil List.length_map List.set_cons_zero List.set_cons_succ Nat.reduceMul eq_self Int.toNat_natCast Int.natCast_nonneg and_self true_and and_true decide_true decide_false Bool.false_eq_true Nat.zero_add Nat.add_zero List.contains_cons List.contains_nil Bool.or_false Bool.false_or beq_self_eq_true Nat.reduceBEq ne_eq not_true_eq_false not_false_eq_true Id.mk.injEq false_and and_false Nat.reduceLT Int.reduceLE Int.reduceLT Int.reduceToNat Int.reduceNeg Int.reduceAdd Nat.le_refl List.length_append beq_true beq_false Bool.not_eq_eq_eq_not or_false false_or dE ad aj aI bE cj aW bf aV bo cN bG
theorem vQ (cells:List ao) (p:cr) (hR:yO cells) (JA:cells.length<=1048576):
  ae Tryz.prog 107 [.sl (cells.map ai),.agg (ak p),.fn 108 []] (.iL [.int .i64 (lJ cells p),.bool (decide (lJ cells p<cells.length)&&decide ((bC cells (lJ cells p)).cI=p))]):=by
 refine ae.body dM rfl fun hl n0=>?_
 clear hl
 (try((repeat(revert hN;revert N;apply Pn.out));refine wk @ak.eq_1 ?_;(repeat(refine Pn.mk ?_;intro N hN))))
 refine aP (fun n env st=>∃i j:Nat,n=j-i/\i<=j/\j<=cells.length/\(∀x,x<i->qT (bC cells x).cI p=true)/\(∀x,j<=x->x<cells.length->qT (bC cells x).cI p=false)/\env 9=.int .i64 i/\env 10=.int .i64 j/\st.get ⟨107000000,n0⟩=some ⟨true,2,[ak p]⟩) cells.length ⟨0,cells.length,ab,ab,ab,fun x h=>ab,fun x h1 h2=>ab,by(simp only[go_sem, ↓reduceIte,Nat.reduceEqDiff,Nat.reduceAdd,Nat.reduceSub,Nat.reduceLeDiff,reduceCtorEq])<;>rfl,sd @Nat.zero_add,sd @ak.eq_1⟩ ?_
 rintro n env st ⟨i,j,rfl,Q3,hj,jS,AJ,h9,G2,hg⟩ fr
 have h0:=fr 0 (by kernel_rfl)
 have h2:=fr 2 (by kernel_rfl)
 have h4:=fr 4 (by kernel_rfl)
 have h8:=fr 8 (by kernel_rfl)
 simp only[go_sem, ↓reduceIte,Nat.reduceEqDiff,Nat.reduceAdd,Nat.reduceSub,Nat.reduceLeDiff,reduceCtorEq]at h0 h2 h4 h8
 clear fr
 by_cases dD:(i:Int)<(j:Int)
 ·have e1:IntKind.i64.wrap ((i:Int)+j)=((i+j:Nat):Int):=by rw[aT ab];rfl
  have hm:(i+j) / 2<cells.length:=ab
  have dR:(cells.map ai)[(i+j) / 2]? =some (ai (bC cells ((i+j) / 2))):=gH (l:=cells) hm
  have e2:IntKind.i64.wrap ((IntKind.u64.wrap ((i+j:Nat):Int)).fdiv (2 ^ min 1 IntKind.u64.bits))=(((i+j) / 2:Nat):Int):=by
   have h:IntKind.u64.wrap ((i+j:Nat):Int)=((i+j:Nat):Int):=by rw[IntKind.wrap_u64];omega
   rw[h,show min 1 IntKind.u64.bits=1 from rfl,show((2:Int) ^ 1)=2 from rfl,Int.fdiv_eq_ediv_of_nonneg _ ab]
   rw[aT ab];omega
  have OW:IntKind.i64.wrap ((IntKind.u64.wrap ((i+j:Nat):Int)).fdiv (2 ^ min 1 64))=(((i+j) / 2:Nat):Int):=e2
  have e3:=ay (k:=(i+j) / 2) ab
  by_cases hc:sv (bC cells ((i+j) / 2)).cI p<0
  ·have hl:qT (bC cells ((i+j) / 2)).cI p=true:=by rw[<-xg];simpa using hc
   (repeat(first|((repeat(revert hN;revert N;apply Pn.out));refine wk (tw @h0 (tw @h2 (tw @h4 (tw @h8 (tw @h9 (tw @G2 (tw @hg (tw @dD (tw @e1 (tw @e2 (tw @OW (tw @dR (tw @hc (tw @ai.eq_1 @ak.eq_1)))))))))))))) ?_;(repeat(refine Pn.mk ?_;intro N hN)))|((try apply Or.inl);refine⟨_,ae.x (jM (bC cells ((i+j) / 2)) p) (sd (tw @h0 (tw @h2 (tw @h4 (tw @h8 (tw @h9 (tw @G2 (tw @hg (tw @dD (tw @e1 (tw @e2 (tw @OW (tw @dR (tw @hc (tw @ai.eq_1 @ak.eq_1))))))))))))))),?_⟩;refine hN _ _ ?_;clear hN N)))
   refine⟨_,?_,(i+j) / 2+1,j,rfl,ab,hj,fun x hx=>?_,AJ,sd @e3,sd @G2,sd (tw @hg @ak.eq_1)⟩
   ·omega
   ·by_cases M4:x=(i+j) / 2
    ·subst M4;exact hl
    ·exact lK (hR x _ ab hm) hl
  ·have hl:qT (bC cells ((i+j) / 2)).cI p=false:=by rw[<-xg];simpa using hc
   (repeat(first|((repeat(revert hN;revert N;apply Pn.out));refine wk (tw @h0 (tw @h2 (tw @h4 (tw @h8 (tw @h9 (tw @G2 (tw @hg (tw @dD (tw @e1 (tw @e2 (tw @OW (tw @dR (tw @hc (tw @ai.eq_1 @ak.eq_1)))))))))))))) ?_;(repeat(refine Pn.mk ?_;intro N hN)))|((try apply Or.inl);refine⟨_,ae.x (jM (bC cells ((i+j) / 2)) p) (sd (tw @h0 (tw @h2 (tw @h4 (tw @h8 (tw @h9 (tw @G2 (tw @hg (tw @dD (tw @e1 (tw @e2 (tw @OW (tw @dR (tw @hc (tw @ai.eq_1 @ak.eq_1))))))))))))))),?_⟩;refine hN _ _ ?_;clear hN N)))
   refine⟨_,?_,i,(i+j) / 2,rfl,ab,ab,jS,fun x h1 h2=>?_,sd @h9,sd (tw @e2 @OW),sd (tw @hg @ak.eq_1)⟩
   ·omega
   ·by_cases M4:x=(i+j) / 2
    ·subst M4;exact hl
    ·rw[Bool.eq_false_iff]
     intro hc
     have h3:=lK (hR ((i+j) / 2) x ab h2) hc
     rw[hl]at h3;cases h3
 ·have MF:i=j:=ab
  subst MF
  have BJ:lJ cells p=i:=xR hj jS fun h=>AJ i (Nat.le_refl _) h
  by_cases hn:(i:Int)<(cells.length:Int)
  ·have fN:i<cells.length:=ab
   have dR:(cells.map ai)[i]? =some (ai (bC cells i)):=gH (l:=cells) fN
   have hd:decide (sv (bC cells i).cI p=0)=decide ((bC cells i).cI=p):=by simp only[Ee]
   (repeat(first|((repeat(revert hN;revert N;apply Pn.out));refine wk (tw @h0 (tw @h2 (tw @h4 (tw @h8 (tw @h9 (tw @G2 (tw @hg (tw @dD (tw @hn (tw @dR (tw @ai.eq_1 @ak.eq_1))))))))))) ?_;(repeat(refine Pn.mk ?_;intro N hN)))|((try apply Or.inl);refine⟨_,ae.x (jM (bC cells i) p) (sd (tw @h0 (tw @h2 (tw @h4 (tw @h8 (tw @h9 (tw @G2 (tw @hg (tw @dD (tw @hn (tw @dR (tw @ai.eq_1 @ak.eq_1)))))))))))),?_⟩;refine hN _ _ ?_;clear hN N)))
   refine jc (.inl rfl) (r1:=.int .i64 i) (r2:=.bool (decide ((bC cells i).cI=p))) ?_ ?_ ?_
   ·simp only[go_sem, ↓reduceIte,Nat.reduceEqDiff,Nat.reduceAdd,Nat.reduceSub,Nat.reduceLeDiff,reduceCtorEq]
   ·simp only[go_sem, ↓reduceIte,Nat.reduceEqDiff,Nat.reduceAdd,Nat.reduceSub,Nat.reduceLeDiff,reduceCtorEq,hd]
   ·simp only[eX,br,bV,eA,e9,Option.map_some,BJ,fN,decide_true,Bool.true_and]
  ·have fN:¬i<cells.length:=ab
   (try((repeat(revert hN;revert N;apply Pn.out));refine wk (tw @h0 (tw @h2 (tw @h4 (tw @h8 (tw @h9 (tw @G2 (tw @hg (tw @dD (tw @hn (tw @ai.eq_1 @ak.eq_1)))))))))) ?_;(repeat(refine Pn.mk ?_;intro N hN))))
   refine jc (.inl rfl) (r1:=.int .i64 i) (r2:=.bool false) ?_ ?_ ?_
   ·simp only[go_sem, ↓reduceIte,Nat.reduceEqDiff,Nat.reduceAdd,Nat.reduceSub,Nat.reduceLeDiff,reduceCtorEq]
   ·simp only[go_sem, ↓reduceIte,Nat.reduceEqDiff,Nat.reduceAdd,Nat.reduceSub,Nat.reduceLeDiff,reduceCtorEq]
   ·simp only[eX,br,bV,eA,e9,Option.map_some,BJ,fN,decide_false,Bool.false_and]
theorem Fo (l:List ao) (p:cr) (hR:yO l) (JA:l.length<=1048576):ae Tryz.prog 187 [.agg [.sl (l.map ai)],.agg (ak p)] (.int .i64 (fW l p)):=by
 refine ae.body dM rfl fun hl n0=>?_
 clear hl
 rw[xS hR]
 have hb:=vQ l p hR JA
 rw[ak]at hb
 cases hf:(decide (lJ l p<l.length)&&decide ((bC l (lJ l p)).cI=p))
 ·rw[hf]at hb
  (repeat(first|((repeat(revert hN;revert N;apply Pn.out));refine wk @ak.eq_1 ?_;(repeat(refine Pn.mk ?_;intro N hN)))|((try apply Or.inl);refine⟨_,ae.x (hb) (sd @ak.eq_1),?_⟩;refine hN _ _ ?_;clear hN N)))
  exact aZ (b:=-1) (.inl rfl) (sd @Nat.zero_add) (by rw[if_neg];intro h;simp[h.1,h.2]at hf)
 ·rw[hf]at hb
  (repeat(first|((repeat(revert hN;revert N;apply Pn.out));refine wk @ak.eq_1 ?_;(repeat(refine Pn.mk ?_;intro N hN)))|((try apply Or.inl);refine⟨_,ae.x (hb) (sd @ak.eq_1),?_⟩;refine hN _ _ ?_;clear hN N)))
  exact aZ (b:=(lJ l p:Int)) (.inl rfl) (sd @Nat.zero_add) (by rw[if_pos];simpa using hf)
theorem Rs (l:List ao) (p:cr) (hR:yO l) (JA:l.length<=1048576):ae Tryz.prog 75 [.agg [.sl (l.map ai)],.agg (ak p)] (.int .i64 (vK l p)):=by
 refine ae.body dM rfl fun hl n0=>?_
 clear hl
 have hi:=xS (l:=l) (p:=p) hR
 have hb:=vQ l p hR JA
 rw[ak]at hb
 cases hf:(decide (lJ l p<l.length)&&decide ((bC l (lJ l p)).cI=p))
 ·rw[hf]at hb
  (repeat(first|((repeat(revert hN;revert N;apply Pn.out));refine wk @ak.eq_1 ?_;(repeat(refine Pn.mk ?_;intro N hN)))|((try apply Or.inl);refine⟨_,ae.x (hb) (sd @ak.eq_1),?_⟩;refine hN _ _ ?_;clear hN N)))
  exact aZ (b:=-1) (.inl rfl) (sd @Nat.zero_add) (by
   have hx:fW l p= -1:=by rw[hi,if_neg (by intro h;simp[h.1,h.2]at hf)]
   rw[vK,hx];rfl)
 ·rw[hf]at hb
  have hc:lJ l p<l.length/\(bC l (lJ l p)).cI=p:=by simpa using hf
  have hg:=gH hc.1
  (repeat(first|((repeat(revert hN;revert N;apply Pn.out));refine wk (tw @ak.eq_1 (tw @hg @ai.eq_1)) ?_;(repeat(refine Pn.mk ?_;intro N hN)))|((try apply Or.inl);refine⟨_,ae.x (hb) (sd (tw @ak.eq_1 (tw @hg @ai.eq_1))),?_⟩;refine hN _ _ ?_;clear hN N)))
  exact aZ (b:=(bC l (lJ l p)).bJ) (.inl rfl) (sd @Nat.zero_add) (by
   have hx:fW l p=(lJ l p:Int):=by rw[hi,if_pos hc]
   rw[vK,hx,if_pos ab,Int.toNat_natCast])
theorem uc (l:List ao) (p:cr) (hR:yO l) (JA:l.length<=1048576):ae Tryz.prog 67 [.cJ [.sl (l.map ai)],.agg (ak p)] (.int .i64 (fW l p)):=by
 refine ae.body dM rfl fun hl n0=>?_
 clear hl
 rw[xS hR]
 (try((repeat(revert hN;revert N;apply Pn.out));refine wk @ak.eq_1 ?_;(repeat(refine Pn.mk ?_;intro N hN))))
 refine aP (fun n env st=>∃i j:Nat,n=j-i/\i<=j/\j<=l.length/\(∀x,x<i->qT (bC l x).cI p=true)/\(∀x,j<=x->x<l.length->qT (bC l x).cI p=false)/\env 5=.int .i64 i/\env 6=.int .i64 j/\st.get ⟨67000000,n0⟩=some ⟨true,2,[ak p]⟩) l.length ⟨0,l.length,ab,ab,ab,fun x h=>ab,fun x h1 h2=>ab,by(simp only[go_sem, ↓reduceIte,Nat.reduceEqDiff,Nat.reduceAdd,Nat.reduceSub,Nat.reduceLeDiff,reduceCtorEq])<;>rfl,sd @Nat.zero_add,sd @ak.eq_1⟩ ?_
 rintro n env st ⟨i,j,rfl,Q3,hj,jS,AJ,h5,h6,hg⟩ fr
 have h0:=fr 0 (by kernel_rfl)
 have h3:=fr 3 (by kernel_rfl)
 simp only[go_sem, ↓reduceIte,Nat.reduceEqDiff,Nat.reduceAdd,Nat.reduceSub,Nat.reduceLeDiff,reduceCtorEq]at h0 h3
 clear fr
 by_cases dD:(i:Int)<(j:Int)
 ·have e1:IntKind.i64.wrap ((i:Int)+j)=((i+j:Nat):Int):=by rw[aT ab];rfl
  have hm:(i+j) / 2<l.length:=ab
  have dR:=gH hm
  have e2:IntKind.i64.wrap (((i+j:Nat):Int).tdiv 2)=(((i+j) / 2:Nat):Int):=by
   rw[Int.tdiv_eq_ediv_of_nonneg ab,aT ab];omega
  have e3:=ay (k:=(i+j) / 2) ab
  have hq:=rT (bC l ((i+j) / 2)).cI p
  cases hl:qT (bC l ((i+j) / 2)).cI p
  ·rw[hl]at hq
   (repeat(first|((repeat(revert hN;revert N;apply Pn.out));refine wk (tw @h0 (tw @h3 (tw @h5 (tw @h6 (tw @hg (tw @dD (tw @e1 (tw @e2 (tw @dR (tw @ai.eq_1 @ak.eq_1)))))))))) ?_;(repeat(refine Pn.mk ?_;intro N hN)))|((try apply Or.inl);refine⟨_,ae.x (hq) (sd (tw @h0 (tw @h3 (tw @h5 (tw @h6 (tw @hg (tw @dD (tw @e1 (tw @e2 (tw @dR (tw @ai.eq_1 @ak.eq_1))))))))))),?_⟩;refine hN _ _ ?_;clear hN N)))
   refine⟨_,?_,i,(i+j) / 2,rfl,ab,ab,jS,fun x h1 h2=>?_,sd @h5,sd @e2,sd (tw @hg @ak.eq_1)⟩
   ·omega
   ·by_cases M4:x=(i+j) / 2
    ·subst M4;exact hl
    ·rw[Bool.eq_false_iff]
     intro hc
     have h3:=lK (hR ((i+j) / 2) x ab h2) hc
     rw[hl]at h3;cases h3
  ·rw[hl]at hq
   (repeat(first|((repeat(revert hN;revert N;apply Pn.out));refine wk (tw @h0 (tw @h3 (tw @h5 (tw @h6 (tw @hg (tw @dD (tw @e1 (tw @e2 (tw @dR (tw @ai.eq_1 @ak.eq_1)))))))))) ?_;(repeat(refine Pn.mk ?_;intro N hN)))|((try apply Or.inl);refine⟨_,ae.x (hq) (sd (tw @h0 (tw @h3 (tw @h5 (tw @h6 (tw @hg (tw @dD (tw @e1 (tw @e2 (tw @dR (tw @ai.eq_1 @ak.eq_1))))))))))),?_⟩;refine hN _ _ ?_;clear hN N)))
   refine⟨_,?_,(i+j) / 2+1,j,rfl,ab,hj,fun x hx=>?_,AJ,sd @e3,sd @h6,sd (tw @hg @ak.eq_1)⟩
   ·omega
   ·by_cases M4:x=(i+j) / 2
    ·subst M4;exact hl
    ·exact lK (hR x _ ab hm) hl
 ·have MF:i=j:=ab
  subst MF
  have BJ:lJ l p=i:=xR hj jS fun h=>AJ i (Nat.le_refl _) h
  by_cases hn:(i:Int)<(l.length:Int)
  ·have fN:i<l.length:=ab
   have dR:=gH fN
   by_cases hp:(bC l i).cI=p
   ·have hx:decide ((bC l i).cI.gE=p.gE)=true:=decide_eq_true (by rw[hp])
    have hy:decide ((bC l i).cI.fQ=p.fQ)=true:=decide_eq_true (by rw[hp])
    (try((repeat(revert hN;revert N;apply Pn.out));refine wk (tw @h0 (tw @h3 (tw @h5 (tw @h6 (tw @hg (tw @dD (tw @hn (tw @dR (tw @hx (tw @hy (tw @ai.eq_1 @ak.eq_1))))))))))) ?_;(repeat(refine Pn.mk ?_;intro N hN))))
    exact aZ (b:=(i:Int)) (.inl rfl) (sd @Nat.zero_add) (by rw[BJ,if_pos ⟨fN,hp⟩])
   ·by_cases hx:(bC l i).cI.gE=p.gE
    ·have uS:decide ((bC l i).cI.gE=p.gE)=true:=decide_eq_true hx
     have hy':decide ((bC l i).cI.fQ=p.fQ)=false:=decide_eq_false fun h=>hp (Nm hx h)
     (try((repeat(revert hN;revert N;apply Pn.out));refine wk (tw @h0 (tw @h3 (tw @h5 (tw @h6 (tw @hg (tw @dD (tw @hn (tw @dR (tw @uS (tw @hy' (tw @ai.eq_1 @ak.eq_1))))))))))) ?_;(repeat(refine Pn.mk ?_;intro N hN))))
     exact aZ (b:=-1) (.inl rfl) (sd @Nat.zero_add) (by rw[BJ,if_neg fun h=>hp h.2])
    ·have uS:decide ((bC l i).cI.gE=p.gE)=false:=decide_eq_false hx
     (try((repeat(revert hN;revert N;apply Pn.out));refine wk (tw @h0 (tw @h3 (tw @h5 (tw @h6 (tw @hg (tw @dD (tw @hn (tw @dR (tw @uS (tw @Bool.false_and (tw @ai.eq_1 @ak.eq_1))))))))))) ?_;(repeat(refine Pn.mk ?_;intro N hN))))
     exact aZ (b:=-1) (.inl rfl) (sd @Nat.zero_add) (by rw[BJ,if_neg fun h=>hp h.2])
  ·have fN:¬i<l.length:=ab
   (try((repeat(revert hN;revert N;apply Pn.out));refine wk (tw @h0 (tw @h3 (tw @h5 (tw @h6 (tw @hg (tw @dD (tw @hn (tw @ai.eq_1 @ak.eq_1)))))))) ?_;(repeat(refine Pn.mk ?_;intro N hN))))
   exact aZ (b:=-1) (.inl rfl) (sd @Nat.zero_add) (by rw[BJ,if_neg fun h=>fN h.1])
theorem Kd (l:List ao) (p:cr) (hR:yO l) (JA:l.length<=1048576):ae Tryz.prog 37 [.cJ [.sl (l.map ai)],.agg (ak p)] (.int .i64 (vK l p)):=by
 refine ae.body dM rfl fun hl n0=>?_
 clear hl
 have hb:=uc l p hR JA
 by_cases hi:fW l p<0
 ·rw[ak]at hb
  (repeat(first|((repeat(revert hN;revert N;apply Pn.out));refine wk (tw @ak.eq_1 @hi) ?_;(repeat(refine Pn.mk ?_;intro N hN)))|((try apply Or.inl);refine⟨_,ae.x (hb) (sd (tw @ak.eq_1 @hi)),?_⟩;refine hN _ _ ?_;clear hN N)))
  exact aZ (b:=-1) (.inl rfl) (sd @Nat.zero_add) (by rw[vK,if_neg ab])
 ·have h0:0<=fW l p:=ab
  have hg:=gH (sV h0).1
  rw[ak]at hb
  (repeat(first|((repeat(revert hN;revert N;apply Pn.out));refine wk (tw @ak.eq_1 (tw @hi (tw @h0 (tw @hg @ai.eq_1)))) ?_;(repeat(refine Pn.mk ?_;intro N hN)))|((try apply Or.inl);refine⟨_,ae.x (hb) (sd (tw @ak.eq_1 (tw @hi (tw @h0 (tw @hg @ai.eq_1))))),?_⟩;refine hN _ _ ?_;clear hN N)))
  exact aZ (b:=(bC l (fW l p).toNat).bJ) (.inl rfl) (sd @Nat.zero_add) (by rw[vK,if_pos h0])
def qU (s:aw) (l:List ao):Prop:=j6 l/\∀t∈l,gy s t.bJ=true
noncomputable def oD (s:aw) (l:List ao):Bool:=nE l&&l.all fun t=>gy s t.bJ
theorem lz {s:aw} {l:List ao}:oD s l=true↔qU s l:=by simp[oD,qU,Ew]
theorem Bd:N4 ai (fun c=>.agg (ai c)) 3 true:=⟨fun _=>rfl,fun _=>rfl,fun x g=>by simp only[ai,ad,aj,bf,aI,Option.map_some]⟩
theorem Fi (s:aw) (t:ao) (hs:s.ah.length<=1048576):ae Tryz.prog 105 [.agg (ai t),.cJ (aa s)] (.bool (!gy s t.bJ)):=by
 refine ae.body dM rfl fun hl n0=>?_
 clear hl
 have h:=HA s t.bJ
 rw[aa]at h
 (repeat(first|((repeat(revert hN;revert N;apply Pn.out));refine wk (tw @ai.eq_1 @aa.eq_1) ?_;(repeat(refine Pn.mk ?_;intro N hN)))|((try apply Or.inl);refine⟨_,ae.x (h) (sd (tw @ai.eq_1 @aa.eq_1)),?_⟩;refine hN _ _ ?_;clear hN N)))
 exact aC (b:= !gy s t.bJ) (.inl rfl) (sd @Nat.zero_add) rfl
theorem KR (s:aw) (l:List ao) (hs:s.ah.length<=1048576) (hl:l.length<=1048576):ae Tryz.prog 104 [.sl (l.map ai),.fn 105 [.cJ (aa s)]] (.bool (l.any fun t=> !gy s t.bJ)):=
 j8 Bd (show kK Tryz.prog 104=some (xE 104 138) by kernel_rfl)
  (show kK Tryz.prog 138=some (rz 138 3 true) by kernel_rfl) l hl _ _ _ rfl (fun g=>by rw[ad,aV,aj];rfl) (fun x _=>Fi s x hs) fun g=>by rw[ad,aV,aj];rfl
theorem Jg {α:Type} (p:α->Bool) (l:List α):(!l.any fun t=> !p t)=l.all p:=by
 induction l with
 |nil=>rfl
 |cons x l ih=>simp only[List.any_cons,List.all_cons,<-ih];cases p x<;>simp
theorem mJ (s:aw) (l:List ao) (hn:fx s) (hg:s.au.length<=1048576) (ht:s.ah.length<=1048576) (hs:∀t∈s.ah,t.bp.length<=1048576) (hl:l.length<=1048576):ae Tryz.prog 73 [.agg (aa s),.agg [.sl (l.map ai)]] (.bool (pE s&&oD s l)):=by
 refine ae.body dM rfl fun hl n0=>?_
 clear hl
 have h1:=AT s hn hg ht hs
 have h2:=EA l
 have h3:=KR s l ht hl
 rw[aa]at h1 h3
 cases b1:pE s
 ·rw[b1]at h1
  (repeat(first|((repeat(revert hN;revert N;apply Pn.out));refine wk @aa.eq_1 ?_;(repeat(refine Pn.mk ?_;intro N hN)))|((try apply Or.inl);refine⟨_,ae.x (h1) (sd @aa.eq_1),?_⟩;refine hN _ _ ?_;clear hN N)))
  exact aC (b:=false) (.inl rfl) (sd @Nat.zero_add) rfl
 rw[b1]at h1
 cases b2:nE l
 ·rw[b2]at h2
  (repeat(first|((repeat(revert hN;revert N;apply Pn.out));refine wk @aa.eq_1 ?_;(repeat(refine Pn.mk ?_;intro N hN)))|((try apply Or.inl);refine⟨_,ae.x (h1) (sd @aa.eq_1),?_⟩;refine hN _ _ ?_;clear hN N)|((try apply Or.inl);refine⟨_,ae.x (h2) (sd @aa.eq_1),?_⟩;refine hN _ _ ?_;clear hN N)))
  exact aC (b:=false) (.inl rfl) (sd @Nat.zero_add) (by rw[oD,b2];rfl)
 rw[b2]at h2
 (repeat(first|((repeat(revert hN;revert N;apply Pn.out));refine wk @aa.eq_1 ?_;(repeat(refine Pn.mk ?_;intro N hN)))|((try apply Or.inl);refine⟨_,ae.x (h1) (sd @aa.eq_1),?_⟩;refine hN _ _ ?_;clear hN N)|((try apply Or.inl);refine⟨_,ae.x (h2) (sd @aa.eq_1),?_⟩;refine hN _ _ ?_;clear hN N)|((try apply Or.inl);refine⟨_,ae.x (h3) (sd @aa.eq_1),?_⟩;refine hN _ _ ?_;clear hN N)))
 exact aC (b:= !(l.any fun t=> !gy s t.bJ)) (.inl rfl) (sd @Nat.zero_add) (by rw[Jg,oD,b2];rfl)
theorem Ds (s:aw) (l:List ao):ae Tryz.prog 66 [.cJ (aa s),.cJ [.sl (l.map ai)]] (.bool (oD s l)):=by
 refine ae.body dM rfl fun hl n0=>?_
 have hlen:l.length<=9223372036854775807:=by
  have h1:=(hl (.cJ [.sl (l.map ai)]) (by simp)).ua (a:=.sl (l.map ai)) (by simp)
  simpa using h1.len
 clear hl
 have h2:=EX l
 cases b2:nE l
 ·rw[b2]at h2
  (repeat(first|((repeat(revert hN;revert N;apply Pn.out));refine wk @Nat.zero_add ?_;(repeat(refine Pn.mk ?_;intro N hN)))|((try apply Or.inl);refine⟨_,ae.x (h2) (sd @Nat.zero_add),?_⟩;refine hN _ _ ?_;clear hN N)))
  exact aC (b:=false) (.inl rfl) (sd @Nat.zero_add) (by rw[oD,b2];rfl)
 rw[b2]at h2
 (repeat(first|((repeat(revert hN;revert N;apply Pn.out));refine wk @Nat.zero_add ?_;(repeat(refine Pn.mk ?_;intro N hN)))|((try apply Or.inl);refine⟨_,ae.x (h2) (sd @Nat.zero_add),?_⟩;refine hN _ _ ?_;clear hN N)))
 refine aP (fun n env st=>∃k:Nat,n=(l.length)-k/\k<=(l.length)/\env 5=.int .i64 (k:Int)/\(∀j:Nat,j<k->gy s (bC l j).bJ=true)) (l.length) ⟨0,ab,ab,sl @Nat.zero_add,fun _ h=>absurd h (Nat.not_lt_zero _)⟩ ?_
 rintro n_a env_a st_a ⟨k,rfl,ale,a5,iM⟩ dm
 have a0:=dm 0 (by kernel_rfl);have a1:=dm 1 (by kernel_rfl)
 simp only[go_sem, ↓reduceIte,Nat.reduceEqDiff,Nat.reduceAdd,Nat.reduceSub,Nat.reduceLeDiff,reduceCtorEq]at a0 a1
 clear dm
 by_cases hk:(k:Int)<(l.length:Int)
 ·have bD:∀{e:Env},(e 5=.int .i64 (IntKind.i64.wrap ((k:Int)+1)))->(gy s (bC l k).bJ=true)->∃m0,m0<(l.length)-k/\∃k:Nat,m0=(l.length)-k/\k<=(l.length)/\e 5=.int .i64 (k:Int)/\(∀j:Nat,j<k->gy s (bC l j).bJ=true):=fun x1 x2=>⟨_,ab,k+1,rfl,ab,(by rw[x1,ay ab]),(all_succ iM x2)⟩
  have dX:k<l.length:=ab
  have eB:=gH dX
  have ht:=BX s (bC l k).bJ
  cases b3:gy s (bC l k).bJ
  ·rw[b3]at ht
   (repeat(first|((repeat(revert hN;revert N;apply Pn.out));refine wk (tw @a5 (tw @a0 (tw @a1 (tw @hk (tw @eB @ai.eq_1))))) ?_;(repeat(refine Pn.mk ?_;intro N hN)))|((try apply Or.inl);refine⟨_,ae.x (ht) (sd (tw @a5 (tw @a0 (tw @a1 (tw @hk (tw @eB @ai.eq_1)))))),?_⟩;refine hN _ _ ?_;clear hN N)))
   exact aC (b:=false) (.inl rfl) (sd @Nat.zero_add) (by
    have:l.all (fun t=>gy s t.bJ)=false:=List.all_eq_false.2 ⟨_,qu dX,by rw[b3];simp⟩
    rw[oD,this,Bool.and_false])
  ·rw[b3]at ht
   (repeat(first|((repeat(revert hN;revert N;apply Pn.out));refine wk (tw @a5 (tw @a0 (tw @a1 (tw @hk (tw @eB @ai.eq_1))))) ?_;(repeat(refine Pn.mk ?_;intro N hN)))|((try apply Or.inl);refine⟨_,ae.x (ht) (sd (tw @a5 (tw @a0 (tw @a1 (tw @hk (tw @eB @ai.eq_1)))))),?_⟩;refine hN _ _ ?_;clear hN N)))
   exact bD (sd (tw @a5 (tw @a0 @a1))) (b3)
 ·(try((repeat(revert hN;revert N;apply Pn.out));refine wk (tw @a5 (tw @a0 (tw @a1 @hk))) ?_;(repeat(refine Pn.mk ?_;intro N hN))))
  exact aC (b:=true) (.inl rfl) (sd @Nat.zero_add) (by
   have:l.all (fun t=>gy s t.bJ)=true:=List.all_eq_true.2 fun t ht=>by
    obtain⟨j,hj,rfl⟩:=List.getElem_of_mem ht
    have:=iM j ab
    rwa [j0 hj]at this
   rw[oD,b2,this];rfl)
theorem vz (l:List ao) (hF:j6 l) (i:Nat) (d:Int) (hi:i<l.length) (hd:fI d 0 3=true):ae Tryz.prog 148 [.cJ [.sl (l.map ai)],.int .i64 i,.int .i64 d] (.int .i64 (fW l (eK (bC l i).cI d))):=by
 refine ae.body dM rfl fun hl n0=>?_
 clear hl
 have hg:=gH hi
 have hp:=Ie (hF.pt hi)
 have h1:=ET (bC l i).cI d hd hp.1 hp.2
 have h2:=uc l (eK (bC l i).cI d) hF.Rh (by have:=hF.FW;omega)
 rw[ak]at h1 h2
 (repeat(first|((repeat(revert hN;revert N;apply Pn.out));refine wk (tw @ai.eq_1 (tw @hg @ak.eq_1)) ?_;(repeat(refine Pn.mk ?_;intro N hN)))|((try apply Or.inl);refine⟨_,ae.x (h1) (sd (tw @ai.eq_1 (tw @hg @ak.eq_1))),?_⟩;refine hN _ _ ?_;clear hN N)|((try apply Or.inl);refine⟨_,ae.x (h2) (sd (tw @ai.eq_1 (tw @hg @ak.eq_1))),?_⟩;refine hN _ _ ?_;clear hN N)))
 exact aZ (b:=fW l (eK (bC l i).cI d)) (.inl rfl) (sd @Nat.zero_add) rfl
end Go.Proofs.YtihgaadadaekmaaGreatDoor.V

namespace Go.Proofs.YtihgaadadaekmaaGreatDoor.V
def bi (b:Bool):Int:=if b then 1 else 0
def ll (f:Nat->Int):Nat->Int
 |0=>0
 |n+1=>ll f n+f n
theorem gQ {f g:Nat->Int}:∀{n:Nat},(∀i,i<n->f i=g i)->ll f n=ll g n
 |0,_=>rfl
 |n+1,h=>by
  simp only[ll]
  rw[gQ fun i hi=>h i ab,h n ab]
theorem qH {f g:Nat->Int}:∀{n:Nat},(∀i,i<n->f i<=g i)->ll f n<=ll g n
 |0,_=>Int.le_refl _
 |n+1,h=>by
  simp only[ll]
  have:=qH (n:=n) fun i hi=>h i ab
  have:=h n ab
  omega
theorem jv:∀{n:Nat} {f:Nat->Int},(∀i,i<n->f i=0)->ll f n=0
 |0,_,_=>rfl
 |n+1,f,h=>by
  simp only[ll]
  rw[jv fun i hi=>h i ab,h n ab];rfl
theorem oz {f:Nat->Int} {a:Nat} {d:Int}:∀n,ll (fun i=>f i+if i=a then d else 0) n=ll f n+if a<n then d else 0
 |0=>by simp[ll]
 |n+1=>by
  simp only[ll]
  rw[oz n]
  by_cases h:n=a
  ·subst h;simp;omega
  ·rw[if_neg h]
   by_cases h2:a<n
   ·rw[if_pos h2,if_pos ab];omega
   ·rw[if_neg h2,if_neg ab];omega
def lG (n:Nat) (S:Nat->Bool) (f:Nat->Nat->Int):Int:=ll (fun u=>ll (fun v=>if S u&& !S v then f u v else 0) n) n
def bump (f:Nat->Nat->Int) (a b:Nat) (d:Int):Nat->Nat->Int:=fun u v=>f u v+if u=a/\v=b then d else 0
theorem og {n:Nat} {S:Nat->Bool} {f:Nat->Nat->Int} {a b:Nat} {d:Int} (ha:a<n) (hb:b<n):lG n S (bump f a b d)=lG n S f+if S a&& !S b then d else 0:=by
 unfold lG
 have h1:∀u,u<n->ll (fun v=>if S u&& !S v then bump f a b d u v else 0) n=ll (fun v=>if S u&& !S v then f u v else 0) n+if u=a then(if S a&& !S b then d else 0)else 0:=by
  intro u hu
  by_cases h:u=a
  ·subst h
   have h2:∀v,v<n->(if S u&& !S v then bump f u b d u v else 0)=(fun v=>if S u&& !S v then f u v else 0) v+if v=b then(if S u&& !S b then d else 0)else 0:=by
    intro v hv
    unfold bump
    by_cases h3:v=b
    ·subst h3;simp only[and_self,if_true];split<;>omega
    ·simp only[h3,and_false,if_false];split<;>omega
   rw[gQ h2,oz,if_pos hb,if_pos rfl]
  ·rw[if_neg h,Int.add_zero]
   refine gQ fun v hv=>?_
   unfold bump
   simp[h]
 rw[gQ h1,oz,if_pos ha]
theorem Jq {n:Nat} {S:Nat->Bool} {f c:Nat->Nat->Int} (h:∀u v,u<n->v<n->f u v<=c u v):lG n S f<=lG n S c:=
 qH fun u hu=>qH fun v hv=>by split;exact h u v hu hv;exact Int.le_refl _
theorem Jp {n:Nat} {S:Nat->Bool} {f c:Nat->Nat->Int} (h:∀u v,u<n->v<n->S u=true->S v=false->f u v=c u v):lG n S f=lG n S c:=
 gQ fun u hu=>gQ fun v hv=>by
  split
  ·rename_i hc
   simp only[Bool.and_eq_true,Bool.not_eq_true']at hc
   exact h u v hu hv hc.1 hc.2
  ·rfl
def jU (f:Nat->Nat->Int) (a b:Nat):Nat->Nat->Int:=bump (bump f a b 1) b a (-1)
theorem Ei {n:Nat} {S:Nat->Bool} {f:Nat->Nat->Int} {a b:Nat} (ha:a<n) (hb:b<n):lG n S (jU f a b)=lG n S f+bi (S a)-bi (S b):=by
 unfold jU
 rw[og hb ha,og ha hb]
 cases S a<;>cases S b<;>simp[bi]<;>omega
def lD (f:Nat->Nat->Int):List Nat->Nat->Nat->Int
 |a::b::r=>lD (jU f a b) (b::r)
 |_=>f
def pO (f c:Nat->Nat->Int):List Nat->Prop
 |a::b::r=>f a b<c a b/\pO f c (b::r)
 |_=>True
theorem yX {n:Nat} {S:Nat->Bool}:∀(r:List Nat) (a:Nat) (f:Nat->Nat->Int),(∀x∈a::r,x<n)->lG n S (lD f (a::r))=lG n S f+bi (S a)-bi (S ((a::r).getLast (by simp)))
 |[],a,f,_=>by simp[lD]
 |b::r,a,f,h=>by
  rw[lD,yX r b (jU f a b) fun x hx=>h x (List.mem_cons_of_mem _ hx),Ei (h a (by simp)) (h b (by simp)),List.getLast_cons_cons]
  generalize bi (S b)=q
  omega
theorem pO.less {f g c:Nat->Nat->Int}:∀{p:List Nat},pO f c p->(∀u,u∈p->∀v,g u v<=f u v)->pO g c p
 |[],_,_=>trivial
 |[_],_,_=>trivial
 |a::b::r,h,hl=>⟨Int.lt_of_le_of_lt (hl a (by simp) b) h.1,pO.less (p:=b::r) h.2 fun u hu=>hl u (List.mem_cons_of_mem _ hu)⟩
theorem CR {n:Nat} {c:Nat->Nat->Int}:∀(p:List Nat) (f:Nat->Nat->Int),p.Nodup->pO f c p->(∀u v,u<n->v<n->f u v<=c u v)->∀u v,u<n->v<n->lD f p u v<=c u v
 |[],f,_,_,h=>h
 |[_],f,_,_,h=>h
 |a::b::r,f,hn,hr,h=>by
  rw[lD]
  have r8:a∉b::r:=(List.nodup_cons.1 hn).1
  refine CR (b::r) _ (List.nodup_cons.1 hn).2 (hr.2.less fun u hu v=>?_) fun u v hu hv=>?_
  ·unfold jU bump
   have:u≠a:=by rintro rfl;exact r8 hu
   simp only[this,false_and,if_false]
   split<;>omega
  ·have h0:=h u v hu hv
   have h1:=hr.1
   unfold jU bump
   by_cases e:u=a/\v=b
   ·obtain⟨rfl,rfl⟩:=e
    rw[if_pos ⟨rfl,rfl⟩];split<;>omega
   ·rw[if_neg e];split<;>omega
structure mC (n:Nat) (c f:Nat->Nat->Int) (x y:Nat) (val:Int):Prop where
 le:∀u v,u<n->v<n->f u v<=c u v
 cut:∀S:Nat->Bool,S x=true->S y=false->lG n S f=val
theorem mC.zero {n:Nat} {c:Nat->Nat->Int} {x y:Nat} (h:∀u v,u<n->v<n->0<=c u v):mC n c (fun _ _=>0) x y 0:=
 ⟨h,fun S _ _=>jv fun u hu=>jv fun v hv=>by split<;>rfl⟩
theorem mC.aug {n:Nat} {c f:Nat->Nat->Int} {x y:Nat} {val:Int} (h:mC n c f x y val) {r:List Nat} (hl:(x::r).getLast (by simp)=y) (hn:(x::r).Nodup) (hr:pO f c (x::r)) (hb:∀v∈x::r,v<n):mC n c (lD f (x::r)) x y (val+1):=
 ⟨CR _ _ hn hr h.le,fun S hx hy=>by rw[yX r x f hb,hl,h.cut S hx hy,hx,hy];simp[bi]⟩
theorem mC.bound {n:Nat} {c f:Nat->Nat->Int} {x y:Nat} {val:Int} (h:mC n c f x y val) {S:Nat->Bool} (hx:S x=true) (hy:S y=false):val<=lG n S c:=by
 rw[<-h.cut S hx hy];exact Jq h.le
theorem mC.full {n:Nat} {c f:Nat->Nat->Int} {x y:Nat} {val:Int} (h:mC n c f x y val) {S:Nat->Bool} (hx:S x=true) (hy:S y=false) (hS:∀u v,u<n->v<n->S u=true->S v=false->¬f u v<c u v):val=lG n S c:=by
 rw[<-h.cut S hx hy]
 exact Jp fun u v hu hv h1 h2=>by have:=hS u v hu hv h1 h2;have:=h.le u v hu hv;omega
structure PB where
 a:Nat
 b:Nat
 s:Int
 deriving Inhabited
def bU (bs:List PB) (i:Nat):PB:=bs.getD i default
def iI (S:Nat->Bool) (bs:List PB):Int:=(bs.map fun b=>if S b.a=S b.b then 0 else b.s).sum
def mO (c:Nat->Nat->Int) (b:PB):Nat->Nat->Int:=bump (bump c b.a b.b b.s) b.b b.a b.s
def ku (bs:List PB):Nat->Nat->Int:=bs.foldl mO fun _ _=>0
theorem Cn (bs:List PB) (b:PB):ku (bs++[b])=mO (ku bs) b:=by simp[ku]
theorem za {n:Nat} {S:Nat->Bool}:∀(bs:List PB) (c:Nat->Nat->Int),(∀b∈bs,b.a<n/\b.b<n)->lG n S (bs.foldl mO c)=lG n S c+iI S bs
 |[],c,_=>by simp[iI]
 |b::bs,c,h=>by
  have hb:=h b (by simp)
  rw[List.foldl_cons,za bs _ fun x hx=>h x (List.mem_cons_of_mem _ hx)]
  unfold mO iI
  rw[og hb.2 hb.1,og hb.1 hb.2,List.map_cons,List.sum_cons]
  cases S b.a<;>cases S b.b<;>simp<;>omega
theorem zb {n:Nat} {S:Nat->Bool} {bs:List PB} (h:∀b∈bs,b.a<n/\b.b<n):lG n S (ku bs)=iI S bs:=by
 rw[ku,za bs _ h]
 have:lG n S (fun _ _=>0)=0:=jv fun u hu=>jv fun v hv=>by split<;>rfl
 omega
theorem yc:∀(bs:List PB) (c:Nat->Nat->Int),(∀b∈bs,0<=b.s)->(∀u v,0<=c u v)->∀u v,0<=bs.foldl mO c u v
 |[],c,_,h=>h
 |b::bs,c,hb,h=>by
  rw[List.foldl_cons]
  refine yc bs _ (fun x hx=>hb x (List.mem_cons_of_mem _ hx)) fun u v=>?_
  have:=hb b (by simp);have:=h u v
  unfold mO bump
  split<;>split<;>omega
theorem room_le:∀(bs:List PB) (c:Nat->Nat->Int) (m:Int),(∀b∈bs,b.s<=4)->(∀u v,c u v<=m)->0<=m->∀u v,bs.foldl mO c u v<=m+8*bs.length
 |[],c,m,_,h,_=>fun u v=>by have:=h u v;simp;omega
 |b::bs,c,m,hb,h,h0=>fun u v=>by
  rw[List.foldl_cons]
  have:=room_le bs (mO c b) (m+8) (fun x hx=>hb x (List.mem_cons_of_mem _ hx)) (fun u v=>by
   have:=hb b (by simp);have:=h u v
   unfold mO bump
   split<;>split<;>omega) ab u v
  simp only[List.length_cons];omega
def j7 (n:Nat) (bs:List PB) (t:Int):Prop:=∀S:Nat->Bool,S 0=true->(∃y,y<n/\S y=false)->t<=iI S bs
def Eg (S:Nat->Bool) (bs:List PB) (f:Nat->Int):Int:=ll (fun i=>f i*(bi (S (bU bs i).a)-bi (S (bU bs i).b))) bs.length
structure jD (bs:List PB) (f:Nat->Int) (x y:Nat) (val:Int):Prop where
 le:∀i,i<bs.length->f i<=(bU bs i).s/\-(bU bs i).s<=f i
 cut:∀S:Nat->Bool,S x=true->S y=false->Eg S bs f=val
theorem tt (S:Nat->Bool):∀bs:List PB,iI S bs=ll (fun i=>if S (bU bs i).a=S (bU bs i).b then 0 else(bU bs i).s) bs.length:=by
 intro bs
 have key:∀n,n<=bs.length->iI S (bs.take n)=ll (fun i=>if S (bU bs i).a=S (bU bs i).b then 0 else(bU bs i).s) n:=by
  intro n
  induction n with
  |zero=>intro _;rfl
  |succ n ih=>
   intro h
   have e:bU bs n=bs[n]:=by simp[bU,List.getD_eq_getElem?_getD,List.getElem?_eq_getElem (show n<bs.length by omega)]
   rw[List.take_succ_eq_append_getElem ab,ll,<-ih ab,e]
   unfold iI
   rw[List.map_append,List.sum_append]
   simp only[List.map_cons,List.map_nil,List.sum_cons,List.sum_nil,Int.add_zero]
 have:=key bs.length (Nat.le_refl _)
 rwa [List.take_length]at this
theorem jD.bound {bs:List PB} {f:Nat->Int} {x y:Nat} {val:Int} (h:jD bs f x y val) {S:Nat->Bool} (hx:S x=true) (hy:S y=false):val<=iI S bs:=by
 rw[<-h.cut S hx hy,tt]
 refine qH fun i hi=>?_
 have:=h.le i hi
 cases S (bU bs i).a<;>cases S (bU bs i).b<;>simp[bi]<;>omega
def fu (bs:List PB) (f:Nat->Int) (i u:Nat):Int:=if (bU bs i).a=u then(bU bs i).s-f i else(bU bs i).s+f i
def bB (bs:List PB) (i u:Nat):Nat:=if (bU bs i).a=u then(bU bs i).b else(bU bs i).a
theorem jD.full {bs:List PB} {f:Nat->Int} {x y:Nat} {val:Int} (h:jD bs f x y val) {S:Nat->Bool} (hx:S x=true) (hy:S y=false)
  (hS:∀i,i<bs.length->((bU bs i).a≠(bU bs i).b->(S (bU bs i).a=true->S (bU bs i).b=false->¬0<fu bs f i (bU bs i).a)/\(S (bU bs i).b=true->S (bU bs i).a=false->¬0<fu bs f i (bU bs i).b))):val=iI S bs:=by
 rw[<-h.cut S hx hy,tt]
 refine gQ fun i hi=>?_
 have h1:=h.le i hi
 by_cases r8:(bU bs i).a=(bU bs i).b
 ·rw[r8];simp
 ·have h2:=hS i hi r8
  unfold fu at h2
  rw[if_pos rfl,if_neg r8]at h2
  cases ha:S (bU bs i).a<;>cases hb:S (bU bs i).b<;>rw[ha,hb]at h2<;>simp[bi]at h2 ⊢ <;>omega
def sj (bs:List PB) (f:Nat->Int) (i u:Nat):Nat->Int:=fun j=>f j+if j=i then(if (bU bs i).a=u then 1 else -1)else 0
theorem Eh {S:Nat->Bool} {bs:List PB} {f:Nat->Int} {i u:Nat} (hi:i<bs.length) (hu:(bU bs i).a=u∨(bU bs i).b=u):Eg S bs (sj bs f i u)=Eg S bs f+bi (S u)-bi (S (bB bs i u)):=by
 unfold Eg sj
 have e:∀j,j<bs.length->(f j+if j=i then(if (bU bs i).a=u then 1 else -1)else 0)*(bi (S (bU bs j).a)-bi (S (bU bs j).b))=(fun j=>f j*(bi (S (bU bs j).a)-bi (S (bU bs j).b))) j+if j=i then(if (bU bs i).a=u then 1 else -1)*(bi (S (bU bs i).a)-bi (S (bU bs i).b))else 0:=by
  intro j hj
  by_cases h:j=i
  ·subst h;simp only[if_true];rw[Int.add_mul]
  ·simp only[h,if_false];simp
 rw[gQ e,oz,if_pos hi]
 unfold bB
 by_cases ha:(bU bs i).a=u
 ·rw[if_pos ha,if_pos ha,ha];omega
 ·rw[if_neg ha,if_neg ha]
  rcases hu with hu|hu
  ·exact absurd hu ha
  ·rw[hu];omega
theorem nN:∀(n:Nat) (l:List Nat),l.Nodup->(∀x∈l,x<n)->l.length<=n
 |0,l,_,h=>by
  cases l with
  |nil=>simp
  |cons x l=>exact absurd (h x (by simp)) ab
 |n+1,l,hn,h=>by
  have h1:=nN n (l.erase n) (hn.erase _) fun x hx=>by
   have h2:=(hn.mem_erase_iff).1 hx
   have h3:=h x h2.2
   have h4:=h2.1
   omega
  rw[List.length_erase]at h1
  split at h1<;>omega
end Go.Proofs.YtihgaadadaekmaaGreatDoor.V
