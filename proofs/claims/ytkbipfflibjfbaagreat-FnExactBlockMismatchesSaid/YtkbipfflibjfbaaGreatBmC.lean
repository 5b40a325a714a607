/- Slices of one's own that grow from an empty one. -/
import Derived.Test.YtkbipfflibjfbaaGreatBmB
import Derived.Test.YtkbipfflibjfbaaGreatChecked
import Derived.Test.YtkbipfflibjfbaaGreatBmA
set_option linter.unusedVariables false
set_option linter.unusedSimpArgs false
set_option maxRecDepth 100000
set_option maxHeartbeats 16000000
namespace Go.Proofs.YtkbipfflibjfbaaGreat.V
open Go.RowKit
variable {P:Program} {X:fm} {K:Env->ax->Prop} {env:Env} {σ:ax}
def kT {α:Type} (enc:α->List AV) (sz:Nat) (x:AV) (g:Rows) (S:Id->Prop) (L:List α):Prop:=∃o:Id,S o/\x=.own o 0 L.length/\g o=some ⟨true,sz,L.map enc⟩
section
variable {α:Type} {enc:α->List AV} {sz:Nat} {x:AV} {g g':Rows} {S:Id->Prop} {L L':List α}
theorem kT.cast (h:kT enc sz x g S L) (hL:L'=L):kT enc sz x g S L':=by subst hL;exact h
theorem kT.frame (h:kT enc sz x g S L) (hg:∀o:Id,S o->g' o=g o):kT enc sz x g' S L:=by
 obtain⟨o,h1,h2,h3⟩:=h
 exact⟨o,h1,h2,(hg o h1).trans h3⟩
theorem kT.app (hz:∀a,(enc a).length=sz/\(enc a).all AV.cell=true) (h:kT enc sz x g S L) (id:Id) (hid:S id) (M:List α) (hlen:L.length+M.length<=dF):
  ∃v g',bc g id sz x (M.map enc)=some (v,g')/\kT enc sz v g' S (L++M)/\∀j:Id,¬S j->g' j=g j:=by
 obtain⟨o,h1,rfl,h4⟩:=h
 refine⟨.own id 0 (L.length+(M.map enc).length),bU (cw g o) id ⟨true,sz,L.map enc++M.map enc⟩,?_,⟨id,hid,by simp,by simp[bU]⟩,fun j hj=>?_⟩
 ·have ha:=all_map (l:=M) hz
  simp only[bc,h4,Option.bind_some]
  rw[if_pos ⟨trivial,trivial,by simp,by simpa using hlen,ha⟩]
 ·have e1:¬j=id:=fun h=>hj (h▸hid)
  have e2:¬j=o:=fun h=>hj (h▸h1)
  simp[bU,cw,e1,e2]
theorem K4 {draw:Bool} {o:bh} {r:List bh} {x' y:O} {xv:AV} (M:List α) (ho:o.op=.append sz x' y) (hw:aH o.guard env=true) (hx:dh env x'=xv) (hO:kT enc sz xv σ.get S L)
  (hy:br σ.get (dh env y)=some (M.map enc)) (hz:∀a,(enc a).length=sz/\(enc a).all AV.cell=true) (hid:S ⟨o.site,σ.next⟩) (hlen:L.length+M.length<=dF)
  (next:∀v g',kT enc sz v g' S (L++M)->(∀j:Id,¬S j->g' j=σ.get j)->wpOps X draw r K (upd env o.dst v) ⟨g',σ.next⟩):wpOps X draw (o::r) K env σ:=by
 obtain⟨v,g',h1,h2,h3⟩:=hO.app hz ⟨o.site,σ.next⟩ hid M hlen
 unfold wpOps
 rw[if_pos hw]
 unfold fJ
 simp only[ho,fZ,hy,hx,Option.bind_some,h1]
 exact next v g' h2 h3
theorem kT.gw {n:Nat} (h:kT enc sz x g S L) (he:∀a,eh g n (enc a)=some (enc a)):gw g (n+1) x=some (.sl (L.map enc)):=by
 obtain⟨o,_,rfl,h3⟩:=h
 exact e9 h3 rfl he
end
theorem ep {a b:Id} (h:a.cC<b.cC):(a=b)=False/\(b=a)=False:=by
 constructor<;>(simp only[eq_iff_iff,iff_false];rintro rfl;omega)
theorem vp {o:Id} {a:Nat} (h:o.site=a) {b v:Nat} (rZ:(a==b)=false):(o=⟨b,v⟩)=False:=by
 simp only[eq_iff_iff,iff_false]
 rintro rfl
 simp only at h
 subst h
 simp at rZ
def eN (n:Nat):List AV:=[.int .i64 n]
theorem fzN (g:Rows) (n:Nat) (a:Nat):cQ g (n+1) (eN a)=some (eN a):=by simp[eN,ai,ao,aD]
theorem Pj (g:Rows) (n:Nat) (a:Nat):eh g (n+1) (eN a)=some (eN a):=by simp[eN,aI,aW,dw]
def QY:yq (List Nat):=fun g cs x ids=>∃id,cs=[.own id 0 x.length]/\g id=some ⟨true,1,x.map eN⟩/\ids=[id]
theorem Qc:uA QY 1 where
 frame:=fun⟨id,h1,h2,h3⟩ hf=>by subst h3;exact⟨id,h1,(hf id (by simp)).trans h2,rfl⟩
 len:=fun⟨id,h1,_⟩=>by subst h1;rfl
 cell:=fun⟨id,h1,_⟩=>by subst h1;rfl
 live:=fun⟨id,h1,h2,h3⟩ i hi=>by
  subst h3
  have:i=id:=by simpa using hi
  subst this
  exact⟨_,h2,rfl,by simp[qt]⟩
 small:=by simp[qt]
def Bb (l:List Nat):List AV:=[.sl (l.map eN)]
theorem J3 {g:Rows} {rows:List (List AV)} {xs:List (List Nat)} {ids:List Id} (n:Nat) (h:eT QY g rows xs ids):iK g (n+2) rows=some (xs.map Bb):=by
 induction h with
 |nil=>rw[iK];rfl
 |cons h1 _ ih=>
  obtain⟨id,rfl,h2,_⟩:=h1
  rw[iK,ih,aI,aW,e9 (e:=eN) (sz:=1) h2 rfl fun a=>Pj g n a];rfl
end Go.Proofs.YtkbipfflibjfbaaGreat.V

namespace Go.Proofs.YtkbipfflibjfbaaGreat.V
open Go.RowKit
attribute [local irreducible] ef wpOps gN Call
attribute [local go_sem] aH fJ eW fZ gh dh upd cD K.av cP AV.cells AV.cell rowOf rowsOf part ld rowAt bU cw dI ek iq bL de eD gj fq dx ew db da dW dY bR bd cU bQ cW cV er ez eu cR bV dc eo bP aL cY cI im br cH bz bc dB bo dF AV.undef bx bE dZ ej dV ec cJ eC eE cF eB eA cX cZ List.getD_cons_zero List.getD_cons_succ List.getD_nil List.all_cons List.all_nil Bool.and_true Bool.true_and Bool.and_self Bool.not_true Bool.not_false Option.map_some Option.map_none Option.bind_some Option.bind_none List.length_cons List.length_nil List.take_succ_cons List.take_zero List.take_nil List.drop_succ_cons List.drop_zero List.drop_nil List.head?_cons List.map_cons List.map_nil List.getElem?_cons_zero List.getElem?_cons_succ List.cons_append List.nil_append List.append_nil List.length_map List.set_cons_zero List.set_cons_succ Nat.reduceMul eq_self Int.toNat_natCast Int.natCast_nonneg and_self true_and and_true decide_true decide_false Bool.false_eq_true Nat.zero_add Nat.add_zero List.contains_cons List.contains_nil Bool.or_false Bool.false_or beq_self_eq_true Nat.reduceBEq ne_eq not_true_eq_false not_false_eq_true Id.mk.injEq false_and and_false Nat.reduceLT Int.reduceLE Int.reduceLT Int.reduceToNat Int.reduceNeg Int.reduceAdd Nat.le_refl List.length_append beq_true beq_false Bool.not_eq_eq_eq_not or_false false_or dM ai ao aD bt cz aY bj aV bf cL bJ
variable {P:Program}
def LI {α:Type} (R:yq α) (x:α) (σ:ax) (r:AV) (σ':ax):Prop:=∃cs ids,r=.agg cs/\R σ'.get cs x ids/\e8 σ.next σ'.next ids/\Kept σ σ'
def iQ {α:Type} (R:yq α) (z:Nat) (g:Rows) (a:AV) (xs:List α) (ids:List Id):Prop:=∃o rows is,a=.own o 0 xs.length/\g o=some ⟨true,z,rows⟩/\eT R g rows xs is/\ids=o::is
def LJ {α:Type} (R:yq α) (z:Nat) (xs:List α) (σ:ax) (r:AV) (σ':ax):Prop:=∃ids,iQ R z σ'.get r xs ids/\e8 σ.next σ'.next ids/\Kept σ σ'
theorem iQ.frame {α:Type} {R:yq α} {z:Nat} {g g':Rows} {a:AV} {xs:List α} {ids:List Id} (ok:uA R z) (h:iQ R z g a xs ids) (hf:∀i∈ids,g' i=g i):iQ R z g' a xs ids:=by
 obtain⟨o,rows,is,h1,h2,h3,rfl⟩:=h
 exact⟨o,rows,is,h1,(hf o (by simp)).trans h2,h3.frame ok fun i hi=>hf i (by simp[hi]),rfl⟩
theorem iQ.fz {α:Type} {R:yq α} {z n:Nat} {e:α->List AV} {g:Rows} {a:AV} {xs:List α} {ids:List Id} (h:iQ R z g a xs ids) (hz:∀{cs x ids},R g cs x ids->cQ (dM g) n cs=some (e x)):V.fz (dM g) (n+1) a=some (.sl (xs.map e)):=by
 obtain⟨o,rows,is,rfl,h2,h3,rfl⟩:=h
 rw[ig]
 simp only[dM,h2,Option.map_some,if_true]
 rw[if_pos (by rw[h3.len];omega),List.drop_zero,List.take_of_length_le (by rw[h3.len];exact Nat.le_refl _),h3.fz hz];rfl
def l7 {α:Type} (e:α->List AV):yq α:=fun _ cs x ids=>cs=e x/\ids=[]
theorem Ji {α:Type} {e:α->List AV} {z:Nat} (hz:∀x,(e x).length=z) (hc:∀x,(e x).all AV.cell=true) (hs:z<qt):uA (l7 e) z where
 frame:=fun h _=>h
 len:=fun h=>by rw[h.1];exact hz _
 cell:=fun h=>by rw[h.1];exact hc _
 live:=fun h i hi=>by rw[h.2]at hi;cases hi
 small:=hs
def oU:yq fb:=fun g cs t ids=>∃i,cs=[.str t.aE,.own i 0 t.bD.length]/\g i=some ⟨true,1,t.bD.map aX⟩/\ids=[i]
theorem rE:uA oU 2 where
 frame:=fun⟨i,h1,h2,h3⟩ hf=>⟨i,h1,(hf i (by rw[h3];simp)).trans h2,h3⟩
 len:=fun⟨i,h1,_⟩=>by rw[h1];rfl
 cell:=fun⟨i,h1,_⟩=>by rw[h1];rfl
 live:=fun⟨i,h1,h2,h3⟩ j hj=>by
  rw[h3]at hj
  have:j=i:=by simpa using hj
  subst this
  exact⟨_,h2,rfl,by simp[qt]⟩
 small:=by simp[qt]
theorem Ny {g:Rows} {cs:List AV} {t:fb} {ids:List Id} (n:Nat) (h:oU g cs t ids):cQ (dM g) (n+2) cs=some (bm t):=by
 obtain⟨i,rfl,h2,_⟩:=h
 have h3:V.fz (dM g) (n+2) (.own i 0 t.bD.length)=some (.sl (t.bD.map aX)):=gH (e:=aX) (sz:=1) (by simp[dM,h2]) rfl fun x=>by simp[aX,ai,ao,aD]
 simp only[ai,ao,bt,h3,Option.map_some,bm]
theorem Nr {α:Type} {a b:List α} {x y:α} {k:Nat} (hk:a.length=k):(a++x::b).set k y=a++[y]++b:=by subst hk;simp
theorem AY {α:Type} {R:yq α} {en:α->List AV} {z fk gk:Nat} {zero:List K} (ok:uA R z) (hc:nf P fk=some (uv fk gk z zero)) (xI:zero.length=z) (hz:∀x,(en x).length=z) (xs:List α) (hlen:xs.length<=1048576)
  (hg:∀x∈xs,∀σ,Call P gk [.agg (en x)] σ (LI R x σ)) (σ:ax):Call P fk [.sl (xs.map en)] σ (LJ R z xs σ):=by
 refine fj hc rfl fun hl=>?_
 try simp only[q]
 clear hl
 have hm:(xs.length:Int)<=((16777216:Nat):Int):=ae
 have h0:(0:Int)<=(xs.length:Int):=ae
 (try((repeat(revert hN;revert N;apply Pn.out));refine wk (tw @hm (tw @h0 (tw @Int.le_refl @xI))) ?_;(repeat(refine Pn.mk ?_;intro N hN))))
 refine aT (fun n env st=>∃k:Nat,n=(xs.length)-k/\k<=(xs.length)/\env 4=.int .i64 (k:Int)/\(σ.next+2<=st.next/\(∀y:Id,y.cC<σ.next->st.get y=σ.get y)/\∃rows is,st.get ⟨fk*1000000+1002,σ.next+1⟩=some ⟨true,z,rows++List.replicate (xs.length-k) (zero.map K.av)⟩/\eT R st.get rows (xs.take k) is/\e8 (σ.next+2) st.next is)) (xs.length) ⟨0,ae,ae,sl @Nat.zero_add,by(try dsimp only);exact⟨ae,fun y hy=>by
  have h1:=eX hy
  simp only[go_sem, ↓reduceIte,Nat.reduceEqDiff,Nat.reduceAdd,Nat.reduceSub,Nat.reduceLeDiff,reduceCtorEq,h1],[],[],sl @Nat.zero_add,.nil,List.nodup_nil,fun i hi=>by cases hi⟩⟩ ?_
 rintro n_a env_a st_a ⟨k,rfl,ale,a4,kB⟩ dr
 have a0:=dr 0 (by kernel_rfl);have a3:=dr 3 (by kernel_rfl)
 simp only[go_sem, ↓reduceIte,Nat.reduceEqDiff,Nat.reduceAdd,Nat.reduceSub,Nat.reduceLeDiff,reduceCtorEq]at a0 a3
 clear dr
 obtain⟨an,aK,rows,is,ag,aR,aN⟩:=kB
 have sR:rows.length=k:=by rw[aR.len,List.length_take];omega
 by_cases hk:(k:Int)<(xs.length:Int)
 ·have bZ:∀{e:Env} {gg:Rows} {nx:Nat},(e 4=.int .i64 (IntKind.i64.wrap ((k:Int)+1)))->(σ.next+2<=nx/\(∀y:Id,y.cC<σ.next->gg y=σ.get y)/\∃rows is,gg ⟨fk*1000000+1002,σ.next+1⟩=some ⟨true,z,rows++List.replicate (xs.length-(k+1)) (zero.map K.av)⟩/\eT R gg rows (xs.take (k+1)) is/\e8 (σ.next+2) nx is)->∃m0,m0<(xs.length)-k/\∃k:Nat,m0=(xs.length)-k/\k<=(xs.length)/\e 4=.int .i64 (k:Int)/\(σ.next+2<=nx/\(∀y:Id,y.cC<σ.next->gg y=σ.get y)/\∃rows is,gg ⟨fk*1000000+1002,σ.next+1⟩=some ⟨true,z,rows++List.replicate (xs.length-k) (zero.map K.av)⟩/\eT R gg rows (xs.take k) is/\e8 (σ.next+2) nx is):=fun x1 x2=>⟨_,ae,k+1,rfl,ae,(by rw[x1,aB ae]),x2⟩
  have fK:k<xs.length:=ae
  have fe:(xs.map en)[k]? =some (en xs[k]):=by simp[fK]
  have uh:=hz xs[k]
  have ht:(en xs[k]).take z=en xs[k]:=by rw[<-uh,List.take_length]
  have iT:=hg _ (List.getElem_mem fK)
  obtain⟨m,ud⟩:∃m,xs.length-k=m+1:=⟨xs.length-k-1,ae⟩
  rw[ud,List.replicate_succ]at ag
  generalize hex:en xs[k]=c at iT fe uh ht
  (try((repeat(revert hN;revert N;apply Pn.out));refine wk (tw @a4 (tw @a0 (tw @a3 (tw @hk (tw @fe (tw @uh (tw @ht @Nat.le_refl))))))) ?_;(repeat(refine Pn.mk ?_;intro N hN))))
  refine .inr (aU _ _ _ _ _ (fun r σ1 hq=>?_) (iT _))
  obtain⟨cs,ids,rfl,hR,hI,hK⟩:=hq
  obtain⟨g1,x1⟩:=σ1
  (try dsimp only at hR hI hK)
  have Be:=(hK.2 ⟨fk*1000000+1002,σ.next+1⟩ bW)
  simp only[go_sem, ↓reduceIte,Nat.reduceEqDiff,Nat.reduceAdd,Nat.reduceSub,Nat.reduceLeDiff,reduceCtorEq,ag]at Be
  have mc:=ok.len hR
  have tg:=ok.cell hR
  have eQ:(rows++zero.map K.av::List.replicate m (zero.map K.av))[k]? =some (zero.map K.av):=by rw[List.getElem?_append_right ae,sR,Nat.sub_self];rfl
  have ei:(rows++zero.map K.av::List.replicate m (zero.map K.av)).set k cs=rows++[cs]++List.replicate m (zero.map K.av):=Nr sR
  have Jt:(zero.map K.av).drop z=[]:=List.drop_of_length_le (by simp[xI])
  have G7:(rows++zero.map K.av::List.replicate m (zero.map K.av)).length=xs.length:=by simp[sR];omega
  refine hN _ _ ?_
  clear hN N
  (try((repeat(revert hN;revert N;apply Pn.out));refine wk (tw @a4 (tw @a0 (tw @a3 (tw @hk (tw @Be (tw @eQ (tw @ei (tw @G7 (tw @Jt (tw @vK (tw @mc (tw @tg (tw @Nat.le_refl @xI))))))))))))) ?_;(repeat(refine Pn.mk ?_;intro N hN))))
  have uL:=hK.1
  have Ln:∀i∈is,(i=⟨fk*1000000+1002,σ.next+1⟩)=False:=fun i hi=>eq_false fun e=>by
   have:=(aN.2 i hi).1
   subst e;(try dsimp only at this);omega
  have xG:∀i∈ids,(i=⟨fk*1000000+1002,σ.next+1⟩)=False:=fun i hi=>eq_false fun e=>by
   have:=(hI.2 i hi).1
   subst e;(try dsimp only at this);omega
  exact bZ (sd (tw @a4 (tw @a0 @a3))) (by(try dsimp only at *);exact⟨ae,fun y hy=>by
   have h1:=eX hy
   have h2:=hK.2 y bW
   have h3:=aK y hy
   simp only[go_sem, ↓reduceIte,Nat.reduceEqDiff,Nat.reduceAdd,Nat.reduceSub,Nat.reduceLeDiff,reduceCtorEq]at h2
   simp only[go_sem, ↓reduceIte,Nat.reduceEqDiff,Nat.reduceAdd,Nat.reduceSub,Nat.reduceLeDiff,reduceCtorEq,h1,h2,h3],rows++[cs],is++ids,by
    rw[show xs.length-(k+1)=m by omega]
    simp only[go_sem, ↓reduceIte,Nat.reduceEqDiff,Nat.reduceAdd,Nat.reduceSub,Nat.reduceLeDiff,reduceCtorEq]<;>rfl,by
    rw[List.take_succ_eq_append_getElem fK]
    refine((aR.frame ok fun i hi=>?_).app (.one (ok.frame hR fun i hi=>?_)))
    ·have h1:=Ln i hi
     have h2:=hK.2 i (by(try dsimp only);have:=(aN.2 i hi).2;omega)
     simp only[go_sem, ↓reduceIte,Nat.reduceEqDiff,Nat.reduceAdd,Nat.reduceSub,Nat.reduceLeDiff,reduceCtorEq]at h2
     simp only[go_sem, ↓reduceIte,Nat.reduceEqDiff,Nat.reduceAdd,Nat.reduceSub,Nat.reduceLeDiff,reduceCtorEq,h1,h2]
    ·have h1:=xG i hi
     simp only[go_sem, ↓reduceIte,Nat.reduceEqDiff,Nat.reduceAdd,Nat.reduceSub,Nat.reduceLeDiff,reduceCtorEq,h1],(aN.app hI bW ae bW).wide (Nat.le_refl _) bW⟩)
 ·(try((repeat(revert hN;revert N;apply Pn.out));refine wk (tw @a4 (tw @a0 (tw @a3 @hk))) ?_;(repeat(refine Pn.mk ?_;intro N hN))))
  have fK:k=xs.length:=ae
  subst fK
  rw[Nat.sub_self,List.replicate_zero,List.append_nil]at ag
  rw[List.take_length]at aR
  refine gJ (.inl rfl) (vs:=[.own ⟨fk*1000000+1002,σ.next+1⟩ 0 xs.length]) (sd (tw @a4 (tw @a0 @a3))) ?_
  exact⟨_,⟨_,rows,is,rfl,ag,aR,rfl⟩,⟨List.nodup_cons.2 ⟨fun hi=>by have:=(aN.2 _ hi).1;(try dsimp only at this);omega,aN.1⟩,fun i hi=>by
   rcases List.mem_cons.1 hi with rfl|hi
   ·(try dsimp only);omega
   ·have:=aN.2 i hi;(try dsimp only);omega⟩,⟨bW,fun j hj=>aK j hj⟩⟩
end Go.Proofs.YtkbipfflibjfbaaGreat.V

namespace Go.Proofs.YtkbipfflibjfbaaGreat.V
open Go.RowKit
attribute [local irreducible] ef wpOps gN Call
attribute [local go_sem] aH fJ eW fZ gh dh upd cD K.av cP AV.cells AV.cell rowOf rowsOf part ld rowAt bU cw dI ek iq bL de eD gj fq dx ew db da dW dY bR bd cU bQ cW cV er ez eu cR bV dc eo bP aL cY cI im br cH bz bc dB bo dF AV.undef bx bE dZ ej dV ec cJ eC eE cF eB eA cX cZ List.getD_cons_zero List.getD_cons_succ List.getD_nil List.all_cons List.all_nil Bool.and_true Bool.true_and Bool.and_self Bool.not_true Bool.not_false Option.map_some Option.map_none Option.bind_some Option.bind_none List.length_cons List.length_nil List.take_succ_cons List.take_zero List.take_nil List.drop_succ_cons List.drop_zero List.drop_nil List.head?_cons List.map_cons List.map_nil List.getElem?_cons_zero List.getElem?_cons_succ List.cons_append List.nil_append List.append_nil List.length_map List.set_cons_zero List.set_cons_succ Nat.reduceMul eq_self Int.toNat_natCast Int.natCast_nonneg and_self true_and and_true decide_true decide_false Bool.false_eq_true Nat.zero_add Nat.add_zero List.contains_cons List.contains_nil Bool.or_false Bool.false_or beq_self_eq_true Nat.reduceBEq ne_eq not_true_eq_false not_false_eq_true Id.mk.injEq false_and and_false Nat.reduceLT Int.reduceLE Int.reduceLT Int.reduceToNat Int.reduceNeg Int.reduceAdd Nat.le_refl List.length_append beq_true beq_false Bool.not_eq_eq_eq_not or_false false_or dM ai ao aD bt cz aY bj aV bf cL bJ
theorem iQ.lG {α:Type} {R:yq α} {z:Nat} {g:Rows} {a:AV} {xs:List α} {ids:List Id} (h:iQ R z g a xs ids):∃o,a=.own o 0 xs.length:=by
 obtain⟨o,rows,is,rfl,_⟩:=h;exact⟨o,rfl⟩
theorem KU (xs:List Int) (hlen:xs.length<=1048576) (σ:ax):Call Tryz.prog 124 [.sl (xs.map aX)] σ (fun r σ'=>∃i,r=.own i 0 xs.length/\σ'.get i=some ⟨true,1,xs.map aX⟩/\e8 σ.next σ'.next [i]/\Kept σ σ'):=by
 refine fj (show nf Tryz.prog 124=some (KW 124 (.int .i64 0)) by kernel_rfl) rfl fun hl=>?_
 try simp only[q]
 clear hl
 obtain⟨en,Lp⟩:∃en:Int->List AV,en=aX:=⟨_,rfl⟩
 rw[<-Lp]
 have hm:(xs.length:Int)<=((16777216:Nat):Int):=ae
 have h0:(0:Int)<=(xs.length:Int):=ae
 (try((repeat(revert hN;revert N;apply Pn.out));refine wk (tw @hm (tw @h0 (tw @Int.le_refl (o8 en [AV.int .i64 0] xs)))) ?_;(repeat(refine Pn.mk ?_;intro N hN))))
 refine aT (fun n env st=>∃k:Nat,n=(xs.length)-k/\k<=(xs.length)/\env 4=.int .i64 (k:Int)/\st.get ⟨124*1000000+1002,σ.next+1⟩=some ⟨true,1,ib en [AV.int .i64 0] xs k⟩/\(σ.next+2<=st.next/\∀y:Id,y.cC<σ.next->st.get y=σ.get y)) (xs.length) ⟨0,ae,ae,sl @Nat.zero_add,sl @Nat.zero_add,by(try dsimp only);exact⟨ae,fun y hy=>by
  have h1:=eX hy
  simp only[go_sem, ↓reduceIte,Nat.reduceEqDiff,Nat.reduceAdd,Nat.reduceSub,Nat.reduceLeDiff,reduceCtorEq,h1]⟩⟩ ?_
 rintro n_a env_a st_a ⟨k,rfl,ale,a4,ag0,kB⟩ dr
 have a0:=dr 0 (by kernel_rfl);have a3:=dr 3 (by kernel_rfl)
 simp only[go_sem, ↓reduceIte,Nat.reduceEqDiff,Nat.reduceAdd,Nat.reduceSub,Nat.reduceLeDiff,reduceCtorEq]at a0 a3
 clear dr
 obtain⟨an,aK⟩:=kB
 by_cases hk:(k:Int)<(xs.length:Int)
 ·have bZ:∀{e:Env} {gg:Rows} {nx:Nat},(e 4=.int .i64 (IntKind.i64.wrap ((k:Int)+1)))->(gg ⟨124*1000000+1002,σ.next+1⟩=some ⟨true,1,ib en [AV.int .i64 0] xs (k+1)⟩)->(σ.next+2<=nx/\∀y:Id,y.cC<σ.next->gg y=σ.get y)->∃m0,m0<(xs.length)-k/\∃k:Nat,m0=(xs.length)-k/\k<=(xs.length)/\e 4=.int .i64 (k:Int)/\gg ⟨124*1000000+1002,σ.next+1⟩=some ⟨true,1,ib en [AV.int .i64 0] xs k⟩/\(σ.next+2<=nx/\∀y:Id,y.cC<σ.next->gg y=σ.get y):=fun x1 x2 x3=>⟨_,ae,k+1,rfl,ae,(by rw[x1,aB ae]),x2,x3⟩
  have fK:k<xs.length:=ae
  have fe:(xs.map en)[k]? =some [AV.int .i64 xs[k]]:=by simp[fK,Lp,aX]
  have fh:=qT en [AV.int .i64 0] xs fK
  have ei:=qU en [AV.int .i64 0] xs fK
  rw[show en xs[k]=[AV.int .i64 xs[k]] by rw[Lp];rfl]at ei
  (try((repeat(revert hN;revert N;apply Pn.out));refine wk (tw @a4 (tw @ag0 (tw @a0 (tw @a3 (tw @hk (tw @fe (tw @fh @ei))))))) ?_;(repeat(refine Pn.mk ?_;intro N hN))))
  refine bZ ?_ ?_ (by(try dsimp only);exact⟨ae,fun y hy=>by
   have h1:=eX hy
   have h3:=aK y hy
   simp only[go_sem, ↓reduceIte,Nat.reduceEqDiff,Nat.reduceAdd,Nat.reduceSub,Nat.reduceLeDiff,reduceCtorEq,h1,h3]⟩)
  all_goals simp only[go_sem, ↓reduceIte,Nat.reduceEqDiff,Nat.reduceAdd,Nat.reduceSub,Nat.reduceLeDiff,reduceCtorEq,a4,ag0,a0,a3]
 ·(try((repeat(revert hN;revert N;apply Pn.out));refine wk (tw @a4 (tw @ag0 (tw @a0 (tw @a3 @hk)))) ?_;(repeat(refine Pn.mk ?_;intro N hN))))
  have fK:k=xs.length:=ae
  subst fK
  refine gJ (.inl rfl) (vs:=[.own ⟨124*1000000+1002,σ.next+1⟩ 0 xs.length]) (sd (tw @a4 (tw @ag0 (tw @a0 @a3)))) ?_
  rw[qS]at ag0
  exact⟨_,rfl,ag0,⟨List.nodup_cons.2 ⟨by simp,List.nodup_nil⟩,fun i hi=>by
   rw[List.mem_singleton.1 hi];(try dsimp only);omega⟩,⟨bW,fun j hj=>aK j hj⟩⟩
theorem KX (p:fb) (hs:sV p) (σ:ax):Call Tryz.prog 72 [.agg (bm p)] σ (LI oU p σ):=by
 refine fj eM rfl fun hl=>?_
 clear hl
 (try((repeat(revert hN;revert N;apply Pn.out));refine wk @bm.eq_1 ?_;(repeat(refine Pn.mk ?_;intro N hN))))
 refine .inr (aU _ _ _ _ _ (fun r σ1 hq=>?_) (KU p.bD hs _))
 obtain⟨i,rfl,hg,hI,hK⟩:=hq
 obtain⟨g1,x1⟩:=σ1
 (try dsimp only at hg hI hK)
 have hn:=hK.1
 refine hN _ _ ?_
 clear hN N
 have hi:=hI.2 i (by simp)
 have k2:=hK.2 ⟨72000001,σ.next⟩ bW
 have k3:=hK.2 ⟨72001000,σ.next+1⟩ bW
 simp only[go_sem, ↓reduceIte,Nat.reduceEqDiff,Nat.reduceAdd,Nat.reduceSub,Nat.reduceLeDiff,reduceCtorEq]at k2 k3
 (try((repeat(revert hN;revert N;apply Pn.out));refine wk (tw @bm.eq_1 (tw @k2 @k3)) ?_;(repeat(refine Pn.mk ?_;intro N hN))))
 refine gJ (.inl rfl) (vs:=[.agg [.str p.aE,.own i 0 p.bD.length]]) (sd @Nat.zero_add) ?_
 refine⟨_,[i],rfl,⟨i,rfl,?_,rfl⟩,⟨hI.1,fun j hj=>?_⟩,⟨?_,fun j hj=>?_⟩⟩
 ·have i2:=ep (b:=i) (a:=⟨72000001,σ.next⟩) (by(try dsimp only at *);omega)
  have i3:=ep (b:=i) (a:=⟨72001000,σ.next+1⟩) (by(try dsimp only at *);omega)
  simp only[go_sem, ↓reduceIte,Nat.reduceEqDiff,Nat.reduceAdd,Nat.reduceSub,Nat.reduceLeDiff,reduceCtorEq,i2,i3,hg]
 ·rw[List.mem_singleton.1 hj]
  (try dsimp only at *);omega
 ·(try dsimp only at *);omega
 ·have h2:=hK.2 j bW
  have h1:=eX hj
  simp only[go_sem, ↓reduceIte,Nat.reduceEqDiff,Nat.reduceAdd,Nat.reduceSub,Nat.reduceLeDiff,reduceCtorEq,h1]at h2
  simp only[go_sem, ↓reduceIte,Nat.reduceEqDiff,Nat.reduceAdd,Nat.reduceSub,Nat.reduceLeDiff,reduceCtorEq,h1,h2]
theorem B4:uA (l7 bI) 2:=Ji (fun _=>rfl) (fun _=>rfl) (by simp[qt])
theorem yP:uA (l7 ab) 3:=Ji (fun _=>rfl) (fun _=>rfl) (by simp[qt])
theorem KS (p:fM) (σ:ax):Call Tryz.prog 71 [.agg (bI p)] σ (LI (l7 bI) p σ):=by
 refine fj eM rfl fun hl=>?_
 clear hl
 (try((repeat(revert hN;revert N;apply Pn.out));refine wk @bI.eq_1 ?_;(repeat(refine Pn.mk ?_;intro N hN))))
 refine gJ (.inl rfl) (vs:=[.agg (bI p)]) (sd @bI.eq_1) ?_
 exact⟨_,[],rfl,⟨rfl,rfl⟩,⟨List.nodup_nil,fun i hi=>by cases hi⟩,⟨bW,fun j hj=>by
  have h1:=eX hj
  simp only[go_sem, ↓reduceIte,Nat.reduceEqDiff,Nat.reduceAdd,Nat.reduceSub,Nat.reduceLeDiff,reduceCtorEq,h1]⟩⟩
theorem Fm (p:ah) (σ:ax):Call Tryz.prog 73 [.agg (ab p)] σ (LI (l7 ab) p σ):=by
 refine fj eM rfl fun hl=>?_
 clear hl
 have h:=zy p.bw
 rw[aa]at h
 (repeat(first|((repeat(revert hN;revert N;apply Pn.out));refine wk @ab.eq_1 ?_;(repeat(refine Pn.mk ?_;intro N hN)))|((try apply Or.inl);refine⟨_,lS.x (h) _,?_⟩;refine hN _ _ ?_;clear hN N)))
 refine gJ (.inl rfl) (vs:=[.agg (ab p)]) (sd @ab.eq_1) ?_
 exact⟨_,[],rfl,⟨rfl,rfl⟩,⟨List.nodup_nil,fun i hi=>by cases hi⟩,⟨bW,fun j hj=>by
  have h1:=eX hj
  simp only[go_sem, ↓reduceIte,Nat.reduceEqDiff,Nat.reduceAdd,Nat.reduceSub,Nat.reduceLeDiff,reduceCtorEq,h1]⟩⟩
theorem H0 (xs:List fM) (h:xs.length<=1048576) (σ:ax):Call Tryz.prog 33 [.sl (xs.map bI)] σ (LJ (l7 bI) 2 xs σ):=
 AY B4 (show nf Tryz.prog 33=some (uv 33 71 2 [.str [],.int .i64 0]) by kernel_rfl) rfl (fun _=>rfl) xs h (fun x _ σ=>KS x σ) σ
theorem H4 (xs:List fb) (h:xs.length<=1048576) (hs:∀t∈xs,sV t) (σ:ax):Call Tryz.prog 34 [.sl (xs.map bm)] σ (LJ oU 2 xs σ):=
 AY rE (show nf Tryz.prog 34=some (uv 34 72 2 [.str [],.ck]) by kernel_rfl) rfl (fun _=>rfl) xs h (fun x hx σ=>KX x (hs x hx) σ) σ
theorem Dc (xs:List ah) (h:xs.length<=1048576) (σ:ax):Call Tryz.prog 35 [.sl (xs.map ab)] σ (LJ (l7 ab) 3 xs σ):=
 AY yP (show nf Tryz.prog 35=some (uv 35 73 3 [.int .i64 0,.int .i64 0,.int .i64 0]) by kernel_rfl) rfl (fun _=>rfl) xs h (fun x _ σ=>Fm x σ) σ
def zD (g:Rows) (v:AV) (a:dD) (ids:List Id):Prop:=∃x,v=.agg [x]/\iQ (l7 ab) 3 g x a.aj ids
structure Bp (g:Rows) (v:AV) (s:cj) (ids:List Id):Prop where
 ex:∃a b c i1 i2 i3,v=.agg [a,b,c,.int .i64 s.au]/\iQ (l7 bI) 2 g a s.aC.az i1/\iQ oU 2 g b s.aC.aj i2/\iQ (l7 ab) 3 g c s.cq.aj i3/\ids=i1++(i2++i3)
theorem zD.frame {g g':Rows} {v:AV} {a:dD} {ids:List Id} (h:zD g v a ids) (hf:∀i∈ids,g' i=g i):zD g' v a ids:=by
 obtain⟨x,h1,h2⟩:=h
 exact⟨x,h1,h2.frame yP hf⟩
theorem Bp.frame {g g':Rows} {v:AV} {s:cj} {ids:List Id} (h:Bp g v s ids) (hf:∀i∈ids,g' i=g i):Bp g' v s ids:=by
 obtain⟨a,b,c,i1,i2,i3,h1,h2,h3,h4,rfl⟩:=h.ex
 exact⟨a,b,c,i1,i2,i3,h1,h2.frame B4 fun i hi=>hf i (by simp[hi]),h3.frame rE fun i hi=>hf i (by simp[hi]),h4.frame yP fun i hi=>hf i (by simp[hi]),rfl⟩
theorem zD.fz {g:Rows} {v:AV} {a:dD} {ids:List Id} (n:Nat) (h:zD g v a ids):V.fz (dM g) (n+4) v=some (.agg (aP a)):=by
 obtain⟨x,rfl,h2⟩:=h
 have h3:=h2.fz (n:=n+2) (e:=ab) fun hc=>by rw[hc.1];simp[ab,ai,ao,aD]
 simp only[bj,ai,ao,h3,Option.map_some,aP]
theorem Bp.fz {g:Rows} {v:AV} {s:cj} {ids:List Id} (n:Nat) (h:Bp g v s ids):V.fz (dM g) (n+5) v=some (.agg (aA s)):=by
 obtain⟨a,b,c,i1,i2,i3,rfl,h2,h3,h4,rfl⟩:=h.ex
 have q1:=h2.fz (n:=n+3) (e:=bI) fun hc=>by rw[hc.1];simp[bI,ai,ao,aD,bt]
 have q2:=h3.fz (n:=n+3) (e:=bm) fun hc=>Ny (n+1) hc
 have q3:=h4.fz (n:=n+3) (e:=ab) fun hc=>by rw[hc.1];simp[ab,ai,ao,aD]
 simp only[bj,ai,ao,q1,q2,q3,aD,Option.map_some,aA]
theorem sK (p:dD) (hs:p.aj.length<=1048576) (σ:ax):Call Tryz.prog 9 [.agg (aP p)] σ (fun r σ'=>∃ids,zD σ'.get r p ids/\e8 σ.next σ'.next ids/\Kept σ σ'):=by
 refine fj eM rfl fun hl=>?_
 clear hl
 (try((repeat(revert hN;revert N;apply Pn.out));refine wk @aP.eq_1 ?_;(repeat(refine Pn.mk ?_;intro N hN))))
 refine .inr (aU _ _ _ _ _ (fun r σ1 hq=>?_) (Dc p.aj hs _))
 obtain⟨ids,hR,hI,hK⟩:=hq
 obtain⟨g1,x1⟩:=σ1
 (try dsimp only at hR hI hK)
 have hn:=hK.1
 obtain⟨o,rows,is,rfl,hg,Vp,rfl⟩:=hR
 refine hN _ _ ?_
 clear hN N
 have k2:=hK.2 ⟨9000001,σ.next⟩ bW
 have k3:=hK.2 ⟨9001000,σ.next+1⟩ bW
 simp only[go_sem, ↓reduceIte,Nat.reduceEqDiff,Nat.reduceAdd,Nat.reduceSub,Nat.reduceLeDiff,reduceCtorEq]at k2 k3
 (try((repeat(revert hN;revert N;apply Pn.out));refine wk (tw @aP.eq_1 (tw @k2 @k3)) ?_;(repeat(refine Pn.mk ?_;intro N hN))))
 refine gJ (.inl rfl) (vs:=[.agg [.own o 0 p.aj.length]]) (sd @Nat.zero_add) ?_
 have hb:=hI.2
 (try dsimp only at hb hn)
 refine⟨_,⟨_,rfl,iQ.frame yP ⟨o,rows,is,rfl,hg,Vp,rfl⟩ fun j hj=>?_⟩,⟨hI.1,fun j hj=>?_⟩,⟨?_,fun j hj=>?_⟩⟩
 ·have VH:=hb j hj
  have i2:=ep (b:=j) (a:=⟨9000001,σ.next⟩) bW
  have i3:=ep (b:=j) (a:=⟨9001000,σ.next+1⟩) bW
  simp only[go_sem, ↓reduceIte,Nat.reduceEqDiff,Nat.reduceAdd,Nat.reduceSub,Nat.reduceLeDiff,reduceCtorEq,i2,i3]
 ·have:=hb j hj
  (try dsimp only);omega
 ·(try dsimp only);omega
 ·have h2:=hK.2 j bW
  have h1:=eX hj
  simp only[go_sem, ↓reduceIte,Nat.reduceEqDiff,Nat.reduceAdd,Nat.reduceSub,Nat.reduceLeDiff,reduceCtorEq,h1]at h2
  simp only[go_sem, ↓reduceIte,Nat.reduceEqDiff,Nat.reduceAdd,Nat.reduceSub,Nat.reduceLeDiff,reduceCtorEq,h1,h2]
theorem De (p:aw) (hs:IF p) (σ:ax):Call Tryz.prog 8 [.agg (ad p)] σ (fun r σ'=>∃a b i1 i2,r=.agg [a,b]/\iQ (l7 bI) 2 σ'.get a p.az i1/\iQ oU 2 σ'.get b p.aj i2/\e8 σ.next σ'.next (i1++i2)/\Kept σ σ'):=by
 refine fj eM rfl fun hl=>?_
 clear hl
 (try((repeat(revert hN;revert N;apply Pn.out));refine wk @ad.eq_1 ?_;(repeat(refine Pn.mk ?_;intro N hN))))
 refine .inr (aU _ _ _ _ _ (fun r σ1 hq=>?_) (H0 p.az hs.g _))
 obtain⟨i1,hR,hI,hK⟩:=hq
 obtain⟨g1,x1⟩:=σ1
 (try dsimp only at hR hI hK)
 have hn:=hK.1
 obtain⟨o,rows,is,rfl,hg,Vp,rfl⟩:=hR
 have hb:=hI.2
 (try dsimp only at hb hn)
 refine hN _ _ ?_
 clear hN N
 have k1:=hK.2 ⟨8000000,σ.next⟩ bW
 have k2:=hK.2 ⟨8000001,σ.next⟩ bW
 have k3:=hK.2 ⟨8001000,σ.next+1⟩ bW
 simp only[go_sem, ↓reduceIte,Nat.reduceEqDiff,Nat.reduceAdd,Nat.reduceSub,Nat.reduceLeDiff,reduceCtorEq]at k1 k2 k3
 (try((repeat(revert hN;revert N;apply Pn.out));refine wk (tw @ad.eq_1 (tw @k1 (tw @k2 @k3))) ?_;(repeat(refine Pn.mk ?_;intro N hN))))
 refine .inr (aU _ _ _ _ _ (fun r σ2 hq=>?_) (H4 p.aj hs.t hs.s _))
 obtain⟨i2,hS,hJ,hL⟩:=hq
 obtain⟨g2,x2⟩:=σ2
 (try dsimp only at hS hJ hL)
 have PQ:=hL.1
 obtain⟨o2,Ty,is2,rfl,SI,hS',rfl⟩:=hS
 have hc:=hJ.2
 (try dsimp only at hc PQ)
 refine hN _ _ ?_
 clear hN N
 have l2:=hL.2 ⟨8000001,σ.next⟩ bW
 have l3:=hL.2 ⟨8001000,σ.next+1⟩ bW
 simp only[go_sem, ↓reduceIte,Nat.reduceEqDiff,Nat.reduceAdd,Nat.reduceSub,Nat.reduceLeDiff,reduceCtorEq,k2,k3]at l2 l3
 (try((repeat(revert hN;revert N;apply Pn.out));refine wk (tw @ad.eq_1 (tw @l2 @l3)) ?_;(repeat(refine Pn.mk ?_;intro N hN))))
 refine gJ (.inl rfl) (vs:=[.agg [.own o 0 p.az.length,.own o2 0 p.aj.length]]) (sd @Nat.zero_add) ?_
 have fr:∀x:Id,σ.next+2<=x.cC->(x=⟨8000001,σ.next⟩)=False/\(x=⟨8001000,σ.next+1⟩)=False:=fun x hx=>⟨(ep (a:=⟨8000001,σ.next⟩) (b:=x) bW).2,(ep (a:=⟨8001000,σ.next+1⟩) (b:=x) bW).2⟩
 refine⟨_,_,_,_,rfl,iQ.frame (g:=g1) B4 ⟨o,rows,is,rfl,hg,Vp,rfl⟩ fun i hi=>?_,iQ.frame (g:=g2) rE ⟨o2,Ty,is2,rfl,SI,hS',rfl⟩ fun i hi=>?_,?_,⟨bW,fun j hj=>?_⟩⟩
 ·have h1:=hb i hi
  have h2:=hL.2 i bW
  have h3:=fr i ae
  simp only[go_sem, ↓reduceIte,Nat.reduceEqDiff,Nat.reduceAdd,Nat.reduceSub,Nat.reduceLeDiff,reduceCtorEq,h3]at h2
  simp only[go_sem, ↓reduceIte,Nat.reduceEqDiff,Nat.reduceAdd,Nat.reduceSub,Nat.reduceLeDiff,reduceCtorEq,h2,h3]
 ·have h1:=hc i hi
  have h3:=fr i ae
  simp only[go_sem, ↓reduceIte,Nat.reduceEqDiff,Nat.reduceAdd,Nat.reduceSub,Nat.reduceLeDiff,reduceCtorEq,h3]
 ·(try dsimp only at *)
  exact(hI.app hJ ae ae ae).wide ae ae
 ·have h1:=eX hj
  have h2:=hL.2 j bW
  have h3:=hK.2 j bW
  simp only[go_sem, ↓reduceIte,Nat.reduceEqDiff,Nat.reduceAdd,Nat.reduceSub,Nat.reduceLeDiff,reduceCtorEq,h1]at h2 h3
  simp only[go_sem, ↓reduceIte,Nat.reduceEqDiff,Nat.reduceAdd,Nat.reduceSub,Nat.reduceLeDiff,reduceCtorEq,h1,h2,h3]
theorem Fq (p:cj) (hs:rM p) (σ:ax):Call Tryz.prog 20 [.agg (aA p)] σ (fun r σ'=>∃ids,Bp σ'.get r p ids/\e8 σ.next σ'.next ids/\Kept σ σ'):=by
 refine fj eM rfl fun hl=>?_
 clear hl
 have t1:=fun σ=>De p.aC hs.s σ
 have t2:=fun σ=>sK p.cq hs.a σ
 rw[ad]at t1
 rw[aP]at t2
 (try((repeat(revert hN;revert N;apply Pn.out));refine wk @aA.eq_1 ?_;(repeat(refine Pn.mk ?_;intro N hN))))
 refine .inr (aU _ _ _ _ _ (fun r σ1 hq=>?_) (t1 _))
 obtain⟨a,b,i1,i2,rfl,hA,hB,hI,hK⟩:=hq
 obtain⟨g1,x1⟩:=σ1
 (try dsimp only at hA hB hI hK)
 have hn:=hK.1
 have hb:=hI.2
 (try dsimp only at hb hn)
 refine hN _ _ ?_
 clear hN N
 have k1:=hK.2 ⟨20000000,σ.next⟩ bW
 have k2:=hK.2 ⟨20000001,σ.next⟩ bW
 have k3:=hK.2 ⟨20001000,σ.next+1⟩ bW
 simp only[go_sem, ↓reduceIte,Nat.reduceEqDiff,Nat.reduceAdd,Nat.reduceSub,Nat.reduceLeDiff,reduceCtorEq]at k1 k2 k3
 obtain⟨oa,rfl⟩:=hA.lG
 obtain⟨ob,rfl⟩:=hB.lG
 (try((repeat(revert hN;revert N;apply Pn.out));refine wk (tw @aA.eq_1 (tw @k1 (tw @k2 @k3))) ?_;(repeat(refine Pn.mk ?_;intro N hN))))
 refine .inr (aU _ _ _ _ _ (fun r σ2 hq=>?_) (t2 _))
 obtain⟨i3,hC,hJ,hL⟩:=hq
 obtain⟨g2,x2⟩:=σ2
 (try dsimp only at hC hJ hL)
 have PQ:=hL.1
 have hc:=hJ.2
 (try dsimp only at hc PQ)
 obtain⟨c,rfl,hC⟩:=hC
 obtain⟨oc,rfl⟩:=hC.lG
 refine hN _ _ ?_
 clear hN N
 have l1:=hL.2 ⟨20000000,σ.next⟩ bW
 have l2:=hL.2 ⟨20000001,σ.next⟩ bW
 have l3:=hL.2 ⟨20001000,σ.next+1⟩ bW
 simp only[go_sem, ↓reduceIte,Nat.reduceEqDiff,Nat.reduceAdd,Nat.reduceSub,Nat.reduceLeDiff,reduceCtorEq,k1,k2,k3]at l1 l2 l3
 (try((repeat(revert hN;revert N;apply Pn.out));refine wk (tw @aA.eq_1 (tw @l1 (tw @l2 @l3))) ?_;(repeat(refine Pn.mk ?_;intro N hN))))
 refine gJ (.inl rfl) (vs:=[.agg [.own oa 0 p.aC.az.length,.own ob 0 p.aC.aj.length,.own oc 0 p.cq.aj.length,.int .i64 p.au]]) (sd @Nat.zero_add) ?_
 have fr:∀x:Id,σ.next+2<=x.cC->(x=⟨20000001,σ.next⟩)=False/\(x=⟨20001000,σ.next+1⟩)=False:=fun x hx=>⟨(ep (a:=⟨20000001,σ.next⟩) (b:=x) bW).2,(ep (a:=⟨20001000,σ.next+1⟩) (b:=x) bW).2⟩
 have Q5:∀i∈i1++i2,g2 i=g1 i:=fun i hi=>by
  have h1:=hb i hi
  have h2:=hL.2 i bW
  have h3:=fr i ae
  simp only[go_sem, ↓reduceIte,Nat.reduceEqDiff,Nat.reduceAdd,Nat.reduceSub,Nat.reduceLeDiff,reduceCtorEq,h3]at h2
  exact h2
 refine⟨i1++(i2++i3),⟨_,_,_,i1,i2,i3,rfl,hA.frame B4 fun i hi=>?_,hB.frame rE fun i hi=>?_,hC.frame yP fun i hi=>?_,rfl⟩,?_,⟨bW,fun j hj=>?_⟩⟩
 ·have h1:=hb i (by simp[hi])
  have h2:=Q5 i (by simp[hi])
  have h3:=fr i ae
  simp only[go_sem, ↓reduceIte,Nat.reduceEqDiff,Nat.reduceAdd,Nat.reduceSub,Nat.reduceLeDiff,reduceCtorEq,h2,h3]
 ·have h1:=hb i (by simp[hi])
  have h2:=Q5 i (by simp[hi])
  have h3:=fr i ae
  simp only[go_sem, ↓reduceIte,Nat.reduceEqDiff,Nat.reduceAdd,Nat.reduceSub,Nat.reduceLeDiff,reduceCtorEq,h2,h3]
 ·have h1:=hc i hi
  have h3:=fr i ae
  simp only[go_sem, ↓reduceIte,Nat.reduceEqDiff,Nat.reduceAdd,Nat.reduceSub,Nat.reduceLeDiff,reduceCtorEq,h3]
 ·(try dsimp only at *)
  rw[<-List.append_assoc]
  exact(hI.app hJ ae ae ae).wide ae ae
 ·have h1:=eX hj
  have h2:=hL.2 j bW
  have h3:=hK.2 j bW
  simp only[go_sem, ↓reduceIte,Nat.reduceEqDiff,Nat.reduceAdd,Nat.reduceSub,Nat.reduceLeDiff,reduceCtorEq,h1]at h2 h3
  simp only[go_sem, ↓reduceIte,Nat.reduceEqDiff,Nat.reduceAdd,Nat.reduceSub,Nat.reduceLeDiff,reduceCtorEq,h1,h2,h3]
end Go.Proofs.YtkbipfflibjfbaaGreat.V

namespace Go.Proofs.YtkbipfflibjfbaaGreat
open Go.RowKit
def lI (n:Int):Bool:=(decide (97<=n)&&decide (n<=122))||(decide (65<=n)&&decide (n<=90))
def lX (n:Int):Bool:=decide (48<=n)&&decide (n<=57)
def uD (i:Nat) (n:Int):Prop:=lI n=true∨(0<i/\(lX n=true∨n=95))
def vE (s:ByteArray):Prop:=(1<=s.size/\s.size<=12)/\∀i (h:i<s.size),uD i s[i].toNat
open Classical in
noncomputable def kg (s:ByteArray):Bool:=decide (vE s)
theorem EU {s:ByteArray} (h:vE s):true=kg s:=by simp[kg,h]
theorem eI {s:ByteArray} (h:¬vE s):false=kg s:=by simp[kg,h]
theorem CP {s:ByteArray} {b:Bool} (hb:b=true) (h:vE s):b=kg s:=by simp[kg,h,hb]
theorem sk {s:ByteArray} {b:Bool} (hb:b=false) (h:¬vE s):b=kg s:=by simp[kg,h,hb]
theorem wO (w:World) (n:Int):Calls Tryz.prog 156 #[.int .u8 n] w fun e w'=>e=.returned (.bool (lI n))/\w=w':=by
 go_enter Tryz.func156,Tryz.ntmps156
 go_wp2_with fail
 all_goals
  go_ret
  exact⟨jl (by unfold lI;simp[*];try omega),rfl⟩
theorem GR (w:World) (n:Int):Calls Tryz.prog 157 #[.int .u8 n] w fun e w'=>e=.returned (.bool (lX n))/\w=w':=by
 go_enter Tryz.func157,Tryz.ntmps157
 go_wp2_with fail
 all_goals
  go_ret
  exact⟨jl (by unfold lX;simp[*];try omega),rfl⟩
theorem C2 (w:World) (s:ByteArray) (hs:s.size<=9223372036854775807):Calls Tryz.prog 115 #[.string s] w fun e w'=>e=.returned (.bool (kg s))/\Below w.heap.size w w':=by
 by_cases h1:1<=s.size
 case neg=>
  go_enter Tryz.func115,Tryz.ntmps115
  go_wp2_with fail
  go_ret
  exact⟨jl (eI fun h=>h1 h.1.1),Below.refl _ _⟩
 by_cases h2:s.size<=12
 case neg=>
  go_enter Tryz.func115,Tryz.ntmps115
  go_wp2_with fail
  go_ret
  exact⟨jl (eI fun h=>h2 h.1.2),Below.refl _ _⟩
 go_enter Tryz.func115,Tryz.ntmps115
 go_wp2_with fail
 refine(wO _ _).mono ?_
 rintro e w' ⟨rfl,rfl⟩
 cases h3:lI s[0].toNat
 ·go_wp2_with fail
  go_ret
  exact⟨jl (eI fun h=>by have:=h.2 0 (by omega);simp only[uD]at this;rw[h3]at this;simp at this),Below.refl _ _⟩
 ·replace h3:=Lib.hid h3
  go_wp2_with fail
  go_loop [3] (fun i=>∃k:Nat,1<=k/\k<=s.size/\i=.int .i64 k/\Hid (∀j (h:j<s.size),j<k->uD j s[j].toNat)) (fun i=>s.size-(intOf i).toNat)
  case atStart=>exact⟨1,by omega,by omega,rfl,Lib.hid fun j h hj=>by
   obtain rfl:j=0:=by omega
   exact .inl h3.out⟩
  case round=>
   obtain⟨k,re,hk,rfl,dz⟩:=hrel
   by_cases dO:k<s.size
   ·go_wp2_with fail
    refine(wO _ _).mono ?_
    rintro e w' ⟨rfl,rfl⟩
    have jA:uD k s[k].toNat∨¬uD k s[k].toNat:=Classical.em _
    cases hl:lI s[k].toNat
    ·go_wp2_with fail
     refine(GR _ _).mono ?_
     rintro e w' ⟨rfl,rfl⟩
     cases hd:lX s[k].toNat
     ·by_cases uV:(s[k].toNat:Int)=95
      ·have U9:((s[k].toNat:Int) !=95)=false:=by simp;omega
       replace uV:=Lib.hid uV
       replace hl:=Lib.hid hl
       replace hd:=Lib.hid hd
       go_wp2_with fail
       go_round
       case rel=>exact⟨k+1,by omega,by omega,by go_num,Lib.hid fun j h hj=>by
        by_cases y5:j=k
        ·subst y5;exact .inr ⟨by omega,.inr uV.out⟩
        ·exact dz.out j h (by omega)⟩
       case measure=>simp[intOf];omega
      ·have U9:((s[k].toNat:Int) !=95)=true:=by simp;omega
       replace uV:=Lib.hid uV
       replace hl:=Lib.hid hl
       replace hd:=Lib.hid hd
       go_wp2_with fail
       go_ret
       exact⟨jl (eI fun h=>by
        have:=h.2 k dO;simp only[uD,hl.out,hd.out]at this;exact uV.out (by simp at this;exact this.2)),Below.refl _ _⟩
     ·replace hl:=Lib.hid hl
      replace hd:=Lib.hid hd
      go_wp2_with fail
      go_round
      case rel=>exact⟨k+1,by omega,by omega,by go_num,Lib.hid fun j h hj=>by
       by_cases y5:j=k
       ·subst y5;exact .inr ⟨by omega,.inl hd.out⟩
       ·exact dz.out j h (by omega)⟩
      case measure=>simp[intOf];omega
    ·replace hl:=Lib.hid hl
     go_wp2_with fail
     go_round
     case rel=>exact⟨k+1,by omega,by omega,by go_num,Lib.hid fun j h hj=>by
      by_cases y5:j=k
      ·subst y5;exact .inl hl.out
      ·exact dz.out j h (by omega)⟩
     case measure=>simp[intOf];omega
   ·go_wp2_with fail
    go_ret
    exact⟨jl (EU ⟨⟨h1,h2⟩,fun i h=>dz.out i h (by omega)⟩),Below.refl _ _⟩
theorem Cn (w:World) (s:ByteArray) (hs:s.size<=9223372036854775807):Calls Tryz.prog 126 #[.string s] w fun e w'=>e=.returned (.bool (kg s))/\w=w':=by
 go_enter Tryz.func126,Tryz.ntmps126
 go_wp2_with fail
 go_loop [8] (fun i=>∃k:Nat,k<=s.size/\i=.int .i64 k/\Hid (∀j (h:j<s.size),j<k->uD j s[j].toNat)) (fun i=>s.size-(intOf i).toNat)
 case atStart=>exact⟨0,by omega,rfl,Lib.hid fun j h hj=>by omega⟩
 case round=>
  obtain⟨k,hk,rfl,dz⟩:=hrel
  by_cases dO:k<s.size
  ·have hc:(s[k].toNat:Int)<48∨(48<=(s[k].toNat:Int)/\(s[k].toNat:Int)<=57)∨(58<=(s[k].toNat:Int)/\(s[k].toNat:Int)<=64)∨(65<=(s[k].toNat:Int)/\(s[k].toNat:Int)<=90)∨(91<=(s[k].toNat:Int)/\(s[k].toNat:Int)<=94)∨(95<=(s[k].toNat:Int)/\(s[k].toNat:Int)<=95)∨(96<=(s[k].toNat:Int)/\(s[k].toNat:Int)<=96)∨(97<=(s[k].toNat:Int)/\(s[k].toNat:Int)<=122)∨123<=(s[k].toNat:Int):=by omega
   by_cases tk:k=0
   ·subst tk
    rcases hc with h|⟨h,h'⟩|⟨h,h'⟩|⟨h,h'⟩|⟨h,h'⟩|⟨h,h'⟩|⟨h,h'⟩|⟨h,h'⟩|h
    ·have uV:((s[0].toNat:Int) !=95)=true:=by simp;try omega
     go_wp2_with fail
     all_goals first
      |(go_ret;exact⟨jl (eI fun hh=>by have:=hh.2 0 dO;simp[uD,lI,lX]at this;omega),rfl⟩)
      |(exfalso;simp_all;done)
      |(exfalso;simp_all;omega)
    ·have uV:((s[0].toNat:Int) !=95)=true:=by simp;try omega
     go_wp2_with fail
     all_goals first
      |(go_ret;exact⟨jl (eI fun hh=>by have:=hh.2 0 dO;simp[uD,lI,lX]at this;omega),rfl⟩)
      |(exfalso;simp_all;done)
      |(exfalso;simp_all;omega)
    ·have uV:((s[0].toNat:Int) !=95)=true:=by simp;try omega
     go_wp2_with fail
     all_goals first
      |(go_ret;exact⟨jl (eI fun hh=>by have:=hh.2 0 dO;simp[uD,lI,lX]at this;omega),rfl⟩)
      |(exfalso;simp_all;done)
      |(exfalso;simp_all;omega)
    ·have uV:((s[0].toNat:Int) !=95)=true:=by simp;try omega
     go_wp2_with fail
     go_round
     case rel=>exact⟨0+1,by omega,by go_num,Lib.hid fun j hj y5=>by
      by_cases JA:j=0
      ·subst JA;simp[uD,lI,lX];omega
      ·exact dz.out j hj (by omega)⟩
     case measure=>simp[intOf];try omega
    ·have uV:((s[0].toNat:Int) !=95)=true:=by simp;try omega
     go_wp2_with fail
     all_goals first
      |(go_ret;exact⟨jl (eI fun hh=>by have:=hh.2 0 dO;simp[uD,lI,lX]at this;omega),rfl⟩)
      |(exfalso;simp_all;done)
      |(exfalso;simp_all;omega)
    ·have uV:((s[0].toNat:Int) !=95)=false:=by simp;try omega
     go_wp2_with fail
     all_goals first
      |(go_ret;exact⟨jl (eI fun hh=>by have:=hh.2 0 dO;simp[uD,lI,lX]at this;omega),rfl⟩)
      |(exfalso;simp_all;done)
      |(exfalso;simp_all;omega)
    ·have uV:((s[0].toNat:Int) !=95)=true:=by simp;try omega
     go_wp2_with fail
     all_goals first
      |(go_ret;exact⟨jl (eI fun hh=>by have:=hh.2 0 dO;simp[uD,lI,lX]at this;omega),rfl⟩)
      |(exfalso;simp_all;done)
      |(exfalso;simp_all;omega)
    ·have uV:((s[0].toNat:Int) !=95)=true:=by simp;try omega
     go_wp2_with fail
     go_round
     case rel=>exact⟨0+1,by omega,by go_num,Lib.hid fun j hj y5=>by
      by_cases JA:j=0
      ·subst JA;simp[uD,lI,lX];omega
      ·exact dz.out j hj (by omega)⟩
     case measure=>simp[intOf];try omega
    ·have uV:((s[0].toNat:Int) !=95)=true:=by simp;try omega
     go_wp2_with fail
     all_goals first
      |(go_ret;exact⟨jl (eI fun hh=>by have:=hh.2 0 dO;simp[uD,lI,lX]at this;omega),rfl⟩)
      |(exfalso;simp_all;done)
      |(exfalso;simp_all;omega)
   ·have hz:((k:Int)==0)=false:=by simpa using tk
    have re:1<=k:=by omega
    clear tk
    rcases hc with h|⟨h,h'⟩|⟨h,h'⟩|⟨h,h'⟩|⟨h,h'⟩|⟨h,h'⟩|⟨h,h'⟩|⟨h,h'⟩|h
    ·have uV:((s[k].toNat:Int) !=95)=true:=by simp;try omega
     go_wp2_with fail
     all_goals first
      |(go_ret;exact⟨jl (eI fun hh=>by have:=hh.2 k dO;simp[uD,lI,lX]at this;omega),rfl⟩)
      |(exfalso;simp_all;done)
      |(exfalso;simp_all;omega)
    ·have uV:((s[k].toNat:Int) !=95)=true:=by simp;try omega
     go_wp2_with fail
     go_round
     case rel=>exact⟨k+1,by omega,by go_num,Lib.hid fun j hj y5=>by
      by_cases JA:j=k
      ·subst JA;simp[uD,lI,lX];omega
      ·exact dz.out j hj (by omega)⟩
     case measure=>simp[intOf];try omega
    ·have uV:((s[k].toNat:Int) !=95)=true:=by simp;try omega
     go_wp2_with fail
     all_goals first
      |(go_ret;exact⟨jl (eI fun hh=>by have:=hh.2 k dO;simp[uD,lI,lX]at this;omega),rfl⟩)
      |(exfalso;simp_all;done)
      |(exfalso;simp_all;omega)
    ·have uV:((s[k].toNat:Int) !=95)=true:=by simp;try omega
     go_wp2_with fail
     go_round
     case rel=>exact⟨k+1,by omega,by go_num,Lib.hid fun j hj y5=>by
      by_cases JA:j=k
      ·subst JA;simp[uD,lI,lX];omega
      ·exact dz.out j hj (by omega)⟩
     case measure=>simp[intOf];try omega
    ·have uV:((s[k].toNat:Int) !=95)=true:=by simp;try omega
     go_wp2_with fail
     all_goals first
      |(go_ret;exact⟨jl (eI fun hh=>by have:=hh.2 k dO;simp[uD,lI,lX]at this;omega),rfl⟩)
      |(exfalso;simp_all;done)
      |(exfalso;simp_all;omega)
    ·have uV:((s[k].toNat:Int) !=95)=false:=by simp;try omega
     go_wp2_with fail
     go_round
     case rel=>exact⟨k+1,by omega,by go_num,Lib.hid fun j hj y5=>by
      by_cases JA:j=k
      ·subst JA;simp[uD,lI,lX];omega
      ·exact dz.out j hj (by omega)⟩
     case measure=>simp[intOf];try omega
    ·have uV:((s[k].toNat:Int) !=95)=true:=by simp;try omega
     go_wp2_with fail
     all_goals first
      |(go_ret;exact⟨jl (eI fun hh=>by have:=hh.2 k dO;simp[uD,lI,lX]at this;omega),rfl⟩)
      |(exfalso;simp_all;done)
      |(exfalso;simp_all;omega)
    ·have uV:((s[k].toNat:Int) !=95)=true:=by simp;try omega
     go_wp2_with fail
     go_round
     case rel=>exact⟨k+1,by omega,by go_num,Lib.hid fun j hj y5=>by
      by_cases JA:j=k
      ·subst JA;simp[uD,lI,lX];omega
      ·exact dz.out j hj (by omega)⟩
     case measure=>simp[intOf];try omega
    ·have uV:((s[k].toNat:Int) !=95)=true:=by simp;try omega
     go_wp2_with fail
     all_goals first
      |(go_ret;exact⟨jl (eI fun hh=>by have:=hh.2 k dO;simp[uD,lI,lX]at this;omega),rfl⟩)
      |(exfalso;simp_all;done)
      |(exfalso;simp_all;omega)
  ·by_cases h1:1<=s.size
   ·by_cases h2:s.size<=12
    ·go_wp2_with fail
     go_ret
     exact⟨jl (CP (by simp<;>omega) ⟨⟨h1,h2⟩,fun i h=>dz.out i h (by omega)⟩),rfl⟩
    ·go_wp2_with fail
     go_ret
     exact⟨jl (sk (by simp<;>omega) fun h=>h2 h.1.2),rfl⟩
   ·go_wp2_with fail
    go_ret
    exact⟨jl (sk (by simp<;>omega) fun h=>h1 h.1.1),rfl⟩
end Go.Proofs.YtkbipfflibjfbaaGreat

namespace Go.Proofs.YtkbipfflibjfbaaGreat.V
open Go.RowKit
theorem mixed:Tryz.prog.follows .mixedOrders=true:=by kernel_rfl
variable {P:Program} {w:World} {D:Nat->Prop} {ι:Names}
theorem kD {f:Nat} {args:List AV} {r:AV} {vs0:Array Value} {u0:Value} (ox:∀(w:World) (D:Nat->Prop) (ι:Names) vs,fc P w D ι args vs->vs=vs0) (hr:∀(w:World) (D:Nat->Prop) (ι:Names),cN P w D ι r u0) (Dq:∀g,gw g 6 r=some r)
  (h:∀w,Calls P f vs0 w fun e w'=>e=.returned u0/\Below w.heap.size w w'):ak P f args r:=by
 intro n
 refine gF fun hs D ι w vs S U A=>?_
 have:=ox w D ι vs A
 subst this
 refine(h w).mono ?_
 rintro e w' ⟨rfl,hb⟩
 exact⟨r,_,n,D,ι,u0,rfl,⟨r,Dq _,rfl⟩,Step.stay S hb.block hb.size hb.os hb.tape hb.output (fun _ h=>h) (fun _ h=>.inl h) (fun _ _ h=>h),
  S.stay hb.block hb.size (fun _ h=>h) (fun b hd=>Nat.lt_of_lt_of_le (S.dead b hd) hb.size) (fun _ h=>.inl h) (fun _ _ h=>h),U,Nat.le_refl _,hr _ _ _⟩
theorem CY {s:ByteArray} {vs:Array Value} (h:fc P w D ι [.str s] vs):vs= #[.string s]:=by
 obtain⟨h1,h2⟩:=h
 obtain⟨u,hu,hr⟩:=h2 0 _ rfl
 rw[fQ hr]at hu
 obtain⟨l⟩:=vs
 cases l with
 |nil=>simp at h1
 |cons a l=>cases l with
  |nil=>simp at hu;subst hu;rfl
  |cons b l=>simp at h1
theorem Ge (s:ByteArray) (hs:s.size<=9223372036854775807):ak Tryz.prog 115 [.str s] (.bool (kg s)):=
 kD (fun _ _ _ _=>CY) (fun _ _ _=>.eO _ _ (.bool _)) (fun g=>fH g 5 _) fun w=>C2 w s hs
theorem F4 (s:ByteArray) (hs:s.size<=9223372036854775807):ak Tryz.prog 126 [.str s] (.bool (kg s)):=
 kD (fun _ _ _ _=>CY) (fun _ _ _=>.eO _ _ (.bool _)) (fun g=>fH g 5 _) fun w=>(Cn w s hs).mono (by rintro e w' ⟨rfl,rfl⟩;exact⟨rfl,Below.refl _ _⟩)
end Go.Proofs.YtkbipfflibjfbaaGreat.V

namespace Go.Proofs.YtkbipfflibjfbaaGreat
open Go.RowKit
def uF (n:Nat):List UInt8:=if h:n=0 then[]else uF (n / 10)++[UInt8.ofNat (48+n % 10)]
termination_by n
decreasing_by omega
def pq (k:Int):ByteArray:=if k<=0 then⟨#[109,48]⟩else⟨(109::uF k.toNat).toArray⟩
theorem GU:uF 0=[]:=by unfold uF;simp
theorem I5 {n:Nat} (h:n≠0):uF n=uF (n / 10)++[UInt8.ofNat (48+n % 10)]:=by
 conv=>lhs;unfold uF
 rw[dif_neg h]
theorem yM (c:UInt8) (l:ByteArray):((⟨#[c]⟩++l:ByteArray)).data.toList=c::l.data.toList:=by
 simp[ByteArray.data_append]
theorem BS:∀(m n:Nat),n<10 ^ m->(uF n).length<=m
 |0,n,h=>by
  have:n=0:=by simpa using h
  subst this;simp[uF]
 |m+1,n,h=>by
  unfold uF
  split
  ·simp
  ·have:=BS m (n / 10) (by rw[Nat.pow_succ]at h;omega)
   simp;omega
theorem AF (w:World) (k:Int) (h0:0<=k) (h1:k<=4611686018427387904):
  Calls Tryz.prog 92 #[.int .i64 k] w fun e w'=>e=.returned (.string (pq k))/\Below w.heap.size w w':=by
 by_cases hk:k<=0
 ·go_enter Tryz.func92,Tryz.ntmps92
  go_wp2_with fail
  go_ret
  exact⟨by simp[pq,hk],Below.refl _ _⟩
 ·go_enter Tryz.func92,Tryz.ntmps92
  go_wp2_with fail
  go_loopw [0,3] (fun a s wr=>∃(j:Int) (l:ByteArray),a=.int .i64 j/\s=.string l/\0<=j/\j<=4611686018427387904/\Hid (uF j.toNat++l.data.toList=uF k.toNat)/\Below w.heap.size w wr) (fun a _ _=>(intOf a).toNat)
  case atStart=>exact⟨k,⟨#[]⟩,rfl,rfl,h0,h1,Lib.hid (by simp),Below.refl _ _⟩
  case round=>
   obtain⟨j,l,rfl,rfl,hj0,hj1,hd,hb⟩:=hrel
   have gp:l.size<=19:=by
    have h1:=congrArg List.length hd.out
    have h2:=BS 19 k.toNat (by omega)
    rw[List.length_append]at h1
    have:l.data.toList.length=l.size:=by rw[Array.length_toList];rfl
    omega
   by_cases hj:0<j
   ·have hcv:∀v:Int,(convert 216 9 (.slice (some ⟨wr.heap.size,0,none⟩) 1 1)).run Tryz.prog (wr.alloc (.cells #[.int .u8 v] 5))=.ok (.string ⟨#[UInt8.ofNat v.toNat]⟩) (wr.alloc (.cells #[.int .u8 v] 5)):=by
     intro v
     rw[run_convert_bytes_string _ _ _ 5 _ _ _ Tryz.underlying216 Tryz.underlying5 Tryz.underlying9,run_bytesToString _ _ _ _ [v] (by simp[loadCells,loadCellsFrom,go_sem])]
     rfl
    have hr:=gp
    go_wp2_with fail
    go_roundw
    case rel=>
     refine⟨_,_,rfl,rfl,by omega,by omega,Lib.hid ?_,hb.alloc hb.size _⟩
     rw[<-hd.out,yM,I5 (show j.toNat≠0 by omega),show(j / 10).toNat=j.toNat / 10 by omega,show(48+j % 10).toNat=48+j.toNat % 10 by omega]
     simp
    case measure=>simp[intOf];omega
   ·go_wp2_with fail
    go_ret
    refine⟨?_,hb⟩
    have h1:=hd.out
    rw[show j.toNat=0 by omega,GU,List.nil_append]at h1
    have h2:(⟨#[109]⟩++l:ByteArray)=pq k:=by
     rw[pq,if_neg (by omega)]
     refine ByteArray.ext (Array.ext' ?_)
     rw[yM,h1]
    rw[h2];rfl
end Go.Proofs.YtkbipfflibjfbaaGreat

namespace Go.Proofs.YtkbipfflibjfbaaGreat.V
open Go.RowKit
attribute [local irreducible] ef wpOps gN Call
attribute [local go_sem] aH fJ eW fZ gh dh upd cD K.av cP AV.cells AV.cell rowOf rowsOf part ld rowAt bU cw dI ek iq bL de eD gj fq dx ew db da dW dY bR bd cU bQ cW cV er ez eu cR bV dc eo bP aL cY cI im br cH bz bc dB bo dF AV.undef bx bE dZ ej dV ec cJ eC eE cF eB eA cX cZ List.getD_cons_zero List.getD_cons_succ List.getD_nil List.all_cons List.all_nil Bool.and_true Bool.true_and Bool.and_self Bool.not_true Bool.not_false Option.map_some Option.map_none Option.bind_some Option.bind_none List.length_cons List.length_nil List.take_succ_cons List.take_zero List.take_nil List.drop_succ_cons List.drop_zero List.drop_nil List.head?_cons List.map_cons List.map_nil List.getElem?_cons_zero List.getElem?_cons_succ List.cons_append List.nil_append List.append_nil List.length_map List.set_cons_zero List.set_cons_succ Nat.reduceMul eq_self Int.toNat_natCast Int.natCast_nonneg and_self true_and and_true decide_true decide_false Bool.false_eq_true Nat.zero_add Nat.add_zero List.contains_cons List.contains_nil Bool.or_false Bool.false_or beq_self_eq_true Nat.reduceBEq ne_eq not_true_eq_false not_false_eq_true Id.mk.injEq false_and and_false Nat.reduceLT Int.reduceLE Int.reduceLT Int.reduceToNat Int.reduceNeg Int.reduceAdd Nat.le_refl List.length_append beq_true beq_false Bool.not_eq_eq_eq_not or_false false_or dM ai ao aD bt cz aY bj aV bf cL bJ
def tP (σ:ax) (ids:List Id) (g:Rows) (n:Nat):Prop:=σ.next<=n/\∀x:Id,x.cC<σ.next->x∉ids->g x=σ.get x
theorem sD (l:List (List AV)) (i:Nat) (a b:List AV):(l.set i a).set i b=l.set i b:=List.set_set ..
theorem I8 {l:List Int} {j:Nat} (h:j<l.length):(l.map aX)[j]? =some [.int .i64 l[j]]:=by simp[h,aX]
theorem Nh {P:Program} {w:World} {D:Nat->Prop} {ι:Names} {k:Int} {vs:Array Value} (h:fc P w D ι [.int .i64 k] vs):vs= #[.int .i64 k]:=by
 obtain⟨h1,h2⟩:=h
 obtain⟨u,hu,hr⟩:=h2 0 _ rfl
 rw[dn hr]at hu
 obtain⟨l⟩:=vs
 cases l with
 |nil=>simp at h1
 |cons a l=>cases l with
  |nil=>simp at hu;subst hu;rfl
  |cons b l=>simp at h1
theorem wP (k:Int) (h0:0<=k) (h1:k<=4611686018427387904):ak Tryz.prog 92 [.int .i64 k] (.str (pq k)):=
 kD (vs0:= #[.int .i64 k]) (u0:=.string (pq k)) (fun _ _ _ _=>Nh) (fun w D ι=>.eO _ _ (.str _)) (fun g=>Mg g 5 _) fun w=>AF w k h0 h1
theorem ER (i:Id) (l:List Int) (k:Int) (h0:0<=k) (h1:k+l.length<=4611686018427387904) (σ:ax) (hv:i.cC<σ.next) (hg:σ.get i=some ⟨true,1,l.map aX⟩):
  Call Tryz.prog 93 [.own i 0 l.length,.int .i64 k] σ (fun r σ'=>r=.int .i64 (k+l.length)/\tP σ [i] σ'.get σ'.next):=by
 refine fj eM rfl fun hl=>?_
 clear hl
 obtain⟨nn,hn⟩:∃nn,l.length=nn:=⟨_,rfl⟩
 rw[hn]at h1 ⊢
 (try((repeat(revert hN;revert N;apply Pn.out));refine wk @Nat.zero_add ?_;(repeat(refine Pn.mk ?_;intro N hN))))
 refine aT (fun n env st=>∃j:Nat,n=(nn)-j/\j<=(nn)/\env 5=.int .i64 (j:Int)/\env 1=.int .i64 (k+j)/\(tP σ [i] st.get st.next/\∃l':List Int,l'.length=nn/\st.get i=some ⟨true,1,l'.map aX⟩)) (nn) ⟨0,ae,ae,sl (tw @Int.add_zero @Int.natCast_zero),sl (tw @Int.add_zero @Int.natCast_zero),by(try dsimp only);exact⟨⟨bW,fun x _ _=>rfl⟩,l,hn,hg⟩⟩ ?_
 rintro n_a env_a st_a ⟨j,rfl,ale,a5,a1,kB⟩ dr
 have a0:=dr 0 (by kernel_rfl)
 simp only[go_sem, ↓reduceIte,Nat.reduceEqDiff,Nat.reduceAdd,Nat.reduceSub,Nat.reduceLeDiff,reduceCtorEq,Int.add_zero,Int.natCast_zero]at a0
 clear dr
 obtain⟨⟨an,aF⟩,l',al,ag⟩:=kB
 by_cases hj:(j:Int)<(nn:Int)
 ·have bZ:∀{e:Env} {gg:Rows} {nx:Nat},(e 5=.int .i64 (IntKind.i64.wrap ((j:Int)+1)))->(e 1=.int .i64 (k+(j+1)))->(tP σ [i] gg nx/\∃l':List Int,l'.length=nn/\gg i=some ⟨true,1,l'.map aX⟩)->∃m0,m0<(nn)-j/\∃j:Nat,m0=(nn)-j/\j<=(nn)/\e 5=.int .i64 (j:Int)/\e 1=.int .i64 (k+j)/\(tP σ [i] gg nx/\∃l':List Int,l'.length=nn/\gg i=some ⟨true,1,l'.map aX⟩):=fun x1 x2 x3=>⟨_,ae,j+1,rfl,ae,(by rw[x1,aB ae]),x2,x3⟩
  have jI:j<l'.length:=ae
  have eQ:=I8 jI
  have ei:(l'.map aX).set j [.int .i64 (k+j)]=(l'.set j (k+j)).map aX:=by rw[List.map_set];rfl
  have hw:IntKind.i64.wrap (k+(j:Int)+1)=k+((j:Int)+1):=by rw[aJ ae];omega
  (try((repeat(revert hN;revert N;apply Pn.out));refine wk (tw @a5 (tw @a1 (tw @a0 (tw @hj (tw @ag (tw @eQ (tw @ei @hw))))))) ?_;(repeat(refine Pn.mk ?_;intro N hN))))
  refine bZ ?_ ?_ (by(try dsimp only);exact⟨⟨bW,fun x hx hi=>by
   have h2:=aF x hx hi
   have h3:(x=i)=False:=eq_false fun e=>hi (by simp[e])
   simp only[go_sem, ↓reduceIte,Nat.reduceEqDiff,Nat.reduceAdd,Nat.reduceSub,Nat.reduceLeDiff,reduceCtorEq,h2,h3]⟩,l'.set j (k+j),by simp[al],sl @Nat.zero_add⟩)
  all_goals simp only[go_sem, ↓reduceIte,Nat.reduceEqDiff,Nat.reduceAdd,Nat.reduceSub,Nat.reduceLeDiff,reduceCtorEq,a5,a1,a0,hw]
 ·have jI:j=nn:=ae
  subst jI
  (try((repeat(revert hN;revert N;apply Pn.out));refine wk (tw @a5 (tw @a1 (tw @a0 @hj))) ?_;(repeat(refine Pn.mk ?_;intro N hN))))
  exact gJ (.inl rfl) (vs:=[.int .i64 (k+j)]) (sd (tw @a5 (tw @a1 @a0))) ⟨rfl,⟨bW,fun x hx hi=>aF x hx hi⟩⟩
def Bk (k:Int) (n:Nat):List ah:=(List.range n).map fun j:Nat=>⟨⟨k+3*(j:Int),k+3*(j:Int)+1⟩,k+3*(j:Int)+2⟩
theorem jh (k:Int) (n:Nat):(Bk k n).length=n:=by simp[Bk]
theorem Kb (k:Int) (n:Nat):Bk k (n+1)=Bk k n++[⟨⟨k+3*(n:Int),k+3*(n:Int)+1⟩,k+3*(n:Int)+2⟩]:=by simp[Bk,List.range_succ]
def j8 (k:Int) (l:List ah) (j:Nat):List ah:=Bk k j++l.drop j
theorem CN {k:Int} {l:List ah} {j:Nat} (h:j<=l.length):(j8 k l j).length=l.length:=by simp[j8,jh];omega
theorem F8 {k:Int} {l:List ah} {j:Nat} (h:j<l.length):((j8 k l j).map ab)[j]? =some [.int .i64 l[j].bw.dQ,.int .i64 l[j].bw.dH,.int .i64 l[j].bY]:=by
 rw[List.getElem?_map,j8,List.getElem?_append_right (by rw[jh];omega),jh,Nat.sub_self,List.getElem?_drop,Nat.add_zero,List.getElem?_eq_getElem h];rfl
theorem CO {k:Int} {l:List ah} {j:Nat} (h:j<l.length):((j8 k l j).map ab).set j [.int .i64 (k+3*(j:Int)),.int .i64 (k+3*(j:Int)+1),.int .i64 (k+3*(j:Int)+2)]=(j8 k l (j+1)).map ab:=by
 have:(j8 k l j).set j ⟨⟨k+3*(j:Int),k+3*(j:Int)+1⟩,k+3*(j:Int)+2⟩=j8 k l (j+1):=by
  rw[j8,List.set_append_right _ _ (by rw[jh];omega),jh,Nat.sub_self,List.drop_eq_getElem_cons h,List.set_cons_zero,j8,Kb,List.append_assoc];rfl
 rw[<-this,List.map_set];rfl
theorem AE (i:Id) (l:List ah) (k:Int) (h0:0<=k) (h1:k+3*l.length<=4611686018427387904) (σ:ax) (hv:i.cC<σ.next) (hg:σ.get i=some ⟨true,3,l.map ab⟩):
  Call Tryz.prog 45 [.own i 0 l.length,.int .i64 k] σ (fun r σ'=>r=.int .i64 (k+3*l.length)/\tP σ [i] σ'.get σ'.next/\σ'.get i=some ⟨true,3,(Bk k l.length).map ab⟩):=by
 refine fj eM rfl fun hl=>?_
 clear hl
 have hz:j8 k l 0=l:=by simp[j8,Bk]
 (try((repeat(revert hN;revert N;apply Pn.out));refine wk @Nat.zero_add ?_;(repeat(refine Pn.mk ?_;intro N hN))))
 refine aT (fun n env st=>∃j:Nat,n=(l.length)-j/\j<=(l.length)/\env 5=.int .i64 (j:Int)/\env 1=.int .i64 (k+3*j)/\st.get i=some ⟨true,3,(j8 k l j).map ab⟩/\(tP σ [i] st.get st.next)) (l.length) ⟨0,ae,ae,sl (tw @Int.add_zero (tw @Int.natCast_zero (tw @Int.mul_zero (tw @hz @hg)))),sl (tw @Int.add_zero (tw @Int.natCast_zero (tw @Int.mul_zero (tw @hz @hg)))),sl (tw @Int.add_zero (tw @Int.natCast_zero (tw @Int.mul_zero (tw @hz @hg)))),by(try dsimp only);exact⟨bW,fun x _ _=>rfl⟩⟩ ?_
 rintro n_a env_a st_a ⟨j,rfl,ale,a5,a1,ag0,kB⟩ dr
 have a0:=dr 0 (by kernel_rfl)
 simp only[go_sem, ↓reduceIte,Nat.reduceEqDiff,Nat.reduceAdd,Nat.reduceSub,Nat.reduceLeDiff,reduceCtorEq,Int.add_zero,Int.natCast_zero,Int.mul_zero,hz,hg]at a0
 clear dr
 obtain⟨an,aF⟩:=kB
 by_cases hj:(j:Int)<(l.length:Int)
 ·have bZ:∀{e:Env} {gg:Rows} {nx:Nat},(e 5=.int .i64 (IntKind.i64.wrap ((j:Int)+1)))->(e 1=.int .i64 (k+3*(j+1)))->(gg i=some ⟨true,3,(j8 k l (j+1)).map ab⟩)->(tP σ [i] gg nx)->∃m0,m0<(l.length)-j/\∃j:Nat,m0=(l.length)-j/\j<=(l.length)/\e 5=.int .i64 (j:Int)/\e 1=.int .i64 (k+3*j)/\gg i=some ⟨true,3,(j8 k l j).map ab⟩/\(tP σ [i] gg nx):=fun x1 x2 x3 x4=>⟨_,ae,j+1,rfl,ae,(by rw[x1,aB ae]),x2,x3,x4⟩
  have jI:j<l.length:=ae
  have eQ:=F8 (k:=k) jI
  have ei:=CO (k:=k) jI
  have pR:IntKind.i64.wrap (k+3*(j:Int)+1)=k+3*(j:Int)+1:=aJ ae
  have x9:IntKind.i64.wrap (k+3*(j:Int)+1+1)=k+3*(j:Int)+2:=by rw[aJ ae];omega
  have JQ:IntKind.i64.wrap (k+3*(j:Int)+2+1)=k+3*((j:Int)+1):=by rw[aJ ae];omega
  have hlen:((j8 k l j).map ab).length=l.length:=by rw[List.length_map,CN ae]
  have Jy:∀c:List AV,(((j8 k l j).map ab).set j c)[j]? =some c:=fun c=>by rw[List.getElem?_set_self (by rw[hlen];exact jI)]
  (try((repeat(revert hN;revert N;apply Pn.out));refine wk (tw @a5 (tw @a1 (tw @ag0 (tw @a0 (tw @hj (tw @eQ (tw @Jy (tw @ei (tw @pR (tw @x9 (tw @JQ (tw @hlen @sD)))))))))))) ?_;(repeat(refine Pn.mk ?_;intro N hN))))
  refine bZ ?_ ?_ ?_ (by(try dsimp only);exact⟨bW,fun x hx hi=>by
   have h2:=aF x hx hi
   have h3:(x=i)=False:=eq_false fun e=>hi (by simp[e])
   simp only[go_sem, ↓reduceIte,Nat.reduceEqDiff,Nat.reduceAdd,Nat.reduceSub,Nat.reduceLeDiff,reduceCtorEq,h2,h3]⟩)
  all_goals simp only[go_sem, ↓reduceIte,Nat.reduceEqDiff,Nat.reduceAdd,Nat.reduceSub,Nat.reduceLeDiff,reduceCtorEq,a5,a1,ag0,a0,JQ,ei]
 ·have jI:j=l.length:=ae
  subst jI
  (try((repeat(revert hN;revert N;apply Pn.out));refine wk (tw @a5 (tw @a1 (tw @ag0 (tw @a0 @hj)))) ?_;(repeat(refine Pn.mk ?_;intro N hN))))
  have k7:j8 k l l.length=Bk k l.length:=by simp[j8]
  rw[k7]at ag0
  exact gJ (.inl rfl) (vs:=[.int .i64 (k+3*l.length)]) (sd (tw @a5 (tw @a1 (tw @ag0 @a0)))) ⟨rfl,⟨bW,fun x hx hi=>aF x hx hi⟩,ag0⟩
theorem CH (i:Id) (l:List fM) (k:Int) (h0:0<=k) (h1:k+2*l.length<=4611686018427387904) (σ:ax) (hv:i.cC<σ.next) (hg:σ.get i=some ⟨true,2,l.map bI⟩):
  Call Tryz.prog 43 [.own i 0 l.length,.int .i64 k] σ (fun r σ'=>r=.int .i64 (k+2*l.length)/\tP σ [i] σ'.get σ'.next):=by
 refine fj eM rfl fun hl=>?_
 clear hl
 obtain⟨nn,hn⟩:∃nn,l.length=nn:=⟨_,rfl⟩
 rw[hn]at h1 ⊢
 (try((repeat(revert hN;revert N;apply Pn.out));refine wk @Nat.zero_add ?_;(repeat(refine Pn.mk ?_;intro N hN))))
 refine aT (fun n env st=>∃j:Nat,n=(nn)-j/\j<=(nn)/\env 5=.int .i64 (j:Int)/\env 1=.int .i64 (k+2*j)/\(tP σ [i] st.get st.next/\∃l':List fM,l'.length=nn/\st.get i=some ⟨true,2,l'.map bI⟩)) (nn) ⟨0,ae,ae,sl (tw @Int.add_zero (tw @Int.natCast_zero @Int.mul_zero)),sl (tw @Int.add_zero (tw @Int.natCast_zero @Int.mul_zero)),by(try dsimp only);exact⟨⟨bW,fun x _ _=>rfl⟩,l,hn,hg⟩⟩ ?_
 rintro n_a env_a st_a ⟨j,rfl,ale,a5,a1,kB⟩ dr
 have a0:=dr 0 (by kernel_rfl)
 simp only[go_sem, ↓reduceIte,Nat.reduceEqDiff,Nat.reduceAdd,Nat.reduceSub,Nat.reduceLeDiff,reduceCtorEq,Int.add_zero,Int.natCast_zero,Int.mul_zero]at a0
 clear dr
 obtain⟨⟨an,aF⟩,l',al,ag⟩:=kB
 by_cases hj:(j:Int)<(nn:Int)
 ·have bZ:∀{e:Env} {gg:Rows} {nx:Nat},(e 5=.int .i64 (IntKind.i64.wrap ((j:Int)+1)))->(e 1=.int .i64 (k+2*(j+1)))->(tP σ [i] gg nx/\∃l':List fM,l'.length=nn/\gg i=some ⟨true,2,l'.map bI⟩)->∃m0,m0<(nn)-j/\∃j:Nat,m0=(nn)-j/\j<=(nn)/\e 5=.int .i64 (j:Int)/\e 1=.int .i64 (k+2*j)/\(tP σ [i] gg nx/\∃l':List fM,l'.length=nn/\gg i=some ⟨true,2,l'.map bI⟩):=fun x1 x2 x3=>⟨_,ae,j+1,rfl,ae,(by rw[x1,aB ae]),x2,x3⟩
  have jI:j<l'.length:=ae
  have eQ:(l'.map bI)[j]? =some [.str l'[j].aE,.int .i64 l'[j].eP]:=by simp[jI,bI]
  have hlen:(l'.map bI).length=nn:=by rw[List.length_map,al]
  have Jy:∀c:List AV,((l'.map bI).set j c)[j]? =some c:=fun c=>by rw[List.getElem?_set_self (by rw[List.length_map];exact jI)]
  have ht:=wP (k+2*(j:Int)) ae ae
  have pR:IntKind.i64.wrap (k+2*(j:Int)+1)=k+2*(j:Int)+1:=aJ ae
  have x9:IntKind.i64.wrap (k+2*(j:Int)+1+1)=k+2*((j:Int)+1):=by rw[aJ ae];omega
  generalize pq (k+2*(j:Int))=mt at ht
  have ei:(l'.map bI).set j [.str mt,.int .i64 (k+2*(j:Int)+1)]=(l'.set j ⟨mt,k+2*(j:Int)+1⟩).map bI:=by rw[List.map_set];rfl
  (repeat(first|((repeat(revert hN;revert N;apply Pn.out));refine wk (tw @a5 (tw @a1 (tw @a0 (tw @hj (tw @ag (tw @eQ (tw @Jy (tw @ei (tw @pR (tw @x9 (tw @hlen @sD))))))))))) ?_;(repeat(refine Pn.mk ?_;intro N hN)))|((try apply Or.inl);refine⟨_,ak.x (ht) (sd (tw @a5 (tw @a1 (tw @a0 (tw @hj (tw @ag (tw @eQ (tw @Jy (tw @ei (tw @pR (tw @x9 (tw @hlen @sD)))))))))))),?_⟩;refine hN _ _ ?_;clear hN N)))
  refine bZ ?_ ?_ (by(try dsimp only);exact⟨⟨bW,fun x hx hi=>by
   have h2:=aF x hx hi
   have h3:(x=i)=False:=eq_false fun e=>hi (by simp[e])
   simp only[go_sem, ↓reduceIte,Nat.reduceEqDiff,Nat.reduceAdd,Nat.reduceSub,Nat.reduceLeDiff,reduceCtorEq,h2,h3]⟩,l'.set j ⟨mt,k+2*(j:Int)+1⟩,by simp[al],sl @Nat.zero_add⟩)
  all_goals simp only[go_sem, ↓reduceIte,Nat.reduceEqDiff,Nat.reduceAdd,Nat.reduceSub,Nat.reduceLeDiff,reduceCtorEq,a5,a1,a0,x9,ei]
 ·have jI:j=nn:=ae
  subst jI
  (try((repeat(revert hN;revert N;apply Pn.out));refine wk (tw @a5 (tw @a1 (tw @a0 @hj))) ?_;(repeat(refine Pn.mk ?_;intro N hN))))
  exact gJ (.inl rfl) (vs:=[.int .i64 (k+2*j)]) (sd (tw @a5 (tw @a1 @a0))) ⟨rfl,⟨bW,fun x hx hi=>aF x hx hi⟩⟩
theorem iQ.flat {α:Type} {e:α->List AV} {z:Nat} {g:Rows} {a:AV} {xs:List α} {ids:List Id} (h:iQ (l7 e) z g a xs ids):∃o,a=.own o 0 xs.length/\g o=some ⟨true,z,xs.map e⟩/\ids=[o]:=by
 obtain⟨o,rows,is,h1,h2,h3,rfl⟩:=h
 have:∀{rows:List (List AV)} {xs:List α} {is:List Id},eT (l7 e) g rows xs is->rows=xs.map e/\is=[]:=fun h=>by
  induction h with
  |nil=>exact⟨rfl,rfl⟩
  |cons h1 _ ih=>obtain⟨rfl,rfl⟩:=h1;obtain⟨rfl,rfl⟩:=ih;exact⟨rfl,rfl⟩
 obtain⟨rfl,rfl⟩:=this h3
 exact⟨o,h1,h2,rfl⟩
def gP (t:fb):Nat:=1+t.bD.length
theorem CI (a:AV) (l:List fb) (ids:List Id) (k:Int) (h0:0<=k) (Cf:l.length<=1048576) (h1:k+(l.map gP).sum<=4611686018427387904) (σ:ax) (hv:∀i∈ids,i.cC<σ.next) (kZ:ids.Nodup) (hg:iQ oU 2 σ.get a l ids):
  Call Tryz.prog 44 [a,.int .i64 k] σ (fun r σ'=>r=.int .i64 (k+(l.map gP).sum)/\tP σ ids σ'.get σ'.next):=by
 obtain⟨o,rows,is,rfl,ho,hR,rfl⟩:=hg
 refine fj eM rfl fun hl=>?_
 clear hl
 have r9:=hv o (by simp)
 have Oe:=nC gP l
 (try((repeat(revert hN;revert N;apply Pn.out));refine wk @Nat.zero_add ?_;(repeat(refine Pn.mk ?_;intro N hN))))
 refine aT (fun n env st=>∃j:Nat,n=(l.length)-j/\j<=(l.length)/\env 5=.int .i64 (j:Int)/\env 1=.int .i64 (k+jr gP l j)/\(tP σ (o::is) st.get st.next/\∃pre rest ir,st.get o=some ⟨true,2,pre++rest⟩/\pre.length=j/\eT oU st.get rest (l.drop j) ir/\(o::ir).Nodup/\∀i∈ir,i∈is)) (l.length) ⟨0,ae,ae,sl (tw @Int.add_zero (tw @Int.natCast_zero @Oe)),sl (tw @Int.add_zero (tw @Int.natCast_zero @Oe)),by(try dsimp only);exact⟨⟨bW,fun x _ _=>rfl⟩,[],rows,is,ho,rfl,hR,kZ,fun _ h=>h⟩⟩ ?_
 rintro n_a env_a st_a ⟨j,rfl,ale,a5,a1,kB⟩ dr
 have a0:=dr 0 (by kernel_rfl)
 simp only[go_sem, ↓reduceIte,Nat.reduceEqDiff,Nat.reduceAdd,Nat.reduceSub,Nat.reduceLeDiff,reduceCtorEq,Int.add_zero,Int.natCast_zero,Oe]at a0
 clear dr
 obtain⟨⟨an,aF⟩,pre,rest,ir,ag,apl,aR,aN,aS⟩:=kB
 by_cases hj:(j:Int)<(l.length:Int)
 ·have bZ:∀{e:Env} {gg:Rows} {nx:Nat},(e 5=.int .i64 (IntKind.i64.wrap ((j:Int)+1)))->(e 1=.int .i64 (k+jr gP l (j+1)))->(tP σ (o::is) gg nx/\∃pre rest ir,gg o=some ⟨true,2,pre++rest⟩/\pre.length=(j+1)/\eT oU gg rest (l.drop (j+1)) ir/\(o::ir).Nodup/\∀i∈ir,i∈is)->∃m0,m0<(l.length)-j/\∃j:Nat,m0=(l.length)-j/\j<=(l.length)/\e 5=.int .i64 (j:Int)/\e 1=.int .i64 (k+jr gP l j)/\(tP σ (o::is) gg nx/\∃pre rest ir,gg o=some ⟨true,2,pre++rest⟩/\pre.length=j/\eT oU gg rest (l.drop j) ir/\(o::ir).Nodup/\∀i∈ir,i∈is):=fun x1 x2 x3=>⟨_,ae,j+1,rfl,ae,(by rw[x1,aB ae]),x2,x3⟩
  have jI:j<l.length:=ae
  have P3:=xn gP jI
  have hle:=qI gP l (j+1)
  obtain⟨t,htj⟩:∃t,l[j]=t:=⟨_,rfl⟩
  rw[List.drop_eq_getElem_cons jI,htj]at aR
  rw[htj]at P3
  cases aR with
  | @cons cs _ ic rs _ i2 hT Ej=>
  obtain⟨i,rfl,hi,rfl⟩:=hT
  rw[List.singleton_append]at aN aS
  obtain⟨n1,n2⟩:=List.nodup_cons.1 aN
  obtain⟨n3,n4⟩:=List.nodup_cons.1 n2
  have Rm:(o=i)=False:=eq_false fun e=>n1 (by simp[e])
  have Rh:(i=o)=False:=eq_false fun e=>n1 (by simp[e])
  have hiv:i.cC<σ.next:=hv i (by simp[aS i (by simp)])
  have SX:gP t=1+t.bD.length:=rfl
  have ht:=wP (k+(jr gP l j:Nat)) ae ae
  have pR:IntKind.i64.wrap (k+(jr gP l j:Nat)+1)=k+(jr gP l j:Nat)+1:=aJ ae
  generalize pq (k+(jr gP l j:Nat))=mt at ht
  have eQ:(pre++[.str t.aE,.own i 0 t.bD.length]::rs)[j]? =some [.str t.aE,.own i 0 t.bD.length]:=by subst apl;simp
  have ei:(pre++[.str t.aE,.own i 0 t.bD.length]::rs).set j [.str mt,.own i 0 t.bD.length]=pre++[.str mt,.own i 0 t.bD.length]::rs:=by subst apl;simp
  have N6:(pre++[.str mt,.own i 0 t.bD.length]::rs)[j]? =some [.str mt,.own i 0 t.bD.length]:=by subst apl;simp
  (repeat(first|((repeat(revert hN;revert N;apply Pn.out));refine wk (tw @a5 (tw @a1 (tw @a0 (tw @hj (tw @ag (tw @eQ (tw @ei (tw @N6 (tw @pR (tw @Rm (tw @Rh @hi))))))))))) ?_;(repeat(refine Pn.mk ?_;intro N hN)))|((try apply Or.inl);refine⟨_,ak.x (ht) (sd (tw @a5 (tw @a1 (tw @a0 (tw @hj (tw @ag (tw @eQ (tw @ei (tw @N6 (tw @pR (tw @Rm (tw @Rh @hi)))))))))))),?_⟩;refine hN _ _ ?_;clear hN N)))
  refine .inr (aU _ _ _ _ _ (fun r σ1 hq=>?_) (ER i t.bD (k+(jr gP l j:Nat)+1) ae ae _ bW (sd (tw @Rm (tw @Rh @hi)))))
  obtain⟨g1,x1⟩:=σ1
  obtain⟨rfl,xH,tn⟩:=hq
  (try dsimp only at xH tn)
  refine hN _ _ ?_
  clear hN N
  have Lt:k+(jr gP l j:Nat)+1+t.bD.length=k+(jr gP l (j+1):Nat):=ae
  (try((repeat(revert hN;revert N;apply Pn.out));refine wk (tw @a5 (tw @a1 (tw @a0 @Lt))) ?_;(repeat(refine Pn.mk ?_;intro N hN))))
  have gk:∀x:Id,x.cC<σ.next->x≠o->x≠i->g1 x=st_a.get x:=fun x hx h3 h4=>by
   have h2:=tn x bW (by simp[h4])
   have h5:=eq_false h3
   simp only[go_sem, ↓reduceIte,Nat.reduceEqDiff,Nat.reduceAdd,Nat.reduceSub,Nat.reduceLeDiff,reduceCtorEq,h5]at h2
   exact h2
  have go:=tn o bW (by simp only[List.mem_singleton];exact fun e=>n1 (by simp[e]))
  simp only[go_sem, ↓reduceIte,Nat.reduceEqDiff,Nat.reduceAdd,Nat.reduceSub,Nat.reduceLeDiff,reduceCtorEq]at go
  refine bZ ?_ ?_ (by(try dsimp only);exact⟨⟨bW,fun x hx hi=>by
   have h3:x≠o:=fun e=>hi (by simp[e])
   have h4:x≠i:=fun e=>hi (by simp[e,aS i (by simp)])
   rw[gk x hx h3 h4]
   exact aF x hx hi⟩,pre++[[.str mt,.own i 0 t.bD.length]],rs,i2,by rw[go];simp,by simp[apl],Ej.frame rE (fun x hx=>gk x (hv x (by simp[aS x (by simp[hx])])) (fun e=>n1 (by simp[<-e,hx])) (fun e=>n3 (by rw[<-e];exact hx))),List.nodup_cons.2 ⟨fun h=>n1 (by simp[h]),n4⟩,fun x hx=>aS x (by simp[hx])⟩)
  all_goals simp only[go_sem, ↓reduceIte,Nat.reduceEqDiff,Nat.reduceAdd,Nat.reduceSub,Nat.reduceLeDiff,reduceCtorEq,a5,a1,a0,Lt]
 ·have jI:j=l.length:=ae
  subst jI
  have dz:=C7 gP l
  rw[dz]at a1
  (try((repeat(revert hN;revert N;apply Pn.out));refine wk (tw @a5 (tw @a1 (tw @a0 @hj))) ?_;(repeat(refine Pn.mk ?_;intro N hN))))
  exact gJ (.inl rfl) (vs:=[.int .i64 (k+(l.map gP).sum)]) (sd (tw @a5 (tw @a1 @a0))) ⟨rfl,⟨bW,fun x hx hi=>aF x hx hi⟩⟩
theorem zj (v:AV) (p:dD) (ids:List Id) (k:Int) (h0:0<=k) (h1:k+3*p.aj.length<=4611686018427387904) (σ:ax) (hv:∀i∈ids,i.cC<σ.next) (hg:zD σ.get v p ids):
  Call Tryz.prog 15 [v,.int .i64 k] σ (fun r σ'=>r=.int .i64 (k+3*p.aj.length)/\tP σ ids σ'.get σ'.next):=by
 obtain⟨c,rfl,hc⟩:=hg
 obtain⟨o,rfl,ho,rfl⟩:=hc.flat
 refine fj eM rfl fun hl=>?_
 clear hl
 have r9:=eX (hv o (by simp))
 have My:=hv o (by simp)
 (try((repeat(revert hN;revert N;apply Pn.out));refine wk @Nat.zero_add ?_;(repeat(refine Pn.mk ?_;intro N hN))))
 refine .inr (aU _ _ _ _ _ (fun r σ1 hq=>?_) (AE o p.aj k h0 h1 _ bW (sd (tw @r9 @ho))))
 obtain⟨g1,x1⟩:=σ1
 obtain⟨rfl,⟨xH,tn⟩,_⟩:=hq
 (try dsimp only at xH tn)
 refine hN _ _ ?_
 clear hN N
 (try((repeat(revert hN;revert N;apply Pn.out));refine wk @Nat.zero_add ?_;(repeat(refine Pn.mk ?_;intro N hN))))
 exact gJ (.inl rfl) (vs:=[.int .i64 (k+3*p.aj.length)]) (sd @Nat.zero_add) ⟨rfl,⟨bW,fun x hx hi=>by
  have h2:=tn x bW hi
  have h3:=eX hx
  simp only[go_sem, ↓reduceIte,Nat.reduceEqDiff,Nat.reduceAdd,Nat.reduceSub,Nat.reduceLeDiff,reduceCtorEq,h3]at h2
  exact h2⟩⟩
def CG (s:cj):Nat:=2*s.aC.az.length+(s.aC.aj.map gP).sum+3*s.cq.aj.length
theorem HA (a b:AV) (p:aw) (i1 i2:List Id) (k:Int) (h0:0<=k) (Cf:p.aj.length<=1048576) (h1:k+2*p.az.length+(p.aj.map gP).sum<=4611686018427387904) (σ:ax) (hv:∀i∈i1++i2,i.cC<σ.next) (kZ:(i1++i2).Nodup)
  (hA:iQ (l7 bI) 2 σ.get a p.az i1) (hB:iQ oU 2 σ.get b p.aj i2):
  Call Tryz.prog 14 [.agg [a,b],.int .i64 k] σ (fun r σ'=>r=.int .i64 (k+2*p.az.length+(p.aj.map gP).sum)/\tP σ (i1++i2) σ'.get σ'.next):=by
 obtain⟨_,n2,n3⟩:=List.nodup_append.1 kZ
 obtain⟨o,rfl,ho,rfl⟩:=hA.flat
 obtain⟨ob,rfl⟩:=hB.lG
 refine fj eM rfl fun hl=>?_
 clear hl
 have My:=hv o (by simp)
 have r9:=eX My
 (try((repeat(revert hN;revert N;apply Pn.out));refine wk @Nat.zero_add ?_;(repeat(refine Pn.mk ?_;intro N hN))))
 refine .inr (aU _ _ _ _ _ (fun r σ1 hq=>?_) (CH o p.az k h0 ae _ bW (sd (tw @r9 @ho))))
 obtain⟨g1,x1⟩:=σ1
 obtain⟨rfl,xH,tn⟩:=hq
 (try dsimp only at xH tn)
 refine hN _ _ ?_
 clear hN N
 have k1:=tn ⟨14000000,σ.next⟩ bW (by simp only[List.mem_singleton];intro e;rw[<-e]at My;(try dsimp only at My);omega)
 simp only[go_sem, ↓reduceIte,Nat.reduceEqDiff,Nat.reduceAdd,Nat.reduceSub,Nat.reduceLeDiff,reduceCtorEq]at k1
 (try((repeat(revert hN;revert N;apply Pn.out));refine wk @k1 ?_;(repeat(refine Pn.mk ?_;intro N hN))))
 have hf:∀x:Id,x.cC<σ.next->x≠o->g1 x=σ.get x:=fun x hx ho=>by
  have h2:=tn x bW (by simp[ho])
  have h3:=eX hx
  simp only[go_sem, ↓reduceIte,Nat.reduceEqDiff,Nat.reduceAdd,Nat.reduceSub,Nat.reduceLeDiff,reduceCtorEq,h3]at h2
  exact h2
 refine .inr (aU _ _ _ _ _ (fun r σ2 hq=>?_) (CI _ p.aj i2 (k+2*p.az.length) ae Cf h1 _ (fun i hi=>by have:=hv i (by simp[hi]);(try dsimp only);omega) n2 (hB.frame rE fun i hi=>hf i (hv i (by simp[hi])) fun e=>n3 o (by simp) i hi e.symm)))
 obtain⟨g2,x2⟩:=σ2
 obtain⟨rfl,He,Ip⟩:=hq
 (try dsimp only at He Ip)
 refine hN _ _ ?_
 clear hN N
 (try((repeat(revert hN;revert N;apply Pn.out));refine wk @Nat.zero_add ?_;(repeat(refine Pn.mk ?_;intro N hN))))
 exact gJ (.inl rfl) (vs:=[.int .i64 (k+2*p.az.length+(p.aj.map gP).sum)]) (sd @Nat.zero_add) ⟨rfl,⟨bW,fun x hx hi=>(Ip x bW fun h=>hi (by simp[h])).trans (hf x hx fun e=>hi (by simp[e]))⟩⟩
theorem HB (v:AV) (p:cj) (ids:List Id) (k:Int) (h0:0<=k) (Cf:p.aC.aj.length<=1048576) (h1:k+CG p<=4611686018427387904) (σ:ax) (hv:∀i∈ids,i.cC<σ.next) (kZ:ids.Nodup) (hg:Bp σ.get v p ids):
  Call Tryz.prog 24 [v,.int .i64 k] σ (fun r σ'=>r=.int .i64 (k+CG p)/\tP σ ids σ'.get σ'.next):=by
 obtain⟨a,b,c,i1,i2,i3,rfl,hA,hB,hC,rfl⟩:=hg.ex
 rw[<-List.append_assoc]at kZ
 obtain⟨n1,_,n3⟩:=List.nodup_append.1 kZ
 obtain⟨oa,rfl⟩:=hA.lG
 obtain⟨ob,rfl⟩:=hB.lG
 obtain⟨oc,rfl⟩:=hC.lG
 have hm:(CG p:Int)=2*p.aC.az.length+(p.aC.aj.map gP).sum+3*p.cq.aj.length:=by simp[CG]
 refine fj eM rfl fun hl=>?_
 clear hl
 have U5:∀x∈i1++(i2++i3),bU σ.get ⟨24000000,σ.next⟩ ⟨true,4,[[.own oa 0 p.aC.az.length,.own ob 0 p.aC.aj.length,.own oc 0 p.cq.aj.length,.int .i64 p.au]]⟩ x=σ.get x:=fun x hx=>by
  have:=eX (hv x hx)
  simp only[go_sem, ↓reduceIte,Nat.reduceEqDiff,Nat.reduceAdd,Nat.reduceSub,Nat.reduceLeDiff,reduceCtorEq,this]
 (try((repeat(revert hN;revert N;apply Pn.out));refine wk @Nat.zero_add ?_;(repeat(refine Pn.mk ?_;intro N hN))))
 refine .inr (aU _ _ _ _ _ (fun r σ1 hq=>?_) (HA _ _ p.aC i1 i2 k h0 Cf ae _ (fun i hi=>by have:=hv i (by rcases List.mem_append.1 hi with h|h<;>simp[h]);(try dsimp only);omega) n1 (hA.frame B4 fun i hi=>U5 i (by simp[hi])) (hB.frame rE fun i hi=>U5 i (by simp[hi]))))
 obtain⟨g1,x1⟩:=σ1
 obtain⟨rfl,xH,tn⟩:=hq
 (try dsimp only at xH tn)
 refine hN _ _ ?_
 clear hN N
 have k1:=tn ⟨24000000,σ.next⟩ bW (fun h=>by
  have:=hv ⟨24000000,σ.next⟩ (by rcases List.mem_append.1 h with h|h<;>simp[h])
  (try dsimp only at this);omega)
 simp only[go_sem, ↓reduceIte,Nat.reduceEqDiff,Nat.reduceAdd,Nat.reduceSub,Nat.reduceLeDiff,reduceCtorEq]at k1
 (try((repeat(revert hN;revert N;apply Pn.out));refine wk @k1 ?_;(repeat(refine Pn.mk ?_;intro N hN))))
 refine .inr (aU _ _ _ _ _ (fun r σ2 hq=>?_) (zj _ p.cq i3 (k+2*p.aC.az.length+(p.aC.aj.map gP).sum) ae ae _ (fun i hi=>by have:=hv i (by simp[hi]);(try dsimp only);omega) ⟨_,rfl,hC.frame yP fun i hi=>?_⟩))
 rotate_left
 ·exact(tn i (by have:=hv i (by simp[hi]);(try dsimp only);omega) fun h=>n3 i h i hi rfl).trans (U5 i (by simp[hi]))
 obtain⟨g2,x2⟩:=σ2
 obtain⟨rfl,He,Ip⟩:=hq
 (try dsimp only at He Ip)
 refine hN _ _ ?_
 clear hN N
 (try((repeat(revert hN;revert N;apply Pn.out));refine wk @Nat.zero_add ?_;(repeat(refine Pn.mk ?_;intro N hN))))
 exact gJ (.inl rfl) (vs:=[.int .i64 (k+2*p.aC.az.length+(p.aC.aj.map gP).sum+3*p.cq.aj.length)]) (sd @Nat.zero_add) ⟨by rw[hm];exact congrArg (AV.int .i64) ae,⟨bW,fun x hx hi=>by
  have h2:=Ip x bW fun h=>hi (by simp[h])
  have h3:=tn x bW fun h=>hi (by rcases List.mem_append.1 h with h|h<;>simp[h])
  have h4:=eX hx
  simp only[go_sem, ↓reduceIte,Nat.reduceEqDiff,Nat.reduceAdd,Nat.reduceSub,Nat.reduceLeDiff,reduceCtorEq,h4]at h3
  exact h2.trans h3⟩⟩
end Go.Proofs.YtkbipfflibjfbaaGreat.V

namespace Go.Proofs.YtkbipfflibjfbaaGreat.V
open Go.RowKit
def AV.clean:AV->Bool
 | .int .. | .bool _| .str _| .ck| .iI| .jX| .j9| .own .. | .ptr .. | .map .. | .s8 _=>true
 | .sl l=>l.isEmpty
 |_=>false
def AV.s9:AV->Bool
 | .agg cs=>cs.all AV.clean
 | .iJ cs=>cs.all fun a=>match a with
  | .agg cs=>cs.all AV.clean
  |a=>a.clean
 |a=>a.clean
def zx (ids:List Id) (g g':Rows):Rows:=fun id=>if id∈ids then g' id else g id
theorem xt {ids:List Id} {g g':Rows} {id:Id} (h:id∈ids):zx ids g g' id=g' id:=if_pos h
theorem tN {ids:List Id} {g g':Rows} {id:Id} (h:id∉ids):zx ids g g' id=g id:=if_neg h
section
variable {P:Program} {w w':World} {D D' D1 D2:Nat->Prop} {ι ι1 ι2:Names}
theorem kr {a:AV} {v:Value} (hp:a.clean=true) (h:cN P w D1 ι1 a v):cN P w D2 ι1 a v:=by
 cases h with
 |eO a v h=>
  cases h with
  |int=>exact .eO _ _ (.int _ _)
  |bool=>exact .eO _ _ (.bool _)
  |str=>exact .eO _ _ (.str _)
  |ck=>exact .eO _ _ .ck
  |iI=>exact .eO _ _ .iI
  |jX=>exact .eO _ _ .jX
  |j9=>exact .eO _ _ .j9
  |Dw a c h=>exact .eO _ _ (.Dw a c h)
  |sl rows b o n c sz vs h1 h2 h3=>
   have:rows=[]:=by simpa[AV.clean]using hp
   subst this
   simp only[List.length_nil]at h1
   subst h1
   exact .eO _ _ (.Dw _ _ h3)
  |dq=>simp[AV.clean]at hp
  |agg=>simp[AV.clean]at hp
  |fn=>simp[AV.clean]at hp
 |own id off len o cap B h1 h2 h3 h4 h5 h6=>exact .own id off len o cap B h1 h2 h3 h4 h5 h6
 |map id m B h1 h2=>exact .map id m B h1 h2
 |s8 id c B h1 h2=>exact .s8 id c B h1 h2
 |ptr id i off B h1 h2=>exact .ptr id i off B h1 h2
 |agg=>simp[AV.clean]at hp
 |iJ=>simp[AV.clean]at hp
 |fn=>simp[AV.clean]at hp
 |xJ=>simp[AV.clean]at hp
theorem mE {cs:List AV} {v:Value} (hc:cs.all AV.clean=true) (h:cN P w D1 ι1 (.agg cs) v):cN P w D2 ι1 (.agg cs) v:=by
 obtain⟨vs,f,rfl,h1,h2,h3,h4⟩:=gM h
 rw[List.all_eq_true]at hc
 exact .agg cs vs f h1 h2 h3 fun j a ha=>kr (hc a (List.mem_of_getElem? ha)) (h4 j a ha)
theorem E5 {a:AV} {v:Value} (hp:a.s9=true) (h:cN P w D1 ι1 a v):cN P w D2 ι1 a v:=by
 cases a with
 |agg cs=>exact mE hp h
 |iJ cs=>
  obtain⟨vs,f,rfl,h1,h3,h4⟩:=vn h
  simp only[AV.s9,List.all_eq_true]at hp
  refine .iJ cs vs f h1 h3 fun j a ha=>?_
  have:=hp a (List.mem_of_getElem? ha)
  split at this
  ·exact mE this (h4 j _ ha)
  ·exact kr this (h4 j _ ha)
 |_=>exact kr hp h
theorem E0 {ag:Bool} {n:Nat} {cs:List AV} {x:AV} {v:Value} (hc:∀a∈cs,a.clean=true) (hp:part ag n cs=some x) (hr:cN P w D1 ι1 x v):cN P w D2 ι1 x v:=by
 unfold part at hp
 split at hp
 ·split at hp
  ·simp only[Option.some.injEq]at hp;subst hp
   exact mE (List.all_eq_true.2 fun a ha=>hc a (List.mem_of_mem_take ha)) hr
  ·cases hp
 ·exact kr (hc x (List.mem_of_mem_head? hp)) hr
theorem iR.clean {B:sU} {r:Row} (R:iR P w D1 ι1 B r) (h:∀cs∈r.rows,∀a∈cs,a.clean=true):iR P w D2 ι1 B r:=
 ⟨R.sz,R.flat,fun hk=>⟨R.sz,(R.row hk).yD,(R.row hk).fits,(R.row hk).len,R.flat,fun i j cs a hi hj=>by
  obtain⟨v,q1,q2⟩:=(R.row hk).at_ i j cs a hi hj
  exact⟨v,q1,kr (h cs (List.mem_of_getElem? hi) a (List.mem_of_getElem? hj)) q2⟩⟩,fun m hm=>by
  obtain⟨h1,es,c,h2,h3,h5,h4⟩:=R.map m hm
  refine⟨h1,es,c,h2,h3,h5,fun i cs hi=>?_⟩
  obtain⟨e,kv,vv,q1,q2,q3,q4,q5⟩:=h4 i cs hi
  have hc:=h cs (List.mem_of_getElem? hi)
  exact⟨e,kv,vv,q1,q2,q3,E0 hc q2 q4,kr (hc vv (List.mem_of_getElem? q3)) q5⟩,fun c hc=>by
  obtain⟨h1,buf,s,q,h2,h3,h4⟩:=R.chan c hc
  refine⟨h1,buf,s,q,h2,h3,fun i cs hi=>?_⟩
  obtain⟨a,u,rfl,q2,q3⟩:=h4 i cs hi
  exact⟨a,u,rfl,q2,kr (h [a] (List.mem_of_getElem? hi) a (by simp)) q3⟩⟩
def Handed (ids:List Id) (g:Rows):Prop:=∀id∈ids,∃r,g id=some r/\r.w=true/\∀cs∈r.rows,∀a∈cs,a.clean=true
theorem H8 {f:Nat} {args fx:List AV} {g:Rows} {n:Nat} {K:AV->ax->Prop} (hv:cQ (dM g) 6 args=some fx)
  (h:Sound P f fx ⟨fun _=>none,n⟩ fun r σ'=>∃ids,r.s9=true/\Handed ids σ'.get/\K r ⟨zx ids g σ'.get,σ'.next⟩):Sound P f args ⟨g,n⟩ K:=by
 intro hs D ι w vs S U A
 let E:Nat->Prop:=fun b=>D b∨∃id r B,g id=some r/\ι id=some B/\b=B.b
 have lt:∀id r B,g id=some r->ι id=some B->B.b<w.heap.size:=fun id r B h1 h2=>by
  obtain⟨B',dG,R,_⟩:=S.row id r h1
  rw[h2]at dG;injection dG with dG;subst dG
  exact R.lt
 have S0:gK P w.heap.size E ι (fun _=>none) w:=⟨Nat.le_refl _,fun b hb=>by
  rcases hb with hb|⟨id,r,B,h1,h2,rfl⟩
  ·exact S.dead b hb
  ·exact lt id r B h1 h2,fun id r h=>(by cases h),fun id kS r r' B B' h=>(by cases h)⟩
 obtain⟨l1,l2⟩:=gO hv
 have A':fc P w E ι fx vs:=⟨by rw[A.1,l1],fun j a hj=>by
  obtain⟨a0,lT,hz⟩:=l2 j a hj
  obtain⟨u,hu,hr⟩:=A.2 j a0 lT
  refine⟨u,hu,(rY (D2:=E) (ι2:=ι) (fun b h=>.inl h) (fun id row hg hw=>?_) 6 a0 u a hr hz).1⟩
  unfold dM at hg
  simp only[Option.map_eq_some_iff]at hg
  obtain⟨r,oz,rfl⟩:=hg
  obtain⟨B,hB,R,_,_⟩:=S.row id r oz
  exact⟨B,hB,R.flag true,.inr ⟨id,r,B,oz,hB,rfl⟩⟩⟩
 refine(h w.heap.size E ι w vs S0 U A').mono ?_
 rintro e w' ⟨r0,g',n',D2,ι1,u,rfl,⟨ids,mc,hid,hK⟩,T,S1,U1,hn,hR⟩
 have hb:∀b,b<w.heap.size->w'.heap[b]? =w.heap[b]? :=T.below.block
 have hz:=T.below.size
 have frame:∀{a v},cN P w D ι a v->cN P w' D ι1 a v:=fun h=>h.frame (fun b hd=>hb b (S.dead b hd)) (fun _ h=>h) T.names
 refine⟨r0,_,n',D,ι1,u,rfl,hK,⟨T.below.mono S.lo,fun b hd=>hb b (S.dead b hd),fun _ h=>h,T.names,fun _ h=>.inl h⟩,⟨Nat.le_trans S.lo hz,fun b hd=>Nat.lt_of_lt_of_le (S.dead b hd) hz,fun id r hr=>?_,fun Tg id2 r1 r2 B1 B2 h1 h2 hw qj mv Lo=>?_⟩,U1,hn,E5 mc hR⟩
 ·by_cases hi:id∈ids
  ·rw[xt hi]at hr
   obtain⟨r',oz,hw,hcr⟩:=hid id hi
   rw[hr]at oz;injection oz with oz;subst oz
   obtain⟨B,hB,R,k1,k2⟩:=S1.row id r hr
   have kJ:=k1 hw
   exact⟨B,hB,R.clean hcr,fun _=>Nat.le_trans S.lo kJ,fun _ hd=>Nat.lt_irrefl _ (Nat.lt_of_lt_of_le (S.dead _ hd) kJ)⟩
  ·rw[tN hi]at hr
   obtain⟨B,hB,R,k1,k2⟩:=S.row id r hr
   have wi:=lt id r B hr hB
   exact⟨B,T.names _ _ hB,R.frame (hb _ wi) fun a v h=>frame h,k1,k2⟩
 ·have new:∀{id r B},id∈ids->zx ids g g' id=some r->ι1 id=some B->w.heap.size<=B.b/\g' id=some r/\r.w=true:=fun {id r B} hi hr hB=>by
   rw[xt hi]at hr
   obtain⟨r',oz,hw,_⟩:=hid id hi
   replace oz:g' id=some r':=oz
   rw[hr]at oz;injection oz with oz;subst oz
   obtain⟨B',dG,_,k1,_⟩:=S1.row id r hr
   rw[hB]at dG;injection dG with dG;subst dG
   exact⟨k1 hw,hr,hw⟩
  have CU:∀{id r B},id∉ids->zx ids g g' id=some r->ι1 id=some B->B.b<w.heap.size/\g id=some r/\ι id=some B:=fun {id r B} hi hr hB=>by
   rw[tN hi]at hr
   obtain⟨B',dG,_⟩:=S.row id r hr
   have:=T.names _ _ dG
   rw[hB]at this;injection this with this;subst this
   exact⟨lt id r _ hr dG,hr,dG⟩
  by_cases i1:Tg∈ids
  ·obtain⟨a1,a2,a3⟩:=new i1 h1 qj
   by_cases i2:id2∈ids
   ·obtain⟨b1,b2,b3⟩:=new i2 h2 mv
    exact S1.inj Tg id2 r1 r2 B1 B2 a2 b2 hw qj mv Lo
   ·obtain⟨b1,_⟩:=CU i2 h2 mv
    omega
  ·obtain⟨a1,a2,a3⟩:=CU i1 h1 qj
   by_cases i2:id2∈ids
   ·obtain⟨b1,_⟩:=new i2 h2 mv
    omega
   ·obtain⟨b1,b2,b3⟩:=CU i2 h2 mv
    exact S.inj Tg id2 r1 r2 B1 B2 a2 b2 hw a3 b3 Lo
theorem Ix (hm:P.follows .mixedOrders=true) {f:Nat} {args fx:List AV} {σ:ax} {K:AV->ax->Prop} (hv:cQ (dM σ.get) 6 args=some fx)
  (h:Call P f fx ⟨fun _=>none,σ.next⟩ fun r σ'=>∃ids,r.s9=true/\Handed ids σ'.get/\K r ⟨zx ids σ.get σ'.get,σ'.next⟩):Call P f args σ K:=
 gF (H8 hv (gG hm h))
end
inductive qK:List AV->List AV->Prop
 |nil:qK [] []
 |same (a) {l l'}:qK l l'->qK (a::l) (a::l')
 |ptr (cs rest) {l l'}:qK l l'->qK (.dq (cs++rest)::l) (.dq cs::l')
 |ck {l l'}:qK l l'->qK (.ck::l) (.sl []::l')
theorem Nk {P:Program} {w:World} {D:Nat->Prop} {ι:Names} {cs rest:List AV} {v:Value} (h:cN P w D ι (.dq (cs++rest)) v):cN P w D ι (.dq cs) v:=by
 obtain⟨b,o,vs,rfl,h1,h2,h3,h4⟩:=lL h
 exact .eO _ _ (.dq cs b o vs h1 (fun a ha=>h2 a (List.mem_append_left _ ha)) (fun j hj=>h3 j (by rw[List.length_append];omega)) fun j a ha=>h4 j a (by
  have:=(List.getElem?_eq_some_iff.1 ha).1
  rw[List.getElem?_append_left this];exact ha))
theorem Np {P:Program} {w:World} {D:Nat->Prop} {ι:Names} {v:Value} (h:cN P w D ι .ck v):cN P w D ι (.sl []) v:=by
 cases h with
 |eO _ _ h=>
  cases h with
  |ck=>exact .eO _ _ (.Dw none 0 (Nat.zero_le _))
theorem qK.len {l l':List AV} (h:qK l l'):l'.length=l.length:=by induction h<;>simp_all
theorem qK.get {P:Program} {w:World} {D:Nat->Prop} {ι:Names} {l l':List AV} (h:qK l l'):∀{j:Nat} {a':AV},l'[j]? =some a'->∃a,l[j]? =some a/\∀v,cN P w D ι a v->cN P w D ι a' v:=by
 induction h with
 |nil=>intro j a' hj;simp at hj
 |same a _ ih=>
  intro j a' hj
  cases j with
  |zero=>simp at hj;subst hj;exact⟨a,rfl,fun _ h=>h⟩
  |succ j=>exact ih (by simpa using hj)
 |ptr cs rest _ ih=>
  intro j a' hj
  cases j with
  |zero=>simp at hj;subst hj;exact⟨_,rfl,fun _ h=>Nk h⟩
  |succ j=>exact ih (by simpa using hj)
 |ck _ ih=>
  intro j a' hj
  cases j with
  |zero=>simp at hj;subst hj;exact⟨_,rfl,fun _ h=>Np h⟩
  |succ j=>exact ih (by simpa using hj)
theorem Call.cut {P:Program} (hm:P.follows .mixedOrders=true) {f:Nat} {args fx:List AV} {σ:ax} {K:AV->ax->Prop} (hc:qK args fx) (h:Call P f fx σ K):Call P f args σ K:=
 gF fun hs D ι w vs S U A=>gG hm h hs D ι w vs S U ⟨by rw[A.1,hc.len],fun j a' hj=>by
  obtain⟨a,ha,hr⟩:=hc.get (P:=P) (w:=w) (D:=D) (ι:=ι) hj
  obtain⟨u,hu,hv⟩:=A.2 j a ha
  exact⟨u,hu,hr u hv⟩⟩
theorem ak.cut {P:Program} (hm:P.follows .mixedOrders=true) {f:Nat} {args fx:List AV} {r:AV} (hc:qK args fx) (h:ak P f fx r):ak P f args r:=fun n=>(h n).cut hm hc
end Go.Proofs.YtkbipfflibjfbaaGreat.V

namespace Go.Proofs.YtkbipfflibjfbaaGreat.V
open Go.RowKit
attribute [local irreducible] ef wpOps gN Call
attribute [local go_sem] aH fJ eW fZ gh dh upd cD K.av cP AV.cells AV.cell rowOf rowsOf part ld rowAt bU cw dI ek iq bL de eD gj fq dx ew db da dW dY bR bd cU bQ cW cV er ez eu cR bV dc eo bP aL cY cI im br cH bz bc dB bo dF AV.undef bx bE dZ ej dV ec cJ eC eE cF eB eA cX cZ List.getD_cons_zero List.getD_cons_succ List.getD_nil List.all_cons List.all_nil Bool.and_true Bool.true_and Bool.and_self Bool.not_true Bool.not_false Option.map_some Option.map_none Option.bind_some Option.bind_none List.length_cons List.length_nil List.take_succ_cons List.take_zero List.take_nil List.drop_succ_cons List.drop_zero List.drop_nil List.head?_cons List.map_cons List.map_nil List.getElem?_cons_zero List.getElem?_cons_succ List.cons_append List.nil_append List.append_nil List.length_map List.set_cons_zero List.set_cons_succ eq_self Int.toNat_natCast Int.natCast_nonneg and_self true_and and_true decide_true decide_false Bool.false_eq_true Nat.zero_add Nat.add_zero List.contains_cons List.contains_nil Bool.or_false Bool.false_or beq_self_eq_true ne_eq not_true_eq_false not_false_eq_true Id.mk.injEq false_and and_false Nat.le_refl List.length_append beq_true beq_false Bool.not_eq_eq_eq_not or_false false_or dM ai ao aD bt cz aY bj aV bf cL bJ
section
variable {P:Program} {α:Type} {e:α->List AV} {z:Nat} {g g':Rows} {v:AV} {L:List α} {ids:List Id}
def lU (e:α->List AV) (z:Nat) (g:Rows) (v:AV) (L:List α) (ids:List Id):Prop:=(L=[]/\v=.ck/\ids=[])∨∃o,v=.own o 0 L.length/\g o=some ⟨true,z,L.map e⟩/\ids=[o]/\0<L.length
def xK (e:α->List AV) (L:List α):AV:=if L.length=0 then .ck else .sl (L.map e)
theorem lU.frame (h:lU e z g v L ids) (hf:∀i∈ids,g' i=g i):lU e z g' v L ids:=by
 rcases h with h|⟨o,h1,h2,rfl,hp⟩
 ·exact .inl h
 ·exact .inr ⟨o,h1,(hf o (by simp)).trans h2,rfl,hp⟩
def oO (e:α->List AV) (L:List α) (w:AV):Prop:=(w=.ck/\L=[])∨w=.sl (L.map e)
def UL (P:Program) (f:Nat) (args:List AV) (e:α->List AV) (z:Nat) (L:List α) (c:Int):Prop:=
 ∀n:Nat,Call P f args ⟨fun _=>none,n⟩ (fun r σ'=>∃v ids,r=.iJ [v,.int .i64 c]/\lU e z σ'.get v L ids/\e8 n σ'.next ids)
theorem Gs (hm:P.follows .mixedOrders=true) {f:Nat} {args:List AV} {σ:ax} {K:AV->ax->Prop} (h:Call P f args σ K):Call P f args σ (fun r σ'=>K r σ'/\σ.next<=σ'.next):=
 gF fun hs D ι w vs S U A=>(gG hm h hs D ι w vs S U A).mono (by
  rintro e w' ⟨r,g',n',D2,ι1,u,rfl,hK,T,S1,U1,hn,hR⟩
  exact⟨r,g',n',D2,ι1,u,rfl,⟨hK,hn⟩,T,S1,U1,hn,hR⟩)
theorem Kd:oO e L (xK e L):=by
 unfold xK
 split
 ·rename_i h;exact .inl ⟨rfl,List.eq_nil_of_length_eq_zero h⟩
 ·exact .inr rfl
end
theorem oO.cut {α:Type} {e:α->List AV} {L:List α} {w:AV} (h:oO e L w) {l l':List AV} (hl:qK l l'):qK (w::l) (.sl (L.map e)::l'):=by
 rcases h with⟨rfl,rfl⟩|rfl
 ·exact .ck hl
 ·exact .same _ hl
end Go.Proofs.YtkbipfflibjfbaaGreat.V

namespace Go.Proofs.YtkbipfflibjfbaaGreat.V
open Go.RowKit
attribute [local irreducible] ef wpOps gN Call
attribute [local go_sem] aH fJ eW fZ gh dh upd cD K.av cP AV.cells AV.cell rowOf rowsOf part ld rowAt bU cw dI ek iq bL de eD gj fq dx ew db da dW dY bR bd cU bQ cW cV er ez eu cR bV dc eo bP aL cY cI im br cH bz bc dB bo dF AV.undef bx bE dZ ej dV ec cJ eC eE cF eB eA cX cZ List.getD_cons_zero List.getD_cons_succ List.getD_nil List.all_cons List.all_nil Bool.and_true Bool.true_and Bool.and_self Bool.not_true Bool.not_false Option.map_some Option.map_none Option.bind_some Option.bind_none List.length_cons List.length_nil List.take_succ_cons List.take_zero List.take_nil List.drop_succ_cons List.drop_zero List.drop_nil List.head?_cons List.map_cons List.map_nil List.getElem?_cons_zero List.getElem?_cons_succ List.cons_append List.nil_append List.append_nil List.length_map List.set_cons_zero List.set_cons_succ Nat.reduceMul eq_self Int.toNat_natCast Int.natCast_nonneg and_self true_and and_true decide_true decide_false Bool.false_eq_true Nat.zero_add Nat.add_zero List.contains_cons List.contains_nil Bool.or_false Bool.false_or beq_self_eq_true Nat.reduceBEq ne_eq not_true_eq_false not_false_eq_true Id.mk.injEq false_and and_false Nat.reduceLT Int.reduceLE Int.reduceLT Int.reduceToNat Int.reduceNeg Int.reduceAdd Nat.le_refl List.length_append beq_true beq_false Bool.not_eq_eq_eq_not or_false false_or dM ai ao aD bt cz aY bj aV bf cL bJ
end Go.Proofs.YtkbipfflibjfbaaGreat.V

namespace Go.Proofs.YtkbipfflibjfbaaGreat.V
open Go.RowKit
variable {P:Program}
theorem Qa (hm:P.follows .mixedOrders=true) {f:Nat} {args:List AV} {vs:Array Value} {w:World} (h:ak P f args (.bool true)) (hA:fc P w (fun b=>b<w.heap.size) (fun _=>none) args vs):
  Calls P f vs w fun e w'=>e=.returned (.bool true)/\Below w.heap.size w w':=by
 have hs:=gG hm (h 0) w.heap.size (fun b=>b<w.heap.size) (fun _=>none) w vs ⟨Nat.le_refl _,fun _ h=>h,fun id r h=>(by cases h),fun id kS r r' B B' h=>(by cases h)⟩ (fun id h=>absurd rfl h) hA
 refine hs.mono ?_
 rintro e w' ⟨r,g',n',D',ι',u,rfl,⟨r',hz,rfl⟩,dR,hsim,_,_,ij⟩
 have hr:r=.bool true:=by
  cases r<;>rw[gw]at hz<;>simp_all
  all_goals (repeat' (split at hz))<;>simp_all
 subst hr
 exact⟨by rw[fa ij],dR.below⟩
theorem iy {xs:List AV} {w:World} {D:Nat->Prop} {ι:Names} {a:AV} {v:Value} {vs:Array Value} (h:ja P w D a v) (k:fc P w D ι xs vs):fc P w D ι (a::xs) (#[v]++vs):=
 pB (xs:=[a]) ⟨rfl,fun j b hj=>by
  cases j with
  |zero=>simp at hj;subst hj;exact⟨v,rfl,.eO _ _ h⟩
  |succ j=>simp at hj⟩ k
end Go.Proofs.YtkbipfflibjfbaaGreat.V

namespace Go.Proofs.YtkbipfflibjfbaaGreat.V
open Go.RowKit
attribute [local irreducible] ef wpOps gN Call
attribute [local go_sem] aH fJ eW fZ gh dh upd cD K.av cP AV.cells AV.cell rowOf rowsOf part ld rowAt bU cw dI ek iq bL de eD gj fq dx ew db da dW dY bR bd cU bQ cW cV er ez eu cR bV dc eo bP aL cY cI im br cH bz bc dB bo dF AV.undef bx bE dZ ej dV ec cJ eC eE cF eB eA cX cZ List.getD_cons_zero List.getD_cons_succ List.getD_nil List.all_cons List.all_nil Bool.and_true Bool.true_and Bool.and_self Bool.not_true Bool.not_false Option.map_some Option.map_none Option.bind_some Option.bind_none List.length_cons List.length_nil List.take_succ_cons List.take_zero List.take_nil List.drop_succ_cons List.drop_zero List.drop_nil List.head?_cons List.map_cons List.map_nil List.getElem?_cons_zero List.getElem?_cons_succ List.cons_append List.nil_append List.append_nil List.length_map List.set_cons_zero List.set_cons_succ Nat.reduceMul eq_self Int.toNat_natCast Int.natCast_nonneg and_self true_and and_true decide_true decide_false Bool.false_eq_true Nat.zero_add Nat.add_zero List.contains_cons List.contains_nil Bool.or_false Bool.false_or beq_self_eq_true Nat.reduceBEq ne_eq not_true_eq_false not_false_eq_true Id.mk.injEq false_and and_false Nat.reduceLT Int.reduceLE Int.reduceLT Int.reduceToNat Int.reduceNeg Int.reduceAdd Nat.le_refl List.length_append beq_true beq_false Bool.not_eq_eq_eq_not or_false false_or dM ai ao aD bt cz aY bj aV bf cL bJ
theorem Qw {α:Type} (f:α->Nat) {xs:List α} {x:α} (h:x∈xs):f x<=(xs.map f).sum:=by
 induction xs with
 |nil=>cases h
 |cons y ys ih=>
  simp only[List.map_cons,List.sum_cons]
  rcases List.mem_cons.1 h with rfl|h
  ·omega
  ·have:=ih h;omega
theorem HU {s:cj} (h:xC s<=1048576):rM s:=by
 unfold xC uO at h
 refine⟨⟨ae,ae,fun t ht=>?_⟩,ae⟩
 have:=Qw lf ht
 have h2:t.bD.length<=lf t:=by unfold lf;omega
 unfold sV
 omega
theorem zV (a:dD):ak Tryz.prog 13 [.agg (aP a),.agg (aP a)] (.bool true):=by
 refine ak.body eM rfl fun hl n0=>?_
 clear hl
 have h1:=tW a.aj a.aj
 rw[decide_eq_true rfl]at h1
 (repeat(first|((repeat(revert hN;revert N;apply Pn.out));refine wk @aP.eq_1 ?_;(repeat(refine Pn.mk ?_;intro N hN)))|((try apply Or.inl);refine⟨_,ak.x (h1) (sd @aP.eq_1),?_⟩;refine hN _ _ ?_;clear hN N)))
 exact aZ (b:=true) (.inl rfl) (sd @Nat.zero_add) rfl
end Go.Proofs.YtkbipfflibjfbaaGreat.V

namespace Go.Proofs.YtkbipfflibjfbaaGreat.V
open Go.RowKit
attribute [local irreducible] ef wpOps gN Call
attribute [local go_sem] aH fJ eW fZ gh dh upd cD K.av cP AV.cells AV.cell rowOf rowsOf part ld rowAt bU cw dI ek iq bL de eD gj fq dx ew db da dW dY bR bd cU bQ cW cV er ez eu cR bV dc eo bP aL cY cI im br cH bz bc dB bo dF AV.undef bx bE dZ ej dV ec cJ eC eE cF eB eA cX cZ List.getD_cons_zero List.getD_cons_succ List.getD_nil List.all_cons List.all_nil Bool.and_true Bool.true_and Bool.and_self Bool.not_true Bool.not_false Option.map_some Option.map_none Option.bind_some Option.bind_none List.length_cons List.length_nil List.take_succ_cons List.take_zero List.take_nil List.drop_succ_cons List.drop_zero List.drop_nil List.head?_cons List.map_cons List.map_nil List.getElem?_cons_zero List.getElem?_cons_succ List.cons_append List.nil_append List.append_nil List.length_map List.set_cons_zero List.set_cons_succ eq_self Int.toNat_natCast Int.natCast_nonneg and_self true_and and_true decide_true decide_false Bool.false_eq_true Nat.zero_add Nat.add_zero List.contains_cons List.contains_nil Bool.or_false Bool.false_or beq_self_eq_true ne_eq not_true_eq_false not_false_eq_true Id.mk.injEq false_and and_false Nat.le_refl List.length_append beq_true beq_false Bool.not_eq_eq_eq_not or_false false_or dM ai ao aD bt cz aY bj aV bf cL bJ
theorem Nw {g:Rows} {v w:AV} {s:cj} {i:List Id} (hX:Bp g v s i) (hw:fz (dM g) 6 w=some w):cQ (dM g) 6 [v,w]=some [.agg (aA s),w]:=by
 simp only[ai,ao,hX.fz 1,hw,Option.map_some]
theorem LN {g:Rows} {v w:AV} {s:dD} {i:List Id} (hX:zD g v s i) (hw:fz (dM g) 6 w=some w):cQ (dM g) 6 [v,w]=some [.agg (aP s),w]:=by
 simp only[ai,ao,hX.fz 2,hw,Option.map_some]
theorem FK (g:Rows) (s:cj):fz g 6 (.agg (aA s))=some (.agg (aA s)):=by simp[aA,bj,ai,ao,cz,aD]
theorem FJ (g:Rows) (s:dD):fz g 6 (.agg (aP s))=some (.agg (aP s)):=by simp[aP,bj,ai,ao,cz]
theorem xx {g:Rows} {v w v' w':AV} (h1:fz g 6 v=some v') (h2:fz g 6 w=some w'):cQ g 6 [v,w]=some [v',w']:=by
 simp only[ai,ao,h1,h2,Option.map_some]
theorem MX (s:cj):CG s<=3*xC s:=by
 have h:∀l:List fb,(l.map gP).sum<=l.length+(l.map lf).sum:=fun l=>by
  induction l with
  |nil=>simp
  |cons t l ih=>simp only[List.map_cons,List.sum_cons,List.length_cons,gP,lf]at *;omega
 have:=h s.aC.aj
 unfold CG xC uO
 omega
theorem e8.not {a b:Nat} {ids:List Id} (h:e8 a b ids) {x:Id} (hx:x.cC<a∨b<=x.cC):x∉ids:=fun hc=>by
 have:=h.2 x hc;omega
theorem oO.fz {α:Type} {e:α->List AV} {L:List α} {w:AV} (h:oO e L w) (g:Rows):V.fz g 6 w=some w:=by
 rcases h with⟨rfl,rfl⟩|rfl
 ·exact aY _ _
 ·exact cz _ _ _
end Go.Proofs.YtkbipfflibjfbaaGreat.V

namespace Go.Proofs.YtkbipfflibjfbaaGreat.V
open Go.RowKit
attribute [local irreducible] ef wpOps gN Call
attribute [local go_sem] aH fJ eW fZ gh dh upd cD K.av cP AV.cells AV.cell rowOf rowsOf part ld rowAt bU cw dI ek iq bL de eD gj fq dx ew db da dW dY bR bd cU bQ cW cV er ez eu cR bV dc eo bP aL cY cI im br cH bz bc dB bo dF AV.undef bx bE dZ ej dV ec cJ eC eE cF eB eA cX cZ List.getD_cons_zero List.getD_cons_succ List.getD_nil List.all_cons List.all_nil Bool.and_true Bool.true_and Bool.and_self Bool.not_true Bool.not_false Option.map_some Option.map_none Option.bind_some Option.bind_none List.length_cons List.length_nil List.take_succ_cons List.take_zero List.take_nil List.drop_succ_cons List.drop_zero List.drop_nil List.head?_cons List.map_cons List.map_nil List.getElem?_cons_zero List.getElem?_cons_succ List.cons_append List.nil_append List.append_nil List.length_map List.set_cons_zero List.set_cons_succ Nat.reduceMul eq_self Int.toNat_natCast Int.natCast_nonneg and_self true_and and_true decide_true decide_false Bool.false_eq_true Nat.zero_add Nat.add_zero List.contains_cons List.contains_nil Bool.or_false Bool.false_or beq_self_eq_true Nat.reduceBEq ne_eq not_true_eq_false not_false_eq_true Id.mk.injEq false_and and_false Nat.reduceLT Int.reduceLE Int.reduceLT Int.reduceToNat Int.reduceNeg Int.reduceAdd Nat.le_refl List.length_append beq_true beq_false Bool.not_eq_eq_eq_not or_false false_or dM ai ao aD bt cz aY bj aV bf cL bJ
theorem MY (k:Int) {n j:Nat} (h:j<n):((Bk k n).map ab)[j]? =some [.int .i64 (k+3*(j:Int)),.int .i64 (k+3*(j:Int)+1),.int .i64 (k+3*(j:Int)+2)]:=by
 simp[Bk,h,ab]
end Go.Proofs.YtkbipfflibjfbaaGreat.V

namespace Go.Proofs.YtkbipfflibjfbaaGreat.V
open Go.RowKit
attribute [local irreducible] ef wpOps gN Call
attribute [local go_sem] aH fJ eW fZ gh dh upd cD K.av cP AV.cells AV.cell rowOf rowsOf part ld rowAt bU cw dI ek iq bL de eD gj fq dx ew db da dW dY bR bd cU bQ cW cV er ez eu cR bV dc eo bP aL cY cI im br cH bz bc dB bo dF AV.undef bx bE dZ ej dV ec cJ eC eE cF eB eA cX cZ List.getD_cons_zero List.getD_cons_succ List.getD_nil List.all_cons List.all_nil Bool.and_true Bool.true_and Bool.and_self Bool.not_true Bool.not_false Option.map_some Option.map_none Option.bind_some Option.bind_none List.length_cons List.length_nil List.take_succ_cons List.take_zero List.take_nil List.drop_succ_cons List.drop_zero List.drop_nil List.head?_cons List.map_cons List.map_nil List.getElem?_cons_zero List.getElem?_cons_succ List.cons_append List.nil_append List.append_nil List.length_map List.set_cons_zero List.set_cons_succ eq_self Int.toNat_natCast Int.natCast_nonneg and_self true_and and_true decide_true decide_false Bool.false_eq_true Nat.zero_add Nat.add_zero List.contains_cons List.contains_nil Bool.or_false Bool.false_or beq_self_eq_true ne_eq not_true_eq_false not_false_eq_true Id.mk.injEq false_and and_false Nat.le_refl List.length_append beq_true beq_false Bool.not_eq_eq_eq_not or_false false_or dM ai ao aD bt cz aY bj aV bf cL bJ
end Go.Proofs.YtkbipfflibjfbaaGreat.V

namespace Go.Proofs.YtkbipfflibjfbaaGreat.V
open Go.RowKit
attribute [local irreducible] ef wpOps gN Call
attribute [local go_sem] aH fJ eW fZ gh dh upd cD K.av cP AV.cells AV.cell rowOf rowsOf part ld rowAt bU cw dI ek iq bL de eD gj fq dx ew db da dW dY bR bd cU bQ cW cV er ez eu cR bV dc eo bP aL cY cI im br cH bz bc dB bo dF AV.undef bx bE dZ ej dV ec cJ eC eE cF eB eA cX cZ List.getD_cons_zero List.getD_cons_succ List.getD_nil List.all_cons List.all_nil Bool.and_true Bool.true_and Bool.and_self Bool.not_true Bool.not_false Option.map_some Option.map_none Option.bind_some Option.bind_none List.length_cons List.length_nil List.take_succ_cons List.take_zero List.take_nil List.drop_succ_cons List.drop_zero List.drop_nil List.head?_cons List.map_cons List.map_nil List.getElem?_cons_zero List.getElem?_cons_succ List.cons_append List.nil_append List.append_nil List.length_map List.set_cons_zero List.set_cons_succ Nat.reduceMul eq_self Int.toNat_natCast Int.natCast_nonneg and_self true_and and_true decide_true decide_false Bool.false_eq_true Nat.zero_add Nat.add_zero List.contains_cons List.contains_nil Bool.or_false Bool.false_or beq_self_eq_true Nat.reduceBEq ne_eq not_true_eq_false not_false_eq_true Id.mk.injEq false_and and_false Nat.reduceLT Int.reduceLE Int.reduceLT Int.reduceToNat Int.reduceNeg Int.reduceAdd Nat.le_refl List.length_append beq_true beq_false Bool.not_eq_eq_eq_not or_false false_or dM ai ao aD bt cz aY bj aV bf cL bJ
theorem Gr {P:Program} {K:AV->Rows->List Id->Prop} (hm:P.follows .mixedOrders=true) {f:Nat} {args fx:List AV} {σ:ax}
  (mc:∀r g ids,K r g ids->r.s9=true/\Handed ids g) (kR:∀r g g' ids,K r g ids->(∀i∈ids,g' i=g i)->K r g' ids)
  (h:∀n:Nat,Call P f fx ⟨fun _=>none,n⟩ (fun r σ'=>∃ids,K r σ'.get ids/\e8 n σ'.next ids)) (hv:cQ (dM σ.get) 6 args=some fx):
  Call P f args σ (fun r σ'=>∃ids,K r σ'.get ids/\e8 σ.next σ'.next ids/\Kept σ σ'):=by
 refine Ix hm hv (aU _ _ _ _ _ (fun r σ' hq=>?_) (Gs hm (h σ.next)))
 obtain⟨⟨ids,hK,hi⟩,hn⟩:=hq
 obtain⟨c1,c2⟩:=mc _ _ _ hK
 exact⟨ids,c1,c2,ids,kR _ _ _ _ hK (fun i hi=>xt hi),hi,hn,fun j hj=>tN fun hc=>by have:=(hi.2 j hc).1;omega⟩
theorem Handed.nil {g:Rows}:Handed [] g:=fun x hx=>by cases hx
section
variable {P:Program} {α:Type} {e:α->List AV} {z:Nat} {g g':Rows} {v:AV} {L:List α} {ids:List Id}
def vH (e:α->List AV) (z:Nat) (g:Rows) (v:AV) (L:List α) (ids:List Id):Prop:=(L=[]/\v=.ck/\ids=[])∨∃(o:Id) (J:List α),v=.own o 0 L.length/\g o=some ⟨true,z,(L++J).map e⟩/\ids=[o]/\0<L.length
theorem lU.t (h:lU e z g v L ids):vH e z g v L ids:=by
 rcases h with h|⟨o,h1,h2,h3,h4⟩
 ·exact .inl h
 ·exact .inr ⟨o,[],h1,by rw[List.append_nil];exact h2,h3,h4⟩
def Gf (e:α->List AV) (v:AV) (L:List α):AV:=match v with| .ck=>.ck|_=>.sl (L.map e)
theorem vH.Hw (h:vH e z g v L ids):oO e L (Gf e v L):=by
 rcases h with⟨rfl,rfl,_⟩|⟨o,J,rfl,_⟩
 ·exact .inl ⟨rfl,rfl⟩
 ·exact .inr rfl
theorem B7 {n:Nat} {o:Id} {J:List α} (h2:g o=some ⟨true,z,(L++J).map e⟩) (he:∀x g,cQ g n (e x)=some (e x)):V.fz (dM g) (n+1) (.own o 0 L.length)=some (.sl (L.map e)):=by
 rw[ig]
 have:dM g o=some ⟨true,z,(L++J).map e⟩:=by simp[dM,h2]
 simp only[this,if_true]
 have h4:((L++J).map e).take L.length=L.map e:=by rw[<-List.map_take,List.take_append_of_le_length (Nat.le_refl _),List.take_length]
 rw[if_pos (by simp),List.drop_zero,h4,lD fun x=>he x _];rfl
theorem vH.Q6 (h:vH e z g v L ids) {n:Nat} (he:∀x g,cQ g n (e x)=some (e x)):V.fz (dM g) (n+1) v=some (Gf e v L):=by
 rcases h with⟨rfl,rfl,_⟩|⟨o,J,rfl,h2,_⟩
 ·exact aY _ _
 ·exact B7 h2 he
theorem vH.clean (h:vH e z g v L ids):v.clean=true:=by
 rcases h with⟨_,rfl,_⟩|⟨o,J,rfl,_⟩<;>rfl
theorem vH.hand (h:vH e z g v L ids) (mc:∀x,(e x).all AV.clean=true):Handed ids g:=by
 rcases h with⟨_,_,rfl⟩|⟨o,J,_,h2,rfl,_⟩
 ·exact Handed.nil
 ·intro i hi
  rw[List.mem_singleton.1 hi]
  refine⟨_,h2,rfl,fun cs dy a ha=>?_⟩
  obtain⟨x,_,rfl⟩:=List.mem_map.1 dy
  have:=mc x
  rw[List.all_eq_true]at this
  exact this a ha
theorem vH.s (h:vH e z g v L ids) {n:Nat} (he:∀x g,eh g n (e x)=some (e x)):gw g (n+1) v=some (xK e L):=by
 rcases h with⟨rfl,rfl,_⟩|⟨o,J,rfl,h2,_,hp⟩
 ·rw[gC];rfl
 ·rw[nQ (sz:=z) (rows:=(L++J).map e) (rows':=L.map e) h2 (by simp) (by
   have h4:((L++J).map e).take L.length=L.map e:=by rw[<-List.map_take,List.take_append_of_le_length (Nat.le_refl _),List.take_length]
   rw[List.drop_zero,h4,kI fun x=>he x _]),xK,if_neg ae]
end
def zR (a:AV):Bool:=match a with| .agg cs=>cs.all AV.clean|a=>a.clean
theorem DQ (cs:List AV):(AV.iJ cs).s9=cs.all zR:=rfl
theorem GG {a:AV} (h:a.clean=true):zR a=true:=by
 cases a<;>first|exact h|(simp[AV.clean]at h)
theorem DP (k:IntKind) (n:Int):zR (.int k n)=true:=rfl
theorem BN (b:Bool):zR (.bool b)=true:=rfl
theorem Sb {g:Rows} {u v w u' v' w':AV} (h0:V.fz g 6 u=some u') (h1:V.fz g 6 v=some v') (h2:V.fz g 6 w=some w'):cQ g 6 [u,v,w]=some [u',v',w']:=by simp only[ai,ao,h0,h1,h2,Option.map_some]
theorem RU (x:ah):(ab x).all AV.clean=true:=rfl
theorem Sa (x:ah) (g:Rows):cQ g 5 (ab x)=some (ab x):=by simp[ab,ai,ao,aD]
theorem Ph (x:ah) (g:Rows):eh g 4 (ab x)=some (ab x):=by simp[ab,aI,aW,dw]
theorem J7 (i:Id) (l:List ah) (k:Int) (h0:0<=k) (h1:k+3*l.length<=4611686018427387904) (σ:ax) (hv:i.cC<σ.next) (hg:σ.get i=some ⟨true,3,l.map ab⟩):
  Call Tryz.prog 25 [.own i 0 l.length,.int .i64 k] σ (fun r σ'=>r=.int .i64 (k+3*l.length)/\tP σ [i] σ'.get σ'.next/\σ'.get i=some ⟨true,3,(Bk k l.length).map ab⟩):=by
 refine fj eM rfl fun hl=>?_
 clear hl
 have hz:j8 k l 0=l:=by simp[j8,Bk]
 (try((repeat(revert hN;revert N;apply Pn.out));refine wk @Nat.zero_add ?_;(repeat(refine Pn.mk ?_;intro N hN))))
 refine aT (fun n env st=>∃j:Nat,n=(l.length)-j/\j<=(l.length)/\env 5=.int .i64 (j:Int)/\env 1=.int .i64 (k+3*j)/\st.get i=some ⟨true,3,(j8 k l j).map ab⟩/\(tP σ [i] st.get st.next)) (l.length) ⟨0,ae,ae,sl (tw @Int.add_zero (tw @Int.natCast_zero (tw @Int.mul_zero (tw @hz @hg)))),sl (tw @Int.add_zero (tw @Int.natCast_zero (tw @Int.mul_zero (tw @hz @hg)))),sl (tw @Int.add_zero (tw @Int.natCast_zero (tw @Int.mul_zero (tw @hz @hg)))),by(try dsimp only);exact⟨bW,fun x _ _=>rfl⟩⟩ ?_
 rintro n_a env_a st_a ⟨j,rfl,ale,a5,a1,ag0,kB⟩ dr
 have a0:=dr 0 (by kernel_rfl)
 simp only[go_sem, ↓reduceIte,Nat.reduceEqDiff,Nat.reduceAdd,Nat.reduceSub,Nat.reduceLeDiff,reduceCtorEq,Int.add_zero,Int.natCast_zero,Int.mul_zero,hz,hg]at a0
 clear dr
 obtain⟨an,aF⟩:=kB
 by_cases hj:(j:Int)<(l.length:Int)
 ·have bZ:∀{e:Env} {gg:Rows} {nx:Nat},(e 5=.int .i64 (IntKind.i64.wrap ((j:Int)+1)))->(e 1=.int .i64 (k+3*(j+1)))->(gg i=some ⟨true,3,(j8 k l (j+1)).map ab⟩)->(tP σ [i] gg nx)->∃m0,m0<(l.length)-j/\∃j:Nat,m0=(l.length)-j/\j<=(l.length)/\e 5=.int .i64 (j:Int)/\e 1=.int .i64 (k+3*j)/\gg i=some ⟨true,3,(j8 k l j).map ab⟩/\(tP σ [i] gg nx):=fun x1 x2 x3 x4=>⟨_,ae,j+1,rfl,ae,(by rw[x1,aB ae]),x2,x3,x4⟩
  have jI:j<l.length:=ae
  have eQ:=F8 (k:=k) jI
  have ei:=CO (k:=k) jI
  have pR:IntKind.i64.wrap (k+3*(j:Int)+1)=k+3*(j:Int)+1:=aJ ae
  have x9:IntKind.i64.wrap (k+3*(j:Int)+1+1)=k+3*(j:Int)+2:=by rw[aJ ae];omega
  have JQ:IntKind.i64.wrap (k+3*(j:Int)+2+1)=k+3*((j:Int)+1):=by rw[aJ ae];omega
  have hlen:((j8 k l j).map ab).length=l.length:=by rw[List.length_map,CN ae]
  have Jy:∀c:List AV,(((j8 k l j).map ab).set j c)[j]? =some c:=fun c=>by rw[List.getElem?_set_self (by rw[hlen];exact jI)]
  (try((repeat(revert hN;revert N;apply Pn.out));refine wk (tw @a5 (tw @a1 (tw @ag0 (tw @a0 (tw @hj (tw @eQ (tw @Jy (tw @ei (tw @pR (tw @x9 (tw @JQ (tw @hlen @sD)))))))))))) ?_;(repeat(refine Pn.mk ?_;intro N hN))))
  refine bZ ?_ ?_ ?_ (by(try dsimp only);exact⟨bW,fun x hx hi=>by
   have h2:=aF x hx hi
   have h3:(x=i)=False:=eq_false fun e=>hi (by simp[e])
   simp only[go_sem, ↓reduceIte,Nat.reduceEqDiff,Nat.reduceAdd,Nat.reduceSub,Nat.reduceLeDiff,reduceCtorEq,h2,h3]⟩)
  all_goals simp only[go_sem, ↓reduceIte,Nat.reduceEqDiff,Nat.reduceAdd,Nat.reduceSub,Nat.reduceLeDiff,reduceCtorEq,a5,a1,ag0,a0,JQ,ei]
 ·have jI:j=l.length:=ae
  subst jI
  (try((repeat(revert hN;revert N;apply Pn.out));refine wk (tw @a5 (tw @a1 (tw @ag0 (tw @a0 @hj)))) ?_;(repeat(refine Pn.mk ?_;intro N hN))))
  have k7:j8 k l l.length=Bk k l.length:=by simp[j8]
  rw[k7]at ag0
  exact gJ (.inl rfl) (vs:=[.int .i64 (k+3*l.length)]) (sd (tw @a5 (tw @a1 (tw @ag0 @a0)))) ⟨rfl,⟨bW,fun x hx hi=>aF x hx hi⟩,ag0⟩
theorem Ju (k:Int) (n:Nat) (h0:0<=k) (h1:k+3*n<=4611686018427387904):ak Tryz.prog 26 [.sl ((Bk k n).map ab),.int .i64 k] (.int .i64 (k+3*n)):=by
 refine ak.body eM rfl fun hl n0=>?_
 clear hl
 obtain⟨m,hm⟩:∃m,n=m:=⟨_,rfl⟩
 rw[hm]at h1 ⊢
 (try((repeat(revert hN;revert N;apply Pn.out));refine wk @jh ?_;(repeat(refine Pn.mk ?_;intro N hN))))
 refine aT (fun n env st=>∃j:Nat,n=(m)-j/\j<=(m)/\env 5=.int .i64 (j:Int)/\env 1=.int .i64 (k+3*j)) (m) ⟨0,ae,ae,sl (tw @Int.add_zero (tw @Int.natCast_zero (tw @Int.mul_zero @jh))),sl (tw @Int.add_zero (tw @Int.natCast_zero (tw @Int.mul_zero @jh)))⟩ ?_
 rintro n_a env_a st_a ⟨j,rfl,ale,a5,a1⟩ dr
 have a0:=dr 0 (by kernel_rfl)
 simp only[go_sem, ↓reduceIte,Nat.reduceEqDiff,Nat.reduceAdd,Nat.reduceSub,Nat.reduceLeDiff,reduceCtorEq,Int.add_zero,Int.natCast_zero,Int.mul_zero,jh]at a0
 clear dr
 by_cases hj:(j:Int)<(m:Int)
 ·have bZ:∀{e:Env},(e 5=.int .i64 (IntKind.i64.wrap ((j:Int)+1)))->(e 1=.int .i64 (k+3*(j+1)))->∃m0,m0<(m)-j/\∃j:Nat,m0=(m)-j/\j<=(m)/\e 5=.int .i64 (j:Int)/\e 1=.int .i64 (k+3*j):=fun x1 x2=>⟨_,ae,j+1,rfl,ae,(by rw[x1,aB ae]),x2⟩
  have eQ:=MY k (n:=m) (j:=j) ae
  have pR:IntKind.i64.wrap (k+3*(j:Int)+1)=k+3*(j:Int)+1:=aJ ae
  have x9:IntKind.i64.wrap (k+3*(j:Int)+1+1)=k+3*(j:Int)+2:=by rw[aJ ae];omega
  have JQ:IntKind.i64.wrap (k+3*(j:Int)+2+1)=k+3*((j:Int)+1):=by rw[aJ ae];omega
  have e1:decide (k+3*(j:Int)=k+3*(j:Int))=true:=decide_eq_true rfl
  have e2:decide (k+3*(j:Int)+1=k+3*(j:Int)+1)=true:=decide_eq_true rfl
  have e3:decide (k+3*(j:Int)+2=k+3*(j:Int)+2)=true:=decide_eq_true rfl
  (try((repeat(revert hN;revert N;apply Pn.out));refine wk (tw @a5 (tw @a1 (tw @a0 (tw @hj (tw @eQ (tw @pR (tw @x9 (tw @JQ (tw @jh (tw @e1 (tw @e2 @e3))))))))))) ?_;(repeat(refine Pn.mk ?_;intro N hN))))
  refine bZ ?_ ?_
  all_goals simp only[go_sem, ↓reduceIte,Nat.reduceEqDiff,Nat.reduceAdd,Nat.reduceSub,Nat.reduceLeDiff,reduceCtorEq,a5,a1,a0,JQ]
 ·have jI:j=m:=ae
  subst jI
  (try((repeat(revert hN;revert N;apply Pn.out));refine wk (tw @a5 (tw @a1 (tw @a0 (tw @hj @jh)))) ?_;(repeat(refine Pn.mk ?_;intro N hN))))
  exact cu (b:=k+3*(j:Int)) (.inl rfl) (sd (tw @a5 (tw @a1 @a0))) rfl
theorem O9 (a b:ah):ak Tryz.prog 60 [.agg (ab a),.agg (ab b)] (.bool (decide (a=b))):=by
 refine ak.body eM rfl fun hl n0=>?_
 clear hl
 by_cases h1:a.bw.dQ=b.bw.dQ
 ·have e1:decide (a.bw.dQ=b.bw.dQ)=true:=decide_eq_true h1
  by_cases h2:a.bw.dH=b.bw.dH
  ·have e2:decide (a.bw.dH=b.bw.dH)=true:=decide_eq_true h2
   by_cases h3:a.bY=b.bY
   ·have e3:decide (a.bY=b.bY)=true:=decide_eq_true h3
    (try((repeat(revert hN;revert N;apply Pn.out));refine wk (tw @ab.eq_1 (tw @e1 (tw @e2 @e3))) ?_;(repeat(refine Pn.mk ?_;intro N hN))))
    exact aZ (b:=true) (.inl rfl) (sd @Nat.zero_add) (decide_eq_true (by obtain⟨⟨_,_⟩,_⟩:=a;obtain⟨⟨_,_⟩,_⟩:=b;simp_all)).symm
   ·have e3:decide (a.bY=b.bY)=false:=decide_eq_false h3
    (try((repeat(revert hN;revert N;apply Pn.out));refine wk (tw @ab.eq_1 (tw @e1 (tw @e2 @e3))) ?_;(repeat(refine Pn.mk ?_;intro N hN))))
    exact aZ (b:=false) (.inl rfl) (sd @Nat.zero_add) (decide_eq_false (by rintro rfl;exact h3 rfl)).symm
  ·have e2:decide (a.bw.dH=b.bw.dH)=false:=decide_eq_false h2
   (try((repeat(revert hN;revert N;apply Pn.out));refine wk (tw @ab.eq_1 (tw @e1 @e2)) ?_;(repeat(refine Pn.mk ?_;intro N hN))))
   exact aZ (b:=false) (.inl rfl) (sd @Nat.zero_add) (decide_eq_false (by rintro rfl;exact h2 rfl)).symm
 ·have e1:decide (a.bw.dQ=b.bw.dQ)=false:=decide_eq_false h1
  (try((repeat(revert hN;revert N;apply Pn.out));refine wk (tw @ab.eq_1 @e1) ?_;(repeat(refine Pn.mk ?_;intro N hN))))
  exact aZ (b:=false) (.inl rfl) (sd @Nat.zero_add) (decide_eq_false (by rintro rfl;exact h1 rfl)).symm
theorem Mf (xs ys:List ah):ak Tryz.prog 22 [.sl (xs.map ab),.sl (ys.map ab)] (.bool (decide (xs=ys))):=
 zW (show nf Tryz.prog 22=some (BW 22 60 3) by kernel_rfl) (fun _=>rfl) wg xs ys O9
theorem vW {L:List ah} {v w:AV} (hv:oO ab L v) (hw:oO ab L w):ak Tryz.prog 22 [v,w] (.bool true):=by
 have h:=Mf L L
 rw[decide_eq_true rfl]at h
 exact h.cut mixed (hv.cut (hw.cut .nil))
theorem Hy (k:Int) (σ:ax):Call Tryz.prog 25 [.ck,.int .i64 k] σ (fun r σ'=>r=.int .i64 k/\tP σ [] σ'.get σ'.next):=by
 refine fj eM rfl fun hl=>?_
 clear hl
 (try((repeat(revert hN;revert N;apply Pn.out));refine wk @Nat.zero_add ?_;(repeat(refine Pn.mk ?_;intro N hN))))
 refine aT (fun n env st=>(env 1=.int .i64 k/\env 5=.int .i64 0/\env 0=.ck)/\σ.next<=st.next/\∀x:Id,st.get x=σ.get x) 0 ⟨⟨sd @Nat.zero_add,sd @Nat.zero_add,sd @Nat.zero_add⟩,bW,fun _=>rfl⟩ ?_
 rintro m e st ⟨⟨a1,a5,a0⟩,an,aF⟩ -
 have d0:decide ((0:Int)<((0:Nat):Int))=false:=rfl
 (try((repeat(revert hN;revert N;apply Pn.out));refine wk (tw @a0 (tw @a1 (tw @a5 @d0))) ?_;(repeat(refine Pn.mk ?_;intro N hN))))
 exact gJ (.inl rfl) (vs:=[.int .i64 k]) (sd @a1) ⟨rfl,⟨bW,fun x hx hi=>aF x⟩⟩
theorem Hz {v:AV} {L:List ah} {ids:List Id} (k:Int) (h0:0<=k) (h1:k+3*L.length<=4611686018427387904) (σ:ax) (hv:∀i∈ids,i.cC<σ.next) (h:lU ab 3 σ.get v L ids):
  Call Tryz.prog 25 [v,.int .i64 k] σ (fun r σ'=>r=.int .i64 (k+3*L.length)/\tP σ ids σ'.get σ'.next/\lU ab 3 σ'.get v (Bk k L.length) ids):=by
 rcases h with⟨rfl,rfl,rfl⟩|⟨o,rfl,h2,rfl,hp⟩
 ·refine aU _ _ _ _ _ (fun r σ' hq=>?_) (Hy k σ)
  obtain⟨rfl,hB⟩:=hq
  exact⟨by simp,hB,.inl ⟨rfl,rfl,rfl⟩⟩
 ·refine aU _ _ _ _ _ (fun r σ' hq=>?_) (J7 o L k h0 h1 σ (hv o (by simp)) h2)
  obtain⟨rfl,hB,hg⟩:=hq
  exact⟨rfl,hB,.inr ⟨o,by rw[jh],hg,rfl,by rw[jh];exact hp⟩⟩
theorem yY {w:AV} (k:Int) (n:Nat) (h0:0<=k) (h1:k+3*n<=4611686018427387904) (hw:oO ab (Bk k n) w):ak Tryz.prog 26 [w,.int .i64 k] (.int .i64 (k+3*n)):=
 (Ju k n h0 h1).cut mixed (hw.cut (.same _ .nil))
def iw (n lo hi:Int):Bool:=decide (lo<=n)&&decide (n<=hi)
theorem dX {n lo hi:Int} (h:iw n lo hi=true):lo<=n/\n<=hi:=by simpa[iw]using h
theorem mC {n lo hi:Int} (h:lo<=n/\n<=hi):iw n lo hi=true:=by simpa[iw]using h
def AI (p:aq):Bool:=iw p.dQ (-60) 60&&iw p.dH (-60) 60
theorem lj (n lo hi:Int):ak Tryz.prog 47 [.int .i64 n,.int .i64 lo,.int .i64 hi] (.bool (iw n lo hi)):=by
 refine ak.body eM rfl fun hl n0=>?_
 clear hl
 by_cases h1:lo<=n
 ·(try((repeat(revert hN;revert N;apply Pn.out));refine wk @h1 ?_;(repeat(refine Pn.mk ?_;intro N hN))))
  exact aZ (b:=decide (n<=hi)) (.inl rfl) (sd @Nat.zero_add) (by simp[iw,h1])
 ·(try((repeat(revert hN;revert N;apply Pn.out));refine wk @h1 ?_;(repeat(refine Pn.mk ?_;intro N hN))))
  exact aZ (b:=false) (.inl rfl) (sd @Nat.zero_add) (by simp[iw,h1])
theorem kP (n lo hi:Int):ak Tryz.prog 103 [.int .i64 n,.int .i64 lo,.int .i64 hi] (.bool (iw n lo hi)):=by
 refine ak.body eM rfl fun hl n0=>?_
 clear hl
 by_cases h1:lo<=n
 ·(try((repeat(revert hN;revert N;apply Pn.out));refine wk @h1 ?_;(repeat(refine Pn.mk ?_;intro N hN))))
  exact aZ (b:=decide (n<=hi)) (.inl rfl) (sd @Nat.zero_add) (by simp[iw,h1])
 ·(try((repeat(revert hN;revert N;apply Pn.out));refine wk @h1 ?_;(repeat(refine Pn.mk ?_;intro N hN))))
  exact aZ (b:=false) (.inl rfl) (sd @Nat.zero_add) (by simp[iw,h1])
theorem JY (d:Int):ak Tryz.prog 172 [.int .i64 d] (.bool (iw d 0 3)):=by
 refine ak.body eM rfl fun hl n0=>?_
 clear hl
 have h:=lj d 0 3
 (repeat(first|((repeat(revert hN;revert N;apply Pn.out));refine wk @Nat.zero_add ?_;(repeat(refine Pn.mk ?_;intro N hN)))|((try apply Or.inl);refine⟨_,ak.x (h) (sd @Nat.zero_add),?_⟩;refine hN _ _ ?_;clear hN N)))
 exact aZ (b:=iw d 0 3) (.inl rfl) (sd @Nat.zero_add) rfl
theorem EI (p:aq):ak Tryz.prog 158 [.agg (aa p)] (.bool (AI p)):=by
 refine ak.body eM rfl fun hl n0=>?_
 clear hl
 have h1:=lj p.dQ (-60) 60
 have h2:=lj p.dH (-60) 60
 by_cases q:iw p.dQ (-60) 60=true
 ·rw[q]at h1
  (repeat(first|((repeat(revert hN;revert N;apply Pn.out));refine wk @aa.eq_1 ?_;(repeat(refine Pn.mk ?_;intro N hN)))|((try apply Or.inl);refine⟨_,ak.x (h1) (sd @aa.eq_1),?_⟩;refine hN _ _ ?_;clear hN N)|((try apply Or.inl);refine⟨_,ak.x (h2) (sd @aa.eq_1),?_⟩;refine hN _ _ ?_;clear hN N)))
  exact aZ (b:=iw p.dH (-60) 60) (.inl rfl) (sd @Nat.zero_add) (by rw[AI,q];rfl)
 ·rw[Bool.not_eq_true]at q
  rw[q]at h1
  (repeat(first|((repeat(revert hN;revert N;apply Pn.out));refine wk @aa.eq_1 ?_;(repeat(refine Pn.mk ?_;intro N hN)))|((try apply Or.inl);refine⟨_,ak.x (h1) (sd @aa.eq_1),?_⟩;refine hN _ _ ?_;clear hN N)|((try apply Or.inl);refine⟨_,ak.x (h2) (sd @aa.eq_1),?_⟩;refine hN _ _ ?_;clear hN N)))
  exact aZ (b:=false) (.inl rfl) (sd @Nat.zero_add) (by rw[AI,q];rfl)
theorem zI (p:aq):ak Tryz.prog 162 [.agg (aa p)] (.bool (AI p)):=by
 refine ak.body eM rfl fun hl n0=>?_
 clear hl
 have h1:=kP p.dQ (-60) 60
 have h2:=kP p.dH (-60) 60
 by_cases q:iw p.dQ (-60) 60=true
 ·rw[q]at h1
  (repeat(first|((repeat(revert hN;revert N;apply Pn.out));refine wk @aa.eq_1 ?_;(repeat(refine Pn.mk ?_;intro N hN)))|((try apply Or.inl);refine⟨_,ak.x (h1) (sd @aa.eq_1),?_⟩;refine hN _ _ ?_;clear hN N)|((try apply Or.inl);refine⟨_,ak.x (h2) (sd @aa.eq_1),?_⟩;refine hN _ _ ?_;clear hN N)))
  exact aZ (b:=iw p.dH (-60) 60) (.inl rfl) (sd @Nat.zero_add) (by rw[AI,q];rfl)
 ·rw[Bool.not_eq_true]at q
  rw[q]at h1
  (repeat(first|((repeat(revert hN;revert N;apply Pn.out));refine wk @aa.eq_1 ?_;(repeat(refine Pn.mk ?_;intro N hN)))|((try apply Or.inl);refine⟨_,ak.x (h1) (sd @aa.eq_1),?_⟩;refine hN _ _ ?_;clear hN N)|((try apply Or.inl);refine⟨_,ak.x (h2) (sd @aa.eq_1),?_⟩;refine hN _ _ ?_;clear hN N)))
  exact aZ (b:=false) (.inl rfl) (sd @Nat.zero_add) (by rw[AI,q];rfl)
def ny (d:Int):Int:=if iw d 0 3 then(d+2) % 4 else -1
def dt (p:aq) (d:Int):aq:=
 if d=0 then⟨p.dQ,p.dH+1⟩else if d=1 then⟨p.dQ+1,p.dH⟩else if d=2 then⟨p.dQ,p.dH-1⟩else if d=3 then⟨p.dQ-1,p.dH⟩else p
def iB (n:Int):Prop:=-4611686018427387904<=n/\n<=4611686018427387904
theorem zf (p:aq) (d:Int) (hd:iw d 0 3=true) (hx:iB p.dQ) (hy:iB p.dH):ak Tryz.prog 98 [.agg (aa p),.int .i64 d] (.agg (aa (dt p d))):=by
 refine ak.body eM rfl fun hl n0=>?_
 clear hl
 obtain⟨x1,x2⟩:=hx
 obtain⟨y1,y2⟩:=hy
 have w1:IntKind.i64.wrap (p.dQ+1)=p.dQ+1:=aJ ae
 have w2:IntKind.i64.wrap (p.dQ-1)=p.dQ-1:=aJ ae
 have w3:IntKind.i64.wrap (p.dH+1)=p.dH+1:=aJ ae
 have w4:IntKind.i64.wrap (p.dH-1)=p.dH-1:=aJ ae
 have hb:=dX hd
 have hc:d=0∨d=1∨d=2∨d=3:=ae
 rcases hc with rfl|rfl|rfl|rfl
 ·(try((repeat(revert hN;revert N;apply Pn.out));refine wk (tw @aa.eq_1 @w3) ?_;(repeat(refine Pn.mk ?_;intro N hN))))
  exact gZ (.inl rfl) (vs:=[.agg (aa (dt p 0))]) (by simp only[go_sem, ↓reduceIte,Nat.reduceEqDiff,Nat.reduceAdd,Nat.reduceSub,Nat.reduceLeDiff,reduceCtorEq,fo,gS,aa,dt]) (by simp[eJ,aa,gw,eh])
 ·(try((repeat(revert hN;revert N;apply Pn.out));refine wk (tw @aa.eq_1 @w1) ?_;(repeat(refine Pn.mk ?_;intro N hN))))
  exact gZ (.inl rfl) (vs:=[.agg (aa (dt p 1))]) (by simp[fo,gS,aa,dt,ld,rowAt,bU,upd,part]) (by simp[eJ,aa,gw,eh])
 ·(try((repeat(revert hN;revert N;apply Pn.out));refine wk (tw @aa.eq_1 @w4) ?_;(repeat(refine Pn.mk ?_;intro N hN))))
  exact gZ (.inl rfl) (vs:=[.agg (aa (dt p 2))]) (by simp[fo,gS,aa,dt,ld,rowAt,bU,upd,part]) (by simp[eJ,aa,gw,eh])
 ·(try((repeat(revert hN;revert N;apply Pn.out));refine wk (tw @aa.eq_1 @w2) ?_;(repeat(refine Pn.mk ?_;intro N hN))))
  exact gZ (.inl rfl) (vs:=[.agg (aa (dt p 3))]) (by simp[fo,gS,aa,dt,ld,rowAt,bU,upd,part]) (by simp[eJ,aa,gw,eh])
theorem AH (p p2:aq) (x y:Int) (hx:IntKind.i64.wrap (p.dQ+p2.dQ)=x) (hy:IntKind.i64.wrap (p.dH+p2.dH)=y):ak Tryz.prog 113 [.agg (aa p),.agg (aa p2)] (.agg [.int .i64 x,.int .i64 y]):=by
 refine ak.body eM rfl fun hl n0=>?_
 clear hl
 (try((repeat(revert hN;revert N;apply Pn.out));refine wk (tw @aa.eq_1 (tw @hx @hy)) ?_;(repeat(refine Pn.mk ?_;intro N hN))))
 exact gZ (.inl rfl) (vs:=[.agg [.int .i64 x,.int .i64 y]]) (by simp only[go_sem, ↓reduceIte,Nat.reduceEqDiff,Nat.reduceAdd,Nat.reduceSub,Nat.reduceLeDiff,reduceCtorEq,fo,gS,aa]) (by simp[eJ,gw,eh])
theorem KG (p:aq) (d:Int) (hd:iw d 0 3=true) (hx:iB p.dQ) (hy:iB p.dH):ak Tryz.prog 58 [.agg (aa p),.int .i64 d] (.agg (aa (dt p d))):=by
 refine ak.body eM rfl fun hl n0=>?_
 clear hl
 obtain⟨x1,x2⟩:=hx
 obtain⟨y1,y2⟩:=hy
 have hb:=dX hd
 have hc:d=0∨d=1∨d=2∨d=3:=ae
 rcases hc with rfl|rfl|rfl|rfl
 ·have h:=AH p ⟨0,1⟩ (p.dQ) (p.dH+1) (by rw[aJ (by constructor<;>simp only<;>omega)]<;>(try simp only)<;>(try omega)) (by rw[aJ (by constructor<;>simp only<;>omega)]<;>(try simp only)<;>(try omega))
  simp only[aa]at h
  (repeat(first|((repeat(revert hN;revert N;apply Pn.out));refine wk @aa.eq_1 ?_;(repeat(refine Pn.mk ?_;intro N hN)))|((try apply Or.inl);refine⟨_,ak.x (h) (sd @aa.eq_1),?_⟩;refine hN _ _ ?_;clear hN N)))
  exact gZ (.inl rfl) (vs:=[.agg (aa (dt p 0))]) (by simp[fo,gS,aa,dt,ld,rowAt,bU,upd,part]) (by simp[eJ,aa,gw,eh])
 ·have h:=AH p ⟨1,0⟩ (p.dQ+1) (p.dH) (by rw[aJ (by constructor<;>simp only<;>omega)]<;>(try simp only)<;>(try omega)) (by rw[aJ (by constructor<;>simp only<;>omega)]<;>(try simp only)<;>(try omega))
  simp only[aa]at h
  (repeat(first|((repeat(revert hN;revert N;apply Pn.out));refine wk @aa.eq_1 ?_;(repeat(refine Pn.mk ?_;intro N hN)))|((try apply Or.inl);refine⟨_,ak.x (h) (sd @aa.eq_1),?_⟩;refine hN _ _ ?_;clear hN N)))
  exact gZ (.inl rfl) (vs:=[.agg (aa (dt p 1))]) (by simp[fo,gS,aa,dt,ld,rowAt,bU,upd,part]) (by simp[eJ,aa,gw,eh])
 ·have h:=AH p ⟨0,(-1)⟩ (p.dQ) (p.dH-1) (by rw[aJ (by constructor<;>simp only<;>omega)]<;>(try simp only)<;>(try omega)) (by rw[aJ (by constructor<;>simp only<;>omega)]<;>(try simp only)<;>(try omega))
  simp only[aa]at h
  (repeat(first|((repeat(revert hN;revert N;apply Pn.out));refine wk @aa.eq_1 ?_;(repeat(refine Pn.mk ?_;intro N hN)))|((try apply Or.inl);refine⟨_,ak.x (h) (sd @aa.eq_1),?_⟩;refine hN _ _ ?_;clear hN N)))
  exact gZ (.inl rfl) (vs:=[.agg (aa (dt p 2))]) (by simp[fo,gS,aa,dt,ld,rowAt,bU,upd,part]) (by simp[eJ,aa,gw,eh])
 ·have h:=AH p ⟨(-1),0⟩ (p.dQ-1) (p.dH) (by rw[aJ (by constructor<;>simp only<;>omega)]<;>(try simp only)<;>(try omega)) (by rw[aJ (by constructor<;>simp only<;>omega)]<;>(try simp only)<;>(try omega))
  simp only[aa]at h
  (repeat(first|((repeat(revert hN;revert N;apply Pn.out));refine wk @aa.eq_1 ?_;(repeat(refine Pn.mk ?_;intro N hN)))|((try apply Or.inl);refine⟨_,ak.x (h) (sd @aa.eq_1),?_⟩;refine hN _ _ ?_;clear hN N)))
  exact gZ (.inl rfl) (vs:=[.agg (aa (dt p 3))]) (by simp[fo,gS,aa,dt,ld,rowAt,bU,upd,part]) (by simp[eJ,aa,gw,eh])
theorem wU (d:Int) (hd:iw d 0 3=true):ak Tryz.prog 59 [.int .i64 d] (.int .i64 (ny d)):=by
 refine ak.body eM rfl fun hl n0=>?_
 clear hl
 have hb:=dX hd
 have hw:IntKind.i64.wrap (d+2)=d+2:=aJ ae
 have ht:Int.tmod (d+2) 4=(d+2) % 4:=Int.tmod_eq_emod_of_nonneg ae
 have h4:¬((4:Int)=0):=ae
 (try((repeat(revert hN;revert N;apply Pn.out));refine wk (tw @hw (tw @ht @h4)) ?_;(repeat(refine Pn.mk ?_;intro N hN))))
 exact cu (b:=(d+2) % 4) (.inl rfl) (sd @Nat.zero_add) (by rw[ny,if_pos hd])
theorem vG (d:Int) (hd:iw d 0 3=true):ak Tryz.prog 149 [.int .i64 d] (.int .i64 (ny d)):=by
 refine ak.body eM rfl fun hl n0=>?_
 clear hl
 have hb:=dX hd
 have hw:IntKind.i64.wrap (d+2)=d+2:=aJ ae
 have ht:Int.tmod (d+2) 4=(d+2) % 4:=Int.tmod_eq_emod_of_nonneg ae
 have h4:¬((4:Int)=0):=ae
 have h:=JY d
 rw[hd]at h
 (repeat(first|((repeat(revert hN;revert N;apply Pn.out));refine wk (tw @hw (tw @ht @h4)) ?_;(repeat(refine Pn.mk ?_;intro N hN)))|((try apply Or.inl);refine⟨_,ak.x (h) (sd (tw @hw (tw @ht @h4))),?_⟩;refine hN _ _ ?_;clear hN N)))
 exact cu (b:=(d+2) % 4) (.inl rfl) (sd @Nat.zero_add) (by rw[ny,if_pos hd])
def gR (s:aw) (t:Int):Bool:=iw t 0 ((s.aj.length:Int)-1)
theorem EJ (s:aw) (t:Int):ak Tryz.prog 119 [.dq (ad s),.int .i64 t] (.bool (gR s t)):=by
 refine ak.body eM rfl fun hl n0=>?_
 have hn:s.aj.length<=9223372036854775807:=by
  have h1:=(hl (.dq (ad s)) (by simp)).Ct (a:=.sl (s.aj.map bm)) (by simp[ad])
  simpa using h1.len
 clear hl
 have hw:IntKind.i64.wrap ((s.aj.length:Int)-1)=(s.aj.length:Int)-1:=aJ ae
 have h:=lj t 0 ((s.aj.length:Int)-1)
 (repeat(first|((repeat(revert hN;revert N;apply Pn.out));refine wk (tw @ad.eq_1 @hw) ?_;(repeat(refine Pn.mk ?_;intro N hN)))|((try apply Or.inl);refine⟨_,ak.x (h) (sd (tw @ad.eq_1 @hw)),?_⟩;refine hN _ _ ?_;clear hN N)))
 exact aZ (b:=gR s t) (.inl rfl) (by simp only[go_sem, ↓reduceIte,Nat.reduceEqDiff,Nat.reduceAdd,Nat.reduceSub,Nat.reduceLeDiff,reduceCtorEq,gR]) rfl
theorem ze (t n:Int) (h0:0<=n) (h1:n<=9223372036854775807):ak Tryz.prog 84 [.int .i64 t,.int .i64 n] (.bool (iw t 0 (n-1))):=by
 refine ak.body eM rfl fun hl n0=>?_
 clear hl
 have hw:IntKind.i64.wrap (n-1)=n-1:=aJ ae
 have h:=kP t 0 (n-1)
 (repeat(first|((repeat(revert hN;revert N;apply Pn.out));refine wk @hw ?_;(repeat(refine Pn.mk ?_;intro N hN)))|((try apply Or.inl);refine⟨_,ak.x (h) (sd @hw),?_⟩;refine hN _ _ ?_;clear hN N)))
 exact aZ (b:=iw t 0 (n-1)) (.inl rfl) (sd @Nat.zero_add) rfl
theorem JX (s:aw) (t:Int):ak Tryz.prog 133 [.agg (ad s),.int .i64 t] (.bool (gR s t)):=by
 refine ak.body eM rfl fun hl n0=>?_
 have hn:s.aj.length<=9223372036854775807:=by
  have h1:=(hl (.agg (ad s)) (by simp)).OL (a:=.sl (s.aj.map bm)) (by simp[ad])
  simpa using h1.len
 clear hl
 have h:=ze t s.aj.length ae ae
 (repeat(first|((repeat(revert hN;revert N;apply Pn.out));refine wk @ad.eq_1 ?_;(repeat(refine Pn.mk ?_;intro N hN)))|((try apply Or.inl);refine⟨_,ak.x (h) (sd @ad.eq_1),?_⟩;refine hN _ _ ?_;clear hN N)))
 exact aZ (b:=gR s t) (.inl rfl) (by simp only[go_sem, ↓reduceIte,Nat.reduceEqDiff,Nat.reduceAdd,Nat.reduceSub,Nat.reduceLeDiff,reduceCtorEq,gR]) rfl
def EV:fb:=⟨⟨#[]⟩,[]⟩
def dL (s:aw) (t:Int):fb:=s.aj.getD t.toNat EV
def dK (t:fb) (d:Int):Int:=t.bD.getD d.toNat 0
def td (s:aw) (g:Int):fM:=s.az.getD g.toNat ⟨⟨#[]⟩,0⟩
def xk (s:aw) (g:Int):Int:=if g=0 then 0 else(td s (g-1)).eP
def jG (s:aw) (a d b:Int):Int:=if dK (dL s a) d=dK (dL s b) (ny d)then xk s (dK (dL s a) d)else 0
structure jb (s:aw):Prop where
 pD:∀t∈s.aj,t.bD.length=4
 yX:∀t∈s.aj,∀g∈t.bD,0<=g/\g<=s.az.length
theorem getD_map {α β:Type} (e:α->β) {l:List α} {k:Nat} {d:α} (h:k<l.length):(l.map e)[k]? =some (e (l.getD k d)):=by simp[List.getD_eq_getElem?_getD,h]
theorem yc (s:aw) (g:Int) (h0:0<=g) (h1:g<=s.az.length):ak Tryz.prog 195 [.dq (ad s),.int .i64 g] (.int .i64 (xk s g)):=by
 refine ak.body eM rfl fun hl n0=>?_
 have hn:s.az.length<=9223372036854775807:=by
  have h1:=(hl (.dq (ad s)) (by simp)).Ct (a:=.sl (s.az.map bI)) (by simp[ad])
  simpa using h1.len
 clear hl
 by_cases hg:g=0
 ·have e:decide (g=0)=true:=decide_eq_true hg
  (try((repeat(revert hN;revert N;apply Pn.out));refine wk (tw @ad.eq_1 @e) ?_;(repeat(refine Pn.mk ?_;intro N hN))))
  exact cu (b:=0) (.inl rfl) (sd @Nat.zero_add) (by rw[xk,if_pos hg])
 ·have e:decide (g=0)=false:=decide_eq_false hg
  have hw:IntKind.i64.wrap (g-1)=g-1:=aJ ae
  have mz:0<=g-1:=ae
  have eQ:(s.az.map bI)[(g-1).toNat]? =some (bI (td s (g-1))):=getD_map bI ae
  (try((repeat(revert hN;revert N;apply Pn.out));refine wk (tw @ad.eq_1 (tw @e (tw @hw (tw @mz (tw @eQ @bI.eq_1))))) ?_;(repeat(refine Pn.mk ?_;intro N hN))))
  exact cu (b:=(td s (g-1)).eP) (.inl rfl) (sd @Nat.zero_add) (by rw[xk,if_neg hg])
theorem j5 {s:aw} {a:Int} (h:gR s a=true):0<=a/\(s.aj.map bm)[a.toNat]? =some (bm (dL s a))/\dL s a∈s.aj:=by
 have h':=dX h
 have dO:a.toNat<s.aj.length:=ae
 refine⟨h'.1,getD_map bm dO,?_⟩
 unfold dL
 rw[List.getD_eq_getElem?_getD,List.getElem?_eq_getElem dO]
 exact List.getElem_mem dO
theorem j4 {t:fb} {d:Int} (h:t.bD.length=4) (hd:iw d 0 3=true):(t.bD.map aX)[d.toNat]? =some [.int .i64 (dK t d)]:=by
 have:=dX hd
 exact getD_map aX ae
theorem C4 {t:fb} {d:Int} (h:t.bD.length=4) (hd:iw d 0 3=true):dK t d∈t.bD:=by
 have:=dX hd
 have dO:d.toNat<t.bD.length:=ae
 unfold dK
 rw[List.getD_eq_getElem?_getD,List.getElem?_eq_getElem dO]
 exact List.getElem_mem dO
theorem tF {d:Int} (hd:iw d 0 3=true):iw (ny d) 0 3=true:=by
 have:=dX hd
 refine mC ?_
 rw[ny,if_pos hd];omega
theorem Hn (s:aw) (hF:jb s) (a d b:Int) (ha:gR s a=true) (hb:gR s b=true) (hd:iw d 0 3=true):ak Tryz.prog 180 [.dq (ad s),.int .i64 a,.int .i64 d,.int .i64 b] (.int .i64 (jG s a d b)):=by
 refine ak.body eM rfl fun hl n0=>?_
 clear hl
 obtain⟨a0,a1,a2⟩:=j5 ha
 obtain⟨b0,b1,b2⟩:=j5 hb
 have s1:=j4 (hF.pD _ a2) hd
 have s2:=j4 (hF.pD _ b2) (tF hd)
 have gl:=hF.yX _ a2 _ (C4 (hF.pD _ a2) hd)
 have d0:=(dX hd).1
 have d1:=(dX (tF hd)).1
 have h:=vG d hd
 have hs:=yc s (dK (dL s a) d) gl.1 gl.2
 rw[ad]at hs
 by_cases e:dK (dL s a) d=dK (dL s b) (ny d)
 ·have e':decide (dK (dL s a) d=dK (dL s b) (ny d))=true:=decide_eq_true e
  (repeat(first|((repeat(revert hN;revert N;apply Pn.out));refine wk (tw @ad.eq_1 (tw @bm.eq_1 (tw @a0 (tw @a1 (tw @b0 (tw @b1 (tw @s1 (tw @s2 (tw @d0 (tw @d1 @e')))))))))) ?_;(repeat(refine Pn.mk ?_;intro N hN)))|((try apply Or.inl);refine⟨_,ak.x (h) (sd (tw @ad.eq_1 (tw @bm.eq_1 (tw @a0 (tw @a1 (tw @b0 (tw @b1 (tw @s1 (tw @s2 (tw @d0 (tw @d1 @e'))))))))))),?_⟩;refine hN _ _ ?_;clear hN N)|((try apply Or.inl);refine⟨_,ak.x (hs) (sd (tw @ad.eq_1 (tw @bm.eq_1 (tw @a0 (tw @a1 (tw @b0 (tw @b1 (tw @s1 (tw @s2 (tw @d0 (tw @d1 @e'))))))))))),?_⟩;refine hN _ _ ?_;clear hN N)))
  exact cu (b:=xk s (dK (dL s a) d)) (.inl rfl) (sd @Nat.zero_add) (by rw[jG,if_pos e])
 ·have e':decide (dK (dL s a) d=dK (dL s b) (ny d))=false:=decide_eq_false e
  (repeat(first|((repeat(revert hN;revert N;apply Pn.out));refine wk (tw @ad.eq_1 (tw @bm.eq_1 (tw @a0 (tw @a1 (tw @b0 (tw @b1 (tw @s1 (tw @s2 (tw @d0 (tw @d1 @e')))))))))) ?_;(repeat(refine Pn.mk ?_;intro N hN)))|((try apply Or.inl);refine⟨_,ak.x (h) (sd (tw @ad.eq_1 (tw @bm.eq_1 (tw @a0 (tw @a1 (tw @b0 (tw @b1 (tw @s1 (tw @s2 (tw @d0 (tw @d1 @e'))))))))))),?_⟩;refine hN _ _ ?_;clear hN N)))
  exact cu (b:=0) (.inl rfl) (sd @Nat.zero_add) (by rw[jG,if_neg e])
theorem Fi (s:aw) (hF:jb s) (a d:Int) (ha:gR s a=true) (hd:iw d 0 3=true):ak Tryz.prog 181 [.agg (ad s),.int .i64 a,.int .i64 d] (.int .i64 (xk s (dK (dL s a) d))):=by
 refine ak.body eM rfl fun hl n0=>?_
 have hn:s.az.length<=9223372036854775807:=by
  have h1:=(hl (.agg (ad s)) (by simp)).OL (a:=.sl (s.az.map bI)) (by simp[ad])
  simpa using h1.len
 clear hl
 obtain⟨a0,a1,a2⟩:=j5 ha
 have s1:=j4 (hF.pD _ a2) hd
 have gl:=hF.yX _ a2 _ (C4 (hF.pD _ a2) hd)
 have d0:=(dX hd).1
 by_cases hg:dK (dL s a) d=0
 ·have e:¬(0<dK (dL s a) d):=ae
  (try((repeat(revert hN;revert N;apply Pn.out));refine wk (tw @ad.eq_1 (tw @bm.eq_1 (tw @a0 (tw @a1 (tw @s1 (tw @d0 @e)))))) ?_;(repeat(refine Pn.mk ?_;intro N hN))))
  exact cu (b:=0) (.inl rfl) (sd @Nat.zero_add) (by rw[xk,if_pos hg])
 ·have e:0<dK (dL s a) d:=ae
  have hw:IntKind.i64.wrap (dK (dL s a) d-1)=dK (dL s a) d-1:=aJ ae
  have mz:0<=dK (dL s a) d-1:=ae
  have eQ:(s.az.map bI)[(dK (dL s a) d-1).toNat]? =some (bI (td s (dK (dL s a) d-1))):=getD_map bI ae
  (try((repeat(revert hN;revert N;apply Pn.out));refine wk (tw @ad.eq_1 (tw @bm.eq_1 (tw @a0 (tw @a1 (tw @s1 (tw @d0 (tw @e (tw @hw (tw @mz (tw @eQ @bI.eq_1)))))))))) ?_;(repeat(refine Pn.mk ?_;intro N hN))))
  exact cu (b:=(td s (dK (dL s a) d-1)).eP) (.inl rfl) (sd @Nat.zero_add) (by rw[xk,if_neg hg])
theorem OU (s:aw) (hF:jb s) (a d b:Int) (ha:gR s a=true) (hb:gR s b=true) (hd:iw d 0 3=true):ak Tryz.prog 164 [.agg (ad s),.int .i64 a,.int .i64 d,.int .i64 b] (.int .i64 (jG s a d b)):=by
 refine ak.body eM rfl fun hl n0=>?_
 clear hl
 obtain⟨a0,a1,a2⟩:=j5 ha
 obtain⟨b0,b1,b2⟩:=j5 hb
 have s1:=j4 (hF.pD _ a2) hd
 have s2:=j4 (hF.pD _ b2) (tF hd)
 have d0:=(dX hd).1
 have d1:=(dX (tF hd)).1
 have h:=wU d hd
 have hs:=Fi s hF a d ha hd
 rw[ad]at hs
 by_cases e:dK (dL s a) d=dK (dL s b) (ny d)
 ·have e':decide (dK (dL s a) d=dK (dL s b) (ny d))=true:=decide_eq_true e
  (repeat(first|((repeat(revert hN;revert N;apply Pn.out));refine wk (tw @ad.eq_1 (tw @bm.eq_1 (tw @a0 (tw @a1 (tw @b0 (tw @b1 (tw @s1 (tw @s2 (tw @d0 (tw @d1 @e')))))))))) ?_;(repeat(refine Pn.mk ?_;intro N hN)))|((try apply Or.inl);refine⟨_,ak.x (h) (sd (tw @ad.eq_1 (tw @bm.eq_1 (tw @a0 (tw @a1 (tw @b0 (tw @b1 (tw @s1 (tw @s2 (tw @d0 (tw @d1 @e'))))))))))),?_⟩;refine hN _ _ ?_;clear hN N)|((try apply Or.inl);refine⟨_,ak.x (hs) (sd (tw @ad.eq_1 (tw @bm.eq_1 (tw @a0 (tw @a1 (tw @b0 (tw @b1 (tw @s1 (tw @s2 (tw @d0 (tw @d1 @e'))))))))))),?_⟩;refine hN _ _ ?_;clear hN N)))
  exact cu (b:=xk s (dK (dL s a) d)) (.inl rfl) (sd @Nat.zero_add) (by rw[jG,if_pos e])
 ·have e':decide (dK (dL s a) d=dK (dL s b) (ny d))=false:=decide_eq_false e
  (repeat(first|((repeat(revert hN;revert N;apply Pn.out));refine wk (tw @ad.eq_1 (tw @bm.eq_1 (tw @a0 (tw @a1 (tw @b0 (tw @b1 (tw @s1 (tw @s2 (tw @d0 (tw @d1 @e')))))))))) ?_;(repeat(refine Pn.mk ?_;intro N hN)))|((try apply Or.inl);refine⟨_,ak.x (h) (sd (tw @ad.eq_1 (tw @bm.eq_1 (tw @a0 (tw @a1 (tw @b0 (tw @b1 (tw @s1 (tw @s2 (tw @d0 (tw @d1 @e'))))))))))),?_⟩;refine hN _ _ ?_;clear hN N)))
  exact cu (b:=0) (.inl rfl) (sd @Nat.zero_add) (by rw[jG,if_neg e])
def qC (s:aw) (i:Nat):fM:=s.az.getD i ⟨⟨#[]⟩,0⟩
def pG (s:aw) (i:Nat):fb:=s.aj.getD i EV
def DD (s:aw) (i:Nat):Prop:=kg (qC s i).aE=true/\iw (qC s i).eP 1 4=true/\∀j,j<i->(qC s j).aE≠(qC s i).aE
def Br (s:aw) (i:Nat):Prop:=kg (pG s i).aE=true/\(pG s i).bD.length=4/\(∀j,j<i->(pG s j).aE≠(pG s i).aE)/\∀g∈(pG s i).bD,iw g 0 s.az.length=true
structure mV (s:aw):Prop where
 yX:s.az.length<=200
 some:1<=s.aj.length
 Oz:s.aj.length<=160
 U8:∀i,i<s.az.length->DD s i
 tok:∀i,i<s.aj.length->Br s i
noncomputable def rD (s:aw):Bool:=@decide (mV s) (Classical.propDecidable _)
theorem nA {s:aw}:rD s=true↔mV s:=by simp[rD]
theorem fR {s:aw} (h:¬mV s):false=rD s:=by simp[rD,h]
theorem C3 {s:aw} (h:mV s):true=rD s:=by simp[rD,h]
theorem AW {s:aw} {i:Nat} (h:i<s.aj.length):(s.aj.map bm)[i]? =some (bm (pG s i)):=getD_map bm h
theorem z8 {s:aw} {i:Nat} (h:i<s.az.length):(s.az.map bI)[i]? =some (bI (qC s i)):=getD_map bI h
theorem mV.form {s:aw} (h:mV s):jb s:=by
 have key:∀t∈s.aj,∃i,i<s.aj.length/\t=pG s i:=fun t ht=>by
  obtain⟨i,hi,rfl⟩:=List.getElem_of_mem ht
  exact⟨i,hi,by simp[pG,List.getD_eq_getElem?_getD,hi]⟩
 refine⟨fun t ht=>?_,fun t ht g hg=>?_⟩
 ·obtain⟨i,hi,rfl⟩:=key t ht
  exact(h.tok i hi).2.1
 ·obtain⟨i,hi,rfl⟩:=key t ht
  exact dX ((h.tok i hi).2.2.2 g hg)
def dJ (l:List ByteArray):List (List AV):=l.map fun n=>[.str n,.bool true]
abbrev mS:MK:=⟨false,[.tS]⟩
theorem zu (n:ByteArray):∀(l:List ByteArray) (i:Nat),∃r,jk mS [.str n] (dJ l) i=some r/\((r=none/\n∉l)∨∃j,r=some (i+j)/\n∈l/\(dJ l)[j]? =some [.str n,.bool true])
 |[],i=>⟨none,rfl,.inl ⟨rfl,by simp⟩⟩
 |m::l,i=>by
  obtain⟨r,h1,h2⟩:=zu n l (i+1)
  by_cases h:n=m
  ·subst h
   exact⟨some i,by simp[dJ,jk,fq,gj,MK.ks],.inr ⟨0,rfl,by simp,rfl⟩⟩
  ·refine⟨r,?_,?_⟩
   ·unfold dJ at h1 ⊢
    simp only[List.map_cons,jk,MK.ks,List.length_cons,List.length_nil,Nat.zero_add,List.take_succ_cons,List.take_zero,fq,gj,h,decide_false,Bool.and_true]
    exact h1
   ·rcases h2 with⟨rfl,h2⟩|⟨j,rfl,h2,h3⟩
    ·exact .inl ⟨rfl,by simp[h,h2]⟩
    ·exact .inr ⟨j+1,by congr 1;omega,by simp[h2],by simpa[dJ]using h3⟩
theorem xi (n:ByteArray) (l:List ByteArray):(n∉l/\iV mS (.str n) (dJ l)=some none)∨∃j,n∈l/\iV mS (.str n) (dJ l)=some (some j)/\(dJ l)[j]? =some [.str n,.bool true]:=by
 obtain⟨r,h1,h2⟩:=zu n l 0
 have e:iV mS (.str n) (dJ l)=some r:=by
  unfold iV
  rw[if_pos ⟨rfl,rfl,rfl⟩];exact h1
 rcases h2 with⟨rfl,h2⟩|⟨j,rfl,h2,h3⟩
 ·exact .inl ⟨h2,e⟩
 ·exact .inr ⟨j,h2,by rw[e,Nat.zero_add],h3⟩
theorem Qt (s:aw) (g:Int):ak Tryz.prog 128 [.int .i64 g,.dq (ad s)] (.bool (!iw g 0 s.az.length)):=by
 refine ak.body eM rfl fun hl n0=>?_
 clear hl
 have h:=kP g 0 s.az.length
 (repeat(first|((repeat(revert hN;revert N;apply Pn.out));refine wk @ad.eq_1 ?_;(repeat(refine Pn.mk ?_;intro N hN)))|((try apply Or.inl);refine⟨_,ak.x (h) (sd @ad.eq_1),?_⟩;refine hN _ _ ?_;clear hN N)))
 exact aZ (b:= !iw g 0 s.az.length) (.inl rfl) (sd @Nat.zero_add) rfl
theorem Mc:QW aX (fun c=>.int .i64 c) 1 false:=⟨fun _=>rfl,fun _=>rfl,fun x g=>by rw[ai,aD,ao];rfl⟩
theorem Nt (s:aw) (l:List Int) (hl:l.length<=1048576):ak Tryz.prog 127 [.sl (l.map aX),.fn 128 [.dq (ad s)]] (.bool (l.any fun g=> !iw g 0 s.az.length)):=
 o7 Mc (show nf Tryz.prog 127=some (Ek 127 161) by kernel_rfl)
  (show nf Tryz.prog 161=some (tq 161 1 false) by kernel_rfl) l hl _ _ _ rfl (fun g=>by rw[ai,aV,ao];rfl) (fun x _=>Qt s x) fun g=>by rw[ai,aV,ao];rfl
theorem wR {α:Type} (f:Nat->α) (n k:Nat) (x:α):x∉(List.range k).map f↔∀j,j<k->f j≠x:=by
 constructor
 ·intro h j hj he
  exact h (List.mem_map.2 ⟨j,List.mem_range.2 hj,he⟩)
 ·intro h hm
  obtain⟨j,hj,he⟩:=List.mem_map.1 hm
  exact h j (List.mem_range.1 hj) he
theorem DG (s:aw) (hn:gy s) (hg:s.az.length<=1048576) (ht:s.aj.length<=1048576) (hs:∀t∈s.aj,t.bD.length<=1048576):ak Tryz.prog 74 [.agg (ad s)] (.bool (rD s)):=by
 refine ak.body eM rfl fun hl n0=>?_
 clear hl
 have SK:∀i,i<s.az.length->(qC s i).aE.size<=9223372036854775807:=fun i hi=>hn.1 _ (by simp[qC,List.getD_eq_getElem?_getD,hi])
 have V5:∀i,i<s.aj.length->(pG s i).aE.size<=9223372036854775807:=fun i hi=>hn.2 _ (by simp[pG,List.getD_eq_getElem?_getD,hi])
 have xZ:∀i,i<s.aj.length->(pG s i).bD.length<=1048576:=fun i hi=>hs _ (by simp[pG,List.getD_eq_getElem?_getD,hi])
 have hw:=kP (s.aj.length:Int) 1 160
 by_cases h1:(200:Int)<(s.az.length:Int)
 ·(try((repeat(revert hN;revert N;apply Pn.out));refine wk (tw @ad.eq_1 @h1) ?_;(repeat(refine Pn.mk ?_;intro N hN))))
  exact aZ (b:=false) (.inl rfl) (sd @Nat.zero_add) (fR fun h=>by have:=h.yX;omega)
 by_cases h2:iw (s.aj.length:Int) 1 160=true
 ·have Dm:=dX h2
  rw[h2]at hw
  (repeat(first|((repeat(revert hN;revert N;apply Pn.out));refine wk (tw @ad.eq_1 @h1) ?_;(repeat(refine Pn.mk ?_;intro N hN)))|((try apply Or.inl);refine⟨_,ak.x (hw) (sd (tw @ad.eq_1 @h1)),?_⟩;refine hN _ _ ?_;clear hN N)))
  refine aT (fun n env st=>∃k:Nat,n=(s.az.length)-k/\k<=(s.az.length)/\env 24=.int .i64 (k:Int)/\st.get ⟨74000000,n0⟩=some ⟨true,2,[ad s]⟩/\st.get ⟨74003000,n0+1+1⟩=some ⟨true,mS.AM,dJ ((List.range k).map fun i=>(qC s i).aE)⟩/\(∀j:Nat,j<k->DD s j)) (s.az.length) ⟨0,ae,ae,by(try simp only[go_sem, ↓reduceIte,Nat.reduceEqDiff,Nat.reduceAdd,Nat.reduceSub,Nat.reduceLeDiff,reduceCtorEq,ad,List.range_zero,List.map_nil,dJ]);try rfl,by(try simp only[go_sem, ↓reduceIte,Nat.reduceEqDiff,Nat.reduceAdd,Nat.reduceSub,Nat.reduceLeDiff,reduceCtorEq,ad,List.range_zero,List.map_nil,dJ]);try rfl,by(try simp only[go_sem, ↓reduceIte,Nat.reduceEqDiff,Nat.reduceAdd,Nat.reduceSub,Nat.reduceLeDiff,reduceCtorEq,ad,List.range_zero,List.map_nil,dJ]);try rfl,fun _ h=>absurd h (Nat.not_lt_zero _)⟩ ?_
  rintro n_a env_a st_a ⟨k,rfl,ale,a24,ag0,ag1,lV⟩ dr
  have a1:=dr 1 (by kernel_rfl);have a3:=dr 3 (by kernel_rfl);have a22:=dr 22 (by kernel_rfl);have a23:=dr 23 (by kernel_rfl)
  simp only[go_sem, ↓reduceIte,Nat.reduceEqDiff,Nat.reduceAdd,Nat.reduceSub,Nat.reduceLeDiff,reduceCtorEq,ad,List.range_zero,List.map_nil,dJ]at a1 a3 a22 a23
  clear dr
  by_cases hk:(k:Int)<(s.az.length:Int)
  ·have bZ:∀{e:Env} {gg:Rows},(e 24=.int .i64 (IntKind.i64.wrap ((k:Int)+1)))->(gg ⟨74000000,n0⟩=some ⟨true,2,[ad s]⟩)->(gg ⟨74003000,n0+1+1⟩=some ⟨true,mS.AM,dJ ((List.range (k+1)).map fun i=>(qC s i).aE)⟩)->(DD s k)->∃m0,m0<(s.az.length)-k/\∃k:Nat,m0=(s.az.length)-k/\k<=(s.az.length)/\e 24=.int .i64 (k:Int)/\gg ⟨74000000,n0⟩=some ⟨true,2,[ad s]⟩/\gg ⟨74003000,n0+1+1⟩=some ⟨true,mS.AM,dJ ((List.range k).map fun i=>(qC s i).aE)⟩/\(∀j:Nat,j<k->DD s j):=fun x1 x2 x3 x4=>⟨_,ae,k+1,rfl,ae,(by rw[x1,aB ae]),x2,x3,(all_succ lV x4)⟩
   have fK:k<s.az.length:=ae
   have fe:=z8 fK
   have sQ:=F4 (qC s k).aE (SK k fK)
   have Lz:=kP (qC s k).eP 1 4
   have Cj:=xi (qC s k).aE ((List.range k).map fun i=>(qC s i).aE)
   rw[wR _ k]at Cj
   have jA:(¬DD s k)->¬mV s:=fun h hp=>h (hp.U8 k fK)
   generalize oy:qC s k=gl at *
   cases hb:kg gl.aE
   ·rw[hb]at sQ
    (repeat(first|((repeat(revert hN;revert N;apply Pn.out));refine wk (tw @a24 (tw @ag0 (tw @ag1 (tw @a1 (tw @a3 (tw @a22 (tw @a23 (tw @hk (tw @fe (tw @bI.eq_1 @ad.eq_1)))))))))) ?_;(repeat(refine Pn.mk ?_;intro N hN)))|((try apply Or.inl);refine⟨_,ak.x (sQ) (sd (tw @a24 (tw @ag0 (tw @ag1 (tw @a1 (tw @a3 (tw @a22 (tw @a23 (tw @hk (tw @fe (tw @bI.eq_1 @ad.eq_1))))))))))),?_⟩;refine hN _ _ ?_;clear hN N)))
    exact aZ (b:=false) (.inl rfl) (sd @Nat.zero_add) (fR (jA fun h=>by rw[DD,oy,hb]at h;cases h.1))
   ·rw[hb]at sQ
    rcases Cj with⟨Eo,nk⟩|⟨j,fB,nk,fh⟩
    ·cases dR:iw gl.eP 1 4
     ·rw[dR]at Lz
      (repeat(first|((repeat(revert hN;revert N;apply Pn.out));refine wk (tw @a24 (tw @ag0 (tw @ag1 (tw @a1 (tw @a3 (tw @a22 (tw @a23 (tw @hk (tw @fe (tw @nk (tw @bI.eq_1 @ad.eq_1))))))))))) ?_;(repeat(refine Pn.mk ?_;intro N hN)))|((try apply Or.inl);refine⟨_,ak.x (sQ) (sd (tw @a24 (tw @ag0 (tw @ag1 (tw @a1 (tw @a3 (tw @a22 (tw @a23 (tw @hk (tw @fe (tw @nk (tw @bI.eq_1 @ad.eq_1)))))))))))),?_⟩;refine hN _ _ ?_;clear hN N)|((try apply Or.inl);refine⟨_,ak.x (Lz) (sd (tw @a24 (tw @ag0 (tw @ag1 (tw @a1 (tw @a3 (tw @a22 (tw @a23 (tw @hk (tw @fe (tw @nk (tw @bI.eq_1 @ad.eq_1)))))))))))),?_⟩;refine hN _ _ ?_;clear hN N)))
      exact aZ (b:=false) (.inl rfl) (sd @Nat.zero_add) (fR (jA fun h=>by rw[DD,oy,dR]at h;cases h.2.1))
     ·rw[dR]at Lz
      have mT:dJ ((List.range k).map fun i=>(qC s i).aE)++[[.str gl.aE,.bool true]]=dJ (List.map (fun i=>(qC s i).aE) (List.range k++[k])):=by simp[dJ,oy]
      (repeat(first|((repeat(revert hN;revert N;apply Pn.out));refine wk (tw @a24 (tw @ag0 (tw @ag1 (tw @a1 (tw @a3 (tw @a22 (tw @a23 (tw @hk (tw @fe (tw @nk (tw @bI.eq_1 @ad.eq_1))))))))))) ?_;(repeat(refine Pn.mk ?_;intro N hN)))|((try apply Or.inl);refine⟨_,ak.x (sQ) (sd (tw @a24 (tw @ag0 (tw @ag1 (tw @a1 (tw @a3 (tw @a22 (tw @a23 (tw @hk (tw @fe (tw @nk (tw @bI.eq_1 @ad.eq_1)))))))))))),?_⟩;refine hN _ _ ?_;clear hN N)|((try apply Or.inl);refine⟨_,ak.x (Lz) (sd (tw @a24 (tw @ag0 (tw @ag1 (tw @a1 (tw @a3 (tw @a22 (tw @a23 (tw @hk (tw @fe (tw @nk (tw @bI.eq_1 @ad.eq_1)))))))))))),?_⟩;refine hN _ _ ?_;clear hN N)))
      refine bZ ?_ ?_ ?_ (⟨by rw[oy];exact hb,by rw[oy];exact dR,fun j hj=>by rw[oy];exact Eo j hj⟩)
      all_goals simp only[go_sem, ↓reduceIte,Nat.reduceEqDiff,Nat.reduceAdd,Nat.reduceSub,Nat.reduceLeDiff,reduceCtorEq,a24,ag0,ag1,a1,a3,a22,a23,nk,mT]
    ·(repeat(first|((repeat(revert hN;revert N;apply Pn.out));refine wk (tw @a24 (tw @ag0 (tw @ag1 (tw @a1 (tw @a3 (tw @a22 (tw @a23 (tw @hk (tw @fe (tw @nk (tw @fh (tw @bI.eq_1 @ad.eq_1)))))))))))) ?_;(repeat(refine Pn.mk ?_;intro N hN)))|((try apply Or.inl);refine⟨_,ak.x (sQ) (sd (tw @a24 (tw @ag0 (tw @ag1 (tw @a1 (tw @a3 (tw @a22 (tw @a23 (tw @hk (tw @fe (tw @nk (tw @fh (tw @bI.eq_1 @ad.eq_1))))))))))))),?_⟩;refine hN _ _ ?_;clear hN N)))
     exact aZ (b:=false) (.inl rfl) (sd @Nat.zero_add) (fR (jA fun h=>by
      rw[DD,oy]at h
      obtain⟨i,hi,he⟩:=List.mem_map.1 fB
      exact h.2.2 i (List.mem_range.1 hi) he))
  ·have mQ:k=s.az.length:=ae
   (try((repeat(revert hN;revert N;apply Pn.out));refine wk (tw @a24 (tw @ag0 (tw @ag1 (tw @a1 (tw @a3 (tw @a22 (tw @a23 (tw @hk @ad.eq_1)))))))) ?_;(repeat(refine Pn.mk ?_;intro N hN))))
   refine aT (fun n env st=>∃j:Nat,n=(s.aj.length)-j/\j<=(s.aj.length)/\env 52=.int .i64 (j:Int)/\st.get ⟨74000000,n0⟩=some ⟨true,2,[ad s]⟩/\st.get ⟨74011000,st_a.next+1⟩=some ⟨true,mS.AM,dJ ((List.range j).map fun i=>(pG s i).aE)⟩/\(∀i:Nat,i<j->Br s i)/\(st_a.next<st.next)) (s.aj.length) ⟨0,ae,ae,by(try simp only[go_sem, ↓reduceIte,Nat.reduceEqDiff,Nat.reduceAdd,Nat.reduceSub,Nat.reduceLeDiff,reduceCtorEq,a24,ag0,ag1,a1,a3,a22,a23,ad,List.range_zero,List.map_nil,dJ]);try rfl,by(try simp only[go_sem, ↓reduceIte,Nat.reduceEqDiff,Nat.reduceAdd,Nat.reduceSub,Nat.reduceLeDiff,reduceCtorEq,a24,ag0,ag1,a1,a3,a22,a23,ad,List.range_zero,List.map_nil,dJ]);try rfl,by(try simp only[go_sem, ↓reduceIte,Nat.reduceEqDiff,Nat.reduceAdd,Nat.reduceSub,Nat.reduceLeDiff,reduceCtorEq,a24,ag0,ag1,a1,a3,a22,a23,ad,List.range_zero,List.map_nil,dJ]);try rfl,fun _ h=>absurd h (Nat.not_lt_zero _),bW⟩ ?_
   rintro n_b env_b st_b ⟨j,rfl,ble,b52,bg0,bg1,bA0,bI0⟩ bfr
   have b1:=bfr 1 (by kernel_rfl);have b6:=bfr 6 (by kernel_rfl);have DI:=bfr 50 (by kernel_rfl);have DJ:=bfr 51 (by kernel_rfl)
   simp only[go_sem, ↓reduceIte,Nat.reduceEqDiff,Nat.reduceAdd,Nat.reduceSub,Nat.reduceLeDiff,reduceCtorEq,a24,ag0,ag1,a1,a3,a22,a23,ad,List.range_zero,List.map_nil,dJ]at b1 b6 DI DJ
   clear bfr
   by_cases hj:(j:Int)<(s.aj.length:Int)
   ·have gY:∀{e:Env} {gg:Rows} {nx:Nat},(e 52=.int .i64 (IntKind.i64.wrap ((j:Int)+1)))->(gg ⟨74000000,n0⟩=some ⟨true,2,[ad s]⟩)->(gg ⟨74011000,st_a.next+1⟩=some ⟨true,mS.AM,dJ ((List.range (j+1)).map fun i=>(pG s i).aE)⟩)->(Br s j)->(st_a.next<nx)->∃m0,m0<(s.aj.length)-j/\∃j:Nat,m0=(s.aj.length)-j/\j<=(s.aj.length)/\e 52=.int .i64 (j:Int)/\gg ⟨74000000,n0⟩=some ⟨true,2,[ad s]⟩/\gg ⟨74011000,st_a.next+1⟩=some ⟨true,mS.AM,dJ ((List.range j).map fun i=>(pG s i).aE)⟩/\(∀i:Nat,i<j->Br s i)/\(st_a.next<nx):=fun x1 x2 x3 x4 x5=>⟨_,ae,j+1,rfl,ae,(by rw[x1,aB ae]),x2,x3,(all_succ bA0 x4),x5⟩
    have jI:j<s.aj.length:=ae
    have oA:=AW jI
    have sQ:=F4 (pG s j).aE (V5 j jI)
    have Uw:=Nt s (pG s j).bD (xZ j jI)
    have Cj:=xi (pG s j).aE ((List.range j).map fun i=>(pG s i).aE)
    rw[wR _ j]at Cj
    have jA:(¬Br s j)->¬mV s:=fun h hp=>h (hp.tok j jI)
    have gI:(⟨74011000,st_a.next+1⟩:Id)≠⟨74000000,n0⟩:=by simp
    generalize htd:pG s j=tl at *
    cases hb:kg tl.aE
    ·rw[hb]at sQ
     (repeat(first|((repeat(revert hN;revert N;apply Pn.out));refine wk (tw @b52 (tw @bg0 (tw @bg1 (tw @b1 (tw @b6 (tw @DI (tw @DJ (tw @hj (tw @oA (tw @bm.eq_1 @ad.eq_1)))))))))) ?_;(repeat(refine Pn.mk ?_;intro N hN)))|((try apply Or.inl);refine⟨_,ak.x (sQ) (sd (tw @b52 (tw @bg0 (tw @bg1 (tw @b1 (tw @b6 (tw @DI (tw @DJ (tw @hj (tw @oA (tw @bm.eq_1 @ad.eq_1))))))))))),?_⟩;refine hN _ _ ?_;clear hN N)))
     exact aZ (b:=false) (.inl rfl) (sd @Nat.zero_add) (fR (jA fun h=>by rw[Br,htd,hb]at h;cases h.1))
    ·rw[hb]at sQ
     rcases Cj with⟨Eo,nk⟩|⟨i,fB,nk,fh⟩
     ·by_cases h4:(tl.bD.length:Int)=4
      ·have Ad:decide ((tl.bD.length:Int)=4)=true:=decide_eq_true h4
       cases hany:tl.bD.any fun g=> !iw g 0 s.az.length
       ·rw[hany]at Uw
        have mT:dJ ((List.range j).map fun i=>(pG s i).aE)++[[.str tl.aE,.bool true]]=dJ (List.map (fun i=>(pG s i).aE) (List.range j++[j])):=by simp[dJ,htd]
        (repeat(first|((repeat(revert hN;revert N;apply Pn.out));refine wk (tw @b52 (tw @bg0 (tw @bg1 (tw @b1 (tw @b6 (tw @DI (tw @DJ (tw @hj (tw @oA (tw @nk (tw @Ad (tw @bm.eq_1 @ad.eq_1)))))))))))) ?_;(repeat(refine Pn.mk ?_;intro N hN)))|((try apply Or.inl);refine⟨_,ak.x (sQ) (sd (tw @b52 (tw @bg0 (tw @bg1 (tw @b1 (tw @b6 (tw @DI (tw @DJ (tw @hj (tw @oA (tw @nk (tw @Ad (tw @bm.eq_1 @ad.eq_1))))))))))))),?_⟩;refine hN _ _ ?_;clear hN N)|((try apply Or.inl);refine⟨_,ak.x (Uw) (sd (tw @b52 (tw @bg0 (tw @bg1 (tw @b1 (tw @b6 (tw @DI (tw @DJ (tw @hj (tw @oA (tw @nk (tw @Ad (tw @bm.eq_1 @ad.eq_1))))))))))))),?_⟩;refine hN _ _ ?_;clear hN N)))
        refine gY ?_ ?_ ?_ (⟨by rw[htd];exact hb,by rw[htd];omega,fun i hi=>(by rw[htd];exact Eo i hi),fun g hg=>by rw[htd]at hg;have:=List.any_eq_false.1 hany g hg;simpa using this⟩) bW
        all_goals simp only[go_sem, ↓reduceIte,Nat.reduceEqDiff,Nat.reduceAdd,Nat.reduceSub,Nat.reduceLeDiff,reduceCtorEq,b52,bg0,bg1,b1,b6,DI,DJ,nk,mT]
       ·rw[hany]at Uw
        (repeat(first|((repeat(revert hN;revert N;apply Pn.out));refine wk (tw @b52 (tw @bg0 (tw @bg1 (tw @b1 (tw @b6 (tw @DI (tw @DJ (tw @hj (tw @oA (tw @nk (tw @Ad (tw @bm.eq_1 @ad.eq_1)))))))))))) ?_;(repeat(refine Pn.mk ?_;intro N hN)))|((try apply Or.inl);refine⟨_,ak.x (sQ) (sd (tw @b52 (tw @bg0 (tw @bg1 (tw @b1 (tw @b6 (tw @DI (tw @DJ (tw @hj (tw @oA (tw @nk (tw @Ad (tw @bm.eq_1 @ad.eq_1))))))))))))),?_⟩;refine hN _ _ ?_;clear hN N)|((try apply Or.inl);refine⟨_,ak.x (Uw) (sd (tw @b52 (tw @bg0 (tw @bg1 (tw @b1 (tw @b6 (tw @DI (tw @DJ (tw @hj (tw @oA (tw @nk (tw @Ad (tw @bm.eq_1 @ad.eq_1))))))))))))),?_⟩;refine hN _ _ ?_;clear hN N)))
        exact aZ (b:=false) (.inl rfl) (sd @Nat.zero_add) (fR (jA fun h=>by
         rw[Br,htd]at h
         obtain⟨g,hg,hq⟩:=List.any_eq_true.1 hany
         have:=h.2.2.2 g hg
         rw[this]at hq;cases hq))
      ·have Ad:decide ((tl.bD.length:Int)=4)=false:=decide_eq_false h4
       (repeat(first|((repeat(revert hN;revert N;apply Pn.out));refine wk (tw @b52 (tw @bg0 (tw @bg1 (tw @b1 (tw @b6 (tw @DI (tw @DJ (tw @hj (tw @oA (tw @nk (tw @Ad (tw @bm.eq_1 @ad.eq_1)))))))))))) ?_;(repeat(refine Pn.mk ?_;intro N hN)))|((try apply Or.inl);refine⟨_,ak.x (sQ) (sd (tw @b52 (tw @bg0 (tw @bg1 (tw @b1 (tw @b6 (tw @DI (tw @DJ (tw @hj (tw @oA (tw @nk (tw @Ad (tw @bm.eq_1 @ad.eq_1))))))))))))),?_⟩;refine hN _ _ ?_;clear hN N)))
       exact aZ (b:=false) (.inl rfl) (sd @Nat.zero_add) (fR (jA fun h=>by rw[Br,htd]at h;have:=h.2.1;omega))
     ·(repeat(first|((repeat(revert hN;revert N;apply Pn.out));refine wk (tw @b52 (tw @bg0 (tw @bg1 (tw @b1 (tw @b6 (tw @DI (tw @DJ (tw @hj (tw @oA (tw @nk (tw @fh (tw @bm.eq_1 @ad.eq_1)))))))))))) ?_;(repeat(refine Pn.mk ?_;intro N hN)))|((try apply Or.inl);refine⟨_,ak.x (sQ) (sd (tw @b52 (tw @bg0 (tw @bg1 (tw @b1 (tw @b6 (tw @DI (tw @DJ (tw @hj (tw @oA (tw @nk (tw @fh (tw @bm.eq_1 @ad.eq_1))))))))))))),?_⟩;refine hN _ _ ?_;clear hN N)))
      exact aZ (b:=false) (.inl rfl) (sd @Nat.zero_add) (fR (jA fun h=>by
       rw[Br,htd]at h
       obtain⟨i,hi,he⟩:=List.mem_map.1 fB
       exact h.2.2.1 i (List.mem_range.1 hi) he))
   ·(try((repeat(revert hN;revert N;apply Pn.out));refine wk (tw @b52 (tw @bg0 (tw @bg1 (tw @b1 (tw @b6 (tw @DI (tw @DJ (tw @hj @ad.eq_1)))))))) ?_;(repeat(refine Pn.mk ?_;intro N hN))))
    exact aZ (b:=true) (.inl rfl) (sd @Nat.zero_add) (C3 ⟨ae,ae,ae,fun i hi=>lV i ae,fun i hi=>bA0 i ae⟩)
 ·rw[Bool.not_eq_true]at h2
  rw[h2]at hw
  (repeat(first|((repeat(revert hN;revert N;apply Pn.out));refine wk (tw @ad.eq_1 @h1) ?_;(repeat(refine Pn.mk ?_;intro N hN)))|((try apply Or.inl);refine⟨_,ak.x (hw) (sd (tw @ad.eq_1 @h1)),?_⟩;refine hN _ _ ?_;clear hN N)))
  exact aZ (b:=false) (.inl rfl) (sd @Nat.zero_add) (fR fun h=>by
   have h3:=h.some
   have h4:=h.Oz
   rw[mC ⟨ae,ae⟩]at h2;cases h2)
theorem uT {α:Type} {p:α->Bool} {xs:List α} {k:Nat} (hk:k<xs.length) (h1:p xs[k]=true) (h2:∀j (h:j<xs.length),j<k->p xs[j]=false):jd p xs=k:=by
 have:xs.findIdx p=k:=by rw[List.findIdx_eq hk];exact⟨h1,fun j hj=>h2 j ae hj⟩
 rw[jd,this,if_pos hk]
theorem yO {α:Type} {p:α->Bool} {xs:List α} (h:∀j (h:j<xs.length),p xs[j]=false):jd p xs= -1:=by
 rw[jd,if_neg]
 rw[List.findIdx_lt_length]
 rintro⟨x,hx,Lw⟩
 obtain⟨j,hj,rfl⟩:=List.getElem_of_mem hx
 rw[h j hj]at Lw;cases Lw
theorem z7 {s:aw} {i:Nat} (h:i<s.az.length):qC s i=s.az[i]:=by simp[qC,List.getD_eq_getElem?_getD,h]
theorem AU {s:aw} {i:Nat} (h:i<s.aj.length):pG s i=s.aj[i]:=by simp[pG,List.getD_eq_getElem?_getD,h]
def Li (s:aw) (n:ByteArray):Int:=jd (fun g:fM=>decide (g.aE=n)) s.az
def Oy (s:aw) (n:ByteArray):Int:=jd (fun t:fb=>decide (t.aE=n)) s.aj
theorem Ho (s:aw) (nm:ByteArray):ak Tryz.prog 116 [.dq (ad s),.str nm] (.int .i64 (Li s nm+1)):=by
 refine ak.body eM rfl fun hl n0=>?_
 have hlen:s.az.length<=9223372036854775807:=by
  have h1:=(hl (.dq (ad s)) (by simp)).Ct (a:=.sl (s.az.map bI)) (by simp[ad])
  simpa using h1.len
 clear hl
 (try((repeat(revert hN;revert N;apply Pn.out));refine wk @ad.eq_1 ?_;(repeat(refine Pn.mk ?_;intro N hN))))
 refine aT (fun n env st=>∃k:Nat,n=(s.az.length)-k/\k<=(s.az.length)/\env 5=.int .i64 (k:Int)/\(∀j:Nat,j<k->∀h:j<s.az.length,decide (s.az[j].aE=nm)=false)) (s.az.length) ⟨0,ae,ae,sl @ad.eq_1,fun _ h=>absurd h (Nat.not_lt_zero _)⟩ ?_
 rintro n_a env_a st_a ⟨k,rfl,ale,a5,lV⟩ dr
 have a0:=dr 0 (by kernel_rfl);have a1:=dr 1 (by kernel_rfl)
 simp only[go_sem, ↓reduceIte,Nat.reduceEqDiff,Nat.reduceAdd,Nat.reduceSub,Nat.reduceLeDiff,reduceCtorEq,ad]at a0 a1
 clear dr
 by_cases hk:(k:Int)<(s.az.length:Int)
 ·have bZ:∀{e:Env},(e 5=.int .i64 (IntKind.i64.wrap ((k:Int)+1)))->(∀h:k<s.az.length,decide (s.az[k].aE=nm)=false)->∃m0,m0<(s.az.length)-k/\∃k:Nat,m0=(s.az.length)-k/\k<=(s.az.length)/\e 5=.int .i64 (k:Int)/\(∀j:Nat,j<k->∀h:j<s.az.length,decide (s.az[j].aE=nm)=false):=fun x1 x2=>⟨_,ae,k+1,rfl,ae,(by rw[x1,aB ae]),(all_succ lV x2)⟩
  have fK:k<s.az.length:=ae
  have fe:=z8 fK
  have e:=z7 fK
  cases hd:decide ((qC s k).aE=nm)
  ·have Rf:=of_decide_eq_false hd
   (try((repeat(revert hN;revert N;apply Pn.out));refine wk (tw @a5 (tw @a0 (tw @a1 (tw @hk (tw @fe (tw @Rf (tw @hd (tw @bI.eq_1 @ad.eq_1)))))))) ?_;(repeat(refine Pn.mk ?_;intro N hN))))
   exact bZ (sd (tw @a5 (tw @a0 @a1))) (fun _=>by rw[e]at hd;exact hd)
  ·have Rf:=of_decide_eq_true hd
   have hw:IntKind.i64.wrap ((k:Int)+1)=(k:Int)+1:=aJ ae
   (try((repeat(revert hN;revert N;apply Pn.out));refine wk (tw @a5 (tw @a0 (tw @a1 (tw @hk (tw @fe (tw @hd (tw @hw (tw @bI.eq_1 @ad.eq_1)))))))) ?_;(repeat(refine Pn.mk ?_;intro N hN))))
   exact cu (b:=(k:Int)+1) (.inl rfl) (sd @Nat.zero_add) (by rw[Li,uT fK (by rw[e]at hd;exact hd) fun j h hj=>lV j hj h])
 ·(try((repeat(revert hN;revert N;apply Pn.out));refine wk (tw @a5 (tw @a0 (tw @a1 (tw @hk @ad.eq_1)))) ?_;(repeat(refine Pn.mk ?_;intro N hN))))
  exact cu (b:=0) (.inl rfl) (sd @Nat.zero_add) (by rw[Li,yO fun j h=>lV j ae h];rfl)
theorem Hp (s:aw) (nm:ByteArray):ak Tryz.prog 117 [.dq (ad s),.str nm] (.int .i64 (Oy s nm)):=by
 refine ak.body eM rfl fun hl n0=>?_
 have hlen:s.aj.length<=9223372036854775807:=by
  have h1:=(hl (.dq (ad s)) (by simp)).Ct (a:=.sl (s.aj.map bm)) (by simp[ad])
  simpa using h1.len
 clear hl
 (try((repeat(revert hN;revert N;apply Pn.out));refine wk @ad.eq_1 ?_;(repeat(refine Pn.mk ?_;intro N hN))))
 refine aT (fun n env st=>∃k:Nat,n=(s.aj.length)-k/\k<=(s.aj.length)/\env 5=.int .i64 (k:Int)/\(∀j:Nat,j<k->∀h:j<s.aj.length,decide (s.aj[j].aE=nm)=false)) (s.aj.length) ⟨0,ae,ae,sl @ad.eq_1,fun _ h=>absurd h (Nat.not_lt_zero _)⟩ ?_
 rintro n_a env_a st_a ⟨k,rfl,ale,a5,lV⟩ dr
 have a0:=dr 0 (by kernel_rfl);have a1:=dr 1 (by kernel_rfl)
 simp only[go_sem, ↓reduceIte,Nat.reduceEqDiff,Nat.reduceAdd,Nat.reduceSub,Nat.reduceLeDiff,reduceCtorEq,ad]at a0 a1
 clear dr
 by_cases hk:(k:Int)<(s.aj.length:Int)
 ·have bZ:∀{e:Env},(e 5=.int .i64 (IntKind.i64.wrap ((k:Int)+1)))->(∀h:k<s.aj.length,decide (s.aj[k].aE=nm)=false)->∃m0,m0<(s.aj.length)-k/\∃k:Nat,m0=(s.aj.length)-k/\k<=(s.aj.length)/\e 5=.int .i64 (k:Int)/\(∀j:Nat,j<k->∀h:j<s.aj.length,decide (s.aj[j].aE=nm)=false):=fun x1 x2=>⟨_,ae,k+1,rfl,ae,(by rw[x1,aB ae]),(all_succ lV x2)⟩
  have fK:k<s.aj.length:=ae
  have fe:=AW fK
  have e:=AU fK
  cases hd:decide ((pG s k).aE=nm)
  ·(try((repeat(revert hN;revert N;apply Pn.out));refine wk (tw @a5 (tw @a0 (tw @a1 (tw @hk (tw @fe (tw @hd (tw @bm.eq_1 @ad.eq_1))))))) ?_;(repeat(refine Pn.mk ?_;intro N hN))))
   exact bZ (sd (tw @a5 (tw @a0 @a1))) (fun _=>by rw[e]at hd;exact hd)
  ·(try((repeat(revert hN;revert N;apply Pn.out));refine wk (tw @a5 (tw @a0 (tw @a1 (tw @hk (tw @fe (tw @hd (tw @bm.eq_1 @ad.eq_1))))))) ?_;(repeat(refine Pn.mk ?_;intro N hN))))
   exact cu (b:=(k:Int)) (.inl rfl) (sd @Nat.zero_add) (by rw[Oy,uT fK (by rw[e]at hd;exact hd) fun j h hj=>lV j hj h])
 ·(try((repeat(revert hN;revert N;apply Pn.out));refine wk (tw @a5 (tw @a0 (tw @a1 (tw @hk @ad.eq_1)))) ?_;(repeat(refine Pn.mk ?_;intro N hN))))
  exact cu (b:=-1) (.inl rfl) (sd @Nat.zero_add) (by rw[Oy,yO fun j h=>lV j ae h])
theorem Pk {s:aw} {i:Nat} (h:i<s.az.length):Li s (qC s i).aE=i↔∀j,j<i->(qC s j).aE≠(qC s i).aE:=by
 constructor
 ·intro he j hj hc
  have gW:j<s.az.length:=ae
  have:s.az.findIdx (fun g:fM=>decide (g.aE=(qC s i).aE))<=j:=by
   rcases Nat.lt_or_ge j (s.az.findIdx fun g:fM=>decide (g.aE=(qC s i).aE))with dO|mz
   ·have:=List.not_of_lt_findIdx dO
    rw[<-z7 gW]at this
    simp[hc]at this
   ·exact mz
  unfold Li jd at he
  split at he<;>omega
 ·intro hd
  exact uT h (by rw[<-z7 h];simp) fun j gW hj=>by rw[<-z7 gW];simpa using hd j hj
theorem Qx {s:aw} {i:Nat} (h:i<s.aj.length):Oy s (pG s i).aE=i↔∀j,j<i->(pG s j).aE≠(pG s i).aE:=by
 constructor
 ·intro he j hj hc
  have gW:j<s.aj.length:=ae
  have:s.aj.findIdx (fun g:fb=>decide (g.aE=(pG s i).aE))<=j:=by
   rcases Nat.lt_or_ge j (s.aj.findIdx fun g:fb=>decide (g.aE=(pG s i).aE))with dO|mz
   ·have:=List.not_of_lt_findIdx dO
    rw[<-AU gW]at this
    simp[hc]at this
   ·exact mz
  unfold Oy jd at he
  split at he<;>omega
 ·intro hd
  exact uT h (by rw[<-AU h];simp) fun j gW hj=>by rw[<-AU gW];simpa using hd j hj
theorem MP (s:aw) (hn:gy s) (hg:s.az.length<=1048576) (ht:s.aj.length<=1048576):ak Tryz.prog 63 [.dq (ad s)] (.bool (rD s)):=by
 refine ak.body eM rfl fun hl n0=>?_
 clear hl
 have SK:∀i,i<s.az.length->(qC s i).aE.size<=9223372036854775807:=fun i hi=>hn.1 _ (by simp[qC,List.getD_eq_getElem?_getD,hi])
 have V5:∀i,i<s.aj.length->(pG s i).aE.size<=9223372036854775807:=fun i hi=>hn.2 _ (by simp[pG,List.getD_eq_getElem?_getD,hi])
 by_cases h1:(200:Int)<(s.az.length:Int)
 ·(try((repeat(revert hN;revert N;apply Pn.out));refine wk (tw @ad.eq_1 @h1) ?_;(repeat(refine Pn.mk ?_;intro N hN))))
  exact aZ (b:=false) (.inl rfl) (sd @Nat.zero_add) (fR fun h=>by have:=h.yX;omega)
 by_cases h2:(s.aj.length:Int)<1
 ·(try((repeat(revert hN;revert N;apply Pn.out));refine wk (tw @ad.eq_1 (tw @h1 @h2)) ?_;(repeat(refine Pn.mk ?_;intro N hN))))
  exact aZ (b:=false) (.inl rfl) (sd @Nat.zero_add) (fR fun h=>by have:=h.some;omega)
 by_cases h3:(160:Int)<(s.aj.length:Int)
 ·(try((repeat(revert hN;revert N;apply Pn.out));refine wk (tw @ad.eq_1 (tw @h1 (tw @h2 @h3))) ?_;(repeat(refine Pn.mk ?_;intro N hN))))
  exact aZ (b:=false) (.inl rfl) (sd @Nat.zero_add) (fR fun h=>by have:=h.Oz;omega)
 (try((repeat(revert hN;revert N;apply Pn.out));refine wk (tw @ad.eq_1 (tw @h1 (tw @h2 @h3))) ?_;(repeat(refine Pn.mk ?_;intro N hN))))
 refine aT (fun n env st=>∃k:Nat,n=(s.az.length)-k/\k<=(s.az.length)/\env 3=.int .i64 (k:Int)/\(∀j:Nat,j<k->DD s j)) (s.az.length) ⟨0,ae,ae,sl @ad.eq_1,fun _ h=>absurd h (Nat.not_lt_zero _)⟩ ?_
 rintro n_a env_a st_a ⟨k,rfl,ale,a3,lV⟩ dr
 have a0:=dr 0 (by kernel_rfl)
 simp only[go_sem, ↓reduceIte,Nat.reduceEqDiff,Nat.reduceAdd,Nat.reduceSub,Nat.reduceLeDiff,reduceCtorEq,ad]at a0
 clear dr
 by_cases hk:(k:Int)<(s.az.length:Int)
 ·have bZ:∀{e:Env},(e 3=.int .i64 (IntKind.i64.wrap ((k:Int)+1)))->(DD s k)->∃m0,m0<(s.az.length)-k/\∃k:Nat,m0=(s.az.length)-k/\k<=(s.az.length)/\e 3=.int .i64 (k:Int)/\(∀j:Nat,j<k->DD s j):=fun x1 x2=>⟨_,ae,k+1,rfl,ae,(by rw[x1,aB ae]),(all_succ lV x2)⟩
  have fK:k<s.az.length:=ae
  have fe:=z8 fK
  have sQ:=Ge (qC s k).aE (SK k fK)
  have Lz:=lj (qC s k).eP 1 4
  have Bf:=Ho s (qC s k).aE
  have r7:=Pk fK
  have jA:(¬DD s k)->¬mV s:=fun h hp=>h (hp.U8 k fK)
  have hw:IntKind.i64.wrap ((k:Int)+1)=(k:Int)+1:=aJ ae
  generalize oy:qC s k=gl at *
  cases hb:kg gl.aE
  ·rw[hb]at sQ
   (repeat(first|((repeat(revert hN;revert N;apply Pn.out));refine wk (tw @a3 (tw @a0 (tw @hk (tw @fe (tw @bI.eq_1 @ad.eq_1))))) ?_;(repeat(refine Pn.mk ?_;intro N hN)))|((try apply Or.inl);refine⟨_,ak.x (sQ) (sd (tw @a3 (tw @a0 (tw @hk (tw @fe (tw @bI.eq_1 @ad.eq_1)))))),?_⟩;refine hN _ _ ?_;clear hN N)))
   exact aZ (b:=false) (.inl rfl) (sd @Nat.zero_add) (fR (jA fun h=>by rw[DD,oy,hb]at h;cases h.1))
  rw[hb]at sQ
  cases dR:iw gl.eP 1 4
  ·rw[dR]at Lz
   (repeat(first|((repeat(revert hN;revert N;apply Pn.out));refine wk (tw @a3 (tw @a0 (tw @hk (tw @fe (tw @bI.eq_1 @ad.eq_1))))) ?_;(repeat(refine Pn.mk ?_;intro N hN)))|((try apply Or.inl);refine⟨_,ak.x (sQ) (sd (tw @a3 (tw @a0 (tw @hk (tw @fe (tw @bI.eq_1 @ad.eq_1)))))),?_⟩;refine hN _ _ ?_;clear hN N)|((try apply Or.inl);refine⟨_,ak.x (Lz) (sd (tw @a3 (tw @a0 (tw @hk (tw @fe (tw @bI.eq_1 @ad.eq_1)))))),?_⟩;refine hN _ _ ?_;clear hN N)))
   exact aZ (b:=false) (.inl rfl) (sd @Nat.zero_add) (fR (jA fun h=>by rw[DD,oy,dR]at h;cases h.2.1))
  rw[dR]at Lz
  rw[ad]at Bf
  by_cases hq:Li s gl.aE=(k:Int)
  ·have hd:decide (Li s gl.aE+1=(k:Int)+1)=true:=decide_eq_true ae
   have q9:decide (Li s gl.aE=(k:Int))=true:=decide_eq_true hq
   (repeat(first|((repeat(revert hN;revert N;apply Pn.out));refine wk (tw @a3 (tw @a0 (tw @hk (tw @fe (tw @hw (tw @hd (tw @q9 (tw @bI.eq_1 @ad.eq_1)))))))) ?_;(repeat(refine Pn.mk ?_;intro N hN)))|((try apply Or.inl);refine⟨_,ak.x (sQ) (sd (tw @a3 (tw @a0 (tw @hk (tw @fe (tw @hw (tw @hd (tw @q9 (tw @bI.eq_1 @ad.eq_1))))))))),?_⟩;refine hN _ _ ?_;clear hN N)|((try apply Or.inl);refine⟨_,ak.x (Lz) (sd (tw @a3 (tw @a0 (tw @hk (tw @fe (tw @hw (tw @hd (tw @q9 (tw @bI.eq_1 @ad.eq_1))))))))),?_⟩;refine hN _ _ ?_;clear hN N)|((try apply Or.inl);refine⟨_,ak.x (Bf) (sd (tw @a3 (tw @a0 (tw @hk (tw @fe (tw @hw (tw @hd (tw @q9 (tw @bI.eq_1 @ad.eq_1))))))))),?_⟩;refine hN _ _ ?_;clear hN N)))
   exact bZ (sd (tw @a3 (tw @a0 @hw))) (⟨by rw[oy];exact hb,by rw[oy];exact dR,fun j hj=>by rw[oy];exact r7.1 hq j hj⟩)
  ·have hd:decide (Li s gl.aE+1=(k:Int)+1)=false:=decide_eq_false ae
   have q9:decide (Li s gl.aE=(k:Int))=false:=decide_eq_false hq
   (repeat(first|((repeat(revert hN;revert N;apply Pn.out));refine wk (tw @a3 (tw @a0 (tw @hk (tw @fe (tw @hw (tw @hd (tw @q9 (tw @bI.eq_1 @ad.eq_1)))))))) ?_;(repeat(refine Pn.mk ?_;intro N hN)))|((try apply Or.inl);refine⟨_,ak.x (sQ) (sd (tw @a3 (tw @a0 (tw @hk (tw @fe (tw @hw (tw @hd (tw @q9 (tw @bI.eq_1 @ad.eq_1))))))))),?_⟩;refine hN _ _ ?_;clear hN N)|((try apply Or.inl);refine⟨_,ak.x (Lz) (sd (tw @a3 (tw @a0 (tw @hk (tw @fe (tw @hw (tw @hd (tw @q9 (tw @bI.eq_1 @ad.eq_1))))))))),?_⟩;refine hN _ _ ?_;clear hN N)|((try apply Or.inl);refine⟨_,ak.x (Bf) (sd (tw @a3 (tw @a0 (tw @hk (tw @fe (tw @hw (tw @hd (tw @q9 (tw @bI.eq_1 @ad.eq_1))))))))),?_⟩;refine hN _ _ ?_;clear hN N)))
   exact aZ (b:=false) (.inl rfl) (sd @Nat.zero_add) (fR (jA fun h=>by
    rw[DD,oy]at h
    exact hq (r7.2 h.2.2)))
 ·have mQ:k=s.az.length:=ae
  (try((repeat(revert hN;revert N;apply Pn.out));refine wk (tw @a3 (tw @a0 (tw @hk @ad.eq_1))) ?_;(repeat(refine Pn.mk ?_;intro N hN))))
  refine aT (fun n env st=>∃j:Nat,n=(s.aj.length)-j/\j<=(s.aj.length)/\env 5=.int .i64 (j:Int)/\(∀i:Nat,i<j->Br s i)) (s.aj.length) ⟨0,ae,ae,sl (tw @a3 (tw @a0 @ad.eq_1)),fun _ h=>absurd h (Nat.not_lt_zero _)⟩ ?_
  rintro n_b env_b st_b ⟨j,rfl,ble,b5,bA0⟩ bfr
  have b0:=bfr 0 (by kernel_rfl)
  simp only[go_sem, ↓reduceIte,Nat.reduceEqDiff,Nat.reduceAdd,Nat.reduceSub,Nat.reduceLeDiff,reduceCtorEq,a3,a0,ad]at b0
  clear bfr
  by_cases hj:(j:Int)<(s.aj.length:Int)
  ·have gY:∀{e:Env},(e 5=.int .i64 (IntKind.i64.wrap ((j:Int)+1)))->(Br s j)->∃m0,m0<(s.aj.length)-j/\∃j:Nat,m0=(s.aj.length)-j/\j<=(s.aj.length)/\e 5=.int .i64 (j:Int)/\(∀i:Nat,i<j->Br s i):=fun x1 x2=>⟨_,ae,j+1,rfl,ae,(by rw[x1,aB ae]),(all_succ bA0 x2)⟩
   have jI:j<s.aj.length:=ae
   have oA:=AW jI
   have sQ:=Ge (pG s j).aE (V5 j jI)
   have Bf:=Hp s (pG s j).aE
   have r7:=Qx jI
   have jA:(¬Br s j)->¬mV s:=fun h hp=>h (hp.tok j jI)
   generalize htd:pG s j=tl at *
   cases hb:kg tl.aE
   ·rw[hb]at sQ
    (repeat(first|((repeat(revert hN;revert N;apply Pn.out));refine wk (tw @b5 (tw @b0 (tw @hj (tw @oA (tw @bm.eq_1 @ad.eq_1))))) ?_;(repeat(refine Pn.mk ?_;intro N hN)))|((try apply Or.inl);refine⟨_,ak.x (sQ) (sd (tw @b5 (tw @b0 (tw @hj (tw @oA (tw @bm.eq_1 @ad.eq_1)))))),?_⟩;refine hN _ _ ?_;clear hN N)))
    exact aZ (b:=false) (.inl rfl) (sd @Nat.zero_add) (fR (jA fun h=>by rw[Br,htd,hb]at h;cases h.1))
   rw[hb]at sQ
   by_cases h4:(tl.bD.length:Int)=4
   ·have Ad:decide ((tl.bD.length:Int)=4)=true:=decide_eq_true h4
    rw[ad]at Bf
    by_cases hq:Oy s tl.aE=(j:Int)
    ·have hd:decide (Oy s tl.aE=(j:Int))=true:=decide_eq_true hq
     (repeat(first|((repeat(revert hN;revert N;apply Pn.out));refine wk (tw @b5 (tw @b0 (tw @hj (tw @oA (tw @Ad (tw @hd (tw @bm.eq_1 @ad.eq_1))))))) ?_;(repeat(refine Pn.mk ?_;intro N hN)))|((try apply Or.inl);refine⟨_,ak.x (sQ) (sd (tw @b5 (tw @b0 (tw @hj (tw @oA (tw @Ad (tw @hd (tw @bm.eq_1 @ad.eq_1)))))))),?_⟩;refine hN _ _ ?_;clear hN N)|((try apply Or.inl);refine⟨_,ak.x (Bf) (sd (tw @b5 (tw @b0 (tw @hj (tw @oA (tw @Ad (tw @hd (tw @bm.eq_1 @ad.eq_1)))))))),?_⟩;refine hN _ _ ?_;clear hN N)))
     refine aT (fun n env st=>∃i:Nat,n=(4)-i/\i<=(4)/\env 7=.int .i64 (i:Int)/\st.get ⟨63012007,st_b.next+1⟩=some ⟨true,2,[bm tl]⟩/\(∀x:Nat,x<i->iw (tl.bD.getD x 0) 0 s.az.length=true)) (4) ⟨0,ae,ae,sl (tw @b5 (tw @b0 (tw @bm.eq_1 @ad.eq_1))),sl (tw @b5 (tw @b0 (tw @bm.eq_1 @ad.eq_1))),fun _ h=>absurd h (Nat.not_lt_zero _)⟩ ?_
     rintro n_c env_c st_c ⟨i,rfl,cle,c7,cg0,cA0⟩ cfr
     have c0:=cfr 0 (by kernel_rfl);have c5:=cfr 5 (by kernel_rfl);have c6:=cfr 6 (by kernel_rfl)
     simp only[go_sem, ↓reduceIte,Nat.reduceEqDiff,Nat.reduceAdd,Nat.reduceSub,Nat.reduceLeDiff,reduceCtorEq,b5,b0,bm,ad]at c0 c5 c6
     clear cfr
     by_cases hi:(i:Int)<4
     ·have iM:∀{e:Env} {gg:Rows},(e 7=.int .i64 (IntKind.i64.wrap ((i:Int)+1)))->(gg ⟨63012007,st_b.next+1⟩=some ⟨true,2,[bm tl]⟩)->(iw (tl.bD.getD i 0) 0 s.az.length=true)->∃m0,m0<(4)-i/\∃i:Nat,m0=(4)-i/\i<=(4)/\e 7=.int .i64 (i:Int)/\gg ⟨63012007,st_b.next+1⟩=some ⟨true,2,[bm tl]⟩/\(∀x:Nat,x<i->iw (tl.bD.getD x 0) 0 s.az.length=true):=fun x1 x2 x3=>⟨_,ae,i+1,rfl,ae,(by rw[x1,aB ae]),x2,(all_succ cA0 x3)⟩
      have fB:i<tl.bD.length:=ae
      have gT:(tl.bD.map aX)[i]? =some (aX (tl.bD.getD i 0)):=getD_map aX fB
      have r8:tl.bD.getD i 0∈tl.bD:=by rw[List.getD_eq_getElem?_getD,List.getElem?_eq_getElem fB];exact List.getElem_mem fB
      have JC:=lj (tl.bD.getD i 0) 0 s.az.length
      generalize PK:tl.bD.getD i 0=gv at *
      cases hv:iw gv 0 s.az.length
      ·rw[hv]at JC
       (repeat(first|((repeat(revert hN;revert N;apply Pn.out));refine wk (tw @c7 (tw @cg0 (tw @c0 (tw @c5 (tw @c6 (tw @hi (tw @gT (tw @aX.eq_1 (tw @bm.eq_1 @ad.eq_1))))))))) ?_;(repeat(refine Pn.mk ?_;intro N hN)))|((try apply Or.inl);refine⟨_,ak.x (JC) (sd (tw @c7 (tw @cg0 (tw @c0 (tw @c5 (tw @c6 (tw @hi (tw @gT (tw @aX.eq_1 (tw @bm.eq_1 @ad.eq_1)))))))))),?_⟩;refine hN _ _ ?_;clear hN N)))
       exact aZ (b:=false) (.inl rfl) (sd @Nat.zero_add) (fR (jA fun h=>by
        rw[Br,htd]at h
        have:=h.2.2.2 gv r8
        rw[hv]at this;cases this))
      ·rw[hv]at JC
       (repeat(first|((repeat(revert hN;revert N;apply Pn.out));refine wk (tw @c7 (tw @cg0 (tw @c0 (tw @c5 (tw @c6 (tw @hi (tw @gT (tw @aX.eq_1 (tw @bm.eq_1 @ad.eq_1))))))))) ?_;(repeat(refine Pn.mk ?_;intro N hN)))|((try apply Or.inl);refine⟨_,ak.x (JC) (sd (tw @c7 (tw @cg0 (tw @c0 (tw @c5 (tw @c6 (tw @hi (tw @gT (tw @aX.eq_1 (tw @bm.eq_1 @ad.eq_1)))))))))),?_⟩;refine hN _ _ ?_;clear hN N)))
       refine iM ?_ ?_ (hv)
       all_goals simp only[go_sem, ↓reduceIte,Nat.reduceEqDiff,Nat.reduceAdd,Nat.reduceSub,Nat.reduceLeDiff,reduceCtorEq,c7,cg0,c0,c5,c6]
     ·have hi4:i=4:=ae
      (try((repeat(revert hN;revert N;apply Pn.out));refine wk (tw @c7 (tw @cg0 (tw @c0 (tw @c5 (tw @c6 (tw @hi (tw @bm.eq_1 @ad.eq_1))))))) ?_;(repeat(refine Pn.mk ?_;intro N hN))))
      exact gY (sd (tw @b5 (tw @b0 (tw @c7 (tw @cg0 (tw @c0 (tw @c5 @c6))))))) (⟨by rw[htd];exact hb,by rw[htd];omega,fun x hx=>(by rw[htd];exact r7.1 hq x hx),fun g hg=>by
       rw[htd]at hg
       obtain⟨x,hx,rfl⟩:=List.getElem_of_mem hg
       have:=cA0 x ae
       rwa [List.getD_eq_getElem?_getD,List.getElem?_eq_getElem hx]at this⟩)
    ·have hd:decide (Oy s tl.aE=(j:Int))=false:=decide_eq_false hq
     (repeat(first|((repeat(revert hN;revert N;apply Pn.out));refine wk (tw @b5 (tw @b0 (tw @hj (tw @oA (tw @Ad (tw @hd (tw @bm.eq_1 @ad.eq_1))))))) ?_;(repeat(refine Pn.mk ?_;intro N hN)))|((try apply Or.inl);refine⟨_,ak.x (sQ) (sd (tw @b5 (tw @b0 (tw @hj (tw @oA (tw @Ad (tw @hd (tw @bm.eq_1 @ad.eq_1)))))))),?_⟩;refine hN _ _ ?_;clear hN N)|((try apply Or.inl);refine⟨_,ak.x (Bf) (sd (tw @b5 (tw @b0 (tw @hj (tw @oA (tw @Ad (tw @hd (tw @bm.eq_1 @ad.eq_1)))))))),?_⟩;refine hN _ _ ?_;clear hN N)))
     exact aZ (b:=false) (.inl rfl) (sd @Nat.zero_add) (fR (jA fun h=>by
      rw[Br,htd]at h
      exact hq (r7.2 h.2.2.1)))
   ·have Ad:decide ((tl.bD.length:Int)=4)=false:=decide_eq_false h4
    (repeat(first|((repeat(revert hN;revert N;apply Pn.out));refine wk (tw @b5 (tw @b0 (tw @hj (tw @oA (tw @Ad (tw @bm.eq_1 @ad.eq_1)))))) ?_;(repeat(refine Pn.mk ?_;intro N hN)))|((try apply Or.inl);refine⟨_,ak.x (sQ) (sd (tw @b5 (tw @b0 (tw @hj (tw @oA (tw @Ad (tw @bm.eq_1 @ad.eq_1))))))),?_⟩;refine hN _ _ ?_;clear hN N)))
    exact aZ (b:=false) (.inl rfl) (sd @Nat.zero_add) (fR (jA fun h=>by rw[Br,htd]at h;have:=h.2.1;omega))
  ·(try((repeat(revert hN;revert N;apply Pn.out));refine wk (tw @b5 (tw @b0 (tw @hj @ad.eq_1))) ?_;(repeat(refine Pn.mk ?_;intro N hN))))
   exact aZ (b:=true) (.inl rfl) (sd @Nat.zero_add) (C3 ⟨ae,ae,ae,fun i hi=>lV i ae,fun i hi=>bA0 i ae⟩)
end Go.Proofs.YtkbipfflibjfbaaGreat.V

namespace Go.Proofs.YtkbipfflibjfbaaGreat.V
def k8 (a b:aq):Bool:=decide (a.dH<b.dH)||(decide (a.dH=b.dH)&&decide (a.dQ<b.dQ))
theorem ve {a b:aq}:k8 a b=true↔a.dH<b.dH∨(a.dH=b.dH/\a.dQ<b.dQ):=by simp[k8]
theorem pT {a b:aq}:k8 a b=false↔¬(a.dH<b.dH∨(a.dH=b.dH/\a.dQ<b.dQ)):=by rw[<-ve,Bool.not_eq_true]
theorem E3 {a b:aq} (h1:a.dQ=b.dQ) (h2:a.dH=b.dH):a=b:=by cases a;cases b;simp_all
theorem iD {a b c:aq} (h:k8 a b=true) (k:k8 b c=true):k8 a c=true:=by rw[ve]at *;omega
theorem pU {a:aq}:k8 a a=false:=by rw[pT];omega
theorem J4 {a b:aq} (h:k8 a b=true):k8 b a=false:=by rw[ve]at h;rw[pT];omega
theorem vg {a b:aq} (h:k8 a b=false) (gI:a≠b):k8 b a=true:=by
 rw[pT]at h;rw[ve]
 by_cases hy:a.dH=b.dH
 ·by_cases hx:a.dQ=b.dQ
  ·exact absurd (E3 hx hy) gI
  ·omega
 ·omega
def rV (a b:Int):Int:=if a<b then -1 else if b<a then 1 else 0
def M9 (a b:Int):Int:=if a=0 then b else a
def qi (a b:aq):Int:=M9 (rV a.dH b.dH) (rV a.dQ b.dQ)
theorem nM (a b:aq):decide (qi a b<0)=k8 a b:=by
 unfold qi M9 rV k8
 by_cases h1:a.dH<b.dH
 ·simp[h1]
 ·by_cases h2:b.dH<a.dH
  ·have:¬a.dH=b.dH:=ae
   simp[h1,h2,this]
  ·have:a.dH=b.dH:=ae
   by_cases h3:a.dQ<b.dQ
   ·simp[h1,h2,this,h3]
   ·by_cases h4:b.dQ<a.dQ<;>simp[h1,h2,this,h3,h4]
theorem GH (a b:aq):(qi a b=0)↔a=b:=by
 cases a;cases b
 unfold qi M9 rV
 simp only[aq.mk.injEq]
 split<;>(try split)<;>(try split)<;>(try split)<;>omega
def Ke:ah:=⟨⟨0,0⟩,0⟩
def bq (l:List ah) (i:Nat):ah:=l.getD i Ke
theorem fP {l:List ah} {i:Nat} (h:i<l.length):bq l i=l[i]:=by simp[bq,List.getD_eq_getElem?_getD,h]
theorem jY {l:List ah} {i:Nat} (h:i<l.length):bq l i∈l:=by rw[fP h];exact List.getElem_mem h
def qL (l:List ah):Prop:=∀i j:Nat,i<j->j<l.length->k8 (bq l i).bw (bq l j).bw=true
def EF (l:List ah) (p:aq):Nat:=l.findIdx fun c=>decide (c.bw=p)
def fD (l:List ah) (p:aq):Int:=if EF l p<l.length then(EF l p:Int)else -1
def nr (l:List ah) (p:aq):Nat:=l.findIdx fun c=> !k8 c.bw p
theorem Ax {l:List ah} {p:aq} {i:Nat} (hi:i<=l.length) (h1:∀x,x<i->k8 (bq l x).bw p=true) (h2:i<l.length->k8 (bq l i).bw p=false):nr l p=i:=by
 unfold nr
 by_cases h:i<l.length
 ·rw[List.findIdx_eq h]
  refine⟨by have:=h2 h;rw[fP h]at this;simp[this],fun j hj=>?_⟩
  have:=h1 j hj
  rw[fP ae]at this
  simp[this]
 ·have:i=l.length:=ae
  subst this
  refine List.findIdx_eq_length_of_false fun x hx=>?_
  obtain⟨j,hj,rfl⟩:=List.getElem_of_mem hx
  have:=h1 j hj
  rw[fP hj]at this
  simp[this]
theorem AA {l:List ah} {p:aq} (hR:qL l):fD l p=if nr l p<l.length/\(bq l (nr l p)).bw=p then(nr l p:Int)else -1:=by
 by_cases h:∃i,i<l.length/\(bq l i).bw=p
 ·obtain⟨i,hi,hp⟩:=h
  have h1:nr l p=i:=Ax ae (fun x hx=>by rw[<-hp];exact hR x i hx hi) fun _=>by rw[hp];exact pU
  have h2:EF l p=i:=by
   rw[EF,List.findIdx_eq hi]
   refine⟨by rw[fP hi]at hp;simpa using hp,fun j hj=>?_⟩
   have:=hR j i hj hi
   rw[hp,fP ae]at this
   simp only[decide_eq_false_iff_not]
   intro hc
   rw[hc,pU]at this
   cases this
  rw[fD,h1,h2,if_pos hi,if_pos ⟨hi,hp⟩]
 ·have h2:¬EF l p<l.length:=by
   rw[EF,List.findIdx_lt_length]
   rintro⟨c,hc,he⟩
   obtain⟨j,hj,rfl⟩:=List.getElem_of_mem hc
   exact h ⟨j,hj,by rw[fP hj];simpa using he⟩
  rw[fD,if_neg h2,if_neg]
  rintro⟨h3,h4⟩
  exact h ⟨_,h3,h4⟩
theorem mh {l:List ah} {p:aq} (h:0<=fD l p):(fD l p).toNat<l.length/\(bq l (fD l p).toNat).bw=p:=by
 unfold fD at h ⊢
 split at h
 ·rename_i hc
  rw[if_pos hc]
  refine⟨ae,?_⟩
  have:=of_decide_eq_true (List.findIdx_getElem (p:=fun c:ah=>decide (c.bw=p)) (xs:=l) (w:=hc))
  rw[Int.toNat_natCast,fP hc]
  exact this
 ·omega
def oY (l:List ah) (p:aq):Int:=if 0<=fD l p then(bq l (fD l p).toNat).bY else -1
end Go.Proofs.YtkbipfflibjfbaaGreat.V

namespace Go.Proofs.YtkbipfflibjfbaaGreat.V
open Go.RowKit
attribute [local irreducible] ef wpOps gN Call
attribute [local go_sem] aH fJ eW fZ gh dh upd cD K.av cP AV.cells AV.cell rowOf rowsOf part ld rowAt bU cw dI ek iq bL de eD gj fq dx ew db da dW dY bR bd cU bQ cW cV er ez eu cR bV dc eo bP aL cY cI im br cH bz bc dB bo dF AV.undef bx bE dZ ej dV ec cJ eC eE cF eB eA cX cZ List.getD_cons_zero List.getD_cons_succ List.getD_nil List.all_cons List.all_nil Bool.and_true Bool.true_and Bool.and_self Bool.not_true Bool.not_false Option.map_some Option.map_none Option.bind_some Option.bind_none List.length_cons List.length_nil List.take_succ_cons List.take_zero List.take_nil List.drop_succ_cons List.drop_zero List.drop_nil List.head?_cons List.map_cons List.map_nil List.getElem?_cons_zero List.getElem?_cons_succ List.cons_append List.nil_append List.append_nil List.length_map List.set_cons_zero List.set_cons_succ Nat.reduceMul eq_self Int.toNat_natCast Int.natCast_nonneg and_self true_and and_true decide_true decide_false Bool.false_eq_true Nat.zero_add Nat.add_zero List.contains_cons List.contains_nil Bool.or_false Bool.false_or beq_self_eq_true Nat.reduceBEq ne_eq not_true_eq_false not_false_eq_true Id.mk.injEq false_and and_false Nat.reduceLT Int.reduceLE Int.reduceLT Int.reduceToNat Int.reduceNeg Int.reduceAdd Nat.le_refl List.length_append beq_true beq_false Bool.not_eq_eq_eq_not or_false false_or dM ai ao aD bt cz aY bj aV bf cL bJ
theorem oN (a b:aq):ak Tryz.prog 121 [.agg (aa a),.agg (aa b)] (.bool (k8 a b)):=by
 refine ak.body eM rfl fun hl n0=>?_
 clear hl
 by_cases h0:a.dH<b.dH
 ·(try((repeat(revert hN;revert N;apply Pn.out));refine wk (tw @aa.eq_1 @h0) ?_;(repeat(refine Pn.mk ?_;intro N hN))))
  exact aZ (b:=true) (.inl rfl) (sd @Nat.zero_add) (by simp[k8,h0])
 ·by_cases h1:a.dH=b.dH
  ·have h2:¬b.dH<b.dH:=ae
   (try((repeat(revert hN;revert N;apply Pn.out));refine wk (tw @aa.eq_1 (tw @h1 @h2)) ?_;(repeat(refine Pn.mk ?_;intro N hN))))
   exact aZ (b:=decide (a.dQ<b.dQ)) (.inl rfl) (sd @Nat.zero_add) (by simp[k8,h1])
  ·(try((repeat(revert hN;revert N;apply Pn.out));refine wk (tw @aa.eq_1 (tw @h0 @h1)) ?_;(repeat(refine Pn.mk ?_;intro N hN))))
   exact aZ (b:=false) (.inl rfl) (sd @Nat.zero_add) (by simp[k8,h0,h1])
theorem gu {l:List ah} {i:Nat} (h:i<l.length):(l.map ab)[i]? =some (ab (bq l i)):=getD_map ab h
def Gv (l:List ah) (i:Nat):Prop:=AI (bq l i).bw=true/\iw (bq l i).bY 0 159=true/\(0<i->k8 (bq l (i-1)).bw (bq l i).bw=true)
structure iv (l:List ah):Prop where
 zX:l.length<=500
 ok:∀i,i<l.length->Gv l i
noncomputable def pc (l:List ah):Bool:=@decide (iv l) (Classical.propDecidable _)
theorem G1 {l:List ah}:pc l=true↔iv l:=by simp[pc]
theorem kH {l:List ah} (h:¬iv l):false=pc l:=by simp[pc,h]
theorem yR {l:List ah} (h:iv l):true=pc l:=by simp[pc,h]
theorem iv.Qn {l:List ah} (h:iv l):qL l:=by
 intro i j y4 hj
 induction j with
 |zero=>omega
 |succ j ih=>
  have h1:=(h.ok (j+1) hj).2.2 ae
  rw[Nat.add_sub_cancel]at h1
  by_cases he:i=j
  ·subst he;exact h1
  ·exact iD (ih ae ae) h1
theorem iv.pt {l:List ah} (h:iv l) {i:Nat} (hi:i<l.length):AI (bq l i).bw=true:=(h.ok i hi).1
theorem Kp {p:aq} (h:AI p=true):iB p.dQ/\iB p.dH:=by
 unfold AI at h
 simp only[Bool.and_eq_true]at h
 have:=dX h.1;have:=dX h.2
 unfold iB;omega
theorem Hq (l:List ah):ak Tryz.prog 118 [.dq [.sl (l.map ab)]] (.bool (pc l)):=by
 refine ak.body eM rfl fun hl n0=>?_
 clear hl
 by_cases h1:(500:Int)<(l.length:Int)
 ·(try((repeat(revert hN;revert N;apply Pn.out));refine wk @h1 ?_;(repeat(refine Pn.mk ?_;intro N hN))))
  exact aZ (b:=false) (.inl rfl) (sd @Nat.zero_add) (kH fun h=>by have:=h.zX;omega)
 (try((repeat(revert hN;revert N;apply Pn.out));refine wk @h1 ?_;(repeat(refine Pn.mk ?_;intro N hN))))
 refine aT (fun n env st=>∃k:Nat,n=(l.length)-k/\k<=(l.length)/\env 3=.int .i64 (k:Int)/\(∀j:Nat,j<k->Gv l j)) (l.length) ⟨0,ae,ae,sl @Nat.zero_add,fun _ h=>absurd h (Nat.not_lt_zero _)⟩ ?_
 rintro n_a env_a st_a ⟨k,rfl,ale,a3,lV⟩ dr
 have a0:=dr 0 (by kernel_rfl)
 simp only[go_sem, ↓reduceIte,Nat.reduceEqDiff,Nat.reduceAdd,Nat.reduceSub,Nat.reduceLeDiff,reduceCtorEq]at a0
 clear dr
 by_cases hk:(k:Int)<(l.length:Int)
 ·have bZ:∀{e:Env},(e 3=.int .i64 (IntKind.i64.wrap ((k:Int)+1)))->(Gv l k)->∃m0,m0<(l.length)-k/\∃k:Nat,m0=(l.length)-k/\k<=(l.length)/\e 3=.int .i64 (k:Int)/\(∀j:Nat,j<k->Gv l j):=fun x1 x2=>⟨_,ae,k+1,rfl,ae,(by rw[x1,aB ae]),(all_succ lV x2)⟩
  have fK:k<l.length:=ae
  have fe:=gu fK
  have jA:(¬Gv l k)->¬iv l:=fun h hp=>h (hp.ok k fK)
  have hp:=EI (bq l k).bw
  have ht:=lj (bq l k).bY 0 159
  cases b1:AI (bq l k).bw
  ·rw[b1]at hp
   (repeat(first|((repeat(revert hN;revert N;apply Pn.out));refine wk (tw @a3 (tw @a0 (tw @hk (tw @fe (tw @ab.eq_1 @aa.eq_1))))) ?_;(repeat(refine Pn.mk ?_;intro N hN)))|((try apply Or.inl);refine⟨_,ak.x (hp) (sd (tw @a3 (tw @a0 (tw @hk (tw @fe (tw @ab.eq_1 @aa.eq_1)))))),?_⟩;refine hN _ _ ?_;clear hN N)))
   exact aZ (b:=false) (.inl rfl) (sd @Nat.zero_add) (kH (jA fun h=>by rw[Gv,b1]at h;cases h.1))
  rw[b1]at hp
  cases b2:iw (bq l k).bY 0 159
  ·rw[b2]at ht
   (repeat(first|((repeat(revert hN;revert N;apply Pn.out));refine wk (tw @a3 (tw @a0 (tw @hk (tw @fe (tw @ab.eq_1 @aa.eq_1))))) ?_;(repeat(refine Pn.mk ?_;intro N hN)))|((try apply Or.inl);refine⟨_,ak.x (hp) (sd (tw @a3 (tw @a0 (tw @hk (tw @fe (tw @ab.eq_1 @aa.eq_1)))))),?_⟩;refine hN _ _ ?_;clear hN N)|((try apply Or.inl);refine⟨_,ak.x (ht) (sd (tw @a3 (tw @a0 (tw @hk (tw @fe (tw @ab.eq_1 @aa.eq_1)))))),?_⟩;refine hN _ _ ?_;clear hN N)))
   exact aZ (b:=false) (.inl rfl) (sd @Nat.zero_add) (kH (jA fun h=>by rw[Gv,b2]at h;cases h.2.1))
  rw[b2]at ht
  by_cases h0:(0:Int)<(k:Int)
  ·have wm:=gu (l:=l) (i:=k-1) ae
   have hw:IntKind.i64.wrap ((k:Int)-1)=((k-1:Nat):Int):=by rw[aJ (by have:=fK;omega)];omega
   have hq:=oN (bq l (k-1)).bw (bq l k).bw
   cases b3:k8 (bq l (k-1)).bw (bq l k).bw
   ·rw[b3]at hq
    (repeat(first|((repeat(revert hN;revert N;apply Pn.out));refine wk (tw @a3 (tw @a0 (tw @hk (tw @fe (tw @wm (tw @h0 (tw @hw (tw @ab.eq_1 @aa.eq_1)))))))) ?_;(repeat(refine Pn.mk ?_;intro N hN)))|((try apply Or.inl);refine⟨_,ak.x (hp) (sd (tw @a3 (tw @a0 (tw @hk (tw @fe (tw @wm (tw @h0 (tw @hw (tw @ab.eq_1 @aa.eq_1))))))))),?_⟩;refine hN _ _ ?_;clear hN N)|((try apply Or.inl);refine⟨_,ak.x (ht) (sd (tw @a3 (tw @a0 (tw @hk (tw @fe (tw @wm (tw @h0 (tw @hw (tw @ab.eq_1 @aa.eq_1))))))))),?_⟩;refine hN _ _ ?_;clear hN N)|((try apply Or.inl);refine⟨_,ak.x (hq) (sd (tw @a3 (tw @a0 (tw @hk (tw @fe (tw @wm (tw @h0 (tw @hw (tw @ab.eq_1 @aa.eq_1))))))))),?_⟩;refine hN _ _ ?_;clear hN N)))
    exact aZ (b:=false) (.inl rfl) (sd @Nat.zero_add) (kH (jA fun h=>by have:=h.2.2 ae;rw[b3]at this;cases this))
   ·rw[b3]at hq
    (repeat(first|((repeat(revert hN;revert N;apply Pn.out));refine wk (tw @a3 (tw @a0 (tw @hk (tw @fe (tw @wm (tw @h0 (tw @hw (tw @ab.eq_1 @aa.eq_1)))))))) ?_;(repeat(refine Pn.mk ?_;intro N hN)))|((try apply Or.inl);refine⟨_,ak.x (hp) (sd (tw @a3 (tw @a0 (tw @hk (tw @fe (tw @wm (tw @h0 (tw @hw (tw @ab.eq_1 @aa.eq_1))))))))),?_⟩;refine hN _ _ ?_;clear hN N)|((try apply Or.inl);refine⟨_,ak.x (ht) (sd (tw @a3 (tw @a0 (tw @hk (tw @fe (tw @wm (tw @h0 (tw @hw (tw @ab.eq_1 @aa.eq_1))))))))),?_⟩;refine hN _ _ ?_;clear hN N)|((try apply Or.inl);refine⟨_,ak.x (hq) (sd (tw @a3 (tw @a0 (tw @hk (tw @fe (tw @wm (tw @h0 (tw @hw (tw @ab.eq_1 @aa.eq_1))))))))),?_⟩;refine hN _ _ ?_;clear hN N)))
    exact bZ (sd (tw @a3 @a0)) (⟨b1,b2,fun _=>b3⟩)
  ·have tk:k=0:=ae
   (repeat(first|((repeat(revert hN;revert N;apply Pn.out));refine wk (tw @a3 (tw @a0 (tw @hk (tw @fe (tw @h0 (tw @ab.eq_1 @aa.eq_1)))))) ?_;(repeat(refine Pn.mk ?_;intro N hN)))|((try apply Or.inl);refine⟨_,ak.x (hp) (sd (tw @a3 (tw @a0 (tw @hk (tw @fe (tw @h0 (tw @ab.eq_1 @aa.eq_1))))))),?_⟩;refine hN _ _ ?_;clear hN N)|((try apply Or.inl);refine⟨_,ak.x (ht) (sd (tw @a3 (tw @a0 (tw @hk (tw @fe (tw @h0 (tw @ab.eq_1 @aa.eq_1))))))),?_⟩;refine hN _ _ ?_;clear hN N)))
   exact bZ (sd (tw @a3 @a0)) (⟨b1,b2,fun h=>ae⟩)
 ·(try((repeat(revert hN;revert N;apply Pn.out));refine wk (tw @a3 (tw @a0 @hk)) ?_;(repeat(refine Pn.mk ?_;intro N hN))))
  exact aZ (b:=true) (.inl rfl) (sd @Nat.zero_add) (yR ⟨ae,fun i hi=>lV i ae⟩)
theorem yL (a b:Int):ak Tryz.prog 179 [.int .i64 a,.int .i64 b] (.int .i64 (rV a b)):=by
 have nan:∀x:Int,ak Tryz.prog 194 [.int .i64 x] (.bool false):=fun x=>by
  refine ak.body eM rfl fun hl n0=>?_
  clear hl
  have e:decide (x=x)=true:=decide_eq_true rfl
  (try((repeat(revert hN;revert N;apply Pn.out));refine wk @e ?_;(repeat(refine Pn.mk ?_;intro N hN))))
  exact aZ (b:=false) (.inl rfl) (sd @Nat.zero_add) rfl
 refine ak.body eM rfl fun hl n0=>?_
 clear hl
 have ha:=nan a
 have hb:=nan b
 by_cases h1:a<b
 ·(repeat(first|((repeat(revert hN;revert N;apply Pn.out));refine wk @h1 ?_;(repeat(refine Pn.mk ?_;intro N hN)))|((try apply Or.inl);refine⟨_,ak.x (ha) (sd @h1),?_⟩;refine hN _ _ ?_;clear hN N)|((try apply Or.inl);refine⟨_,ak.x (hb) (sd @h1),?_⟩;refine hN _ _ ?_;clear hN N)))
  exact cu (b:=-1) (.inl rfl) (sd @Nat.zero_add) (by rw[rV,if_pos h1])
 by_cases h2:b<a
 ·(repeat(first|((repeat(revert hN;revert N;apply Pn.out));refine wk (tw @h1 @h2) ?_;(repeat(refine Pn.mk ?_;intro N hN)))|((try apply Or.inl);refine⟨_,ak.x (ha) (sd (tw @h1 @h2)),?_⟩;refine hN _ _ ?_;clear hN N)|((try apply Or.inl);refine⟨_,ak.x (hb) (sd (tw @h1 @h2)),?_⟩;refine hN _ _ ?_;clear hN N)))
  exact cu (b:=1) (.inl rfl) (sd @Nat.zero_add) (by rw[rV,if_neg h1,if_pos h2])
 ·(repeat(first|((repeat(revert hN;revert N;apply Pn.out));refine wk (tw @h1 @h2) ?_;(repeat(refine Pn.mk ?_;intro N hN)))|((try apply Or.inl);refine⟨_,ak.x (ha) (sd (tw @h1 @h2)),?_⟩;refine hN _ _ ?_;clear hN N)|((try apply Or.inl);refine⟨_,ak.x (hb) (sd (tw @h1 @h2)),?_⟩;refine hN _ _ ?_;clear hN N)))
  exact cu (b:=0) (.inl rfl) (sd @Nat.zero_add) (by rw[rV,if_neg h1,if_neg h2])
def Iu:List Int->Int
 |[]=>0
 |a::r=>if a=0 then Iu r else a
theorem Kk:∀{l:List Int} {k:Nat} (hk:k<l.length),l[k]≠0->(∀j (h:j<l.length),j<k->l[j]=0)->Iu l=l[k]
 |a::r,0,_,h,_=>by
  have h':a≠0:=h
  rw[Iu,if_neg h'];rfl
 |a::r,k+1,hk,h,h0=>by
  have h':a=0:=h0 0 (by simp) ae
  rw[Iu,if_pos h',Kk (k:=k) (by simpa using hk) h fun j hj y5=>h0 (j+1) (by simpa using hj) ae];rfl
theorem CV:∀{l:List Int},(∀j (h:j<l.length),l[j]=0)->Iu l=0
 |[],_=>rfl
 |a::r,h=>by
  have h':a=0:=h 0 (by simp)
  rw[Iu,if_pos h',CV fun j hj=>h (j+1) (by simpa using hj)]
theorem Nb (a b:Int):Iu [a,b]=M9 a b:=by
 unfold M9
 by_cases h:a=0
 ·rw[Iu,if_pos h,if_pos h,Iu,Iu];split<;>simp_all
 ·rw[Iu,if_neg h,if_neg h]
theorem L6 (l:List Int):ak Tryz.prog 178 [.sl (l.map aX)] (.int .i64 (Iu l)):=by
 refine ak.body eM rfl fun hl n0=>?_
 have hlen:l.length<=9223372036854775807:=by simpa using(hl (.sl (l.map aX)) (by simp)).len
 clear hl
 (try((repeat(revert hN;revert N;apply Pn.out));refine wk @Nat.zero_add ?_;(repeat(refine Pn.mk ?_;intro N hN))))
 refine aT (fun n env st=>∃k:Nat,n=(l.length)-k/\k<=(l.length)/\env 8=.int .i64 (k:Int)/\(∀j:Nat,j<k->∀h:j<l.length,l[j]=0)) (l.length) ⟨0,ae,ae,sl @Nat.zero_add,fun _ h=>absurd h (Nat.not_lt_zero _)⟩ ?_
 rintro n_a env_a st_a ⟨k,rfl,ale,a8,lV⟩ dr
 have a3:=dr 3 (by kernel_rfl);have a6:=dr 6 (by kernel_rfl);have a7:=dr 7 (by kernel_rfl)
 simp only[go_sem, ↓reduceIte,Nat.reduceEqDiff,Nat.reduceAdd,Nat.reduceSub,Nat.reduceLeDiff,reduceCtorEq]at a3 a6 a7
 clear dr
 by_cases hk:(k:Int)<(l.length:Int)
 ·have bZ:∀{e:Env},(e 8=.int .i64 (IntKind.i64.wrap ((k:Int)+1)))->(∀h:k<l.length,l[k]=0)->∃m0,m0<(l.length)-k/\∃k:Nat,m0=(l.length)-k/\k<=(l.length)/\e 8=.int .i64 (k:Int)/\(∀j:Nat,j<k->∀h:j<l.length,l[j]=0):=fun x1 x2=>⟨_,ae,k+1,rfl,ae,(by rw[x1,aB ae]),(all_succ lV x2)⟩
  have fK:k<l.length:=ae
  have fe:(l.map aX)[k]? =some (aX l[k]):=by simp[fK]
  generalize hv:l[k]=v at fe
  by_cases h0:v=0
  ·have e:decide (v=0)=true:=decide_eq_true h0
   (try((repeat(revert hN;revert N;apply Pn.out));refine wk (tw @a8 (tw @a3 (tw @a6 (tw @a7 (tw @e (tw @hk (tw @fe @aX.eq_1))))))) ?_;(repeat(refine Pn.mk ?_;intro N hN))))
   exact bZ (sd (tw @a8 (tw @a3 (tw @a6 @a7)))) (fun _=>hv.trans h0)
  ·have e:decide (v=0)=false:=decide_eq_false h0
   (try((repeat(revert hN;revert N;apply Pn.out));refine wk (tw @a8 (tw @a3 (tw @a6 (tw @a7 (tw @e (tw @hk (tw @fe @aX.eq_1))))))) ?_;(repeat(refine Pn.mk ?_;intro N hN))))
   exact cu (b:=v) (.inl rfl) (sd @Nat.zero_add) (by rw[Kk fK (by rw[hv];exact h0) fun j h hj=>lV j hj h,hv])
 ·(try((repeat(revert hN;revert N;apply Pn.out));refine wk (tw @a8 (tw @a3 (tw @a6 (tw @a7 @hk)))) ?_;(repeat(refine Pn.mk ?_;intro N hN))))
  exact cu (b:=0) (.inl rfl) (sd @Nat.zero_add) (by rw[CV fun j h=>lV j ae h])
section
attribute [local go_sem] List.drop_zero List.take_succ_cons List.take_zero List.length_cons List.length_nil ig zZ pd
theorem ow (a b:aq):ak Tryz.prog 155 [.agg (aa a),.agg (aa b)] (.int .i64 (qi a b)):=by
 refine ak.body eM rfl fun hl n0=>?_
 clear hl
 have h1:=yL a.dH b.dH
 have h2:=yL a.dQ b.dQ
 have h3:=L6 [rV a.dH b.dH,rV a.dQ b.dQ]
 rw[Nb,List.map_cons,List.map_cons,List.map_nil,aX,aX]at h3
 (repeat(first|((repeat(revert hN;revert N;apply Pn.out));refine wk @aa.eq_1 ?_;(repeat(refine Pn.mk ?_;intro N hN)))|((try apply Or.inl);refine⟨_,ak.x (h1) (sd @aa.eq_1),?_⟩;refine hN _ _ ?_;clear hN N)|((try apply Or.inl);refine⟨_,ak.x (h2) (sd @aa.eq_1),?_⟩;refine hN _ _ ?_;clear hN N)|((try apply Or.inl);refine⟨_,ak.x (h3) (sd @aa.eq_1),?_⟩;refine hN _ _ ?_;clear hN N)))
 exact cu (b:=qi a b) (.inl rfl) (by simp only[go_sem, ↓reduceIte,Nat.reduceEqDiff,Nat.reduceAdd,Nat.reduceSub,Nat.reduceLeDiff,reduceCtorEq,qi]) rfl
end
theorem MH (a b:aq):ak Tryz.prog 135 [.agg (aa a),.agg (aa b)] (.bool (k8 a b)):=by
 refine ak.body eM rfl fun hl n0=>?_
 clear hl
 have h1:=ow a b
 rw[aa,aa]at h1
 (repeat(first|((repeat(revert hN;revert N;apply Pn.out));refine wk @aa.eq_1 ?_;(repeat(refine Pn.mk ?_;intro N hN)))|((try apply Or.inl);refine⟨_,ak.x (h1) (sd @aa.eq_1),?_⟩;refine hN _ _ ?_;clear hN N)))
 exact aZ (b:=decide (qi a b<0)) (.inl rfl) (sd @Nat.zero_add) (nM a b)
theorem kV (t:ah) (p:aq):ak Tryz.prog 112 [.agg (ab t),.agg (aa p)] (.int .i64 (qi t.bw p)):=by
 refine ak.body eM rfl fun hl n0=>?_
 clear hl
 have h1:=ow t.bw p
 rw[aa,aa]at h1
 (repeat(first|((repeat(revert hN;revert N;apply Pn.out));refine wk (tw @ab.eq_1 @aa.eq_1) ?_;(repeat(refine Pn.mk ?_;intro N hN)))|((try apply Or.inl);refine⟨_,ak.x (h1) (sd (tw @ab.eq_1 @aa.eq_1)),?_⟩;refine hN _ _ ?_;clear hN N)))
 exact cu (b:=qi t.bw p) (.inl rfl) (sd @Nat.zero_add) rfl
theorem G3 (l:List ah):ak Tryz.prog 130 [.agg [.sl (l.map ab)]] (.bool (pc l)):=by
 refine ak.body eM rfl fun hl n0=>?_
 have hlen:l.length<=9223372036854775807:=by
  have h1:=(hl (.agg [.sl (l.map ab)]) (by simp)).OL (a:=.sl (l.map ab)) (by simp)
  simpa using h1.len
 clear hl
 (try((repeat(revert hN;revert N;apply Pn.out));refine wk @Nat.zero_add ?_;(repeat(refine Pn.mk ?_;intro N hN))))
 refine aT (fun n env st=>∃k:Nat,n=(l.length)-k/\k<=(l.length)/\env 8=.int .i64 (k:Int)/\st.get ⟨130000000,n0⟩=some ⟨true,1,[[.sl (l.map ab)]]⟩/\(∀j:Nat,j<k->Gv l j)) (l.length) ⟨0,ae,ae,sl @Nat.zero_add,sl @Nat.zero_add,fun _ h=>absurd h (Nat.not_lt_zero _)⟩ ?_
 rintro n_a env_a st_a ⟨k,rfl,ale,a8,ag0,lV⟩ dr
 have a1:=dr 1 (by kernel_rfl);have a6:=dr 6 (by kernel_rfl);have a7:=dr 7 (by kernel_rfl)
 simp only[go_sem, ↓reduceIte,Nat.reduceEqDiff,Nat.reduceAdd,Nat.reduceSub,Nat.reduceLeDiff,reduceCtorEq]at a1 a6 a7
 clear dr
 by_cases hk:(k:Int)<(l.length:Int)
 ·have bZ:∀{e:Env} {gg:Rows},(e 8=.int .i64 (IntKind.i64.wrap ((k:Int)+1)))->(gg ⟨130000000,n0⟩=some ⟨true,1,[[.sl (l.map ab)]]⟩)->(Gv l k)->∃m0,m0<(l.length)-k/\∃k:Nat,m0=(l.length)-k/\k<=(l.length)/\e 8=.int .i64 (k:Int)/\gg ⟨130000000,n0⟩=some ⟨true,1,[[.sl (l.map ab)]]⟩/\(∀j:Nat,j<k->Gv l j):=fun x1 x2 x3=>⟨_,ae,k+1,rfl,ae,(by rw[x1,aB ae]),x2,(all_succ lV x3)⟩
  have fK:k<l.length:=ae
  have fe:=gu fK
  have jA:(¬Gv l k)->¬iv l:=fun h hp=>h (hp.ok k fK)
  have hp:=zI (bq l k).bw
  have ht:=ze (bq l k).bY 160 ae ae
  rw[show(160:Int)-1=159 from rfl]at ht
  cases b1:AI (bq l k).bw
  ·rw[b1]at hp
   (repeat(first|((repeat(revert hN;revert N;apply Pn.out));refine wk (tw @a8 (tw @ag0 (tw @a1 (tw @a6 (tw @a7 (tw @hk (tw @fe (tw @ab.eq_1 @aa.eq_1)))))))) ?_;(repeat(refine Pn.mk ?_;intro N hN)))|((try apply Or.inl);refine⟨_,ak.x (hp) (sd (tw @a8 (tw @ag0 (tw @a1 (tw @a6 (tw @a7 (tw @hk (tw @fe (tw @ab.eq_1 @aa.eq_1))))))))),?_⟩;refine hN _ _ ?_;clear hN N)))
   exact aZ (b:=false) (.inl rfl) (sd @Nat.zero_add) (kH (jA fun h=>by rw[Gv,b1]at h;cases h.1))
  rw[b1]at hp
  cases b2:iw (bq l k).bY 0 159
  ·rw[b2]at ht
   (repeat(first|((repeat(revert hN;revert N;apply Pn.out));refine wk (tw @a8 (tw @ag0 (tw @a1 (tw @a6 (tw @a7 (tw @hk (tw @fe (tw @ab.eq_1 @aa.eq_1)))))))) ?_;(repeat(refine Pn.mk ?_;intro N hN)))|((try apply Or.inl);refine⟨_,ak.x (hp) (sd (tw @a8 (tw @ag0 (tw @a1 (tw @a6 (tw @a7 (tw @hk (tw @fe (tw @ab.eq_1 @aa.eq_1))))))))),?_⟩;refine hN _ _ ?_;clear hN N)|((try apply Or.inl);refine⟨_,ak.x (ht) (sd (tw @a8 (tw @ag0 (tw @a1 (tw @a6 (tw @a7 (tw @hk (tw @fe (tw @ab.eq_1 @aa.eq_1))))))))),?_⟩;refine hN _ _ ?_;clear hN N)))
   exact aZ (b:=false) (.inl rfl) (sd @Nat.zero_add) (kH (jA fun h=>by rw[Gv,b2]at h;cases h.2.1))
  rw[b2]at ht
  by_cases h0:(0:Int)<(k:Int)
  ·have wm:=gu (l:=l) (i:=k-1) ae
   have hw:IntKind.i64.wrap ((k:Int)-1)=((k-1:Nat):Int):=by rw[aJ ae];omega
   have hq:=MH (bq l (k-1)).bw (bq l k).bw
   cases b3:k8 (bq l (k-1)).bw (bq l k).bw
   ·rw[b3]at hq
    (repeat(first|((repeat(revert hN;revert N;apply Pn.out));refine wk (tw @a8 (tw @ag0 (tw @a1 (tw @a6 (tw @a7 (tw @hk (tw @fe (tw @wm (tw @h0 (tw @hw (tw @ab.eq_1 @aa.eq_1))))))))))) ?_;(repeat(refine Pn.mk ?_;intro N hN)))|((try apply Or.inl);refine⟨_,ak.x (hp) (sd (tw @a8 (tw @ag0 (tw @a1 (tw @a6 (tw @a7 (tw @hk (tw @fe (tw @wm (tw @h0 (tw @hw (tw @ab.eq_1 @aa.eq_1)))))))))))),?_⟩;refine hN _ _ ?_;clear hN N)|((try apply Or.inl);refine⟨_,ak.x (ht) (sd (tw @a8 (tw @ag0 (tw @a1 (tw @a6 (tw @a7 (tw @hk (tw @fe (tw @wm (tw @h0 (tw @hw (tw @ab.eq_1 @aa.eq_1)))))))))))),?_⟩;refine hN _ _ ?_;clear hN N)|((try apply Or.inl);refine⟨_,ak.x (hq) (sd (tw @a8 (tw @ag0 (tw @a1 (tw @a6 (tw @a7 (tw @hk (tw @fe (tw @wm (tw @h0 (tw @hw (tw @ab.eq_1 @aa.eq_1)))))))))))),?_⟩;refine hN _ _ ?_;clear hN N)))
    exact aZ (b:=false) (.inl rfl) (sd @Nat.zero_add) (kH (jA fun h=>by have:=h.2.2 ae;rw[b3]at this;cases this))
   ·rw[b3]at hq
    (repeat(first|((repeat(revert hN;revert N;apply Pn.out));refine wk (tw @a8 (tw @ag0 (tw @a1 (tw @a6 (tw @a7 (tw @hk (tw @fe (tw @wm (tw @h0 (tw @hw (tw @ab.eq_1 @aa.eq_1))))))))))) ?_;(repeat(refine Pn.mk ?_;intro N hN)))|((try apply Or.inl);refine⟨_,ak.x (hp) (sd (tw @a8 (tw @ag0 (tw @a1 (tw @a6 (tw @a7 (tw @hk (tw @fe (tw @wm (tw @h0 (tw @hw (tw @ab.eq_1 @aa.eq_1)))))))))))),?_⟩;refine hN _ _ ?_;clear hN N)|((try apply Or.inl);refine⟨_,ak.x (ht) (sd (tw @a8 (tw @ag0 (tw @a1 (tw @a6 (tw @a7 (tw @hk (tw @fe (tw @wm (tw @h0 (tw @hw (tw @ab.eq_1 @aa.eq_1)))))))))))),?_⟩;refine hN _ _ ?_;clear hN N)|((try apply Or.inl);refine⟨_,ak.x (hq) (sd (tw @a8 (tw @ag0 (tw @a1 (tw @a6 (tw @a7 (tw @hk (tw @fe (tw @wm (tw @h0 (tw @hw (tw @ab.eq_1 @aa.eq_1)))))))))))),?_⟩;refine hN _ _ ?_;clear hN N)))
    refine bZ ?_ ?_ (⟨b1,b2,fun _=>b3⟩)
    all_goals simp only[go_sem, ↓reduceIte,Nat.reduceEqDiff,Nat.reduceAdd,Nat.reduceSub,Nat.reduceLeDiff,reduceCtorEq,a8,ag0,a1,a6,a7]
  ·have tk:k=0:=ae
   (repeat(first|((repeat(revert hN;revert N;apply Pn.out));refine wk (tw @a8 (tw @ag0 (tw @a1 (tw @a6 (tw @a7 (tw @hk (tw @fe (tw @h0 (tw @ab.eq_1 @aa.eq_1))))))))) ?_;(repeat(refine Pn.mk ?_;intro N hN)))|((try apply Or.inl);refine⟨_,ak.x (hp) (sd (tw @a8 (tw @ag0 (tw @a1 (tw @a6 (tw @a7 (tw @hk (tw @fe (tw @h0 (tw @ab.eq_1 @aa.eq_1)))))))))),?_⟩;refine hN _ _ ?_;clear hN N)|((try apply Or.inl);refine⟨_,ak.x (ht) (sd (tw @a8 (tw @ag0 (tw @a1 (tw @a6 (tw @a7 (tw @hk (tw @fe (tw @h0 (tw @ab.eq_1 @aa.eq_1)))))))))),?_⟩;refine hN _ _ ?_;clear hN N)))
   refine bZ ?_ ?_ (⟨b1,b2,fun h=>ae⟩)
   all_goals simp only[go_sem, ↓reduceIte,Nat.reduceEqDiff,Nat.reduceAdd,Nat.reduceSub,Nat.reduceLeDiff,reduceCtorEq,a8,ag0,a1,a6,a7]
 ·(try((repeat(revert hN;revert N;apply Pn.out));refine wk (tw @a8 (tw @ag0 (tw @a1 (tw @a6 (tw @a7 @hk))))) ?_;(repeat(refine Pn.mk ?_;intro N hN))))
  refine aZ (b:=decide ((l.length:Int)<=500)) (.inl rfl) (sd @Nat.zero_add) ?_
  by_cases h5:(l.length:Int)<=500
  ·rw[decide_eq_true h5];exact yR ⟨ae,fun i hi=>lV i ae⟩
  ·rw[decide_eq_false h5];exact kH fun h=>by have:=h.zX;omega
theorem yH (cells:List ah) (p:aq) (hR:qL cells) (Mi:cells.length<=1048576):
  ak Tryz.prog 111 [.sl (cells.map ab),.agg (aa p),.fn 112 []] (.iJ [.int .i64 (nr cells p),.bool (decide (nr cells p<cells.length)&&decide ((bq cells (nr cells p)).bw=p))]):=by
 refine ak.body eM rfl fun hl n0=>?_
 clear hl
 (try((repeat(revert hN;revert N;apply Pn.out));refine wk @aa.eq_1 ?_;(repeat(refine Pn.mk ?_;intro N hN))))
 refine aT (fun n env st=>∃i j:Nat,n=j-i/\i<=j/\j<=cells.length/\(∀x,x<i->k8 (bq cells x).bw p=true)/\(∀x,j<=x->x<cells.length->k8 (bq cells x).bw p=false)/\env 9=.int .i64 i/\env 10=.int .i64 j/\st.get ⟨111000000,n0⟩=some ⟨true,2,[aa p]⟩) cells.length ⟨0,cells.length,ae,ae,ae,fun x h=>ae,fun x h1 h2=>ae,by(simp only[go_sem, ↓reduceIte,Nat.reduceEqDiff,Nat.reduceAdd,Nat.reduceSub,Nat.reduceLeDiff,reduceCtorEq])<;>rfl,sd @Nat.zero_add,sd @aa.eq_1⟩ ?_
 rintro n env st ⟨i,j,rfl,y4,hj,kJ,Dr,h9,h10,hg⟩ fr
 have h0:=fr 0 (by kernel_rfl)
 have h2:=fr 2 (by kernel_rfl)
 have h4:=fr 4 (by kernel_rfl)
 have h8:=fr 8 (by kernel_rfl)
 simp only[go_sem, ↓reduceIte,Nat.reduceEqDiff,Nat.reduceAdd,Nat.reduceSub,Nat.reduceLeDiff,reduceCtorEq]at h0 h2 h4 h8
 clear fr
 by_cases dO:(i:Int)<(j:Int)
 ·have e1:IntKind.i64.wrap ((i:Int)+j)=((i+j:Nat):Int):=by rw[aJ ae];rfl
  have hm:(i+j) / 2<cells.length:=ae
  have eQ:(cells.map ab)[(i+j) / 2]? =some (ab (bq cells ((i+j) / 2))):=gu (l:=cells) hm
  have e2:IntKind.i64.wrap ((IntKind.u64.wrap ((i+j:Nat):Int)).fdiv (2 ^ min 1 IntKind.u64.bits))=(((i+j) / 2:Nat):Int):=by
   have h:IntKind.u64.wrap ((i+j:Nat):Int)=((i+j:Nat):Int):=by rw[IntKind.wrap_u64];omega
   rw[h,show min 1 IntKind.u64.bits=1 from rfl,show((2:Int) ^ 1)=2 from rfl,Int.fdiv_eq_ediv_of_nonneg _ ae]
   rw[aJ ae];omega
  have RV:IntKind.i64.wrap ((IntKind.u64.wrap ((i+j:Nat):Int)).fdiv (2 ^ min 1 64))=(((i+j) / 2:Nat):Int):=e2
  have e3:=aB (k:=(i+j) / 2) ae
  by_cases hc:qi (bq cells ((i+j) / 2)).bw p<0
  ·have hl:k8 (bq cells ((i+j) / 2)).bw p=true:=by rw[<-nM];simpa using hc
   (repeat(first|((repeat(revert hN;revert N;apply Pn.out));refine wk (tw @h0 (tw @h2 (tw @h4 (tw @h8 (tw @h9 (tw @h10 (tw @hg (tw @dO (tw @e1 (tw @e2 (tw @RV (tw @eQ (tw @hc (tw @ab.eq_1 @aa.eq_1)))))))))))))) ?_;(repeat(refine Pn.mk ?_;intro N hN)))|((try apply Or.inl);refine⟨_,ak.x (kV (bq cells ((i+j) / 2)) p) (sd (tw @h0 (tw @h2 (tw @h4 (tw @h8 (tw @h9 (tw @h10 (tw @hg (tw @dO (tw @e1 (tw @e2 (tw @RV (tw @eQ (tw @hc (tw @ab.eq_1 @aa.eq_1))))))))))))))),?_⟩;refine hN _ _ ?_;clear hN N)))
   refine⟨_,?_,(i+j) / 2+1,j,rfl,ae,hj,fun x hx=>?_,Dr,sd @e3,sd @h10,sd (tw @hg @aa.eq_1)⟩
   ·omega
   ·by_cases P7:x=(i+j) / 2
    ·subst P7;exact hl
    ·exact iD (hR x _ ae hm) hl
  ·have hl:k8 (bq cells ((i+j) / 2)).bw p=false:=by rw[<-nM];simpa using hc
   (repeat(first|((repeat(revert hN;revert N;apply Pn.out));refine wk (tw @h0 (tw @h2 (tw @h4 (tw @h8 (tw @h9 (tw @h10 (tw @hg (tw @dO (tw @e1 (tw @e2 (tw @RV (tw @eQ (tw @hc (tw @ab.eq_1 @aa.eq_1)))))))))))))) ?_;(repeat(refine Pn.mk ?_;intro N hN)))|((try apply Or.inl);refine⟨_,ak.x (kV (bq cells ((i+j) / 2)) p) (sd (tw @h0 (tw @h2 (tw @h4 (tw @h8 (tw @h9 (tw @h10 (tw @hg (tw @dO (tw @e1 (tw @e2 (tw @RV (tw @eQ (tw @hc (tw @ab.eq_1 @aa.eq_1))))))))))))))),?_⟩;refine hN _ _ ?_;clear hN N)))
   refine⟨_,?_,i,(i+j) / 2,rfl,ae,ae,kJ,fun x h1 h2=>?_,sd @h9,sd (tw @e2 @RV),sd (tw @hg @aa.eq_1)⟩
   ·omega
   ·by_cases P7:x=(i+j) / 2
    ·subst P7;exact hl
    ·rw[Bool.eq_false_iff]
     intro hc
     have h3:=iD (hR ((i+j) / 2) x ae h2) hc
     rw[hl]at h3;cases h3
 ·have PM:i=j:=ae
  subst PM
  have xW:nr cells p=i:=Ax hj kJ fun h=>Dr i (Nat.le_refl _) h
  by_cases hn:(i:Int)<(cells.length:Int)
  ·have fB:i<cells.length:=ae
   have eQ:(cells.map ab)[i]? =some (ab (bq cells i)):=gu (l:=cells) fB
   have hd:decide (qi (bq cells i).bw p=0)=decide ((bq cells i).bw=p):=by simp only[GH]
   (repeat(first|((repeat(revert hN;revert N;apply Pn.out));refine wk (tw @h0 (tw @h2 (tw @h4 (tw @h8 (tw @h9 (tw @h10 (tw @hg (tw @dO (tw @hn (tw @eQ (tw @ab.eq_1 @aa.eq_1))))))))))) ?_;(repeat(refine Pn.mk ?_;intro N hN)))|((try apply Or.inl);refine⟨_,ak.x (kV (bq cells i) p) (sd (tw @h0 (tw @h2 (tw @h4 (tw @h8 (tw @h9 (tw @h10 (tw @hg (tw @dO (tw @hn (tw @eQ (tw @ab.eq_1 @aa.eq_1)))))))))))),?_⟩;refine hN _ _ ?_;clear hN N)))
   refine j0 (.inl rfl) (r1:=.int .i64 i) (r2:=.bool (decide ((bq cells i).bw=p))) ?_ ?_ ?_
   ·simp only[go_sem, ↓reduceIte,Nat.reduceEqDiff,Nat.reduceAdd,Nat.reduceSub,Nat.reduceLeDiff,reduceCtorEq]
   ·simp only[go_sem, ↓reduceIte,Nat.reduceEqDiff,Nat.reduceAdd,Nat.reduceSub,Nat.reduceLeDiff,reduceCtorEq,hd]
   ·simp only[eV,aI,aW,dw,fH,Option.map_some,xW,fB,decide_true,Bool.true_and]
  ·have fB:¬i<cells.length:=ae
   (try((repeat(revert hN;revert N;apply Pn.out));refine wk (tw @h0 (tw @h2 (tw @h4 (tw @h8 (tw @h9 (tw @h10 (tw @hg (tw @dO (tw @hn (tw @ab.eq_1 @aa.eq_1)))))))))) ?_;(repeat(refine Pn.mk ?_;intro N hN))))
   refine j0 (.inl rfl) (r1:=.int .i64 i) (r2:=.bool false) ?_ ?_ ?_
   ·simp only[go_sem, ↓reduceIte,Nat.reduceEqDiff,Nat.reduceAdd,Nat.reduceSub,Nat.reduceLeDiff,reduceCtorEq]
   ·simp only[go_sem, ↓reduceIte,Nat.reduceEqDiff,Nat.reduceAdd,Nat.reduceSub,Nat.reduceLeDiff,reduceCtorEq]
   ·simp only[eV,aI,aW,dw,fH,Option.map_some,xW,fB,decide_false,Bool.false_and]
theorem HI (l:List ah) (p:aq) (hR:qL l) (Mi:l.length<=1048576):ak Tryz.prog 107 [.agg [.sl (l.map ab)],.agg (aa p)] (.int .i64 (fD l p)):=by
 refine ak.body eM rfl fun hl n0=>?_
 clear hl
 rw[AA hR]
 have hb:=yH l p hR Mi
 rw[aa]at hb
 cases hf:(decide (nr l p<l.length)&&decide ((bq l (nr l p)).bw=p))
 ·rw[hf]at hb
  (repeat(first|((repeat(revert hN;revert N;apply Pn.out));refine wk @aa.eq_1 ?_;(repeat(refine Pn.mk ?_;intro N hN)))|((try apply Or.inl);refine⟨_,ak.x (hb) (sd @aa.eq_1),?_⟩;refine hN _ _ ?_;clear hN N)))
  exact cu (b:=-1) (.inl rfl) (sd @Nat.zero_add) (by rw[if_neg];intro h;simp[h.1,h.2]at hf)
 ·rw[hf]at hb
  (repeat(first|((repeat(revert hN;revert N;apply Pn.out));refine wk @aa.eq_1 ?_;(repeat(refine Pn.mk ?_;intro N hN)))|((try apply Or.inl);refine⟨_,ak.x (hb) (sd @aa.eq_1),?_⟩;refine hN _ _ ?_;clear hN N)))
  exact cu (b:=(nr l p:Int)) (.inl rfl) (sd @Nat.zero_add) (by rw[if_pos];simpa using hf)
theorem OP (l:List ah) (p:aq) (hR:qL l) (Mi:l.length<=1048576):ak Tryz.prog 57 [.agg [.sl (l.map ab)],.agg (aa p)] (.int .i64 (oY l p)):=by
 refine ak.body eM rfl fun hl n0=>?_
 clear hl
 have hi:=AA (l:=l) (p:=p) hR
 have hb:=yH l p hR Mi
 rw[aa]at hb
 cases hf:(decide (nr l p<l.length)&&decide ((bq l (nr l p)).bw=p))
 ·rw[hf]at hb
  (repeat(first|((repeat(revert hN;revert N;apply Pn.out));refine wk @aa.eq_1 ?_;(repeat(refine Pn.mk ?_;intro N hN)))|((try apply Or.inl);refine⟨_,ak.x (hb) (sd @aa.eq_1),?_⟩;refine hN _ _ ?_;clear hN N)))
  exact cu (b:=-1) (.inl rfl) (sd @Nat.zero_add) (by
   have hx:fD l p= -1:=by rw[hi,if_neg (by intro h;simp[h.1,h.2]at hf)]
   rw[oY,hx];rfl)
 ·rw[hf]at hb
  have hc:nr l p<l.length/\(bq l (nr l p)).bw=p:=by simpa using hf
  have hg:=gu hc.1
  (repeat(first|((repeat(revert hN;revert N;apply Pn.out));refine wk (tw @aa.eq_1 (tw @hg @ab.eq_1)) ?_;(repeat(refine Pn.mk ?_;intro N hN)))|((try apply Or.inl);refine⟨_,ak.x (hb) (sd (tw @aa.eq_1 (tw @hg @ab.eq_1))),?_⟩;refine hN _ _ ?_;clear hN N)))
  exact cu (b:=(bq l (nr l p)).bY) (.inl rfl) (sd @Nat.zero_add) (by
   have hx:fD l p=(nr l p:Int):=by rw[hi,if_pos hc]
   rw[oY,hx,if_pos ae,Int.toNat_natCast])
theorem wK (l:List ah) (p:aq) (hR:qL l) (Mi:l.length<=1048576):ak Tryz.prog 97 [.dq [.sl (l.map ab)],.agg (aa p)] (.int .i64 (fD l p)):=by
 refine ak.body eM rfl fun hl n0=>?_
 clear hl
 rw[AA hR]
 (try((repeat(revert hN;revert N;apply Pn.out));refine wk @aa.eq_1 ?_;(repeat(refine Pn.mk ?_;intro N hN))))
 refine aT (fun n env st=>∃i j:Nat,n=j-i/\i<=j/\j<=l.length/\(∀x,x<i->k8 (bq l x).bw p=true)/\(∀x,j<=x->x<l.length->k8 (bq l x).bw p=false)/\env 5=.int .i64 i/\env 6=.int .i64 j/\st.get ⟨97000000,n0⟩=some ⟨true,2,[aa p]⟩) l.length ⟨0,l.length,ae,ae,ae,fun x h=>ae,fun x h1 h2=>ae,by(simp only[go_sem, ↓reduceIte,Nat.reduceEqDiff,Nat.reduceAdd,Nat.reduceSub,Nat.reduceLeDiff,reduceCtorEq])<;>rfl,sd @Nat.zero_add,sd @aa.eq_1⟩ ?_
 rintro n env st ⟨i,j,rfl,y4,hj,kJ,Dr,h5,h6,hg⟩ fr
 have h0:=fr 0 (by kernel_rfl)
 have h3:=fr 3 (by kernel_rfl)
 simp only[go_sem, ↓reduceIte,Nat.reduceEqDiff,Nat.reduceAdd,Nat.reduceSub,Nat.reduceLeDiff,reduceCtorEq]at h0 h3
 clear fr
 by_cases dO:(i:Int)<(j:Int)
 ·have e1:IntKind.i64.wrap ((i:Int)+j)=((i+j:Nat):Int):=by rw[aJ ae];rfl
  have hm:(i+j) / 2<l.length:=ae
  have eQ:=gu hm
  have e2:IntKind.i64.wrap (((i+j:Nat):Int).tdiv 2)=(((i+j) / 2:Nat):Int):=by
   rw[Int.tdiv_eq_ediv_of_nonneg ae,aJ ae];omega
  have e3:=aB (k:=(i+j) / 2) ae
  have hq:=oN (bq l ((i+j) / 2)).bw p
  cases hl:k8 (bq l ((i+j) / 2)).bw p
  ·rw[hl]at hq
   (repeat(first|((repeat(revert hN;revert N;apply Pn.out));refine wk (tw @h0 (tw @h3 (tw @h5 (tw @h6 (tw @hg (tw @dO (tw @e1 (tw @e2 (tw @eQ (tw @ab.eq_1 @aa.eq_1)))))))))) ?_;(repeat(refine Pn.mk ?_;intro N hN)))|((try apply Or.inl);refine⟨_,ak.x (hq) (sd (tw @h0 (tw @h3 (tw @h5 (tw @h6 (tw @hg (tw @dO (tw @e1 (tw @e2 (tw @eQ (tw @ab.eq_1 @aa.eq_1))))))))))),?_⟩;refine hN _ _ ?_;clear hN N)))
   refine⟨_,?_,i,(i+j) / 2,rfl,ae,ae,kJ,fun x h1 h2=>?_,sd @h5,sd @e2,sd (tw @hg @aa.eq_1)⟩
   ·omega
   ·by_cases P7:x=(i+j) / 2
    ·subst P7;exact hl
    ·rw[Bool.eq_false_iff]
     intro hc
     have h3:=iD (hR ((i+j) / 2) x ae h2) hc
     rw[hl]at h3;cases h3
  ·rw[hl]at hq
   (repeat(first|((repeat(revert hN;revert N;apply Pn.out));refine wk (tw @h0 (tw @h3 (tw @h5 (tw @h6 (tw @hg (tw @dO (tw @e1 (tw @e2 (tw @eQ (tw @ab.eq_1 @aa.eq_1)))))))))) ?_;(repeat(refine Pn.mk ?_;intro N hN)))|((try apply Or.inl);refine⟨_,ak.x (hq) (sd (tw @h0 (tw @h3 (tw @h5 (tw @h6 (tw @hg (tw @dO (tw @e1 (tw @e2 (tw @eQ (tw @ab.eq_1 @aa.eq_1))))))))))),?_⟩;refine hN _ _ ?_;clear hN N)))
   refine⟨_,?_,(i+j) / 2+1,j,rfl,ae,hj,fun x hx=>?_,Dr,sd @e3,sd @h6,sd (tw @hg @aa.eq_1)⟩
   ·omega
   ·by_cases P7:x=(i+j) / 2
    ·subst P7;exact hl
    ·exact iD (hR x _ ae hm) hl
 ·have PM:i=j:=ae
  subst PM
  have xW:nr l p=i:=Ax hj kJ fun h=>Dr i (Nat.le_refl _) h
  by_cases hn:(i:Int)<(l.length:Int)
  ·have fB:i<l.length:=ae
   have eQ:=gu fB
   by_cases hp:(bq l i).bw=p
   ·have hx:decide ((bq l i).bw.dQ=p.dQ)=true:=decide_eq_true (by rw[hp])
    have hy:decide ((bq l i).bw.dH=p.dH)=true:=decide_eq_true (by rw[hp])
    (try((repeat(revert hN;revert N;apply Pn.out));refine wk (tw @h0 (tw @h3 (tw @h5 (tw @h6 (tw @hg (tw @dO (tw @hn (tw @eQ (tw @hx (tw @hy (tw @ab.eq_1 @aa.eq_1))))))))))) ?_;(repeat(refine Pn.mk ?_;intro N hN))))
    exact cu (b:=(i:Int)) (.inl rfl) (sd @Nat.zero_add) (by rw[xW,if_pos ⟨fB,hp⟩])
   ·by_cases hx:(bq l i).bw.dQ=p.dQ
    ·have ug:decide ((bq l i).bw.dQ=p.dQ)=true:=decide_eq_true hx
     have Uz:decide ((bq l i).bw.dH=p.dH)=false:=decide_eq_false fun h=>hp (E3 hx h)
     (try((repeat(revert hN;revert N;apply Pn.out));refine wk (tw @h0 (tw @h3 (tw @h5 (tw @h6 (tw @hg (tw @dO (tw @hn (tw @eQ (tw @ug (tw @Uz (tw @ab.eq_1 @aa.eq_1))))))))))) ?_;(repeat(refine Pn.mk ?_;intro N hN))))
     exact cu (b:=-1) (.inl rfl) (sd @Nat.zero_add) (by rw[xW,if_neg fun h=>hp h.2])
    ·have ug:decide ((bq l i).bw.dQ=p.dQ)=false:=decide_eq_false hx
     (try((repeat(revert hN;revert N;apply Pn.out));refine wk (tw @h0 (tw @h3 (tw @h5 (tw @h6 (tw @hg (tw @dO (tw @hn (tw @eQ (tw @ug (tw @Bool.false_and (tw @ab.eq_1 @aa.eq_1))))))))))) ?_;(repeat(refine Pn.mk ?_;intro N hN))))
     exact cu (b:=-1) (.inl rfl) (sd @Nat.zero_add) (by rw[xW,if_neg fun h=>hp h.2])
  ·have fB:¬i<l.length:=ae
   (try((repeat(revert hN;revert N;apply Pn.out));refine wk (tw @h0 (tw @h3 (tw @h5 (tw @h6 (tw @hg (tw @dO (tw @hn (tw @ab.eq_1 @aa.eq_1)))))))) ?_;(repeat(refine Pn.mk ?_;intro N hN))))
   exact cu (b:=-1) (.inl rfl) (sd @Nat.zero_add) (by rw[xW,if_neg fun h=>fB h.1])
theorem Aq (l:List ah) (p:aq) (hR:qL l) (Mi:l.length<=1048576):ak Tryz.prog 101 [.dq [.sl (l.map ab)],.agg (aa p)] (.int .i64 (oY l p)):=by
 refine ak.body eM rfl fun hl n0=>?_
 clear hl
 have hb:=wK l p hR Mi
 by_cases hi:fD l p<0
 ·rw[aa]at hb
  (repeat(first|((repeat(revert hN;revert N;apply Pn.out));refine wk (tw @aa.eq_1 @hi) ?_;(repeat(refine Pn.mk ?_;intro N hN)))|((try apply Or.inl);refine⟨_,ak.x (hb) (sd (tw @aa.eq_1 @hi)),?_⟩;refine hN _ _ ?_;clear hN N)))
  exact cu (b:=-1) (.inl rfl) (sd @Nat.zero_add) (by rw[oY,if_neg ae])
 ·have h0:0<=fD l p:=ae
  have hg:=gu (mh h0).1
  rw[aa]at hb
  (repeat(first|((repeat(revert hN;revert N;apply Pn.out));refine wk (tw @aa.eq_1 (tw @hi (tw @h0 (tw @hg @ab.eq_1)))) ?_;(repeat(refine Pn.mk ?_;intro N hN)))|((try apply Or.inl);refine⟨_,ak.x (hb) (sd (tw @aa.eq_1 (tw @hi (tw @h0 (tw @hg @ab.eq_1))))),?_⟩;refine hN _ _ ?_;clear hN N)))
  exact cu (b:=(bq l (fD l p).toNat).bY) (.inl rfl) (sd @Nat.zero_add) (by rw[oY,if_pos h0])
def qJ (s:aw) (l:List ah):Prop:=iv l/\∀t∈l,gR s t.bY=true
noncomputable def qh (s:aw) (l:List ah):Bool:=pc l&&l.all fun t=>gR s t.bY
theorem mW {s:aw} {l:List ah}:qh s l=true↔qJ s l:=by simp[qh,qJ,G1]
theorem DU:QW ab (fun c=>.agg (ab c)) 3 true:=⟨fun _=>rfl,fun _=>rfl,fun x g=>by simp only[ab,ai,ao,bj,aD,Option.map_some]⟩
theorem HE (s:aw) (t:ah) (hs:s.aj.length<=1048576):ak Tryz.prog 132 [.agg (ab t),.dq (ad s)] (.bool (!gR s t.bY)):=by
 refine ak.body eM rfl fun hl n0=>?_
 clear hl
 have h:=JX s t.bY
 rw[ad]at h
 (repeat(first|((repeat(revert hN;revert N;apply Pn.out));refine wk (tw @ab.eq_1 @ad.eq_1) ?_;(repeat(refine Pn.mk ?_;intro N hN)))|((try apply Or.inl);refine⟨_,ak.x (h) (sd (tw @ab.eq_1 @ad.eq_1)),?_⟩;refine hN _ _ ?_;clear hN N)))
 exact aZ (b:= !gR s t.bY) (.inl rfl) (sd @Nat.zero_add) rfl
theorem Nz (s:aw) (l:List ah) (hs:s.aj.length<=1048576) (hl:l.length<=1048576):ak Tryz.prog 131 [.sl (l.map ab),.fn 132 [.dq (ad s)]] (.bool (l.any fun t=> !gR s t.bY)):=
 o7 DU (show nf Tryz.prog 131=some (Ek 131 163) by kernel_rfl)
  (show nf Tryz.prog 163=some (tq 163 3 true) by kernel_rfl) l hl _ _ _ rfl (fun g=>by rw[ai,aV,ao];rfl) (fun x _=>HE s x hs) fun g=>by rw[ai,aV,ao];rfl
theorem LL {α:Type} (p:α->Bool) (l:List α):(!l.any fun t=> !p t)=l.all p:=by
 induction l with
 |nil=>rfl
 |cons x l ih=>simp only[List.any_cons,List.all_cons,<-ih];cases p x<;>simp
theorem ot (s:aw) (l:List ah) (hn:gy s) (hg:s.az.length<=1048576) (ht:s.aj.length<=1048576) (hs:∀t∈s.aj,t.bD.length<=1048576) (hl:l.length<=1048576):ak Tryz.prog 77 [.agg (ad s),.agg [.sl (l.map ab)]] (.bool (rD s&&qh s l)):=by
 refine ak.body eM rfl fun hl n0=>?_
 clear hl
 have h1:=DG s hn hg ht hs
 have h2:=G3 l
 have h3:=Nz s l ht hl
 rw[ad]at h1 h3
 cases b1:rD s
 ·rw[b1]at h1
  (repeat(first|((repeat(revert hN;revert N;apply Pn.out));refine wk @ad.eq_1 ?_;(repeat(refine Pn.mk ?_;intro N hN)))|((try apply Or.inl);refine⟨_,ak.x (h1) (sd @ad.eq_1),?_⟩;refine hN _ _ ?_;clear hN N)))
  exact aZ (b:=false) (.inl rfl) (sd @Nat.zero_add) rfl
 rw[b1]at h1
 cases b2:pc l
 ·rw[b2]at h2
  (repeat(first|((repeat(revert hN;revert N;apply Pn.out));refine wk @ad.eq_1 ?_;(repeat(refine Pn.mk ?_;intro N hN)))|((try apply Or.inl);refine⟨_,ak.x (h1) (sd @ad.eq_1),?_⟩;refine hN _ _ ?_;clear hN N)|((try apply Or.inl);refine⟨_,ak.x (h2) (sd @ad.eq_1),?_⟩;refine hN _ _ ?_;clear hN N)))
  exact aZ (b:=false) (.inl rfl) (sd @Nat.zero_add) (by rw[qh,b2];rfl)
 rw[b2]at h2
 (repeat(first|((repeat(revert hN;revert N;apply Pn.out));refine wk @ad.eq_1 ?_;(repeat(refine Pn.mk ?_;intro N hN)))|((try apply Or.inl);refine⟨_,ak.x (h1) (sd @ad.eq_1),?_⟩;refine hN _ _ ?_;clear hN N)|((try apply Or.inl);refine⟨_,ak.x (h2) (sd @ad.eq_1),?_⟩;refine hN _ _ ?_;clear hN N)|((try apply Or.inl);refine⟨_,ak.x (h3) (sd @ad.eq_1),?_⟩;refine hN _ _ ?_;clear hN N)))
 exact aZ (b:= !(l.any fun t=> !gR s t.bY)) (.inl rfl) (sd @Nat.zero_add) (by rw[LL,qh,b2];rfl)
theorem F5 (s:aw) (l:List ah):ak Tryz.prog 64 [.dq (ad s),.dq [.sl (l.map ab)]] (.bool (qh s l)):=by
 refine ak.body eM rfl fun hl n0=>?_
 have hlen:l.length<=9223372036854775807:=by
  have h1:=(hl (.dq [.sl (l.map ab)]) (by simp)).Ct (a:=.sl (l.map ab)) (by simp)
  simpa using h1.len
 clear hl
 have h2:=Hq l
 cases b2:pc l
 ·rw[b2]at h2
  (repeat(first|((repeat(revert hN;revert N;apply Pn.out));refine wk @Nat.zero_add ?_;(repeat(refine Pn.mk ?_;intro N hN)))|((try apply Or.inl);refine⟨_,ak.x (h2) (sd @Nat.zero_add),?_⟩;refine hN _ _ ?_;clear hN N)))
  exact aZ (b:=false) (.inl rfl) (sd @Nat.zero_add) (by rw[qh,b2];rfl)
 rw[b2]at h2
 (repeat(first|((repeat(revert hN;revert N;apply Pn.out));refine wk @Nat.zero_add ?_;(repeat(refine Pn.mk ?_;intro N hN)))|((try apply Or.inl);refine⟨_,ak.x (h2) (sd @Nat.zero_add),?_⟩;refine hN _ _ ?_;clear hN N)))
 refine aT (fun n env st=>∃k:Nat,n=(l.length)-k/\k<=(l.length)/\env 5=.int .i64 (k:Int)/\(∀j:Nat,j<k->gR s (bq l j).bY=true)) (l.length) ⟨0,ae,ae,sl @Nat.zero_add,fun _ h=>absurd h (Nat.not_lt_zero _)⟩ ?_
 rintro n_a env_a st_a ⟨k,rfl,ale,a5,lV⟩ dr
 have a0:=dr 0 (by kernel_rfl);have a1:=dr 1 (by kernel_rfl)
 simp only[go_sem, ↓reduceIte,Nat.reduceEqDiff,Nat.reduceAdd,Nat.reduceSub,Nat.reduceLeDiff,reduceCtorEq]at a0 a1
 clear dr
 by_cases hk:(k:Int)<(l.length:Int)
 ·have bZ:∀{e:Env},(e 5=.int .i64 (IntKind.i64.wrap ((k:Int)+1)))->(gR s (bq l k).bY=true)->∃m0,m0<(l.length)-k/\∃k:Nat,m0=(l.length)-k/\k<=(l.length)/\e 5=.int .i64 (k:Int)/\(∀j:Nat,j<k->gR s (bq l j).bY=true):=fun x1 x2=>⟨_,ae,k+1,rfl,ae,(by rw[x1,aB ae]),(all_succ lV x2)⟩
  have fK:k<l.length:=ae
  have fe:=gu fK
  have ht:=EJ s (bq l k).bY
  cases b3:gR s (bq l k).bY
  ·rw[b3]at ht
   (repeat(first|((repeat(revert hN;revert N;apply Pn.out));refine wk (tw @a5 (tw @a0 (tw @a1 (tw @hk (tw @fe @ab.eq_1))))) ?_;(repeat(refine Pn.mk ?_;intro N hN)))|((try apply Or.inl);refine⟨_,ak.x (ht) (sd (tw @a5 (tw @a0 (tw @a1 (tw @hk (tw @fe @ab.eq_1)))))),?_⟩;refine hN _ _ ?_;clear hN N)))
   exact aZ (b:=false) (.inl rfl) (sd @Nat.zero_add) (by
    have:l.all (fun t=>gR s t.bY)=false:=List.all_eq_false.2 ⟨_,jY fK,by rw[b3];simp⟩
    rw[qh,this,Bool.and_false])
  ·rw[b3]at ht
   (repeat(first|((repeat(revert hN;revert N;apply Pn.out));refine wk (tw @a5 (tw @a0 (tw @a1 (tw @hk (tw @fe @ab.eq_1))))) ?_;(repeat(refine Pn.mk ?_;intro N hN)))|((try apply Or.inl);refine⟨_,ak.x (ht) (sd (tw @a5 (tw @a0 (tw @a1 (tw @hk (tw @fe @ab.eq_1)))))),?_⟩;refine hN _ _ ?_;clear hN N)))
   exact bZ (sd (tw @a5 (tw @a0 @a1))) (b3)
 ·(try((repeat(revert hN;revert N;apply Pn.out));refine wk (tw @a5 (tw @a0 (tw @a1 @hk))) ?_;(repeat(refine Pn.mk ?_;intro N hN))))
  exact aZ (b:=true) (.inl rfl) (sd @Nat.zero_add) (by
   have:l.all (fun t=>gR s t.bY)=true:=List.all_eq_true.2 fun t ht=>by
    obtain⟨j,hj,rfl⟩:=List.getElem_of_mem ht
    have:=lV j ae
    rwa [fP hj]at this
   rw[qh,b2,this];rfl)
theorem qF (l:List ah) (hF:iv l) (i:Nat) (d:Int) (hi:i<l.length) (hd:iw d 0 3=true):ak Tryz.prog 49 [.dq [.sl (l.map ab)],.int .i64 i,.int .i64 d] (.int .i64 (fD l (dt (bq l i).bw d))):=by
 refine ak.body eM rfl fun hl n0=>?_
 clear hl
 have hg:=gu hi
 have hp:=Kp (hF.pt hi)
 have h1:=zf (bq l i).bw d hd hp.1 hp.2
 have h2:=wK l (dt (bq l i).bw d) hF.Qn (by have:=hF.zX;omega)
 rw[aa]at h1 h2
 (repeat(first|((repeat(revert hN;revert N;apply Pn.out));refine wk (tw @ab.eq_1 (tw @hg @aa.eq_1)) ?_;(repeat(refine Pn.mk ?_;intro N hN)))|((try apply Or.inl);refine⟨_,ak.x (h1) (sd (tw @ab.eq_1 (tw @hg @aa.eq_1))),?_⟩;refine hN _ _ ?_;clear hN N)|((try apply Or.inl);refine⟨_,ak.x (h2) (sd (tw @ab.eq_1 (tw @hg @aa.eq_1))),?_⟩;refine hN _ _ ?_;clear hN N)))
 exact cu (b:=fD l (dt (bq l i).bw d)) (.inl rfl) (sd @Nat.zero_add) rfl
end Go.Proofs.YtkbipfflibjfbaaGreat.V

namespace Go.Proofs.YtkbipfflibjfbaaGreat.V
def bi (b:Bool):Int:=if b then 1 else 0
def mK (f:Nat->Int):Nat->Int
 |0=>0
 |n+1=>mK f n+f n
theorem iY {f g:Nat->Int}:∀{n:Nat},(∀i,i<n->f i=g i)->mK f n=mK g n
 |0,_=>rfl
 |n+1,h=>by
  simp only[mK]
  rw[iY fun i hi=>h i ae,h n ae]
theorem sG {f g:Nat->Int}:∀{n:Nat},(∀i,i<n->f i<=g i)->mK f n<=mK g n
 |0,_=>Int.le_refl _
 |n+1,h=>by
  simp only[mK]
  have:=sG (n:=n) fun i hi=>h i ae
  have:=h n ae
  omega
theorem kz:∀{n:Nat} {f:Nat->Int},(∀i,i<n->f i=0)->mK f n=0
 |0,_,_=>rfl
 |n+1,f,h=>by
  simp only[mK]
  rw[kz fun i hi=>h i ae,h n ae];rfl
theorem qc {f:Nat->Int} {a:Nat} {d:Int}:∀n,mK (fun i=>f i+if i=a then d else 0) n=mK f n+if a<n then d else 0
 |0=>by simp[mK]
 |n+1=>by
  simp only[mK]
  rw[qc n]
  by_cases h:n=a
  ·subst h;simp;omega
  ·rw[if_neg h]
   by_cases h2:a<n
   ·rw[if_pos h2,if_pos ae];omega
   ·rw[if_neg h2,if_neg ae];omega
def nh (n:Nat) (S:Nat->Bool) (f:Nat->Nat->Int):Int:=mK (fun u=>mK (fun v=>if S u&& !S v then f u v else 0) n) n
def bump (f:Nat->Nat->Int) (a b:Nat) (d:Int):Nat->Nat->Int:=fun u v=>f u v+if u=a/\v=b then d else 0
theorem pP {n:Nat} {S:Nat->Bool} {f:Nat->Nat->Int} {a b:Nat} {d:Int} (ha:a<n) (hb:b<n):nh n S (bump f a b d)=nh n S f+if S a&& !S b then d else 0:=by
 unfold nh
 have h1:∀u,u<n->mK (fun v=>if S u&& !S v then bump f a b d u v else 0) n=mK (fun v=>if S u&& !S v then f u v else 0) n+if u=a then(if S a&& !S b then d else 0)else 0:=by
  intro u hu
  by_cases h:u=a
  ·subst h
   have h2:∀v,v<n->(if S u&& !S v then bump f u b d u v else 0)=(fun v=>if S u&& !S v then f u v else 0) v+if v=b then(if S u&& !S b then d else 0)else 0:=by
    intro v hv
    unfold bump
    by_cases h3:v=b
    ·subst h3;simp only[and_self,if_true];split<;>omega
    ·simp only[h3,and_false,if_false];split<;>omega
   rw[iY h2,qc,if_pos hb,if_pos rfl]
  ·rw[if_neg h,Int.add_zero]
   refine iY fun v hv=>?_
   unfold bump
   simp[h]
 rw[iY h1,qc,if_pos ha]
theorem L9 {n:Nat} {S:Nat->Bool} {f c:Nat->Nat->Int} (h:∀u v,u<n->v<n->f u v<=c u v):nh n S f<=nh n S c:=
 sG fun u hu=>sG fun v hv=>by split;exact h u v hu hv;exact Int.le_refl _
theorem L8 {n:Nat} {S:Nat->Bool} {f c:Nat->Nat->Int} (h:∀u v,u<n->v<n->S u=true->S v=false->f u v=c u v):nh n S f=nh n S c:=
 iY fun u hu=>iY fun v hv=>by
  split
  ·rename_i hc
   simp only[Bool.and_eq_true,Bool.not_eq_true']at hc
   exact h u v hu hv hc.1 hc.2
  ·rfl
def la (f:Nat->Nat->Int) (a b:Nat):Nat->Nat->Int:=bump (bump f a b 1) b a (-1)
theorem GM {n:Nat} {S:Nat->Bool} {f:Nat->Nat->Int} {a b:Nat} (ha:a<n) (hb:b<n):nh n S (la f a b)=nh n S f+bi (S a)-bi (S b):=by
 unfold la
 rw[pP hb ha,pP ha hb]
 cases S a<;>cases S b<;>simp[bi]<;>omega
def mY (f:Nat->Nat->Int):List Nat->Nat->Nat->Int
 |a::b::r=>mY (la f a b) (b::r)
 |_=>f
def rJ (f c:Nat->Nat->Int):List Nat->Prop
 |a::b::r=>f a b<c a b/\rJ f c (b::r)
 |_=>True
theorem Bw {n:Nat} {S:Nat->Bool}:∀(r:List Nat) (a:Nat) (f:Nat->Nat->Int),(∀x∈a::r,x<n)->nh n S (mY f (a::r))=nh n S f+bi (S a)-bi (S ((a::r).getLast (by simp)))
 |[],a,f,_=>by simp[mY]
 |b::r,a,f,h=>by
  rw[mY,Bw r b (la f a b) fun x hx=>h x (List.mem_cons_of_mem _ hx),GM (h a (by simp)) (h b (by simp)),List.getLast_cons_cons]
  generalize bi (S b)=q
  omega
theorem rJ.less {f g c:Nat->Nat->Int}:∀{p:List Nat},rJ f c p->(∀u,u∈p->∀v,g u v<=f u v)->rJ g c p
 |[],_,_=>trivial
 |[_],_,_=>trivial
 |a::b::r,h,hl=>⟨Int.lt_of_le_of_lt (hl a (by simp) b) h.1,rJ.less (p:=b::r) h.2 fun u hu=>hl u (List.mem_cons_of_mem _ hu)⟩
theorem FD {n:Nat} {c:Nat->Nat->Int}:∀(p:List Nat) (f:Nat->Nat->Int),p.Nodup->rJ f c p->(∀u v,u<n->v<n->f u v<=c u v)->∀u v,u<n->v<n->mY f p u v<=c u v
 |[],f,_,_,h=>h
 |[_],f,_,_,h=>h
 |a::b::r,f,hn,hr,h=>by
  rw[mY]
  have rZ:a∉b::r:=(List.nodup_cons.1 hn).1
  refine FD (b::r) _ (List.nodup_cons.1 hn).2 (hr.2.less fun u hu v=>?_) fun u v hu hv=>?_
  ·unfold la bump
   have:u≠a:=by rintro rfl;exact rZ hu
   simp only[this,false_and,if_false]
   split<;>omega
  ·have h0:=h u v hu hv
   have h1:=hr.1
   unfold la bump
   by_cases e:u=a/\v=b
   ·obtain⟨rfl,rfl⟩:=e
    rw[if_pos ⟨rfl,rfl⟩];split<;>omega
   ·rw[if_neg e];split<;>omega
structure oj (n:Nat) (c f:Nat->Nat->Int) (x y:Nat) (val:Int):Prop where
 le:∀u v,u<n->v<n->f u v<=c u v
 cut:∀S:Nat->Bool,S x=true->S y=false->nh n S f=val
theorem oj.zero {n:Nat} {c:Nat->Nat->Int} {x y:Nat} (h:∀u v,u<n->v<n->0<=c u v):oj n c (fun _ _=>0) x y 0:=
 ⟨h,fun S _ _=>kz fun u hu=>kz fun v hv=>by split<;>rfl⟩
theorem oj.aug {n:Nat} {c f:Nat->Nat->Int} {x y:Nat} {val:Int} (h:oj n c f x y val) {r:List Nat} (hl:(x::r).getLast (by simp)=y) (hn:(x::r).Nodup) (hr:rJ f c (x::r)) (hb:∀v∈x::r,v<n):oj n c (mY f (x::r)) x y (val+1):=
 ⟨FD _ _ hn hr h.le,fun S hx hy=>by rw[Bw r x f hb,hl,h.cut S hx hy,hx,hy];simp[bi]⟩
theorem oj.bound {n:Nat} {c f:Nat->Nat->Int} {x y:Nat} {val:Int} (h:oj n c f x y val) {S:Nat->Bool} (hx:S x=true) (hy:S y=false):val<=nh n S c:=by
 rw[<-h.cut S hx hy];exact L9 h.le
theorem oj.full {n:Nat} {c f:Nat->Nat->Int} {x y:Nat} {val:Int} (h:oj n c f x y val) {S:Nat->Bool} (hx:S x=true) (hy:S y=false) (hS:∀u v,u<n->v<n->S u=true->S v=false->¬f u v<c u v):val=nh n S c:=by
 rw[<-h.cut S hx hy]
 exact L8 fun u v hu hv h1 h2=>by have:=hS u v hu hv h1 h2;have:=h.le u v hu hv;omega
structure PB where
 a:Nat
 b:Nat
 s:Int
 deriving Inhabited
def cG (bs:List PB) (i:Nat):PB:=bs.getD i default
def jK (S:Nat->Bool) (bs:List PB):Int:=(bs.map fun b=>if S b.a=S b.b then 0 else b.s).sum
def oD (c:Nat->Nat->Int) (b:PB):Nat->Nat->Int:=bump (bump c b.a b.b b.s) b.b b.a b.s
def lN (bs:List PB):Nat->Nat->Int:=bs.foldl oD fun _ _=>0
theorem E7 (bs:List PB) (b:PB):lN (bs++[b])=oD (lN bs) b:=by simp[lN]
theorem BQ {n:Nat} {S:Nat->Bool}:∀(bs:List PB) (c:Nat->Nat->Int),(∀b∈bs,b.a<n/\b.b<n)->nh n S (bs.foldl oD c)=nh n S c+jK S bs
 |[],c,_=>by simp[jK]
 |b::bs,c,h=>by
  have hb:=h b (by simp)
  rw[List.foldl_cons,BQ bs _ fun x hx=>h x (List.mem_cons_of_mem _ hx)]
  unfold oD jK
  rw[pP hb.2 hb.1,pP hb.1 hb.2,List.map_cons,List.sum_cons]
  cases S b.a<;>cases S b.b<;>simp<;>omega
theorem BR {n:Nat} {S:Nat->Bool} {bs:List PB} (h:∀b∈bs,b.a<n/\b.b<n):nh n S (lN bs)=jK S bs:=by
 rw[lN,BQ bs _ h]
 have:nh n S (fun _ _=>0)=0:=kz fun u hu=>kz fun v hv=>by split<;>rfl
 omega
theorem AL:∀(bs:List PB) (c:Nat->Nat->Int),(∀b∈bs,0<=b.s)->(∀u v,0<=c u v)->∀u v,0<=bs.foldl oD c u v
 |[],c,_,h=>h
 |b::bs,c,hb,h=>by
  rw[List.foldl_cons]
  refine AL bs _ (fun x hx=>hb x (List.mem_cons_of_mem _ hx)) fun u v=>?_
  have:=hb b (by simp);have:=h u v
  unfold oD bump
  split<;>split<;>omega
theorem room_le:∀(bs:List PB) (c:Nat->Nat->Int) (m:Int),(∀b∈bs,b.s<=4)->(∀u v,c u v<=m)->0<=m->∀u v,bs.foldl oD c u v<=m+8*bs.length
 |[],c,m,_,h,_=>fun u v=>by have:=h u v;simp;omega
 |b::bs,c,m,hb,h,h0=>fun u v=>by
  rw[List.foldl_cons]
  have:=room_le bs (oD c b) (m+8) (fun x hx=>hb x (List.mem_cons_of_mem _ hx)) (fun u v=>by
   have:=hb b (by simp);have:=h u v
   unfold oD bump
   split<;>split<;>omega) ae u v
  simp only[List.length_cons];omega
def lv (n:Nat) (bs:List PB) (t:Int):Prop:=∀S:Nat->Bool,S 0=true->(∃y,y<n/\S y=false)->t<=jK S bs
def GK (S:Nat->Bool) (bs:List PB) (f:Nat->Int):Int:=mK (fun i=>f i*(bi (S (cG bs i).a)-bi (S (cG bs i).b))) bs.length
structure kF (bs:List PB) (f:Nat->Int) (x y:Nat) (val:Int):Prop where
 le:∀i,i<bs.length->f i<=(cG bs i).s/\-(cG bs i).s<=f i
 cut:∀S:Nat->Bool,S x=true->S y=false->GK S bs f=val
theorem vR (S:Nat->Bool):∀bs:List PB,jK S bs=mK (fun i=>if S (cG bs i).a=S (cG bs i).b then 0 else(cG bs i).s) bs.length:=by
 intro bs
 have key:∀n,n<=bs.length->jK S (bs.take n)=mK (fun i=>if S (cG bs i).a=S (cG bs i).b then 0 else(cG bs i).s) n:=by
  intro n
  induction n with
  |zero=>intro _;rfl
  |succ n ih=>
   intro h
   have e:cG bs n=bs[n]:=by simp[cG,List.getD_eq_getElem?_getD,List.getElem?_eq_getElem (show n<bs.length by omega)]
   rw[List.take_succ_eq_append_getElem ae,mK,<-ih ae,e]
   unfold jK
   rw[List.map_append,List.sum_append]
   simp only[List.map_cons,List.map_nil,List.sum_cons,List.sum_nil,Int.add_zero]
 have:=key bs.length (Nat.le_refl _)
 rwa [List.take_length]at this
theorem kF.bound {bs:List PB} {f:Nat->Int} {x y:Nat} {val:Int} (h:kF bs f x y val) {S:Nat->Bool} (hx:S x=true) (hy:S y=false):val<=jK S bs:=by
 rw[<-h.cut S hx hy,vR]
 refine sG fun i hi=>?_
 have:=h.le i hi
 cases S (cG bs i).a<;>cases S (cG bs i).b<;>simp[bi]<;>omega
def fU (bs:List PB) (f:Nat->Int) (i u:Nat):Int:=if (cG bs i).a=u then(cG bs i).s-f i else(cG bs i).s+f i
def cr (bs:List PB) (i u:Nat):Nat:=if (cG bs i).a=u then(cG bs i).b else(cG bs i).a
theorem kF.full {bs:List PB} {f:Nat->Int} {x y:Nat} {val:Int} (h:kF bs f x y val) {S:Nat->Bool} (hx:S x=true) (hy:S y=false)
  (hS:∀i,i<bs.length->((cG bs i).a≠(cG bs i).b->(S (cG bs i).a=true->S (cG bs i).b=false->¬0<fU bs f i (cG bs i).a)/\(S (cG bs i).b=true->S (cG bs i).a=false->¬0<fU bs f i (cG bs i).b))):val=jK S bs:=by
 rw[<-h.cut S hx hy,vR]
 refine iY fun i hi=>?_
 have h1:=h.le i hi
 by_cases rZ:(cG bs i).a=(cG bs i).b
 ·rw[rZ];simp
 ·have h2:=hS i hi rZ
  unfold fU at h2
  rw[if_pos rfl,if_neg rZ]at h2
  cases ha:S (cG bs i).a<;>cases hb:S (cG bs i).b<;>rw[ha,hb]at h2<;>simp[bi]at h2 ⊢ <;>omega
def um (bs:List PB) (f:Nat->Int) (i u:Nat):Nat->Int:=fun j=>f j+if j=i then(if (cG bs i).a=u then 1 else -1)else 0
theorem GL {S:Nat->Bool} {bs:List PB} {f:Nat->Int} {i u:Nat} (hi:i<bs.length) (hu:(cG bs i).a=u∨(cG bs i).b=u):GK S bs (um bs f i u)=GK S bs f+bi (S u)-bi (S (cr bs i u)):=by
 unfold GK um
 have e:∀j,j<bs.length->(f j+if j=i then(if (cG bs i).a=u then 1 else -1)else 0)*(bi (S (cG bs j).a)-bi (S (cG bs j).b))=(fun j=>f j*(bi (S (cG bs j).a)-bi (S (cG bs j).b))) j+if j=i then(if (cG bs i).a=u then 1 else -1)*(bi (S (cG bs i).a)-bi (S (cG bs i).b))else 0:=by
  intro j hj
  by_cases h:j=i
  ·subst h;simp only[if_true];rw[Int.add_mul]
  ·simp only[h,if_false];simp
 rw[iY e,qc,if_pos hi]
 unfold cr
 by_cases ha:(cG bs i).a=u
 ·rw[if_pos ha,if_pos ha,ha];omega
 ·rw[if_neg ha,if_neg ha]
  rcases hu with hu|hu
  ·exact absurd hu ha
  ·rw[hu];omega
theorem pv:∀(n:Nat) (l:List Nat),l.Nodup->(∀x∈l,x<n)->l.length<=n
 |0,l,_,h=>by
  cases l with
  |nil=>simp
  |cons x l=>exact absurd (h x (by simp)) ae
 |n+1,l,hn,h=>by
  have h1:=pv n (l.erase n) (hn.erase _) fun x hx=>by
   have h2:=(hn.mem_erase_iff).1 hx
   have h3:=h x h2.2
   have h4:=h2.1
   omega
  rw[List.length_erase]at h1
  split at h1<;>omega
def eY (L:Nat->Nat) (b:PB):Nat->Nat:=fun k=>if L k=max (L b.a) (L b.b)then min (L b.a) (L b.b)else L k
def eR (bs:List PB):Nat->Nat:=bs.foldl eY id
theorem wM (bs:List PB) (b:PB):eR (bs++[b])=eY (eR bs) b:=by simp[eR]
structure kc (L:Nat->Nat):Prop where
 le:∀k,L k<=k
 idem:∀k,L (L k)=L k
theorem kc.step {L:Nat->Nat} (h:kc L) (b:PB):kc (eY L b):=by
 have ha:=h.idem b.a
 have hb:=h.idem b.b
 refine⟨fun k=>?_,fun k=>?_⟩
 ·have:=h.le k
  unfold eY
  split<;>omega
 ·have hk:=h.idem k
  have hm:L (min (L b.a) (L b.b))=min (L b.a) (L b.b):=by
   rcases Nat.le_total (L b.a) (L b.b)with h1|h1
   ·rw[Nat.min_eq_left h1,ha]
   ·rw[Nat.min_eq_right h1,hb]
  unfold eY
  by_cases h1:L k=max (L b.a) (L b.b)
  ·rw[if_pos h1,hm];split<;>rfl
  ·rw[if_neg h1,hk,if_neg h1]
theorem wN:∀(bs:List PB) (L:Nat->Nat),kc L->kc (bs.foldl eY L)
 |[],_,h=>h
 |b::bs,L,h=>wN bs _ (h.step b)
theorem ui (bs:List PB):kc (eR bs):=wN bs id ⟨fun _=>Nat.le_refl _,fun _=>rfl⟩
def leads (n:Nat) (L:Nat->Nat):List Nat:=(List.range n).filter fun i=>L i==i
def members (n:Nat) (L:Nat->Nat) (i:Nat):List Nat:=(List.range n).filter fun k=>L k==i
def fI (n:Nat) (L:Nat->Nat):List (List Nat):=(leads n L).map (members n L)
def cm (L:Nat->Nat) (k:Nat):Nat:=(leads (L k) L).length
theorem ik (n:Nat) (L:Nat->Nat):leads (n+1) L=leads n L++if L n=n then[n]else[]:=by
 unfold leads
 rw[List.range_succ,List.filter_append]
 congr 1
 by_cases h:L n=n<;>simp[h]
theorem jW (n:Nat) (L:Nat->Nat) (i:Nat):members (n+1) L i=members n L i++if L n=i then[n]else[]:=by
 unfold members
 rw[List.range_succ,List.filter_append]
 congr 1
 by_cases h:L n=i<;>simp[h]
theorem nS {L:Nat->Nat} (h:kc L) {n i:Nat} (hn:n<=i):members n L i=[]:=by
 unfold members
 rw[List.filter_eq_nil_iff]
 intro k hk
 have:=h.le k
 have:=List.mem_range.1 hk
 simp;omega
theorem uj (n:Nat) (L:Nat->Nat):(leads n L).Nodup:=List.nodup_range.filter _
theorem zi {n:Nat} {L:Nat->Nat} {i:Nat}:i∈leads n L↔i<n/\L i=i:=by simp[leads]
theorem mi {n:Nat} {L:Nat->Nat} {i k:Nat}:k∈members n L i↔k<n/\L k=i:=by simp[members]
theorem Hv {L:Nat->Nat} {m n:Nat} (h:m<=n):∃r,leads n L=leads m L++r:=by
 obtain⟨d,rfl⟩:=Nat.le.dest h
 clear h
 induction d with
 |zero=>exact⟨[],by simp⟩
 |succ d ih=>
  obtain⟨r,hr⟩:=ih
  exact⟨r++if L (m+d)=m+d then[m+d]else[],by rw[<-Nat.add_assoc,ik,hr,List.append_assoc]⟩
theorem pS {L:Nat->Nat} (h:kc L) {n k:Nat} (hk:k<n):(leads n L)[cm L k]? =some (L k):=by
 have h1:=h.le k
 obtain⟨r,hr⟩:=Hv (L:=L) (show L k+1<=n by omega)
 rw[hr,ik,if_pos (h.idem k),List.append_assoc]
 unfold cm
 rw[List.getElem?_append_right (Nat.le_refl _),Nat.sub_self];rfl
theorem kM {L:Nat->Nat} (h:kc L) {n k:Nat} (hk:k<n):cm L k<(leads n L).length:=(List.getElem?_eq_some_iff.1 (pS h hk)).1
theorem tE {L:Nat->Nat} (h:kc L) {n k i:Nat} (hk:k<n) (hi:i<(leads n L).length):k∈members n L (leads n L)[i]↔cm L k=i:=by
 rw[mi]
 have h1:=pS h hk
 rw[List.getElem?_eq_getElem (kM h hk)]at h1
 injection h1 with h1
 constructor
 ·rintro⟨_,h2⟩
  rw[<-h1]at h2
  exact(List.getElem_inj (uj n L)).1 h2
 ·rintro rfl
  exact⟨hk,h1.symm⟩
def dC (L:Nat->Nat) (bs:List PB):List PB:=bs.filterMap fun b=>if cm L b.a=cm L b.b then none else some ⟨cm L b.a,cm L b.b,b.s⟩
def ft (L:Nat->Nat) (bs:List PB):List PB:=bs.filterMap fun b=>if cm L b.a=cm L b.b then none else some ⟨min (cm L b.a) (cm L b.b),max (cm L b.a) (cm L b.b),b.s⟩
theorem AN (L:Nat->Nat) (bs:List PB) (b:PB):dC L (bs++[b])=dC L bs++if cm L b.a=cm L b.b then[]else[⟨cm L b.a,cm L b.b,b.s⟩]:=by
 unfold dC
 rw[List.filterMap_append]
 congr 1
 by_cases h:cm L b.a=cm L b.b<;>simp[h]
theorem AO (L:Nat->Nat) (bs:List PB) (b:PB):ft L (bs++[b])=ft L bs++if cm L b.a=cm L b.b then[]else[⟨min (cm L b.a) (cm L b.b),max (cm L b.a) (cm L b.b),b.s⟩]:=by
 unfold ft
 rw[List.filterMap_append]
 congr 1
 by_cases h:cm L b.a=cm L b.b<;>simp[h]
theorem s7 (S:Nat->Bool) (b:PB) (bs:List PB):jK S (b::bs)=(if S b.a=S b.b then 0 else b.s)+jK S bs:=by simp[jK]
theorem yI (S:Nat->Bool) (L:Nat->Nat):∀bs:List PB,jK S (ft L bs)=jK S (dC L bs)
 |[]=>rfl
 |b::bs=>by
  have ih:=yI S L bs
  unfold ft dC at ih ⊢
  rw[List.filterMap_cons,List.filterMap_cons]
  by_cases h:cm L b.a=cm L b.b
  ·simp only[h,if_true];exact ih
  ·simp only[h,if_false]
   rw[s7,s7,ih]
   congr 1
   simp only
   rcases Nat.le_total (cm L b.a) (cm L b.b)with h1|h1
   ·rw[Nat.min_eq_left h1,Nat.max_eq_right h1]
   ·rw[Nat.min_eq_right h1,Nat.max_eq_left h1]
    cases S (cm L b.a)<;>cases S (cm L b.b)<;>rfl
theorem Fa {L:Nat->Nat} (h:kc L) {n:Nat} {bs:List PB} (hb:∀b∈bs,b.a<n/\b.b<n):∀b∈dC L bs,b.a<(leads n L).length/\b.b<(leads n L).length/\b.a≠b.b/\∃c∈bs,b.s=c.s:=by
 intro b hm
 unfold dC at hm
 obtain⟨c,hc,he⟩:=List.mem_filterMap.1 hm
 split at he
 ·cases he
 ·rename_i gI
  simp only[Option.some.injEq]at he
  subst he
  exact⟨kM h (hb c hc).1,kM h (hb c hc).2,gI,c,hc,rfl⟩
theorem Fb {L:Nat->Nat} (h:kc L) {n:Nat} {bs:List PB} (hb:∀b∈bs,b.a<n/\b.b<n):∀b∈ft L bs,b.a<(leads n L).length/\b.b<(leads n L).length/\b.a≠b.b/\∃c∈bs,b.s=c.s:=by
 intro b hm
 unfold ft at hm
 obtain⟨c,hc,he⟩:=List.mem_filterMap.1 hm
 split at he
 ·cases he
 ·rename_i gI
  simp only[Option.some.injEq]at he
  subst he
  have h1:=kM h (hb c hc).1
  have h2:=kM h (hb c hc).2
  refine⟨by simp only;omega,by simp only;omega,by simp only;omega,c,hc,rfl⟩
theorem nX (L:Nat->Nat) (bs:List PB):(dC L bs).length<=bs.length/\(ft L bs).length<=bs.length:=⟨List.length_filterMap_le ..,List.length_filterMap_le ..⟩
theorem kj (n:Nat) (L:Nat->Nat):(leads n L).length<=n:=by
 have:=List.length_filter_le (fun i=>L i==i) (List.range n)
 simpa[leads]using this
def aQ (t:Int) (bs:List PB):List PB:=bs.filter fun b=>decide (t<=b.s)
def pK (n:Nat) (bs:List PB) (t:Int):Prop:=
 (leads n (eR (aQ t bs))).length<=64/\lv (leads n (eR (aQ t bs))).length (dC (eR (aQ t bs)) bs) t
theorem Ew {n:Nat} {L:Nat->Nat} {bs:List PB} {t:Int}:lv n (ft L bs) t↔lv n (dC L bs) t:=by
 unfold lv
 constructor<;>intro h S h0 hy<;>have:=h S h0 hy<;>rw[yI]at *<;>exact this
end Go.Proofs.YtkbipfflibjfbaaGreat.V

namespace Go.Proofs.YtkbipfflibjfbaaGreat.V
open Go.RowKit
attribute [local irreducible] ef wpOps gN Call
attribute [local go_sem] aH fJ eW fZ gh dh upd cD K.av cP AV.cells AV.cell rowOf rowsOf part ld rowAt bU cw dI ek iq bL de eD gj fq dx ew db da dW dY bR bd cU bQ cW cV er ez eu cR bV dc eo bP aL cY cI im br cH bz bc dB bo dF AV.undef bx bE dZ ej dV ec cJ eC eE cF eB eA cX cZ List.getD_cons_zero List.getD_cons_succ List.getD_nil List.all_cons List.all_nil Bool.and_true Bool.true_and Bool.and_self Bool.not_true Bool.not_false Option.map_some Option.map_none Option.bind_some Option.bind_none List.length_cons List.length_nil List.take_succ_cons List.take_zero List.take_nil List.drop_succ_cons List.drop_zero List.drop_nil List.head?_cons List.map_cons List.map_nil List.getElem?_cons_zero List.getElem?_cons_succ List.cons_append List.nil_append List.append_nil List.length_map List.set_cons_zero List.set_cons_succ Nat.reduceMul eq_self Int.toNat_natCast Int.natCast_nonneg and_self true_and and_true decide_true decide_false Bool.false_eq_true Nat.zero_add Nat.add_zero List.contains_cons List.contains_nil Bool.or_false Bool.false_or beq_self_eq_true Nat.reduceBEq ne_eq not_true_eq_false not_false_eq_true Id.mk.injEq false_and and_false Nat.reduceLT Int.reduceLE Int.reduceLT Int.reduceToNat Int.reduceNeg Int.reduceAdd Nat.le_refl List.length_append beq_true beq_false Bool.not_eq_eq_eq_not or_false false_or dM ai ao aD bt cz aY bj aV bf cL bJ
def ay (b:PB):List AV:=[.int .i64 b.a,.int .i64 b.b,.int .i64 b.s]
theorem Le:∀b:PB,(ay b).length=3/\(ay b).all AV.cell=true:=fun _=>⟨rfl,rfl⟩
theorem wb (g:Rows) (n:Nat) (b:PB):cQ g (n+1) (ay b)=some (ay b):=by simp[ay,ai,ao,aD]
theorem uU (g:Rows) (n:Nat) (b:PB):eh g (n+1) (ay b)=some (ay b):=by simp[ay,aI,aW,dw]
theorem Ja:QW ay (fun c=>.agg (ay c)) 3 true:=⟨fun _=>rfl,fun _=>rfl,fun x g=>by simp only[ay,ai,ao,bj,aD,Option.map_some]⟩
def nJ (s:aw) (l:List ah) (i:Nat) (d:Int):List PB:=
 if 0<=fD l (dt (bq l i).bw d)/\0<jG s (bq l i).bY d (bq l (fD l (dt (bq l i).bw d)).toNat).bY then
  [⟨i,(fD l (dt (bq l i).bw d)).toNat,jG s (bq l i).bY d (bq l (fD l (dt (bq l i).bw d)).toNat).bY⟩]else[]
def gz (s:aw) (l:List ah) (i m:Nat):List PB:=(List.range m).flatMap fun j:Nat=>nJ s l i (1-(j:Int))
def hZ (s:aw) (l:List ah) (n:Nat):List PB:=(List.range n).flatMap fun i=>gz s l i 2
def di (s:aw) (l:List ah):List PB:=hZ s l l.length
theorem qz (s:aw) (l:List ah) (i m:Nat):gz s l i (m+1)=gz s l i m++nJ s l i (1-(m:Int)):=by simp[gz,List.range_succ]
theorem rS (s:aw) (l:List ah) (n:Nat):hZ s l (n+1)=hZ s l n++gz s l n 2:=by simp[hZ,List.range_succ]
theorem DM (s:aw) (l:List ah) (i:Nat) (d:Int):(nJ s l i d).length<=1:=by unfold nJ;split<;>simp
theorem rR (s:aw) (l:List ah) (i m:Nat):(gz s l i m).length<=m:=by
 induction m with
 |zero=>simp[gz]
 |succ m ih=>rw[qz,List.length_append];have:=DM s l i (1-(m:Int));omega
theorem tU (s:aw) (l:List ah) (n:Nat):(hZ s l n).length<=2*n:=by
 induction n with
 |zero=>simp[hZ]
 |succ n ih=>rw[rS,List.length_append];have:=rR s l n 2;omega
def sB:Id->Prop:=fun o=>o.site=169001000∨o.site=169012006
theorem EK (s:aw) (l:List ah) (hS:jb s) (hA:qJ s l):ak Tryz.prog 169 [.dq (ad s),.dq [.sl (l.map ab)]] (.sl ((di s l).map ay)):=by
 refine ak.body eM rfl fun hl n0=>?_
 clear hl
 have hF:=hA.1
 have Ah:=hF.zX
 (try((repeat(revert hN;revert N;apply Pn.out));refine wk @Nat.zero_add ?_;(repeat(refine Pn.mk ?_;intro N hN))))
 refine aT (fun n env st=>∃k:Nat,n=(l.length)-k/\k<=(l.length)/\env 6=.int .i64 (k:Int)/\(kT ay 3 (env 5) st.get sB (hZ s l k))) (l.length) ⟨0,ae,ae,sl @Nat.zero_add,⟨⟨169001000,n0+1⟩,.inl rfl,by simp only[go_sem, ↓reduceIte,Nat.reduceEqDiff,Nat.reduceAdd,Nat.reduceSub,Nat.reduceLeDiff,reduceCtorEq];rfl,by simp only[go_sem, ↓reduceIte,Nat.reduceEqDiff,Nat.reduceAdd,Nat.reduceSub,Nat.reduceLeDiff,reduceCtorEq];rfl⟩⟩ ?_
 rintro n_a env_a st_a ⟨k,rfl,ale,a6,kB⟩ dr
 have a0:=dr 0 (by kernel_rfl);have a1:=dr 1 (by kernel_rfl)
 simp only[go_sem, ↓reduceIte,Nat.reduceEqDiff,Nat.reduceAdd,Nat.reduceSub,Nat.reduceLeDiff,reduceCtorEq]at a0 a1
 clear dr
 by_cases hk:(k:Int)<(l.length:Int)
 ·have bZ:∀{e:Env} {gg:Rows},(e 6=.int .i64 (IntKind.i64.wrap ((k:Int)+1)))->(kT ay 3 (e 5) gg sB (hZ s l (k+1)))->∃m0,m0<(l.length)-k/\∃k:Nat,m0=(l.length)-k/\k<=(l.length)/\e 6=.int .i64 (k:Int)/\(kT ay 3 (e 5) gg sB (hZ s l k)):=fun x1 x2=>⟨_,ae,k+1,rfl,ae,(by rw[x1,aB ae]),x2⟩
  have fK:k<l.length:=ae
  have fe:=gu fK
  have Ux:=tU s l k
  (try((repeat(revert hN;revert N;apply Pn.out));refine wk (tw @a6 (tw @a0 (tw @a1 @hk))) ?_;(repeat(refine Pn.mk ?_;intro N hN))))
  refine aT (fun n env st=>∃m:Nat,n=(2)-m/\m<=(2)/\env 7=(.int .i64 (1-(m:Int)))/\(kT ay 3 (env 5) st.get sB (hZ s l k++gz s l k m))) (2) ⟨0,ae,ae,sl (tw @a6 (tw @a0 @a1)),by(simp only[go_sem, ↓reduceIte,Nat.reduceEqDiff,Nat.reduceAdd,Nat.reduceSub,Nat.reduceLeDiff,reduceCtorEq];exact kB.cast (by simp[gz]))⟩ ?_
  rintro n_b env_b st_b ⟨m,rfl,ble,b7,bI0⟩ bfr
  have b0:=bfr 0 (by kernel_rfl);have b1:=bfr 1 (by kernel_rfl);have b6:=bfr 6 (by kernel_rfl)
  simp only[go_sem, ↓reduceIte,Nat.reduceEqDiff,Nat.reduceAdd,Nat.reduceSub,Nat.reduceLeDiff,reduceCtorEq,a6,a0,a1]at b0 b1 b6
  clear bfr
  have N1:=rR s l k m
  have iL:=qz s l k m
  by_cases hm:(m:Int)<2
  ·have gY:∀{e:Env} {gg:Rows},(e 7=(.int .i64 (1-((m+1):Int))))->(kT ay 3 (e 5) gg sB (hZ s l k++gz s l k (m+1)))->∃m0,m0<(2)-m/\∃m:Nat,m0=(2)-m/\m<=(2)/\e 7=(.int .i64 (1-(m:Int)))/\(kT ay 3 (e 5) gg sB (hZ s l k++gz s l k m)):=fun x1 x2=>⟨_,ae,m+1,rfl,ae,x1,x2⟩
   have mz:(0:Int)<=1-(m:Int):=ae
   have hd:iw (1-(m:Int)) 0 3=true:=mC ae
   have hw:IntKind.i64.wrap (1-(m:Int)-1)=1-((m:Int)+1):=by rw[aJ ae];omega
   have JD:=qF l hF k (1-(m:Int)) fK hd
   unfold nJ at iL
   have hT:=hA.2 _ (jY fK)
   generalize Bf:fD l (dt (bq l k).bw (1-(m:Int)))=ix at *
   by_cases hi:ix<0
   ·rw[if_neg ae,List.append_nil]at iL
    (repeat(first|((repeat(revert hN;revert N;apply Pn.out));refine wk (tw @b7 (tw @b0 (tw @b1 (tw @b6 (tw @mz (tw @hw @hi)))))) ?_;(repeat(refine Pn.mk ?_;intro N hN)))|((try apply Or.inl);refine⟨_,ak.x (JD) (sd (tw @b7 (tw @b0 (tw @b1 (tw @b6 (tw @mz (tw @hw @hi))))))),?_⟩;refine hN _ _ ?_;clear hN N)))
    exact gY (sd (tw @b7 (tw @b0 (tw @b1 (tw @b6 @hw))))) (by(simp only[go_sem, ↓reduceIte,Nat.reduceEqDiff,Nat.reduceAdd,Nat.reduceSub,Nat.reduceLeDiff,reduceCtorEq];exact bI0.cast (by rw[iL])))
   ·have uJ:0<=ix:=ae
    have wu:=mh (l:=l) (p:=dt (bq l k).bw (1-(m:Int))) ae
    rw[Bf]at wu
    have gT:=gu wu.1
    have Bd:=Hn s hS (bq l k).bY (1-(m:Int)) (bq l ix.toNat).bY hT (hA.2 _ (jY wu.1)) hd
    generalize Ue:jG s (bq l k).bY (1-(m:Int)) (bq l ix.toNat).bY=bv at *
    by_cases hb:0<bv
    ·rw[if_pos ⟨uJ,hb⟩]at iL
     (repeat(first|((repeat(revert hN;revert N;apply Pn.out));refine wa (tw @b7 (tw @b0 (tw @b1 (tw @b6 (tw @mz (tw @hw (tw @hi (tw @uJ (tw @fe (tw @gT (tw @hb @ab.eq_1))))))))))) ?_;(repeat(refine Pn.mk ?_;intro N hN)))|((try apply Or.inl);refine⟨_,ak.x (JD) (sd (tw @b7 (tw @b0 (tw @b1 (tw @b6 (tw @mz (tw @hw (tw @hi (tw @uJ (tw @fe (tw @gT (tw @hb @ab.eq_1)))))))))))),?_⟩;refine hN _ _ ?_;clear hN N)|((try apply Or.inl);refine⟨_,ak.x (Bd) (sd (tw @b7 (tw @b0 (tw @b1 (tw @b6 (tw @mz (tw @hw (tw @hi (tw @uJ (tw @fe (tw @gT (tw @hb @ab.eq_1)))))))))))),?_⟩;refine hN _ _ ?_;clear hN N)))
     refine K4 (enc:=ay) (S:=sB) (L:=hZ s l k++gz s l k m) (xv:=env_b 5) [⟨k,ix.toNat,bv⟩] rfl rfl (sd @Nat.zero_add) (bI0.frame fun o ho=>by rcases ho with ho|ho<;>simp only[go_sem, ↓reduceIte,Nat.reduceEqDiff,Nat.reduceAdd,Nat.reduceSub,Nat.reduceLeDiff,reduceCtorEq,vp ho]) (sd (tw @ay.eq_1 (Int.toNat_of_nonneg uJ))) Le (.inr rfl) (by simp only[dF,List.length_append,List.length_cons,List.length_nil];omega) fun v g' hO kR=>?_
     rw[List.append_assoc,<-iL]at hO
     clear kR
     (try((repeat(revert hN;revert N;apply Pn.out));refine wk (tw @b7 (tw @b0 (tw @b1 (tw @b6 @hw)))) ?_;(repeat(refine Pn.mk ?_;intro N hN))))
     exact gY (sd (tw @b7 (tw @b0 (tw @b1 (tw @b6 @hw))))) (by(simp only[go_sem, ↓reduceIte,Nat.reduceEqDiff,Nat.reduceAdd,Nat.reduceSub,Nat.reduceLeDiff,reduceCtorEq];exact hO))
    ·rw[if_neg fun h=>hb h.2,List.append_nil]at iL
     (repeat(first|((repeat(revert hN;revert N;apply Pn.out));refine wk (tw @b7 (tw @b0 (tw @b1 (tw @b6 (tw @mz (tw @hw (tw @hi (tw @uJ (tw @fe (tw @gT (tw @hb @ab.eq_1))))))))))) ?_;(repeat(refine Pn.mk ?_;intro N hN)))|((try apply Or.inl);refine⟨_,ak.x (JD) (sd (tw @b7 (tw @b0 (tw @b1 (tw @b6 (tw @mz (tw @hw (tw @hi (tw @uJ (tw @fe (tw @gT (tw @hb @ab.eq_1)))))))))))),?_⟩;refine hN _ _ ?_;clear hN N)|((try apply Or.inl);refine⟨_,ak.x (Bd) (sd (tw @b7 (tw @b0 (tw @b1 (tw @b6 (tw @mz (tw @hw (tw @hi (tw @uJ (tw @fe (tw @gT (tw @hb @ab.eq_1)))))))))))),?_⟩;refine hN _ _ ?_;clear hN N)))
     exact gY (sd (tw @b7 (tw @b0 (tw @b1 (tw @b6 @hw))))) (by(simp only[go_sem, ↓reduceIte,Nat.reduceEqDiff,Nat.reduceAdd,Nat.reduceSub,Nat.reduceLeDiff,reduceCtorEq];exact bI0.cast (by rw[iL])))
  ·have ud:m=2:=ae
   subst ud
   have dO:¬(0:Int)<=1-((2:Nat):Int):=ae
   (try((repeat(revert hN;revert N;apply Pn.out));refine wk (tw @b7 (tw @b0 (tw @b1 (tw @b6 @dO)))) ?_;(repeat(refine Pn.mk ?_;intro N hN))))
   exact bZ (sd (tw @a6 (tw @a0 (tw @a1 (tw @b7 (tw @b0 (tw @b1 @b6))))))) (by(simp only[go_sem, ↓reduceIte,Nat.reduceEqDiff,Nat.reduceAdd,Nat.reduceSub,Nat.reduceLeDiff,reduceCtorEq];exact bI0.cast (by rw[rS])))
 ·have mQ:k=l.length:=ae
  (try((repeat(revert hN;revert N;apply Pn.out));refine wk (tw @a6 (tw @a0 (tw @a1 @hk))) ?_;(repeat(refine Pn.mk ?_;intro N hN))))
  exact xd (.inl rfl) (by simp only[go_sem, ↓reduceIte,Nat.reduceEqDiff,Nat.reduceAdd,Nat.reduceSub,Nat.reduceLeDiff,reduceCtorEq];rfl) (by rw[mQ]at kB;exact kB.gw fun b=>uU _ _ b)
end Go.Proofs.YtkbipfflibjfbaaGreat.V

namespace Go.Proofs.YtkbipfflibjfbaaGreat.V
open Go.RowKit
variable {g g':Rows} {v:AV} {L:List ah} {ids:List Id}
def pbP (b:PB):ah:=⟨⟨b.a,b.b⟩,b.s⟩
def oC (g:Rows) (v:AV) (L:List ah) (ids:List Id):Prop:=lU ab 3 g v L ids
theorem oC.frame (h:oC g v L ids) (hf:∀i∈ids,g' i=g i):oC g' v L ids:=lU.frame h hf
theorem oC.Hw (h:oC g v L ids):oO ab L (Gf ab v L):=(lU.t h).Hw
theorem oC.Q6 (h:oC g v L ids):V.fz (dM g) 6 v=some (Gf ab v L):=(lU.t h).Q6 Sa
theorem oC.clean (h:oC g v L ids):v.clean=true:=(lU.t h).clean
theorem oC.hand (h:oC g v L ids):Handed ids g:=(lU.t h).hand RU
theorem oC.s (h:oC g v L ids):gw g 5 v=some (xK ab L):=(lU.t h).s Ph
theorem J6 (k:Int) (h0:0<=k) (h1:k+3*L.length<=4611686018427387904) (σ:ax) (hv:∀i∈ids,i.cC<σ.next) (h:oC σ.get v L ids):
  Call Tryz.prog 25 [v,.int .i64 k] σ (fun r σ'=>r=.int .i64 (k+3*L.length)/\tP σ ids σ'.get σ'.next/\oC σ'.get v (Bk k L.length) ids):=Hz k h0 h1 σ hv h
end Go.Proofs.YtkbipfflibjfbaaGreat.V
