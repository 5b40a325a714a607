/- Slices of one's own that grow from an empty one. -/
import Derived.Test.YtgoelphibofcmaaGreatInB
import Derived.Test.YtgoelphibofcmaaGreatChecked
import Derived.Test.YtgoelphibofcmaaGreatInA
set_option linter.unusedVariables false
set_option linter.unusedSimpArgs false
set_option maxRecDepth 100000
set_option maxHeartbeats 16000000
namespace Go.Proofs.YtgoelphibofcmaaGreat.V
open Go.RowKit
variable {P:Program} {X:fP} {K:Env->ar->Prop} {env:Env} {σ:ar}
def mU {α:Type} (enc:α->List AV) (sz:Nat) (x:AV) (g:Rows) (S:Id->Prop) (L:List α):Prop:=∃o:Id,S o/\x=.own o 0 L.length/\g o=some ⟨true,sz,L.map enc⟩
section
variable {α:Type} {enc:α->List AV} {sz:Nat} {x:AV} {g g':Rows} {S:Id->Prop} {L L':List α}
theorem mU.cast (h:mU enc sz x g S L) (hL:L'=L):mU enc sz x g S L':=by subst hL;exact h
theorem mU.frame (h:mU enc sz x g S L) (hg:∀o:Id,S o->g' o=g o):mU enc sz x g' S L:=by
 obtain⟨o,h1,h2,h3⟩:=h
 exact⟨o,h1,h2,(hg o h1).trans h3⟩
theorem mU.app (hz:∀a,(enc a).length=sz/\(enc a).all AV.cell=true) (h:mU enc sz x g S L) (id:Id) (hid:S id) (M:List α) (hlen:L.length+M.length<=dI):
  ∃v g',bd g id sz x (M.map enc)=some (v,g')/\mU enc sz v g' S (L++M)/\∀j:Id,¬S j->g' j=g j:=by
 obtain⟨o,h1,rfl,h4⟩:=h
 refine⟨.own id 0 (L.length+(M.map enc).length),bL (cD g o) id ⟨true,sz,L.map enc++M.map enc⟩,?_,⟨id,hid,by simp,by simp[bL]⟩,fun j hj=>?_⟩
 ·have ha:=all_map (l:=M) hz
  simp only[bd,h4,Option.bind_some]
  rw[if_pos ⟨trivial,trivial,by simp,by simpa using hlen,ha⟩]
 ·have e1:¬j=id:=fun h=>hj (h▸hid)
  have e2:¬j=o:=fun h=>hj (h▸h1)
  simp[bL,cD,e1,e2]
theorem PQ {draw:Bool} {o:br} {r:List br} {x' y:O} {xv:AV} (M:List α) (ho:o.op=.append sz x' y) (hw:aT o.guard env=true) (hx:dj env x'=xv) (hO:mU enc sz xv σ.get S L)
  (hy:bx σ.get (dj env y)=some (M.map enc)) (hz:∀a,(enc a).length=sz/\(enc a).all AV.cell=true) (hid:S ⟨o.site,σ.next⟩) (hlen:L.length+M.length<=dI)
  (next:∀v g',mU enc sz v g' S (L++M)->(∀j:Id,¬S j->g' j=σ.get j)->wpOps X draw r K (upd env o.dst v) ⟨g',σ.next⟩):wpOps X draw (o::r) K env σ:=by
 obtain⟨v,g',h1,h2,h3⟩:=hO.app hz ⟨o.site,σ.next⟩ hid M hlen
 unfold wpOps
 rw[if_pos hw]
 unfold fK
 simp only[ho,ga,hy,hx,Option.bind_some,h1]
 exact next v g' h2 h3
theorem mU.gG {n:Nat} (h:mU enc sz x g S L) (he:∀a,eD g n (enc a)=some (enc a)):gG g (n+1) x=some (.sl (L.map enc)):=by
 obtain⟨o,_,rfl,h3⟩:=h
 exact fw h3 rfl he
end
theorem bU {a b:Id} (h:a.bQ<b.bQ):(a=b)=False/\(b=a)=False:=by
 constructor<;>(simp only[eq_iff_iff,iff_false];rintro rfl;omega)
theorem Ak {o:Id} {a:Nat} (h:o.site=a) {b v:Nat} (qF:(a==b)=false):(o=⟨b,v⟩)=False:=by
 simp only[eq_iff_iff,iff_false]
 rintro rfl
 simp only at h
 subst h
 simp at qF
def eN (n:Nat):List AV:=[.int .i64 n]
theorem fzN (g:Rows) (n:Nat) (a:Nat):dn g (n+1) (eN a)=some (eN a):=by simp[eN,ae,aj,aI]
theorem Od (g:Rows) (n:Nat) (a:Nat):eD g (n+1) (eN a)=some (eN a):=by simp[eN,bw,cr,eu]
def Qc:CR (List Nat):=fun g cs x ids=>∃id,cs=[.own id 0 x.length]/\g id=some ⟨true,1,x.map eN⟩/\ids=[id]
theorem Mh:xF Qc 1 where
 frame:=fun⟨id,h1,h2,h3⟩ hf=>by subst h3;exact⟨id,h1,(hf id (by simp)).trans h2,rfl⟩
 len:=fun⟨id,h1,_⟩=>by subst h1;rfl
 cell:=fun⟨id,h1,_⟩=>by subst h1;rfl
 live:=fun⟨id,h1,h2,h3⟩ i hi=>by
  subst h3
  have:i=id:=by simpa using hi
  subst this
  exact⟨_,h2,rfl,by simp[r4]⟩
 small:=by simp[r4]
def AM (l:List Nat):List AV:=[.sl (l.map eN)]
theorem JO {g:Rows} {rows:List (List AV)} {xs:List (List Nat)} {ids:List Id} (n:Nat) (h:eM Qc g rows xs ids):iu g (n+2) rows=some (xs.map AM):=by
 induction h with
 |nil=>rw[iu];rfl
 |cons h1 _ ih=>
  obtain⟨id,rfl,h2,_⟩:=h1
  rw[iu,ih,bw,cr,fw (e:=eN) (sz:=1) h2 rfl fun a=>Od g n a];rfl
end Go.Proofs.YtgoelphibofcmaaGreat.V

namespace Go.Proofs.YtgoelphibofcmaaGreat.V
open Go.RowKit
attribute [local irreducible] dO wpOps gy Call
attribute [local go_sem] aT fK eS ga fZ dj upd cF K.av cP AV.cells AV.cell rowOf rowsOf part ld rowAt bL cD dG ef ik bV de ew fW fe dw ek dc db dU dV cj bl cU b4 cW cV ei eo ej cR cm dd eh bW aV cZ cI ij bx cK ck bd du bj dI AV.undef bH bS dW eb dQ dP cJ ev eE cH er ep cY da List.getD_cons_zero List.getD_cons_succ List.getD_nil List.all_cons List.all_nil Bool.and_true Bool.true_and Bool.and_self Bool.not_true Bool.not_false Option.map_some Option.map_none Option.bind_some Option.bind_none List.length_cons List.length_nil List.take_succ_cons List.take_zero List.take_nil List.drop_succ_cons List.drop_zero List.drop_nil List.head?_cons List.map_cons List.map_nil List.getElem?_cons_zero List.getElem?_cons_succ List.cons_append List.nil_append List.append_nil List.length_map List.set_cons_zero List.set_cons_succ Nat.reduceMul eq_self Int.toNat_natCast Int.natCast_nonneg and_self true_and and_true decide_true decide_false Bool.false_eq_true Nat.zero_add Nat.add_zero List.contains_cons List.contains_nil Bool.or_false Bool.false_or beq_self_eq_true Nat.reduceBEq ne_eq not_true_eq_false not_false_eq_true Id.mk.injEq false_and and_false Nat.reduceLT Int.reduceLE Int.reduceLT Int.reduceToNat Int.reduceNeg Int.reduceAdd Nat.le_refl List.length_append beq_true beq_false Bool.not_eq_eq_eq_not or_false false_or dR ae aj aI bq bG cC aY bh aW bp cQ bJ
variable {P:Program}
def Im {α:Type} (R:CR α) (x:α) (σ:ar) (r:AV) (σ':ar):Prop:=∃cs ids,r=.agg cs/\R σ'.get cs x ids/\gK σ.next σ'.next ids/\Kept σ σ'
def gJ {α:Type} (R:CR α) (z:Nat) (g:Rows) (a:AV) (xs:List α) (ids:List Id):Prop:=∃o rows is,a=.own o 0 xs.length/\g o=some ⟨true,z,rows⟩/\eM R g rows xs is/\ids=o::is
def Io {α:Type} (R:CR α) (z:Nat) (xs:List α) (σ:ar) (r:AV) (σ':ar):Prop:=∃ids,gJ R z σ'.get r xs ids/\gK σ.next σ'.next ids/\Kept σ σ'
theorem gJ.frame {α:Type} {R:CR α} {z:Nat} {g g':Rows} {a:AV} {xs:List α} {ids:List Id} (ok:xF R z) (h:gJ R z g a xs ids) (hf:∀i∈ids,g' i=g i):gJ R z g' a xs ids:=by
 obtain⟨o,rows,is,h1,h2,h3,rfl⟩:=h
 exact⟨o,rows,is,h1,(hf o (by simp)).trans h2,h3.frame ok fun i hi=>hf i (by simp[hi]),rfl⟩
theorem gJ.fz {α:Type} {R:CR α} {z n:Nat} {e:α->List AV} {g:Rows} {a:AV} {xs:List α} {ids:List Id} (h:gJ R z g a xs ids) (hz:∀{cs x ids},R g cs x ids->dn (dR g) n cs=some (e x)):V.fz (dR g) (n+1) a=some (.sl (xs.map e)):=by
 obtain⟨o,rows,is,rfl,h2,h3,rfl⟩:=h
 rw[iG]
 simp only[dR,h2,Option.map_some,if_true]
 rw[if_pos (by rw[h3.len];omega),List.drop_zero,List.take_of_length_le (by rw[h3.len];exact Nat.le_refl _),h3.fz hz];rfl
def jf {α:Type} (e:α->List AV):CR α:=fun _ cs x ids=>cs=e x/\ids=[]
theorem I4 {α:Type} {e:α->List AV} {z:Nat} (hz:∀x,(e x).length=z) (hc:∀x,(e x).all AV.cell=true) (hs:z<r4):xF (jf e) z where
 frame:=fun h _=>h
 len:=fun h=>by rw[h.1];exact hz _
 cell:=fun h=>by rw[h.1];exact hc _
 live:=fun h i hi=>by rw[h.2]at hi;cases hi
 small:=hs
def oq:CR eZ:=fun g cs t ids=>∃i,cs=[.str t.aM,.own i 0 t.bD.length]/\g i=some ⟨true,1,t.bD.map aE⟩/\ids=[i]
theorem qW:xF oq 2 where
 frame:=fun⟨i,h1,h2,h3⟩ hf=>⟨i,h1,(hf i (by rw[h3];simp)).trans h2,h3⟩
 len:=fun⟨i,h1,_⟩=>by rw[h1];rfl
 cell:=fun⟨i,h1,_⟩=>by rw[h1];rfl
 live:=fun⟨i,h1,h2,h3⟩ j hj=>by
  rw[h3]at hj
  have:j=i:=by simpa using hj
  subst this
  exact⟨_,h2,rfl,by simp[r4]⟩
 small:=by simp[r4]
theorem MP {g:Rows} {cs:List AV} {t:eZ} {ids:List Id} (n:Nat) (h:oq g cs t ids):dn (dR g) (n+2) cs=some (bB t):=by
 obtain⟨i,rfl,h2,_⟩:=h
 have h3:V.fz (dR g) (n+2) (.own i 0 t.bD.length)=some (.sl (t.bD.map aE)):=gY (e:=aE) (sz:=1) (by simp[dR,h2]) rfl fun x=>by simp[aE,ae,aj,aI]
 simp only[ae,aj,bG,h3,Option.map_some,bB]
theorem MG {α:Type} {a b:List α} {x y:α} {k:Nat} (hk:a.length=k):(a++x::b).set k y=a++[y]++b:=by subst hk;simp
theorem vg {α:Type} {R:CR α} {en:α->List AV} {z fk gk:Nat} {zero:List K} (ok:xF R z) (hc:lR P fk=some (qj fk gk z zero)) (H8:zero.length=z) (hz:∀x,(en x).length=z) (xs:List α) (hlen:xs.length<=1048576)
  (hg:∀x∈xs,∀σ,Call P gk [.agg (en x)] σ (Im R x σ)) (σ:ar):Call P fk [.sl (xs.map en)] σ (Io R z xs σ):=by
 refine eQ hc rfl fun hl=>?_
 try simp only[q]
 clear hl
 have hm:(xs.length:Int)<=((16777216:Nat):Int):=by omega
 have h0:(0:Int)<=(xs.length:Int):=by omega
 (try((repeat(revert hN;revert N;apply Pn.out));refine wk (tw @hm (tw @h0 (tw @Int.le_refl @H8))) ?_;(repeat(refine Pn.mk ?_;intro N hN))))
 refine aZ (fun n env st=>∃k:Nat,n=(xs.length)-k/\k<=(xs.length)/\env 4=.int .i64 (k:Int)/\(σ.next+2<=st.next/\(∀y:Id,y.bQ<σ.next->st.get y=σ.get y)/\∃rows is,st.get ⟨fk*1000000+1002,σ.next+1⟩=some ⟨true,z,rows++List.replicate (xs.length-k) (zero.map K.av)⟩/\eM R st.get rows (xs.take k) is/\gK (σ.next+2) st.next is)) (xs.length) ⟨0,by omega,by omega,sl @Nat.zero_add,by(try dsimp only);exact⟨by omega,fun y hy=>by
  have h1:=dr hy
  simp only[go_sem, ↓reduceIte,Nat.reduceEqDiff,Nat.reduceAdd,Nat.reduceSub,Nat.reduceLeDiff,reduceCtorEq,h1],[],[],sl @Nat.zero_add,.nil,List.nodup_nil,fun i hi=>by cases hi⟩⟩ ?_
 rintro n_a env_a st_a ⟨k,rfl,ale,a4,j4⟩ dx
 have a0:=dx 0 (by kernel_rfl);have a3:=dx 3 (by kernel_rfl)
 simp only[go_sem, ↓reduceIte,Nat.reduceEqDiff,Nat.reduceAdd,Nat.reduceSub,Nat.reduceLeDiff,reduceCtorEq]at a0 a3
 clear dx
 obtain⟨an,aK,rows,is,ag,aR,aN⟩:=j4
 have qI:rows.length=k:=by rw[aR.len,List.length_take];omega
 by_cases hk:(k:Int)<(xs.length:Int)
 ·have cz:∀{e:Env} {gg:Rows} {nx:Nat},(e 4=.int .i64 (IntKind.i64.wrap ((k:Int)+1)))->(σ.next+2<=nx/\(∀y:Id,y.bQ<σ.next->gg y=σ.get y)/\∃rows is,gg ⟨fk*1000000+1002,σ.next+1⟩=some ⟨true,z,rows++List.replicate (xs.length-(k+1)) (zero.map K.av)⟩/\eM R gg rows (xs.take (k+1)) is/\gK (σ.next+2) nx is)->∃m0,m0<(xs.length)-k/\∃k:Nat,m0=(xs.length)-k/\k<=(xs.length)/\e 4=.int .i64 (k:Int)/\(σ.next+2<=nx/\(∀y:Id,y.bQ<σ.next->gg y=σ.get y)/\∃rows is,gg ⟨fk*1000000+1002,σ.next+1⟩=some ⟨true,z,rows++List.replicate (xs.length-k) (zero.map K.av)⟩/\eM R gg rows (xs.take k) is/\gK (σ.next+2) nx is):=fun x1 x2=>⟨_,by omega,k+1,rfl,by omega,(by rw[x1,aA (by omega)]),x2⟩
  have fM:k<xs.length:=by omega
  have e9:(xs.map en)[k]? =some (en xs[k]):=by simp[fM]
  have tZ:=hz xs[k]
  have ht:(en xs[k]).take z=en xs[k]:=by rw[<-tZ,List.take_length]
  have iD:=hg _ (List.getElem_mem fM)
  obtain⟨m,yE⟩:∃m,xs.length-k=m+1:=⟨xs.length-k-1,by omega⟩
  rw[yE,List.replicate_succ]at ag
  generalize hex:en xs[k]=c at iD e9 tZ ht
  (try((repeat(revert hN;revert N;apply Pn.out));refine wk (tw @a4 (tw @a0 (tw @a3 (tw @hk (tw @e9 (tw @tZ (tw @ht @Nat.le_refl))))))) ?_;(repeat(refine Pn.mk ?_;intro N hN))))
  refine .inr (aJ _ _ _ _ _ (fun r σ1 hq=>?_) (iD _))
  obtain⟨cs,ids,rfl,hR,hI,hK⟩:=hq
  obtain⟨g1,x1⟩:=σ1
  (try dsimp only at hR hI hK)
  have AO:=(hK.2 ⟨fk*1000000+1002,σ.next+1⟩ (by(try dsimp only);omega))
  simp only[go_sem, ↓reduceIte,Nat.reduceEqDiff,Nat.reduceAdd,Nat.reduceSub,Nat.reduceLeDiff,reduceCtorEq,ag]at AO
  have nf:=ok.len hR
  have zL:=ok.cell hR
  have fq:(rows++zero.map K.av::List.replicate m (zero.map K.av))[k]? =some (zero.map K.av):=by rw[List.getElem?_append_right (by omega),qI,Nat.sub_self];rfl
  have eH:(rows++zero.map K.av::List.replicate m (zero.map K.av)).set k cs=rows++[cs]++List.replicate m (zero.map K.av):=MG qI
  have Jg:(zero.map K.av).drop z=[]:=List.drop_of_length_le (by simp[H8])
  have FE:(rows++zero.map K.av::List.replicate m (zero.map K.av)).length=xs.length:=by simp[qI];omega
  refine hN _ _ ?_
  clear hN N
  (try((repeat(revert hN;revert N;apply Pn.out));refine wk (tw @a4 (tw @a0 (tw @a3 (tw @hk (tw @AO (tw @fq (tw @eH (tw @FE (tw @Jg (tw @vN (tw @nf (tw @zL (tw @Nat.le_refl @H8))))))))))))) ?_;(repeat(refine Pn.mk ?_;intro N hN))))
  have rN:=hK.1
  have K2:∀i∈is,(i=⟨fk*1000000+1002,σ.next+1⟩)=False:=fun i hi=>eq_false fun e=>by
   have:=(aN.2 i hi).1
   subst e;(try dsimp only at this);omega
  have GJ:∀i∈ids,(i=⟨fk*1000000+1002,σ.next+1⟩)=False:=fun i hi=>eq_false fun e=>by
   have:=(hI.2 i hi).1
   subst e;(try dsimp only at this);omega
  exact cz (sd (tw @a4 (tw @a0 @a3))) (by(try dsimp only at *);exact⟨by omega,fun y hy=>by
   have h1:=dr hy
   have h2:=hK.2 y (by(try dsimp only);omega)
   have h3:=aK y hy
   simp only[go_sem, ↓reduceIte,Nat.reduceEqDiff,Nat.reduceAdd,Nat.reduceSub,Nat.reduceLeDiff,reduceCtorEq]at h2
   simp only[go_sem, ↓reduceIte,Nat.reduceEqDiff,Nat.reduceAdd,Nat.reduceSub,Nat.reduceLeDiff,reduceCtorEq,h1,h2,h3],rows++[cs],is++ids,by
    rw[show xs.length-(k+1)=m by omega]
    simp only[go_sem, ↓reduceIte,Nat.reduceEqDiff,Nat.reduceAdd,Nat.reduceSub,Nat.reduceLeDiff,reduceCtorEq]<;>rfl,by
    rw[List.take_succ_eq_append_getElem fM]
    refine((aR.frame ok fun i hi=>?_).app (.one (ok.frame hR fun i hi=>?_)))
    ·have h1:=K2 i hi
     have h2:=hK.2 i (by(try dsimp only);have:=(aN.2 i hi).2;omega)
     simp only[go_sem, ↓reduceIte,Nat.reduceEqDiff,Nat.reduceAdd,Nat.reduceSub,Nat.reduceLeDiff,reduceCtorEq]at h2
     simp only[go_sem, ↓reduceIte,Nat.reduceEqDiff,Nat.reduceAdd,Nat.reduceSub,Nat.reduceLeDiff,reduceCtorEq,h1,h2]
    ·have h1:=GJ i hi
     simp only[go_sem, ↓reduceIte,Nat.reduceEqDiff,Nat.reduceAdd,Nat.reduceSub,Nat.reduceLeDiff,reduceCtorEq,h1],(aN.app hI (by(try dsimp only);omega) (by omega) (by(try dsimp only);omega)).wide (Nat.le_refl _) (by(try dsimp only);omega)⟩)
 ·(try((repeat(revert hN;revert N;apply Pn.out));refine wk (tw @a4 (tw @a0 (tw @a3 @hk))) ?_;(repeat(refine Pn.mk ?_;intro N hN))))
  have fM:k=xs.length:=by omega
  subst fM
  rw[Nat.sub_self,List.replicate_zero,List.append_nil]at ag
  rw[List.take_length]at aR
  refine eX (.inl rfl) (vs:=[.own ⟨fk*1000000+1002,σ.next+1⟩ 0 xs.length]) (sd (tw @a4 (tw @a0 @a3))) ?_
  exact⟨_,⟨_,rows,is,rfl,ag,aR,rfl⟩,⟨List.nodup_cons.2 ⟨fun hi=>by have:=(aN.2 _ hi).1;(try dsimp only at this);omega,aN.1⟩,fun i hi=>by
   rcases List.mem_cons.1 hi with rfl|hi
   ·(try dsimp only);omega
   ·have:=aN.2 i hi;(try dsimp only);omega⟩,⟨by(try dsimp only);omega,fun j hj=>aK j hj⟩⟩
end Go.Proofs.YtgoelphibofcmaaGreat.V

namespace Go.Proofs.YtgoelphibofcmaaGreat.V
open Go.RowKit
attribute [local irreducible] dO wpOps gy Call
attribute [local go_sem] aT fK eS ga fZ dj upd cF K.av cP AV.cells AV.cell rowOf rowsOf part ld rowAt bL cD dG ef ik bV de ew fW fe dw ek dc db dU dV cj bl cU b4 cW cV ei eo ej cR cm dd eh bW aV cZ cI ij bx cK ck bd du bj dI AV.undef bH bS dW eb dQ dP cJ ev eE cH er ep cY da List.getD_cons_zero List.getD_cons_succ List.getD_nil List.all_cons List.all_nil Bool.and_true Bool.true_and Bool.and_self Bool.not_true Bool.not_false Option.map_some Option.map_none Option.bind_some Option.bind_none List.length_cons List.length_nil List.take_succ_cons List.take_zero List.take_nil List.drop_succ_cons List.drop_zero List.drop_nil List.head?_cons List.map_cons List.map_nil List.getElem?_cons_zero List.getElem?_cons_succ List.cons_append List.nil_append List.append_nil List.length_map List.set_cons_zero List.set_cons_succ Nat.reduceMul eq_self Int.toNat_natCast Int.natCast_nonneg and_self true_and and_true decide_true decide_false Bool.false_eq_true Nat.zero_add Nat.add_zero List.contains_cons List.contains_nil Bool.or_false Bool.false_or beq_self_eq_true Nat.reduceBEq ne_eq not_true_eq_false not_false_eq_true Id.mk.injEq false_and and_false Nat.reduceLT Int.reduceLE Int.reduceLT Int.reduceToNat Int.reduceNeg Int.reduceAdd Nat.le_refl List.length_append beq_true beq_false Bool.not_eq_eq_eq_not or_false false_or dR ae aj aI bq bG cC aY bh aW bp cQ bJ
theorem gJ.kY {α:Type} {R:CR α} {z:Nat} {g:Rows} {a:AV} {xs:List α} {ids:List Id} (h:gJ R z g a xs ids):∃o,a=.own o 0 xs.length:=by
 obtain⟨o,rows,is,rfl,_⟩:=h;exact⟨o,rfl⟩
theorem KG (xs:List Int) (hlen:xs.length<=1048576) (σ:ar):Call Tryz.prog 195 [.sl (xs.map aE)] σ (fun r σ'=>∃i,r=.own i 0 xs.length/\σ'.get i=some ⟨true,1,xs.map aE⟩/\gK σ.next σ'.next [i]/\Kept σ σ'):=by
 refine eQ (show lR Tryz.prog 195=some (KK 195 (.int .i64 0)) by kernel_rfl) rfl fun hl=>?_
 try simp only[q]
 clear hl
 obtain⟨en,HX⟩:∃en:Int->List AV,en=aE:=⟨_,rfl⟩
 rw[<-HX]
 have hm:(xs.length:Int)<=((16777216:Nat):Int):=by omega
 have h0:(0:Int)<=(xs.length:Int):=by omega
 (try((repeat(revert hN;revert N;apply Pn.out));refine wk (tw @hm (tw @h0 (tw @Int.le_refl (oE en [AV.int .i64 0] xs)))) ?_;(repeat(refine Pn.mk ?_;intro N hN))))
 refine aZ (fun n env st=>∃k:Nat,n=(xs.length)-k/\k<=(xs.length)/\env 4=.int .i64 (k:Int)/\st.get ⟨195*1000000+1002,σ.next+1⟩=some ⟨true,1,gW en [AV.int .i64 0] xs k⟩/\(σ.next+2<=st.next/\∀y:Id,y.bQ<σ.next->st.get y=σ.get y)) (xs.length) ⟨0,by omega,by omega,sl @Nat.zero_add,sl @Nat.zero_add,by(try dsimp only);exact⟨by omega,fun y hy=>by
  have h1:=dr hy
  simp only[go_sem, ↓reduceIte,Nat.reduceEqDiff,Nat.reduceAdd,Nat.reduceSub,Nat.reduceLeDiff,reduceCtorEq,h1]⟩⟩ ?_
 rintro n_a env_a st_a ⟨k,rfl,ale,a4,ag0,j4⟩ dx
 have a0:=dx 0 (by kernel_rfl);have a3:=dx 3 (by kernel_rfl)
 simp only[go_sem, ↓reduceIte,Nat.reduceEqDiff,Nat.reduceAdd,Nat.reduceSub,Nat.reduceLeDiff,reduceCtorEq]at a0 a3
 clear dx
 obtain⟨an,aK⟩:=j4
 by_cases hk:(k:Int)<(xs.length:Int)
 ·have cz:∀{e:Env} {gg:Rows} {nx:Nat},(e 4=.int .i64 (IntKind.i64.wrap ((k:Int)+1)))->(gg ⟨195*1000000+1002,σ.next+1⟩=some ⟨true,1,gW en [AV.int .i64 0] xs (k+1)⟩)->(σ.next+2<=nx/\∀y:Id,y.bQ<σ.next->gg y=σ.get y)->∃m0,m0<(xs.length)-k/\∃k:Nat,m0=(xs.length)-k/\k<=(xs.length)/\e 4=.int .i64 (k:Int)/\gg ⟨195*1000000+1002,σ.next+1⟩=some ⟨true,1,gW en [AV.int .i64 0] xs k⟩/\(σ.next+2<=nx/\∀y:Id,y.bQ<σ.next->gg y=σ.get y):=fun x1 x2 x3=>⟨_,by omega,k+1,rfl,by omega,(by rw[x1,aA (by omega)]),x2,x3⟩
  have fM:k<xs.length:=by omega
  have e9:(xs.map en)[k]? =some [AV.int .i64 xs[k]]:=by simp[fM,HX,aE]
  have fY:=qu en [AV.int .i64 0] xs fM
  have eH:=qv en [AV.int .i64 0] xs fM
  rw[show en xs[k]=[AV.int .i64 xs[k]] by rw[HX];rfl]at eH
  (try((repeat(revert hN;revert N;apply Pn.out));refine wk (tw @a4 (tw @ag0 (tw @a0 (tw @a3 (tw @hk (tw @e9 (tw @fY @eH))))))) ?_;(repeat(refine Pn.mk ?_;intro N hN))))
  refine cz ?_ ?_ (by(try dsimp only);exact⟨by omega,fun y hy=>by
   have h1:=dr hy
   have h3:=aK y hy
   simp only[go_sem, ↓reduceIte,Nat.reduceEqDiff,Nat.reduceAdd,Nat.reduceSub,Nat.reduceLeDiff,reduceCtorEq,h1,h3]⟩)
  all_goals simp only[go_sem, ↓reduceIte,Nat.reduceEqDiff,Nat.reduceAdd,Nat.reduceSub,Nat.reduceLeDiff,reduceCtorEq,a4,ag0,a0,a3]
 ·(try((repeat(revert hN;revert N;apply Pn.out));refine wk (tw @a4 (tw @ag0 (tw @a0 (tw @a3 @hk)))) ?_;(repeat(refine Pn.mk ?_;intro N hN))))
  have fM:k=xs.length:=by omega
  subst fM
  refine eX (.inl rfl) (vs:=[.own ⟨195*1000000+1002,σ.next+1⟩ 0 xs.length]) (sd (tw @a4 (tw @ag0 (tw @a0 @a3)))) ?_
  rw[qt]at ag0
  exact⟨_,rfl,ag0,⟨List.nodup_cons.2 ⟨by simp,List.nodup_nil⟩,fun i hi=>by
   rw[List.mem_singleton.1 hi];(try dsimp only);omega⟩,⟨by(try dsimp only);omega,fun j hj=>aK j hj⟩⟩
theorem KL (p:eZ) (hs:sP p) (σ:ar):Call Tryz.prog 162 [.agg (bB p)] σ (Im oq p σ):=by
 refine eQ eK rfl fun hl=>?_
 clear hl
 (try((repeat(revert hN;revert N;apply Pn.out));refine wk @bB.eq_1 ?_;(repeat(refine Pn.mk ?_;intro N hN))))
 refine .inr (aJ _ _ _ _ _ (fun r σ1 hq=>?_) (KG p.bD hs _))
 obtain⟨i,rfl,hg,hI,hK⟩:=hq
 obtain⟨g1,x1⟩:=σ1
 (try dsimp only at hg hI hK)
 have hn:=hK.1
 refine hN _ _ ?_
 clear hN N
 have hi:=hI.2 i (by simp)
 have k2:=hK.2 ⟨162000001,σ.next⟩ (by(try dsimp only);omega)
 have k3:=hK.2 ⟨162001000,σ.next+1⟩ (by(try dsimp only);omega)
 simp only[go_sem, ↓reduceIte,Nat.reduceEqDiff,Nat.reduceAdd,Nat.reduceSub,Nat.reduceLeDiff,reduceCtorEq]at k2 k3
 (try((repeat(revert hN;revert N;apply Pn.out));refine wk (tw @bB.eq_1 (tw @k2 @k3)) ?_;(repeat(refine Pn.mk ?_;intro N hN))))
 refine eX (.inl rfl) (vs:=[.agg [.str p.aM,.own i 0 p.bD.length]]) (sd @Nat.zero_add) ?_
 refine⟨_,[i],rfl,⟨i,rfl,?_,rfl⟩,⟨hI.1,fun j hj=>?_⟩,⟨?_,fun j hj=>?_⟩⟩
 ·have i2:=bU (b:=i) (a:=⟨162000001,σ.next⟩) (by(try dsimp only at *);omega)
  have i3:=bU (b:=i) (a:=⟨162001000,σ.next+1⟩) (by(try dsimp only at *);omega)
  simp only[go_sem, ↓reduceIte,Nat.reduceEqDiff,Nat.reduceAdd,Nat.reduceSub,Nat.reduceLeDiff,reduceCtorEq,i2,i3,hg]
 ·rw[List.mem_singleton.1 hj]
  (try dsimp only at *);omega
 ·(try dsimp only at *);omega
 ·have h2:=hK.2 j (by(try dsimp only);omega)
  have h1:=dr hj
  simp only[go_sem, ↓reduceIte,Nat.reduceEqDiff,Nat.reduceAdd,Nat.reduceSub,Nat.reduceLeDiff,reduceCtorEq,h1]at h2
  simp only[go_sem, ↓reduceIte,Nat.reduceEqDiff,Nat.reduceAdd,Nat.reduceSub,Nat.reduceLeDiff,reduceCtorEq,h1,h2]
theorem Bu:xF (jf bR) 2:=I4 (fun _=>rfl) (fun _=>rfl) (by simp[r4])
theorem qd:xF (jf aa) 3:=I4 (fun _=>rfl) (fun _=>rfl) (by simp[r4])
theorem KE (p:fG) (σ:ar):Call Tryz.prog 161 [.agg (bR p)] σ (Im (jf bR) p σ):=by
 refine eQ eK rfl fun hl=>?_
 clear hl
 (try((repeat(revert hN;revert N;apply Pn.out));refine wk @bR.eq_1 ?_;(repeat(refine Pn.mk ?_;intro N hN))))
 refine eX (.inl rfl) (vs:=[.agg (bR p)]) (sd @bR.eq_1) ?_
 exact⟨_,[],rfl,⟨rfl,rfl⟩,⟨List.nodup_nil,fun i hi=>by cases hi⟩,⟨by(try dsimp only);omega,fun j hj=>by
  have h1:=dr hj
  simp only[go_sem, ↓reduceIte,Nat.reduceEqDiff,Nat.reduceAdd,Nat.reduceSub,Nat.reduceLeDiff,reduceCtorEq,h1]⟩⟩
theorem E6 (p:ad) (σ:ar):Call Tryz.prog 104 [.agg (aa p)] σ (Im (jf aa) p σ):=by
 refine eQ eK rfl fun hl=>?_
 clear hl
 have h:=pP p.aQ
 rw[ah]at h
 (repeat(first|((repeat(revert hN;revert N;apply Pn.out));refine wk @aa.eq_1 ?_;(repeat(refine Pn.mk ?_;intro N hN)))|((try apply Or.inl);refine⟨_,jq.x (h) _,?_⟩;refine hN _ _ ?_;clear hN N)))
 refine eX (.inl rfl) (vs:=[.agg (aa p)]) (sd @aa.eq_1) ?_
 exact⟨_,[],rfl,⟨rfl,rfl⟩,⟨List.nodup_nil,fun i hi=>by cases hi⟩,⟨by(try dsimp only);omega,fun j hj=>by
  have h1:=dr hj
  simp only[go_sem, ↓reduceIte,Nat.reduceEqDiff,Nat.reduceAdd,Nat.reduceSub,Nat.reduceLeDiff,reduceCtorEq,h1]⟩⟩
theorem HL (xs:List fG) (h:xs.length<=1048576) (σ:ar):Call Tryz.prog 102 [.sl (xs.map bR)] σ (Io (jf bR) 2 xs σ):=
 vg Bu (show lR Tryz.prog 102=some (qj 102 161 2 [.str [],.int .i64 0]) by kernel_rfl) rfl (fun _=>rfl) xs h (fun x _ σ=>KE x σ) σ
theorem HN (xs:List eZ) (h:xs.length<=1048576) (hs:∀t∈xs,sP t) (σ:ar):Call Tryz.prog 103 [.sl (xs.map bB)] σ (Io oq 2 xs σ):=
 vg qW (show lR Tryz.prog 103=some (qj 103 162 2 [.str [],.bE]) by kernel_rfl) rfl (fun _=>rfl) xs h (fun x hx σ=>KL x (hs x hx) σ) σ
theorem CI (xs:List ad) (h:xs.length<=1048576) (σ:ar):Call Tryz.prog 62 [.sl (xs.map aa)] σ (Io (jf aa) 3 xs σ):=
 vg qd (show lR Tryz.prog 62=some (qj 62 104 3 [.int .i64 0,.int .i64 0,.int .i64 0]) by kernel_rfl) rfl (fun _=>rfl) xs h (fun x _ σ=>E6 x σ) σ
def C5 (g:Rows) (v:AV) (a:gz) (ids:List Id):Prop:=∃x,v=.agg [x]/\gJ (jf aa) 3 g x a.ai ids
structure zl (g:Rows) (v:AV) (s:az) (ids:List Id):Prop where
 ex:∃a b c i1 i2 i3,v=.agg [a,b,c,.int .i64 s.ay]/\gJ (jf bR) 2 g a s.aH.ax i1/\gJ oq 2 g b s.aH.ai i2/\gJ (jf aa) 3 g c s.bf.ai i3/\ids=i1++(i2++i3)
theorem C5.frame {g g':Rows} {v:AV} {a:gz} {ids:List Id} (h:C5 g v a ids) (hf:∀i∈ids,g' i=g i):C5 g' v a ids:=by
 obtain⟨x,h1,h2⟩:=h
 exact⟨x,h1,h2.frame qd hf⟩
theorem zl.frame {g g':Rows} {v:AV} {s:az} {ids:List Id} (h:zl g v s ids) (hf:∀i∈ids,g' i=g i):zl g' v s ids:=by
 obtain⟨a,b,c,i1,i2,i3,h1,h2,h3,h4,rfl⟩:=h.ex
 exact⟨a,b,c,i1,i2,i3,h1,h2.frame Bu fun i hi=>hf i (by simp[hi]),h3.frame qW fun i hi=>hf i (by simp[hi]),h4.frame qd fun i hi=>hf i (by simp[hi]),rfl⟩
theorem C5.fz {g:Rows} {v:AV} {a:gz} {ids:List Id} (n:Nat) (h:C5 g v a ids):V.fz (dR g) (n+4) v=some (.agg (dJ a)):=by
 obtain⟨x,rfl,h2⟩:=h
 have h3:=h2.fz (n:=n+2) (e:=aa) fun hc=>by rw[hc.1];simp[aa,ae,aj,aI]
 simp only[bh,ae,aj,h3,Option.map_some,dJ]
theorem zl.fz {g:Rows} {v:AV} {s:az} {ids:List Id} (n:Nat) (h:zl g v s ids):V.fz (dR g) (n+5) v=some (.agg (au s)):=by
 obtain⟨a,b,c,i1,i2,i3,rfl,h2,h3,h4,rfl⟩:=h.ex
 have q1:=h2.fz (n:=n+3) (e:=bR) fun hc=>by rw[hc.1];simp[bR,ae,aj,aI,bG]
 have q2:=h3.fz (n:=n+3) (e:=bB) fun hc=>MP (n+1) hc
 have q3:=h4.fz (n:=n+3) (e:=aa) fun hc=>by rw[hc.1];simp[aa,ae,aj,aI]
 simp only[bh,ae,aj,q1,q2,q3,aI,Option.map_some,au]
theorem Av (p:gz) (hs:p.ai.length<=1048576) (σ:ar):Call Tryz.prog 18 [.agg (dJ p)] σ (fun r σ'=>∃ids,C5 σ'.get r p ids/\gK σ.next σ'.next ids/\Kept σ σ'):=by
 refine eQ eK rfl fun hl=>?_
 clear hl
 (try((repeat(revert hN;revert N;apply Pn.out));refine wk @dJ.eq_1 ?_;(repeat(refine Pn.mk ?_;intro N hN))))
 refine .inr (aJ _ _ _ _ _ (fun r σ1 hq=>?_) (CI p.ai hs _))
 obtain⟨ids,hR,hI,hK⟩:=hq
 obtain⟨g1,x1⟩:=σ1
 (try dsimp only at hR hI hK)
 have hn:=hK.1
 obtain⟨o,rows,is,rfl,hg,UA,rfl⟩:=hR
 refine hN _ _ ?_
 clear hN N
 have k2:=hK.2 ⟨18000001,σ.next⟩ (by(try dsimp only);omega)
 have k3:=hK.2 ⟨18001000,σ.next+1⟩ (by(try dsimp only);omega)
 simp only[go_sem, ↓reduceIte,Nat.reduceEqDiff,Nat.reduceAdd,Nat.reduceSub,Nat.reduceLeDiff,reduceCtorEq]at k2 k3
 (try((repeat(revert hN;revert N;apply Pn.out));refine wk (tw @dJ.eq_1 (tw @k2 @k3)) ?_;(repeat(refine Pn.mk ?_;intro N hN))))
 refine eX (.inl rfl) (vs:=[.agg [.own o 0 p.ai.length]]) (sd @Nat.zero_add) ?_
 have hb:=hI.2
 (try dsimp only at hb hn)
 refine⟨_,⟨_,rfl,gJ.frame qd ⟨o,rows,is,rfl,hg,UA,rfl⟩ fun j hj=>?_⟩,⟨hI.1,fun j hj=>?_⟩,⟨?_,fun j hj=>?_⟩⟩
 ·have U3:=hb j hj
  have i2:=bU (b:=j) (a:=⟨18000001,σ.next⟩) (by(try dsimp only);omega)
  have i3:=bU (b:=j) (a:=⟨18001000,σ.next+1⟩) (by(try dsimp only);omega)
  simp only[go_sem, ↓reduceIte,Nat.reduceEqDiff,Nat.reduceAdd,Nat.reduceSub,Nat.reduceLeDiff,reduceCtorEq,i2,i3]
 ·have:=hb j hj
  (try dsimp only);omega
 ·(try dsimp only);omega
 ·have h2:=hK.2 j (by(try dsimp only);omega)
  have h1:=dr hj
  simp only[go_sem, ↓reduceIte,Nat.reduceEqDiff,Nat.reduceAdd,Nat.reduceSub,Nat.reduceLeDiff,reduceCtorEq,h1]at h2
  simp only[go_sem, ↓reduceIte,Nat.reduceEqDiff,Nat.reduceAdd,Nat.reduceSub,Nat.reduceLeDiff,reduceCtorEq,h1,h2]
theorem CK (p:aw) (hs:It p) (σ:ar):Call Tryz.prog 61 [.agg (ab p)] σ (fun r σ'=>∃a b i1 i2,r=.agg [a,b]/\gJ (jf bR) 2 σ'.get a p.ax i1/\gJ oq 2 σ'.get b p.ai i2/\gK σ.next σ'.next (i1++i2)/\Kept σ σ'):=by
 refine eQ eK rfl fun hl=>?_
 clear hl
 (try((repeat(revert hN;revert N;apply Pn.out));refine wk @ab.eq_1 ?_;(repeat(refine Pn.mk ?_;intro N hN))))
 refine .inr (aJ _ _ _ _ _ (fun r σ1 hq=>?_) (HL p.ax hs.g _))
 obtain⟨i1,hR,hI,hK⟩:=hq
 obtain⟨g1,x1⟩:=σ1
 (try dsimp only at hR hI hK)
 have hn:=hK.1
 obtain⟨o,rows,is,rfl,hg,UA,rfl⟩:=hR
 have hb:=hI.2
 (try dsimp only at hb hn)
 refine hN _ _ ?_
 clear hN N
 have k1:=hK.2 ⟨61000000,σ.next⟩ (by(try dsimp only);omega)
 have k2:=hK.2 ⟨61000001,σ.next⟩ (by(try dsimp only);omega)
 have k3:=hK.2 ⟨61001000,σ.next+1⟩ (by(try dsimp only);omega)
 simp only[go_sem, ↓reduceIte,Nat.reduceEqDiff,Nat.reduceAdd,Nat.reduceSub,Nat.reduceLeDiff,reduceCtorEq]at k1 k2 k3
 (try((repeat(revert hN;revert N;apply Pn.out));refine wk (tw @ab.eq_1 (tw @k1 (tw @k2 @k3))) ?_;(repeat(refine Pn.mk ?_;intro N hN))))
 refine .inr (aJ _ _ _ _ _ (fun r σ2 hq=>?_) (HN p.ai hs.t hs.s _))
 obtain⟨i2,hS,hJ,hL⟩:=hq
 obtain⟨g2,x2⟩:=σ2
 (try dsimp only at hS hJ hL)
 have DZ:=hL.1
 obtain⟨o2,NC,is2,rfl,Rs,hS',rfl⟩:=hS
 have hc:=hJ.2
 (try dsimp only at hc DZ)
 refine hN _ _ ?_
 clear hN N
 have l2:=hL.2 ⟨61000001,σ.next⟩ (by(try dsimp only);omega)
 have l3:=hL.2 ⟨61001000,σ.next+1⟩ (by(try dsimp only);omega)
 simp only[go_sem, ↓reduceIte,Nat.reduceEqDiff,Nat.reduceAdd,Nat.reduceSub,Nat.reduceLeDiff,reduceCtorEq,k2,k3]at l2 l3
 (try((repeat(revert hN;revert N;apply Pn.out));refine wk (tw @ab.eq_1 (tw @l2 @l3)) ?_;(repeat(refine Pn.mk ?_;intro N hN))))
 refine eX (.inl rfl) (vs:=[.agg [.own o 0 p.ax.length,.own o2 0 p.ai.length]]) (sd @Nat.zero_add) ?_
 have fr:∀x:Id,σ.next+2<=x.bQ->(x=⟨61000001,σ.next⟩)=False/\(x=⟨61001000,σ.next+1⟩)=False:=fun x hx=>⟨(bU (a:=⟨61000001,σ.next⟩) (b:=x) (by(try dsimp only);omega)).2,(bU (a:=⟨61001000,σ.next+1⟩) (b:=x) (by(try dsimp only);omega)).2⟩
 refine⟨_,_,_,_,rfl,gJ.frame (g:=g1) Bu ⟨o,rows,is,rfl,hg,UA,rfl⟩ fun i hi=>?_,gJ.frame (g:=g2) qW ⟨o2,NC,is2,rfl,Rs,hS',rfl⟩ fun i hi=>?_,?_,⟨by(try dsimp only);omega,fun j hj=>?_⟩⟩
 ·have h1:=hb i hi
  have h2:=hL.2 i (by(try dsimp only);omega)
  have h3:=fr i (by omega)
  simp only[go_sem, ↓reduceIte,Nat.reduceEqDiff,Nat.reduceAdd,Nat.reduceSub,Nat.reduceLeDiff,reduceCtorEq,h3]at h2
  simp only[go_sem, ↓reduceIte,Nat.reduceEqDiff,Nat.reduceAdd,Nat.reduceSub,Nat.reduceLeDiff,reduceCtorEq,h2,h3]
 ·have h1:=hc i hi
  have h3:=fr i (by omega)
  simp only[go_sem, ↓reduceIte,Nat.reduceEqDiff,Nat.reduceAdd,Nat.reduceSub,Nat.reduceLeDiff,reduceCtorEq,h3]
 ·(try dsimp only at *)
  exact(hI.app hJ (by omega) (by omega) (by omega)).wide (by omega) (by omega)
 ·have h1:=dr hj
  have h2:=hL.2 j (by(try dsimp only);omega)
  have h3:=hK.2 j (by(try dsimp only);omega)
  simp only[go_sem, ↓reduceIte,Nat.reduceEqDiff,Nat.reduceAdd,Nat.reduceSub,Nat.reduceLeDiff,reduceCtorEq,h1]at h2 h3
  simp only[go_sem, ↓reduceIte,Nat.reduceEqDiff,Nat.reduceAdd,Nat.reduceSub,Nat.reduceLeDiff,reduceCtorEq,h1,h2,h3]
theorem E8 (p:az) (hs:rl p) (σ:ar):Call Tryz.prog 17 [.agg (au p)] σ (fun r σ'=>∃ids,zl σ'.get r p ids/\gK σ.next σ'.next ids/\Kept σ σ'):=by
 refine eQ eK rfl fun hl=>?_
 clear hl
 have t1:=fun σ=>CK p.aH hs.s σ
 have t2:=fun σ=>Av p.bf hs.a σ
 rw[ab]at t1
 rw[dJ]at t2
 (try((repeat(revert hN;revert N;apply Pn.out));refine wk @au.eq_1 ?_;(repeat(refine Pn.mk ?_;intro N hN))))
 refine .inr (aJ _ _ _ _ _ (fun r σ1 hq=>?_) (t1 _))
 obtain⟨a,b,i1,i2,rfl,hA,hB,hI,hK⟩:=hq
 obtain⟨g1,x1⟩:=σ1
 (try dsimp only at hA hB hI hK)
 have hn:=hK.1
 have hb:=hI.2
 (try dsimp only at hb hn)
 refine hN _ _ ?_
 clear hN N
 have k1:=hK.2 ⟨17000000,σ.next⟩ (by(try dsimp only);omega)
 have k2:=hK.2 ⟨17000001,σ.next⟩ (by(try dsimp only);omega)
 have k3:=hK.2 ⟨17001000,σ.next+1⟩ (by(try dsimp only);omega)
 simp only[go_sem, ↓reduceIte,Nat.reduceEqDiff,Nat.reduceAdd,Nat.reduceSub,Nat.reduceLeDiff,reduceCtorEq]at k1 k2 k3
 obtain⟨oa,rfl⟩:=hA.kY
 obtain⟨ob,rfl⟩:=hB.kY
 (try((repeat(revert hN;revert N;apply Pn.out));refine wk (tw @au.eq_1 (tw @k1 (tw @k2 @k3))) ?_;(repeat(refine Pn.mk ?_;intro N hN))))
 refine .inr (aJ _ _ _ _ _ (fun r σ2 hq=>?_) (t2 _))
 obtain⟨i3,hC,hJ,hL⟩:=hq
 obtain⟨g2,x2⟩:=σ2
 (try dsimp only at hC hJ hL)
 have DZ:=hL.1
 have hc:=hJ.2
 (try dsimp only at hc DZ)
 obtain⟨c,rfl,hC⟩:=hC
 obtain⟨oc,rfl⟩:=hC.kY
 refine hN _ _ ?_
 clear hN N
 have l1:=hL.2 ⟨17000000,σ.next⟩ (by(try dsimp only);omega)
 have l2:=hL.2 ⟨17000001,σ.next⟩ (by(try dsimp only);omega)
 have l3:=hL.2 ⟨17001000,σ.next+1⟩ (by(try dsimp only);omega)
 simp only[go_sem, ↓reduceIte,Nat.reduceEqDiff,Nat.reduceAdd,Nat.reduceSub,Nat.reduceLeDiff,reduceCtorEq,k1,k2,k3]at l1 l2 l3
 (try((repeat(revert hN;revert N;apply Pn.out));refine wk (tw @au.eq_1 (tw @l1 (tw @l2 @l3))) ?_;(repeat(refine Pn.mk ?_;intro N hN))))
 refine eX (.inl rfl) (vs:=[.agg [.own oa 0 p.aH.ax.length,.own ob 0 p.aH.ai.length,.own oc 0 p.bf.ai.length,.int .i64 p.ay]]) (sd @Nat.zero_add) ?_
 have fr:∀x:Id,σ.next+2<=x.bQ->(x=⟨17000001,σ.next⟩)=False/\(x=⟨17001000,σ.next+1⟩)=False:=fun x hx=>⟨(bU (a:=⟨17000001,σ.next⟩) (b:=x) (by(try dsimp only);omega)).2,(bU (a:=⟨17001000,σ.next+1⟩) (b:=x) (by(try dsimp only);omega)).2⟩
 have fr2:∀i∈i1++i2,g2 i=g1 i:=fun i hi=>by
  have h1:=hb i hi
  have h2:=hL.2 i (by(try dsimp only);omega)
  have h3:=fr i (by omega)
  simp only[go_sem, ↓reduceIte,Nat.reduceEqDiff,Nat.reduceAdd,Nat.reduceSub,Nat.reduceLeDiff,reduceCtorEq,h3]at h2
  exact h2
 refine⟨i1++(i2++i3),⟨_,_,_,i1,i2,i3,rfl,hA.frame Bu fun i hi=>?_,hB.frame qW fun i hi=>?_,hC.frame qd fun i hi=>?_,rfl⟩,?_,⟨by(try dsimp only);omega,fun j hj=>?_⟩⟩
 ·have h1:=hb i (by simp[hi])
  have h2:=fr2 i (by simp[hi])
  have h3:=fr i (by omega)
  simp only[go_sem, ↓reduceIte,Nat.reduceEqDiff,Nat.reduceAdd,Nat.reduceSub,Nat.reduceLeDiff,reduceCtorEq,h2,h3]
 ·have h1:=hb i (by simp[hi])
  have h2:=fr2 i (by simp[hi])
  have h3:=fr i (by omega)
  simp only[go_sem, ↓reduceIte,Nat.reduceEqDiff,Nat.reduceAdd,Nat.reduceSub,Nat.reduceLeDiff,reduceCtorEq,h2,h3]
 ·have h1:=hc i hi
  have h3:=fr i (by omega)
  simp only[go_sem, ↓reduceIte,Nat.reduceEqDiff,Nat.reduceAdd,Nat.reduceSub,Nat.reduceLeDiff,reduceCtorEq,h3]
 ·(try dsimp only at *)
  rw[<-List.append_assoc]
  exact(hI.app hJ (by omega) (by omega) (by omega)).wide (by omega) (by omega)
 ·have h1:=dr hj
  have h2:=hL.2 j (by(try dsimp only);omega)
  have h3:=hK.2 j (by(try dsimp only);omega)
  simp only[go_sem, ↓reduceIte,Nat.reduceEqDiff,Nat.reduceAdd,Nat.reduceSub,Nat.reduceLeDiff,reduceCtorEq,h1]at h2 h3
  simp only[go_sem, ↓reduceIte,Nat.reduceEqDiff,Nat.reduceAdd,Nat.reduceSub,Nat.reduceLeDiff,reduceCtorEq,h1,h2,h3]
end Go.Proofs.YtgoelphibofcmaaGreat.V

namespace Go.Proofs.YtgoelphibofcmaaGreat
open Go.RowKit
def k6 (n:Int):Bool:=(decide (97<=n)&&decide (n<=122))||(decide (65<=n)&&decide (n<=90))
def lv (n:Int):Bool:=decide (48<=n)&&decide (n<=57)
def uu (i:Nat) (n:Int):Prop:=k6 n=true∨(0<i/\(lv n=true∨n=95))
def vG (s:ByteArray):Prop:=(1<=s.size/\s.size<=12)/\∀i (h:i<s.size),uu i s[i].toNat
open Classical in
noncomputable def jP (s:ByteArray):Bool:=decide (vG s)
theorem Eu {s:ByteArray} (h:vG s):true=jP s:=by simp[jP,h]
theorem eB {s:ByteArray} (h:¬vG s):false=jP s:=by simp[jP,h]
theorem Cl {s:ByteArray} {b:Bool} (hb:b=true) (h:vG s):b=jP s:=by simp[jP,h,hb]
theorem r5 {s:ByteArray} {b:Bool} (hb:b=false) (h:¬vG s):b=jP s:=by simp[jP,h,hb]
theorem wQ (w:World) (n:Int):Calls Tryz.prog 212 #[.int .u8 n] w fun e w'=>e=.returned (.bool (k6 n))/\w=w':=by
 go_enter Tryz.func212,Tryz.ntmps212
 go_wp2_with fail
 all_goals
  go_ret
  exact⟨iL (by unfold k6;simp[*];try omega),rfl⟩
theorem Gz (w:World) (n:Int):Calls Tryz.prog 213 #[.int .u8 n] w fun e w'=>e=.returned (.bool (lv n))/\w=w':=by
 go_enter Tryz.func213,Tryz.ntmps213
 go_wp2_with fail
 all_goals
  go_ret
  exact⟨iL (by unfold lv;simp[*];try omega),rfl⟩
theorem Cz (w:World) (s:ByteArray) (hs:s.size<=9223372036854775807):Calls Tryz.prog 189 #[.string s] w fun e w'=>e=.returned (.bool (jP s))/\Below w.heap.size w w':=by
 by_cases h1:1<=s.size
 case neg=>
  go_enter Tryz.func189,Tryz.ntmps189
  go_wp2_with fail
  go_ret
  exact⟨iL (eB fun h=>h1 h.1.1),Below.refl _ _⟩
 by_cases h2:s.size<=12
 case neg=>
  go_enter Tryz.func189,Tryz.ntmps189
  go_wp2_with fail
  go_ret
  exact⟨iL (eB fun h=>h2 h.1.2),Below.refl _ _⟩
 go_enter Tryz.func189,Tryz.ntmps189
 go_wp2_with fail
 refine(wQ _ _).mono ?_
 rintro e w' ⟨rfl,rfl⟩
 cases h3:k6 s[0].toNat
 ·go_wp2_with fail
  go_ret
  exact⟨iL (eB fun h=>by have:=h.2 0 (by omega);simp only[uu]at this;rw[h3]at this;simp at this),Below.refl _ _⟩
 ·replace h3:=Lib.hid h3
  go_wp2_with fail
  go_loop [3] (fun i=>∃k:Nat,1<=k/\k<=s.size/\i=.int .i64 k/\Hid (∀j (h:j<s.size),j<k->uu j s[j].toNat)) (fun i=>s.size-(intOf i).toNat)
  case atStart=>exact⟨1,by omega,by omega,rfl,Lib.hid fun j h hj=>by
   obtain rfl:j=0:=by omega
   exact .inl h3.out⟩
  case round=>
   obtain⟨k,xC,hk,rfl,dC⟩:=hrel
   by_cases dZ:k<s.size
   ·go_wp2_with fail
    refine(wQ _ _).mono ?_
    rintro e w' ⟨rfl,rfl⟩
    have kg:uu k s[k].toNat∨¬uu k s[k].toNat:=Classical.em _
    cases hl:k6 s[k].toNat
    ·go_wp2_with fail
     refine(Gz _ _).mono ?_
     rintro e w' ⟨rfl,rfl⟩
     cases hd:lv s[k].toNat
     ·by_cases uS:(s[k].toNat:Int)=95
      ·have Uf:((s[k].toNat:Int) !=95)=false:=by simp;omega
       replace uS:=Lib.hid uS
       replace hl:=Lib.hid hl
       replace hd:=Lib.hid hd
       go_wp2_with fail
       go_round
       case rel=>exact⟨k+1,by omega,by omega,by go_num,Lib.hid fun j h hj=>by
        by_cases yD:j=k
        ·subst yD;exact .inr ⟨by omega,.inr uS.out⟩
        ·exact dC.out j h (by omega)⟩
       case measure=>simp[intOf];omega
      ·have Uf:((s[k].toNat:Int) !=95)=true:=by simp;omega
       replace uS:=Lib.hid uS
       replace hl:=Lib.hid hl
       replace hd:=Lib.hid hd
       go_wp2_with fail
       go_ret
       exact⟨iL (eB fun h=>by
        have:=h.2 k dZ;simp only[uu,hl.out,hd.out]at this;exact uS.out (by simp at this;exact this.2)),Below.refl _ _⟩
     ·replace hl:=Lib.hid hl
      replace hd:=Lib.hid hd
      go_wp2_with fail
      go_round
      case rel=>exact⟨k+1,by omega,by omega,by go_num,Lib.hid fun j h hj=>by
       by_cases yD:j=k
       ·subst yD;exact .inr ⟨by omega,.inl hd.out⟩
       ·exact dC.out j h (by omega)⟩
      case measure=>simp[intOf];omega
    ·replace hl:=Lib.hid hl
     go_wp2_with fail
     go_round
     case rel=>exact⟨k+1,by omega,by omega,by go_num,Lib.hid fun j h hj=>by
      by_cases yD:j=k
      ·subst yD;exact .inl hl.out
      ·exact dC.out j h (by omega)⟩
     case measure=>simp[intOf];omega
   ·go_wp2_with fail
    go_ret
    exact⟨iL (Eu ⟨⟨h1,h2⟩,fun i h=>dC.out i h (by omega)⟩),Below.refl _ _⟩
theorem BS (w:World) (s:ByteArray) (hs:s.size<=9223372036854775807):Calls Tryz.prog 198 #[.string s] w fun e w'=>e=.returned (.bool (jP s))/\w=w':=by
 go_enter Tryz.func198,Tryz.ntmps198
 go_wp2_with fail
 go_loop [8] (fun i=>∃k:Nat,k<=s.size/\i=.int .i64 k/\Hid (∀j (h:j<s.size),j<k->uu j s[j].toNat)) (fun i=>s.size-(intOf i).toNat)
 case atStart=>exact⟨0,by omega,rfl,Lib.hid fun j h hj=>by omega⟩
 case round=>
  obtain⟨k,hk,rfl,dC⟩:=hrel
  by_cases dZ:k<s.size
  ·have hc:(s[k].toNat:Int)<48∨(48<=(s[k].toNat:Int)/\(s[k].toNat:Int)<=57)∨(58<=(s[k].toNat:Int)/\(s[k].toNat:Int)<=64)∨(65<=(s[k].toNat:Int)/\(s[k].toNat:Int)<=90)∨(91<=(s[k].toNat:Int)/\(s[k].toNat:Int)<=94)∨(95<=(s[k].toNat:Int)/\(s[k].toNat:Int)<=95)∨(96<=(s[k].toNat:Int)/\(s[k].toNat:Int)<=96)∨(97<=(s[k].toNat:Int)/\(s[k].toNat:Int)<=122)∨123<=(s[k].toNat:Int):=by omega
   by_cases xz:k=0
   ·subst xz
    rcases hc with h|⟨h,h'⟩|⟨h,h'⟩|⟨h,h'⟩|⟨h,h'⟩|⟨h,h'⟩|⟨h,h'⟩|⟨h,h'⟩|h
    ·have uS:((s[0].toNat:Int) !=95)=true:=by simp;try omega
     go_wp2_with fail
     all_goals first
      |(go_ret;exact⟨iL (eB fun hh=>by have:=hh.2 0 dZ;simp[uu,k6,lv]at this;omega),rfl⟩)
      |(exfalso;simp_all;done)
      |(exfalso;simp_all;omega)
    ·have uS:((s[0].toNat:Int) !=95)=true:=by simp;try omega
     go_wp2_with fail
     all_goals first
      |(go_ret;exact⟨iL (eB fun hh=>by have:=hh.2 0 dZ;simp[uu,k6,lv]at this;omega),rfl⟩)
      |(exfalso;simp_all;done)
      |(exfalso;simp_all;omega)
    ·have uS:((s[0].toNat:Int) !=95)=true:=by simp;try omega
     go_wp2_with fail
     all_goals first
      |(go_ret;exact⟨iL (eB fun hh=>by have:=hh.2 0 dZ;simp[uu,k6,lv]at this;omega),rfl⟩)
      |(exfalso;simp_all;done)
      |(exfalso;simp_all;omega)
    ·have uS:((s[0].toNat:Int) !=95)=true:=by simp;try omega
     go_wp2_with fail
     go_round
     case rel=>exact⟨0+1,by omega,by go_num,Lib.hid fun j hj yD=>by
      by_cases Jl:j=0
      ·subst Jl;simp[uu,k6,lv];omega
      ·exact dC.out j hj (by omega)⟩
     case measure=>simp[intOf];try omega
    ·have uS:((s[0].toNat:Int) !=95)=true:=by simp;try omega
     go_wp2_with fail
     all_goals first
      |(go_ret;exact⟨iL (eB fun hh=>by have:=hh.2 0 dZ;simp[uu,k6,lv]at this;omega),rfl⟩)
      |(exfalso;simp_all;done)
      |(exfalso;simp_all;omega)
    ·have uS:((s[0].toNat:Int) !=95)=false:=by simp;try omega
     go_wp2_with fail
     all_goals first
      |(go_ret;exact⟨iL (eB fun hh=>by have:=hh.2 0 dZ;simp[uu,k6,lv]at this;omega),rfl⟩)
      |(exfalso;simp_all;done)
      |(exfalso;simp_all;omega)
    ·have uS:((s[0].toNat:Int) !=95)=true:=by simp;try omega
     go_wp2_with fail
     all_goals first
      |(go_ret;exact⟨iL (eB fun hh=>by have:=hh.2 0 dZ;simp[uu,k6,lv]at this;omega),rfl⟩)
      |(exfalso;simp_all;done)
      |(exfalso;simp_all;omega)
    ·have uS:((s[0].toNat:Int) !=95)=true:=by simp;try omega
     go_wp2_with fail
     go_round
     case rel=>exact⟨0+1,by omega,by go_num,Lib.hid fun j hj yD=>by
      by_cases Jl:j=0
      ·subst Jl;simp[uu,k6,lv];omega
      ·exact dC.out j hj (by omega)⟩
     case measure=>simp[intOf];try omega
    ·have uS:((s[0].toNat:Int) !=95)=true:=by simp;try omega
     go_wp2_with fail
     all_goals first
      |(go_ret;exact⟨iL (eB fun hh=>by have:=hh.2 0 dZ;simp[uu,k6,lv]at this;omega),rfl⟩)
      |(exfalso;simp_all;done)
      |(exfalso;simp_all;omega)
   ·have hz:((k:Int)==0)=false:=by simpa using xz
    have xC:1<=k:=by omega
    clear xz
    rcases hc with h|⟨h,h'⟩|⟨h,h'⟩|⟨h,h'⟩|⟨h,h'⟩|⟨h,h'⟩|⟨h,h'⟩|⟨h,h'⟩|h
    ·have uS:((s[k].toNat:Int) !=95)=true:=by simp;try omega
     go_wp2_with fail
     all_goals first
      |(go_ret;exact⟨iL (eB fun hh=>by have:=hh.2 k dZ;simp[uu,k6,lv]at this;omega),rfl⟩)
      |(exfalso;simp_all;done)
      |(exfalso;simp_all;omega)
    ·have uS:((s[k].toNat:Int) !=95)=true:=by simp;try omega
     go_wp2_with fail
     go_round
     case rel=>exact⟨k+1,by omega,by go_num,Lib.hid fun j hj yD=>by
      by_cases Jl:j=k
      ·subst Jl;simp[uu,k6,lv];omega
      ·exact dC.out j hj (by omega)⟩
     case measure=>simp[intOf];try omega
    ·have uS:((s[k].toNat:Int) !=95)=true:=by simp;try omega
     go_wp2_with fail
     all_goals first
      |(go_ret;exact⟨iL (eB fun hh=>by have:=hh.2 k dZ;simp[uu,k6,lv]at this;omega),rfl⟩)
      |(exfalso;simp_all;done)
      |(exfalso;simp_all;omega)
    ·have uS:((s[k].toNat:Int) !=95)=true:=by simp;try omega
     go_wp2_with fail
     go_round
     case rel=>exact⟨k+1,by omega,by go_num,Lib.hid fun j hj yD=>by
      by_cases Jl:j=k
      ·subst Jl;simp[uu,k6,lv];omega
      ·exact dC.out j hj (by omega)⟩
     case measure=>simp[intOf];try omega
    ·have uS:((s[k].toNat:Int) !=95)=true:=by simp;try omega
     go_wp2_with fail
     all_goals first
      |(go_ret;exact⟨iL (eB fun hh=>by have:=hh.2 k dZ;simp[uu,k6,lv]at this;omega),rfl⟩)
      |(exfalso;simp_all;done)
      |(exfalso;simp_all;omega)
    ·have uS:((s[k].toNat:Int) !=95)=false:=by simp;try omega
     go_wp2_with fail
     go_round
     case rel=>exact⟨k+1,by omega,by go_num,Lib.hid fun j hj yD=>by
      by_cases Jl:j=k
      ·subst Jl;simp[uu,k6,lv];omega
      ·exact dC.out j hj (by omega)⟩
     case measure=>simp[intOf];try omega
    ·have uS:((s[k].toNat:Int) !=95)=true:=by simp;try omega
     go_wp2_with fail
     all_goals first
      |(go_ret;exact⟨iL (eB fun hh=>by have:=hh.2 k dZ;simp[uu,k6,lv]at this;omega),rfl⟩)
      |(exfalso;simp_all;done)
      |(exfalso;simp_all;omega)
    ·have uS:((s[k].toNat:Int) !=95)=true:=by simp;try omega
     go_wp2_with fail
     go_round
     case rel=>exact⟨k+1,by omega,by go_num,Lib.hid fun j hj yD=>by
      by_cases Jl:j=k
      ·subst Jl;simp[uu,k6,lv];omega
      ·exact dC.out j hj (by omega)⟩
     case measure=>simp[intOf];try omega
    ·have uS:((s[k].toNat:Int) !=95)=true:=by simp;try omega
     go_wp2_with fail
     all_goals first
      |(go_ret;exact⟨iL (eB fun hh=>by have:=hh.2 k dZ;simp[uu,k6,lv]at this;omega),rfl⟩)
      |(exfalso;simp_all;done)
      |(exfalso;simp_all;omega)
  ·by_cases h1:1<=s.size
   ·by_cases h2:s.size<=12
    ·go_wp2_with fail
     go_ret
     exact⟨iL (Cl (by simp<;>omega) ⟨⟨h1,h2⟩,fun i h=>dC.out i h (by omega)⟩),rfl⟩
    ·go_wp2_with fail
     go_ret
     exact⟨iL (r5 (by simp<;>omega) fun h=>h2 h.1.2),rfl⟩
   ·go_wp2_with fail
    go_ret
    exact⟨iL (r5 (by simp<;>omega) fun h=>h1 h.1.1),rfl⟩
end Go.Proofs.YtgoelphibofcmaaGreat

namespace Go.Proofs.YtgoelphibofcmaaGreat.V
open Go.RowKit
theorem mixed:Tryz.prog.follows .mixedOrders=true:=by kernel_rfl
variable {P:Program} {w:World} {D:Nat->Prop} {ι:Names}
theorem lV {f:Nat} {args:List AV} {r:AV} {vs0:Array Value} {u0:Value} (nG:∀(w:World) (D:Nat->Prop) (ι:Names) vs,fy P w D ι args vs->vs=vs0) (hr:∀(w:World) (D:Nat->Prop) (ι:Names),cL P w D ι r u0) (CX:∀g,gG g 6 r=some r)
  (h:∀w,Calls P f vs0 w fun e w'=>e=.returned u0/\Below w.heap.size w w'):aq P f args r:=by
 intro n
 refine gU fun hs D ι w vs S U A=>?_
 have:=nG w D ι vs A
 subst this
 refine(h w).mono ?_
 rintro e w' ⟨rfl,hb⟩
 exact⟨r,_,n,D,ι,u0,rfl,⟨r,CX _,rfl⟩,Step.stay S hb.block hb.size hb.os hb.tape hb.output (fun _ h=>h) (fun _ h=>.inl h) (fun _ _ h=>h),
  S.stay hb.block hb.size (fun _ h=>h) (fun b hd=>Nat.lt_of_lt_of_le (S.dead b hd) hb.size) (fun _ h=>.inl h) (fun _ _ h=>h),U,Nat.le_refl _,hr _ _ _⟩
theorem Cw {s:ByteArray} {vs:Array Value} (h:fy P w D ι [.str s] vs):vs= #[.string s]:=by
 obtain⟨h1,h2⟩:=h
 obtain⟨u,hu,hr⟩:=h2 0 _ rfl
 rw[fI hr]at hu
 obtain⟨l⟩:=vs
 cases l with
 |nil=>simp at h1
 |cons a l=>cases l with
  |nil=>simp at hu;subst hu;rfl
  |cons b l=>simp at h1
theorem F4 (s:ByteArray) (hs:s.size<=9223372036854775807):aq Tryz.prog 189 [.str s] (.bool (jP s)):=
 lV (fun _ _ _ _=>Cw) (fun _ _ _=>.eT _ _ (.bool _)) (fun g=>fR g 5 _) fun w=>Cz w s hs
theorem FP (s:ByteArray) (hs:s.size<=9223372036854775807):aq Tryz.prog 198 [.str s] (.bool (jP s)):=
 lV (fun _ _ _ _=>Cw) (fun _ _ _=>.eT _ _ (.bool _)) (fun g=>fR g 5 _) fun w=>(BS w s hs).mono (by rintro e w' ⟨rfl,rfl⟩;exact⟨rfl,Below.refl _ _⟩)
end Go.Proofs.YtgoelphibofcmaaGreat.V

namespace Go.Proofs.YtgoelphibofcmaaGreat
open Go.RowKit
def uw (n:Nat):List UInt8:=if h:n=0 then[]else uw (n / 10)++[UInt8.ofNat (48+n % 10)]
termination_by n
decreasing_by omega
def oP (k:Int):ByteArray:=if k<=0 then⟨#[109,48]⟩else⟨(109::uw k.toNat).toArray⟩
theorem GA:uw 0=[]:=by unfold uw;simp
theorem IM {n:Nat} (h:n≠0):uw n=uw (n / 10)++[UInt8.ofNat (48+n % 10)]:=by
 conv=>lhs;unfold uw
 rw[dif_neg h]
theorem yp (c:UInt8) (l:ByteArray):((⟨#[c]⟩++l:ByteArray)).data.toList=c::l.data.toList:=by
 simp[ByteArray.data_append]
theorem Bj:∀(m n:Nat),n<10 ^ m->(uw n).length<=m
 |0,n,h=>by
  have:n=0:=by simpa using h
  subst this;simp[uw]
 |m+1,n,h=>by
  unfold uw
  split
  ·simp
  ·have:=Bj m (n / 10) (by rw[Nat.pow_succ]at h;omega)
   simp;omega
theorem zY (w:World) (k:Int) (h0:0<=k) (h1:k<=4611686018427387904):
  Calls Tryz.prog 179 #[.int .i64 k] w fun e w'=>e=.returned (.string (oP k))/\Below w.heap.size w w':=by
 by_cases hk:k<=0
 ·go_enter Tryz.func179,Tryz.ntmps179
  go_wp2_with fail
  go_ret
  exact⟨by simp[oP,hk],Below.refl _ _⟩
 ·go_enter Tryz.func179,Tryz.ntmps179
  go_wp2_with fail
  go_loopw [0,3] (fun a s wr=>∃(j:Int) (l:ByteArray),a=.int .i64 j/\s=.string l/\0<=j/\j<=4611686018427387904/\Hid (uw j.toNat++l.data.toList=uw k.toNat)/\Below w.heap.size w wr) (fun a _ _=>(intOf a).toNat)
  case atStart=>exact⟨k,⟨#[]⟩,rfl,rfl,h0,h1,Lib.hid (by simp),Below.refl _ _⟩
  case round=>
   obtain⟨j,l,rfl,rfl,hj0,hj1,hd,hb⟩:=hrel
   have gi:l.size<=19:=by
    have h1:=congrArg List.length hd.out
    have h2:=Bj 19 k.toNat (by omega)
    rw[List.length_append]at h1
    have:l.data.toList.length=l.size:=by rw[Array.length_toList];rfl
    omega
   by_cases hj:0<j
   ·have Qp:∀v:Int,(convert 241 9 (.slice (some ⟨wr.heap.size,0,none⟩) 1 1)).run Tryz.prog (wr.alloc (.cells #[.int .u8 v] 5))=.ok (.string ⟨#[UInt8.ofNat v.toNat]⟩) (wr.alloc (.cells #[.int .u8 v] 5)):=by
     intro v
     rw[run_convert_bytes_string _ _ _ 5 _ _ _ Tryz.underlying241 Tryz.underlying5 Tryz.underlying9,run_bytesToString _ _ _ _ [v] (by simp[loadCells,loadCellsFrom,go_sem])]
     rfl
    have hr:=gi
    go_wp2_with fail
    go_roundw
    case rel=>
     refine⟨_,_,rfl,rfl,by omega,by omega,Lib.hid ?_,hb.alloc hb.size _⟩
     rw[<-hd.out,yp,IM (show j.toNat≠0 by omega),show(j / 10).toNat=j.toNat / 10 by omega,show(48+j % 10).toNat=48+j.toNat % 10 by omega]
     simp
    case measure=>simp[intOf];omega
   ·go_wp2_with fail
    go_ret
    refine⟨?_,hb⟩
    have h1:=hd.out
    rw[show j.toNat=0 by omega,GA,List.nil_append]at h1
    have h2:(⟨#[109]⟩++l:ByteArray)=oP k:=by
     rw[oP,if_neg (by omega)]
     refine ByteArray.ext (Array.ext' ?_)
     rw[yp,h1]
    rw[h2];rfl
end Go.Proofs.YtgoelphibofcmaaGreat

namespace Go.Proofs.YtgoelphibofcmaaGreat.V
open Go.RowKit
attribute [local irreducible] dO wpOps gy Call
attribute [local go_sem] aT fK eS ga fZ dj upd cF K.av cP AV.cells AV.cell rowOf rowsOf part ld rowAt bL cD dG ef ik bV de ew fW fe dw ek dc db dU dV cj bl cU b4 cW cV ei eo ej cR cm dd eh bW aV cZ cI ij bx cK ck bd du bj dI AV.undef bH bS dW eb dQ dP cJ ev eE cH er ep cY da List.getD_cons_zero List.getD_cons_succ List.getD_nil List.all_cons List.all_nil Bool.and_true Bool.true_and Bool.and_self Bool.not_true Bool.not_false Option.map_some Option.map_none Option.bind_some Option.bind_none List.length_cons List.length_nil List.take_succ_cons List.take_zero List.take_nil List.drop_succ_cons List.drop_zero List.drop_nil List.head?_cons List.map_cons List.map_nil List.getElem?_cons_zero List.getElem?_cons_succ List.cons_append List.nil_append List.append_nil List.length_map List.set_cons_zero List.set_cons_succ Nat.reduceMul eq_self Int.toNat_natCast Int.natCast_nonneg and_self true_and and_true decide_true decide_false Bool.false_eq_true Nat.zero_add Nat.add_zero List.contains_cons List.contains_nil Bool.or_false Bool.false_or beq_self_eq_true Nat.reduceBEq ne_eq not_true_eq_false not_false_eq_true Id.mk.injEq false_and and_false Nat.reduceLT Int.reduceLE Int.reduceLT Int.reduceToNat Int.reduceNeg Int.reduceAdd Nat.le_refl List.length_append beq_true beq_false Bool.not_eq_eq_eq_not or_false false_or dR ae aj aI bq bG cC aY bh aW bp cQ bJ
def nK (σ:ar) (ids:List Id) (g:Rows) (n:Nat):Prop:=σ.next<=n/\∀x:Id,x.bQ<σ.next->x∉ids->g x=σ.get x
theorem nK.trans {a b:ar} {i j:List Id} {g:Rows} {n:Nat} (h:nK a i b.get b.next) (k:nK b j g n):nK a (i++j) g n:=
 ⟨Nat.le_trans h.1 k.1,fun x hx hi=>(k.2 x (Nat.lt_of_lt_of_le hx h.1) fun hc=>hi (by simp[hc])).trans (h.2 x hx fun hc=>hi (by simp[hc]))⟩
theorem nK.sub {a:ar} {i j:List Id} {g:Rows} {n:Nat} (h:nK a i g n) (hs:∀x∈i,x∈j):nK a j g n:=⟨h.1,fun x hx hj=>h.2 x hx fun hi=>hj (hs x hi)⟩
theorem sk (l:List (List AV)) (i:Nat) (a b:List AV):(l.set i a).set i b=l.set i b:=List.set_set ..
theorem Bl {l:List Int} {j:Nat} (h:j<l.length):(l.map aE)[j]? =some [.int .i64 l[j]]:=by simp[h,aE]
theorem MB {P:Program} {w:World} {D:Nat->Prop} {ι:Names} {k:Int} {vs:Array Value} (h:fy P w D ι [.int .i64 k] vs):vs= #[.int .i64 k]:=by
 obtain⟨h1,h2⟩:=h
 obtain⟨u,hu,hr⟩:=h2 0 _ rfl
 rw[dz hr]at hu
 obtain⟨l⟩:=vs
 cases l with
 |nil=>simp at h1
 |cons a l=>cases l with
  |nil=>simp at hu;subst hu;rfl
  |cons b l=>simp at h1
theorem wR (k:Int) (h0:0<=k) (h1:k<=4611686018427387904):aq Tryz.prog 179 [.int .i64 k] (.str (oP k)):=
 lV (vs0:= #[.int .i64 k]) (u0:=.string (oP k)) (fun _ _ _ _=>MB) (fun w D ι=>.eT _ _ (.str _)) (fun g=>LD g 5 _) fun w=>zY w k h0 h1
theorem Er (i:Id) (l:List Int) (k:Int) (h0:0<=k) (h1:k+l.length<=4611686018427387904) (σ:ar) (hv:i.bQ<σ.next) (hg:σ.get i=some ⟨true,1,l.map aE⟩):
  Call Tryz.prog 33 [.own i 0 l.length,.int .i64 k] σ (fun r σ'=>r=.int .i64 (k+l.length)/\nK σ [i] σ'.get σ'.next):=by
 refine eQ eK rfl fun hl=>?_
 clear hl
 obtain⟨nn,hn⟩:∃nn,l.length=nn:=⟨_,rfl⟩
 rw[hn]at h1 ⊢
 (try((repeat(revert hN;revert N;apply Pn.out));refine wk @Nat.zero_add ?_;(repeat(refine Pn.mk ?_;intro N hN))))
 refine aZ (fun n env st=>∃j:Nat,n=(nn)-j/\j<=(nn)/\env 5=.int .i64 (j:Int)/\env 1=.int .i64 (k+j)/\(nK σ [i] st.get st.next/\∃l':List Int,l'.length=nn/\st.get i=some ⟨true,1,l'.map aE⟩)) (nn) ⟨0,by omega,by omega,sl (tw @Int.add_zero @Int.natCast_zero),sl (tw @Int.add_zero @Int.natCast_zero),by(try dsimp only);exact⟨⟨by(try dsimp only);omega,fun x _ _=>rfl⟩,l,hn,hg⟩⟩ ?_
 rintro n_a env_a st_a ⟨j,rfl,ale,a5,a1,j4⟩ dx
 have a0:=dx 0 (by kernel_rfl)
 simp only[go_sem, ↓reduceIte,Nat.reduceEqDiff,Nat.reduceAdd,Nat.reduceSub,Nat.reduceLeDiff,reduceCtorEq,Int.add_zero,Int.natCast_zero]at a0
 clear dx
 obtain⟨⟨an,aF⟩,l',al,ag⟩:=j4
 by_cases hj:(j:Int)<(nn:Int)
 ·have cz:∀{e:Env} {gg:Rows} {nx:Nat},(e 5=.int .i64 (IntKind.i64.wrap ((j:Int)+1)))->(e 1=.int .i64 (k+(j+1)))->(nK σ [i] gg nx/\∃l':List Int,l'.length=nn/\gg i=some ⟨true,1,l'.map aE⟩)->∃m0,m0<(nn)-j/\∃j:Nat,m0=(nn)-j/\j<=(nn)/\e 5=.int .i64 (j:Int)/\e 1=.int .i64 (k+j)/\(nK σ [i] gg nx/\∃l':List Int,l'.length=nn/\gg i=some ⟨true,1,l'.map aE⟩):=fun x1 x2 x3=>⟨_,by omega,j+1,rfl,by omega,(by rw[x1,aA (by omega)]),x2,x3⟩
  have iH:j<l'.length:=by omega
  have fq:=Bl iH
  have eH:(l'.map aE).set j [.int .i64 (k+j)]=(l'.set j (k+j)).map aE:=by rw[List.map_set];rfl
  have hw:IntKind.i64.wrap (k+(j:Int)+1)=k+((j:Int)+1):=by rw[bI (by omega)];omega
  (try((repeat(revert hN;revert N;apply Pn.out));refine wk (tw @a5 (tw @a1 (tw @a0 (tw @hj (tw @ag (tw @fq (tw @eH @hw))))))) ?_;(repeat(refine Pn.mk ?_;intro N hN))))
  refine cz ?_ ?_ (by(try dsimp only);exact⟨⟨by(try dsimp only);omega,fun x hx hi=>by
   have h2:=aF x hx hi
   have h3:(x=i)=False:=eq_false fun e=>hi (by simp[e])
   simp only[go_sem, ↓reduceIte,Nat.reduceEqDiff,Nat.reduceAdd,Nat.reduceSub,Nat.reduceLeDiff,reduceCtorEq,h2,h3]⟩,l'.set j (k+j),by simp[al],sl @Nat.zero_add⟩)
  all_goals simp only[go_sem, ↓reduceIte,Nat.reduceEqDiff,Nat.reduceAdd,Nat.reduceSub,Nat.reduceLeDiff,reduceCtorEq,a5,a1,a0,hw]
 ·have iH:j=nn:=by omega
  subst iH
  (try((repeat(revert hN;revert N;apply Pn.out));refine wk (tw @a5 (tw @a1 (tw @a0 @hj))) ?_;(repeat(refine Pn.mk ?_;intro N hN))))
  exact eX (.inl rfl) (vs:=[.int .i64 (k+j)]) (sd (tw @a5 (tw @a1 @a0))) ⟨rfl,⟨by(try dsimp only);omega,fun x hx hi=>aF x hx hi⟩⟩
def Ia (k:Int) (n:Nat):List ad:=(List.range n).map fun j:Nat=>⟨⟨k+3*(j:Int),k+3*(j:Int)+1⟩,k+3*(j:Int)+2⟩
theorem rZ (k:Int) (n:Nat):(Ia k n).length=n:=by simp[Ia]
theorem JU (k:Int) (n:Nat):Ia k (n+1)=Ia k n++[⟨⟨k+3*(n:Int),k+3*(n:Int)+1⟩,k+3*(n:Int)+2⟩]:=by simp[Ia,List.range_succ]
def jK (k:Int) (l:List ad) (j:Nat):List ad:=Ia k j++l.drop j
theorem Cj {k:Int} {l:List ad} {j:Nat} (h:j<=l.length):(jK k l j).length=l.length:=by simp[jK,rZ];omega
theorem FY {k:Int} {l:List ad} {j:Nat} (h:j<l.length):((jK k l j).map aa)[j]? =some [.int .i64 l[j].aQ.fb,.int .i64 l[j].aQ.eV,.int .i64 l[j].aO]:=by
 rw[List.getElem?_map,jK,List.getElem?_append_right (by rw[rZ];omega),rZ,Nat.sub_self,List.getElem?_drop,Nat.add_zero,List.getElem?_eq_getElem h];rfl
theorem Ck {k:Int} {l:List ad} {j:Nat} (h:j<l.length):((jK k l j).map aa).set j [.int .i64 (k+3*(j:Int)),.int .i64 (k+3*(j:Int)+1),.int .i64 (k+3*(j:Int)+2)]=(jK k l (j+1)).map aa:=by
 have:(jK k l j).set j ⟨⟨k+3*(j:Int),k+3*(j:Int)+1⟩,k+3*(j:Int)+2⟩=jK k l (j+1):=by
  rw[jK,List.set_append_right _ _ (by rw[rZ];omega),rZ,Nat.sub_self,List.drop_eq_getElem_cons h,List.set_cons_zero,jK,JU,List.append_assoc];rfl
 rw[<-this,List.map_set];rfl
theorem zX (i:Id) (l:List ad) (k:Int) (h0:0<=k) (h1:k+3*l.length<=4611686018427387904) (σ:ar) (hv:i.bQ<σ.next) (hg:σ.get i=some ⟨true,3,l.map aa⟩):
  Call Tryz.prog 77 [.own i 0 l.length,.int .i64 k] σ (fun r σ'=>r=.int .i64 (k+3*l.length)/\nK σ [i] σ'.get σ'.next/\σ'.get i=some ⟨true,3,(Ia k l.length).map aa⟩):=by
 refine eQ eK rfl fun hl=>?_
 clear hl
 have hz:jK k l 0=l:=by simp[jK,Ia]
 (try((repeat(revert hN;revert N;apply Pn.out));refine wk @Nat.zero_add ?_;(repeat(refine Pn.mk ?_;intro N hN))))
 refine aZ (fun n env st=>∃j:Nat,n=(l.length)-j/\j<=(l.length)/\env 5=.int .i64 (j:Int)/\env 1=.int .i64 (k+3*j)/\st.get i=some ⟨true,3,(jK k l j).map aa⟩/\(nK σ [i] st.get st.next)) (l.length) ⟨0,by omega,by omega,sl (tw @Int.add_zero (tw @Int.natCast_zero (tw @Int.mul_zero (tw @hz @hg)))),sl (tw @Int.add_zero (tw @Int.natCast_zero (tw @Int.mul_zero (tw @hz @hg)))),sl (tw @Int.add_zero (tw @Int.natCast_zero (tw @Int.mul_zero (tw @hz @hg)))),by(try dsimp only);exact⟨by(try dsimp only);omega,fun x _ _=>rfl⟩⟩ ?_
 rintro n_a env_a st_a ⟨j,rfl,ale,a5,a1,ag0,j4⟩ dx
 have a0:=dx 0 (by kernel_rfl)
 simp only[go_sem, ↓reduceIte,Nat.reduceEqDiff,Nat.reduceAdd,Nat.reduceSub,Nat.reduceLeDiff,reduceCtorEq,Int.add_zero,Int.natCast_zero,Int.mul_zero,hz,hg]at a0
 clear dx
 obtain⟨an,aF⟩:=j4
 by_cases hj:(j:Int)<(l.length:Int)
 ·have cz:∀{e:Env} {gg:Rows} {nx:Nat},(e 5=.int .i64 (IntKind.i64.wrap ((j:Int)+1)))->(e 1=.int .i64 (k+3*(j+1)))->(gg i=some ⟨true,3,(jK k l (j+1)).map aa⟩)->(nK σ [i] gg nx)->∃m0,m0<(l.length)-j/\∃j:Nat,m0=(l.length)-j/\j<=(l.length)/\e 5=.int .i64 (j:Int)/\e 1=.int .i64 (k+3*j)/\gg i=some ⟨true,3,(jK k l j).map aa⟩/\(nK σ [i] gg nx):=fun x1 x2 x3 x4=>⟨_,by omega,j+1,rfl,by omega,(by rw[x1,aA (by omega)]),x2,x3,x4⟩
  have iH:j<l.length:=by omega
  have fq:=FY (k:=k) iH
  have eH:=Ck (k:=k) iH
  have nH:IntKind.i64.wrap (k+3*(j:Int)+1)=k+3*(j:Int)+1:=bI (by omega)
  have qL:IntKind.i64.wrap (k+3*(j:Int)+1+1)=k+3*(j:Int)+2:=by rw[bI (by omega)];omega
  have Nv:IntKind.i64.wrap (k+3*(j:Int)+2+1)=k+3*((j:Int)+1):=by rw[bI (by omega)];omega
  have hlen:((jK k l j).map aa).length=l.length:=by rw[List.length_map,Cj (by omega)]
  have Jj:∀c:List AV,(((jK k l j).map aa).set j c)[j]? =some c:=fun c=>by rw[List.getElem?_set_self (by rw[hlen];exact iH)]
  (try((repeat(revert hN;revert N;apply Pn.out));refine wk (tw @a5 (tw @a1 (tw @ag0 (tw @a0 (tw @hj (tw @fq (tw @Jj (tw @eH (tw @nH (tw @qL (tw @Nv (tw @hlen @sk)))))))))))) ?_;(repeat(refine Pn.mk ?_;intro N hN))))
  refine cz ?_ ?_ ?_ (by(try dsimp only);exact⟨by(try dsimp only);omega,fun x hx hi=>by
   have h2:=aF x hx hi
   have h3:(x=i)=False:=eq_false fun e=>hi (by simp[e])
   simp only[go_sem, ↓reduceIte,Nat.reduceEqDiff,Nat.reduceAdd,Nat.reduceSub,Nat.reduceLeDiff,reduceCtorEq,h2,h3]⟩)
  all_goals simp only[go_sem, ↓reduceIte,Nat.reduceEqDiff,Nat.reduceAdd,Nat.reduceSub,Nat.reduceLeDiff,reduceCtorEq,a5,a1,ag0,a0,Nv,eH]
 ·have iH:j=l.length:=by omega
  subst iH
  (try((repeat(revert hN;revert N;apply Pn.out));refine wk (tw @a5 (tw @a1 (tw @ag0 (tw @a0 @hj)))) ?_;(repeat(refine Pn.mk ?_;intro N hN))))
  have kO:jK k l l.length=Ia k l.length:=by simp[jK]
  rw[kO]at ag0
  exact eX (.inl rfl) (vs:=[.int .i64 (k+3*l.length)]) (sd (tw @a5 (tw @a1 (tw @ag0 @a0)))) ⟨rfl,⟨by(try dsimp only);omega,fun x hx hi=>aF x hx hi⟩,ag0⟩
theorem Ce (i:Id) (l:List fG) (k:Int) (h0:0<=k) (h1:k+2*l.length<=4611686018427387904) (σ:ar) (hv:i.bQ<σ.next) (hg:σ.get i=some ⟨true,2,l.map bR⟩):
  Call Tryz.prog 131 [.own i 0 l.length,.int .i64 k] σ (fun r σ'=>r=.int .i64 (k+2*l.length)/\nK σ [i] σ'.get σ'.next):=by
 refine eQ eK rfl fun hl=>?_
 clear hl
 obtain⟨nn,hn⟩:∃nn,l.length=nn:=⟨_,rfl⟩
 rw[hn]at h1 ⊢
 (try((repeat(revert hN;revert N;apply Pn.out));refine wk @Nat.zero_add ?_;(repeat(refine Pn.mk ?_;intro N hN))))
 refine aZ (fun n env st=>∃j:Nat,n=(nn)-j/\j<=(nn)/\env 5=.int .i64 (j:Int)/\env 1=.int .i64 (k+2*j)/\(nK σ [i] st.get st.next/\∃l':List fG,l'.length=nn/\st.get i=some ⟨true,2,l'.map bR⟩)) (nn) ⟨0,by omega,by omega,sl (tw @Int.add_zero (tw @Int.natCast_zero @Int.mul_zero)),sl (tw @Int.add_zero (tw @Int.natCast_zero @Int.mul_zero)),by(try dsimp only);exact⟨⟨by(try dsimp only);omega,fun x _ _=>rfl⟩,l,hn,hg⟩⟩ ?_
 rintro n_a env_a st_a ⟨j,rfl,ale,a5,a1,j4⟩ dx
 have a0:=dx 0 (by kernel_rfl)
 simp only[go_sem, ↓reduceIte,Nat.reduceEqDiff,Nat.reduceAdd,Nat.reduceSub,Nat.reduceLeDiff,reduceCtorEq,Int.add_zero,Int.natCast_zero,Int.mul_zero]at a0
 clear dx
 obtain⟨⟨an,aF⟩,l',al,ag⟩:=j4
 by_cases hj:(j:Int)<(nn:Int)
 ·have cz:∀{e:Env} {gg:Rows} {nx:Nat},(e 5=.int .i64 (IntKind.i64.wrap ((j:Int)+1)))->(e 1=.int .i64 (k+2*(j+1)))->(nK σ [i] gg nx/\∃l':List fG,l'.length=nn/\gg i=some ⟨true,2,l'.map bR⟩)->∃m0,m0<(nn)-j/\∃j:Nat,m0=(nn)-j/\j<=(nn)/\e 5=.int .i64 (j:Int)/\e 1=.int .i64 (k+2*j)/\(nK σ [i] gg nx/\∃l':List fG,l'.length=nn/\gg i=some ⟨true,2,l'.map bR⟩):=fun x1 x2 x3=>⟨_,by omega,j+1,rfl,by omega,(by rw[x1,aA (by omega)]),x2,x3⟩
  have iH:j<l'.length:=by omega
  have fq:(l'.map bR)[j]? =some [.str l'[j].aM,.int .i64 l'[j].eG]:=by simp[iH,bR]
  have hlen:(l'.map bR).length=nn:=by rw[List.length_map,al]
  have Jj:∀c:List AV,((l'.map bR).set j c)[j]? =some c:=fun c=>by rw[List.getElem?_set_self (by rw[List.length_map];exact iH)]
  have ht:=wR (k+2*(j:Int)) (by omega) (by omega)
  have nH:IntKind.i64.wrap (k+2*(j:Int)+1)=k+2*(j:Int)+1:=bI (by omega)
  have qL:IntKind.i64.wrap (k+2*(j:Int)+1+1)=k+2*((j:Int)+1):=by rw[bI (by omega)];omega
  generalize oP (k+2*(j:Int))=mt at ht
  have eH:(l'.map bR).set j [.str mt,.int .i64 (k+2*(j:Int)+1)]=(l'.set j ⟨mt,k+2*(j:Int)+1⟩).map bR:=by rw[List.map_set];rfl
  (repeat(first|((repeat(revert hN;revert N;apply Pn.out));refine wk (tw @a5 (tw @a1 (tw @a0 (tw @hj (tw @ag (tw @fq (tw @Jj (tw @eH (tw @nH (tw @qL (tw @hlen @sk))))))))))) ?_;(repeat(refine Pn.mk ?_;intro N hN)))|((try apply Or.inl);refine⟨_,aq.x (ht) (sd (tw @a5 (tw @a1 (tw @a0 (tw @hj (tw @ag (tw @fq (tw @Jj (tw @eH (tw @nH (tw @qL (tw @hlen @sk)))))))))))),?_⟩;refine hN _ _ ?_;clear hN N)))
  refine cz ?_ ?_ (by(try dsimp only);exact⟨⟨by(try dsimp only);omega,fun x hx hi=>by
   have h2:=aF x hx hi
   have h3:(x=i)=False:=eq_false fun e=>hi (by simp[e])
   simp only[go_sem, ↓reduceIte,Nat.reduceEqDiff,Nat.reduceAdd,Nat.reduceSub,Nat.reduceLeDiff,reduceCtorEq,h2,h3]⟩,l'.set j ⟨mt,k+2*(j:Int)+1⟩,by simp[al],sl @Nat.zero_add⟩)
  all_goals simp only[go_sem, ↓reduceIte,Nat.reduceEqDiff,Nat.reduceAdd,Nat.reduceSub,Nat.reduceLeDiff,reduceCtorEq,a5,a1,a0,qL,eH]
 ·have iH:j=nn:=by omega
  subst iH
  (try((repeat(revert hN;revert N;apply Pn.out));refine wk (tw @a5 (tw @a1 (tw @a0 @hj))) ?_;(repeat(refine Pn.mk ?_;intro N hN))))
  exact eX (.inl rfl) (vs:=[.int .i64 (k+2*j)]) (sd (tw @a5 (tw @a1 @a0))) ⟨rfl,⟨by(try dsimp only);omega,fun x hx hi=>aF x hx hi⟩⟩
end Go.Proofs.YtgoelphibofcmaaGreat.V

namespace Go.Proofs.YtgoelphibofcmaaGreat.V
open Go.RowKit
attribute [local irreducible] dO wpOps gy Call
attribute [local go_sem] aT fK eS ga fZ dj upd cF K.av cP AV.cells AV.cell rowOf rowsOf part ld rowAt bL cD dG ef ik bV de ew fW fe dw ek dc db dU dV cj bl cU b4 cW cV ei eo ej cR cm dd eh bW aV cZ cI ij bx cK ck bd du bj dI AV.undef bH bS dW eb dQ dP cJ ev eE cH er ep cY da List.getD_cons_zero List.getD_cons_succ List.getD_nil List.all_cons List.all_nil Bool.and_true Bool.true_and Bool.and_self Bool.not_true Bool.not_false Option.map_some Option.map_none Option.bind_some Option.bind_none List.length_cons List.length_nil List.take_succ_cons List.take_zero List.take_nil List.drop_succ_cons List.drop_zero List.drop_nil List.head?_cons List.map_cons List.map_nil List.getElem?_cons_zero List.getElem?_cons_succ List.cons_append List.nil_append List.append_nil List.length_map List.set_cons_zero List.set_cons_succ Nat.reduceMul eq_self Int.toNat_natCast Int.natCast_nonneg and_self true_and and_true decide_true decide_false Bool.false_eq_true Nat.zero_add Nat.add_zero List.contains_cons List.contains_nil Bool.or_false Bool.false_or beq_self_eq_true Nat.reduceBEq ne_eq not_true_eq_false not_false_eq_true Id.mk.injEq false_and and_false Nat.reduceLT Int.reduceLE Int.reduceLT Int.reduceToNat Int.reduceNeg Int.reduceAdd Nat.le_refl List.length_append beq_true beq_false Bool.not_eq_eq_eq_not or_false false_or dR ae aj aI bq bG cC aY bh aW bp cQ bJ
theorem gJ.flat {α:Type} {e:α->List AV} {z:Nat} {g:Rows} {a:AV} {xs:List α} {ids:List Id} (h:gJ (jf e) z g a xs ids):∃o,a=.own o 0 xs.length/\g o=some ⟨true,z,xs.map e⟩/\ids=[o]:=by
 obtain⟨o,rows,is,h1,h2,h3,rfl⟩:=h
 have:∀{rows:List (List AV)} {xs:List α} {is:List Id},eM (jf e) g rows xs is->rows=xs.map e/\is=[]:=fun h=>by
  induction h with
  |nil=>exact⟨rfl,rfl⟩
  |cons h1 _ ih=>obtain⟨rfl,rfl⟩:=h1;obtain⟨rfl,rfl⟩:=ih;exact⟨rfl,rfl⟩
 obtain⟨rfl,rfl⟩:=this h3
 exact⟨o,h1,h2,rfl⟩
def gM (t:eZ):Nat:=1+t.bD.length
theorem Cf (a:AV) (l:List eZ) (ids:List Id) (k:Int) (h0:0<=k) (DX:l.length<=1048576) (h1:k+(l.map gM).sum<=4611686018427387904) (σ:ar) (hv:∀i∈ids,i.bQ<σ.next) (mh:ids.Nodup) (hg:gJ oq 2 σ.get a l ids):
  Call Tryz.prog 132 [a,.int .i64 k] σ (fun r σ'=>r=.int .i64 (k+(l.map gM).sum)/\nK σ ids σ'.get σ'.next):=by
 obtain⟨o,rows,is,rfl,ho,hR,rfl⟩:=hg
 refine eQ eK rfl fun hl=>?_
 clear hl
 have uC:=hv o (by simp)
 have Nq:=mE gM l
 (try((repeat(revert hN;revert N;apply Pn.out));refine wk @Nat.zero_add ?_;(repeat(refine Pn.mk ?_;intro N hN))))
 refine aZ (fun n env st=>∃j:Nat,n=(l.length)-j/\j<=(l.length)/\env 5=.int .i64 (j:Int)/\env 1=.int .i64 (k+iO gM l j)/\(nK σ (o::is) st.get st.next/\∃pre rest ir,st.get o=some ⟨true,2,pre++rest⟩/\pre.length=j/\eM oq st.get rest (l.drop j) ir/\(o::ir).Nodup/\∀i∈ir,i∈is)) (l.length) ⟨0,by omega,by omega,sl (tw @Int.add_zero (tw @Int.natCast_zero @Nq)),sl (tw @Int.add_zero (tw @Int.natCast_zero @Nq)),by(try dsimp only);exact⟨⟨by(try dsimp only);omega,fun x _ _=>rfl⟩,[],rows,is,ho,rfl,hR,mh,fun _ h=>h⟩⟩ ?_
 rintro n_a env_a st_a ⟨j,rfl,ale,a5,a1,j4⟩ dx
 have a0:=dx 0 (by kernel_rfl)
 simp only[go_sem, ↓reduceIte,Nat.reduceEqDiff,Nat.reduceAdd,Nat.reduceSub,Nat.reduceLeDiff,reduceCtorEq,Int.add_zero,Int.natCast_zero,Nq]at a0
 clear dx
 obtain⟨⟨an,aF⟩,pre,rest,ir,ag,apl,aR,aN,aS⟩:=j4
 by_cases hj:(j:Int)<(l.length:Int)
 ·have cz:∀{e:Env} {gg:Rows} {nx:Nat},(e 5=.int .i64 (IntKind.i64.wrap ((j:Int)+1)))->(e 1=.int .i64 (k+iO gM l (j+1)))->(nK σ (o::is) gg nx/\∃pre rest ir,gg o=some ⟨true,2,pre++rest⟩/\pre.length=(j+1)/\eM oq gg rest (l.drop (j+1)) ir/\(o::ir).Nodup/\∀i∈ir,i∈is)->∃m0,m0<(l.length)-j/\∃j:Nat,m0=(l.length)-j/\j<=(l.length)/\e 5=.int .i64 (j:Int)/\e 1=.int .i64 (k+iO gM l j)/\(nK σ (o::is) gg nx/\∃pre rest ir,gg o=some ⟨true,2,pre++rest⟩/\pre.length=j/\eM oq gg rest (l.drop j) ir/\(o::ir).Nodup/\∀i∈ir,i∈is):=fun x1 x2 x3=>⟨_,by omega,j+1,rfl,by omega,(by rw[x1,aA (by omega)]),x2,x3⟩
  have iH:j<l.length:=by omega
  have O6:=xl gM iH
  have hle:=qi gM l (j+1)
  obtain⟨t,htj⟩:∃t,l[j]=t:=⟨_,rfl⟩
  rw[List.drop_eq_getElem_cons iH,htj]at aR
  rw[htj]at O6
  cases aR with
  | @cons cs _ ic rs _ i2 hT Rb=>
  obtain⟨i,rfl,hi,rfl⟩:=hT
  rw[List.singleton_append]at aN aS
  obtain⟨n1,n2⟩:=List.nodup_cons.1 aN
  obtain⟨n3,n4⟩:=List.nodup_cons.1 n2
  have Qx:(o=i)=False:=eq_false fun e=>n1 (by simp[e])
  have Qs:(i=o)=False:=eq_false fun e=>n1 (by simp[e])
  have hiv:i.bQ<σ.next:=hv i (by simp[aS i (by simp)])
  have RB:gM t=1+t.bD.length:=rfl
  have ht:=wR (k+(iO gM l j:Nat)) (by omega) (by omega)
  have nH:IntKind.i64.wrap (k+(iO gM l j:Nat)+1)=k+(iO gM l j:Nat)+1:=bI (by omega)
  generalize oP (k+(iO gM l j:Nat))=mt at ht
  have fq:(pre++[.str t.aM,.own i 0 t.bD.length]::rs)[j]? =some [.str t.aM,.own i 0 t.bD.length]:=by subst apl;simp
  have eH:(pre++[.str t.aM,.own i 0 t.bD.length]::rs).set j [.str mt,.own i 0 t.bD.length]=pre++[.str mt,.own i 0 t.bD.length]::rs:=by subst apl;simp
  have Ng:(pre++[.str mt,.own i 0 t.bD.length]::rs)[j]? =some [.str mt,.own i 0 t.bD.length]:=by subst apl;simp
  (repeat(first|((repeat(revert hN;revert N;apply Pn.out));refine wk (tw @a5 (tw @a1 (tw @a0 (tw @hj (tw @ag (tw @fq (tw @eH (tw @Ng (tw @nH (tw @Qx (tw @Qs @hi))))))))))) ?_;(repeat(refine Pn.mk ?_;intro N hN)))|((try apply Or.inl);refine⟨_,aq.x (ht) (sd (tw @a5 (tw @a1 (tw @a0 (tw @hj (tw @ag (tw @fq (tw @eH (tw @Ng (tw @nH (tw @Qx (tw @Qs @hi)))))))))))),?_⟩;refine hN _ _ ?_;clear hN N)))
  refine .inr (aJ _ _ _ _ _ (fun r σ1 hq=>?_) (Er i t.bD (k+(iO gM l j:Nat)+1) (by omega) (by omega) _ (by(try dsimp only);omega) (sd (tw @Qx (tw @Qs @hi)))))
  obtain⟨g1,x1⟩:=σ1
  obtain⟨rfl,FH,mQ⟩:=hq
  (try dsimp only at FH mQ)
  refine hN _ _ ?_
  clear hN N
  have U5:k+(iO gM l j:Nat)+1+t.bD.length=k+(iO gM l (j+1):Nat):=by omega
  (try((repeat(revert hN;revert N;apply Pn.out));refine wk (tw @a5 (tw @a1 (tw @a0 @U5))) ?_;(repeat(refine Pn.mk ?_;intro N hN))))
  have gk:∀x:Id,x.bQ<σ.next->x≠o->x≠i->g1 x=st_a.get x:=fun x hx h3 h4=>by
   have h2:=mQ x (by(try dsimp only);omega) (by simp[h4])
   have h5:=eq_false h3
   simp only[go_sem, ↓reduceIte,Nat.reduceEqDiff,Nat.reduceAdd,Nat.reduceSub,Nat.reduceLeDiff,reduceCtorEq,h5]at h2
   exact h2
  have go:=mQ o (by(try dsimp only);omega) (by simp only[List.mem_singleton];exact fun e=>n1 (by simp[e]))
  simp only[go_sem, ↓reduceIte,Nat.reduceEqDiff,Nat.reduceAdd,Nat.reduceSub,Nat.reduceLeDiff,reduceCtorEq]at go
  refine cz ?_ ?_ (by(try dsimp only);exact⟨⟨by(try dsimp only);omega,fun x hx hi=>by
   have h3:x≠o:=fun e=>hi (by simp[e])
   have h4:x≠i:=fun e=>hi (by simp[e,aS i (by simp)])
   rw[gk x hx h3 h4]
   exact aF x hx hi⟩,pre++[[.str mt,.own i 0 t.bD.length]],rs,i2,by rw[go];simp,by simp[apl],Rb.frame qW (fun x hx=>gk x (hv x (by simp[aS x (by simp[hx])])) (fun e=>n1 (by simp[<-e,hx])) (fun e=>n3 (by rw[<-e];exact hx))),List.nodup_cons.2 ⟨fun h=>n1 (by simp[h]),n4⟩,fun x hx=>aS x (by simp[hx])⟩)
  all_goals simp only[go_sem, ↓reduceIte,Nat.reduceEqDiff,Nat.reduceAdd,Nat.reduceSub,Nat.reduceLeDiff,reduceCtorEq,a5,a1,a0,U5]
 ·have iH:j=l.length:=by omega
  subst iH
  have dC:=CE gM l
  rw[dC]at a1
  (try((repeat(revert hN;revert N;apply Pn.out));refine wk (tw @a5 (tw @a1 (tw @a0 @hj))) ?_;(repeat(refine Pn.mk ?_;intro N hN))))
  exact eX (.inl rfl) (vs:=[.int .i64 (k+(l.map gM).sum)]) (sd (tw @a5 (tw @a1 @a0))) ⟨rfl,⟨by(try dsimp only);omega,fun x hx hi=>aF x hx hi⟩⟩
theorem Hc (v:AV) (p:gz) (ids:List Id) (k:Int) (h0:0<=k) (h1:k+3*p.ai.length<=4611686018427387904) (σ:ar) (hv:∀i∈ids,i.bQ<σ.next) (hg:C5 σ.get v p ids):
  Call Tryz.prog 32 [v,.int .i64 k] σ (fun r σ'=>r=.int .i64 (k+3*p.ai.length)/\nK σ ids σ'.get σ'.next):=by
 obtain⟨c,rfl,hc⟩:=hg
 obtain⟨o,rfl,ho,rfl⟩:=hc.flat
 refine eQ eK rfl fun hl=>?_
 clear hl
 have uC:=dr (hv o (by simp))
 have LW:=hv o (by simp)
 (try((repeat(revert hN;revert N;apply Pn.out));refine wk @Nat.zero_add ?_;(repeat(refine Pn.mk ?_;intro N hN))))
 refine .inr (aJ _ _ _ _ _ (fun r σ1 hq=>?_) (zX o p.ai k h0 h1 _ (by(try dsimp only);omega) (sd (tw @uC @ho))))
 obtain⟨g1,x1⟩:=σ1
 obtain⟨rfl,⟨FH,mQ⟩,_⟩:=hq
 (try dsimp only at FH mQ)
 refine hN _ _ ?_
 clear hN N
 (try((repeat(revert hN;revert N;apply Pn.out));refine wk @Nat.zero_add ?_;(repeat(refine Pn.mk ?_;intro N hN))))
 exact eX (.inl rfl) (vs:=[.int .i64 (k+3*p.ai.length)]) (sd @Nat.zero_add) ⟨rfl,⟨by(try dsimp only);omega,fun x hx hi=>by
  have h2:=mQ x (by(try dsimp only);omega) hi
  have h3:=dr hx
  simp only[go_sem, ↓reduceIte,Nat.reduceEqDiff,Nat.reduceAdd,Nat.reduceSub,Nat.reduceLeDiff,reduceCtorEq,h3]at h2
  exact h2⟩⟩
def Cc (s:az):Nat:=2*s.aH.ax.length+(s.aH.ai.map gM).sum+3*s.bf.ai.length
theorem He (a b:AV) (p:aw) (i1 i2:List Id) (k:Int) (h0:0<=k) (DX:p.ai.length<=1048576) (h1:k+2*p.ax.length+(p.ai.map gM).sum<=4611686018427387904) (σ:ar) (hv:∀i∈i1++i2,i.bQ<σ.next) (mh:(i1++i2).Nodup)
  (hA:gJ (jf bR) 2 σ.get a p.ax i1) (hB:gJ oq 2 σ.get b p.ai i2):
  Call Tryz.prog 76 [.agg [a,b],.int .i64 k] σ (fun r σ'=>r=.int .i64 (k+2*p.ax.length+(p.ai.map gM).sum)/\nK σ (i1++i2) σ'.get σ'.next):=by
 obtain⟨_,n2,n3⟩:=List.nodup_append.1 mh
 obtain⟨o,rfl,ho,rfl⟩:=hA.flat
 obtain⟨ob,rfl⟩:=hB.kY
 refine eQ eK rfl fun hl=>?_
 clear hl
 have LW:=hv o (by simp)
 have uC:=dr LW
 (try((repeat(revert hN;revert N;apply Pn.out));refine wk @Nat.zero_add ?_;(repeat(refine Pn.mk ?_;intro N hN))))
 refine .inr (aJ _ _ _ _ _ (fun r σ1 hq=>?_) (Ce o p.ax k h0 (by omega) _ (by(try dsimp only);omega) (sd (tw @uC @ho))))
 obtain⟨g1,x1⟩:=σ1
 obtain⟨rfl,FH,mQ⟩:=hq
 (try dsimp only at FH mQ)
 refine hN _ _ ?_
 clear hN N
 have k1:=mQ ⟨76000000,σ.next⟩ (by(try dsimp only);omega) (by simp only[List.mem_singleton];intro e;rw[<-e]at LW;(try dsimp only at LW);omega)
 simp only[go_sem, ↓reduceIte,Nat.reduceEqDiff,Nat.reduceAdd,Nat.reduceSub,Nat.reduceLeDiff,reduceCtorEq]at k1
 (try((repeat(revert hN;revert N;apply Pn.out));refine wk @k1 ?_;(repeat(refine Pn.mk ?_;intro N hN))))
 have hf:∀x:Id,x.bQ<σ.next->x≠o->g1 x=σ.get x:=fun x hx ho=>by
  have h2:=mQ x (by(try dsimp only);omega) (by simp[ho])
  have h3:=dr hx
  simp only[go_sem, ↓reduceIte,Nat.reduceEqDiff,Nat.reduceAdd,Nat.reduceSub,Nat.reduceLeDiff,reduceCtorEq,h3]at h2
  exact h2
 refine .inr (aJ _ _ _ _ _ (fun r σ2 hq=>?_) (Cf _ p.ai i2 (k+2*p.ax.length) (by omega) DX h1 _ (fun i hi=>by have:=hv i (by simp[hi]);(try dsimp only);omega) n2 (hB.frame qW fun i hi=>hf i (hv i (by simp[hi])) fun e=>n3 o (by simp) i hi e.symm)))
 obtain⟨g2,x2⟩:=σ2
 obtain⟨rfl,O0,D8⟩:=hq
 (try dsimp only at O0 D8)
 refine hN _ _ ?_
 clear hN N
 (try((repeat(revert hN;revert N;apply Pn.out));refine wk @Nat.zero_add ?_;(repeat(refine Pn.mk ?_;intro N hN))))
 exact eX (.inl rfl) (vs:=[.int .i64 (k+2*p.ax.length+(p.ai.map gM).sum)]) (sd @Nat.zero_add) ⟨rfl,⟨by(try dsimp only);omega,fun x hx hi=>(D8 x (by(try dsimp only);omega) fun h=>hi (by simp[h])).trans (hf x hx fun e=>hi (by simp[e]))⟩⟩
theorem Hf (v:AV) (p:az) (ids:List Id) (k:Int) (h0:0<=k) (DX:p.aH.ai.length<=1048576) (h1:k+Cc p<=4611686018427387904) (σ:ar) (hv:∀i∈ids,i.bQ<σ.next) (mh:ids.Nodup) (hg:zl σ.get v p ids):
  Call Tryz.prog 31 [v,.int .i64 k] σ (fun r σ'=>r=.int .i64 (k+Cc p)/\nK σ ids σ'.get σ'.next):=by
 obtain⟨a,b,c,i1,i2,i3,rfl,hA,hB,hC,rfl⟩:=hg.ex
 rw[<-List.append_assoc]at mh
 obtain⟨n1,_,n3⟩:=List.nodup_append.1 mh
 obtain⟨oa,rfl⟩:=hA.kY
 obtain⟨ob,rfl⟩:=hB.kY
 obtain⟨oc,rfl⟩:=hC.kY
 have hm:(Cc p:Int)=2*p.aH.ax.length+(p.aH.ai.map gM).sum+3*p.bf.ai.length:=by simp[Cc]
 refine eQ eK rfl fun hl=>?_
 clear hl
 have Ud:∀x∈i1++(i2++i3),bL σ.get ⟨31000000,σ.next⟩ ⟨true,4,[[.own oa 0 p.aH.ax.length,.own ob 0 p.aH.ai.length,.own oc 0 p.bf.ai.length,.int .i64 p.ay]]⟩ x=σ.get x:=fun x hx=>by
  have:=dr (hv x hx)
  simp only[go_sem, ↓reduceIte,Nat.reduceEqDiff,Nat.reduceAdd,Nat.reduceSub,Nat.reduceLeDiff,reduceCtorEq,this]
 (try((repeat(revert hN;revert N;apply Pn.out));refine wk @Nat.zero_add ?_;(repeat(refine Pn.mk ?_;intro N hN))))
 refine .inr (aJ _ _ _ _ _ (fun r σ1 hq=>?_) (He _ _ p.aH i1 i2 k h0 DX (by omega) _ (fun i hi=>by have:=hv i (by rcases List.mem_append.1 hi with h|h<;>simp[h]);(try dsimp only);omega) n1 (hA.frame Bu fun i hi=>Ud i (by simp[hi])) (hB.frame qW fun i hi=>Ud i (by simp[hi]))))
 obtain⟨g1,x1⟩:=σ1
 obtain⟨rfl,FH,mQ⟩:=hq
 (try dsimp only at FH mQ)
 refine hN _ _ ?_
 clear hN N
 have k1:=mQ ⟨31000000,σ.next⟩ (by(try dsimp only);omega) (fun h=>by
  have:=hv ⟨31000000,σ.next⟩ (by rcases List.mem_append.1 h with h|h<;>simp[h])
  (try dsimp only at this);omega)
 simp only[go_sem, ↓reduceIte,Nat.reduceEqDiff,Nat.reduceAdd,Nat.reduceSub,Nat.reduceLeDiff,reduceCtorEq]at k1
 (try((repeat(revert hN;revert N;apply Pn.out));refine wk @k1 ?_;(repeat(refine Pn.mk ?_;intro N hN))))
 refine .inr (aJ _ _ _ _ _ (fun r σ2 hq=>?_) (Hc _ p.bf i3 (k+2*p.aH.ax.length+(p.aH.ai.map gM).sum) (by omega) (by omega) _ (fun i hi=>by have:=hv i (by simp[hi]);(try dsimp only);omega) ⟨_,rfl,hC.frame qd fun i hi=>?_⟩))
 rotate_left
 ·exact(mQ i (by have:=hv i (by simp[hi]);(try dsimp only);omega) fun h=>n3 i h i hi rfl).trans (Ud i (by simp[hi]))
 obtain⟨g2,x2⟩:=σ2
 obtain⟨rfl,O0,D8⟩:=hq
 (try dsimp only at O0 D8)
 refine hN _ _ ?_
 clear hN N
 (try((repeat(revert hN;revert N;apply Pn.out));refine wk @Nat.zero_add ?_;(repeat(refine Pn.mk ?_;intro N hN))))
 exact eX (.inl rfl) (vs:=[.int .i64 (k+2*p.aH.ax.length+(p.aH.ai.map gM).sum+3*p.bf.ai.length)]) (sd @Nat.zero_add) ⟨by rw[hm];exact congrArg (AV.int .i64) (by omega),⟨by(try dsimp only);omega,fun x hx hi=>by
  have h2:=D8 x (by(try dsimp only);omega) fun h=>hi (by simp[h])
  have h3:=mQ x (by(try dsimp only);omega) fun h=>hi (by rcases List.mem_append.1 h with h|h<;>simp[h])
  have h4:=dr hx
  simp only[go_sem, ↓reduceIte,Nat.reduceEqDiff,Nat.reduceAdd,Nat.reduceSub,Nat.reduceLeDiff,reduceCtorEq,h4]at h3
  exact h2.trans h3⟩⟩
end Go.Proofs.YtgoelphibofcmaaGreat.V

namespace Go.Proofs.YtgoelphibofcmaaGreat.V
open Go.RowKit
def AV.clean:AV->Bool
 | .int .. | .bool _| .str _| .bE| .gN| .je| .jo| .own .. | .ptr .. | .map .. | .rF _=>true
 | .sl l=>l.isEmpty
 |_=>false
def AV.zB:AV->Bool
 | .agg cs=>cs.all AV.clean
 | .gE cs=>cs.all fun a=>match a with
  | .agg cs=>cs.all AV.clean
  |a=>a.clean
 |a=>a.clean
def zg (ids:List Id) (g g':Rows):Rows:=fun id=>if id∈ids then g' id else g id
theorem pf {ids:List Id} {g g':Rows} {id:Id} (h:id∈ids):zg ids g g' id=g' id:=if_pos h
theorem kP {ids:List Id} {g g':Rows} {id:Id} (h:id∉ids):zg ids g g' id=g id:=if_neg h
section
variable {P:Program} {w w':World} {D D' D1 D2:Nat->Prop} {ι ι1 ι2:Names}
theorem jX {a:AV} {v:Value} (hp:a.clean=true) (h:cL P w D1 ι1 a v):cL P w D2 ι1 a v:=by
 cases h with
 |eT a v h=>
  cases h with
  |int=>exact .eT _ _ (.int _ _)
  |bool=>exact .eT _ _ (.bool _)
  |str=>exact .eT _ _ (.str _)
  |bE=>exact .eT _ _ .bE
  |gN=>exact .eT _ _ .gN
  |je=>exact .eT _ _ .je
  |jo=>exact .eT _ _ .jo
  |AR a c h=>exact .eT _ _ (.AR a c h)
  |sl rows b o n c sz vs h1 h2 h3=>
   have:rows=[]:=by simpa[AV.clean]using hp
   subst this
   simp only[List.length_nil]at h1
   subst h1
   exact .eT _ _ (.AR _ _ h3)
  |dq=>simp[AV.clean]at hp
  |agg=>simp[AV.clean]at hp
  |fn=>simp[AV.clean]at hp
 |own id off len o cap B h1 h2 h3 h4 h5 h6=>exact .own id off len o cap B h1 h2 h3 h4 h5 h6
 |map id m B h1 h2=>exact .map id m B h1 h2
 |rF id c B h1 h2=>exact .rF id c B h1 h2
 |ptr id i off B h1 h2=>exact .ptr id i off B h1 h2
 |agg=>simp[AV.clean]at hp
 |gE=>simp[AV.clean]at hp
 |fn=>simp[AV.clean]at hp
 |ue=>simp[AV.clean]at hp
theorem lU {cs:List AV} {v:Value} (hc:cs.all AV.clean=true) (h:cL P w D1 ι1 (.agg cs) v):cL P w D2 ι1 (.agg cs) v:=by
 obtain⟨vs,f,rfl,h1,h2,h3,h4⟩:=iV h
 rw[List.all_eq_true]at hc
 exact .agg cs vs f h1 h2 h3 fun j a ha=>jX (hc a (List.mem_of_getElem? ha)) (h4 j a ha)
theorem EG {a:AV} {v:Value} (hp:a.zB=true) (h:cL P w D1 ι1 a v):cL P w D2 ι1 a v:=by
 cases a with
 |agg cs=>exact lU hp h
 |gE cs=>
  obtain⟨vs,f,rfl,h1,h3,h4⟩:=vd h
  simp only[AV.zB,List.all_eq_true]at hp
  refine .gE cs vs f h1 h3 fun j a ha=>?_
  have:=hp a (List.mem_of_getElem? ha)
  split at this
  ·exact lU this (h4 j _ ha)
  ·exact jX this (h4 j _ ha)
 |_=>exact jX hp h
theorem ED {ag:Bool} {n:Nat} {cs:List AV} {x:AV} {v:Value} (hc:∀a∈cs,a.clean=true) (hp:part ag n cs=some x) (hr:cL P w D1 ι1 x v):cL P w D2 ι1 x v:=by
 unfold part at hp
 split at hp
 ·split at hp
  ·simp only[Option.some.injEq]at hp;subst hp
   exact lU (List.all_eq_true.2 fun a ha=>hc a (List.mem_of_mem_take ha)) hr
  ·cases hp
 ·exact jX (hc x (List.mem_of_mem_head? hp)) hr
theorem gT.clean {B:sG} {r:Row} (R:gT P w D1 ι1 B r) (h:∀cs∈r.rows,∀a∈cs,a.clean=true):gT P w D2 ι1 B r:=
 ⟨R.sz,R.flat,fun hk=>⟨R.sz,(R.row hk).xI,(R.row hk).fits,(R.row hk).len,R.flat,fun i j cs a hi hj=>by
  obtain⟨v,q1,q2⟩:=(R.row hk).at_ i j cs a hi hj
  exact⟨v,q1,jX (h cs (List.mem_of_getElem? hi) a (List.mem_of_getElem? hj)) q2⟩⟩,fun m hm=>by
  obtain⟨h1,es,c,h2,h3,h5,h4⟩:=R.map m hm
  refine⟨h1,es,c,h2,h3,h5,fun i cs hi=>?_⟩
  obtain⟨e,kv,vv,q1,q2,q3,q4,q5⟩:=h4 i cs hi
  have hc:=h cs (List.mem_of_getElem? hi)
  exact⟨e,kv,vv,q1,q2,q3,ED hc q2 q4,jX (hc vv (List.mem_of_getElem? q3)) q5⟩,fun c hc=>by
  obtain⟨h1,buf,s,q,h2,h3,h4⟩:=R.chan c hc
  refine⟨h1,buf,s,q,h2,h3,fun i cs hi=>?_⟩
  obtain⟨a,u,rfl,q2,q3⟩:=h4 i cs hi
  exact⟨a,u,rfl,q2,jX (h [a] (List.mem_of_getElem? hi) a (by simp)) q3⟩⟩
def Handed (ids:List Id) (g:Rows):Prop:=∀id∈ids,∃r,g id=some r/\r.w=true/\∀cs∈r.rows,∀a∈cs,a.clean=true
theorem HR {f:Nat} {args args':List AV} {g:Rows} {n:Nat} {K:AV->ar->Prop} (hv:dn (dR g) 6 args=some args')
  (h:Sound P f args' ⟨fun _=>none,n⟩ fun r σ'=>∃ids,r.zB=true/\Handed ids σ'.get/\K r ⟨zg ids g σ'.get,σ'.next⟩):Sound P f args ⟨g,n⟩ K:=by
 intro hs D ι w vs S U A
 let E:Nat->Prop:=fun b=>D b∨∃id r B,g id=some r/\ι id=some B/\b=B.b
 have lt:∀id r B,g id=some r->ι id=some B->B.b<w.heap.size:=fun id r B h1 h2=>by
  obtain⟨B',dH,R,_⟩:=S.row id r h1
  rw[h2]at dH;injection dH with dH;subst dH
  exact R.lt
 have S0:gF P w.heap.size E ι (fun _=>none) w:=⟨Nat.le_refl _,fun b hb=>by
  rcases hb with hb|⟨id,r,B,h1,h2,rfl⟩
  ·exact S.dead b hb
  ·exact lt id r B h1 h2,fun id r h=>(by cases h),fun id j5 r r' B B' h=>(by cases h)⟩
 obtain⟨l1,l2⟩:=gL hv
 have A':fy P w E ι args' vs:=⟨by rw[A.1,l1],fun j a hj=>by
  obtain⟨a0,lq,hz⟩:=l2 j a hj
  obtain⟨u,hu,hr⟩:=A.2 j a0 lq
  refine⟨u,hu,(rJ (D2:=E) (ι2:=ι) (fun b h=>.inl h) (fun id row hg hw=>?_) 6 a0 u a hr hz).1⟩
  unfold dR at hg
  simp only[Option.map_eq_some_iff]at hg
  obtain⟨r,od,rfl⟩:=hg
  obtain⟨B,hB,R,_,_⟩:=S.row id r od
  exact⟨B,hB,R.flag true,.inr ⟨id,r,B,od,hB,rfl⟩⟩⟩
 refine(h w.heap.size E ι w vs S0 U A').mono ?_
 rintro e w' ⟨r0,g',n',D2,ι1,u,rfl,⟨ids,nf,hid,hK⟩,T,S1,U1,hn,hR⟩
 have hb:∀b,b<w.heap.size->w'.heap[b]? =w.heap[b]? :=T.below.block
 have hz:=T.below.size
 have frame:∀{a v},cL P w D ι a v->cL P w' D ι1 a v:=fun h=>h.frame (fun b hd=>hb b (S.dead b hd)) (fun _ h=>h) T.names
 refine⟨r0,_,n',D,ι1,u,rfl,hK,⟨T.below.mono S.lo,fun b hd=>hb b (S.dead b hd),fun _ h=>h,T.names,fun _ h=>.inl h⟩,⟨Nat.le_trans S.lo hz,fun b hd=>Nat.lt_of_lt_of_le (S.dead b hd) hz,fun id r hr=>?_,fun R7 id2 r1 r2 B1 B2 h1 h2 hw AN pU Nc=>?_⟩,U1,hn,EG nf hR⟩
 ·by_cases hi:id∈ids
  ·rw[pf hi]at hr
   obtain⟨r',od,hw,Rl⟩:=hid id hi
   rw[hr]at od;injection od with od;subst od
   obtain⟨B,hB,R,k1,k2⟩:=S1.row id r hr
   have kq:=k1 hw
   exact⟨B,hB,R.clean Rl,fun _=>Nat.le_trans S.lo kq,fun _ hd=>Nat.lt_irrefl _ (Nat.lt_of_lt_of_le (S.dead _ hd) kq)⟩
  ·rw[kP hi]at hr
   obtain⟨B,hB,R,k1,k2⟩:=S.row id r hr
   have SQ:=lt id r B hr hB
   exact⟨B,T.names _ _ hB,R.frame (hb _ SQ) fun a v h=>frame h,k1,k2⟩
 ·have new:∀{id r B},id∈ids->zg ids g g' id=some r->ι1 id=some B->w.heap.size<=B.b/\g' id=some r/\r.w=true:=fun {id r B} hi hr hB=>by
   rw[pf hi]at hr
   obtain⟨r',od,hw,_⟩:=hid id hi
   replace od:g' id=some r':=od
   rw[hr]at od;injection od with od;subst od
   obtain⟨B',dH,_,k1,_⟩:=S1.row id r hr
   rw[hB]at dH;injection dH with dH;subst dH
   exact⟨k1 hw,hr,hw⟩
  have yW:∀{id r B},id∉ids->zg ids g g' id=some r->ι1 id=some B->B.b<w.heap.size/\g id=some r/\ι id=some B:=fun {id r B} hi hr hB=>by
   rw[kP hi]at hr
   obtain⟨B',dH,_⟩:=S.row id r hr
   have:=T.names _ _ dH
   rw[hB]at this;injection this with this;subst this
   exact⟨lt id r _ hr dH,hr,dH⟩
  by_cases i1:R7∈ids
  ·obtain⟨a1,a2,a3⟩:=new i1 h1 AN
   by_cases i2:id2∈ids
   ·obtain⟨b1,b2,b3⟩:=new i2 h2 pU
    exact S1.inj R7 id2 r1 r2 B1 B2 a2 b2 hw AN pU Nc
   ·obtain⟨b1,_⟩:=yW i2 h2 pU
    omega
  ·obtain⟨a1,a2,a3⟩:=yW i1 h1 AN
   by_cases i2:id2∈ids
   ·obtain⟨b1,_⟩:=new i2 h2 pU
    omega
   ·obtain⟨b1,b2,b3⟩:=yW i2 h2 pU
    exact S.inj R7 id2 r1 r2 B1 B2 a2 b2 hw a3 b3 Nc
theorem vw (hm:P.follows .mixedOrders=true) {f:Nat} {args args':List AV} {σ:ar} {K:AV->ar->Prop} (hv:dn (dR σ.get) 6 args=some args')
  (h:Call P f args' ⟨fun _=>none,σ.next⟩ fun r σ'=>∃ids,r.zB=true/\Handed ids σ'.get/\K r ⟨zg ids σ.get σ'.get,σ'.next⟩):Call P f args σ K:=
 gU (HR hv (gC hm h))
end
end Go.Proofs.YtgoelphibofcmaaGreat.V

namespace Go.Proofs.YtgoelphibofcmaaGreat.V
open Go.RowKit
inductive oh:List AV->List AV->Prop
 |nil:oh [] []
 |same (a) {l l'}:oh l l'->oh (a::l) (a::l')
 |ptr (cs rest) {l l'}:oh l l'->oh (.dq (cs++rest)::l) (.dq cs::l')
 |bE {l l'}:oh l l'->oh (.bE::l) (.sl []::l')
theorem MD {P:Program} {w:World} {D:Nat->Prop} {ι:Names} {cs rest:List AV} {v:Value} (h:cL P w D ι (.dq (cs++rest)) v):cL P w D ι (.dq cs) v:=by
 obtain⟨b,o,vs,rfl,h1,h2,h3,h4⟩:=lf h
 exact .eT _ _ (.dq cs b o vs h1 (fun a ha=>h2 a (List.mem_append_left _ ha)) (fun j hj=>h3 j (by rw[List.length_append];omega)) fun j a ha=>h4 j a (by
  have:=(List.getElem?_eq_some_iff.1 ha).1
  rw[List.getElem?_append_left this];exact ha))
theorem MF {P:Program} {w:World} {D:Nat->Prop} {ι:Names} {v:Value} (h:cL P w D ι .bE v):cL P w D ι (.sl []) v:=by
 cases h with
 |eT _ _ h=>
  cases h with
  |bE=>exact .eT _ _ (.AR none 0 (Nat.zero_le _))
theorem oh.len {l l':List AV} (h:oh l l'):l'.length=l.length:=by induction h<;>simp_all
theorem oh.get {P:Program} {w:World} {D:Nat->Prop} {ι:Names} {l l':List AV} (h:oh l l'):∀{j:Nat} {a':AV},l'[j]? =some a'->∃a,l[j]? =some a/\∀v,cL P w D ι a v->cL P w D ι a' v:=by
 induction h with
 |nil=>intro j a' hj;simp at hj
 |same a _ ih=>
  intro j a' hj
  cases j with
  |zero=>simp at hj;subst hj;exact⟨a,rfl,fun _ h=>h⟩
  |succ j=>exact ih (by simpa using hj)
 |ptr cs rest _ ih=>
  intro j a' hj
  cases j with
  |zero=>simp at hj;subst hj;exact⟨_,rfl,fun _ h=>MD h⟩
  |succ j=>exact ih (by simpa using hj)
 |bE _ ih=>
  intro j a' hj
  cases j with
  |zero=>simp at hj;subst hj;exact⟨_,rfl,fun _ h=>MF h⟩
  |succ j=>exact ih (by simpa using hj)
theorem Call.cut {P:Program} (hm:P.follows .mixedOrders=true) {f:Nat} {args args':List AV} {σ:ar} {K:AV->ar->Prop} (hc:oh args args') (h:Call P f args' σ K):Call P f args σ K:=
 gU fun hs D ι w vs S U A=>gC hm h hs D ι w vs S U ⟨by rw[A.1,hc.len],fun j a' hj=>by
  obtain⟨a,ha,hr⟩:=hc.get (P:=P) (w:=w) (D:=D) (ι:=ι) hj
  obtain⟨u,hu,hv⟩:=A.2 j a ha
  exact⟨u,hu,hr u hv⟩⟩
theorem aq.cut {P:Program} (hm:P.follows .mixedOrders=true) {f:Nat} {args args':List AV} {r:AV} (hc:oh args args') (h:aq P f args' r):aq P f args r:=fun n=>(h n).cut hm hc
theorem jq.cut {P:Program} (hm:P.follows .mixedOrders=true) {f:Nat} {args args':List AV} {r:AV} (hc:oh args args') (h:jq P f args' r):jq P f args r:=fun σ=>Call.cut hm hc (h σ)
end Go.Proofs.YtgoelphibofcmaaGreat.V

namespace Go.Proofs.YtgoelphibofcmaaGreat.V
open Go.RowKit
attribute [local irreducible] dO wpOps gy Call
attribute [local go_sem] aT fK eS ga fZ dj upd cF K.av cP AV.cells AV.cell rowOf rowsOf part ld rowAt bL cD dG ef ik bV de ew fW fe dw ek dc db dU dV cj bl cU b4 cW cV ei eo ej cR cm dd eh bW aV cZ cI ij bx cK ck bd du bj dI AV.undef bH bS dW eb dQ dP cJ ev eE cH er ep cY da List.getD_cons_zero List.getD_cons_succ List.getD_nil List.all_cons List.all_nil Bool.and_true Bool.true_and Bool.and_self Bool.not_true Bool.not_false Option.map_some Option.map_none Option.bind_some Option.bind_none List.length_cons List.length_nil List.take_succ_cons List.take_zero List.take_nil List.drop_succ_cons List.drop_zero List.drop_nil List.head?_cons List.map_cons List.map_nil List.getElem?_cons_zero List.getElem?_cons_succ List.cons_append List.nil_append List.append_nil List.length_map List.set_cons_zero List.set_cons_succ eq_self Int.toNat_natCast Int.natCast_nonneg and_self true_and and_true decide_true decide_false Bool.false_eq_true Nat.zero_add Nat.add_zero List.contains_cons List.contains_nil Bool.or_false Bool.false_or beq_self_eq_true ne_eq not_true_eq_false not_false_eq_true Id.mk.injEq false_and and_false Nat.le_refl List.length_append beq_true beq_false Bool.not_eq_eq_eq_not or_false false_or dR ae aj aI bq bG cC aY bh aW bp cQ bJ
section
variable {P:Program} {α:Type} {e:α->List AV} {z:Nat} {g g':Rows} {v:AV} {L:List α} {ids:List Id}
def zj (e:α->List AV) (z:Nat) (g:Rows) (v:AV) (L:List α) (ids:List Id):Prop:=(L=[]/\v=.bE/\ids=[])∨∃o,v=.own o 0 L.length/\g o=some ⟨true,z,L.map e⟩/\ids=[o]/\0<L.length
def TF (e:α->List AV) (L:List α):AV:=if L.length=0 then .bE else .sl (L.map e)
theorem zj.frame (h:zj e z g v L ids) (hf:∀i∈ids,g' i=g i):zj e z g' v L ids:=by
 rcases h with h|⟨o,h1,h2,rfl,hp⟩
 ·exact .inl h
 ·exact .inr ⟨o,h1,(hf o (by simp)).trans h2,rfl,hp⟩
def l9 (e:α->List AV) (L:List α) (w:AV):Prop:=(w=.bE/\L=[])∨w=.sl (L.map e)
theorem zj.fz (h:zj e z g v L ids) (he:∀x g,dn g 5 (e x)=some (e x)):∃w,V.fz (dR g) 6 v=some w/\l9 e L w:=by
 rcases h with⟨rfl,rfl,_⟩|⟨o,rfl,h2,_⟩
 ·exact⟨.bE,aY _ _,.inl ⟨rfl,rfl⟩⟩
 ·exact⟨_,gY (e:=e) (sz:=z) (by simp[dR,h2]) rfl fun x=>he x _,.inr rfl⟩
def vD (P:Program) (f:Nat) (args:List AV) (e:α->List AV) (z:Nat) (L:List α) (c:Int):Prop:=
 ∀n:Nat,Call P f args ⟨fun _=>none,n⟩ (fun r σ'=>∃v ids,r=.gE [v,.int .i64 c]/\zj e z σ'.get v L ids/\gK n σ'.next ids)
theorem sM (hm:P.follows .mixedOrders=true) {f:Nat} {args:List AV} {σ:ar} {K:AV->ar->Prop} (h:Call P f args σ K):Call P f args σ (fun r σ'=>K r σ'/\σ.next<=σ'.next):=
 gU fun hs D ι w vs S U A=>(gC hm h hs D ι w vs S U A).mono (by
  rintro e w' ⟨r,g',n',D2,ι1,u,rfl,hK,T,S1,U1,hn,hR⟩
  exact⟨r,g',n',D2,ι1,u,rfl,⟨hK,hn⟩,T,S1,U1,hn,hR⟩)
theorem Ih (hm:P.follows .mixedOrders=true) {f:Nat} {args args':List AV} {σ:ar} {c:Int} (nf:∀x,(e x).all AV.clean=true) (h:vD P f args' e z L c) (hv:dn (dR σ.get) 6 args=some args'):
  Call P f args σ (fun r σ'=>∃v ids,r=.gE [v,.int .i64 c]/\zj e z σ'.get v L ids/\gK σ.next σ'.next ids/\Kept σ σ'):=by
 refine vw hm hv (aJ _ _ _ _ _ (fun r σ' hq=>?_) (sM hm (h σ.next)))
 obtain⟨⟨v,ids,rfl,ho,hi⟩,hn⟩:=hq
 refine⟨ids,?_,?_,v,ids,rfl,?_,hi,hn,fun j hj=>kP fun hc=>?_⟩
 ·rcases ho with⟨_,rfl,_⟩|⟨o,rfl,_⟩<;>rfl
 ·rcases ho with⟨_,_,rfl⟩|⟨o,_,h2,rfl,_⟩
  ·intro i hi;cases hi
  ·intro i hi
   rw[List.mem_singleton.1 hi]
   refine⟨_,h2,rfl,fun cs dy a ha=>?_⟩
   obtain⟨x,_,rfl⟩:=List.mem_map.1 dy
   have:=nf x
   rw[List.all_eq_true]at this
   exact this a ha
 ·exact ho.frame fun i hi=>pf hi
 ·have:=(hi.2 j hc).1;omega
theorem vD.s {f:Nat} {args:List AV} {c:Int} (he:∀x g,eD g 4 (e x)=some (e x)) (h:vD P f args e z L c):aq P f args (.gE [TF e L,.int .i64 c]):=fun n=>
 aJ _ _ _ _ _ (fun r σ' hq=>by
  obtain⟨v,ids,rfl,ho,hi⟩:=hq
  rcases ho with⟨rfl,rfl,_⟩|⟨o,rfl,h2,_,hp⟩
  ·exact⟨_,by simp only[eU,bw,cr,jw,eu,Option.map_some];rfl,rfl⟩
  ·have:=fw (e:=e) (n:=4) h2 rfl fun x=>he x _
   exact⟨_,by simp only[eU,bw,cr,this,eu,Option.map_some];rfl,by rw[TF,if_neg (by omega)]⟩) (h n)
theorem Cp:l9 e L (TF e L):=by
 unfold TF
 split
 ·rename_i h;exact .inl ⟨rfl,List.eq_nil_of_length_eq_zero h⟩
 ·exact .inr rfl
end
theorem l9.two {α:Type} {e:α->List AV} {L:List α} {w:AV} (h:l9 e L w):oh [w] [.sl (L.map e)]:=by
 rcases h with⟨rfl,rfl⟩|rfl
 ·exact .bE .nil
 ·exact .same _ .nil
theorem l9.cut {α:Type} {e:α->List AV} {L:List α} {w:AV} (h:l9 e L w) {l l':List AV} (hl:oh l l'):oh (w::l) (.sl (L.map e)::l'):=by
 rcases h with⟨rfl,rfl⟩|rfl
 ·exact .bE hl
 ·exact .same _ hl
end Go.Proofs.YtgoelphibofcmaaGreat.V

namespace Go.Proofs.YtgoelphibofcmaaGreat.V
open Go.RowKit
attribute [local irreducible] dO wpOps gy Call
attribute [local go_sem] aT fK eS ga fZ dj upd cF K.av cP AV.cells AV.cell rowOf rowsOf part ld rowAt bL cD dG ef ik bV de ew fW fe dw ek dc db dU dV cj bl cU b4 cW cV ei eo ej cR cm dd eh bW aV cZ cI ij bx cK ck bd du bj dI AV.undef bH bS dW eb dQ dP cJ ev eE cH er ep cY da List.getD_cons_zero List.getD_cons_succ List.getD_nil List.all_cons List.all_nil Bool.and_true Bool.true_and Bool.and_self Bool.not_true Bool.not_false Option.map_some Option.map_none Option.bind_some Option.bind_none List.length_cons List.length_nil List.take_succ_cons List.take_zero List.take_nil List.drop_succ_cons List.drop_zero List.drop_nil List.head?_cons List.map_cons List.map_nil List.getElem?_cons_zero List.getElem?_cons_succ List.cons_append List.nil_append List.append_nil List.length_map List.set_cons_zero List.set_cons_succ Nat.reduceMul eq_self Int.toNat_natCast Int.natCast_nonneg and_self true_and and_true decide_true decide_false Bool.false_eq_true Nat.zero_add Nat.add_zero List.contains_cons List.contains_nil Bool.or_false Bool.false_or beq_self_eq_true Nat.reduceBEq ne_eq not_true_eq_false not_false_eq_true Id.mk.injEq false_and and_false Nat.reduceLT Int.reduceLE Int.reduceLT Int.reduceToNat Int.reduceNeg Int.reduceAdd Nat.le_refl List.length_append beq_true beq_false Bool.not_eq_eq_eq_not or_false false_or dR ae aj aI bq bG cC aY bh aW bp cQ bJ
theorem Hd (i:Id) (l:List ad) (k:Int) (h0:0<=k) (h1:k+3*l.length<=4611686018427387904) (σ:ar) (hv:i.bQ<σ.next) (hg:σ.get i=some ⟨true,3,l.map aa⟩):
  Call Tryz.prog 44 [.own i 0 l.length,.int .i64 k] σ (fun r σ'=>r=.int .i64 (k+3*l.length)/\nK σ [i] σ'.get σ'.next/\σ'.get i=some ⟨true,3,(Ia k l.length).map aa⟩):=by
 refine eQ eK rfl fun hl=>?_
 clear hl
 have hz:jK k l 0=l:=by simp[jK,Ia]
 (try((repeat(revert hN;revert N;apply Pn.out));refine wk @Nat.zero_add ?_;(repeat(refine Pn.mk ?_;intro N hN))))
 refine aZ (fun n env st=>∃j:Nat,n=(l.length)-j/\j<=(l.length)/\env 5=.int .i64 (j:Int)/\env 1=.int .i64 (k+3*j)/\st.get i=some ⟨true,3,(jK k l j).map aa⟩/\(nK σ [i] st.get st.next)) (l.length) ⟨0,by omega,by omega,sl (tw @Int.add_zero (tw @Int.natCast_zero (tw @Int.mul_zero (tw @hz @hg)))),sl (tw @Int.add_zero (tw @Int.natCast_zero (tw @Int.mul_zero (tw @hz @hg)))),sl (tw @Int.add_zero (tw @Int.natCast_zero (tw @Int.mul_zero (tw @hz @hg)))),by(try dsimp only);exact⟨by(try dsimp only);omega,fun x _ _=>rfl⟩⟩ ?_
 rintro n_a env_a st_a ⟨j,rfl,ale,a5,a1,ag0,j4⟩ dx
 have a0:=dx 0 (by kernel_rfl)
 simp only[go_sem, ↓reduceIte,Nat.reduceEqDiff,Nat.reduceAdd,Nat.reduceSub,Nat.reduceLeDiff,reduceCtorEq,Int.add_zero,Int.natCast_zero,Int.mul_zero,hz,hg]at a0
 clear dx
 obtain⟨an,aF⟩:=j4
 by_cases hj:(j:Int)<(l.length:Int)
 ·have cz:∀{e:Env} {gg:Rows} {nx:Nat},(e 5=.int .i64 (IntKind.i64.wrap ((j:Int)+1)))->(e 1=.int .i64 (k+3*(j+1)))->(gg i=some ⟨true,3,(jK k l (j+1)).map aa⟩)->(nK σ [i] gg nx)->∃m0,m0<(l.length)-j/\∃j:Nat,m0=(l.length)-j/\j<=(l.length)/\e 5=.int .i64 (j:Int)/\e 1=.int .i64 (k+3*j)/\gg i=some ⟨true,3,(jK k l j).map aa⟩/\(nK σ [i] gg nx):=fun x1 x2 x3 x4=>⟨_,by omega,j+1,rfl,by omega,(by rw[x1,aA (by omega)]),x2,x3,x4⟩
  have iH:j<l.length:=by omega
  have fq:=FY (k:=k) iH
  have eH:=Ck (k:=k) iH
  have nH:IntKind.i64.wrap (k+3*(j:Int)+1)=k+3*(j:Int)+1:=bI (by omega)
  have qL:IntKind.i64.wrap (k+3*(j:Int)+1+1)=k+3*(j:Int)+2:=by rw[bI (by omega)];omega
  have Nv:IntKind.i64.wrap (k+3*(j:Int)+2+1)=k+3*((j:Int)+1):=by rw[bI (by omega)];omega
  have hlen:((jK k l j).map aa).length=l.length:=by rw[List.length_map,Cj (by omega)]
  have Jj:∀c:List AV,(((jK k l j).map aa).set j c)[j]? =some c:=fun c=>by rw[List.getElem?_set_self (by rw[hlen];exact iH)]
  (try((repeat(revert hN;revert N;apply Pn.out));refine wk (tw @a5 (tw @a1 (tw @ag0 (tw @a0 (tw @hj (tw @fq (tw @Jj (tw @eH (tw @nH (tw @qL (tw @Nv (tw @hlen @sk)))))))))))) ?_;(repeat(refine Pn.mk ?_;intro N hN))))
  refine cz ?_ ?_ ?_ (by(try dsimp only);exact⟨by(try dsimp only);omega,fun x hx hi=>by
   have h2:=aF x hx hi
   have h3:(x=i)=False:=eq_false fun e=>hi (by simp[e])
   simp only[go_sem, ↓reduceIte,Nat.reduceEqDiff,Nat.reduceAdd,Nat.reduceSub,Nat.reduceLeDiff,reduceCtorEq,h2,h3]⟩)
  all_goals simp only[go_sem, ↓reduceIte,Nat.reduceEqDiff,Nat.reduceAdd,Nat.reduceSub,Nat.reduceLeDiff,reduceCtorEq,a5,a1,ag0,a0,Nv,eH]
 ·have iH:j=l.length:=by omega
  subst iH
  (try((repeat(revert hN;revert N;apply Pn.out));refine wk (tw @a5 (tw @a1 (tw @ag0 (tw @a0 @hj)))) ?_;(repeat(refine Pn.mk ?_;intro N hN))))
  have kO:jK k l l.length=Ia k l.length:=by simp[jK]
  rw[kO]at ag0
  exact eX (.inl rfl) (vs:=[.int .i64 (k+3*l.length)]) (sd (tw @a5 (tw @a1 (tw @ag0 @a0)))) ⟨rfl,⟨by(try dsimp only);omega,fun x hx hi=>aF x hx hi⟩,ag0⟩
theorem LC (a b:ad):aq Tryz.prog 26 [.agg (aa a),.agg (aa b)] (.bool (decide (a=b))):=by
 refine aq.body eK rfl fun hl n0=>?_
 clear hl
 have h:=yq a.aQ b.aQ
 rw[ah,ah]at h
 by_cases h1:a.aQ=b.aQ
 ·rw[decide_eq_true h1]at h
  by_cases h2:a.aO=b.aO
  ·have e2:decide (a.aO=b.aO)=true:=decide_eq_true h2
   (repeat(first|((repeat(revert hN;revert N;apply Pn.out));refine wk (tw @aa.eq_1 @e2) ?_;(repeat(refine Pn.mk ?_;intro N hN)))|((try apply Or.inl);refine⟨_,aq.x (h) (sd (tw @aa.eq_1 @e2)),?_⟩;refine hN _ _ ?_;clear hN N)))
   exact bc (b:=true) (.inl rfl) (sd @Nat.zero_add) (decide_eq_true (by cases a;cases b;simp_all)).symm
  ·have e2:decide (a.aO=b.aO)=false:=decide_eq_false h2
   (repeat(first|((repeat(revert hN;revert N;apply Pn.out));refine wk (tw @aa.eq_1 @e2) ?_;(repeat(refine Pn.mk ?_;intro N hN)))|((try apply Or.inl);refine⟨_,aq.x (h) (sd (tw @aa.eq_1 @e2)),?_⟩;refine hN _ _ ?_;clear hN N)))
   exact bc (b:=false) (.inl rfl) (sd @Nat.zero_add) (decide_eq_false (by rintro rfl;exact h2 rfl)).symm
 ·rw[decide_eq_false h1]at h
  (repeat(first|((repeat(revert hN;revert N;apply Pn.out));refine wk @aa.eq_1 ?_;(repeat(refine Pn.mk ?_;intro N hN)))|((try apply Or.inl);refine⟨_,aq.x (h) (sd @aa.eq_1),?_⟩;refine hN _ _ ?_;clear hN N)))
  exact bc (b:=false) (.inl rfl) (sd @Nat.zero_add) (decide_eq_false (by rintro rfl;exact h1 rfl)).symm
theorem IW (xs ys:List ad):aq Tryz.prog 43 [.sl (xs.map aa),.sl (ys.map aa)] (.bool (decide (xs=ys))):=
 zD (show lR Tryz.prog 43=some (Bp 43 26 3) by kernel_rfl) (fun _=>rfl) wz xs ys LC
end Go.Proofs.YtgoelphibofcmaaGreat.V

namespace Go.Proofs.YtgoelphibofcmaaGreat.V
open Go.RowKit
variable {P:Program}
theorem Pf (hm:P.follows .mixedOrders=true) {f:Nat} {args:List AV} {vs:Array Value} {w:World} (h:aq P f args (.bool true)) (hA:fy P w (fun b=>b<w.heap.size) (fun _=>none) args vs):
  Calls P f vs w fun e w'=>e=.returned (.bool true)/\Below w.heap.size w w':=by
 have hs:=gC hm (h 0) w.heap.size (fun b=>b<w.heap.size) (fun _=>none) w vs ⟨Nat.le_refl _,fun _ h=>h,fun id r h=>(by cases h),fun id j5 r r' B B' h=>(by cases h)⟩ (fun id h=>absurd rfl h) hA
 refine hs.mono ?_
 rintro e w' ⟨r,g',n',D',ι',u,rfl,⟨r',hz,rfl⟩,dK,hsim,_,_,gS⟩
 have hr:r=.bool true:=by
  cases r<;>rw[gG]at hz<;>simp_all
  all_goals (repeat' (split at hz))<;>simp_all
 subst hr
 exact⟨by rw[fm gS],dK.below⟩
theorem mz {xs:List AV} {w:World} {D:Nat->Prop} {ι:Names} {a:AV} {v:Value} {vs:Array Value} (h:jQ P w D a v) (k:fy P w D ι xs vs):fy P w D ι (a::xs) (#[v]++vs):=
 o9 (xs:=[a]) ⟨rfl,fun j b hj=>by
  cases j with
  |zero=>simp at hj;subst hj;exact⟨v,rfl,.eT _ _ h⟩
  |succ j=>simp at hj⟩ k
end Go.Proofs.YtgoelphibofcmaaGreat.V

namespace Go.Proofs.YtgoelphibofcmaaGreat.V
open Go.RowKit
attribute [local irreducible] dO wpOps gy Call
attribute [local go_sem] aT fK eS ga fZ dj upd cF K.av cP AV.cells AV.cell rowOf rowsOf part ld rowAt bL cD dG ef ik bV de ew fW fe dw ek dc db dU dV cj bl cU b4 cW cV ei eo ej cR cm dd eh bW aV cZ cI ij bx cK ck bd du bj dI AV.undef bH bS dW eb dQ dP cJ ev eE cH er ep cY da List.getD_cons_zero List.getD_cons_succ List.getD_nil List.all_cons List.all_nil Bool.and_true Bool.true_and Bool.and_self Bool.not_true Bool.not_false Option.map_some Option.map_none Option.bind_some Option.bind_none List.length_cons List.length_nil List.take_succ_cons List.take_zero List.take_nil List.drop_succ_cons List.drop_zero List.drop_nil List.head?_cons List.map_cons List.map_nil List.getElem?_cons_zero List.getElem?_cons_succ List.cons_append List.nil_append List.append_nil List.length_map List.set_cons_zero List.set_cons_succ Nat.reduceMul eq_self Int.toNat_natCast Int.natCast_nonneg and_self true_and and_true decide_true decide_false Bool.false_eq_true Nat.zero_add Nat.add_zero List.contains_cons List.contains_nil Bool.or_false Bool.false_or beq_self_eq_true Nat.reduceBEq ne_eq not_true_eq_false not_false_eq_true Id.mk.injEq false_and and_false Nat.reduceLT Int.reduceLE Int.reduceLT Int.reduceToNat Int.reduceNeg Int.reduceAdd Nat.le_refl List.length_append beq_true beq_false Bool.not_eq_eq_eq_not or_false false_or dR ae aj aI bq bG cC aY bh aW bp cQ bJ
theorem PI {α:Type} (f:α->Nat) {xs:List α} {x:α} (h:x∈xs):f x<=(xs.map f).sum:=by
 induction xs with
 |nil=>cases h
 |cons y ys ih=>
  simp only[List.map_cons,List.sum_cons]
  rcases List.mem_cons.1 h with rfl|h
  ·omega
  ·have:=ih h;omega
theorem HE {s:az} (h:xu s<=1048576):rl s:=by
 unfold xu uH at h
 refine⟨⟨by omega,by omega,fun t ht=>?_⟩,by omega⟩
 have:=PI kE ht
 have h2:t.bD.length<=kE t:=by unfold kE;omega
 unfold sP
 omega
end Go.Proofs.YtgoelphibofcmaaGreat.V

namespace Go.Proofs.YtgoelphibofcmaaGreat.V
open Go.RowKit
attribute [local irreducible] dO wpOps gy Call
attribute [local go_sem] aT fK eS ga fZ dj upd cF K.av cP AV.cells AV.cell rowOf rowsOf part ld rowAt bL cD dG ef ik bV de ew fW fe dw ek dc db dU dV cj bl cU b4 cW cV ei eo ej cR cm dd eh bW aV cZ cI ij bx cK ck bd du bj dI AV.undef bH bS dW eb dQ dP cJ ev eE cH er ep cY da List.getD_cons_zero List.getD_cons_succ List.getD_nil List.all_cons List.all_nil Bool.and_true Bool.true_and Bool.and_self Bool.not_true Bool.not_false Option.map_some Option.map_none Option.bind_some Option.bind_none List.length_cons List.length_nil List.take_succ_cons List.take_zero List.take_nil List.drop_succ_cons List.drop_zero List.drop_nil List.head?_cons List.map_cons List.map_nil List.getElem?_cons_zero List.getElem?_cons_succ List.cons_append List.nil_append List.append_nil List.length_map List.set_cons_zero List.set_cons_succ eq_self Int.toNat_natCast Int.natCast_nonneg and_self true_and and_true decide_true decide_false Bool.false_eq_true Nat.zero_add Nat.add_zero List.contains_cons List.contains_nil Bool.or_false Bool.false_or beq_self_eq_true ne_eq not_true_eq_false not_false_eq_true Id.mk.injEq false_and and_false Nat.le_refl List.length_append beq_true beq_false Bool.not_eq_eq_eq_not or_false false_or dR ae aj aI bq bG cC aY bh aW bp cQ bJ
theorem MN {g:Rows} {v w:AV} {s:az} {i:List Id} (hX:zl g v s i) (hw:fz (dR g) 6 w=some w):dn (dR g) 6 [v,w]=some [.agg (au s),w]:=by
 simp only[ae,aj,hX.fz 1,hw,Option.map_some]
theorem Fs (g:Rows) (s:az):fz g 6 (.agg (au s))=some (.agg (au s)):=by simp[au,bh,ae,aj,cC,aI]
theorem tF {g:Rows} {v w v' w':AV} (h1:fz g 6 v=some v') (h2:fz g 6 w=some w'):dn g 6 [v,w]=some [v',w']:=by
 simp only[ae,aj,h1,h2,Option.map_some]
theorem Mj (s:az):Cc s<=3*xu s:=by
 have h:∀l:List eZ,(l.map gM).sum<=l.length+(l.map kE).sum:=fun l=>by
  induction l with
  |nil=>simp
  |cons t l ih=>simp only[List.map_cons,List.sum_cons,List.length_cons,gM,kE]at *;omega
 have:=h s.aH.ai
 unfold Cc xu uH
 omega
theorem gK.not {a b:Nat} {ids:List Id} (h:gK a b ids) {x:Id} (hx:x.bQ<a∨b<=x.bQ):x∉ids:=fun hc=>by
 have:=h.2 x hc;omega
theorem l9.fz {α:Type} {e:α->List AV} {L:List α} {w:AV} (h:l9 e L w) (g:Rows):V.fz g 6 w=some w:=by
 rcases h with⟨rfl,rfl⟩|rfl
 ·exact aY _ _
 ·exact cC _ _ _
end Go.Proofs.YtgoelphibofcmaaGreat.V

namespace Go.Proofs.YtgoelphibofcmaaGreat.V
open Go.RowKit
attribute [local irreducible] dO wpOps gy Call
attribute [local go_sem] aT fK eS ga fZ dj upd cF K.av cP AV.cells AV.cell rowOf rowsOf part ld rowAt bL cD dG ef ik bV de ew fW fe dw ek dc db dU dV cj bl cU b4 cW cV ei eo ej cR cm dd eh bW aV cZ cI ij bx cK ck bd du bj dI AV.undef bH bS dW eb dQ dP cJ ev eE cH er ep cY da List.getD_cons_zero List.getD_cons_succ List.getD_nil List.all_cons List.all_nil Bool.and_true Bool.true_and Bool.and_self Bool.not_true Bool.not_false Option.map_some Option.map_none Option.bind_some Option.bind_none List.length_cons List.length_nil List.take_succ_cons List.take_zero List.take_nil List.drop_succ_cons List.drop_zero List.drop_nil List.head?_cons List.map_cons List.map_nil List.getElem?_cons_zero List.getElem?_cons_succ List.cons_append List.nil_append List.append_nil List.length_map List.set_cons_zero List.set_cons_succ Nat.reduceMul eq_self Int.toNat_natCast Int.natCast_nonneg and_self true_and and_true decide_true decide_false Bool.false_eq_true Nat.zero_add Nat.add_zero List.contains_cons List.contains_nil Bool.or_false Bool.false_or beq_self_eq_true Nat.reduceBEq ne_eq not_true_eq_false not_false_eq_true Id.mk.injEq false_and and_false Nat.reduceLT Int.reduceLE Int.reduceLT Int.reduceToNat Int.reduceNeg Int.reduceAdd Nat.le_refl List.length_append beq_true beq_false Bool.not_eq_eq_eq_not or_false false_or dR ae aj aI bq bG cC aY bh aW bp cQ bJ
theorem Kw (xs:List ad) (l:Int) (h0:0<=l) (h1:l<=1048576):aq Tryz.prog 50 [.sl (xs.map aa),.int .i64 l] (.int .i64 (xE xs.length l)):=by
 have h:=EY (show lR Tryz.prog 50=some (F7 50) by kernel_rfl) (xs.map aa) l h0 h1
 rwa [List.length_map]at h
theorem E5 (p:ad):jq Tryz.prog 39 [.agg (aa p)] (.agg (aa p)):=by
 refine jq.body eK rfl fun hl σ=>?_
 clear hl
 have h:=pP p.aQ
 rw[ah]at h
 (repeat(first|((repeat(revert hN;revert N;apply Pn.out));refine wk @aa.eq_1 ?_;(repeat(refine Pn.mk ?_;intro N hN)))|((try apply Or.inl);refine⟨_,jq.x (h) _,?_⟩;refine hN _ _ ?_;clear hN N)))
 exact tt (.inl rfl) (vs:=[.agg (aa p)]) (by simp only[go_sem, ↓reduceIte,Nat.reduceEqDiff,Nat.reduceAdd,Nat.reduceSub,Nat.reduceLeDiff,reduceCtorEq,fx,iw,aa]) (by simp[eY,aa,bh,ae,aj,aI])
theorem KJ (xs:List ad) (h:xs.length<=1048576):jq Tryz.prog 52 [.sl (xs.map aa)] (.sl (xs.map aa)):=
 Ax (show lR Tryz.prog 52=some (qj 52 39 3 [.int .i64 0,.int .i64 0,.int .i64 0]) by kernel_rfl) rfl (fun _=>rfl) (fun _=>rfl) y8 xs h fun x _=>E5 x
theorem E4 (p:ad) (σ:ar):Call Tryz.prog 39 [.agg (aa p)] σ (Im (jf aa) p σ):=by
 refine eQ eK rfl fun hl=>?_
 clear hl
 have h:=pP p.aQ
 rw[ah]at h
 (repeat(first|((repeat(revert hN;revert N;apply Pn.out));refine wk @aa.eq_1 ?_;(repeat(refine Pn.mk ?_;intro N hN)))|((try apply Or.inl);refine⟨_,jq.x (h) _,?_⟩;refine hN _ _ ?_;clear hN N)))
 refine eX (.inl rfl) (vs:=[.agg (aa p)]) (sd @aa.eq_1) ?_
 exact⟨_,[],rfl,⟨rfl,rfl⟩,⟨List.nodup_nil,fun i hi=>by cases hi⟩,⟨by(try dsimp only);omega,fun j hj=>by
  have h1:=dr hj
  simp only[go_sem, ↓reduceIte,Nat.reduceEqDiff,Nat.reduceAdd,Nat.reduceSub,Nat.reduceLeDiff,reduceCtorEq,h1]⟩⟩
theorem KI (xs:List ad) (h:xs.length<=1048576) (σ:ar):Call Tryz.prog 52 [.sl (xs.map aa)] σ (Io (jf aa) 3 xs σ):=
 vg qd (show lR Tryz.prog 52=some (qj 52 39 3 [.int .i64 0,.int .i64 0,.int .i64 0]) by kernel_rfl) rfl (fun _=>rfl) xs h (fun x _ σ=>E4 x σ) σ
def H9 (k:Int) (n:Nat):List Int:=(List.range n).map fun j:Nat=>k+(j:Int)
theorem iU (k:Int) (n:Nat):(H9 k n).length=n:=by simp[H9]
def jC (k:Int) (l:List Int) (j:Nat):List Int:=H9 k j++l.drop j
theorem yQ {k:Int} {l:List Int} {j:Nat} (h:j<=l.length):(jC k l j).length=l.length:=by simp[jC,iU];omega
theorem JT {k:Int} {l:List Int} {j:Nat} (h:j<l.length):((jC k l j).map aE)[j]? =some [.int .i64 l[j]]:=by
 have h2:j<(jC k l j).length:=by rw[yQ (by omega)];exact h
 have h3:(jC k l j)[j]'h2=l[j]:=by simp[jC,List.getElem_append,iU]
 rw[Bl h2,h3]
theorem Hg {k:Int} {l:List Int} {j:Nat} (h:j<l.length):((jC k l j).map aE).set j [.int .i64 (k+(j:Int))]=(jC k l (j+1)).map aE:=by
 have h1:(jC k l j).set j (k+(j:Int))=jC k l (j+1):=by
  unfold jC
  rw[List.set_append_right _ _ (by rw[iU];omega),iU,Nat.sub_self]
  have h2:l.drop j=l[j]::l.drop (j+1):=List.drop_eq_getElem_cons h
  rw[h2,List.set_cons_zero]
  simp[H9,List.range_succ]
 rw[<-h1,List.map_set];rfl
theorem Ml (i:Id) (l:List Int) (k:Int) (h0:0<=k) (h1:k+l.length<=4611686018427387904) (σ:ar) (hv:i.bQ<σ.next) (hg:σ.get i=some ⟨true,1,l.map aE⟩):
  Call Tryz.prog 33 [.own i 0 l.length,.int .i64 k] σ (fun r σ'=>r=.int .i64 (k+l.length)/\nK σ [i] σ'.get σ'.next/\σ'.get i=some ⟨true,1,(H9 k l.length).map aE⟩):=by
 refine eQ eK rfl fun hl=>?_
 clear hl
 have hz:jC k l 0=l:=by simp[jC,H9]
 (try((repeat(revert hN;revert N;apply Pn.out));refine wk @Nat.zero_add ?_;(repeat(refine Pn.mk ?_;intro N hN))))
 refine aZ (fun n env st=>∃j:Nat,n=(l.length)-j/\j<=(l.length)/\env 5=.int .i64 (j:Int)/\env 1=.int .i64 (k+j)/\st.get i=some ⟨true,1,(jC k l j).map aE⟩/\(nK σ [i] st.get st.next)) (l.length) ⟨0,by omega,by omega,sl (tw @Int.add_zero (tw @Int.natCast_zero (tw @hz @hg))),sl (tw @Int.add_zero (tw @Int.natCast_zero (tw @hz @hg))),sl (tw @Int.add_zero (tw @Int.natCast_zero (tw @hz @hg))),by(try dsimp only);exact⟨by(try dsimp only);omega,fun x _ _=>rfl⟩⟩ ?_
 rintro n_a env_a st_a ⟨j,rfl,ale,a5,a1,ag0,j4⟩ dx
 have a0:=dx 0 (by kernel_rfl)
 simp only[go_sem, ↓reduceIte,Nat.reduceEqDiff,Nat.reduceAdd,Nat.reduceSub,Nat.reduceLeDiff,reduceCtorEq,Int.add_zero,Int.natCast_zero,hz,hg]at a0
 clear dx
 obtain⟨an,aF⟩:=j4
 by_cases hj:(j:Int)<(l.length:Int)
 ·have cz:∀{e:Env} {gg:Rows} {nx:Nat},(e 5=.int .i64 (IntKind.i64.wrap ((j:Int)+1)))->(e 1=.int .i64 (k+(j+1)))->(gg i=some ⟨true,1,(jC k l (j+1)).map aE⟩)->(nK σ [i] gg nx)->∃m0,m0<(l.length)-j/\∃j:Nat,m0=(l.length)-j/\j<=(l.length)/\e 5=.int .i64 (j:Int)/\e 1=.int .i64 (k+j)/\gg i=some ⟨true,1,(jC k l j).map aE⟩/\(nK σ [i] gg nx):=fun x1 x2 x3 x4=>⟨_,by omega,j+1,rfl,by omega,(by rw[x1,aA (by omega)]),x2,x3,x4⟩
  have iH:j<l.length:=by omega
  have fq:=JT (k:=k) iH
  have eH:=Hg (k:=k) iH
  have hw:IntKind.i64.wrap (k+(j:Int)+1)=k+((j:Int)+1):=by rw[bI (by omega)];omega
  have hlen:((jC k l j).map aE).length=l.length:=by rw[List.length_map,yQ (by omega)]
  (try((repeat(revert hN;revert N;apply Pn.out));refine wk (tw @a5 (tw @a1 (tw @ag0 (tw @a0 (tw @hj (tw @fq (tw @eH (tw @hw @hlen)))))))) ?_;(repeat(refine Pn.mk ?_;intro N hN))))
  refine cz ?_ ?_ ?_ (by(try dsimp only);exact⟨by(try dsimp only);omega,fun x hx hi=>by
   have h2:=aF x hx hi
   have h3:(x=i)=False:=eq_false fun e=>hi (by simp[e])
   simp only[go_sem, ↓reduceIte,Nat.reduceEqDiff,Nat.reduceAdd,Nat.reduceSub,Nat.reduceLeDiff,reduceCtorEq,h2,h3]⟩)
  all_goals simp only[go_sem, ↓reduceIte,Nat.reduceEqDiff,Nat.reduceAdd,Nat.reduceSub,Nat.reduceLeDiff,reduceCtorEq,a5,a1,ag0,a0,hw,eH]
 ·have iH:j=l.length:=by omega
  subst iH
  (try((repeat(revert hN;revert N;apply Pn.out));refine wk (tw @a5 (tw @a1 (tw @ag0 (tw @a0 @hj)))) ?_;(repeat(refine Pn.mk ?_;intro N hN))))
  have kO:jC k l l.length=H9 k l.length:=by simp[jC]
  rw[kO]at ag0
  exact eX (.inl rfl) (vs:=[.int .i64 (k+l.length)]) (sd (tw @a5 (tw @a1 (tw @ag0 @a0)))) ⟨rfl,⟨by(try dsimp only);omega,fun x hx hi=>aF x hx hi⟩,ag0⟩
theorem JR (k:Int) (σ:ar):Call Tryz.prog 33 [.bE,.int .i64 k] σ (fun r σ'=>r=.int .i64 k/\nK σ [] σ'.get σ'.next):=by
 refine eQ eK rfl fun hl=>?_
 clear hl
 (try((repeat(revert hN;revert N;apply Pn.out));refine wk @Nat.zero_add ?_;(repeat(refine Pn.mk ?_;intro N hN))))
 refine aZ (fun n env st=>(env 1=.int .i64 k/\env 5=.int .i64 0/\env 0=.bE)/\σ.next<=st.next/\∀x:Id,st.get x=σ.get x) 0 ⟨⟨sd @Nat.zero_add,sd @Nat.zero_add,sd @Nat.zero_add⟩,by(try dsimp only);omega,fun _=>rfl⟩ ?_
 rintro m e st ⟨⟨a1,a5,a0⟩,an,aF⟩ -
 have d0:decide ((0:Int)<((0:Nat):Int))=false:=rfl
 (try((repeat(revert hN;revert N;apply Pn.out));refine wk (tw @a0 (tw @a1 (tw @a5 @d0))) ?_;(repeat(refine Pn.mk ?_;intro N hN))))
 exact eX (.inl rfl) (vs:=[.int .i64 k]) (sd @a1) ⟨rfl,⟨by(try dsimp only);omega,fun x hx hi=>aF x⟩⟩
theorem JS {v:AV} {L:List Int} {ids:List Id} (k:Int) (h0:0<=k) (h1:k+L.length<=4611686018427387904) (σ:ar) (hv:∀i∈ids,i.bQ<σ.next) (h:zj aE 1 σ.get v L ids):
  Call Tryz.prog 33 [v,.int .i64 k] σ (fun r σ'=>r=.int .i64 (k+L.length)/\nK σ ids σ'.get σ'.next/\zj aE 1 σ'.get v (H9 k L.length) ids):=by
 rcases h with⟨rfl,rfl,rfl⟩|⟨o,rfl,h2,rfl,hp⟩
 ·refine aJ _ _ _ _ _ (fun r σ' hq=>?_) (JR k σ)
  obtain⟨rfl,hB⟩:=hq
  exact⟨by simp,hB,.inl ⟨rfl,rfl,rfl⟩⟩
 ·refine aJ _ _ _ _ _ (fun r σ' hq=>?_) (Ml o L k h0 h1 σ (hv o (by simp)) h2)
  obtain⟨rfl,hB,hg⟩:=hq
  exact⟨rfl,hB,.inr ⟨o,by rw[iU],hg,rfl,by rw[iU];exact hp⟩⟩
theorem Pk (k:Int) {n j:Nat} (h:j<n):((H9 k n).map aE)[j]? =some [.int .i64 (k+(j:Int))]:=by
 simp[H9,h,aE]
theorem LM (k:Int) (n:Nat) (h0:0<=k) (h1:k+n<=4611686018427387904):aq Tryz.prog 34 [.sl ((H9 k n).map aE),.int .i64 k] (.int .i64 (k+n)):=by
 refine aq.body eK rfl fun hl n0=>?_
 clear hl
 obtain⟨m,hm⟩:∃m,n=m:=⟨_,rfl⟩
 rw[hm]at h1 ⊢
 (try((repeat(revert hN;revert N;apply Pn.out));refine wk @iU ?_;(repeat(refine Pn.mk ?_;intro N hN))))
 refine aZ (fun n env st=>∃j:Nat,n=(m)-j/\j<=(m)/\env 5=.int .i64 (j:Int)/\env 1=.int .i64 (k+j)) (m) ⟨0,by omega,by omega,sl (tw @Int.add_zero (tw @Int.natCast_zero @iU)),sl (tw @Int.add_zero (tw @Int.natCast_zero @iU))⟩ ?_
 rintro n_a env_a st_a ⟨j,rfl,ale,a5,a1⟩ dx
 have a0:=dx 0 (by kernel_rfl)
 simp only[go_sem, ↓reduceIte,Nat.reduceEqDiff,Nat.reduceAdd,Nat.reduceSub,Nat.reduceLeDiff,reduceCtorEq,Int.add_zero,Int.natCast_zero,iU]at a0
 clear dx
 by_cases hj:(j:Int)<(m:Int)
 ·have cz:∀{e:Env},(e 5=.int .i64 (IntKind.i64.wrap ((j:Int)+1)))->(e 1=.int .i64 (k+(j+1)))->∃m0,m0<(m)-j/\∃j:Nat,m0=(m)-j/\j<=(m)/\e 5=.int .i64 (j:Int)/\e 1=.int .i64 (k+j):=fun x1 x2=>⟨_,by omega,j+1,rfl,by omega,(by rw[x1,aA (by omega)]),x2⟩
  have fq:=Pk k (n:=m) (j:=j) (by omega)
  have hw:IntKind.i64.wrap (k+(j:Int)+1)=k+((j:Int)+1):=by rw[bI (by omega)];omega
  have e1:decide (k+(j:Int)=k+(j:Int))=true:=decide_eq_true rfl
  (try((repeat(revert hN;revert N;apply Pn.out));refine wk (tw @a5 (tw @a1 (tw @a0 (tw @hj (tw @fq (tw @hw (tw @iU @e1))))))) ?_;(repeat(refine Pn.mk ?_;intro N hN))))
  refine cz ?_ ?_
  all_goals simp only[go_sem, ↓reduceIte,Nat.reduceEqDiff,Nat.reduceAdd,Nat.reduceSub,Nat.reduceLeDiff,reduceCtorEq,a5,a1,a0,hw]
 ·have iH:j=m:=by omega
  subst iH
  (try((repeat(revert hN;revert N;apply Pn.out));refine wk (tw @a5 (tw @a1 (tw @a0 (tw @hj @iU)))) ?_;(repeat(refine Pn.mk ?_;intro N hN))))
  exact cN (b:=k+(j:Int)) (.inl rfl) (sd (tw @a5 (tw @a1 @a0))) rfl
theorem BF {w:AV} (k:Int) (n:Nat) (h0:0<=k) (h1:k+n<=4611686018427387904) (hw:l9 aE (H9 k n) w):aq Tryz.prog 34 [w,.int .i64 k] (.int .i64 (k+n)):=
 (LM k n h0 h1).cut mixed (hw.cut (.same _ .nil))
theorem Dv {L:List Int} {v w:AV} (hv:l9 aE L v) (hw:l9 aE L w):aq Tryz.prog 30 [v,w] (.bool true):=by
 have h:=Bm L L
 rw[decide_eq_true rfl]at h
 exact h.cut mixed (hv.cut (hw.cut .nil))
theorem Es (v:AV) (es:List ad) (ids:List Id) (k:Int) (h0:0<=k) (h1:k+3*es.length<=4611686018427387904) (σ:ar) (hv:∀i∈ids,i.bQ<σ.next) (hg:gJ (jf aa) 3 σ.get v es ids):
  Call Tryz.prog 44 [v,.int .i64 k] σ (fun r σ'=>r=.int .i64 (k+3*es.length)/\nK σ ids σ'.get σ'.next):=by
 obtain⟨o,rfl,ho,rfl⟩:=hg.flat
 refine aJ _ _ _ _ _ (fun r σ' hq=>?_) (Hd o es k h0 h1 σ (hv o (by simp)) ho)
 exact⟨hq.1,hq.2.1⟩
theorem gJ.fzO {g:Rows} {v:AV} {es:List ad} {ids:List Id} (n:Nat) (h:gJ (jf aa) 3 g v es ids):V.fz (dR g) (n+2) v=some (.sl (es.map aa)):=
 h.fz (n:=n+1) fun {cs x ids} hr=>by
  obtain⟨rfl,_⟩:=hr
  simp[aa,ae,aj,aI]
end Go.Proofs.YtgoelphibofcmaaGreat.V

namespace Go.Proofs.YtgoelphibofcmaaGreat.V
open Go.RowKit
attribute [local irreducible] dO wpOps gy Call
attribute [local go_sem] aT fK eS ga fZ dj upd cF K.av cP AV.cells AV.cell rowOf rowsOf part ld rowAt bL cD dG ef ik bV de ew fW fe dw ek dc db dU dV cj bl cU b4 cW cV ei eo ej cR cm dd eh bW aV cZ cI ij bx cK ck bd du bj dI AV.undef bH bS dW eb dQ dP cJ ev eE cH er ep cY da List.getD_cons_zero List.getD_cons_succ List.getD_nil List.all_cons List.all_nil Bool.and_true Bool.true_and Bool.and_self Bool.not_true Bool.not_false Option.map_some Option.map_none Option.bind_some Option.bind_none List.length_cons List.length_nil List.take_succ_cons List.take_zero List.take_nil List.drop_succ_cons List.drop_zero List.drop_nil List.head?_cons List.map_cons List.map_nil List.getElem?_cons_zero List.getElem?_cons_succ List.cons_append List.nil_append List.append_nil List.length_map List.set_cons_zero List.set_cons_succ Nat.reduceMul eq_self Int.toNat_natCast Int.natCast_nonneg and_self true_and and_true decide_true decide_false Bool.false_eq_true Nat.zero_add Nat.add_zero List.contains_cons List.contains_nil Bool.or_false Bool.false_or beq_self_eq_true Nat.reduceBEq ne_eq not_true_eq_false not_false_eq_true Id.mk.injEq false_and and_false Nat.reduceLT Int.reduceLE Int.reduceLT Int.reduceToNat Int.reduceNeg Int.reduceAdd Nat.le_refl List.length_append beq_true beq_false Bool.not_eq_eq_eq_not or_false false_or dR ae aj aI bq bG cC aY bh aW bp cQ bJ
theorem Pv (x:Int) (g:Rows):eD g 4 (aE x)=some (aE x):=by simp[aE,bw,cr,eu]
theorem HF {g:Rows} {v w:AV} {s:az} {a:List ad} {i j:List Id} (hX:zl g v s i) (hY:gJ (jf aa) 3 g w a j):dn (dR g) 6 [v,w]=some [.agg (au s),.sl (a.map aa)]:=by
 simp only[ae,aj,hX.fz 1,hY.fzO 4,Option.map_some]
theorem Ms {g:Rows} {v w:AV} {a:List ad} {i:List Id} (hX:gJ (jf aa) 3 g v a i) (hw:fz (dR g) 6 w=some w):dn (dR g) 6 [v,w]=some [.sl (a.map aa),w]:=by
 simp only[ae,aj,hX.fzO 4,hw,Option.map_some]
theorem Me (NW:az->List ad->List Int×Int)
  (RN:∀s a,gn s.aH->rl s->a.length<=1048576->∃w,l9 aE (NW s a).1 w/\jq Tryz.prog 51 [.agg (au s),.sl (a.map aa)] (.gE [w,.int .i64 (NW s a).2]))
  (Ry:∀s a,gn s.aH->rl s->a.length<=1048576->vD Tryz.prog 53 [.agg (au s),.sl (a.map aa)] aE 1 (NW s a).1 (NW s a).2)
  (hlen:∀s a,rl s->a.length<=1048576->(NW s a).1.length<=1152921504606846976)
  (s:az) (a:List ad) (hn:gn s.aH):aq Tryz.prog 12 [.agg (au s),.sl (a.map aa)] (.bool true):=by
 refine aq.body eK rfl fun hl n0=>?_
 clear hl
 have h1:=EZ s 1048576 (by omega) (by omega) hn
 by_cases hf:(xu s:Int)<=1048576
 ·rw[iK hf]at h1
  have kG:¬(1048576:Int)-(xu s:Int)<0:=by omega
  have h2:=Kw a (1048576-xu s) (by omega) (by omega)
  by_cases hg:(a.length:Int)<=1048576-xu s
  ·rw[iK hg]at h2
   have FC:¬(1048576:Int)-(xu s:Int)-(a.length:Int)<0:=by omega
   have sm:=HE (s:=s) (by omega)
   have am:a.length<=1048576:=by omega
   have t1:=E9 s sm
   have t2:=KJ a am
   obtain⟨w,hw,r1⟩:=RN s a hn sm am
   have r2:=Ry s a hn sm am
   have q1:=Dx s
   have q2:=IW a a
   rw[decide_eq_true rfl]at q2
   have hL:=hlen s a sm am
   obtain⟨L,hLe⟩:∃L,(NW s a).1=L:=⟨_,rfl⟩
   obtain⟨c,hc⟩:∃c,(NW s a).2=c:=⟨_,rfl⟩
   rw[hc]at r1
   rw[hLe,hc]at r2
   rw[hLe]at hw hL
   have JB:=fun σ=>E8 s sm σ
   have TC:=fun σ=>KI a am σ
   rw[au]at JB
   have e2:decide (c=c)=true:=by simp
   rw[au]at h1
   (repeat(first|((repeat(revert hN;revert N;apply Pn.out));refine wk (tw @au.eq_1 (tw @kG @FC)) ?_;(repeat(refine Pn.mk ?_;intro N hN)))|((try apply Or.inl);refine⟨_,aq.x (h1) (sd (tw @au.eq_1 (tw @kG @FC))),?_⟩;refine hN _ _ ?_;clear hN N)|((try apply Or.inl);refine⟨_,aq.x (h2) (sd (tw @au.eq_1 (tw @kG @FC))),?_⟩;refine hN _ _ ?_;clear hN N)))
   refine .inl ⟨_,jq.x (by rw[au]at t1;exact t1) _,?_⟩
   refine hN _ _ ?_
   clear hN N
   (try((repeat(revert hN;revert N;apply Pn.out));refine wk @Nat.zero_add ?_;(repeat(refine Pn.mk ?_;intro N hN))))
   refine .inl ⟨_,jq.x t2 _,?_⟩
   refine hN _ _ ?_
   clear hN N
   (try((repeat(revert hN;revert N;apply Pn.out));refine wk @Nat.zero_add ?_;(repeat(refine Pn.mk ?_;intro N hN))))
   refine .inl ⟨_,jq.x (by rw[au]at r1;exact r1) _,?_⟩
   refine hN _ _ ?_
   clear hN N
   (try((repeat(revert hN;revert N;apply Pn.out));refine wk @Nat.zero_add ?_;(repeat(refine Pn.mk ?_;intro N hN))))
   refine .inr (aJ _ _ _ _ _ (fun r σ1 hq=>?_) (JB _))
   obtain⟨iX,hX,Qk,SX⟩:=hq
   obtain⟨g1,x1⟩:=σ1
   (try dsimp only at hX Qk SX)
   obtain⟨A,B,C,j1,j2,j3,rfl,hA,hB,hC,rfl⟩:=hX.ex
   obtain⟨oA,rfl⟩:=hA.kY
   obtain⟨oB,rfl⟩:=hB.kY
   obtain⟨oC,rfl⟩:=hC.kY
   clear hA hB hC
   have nX:=SX.1
   have bX:=Qk.2
   (try dsimp only at nX bX)
   have kA:=SX.2 ⟨12000000,n0⟩ (by(try dsimp only);omega)
   simp only[go_sem, ↓reduceIte,Nat.reduceEqDiff,Nat.reduceAdd,Nat.reduceSub,Nat.reduceLeDiff,reduceCtorEq]at kA
   refine hN _ _ ?_
   clear hN N
   (try((repeat(revert hN;revert N;apply Pn.out));refine wk @kA ?_;(repeat(refine Pn.mk ?_;intro N hN))))
   refine .inr (aJ _ _ _ _ _ (fun r σ2 hq=>?_) (TC _))
   obtain⟨iY,hD,SV,Ql⟩:=hq
   obtain⟨g2,x2⟩:=σ2
   (try dsimp only at hD SV Ql)
   obtain⟨oD,rfl⟩:=hD.kY
   have hY:=hD
   have nY:=Ql.1
   have bY:=SV.2
   (try dsimp only at nY bY)
   have lA:=Ql.2 ⟨12000000,n0⟩ (by(try dsimp only);omega)
   have lX:=Ql.2 ⟨12009002,x1⟩ (by(try dsimp only);omega)
   have vA:=dr (i:=⟨12000000,n0⟩) (n:=x1) (by(try dsimp only);omega)
   simp only[go_sem, ↓reduceIte,Nat.reduceEqDiff,Nat.reduceAdd,Nat.reduceSub,Nat.reduceLeDiff,reduceCtorEq,kA,vA]at lA lX
   have Rf:=hX.frame (g':=g2) fun i hi=>by
    have h3:=bX i hi
    have h4:=Ql.2 i (by(try dsimp only);omega)
    have h5:=dr (i:=i) (n:=x1) (by omega)
    simp only[go_sem, ↓reduceIte,Nat.reduceEqDiff,Nat.reduceAdd,Nat.reduceSub,Nat.reduceLeDiff,reduceCtorEq,h5]at h4
    exact h4
   clear hX SX Ql hD kA
   refine hN _ _ ?_
   clear hN N
   have uX:=dr (i:=⟨12009002,x1⟩) (n:=x2) (by(try dsimp only);omega)
   (try((repeat(revert hN;revert N;apply Pn.out));refine wk (tw @lA (tw @lX @uX)) ?_;(repeat(refine Pn.mk ?_;intro N hN))))
   refine .inr (aJ _ _ _ _ _ (fun r σ3 hq=>?_) (Ih mixed (fun _=>rfl) r2 (HF (Rf.frame fun i hi=>by
    have h5:=dr (i:=i) (n:=x2) (by have:=bX i hi;omega)
    simp only[go_sem, ↓reduceIte,Nat.reduceEqDiff,Nat.reduceAdd,Nat.reduceSub,Nat.reduceLeDiff,reduceCtorEq,h5]) (hY.frame qd fun i hi=>by
    have h5:=dr (i:=i) (n:=x2) (by have:=bY i hi;omega)
    simp only[go_sem, ↓reduceIte,Nat.reduceEqDiff,Nat.reduceAdd,Nat.reduceSub,Nat.reduceLeDiff,reduceCtorEq,h5]))))
   obtain⟨v,iZ,rfl,hZ,Uv,Qm⟩:=hq
   obtain⟨g3,x3⟩:=σ3
   (try dsimp only at hZ Uv Qm)
   have nZ:=Qm.1
   have bZ:=Uv.2
   (try dsimp only at nZ bZ)
   have wA:=dr (i:=⟨12000000,n0⟩) (n:=x2) (by(try dsimp only);omega)
   have mA:=Qm.2 ⟨12000000,n0⟩ (by(try dsimp only);omega)
   have mX:=Qm.2 ⟨12009002,x1⟩ (by(try dsimp only);omega)
   simp only[go_sem, ↓reduceIte,Nat.reduceEqDiff,Nat.reduceAdd,Nat.reduceSub,Nat.reduceLeDiff,reduceCtorEq,lA,lX,wA,uX]at mA mX
   have fr3:∀i:Id,i.bQ<x2->g3 i=g2 i:=fun i hi=>by
    have h4:=Qm.2 i (by(try dsimp only);omega)
    have h5:=dr (i:=i) (n:=x2) hi
    simp only[go_sem, ↓reduceIte,Nat.reduceEqDiff,Nat.reduceAdd,Nat.reduceSub,Nat.reduceLeDiff,reduceCtorEq,h5]at h4
    exact h4
   have UE:=Rf.frame (g':=g3) fun i hi=>fr3 i (by have:=bX i hi;omega)
   have UG:=hY.frame qd (g':=g3) fun i hi=>fr3 i (by have:=bY i hi;omega)
   clear Rf hY Qm lA lX
   obtain⟨wv,qf,OO⟩:=hZ.fz fun x g=>by simp[aE,ae,aj,aI]
   refine hN _ _ ?_
   clear hN N
   (try((repeat(revert hN;revert N;apply Pn.out));refine wk (tw @mA @mX) ?_;(repeat(refine Pn.mk ?_;intro N hN))))
   refine .inl ⟨_,aq.x (Dv OO hw) (tF qf (hw.fz _)),?_⟩
   refine hN _ _ ?_
   clear hN N
   (try((repeat(revert hN;revert N;apply Pn.out));refine wk (tw @mA (tw @mX @e2)) ?_;(repeat(refine Pn.mk ?_;intro N hN))))
   refine⟨_,jq.x (by rw[au]at t1;exact t1) _,?_⟩
   refine hN _ _ ?_
   clear hN N
   (try((repeat(revert hN;revert N;apply Pn.out));refine wk (tw @mA (tw @mX @e2)) ?_;(repeat(refine Pn.mk ?_;intro N hN))))
   refine⟨_,aq.x (by rw[au]at q1;exact q1) (by rw[<-au];exact MN UE (Fs _ _)),?_⟩
   refine hN _ _ ?_
   clear hN N
   (try((repeat(revert hN;revert N;apply Pn.out));refine wk (tw @mA (tw @mX @e2)) ?_;(repeat(refine Pn.mk ?_;intro N hN))))
   refine .inl ⟨_,jq.x t2 _,?_⟩
   refine hN _ _ ?_
   clear hN N
   (try((repeat(revert hN;revert N;apply Pn.out));refine wk (tw @mA (tw @mX @e2)) ?_;(repeat(refine Pn.mk ?_;intro N hN))))
   refine .inl ⟨_,aq.x q2 (Ms UG (cC _ _ _)),?_⟩
   refine hN _ _ ?_
   clear hN N
   (try((repeat(revert hN;revert N;apply Pn.out));refine wk (tw @mA (tw @mX @e2)) ?_;(repeat(refine Pn.mk ?_;intro N hN))))
   have OQ:=Mj s
   have hns:=Qk.not (x:=⟨12000000,n0⟩) (by(try dsimp only);omega)
   refine .inr (aJ _ _ _ _ _ (fun r σ4 hq=>?_) (Hf _ s _ 1 (by omega) sm.s.t (by omega) _ (fun i hi=>by have:=bX i hi;(try dsimp only);omega) Qk.1 UE))
   obtain⟨rfl,hM⟩:=hq
   obtain⟨g4,x4⟩:=σ4
   (try dsimp only at hM)
   have nM:=hM.1
   (try dsimp only at nM)
   have pA:=(hM.2 ⟨12000000,n0⟩ (by(try dsimp only);omega) hns).trans mA
   have hY4:=UG.frame qd (g':=g4) fun i hi=>hM.2 i (by have:=bY i hi;(try dsimp only);omega) (Qk.not (by have:=bY i hi;omega))
   have hZ4:=hZ.frame (g':=g4) fun i hi=>hM.2 i (by have:=bZ i hi;(try dsimp only);omega) (Qk.not (by have:=bZ i hi;omega))
   clear hM UE UG hZ mA mX qf
   refine hN _ _ ?_
   clear hN N
   (try((repeat(revert hN;revert N;apply Pn.out));refine wk @pA ?_;(repeat(refine Pn.mk ?_;intro N hN))))
   refine .inr (aJ _ _ _ _ _ (fun r σ5 hq=>?_) (Es _ a _ (1+Cc s) (by omega) (by omega) _ (fun i hi=>by have:=bY i hi;(try dsimp only);omega) hY4))
   obtain⟨rfl,hM⟩:=hq
   obtain⟨g5,x5⟩:=σ5
   (try dsimp only at hM)
   have nN:=hM.1
   (try dsimp only at nN)
   have rA:=(hM.2 ⟨12000000,n0⟩ (by(try dsimp only);omega) (SV.not (by(try dsimp only);omega))).trans pA
   have UH:=hZ4.frame (g':=g5) fun i hi=>hM.2 i (by have:=bZ i hi;(try dsimp only);omega) (SV.not (by have:=bZ i hi;omega))
   clear hM hY4 hZ4 pA
   obtain⟨wv5,qf,OO⟩:=UH.fz fun x g=>by simp[aE,ae,aj,aI]
   have e3:decide (1+(Cc s:Int)+3*(a.length:Int)<0)=false:=decide_eq_false (by omega)
   refine hN _ _ ?_
   clear hN N
   (try((repeat(revert hN;revert N;apply Pn.out));refine wk (tw @rA @e3) ?_;(repeat(refine Pn.mk ?_;intro N hN))))
   refine .inl ⟨_,aq.x (Dv OO hw) (tF qf (hw.fz _)),?_⟩
   refine hN _ _ ?_
   clear hN N
   (try((repeat(revert hN;revert N;apply Pn.out));refine wk (tw @rA (tw @e2 @e3)) ?_;(repeat(refine Pn.mk ?_;intro N hN))))
   refine .inr (aJ _ _ _ _ _ (fun r σ6 hq=>?_) (JS 1 (by omega) (by omega) _ (fun i hi=>by have:=bZ i hi;(try dsimp only);omega) UH))
   obtain⟨rfl,hM,hZ6⟩:=hq
   obtain⟨g6,x6⟩:=σ6
   (try dsimp only at hM hZ6)
   have sA:=(hM.2 ⟨12000000,n0⟩ (by(try dsimp only);omega) (Uv.not (by(try dsimp only);omega))).trans rA
   clear hM UH rA qf OO
   obtain⟨wv6,qf,OO⟩:=hZ6.fz fun x g=>by simp[aE,ae,aj,aI]
   have e4:decide (1+(L.length:Int)<0)=false:=decide_eq_false (by omega)
   have e5:decide (1+(L.length:Int)=1+(L.length:Int))=true:=decide_eq_true rfl
   refine hN _ _ ?_
   clear hN N
   (try((repeat(revert hN;revert N;apply Pn.out));refine wk @sA ?_;(repeat(refine Pn.mk ?_;intro N hN))))
   refine .inl ⟨_,aq.x (BF 1 L.length (by omega) (by omega) OO) (tF qf (aI _ _ _ _)),?_⟩
   refine hN _ _ ?_
   clear hN N
   (try((repeat(revert hN;revert N;apply Pn.out));refine wk (tw @sA (tw @e4 @e5)) ?_;(repeat(refine Pn.mk ?_;intro N hN))))
   refine .inl ⟨_,jq.x (by rw[au]at t1;exact t1) _,?_⟩
   refine hN _ _ ?_
   clear hN N
   (try((repeat(revert hN;revert N;apply Pn.out));refine wk (tw @sA (tw @e4 @e5)) ?_;(repeat(refine Pn.mk ?_;intro N hN))))
   refine .inl ⟨_,jq.x t2 _,?_⟩
   refine hN _ _ ?_
   clear hN N
   (try((repeat(revert hN;revert N;apply Pn.out));refine wk (tw @sA (tw @e4 @e5)) ?_;(repeat(refine Pn.mk ?_;intro N hN))))
   refine .inl ⟨_,aq.x (by have h:=r2.s Pv;rw[au]at h;exact h) (tF (by rw[<-au];exact Fs _ _) (cC _ _ _)),?_⟩
   refine hN _ _ ?_
   clear hN N
   (try((repeat(revert hN;revert N;apply Pn.out));refine wk @e2 ?_;(repeat(refine Pn.mk ?_;intro N hN))))
   refine .inl ⟨_,aq.x (Dv Cp hw) (tF (Cp.fz _) (hw.fz _)),?_⟩
   refine hN _ _ ?_
   clear hN N
   (try((repeat(revert hN;revert N;apply Pn.out));refine wk @e2 ?_;(repeat(refine Pn.mk ?_;intro N hN))))
   refine .inl ⟨_,aq.x (BF 1 L.length (by omega) (by omega) OO) (tF qf (aI _ _ _ _)),?_⟩
   refine hN _ _ ?_
   clear hN N
   (try((repeat(revert hN;revert N;apply Pn.out));refine wk (tw @e4 @e5) ?_;(repeat(refine Pn.mk ?_;intro N hN))))
   exact bc (b:=true) (.inl rfl) (sd @Nat.zero_add) rfl
  ·rw[iP hg]at h2
   rw[au]at h1
   (repeat(first|((repeat(revert hN;revert N;apply Pn.out));refine wk (tw @au.eq_1 @kG) ?_;(repeat(refine Pn.mk ?_;intro N hN)))|((try apply Or.inl);refine⟨_,aq.x (h1) (sd (tw @au.eq_1 @kG)),?_⟩;refine hN _ _ ?_;clear hN N)|((try apply Or.inl);refine⟨_,aq.x (h2) (sd (tw @au.eq_1 @kG)),?_⟩;refine hN _ _ ?_;clear hN N)))
   exact bc (b:=true) (.inl rfl) (sd @Nat.zero_add) rfl
 ·rw[iP hf]at h1
  rw[au]at h1
  (repeat(first|((repeat(revert hN;revert N;apply Pn.out));refine wk @au.eq_1 ?_;(repeat(refine Pn.mk ?_;intro N hN)))|((try apply Or.inl);refine⟨_,aq.x (h1) (sd @au.eq_1),?_⟩;refine hN _ _ ?_;clear hN N)))
  exact bc (b:=true) (.inl rfl) (sd @Nat.zero_add) rfl
end Go.Proofs.YtgoelphibofcmaaGreat.V

namespace Go.Proofs.YtgoelphibofcmaaGreat.V
open Go.RowKit
attribute [local irreducible] dO wpOps gy Call
attribute [local go_sem] aT fK eS ga fZ dj upd cF K.av cP AV.cells AV.cell rowOf rowsOf part ld rowAt bL cD dG ef ik bV de ew fW fe dw ek dc db dU dV cj bl cU b4 cW cV ei eo ej cR cm dd eh bW aV cZ cI ij bx cK ck bd du bj dI AV.undef bH bS dW eb dQ dP cJ ev eE cH er ep cY da List.getD_cons_zero List.getD_cons_succ List.getD_nil List.all_cons List.all_nil Bool.and_true Bool.true_and Bool.and_self Bool.not_true Bool.not_false Option.map_some Option.map_none Option.bind_some Option.bind_none List.length_cons List.length_nil List.take_succ_cons List.take_zero List.take_nil List.drop_succ_cons List.drop_zero List.drop_nil List.head?_cons List.map_cons List.map_nil List.getElem?_cons_zero List.getElem?_cons_succ List.cons_append List.nil_append List.append_nil List.length_map List.set_cons_zero List.set_cons_succ Nat.reduceMul eq_self Int.toNat_natCast Int.natCast_nonneg and_self true_and and_true decide_true decide_false Bool.false_eq_true Nat.zero_add Nat.add_zero List.contains_cons List.contains_nil Bool.or_false Bool.false_or beq_self_eq_true Nat.reduceBEq ne_eq not_true_eq_false not_false_eq_true Id.mk.injEq false_and and_false Nat.reduceLT Int.reduceLE Int.reduceLT Int.reduceToNat Int.reduceNeg Int.reduceAdd Nat.le_refl List.length_append beq_true beq_false Bool.not_eq_eq_eq_not or_false false_or dR ae aj aI bq bG cC aY bh aW bp cQ bJ
def jc (n lo hi:Int):Bool:=decide (lo<=n)&&decide (n<=hi)
theorem eI {n lo hi:Int} (h:jc n lo hi=true):lo<=n/\n<=hi:=by simpa[jc]using h
theorem iN {n lo hi:Int} (h:lo<=n/\n<=hi):jc n lo hi=true:=by simpa[jc]using h
def x7 (p:aL):Bool:=jc p.fb (-60) 60&&jc p.eV (-60) 60
theorem lK (n lo hi:Int):aq Tryz.prog 137 [.int .i64 n,.int .i64 lo,.int .i64 hi] (.bool (jc n lo hi)):=by
 refine aq.body eK rfl fun hl n0=>?_
 clear hl
 by_cases h1:lo<=n
 ·(try((repeat(revert hN;revert N;apply Pn.out));refine wk @h1 ?_;(repeat(refine Pn.mk ?_;intro N hN))))
  exact bc (b:=decide (n<=hi)) (.inl rfl) (sd @Nat.zero_add) (by simp[jc,h1])
 ·(try((repeat(revert hN;revert N;apply Pn.out));refine wk @h1 ?_;(repeat(refine Pn.mk ?_;intro N hN))))
  exact bc (b:=false) (.inl rfl) (sd @Nat.zero_add) (by simp[jc,h1])
theorem ll (n lo hi:Int):aq Tryz.prog 141 [.int .i64 n,.int .i64 lo,.int .i64 hi] (.bool (jc n lo hi)):=by
 refine aq.body eK rfl fun hl n0=>?_
 clear hl
 by_cases h1:lo<=n
 ·(try((repeat(revert hN;revert N;apply Pn.out));refine wk @h1 ?_;(repeat(refine Pn.mk ?_;intro N hN))))
  exact bc (b:=decide (n<=hi)) (.inl rfl) (sd @Nat.zero_add) (by simp[jc,h1])
 ·(try((repeat(revert hN;revert N;apply Pn.out));refine wk @h1 ?_;(repeat(refine Pn.mk ?_;intro N hN))))
  exact bc (b:=false) (.inl rfl) (sd @Nat.zero_add) (by simp[jc,h1])
theorem JF (d:Int):aq Tryz.prog 173 [.int .i64 d] (.bool (jc d 0 3)):=by
 refine aq.body eK rfl fun hl n0=>?_
 clear hl
 have h:=lK d 0 3
 (repeat(first|((repeat(revert hN;revert N;apply Pn.out));refine wk @Nat.zero_add ?_;(repeat(refine Pn.mk ?_;intro N hN)))|((try apply Or.inl);refine⟨_,aq.x (h) (sd @Nat.zero_add),?_⟩;refine hN _ _ ?_;clear hN N)))
 exact bc (b:=jc d 0 3) (.inl rfl) (sd @Nat.zero_add) rfl
theorem qO (p:aL):aq Tryz.prog 123 [.agg (ah p)] (.bool (x7 p)):=by
 refine aq.body eK rfl fun hl n0=>?_
 clear hl
 have h1:=lK p.fb (-60) 60
 have h2:=lK p.eV (-60) 60
 by_cases q:jc p.fb (-60) 60=true
 ·rw[q]at h1
  (repeat(first|((repeat(revert hN;revert N;apply Pn.out));refine wk @ah.eq_1 ?_;(repeat(refine Pn.mk ?_;intro N hN)))|((try apply Or.inl);refine⟨_,aq.x (h1) (sd @ah.eq_1),?_⟩;refine hN _ _ ?_;clear hN N)|((try apply Or.inl);refine⟨_,aq.x (h2) (sd @ah.eq_1),?_⟩;refine hN _ _ ?_;clear hN N)))
  exact bc (b:=jc p.eV (-60) 60) (.inl rfl) (sd @Nat.zero_add) (by rw[x7,q];rfl)
 ·rw[Bool.not_eq_true]at q
  rw[q]at h1
  (repeat(first|((repeat(revert hN;revert N;apply Pn.out));refine wk @ah.eq_1 ?_;(repeat(refine Pn.mk ?_;intro N hN)))|((try apply Or.inl);refine⟨_,aq.x (h1) (sd @ah.eq_1),?_⟩;refine hN _ _ ?_;clear hN N)|((try apply Or.inl);refine⟨_,aq.x (h2) (sd @ah.eq_1),?_⟩;refine hN _ _ ?_;clear hN N)))
  exact bc (b:=false) (.inl rfl) (sd @Nat.zero_add) (by rw[x7,q];rfl)
theorem rm (p:aL):aq Tryz.prog 140 [.agg (ah p)] (.bool (x7 p)):=by
 refine aq.body eK rfl fun hl n0=>?_
 clear hl
 have h1:=ll p.fb (-60) 60
 have h2:=ll p.eV (-60) 60
 by_cases q:jc p.fb (-60) 60=true
 ·rw[q]at h1
  (repeat(first|((repeat(revert hN;revert N;apply Pn.out));refine wk @ah.eq_1 ?_;(repeat(refine Pn.mk ?_;intro N hN)))|((try apply Or.inl);refine⟨_,aq.x (h1) (sd @ah.eq_1),?_⟩;refine hN _ _ ?_;clear hN N)|((try apply Or.inl);refine⟨_,aq.x (h2) (sd @ah.eq_1),?_⟩;refine hN _ _ ?_;clear hN N)))
  exact bc (b:=jc p.eV (-60) 60) (.inl rfl) (sd @Nat.zero_add) (by rw[x7,q];rfl)
 ·rw[Bool.not_eq_true]at q
  rw[q]at h1
  (repeat(first|((repeat(revert hN;revert N;apply Pn.out));refine wk @ah.eq_1 ?_;(repeat(refine Pn.mk ?_;intro N hN)))|((try apply Or.inl);refine⟨_,aq.x (h1) (sd @ah.eq_1),?_⟩;refine hN _ _ ?_;clear hN N)|((try apply Or.inl);refine⟨_,aq.x (h2) (sd @ah.eq_1),?_⟩;refine hN _ _ ?_;clear hN N)))
  exact bc (b:=false) (.inl rfl) (sd @Nat.zero_add) (by rw[x7,q];rfl)
def tn (d:Int):Int:=if jc d 0 3 then(d+2) % 4 else -1
def dp (p:aL) (d:Int):aL:=
 if d=0 then⟨p.fb,p.eV+1⟩else if d=1 then⟨p.fb+1,p.eV⟩else if d=2 then⟨p.fb,p.eV-1⟩else if d=3 then⟨p.fb-1,p.eV⟩else p
def iB (n:Int):Prop:=-4611686018427387904<=n/\n<=4611686018427387904
theorem tf (p:aL) (d:Int) (hd:jc d 0 3=true) (hx:iB p.fb) (hy:iB p.eV):aq Tryz.prog 122 [.agg (ah p),.int .i64 d] (.agg (ah (dp p d))):=by
 refine aq.body eK rfl fun hl n0=>?_
 clear hl
 obtain⟨x1,x2⟩:=hx
 obtain⟨y1,y2⟩:=hy
 have w1:IntKind.i64.wrap (p.fb+1)=p.fb+1:=bI (by omega)
 have w2:IntKind.i64.wrap (p.fb-1)=p.fb-1:=bI (by omega)
 have w3:IntKind.i64.wrap (p.eV+1)=p.eV+1:=bI (by omega)
 have w4:IntKind.i64.wrap (p.eV-1)=p.eV-1:=bI (by omega)
 have hb:=eI hd
 have hc:d=0∨d=1∨d=2∨d=3:=by omega
 rcases hc with rfl|rfl|rfl|rfl
 ·(try((repeat(revert hN;revert N;apply Pn.out));refine wk (tw @ah.eq_1 @w3) ?_;(repeat(refine Pn.mk ?_;intro N hN))))
  exact mB (.inl rfl) (vs:=[.agg (ah (dp p 0))]) (by simp only[go_sem, ↓reduceIte,Nat.reduceEqDiff,Nat.reduceAdd,Nat.reduceSub,Nat.reduceLeDiff,reduceCtorEq,fx,iw,ah,dp]) (by simp[eY,ah,gG,eD])
 ·(try((repeat(revert hN;revert N;apply Pn.out));refine wk (tw @ah.eq_1 @w1) ?_;(repeat(refine Pn.mk ?_;intro N hN))))
  exact mB (.inl rfl) (vs:=[.agg (ah (dp p 1))]) (by simp[fx,iw,ah,dp,ld,rowAt,bL,upd,part]) (by simp[eY,ah,gG,eD])
 ·(try((repeat(revert hN;revert N;apply Pn.out));refine wk (tw @ah.eq_1 @w4) ?_;(repeat(refine Pn.mk ?_;intro N hN))))
  exact mB (.inl rfl) (vs:=[.agg (ah (dp p 2))]) (by simp[fx,iw,ah,dp,ld,rowAt,bL,upd,part]) (by simp[eY,ah,gG,eD])
 ·(try((repeat(revert hN;revert N;apply Pn.out));refine wk (tw @ah.eq_1 @w2) ?_;(repeat(refine Pn.mk ?_;intro N hN))))
  exact mB (.inl rfl) (vs:=[.agg (ah (dp p 3))]) (by simp[fx,iw,ah,dp,ld,rowAt,bL,upd,part]) (by simp[eY,ah,gG,eD])
theorem Ac (p p2:aL) (x y:Int) (hx:IntKind.i64.wrap (p.fb+p2.fb)=x) (hy:IntKind.i64.wrap (p.eV+p2.eV)=y):aq Tryz.prog 184 [.agg (ah p),.agg (ah p2)] (.agg [.int .i64 x,.int .i64 y]):=by
 refine aq.body eK rfl fun hl n0=>?_
 clear hl
 (try((repeat(revert hN;revert N;apply Pn.out));refine wk (tw @ah.eq_1 (tw @hx @hy)) ?_;(repeat(refine Pn.mk ?_;intro N hN))))
 exact mB (.inl rfl) (vs:=[.agg [.int .i64 x,.int .i64 y]]) (by simp only[go_sem, ↓reduceIte,Nat.reduceEqDiff,Nat.reduceAdd,Nat.reduceSub,Nat.reduceLeDiff,reduceCtorEq,fx,iw,ah]) (by simp[eY,gG,eD])
theorem Ap (p:aL) (d:Int) (hd:jc d 0 3=true) (hx:iB p.fb) (hy:iB p.eV):aq Tryz.prog 149 [.agg (ah p),.int .i64 d] (.agg (ah (dp p d))):=by
 refine aq.body eK rfl fun hl n0=>?_
 clear hl
 obtain⟨x1,x2⟩:=hx
 obtain⟨y1,y2⟩:=hy
 have hb:=eI hd
 have hc:d=0∨d=1∨d=2∨d=3:=by omega
 rcases hc with rfl|rfl|rfl|rfl
 ·have h:=Ac p ⟨0,1⟩ (p.fb) (p.eV+1) (by rw[bI (by constructor<;>simp only<;>omega)]<;>(try simp only)<;>(try omega)) (by rw[bI (by constructor<;>simp only<;>omega)]<;>(try simp only)<;>(try omega))
  simp only[ah]at h
  (repeat(first|((repeat(revert hN;revert N;apply Pn.out));refine wk @ah.eq_1 ?_;(repeat(refine Pn.mk ?_;intro N hN)))|((try apply Or.inl);refine⟨_,aq.x (h) (sd @ah.eq_1),?_⟩;refine hN _ _ ?_;clear hN N)))
  exact mB (.inl rfl) (vs:=[.agg (ah (dp p 0))]) (by simp[fx,iw,ah,dp,ld,rowAt,bL,upd,part]) (by simp[eY,ah,gG,eD])
 ·have h:=Ac p ⟨1,0⟩ (p.fb+1) (p.eV) (by rw[bI (by constructor<;>simp only<;>omega)]<;>(try simp only)<;>(try omega)) (by rw[bI (by constructor<;>simp only<;>omega)]<;>(try simp only)<;>(try omega))
  simp only[ah]at h
  (repeat(first|((repeat(revert hN;revert N;apply Pn.out));refine wk @ah.eq_1 ?_;(repeat(refine Pn.mk ?_;intro N hN)))|((try apply Or.inl);refine⟨_,aq.x (h) (sd @ah.eq_1),?_⟩;refine hN _ _ ?_;clear hN N)))
  exact mB (.inl rfl) (vs:=[.agg (ah (dp p 1))]) (by simp[fx,iw,ah,dp,ld,rowAt,bL,upd,part]) (by simp[eY,ah,gG,eD])
 ·have h:=Ac p ⟨0,(-1)⟩ (p.fb) (p.eV-1) (by rw[bI (by constructor<;>simp only<;>omega)]<;>(try simp only)<;>(try omega)) (by rw[bI (by constructor<;>simp only<;>omega)]<;>(try simp only)<;>(try omega))
  simp only[ah]at h
  (repeat(first|((repeat(revert hN;revert N;apply Pn.out));refine wk @ah.eq_1 ?_;(repeat(refine Pn.mk ?_;intro N hN)))|((try apply Or.inl);refine⟨_,aq.x (h) (sd @ah.eq_1),?_⟩;refine hN _ _ ?_;clear hN N)))
  exact mB (.inl rfl) (vs:=[.agg (ah (dp p 2))]) (by simp[fx,iw,ah,dp,ld,rowAt,bL,upd,part]) (by simp[eY,ah,gG,eD])
 ·have h:=Ac p ⟨(-1),0⟩ (p.fb-1) (p.eV) (by rw[bI (by constructor<;>simp only<;>omega)]<;>(try simp only)<;>(try omega)) (by rw[bI (by constructor<;>simp only<;>omega)]<;>(try simp only)<;>(try omega))
  simp only[ah]at h
  (repeat(first|((repeat(revert hN;revert N;apply Pn.out));refine wk @ah.eq_1 ?_;(repeat(refine Pn.mk ?_;intro N hN)))|((try apply Or.inl);refine⟨_,aq.x (h) (sd @ah.eq_1),?_⟩;refine hN _ _ ?_;clear hN N)))
  exact mB (.inl rfl) (vs:=[.agg (ah (dp p 3))]) (by simp[fx,iw,ah,dp,ld,rowAt,bL,upd,part]) (by simp[eY,ah,gG,eD])
theorem EA (d:Int) (hd:jc d 0 3=true):aq Tryz.prog 153 [.int .i64 d] (.int .i64 (tn d)):=by
 refine aq.body eK rfl fun hl n0=>?_
 clear hl
 have hb:=eI hd
 have hw:IntKind.i64.wrap (d+2)=d+2:=bI (by omega)
 have ht:Int.tmod (d+2) 4=(d+2) % 4:=Int.tmod_eq_emod_of_nonneg (by omega)
 have h4:¬((4:Int)=0):=by omega
 (try((repeat(revert hN;revert N;apply Pn.out));refine wk (tw @hw (tw @ht @h4)) ?_;(repeat(refine Pn.mk ?_;intro N hN))))
 exact cN (b:=(d+2) % 4) (.inl rfl) (sd @Nat.zero_add) (by rw[tn,if_pos hd])
theorem De (d:Int) (hd:jc d 0 3=true):aq Tryz.prog 125 [.int .i64 d] (.int .i64 (tn d)):=by
 refine aq.body eK rfl fun hl n0=>?_
 clear hl
 have hb:=eI hd
 have hw:IntKind.i64.wrap (d+2)=d+2:=bI (by omega)
 have ht:Int.tmod (d+2) 4=(d+2) % 4:=Int.tmod_eq_emod_of_nonneg (by omega)
 have h4:¬((4:Int)=0):=by omega
 have h:=JF d
 rw[hd]at h
 (repeat(first|((repeat(revert hN;revert N;apply Pn.out));refine wk (tw @hw (tw @ht @h4)) ?_;(repeat(refine Pn.mk ?_;intro N hN)))|((try apply Or.inl);refine⟨_,aq.x (h) (sd (tw @hw (tw @ht @h4))),?_⟩;refine hN _ _ ?_;clear hN N)))
 exact cN (b:=(d+2) % 4) (.inl rfl) (sd @Nat.zero_add) (by rw[tn,if_pos hd])
end Go.Proofs.YtgoelphibofcmaaGreat.V

namespace Go.Proofs.YtgoelphibofcmaaGreat.V
open Go.RowKit
attribute [local irreducible] dO wpOps gy Call
attribute [local go_sem] aT fK eS ga fZ dj upd cF K.av cP AV.cells AV.cell rowOf rowsOf part ld rowAt bL cD dG ef ik bV de ew fW fe dw ek dc db dU dV cj bl cU b4 cW cV ei eo ej cR cm dd eh bW aV cZ cI ij bx cK ck bd du bj dI AV.undef bH bS dW eb dQ dP cJ ev eE cH er ep cY da List.getD_cons_zero List.getD_cons_succ List.getD_nil List.all_cons List.all_nil Bool.and_true Bool.true_and Bool.and_self Bool.not_true Bool.not_false Option.map_some Option.map_none Option.bind_some Option.bind_none List.length_cons List.length_nil List.take_succ_cons List.take_zero List.take_nil List.drop_succ_cons List.drop_zero List.drop_nil List.head?_cons List.map_cons List.map_nil List.getElem?_cons_zero List.getElem?_cons_succ List.cons_append List.nil_append List.append_nil List.length_map List.set_cons_zero List.set_cons_succ Nat.reduceMul eq_self Int.toNat_natCast Int.natCast_nonneg and_self true_and and_true decide_true decide_false Bool.false_eq_true Nat.zero_add Nat.add_zero List.contains_cons List.contains_nil Bool.or_false Bool.false_or beq_self_eq_true Nat.reduceBEq ne_eq not_true_eq_false not_false_eq_true Id.mk.injEq false_and and_false Nat.reduceLT Int.reduceLE Int.reduceLT Int.reduceToNat Int.reduceNeg Int.reduceAdd Nat.le_refl List.length_append beq_true beq_false Bool.not_eq_eq_eq_not or_false false_or dR ae aj aI bq bG cC aY bh aW bp cQ bJ
def dY (s:aw) (t:Int):Bool:=jc t 0 ((s.ai.length:Int)-1)
theorem qP (s:aw) (t:Int):aq Tryz.prog 136 [.dq (ab s),.int .i64 t] (.bool (dY s t)):=by
 refine aq.body eK rfl fun hl n0=>?_
 have hn:s.ai.length<=9223372036854775807:=by
  have h1:=(hl (.dq (ab s)) (by simp)).BX (a:=.sl (s.ai.map bB)) (by simp[ab])
  simpa using h1.len
 clear hl
 have hw:IntKind.i64.wrap ((s.ai.length:Int)-1)=(s.ai.length:Int)-1:=bI (by omega)
 have h:=lK t 0 ((s.ai.length:Int)-1)
 (repeat(first|((repeat(revert hN;revert N;apply Pn.out));refine wk (tw @ab.eq_1 @hw) ?_;(repeat(refine Pn.mk ?_;intro N hN)))|((try apply Or.inl);refine⟨_,aq.x (h) (sd (tw @ab.eq_1 @hw)),?_⟩;refine hN _ _ ?_;clear hN N)))
 exact bc (b:=dY s t) (.inl rfl) (by simp only[go_sem, ↓reduceIte,Nat.reduceEqDiff,Nat.reduceAdd,Nat.reduceSub,Nat.reduceLeDiff,reduceCtorEq,dY]) rfl
theorem yL (t n:Int) (h0:0<=n) (h1:n<=9223372036854775807):aq Tryz.prog 139 [.int .i64 t,.int .i64 n] (.bool (jc t 0 (n-1))):=by
 refine aq.body eK rfl fun hl n0=>?_
 clear hl
 have hw:IntKind.i64.wrap (n-1)=n-1:=bI (by omega)
 have h:=ll t 0 (n-1)
 (repeat(first|((repeat(revert hN;revert N;apply Pn.out));refine wk @hw ?_;(repeat(refine Pn.mk ?_;intro N hN)))|((try apply Or.inl);refine⟨_,aq.x (h) (sd @hw),?_⟩;refine hN _ _ ?_;clear hN N)))
 exact bc (b:=jc t 0 (n-1)) (.inl rfl) (sd @Nat.zero_add) rfl
theorem BY (s:aw) (t:Int):aq Tryz.prog 83 [.agg (ab s),.int .i64 t] (.bool (dY s t)):=by
 refine aq.body eK rfl fun hl n0=>?_
 have hn:s.ai.length<=9223372036854775807:=by
  have h1:=(hl (.agg (ab s)) (by simp)).NU (a:=.sl (s.ai.map bB)) (by simp[ab])
  simpa using h1.len
 clear hl
 have h:=yL t s.ai.length (by omega) (by omega)
 (repeat(first|((repeat(revert hN;revert N;apply Pn.out));refine wk @ab.eq_1 ?_;(repeat(refine Pn.mk ?_;intro N hN)))|((try apply Or.inl);refine⟨_,aq.x (h) (sd @ab.eq_1),?_⟩;refine hN _ _ ?_;clear hN N)))
 exact bc (b:=dY s t) (.inl rfl) (by simp only[go_sem, ↓reduceIte,Nat.reduceEqDiff,Nat.reduceAdd,Nat.reduceSub,Nat.reduceLeDiff,reduceCtorEq,dY]) rfl
def z7:eZ:=⟨⟨#[]⟩,[]⟩
def dE (s:aw) (t:Int):eZ:=s.ai.getD t.toNat z7
def dD (t:eZ) (d:Int):Int:=t.bD.getD d.toNat 0
def qC (s:aw) (g:Int):fG:=s.ax.getD g.toNat ⟨⟨#[]⟩,0⟩
def tD (s:aw) (g:Int):Int:=if g=0 then 0 else(qC s (g-1)).eG
def gp (s:aw) (a d b:Int):Int:=if dD (dE s a) d=dD (dE s b) (tn d)then tD s (dD (dE s a) d)else 0
structure kM (s:aw):Prop where
 xi:∀t∈s.ai,t.bD.length=4
 wC:∀t∈s.ai,∀g∈t.bD,0<=g/\g<=s.ax.length
theorem getD_map {α β:Type} (e:α->β) {l:List α} {k:Nat} {d:α} (h:k<l.length):(l.map e)[k]? =some (e (l.getD k d)):=by simp[List.getD_eq_getElem?_getD,h]
theorem xX (s:aw) (g:Int) (h0:0<=g) (h1:g<=s.ax.length):aq Tryz.prog 126 [.dq (ab s),.int .i64 g] (.int .i64 (tD s g)):=by
 refine aq.body eK rfl fun hl n0=>?_
 have hn:s.ax.length<=9223372036854775807:=by
  have h1:=(hl (.dq (ab s)) (by simp)).BX (a:=.sl (s.ax.map bR)) (by simp[ab])
  simpa using h1.len
 clear hl
 by_cases hg:g=0
 ·have e:decide (g=0)=true:=decide_eq_true hg
  (try((repeat(revert hN;revert N;apply Pn.out));refine wk (tw @ab.eq_1 @e) ?_;(repeat(refine Pn.mk ?_;intro N hN))))
  exact cN (b:=0) (.inl rfl) (sd @Nat.zero_add) (by rw[tD,if_pos hg])
 ·have e:decide (g=0)=false:=decide_eq_false hg
  have hw:IntKind.i64.wrap (g-1)=g-1:=bI (by omega)
  have qH:0<=g-1:=by omega
  have fq:(s.ax.map bR)[(g-1).toNat]? =some (bR (qC s (g-1))):=getD_map bR (by omega)
  (try((repeat(revert hN;revert N;apply Pn.out));refine wk (tw @ab.eq_1 (tw @e (tw @hw (tw @qH (tw @fq @bR.eq_1))))) ?_;(repeat(refine Pn.mk ?_;intro N hN))))
  exact cN (b:=(qC s (g-1)).eG) (.inl rfl) (sd @Nat.zero_add) (by rw[tD,if_neg hg])
theorem pg {s:aw} {a:Int} (h:dY s a=true):0<=a/\(s.ai.map bB)[a.toNat]? =some (bB (dE s a))/\dE s a∈s.ai:=by
 have h':=eI h
 have dZ:a.toNat<s.ai.length:=by omega
 refine⟨h'.1,getD_map bB dZ,?_⟩
 unfold dE
 rw[List.getD_eq_getElem?_getD,List.getElem?_eq_getElem dZ]
 exact List.getElem_mem dZ
theorem pc {t:eZ} {d:Int} (h:t.bD.length=4) (hd:jc d 0 3=true):(t.bD.map aE)[d.toNat]? =some [.int .i64 (dD t d)]:=by
 have:=eI hd
 exact getD_map aE (by omega)
theorem CB {t:eZ} {d:Int} (h:t.bD.length=4) (hd:jc d 0 3=true):dD t d∈t.bD:=by
 have:=eI hd
 have dZ:d.toNat<t.bD.length:=by omega
 unfold dD
 rw[List.getD_eq_getElem?_getD,List.getElem?_eq_getElem dZ]
 exact List.getElem_mem dZ
theorem z8 {d:Int} (hd:jc d 0 3=true):jc (tn d) 0 3=true:=by
 have:=eI hd
 refine iN ?_
 rw[tn,if_pos hd];omega
theorem tg (s:aw) (hF:kM s) (a d b:Int) (ha:dY s a=true) (hb:dY s b=true) (hd:jc d 0 3=true):aq Tryz.prog 147 [.dq (ab s),.int .i64 a,.int .i64 d,.int .i64 b] (.int .i64 (gp s a d b)):=by
 refine aq.body eK rfl fun hl n0=>?_
 clear hl
 obtain⟨a0,a1,a2⟩:=pg ha
 obtain⟨b0,b1,b2⟩:=pg hb
 have s1:=pc (hF.xi _ a2) hd
 have s2:=pc (hF.xi _ b2) (z8 hd)
 have gl:=hF.wC _ a2 _ (CB (hF.xi _ a2) hd)
 have d0:=(eI hd).1
 have d1:=(eI (z8 hd)).1
 have h:=De d hd
 have hs:=xX s (dD (dE s a) d) gl.1 gl.2
 rw[ab]at hs
 by_cases e:dD (dE s a) d=dD (dE s b) (tn d)
 ·have e':decide (dD (dE s a) d=dD (dE s b) (tn d))=true:=decide_eq_true e
  (repeat(first|((repeat(revert hN;revert N;apply Pn.out));refine wk (tw @ab.eq_1 (tw @bB.eq_1 (tw @a0 (tw @a1 (tw @b0 (tw @b1 (tw @s1 (tw @s2 (tw @d0 (tw @d1 @e')))))))))) ?_;(repeat(refine Pn.mk ?_;intro N hN)))|((try apply Or.inl);refine⟨_,aq.x (h) (sd (tw @ab.eq_1 (tw @bB.eq_1 (tw @a0 (tw @a1 (tw @b0 (tw @b1 (tw @s1 (tw @s2 (tw @d0 (tw @d1 @e'))))))))))),?_⟩;refine hN _ _ ?_;clear hN N)|((try apply Or.inl);refine⟨_,aq.x (hs) (sd (tw @ab.eq_1 (tw @bB.eq_1 (tw @a0 (tw @a1 (tw @b0 (tw @b1 (tw @s1 (tw @s2 (tw @d0 (tw @d1 @e'))))))))))),?_⟩;refine hN _ _ ?_;clear hN N)))
  exact cN (b:=tD s (dD (dE s a) d)) (.inl rfl) (sd @Nat.zero_add) (by rw[gp,if_pos e])
 ·have e':decide (dD (dE s a) d=dD (dE s b) (tn d))=false:=decide_eq_false e
  (repeat(first|((repeat(revert hN;revert N;apply Pn.out));refine wk (tw @ab.eq_1 (tw @bB.eq_1 (tw @a0 (tw @a1 (tw @b0 (tw @b1 (tw @s1 (tw @s2 (tw @d0 (tw @d1 @e')))))))))) ?_;(repeat(refine Pn.mk ?_;intro N hN)))|((try apply Or.inl);refine⟨_,aq.x (h) (sd (tw @ab.eq_1 (tw @bB.eq_1 (tw @a0 (tw @a1 (tw @b0 (tw @b1 (tw @s1 (tw @s2 (tw @d0 (tw @d1 @e'))))))))))),?_⟩;refine hN _ _ ?_;clear hN N)))
  exact cN (b:=0) (.inl rfl) (sd @Nat.zero_add) (by rw[gp,if_neg e])
theorem EW (s:aw) (hF:kM s) (a d:Int) (ha:dY s a=true) (hd:jc d 0 3=true):aq Tryz.prog 185 [.agg (ab s),.int .i64 a,.int .i64 d] (.int .i64 (tD s (dD (dE s a) d))):=by
 refine aq.body eK rfl fun hl n0=>?_
 have hn:s.ax.length<=9223372036854775807:=by
  have h1:=(hl (.agg (ab s)) (by simp)).NU (a:=.sl (s.ax.map bR)) (by simp[ab])
  simpa using h1.len
 clear hl
 obtain⟨a0,a1,a2⟩:=pg ha
 have s1:=pc (hF.xi _ a2) hd
 have gl:=hF.wC _ a2 _ (CB (hF.xi _ a2) hd)
 have d0:=(eI hd).1
 by_cases hg:dD (dE s a) d=0
 ·have e:¬(0<dD (dE s a) d):=by omega
  (try((repeat(revert hN;revert N;apply Pn.out));refine wk (tw @ab.eq_1 (tw @bB.eq_1 (tw @a0 (tw @a1 (tw @s1 (tw @d0 @e)))))) ?_;(repeat(refine Pn.mk ?_;intro N hN))))
  exact cN (b:=0) (.inl rfl) (sd @Nat.zero_add) (by rw[tD,if_pos hg])
 ·have e:0<dD (dE s a) d:=by omega
  have hw:IntKind.i64.wrap (dD (dE s a) d-1)=dD (dE s a) d-1:=bI (by omega)
  have qH:0<=dD (dE s a) d-1:=by omega
  have fq:(s.ax.map bR)[(dD (dE s a) d-1).toNat]? =some (bR (qC s (dD (dE s a) d-1))):=getD_map bR (by omega)
  (try((repeat(revert hN;revert N;apply Pn.out));refine wk (tw @ab.eq_1 (tw @bB.eq_1 (tw @a0 (tw @a1 (tw @s1 (tw @d0 (tw @e (tw @hw (tw @qH (tw @fq @bR.eq_1)))))))))) ?_;(repeat(refine Pn.mk ?_;intro N hN))))
  exact cN (b:=(qC s (dD (dE s a) d-1)).eG) (.inl rfl) (sd @Nat.zero_add) (by rw[tD,if_neg hg])
theorem Dn (s:aw) (hF:kM s) (a d b:Int) (ha:dY s a=true) (hb:dY s b=true) (hd:jc d 0 3=true):aq Tryz.prog 150 [.agg (ab s),.int .i64 a,.int .i64 d,.int .i64 b] (.int .i64 (gp s a d b)):=by
 refine aq.body eK rfl fun hl n0=>?_
 clear hl
 obtain⟨a0,a1,a2⟩:=pg ha
 obtain⟨b0,b1,b2⟩:=pg hb
 have s1:=pc (hF.xi _ a2) hd
 have s2:=pc (hF.xi _ b2) (z8 hd)
 have d0:=(eI hd).1
 have d1:=(eI (z8 hd)).1
 have h:=EA d hd
 have hs:=EW s hF a d ha hd
 rw[ab]at hs
 by_cases e:dD (dE s a) d=dD (dE s b) (tn d)
 ·have e':decide (dD (dE s a) d=dD (dE s b) (tn d))=true:=decide_eq_true e
  (repeat(first|((repeat(revert hN;revert N;apply Pn.out));refine wk (tw @ab.eq_1 (tw @bB.eq_1 (tw @a0 (tw @a1 (tw @b0 (tw @b1 (tw @s1 (tw @s2 (tw @d0 (tw @d1 @e')))))))))) ?_;(repeat(refine Pn.mk ?_;intro N hN)))|((try apply Or.inl);refine⟨_,aq.x (h) (sd (tw @ab.eq_1 (tw @bB.eq_1 (tw @a0 (tw @a1 (tw @b0 (tw @b1 (tw @s1 (tw @s2 (tw @d0 (tw @d1 @e'))))))))))),?_⟩;refine hN _ _ ?_;clear hN N)|((try apply Or.inl);refine⟨_,aq.x (hs) (sd (tw @ab.eq_1 (tw @bB.eq_1 (tw @a0 (tw @a1 (tw @b0 (tw @b1 (tw @s1 (tw @s2 (tw @d0 (tw @d1 @e'))))))))))),?_⟩;refine hN _ _ ?_;clear hN N)))
  exact cN (b:=tD s (dD (dE s a) d)) (.inl rfl) (sd @Nat.zero_add) (by rw[gp,if_pos e])
 ·have e':decide (dD (dE s a) d=dD (dE s b) (tn d))=false:=decide_eq_false e
  (repeat(first|((repeat(revert hN;revert N;apply Pn.out));refine wk (tw @ab.eq_1 (tw @bB.eq_1 (tw @a0 (tw @a1 (tw @b0 (tw @b1 (tw @s1 (tw @s2 (tw @d0 (tw @d1 @e')))))))))) ?_;(repeat(refine Pn.mk ?_;intro N hN)))|((try apply Or.inl);refine⟨_,aq.x (h) (sd (tw @ab.eq_1 (tw @bB.eq_1 (tw @a0 (tw @a1 (tw @b0 (tw @b1 (tw @s1 (tw @s2 (tw @d0 (tw @d1 @e'))))))))))),?_⟩;refine hN _ _ ?_;clear hN N)))
  exact cN (b:=0) (.inl rfl) (sd @Nat.zero_add) (by rw[gp,if_neg e])
end Go.Proofs.YtgoelphibofcmaaGreat.V

namespace Go.Proofs.YtgoelphibofcmaaGreat.V
open Go.RowKit
attribute [local irreducible] dO wpOps gy Call
attribute [local go_sem] aT fK eS ga fZ dj upd cF K.av cP AV.cells AV.cell rowOf rowsOf part ld rowAt bL cD dG ef ik bV de ew fW fe dw ek dc db dU dV cj bl cU b4 cW cV ei eo ej cR cm dd eh bW aV cZ cI ij bx cK ck bd du bj dI AV.undef bH bS dW eb dQ dP cJ ev eE cH er ep cY da List.getD_cons_zero List.getD_cons_succ List.getD_nil List.all_cons List.all_nil Bool.and_true Bool.true_and Bool.and_self Bool.not_true Bool.not_false Option.map_some Option.map_none Option.bind_some Option.bind_none List.length_cons List.length_nil List.take_succ_cons List.take_zero List.take_nil List.drop_succ_cons List.drop_zero List.drop_nil List.head?_cons List.map_cons List.map_nil List.getElem?_cons_zero List.getElem?_cons_succ List.cons_append List.nil_append List.append_nil List.length_map List.set_cons_zero List.set_cons_succ Nat.reduceMul eq_self Int.toNat_natCast Int.natCast_nonneg and_self true_and and_true decide_true decide_false Bool.false_eq_true Nat.zero_add Nat.add_zero List.contains_cons List.contains_nil Bool.or_false Bool.false_or beq_self_eq_true Nat.reduceBEq ne_eq not_true_eq_false not_false_eq_true Id.mk.injEq false_and and_false Nat.reduceLT Int.reduceLE Int.reduceLT Int.reduceToNat Int.reduceNeg Int.reduceAdd Nat.le_refl List.length_append beq_true beq_false Bool.not_eq_eq_eq_not or_false false_or dR ae aj aI bq bG cC aY bh aW bp cQ bJ
def pT (s:aw) (i:Nat):fG:=s.ax.getD i ⟨⟨#[]⟩,0⟩
def pe (s:aw) (i:Nat):eZ:=s.ai.getD i z7
def C9 (s:aw) (i:Nat):Prop:=jP (pT s i).aM=true/\jc (pT s i).eG 1 4=true/\∀j,j<i->(pT s j).aM≠(pT s i).aM
def AW (s:aw) (i:Nat):Prop:=jP (pe s i).aM=true/\(pe s i).bD.length=4/\(∀j,j<i->(pe s j).aM≠(pe s i).aM)/\∀g∈(pe s i).bD,jc g 0 s.ax.length=true
structure iy (s:aw):Prop where
 wC:s.ax.length<=200
 some:1<=s.ai.length
 F9:s.ai.length<=160
 SP:∀i,i<s.ax.length->C9 s i
 tok:∀i,i<s.ai.length->AW s i
noncomputable def sj (s:aw):Bool:=@decide (iy s) (Classical.propDecidable _)
theorem pb {s:aw}:sj s=true↔iy s:=by simp[sj]
theorem fJ {s:aw} (h:¬iy s):false=sj s:=by simp[sj,h]
theorem CA {s:aw} (h:iy s):true=sj s:=by simp[sj,h]
theorem As {s:aw} {i:Nat} (h:i<s.ai.length):(s.ai.map bB)[i]? =some (bB (pe s i)):=getD_map bB h
theorem zI {s:aw} {i:Nat} (h:i<s.ax.length):(s.ax.map bR)[i]? =some (bR (pT s i)):=getD_map bR h
theorem iy.form {s:aw} (h:iy s):kM s:=by
 have key:∀t∈s.ai,∃i,i<s.ai.length/\t=pe s i:=fun t ht=>by
  obtain⟨i,hi,rfl⟩:=List.getElem_of_mem ht
  exact⟨i,hi,by simp[pe,List.getD_eq_getElem?_getD,hi]⟩
 refine⟨fun t ht=>?_,fun t ht g hg=>?_⟩
 ·obtain⟨i,hi,rfl⟩:=key t ht
  exact(h.tok i hi).2.1
 ·obtain⟨i,hi,rfl⟩:=key t ht
  exact eI ((h.tok i hi).2.2.2 g hg)
def dF (l:List ByteArray):List (List AV):=l.map fun n=>[.str n,.bool true]
abbrev mS:MK:=⟨false,[.tS]⟩
theorem ze (n:ByteArray):∀(l:List ByteArray) (i:Nat),∃r,gu mS [.str n] (dF l) i=some r/\((r=none/\n∉l)∨∃j,r=some (i+j)/\n∈l/\(dF l)[j]? =some [.str n,.bool true])
 |[],i=>⟨none,rfl,.inl ⟨rfl,by simp⟩⟩
 |m::l,i=>by
  obtain⟨r,h1,h2⟩:=ze n l (i+1)
  by_cases h:n=m
  ·subst h
   exact⟨some i,by simp[dF,gu,fe,fW,MK.ks],.inr ⟨0,rfl,by simp,rfl⟩⟩
  ·refine⟨r,?_,?_⟩
   ·unfold dF at h1 ⊢
    simp only[List.map_cons,gu,MK.ks,List.length_cons,List.length_nil,Nat.zero_add,List.take_succ_cons,List.take_zero,fe,fW,h,decide_false,Bool.and_true]
    exact h1
   ·rcases h2 with⟨rfl,h2⟩|⟨j,rfl,h2,h3⟩
    ·exact .inl ⟨rfl,by simp[h,h2]⟩
    ·exact .inr ⟨j+1,by congr 1;omega,by simp[h2],by simpa[dF]using h3⟩
theorem xg (n:ByteArray) (l:List ByteArray):(n∉l/\fS mS (.str n) (dF l)=some none)∨∃j,n∈l/\fS mS (.str n) (dF l)=some (some j)/\(dF l)[j]? =some [.str n,.bool true]:=by
 obtain⟨r,h1,h2⟩:=ze n l 0
 have e:fS mS (.str n) (dF l)=some r:=by
  unfold fS
  rw[if_pos ⟨rfl,rfl,rfl⟩];exact h1
 rcases h2 with⟨rfl,h2⟩|⟨j,rfl,h2,h3⟩
 ·exact .inl ⟨h2,e⟩
 ·exact .inr ⟨j,h2,by rw[e,Nat.zero_add],h3⟩
theorem PE (s:aw) (g:Int):aq Tryz.prog 200 [.int .i64 g,.dq (ab s)] (.bool (!jc g 0 s.ax.length)):=by
 refine aq.body eK rfl fun hl n0=>?_
 clear hl
 have h:=ll g 0 s.ax.length
 (repeat(first|((repeat(revert hN;revert N;apply Pn.out));refine wk @ab.eq_1 ?_;(repeat(refine Pn.mk ?_;intro N hN)))|((try apply Or.inl);refine⟨_,aq.x (h) (sd @ab.eq_1),?_⟩;refine hN _ _ ?_;clear hN N)))
 exact bc (b:= !jc g 0 s.ax.length) (.inl rfl) (sd @Nat.zero_add) rfl
theorem LB:QN aE (fun c=>.int .i64 c) 1 false:=⟨fun _=>rfl,fun _=>rfl,fun x g=>by rw[ae,aI,aj];rfl⟩
theorem MH (s:aw) (l:List Int) (hl:l.length<=1048576):aq Tryz.prog 199 [.sl (l.map aE),.fn 200 [.dq (ab s)]] (.bool (l.any fun g=> !jc g 0 s.ax.length)):=
 oz LB (show lR Tryz.prog 199=some (DP 199 224) by kernel_rfl)
  (show lR Tryz.prog 224=some (wN 224 1 false) by kernel_rfl) l hl _ _ _ rfl (fun g=>by rw[ae,aW,aj];rfl) (fun x _=>PE s x) fun g=>by rw[ae,aW,aj];rfl
theorem wU {α:Type} (f:Nat->α) (n k:Nat) (x:α):x∉(List.range k).map f↔∀j,j<k->f j≠x:=by
 constructor
 ·intro h j hj he
  exact h (List.mem_map.2 ⟨j,List.mem_range.2 hj,he⟩)
 ·intro h hm
  obtain⟨j,hj,he⟩:=List.mem_map.1 hm
  exact h j (List.mem_range.1 hj) he
theorem Dh (s:aw) (hn:gn s) (hg:s.ax.length<=1048576) (ht:s.ai.length<=1048576) (hs:∀t∈s.ai,t.bD.length<=1048576):aq Tryz.prog 164 [.agg (ab s)] (.bool (sj s)):=by
 refine aq.body eK rfl fun hl n0=>?_
 clear hl
 have Rv:∀i,i<s.ax.length->(pT s i).aM.size<=9223372036854775807:=fun i hi=>hn.1 _ (by simp[pT,List.getD_eq_getElem?_getD,hi])
 have RS:∀i,i<s.ai.length->(pe s i).aM.size<=9223372036854775807:=fun i hi=>hn.2 _ (by simp[pe,List.getD_eq_getElem?_getD,hi])
 have xV:∀i,i<s.ai.length->(pe s i).bD.length<=1048576:=fun i hi=>hs _ (by simp[pe,List.getD_eq_getElem?_getD,hi])
 have hw:=ll (s.ai.length:Int) 1 160
 by_cases h1:(200:Int)<(s.ax.length:Int)
 ·(try((repeat(revert hN;revert N;apply Pn.out));refine wk (tw @ab.eq_1 @h1) ?_;(repeat(refine Pn.mk ?_;intro N hN))))
  exact bc (b:=false) (.inl rfl) (sd @Nat.zero_add) (fJ fun h=>by have:=h.wC;omega)
 by_cases h2:jc (s.ai.length:Int) 1 160=true
 ·have CT:=eI h2
  rw[h2]at hw
  (repeat(first|((repeat(revert hN;revert N;apply Pn.out));refine wk (tw @ab.eq_1 @h1) ?_;(repeat(refine Pn.mk ?_;intro N hN)))|((try apply Or.inl);refine⟨_,aq.x (hw) (sd (tw @ab.eq_1 @h1)),?_⟩;refine hN _ _ ?_;clear hN N)))
  refine aZ (fun n env st=>∃k:Nat,n=(s.ax.length)-k/\k<=(s.ax.length)/\env 24=.int .i64 (k:Int)/\st.get ⟨164000000,n0⟩=some ⟨true,2,[ab s]⟩/\st.get ⟨164003000,n0+1+1⟩=some ⟨true,mS.pG,dF ((List.range k).map fun i=>(pT s i).aM)⟩/\(∀j:Nat,j<k->C9 s j)) (s.ax.length) ⟨0,by omega,by omega,by(try simp only[go_sem, ↓reduceIte,Nat.reduceEqDiff,Nat.reduceAdd,Nat.reduceSub,Nat.reduceLeDiff,reduceCtorEq,ab,List.range_zero,List.map_nil,dF]);try rfl,by(try simp only[go_sem, ↓reduceIte,Nat.reduceEqDiff,Nat.reduceAdd,Nat.reduceSub,Nat.reduceLeDiff,reduceCtorEq,ab,List.range_zero,List.map_nil,dF]);try rfl,by(try simp only[go_sem, ↓reduceIte,Nat.reduceEqDiff,Nat.reduceAdd,Nat.reduceSub,Nat.reduceLeDiff,reduceCtorEq,ab,List.range_zero,List.map_nil,dF]);try rfl,fun _ h=>absurd h (Nat.not_lt_zero _)⟩ ?_
  rintro n_a env_a st_a ⟨k,rfl,ale,a24,ag0,ag1,j9⟩ dx
  have a1:=dx 1 (by kernel_rfl);have a3:=dx 3 (by kernel_rfl);have a22:=dx 22 (by kernel_rfl);have a23:=dx 23 (by kernel_rfl)
  simp only[go_sem, ↓reduceIte,Nat.reduceEqDiff,Nat.reduceAdd,Nat.reduceSub,Nat.reduceLeDiff,reduceCtorEq,ab,List.range_zero,List.map_nil,dF]at a1 a3 a22 a23
  clear dx
  by_cases hk:(k:Int)<(s.ax.length:Int)
  ·have cz:∀{e:Env} {gg:Rows},(e 24=.int .i64 (IntKind.i64.wrap ((k:Int)+1)))->(gg ⟨164000000,n0⟩=some ⟨true,2,[ab s]⟩)->(gg ⟨164003000,n0+1+1⟩=some ⟨true,mS.pG,dF ((List.range (k+1)).map fun i=>(pT s i).aM)⟩)->(C9 s k)->∃m0,m0<(s.ax.length)-k/\∃k:Nat,m0=(s.ax.length)-k/\k<=(s.ax.length)/\e 24=.int .i64 (k:Int)/\gg ⟨164000000,n0⟩=some ⟨true,2,[ab s]⟩/\gg ⟨164003000,n0+1+1⟩=some ⟨true,mS.pG,dF ((List.range k).map fun i=>(pT s i).aM)⟩/\(∀j:Nat,j<k->C9 s j):=fun x1 x2 x3 x4=>⟨_,by omega,k+1,rfl,by omega,(by rw[x1,aA (by omega)]),x2,x3,(all_succ j9 x4)⟩
   have fM:k<s.ax.length:=by omega
   have e9:=zI fM
   have sJ:=FP (pT s k).aM (Rv k fM)
   have Ld:=ll (pT s k).eG 1 4
   have BO:=xg (pT s k).aM ((List.range k).map fun i=>(pT s i).aM)
   rw[wU _ k]at BO
   have kg:(¬C9 s k)->¬iy s:=fun h hp=>h (hp.SP k fM)
   generalize sI:pT s k=gl at *
   cases hb:jP gl.aM
   ·rw[hb]at sJ
    (repeat(first|((repeat(revert hN;revert N;apply Pn.out));refine wk (tw @a24 (tw @ag0 (tw @ag1 (tw @a1 (tw @a3 (tw @a22 (tw @a23 (tw @hk (tw @e9 (tw @bR.eq_1 @ab.eq_1)))))))))) ?_;(repeat(refine Pn.mk ?_;intro N hN)))|((try apply Or.inl);refine⟨_,aq.x (sJ) (sd (tw @a24 (tw @ag0 (tw @ag1 (tw @a1 (tw @a3 (tw @a22 (tw @a23 (tw @hk (tw @e9 (tw @bR.eq_1 @ab.eq_1))))))))))),?_⟩;refine hN _ _ ?_;clear hN N)))
    exact bc (b:=false) (.inl rfl) (sd @Nat.zero_add) (fJ (kg fun h=>by rw[C9,sI,hb]at h;cases h.1))
   ·rw[hb]at sJ
    rcases BO with⟨DS,lS⟩|⟨j,fh,lS,fY⟩
    ·cases dK:jc gl.eG 1 4
     ·rw[dK]at Ld
      (repeat(first|((repeat(revert hN;revert N;apply Pn.out));refine wk (tw @a24 (tw @ag0 (tw @ag1 (tw @a1 (tw @a3 (tw @a22 (tw @a23 (tw @hk (tw @e9 (tw @lS (tw @bR.eq_1 @ab.eq_1))))))))))) ?_;(repeat(refine Pn.mk ?_;intro N hN)))|((try apply Or.inl);refine⟨_,aq.x (sJ) (sd (tw @a24 (tw @ag0 (tw @ag1 (tw @a1 (tw @a3 (tw @a22 (tw @a23 (tw @hk (tw @e9 (tw @lS (tw @bR.eq_1 @ab.eq_1)))))))))))),?_⟩;refine hN _ _ ?_;clear hN N)|((try apply Or.inl);refine⟨_,aq.x (Ld) (sd (tw @a24 (tw @ag0 (tw @ag1 (tw @a1 (tw @a3 (tw @a22 (tw @a23 (tw @hk (tw @e9 (tw @lS (tw @bR.eq_1 @ab.eq_1)))))))))))),?_⟩;refine hN _ _ ?_;clear hN N)))
      exact bc (b:=false) (.inl rfl) (sd @Nat.zero_add) (fJ (kg fun h=>by rw[C9,sI,dK]at h;cases h.2.1))
     ·rw[dK]at Ld
      have s9:dF ((List.range k).map fun i=>(pT s i).aM)++[[.str gl.aM,.bool true]]=dF (List.map (fun i=>(pT s i).aM) (List.range k++[k])):=by simp[dF,sI]
      (repeat(first|((repeat(revert hN;revert N;apply Pn.out));refine wk (tw @a24 (tw @ag0 (tw @ag1 (tw @a1 (tw @a3 (tw @a22 (tw @a23 (tw @hk (tw @e9 (tw @lS (tw @bR.eq_1 @ab.eq_1))))))))))) ?_;(repeat(refine Pn.mk ?_;intro N hN)))|((try apply Or.inl);refine⟨_,aq.x (sJ) (sd (tw @a24 (tw @ag0 (tw @ag1 (tw @a1 (tw @a3 (tw @a22 (tw @a23 (tw @hk (tw @e9 (tw @lS (tw @bR.eq_1 @ab.eq_1)))))))))))),?_⟩;refine hN _ _ ?_;clear hN N)|((try apply Or.inl);refine⟨_,aq.x (Ld) (sd (tw @a24 (tw @ag0 (tw @ag1 (tw @a1 (tw @a3 (tw @a22 (tw @a23 (tw @hk (tw @e9 (tw @lS (tw @bR.eq_1 @ab.eq_1)))))))))))),?_⟩;refine hN _ _ ?_;clear hN N)))
      refine cz ?_ ?_ ?_ (⟨by rw[sI];exact hb,by rw[sI];exact dK,fun j hj=>by rw[sI];exact DS j hj⟩)
      all_goals simp only[go_sem, ↓reduceIte,Nat.reduceEqDiff,Nat.reduceAdd,Nat.reduceSub,Nat.reduceLeDiff,reduceCtorEq,a24,ag0,ag1,a1,a3,a22,a23,lS,s9]
    ·(repeat(first|((repeat(revert hN;revert N;apply Pn.out));refine wk (tw @a24 (tw @ag0 (tw @ag1 (tw @a1 (tw @a3 (tw @a22 (tw @a23 (tw @hk (tw @e9 (tw @lS (tw @fY (tw @bR.eq_1 @ab.eq_1)))))))))))) ?_;(repeat(refine Pn.mk ?_;intro N hN)))|((try apply Or.inl);refine⟨_,aq.x (sJ) (sd (tw @a24 (tw @ag0 (tw @ag1 (tw @a1 (tw @a3 (tw @a22 (tw @a23 (tw @hk (tw @e9 (tw @lS (tw @fY (tw @bR.eq_1 @ab.eq_1))))))))))))),?_⟩;refine hN _ _ ?_;clear hN N)))
     exact bc (b:=false) (.inl rfl) (sd @Nat.zero_add) (fJ (kg fun h=>by
      rw[C9,sI]at h
      obtain⟨i,hi,he⟩:=List.mem_map.1 fh
      exact h.2.2 i (List.mem_range.1 hi) he))
  ·have l6:k=s.ax.length:=by omega
   (try((repeat(revert hN;revert N;apply Pn.out));refine wk (tw @a24 (tw @ag0 (tw @ag1 (tw @a1 (tw @a3 (tw @a22 (tw @a23 (tw @hk @ab.eq_1)))))))) ?_;(repeat(refine Pn.mk ?_;intro N hN))))
   refine aZ (fun n env st=>∃j:Nat,n=(s.ai.length)-j/\j<=(s.ai.length)/\env 52=.int .i64 (j:Int)/\st.get ⟨164000000,n0⟩=some ⟨true,2,[ab s]⟩/\st.get ⟨164011000,st_a.next+1⟩=some ⟨true,mS.pG,dF ((List.range j).map fun i=>(pe s i).aM)⟩/\(∀i:Nat,i<j->AW s i)/\(st_a.next<st.next)) (s.ai.length) ⟨0,by omega,by omega,by(try simp only[go_sem, ↓reduceIte,Nat.reduceEqDiff,Nat.reduceAdd,Nat.reduceSub,Nat.reduceLeDiff,reduceCtorEq,a24,ag0,ag1,a1,a3,a22,a23,ab,List.range_zero,List.map_nil,dF]);try rfl,by(try simp only[go_sem, ↓reduceIte,Nat.reduceEqDiff,Nat.reduceAdd,Nat.reduceSub,Nat.reduceLeDiff,reduceCtorEq,a24,ag0,ag1,a1,a3,a22,a23,ab,List.range_zero,List.map_nil,dF]);try rfl,by(try simp only[go_sem, ↓reduceIte,Nat.reduceEqDiff,Nat.reduceAdd,Nat.reduceSub,Nat.reduceLeDiff,reduceCtorEq,a24,ag0,ag1,a1,a3,a22,a23,ab,List.range_zero,List.map_nil,dF]);try rfl,fun _ h=>absurd h (Nat.not_lt_zero _),(by(try dsimp only);omega)⟩ ?_
   rintro n_b env_b st_b ⟨j,rfl,ble,b52,bg0,bg1,bA0,bI0⟩ fU
   have b1:=fU 1 (by kernel_rfl);have b6:=fU 6 (by kernel_rfl);have Dk:=fU 50 (by kernel_rfl);have Dl:=fU 51 (by kernel_rfl)
   simp only[go_sem, ↓reduceIte,Nat.reduceEqDiff,Nat.reduceAdd,Nat.reduceSub,Nat.reduceLeDiff,reduceCtorEq,a24,ag0,ag1,a1,a3,a22,a23,ab,List.range_zero,List.map_nil,dF]at b1 b6 Dk Dl
   clear fU
   by_cases hj:(j:Int)<(s.ai.length:Int)
   ·have gj:∀{e:Env} {gg:Rows} {nx:Nat},(e 52=.int .i64 (IntKind.i64.wrap ((j:Int)+1)))->(gg ⟨164000000,n0⟩=some ⟨true,2,[ab s]⟩)->(gg ⟨164011000,st_a.next+1⟩=some ⟨true,mS.pG,dF ((List.range (j+1)).map fun i=>(pe s i).aM)⟩)->(AW s j)->(st_a.next<nx)->∃m0,m0<(s.ai.length)-j/\∃j:Nat,m0=(s.ai.length)-j/\j<=(s.ai.length)/\e 52=.int .i64 (j:Int)/\gg ⟨164000000,n0⟩=some ⟨true,2,[ab s]⟩/\gg ⟨164011000,st_a.next+1⟩=some ⟨true,mS.pG,dF ((List.range j).map fun i=>(pe s i).aM)⟩/\(∀i:Nat,i<j->AW s i)/\(st_a.next<nx):=fun x1 x2 x3 x4 x5=>⟨_,by omega,j+1,rfl,by omega,(by rw[x1,aA (by omega)]),x2,x3,(all_succ bA0 x4),x5⟩
    have iH:j<s.ai.length:=by omega
    have nU:=As iH
    have sJ:=FP (pe s j).aM (RS j iH)
    have Tw:=MH s (pe s j).bD (xV j iH)
    have BO:=xg (pe s j).aM ((List.range j).map fun i=>(pe s i).aM)
    rw[wU _ j]at BO
    have kg:(¬AW s j)->¬iy s:=fun h hp=>h (hp.tok j iH)
    have gP:(⟨164011000,st_a.next+1⟩:Id)≠⟨164000000,n0⟩:=by simp
    generalize htd:pe s j=tl at *
    cases hb:jP tl.aM
    ·rw[hb]at sJ
     (repeat(first|((repeat(revert hN;revert N;apply Pn.out));refine wk (tw @b52 (tw @bg0 (tw @bg1 (tw @b1 (tw @b6 (tw @Dk (tw @Dl (tw @hj (tw @nU (tw @bB.eq_1 @ab.eq_1)))))))))) ?_;(repeat(refine Pn.mk ?_;intro N hN)))|((try apply Or.inl);refine⟨_,aq.x (sJ) (sd (tw @b52 (tw @bg0 (tw @bg1 (tw @b1 (tw @b6 (tw @Dk (tw @Dl (tw @hj (tw @nU (tw @bB.eq_1 @ab.eq_1))))))))))),?_⟩;refine hN _ _ ?_;clear hN N)))
     exact bc (b:=false) (.inl rfl) (sd @Nat.zero_add) (fJ (kg fun h=>by rw[AW,htd,hb]at h;cases h.1))
    ·rw[hb]at sJ
     rcases BO with⟨DS,lS⟩|⟨i,fh,lS,fY⟩
     ·by_cases h4:(tl.bD.length:Int)=4
      ·have zJ:decide ((tl.bD.length:Int)=4)=true:=decide_eq_true h4
       cases hany:tl.bD.any fun g=> !jc g 0 s.ax.length
       ·rw[hany]at Tw
        have s9:dF ((List.range j).map fun i=>(pe s i).aM)++[[.str tl.aM,.bool true]]=dF (List.map (fun i=>(pe s i).aM) (List.range j++[j])):=by simp[dF,htd]
        (repeat(first|((repeat(revert hN;revert N;apply Pn.out));refine wk (tw @b52 (tw @bg0 (tw @bg1 (tw @b1 (tw @b6 (tw @Dk (tw @Dl (tw @hj (tw @nU (tw @lS (tw @zJ (tw @bB.eq_1 @ab.eq_1)))))))))))) ?_;(repeat(refine Pn.mk ?_;intro N hN)))|((try apply Or.inl);refine⟨_,aq.x (sJ) (sd (tw @b52 (tw @bg0 (tw @bg1 (tw @b1 (tw @b6 (tw @Dk (tw @Dl (tw @hj (tw @nU (tw @lS (tw @zJ (tw @bB.eq_1 @ab.eq_1))))))))))))),?_⟩;refine hN _ _ ?_;clear hN N)|((try apply Or.inl);refine⟨_,aq.x (Tw) (sd (tw @b52 (tw @bg0 (tw @bg1 (tw @b1 (tw @b6 (tw @Dk (tw @Dl (tw @hj (tw @nU (tw @lS (tw @zJ (tw @bB.eq_1 @ab.eq_1))))))))))))),?_⟩;refine hN _ _ ?_;clear hN N)))
        refine gj ?_ ?_ ?_ (⟨by rw[htd];exact hb,by rw[htd];omega,fun i hi=>(by rw[htd];exact DS i hi),fun g hg=>by rw[htd]at hg;have:=List.any_eq_false.1 hany g hg;simpa using this⟩) (by(try dsimp only);omega)
        all_goals simp only[go_sem, ↓reduceIte,Nat.reduceEqDiff,Nat.reduceAdd,Nat.reduceSub,Nat.reduceLeDiff,reduceCtorEq,b52,bg0,bg1,b1,b6,Dk,Dl,lS,s9]
       ·rw[hany]at Tw
        (repeat(first|((repeat(revert hN;revert N;apply Pn.out));refine wk (tw @b52 (tw @bg0 (tw @bg1 (tw @b1 (tw @b6 (tw @Dk (tw @Dl (tw @hj (tw @nU (tw @lS (tw @zJ (tw @bB.eq_1 @ab.eq_1)))))))))))) ?_;(repeat(refine Pn.mk ?_;intro N hN)))|((try apply Or.inl);refine⟨_,aq.x (sJ) (sd (tw @b52 (tw @bg0 (tw @bg1 (tw @b1 (tw @b6 (tw @Dk (tw @Dl (tw @hj (tw @nU (tw @lS (tw @zJ (tw @bB.eq_1 @ab.eq_1))))))))))))),?_⟩;refine hN _ _ ?_;clear hN N)|((try apply Or.inl);refine⟨_,aq.x (Tw) (sd (tw @b52 (tw @bg0 (tw @bg1 (tw @b1 (tw @b6 (tw @Dk (tw @Dl (tw @hj (tw @nU (tw @lS (tw @zJ (tw @bB.eq_1 @ab.eq_1))))))))))))),?_⟩;refine hN _ _ ?_;clear hN N)))
        exact bc (b:=false) (.inl rfl) (sd @Nat.zero_add) (fJ (kg fun h=>by
         rw[AW,htd]at h
         obtain⟨g,hg,hq⟩:=List.any_eq_true.1 hany
         have:=h.2.2.2 g hg
         rw[this]at hq;cases hq))
      ·have zJ:decide ((tl.bD.length:Int)=4)=false:=decide_eq_false h4
       (repeat(first|((repeat(revert hN;revert N;apply Pn.out));refine wk (tw @b52 (tw @bg0 (tw @bg1 (tw @b1 (tw @b6 (tw @Dk (tw @Dl (tw @hj (tw @nU (tw @lS (tw @zJ (tw @bB.eq_1 @ab.eq_1)))))))))))) ?_;(repeat(refine Pn.mk ?_;intro N hN)))|((try apply Or.inl);refine⟨_,aq.x (sJ) (sd (tw @b52 (tw @bg0 (tw @bg1 (tw @b1 (tw @b6 (tw @Dk (tw @Dl (tw @hj (tw @nU (tw @lS (tw @zJ (tw @bB.eq_1 @ab.eq_1))))))))))))),?_⟩;refine hN _ _ ?_;clear hN N)))
       exact bc (b:=false) (.inl rfl) (sd @Nat.zero_add) (fJ (kg fun h=>by rw[AW,htd]at h;have:=h.2.1;omega))
     ·(repeat(first|((repeat(revert hN;revert N;apply Pn.out));refine wk (tw @b52 (tw @bg0 (tw @bg1 (tw @b1 (tw @b6 (tw @Dk (tw @Dl (tw @hj (tw @nU (tw @lS (tw @fY (tw @bB.eq_1 @ab.eq_1)))))))))))) ?_;(repeat(refine Pn.mk ?_;intro N hN)))|((try apply Or.inl);refine⟨_,aq.x (sJ) (sd (tw @b52 (tw @bg0 (tw @bg1 (tw @b1 (tw @b6 (tw @Dk (tw @Dl (tw @hj (tw @nU (tw @lS (tw @fY (tw @bB.eq_1 @ab.eq_1))))))))))))),?_⟩;refine hN _ _ ?_;clear hN N)))
      exact bc (b:=false) (.inl rfl) (sd @Nat.zero_add) (fJ (kg fun h=>by
       rw[AW,htd]at h
       obtain⟨i,hi,he⟩:=List.mem_map.1 fh
       exact h.2.2.1 i (List.mem_range.1 hi) he))
   ·(try((repeat(revert hN;revert N;apply Pn.out));refine wk (tw @b52 (tw @bg0 (tw @bg1 (tw @b1 (tw @b6 (tw @Dk (tw @Dl (tw @hj @ab.eq_1)))))))) ?_;(repeat(refine Pn.mk ?_;intro N hN))))
    exact bc (b:=true) (.inl rfl) (sd @Nat.zero_add) (CA ⟨by omega,by omega,by omega,fun i hi=>j9 i (by omega),fun i hi=>bA0 i (by omega)⟩)
 ·rw[Bool.not_eq_true]at h2
  rw[h2]at hw
  (repeat(first|((repeat(revert hN;revert N;apply Pn.out));refine wk (tw @ab.eq_1 @h1) ?_;(repeat(refine Pn.mk ?_;intro N hN)))|((try apply Or.inl);refine⟨_,aq.x (hw) (sd (tw @ab.eq_1 @h1)),?_⟩;refine hN _ _ ?_;clear hN N)))
  exact bc (b:=false) (.inl rfl) (sd @Nat.zero_add) (fJ fun h=>by
   have h3:=h.some
   have h4:=h.F9
   rw[iN ⟨by omega,by omega⟩]at h2;cases h2)
end Go.Proofs.YtgoelphibofcmaaGreat.V

namespace Go.Proofs.YtgoelphibofcmaaGreat.V
open Go.RowKit
attribute [local irreducible] dO wpOps gy Call
attribute [local go_sem] aT fK eS ga fZ dj upd cF K.av cP AV.cells AV.cell rowOf rowsOf part ld rowAt bL cD dG ef ik bV de ew fW fe dw ek dc db dU dV cj bl cU b4 cW cV ei eo ej cR cm dd eh bW aV cZ cI ij bx cK ck bd du bj dI AV.undef bH bS dW eb dQ dP cJ ev eE cH er ep cY da List.getD_cons_zero List.getD_cons_succ List.getD_nil List.all_cons List.all_nil Bool.and_true Bool.true_and Bool.and_self Bool.not_true Bool.not_false Option.map_some Option.map_none Option.bind_some Option.bind_none List.length_cons List.length_nil List.take_succ_cons List.take_zero List.take_nil List.drop_succ_cons List.drop_zero List.drop_nil List.head?_cons List.map_cons List.map_nil List.getElem?_cons_zero List.getElem?_cons_succ List.cons_append List.nil_append List.append_nil List.length_map List.set_cons_zero List.set_cons_succ Nat.reduceMul eq_self Int.toNat_natCast Int.natCast_nonneg and_self true_and and_true decide_true decide_false Bool.false_eq_true Nat.zero_add Nat.add_zero List.contains_cons List.contains_nil Bool.or_false Bool.false_or beq_self_eq_true Nat.reduceBEq ne_eq not_true_eq_false not_false_eq_true Id.mk.injEq false_and and_false Nat.reduceLT Int.reduceLE Int.reduceLT Int.reduceToNat Int.reduceNeg Int.reduceAdd Nat.le_refl List.length_append beq_true beq_false Bool.not_eq_eq_eq_not or_false false_or dR ae aj aI bq bG cC aY bh aW bp cQ bJ
theorem uO {α:Type} {p:α->Bool} {xs:List α} {k:Nat} (hk:k<xs.length) (h1:p xs[k]=true) (h2:∀j (h:j<xs.length),j<k->p xs[j]=false):kp p xs=k:=by
 have:xs.findIdx p=k:=by rw[List.findIdx_eq hk];exact⟨h1,fun j hj=>h2 j (by omega) hj⟩
 rw[kp,this,if_pos hk]
theorem yu {α:Type} {p:α->Bool} {xs:List α} (h:∀j (h:j<xs.length),p xs[j]=false):kp p xs= -1:=by
 rw[kp,if_neg]
 rw[List.findIdx_lt_length]
 rintro⟨x,hx,LY⟩
 obtain⟨j,hj,rfl⟩:=List.getElem_of_mem hx
 rw[h j hj]at LY;cases LY
theorem zH {s:aw} {i:Nat} (h:i<s.ax.length):pT s i=s.ax[i]:=by simp[pT,List.getD_eq_getElem?_getD,h]
theorem Ar {s:aw} {i:Nat} (h:i<s.ai.length):pe s i=s.ai[i]:=by simp[pe,List.getD_eq_getElem?_getD,h]
def K1 (s:aw) (n:ByteArray):Int:=kp (fun g:fG=>decide (g.aM=n)) s.ax
def NH (s:aw) (n:ByteArray):Int:=kp (fun t:eZ=>decide (t.aM=n)) s.ai
theorem G1 (s:aw) (nm:ByteArray):aq Tryz.prog 190 [.dq (ab s),.str nm] (.int .i64 (K1 s nm+1)):=by
 refine aq.body eK rfl fun hl n0=>?_
 have hlen:s.ax.length<=9223372036854775807:=by
  have h1:=(hl (.dq (ab s)) (by simp)).BX (a:=.sl (s.ax.map bR)) (by simp[ab])
  simpa using h1.len
 clear hl
 (try((repeat(revert hN;revert N;apply Pn.out));refine wk @ab.eq_1 ?_;(repeat(refine Pn.mk ?_;intro N hN))))
 refine aZ (fun n env st=>∃k:Nat,n=(s.ax.length)-k/\k<=(s.ax.length)/\env 5=.int .i64 (k:Int)/\(∀j:Nat,j<k->∀h:j<s.ax.length,decide (s.ax[j].aM=nm)=false)) (s.ax.length) ⟨0,by omega,by omega,sl @ab.eq_1,fun _ h=>absurd h (Nat.not_lt_zero _)⟩ ?_
 rintro n_a env_a st_a ⟨k,rfl,ale,a5,j9⟩ dx
 have a0:=dx 0 (by kernel_rfl);have a1:=dx 1 (by kernel_rfl)
 simp only[go_sem, ↓reduceIte,Nat.reduceEqDiff,Nat.reduceAdd,Nat.reduceSub,Nat.reduceLeDiff,reduceCtorEq,ab]at a0 a1
 clear dx
 by_cases hk:(k:Int)<(s.ax.length:Int)
 ·have cz:∀{e:Env},(e 5=.int .i64 (IntKind.i64.wrap ((k:Int)+1)))->(∀h:k<s.ax.length,decide (s.ax[k].aM=nm)=false)->∃m0,m0<(s.ax.length)-k/\∃k:Nat,m0=(s.ax.length)-k/\k<=(s.ax.length)/\e 5=.int .i64 (k:Int)/\(∀j:Nat,j<k->∀h:j<s.ax.length,decide (s.ax[j].aM=nm)=false):=fun x1 x2=>⟨_,by omega,k+1,rfl,by omega,(by rw[x1,aA (by omega)]),(all_succ j9 x2)⟩
  have fM:k<s.ax.length:=by omega
  have e9:=zI fM
  have e:=zH fM
  cases hd:decide ((pT s k).aM=nm)
  ·have Tb:=of_decide_eq_false hd
   (try((repeat(revert hN;revert N;apply Pn.out));refine wk (tw @a5 (tw @a0 (tw @a1 (tw @hk (tw @e9 (tw @Tb (tw @hd (tw @bR.eq_1 @ab.eq_1)))))))) ?_;(repeat(refine Pn.mk ?_;intro N hN))))
   exact cz (sd (tw @a5 (tw @a0 @a1))) (fun _=>by rw[e]at hd;exact hd)
  ·have Tb:=of_decide_eq_true hd
   have hw:IntKind.i64.wrap ((k:Int)+1)=(k:Int)+1:=bI (by omega)
   (try((repeat(revert hN;revert N;apply Pn.out));refine wk (tw @a5 (tw @a0 (tw @a1 (tw @hk (tw @e9 (tw @hd (tw @hw (tw @bR.eq_1 @ab.eq_1)))))))) ?_;(repeat(refine Pn.mk ?_;intro N hN))))
   exact cN (b:=(k:Int)+1) (.inl rfl) (sd @Nat.zero_add) (by rw[K1,uO fM (by rw[e]at hd;exact hd) fun j h hj=>j9 j hj h])
 ·(try((repeat(revert hN;revert N;apply Pn.out));refine wk (tw @a5 (tw @a0 (tw @a1 (tw @hk @ab.eq_1)))) ?_;(repeat(refine Pn.mk ?_;intro N hN))))
  exact cN (b:=0) (.inl rfl) (sd @Nat.zero_add) (by rw[K1,yu fun j h=>j9 j (by omega) h];rfl)
theorem G2 (s:aw) (nm:ByteArray):aq Tryz.prog 191 [.dq (ab s),.str nm] (.int .i64 (NH s nm)):=by
 refine aq.body eK rfl fun hl n0=>?_
 have hlen:s.ai.length<=9223372036854775807:=by
  have h1:=(hl (.dq (ab s)) (by simp)).BX (a:=.sl (s.ai.map bB)) (by simp[ab])
  simpa using h1.len
 clear hl
 (try((repeat(revert hN;revert N;apply Pn.out));refine wk @ab.eq_1 ?_;(repeat(refine Pn.mk ?_;intro N hN))))
 refine aZ (fun n env st=>∃k:Nat,n=(s.ai.length)-k/\k<=(s.ai.length)/\env 5=.int .i64 (k:Int)/\(∀j:Nat,j<k->∀h:j<s.ai.length,decide (s.ai[j].aM=nm)=false)) (s.ai.length) ⟨0,by omega,by omega,sl @ab.eq_1,fun _ h=>absurd h (Nat.not_lt_zero _)⟩ ?_
 rintro n_a env_a st_a ⟨k,rfl,ale,a5,j9⟩ dx
 have a0:=dx 0 (by kernel_rfl);have a1:=dx 1 (by kernel_rfl)
 simp only[go_sem, ↓reduceIte,Nat.reduceEqDiff,Nat.reduceAdd,Nat.reduceSub,Nat.reduceLeDiff,reduceCtorEq,ab]at a0 a1
 clear dx
 by_cases hk:(k:Int)<(s.ai.length:Int)
 ·have cz:∀{e:Env},(e 5=.int .i64 (IntKind.i64.wrap ((k:Int)+1)))->(∀h:k<s.ai.length,decide (s.ai[k].aM=nm)=false)->∃m0,m0<(s.ai.length)-k/\∃k:Nat,m0=(s.ai.length)-k/\k<=(s.ai.length)/\e 5=.int .i64 (k:Int)/\(∀j:Nat,j<k->∀h:j<s.ai.length,decide (s.ai[j].aM=nm)=false):=fun x1 x2=>⟨_,by omega,k+1,rfl,by omega,(by rw[x1,aA (by omega)]),(all_succ j9 x2)⟩
  have fM:k<s.ai.length:=by omega
  have e9:=As fM
  have e:=Ar fM
  cases hd:decide ((pe s k).aM=nm)
  ·(try((repeat(revert hN;revert N;apply Pn.out));refine wk (tw @a5 (tw @a0 (tw @a1 (tw @hk (tw @e9 (tw @hd (tw @bB.eq_1 @ab.eq_1))))))) ?_;(repeat(refine Pn.mk ?_;intro N hN))))
   exact cz (sd (tw @a5 (tw @a0 @a1))) (fun _=>by rw[e]at hd;exact hd)
  ·(try((repeat(revert hN;revert N;apply Pn.out));refine wk (tw @a5 (tw @a0 (tw @a1 (tw @hk (tw @e9 (tw @hd (tw @bB.eq_1 @ab.eq_1))))))) ?_;(repeat(refine Pn.mk ?_;intro N hN))))
   exact cN (b:=(k:Int)) (.inl rfl) (sd @Nat.zero_add) (by rw[NH,uO fM (by rw[e]at hd;exact hd) fun j h hj=>j9 j hj h])
 ·(try((repeat(revert hN;revert N;apply Pn.out));refine wk (tw @a5 (tw @a0 (tw @a1 (tw @hk @ab.eq_1)))) ?_;(repeat(refine Pn.mk ?_;intro N hN))))
  exact cN (b:=-1) (.inl rfl) (sd @Nat.zero_add) (by rw[NH,yu fun j h=>j9 j (by omega) h])
theorem Oe {s:aw} {i:Nat} (h:i<s.ax.length):K1 s (pT s i).aM=i↔∀j,j<i->(pT s j).aM≠(pT s i).aM:=by
 constructor
 ·intro he j hj hc
  have iq:j<s.ax.length:=by omega
  have:s.ax.findIdx (fun g:fG=>decide (g.aM=(pT s i).aM))<=j:=by
   rcases Nat.lt_or_ge j (s.ax.findIdx fun g:fG=>decide (g.aM=(pT s i).aM))with dZ|qH
   ·have:=List.not_of_lt_findIdx dZ
    rw[<-zH iq]at this
    simp[hc]at this
   ·exact qH
  unfold K1 kp at he
  split at he<;>omega
 ·intro hd
  exact uO h (by rw[<-zH h];simp) fun j iq hj=>by rw[<-zH iq];simpa using hd j hj
theorem PJ {s:aw} {i:Nat} (h:i<s.ai.length):NH s (pe s i).aM=i↔∀j,j<i->(pe s j).aM≠(pe s i).aM:=by
 constructor
 ·intro he j hj hc
  have iq:j<s.ai.length:=by omega
  have:s.ai.findIdx (fun g:eZ=>decide (g.aM=(pe s i).aM))<=j:=by
   rcases Nat.lt_or_ge j (s.ai.findIdx fun g:eZ=>decide (g.aM=(pe s i).aM))with dZ|qH
   ·have:=List.not_of_lt_findIdx dZ
    rw[<-Ar iq]at this
    simp[hc]at this
   ·exact qH
  unfold NH kp at he
  split at he<;>omega
 ·intro hd
  exact uO h (by rw[<-Ar h];simp) fun j iq hj=>by rw[<-Ar iq];simpa using hd j hj
theorem Mb (s:aw) (hn:gn s) (hg:s.ax.length<=1048576) (ht:s.ai.length<=1048576):aq Tryz.prog 156 [.dq (ab s)] (.bool (sj s)):=by
 refine aq.body eK rfl fun hl n0=>?_
 clear hl
 have Rv:∀i,i<s.ax.length->(pT s i).aM.size<=9223372036854775807:=fun i hi=>hn.1 _ (by simp[pT,List.getD_eq_getElem?_getD,hi])
 have RS:∀i,i<s.ai.length->(pe s i).aM.size<=9223372036854775807:=fun i hi=>hn.2 _ (by simp[pe,List.getD_eq_getElem?_getD,hi])
 by_cases h1:(200:Int)<(s.ax.length:Int)
 ·(try((repeat(revert hN;revert N;apply Pn.out));refine wk (tw @ab.eq_1 @h1) ?_;(repeat(refine Pn.mk ?_;intro N hN))))
  exact bc (b:=false) (.inl rfl) (sd @Nat.zero_add) (fJ fun h=>by have:=h.wC;omega)
 by_cases h2:(s.ai.length:Int)<1
 ·(try((repeat(revert hN;revert N;apply Pn.out));refine wk (tw @ab.eq_1 (tw @h1 @h2)) ?_;(repeat(refine Pn.mk ?_;intro N hN))))
  exact bc (b:=false) (.inl rfl) (sd @Nat.zero_add) (fJ fun h=>by have:=h.some;omega)
 by_cases h3:(160:Int)<(s.ai.length:Int)
 ·(try((repeat(revert hN;revert N;apply Pn.out));refine wk (tw @ab.eq_1 (tw @h1 (tw @h2 @h3))) ?_;(repeat(refine Pn.mk ?_;intro N hN))))
  exact bc (b:=false) (.inl rfl) (sd @Nat.zero_add) (fJ fun h=>by have:=h.F9;omega)
 (try((repeat(revert hN;revert N;apply Pn.out));refine wk (tw @ab.eq_1 (tw @h1 (tw @h2 @h3))) ?_;(repeat(refine Pn.mk ?_;intro N hN))))
 refine aZ (fun n env st=>∃k:Nat,n=(s.ax.length)-k/\k<=(s.ax.length)/\env 3=.int .i64 (k:Int)/\(∀j:Nat,j<k->C9 s j)) (s.ax.length) ⟨0,by omega,by omega,sl @ab.eq_1,fun _ h=>absurd h (Nat.not_lt_zero _)⟩ ?_
 rintro n_a env_a st_a ⟨k,rfl,ale,a3,j9⟩ dx
 have a0:=dx 0 (by kernel_rfl)
 simp only[go_sem, ↓reduceIte,Nat.reduceEqDiff,Nat.reduceAdd,Nat.reduceSub,Nat.reduceLeDiff,reduceCtorEq,ab]at a0
 clear dx
 by_cases hk:(k:Int)<(s.ax.length:Int)
 ·have cz:∀{e:Env},(e 3=.int .i64 (IntKind.i64.wrap ((k:Int)+1)))->(C9 s k)->∃m0,m0<(s.ax.length)-k/\∃k:Nat,m0=(s.ax.length)-k/\k<=(s.ax.length)/\e 3=.int .i64 (k:Int)/\(∀j:Nat,j<k->C9 s j):=fun x1 x2=>⟨_,by omega,k+1,rfl,by omega,(by rw[x1,aA (by omega)]),(all_succ j9 x2)⟩
  have fM:k<s.ax.length:=by omega
  have e9:=zI fM
  have sJ:=F4 (pT s k).aM (Rv k fM)
  have Ld:=lK (pT s k).eG 1 4
  have GM:=G1 s (pT s k).aM
  have rM:=Oe fM
  have kg:(¬C9 s k)->¬iy s:=fun h hp=>h (hp.SP k fM)
  have hw:IntKind.i64.wrap ((k:Int)+1)=(k:Int)+1:=bI (by omega)
  generalize sI:pT s k=gl at *
  cases hb:jP gl.aM
  ·rw[hb]at sJ
   (repeat(first|((repeat(revert hN;revert N;apply Pn.out));refine wk (tw @a3 (tw @a0 (tw @hk (tw @e9 (tw @bR.eq_1 @ab.eq_1))))) ?_;(repeat(refine Pn.mk ?_;intro N hN)))|((try apply Or.inl);refine⟨_,aq.x (sJ) (sd (tw @a3 (tw @a0 (tw @hk (tw @e9 (tw @bR.eq_1 @ab.eq_1)))))),?_⟩;refine hN _ _ ?_;clear hN N)))
   exact bc (b:=false) (.inl rfl) (sd @Nat.zero_add) (fJ (kg fun h=>by rw[C9,sI,hb]at h;cases h.1))
  rw[hb]at sJ
  cases dK:jc gl.eG 1 4
  ·rw[dK]at Ld
   (repeat(first|((repeat(revert hN;revert N;apply Pn.out));refine wk (tw @a3 (tw @a0 (tw @hk (tw @e9 (tw @bR.eq_1 @ab.eq_1))))) ?_;(repeat(refine Pn.mk ?_;intro N hN)))|((try apply Or.inl);refine⟨_,aq.x (sJ) (sd (tw @a3 (tw @a0 (tw @hk (tw @e9 (tw @bR.eq_1 @ab.eq_1)))))),?_⟩;refine hN _ _ ?_;clear hN N)|((try apply Or.inl);refine⟨_,aq.x (Ld) (sd (tw @a3 (tw @a0 (tw @hk (tw @e9 (tw @bR.eq_1 @ab.eq_1)))))),?_⟩;refine hN _ _ ?_;clear hN N)))
   exact bc (b:=false) (.inl rfl) (sd @Nat.zero_add) (fJ (kg fun h=>by rw[C9,sI,dK]at h;cases h.2.1))
  rw[dK]at Ld
  rw[ab]at GM
  by_cases hq:K1 s gl.aM=(k:Int)
  ·have hd:decide (K1 s gl.aM+1=(k:Int)+1)=true:=decide_eq_true (by omega)
   have me:decide (K1 s gl.aM=(k:Int))=true:=decide_eq_true hq
   (repeat(first|((repeat(revert hN;revert N;apply Pn.out));refine wk (tw @a3 (tw @a0 (tw @hk (tw @e9 (tw @hw (tw @hd (tw @me (tw @bR.eq_1 @ab.eq_1)))))))) ?_;(repeat(refine Pn.mk ?_;intro N hN)))|((try apply Or.inl);refine⟨_,aq.x (sJ) (sd (tw @a3 (tw @a0 (tw @hk (tw @e9 (tw @hw (tw @hd (tw @me (tw @bR.eq_1 @ab.eq_1))))))))),?_⟩;refine hN _ _ ?_;clear hN N)|((try apply Or.inl);refine⟨_,aq.x (Ld) (sd (tw @a3 (tw @a0 (tw @hk (tw @e9 (tw @hw (tw @hd (tw @me (tw @bR.eq_1 @ab.eq_1))))))))),?_⟩;refine hN _ _ ?_;clear hN N)|((try apply Or.inl);refine⟨_,aq.x (GM) (sd (tw @a3 (tw @a0 (tw @hk (tw @e9 (tw @hw (tw @hd (tw @me (tw @bR.eq_1 @ab.eq_1))))))))),?_⟩;refine hN _ _ ?_;clear hN N)))
   exact cz (sd (tw @a3 (tw @a0 @hw))) (⟨by rw[sI];exact hb,by rw[sI];exact dK,fun j hj=>by rw[sI];exact rM.1 hq j hj⟩)
  ·have hd:decide (K1 s gl.aM+1=(k:Int)+1)=false:=decide_eq_false (by omega)
   have me:decide (K1 s gl.aM=(k:Int))=false:=decide_eq_false hq
   (repeat(first|((repeat(revert hN;revert N;apply Pn.out));refine wk (tw @a3 (tw @a0 (tw @hk (tw @e9 (tw @hw (tw @hd (tw @me (tw @bR.eq_1 @ab.eq_1)))))))) ?_;(repeat(refine Pn.mk ?_;intro N hN)))|((try apply Or.inl);refine⟨_,aq.x (sJ) (sd (tw @a3 (tw @a0 (tw @hk (tw @e9 (tw @hw (tw @hd (tw @me (tw @bR.eq_1 @ab.eq_1))))))))),?_⟩;refine hN _ _ ?_;clear hN N)|((try apply Or.inl);refine⟨_,aq.x (Ld) (sd (tw @a3 (tw @a0 (tw @hk (tw @e9 (tw @hw (tw @hd (tw @me (tw @bR.eq_1 @ab.eq_1))))))))),?_⟩;refine hN _ _ ?_;clear hN N)|((try apply Or.inl);refine⟨_,aq.x (GM) (sd (tw @a3 (tw @a0 (tw @hk (tw @e9 (tw @hw (tw @hd (tw @me (tw @bR.eq_1 @ab.eq_1))))))))),?_⟩;refine hN _ _ ?_;clear hN N)))
   exact bc (b:=false) (.inl rfl) (sd @Nat.zero_add) (fJ (kg fun h=>by
    rw[C9,sI]at h
    exact hq (rM.2 h.2.2)))
 ·have l6:k=s.ax.length:=by omega
  (try((repeat(revert hN;revert N;apply Pn.out));refine wk (tw @a3 (tw @a0 (tw @hk @ab.eq_1))) ?_;(repeat(refine Pn.mk ?_;intro N hN))))
  refine aZ (fun n env st=>∃j:Nat,n=(s.ai.length)-j/\j<=(s.ai.length)/\env 5=.int .i64 (j:Int)/\(∀i:Nat,i<j->AW s i)) (s.ai.length) ⟨0,by omega,by omega,sl (tw @a3 (tw @a0 @ab.eq_1)),fun _ h=>absurd h (Nat.not_lt_zero _)⟩ ?_
  rintro n_b env_b st_b ⟨j,rfl,ble,b5,bA0⟩ fU
  have b0:=fU 0 (by kernel_rfl)
  simp only[go_sem, ↓reduceIte,Nat.reduceEqDiff,Nat.reduceAdd,Nat.reduceSub,Nat.reduceLeDiff,reduceCtorEq,a3,a0,ab]at b0
  clear fU
  by_cases hj:(j:Int)<(s.ai.length:Int)
  ·have gj:∀{e:Env},(e 5=.int .i64 (IntKind.i64.wrap ((j:Int)+1)))->(AW s j)->∃m0,m0<(s.ai.length)-j/\∃j:Nat,m0=(s.ai.length)-j/\j<=(s.ai.length)/\e 5=.int .i64 (j:Int)/\(∀i:Nat,i<j->AW s i):=fun x1 x2=>⟨_,by omega,j+1,rfl,by omega,(by rw[x1,aA (by omega)]),(all_succ bA0 x2)⟩
   have iH:j<s.ai.length:=by omega
   have nU:=As iH
   have sJ:=F4 (pe s j).aM (RS j iH)
   have GM:=G2 s (pe s j).aM
   have rM:=PJ iH
   have kg:(¬AW s j)->¬iy s:=fun h hp=>h (hp.tok j iH)
   generalize htd:pe s j=tl at *
   cases hb:jP tl.aM
   ·rw[hb]at sJ
    (repeat(first|((repeat(revert hN;revert N;apply Pn.out));refine wk (tw @b5 (tw @b0 (tw @hj (tw @nU (tw @bB.eq_1 @ab.eq_1))))) ?_;(repeat(refine Pn.mk ?_;intro N hN)))|((try apply Or.inl);refine⟨_,aq.x (sJ) (sd (tw @b5 (tw @b0 (tw @hj (tw @nU (tw @bB.eq_1 @ab.eq_1)))))),?_⟩;refine hN _ _ ?_;clear hN N)))
    exact bc (b:=false) (.inl rfl) (sd @Nat.zero_add) (fJ (kg fun h=>by rw[AW,htd,hb]at h;cases h.1))
   rw[hb]at sJ
   by_cases h4:(tl.bD.length:Int)=4
   ·have zJ:decide ((tl.bD.length:Int)=4)=true:=decide_eq_true h4
    rw[ab]at GM
    by_cases hq:NH s tl.aM=(j:Int)
    ·have hd:decide (NH s tl.aM=(j:Int))=true:=decide_eq_true hq
     (repeat(first|((repeat(revert hN;revert N;apply Pn.out));refine wk (tw @b5 (tw @b0 (tw @hj (tw @nU (tw @zJ (tw @hd (tw @bB.eq_1 @ab.eq_1))))))) ?_;(repeat(refine Pn.mk ?_;intro N hN)))|((try apply Or.inl);refine⟨_,aq.x (sJ) (sd (tw @b5 (tw @b0 (tw @hj (tw @nU (tw @zJ (tw @hd (tw @bB.eq_1 @ab.eq_1)))))))),?_⟩;refine hN _ _ ?_;clear hN N)|((try apply Or.inl);refine⟨_,aq.x (GM) (sd (tw @b5 (tw @b0 (tw @hj (tw @nU (tw @zJ (tw @hd (tw @bB.eq_1 @ab.eq_1)))))))),?_⟩;refine hN _ _ ?_;clear hN N)))
     refine aZ (fun n env st=>∃i:Nat,n=(4)-i/\i<=(4)/\env 7=.int .i64 (i:Int)/\st.get ⟨156012007,st_b.next+1⟩=some ⟨true,2,[bB tl]⟩/\(∀x:Nat,x<i->jc (tl.bD.getD x 0) 0 s.ax.length=true)) (4) ⟨0,by omega,by omega,sl (tw @b5 (tw @b0 (tw @bB.eq_1 @ab.eq_1))),sl (tw @b5 (tw @b0 (tw @bB.eq_1 @ab.eq_1))),fun _ h=>absurd h (Nat.not_lt_zero _)⟩ ?_
     rintro n_c env_c st_c ⟨i,rfl,cle,c7,cg0,cA0⟩ cfr
     have c0:=cfr 0 (by kernel_rfl);have c5:=cfr 5 (by kernel_rfl);have c6:=cfr 6 (by kernel_rfl)
     simp only[go_sem, ↓reduceIte,Nat.reduceEqDiff,Nat.reduceAdd,Nat.reduceSub,Nat.reduceLeDiff,reduceCtorEq,b5,b0,bB,ab]at c0 c5 c6
     clear cfr
     by_cases hi:(i:Int)<4
     ·have iv:∀{e:Env} {gg:Rows},(e 7=.int .i64 (IntKind.i64.wrap ((i:Int)+1)))->(gg ⟨156012007,st_b.next+1⟩=some ⟨true,2,[bB tl]⟩)->(jc (tl.bD.getD i 0) 0 s.ax.length=true)->∃m0,m0<(4)-i/\∃i:Nat,m0=(4)-i/\i<=(4)/\e 7=.int .i64 (i:Int)/\gg ⟨156012007,st_b.next+1⟩=some ⟨true,2,[bB tl]⟩/\(∀x:Nat,x<i->jc (tl.bD.getD x 0) 0 s.ax.length=true):=fun x1 x2 x3=>⟨_,by omega,i+1,rfl,by omega,(by rw[x1,aA (by omega)]),x2,(all_succ cA0 x3)⟩
      have fh:i<tl.bD.length:=by omega
      have jl:(tl.bD.map aE)[i]? =some (aE (tl.bD.getD i 0)):=getD_map aE fh
      have s8:tl.bD.getD i 0∈tl.bD:=by rw[List.getD_eq_getElem?_getD,List.getElem?_eq_getElem fh];exact List.getElem_mem fh
      have Jm:=lK (tl.bD.getD i 0) 0 s.ax.length
      generalize OH:tl.bD.getD i 0=gv at *
      cases hv:jc gv 0 s.ax.length
      ·rw[hv]at Jm
       (repeat(first|((repeat(revert hN;revert N;apply Pn.out));refine wk (tw @c7 (tw @cg0 (tw @c0 (tw @c5 (tw @c6 (tw @hi (tw @jl (tw @aE.eq_1 (tw @bB.eq_1 @ab.eq_1))))))))) ?_;(repeat(refine Pn.mk ?_;intro N hN)))|((try apply Or.inl);refine⟨_,aq.x (Jm) (sd (tw @c7 (tw @cg0 (tw @c0 (tw @c5 (tw @c6 (tw @hi (tw @jl (tw @aE.eq_1 (tw @bB.eq_1 @ab.eq_1)))))))))),?_⟩;refine hN _ _ ?_;clear hN N)))
       exact bc (b:=false) (.inl rfl) (sd @Nat.zero_add) (fJ (kg fun h=>by
        rw[AW,htd]at h
        have:=h.2.2.2 gv s8
        rw[hv]at this;cases this))
      ·rw[hv]at Jm
       (repeat(first|((repeat(revert hN;revert N;apply Pn.out));refine wk (tw @c7 (tw @cg0 (tw @c0 (tw @c5 (tw @c6 (tw @hi (tw @jl (tw @aE.eq_1 (tw @bB.eq_1 @ab.eq_1))))))))) ?_;(repeat(refine Pn.mk ?_;intro N hN)))|((try apply Or.inl);refine⟨_,aq.x (Jm) (sd (tw @c7 (tw @cg0 (tw @c0 (tw @c5 (tw @c6 (tw @hi (tw @jl (tw @aE.eq_1 (tw @bB.eq_1 @ab.eq_1)))))))))),?_⟩;refine hN _ _ ?_;clear hN N)))
       refine iv ?_ ?_ (hv)
       all_goals simp only[go_sem, ↓reduceIte,Nat.reduceEqDiff,Nat.reduceAdd,Nat.reduceSub,Nat.reduceLeDiff,reduceCtorEq,c7,cg0,c0,c5,c6]
     ·have hi4:i=4:=by omega
      (try((repeat(revert hN;revert N;apply Pn.out));refine wk (tw @c7 (tw @cg0 (tw @c0 (tw @c5 (tw @c6 (tw @hi (tw @bB.eq_1 @ab.eq_1))))))) ?_;(repeat(refine Pn.mk ?_;intro N hN))))
      exact gj (sd (tw @b5 (tw @b0 (tw @c7 (tw @cg0 (tw @c0 (tw @c5 @c6))))))) (⟨by rw[htd];exact hb,by rw[htd];omega,fun x hx=>(by rw[htd];exact rM.1 hq x hx),fun g hg=>by
       rw[htd]at hg
       obtain⟨x,hx,rfl⟩:=List.getElem_of_mem hg
       have:=cA0 x (by omega)
       rwa [List.getD_eq_getElem?_getD,List.getElem?_eq_getElem hx]at this⟩)
    ·have hd:decide (NH s tl.aM=(j:Int))=false:=decide_eq_false hq
     (repeat(first|((repeat(revert hN;revert N;apply Pn.out));refine wk (tw @b5 (tw @b0 (tw @hj (tw @nU (tw @zJ (tw @hd (tw @bB.eq_1 @ab.eq_1))))))) ?_;(repeat(refine Pn.mk ?_;intro N hN)))|((try apply Or.inl);refine⟨_,aq.x (sJ) (sd (tw @b5 (tw @b0 (tw @hj (tw @nU (tw @zJ (tw @hd (tw @bB.eq_1 @ab.eq_1)))))))),?_⟩;refine hN _ _ ?_;clear hN N)|((try apply Or.inl);refine⟨_,aq.x (GM) (sd (tw @b5 (tw @b0 (tw @hj (tw @nU (tw @zJ (tw @hd (tw @bB.eq_1 @ab.eq_1)))))))),?_⟩;refine hN _ _ ?_;clear hN N)))
     exact bc (b:=false) (.inl rfl) (sd @Nat.zero_add) (fJ (kg fun h=>by
      rw[AW,htd]at h
      exact hq (rM.2 h.2.2.1)))
   ·have zJ:decide ((tl.bD.length:Int)=4)=false:=decide_eq_false h4
    (repeat(first|((repeat(revert hN;revert N;apply Pn.out));refine wk (tw @b5 (tw @b0 (tw @hj (tw @nU (tw @zJ (tw @bB.eq_1 @ab.eq_1)))))) ?_;(repeat(refine Pn.mk ?_;intro N hN)))|((try apply Or.inl);refine⟨_,aq.x (sJ) (sd (tw @b5 (tw @b0 (tw @hj (tw @nU (tw @zJ (tw @bB.eq_1 @ab.eq_1))))))),?_⟩;refine hN _ _ ?_;clear hN N)))
    exact bc (b:=false) (.inl rfl) (sd @Nat.zero_add) (fJ (kg fun h=>by rw[AW,htd]at h;have:=h.2.1;omega))
  ·(try((repeat(revert hN;revert N;apply Pn.out));refine wk (tw @b5 (tw @b0 (tw @hj @ab.eq_1))) ?_;(repeat(refine Pn.mk ?_;intro N hN))))
   exact bc (b:=true) (.inl rfl) (sd @Nat.zero_add) (CA ⟨by omega,by omega,by omega,fun i hi=>j9 i (by omega),fun i hi=>bA0 i (by omega)⟩)
end Go.Proofs.YtgoelphibofcmaaGreat.V

namespace Go.Proofs.YtgoelphibofcmaaGreat.V
def jO (a b:aL):Bool:=decide (a.eV<b.eV)||(decide (a.eV=b.eV)&&decide (a.fb<b.fb))
theorem u7 {a b:aL}:jO a b=true↔a.eV<b.eV∨(a.eV=b.eV/\a.fb<b.fb):=by simp[jO]
theorem pB {a b:aL}:jO a b=false↔¬(a.eV<b.eV∨(a.eV=b.eV/\a.fb<b.fb)):=by rw[<-u7,Bool.not_eq_true]
theorem EE {a b:aL} (h1:a.fb=b.fb) (h2:a.eV=b.eV):a=b:=by cases a;cases b;simp_all
theorem jV {a b c:aL} (h:jO a b=true) (k:jO b c=true):jO a c=true:=by rw[u7]at *;omega
theorem nj {a:aL}:jO a a=false:=by rw[pB];omega
theorem JP {a b:aL} (h:jO a b=true):jO b a=false:=by rw[u7]at h;rw[pB];omega
theorem FX {a b:aL} (h:jO a b=false) (gP:a≠b):jO b a=true:=by
 rw[pB]at h;rw[u7]
 by_cases hy:a.eV=b.eV
 ·by_cases hx:a.fb=b.fb
  ·exact absurd (EE hx hy) gP
  ·omega
 ·omega
def rG (a b:Int):Int:=if a<b then -1 else if b<a then 1 else 0
def Mu (a b:Int):Int:=if a=0 then b else a
def rH (a b:aL):Int:=Mu (rG a.eV b.eV) (rG a.fb b.fb)
theorem uN (a b:aL):decide (rH a b<0)=jO a b:=by
 unfold rH Mu rG jO
 by_cases h1:a.eV<b.eV
 ·simp[h1]
 ·by_cases h2:b.eV<a.eV
  ·have:¬a.eV=b.eV:=by omega
   simp[h1,h2,this]
  ·have:a.eV=b.eV:=by omega
   by_cases h3:a.fb<b.fb
   ·simp[h1,h2,this,h3]
   ·by_cases h4:b.fb<a.fb<;>simp[h1,h2,this,h3,h4]
theorem Gs (a b:aL):(rH a b=0)↔a=b:=by
 cases a;cases b
 unfold rH Mu rG
 simp only[aL.mk.injEq]
 split<;>(try split)<;>(try split)<;>(try split)<;>omega
def JX:ad:=⟨⟨0,0⟩,0⟩
def aD (l:List ad) (i:Nat):ad:=l.getD i JX
theorem fH {l:List ad} {i:Nat} (h:i<l.length):aD l i=l[i]:=by simp[aD,List.getD_eq_getElem?_getD,h]
theorem k8 {l:List ad} {i:Nat} (h:i<l.length):aD l i∈l:=by rw[fH h];exact List.getElem_mem h
def pR (l:List ad):Prop:=∀i j:Nat,i<j->j<l.length->jO (aD l i).aQ (aD l j).aQ=true
def pY (l:List ad) (p:aL):Nat:=l.findIdx fun c=>decide (c.aQ=p)
def eR (l:List ad) (p:aL):Int:=if pY l p<l.length then(pY l p:Int)else -1
def rW (l:List ad) (p:aL):Nat:=l.findIdx fun c=> !jO c.aQ p
theorem zV {l:List ad} {p:aL} {i:Nat} (hi:i<=l.length) (h1:∀x,x<i->jO (aD l x).aQ p=true) (h2:i<l.length->jO (aD l i).aQ p=false):rW l p=i:=by
 unfold rW
 by_cases h:i<l.length
 ·rw[List.findIdx_eq h]
  refine⟨by have:=h2 h;rw[fH h]at this;simp[this],fun j hj=>?_⟩
  have:=h1 j hj
  rw[fH (by omega)]at this
  simp[this]
 ·have:i=l.length:=by omega
  subst this
  refine List.findIdx_eq_length_of_false fun x hx=>?_
  obtain⟨j,hj,rfl⟩:=List.getElem_of_mem hx
  have:=h1 j hj
  rw[fH hj]at this
  simp[this]
theorem FV {l:List ad} {p:aL} (hR:pR l):eR l p=if rW l p<l.length/\(aD l (rW l p)).aQ=p then(rW l p:Int)else -1:=by
 by_cases h:∃i,i<l.length/\(aD l i).aQ=p
 ·obtain⟨i,hi,hp⟩:=h
  have h1:rW l p=i:=zV (by omega) (fun x hx=>by rw[<-hp];exact hR x i hx hi) fun _=>by rw[hp];exact nj
  have h2:pY l p=i:=by
   rw[pY,List.findIdx_eq hi]
   refine⟨by rw[fH hi]at hp;simpa using hp,fun j hj=>?_⟩
   have:=hR j i hj hi
   rw[hp,fH (by omega)]at this
   simp only[decide_eq_false_iff_not]
   intro hc
   rw[hc,nj]at this
   cases this
  rw[eR,h1,h2,if_pos hi,if_pos ⟨hi,hp⟩]
 ·have h2:¬pY l p<l.length:=by
   rw[pY,List.findIdx_lt_length]
   rintro⟨c,hc,he⟩
   obtain⟨j,hj,rfl⟩:=List.getElem_of_mem hc
   exact h ⟨j,hj,by rw[fH hj];simpa using he⟩
  rw[eR,if_neg h2,if_neg]
  rintro⟨h3,h4⟩
  exact h ⟨_,h3,h4⟩
theorem ni {l:List ad} {p:aL} (h:0<=eR l p):(eR l p).toNat<l.length/\(aD l (eR l p).toNat).aQ=p:=by
 unfold eR at h ⊢
 split at h
 ·rename_i hc
  rw[if_pos hc]
  refine⟨by omega,?_⟩
  have:=of_decide_eq_true (List.findIdx_getElem (p:=fun c:ad=>decide (c.aQ=p)) (xs:=l) (w:=hc))
  rw[Int.toNat_natCast,fH hc]
  exact this
 ·omega
def gQ (l:List ad) (p:aL):Int:=if 0<=eR l p then(aD l (eR l p).toNat).aO else -1
end Go.Proofs.YtgoelphibofcmaaGreat.V

namespace Go.Proofs.YtgoelphibofcmaaGreat.V
open Go.RowKit
attribute [local irreducible] dO wpOps gy Call
attribute [local go_sem] aT fK eS ga fZ dj upd cF K.av cP AV.cells AV.cell rowOf rowsOf part ld rowAt bL cD dG ef ik bV de ew fW fe dw ek dc db dU dV cj bl cU b4 cW cV ei eo ej cR cm dd eh bW aV cZ cI ij bx cK ck bd du bj dI AV.undef bH bS dW eb dQ dP cJ ev eE cH er ep cY da List.getD_cons_zero List.getD_cons_succ List.getD_nil List.all_cons List.all_nil Bool.and_true Bool.true_and Bool.and_self Bool.not_true Bool.not_false Option.map_some Option.map_none Option.bind_some Option.bind_none List.length_cons List.length_nil List.take_succ_cons List.take_zero List.take_nil List.drop_succ_cons List.drop_zero List.drop_nil List.head?_cons List.map_cons List.map_nil List.getElem?_cons_zero List.getElem?_cons_succ List.cons_append List.nil_append List.append_nil List.length_map List.set_cons_zero List.set_cons_succ Nat.reduceMul eq_self Int.toNat_natCast Int.natCast_nonneg and_self true_and and_true decide_true decide_false Bool.false_eq_true Nat.zero_add Nat.add_zero List.contains_cons List.contains_nil Bool.or_false Bool.false_or beq_self_eq_true Nat.reduceBEq ne_eq not_true_eq_false not_false_eq_true Id.mk.injEq false_and and_false Nat.reduceLT Int.reduceLE Int.reduceLT Int.reduceToNat Int.reduceNeg Int.reduceAdd Nat.le_refl List.length_append beq_true beq_false Bool.not_eq_eq_eq_not or_false false_or dR ae aj aI bq bG cC aY bh aW bp cQ bJ
theorem oi (a b:aL):aq Tryz.prog 160 [.agg (ah a),.agg (ah b)] (.bool (jO a b)):=by
 refine aq.body eK rfl fun hl n0=>?_
 clear hl
 by_cases h0:a.eV<b.eV
 ·(try((repeat(revert hN;revert N;apply Pn.out));refine wk (tw @ah.eq_1 @h0) ?_;(repeat(refine Pn.mk ?_;intro N hN))))
  exact bc (b:=true) (.inl rfl) (sd @Nat.zero_add) (by simp[jO,h0])
 ·by_cases h1:a.eV=b.eV
  ·have h2:¬b.eV<b.eV:=by omega
   (try((repeat(revert hN;revert N;apply Pn.out));refine wk (tw @ah.eq_1 (tw @h1 @h2)) ?_;(repeat(refine Pn.mk ?_;intro N hN))))
   exact bc (b:=decide (a.fb<b.fb)) (.inl rfl) (sd @Nat.zero_add) (by simp[jO,h1])
  ·(try((repeat(revert hN;revert N;apply Pn.out));refine wk (tw @ah.eq_1 (tw @h0 @h1)) ?_;(repeat(refine Pn.mk ?_;intro N hN))))
   exact bc (b:=false) (.inl rfl) (sd @Nat.zero_add) (by simp[jO,h0,h1])
end Go.Proofs.YtgoelphibofcmaaGreat.V

namespace Go.Proofs.YtgoelphibofcmaaGreat.V
open Go.RowKit
attribute [local irreducible] dO wpOps gy Call
attribute [local go_sem] aT fK eS ga fZ dj upd cF K.av cP AV.cells AV.cell rowOf rowsOf part ld rowAt bL cD dG ef ik bV de ew fW fe dw ek dc db dU dV cj bl cU b4 cW cV ei eo ej cR cm dd eh bW aV cZ cI ij bx cK ck bd du bj dI AV.undef bH bS dW eb dQ dP cJ ev eE cH er ep cY da List.getD_cons_zero List.getD_cons_succ List.getD_nil List.all_cons List.all_nil Bool.and_true Bool.true_and Bool.and_self Bool.not_true Bool.not_false Option.map_some Option.map_none Option.bind_some Option.bind_none List.length_cons List.length_nil List.take_succ_cons List.take_zero List.take_nil List.drop_succ_cons List.drop_zero List.drop_nil List.head?_cons List.map_cons List.map_nil List.getElem?_cons_zero List.getElem?_cons_succ List.cons_append List.nil_append List.append_nil List.length_map List.set_cons_zero List.set_cons_succ Nat.reduceMul eq_self Int.toNat_natCast Int.natCast_nonneg and_self true_and and_true decide_true decide_false Bool.false_eq_true Nat.zero_add Nat.add_zero List.contains_cons List.contains_nil Bool.or_false Bool.false_or beq_self_eq_true Nat.reduceBEq ne_eq not_true_eq_false not_false_eq_true Id.mk.injEq false_and and_false Nat.reduceLT Int.reduceLE Int.reduceLT Int.reduceToNat Int.reduceNeg Int.reduceAdd Nat.le_refl List.length_append beq_true beq_false Bool.not_eq_eq_eq_not or_false false_or dR ae aj aI bq bG cC aY bh aW bp cQ bJ
theorem fE {l:List ad} {i:Nat} (h:i<l.length):(l.map aa)[i]? =some (aa (aD l i)):=getD_map aa h
def Dd (l:List ad) (i:Nat):Prop:=x7 (aD l i).aQ=true/\jc (aD l i).aO 0 159=true/\(0<i->jO (aD l (i-1)).aQ (aD l i).aQ=true)
structure kQ (l:List ad):Prop where
 xx:l.length<=500
 ok:∀i,i<l.length->Dd l i
noncomputable def oJ (l:List ad):Bool:=@decide (kQ l) (Classical.propDecidable _)
theorem GF {l:List ad}:oJ l=true↔kQ l:=by simp[oJ]
theorem kc {l:List ad} (h:¬kQ l):false=oJ l:=by simp[oJ,h]
theorem yw {l:List ad} (h:kQ l):true=oJ l:=by simp[oJ,h]
theorem kQ.Kl {l:List ad} (h:kQ l):pR l:=by
 intro i j DW hj
 induction j with
 |zero=>omega
 |succ j ih=>
  have h1:=(h.ok (j+1) hj).2.2 (by omega)
  rw[Nat.add_sub_cancel]at h1
  by_cases he:i=j
  ·subst he;exact h1
  ·exact jV (ih (by omega) (by omega)) h1
theorem kQ.pt {l:List ad} (h:kQ l) {i:Nat} (hi:i<l.length):x7 (aD l i).aQ=true:=(h.ok i hi).1
theorem oZ {p:aL} (h:x7 p=true):iB p.fb/\iB p.eV:=by
 unfold x7 at h
 simp only[Bool.and_eq_true]at h
 have:=eI h.1;have:=eI h.2
 unfold iB;omega
theorem G3 (l:List ad):aq Tryz.prog 159 [.dq [.sl (l.map aa)]] (.bool (oJ l)):=by
 refine aq.body eK rfl fun hl n0=>?_
 clear hl
 by_cases h1:(500:Int)<(l.length:Int)
 ·(try((repeat(revert hN;revert N;apply Pn.out));refine wk @h1 ?_;(repeat(refine Pn.mk ?_;intro N hN))))
  exact bc (b:=false) (.inl rfl) (sd @Nat.zero_add) (kc fun h=>by have:=h.xx;omega)
 (try((repeat(revert hN;revert N;apply Pn.out));refine wk @h1 ?_;(repeat(refine Pn.mk ?_;intro N hN))))
 refine aZ (fun n env st=>∃k:Nat,n=(l.length)-k/\k<=(l.length)/\env 3=.int .i64 (k:Int)/\(∀j:Nat,j<k->Dd l j)) (l.length) ⟨0,by omega,by omega,sl @Nat.zero_add,fun _ h=>absurd h (Nat.not_lt_zero _)⟩ ?_
 rintro n_a env_a st_a ⟨k,rfl,ale,a3,j9⟩ dx
 have a0:=dx 0 (by kernel_rfl)
 simp only[go_sem, ↓reduceIte,Nat.reduceEqDiff,Nat.reduceAdd,Nat.reduceSub,Nat.reduceLeDiff,reduceCtorEq]at a0
 clear dx
 by_cases hk:(k:Int)<(l.length:Int)
 ·have cz:∀{e:Env},(e 3=.int .i64 (IntKind.i64.wrap ((k:Int)+1)))->(Dd l k)->∃m0,m0<(l.length)-k/\∃k:Nat,m0=(l.length)-k/\k<=(l.length)/\e 3=.int .i64 (k:Int)/\(∀j:Nat,j<k->Dd l j):=fun x1 x2=>⟨_,by omega,k+1,rfl,by omega,(by rw[x1,aA (by omega)]),(all_succ j9 x2)⟩
  have fM:k<l.length:=by omega
  have e9:=fE fM
  have kg:(¬Dd l k)->¬kQ l:=fun h hp=>h (hp.ok k fM)
  have hp:=qO (aD l k).aQ
  have ht:=lK (aD l k).aO 0 159
  cases b1:x7 (aD l k).aQ
  ·rw[b1]at hp
   (repeat(first|((repeat(revert hN;revert N;apply Pn.out));refine wk (tw @a3 (tw @a0 (tw @hk (tw @e9 (tw @aa.eq_1 @ah.eq_1))))) ?_;(repeat(refine Pn.mk ?_;intro N hN)))|((try apply Or.inl);refine⟨_,aq.x (hp) (sd (tw @a3 (tw @a0 (tw @hk (tw @e9 (tw @aa.eq_1 @ah.eq_1)))))),?_⟩;refine hN _ _ ?_;clear hN N)))
   exact bc (b:=false) (.inl rfl) (sd @Nat.zero_add) (kc (kg fun h=>by rw[Dd,b1]at h;cases h.1))
  rw[b1]at hp
  cases b2:jc (aD l k).aO 0 159
  ·rw[b2]at ht
   (repeat(first|((repeat(revert hN;revert N;apply Pn.out));refine wk (tw @a3 (tw @a0 (tw @hk (tw @e9 (tw @aa.eq_1 @ah.eq_1))))) ?_;(repeat(refine Pn.mk ?_;intro N hN)))|((try apply Or.inl);refine⟨_,aq.x (hp) (sd (tw @a3 (tw @a0 (tw @hk (tw @e9 (tw @aa.eq_1 @ah.eq_1)))))),?_⟩;refine hN _ _ ?_;clear hN N)|((try apply Or.inl);refine⟨_,aq.x (ht) (sd (tw @a3 (tw @a0 (tw @hk (tw @e9 (tw @aa.eq_1 @ah.eq_1)))))),?_⟩;refine hN _ _ ?_;clear hN N)))
   exact bc (b:=false) (.inl rfl) (sd @Nat.zero_add) (kc (kg fun h=>by rw[Dd,b2]at h;cases h.2.1))
  rw[b2]at ht
  by_cases h0:(0:Int)<(k:Int)
  ·have wH:=fE (l:=l) (i:=k-1) (by omega)
   have hw:IntKind.i64.wrap ((k:Int)-1)=((k-1:Nat):Int):=by rw[bI (by have:=fM;omega)];omega
   have hq:=oi (aD l (k-1)).aQ (aD l k).aQ
   cases b3:jO (aD l (k-1)).aQ (aD l k).aQ
   ·rw[b3]at hq
    (repeat(first|((repeat(revert hN;revert N;apply Pn.out));refine wk (tw @a3 (tw @a0 (tw @hk (tw @e9 (tw @wH (tw @h0 (tw @hw (tw @aa.eq_1 @ah.eq_1)))))))) ?_;(repeat(refine Pn.mk ?_;intro N hN)))|((try apply Or.inl);refine⟨_,aq.x (hp) (sd (tw @a3 (tw @a0 (tw @hk (tw @e9 (tw @wH (tw @h0 (tw @hw (tw @aa.eq_1 @ah.eq_1))))))))),?_⟩;refine hN _ _ ?_;clear hN N)|((try apply Or.inl);refine⟨_,aq.x (ht) (sd (tw @a3 (tw @a0 (tw @hk (tw @e9 (tw @wH (tw @h0 (tw @hw (tw @aa.eq_1 @ah.eq_1))))))))),?_⟩;refine hN _ _ ?_;clear hN N)|((try apply Or.inl);refine⟨_,aq.x (hq) (sd (tw @a3 (tw @a0 (tw @hk (tw @e9 (tw @wH (tw @h0 (tw @hw (tw @aa.eq_1 @ah.eq_1))))))))),?_⟩;refine hN _ _ ?_;clear hN N)))
    exact bc (b:=false) (.inl rfl) (sd @Nat.zero_add) (kc (kg fun h=>by have:=h.2.2 (by omega);rw[b3]at this;cases this))
   ·rw[b3]at hq
    (repeat(first|((repeat(revert hN;revert N;apply Pn.out));refine wk (tw @a3 (tw @a0 (tw @hk (tw @e9 (tw @wH (tw @h0 (tw @hw (tw @aa.eq_1 @ah.eq_1)))))))) ?_;(repeat(refine Pn.mk ?_;intro N hN)))|((try apply Or.inl);refine⟨_,aq.x (hp) (sd (tw @a3 (tw @a0 (tw @hk (tw @e9 (tw @wH (tw @h0 (tw @hw (tw @aa.eq_1 @ah.eq_1))))))))),?_⟩;refine hN _ _ ?_;clear hN N)|((try apply Or.inl);refine⟨_,aq.x (ht) (sd (tw @a3 (tw @a0 (tw @hk (tw @e9 (tw @wH (tw @h0 (tw @hw (tw @aa.eq_1 @ah.eq_1))))))))),?_⟩;refine hN _ _ ?_;clear hN N)|((try apply Or.inl);refine⟨_,aq.x (hq) (sd (tw @a3 (tw @a0 (tw @hk (tw @e9 (tw @wH (tw @h0 (tw @hw (tw @aa.eq_1 @ah.eq_1))))))))),?_⟩;refine hN _ _ ?_;clear hN N)))
    exact cz (sd (tw @a3 @a0)) (⟨b1,b2,fun _=>b3⟩)
  ·have xz:k=0:=by omega
   (repeat(first|((repeat(revert hN;revert N;apply Pn.out));refine wk (tw @a3 (tw @a0 (tw @hk (tw @e9 (tw @h0 (tw @aa.eq_1 @ah.eq_1)))))) ?_;(repeat(refine Pn.mk ?_;intro N hN)))|((try apply Or.inl);refine⟨_,aq.x (hp) (sd (tw @a3 (tw @a0 (tw @hk (tw @e9 (tw @h0 (tw @aa.eq_1 @ah.eq_1))))))),?_⟩;refine hN _ _ ?_;clear hN N)|((try apply Or.inl);refine⟨_,aq.x (ht) (sd (tw @a3 (tw @a0 (tw @hk (tw @e9 (tw @h0 (tw @aa.eq_1 @ah.eq_1))))))),?_⟩;refine hN _ _ ?_;clear hN N)))
   exact cz (sd (tw @a3 @a0)) (⟨b1,b2,fun h=>by omega⟩)
 ·(try((repeat(revert hN;revert N;apply Pn.out));refine wk (tw @a3 (tw @a0 @hk)) ?_;(repeat(refine Pn.mk ?_;intro N hN))))
  exact bc (b:=true) (.inl rfl) (sd @Nat.zero_add) (yw ⟨by omega,fun i hi=>j9 i (by omega)⟩)
theorem yn (a b:Int):aq Tryz.prog 178 [.int .i64 a,.int .i64 b] (.int .i64 (rG a b)):=by
 have nan:∀x:Int,aq Tryz.prog 208 [.int .i64 x] (.bool false):=fun x=>by
  refine aq.body eK rfl fun hl n0=>?_
  clear hl
  have e:decide (x=x)=true:=decide_eq_true rfl
  (try((repeat(revert hN;revert N;apply Pn.out));refine wk @e ?_;(repeat(refine Pn.mk ?_;intro N hN))))
  exact bc (b:=false) (.inl rfl) (sd @Nat.zero_add) rfl
 refine aq.body eK rfl fun hl n0=>?_
 clear hl
 have ha:=nan a
 have hb:=nan b
 by_cases h1:a<b
 ·(repeat(first|((repeat(revert hN;revert N;apply Pn.out));refine wk @h1 ?_;(repeat(refine Pn.mk ?_;intro N hN)))|((try apply Or.inl);refine⟨_,aq.x (ha) (sd @h1),?_⟩;refine hN _ _ ?_;clear hN N)|((try apply Or.inl);refine⟨_,aq.x (hb) (sd @h1),?_⟩;refine hN _ _ ?_;clear hN N)))
  exact cN (b:=-1) (.inl rfl) (sd @Nat.zero_add) (by rw[rG,if_pos h1])
 by_cases h2:b<a
 ·(repeat(first|((repeat(revert hN;revert N;apply Pn.out));refine wk (tw @h1 @h2) ?_;(repeat(refine Pn.mk ?_;intro N hN)))|((try apply Or.inl);refine⟨_,aq.x (ha) (sd (tw @h1 @h2)),?_⟩;refine hN _ _ ?_;clear hN N)|((try apply Or.inl);refine⟨_,aq.x (hb) (sd (tw @h1 @h2)),?_⟩;refine hN _ _ ?_;clear hN N)))
  exact cN (b:=1) (.inl rfl) (sd @Nat.zero_add) (by rw[rG,if_neg h1,if_pos h2])
 ·(repeat(first|((repeat(revert hN;revert N;apply Pn.out));refine wk (tw @h1 @h2) ?_;(repeat(refine Pn.mk ?_;intro N hN)))|((try apply Or.inl);refine⟨_,aq.x (ha) (sd (tw @h1 @h2)),?_⟩;refine hN _ _ ?_;clear hN N)|((try apply Or.inl);refine⟨_,aq.x (hb) (sd (tw @h1 @h2)),?_⟩;refine hN _ _ ?_;clear hN N)))
  exact cN (b:=0) (.inl rfl) (sd @Nat.zero_add) (by rw[rG,if_neg h1,if_neg h2])
def Ib:List Int->Int
 |[]=>0
 |a::r=>if a=0 then Ib r else a
theorem J2:∀{l:List Int} {k:Nat} (hk:k<l.length),l[k]≠0->(∀j (h:j<l.length),j<k->l[j]=0)->Ib l=l[k]
 |a::r,0,_,h,_=>by
  have h':a≠0:=h
  rw[Ib,if_neg h'];rfl
 |a::r,k+1,hk,h,h0=>by
  have h':a=0:=h0 0 (by simp) (by omega)
  rw[Ib,if_pos h',J2 (k:=k) (by simpa using hk) h fun j hj yD=>h0 (j+1) (by simpa using hj) (by omega)];rfl
theorem Cr:∀{l:List Int},(∀j (h:j<l.length),l[j]=0)->Ib l=0
 |[],_=>rfl
 |a::r,h=>by
  have h':a=0:=h 0 (by simp)
  rw[Ib,if_pos h',Cr fun j hj=>h (j+1) (by simpa using hj)]
theorem Mv (a b:Int):Ib [a,b]=Mu a b:=by
 unfold Mu
 by_cases h:a=0
 ·rw[Ib,if_pos h,if_pos h,Ib,Ib];split<;>simp_all
 ·rw[Ib,if_neg h,if_neg h]
theorem Lu (l:List Int):aq Tryz.prog 177 [.sl (l.map aE)] (.int .i64 (Ib l)):=by
 refine aq.body eK rfl fun hl n0=>?_
 have hlen:l.length<=9223372036854775807:=by simpa using(hl (.sl (l.map aE)) (by simp)).len
 clear hl
 (try((repeat(revert hN;revert N;apply Pn.out));refine wk @Nat.zero_add ?_;(repeat(refine Pn.mk ?_;intro N hN))))
 refine aZ (fun n env st=>∃k:Nat,n=(l.length)-k/\k<=(l.length)/\env 8=.int .i64 (k:Int)/\(∀j:Nat,j<k->∀h:j<l.length,l[j]=0)) (l.length) ⟨0,by omega,by omega,sl @Nat.zero_add,fun _ h=>absurd h (Nat.not_lt_zero _)⟩ ?_
 rintro n_a env_a st_a ⟨k,rfl,ale,a8,j9⟩ dx
 have a3:=dx 3 (by kernel_rfl);have a6:=dx 6 (by kernel_rfl);have a7:=dx 7 (by kernel_rfl)
 simp only[go_sem, ↓reduceIte,Nat.reduceEqDiff,Nat.reduceAdd,Nat.reduceSub,Nat.reduceLeDiff,reduceCtorEq]at a3 a6 a7
 clear dx
 by_cases hk:(k:Int)<(l.length:Int)
 ·have cz:∀{e:Env},(e 8=.int .i64 (IntKind.i64.wrap ((k:Int)+1)))->(∀h:k<l.length,l[k]=0)->∃m0,m0<(l.length)-k/\∃k:Nat,m0=(l.length)-k/\k<=(l.length)/\e 8=.int .i64 (k:Int)/\(∀j:Nat,j<k->∀h:j<l.length,l[j]=0):=fun x1 x2=>⟨_,by omega,k+1,rfl,by omega,(by rw[x1,aA (by omega)]),(all_succ j9 x2)⟩
  have fM:k<l.length:=by omega
  have e9:(l.map aE)[k]? =some (aE l[k]):=by simp[fM]
  generalize hv:l[k]=v at e9
  by_cases h0:v=0
  ·have e:decide (v=0)=true:=decide_eq_true h0
   (try((repeat(revert hN;revert N;apply Pn.out));refine wk (tw @a8 (tw @a3 (tw @a6 (tw @a7 (tw @e (tw @hk (tw @e9 @aE.eq_1))))))) ?_;(repeat(refine Pn.mk ?_;intro N hN))))
   exact cz (sd (tw @a8 (tw @a3 (tw @a6 @a7)))) (fun _=>hv.trans h0)
  ·have e:decide (v=0)=false:=decide_eq_false h0
   (try((repeat(revert hN;revert N;apply Pn.out));refine wk (tw @a8 (tw @a3 (tw @a6 (tw @a7 (tw @e (tw @hk (tw @e9 @aE.eq_1))))))) ?_;(repeat(refine Pn.mk ?_;intro N hN))))
   exact cN (b:=v) (.inl rfl) (sd @Nat.zero_add) (by rw[J2 fM (by rw[hv];exact h0) fun j h hj=>j9 j hj h,hv])
 ·(try((repeat(revert hN;revert N;apply Pn.out));refine wk (tw @a8 (tw @a3 (tw @a6 (tw @a7 @hk)))) ?_;(repeat(refine Pn.mk ?_;intro N hN))))
  exact cN (b:=0) (.inl rfl) (sd @Nat.zero_add) (by rw[Cr fun j h=>j9 j (by omega) h])
section
attribute [local go_sem] List.drop_zero List.take_succ_cons List.take_zero List.length_cons List.length_nil iG zG oK
theorem nD (a b:aL):aq Tryz.prog 130 [.agg (ah a),.agg (ah b)] (.int .i64 (rH a b)):=by
 refine aq.body eK rfl fun hl n0=>?_
 clear hl
 have h1:=yn a.eV b.eV
 have h2:=yn a.fb b.fb
 have h3:=Lu [rG a.eV b.eV,rG a.fb b.fb]
 rw[Mv,List.map_cons,List.map_cons,List.map_nil,aE,aE]at h3
 (repeat(first|((repeat(revert hN;revert N;apply Pn.out));refine wk @ah.eq_1 ?_;(repeat(refine Pn.mk ?_;intro N hN)))|((try apply Or.inl);refine⟨_,aq.x (h1) (sd @ah.eq_1),?_⟩;refine hN _ _ ?_;clear hN N)|((try apply Or.inl);refine⟨_,aq.x (h2) (sd @ah.eq_1),?_⟩;refine hN _ _ ?_;clear hN N)|((try apply Or.inl);refine⟨_,aq.x (h3) (sd @ah.eq_1),?_⟩;refine hN _ _ ?_;clear hN N)))
 exact cN (b:=rH a b) (.inl rfl) (by simp only[go_sem, ↓reduceIte,Nat.reduceEqDiff,Nat.reduceAdd,Nat.reduceSub,Nat.reduceLeDiff,reduceCtorEq,rH]) rfl
end
theorem L1 (a b:aL):aq Tryz.prog 201 [.agg (ah a),.agg (ah b)] (.bool (jO a b)):=by
 refine aq.body eK rfl fun hl n0=>?_
 clear hl
 have h1:=nD a b
 rw[ah,ah]at h1
 (repeat(first|((repeat(revert hN;revert N;apply Pn.out));refine wk @ah.eq_1 ?_;(repeat(refine Pn.mk ?_;intro N hN)))|((try apply Or.inl);refine⟨_,aq.x (h1) (sd @ah.eq_1),?_⟩;refine hN _ _ ?_;clear hN N)))
 exact bc (b:=decide (rH a b<0)) (.inl rfl) (sd @Nat.zero_add) (uN a b)
theorem ko (t:ad) (p:aL):aq Tryz.prog 143 [.agg (aa t),.agg (ah p)] (.int .i64 (rH t.aQ p)):=by
 refine aq.body eK rfl fun hl n0=>?_
 clear hl
 have h1:=nD t.aQ p
 rw[ah,ah]at h1
 (repeat(first|((repeat(revert hN;revert N;apply Pn.out));refine wk (tw @aa.eq_1 @ah.eq_1) ?_;(repeat(refine Pn.mk ?_;intro N hN)))|((try apply Or.inl);refine⟨_,aq.x (h1) (sd (tw @aa.eq_1 @ah.eq_1)),?_⟩;refine hN _ _ ?_;clear hN N)))
 exact cN (b:=rH t.aQ p) (.inl rfl) (sd @Nat.zero_add) rfl
theorem GI (l:List ad):aq Tryz.prog 165 [.agg [.sl (l.map aa)]] (.bool (oJ l)):=by
 refine aq.body eK rfl fun hl n0=>?_
 have hlen:l.length<=9223372036854775807:=by
  have h1:=(hl (.agg [.sl (l.map aa)]) (by simp)).NU (a:=.sl (l.map aa)) (by simp)
  simpa using h1.len
 clear hl
 (try((repeat(revert hN;revert N;apply Pn.out));refine wk @Nat.zero_add ?_;(repeat(refine Pn.mk ?_;intro N hN))))
 refine aZ (fun n env st=>∃k:Nat,n=(l.length)-k/\k<=(l.length)/\env 8=.int .i64 (k:Int)/\st.get ⟨165000000,n0⟩=some ⟨true,1,[[.sl (l.map aa)]]⟩/\(∀j:Nat,j<k->Dd l j)) (l.length) ⟨0,by omega,by omega,sl @Nat.zero_add,sl @Nat.zero_add,fun _ h=>absurd h (Nat.not_lt_zero _)⟩ ?_
 rintro n_a env_a st_a ⟨k,rfl,ale,a8,ag0,j9⟩ dx
 have a1:=dx 1 (by kernel_rfl);have a6:=dx 6 (by kernel_rfl);have a7:=dx 7 (by kernel_rfl)
 simp only[go_sem, ↓reduceIte,Nat.reduceEqDiff,Nat.reduceAdd,Nat.reduceSub,Nat.reduceLeDiff,reduceCtorEq]at a1 a6 a7
 clear dx
 by_cases hk:(k:Int)<(l.length:Int)
 ·have cz:∀{e:Env} {gg:Rows},(e 8=.int .i64 (IntKind.i64.wrap ((k:Int)+1)))->(gg ⟨165000000,n0⟩=some ⟨true,1,[[.sl (l.map aa)]]⟩)->(Dd l k)->∃m0,m0<(l.length)-k/\∃k:Nat,m0=(l.length)-k/\k<=(l.length)/\e 8=.int .i64 (k:Int)/\gg ⟨165000000,n0⟩=some ⟨true,1,[[.sl (l.map aa)]]⟩/\(∀j:Nat,j<k->Dd l j):=fun x1 x2 x3=>⟨_,by omega,k+1,rfl,by omega,(by rw[x1,aA (by omega)]),x2,(all_succ j9 x3)⟩
  have fM:k<l.length:=by omega
  have e9:=fE fM
  have kg:(¬Dd l k)->¬kQ l:=fun h hp=>h (hp.ok k fM)
  have hp:=rm (aD l k).aQ
  have ht:=yL (aD l k).aO 160 (by omega) (by omega)
  rw[show(160:Int)-1=159 from rfl]at ht
  cases b1:x7 (aD l k).aQ
  ·rw[b1]at hp
   (repeat(first|((repeat(revert hN;revert N;apply Pn.out));refine wk (tw @a8 (tw @ag0 (tw @a1 (tw @a6 (tw @a7 (tw @hk (tw @e9 (tw @aa.eq_1 @ah.eq_1)))))))) ?_;(repeat(refine Pn.mk ?_;intro N hN)))|((try apply Or.inl);refine⟨_,aq.x (hp) (sd (tw @a8 (tw @ag0 (tw @a1 (tw @a6 (tw @a7 (tw @hk (tw @e9 (tw @aa.eq_1 @ah.eq_1))))))))),?_⟩;refine hN _ _ ?_;clear hN N)))
   exact bc (b:=false) (.inl rfl) (sd @Nat.zero_add) (kc (kg fun h=>by rw[Dd,b1]at h;cases h.1))
  rw[b1]at hp
  cases b2:jc (aD l k).aO 0 159
  ·rw[b2]at ht
   (repeat(first|((repeat(revert hN;revert N;apply Pn.out));refine wk (tw @a8 (tw @ag0 (tw @a1 (tw @a6 (tw @a7 (tw @hk (tw @e9 (tw @aa.eq_1 @ah.eq_1)))))))) ?_;(repeat(refine Pn.mk ?_;intro N hN)))|((try apply Or.inl);refine⟨_,aq.x (hp) (sd (tw @a8 (tw @ag0 (tw @a1 (tw @a6 (tw @a7 (tw @hk (tw @e9 (tw @aa.eq_1 @ah.eq_1))))))))),?_⟩;refine hN _ _ ?_;clear hN N)|((try apply Or.inl);refine⟨_,aq.x (ht) (sd (tw @a8 (tw @ag0 (tw @a1 (tw @a6 (tw @a7 (tw @hk (tw @e9 (tw @aa.eq_1 @ah.eq_1))))))))),?_⟩;refine hN _ _ ?_;clear hN N)))
   exact bc (b:=false) (.inl rfl) (sd @Nat.zero_add) (kc (kg fun h=>by rw[Dd,b2]at h;cases h.2.1))
  rw[b2]at ht
  by_cases h0:(0:Int)<(k:Int)
  ·have wH:=fE (l:=l) (i:=k-1) (by omega)
   have hw:IntKind.i64.wrap ((k:Int)-1)=((k-1:Nat):Int):=by rw[bI (by omega)];omega
   have hq:=L1 (aD l (k-1)).aQ (aD l k).aQ
   cases b3:jO (aD l (k-1)).aQ (aD l k).aQ
   ·rw[b3]at hq
    (repeat(first|((repeat(revert hN;revert N;apply Pn.out));refine wk (tw @a8 (tw @ag0 (tw @a1 (tw @a6 (tw @a7 (tw @hk (tw @e9 (tw @wH (tw @h0 (tw @hw (tw @aa.eq_1 @ah.eq_1))))))))))) ?_;(repeat(refine Pn.mk ?_;intro N hN)))|((try apply Or.inl);refine⟨_,aq.x (hp) (sd (tw @a8 (tw @ag0 (tw @a1 (tw @a6 (tw @a7 (tw @hk (tw @e9 (tw @wH (tw @h0 (tw @hw (tw @aa.eq_1 @ah.eq_1)))))))))))),?_⟩;refine hN _ _ ?_;clear hN N)|((try apply Or.inl);refine⟨_,aq.x (ht) (sd (tw @a8 (tw @ag0 (tw @a1 (tw @a6 (tw @a7 (tw @hk (tw @e9 (tw @wH (tw @h0 (tw @hw (tw @aa.eq_1 @ah.eq_1)))))))))))),?_⟩;refine hN _ _ ?_;clear hN N)|((try apply Or.inl);refine⟨_,aq.x (hq) (sd (tw @a8 (tw @ag0 (tw @a1 (tw @a6 (tw @a7 (tw @hk (tw @e9 (tw @wH (tw @h0 (tw @hw (tw @aa.eq_1 @ah.eq_1)))))))))))),?_⟩;refine hN _ _ ?_;clear hN N)))
    exact bc (b:=false) (.inl rfl) (sd @Nat.zero_add) (kc (kg fun h=>by have:=h.2.2 (by omega);rw[b3]at this;cases this))
   ·rw[b3]at hq
    (repeat(first|((repeat(revert hN;revert N;apply Pn.out));refine wk (tw @a8 (tw @ag0 (tw @a1 (tw @a6 (tw @a7 (tw @hk (tw @e9 (tw @wH (tw @h0 (tw @hw (tw @aa.eq_1 @ah.eq_1))))))))))) ?_;(repeat(refine Pn.mk ?_;intro N hN)))|((try apply Or.inl);refine⟨_,aq.x (hp) (sd (tw @a8 (tw @ag0 (tw @a1 (tw @a6 (tw @a7 (tw @hk (tw @e9 (tw @wH (tw @h0 (tw @hw (tw @aa.eq_1 @ah.eq_1)))))))))))),?_⟩;refine hN _ _ ?_;clear hN N)|((try apply Or.inl);refine⟨_,aq.x (ht) (sd (tw @a8 (tw @ag0 (tw @a1 (tw @a6 (tw @a7 (tw @hk (tw @e9 (tw @wH (tw @h0 (tw @hw (tw @aa.eq_1 @ah.eq_1)))))))))))),?_⟩;refine hN _ _ ?_;clear hN N)|((try apply Or.inl);refine⟨_,aq.x (hq) (sd (tw @a8 (tw @ag0 (tw @a1 (tw @a6 (tw @a7 (tw @hk (tw @e9 (tw @wH (tw @h0 (tw @hw (tw @aa.eq_1 @ah.eq_1)))))))))))),?_⟩;refine hN _ _ ?_;clear hN N)))
    refine cz ?_ ?_ (⟨b1,b2,fun _=>b3⟩)
    all_goals simp only[go_sem, ↓reduceIte,Nat.reduceEqDiff,Nat.reduceAdd,Nat.reduceSub,Nat.reduceLeDiff,reduceCtorEq,a8,ag0,a1,a6,a7]
  ·have xz:k=0:=by omega
   (repeat(first|((repeat(revert hN;revert N;apply Pn.out));refine wk (tw @a8 (tw @ag0 (tw @a1 (tw @a6 (tw @a7 (tw @hk (tw @e9 (tw @h0 (tw @aa.eq_1 @ah.eq_1))))))))) ?_;(repeat(refine Pn.mk ?_;intro N hN)))|((try apply Or.inl);refine⟨_,aq.x (hp) (sd (tw @a8 (tw @ag0 (tw @a1 (tw @a6 (tw @a7 (tw @hk (tw @e9 (tw @h0 (tw @aa.eq_1 @ah.eq_1)))))))))),?_⟩;refine hN _ _ ?_;clear hN N)|((try apply Or.inl);refine⟨_,aq.x (ht) (sd (tw @a8 (tw @ag0 (tw @a1 (tw @a6 (tw @a7 (tw @hk (tw @e9 (tw @h0 (tw @aa.eq_1 @ah.eq_1)))))))))),?_⟩;refine hN _ _ ?_;clear hN N)))
   refine cz ?_ ?_ (⟨b1,b2,fun h=>by omega⟩)
   all_goals simp only[go_sem, ↓reduceIte,Nat.reduceEqDiff,Nat.reduceAdd,Nat.reduceSub,Nat.reduceLeDiff,reduceCtorEq,a8,ag0,a1,a6,a7]
 ·(try((repeat(revert hN;revert N;apply Pn.out));refine wk (tw @a8 (tw @ag0 (tw @a1 (tw @a6 (tw @a7 @hk))))) ?_;(repeat(refine Pn.mk ?_;intro N hN))))
  refine bc (b:=decide ((l.length:Int)<=500)) (.inl rfl) (sd @Nat.zero_add) ?_
  by_cases h5:(l.length:Int)<=500
  ·rw[decide_eq_true h5];exact yw ⟨by omega,fun i hi=>j9 i (by omega)⟩
  ·rw[decide_eq_false h5];exact kc fun h=>by have:=h.xx;omega
end Go.Proofs.YtgoelphibofcmaaGreat.V

namespace Go.Proofs.YtgoelphibofcmaaGreat.V
open Go.RowKit
attribute [local irreducible] dO wpOps gy Call
attribute [local go_sem] aT fK eS ga fZ dj upd cF K.av cP AV.cells AV.cell rowOf rowsOf part ld rowAt bL cD dG ef ik bV de ew fW fe dw ek dc db dU dV cj bl cU b4 cW cV ei eo ej cR cm dd eh bW aV cZ cI ij bx cK ck bd du bj dI AV.undef bH bS dW eb dQ dP cJ ev eE cH er ep cY da List.getD_cons_zero List.getD_cons_succ List.getD_nil List.all_cons List.all_nil Bool.and_true Bool.true_and Bool.and_self Bool.not_true Bool.not_false Option.map_some Option.map_none Option.bind_some Option.bind_none List.length_cons List.length_nil List.take_succ_cons List.take_zero List.take_nil List.drop_succ_cons List.drop_zero List.drop_nil List.head?_cons List.map_cons List.map_nil List.getElem?_cons_zero List.getElem?_cons_succ List.cons_append List.nil_append List.append_nil List.length_map List.set_cons_zero List.set_cons_succ Nat.reduceMul eq_self Int.toNat_natCast Int.natCast_nonneg and_self true_and and_true decide_true decide_false Bool.false_eq_true Nat.zero_add Nat.add_zero List.contains_cons List.contains_nil Bool.or_false Bool.false_or beq_self_eq_true Nat.reduceBEq ne_eq not_true_eq_false not_false_eq_true Id.mk.injEq false_and and_false Nat.reduceLT Int.reduceLE Int.reduceLT Int.reduceToNat Int.reduceNeg Int.reduceAdd Nat.le_refl List.length_append beq_true beq_false Bool.not_eq_eq_eq_not or_false false_or dR ae aj aI bq bG cC aY bh aW bp cQ bJ
theorem Gq (cells:List ad) (p:aL) (hR:pR cells) (LH:cells.length<=1048576):
  aq Tryz.prog 142 [.sl (cells.map aa),.agg (ah p),.fn 143 []] (.gE [.int .i64 (rW cells p),.bool (decide (rW cells p<cells.length)&&decide ((aD cells (rW cells p)).aQ=p))]):=by
 refine aq.body eK rfl fun hl n0=>?_
 clear hl
 (try((repeat(revert hN;revert N;apply Pn.out));refine wk @ah.eq_1 ?_;(repeat(refine Pn.mk ?_;intro N hN))))
 refine aZ (fun n env st=>∃i j:Nat,n=j-i/\i<=j/\j<=cells.length/\(∀x,x<i->jO (aD cells x).aQ p=true)/\(∀x,j<=x->x<cells.length->jO (aD cells x).aQ p=false)/\env 9=.int .i64 i/\env 10=.int .i64 j/\st.get ⟨142000000,n0⟩=some ⟨true,2,[ah p]⟩) cells.length ⟨0,cells.length,by omega,by omega,by omega,fun x h=>by omega,fun x h1 h2=>by omega,by(simp only[go_sem, ↓reduceIte,Nat.reduceEqDiff,Nat.reduceAdd,Nat.reduceSub,Nat.reduceLeDiff,reduceCtorEq])<;>rfl,sd @Nat.zero_add,sd @ah.eq_1⟩ ?_
 rintro n env st ⟨i,j,rfl,DW,hj,kq,CY,h9,h10,hg⟩ fr
 have h0:=fr 0 (by kernel_rfl)
 have h2:=fr 2 (by kernel_rfl)
 have h4:=fr 4 (by kernel_rfl)
 have h8:=fr 8 (by kernel_rfl)
 simp only[go_sem, ↓reduceIte,Nat.reduceEqDiff,Nat.reduceAdd,Nat.reduceSub,Nat.reduceLeDiff,reduceCtorEq]at h0 h2 h4 h8
 clear fr
 by_cases dZ:(i:Int)<(j:Int)
 ·have e1:IntKind.i64.wrap ((i:Int)+j)=((i+j:Nat):Int):=by rw[bI (by omega)];rfl
  have hm:(i+j) / 2<cells.length:=by omega
  have fq:(cells.map aa)[(i+j) / 2]? =some (aa (aD cells ((i+j) / 2))):=fE (l:=cells) hm
  have e2:IntKind.i64.wrap ((IntKind.u64.wrap ((i+j:Nat):Int)).fdiv (2 ^ min 1 IntKind.u64.bits))=(((i+j) / 2:Nat):Int):=by
   have h:IntKind.u64.wrap ((i+j:Nat):Int)=((i+j:Nat):Int):=by rw[IntKind.wrap_u64];omega
   rw[h,show min 1 IntKind.u64.bits=1 from rfl,show((2:Int) ^ 1)=2 from rfl,Int.fdiv_eq_ediv_of_nonneg _ (by omega)]
   rw[bI (by omega)];omega
  have QZ:IntKind.i64.wrap ((IntKind.u64.wrap ((i+j:Nat):Int)).fdiv (2 ^ min 1 64))=(((i+j) / 2:Nat):Int):=e2
  have e3:=aA (k:=(i+j) / 2) (by omega)
  by_cases hc:rH (aD cells ((i+j) / 2)).aQ p<0
  ·have hl:jO (aD cells ((i+j) / 2)).aQ p=true:=by rw[<-uN];simpa using hc
   (repeat(first|((repeat(revert hN;revert N;apply Pn.out));refine wk (tw @h0 (tw @h2 (tw @h4 (tw @h8 (tw @h9 (tw @h10 (tw @hg (tw @dZ (tw @e1 (tw @e2 (tw @QZ (tw @fq (tw @hc (tw @aa.eq_1 @ah.eq_1)))))))))))))) ?_;(repeat(refine Pn.mk ?_;intro N hN)))|((try apply Or.inl);refine⟨_,aq.x (ko (aD cells ((i+j) / 2)) p) (sd (tw @h0 (tw @h2 (tw @h4 (tw @h8 (tw @h9 (tw @h10 (tw @hg (tw @dZ (tw @e1 (tw @e2 (tw @QZ (tw @fq (tw @hc (tw @aa.eq_1 @ah.eq_1))))))))))))))),?_⟩;refine hN _ _ ?_;clear hN N)))
   refine⟨_,?_,(i+j) / 2+1,j,rfl,by omega,hj,fun x hx=>?_,CY,sd @e3,sd @h10,sd (tw @hg @ah.eq_1)⟩
   ·omega
   ·by_cases Pc:x=(i+j) / 2
    ·subst Pc;exact hl
    ·exact jV (hR x _ (by omega) hm) hl
  ·have hl:jO (aD cells ((i+j) / 2)).aQ p=false:=by rw[<-uN];simpa using hc
   (repeat(first|((repeat(revert hN;revert N;apply Pn.out));refine wk (tw @h0 (tw @h2 (tw @h4 (tw @h8 (tw @h9 (tw @h10 (tw @hg (tw @dZ (tw @e1 (tw @e2 (tw @QZ (tw @fq (tw @hc (tw @aa.eq_1 @ah.eq_1)))))))))))))) ?_;(repeat(refine Pn.mk ?_;intro N hN)))|((try apply Or.inl);refine⟨_,aq.x (ko (aD cells ((i+j) / 2)) p) (sd (tw @h0 (tw @h2 (tw @h4 (tw @h8 (tw @h9 (tw @h10 (tw @hg (tw @dZ (tw @e1 (tw @e2 (tw @QZ (tw @fq (tw @hc (tw @aa.eq_1 @ah.eq_1))))))))))))))),?_⟩;refine hN _ _ ?_;clear hN N)))
   refine⟨_,?_,i,(i+j) / 2,rfl,by omega,by omega,kq,fun x h1 h2=>?_,sd @h9,sd (tw @e2 @QZ),sd (tw @hg @ah.eq_1)⟩
   ·omega
   ·by_cases Pc:x=(i+j) / 2
    ·subst Pc;exact hl
    ·rw[Bool.eq_false_iff]
     intro hc
     have h3:=jV (hR ((i+j) / 2) x (by omega) h2) hc
     rw[hl]at h3;cases h3
 ·have OK:i=j:=by omega
  subst OK
  have DY:rW cells p=i:=zV hj kq fun h=>CY i (Nat.le_refl _) h
  by_cases hn:(i:Int)<(cells.length:Int)
  ·have fh:i<cells.length:=by omega
   have fq:(cells.map aa)[i]? =some (aa (aD cells i)):=fE (l:=cells) fh
   have hd:decide (rH (aD cells i).aQ p=0)=decide ((aD cells i).aQ=p):=by simp only[Gs]
   (repeat(first|((repeat(revert hN;revert N;apply Pn.out));refine wk (tw @h0 (tw @h2 (tw @h4 (tw @h8 (tw @h9 (tw @h10 (tw @hg (tw @dZ (tw @hn (tw @fq (tw @aa.eq_1 @ah.eq_1))))))))))) ?_;(repeat(refine Pn.mk ?_;intro N hN)))|((try apply Or.inl);refine⟨_,aq.x (ko (aD cells i) p) (sd (tw @h0 (tw @h2 (tw @h4 (tw @h8 (tw @h9 (tw @h10 (tw @hg (tw @dZ (tw @hn (tw @fq (tw @aa.eq_1 @ah.eq_1)))))))))))),?_⟩;refine hN _ _ ?_;clear hN N)))
   refine jD (.inl rfl) (r1:=.int .i64 i) (r2:=.bool (decide ((aD cells i).aQ=p))) ?_ ?_ ?_
   ·simp only[go_sem, ↓reduceIte,Nat.reduceEqDiff,Nat.reduceAdd,Nat.reduceSub,Nat.reduceLeDiff,reduceCtorEq]
   ·simp only[go_sem, ↓reduceIte,Nat.reduceEqDiff,Nat.reduceAdd,Nat.reduceSub,Nat.reduceLeDiff,reduceCtorEq,hd]
   ·simp only[eU,bw,cr,eu,fR,Option.map_some,DY,fh,decide_true,Bool.true_and]
  ·have fh:¬i<cells.length:=by omega
   (try((repeat(revert hN;revert N;apply Pn.out));refine wk (tw @h0 (tw @h2 (tw @h4 (tw @h8 (tw @h9 (tw @h10 (tw @hg (tw @dZ (tw @hn (tw @aa.eq_1 @ah.eq_1)))))))))) ?_;(repeat(refine Pn.mk ?_;intro N hN))))
   refine jD (.inl rfl) (r1:=.int .i64 i) (r2:=.bool false) ?_ ?_ ?_
   ·simp only[go_sem, ↓reduceIte,Nat.reduceEqDiff,Nat.reduceAdd,Nat.reduceSub,Nat.reduceLeDiff,reduceCtorEq]
   ·simp only[go_sem, ↓reduceIte,Nat.reduceEqDiff,Nat.reduceAdd,Nat.reduceSub,Nat.reduceLeDiff,reduceCtorEq]
   ·simp only[eU,bw,cr,eu,fR,Option.map_some,DY,fh,decide_false,Bool.false_and]
theorem Hq (l:List ad) (p:aL) (hR:pR l) (LH:l.length<=1048576):aq Tryz.prog 265 [.agg [.sl (l.map aa)],.agg (ah p)] (.int .i64 (eR l p)):=by
 refine aq.body eK rfl fun hl n0=>?_
 clear hl
 rw[FV hR]
 have hb:=Gq l p hR LH
 rw[ah]at hb
 cases hf:(decide (rW l p<l.length)&&decide ((aD l (rW l p)).aQ=p))
 ·rw[hf]at hb
  (repeat(first|((repeat(revert hN;revert N;apply Pn.out));refine wk @ah.eq_1 ?_;(repeat(refine Pn.mk ?_;intro N hN)))|((try apply Or.inl);refine⟨_,aq.x (hb) (sd @ah.eq_1),?_⟩;refine hN _ _ ?_;clear hN N)))
  exact cN (b:=-1) (.inl rfl) (sd @Nat.zero_add) (by rw[if_neg];intro h;simp[h.1,h.2]at hf)
 ·rw[hf]at hb
  (repeat(first|((repeat(revert hN;revert N;apply Pn.out));refine wk @ah.eq_1 ?_;(repeat(refine Pn.mk ?_;intro N hN)))|((try apply Or.inl);refine⟨_,aq.x (hb) (sd @ah.eq_1),?_⟩;refine hN _ _ ?_;clear hN N)))
  exact cN (b:=(rW l p:Int)) (.inl rfl) (sd @Nat.zero_add) (by rw[if_pos];simpa using hf)
theorem qQ (l:List ad) (p:aL) (hR:pR l) (LH:l.length<=1048576):aq Tryz.prog 124 [.dq [.sl (l.map aa)],.agg (ah p)] (.int .i64 (eR l p)):=by
 refine aq.body eK rfl fun hl n0=>?_
 clear hl
 rw[FV hR]
 (try((repeat(revert hN;revert N;apply Pn.out));refine wk @ah.eq_1 ?_;(repeat(refine Pn.mk ?_;intro N hN))))
 refine aZ (fun n env st=>∃i j:Nat,n=j-i/\i<=j/\j<=l.length/\(∀x,x<i->jO (aD l x).aQ p=true)/\(∀x,j<=x->x<l.length->jO (aD l x).aQ p=false)/\env 5=.int .i64 i/\env 6=.int .i64 j/\st.get ⟨124000000,n0⟩=some ⟨true,2,[ah p]⟩) l.length ⟨0,l.length,by omega,by omega,by omega,fun x h=>by omega,fun x h1 h2=>by omega,by(simp only[go_sem, ↓reduceIte,Nat.reduceEqDiff,Nat.reduceAdd,Nat.reduceSub,Nat.reduceLeDiff,reduceCtorEq])<;>rfl,sd @Nat.zero_add,sd @ah.eq_1⟩ ?_
 rintro n env st ⟨i,j,rfl,DW,hj,kq,CY,h5,h6,hg⟩ fr
 have h0:=fr 0 (by kernel_rfl)
 have h3:=fr 3 (by kernel_rfl)
 simp only[go_sem, ↓reduceIte,Nat.reduceEqDiff,Nat.reduceAdd,Nat.reduceSub,Nat.reduceLeDiff,reduceCtorEq]at h0 h3
 clear fr
 by_cases dZ:(i:Int)<(j:Int)
 ·have e1:IntKind.i64.wrap ((i:Int)+j)=((i+j:Nat):Int):=by rw[bI (by omega)];rfl
  have hm:(i+j) / 2<l.length:=by omega
  have fq:=fE hm
  have e2:IntKind.i64.wrap (((i+j:Nat):Int).tdiv 2)=(((i+j) / 2:Nat):Int):=by
   rw[Int.tdiv_eq_ediv_of_nonneg (by omega),bI (by omega)];omega
  have e3:=aA (k:=(i+j) / 2) (by omega)
  have hq:=oi (aD l ((i+j) / 2)).aQ p
  cases hl:jO (aD l ((i+j) / 2)).aQ p
  ·rw[hl]at hq
   (repeat(first|((repeat(revert hN;revert N;apply Pn.out));refine wk (tw @h0 (tw @h3 (tw @h5 (tw @h6 (tw @hg (tw @dZ (tw @e1 (tw @e2 (tw @fq (tw @aa.eq_1 @ah.eq_1)))))))))) ?_;(repeat(refine Pn.mk ?_;intro N hN)))|((try apply Or.inl);refine⟨_,aq.x (hq) (sd (tw @h0 (tw @h3 (tw @h5 (tw @h6 (tw @hg (tw @dZ (tw @e1 (tw @e2 (tw @fq (tw @aa.eq_1 @ah.eq_1))))))))))),?_⟩;refine hN _ _ ?_;clear hN N)))
   refine⟨_,?_,i,(i+j) / 2,rfl,by omega,by omega,kq,fun x h1 h2=>?_,sd @h5,sd @e2,sd (tw @hg @ah.eq_1)⟩
   ·omega
   ·by_cases Pc:x=(i+j) / 2
    ·subst Pc;exact hl
    ·rw[Bool.eq_false_iff]
     intro hc
     have h3:=jV (hR ((i+j) / 2) x (by omega) h2) hc
     rw[hl]at h3;cases h3
  ·rw[hl]at hq
   (repeat(first|((repeat(revert hN;revert N;apply Pn.out));refine wk (tw @h0 (tw @h3 (tw @h5 (tw @h6 (tw @hg (tw @dZ (tw @e1 (tw @e2 (tw @fq (tw @aa.eq_1 @ah.eq_1)))))))))) ?_;(repeat(refine Pn.mk ?_;intro N hN)))|((try apply Or.inl);refine⟨_,aq.x (hq) (sd (tw @h0 (tw @h3 (tw @h5 (tw @h6 (tw @hg (tw @dZ (tw @e1 (tw @e2 (tw @fq (tw @aa.eq_1 @ah.eq_1))))))))))),?_⟩;refine hN _ _ ?_;clear hN N)))
   refine⟨_,?_,(i+j) / 2+1,j,rfl,by omega,hj,fun x hx=>?_,CY,sd @e3,sd @h6,sd (tw @hg @ah.eq_1)⟩
   ·omega
   ·by_cases Pc:x=(i+j) / 2
    ·subst Pc;exact hl
    ·exact jV (hR x _ (by omega) hm) hl
 ·have OK:i=j:=by omega
  subst OK
  have DY:rW l p=i:=zV hj kq fun h=>CY i (Nat.le_refl _) h
  by_cases hn:(i:Int)<(l.length:Int)
  ·have fh:i<l.length:=by omega
   have fq:=fE fh
   by_cases hp:(aD l i).aQ=p
   ·have hx:decide ((aD l i).aQ.fb=p.fb)=true:=decide_eq_true (by rw[hp])
    have hy:decide ((aD l i).aQ.eV=p.eV)=true:=decide_eq_true (by rw[hp])
    (try((repeat(revert hN;revert N;apply Pn.out));refine wk (tw @h0 (tw @h3 (tw @h5 (tw @h6 (tw @hg (tw @dZ (tw @hn (tw @fq (tw @hx (tw @hy (tw @aa.eq_1 @ah.eq_1))))))))))) ?_;(repeat(refine Pn.mk ?_;intro N hN))))
    exact cN (b:=(i:Int)) (.inl rfl) (sd @Nat.zero_add) (by rw[DY,if_pos ⟨fh,hp⟩])
   ·by_cases hx:(aD l i).aQ.fb=p.fb
    ·have xD:decide ((aD l i).aQ.fb=p.fb)=true:=decide_eq_true hx
     have hy':decide ((aD l i).aQ.eV=p.eV)=false:=decide_eq_false fun h=>hp (EE hx h)
     (try((repeat(revert hN;revert N;apply Pn.out));refine wk (tw @h0 (tw @h3 (tw @h5 (tw @h6 (tw @hg (tw @dZ (tw @hn (tw @fq (tw @xD (tw @hy' (tw @aa.eq_1 @ah.eq_1))))))))))) ?_;(repeat(refine Pn.mk ?_;intro N hN))))
     exact cN (b:=-1) (.inl rfl) (sd @Nat.zero_add) (by rw[DY,if_neg fun h=>hp h.2])
    ·have xD:decide ((aD l i).aQ.fb=p.fb)=false:=decide_eq_false hx
     (try((repeat(revert hN;revert N;apply Pn.out));refine wk (tw @h0 (tw @h3 (tw @h5 (tw @h6 (tw @hg (tw @dZ (tw @hn (tw @fq (tw @xD (tw @Bool.false_and (tw @aa.eq_1 @ah.eq_1))))))))))) ?_;(repeat(refine Pn.mk ?_;intro N hN))))
     exact cN (b:=-1) (.inl rfl) (sd @Nat.zero_add) (by rw[DY,if_neg fun h=>hp h.2])
  ·have fh:¬i<l.length:=by omega
   (try((repeat(revert hN;revert N;apply Pn.out));refine wk (tw @h0 (tw @h3 (tw @h5 (tw @h6 (tw @hg (tw @dZ (tw @hn (tw @aa.eq_1 @ah.eq_1)))))))) ?_;(repeat(refine Pn.mk ?_;intro N hN))))
   exact cN (b:=-1) (.inl rfl) (sd @Nat.zero_add) (by rw[DY,if_neg fun h=>fh h.1])
theorem FT (l:List ad) (p:aL) (hR:pR l) (LH:l.length<=1048576):aq Tryz.prog 98 [.dq [.sl (l.map aa)],.agg (ah p)] (.int .i64 (gQ l p)):=by
 refine aq.body eK rfl fun hl n0=>?_
 clear hl
 have hb:=qQ l p hR LH
 by_cases hi:eR l p<0
 ·rw[ah]at hb
  (repeat(first|((repeat(revert hN;revert N;apply Pn.out));refine wk (tw @ah.eq_1 @hi) ?_;(repeat(refine Pn.mk ?_;intro N hN)))|((try apply Or.inl);refine⟨_,aq.x (hb) (sd (tw @ah.eq_1 @hi)),?_⟩;refine hN _ _ ?_;clear hN N)))
  exact cN (b:=-1) (.inl rfl) (sd @Nat.zero_add) (by rw[gQ,if_neg (by omega)])
 ·have h0:0<=eR l p:=by omega
  have hg:=fE (ni h0).1
  rw[ah]at hb
  (repeat(first|((repeat(revert hN;revert N;apply Pn.out));refine wk (tw @ah.eq_1 (tw @hi (tw @h0 (tw @hg @aa.eq_1)))) ?_;(repeat(refine Pn.mk ?_;intro N hN)))|((try apply Or.inl);refine⟨_,aq.x (hb) (sd (tw @ah.eq_1 (tw @hi (tw @h0 (tw @hg @aa.eq_1))))),?_⟩;refine hN _ _ ?_;clear hN N)))
  exact cN (b:=(aD l (eR l p).toNat).aO) (.inl rfl) (sd @Nat.zero_add) (by rw[gQ,if_pos h0])
def lu (s:aw) (l:List ad):Prop:=kQ l/\∀t∈l,dY s t.aO=true
noncomputable def sQ (s:aw) (l:List ad):Bool:=oJ l&&l.all fun t=>dY s t.aO
theorem ox {s:aw} {l:List ad}:sQ s l=true↔lu s l:=by simp[sQ,lu,GF]
theorem Du:QN aa (fun c=>.agg (aa c)) 3 true:=⟨fun _=>rfl,fun _=>rfl,fun x g=>by simp only[aa,ae,aj,bh,aI,Option.map_some]⟩
theorem Hj (s:aw) (t:ad) (hs:s.ai.length<=1048576):aq Tryz.prog 167 [.agg (aa t),.dq (ab s)] (.bool (!dY s t.aO)):=by
 refine aq.body eK rfl fun hl n0=>?_
 clear hl
 have h:=BY s t.aO
 rw[ab]at h
 (repeat(first|((repeat(revert hN;revert N;apply Pn.out));refine wk (tw @aa.eq_1 @ab.eq_1) ?_;(repeat(refine Pn.mk ?_;intro N hN)))|((try apply Or.inl);refine⟨_,aq.x (h) (sd (tw @aa.eq_1 @ab.eq_1)),?_⟩;refine hN _ _ ?_;clear hN N)))
 exact bc (b:= !dY s t.aO) (.inl rfl) (sd @Nat.zero_add) rfl
theorem MR (s:aw) (l:List ad) (hs:s.ai.length<=1048576) (hl:l.length<=1048576):aq Tryz.prog 166 [.sl (l.map aa),.fn 167 [.dq (ab s)]] (.bool (l.any fun t=> !dY s t.aO)):=
 oz Du (show lR Tryz.prog 166=some (DP 166 202) by kernel_rfl)
  (show lR Tryz.prog 202=some (wN 202 3 true) by kernel_rfl) l hl _ _ _ rfl (fun g=>by rw[ae,aW,aj];rfl) (fun x _=>Hj s x hs) fun g=>by rw[ae,aW,aj];rfl
theorem Lk {α:Type} (p:α->Bool) (l:List α):(!l.any fun t=> !p t)=l.all p:=by
 induction l with
 |nil=>rfl
 |cons x l ih=>simp only[List.any_cons,List.all_cons,<-ih];cases p x<;>simp
theorem uq (s:aw) (l:List ad) (hn:gn s) (hg:s.ax.length<=1048576) (ht:s.ai.length<=1048576) (hs:∀t∈s.ai,t.bD.length<=1048576) (hl:l.length<=1048576):aq Tryz.prog 106 [.agg (ab s),.agg [.sl (l.map aa)]] (.bool (sj s&&sQ s l)):=by
 refine aq.body eK rfl fun hl n0=>?_
 clear hl
 have h1:=Dh s hn hg ht hs
 have h2:=GI l
 have h3:=MR s l ht hl
 rw[ab]at h1 h3
 cases b1:sj s
 ·rw[b1]at h1
  (repeat(first|((repeat(revert hN;revert N;apply Pn.out));refine wk @ab.eq_1 ?_;(repeat(refine Pn.mk ?_;intro N hN)))|((try apply Or.inl);refine⟨_,aq.x (h1) (sd @ab.eq_1),?_⟩;refine hN _ _ ?_;clear hN N)))
  exact bc (b:=false) (.inl rfl) (sd @Nat.zero_add) rfl
 rw[b1]at h1
 cases b2:oJ l
 ·rw[b2]at h2
  (repeat(first|((repeat(revert hN;revert N;apply Pn.out));refine wk @ab.eq_1 ?_;(repeat(refine Pn.mk ?_;intro N hN)))|((try apply Or.inl);refine⟨_,aq.x (h1) (sd @ab.eq_1),?_⟩;refine hN _ _ ?_;clear hN N)|((try apply Or.inl);refine⟨_,aq.x (h2) (sd @ab.eq_1),?_⟩;refine hN _ _ ?_;clear hN N)))
  exact bc (b:=false) (.inl rfl) (sd @Nat.zero_add) (by rw[sQ,b2];rfl)
 rw[b2]at h2
 (repeat(first|((repeat(revert hN;revert N;apply Pn.out));refine wk @ab.eq_1 ?_;(repeat(refine Pn.mk ?_;intro N hN)))|((try apply Or.inl);refine⟨_,aq.x (h1) (sd @ab.eq_1),?_⟩;refine hN _ _ ?_;clear hN N)|((try apply Or.inl);refine⟨_,aq.x (h2) (sd @ab.eq_1),?_⟩;refine hN _ _ ?_;clear hN N)|((try apply Or.inl);refine⟨_,aq.x (h3) (sd @ab.eq_1),?_⟩;refine hN _ _ ?_;clear hN N)))
 exact bc (b:= !(l.any fun t=> !dY s t.aO)) (.inl rfl) (sd @Nat.zero_add) (by rw[Lk,sQ,b2];rfl)
theorem Mc (s:aw) (l:List ad):aq Tryz.prog 97 [.dq (ab s),.dq [.sl (l.map aa)]] (.bool (sQ s l)):=by
 refine aq.body eK rfl fun hl n0=>?_
 have hlen:l.length<=9223372036854775807:=by
  have h1:=(hl (.dq [.sl (l.map aa)]) (by simp)).BX (a:=.sl (l.map aa)) (by simp)
  simpa using h1.len
 clear hl
 have h2:=G3 l
 cases b2:oJ l
 ·rw[b2]at h2
  (repeat(first|((repeat(revert hN;revert N;apply Pn.out));refine wk @Nat.zero_add ?_;(repeat(refine Pn.mk ?_;intro N hN)))|((try apply Or.inl);refine⟨_,aq.x (h2) (sd @Nat.zero_add),?_⟩;refine hN _ _ ?_;clear hN N)))
  exact bc (b:=false) (.inl rfl) (sd @Nat.zero_add) (by rw[sQ,b2];rfl)
 rw[b2]at h2
 (repeat(first|((repeat(revert hN;revert N;apply Pn.out));refine wk @Nat.zero_add ?_;(repeat(refine Pn.mk ?_;intro N hN)))|((try apply Or.inl);refine⟨_,aq.x (h2) (sd @Nat.zero_add),?_⟩;refine hN _ _ ?_;clear hN N)))
 refine aZ (fun n env st=>∃k:Nat,n=(l.length)-k/\k<=(l.length)/\env 5=.int .i64 (k:Int)/\(∀j:Nat,j<k->dY s (aD l j).aO=true)) (l.length) ⟨0,by omega,by omega,sl @Nat.zero_add,fun _ h=>absurd h (Nat.not_lt_zero _)⟩ ?_
 rintro n_a env_a st_a ⟨k,rfl,ale,a5,j9⟩ dx
 have a0:=dx 0 (by kernel_rfl);have a1:=dx 1 (by kernel_rfl)
 simp only[go_sem, ↓reduceIte,Nat.reduceEqDiff,Nat.reduceAdd,Nat.reduceSub,Nat.reduceLeDiff,reduceCtorEq]at a0 a1
 clear dx
 by_cases hk:(k:Int)<(l.length:Int)
 ·have cz:∀{e:Env},(e 5=.int .i64 (IntKind.i64.wrap ((k:Int)+1)))->(dY s (aD l k).aO=true)->∃m0,m0<(l.length)-k/\∃k:Nat,m0=(l.length)-k/\k<=(l.length)/\e 5=.int .i64 (k:Int)/\(∀j:Nat,j<k->dY s (aD l j).aO=true):=fun x1 x2=>⟨_,by omega,k+1,rfl,by omega,(by rw[x1,aA (by omega)]),(all_succ j9 x2)⟩
  have fM:k<l.length:=by omega
  have e9:=fE fM
  have ht:=qP s (aD l k).aO
  cases b3:dY s (aD l k).aO
  ·rw[b3]at ht
   (repeat(first|((repeat(revert hN;revert N;apply Pn.out));refine wk (tw @a5 (tw @a0 (tw @a1 (tw @hk (tw @e9 @aa.eq_1))))) ?_;(repeat(refine Pn.mk ?_;intro N hN)))|((try apply Or.inl);refine⟨_,aq.x (ht) (sd (tw @a5 (tw @a0 (tw @a1 (tw @hk (tw @e9 @aa.eq_1)))))),?_⟩;refine hN _ _ ?_;clear hN N)))
   exact bc (b:=false) (.inl rfl) (sd @Nat.zero_add) (by
    have:l.all (fun t=>dY s t.aO)=false:=List.all_eq_false.2 ⟨_,k8 fM,by rw[b3];simp⟩
    rw[sQ,this,Bool.and_false])
  ·rw[b3]at ht
   (repeat(first|((repeat(revert hN;revert N;apply Pn.out));refine wk (tw @a5 (tw @a0 (tw @a1 (tw @hk (tw @e9 @aa.eq_1))))) ?_;(repeat(refine Pn.mk ?_;intro N hN)))|((try apply Or.inl);refine⟨_,aq.x (ht) (sd (tw @a5 (tw @a0 (tw @a1 (tw @hk (tw @e9 @aa.eq_1)))))),?_⟩;refine hN _ _ ?_;clear hN N)))
   exact cz (sd (tw @a5 (tw @a0 @a1))) (b3)
 ·(try((repeat(revert hN;revert N;apply Pn.out));refine wk (tw @a5 (tw @a0 (tw @a1 @hk))) ?_;(repeat(refine Pn.mk ?_;intro N hN))))
  exact bc (b:=true) (.inl rfl) (sd @Nat.zero_add) (by
   have:l.all (fun t=>dY s t.aO)=true:=List.all_eq_true.2 fun t ht=>by
    obtain⟨j,hj,rfl⟩:=List.getElem_of_mem ht
    have:=j9 j (by omega)
    rwa [fH hj]at this
   rw[sQ,b2,this];rfl)
theorem xY (l:List ad) (hF:kQ l) (i:Nat) (d:Int) (hi:i<l.length) (hd:jc d 0 3=true):aq Tryz.prog 217 [.dq [.sl (l.map aa)],.int .i64 i,.int .i64 d] (.int .i64 (eR l (dp (aD l i).aQ d))):=by
 refine aq.body eK rfl fun hl n0=>?_
 clear hl
 have hg:=fE hi
 have hp:=oZ (hF.pt hi)
 have h1:=tf (aD l i).aQ d hd hp.1 hp.2
 have h2:=qQ l (dp (aD l i).aQ d) hF.Kl (by have:=hF.xx;omega)
 rw[ah]at h1 h2
 (repeat(first|((repeat(revert hN;revert N;apply Pn.out));refine wk (tw @aa.eq_1 (tw @hg @ah.eq_1)) ?_;(repeat(refine Pn.mk ?_;intro N hN)))|((try apply Or.inl);refine⟨_,aq.x (h1) (sd (tw @aa.eq_1 (tw @hg @ah.eq_1))),?_⟩;refine hN _ _ ?_;clear hN N)|((try apply Or.inl);refine⟨_,aq.x (h2) (sd (tw @aa.eq_1 (tw @hg @ah.eq_1))),?_⟩;refine hN _ _ ?_;clear hN N)))
 exact cN (b:=eR l (dp (aD l i).aQ d)) (.inl rfl) (sd @Nat.zero_add) rfl
end Go.Proofs.YtgoelphibofcmaaGreat.V

namespace Go.Proofs.YtgoelphibofcmaaGreat.V
def bi (b:Bool):Int:=if b then 1 else 0
def lY (f:Nat->Int):Nat->Int
 |0=>0
 |n+1=>lY f n+f n
theorem gD {f g:Nat->Int}:∀{n:Nat},(∀i,i<n->f i=g i)->lY f n=lY g n
 |0,_=>rfl
 |n+1,h=>by
  simp only[lY]
  rw[gD fun i hi=>h i (by omega),h n (by omega)]
theorem sq {f g:Nat->Int}:∀{n:Nat},(∀i,i<n->f i<=g i)->lY f n<=lY g n
 |0,_=>Int.le_refl _
 |n+1,h=>by
  simp only[lY]
  have:=sq (n:=n) fun i hi=>h i (by omega)
  have:=h n (by omega)
  omega
theorem jZ:∀{n:Nat} {f:Nat->Int},(∀i,i<n->f i=0)->lY f n=0
 |0,_,_=>rfl
 |n+1,f,h=>by
  simp only[lY]
  rw[jZ fun i hi=>h i (by omega),h n (by omega)];rfl
theorem pN {f:Nat->Int} {a:Nat} {d:Int}:∀n,lY (fun i=>f i+if i=a then d else 0) n=lY f n+if a<n then d else 0
 |0=>by simp[lY]
 |n+1=>by
  simp only[lY]
  rw[pN n]
  by_cases h:n=a
  ·subst h;simp;omega
  ·rw[if_neg h]
   by_cases h2:a<n
   ·rw[if_pos h2,if_pos (by omega)];omega
   ·rw[if_neg h2,if_neg (by omega)];omega
def mc (n:Nat) (S:Nat->Bool) (f:Nat->Nat->Int):Int:=lY (fun u=>lY (fun v=>if S u&& !S v then f u v else 0) n) n
def bump (f:Nat->Nat->Int) (a b:Nat) (d:Int):Nat->Nat->Int:=fun u v=>f u v+if u=a/\v=b then d else 0
theorem pr {n:Nat} {S:Nat->Bool} {f:Nat->Nat->Int} {a b:Nat} {d:Int} (ha:a<n) (hb:b<n):mc n S (bump f a b d)=mc n S f+if S a&& !S b then d else 0:=by
 unfold mc
 have h1:∀u,u<n->lY (fun v=>if S u&& !S v then bump f a b d u v else 0) n=lY (fun v=>if S u&& !S v then f u v else 0) n+if u=a then(if S a&& !S b then d else 0)else 0:=by
  intro u hu
  by_cases h:u=a
  ·subst h
   have h2:∀v,v<n->(if S u&& !S v then bump f u b d u v else 0)=(fun v=>if S u&& !S v then f u v else 0) v+if v=b then(if S u&& !S b then d else 0)else 0:=by
    intro v hv
    unfold bump
    by_cases h3:v=b
    ·subst h3;simp only[and_self,if_true];split<;>omega
    ·simp only[h3,and_false,if_false];split<;>omega
   rw[gD h2,pN,if_pos hb,if_pos rfl]
  ·rw[if_neg h,Int.add_zero]
   refine gD fun v hv=>?_
   unfold bump
   simp[h]
 rw[gD h1,pN,if_pos ha]
theorem Lx {n:Nat} {S:Nat->Bool} {f c:Nat->Nat->Int} (h:∀u v,u<n->v<n->f u v<=c u v):mc n S f<=mc n S c:=
 sq fun u hu=>sq fun v hv=>by split;exact h u v hu hv;exact Int.le_refl _
theorem Lw {n:Nat} {S:Nat->Bool} {f c:Nat->Nat->Int} (h:∀u v,u<n->v<n->S u=true->S v=false->f u v=c u v):mc n S f=mc n S c:=
 gD fun u hu=>gD fun v hv=>by
  split
  ·rename_i hc
   simp only[Bool.and_eq_true,Bool.not_eq_true']at hc
   exact h u v hu hv hc.1 hc.2
  ·rfl
def kD (f:Nat->Nat->Int) (a b:Nat):Nat->Nat->Int:=bump (bump f a b 1) b a (-1)
theorem Gw {n:Nat} {S:Nat->Bool} {f:Nat->Nat->Int} {a b:Nat} (ha:a<n) (hb:b<n):mc n S (kD f a b)=mc n S f+bi (S a)-bi (S b):=by
 unfold kD
 rw[pr hb ha,pr ha hb]
 cases S a<;>cases S b<;>simp[bi]<;>omega
def ma (f:Nat->Nat->Int):List Nat->Nat->Nat->Int
 |a::b::r=>ma (kD f a b) (b::r)
 |_=>f
def rf (f c:Nat->Nat->Int):List Nat->Prop
 |a::b::r=>f a b<c a b/\rf f c (b::r)
 |_=>True
theorem A6 {n:Nat} {S:Nat->Bool}:∀(r:List Nat) (a:Nat) (f:Nat->Nat->Int),(∀x∈a::r,x<n)->mc n S (ma f (a::r))=mc n S f+bi (S a)-bi (S ((a::r).getLast (by simp)))
 |[],a,f,_=>by simp[ma]
 |b::r,a,f,h=>by
  rw[ma,A6 r b (kD f a b) fun x hx=>h x (List.mem_cons_of_mem _ hx),Gw (h a (by simp)) (h b (by simp)),List.getLast_cons_cons]
  generalize bi (S b)=q
  omega
theorem rf.less {f g c:Nat->Nat->Int}:∀{p:List Nat},rf f c p->(∀u,u∈p->∀v,g u v<=f u v)->rf g c p
 |[],_,_=>trivial
 |[_],_,_=>trivial
 |a::b::r,h,hl=>⟨Int.lt_of_le_of_lt (hl a (by simp) b) h.1,rf.less (p:=b::r) h.2 fun u hu=>hl u (List.mem_cons_of_mem _ hu)⟩
theorem Fk {n:Nat} {c:Nat->Nat->Int}:∀(p:List Nat) (f:Nat->Nat->Int),p.Nodup->rf f c p->(∀u v,u<n->v<n->f u v<=c u v)->∀u v,u<n->v<n->ma f p u v<=c u v
 |[],f,_,_,h=>h
 |[_],f,_,_,h=>h
 |a::b::r,f,hn,hr,h=>by
  rw[ma]
  have qF:a∉b::r:=(List.nodup_cons.1 hn).1
  refine Fk (b::r) _ (List.nodup_cons.1 hn).2 (hr.2.less fun u hu v=>?_) fun u v hu hv=>?_
  ·unfold kD bump
   have:u≠a:=by rintro rfl;exact qF hu
   simp only[this,false_and,if_false]
   split<;>omega
  ·have h0:=h u v hu hv
   have h1:=hr.1
   unfold kD bump
   by_cases e:u=a/\v=b
   ·obtain⟨rfl,rfl⟩:=e
    rw[if_pos ⟨rfl,rfl⟩];split<;>omega
   ·rw[if_neg e];split<;>omega
structure lD (n:Nat) (c f:Nat->Nat->Int) (x y:Nat) (val:Int):Prop where
 le:∀u v,u<n->v<n->f u v<=c u v
 cut:∀S:Nat->Bool,S x=true->S y=false->mc n S f=val
theorem lD.zero {n:Nat} {c:Nat->Nat->Int} {x y:Nat} (h:∀u v,u<n->v<n->0<=c u v):lD n c (fun _ _=>0) x y 0:=
 ⟨h,fun S _ _=>jZ fun u hu=>jZ fun v hv=>by split<;>rfl⟩
theorem lD.congr {n:Nat} {c f g:Nat->Nat->Int} {x y:Nat} {val:Int} (h:lD n c f x y val) (e:∀u v,u<n->v<n->g u v=f u v):lD n c g x y val:=
 ⟨fun u v hu hv=>by rw[e u v hu hv];exact h.le u v hu hv,fun S hx hy=>by
  rw[<-h.cut S hx hy]
  exact gD fun u hu=>gD fun v hv=>by rw[e u v hu hv]⟩
theorem lD.aug {n:Nat} {c f:Nat->Nat->Int} {x y:Nat} {val:Int} (h:lD n c f x y val) {r:List Nat} (hl:(x::r).getLast (by simp)=y) (hn:(x::r).Nodup) (hr:rf f c (x::r)) (hb:∀v∈x::r,v<n):lD n c (ma f (x::r)) x y (val+1):=
 ⟨Fk _ _ hn hr h.le,fun S hx hy=>by rw[A6 r x f hb,hl,h.cut S hx hy,hx,hy];simp[bi]⟩
theorem lD.bound {n:Nat} {c f:Nat->Nat->Int} {x y:Nat} {val:Int} (h:lD n c f x y val) {S:Nat->Bool} (hx:S x=true) (hy:S y=false):val<=mc n S c:=by
 rw[<-h.cut S hx hy];exact Lx h.le
theorem lD.full {n:Nat} {c f:Nat->Nat->Int} {x y:Nat} {val:Int} (h:lD n c f x y val) {S:Nat->Bool} (hx:S x=true) (hy:S y=false) (hS:∀u v,u<n->v<n->S u=true->S v=false->¬f u v<c u v):val=mc n S c:=by
 rw[<-h.cut S hx hy]
 exact Lw fun u v hu hv h1 h2=>by have:=hS u v hu hv h1 h2;have:=h.le u v hu hv;omega
structure PB where
 a:Nat
 b:Nat
 s:Int
 deriving Inhabited
def cG (bs:List PB) (i:Nat):PB:=bs.getD i default
def jj (S:Nat->Bool) (bs:List PB):Int:=(bs.map fun b=>if S b.a=S b.b then 0 else b.s).sum
def nP (c:Nat->Nat->Int) (b:PB):Nat->Nat->Int:=bump (bump c b.a b.b b.s) b.b b.a b.s
def lg (bs:List PB):Nat->Nat->Int:=bs.foldl nP fun _ _=>0
theorem EJ (bs:List PB) (b:PB):lg (bs++[b])=nP (lg bs) b:=by simp[lg]
theorem Bh {n:Nat} {S:Nat->Bool}:∀(bs:List PB) (c:Nat->Nat->Int),(∀b∈bs,b.a<n/\b.b<n)->mc n S (bs.foldl nP c)=mc n S c+jj S bs
 |[],c,_=>by simp[jj]
 |b::bs,c,h=>by
  have hb:=h b (by simp)
  rw[List.foldl_cons,Bh bs _ fun x hx=>h x (List.mem_cons_of_mem _ hx)]
  unfold nP jj
  rw[pr hb.2 hb.1,pr hb.1 hb.2,List.map_cons,List.sum_cons]
  cases S b.a<;>cases S b.b<;>simp<;>omega
theorem Bi {n:Nat} {S:Nat->Bool} {bs:List PB} (h:∀b∈bs,b.a<n/\b.b<n):mc n S (lg bs)=jj S bs:=by
 rw[lg,Bh bs _ h]
 have:mc n S (fun _ _=>0)=0:=jZ fun u hu=>jZ fun v hv=>by split<;>rfl
 omega
theorem Ah:∀(bs:List PB) (c:Nat->Nat->Int),(∀b∈bs,0<=b.s)->(∀u v,0<=c u v)->∀u v,0<=bs.foldl nP c u v
 |[],c,_,h=>h
 |b::bs,c,hb,h=>by
  rw[List.foldl_cons]
  refine Ah bs _ (fun x hx=>hb x (List.mem_cons_of_mem _ hx)) fun u v=>?_
  have:=hb b (by simp);have:=h u v
  unfold nP bump
  split<;>split<;>omega
theorem room_le:∀(bs:List PB) (c:Nat->Nat->Int) (m:Int),(∀b∈bs,b.s<=4)->(∀u v,c u v<=m)->0<=m->∀u v,bs.foldl nP c u v<=m+8*bs.length
 |[],c,m,_,h,_=>fun u v=>by have:=h u v;simp;omega
 |b::bs,c,m,hb,h,h0=>fun u v=>by
  rw[List.foldl_cons]
  have:=room_le bs (nP c b) (m+8) (fun x hx=>hb x (List.mem_cons_of_mem _ hx)) (fun u v=>by
   have:=hb b (by simp);have:=h u v
   unfold nP bump
   split<;>split<;>omega) (by omega) u v
  simp only[List.length_cons];omega
def kR (n:Nat) (bs:List PB) (t:Int):Prop:=∀S:Nat->Bool,S 0=true->(∃y,y<n/\S y=false)->t<=jj S bs
def Gu (S:Nat->Bool) (bs:List PB) (f:Nat->Int):Int:=lY (fun i=>f i*(bi (S (cG bs i).a)-bi (S (cG bs i).b))) bs.length
structure j8 (bs:List PB) (f:Nat->Int) (x y:Nat) (val:Int):Prop where
 le:∀i,i<bs.length->f i<=(cG bs i).s/\-(cG bs i).s<=f i
 cut:∀S:Nat->Bool,S x=true->S y=false->Gu S bs f=val
theorem v7 (S:Nat->Bool):∀bs:List PB,jj S bs=lY (fun i=>if S (cG bs i).a=S (cG bs i).b then 0 else(cG bs i).s) bs.length:=by
 intro bs
 have key:∀n,n<=bs.length->jj S (bs.take n)=lY (fun i=>if S (cG bs i).a=S (cG bs i).b then 0 else(cG bs i).s) n:=by
  intro n
  induction n with
  |zero=>intro _;rfl
  |succ n ih=>
   intro h
   have e:cG bs n=bs[n]:=by simp[cG,List.getD_eq_getElem?_getD,List.getElem?_eq_getElem (show n<bs.length by omega)]
   rw[List.take_succ_eq_append_getElem (by omega),lY,<-ih (by omega),e]
   unfold jj
   rw[List.map_append,List.sum_append]
   simp only[List.map_cons,List.map_nil,List.sum_cons,List.sum_nil,Int.add_zero]
 have:=key bs.length (Nat.le_refl _)
 rwa [List.take_length]at this
theorem j8.bound {bs:List PB} {f:Nat->Int} {x y:Nat} {val:Int} (h:j8 bs f x y val) {S:Nat->Bool} (hx:S x=true) (hy:S y=false):val<=jj S bs:=by
 rw[<-h.cut S hx hy,v7]
 refine sq fun i hi=>?_
 have:=h.le i hi
 cases S (cG bs i).a<;>cases S (cG bs i).b<;>simp[bi]<;>omega
def fN (bs:List PB) (f:Nat->Int) (i u:Nat):Int:=if (cG bs i).a=u then(cG bs i).s-f i else(cG bs i).s+f i
def cw (bs:List PB) (i u:Nat):Nat:=if (cG bs i).a=u then(cG bs i).b else(cG bs i).a
theorem j8.full {bs:List PB} {f:Nat->Int} {x y:Nat} {val:Int} (h:j8 bs f x y val) {S:Nat->Bool} (hx:S x=true) (hy:S y=false)
  (hS:∀i,i<bs.length->((cG bs i).a≠(cG bs i).b->(S (cG bs i).a=true->S (cG bs i).b=false->¬0<fN bs f i (cG bs i).a)/\(S (cG bs i).b=true->S (cG bs i).a=false->¬0<fN bs f i (cG bs i).b))):val=jj S bs:=by
 rw[<-h.cut S hx hy,v7]
 refine gD fun i hi=>?_
 have h1:=h.le i hi
 by_cases qF:(cG bs i).a=(cG bs i).b
 ·rw[qF];simp
 ·have h2:=hS i hi qF
  unfold fN at h2
  rw[if_pos rfl,if_neg qF]at h2
  cases ha:S (cG bs i).a<;>cases hb:S (cG bs i).b<;>rw[ha,hb]at h2<;>simp[bi]at h2 ⊢ <;>omega
def uh (bs:List PB) (f:Nat->Int) (i u:Nat):Nat->Int:=fun j=>f j+if j=i then(if (cG bs i).a=u then 1 else -1)else 0
theorem Gv {S:Nat->Bool} {bs:List PB} {f:Nat->Int} {i u:Nat} (hi:i<bs.length) (hu:(cG bs i).a=u∨(cG bs i).b=u):Gu S bs (uh bs f i u)=Gu S bs f+bi (S u)-bi (S (cw bs i u)):=by
 unfold Gu uh
 have e:∀j,j<bs.length->(f j+if j=i then(if (cG bs i).a=u then 1 else -1)else 0)*(bi (S (cG bs j).a)-bi (S (cG bs j).b))=(fun j=>f j*(bi (S (cG bs j).a)-bi (S (cG bs j).b))) j+if j=i then(if (cG bs i).a=u then 1 else -1)*(bi (S (cG bs i).a)-bi (S (cG bs i).b))else 0:=by
  intro j hj
  by_cases h:j=i
  ·subst h;simp only[if_true];rw[Int.add_mul]
  ·simp only[h,if_false];simp
 rw[gD e,pN,if_pos hi]
 unfold cw
 by_cases ha:(cG bs i).a=u
 ·rw[if_pos ha,if_pos ha,ha];omega
 ·rw[if_neg ha,if_neg ha]
  rcases hu with hu|hu
  ·exact absurd hu ha
  ·rw[hu];omega
theorem oR:∀(n:Nat) (l:List Nat),l.Nodup->(∀x∈l,x<n)->l.length<=n
 |0,l,_,h=>by
  cases l with
  |nil=>simp
  |cons x l=>exact absurd (h x (by simp)) (by omega)
 |n+1,l,hn,h=>by
  have h1:=oR n (l.erase n) (hn.erase _) fun x hx=>by
   have h2:=(hn.mem_erase_iff).1 hx
   have h3:=h x h2.2
   have h4:=h2.1
   omega
  rw[List.length_erase]at h1
  split at h1<;>omega
end Go.Proofs.YtgoelphibofcmaaGreat.V

namespace Go.Proofs.YtgoelphibofcmaaGreat.V
def eW (L:Nat->Nat) (b:PB):Nat->Nat:=fun k=>if L k=max (L b.a) (L b.b)then min (L b.a) (L b.b)else L k
def eJ (bs:List PB):Nat->Nat:=bs.foldl eW id
theorem wO (bs:List PB) (b:PB):eJ (bs++[b])=eW (eJ bs) b:=by simp[eJ]
structure jL (L:Nat->Nat):Prop where
 le:∀k,L k<=k
 idem:∀k,L (L k)=L k
theorem jL.step {L:Nat->Nat} (h:jL L) (b:PB):jL (eW L b):=by
 have ha:=h.idem b.a
 have hb:=h.idem b.b
 refine⟨fun k=>?_,fun k=>?_⟩
 ·have:=h.le k
  unfold eW
  split<;>omega
 ·have hk:=h.idem k
  have hm:L (min (L b.a) (L b.b))=min (L b.a) (L b.b):=by
   rcases Nat.le_total (L b.a) (L b.b)with h1|h1
   ·rw[Nat.min_eq_left h1,ha]
   ·rw[Nat.min_eq_right h1,hb]
  unfold eW
  by_cases h1:L k=max (L b.a) (L b.b)
  ·rw[if_pos h1,hm];split<;>rfl
  ·rw[if_neg h1,hk,if_neg h1]
theorem wP:∀(bs:List PB) (L:Nat->Nat),jL L->jL (bs.foldl eW L)
 |[],_,h=>h
 |b::bs,L,h=>wP bs _ (h.step b)
theorem uc (bs:List PB):jL (eJ bs):=wP bs id ⟨fun _=>Nat.le_refl _,fun _=>rfl⟩
def leads (n:Nat) (L:Nat->Nat):List Nat:=(List.range n).filter fun i=>L i==i
def members (n:Nat) (L:Nat->Nat) (i:Nat):List Nat:=(List.range n).filter fun k=>L k==i
def fF (n:Nat) (L:Nat->Nat):List (List Nat):=(leads n L).map (members n L)
def cq (L:Nat->Nat) (k:Nat):Nat:=(leads (L k) L).length
theorem gZ (n:Nat) (L:Nat->Nat):leads (n+1) L=leads n L++if L n=n then[n]else[]:=by
 unfold leads
 rw[List.range_succ,List.filter_append]
 congr 1
 by_cases h:L n=n<;>simp[h]
theorem jB (n:Nat) (L:Nat->Nat) (i:Nat):members (n+1) L i=members n L i++if L n=i then[n]else[]:=by
 unfold members
 rw[List.range_succ,List.filter_append]
 congr 1
 by_cases h:L n=i<;>simp[h]
theorem nk {L:Nat->Nat} (h:jL L) {n i:Nat} (hn:n<=i):members n L i=[]:=by
 unfold members
 rw[List.filter_eq_nil_iff]
 intro k hk
 have:=h.le k
 have:=List.mem_range.1 hk
 simp;omega
theorem ud (n:Nat) (L:Nat->Nat):(leads n L).Nodup:=List.nodup_range.filter _
theorem yP {n:Nat} {L:Nat->Nat} {i:Nat}:i∈leads n L↔i<n/\L i=i:=by simp[leads]
theorem lL {n:Nat} {L:Nat->Nat} {i k:Nat}:k∈members n L i↔k<n/\L k=i:=by simp[members]
theorem G9 {L:Nat->Nat} {m n:Nat} (h:m<=n):∃r,leads n L=leads m L++r:=by
 obtain⟨d,rfl⟩:=Nat.le.dest h
 clear h
 induction d with
 |zero=>exact⟨[],by simp⟩
 |succ d ih=>
  obtain⟨r,hr⟩:=ih
  exact⟨r++if L (m+d)=m+d then[m+d]else[],by rw[<-Nat.add_assoc,gZ,hr,List.append_assoc]⟩
theorem pz {L:Nat->Nat} (h:jL L) {n k:Nat} (hk:k<n):(leads n L)[cq L k]? =some (L k):=by
 have h1:=h.le k
 obtain⟨r,hr⟩:=G9 (L:=L) (show L k+1<=n by omega)
 rw[hr,gZ,if_pos (h.idem k),List.append_assoc]
 unfold cq
 rw[List.getElem?_append_right (Nat.le_refl _),Nat.sub_self];rfl
theorem ki {L:Nat->Nat} (h:jL L) {n k:Nat} (hk:k<n):cq L k<(leads n L).length:=(List.getElem?_eq_some_iff.1 (pz h hk)).1
theorem tj {L:Nat->Nat} (h:jL L) {n k i:Nat} (hk:k<n) (hi:i<(leads n L).length):k∈members n L (leads n L)[i]↔cq L k=i:=by
 rw[lL]
 have h1:=pz h hk
 rw[List.getElem?_eq_getElem (ki h hk)]at h1
 injection h1 with h1
 constructor
 ·rintro⟨_,h2⟩
  rw[<-h1]at h2
  exact(List.getElem_inj (ud n L)).1 h2
 ·rintro rfl
  exact⟨hk,h1.symm⟩
def dB (L:Nat->Nat) (bs:List PB):List PB:=bs.filterMap fun b=>if cq L b.a=cq L b.b then none else some ⟨cq L b.a,cq L b.b,b.s⟩
def fj (L:Nat->Nat) (bs:List PB):List PB:=bs.filterMap fun b=>if cq L b.a=cq L b.b then none else some ⟨min (cq L b.a) (cq L b.b),max (cq L b.a) (cq L b.b),b.s⟩
theorem Ai (L:Nat->Nat) (bs:List PB) (b:PB):dB L (bs++[b])=dB L bs++if cq L b.a=cq L b.b then[]else[⟨cq L b.a,cq L b.b,b.s⟩]:=by
 unfold dB
 rw[List.filterMap_append]
 congr 1
 by_cases h:cq L b.a=cq L b.b<;>simp[h]
theorem Aj (L:Nat->Nat) (bs:List PB) (b:PB):fj L (bs++[b])=fj L bs++if cq L b.a=cq L b.b then[]else[⟨min (cq L b.a) (cq L b.b),max (cq L b.a) (cq L b.b),b.s⟩]:=by
 unfold fj
 rw[List.filterMap_append]
 congr 1
 by_cases h:cq L b.a=cq L b.b<;>simp[h]
theorem sW (S:Nat->Bool) (b:PB) (bs:List PB):jj S (b::bs)=(if S b.a=S b.b then 0 else b.s)+jj S bs:=by simp[jj]
theorem yl (S:Nat->Bool) (L:Nat->Nat):∀bs:List PB,jj S (fj L bs)=jj S (dB L bs)
 |[]=>rfl
 |b::bs=>by
  have ih:=yl S L bs
  unfold fj dB at ih ⊢
  rw[List.filterMap_cons,List.filterMap_cons]
  by_cases h:cq L b.a=cq L b.b
  ·simp only[h,if_true];exact ih
  ·simp only[h,if_false]
   rw[sW,sW,ih]
   congr 1
   simp only
   rcases Nat.le_total (cq L b.a) (cq L b.b)with h1|h1
   ·rw[Nat.min_eq_left h1,Nat.max_eq_right h1]
   ·rw[Nat.min_eq_right h1,Nat.max_eq_left h1]
    cases S (cq L b.a)<;>cases S (cq L b.b)<;>rfl
theorem EN {L:Nat->Nat} (h:jL L) {n:Nat} {bs:List PB} (hb:∀b∈bs,b.a<n/\b.b<n):∀b∈dB L bs,b.a<(leads n L).length/\b.b<(leads n L).length/\b.a≠b.b/\∃c∈bs,b.s=c.s:=by
 intro b hm
 unfold dB at hm
 obtain⟨c,hc,he⟩:=List.mem_filterMap.1 hm
 split at he
 ·cases he
 ·rename_i gP
  simp only[Option.some.injEq]at he
  subst he
  exact⟨ki h (hb c hc).1,ki h (hb c hc).2,gP,c,hc,rfl⟩
theorem EO {L:Nat->Nat} (h:jL L) {n:Nat} {bs:List PB} (hb:∀b∈bs,b.a<n/\b.b<n):∀b∈fj L bs,b.a<(leads n L).length/\b.b<(leads n L).length/\b.a≠b.b/\∃c∈bs,b.s=c.s:=by
 intro b hm
 unfold fj at hm
 obtain⟨c,hc,he⟩:=List.mem_filterMap.1 hm
 split at he
 ·cases he
 ·rename_i gP
  simp only[Option.some.injEq]at he
  subst he
  have h1:=ki h (hb c hc).1
  have h2:=ki h (hb c hc).2
  refine⟨by simp only;omega,by simp only;omega,by simp only;omega,c,hc,rfl⟩
theorem nr (L:Nat->Nat) (bs:List PB):(dB L bs).length<=bs.length/\(fj L bs).length<=bs.length:=⟨List.length_filterMap_le ..,List.length_filterMap_le ..⟩
theorem jU (n:Nat) (L:Nat->Nat):(leads n L).length<=n:=by
 have:=List.length_filter_le (fun i=>L i==i) (List.range n)
 simpa[leads]using this
def aU (t:Int) (bs:List PB):List PB:=bs.filter fun b=>decide (t<=b.s)
def po (n:Nat) (bs:List PB) (t:Int):Prop:=
 (leads n (eJ (aU t bs))).length<=64/\kR (leads n (eJ (aU t bs))).length (dB (eJ (aU t bs)) bs) t
theorem D5 {n:Nat} {L:Nat->Nat} {bs:List PB} {t:Int}:kR n (fj L bs) t↔kR n (dB L bs) t:=by
 unfold kR
 constructor<;>intro h S h0 hy<;>have:=h S h0 hy<;>rw[yl]at *<;>exact this
end Go.Proofs.YtgoelphibofcmaaGreat.V
