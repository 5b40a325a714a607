/- Slices of one's own that grow from an empty one. -/
import Derived.Test.YtgoljkjaameagaaGreatRsB
import Derived.Test.YtgoljkjaameagaaGreatChecked
import Derived.Test.YtgoljkjaameagaaGreatRsA
set_option linter.unusedVariables false
set_option linter.unusedSimpArgs false
set_option maxRecDepth 100000
set_option maxHeartbeats 16000000
namespace Go.Proofs.YtgoljkjaameagaaGreat.V
open Go.RowKit
variable {P:Program} {X:fN} {K:Env->ar->Prop} {env:Env} {σ:ar}
def nr {α:Type} (enc:α->List AV) (sz:Nat) (x:AV) (g:Rows) (S:Id->Prop) (L:List α):Prop:=∃o:Id,S o/\x=.own o 0 L.length/\g o=some ⟨true,sz,L.map enc⟩
section
variable {α:Type} {enc:α->List AV} {sz:Nat} {x:AV} {g g':Rows} {S:Id->Prop} {L L':List α}
theorem nr.cast (h:nr enc sz x g S L) (hL:L'=L):nr enc sz x g S L':=by subst hL;exact h
theorem nr.frame (h:nr enc sz x g S L) (hg:∀o:Id,S o->g' o=g o):nr enc sz x g' S L:=by
 obtain⟨o,h1,h2,h3⟩:=h
 exact⟨o,h1,h2,(hg o h1).trans h3⟩
theorem nr.app (hz:∀a,(enc a).length=sz/\(enc a).all AV.cell=true) (h:nr enc sz x g S L) (id:Id) (hid:S id) (M:List α) (hlen:L.length+M.length<=dH):
  ∃v g',aZ g id sz x (M.map enc)=some (v,g')/\nr enc sz v g' S (L++M)/\∀j:Id,¬S j->g' j=g j:=by
 obtain⟨o,h1,rfl,h4⟩:=h
 refine⟨.own id 0 (L.length+(M.map enc).length),bt (cw g o) id ⟨true,sz,L.map enc++M.map enc⟩,?_,⟨id,hid,by simp,by simp[bt]⟩,fun j hj=>?_⟩
 ·have ha:=all_map (l:=M) hz
  simp only[aZ,h4,Option.bind_some]
  rw[if_pos ⟨trivial,trivial,by simp,by simpa using hlen,ha⟩]
 ·have e1:¬j=id:=fun h=>hj (h▸hid)
  have e2:¬j=o:=fun h=>hj (h▸h1)
  simp[bt,cw,e1,e2]
theorem PQ {draw:Bool} {o:bj} {r:List bj} {x' y:O} {xv:AV} (M:List α) (ho:o.op=.append sz x' y) (hw:aO o.guard env=true) (hx:cU env x'=xv) (hO:nr enc sz xv σ.get S L)
  (hy:br σ.get (cU env y)=some (M.map enc)) (hz:∀a,(enc a).length=sz/\(enc a).all AV.cell=true) (hid:S ⟨o.site,σ.next⟩) (hlen:L.length+M.length<=dH)
  (next:∀v g',nr enc sz v g' S (L++M)->(∀j:Id,¬S j->g' j=σ.get j)->wpOps X draw r K (upd env o.dst v) ⟨g',σ.next⟩):wpOps X draw (o::r) K env σ:=by
 obtain⟨v,g',h1,h2,h3⟩:=hO.app hz ⟨o.site,σ.next⟩ hid M hlen
 unfold wpOps
 rw[if_pos hw]
 unfold fM
 simp only[ho,ga,hy,hx,Option.bind_some,h1]
 exact next v g' h2 h3
theorem nr.gE {n:Nat} (h:nr enc sz x g S L) (he:∀a,ef g n (enc a)=some (enc a)):gE g (n+1) x=some (.sl (L.map enc)):=by
 obtain⟨o,_,rfl,h3⟩:=h
 exact fJ h3 rfl he
end
theorem cH {a b:Id} (h:a.bW<b.bW):(a=b)=False/\(b=a)=False:=by
 constructor<;>(simp only[eq_iff_iff,iff_false];rintro rfl;omega)
theorem AP {o:Id} {a:Nat} (h:o.site=a) {b v:Nat} (re:(a==b)=false):(o=⟨b,v⟩)=False:=by
 simp only[eq_iff_iff,iff_false]
 rintro rfl
 simp only at h
 subst h
 simp at re
def eN (n:Nat):List AV:=[.int .i64 n]
theorem fzN (g:Rows) (n:Nat) (a:Nat):cV g (n+1) (eN a)=some (eN a):=by simp[eN,ai,aq,aI]
theorem Om (g:Rows) (n:Nat) (a:Nat):ef g (n+1) (eN a)=some (eN a):=by simp[eN,bD,cF,eQ]
def Qc:Dc (List Nat):=fun g cs x ids=>∃id,cs=[.own id 0 x.length]/\g id=some ⟨true,1,x.map eN⟩/\ids=[id]
theorem Mo:x9 Qc 1 where
 frame:=fun⟨id,h1,h2,h3⟩ hf=>by subst h3;exact⟨id,h1,(hf id (by simp)).trans h2,rfl⟩
 len:=fun⟨id,h1,_⟩=>by subst h1;rfl
 cell:=fun⟨id,h1,_⟩=>by subst h1;rfl
 live:=fun⟨id,h1,h2,h3⟩ i hi=>by
  subst h3
  have:i=id:=by simpa using hi
  subst this
  exact⟨_,h2,rfl,by simp[sF]⟩
 small:=by simp[sF]
def Bj (l:List Nat):List AV:=[.sl (l.map eN)]
theorem JQ {g:Rows} {rows:List (List AV)} {xs:List (List Nat)} {ids:List Id} (n:Nat) (h:eK Qc g rows xs ids):iv g (n+2) rows=some (xs.map Bj):=by
 induction h with
 |nil=>rw[iv];rfl
 |cons h1 _ ih=>
  obtain⟨id,rfl,h2,_⟩:=h1
  rw[iv,ih,bD,cF,fJ (e:=eN) (sz:=1) h2 rfl fun a=>Om g n a];rfl
end Go.Proofs.YtgoljkjaameagaaGreat.V

namespace Go.Proofs.YtgoljkjaameagaaGreat.V
open Go.RowKit
attribute [local irreducible] dL wpOps gC Call
attribute [local go_sem] aO fM eS ga fZ cU upd cD K.av cR AV.cells AV.cell rowOf rowsOf part ld rowAt bt cw dG ei iu bK dm eB fY e6 dt ep di dh dV dW bU bd cZ bQ db da ek er eo cY ck dj ej bP aQ dd cJ iq br cN bV aZ dr bc dH AV.undef bF bJ dX eh dR dO cK eA eC cI ev eu dc de List.getD_cons_zero List.getD_cons_succ List.getD_nil List.all_cons List.all_nil Bool.and_true Bool.true_and Bool.and_self Bool.not_true Bool.not_false Option.map_some Option.map_none Option.bind_some Option.bind_none List.length_cons List.length_nil List.take_succ_cons List.take_zero List.take_nil List.drop_succ_cons List.drop_zero List.drop_nil List.head?_cons List.map_cons List.map_nil List.getElem?_cons_zero List.getElem?_cons_succ List.cons_append List.nil_append List.append_nil List.length_map List.set_cons_zero List.set_cons_succ Nat.reduceMul eq_self Int.toNat_natCast Int.natCast_nonneg and_self true_and and_true decide_true decide_false Bool.false_eq_true Nat.zero_add Nat.add_zero List.contains_cons List.contains_nil Bool.or_false Bool.false_or beq_self_eq_true Nat.reduceBEq ne_eq not_true_eq_false not_false_eq_true Id.mk.injEq false_and and_false Nat.reduceLT Int.reduceLE Int.reduceLT Int.reduceToNat Int.reduceNeg Int.reduceAdd Nat.le_refl List.length_append beq_true beq_false Bool.not_eq_eq_eq_not or_false false_or dP ai aq aI bh bE cz aY bl aV bf cW bH
variable {P:Program}
def Ln {α:Type} (R:Dc α) (x:α) (σ:ar) (r:AV) (σ':ar):Prop:=∃cs ids,r=.agg cs/\R σ'.get cs x ids/\gJ σ.next σ'.next ids/\Kept σ σ'
def iM {α:Type} (R:Dc α) (z:Nat) (g:Rows) (a:AV) (xs:List α) (ids:List Id):Prop:=∃o rows is,a=.own o 0 xs.length/\g o=some ⟨true,z,rows⟩/\eK R g rows xs is/\ids=o::is
def Lo {α:Type} (R:Dc α) (z:Nat) (xs:List α) (σ:ar) (r:AV) (σ':ar):Prop:=∃ids,iM R z σ'.get r xs ids/\gJ σ.next σ'.next ids/\Kept σ σ'
theorem iM.frame {α:Type} {R:Dc α} {z:Nat} {g g':Rows} {a:AV} {xs:List α} {ids:List Id} (ok:x9 R z) (h:iM R z g a xs ids) (hf:∀i∈ids,g' i=g i):iM R z g' a xs ids:=by
 obtain⟨o,rows,is,h1,h2,h3,rfl⟩:=h
 exact⟨o,rows,is,h1,(hf o (by simp)).trans h2,h3.frame ok fun i hi=>hf i (by simp[hi]),rfl⟩
theorem iM.fz {α:Type} {R:Dc α} {z n:Nat} {e:α->List AV} {g:Rows} {a:AV} {xs:List α} {ids:List Id} (h:iM R z g a xs ids) (hz:∀{cs x ids},R g cs x ids->cV (dP g) n cs=some (e x)):V.fz (dP g) (n+1) a=some (.sl (xs.map e)):=by
 obtain⟨o,rows,is,rfl,h2,h3,rfl⟩:=h
 rw[gV]
 simp only[dP,h2,Option.map_some,if_true]
 rw[if_pos (by rw[h3.len];omega),List.drop_zero,List.take_of_length_le (by rw[h3.len];exact Nat.le_refl _),h3.fz hz];rfl
def lO {α:Type} (e:α->List AV):Dc α:=fun _ cs x ids=>cs=e x/\ids=[]
theorem IV {α:Type} {e:α->List AV} {z:Nat} (hz:∀x,(e x).length=z) (hc:∀x,(e x).all AV.cell=true) (hs:z<sF):x9 (lO e) z where
 frame:=fun h _=>h
 len:=fun h=>by rw[h.1];exact hz _
 cell:=fun h=>by rw[h.1];exact hc _
 live:=fun h i hi=>by rw[h.2]at hi;cases hi
 small:=hs
def oW:Dc eU:=fun g cs t ids=>∃i,cs=[.str t.aE,.own i 0 t.bx.length]/\g i=some ⟨true,1,t.bx.map bq⟩/\ids=[i]
theorem rL:x9 oW 2 where
 frame:=fun⟨i,h1,h2,h3⟩ hf=>⟨i,h1,(hf i (by rw[h3];simp)).trans h2,h3⟩
 len:=fun⟨i,h1,_⟩=>by rw[h1];rfl
 cell:=fun⟨i,h1,_⟩=>by rw[h1];rfl
 live:=fun⟨i,h1,h2,h3⟩ j hj=>by
  rw[h3]at hj
  have:j=i:=by simpa using hj
  subst this
  exact⟨_,h2,rfl,by simp[sF]⟩
 small:=by simp[sF]
theorem MV {g:Rows} {cs:List AV} {t:eU} {ids:List Id} (n:Nat) (h:oW g cs t ids):cV (dP g) (n+2) cs=some (bG t):=by
 obtain⟨i,rfl,h2,_⟩:=h
 have h3:V.fz (dP g) (n+2) (.own i 0 t.bx.length)=some (.sl (t.bx.map bq)):=gy (e:=bq) (sz:=1) (by simp[dP,h2]) rfl fun x=>by simp[bq,ai,aq,aI]
 simp only[ai,aq,bE,h3,Option.map_some,bG]
theorem MN {α:Type} {a b:List α} {x y:α} {k:Nat} (hk:a.length=k):(a++x::b).set k y=a++[y]++b:=by subst hk;simp
theorem AZ {α:Type} {R:Dc α} {en:α->List AV} {z fk gk:Nat} {zero:List K} (ok:x9 R z) (hc:mz P fk=some (uN fk gk z zero)) (H5:zero.length=z) (hz:∀x,(en x).length=z) (xs:List α) (hlen:xs.length<=1048576)
  (hg:∀x∈xs,∀σ,Call P gk [.agg (en x)] σ (Ln R x σ)) (σ:ar):Call P fk [.sl (xs.map en)] σ (Lo R z xs σ):=by
 refine eW hc rfl fun hl=>?_
 try simp only[q]
 clear hl
 have hm:(xs.length:Int)<=((16777216:Nat):Int):=by omega
 have h0:(0:Int)<=(xs.length:Int):=by omega
 (try((repeat(revert hN;revert N;apply Pn.out));refine wk (tw @hm (tw @h0 (tw @Int.le_refl @H5))) ?_;(repeat(refine Pn.mk ?_;intro N hN))))
 refine aW (fun n env st=>∃k:Nat,n=(xs.length)-k/\k<=(xs.length)/\env 4=.int .i64 (k:Int)/\(σ.next+2<=st.next/\(∀y:Id,y.bW<σ.next->st.get y=σ.get y)/\∃rows is,st.get ⟨fk*1000000+1002,σ.next+1⟩=some ⟨true,z,rows++List.replicate (xs.length-k) (zero.map K.av)⟩/\eK R st.get rows (xs.take k) is/\gJ (σ.next+2) st.next is)) (xs.length) ⟨0,by omega,by omega,sl @Nat.zero_add,by(try dsimp only);exact⟨by omega,fun y hy=>by
  have h1:=dv hy
  simp only[go_sem, ↓reduceIte,Nat.reduceEqDiff,Nat.reduceAdd,Nat.reduceSub,Nat.reduceLeDiff,reduceCtorEq,h1],[],[],sl @Nat.zero_add,.nil,List.nodup_nil,fun i hi=>by cases hi⟩⟩ ?_
 rintro n_a env_a st_a ⟨k,rfl,ale,a4,me⟩ dJ
 have a0:=dJ 0 (by kernel_rfl);have a3:=dJ 3 (by kernel_rfl)
 simp only[go_sem, ↓reduceIte,Nat.reduceEqDiff,Nat.reduceAdd,Nat.reduceSub,Nat.reduceLeDiff,reduceCtorEq]at a0 a3
 clear dJ
 obtain⟨an,aK,rows,is,ag,aR,aN⟩:=me
 have rO:rows.length=k:=by rw[aR.len,List.length_take];omega
 by_cases hk:(k:Int)<(xs.length:Int)
 ·have cG:∀{e:Env} {gg:Rows} {nx:Nat},(e 4=.int .i64 (IntKind.i64.wrap ((k:Int)+1)))->(σ.next+2<=nx/\(∀y:Id,y.bW<σ.next->gg y=σ.get y)/\∃rows is,gg ⟨fk*1000000+1002,σ.next+1⟩=some ⟨true,z,rows++List.replicate (xs.length-(k+1)) (zero.map K.av)⟩/\eK R gg rows (xs.take (k+1)) is/\gJ (σ.next+2) nx is)->∃m0,m0<(xs.length)-k/\∃k:Nat,m0=(xs.length)-k/\k<=(xs.length)/\e 4=.int .i64 (k:Int)/\(σ.next+2<=nx/\(∀y:Id,y.bW<σ.next->gg y=σ.get y)/\∃rows is,gg ⟨fk*1000000+1002,σ.next+1⟩=some ⟨true,z,rows++List.replicate (xs.length-k) (zero.map K.av)⟩/\eK R gg rows (xs.take k) is/\gJ (σ.next+2) nx is):=fun x1 x2=>⟨_,by omega,k+1,rfl,by omega,(by rw[x1,aB (by omega)]),x2⟩
  have fE:k<xs.length:=by omega
  have eT:(xs.map en)[k]? =some (en xs[k]):=by simp[fE]
  have uB:=hz xs[k]
  have ht:(en xs[k]).take z=en xs[k]:=by rw[<-uB,List.take_length]
  have iA:=hg _ (List.getElem_mem fE)
  obtain⟨m,HY⟩:∃m,xs.length-k=m+1:=⟨xs.length-k-1,by omega⟩
  rw[HY,List.replicate_succ]at ag
  generalize hex:en xs[k]=c at iA eT uB ht
  (try((repeat(revert hN;revert N;apply Pn.out));refine wk (tw @a4 (tw @a0 (tw @a3 (tw @hk (tw @eT (tw @uB (tw @ht @Nat.le_refl))))))) ?_;(repeat(refine Pn.mk ?_;intro N hN))))
  refine .inr (aJ _ _ _ _ _ (fun r σ1 hq=>?_) (iA _))
  obtain⟨cs,ids,rfl,hR,hI,hK⟩:=hq
  obtain⟨g1,x1⟩:=σ1
  (try dsimp only at hR hI hK)
  have Bm:=(hK.2 ⟨fk*1000000+1002,σ.next+1⟩ (by(try dsimp only);omega))
  simp only[go_sem, ↓reduceIte,Nat.reduceEqDiff,Nat.reduceAdd,Nat.reduceSub,Nat.reduceLeDiff,reduceCtorEq,ag]at Bm
  have nz:=ok.len hR
  have Ah:=ok.cell hR
  have fq:(rows++zero.map K.av::List.replicate m (zero.map K.av))[k]? =some (zero.map K.av):=by rw[List.getElem?_append_right (by omega),rO,Nat.sub_self];rfl
  have eF:(rows++zero.map K.av::List.replicate m (zero.map K.av)).set k cs=rows++[cs]++List.replicate m (zero.map K.av):=MN rO
  have Ja:(zero.map K.av).drop z=[]:=List.drop_of_length_le (by simp[H5])
  have FJ:(rows++zero.map K.av::List.replicate m (zero.map K.av)).length=xs.length:=by simp[rO];omega
  refine hN _ _ ?_
  clear hN N
  (try((repeat(revert hN;revert N;apply Pn.out));refine wk (tw @a4 (tw @a0 (tw @a3 (tw @hk (tw @Bm (tw @fq (tw @eF (tw @FJ (tw @Ja (tw @wj (tw @nz (tw @Ah (tw @Nat.le_refl @H5))))))))))))) ?_;(repeat(refine Pn.mk ?_;intro N hN))))
  have yn:=hK.1
  have K5:∀i∈is,(i=⟨fk*1000000+1002,σ.next+1⟩)=False:=fun i hi=>eq_false fun e=>by
   have:=(aN.2 i hi).1
   subst e;(try dsimp only at this);omega
  have GJ:∀i∈ids,(i=⟨fk*1000000+1002,σ.next+1⟩)=False:=fun i hi=>eq_false fun e=>by
   have:=(hI.2 i hi).1
   subst e;(try dsimp only at this);omega
  exact cG (sd (tw @a4 (tw @a0 @a3))) (by(try dsimp only at *);exact⟨by omega,fun y hy=>by
   have h1:=dv hy
   have h2:=hK.2 y (by(try dsimp only);omega)
   have h3:=aK y hy
   simp only[go_sem, ↓reduceIte,Nat.reduceEqDiff,Nat.reduceAdd,Nat.reduceSub,Nat.reduceLeDiff,reduceCtorEq]at h2
   simp only[go_sem, ↓reduceIte,Nat.reduceEqDiff,Nat.reduceAdd,Nat.reduceSub,Nat.reduceLeDiff,reduceCtorEq,h1,h2,h3],rows++[cs],is++ids,by
    rw[show xs.length-(k+1)=m by omega]
    simp only[go_sem, ↓reduceIte,Nat.reduceEqDiff,Nat.reduceAdd,Nat.reduceSub,Nat.reduceLeDiff,reduceCtorEq]<;>rfl,by
    rw[List.take_succ_eq_append_getElem fE]
    refine((aR.frame ok fun i hi=>?_).app (.one (ok.frame hR fun i hi=>?_)))
    ·have h1:=K5 i hi
     have h2:=hK.2 i (by(try dsimp only);have:=(aN.2 i hi).2;omega)
     simp only[go_sem, ↓reduceIte,Nat.reduceEqDiff,Nat.reduceAdd,Nat.reduceSub,Nat.reduceLeDiff,reduceCtorEq]at h2
     simp only[go_sem, ↓reduceIte,Nat.reduceEqDiff,Nat.reduceAdd,Nat.reduceSub,Nat.reduceLeDiff,reduceCtorEq,h1,h2]
    ·have h1:=GJ i hi
     simp only[go_sem, ↓reduceIte,Nat.reduceEqDiff,Nat.reduceAdd,Nat.reduceSub,Nat.reduceLeDiff,reduceCtorEq,h1],(aN.app hI (by(try dsimp only);omega) (by omega) (by(try dsimp only);omega)).wide (Nat.le_refl _) (by(try dsimp only);omega)⟩)
 ·(try((repeat(revert hN;revert N;apply Pn.out));refine wk (tw @a4 (tw @a0 (tw @a3 @hk))) ?_;(repeat(refine Pn.mk ?_;intro N hN))))
  have fE:k=xs.length:=by omega
  subst fE
  rw[Nat.sub_self,List.replicate_zero,List.append_nil]at ag
  rw[List.take_length]at aR
  refine ft (.inl rfl) (vs:=[.own ⟨fk*1000000+1002,σ.next+1⟩ 0 xs.length]) (sd (tw @a4 (tw @a0 @a3))) ?_
  exact⟨_,⟨_,rows,is,rfl,ag,aR,rfl⟩,⟨List.nodup_cons.2 ⟨fun hi=>by have:=(aN.2 _ hi).1;(try dsimp only at this);omega,aN.1⟩,fun i hi=>by
   rcases List.mem_cons.1 hi with rfl|hi
   ·(try dsimp only);omega
   ·have:=aN.2 i hi;(try dsimp only);omega⟩,⟨by(try dsimp only);omega,fun j hj=>aK j hj⟩⟩
end Go.Proofs.YtgoljkjaameagaaGreat.V

namespace Go.Proofs.YtgoljkjaameagaaGreat.V
open Go.RowKit
attribute [local irreducible] dL wpOps gC Call
attribute [local go_sem] aO fM eS ga fZ cU upd cD K.av cR AV.cells AV.cell rowOf rowsOf part ld rowAt bt cw dG ei iu bK dm eB fY e6 dt ep di dh dV dW bU bd cZ bQ db da ek er eo cY ck dj ej bP aQ dd cJ iq br cN bV aZ dr bc dH AV.undef bF bJ dX eh dR dO cK eA eC cI ev eu dc de List.getD_cons_zero List.getD_cons_succ List.getD_nil List.all_cons List.all_nil Bool.and_true Bool.true_and Bool.and_self Bool.not_true Bool.not_false Option.map_some Option.map_none Option.bind_some Option.bind_none List.length_cons List.length_nil List.take_succ_cons List.take_zero List.take_nil List.drop_succ_cons List.drop_zero List.drop_nil List.head?_cons List.map_cons List.map_nil List.getElem?_cons_zero List.getElem?_cons_succ List.cons_append List.nil_append List.append_nil List.length_map List.set_cons_zero List.set_cons_succ Nat.reduceMul eq_self Int.toNat_natCast Int.natCast_nonneg and_self true_and and_true decide_true decide_false Bool.false_eq_true Nat.zero_add Nat.add_zero List.contains_cons List.contains_nil Bool.or_false Bool.false_or beq_self_eq_true Nat.reduceBEq ne_eq not_true_eq_false not_false_eq_true Id.mk.injEq false_and and_false Nat.reduceLT Int.reduceLE Int.reduceLT Int.reduceToNat Int.reduceNeg Int.reduceAdd Nat.le_refl List.length_append beq_true beq_false Bool.not_eq_eq_eq_not or_false false_or dP ai aq aI bh bE cz aY bl aV bf cW bH
theorem iM.kG {α:Type} {R:Dc α} {z:Nat} {g:Rows} {a:AV} {xs:List α} {ids:List Id} (h:iM R z g a xs ids):∃o,a=.own o 0 xs.length:=by
 obtain⟨o,rows,is,rfl,_⟩:=h;exact⟨o,rfl⟩
theorem KI (xs:List Int) (hlen:xs.length<=1048576) (σ:ar):Call Tryz.prog 17 [.sl (xs.map bq)] σ (fun r σ'=>∃i,r=.own i 0 xs.length/\σ'.get i=some ⟨true,1,xs.map bq⟩/\gJ σ.next σ'.next [i]/\Kept σ σ'):=by
 refine eW (show mz Tryz.prog 17=some (KK 17 (.int .i64 0)) by kernel_rfl) rfl fun hl=>?_
 try simp only[q]
 clear hl
 obtain⟨en,HT⟩:∃en:Int->List AV,en=bq:=⟨_,rfl⟩
 rw[<-HT]
 have hm:(xs.length:Int)<=((16777216:Nat):Int):=by omega
 have h0:(0:Int)<=(xs.length:Int):=by omega
 (try((repeat(revert hN;revert N;apply Pn.out));refine wk (tw @hm (tw @h0 (tw @Int.le_refl (pa en [AV.int .i64 0] xs)))) ?_;(repeat(refine Pn.mk ?_;intro N hN))))
 refine aW (fun n env st=>∃k:Nat,n=(xs.length)-k/\k<=(xs.length)/\env 4=.int .i64 (k:Int)/\st.get ⟨17*1000000+1002,σ.next+1⟩=some ⟨true,1,gU en [AV.int .i64 0] xs k⟩/\(σ.next+2<=st.next/\∀y:Id,y.bW<σ.next->st.get y=σ.get y)) (xs.length) ⟨0,by omega,by omega,sl @Nat.zero_add,sl @Nat.zero_add,by(try dsimp only);exact⟨by omega,fun y hy=>by
  have h1:=dv hy
  simp only[go_sem, ↓reduceIte,Nat.reduceEqDiff,Nat.reduceAdd,Nat.reduceSub,Nat.reduceLeDiff,reduceCtorEq,h1]⟩⟩ ?_
 rintro n_a env_a st_a ⟨k,rfl,ale,a4,ag0,me⟩ dJ
 have a0:=dJ 0 (by kernel_rfl);have a3:=dJ 3 (by kernel_rfl)
 simp only[go_sem, ↓reduceIte,Nat.reduceEqDiff,Nat.reduceAdd,Nat.reduceSub,Nat.reduceLeDiff,reduceCtorEq]at a0 a3
 clear dJ
 obtain⟨an,aK⟩:=me
 by_cases hk:(k:Int)<(xs.length:Int)
 ·have cG:∀{e:Env} {gg:Rows} {nx:Nat},(e 4=.int .i64 (IntKind.i64.wrap ((k:Int)+1)))->(gg ⟨17*1000000+1002,σ.next+1⟩=some ⟨true,1,gU en [AV.int .i64 0] xs (k+1)⟩)->(σ.next+2<=nx/\∀y:Id,y.bW<σ.next->gg y=σ.get y)->∃m0,m0<(xs.length)-k/\∃k:Nat,m0=(xs.length)-k/\k<=(xs.length)/\e 4=.int .i64 (k:Int)/\gg ⟨17*1000000+1002,σ.next+1⟩=some ⟨true,1,gU en [AV.int .i64 0] xs k⟩/\(σ.next+2<=nx/\∀y:Id,y.bW<σ.next->gg y=σ.get y):=fun x1 x2 x3=>⟨_,by omega,k+1,rfl,by omega,(by rw[x1,aB (by omega)]),x2,x3⟩
  have fE:k<xs.length:=by omega
  have eT:(xs.map en)[k]? =some [AV.int .i64 xs[k]]:=by simp[fE,HT,bq]
  have fV:=qR en [AV.int .i64 0] xs fE
  have eF:=qS en [AV.int .i64 0] xs fE
  rw[show en xs[k]=[AV.int .i64 xs[k]] by rw[HT];rfl]at eF
  (try((repeat(revert hN;revert N;apply Pn.out));refine wk (tw @a4 (tw @ag0 (tw @a0 (tw @a3 (tw @hk (tw @eT (tw @fV @eF))))))) ?_;(repeat(refine Pn.mk ?_;intro N hN))))
  refine cG ?_ ?_ (by(try dsimp only);exact⟨by omega,fun y hy=>by
   have h1:=dv hy
   have h3:=aK y hy
   simp only[go_sem, ↓reduceIte,Nat.reduceEqDiff,Nat.reduceAdd,Nat.reduceSub,Nat.reduceLeDiff,reduceCtorEq,h1,h3]⟩)
  all_goals simp only[go_sem, ↓reduceIte,Nat.reduceEqDiff,Nat.reduceAdd,Nat.reduceSub,Nat.reduceLeDiff,reduceCtorEq,a4,ag0,a0,a3]
 ·(try((repeat(revert hN;revert N;apply Pn.out));refine wk (tw @a4 (tw @ag0 (tw @a0 (tw @a3 @hk)))) ?_;(repeat(refine Pn.mk ?_;intro N hN))))
  have fE:k=xs.length:=by omega
  subst fE
  refine ft (.inl rfl) (vs:=[.own ⟨17*1000000+1002,σ.next+1⟩ 0 xs.length]) (sd (tw @a4 (tw @ag0 (tw @a0 @a3)))) ?_
  rw[qQ]at ag0
  exact⟨_,rfl,ag0,⟨List.nodup_cons.2 ⟨by simp,List.nodup_nil⟩,fun i hi=>by
   rw[List.mem_singleton.1 hi];(try dsimp only);omega⟩,⟨by(try dsimp only);omega,fun j hj=>aK j hj⟩⟩
theorem KL (p:eU) (hs:th p) (σ:ar):Call Tryz.prog 198 [.agg (bG p)] σ (Ln oW p σ):=by
 refine eW eI rfl fun hl=>?_
 clear hl
 (try((repeat(revert hN;revert N;apply Pn.out));refine wk @bG.eq_1 ?_;(repeat(refine Pn.mk ?_;intro N hN))))
 refine .inr (aJ _ _ _ _ _ (fun r σ1 hq=>?_) (KI p.bx hs _))
 obtain⟨i,rfl,hg,hI,hK⟩:=hq
 obtain⟨g1,x1⟩:=σ1
 (try dsimp only at hg hI hK)
 have hn:=hK.1
 refine hN _ _ ?_
 clear hN N
 have hi:=hI.2 i (by simp)
 have k2:=hK.2 ⟨198000001,σ.next⟩ (by(try dsimp only);omega)
 have k3:=hK.2 ⟨198001000,σ.next+1⟩ (by(try dsimp only);omega)
 simp only[go_sem, ↓reduceIte,Nat.reduceEqDiff,Nat.reduceAdd,Nat.reduceSub,Nat.reduceLeDiff,reduceCtorEq]at k2 k3
 (try((repeat(revert hN;revert N;apply Pn.out));refine wk (tw @bG.eq_1 (tw @k2 @k3)) ?_;(repeat(refine Pn.mk ?_;intro N hN))))
 refine ft (.inl rfl) (vs:=[.agg [.str p.aE,.own i 0 p.bx.length]]) (sd @Nat.zero_add) ?_
 refine⟨_,[i],rfl,⟨i,rfl,?_,rfl⟩,⟨hI.1,fun j hj=>?_⟩,⟨?_,fun j hj=>?_⟩⟩
 ·have i2:=cH (b:=i) (a:=⟨198000001,σ.next⟩) (by(try dsimp only at *);omega)
  have i3:=cH (b:=i) (a:=⟨198001000,σ.next+1⟩) (by(try dsimp only at *);omega)
  simp only[go_sem, ↓reduceIte,Nat.reduceEqDiff,Nat.reduceAdd,Nat.reduceSub,Nat.reduceLeDiff,reduceCtorEq,i2,i3,hg]
 ·rw[List.mem_singleton.1 hj]
  (try dsimp only at *);omega
 ·(try dsimp only at *);omega
 ·have h2:=hK.2 j (by(try dsimp only);omega)
  have h1:=dv hj
  simp only[go_sem, ↓reduceIte,Nat.reduceEqDiff,Nat.reduceAdd,Nat.reduceSub,Nat.reduceLeDiff,reduceCtorEq,h1]at h2
  simp only[go_sem, ↓reduceIte,Nat.reduceEqDiff,Nat.reduceAdd,Nat.reduceSub,Nat.reduceLeDiff,reduceCtorEq,h1,h2]
theorem BX:x9 (lO cj) 2:=IV (fun _=>rfl) (fun _=>rfl) (by simp[sF])
theorem yY:x9 (lO aa) 3:=IV (fun _=>rfl) (fun _=>rfl) (by simp[sF])
theorem KG (p:fF) (σ:ar):Call Tryz.prog 197 [.agg (cj p)] σ (Ln (lO cj) p σ):=by
 refine eW eI rfl fun hl=>?_
 clear hl
 (try((repeat(revert hN;revert N;apply Pn.out));refine wk @cj.eq_1 ?_;(repeat(refine Pn.mk ?_;intro N hN))))
 refine ft (.inl rfl) (vs:=[.agg (cj p)]) (sd @cj.eq_1) ?_
 exact⟨_,[],rfl,⟨rfl,rfl⟩,⟨List.nodup_nil,fun i hi=>by cases hi⟩,⟨by(try dsimp only);omega,fun j hj=>by
  have h1:=dv hj
  simp only[go_sem, ↓reduceIte,Nat.reduceEqDiff,Nat.reduceAdd,Nat.reduceSub,Nat.reduceLeDiff,reduceCtorEq,h1]⟩⟩
theorem E5 (p:ad) (σ:ar):Call Tryz.prog 149 [.agg (aa p)] σ (Ln (lO aa) p σ):=by
 refine eW eI rfl fun hl=>?_
 clear hl
 have h:=zL p.aP
 rw[ah]at h
 (repeat(first|((repeat(revert hN;revert N;apply Pn.out));refine wk @aa.eq_1 ?_;(repeat(refine Pn.mk ?_;intro N hN)))|((try apply Or.inl);refine⟨_,kq.x (h) _,?_⟩;refine hN _ _ ?_;clear hN N)))
 refine ft (.inl rfl) (vs:=[.agg (aa p)]) (sd @aa.eq_1) ?_
 exact⟨_,[],rfl,⟨rfl,rfl⟩,⟨List.nodup_nil,fun i hi=>by cases hi⟩,⟨by(try dsimp only);omega,fun j hj=>by
  have h1:=dv hj
  simp only[go_sem, ↓reduceIte,Nat.reduceEqDiff,Nat.reduceAdd,Nat.reduceSub,Nat.reduceLeDiff,reduceCtorEq,h1]⟩⟩
theorem HI (xs:List fF) (h:xs.length<=1048576) (σ:ar):Call Tryz.prog 129 [.sl (xs.map cj)] σ (Lo (lO cj) 2 xs σ):=
 AZ BX (show mz Tryz.prog 129=some (uN 129 197 2 [.str [],.int .i64 0]) by kernel_rfl) rfl (fun _=>rfl) xs h (fun x _ σ=>KG x σ) σ
theorem HK (xs:List eU) (h:xs.length<=1048576) (hs:∀t∈xs,th t) (σ:ar):Call Tryz.prog 130 [.sl (xs.map bG)] σ (Lo oW 2 xs σ):=
 AZ rL (show mz Tryz.prog 130=some (uN 130 198 2 [.str [],.cC]) by kernel_rfl) rfl (fun _=>rfl) xs h (fun x hx σ=>KL x (hs x hx) σ) σ
theorem C3 (xs:List ad) (h:xs.length<=1048576) (σ:ar):Call Tryz.prog 80 [.sl (xs.map aa)] σ (Lo (lO aa) 3 xs σ):=
 AZ yY (show mz Tryz.prog 80=some (uN 80 149 3 [.int .i64 0,.int .i64 0,.int .i64 0]) by kernel_rfl) rfl (fun _=>rfl) xs h (fun x _ σ=>E5 x σ) σ
def xZ (g:Rows) (v:AV) (a:dM) (ids:List Id):Prop:=∃x,v=.agg [x]/\iM (lO aa) 3 g x a.ae ids
structure Bu (g:Rows) (v:AV) (s:ax) (ids:List Id):Prop where
 ex:∃a b c i1 i2 i3,v=.agg [a,b,c,.int .i64 s.aA]/\iM (lO cj) 2 g a s.aD.ay i1/\iM oW 2 g b s.aD.ae i2/\iM (lO aa) 3 g c s.aX.ae i3/\ids=i1++(i2++i3)
theorem xZ.frame {g g':Rows} {v:AV} {a:dM} {ids:List Id} (h:xZ g v a ids) (hf:∀i∈ids,g' i=g i):xZ g' v a ids:=by
 obtain⟨x,h1,h2⟩:=h
 exact⟨x,h1,h2.frame yY hf⟩
theorem Bu.frame {g g':Rows} {v:AV} {s:ax} {ids:List Id} (h:Bu g v s ids) (hf:∀i∈ids,g' i=g i):Bu g' v s ids:=by
 obtain⟨a,b,c,i1,i2,i3,h1,h2,h3,h4,rfl⟩:=h.ex
 exact⟨a,b,c,i1,i2,i3,h1,h2.frame BX fun i hi=>hf i (by simp[hi]),h3.frame rL fun i hi=>hf i (by simp[hi]),h4.frame yY fun i hi=>hf i (by simp[hi]),rfl⟩
theorem xZ.fz {g:Rows} {v:AV} {a:dM} {ids:List Id} (n:Nat) (h:xZ g v a ids):V.fz (dP g) (n+4) v=some (.agg (aC a)):=by
 obtain⟨x,rfl,h2⟩:=h
 have h3:=h2.fz (n:=n+2) (e:=aa) fun hc=>by rw[hc.1];simp[aa,ai,aq,aI]
 simp only[bl,ai,aq,h3,Option.map_some,aC]
theorem Bu.fz {g:Rows} {v:AV} {s:ax} {ids:List Id} (n:Nat) (h:Bu g v s ids):V.fz (dP g) (n+5) v=some (.agg (au s)):=by
 obtain⟨a,b,c,i1,i2,i3,rfl,h2,h3,h4,rfl⟩:=h.ex
 have q1:=h2.fz (n:=n+3) (e:=cj) fun hc=>by rw[hc.1];simp[cj,ai,aq,aI,bE]
 have q2:=h3.fz (n:=n+3) (e:=bG) fun hc=>MV (n+1) hc
 have q3:=h4.fz (n:=n+3) (e:=aa) fun hc=>by rw[hc.1];simp[aa,ai,aq,aI]
 simp only[bl,ai,aq,q1,q2,q3,aI,Option.map_some,au]
theorem nL (p:dM) (hs:p.ae.length<=1048576) (σ:ar):Call Tryz.prog 18 [.agg (aC p)] σ (fun r σ'=>∃ids,xZ σ'.get r p ids/\gJ σ.next σ'.next ids/\Kept σ σ'):=by
 refine eW eI rfl fun hl=>?_
 clear hl
 (try((repeat(revert hN;revert N;apply Pn.out));refine wk @aC.eq_1 ?_;(repeat(refine Pn.mk ?_;intro N hN))))
 refine .inr (aJ _ _ _ _ _ (fun r σ1 hq=>?_) (C3 p.ae hs _))
 obtain⟨ids,hR,hI,hK⟩:=hq
 obtain⟨g1,x1⟩:=σ1
 (try dsimp only at hR hI hK)
 have hn:=hK.1
 obtain⟨o,rows,is,rfl,hg,Uy,rfl⟩:=hR
 refine hN _ _ ?_
 clear hN N
 have k2:=hK.2 ⟨18000001,σ.next⟩ (by(try dsimp only);omega)
 have k3:=hK.2 ⟨18001000,σ.next+1⟩ (by(try dsimp only);omega)
 simp only[go_sem, ↓reduceIte,Nat.reduceEqDiff,Nat.reduceAdd,Nat.reduceSub,Nat.reduceLeDiff,reduceCtorEq]at k2 k3
 (try((repeat(revert hN;revert N;apply Pn.out));refine wk (tw @aC.eq_1 (tw @k2 @k3)) ?_;(repeat(refine Pn.mk ?_;intro N hN))))
 refine ft (.inl rfl) (vs:=[.agg [.own o 0 p.ae.length]]) (sd @Nat.zero_add) ?_
 have hb:=hI.2
 (try dsimp only at hb hn)
 refine⟨_,⟨_,rfl,iM.frame yY ⟨o,rows,is,rfl,hg,Uy,rfl⟩ fun j hj=>?_⟩,⟨hI.1,fun j hj=>?_⟩,⟨?_,fun j hj=>?_⟩⟩
 ·have UZ:=hb j hj
  have i2:=cH (b:=j) (a:=⟨18000001,σ.next⟩) (by(try dsimp only);omega)
  have i3:=cH (b:=j) (a:=⟨18001000,σ.next+1⟩) (by(try dsimp only);omega)
  simp only[go_sem, ↓reduceIte,Nat.reduceEqDiff,Nat.reduceAdd,Nat.reduceSub,Nat.reduceLeDiff,reduceCtorEq,i2,i3]
 ·have:=hb j hj
  (try dsimp only);omega
 ·(try dsimp only);omega
 ·have h2:=hK.2 j (by(try dsimp only);omega)
  have h1:=dv hj
  simp only[go_sem, ↓reduceIte,Nat.reduceEqDiff,Nat.reduceAdd,Nat.reduceSub,Nat.reduceLeDiff,reduceCtorEq,h1]at h2
  simp only[go_sem, ↓reduceIte,Nat.reduceEqDiff,Nat.reduceAdd,Nat.reduceSub,Nat.reduceLeDiff,reduceCtorEq,h1,h2]
theorem C5 (p:aw) (hs:Ik p) (σ:ar):Call Tryz.prog 63 [.agg (ab p)] σ (fun r σ'=>∃a b i1 i2,r=.agg [a,b]/\iM (lO cj) 2 σ'.get a p.ay i1/\iM oW 2 σ'.get b p.ae i2/\gJ σ.next σ'.next (i1++i2)/\Kept σ σ'):=by
 refine eW eI rfl fun hl=>?_
 clear hl
 (try((repeat(revert hN;revert N;apply Pn.out));refine wk @ab.eq_1 ?_;(repeat(refine Pn.mk ?_;intro N hN))))
 refine .inr (aJ _ _ _ _ _ (fun r σ1 hq=>?_) (HI p.ay hs.g _))
 obtain⟨i1,hR,hI,hK⟩:=hq
 obtain⟨g1,x1⟩:=σ1
 (try dsimp only at hR hI hK)
 have hn:=hK.1
 obtain⟨o,rows,is,rfl,hg,Uy,rfl⟩:=hR
 have hb:=hI.2
 (try dsimp only at hb hn)
 refine hN _ _ ?_
 clear hN N
 have k1:=hK.2 ⟨63000000,σ.next⟩ (by(try dsimp only);omega)
 have k2:=hK.2 ⟨63000001,σ.next⟩ (by(try dsimp only);omega)
 have k3:=hK.2 ⟨63001000,σ.next+1⟩ (by(try dsimp only);omega)
 simp only[go_sem, ↓reduceIte,Nat.reduceEqDiff,Nat.reduceAdd,Nat.reduceSub,Nat.reduceLeDiff,reduceCtorEq]at k1 k2 k3
 (try((repeat(revert hN;revert N;apply Pn.out));refine wk (tw @ab.eq_1 (tw @k1 (tw @k2 @k3))) ?_;(repeat(refine Pn.mk ?_;intro N hN))))
 refine .inr (aJ _ _ _ _ _ (fun r σ2 hq=>?_) (HK p.ae hs.t hs.s _))
 obtain⟨i2,hS,hJ,hL⟩:=hq
 obtain⟨g2,x2⟩:=σ2
 (try dsimp only at hS hJ hL)
 have LY:=hL.1
 obtain⟨o2,NJ,is2,rfl,Rs,hS',rfl⟩:=hS
 have hc:=hJ.2
 (try dsimp only at hc LY)
 refine hN _ _ ?_
 clear hN N
 have l2:=hL.2 ⟨63000001,σ.next⟩ (by(try dsimp only);omega)
 have l3:=hL.2 ⟨63001000,σ.next+1⟩ (by(try dsimp only);omega)
 simp only[go_sem, ↓reduceIte,Nat.reduceEqDiff,Nat.reduceAdd,Nat.reduceSub,Nat.reduceLeDiff,reduceCtorEq,k2,k3]at l2 l3
 (try((repeat(revert hN;revert N;apply Pn.out));refine wk (tw @ab.eq_1 (tw @l2 @l3)) ?_;(repeat(refine Pn.mk ?_;intro N hN))))
 refine ft (.inl rfl) (vs:=[.agg [.own o 0 p.ay.length,.own o2 0 p.ae.length]]) (sd @Nat.zero_add) ?_
 have fr:∀x:Id,σ.next+2<=x.bW->(x=⟨63000001,σ.next⟩)=False/\(x=⟨63001000,σ.next+1⟩)=False:=fun x hx=>⟨(cH (a:=⟨63000001,σ.next⟩) (b:=x) (by(try dsimp only);omega)).2,(cH (a:=⟨63001000,σ.next+1⟩) (b:=x) (by(try dsimp only);omega)).2⟩
 refine⟨_,_,_,_,rfl,iM.frame (g:=g1) BX ⟨o,rows,is,rfl,hg,Uy,rfl⟩ fun i hi=>?_,iM.frame (g:=g2) rL ⟨o2,NJ,is2,rfl,Rs,hS',rfl⟩ fun i hi=>?_,?_,⟨by(try dsimp only);omega,fun j hj=>?_⟩⟩
 ·have h1:=hb i hi
  have h2:=hL.2 i (by(try dsimp only);omega)
  have h3:=fr i (by omega)
  simp only[go_sem, ↓reduceIte,Nat.reduceEqDiff,Nat.reduceAdd,Nat.reduceSub,Nat.reduceLeDiff,reduceCtorEq,h3]at h2
  simp only[go_sem, ↓reduceIte,Nat.reduceEqDiff,Nat.reduceAdd,Nat.reduceSub,Nat.reduceLeDiff,reduceCtorEq,h2,h3]
 ·have h1:=hc i hi
  have h3:=fr i (by omega)
  simp only[go_sem, ↓reduceIte,Nat.reduceEqDiff,Nat.reduceAdd,Nat.reduceSub,Nat.reduceLeDiff,reduceCtorEq,h3]
 ·(try dsimp only at *)
  exact(hI.app hJ (by omega) (by omega) (by omega)).wide (by omega) (by omega)
 ·have h1:=dv hj
  have h2:=hL.2 j (by(try dsimp only);omega)
  have h3:=hK.2 j (by(try dsimp only);omega)
  simp only[go_sem, ↓reduceIte,Nat.reduceEqDiff,Nat.reduceAdd,Nat.reduceSub,Nat.reduceLeDiff,reduceCtorEq,h1]at h2 h3
  simp only[go_sem, ↓reduceIte,Nat.reduceEqDiff,Nat.reduceAdd,Nat.reduceSub,Nat.reduceLeDiff,reduceCtorEq,h1,h2,h3]
theorem E8 (p:ax) (hs:ui p) (σ:ar):Call Tryz.prog 16 [.agg (au p)] σ (fun r σ'=>∃ids,Bu σ'.get r p ids/\gJ σ.next σ'.next ids/\Kept σ σ'):=by
 refine eW eI rfl fun hl=>?_
 clear hl
 have t1:=fun σ=>C5 p.aD hs.s σ
 have t2:=fun σ=>nL p.aX hs.a σ
 rw[ab]at t1
 rw[aC]at t2
 (try((repeat(revert hN;revert N;apply Pn.out));refine wk @au.eq_1 ?_;(repeat(refine Pn.mk ?_;intro N hN))))
 refine .inr (aJ _ _ _ _ _ (fun r σ1 hq=>?_) (t1 _))
 obtain⟨a,b,i1,i2,rfl,hA,hB,hI,hK⟩:=hq
 obtain⟨g1,x1⟩:=σ1
 (try dsimp only at hA hB hI hK)
 have hn:=hK.1
 have hb:=hI.2
 (try dsimp only at hb hn)
 refine hN _ _ ?_
 clear hN N
 have k1:=hK.2 ⟨16000000,σ.next⟩ (by(try dsimp only);omega)
 have k2:=hK.2 ⟨16000001,σ.next⟩ (by(try dsimp only);omega)
 have k3:=hK.2 ⟨16001000,σ.next+1⟩ (by(try dsimp only);omega)
 simp only[go_sem, ↓reduceIte,Nat.reduceEqDiff,Nat.reduceAdd,Nat.reduceSub,Nat.reduceLeDiff,reduceCtorEq]at k1 k2 k3
 obtain⟨oa,rfl⟩:=hA.kG
 obtain⟨ob,rfl⟩:=hB.kG
 (try((repeat(revert hN;revert N;apply Pn.out));refine wk (tw @au.eq_1 (tw @k1 (tw @k2 @k3))) ?_;(repeat(refine Pn.mk ?_;intro N hN))))
 refine .inr (aJ _ _ _ _ _ (fun r σ2 hq=>?_) (t2 _))
 obtain⟨i3,hC,hJ,hL⟩:=hq
 obtain⟨g2,x2⟩:=σ2
 (try dsimp only at hC hJ hL)
 have LY:=hL.1
 have hc:=hJ.2
 (try dsimp only at hc LY)
 obtain⟨c,rfl,hC⟩:=hC
 obtain⟨oc,rfl⟩:=hC.kG
 refine hN _ _ ?_
 clear hN N
 have l1:=hL.2 ⟨16000000,σ.next⟩ (by(try dsimp only);omega)
 have l2:=hL.2 ⟨16000001,σ.next⟩ (by(try dsimp only);omega)
 have l3:=hL.2 ⟨16001000,σ.next+1⟩ (by(try dsimp only);omega)
 simp only[go_sem, ↓reduceIte,Nat.reduceEqDiff,Nat.reduceAdd,Nat.reduceSub,Nat.reduceLeDiff,reduceCtorEq,k1,k2,k3]at l1 l2 l3
 (try((repeat(revert hN;revert N;apply Pn.out));refine wk (tw @au.eq_1 (tw @l1 (tw @l2 @l3))) ?_;(repeat(refine Pn.mk ?_;intro N hN))))
 refine ft (.inl rfl) (vs:=[.agg [.own oa 0 p.aD.ay.length,.own ob 0 p.aD.ae.length,.own oc 0 p.aX.ae.length,.int .i64 p.aA]]) (sd @Nat.zero_add) ?_
 have fr:∀x:Id,σ.next+2<=x.bW->(x=⟨16000001,σ.next⟩)=False/\(x=⟨16001000,σ.next+1⟩)=False:=fun x hx=>⟨(cH (a:=⟨16000001,σ.next⟩) (b:=x) (by(try dsimp only);omega)).2,(cH (a:=⟨16001000,σ.next+1⟩) (b:=x) (by(try dsimp only);omega)).2⟩
 have Q2:∀i∈i1++i2,g2 i=g1 i:=fun i hi=>by
  have h1:=hb i hi
  have h2:=hL.2 i (by(try dsimp only);omega)
  have h3:=fr i (by omega)
  simp only[go_sem, ↓reduceIte,Nat.reduceEqDiff,Nat.reduceAdd,Nat.reduceSub,Nat.reduceLeDiff,reduceCtorEq,h3]at h2
  exact h2
 refine⟨i1++(i2++i3),⟨_,_,_,i1,i2,i3,rfl,hA.frame BX fun i hi=>?_,hB.frame rL fun i hi=>?_,hC.frame yY fun i hi=>?_,rfl⟩,?_,⟨by(try dsimp only);omega,fun j hj=>?_⟩⟩
 ·have h1:=hb i (by simp[hi])
  have h2:=Q2 i (by simp[hi])
  have h3:=fr i (by omega)
  simp only[go_sem, ↓reduceIte,Nat.reduceEqDiff,Nat.reduceAdd,Nat.reduceSub,Nat.reduceLeDiff,reduceCtorEq,h2,h3]
 ·have h1:=hb i (by simp[hi])
  have h2:=Q2 i (by simp[hi])
  have h3:=fr i (by omega)
  simp only[go_sem, ↓reduceIte,Nat.reduceEqDiff,Nat.reduceAdd,Nat.reduceSub,Nat.reduceLeDiff,reduceCtorEq,h2,h3]
 ·have h1:=hc i hi
  have h3:=fr i (by omega)
  simp only[go_sem, ↓reduceIte,Nat.reduceEqDiff,Nat.reduceAdd,Nat.reduceSub,Nat.reduceLeDiff,reduceCtorEq,h3]
 ·(try dsimp only at *)
  rw[<-List.append_assoc]
  exact(hI.app hJ (by omega) (by omega) (by omega)).wide (by omega) (by omega)
 ·have h1:=dv hj
  have h2:=hL.2 j (by(try dsimp only);omega)
  have h3:=hK.2 j (by(try dsimp only);omega)
  simp only[go_sem, ↓reduceIte,Nat.reduceEqDiff,Nat.reduceAdd,Nat.reduceSub,Nat.reduceLeDiff,reduceCtorEq,h1]at h2 h3
  simp only[go_sem, ↓reduceIte,Nat.reduceEqDiff,Nat.reduceAdd,Nat.reduceSub,Nat.reduceLeDiff,reduceCtorEq,h1,h2,h3]
end Go.Proofs.YtgoljkjaameagaaGreat.V

namespace Go.Proofs.YtgoljkjaameagaaGreat
open Go.RowKit
def lh (n:Int):Bool:=(decide (97<=n)&&decide (n<=122))||(decide (65<=n)&&decide (n<=90))
def lI (n:Int):Bool:=decide (48<=n)&&decide (n<=57)
def uS (i:Nat) (n:Int):Prop:=lh n=true∨(0<i/\(lI n=true∨n=95))
def wg (s:ByteArray):Prop:=(1<=s.size/\s.size<=12)/\∀i (h:i<s.size),uS i s[i].toNat
open Classical in
noncomputable def jS (s:ByteArray):Bool:=decide (wg s)
theorem Ev {s:ByteArray} (h:wg s):true=jS s:=by simp[jS,h]
theorem ee {s:ByteArray} (h:¬wg s):false=jS s:=by simp[jS,h]
theorem CF {s:ByteArray} {b:Bool} (hb:b=true) (h:wg s):b=jS s:=by simp[jS,h,hb]
theorem sG {s:ByteArray} {b:Bool} (hb:b=false) (h:¬wg s):b=jS s:=by simp[jS,h,hb]
theorem xf (w:World) (n:Int):Calls Tryz.prog 285 #[.int .u8 n] w fun e w'=>e=.returned (.bool (lh n))/\w=w':=by
 go_enter Tryz.func285,Tryz.ntmps285
 go_wp2_with fail
 all_goals
  go_ret
  exact⟨iN (by unfold lh;simp[*];try omega),rfl⟩
theorem Gy (w:World) (n:Int):Calls Tryz.prog 286 #[.int .u8 n] w fun e w'=>e=.returned (.bool (lI n))/\w=w':=by
 go_enter Tryz.func286,Tryz.ntmps286
 go_wp2_with fail
 all_goals
  go_ret
  exact⟨iN (by unfold lI;simp[*];try omega),rfl⟩
theorem CV (w:World) (s:ByteArray) (hs:s.size<=9223372036854775807):Calls Tryz.prog 237 #[.string s] w fun e w'=>e=.returned (.bool (jS s))/\Below w.heap.size w w':=by
 by_cases h1:1<=s.size
 case neg=>
  go_enter Tryz.func237,Tryz.ntmps237
  go_wp2_with fail
  go_ret
  exact⟨iN (ee fun h=>h1 h.1.1),Below.refl _ _⟩
 by_cases h2:s.size<=12
 case neg=>
  go_enter Tryz.func237,Tryz.ntmps237
  go_wp2_with fail
  go_ret
  exact⟨iN (ee fun h=>h2 h.1.2),Below.refl _ _⟩
 go_enter Tryz.func237,Tryz.ntmps237
 go_wp2_with fail
 refine(xf _ _).mono ?_
 rintro e w' ⟨rfl,rfl⟩
 cases h3:lh s[0].toNat
 ·go_wp2_with fail
  go_ret
  exact⟨iN (ee fun h=>by have:=h.2 0 (by omega);simp only[uS]at this;rw[h3]at this;simp at this),Below.refl _ _⟩
 ·replace h3:=Lib.hid h3
  go_wp2_with fail
  go_loop [3] (fun i=>∃k:Nat,1<=k/\k<=s.size/\i=.int .i64 k/\Hid (∀j (h:j<s.size),j<k->uS j s[j].toNat)) (fun i=>s.size-(intOf i).toNat)
  case atStart=>exact⟨1,by omega,by omega,rfl,Lib.hid fun j h hj=>by
   obtain rfl:j=0:=by omega
   exact .inl h3.out⟩
  case round=>
   obtain⟨k,xY,hk,rfl,dE⟩:=hrel
   by_cases dY:k<s.size
   ·go_wp2_with fail
    refine(xf _ _).mono ?_
    rintro e w' ⟨rfl,rfl⟩
    have lJ:uS k s[k].toNat∨¬uS k s[k].toNat:=Classical.em _
    cases hl:lh s[k].toNat
    ·go_wp2_with fail
     refine(Gy _ _).mono ?_
     rintro e w' ⟨rfl,rfl⟩
     cases hd:lI s[k].toNat
     ·by_cases vJ:(s[k].toNat:Int)=95
      ·have Ue:((s[k].toNat:Int) !=95)=false:=by simp;omega
       replace vJ:=Lib.hid vJ
       replace hl:=Lib.hid hl
       replace hd:=Lib.hid hd
       go_wp2_with fail
       go_round
       case rel=>exact⟨k+1,by omega,by omega,by go_num,Lib.hid fun j h hj=>by
        by_cases y9:j=k
        ·subst y9;exact .inr ⟨by omega,.inr vJ.out⟩
        ·exact dE.out j h (by omega)⟩
       case measure=>simp[intOf];omega
      ·have Ue:((s[k].toNat:Int) !=95)=true:=by simp;omega
       replace vJ:=Lib.hid vJ
       replace hl:=Lib.hid hl
       replace hd:=Lib.hid hd
       go_wp2_with fail
       go_ret
       exact⟨iN (ee fun h=>by
        have:=h.2 k dY;simp only[uS,hl.out,hd.out]at this;exact vJ.out (by simp at this;exact this.2)),Below.refl _ _⟩
     ·replace hl:=Lib.hid hl
      replace hd:=Lib.hid hd
      go_wp2_with fail
      go_round
      case rel=>exact⟨k+1,by omega,by omega,by go_num,Lib.hid fun j h hj=>by
       by_cases y9:j=k
       ·subst y9;exact .inr ⟨by omega,.inl hd.out⟩
       ·exact dE.out j h (by omega)⟩
      case measure=>simp[intOf];omega
    ·replace hl:=Lib.hid hl
     go_wp2_with fail
     go_round
     case rel=>exact⟨k+1,by omega,by omega,by go_num,Lib.hid fun j h hj=>by
      by_cases y9:j=k
      ·subst y9;exact .inl hl.out
      ·exact dE.out j h (by omega)⟩
     case measure=>simp[intOf];omega
   ·go_wp2_with fail
    go_ret
    exact⟨iN (Ev ⟨⟨h1,h2⟩,fun i h=>dE.out i h (by omega)⟩),Below.refl _ _⟩
theorem Cj (w:World) (s:ByteArray) (hs:s.size<=9223372036854775807):Calls Tryz.prog 254 #[.string s] w fun e w'=>e=.returned (.bool (jS s))/\w=w':=by
 go_enter Tryz.func254,Tryz.ntmps254
 go_wp2_with fail
 go_loop [8] (fun i=>∃k:Nat,k<=s.size/\i=.int .i64 k/\Hid (∀j (h:j<s.size),j<k->uS j s[j].toNat)) (fun i=>s.size-(intOf i).toNat)
 case atStart=>exact⟨0,by omega,rfl,Lib.hid fun j h hj=>by omega⟩
 case round=>
  obtain⟨k,hk,rfl,dE⟩:=hrel
  by_cases dY:k<s.size
  ·have hc:(s[k].toNat:Int)<48∨(48<=(s[k].toNat:Int)/\(s[k].toNat:Int)<=57)∨(58<=(s[k].toNat:Int)/\(s[k].toNat:Int)<=64)∨(65<=(s[k].toNat:Int)/\(s[k].toNat:Int)<=90)∨(91<=(s[k].toNat:Int)/\(s[k].toNat:Int)<=94)∨(95<=(s[k].toNat:Int)/\(s[k].toNat:Int)<=95)∨(96<=(s[k].toNat:Int)/\(s[k].toNat:Int)<=96)∨(97<=(s[k].toNat:Int)/\(s[k].toNat:Int)<=122)∨123<=(s[k].toNat:Int):=by omega
   by_cases xX:k=0
   ·subst xX
    rcases hc with h|⟨h,h'⟩|⟨h,h'⟩|⟨h,h'⟩|⟨h,h'⟩|⟨h,h'⟩|⟨h,h'⟩|⟨h,h'⟩|h
    ·have vJ:((s[0].toNat:Int) !=95)=true:=by simp;try omega
     go_wp2_with fail
     all_goals first
      |(go_ret;exact⟨iN (ee fun hh=>by have:=hh.2 0 dY;simp[uS,lh,lI]at this;omega),rfl⟩)
      |(exfalso;simp_all;done)
      |(exfalso;simp_all;omega)
    ·have vJ:((s[0].toNat:Int) !=95)=true:=by simp;try omega
     go_wp2_with fail
     all_goals first
      |(go_ret;exact⟨iN (ee fun hh=>by have:=hh.2 0 dY;simp[uS,lh,lI]at this;omega),rfl⟩)
      |(exfalso;simp_all;done)
      |(exfalso;simp_all;omega)
    ·have vJ:((s[0].toNat:Int) !=95)=true:=by simp;try omega
     go_wp2_with fail
     all_goals first
      |(go_ret;exact⟨iN (ee fun hh=>by have:=hh.2 0 dY;simp[uS,lh,lI]at this;omega),rfl⟩)
      |(exfalso;simp_all;done)
      |(exfalso;simp_all;omega)
    ·have vJ:((s[0].toNat:Int) !=95)=true:=by simp;try omega
     go_wp2_with fail
     go_round
     case rel=>exact⟨0+1,by omega,by go_num,Lib.hid fun j hj y9=>by
      by_cases Ji:j=0
      ·subst Ji;simp[uS,lh,lI];omega
      ·exact dE.out j hj (by omega)⟩
     case measure=>simp[intOf];try omega
    ·have vJ:((s[0].toNat:Int) !=95)=true:=by simp;try omega
     go_wp2_with fail
     all_goals first
      |(go_ret;exact⟨iN (ee fun hh=>by have:=hh.2 0 dY;simp[uS,lh,lI]at this;omega),rfl⟩)
      |(exfalso;simp_all;done)
      |(exfalso;simp_all;omega)
    ·have vJ:((s[0].toNat:Int) !=95)=false:=by simp;try omega
     go_wp2_with fail
     all_goals first
      |(go_ret;exact⟨iN (ee fun hh=>by have:=hh.2 0 dY;simp[uS,lh,lI]at this;omega),rfl⟩)
      |(exfalso;simp_all;done)
      |(exfalso;simp_all;omega)
    ·have vJ:((s[0].toNat:Int) !=95)=true:=by simp;try omega
     go_wp2_with fail
     all_goals first
      |(go_ret;exact⟨iN (ee fun hh=>by have:=hh.2 0 dY;simp[uS,lh,lI]at this;omega),rfl⟩)
      |(exfalso;simp_all;done)
      |(exfalso;simp_all;omega)
    ·have vJ:((s[0].toNat:Int) !=95)=true:=by simp;try omega
     go_wp2_with fail
     go_round
     case rel=>exact⟨0+1,by omega,by go_num,Lib.hid fun j hj y9=>by
      by_cases Ji:j=0
      ·subst Ji;simp[uS,lh,lI];omega
      ·exact dE.out j hj (by omega)⟩
     case measure=>simp[intOf];try omega
    ·have vJ:((s[0].toNat:Int) !=95)=true:=by simp;try omega
     go_wp2_with fail
     all_goals first
      |(go_ret;exact⟨iN (ee fun hh=>by have:=hh.2 0 dY;simp[uS,lh,lI]at this;omega),rfl⟩)
      |(exfalso;simp_all;done)
      |(exfalso;simp_all;omega)
   ·have hz:((k:Int)==0)=false:=by simpa using xX
    have xY:1<=k:=by omega
    clear xX
    rcases hc with h|⟨h,h'⟩|⟨h,h'⟩|⟨h,h'⟩|⟨h,h'⟩|⟨h,h'⟩|⟨h,h'⟩|⟨h,h'⟩|h
    ·have vJ:((s[k].toNat:Int) !=95)=true:=by simp;try omega
     go_wp2_with fail
     all_goals first
      |(go_ret;exact⟨iN (ee fun hh=>by have:=hh.2 k dY;simp[uS,lh,lI]at this;omega),rfl⟩)
      |(exfalso;simp_all;done)
      |(exfalso;simp_all;omega)
    ·have vJ:((s[k].toNat:Int) !=95)=true:=by simp;try omega
     go_wp2_with fail
     go_round
     case rel=>exact⟨k+1,by omega,by go_num,Lib.hid fun j hj y9=>by
      by_cases Ji:j=k
      ·subst Ji;simp[uS,lh,lI];omega
      ·exact dE.out j hj (by omega)⟩
     case measure=>simp[intOf];try omega
    ·have vJ:((s[k].toNat:Int) !=95)=true:=by simp;try omega
     go_wp2_with fail
     all_goals first
      |(go_ret;exact⟨iN (ee fun hh=>by have:=hh.2 k dY;simp[uS,lh,lI]at this;omega),rfl⟩)
      |(exfalso;simp_all;done)
      |(exfalso;simp_all;omega)
    ·have vJ:((s[k].toNat:Int) !=95)=true:=by simp;try omega
     go_wp2_with fail
     go_round
     case rel=>exact⟨k+1,by omega,by go_num,Lib.hid fun j hj y9=>by
      by_cases Ji:j=k
      ·subst Ji;simp[uS,lh,lI];omega
      ·exact dE.out j hj (by omega)⟩
     case measure=>simp[intOf];try omega
    ·have vJ:((s[k].toNat:Int) !=95)=true:=by simp;try omega
     go_wp2_with fail
     all_goals first
      |(go_ret;exact⟨iN (ee fun hh=>by have:=hh.2 k dY;simp[uS,lh,lI]at this;omega),rfl⟩)
      |(exfalso;simp_all;done)
      |(exfalso;simp_all;omega)
    ·have vJ:((s[k].toNat:Int) !=95)=false:=by simp;try omega
     go_wp2_with fail
     go_round
     case rel=>exact⟨k+1,by omega,by go_num,Lib.hid fun j hj y9=>by
      by_cases Ji:j=k
      ·subst Ji;simp[uS,lh,lI];omega
      ·exact dE.out j hj (by omega)⟩
     case measure=>simp[intOf];try omega
    ·have vJ:((s[k].toNat:Int) !=95)=true:=by simp;try omega
     go_wp2_with fail
     all_goals first
      |(go_ret;exact⟨iN (ee fun hh=>by have:=hh.2 k dY;simp[uS,lh,lI]at this;omega),rfl⟩)
      |(exfalso;simp_all;done)
      |(exfalso;simp_all;omega)
    ·have vJ:((s[k].toNat:Int) !=95)=true:=by simp;try omega
     go_wp2_with fail
     go_round
     case rel=>exact⟨k+1,by omega,by go_num,Lib.hid fun j hj y9=>by
      by_cases Ji:j=k
      ·subst Ji;simp[uS,lh,lI];omega
      ·exact dE.out j hj (by omega)⟩
     case measure=>simp[intOf];try omega
    ·have vJ:((s[k].toNat:Int) !=95)=true:=by simp;try omega
     go_wp2_with fail
     all_goals first
      |(go_ret;exact⟨iN (ee fun hh=>by have:=hh.2 k dY;simp[uS,lh,lI]at this;omega),rfl⟩)
      |(exfalso;simp_all;done)
      |(exfalso;simp_all;omega)
  ·by_cases h1:1<=s.size
   ·by_cases h2:s.size<=12
    ·go_wp2_with fail
     go_ret
     exact⟨iN (CF (by simp<;>omega) ⟨⟨h1,h2⟩,fun i h=>dE.out i h (by omega)⟩),rfl⟩
    ·go_wp2_with fail
     go_ret
     exact⟨iN (sG (by simp<;>omega) fun h=>h2 h.1.2),rfl⟩
   ·go_wp2_with fail
    go_ret
    exact⟨iN (sG (by simp<;>omega) fun h=>h1 h.1.1),rfl⟩
end Go.Proofs.YtgoljkjaameagaaGreat

namespace Go.Proofs.YtgoljkjaameagaaGreat.V
open Go.RowKit
theorem mixed:Tryz.prog.follows .mixedOrders=true:=by kernel_rfl
variable {P:Program} {w:World} {D:Nat->Prop} {ι:Names}
theorem ml {f:Nat} {args:List AV} {r:AV} {vs0:Array Value} {u0:Value} (oe:∀(w:World) (D:Nat->Prop) (ι:Names) vs,fu P w D ι args vs->vs=vs0) (hr:∀(w:World) (D:Nat->Prop) (ι:Names),cL P w D ι r u0) (Df:∀g,gE g 6 r=some r)
  (h:∀w,Calls P f vs0 w fun e w'=>e=.returned u0/\Below w.heap.size w w'):aj P f args r:=by
 intro n
 refine gS fun hs D ι w vs S U A=>?_
 have:=oe w D ι vs A
 subst this
 refine(h w).mono ?_
 rintro e w' ⟨rfl,hb⟩
 exact⟨r,_,n,D,ι,u0,rfl,⟨r,Df _,rfl⟩,Step.stay S hb.block hb.size hb.os hb.tape hb.output (fun _ h=>h) (fun _ h=>.inl h) (fun _ _ h=>h),
  S.stay hb.block hb.size (fun _ h=>h) (fun b hd=>Nat.lt_of_lt_of_le (S.dead b hd) hb.size) (fun _ h=>.inl h) (fun _ _ h=>h),U,Nat.le_refl _,hr _ _ _⟩
theorem CR {s:ByteArray} {vs:Array Value} (h:fu P w D ι [.str s] vs):vs= #[.string s]:=by
 obtain⟨h1,h2⟩:=h
 obtain⟨u,hu,hr⟩:=h2 0 _ rfl
 rw[fH hr]at hu
 obtain⟨l⟩:=vs
 cases l with
 |nil=>simp at h1
 |cons a l=>cases l with
  |nil=>simp at hu;subst hu;rfl
  |cons b l=>simp at h1
theorem F5 (s:ByteArray) (hs:s.size<=9223372036854775807):aj Tryz.prog 237 [.str s] (.bool (jS s)):=
 ml (fun _ _ _ _=>CR) (fun _ _ _=>.eP _ _ (.bool _)) (fun g=>fo g 5 _) fun w=>CV w s hs
theorem FT (s:ByteArray) (hs:s.size<=9223372036854775807):aj Tryz.prog 254 [.str s] (.bool (jS s)):=
 ml (fun _ _ _ _=>CR) (fun _ _ _=>.eP _ _ (.bool _)) (fun g=>fo g 5 _) fun w=>(Cj w s hs).mono (by rintro e w' ⟨rfl,rfl⟩;exact⟨rfl,Below.refl _ _⟩)
end Go.Proofs.YtgoljkjaameagaaGreat.V

namespace Go.Proofs.YtgoljkjaameagaaGreat
open Go.RowKit
def uV (n:Nat):List UInt8:=if h:n=0 then[]else uV (n / 10)++[UInt8.ofNat (48+n % 10)]
termination_by n
decreasing_by omega
def pw (k:Int):ByteArray:=if k<=0 then⟨#[109,48]⟩else⟨(109::uV k.toNat).toArray⟩
theorem Gz:uV 0=[]:=by unfold uV;simp
theorem IE {n:Nat} (h:n≠0):uV n=uV (n / 10)++[UInt8.ofNat (48+n % 10)]:=by
 conv=>lhs;unfold uV
 rw[dif_neg h]
theorem yV (c:UInt8) (l:ByteArray):((⟨#[c]⟩++l:ByteArray)).data.toList=c::l.data.toList:=by
 simp[ByteArray.data_append]
theorem BQ:∀(m n:Nat),n<10 ^ m->(uV n).length<=m
 |0,n,h=>by
  have:n=0:=by simpa using h
  subst this;simp[uV]
 |m+1,n,h=>by
  unfold uV
  split
  ·simp
  ·have:=BQ m (n / 10) (by rw[Nat.pow_succ]at h;omega)
   simp;omega
theorem AA (w:World) (k:Int) (h0:0<=k) (h1:k<=4611686018427387904):
  Calls Tryz.prog 213 #[.int .i64 k] w fun e w'=>e=.returned (.string (pw k))/\Below w.heap.size w w':=by
 by_cases hk:k<=0
 ·go_enter Tryz.func213,Tryz.ntmps213
  go_wp2_with fail
  go_ret
  exact⟨by simp[pw,hk],Below.refl _ _⟩
 ·go_enter Tryz.func213,Tryz.ntmps213
  go_wp2_with fail
  go_loopw [0,3] (fun a s wr=>∃(j:Int) (l:ByteArray),a=.int .i64 j/\s=.string l/\0<=j/\j<=4611686018427387904/\Hid (uV j.toNat++l.data.toList=uV k.toNat)/\Below w.heap.size w wr) (fun a _ _=>(intOf a).toNat)
  case atStart=>exact⟨k,⟨#[]⟩,rfl,rfl,h0,h1,Lib.hid (by simp),Below.refl _ _⟩
  case round=>
   obtain⟨j,l,rfl,rfl,hj0,hj1,hd,hb⟩:=hrel
   have fX:l.size<=19:=by
    have h1:=congrArg List.length hd.out
    have h2:=BQ 19 k.toNat (by omega)
    rw[List.length_append]at h1
    have:l.data.toList.length=l.size:=by rw[Array.length_toList];rfl
    omega
   by_cases hj:0<j
   ·have S8:∀v:Int,(convert 336 9 (.slice (some ⟨wr.heap.size,0,none⟩) 1 1)).run Tryz.prog (wr.alloc (.cells #[.int .u8 v] 5))=.ok (.string ⟨#[UInt8.ofNat v.toNat]⟩) (wr.alloc (.cells #[.int .u8 v] 5)):=by
     intro v
     rw[run_convert_bytes_string _ _ _ 5 _ _ _ Tryz.underlying336 Tryz.underlying5 Tryz.underlying9,run_bytesToString _ _ _ _ [v] (by simp[loadCells,loadCellsFrom,go_sem])]
     rfl
    have hr:=fX
    go_wp2_with fail
    go_roundw
    case rel=>
     refine⟨_,_,rfl,rfl,by omega,by omega,Lib.hid ?_,hb.alloc hb.size _⟩
     rw[<-hd.out,yV,IE (show j.toNat≠0 by omega),show(j / 10).toNat=j.toNat / 10 by omega,show(48+j % 10).toNat=48+j.toNat % 10 by omega]
     simp
    case measure=>simp[intOf];omega
   ·go_wp2_with fail
    go_ret
    refine⟨?_,hb⟩
    have h1:=hd.out
    rw[show j.toNat=0 by omega,Gz,List.nil_append]at h1
    have h2:(⟨#[109]⟩++l:ByteArray)=pw k:=by
     rw[pw,if_neg (by omega)]
     refine ByteArray.ext (Array.ext' ?_)
     rw[yV,h1]
    rw[h2];rfl
end Go.Proofs.YtgoljkjaameagaaGreat

namespace Go.Proofs.YtgoljkjaameagaaGreat.V
open Go.RowKit
attribute [local irreducible] dL wpOps gC Call
attribute [local go_sem] aO fM eS ga fZ cU upd cD K.av cR AV.cells AV.cell rowOf rowsOf part ld rowAt bt cw dG ei iu bK dm eB fY e6 dt ep di dh dV dW bU bd cZ bQ db da ek er eo cY ck dj ej bP aQ dd cJ iq br cN bV aZ dr bc dH AV.undef bF bJ dX eh dR dO cK eA eC cI ev eu dc de List.getD_cons_zero List.getD_cons_succ List.getD_nil List.all_cons List.all_nil Bool.and_true Bool.true_and Bool.and_self Bool.not_true Bool.not_false Option.map_some Option.map_none Option.bind_some Option.bind_none List.length_cons List.length_nil List.take_succ_cons List.take_zero List.take_nil List.drop_succ_cons List.drop_zero List.drop_nil List.head?_cons List.map_cons List.map_nil List.getElem?_cons_zero List.getElem?_cons_succ List.cons_append List.nil_append List.append_nil List.length_map List.set_cons_zero List.set_cons_succ Nat.reduceMul eq_self Int.toNat_natCast Int.natCast_nonneg and_self true_and and_true decide_true decide_false Bool.false_eq_true Nat.zero_add Nat.add_zero List.contains_cons List.contains_nil Bool.or_false Bool.false_or beq_self_eq_true Nat.reduceBEq ne_eq not_true_eq_false not_false_eq_true Id.mk.injEq false_and and_false Nat.reduceLT Int.reduceLE Int.reduceLT Int.reduceToNat Int.reduceNeg Int.reduceAdd Nat.le_refl List.length_append beq_true beq_false Bool.not_eq_eq_eq_not or_false false_or dP ai aq aI bh bE cz aY bl aV bf cW bH
def qw (σ:ar) (ids:List Id) (g:Rows) (n:Nat):Prop:=σ.next<=n/\∀x:Id,x.bW<σ.next->x∉ids->g x=σ.get x
theorem qw.trans {a b:ar} {i j:List Id} {g:Rows} {n:Nat} (h:qw a i b.get b.next) (k:qw b j g n):qw a (i++j) g n:=
 ⟨Nat.le_trans h.1 k.1,fun x hx hi=>(k.2 x (Nat.lt_of_lt_of_le hx h.1) fun hc=>hi (by simp[hc])).trans (h.2 x hx fun hc=>hi (by simp[hc]))⟩
theorem qw.sub {a:ar} {i j:List Id} {g:Rows} {n:Nat} (h:qw a i g n) (hs:∀x∈i,x∈j):qw a j g n:=⟨h.1,fun x hx hj=>h.2 x hx fun hi=>hj (hs x hi)⟩
theorem sP (l:List (List AV)) (i:Nat) (a b:List AV):(l.set i a).set i b=l.set i b:=List.set_set ..
theorem IF {l:List Int} {j:Nat} (h:j<l.length):(l.map bq)[j]? =some [.int .i64 l[j]]:=by simp[h,bq]
theorem MG {P:Program} {w:World} {D:Nat->Prop} {ι:Names} {k:Int} {vs:Array Value} (h:fu P w D ι [.int .i64 k] vs):vs= #[.int .i64 k]:=by
 obtain⟨h1,h2⟩:=h
 obtain⟨u,hu,hr⟩:=h2 0 _ rfl
 rw[du hr]at hu
 obtain⟨l⟩:=vs
 cases l with
 |nil=>simp at h1
 |cons a l=>cases l with
  |nil=>simp at hu;subst hu;rfl
  |cons b l=>simp at h1
theorem xg (k:Int) (h0:0<=k) (h1:k<=4611686018427387904):aj Tryz.prog 213 [.int .i64 k] (.str (pw k)):=
 ml (vs0:= #[.int .i64 k]) (u0:=.string (pw k)) (fun _ _ _ _=>MG) (fun w D ι=>.eP _ _ (.str _)) (fun g=>LI g 5 _) fun w=>AA w k h0 h1
theorem Er (i:Id) (l:List Int) (k:Int) (h0:0<=k) (h1:k+l.length<=4611686018427387904) (σ:ar) (hv:i.bW<σ.next) (hg:σ.get i=some ⟨true,1,l.map bq⟩):
  Call Tryz.prog 24 [.own i 0 l.length,.int .i64 k] σ (fun r σ'=>r=.int .i64 (k+l.length)/\qw σ [i] σ'.get σ'.next):=by
 refine eW eI rfl fun hl=>?_
 clear hl
 obtain⟨nn,hn⟩:∃nn,l.length=nn:=⟨_,rfl⟩
 rw[hn]at h1 ⊢
 (try((repeat(revert hN;revert N;apply Pn.out));refine wk @Nat.zero_add ?_;(repeat(refine Pn.mk ?_;intro N hN))))
 refine aW (fun n env st=>∃j:Nat,n=(nn)-j/\j<=(nn)/\env 5=.int .i64 (j:Int)/\env 1=.int .i64 (k+j)/\(qw σ [i] st.get st.next/\∃l':List Int,l'.length=nn/\st.get i=some ⟨true,1,l'.map bq⟩)) (nn) ⟨0,by omega,by omega,sl (tw @Int.add_zero @Int.natCast_zero),sl (tw @Int.add_zero @Int.natCast_zero),by(try dsimp only);exact⟨⟨by(try dsimp only);omega,fun x _ _=>rfl⟩,l,hn,hg⟩⟩ ?_
 rintro n_a env_a st_a ⟨j,rfl,ale,a5,a1,me⟩ dJ
 have a0:=dJ 0 (by kernel_rfl)
 simp only[go_sem, ↓reduceIte,Nat.reduceEqDiff,Nat.reduceAdd,Nat.reduceSub,Nat.reduceLeDiff,reduceCtorEq,Int.add_zero,Int.natCast_zero]at a0
 clear dJ
 obtain⟨⟨an,aF⟩,l',al,ag⟩:=me
 by_cases hj:(j:Int)<(nn:Int)
 ·have cG:∀{e:Env} {gg:Rows} {nx:Nat},(e 5=.int .i64 (IntKind.i64.wrap ((j:Int)+1)))->(e 1=.int .i64 (k+(j+1)))->(qw σ [i] gg nx/\∃l':List Int,l'.length=nn/\gg i=some ⟨true,1,l'.map bq⟩)->∃m0,m0<(nn)-j/\∃j:Nat,m0=(nn)-j/\j<=(nn)/\e 5=.int .i64 (j:Int)/\e 1=.int .i64 (k+j)/\(qw σ [i] gg nx/\∃l':List Int,l'.length=nn/\gg i=some ⟨true,1,l'.map bq⟩):=fun x1 x2 x3=>⟨_,by omega,j+1,rfl,by omega,(by rw[x1,aB (by omega)]),x2,x3⟩
  have iW:j<l'.length:=by omega
  have fq:=IF iW
  have eF:(l'.map bq).set j [.int .i64 (k+j)]=(l'.set j (k+j)).map bq:=by rw[List.map_set];rfl
  have hw:IntKind.i64.wrap (k+(j:Int)+1)=k+((j:Int)+1):=by rw[bz (by omega)];omega
  (try((repeat(revert hN;revert N;apply Pn.out));refine wk (tw @a5 (tw @a1 (tw @a0 (tw @hj (tw @ag (tw @fq (tw @eF @hw))))))) ?_;(repeat(refine Pn.mk ?_;intro N hN))))
  refine cG ?_ ?_ (by(try dsimp only);exact⟨⟨by(try dsimp only);omega,fun x hx hi=>by
   have h2:=aF x hx hi
   have h3:(x=i)=False:=eq_false fun e=>hi (by simp[e])
   simp only[go_sem, ↓reduceIte,Nat.reduceEqDiff,Nat.reduceAdd,Nat.reduceSub,Nat.reduceLeDiff,reduceCtorEq,h2,h3]⟩,l'.set j (k+j),by simp[al],sl @Nat.zero_add⟩)
  all_goals simp only[go_sem, ↓reduceIte,Nat.reduceEqDiff,Nat.reduceAdd,Nat.reduceSub,Nat.reduceLeDiff,reduceCtorEq,a5,a1,a0,hw]
 ·have iW:j=nn:=by omega
  subst iW
  (try((repeat(revert hN;revert N;apply Pn.out));refine wk (tw @a5 (tw @a1 (tw @a0 @hj))) ?_;(repeat(refine Pn.mk ?_;intro N hN))))
  exact ft (.inl rfl) (vs:=[.int .i64 (k+j)]) (sd (tw @a5 (tw @a1 @a0))) ⟨rfl,⟨by(try dsimp only);omega,fun x hx hi=>aF x hx hi⟩⟩
def CC (k:Int) (n:Nat):List ad:=(List.range n).map fun j:Nat=>⟨⟨k+3*(j:Int),k+3*(j:Int)+1⟩,k+3*(j:Int)+2⟩
theorem iJ (k:Int) (n:Nat):(CC k n).length=n:=by simp[CC]
theorem JT (k:Int) (n:Nat):CC k (n+1)=CC k n++[⟨⟨k+3*(n:Int),k+3*(n:Int)+1⟩,k+3*(n:Int)+2⟩]:=by simp[CC,List.range_succ]
def jJ (k:Int) (l:List ad) (j:Nat):List ad:=CC k j++l.drop j
theorem CD {k:Int} {l:List ad} {j:Nat} (h:j<=l.length):(jJ k l j).length=l.length:=by simp[jJ,iJ];omega
theorem FZ {k:Int} {l:List ad} {j:Nat} (h:j<l.length):((jJ k l j).map aa)[j]? =some [.int .i64 l[j].aP.fb,.int .i64 l[j].aP.eV,.int .i64 l[j].aT]:=by
 rw[List.getElem?_map,jJ,List.getElem?_append_right (by rw[iJ];omega),iJ,Nat.sub_self,List.getElem?_drop,Nat.add_zero,List.getElem?_eq_getElem h];rfl
theorem CE {k:Int} {l:List ad} {j:Nat} (h:j<l.length):((jJ k l j).map aa).set j [.int .i64 (k+3*(j:Int)),.int .i64 (k+3*(j:Int)+1),.int .i64 (k+3*(j:Int)+2)]=(jJ k l (j+1)).map aa:=by
 have:(jJ k l j).set j ⟨⟨k+3*(j:Int),k+3*(j:Int)+1⟩,k+3*(j:Int)+2⟩=jJ k l (j+1):=by
  rw[jJ,List.set_append_right _ _ (by rw[iJ];omega),iJ,Nat.sub_self,List.drop_eq_getElem_cons h,List.set_cons_zero,jJ,JT,List.append_assoc];rfl
 rw[<-this,List.map_set];rfl
theorem Az (i:Id) (l:List ad) (k:Int) (h0:0<=k) (h1:k+3*l.length<=4611686018427387904) (σ:ar) (hv:i.bW<σ.next) (hg:σ.get i=some ⟨true,3,l.map aa⟩):
  Call Tryz.prog 59 [.own i 0 l.length,.int .i64 k] σ (fun r σ'=>r=.int .i64 (k+3*l.length)/\qw σ [i] σ'.get σ'.next/\σ'.get i=some ⟨true,3,(CC k l.length).map aa⟩):=by
 refine eW eI rfl fun hl=>?_
 clear hl
 have hz:jJ k l 0=l:=by simp[jJ,CC]
 (try((repeat(revert hN;revert N;apply Pn.out));refine wk @Nat.zero_add ?_;(repeat(refine Pn.mk ?_;intro N hN))))
 refine aW (fun n env st=>∃j:Nat,n=(l.length)-j/\j<=(l.length)/\env 5=.int .i64 (j:Int)/\env 1=.int .i64 (k+3*j)/\st.get i=some ⟨true,3,(jJ k l j).map aa⟩/\(qw σ [i] st.get st.next)) (l.length) ⟨0,by omega,by omega,sl (tw @Int.add_zero (tw @Int.natCast_zero (tw @Int.mul_zero (tw @hz @hg)))),sl (tw @Int.add_zero (tw @Int.natCast_zero (tw @Int.mul_zero (tw @hz @hg)))),sl (tw @Int.add_zero (tw @Int.natCast_zero (tw @Int.mul_zero (tw @hz @hg)))),by(try dsimp only);exact⟨by(try dsimp only);omega,fun x _ _=>rfl⟩⟩ ?_
 rintro n_a env_a st_a ⟨j,rfl,ale,a5,a1,ag0,me⟩ dJ
 have a0:=dJ 0 (by kernel_rfl)
 simp only[go_sem, ↓reduceIte,Nat.reduceEqDiff,Nat.reduceAdd,Nat.reduceSub,Nat.reduceLeDiff,reduceCtorEq,Int.add_zero,Int.natCast_zero,Int.mul_zero,hz,hg]at a0
 clear dJ
 obtain⟨an,aF⟩:=me
 by_cases hj:(j:Int)<(l.length:Int)
 ·have cG:∀{e:Env} {gg:Rows} {nx:Nat},(e 5=.int .i64 (IntKind.i64.wrap ((j:Int)+1)))->(e 1=.int .i64 (k+3*(j+1)))->(gg i=some ⟨true,3,(jJ k l (j+1)).map aa⟩)->(qw σ [i] gg nx)->∃m0,m0<(l.length)-j/\∃j:Nat,m0=(l.length)-j/\j<=(l.length)/\e 5=.int .i64 (j:Int)/\e 1=.int .i64 (k+3*j)/\gg i=some ⟨true,3,(jJ k l j).map aa⟩/\(qw σ [i] gg nx):=fun x1 x2 x3 x4=>⟨_,by omega,j+1,rfl,by omega,(by rw[x1,aB (by omega)]),x2,x3,x4⟩
  have iW:j<l.length:=by omega
  have fq:=FZ (k:=k) iW
  have eF:=CE (k:=k) iW
  have oL:IntKind.i64.wrap (k+3*(j:Int)+1)=k+3*(j:Int)+1:=bz (by omega)
  have qu:IntKind.i64.wrap (k+3*(j:Int)+1+1)=k+3*(j:Int)+2:=by rw[bz (by omega)];omega
  have Jz:IntKind.i64.wrap (k+3*(j:Int)+2+1)=k+3*((j:Int)+1):=by rw[bz (by omega)];omega
  have hlen:((jJ k l j).map aa).length=l.length:=by rw[List.length_map,CD (by omega)]
  have Jg:∀c:List AV,(((jJ k l j).map aa).set j c)[j]? =some c:=fun c=>by rw[List.getElem?_set_self (by rw[hlen];exact iW)]
  (try((repeat(revert hN;revert N;apply Pn.out));refine wk (tw @a5 (tw @a1 (tw @ag0 (tw @a0 (tw @hj (tw @fq (tw @Jg (tw @eF (tw @oL (tw @qu (tw @Jz (tw @hlen @sP)))))))))))) ?_;(repeat(refine Pn.mk ?_;intro N hN))))
  refine cG ?_ ?_ ?_ (by(try dsimp only);exact⟨by(try dsimp only);omega,fun x hx hi=>by
   have h2:=aF x hx hi
   have h3:(x=i)=False:=eq_false fun e=>hi (by simp[e])
   simp only[go_sem, ↓reduceIte,Nat.reduceEqDiff,Nat.reduceAdd,Nat.reduceSub,Nat.reduceLeDiff,reduceCtorEq,h2,h3]⟩)
  all_goals simp only[go_sem, ↓reduceIte,Nat.reduceEqDiff,Nat.reduceAdd,Nat.reduceSub,Nat.reduceLeDiff,reduceCtorEq,a5,a1,ag0,a0,Jz,eF]
 ·have iW:j=l.length:=by omega
  subst iW
  (try((repeat(revert hN;revert N;apply Pn.out));refine wk (tw @a5 (tw @a1 (tw @ag0 (tw @a0 @hj)))) ?_;(repeat(refine Pn.mk ?_;intro N hN))))
  have lH:jJ k l l.length=CC k l.length:=by simp[jJ]
  rw[lH]at ag0
  exact ft (.inl rfl) (vs:=[.int .i64 (k+3*l.length)]) (sd (tw @a5 (tw @a1 (tw @ag0 @a0)))) ⟨rfl,⟨by(try dsimp only);omega,fun x hx hi=>aF x hx hi⟩,ag0⟩
theorem Cx (i:Id) (l:List fF) (k:Int) (h0:0<=k) (h1:k+2*l.length<=4611686018427387904) (σ:ar) (hv:i.bW<σ.next) (hg:σ.get i=some ⟨true,2,l.map cj⟩):
  Call Tryz.prog 138 [.own i 0 l.length,.int .i64 k] σ (fun r σ'=>r=.int .i64 (k+2*l.length)/\qw σ [i] σ'.get σ'.next):=by
 refine eW eI rfl fun hl=>?_
 clear hl
 obtain⟨nn,hn⟩:∃nn,l.length=nn:=⟨_,rfl⟩
 rw[hn]at h1 ⊢
 (try((repeat(revert hN;revert N;apply Pn.out));refine wk @Nat.zero_add ?_;(repeat(refine Pn.mk ?_;intro N hN))))
 refine aW (fun n env st=>∃j:Nat,n=(nn)-j/\j<=(nn)/\env 5=.int .i64 (j:Int)/\env 1=.int .i64 (k+2*j)/\(qw σ [i] st.get st.next/\∃l':List fF,l'.length=nn/\st.get i=some ⟨true,2,l'.map cj⟩)) (nn) ⟨0,by omega,by omega,sl (tw @Int.add_zero (tw @Int.natCast_zero @Int.mul_zero)),sl (tw @Int.add_zero (tw @Int.natCast_zero @Int.mul_zero)),by(try dsimp only);exact⟨⟨by(try dsimp only);omega,fun x _ _=>rfl⟩,l,hn,hg⟩⟩ ?_
 rintro n_a env_a st_a ⟨j,rfl,ale,a5,a1,me⟩ dJ
 have a0:=dJ 0 (by kernel_rfl)
 simp only[go_sem, ↓reduceIte,Nat.reduceEqDiff,Nat.reduceAdd,Nat.reduceSub,Nat.reduceLeDiff,reduceCtorEq,Int.add_zero,Int.natCast_zero,Int.mul_zero]at a0
 clear dJ
 obtain⟨⟨an,aF⟩,l',al,ag⟩:=me
 by_cases hj:(j:Int)<(nn:Int)
 ·have cG:∀{e:Env} {gg:Rows} {nx:Nat},(e 5=.int .i64 (IntKind.i64.wrap ((j:Int)+1)))->(e 1=.int .i64 (k+2*(j+1)))->(qw σ [i] gg nx/\∃l':List fF,l'.length=nn/\gg i=some ⟨true,2,l'.map cj⟩)->∃m0,m0<(nn)-j/\∃j:Nat,m0=(nn)-j/\j<=(nn)/\e 5=.int .i64 (j:Int)/\e 1=.int .i64 (k+2*j)/\(qw σ [i] gg nx/\∃l':List fF,l'.length=nn/\gg i=some ⟨true,2,l'.map cj⟩):=fun x1 x2 x3=>⟨_,by omega,j+1,rfl,by omega,(by rw[x1,aB (by omega)]),x2,x3⟩
  have iW:j<l'.length:=by omega
  have fq:(l'.map cj)[j]? =some [.str l'[j].aE,.int .i64 l'[j].eD]:=by simp[iW,cj]
  have hlen:(l'.map cj).length=nn:=by rw[List.length_map,al]
  have Jg:∀c:List AV,((l'.map cj).set j c)[j]? =some c:=fun c=>by rw[List.getElem?_set_self (by rw[List.length_map];exact iW)]
  have ht:=xg (k+2*(j:Int)) (by omega) (by omega)
  have oL:IntKind.i64.wrap (k+2*(j:Int)+1)=k+2*(j:Int)+1:=bz (by omega)
  have qu:IntKind.i64.wrap (k+2*(j:Int)+1+1)=k+2*((j:Int)+1):=by rw[bz (by omega)];omega
  generalize pw (k+2*(j:Int))=mt at ht
  have eF:(l'.map cj).set j [.str mt,.int .i64 (k+2*(j:Int)+1)]=(l'.set j ⟨mt,k+2*(j:Int)+1⟩).map cj:=by rw[List.map_set];rfl
  (repeat(first|((repeat(revert hN;revert N;apply Pn.out));refine wk (tw @a5 (tw @a1 (tw @a0 (tw @hj (tw @ag (tw @fq (tw @Jg (tw @eF (tw @oL (tw @qu (tw @hlen @sP))))))))))) ?_;(repeat(refine Pn.mk ?_;intro N hN)))|((try apply Or.inl);refine⟨_,aj.x (ht) (sd (tw @a5 (tw @a1 (tw @a0 (tw @hj (tw @ag (tw @fq (tw @Jg (tw @eF (tw @oL (tw @qu (tw @hlen @sP)))))))))))),?_⟩;refine hN _ _ ?_;clear hN N)))
  refine cG ?_ ?_ (by(try dsimp only);exact⟨⟨by(try dsimp only);omega,fun x hx hi=>by
   have h2:=aF x hx hi
   have h3:(x=i)=False:=eq_false fun e=>hi (by simp[e])
   simp only[go_sem, ↓reduceIte,Nat.reduceEqDiff,Nat.reduceAdd,Nat.reduceSub,Nat.reduceLeDiff,reduceCtorEq,h2,h3]⟩,l'.set j ⟨mt,k+2*(j:Int)+1⟩,by simp[al],sl @Nat.zero_add⟩)
  all_goals simp only[go_sem, ↓reduceIte,Nat.reduceEqDiff,Nat.reduceAdd,Nat.reduceSub,Nat.reduceLeDiff,reduceCtorEq,a5,a1,a0,qu,eF]
 ·have iW:j=nn:=by omega
  subst iW
  (try((repeat(revert hN;revert N;apply Pn.out));refine wk (tw @a5 (tw @a1 (tw @a0 @hj))) ?_;(repeat(refine Pn.mk ?_;intro N hN))))
  exact ft (.inl rfl) (vs:=[.int .i64 (k+2*j)]) (sd (tw @a5 (tw @a1 @a0))) ⟨rfl,⟨by(try dsimp only);omega,fun x hx hi=>aF x hx hi⟩⟩
theorem iM.flat {α:Type} {e:α->List AV} {z:Nat} {g:Rows} {a:AV} {xs:List α} {ids:List Id} (h:iM (lO e) z g a xs ids):∃o,a=.own o 0 xs.length/\g o=some ⟨true,z,xs.map e⟩/\ids=[o]:=by
 obtain⟨o,rows,is,h1,h2,h3,rfl⟩:=h
 have:∀{rows:List (List AV)} {xs:List α} {is:List Id},eK (lO e) g rows xs is->rows=xs.map e/\is=[]:=fun h=>by
  induction h with
  |nil=>exact⟨rfl,rfl⟩
  |cons h1 _ ih=>obtain⟨rfl,rfl⟩:=h1;obtain⟨rfl,rfl⟩:=ih;exact⟨rfl,rfl⟩
 obtain⟨rfl,rfl⟩:=this h3
 exact⟨o,h1,h2,rfl⟩
def gL (t:eU):Nat:=1+t.bx.length
theorem Cy (a:AV) (l:List eU) (ids:List Id) (k:Int) (h0:0<=k) (LX:l.length<=1048576) (h1:k+(l.map gL).sum<=4611686018427387904) (σ:ar) (hv:∀i∈ids,i.bW<σ.next) (mM:ids.Nodup) (hg:iM oW 2 σ.get a l ids):
  Call Tryz.prog 139 [a,.int .i64 k] σ (fun r σ'=>r=.int .i64 (k+(l.map gL).sum)/\qw σ ids σ'.get σ'.next):=by
 obtain⟨o,rows,is,rfl,ho,hR,rfl⟩:=hg
 refine eW eI rfl fun hl=>?_
 clear hl
 have vO:=hv o (by simp)
 have Ec:=nh gL l
 (try((repeat(revert hN;revert N;apply Pn.out));refine wk @Nat.zero_add ?_;(repeat(refine Pn.mk ?_;intro N hN))))
 refine aW (fun n env st=>∃j:Nat,n=(l.length)-j/\j<=(l.length)/\env 5=.int .i64 (j:Int)/\env 1=.int .i64 (k+iQ gL l j)/\(qw σ (o::is) st.get st.next/\∃pre rest ir,st.get o=some ⟨true,2,pre++rest⟩/\pre.length=j/\eK oW st.get rest (l.drop j) ir/\(o::ir).Nodup/\∀i∈ir,i∈is)) (l.length) ⟨0,by omega,by omega,sl (tw @Int.add_zero (tw @Int.natCast_zero @Ec)),sl (tw @Int.add_zero (tw @Int.natCast_zero @Ec)),by(try dsimp only);exact⟨⟨by(try dsimp only);omega,fun x _ _=>rfl⟩,[],rows,is,ho,rfl,hR,mM,fun _ h=>h⟩⟩ ?_
 rintro n_a env_a st_a ⟨j,rfl,ale,a5,a1,me⟩ dJ
 have a0:=dJ 0 (by kernel_rfl)
 simp only[go_sem, ↓reduceIte,Nat.reduceEqDiff,Nat.reduceAdd,Nat.reduceSub,Nat.reduceLeDiff,reduceCtorEq,Int.add_zero,Int.natCast_zero,Ec]at a0
 clear dJ
 obtain⟨⟨an,aF⟩,pre,rest,ir,ag,apl,aR,aN,aS⟩:=me
 by_cases hj:(j:Int)<(l.length:Int)
 ·have cG:∀{e:Env} {gg:Rows} {nx:Nat},(e 5=.int .i64 (IntKind.i64.wrap ((j:Int)+1)))->(e 1=.int .i64 (k+iQ gL l (j+1)))->(qw σ (o::is) gg nx/\∃pre rest ir,gg o=some ⟨true,2,pre++rest⟩/\pre.length=(j+1)/\eK oW gg rest (l.drop (j+1)) ir/\(o::ir).Nodup/\∀i∈ir,i∈is)->∃m0,m0<(l.length)-j/\∃j:Nat,m0=(l.length)-j/\j<=(l.length)/\e 5=.int .i64 (j:Int)/\e 1=.int .i64 (k+iQ gL l j)/\(qw σ (o::is) gg nx/\∃pre rest ir,gg o=some ⟨true,2,pre++rest⟩/\pre.length=j/\eK oW gg rest (l.drop j) ir/\(o::ir).Nodup/\∀i∈ir,i∈is):=fun x1 x2 x3=>⟨_,by omega,j+1,rfl,by omega,(by rw[x1,aB (by omega)]),x2,x3⟩
  have iW:j<l.length:=by omega
  have Pa:=xL gL iW
  have hle:=qH gL l (j+1)
  obtain⟨t,htj⟩:∃t,l[j]=t:=⟨_,rfl⟩
  rw[List.drop_eq_getElem_cons iW,htj]at aR
  rw[htj]at Pa
  cases aR with
  | @cons cs _ ic rs _ i2 hT Q8=>
  obtain⟨i,rfl,hi,rfl⟩:=hT
  rw[List.singleton_append]at aN aS
  obtain⟨n1,n2⟩:=List.nodup_cons.1 aN
  obtain⟨n3,n4⟩:=List.nodup_cons.1 n2
  have Qs:(o=i)=False:=eq_false fun e=>n1 (by simp[e])
  have Qo:(i=o)=False:=eq_false fun e=>n1 (by simp[e])
  have hiv:i.bW<σ.next:=hv i (by simp[aS i (by simp)])
  have RB:gL t=1+t.bx.length:=rfl
  have ht:=xg (k+(iQ gL l j:Nat)) (by omega) (by omega)
  have oL:IntKind.i64.wrap (k+(iQ gL l j:Nat)+1)=k+(iQ gL l j:Nat)+1:=bz (by omega)
  generalize pw (k+(iQ gL l j:Nat))=mt at ht
  have fq:(pre++[.str t.aE,.own i 0 t.bx.length]::rs)[j]? =some [.str t.aE,.own i 0 t.bx.length]:=by subst apl;simp
  have eF:(pre++[.str t.aE,.own i 0 t.bx.length]::rs).set j [.str mt,.own i 0 t.bx.length]=pre++[.str mt,.own i 0 t.bx.length]::rs:=by subst apl;simp
  have Nq:(pre++[.str mt,.own i 0 t.bx.length]::rs)[j]? =some [.str mt,.own i 0 t.bx.length]:=by subst apl;simp
  (repeat(first|((repeat(revert hN;revert N;apply Pn.out));refine wk (tw @a5 (tw @a1 (tw @a0 (tw @hj (tw @ag (tw @fq (tw @eF (tw @Nq (tw @oL (tw @Qs (tw @Qo @hi))))))))))) ?_;(repeat(refine Pn.mk ?_;intro N hN)))|((try apply Or.inl);refine⟨_,aj.x (ht) (sd (tw @a5 (tw @a1 (tw @a0 (tw @hj (tw @ag (tw @fq (tw @eF (tw @Nq (tw @oL (tw @Qs (tw @Qo @hi)))))))))))),?_⟩;refine hN _ _ ?_;clear hN N)))
  refine .inr (aJ _ _ _ _ _ (fun r σ1 hq=>?_) (Er i t.bx (k+(iQ gL l j:Nat)+1) (by omega) (by omega) _ (by(try dsimp only);omega) (sd (tw @Qs (tw @Qo @hi)))))
  obtain⟨g1,x1⟩:=σ1
  obtain⟨rfl,Lh,ve⟩:=hq
  (try dsimp only at Lh ve)
  refine hN _ _ ?_
  clear hN N
  have U3:k+(iQ gL l j:Nat)+1+t.bx.length=k+(iQ gL l (j+1):Nat):=by omega
  (try((repeat(revert hN;revert N;apply Pn.out));refine wk (tw @a5 (tw @a1 (tw @a0 @U3))) ?_;(repeat(refine Pn.mk ?_;intro N hN))))
  have gk:∀x:Id,x.bW<σ.next->x≠o->x≠i->g1 x=st_a.get x:=fun x hx h3 h4=>by
   have h2:=ve x (by(try dsimp only);omega) (by simp[h4])
   have h5:=eq_false h3
   simp only[go_sem, ↓reduceIte,Nat.reduceEqDiff,Nat.reduceAdd,Nat.reduceSub,Nat.reduceLeDiff,reduceCtorEq,h5]at h2
   exact h2
  have go:=ve o (by(try dsimp only);omega) (by simp only[List.mem_singleton];exact fun e=>n1 (by simp[e]))
  simp only[go_sem, ↓reduceIte,Nat.reduceEqDiff,Nat.reduceAdd,Nat.reduceSub,Nat.reduceLeDiff,reduceCtorEq]at go
  refine cG ?_ ?_ (by(try dsimp only);exact⟨⟨by(try dsimp only);omega,fun x hx hi=>by
   have h3:x≠o:=fun e=>hi (by simp[e])
   have h4:x≠i:=fun e=>hi (by simp[e,aS i (by simp)])
   rw[gk x hx h3 h4]
   exact aF x hx hi⟩,pre++[[.str mt,.own i 0 t.bx.length]],rs,i2,by rw[go];simp,by simp[apl],Q8.frame rL (fun x hx=>gk x (hv x (by simp[aS x (by simp[hx])])) (fun e=>n1 (by simp[<-e,hx])) (fun e=>n3 (by rw[<-e];exact hx))),List.nodup_cons.2 ⟨fun h=>n1 (by simp[h]),n4⟩,fun x hx=>aS x (by simp[hx])⟩)
  all_goals simp only[go_sem, ↓reduceIte,Nat.reduceEqDiff,Nat.reduceAdd,Nat.reduceSub,Nat.reduceLeDiff,reduceCtorEq,a5,a1,a0,U3]
 ·have iW:j=l.length:=by omega
  subst iW
  have dE:=CZ gL l
  rw[dE]at a1
  (try((repeat(revert hN;revert N;apply Pn.out));refine wk (tw @a5 (tw @a1 (tw @a0 @hj))) ?_;(repeat(refine Pn.mk ?_;intro N hN))))
  exact ft (.inl rfl) (vs:=[.int .i64 (k+(l.map gL).sum)]) (sd (tw @a5 (tw @a1 @a0))) ⟨rfl,⟨by(try dsimp only);omega,fun x hx hi=>aF x hx hi⟩⟩
theorem tN (v:AV) (p:dM) (ids:List Id) (k:Int) (h0:0<=k) (h1:k+3*p.ae.length<=4611686018427387904) (σ:ar) (hv:∀i∈ids,i.bW<σ.next) (hg:xZ σ.get v p ids):
  Call Tryz.prog 25 [v,.int .i64 k] σ (fun r σ'=>r=.int .i64 (k+3*p.ae.length)/\qw σ ids σ'.get σ'.next):=by
 obtain⟨c,rfl,hc⟩:=hg
 obtain⟨o,rfl,ho,rfl⟩:=hc.flat
 refine eW eI rfl fun hl=>?_
 clear hl
 have vO:=dv (hv o (by simp))
 have L3:=hv o (by simp)
 (try((repeat(revert hN;revert N;apply Pn.out));refine wk @Nat.zero_add ?_;(repeat(refine Pn.mk ?_;intro N hN))))
 refine .inr (aJ _ _ _ _ _ (fun r σ1 hq=>?_) (Az o p.ae k h0 h1 _ (by(try dsimp only);omega) (sd (tw @vO @ho))))
 obtain⟨g1,x1⟩:=σ1
 obtain⟨rfl,⟨Lh,ve⟩,_⟩:=hq
 (try dsimp only at Lh ve)
 refine hN _ _ ?_
 clear hN N
 (try((repeat(revert hN;revert N;apply Pn.out));refine wk @Nat.zero_add ?_;(repeat(refine Pn.mk ?_;intro N hN))))
 exact ft (.inl rfl) (vs:=[.int .i64 (k+3*p.ae.length)]) (sd @Nat.zero_add) ⟨rfl,⟨by(try dsimp only);omega,fun x hx hi=>by
  have h2:=ve x (by(try dsimp only);omega) hi
  have h3:=dv hx
  simp only[go_sem, ↓reduceIte,Nat.reduceEqDiff,Nat.reduceAdd,Nat.reduceSub,Nat.reduceLeDiff,reduceCtorEq,h3]at h2
  exact h2⟩⟩
def Ax (s:ax):Nat:=2*s.aD.ay.length+(s.aD.ae.map gL).sum+3*s.aX.ae.length
theorem Hd (a b:AV) (p:aw) (i1 i2:List Id) (k:Int) (h0:0<=k) (LX:p.ae.length<=1048576) (h1:k+2*p.ay.length+(p.ae.map gL).sum<=4611686018427387904) (σ:ar) (hv:∀i∈i1++i2,i.bW<σ.next) (mM:(i1++i2).Nodup)
  (hA:iM (lO cj) 2 σ.get a p.ay i1) (hB:iM oW 2 σ.get b p.ae i2):
  Call Tryz.prog 67 [.agg [a,b],.int .i64 k] σ (fun r σ'=>r=.int .i64 (k+2*p.ay.length+(p.ae.map gL).sum)/\qw σ (i1++i2) σ'.get σ'.next):=by
 obtain⟨_,n2,n3⟩:=List.nodup_append.1 mM
 obtain⟨o,rfl,ho,rfl⟩:=hA.flat
 obtain⟨ob,rfl⟩:=hB.kG
 refine eW eI rfl fun hl=>?_
 clear hl
 have L3:=hv o (by simp)
 have vO:=dv L3
 (try((repeat(revert hN;revert N;apply Pn.out));refine wk @Nat.zero_add ?_;(repeat(refine Pn.mk ?_;intro N hN))))
 refine .inr (aJ _ _ _ _ _ (fun r σ1 hq=>?_) (Cx o p.ay k h0 (by omega) _ (by(try dsimp only);omega) (sd (tw @vO @ho))))
 obtain⟨g1,x1⟩:=σ1
 obtain⟨rfl,Lh,ve⟩:=hq
 (try dsimp only at Lh ve)
 refine hN _ _ ?_
 clear hN N
 have k1:=ve ⟨67000000,σ.next⟩ (by(try dsimp only);omega) (by simp only[List.mem_singleton];intro e;rw[<-e]at L3;(try dsimp only at L3);omega)
 simp only[go_sem, ↓reduceIte,Nat.reduceEqDiff,Nat.reduceAdd,Nat.reduceSub,Nat.reduceLeDiff,reduceCtorEq]at k1
 (try((repeat(revert hN;revert N;apply Pn.out));refine wk @k1 ?_;(repeat(refine Pn.mk ?_;intro N hN))))
 have hf:∀x:Id,x.bW<σ.next->x≠o->g1 x=σ.get x:=fun x hx ho=>by
  have h2:=ve x (by(try dsimp only);omega) (by simp[ho])
  have h3:=dv hx
  simp only[go_sem, ↓reduceIte,Nat.reduceEqDiff,Nat.reduceAdd,Nat.reduceSub,Nat.reduceLeDiff,reduceCtorEq,h3]at h2
  exact h2
 refine .inr (aJ _ _ _ _ _ (fun r σ2 hq=>?_) (Cy _ p.ae i2 (k+2*p.ay.length) (by omega) LX h1 _ (fun i hi=>by have:=hv i (by simp[hi]);(try dsimp only);omega) n2 (hB.frame rL fun i hi=>hf i (hv i (by simp[hi])) fun e=>n3 o (by simp) i hi e.symm)))
 obtain⟨g2,x2⟩:=σ2
 obtain⟨rfl,O4,Ea⟩:=hq
 (try dsimp only at O4 Ea)
 refine hN _ _ ?_
 clear hN N
 (try((repeat(revert hN;revert N;apply Pn.out));refine wk @Nat.zero_add ?_;(repeat(refine Pn.mk ?_;intro N hN))))
 exact ft (.inl rfl) (vs:=[.int .i64 (k+2*p.ay.length+(p.ae.map gL).sum)]) (sd @Nat.zero_add) ⟨rfl,⟨by(try dsimp only);omega,fun x hx hi=>(Ea x (by(try dsimp only);omega) fun h=>hi (by simp[h])).trans (hf x hx fun e=>hi (by simp[e]))⟩⟩
theorem He (v:AV) (p:ax) (ids:List Id) (k:Int) (h0:0<=k) (LX:p.aD.ae.length<=1048576) (h1:k+Ax p<=4611686018427387904) (σ:ar) (hv:∀i∈ids,i.bW<σ.next) (mM:ids.Nodup) (hg:Bu σ.get v p ids):
  Call Tryz.prog 23 [v,.int .i64 k] σ (fun r σ'=>r=.int .i64 (k+Ax p)/\qw σ ids σ'.get σ'.next):=by
 obtain⟨a,b,c,i1,i2,i3,rfl,hA,hB,hC,rfl⟩:=hg.ex
 rw[<-List.append_assoc]at mM
 obtain⟨n1,_,n3⟩:=List.nodup_append.1 mM
 obtain⟨oa,rfl⟩:=hA.kG
 obtain⟨ob,rfl⟩:=hB.kG
 obtain⟨oc,rfl⟩:=hC.kG
 have hm:(Ax p:Int)=2*p.aD.ay.length+(p.aD.ae.map gL).sum+3*p.aX.ae.length:=by simp[Ax]
 refine eW eI rfl fun hl=>?_
 clear hl
 have Ub:∀x∈i1++(i2++i3),bt σ.get ⟨23000000,σ.next⟩ ⟨true,4,[[.own oa 0 p.aD.ay.length,.own ob 0 p.aD.ae.length,.own oc 0 p.aX.ae.length,.int .i64 p.aA]]⟩ x=σ.get x:=fun x hx=>by
  have:=dv (hv x hx)
  simp only[go_sem, ↓reduceIte,Nat.reduceEqDiff,Nat.reduceAdd,Nat.reduceSub,Nat.reduceLeDiff,reduceCtorEq,this]
 (try((repeat(revert hN;revert N;apply Pn.out));refine wk @Nat.zero_add ?_;(repeat(refine Pn.mk ?_;intro N hN))))
 refine .inr (aJ _ _ _ _ _ (fun r σ1 hq=>?_) (Hd _ _ p.aD i1 i2 k h0 LX (by omega) _ (fun i hi=>by have:=hv i (by rcases List.mem_append.1 hi with h|h<;>simp[h]);(try dsimp only);omega) n1 (hA.frame BX fun i hi=>Ub i (by simp[hi])) (hB.frame rL fun i hi=>Ub i (by simp[hi]))))
 obtain⟨g1,x1⟩:=σ1
 obtain⟨rfl,Lh,ve⟩:=hq
 (try dsimp only at Lh ve)
 refine hN _ _ ?_
 clear hN N
 have k1:=ve ⟨23000000,σ.next⟩ (by(try dsimp only);omega) (fun h=>by
  have:=hv ⟨23000000,σ.next⟩ (by rcases List.mem_append.1 h with h|h<;>simp[h])
  (try dsimp only at this);omega)
 simp only[go_sem, ↓reduceIte,Nat.reduceEqDiff,Nat.reduceAdd,Nat.reduceSub,Nat.reduceLeDiff,reduceCtorEq]at k1
 (try((repeat(revert hN;revert N;apply Pn.out));refine wk @k1 ?_;(repeat(refine Pn.mk ?_;intro N hN))))
 refine .inr (aJ _ _ _ _ _ (fun r σ2 hq=>?_) (tN _ p.aX i3 (k+2*p.aD.ay.length+(p.aD.ae.map gL).sum) (by omega) (by omega) _ (fun i hi=>by have:=hv i (by simp[hi]);(try dsimp only);omega) ⟨_,rfl,hC.frame yY fun i hi=>?_⟩))
 rotate_left
 ·exact(ve i (by have:=hv i (by simp[hi]);(try dsimp only);omega) fun h=>n3 i h i hi rfl).trans (Ub i (by simp[hi]))
 obtain⟨g2,x2⟩:=σ2
 obtain⟨rfl,O4,Ea⟩:=hq
 (try dsimp only at O4 Ea)
 refine hN _ _ ?_
 clear hN N
 (try((repeat(revert hN;revert N;apply Pn.out));refine wk @Nat.zero_add ?_;(repeat(refine Pn.mk ?_;intro N hN))))
 exact ft (.inl rfl) (vs:=[.int .i64 (k+2*p.aD.ay.length+(p.aD.ae.map gL).sum+3*p.aX.ae.length)]) (sd @Nat.zero_add) ⟨by rw[hm];exact congrArg (AV.int .i64) (by omega),⟨by(try dsimp only);omega,fun x hx hi=>by
  have h2:=Ea x (by(try dsimp only);omega) fun h=>hi (by simp[h])
  have h3:=ve x (by(try dsimp only);omega) fun h=>hi (by rcases List.mem_append.1 h with h|h<;>simp[h])
  have h4:=dv hx
  simp only[go_sem, ↓reduceIte,Nat.reduceEqDiff,Nat.reduceAdd,Nat.reduceSub,Nat.reduceLeDiff,reduceCtorEq,h4]at h3
  exact h2.trans h3⟩⟩
end Go.Proofs.YtgoljkjaameagaaGreat.V

namespace Go.Proofs.YtgoljkjaameagaaGreat.V
open Go.RowKit
def AV.clean:AV->Bool
 | .int .. | .bool _| .str _| .cC| .gY| .jh| .jo| .own .. | .ptr .. | .map .. | .r7 _=>true
 | .sl l=>l.isEmpty
 |_=>false
def AV.zY:AV->Bool
 | .agg cs=>cs.all AV.clean
 | .gO cs=>cs.all fun a=>match a with
  | .agg cs=>cs.all AV.clean
  |a=>a.clean
 |a=>a.clean
def zK (ids:List Id) (g g':Rows):Rows:=fun id=>if id∈ids then g' id else g id
theorem sW {ids:List Id} {g g':Rows} {id:Id} (h:id∈ids):zK ids g g' id=g' id:=if_pos h
theorem ql {ids:List Id} {g g':Rows} {id:Id} (h:id∉ids):zK ids g g' id=g id:=if_neg h
section
variable {P:Program} {w w':World} {D D' D1 D2:Nat->Prop} {ι ι1 ι2:Names}
theorem j5 {a:AV} {v:Value} (hp:a.clean=true) (h:cL P w D1 ι1 a v):cL P w D2 ι1 a v:=by
 cases h with
 |eP a v h=>
  cases h with
  |int=>exact .eP _ _ (.int _ _)
  |bool=>exact .eP _ _ (.bool _)
  |str=>exact .eP _ _ (.str _)
  |cC=>exact .eP _ _ .cC
  |gY=>exact .eP _ _ .gY
  |jh=>exact .eP _ _ .jh
  |jo=>exact .eP _ _ .jo
  |Bp a c h=>exact .eP _ _ (.Bp a c h)
  |sl rows b o n c sz vs h1 h2 h3=>
   have:rows=[]:=by simpa[AV.clean]using hp
   subst this
   simp only[List.length_nil]at h1
   subst h1
   exact .eP _ _ (.Bp _ _ h3)
  |dn=>simp[AV.clean]at hp
  |agg=>simp[AV.clean]at hp
  |fn=>simp[AV.clean]at hp
 |own id off len o cap B h1 h2 h3 h4 h5 h6=>exact .own id off len o cap B h1 h2 h3 h4 h5 h6
 |map id m B h1 h2=>exact .map id m B h1 h2
 |r7 id c B h1 h2=>exact .r7 id c B h1 h2
 |ptr id i off B h1 h2=>exact .ptr id i off B h1 h2
 |agg=>simp[AV.clean]at hp
 |gO=>simp[AV.clean]at hp
 |fn=>simp[AV.clean]at hp
 |uG=>simp[AV.clean]at hp
theorem mj {cs:List AV} {v:Value} (hc:cs.all AV.clean=true) (h:cL P w D1 ι1 (.agg cs) v):cL P w D2 ι1 (.agg cs) v:=by
 obtain⟨vs,f,rfl,h1,h2,h3,h4⟩:=ja h
 rw[List.all_eq_true]at hc
 exact .agg cs vs f h1 h2 h3 fun j a ha=>j5 (hc a (List.mem_of_getElem? ha)) (h4 j a ha)
theorem EG {a:AV} {v:Value} (hp:a.zY=true) (h:cL P w D1 ι1 a v):cL P w D2 ι1 a v:=by
 cases a with
 |agg cs=>exact mj hp h
 |gO cs=>
  obtain⟨vs,f,rfl,h1,h3,h4⟩:=vW h
  simp only[AV.zY,List.all_eq_true]at hp
  refine .gO cs vs f h1 h3 fun j a ha=>?_
  have:=hp a (List.mem_of_getElem? ha)
  split at this
  ·exact mj this (h4 j _ ha)
  ·exact j5 this (h4 j _ ha)
 |_=>exact j5 hp h
theorem ED {ag:Bool} {n:Nat} {cs:List AV} {x:AV} {v:Value} (hc:∀a∈cs,a.clean=true) (hp:part ag n cs=some x) (hr:cL P w D1 ι1 x v):cL P w D2 ι1 x v:=by
 unfold part at hp
 split at hp
 ·split at hp
  ·simp only[Option.some.injEq]at hp;subst hp
   exact mj (List.all_eq_true.2 fun a ha=>hc a (List.mem_of_mem_take ha)) hr
  ·cases hp
 ·exact j5 (hc x (List.mem_of_mem_head? hp)) hr
theorem gR.clean {B:s9} {r:Row} (R:gR P w D1 ι1 B r) (h:∀cs∈r.rows,∀a∈cs,a.clean=true):gR P w D2 ι1 B r:=
 ⟨R.sz,R.flat,fun hk=>⟨R.sz,(R.row hk).ye,(R.row hk).fits,(R.row hk).len,R.flat,fun i j cs a hi hj=>by
  obtain⟨v,q1,q2⟩:=(R.row hk).at_ i j cs a hi hj
  exact⟨v,q1,j5 (h cs (List.mem_of_getElem? hi) a (List.mem_of_getElem? hj)) q2⟩⟩,fun m hm=>by
  obtain⟨h1,es,c,h2,h3,h5,h4⟩:=R.map m hm
  refine⟨h1,es,c,h2,h3,h5,fun i cs hi=>?_⟩
  obtain⟨e,kv,vv,q1,q2,q3,q4,q5⟩:=h4 i cs hi
  have hc:=h cs (List.mem_of_getElem? hi)
  exact⟨e,kv,vv,q1,q2,q3,ED hc q2 q4,j5 (hc vv (List.mem_of_getElem? q3)) q5⟩,fun c hc=>by
  obtain⟨h1,buf,s,q,h2,h3,h4⟩:=R.chan c hc
  refine⟨h1,buf,s,q,h2,h3,fun i cs hi=>?_⟩
  obtain⟨a,u,rfl,q2,q3⟩:=h4 i cs hi
  exact⟨a,u,rfl,q2,j5 (h [a] (List.mem_of_getElem? hi) a (by simp)) q3⟩⟩
def Handed (ids:List Id) (g:Rows):Prop:=∀id∈ids,∃r,g id=some r/\r.w=true/\∀cs∈r.rows,∀a∈cs,a.clean=true
theorem HO {f:Nat} {args eH:List AV} {g:Rows} {n:Nat} {K:AV->ar->Prop} (hv:cV (dP g) 6 args=some eH)
  (h:Sound P f eH ⟨fun _=>none,n⟩ fun r σ'=>∃ids,r.zY=true/\Handed ids σ'.get/\K r ⟨zK ids g σ'.get,σ'.next⟩):Sound P f args ⟨g,n⟩ K:=by
 intro hs D ι w vs S U A
 let E:Nat->Prop:=fun b=>D b∨∃id r B,g id=some r/\ι id=some B/\b=B.b
 have lt:∀id r B,g id=some r->ι id=some B->B.b<w.heap.size:=fun id r B h1 h2=>by
  obtain⟨B',dD,R,_⟩:=S.row id r h1
  rw[h2]at dD;injection dD with dD;subst dD
  exact R.lt
 have S0:gD P w.heap.size E ι (fun _=>none) w:=⟨Nat.le_refl _,fun b hb=>by
  rcases hb with hb|⟨id,r,B,h1,h2,rfl⟩
  ·exact S.dead b hb
  ·exact lt id r B h1 h2,fun id r h=>(by cases h),fun id kb r r' B B' h=>(by cases h)⟩
 obtain⟨l1,l2⟩:=gK hv
 have A':fu P w E ι eH vs:=⟨by rw[A.1,l1],fun j a hj=>by
  obtain⟨a0,lE,hz⟩:=l2 j a hj
  obtain⟨u,hu,hr⟩:=A.2 j a0 lE
  refine⟨u,hu,(se (D2:=E) (ι2:=ι) (fun b h=>.inl h) (fun id row hg hw=>?_) 6 a0 u a hr hz).1⟩
  unfold dP at hg
  simp only[Option.map_eq_some_iff]at hg
  obtain⟨r,oK,rfl⟩:=hg
  obtain⟨B,hB,R,_,_⟩:=S.row id r oK
  exact⟨B,hB,R.flag true,.inr ⟨id,r,B,oK,hB,rfl⟩⟩⟩
 refine(h w.heap.size E ι w vs S0 U A').mono ?_
 rintro e w' ⟨r0,g',n',D2,ι1,u,rfl,⟨ids,nz,hid,hK⟩,T,S1,U1,hn,hR⟩
 have hb:∀b,b<w.heap.size->w'.heap[b]? =w.heap[b]? :=T.below.block
 have hz:=T.below.size
 have frame:∀{a v},cL P w D ι a v->cL P w' D ι1 a v:=fun h=>h.frame (fun b hd=>hb b (S.dead b hd)) (fun _ h=>h) T.names
 refine⟨r0,_,n',D,ι1,u,rfl,hK,⟨T.below.mono S.lo,fun b hd=>hb b (S.dead b hd),fun _ h=>h,T.names,fun _ h=>.inl h⟩,⟨Nat.le_trans S.lo hz,fun b hd=>Nat.lt_of_lt_of_le (S.dead b hd) hz,fun id r hr=>?_,fun R5 id2 r1 r2 B1 B2 h1 h2 hw Bk qp Nn=>?_⟩,U1,hn,EG nz hR⟩
 ·by_cases hi:id∈ids
  ·rw[sW hi]at hr
   obtain⟨r',oK,hw,hcr⟩:=hid id hi
   rw[hr]at oK;injection oK with oK;subst oK
   obtain⟨B,hB,R,k1,k2⟩:=S1.row id r hr
   have kD:=k1 hw
   exact⟨B,hB,R.clean hcr,fun _=>Nat.le_trans S.lo kD,fun _ hd=>Nat.lt_irrefl _ (Nat.lt_of_lt_of_le (S.dead _ hd) kD)⟩
  ·rw[ql hi]at hr
   obtain⟨B,hB,R,k1,k2⟩:=S.row id r hr
   have SN:=lt id r B hr hB
   exact⟨B,T.names _ _ hB,R.frame (hb _ SN) fun a v h=>frame h,k1,k2⟩
 ·have new:∀{id r B},id∈ids->zK ids g g' id=some r->ι1 id=some B->w.heap.size<=B.b/\g' id=some r/\r.w=true:=fun {id r B} hi hr hB=>by
   rw[sW hi]at hr
   obtain⟨r',oK,hw,_⟩:=hid id hi
   replace oK:g' id=some r':=oK
   rw[hr]at oK;injection oK with oK;subst oK
   obtain⟨B',dD,_,k1,_⟩:=S1.row id r hr
   rw[hB]at dD;injection dD with dD;subst dD
   exact⟨k1 hw,hr,hw⟩
  have zx:∀{id r B},id∉ids->zK ids g g' id=some r->ι1 id=some B->B.b<w.heap.size/\g id=some r/\ι id=some B:=fun {id r B} hi hr hB=>by
   rw[ql hi]at hr
   obtain⟨B',dD,_⟩:=S.row id r hr
   have:=T.names _ _ dD
   rw[hB]at this;injection this with this;subst this
   exact⟨lt id r _ hr dD,hr,dD⟩
  by_cases i1:R5∈ids
  ·obtain⟨a1,a2,a3⟩:=new i1 h1 Bk
   by_cases i2:id2∈ids
   ·obtain⟨b1,b2,b3⟩:=new i2 h2 qp
    exact S1.inj R5 id2 r1 r2 B1 B2 a2 b2 hw Bk qp Nn
   ·obtain⟨b1,_⟩:=zx i2 h2 qp
    omega
  ·obtain⟨a1,a2,a3⟩:=zx i1 h1 Bk
   by_cases i2:id2∈ids
   ·obtain⟨b1,_⟩:=new i2 h2 qp
    omega
   ·obtain⟨b1,b2,b3⟩:=zx i2 h2 qp
    exact S.inj R5 id2 r1 r2 B1 B2 a2 b2 hw a3 b3 Nn
theorem Br (hm:P.follows .mixedOrders=true) {f:Nat} {args eH:List AV} {σ:ar} {K:AV->ar->Prop} (hv:cV (dP σ.get) 6 args=some eH)
  (h:Call P f eH ⟨fun _=>none,σ.next⟩ fun r σ'=>∃ids,r.zY=true/\Handed ids σ'.get/\K r ⟨zK ids σ.get σ'.get,σ'.next⟩):Call P f args σ K:=
 gS (HO hv (gx hm h))
end
inductive oN:List AV->List AV->Prop
 |nil:oN [] []
 |same (a) {l l'}:oN l l'->oN (a::l) (a::l')
 |ptr (cs rest) {l l'}:oN l l'->oN (.dn (cs++rest)::l) (.dn cs::l')
 |cC {l l'}:oN l l'->oN (.cC::l) (.sl []::l')
theorem MI {P:Program} {w:World} {D:Nat->Prop} {ι:Names} {cs rest:List AV} {v:Value} (h:cL P w D ι (.dn (cs++rest)) v):cL P w D ι (.dn cs) v:=by
 obtain⟨b,o,vs,rfl,h1,h2,h3,h4⟩:=lq h
 exact .eP _ _ (.dn cs b o vs h1 (fun a ha=>h2 a (List.mem_append_left _ ha)) (fun j hj=>h3 j (by rw[List.length_append];omega)) fun j a ha=>h4 j a (by
  have:=(List.getElem?_eq_some_iff.1 ha).1
  rw[List.getElem?_append_left this];exact ha))
theorem ML {P:Program} {w:World} {D:Nat->Prop} {ι:Names} {v:Value} (h:cL P w D ι .cC v):cL P w D ι (.sl []) v:=by
 cases h with
 |eP _ _ h=>
  cases h with
  |cC=>exact .eP _ _ (.Bp none 0 (Nat.zero_le _))
theorem oN.len {l l':List AV} (h:oN l l'):l'.length=l.length:=by induction h<;>simp_all
theorem oN.get {P:Program} {w:World} {D:Nat->Prop} {ι:Names} {l l':List AV} (h:oN l l'):∀{j:Nat} {a':AV},l'[j]? =some a'->∃a,l[j]? =some a/\∀v,cL P w D ι a v->cL P w D ι a' v:=by
 induction h with
 |nil=>intro j a' hj;simp at hj
 |same a _ ih=>
  intro j a' hj
  cases j with
  |zero=>simp at hj;subst hj;exact⟨a,rfl,fun _ h=>h⟩
  |succ j=>exact ih (by simpa using hj)
 |ptr cs rest _ ih=>
  intro j a' hj
  cases j with
  |zero=>simp at hj;subst hj;exact⟨_,rfl,fun _ h=>MI h⟩
  |succ j=>exact ih (by simpa using hj)
 |cC _ ih=>
  intro j a' hj
  cases j with
  |zero=>simp at hj;subst hj;exact⟨_,rfl,fun _ h=>ML h⟩
  |succ j=>exact ih (by simpa using hj)
theorem Call.cut {P:Program} (hm:P.follows .mixedOrders=true) {f:Nat} {args eH:List AV} {σ:ar} {K:AV->ar->Prop} (hc:oN args eH) (h:Call P f eH σ K):Call P f args σ K:=
 gS fun hs D ι w vs S U A=>gx hm h hs D ι w vs S U ⟨by rw[A.1,hc.len],fun j a' hj=>by
  obtain⟨a,ha,hr⟩:=hc.get (P:=P) (w:=w) (D:=D) (ι:=ι) hj
  obtain⟨u,hu,hv⟩:=A.2 j a ha
  exact⟨u,hu,hr u hv⟩⟩
theorem aj.cut {P:Program} (hm:P.follows .mixedOrders=true) {f:Nat} {args eH:List AV} {r:AV} (hc:oN args eH) (h:aj P f eH r):aj P f args r:=fun n=>(h n).cut hm hc
theorem kq.cut {P:Program} (hm:P.follows .mixedOrders=true) {f:Nat} {args eH:List AV} {r:AV} (hc:oN args eH) (h:kq P f eH r):kq P f args r:=fun σ=>Call.cut hm hc (h σ)
end Go.Proofs.YtgoljkjaameagaaGreat.V

namespace Go.Proofs.YtgoljkjaameagaaGreat.V
open Go.RowKit
attribute [local irreducible] dL wpOps gC Call
attribute [local go_sem] aO fM eS ga fZ cU upd cD K.av cR AV.cells AV.cell rowOf rowsOf part ld rowAt bt cw dG ei iu bK dm eB fY e6 dt ep di dh dV dW bU bd cZ bQ db da ek er eo cY ck dj ej bP aQ dd cJ iq br cN bV aZ dr bc dH AV.undef bF bJ dX eh dR dO cK eA eC cI ev eu dc de List.getD_cons_zero List.getD_cons_succ List.getD_nil List.all_cons List.all_nil Bool.and_true Bool.true_and Bool.and_self Bool.not_true Bool.not_false Option.map_some Option.map_none Option.bind_some Option.bind_none List.length_cons List.length_nil List.take_succ_cons List.take_zero List.take_nil List.drop_succ_cons List.drop_zero List.drop_nil List.head?_cons List.map_cons List.map_nil List.getElem?_cons_zero List.getElem?_cons_succ List.cons_append List.nil_append List.append_nil List.length_map List.set_cons_zero List.set_cons_succ eq_self Int.toNat_natCast Int.natCast_nonneg and_self true_and and_true decide_true decide_false Bool.false_eq_true Nat.zero_add Nat.add_zero List.contains_cons List.contains_nil Bool.or_false Bool.false_or beq_self_eq_true ne_eq not_true_eq_false not_false_eq_true Id.mk.injEq false_and and_false Nat.le_refl List.length_append beq_true beq_false Bool.not_eq_eq_eq_not or_false false_or dP ai aq aI bh bE cz aY bl aV bf cW bH
section
variable {P:Program} {α:Type} {e:α->List AV} {z:Nat} {g g':Rows} {v:AV} {L:List α} {ids:List Id}
def tf (e:α->List AV) (z:Nat) (g:Rows) (v:AV) (L:List α) (ids:List Id):Prop:=(L=[]/\v=.cC/\ids=[])∨∃o,v=.own o 0 L.length/\g o=some ⟨true,z,L.map e⟩/\ids=[o]/\0<L.length
def TC (e:α->List AV) (L:List α):AV:=if L.length=0 then .cC else .sl (L.map e)
theorem tf.frame (h:tf e z g v L ids) (hf:∀i∈ids,g' i=g i):tf e z g' v L ids:=by
 rcases h with h|⟨o,h1,h2,rfl,hp⟩
 ·exact .inl h
 ·exact .inr ⟨o,h1,(hf o (by simp)).trans h2,rfl,hp⟩
def jN (e:α->List AV) (L:List α) (w:AV):Prop:=(w=.cC/\L=[])∨w=.sl (L.map e)
theorem tf.fz (h:tf e z g v L ids) (he:∀x g,cV g 5 (e x)=some (e x)):∃w,V.fz (dP g) 6 v=some w/\jN e L w:=by
 rcases h with⟨rfl,rfl,_⟩|⟨o,rfl,h2,_⟩
 ·exact⟨.cC,aY _ _,.inl ⟨rfl,rfl⟩⟩
 ·exact⟨_,gy (e:=e) (sz:=z) (by simp[dP,h2]) rfl fun x=>he x _,.inr rfl⟩
def we (P:Program) (f:Nat) (args:List AV) (e:α->List AV) (z:Nat) (L:List α) (c:Int):Prop:=
 ∀n:Nat,Call P f args ⟨fun _=>none,n⟩ (fun r σ'=>∃v ids,r=.gO [v,.int .i64 c]/\tf e z σ'.get v L ids/\gJ n σ'.next ids)
theorem yH (hm:P.follows .mixedOrders=true) {f:Nat} {args:List AV} {σ:ar} {K:AV->ar->Prop} (h:Call P f args σ K):Call P f args σ (fun r σ'=>K r σ'/\σ.next<=σ'.next):=
 gS fun hs D ι w vs S U A=>(gx hm h hs D ι w vs S U A).mono (by
  rintro e w' ⟨r,g',n',D2,ι1,u,rfl,hK,T,S1,U1,hn,hR⟩
  exact⟨r,g',n',D2,ι1,u,rfl,⟨hK,hn⟩,T,S1,U1,hn,hR⟩)
theorem Ia (hm:P.follows .mixedOrders=true) {f:Nat} {args eH:List AV} {σ:ar} {c:Int} (nz:∀x,(e x).all AV.clean=true) (h:we P f eH e z L c) (hv:cV (dP σ.get) 6 args=some eH):
  Call P f args σ (fun r σ'=>∃v ids,r=.gO [v,.int .i64 c]/\tf e z σ'.get v L ids/\gJ σ.next σ'.next ids/\Kept σ σ'):=by
 refine Br hm hv (aJ _ _ _ _ _ (fun r σ' hq=>?_) (yH hm (h σ.next)))
 obtain⟨⟨v,ids,rfl,ho,hi⟩,hn⟩:=hq
 refine⟨ids,?_,?_,v,ids,rfl,?_,hi,hn,fun j hj=>ql fun hc=>?_⟩
 ·rcases ho with⟨_,rfl,_⟩|⟨o,rfl,_⟩<;>rfl
 ·rcases ho with⟨_,_,rfl⟩|⟨o,_,h2,rfl,_⟩
  ·intro i hi;cases hi
  ·intro i hi
   rw[List.mem_singleton.1 hi]
   refine⟨_,h2,rfl,fun cs dx a ha=>?_⟩
   obtain⟨x,_,rfl⟩:=List.mem_map.1 dx
   have:=nz x
   rw[List.all_eq_true]at this
   exact this a ha
 ·exact ho.frame fun i hi=>sW hi
 ·have:=(hi.2 j hc).1;omega
theorem we.s {f:Nat} {args:List AV} {c:Int} (he:∀x g,ef g 4 (e x)=some (e x)) (h:we P f args e z L c):aj P f args (.gO [TC e L,.int .i64 c]):=fun n=>
 aJ _ _ _ _ _ (fun r σ' hq=>by
  obtain⟨v,ids,rfl,ho,hi⟩:=hq
  rcases ho with⟨rfl,rfl,_⟩|⟨o,rfl,h2,_,hp⟩
  ·exact⟨_,by simp only[eY,bD,cF,k6,eQ,Option.map_some];rfl,rfl⟩
  ·have:=fJ (e:=e) (n:=4) h2 rfl fun x=>he x _
   exact⟨_,by simp only[eY,bD,cF,this,eQ,Option.map_some];rfl,by rw[TC,if_neg (by omega)]⟩) (h n)
theorem CJ:jN e L (TC e L):=by
 unfold TC
 split
 ·rename_i h;exact .inl ⟨rfl,List.eq_nil_of_length_eq_zero h⟩
 ·exact .inr rfl
end
theorem jN.two {α:Type} {e:α->List AV} {L:List α} {w:AV} (h:jN e L w):oN [w] [.sl (L.map e)]:=by
 rcases h with⟨rfl,rfl⟩|rfl
 ·exact .cC .nil
 ·exact .same _ .nil
theorem jN.cut {α:Type} {e:α->List AV} {L:List α} {w:AV} (h:jN e L w) {l l':List AV} (hl:oN l l'):oN (w::l) (.sl (L.map e)::l'):=by
 rcases h with⟨rfl,rfl⟩|rfl
 ·exact .cC hl
 ·exact .same _ hl
end Go.Proofs.YtgoljkjaameagaaGreat.V

namespace Go.Proofs.YtgoljkjaameagaaGreat.V
open Go.RowKit
attribute [local irreducible] dL wpOps gC Call
attribute [local go_sem] aO fM eS ga fZ cU upd cD K.av cR AV.cells AV.cell rowOf rowsOf part ld rowAt bt cw dG ei iu bK dm eB fY e6 dt ep di dh dV dW bU bd cZ bQ db da ek er eo cY ck dj ej bP aQ dd cJ iq br cN bV aZ dr bc dH AV.undef bF bJ dX eh dR dO cK eA eC cI ev eu dc de List.getD_cons_zero List.getD_cons_succ List.getD_nil List.all_cons List.all_nil Bool.and_true Bool.true_and Bool.and_self Bool.not_true Bool.not_false Option.map_some Option.map_none Option.bind_some Option.bind_none List.length_cons List.length_nil List.take_succ_cons List.take_zero List.take_nil List.drop_succ_cons List.drop_zero List.drop_nil List.head?_cons List.map_cons List.map_nil List.getElem?_cons_zero List.getElem?_cons_succ List.cons_append List.nil_append List.append_nil List.length_map List.set_cons_zero List.set_cons_succ Nat.reduceMul eq_self Int.toNat_natCast Int.natCast_nonneg and_self true_and and_true decide_true decide_false Bool.false_eq_true Nat.zero_add Nat.add_zero List.contains_cons List.contains_nil Bool.or_false Bool.false_or beq_self_eq_true Nat.reduceBEq ne_eq not_true_eq_false not_false_eq_true Id.mk.injEq false_and and_false Nat.reduceLT Int.reduceLE Int.reduceLT Int.reduceToNat Int.reduceNeg Int.reduceAdd Nat.le_refl List.length_append beq_true beq_false Bool.not_eq_eq_eq_not or_false false_or dP ai aq aI bh bE cz aY bl aV bf cW bH
theorem Hc (i:Id) (l:List ad) (k:Int) (h0:0<=k) (h1:k+3*l.length<=4611686018427387904) (σ:ar) (hv:i.bW<σ.next) (hg:σ.get i=some ⟨true,3,l.map aa⟩):
  Call Tryz.prog 49 [.own i 0 l.length,.int .i64 k] σ (fun r σ'=>r=.int .i64 (k+3*l.length)/\qw σ [i] σ'.get σ'.next/\σ'.get i=some ⟨true,3,(CC k l.length).map aa⟩):=by
 refine eW eI rfl fun hl=>?_
 clear hl
 have hz:jJ k l 0=l:=by simp[jJ,CC]
 (try((repeat(revert hN;revert N;apply Pn.out));refine wk @Nat.zero_add ?_;(repeat(refine Pn.mk ?_;intro N hN))))
 refine aW (fun n env st=>∃j:Nat,n=(l.length)-j/\j<=(l.length)/\env 5=.int .i64 (j:Int)/\env 1=.int .i64 (k+3*j)/\st.get i=some ⟨true,3,(jJ k l j).map aa⟩/\(qw σ [i] st.get st.next)) (l.length) ⟨0,by omega,by omega,sl (tw @Int.add_zero (tw @Int.natCast_zero (tw @Int.mul_zero (tw @hz @hg)))),sl (tw @Int.add_zero (tw @Int.natCast_zero (tw @Int.mul_zero (tw @hz @hg)))),sl (tw @Int.add_zero (tw @Int.natCast_zero (tw @Int.mul_zero (tw @hz @hg)))),by(try dsimp only);exact⟨by(try dsimp only);omega,fun x _ _=>rfl⟩⟩ ?_
 rintro n_a env_a st_a ⟨j,rfl,ale,a5,a1,ag0,me⟩ dJ
 have a0:=dJ 0 (by kernel_rfl)
 simp only[go_sem, ↓reduceIte,Nat.reduceEqDiff,Nat.reduceAdd,Nat.reduceSub,Nat.reduceLeDiff,reduceCtorEq,Int.add_zero,Int.natCast_zero,Int.mul_zero,hz,hg]at a0
 clear dJ
 obtain⟨an,aF⟩:=me
 by_cases hj:(j:Int)<(l.length:Int)
 ·have cG:∀{e:Env} {gg:Rows} {nx:Nat},(e 5=.int .i64 (IntKind.i64.wrap ((j:Int)+1)))->(e 1=.int .i64 (k+3*(j+1)))->(gg i=some ⟨true,3,(jJ k l (j+1)).map aa⟩)->(qw σ [i] gg nx)->∃m0,m0<(l.length)-j/\∃j:Nat,m0=(l.length)-j/\j<=(l.length)/\e 5=.int .i64 (j:Int)/\e 1=.int .i64 (k+3*j)/\gg i=some ⟨true,3,(jJ k l j).map aa⟩/\(qw σ [i] gg nx):=fun x1 x2 x3 x4=>⟨_,by omega,j+1,rfl,by omega,(by rw[x1,aB (by omega)]),x2,x3,x4⟩
  have iW:j<l.length:=by omega
  have fq:=FZ (k:=k) iW
  have eF:=CE (k:=k) iW
  have oL:IntKind.i64.wrap (k+3*(j:Int)+1)=k+3*(j:Int)+1:=bz (by omega)
  have qu:IntKind.i64.wrap (k+3*(j:Int)+1+1)=k+3*(j:Int)+2:=by rw[bz (by omega)];omega
  have Jz:IntKind.i64.wrap (k+3*(j:Int)+2+1)=k+3*((j:Int)+1):=by rw[bz (by omega)];omega
  have hlen:((jJ k l j).map aa).length=l.length:=by rw[List.length_map,CD (by omega)]
  have Jg:∀c:List AV,(((jJ k l j).map aa).set j c)[j]? =some c:=fun c=>by rw[List.getElem?_set_self (by rw[hlen];exact iW)]
  (try((repeat(revert hN;revert N;apply Pn.out));refine wk (tw @a5 (tw @a1 (tw @ag0 (tw @a0 (tw @hj (tw @fq (tw @Jg (tw @eF (tw @oL (tw @qu (tw @Jz (tw @hlen @sP)))))))))))) ?_;(repeat(refine Pn.mk ?_;intro N hN))))
  refine cG ?_ ?_ ?_ (by(try dsimp only);exact⟨by(try dsimp only);omega,fun x hx hi=>by
   have h2:=aF x hx hi
   have h3:(x=i)=False:=eq_false fun e=>hi (by simp[e])
   simp only[go_sem, ↓reduceIte,Nat.reduceEqDiff,Nat.reduceAdd,Nat.reduceSub,Nat.reduceLeDiff,reduceCtorEq,h2,h3]⟩)
  all_goals simp only[go_sem, ↓reduceIte,Nat.reduceEqDiff,Nat.reduceAdd,Nat.reduceSub,Nat.reduceLeDiff,reduceCtorEq,a5,a1,ag0,a0,Jz,eF]
 ·have iW:j=l.length:=by omega
  subst iW
  (try((repeat(revert hN;revert N;apply Pn.out));refine wk (tw @a5 (tw @a1 (tw @ag0 (tw @a0 @hj)))) ?_;(repeat(refine Pn.mk ?_;intro N hN))))
  have lH:jJ k l l.length=CC k l.length:=by simp[jJ]
  rw[lH]at ag0
  exact ft (.inl rfl) (vs:=[.int .i64 (k+3*l.length)]) (sd (tw @a5 (tw @a1 (tw @ag0 @a0)))) ⟨rfl,⟨by(try dsimp only);omega,fun x hx hi=>aF x hx hi⟩,ag0⟩
theorem Pp (k:Int) {n j:Nat} (h:j<n):((CC k n).map aa)[j]? =some [.int .i64 (k+3*(j:Int)),.int .i64 (k+3*(j:Int)+1),.int .i64 (k+3*(j:Int)+2)]:=by
 simp[CC,h,aa]
theorem GM (k:Int) (n:Nat) (h0:0<=k) (h1:k+3*n<=4611686018427387904):aj Tryz.prog 50 [.sl ((CC k n).map aa),.int .i64 k] (.int .i64 (k+3*n)):=by
 refine aj.body eI rfl fun hl n0=>?_
 clear hl
 obtain⟨m,hm⟩:∃m,n=m:=⟨_,rfl⟩
 rw[hm]at h1 ⊢
 (try((repeat(revert hN;revert N;apply Pn.out));refine wk @iJ ?_;(repeat(refine Pn.mk ?_;intro N hN))))
 refine aW (fun n env st=>∃j:Nat,n=(m)-j/\j<=(m)/\env 5=.int .i64 (j:Int)/\env 1=.int .i64 (k+3*j)) (m) ⟨0,by omega,by omega,sl (tw @Int.add_zero (tw @Int.natCast_zero (tw @Int.mul_zero @iJ))),sl (tw @Int.add_zero (tw @Int.natCast_zero (tw @Int.mul_zero @iJ)))⟩ ?_
 rintro n_a env_a st_a ⟨j,rfl,ale,a5,a1⟩ dJ
 have a0:=dJ 0 (by kernel_rfl)
 simp only[go_sem, ↓reduceIte,Nat.reduceEqDiff,Nat.reduceAdd,Nat.reduceSub,Nat.reduceLeDiff,reduceCtorEq,Int.add_zero,Int.natCast_zero,Int.mul_zero,iJ]at a0
 clear dJ
 by_cases hj:(j:Int)<(m:Int)
 ·have cG:∀{e:Env},(e 5=.int .i64 (IntKind.i64.wrap ((j:Int)+1)))->(e 1=.int .i64 (k+3*(j+1)))->∃m0,m0<(m)-j/\∃j:Nat,m0=(m)-j/\j<=(m)/\e 5=.int .i64 (j:Int)/\e 1=.int .i64 (k+3*j):=fun x1 x2=>⟨_,by omega,j+1,rfl,by omega,(by rw[x1,aB (by omega)]),x2⟩
  have fq:=Pp k (n:=m) (j:=j) (by omega)
  have oL:IntKind.i64.wrap (k+3*(j:Int)+1)=k+3*(j:Int)+1:=bz (by omega)
  have qu:IntKind.i64.wrap (k+3*(j:Int)+1+1)=k+3*(j:Int)+2:=by rw[bz (by omega)];omega
  have Jz:IntKind.i64.wrap (k+3*(j:Int)+2+1)=k+3*((j:Int)+1):=by rw[bz (by omega)];omega
  have e1:decide (k+3*(j:Int)=k+3*(j:Int))=true:=decide_eq_true rfl
  have e2:decide (k+3*(j:Int)+1=k+3*(j:Int)+1)=true:=decide_eq_true rfl
  have e3:decide (k+3*(j:Int)+2=k+3*(j:Int)+2)=true:=decide_eq_true rfl
  (try((repeat(revert hN;revert N;apply Pn.out));refine wk (tw @a5 (tw @a1 (tw @a0 (tw @hj (tw @fq (tw @oL (tw @qu (tw @Jz (tw @iJ (tw @e1 (tw @e2 @e3))))))))))) ?_;(repeat(refine Pn.mk ?_;intro N hN))))
  refine cG ?_ ?_
  all_goals simp only[go_sem, ↓reduceIte,Nat.reduceEqDiff,Nat.reduceAdd,Nat.reduceSub,Nat.reduceLeDiff,reduceCtorEq,a5,a1,a0,Jz]
 ·have iW:j=m:=by omega
  subst iW
  (try((repeat(revert hN;revert N;apply Pn.out));refine wk (tw @a5 (tw @a1 (tw @a0 (tw @hj @iJ)))) ?_;(repeat(refine Pn.mk ?_;intro N hN))))
  exact cr (b:=k+3*(j:Int)) (.inl rfl) (sd (tw @a5 (tw @a1 @a0))) rfl
theorem LG (a b:ad):aj Tryz.prog 106 [.agg (aa a),.agg (aa b)] (.bool (decide (a=b))):=by
 refine aj.body eI rfl fun hl n0=>?_
 clear hl
 have h:=yW a.aP b.aP
 rw[ah,ah]at h
 by_cases h1:a.aP=b.aP
 ·rw[decide_eq_true h1]at h
  by_cases h2:a.aT=b.aT
  ·have e2:decide (a.aT=b.aT)=true:=decide_eq_true h2
   (repeat(first|((repeat(revert hN;revert N;apply Pn.out));refine wk (tw @aa.eq_1 @e2) ?_;(repeat(refine Pn.mk ?_;intro N hN)))|((try apply Or.inl);refine⟨_,aj.x (h) (sd (tw @aa.eq_1 @e2)),?_⟩;refine hN _ _ ?_;clear hN N)))
   exact aU (b:=true) (.inl rfl) (sd @Nat.zero_add) (decide_eq_true (by cases a;cases b;simp_all)).symm
  ·have e2:decide (a.aT=b.aT)=false:=decide_eq_false h2
   (repeat(first|((repeat(revert hN;revert N;apply Pn.out));refine wk (tw @aa.eq_1 @e2) ?_;(repeat(refine Pn.mk ?_;intro N hN)))|((try apply Or.inl);refine⟨_,aj.x (h) (sd (tw @aa.eq_1 @e2)),?_⟩;refine hN _ _ ?_;clear hN N)))
   exact aU (b:=false) (.inl rfl) (sd @Nat.zero_add) (decide_eq_false (by rintro rfl;exact h2 rfl)).symm
 ·rw[decide_eq_false h1]at h
  (repeat(first|((repeat(revert hN;revert N;apply Pn.out));refine wk @aa.eq_1 ?_;(repeat(refine Pn.mk ?_;intro N hN)))|((try apply Or.inl);refine⟨_,aj.x (h) (sd @aa.eq_1),?_⟩;refine hN _ _ ?_;clear hN N)))
  exact aU (b:=false) (.inl rfl) (sd @Nat.zero_add) (decide_eq_false (by rintro rfl;exact h1 rfl)).symm
theorem IP (xs ys:List ad):aj Tryz.prog 48 [.sl (xs.map aa),.sl (ys.map aa)] (.bool (decide (xs=ys))):=
 z6 (show mz Tryz.prog 48=some (BT 48 106 3) by kernel_rfl) (fun _=>rfl) wR xs ys LG
theorem tr {L:List ad} {v w:AV} (hv:jN aa L v) (hw:jN aa L w):aj Tryz.prog 48 [v,w] (.bool true):=by
 have h:=IP L L
 rw[decide_eq_true rfl]at h
 exact h.cut mixed (hv.cut (hw.cut .nil))
theorem Es (k:Int) (σ:ar):Call Tryz.prog 49 [.cC,.int .i64 k] σ (fun r σ'=>r=.int .i64 k/\qw σ [] σ'.get σ'.next):=by
 refine eW eI rfl fun hl=>?_
 clear hl
 (try((repeat(revert hN;revert N;apply Pn.out));refine wk @Nat.zero_add ?_;(repeat(refine Pn.mk ?_;intro N hN))))
 refine aW (fun n env st=>(env 1=.int .i64 k/\env 5=.int .i64 0/\env 0=.cC)/\σ.next<=st.next/\∀x:Id,st.get x=σ.get x) 0 ⟨⟨sd @Nat.zero_add,sd @Nat.zero_add,sd @Nat.zero_add⟩,by(try dsimp only);omega,fun _=>rfl⟩ ?_
 rintro m e st ⟨⟨a1,a5,a0⟩,an,aF⟩ -
 have d0:decide ((0:Int)<((0:Nat):Int))=false:=rfl
 (try((repeat(revert hN;revert N;apply Pn.out));refine wk (tw @a0 (tw @a1 (tw @a5 @d0))) ?_;(repeat(refine Pn.mk ?_;intro N hN))))
 exact ft (.inl rfl) (vs:=[.int .i64 k]) (sd @a1) ⟨rfl,⟨by(try dsimp only);omega,fun x hx hi=>aF x⟩⟩
theorem Et {v:AV} {L:List ad} {ids:List Id} (k:Int) (h0:0<=k) (h1:k+3*L.length<=4611686018427387904) (σ:ar) (hv:∀i∈ids,i.bW<σ.next) (h:tf aa 3 σ.get v L ids):
  Call Tryz.prog 49 [v,.int .i64 k] σ (fun r σ'=>r=.int .i64 (k+3*L.length)/\qw σ ids σ'.get σ'.next/\tf aa 3 σ'.get v (CC k L.length) ids):=by
 rcases h with⟨rfl,rfl,rfl⟩|⟨o,rfl,h2,rfl,hp⟩
 ·refine aJ _ _ _ _ _ (fun r σ' hq=>?_) (Es k σ)
  obtain⟨rfl,hB⟩:=hq
  exact⟨by simp,hB,.inl ⟨rfl,rfl,rfl⟩⟩
 ·refine aJ _ _ _ _ _ (fun r σ' hq=>?_) (Hc o L k h0 h1 σ (hv o (by simp)) h2)
  obtain⟨rfl,hB,hg⟩:=hq
  exact⟨rfl,hB,.inr ⟨o,by rw[iJ],hg,rfl,by rw[iJ];exact hp⟩⟩
theorem wV {w:AV} (k:Int) (n:Nat) (h0:0<=k) (h1:k+3*n<=4611686018427387904) (hw:jN aa (CC k n) w):aj Tryz.prog 50 [w,.int .i64 k] (.int .i64 (k+3*n)):=
 (GM k n h0 h1).cut mixed (hw.cut (.same _ .nil))
end Go.Proofs.YtgoljkjaameagaaGreat.V

namespace Go.Proofs.YtgoljkjaameagaaGreat.V
open Go.RowKit
variable {P:Program}
theorem Pj (hm:P.follows .mixedOrders=true) {f:Nat} {args:List AV} {vs:Array Value} {w:World} (h:aj P f args (.bool true)) (hA:fu P w (fun b=>b<w.heap.size) (fun _=>none) args vs):
  Calls P f vs w fun e w'=>e=.returned (.bool true)/\Below w.heap.size w w':=by
 have hs:=gx hm (h 0) w.heap.size (fun b=>b<w.heap.size) (fun _=>none) w vs ⟨Nat.le_refl _,fun _ h=>h,fun id r h=>(by cases h),fun id kb r r' B B' h=>(by cases h)⟩ (fun id h=>absurd rfl h) hA
 refine hs.mono ?_
 rintro e w' ⟨r,g',n',D',ι',u,rfl,⟨r',hz,rfl⟩,dK,hsim,_,_,gQ⟩
 have hr:r=.bool true:=by
  cases r<;>rw[gE]at hz<;>simp_all
  all_goals (repeat' (split at hz))<;>simp_all
 subst hr
 exact⟨by rw[fc gQ],dK.below⟩
theorem lp {xs:List AV} {w:World} {D:Nat->Prop} {ι:Names} {a:AV} {v:Value} {vs:Array Value} (h:jL P w D a v) (k:fu P w D ι xs vs):fu P w D ι (a::xs) (#[v]++vs):=
 pI (xs:=[a]) ⟨rfl,fun j b hj=>by
  cases j with
  |zero=>simp at hj;subst hj;exact⟨v,rfl,.eP _ _ h⟩
  |succ j=>simp at hj⟩ k
end Go.Proofs.YtgoljkjaameagaaGreat.V

namespace Go.Proofs.YtgoljkjaameagaaGreat.V
open Go.RowKit
attribute [local irreducible] dL wpOps gC Call
attribute [local go_sem] aO fM eS ga fZ cU upd cD K.av cR AV.cells AV.cell rowOf rowsOf part ld rowAt bt cw dG ei iu bK dm eB fY e6 dt ep di dh dV dW bU bd cZ bQ db da ek er eo cY ck dj ej bP aQ dd cJ iq br cN bV aZ dr bc dH AV.undef bF bJ dX eh dR dO cK eA eC cI ev eu dc de List.getD_cons_zero List.getD_cons_succ List.getD_nil List.all_cons List.all_nil Bool.and_true Bool.true_and Bool.and_self Bool.not_true Bool.not_false Option.map_some Option.map_none Option.bind_some Option.bind_none List.length_cons List.length_nil List.take_succ_cons List.take_zero List.take_nil List.drop_succ_cons List.drop_zero List.drop_nil List.head?_cons List.map_cons List.map_nil List.getElem?_cons_zero List.getElem?_cons_succ List.cons_append List.nil_append List.append_nil List.length_map List.set_cons_zero List.set_cons_succ Nat.reduceMul eq_self Int.toNat_natCast Int.natCast_nonneg and_self true_and and_true decide_true decide_false Bool.false_eq_true Nat.zero_add Nat.add_zero List.contains_cons List.contains_nil Bool.or_false Bool.false_or beq_self_eq_true Nat.reduceBEq ne_eq not_true_eq_false not_false_eq_true Id.mk.injEq false_and and_false Nat.reduceLT Int.reduceLE Int.reduceLT Int.reduceToNat Int.reduceNeg Int.reduceAdd Nat.le_refl List.length_append beq_true beq_false Bool.not_eq_eq_eq_not or_false false_or dP ai aq aI bh bE cz aY bl aV bf cW bH
theorem PJ {α:Type} (f:α->Nat) {xs:List α} {x:α} (h:x∈xs):f x<=(xs.map f).sum:=by
 induction xs with
 |nil=>cases h
 |cons y ys ih=>
  simp only[List.map_cons,List.sum_cons]
  rcases List.mem_cons.1 h with rfl|h
  ·omega
  ·have:=ih h;omega
theorem HB {s:ax} (h:s7 s<=1048576):ui s:=by
 unfold s7 vk at h
 refine⟨⟨by omega,by omega,fun t ht=>?_⟩,by omega⟩
 have:=PJ kK ht
 have h2:t.bx.length<=kK t:=by unfold kK;omega
 unfold th
 omega
theorem sa (a:dM):aj Tryz.prog 22 [.agg (aC a),.agg (aC a)] (.bool true):=by
 refine aj.body eI rfl fun hl n0=>?_
 clear hl
 have h1:=uq a.ae a.ae
 rw[decide_eq_true rfl]at h1
 (repeat(first|((repeat(revert hN;revert N;apply Pn.out));refine wk @aC.eq_1 ?_;(repeat(refine Pn.mk ?_;intro N hN)))|((try apply Or.inl);refine⟨_,aj.x (h1) (sd @aC.eq_1),?_⟩;refine hN _ _ ?_;clear hN N)))
 exact aU (b:=true) (.inl rfl) (sd @Nat.zero_add) rfl
end Go.Proofs.YtgoljkjaameagaaGreat.V

namespace Go.Proofs.YtgoljkjaameagaaGreat.V
open Go.RowKit
attribute [local irreducible] dL wpOps gC Call
attribute [local go_sem] aO fM eS ga fZ cU upd cD K.av cR AV.cells AV.cell rowOf rowsOf part ld rowAt bt cw dG ei iu bK dm eB fY e6 dt ep di dh dV dW bU bd cZ bQ db da ek er eo cY ck dj ej bP aQ dd cJ iq br cN bV aZ dr bc dH AV.undef bF bJ dX eh dR dO cK eA eC cI ev eu dc de List.getD_cons_zero List.getD_cons_succ List.getD_nil List.all_cons List.all_nil Bool.and_true Bool.true_and Bool.and_self Bool.not_true Bool.not_false Option.map_some Option.map_none Option.bind_some Option.bind_none List.length_cons List.length_nil List.take_succ_cons List.take_zero List.take_nil List.drop_succ_cons List.drop_zero List.drop_nil List.head?_cons List.map_cons List.map_nil List.getElem?_cons_zero List.getElem?_cons_succ List.cons_append List.nil_append List.append_nil List.length_map List.set_cons_zero List.set_cons_succ eq_self Int.toNat_natCast Int.natCast_nonneg and_self true_and and_true decide_true decide_false Bool.false_eq_true Nat.zero_add Nat.add_zero List.contains_cons List.contains_nil Bool.or_false Bool.false_or beq_self_eq_true ne_eq not_true_eq_false not_false_eq_true Id.mk.injEq false_and and_false Nat.le_refl List.length_append beq_true beq_false Bool.not_eq_eq_eq_not or_false false_or dP ai aq aI bh bE cz aY bl aV bf cW bH
theorem Hn (x:ad) (g:Rows):ef g 4 (aa x)=some (aa x):=by simp[aa,bD,cF,eQ]
theorem MT {g:Rows} {v w:AV} {s:ax} {i:List Id} (hX:Bu g v s i) (hw:fz (dP g) 6 w=some w):cV (dP g) 6 [v,w]=some [.agg (au s),w]:=by
 simp only[ai,aq,hX.fz 1,hw,Option.map_some]
theorem Fo {g:Rows} {v w:AV} {s:dM} {i:List Id} (hX:xZ g v s i) (hw:fz (dP g) 6 w=some w):cV (dP g) 6 [v,w]=some [.agg (aC s),w]:=by
 simp only[ai,aq,hX.fz 2,hw,Option.map_some]
theorem Fv (g:Rows) (s:ax):fz g 6 (.agg (au s))=some (.agg (au s)):=by simp[au,bl,ai,aq,cz,aI]
theorem vD (g:Rows) (s:dM):fz g 6 (.agg (aC s))=some (.agg (aC s)):=by simp[aC,bl,ai,aq,cz]
theorem xQ {g:Rows} {v w v' w':AV} (h1:fz g 6 v=some v') (h2:fz g 6 w=some w'):cV g 6 [v,w]=some [v',w']:=by
 simp only[ai,aq,h1,h2,Option.map_some]
theorem Mq (s:ax):Ax s<=3*s7 s:=by
 have h:∀l:List eU,(l.map gL).sum<=l.length+(l.map kK).sum:=fun l=>by
  induction l with
  |nil=>simp
  |cons t l ih=>simp only[List.map_cons,List.sum_cons,List.length_cons,gL,kK]at *;omega
 have:=h s.aD.ae
 unfold Ax s7 vk
 omega
theorem gJ.not {a b:Nat} {ids:List Id} (h:gJ a b ids) {x:Id} (hx:x.bW<a∨b<=x.bW):x∉ids:=fun hc=>by
 have:=h.2 x hc;omega
theorem jN.fz {α:Type} {e:α->List AV} {L:List α} {w:AV} (h:jN e L w) (g:Rows):V.fz g 6 w=some w:=by
 rcases h with⟨rfl,rfl⟩|rfl
 ·exact aY _ _
 ·exact cz _ _ _
end Go.Proofs.YtgoljkjaameagaaGreat.V

namespace Go.Proofs.YtgoljkjaameagaaGreat.V
open Go.RowKit
attribute [local irreducible] dL wpOps gC Call
attribute [local go_sem] aO fM eS ga fZ cU upd cD K.av cR AV.cells AV.cell rowOf rowsOf part ld rowAt bt cw dG ei iu bK dm eB fY e6 dt ep di dh dV dW bU bd cZ bQ db da ek er eo cY ck dj ej bP aQ dd cJ iq br cN bV aZ dr bc dH AV.undef bF bJ dX eh dR dO cK eA eC cI ev eu dc de List.getD_cons_zero List.getD_cons_succ List.getD_nil List.all_cons List.all_nil Bool.and_true Bool.true_and Bool.and_self Bool.not_true Bool.not_false Option.map_some Option.map_none Option.bind_some Option.bind_none List.length_cons List.length_nil List.take_succ_cons List.take_zero List.take_nil List.drop_succ_cons List.drop_zero List.drop_nil List.head?_cons List.map_cons List.map_nil List.getElem?_cons_zero List.getElem?_cons_succ List.cons_append List.nil_append List.append_nil List.length_map List.set_cons_zero List.set_cons_succ Nat.reduceMul eq_self Int.toNat_natCast Int.natCast_nonneg and_self true_and and_true decide_true decide_false Bool.false_eq_true Nat.zero_add Nat.add_zero List.contains_cons List.contains_nil Bool.or_false Bool.false_or beq_self_eq_true Nat.reduceBEq ne_eq not_true_eq_false not_false_eq_true Id.mk.injEq false_and and_false Nat.reduceLT Int.reduceLE Int.reduceLT Int.reduceToNat Int.reduceNeg Int.reduceAdd Nat.le_refl List.length_append beq_true beq_false Bool.not_eq_eq_eq_not or_false false_or dP ai aq aI bh bE cz aY bl aV bf cW bH
def jf (n lo hi:Int):Bool:=decide (lo<=n)&&decide (n<=hi)
theorem ez {n lo hi:Int} (h:jf n lo hi=true):lo<=n/\n<=hi:=by simpa[jf]using h
theorem lf {n lo hi:Int} (h:lo<=n/\n<=hi):jf n lo hi=true:=by simpa[jf]using h
def CO (p:aH):Bool:=jf p.fb (-60) 60&&jf p.eV (-60) 60
theorem l6 (n lo hi:Int):aj Tryz.prog 95 [.int .i64 n,.int .i64 lo,.int .i64 hi] (.bool (jf n lo hi)):=by
 refine aj.body eI rfl fun hl n0=>?_
 clear hl
 by_cases h1:lo<=n
 ·(try((repeat(revert hN;revert N;apply Pn.out));refine wk @h1 ?_;(repeat(refine Pn.mk ?_;intro N hN))))
  exact aU (b:=decide (n<=hi)) (.inl rfl) (sd @Nat.zero_add) (by simp[jf,h1])
 ·(try((repeat(revert hN;revert N;apply Pn.out));refine wk @h1 ?_;(repeat(refine Pn.mk ?_;intro N hN))))
  exact aU (b:=false) (.inl rfl) (sd @Nat.zero_add) (by simp[jf,h1])
theorem lz (n lo hi:Int):aj Tryz.prog 98 [.int .i64 n,.int .i64 lo,.int .i64 hi] (.bool (jf n lo hi)):=by
 refine aj.body eI rfl fun hl n0=>?_
 clear hl
 by_cases h1:lo<=n
 ·(try((repeat(revert hN;revert N;apply Pn.out));refine wk @h1 ?_;(repeat(refine Pn.mk ?_;intro N hN))))
  exact aU (b:=decide (n<=hi)) (.inl rfl) (sd @Nat.zero_add) (by simp[jf,h1])
 ·(try((repeat(revert hN;revert N;apply Pn.out));refine wk @h1 ?_;(repeat(refine Pn.mk ?_;intro N hN))))
  exact aU (b:=false) (.inl rfl) (sd @Nat.zero_add) (by simp[jf,h1])
theorem JG (d:Int):aj Tryz.prog 278 [.int .i64 d] (.bool (jf d 0 3)):=by
 refine aj.body eI rfl fun hl n0=>?_
 clear hl
 have h:=l6 d 0 3
 (repeat(first|((repeat(revert hN;revert N;apply Pn.out));refine wk @Nat.zero_add ?_;(repeat(refine Pn.mk ?_;intro N hN)))|((try apply Or.inl);refine⟨_,aj.x (h) (sd @Nat.zero_add),?_⟩;refine hN _ _ ?_;clear hN N)))
 exact aU (b:=jf d 0 3) (.inl rfl) (sd @Nat.zero_add) rfl
theorem xb (p:aH):aj Tryz.prog 222 [.agg (ah p)] (.bool (CO p)):=by
 refine aj.body eI rfl fun hl n0=>?_
 clear hl
 have h1:=l6 p.fb (-60) 60
 have h2:=l6 p.eV (-60) 60
 by_cases q:jf p.fb (-60) 60=true
 ·rw[q]at h1
  (repeat(first|((repeat(revert hN;revert N;apply Pn.out));refine wk @ah.eq_1 ?_;(repeat(refine Pn.mk ?_;intro N hN)))|((try apply Or.inl);refine⟨_,aj.x (h1) (sd @ah.eq_1),?_⟩;refine hN _ _ ?_;clear hN N)|((try apply Or.inl);refine⟨_,aj.x (h2) (sd @ah.eq_1),?_⟩;refine hN _ _ ?_;clear hN N)))
  exact aU (b:=jf p.eV (-60) 60) (.inl rfl) (sd @Nat.zero_add) (by rw[CO,q];rfl)
 ·rw[Bool.not_eq_true]at q
  rw[q]at h1
  (repeat(first|((repeat(revert hN;revert N;apply Pn.out));refine wk @ah.eq_1 ?_;(repeat(refine Pn.mk ?_;intro N hN)))|((try apply Or.inl);refine⟨_,aj.x (h1) (sd @ah.eq_1),?_⟩;refine hN _ _ ?_;clear hN N)|((try apply Or.inl);refine⟨_,aj.x (h2) (sd @ah.eq_1),?_⟩;refine hN _ _ ?_;clear hN N)))
  exact aU (b:=false) (.inl rfl) (sd @Nat.zero_add) (by rw[CO,q];rfl)
theorem rX (p:aH):aj Tryz.prog 256 [.agg (ah p)] (.bool (CO p)):=by
 refine aj.body eI rfl fun hl n0=>?_
 clear hl
 have h1:=lz p.fb (-60) 60
 have h2:=lz p.eV (-60) 60
 by_cases q:jf p.fb (-60) 60=true
 ·rw[q]at h1
  (repeat(first|((repeat(revert hN;revert N;apply Pn.out));refine wk @ah.eq_1 ?_;(repeat(refine Pn.mk ?_;intro N hN)))|((try apply Or.inl);refine⟨_,aj.x (h1) (sd @ah.eq_1),?_⟩;refine hN _ _ ?_;clear hN N)|((try apply Or.inl);refine⟨_,aj.x (h2) (sd @ah.eq_1),?_⟩;refine hN _ _ ?_;clear hN N)))
  exact aU (b:=jf p.eV (-60) 60) (.inl rfl) (sd @Nat.zero_add) (by rw[CO,q];rfl)
 ·rw[Bool.not_eq_true]at q
  rw[q]at h1
  (repeat(first|((repeat(revert hN;revert N;apply Pn.out));refine wk @ah.eq_1 ?_;(repeat(refine Pn.mk ?_;intro N hN)))|((try apply Or.inl);refine⟨_,aj.x (h1) (sd @ah.eq_1),?_⟩;refine hN _ _ ?_;clear hN N)|((try apply Or.inl);refine⟨_,aj.x (h2) (sd @ah.eq_1),?_⟩;refine hN _ _ ?_;clear hN N)))
  exact aU (b:=false) (.inl rfl) (sd @Nat.zero_add) (by rw[CO,q];rfl)
def tQ (d:Int):Int:=if jf d 0 3 then(d+2) % 4 else -1
def dB (p:aH) (d:Int):aH:=
 if d=0 then⟨p.fb,p.eV+1⟩else if d=1 then⟨p.fb+1,p.eV⟩else if d=2 then⟨p.fb,p.eV-1⟩else if d=3 then⟨p.fb-1,p.eV⟩else p
def iB (n:Int):Prop:=-4611686018427387904<=n/\n<=4611686018427387904
theorem zl (p:aH) (d:Int) (hd:jf d 0 3=true) (hx:iB p.fb) (hy:iB p.eV):aj Tryz.prog 221 [.agg (ah p),.int .i64 d] (.agg (ah (dB p d))):=by
 refine aj.body eI rfl fun hl n0=>?_
 clear hl
 obtain⟨x1,x2⟩:=hx
 obtain⟨y1,y2⟩:=hy
 have w1:IntKind.i64.wrap (p.fb+1)=p.fb+1:=bz (by omega)
 have w2:IntKind.i64.wrap (p.fb-1)=p.fb-1:=bz (by omega)
 have w3:IntKind.i64.wrap (p.eV+1)=p.eV+1:=bz (by omega)
 have w4:IntKind.i64.wrap (p.eV-1)=p.eV-1:=bz (by omega)
 have hb:=ez hd
 have hc:d=0∨d=1∨d=2∨d=3:=by omega
 rcases hc with rfl|rfl|rfl|rfl
 ·(try((repeat(revert hN;revert N;apply Pn.out));refine wk (tw @ah.eq_1 @w3) ?_;(repeat(refine Pn.mk ?_;intro N hN))))
  exact pK (.inl rfl) (vs:=[.agg (ah (dB p 0))]) (by simp only[go_sem, ↓reduceIte,Nat.reduceEqDiff,Nat.reduceAdd,Nat.reduceSub,Nat.reduceLeDiff,reduceCtorEq,fA,iD,ah,dB]) (by simp[fj,ah,gE,ef])
 ·(try((repeat(revert hN;revert N;apply Pn.out));refine wk (tw @ah.eq_1 @w1) ?_;(repeat(refine Pn.mk ?_;intro N hN))))
  exact pK (.inl rfl) (vs:=[.agg (ah (dB p 1))]) (by simp[fA,iD,ah,dB,ld,rowAt,bt,upd,part]) (by simp[fj,ah,gE,ef])
 ·(try((repeat(revert hN;revert N;apply Pn.out));refine wk (tw @ah.eq_1 @w4) ?_;(repeat(refine Pn.mk ?_;intro N hN))))
  exact pK (.inl rfl) (vs:=[.agg (ah (dB p 2))]) (by simp[fA,iD,ah,dB,ld,rowAt,bt,upd,part]) (by simp[fj,ah,gE,ef])
 ·(try((repeat(revert hN;revert N;apply Pn.out));refine wk (tw @ah.eq_1 @w2) ?_;(repeat(refine Pn.mk ?_;intro N hN))))
  exact pK (.inl rfl) (vs:=[.agg (ah (dB p 3))]) (by simp[fA,iD,ah,dB,ld,rowAt,bt,upd,part]) (by simp[fj,ah,gE,ef])
theorem AH (p p2:aH) (x y:Int) (hx:IntKind.i64.wrap (p.fb+p2.fb)=x) (hy:IntKind.i64.wrap (p.eV+p2.eV)=y):aj Tryz.prog 280 [.agg (ah p),.agg (ah p2)] (.agg [.int .i64 x,.int .i64 y]):=by
 refine aj.body eI rfl fun hl n0=>?_
 clear hl
 (try((repeat(revert hN;revert N;apply Pn.out));refine wk (tw @ah.eq_1 (tw @hx @hy)) ?_;(repeat(refine Pn.mk ?_;intro N hN))))
 exact pK (.inl rfl) (vs:=[.agg [.int .i64 x,.int .i64 y]]) (by simp only[go_sem, ↓reduceIte,Nat.reduceEqDiff,Nat.reduceAdd,Nat.reduceSub,Nat.reduceLeDiff,reduceCtorEq,fA,iD,ah]) (by simp[fj,gE,ef])
theorem EV (p:aH) (d:Int) (hd:jf d 0 3=true) (hx:iB p.fb) (hy:iB p.eV):aj Tryz.prog 228 [.agg (ah p),.int .i64 d] (.agg (ah (dB p d))):=by
 refine aj.body eI rfl fun hl n0=>?_
 clear hl
 obtain⟨x1,x2⟩:=hx
 obtain⟨y1,y2⟩:=hy
 have hb:=ez hd
 have hc:d=0∨d=1∨d=2∨d=3:=by omega
 rcases hc with rfl|rfl|rfl|rfl
 ·have h:=AH p ⟨0,1⟩ (p.fb) (p.eV+1) (by rw[bz (by constructor<;>simp only<;>omega)]<;>(try simp only)<;>(try omega)) (by rw[bz (by constructor<;>simp only<;>omega)]<;>(try simp only)<;>(try omega))
  simp only[ah]at h
  (repeat(first|((repeat(revert hN;revert N;apply Pn.out));refine wk @ah.eq_1 ?_;(repeat(refine Pn.mk ?_;intro N hN)))|((try apply Or.inl);refine⟨_,aj.x (h) (sd @ah.eq_1),?_⟩;refine hN _ _ ?_;clear hN N)))
  exact pK (.inl rfl) (vs:=[.agg (ah (dB p 0))]) (by simp[fA,iD,ah,dB,ld,rowAt,bt,upd,part]) (by simp[fj,ah,gE,ef])
 ·have h:=AH p ⟨1,0⟩ (p.fb+1) (p.eV) (by rw[bz (by constructor<;>simp only<;>omega)]<;>(try simp only)<;>(try omega)) (by rw[bz (by constructor<;>simp only<;>omega)]<;>(try simp only)<;>(try omega))
  simp only[ah]at h
  (repeat(first|((repeat(revert hN;revert N;apply Pn.out));refine wk @ah.eq_1 ?_;(repeat(refine Pn.mk ?_;intro N hN)))|((try apply Or.inl);refine⟨_,aj.x (h) (sd @ah.eq_1),?_⟩;refine hN _ _ ?_;clear hN N)))
  exact pK (.inl rfl) (vs:=[.agg (ah (dB p 1))]) (by simp[fA,iD,ah,dB,ld,rowAt,bt,upd,part]) (by simp[fj,ah,gE,ef])
 ·have h:=AH p ⟨0,(-1)⟩ (p.fb) (p.eV-1) (by rw[bz (by constructor<;>simp only<;>omega)]<;>(try simp only)<;>(try omega)) (by rw[bz (by constructor<;>simp only<;>omega)]<;>(try simp only)<;>(try omega))
  simp only[ah]at h
  (repeat(first|((repeat(revert hN;revert N;apply Pn.out));refine wk @ah.eq_1 ?_;(repeat(refine Pn.mk ?_;intro N hN)))|((try apply Or.inl);refine⟨_,aj.x (h) (sd @ah.eq_1),?_⟩;refine hN _ _ ?_;clear hN N)))
  exact pK (.inl rfl) (vs:=[.agg (ah (dB p 2))]) (by simp[fA,iD,ah,dB,ld,rowAt,bt,upd,part]) (by simp[fj,ah,gE,ef])
 ·have h:=AH p ⟨(-1),0⟩ (p.fb-1) (p.eV) (by rw[bz (by constructor<;>simp only<;>omega)]<;>(try simp only)<;>(try omega)) (by rw[bz (by constructor<;>simp only<;>omega)]<;>(try simp only)<;>(try omega))
  simp only[ah]at h
  (repeat(first|((repeat(revert hN;revert N;apply Pn.out));refine wk @ah.eq_1 ?_;(repeat(refine Pn.mk ?_;intro N hN)))|((try apply Or.inl);refine⟨_,aj.x (h) (sd @ah.eq_1),?_⟩;refine hN _ _ ?_;clear hN N)))
  exact pK (.inl rfl) (vs:=[.agg (ah (dB p 3))]) (by simp[fA,iD,ah,dB,ld,rowAt,bt,upd,part]) (by simp[fj,ah,gE,ef])
theorem EA (d:Int) (hd:jf d 0 3=true):aj Tryz.prog 304 [.int .i64 d] (.int .i64 (tQ d)):=by
 refine aj.body eI rfl fun hl n0=>?_
 clear hl
 have hb:=ez hd
 have hw:IntKind.i64.wrap (d+2)=d+2:=bz (by omega)
 have ht:Int.tmod (d+2) 4=(d+2) % 4:=Int.tmod_eq_emod_of_nonneg (by omega)
 have h4:¬((4:Int)=0):=by omega
 (try((repeat(revert hN;revert N;apply Pn.out));refine wk (tw @hw (tw @ht @h4)) ?_;(repeat(refine Pn.mk ?_;intro N hN))))
 exact cr (b:=(d+2) % 4) (.inl rfl) (sd @Nat.zero_add) (by rw[tQ,if_pos hd])
theorem Dt (d:Int) (hd:jf d 0 3=true):aj Tryz.prog 224 [.int .i64 d] (.int .i64 (tQ d)):=by
 refine aj.body eI rfl fun hl n0=>?_
 clear hl
 have hb:=ez hd
 have hw:IntKind.i64.wrap (d+2)=d+2:=bz (by omega)
 have ht:Int.tmod (d+2) 4=(d+2) % 4:=Int.tmod_eq_emod_of_nonneg (by omega)
 have h4:¬((4:Int)=0):=by omega
 have h:=JG d
 rw[hd]at h
 (repeat(first|((repeat(revert hN;revert N;apply Pn.out));refine wk (tw @hw (tw @ht @h4)) ?_;(repeat(refine Pn.mk ?_;intro N hN)))|((try apply Or.inl);refine⟨_,aj.x (h) (sd (tw @hw (tw @ht @h4))),?_⟩;refine hN _ _ ?_;clear hN N)))
 exact cr (b:=(d+2) % 4) (.inl rfl) (sd @Nat.zero_add) (by rw[tQ,if_pos hd])
def eO (s:aw) (t:Int):Bool:=jf t 0 ((s.ae.length:Int)-1)
theorem xc (s:aw) (t:Int):aj Tryz.prog 220 [.dn (ab s),.int .i64 t] (.bool (eO s t)):=by
 refine aj.body eI rfl fun hl n0=>?_
 have hn:s.ae.length<=9223372036854775807:=by
  have h1:=(hl (.dn (ab s)) (by simp)).Cq (a:=.sl (s.ae.map bG)) (by simp[ab])
  simpa using h1.len
 clear hl
 have hw:IntKind.i64.wrap ((s.ae.length:Int)-1)=(s.ae.length:Int)-1:=bz (by omega)
 have h:=l6 t 0 ((s.ae.length:Int)-1)
 (repeat(first|((repeat(revert hN;revert N;apply Pn.out));refine wk (tw @ab.eq_1 @hw) ?_;(repeat(refine Pn.mk ?_;intro N hN)))|((try apply Or.inl);refine⟨_,aj.x (h) (sd (tw @ab.eq_1 @hw)),?_⟩;refine hN _ _ ?_;clear hN N)))
 exact aU (b:=eO s t) (.inl rfl) (by simp only[go_sem, ↓reduceIte,Nat.reduceEqDiff,Nat.reduceAdd,Nat.reduceSub,Nat.reduceLeDiff,reduceCtorEq,eO]) rfl
theorem zj (t n:Int) (h0:0<=n) (h1:n<=9223372036854775807):aj Tryz.prog 257 [.int .i64 t,.int .i64 n] (.bool (jf t 0 (n-1))):=by
 refine aj.body eI rfl fun hl n0=>?_
 clear hl
 have hw:IntKind.i64.wrap (n-1)=n-1:=bz (by omega)
 have h:=lz t 0 (n-1)
 (repeat(first|((repeat(revert hN;revert N;apply Pn.out));refine wk @hw ?_;(repeat(refine Pn.mk ?_;intro N hN)))|((try apply Or.inl);refine⟨_,aj.x (h) (sd @hw),?_⟩;refine hN _ _ ?_;clear hN N)))
 exact aU (b:=jf t 0 (n-1)) (.inl rfl) (sd @Nat.zero_add) rfl
theorem JF (s:aw) (t:Int):aj Tryz.prog 203 [.agg (ab s),.int .i64 t] (.bool (eO s t)):=by
 refine aj.body eI rfl fun hl n0=>?_
 have hn:s.ae.length<=9223372036854775807:=by
  have h1:=(hl (.agg (ab s)) (by simp)).N1 (a:=.sl (s.ae.map bG)) (by simp[ab])
  simpa using h1.len
 clear hl
 have h:=zj t s.ae.length (by omega) (by omega)
 (repeat(first|((repeat(revert hN;revert N;apply Pn.out));refine wk @ab.eq_1 ?_;(repeat(refine Pn.mk ?_;intro N hN)))|((try apply Or.inl);refine⟨_,aj.x (h) (sd @ab.eq_1),?_⟩;refine hN _ _ ?_;clear hN N)))
 exact aU (b:=eO s t) (.inl rfl) (by simp only[go_sem, ↓reduceIte,Nat.reduceEqDiff,Nat.reduceAdd,Nat.reduceSub,Nat.reduceLeDiff,reduceCtorEq,eO]) rfl
def AE:eU:=⟨⟨#[]⟩,[]⟩
def dz (s:aw) (t:Int):eU:=s.ae.getD t.toNat AE
def dy (t:eU) (d:Int):Int:=t.bx.getD d.toNat 0
def qY (s:aw) (g:Int):fF:=s.ay.getD g.toNat ⟨⟨#[]⟩,0⟩
def tZ (s:aw) (g:Int):Int:=if g=0 then 0 else(qY s (g-1)).eD
def ib (s:aw) (a d b:Int):Int:=if dy (dz s a) d=dy (dz s b) (tQ d)then tZ s (dy (dz s a) d)else 0
structure kU (s:aw):Prop where
 xI:∀t∈s.ae,t.bx.length=4
 wS:∀t∈s.ae,∀g∈t.bx,0<=g/\g<=s.ay.length
theorem getD_map {α β:Type} (e:α->β) {l:List α} {k:Nat} {d:α} (h:k<l.length):(l.map e)[k]? =some (e (l.getD k d)):=by simp[List.getD_eq_getElem?_getD,h]
theorem yy (s:aw) (g:Int) (h0:0<=g) (h1:g<=s.ay.length):aj Tryz.prog 225 [.dn (ab s),.int .i64 g] (.int .i64 (tZ s g)):=by
 refine aj.body eI rfl fun hl n0=>?_
 have hn:s.ay.length<=9223372036854775807:=by
  have h1:=(hl (.dn (ab s)) (by simp)).Cq (a:=.sl (s.ay.map cj)) (by simp[ab])
  simpa using h1.len
 clear hl
 by_cases hg:g=0
 ·have e:decide (g=0)=true:=decide_eq_true hg
  (try((repeat(revert hN;revert N;apply Pn.out));refine wk (tw @ab.eq_1 @e) ?_;(repeat(refine Pn.mk ?_;intro N hN))))
  exact cr (b:=0) (.inl rfl) (sd @Nat.zero_add) (by rw[tZ,if_pos hg])
 ·have e:decide (g=0)=false:=decide_eq_false hg
  have hw:IntKind.i64.wrap (g-1)=g-1:=bz (by omega)
  have rf:0<=g-1:=by omega
  have fq:(s.ay.map cj)[(g-1).toNat]? =some (cj (qY s (g-1))):=getD_map cj (by omega)
  (try((repeat(revert hN;revert N;apply Pn.out));refine wk (tw @ab.eq_1 (tw @e (tw @hw (tw @rf (tw @fq @cj.eq_1))))) ?_;(repeat(refine Pn.mk ?_;intro N hN))))
  exact cr (b:=(qY s (g-1)).eD) (.inl rfl) (sd @Nat.zero_add) (by rw[tZ,if_neg hg])
theorem pR {s:aw} {a:Int} (h:eO s a=true):0<=a/\(s.ae.map bG)[a.toNat]? =some (bG (dz s a))/\dz s a∈s.ae:=by
 have h':=ez h
 have dY:a.toNat<s.ae.length:=by omega
 refine⟨h'.1,getD_map bG dY,?_⟩
 unfold dz
 rw[List.getD_eq_getElem?_getD,List.getElem?_eq_getElem dY]
 exact List.getElem_mem dY
theorem pN {t:eU} {d:Int} (h:t.bx.length=4) (hd:jf d 0 3=true):(t.bx.map bq)[d.toNat]? =some [.int .i64 (dy t d)]:=by
 have:=ez hd
 exact getD_map bq (by omega)
theorem CX {t:eU} {d:Int} (h:t.bx.length=4) (hd:jf d 0 3=true):dy t d∈t.bx:=by
 have:=ez hd
 have dY:d.toNat<t.bx.length:=by omega
 unfold dy
 rw[List.getD_eq_getElem?_getD,List.getElem?_eq_getElem dY]
 exact List.getElem_mem dY
theorem AF {d:Int} (hd:jf d 0 3=true):jf (tQ d) 0 3=true:=by
 have:=ez hd
 refine lf ?_
 rw[tQ,if_pos hd];omega
theorem zm (s:aw) (hF:kU s) (a d b:Int) (ha:eO s a=true) (hb:eO s b=true) (hd:jf d 0 3=true):aj Tryz.prog 190 [.dn (ab s),.int .i64 a,.int .i64 d,.int .i64 b] (.int .i64 (ib s a d b)):=by
 refine aj.body eI rfl fun hl n0=>?_
 clear hl
 obtain⟨a0,a1,a2⟩:=pR ha
 obtain⟨b0,b1,b2⟩:=pR hb
 have s1:=pN (hF.xI _ a2) hd
 have s2:=pN (hF.xI _ b2) (AF hd)
 have gl:=hF.wS _ a2 _ (CX (hF.xI _ a2) hd)
 have d0:=(ez hd).1
 have d1:=(ez (AF hd)).1
 have h:=Dt d hd
 have hs:=yy s (dy (dz s a) d) gl.1 gl.2
 rw[ab]at hs
 by_cases e:dy (dz s a) d=dy (dz s b) (tQ d)
 ·have e':decide (dy (dz s a) d=dy (dz s b) (tQ d))=true:=decide_eq_true e
  (repeat(first|((repeat(revert hN;revert N;apply Pn.out));refine wk (tw @ab.eq_1 (tw @bG.eq_1 (tw @a0 (tw @a1 (tw @b0 (tw @b1 (tw @s1 (tw @s2 (tw @d0 (tw @d1 @e')))))))))) ?_;(repeat(refine Pn.mk ?_;intro N hN)))|((try apply Or.inl);refine⟨_,aj.x (h) (sd (tw @ab.eq_1 (tw @bG.eq_1 (tw @a0 (tw @a1 (tw @b0 (tw @b1 (tw @s1 (tw @s2 (tw @d0 (tw @d1 @e'))))))))))),?_⟩;refine hN _ _ ?_;clear hN N)|((try apply Or.inl);refine⟨_,aj.x (hs) (sd (tw @ab.eq_1 (tw @bG.eq_1 (tw @a0 (tw @a1 (tw @b0 (tw @b1 (tw @s1 (tw @s2 (tw @d0 (tw @d1 @e'))))))))))),?_⟩;refine hN _ _ ?_;clear hN N)))
  exact cr (b:=tZ s (dy (dz s a) d)) (.inl rfl) (sd @Nat.zero_add) (by rw[ib,if_pos e])
 ·have e':decide (dy (dz s a) d=dy (dz s b) (tQ d))=false:=decide_eq_false e
  (repeat(first|((repeat(revert hN;revert N;apply Pn.out));refine wk (tw @ab.eq_1 (tw @bG.eq_1 (tw @a0 (tw @a1 (tw @b0 (tw @b1 (tw @s1 (tw @s2 (tw @d0 (tw @d1 @e')))))))))) ?_;(repeat(refine Pn.mk ?_;intro N hN)))|((try apply Or.inl);refine⟨_,aj.x (h) (sd (tw @ab.eq_1 (tw @bG.eq_1 (tw @a0 (tw @a1 (tw @b0 (tw @b1 (tw @s1 (tw @s2 (tw @d0 (tw @d1 @e'))))))))))),?_⟩;refine hN _ _ ?_;clear hN N)))
  exact cr (b:=0) (.inl rfl) (sd @Nat.zero_add) (by rw[ib,if_neg e])
theorem EY (s:aw) (hF:kU s) (a d:Int) (ha:eO s a=true) (hd:jf d 0 3=true):aj Tryz.prog 305 [.agg (ab s),.int .i64 a,.int .i64 d] (.int .i64 (tZ s (dy (dz s a) d))):=by
 refine aj.body eI rfl fun hl n0=>?_
 have hn:s.ay.length<=9223372036854775807:=by
  have h1:=(hl (.agg (ab s)) (by simp)).N1 (a:=.sl (s.ay.map cj)) (by simp[ab])
  simpa using h1.len
 clear hl
 obtain⟨a0,a1,a2⟩:=pR ha
 have s1:=pN (hF.xI _ a2) hd
 have gl:=hF.wS _ a2 _ (CX (hF.xI _ a2) hd)
 have d0:=(ez hd).1
 by_cases hg:dy (dz s a) d=0
 ·have e:¬(0<dy (dz s a) d):=by omega
  (try((repeat(revert hN;revert N;apply Pn.out));refine wk (tw @ab.eq_1 (tw @bG.eq_1 (tw @a0 (tw @a1 (tw @s1 (tw @d0 @e)))))) ?_;(repeat(refine Pn.mk ?_;intro N hN))))
  exact cr (b:=0) (.inl rfl) (sd @Nat.zero_add) (by rw[tZ,if_pos hg])
 ·have e:0<dy (dz s a) d:=by omega
  have hw:IntKind.i64.wrap (dy (dz s a) d-1)=dy (dz s a) d-1:=bz (by omega)
  have rf:0<=dy (dz s a) d-1:=by omega
  have fq:(s.ay.map cj)[(dy (dz s a) d-1).toNat]? =some (cj (qY s (dy (dz s a) d-1))):=getD_map cj (by omega)
  (try((repeat(revert hN;revert N;apply Pn.out));refine wk (tw @ab.eq_1 (tw @bG.eq_1 (tw @a0 (tw @a1 (tw @s1 (tw @d0 (tw @e (tw @hw (tw @rf (tw @fq @cj.eq_1)))))))))) ?_;(repeat(refine Pn.mk ?_;intro N hN))))
  exact cr (b:=(qY s (dy (dz s a) d-1)).eD) (.inl rfl) (sd @Nat.zero_add) (by rw[tZ,if_neg hg])
theorem Iy (s:aw) (hF:kU s) (a d b:Int) (ha:eO s a=true) (hb:eO s b=true) (hd:jf d 0 3=true):aj Tryz.prog 261 [.agg (ab s),.int .i64 a,.int .i64 d,.int .i64 b] (.int .i64 (ib s a d b)):=by
 refine aj.body eI rfl fun hl n0=>?_
 clear hl
 obtain⟨a0,a1,a2⟩:=pR ha
 obtain⟨b0,b1,b2⟩:=pR hb
 have s1:=pN (hF.xI _ a2) hd
 have s2:=pN (hF.xI _ b2) (AF hd)
 have d0:=(ez hd).1
 have d1:=(ez (AF hd)).1
 have h:=EA d hd
 have hs:=EY s hF a d ha hd
 rw[ab]at hs
 by_cases e:dy (dz s a) d=dy (dz s b) (tQ d)
 ·have e':decide (dy (dz s a) d=dy (dz s b) (tQ d))=true:=decide_eq_true e
  (repeat(first|((repeat(revert hN;revert N;apply Pn.out));refine wk (tw @ab.eq_1 (tw @bG.eq_1 (tw @a0 (tw @a1 (tw @b0 (tw @b1 (tw @s1 (tw @s2 (tw @d0 (tw @d1 @e')))))))))) ?_;(repeat(refine Pn.mk ?_;intro N hN)))|((try apply Or.inl);refine⟨_,aj.x (h) (sd (tw @ab.eq_1 (tw @bG.eq_1 (tw @a0 (tw @a1 (tw @b0 (tw @b1 (tw @s1 (tw @s2 (tw @d0 (tw @d1 @e'))))))))))),?_⟩;refine hN _ _ ?_;clear hN N)|((try apply Or.inl);refine⟨_,aj.x (hs) (sd (tw @ab.eq_1 (tw @bG.eq_1 (tw @a0 (tw @a1 (tw @b0 (tw @b1 (tw @s1 (tw @s2 (tw @d0 (tw @d1 @e'))))))))))),?_⟩;refine hN _ _ ?_;clear hN N)))
  exact cr (b:=tZ s (dy (dz s a) d)) (.inl rfl) (sd @Nat.zero_add) (by rw[ib,if_pos e])
 ·have e':decide (dy (dz s a) d=dy (dz s b) (tQ d))=false:=decide_eq_false e
  (repeat(first|((repeat(revert hN;revert N;apply Pn.out));refine wk (tw @ab.eq_1 (tw @bG.eq_1 (tw @a0 (tw @a1 (tw @b0 (tw @b1 (tw @s1 (tw @s2 (tw @d0 (tw @d1 @e')))))))))) ?_;(repeat(refine Pn.mk ?_;intro N hN)))|((try apply Or.inl);refine⟨_,aj.x (h) (sd (tw @ab.eq_1 (tw @bG.eq_1 (tw @a0 (tw @a1 (tw @b0 (tw @b1 (tw @s1 (tw @s2 (tw @d0 (tw @d1 @e'))))))))))),?_⟩;refine hN _ _ ?_;clear hN N)))
  exact cr (b:=0) (.inl rfl) (sd @Nat.zero_add) (by rw[ib,if_neg e])
def qo (s:aw) (i:Nat):fF:=s.ay.getD i ⟨⟨#[]⟩,0⟩
def pP (s:aw) (i:Nat):eU:=s.ae.getD i AE
def Dr (s:aw) (i:Nat):Prop:=jS (qo s i).aE=true/\jf (qo s i).eD 1 4=true/\∀j,j<i->(qo s j).aE≠(qo s i).aE
def By (s:aw) (i:Nat):Prop:=jS (pP s i).aE=true/\(pP s i).bx.length=4/\(∀j,j<i->(pP s j).aE≠(pP s i).aE)/\∀g∈(pP s i).bx,jf g 0 s.ay.length=true
structure iF (s:aw):Prop where
 wS:s.ay.length<=200
 some:1<=s.ae.length
 KF:s.ae.length<=160
 SM:∀i,i<s.ay.length->Dr s i
 tok:∀i,i<s.ae.length->By s i
noncomputable def rK (s:aw):Bool:=@decide (iF s) (Classical.propDecidable _)
theorem mW {s:aw}:rK s=true↔iF s:=by simp[rK]
theorem fI {s:aw} (h:¬iF s):false=rK s:=by simp[rK,h]
theorem CW {s:aw} (h:iF s):true=rK s:=by simp[rK,h]
theorem AX {s:aw} {i:Nat} (h:i<s.ae.length):(s.ae.map bG)[i]? =some (bG (pP s i)):=getD_map bG h
theorem Ac {s:aw} {i:Nat} (h:i<s.ay.length):(s.ay.map cj)[i]? =some (cj (qo s i)):=getD_map cj h
theorem iF.form {s:aw} (h:iF s):kU s:=by
 have key:∀t∈s.ae,∃i,i<s.ae.length/\t=pP s i:=fun t ht=>by
  obtain⟨i,hi,rfl⟩:=List.getElem_of_mem ht
  exact⟨i,hi,by simp[pP,List.getD_eq_getElem?_getD,hi]⟩
 refine⟨fun t ht=>?_,fun t ht g hg=>?_⟩
 ·obtain⟨i,hi,rfl⟩:=key t ht
  exact(h.tok i hi).2.1
 ·obtain⟨i,hi,rfl⟩:=key t ht
  exact ez ((h.tok i hi).2.2.2 g hg)
def dC (l:List ByteArray):List (List AV):=l.map fun n=>[.str n,.bool true]
abbrev mS:MK:=⟨false,[.tS]⟩
theorem zI (n:ByteArray):∀(l:List ByteArray) (i:Nat),∃r,gn mS [.str n] (dC l) i=some r/\((r=none/\n∉l)∨∃j,r=some (i+j)/\n∈l/\(dC l)[j]? =some [.str n,.bool true])
 |[],i=>⟨none,rfl,.inl ⟨rfl,by simp⟩⟩
 |m::l,i=>by
  obtain⟨r,h1,h2⟩:=zI n l (i+1)
  by_cases h:n=m
  ·subst h
   exact⟨some i,by simp[dC,gn,e6,fY,MK.ks],.inr ⟨0,rfl,by simp,rfl⟩⟩
  ·refine⟨r,?_,?_⟩
   ·unfold dC at h1 ⊢
    simp only[List.map_cons,gn,MK.ks,List.length_cons,List.length_nil,Nat.zero_add,List.take_succ_cons,List.take_zero,e6,fY,h,decide_false,Bool.and_true]
    exact h1
   ·rcases h2 with⟨rfl,h2⟩|⟨j,rfl,h2,h3⟩
    ·exact .inl ⟨rfl,by simp[h,h2]⟩
    ·exact .inr ⟨j+1,by congr 1;omega,by simp[h2],by simpa[dC]using h3⟩
theorem xG (n:ByteArray) (l:List ByteArray):(n∉l/\fR mS (.str n) (dC l)=some none)∨∃j,n∈l/\fR mS (.str n) (dC l)=some (some j)/\(dC l)[j]? =some [.str n,.bool true]:=by
 obtain⟨r,h1,h2⟩:=zI n l 0
 have e:fR mS (.str n) (dC l)=some r:=by
  unfold fR
  rw[if_pos ⟨rfl,rfl,rfl⟩];exact h1
 rcases h2 with⟨rfl,h2⟩|⟨j,rfl,h2,h3⟩
 ·exact .inl ⟨h2,e⟩
 ·exact .inr ⟨j,h2,by rw[e,Nat.zero_add],h3⟩
theorem PF (s:aw) (g:Int):aj Tryz.prog 255 [.int .i64 g,.dn (ab s)] (.bool (!jf g 0 s.ay.length)):=by
 refine aj.body eI rfl fun hl n0=>?_
 clear hl
 have h:=lz g 0 s.ay.length
 (repeat(first|((repeat(revert hN;revert N;apply Pn.out));refine wk @ab.eq_1 ?_;(repeat(refine Pn.mk ?_;intro N hN)))|((try apply Or.inl);refine⟨_,aj.x (h) (sd @ab.eq_1),?_⟩;refine hN _ _ ?_;clear hN N)))
 exact aU (b:= !jf g 0 s.ay.length) (.inl rfl) (sd @Nat.zero_add) rfl
theorem LF:QK bq (fun c=>.int .i64 c) 1 false:=⟨fun _=>rfl,fun _=>rfl,fun x g=>by rw[ai,aI,aq];rfl⟩
theorem MO (s:aw) (l:List Int) (hl:l.length<=1048576):aj Tryz.prog 226 [.sl (l.map bq),.fn 255 [.dn (ab s)]] (.bool (l.any fun g=> !jf g 0 s.ay.length)):=
 kZ LF (show mz Tryz.prog 226=some (Af 226 279) by kernel_rfl)
  (show mz Tryz.prog 279=some (tH 279 1 false) by kernel_rfl) l hl _ _ _ rfl (fun g=>by rw[ai,aV,aq];rfl) (fun x _=>PF s x) fun g=>by rw[ai,aV,aq];rfl
theorem xj {α:Type} (f:Nat->α) (n k:Nat) (x:α):x∉(List.range k).map f↔∀j,j<k->f j≠x:=by
 constructor
 ·intro h j hj he
  exact h (List.mem_map.2 ⟨j,List.mem_range.2 hj,he⟩)
 ·intro h hm
  obtain⟨j,hj,he⟩:=List.mem_map.1 hm
  exact h j (List.mem_range.1 hj) he
theorem Dv (s:aw) (hn:gF s) (hg:s.ay.length<=1048576) (ht:s.ae.length<=1048576) (hs:∀t∈s.ae,t.bx.length<=1048576):aj Tryz.prog 199 [.agg (ab s)] (.bool (rK s)):=by
 refine aj.body eI rfl fun hl n0=>?_
 clear hl
 have Rv:∀i,i<s.ay.length->(qo s i).aE.size<=9223372036854775807:=fun i hi=>hn.1 _ (by simp[qo,List.getD_eq_getElem?_getD,hi])
 have RQ:∀i,i<s.ae.length->(pP s i).aE.size<=9223372036854775807:=fun i hi=>hn.2 _ (by simp[pP,List.getD_eq_getElem?_getD,hi])
 have yv:∀i,i<s.ae.length->(pP s i).bx.length<=1048576:=fun i hi=>hs _ (by simp[pP,List.getD_eq_getElem?_getD,hi])
 have hw:=lz (s.ae.length:Int) 1 160
 by_cases h1:(200:Int)<(s.ay.length:Int)
 ·(try((repeat(revert hN;revert N;apply Pn.out));refine wk (tw @ab.eq_1 @h1) ?_;(repeat(refine Pn.mk ?_;intro N hN))))
  exact aU (b:=false) (.inl rfl) (sd @Nat.zero_add) (fI fun h=>by have:=h.wS;omega)
 by_cases h2:jf (s.ae.length:Int) 1 160=true
 ·have Dd:=ez h2
  rw[h2]at hw
  (repeat(first|((repeat(revert hN;revert N;apply Pn.out));refine wk (tw @ab.eq_1 @h1) ?_;(repeat(refine Pn.mk ?_;intro N hN)))|((try apply Or.inl);refine⟨_,aj.x (hw) (sd (tw @ab.eq_1 @h1)),?_⟩;refine hN _ _ ?_;clear hN N)))
  refine aW (fun n env st=>∃k:Nat,n=(s.ay.length)-k/\k<=(s.ay.length)/\env 24=.int .i64 (k:Int)/\st.get ⟨199000000,n0⟩=some ⟨true,2,[ab s]⟩/\st.get ⟨199003000,n0+1+1⟩=some ⟨true,mS.qd,dC ((List.range k).map fun i=>(qo s i).aE)⟩/\(∀j:Nat,j<k->Dr s j)) (s.ay.length) ⟨0,by omega,by omega,by(try simp only[go_sem, ↓reduceIte,Nat.reduceEqDiff,Nat.reduceAdd,Nat.reduceSub,Nat.reduceLeDiff,reduceCtorEq,ab,List.range_zero,List.map_nil,dC]);try rfl,by(try simp only[go_sem, ↓reduceIte,Nat.reduceEqDiff,Nat.reduceAdd,Nat.reduceSub,Nat.reduceLeDiff,reduceCtorEq,ab,List.range_zero,List.map_nil,dC]);try rfl,by(try simp only[go_sem, ↓reduceIte,Nat.reduceEqDiff,Nat.reduceAdd,Nat.reduceSub,Nat.reduceLeDiff,reduceCtorEq,ab,List.range_zero,List.map_nil,dC]);try rfl,fun _ h=>absurd h (Nat.not_lt_zero _)⟩ ?_
  rintro n_a env_a st_a ⟨k,rfl,ale,a24,ag0,ag1,mv⟩ dJ
  have a1:=dJ 1 (by kernel_rfl);have a3:=dJ 3 (by kernel_rfl);have a22:=dJ 22 (by kernel_rfl);have a23:=dJ 23 (by kernel_rfl)
  simp only[go_sem, ↓reduceIte,Nat.reduceEqDiff,Nat.reduceAdd,Nat.reduceSub,Nat.reduceLeDiff,reduceCtorEq,ab,List.range_zero,List.map_nil,dC]at a1 a3 a22 a23
  clear dJ
  by_cases hk:(k:Int)<(s.ay.length:Int)
  ·have cG:∀{e:Env} {gg:Rows},(e 24=.int .i64 (IntKind.i64.wrap ((k:Int)+1)))->(gg ⟨199000000,n0⟩=some ⟨true,2,[ab s]⟩)->(gg ⟨199003000,n0+1+1⟩=some ⟨true,mS.qd,dC ((List.range (k+1)).map fun i=>(qo s i).aE)⟩)->(Dr s k)->∃m0,m0<(s.ay.length)-k/\∃k:Nat,m0=(s.ay.length)-k/\k<=(s.ay.length)/\e 24=.int .i64 (k:Int)/\gg ⟨199000000,n0⟩=some ⟨true,2,[ab s]⟩/\gg ⟨199003000,n0+1+1⟩=some ⟨true,mS.qd,dC ((List.range k).map fun i=>(qo s i).aE)⟩/\(∀j:Nat,j<k->Dr s j):=fun x1 x2 x3 x4=>⟨_,by omega,k+1,rfl,by omega,(by rw[x1,aB (by omega)]),x2,x3,(all_succ mv x4)⟩
   have fE:k<s.ay.length:=by omega
   have eT:=Ac fE
   have tb:=FT (qo s k).aE (Rv k fE)
   have Lj:=lz (qo s k).eD 1 4
   have Cf:=xG (qo s k).aE ((List.range k).map fun i=>(qo s i).aE)
   rw[xj _ k]at Cf
   have lJ:(¬Dr s k)->¬iF s:=fun h hp=>h (hp.SM k fE)
   generalize vN:qo s k=gl at *
   cases hb:jS gl.aE
   ·rw[hb]at tb
    (repeat(first|((repeat(revert hN;revert N;apply Pn.out));refine wk (tw @a24 (tw @ag0 (tw @ag1 (tw @a1 (tw @a3 (tw @a22 (tw @a23 (tw @hk (tw @eT (tw @cj.eq_1 @ab.eq_1)))))))))) ?_;(repeat(refine Pn.mk ?_;intro N hN)))|((try apply Or.inl);refine⟨_,aj.x (tb) (sd (tw @a24 (tw @ag0 (tw @ag1 (tw @a1 (tw @a3 (tw @a22 (tw @a23 (tw @hk (tw @eT (tw @cj.eq_1 @ab.eq_1))))))))))),?_⟩;refine hN _ _ ?_;clear hN N)))
    exact aU (b:=false) (.inl rfl) (sd @Nat.zero_add) (fI (lJ fun h=>by rw[Dr,vN,hb]at h;cases h.1))
   ·rw[hb]at tb
    rcases Cf with⟨DY,mD⟩|⟨j,fB,mD,fV⟩
    ·cases dK:jf gl.eD 1 4
     ·rw[dK]at Lj
      (repeat(first|((repeat(revert hN;revert N;apply Pn.out));refine wk (tw @a24 (tw @ag0 (tw @ag1 (tw @a1 (tw @a3 (tw @a22 (tw @a23 (tw @hk (tw @eT (tw @mD (tw @cj.eq_1 @ab.eq_1))))))))))) ?_;(repeat(refine Pn.mk ?_;intro N hN)))|((try apply Or.inl);refine⟨_,aj.x (tb) (sd (tw @a24 (tw @ag0 (tw @ag1 (tw @a1 (tw @a3 (tw @a22 (tw @a23 (tw @hk (tw @eT (tw @mD (tw @cj.eq_1 @ab.eq_1)))))))))))),?_⟩;refine hN _ _ ?_;clear hN N)|((try apply Or.inl);refine⟨_,aj.x (Lj) (sd (tw @a24 (tw @ag0 (tw @ag1 (tw @a1 (tw @a3 (tw @a22 (tw @a23 (tw @hk (tw @eT (tw @mD (tw @cj.eq_1 @ab.eq_1)))))))))))),?_⟩;refine hN _ _ ?_;clear hN N)))
      exact aU (b:=false) (.inl rfl) (sd @Nat.zero_add) (fI (lJ fun h=>by rw[Dr,vN,dK]at h;cases h.2.1))
     ·rw[dK]at Lj
      have rh:dC ((List.range k).map fun i=>(qo s i).aE)++[[.str gl.aE,.bool true]]=dC (List.map (fun i=>(qo s i).aE) (List.range k++[k])):=by simp[dC,vN]
      (repeat(first|((repeat(revert hN;revert N;apply Pn.out));refine wk (tw @a24 (tw @ag0 (tw @ag1 (tw @a1 (tw @a3 (tw @a22 (tw @a23 (tw @hk (tw @eT (tw @mD (tw @cj.eq_1 @ab.eq_1))))))))))) ?_;(repeat(refine Pn.mk ?_;intro N hN)))|((try apply Or.inl);refine⟨_,aj.x (tb) (sd (tw @a24 (tw @ag0 (tw @ag1 (tw @a1 (tw @a3 (tw @a22 (tw @a23 (tw @hk (tw @eT (tw @mD (tw @cj.eq_1 @ab.eq_1)))))))))))),?_⟩;refine hN _ _ ?_;clear hN N)|((try apply Or.inl);refine⟨_,aj.x (Lj) (sd (tw @a24 (tw @ag0 (tw @ag1 (tw @a1 (tw @a3 (tw @a22 (tw @a23 (tw @hk (tw @eT (tw @mD (tw @cj.eq_1 @ab.eq_1)))))))))))),?_⟩;refine hN _ _ ?_;clear hN N)))
      refine cG ?_ ?_ ?_ (⟨by rw[vN];exact hb,by rw[vN];exact dK,fun j hj=>by rw[vN];exact DY j hj⟩)
      all_goals simp only[go_sem, ↓reduceIte,Nat.reduceEqDiff,Nat.reduceAdd,Nat.reduceSub,Nat.reduceLeDiff,reduceCtorEq,a24,ag0,ag1,a1,a3,a22,a23,mD,rh]
    ·(repeat(first|((repeat(revert hN;revert N;apply Pn.out));refine wk (tw @a24 (tw @ag0 (tw @ag1 (tw @a1 (tw @a3 (tw @a22 (tw @a23 (tw @hk (tw @eT (tw @mD (tw @fV (tw @cj.eq_1 @ab.eq_1)))))))))))) ?_;(repeat(refine Pn.mk ?_;intro N hN)))|((try apply Or.inl);refine⟨_,aj.x (tb) (sd (tw @a24 (tw @ag0 (tw @ag1 (tw @a1 (tw @a3 (tw @a22 (tw @a23 (tw @hk (tw @eT (tw @mD (tw @fV (tw @cj.eq_1 @ab.eq_1))))))))))))),?_⟩;refine hN _ _ ?_;clear hN N)))
     exact aU (b:=false) (.inl rfl) (sd @Nat.zero_add) (fI (lJ fun h=>by
      rw[Dr,vN]at h
      obtain⟨i,hi,he⟩:=List.mem_map.1 fB
      exact h.2.2 i (List.mem_range.1 hi) he))
  ·have mC:k=s.ay.length:=by omega
   (try((repeat(revert hN;revert N;apply Pn.out));refine wk (tw @a24 (tw @ag0 (tw @ag1 (tw @a1 (tw @a3 (tw @a22 (tw @a23 (tw @hk @ab.eq_1)))))))) ?_;(repeat(refine Pn.mk ?_;intro N hN))))
   refine aW (fun n env st=>∃j:Nat,n=(s.ae.length)-j/\j<=(s.ae.length)/\env 52=.int .i64 (j:Int)/\st.get ⟨199000000,n0⟩=some ⟨true,2,[ab s]⟩/\st.get ⟨199011000,st_a.next+1⟩=some ⟨true,mS.qd,dC ((List.range j).map fun i=>(pP s i).aE)⟩/\(∀i:Nat,i<j->By s i)/\(st_a.next<st.next)) (s.ae.length) ⟨0,by omega,by omega,by(try simp only[go_sem, ↓reduceIte,Nat.reduceEqDiff,Nat.reduceAdd,Nat.reduceSub,Nat.reduceLeDiff,reduceCtorEq,a24,ag0,ag1,a1,a3,a22,a23,ab,List.range_zero,List.map_nil,dC]);try rfl,by(try simp only[go_sem, ↓reduceIte,Nat.reduceEqDiff,Nat.reduceAdd,Nat.reduceSub,Nat.reduceLeDiff,reduceCtorEq,a24,ag0,ag1,a1,a3,a22,a23,ab,List.range_zero,List.map_nil,dC]);try rfl,by(try simp only[go_sem, ↓reduceIte,Nat.reduceEqDiff,Nat.reduceAdd,Nat.reduceSub,Nat.reduceLeDiff,reduceCtorEq,a24,ag0,ag1,a1,a3,a22,a23,ab,List.range_zero,List.map_nil,dC]);try rfl,fun _ h=>absurd h (Nat.not_lt_zero _),(by(try dsimp only);omega)⟩ ?_
   rintro n_b env_b st_b ⟨j,rfl,ble,b52,bg0,bg1,bA0,bI0⟩ gu
   have b1:=gu 1 (by kernel_rfl);have b6:=gu 6 (by kernel_rfl);have Dy:=gu 50 (by kernel_rfl);have Dz:=gu 51 (by kernel_rfl)
   simp only[go_sem, ↓reduceIte,Nat.reduceEqDiff,Nat.reduceAdd,Nat.reduceSub,Nat.reduceLeDiff,reduceCtorEq,a24,ag0,ag1,a1,a3,a22,a23,ab,List.range_zero,List.map_nil,dC]at b1 b6 Dy Dz
   clear gu
   by_cases hj:(j:Int)<(s.ae.length:Int)
   ·have gp:∀{e:Env} {gg:Rows} {nx:Nat},(e 52=.int .i64 (IntKind.i64.wrap ((j:Int)+1)))->(gg ⟨199000000,n0⟩=some ⟨true,2,[ab s]⟩)->(gg ⟨199011000,st_a.next+1⟩=some ⟨true,mS.qd,dC ((List.range (j+1)).map fun i=>(pP s i).aE)⟩)->(By s j)->(st_a.next<nx)->∃m0,m0<(s.ae.length)-j/\∃j:Nat,m0=(s.ae.length)-j/\j<=(s.ae.length)/\e 52=.int .i64 (j:Int)/\gg ⟨199000000,n0⟩=some ⟨true,2,[ab s]⟩/\gg ⟨199011000,st_a.next+1⟩=some ⟨true,mS.qd,dC ((List.range j).map fun i=>(pP s i).aE)⟩/\(∀i:Nat,i<j->By s i)/\(st_a.next<nx):=fun x1 x2 x3 x4 x5=>⟨_,by omega,j+1,rfl,by omega,(by rw[x1,aB (by omega)]),x2,x3,(all_succ bA0 x4),x5⟩
    have iW:j<s.ae.length:=by omega
    have oF:=AX iW
    have tb:=FT (pP s j).aE (RQ j iW)
    have Tt:=MO s (pP s j).bx (yv j iW)
    have Cf:=xG (pP s j).aE ((List.range j).map fun i=>(pP s i).aE)
    rw[xj _ j]at Cf
    have lJ:(¬By s j)->¬iF s:=fun h hp=>h (hp.tok j iW)
    have ik:(⟨199011000,st_a.next+1⟩:Id)≠⟨199000000,n0⟩:=by simp
    generalize htd:pP s j=tl at *
    cases hb:jS tl.aE
    ·rw[hb]at tb
     (repeat(first|((repeat(revert hN;revert N;apply Pn.out));refine wk (tw @b52 (tw @bg0 (tw @bg1 (tw @b1 (tw @b6 (tw @Dy (tw @Dz (tw @hj (tw @oF (tw @bG.eq_1 @ab.eq_1)))))))))) ?_;(repeat(refine Pn.mk ?_;intro N hN)))|((try apply Or.inl);refine⟨_,aj.x (tb) (sd (tw @b52 (tw @bg0 (tw @bg1 (tw @b1 (tw @b6 (tw @Dy (tw @Dz (tw @hj (tw @oF (tw @bG.eq_1 @ab.eq_1))))))))))),?_⟩;refine hN _ _ ?_;clear hN N)))
     exact aU (b:=false) (.inl rfl) (sd @Nat.zero_add) (fI (lJ fun h=>by rw[By,htd,hb]at h;cases h.1))
    ·rw[hb]at tb
     rcases Cf with⟨DY,mD⟩|⟨i,fB,mD,fV⟩
     ·by_cases h4:(tl.bx.length:Int)=4
      ·have Ad:decide ((tl.bx.length:Int)=4)=true:=decide_eq_true h4
       cases hany:tl.bx.any fun g=> !jf g 0 s.ay.length
       ·rw[hany]at Tt
        have rh:dC ((List.range j).map fun i=>(pP s i).aE)++[[.str tl.aE,.bool true]]=dC (List.map (fun i=>(pP s i).aE) (List.range j++[j])):=by simp[dC,htd]
        (repeat(first|((repeat(revert hN;revert N;apply Pn.out));refine wk (tw @b52 (tw @bg0 (tw @bg1 (tw @b1 (tw @b6 (tw @Dy (tw @Dz (tw @hj (tw @oF (tw @mD (tw @Ad (tw @bG.eq_1 @ab.eq_1)))))))))))) ?_;(repeat(refine Pn.mk ?_;intro N hN)))|((try apply Or.inl);refine⟨_,aj.x (tb) (sd (tw @b52 (tw @bg0 (tw @bg1 (tw @b1 (tw @b6 (tw @Dy (tw @Dz (tw @hj (tw @oF (tw @mD (tw @Ad (tw @bG.eq_1 @ab.eq_1))))))))))))),?_⟩;refine hN _ _ ?_;clear hN N)|((try apply Or.inl);refine⟨_,aj.x (Tt) (sd (tw @b52 (tw @bg0 (tw @bg1 (tw @b1 (tw @b6 (tw @Dy (tw @Dz (tw @hj (tw @oF (tw @mD (tw @Ad (tw @bG.eq_1 @ab.eq_1))))))))))))),?_⟩;refine hN _ _ ?_;clear hN N)))
        refine gp ?_ ?_ ?_ (⟨by rw[htd];exact hb,by rw[htd];omega,fun i hi=>(by rw[htd];exact DY i hi),fun g hg=>by rw[htd]at hg;have:=List.any_eq_false.1 hany g hg;simpa using this⟩) (by(try dsimp only);omega)
        all_goals simp only[go_sem, ↓reduceIte,Nat.reduceEqDiff,Nat.reduceAdd,Nat.reduceSub,Nat.reduceLeDiff,reduceCtorEq,b52,bg0,bg1,b1,b6,Dy,Dz,mD,rh]
       ·rw[hany]at Tt
        (repeat(first|((repeat(revert hN;revert N;apply Pn.out));refine wk (tw @b52 (tw @bg0 (tw @bg1 (tw @b1 (tw @b6 (tw @Dy (tw @Dz (tw @hj (tw @oF (tw @mD (tw @Ad (tw @bG.eq_1 @ab.eq_1)))))))))))) ?_;(repeat(refine Pn.mk ?_;intro N hN)))|((try apply Or.inl);refine⟨_,aj.x (tb) (sd (tw @b52 (tw @bg0 (tw @bg1 (tw @b1 (tw @b6 (tw @Dy (tw @Dz (tw @hj (tw @oF (tw @mD (tw @Ad (tw @bG.eq_1 @ab.eq_1))))))))))))),?_⟩;refine hN _ _ ?_;clear hN N)|((try apply Or.inl);refine⟨_,aj.x (Tt) (sd (tw @b52 (tw @bg0 (tw @bg1 (tw @b1 (tw @b6 (tw @Dy (tw @Dz (tw @hj (tw @oF (tw @mD (tw @Ad (tw @bG.eq_1 @ab.eq_1))))))))))))),?_⟩;refine hN _ _ ?_;clear hN N)))
        exact aU (b:=false) (.inl rfl) (sd @Nat.zero_add) (fI (lJ fun h=>by
         rw[By,htd]at h
         obtain⟨g,hg,hq⟩:=List.any_eq_true.1 hany
         have:=h.2.2.2 g hg
         rw[this]at hq;cases hq))
      ·have Ad:decide ((tl.bx.length:Int)=4)=false:=decide_eq_false h4
       (repeat(first|((repeat(revert hN;revert N;apply Pn.out));refine wk (tw @b52 (tw @bg0 (tw @bg1 (tw @b1 (tw @b6 (tw @Dy (tw @Dz (tw @hj (tw @oF (tw @mD (tw @Ad (tw @bG.eq_1 @ab.eq_1)))))))))))) ?_;(repeat(refine Pn.mk ?_;intro N hN)))|((try apply Or.inl);refine⟨_,aj.x (tb) (sd (tw @b52 (tw @bg0 (tw @bg1 (tw @b1 (tw @b6 (tw @Dy (tw @Dz (tw @hj (tw @oF (tw @mD (tw @Ad (tw @bG.eq_1 @ab.eq_1))))))))))))),?_⟩;refine hN _ _ ?_;clear hN N)))
       exact aU (b:=false) (.inl rfl) (sd @Nat.zero_add) (fI (lJ fun h=>by rw[By,htd]at h;have:=h.2.1;omega))
     ·(repeat(first|((repeat(revert hN;revert N;apply Pn.out));refine wk (tw @b52 (tw @bg0 (tw @bg1 (tw @b1 (tw @b6 (tw @Dy (tw @Dz (tw @hj (tw @oF (tw @mD (tw @fV (tw @bG.eq_1 @ab.eq_1)))))))))))) ?_;(repeat(refine Pn.mk ?_;intro N hN)))|((try apply Or.inl);refine⟨_,aj.x (tb) (sd (tw @b52 (tw @bg0 (tw @bg1 (tw @b1 (tw @b6 (tw @Dy (tw @Dz (tw @hj (tw @oF (tw @mD (tw @fV (tw @bG.eq_1 @ab.eq_1))))))))))))),?_⟩;refine hN _ _ ?_;clear hN N)))
      exact aU (b:=false) (.inl rfl) (sd @Nat.zero_add) (fI (lJ fun h=>by
       rw[By,htd]at h
       obtain⟨i,hi,he⟩:=List.mem_map.1 fB
       exact h.2.2.1 i (List.mem_range.1 hi) he))
   ·(try((repeat(revert hN;revert N;apply Pn.out));refine wk (tw @b52 (tw @bg0 (tw @bg1 (tw @b1 (tw @b6 (tw @Dy (tw @Dz (tw @hj @ab.eq_1)))))))) ?_;(repeat(refine Pn.mk ?_;intro N hN))))
    exact aU (b:=true) (.inl rfl) (sd @Nat.zero_add) (CW ⟨by omega,by omega,by omega,fun i hi=>mv i (by omega),fun i hi=>bA0 i (by omega)⟩)
 ·rw[Bool.not_eq_true]at h2
  rw[h2]at hw
  (repeat(first|((repeat(revert hN;revert N;apply Pn.out));refine wk (tw @ab.eq_1 @h1) ?_;(repeat(refine Pn.mk ?_;intro N hN)))|((try apply Or.inl);refine⟨_,aj.x (hw) (sd (tw @ab.eq_1 @h1)),?_⟩;refine hN _ _ ?_;clear hN N)))
  exact aU (b:=false) (.inl rfl) (sd @Nat.zero_add) (fI fun h=>by
   have h3:=h.some
   have h4:=h.KF
   rw[lf ⟨by omega,by omega⟩]at h2;cases h2)
theorem vG {α:Type} {p:α->Bool} {xs:List α} {k:Nat} (hk:k<xs.length) (h1:p xs[k]=true) (h2:∀j (h:j<xs.length),j<k->p xs[j]=false):kC p xs=k:=by
 have:xs.findIdx p=k:=by rw[List.findIdx_eq hk];exact⟨h1,fun j hj=>h2 j (by omega) hj⟩
 rw[kC,this,if_pos hk]
theorem yX {α:Type} {p:α->Bool} {xs:List α} (h:∀j (h:j<xs.length),p xs[j]=false):kC p xs= -1:=by
 rw[kC,if_neg]
 rw[List.findIdx_lt_length]
 rintro⟨x,hx,L6⟩
 obtain⟨j,hj,rfl⟩:=List.getElem_of_mem hx
 rw[h j hj]at L6;cases L6
theorem Ab {s:aw} {i:Nat} (h:i<s.ay.length):qo s i=s.ay[i]:=by simp[qo,List.getD_eq_getElem?_getD,h]
theorem AW {s:aw} {i:Nat} (h:i<s.ae.length):pP s i=s.ae[i]:=by simp[pP,List.getD_eq_getElem?_getD,h]
def K3 (s:aw) (n:ByteArray):Int:=kC (fun g:fF=>decide (g.aE=n)) s.ay
def NM (s:aw) (n:ByteArray):Int:=kC (fun t:eU=>decide (t.aE=n)) s.ae
theorem G3 (s:aw) (nm:ByteArray):aj Tryz.prog 238 [.dn (ab s),.str nm] (.int .i64 (K3 s nm+1)):=by
 refine aj.body eI rfl fun hl n0=>?_
 have hlen:s.ay.length<=9223372036854775807:=by
  have h1:=(hl (.dn (ab s)) (by simp)).Cq (a:=.sl (s.ay.map cj)) (by simp[ab])
  simpa using h1.len
 clear hl
 (try((repeat(revert hN;revert N;apply Pn.out));refine wk @ab.eq_1 ?_;(repeat(refine Pn.mk ?_;intro N hN))))
 refine aW (fun n env st=>∃k:Nat,n=(s.ay.length)-k/\k<=(s.ay.length)/\env 5=.int .i64 (k:Int)/\(∀j:Nat,j<k->∀h:j<s.ay.length,decide (s.ay[j].aE=nm)=false)) (s.ay.length) ⟨0,by omega,by omega,sl @ab.eq_1,fun _ h=>absurd h (Nat.not_lt_zero _)⟩ ?_
 rintro n_a env_a st_a ⟨k,rfl,ale,a5,mv⟩ dJ
 have a0:=dJ 0 (by kernel_rfl);have a1:=dJ 1 (by kernel_rfl)
 simp only[go_sem, ↓reduceIte,Nat.reduceEqDiff,Nat.reduceAdd,Nat.reduceSub,Nat.reduceLeDiff,reduceCtorEq,ab]at a0 a1
 clear dJ
 by_cases hk:(k:Int)<(s.ay.length:Int)
 ·have cG:∀{e:Env},(e 5=.int .i64 (IntKind.i64.wrap ((k:Int)+1)))->(∀h:k<s.ay.length,decide (s.ay[k].aE=nm)=false)->∃m0,m0<(s.ay.length)-k/\∃k:Nat,m0=(s.ay.length)-k/\k<=(s.ay.length)/\e 5=.int .i64 (k:Int)/\(∀j:Nat,j<k->∀h:j<s.ay.length,decide (s.ay[j].aE=nm)=false):=fun x1 x2=>⟨_,by omega,k+1,rfl,by omega,(by rw[x1,aB (by omega)]),(all_succ mv x2)⟩
  have fE:k<s.ay.length:=by omega
  have eT:=Ac fE
  have e:=Ab fE
  cases hd:decide ((qo s k).aE=nm)
  ·have S9:=of_decide_eq_false hd
   (try((repeat(revert hN;revert N;apply Pn.out));refine wk (tw @a5 (tw @a0 (tw @a1 (tw @hk (tw @eT (tw @S9 (tw @hd (tw @cj.eq_1 @ab.eq_1)))))))) ?_;(repeat(refine Pn.mk ?_;intro N hN))))
   exact cG (sd (tw @a5 (tw @a0 @a1))) (fun _=>by rw[e]at hd;exact hd)
  ·have S9:=of_decide_eq_true hd
   have hw:IntKind.i64.wrap ((k:Int)+1)=(k:Int)+1:=bz (by omega)
   (try((repeat(revert hN;revert N;apply Pn.out));refine wk (tw @a5 (tw @a0 (tw @a1 (tw @hk (tw @eT (tw @hd (tw @hw (tw @cj.eq_1 @ab.eq_1)))))))) ?_;(repeat(refine Pn.mk ?_;intro N hN))))
   exact cr (b:=(k:Int)+1) (.inl rfl) (sd @Nat.zero_add) (by rw[K3,vG fE (by rw[e]at hd;exact hd) fun j h hj=>mv j hj h])
 ·(try((repeat(revert hN;revert N;apply Pn.out));refine wk (tw @a5 (tw @a0 (tw @a1 (tw @hk @ab.eq_1)))) ?_;(repeat(refine Pn.mk ?_;intro N hN))))
  exact cr (b:=0) (.inl rfl) (sd @Nat.zero_add) (by rw[K3,yX fun j h=>mv j (by omega) h];rfl)
theorem G4 (s:aw) (nm:ByteArray):aj Tryz.prog 239 [.dn (ab s),.str nm] (.int .i64 (NM s nm)):=by
 refine aj.body eI rfl fun hl n0=>?_
 have hlen:s.ae.length<=9223372036854775807:=by
  have h1:=(hl (.dn (ab s)) (by simp)).Cq (a:=.sl (s.ae.map bG)) (by simp[ab])
  simpa using h1.len
 clear hl
 (try((repeat(revert hN;revert N;apply Pn.out));refine wk @ab.eq_1 ?_;(repeat(refine Pn.mk ?_;intro N hN))))
 refine aW (fun n env st=>∃k:Nat,n=(s.ae.length)-k/\k<=(s.ae.length)/\env 5=.int .i64 (k:Int)/\(∀j:Nat,j<k->∀h:j<s.ae.length,decide (s.ae[j].aE=nm)=false)) (s.ae.length) ⟨0,by omega,by omega,sl @ab.eq_1,fun _ h=>absurd h (Nat.not_lt_zero _)⟩ ?_
 rintro n_a env_a st_a ⟨k,rfl,ale,a5,mv⟩ dJ
 have a0:=dJ 0 (by kernel_rfl);have a1:=dJ 1 (by kernel_rfl)
 simp only[go_sem, ↓reduceIte,Nat.reduceEqDiff,Nat.reduceAdd,Nat.reduceSub,Nat.reduceLeDiff,reduceCtorEq,ab]at a0 a1
 clear dJ
 by_cases hk:(k:Int)<(s.ae.length:Int)
 ·have cG:∀{e:Env},(e 5=.int .i64 (IntKind.i64.wrap ((k:Int)+1)))->(∀h:k<s.ae.length,decide (s.ae[k].aE=nm)=false)->∃m0,m0<(s.ae.length)-k/\∃k:Nat,m0=(s.ae.length)-k/\k<=(s.ae.length)/\e 5=.int .i64 (k:Int)/\(∀j:Nat,j<k->∀h:j<s.ae.length,decide (s.ae[j].aE=nm)=false):=fun x1 x2=>⟨_,by omega,k+1,rfl,by omega,(by rw[x1,aB (by omega)]),(all_succ mv x2)⟩
  have fE:k<s.ae.length:=by omega
  have eT:=AX fE
  have e:=AW fE
  cases hd:decide ((pP s k).aE=nm)
  ·(try((repeat(revert hN;revert N;apply Pn.out));refine wk (tw @a5 (tw @a0 (tw @a1 (tw @hk (tw @eT (tw @hd (tw @bG.eq_1 @ab.eq_1))))))) ?_;(repeat(refine Pn.mk ?_;intro N hN))))
   exact cG (sd (tw @a5 (tw @a0 @a1))) (fun _=>by rw[e]at hd;exact hd)
  ·(try((repeat(revert hN;revert N;apply Pn.out));refine wk (tw @a5 (tw @a0 (tw @a1 (tw @hk (tw @eT (tw @hd (tw @bG.eq_1 @ab.eq_1))))))) ?_;(repeat(refine Pn.mk ?_;intro N hN))))
   exact cr (b:=(k:Int)) (.inl rfl) (sd @Nat.zero_add) (by rw[NM,vG fE (by rw[e]at hd;exact hd) fun j h hj=>mv j hj h])
 ·(try((repeat(revert hN;revert N;apply Pn.out));refine wk (tw @a5 (tw @a0 (tw @a1 (tw @hk @ab.eq_1)))) ?_;(repeat(refine Pn.mk ?_;intro N hN))))
  exact cr (b:=-1) (.inl rfl) (sd @Nat.zero_add) (by rw[NM,yX fun j h=>mv j (by omega) h])
theorem On {s:aw} {i:Nat} (h:i<s.ay.length):K3 s (qo s i).aE=i↔∀j,j<i->(qo s j).aE≠(qo s i).aE:=by
 constructor
 ·intro he j hj hc
  have im:j<s.ay.length:=by omega
  have:s.ay.findIdx (fun g:fF=>decide (g.aE=(qo s i).aE))<=j:=by
   rcases Nat.lt_or_ge j (s.ay.findIdx fun g:fF=>decide (g.aE=(qo s i).aE))with dY|rf
   ·have:=List.not_of_lt_findIdx dY
    rw[<-Ab im]at this
    simp[hc]at this
   ·exact rf
  unfold K3 kC at he
  split at he<;>omega
 ·intro hd
  exact vG h (by rw[<-Ab h];simp) fun j im hj=>by rw[<-Ab im];simpa using hd j hj
theorem PK {s:aw} {i:Nat} (h:i<s.ae.length):NM s (pP s i).aE=i↔∀j,j<i->(pP s j).aE≠(pP s i).aE:=by
 constructor
 ·intro he j hj hc
  have im:j<s.ae.length:=by omega
  have:s.ae.findIdx (fun g:eU=>decide (g.aE=(pP s i).aE))<=j:=by
   rcases Nat.lt_or_ge j (s.ae.findIdx fun g:eU=>decide (g.aE=(pP s i).aE))with dY|rf
   ·have:=List.not_of_lt_findIdx dY
    rw[<-AW im]at this
    simp[hc]at this
   ·exact rf
  unfold NM kC at he
  split at he<;>omega
 ·intro hd
  exact vG h (by rw[<-AW h];simp) fun j im hj=>by rw[<-AW im];simpa using hd j hj
theorem Mi (s:aw) (hn:gF s) (hg:s.ay.length<=1048576) (ht:s.ae.length<=1048576):aj Tryz.prog 167 [.dn (ab s)] (.bool (rK s)):=by
 refine aj.body eI rfl fun hl n0=>?_
 clear hl
 have Rv:∀i,i<s.ay.length->(qo s i).aE.size<=9223372036854775807:=fun i hi=>hn.1 _ (by simp[qo,List.getD_eq_getElem?_getD,hi])
 have RQ:∀i,i<s.ae.length->(pP s i).aE.size<=9223372036854775807:=fun i hi=>hn.2 _ (by simp[pP,List.getD_eq_getElem?_getD,hi])
 by_cases h1:(200:Int)<(s.ay.length:Int)
 ·(try((repeat(revert hN;revert N;apply Pn.out));refine wk (tw @ab.eq_1 @h1) ?_;(repeat(refine Pn.mk ?_;intro N hN))))
  exact aU (b:=false) (.inl rfl) (sd @Nat.zero_add) (fI fun h=>by have:=h.wS;omega)
 by_cases h2:(s.ae.length:Int)<1
 ·(try((repeat(revert hN;revert N;apply Pn.out));refine wk (tw @ab.eq_1 (tw @h1 @h2)) ?_;(repeat(refine Pn.mk ?_;intro N hN))))
  exact aU (b:=false) (.inl rfl) (sd @Nat.zero_add) (fI fun h=>by have:=h.some;omega)
 by_cases h3:(160:Int)<(s.ae.length:Int)
 ·(try((repeat(revert hN;revert N;apply Pn.out));refine wk (tw @ab.eq_1 (tw @h1 (tw @h2 @h3))) ?_;(repeat(refine Pn.mk ?_;intro N hN))))
  exact aU (b:=false) (.inl rfl) (sd @Nat.zero_add) (fI fun h=>by have:=h.KF;omega)
 (try((repeat(revert hN;revert N;apply Pn.out));refine wk (tw @ab.eq_1 (tw @h1 (tw @h2 @h3))) ?_;(repeat(refine Pn.mk ?_;intro N hN))))
 refine aW (fun n env st=>∃k:Nat,n=(s.ay.length)-k/\k<=(s.ay.length)/\env 3=.int .i64 (k:Int)/\(∀j:Nat,j<k->Dr s j)) (s.ay.length) ⟨0,by omega,by omega,sl @ab.eq_1,fun _ h=>absurd h (Nat.not_lt_zero _)⟩ ?_
 rintro n_a env_a st_a ⟨k,rfl,ale,a3,mv⟩ dJ
 have a0:=dJ 0 (by kernel_rfl)
 simp only[go_sem, ↓reduceIte,Nat.reduceEqDiff,Nat.reduceAdd,Nat.reduceSub,Nat.reduceLeDiff,reduceCtorEq,ab]at a0
 clear dJ
 by_cases hk:(k:Int)<(s.ay.length:Int)
 ·have cG:∀{e:Env},(e 3=.int .i64 (IntKind.i64.wrap ((k:Int)+1)))->(Dr s k)->∃m0,m0<(s.ay.length)-k/\∃k:Nat,m0=(s.ay.length)-k/\k<=(s.ay.length)/\e 3=.int .i64 (k:Int)/\(∀j:Nat,j<k->Dr s j):=fun x1 x2=>⟨_,by omega,k+1,rfl,by omega,(by rw[x1,aB (by omega)]),(all_succ mv x2)⟩
  have fE:k<s.ay.length:=by omega
  have eT:=Ac fE
  have tb:=F5 (qo s k).aE (Rv k fE)
  have Lj:=l6 (qo s k).eD 1 4
  have GO:=G3 s (qo s k).aE
  have sj:=On fE
  have lJ:(¬Dr s k)->¬iF s:=fun h hp=>h (hp.SM k fE)
  have hw:IntKind.i64.wrap ((k:Int)+1)=(k:Int)+1:=bz (by omega)
  generalize vN:qo s k=gl at *
  cases hb:jS gl.aE
  ·rw[hb]at tb
   (repeat(first|((repeat(revert hN;revert N;apply Pn.out));refine wk (tw @a3 (tw @a0 (tw @hk (tw @eT (tw @cj.eq_1 @ab.eq_1))))) ?_;(repeat(refine Pn.mk ?_;intro N hN)))|((try apply Or.inl);refine⟨_,aj.x (tb) (sd (tw @a3 (tw @a0 (tw @hk (tw @eT (tw @cj.eq_1 @ab.eq_1)))))),?_⟩;refine hN _ _ ?_;clear hN N)))
   exact aU (b:=false) (.inl rfl) (sd @Nat.zero_add) (fI (lJ fun h=>by rw[Dr,vN,hb]at h;cases h.1))
  rw[hb]at tb
  cases dK:jf gl.eD 1 4
  ·rw[dK]at Lj
   (repeat(first|((repeat(revert hN;revert N;apply Pn.out));refine wk (tw @a3 (tw @a0 (tw @hk (tw @eT (tw @cj.eq_1 @ab.eq_1))))) ?_;(repeat(refine Pn.mk ?_;intro N hN)))|((try apply Or.inl);refine⟨_,aj.x (tb) (sd (tw @a3 (tw @a0 (tw @hk (tw @eT (tw @cj.eq_1 @ab.eq_1)))))),?_⟩;refine hN _ _ ?_;clear hN N)|((try apply Or.inl);refine⟨_,aj.x (Lj) (sd (tw @a3 (tw @a0 (tw @hk (tw @eT (tw @cj.eq_1 @ab.eq_1)))))),?_⟩;refine hN _ _ ?_;clear hN N)))
   exact aU (b:=false) (.inl rfl) (sd @Nat.zero_add) (fI (lJ fun h=>by rw[Dr,vN,dK]at h;cases h.2.1))
  rw[dK]at Lj
  rw[ab]at GO
  by_cases hq:K3 s gl.aE=(k:Int)
  ·have hd:decide (K3 s gl.aE+1=(k:Int)+1)=true:=decide_eq_true (by omega)
   have oy:decide (K3 s gl.aE=(k:Int))=true:=decide_eq_true hq
   (repeat(first|((repeat(revert hN;revert N;apply Pn.out));refine wk (tw @a3 (tw @a0 (tw @hk (tw @eT (tw @hw (tw @hd (tw @oy (tw @cj.eq_1 @ab.eq_1)))))))) ?_;(repeat(refine Pn.mk ?_;intro N hN)))|((try apply Or.inl);refine⟨_,aj.x (tb) (sd (tw @a3 (tw @a0 (tw @hk (tw @eT (tw @hw (tw @hd (tw @oy (tw @cj.eq_1 @ab.eq_1))))))))),?_⟩;refine hN _ _ ?_;clear hN N)|((try apply Or.inl);refine⟨_,aj.x (Lj) (sd (tw @a3 (tw @a0 (tw @hk (tw @eT (tw @hw (tw @hd (tw @oy (tw @cj.eq_1 @ab.eq_1))))))))),?_⟩;refine hN _ _ ?_;clear hN N)|((try apply Or.inl);refine⟨_,aj.x (GO) (sd (tw @a3 (tw @a0 (tw @hk (tw @eT (tw @hw (tw @hd (tw @oy (tw @cj.eq_1 @ab.eq_1))))))))),?_⟩;refine hN _ _ ?_;clear hN N)))
   exact cG (sd (tw @a3 (tw @a0 @hw))) (⟨by rw[vN];exact hb,by rw[vN];exact dK,fun j hj=>by rw[vN];exact sj.1 hq j hj⟩)
  ·have hd:decide (K3 s gl.aE+1=(k:Int)+1)=false:=decide_eq_false (by omega)
   have oy:decide (K3 s gl.aE=(k:Int))=false:=decide_eq_false hq
   (repeat(first|((repeat(revert hN;revert N;apply Pn.out));refine wk (tw @a3 (tw @a0 (tw @hk (tw @eT (tw @hw (tw @hd (tw @oy (tw @cj.eq_1 @ab.eq_1)))))))) ?_;(repeat(refine Pn.mk ?_;intro N hN)))|((try apply Or.inl);refine⟨_,aj.x (tb) (sd (tw @a3 (tw @a0 (tw @hk (tw @eT (tw @hw (tw @hd (tw @oy (tw @cj.eq_1 @ab.eq_1))))))))),?_⟩;refine hN _ _ ?_;clear hN N)|((try apply Or.inl);refine⟨_,aj.x (Lj) (sd (tw @a3 (tw @a0 (tw @hk (tw @eT (tw @hw (tw @hd (tw @oy (tw @cj.eq_1 @ab.eq_1))))))))),?_⟩;refine hN _ _ ?_;clear hN N)|((try apply Or.inl);refine⟨_,aj.x (GO) (sd (tw @a3 (tw @a0 (tw @hk (tw @eT (tw @hw (tw @hd (tw @oy (tw @cj.eq_1 @ab.eq_1))))))))),?_⟩;refine hN _ _ ?_;clear hN N)))
   exact aU (b:=false) (.inl rfl) (sd @Nat.zero_add) (fI (lJ fun h=>by
    rw[Dr,vN]at h
    exact hq (sj.2 h.2.2)))
 ·have mC:k=s.ay.length:=by omega
  (try((repeat(revert hN;revert N;apply Pn.out));refine wk (tw @a3 (tw @a0 (tw @hk @ab.eq_1))) ?_;(repeat(refine Pn.mk ?_;intro N hN))))
  refine aW (fun n env st=>∃j:Nat,n=(s.ae.length)-j/\j<=(s.ae.length)/\env 5=.int .i64 (j:Int)/\(∀i:Nat,i<j->By s i)) (s.ae.length) ⟨0,by omega,by omega,sl (tw @a3 (tw @a0 @ab.eq_1)),fun _ h=>absurd h (Nat.not_lt_zero _)⟩ ?_
  rintro n_b env_b st_b ⟨j,rfl,ble,b5,bA0⟩ gu
  have b0:=gu 0 (by kernel_rfl)
  simp only[go_sem, ↓reduceIte,Nat.reduceEqDiff,Nat.reduceAdd,Nat.reduceSub,Nat.reduceLeDiff,reduceCtorEq,a3,a0,ab]at b0
  clear gu
  by_cases hj:(j:Int)<(s.ae.length:Int)
  ·have gp:∀{e:Env},(e 5=.int .i64 (IntKind.i64.wrap ((j:Int)+1)))->(By s j)->∃m0,m0<(s.ae.length)-j/\∃j:Nat,m0=(s.ae.length)-j/\j<=(s.ae.length)/\e 5=.int .i64 (j:Int)/\(∀i:Nat,i<j->By s i):=fun x1 x2=>⟨_,by omega,j+1,rfl,by omega,(by rw[x1,aB (by omega)]),(all_succ bA0 x2)⟩
   have iW:j<s.ae.length:=by omega
   have oF:=AX iW
   have tb:=F5 (pP s j).aE (RQ j iW)
   have GO:=G4 s (pP s j).aE
   have sj:=PK iW
   have lJ:(¬By s j)->¬iF s:=fun h hp=>h (hp.tok j iW)
   generalize htd:pP s j=tl at *
   cases hb:jS tl.aE
   ·rw[hb]at tb
    (repeat(first|((repeat(revert hN;revert N;apply Pn.out));refine wk (tw @b5 (tw @b0 (tw @hj (tw @oF (tw @bG.eq_1 @ab.eq_1))))) ?_;(repeat(refine Pn.mk ?_;intro N hN)))|((try apply Or.inl);refine⟨_,aj.x (tb) (sd (tw @b5 (tw @b0 (tw @hj (tw @oF (tw @bG.eq_1 @ab.eq_1)))))),?_⟩;refine hN _ _ ?_;clear hN N)))
    exact aU (b:=false) (.inl rfl) (sd @Nat.zero_add) (fI (lJ fun h=>by rw[By,htd,hb]at h;cases h.1))
   rw[hb]at tb
   by_cases h4:(tl.bx.length:Int)=4
   ·have Ad:decide ((tl.bx.length:Int)=4)=true:=decide_eq_true h4
    rw[ab]at GO
    by_cases hq:NM s tl.aE=(j:Int)
    ·have hd:decide (NM s tl.aE=(j:Int))=true:=decide_eq_true hq
     (repeat(first|((repeat(revert hN;revert N;apply Pn.out));refine wk (tw @b5 (tw @b0 (tw @hj (tw @oF (tw @Ad (tw @hd (tw @bG.eq_1 @ab.eq_1))))))) ?_;(repeat(refine Pn.mk ?_;intro N hN)))|((try apply Or.inl);refine⟨_,aj.x (tb) (sd (tw @b5 (tw @b0 (tw @hj (tw @oF (tw @Ad (tw @hd (tw @bG.eq_1 @ab.eq_1)))))))),?_⟩;refine hN _ _ ?_;clear hN N)|((try apply Or.inl);refine⟨_,aj.x (GO) (sd (tw @b5 (tw @b0 (tw @hj (tw @oF (tw @Ad (tw @hd (tw @bG.eq_1 @ab.eq_1)))))))),?_⟩;refine hN _ _ ?_;clear hN N)))
     refine aW (fun n env st=>∃i:Nat,n=(4)-i/\i<=(4)/\env 7=.int .i64 (i:Int)/\st.get ⟨167012007,st_b.next+1⟩=some ⟨true,2,[bG tl]⟩/\(∀x:Nat,x<i->jf (tl.bx.getD x 0) 0 s.ay.length=true)) (4) ⟨0,by omega,by omega,sl (tw @b5 (tw @b0 (tw @bG.eq_1 @ab.eq_1))),sl (tw @b5 (tw @b0 (tw @bG.eq_1 @ab.eq_1))),fun _ h=>absurd h (Nat.not_lt_zero _)⟩ ?_
     rintro n_c env_c st_c ⟨i,rfl,cle,c7,cg0,cA0⟩ cfr
     have c0:=cfr 0 (by kernel_rfl);have c5:=cfr 5 (by kernel_rfl);have c6:=cfr 6 (by kernel_rfl)
     simp only[go_sem, ↓reduceIte,Nat.reduceEqDiff,Nat.reduceAdd,Nat.reduceSub,Nat.reduceLeDiff,reduceCtorEq,b5,b0,bG,ab]at c0 c5 c6
     clear cfr
     by_cases hi:(i:Int)<4
     ·have iw:∀{e:Env} {gg:Rows},(e 7=.int .i64 (IntKind.i64.wrap ((i:Int)+1)))->(gg ⟨167012007,st_b.next+1⟩=some ⟨true,2,[bG tl]⟩)->(jf (tl.bx.getD i 0) 0 s.ay.length=true)->∃m0,m0<(4)-i/\∃i:Nat,m0=(4)-i/\i<=(4)/\e 7=.int .i64 (i:Int)/\gg ⟨167012007,st_b.next+1⟩=some ⟨true,2,[bG tl]⟩/\(∀x:Nat,x<i->jf (tl.bx.getD x 0) 0 s.ay.length=true):=fun x1 x2 x3=>⟨_,by omega,i+1,rfl,by omega,(by rw[x1,aB (by omega)]),x2,(all_succ cA0 x3)⟩
      have fB:i<tl.bx.length:=by omega
      have kh:(tl.bx.map bq)[i]? =some (bq (tl.bx.getD i 0)):=getD_map bq fB
      have tF:tl.bx.getD i 0∈tl.bx:=by rw[List.getD_eq_getElem?_getD,List.getElem?_eq_getElem fB];exact List.getElem_mem fB
      have Jj:=l6 (tl.bx.getD i 0) 0 s.ay.length
      generalize ON:tl.bx.getD i 0=gv at *
      cases hv:jf gv 0 s.ay.length
      ·rw[hv]at Jj
       (repeat(first|((repeat(revert hN;revert N;apply Pn.out));refine wk (tw @c7 (tw @cg0 (tw @c0 (tw @c5 (tw @c6 (tw @hi (tw @kh (tw @bq.eq_1 (tw @bG.eq_1 @ab.eq_1))))))))) ?_;(repeat(refine Pn.mk ?_;intro N hN)))|((try apply Or.inl);refine⟨_,aj.x (Jj) (sd (tw @c7 (tw @cg0 (tw @c0 (tw @c5 (tw @c6 (tw @hi (tw @kh (tw @bq.eq_1 (tw @bG.eq_1 @ab.eq_1)))))))))),?_⟩;refine hN _ _ ?_;clear hN N)))
       exact aU (b:=false) (.inl rfl) (sd @Nat.zero_add) (fI (lJ fun h=>by
        rw[By,htd]at h
        have:=h.2.2.2 gv tF
        rw[hv]at this;cases this))
      ·rw[hv]at Jj
       (repeat(first|((repeat(revert hN;revert N;apply Pn.out));refine wk (tw @c7 (tw @cg0 (tw @c0 (tw @c5 (tw @c6 (tw @hi (tw @kh (tw @bq.eq_1 (tw @bG.eq_1 @ab.eq_1))))))))) ?_;(repeat(refine Pn.mk ?_;intro N hN)))|((try apply Or.inl);refine⟨_,aj.x (Jj) (sd (tw @c7 (tw @cg0 (tw @c0 (tw @c5 (tw @c6 (tw @hi (tw @kh (tw @bq.eq_1 (tw @bG.eq_1 @ab.eq_1)))))))))),?_⟩;refine hN _ _ ?_;clear hN N)))
       refine iw ?_ ?_ (hv)
       all_goals simp only[go_sem, ↓reduceIte,Nat.reduceEqDiff,Nat.reduceAdd,Nat.reduceSub,Nat.reduceLeDiff,reduceCtorEq,c7,cg0,c0,c5,c6]
     ·have hi4:i=4:=by omega
      (try((repeat(revert hN;revert N;apply Pn.out));refine wk (tw @c7 (tw @cg0 (tw @c0 (tw @c5 (tw @c6 (tw @hi (tw @bG.eq_1 @ab.eq_1))))))) ?_;(repeat(refine Pn.mk ?_;intro N hN))))
      exact gp (sd (tw @b5 (tw @b0 (tw @c7 (tw @cg0 (tw @c0 (tw @c5 @c6))))))) (⟨by rw[htd];exact hb,by rw[htd];omega,fun x hx=>(by rw[htd];exact sj.1 hq x hx),fun g hg=>by
       rw[htd]at hg
       obtain⟨x,hx,rfl⟩:=List.getElem_of_mem hg
       have:=cA0 x (by omega)
       rwa [List.getD_eq_getElem?_getD,List.getElem?_eq_getElem hx]at this⟩)
    ·have hd:decide (NM s tl.aE=(j:Int))=false:=decide_eq_false hq
     (repeat(first|((repeat(revert hN;revert N;apply Pn.out));refine wk (tw @b5 (tw @b0 (tw @hj (tw @oF (tw @Ad (tw @hd (tw @bG.eq_1 @ab.eq_1))))))) ?_;(repeat(refine Pn.mk ?_;intro N hN)))|((try apply Or.inl);refine⟨_,aj.x (tb) (sd (tw @b5 (tw @b0 (tw @hj (tw @oF (tw @Ad (tw @hd (tw @bG.eq_1 @ab.eq_1)))))))),?_⟩;refine hN _ _ ?_;clear hN N)|((try apply Or.inl);refine⟨_,aj.x (GO) (sd (tw @b5 (tw @b0 (tw @hj (tw @oF (tw @Ad (tw @hd (tw @bG.eq_1 @ab.eq_1)))))))),?_⟩;refine hN _ _ ?_;clear hN N)))
     exact aU (b:=false) (.inl rfl) (sd @Nat.zero_add) (fI (lJ fun h=>by
      rw[By,htd]at h
      exact hq (sj.2 h.2.2.1)))
   ·have Ad:decide ((tl.bx.length:Int)=4)=false:=decide_eq_false h4
    (repeat(first|((repeat(revert hN;revert N;apply Pn.out));refine wk (tw @b5 (tw @b0 (tw @hj (tw @oF (tw @Ad (tw @bG.eq_1 @ab.eq_1)))))) ?_;(repeat(refine Pn.mk ?_;intro N hN)))|((try apply Or.inl);refine⟨_,aj.x (tb) (sd (tw @b5 (tw @b0 (tw @hj (tw @oF (tw @Ad (tw @bG.eq_1 @ab.eq_1))))))),?_⟩;refine hN _ _ ?_;clear hN N)))
    exact aU (b:=false) (.inl rfl) (sd @Nat.zero_add) (fI (lJ fun h=>by rw[By,htd]at h;have:=h.2.1;omega))
  ·(try((repeat(revert hN;revert N;apply Pn.out));refine wk (tw @b5 (tw @b0 (tw @hj @ab.eq_1))) ?_;(repeat(refine Pn.mk ?_;intro N hN))))
   exact aU (b:=true) (.inl rfl) (sd @Nat.zero_add) (CW ⟨by omega,by omega,by omega,fun i hi=>mv i (by omega),fun i hi=>bA0 i (by omega)⟩)
end Go.Proofs.YtgoljkjaameagaaGreat.V

namespace Go.Proofs.YtgoljkjaameagaaGreat.V
def jR (a b:aH):Bool:=decide (a.eV<b.eV)||(decide (a.eV=b.eV)&&decide (a.fb<b.fb))
theorem vU {a b:aH}:jR a b=true↔a.eV<b.eV∨(a.eV=b.eV/\a.fb<b.fb):=by simp[jR]
theorem qa {a b:aH}:jR a b=false↔¬(a.eV<b.eV∨(a.eV=b.eV/\a.fb<b.fb)):=by rw[<-vU,Bool.not_eq_true]
theorem EE {a b:aH} (h1:a.fb=b.fb) (h2:a.eV=b.eV):a=b:=by cases a;cases b;simp_all
theorem jZ {a b c:aH} (h:jR a b=true) (k:jR b c=true):jR a c=true:=by rw[vU]at *;omega
theorem nC {a:aH}:jR a a=false:=by rw[qa];omega
theorem JR {a b:aH} (h:jR a b=true):jR b a=false:=by rw[vU]at h;rw[qa];omega
theorem FY {a b:aH} (h:jR a b=false) (ik:a≠b):jR b a=true:=by
 rw[qa]at h;rw[vU]
 by_cases hy:a.eV=b.eV
 ·by_cases hx:a.fb=b.fb
  ·exact absurd (EE hx hy) ik
  ·omega
 ·omega
def r8 (a b:Int):Int:=if a<b then -1 else if b<a then 1 else 0
def Mz (a b:Int):Int:=if a=0 then b else a
def r9 (a b:aH):Int:=Mz (r8 a.eV b.eV) (r8 a.fb b.fb)
theorem vz (a b:aH):decide (r9 a b<0)=jR a b:=by
 unfold r9 Mz r8 jR
 by_cases h1:a.eV<b.eV
 ·simp[h1]
 ·by_cases h2:b.eV<a.eV
  ·have:¬a.eV=b.eV:=by omega
   simp[h1,h2,this]
  ·have:a.eV=b.eV:=by omega
   by_cases h3:a.fb<b.fb
   ·simp[h1,h2,this,h3]
   ·by_cases h4:b.fb<a.fb<;>simp[h1,h2,this,h3,h4]
theorem Gr (a b:aH):(r9 a b=0)↔a=b:=by
 cases a;cases b
 unfold r9 Mz r8
 simp only[aH.mk.injEq]
 split<;>(try split)<;>(try split)<;>(try split)<;>omega
def JW:ad:=⟨⟨0,0⟩,0⟩
def aL (l:List ad) (i:Nat):ad:=l.getD i JW
theorem fm {l:List ad} {i:Nat} (h:i<l.length):aL l i=l[i]:=by simp[aL,List.getD_eq_getElem?_getD,h]
theorem gM {l:List ad} {i:Nat} (h:i<l.length):aL l i∈l:=by rw[fm h];exact List.getElem_mem h
def oj (l:List ad):Prop:=∀i j:Nat,i<j->j<l.length->jR (aL l i).aP (aL l j).aP=true
def qv (l:List ad) (p:aH):Nat:=l.findIdx fun c=>decide (c.aP=p)
def eG (l:List ad) (p:aH):Int:=if qv l p<l.length then(qv l p:Int)else -1
def mT (l:List ad) (p:aH):Nat:=l.findIdx fun c=> !jR c.aP p
theorem Av {l:List ad} {p:aH} {i:Nat} (hi:i<=l.length) (h1:∀x,x<i->jR (aL l x).aP p=true) (h2:i<l.length->jR (aL l i).aP p=false):mT l p=i:=by
 unfold mT
 by_cases h:i<l.length
 ·rw[List.findIdx_eq h]
  refine⟨by have:=h2 h;rw[fm h]at this;simp[this],fun j hj=>?_⟩
  have:=h1 j hj
  rw[fm (by omega)]at this
  simp[this]
 ·have:i=l.length:=by omega
  subst this
  refine List.findIdx_eq_length_of_false fun x hx=>?_
  obtain⟨j,hj,rfl⟩:=List.getElem_of_mem hx
  have:=h1 j hj
  rw[fm hj]at this
  simp[this]
theorem Aw {l:List ad} {p:aH} (hR:oj l):eG l p=if mT l p<l.length/\(aL l (mT l p)).aP=p then(mT l p:Int)else -1:=by
 by_cases h:∃i,i<l.length/\(aL l i).aP=p
 ·obtain⟨i,hi,hp⟩:=h
  have h1:mT l p=i:=Av (by omega) (fun x hx=>by rw[<-hp];exact hR x i hx hi) fun _=>by rw[hp];exact nC
  have h2:qv l p=i:=by
   rw[qv,List.findIdx_eq hi]
   refine⟨by rw[fm hi]at hp;simpa using hp,fun j hj=>?_⟩
   have:=hR j i hj hi
   rw[hp,fm (by omega)]at this
   simp only[decide_eq_false_iff_not]
   intro hc
   rw[hc,nC]at this
   cases this
  rw[eG,h1,h2,if_pos hi,if_pos ⟨hi,hp⟩]
 ·have h2:¬qv l p<l.length:=by
   rw[qv,List.findIdx_lt_length]
   rintro⟨c,hc,he⟩
   obtain⟨j,hj,rfl⟩:=List.getElem_of_mem hc
   exact h ⟨j,hj,by rw[fm hj];simpa using he⟩
  rw[eG,if_neg h2,if_neg]
  rintro⟨h3,h4⟩
  exact h ⟨_,h3,h4⟩
theorem kO {l:List ad} {p:aH} (h:0<=eG l p):(eG l p).toNat<l.length/\(aL l (eG l p).toNat).aP=p:=by
 unfold eG at h ⊢
 split at h
 ·rename_i hc
  rw[if_pos hc]
  refine⟨by omega,?_⟩
  have:=of_decide_eq_true (List.findIdx_getElem (p:=fun c:ad=>decide (c.aP=p)) (xs:=l) (w:=hc))
  rw[Int.toNat_natCast,fm hc]
  exact this
 ·omega
def gw (l:List ad) (p:aH):Int:=if 0<=eG l p then(aL l (eG l p).toNat).aT else -1
end Go.Proofs.YtgoljkjaameagaaGreat.V

namespace Go.Proofs.YtgoljkjaameagaaGreat.V
open Go.RowKit
attribute [local irreducible] dL wpOps gC Call
attribute [local go_sem] aO fM eS ga fZ cU upd cD K.av cR AV.cells AV.cell rowOf rowsOf part ld rowAt bt cw dG ei iu bK dm eB fY e6 dt ep di dh dV dW bU bd cZ bQ db da ek er eo cY ck dj ej bP aQ dd cJ iq br cN bV aZ dr bc dH AV.undef bF bJ dX eh dR dO cK eA eC cI ev eu dc de List.getD_cons_zero List.getD_cons_succ List.getD_nil List.all_cons List.all_nil Bool.and_true Bool.true_and Bool.and_self Bool.not_true Bool.not_false Option.map_some Option.map_none Option.bind_some Option.bind_none List.length_cons List.length_nil List.take_succ_cons List.take_zero List.take_nil List.drop_succ_cons List.drop_zero List.drop_nil List.head?_cons List.map_cons List.map_nil List.getElem?_cons_zero List.getElem?_cons_succ List.cons_append List.nil_append List.append_nil List.length_map List.set_cons_zero List.set_cons_succ Nat.reduceMul eq_self Int.toNat_natCast Int.natCast_nonneg and_self true_and and_true decide_true decide_false Bool.false_eq_true Nat.zero_add Nat.add_zero List.contains_cons List.contains_nil Bool.or_false Bool.false_or beq_self_eq_true Nat.reduceBEq ne_eq not_true_eq_false not_false_eq_true Id.mk.injEq false_and and_false Nat.reduceLT Int.reduceLE Int.reduceLT Int.reduceToNat Int.reduceNeg Int.reduceAdd Nat.le_refl List.length_append beq_true beq_false Bool.not_eq_eq_eq_not or_false false_or dP ai aq aI bh bE cz aY bl aV bf cW bH
theorem oP (a b:aH):aj Tryz.prog 175 [.agg (ah a),.agg (ah b)] (.bool (jR a b)):=by
 refine aj.body eI rfl fun hl n0=>?_
 clear hl
 by_cases h0:a.eV<b.eV
 ·(try((repeat(revert hN;revert N;apply Pn.out));refine wk (tw @ah.eq_1 @h0) ?_;(repeat(refine Pn.mk ?_;intro N hN))))
  exact aU (b:=true) (.inl rfl) (sd @Nat.zero_add) (by simp[jR,h0])
 ·by_cases h1:a.eV=b.eV
  ·have h2:¬b.eV<b.eV:=by omega
   (try((repeat(revert hN;revert N;apply Pn.out));refine wk (tw @ah.eq_1 (tw @h1 @h2)) ?_;(repeat(refine Pn.mk ?_;intro N hN))))
   exact aU (b:=decide (a.fb<b.fb)) (.inl rfl) (sd @Nat.zero_add) (by simp[jR,h1])
  ·(try((repeat(revert hN;revert N;apply Pn.out));refine wk (tw @ah.eq_1 (tw @h0 @h1)) ?_;(repeat(refine Pn.mk ?_;intro N hN))))
   exact aU (b:=false) (.inl rfl) (sd @Nat.zero_add) (by simp[jR,h0,h1])
theorem fC {l:List ad} {i:Nat} (h:i<l.length):(l.map aa)[i]? =some (aa (aL l i)):=getD_map aa h
def Fj (l:List ad) (i:Nat):Prop:=CO (aL l i).aP=true/\jf (aL l i).aT 0 159=true/\(0<i->jR (aL l (i-1)).aP (aL l i).aP=true)
structure jK (l:List ad):Prop where
 oJ:l.length<=500
 ok:∀i,i<l.length->Fj l i
noncomputable def pg (l:List ad):Bool:=@decide (jK l) (Classical.propDecidable _)
theorem tu {l:List ad}:pg l=true↔jK l:=by simp[pg]
theorem kg {l:List ad} (h:¬jK l):false=pg l:=by simp[pg,h]
theorem y4 {l:List ad} (h:jK l):true=pg l:=by simp[pg,h]
theorem jK.Dm {l:List ad} (h:jK l):oj l:=by
 intro i j D7 hj
 induction j with
 |zero=>omega
 |succ j ih=>
  have h1:=(h.ok (j+1) hj).2.2 (by omega)
  rw[Nat.add_sub_cancel]at h1
  by_cases he:i=j
  ·subst he;exact h1
  ·exact jZ (ih (by omega) (by omega)) h1
theorem jK.pt {l:List ad} (h:jK l) {i:Nat} (hi:i<l.length):CO (aL l i).aP=true:=(h.ok i hi).1
theorem tR {p:aH} (h:CO p=true):iB p.fb/\iB p.eV:=by
 unfold CO at h
 simp only[Bool.and_eq_true]at h
 have:=ez h.1;have:=ez h.2
 unfold iB;omega
theorem G5 (l:List ad):aj Tryz.prog 219 [.dn [.sl (l.map aa)]] (.bool (pg l)):=by
 refine aj.body eI rfl fun hl n0=>?_
 clear hl
 by_cases h1:(500:Int)<(l.length:Int)
 ·(try((repeat(revert hN;revert N;apply Pn.out));refine wk @h1 ?_;(repeat(refine Pn.mk ?_;intro N hN))))
  exact aU (b:=false) (.inl rfl) (sd @Nat.zero_add) (kg fun h=>by have:=h.oJ;omega)
 (try((repeat(revert hN;revert N;apply Pn.out));refine wk @h1 ?_;(repeat(refine Pn.mk ?_;intro N hN))))
 refine aW (fun n env st=>∃k:Nat,n=(l.length)-k/\k<=(l.length)/\env 3=.int .i64 (k:Int)/\(∀j:Nat,j<k->Fj l j)) (l.length) ⟨0,by omega,by omega,sl @Nat.zero_add,fun _ h=>absurd h (Nat.not_lt_zero _)⟩ ?_
 rintro n_a env_a st_a ⟨k,rfl,ale,a3,mv⟩ dJ
 have a0:=dJ 0 (by kernel_rfl)
 simp only[go_sem, ↓reduceIte,Nat.reduceEqDiff,Nat.reduceAdd,Nat.reduceSub,Nat.reduceLeDiff,reduceCtorEq]at a0
 clear dJ
 by_cases hk:(k:Int)<(l.length:Int)
 ·have cG:∀{e:Env},(e 3=.int .i64 (IntKind.i64.wrap ((k:Int)+1)))->(Fj l k)->∃m0,m0<(l.length)-k/\∃k:Nat,m0=(l.length)-k/\k<=(l.length)/\e 3=.int .i64 (k:Int)/\(∀j:Nat,j<k->Fj l j):=fun x1 x2=>⟨_,by omega,k+1,rfl,by omega,(by rw[x1,aB (by omega)]),(all_succ mv x2)⟩
  have fE:k<l.length:=by omega
  have eT:=fC fE
  have lJ:(¬Fj l k)->¬jK l:=fun h hp=>h (hp.ok k fE)
  have hp:=xb (aL l k).aP
  have ht:=l6 (aL l k).aT 0 159
  cases b1:CO (aL l k).aP
  ·rw[b1]at hp
   (repeat(first|((repeat(revert hN;revert N;apply Pn.out));refine wk (tw @a3 (tw @a0 (tw @hk (tw @eT (tw @aa.eq_1 @ah.eq_1))))) ?_;(repeat(refine Pn.mk ?_;intro N hN)))|((try apply Or.inl);refine⟨_,aj.x (hp) (sd (tw @a3 (tw @a0 (tw @hk (tw @eT (tw @aa.eq_1 @ah.eq_1)))))),?_⟩;refine hN _ _ ?_;clear hN N)))
   exact aU (b:=false) (.inl rfl) (sd @Nat.zero_add) (kg (lJ fun h=>by rw[Fj,b1]at h;cases h.1))
  rw[b1]at hp
  cases b2:jf (aL l k).aT 0 159
  ·rw[b2]at ht
   (repeat(first|((repeat(revert hN;revert N;apply Pn.out));refine wk (tw @a3 (tw @a0 (tw @hk (tw @eT (tw @aa.eq_1 @ah.eq_1))))) ?_;(repeat(refine Pn.mk ?_;intro N hN)))|((try apply Or.inl);refine⟨_,aj.x (hp) (sd (tw @a3 (tw @a0 (tw @hk (tw @eT (tw @aa.eq_1 @ah.eq_1)))))),?_⟩;refine hN _ _ ?_;clear hN N)|((try apply Or.inl);refine⟨_,aj.x (ht) (sd (tw @a3 (tw @a0 (tw @hk (tw @eT (tw @aa.eq_1 @ah.eq_1)))))),?_⟩;refine hN _ _ ?_;clear hN N)))
   exact aU (b:=false) (.inl rfl) (sd @Nat.zero_add) (kg (lJ fun h=>by rw[Fj,b2]at h;cases h.2.1))
  rw[b2]at ht
  by_cases h0:(0:Int)<(k:Int)
  ·have wW:=fC (l:=l) (i:=k-1) (by omega)
   have hw:IntKind.i64.wrap ((k:Int)-1)=((k-1:Nat):Int):=by rw[bz (by have:=fE;omega)];omega
   have hq:=oP (aL l (k-1)).aP (aL l k).aP
   cases b3:jR (aL l (k-1)).aP (aL l k).aP
   ·rw[b3]at hq
    (repeat(first|((repeat(revert hN;revert N;apply Pn.out));refine wk (tw @a3 (tw @a0 (tw @hk (tw @eT (tw @wW (tw @h0 (tw @hw (tw @aa.eq_1 @ah.eq_1)))))))) ?_;(repeat(refine Pn.mk ?_;intro N hN)))|((try apply Or.inl);refine⟨_,aj.x (hp) (sd (tw @a3 (tw @a0 (tw @hk (tw @eT (tw @wW (tw @h0 (tw @hw (tw @aa.eq_1 @ah.eq_1))))))))),?_⟩;refine hN _ _ ?_;clear hN N)|((try apply Or.inl);refine⟨_,aj.x (ht) (sd (tw @a3 (tw @a0 (tw @hk (tw @eT (tw @wW (tw @h0 (tw @hw (tw @aa.eq_1 @ah.eq_1))))))))),?_⟩;refine hN _ _ ?_;clear hN N)|((try apply Or.inl);refine⟨_,aj.x (hq) (sd (tw @a3 (tw @a0 (tw @hk (tw @eT (tw @wW (tw @h0 (tw @hw (tw @aa.eq_1 @ah.eq_1))))))))),?_⟩;refine hN _ _ ?_;clear hN N)))
    exact aU (b:=false) (.inl rfl) (sd @Nat.zero_add) (kg (lJ fun h=>by have:=h.2.2 (by omega);rw[b3]at this;cases this))
   ·rw[b3]at hq
    (repeat(first|((repeat(revert hN;revert N;apply Pn.out));refine wk (tw @a3 (tw @a0 (tw @hk (tw @eT (tw @wW (tw @h0 (tw @hw (tw @aa.eq_1 @ah.eq_1)))))))) ?_;(repeat(refine Pn.mk ?_;intro N hN)))|((try apply Or.inl);refine⟨_,aj.x (hp) (sd (tw @a3 (tw @a0 (tw @hk (tw @eT (tw @wW (tw @h0 (tw @hw (tw @aa.eq_1 @ah.eq_1))))))))),?_⟩;refine hN _ _ ?_;clear hN N)|((try apply Or.inl);refine⟨_,aj.x (ht) (sd (tw @a3 (tw @a0 (tw @hk (tw @eT (tw @wW (tw @h0 (tw @hw (tw @aa.eq_1 @ah.eq_1))))))))),?_⟩;refine hN _ _ ?_;clear hN N)|((try apply Or.inl);refine⟨_,aj.x (hq) (sd (tw @a3 (tw @a0 (tw @hk (tw @eT (tw @wW (tw @h0 (tw @hw (tw @aa.eq_1 @ah.eq_1))))))))),?_⟩;refine hN _ _ ?_;clear hN N)))
    exact cG (sd (tw @a3 @a0)) (⟨b1,b2,fun _=>b3⟩)
  ·have xX:k=0:=by omega
   (repeat(first|((repeat(revert hN;revert N;apply Pn.out));refine wk (tw @a3 (tw @a0 (tw @hk (tw @eT (tw @h0 (tw @aa.eq_1 @ah.eq_1)))))) ?_;(repeat(refine Pn.mk ?_;intro N hN)))|((try apply Or.inl);refine⟨_,aj.x (hp) (sd (tw @a3 (tw @a0 (tw @hk (tw @eT (tw @h0 (tw @aa.eq_1 @ah.eq_1))))))),?_⟩;refine hN _ _ ?_;clear hN N)|((try apply Or.inl);refine⟨_,aj.x (ht) (sd (tw @a3 (tw @a0 (tw @hk (tw @eT (tw @h0 (tw @aa.eq_1 @ah.eq_1))))))),?_⟩;refine hN _ _ ?_;clear hN N)))
   exact cG (sd (tw @a3 @a0)) (⟨b1,b2,fun h=>by omega⟩)
 ·(try((repeat(revert hN;revert N;apply Pn.out));refine wk (tw @a3 (tw @a0 @hk)) ?_;(repeat(refine Pn.mk ?_;intro N hN))))
  exact aU (b:=true) (.inl rfl) (sd @Nat.zero_add) (y4 ⟨by omega,fun i hi=>mv i (by omega)⟩)
theorem yU (a b:Int):aj Tryz.prog 210 [.int .i64 a,.int .i64 b] (.int .i64 (r8 a b)):=by
 have nan:∀x:Int,aj Tryz.prog 273 [.int .i64 x] (.bool false):=fun x=>by
  refine aj.body eI rfl fun hl n0=>?_
  clear hl
  have e:decide (x=x)=true:=decide_eq_true rfl
  (try((repeat(revert hN;revert N;apply Pn.out));refine wk @e ?_;(repeat(refine Pn.mk ?_;intro N hN))))
  exact aU (b:=false) (.inl rfl) (sd @Nat.zero_add) rfl
 refine aj.body eI rfl fun hl n0=>?_
 clear hl
 have ha:=nan a
 have hb:=nan b
 by_cases h1:a<b
 ·(repeat(first|((repeat(revert hN;revert N;apply Pn.out));refine wk @h1 ?_;(repeat(refine Pn.mk ?_;intro N hN)))|((try apply Or.inl);refine⟨_,aj.x (ha) (sd @h1),?_⟩;refine hN _ _ ?_;clear hN N)|((try apply Or.inl);refine⟨_,aj.x (hb) (sd @h1),?_⟩;refine hN _ _ ?_;clear hN N)))
  exact cr (b:=-1) (.inl rfl) (sd @Nat.zero_add) (by rw[r8,if_pos h1])
 by_cases h2:b<a
 ·(repeat(first|((repeat(revert hN;revert N;apply Pn.out));refine wk (tw @h1 @h2) ?_;(repeat(refine Pn.mk ?_;intro N hN)))|((try apply Or.inl);refine⟨_,aj.x (ha) (sd (tw @h1 @h2)),?_⟩;refine hN _ _ ?_;clear hN N)|((try apply Or.inl);refine⟨_,aj.x (hb) (sd (tw @h1 @h2)),?_⟩;refine hN _ _ ?_;clear hN N)))
  exact cr (b:=1) (.inl rfl) (sd @Nat.zero_add) (by rw[r8,if_neg h1,if_pos h2])
 ·(repeat(first|((repeat(revert hN;revert N;apply Pn.out));refine wk (tw @h1 @h2) ?_;(repeat(refine Pn.mk ?_;intro N hN)))|((try apply Or.inl);refine⟨_,aj.x (ha) (sd (tw @h1 @h2)),?_⟩;refine hN _ _ ?_;clear hN N)|((try apply Or.inl);refine⟨_,aj.x (hb) (sd (tw @h1 @h2)),?_⟩;refine hN _ _ ?_;clear hN N)))
  exact cr (b:=0) (.inl rfl) (sd @Nat.zero_add) (by rw[r8,if_neg h1,if_neg h2])
def H6:List Int->Int
 |[]=>0
 |a::r=>if a=0 then H6 r else a
theorem J1:∀{l:List Int} {k:Nat} (hk:k<l.length),l[k]≠0->(∀j (h:j<l.length),j<k->l[j]=0)->H6 l=l[k]
 |a::r,0,_,h,_=>by
  have h':a≠0:=h
  rw[H6,if_neg h'];rfl
 |a::r,k+1,hk,h,h0=>by
  have h':a=0:=h0 0 (by simp) (by omega)
  rw[H6,if_pos h',J1 (k:=k) (by simpa using hk) h fun j hj y9=>h0 (j+1) (by simpa using hj) (by omega)];rfl
theorem CL:∀{l:List Int},(∀j (h:j<l.length),l[j]=0)->H6 l=0
 |[],_=>rfl
 |a::r,h=>by
  have h':a=0:=h 0 (by simp)
  rw[H6,if_pos h',CL fun j hj=>h (j+1) (by simpa using hj)]
theorem MA (a b:Int):H6 [a,b]=Mz a b:=by
 unfold Mz
 by_cases h:a=0
 ·rw[H6,if_pos h,if_pos h,H6,H6];split<;>simp_all
 ·rw[H6,if_neg h,if_neg h]
theorem Lx (l:List Int):aj Tryz.prog 233 [.sl (l.map bq)] (.int .i64 (H6 l)):=by
 refine aj.body eI rfl fun hl n0=>?_
 have hlen:l.length<=9223372036854775807:=by simpa using(hl (.sl (l.map bq)) (by simp)).len
 clear hl
 (try((repeat(revert hN;revert N;apply Pn.out));refine wk @Nat.zero_add ?_;(repeat(refine Pn.mk ?_;intro N hN))))
 refine aW (fun n env st=>∃k:Nat,n=(l.length)-k/\k<=(l.length)/\env 8=.int .i64 (k:Int)/\(∀j:Nat,j<k->∀h:j<l.length,l[j]=0)) (l.length) ⟨0,by omega,by omega,sl @Nat.zero_add,fun _ h=>absurd h (Nat.not_lt_zero _)⟩ ?_
 rintro n_a env_a st_a ⟨k,rfl,ale,a8,mv⟩ dJ
 have a3:=dJ 3 (by kernel_rfl);have a6:=dJ 6 (by kernel_rfl);have a7:=dJ 7 (by kernel_rfl)
 simp only[go_sem, ↓reduceIte,Nat.reduceEqDiff,Nat.reduceAdd,Nat.reduceSub,Nat.reduceLeDiff,reduceCtorEq]at a3 a6 a7
 clear dJ
 by_cases hk:(k:Int)<(l.length:Int)
 ·have cG:∀{e:Env},(e 8=.int .i64 (IntKind.i64.wrap ((k:Int)+1)))->(∀h:k<l.length,l[k]=0)->∃m0,m0<(l.length)-k/\∃k:Nat,m0=(l.length)-k/\k<=(l.length)/\e 8=.int .i64 (k:Int)/\(∀j:Nat,j<k->∀h:j<l.length,l[j]=0):=fun x1 x2=>⟨_,by omega,k+1,rfl,by omega,(by rw[x1,aB (by omega)]),(all_succ mv x2)⟩
  have fE:k<l.length:=by omega
  have eT:(l.map bq)[k]? =some (bq l[k]):=by simp[fE]
  generalize hv:l[k]=v at eT
  by_cases h0:v=0
  ·have e:decide (v=0)=true:=decide_eq_true h0
   (try((repeat(revert hN;revert N;apply Pn.out));refine wk (tw @a8 (tw @a3 (tw @a6 (tw @a7 (tw @e (tw @hk (tw @eT @bq.eq_1))))))) ?_;(repeat(refine Pn.mk ?_;intro N hN))))
   exact cG (sd (tw @a8 (tw @a3 (tw @a6 @a7)))) (fun _=>hv.trans h0)
  ·have e:decide (v=0)=false:=decide_eq_false h0
   (try((repeat(revert hN;revert N;apply Pn.out));refine wk (tw @a8 (tw @a3 (tw @a6 (tw @a7 (tw @e (tw @hk (tw @eT @bq.eq_1))))))) ?_;(repeat(refine Pn.mk ?_;intro N hN))))
   exact cr (b:=v) (.inl rfl) (sd @Nat.zero_add) (by rw[J1 fE (by rw[hv];exact h0) fun j h hj=>mv j hj h,hv])
 ·(try((repeat(revert hN;revert N;apply Pn.out));refine wk (tw @a8 (tw @a3 (tw @a6 (tw @a7 @hk)))) ?_;(repeat(refine Pn.mk ?_;intro N hN))))
  exact cr (b:=0) (.inl rfl) (sd @Nat.zero_add) (by rw[CL fun j h=>mv j (by omega) h])
section
attribute [local go_sem] List.drop_zero List.take_succ_cons List.take_zero List.length_cons List.length_nil gV Aa pj
theorem nW (a b:aH):aj Tryz.prog 154 [.agg (ah a),.agg (ah b)] (.int .i64 (r9 a b)):=by
 refine aj.body eI rfl fun hl n0=>?_
 clear hl
 have h1:=yU a.eV b.eV
 have h2:=yU a.fb b.fb
 have h3:=Lx [r8 a.eV b.eV,r8 a.fb b.fb]
 rw[MA,List.map_cons,List.map_cons,List.map_nil,bq,bq]at h3
 (repeat(first|((repeat(revert hN;revert N;apply Pn.out));refine wk @ah.eq_1 ?_;(repeat(refine Pn.mk ?_;intro N hN)))|((try apply Or.inl);refine⟨_,aj.x (h1) (sd @ah.eq_1),?_⟩;refine hN _ _ ?_;clear hN N)|((try apply Or.inl);refine⟨_,aj.x (h2) (sd @ah.eq_1),?_⟩;refine hN _ _ ?_;clear hN N)|((try apply Or.inl);refine⟨_,aj.x (h3) (sd @ah.eq_1),?_⟩;refine hN _ _ ?_;clear hN N)))
 exact cr (b:=r9 a b) (.inl rfl) (by simp only[go_sem, ↓reduceIte,Nat.reduceEqDiff,Nat.reduceAdd,Nat.reduceSub,Nat.reduceLeDiff,reduceCtorEq,r9]) rfl
end
theorem Mb (a b:aH):aj Tryz.prog 179 [.agg (ah a),.agg (ah b)] (.bool (jR a b)):=by
 refine aj.body eI rfl fun hl n0=>?_
 clear hl
 have h1:=nW a b
 rw[ah,ah]at h1
 (repeat(first|((repeat(revert hN;revert N;apply Pn.out));refine wk @ah.eq_1 ?_;(repeat(refine Pn.mk ?_;intro N hN)))|((try apply Or.inl);refine⟨_,aj.x (h1) (sd @ah.eq_1),?_⟩;refine hN _ _ ?_;clear hN N)))
 exact aU (b:=decide (r9 a b<0)) (.inl rfl) (sd @Nat.zero_add) (vz a b)
theorem kz (t:ad) (p:aH):aj Tryz.prog 164 [.agg (aa t),.agg (ah p)] (.int .i64 (r9 t.aP p)):=by
 refine aj.body eI rfl fun hl n0=>?_
 clear hl
 have h1:=nW t.aP p
 rw[ah,ah]at h1
 (repeat(first|((repeat(revert hN;revert N;apply Pn.out));refine wk (tw @aa.eq_1 @ah.eq_1) ?_;(repeat(refine Pn.mk ?_;intro N hN)))|((try apply Or.inl);refine⟨_,aj.x (h1) (sd (tw @aa.eq_1 @ah.eq_1)),?_⟩;refine hN _ _ ?_;clear hN N)))
 exact cr (b:=r9 t.aP p) (.inl rfl) (sd @Nat.zero_add) rfl
theorem tz (l:List ad):aj Tryz.prog 200 [.agg [.sl (l.map aa)]] (.bool (pg l)):=by
 refine aj.body eI rfl fun hl n0=>?_
 have hlen:l.length<=9223372036854775807:=by
  have h1:=(hl (.agg [.sl (l.map aa)]) (by simp)).N1 (a:=.sl (l.map aa)) (by simp)
  simpa using h1.len
 clear hl
 (try((repeat(revert hN;revert N;apply Pn.out));refine wk @Nat.zero_add ?_;(repeat(refine Pn.mk ?_;intro N hN))))
 refine aW (fun n env st=>∃k:Nat,n=(l.length)-k/\k<=(l.length)/\env 8=.int .i64 (k:Int)/\st.get ⟨200000000,n0⟩=some ⟨true,1,[[.sl (l.map aa)]]⟩/\(∀j:Nat,j<k->Fj l j)) (l.length) ⟨0,by omega,by omega,sl @Nat.zero_add,sl @Nat.zero_add,fun _ h=>absurd h (Nat.not_lt_zero _)⟩ ?_
 rintro n_a env_a st_a ⟨k,rfl,ale,a8,ag0,mv⟩ dJ
 have a1:=dJ 1 (by kernel_rfl);have a6:=dJ 6 (by kernel_rfl);have a7:=dJ 7 (by kernel_rfl)
 simp only[go_sem, ↓reduceIte,Nat.reduceEqDiff,Nat.reduceAdd,Nat.reduceSub,Nat.reduceLeDiff,reduceCtorEq]at a1 a6 a7
 clear dJ
 by_cases hk:(k:Int)<(l.length:Int)
 ·have cG:∀{e:Env} {gg:Rows},(e 8=.int .i64 (IntKind.i64.wrap ((k:Int)+1)))->(gg ⟨200000000,n0⟩=some ⟨true,1,[[.sl (l.map aa)]]⟩)->(Fj l k)->∃m0,m0<(l.length)-k/\∃k:Nat,m0=(l.length)-k/\k<=(l.length)/\e 8=.int .i64 (k:Int)/\gg ⟨200000000,n0⟩=some ⟨true,1,[[.sl (l.map aa)]]⟩/\(∀j:Nat,j<k->Fj l j):=fun x1 x2 x3=>⟨_,by omega,k+1,rfl,by omega,(by rw[x1,aB (by omega)]),x2,(all_succ mv x3)⟩
  have fE:k<l.length:=by omega
  have eT:=fC fE
  have lJ:(¬Fj l k)->¬jK l:=fun h hp=>h (hp.ok k fE)
  have hp:=rX (aL l k).aP
  have ht:=zj (aL l k).aT 160 (by omega) (by omega)
  rw[show(160:Int)-1=159 from rfl]at ht
  cases b1:CO (aL l k).aP
  ·rw[b1]at hp
   (repeat(first|((repeat(revert hN;revert N;apply Pn.out));refine wk (tw @a8 (tw @ag0 (tw @a1 (tw @a6 (tw @a7 (tw @hk (tw @eT (tw @aa.eq_1 @ah.eq_1)))))))) ?_;(repeat(refine Pn.mk ?_;intro N hN)))|((try apply Or.inl);refine⟨_,aj.x (hp) (sd (tw @a8 (tw @ag0 (tw @a1 (tw @a6 (tw @a7 (tw @hk (tw @eT (tw @aa.eq_1 @ah.eq_1))))))))),?_⟩;refine hN _ _ ?_;clear hN N)))
   exact aU (b:=false) (.inl rfl) (sd @Nat.zero_add) (kg (lJ fun h=>by rw[Fj,b1]at h;cases h.1))
  rw[b1]at hp
  cases b2:jf (aL l k).aT 0 159
  ·rw[b2]at ht
   (repeat(first|((repeat(revert hN;revert N;apply Pn.out));refine wk (tw @a8 (tw @ag0 (tw @a1 (tw @a6 (tw @a7 (tw @hk (tw @eT (tw @aa.eq_1 @ah.eq_1)))))))) ?_;(repeat(refine Pn.mk ?_;intro N hN)))|((try apply Or.inl);refine⟨_,aj.x (hp) (sd (tw @a8 (tw @ag0 (tw @a1 (tw @a6 (tw @a7 (tw @hk (tw @eT (tw @aa.eq_1 @ah.eq_1))))))))),?_⟩;refine hN _ _ ?_;clear hN N)|((try apply Or.inl);refine⟨_,aj.x (ht) (sd (tw @a8 (tw @ag0 (tw @a1 (tw @a6 (tw @a7 (tw @hk (tw @eT (tw @aa.eq_1 @ah.eq_1))))))))),?_⟩;refine hN _ _ ?_;clear hN N)))
   exact aU (b:=false) (.inl rfl) (sd @Nat.zero_add) (kg (lJ fun h=>by rw[Fj,b2]at h;cases h.2.1))
  rw[b2]at ht
  by_cases h0:(0:Int)<(k:Int)
  ·have wW:=fC (l:=l) (i:=k-1) (by omega)
   have hw:IntKind.i64.wrap ((k:Int)-1)=((k-1:Nat):Int):=by rw[bz (by omega)];omega
   have hq:=Mb (aL l (k-1)).aP (aL l k).aP
   cases b3:jR (aL l (k-1)).aP (aL l k).aP
   ·rw[b3]at hq
    (repeat(first|((repeat(revert hN;revert N;apply Pn.out));refine wk (tw @a8 (tw @ag0 (tw @a1 (tw @a6 (tw @a7 (tw @hk (tw @eT (tw @wW (tw @h0 (tw @hw (tw @aa.eq_1 @ah.eq_1))))))))))) ?_;(repeat(refine Pn.mk ?_;intro N hN)))|((try apply Or.inl);refine⟨_,aj.x (hp) (sd (tw @a8 (tw @ag0 (tw @a1 (tw @a6 (tw @a7 (tw @hk (tw @eT (tw @wW (tw @h0 (tw @hw (tw @aa.eq_1 @ah.eq_1)))))))))))),?_⟩;refine hN _ _ ?_;clear hN N)|((try apply Or.inl);refine⟨_,aj.x (ht) (sd (tw @a8 (tw @ag0 (tw @a1 (tw @a6 (tw @a7 (tw @hk (tw @eT (tw @wW (tw @h0 (tw @hw (tw @aa.eq_1 @ah.eq_1)))))))))))),?_⟩;refine hN _ _ ?_;clear hN N)|((try apply Or.inl);refine⟨_,aj.x (hq) (sd (tw @a8 (tw @ag0 (tw @a1 (tw @a6 (tw @a7 (tw @hk (tw @eT (tw @wW (tw @h0 (tw @hw (tw @aa.eq_1 @ah.eq_1)))))))))))),?_⟩;refine hN _ _ ?_;clear hN N)))
    exact aU (b:=false) (.inl rfl) (sd @Nat.zero_add) (kg (lJ fun h=>by have:=h.2.2 (by omega);rw[b3]at this;cases this))
   ·rw[b3]at hq
    (repeat(first|((repeat(revert hN;revert N;apply Pn.out));refine wk (tw @a8 (tw @ag0 (tw @a1 (tw @a6 (tw @a7 (tw @hk (tw @eT (tw @wW (tw @h0 (tw @hw (tw @aa.eq_1 @ah.eq_1))))))))))) ?_;(repeat(refine Pn.mk ?_;intro N hN)))|((try apply Or.inl);refine⟨_,aj.x (hp) (sd (tw @a8 (tw @ag0 (tw @a1 (tw @a6 (tw @a7 (tw @hk (tw @eT (tw @wW (tw @h0 (tw @hw (tw @aa.eq_1 @ah.eq_1)))))))))))),?_⟩;refine hN _ _ ?_;clear hN N)|((try apply Or.inl);refine⟨_,aj.x (ht) (sd (tw @a8 (tw @ag0 (tw @a1 (tw @a6 (tw @a7 (tw @hk (tw @eT (tw @wW (tw @h0 (tw @hw (tw @aa.eq_1 @ah.eq_1)))))))))))),?_⟩;refine hN _ _ ?_;clear hN N)|((try apply Or.inl);refine⟨_,aj.x (hq) (sd (tw @a8 (tw @ag0 (tw @a1 (tw @a6 (tw @a7 (tw @hk (tw @eT (tw @wW (tw @h0 (tw @hw (tw @aa.eq_1 @ah.eq_1)))))))))))),?_⟩;refine hN _ _ ?_;clear hN N)))
    refine cG ?_ ?_ (⟨b1,b2,fun _=>b3⟩)
    all_goals simp only[go_sem, ↓reduceIte,Nat.reduceEqDiff,Nat.reduceAdd,Nat.reduceSub,Nat.reduceLeDiff,reduceCtorEq,a8,ag0,a1,a6,a7]
  ·have xX:k=0:=by omega
   (repeat(first|((repeat(revert hN;revert N;apply Pn.out));refine wk (tw @a8 (tw @ag0 (tw @a1 (tw @a6 (tw @a7 (tw @hk (tw @eT (tw @h0 (tw @aa.eq_1 @ah.eq_1))))))))) ?_;(repeat(refine Pn.mk ?_;intro N hN)))|((try apply Or.inl);refine⟨_,aj.x (hp) (sd (tw @a8 (tw @ag0 (tw @a1 (tw @a6 (tw @a7 (tw @hk (tw @eT (tw @h0 (tw @aa.eq_1 @ah.eq_1)))))))))),?_⟩;refine hN _ _ ?_;clear hN N)|((try apply Or.inl);refine⟨_,aj.x (ht) (sd (tw @a8 (tw @ag0 (tw @a1 (tw @a6 (tw @a7 (tw @hk (tw @eT (tw @h0 (tw @aa.eq_1 @ah.eq_1)))))))))),?_⟩;refine hN _ _ ?_;clear hN N)))
   refine cG ?_ ?_ (⟨b1,b2,fun h=>by omega⟩)
   all_goals simp only[go_sem, ↓reduceIte,Nat.reduceEqDiff,Nat.reduceAdd,Nat.reduceSub,Nat.reduceLeDiff,reduceCtorEq,a8,ag0,a1,a6,a7]
 ·(try((repeat(revert hN;revert N;apply Pn.out));refine wk (tw @a8 (tw @ag0 (tw @a1 (tw @a6 (tw @a7 @hk))))) ?_;(repeat(refine Pn.mk ?_;intro N hN))))
  refine aU (b:=decide ((l.length:Int)<=500)) (.inl rfl) (sd @Nat.zero_add) ?_
  by_cases h5:(l.length:Int)<=500
  ·rw[decide_eq_true h5];exact y4 ⟨by omega,fun i hi=>mv i (by omega)⟩
  ·rw[decide_eq_false h5];exact kg fun h=>by have:=h.oJ;omega
theorem yR (cells:List ad) (p:aH) (hR:oj cells) (GH:cells.length<=1048576):
  aj Tryz.prog 163 [.sl (cells.map aa),.agg (ah p),.fn 164 []] (.gO [.int .i64 (mT cells p),.bool (decide (mT cells p<cells.length)&&decide ((aL cells (mT cells p)).aP=p))]):=by
 refine aj.body eI rfl fun hl n0=>?_
 clear hl
 (try((repeat(revert hN;revert N;apply Pn.out));refine wk @ah.eq_1 ?_;(repeat(refine Pn.mk ?_;intro N hN))))
 refine aW (fun n env st=>∃i j:Nat,n=j-i/\i<=j/\j<=cells.length/\(∀x,x<i->jR (aL cells x).aP p=true)/\(∀x,j<=x->x<cells.length->jR (aL cells x).aP p=false)/\env 9=.int .i64 i/\env 10=.int .i64 j/\st.get ⟨163000000,n0⟩=some ⟨true,2,[ah p]⟩) cells.length ⟨0,cells.length,by omega,by omega,by omega,fun x h=>by omega,fun x h1 h2=>by omega,by(simp only[go_sem, ↓reduceIte,Nat.reduceEqDiff,Nat.reduceAdd,Nat.reduceSub,Nat.reduceLeDiff,reduceCtorEq])<;>rfl,sd @Nat.zero_add,sd @ah.eq_1⟩ ?_
 rintro n env st ⟨i,j,rfl,D7,hj,kD,Dh,h9,DU,hg⟩ fr
 have h0:=fr 0 (by kernel_rfl)
 have h2:=fr 2 (by kernel_rfl)
 have h4:=fr 4 (by kernel_rfl)
 have h8:=fr 8 (by kernel_rfl)
 simp only[go_sem, ↓reduceIte,Nat.reduceEqDiff,Nat.reduceAdd,Nat.reduceSub,Nat.reduceLeDiff,reduceCtorEq]at h0 h2 h4 h8
 clear fr
 by_cases dY:(i:Int)<(j:Int)
 ·have e1:IntKind.i64.wrap ((i:Int)+j)=((i+j:Nat):Int):=by rw[bz (by omega)];rfl
  have hm:(i+j) / 2<cells.length:=by omega
  have fq:(cells.map aa)[(i+j) / 2]? =some (aa (aL cells ((i+j) / 2))):=fC (l:=cells) hm
  have e2:IntKind.i64.wrap ((IntKind.u64.wrap ((i+j:Nat):Int)).fdiv (2 ^ min 1 IntKind.u64.bits))=(((i+j) / 2:Nat):Int):=by
   have h:IntKind.u64.wrap ((i+j:Nat):Int)=((i+j:Nat):Int):=by rw[IntKind.wrap_u64];omega
   rw[h,show min 1 IntKind.u64.bits=1 from rfl,show((2:Int) ^ 1)=2 from rfl,Int.fdiv_eq_ediv_of_nonneg _ (by omega)]
   rw[bz (by omega)];omega
  have QW:IntKind.i64.wrap ((IntKind.u64.wrap ((i+j:Nat):Int)).fdiv (2 ^ min 1 64))=(((i+j) / 2:Nat):Int):=e2
  have e3:=aB (k:=(i+j) / 2) (by omega)
  by_cases hc:r9 (aL cells ((i+j) / 2)).aP p<0
  ·have hl:jR (aL cells ((i+j) / 2)).aP p=true:=by rw[<-vz];simpa using hc
   (repeat(first|((repeat(revert hN;revert N;apply Pn.out));refine wk (tw @h0 (tw @h2 (tw @h4 (tw @h8 (tw @h9 (tw @DU (tw @hg (tw @dY (tw @e1 (tw @e2 (tw @QW (tw @fq (tw @hc (tw @aa.eq_1 @ah.eq_1)))))))))))))) ?_;(repeat(refine Pn.mk ?_;intro N hN)))|((try apply Or.inl);refine⟨_,aj.x (kz (aL cells ((i+j) / 2)) p) (sd (tw @h0 (tw @h2 (tw @h4 (tw @h8 (tw @h9 (tw @DU (tw @hg (tw @dY (tw @e1 (tw @e2 (tw @QW (tw @fq (tw @hc (tw @aa.eq_1 @ah.eq_1))))))))))))))),?_⟩;refine hN _ _ ?_;clear hN N)))
   refine⟨_,?_,(i+j) / 2+1,j,rfl,by omega,hj,fun x hx=>?_,Dh,sd @e3,sd @DU,sd (tw @hg @ah.eq_1)⟩
   ·omega
   ·by_cases Pf:x=(i+j) / 2
    ·subst Pf;exact hl
    ·exact jZ (hR x _ (by omega) hm) hl
  ·have hl:jR (aL cells ((i+j) / 2)).aP p=false:=by rw[<-vz];simpa using hc
   (repeat(first|((repeat(revert hN;revert N;apply Pn.out));refine wk (tw @h0 (tw @h2 (tw @h4 (tw @h8 (tw @h9 (tw @DU (tw @hg (tw @dY (tw @e1 (tw @e2 (tw @QW (tw @fq (tw @hc (tw @aa.eq_1 @ah.eq_1)))))))))))))) ?_;(repeat(refine Pn.mk ?_;intro N hN)))|((try apply Or.inl);refine⟨_,aj.x (kz (aL cells ((i+j) / 2)) p) (sd (tw @h0 (tw @h2 (tw @h4 (tw @h8 (tw @h9 (tw @DU (tw @hg (tw @dY (tw @e1 (tw @e2 (tw @QW (tw @fq (tw @hc (tw @aa.eq_1 @ah.eq_1))))))))))))))),?_⟩;refine hN _ _ ?_;clear hN N)))
   refine⟨_,?_,i,(i+j) / 2,rfl,by omega,by omega,kD,fun x h1 h2=>?_,sd @h9,sd (tw @e2 @QW),sd (tw @hg @ah.eq_1)⟩
   ·omega
   ·by_cases Pf:x=(i+j) / 2
    ·subst Pf;exact hl
    ·rw[Bool.eq_false_iff]
     intro hc
     have h3:=jZ (hR ((i+j) / 2) x (by omega) h2) hc
     rw[hl]at h3;cases h3
 ·have OQ:i=j:=by omega
  subst OQ
  have Ca:mT cells p=i:=Av hj kD fun h=>Dh i (Nat.le_refl _) h
  by_cases hn:(i:Int)<(cells.length:Int)
  ·have fB:i<cells.length:=by omega
   have fq:(cells.map aa)[i]? =some (aa (aL cells i)):=fC (l:=cells) fB
   have hd:decide (r9 (aL cells i).aP p=0)=decide ((aL cells i).aP=p):=by simp only[Gr]
   (repeat(first|((repeat(revert hN;revert N;apply Pn.out));refine wk (tw @h0 (tw @h2 (tw @h4 (tw @h8 (tw @h9 (tw @DU (tw @hg (tw @dY (tw @hn (tw @fq (tw @aa.eq_1 @ah.eq_1))))))))))) ?_;(repeat(refine Pn.mk ?_;intro N hN)))|((try apply Or.inl);refine⟨_,aj.x (kz (aL cells i) p) (sd (tw @h0 (tw @h2 (tw @h4 (tw @h8 (tw @h9 (tw @DU (tw @hg (tw @dY (tw @hn (tw @fq (tw @aa.eq_1 @ah.eq_1)))))))))))),?_⟩;refine hN _ _ ?_;clear hN N)))
   refine jC (.inl rfl) (r1:=.int .i64 i) (r2:=.bool (decide ((aL cells i).aP=p))) ?_ ?_ ?_
   ·simp only[go_sem, ↓reduceIte,Nat.reduceEqDiff,Nat.reduceAdd,Nat.reduceSub,Nat.reduceLeDiff,reduceCtorEq]
   ·simp only[go_sem, ↓reduceIte,Nat.reduceEqDiff,Nat.reduceAdd,Nat.reduceSub,Nat.reduceLeDiff,reduceCtorEq,hd]
   ·simp only[eY,bD,cF,eQ,fo,Option.map_some,Ca,fB,decide_true,Bool.true_and]
  ·have fB:¬i<cells.length:=by omega
   (try((repeat(revert hN;revert N;apply Pn.out));refine wk (tw @h0 (tw @h2 (tw @h4 (tw @h8 (tw @h9 (tw @DU (tw @hg (tw @dY (tw @hn (tw @aa.eq_1 @ah.eq_1)))))))))) ?_;(repeat(refine Pn.mk ?_;intro N hN))))
   refine jC (.inl rfl) (r1:=.int .i64 i) (r2:=.bool false) ?_ ?_ ?_
   ·simp only[go_sem, ↓reduceIte,Nat.reduceEqDiff,Nat.reduceAdd,Nat.reduceSub,Nat.reduceLeDiff,reduceCtorEq]
   ·simp only[go_sem, ↓reduceIte,Nat.reduceEqDiff,Nat.reduceAdd,Nat.reduceSub,Nat.reduceLeDiff,reduceCtorEq]
   ·simp only[eY,bD,cF,eQ,fo,Option.map_some,Ca,fB,decide_false,Bool.false_and]
theorem Hl (l:List ad) (p:aH) (hR:oj l) (GH:l.length<=1048576):aj Tryz.prog 303 [.agg [.sl (l.map aa)],.agg (ah p)] (.int .i64 (eG l p)):=by
 refine aj.body eI rfl fun hl n0=>?_
 clear hl
 rw[Aw hR]
 have hb:=yR l p hR GH
 rw[ah]at hb
 cases hf:(decide (mT l p<l.length)&&decide ((aL l (mT l p)).aP=p))
 ·rw[hf]at hb
  (repeat(first|((repeat(revert hN;revert N;apply Pn.out));refine wk @ah.eq_1 ?_;(repeat(refine Pn.mk ?_;intro N hN)))|((try apply Or.inl);refine⟨_,aj.x (hb) (sd @ah.eq_1),?_⟩;refine hN _ _ ?_;clear hN N)))
  exact cr (b:=-1) (.inl rfl) (sd @Nat.zero_add) (by rw[if_neg];intro h;simp[h.1,h.2]at hf)
 ·rw[hf]at hb
  (repeat(first|((repeat(revert hN;revert N;apply Pn.out));refine wk @ah.eq_1 ?_;(repeat(refine Pn.mk ?_;intro N hN)))|((try apply Or.inl);refine⟨_,aj.x (hb) (sd @ah.eq_1),?_⟩;refine hN _ _ ?_;clear hN N)))
  exact cr (b:=(mT l p:Int)) (.inl rfl) (sd @Nat.zero_add) (by rw[if_pos];simpa using hf)
theorem TY (l:List ad) (p:aH) (hR:oj l) (GH:l.length<=1048576):aj Tryz.prog 244 [.agg [.sl (l.map aa)],.agg (ah p)] (.int .i64 (gw l p)):=by
 refine aj.body eI rfl fun hl n0=>?_
 clear hl
 have hi:=Aw (l:=l) (p:=p) hR
 have hb:=yR l p hR GH
 rw[ah]at hb
 cases hf:(decide (mT l p<l.length)&&decide ((aL l (mT l p)).aP=p))
 ·rw[hf]at hb
  (repeat(first|((repeat(revert hN;revert N;apply Pn.out));refine wk @ah.eq_1 ?_;(repeat(refine Pn.mk ?_;intro N hN)))|((try apply Or.inl);refine⟨_,aj.x (hb) (sd @ah.eq_1),?_⟩;refine hN _ _ ?_;clear hN N)))
  exact cr (b:=-1) (.inl rfl) (sd @Nat.zero_add) (by
   have hx:eG l p= -1:=by rw[hi,if_neg (by intro h;simp[h.1,h.2]at hf)]
   rw[gw,hx];rfl)
 ·rw[hf]at hb
  have hc:mT l p<l.length/\(aL l (mT l p)).aP=p:=by simpa using hf
  have hg:=fC hc.1
  (repeat(first|((repeat(revert hN;revert N;apply Pn.out));refine wk (tw @ah.eq_1 (tw @hg @aa.eq_1)) ?_;(repeat(refine Pn.mk ?_;intro N hN)))|((try apply Or.inl);refine⟨_,aj.x (hb) (sd (tw @ah.eq_1 (tw @hg @aa.eq_1))),?_⟩;refine hN _ _ ?_;clear hN N)))
  exact cr (b:=(aL l (mT l p)).aT) (.inl rfl) (sd @Nat.zero_add) (by
   have hx:eG l p=(mT l p:Int):=by rw[hi,if_pos hc]
   rw[gw,hx,if_pos (by omega),Int.toNat_natCast])
theorem rC (l:List ad) (p:aH) (hR:oj l) (GH:l.length<=1048576):aj Tryz.prog 173 [.dn [.sl (l.map aa)],.agg (ah p)] (.int .i64 (eG l p)):=by
 refine aj.body eI rfl fun hl n0=>?_
 clear hl
 rw[Aw hR]
 (try((repeat(revert hN;revert N;apply Pn.out));refine wk @ah.eq_1 ?_;(repeat(refine Pn.mk ?_;intro N hN))))
 refine aW (fun n env st=>∃i j:Nat,n=j-i/\i<=j/\j<=l.length/\(∀x,x<i->jR (aL l x).aP p=true)/\(∀x,j<=x->x<l.length->jR (aL l x).aP p=false)/\env 5=.int .i64 i/\env 6=.int .i64 j/\st.get ⟨173000000,n0⟩=some ⟨true,2,[ah p]⟩) l.length ⟨0,l.length,by omega,by omega,by omega,fun x h=>by omega,fun x h1 h2=>by omega,by(simp only[go_sem, ↓reduceIte,Nat.reduceEqDiff,Nat.reduceAdd,Nat.reduceSub,Nat.reduceLeDiff,reduceCtorEq])<;>rfl,sd @Nat.zero_add,sd @ah.eq_1⟩ ?_
 rintro n env st ⟨i,j,rfl,D7,hj,kD,Dh,h5,h6,hg⟩ fr
 have h0:=fr 0 (by kernel_rfl)
 have h3:=fr 3 (by kernel_rfl)
 simp only[go_sem, ↓reduceIte,Nat.reduceEqDiff,Nat.reduceAdd,Nat.reduceSub,Nat.reduceLeDiff,reduceCtorEq]at h0 h3
 clear fr
 by_cases dY:(i:Int)<(j:Int)
 ·have e1:IntKind.i64.wrap ((i:Int)+j)=((i+j:Nat):Int):=by rw[bz (by omega)];rfl
  have hm:(i+j) / 2<l.length:=by omega
  have fq:=fC hm
  have e2:IntKind.i64.wrap (((i+j:Nat):Int).tdiv 2)=(((i+j) / 2:Nat):Int):=by
   rw[Int.tdiv_eq_ediv_of_nonneg (by omega),bz (by omega)];omega
  have e3:=aB (k:=(i+j) / 2) (by omega)
  have hq:=oP (aL l ((i+j) / 2)).aP p
  cases hl:jR (aL l ((i+j) / 2)).aP p
  ·rw[hl]at hq
   (repeat(first|((repeat(revert hN;revert N;apply Pn.out));refine wk (tw @h0 (tw @h3 (tw @h5 (tw @h6 (tw @hg (tw @dY (tw @e1 (tw @e2 (tw @fq (tw @aa.eq_1 @ah.eq_1)))))))))) ?_;(repeat(refine Pn.mk ?_;intro N hN)))|((try apply Or.inl);refine⟨_,aj.x (hq) (sd (tw @h0 (tw @h3 (tw @h5 (tw @h6 (tw @hg (tw @dY (tw @e1 (tw @e2 (tw @fq (tw @aa.eq_1 @ah.eq_1))))))))))),?_⟩;refine hN _ _ ?_;clear hN N)))
   refine⟨_,?_,i,(i+j) / 2,rfl,by omega,by omega,kD,fun x h1 h2=>?_,sd @h5,sd @e2,sd (tw @hg @ah.eq_1)⟩
   ·omega
   ·by_cases Pf:x=(i+j) / 2
    ·subst Pf;exact hl
    ·rw[Bool.eq_false_iff]
     intro hc
     have h3:=jZ (hR ((i+j) / 2) x (by omega) h2) hc
     rw[hl]at h3;cases h3
  ·rw[hl]at hq
   (repeat(first|((repeat(revert hN;revert N;apply Pn.out));refine wk (tw @h0 (tw @h3 (tw @h5 (tw @h6 (tw @hg (tw @dY (tw @e1 (tw @e2 (tw @fq (tw @aa.eq_1 @ah.eq_1)))))))))) ?_;(repeat(refine Pn.mk ?_;intro N hN)))|((try apply Or.inl);refine⟨_,aj.x (hq) (sd (tw @h0 (tw @h3 (tw @h5 (tw @h6 (tw @hg (tw @dY (tw @e1 (tw @e2 (tw @fq (tw @aa.eq_1 @ah.eq_1))))))))))),?_⟩;refine hN _ _ ?_;clear hN N)))
   refine⟨_,?_,(i+j) / 2+1,j,rfl,by omega,hj,fun x hx=>?_,Dh,sd @e3,sd @h6,sd (tw @hg @ah.eq_1)⟩
   ·omega
   ·by_cases Pf:x=(i+j) / 2
    ·subst Pf;exact hl
    ·exact jZ (hR x _ (by omega) hm) hl
 ·have OQ:i=j:=by omega
  subst OQ
  have Ca:mT l p=i:=Av hj kD fun h=>Dh i (Nat.le_refl _) h
  by_cases hn:(i:Int)<(l.length:Int)
  ·have fB:i<l.length:=by omega
   have fq:=fC fB
   by_cases hp:(aL l i).aP=p
   ·have hx:decide ((aL l i).aP.fb=p.fb)=true:=decide_eq_true (by rw[hp])
    have hy:decide ((aL l i).aP.eV=p.eV)=true:=decide_eq_true (by rw[hp])
    (try((repeat(revert hN;revert N;apply Pn.out));refine wk (tw @h0 (tw @h3 (tw @h5 (tw @h6 (tw @hg (tw @dY (tw @hn (tw @fq (tw @hx (tw @hy (tw @aa.eq_1 @ah.eq_1))))))))))) ?_;(repeat(refine Pn.mk ?_;intro N hN))))
    exact cr (b:=(i:Int)) (.inl rfl) (sd @Nat.zero_add) (by rw[Ca,if_pos ⟨fB,hp⟩])
   ·by_cases hx:(aL l i).aP.fb=p.fb
    ·have vP:decide ((aL l i).aP.fb=p.fb)=true:=decide_eq_true hx
     have hy':decide ((aL l i).aP.eV=p.eV)=false:=decide_eq_false fun h=>hp (EE hx h)
     (try((repeat(revert hN;revert N;apply Pn.out));refine wk (tw @h0 (tw @h3 (tw @h5 (tw @h6 (tw @hg (tw @dY (tw @hn (tw @fq (tw @vP (tw @hy' (tw @aa.eq_1 @ah.eq_1))))))))))) ?_;(repeat(refine Pn.mk ?_;intro N hN))))
     exact cr (b:=-1) (.inl rfl) (sd @Nat.zero_add) (by rw[Ca,if_neg fun h=>hp h.2])
    ·have vP:decide ((aL l i).aP.fb=p.fb)=false:=decide_eq_false hx
     (try((repeat(revert hN;revert N;apply Pn.out));refine wk (tw @h0 (tw @h3 (tw @h5 (tw @h6 (tw @hg (tw @dY (tw @hn (tw @fq (tw @vP (tw @Bool.false_and (tw @aa.eq_1 @ah.eq_1))))))))))) ?_;(repeat(refine Pn.mk ?_;intro N hN))))
     exact cr (b:=-1) (.inl rfl) (sd @Nat.zero_add) (by rw[Ca,if_neg fun h=>hp h.2])
  ·have fB:¬i<l.length:=by omega
   (try((repeat(revert hN;revert N;apply Pn.out));refine wk (tw @h0 (tw @h3 (tw @h5 (tw @h6 (tw @hg (tw @dY (tw @hn (tw @aa.eq_1 @ah.eq_1)))))))) ?_;(repeat(refine Pn.mk ?_;intro N hN))))
   exact cr (b:=-1) (.inl rfl) (sd @Nat.zero_add) (by rw[Ca,if_neg fun h=>fB h.1])
theorem FV (l:List ad) (p:aH) (hR:oj l) (GH:l.length<=1048576):aj Tryz.prog 216 [.dn [.sl (l.map aa)],.agg (ah p)] (.int .i64 (gw l p)):=by
 refine aj.body eI rfl fun hl n0=>?_
 clear hl
 have hb:=rC l p hR GH
 by_cases hi:eG l p<0
 ·rw[ah]at hb
  (repeat(first|((repeat(revert hN;revert N;apply Pn.out));refine wk (tw @ah.eq_1 @hi) ?_;(repeat(refine Pn.mk ?_;intro N hN)))|((try apply Or.inl);refine⟨_,aj.x (hb) (sd (tw @ah.eq_1 @hi)),?_⟩;refine hN _ _ ?_;clear hN N)))
  exact cr (b:=-1) (.inl rfl) (sd @Nat.zero_add) (by rw[gw,if_neg (by omega)])
 ·have h0:0<=eG l p:=by omega
  have hg:=fC (kO h0).1
  rw[ah]at hb
  (repeat(first|((repeat(revert hN;revert N;apply Pn.out));refine wk (tw @ah.eq_1 (tw @hi (tw @h0 (tw @hg @aa.eq_1)))) ?_;(repeat(refine Pn.mk ?_;intro N hN)))|((try apply Or.inl);refine⟨_,aj.x (hb) (sd (tw @ah.eq_1 (tw @hi (tw @h0 (tw @hg @aa.eq_1))))),?_⟩;refine hN _ _ ?_;clear hN N)))
  exact cr (b:=(aL l (eG l p).toNat).aT) (.inl rfl) (sd @Nat.zero_add) (by rw[gw,if_pos h0])
def jc (s:aw) (l:List ad):Prop:=jK l/\∀t∈l,eO s t.aT=true
noncomputable def kM (s:aw) (l:List ad):Bool:=pg l&&l.all fun t=>eO s t.aT
theorem gi {s:aw} {l:List ad}:kM s l=true↔jc s l:=by simp[kM,jc,tu]
theorem wI:QK aa (fun c=>.agg (aa c)) 3 true:=⟨fun _=>rfl,fun _=>rfl,fun x g=>by simp only[aa,ai,aq,bl,aI,Option.map_some]⟩
theorem Hh (s:aw) (t:ad) (hs:s.ae.length<=1048576):aj Tryz.prog 202 [.agg (aa t),.dn (ab s)] (.bool (!eO s t.aT)):=by
 refine aj.body eI rfl fun hl n0=>?_
 clear hl
 have h:=JF s t.aT
 rw[ab]at h
 (repeat(first|((repeat(revert hN;revert N;apply Pn.out));refine wk (tw @aa.eq_1 @ab.eq_1) ?_;(repeat(refine Pn.mk ?_;intro N hN)))|((try apply Or.inl);refine⟨_,aj.x (h) (sd (tw @aa.eq_1 @ab.eq_1)),?_⟩;refine hN _ _ ?_;clear hN N)))
 exact aU (b:= !eO s t.aT) (.inl rfl) (sd @Nat.zero_add) rfl
theorem MX (s:aw) (l:List ad) (hs:s.ae.length<=1048576) (hl:l.length<=1048576):aj Tryz.prog 201 [.sl (l.map aa),.fn 202 [.dn (ab s)]] (.bool (l.any fun t=> !eO s t.aT)):=
 kZ wI (show mz Tryz.prog 201=some (Af 201 247) by kernel_rfl)
  (show mz Tryz.prog 247=some (tH 247 3 true) by kernel_rfl) l hl _ _ _ rfl (fun g=>by rw[ai,aV,aq];rfl) (fun x _=>Hh s x hs) fun g=>by rw[ai,aV,aq];rfl
theorem Fm {α:Type} (p:α->Bool) (l:List α):(!l.any fun t=> !p t)=l.all p:=by
 induction l with
 |nil=>rfl
 |cons x l ih=>simp only[List.any_cons,List.all_cons,<-ih];cases p x<;>simp
theorem nU (s:aw) (l:List ad) (hn:gF s) (hg:s.ay.length<=1048576) (ht:s.ae.length<=1048576) (hs:∀t∈s.ae,t.bx.length<=1048576) (hl:l.length<=1048576):aj Tryz.prog 131 [.agg (ab s),.agg [.sl (l.map aa)]] (.bool (rK s&&kM s l)):=by
 refine aj.body eI rfl fun hl n0=>?_
 clear hl
 have h1:=Dv s hn hg ht hs
 have h2:=tz l
 have h3:=MX s l ht hl
 rw[ab]at h1 h3
 cases b1:rK s
 ·rw[b1]at h1
  (repeat(first|((repeat(revert hN;revert N;apply Pn.out));refine wk @ab.eq_1 ?_;(repeat(refine Pn.mk ?_;intro N hN)))|((try apply Or.inl);refine⟨_,aj.x (h1) (sd @ab.eq_1),?_⟩;refine hN _ _ ?_;clear hN N)))
  exact aU (b:=false) (.inl rfl) (sd @Nat.zero_add) rfl
 rw[b1]at h1
 cases b2:pg l
 ·rw[b2]at h2
  (repeat(first|((repeat(revert hN;revert N;apply Pn.out));refine wk @ab.eq_1 ?_;(repeat(refine Pn.mk ?_;intro N hN)))|((try apply Or.inl);refine⟨_,aj.x (h1) (sd @ab.eq_1),?_⟩;refine hN _ _ ?_;clear hN N)|((try apply Or.inl);refine⟨_,aj.x (h2) (sd @ab.eq_1),?_⟩;refine hN _ _ ?_;clear hN N)))
  exact aU (b:=false) (.inl rfl) (sd @Nat.zero_add) (by rw[kM,b2];rfl)
 rw[b2]at h2
 (repeat(first|((repeat(revert hN;revert N;apply Pn.out));refine wk @ab.eq_1 ?_;(repeat(refine Pn.mk ?_;intro N hN)))|((try apply Or.inl);refine⟨_,aj.x (h1) (sd @ab.eq_1),?_⟩;refine hN _ _ ?_;clear hN N)|((try apply Or.inl);refine⟨_,aj.x (h2) (sd @ab.eq_1),?_⟩;refine hN _ _ ?_;clear hN N)|((try apply Or.inl);refine⟨_,aj.x (h3) (sd @ab.eq_1),?_⟩;refine hN _ _ ?_;clear hN N)))
 exact aU (b:= !(l.any fun t=> !eO s t.aT)) (.inl rfl) (sd @Nat.zero_add) (by rw[Fm,kM,b2];rfl)
theorem Ap (s:aw) (l:List ad):aj Tryz.prog 146 [.dn (ab s),.dn [.sl (l.map aa)]] (.bool (kM s l)):=by
 refine aj.body eI rfl fun hl n0=>?_
 have hlen:l.length<=9223372036854775807:=by
  have h1:=(hl (.dn [.sl (l.map aa)]) (by simp)).Cq (a:=.sl (l.map aa)) (by simp)
  simpa using h1.len
 clear hl
 have h2:=G5 l
 cases b2:pg l
 ·rw[b2]at h2
  (repeat(first|((repeat(revert hN;revert N;apply Pn.out));refine wk @Nat.zero_add ?_;(repeat(refine Pn.mk ?_;intro N hN)))|((try apply Or.inl);refine⟨_,aj.x (h2) (sd @Nat.zero_add),?_⟩;refine hN _ _ ?_;clear hN N)))
  exact aU (b:=false) (.inl rfl) (sd @Nat.zero_add) (by rw[kM,b2];rfl)
 rw[b2]at h2
 (repeat(first|((repeat(revert hN;revert N;apply Pn.out));refine wk @Nat.zero_add ?_;(repeat(refine Pn.mk ?_;intro N hN)))|((try apply Or.inl);refine⟨_,aj.x (h2) (sd @Nat.zero_add),?_⟩;refine hN _ _ ?_;clear hN N)))
 refine aW (fun n env st=>∃k:Nat,n=(l.length)-k/\k<=(l.length)/\env 5=.int .i64 (k:Int)/\(∀j:Nat,j<k->eO s (aL l j).aT=true)) (l.length) ⟨0,by omega,by omega,sl @Nat.zero_add,fun _ h=>absurd h (Nat.not_lt_zero _)⟩ ?_
 rintro n_a env_a st_a ⟨k,rfl,ale,a5,mv⟩ dJ
 have a0:=dJ 0 (by kernel_rfl);have a1:=dJ 1 (by kernel_rfl)
 simp only[go_sem, ↓reduceIte,Nat.reduceEqDiff,Nat.reduceAdd,Nat.reduceSub,Nat.reduceLeDiff,reduceCtorEq]at a0 a1
 clear dJ
 by_cases hk:(k:Int)<(l.length:Int)
 ·have cG:∀{e:Env},(e 5=.int .i64 (IntKind.i64.wrap ((k:Int)+1)))->(eO s (aL l k).aT=true)->∃m0,m0<(l.length)-k/\∃k:Nat,m0=(l.length)-k/\k<=(l.length)/\e 5=.int .i64 (k:Int)/\(∀j:Nat,j<k->eO s (aL l j).aT=true):=fun x1 x2=>⟨_,by omega,k+1,rfl,by omega,(by rw[x1,aB (by omega)]),(all_succ mv x2)⟩
  have fE:k<l.length:=by omega
  have eT:=fC fE
  have ht:=xc s (aL l k).aT
  cases b3:eO s (aL l k).aT
  ·rw[b3]at ht
   (repeat(first|((repeat(revert hN;revert N;apply Pn.out));refine wk (tw @a5 (tw @a0 (tw @a1 (tw @hk (tw @eT @aa.eq_1))))) ?_;(repeat(refine Pn.mk ?_;intro N hN)))|((try apply Or.inl);refine⟨_,aj.x (ht) (sd (tw @a5 (tw @a0 (tw @a1 (tw @hk (tw @eT @aa.eq_1)))))),?_⟩;refine hN _ _ ?_;clear hN N)))
   exact aU (b:=false) (.inl rfl) (sd @Nat.zero_add) (by
    have:l.all (fun t=>eO s t.aT)=false:=List.all_eq_false.2 ⟨_,gM fE,by rw[b3];simp⟩
    rw[kM,this,Bool.and_false])
  ·rw[b3]at ht
   (repeat(first|((repeat(revert hN;revert N;apply Pn.out));refine wk (tw @a5 (tw @a0 (tw @a1 (tw @hk (tw @eT @aa.eq_1))))) ?_;(repeat(refine Pn.mk ?_;intro N hN)))|((try apply Or.inl);refine⟨_,aj.x (ht) (sd (tw @a5 (tw @a0 (tw @a1 (tw @hk (tw @eT @aa.eq_1)))))),?_⟩;refine hN _ _ ?_;clear hN N)))
   exact cG (sd (tw @a5 (tw @a0 @a1))) (b3)
 ·(try((repeat(revert hN;revert N;apply Pn.out));refine wk (tw @a5 (tw @a0 (tw @a1 @hk))) ?_;(repeat(refine Pn.mk ?_;intro N hN))))
  exact aU (b:=true) (.inl rfl) (sd @Nat.zero_add) (by
   have:l.all (fun t=>eO s t.aT)=true:=List.all_eq_true.2 fun t ht=>by
    obtain⟨j,hj,rfl⟩:=List.getElem_of_mem ht
    have:=mv j (by omega)
    rwa [fm hj]at this
   rw[kM,b2,this];rfl)
theorem yz (l:List ad) (hF:jK l) (i:Nat) (d:Int) (hi:i<l.length) (hd:jf d 0 3=true):aj Tryz.prog 189 [.dn [.sl (l.map aa)],.int .i64 i,.int .i64 d] (.int .i64 (eG l (dB (aL l i).aP d))):=by
 refine aj.body eI rfl fun hl n0=>?_
 clear hl
 have hg:=fC hi
 have hp:=tR (hF.pt hi)
 have h1:=zl (aL l i).aP d hd hp.1 hp.2
 have h2:=rC l (dB (aL l i).aP d) hF.Dm (by have:=hF.oJ;omega)
 rw[ah]at h1 h2
 (repeat(first|((repeat(revert hN;revert N;apply Pn.out));refine wk (tw @aa.eq_1 (tw @hg @ah.eq_1)) ?_;(repeat(refine Pn.mk ?_;intro N hN)))|((try apply Or.inl);refine⟨_,aj.x (h1) (sd (tw @aa.eq_1 (tw @hg @ah.eq_1))),?_⟩;refine hN _ _ ?_;clear hN N)|((try apply Or.inl);refine⟨_,aj.x (h2) (sd (tw @aa.eq_1 (tw @hg @ah.eq_1))),?_⟩;refine hN _ _ ?_;clear hN N)))
 exact cr (b:=eG l (dB (aL l i).aP d)) (.inl rfl) (sd @Nat.zero_add) rfl
end Go.Proofs.YtgoljkjaameagaaGreat.V

namespace Go.Proofs.YtgoljkjaameagaaGreat.V
def bi (b:Bool):Int:=if b then 1 else 0
def mo (f:Nat->Int):Nat->Int
 |0=>0
 |n+1=>mo f n+f n
theorem gz {f g:Nat->Int}:∀{n:Nat},(∀i,i<n->f i=g i)->mo f n=mo g n
 |0,_=>rfl
 |n+1,h=>by
  simp only[mo]
  rw[gz fun i hi=>h i (by omega),h n (by omega)]
theorem sU {f g:Nat->Int}:∀{n:Nat},(∀i,i<n->f i<=g i)->mo f n<=mo g n
 |0,_=>Int.le_refl _
 |n+1,h=>by
  simp only[mo]
  have:=sU (n:=n) fun i hi=>h i (by omega)
  have:=h n (by omega)
  omega
theorem j7:∀{n:Nat} {f:Nat->Int},(∀i,i<n->f i=0)->mo f n=0
 |0,_,_=>rfl
 |n+1,f,h=>by
  simp only[mo]
  rw[j7 fun i hi=>h i (by omega),h n (by omega)];rfl
theorem qj {f:Nat->Int} {a:Nat} {d:Int}:∀n,mo (fun i=>f i+if i=a then d else 0) n=mo f n+if a<n then d else 0
 |0=>by simp[mo]
 |n+1=>by
  simp only[mo]
  rw[qj n]
  by_cases h:n=a
  ·subst h;simp;omega
  ·rw[if_neg h]
   by_cases h2:a<n
   ·rw[if_pos h2,if_pos (by omega)];omega
   ·rw[if_neg h2,if_neg (by omega)];omega
def mL (n:Nat) (S:Nat->Bool) (f:Nat->Nat->Int):Int:=mo (fun u=>mo (fun v=>if S u&& !S v then f u v else 0) n) n
def bump (f:Nat->Nat->Int) (a b:Nat) (d:Int):Nat->Nat->Int:=fun u v=>f u v+if u=a/\v=b then d else 0
theorem p4 {n:Nat} {S:Nat->Bool} {f:Nat->Nat->Int} {a b:Nat} {d:Int} (ha:a<n) (hb:b<n):mL n S (bump f a b d)=mL n S f+if S a&& !S b then d else 0:=by
 unfold mL
 have h1:∀u,u<n->mo (fun v=>if S u&& !S v then bump f a b d u v else 0) n=mo (fun v=>if S u&& !S v then f u v else 0) n+if u=a then(if S a&& !S b then d else 0)else 0:=by
  intro u hu
  by_cases h:u=a
  ·subst h
   have h2:∀v,v<n->(if S u&& !S v then bump f u b d u v else 0)=(fun v=>if S u&& !S v then f u v else 0) v+if v=b then(if S u&& !S b then d else 0)else 0:=by
    intro v hv
    unfold bump
    by_cases h3:v=b
    ·subst h3;simp only[and_self,if_true];split<;>omega
    ·simp only[h3,and_false,if_false];split<;>omega
   rw[gz h2,qj,if_pos hb,if_pos rfl]
  ·rw[if_neg h,Int.add_zero]
   refine gz fun v hv=>?_
   unfold bump
   simp[h]
 rw[gz h1,qj,if_pos ha]
theorem LB {n:Nat} {S:Nat->Bool} {f c:Nat->Nat->Int} (h:∀u v,u<n->v<n->f u v<=c u v):mL n S f<=mL n S c:=
 sU fun u hu=>sU fun v hv=>by split;exact h u v hu hv;exact Int.le_refl _
theorem Lz {n:Nat} {S:Nat->Bool} {f c:Nat->Nat->Int} (h:∀u v,u<n->v<n->S u=true->S v=false->f u v=c u v):mL n S f=mL n S c:=
 gz fun u hu=>gz fun v hv=>by
  split
  ·rename_i hc
   simp only[Bool.and_eq_true,Bool.not_eq_true']at hc
   exact h u v hu hv hc.1 hc.2
  ·rfl
def kJ (f:Nat->Nat->Int) (a b:Nat):Nat->Nat->Int:=bump (bump f a b 1) b a (-1)
theorem Gv {n:Nat} {S:Nat->Bool} {f:Nat->Nat->Int} {a b:Nat} (ha:a<n) (hb:b<n):mL n S (kJ f a b)=mL n S f+bi (S a)-bi (S b):=by
 unfold kJ
 rw[p4 hb ha,p4 ha hb]
 cases S a<;>cases S b<;>simp[bi]<;>omega
def mJ (f:Nat->Nat->Int):List Nat->Nat->Nat->Int
 |a::b::r=>mJ (kJ f a b) (b::r)
 |_=>f
def rU (f c:Nat->Nat->Int):List Nat->Prop
 |a::b::r=>f a b<c a b/\rU f c (b::r)
 |_=>True
theorem BE {n:Nat} {S:Nat->Bool}:∀(r:List Nat) (a:Nat) (f:Nat->Nat->Int),(∀x∈a::r,x<n)->mL n S (mJ f (a::r))=mL n S f+bi (S a)-bi (S ((a::r).getLast (by simp)))
 |[],a,f,_=>by simp[mJ]
 |b::r,a,f,h=>by
  rw[mJ,BE r b (kJ f a b) fun x hx=>h x (List.mem_cons_of_mem _ hx),Gv (h a (by simp)) (h b (by simp)),List.getLast_cons_cons]
  generalize bi (S b)=q
  omega
theorem rU.less {f g c:Nat->Nat->Int}:∀{p:List Nat},rU f c p->(∀u,u∈p->∀v,g u v<=f u v)->rU g c p
 |[],_,_=>trivial
 |[_],_,_=>trivial
 |a::b::r,h,hl=>⟨Int.lt_of_le_of_lt (hl a (by simp) b) h.1,rU.less (p:=b::r) h.2 fun u hu=>hl u (List.mem_cons_of_mem _ hu)⟩
theorem Fp {n:Nat} {c:Nat->Nat->Int}:∀(p:List Nat) (f:Nat->Nat->Int),p.Nodup->rU f c p->(∀u v,u<n->v<n->f u v<=c u v)->∀u v,u<n->v<n->mJ f p u v<=c u v
 |[],f,_,_,h=>h
 |[_],f,_,_,h=>h
 |a::b::r,f,hn,hr,h=>by
  rw[mJ]
  have re:a∉b::r:=(List.nodup_cons.1 hn).1
  refine Fp (b::r) _ (List.nodup_cons.1 hn).2 (hr.2.less fun u hu v=>?_) fun u v hu hv=>?_
  ·unfold kJ bump
   have:u≠a:=by rintro rfl;exact re hu
   simp only[this,false_and,if_false]
   split<;>omega
  ·have h0:=h u v hu hv
   have h1:=hr.1
   unfold kJ bump
   by_cases e:u=a/\v=b
   ·obtain⟨rfl,rfl⟩:=e
    rw[if_pos ⟨rfl,rfl⟩];split<;>omega
   ·rw[if_neg e];split<;>omega
structure lP (n:Nat) (c f:Nat->Nat->Int) (x y:Nat) (val:Int):Prop where
 le:∀u v,u<n->v<n->f u v<=c u v
 cut:∀S:Nat->Bool,S x=true->S y=false->mL n S f=val
theorem lP.zero {n:Nat} {c:Nat->Nat->Int} {x y:Nat} (h:∀u v,u<n->v<n->0<=c u v):lP n c (fun _ _=>0) x y 0:=
 ⟨h,fun S _ _=>j7 fun u hu=>j7 fun v hv=>by split<;>rfl⟩
theorem lP.congr {n:Nat} {c f g:Nat->Nat->Int} {x y:Nat} {val:Int} (h:lP n c f x y val) (e:∀u v,u<n->v<n->g u v=f u v):lP n c g x y val:=
 ⟨fun u v hu hv=>by rw[e u v hu hv];exact h.le u v hu hv,fun S hx hy=>by
  rw[<-h.cut S hx hy]
  exact gz fun u hu=>gz fun v hv=>by rw[e u v hu hv]⟩
theorem lP.aug {n:Nat} {c f:Nat->Nat->Int} {x y:Nat} {val:Int} (h:lP n c f x y val) {r:List Nat} (hl:(x::r).getLast (by simp)=y) (hn:(x::r).Nodup) (hr:rU f c (x::r)) (hb:∀v∈x::r,v<n):lP n c (mJ f (x::r)) x y (val+1):=
 ⟨Fp _ _ hn hr h.le,fun S hx hy=>by rw[BE r x f hb,hl,h.cut S hx hy,hx,hy];simp[bi]⟩
theorem lP.bound {n:Nat} {c f:Nat->Nat->Int} {x y:Nat} {val:Int} (h:lP n c f x y val) {S:Nat->Bool} (hx:S x=true) (hy:S y=false):val<=mL n S c:=by
 rw[<-h.cut S hx hy];exact LB h.le
theorem lP.full {n:Nat} {c f:Nat->Nat->Int} {x y:Nat} {val:Int} (h:lP n c f x y val) {S:Nat->Bool} (hx:S x=true) (hy:S y=false) (hS:∀u v,u<n->v<n->S u=true->S v=false->¬f u v<c u v):val=mL n S c:=by
 rw[<-h.cut S hx hy]
 exact Lz fun u v hu hv h1 h2=>by have:=hS u v hu hv h1 h2;have:=h.le u v hu hv;omega
structure PB where
 a:Nat
 b:Nat
 s:Int
 deriving Inhabited
def cE (bs:List PB) (i:Nat):PB:=bs.getD i default
def jk (S:Nat->Bool) (bs:List PB):Int:=(bs.map fun b=>if S b.a=S b.b then 0 else b.s).sum
def oq (c:Nat->Nat->Int) (b:PB):Nat->Nat->Int:=bump (bump c b.a b.b b.s) b.b b.a b.s
def lr (bs:List PB):Nat->Nat->Int:=bs.foldl oq fun _ _=>0
theorem EK (bs:List PB) (b:PB):lr (bs++[b])=oq (lr bs) b:=by simp[lr]
theorem BO {n:Nat} {S:Nat->Bool}:∀(bs:List PB) (c:Nat->Nat->Int),(∀b∈bs,b.a<n/\b.b<n)->mL n S (bs.foldl oq c)=mL n S c+jk S bs
 |[],c,_=>by simp[jk]
 |b::bs,c,h=>by
  have hb:=h b (by simp)
  rw[List.foldl_cons,BO bs _ fun x hx=>h x (List.mem_cons_of_mem _ hx)]
  unfold oq jk
  rw[p4 hb.2 hb.1,p4 hb.1 hb.2,List.map_cons,List.sum_cons]
  cases S b.a<;>cases S b.b<;>simp<;>omega
theorem BP {n:Nat} {S:Nat->Bool} {bs:List PB} (h:∀b∈bs,b.a<n/\b.b<n):mL n S (lr bs)=jk S bs:=by
 rw[lr,BO bs _ h]
 have:mL n S (fun _ _=>0)=0:=j7 fun u hu=>j7 fun v hv=>by split<;>rfl
 omega
theorem AM:∀(bs:List PB) (c:Nat->Nat->Int),(∀b∈bs,0<=b.s)->(∀u v,0<=c u v)->∀u v,0<=bs.foldl oq c u v
 |[],c,_,h=>h
 |b::bs,c,hb,h=>by
  rw[List.foldl_cons]
  refine AM bs _ (fun x hx=>hb x (List.mem_cons_of_mem _ hx)) fun u v=>?_
  have:=hb b (by simp);have:=h u v
  unfold oq bump
  split<;>split<;>omega
theorem room_le:∀(bs:List PB) (c:Nat->Nat->Int) (m:Int),(∀b∈bs,b.s<=4)->(∀u v,c u v<=m)->0<=m->∀u v,bs.foldl oq c u v<=m+8*bs.length
 |[],c,m,_,h,_=>fun u v=>by have:=h u v;simp;omega
 |b::bs,c,m,hb,h,h0=>fun u v=>by
  rw[List.foldl_cons]
  have:=room_le bs (oq c b) (m+8) (fun x hx=>hb x (List.mem_cons_of_mem _ hx)) (fun u v=>by
   have:=hb b (by simp);have:=h u v
   unfold oq bump
   split<;>split<;>omega) (by omega) u v
  simp only[List.length_cons];omega
def kV (n:Nat) (bs:List PB) (t:Int):Prop:=∀S:Nat->Bool,S 0=true->(∃y,y<n/\S y=false)->t<=jk S bs
def Gt (S:Nat->Bool) (bs:List PB) (f:Nat->Int):Int:=mo (fun i=>f i*(bi (S (cE bs i).a)-bi (S (cE bs i).b))) bs.length
structure ke (bs:List PB) (f:Nat->Int) (x y:Nat) (val:Int):Prop where
 le:∀i,i<bs.length->f i<=(cE bs i).s/\-(cE bs i).s<=f i
 cut:∀S:Nat->Bool,S x=true->S y=false->Gt S bs f=val
theorem wD (S:Nat->Bool):∀bs:List PB,jk S bs=mo (fun i=>if S (cE bs i).a=S (cE bs i).b then 0 else(cE bs i).s) bs.length:=by
 intro bs
 have key:∀n,n<=bs.length->jk S (bs.take n)=mo (fun i=>if S (cE bs i).a=S (cE bs i).b then 0 else(cE bs i).s) n:=by
  intro n
  induction n with
  |zero=>intro _;rfl
  |succ n ih=>
   intro h
   have e:cE bs n=bs[n]:=by simp[cE,List.getD_eq_getElem?_getD,List.getElem?_eq_getElem (show n<bs.length by omega)]
   rw[List.take_succ_eq_append_getElem (by omega),mo,<-ih (by omega),e]
   unfold jk
   rw[List.map_append,List.sum_append]
   simp only[List.map_cons,List.map_nil,List.sum_cons,List.sum_nil,Int.add_zero]
 have:=key bs.length (Nat.le_refl _)
 rwa [List.take_length]at this
theorem ke.bound {bs:List PB} {f:Nat->Int} {x y:Nat} {val:Int} (h:ke bs f x y val) {S:Nat->Bool} (hx:S x=true) (hy:S y=false):val<=jk S bs:=by
 rw[<-h.cut S hx hy,wD]
 refine sU fun i hi=>?_
 have:=h.le i hi
 cases S (cE bs i).a<;>cases S (cE bs i).b<;>simp[bi]<;>omega
def fK (bs:List PB) (f:Nat->Int) (i u:Nat):Int:=if (cE bs i).a=u then(cE bs i).s-f i else(cE bs i).s+f i
def cq (bs:List PB) (i u:Nat):Nat:=if (cE bs i).a=u then(cE bs i).b else(cE bs i).a
theorem ke.full {bs:List PB} {f:Nat->Int} {x y:Nat} {val:Int} (h:ke bs f x y val) {S:Nat->Bool} (hx:S x=true) (hy:S y=false)
  (hS:∀i,i<bs.length->((cE bs i).a≠(cE bs i).b->(S (cE bs i).a=true->S (cE bs i).b=false->¬0<fK bs f i (cE bs i).a)/\(S (cE bs i).b=true->S (cE bs i).a=false->¬0<fK bs f i (cE bs i).b))):val=jk S bs:=by
 rw[<-h.cut S hx hy,wD]
 refine gz fun i hi=>?_
 have h1:=h.le i hi
 by_cases re:(cE bs i).a=(cE bs i).b
 ·rw[re];simp
 ·have h2:=hS i hi re
  unfold fK at h2
  rw[if_pos rfl,if_neg re]at h2
  cases ha:S (cE bs i).a<;>cases hb:S (cE bs i).b<;>rw[ha,hb]at h2<;>simp[bi]at h2 ⊢ <;>omega
def uJ (bs:List PB) (f:Nat->Int) (i u:Nat):Nat->Int:=fun j=>f j+if j=i then(if (cE bs i).a=u then 1 else -1)else 0
theorem Gu {S:Nat->Bool} {bs:List PB} {f:Nat->Int} {i u:Nat} (hi:i<bs.length) (hu:(cE bs i).a=u∨(cE bs i).b=u):Gt S bs (uJ bs f i u)=Gt S bs f+bi (S u)-bi (S (cq bs i u)):=by
 unfold Gt uJ
 have e:∀j,j<bs.length->(f j+if j=i then(if (cE bs i).a=u then 1 else -1)else 0)*(bi (S (cE bs j).a)-bi (S (cE bs j).b))=(fun j=>f j*(bi (S (cE bs j).a)-bi (S (cE bs j).b))) j+if j=i then(if (cE bs i).a=u then 1 else -1)*(bi (S (cE bs i).a)-bi (S (cE bs i).b))else 0:=by
  intro j hj
  by_cases h:j=i
  ·subst h;simp only[if_true];rw[Int.add_mul]
  ·simp only[h,if_false];simp
 rw[gz e,qj,if_pos hi]
 unfold cq
 by_cases ha:(cE bs i).a=u
 ·rw[if_pos ha,if_pos ha,ha];omega
 ·rw[if_neg ha,if_neg ha]
  rcases hu with hu|hu
  ·exact absurd hu ha
  ·rw[hu];omega
theorem pC:∀(n:Nat) (l:List Nat),l.Nodup->(∀x∈l,x<n)->l.length<=n
 |0,l,_,h=>by
  cases l with
  |nil=>simp
  |cons x l=>exact absurd (h x (by simp)) (by omega)
 |n+1,l,hn,h=>by
  have h1:=pC n (l.erase n) (hn.erase _) fun x hx=>by
   have h2:=(hn.mem_erase_iff).1 hx
   have h3:=h x h2.2
   have h4:=h2.1
   omega
  rw[List.length_erase]at h1
  split at h1<;>omega
def eR (L:Nat->Nat) (b:PB):Nat->Nat:=fun k=>if L k=max (L b.a) (L b.b)then min (L b.a) (L b.b)else L k
def eE (bs:List PB):Nat->Nat:=bs.foldl eR id
theorem xd (bs:List PB) (b:PB):eE (bs++[b])=eR (eE bs) b:=by simp[eE]
structure jM (L:Nat->Nat):Prop where
 le:∀k,L k<=k
 idem:∀k,L (L k)=L k
theorem jM.step {L:Nat->Nat} (h:jM L) (b:PB):jM (eR L b):=by
 have ha:=h.idem b.a
 have hb:=h.idem b.b
 refine⟨fun k=>?_,fun k=>?_⟩
 ·have:=h.le k
  unfold eR
  split<;>omega
 ·have hk:=h.idem k
  have hm:L (min (L b.a) (L b.b))=min (L b.a) (L b.b):=by
   rcases Nat.le_total (L b.a) (L b.b)with h1|h1
   ·rw[Nat.min_eq_left h1,ha]
   ·rw[Nat.min_eq_right h1,hb]
  unfold eR
  by_cases h1:L k=max (L b.a) (L b.b)
  ·rw[if_pos h1,hm];split<;>rfl
  ·rw[if_neg h1,hk,if_neg h1]
theorem xe:∀(bs:List PB) (L:Nat->Nat),jM L->jM (bs.foldl eR L)
 |[],_,h=>h
 |b::bs,L,h=>xe bs _ (h.step b)
theorem uE (bs:List PB):jM (eE bs):=xe bs id ⟨fun _=>Nat.le_refl _,fun _=>rfl⟩
def leads (n:Nat) (L:Nat->Nat):List Nat:=(List.range n).filter fun i=>L i==i
def members (n:Nat) (L:Nat->Nat) (i:Nat):List Nat:=(List.range n).filter fun k=>L k==i
def fD (n:Nat) (L:Nat->Nat):List (List Nat):=(leads n L).map (members n L)
def cm (L:Nat->Nat) (k:Nat):Nat:=(leads (L k) L).length
theorem gW (n:Nat) (L:Nat->Nat):leads (n+1) L=leads n L++if L n=n then[n]else[]:=by
 unfold leads
 rw[List.range_succ,List.filter_append]
 congr 1
 by_cases h:L n=n<;>simp[h]
theorem jz (n:Nat) (L:Nat->Nat) (i:Nat):members (n+1) L i=members n L i++if L n=i then[n]else[]:=by
 unfold members
 rw[List.range_succ,List.filter_append]
 congr 1
 by_cases h:L n=i<;>simp[h]
theorem nD {L:Nat->Nat} (h:jM L) {n i:Nat} (hn:n<=i):members n L i=[]:=by
 unfold members
 rw[List.filter_eq_nil_iff]
 intro k hk
 have:=h.le k
 have:=List.mem_range.1 hk
 simp;omega
theorem uF (n:Nat) (L:Nat->Nat):(leads n L).Nodup:=List.nodup_range.filter _
theorem zq {n:Nat} {L:Nat->Nat} {i:Nat}:i∈leads n L↔i<n/\L i=i:=by simp[leads]
theorem l8 {n:Nat} {L:Nat->Nat} {i k:Nat}:k∈members n L i↔k<n/\L k=i:=by simp[members]
theorem G9 {L:Nat->Nat} {m n:Nat} (h:m<=n):∃r,leads n L=leads m L++r:=by
 obtain⟨d,rfl⟩:=Nat.le.dest h
 clear h
 induction d with
 |zero=>exact⟨[],by simp⟩
 |succ d ih=>
  obtain⟨r,hr⟩:=ih
  exact⟨r++if L (m+d)=m+d then[m+d]else[],by rw[<-Nat.add_assoc,gW,hr,List.append_assoc]⟩
theorem p9 {L:Nat->Nat} (h:jM L) {n k:Nat} (hk:k<n):(leads n L)[cm L k]? =some (L k):=by
 have h1:=h.le k
 obtain⟨r,hr⟩:=G9 (L:=L) (show L k+1<=n by omega)
 rw[hr,gW,if_pos (h.idem k),List.append_assoc]
 unfold cm
 rw[List.getElem?_append_right (Nat.le_refl _),Nat.sub_self];rfl
theorem km {L:Nat->Nat} (h:jM L) {n k:Nat} (hk:k<n):cm L k<(leads n L).length:=(List.getElem?_eq_some_iff.1 (p9 h hk)).1
theorem tO {L:Nat->Nat} (h:jM L) {n k i:Nat} (hk:k<n) (hi:i<(leads n L).length):k∈members n L (leads n L)[i]↔cm L k=i:=by
 rw[l8]
 have h1:=p9 h hk
 rw[List.getElem?_eq_getElem (km h hk)]at h1
 injection h1 with h1
 constructor
 ·rintro⟨_,h2⟩
  rw[<-h1]at h2
  exact(List.getElem_inj (uF n L)).1 h2
 ·rintro rfl
  exact⟨hk,h1.symm⟩
def dw (L:Nat->Nat) (bs:List PB):List PB:=bs.filterMap fun b=>if cm L b.a=cm L b.b then none else some ⟨cm L b.a,cm L b.b,b.s⟩
def e9 (L:Nat->Nat) (bs:List PB):List PB:=bs.filterMap fun b=>if cm L b.a=cm L b.b then none else some ⟨min (cm L b.a) (cm L b.b),max (cm L b.a) (cm L b.b),b.s⟩
theorem AN (L:Nat->Nat) (bs:List PB) (b:PB):dw L (bs++[b])=dw L bs++if cm L b.a=cm L b.b then[]else[⟨cm L b.a,cm L b.b,b.s⟩]:=by
 unfold dw
 rw[List.filterMap_append]
 congr 1
 by_cases h:cm L b.a=cm L b.b<;>simp[h]
theorem AO (L:Nat->Nat) (bs:List PB) (b:PB):e9 L (bs++[b])=e9 L bs++if cm L b.a=cm L b.b then[]else[⟨min (cm L b.a) (cm L b.b),max (cm L b.a) (cm L b.b),b.s⟩]:=by
 unfold e9
 rw[List.filterMap_append]
 congr 1
 by_cases h:cm L b.a=cm L b.b<;>simp[h]
theorem tq (S:Nat->Bool) (b:PB) (bs:List PB):jk S (b::bs)=(if S b.a=S b.b then 0 else b.s)+jk S bs:=by simp[jk]
theorem yS (S:Nat->Bool) (L:Nat->Nat):∀bs:List PB,jk S (e9 L bs)=jk S (dw L bs)
 |[]=>rfl
 |b::bs=>by
  have ih:=yS S L bs
  unfold e9 dw at ih ⊢
  rw[List.filterMap_cons,List.filterMap_cons]
  by_cases h:cm L b.a=cm L b.b
  ·simp only[h,if_true];exact ih
  ·simp only[h,if_false]
   rw[tq,tq,ih]
   congr 1
   simp only
   rcases Nat.le_total (cm L b.a) (cm L b.b)with h1|h1
   ·rw[Nat.min_eq_left h1,Nat.max_eq_right h1]
   ·rw[Nat.min_eq_right h1,Nat.max_eq_left h1]
    cases S (cm L b.a)<;>cases S (cm L b.b)<;>rfl
theorem EO {L:Nat->Nat} (h:jM L) {n:Nat} {bs:List PB} (hb:∀b∈bs,b.a<n/\b.b<n):∀b∈dw L bs,b.a<(leads n L).length/\b.b<(leads n L).length/\b.a≠b.b/\∃c∈bs,b.s=c.s:=by
 intro b hm
 unfold dw at hm
 obtain⟨c,hc,he⟩:=List.mem_filterMap.1 hm
 split at he
 ·cases he
 ·rename_i ik
  simp only[Option.some.injEq]at he
  subst he
  exact⟨km h (hb c hc).1,km h (hb c hc).2,ik,c,hc,rfl⟩
theorem EP {L:Nat->Nat} (h:jM L) {n:Nat} {bs:List PB} (hb:∀b∈bs,b.a<n/\b.b<n):∀b∈e9 L bs,b.a<(leads n L).length/\b.b<(leads n L).length/\b.a≠b.b/\∃c∈bs,b.s=c.s:=by
 intro b hm
 unfold e9 at hm
 obtain⟨c,hc,he⟩:=List.mem_filterMap.1 hm
 split at he
 ·cases he
 ·rename_i ik
  simp only[Option.some.injEq]at he
  subst he
  have h1:=km h (hb c hc).1
  have h2:=km h (hb c hc).2
  refine⟨by simp only;omega,by simp only;omega,by simp only;omega,c,hc,rfl⟩
theorem nH (L:Nat->Nat) (bs:List PB):(dw L bs).length<=bs.length/\(e9 L bs).length<=bs.length:=⟨List.length_filterMap_le ..,List.length_filterMap_le ..⟩
theorem jY (n:Nat) (L:Nat->Nat):(leads n L).length<=n:=by
 have:=List.length_filter_le (fun i=>L i==i) (List.range n)
 simpa[leads]using this
def aM (t:Int) (bs:List PB):List PB:=bs.filter fun b=>decide (t<=b.s)
def pV (n:Nat) (bs:List PB) (t:Int):Prop:=
 (leads n (eE (aM t bs))).length<=64/\kV (leads n (eE (aM t bs))).length (dw (eE (aM t bs)) bs) t
theorem D8 {n:Nat} {L:Nat->Nat} {bs:List PB} {t:Int}:kV n (e9 L bs) t↔kV n (dw L bs) t:=by
 unfold kV
 constructor<;>intro h S h0 hy<;>have:=h S h0 hy<;>rw[yS]at *<;>exact this
end Go.Proofs.YtgoljkjaameagaaGreat.V

namespace Go.Proofs.YtgoljkjaameagaaGreat.V
open Go.RowKit
attribute [local irreducible] dL wpOps gC Call
attribute [local go_sem] aO fM eS ga fZ cU upd cD K.av cR AV.cells AV.cell rowOf rowsOf part ld rowAt bt cw dG ei iu bK dm eB fY e6 dt ep di dh dV dW bU bd cZ bQ db da ek er eo cY ck dj ej bP aQ dd cJ iq br cN bV aZ dr bc dH AV.undef bF bJ dX eh dR dO cK eA eC cI ev eu dc de List.getD_cons_zero List.getD_cons_succ List.getD_nil List.all_cons List.all_nil Bool.and_true Bool.true_and Bool.and_self Bool.not_true Bool.not_false Option.map_some Option.map_none Option.bind_some Option.bind_none List.length_cons List.length_nil List.take_succ_cons List.take_zero List.take_nil List.drop_succ_cons List.drop_zero List.drop_nil List.head?_cons List.map_cons List.map_nil List.getElem?_cons_zero List.getElem?_cons_succ List.cons_append List.nil_append List.append_nil List.length_map List.set_cons_zero List.set_cons_succ Nat.reduceMul eq_self Int.toNat_natCast Int.natCast_nonneg and_self true_and and_true decide_true decide_false Bool.false_eq_true Nat.zero_add Nat.add_zero List.contains_cons List.contains_nil Bool.or_false Bool.false_or beq_self_eq_true Nat.reduceBEq ne_eq not_true_eq_false not_false_eq_true Id.mk.injEq false_and and_false Nat.reduceLT Int.reduceLE Int.reduceLT Int.reduceToNat Int.reduceNeg Int.reduceAdd Nat.le_refl List.length_append beq_true beq_false Bool.not_eq_eq_eq_not or_false false_or dP ai aq aI bh bE cz aY bl aV bf cW bH
def az (b:PB):List AV:=[.int .i64 b.a,.int .i64 b.b,.int .i64 b.s]
theorem NQ:∀b:PB,(az b).length=3/\(az b).all AV.cell=true:=fun _=>⟨rfl,rfl⟩
theorem z8 (g:Rows) (n:Nat) (b:PB):cV g (n+1) (az b)=some (az b):=by simp[az,ai,aq,aI]
theorem vH (g:Rows) (n:Nat) (b:PB):ef g (n+1) (az b)=some (az b):=by simp[az,bD,cF,eQ]
theorem IH:QK az (fun c=>.agg (az c)) 3 true:=⟨fun _=>rfl,fun _=>rfl,fun x g=>by simp only[az,ai,aq,bl,aI,Option.map_some]⟩
def nw (s:aw) (l:List ad) (i:Nat) (d:Int):List PB:=
 if 0<=eG l (dB (aL l i).aP d)/\0<ib s (aL l i).aT d (aL l (eG l (dB (aL l i).aP d)).toNat).aT then
  [⟨i,(eG l (dB (aL l i).aP d)).toNat,ib s (aL l i).aT d (aL l (eG l (dB (aL l i).aP d)).toNat).aT⟩]else[]
def gj (s:aw) (l:List ad) (i m:Nat):List PB:=(List.range m).flatMap fun j:Nat=>nw s l i (1-(j:Int))
def gT (s:aw) (l:List ad) (n:Nat):List PB:=(List.range n).flatMap fun i=>gj s l i 2
def cP (s:aw) (l:List ad):List PB:=gT s l l.length
theorem qy (s:aw) (l:List ad) (i m:Nat):gj s l i (m+1)=gj s l i m++nw s l i (1-(m:Int)):=by simp[gj,List.range_succ]
theorem rZ (s:aw) (l:List ad) (n:Nat):gT s l (n+1)=gT s l n++gj s l n 2:=by simp[gT,List.range_succ]
theorem DD (s:aw) (l:List ad) (i:Nat) (d:Int):(nw s l i d).length<=1:=by unfold nw;split<;>simp
theorem rY (s:aw) (l:List ad) (i m:Nat):(gj s l i m).length<=m:=by
 induction m with
 |zero=>simp[gj]
 |succ m ih=>rw[qy,List.length_append];have:=DD s l i (1-(m:Int));omega
theorem um (s:aw) (l:List ad) (n:Nat):(gT s l n).length<=2*n:=by
 induction n with
 |zero=>simp[gT]
 |succ n ih=>rw[rZ,List.length_append];have:=rY s l n 2;omega
def sB:Id->Prop:=fun o=>o.site=124001000∨o.site=124012006
theorem Ek (s:aw) (l:List ad) (hS:kU s) (hA:jc s l):aj Tryz.prog 124 [.dn (ab s),.dn [.sl (l.map aa)]] (.sl ((cP s l).map az)):=by
 refine aj.body eI rfl fun hl n0=>?_
 clear hl
 have hF:=hA.1
 have Jc:=hF.oJ
 (try((repeat(revert hN;revert N;apply Pn.out));refine wk @Nat.zero_add ?_;(repeat(refine Pn.mk ?_;intro N hN))))
 refine aW (fun n env st=>∃k:Nat,n=(l.length)-k/\k<=(l.length)/\env 6=.int .i64 (k:Int)/\(nr az 3 (env 5) st.get sB (gT s l k))) (l.length) ⟨0,by omega,by omega,sl @Nat.zero_add,⟨⟨124001000,n0+1⟩,.inl rfl,by simp only[go_sem, ↓reduceIte,Nat.reduceEqDiff,Nat.reduceAdd,Nat.reduceSub,Nat.reduceLeDiff,reduceCtorEq];rfl,by simp only[go_sem, ↓reduceIte,Nat.reduceEqDiff,Nat.reduceAdd,Nat.reduceSub,Nat.reduceLeDiff,reduceCtorEq];rfl⟩⟩ ?_
 rintro n_a env_a st_a ⟨k,rfl,ale,a6,me⟩ dJ
 have a0:=dJ 0 (by kernel_rfl);have a1:=dJ 1 (by kernel_rfl)
 simp only[go_sem, ↓reduceIte,Nat.reduceEqDiff,Nat.reduceAdd,Nat.reduceSub,Nat.reduceLeDiff,reduceCtorEq]at a0 a1
 clear dJ
 by_cases hk:(k:Int)<(l.length:Int)
 ·have cG:∀{e:Env} {gg:Rows},(e 6=.int .i64 (IntKind.i64.wrap ((k:Int)+1)))->(nr az 3 (e 5) gg sB (gT s l (k+1)))->∃m0,m0<(l.length)-k/\∃k:Nat,m0=(l.length)-k/\k<=(l.length)/\e 6=.int .i64 (k:Int)/\(nr az 3 (e 5) gg sB (gT s l k)):=fun x1 x2=>⟨_,by omega,k+1,rfl,by omega,(by rw[x1,aB (by omega)]),x2⟩
  have fE:k<l.length:=by omega
  have eT:=fC fE
  have Tv:=um s l k
  (try((repeat(revert hN;revert N;apply Pn.out));refine wk (tw @a6 (tw @a0 (tw @a1 @hk))) ?_;(repeat(refine Pn.mk ?_;intro N hN))))
  refine aW (fun n env st=>∃m:Nat,n=(2)-m/\m<=(2)/\env 7=(.int .i64 (1-(m:Int)))/\(nr az 3 (env 5) st.get sB (gT s l k++gj s l k m))) (2) ⟨0,by omega,by omega,sl (tw @a6 (tw @a0 @a1)),by(simp only[go_sem, ↓reduceIte,Nat.reduceEqDiff,Nat.reduceAdd,Nat.reduceSub,Nat.reduceLeDiff,reduceCtorEq];exact me.cast (by simp[gj]))⟩ ?_
  rintro n_b env_b st_b ⟨m,rfl,ble,b7,bI0⟩ gu
  have b0:=gu 0 (by kernel_rfl);have b1:=gu 1 (by kernel_rfl);have b6:=gu 6 (by kernel_rfl)
  simp only[go_sem, ↓reduceIte,Nat.reduceEqDiff,Nat.reduceAdd,Nat.reduceSub,Nat.reduceLeDiff,reduceCtorEq,a6,a0,a1]at b0 b1 b6
  clear gu
  have Ta:=rY s l k m
  have lY:=qy s l k m
  by_cases hm:(m:Int)<2
  ·have gp:∀{e:Env} {gg:Rows},(e 7=(.int .i64 (1-((m+1):Int))))->(nr az 3 (e 5) gg sB (gT s l k++gj s l k (m+1)))->∃m0,m0<(2)-m/\∃m:Nat,m0=(2)-m/\m<=(2)/\e 7=(.int .i64 (1-(m:Int)))/\(nr az 3 (e 5) gg sB (gT s l k++gj s l k m)):=fun x1 x2=>⟨_,by omega,m+1,rfl,by omega,x1,x2⟩
   have rf:(0:Int)<=1-(m:Int):=by omega
   have hd:jf (1-(m:Int)) 0 3=true:=lf (by omega)
   have hw:IntKind.i64.wrap (1-(m:Int)-1)=1-((m:Int)+1):=by rw[bz (by omega)];omega
   have Tm:=yz l hF k (1-(m:Int)) fE hd
   unfold nw at lY
   have hT:=hA.2 _ (gM fE)
   generalize GO:eG l (dB (aL l k).aP (1-(m:Int)))=ix at *
   by_cases hi:ix<0
   ·rw[if_neg (by omega),List.append_nil]at lY
    (repeat(first|((repeat(revert hN;revert N;apply Pn.out));refine wk (tw @b7 (tw @b0 (tw @b1 (tw @b6 (tw @rf (tw @hw @hi)))))) ?_;(repeat(refine Pn.mk ?_;intro N hN)))|((try apply Or.inl);refine⟨_,aj.x (Tm) (sd (tw @b7 (tw @b0 (tw @b1 (tw @b6 (tw @rf (tw @hw @hi))))))),?_⟩;refine hN _ _ ?_;clear hN N)))
    exact gp (sd (tw @b7 (tw @b0 (tw @b1 (tw @b6 @hw))))) (by(simp only[go_sem, ↓reduceIte,Nat.reduceEqDiff,Nat.reduceAdd,Nat.reduceSub,Nat.reduceLeDiff,reduceCtorEq];exact bI0.cast (by rw[lY])))
   ·have HV:0<=ix:=by omega
    have OR:=kO (l:=l) (p:=dB (aL l k).aP (1-(m:Int))) (by omega)
    rw[GO]at OR
    have kh:=fC OR.1
    have xW:=zm s hS (aL l k).aT (1-(m:Int)) (aL l ix.toNat).aT hT (hA.2 _ (gM OR.1)) hd
    generalize S6:ib s (aL l k).aT (1-(m:Int)) (aL l ix.toNat).aT=bv at *
    by_cases hb:0<bv
    ·rw[if_pos ⟨HV,hb⟩]at lY
     (repeat(first|((repeat(revert hN;revert N;apply Pn.out));refine wa (tw @b7 (tw @b0 (tw @b1 (tw @b6 (tw @rf (tw @hw (tw @hi (tw @HV (tw @eT (tw @kh (tw @hb @aa.eq_1))))))))))) ?_;(repeat(refine Pn.mk ?_;intro N hN)))|((try apply Or.inl);refine⟨_,aj.x (Tm) (sd (tw @b7 (tw @b0 (tw @b1 (tw @b6 (tw @rf (tw @hw (tw @hi (tw @HV (tw @eT (tw @kh (tw @hb @aa.eq_1)))))))))))),?_⟩;refine hN _ _ ?_;clear hN N)|((try apply Or.inl);refine⟨_,aj.x (xW) (sd (tw @b7 (tw @b0 (tw @b1 (tw @b6 (tw @rf (tw @hw (tw @hi (tw @HV (tw @eT (tw @kh (tw @hb @aa.eq_1)))))))))))),?_⟩;refine hN _ _ ?_;clear hN N)))
     refine PQ (enc:=az) (S:=sB) (L:=gT s l k++gj s l k m) (xv:=env_b 5) [⟨k,ix.toNat,bv⟩] rfl rfl (sd @Nat.zero_add) (bI0.frame fun o ho=>by rcases ho with ho|ho<;>simp only[go_sem, ↓reduceIte,Nat.reduceEqDiff,Nat.reduceAdd,Nat.reduceSub,Nat.reduceLeDiff,reduceCtorEq,AP ho]) (sd (tw @az.eq_1 (Int.toNat_of_nonneg HV))) NQ (.inr rfl) (by simp only[dH,List.length_append,List.length_cons,List.length_nil];omega) fun v g' hO jV=>?_
     rw[List.append_assoc,<-lY]at hO
     clear jV
     (try((repeat(revert hN;revert N;apply Pn.out));refine wk (tw @b7 (tw @b0 (tw @b1 (tw @b6 @hw)))) ?_;(repeat(refine Pn.mk ?_;intro N hN))))
     exact gp (sd (tw @b7 (tw @b0 (tw @b1 (tw @b6 @hw))))) (by(simp only[go_sem, ↓reduceIte,Nat.reduceEqDiff,Nat.reduceAdd,Nat.reduceSub,Nat.reduceLeDiff,reduceCtorEq];exact hO))
    ·rw[if_neg fun h=>hb h.2,List.append_nil]at lY
     (repeat(first|((repeat(revert hN;revert N;apply Pn.out));refine wk (tw @b7 (tw @b0 (tw @b1 (tw @b6 (tw @rf (tw @hw (tw @hi (tw @HV (tw @eT (tw @kh (tw @hb @aa.eq_1))))))))))) ?_;(repeat(refine Pn.mk ?_;intro N hN)))|((try apply Or.inl);refine⟨_,aj.x (Tm) (sd (tw @b7 (tw @b0 (tw @b1 (tw @b6 (tw @rf (tw @hw (tw @hi (tw @HV (tw @eT (tw @kh (tw @hb @aa.eq_1)))))))))))),?_⟩;refine hN _ _ ?_;clear hN N)|((try apply Or.inl);refine⟨_,aj.x (xW) (sd (tw @b7 (tw @b0 (tw @b1 (tw @b6 (tw @rf (tw @hw (tw @hi (tw @HV (tw @eT (tw @kh (tw @hb @aa.eq_1)))))))))))),?_⟩;refine hN _ _ ?_;clear hN N)))
     exact gp (sd (tw @b7 (tw @b0 (tw @b1 (tw @b6 @hw))))) (by(simp only[go_sem, ↓reduceIte,Nat.reduceEqDiff,Nat.reduceAdd,Nat.reduceSub,Nat.reduceLeDiff,reduceCtorEq];exact bI0.cast (by rw[lY])))
  ·have HY:m=2:=by omega
   subst HY
   have dY:¬(0:Int)<=1-((2:Nat):Int):=by omega
   (try((repeat(revert hN;revert N;apply Pn.out));refine wk (tw @b7 (tw @b0 (tw @b1 (tw @b6 @dY)))) ?_;(repeat(refine Pn.mk ?_;intro N hN))))
   exact cG (sd (tw @a6 (tw @a0 (tw @a1 (tw @b7 (tw @b0 (tw @b1 @b6))))))) (by(simp only[go_sem, ↓reduceIte,Nat.reduceEqDiff,Nat.reduceAdd,Nat.reduceSub,Nat.reduceLeDiff,reduceCtorEq];exact bI0.cast (by rw[rZ])))
 ·have mC:k=l.length:=by omega
  (try((repeat(revert hN;revert N;apply Pn.out));refine wk (tw @a6 (tw @a0 (tw @a1 @hk))) ?_;(repeat(refine Pn.mk ?_;intro N hN))))
  exact xD (.inl rfl) (by simp only[go_sem, ↓reduceIte,Nat.reduceEqDiff,Nat.reduceAdd,Nat.reduceSub,Nat.reduceLeDiff,reduceCtorEq];rfl) (by rw[mC]at me;exact me.gE fun b=>vH _ _ b)
end Go.Proofs.YtgoljkjaameagaaGreat.V
