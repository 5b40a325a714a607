/- Slices of one's own that grow from an empty one. -/
import Derived.Test.YtgoljkjaameagaaGreatRaB
import Derived.Test.YtgoljkjaameagaaGreatChecked
import Derived.Test.YtgoljkjaameagaaGreatRaA
set_option linter.unusedVariables false
set_option linter.unusedSimpArgs false
set_option maxRecDepth 100000
set_option maxHeartbeats 16000000
namespace Go.Proofs.YtgoljkjaameagaaGreat.V
open Go.RowKit
variable {P:Program} {X:fK} {K:Env->ax->Prop} {env:Env} {σ:ax}
def mT {α:Type} (enc:α->List AV) (sz:Nat) (x:AV) (g:Rows) (S:Id->Prop) (L:List α):Prop:=∃o:Id,S o/\x=.own o 0 L.length/\g o=some ⟨true,sz,L.map enc⟩
section
variable {α:Type} {enc:α->List AV} {sz:Nat} {x:AV} {g g':Rows} {S:Id->Prop} {L L':List α}
theorem mT.cast (h:mT enc sz x g S L) (hL:L'=L):mT enc sz x g S L':=by subst hL;exact h
theorem mT.frame (h:mT enc sz x g S L) (hg:∀o:Id,S o->g' o=g o):mT enc sz x g' S L:=by
 obtain⟨o,h1,h2,h3⟩:=h
 exact⟨o,h1,h2,(hg o h1).trans h3⟩
theorem mT.app (hz:∀a,(enc a).length=sz/\(enc a).all AV.cell=true) (h:mT enc sz x g S L) (id:Id) (hid:S id) (M:List α) (hlen:L.length+M.length<=dD):
  ∃v g',aW g id sz x (M.map enc)=some (v,g')/\mT enc sz v g' S (L++M)/\∀j:Id,¬S j->g' j=g j:=by
 obtain⟨o,h1,rfl,h4⟩:=h
 refine⟨.own id 0 (L.length+(M.map enc).length),bR (cq g o) id ⟨true,sz,L.map enc++M.map enc⟩,?_,⟨id,hid,by simp,by simp[bR]⟩,fun j hj=>?_⟩
 ·have ha:=all_map (l:=M) hz
  simp only[aW,h4,Option.bind_some]
  rw[if_pos ⟨trivial,trivial,by simp,by simpa using hlen,ha⟩]
 ·have e1:¬j=id:=fun h=>hj (h▸hid)
  have e2:¬j=o:=fun h=>hj (h▸h1)
  simp[bR,cq,e1,e2]
theorem PX {draw:Bool} {o:bt} {r:List bt} {x' y:O} {xv:AV} (M:List α) (ho:o.op=.append sz x' y) (hw:aI o.guard env=true) (hx:dc env x'=xv) (hO:mT enc sz xv σ.get S L)
  (hy:bp σ.get (dc env y)=some (M.map enc)) (hz:∀a,(enc a).length=sz/\(enc a).all AV.cell=true) (hid:S ⟨o.site,σ.next⟩) (hlen:L.length+M.length<=dD)
  (next:∀v g',mT enc sz v g' S (L++M)->(∀j:Id,¬S j->g' j=σ.get j)->wpOps X draw r K (upd env o.dst v) ⟨g',σ.next⟩):wpOps X draw (o::r) K env σ:=by
 obtain⟨v,g',h1,h2,h3⟩:=hO.app hz ⟨o.site,σ.next⟩ hid M hlen
 unfold wpOps
 rw[if_pos hw]
 unfold fJ
 simp only[ho,fZ,hy,hx,Option.bind_some,h1]
 exact next v g' h2 h3
theorem mT.gx {n:Nat} (h:mT enc sz x g S L) (he:∀a,ez g n (enc a)=some (enc a)):gx g (n+1) x=some (.sl (L.map enc)):=by
 obtain⟨o,_,rfl,h3⟩:=h
 exact fj h3 rfl he
end
theorem dv {a b:Id} (h:a.bj<b.bj):(a=b)=False/\(b=a)=False:=by
 constructor<;>(simp only[eq_iff_iff,iff_false];rintro rfl;omega)
theorem Ax {o:Id} {a:Nat} (h:o.site=a) {b v:Nat} (od:(a==b)=false):(o=⟨b,v⟩)=False:=by
 simp only[eq_iff_iff,iff_false]
 rintro rfl
 simp only at h
 subst h
 simp at od
def eN (n:Nat):List AV:=[.int .i64 n]
theorem fzN (g:Rows) (n:Nat) (a:Nat):dd g (n+1) (eN a)=some (eN a):=by simp[eN,aj,aq,aH]
theorem Ox (g:Rows) (n:Nat) (a:Nat):ez g (n+1) (eN a)=some (eN a):=by simp[eN,bz,cD,eC]
def Qk:C2 (List Nat):=fun g cs x ids=>∃id,cs=[.own id 0 x.length]/\g id=some ⟨true,1,x.map eN⟩/\ids=[id]
theorem Mt:xC Qk 1 where
 frame:=fun⟨id,h1,h2,h3⟩ hf=>by subst h3;exact⟨id,h1,(hf id (by simp)).trans h2,rfl⟩
 len:=fun⟨id,h1,_⟩=>by subst h1;rfl
 cell:=fun⟨id,h1,_⟩=>by subst h1;rfl
 live:=fun⟨id,h1,h2,h3⟩ i hi=>by
  subst h3
  have:i=id:=by simpa using hi
  subst this
  exact⟨_,h2,rfl,by simp[sg]⟩
 small:=by simp[sg]
def AQ (l:List Nat):List AV:=[.sl (l.map eN)]
theorem JT {g:Rows} {rows:List (List AV)} {xs:List (List Nat)} {ids:List Id} (n:Nat) (h:eI Qk g rows xs ids):ig g (n+2) rows=some (xs.map AQ):=by
 induction h with
 |nil=>rw[ig];rfl
 |cons h1 _ ih=>
  obtain⟨id,rfl,h2,_⟩:=h1
  rw[ig,ih,bz,cD,fj (e:=eN) (sz:=1) h2 rfl fun a=>Ox g n a];rfl
end Go.Proofs.YtgoljkjaameagaaGreat.V

namespace Go.Proofs.YtgoljkjaameagaaGreat.V
open Go.RowKit
attribute [local irreducible] eu wpOps gq Call
attribute [local go_sem] aI fJ eP fZ fY dc upd cz K.av cJ AV.cells AV.cell rowOf rowsOf part ld rowAt bR cq dC ea gV bJ cZ eo fX eY dr ef cX cW dM dO bP aX cN bL cQ cP ec eh ee cL bU cY eb bK aO cU cG gU bp cI bQ aW dx bf dD AV.undef bD bF dR dY dI dP cH ek ew cF ej ei cR cV List.getD_cons_zero List.getD_cons_succ List.getD_nil List.all_cons List.all_nil Bool.and_true Bool.true_and Bool.and_self Bool.not_true Bool.not_false Option.map_some Option.map_none Option.bind_some Option.bind_none List.length_cons List.length_nil List.take_succ_cons List.take_zero List.take_nil List.drop_succ_cons List.drop_zero List.drop_nil List.head?_cons List.map_cons List.map_nil List.getElem?_cons_zero List.getElem?_cons_succ List.cons_append List.nil_append List.append_nil List.length_map List.set_cons_zero List.set_cons_succ Nat.reduceMul eq_self Int.toNat_natCast Int.natCast_nonneg and_self true_and and_true decide_true decide_false Bool.false_eq_true Nat.zero_add Nat.add_zero List.contains_cons List.contains_nil Bool.or_false Bool.false_or beq_self_eq_true Nat.reduceBEq ne_eq not_true_eq_false not_false_eq_true Id.mk.injEq false_and and_false Nat.reduceLT Int.reduceLE Int.reduceLT Int.reduceToNat Int.reduceNeg Int.reduceAdd Nat.le_refl List.length_append beq_true beq_false Bool.not_eq_eq_eq_not or_false false_or dJ aj aq aH aZ bB ck aT bc aU aY cK bG
variable {P:Program}
def Lk {α:Type} (R:C2 α) (x:α) (σ:ax) (r:AV) (σ':ax):Prop:=∃cs ids,r=.agg cs/\R σ'.get cs x ids/\gr σ.next σ'.next ids/\Kept σ σ'
def iE {α:Type} (R:C2 α) (z:Nat) (g:Rows) (a:AV) (xs:List α) (ids:List Id):Prop:=∃o rows is,a=.own o 0 xs.length/\g o=some ⟨true,z,rows⟩/\eI R g rows xs is/\ids=o::is
def Ll {α:Type} (R:C2 α) (z:Nat) (xs:List α) (σ:ax) (r:AV) (σ':ax):Prop:=∃ids,iE R z σ'.get r xs ids/\gr σ.next σ'.next ids/\Kept σ σ'
theorem iE.frame {α:Type} {R:C2 α} {z:Nat} {g g':Rows} {a:AV} {xs:List α} {ids:List Id} (ok:xC R z) (h:iE R z g a xs ids) (hf:∀i∈ids,g' i=g i):iE R z g' a xs ids:=by
 obtain⟨o,rows,is,h1,h2,h3,rfl⟩:=h
 exact⟨o,rows,is,h1,(hf o (by simp)).trans h2,h3.frame ok fun i hi=>hf i (by simp[hi]),rfl⟩
theorem iE.fz {α:Type} {R:C2 α} {z n:Nat} {e:α->List AV} {g:Rows} {a:AV} {xs:List α} {ids:List Id} (h:iE R z g a xs ids) (hz:∀{cs x ids},R g cs x ids->dd (dJ g) n cs=some (e x)):V.fz (dJ g) (n+1) a=some (.sl (xs.map e)):=by
 obtain⟨o,rows,is,rfl,h2,h3,rfl⟩:=h
 rw[ij]
 simp only[dJ,h2,Option.map_some,if_true]
 rw[if_pos (by rw[h3.len];omega),List.drop_zero,List.take_of_length_le (by rw[h3.len];exact Nat.le_refl _),h3.fz hz];rfl
def lO {α:Type} (e:α->List AV):C2 α:=fun _ cs x ids=>cs=e x/\ids=[]
theorem Ja {α:Type} {e:α->List AV} {z:Nat} (hz:∀x,(e x).length=z) (hc:∀x,(e x).all AV.cell=true) (hs:z<sg):xC (lO e) z where
 frame:=fun h _=>h
 len:=fun h=>by rw[h.1];exact hz _
 cell:=fun h=>by rw[h.1];exact hc _
 live:=fun h i hi=>by rw[h.2]at hi;cases hi
 small:=hs
def oG:C2 eW:=fun g cs t ids=>∃i,cs=[.str t.aG,.own i 0 t.bq.length]/\g i=some ⟨true,1,t.bq.map aw⟩/\ids=[i]
theorem rm:xC oG 2 where
 frame:=fun⟨i,h1,h2,h3⟩ hf=>⟨i,h1,(hf i (by rw[h3];simp)).trans h2,h3⟩
 len:=fun⟨i,h1,_⟩=>by rw[h1];rfl
 cell:=fun⟨i,h1,_⟩=>by rw[h1];rfl
 live:=fun⟨i,h1,h2,h3⟩ j hj=>by
  rw[h3]at hj
  have:j=i:=by simpa using hj
  subst this
  exact⟨_,h2,rfl,by simp[sg]⟩
 small:=by simp[sg]
theorem M5 {g:Rows} {cs:List AV} {t:eW} {ids:List Id} (n:Nat) (h:oG g cs t ids):dd (dJ g) (n+2) cs=some (bm t):=by
 obtain⟨i,rfl,h2,_⟩:=h
 have h3:V.fz (dJ g) (n+2) (.own i 0 t.bq.length)=some (.sl (t.bq.map aw)):=fA (e:=aw) (sz:=1) (by simp[dJ,h2]) rfl fun x=>by simp[aw,aj,aq,aH]
 simp only[aj,aq,bB,h3,Option.map_some,bm]
theorem MV {α:Type} {a b:List α} {x y:α} {k:Nat} (hk:a.length=k):(a++x::b).set k y=a++[y]++b:=by subst hk;simp
theorem AG {α:Type} {R:C2 α} {en:α->List AV} {z fk gk:Nat} {zero:List K} (ok:xC R z) (hc:mo P fk=some (uk fk gk z zero)) (FO:zero.length=z) (hz:∀x,(en x).length=z) (xs:List α) (hlen:xs.length<=1048576)
  (hg:∀x∈xs,∀σ,Call P gk [.agg (en x)] σ (Lk R x σ)) (σ:ax):Call P fk [.sl (xs.map en)] σ (Ll R z xs σ):=by
 refine eZ hc rfl fun hl=>?_
 try simp only[q]
 clear hl
 have hm:(xs.length:Int)<=((16777216:Nat):Int):=by omega
 have h0:(0:Int)<=(xs.length:Int):=by omega
 (try((repeat(revert hN;revert N;apply Pn.out));refine wk (tw @hm (tw @h0 (tw @Int.le_refl @FO))) ?_;(repeat(refine Pn.mk ?_;intro N hN))))
 refine aM (fun n env st=>∃k:Nat,n=(xs.length)-k/\k<=(xs.length)/\env 4=.int .i64 (k:Int)/\(σ.next+2<=st.next/\(∀y:Id,y.bj<σ.next->st.get y=σ.get y)/\∃rows is,st.get ⟨fk*1000000+1002,σ.next+1⟩=some ⟨true,z,rows++List.replicate (xs.length-k) (zero.map K.av)⟩/\eI R st.get rows (xs.take k) is/\gr (σ.next+2) st.next is)) (xs.length) ⟨0,by omega,by omega,sl @Nat.zero_add,by(try dsimp only);exact⟨by omega,fun y hy=>by
  have h1:=dB hy
  simp only[go_sem, ↓reduceIte,Nat.reduceEqDiff,Nat.reduceAdd,Nat.reduceSub,Nat.reduceLeDiff,reduceCtorEq,h1],[],[],sl @Nat.zero_add,.nil,List.nodup_nil,fun i hi=>by cases hi⟩⟩ ?_
 rintro n_a env_a st_a ⟨k,rfl,ale,a4,j8⟩ di
 have a0:=di 0 (by kernel_rfl);have a3:=di 3 (by kernel_rfl)
 simp only[go_sem, ↓reduceIte,Nat.reduceEqDiff,Nat.reduceAdd,Nat.reduceSub,Nat.reduceLeDiff,reduceCtorEq]at a0 a3
 clear di
 obtain⟨an,aK,rows,is,ag,aR,aN⟩:=j8
 have sR:rows.length=k:=by rw[aR.len,List.length_take];omega
 by_cases hk:(k:Int)<(xs.length:Int)
 ·have cm:∀{e:Env} {gg:Rows} {nx:Nat},(e 4=.int .i64 (IntKind.i64.wrap ((k:Int)+1)))->(σ.next+2<=nx/\(∀y:Id,y.bj<σ.next->gg y=σ.get y)/\∃rows is,gg ⟨fk*1000000+1002,σ.next+1⟩=some ⟨true,z,rows++List.replicate (xs.length-(k+1)) (zero.map K.av)⟩/\eI R gg rows (xs.take (k+1)) is/\gr (σ.next+2) nx is)->∃m0,m0<(xs.length)-k/\∃k:Nat,m0=(xs.length)-k/\k<=(xs.length)/\e 4=.int .i64 (k:Int)/\(σ.next+2<=nx/\(∀y:Id,y.bj<σ.next->gg y=σ.get y)/\∃rows is,gg ⟨fk*1000000+1002,σ.next+1⟩=some ⟨true,z,rows++List.replicate (xs.length-k) (zero.map K.av)⟩/\eI R gg rows (xs.take k) is/\gr (σ.next+2) nx is):=fun x1 x2=>⟨_,by omega,k+1,rfl,by omega,(by rw[x1,ay (by omega)]),x2⟩
  have eU:k<xs.length:=by omega
  have eB:(xs.map en)[k]? =some (en xs[k]):=by simp[eU]
  have tZ:=hz xs[k]
  have ht:(en xs[k]).take z=en xs[k]:=by rw[<-tZ,List.take_length]
  have iu:=hg _ (List.getElem_mem eU)
  obtain⟨m,NF⟩:∃m,xs.length-k=m+1:=⟨xs.length-k-1,by omega⟩
  rw[NF,List.replicate_succ]at ag
  generalize hex:en xs[k]=c at iu eB tZ ht
  (try((repeat(revert hN;revert N;apply Pn.out));refine wk (tw @a4 (tw @a0 (tw @a3 (tw @hk (tw @eB (tw @tZ (tw @ht @Nat.le_refl))))))) ?_;(repeat(refine Pn.mk ?_;intro N hN))))
  refine .inr (aJ _ _ _ _ _ (fun r σ1 hq=>?_) (iu _))
  obtain⟨cs,ids,rfl,hR,hI,hK⟩:=hq
  obtain⟨g1,x1⟩:=σ1
  (try dsimp only at hR hI hK)
  have AU:=(hK.2 ⟨fk*1000000+1002,σ.next+1⟩ (by(try dsimp only);omega))
  simp only[go_sem, ↓reduceIte,Nat.reduceEqDiff,Nat.reduceAdd,Nat.reduceSub,Nat.reduceLeDiff,reduceCtorEq,ag]at AU
  have og:=ok.len hR
  have zL:=ok.cell hR
  have fa:(rows++zero.map K.av::List.replicate m (zero.map K.av))[k]? =some (zero.map K.av):=by rw[List.getElem?_append_right (by omega),sR,Nat.sub_self];rfl
  have dW:(rows++zero.map K.av::List.replicate m (zero.map K.av)).set k cs=rows++[cs]++List.replicate m (zero.map K.av):=MV sR
  have Jo:(zero.map K.av).drop z=[]:=List.drop_of_length_le (by simp[FO])
  have G2:(rows++zero.map K.av::List.replicate m (zero.map K.av)).length=xs.length:=by simp[sR];omega
  refine hN _ _ ?_
  clear hN N
  (try((repeat(revert hN;revert N;apply Pn.out));refine wk (tw @a4 (tw @a0 (tw @a3 (tw @hk (tw @AU (tw @fa (tw @dW (tw @G2 (tw @Jo (tw @vD (tw @og (tw @zL (tw @Nat.le_refl @FO))))))))))))) ?_;(repeat(refine Pn.mk ?_;intro N hN))))
  have zQ:=hK.1
  have H9:∀i∈is,(i=⟨fk*1000000+1002,σ.next+1⟩)=False:=fun i hi=>eq_false fun e=>by
   have:=(aN.2 i hi).1
   subst e;(try dsimp only at this);omega
  have BR:∀i∈ids,(i=⟨fk*1000000+1002,σ.next+1⟩)=False:=fun i hi=>eq_false fun e=>by
   have:=(hI.2 i hi).1
   subst e;(try dsimp only at this);omega
  exact cm (sd (tw @a4 (tw @a0 @a3))) (by(try dsimp only at *);exact⟨by omega,fun y hy=>by
   have h1:=dB hy
   have h2:=hK.2 y (by(try dsimp only);omega)
   have h3:=aK y hy
   simp only[go_sem, ↓reduceIte,Nat.reduceEqDiff,Nat.reduceAdd,Nat.reduceSub,Nat.reduceLeDiff,reduceCtorEq]at h2
   simp only[go_sem, ↓reduceIte,Nat.reduceEqDiff,Nat.reduceAdd,Nat.reduceSub,Nat.reduceLeDiff,reduceCtorEq,h1,h2,h3],rows++[cs],is++ids,by
    rw[show xs.length-(k+1)=m by omega]
    simp only[go_sem, ↓reduceIte,Nat.reduceEqDiff,Nat.reduceAdd,Nat.reduceSub,Nat.reduceLeDiff,reduceCtorEq]<;>rfl,by
    rw[List.take_succ_eq_append_getElem eU]
    refine((aR.frame ok fun i hi=>?_).app (.one (ok.frame hR fun i hi=>?_)))
    ·have h1:=H9 i hi
     have h2:=hK.2 i (by(try dsimp only);have:=(aN.2 i hi).2;omega)
     simp only[go_sem, ↓reduceIte,Nat.reduceEqDiff,Nat.reduceAdd,Nat.reduceSub,Nat.reduceLeDiff,reduceCtorEq]at h2
     simp only[go_sem, ↓reduceIte,Nat.reduceEqDiff,Nat.reduceAdd,Nat.reduceSub,Nat.reduceLeDiff,reduceCtorEq,h1,h2]
    ·have h1:=BR i hi
     simp only[go_sem, ↓reduceIte,Nat.reduceEqDiff,Nat.reduceAdd,Nat.reduceSub,Nat.reduceLeDiff,reduceCtorEq,h1],(aN.app hI (by(try dsimp only);omega) (by omega) (by(try dsimp only);omega)).wide (Nat.le_refl _) (by(try dsimp only);omega)⟩)
 ·(try((repeat(revert hN;revert N;apply Pn.out));refine wk (tw @a4 (tw @a0 (tw @a3 @hk))) ?_;(repeat(refine Pn.mk ?_;intro N hN))))
  have eU:k=xs.length:=by omega
  subst eU
  rw[Nat.sub_self,List.replicate_zero,List.append_nil]at ag
  rw[List.take_length]at aR
  refine fq (.inl rfl) (vs:=[.own ⟨fk*1000000+1002,σ.next+1⟩ 0 xs.length]) (sd (tw @a4 (tw @a0 @a3))) ?_
  exact⟨_,⟨_,rows,is,rfl,ag,aR,rfl⟩,⟨List.nodup_cons.2 ⟨fun hi=>by have:=(aN.2 _ hi).1;(try dsimp only at this);omega,aN.1⟩,fun i hi=>by
   rcases List.mem_cons.1 hi with rfl|hi
   ·(try dsimp only);omega
   ·have:=aN.2 i hi;(try dsimp only);omega⟩,⟨by(try dsimp only);omega,fun j hj=>aK j hj⟩⟩
end Go.Proofs.YtgoljkjaameagaaGreat.V

namespace Go.Proofs.YtgoljkjaameagaaGreat.V
open Go.RowKit
attribute [local irreducible] eu wpOps gq Call
attribute [local go_sem] aI fJ eP fZ fY dc upd cz K.av cJ AV.cells AV.cell rowOf rowsOf part ld rowAt bR cq dC ea gV bJ cZ eo fX eY dr ef cX cW dM dO bP aX cN bL cQ cP ec eh ee cL bU cY eb bK aO cU cG gU bp cI bQ aW dx bf dD AV.undef bD bF dR dY dI dP cH ek ew cF ej ei cR cV List.getD_cons_zero List.getD_cons_succ List.getD_nil List.all_cons List.all_nil Bool.and_true Bool.true_and Bool.and_self Bool.not_true Bool.not_false Option.map_some Option.map_none Option.bind_some Option.bind_none List.length_cons List.length_nil List.take_succ_cons List.take_zero List.take_nil List.drop_succ_cons List.drop_zero List.drop_nil List.head?_cons List.map_cons List.map_nil List.getElem?_cons_zero List.getElem?_cons_succ List.cons_append List.nil_append List.append_nil List.length_map List.set_cons_zero List.set_cons_succ Nat.reduceMul eq_self Int.toNat_natCast Int.natCast_nonneg and_self true_and and_true decide_true decide_false Bool.false_eq_true Nat.zero_add Nat.add_zero List.contains_cons List.contains_nil Bool.or_false Bool.false_or beq_self_eq_true Nat.reduceBEq ne_eq not_true_eq_false not_false_eq_true Id.mk.injEq false_and and_false Nat.reduceLT Int.reduceLE Int.reduceLT Int.reduceToNat Int.reduceNeg Int.reduceAdd Nat.le_refl List.length_append beq_true beq_false Bool.not_eq_eq_eq_not or_false false_or dJ aj aq aH aZ bB ck aT bc aU aY cK bG
theorem iE.k7 {α:Type} {R:C2 α} {z:Nat} {g:Rows} {a:AV} {xs:List α} {ids:List Id} (h:iE R z g a xs ids):∃o,a=.own o 0 xs.length:=by
 obtain⟨o,rows,is,rfl,_⟩:=h;exact⟨o,rfl⟩
theorem CQ (xs:List Int) (hlen:xs.length<=1048576) (σ:ax):Call Tryz.prog 17 [.sl (xs.map aw)] σ (fun r σ'=>∃i,r=.own i 0 xs.length/\σ'.get i=some ⟨true,1,xs.map aw⟩/\gr σ.next σ'.next [i]/\Kept σ σ'):=by
 refine eZ (show mo Tryz.prog 17=some (KK 17 (.int .i64 0)) by kernel_rfl) rfl fun hl=>?_
 try simp only[q]
 clear hl
 obtain⟨en,DW⟩:∃en:Int->List AV,en=aw:=⟨_,rfl⟩
 rw[<-DW]
 have hm:(xs.length:Int)<=((16777216:Nat):Int):=by omega
 have h0:(0:Int)<=(xs.length:Int):=by omega
 (try((repeat(revert hN;revert N;apply Pn.out));refine wk (tw @hm (tw @h0 (tw @Int.le_refl (oM en [AV.int .i64 0] xs)))) ?_;(repeat(refine Pn.mk ?_;intro N hN))))
 refine aM (fun n env st=>∃k:Nat,n=(xs.length)-k/\k<=(xs.length)/\env 4=.int .i64 (k:Int)/\st.get ⟨17*1000000+1002,σ.next+1⟩=some ⟨true,1,gL en [AV.int .i64 0] xs k⟩/\(σ.next+2<=st.next/\∀y:Id,y.bj<σ.next->st.get y=σ.get y)) (xs.length) ⟨0,by omega,by omega,sl @Nat.zero_add,sl @Nat.zero_add,by(try dsimp only);exact⟨by omega,fun y hy=>by
  have h1:=dB hy
  simp only[go_sem, ↓reduceIte,Nat.reduceEqDiff,Nat.reduceAdd,Nat.reduceSub,Nat.reduceLeDiff,reduceCtorEq,h1]⟩⟩ ?_
 rintro n_a env_a st_a ⟨k,rfl,ale,a4,ag0,j8⟩ di
 have a0:=di 0 (by kernel_rfl);have a3:=di 3 (by kernel_rfl)
 simp only[go_sem, ↓reduceIte,Nat.reduceEqDiff,Nat.reduceAdd,Nat.reduceSub,Nat.reduceLeDiff,reduceCtorEq]at a0 a3
 clear di
 obtain⟨an,aK⟩:=j8
 by_cases hk:(k:Int)<(xs.length:Int)
 ·have cm:∀{e:Env} {gg:Rows} {nx:Nat},(e 4=.int .i64 (IntKind.i64.wrap ((k:Int)+1)))->(gg ⟨17*1000000+1002,σ.next+1⟩=some ⟨true,1,gL en [AV.int .i64 0] xs (k+1)⟩)->(σ.next+2<=nx/\∀y:Id,y.bj<σ.next->gg y=σ.get y)->∃m0,m0<(xs.length)-k/\∃k:Nat,m0=(xs.length)-k/\k<=(xs.length)/\e 4=.int .i64 (k:Int)/\gg ⟨17*1000000+1002,σ.next+1⟩=some ⟨true,1,gL en [AV.int .i64 0] xs k⟩/\(σ.next+2<=nx/\∀y:Id,y.bj<σ.next->gg y=σ.get y):=fun x1 x2 x3=>⟨_,by omega,k+1,rfl,by omega,(by rw[x1,ay (by omega)]),x2,x3⟩
  have eU:k<xs.length:=by omega
  have eB:(xs.map en)[k]? =some [AV.int .i64 xs[k]]:=by simp[eU,DW,aw]
  have fe:=qF en [AV.int .i64 0] xs eU
  have dW:=qG en [AV.int .i64 0] xs eU
  rw[show en xs[k]=[AV.int .i64 xs[k]] by rw[DW];rfl]at dW
  (try((repeat(revert hN;revert N;apply Pn.out));refine wk (tw @a4 (tw @ag0 (tw @a0 (tw @a3 (tw @hk (tw @eB (tw @fe @dW))))))) ?_;(repeat(refine Pn.mk ?_;intro N hN))))
  refine cm ?_ ?_ (by(try dsimp only);exact⟨by omega,fun y hy=>by
   have h1:=dB hy
   have h3:=aK y hy
   simp only[go_sem, ↓reduceIte,Nat.reduceEqDiff,Nat.reduceAdd,Nat.reduceSub,Nat.reduceLeDiff,reduceCtorEq,h1,h3]⟩)
  all_goals simp only[go_sem, ↓reduceIte,Nat.reduceEqDiff,Nat.reduceAdd,Nat.reduceSub,Nat.reduceLeDiff,reduceCtorEq,a4,ag0,a0,a3]
 ·(try((repeat(revert hN;revert N;apply Pn.out));refine wk (tw @a4 (tw @ag0 (tw @a0 (tw @a3 @hk)))) ?_;(repeat(refine Pn.mk ?_;intro N hN))))
  have eU:k=xs.length:=by omega
  subst eU
  refine fq (.inl rfl) (vs:=[.own ⟨17*1000000+1002,σ.next+1⟩ 0 xs.length]) (sd (tw @a4 (tw @ag0 (tw @a0 @a3)))) ?_
  rw[qE]at ag0
  exact⟨_,rfl,ag0,⟨List.nodup_cons.2 ⟨by simp,List.nodup_nil⟩,fun i hi=>by
   rw[List.mem_singleton.1 hi];(try dsimp only);omega⟩,⟨by(try dsimp only);omega,fun j hj=>aK j hj⟩⟩
theorem KL (p:eW) (hs:sY p) (σ:ax):Call Tryz.prog 198 [.agg (bm p)] σ (Lk oG p σ):=by
 refine eZ eG rfl fun hl=>?_
 clear hl
 (try((repeat(revert hN;revert N;apply Pn.out));refine wk @bm.eq_1 ?_;(repeat(refine Pn.mk ?_;intro N hN))))
 refine .inr (aJ _ _ _ _ _ (fun r σ1 hq=>?_) (CQ p.bq hs _))
 obtain⟨i,rfl,hg,hI,hK⟩:=hq
 obtain⟨g1,x1⟩:=σ1
 (try dsimp only at hg hI hK)
 have hn:=hK.1
 refine hN _ _ ?_
 clear hN N
 have hi:=hI.2 i (by simp)
 have k2:=hK.2 ⟨198000001,σ.next⟩ (by(try dsimp only);omega)
 have k3:=hK.2 ⟨198001000,σ.next+1⟩ (by(try dsimp only);omega)
 simp only[go_sem, ↓reduceIte,Nat.reduceEqDiff,Nat.reduceAdd,Nat.reduceSub,Nat.reduceLeDiff,reduceCtorEq]at k2 k3
 (try((repeat(revert hN;revert N;apply Pn.out));refine wk (tw @bm.eq_1 (tw @k2 @k3)) ?_;(repeat(refine Pn.mk ?_;intro N hN))))
 refine fq (.inl rfl) (vs:=[.agg [.str p.aG,.own i 0 p.bq.length]]) (sd @Nat.zero_add) ?_
 refine⟨_,[i],rfl,⟨i,rfl,?_,rfl⟩,⟨hI.1,fun j hj=>?_⟩,⟨?_,fun j hj=>?_⟩⟩
 ·have i2:=dv (b:=i) (a:=⟨198000001,σ.next⟩) (by(try dsimp only at *);omega)
  have i3:=dv (b:=i) (a:=⟨198001000,σ.next+1⟩) (by(try dsimp only at *);omega)
  simp only[go_sem, ↓reduceIte,Nat.reduceEqDiff,Nat.reduceAdd,Nat.reduceSub,Nat.reduceLeDiff,reduceCtorEq,i2,i3,hg]
 ·rw[List.mem_singleton.1 hj]
  (try dsimp only at *);omega
 ·(try dsimp only at *);omega
 ·have h2:=hK.2 j (by(try dsimp only);omega)
  have h1:=dB hj
  simp only[go_sem, ↓reduceIte,Nat.reduceEqDiff,Nat.reduceAdd,Nat.reduceSub,Nat.reduceLeDiff,reduceCtorEq,h1]at h2
  simp only[go_sem, ↓reduceIte,Nat.reduceEqDiff,Nat.reduceAdd,Nat.reduceSub,Nat.reduceLeDiff,reduceCtorEq,h1,h2]
theorem BG:xC (lO bV) 2:=Ja (fun _=>rfl) (fun _=>rfl) (by simp[sg])
theorem ym:xC (lO ai) 3:=Ja (fun _=>rfl) (fun _=>rfl) (by simp[sg])
theorem KI (p:fF) (σ:ax):Call Tryz.prog 197 [.agg (bV p)] σ (Lk (lO bV) p σ):=by
 refine eZ eG rfl fun hl=>?_
 clear hl
 (try((repeat(revert hN;revert N;apply Pn.out));refine wk @bV.eq_1 ?_;(repeat(refine Pn.mk ?_;intro N hN))))
 refine fq (.inl rfl) (vs:=[.agg (bV p)]) (sd @bV.eq_1) ?_
 exact⟨_,[],rfl,⟨rfl,rfl⟩,⟨List.nodup_nil,fun i hi=>by cases hi⟩,⟨by(try dsimp only);omega,fun j hj=>by
  have h1:=dB hj
  simp only[go_sem, ↓reduceIte,Nat.reduceEqDiff,Nat.reduceAdd,Nat.reduceSub,Nat.reduceLeDiff,reduceCtorEq,h1]⟩⟩
theorem EZ (p:ae) (σ:ax):Call Tryz.prog 149 [.agg (ai p)] σ (Lk (lO ai) p σ):=by
 refine eZ eG rfl fun hl=>?_
 clear hl
 have h:=ze p.bH
 rw[ab]at h
 (repeat(first|((repeat(revert hN;revert N;apply Pn.out));refine wk @ai.eq_1 ?_;(repeat(refine Pn.mk ?_;intro N hN)))|((try apply Or.inl);refine⟨_,j7.x (h) _,?_⟩;refine hN _ _ ?_;clear hN N)))
 refine fq (.inl rfl) (vs:=[.agg (ai p)]) (sd @ai.eq_1) ?_
 exact⟨_,[],rfl,⟨rfl,rfl⟩,⟨List.nodup_nil,fun i hi=>by cases hi⟩,⟨by(try dsimp only);omega,fun j hj=>by
  have h1:=dB hj
  simp only[go_sem, ↓reduceIte,Nat.reduceEqDiff,Nat.reduceAdd,Nat.reduceSub,Nat.reduceLeDiff,reduceCtorEq,h1]⟩⟩
theorem HS (xs:List fF) (h:xs.length<=1048576) (σ:ax):Call Tryz.prog 129 [.sl (xs.map bV)] σ (Ll (lO bV) 2 xs σ):=
 AG BG (show mo Tryz.prog 129=some (uk 129 197 2 [.str [],.int .i64 0]) by kernel_rfl) rfl (fun _=>rfl) xs h (fun x _ σ=>KI x σ) σ
theorem HU (xs:List eW) (h:xs.length<=1048576) (hs:∀t∈xs,sY t) (σ:ax):Call Tryz.prog 130 [.sl (xs.map bm)] σ (Ll oG 2 xs σ):=
 AG rm (show mo Tryz.prog 130=some (uk 130 198 2 [.str [],.cu]) by kernel_rfl) rfl (fun _=>rfl) xs h (fun x hx σ=>KL x (hs x hx) σ) σ
theorem CT (xs:List ae) (h:xs.length<=1048576) (σ:ax):Call Tryz.prog 80 [.sl (xs.map ai)] σ (Ll (lO ai) 3 xs σ):=
 AG ym (show mo Tryz.prog 80=some (uk 80 149 3 [.int .i64 0,.int .i64 0,.int .i64 0]) by kernel_rfl) rfl (fun _=>rfl) xs h (fun x _ σ=>EZ x σ) σ
def zh (g:Rows) (v:AV) (a:ev) (ids:List Id):Prop:=∃x,v=.agg [x]/\iE (lO ai) 3 g x a.ad ids
structure Bc (g:Rows) (v:AV) (s:aE) (ids:List Id):Prop where
 ex:∃a b c i1 i2 i3,v=.agg [a,b,c,.int .i64 s.az]/\iE (lO bV) 2 g a s.aB.aA i1/\iE oG 2 g b s.aB.ad i2/\iE (lO ai) 3 g c s.cw.ad i3/\ids=i1++(i2++i3)
theorem zh.frame {g g':Rows} {v:AV} {a:ev} {ids:List Id} (h:zh g v a ids) (hf:∀i∈ids,g' i=g i):zh g' v a ids:=by
 obtain⟨x,h1,h2⟩:=h
 exact⟨x,h1,h2.frame ym hf⟩
theorem Bc.frame {g g':Rows} {v:AV} {s:aE} {ids:List Id} (h:Bc g v s ids) (hf:∀i∈ids,g' i=g i):Bc g' v s ids:=by
 obtain⟨a,b,c,i1,i2,i3,h1,h2,h3,h4,rfl⟩:=h.ex
 exact⟨a,b,c,i1,i2,i3,h1,h2.frame BG fun i hi=>hf i (by simp[hi]),h3.frame rm fun i hi=>hf i (by simp[hi]),h4.frame ym fun i hi=>hf i (by simp[hi]),rfl⟩
theorem zh.fz {g:Rows} {v:AV} {a:ev} {ids:List Id} (n:Nat) (h:zh g v a ids):V.fz (dJ g) (n+4) v=some (.agg (aP a)):=by
 obtain⟨x,rfl,h2⟩:=h
 have h3:=h2.fz (n:=n+2) (e:=ai) fun hc=>by rw[hc.1];simp[ai,aj,aq,aH]
 simp only[bc,aj,aq,h3,Option.map_some,aP]
theorem Bc.fz {g:Rows} {v:AV} {s:aE} {ids:List Id} (n:Nat) (h:Bc g v s ids):V.fz (dJ g) (n+5) v=some (.agg (aD s)):=by
 obtain⟨a,b,c,i1,i2,i3,rfl,h2,h3,h4,rfl⟩:=h.ex
 have q1:=h2.fz (n:=n+3) (e:=bV) fun hc=>by rw[hc.1];simp[bV,aj,aq,aH,bB]
 have q2:=h3.fz (n:=n+3) (e:=bm) fun hc=>M5 (n+1) hc
 have q3:=h4.fz (n:=n+3) (e:=ai) fun hc=>by rw[hc.1];simp[ai,aj,aq,aH]
 simp only[bc,aj,aq,q1,q2,q3,aH,Option.map_some,aD]
theorem sI (p:ev) (hs:p.ad.length<=1048576) (σ:ax):Call Tryz.prog 18 [.agg (aP p)] σ (fun r σ'=>∃ids,zh σ'.get r p ids/\gr σ.next σ'.next ids/\Kept σ σ'):=by
 refine eZ eG rfl fun hl=>?_
 clear hl
 (try((repeat(revert hN;revert N;apply Pn.out));refine wk @aP.eq_1 ?_;(repeat(refine Pn.mk ?_;intro N hN))))
 refine .inr (aJ _ _ _ _ _ (fun r σ1 hq=>?_) (CT p.ad hs _))
 obtain⟨ids,hR,hI,hK⟩:=hq
 obtain⟨g1,x1⟩:=σ1
 (try dsimp only at hR hI hK)
 have hn:=hK.1
 obtain⟨o,rows,is,rfl,hg,UD,rfl⟩:=hR
 refine hN _ _ ?_
 clear hN N
 have k2:=hK.2 ⟨18000001,σ.next⟩ (by(try dsimp only);omega)
 have k3:=hK.2 ⟨18001000,σ.next+1⟩ (by(try dsimp only);omega)
 simp only[go_sem, ↓reduceIte,Nat.reduceEqDiff,Nat.reduceAdd,Nat.reduceSub,Nat.reduceLeDiff,reduceCtorEq]at k2 k3
 (try((repeat(revert hN;revert N;apply Pn.out));refine wk (tw @aP.eq_1 (tw @k2 @k3)) ?_;(repeat(refine Pn.mk ?_;intro N hN))))
 refine fq (.inl rfl) (vs:=[.agg [.own o 0 p.ad.length]]) (sd @Nat.zero_add) ?_
 have hb:=hI.2
 (try dsimp only at hb hn)
 refine⟨_,⟨_,rfl,iE.frame ym ⟨o,rows,is,rfl,hg,UD,rfl⟩ fun j hj=>?_⟩,⟨hI.1,fun j hj=>?_⟩,⟨?_,fun j hj=>?_⟩⟩
 ·have O0:=hb j hj
  have i2:=dv (b:=j) (a:=⟨18000001,σ.next⟩) (by(try dsimp only);omega)
  have i3:=dv (b:=j) (a:=⟨18001000,σ.next+1⟩) (by(try dsimp only);omega)
  simp only[go_sem, ↓reduceIte,Nat.reduceEqDiff,Nat.reduceAdd,Nat.reduceSub,Nat.reduceLeDiff,reduceCtorEq,i2,i3]
 ·have:=hb j hj
  (try dsimp only);omega
 ·(try dsimp only);omega
 ·have h2:=hK.2 j (by(try dsimp only);omega)
  have h1:=dB hj
  simp only[go_sem, ↓reduceIte,Nat.reduceEqDiff,Nat.reduceAdd,Nat.reduceSub,Nat.reduceLeDiff,reduceCtorEq,h1]at h2
  simp only[go_sem, ↓reduceIte,Nat.reduceEqDiff,Nat.reduceAdd,Nat.reduceSub,Nat.reduceLeDiff,reduceCtorEq,h1,h2]
theorem CV (p:au) (hs:IA p) (σ:ax):Call Tryz.prog 63 [.agg (aa p)] σ (fun r σ'=>∃a b i1 i2,r=.agg [a,b]/\iE (lO bV) 2 σ'.get a p.aA i1/\iE oG 2 σ'.get b p.ad i2/\gr σ.next σ'.next (i1++i2)/\Kept σ σ'):=by
 refine eZ eG rfl fun hl=>?_
 clear hl
 (try((repeat(revert hN;revert N;apply Pn.out));refine wk @aa.eq_1 ?_;(repeat(refine Pn.mk ?_;intro N hN))))
 refine .inr (aJ _ _ _ _ _ (fun r σ1 hq=>?_) (HS p.aA hs.g _))
 obtain⟨i1,hR,hI,hK⟩:=hq
 obtain⟨g1,x1⟩:=σ1
 (try dsimp only at hR hI hK)
 have hn:=hK.1
 obtain⟨o,rows,is,rfl,hg,UD,rfl⟩:=hR
 have hb:=hI.2
 (try dsimp only at hb hn)
 refine hN _ _ ?_
 clear hN N
 have k1:=hK.2 ⟨63000000,σ.next⟩ (by(try dsimp only);omega)
 have k2:=hK.2 ⟨63000001,σ.next⟩ (by(try dsimp only);omega)
 have k3:=hK.2 ⟨63001000,σ.next+1⟩ (by(try dsimp only);omega)
 simp only[go_sem, ↓reduceIte,Nat.reduceEqDiff,Nat.reduceAdd,Nat.reduceSub,Nat.reduceLeDiff,reduceCtorEq]at k1 k2 k3
 (try((repeat(revert hN;revert N;apply Pn.out));refine wk (tw @aa.eq_1 (tw @k1 (tw @k2 @k3))) ?_;(repeat(refine Pn.mk ?_;intro N hN))))
 refine .inr (aJ _ _ _ _ _ (fun r σ2 hq=>?_) (HU p.ad hs.t hs.s _))
 obtain⟨i2,hS,hJ,hL⟩:=hq
 obtain⟨g2,x2⟩:=σ2
 (try dsimp only at hS hJ hL)
 have O6:=hL.1
 obtain⟨o2,SD,is2,rfl,OS,hS',rfl⟩:=hS
 have hc:=hJ.2
 (try dsimp only at hc O6)
 refine hN _ _ ?_
 clear hN N
 have l2:=hL.2 ⟨63000001,σ.next⟩ (by(try dsimp only);omega)
 have l3:=hL.2 ⟨63001000,σ.next+1⟩ (by(try dsimp only);omega)
 simp only[go_sem, ↓reduceIte,Nat.reduceEqDiff,Nat.reduceAdd,Nat.reduceSub,Nat.reduceLeDiff,reduceCtorEq,k2,k3]at l2 l3
 (try((repeat(revert hN;revert N;apply Pn.out));refine wk (tw @aa.eq_1 (tw @l2 @l3)) ?_;(repeat(refine Pn.mk ?_;intro N hN))))
 refine fq (.inl rfl) (vs:=[.agg [.own o 0 p.aA.length,.own o2 0 p.ad.length]]) (sd @Nat.zero_add) ?_
 have fr:∀x:Id,σ.next+2<=x.bj->(x=⟨63000001,σ.next⟩)=False/\(x=⟨63001000,σ.next+1⟩)=False:=fun x hx=>⟨(dv (a:=⟨63000001,σ.next⟩) (b:=x) (by(try dsimp only);omega)).2,(dv (a:=⟨63001000,σ.next+1⟩) (b:=x) (by(try dsimp only);omega)).2⟩
 refine⟨_,_,_,_,rfl,iE.frame (g:=g1) BG ⟨o,rows,is,rfl,hg,UD,rfl⟩ fun i hi=>?_,iE.frame (g:=g2) rm ⟨o2,SD,is2,rfl,OS,hS',rfl⟩ fun i hi=>?_,?_,⟨by(try dsimp only);omega,fun j hj=>?_⟩⟩
 ·have h1:=hb i hi
  have h2:=hL.2 i (by(try dsimp only);omega)
  have h3:=fr i (by omega)
  simp only[go_sem, ↓reduceIte,Nat.reduceEqDiff,Nat.reduceAdd,Nat.reduceSub,Nat.reduceLeDiff,reduceCtorEq,h3]at h2
  simp only[go_sem, ↓reduceIte,Nat.reduceEqDiff,Nat.reduceAdd,Nat.reduceSub,Nat.reduceLeDiff,reduceCtorEq,h2,h3]
 ·have h1:=hc i hi
  have h3:=fr i (by omega)
  simp only[go_sem, ↓reduceIte,Nat.reduceEqDiff,Nat.reduceAdd,Nat.reduceSub,Nat.reduceLeDiff,reduceCtorEq,h3]
 ·(try dsimp only at *)
  exact(hI.app hJ (by omega) (by omega) (by omega)).wide (by omega) (by omega)
 ·have h1:=dB hj
  have h2:=hL.2 j (by(try dsimp only);omega)
  have h3:=hK.2 j (by(try dsimp only);omega)
  simp only[go_sem, ↓reduceIte,Nat.reduceEqDiff,Nat.reduceAdd,Nat.reduceSub,Nat.reduceLeDiff,reduceCtorEq,h1]at h2 h3
  simp only[go_sem, ↓reduceIte,Nat.reduceEqDiff,Nat.reduceAdd,Nat.reduceSub,Nat.reduceLeDiff,reduceCtorEq,h1,h2,h3]
theorem E4 (p:aE) (hs:rH p) (σ:ax):Call Tryz.prog 16 [.agg (aD p)] σ (fun r σ'=>∃ids,Bc σ'.get r p ids/\gr σ.next σ'.next ids/\Kept σ σ'):=by
 refine eZ eG rfl fun hl=>?_
 clear hl
 have t1:=fun σ=>CV p.aB hs.s σ
 have t2:=fun σ=>sI p.cw hs.a σ
 rw[aa]at t1
 rw[aP]at t2
 (try((repeat(revert hN;revert N;apply Pn.out));refine wk @aD.eq_1 ?_;(repeat(refine Pn.mk ?_;intro N hN))))
 refine .inr (aJ _ _ _ _ _ (fun r σ1 hq=>?_) (t1 _))
 obtain⟨a,b,i1,i2,rfl,hA,hB,hI,hK⟩:=hq
 obtain⟨g1,x1⟩:=σ1
 (try dsimp only at hA hB hI hK)
 have hn:=hK.1
 have hb:=hI.2
 (try dsimp only at hb hn)
 refine hN _ _ ?_
 clear hN N
 have k1:=hK.2 ⟨16000000,σ.next⟩ (by(try dsimp only);omega)
 have k2:=hK.2 ⟨16000001,σ.next⟩ (by(try dsimp only);omega)
 have k3:=hK.2 ⟨16001000,σ.next+1⟩ (by(try dsimp only);omega)
 simp only[go_sem, ↓reduceIte,Nat.reduceEqDiff,Nat.reduceAdd,Nat.reduceSub,Nat.reduceLeDiff,reduceCtorEq]at k1 k2 k3
 obtain⟨oa,rfl⟩:=hA.k7
 obtain⟨ob,rfl⟩:=hB.k7
 (try((repeat(revert hN;revert N;apply Pn.out));refine wk (tw @aD.eq_1 (tw @k1 (tw @k2 @k3))) ?_;(repeat(refine Pn.mk ?_;intro N hN))))
 refine .inr (aJ _ _ _ _ _ (fun r σ2 hq=>?_) (t2 _))
 obtain⟨i3,hC,hJ,hL⟩:=hq
 obtain⟨g2,x2⟩:=σ2
 (try dsimp only at hC hJ hL)
 have O6:=hL.1
 have hc:=hJ.2
 (try dsimp only at hc O6)
 obtain⟨c,rfl,hC⟩:=hC
 obtain⟨oc,rfl⟩:=hC.k7
 refine hN _ _ ?_
 clear hN N
 have l1:=hL.2 ⟨16000000,σ.next⟩ (by(try dsimp only);omega)
 have l2:=hL.2 ⟨16000001,σ.next⟩ (by(try dsimp only);omega)
 have l3:=hL.2 ⟨16001000,σ.next+1⟩ (by(try dsimp only);omega)
 simp only[go_sem, ↓reduceIte,Nat.reduceEqDiff,Nat.reduceAdd,Nat.reduceSub,Nat.reduceLeDiff,reduceCtorEq,k1,k2,k3]at l1 l2 l3
 (try((repeat(revert hN;revert N;apply Pn.out));refine wk (tw @aD.eq_1 (tw @l1 (tw @l2 @l3))) ?_;(repeat(refine Pn.mk ?_;intro N hN))))
 refine fq (.inl rfl) (vs:=[.agg [.own oa 0 p.aB.aA.length,.own ob 0 p.aB.ad.length,.own oc 0 p.cw.ad.length,.int .i64 p.az]]) (sd @Nat.zero_add) ?_
 have fr:∀x:Id,σ.next+2<=x.bj->(x=⟨16000001,σ.next⟩)=False/\(x=⟨16001000,σ.next+1⟩)=False:=fun x hx=>⟨(dv (a:=⟨16000001,σ.next⟩) (b:=x) (by(try dsimp only);omega)).2,(dv (a:=⟨16001000,σ.next+1⟩) (b:=x) (by(try dsimp only);omega)).2⟩
 have fr2:∀i∈i1++i2,g2 i=g1 i:=fun i hi=>by
  have h1:=hb i hi
  have h2:=hL.2 i (by(try dsimp only);omega)
  have h3:=fr i (by omega)
  simp only[go_sem, ↓reduceIte,Nat.reduceEqDiff,Nat.reduceAdd,Nat.reduceSub,Nat.reduceLeDiff,reduceCtorEq,h3]at h2
  exact h2
 refine⟨i1++(i2++i3),⟨_,_,_,i1,i2,i3,rfl,hA.frame BG fun i hi=>?_,hB.frame rm fun i hi=>?_,hC.frame ym fun i hi=>?_,rfl⟩,?_,⟨by(try dsimp only);omega,fun j hj=>?_⟩⟩
 ·have h1:=hb i (by simp[hi])
  have h2:=fr2 i (by simp[hi])
  have h3:=fr i (by omega)
  simp only[go_sem, ↓reduceIte,Nat.reduceEqDiff,Nat.reduceAdd,Nat.reduceSub,Nat.reduceLeDiff,reduceCtorEq,h2,h3]
 ·have h1:=hb i (by simp[hi])
  have h2:=fr2 i (by simp[hi])
  have h3:=fr i (by omega)
  simp only[go_sem, ↓reduceIte,Nat.reduceEqDiff,Nat.reduceAdd,Nat.reduceSub,Nat.reduceLeDiff,reduceCtorEq,h2,h3]
 ·have h1:=hc i hi
  have h3:=fr i (by omega)
  simp only[go_sem, ↓reduceIte,Nat.reduceEqDiff,Nat.reduceAdd,Nat.reduceSub,Nat.reduceLeDiff,reduceCtorEq,h3]
 ·(try dsimp only at *)
  rw[<-List.append_assoc]
  exact(hI.app hJ (by omega) (by omega) (by omega)).wide (by omega) (by omega)
 ·have h1:=dB hj
  have h2:=hL.2 j (by(try dsimp only);omega)
  have h3:=hK.2 j (by(try dsimp only);omega)
  simp only[go_sem, ↓reduceIte,Nat.reduceEqDiff,Nat.reduceAdd,Nat.reduceSub,Nat.reduceLeDiff,reduceCtorEq,h1]at h2 h3
  simp only[go_sem, ↓reduceIte,Nat.reduceEqDiff,Nat.reduceAdd,Nat.reduceSub,Nat.reduceLeDiff,reduceCtorEq,h1,h2,h3]
end Go.Proofs.YtgoljkjaameagaaGreat.V

namespace Go.Proofs.YtgoljkjaameagaaGreat
open Go.RowKit
def k9 (n:Int):Bool:=(decide (97<=n)&&decide (n<=122))||(decide (65<=n)&&decide (n<=90))
def lF (n:Int):Bool:=decide (48<=n)&&decide (n<=57)
def ur (i:Nat) (n:Int):Prop:=k9 n=true∨(0<i/\(lF n=true∨n=95))
def vk (s:ByteArray):Prop:=(1<=s.size/\s.size<=12)/\∀i (h:i<s.size),ur i s[i].toNat
open Classical in
noncomputable def jO (s:ByteArray):Bool:=decide (vk s)
theorem Ey {s:ByteArray} (h:vk s):true=jO s:=by simp[jO,h]
theorem er {s:ByteArray} (h:¬vk s):false=jO s:=by simp[jO,h]
theorem Cu {s:ByteArray} {b:Bool} (hb:b=true) (h:vk s):b=jO s:=by simp[jO,h,hb]
theorem si {s:ByteArray} {b:Bool} (hb:b=false) (h:¬vk s):b=jO s:=by simp[jO,h,hb]
theorem wu (w:World) (n:Int):Calls Tryz.prog 285 #[.int .u8 n] w fun e w'=>e=.returned (.bool (k9 n))/\w=w':=by
 go_enter Tryz.func285,Tryz.ntmps285
 go_wp2_with fail
 all_goals
  go_ret
  exact⟨iH (by unfold k9;simp[*];try omega),rfl⟩
theorem GG (w:World) (n:Int):Calls Tryz.prog 286 #[.int .u8 n] w fun e w'=>e=.returned (.bool (lF n))/\w=w':=by
 go_enter Tryz.func286,Tryz.ntmps286
 go_wp2_with fail
 all_goals
  go_ret
  exact⟨iH (by unfold lF;simp[*];try omega),rfl⟩
theorem CH (w:World) (s:ByteArray) (hs:s.size<=9223372036854775807):Calls Tryz.prog 237 #[.string s] w fun e w'=>e=.returned (.bool (jO s))/\Below w.heap.size w w':=by
 by_cases h1:1<=s.size
 case neg=>
  go_enter Tryz.func237,Tryz.ntmps237
  go_wp2_with fail
  go_ret
  exact⟨iH (er fun h=>h1 h.1.1),Below.refl _ _⟩
 by_cases h2:s.size<=12
 case neg=>
  go_enter Tryz.func237,Tryz.ntmps237
  go_wp2_with fail
  go_ret
  exact⟨iH (er fun h=>h2 h.1.2),Below.refl _ _⟩
 go_enter Tryz.func237,Tryz.ntmps237
 go_wp2_with fail
 refine(wu _ _).mono ?_
 rintro e w' ⟨rfl,rfl⟩
 cases h3:k9 s[0].toNat
 ·go_wp2_with fail
  go_ret
  exact⟨iH (er fun h=>by have:=h.2 0 (by omega);simp only[ur]at this;rw[h3]at this;simp at this),Below.refl _ _⟩
 ·replace h3:=Lib.hid h3
  go_wp2_with fail
  go_loop [3] (fun i=>∃k:Nat,1<=k/\k<=s.size/\i=.int .i64 k/\Hid (∀j (h:j<s.size),j<k->ur j s[j].toNat)) (fun i=>s.size-(intOf i).toNat)
  case atStart=>exact⟨1,by omega,by omega,rfl,Lib.hid fun j h hj=>by
   obtain rfl:j=0:=by omega
   exact .inl h3.out⟩
  case round=>
   obtain⟨k,qb,hk,rfl,dE⟩:=hrel
   by_cases dV:k<s.size
   ·go_wp2_with fail
    refine(wu _ _).mono ?_
    rintro e w' ⟨rfl,rfl⟩
    have lH:ur k s[k].toNat∨¬ur k s[k].toNat:=Classical.em _
    cases hl:k9 s[k].toNat
    ·go_wp2_with fail
     refine(GG _ _).mono ?_
     rintro e w' ⟨rfl,rfl⟩
     cases hd:lF s[k].toNat
     ·by_cases uP:(s[k].toNat:Int)=95
      ·have Uk:((s[k].toNat:Int) !=95)=false:=by simp;omega
       replace uP:=Lib.hid uP
       replace hl:=Lib.hid hl
       replace hd:=Lib.hid hd
       go_wp2_with fail
       go_round
       case rel=>exact⟨k+1,by omega,by omega,by go_num,Lib.hid fun j h hj=>by
        by_cases yD:j=k
        ·subst yD;exact .inr ⟨by omega,.inr uP.out⟩
        ·exact dE.out j h (by omega)⟩
       case measure=>simp[intOf];omega
      ·have Uk:((s[k].toNat:Int) !=95)=true:=by simp;omega
       replace uP:=Lib.hid uP
       replace hl:=Lib.hid hl
       replace hd:=Lib.hid hd
       go_wp2_with fail
       go_ret
       exact⟨iH (er fun h=>by
        have:=h.2 k dV;simp only[ur,hl.out,hd.out]at this;exact uP.out (by simp at this;exact this.2)),Below.refl _ _⟩
     ·replace hl:=Lib.hid hl
      replace hd:=Lib.hid hd
      go_wp2_with fail
      go_round
      case rel=>exact⟨k+1,by omega,by omega,by go_num,Lib.hid fun j h hj=>by
       by_cases yD:j=k
       ·subst yD;exact .inr ⟨by omega,.inl hd.out⟩
       ·exact dE.out j h (by omega)⟩
      case measure=>simp[intOf];omega
    ·replace hl:=Lib.hid hl
     go_wp2_with fail
     go_round
     case rel=>exact⟨k+1,by omega,by omega,by go_num,Lib.hid fun j h hj=>by
      by_cases yD:j=k
      ·subst yD;exact .inl hl.out
      ·exact dE.out j h (by omega)⟩
     case measure=>simp[intOf];omega
   ·go_wp2_with fail
    go_ret
    exact⟨iH (Ey ⟨⟨h1,h2⟩,fun i h=>dE.out i h (by omega)⟩),Below.refl _ _⟩
theorem Ca (w:World) (s:ByteArray) (hs:s.size<=9223372036854775807):Calls Tryz.prog 254 #[.string s] w fun e w'=>e=.returned (.bool (jO s))/\w=w':=by
 go_enter Tryz.func254,Tryz.ntmps254
 go_wp2_with fail
 go_loop [8] (fun i=>∃k:Nat,k<=s.size/\i=.int .i64 k/\Hid (∀j (h:j<s.size),j<k->ur j s[j].toNat)) (fun i=>s.size-(intOf i).toNat)
 case atStart=>exact⟨0,by omega,rfl,Lib.hid fun j h hj=>by omega⟩
 case round=>
  obtain⟨k,hk,rfl,dE⟩:=hrel
  by_cases dV:k<s.size
  ·have hc:(s[k].toNat:Int)<48∨(48<=(s[k].toNat:Int)/\(s[k].toNat:Int)<=57)∨(58<=(s[k].toNat:Int)/\(s[k].toNat:Int)<=64)∨(65<=(s[k].toNat:Int)/\(s[k].toNat:Int)<=90)∨(91<=(s[k].toNat:Int)/\(s[k].toNat:Int)<=94)∨(95<=(s[k].toNat:Int)/\(s[k].toNat:Int)<=95)∨(96<=(s[k].toNat:Int)/\(s[k].toNat:Int)<=96)∨(97<=(s[k].toNat:Int)/\(s[k].toNat:Int)<=122)∨123<=(s[k].toNat:Int):=by omega
   by_cases xw:k=0
   ·subst xw
    rcases hc with h|⟨h,h'⟩|⟨h,h'⟩|⟨h,h'⟩|⟨h,h'⟩|⟨h,h'⟩|⟨h,h'⟩|⟨h,h'⟩|h
    ·have uP:((s[0].toNat:Int) !=95)=true:=by simp;try omega
     go_wp2_with fail
     all_goals first
      |(go_ret;exact⟨iH (er fun hh=>by have:=hh.2 0 dV;simp[ur,k9,lF]at this;omega),rfl⟩)
      |(exfalso;simp_all;done)
      |(exfalso;simp_all;omega)
    ·have uP:((s[0].toNat:Int) !=95)=true:=by simp;try omega
     go_wp2_with fail
     all_goals first
      |(go_ret;exact⟨iH (er fun hh=>by have:=hh.2 0 dV;simp[ur,k9,lF]at this;omega),rfl⟩)
      |(exfalso;simp_all;done)
      |(exfalso;simp_all;omega)
    ·have uP:((s[0].toNat:Int) !=95)=true:=by simp;try omega
     go_wp2_with fail
     all_goals first
      |(go_ret;exact⟨iH (er fun hh=>by have:=hh.2 0 dV;simp[ur,k9,lF]at this;omega),rfl⟩)
      |(exfalso;simp_all;done)
      |(exfalso;simp_all;omega)
    ·have uP:((s[0].toNat:Int) !=95)=true:=by simp;try omega
     go_wp2_with fail
     go_round
     case rel=>exact⟨0+1,by omega,by go_num,Lib.hid fun j hj yD=>by
      by_cases Ju:j=0
      ·subst Ju;simp[ur,k9,lF];omega
      ·exact dE.out j hj (by omega)⟩
     case measure=>simp[intOf];try omega
    ·have uP:((s[0].toNat:Int) !=95)=true:=by simp;try omega
     go_wp2_with fail
     all_goals first
      |(go_ret;exact⟨iH (er fun hh=>by have:=hh.2 0 dV;simp[ur,k9,lF]at this;omega),rfl⟩)
      |(exfalso;simp_all;done)
      |(exfalso;simp_all;omega)
    ·have uP:((s[0].toNat:Int) !=95)=false:=by simp;try omega
     go_wp2_with fail
     all_goals first
      |(go_ret;exact⟨iH (er fun hh=>by have:=hh.2 0 dV;simp[ur,k9,lF]at this;omega),rfl⟩)
      |(exfalso;simp_all;done)
      |(exfalso;simp_all;omega)
    ·have uP:((s[0].toNat:Int) !=95)=true:=by simp;try omega
     go_wp2_with fail
     all_goals first
      |(go_ret;exact⟨iH (er fun hh=>by have:=hh.2 0 dV;simp[ur,k9,lF]at this;omega),rfl⟩)
      |(exfalso;simp_all;done)
      |(exfalso;simp_all;omega)
    ·have uP:((s[0].toNat:Int) !=95)=true:=by simp;try omega
     go_wp2_with fail
     go_round
     case rel=>exact⟨0+1,by omega,by go_num,Lib.hid fun j hj yD=>by
      by_cases Ju:j=0
      ·subst Ju;simp[ur,k9,lF];omega
      ·exact dE.out j hj (by omega)⟩
     case measure=>simp[intOf];try omega
    ·have uP:((s[0].toNat:Int) !=95)=true:=by simp;try omega
     go_wp2_with fail
     all_goals first
      |(go_ret;exact⟨iH (er fun hh=>by have:=hh.2 0 dV;simp[ur,k9,lF]at this;omega),rfl⟩)
      |(exfalso;simp_all;done)
      |(exfalso;simp_all;omega)
   ·have hz:((k:Int)==0)=false:=by simpa using xw
    have qb:1<=k:=by omega
    clear xw
    rcases hc with h|⟨h,h'⟩|⟨h,h'⟩|⟨h,h'⟩|⟨h,h'⟩|⟨h,h'⟩|⟨h,h'⟩|⟨h,h'⟩|h
    ·have uP:((s[k].toNat:Int) !=95)=true:=by simp;try omega
     go_wp2_with fail
     all_goals first
      |(go_ret;exact⟨iH (er fun hh=>by have:=hh.2 k dV;simp[ur,k9,lF]at this;omega),rfl⟩)
      |(exfalso;simp_all;done)
      |(exfalso;simp_all;omega)
    ·have uP:((s[k].toNat:Int) !=95)=true:=by simp;try omega
     go_wp2_with fail
     go_round
     case rel=>exact⟨k+1,by omega,by go_num,Lib.hid fun j hj yD=>by
      by_cases Ju:j=k
      ·subst Ju;simp[ur,k9,lF];omega
      ·exact dE.out j hj (by omega)⟩
     case measure=>simp[intOf];try omega
    ·have uP:((s[k].toNat:Int) !=95)=true:=by simp;try omega
     go_wp2_with fail
     all_goals first
      |(go_ret;exact⟨iH (er fun hh=>by have:=hh.2 k dV;simp[ur,k9,lF]at this;omega),rfl⟩)
      |(exfalso;simp_all;done)
      |(exfalso;simp_all;omega)
    ·have uP:((s[k].toNat:Int) !=95)=true:=by simp;try omega
     go_wp2_with fail
     go_round
     case rel=>exact⟨k+1,by omega,by go_num,Lib.hid fun j hj yD=>by
      by_cases Ju:j=k
      ·subst Ju;simp[ur,k9,lF];omega
      ·exact dE.out j hj (by omega)⟩
     case measure=>simp[intOf];try omega
    ·have uP:((s[k].toNat:Int) !=95)=true:=by simp;try omega
     go_wp2_with fail
     all_goals first
      |(go_ret;exact⟨iH (er fun hh=>by have:=hh.2 k dV;simp[ur,k9,lF]at this;omega),rfl⟩)
      |(exfalso;simp_all;done)
      |(exfalso;simp_all;omega)
    ·have uP:((s[k].toNat:Int) !=95)=false:=by simp;try omega
     go_wp2_with fail
     go_round
     case rel=>exact⟨k+1,by omega,by go_num,Lib.hid fun j hj yD=>by
      by_cases Ju:j=k
      ·subst Ju;simp[ur,k9,lF];omega
      ·exact dE.out j hj (by omega)⟩
     case measure=>simp[intOf];try omega
    ·have uP:((s[k].toNat:Int) !=95)=true:=by simp;try omega
     go_wp2_with fail
     all_goals first
      |(go_ret;exact⟨iH (er fun hh=>by have:=hh.2 k dV;simp[ur,k9,lF]at this;omega),rfl⟩)
      |(exfalso;simp_all;done)
      |(exfalso;simp_all;omega)
    ·have uP:((s[k].toNat:Int) !=95)=true:=by simp;try omega
     go_wp2_with fail
     go_round
     case rel=>exact⟨k+1,by omega,by go_num,Lib.hid fun j hj yD=>by
      by_cases Ju:j=k
      ·subst Ju;simp[ur,k9,lF];omega
      ·exact dE.out j hj (by omega)⟩
     case measure=>simp[intOf];try omega
    ·have uP:((s[k].toNat:Int) !=95)=true:=by simp;try omega
     go_wp2_with fail
     all_goals first
      |(go_ret;exact⟨iH (er fun hh=>by have:=hh.2 k dV;simp[ur,k9,lF]at this;omega),rfl⟩)
      |(exfalso;simp_all;done)
      |(exfalso;simp_all;omega)
  ·by_cases h1:1<=s.size
   ·by_cases h2:s.size<=12
    ·go_wp2_with fail
     go_ret
     exact⟨iH (Cu (by simp<;>omega) ⟨⟨h1,h2⟩,fun i h=>dE.out i h (by omega)⟩),rfl⟩
    ·go_wp2_with fail
     go_ret
     exact⟨iH (si (by simp<;>omega) fun h=>h2 h.1.2),rfl⟩
   ·go_wp2_with fail
    go_ret
    exact⟨iH (si (by simp<;>omega) fun h=>h1 h.1.1),rfl⟩
end Go.Proofs.YtgoljkjaameagaaGreat

namespace Go.Proofs.YtgoljkjaameagaaGreat.V
open Go.RowKit
theorem mixed:Tryz.prog.follows .mixedOrders=true:=by kernel_rfl
variable {P:Program} {w:World} {D:Nat->Prop} {ι:Names}
theorem l8 {f:Nat} {args:List AV} {r:AV} {vs0:Array Value} {u0:Value} (nQ:∀(w:World) (D:Nat->Prop) (ι:Names) vs,fo P w D ι args vs->vs=vs0) (hr:∀(w:World) (D:Nat->Prop) (ι:Names),dh P w D ι r u0) (C5:∀g,gx g 6 r=some r)
  (h:∀w,Calls P f vs0 w fun e w'=>e=.returned u0/\Below w.heap.size w w'):ar P f args r:=by
 intro n
 refine fP fun hs D ι w vs S U A=>?_
 have:=nQ w D ι vs A
 subst this
 refine(h w).mono ?_
 rintro e w' ⟨rfl,hb⟩
 exact⟨r,_,n,D,ι,u0,rfl,⟨r,C5 _,rfl⟩,Step.stay S hb.block hb.size hb.os hb.tape hb.output (fun _ h=>h) (fun _ h=>.inl h) (fun _ _ h=>h),
  S.stay hb.block hb.size (fun _ h=>h) (fun b hd=>Nat.lt_of_lt_of_le (S.dead b hd) hb.size) (fun _ h=>.inl h) (fun _ _ h=>h),U,Nat.le_refl _,hr _ _ _⟩
theorem CF {s:ByteArray} {vs:Array Value} (h:fo P w D ι [.str s] vs):vs= #[.string s]:=by
 obtain⟨h1,h2⟩:=h
 obtain⟨u,hu,hr⟩:=h2 0 _ rfl
 rw[fH hr]at hu
 obtain⟨l⟩:=vs
 cases l with
 |nil=>simp at h1
 |cons a l=>cases l with
  |nil=>simp at hu;subst hu;rfl
  |cons b l=>simp at h1
theorem F8 (s:ByteArray) (hs:s.size<=9223372036854775807):ar Tryz.prog 237 [.str s] (.bool (jO s)):=
 l8 (fun _ _ _ _=>CF) (fun _ _ _=>.eS _ _ (.bool _)) (fun g=>fR g 5 _) fun w=>CH w s hs
theorem FQ (s:ByteArray) (hs:s.size<=9223372036854775807):ar Tryz.prog 254 [.str s] (.bool (jO s)):=
 l8 (fun _ _ _ _=>CF) (fun _ _ _=>.eS _ _ (.bool _)) (fun g=>fR g 5 _) fun w=>(Ca w s hs).mono (by rintro e w' ⟨rfl,rfl⟩;exact⟨rfl,Below.refl _ _⟩)
end Go.Proofs.YtgoljkjaameagaaGreat.V

namespace Go.Proofs.YtgoljkjaameagaaGreat
open Go.RowKit
def uv (n:Nat):List UInt8:=if h:n=0 then[]else uv (n / 10)++[UInt8.ofNat (48+n % 10)]
termination_by n
decreasing_by omega
def o5 (k:Int):ByteArray:=if k<=0 then⟨#[109,48]⟩else⟨(109::uv k.toNat).toArray⟩
theorem GH:uv 0=[]:=by unfold uv;simp
theorem IZ {n:Nat} (h:n≠0):uv n=uv (n / 10)++[UInt8.ofNat (48+n % 10)]:=by
 conv=>lhs;unfold uv
 rw[dif_neg h]
theorem yk (c:UInt8) (l:ByteArray):((⟨#[c]⟩++l:ByteArray)).data.toList=c::l.data.toList:=by
 simp[ByteArray.data_append]
theorem By:∀(m n:Nat),n<10 ^ m->(uv n).length<=m
 |0,n,h=>by
  have:n=0:=by simpa using h
  subst this;simp[uv]
 |m+1,n,h=>by
  unfold uv
  split
  ·simp
  ·have:=By m (n / 10) (by rw[Nat.pow_succ]at h;omega)
   simp;omega
theorem Ae (w:World) (k:Int) (h0:0<=k) (h1:k<=4611686018427387904):
  Calls Tryz.prog 213 #[.int .i64 k] w fun e w'=>e=.returned (.string (o5 k))/\Below w.heap.size w w':=by
 by_cases hk:k<=0
 ·go_enter Tryz.func213,Tryz.ntmps213
  go_wp2_with fail
  go_ret
  exact⟨by simp[o5,hk],Below.refl _ _⟩
 ·go_enter Tryz.func213,Tryz.ntmps213
  go_wp2_with fail
  go_loopw [0,3] (fun a s wr=>∃(j:Int) (l:ByteArray),a=.int .i64 j/\s=.string l/\0<=j/\j<=4611686018427387904/\Hid (uv j.toNat++l.data.toList=uv k.toNat)/\Below w.heap.size w wr) (fun a _ _=>(intOf a).toNat)
  case atStart=>exact⟨k,⟨#[]⟩,rfl,rfl,h0,h1,Lib.hid (by simp),Below.refl _ _⟩
  case round=>
   obtain⟨j,l,rfl,rfl,Qz,hj1,hd,hb⟩:=hrel
   have ga:l.size<=19:=by
    have h1:=congrArg List.length hd.out
    have h2:=By 19 k.toNat (by omega)
    rw[List.length_append]at h1
    have:l.data.toList.length=l.size:=by rw[Array.length_toList];rfl
    omega
   by_cases hj:0<j
   ·have RB:∀v:Int,(convert 336 9 (.slice (some ⟨wr.heap.size,0,none⟩) 1 1)).run Tryz.prog (wr.alloc (.cells #[.int .u8 v] 5))=.ok (.string ⟨#[UInt8.ofNat v.toNat]⟩) (wr.alloc (.cells #[.int .u8 v] 5)):=by
     intro v
     rw[run_convert_bytes_string _ _ _ 5 _ _ _ Tryz.underlying336 Tryz.underlying5 Tryz.underlying9,run_bytesToString _ _ _ _ [v] (by simp[loadCells,loadCellsFrom,go_sem])]
     rfl
    have hr:=ga
    go_wp2_with fail
    go_roundw
    case rel=>
     refine⟨_,_,rfl,rfl,by omega,by omega,Lib.hid ?_,hb.alloc hb.size _⟩
     rw[<-hd.out,yk,IZ (show j.toNat≠0 by omega),show(j / 10).toNat=j.toNat / 10 by omega,show(48+j % 10).toNat=48+j.toNat % 10 by omega]
     simp
    case measure=>simp[intOf];omega
   ·go_wp2_with fail
    go_ret
    refine⟨?_,hb⟩
    have h1:=hd.out
    rw[show j.toNat=0 by omega,GH,List.nil_append]at h1
    have h2:(⟨#[109]⟩++l:ByteArray)=o5 k:=by
     rw[o5,if_neg (by omega)]
     refine ByteArray.ext (Array.ext' ?_)
     rw[yk,h1]
    rw[h2];rfl
end Go.Proofs.YtgoljkjaameagaaGreat

namespace Go.Proofs.YtgoljkjaameagaaGreat.V
open Go.RowKit
attribute [local irreducible] eu wpOps gq Call
attribute [local go_sem] aI fJ eP fZ fY dc upd cz K.av cJ AV.cells AV.cell rowOf rowsOf part ld rowAt bR cq dC ea gV bJ cZ eo fX eY dr ef cX cW dM dO bP aX cN bL cQ cP ec eh ee cL bU cY eb bK aO cU cG gU bp cI bQ aW dx bf dD AV.undef bD bF dR dY dI dP cH ek ew cF ej ei cR cV List.getD_cons_zero List.getD_cons_succ List.getD_nil List.all_cons List.all_nil Bool.and_true Bool.true_and Bool.and_self Bool.not_true Bool.not_false Option.map_some Option.map_none Option.bind_some Option.bind_none List.length_cons List.length_nil List.take_succ_cons List.take_zero List.take_nil List.drop_succ_cons List.drop_zero List.drop_nil List.head?_cons List.map_cons List.map_nil List.getElem?_cons_zero List.getElem?_cons_succ List.cons_append List.nil_append List.append_nil List.length_map List.set_cons_zero List.set_cons_succ Nat.reduceMul eq_self Int.toNat_natCast Int.natCast_nonneg and_self true_and and_true decide_true decide_false Bool.false_eq_true Nat.zero_add Nat.add_zero List.contains_cons List.contains_nil Bool.or_false Bool.false_or beq_self_eq_true Nat.reduceBEq ne_eq not_true_eq_false not_false_eq_true Id.mk.injEq false_and and_false Nat.reduceLT Int.reduceLE Int.reduceLT Int.reduceToNat Int.reduceNeg Int.reduceAdd Nat.le_refl List.length_append beq_true beq_false Bool.not_eq_eq_eq_not or_false false_or dJ aj aq aH aZ bB ck aT bc aU aY cK bG
def qg (σ:ax) (ids:List Id) (g:Rows) (n:Nat):Prop:=σ.next<=n/\∀x:Id,x.bj<σ.next->x∉ids->g x=σ.get x
theorem qg.trans {a b:ax} {i j:List Id} {g:Rows} {n:Nat} (h:qg a i b.get b.next) (k:qg b j g n):qg a (i++j) g n:=
 ⟨Nat.le_trans h.1 k.1,fun x hx hi=>(k.2 x (Nat.lt_of_lt_of_le hx h.1) fun hc=>hi (by simp[hc])).trans (h.2 x hx fun hc=>hi (by simp[hc]))⟩
theorem qg.sub {a:ax} {i j:List Id} {g:Rows} {n:Nat} (h:qg a i g n) (hs:∀x∈i,x∈j):qg a j g n:=⟨h.1,fun x hx hj=>h.2 x hx fun hi=>hj (hs x hi)⟩
theorem xd (l:List (List AV)) (i:Nat) (a b:List AV):(l.set i a).set i b=l.set i b:=List.set_set ..
theorem BA {l:List Int} {j:Nat} (h:j<l.length):(l.map aw)[j]? =some [.int .i64 l[j]]:=by simp[h,aw]
theorem MP {P:Program} {w:World} {D:Nat->Prop} {ι:Names} {k:Int} {vs:Array Value} (h:fo P w D ι [.int .i64 k] vs):vs= #[.int .i64 k]:=by
 obtain⟨h1,h2⟩:=h
 obtain⟨u,hu,hr⟩:=h2 0 _ rfl
 rw[dt hr]at hu
 obtain⟨l⟩:=vs
 cases l with
 |nil=>simp at h1
 |cons a l=>cases l with
  |nil=>simp at hu;subst hu;rfl
  |cons b l=>simp at h1
theorem wz (k:Int) (h0:0<=k) (h1:k<=4611686018427387904):ar Tryz.prog 213 [.int .i64 k] (.str (o5 k)):=
 l8 (vs0:= #[.int .i64 k]) (u0:=.string (o5 k)) (fun _ _ _ _=>MP) (fun w D ι=>.eS _ _ (.str _)) (fun g=>LG g 5 _) fun w=>Ae w k h0 h1
theorem Ev (i:Id) (l:List Int) (k:Int) (h0:0<=k) (h1:k+l.length<=4611686018427387904) (σ:ax) (hv:i.bj<σ.next) (hg:σ.get i=some ⟨true,1,l.map aw⟩):
  Call Tryz.prog 24 [.own i 0 l.length,.int .i64 k] σ (fun r σ'=>r=.int .i64 (k+l.length)/\qg σ [i] σ'.get σ'.next):=by
 refine eZ eG rfl fun hl=>?_
 clear hl
 obtain⟨nn,hn⟩:∃nn,l.length=nn:=⟨_,rfl⟩
 rw[hn]at h1 ⊢
 (try((repeat(revert hN;revert N;apply Pn.out));refine wk @Nat.zero_add ?_;(repeat(refine Pn.mk ?_;intro N hN))))
 refine aM (fun n env st=>∃j:Nat,n=(nn)-j/\j<=(nn)/\env 5=.int .i64 (j:Int)/\env 1=.int .i64 (k+j)/\(qg σ [i] st.get st.next/\∃l':List Int,l'.length=nn/\st.get i=some ⟨true,1,l'.map aw⟩)) (nn) ⟨0,by omega,by omega,sl (tw @Int.add_zero @Int.natCast_zero),sl (tw @Int.add_zero @Int.natCast_zero),by(try dsimp only);exact⟨⟨by(try dsimp only);omega,fun x _ _=>rfl⟩,l,hn,hg⟩⟩ ?_
 rintro n_a env_a st_a ⟨j,rfl,ale,a5,a1,j8⟩ di
 have a0:=di 0 (by kernel_rfl)
 simp only[go_sem, ↓reduceIte,Nat.reduceEqDiff,Nat.reduceAdd,Nat.reduceSub,Nat.reduceLeDiff,reduceCtorEq,Int.add_zero,Int.natCast_zero]at a0
 clear di
 obtain⟨⟨an,aF⟩,l',al,ag⟩:=j8
 by_cases hj:(j:Int)<(nn:Int)
 ·have cm:∀{e:Env} {gg:Rows} {nx:Nat},(e 5=.int .i64 (IntKind.i64.wrap ((j:Int)+1)))->(e 1=.int .i64 (k+(j+1)))->(qg σ [i] gg nx/\∃l':List Int,l'.length=nn/\gg i=some ⟨true,1,l'.map aw⟩)->∃m0,m0<(nn)-j/\∃j:Nat,m0=(nn)-j/\j<=(nn)/\e 5=.int .i64 (j:Int)/\e 1=.int .i64 (k+j)/\(qg σ [i] gg nx/\∃l':List Int,l'.length=nn/\gg i=some ⟨true,1,l'.map aw⟩):=fun x1 x2 x3=>⟨_,by omega,j+1,rfl,by omega,(by rw[x1,ay (by omega)]),x2,x3⟩
  have iy:j<l'.length:=by omega
  have fa:=BA iy
  have dW:(l'.map aw).set j [.int .i64 (k+j)]=(l'.set j (k+j)).map aw:=by rw[List.map_set];rfl
  have hw:IntKind.i64.wrap (k+(j:Int)+1)=k+((j:Int)+1):=by rw[br (by omega)];omega
  (try((repeat(revert hN;revert N;apply Pn.out));refine wk (tw @a5 (tw @a1 (tw @a0 (tw @hj (tw @ag (tw @fa (tw @dW @hw))))))) ?_;(repeat(refine Pn.mk ?_;intro N hN))))
  refine cm ?_ ?_ (by(try dsimp only);exact⟨⟨by(try dsimp only);omega,fun x hx hi=>by
   have h2:=aF x hx hi
   have h3:(x=i)=False:=eq_false fun e=>hi (by simp[e])
   simp only[go_sem, ↓reduceIte,Nat.reduceEqDiff,Nat.reduceAdd,Nat.reduceSub,Nat.reduceLeDiff,reduceCtorEq,h2,h3]⟩,l'.set j (k+j),by simp[al],sl @Nat.zero_add⟩)
  all_goals simp only[go_sem, ↓reduceIte,Nat.reduceEqDiff,Nat.reduceAdd,Nat.reduceSub,Nat.reduceLeDiff,reduceCtorEq,a5,a1,a0,hw]
 ·have iy:j=nn:=by omega
  subst iy
  (try((repeat(revert hN;revert N;apply Pn.out));refine wk (tw @a5 (tw @a1 (tw @a0 @hj))) ?_;(repeat(refine Pn.mk ?_;intro N hN))))
  exact fq (.inl rfl) (vs:=[.int .i64 (k+j)]) (sd (tw @a5 (tw @a1 @a0))) ⟨rfl,⟨by(try dsimp only);omega,fun x hx hi=>aF x hx hi⟩⟩
def Mw (k:Int) (n:Nat):List ae:=(List.range n).map fun j:Nat=>⟨⟨k+3*(j:Int),k+3*(j:Int)+1⟩,k+3*(j:Int)+2⟩
theorem sf (k:Int) (n:Nat):(Mw k n).length=n:=by simp[Mw]
theorem J0 (k:Int) (n:Nat):Mw k (n+1)=Mw k n++[⟨⟨k+3*(n:Int),k+3*(n:Int)+1⟩,k+3*(n:Int)+2⟩]:=by simp[Mw,List.range_succ]
def ns (k:Int) (l:List ae) (j:Nat):List ae:=Mw k j++l.drop j
theorem J1 {k:Int} {l:List ae} {j:Nat} (h:j<=l.length):(ns k l j).length=l.length:=by simp[ns,sf];omega
theorem Mx {k:Int} {l:List ae} {j:Nat} (h:j<l.length):((ns k l j).map ai)[j]? =some [.int .i64 l[j].bH.eR,.int .i64 l[j].bH.eM,.int .i64 l[j].bx]:=by
 rw[List.getElem?_map,ns,List.getElem?_append_right (by rw[sf];omega),sf,Nat.sub_self,List.getElem?_drop,Nat.add_zero,List.getElem?_eq_getElem h];rfl
theorem J2 {k:Int} {l:List ae} {j:Nat} (h:j<l.length):((ns k l j).map ai).set j [.int .i64 (k+3*(j:Int)),.int .i64 (k+3*(j:Int)+1),.int .i64 (k+3*(j:Int)+2)]=(ns k l (j+1)).map ai:=by
 have:(ns k l j).set j ⟨⟨k+3*(j:Int),k+3*(j:Int)+1⟩,k+3*(j:Int)+2⟩=ns k l (j+1):=by
  rw[ns,List.set_append_right _ _ (by rw[sf];omega),sf,Nat.sub_self,List.drop_eq_getElem_cons h,List.set_cons_zero,ns,J0,List.append_assoc];rfl
 rw[<-this,List.map_set];rfl
theorem Ad (i:Id) (l:List ae) (k:Int) (h0:0<=k) (h1:k+3*l.length<=4611686018427387904) (σ:ax) (hv:i.bj<σ.next) (hg:σ.get i=some ⟨true,3,l.map ai⟩):
  Call Tryz.prog 59 [.own i 0 l.length,.int .i64 k] σ (fun r σ'=>r=.int .i64 (k+3*l.length)/\qg σ [i] σ'.get σ'.next/\σ'.get i=some ⟨true,3,(Mw k l.length).map ai⟩):=by
 refine eZ eG rfl fun hl=>?_
 clear hl
 have hz:ns k l 0=l:=by simp[ns,Mw]
 (try((repeat(revert hN;revert N;apply Pn.out));refine wk @Nat.zero_add ?_;(repeat(refine Pn.mk ?_;intro N hN))))
 refine aM (fun n env st=>∃j:Nat,n=(l.length)-j/\j<=(l.length)/\env 5=.int .i64 (j:Int)/\env 1=.int .i64 (k+3*j)/\st.get i=some ⟨true,3,(ns k l j).map ai⟩/\(qg σ [i] st.get st.next)) (l.length) ⟨0,by omega,by omega,sl (tw @Int.add_zero (tw @Int.natCast_zero (tw @Int.mul_zero (tw @hz @hg)))),sl (tw @Int.add_zero (tw @Int.natCast_zero (tw @Int.mul_zero (tw @hz @hg)))),sl (tw @Int.add_zero (tw @Int.natCast_zero (tw @Int.mul_zero (tw @hz @hg)))),by(try dsimp only);exact⟨by(try dsimp only);omega,fun x _ _=>rfl⟩⟩ ?_
 rintro n_a env_a st_a ⟨j,rfl,ale,a5,a1,ag0,j8⟩ di
 have a0:=di 0 (by kernel_rfl)
 simp only[go_sem, ↓reduceIte,Nat.reduceEqDiff,Nat.reduceAdd,Nat.reduceSub,Nat.reduceLeDiff,reduceCtorEq,Int.add_zero,Int.natCast_zero,Int.mul_zero,hz,hg]at a0
 clear di
 obtain⟨an,aF⟩:=j8
 by_cases hj:(j:Int)<(l.length:Int)
 ·have cm:∀{e:Env} {gg:Rows} {nx:Nat},(e 5=.int .i64 (IntKind.i64.wrap ((j:Int)+1)))->(e 1=.int .i64 (k+3*(j+1)))->(gg i=some ⟨true,3,(ns k l (j+1)).map ai⟩)->(qg σ [i] gg nx)->∃m0,m0<(l.length)-j/\∃j:Nat,m0=(l.length)-j/\j<=(l.length)/\e 5=.int .i64 (j:Int)/\e 1=.int .i64 (k+3*j)/\gg i=some ⟨true,3,(ns k l j).map ai⟩/\(qg σ [i] gg nx):=fun x1 x2 x3 x4=>⟨_,by omega,j+1,rfl,by omega,(by rw[x1,ay (by omega)]),x2,x3,x4⟩
  have iy:j<l.length:=by omega
  have fa:=Mx (k:=k) iy
  have dW:=J2 (k:=k) iy
  have o3:IntKind.i64.wrap (k+3*(j:Int)+1)=k+3*(j:Int)+1:=br (by omega)
  have wh:IntKind.i64.wrap (k+3*(j:Int)+1+1)=k+3*(j:Int)+2:=by rw[br (by omega)];omega
  have Sb:IntKind.i64.wrap (k+3*(j:Int)+2+1)=k+3*((j:Int)+1):=by rw[br (by omega)];omega
  have hlen:((ns k l j).map ai).length=l.length:=by rw[List.length_map,J1 (by omega)]
  have Jr:∀c:List AV,(((ns k l j).map ai).set j c)[j]? =some c:=fun c=>by rw[List.getElem?_set_self (by rw[hlen];exact iy)]
  (try((repeat(revert hN;revert N;apply Pn.out));refine wk (tw @a5 (tw @a1 (tw @ag0 (tw @a0 (tw @hj (tw @fa (tw @Jr (tw @dW (tw @o3 (tw @wh (tw @Sb (tw @hlen @xd)))))))))))) ?_;(repeat(refine Pn.mk ?_;intro N hN))))
  refine cm ?_ ?_ ?_ (by(try dsimp only);exact⟨by(try dsimp only);omega,fun x hx hi=>by
   have h2:=aF x hx hi
   have h3:(x=i)=False:=eq_false fun e=>hi (by simp[e])
   simp only[go_sem, ↓reduceIte,Nat.reduceEqDiff,Nat.reduceAdd,Nat.reduceSub,Nat.reduceLeDiff,reduceCtorEq,h2,h3]⟩)
  all_goals simp only[go_sem, ↓reduceIte,Nat.reduceEqDiff,Nat.reduceAdd,Nat.reduceSub,Nat.reduceLeDiff,reduceCtorEq,a5,a1,ag0,a0,Sb,dW]
 ·have iy:j=l.length:=by omega
  subst iy
  (try((repeat(revert hN;revert N;apply Pn.out));refine wk (tw @a5 (tw @a1 (tw @ag0 (tw @a0 @hj)))) ?_;(repeat(refine Pn.mk ?_;intro N hN))))
  have kK:ns k l l.length=Mw k l.length:=by simp[ns]
  rw[kK]at ag0
  exact fq (.inl rfl) (vs:=[.int .i64 (k+3*l.length)]) (sd (tw @a5 (tw @a1 (tw @ag0 @a0)))) ⟨rfl,⟨by(try dsimp only);omega,fun x hx hi=>aF x hx hi⟩,ag0⟩
theorem Cn (i:Id) (l:List fF) (k:Int) (h0:0<=k) (h1:k+2*l.length<=4611686018427387904) (σ:ax) (hv:i.bj<σ.next) (hg:σ.get i=some ⟨true,2,l.map bV⟩):
  Call Tryz.prog 138 [.own i 0 l.length,.int .i64 k] σ (fun r σ'=>r=.int .i64 (k+2*l.length)/\qg σ [i] σ'.get σ'.next):=by
 refine eZ eG rfl fun hl=>?_
 clear hl
 obtain⟨nn,hn⟩:∃nn,l.length=nn:=⟨_,rfl⟩
 rw[hn]at h1 ⊢
 (try((repeat(revert hN;revert N;apply Pn.out));refine wk @Nat.zero_add ?_;(repeat(refine Pn.mk ?_;intro N hN))))
 refine aM (fun n env st=>∃j:Nat,n=(nn)-j/\j<=(nn)/\env 5=.int .i64 (j:Int)/\env 1=.int .i64 (k+2*j)/\(qg σ [i] st.get st.next/\∃l':List fF,l'.length=nn/\st.get i=some ⟨true,2,l'.map bV⟩)) (nn) ⟨0,by omega,by omega,sl (tw @Int.add_zero (tw @Int.natCast_zero @Int.mul_zero)),sl (tw @Int.add_zero (tw @Int.natCast_zero @Int.mul_zero)),by(try dsimp only);exact⟨⟨by(try dsimp only);omega,fun x _ _=>rfl⟩,l,hn,hg⟩⟩ ?_
 rintro n_a env_a st_a ⟨j,rfl,ale,a5,a1,j8⟩ di
 have a0:=di 0 (by kernel_rfl)
 simp only[go_sem, ↓reduceIte,Nat.reduceEqDiff,Nat.reduceAdd,Nat.reduceSub,Nat.reduceLeDiff,reduceCtorEq,Int.add_zero,Int.natCast_zero,Int.mul_zero]at a0
 clear di
 obtain⟨⟨an,aF⟩,l',al,ag⟩:=j8
 by_cases hj:(j:Int)<(nn:Int)
 ·have cm:∀{e:Env} {gg:Rows} {nx:Nat},(e 5=.int .i64 (IntKind.i64.wrap ((j:Int)+1)))->(e 1=.int .i64 (k+2*(j+1)))->(qg σ [i] gg nx/\∃l':List fF,l'.length=nn/\gg i=some ⟨true,2,l'.map bV⟩)->∃m0,m0<(nn)-j/\∃j:Nat,m0=(nn)-j/\j<=(nn)/\e 5=.int .i64 (j:Int)/\e 1=.int .i64 (k+2*j)/\(qg σ [i] gg nx/\∃l':List fF,l'.length=nn/\gg i=some ⟨true,2,l'.map bV⟩):=fun x1 x2 x3=>⟨_,by omega,j+1,rfl,by omega,(by rw[x1,ay (by omega)]),x2,x3⟩
  have iy:j<l'.length:=by omega
  have fa:(l'.map bV)[j]? =some [.str l'[j].aG,.int .i64 l'[j].eD]:=by simp[iy,bV]
  have hlen:(l'.map bV).length=nn:=by rw[List.length_map,al]
  have Jr:∀c:List AV,((l'.map bV).set j c)[j]? =some c:=fun c=>by rw[List.getElem?_set_self (by rw[List.length_map];exact iy)]
  have ht:=wz (k+2*(j:Int)) (by omega) (by omega)
  have o3:IntKind.i64.wrap (k+2*(j:Int)+1)=k+2*(j:Int)+1:=br (by omega)
  have wh:IntKind.i64.wrap (k+2*(j:Int)+1+1)=k+2*((j:Int)+1):=by rw[br (by omega)];omega
  generalize o5 (k+2*(j:Int))=mt at ht
  have dW:(l'.map bV).set j [.str mt,.int .i64 (k+2*(j:Int)+1)]=(l'.set j ⟨mt,k+2*(j:Int)+1⟩).map bV:=by rw[List.map_set];rfl
  (repeat(first|((repeat(revert hN;revert N;apply Pn.out));refine wk (tw @a5 (tw @a1 (tw @a0 (tw @hj (tw @ag (tw @fa (tw @Jr (tw @dW (tw @o3 (tw @wh (tw @hlen @xd))))))))))) ?_;(repeat(refine Pn.mk ?_;intro N hN)))|((try apply Or.inl);refine⟨_,ar.x (ht) (sd (tw @a5 (tw @a1 (tw @a0 (tw @hj (tw @ag (tw @fa (tw @Jr (tw @dW (tw @o3 (tw @wh (tw @hlen @xd)))))))))))),?_⟩;refine hN _ _ ?_;clear hN N)))
  refine cm ?_ ?_ (by(try dsimp only);exact⟨⟨by(try dsimp only);omega,fun x hx hi=>by
   have h2:=aF x hx hi
   have h3:(x=i)=False:=eq_false fun e=>hi (by simp[e])
   simp only[go_sem, ↓reduceIte,Nat.reduceEqDiff,Nat.reduceAdd,Nat.reduceSub,Nat.reduceLeDiff,reduceCtorEq,h2,h3]⟩,l'.set j ⟨mt,k+2*(j:Int)+1⟩,by simp[al],sl @Nat.zero_add⟩)
  all_goals simp only[go_sem, ↓reduceIte,Nat.reduceEqDiff,Nat.reduceAdd,Nat.reduceSub,Nat.reduceLeDiff,reduceCtorEq,a5,a1,a0,wh,dW]
 ·have iy:j=nn:=by omega
  subst iy
  (try((repeat(revert hN;revert N;apply Pn.out));refine wk (tw @a5 (tw @a1 (tw @a0 @hj))) ?_;(repeat(refine Pn.mk ?_;intro N hN))))
  exact fq (.inl rfl) (vs:=[.int .i64 (k+2*j)]) (sd (tw @a5 (tw @a1 @a0))) ⟨rfl,⟨by(try dsimp only);omega,fun x hx hi=>aF x hx hi⟩⟩
theorem iE.flat {α:Type} {e:α->List AV} {z:Nat} {g:Rows} {a:AV} {xs:List α} {ids:List Id} (h:iE (lO e) z g a xs ids):∃o,a=.own o 0 xs.length/\g o=some ⟨true,z,xs.map e⟩/\ids=[o]:=by
 obtain⟨o,rows,is,h1,h2,h3,rfl⟩:=h
 have:∀{rows:List (List AV)} {xs:List α} {is:List Id},eI (lO e) g rows xs is->rows=xs.map e/\is=[]:=fun h=>by
  induction h with
  |nil=>exact⟨rfl,rfl⟩
  |cons h1 _ ih=>obtain⟨rfl,rfl⟩:=h1;obtain⟨rfl,rfl⟩:=ih;exact⟨rfl,rfl⟩
 obtain⟨rfl,rfl⟩:=this h3
 exact⟨o,h1,h2,rfl⟩
def gE (t:eW):Nat:=1+t.bq.length
theorem Co (a:AV) (l:List eW) (ids:List Id) (k:Int) (h0:0<=k) (yE:l.length<=1048576) (h1:k+(l.map gE).sum<=4611686018427387904) (σ:ax) (hv:∀i∈ids,i.bj<σ.next) (mh:ids.Nodup) (hg:iE oG 2 σ.get a l ids):
  Call Tryz.prog 139 [a,.int .i64 k] σ (fun r σ'=>r=.int .i64 (k+(l.map gE).sum)/\qg σ ids σ'.get σ'.next):=by
 obtain⟨o,rows,is,rfl,ho,hR,rfl⟩:=hg
 refine eZ eG rfl fun hl=>?_
 clear hl
 have rX:=hv o (by simp)
 have NI:=mL gE l
 (try((repeat(revert hN;revert N;apply Pn.out));refine wk @Nat.zero_add ?_;(repeat(refine Pn.mk ?_;intro N hN))))
 refine aM (fun n env st=>∃j:Nat,n=(l.length)-j/\j<=(l.length)/\env 5=.int .i64 (j:Int)/\env 1=.int .i64 (k+iK gE l j)/\(qg σ (o::is) st.get st.next/\∃pre rest ir,st.get o=some ⟨true,2,pre++rest⟩/\pre.length=j/\eI oG st.get rest (l.drop j) ir/\(o::ir).Nodup/\∀i∈ir,i∈is)) (l.length) ⟨0,by omega,by omega,sl (tw @Int.add_zero (tw @Int.natCast_zero @NI)),sl (tw @Int.add_zero (tw @Int.natCast_zero @NI)),by(try dsimp only);exact⟨⟨by(try dsimp only);omega,fun x _ _=>rfl⟩,[],rows,is,ho,rfl,hR,mh,fun _ h=>h⟩⟩ ?_
 rintro n_a env_a st_a ⟨j,rfl,ale,a5,a1,j8⟩ di
 have a0:=di 0 (by kernel_rfl)
 simp only[go_sem, ↓reduceIte,Nat.reduceEqDiff,Nat.reduceAdd,Nat.reduceSub,Nat.reduceLeDiff,reduceCtorEq,Int.add_zero,Int.natCast_zero,NI]at a0
 clear di
 obtain⟨⟨an,aF⟩,pre,rest,ir,ag,apl,aR,aN,aS⟩:=j8
 by_cases hj:(j:Int)<(l.length:Int)
 ·have cm:∀{e:Env} {gg:Rows} {nx:Nat},(e 5=.int .i64 (IntKind.i64.wrap ((j:Int)+1)))->(e 1=.int .i64 (k+iK gE l (j+1)))->(qg σ (o::is) gg nx/\∃pre rest ir,gg o=some ⟨true,2,pre++rest⟩/\pre.length=(j+1)/\eI oG gg rest (l.drop (j+1)) ir/\(o::ir).Nodup/\∀i∈ir,i∈is)->∃m0,m0<(l.length)-j/\∃j:Nat,m0=(l.length)-j/\j<=(l.length)/\e 5=.int .i64 (j:Int)/\e 1=.int .i64 (k+iK gE l j)/\(qg σ (o::is) gg nx/\∃pre rest ir,gg o=some ⟨true,2,pre++rest⟩/\pre.length=j/\eI oG gg rest (l.drop j) ir/\(o::ir).Nodup/\∀i∈ir,i∈is):=fun x1 x2 x3=>⟨_,by omega,j+1,rfl,by omega,(by rw[x1,ay (by omega)]),x2,x3⟩
  have iy:j<l.length:=by omega
  have Po:=xh gE iy
  have hle:=qt gE l (j+1)
  obtain⟨t,htj⟩:∃t,l[j]=t:=⟨_,rfl⟩
  rw[List.drop_eq_getElem_cons iy,htj]at aR
  rw[htj]at Po
  cases aR with
  | @cons cs _ ic rs _ i2 hT Rq=>
  obtain⟨i,rfl,hi,rfl⟩:=hT
  rw[List.singleton_append]at aN aS
  obtain⟨n1,n2⟩:=List.nodup_cons.1 aN
  obtain⟨n3,n4⟩:=List.nodup_cons.1 n2
  have QF:(o=i)=False:=eq_false fun e=>n1 (by simp[e])
  have Qx:(i=o)=False:=eq_false fun e=>n1 (by simp[e])
  have hiv:i.bj<σ.next:=hv i (by simp[aS i (by simp)])
  have C8:gE t=1+t.bq.length:=rfl
  have ht:=wz (k+(iK gE l j:Nat)) (by omega) (by omega)
  have o3:IntKind.i64.wrap (k+(iK gE l j:Nat)+1)=k+(iK gE l j:Nat)+1:=br (by omega)
  generalize o5 (k+(iK gE l j:Nat))=mt at ht
  have fa:(pre++[.str t.aG,.own i 0 t.bq.length]::rs)[j]? =some [.str t.aG,.own i 0 t.bq.length]:=by subst apl;simp
  have dW:(pre++[.str t.aG,.own i 0 t.bq.length]::rs).set j [.str mt,.own i 0 t.bq.length]=pre++[.str mt,.own i 0 t.bq.length]::rs:=by subst apl;simp
  have NA:(pre++[.str mt,.own i 0 t.bq.length]::rs)[j]? =some [.str mt,.own i 0 t.bq.length]:=by subst apl;simp
  (repeat(first|((repeat(revert hN;revert N;apply Pn.out));refine wk (tw @a5 (tw @a1 (tw @a0 (tw @hj (tw @ag (tw @fa (tw @dW (tw @NA (tw @o3 (tw @QF (tw @Qx @hi))))))))))) ?_;(repeat(refine Pn.mk ?_;intro N hN)))|((try apply Or.inl);refine⟨_,ar.x (ht) (sd (tw @a5 (tw @a1 (tw @a0 (tw @hj (tw @ag (tw @fa (tw @dW (tw @NA (tw @o3 (tw @QF (tw @Qx @hi)))))))))))),?_⟩;refine hN _ _ ?_;clear hN N)))
  refine .inr (aJ _ _ _ _ _ (fun r σ1 hq=>?_) (Ev i t.bq (k+(iK gE l j:Nat)+1) (by omega) (by omega) _ (by(try dsimp only);omega) (sd (tw @QF (tw @Qx @hi)))))
  obtain⟨g1,x1⟩:=σ1
  obtain⟨rfl,yH,uC⟩:=hq
  (try dsimp only at yH uC)
  refine hN _ _ ?_
  clear hN N
  have Ve:k+(iK gE l j:Nat)+1+t.bq.length=k+(iK gE l (j+1):Nat):=by omega
  (try((repeat(revert hN;revert N;apply Pn.out));refine wk (tw @a5 (tw @a1 (tw @a0 @Ve))) ?_;(repeat(refine Pn.mk ?_;intro N hN))))
  have gk:∀x:Id,x.bj<σ.next->x≠o->x≠i->g1 x=st_a.get x:=fun x hx h3 h4=>by
   have h2:=uC x (by(try dsimp only);omega) (by simp[h4])
   have h5:=eq_false h3
   simp only[go_sem, ↓reduceIte,Nat.reduceEqDiff,Nat.reduceAdd,Nat.reduceSub,Nat.reduceLeDiff,reduceCtorEq,h5]at h2
   exact h2
  have go:=uC o (by(try dsimp only);omega) (by simp only[List.mem_singleton];exact fun e=>n1 (by simp[e]))
  simp only[go_sem, ↓reduceIte,Nat.reduceEqDiff,Nat.reduceAdd,Nat.reduceSub,Nat.reduceLeDiff,reduceCtorEq]at go
  refine cm ?_ ?_ (by(try dsimp only);exact⟨⟨by(try dsimp only);omega,fun x hx hi=>by
   have h3:x≠o:=fun e=>hi (by simp[e])
   have h4:x≠i:=fun e=>hi (by simp[e,aS i (by simp)])
   rw[gk x hx h3 h4]
   exact aF x hx hi⟩,pre++[[.str mt,.own i 0 t.bq.length]],rs,i2,by rw[go];simp,by simp[apl],Rq.frame rm (fun x hx=>gk x (hv x (by simp[aS x (by simp[hx])])) (fun e=>n1 (by simp[<-e,hx])) (fun e=>n3 (by rw[<-e];exact hx))),List.nodup_cons.2 ⟨fun h=>n1 (by simp[h]),n4⟩,fun x hx=>aS x (by simp[hx])⟩)
  all_goals simp only[go_sem, ↓reduceIte,Nat.reduceEqDiff,Nat.reduceAdd,Nat.reduceSub,Nat.reduceLeDiff,reduceCtorEq,a5,a1,a0,Ve]
 ·have iy:j=l.length:=by omega
  subst iy
  have dE:=CK gE l
  rw[dE]at a1
  (try((repeat(revert hN;revert N;apply Pn.out));refine wk (tw @a5 (tw @a1 (tw @a0 @hj))) ?_;(repeat(refine Pn.mk ?_;intro N hN))))
  exact fq (.inl rfl) (vs:=[.int .i64 (k+(l.map gE).sum)]) (sd (tw @a5 (tw @a1 @a0))) ⟨rfl,⟨by(try dsimp only);omega,fun x hx hi=>aF x hx hi⟩⟩
theorem yR (v:AV) (p:ev) (ids:List Id) (k:Int) (h0:0<=k) (h1:k+3*p.ad.length<=4611686018427387904) (σ:ax) (hv:∀i∈ids,i.bj<σ.next) (hg:zh σ.get v p ids):
  Call Tryz.prog 25 [v,.int .i64 k] σ (fun r σ'=>r=.int .i64 (k+3*p.ad.length)/\qg σ ids σ'.get σ'.next):=by
 obtain⟨c,rfl,hc⟩:=hg
 obtain⟨o,rfl,ho,rfl⟩:=hc.flat
 refine eZ eG rfl fun hl=>?_
 clear hl
 have rX:=dB (hv o (by simp))
 have L1:=hv o (by simp)
 (try((repeat(revert hN;revert N;apply Pn.out));refine wk @Nat.zero_add ?_;(repeat(refine Pn.mk ?_;intro N hN))))
 refine .inr (aJ _ _ _ _ _ (fun r σ1 hq=>?_) (Ad o p.ad k h0 h1 _ (by(try dsimp only);omega) (sd (tw @rX @ho))))
 obtain⟨g1,x1⟩:=σ1
 obtain⟨rfl,⟨yH,uC⟩,_⟩:=hq
 (try dsimp only at yH uC)
 refine hN _ _ ?_
 clear hN N
 (try((repeat(revert hN;revert N;apply Pn.out));refine wk @Nat.zero_add ?_;(repeat(refine Pn.mk ?_;intro N hN))))
 exact fq (.inl rfl) (vs:=[.int .i64 (k+3*p.ad.length)]) (sd @Nat.zero_add) ⟨rfl,⟨by(try dsimp only);omega,fun x hx hi=>by
  have h2:=uC x (by(try dsimp only);omega) hi
  have h3:=dB hx
  simp only[go_sem, ↓reduceIte,Nat.reduceEqDiff,Nat.reduceAdd,Nat.reduceSub,Nat.reduceLeDiff,reduceCtorEq,h3]at h2
  exact h2⟩⟩
def Ab (s:aE):Nat:=2*s.aB.aA.length+(s.aB.ad.map gE).sum+3*s.cw.ad.length
theorem Hp (a b:AV) (p:au) (i1 i2:List Id) (k:Int) (h0:0<=k) (yE:p.ad.length<=1048576) (h1:k+2*p.aA.length+(p.ad.map gE).sum<=4611686018427387904) (σ:ax) (hv:∀i∈i1++i2,i.bj<σ.next) (mh:(i1++i2).Nodup)
  (hA:iE (lO bV) 2 σ.get a p.aA i1) (hB:iE oG 2 σ.get b p.ad i2):
  Call Tryz.prog 67 [.agg [a,b],.int .i64 k] σ (fun r σ'=>r=.int .i64 (k+2*p.aA.length+(p.ad.map gE).sum)/\qg σ (i1++i2) σ'.get σ'.next):=by
 obtain⟨_,n2,n3⟩:=List.nodup_append.1 mh
 obtain⟨o,rfl,ho,rfl⟩:=hA.flat
 obtain⟨ob,rfl⟩:=hB.k7
 refine eZ eG rfl fun hl=>?_
 clear hl
 have L1:=hv o (by simp)
 have rX:=dB L1
 (try((repeat(revert hN;revert N;apply Pn.out));refine wk @Nat.zero_add ?_;(repeat(refine Pn.mk ?_;intro N hN))))
 refine .inr (aJ _ _ _ _ _ (fun r σ1 hq=>?_) (Cn o p.aA k h0 (by omega) _ (by(try dsimp only);omega) (sd (tw @rX @ho))))
 obtain⟨g1,x1⟩:=σ1
 obtain⟨rfl,yH,uC⟩:=hq
 (try dsimp only at yH uC)
 refine hN _ _ ?_
 clear hN N
 have k1:=uC ⟨67000000,σ.next⟩ (by(try dsimp only);omega) (by simp only[List.mem_singleton];intro e;rw[<-e]at L1;(try dsimp only at L1);omega)
 simp only[go_sem, ↓reduceIte,Nat.reduceEqDiff,Nat.reduceAdd,Nat.reduceSub,Nat.reduceLeDiff,reduceCtorEq]at k1
 (try((repeat(revert hN;revert N;apply Pn.out));refine wk @k1 ?_;(repeat(refine Pn.mk ?_;intro N hN))))
 have hf:∀x:Id,x.bj<σ.next->x≠o->g1 x=σ.get x:=fun x hx ho=>by
  have h2:=uC x (by(try dsimp only);omega) (by simp[ho])
  have h3:=dB hx
  simp only[go_sem, ↓reduceIte,Nat.reduceEqDiff,Nat.reduceAdd,Nat.reduceSub,Nat.reduceLeDiff,reduceCtorEq,h3]at h2
  exact h2
 refine .inr (aJ _ _ _ _ _ (fun r σ2 hq=>?_) (Co _ p.ad i2 (k+2*p.aA.length) (by omega) yE h1 _ (fun i hi=>by have:=hv i (by simp[hi]);(try dsimp only);omega) n2 (hB.frame rm fun i hi=>hf i (hv i (by simp[hi])) fun e=>n3 o (by simp) i hi e.symm)))
 obtain⟨g2,x2⟩:=σ2
 obtain⟨rfl,L4,AW⟩:=hq
 (try dsimp only at L4 AW)
 refine hN _ _ ?_
 clear hN N
 (try((repeat(revert hN;revert N;apply Pn.out));refine wk @Nat.zero_add ?_;(repeat(refine Pn.mk ?_;intro N hN))))
 exact fq (.inl rfl) (vs:=[.int .i64 (k+2*p.aA.length+(p.ad.map gE).sum)]) (sd @Nat.zero_add) ⟨rfl,⟨by(try dsimp only);omega,fun x hx hi=>(AW x (by(try dsimp only);omega) fun h=>hi (by simp[h])).trans (hf x hx fun e=>hi (by simp[e]))⟩⟩
theorem Hq (v:AV) (p:aE) (ids:List Id) (k:Int) (h0:0<=k) (yE:p.aB.ad.length<=1048576) (h1:k+Ab p<=4611686018427387904) (σ:ax) (hv:∀i∈ids,i.bj<σ.next) (mh:ids.Nodup) (hg:Bc σ.get v p ids):
  Call Tryz.prog 23 [v,.int .i64 k] σ (fun r σ'=>r=.int .i64 (k+Ab p)/\qg σ ids σ'.get σ'.next):=by
 obtain⟨a,b,c,i1,i2,i3,rfl,hA,hB,hC,rfl⟩:=hg.ex
 rw[<-List.append_assoc]at mh
 obtain⟨n1,_,n3⟩:=List.nodup_append.1 mh
 obtain⟨oa,rfl⟩:=hA.k7
 obtain⟨ob,rfl⟩:=hB.k7
 obtain⟨oc,rfl⟩:=hC.k7
 have hm:(Ab p:Int)=2*p.aB.aA.length+(p.aB.ad.map gE).sum+3*p.cw.ad.length:=by simp[Ab]
 refine eZ eG rfl fun hl=>?_
 clear hl
 have Ui:∀x∈i1++(i2++i3),bR σ.get ⟨23000000,σ.next⟩ ⟨true,4,[[.own oa 0 p.aB.aA.length,.own ob 0 p.aB.ad.length,.own oc 0 p.cw.ad.length,.int .i64 p.az]]⟩ x=σ.get x:=fun x hx=>by
  have:=dB (hv x hx)
  simp only[go_sem, ↓reduceIte,Nat.reduceEqDiff,Nat.reduceAdd,Nat.reduceSub,Nat.reduceLeDiff,reduceCtorEq,this]
 (try((repeat(revert hN;revert N;apply Pn.out));refine wk @Nat.zero_add ?_;(repeat(refine Pn.mk ?_;intro N hN))))
 refine .inr (aJ _ _ _ _ _ (fun r σ1 hq=>?_) (Hp _ _ p.aB i1 i2 k h0 yE (by omega) _ (fun i hi=>by have:=hv i (by rcases List.mem_append.1 hi with h|h<;>simp[h]);(try dsimp only);omega) n1 (hA.frame BG fun i hi=>Ui i (by simp[hi])) (hB.frame rm fun i hi=>Ui i (by simp[hi]))))
 obtain⟨g1,x1⟩:=σ1
 obtain⟨rfl,yH,uC⟩:=hq
 (try dsimp only at yH uC)
 refine hN _ _ ?_
 clear hN N
 have k1:=uC ⟨23000000,σ.next⟩ (by(try dsimp only);omega) (fun h=>by
  have:=hv ⟨23000000,σ.next⟩ (by rcases List.mem_append.1 h with h|h<;>simp[h])
  (try dsimp only at this);omega)
 simp only[go_sem, ↓reduceIte,Nat.reduceEqDiff,Nat.reduceAdd,Nat.reduceSub,Nat.reduceLeDiff,reduceCtorEq]at k1
 (try((repeat(revert hN;revert N;apply Pn.out));refine wk @k1 ?_;(repeat(refine Pn.mk ?_;intro N hN))))
 refine .inr (aJ _ _ _ _ _ (fun r σ2 hq=>?_) (yR _ p.cw i3 (k+2*p.aB.aA.length+(p.aB.ad.map gE).sum) (by omega) (by omega) _ (fun i hi=>by have:=hv i (by simp[hi]);(try dsimp only);omega) ⟨_,rfl,hC.frame ym fun i hi=>?_⟩))
 rotate_left
 ·exact(uC i (by have:=hv i (by simp[hi]);(try dsimp only);omega) fun h=>n3 i h i hi rfl).trans (Ui i (by simp[hi]))
 obtain⟨g2,x2⟩:=σ2
 obtain⟨rfl,L4,AW⟩:=hq
 (try dsimp only at L4 AW)
 refine hN _ _ ?_
 clear hN N
 (try((repeat(revert hN;revert N;apply Pn.out));refine wk @Nat.zero_add ?_;(repeat(refine Pn.mk ?_;intro N hN))))
 exact fq (.inl rfl) (vs:=[.int .i64 (k+2*p.aB.aA.length+(p.aB.ad.map gE).sum+3*p.cw.ad.length)]) (sd @Nat.zero_add) ⟨by rw[hm];exact congrArg (AV.int .i64) (by omega),⟨by(try dsimp only);omega,fun x hx hi=>by
  have h2:=AW x (by(try dsimp only);omega) fun h=>hi (by simp[h])
  have h3:=uC x (by(try dsimp only);omega) fun h=>hi (by rcases List.mem_append.1 h with h|h<;>simp[h])
  have h4:=dB hx
  simp only[go_sem, ↓reduceIte,Nat.reduceEqDiff,Nat.reduceAdd,Nat.reduceSub,Nat.reduceLeDiff,reduceCtorEq,h4]at h3
  exact h2.trans h3⟩⟩
end Go.Proofs.YtgoljkjaameagaaGreat.V

namespace Go.Proofs.YtgoljkjaameagaaGreat.V
open Go.RowKit
def AV.clean:AV->Bool
 | .int .. | .bool _| .str _| .cu| .gO| .jb| .ji| .own .. | .ptr .. | .map .. | .rO _=>true
 | .sl l=>l.isEmpty
 |_=>false
def AV.zy:AV->Bool
 | .agg cs=>cs.all AV.clean
 | .iD cs=>cs.all fun a=>match a with
  | .agg cs=>cs.all AV.clean
  |a=>a.clean
 |a=>a.clean
def zd (ids:List Id) (g g':Rows):Rows:=fun id=>if id∈ids then g' id else g id
theorem sH {ids:List Id} {g g':Rows} {id:Id} (h:id∈ids):zd ids g g' id=g' id:=if_pos h
theorem pR {ids:List Id} {g g':Rows} {id:Id} (h:id∉ids):zd ids g g' id=g id:=if_neg h
section
variable {P:Program} {w w':World} {D D' D1 D2:Nat->Prop} {ι ι1 ι2:Names}
theorem jV {a:AV} {v:Value} (hp:a.clean=true) (h:dh P w D1 ι1 a v):dh P w D2 ι1 a v:=by
 cases h with
 |eS a v h=>
  cases h with
  |int=>exact .eS _ _ (.int _ _)
  |bool=>exact .eS _ _ (.bool _)
  |str=>exact .eS _ _ (.str _)
  |cu=>exact .eS _ _ .cu
  |gO=>exact .eS _ _ .gO
  |jb=>exact .eS _ _ .jb
  |ji=>exact .eS _ _ .ji
  |A6 a c h=>exact .eS _ _ (.A6 a c h)
  |sl rows b o n c sz vs h1 h2 h3=>
   have:rows=[]:=by simpa[AV.clean]using hp
   subst this
   simp only[List.length_nil]at h1
   subst h1
   exact .eS _ _ (.A6 _ _ h3)
  |dn=>simp[AV.clean]at hp
  |agg=>simp[AV.clean]at hp
  |fn=>simp[AV.clean]at hp
 |own id off len o cap B h1 h2 h3 h4 h5 h6=>exact .own id off len o cap B h1 h2 h3 h4 h5 h6
 |map id m B h1 h2=>exact .map id m B h1 h2
 |rO id c B h1 h2=>exact .rO id c B h1 h2
 |ptr id i off B h1 h2=>exact .ptr id i off B h1 h2
 |agg=>simp[AV.clean]at hp
 |iD=>simp[AV.clean]at hp
 |fn=>simp[AV.clean]at hp
 |ud=>simp[AV.clean]at hp
theorem l7 {cs:List AV} {v:Value} (hc:cs.all AV.clean=true) (h:dh P w D1 ι1 (.agg cs) v):dh P w D2 ι1 (.agg cs) v:=by
 obtain⟨vs,f,rfl,h1,h2,h3,h4⟩:=iA h
 rw[List.all_eq_true]at hc
 exact .agg cs vs f h1 h2 h3 fun j a ha=>jV (hc a (List.mem_of_getElem? ha)) (h4 j a ha)
theorem EG {a:AV} {v:Value} (hp:a.zy=true) (h:dh P w D1 ι1 a v):dh P w D2 ι1 a v:=by
 cases a with
 |agg cs=>exact l7 hp h
 |iD cs=>
  obtain⟨vs,f,rfl,h1,h3,h4⟩:=uW h
  simp only[AV.zy,List.all_eq_true]at hp
  refine .iD cs vs f h1 h3 fun j a ha=>?_
  have:=hp a (List.mem_of_getElem? ha)
  split at this
  ·exact l7 this (h4 j _ ha)
  ·exact jV this (h4 j _ ha)
 |_=>exact jV hp h
theorem ED {ag:Bool} {n:Nat} {cs:List AV} {x:AV} {v:Value} (hc:∀a∈cs,a.clean=true) (hp:part ag n cs=some x) (hr:dh P w D1 ι1 x v):dh P w D2 ι1 x v:=by
 unfold part at hp
 split at hp
 ·split at hp
  ·simp only[Option.some.injEq]at hp;subst hp
   exact l7 (List.all_eq_true.2 fun a ha=>hc a (List.mem_of_mem_take ha)) hr
  ·cases hp
 ·exact jV (hc x (List.mem_of_mem_head? hp)) hr
theorem ib.clean {B:sU} {r:Row} (R:ib P w D1 ι1 B r) (h:∀cs∈r.rows,∀a∈cs,a.clean=true):ib P w D2 ι1 B r:=
 ⟨R.sz,R.flat,fun hk=>⟨R.sz,(R.row hk).ye,(R.row hk).fits,(R.row hk).len,R.flat,fun i j cs a hi hj=>by
  obtain⟨v,q1,q2⟩:=(R.row hk).at_ i j cs a hi hj
  exact⟨v,q1,jV (h cs (List.mem_of_getElem? hi) a (List.mem_of_getElem? hj)) q2⟩⟩,fun m hm=>by
  obtain⟨h1,es,c,h2,h3,h5,h4⟩:=R.map m hm
  refine⟨h1,es,c,h2,h3,h5,fun i cs hi=>?_⟩
  obtain⟨e,kv,vv,q1,q2,q3,q4,q5⟩:=h4 i cs hi
  have hc:=h cs (List.mem_of_getElem? hi)
  exact⟨e,kv,vv,q1,q2,q3,ED hc q2 q4,jV (hc vv (List.mem_of_getElem? q3)) q5⟩,fun c hc=>by
  obtain⟨h1,buf,s,q,h2,h3,h4⟩:=R.chan c hc
  refine⟨h1,buf,s,q,h2,h3,fun i cs hi=>?_⟩
  obtain⟨a,u,rfl,q2,q3⟩:=h4 i cs hi
  exact⟨a,u,rfl,q2,jV (h [a] (List.mem_of_getElem? hi) a (by simp)) q3⟩⟩
def Handed (ids:List Id) (g:Rows):Prop:=∀id∈ids,∃r,g id=some r/\r.w=true/\∀cs∈r.rows,∀a∈cs,a.clean=true
theorem HZ {f:Nat} {args eF:List AV} {g:Rows} {n:Nat} {K:AV->ax->Prop} (hv:dd (dJ g) 6 args=some eF)
  (h:Sound P f eF ⟨fun _=>none,n⟩ fun r σ'=>∃ids,r.zy=true/\Handed ids σ'.get/\K r ⟨zd ids g σ'.get,σ'.next⟩):Sound P f args ⟨g,n⟩ K:=by
 intro hs D ι w vs S U A
 let E:Nat->Prop:=fun b=>D b∨∃id r B,g id=some r/\ι id=some B/\b=B.b
 have lt:∀id r B,g id=some r->ι id=some B->B.b<w.heap.size:=fun id r B h1 h2=>by
  obtain⟨B',dH,R,_⟩:=S.row id r h1
  rw[h2]at dH;injection dH with dH;subst dH
  exact R.lt
 have S0:gy P w.heap.size E ι (fun _=>none) w:=⟨Nat.le_refl _,fun b hb=>by
  rcases hb with hb|⟨id,r,B,h1,h2,rfl⟩
  ·exact S.dead b hb
  ·exact lt id r B h1 h2,fun id r h=>(by cases h),fun id k6 r r' B B' h=>(by cases h)⟩
 obtain⟨l1,l2⟩:=gC hv
 have A':fo P w E ι eF vs:=⟨by rw[A.1,l1],fun j a hj=>by
  obtain⟨a0,lE,hz⟩:=l2 j a hj
  obtain⟨u,hu,hr⟩:=A.2 j a0 lE
  refine⟨u,hu,(rU (D2:=E) (ι2:=ι) (fun b h=>.inl h) (fun id row hg hw=>?_) 6 a0 u a hr hz).1⟩
  unfold dJ at hg
  simp only[Option.map_eq_some_iff]at hg
  obtain⟨r,ot,rfl⟩:=hg
  obtain⟨B,hB,R,_,_⟩:=S.row id r ot
  exact⟨B,hB,R.flag true,.inr ⟨id,r,B,ot,hB,rfl⟩⟩⟩
 refine(h w.heap.size E ι w vs S0 U A').mono ?_
 rintro e w' ⟨r0,g',n',D2,ι1,u,rfl,⟨ids,og,hid,hK⟩,T,S1,U1,hn,hR⟩
 have hb:∀b,b<w.heap.size->w'.heap[b]? =w.heap[b]? :=T.below.block
 have hz:=T.below.size
 have frame:∀{a v},dh P w D ι a v->dh P w' D ι1 a v:=fun h=>h.frame (fun b hd=>hb b (S.dead b hd)) (fun _ h=>h) T.names
 refine⟨r0,_,n',D,ι1,u,rfl,hK,⟨T.below.mono S.lo,fun b hd=>hb b (S.dead b hd),fun _ h=>h,T.names,fun _ h=>.inl h⟩,⟨Nat.le_trans S.lo hz,fun b hd=>Nat.lt_of_lt_of_le (S.dead b hd) hz,fun id r hr=>?_,fun Sm id2 r1 r2 B1 B2 h1 h2 hw AR p7 Nx=>?_⟩,U1,hn,EG og hR⟩
 ·by_cases hi:id∈ids
  ·rw[sH hi]at hr
   obtain⟨r',ot,hw,hcr⟩:=hid id hi
   rw[hr]at ot;injection ot with ot;subst ot
   obtain⟨B,hB,R,k1,k2⟩:=S1.row id r hr
   have ke:=k1 hw
   exact⟨B,hB,R.clean hcr,fun _=>Nat.le_trans S.lo ke,fun _ hd=>Nat.lt_irrefl _ (Nat.lt_of_lt_of_le (S.dead _ hd) ke)⟩
  ·rw[pR hi]at hr
   obtain⟨B,hB,R,k1,k2⟩:=S.row id r hr
   have hBl:=lt id r B hr hB
   exact⟨B,T.names _ _ hB,R.frame (hb _ hBl) fun a v h=>frame h,k1,k2⟩
 ·have new:∀{id r B},id∈ids->zd ids g g' id=some r->ι1 id=some B->w.heap.size<=B.b/\g' id=some r/\r.w=true:=fun {id r B} hi hr hB=>by
   rw[sH hi]at hr
   obtain⟨r',ot,hw,_⟩:=hid id hi
   replace ot:g' id=some r':=ot
   rw[hr]at ot;injection ot with ot;subst ot
   obtain⟨B',dH,_,k1,_⟩:=S1.row id r hr
   rw[hB]at dH;injection dH with dH;subst dH
   exact⟨k1 hw,hr,hw⟩
  have Cz:∀{id r B},id∉ids->zd ids g g' id=some r->ι1 id=some B->B.b<w.heap.size/\g id=some r/\ι id=some B:=fun {id r B} hi hr hB=>by
   rw[pR hi]at hr
   obtain⟨B',dH,_⟩:=S.row id r hr
   have:=T.names _ _ dH
   rw[hB]at this;injection this with this;subst this
   exact⟨lt id r _ hr dH,hr,dH⟩
  by_cases i1:Sm∈ids
  ·obtain⟨a1,a2,a3⟩:=new i1 h1 AR
   by_cases i2:id2∈ids
   ·obtain⟨b1,b2,b3⟩:=new i2 h2 p7
    exact S1.inj Sm id2 r1 r2 B1 B2 a2 b2 hw AR p7 Nx
   ·obtain⟨b1,_⟩:=Cz i2 h2 p7
    omega
  ·obtain⟨a1,a2,a3⟩:=Cz i1 h1 AR
   by_cases i2:id2∈ids
   ·obtain⟨b1,_⟩:=new i2 h2 p7
    omega
   ·obtain⟨b1,b2,b3⟩:=Cz i2 h2 p7
    exact S.inj Sm id2 r1 r2 B1 B2 a2 b2 hw a3 b3 Nx
theorem A7 (hm:P.follows .mixedOrders=true) {f:Nat} {args eF:List AV} {σ:ax} {K:AV->ax->Prop} (hv:dd (dJ σ.get) 6 args=some eF)
  (h:Call P f eF ⟨fun _=>none,σ.next⟩ fun r σ'=>∃ids,r.zy=true/\Handed ids σ'.get/\K r ⟨zd ids σ.get σ'.get,σ'.next⟩):Call P f args σ K:=
 fP (HZ hv (iq hm h))
end
inductive oy:List AV->List AV->Prop
 |nil:oy [] []
 |same (a) {l l'}:oy l l'->oy (a::l) (a::l')
 |ptr (cs rest) {l l'}:oy l l'->oy (.dn (cs++rest)::l) (.dn cs::l')
 |cu {l l'}:oy l l'->oy (.cu::l) (.sl []::l')
theorem MS {P:Program} {w:World} {D:Nat->Prop} {ι:Names} {cs rest:List AV} {v:Value} (h:dh P w D ι (.dn (cs++rest)) v):dh P w D ι (.dn cs) v:=by
 obtain⟨b,o,vs,rfl,h1,h2,h3,h4⟩:=lp h
 exact .eS _ _ (.dn cs b o vs h1 (fun a ha=>h2 a (List.mem_append_left _ ha)) (fun j hj=>h3 j (by rw[List.length_append];omega)) fun j a ha=>h4 j a (by
  have:=(List.getElem?_eq_some_iff.1 ha).1
  rw[List.getElem?_append_left this];exact ha))
theorem MU {P:Program} {w:World} {D:Nat->Prop} {ι:Names} {v:Value} (h:dh P w D ι .cu v):dh P w D ι (.sl []) v:=by
 cases h with
 |eS _ _ h=>
  cases h with
  |cu=>exact .eS _ _ (.A6 none 0 (Nat.zero_le _))
theorem oy.len {l l':List AV} (h:oy l l'):l'.length=l.length:=by induction h<;>simp_all
theorem oy.get {P:Program} {w:World} {D:Nat->Prop} {ι:Names} {l l':List AV} (h:oy l l'):∀{j:Nat} {a':AV},l'[j]? =some a'->∃a,l[j]? =some a/\∀v,dh P w D ι a v->dh P w D ι a' v:=by
 induction h with
 |nil=>intro j a' hj;simp at hj
 |same a _ ih=>
  intro j a' hj
  cases j with
  |zero=>simp at hj;subst hj;exact⟨a,rfl,fun _ h=>h⟩
  |succ j=>exact ih (by simpa using hj)
 |ptr cs rest _ ih=>
  intro j a' hj
  cases j with
  |zero=>simp at hj;subst hj;exact⟨_,rfl,fun _ h=>MS h⟩
  |succ j=>exact ih (by simpa using hj)
 |cu _ ih=>
  intro j a' hj
  cases j with
  |zero=>simp at hj;subst hj;exact⟨_,rfl,fun _ h=>MU h⟩
  |succ j=>exact ih (by simpa using hj)
theorem Call.cut {P:Program} (hm:P.follows .mixedOrders=true) {f:Nat} {args eF:List AV} {σ:ax} {K:AV->ax->Prop} (hc:oy args eF) (h:Call P f eF σ K):Call P f args σ K:=
 fP fun hs D ι w vs S U A=>iq hm h hs D ι w vs S U ⟨by rw[A.1,hc.len],fun j a' hj=>by
  obtain⟨a,ha,hr⟩:=hc.get (P:=P) (w:=w) (D:=D) (ι:=ι) hj
  obtain⟨u,hu,hv⟩:=A.2 j a ha
  exact⟨u,hu,hr u hv⟩⟩
theorem ar.cut {P:Program} (hm:P.follows .mixedOrders=true) {f:Nat} {args eF:List AV} {r:AV} (hc:oy args eF) (h:ar P f eF r):ar P f args r:=fun n=>(h n).cut hm hc
theorem j7.cut {P:Program} (hm:P.follows .mixedOrders=true) {f:Nat} {args eF:List AV} {r:AV} (hc:oy args eF) (h:j7 P f eF r):j7 P f args r:=fun σ=>Call.cut hm hc (h σ)
end Go.Proofs.YtgoljkjaameagaaGreat.V

namespace Go.Proofs.YtgoljkjaameagaaGreat.V
open Go.RowKit
attribute [local irreducible] eu wpOps gq Call
attribute [local go_sem] aI fJ eP fZ fY dc upd cz K.av cJ AV.cells AV.cell rowOf rowsOf part ld rowAt bR cq dC ea gV bJ cZ eo fX eY dr ef cX cW dM dO bP aX cN bL cQ cP ec eh ee cL bU cY eb bK aO cU cG gU bp cI bQ aW dx bf dD AV.undef bD bF dR dY dI dP cH ek ew cF ej ei cR cV List.getD_cons_zero List.getD_cons_succ List.getD_nil List.all_cons List.all_nil Bool.and_true Bool.true_and Bool.and_self Bool.not_true Bool.not_false Option.map_some Option.map_none Option.bind_some Option.bind_none List.length_cons List.length_nil List.take_succ_cons List.take_zero List.take_nil List.drop_succ_cons List.drop_zero List.drop_nil List.head?_cons List.map_cons List.map_nil List.getElem?_cons_zero List.getElem?_cons_succ List.cons_append List.nil_append List.append_nil List.length_map List.set_cons_zero List.set_cons_succ eq_self Int.toNat_natCast Int.natCast_nonneg and_self true_and and_true decide_true decide_false Bool.false_eq_true Nat.zero_add Nat.add_zero List.contains_cons List.contains_nil Bool.or_false Bool.false_or beq_self_eq_true ne_eq not_true_eq_false not_false_eq_true Id.mk.injEq false_and and_false Nat.le_refl List.length_append beq_true beq_false Bool.not_eq_eq_eq_not or_false false_or dJ aj aq aH aZ bB ck aT bc aU aY cK bG
section
variable {P:Program} {α:Type} {e:α->List AV} {z:Nat} {g g':Rows} {v:AV} {L:List α} {ids:List Id}
def rC (e:α->List AV) (z:Nat) (g:Rows) (v:AV) (L:List α) (ids:List Id):Prop:=(L=[]/\v=.cu/\ids=[])∨∃o,v=.own o 0 L.length/\g o=some ⟨true,z,L.map e⟩/\ids=[o]/\0<L.length
def QT (e:α->List AV) (L:List α):AV:=if L.length=0 then .cu else .sl (L.map e)
theorem rC.frame (h:rC e z g v L ids) (hf:∀i∈ids,g' i=g i):rC e z g' v L ids:=by
 rcases h with h|⟨o,h1,h2,rfl,hp⟩
 ·exact .inl h
 ·exact .inr ⟨o,h1,(hf o (by simp)).trans h2,rfl,hp⟩
def jJ (e:α->List AV) (L:List α) (w:AV):Prop:=(w=.cu/\L=[])∨w=.sl (L.map e)
theorem rC.fz (h:rC e z g v L ids) (he:∀x g,dd g 5 (e x)=some (e x)):∃w,V.fz (dJ g) 6 v=some w/\jJ e L w:=by
 rcases h with⟨rfl,rfl,_⟩|⟨o,rfl,h2,_⟩
 ·exact⟨.cu,aT _ _,.inl ⟨rfl,rfl⟩⟩
 ·exact⟨_,fA (e:=e) (sz:=z) (by simp[dJ,h2]) rfl fun x=>he x _,.inr rfl⟩
def Iw (P:Program) (f:Nat) (args:List AV) (e:α->List AV) (z:Nat) (L:List α) (c:Int):Prop:=
 ∀n:Nat,Call P f args ⟨fun _=>none,n⟩ (fun r σ'=>∃v ids,r=.iD [v,.int .i64 c]/\rC e z σ'.get v L ids/\gr n σ'.next ids)
theorem xY (hm:P.follows .mixedOrders=true) {f:Nat} {args:List AV} {σ:ax} {K:AV->ax->Prop} (h:Call P f args σ K):Call P f args σ (fun r σ'=>K r σ'/\σ.next<=σ'.next):=
 fP fun hs D ι w vs S U A=>(iq hm h hs D ι w vs S U A).mono (by
  rintro e w' ⟨r,g',n',D2,ι1,u,rfl,hK,T,S1,U1,hn,hR⟩
  exact⟨r,g',n',D2,ι1,u,rfl,⟨hK,hn⟩,T,S1,U1,hn,hR⟩)
theorem Iw.s {f:Nat} {args:List AV} {c:Int} (he:∀x g,ez g 4 (e x)=some (e x)) (h:Iw P f args e z L c):ar P f args (.iD [QT e L,.int .i64 c]):=fun n=>
 aJ _ _ _ _ _ (fun r σ' hq=>by
  obtain⟨v,ids,rfl,ho,hi⟩:=hq
  rcases ho with⟨rfl,rfl,_⟩|⟨o,rfl,h2,_,hp⟩
  ·exact⟨_,by simp only[eX,bz,cD,kd,eC,Option.map_some];rfl,rfl⟩
  ·have:=fj (e:=e) (n:=4) h2 rfl fun x=>he x _
   exact⟨_,by simp only[eX,bz,cD,this,eC,Option.map_some];rfl,by rw[QT,if_neg (by omega)]⟩) (h n)
theorem Cy:jJ e L (QT e L):=by
 unfold QT
 split
 ·rename_i h;exact .inl ⟨rfl,List.eq_nil_of_length_eq_zero h⟩
 ·exact .inr rfl
end
theorem jJ.two {α:Type} {e:α->List AV} {L:List α} {w:AV} (h:jJ e L w):oy [w] [.sl (L.map e)]:=by
 rcases h with⟨rfl,rfl⟩|rfl
 ·exact .cu .nil
 ·exact .same _ .nil
theorem jJ.cut {α:Type} {e:α->List AV} {L:List α} {w:AV} (h:jJ e L w) {l l':List AV} (hl:oy l l'):oy (w::l) (.sl (L.map e)::l'):=by
 rcases h with⟨rfl,rfl⟩|rfl
 ·exact .cu hl
 ·exact .same _ hl
end Go.Proofs.YtgoljkjaameagaaGreat.V

namespace Go.Proofs.YtgoljkjaameagaaGreat.V
open Go.RowKit
attribute [local irreducible] eu wpOps gq Call
attribute [local go_sem] aI fJ eP fZ fY dc upd cz K.av cJ AV.cells AV.cell rowOf rowsOf part ld rowAt bR cq dC ea gV bJ cZ eo fX eY dr ef cX cW dM dO bP aX cN bL cQ cP ec eh ee cL bU cY eb bK aO cU cG gU bp cI bQ aW dx bf dD AV.undef bD bF dR dY dI dP cH ek ew cF ej ei cR cV List.getD_cons_zero List.getD_cons_succ List.getD_nil List.all_cons List.all_nil Bool.and_true Bool.true_and Bool.and_self Bool.not_true Bool.not_false Option.map_some Option.map_none Option.bind_some Option.bind_none List.length_cons List.length_nil List.take_succ_cons List.take_zero List.take_nil List.drop_succ_cons List.drop_zero List.drop_nil List.head?_cons List.map_cons List.map_nil List.getElem?_cons_zero List.getElem?_cons_succ List.cons_append List.nil_append List.append_nil List.length_map List.set_cons_zero List.set_cons_succ Nat.reduceMul eq_self Int.toNat_natCast Int.natCast_nonneg and_self true_and and_true decide_true decide_false Bool.false_eq_true Nat.zero_add Nat.add_zero List.contains_cons List.contains_nil Bool.or_false Bool.false_or beq_self_eq_true Nat.reduceBEq ne_eq not_true_eq_false not_false_eq_true Id.mk.injEq false_and and_false Nat.reduceLT Int.reduceLE Int.reduceLT Int.reduceToNat Int.reduceNeg Int.reduceAdd Nat.le_refl List.length_append beq_true beq_false Bool.not_eq_eq_eq_not or_false false_or dJ aj aq aH aZ bB ck aT bc aU aY cK bG
end Go.Proofs.YtgoljkjaameagaaGreat.V

namespace Go.Proofs.YtgoljkjaameagaaGreat.V
open Go.RowKit
variable {P:Program}
theorem Pw (hm:P.follows .mixedOrders=true) {f:Nat} {args:List AV} {vs:Array Value} {w:World} (h:ar P f args (.bool true)) (hA:fo P w (fun b=>b<w.heap.size) (fun _=>none) args vs):
  Calls P f vs w fun e w'=>e=.returned (.bool true)/\Below w.heap.size w w':=by
 have hs:=iq hm (h 0) w.heap.size (fun b=>b<w.heap.size) (fun _=>none) w vs ⟨Nat.le_refl _,fun _ h=>h,fun id r h=>(by cases h),fun id k6 r r' B B' h=>(by cases h)⟩ (fun id h=>absurd rfl h) hA
 refine hs.mono ?_
 rintro e w' ⟨r,g',n',D',ι',u,rfl,⟨r',hz,rfl⟩,dQ,hsim,_,_,ia⟩
 have hr:r=.bool true:=by
  cases r<;>rw[gx]at hz<;>simp_all
  all_goals (repeat' (split at hz))<;>simp_all
 subst hr
 exact⟨by rw[fb ia],dQ.below⟩
theorem ll {xs:List AV} {w:World} {D:Nat->Prop} {ι:Names} {a:AV} {v:Value} {vs:Array Value} (h:jH P w D a v) (k:fo P w D ι xs vs):fo P w D ι (a::xs) (#[v]++vs):=
 pf (xs:=[a]) ⟨rfl,fun j b hj=>by
  cases j with
  |zero=>simp at hj;subst hj;exact⟨v,rfl,.eS _ _ h⟩
  |succ j=>simp at hj⟩ k
end Go.Proofs.YtgoljkjaameagaaGreat.V

namespace Go.Proofs.YtgoljkjaameagaaGreat.V
open Go.RowKit
attribute [local irreducible] eu wpOps gq Call
attribute [local go_sem] aI fJ eP fZ fY dc upd cz K.av cJ AV.cells AV.cell rowOf rowsOf part ld rowAt bR cq dC ea gV bJ cZ eo fX eY dr ef cX cW dM dO bP aX cN bL cQ cP ec eh ee cL bU cY eb bK aO cU cG gU bp cI bQ aW dx bf dD AV.undef bD bF dR dY dI dP cH ek ew cF ej ei cR cV List.getD_cons_zero List.getD_cons_succ List.getD_nil List.all_cons List.all_nil Bool.and_true Bool.true_and Bool.and_self Bool.not_true Bool.not_false Option.map_some Option.map_none Option.bind_some Option.bind_none List.length_cons List.length_nil List.take_succ_cons List.take_zero List.take_nil List.drop_succ_cons List.drop_zero List.drop_nil List.head?_cons List.map_cons List.map_nil List.getElem?_cons_zero List.getElem?_cons_succ List.cons_append List.nil_append List.append_nil List.length_map List.set_cons_zero List.set_cons_succ Nat.reduceMul eq_self Int.toNat_natCast Int.natCast_nonneg and_self true_and and_true decide_true decide_false Bool.false_eq_true Nat.zero_add Nat.add_zero List.contains_cons List.contains_nil Bool.or_false Bool.false_or beq_self_eq_true Nat.reduceBEq ne_eq not_true_eq_false not_false_eq_true Id.mk.injEq false_and and_false Nat.reduceLT Int.reduceLE Int.reduceLT Int.reduceToNat Int.reduceNeg Int.reduceAdd Nat.le_refl List.length_append beq_true beq_false Bool.not_eq_eq_eq_not or_false false_or dJ aj aq aH aZ bB ck aT bc aU aY cK bG
theorem PO {α:Type} (f:α->Nat) {xs:List α} {x:α} (h:x∈xs):f x<=(xs.map f).sum:=by
 induction xs with
 |nil=>cases h
 |cons y ys ih=>
  simp only[List.map_cons,List.sum_cons]
  rcases List.mem_cons.1 h with rfl|h
  ·omega
  ·have:=ih h;omega
theorem HL {s:aE} (h:xq s<=1048576):rH s:=by
 unfold xq uG at h
 refine⟨⟨by omega,by omega,fun t ht=>?_⟩,by omega⟩
 have:=PO kG ht
 have h2:t.bq.length<=kG t:=by unfold kG;omega
 unfold sY
 omega
theorem zA (a:ev):ar Tryz.prog 22 [.agg (aP a),.agg (aP a)] (.bool true):=by
 refine ar.body eG rfl fun hl n0=>?_
 clear hl
 have h1:=tO a.ad a.ad
 rw[decide_eq_true rfl]at h1
 (repeat(first|((repeat(revert hN;revert N;apply Pn.out));refine wk @aP.eq_1 ?_;(repeat(refine Pn.mk ?_;intro N hN)))|((try apply Or.inl);refine⟨_,ar.x (h1) (sd @aP.eq_1),?_⟩;refine hN _ _ ?_;clear hN N)))
 exact aQ (b:=true) (.inl rfl) (sd @Nat.zero_add) rfl
end Go.Proofs.YtgoljkjaameagaaGreat.V

namespace Go.Proofs.YtgoljkjaameagaaGreat.V
open Go.RowKit
attribute [local irreducible] eu wpOps gq Call
attribute [local go_sem] aI fJ eP fZ fY dc upd cz K.av cJ AV.cells AV.cell rowOf rowsOf part ld rowAt bR cq dC ea gV bJ cZ eo fX eY dr ef cX cW dM dO bP aX cN bL cQ cP ec eh ee cL bU cY eb bK aO cU cG gU bp cI bQ aW dx bf dD AV.undef bD bF dR dY dI dP cH ek ew cF ej ei cR cV List.getD_cons_zero List.getD_cons_succ List.getD_nil List.all_cons List.all_nil Bool.and_true Bool.true_and Bool.and_self Bool.not_true Bool.not_false Option.map_some Option.map_none Option.bind_some Option.bind_none List.length_cons List.length_nil List.take_succ_cons List.take_zero List.take_nil List.drop_succ_cons List.drop_zero List.drop_nil List.head?_cons List.map_cons List.map_nil List.getElem?_cons_zero List.getElem?_cons_succ List.cons_append List.nil_append List.append_nil List.length_map List.set_cons_zero List.set_cons_succ eq_self Int.toNat_natCast Int.natCast_nonneg and_self true_and and_true decide_true decide_false Bool.false_eq_true Nat.zero_add Nat.add_zero List.contains_cons List.contains_nil Bool.or_false Bool.false_or beq_self_eq_true ne_eq not_true_eq_false not_false_eq_true Id.mk.injEq false_and and_false Nat.le_refl List.length_append beq_true beq_false Bool.not_eq_eq_eq_not or_false false_or dJ aj aq aH aZ bB ck aT bc aU aY cK bG
theorem M3 {g:Rows} {v w:AV} {s:aE} {i:List Id} (hX:Bc g v s i) (hw:fz (dJ g) 6 w=some w):dd (dJ g) 6 [v,w]=some [.agg (aD s),w]:=by
 simp only[aj,aq,hX.fz 1,hw,Option.map_some]
theorem Lp {g:Rows} {v w:AV} {s:ev} {i:List Id} (hX:zh g v s i) (hw:fz (dJ g) 6 w=some w):dd (dJ g) 6 [v,w]=some [.agg (aP s),w]:=by
 simp only[aj,aq,hX.fz 2,hw,Option.map_some]
theorem Fv (g:Rows) (s:aE):fz g 6 (.agg (aD s))=some (.agg (aD s)):=by simp[aD,bc,aj,aq,ck,aH]
theorem Fu (g:Rows) (s:ev):fz g 6 (.agg (aP s))=some (.agg (aP s)):=by simp[aP,bc,aj,aq,ck]
theorem tE {g:Rows} {v w v' w':AV} (h1:fz g 6 v=some v') (h2:fz g 6 w=some w'):dd g 6 [v,w]=some [v',w']:=by
 simp only[aj,aq,h1,h2,Option.map_some]
theorem Mv (s:aE):Ab s<=3*xq s:=by
 have h:∀l:List eW,(l.map gE).sum<=l.length+(l.map kG).sum:=fun l=>by
  induction l with
  |nil=>simp
  |cons t l ih=>simp only[List.map_cons,List.sum_cons,List.length_cons,gE,kG]at *;omega
 have:=h s.aB.ad
 unfold Ab xq uG
 omega
theorem gr.not {a b:Nat} {ids:List Id} (h:gr a b ids) {x:Id} (hx:x.bj<a∨b<=x.bj):x∉ids:=fun hc=>by
 have:=h.2 x hc;omega
theorem jJ.fz {α:Type} {e:α->List AV} {L:List α} {w:AV} (h:jJ e L w) (g:Rows):V.fz g 6 w=some w:=by
 rcases h with⟨rfl,rfl⟩|rfl
 ·exact aT _ _
 ·exact ck _ _ _
end Go.Proofs.YtgoljkjaameagaaGreat.V

namespace Go.Proofs.YtgoljkjaameagaaGreat.V
open Go.RowKit
attribute [local irreducible] eu wpOps gq Call
attribute [local go_sem] aI fJ eP fZ fY dc upd cz K.av cJ AV.cells AV.cell rowOf rowsOf part ld rowAt bR cq dC ea gV bJ cZ eo fX eY dr ef cX cW dM dO bP aX cN bL cQ cP ec eh ee cL bU cY eb bK aO cU cG gU bp cI bQ aW dx bf dD AV.undef bD bF dR dY dI dP cH ek ew cF ej ei cR cV List.getD_cons_zero List.getD_cons_succ List.getD_nil List.all_cons List.all_nil Bool.and_true Bool.true_and Bool.and_self Bool.not_true Bool.not_false Option.map_some Option.map_none Option.bind_some Option.bind_none List.length_cons List.length_nil List.take_succ_cons List.take_zero List.take_nil List.drop_succ_cons List.drop_zero List.drop_nil List.head?_cons List.map_cons List.map_nil List.getElem?_cons_zero List.getElem?_cons_succ List.cons_append List.nil_append List.append_nil List.length_map List.set_cons_zero List.set_cons_succ Nat.reduceMul eq_self Int.toNat_natCast Int.natCast_nonneg and_self true_and and_true decide_true decide_false Bool.false_eq_true Nat.zero_add Nat.add_zero List.contains_cons List.contains_nil Bool.or_false Bool.false_or beq_self_eq_true Nat.reduceBEq ne_eq not_true_eq_false not_false_eq_true Id.mk.injEq false_and and_false Nat.reduceLT Int.reduceLE Int.reduceLT Int.reduceToNat Int.reduceNeg Int.reduceAdd Nat.le_refl List.length_append beq_true beq_false Bool.not_eq_eq_eq_not or_false false_or dJ aj aq aH aZ bB ck aT bc aU aY cK bG
def gJ (n lo hi:Int):Bool:=decide (lo<=n)&&decide (n<=hi)
theorem dX {n lo hi:Int} (h:gJ n lo hi=true):lo<=n/\n<=hi:=by simpa[gJ]using h
theorem jr {n lo hi:Int} (h:lo<=n/\n<=hi):gJ n lo hi=true:=by simpa[gJ]using h
def Ao (p:ah):Bool:=gJ p.eR (-60) 60&&gJ p.eM (-60) 60
theorem kN (n lo hi:Int):ar Tryz.prog 95 [.int .i64 n,.int .i64 lo,.int .i64 hi] (.bool (gJ n lo hi)):=by
 refine ar.body eG rfl fun hl n0=>?_
 clear hl
 by_cases h1:lo<=n
 ·(try((repeat(revert hN;revert N;apply Pn.out));refine wk @h1 ?_;(repeat(refine Pn.mk ?_;intro N hN))))
  exact aQ (b:=decide (n<=hi)) (.inl rfl) (sd @Nat.zero_add) (by simp[gJ,h1])
 ·(try((repeat(revert hN;revert N;apply Pn.out));refine wk @h1 ?_;(repeat(refine Pn.mk ?_;intro N hN))))
  exact aQ (b:=false) (.inl rfl) (sd @Nat.zero_add) (by simp[gJ,h1])
theorem km (n lo hi:Int):ar Tryz.prog 98 [.int .i64 n,.int .i64 lo,.int .i64 hi] (.bool (gJ n lo hi)):=by
 refine ar.body eG rfl fun hl n0=>?_
 clear hl
 by_cases h1:lo<=n
 ·(try((repeat(revert hN;revert N;apply Pn.out));refine wk @h1 ?_;(repeat(refine Pn.mk ?_;intro N hN))))
  exact aQ (b:=decide (n<=hi)) (.inl rfl) (sd @Nat.zero_add) (by simp[gJ,h1])
 ·(try((repeat(revert hN;revert N;apply Pn.out));refine wk @h1 ?_;(repeat(refine Pn.mk ?_;intro N hN))))
  exact aQ (b:=false) (.inl rfl) (sd @Nat.zero_add) (by simp[gJ,h1])
theorem JN (d:Int):ar Tryz.prog 278 [.int .i64 d] (.bool (gJ d 0 3)):=by
 refine ar.body eG rfl fun hl n0=>?_
 clear hl
 have h:=kN d 0 3
 (repeat(first|((repeat(revert hN;revert N;apply Pn.out));refine wk @Nat.zero_add ?_;(repeat(refine Pn.mk ?_;intro N hN)))|((try apply Or.inl);refine⟨_,ar.x (h) (sd @Nat.zero_add),?_⟩;refine hN _ _ ?_;clear hN N)))
 exact aQ (b:=gJ d 0 3) (.inl rfl) (sd @Nat.zero_add) rfl
theorem wj (p:ah):ar Tryz.prog 222 [.agg (ab p)] (.bool (Ao p)):=by
 refine ar.body eG rfl fun hl n0=>?_
 clear hl
 have h1:=kN p.eR (-60) 60
 have h2:=kN p.eM (-60) 60
 by_cases q:gJ p.eR (-60) 60=true
 ·rw[q]at h1
  (repeat(first|((repeat(revert hN;revert N;apply Pn.out));refine wk @ab.eq_1 ?_;(repeat(refine Pn.mk ?_;intro N hN)))|((try apply Or.inl);refine⟨_,ar.x (h1) (sd @ab.eq_1),?_⟩;refine hN _ _ ?_;clear hN N)|((try apply Or.inl);refine⟨_,ar.x (h2) (sd @ab.eq_1),?_⟩;refine hN _ _ ?_;clear hN N)))
  exact aQ (b:=gJ p.eM (-60) 60) (.inl rfl) (sd @Nat.zero_add) (by rw[Ao,q];rfl)
 ·rw[Bool.not_eq_true]at q
  rw[q]at h1
  (repeat(first|((repeat(revert hN;revert N;apply Pn.out));refine wk @ab.eq_1 ?_;(repeat(refine Pn.mk ?_;intro N hN)))|((try apply Or.inl);refine⟨_,ar.x (h1) (sd @ab.eq_1),?_⟩;refine hN _ _ ?_;clear hN N)|((try apply Or.inl);refine⟨_,ar.x (h2) (sd @ab.eq_1),?_⟩;refine hN _ _ ?_;clear hN N)))
  exact aQ (b:=false) (.inl rfl) (sd @Nat.zero_add) (by rw[Ao,q];rfl)
theorem rI (p:ah):ar Tryz.prog 256 [.agg (ab p)] (.bool (Ao p)):=by
 refine ar.body eG rfl fun hl n0=>?_
 clear hl
 have h1:=km p.eR (-60) 60
 have h2:=km p.eM (-60) 60
 by_cases q:gJ p.eR (-60) 60=true
 ·rw[q]at h1
  (repeat(first|((repeat(revert hN;revert N;apply Pn.out));refine wk @ab.eq_1 ?_;(repeat(refine Pn.mk ?_;intro N hN)))|((try apply Or.inl);refine⟨_,ar.x (h1) (sd @ab.eq_1),?_⟩;refine hN _ _ ?_;clear hN N)|((try apply Or.inl);refine⟨_,ar.x (h2) (sd @ab.eq_1),?_⟩;refine hN _ _ ?_;clear hN N)))
  exact aQ (b:=gJ p.eM (-60) 60) (.inl rfl) (sd @Nat.zero_add) (by rw[Ao,q];rfl)
 ·rw[Bool.not_eq_true]at q
  rw[q]at h1
  (repeat(first|((repeat(revert hN;revert N;apply Pn.out));refine wk @ab.eq_1 ?_;(repeat(refine Pn.mk ?_;intro N hN)))|((try apply Or.inl);refine⟨_,ar.x (h1) (sd @ab.eq_1),?_⟩;refine hN _ _ ?_;clear hN N)|((try apply Or.inl);refine⟨_,ar.x (h2) (sd @ab.eq_1),?_⟩;refine hN _ _ ?_;clear hN N)))
  exact aQ (b:=false) (.inl rfl) (sd @Nat.zero_add) (by rw[Ao,q];rfl)
def kP (d:Int):Int:=if gJ d 0 3 then(d+2) % 4 else -1
def bd (p:ah) (d:Int):ah:=
 if d=0 then⟨p.eR,p.eM+1⟩else if d=1 then⟨p.eR+1,p.eM⟩else if d=2 then⟨p.eR,p.eM-1⟩else if d=3 then⟨p.eR-1,p.eM⟩else p
def iB (n:Int):Prop:=-4611686018427387904<=n/\n<=4611686018427387904
theorem tp (p:ah) (d:Int) (hd:gJ d 0 3=true) (hx:iB p.eR) (hy:iB p.eM):ar Tryz.prog 221 [.agg (ab p),.int .i64 d] (.agg (ab (bd p d))):=by
 refine ar.body eG rfl fun hl n0=>?_
 clear hl
 obtain⟨x1,x2⟩:=hx
 obtain⟨y1,y2⟩:=hy
 have w1:IntKind.i64.wrap (p.eR+1)=p.eR+1:=br (by omega)
 have w2:IntKind.i64.wrap (p.eR-1)=p.eR-1:=br (by omega)
 have w3:IntKind.i64.wrap (p.eM+1)=p.eM+1:=br (by omega)
 have w4:IntKind.i64.wrap (p.eM-1)=p.eM-1:=br (by omega)
 have hb:=dX hd
 have hc:d=0∨d=1∨d=2∨d=3:=by omega
 rcases hc with rfl|rfl|rfl|rfl
 ·(try((repeat(revert hN;revert N;apply Pn.out));refine wk (tw @ab.eq_1 @w3) ?_;(repeat(refine Pn.mk ?_;intro N hN))))
  exact pg (.inl rfl) (vs:=[.agg (ab (bd p 0))]) (by simp only[go_sem, ↓reduceIte,Nat.reduceEqDiff,Nat.reduceAdd,Nat.reduceSub,Nat.reduceLeDiff,reduceCtorEq,fy,iv,ab,bd]) (by simp[fm,ab,gx,ez])
 ·(try((repeat(revert hN;revert N;apply Pn.out));refine wk (tw @ab.eq_1 @w1) ?_;(repeat(refine Pn.mk ?_;intro N hN))))
  exact pg (.inl rfl) (vs:=[.agg (ab (bd p 1))]) (by simp[fy,iv,ab,bd,ld,rowAt,bR,upd,part]) (by simp[fm,ab,gx,ez])
 ·(try((repeat(revert hN;revert N;apply Pn.out));refine wk (tw @ab.eq_1 @w4) ?_;(repeat(refine Pn.mk ?_;intro N hN))))
  exact pg (.inl rfl) (vs:=[.agg (ab (bd p 2))]) (by simp[fy,iv,ab,bd,ld,rowAt,bR,upd,part]) (by simp[fm,ab,gx,ez])
 ·(try((repeat(revert hN;revert N;apply Pn.out));refine wk (tw @ab.eq_1 @w2) ?_;(repeat(refine Pn.mk ?_;intro N hN))))
  exact pg (.inl rfl) (vs:=[.agg (ab (bd p 3))]) (by simp[fy,iv,ab,bd,ld,rowAt,bR,upd,part]) (by simp[fm,ab,gx,ez])
theorem An (p p2:ah) (x y:Int) (hx:IntKind.i64.wrap (p.eR+p2.eR)=x) (hy:IntKind.i64.wrap (p.eM+p2.eM)=y):ar Tryz.prog 280 [.agg (ab p),.agg (ab p2)] (.agg [.int .i64 x,.int .i64 y]):=by
 refine ar.body eG rfl fun hl n0=>?_
 clear hl
 (try((repeat(revert hN;revert N;apply Pn.out));refine wk (tw @ab.eq_1 (tw @hx @hy)) ?_;(repeat(refine Pn.mk ?_;intro N hN))))
 exact pg (.inl rfl) (vs:=[.agg [.int .i64 x,.int .i64 y]]) (by simp only[go_sem, ↓reduceIte,Nat.reduceEqDiff,Nat.reduceAdd,Nat.reduceSub,Nat.reduceLeDiff,reduceCtorEq,fy,iv,ab]) (by simp[fm,gx,ez])
theorem ET (p:ah) (d:Int) (hd:gJ d 0 3=true) (hx:iB p.eR) (hy:iB p.eM):ar Tryz.prog 228 [.agg (ab p),.int .i64 d] (.agg (ab (bd p d))):=by
 refine ar.body eG rfl fun hl n0=>?_
 clear hl
 obtain⟨x1,x2⟩:=hx
 obtain⟨y1,y2⟩:=hy
 have hb:=dX hd
 have hc:d=0∨d=1∨d=2∨d=3:=by omega
 rcases hc with rfl|rfl|rfl|rfl
 ·have h:=An p ⟨0,1⟩ (p.eR) (p.eM+1) (by rw[br (by constructor<;>simp only<;>omega)]<;>(try simp only)<;>(try omega)) (by rw[br (by constructor<;>simp only<;>omega)]<;>(try simp only)<;>(try omega))
  simp only[ab]at h
  (repeat(first|((repeat(revert hN;revert N;apply Pn.out));refine wk @ab.eq_1 ?_;(repeat(refine Pn.mk ?_;intro N hN)))|((try apply Or.inl);refine⟨_,ar.x (h) (sd @ab.eq_1),?_⟩;refine hN _ _ ?_;clear hN N)))
  exact pg (.inl rfl) (vs:=[.agg (ab (bd p 0))]) (by simp[fy,iv,ab,bd,ld,rowAt,bR,upd,part]) (by simp[fm,ab,gx,ez])
 ·have h:=An p ⟨1,0⟩ (p.eR+1) (p.eM) (by rw[br (by constructor<;>simp only<;>omega)]<;>(try simp only)<;>(try omega)) (by rw[br (by constructor<;>simp only<;>omega)]<;>(try simp only)<;>(try omega))
  simp only[ab]at h
  (repeat(first|((repeat(revert hN;revert N;apply Pn.out));refine wk @ab.eq_1 ?_;(repeat(refine Pn.mk ?_;intro N hN)))|((try apply Or.inl);refine⟨_,ar.x (h) (sd @ab.eq_1),?_⟩;refine hN _ _ ?_;clear hN N)))
  exact pg (.inl rfl) (vs:=[.agg (ab (bd p 1))]) (by simp[fy,iv,ab,bd,ld,rowAt,bR,upd,part]) (by simp[fm,ab,gx,ez])
 ·have h:=An p ⟨0,(-1)⟩ (p.eR) (p.eM-1) (by rw[br (by constructor<;>simp only<;>omega)]<;>(try simp only)<;>(try omega)) (by rw[br (by constructor<;>simp only<;>omega)]<;>(try simp only)<;>(try omega))
  simp only[ab]at h
  (repeat(first|((repeat(revert hN;revert N;apply Pn.out));refine wk @ab.eq_1 ?_;(repeat(refine Pn.mk ?_;intro N hN)))|((try apply Or.inl);refine⟨_,ar.x (h) (sd @ab.eq_1),?_⟩;refine hN _ _ ?_;clear hN N)))
  exact pg (.inl rfl) (vs:=[.agg (ab (bd p 2))]) (by simp[fy,iv,ab,bd,ld,rowAt,bR,upd,part]) (by simp[fm,ab,gx,ez])
 ·have h:=An p ⟨(-1),0⟩ (p.eR-1) (p.eM) (by rw[br (by constructor<;>simp only<;>omega)]<;>(try simp only)<;>(try omega)) (by rw[br (by constructor<;>simp only<;>omega)]<;>(try simp only)<;>(try omega))
  simp only[ab]at h
  (repeat(first|((repeat(revert hN;revert N;apply Pn.out));refine wk @ab.eq_1 ?_;(repeat(refine Pn.mk ?_;intro N hN)))|((try apply Or.inl);refine⟨_,ar.x (h) (sd @ab.eq_1),?_⟩;refine hN _ _ ?_;clear hN N)))
  exact pg (.inl rfl) (vs:=[.agg (ab (bd p 3))]) (by simp[fy,iv,ab,bd,ld,rowAt,bR,upd,part]) (by simp[fm,ab,gx,ez])
theorem EA (d:Int) (hd:gJ d 0 3=true):ar Tryz.prog 304 [.int .i64 d] (.int .i64 (kP d)):=by
 refine ar.body eG rfl fun hl n0=>?_
 clear hl
 have hb:=dX hd
 have hw:IntKind.i64.wrap (d+2)=d+2:=br (by omega)
 have ht:Int.tmod (d+2) 4=(d+2) % 4:=Int.tmod_eq_emod_of_nonneg (by omega)
 have h4:¬((4:Int)=0):=by omega
 (try((repeat(revert hN;revert N;apply Pn.out));refine wk (tw @hw (tw @ht @h4)) ?_;(repeat(refine Pn.mk ?_;intro N hN))))
 exact cr (b:=(d+2) % 4) (.inl rfl) (sd @Nat.zero_add) (by rw[kP,if_pos hd])
theorem vp (d:Int) (hd:gJ d 0 3=true):ar Tryz.prog 224 [.int .i64 d] (.int .i64 (kP d)):=by
 refine ar.body eG rfl fun hl n0=>?_
 clear hl
 have hb:=dX hd
 have hw:IntKind.i64.wrap (d+2)=d+2:=br (by omega)
 have ht:Int.tmod (d+2) 4=(d+2) % 4:=Int.tmod_eq_emod_of_nonneg (by omega)
 have h4:¬((4:Int)=0):=by omega
 have h:=JN d
 rw[hd]at h
 (repeat(first|((repeat(revert hN;revert N;apply Pn.out));refine wk (tw @hw (tw @ht @h4)) ?_;(repeat(refine Pn.mk ?_;intro N hN)))|((try apply Or.inl);refine⟨_,ar.x (h) (sd (tw @hw (tw @ht @h4))),?_⟩;refine hN _ _ ?_;clear hN N)))
 exact cr (b:=(d+2) % 4) (.inl rfl) (sd @Nat.zero_add) (by rw[kP,if_pos hd])
def eV (s:au) (t:Int):Bool:=gJ t 0 ((s.ad.length:Int)-1)
theorem Ek (s:au) (t:Int):ar Tryz.prog 220 [.dn (aa s),.int .i64 t] (.bool (eV s t)):=by
 refine ar.body eG rfl fun hl n0=>?_
 have hn:s.ad.length<=9223372036854775807:=by
  have h1:=(hl (.dn (aa s)) (by simp)).Cf (a:=.sl (s.ad.map bm)) (by simp[aa])
  simpa using h1.len
 clear hl
 have hw:IntKind.i64.wrap ((s.ad.length:Int)-1)=(s.ad.length:Int)-1:=br (by omega)
 have h:=kN t 0 ((s.ad.length:Int)-1)
 (repeat(first|((repeat(revert hN;revert N;apply Pn.out));refine wk (tw @aa.eq_1 @hw) ?_;(repeat(refine Pn.mk ?_;intro N hN)))|((try apply Or.inl);refine⟨_,ar.x (h) (sd (tw @aa.eq_1 @hw)),?_⟩;refine hN _ _ ?_;clear hN N)))
 exact aQ (b:=eV s t) (.inl rfl) (by simp only[go_sem, ↓reduceIte,Nat.reduceEqDiff,Nat.reduceAdd,Nat.reduceSub,Nat.reduceLeDiff,reduceCtorEq,eV]) rfl
theorem yM (t n:Int) (h0:0<=n) (h1:n<=9223372036854775807):ar Tryz.prog 257 [.int .i64 t,.int .i64 n] (.bool (gJ t 0 (n-1))):=by
 refine ar.body eG rfl fun hl n0=>?_
 clear hl
 have hw:IntKind.i64.wrap (n-1)=n-1:=br (by omega)
 have h:=km t 0 (n-1)
 (repeat(first|((repeat(revert hN;revert N;apply Pn.out));refine wk @hw ?_;(repeat(refine Pn.mk ?_;intro N hN)))|((try apply Or.inl);refine⟨_,ar.x (h) (sd @hw),?_⟩;refine hN _ _ ?_;clear hN N)))
 exact aQ (b:=gJ t 0 (n-1)) (.inl rfl) (sd @Nat.zero_add) rfl
theorem JK (s:au) (t:Int):ar Tryz.prog 203 [.agg (aa s),.int .i64 t] (.bool (eV s t)):=by
 refine ar.body eG rfl fun hl n0=>?_
 have hn:s.ad.length<=9223372036854775807:=by
  have h1:=(hl (.agg (aa s)) (by simp)).N8 (a:=.sl (s.ad.map bm)) (by simp[aa])
  simpa using h1.len
 clear hl
 have h:=yM t s.ad.length (by omega) (by omega)
 (repeat(first|((repeat(revert hN;revert N;apply Pn.out));refine wk @aa.eq_1 ?_;(repeat(refine Pn.mk ?_;intro N hN)))|((try apply Or.inl);refine⟨_,ar.x (h) (sd @aa.eq_1),?_⟩;refine hN _ _ ?_;clear hN N)))
 exact aQ (b:=eV s t) (.inl rfl) (by simp only[go_sem, ↓reduceIte,Nat.reduceEqDiff,Nat.reduceAdd,Nat.reduceSub,Nat.reduceLeDiff,reduceCtorEq,eV]) rfl
def Ak:eW:=⟨⟨#[]⟩,[]⟩
def dm (s:au) (t:Int):eW:=s.ad.getD t.toNat Ak
def dj (t:eW) (d:Int):Int:=t.bq.getD d.toNat 0
def qL (s:au) (g:Int):fF:=s.aA.getD g.toNat ⟨⟨#[]⟩,0⟩
def qf (s:au) (g:Int):Int:=if g=0 then 0 else(qL s (g-1)).eD
def gS (s:au) (a d b:Int):Int:=if dj (dm s a) d=dj (dm s b) (kP d)then qf s (dj (dm s a) d)else 0
structure jd (s:au):Prop where
 qq:∀t∈s.ad,t.bq.length=4
 tV:∀t∈s.ad,∀g∈t.bq,0<=g/\g<=s.aA.length
theorem getD_map {α β:Type} (e:α->β) {l:List α} {k:Nat} {d:α} (h:k<l.length):(l.map e)[k]? =some (e (l.getD k d)):=by simp[List.getD_eq_getElem?_getD,h]
theorem qn (s:au) (g:Int) (h0:0<=g) (h1:g<=s.aA.length):ar Tryz.prog 225 [.dn (aa s),.int .i64 g] (.int .i64 (qf s g)):=by
 refine ar.body eG rfl fun hl n0=>?_
 have hn:s.aA.length<=9223372036854775807:=by
  have h1:=(hl (.dn (aa s)) (by simp)).Cf (a:=.sl (s.aA.map bV)) (by simp[aa])
  simpa using h1.len
 clear hl
 by_cases hg:g=0
 ·have e:decide (g=0)=true:=decide_eq_true hg
  (try((repeat(revert hN;revert N;apply Pn.out));refine wk (tw @aa.eq_1 @e) ?_;(repeat(refine Pn.mk ?_;intro N hN))))
  exact cr (b:=0) (.inl rfl) (sd @Nat.zero_add) (by rw[qf,if_pos hg])
 ·have e:decide (g=0)=false:=decide_eq_false hg
  have hw:IntKind.i64.wrap (g-1)=g-1:=br (by omega)
  have qO:0<=g-1:=by omega
  have fa:(s.aA.map bV)[(g-1).toNat]? =some (bV (qL s (g-1))):=getD_map bV (by omega)
  (try((repeat(revert hN;revert N;apply Pn.out));refine wk (tw @aa.eq_1 (tw @e (tw @hw (tw @qO (tw @fa @bV.eq_1))))) ?_;(repeat(refine Pn.mk ?_;intro N hN))))
  exact cr (b:=(qL s (g-1)).eD) (.inl rfl) (sd @Nat.zero_add) (by rw[qf,if_neg hg])
theorem kj {s:au} {a:Int} (h:eV s a=true):0<=a/\(s.ad.map bm)[a.toNat]? =some (bm (dm s a))/\dm s a∈s.ad:=by
 have h':=dX h
 have dV:a.toNat<s.ad.length:=by omega
 refine⟨h'.1,getD_map bm dV,?_⟩
 unfold dm
 rw[List.getD_eq_getElem?_getD,List.getElem?_eq_getElem dV]
 exact List.getElem_mem dV
theorem lx {t:eW} {d:Int} (h:t.bq.length=4) (hd:gJ d 0 3=true):(t.bq.map aw)[d.toNat]? =some [.int .i64 (dj t d)]:=by
 have:=dX hd
 exact getD_map aw (by omega)
theorem xe {t:eW} {d:Int} (h:t.bq.length=4) (hd:gJ d 0 3=true):dj t d∈t.bq:=by
 have:=dX hd
 have dV:d.toNat<t.bq.length:=by omega
 unfold dj
 rw[List.getD_eq_getElem?_getD,List.getElem?_eq_getElem dV]
 exact List.getElem_mem dV
theorem rf {d:Int} (hd:gJ d 0 3=true):gJ (kP d) 0 3=true:=by
 have:=dX hd
 refine jr ?_
 rw[kP,if_pos hd];omega
theorem Hd (s:au) (hF:jd s) (a d b:Int) (ha:eV s a=true) (hb:eV s b=true) (hd:gJ d 0 3=true):ar Tryz.prog 190 [.dn (aa s),.int .i64 a,.int .i64 d,.int .i64 b] (.int .i64 (gS s a d b)):=by
 refine ar.body eG rfl fun hl n0=>?_
 clear hl
 obtain⟨a0,a1,a2⟩:=kj ha
 obtain⟨b0,b1,b2⟩:=kj hb
 have s1:=lx (hF.qq _ a2) hd
 have s2:=lx (hF.qq _ b2) (rf hd)
 have gl:=hF.tV _ a2 _ (xe (hF.qq _ a2) hd)
 have d0:=(dX hd).1
 have d1:=(dX (rf hd)).1
 have h:=vp d hd
 have hs:=qn s (dj (dm s a) d) gl.1 gl.2
 rw[aa]at hs
 by_cases e:dj (dm s a) d=dj (dm s b) (kP d)
 ·have e':decide (dj (dm s a) d=dj (dm s b) (kP d))=true:=decide_eq_true e
  (repeat(first|((repeat(revert hN;revert N;apply Pn.out));refine wk (tw @aa.eq_1 (tw @bm.eq_1 (tw @a0 (tw @a1 (tw @b0 (tw @b1 (tw @s1 (tw @s2 (tw @d0 (tw @d1 @e')))))))))) ?_;(repeat(refine Pn.mk ?_;intro N hN)))|((try apply Or.inl);refine⟨_,ar.x (h) (sd (tw @aa.eq_1 (tw @bm.eq_1 (tw @a0 (tw @a1 (tw @b0 (tw @b1 (tw @s1 (tw @s2 (tw @d0 (tw @d1 @e'))))))))))),?_⟩;refine hN _ _ ?_;clear hN N)|((try apply Or.inl);refine⟨_,ar.x (hs) (sd (tw @aa.eq_1 (tw @bm.eq_1 (tw @a0 (tw @a1 (tw @b0 (tw @b1 (tw @s1 (tw @s2 (tw @d0 (tw @d1 @e'))))))))))),?_⟩;refine hN _ _ ?_;clear hN N)))
  exact cr (b:=qf s (dj (dm s a) d)) (.inl rfl) (sd @Nat.zero_add) (by rw[gS,if_pos e])
 ·have e':decide (dj (dm s a) d=dj (dm s b) (kP d))=false:=decide_eq_false e
  (repeat(first|((repeat(revert hN;revert N;apply Pn.out));refine wk (tw @aa.eq_1 (tw @bm.eq_1 (tw @a0 (tw @a1 (tw @b0 (tw @b1 (tw @s1 (tw @s2 (tw @d0 (tw @d1 @e')))))))))) ?_;(repeat(refine Pn.mk ?_;intro N hN)))|((try apply Or.inl);refine⟨_,ar.x (h) (sd (tw @aa.eq_1 (tw @bm.eq_1 (tw @a0 (tw @a1 (tw @b0 (tw @b1 (tw @s1 (tw @s2 (tw @d0 (tw @d1 @e'))))))))))),?_⟩;refine hN _ _ ?_;clear hN N)))
  exact cr (b:=0) (.inl rfl) (sd @Nat.zero_add) (by rw[gS,if_neg e])
theorem EW (s:au) (hF:jd s) (a d:Int) (ha:eV s a=true) (hd:gJ d 0 3=true):ar Tryz.prog 305 [.agg (aa s),.int .i64 a,.int .i64 d] (.int .i64 (qf s (dj (dm s a) d))):=by
 refine ar.body eG rfl fun hl n0=>?_
 have hn:s.aA.length<=9223372036854775807:=by
  have h1:=(hl (.agg (aa s)) (by simp)).N8 (a:=.sl (s.aA.map bV)) (by simp[aa])
  simpa using h1.len
 clear hl
 obtain⟨a0,a1,a2⟩:=kj ha
 have s1:=lx (hF.qq _ a2) hd
 have gl:=hF.tV _ a2 _ (xe (hF.qq _ a2) hd)
 have d0:=(dX hd).1
 by_cases hg:dj (dm s a) d=0
 ·have e:¬(0<dj (dm s a) d):=by omega
  (try((repeat(revert hN;revert N;apply Pn.out));refine wk (tw @aa.eq_1 (tw @bm.eq_1 (tw @a0 (tw @a1 (tw @s1 (tw @d0 @e)))))) ?_;(repeat(refine Pn.mk ?_;intro N hN))))
  exact cr (b:=0) (.inl rfl) (sd @Nat.zero_add) (by rw[qf,if_pos hg])
 ·have e:0<dj (dm s a) d:=by omega
  have hw:IntKind.i64.wrap (dj (dm s a) d-1)=dj (dm s a) d-1:=br (by omega)
  have qO:0<=dj (dm s a) d-1:=by omega
  have fa:(s.aA.map bV)[(dj (dm s a) d-1).toNat]? =some (bV (qL s (dj (dm s a) d-1))):=getD_map bV (by omega)
  (try((repeat(revert hN;revert N;apply Pn.out));refine wk (tw @aa.eq_1 (tw @bm.eq_1 (tw @a0 (tw @a1 (tw @s1 (tw @d0 (tw @e (tw @hw (tw @qO (tw @fa @bV.eq_1)))))))))) ?_;(repeat(refine Pn.mk ?_;intro N hN))))
  exact cr (b:=(qL s (dj (dm s a) d-1)).eD) (.inl rfl) (sd @Nat.zero_add) (by rw[qf,if_neg hg])
theorem IQ (s:au) (hF:jd s) (a d b:Int) (ha:eV s a=true) (hb:eV s b=true) (hd:gJ d 0 3=true):ar Tryz.prog 261 [.agg (aa s),.int .i64 a,.int .i64 d,.int .i64 b] (.int .i64 (gS s a d b)):=by
 refine ar.body eG rfl fun hl n0=>?_
 clear hl
 obtain⟨a0,a1,a2⟩:=kj ha
 obtain⟨b0,b1,b2⟩:=kj hb
 have s1:=lx (hF.qq _ a2) hd
 have s2:=lx (hF.qq _ b2) (rf hd)
 have d0:=(dX hd).1
 have d1:=(dX (rf hd)).1
 have h:=EA d hd
 have hs:=EW s hF a d ha hd
 rw[aa]at hs
 by_cases e:dj (dm s a) d=dj (dm s b) (kP d)
 ·have e':decide (dj (dm s a) d=dj (dm s b) (kP d))=true:=decide_eq_true e
  (repeat(first|((repeat(revert hN;revert N;apply Pn.out));refine wk (tw @aa.eq_1 (tw @bm.eq_1 (tw @a0 (tw @a1 (tw @b0 (tw @b1 (tw @s1 (tw @s2 (tw @d0 (tw @d1 @e')))))))))) ?_;(repeat(refine Pn.mk ?_;intro N hN)))|((try apply Or.inl);refine⟨_,ar.x (h) (sd (tw @aa.eq_1 (tw @bm.eq_1 (tw @a0 (tw @a1 (tw @b0 (tw @b1 (tw @s1 (tw @s2 (tw @d0 (tw @d1 @e'))))))))))),?_⟩;refine hN _ _ ?_;clear hN N)|((try apply Or.inl);refine⟨_,ar.x (hs) (sd (tw @aa.eq_1 (tw @bm.eq_1 (tw @a0 (tw @a1 (tw @b0 (tw @b1 (tw @s1 (tw @s2 (tw @d0 (tw @d1 @e'))))))))))),?_⟩;refine hN _ _ ?_;clear hN N)))
  exact cr (b:=qf s (dj (dm s a) d)) (.inl rfl) (sd @Nat.zero_add) (by rw[gS,if_pos e])
 ·have e':decide (dj (dm s a) d=dj (dm s b) (kP d))=false:=decide_eq_false e
  (repeat(first|((repeat(revert hN;revert N;apply Pn.out));refine wk (tw @aa.eq_1 (tw @bm.eq_1 (tw @a0 (tw @a1 (tw @b0 (tw @b1 (tw @s1 (tw @s2 (tw @d0 (tw @d1 @e')))))))))) ?_;(repeat(refine Pn.mk ?_;intro N hN)))|((try apply Or.inl);refine⟨_,ar.x (h) (sd (tw @aa.eq_1 (tw @bm.eq_1 (tw @a0 (tw @a1 (tw @b0 (tw @b1 (tw @s1 (tw @s2 (tw @d0 (tw @d1 @e'))))))))))),?_⟩;refine hN _ _ ?_;clear hN N)))
  exact cr (b:=0) (.inl rfl) (sd @Nat.zero_add) (by rw[gS,if_neg e])
def p4 (s:au) (i:Nat):fF:=s.aA.getD i ⟨⟨#[]⟩,0⟩
def pk (s:au) (i:Nat):eW:=s.ad.getD i Ak
def Dg (s:au) (i:Nat):Prop:=jO (p4 s i).aG=true/\gJ (p4 s i).eD 1 4=true/\∀j,j<i->(p4 s j).aG≠(p4 s i).aG
def Bd (s:au) (i:Nat):Prop:=jO (pk s i).aG=true/\(pk s i).bq.length=4/\(∀j,j<i->(pk s j).aG≠(pk s i).aG)/\∀g∈(pk s i).bq,gJ g 0 s.aA.length=true
structure ik (s:au):Prop where
 tV:s.aA.length<=200
 some:1<=s.ad.length
 xl:s.ad.length<=160
 S6:∀i,i<s.aA.length->Dg s i
 tok:∀i,i<s.ad.length->Bd s i
noncomputable def oq (s:au):Bool:=@decide (ik s) (Classical.propDecidable _)
theorem lv {s:au}:oq s=true↔ik s:=by simp[oq]
theorem fI {s:au} (h:¬ik s):false=oq s:=by simp[oq,h]
theorem CI {s:au} (h:ik s):true=oq s:=by simp[oq,h]
theorem AE {s:au} {i:Nat} (h:i<s.ad.length):(s.ad.map bm)[i]? =some (bm (pk s i)):=getD_map bm h
theorem zG {s:au} {i:Nat} (h:i<s.aA.length):(s.aA.map bV)[i]? =some (bV (p4 s i)):=getD_map bV h
theorem ik.form {s:au} (h:ik s):jd s:=by
 have key:∀t∈s.ad,∃i,i<s.ad.length/\t=pk s i:=fun t ht=>by
  obtain⟨i,hi,rfl⟩:=List.getElem_of_mem ht
  exact⟨i,hi,by simp[pk,List.getD_eq_getElem?_getD,hi]⟩
 refine⟨fun t ht=>?_,fun t ht g hg=>?_⟩
 ·obtain⟨i,hi,rfl⟩:=key t ht
  exact(h.tok i hi).2.1
 ·obtain⟨i,hi,rfl⟩:=key t ht
  exact dX ((h.tok i hi).2.2.2 g hg)
def dz (l:List ByteArray):List (List AV):=l.map fun n=>[.str n,.bool true]
abbrev mS:MK:=⟨false,[.tS]⟩
theorem y9 (n:ByteArray):∀(l:List ByteArray) (i:Nat),∃r,gh mS [.str n] (dz l) i=some r/\((r=none/\n∉l)∨∃j,r=some (i+j)/\n∈l/\(dz l)[j]? =some [.str n,.bool true])
 |[],i=>⟨none,rfl,.inl ⟨rfl,by simp⟩⟩
 |m::l,i=>by
  obtain⟨r,h1,h2⟩:=y9 n l (i+1)
  by_cases h:n=m
  ·subst h
   exact⟨some i,by simp[dz,gh,eY,fX,MK.ks],.inr ⟨0,rfl,by simp,rfl⟩⟩
  ·refine⟨r,?_,?_⟩
   ·unfold dz at h1 ⊢
    simp only[List.map_cons,gh,MK.ks,List.length_cons,List.length_nil,Nat.zero_add,List.take_succ_cons,List.take_zero,eY,fX,h,decide_false,Bool.and_true]
    exact h1
   ·rcases h2 with⟨rfl,h2⟩|⟨j,rfl,h2,h3⟩
    ·exact .inl ⟨rfl,by simp[h,h2]⟩
    ·exact .inr ⟨j+1,by congr 1;omega,by simp[h2],by simpa[dz]using h3⟩
theorem xc (n:ByteArray) (l:List ByteArray):(n∉l/\fS mS (.str n) (dz l)=some none)∨∃j,n∈l/\fS mS (.str n) (dz l)=some (some j)/\(dz l)[j]? =some [.str n,.bool true]:=by
 obtain⟨r,h1,h2⟩:=y9 n l 0
 have e:fS mS (.str n) (dz l)=some r:=by
  unfold fS
  rw[if_pos ⟨rfl,rfl,rfl⟩];exact h1
 rcases h2 with⟨rfl,h2⟩|⟨j,rfl,h2,h3⟩
 ·exact .inl ⟨h2,e⟩
 ·exact .inr ⟨j,h2,by rw[e,Nat.zero_add],h3⟩
theorem PM (s:au) (g:Int):ar Tryz.prog 255 [.int .i64 g,.dn (aa s)] (.bool (!gJ g 0 s.aA.length)):=by
 refine ar.body eG rfl fun hl n0=>?_
 clear hl
 have h:=km g 0 s.aA.length
 (repeat(first|((repeat(revert hN;revert N;apply Pn.out));refine wk @aa.eq_1 ?_;(repeat(refine Pn.mk ?_;intro N hN)))|((try apply Or.inl);refine⟨_,ar.x (h) (sd @aa.eq_1),?_⟩;refine hN _ _ ?_;clear hN N)))
 exact aQ (b:= !gJ g 0 s.aA.length) (.inl rfl) (sd @Nat.zero_add) rfl
theorem Fx:QV aw (fun c=>.int .i64 c) 1 false:=⟨fun _=>rfl,fun _=>rfl,fun x g=>by rw[aj,aH,aq];rfl⟩
theorem MX (s:au) (l:List Int) (hl:l.length<=1048576):ar Tryz.prog 226 [.sl (l.map aw),.fn 255 [.dn (aa s)]] (.bool (l.any fun g=> !gJ g 0 s.aA.length)):=
 kX Fx (show mo Tryz.prog 226=some (zK 226 279) by kernel_rfl)
  (show mo Tryz.prog 279=some (tj 279 1 false) by kernel_rfl) l hl _ _ _ rfl (fun g=>by rw[aj,aU,aq];rfl) (fun x _=>PM s x) fun g=>by rw[aj,aU,aq];rfl
theorem wL {α:Type} (f:Nat->α) (n k:Nat) (x:α):x∉(List.range k).map f↔∀j,j<k->f j≠x:=by
 constructor
 ·intro h j hj he
  exact h (List.mem_map.2 ⟨j,List.mem_range.2 hj,he⟩)
 ·intro h hm
  obtain⟨j,hj,he⟩:=List.mem_map.1 hm
  exact h j (List.mem_range.1 hj) he
theorem vB (s:au) (hn:fV s) (hg:s.aA.length<=1048576) (ht:s.ad.length<=1048576) (hs:∀t∈s.ad,t.bq.length<=1048576):ar Tryz.prog 199 [.agg (aa s)] (.bool (oq s)):=by
 refine ar.body eG rfl fun hl n0=>?_
 clear hl
 have RK:∀i,i<s.aA.length->(p4 s i).aG.size<=9223372036854775807:=fun i hi=>hn.1 _ (by simp[p4,List.getD_eq_getElem?_getD,hi])
 have R7:∀i,i<s.ad.length->(pk s i).aG.size<=9223372036854775807:=fun i hi=>hn.2 _ (by simp[pk,List.getD_eq_getElem?_getD,hi])
 have xP:∀i,i<s.ad.length->(pk s i).bq.length<=1048576:=fun i hi=>hs _ (by simp[pk,List.getD_eq_getElem?_getD,hi])
 have hw:=km (s.ad.length:Int) 1 160
 by_cases h1:(200:Int)<(s.aA.length:Int)
 ·(try((repeat(revert hN;revert N;apply Pn.out));refine wk (tw @aa.eq_1 @h1) ?_;(repeat(refine Pn.mk ?_;intro N hN))))
  exact aQ (b:=false) (.inl rfl) (sd @Nat.zero_add) (fI fun h=>by have:=h.tV;omega)
 by_cases h2:gJ (s.ad.length:Int) 1 160=true
 ·have C3:=dX h2
  rw[h2]at hw
  (repeat(first|((repeat(revert hN;revert N;apply Pn.out));refine wk (tw @aa.eq_1 @h1) ?_;(repeat(refine Pn.mk ?_;intro N hN)))|((try apply Or.inl);refine⟨_,ar.x (hw) (sd (tw @aa.eq_1 @h1)),?_⟩;refine hN _ _ ?_;clear hN N)))
  refine aM (fun n env st=>∃k:Nat,n=(s.aA.length)-k/\k<=(s.aA.length)/\env 24=.int .i64 (k:Int)/\st.get ⟨199000000,n0⟩=some ⟨true,2,[aa s]⟩/\st.get ⟨199003000,n0+1+1⟩=some ⟨true,mS.ma,dz ((List.range k).map fun i=>(p4 s i).aG)⟩/\(∀j:Nat,j<k->Dg s j)) (s.aA.length) ⟨0,by omega,by omega,by(try simp only[go_sem, ↓reduceIte,Nat.reduceEqDiff,Nat.reduceAdd,Nat.reduceSub,Nat.reduceLeDiff,reduceCtorEq,aa,List.range_zero,List.map_nil,dz]);try rfl,by(try simp only[go_sem, ↓reduceIte,Nat.reduceEqDiff,Nat.reduceAdd,Nat.reduceSub,Nat.reduceLeDiff,reduceCtorEq,aa,List.range_zero,List.map_nil,dz]);try rfl,by(try simp only[go_sem, ↓reduceIte,Nat.reduceEqDiff,Nat.reduceAdd,Nat.reduceSub,Nat.reduceLeDiff,reduceCtorEq,aa,List.range_zero,List.map_nil,dz]);try rfl,fun _ h=>absurd h (Nat.not_lt_zero _)⟩ ?_
  rintro n_a env_a st_a ⟨k,rfl,ale,a24,ag0,ag1,me⟩ di
  have a1:=di 1 (by kernel_rfl);have a3:=di 3 (by kernel_rfl);have a22:=di 22 (by kernel_rfl);have a23:=di 23 (by kernel_rfl)
  simp only[go_sem, ↓reduceIte,Nat.reduceEqDiff,Nat.reduceAdd,Nat.reduceSub,Nat.reduceLeDiff,reduceCtorEq,aa,List.range_zero,List.map_nil,dz]at a1 a3 a22 a23
  clear di
  by_cases hk:(k:Int)<(s.aA.length:Int)
  ·have cm:∀{e:Env} {gg:Rows},(e 24=.int .i64 (IntKind.i64.wrap ((k:Int)+1)))->(gg ⟨199000000,n0⟩=some ⟨true,2,[aa s]⟩)->(gg ⟨199003000,n0+1+1⟩=some ⟨true,mS.ma,dz ((List.range (k+1)).map fun i=>(p4 s i).aG)⟩)->(Dg s k)->∃m0,m0<(s.aA.length)-k/\∃k:Nat,m0=(s.aA.length)-k/\k<=(s.aA.length)/\e 24=.int .i64 (k:Int)/\gg ⟨199000000,n0⟩=some ⟨true,2,[aa s]⟩/\gg ⟨199003000,n0+1+1⟩=some ⟨true,mS.ma,dz ((List.range k).map fun i=>(p4 s i).aG)⟩/\(∀j:Nat,j<k->Dg s j):=fun x1 x2 x3 x4=>⟨_,by omega,k+1,rfl,by omega,(by rw[x1,ay (by omega)]),x2,x3,(all_succ me x4)⟩
   have eU:k<s.aA.length:=by omega
   have eB:=zG eU
   have qP:=FQ (p4 s k).aG (RK k eU)
   have Le:=km (p4 s k).eD 1 4
   have B5:=xc (p4 s k).aG ((List.range k).map fun i=>(p4 s i).aG)
   rw[wL _ k]at B5
   have lH:(¬Dg s k)->¬ik s:=fun h hp=>h (hp.S6 k eU)
   generalize sO:p4 s k=gl at *
   cases hb:jO gl.aG
   ·rw[hb]at qP
    (repeat(first|((repeat(revert hN;revert N;apply Pn.out));refine wk (tw @a24 (tw @ag0 (tw @ag1 (tw @a1 (tw @a3 (tw @a22 (tw @a23 (tw @hk (tw @eB (tw @bV.eq_1 @aa.eq_1)))))))))) ?_;(repeat(refine Pn.mk ?_;intro N hN)))|((try apply Or.inl);refine⟨_,ar.x (qP) (sd (tw @a24 (tw @ag0 (tw @ag1 (tw @a1 (tw @a3 (tw @a22 (tw @a23 (tw @hk (tw @eB (tw @bV.eq_1 @aa.eq_1))))))))))),?_⟩;refine hN _ _ ?_;clear hN N)))
    exact aQ (b:=false) (.inl rfl) (sd @Nat.zero_add) (fI (lH fun h=>by rw[Dg,sO,hb]at h;cases h.1))
   ·rw[hb]at qP
    rcases B5 with⟨DX,mQ⟩|⟨j,fB,mQ,fe⟩
    ·cases dQ:gJ gl.eD 1 4
     ·rw[dQ]at Le
      (repeat(first|((repeat(revert hN;revert N;apply Pn.out));refine wk (tw @a24 (tw @ag0 (tw @ag1 (tw @a1 (tw @a3 (tw @a22 (tw @a23 (tw @hk (tw @eB (tw @mQ (tw @bV.eq_1 @aa.eq_1))))))))))) ?_;(repeat(refine Pn.mk ?_;intro N hN)))|((try apply Or.inl);refine⟨_,ar.x (qP) (sd (tw @a24 (tw @ag0 (tw @ag1 (tw @a1 (tw @a3 (tw @a22 (tw @a23 (tw @hk (tw @eB (tw @mQ (tw @bV.eq_1 @aa.eq_1)))))))))))),?_⟩;refine hN _ _ ?_;clear hN N)|((try apply Or.inl);refine⟨_,ar.x (Le) (sd (tw @a24 (tw @ag0 (tw @ag1 (tw @a1 (tw @a3 (tw @a22 (tw @a23 (tw @hk (tw @eB (tw @mQ (tw @bV.eq_1 @aa.eq_1)))))))))))),?_⟩;refine hN _ _ ?_;clear hN N)))
      exact aQ (b:=false) (.inl rfl) (sd @Nat.zero_add) (fI (lH fun h=>by rw[Dg,sO,dQ]at h;cases h.2.1))
     ·rw[dQ]at Le
      have pD:dz ((List.range k).map fun i=>(p4 s i).aG)++[[.str gl.aG,.bool true]]=dz (List.map (fun i=>(p4 s i).aG) (List.range k++[k])):=by simp[dz,sO]
      (repeat(first|((repeat(revert hN;revert N;apply Pn.out));refine wk (tw @a24 (tw @ag0 (tw @ag1 (tw @a1 (tw @a3 (tw @a22 (tw @a23 (tw @hk (tw @eB (tw @mQ (tw @bV.eq_1 @aa.eq_1))))))))))) ?_;(repeat(refine Pn.mk ?_;intro N hN)))|((try apply Or.inl);refine⟨_,ar.x (qP) (sd (tw @a24 (tw @ag0 (tw @ag1 (tw @a1 (tw @a3 (tw @a22 (tw @a23 (tw @hk (tw @eB (tw @mQ (tw @bV.eq_1 @aa.eq_1)))))))))))),?_⟩;refine hN _ _ ?_;clear hN N)|((try apply Or.inl);refine⟨_,ar.x (Le) (sd (tw @a24 (tw @ag0 (tw @ag1 (tw @a1 (tw @a3 (tw @a22 (tw @a23 (tw @hk (tw @eB (tw @mQ (tw @bV.eq_1 @aa.eq_1)))))))))))),?_⟩;refine hN _ _ ?_;clear hN N)))
      refine cm ?_ ?_ ?_ (⟨by rw[sO];exact hb,by rw[sO];exact dQ,fun j hj=>by rw[sO];exact DX j hj⟩)
      all_goals simp only[go_sem, ↓reduceIte,Nat.reduceEqDiff,Nat.reduceAdd,Nat.reduceSub,Nat.reduceLeDiff,reduceCtorEq,a24,ag0,ag1,a1,a3,a22,a23,mQ,pD]
    ·(repeat(first|((repeat(revert hN;revert N;apply Pn.out));refine wk (tw @a24 (tw @ag0 (tw @ag1 (tw @a1 (tw @a3 (tw @a22 (tw @a23 (tw @hk (tw @eB (tw @mQ (tw @fe (tw @bV.eq_1 @aa.eq_1)))))))))))) ?_;(repeat(refine Pn.mk ?_;intro N hN)))|((try apply Or.inl);refine⟨_,ar.x (qP) (sd (tw @a24 (tw @ag0 (tw @ag1 (tw @a1 (tw @a3 (tw @a22 (tw @a23 (tw @hk (tw @eB (tw @mQ (tw @fe (tw @bV.eq_1 @aa.eq_1))))))))))))),?_⟩;refine hN _ _ ?_;clear hN N)))
     exact aQ (b:=false) (.inl rfl) (sd @Nat.zero_add) (fI (lH fun h=>by
      rw[Dg,sO]at h
      obtain⟨i,hi,he⟩:=List.mem_map.1 fB
      exact h.2.2 i (List.mem_range.1 hi) he))
  ·have jN:k=s.aA.length:=by omega
   (try((repeat(revert hN;revert N;apply Pn.out));refine wk (tw @a24 (tw @ag0 (tw @ag1 (tw @a1 (tw @a3 (tw @a22 (tw @a23 (tw @hk @aa.eq_1)))))))) ?_;(repeat(refine Pn.mk ?_;intro N hN))))
   refine aM (fun n env st=>∃j:Nat,n=(s.ad.length)-j/\j<=(s.ad.length)/\env 52=.int .i64 (j:Int)/\st.get ⟨199000000,n0⟩=some ⟨true,2,[aa s]⟩/\st.get ⟨199011000,st_a.next+1⟩=some ⟨true,mS.ma,dz ((List.range j).map fun i=>(pk s i).aG)⟩/\(∀i:Nat,i<j->Bd s i)/\(st_a.next<st.next)) (s.ad.length) ⟨0,by omega,by omega,by(try simp only[go_sem, ↓reduceIte,Nat.reduceEqDiff,Nat.reduceAdd,Nat.reduceSub,Nat.reduceLeDiff,reduceCtorEq,a24,ag0,ag1,a1,a3,a22,a23,aa,List.range_zero,List.map_nil,dz]);try rfl,by(try simp only[go_sem, ↓reduceIte,Nat.reduceEqDiff,Nat.reduceAdd,Nat.reduceSub,Nat.reduceLeDiff,reduceCtorEq,a24,ag0,ag1,a1,a3,a22,a23,aa,List.range_zero,List.map_nil,dz]);try rfl,by(try simp only[go_sem, ↓reduceIte,Nat.reduceEqDiff,Nat.reduceAdd,Nat.reduceSub,Nat.reduceLeDiff,reduceCtorEq,a24,ag0,ag1,a1,a3,a22,a23,aa,List.range_zero,List.map_nil,dz]);try rfl,fun _ h=>absurd h (Nat.not_lt_zero _),(by(try dsimp only);omega)⟩ ?_
   rintro n_b env_b st_b ⟨j,rfl,ble,b52,bg0,bg1,bA0,bI0⟩ e7
   have b1:=e7 1 (by kernel_rfl);have b6:=e7 6 (by kernel_rfl);have Dm:=e7 50 (by kernel_rfl);have Dn:=e7 51 (by kernel_rfl)
   simp only[go_sem, ↓reduceIte,Nat.reduceEqDiff,Nat.reduceAdd,Nat.reduceSub,Nat.reduceLeDiff,reduceCtorEq,a24,ag0,ag1,a1,a3,a22,a23,aa,List.range_zero,List.map_nil,dz]at b1 b6 Dm Dn
   clear e7
   by_cases hj:(j:Int)<(s.ad.length:Int)
   ·have ft:∀{e:Env} {gg:Rows} {nx:Nat},(e 52=.int .i64 (IntKind.i64.wrap ((j:Int)+1)))->(gg ⟨199000000,n0⟩=some ⟨true,2,[aa s]⟩)->(gg ⟨199011000,st_a.next+1⟩=some ⟨true,mS.ma,dz ((List.range (j+1)).map fun i=>(pk s i).aG)⟩)->(Bd s j)->(st_a.next<nx)->∃m0,m0<(s.ad.length)-j/\∃j:Nat,m0=(s.ad.length)-j/\j<=(s.ad.length)/\e 52=.int .i64 (j:Int)/\gg ⟨199000000,n0⟩=some ⟨true,2,[aa s]⟩/\gg ⟨199011000,st_a.next+1⟩=some ⟨true,mS.ma,dz ((List.range j).map fun i=>(pk s i).aG)⟩/\(∀i:Nat,i<j->Bd s i)/\(st_a.next<nx):=fun x1 x2 x3 x4 x5=>⟨_,by omega,j+1,rfl,by omega,(by rw[x1,ay (by omega)]),x2,x3,(all_succ bA0 x4),x5⟩
    have iy:j<s.ad.length:=by omega
    have oZ:=AE iy
    have qP:=FQ (pk s j).aG (R7 j iy)
    have TE:=MX s (pk s j).bq (xP j iy)
    have B5:=xc (pk s j).aG ((List.range j).map fun i=>(pk s i).aG)
    rw[wL _ j]at B5
    have lH:(¬Bd s j)->¬ik s:=fun h hp=>h (hp.tok j iy)
    have il:(⟨199011000,st_a.next+1⟩:Id)≠⟨199000000,n0⟩:=by simp
    generalize htd:pk s j=tl at *
    cases hb:jO tl.aG
    ·rw[hb]at qP
     (repeat(first|((repeat(revert hN;revert N;apply Pn.out));refine wk (tw @b52 (tw @bg0 (tw @bg1 (tw @b1 (tw @b6 (tw @Dm (tw @Dn (tw @hj (tw @oZ (tw @bm.eq_1 @aa.eq_1)))))))))) ?_;(repeat(refine Pn.mk ?_;intro N hN)))|((try apply Or.inl);refine⟨_,ar.x (qP) (sd (tw @b52 (tw @bg0 (tw @bg1 (tw @b1 (tw @b6 (tw @Dm (tw @Dn (tw @hj (tw @oZ (tw @bm.eq_1 @aa.eq_1))))))))))),?_⟩;refine hN _ _ ?_;clear hN N)))
     exact aQ (b:=false) (.inl rfl) (sd @Nat.zero_add) (fI (lH fun h=>by rw[Bd,htd,hb]at h;cases h.1))
    ·rw[hb]at qP
     rcases B5 with⟨DX,mQ⟩|⟨i,fB,mQ,fe⟩
     ·by_cases h4:(tl.bq.length:Int)=4
      ·have zI:decide ((tl.bq.length:Int)=4)=true:=decide_eq_true h4
       cases hany:tl.bq.any fun g=> !gJ g 0 s.aA.length
       ·rw[hany]at TE
        have pD:dz ((List.range j).map fun i=>(pk s i).aG)++[[.str tl.aG,.bool true]]=dz (List.map (fun i=>(pk s i).aG) (List.range j++[j])):=by simp[dz,htd]
        (repeat(first|((repeat(revert hN;revert N;apply Pn.out));refine wk (tw @b52 (tw @bg0 (tw @bg1 (tw @b1 (tw @b6 (tw @Dm (tw @Dn (tw @hj (tw @oZ (tw @mQ (tw @zI (tw @bm.eq_1 @aa.eq_1)))))))))))) ?_;(repeat(refine Pn.mk ?_;intro N hN)))|((try apply Or.inl);refine⟨_,ar.x (qP) (sd (tw @b52 (tw @bg0 (tw @bg1 (tw @b1 (tw @b6 (tw @Dm (tw @Dn (tw @hj (tw @oZ (tw @mQ (tw @zI (tw @bm.eq_1 @aa.eq_1))))))))))))),?_⟩;refine hN _ _ ?_;clear hN N)|((try apply Or.inl);refine⟨_,ar.x (TE) (sd (tw @b52 (tw @bg0 (tw @bg1 (tw @b1 (tw @b6 (tw @Dm (tw @Dn (tw @hj (tw @oZ (tw @mQ (tw @zI (tw @bm.eq_1 @aa.eq_1))))))))))))),?_⟩;refine hN _ _ ?_;clear hN N)))
        refine ft ?_ ?_ ?_ (⟨by rw[htd];exact hb,by rw[htd];omega,fun i hi=>(by rw[htd];exact DX i hi),fun g hg=>by rw[htd]at hg;have:=List.any_eq_false.1 hany g hg;simpa using this⟩) (by(try dsimp only);omega)
        all_goals simp only[go_sem, ↓reduceIte,Nat.reduceEqDiff,Nat.reduceAdd,Nat.reduceSub,Nat.reduceLeDiff,reduceCtorEq,b52,bg0,bg1,b1,b6,Dm,Dn,mQ,pD]
       ·rw[hany]at TE
        (repeat(first|((repeat(revert hN;revert N;apply Pn.out));refine wk (tw @b52 (tw @bg0 (tw @bg1 (tw @b1 (tw @b6 (tw @Dm (tw @Dn (tw @hj (tw @oZ (tw @mQ (tw @zI (tw @bm.eq_1 @aa.eq_1)))))))))))) ?_;(repeat(refine Pn.mk ?_;intro N hN)))|((try apply Or.inl);refine⟨_,ar.x (qP) (sd (tw @b52 (tw @bg0 (tw @bg1 (tw @b1 (tw @b6 (tw @Dm (tw @Dn (tw @hj (tw @oZ (tw @mQ (tw @zI (tw @bm.eq_1 @aa.eq_1))))))))))))),?_⟩;refine hN _ _ ?_;clear hN N)|((try apply Or.inl);refine⟨_,ar.x (TE) (sd (tw @b52 (tw @bg0 (tw @bg1 (tw @b1 (tw @b6 (tw @Dm (tw @Dn (tw @hj (tw @oZ (tw @mQ (tw @zI (tw @bm.eq_1 @aa.eq_1))))))))))))),?_⟩;refine hN _ _ ?_;clear hN N)))
        exact aQ (b:=false) (.inl rfl) (sd @Nat.zero_add) (fI (lH fun h=>by
         rw[Bd,htd]at h
         obtain⟨g,hg,hq⟩:=List.any_eq_true.1 hany
         have:=h.2.2.2 g hg
         rw[this]at hq;cases hq))
      ·have zI:decide ((tl.bq.length:Int)=4)=false:=decide_eq_false h4
       (repeat(first|((repeat(revert hN;revert N;apply Pn.out));refine wk (tw @b52 (tw @bg0 (tw @bg1 (tw @b1 (tw @b6 (tw @Dm (tw @Dn (tw @hj (tw @oZ (tw @mQ (tw @zI (tw @bm.eq_1 @aa.eq_1)))))))))))) ?_;(repeat(refine Pn.mk ?_;intro N hN)))|((try apply Or.inl);refine⟨_,ar.x (qP) (sd (tw @b52 (tw @bg0 (tw @bg1 (tw @b1 (tw @b6 (tw @Dm (tw @Dn (tw @hj (tw @oZ (tw @mQ (tw @zI (tw @bm.eq_1 @aa.eq_1))))))))))))),?_⟩;refine hN _ _ ?_;clear hN N)))
       exact aQ (b:=false) (.inl rfl) (sd @Nat.zero_add) (fI (lH fun h=>by rw[Bd,htd]at h;have:=h.2.1;omega))
     ·(repeat(first|((repeat(revert hN;revert N;apply Pn.out));refine wk (tw @b52 (tw @bg0 (tw @bg1 (tw @b1 (tw @b6 (tw @Dm (tw @Dn (tw @hj (tw @oZ (tw @mQ (tw @fe (tw @bm.eq_1 @aa.eq_1)))))))))))) ?_;(repeat(refine Pn.mk ?_;intro N hN)))|((try apply Or.inl);refine⟨_,ar.x (qP) (sd (tw @b52 (tw @bg0 (tw @bg1 (tw @b1 (tw @b6 (tw @Dm (tw @Dn (tw @hj (tw @oZ (tw @mQ (tw @fe (tw @bm.eq_1 @aa.eq_1))))))))))))),?_⟩;refine hN _ _ ?_;clear hN N)))
      exact aQ (b:=false) (.inl rfl) (sd @Nat.zero_add) (fI (lH fun h=>by
       rw[Bd,htd]at h
       obtain⟨i,hi,he⟩:=List.mem_map.1 fB
       exact h.2.2.1 i (List.mem_range.1 hi) he))
   ·(try((repeat(revert hN;revert N;apply Pn.out));refine wk (tw @b52 (tw @bg0 (tw @bg1 (tw @b1 (tw @b6 (tw @Dm (tw @Dn (tw @hj @aa.eq_1)))))))) ?_;(repeat(refine Pn.mk ?_;intro N hN))))
    exact aQ (b:=true) (.inl rfl) (sd @Nat.zero_add) (CI ⟨by omega,by omega,by omega,fun i hi=>me i (by omega),fun i hi=>bA0 i (by omega)⟩)
 ·rw[Bool.not_eq_true]at h2
  rw[h2]at hw
  (repeat(first|((repeat(revert hN;revert N;apply Pn.out));refine wk (tw @aa.eq_1 @h1) ?_;(repeat(refine Pn.mk ?_;intro N hN)))|((try apply Or.inl);refine⟨_,ar.x (hw) (sd (tw @aa.eq_1 @h1)),?_⟩;refine hN _ _ ?_;clear hN N)))
  exact aQ (b:=false) (.inl rfl) (sd @Nat.zero_add) (fI fun h=>by
   have h3:=h.some
   have h4:=h.xl
   rw[jr ⟨by omega,by omega⟩]at h2;cases h2)
theorem uM {α:Type} {p:α->Bool} {xs:List α} {k:Nat} (hk:k<xs.length) (h1:p xs[k]=true) (h2:∀j (h:j<xs.length),j<k->p xs[j]=false):kr p xs=k:=by
 have:xs.findIdx p=k:=by rw[List.findIdx_eq hk];exact⟨h1,fun j hj=>h2 j (by omega) hj⟩
 rw[kr,this,if_pos hk]
theorem yl {α:Type} {p:α->Bool} {xs:List α} (h:∀j (h:j<xs.length),p xs[j]=false):kr p xs= -1:=by
 rw[kr,if_neg]
 rw[List.findIdx_lt_length]
 rintro⟨x,hx,Pf⟩
 obtain⟨j,hj,rfl⟩:=List.getElem_of_mem hx
 rw[h j hj]at Pf;cases Pf
theorem zF {s:au} {i:Nat} (h:i<s.aA.length):p4 s i=s.aA[i]:=by simp[p4,List.getD_eq_getElem?_getD,h]
theorem AD {s:au} {i:Nat} (h:i<s.ad.length):pk s i=s.ad[i]:=by simp[pk,List.getD_eq_getElem?_getD,h]
def K0 (s:au) (n:ByteArray):Int:=kr (fun g:fF=>decide (g.aG=n)) s.aA
def NW (s:au) (n:ByteArray):Int:=kr (fun t:eW=>decide (t.aG=n)) s.ad
theorem He (s:au) (nm:ByteArray):ar Tryz.prog 238 [.dn (aa s),.str nm] (.int .i64 (K0 s nm+1)):=by
 refine ar.body eG rfl fun hl n0=>?_
 have hlen:s.aA.length<=9223372036854775807:=by
  have h1:=(hl (.dn (aa s)) (by simp)).Cf (a:=.sl (s.aA.map bV)) (by simp[aa])
  simpa using h1.len
 clear hl
 (try((repeat(revert hN;revert N;apply Pn.out));refine wk @aa.eq_1 ?_;(repeat(refine Pn.mk ?_;intro N hN))))
 refine aM (fun n env st=>∃k:Nat,n=(s.aA.length)-k/\k<=(s.aA.length)/\env 5=.int .i64 (k:Int)/\(∀j:Nat,j<k->∀h:j<s.aA.length,decide (s.aA[j].aG=nm)=false)) (s.aA.length) ⟨0,by omega,by omega,sl @aa.eq_1,fun _ h=>absurd h (Nat.not_lt_zero _)⟩ ?_
 rintro n_a env_a st_a ⟨k,rfl,ale,a5,me⟩ di
 have a0:=di 0 (by kernel_rfl);have a1:=di 1 (by kernel_rfl)
 simp only[go_sem, ↓reduceIte,Nat.reduceEqDiff,Nat.reduceAdd,Nat.reduceSub,Nat.reduceLeDiff,reduceCtorEq,aa]at a0 a1
 clear di
 by_cases hk:(k:Int)<(s.aA.length:Int)
 ·have cm:∀{e:Env},(e 5=.int .i64 (IntKind.i64.wrap ((k:Int)+1)))->(∀h:k<s.aA.length,decide (s.aA[k].aG=nm)=false)->∃m0,m0<(s.aA.length)-k/\∃k:Nat,m0=(s.aA.length)-k/\k<=(s.aA.length)/\e 5=.int .i64 (k:Int)/\(∀j:Nat,j<k->∀h:j<s.aA.length,decide (s.aA[j].aG=nm)=false):=fun x1 x2=>⟨_,by omega,k+1,rfl,by omega,(by rw[x1,ay (by omega)]),(all_succ me x2)⟩
  have eU:k<s.aA.length:=by omega
  have eB:=zG eU
  have e:=zF eU
  cases hd:decide ((p4 s k).aG=nm)
  ·have Tn:=of_decide_eq_false hd
   (try((repeat(revert hN;revert N;apply Pn.out));refine wk (tw @a5 (tw @a0 (tw @a1 (tw @hk (tw @eB (tw @Tn (tw @hd (tw @bV.eq_1 @aa.eq_1)))))))) ?_;(repeat(refine Pn.mk ?_;intro N hN))))
   exact cm (sd (tw @a5 (tw @a0 @a1))) (fun _=>by rw[e]at hd;exact hd)
  ·have Tn:=of_decide_eq_true hd
   have hw:IntKind.i64.wrap ((k:Int)+1)=(k:Int)+1:=br (by omega)
   (try((repeat(revert hN;revert N;apply Pn.out));refine wk (tw @a5 (tw @a0 (tw @a1 (tw @hk (tw @eB (tw @hd (tw @hw (tw @bV.eq_1 @aa.eq_1)))))))) ?_;(repeat(refine Pn.mk ?_;intro N hN))))
   exact cr (b:=(k:Int)+1) (.inl rfl) (sd @Nat.zero_add) (by rw[K0,uM eU (by rw[e]at hd;exact hd) fun j h hj=>me j hj h])
 ·(try((repeat(revert hN;revert N;apply Pn.out));refine wk (tw @a5 (tw @a0 (tw @a1 (tw @hk @aa.eq_1)))) ?_;(repeat(refine Pn.mk ?_;intro N hN))))
  exact cr (b:=0) (.inl rfl) (sd @Nat.zero_add) (by rw[K0,yl fun j h=>me j (by omega) h];rfl)
theorem Hf (s:au) (nm:ByteArray):ar Tryz.prog 239 [.dn (aa s),.str nm] (.int .i64 (NW s nm)):=by
 refine ar.body eG rfl fun hl n0=>?_
 have hlen:s.ad.length<=9223372036854775807:=by
  have h1:=(hl (.dn (aa s)) (by simp)).Cf (a:=.sl (s.ad.map bm)) (by simp[aa])
  simpa using h1.len
 clear hl
 (try((repeat(revert hN;revert N;apply Pn.out));refine wk @aa.eq_1 ?_;(repeat(refine Pn.mk ?_;intro N hN))))
 refine aM (fun n env st=>∃k:Nat,n=(s.ad.length)-k/\k<=(s.ad.length)/\env 5=.int .i64 (k:Int)/\(∀j:Nat,j<k->∀h:j<s.ad.length,decide (s.ad[j].aG=nm)=false)) (s.ad.length) ⟨0,by omega,by omega,sl @aa.eq_1,fun _ h=>absurd h (Nat.not_lt_zero _)⟩ ?_
 rintro n_a env_a st_a ⟨k,rfl,ale,a5,me⟩ di
 have a0:=di 0 (by kernel_rfl);have a1:=di 1 (by kernel_rfl)
 simp only[go_sem, ↓reduceIte,Nat.reduceEqDiff,Nat.reduceAdd,Nat.reduceSub,Nat.reduceLeDiff,reduceCtorEq,aa]at a0 a1
 clear di
 by_cases hk:(k:Int)<(s.ad.length:Int)
 ·have cm:∀{e:Env},(e 5=.int .i64 (IntKind.i64.wrap ((k:Int)+1)))->(∀h:k<s.ad.length,decide (s.ad[k].aG=nm)=false)->∃m0,m0<(s.ad.length)-k/\∃k:Nat,m0=(s.ad.length)-k/\k<=(s.ad.length)/\e 5=.int .i64 (k:Int)/\(∀j:Nat,j<k->∀h:j<s.ad.length,decide (s.ad[j].aG=nm)=false):=fun x1 x2=>⟨_,by omega,k+1,rfl,by omega,(by rw[x1,ay (by omega)]),(all_succ me x2)⟩
  have eU:k<s.ad.length:=by omega
  have eB:=AE eU
  have e:=AD eU
  cases hd:decide ((pk s k).aG=nm)
  ·(try((repeat(revert hN;revert N;apply Pn.out));refine wk (tw @a5 (tw @a0 (tw @a1 (tw @hk (tw @eB (tw @hd (tw @bm.eq_1 @aa.eq_1))))))) ?_;(repeat(refine Pn.mk ?_;intro N hN))))
   exact cm (sd (tw @a5 (tw @a0 @a1))) (fun _=>by rw[e]at hd;exact hd)
  ·(try((repeat(revert hN;revert N;apply Pn.out));refine wk (tw @a5 (tw @a0 (tw @a1 (tw @hk (tw @eB (tw @hd (tw @bm.eq_1 @aa.eq_1))))))) ?_;(repeat(refine Pn.mk ?_;intro N hN))))
   exact cr (b:=(k:Int)) (.inl rfl) (sd @Nat.zero_add) (by rw[NW,uM eU (by rw[e]at hd;exact hd) fun j h hj=>me j hj h])
 ·(try((repeat(revert hN;revert N;apply Pn.out));refine wk (tw @a5 (tw @a0 (tw @a1 (tw @hk @aa.eq_1)))) ?_;(repeat(refine Pn.mk ?_;intro N hN))))
  exact cr (b:=-1) (.inl rfl) (sd @Nat.zero_add) (by rw[NW,yl fun j h=>me j (by omega) h])
theorem Oy {s:au} {i:Nat} (h:i<s.aA.length):K0 s (p4 s i).aG=i↔∀j,j<i->(p4 s j).aG≠(p4 s i).aG:=by
 constructor
 ·intro he j hj hc
  have gM:j<s.aA.length:=by omega
  have:s.aA.findIdx (fun g:fF=>decide (g.aG=(p4 s i).aG))<=j:=by
   rcases Nat.lt_or_ge j (s.aA.findIdx fun g:fF=>decide (g.aG=(p4 s i).aG))with dV|qO
   ·have:=List.not_of_lt_findIdx dV
    rw[<-zF gM]at this
    simp[hc]at this
   ·exact qO
  unfold K0 kr at he
  split at he<;>omega
 ·intro hd
  exact uM h (by rw[<-zF h];simp) fun j gM hj=>by rw[<-zF gM];simpa using hd j hj
theorem PQ {s:au} {i:Nat} (h:i<s.ad.length):NW s (pk s i).aG=i↔∀j,j<i->(pk s j).aG≠(pk s i).aG:=by
 constructor
 ·intro he j hj hc
  have gM:j<s.ad.length:=by omega
  have:s.ad.findIdx (fun g:eW=>decide (g.aG=(pk s i).aG))<=j:=by
   rcases Nat.lt_or_ge j (s.ad.findIdx fun g:eW=>decide (g.aG=(pk s i).aG))with dV|qO
   ·have:=List.not_of_lt_findIdx dV
    rw[<-AD gM]at this
    simp[hc]at this
   ·exact qO
  unfold NW kr at he
  split at he<;>omega
 ·intro hd
  exact uM h (by rw[<-AD h];simp) fun j gM hj=>by rw[<-AD gM];simpa using hd j hj
theorem FW (s:au) (hn:fV s) (hg:s.aA.length<=1048576) (ht:s.ad.length<=1048576):ar Tryz.prog 167 [.dn (aa s)] (.bool (oq s)):=by
 refine ar.body eG rfl fun hl n0=>?_
 clear hl
 have RK:∀i,i<s.aA.length->(p4 s i).aG.size<=9223372036854775807:=fun i hi=>hn.1 _ (by simp[p4,List.getD_eq_getElem?_getD,hi])
 have R7:∀i,i<s.ad.length->(pk s i).aG.size<=9223372036854775807:=fun i hi=>hn.2 _ (by simp[pk,List.getD_eq_getElem?_getD,hi])
 by_cases h1:(200:Int)<(s.aA.length:Int)
 ·(try((repeat(revert hN;revert N;apply Pn.out));refine wk (tw @aa.eq_1 @h1) ?_;(repeat(refine Pn.mk ?_;intro N hN))))
  exact aQ (b:=false) (.inl rfl) (sd @Nat.zero_add) (fI fun h=>by have:=h.tV;omega)
 by_cases h2:(s.ad.length:Int)<1
 ·(try((repeat(revert hN;revert N;apply Pn.out));refine wk (tw @aa.eq_1 (tw @h1 @h2)) ?_;(repeat(refine Pn.mk ?_;intro N hN))))
  exact aQ (b:=false) (.inl rfl) (sd @Nat.zero_add) (fI fun h=>by have:=h.some;omega)
 by_cases h3:(160:Int)<(s.ad.length:Int)
 ·(try((repeat(revert hN;revert N;apply Pn.out));refine wk (tw @aa.eq_1 (tw @h1 (tw @h2 @h3))) ?_;(repeat(refine Pn.mk ?_;intro N hN))))
  exact aQ (b:=false) (.inl rfl) (sd @Nat.zero_add) (fI fun h=>by have:=h.xl;omega)
 (try((repeat(revert hN;revert N;apply Pn.out));refine wk (tw @aa.eq_1 (tw @h1 (tw @h2 @h3))) ?_;(repeat(refine Pn.mk ?_;intro N hN))))
 refine aM (fun n env st=>∃k:Nat,n=(s.aA.length)-k/\k<=(s.aA.length)/\env 3=.int .i64 (k:Int)/\(∀j:Nat,j<k->Dg s j)) (s.aA.length) ⟨0,by omega,by omega,sl @aa.eq_1,fun _ h=>absurd h (Nat.not_lt_zero _)⟩ ?_
 rintro n_a env_a st_a ⟨k,rfl,ale,a3,me⟩ di
 have a0:=di 0 (by kernel_rfl)
 simp only[go_sem, ↓reduceIte,Nat.reduceEqDiff,Nat.reduceAdd,Nat.reduceSub,Nat.reduceLeDiff,reduceCtorEq,aa]at a0
 clear di
 by_cases hk:(k:Int)<(s.aA.length:Int)
 ·have cm:∀{e:Env},(e 3=.int .i64 (IntKind.i64.wrap ((k:Int)+1)))->(Dg s k)->∃m0,m0<(s.aA.length)-k/\∃k:Nat,m0=(s.aA.length)-k/\k<=(s.aA.length)/\e 3=.int .i64 (k:Int)/\(∀j:Nat,j<k->Dg s j):=fun x1 x2=>⟨_,by omega,k+1,rfl,by omega,(by rw[x1,ay (by omega)]),(all_succ me x2)⟩
  have eU:k<s.aA.length:=by omega
  have eB:=zG eU
  have qP:=F8 (p4 s k).aG (RK k eU)
  have Le:=kN (p4 s k).eD 1 4
  have C7:=He s (p4 s k).aG
  have rW:=Oy eU
  have lH:(¬Dg s k)->¬ik s:=fun h hp=>h (hp.S6 k eU)
  have hw:IntKind.i64.wrap ((k:Int)+1)=(k:Int)+1:=br (by omega)
  generalize sO:p4 s k=gl at *
  cases hb:jO gl.aG
  ·rw[hb]at qP
   (repeat(first|((repeat(revert hN;revert N;apply Pn.out));refine wk (tw @a3 (tw @a0 (tw @hk (tw @eB (tw @bV.eq_1 @aa.eq_1))))) ?_;(repeat(refine Pn.mk ?_;intro N hN)))|((try apply Or.inl);refine⟨_,ar.x (qP) (sd (tw @a3 (tw @a0 (tw @hk (tw @eB (tw @bV.eq_1 @aa.eq_1)))))),?_⟩;refine hN _ _ ?_;clear hN N)))
   exact aQ (b:=false) (.inl rfl) (sd @Nat.zero_add) (fI (lH fun h=>by rw[Dg,sO,hb]at h;cases h.1))
  rw[hb]at qP
  cases dQ:gJ gl.eD 1 4
  ·rw[dQ]at Le
   (repeat(first|((repeat(revert hN;revert N;apply Pn.out));refine wk (tw @a3 (tw @a0 (tw @hk (tw @eB (tw @bV.eq_1 @aa.eq_1))))) ?_;(repeat(refine Pn.mk ?_;intro N hN)))|((try apply Or.inl);refine⟨_,ar.x (qP) (sd (tw @a3 (tw @a0 (tw @hk (tw @eB (tw @bV.eq_1 @aa.eq_1)))))),?_⟩;refine hN _ _ ?_;clear hN N)|((try apply Or.inl);refine⟨_,ar.x (Le) (sd (tw @a3 (tw @a0 (tw @hk (tw @eB (tw @bV.eq_1 @aa.eq_1)))))),?_⟩;refine hN _ _ ?_;clear hN N)))
   exact aQ (b:=false) (.inl rfl) (sd @Nat.zero_add) (fI (lH fun h=>by rw[Dg,sO,dQ]at h;cases h.2.1))
  rw[dQ]at Le
  rw[aa]at C7
  by_cases hq:K0 s gl.aG=(k:Int)
  ·have hd:decide (K0 s gl.aG+1=(k:Int)+1)=true:=decide_eq_true (by omega)
   have uz:decide (K0 s gl.aG=(k:Int))=true:=decide_eq_true hq
   (repeat(first|((repeat(revert hN;revert N;apply Pn.out));refine wk (tw @a3 (tw @a0 (tw @hk (tw @eB (tw @hw (tw @hd (tw @uz (tw @bV.eq_1 @aa.eq_1)))))))) ?_;(repeat(refine Pn.mk ?_;intro N hN)))|((try apply Or.inl);refine⟨_,ar.x (qP) (sd (tw @a3 (tw @a0 (tw @hk (tw @eB (tw @hw (tw @hd (tw @uz (tw @bV.eq_1 @aa.eq_1))))))))),?_⟩;refine hN _ _ ?_;clear hN N)|((try apply Or.inl);refine⟨_,ar.x (Le) (sd (tw @a3 (tw @a0 (tw @hk (tw @eB (tw @hw (tw @hd (tw @uz (tw @bV.eq_1 @aa.eq_1))))))))),?_⟩;refine hN _ _ ?_;clear hN N)|((try apply Or.inl);refine⟨_,ar.x (C7) (sd (tw @a3 (tw @a0 (tw @hk (tw @eB (tw @hw (tw @hd (tw @uz (tw @bV.eq_1 @aa.eq_1))))))))),?_⟩;refine hN _ _ ?_;clear hN N)))
   exact cm (sd (tw @a3 (tw @a0 @hw))) (⟨by rw[sO];exact hb,by rw[sO];exact dQ,fun j hj=>by rw[sO];exact rW.1 hq j hj⟩)
  ·have hd:decide (K0 s gl.aG+1=(k:Int)+1)=false:=decide_eq_false (by omega)
   have uz:decide (K0 s gl.aG=(k:Int))=false:=decide_eq_false hq
   (repeat(first|((repeat(revert hN;revert N;apply Pn.out));refine wk (tw @a3 (tw @a0 (tw @hk (tw @eB (tw @hw (tw @hd (tw @uz (tw @bV.eq_1 @aa.eq_1)))))))) ?_;(repeat(refine Pn.mk ?_;intro N hN)))|((try apply Or.inl);refine⟨_,ar.x (qP) (sd (tw @a3 (tw @a0 (tw @hk (tw @eB (tw @hw (tw @hd (tw @uz (tw @bV.eq_1 @aa.eq_1))))))))),?_⟩;refine hN _ _ ?_;clear hN N)|((try apply Or.inl);refine⟨_,ar.x (Le) (sd (tw @a3 (tw @a0 (tw @hk (tw @eB (tw @hw (tw @hd (tw @uz (tw @bV.eq_1 @aa.eq_1))))))))),?_⟩;refine hN _ _ ?_;clear hN N)|((try apply Or.inl);refine⟨_,ar.x (C7) (sd (tw @a3 (tw @a0 (tw @hk (tw @eB (tw @hw (tw @hd (tw @uz (tw @bV.eq_1 @aa.eq_1))))))))),?_⟩;refine hN _ _ ?_;clear hN N)))
   exact aQ (b:=false) (.inl rfl) (sd @Nat.zero_add) (fI (lH fun h=>by
    rw[Dg,sO]at h
    exact hq (rW.2 h.2.2)))
 ·have jN:k=s.aA.length:=by omega
  (try((repeat(revert hN;revert N;apply Pn.out));refine wk (tw @a3 (tw @a0 (tw @hk @aa.eq_1))) ?_;(repeat(refine Pn.mk ?_;intro N hN))))
  refine aM (fun n env st=>∃j:Nat,n=(s.ad.length)-j/\j<=(s.ad.length)/\env 5=.int .i64 (j:Int)/\(∀i:Nat,i<j->Bd s i)) (s.ad.length) ⟨0,by omega,by omega,sl (tw @a3 (tw @a0 @aa.eq_1)),fun _ h=>absurd h (Nat.not_lt_zero _)⟩ ?_
  rintro n_b env_b st_b ⟨j,rfl,ble,b5,bA0⟩ e7
  have b0:=e7 0 (by kernel_rfl)
  simp only[go_sem, ↓reduceIte,Nat.reduceEqDiff,Nat.reduceAdd,Nat.reduceSub,Nat.reduceLeDiff,reduceCtorEq,a3,a0,aa]at b0
  clear e7
  by_cases hj:(j:Int)<(s.ad.length:Int)
  ·have ft:∀{e:Env},(e 5=.int .i64 (IntKind.i64.wrap ((j:Int)+1)))->(Bd s j)->∃m0,m0<(s.ad.length)-j/\∃j:Nat,m0=(s.ad.length)-j/\j<=(s.ad.length)/\e 5=.int .i64 (j:Int)/\(∀i:Nat,i<j->Bd s i):=fun x1 x2=>⟨_,by omega,j+1,rfl,by omega,(by rw[x1,ay (by omega)]),(all_succ bA0 x2)⟩
   have iy:j<s.ad.length:=by omega
   have oZ:=AE iy
   have qP:=F8 (pk s j).aG (R7 j iy)
   have C7:=Hf s (pk s j).aG
   have rW:=PQ iy
   have lH:(¬Bd s j)->¬ik s:=fun h hp=>h (hp.tok j iy)
   generalize htd:pk s j=tl at *
   cases hb:jO tl.aG
   ·rw[hb]at qP
    (repeat(first|((repeat(revert hN;revert N;apply Pn.out));refine wk (tw @b5 (tw @b0 (tw @hj (tw @oZ (tw @bm.eq_1 @aa.eq_1))))) ?_;(repeat(refine Pn.mk ?_;intro N hN)))|((try apply Or.inl);refine⟨_,ar.x (qP) (sd (tw @b5 (tw @b0 (tw @hj (tw @oZ (tw @bm.eq_1 @aa.eq_1)))))),?_⟩;refine hN _ _ ?_;clear hN N)))
    exact aQ (b:=false) (.inl rfl) (sd @Nat.zero_add) (fI (lH fun h=>by rw[Bd,htd,hb]at h;cases h.1))
   rw[hb]at qP
   by_cases h4:(tl.bq.length:Int)=4
   ·have zI:decide ((tl.bq.length:Int)=4)=true:=decide_eq_true h4
    rw[aa]at C7
    by_cases hq:NW s tl.aG=(j:Int)
    ·have hd:decide (NW s tl.aG=(j:Int))=true:=decide_eq_true hq
     (repeat(first|((repeat(revert hN;revert N;apply Pn.out));refine wk (tw @b5 (tw @b0 (tw @hj (tw @oZ (tw @zI (tw @hd (tw @bm.eq_1 @aa.eq_1))))))) ?_;(repeat(refine Pn.mk ?_;intro N hN)))|((try apply Or.inl);refine⟨_,ar.x (qP) (sd (tw @b5 (tw @b0 (tw @hj (tw @oZ (tw @zI (tw @hd (tw @bm.eq_1 @aa.eq_1)))))))),?_⟩;refine hN _ _ ?_;clear hN N)|((try apply Or.inl);refine⟨_,ar.x (C7) (sd (tw @b5 (tw @b0 (tw @hj (tw @oZ (tw @zI (tw @hd (tw @bm.eq_1 @aa.eq_1)))))))),?_⟩;refine hN _ _ ?_;clear hN N)))
     refine aM (fun n env st=>∃i:Nat,n=(4)-i/\i<=(4)/\env 7=.int .i64 (i:Int)/\st.get ⟨167012007,st_b.next+1⟩=some ⟨true,2,[bm tl]⟩/\(∀x:Nat,x<i->gJ (tl.bq.getD x 0) 0 s.aA.length=true)) (4) ⟨0,by omega,by omega,sl (tw @b5 (tw @b0 (tw @bm.eq_1 @aa.eq_1))),sl (tw @b5 (tw @b0 (tw @bm.eq_1 @aa.eq_1))),fun _ h=>absurd h (Nat.not_lt_zero _)⟩ ?_
     rintro n_c env_c st_c ⟨i,rfl,cle,c7,cg0,cA0⟩ iM
     have c0:=iM 0 (by kernel_rfl);have c5:=iM 5 (by kernel_rfl);have c6:=iM 6 (by kernel_rfl)
     simp only[go_sem, ↓reduceIte,Nat.reduceEqDiff,Nat.reduceAdd,Nat.reduceSub,Nat.reduceLeDiff,reduceCtorEq,b5,b0,bm,aa]at c0 c5 c6
     clear iM
     by_cases hi:(i:Int)<4
     ·have gF:∀{e:Env} {gg:Rows},(e 7=.int .i64 (IntKind.i64.wrap ((i:Int)+1)))->(gg ⟨167012007,st_b.next+1⟩=some ⟨true,2,[bm tl]⟩)->(gJ (tl.bq.getD i 0) 0 s.aA.length=true)->∃m0,m0<(4)-i/\∃i:Nat,m0=(4)-i/\i<=(4)/\e 7=.int .i64 (i:Int)/\gg ⟨167012007,st_b.next+1⟩=some ⟨true,2,[bm tl]⟩/\(∀x:Nat,x<i->gJ (tl.bq.getD x 0) 0 s.aA.length=true):=fun x1 x2 x3=>⟨_,by omega,i+1,rfl,by omega,(by rw[x1,ay (by omega)]),x2,(all_succ cA0 x3)⟩
      have fB:i<tl.bq.length:=by omega
      have kJ:(tl.bq.map aw)[i]? =some (aw (tl.bq.getD i 0)):=getD_map aw fB
      have qc:tl.bq.getD i 0∈tl.bq:=by rw[List.getD_eq_getElem?_getD,List.getElem?_eq_getElem fB];exact List.getElem_mem fB
      have Jw:=kN (tl.bq.getD i 0) 0 s.aA.length
      generalize OV:tl.bq.getD i 0=gv at *
      cases hv:gJ gv 0 s.aA.length
      ·rw[hv]at Jw
       (repeat(first|((repeat(revert hN;revert N;apply Pn.out));refine wk (tw @c7 (tw @cg0 (tw @c0 (tw @c5 (tw @c6 (tw @hi (tw @kJ (tw @aw.eq_1 (tw @bm.eq_1 @aa.eq_1))))))))) ?_;(repeat(refine Pn.mk ?_;intro N hN)))|((try apply Or.inl);refine⟨_,ar.x (Jw) (sd (tw @c7 (tw @cg0 (tw @c0 (tw @c5 (tw @c6 (tw @hi (tw @kJ (tw @aw.eq_1 (tw @bm.eq_1 @aa.eq_1)))))))))),?_⟩;refine hN _ _ ?_;clear hN N)))
       exact aQ (b:=false) (.inl rfl) (sd @Nat.zero_add) (fI (lH fun h=>by
        rw[Bd,htd]at h
        have:=h.2.2.2 gv qc
        rw[hv]at this;cases this))
      ·rw[hv]at Jw
       (repeat(first|((repeat(revert hN;revert N;apply Pn.out));refine wk (tw @c7 (tw @cg0 (tw @c0 (tw @c5 (tw @c6 (tw @hi (tw @kJ (tw @aw.eq_1 (tw @bm.eq_1 @aa.eq_1))))))))) ?_;(repeat(refine Pn.mk ?_;intro N hN)))|((try apply Or.inl);refine⟨_,ar.x (Jw) (sd (tw @c7 (tw @cg0 (tw @c0 (tw @c5 (tw @c6 (tw @hi (tw @kJ (tw @aw.eq_1 (tw @bm.eq_1 @aa.eq_1)))))))))),?_⟩;refine hN _ _ ?_;clear hN N)))
       refine gF ?_ ?_ (hv)
       all_goals simp only[go_sem, ↓reduceIte,Nat.reduceEqDiff,Nat.reduceAdd,Nat.reduceSub,Nat.reduceLeDiff,reduceCtorEq,c7,cg0,c0,c5,c6]
     ·have hi4:i=4:=by omega
      (try((repeat(revert hN;revert N;apply Pn.out));refine wk (tw @c7 (tw @cg0 (tw @c0 (tw @c5 (tw @c6 (tw @hi (tw @bm.eq_1 @aa.eq_1))))))) ?_;(repeat(refine Pn.mk ?_;intro N hN))))
      exact ft (sd (tw @b5 (tw @b0 (tw @c7 (tw @cg0 (tw @c0 (tw @c5 @c6))))))) (⟨by rw[htd];exact hb,by rw[htd];omega,fun x hx=>(by rw[htd];exact rW.1 hq x hx),fun g hg=>by
       rw[htd]at hg
       obtain⟨x,hx,rfl⟩:=List.getElem_of_mem hg
       have:=cA0 x (by omega)
       rwa [List.getD_eq_getElem?_getD,List.getElem?_eq_getElem hx]at this⟩)
    ·have hd:decide (NW s tl.aG=(j:Int))=false:=decide_eq_false hq
     (repeat(first|((repeat(revert hN;revert N;apply Pn.out));refine wk (tw @b5 (tw @b0 (tw @hj (tw @oZ (tw @zI (tw @hd (tw @bm.eq_1 @aa.eq_1))))))) ?_;(repeat(refine Pn.mk ?_;intro N hN)))|((try apply Or.inl);refine⟨_,ar.x (qP) (sd (tw @b5 (tw @b0 (tw @hj (tw @oZ (tw @zI (tw @hd (tw @bm.eq_1 @aa.eq_1)))))))),?_⟩;refine hN _ _ ?_;clear hN N)|((try apply Or.inl);refine⟨_,ar.x (C7) (sd (tw @b5 (tw @b0 (tw @hj (tw @oZ (tw @zI (tw @hd (tw @bm.eq_1 @aa.eq_1)))))))),?_⟩;refine hN _ _ ?_;clear hN N)))
     exact aQ (b:=false) (.inl rfl) (sd @Nat.zero_add) (fI (lH fun h=>by
      rw[Bd,htd]at h
      exact hq (rW.2 h.2.2.1)))
   ·have zI:decide ((tl.bq.length:Int)=4)=false:=decide_eq_false h4
    (repeat(first|((repeat(revert hN;revert N;apply Pn.out));refine wk (tw @b5 (tw @b0 (tw @hj (tw @oZ (tw @zI (tw @bm.eq_1 @aa.eq_1)))))) ?_;(repeat(refine Pn.mk ?_;intro N hN)))|((try apply Or.inl);refine⟨_,ar.x (qP) (sd (tw @b5 (tw @b0 (tw @hj (tw @oZ (tw @zI (tw @bm.eq_1 @aa.eq_1))))))),?_⟩;refine hN _ _ ?_;clear hN N)))
    exact aQ (b:=false) (.inl rfl) (sd @Nat.zero_add) (fI (lH fun h=>by rw[Bd,htd]at h;have:=h.2.1;omega))
  ·(try((repeat(revert hN;revert N;apply Pn.out));refine wk (tw @b5 (tw @b0 (tw @hj @aa.eq_1))) ?_;(repeat(refine Pn.mk ?_;intro N hN))))
   exact aQ (b:=true) (.inl rfl) (sd @Nat.zero_add) (CI ⟨by omega,by omega,by omega,fun i hi=>me i (by omega),fun i hi=>bA0 i (by omega)⟩)
end Go.Proofs.YtgoljkjaameagaaGreat.V

namespace Go.Proofs.YtgoljkjaameagaaGreat.V
def kO (a b:ah):Bool:=decide (a.eM<b.eM)||(decide (a.eM=b.eM)&&decide (a.eR<b.eR))
theorem uT {a b:ah}:kO a b=true↔a.eM<b.eM∨(a.eM=b.eM/\a.eR<b.eR):=by simp[kO]
theorem pG {a b:ah}:kO a b=false↔¬(a.eM<b.eM∨(a.eM=b.eM/\a.eR<b.eR)):=by rw[<-uT,Bool.not_eq_true]
theorem wP {a b:ah} (h1:a.eR=b.eR) (h2:a.eM=b.eM):a=b:=by cases a;cases b;simp_all
theorem iz {a b c:ah} (h:kO a b=true) (k:kO b c=true):kO a c=true:=by rw[uT]at *;omega
theorem nq {a:ah}:kO a a=false:=by rw[pG];omega
theorem JU {a b:ah} (h:kO a b=true):kO b a=false:=by rw[uT]at h;rw[pG];omega
theorem Aa {a b:ah} (h:kO a b=false) (il:a≠b):kO b a=true:=by
 rw[pG]at h;rw[uT]
 by_cases hy:a.eM=b.eM
 ·by_cases hx:a.eR=b.eR
  ·exact absurd (wP hx hy) il
  ·omega
 ·omega
def rP (a b:Int):Int:=if a<b then -1 else if b<a then 1 else 0
def MF (a b:Int):Int:=if a=0 then b else a
def pW (a b:ah):Int:=MF (rP a.eM b.eM) (rP a.eR b.eR)
theorem ni (a b:ah):decide (pW a b<0)=kO a b:=by
 unfold pW MF rP kO
 by_cases h1:a.eM<b.eM
 ·simp[h1]
 ·by_cases h2:b.eM<a.eM
  ·have:¬a.eM=b.eM:=by omega
   simp[h1,h2,this]
  ·have:a.eM=b.eM:=by omega
   by_cases h3:a.eR<b.eR
   ·simp[h1,h2,this,h3]
   ·by_cases h4:b.eR<a.eR<;>simp[h1,h2,this,h3,h4]
theorem Gx (a b:ah):(pW a b=0)↔a=b:=by
 cases a;cases b
 unfold pW MF rP
 simp only[ah.mk.injEq]
 split<;>(try split)<;>(try split)<;>(try split)<;>omega
def J5:ae:=⟨⟨0,0⟩,0⟩
def aV (l:List ae) (i:Nat):ae:=l.getD i J5
theorem gQ {l:List ae} {i:Nat} (h:i<l.length):aV l i=l[i]:=by simp[aV,List.getD_eq_getElem?_getD,h]
theorem gT {l:List ae} {i:Nat} (h:i<l.length):aV l i∈l:=by rw[gQ h];exact List.getElem_mem h
def sW (l:List ae):Prop:=∀i j:Nat,i<j->j<l.length->kO (aV l i).bH (aV l j).bH=true
def qT (l:List ae) (p:ah):Nat:=l.findIdx fun c=>decide (c.bH=p)
def eO (l:List ae) (p:ah):Int:=if qT l p<l.length then(qT l p:Int)else -1
def sa (l:List ae) (p:ah):Nat:=l.findIdx fun c=> !kO c.bH p
theorem z6 {l:List ae} {p:ah} {i:Nat} (hi:i<=l.length) (h1:∀x,x<i->kO (aV l x).bH p=true) (h2:i<l.length->kO (aV l i).bH p=false):sa l p=i:=by
 unfold sa
 by_cases h:i<l.length
 ·rw[List.findIdx_eq h]
  refine⟨by have:=h2 h;rw[gQ h]at this;simp[this],fun j hj=>?_⟩
  have:=h1 j hj
  rw[gQ (by omega)]at this
  simp[this]
 ·have:i=l.length:=by omega
  subst this
  refine List.findIdx_eq_length_of_false fun x hx=>?_
  obtain⟨j,hj,rfl⟩:=List.getElem_of_mem hx
  have:=h1 j hj
  rw[gQ hj]at this
  simp[this]
theorem F0 {l:List ae} {p:ah} (hR:sW l):eO l p=if sa l p<l.length/\(aV l (sa l p)).bH=p then(sa l p:Int)else -1:=by
 by_cases h:∃i,i<l.length/\(aV l i).bH=p
 ·obtain⟨i,hi,hp⟩:=h
  have h1:sa l p=i:=z6 (by omega) (fun x hx=>by rw[<-hp];exact hR x i hx hi) fun _=>by rw[hp];exact nq
  have h2:qT l p=i:=by
   rw[qT,List.findIdx_eq hi]
   refine⟨by rw[gQ hi]at hp;simpa using hp,fun j hj=>?_⟩
   have:=hR j i hj hi
   rw[hp,gQ (by omega)]at this
   simp only[decide_eq_false_iff_not]
   intro hc
   rw[hc,nq]at this
   cases this
  rw[eO,h1,h2,if_pos hi,if_pos ⟨hi,hp⟩]
 ·have h2:¬qT l p<l.length:=by
   rw[qT,List.findIdx_lt_length]
   rintro⟨c,hc,he⟩
   obtain⟨j,hj,rfl⟩:=List.getElem_of_mem hc
   exact h ⟨j,hj,by rw[gQ hj];simpa using he⟩
  rw[eO,if_neg h2,if_neg]
  rintro⟨h3,h4⟩
  exact h ⟨_,h3,h4⟩
theorem kM {l:List ae} {p:ah} (h:0<=eO l p):(eO l p).toNat<l.length/\(aV l (eO l p).toNat).bH=p:=by
 unfold eO at h ⊢
 split at h
 ·rename_i hc
  rw[if_pos hc]
  refine⟨by omega,?_⟩
  have:=of_decide_eq_true (List.findIdx_getElem (p:=fun c:ae=>decide (c.bH=p)) (xs:=l) (w:=hc))
  rw[Int.toNat_natCast,gQ hc]
  exact this
 ·omega
def gR (l:List ae) (p:ah):Int:=if 0<=eO l p then(aV l (eO l p).toNat).bx else -1
end Go.Proofs.YtgoljkjaameagaaGreat.V

namespace Go.Proofs.YtgoljkjaameagaaGreat.V
open Go.RowKit
attribute [local irreducible] eu wpOps gq Call
attribute [local go_sem] aI fJ eP fZ fY dc upd cz K.av cJ AV.cells AV.cell rowOf rowsOf part ld rowAt bR cq dC ea gV bJ cZ eo fX eY dr ef cX cW dM dO bP aX cN bL cQ cP ec eh ee cL bU cY eb bK aO cU cG gU bp cI bQ aW dx bf dD AV.undef bD bF dR dY dI dP cH ek ew cF ej ei cR cV List.getD_cons_zero List.getD_cons_succ List.getD_nil List.all_cons List.all_nil Bool.and_true Bool.true_and Bool.and_self Bool.not_true Bool.not_false Option.map_some Option.map_none Option.bind_some Option.bind_none List.length_cons List.length_nil List.take_succ_cons List.take_zero List.take_nil List.drop_succ_cons List.drop_zero List.drop_nil List.head?_cons List.map_cons List.map_nil List.getElem?_cons_zero List.getElem?_cons_succ List.cons_append List.nil_append List.append_nil List.length_map List.set_cons_zero List.set_cons_succ Nat.reduceMul eq_self Int.toNat_natCast Int.natCast_nonneg and_self true_and and_true decide_true decide_false Bool.false_eq_true Nat.zero_add Nat.add_zero List.contains_cons List.contains_nil Bool.or_false Bool.false_or beq_self_eq_true Nat.reduceBEq ne_eq not_true_eq_false not_false_eq_true Id.mk.injEq false_and and_false Nat.reduceLT Int.reduceLE Int.reduceLT Int.reduceToNat Int.reduceNeg Int.reduceAdd Nat.le_refl List.length_append beq_true beq_false Bool.not_eq_eq_eq_not or_false false_or dJ aj aq aH aZ bB ck aT bc aU aY cK bG
theorem oz (a b:ah):ar Tryz.prog 175 [.agg (ab a),.agg (ab b)] (.bool (kO a b)):=by
 refine ar.body eG rfl fun hl n0=>?_
 clear hl
 by_cases h0:a.eM<b.eM
 ·(try((repeat(revert hN;revert N;apply Pn.out));refine wk (tw @ab.eq_1 @h0) ?_;(repeat(refine Pn.mk ?_;intro N hN))))
  exact aQ (b:=true) (.inl rfl) (sd @Nat.zero_add) (by simp[kO,h0])
 ·by_cases h1:a.eM=b.eM
  ·have h2:¬b.eM<b.eM:=by omega
   (try((repeat(revert hN;revert N;apply Pn.out));refine wk (tw @ab.eq_1 (tw @h1 @h2)) ?_;(repeat(refine Pn.mk ?_;intro N hN))))
   exact aQ (b:=decide (a.eR<b.eR)) (.inl rfl) (sd @Nat.zero_add) (by simp[kO,h1])
  ·(try((repeat(revert hN;revert N;apply Pn.out));refine wk (tw @ab.eq_1 (tw @h0 @h1)) ?_;(repeat(refine Pn.mk ?_;intro N hN))))
   exact aQ (b:=false) (.inl rfl) (sd @Nat.zero_add) (by simp[kO,h0,h1])
theorem fC {l:List ae} {i:Nat} (h:i<l.length):(l.map ai)[i]? =some (ai (aV l i)):=getD_map ai h
def Gk (l:List ae) (i:Nat):Prop:=Ao (aV l i).bH=true/\gJ (aV l i).bx 0 159=true/\(0<i->kO (aV l (i-1)).bH (aV l i).bH=true)
structure kD (l:List ae):Prop where
 BC:l.length<=500
 ok:∀i,i<l.length->Gk l i
noncomputable def oU (l:List ae):Bool:=@decide (kD l) (Classical.propDecidable _)
theorem GO {l:List ae}:oU l=true↔kD l:=by simp[oU]
theorem kc {l:List ae} (h:¬kD l):false=oU l:=by simp[oU,h]
theorem yp {l:List ae} (h:kD l):true=oU l:=by simp[oU,h]
theorem kD.NS {l:List ae} (h:kD l):sW l:=by
 intro i j D6 hj
 induction j with
 |zero=>omega
 |succ j ih=>
  have h1:=(h.ok (j+1) hj).2.2 (by omega)
  rw[Nat.add_sub_cancel]at h1
  by_cases he:i=j
  ·subst he;exact h1
  ·exact iz (ih (by omega) (by omega)) h1
theorem kD.pt {l:List ae} (h:kD l) {i:Nat} (hi:i<l.length):Ao (aV l i).bH=true:=(h.ok i hi).1
theorem tu {p:ah} (h:Ao p=true):iB p.eR/\iB p.eM:=by
 unfold Ao at h
 simp only[Bool.and_eq_true]at h
 have:=dX h.1;have:=dX h.2
 unfold iB;omega
theorem Hg (l:List ae):ar Tryz.prog 219 [.dn [.sl (l.map ai)]] (.bool (oU l)):=by
 refine ar.body eG rfl fun hl n0=>?_
 clear hl
 by_cases h1:(500:Int)<(l.length:Int)
 ·(try((repeat(revert hN;revert N;apply Pn.out));refine wk @h1 ?_;(repeat(refine Pn.mk ?_;intro N hN))))
  exact aQ (b:=false) (.inl rfl) (sd @Nat.zero_add) (kc fun h=>by have:=h.BC;omega)
 (try((repeat(revert hN;revert N;apply Pn.out));refine wk @h1 ?_;(repeat(refine Pn.mk ?_;intro N hN))))
 refine aM (fun n env st=>∃k:Nat,n=(l.length)-k/\k<=(l.length)/\env 3=.int .i64 (k:Int)/\(∀j:Nat,j<k->Gk l j)) (l.length) ⟨0,by omega,by omega,sl @Nat.zero_add,fun _ h=>absurd h (Nat.not_lt_zero _)⟩ ?_
 rintro n_a env_a st_a ⟨k,rfl,ale,a3,me⟩ di
 have a0:=di 0 (by kernel_rfl)
 simp only[go_sem, ↓reduceIte,Nat.reduceEqDiff,Nat.reduceAdd,Nat.reduceSub,Nat.reduceLeDiff,reduceCtorEq]at a0
 clear di
 by_cases hk:(k:Int)<(l.length:Int)
 ·have cm:∀{e:Env},(e 3=.int .i64 (IntKind.i64.wrap ((k:Int)+1)))->(Gk l k)->∃m0,m0<(l.length)-k/\∃k:Nat,m0=(l.length)-k/\k<=(l.length)/\e 3=.int .i64 (k:Int)/\(∀j:Nat,j<k->Gk l j):=fun x1 x2=>⟨_,by omega,k+1,rfl,by omega,(by rw[x1,ay (by omega)]),(all_succ me x2)⟩
  have eU:k<l.length:=by omega
  have eB:=fC eU
  have lH:(¬Gk l k)->¬kD l:=fun h hp=>h (hp.ok k eU)
  have hp:=wj (aV l k).bH
  have ht:=kN (aV l k).bx 0 159
  cases b1:Ao (aV l k).bH
  ·rw[b1]at hp
   (repeat(first|((repeat(revert hN;revert N;apply Pn.out));refine wk (tw @a3 (tw @a0 (tw @hk (tw @eB (tw @ai.eq_1 @ab.eq_1))))) ?_;(repeat(refine Pn.mk ?_;intro N hN)))|((try apply Or.inl);refine⟨_,ar.x (hp) (sd (tw @a3 (tw @a0 (tw @hk (tw @eB (tw @ai.eq_1 @ab.eq_1)))))),?_⟩;refine hN _ _ ?_;clear hN N)))
   exact aQ (b:=false) (.inl rfl) (sd @Nat.zero_add) (kc (lH fun h=>by rw[Gk,b1]at h;cases h.1))
  rw[b1]at hp
  cases b2:gJ (aV l k).bx 0 159
  ·rw[b2]at ht
   (repeat(first|((repeat(revert hN;revert N;apply Pn.out));refine wk (tw @a3 (tw @a0 (tw @hk (tw @eB (tw @ai.eq_1 @ab.eq_1))))) ?_;(repeat(refine Pn.mk ?_;intro N hN)))|((try apply Or.inl);refine⟨_,ar.x (hp) (sd (tw @a3 (tw @a0 (tw @hk (tw @eB (tw @ai.eq_1 @ab.eq_1)))))),?_⟩;refine hN _ _ ?_;clear hN N)|((try apply Or.inl);refine⟨_,ar.x (ht) (sd (tw @a3 (tw @a0 (tw @hk (tw @eB (tw @ai.eq_1 @ab.eq_1)))))),?_⟩;refine hN _ _ ?_;clear hN N)))
   exact aQ (b:=false) (.inl rfl) (sd @Nat.zero_add) (kc (lH fun h=>by rw[Gk,b2]at h;cases h.2.1))
  rw[b2]at ht
  by_cases h0:(0:Int)<(k:Int)
  ·have sQ:=fC (l:=l) (i:=k-1) (by omega)
   have hw:IntKind.i64.wrap ((k:Int)-1)=((k-1:Nat):Int):=by rw[br (by have:=eU;omega)];omega
   have hq:=oz (aV l (k-1)).bH (aV l k).bH
   cases b3:kO (aV l (k-1)).bH (aV l k).bH
   ·rw[b3]at hq
    (repeat(first|((repeat(revert hN;revert N;apply Pn.out));refine wk (tw @a3 (tw @a0 (tw @hk (tw @eB (tw @sQ (tw @h0 (tw @hw (tw @ai.eq_1 @ab.eq_1)))))))) ?_;(repeat(refine Pn.mk ?_;intro N hN)))|((try apply Or.inl);refine⟨_,ar.x (hp) (sd (tw @a3 (tw @a0 (tw @hk (tw @eB (tw @sQ (tw @h0 (tw @hw (tw @ai.eq_1 @ab.eq_1))))))))),?_⟩;refine hN _ _ ?_;clear hN N)|((try apply Or.inl);refine⟨_,ar.x (ht) (sd (tw @a3 (tw @a0 (tw @hk (tw @eB (tw @sQ (tw @h0 (tw @hw (tw @ai.eq_1 @ab.eq_1))))))))),?_⟩;refine hN _ _ ?_;clear hN N)|((try apply Or.inl);refine⟨_,ar.x (hq) (sd (tw @a3 (tw @a0 (tw @hk (tw @eB (tw @sQ (tw @h0 (tw @hw (tw @ai.eq_1 @ab.eq_1))))))))),?_⟩;refine hN _ _ ?_;clear hN N)))
    exact aQ (b:=false) (.inl rfl) (sd @Nat.zero_add) (kc (lH fun h=>by have:=h.2.2 (by omega);rw[b3]at this;cases this))
   ·rw[b3]at hq
    (repeat(first|((repeat(revert hN;revert N;apply Pn.out));refine wk (tw @a3 (tw @a0 (tw @hk (tw @eB (tw @sQ (tw @h0 (tw @hw (tw @ai.eq_1 @ab.eq_1)))))))) ?_;(repeat(refine Pn.mk ?_;intro N hN)))|((try apply Or.inl);refine⟨_,ar.x (hp) (sd (tw @a3 (tw @a0 (tw @hk (tw @eB (tw @sQ (tw @h0 (tw @hw (tw @ai.eq_1 @ab.eq_1))))))))),?_⟩;refine hN _ _ ?_;clear hN N)|((try apply Or.inl);refine⟨_,ar.x (ht) (sd (tw @a3 (tw @a0 (tw @hk (tw @eB (tw @sQ (tw @h0 (tw @hw (tw @ai.eq_1 @ab.eq_1))))))))),?_⟩;refine hN _ _ ?_;clear hN N)|((try apply Or.inl);refine⟨_,ar.x (hq) (sd (tw @a3 (tw @a0 (tw @hk (tw @eB (tw @sQ (tw @h0 (tw @hw (tw @ai.eq_1 @ab.eq_1))))))))),?_⟩;refine hN _ _ ?_;clear hN N)))
    exact cm (sd (tw @a3 @a0)) (⟨b1,b2,fun _=>b3⟩)
  ·have xw:k=0:=by omega
   (repeat(first|((repeat(revert hN;revert N;apply Pn.out));refine wk (tw @a3 (tw @a0 (tw @hk (tw @eB (tw @h0 (tw @ai.eq_1 @ab.eq_1)))))) ?_;(repeat(refine Pn.mk ?_;intro N hN)))|((try apply Or.inl);refine⟨_,ar.x (hp) (sd (tw @a3 (tw @a0 (tw @hk (tw @eB (tw @h0 (tw @ai.eq_1 @ab.eq_1))))))),?_⟩;refine hN _ _ ?_;clear hN N)|((try apply Or.inl);refine⟨_,ar.x (ht) (sd (tw @a3 (tw @a0 (tw @hk (tw @eB (tw @h0 (tw @ai.eq_1 @ab.eq_1))))))),?_⟩;refine hN _ _ ?_;clear hN N)))
   exact cm (sd (tw @a3 @a0)) (⟨b1,b2,fun h=>by omega⟩)
 ·(try((repeat(revert hN;revert N;apply Pn.out));refine wk (tw @a3 (tw @a0 @hk)) ?_;(repeat(refine Pn.mk ?_;intro N hN))))
  exact aQ (b:=true) (.inl rfl) (sd @Nat.zero_add) (yp ⟨by omega,fun i hi=>me i (by omega)⟩)
theorem yj (a b:Int):ar Tryz.prog 210 [.int .i64 a,.int .i64 b] (.int .i64 (rP a b)):=by
 have nan:∀x:Int,ar Tryz.prog 273 [.int .i64 x] (.bool false):=fun x=>by
  refine ar.body eG rfl fun hl n0=>?_
  clear hl
  have e:decide (x=x)=true:=decide_eq_true rfl
  (try((repeat(revert hN;revert N;apply Pn.out));refine wk @e ?_;(repeat(refine Pn.mk ?_;intro N hN))))
  exact aQ (b:=false) (.inl rfl) (sd @Nat.zero_add) rfl
 refine ar.body eG rfl fun hl n0=>?_
 clear hl
 have ha:=nan a
 have hb:=nan b
 by_cases h1:a<b
 ·(repeat(first|((repeat(revert hN;revert N;apply Pn.out));refine wk @h1 ?_;(repeat(refine Pn.mk ?_;intro N hN)))|((try apply Or.inl);refine⟨_,ar.x (ha) (sd @h1),?_⟩;refine hN _ _ ?_;clear hN N)|((try apply Or.inl);refine⟨_,ar.x (hb) (sd @h1),?_⟩;refine hN _ _ ?_;clear hN N)))
  exact cr (b:=-1) (.inl rfl) (sd @Nat.zero_add) (by rw[rP,if_pos h1])
 by_cases h2:b<a
 ·(repeat(first|((repeat(revert hN;revert N;apply Pn.out));refine wk (tw @h1 @h2) ?_;(repeat(refine Pn.mk ?_;intro N hN)))|((try apply Or.inl);refine⟨_,ar.x (ha) (sd (tw @h1 @h2)),?_⟩;refine hN _ _ ?_;clear hN N)|((try apply Or.inl);refine⟨_,ar.x (hb) (sd (tw @h1 @h2)),?_⟩;refine hN _ _ ?_;clear hN N)))
  exact cr (b:=1) (.inl rfl) (sd @Nat.zero_add) (by rw[rP,if_neg h1,if_pos h2])
 ·(repeat(first|((repeat(revert hN;revert N;apply Pn.out));refine wk (tw @h1 @h2) ?_;(repeat(refine Pn.mk ?_;intro N hN)))|((try apply Or.inl);refine⟨_,ar.x (ha) (sd (tw @h1 @h2)),?_⟩;refine hN _ _ ?_;clear hN N)|((try apply Or.inl);refine⟨_,ar.x (hb) (sd (tw @h1 @h2)),?_⟩;refine hN _ _ ?_;clear hN N)))
  exact cr (b:=0) (.inl rfl) (sd @Nat.zero_add) (by rw[rP,if_neg h1,if_neg h2])
def Ik:List Int->Int
 |[]=>0
 |a::r=>if a=0 then Ik r else a
theorem Kc:∀{l:List Int} {k:Nat} (hk:k<l.length),l[k]≠0->(∀j (h:j<l.length),j<k->l[j]=0)->Ik l=l[k]
 |a::r,0,_,h,_=>by
  have h':a≠0:=h
  rw[Ik,if_neg h'];rfl
 |a::r,k+1,hk,h,h0=>by
  have h':a=0:=h0 0 (by simp) (by omega)
  rw[Ik,if_pos h',Kc (k:=k) (by simpa using hk) h fun j hj yD=>h0 (j+1) (by simpa using hj) (by omega)];rfl
theorem CB:∀{l:List Int},(∀j (h:j<l.length),l[j]=0)->Ik l=0
 |[],_=>rfl
 |a::r,h=>by
  have h':a=0:=h 0 (by simp)
  rw[Ik,if_pos h',CB fun j hj=>h (j+1) (by simpa using hj)]
theorem MG (a b:Int):Ik [a,b]=MF a b:=by
 unfold MF
 by_cases h:a=0
 ·rw[Ik,if_pos h,if_pos h,Ik,Ik];split<;>simp_all
 ·rw[Ik,if_neg h,if_neg h]
theorem Lw (l:List Int):ar Tryz.prog 233 [.sl (l.map aw)] (.int .i64 (Ik l)):=by
 refine ar.body eG rfl fun hl n0=>?_
 have hlen:l.length<=9223372036854775807:=by simpa using(hl (.sl (l.map aw)) (by simp)).len
 clear hl
 (try((repeat(revert hN;revert N;apply Pn.out));refine wk @Nat.zero_add ?_;(repeat(refine Pn.mk ?_;intro N hN))))
 refine aM (fun n env st=>∃k:Nat,n=(l.length)-k/\k<=(l.length)/\env 8=.int .i64 (k:Int)/\(∀j:Nat,j<k->∀h:j<l.length,l[j]=0)) (l.length) ⟨0,by omega,by omega,sl @Nat.zero_add,fun _ h=>absurd h (Nat.not_lt_zero _)⟩ ?_
 rintro n_a env_a st_a ⟨k,rfl,ale,a8,me⟩ di
 have a3:=di 3 (by kernel_rfl);have a6:=di 6 (by kernel_rfl);have a7:=di 7 (by kernel_rfl)
 simp only[go_sem, ↓reduceIte,Nat.reduceEqDiff,Nat.reduceAdd,Nat.reduceSub,Nat.reduceLeDiff,reduceCtorEq]at a3 a6 a7
 clear di
 by_cases hk:(k:Int)<(l.length:Int)
 ·have cm:∀{e:Env},(e 8=.int .i64 (IntKind.i64.wrap ((k:Int)+1)))->(∀h:k<l.length,l[k]=0)->∃m0,m0<(l.length)-k/\∃k:Nat,m0=(l.length)-k/\k<=(l.length)/\e 8=.int .i64 (k:Int)/\(∀j:Nat,j<k->∀h:j<l.length,l[j]=0):=fun x1 x2=>⟨_,by omega,k+1,rfl,by omega,(by rw[x1,ay (by omega)]),(all_succ me x2)⟩
  have eU:k<l.length:=by omega
  have eB:(l.map aw)[k]? =some (aw l[k]):=by simp[eU]
  generalize hv:l[k]=v at eB
  by_cases h0:v=0
  ·have e:decide (v=0)=true:=decide_eq_true h0
   (try((repeat(revert hN;revert N;apply Pn.out));refine wk (tw @a8 (tw @a3 (tw @a6 (tw @a7 (tw @e (tw @hk (tw @eB @aw.eq_1))))))) ?_;(repeat(refine Pn.mk ?_;intro N hN))))
   exact cm (sd (tw @a8 (tw @a3 (tw @a6 @a7)))) (fun _=>hv.trans h0)
  ·have e:decide (v=0)=false:=decide_eq_false h0
   (try((repeat(revert hN;revert N;apply Pn.out));refine wk (tw @a8 (tw @a3 (tw @a6 (tw @a7 (tw @e (tw @hk (tw @eB @aw.eq_1))))))) ?_;(repeat(refine Pn.mk ?_;intro N hN))))
   exact cr (b:=v) (.inl rfl) (sd @Nat.zero_add) (by rw[Kc eU (by rw[hv];exact h0) fun j h hj=>me j hj h,hv])
 ·(try((repeat(revert hN;revert N;apply Pn.out));refine wk (tw @a8 (tw @a3 (tw @a6 (tw @a7 @hk)))) ?_;(repeat(refine Pn.mk ?_;intro N hN))))
  exact cr (b:=0) (.inl rfl) (sd @Nat.zero_add) (by rw[CB fun j h=>me j (by omega) h])
section
attribute [local go_sem] List.drop_zero List.take_succ_cons List.take_zero List.length_cons List.length_nil ij zD oV
theorem nL (a b:ah):ar Tryz.prog 154 [.agg (ab a),.agg (ab b)] (.int .i64 (pW a b)):=by
 refine ar.body eG rfl fun hl n0=>?_
 clear hl
 have h1:=yj a.eM b.eM
 have h2:=yj a.eR b.eR
 have h3:=Lw [rP a.eM b.eM,rP a.eR b.eR]
 rw[MG,List.map_cons,List.map_cons,List.map_nil,aw,aw]at h3
 (repeat(first|((repeat(revert hN;revert N;apply Pn.out));refine wk @ab.eq_1 ?_;(repeat(refine Pn.mk ?_;intro N hN)))|((try apply Or.inl);refine⟨_,ar.x (h1) (sd @ab.eq_1),?_⟩;refine hN _ _ ?_;clear hN N)|((try apply Or.inl);refine⟨_,ar.x (h2) (sd @ab.eq_1),?_⟩;refine hN _ _ ?_;clear hN N)|((try apply Or.inl);refine⟨_,ar.x (h3) (sd @ab.eq_1),?_⟩;refine hN _ _ ?_;clear hN N)))
 exact cr (b:=pW a b) (.inl rfl) (by simp only[go_sem, ↓reduceIte,Nat.reduceEqDiff,Nat.reduceAdd,Nat.reduceSub,Nat.reduceLeDiff,reduceCtorEq,pW]) rfl
end
theorem Md (a b:ah):ar Tryz.prog 179 [.agg (ab a),.agg (ab b)] (.bool (kO a b)):=by
 refine ar.body eG rfl fun hl n0=>?_
 clear hl
 have h1:=nL a b
 rw[ab,ab]at h1
 (repeat(first|((repeat(revert hN;revert N;apply Pn.out));refine wk @ab.eq_1 ?_;(repeat(refine Pn.mk ?_;intro N hN)))|((try apply Or.inl);refine⟨_,ar.x (h1) (sd @ab.eq_1),?_⟩;refine hN _ _ ?_;clear hN N)))
 exact aQ (b:=decide (pW a b<0)) (.inl rfl) (sd @Nat.zero_add) (ni a b)
theorem kq (t:ae) (p:ah):ar Tryz.prog 164 [.agg (ai t),.agg (ab p)] (.int .i64 (pW t.bH p)):=by
 refine ar.body eG rfl fun hl n0=>?_
 clear hl
 have h1:=nL t.bH p
 rw[ab,ab]at h1
 (repeat(first|((repeat(revert hN;revert N;apply Pn.out));refine wk (tw @ai.eq_1 @ab.eq_1) ?_;(repeat(refine Pn.mk ?_;intro N hN)))|((try apply Or.inl);refine⟨_,ar.x (h1) (sd (tw @ai.eq_1 @ab.eq_1)),?_⟩;refine hN _ _ ?_;clear hN N)))
 exact cr (b:=pW t.bH p) (.inl rfl) (sd @Nat.zero_add) rfl
theorem GV (l:List ae):ar Tryz.prog 200 [.agg [.sl (l.map ai)]] (.bool (oU l)):=by
 refine ar.body eG rfl fun hl n0=>?_
 have hlen:l.length<=9223372036854775807:=by
  have h1:=(hl (.agg [.sl (l.map ai)]) (by simp)).N8 (a:=.sl (l.map ai)) (by simp)
  simpa using h1.len
 clear hl
 (try((repeat(revert hN;revert N;apply Pn.out));refine wk @Nat.zero_add ?_;(repeat(refine Pn.mk ?_;intro N hN))))
 refine aM (fun n env st=>∃k:Nat,n=(l.length)-k/\k<=(l.length)/\env 8=.int .i64 (k:Int)/\st.get ⟨200000000,n0⟩=some ⟨true,1,[[.sl (l.map ai)]]⟩/\(∀j:Nat,j<k->Gk l j)) (l.length) ⟨0,by omega,by omega,sl @Nat.zero_add,sl @Nat.zero_add,fun _ h=>absurd h (Nat.not_lt_zero _)⟩ ?_
 rintro n_a env_a st_a ⟨k,rfl,ale,a8,ag0,me⟩ di
 have a1:=di 1 (by kernel_rfl);have a6:=di 6 (by kernel_rfl);have a7:=di 7 (by kernel_rfl)
 simp only[go_sem, ↓reduceIte,Nat.reduceEqDiff,Nat.reduceAdd,Nat.reduceSub,Nat.reduceLeDiff,reduceCtorEq]at a1 a6 a7
 clear di
 by_cases hk:(k:Int)<(l.length:Int)
 ·have cm:∀{e:Env} {gg:Rows},(e 8=.int .i64 (IntKind.i64.wrap ((k:Int)+1)))->(gg ⟨200000000,n0⟩=some ⟨true,1,[[.sl (l.map ai)]]⟩)->(Gk l k)->∃m0,m0<(l.length)-k/\∃k:Nat,m0=(l.length)-k/\k<=(l.length)/\e 8=.int .i64 (k:Int)/\gg ⟨200000000,n0⟩=some ⟨true,1,[[.sl (l.map ai)]]⟩/\(∀j:Nat,j<k->Gk l j):=fun x1 x2 x3=>⟨_,by omega,k+1,rfl,by omega,(by rw[x1,ay (by omega)]),x2,(all_succ me x3)⟩
  have eU:k<l.length:=by omega
  have eB:=fC eU
  have lH:(¬Gk l k)->¬kD l:=fun h hp=>h (hp.ok k eU)
  have hp:=rI (aV l k).bH
  have ht:=yM (aV l k).bx 160 (by omega) (by omega)
  rw[show(160:Int)-1=159 from rfl]at ht
  cases b1:Ao (aV l k).bH
  ·rw[b1]at hp
   (repeat(first|((repeat(revert hN;revert N;apply Pn.out));refine wk (tw @a8 (tw @ag0 (tw @a1 (tw @a6 (tw @a7 (tw @hk (tw @eB (tw @ai.eq_1 @ab.eq_1)))))))) ?_;(repeat(refine Pn.mk ?_;intro N hN)))|((try apply Or.inl);refine⟨_,ar.x (hp) (sd (tw @a8 (tw @ag0 (tw @a1 (tw @a6 (tw @a7 (tw @hk (tw @eB (tw @ai.eq_1 @ab.eq_1))))))))),?_⟩;refine hN _ _ ?_;clear hN N)))
   exact aQ (b:=false) (.inl rfl) (sd @Nat.zero_add) (kc (lH fun h=>by rw[Gk,b1]at h;cases h.1))
  rw[b1]at hp
  cases b2:gJ (aV l k).bx 0 159
  ·rw[b2]at ht
   (repeat(first|((repeat(revert hN;revert N;apply Pn.out));refine wk (tw @a8 (tw @ag0 (tw @a1 (tw @a6 (tw @a7 (tw @hk (tw @eB (tw @ai.eq_1 @ab.eq_1)))))))) ?_;(repeat(refine Pn.mk ?_;intro N hN)))|((try apply Or.inl);refine⟨_,ar.x (hp) (sd (tw @a8 (tw @ag0 (tw @a1 (tw @a6 (tw @a7 (tw @hk (tw @eB (tw @ai.eq_1 @ab.eq_1))))))))),?_⟩;refine hN _ _ ?_;clear hN N)|((try apply Or.inl);refine⟨_,ar.x (ht) (sd (tw @a8 (tw @ag0 (tw @a1 (tw @a6 (tw @a7 (tw @hk (tw @eB (tw @ai.eq_1 @ab.eq_1))))))))),?_⟩;refine hN _ _ ?_;clear hN N)))
   exact aQ (b:=false) (.inl rfl) (sd @Nat.zero_add) (kc (lH fun h=>by rw[Gk,b2]at h;cases h.2.1))
  rw[b2]at ht
  by_cases h0:(0:Int)<(k:Int)
  ·have sQ:=fC (l:=l) (i:=k-1) (by omega)
   have hw:IntKind.i64.wrap ((k:Int)-1)=((k-1:Nat):Int):=by rw[br (by omega)];omega
   have hq:=Md (aV l (k-1)).bH (aV l k).bH
   cases b3:kO (aV l (k-1)).bH (aV l k).bH
   ·rw[b3]at hq
    (repeat(first|((repeat(revert hN;revert N;apply Pn.out));refine wk (tw @a8 (tw @ag0 (tw @a1 (tw @a6 (tw @a7 (tw @hk (tw @eB (tw @sQ (tw @h0 (tw @hw (tw @ai.eq_1 @ab.eq_1))))))))))) ?_;(repeat(refine Pn.mk ?_;intro N hN)))|((try apply Or.inl);refine⟨_,ar.x (hp) (sd (tw @a8 (tw @ag0 (tw @a1 (tw @a6 (tw @a7 (tw @hk (tw @eB (tw @sQ (tw @h0 (tw @hw (tw @ai.eq_1 @ab.eq_1)))))))))))),?_⟩;refine hN _ _ ?_;clear hN N)|((try apply Or.inl);refine⟨_,ar.x (ht) (sd (tw @a8 (tw @ag0 (tw @a1 (tw @a6 (tw @a7 (tw @hk (tw @eB (tw @sQ (tw @h0 (tw @hw (tw @ai.eq_1 @ab.eq_1)))))))))))),?_⟩;refine hN _ _ ?_;clear hN N)|((try apply Or.inl);refine⟨_,ar.x (hq) (sd (tw @a8 (tw @ag0 (tw @a1 (tw @a6 (tw @a7 (tw @hk (tw @eB (tw @sQ (tw @h0 (tw @hw (tw @ai.eq_1 @ab.eq_1)))))))))))),?_⟩;refine hN _ _ ?_;clear hN N)))
    exact aQ (b:=false) (.inl rfl) (sd @Nat.zero_add) (kc (lH fun h=>by have:=h.2.2 (by omega);rw[b3]at this;cases this))
   ·rw[b3]at hq
    (repeat(first|((repeat(revert hN;revert N;apply Pn.out));refine wk (tw @a8 (tw @ag0 (tw @a1 (tw @a6 (tw @a7 (tw @hk (tw @eB (tw @sQ (tw @h0 (tw @hw (tw @ai.eq_1 @ab.eq_1))))))))))) ?_;(repeat(refine Pn.mk ?_;intro N hN)))|((try apply Or.inl);refine⟨_,ar.x (hp) (sd (tw @a8 (tw @ag0 (tw @a1 (tw @a6 (tw @a7 (tw @hk (tw @eB (tw @sQ (tw @h0 (tw @hw (tw @ai.eq_1 @ab.eq_1)))))))))))),?_⟩;refine hN _ _ ?_;clear hN N)|((try apply Or.inl);refine⟨_,ar.x (ht) (sd (tw @a8 (tw @ag0 (tw @a1 (tw @a6 (tw @a7 (tw @hk (tw @eB (tw @sQ (tw @h0 (tw @hw (tw @ai.eq_1 @ab.eq_1)))))))))))),?_⟩;refine hN _ _ ?_;clear hN N)|((try apply Or.inl);refine⟨_,ar.x (hq) (sd (tw @a8 (tw @ag0 (tw @a1 (tw @a6 (tw @a7 (tw @hk (tw @eB (tw @sQ (tw @h0 (tw @hw (tw @ai.eq_1 @ab.eq_1)))))))))))),?_⟩;refine hN _ _ ?_;clear hN N)))
    refine cm ?_ ?_ (⟨b1,b2,fun _=>b3⟩)
    all_goals simp only[go_sem, ↓reduceIte,Nat.reduceEqDiff,Nat.reduceAdd,Nat.reduceSub,Nat.reduceLeDiff,reduceCtorEq,a8,ag0,a1,a6,a7]
  ·have xw:k=0:=by omega
   (repeat(first|((repeat(revert hN;revert N;apply Pn.out));refine wk (tw @a8 (tw @ag0 (tw @a1 (tw @a6 (tw @a7 (tw @hk (tw @eB (tw @h0 (tw @ai.eq_1 @ab.eq_1))))))))) ?_;(repeat(refine Pn.mk ?_;intro N hN)))|((try apply Or.inl);refine⟨_,ar.x (hp) (sd (tw @a8 (tw @ag0 (tw @a1 (tw @a6 (tw @a7 (tw @hk (tw @eB (tw @h0 (tw @ai.eq_1 @ab.eq_1)))))))))),?_⟩;refine hN _ _ ?_;clear hN N)|((try apply Or.inl);refine⟨_,ar.x (ht) (sd (tw @a8 (tw @ag0 (tw @a1 (tw @a6 (tw @a7 (tw @hk (tw @eB (tw @h0 (tw @ai.eq_1 @ab.eq_1)))))))))),?_⟩;refine hN _ _ ?_;clear hN N)))
   refine cm ?_ ?_ (⟨b1,b2,fun h=>by omega⟩)
   all_goals simp only[go_sem, ↓reduceIte,Nat.reduceEqDiff,Nat.reduceAdd,Nat.reduceSub,Nat.reduceLeDiff,reduceCtorEq,a8,ag0,a1,a6,a7]
 ·(try((repeat(revert hN;revert N;apply Pn.out));refine wk (tw @a8 (tw @ag0 (tw @a1 (tw @a6 (tw @a7 @hk))))) ?_;(repeat(refine Pn.mk ?_;intro N hN))))
  refine aQ (b:=decide ((l.length:Int)<=500)) (.inl rfl) (sd @Nat.zero_add) ?_
  by_cases h5:(l.length:Int)<=500
  ·rw[decide_eq_true h5];exact yp ⟨by omega,fun i hi=>me i (by omega)⟩
  ·rw[decide_eq_false h5];exact kc fun h=>by have:=h.BC;omega
theorem Gw (cells:List ae) (p:ah) (hR:sW cells) (OB:cells.length<=1048576):
  ar Tryz.prog 163 [.sl (cells.map ai),.agg (ab p),.fn 164 []] (.iD [.int .i64 (sa cells p),.bool (decide (sa cells p<cells.length)&&decide ((aV cells (sa cells p)).bH=p))]):=by
 refine ar.body eG rfl fun hl n0=>?_
 clear hl
 (try((repeat(revert hN;revert N;apply Pn.out));refine wk @ab.eq_1 ?_;(repeat(refine Pn.mk ?_;intro N hN))))
 refine aM (fun n env st=>∃i j:Nat,n=j-i/\i<=j/\j<=cells.length/\(∀x,x<i->kO (aV cells x).bH p=true)/\(∀x,j<=x->x<cells.length->kO (aV cells x).bH p=false)/\env 9=.int .i64 i/\env 10=.int .i64 j/\st.get ⟨163000000,n0⟩=some ⟨true,2,[ab p]⟩) cells.length ⟨0,cells.length,by omega,by omega,by omega,fun x h=>by omega,fun x h1 h2=>by omega,by(simp only[go_sem, ↓reduceIte,Nat.reduceEqDiff,Nat.reduceAdd,Nat.reduceSub,Nat.reduceLeDiff,reduceCtorEq])<;>rfl,sd @Nat.zero_add,sd @ab.eq_1⟩ ?_
 rintro n env st ⟨i,j,rfl,D6,hj,ke,C6,h9,h10,hg⟩ fr
 have h0:=fr 0 (by kernel_rfl)
 have h2:=fr 2 (by kernel_rfl)
 have h4:=fr 4 (by kernel_rfl)
 have h8:=fr 8 (by kernel_rfl)
 simp only[go_sem, ↓reduceIte,Nat.reduceEqDiff,Nat.reduceAdd,Nat.reduceSub,Nat.reduceLeDiff,reduceCtorEq]at h0 h2 h4 h8
 clear fr
 by_cases dV:(i:Int)<(j:Int)
 ·have e1:IntKind.i64.wrap ((i:Int)+j)=((i+j:Nat):Int):=by rw[br (by omega)];rfl
  have hm:(i+j) / 2<cells.length:=by omega
  have fa:(cells.map ai)[(i+j) / 2]? =some (ai (aV cells ((i+j) / 2))):=fC (l:=cells) hm
  have e2:IntKind.i64.wrap ((IntKind.u64.wrap ((i+j:Nat):Int)).fdiv (2 ^ min 1 IntKind.u64.bits))=(((i+j) / 2:Nat):Int):=by
   have h:IntKind.u64.wrap ((i+j:Nat):Int)=((i+j:Nat):Int):=by rw[IntKind.wrap_u64];omega
   rw[h,show min 1 IntKind.u64.bits=1 from rfl,show((2:Int) ^ 1)=2 from rfl,Int.fdiv_eq_ediv_of_nonneg _ (by omega)]
   rw[br (by omega)];omega
  have Ra:IntKind.i64.wrap ((IntKind.u64.wrap ((i+j:Nat):Int)).fdiv (2 ^ min 1 64))=(((i+j) / 2:Nat):Int):=e2
  have e3:=ay (k:=(i+j) / 2) (by omega)
  by_cases hc:pW (aV cells ((i+j) / 2)).bH p<0
  ·have hl:kO (aV cells ((i+j) / 2)).bH p=true:=by rw[<-ni];simpa using hc
   (repeat(first|((repeat(revert hN;revert N;apply Pn.out));refine wk (tw @h0 (tw @h2 (tw @h4 (tw @h8 (tw @h9 (tw @h10 (tw @hg (tw @dV (tw @e1 (tw @e2 (tw @Ra (tw @fa (tw @hc (tw @ai.eq_1 @ab.eq_1)))))))))))))) ?_;(repeat(refine Pn.mk ?_;intro N hN)))|((try apply Or.inl);refine⟨_,ar.x (kq (aV cells ((i+j) / 2)) p) (sd (tw @h0 (tw @h2 (tw @h4 (tw @h8 (tw @h9 (tw @h10 (tw @hg (tw @dV (tw @e1 (tw @e2 (tw @Ra (tw @fa (tw @hc (tw @ai.eq_1 @ab.eq_1))))))))))))))),?_⟩;refine hN _ _ ?_;clear hN N)))
   refine⟨_,?_,(i+j) / 2+1,j,rfl,by omega,hj,fun x hx=>?_,C6,sd @e3,sd @h10,sd (tw @hg @ab.eq_1)⟩
   ·omega
   ·by_cases Pt:x=(i+j) / 2
    ·subst Pt;exact hl
    ·exact iz (hR x _ (by omega) hm) hl
  ·have hl:kO (aV cells ((i+j) / 2)).bH p=false:=by rw[<-ni];simpa using hc
   (repeat(first|((repeat(revert hN;revert N;apply Pn.out));refine wk (tw @h0 (tw @h2 (tw @h4 (tw @h8 (tw @h9 (tw @h10 (tw @hg (tw @dV (tw @e1 (tw @e2 (tw @Ra (tw @fa (tw @hc (tw @ai.eq_1 @ab.eq_1)))))))))))))) ?_;(repeat(refine Pn.mk ?_;intro N hN)))|((try apply Or.inl);refine⟨_,ar.x (kq (aV cells ((i+j) / 2)) p) (sd (tw @h0 (tw @h2 (tw @h4 (tw @h8 (tw @h9 (tw @h10 (tw @hg (tw @dV (tw @e1 (tw @e2 (tw @Ra (tw @fa (tw @hc (tw @ai.eq_1 @ab.eq_1))))))))))))))),?_⟩;refine hN _ _ ?_;clear hN N)))
   refine⟨_,?_,i,(i+j) / 2,rfl,by omega,by omega,ke,fun x h1 h2=>?_,sd @h9,sd (tw @e2 @Ra),sd (tw @hg @ab.eq_1)⟩
   ·omega
   ·by_cases Pt:x=(i+j) / 2
    ·subst Pt;exact hl
    ·rw[Bool.eq_false_iff]
     intro hc
     have h3:=iz (hR ((i+j) / 2) x (by omega) h2) hc
     rw[hl]at h3;cases h3
 ·have OY:i=j:=by omega
  subst OY
  have D7:sa cells p=i:=z6 hj ke fun h=>C6 i (Nat.le_refl _) h
  by_cases hn:(i:Int)<(cells.length:Int)
  ·have fB:i<cells.length:=by omega
   have fa:(cells.map ai)[i]? =some (ai (aV cells i)):=fC (l:=cells) fB
   have hd:decide (pW (aV cells i).bH p=0)=decide ((aV cells i).bH=p):=by simp only[Gx]
   (repeat(first|((repeat(revert hN;revert N;apply Pn.out));refine wk (tw @h0 (tw @h2 (tw @h4 (tw @h8 (tw @h9 (tw @h10 (tw @hg (tw @dV (tw @hn (tw @fa (tw @ai.eq_1 @ab.eq_1))))))))))) ?_;(repeat(refine Pn.mk ?_;intro N hN)))|((try apply Or.inl);refine⟨_,ar.x (kq (aV cells i) p) (sd (tw @h0 (tw @h2 (tw @h4 (tw @h8 (tw @h9 (tw @h10 (tw @hg (tw @dV (tw @hn (tw @fa (tw @ai.eq_1 @ab.eq_1)))))))))))),?_⟩;refine hN _ _ ?_;clear hN N)))
   refine jy (.inl rfl) (r1:=.int .i64 i) (r2:=.bool (decide ((aV cells i).bH=p))) ?_ ?_ ?_
   ·simp only[go_sem, ↓reduceIte,Nat.reduceEqDiff,Nat.reduceAdd,Nat.reduceSub,Nat.reduceLeDiff,reduceCtorEq]
   ·simp only[go_sem, ↓reduceIte,Nat.reduceEqDiff,Nat.reduceAdd,Nat.reduceSub,Nat.reduceLeDiff,reduceCtorEq,hd]
   ·simp only[eX,bz,cD,eC,fR,Option.map_some,D7,fB,decide_true,Bool.true_and]
  ·have fB:¬i<cells.length:=by omega
   (try((repeat(revert hN;revert N;apply Pn.out));refine wk (tw @h0 (tw @h2 (tw @h4 (tw @h8 (tw @h9 (tw @h10 (tw @hg (tw @dV (tw @hn (tw @ai.eq_1 @ab.eq_1)))))))))) ?_;(repeat(refine Pn.mk ?_;intro N hN))))
   refine jy (.inl rfl) (r1:=.int .i64 i) (r2:=.bool false) ?_ ?_ ?_
   ·simp only[go_sem, ↓reduceIte,Nat.reduceEqDiff,Nat.reduceAdd,Nat.reduceSub,Nat.reduceLeDiff,reduceCtorEq]
   ·simp only[go_sem, ↓reduceIte,Nat.reduceEqDiff,Nat.reduceAdd,Nat.reduceSub,Nat.reduceLeDiff,reduceCtorEq]
   ·simp only[eX,bz,cD,eC,fR,Option.map_some,D7,fB,decide_false,Bool.false_and]
theorem Hy (l:List ae) (p:ah) (hR:sW l) (OB:l.length<=1048576):ar Tryz.prog 303 [.agg [.sl (l.map ai)],.agg (ab p)] (.int .i64 (eO l p)):=by
 refine ar.body eG rfl fun hl n0=>?_
 clear hl
 rw[F0 hR]
 have hb:=Gw l p hR OB
 rw[ab]at hb
 cases hf:(decide (sa l p<l.length)&&decide ((aV l (sa l p)).bH=p))
 ·rw[hf]at hb
  (repeat(first|((repeat(revert hN;revert N;apply Pn.out));refine wk @ab.eq_1 ?_;(repeat(refine Pn.mk ?_;intro N hN)))|((try apply Or.inl);refine⟨_,ar.x (hb) (sd @ab.eq_1),?_⟩;refine hN _ _ ?_;clear hN N)))
  exact cr (b:=-1) (.inl rfl) (sd @Nat.zero_add) (by rw[if_neg];intro h;simp[h.1,h.2]at hf)
 ·rw[hf]at hb
  (repeat(first|((repeat(revert hN;revert N;apply Pn.out));refine wk @ab.eq_1 ?_;(repeat(refine Pn.mk ?_;intro N hN)))|((try apply Or.inl);refine⟨_,ar.x (hb) (sd @ab.eq_1),?_⟩;refine hN _ _ ?_;clear hN N)))
  exact cr (b:=(sa l p:Int)) (.inl rfl) (sd @Nat.zero_add) (by rw[if_pos];simpa using hf)
theorem qV (l:List ae) (p:ah) (hR:sW l) (OB:l.length<=1048576):ar Tryz.prog 173 [.dn [.sl (l.map ai)],.agg (ab p)] (.int .i64 (eO l p)):=by
 refine ar.body eG rfl fun hl n0=>?_
 clear hl
 rw[F0 hR]
 (try((repeat(revert hN;revert N;apply Pn.out));refine wk @ab.eq_1 ?_;(repeat(refine Pn.mk ?_;intro N hN))))
 refine aM (fun n env st=>∃i j:Nat,n=j-i/\i<=j/\j<=l.length/\(∀x,x<i->kO (aV l x).bH p=true)/\(∀x,j<=x->x<l.length->kO (aV l x).bH p=false)/\env 5=.int .i64 i/\env 6=.int .i64 j/\st.get ⟨173000000,n0⟩=some ⟨true,2,[ab p]⟩) l.length ⟨0,l.length,by omega,by omega,by omega,fun x h=>by omega,fun x h1 h2=>by omega,by(simp only[go_sem, ↓reduceIte,Nat.reduceEqDiff,Nat.reduceAdd,Nat.reduceSub,Nat.reduceLeDiff,reduceCtorEq])<;>rfl,sd @Nat.zero_add,sd @ab.eq_1⟩ ?_
 rintro n env st ⟨i,j,rfl,D6,hj,ke,C6,h5,h6,hg⟩ fr
 have h0:=fr 0 (by kernel_rfl)
 have h3:=fr 3 (by kernel_rfl)
 simp only[go_sem, ↓reduceIte,Nat.reduceEqDiff,Nat.reduceAdd,Nat.reduceSub,Nat.reduceLeDiff,reduceCtorEq]at h0 h3
 clear fr
 by_cases dV:(i:Int)<(j:Int)
 ·have e1:IntKind.i64.wrap ((i:Int)+j)=((i+j:Nat):Int):=by rw[br (by omega)];rfl
  have hm:(i+j) / 2<l.length:=by omega
  have fa:=fC hm
  have e2:IntKind.i64.wrap (((i+j:Nat):Int).tdiv 2)=(((i+j) / 2:Nat):Int):=by
   rw[Int.tdiv_eq_ediv_of_nonneg (by omega),br (by omega)];omega
  have e3:=ay (k:=(i+j) / 2) (by omega)
  have hq:=oz (aV l ((i+j) / 2)).bH p
  cases hl:kO (aV l ((i+j) / 2)).bH p
  ·rw[hl]at hq
   (repeat(first|((repeat(revert hN;revert N;apply Pn.out));refine wk (tw @h0 (tw @h3 (tw @h5 (tw @h6 (tw @hg (tw @dV (tw @e1 (tw @e2 (tw @fa (tw @ai.eq_1 @ab.eq_1)))))))))) ?_;(repeat(refine Pn.mk ?_;intro N hN)))|((try apply Or.inl);refine⟨_,ar.x (hq) (sd (tw @h0 (tw @h3 (tw @h5 (tw @h6 (tw @hg (tw @dV (tw @e1 (tw @e2 (tw @fa (tw @ai.eq_1 @ab.eq_1))))))))))),?_⟩;refine hN _ _ ?_;clear hN N)))
   refine⟨_,?_,i,(i+j) / 2,rfl,by omega,by omega,ke,fun x h1 h2=>?_,sd @h5,sd @e2,sd (tw @hg @ab.eq_1)⟩
   ·omega
   ·by_cases Pt:x=(i+j) / 2
    ·subst Pt;exact hl
    ·rw[Bool.eq_false_iff]
     intro hc
     have h3:=iz (hR ((i+j) / 2) x (by omega) h2) hc
     rw[hl]at h3;cases h3
  ·rw[hl]at hq
   (repeat(first|((repeat(revert hN;revert N;apply Pn.out));refine wk (tw @h0 (tw @h3 (tw @h5 (tw @h6 (tw @hg (tw @dV (tw @e1 (tw @e2 (tw @fa (tw @ai.eq_1 @ab.eq_1)))))))))) ?_;(repeat(refine Pn.mk ?_;intro N hN)))|((try apply Or.inl);refine⟨_,ar.x (hq) (sd (tw @h0 (tw @h3 (tw @h5 (tw @h6 (tw @hg (tw @dV (tw @e1 (tw @e2 (tw @fa (tw @ai.eq_1 @ab.eq_1))))))))))),?_⟩;refine hN _ _ ?_;clear hN N)))
   refine⟨_,?_,(i+j) / 2+1,j,rfl,by omega,hj,fun x hx=>?_,C6,sd @e3,sd @h6,sd (tw @hg @ab.eq_1)⟩
   ·omega
   ·by_cases Pt:x=(i+j) / 2
    ·subst Pt;exact hl
    ·exact iz (hR x _ (by omega) hm) hl
 ·have OY:i=j:=by omega
  subst OY
  have D7:sa l p=i:=z6 hj ke fun h=>C6 i (Nat.le_refl _) h
  by_cases hn:(i:Int)<(l.length:Int)
  ·have fB:i<l.length:=by omega
   have fa:=fC fB
   by_cases hp:(aV l i).bH=p
   ·have hx:decide ((aV l i).bH.eR=p.eR)=true:=decide_eq_true (by rw[hp])
    have hy:decide ((aV l i).bH.eM=p.eM)=true:=decide_eq_true (by rw[hp])
    (try((repeat(revert hN;revert N;apply Pn.out));refine wk (tw @h0 (tw @h3 (tw @h5 (tw @h6 (tw @hg (tw @dV (tw @hn (tw @fa (tw @hx (tw @hy (tw @ai.eq_1 @ab.eq_1))))))))))) ?_;(repeat(refine Pn.mk ?_;intro N hN))))
    exact cr (b:=(i:Int)) (.inl rfl) (sd @Nat.zero_add) (by rw[D7,if_pos ⟨fB,hp⟩])
   ·by_cases hx:(aV l i).bH.eR=p.eR
    ·have tY:decide ((aV l i).bH.eR=p.eR)=true:=decide_eq_true hx
     have TL:decide ((aV l i).bH.eM=p.eM)=false:=decide_eq_false fun h=>hp (wP hx h)
     (try((repeat(revert hN;revert N;apply Pn.out));refine wk (tw @h0 (tw @h3 (tw @h5 (tw @h6 (tw @hg (tw @dV (tw @hn (tw @fa (tw @tY (tw @TL (tw @ai.eq_1 @ab.eq_1))))))))))) ?_;(repeat(refine Pn.mk ?_;intro N hN))))
     exact cr (b:=-1) (.inl rfl) (sd @Nat.zero_add) (by rw[D7,if_neg fun h=>hp h.2])
    ·have tY:decide ((aV l i).bH.eR=p.eR)=false:=decide_eq_false hx
     (try((repeat(revert hN;revert N;apply Pn.out));refine wk (tw @h0 (tw @h3 (tw @h5 (tw @h6 (tw @hg (tw @dV (tw @hn (tw @fa (tw @tY (tw @Bool.false_and (tw @ai.eq_1 @ab.eq_1))))))))))) ?_;(repeat(refine Pn.mk ?_;intro N hN))))
     exact cr (b:=-1) (.inl rfl) (sd @Nat.zero_add) (by rw[D7,if_neg fun h=>hp h.2])
  ·have fB:¬i<l.length:=by omega
   (try((repeat(revert hN;revert N;apply Pn.out));refine wk (tw @h0 (tw @h3 (tw @h5 (tw @h6 (tw @hg (tw @dV (tw @hn (tw @ai.eq_1 @ab.eq_1)))))))) ?_;(repeat(refine Pn.mk ?_;intro N hN))))
   exact cr (b:=-1) (.inl rfl) (sd @Nat.zero_add) (by rw[D7,if_neg fun h=>fB h.1])
theorem Mn (l:List ae) (p:ah) (hR:sW l) (OB:l.length<=1048576):ar Tryz.prog 216 [.dn [.sl (l.map ai)],.agg (ab p)] (.int .i64 (gR l p)):=by
 refine ar.body eG rfl fun hl n0=>?_
 clear hl
 have hb:=qV l p hR OB
 by_cases hi:eO l p<0
 ·rw[ab]at hb
  (repeat(first|((repeat(revert hN;revert N;apply Pn.out));refine wk (tw @ab.eq_1 @hi) ?_;(repeat(refine Pn.mk ?_;intro N hN)))|((try apply Or.inl);refine⟨_,ar.x (hb) (sd (tw @ab.eq_1 @hi)),?_⟩;refine hN _ _ ?_;clear hN N)))
  exact cr (b:=-1) (.inl rfl) (sd @Nat.zero_add) (by rw[gR,if_neg (by omega)])
 ·have h0:0<=eO l p:=by omega
  have hg:=fC (kM h0).1
  rw[ab]at hb
  (repeat(first|((repeat(revert hN;revert N;apply Pn.out));refine wk (tw @ab.eq_1 (tw @hi (tw @h0 (tw @hg @ai.eq_1)))) ?_;(repeat(refine Pn.mk ?_;intro N hN)))|((try apply Or.inl);refine⟨_,ar.x (hb) (sd (tw @ab.eq_1 (tw @hi (tw @h0 (tw @hg @ai.eq_1))))),?_⟩;refine hN _ _ ?_;clear hN N)))
  exact cr (b:=(aV l (eO l p).toNat).bx) (.inl rfl) (sd @Nat.zero_add) (by rw[gR,if_pos h0])
def kn (s:au) (l:List ae):Prop:=kD l/\∀t∈l,eV s t.bx=true
noncomputable def mW (s:au) (l:List ae):Bool:=oU l&&l.all fun t=>eV s t.bx
theorem kW {s:au} {l:List ae}:mW s l=true↔kn s l:=by simp[mW,kn,GO]
theorem Dv:QV ai (fun c=>.agg (ai c)) 3 true:=⟨fun _=>rfl,fun _=>rfl,fun x g=>by simp only[ai,aj,aq,bc,aH,Option.map_some]⟩
theorem Hu (s:au) (t:ae) (hs:s.ad.length<=1048576):ar Tryz.prog 202 [.agg (ai t),.dn (aa s)] (.bool (!eV s t.bx)):=by
 refine ar.body eG rfl fun hl n0=>?_
 clear hl
 have h:=JK s t.bx
 rw[aa]at h
 (repeat(first|((repeat(revert hN;revert N;apply Pn.out));refine wk (tw @ai.eq_1 @aa.eq_1) ?_;(repeat(refine Pn.mk ?_;intro N hN)))|((try apply Or.inl);refine⟨_,ar.x (h) (sd (tw @ai.eq_1 @aa.eq_1)),?_⟩;refine hN _ _ ?_;clear hN N)))
 exact aQ (b:= !eV s t.bx) (.inl rfl) (sd @Nat.zero_add) rfl
theorem M6 (s:au) (l:List ae) (hs:s.ad.length<=1048576) (hl:l.length<=1048576):ar Tryz.prog 201 [.sl (l.map ai),.fn 202 [.dn (aa s)]] (.bool (l.any fun t=> !eV s t.bx)):=
 kX Dv (show mo Tryz.prog 201=some (zK 201 247) by kernel_rfl)
  (show mo Tryz.prog 247=some (tj 247 3 true) by kernel_rfl) l hl _ _ _ rfl (fun g=>by rw[aj,aU,aq];rfl) (fun x _=>Hu s x hs) fun g=>by rw[aj,aU,aq];rfl
theorem Lo {α:Type} (p:α->Bool) (l:List α):(!l.any fun t=> !p t)=l.all p:=by
 induction l with
 |nil=>rfl
 |cons x l ih=>simp only[List.any_cons,List.all_cons,<-ih];cases p x<;>simp
theorem nJ (s:au) (l:List ae) (hn:fV s) (hg:s.aA.length<=1048576) (ht:s.ad.length<=1048576) (hs:∀t∈s.ad,t.bq.length<=1048576) (hl:l.length<=1048576):ar Tryz.prog 131 [.agg (aa s),.agg [.sl (l.map ai)]] (.bool (oq s&&mW s l)):=by
 refine ar.body eG rfl fun hl n0=>?_
 clear hl
 have h1:=vB s hn hg ht hs
 have h2:=GV l
 have h3:=M6 s l ht hl
 rw[aa]at h1 h3
 cases b1:oq s
 ·rw[b1]at h1
  (repeat(first|((repeat(revert hN;revert N;apply Pn.out));refine wk @aa.eq_1 ?_;(repeat(refine Pn.mk ?_;intro N hN)))|((try apply Or.inl);refine⟨_,ar.x (h1) (sd @aa.eq_1),?_⟩;refine hN _ _ ?_;clear hN N)))
  exact aQ (b:=false) (.inl rfl) (sd @Nat.zero_add) rfl
 rw[b1]at h1
 cases b2:oU l
 ·rw[b2]at h2
  (repeat(first|((repeat(revert hN;revert N;apply Pn.out));refine wk @aa.eq_1 ?_;(repeat(refine Pn.mk ?_;intro N hN)))|((try apply Or.inl);refine⟨_,ar.x (h1) (sd @aa.eq_1),?_⟩;refine hN _ _ ?_;clear hN N)|((try apply Or.inl);refine⟨_,ar.x (h2) (sd @aa.eq_1),?_⟩;refine hN _ _ ?_;clear hN N)))
  exact aQ (b:=false) (.inl rfl) (sd @Nat.zero_add) (by rw[mW,b2];rfl)
 rw[b2]at h2
 (repeat(first|((repeat(revert hN;revert N;apply Pn.out));refine wk @aa.eq_1 ?_;(repeat(refine Pn.mk ?_;intro N hN)))|((try apply Or.inl);refine⟨_,ar.x (h1) (sd @aa.eq_1),?_⟩;refine hN _ _ ?_;clear hN N)|((try apply Or.inl);refine⟨_,ar.x (h2) (sd @aa.eq_1),?_⟩;refine hN _ _ ?_;clear hN N)|((try apply Or.inl);refine⟨_,ar.x (h3) (sd @aa.eq_1),?_⟩;refine hN _ _ ?_;clear hN N)))
 exact aQ (b:= !(l.any fun t=> !eV s t.bx)) (.inl rfl) (sd @Nat.zero_add) (by rw[Lo,mW,b2];rfl)
theorem FX (s:au) (l:List ae):ar Tryz.prog 146 [.dn (aa s),.dn [.sl (l.map ai)]] (.bool (mW s l)):=by
 refine ar.body eG rfl fun hl n0=>?_
 have hlen:l.length<=9223372036854775807:=by
  have h1:=(hl (.dn [.sl (l.map ai)]) (by simp)).Cf (a:=.sl (l.map ai)) (by simp)
  simpa using h1.len
 clear hl
 have h2:=Hg l
 cases b2:oU l
 ·rw[b2]at h2
  (repeat(first|((repeat(revert hN;revert N;apply Pn.out));refine wk @Nat.zero_add ?_;(repeat(refine Pn.mk ?_;intro N hN)))|((try apply Or.inl);refine⟨_,ar.x (h2) (sd @Nat.zero_add),?_⟩;refine hN _ _ ?_;clear hN N)))
  exact aQ (b:=false) (.inl rfl) (sd @Nat.zero_add) (by rw[mW,b2];rfl)
 rw[b2]at h2
 (repeat(first|((repeat(revert hN;revert N;apply Pn.out));refine wk @Nat.zero_add ?_;(repeat(refine Pn.mk ?_;intro N hN)))|((try apply Or.inl);refine⟨_,ar.x (h2) (sd @Nat.zero_add),?_⟩;refine hN _ _ ?_;clear hN N)))
 refine aM (fun n env st=>∃k:Nat,n=(l.length)-k/\k<=(l.length)/\env 5=.int .i64 (k:Int)/\(∀j:Nat,j<k->eV s (aV l j).bx=true)) (l.length) ⟨0,by omega,by omega,sl @Nat.zero_add,fun _ h=>absurd h (Nat.not_lt_zero _)⟩ ?_
 rintro n_a env_a st_a ⟨k,rfl,ale,a5,me⟩ di
 have a0:=di 0 (by kernel_rfl);have a1:=di 1 (by kernel_rfl)
 simp only[go_sem, ↓reduceIte,Nat.reduceEqDiff,Nat.reduceAdd,Nat.reduceSub,Nat.reduceLeDiff,reduceCtorEq]at a0 a1
 clear di
 by_cases hk:(k:Int)<(l.length:Int)
 ·have cm:∀{e:Env},(e 5=.int .i64 (IntKind.i64.wrap ((k:Int)+1)))->(eV s (aV l k).bx=true)->∃m0,m0<(l.length)-k/\∃k:Nat,m0=(l.length)-k/\k<=(l.length)/\e 5=.int .i64 (k:Int)/\(∀j:Nat,j<k->eV s (aV l j).bx=true):=fun x1 x2=>⟨_,by omega,k+1,rfl,by omega,(by rw[x1,ay (by omega)]),(all_succ me x2)⟩
  have eU:k<l.length:=by omega
  have eB:=fC eU
  have ht:=Ek s (aV l k).bx
  cases b3:eV s (aV l k).bx
  ·rw[b3]at ht
   (repeat(first|((repeat(revert hN;revert N;apply Pn.out));refine wk (tw @a5 (tw @a0 (tw @a1 (tw @hk (tw @eB @ai.eq_1))))) ?_;(repeat(refine Pn.mk ?_;intro N hN)))|((try apply Or.inl);refine⟨_,ar.x (ht) (sd (tw @a5 (tw @a0 (tw @a1 (tw @hk (tw @eB @ai.eq_1)))))),?_⟩;refine hN _ _ ?_;clear hN N)))
   exact aQ (b:=false) (.inl rfl) (sd @Nat.zero_add) (by
    have:l.all (fun t=>eV s t.bx)=false:=List.all_eq_false.2 ⟨_,gT eU,by rw[b3];simp⟩
    rw[mW,this,Bool.and_false])
  ·rw[b3]at ht
   (repeat(first|((repeat(revert hN;revert N;apply Pn.out));refine wk (tw @a5 (tw @a0 (tw @a1 (tw @hk (tw @eB @ai.eq_1))))) ?_;(repeat(refine Pn.mk ?_;intro N hN)))|((try apply Or.inl);refine⟨_,ar.x (ht) (sd (tw @a5 (tw @a0 (tw @a1 (tw @hk (tw @eB @ai.eq_1)))))),?_⟩;refine hN _ _ ?_;clear hN N)))
   exact cm (sd (tw @a5 (tw @a0 @a1))) (b3)
 ·(try((repeat(revert hN;revert N;apply Pn.out));refine wk (tw @a5 (tw @a0 (tw @a1 @hk))) ?_;(repeat(refine Pn.mk ?_;intro N hN))))
  exact aQ (b:=true) (.inl rfl) (sd @Nat.zero_add) (by
   have:l.all (fun t=>eV s t.bx)=true:=List.all_eq_true.2 fun t ht=>by
    obtain⟨j,hj,rfl⟩:=List.getElem_of_mem ht
    have:=me j (by omega)
    rwa [gQ hj]at this
   rw[mW,b2,this];rfl)
theorem xS (l:List ae) (hF:kD l) (i:Nat) (d:Int) (hi:i<l.length) (hd:gJ d 0 3=true):ar Tryz.prog 189 [.dn [.sl (l.map ai)],.int .i64 i,.int .i64 d] (.int .i64 (eO l (bd (aV l i).bH d))):=by
 refine ar.body eG rfl fun hl n0=>?_
 clear hl
 have hg:=fC hi
 have hp:=tu (hF.pt hi)
 have h1:=tp (aV l i).bH d hd hp.1 hp.2
 have h2:=qV l (bd (aV l i).bH d) hF.NS (by have:=hF.BC;omega)
 rw[ab]at h1 h2
 (repeat(first|((repeat(revert hN;revert N;apply Pn.out));refine wk (tw @ai.eq_1 (tw @hg @ab.eq_1)) ?_;(repeat(refine Pn.mk ?_;intro N hN)))|((try apply Or.inl);refine⟨_,ar.x (h1) (sd (tw @ai.eq_1 (tw @hg @ab.eq_1))),?_⟩;refine hN _ _ ?_;clear hN N)|((try apply Or.inl);refine⟨_,ar.x (h2) (sd (tw @ai.eq_1 (tw @hg @ab.eq_1))),?_⟩;refine hN _ _ ?_;clear hN N)))
 exact cr (b:=eO l (bd (aV l i).bH d)) (.inl rfl) (sd @Nat.zero_add) rfl
end Go.Proofs.YtgoljkjaameagaaGreat.V

namespace Go.Proofs.YtgoljkjaameagaaGreat.V
def bi (b:Bool):Int:=if b then 1 else 0
def mb (f:Nat->Int):Nat->Int
 |0=>0
 |n+1=>mb f n+f n
theorem gw {f g:Nat->Int}:∀{n:Nat},(∀i,i<n->f i=g i)->mb f n=mb g n
 |0,_=>rfl
 |n+1,h=>by
  simp only[mb]
  rw[gw fun i hi=>h i (by omega),h n (by omega)]
theorem sD {f g:Nat->Int}:∀{n:Nat},(∀i,i<n->f i<=g i)->mb f n<=mb g n
 |0,_=>Int.le_refl _
 |n+1,h=>by
  simp only[mb]
  have:=sD (n:=n) fun i hi=>h i (by omega)
  have:=h n (by omega)
  omega
theorem jY:∀{n:Nat} {f:Nat->Int},(∀i,i<n->f i=0)->mb f n=0
 |0,_,_=>rfl
 |n+1,f,h=>by
  simp only[mb]
  rw[jY fun i hi=>h i (by omega),h n (by omega)];rfl
theorem pP {f:Nat->Int} {a:Nat} {d:Int}:∀n,mb (fun i=>f i+if i=a then d else 0) n=mb f n+if a<n then d else 0
 |0=>by simp[mb]
 |n+1=>by
  simp only[mb]
  rw[pP n]
  by_cases h:n=a
  ·subst h;simp;omega
  ·rw[if_neg h]
   by_cases h2:a<n
   ·rw[if_pos h2,if_pos (by omega)];omega
   ·rw[if_neg h2,if_neg (by omega)];omega
def mv (n:Nat) (S:Nat->Bool) (f:Nat->Nat->Int):Int:=mb (fun u=>mb (fun v=>if S u&& !S v then f u v else 0) n) n
def bump (f:Nat->Nat->Int) (a b:Nat) (d:Int):Nat->Nat->Int:=fun u v=>f u v+if u=a/\v=b then d else 0
theorem pC {n:Nat} {S:Nat->Bool} {f:Nat->Nat->Int} {a b:Nat} {d:Int} (ha:a<n) (hb:b<n):mv n S (bump f a b d)=mv n S f+if S a&& !S b then d else 0:=by
 unfold mv
 have h1:∀u,u<n->mb (fun v=>if S u&& !S v then bump f a b d u v else 0) n=mb (fun v=>if S u&& !S v then f u v else 0) n+if u=a then(if S a&& !S b then d else 0)else 0:=by
  intro u hu
  by_cases h:u=a
  ·subst h
   have h2:∀v,v<n->(if S u&& !S v then bump f u b d u v else 0)=(fun v=>if S u&& !S v then f u v else 0) v+if v=b then(if S u&& !S b then d else 0)else 0:=by
    intro v hv
    unfold bump
    by_cases h3:v=b
    ·subst h3;simp only[and_self,if_true];split<;>omega
    ·simp only[h3,and_false,if_false];split<;>omega
   rw[gw h2,pP,if_pos hb,if_pos rfl]
  ·rw[if_neg h,Int.add_zero]
   refine gw fun v hv=>?_
   unfold bump
   simp[h]
 rw[gw h1,pP,if_pos ha]
theorem Lz {n:Nat} {S:Nat->Bool} {f c:Nat->Nat->Int} (h:∀u v,u<n->v<n->f u v<=c u v):mv n S f<=mv n S c:=
 sD fun u hu=>sD fun v hv=>by split;exact h u v hu hv;exact Int.le_refl _
theorem Ly {n:Nat} {S:Nat->Bool} {f c:Nat->Nat->Int} (h:∀u v,u<n->v<n->S u=true->S v=false->f u v=c u v):mv n S f=mv n S c:=
 gw fun u hu=>gw fun v hv=>by
  split
  ·rename_i hc
   simp only[Bool.and_eq_true,Bool.not_eq_true']at hc
   exact h u v hu hv hc.1 hc.2
  ·rfl
def kF (f:Nat->Nat->Int) (a b:Nat):Nat->Nat->Int:=bump (bump f a b 1) b a (-1)
theorem GC {n:Nat} {S:Nat->Bool} {f:Nat->Nat->Int} {a b:Nat} (ha:a<n) (hb:b<n):mv n S (kF f a b)=mv n S f+bi (S a)-bi (S b):=by
 unfold kF
 rw[pC hb ha,pC ha hb]
 cases S a<;>cases S b<;>simp[bi]<;>omega
def ml (f:Nat->Nat->Int):List Nat->Nat->Nat->Int
 |a::b::r=>ml (kF f a b) (b::r)
 |_=>f
def rD (f c:Nat->Nat->Int):List Nat->Prop
 |a::b::r=>f a b<c a b/\rD f c (b::r)
 |_=>True
theorem Bh {n:Nat} {S:Nat->Bool}:∀(r:List Nat) (a:Nat) (f:Nat->Nat->Int),(∀x∈a::r,x<n)->mv n S (ml f (a::r))=mv n S f+bi (S a)-bi (S ((a::r).getLast (by simp)))
 |[],a,f,_=>by simp[ml]
 |b::r,a,f,h=>by
  rw[ml,Bh r b (kF f a b) fun x hx=>h x (List.mem_cons_of_mem _ hx),GC (h a (by simp)) (h b (by simp)),List.getLast_cons_cons]
  generalize bi (S b)=q
  omega
theorem rD.less {f g c:Nat->Nat->Int}:∀{p:List Nat},rD f c p->(∀u,u∈p->∀v,g u v<=f u v)->rD g c p
 |[],_,_=>trivial
 |[_],_,_=>trivial
 |a::b::r,h,hl=>⟨Int.lt_of_le_of_lt (hl a (by simp) b) h.1,rD.less (p:=b::r) h.2 fun u hu=>hl u (List.mem_cons_of_mem _ hu)⟩
theorem Fk {n:Nat} {c:Nat->Nat->Int}:∀(p:List Nat) (f:Nat->Nat->Int),p.Nodup->rD f c p->(∀u v,u<n->v<n->f u v<=c u v)->∀u v,u<n->v<n->ml f p u v<=c u v
 |[],f,_,_,h=>h
 |[_],f,_,_,h=>h
 |a::b::r,f,hn,hr,h=>by
  rw[ml]
  have od:a∉b::r:=(List.nodup_cons.1 hn).1
  refine Fk (b::r) _ (List.nodup_cons.1 hn).2 (hr.2.less fun u hu v=>?_) fun u v hu hv=>?_
  ·unfold kF bump
   have:u≠a:=by rintro rfl;exact od hu
   simp only[this,false_and,if_false]
   split<;>omega
  ·have h0:=h u v hu hv
   have h1:=hr.1
   unfold kF bump
   by_cases e:u=a/\v=b
   ·obtain⟨rfl,rfl⟩:=e
    rw[if_pos ⟨rfl,rfl⟩];split<;>omega
   ·rw[if_neg e];split<;>omega
structure lP (n:Nat) (c f:Nat->Nat->Int) (x y:Nat) (val:Int):Prop where
 le:∀u v,u<n->v<n->f u v<=c u v
 cut:∀S:Nat->Bool,S x=true->S y=false->mv n S f=val
theorem lP.zero {n:Nat} {c:Nat->Nat->Int} {x y:Nat} (h:∀u v,u<n->v<n->0<=c u v):lP n c (fun _ _=>0) x y 0:=
 ⟨h,fun S _ _=>jY fun u hu=>jY fun v hv=>by split<;>rfl⟩
theorem lP.congr {n:Nat} {c f g:Nat->Nat->Int} {x y:Nat} {val:Int} (h:lP n c f x y val) (e:∀u v,u<n->v<n->g u v=f u v):lP n c g x y val:=
 ⟨fun u v hu hv=>by rw[e u v hu hv];exact h.le u v hu hv,fun S hx hy=>by
  rw[<-h.cut S hx hy]
  exact gw fun u hu=>gw fun v hv=>by rw[e u v hu hv]⟩
theorem lP.aug {n:Nat} {c f:Nat->Nat->Int} {x y:Nat} {val:Int} (h:lP n c f x y val) {r:List Nat} (hl:(x::r).getLast (by simp)=y) (hn:(x::r).Nodup) (hr:rD f c (x::r)) (hb:∀v∈x::r,v<n):lP n c (ml f (x::r)) x y (val+1):=
 ⟨Fk _ _ hn hr h.le,fun S hx hy=>by rw[Bh r x f hb,hl,h.cut S hx hy,hx,hy];simp[bi]⟩
theorem lP.bound {n:Nat} {c f:Nat->Nat->Int} {x y:Nat} {val:Int} (h:lP n c f x y val) {S:Nat->Bool} (hx:S x=true) (hy:S y=false):val<=mv n S c:=by
 rw[<-h.cut S hx hy];exact Lz h.le
theorem lP.full {n:Nat} {c f:Nat->Nat->Int} {x y:Nat} {val:Int} (h:lP n c f x y val) {S:Nat->Bool} (hx:S x=true) (hy:S y=false) (hS:∀u v,u<n->v<n->S u=true->S v=false->¬f u v<c u v):val=mv n S c:=by
 rw[<-h.cut S hx hy]
 exact Ly fun u v hu hv h1 h2=>by have:=hS u v hu hv h1 h2;have:=h.le u v hu hv;omega
structure PB where
 a:Nat
 b:Nat
 s:Int
 deriving Inhabited
def cE (bs:List PB) (i:Nat):PB:=bs.getD i default
def jf (S:Nat->Bool) (bs:List PB):Int:=(bs.map fun b=>if S b.a=S b.b then 0 else b.s).sum
def nU (c:Nat->Nat->Int) (b:PB):Nat->Nat->Int:=bump (bump c b.a b.b b.s) b.b b.a b.s
def lr (bs:List PB):Nat->Nat->Int:=bs.foldl nU fun _ _=>0
theorem EI (bs:List PB) (b:PB):lr (bs++[b])=nU (lr bs) b:=by simp[lr]
theorem Bv {n:Nat} {S:Nat->Bool}:∀(bs:List PB) (c:Nat->Nat->Int),(∀b∈bs,b.a<n/\b.b<n)->mv n S (bs.foldl nU c)=mv n S c+jf S bs
 |[],c,_=>by simp[jf]
 |b::bs,c,h=>by
  have hb:=h b (by simp)
  rw[List.foldl_cons,Bv bs _ fun x hx=>h x (List.mem_cons_of_mem _ hx)]
  unfold nU jf
  rw[pC hb.2 hb.1,pC hb.1 hb.2,List.map_cons,List.sum_cons]
  cases S b.a<;>cases S b.b<;>simp<;>omega
theorem Bw {n:Nat} {S:Nat->Bool} {bs:List PB} (h:∀b∈bs,b.a<n/\b.b<n):mv n S (lr bs)=jf S bs:=by
 rw[lr,Bv bs _ h]
 have:mv n S (fun _ _=>0)=0:=jY fun u hu=>jY fun v hv=>by split<;>rfl
 omega
theorem Au:∀(bs:List PB) (c:Nat->Nat->Int),(∀b∈bs,0<=b.s)->(∀u v,0<=c u v)->∀u v,0<=bs.foldl nU c u v
 |[],c,_,h=>h
 |b::bs,c,hb,h=>by
  rw[List.foldl_cons]
  refine Au bs _ (fun x hx=>hb x (List.mem_cons_of_mem _ hx)) fun u v=>?_
  have:=hb b (by simp);have:=h u v
  unfold nU bump
  split<;>split<;>omega
theorem room_le:∀(bs:List PB) (c:Nat->Nat->Int) (m:Int),(∀b∈bs,b.s<=4)->(∀u v,c u v<=m)->0<=m->∀u v,bs.foldl nU c u v<=m+8*bs.length
 |[],c,m,_,h,_=>fun u v=>by have:=h u v;simp;omega
 |b::bs,c,m,hb,h,h0=>fun u v=>by
  rw[List.foldl_cons]
  have:=room_le bs (nU c b) (m+8) (fun x hx=>hb x (List.mem_cons_of_mem _ hx)) (fun u v=>by
   have:=hb b (by simp);have:=h u v
   unfold nU bump
   split<;>split<;>omega) (by omega) u v
  simp only[List.length_cons];omega
def kU (n:Nat) (bs:List PB) (t:Int):Prop:=∀S:Nat->Bool,S 0=true->(∃y,y<n/\S y=false)->t<=jf S bs
def GA (S:Nat->Bool) (bs:List PB) (f:Nat->Int):Int:=mb (fun i=>f i*(bi (S (cE bs i).a)-bi (S (cE bs i).b))) bs.length
structure j6 (bs:List PB) (f:Nat->Int) (x y:Nat) (val:Int):Prop where
 le:∀i,i<bs.length->f i<=(cE bs i).s/\-(cE bs i).s<=f i
 cut:∀S:Nat->Bool,S x=true->S y=false->GA S bs f=val
theorem vL (S:Nat->Bool):∀bs:List PB,jf S bs=mb (fun i=>if S (cE bs i).a=S (cE bs i).b then 0 else(cE bs i).s) bs.length:=by
 intro bs
 have key:∀n,n<=bs.length->jf S (bs.take n)=mb (fun i=>if S (cE bs i).a=S (cE bs i).b then 0 else(cE bs i).s) n:=by
  intro n
  induction n with
  |zero=>intro _;rfl
  |succ n ih=>
   intro h
   have e:cE bs n=bs[n]:=by simp[cE,List.getD_eq_getElem?_getD,List.getElem?_eq_getElem (show n<bs.length by omega)]
   rw[List.take_succ_eq_append_getElem (by omega),mb,<-ih (by omega),e]
   unfold jf
   rw[List.map_append,List.sum_append]
   simp only[List.map_cons,List.map_nil,List.sum_cons,List.sum_nil,Int.add_zero]
 have:=key bs.length (Nat.le_refl _)
 rwa [List.take_length]at this
theorem j6.bound {bs:List PB} {f:Nat->Int} {x y:Nat} {val:Int} (h:j6 bs f x y val) {S:Nat->Bool} (hx:S x=true) (hy:S y=false):val<=jf S bs:=by
 rw[<-h.cut S hx hy,vL]
 refine sD fun i hi=>?_
 have:=h.le i hi
 cases S (cE bs i).a<;>cases S (cE bs i).b<;>simp[bi]<;>omega
def fM (bs:List PB) (f:Nat->Int) (i u:Nat):Int:=if (cE bs i).a=u then(cE bs i).s-f i else(cE bs i).s+f i
def cj (bs:List PB) (i u:Nat):Nat:=if (cE bs i).a=u then(cE bs i).b else(cE bs i).a
theorem j6.full {bs:List PB} {f:Nat->Int} {x y:Nat} {val:Int} (h:j6 bs f x y val) {S:Nat->Bool} (hx:S x=true) (hy:S y=false)
  (hS:∀i,i<bs.length->((cE bs i).a≠(cE bs i).b->(S (cE bs i).a=true->S (cE bs i).b=false->¬0<fM bs f i (cE bs i).a)/\(S (cE bs i).b=true->S (cE bs i).a=false->¬0<fM bs f i (cE bs i).b))):val=jf S bs:=by
 rw[<-h.cut S hx hy,vL]
 refine gw fun i hi=>?_
 have h1:=h.le i hi
 by_cases od:(cE bs i).a=(cE bs i).b
 ·rw[od];simp
 ·have h2:=hS i hi od
  unfold fM at h2
  rw[if_pos rfl,if_neg od]at h2
  cases ha:S (cE bs i).a<;>cases hb:S (cE bs i).b<;>rw[ha,hb]at h2<;>simp[bi]at h2 ⊢ <;>omega
def uf (bs:List PB) (f:Nat->Int) (i u:Nat):Nat->Int:=fun j=>f j+if j=i then(if (cE bs i).a=u then 1 else -1)else 0
theorem GB {S:Nat->Bool} {bs:List PB} {f:Nat->Int} {i u:Nat} (hi:i<bs.length) (hu:(cE bs i).a=u∨(cE bs i).b=u):GA S bs (uf bs f i u)=GA S bs f+bi (S u)-bi (S (cj bs i u)):=by
 unfold GA uf
 have e:∀j,j<bs.length->(f j+if j=i then(if (cE bs i).a=u then 1 else -1)else 0)*(bi (S (cE bs j).a)-bi (S (cE bs j).b))=(fun j=>f j*(bi (S (cE bs j).a)-bi (S (cE bs j).b))) j+if j=i then(if (cE bs i).a=u then 1 else -1)*(bi (S (cE bs i).a)-bi (S (cE bs i).b))else 0:=by
  intro j hj
  by_cases h:j=i
  ·subst h;simp only[if_true];rw[Int.add_mul]
  ·simp only[h,if_false];simp
 rw[gw e,pP,if_pos hi]
 unfold cj
 by_cases ha:(cE bs i).a=u
 ·rw[if_pos ha,if_pos ha,ha];omega
 ·rw[if_neg ha,if_neg ha]
  rcases hu with hu|hu
  ·exact absurd hu ha
  ·rw[hu];omega
theorem o9:∀(n:Nat) (l:List Nat),l.Nodup->(∀x∈l,x<n)->l.length<=n
 |0,l,_,h=>by
  cases l with
  |nil=>simp
  |cons x l=>exact absurd (h x (by simp)) (by omega)
 |n+1,l,hn,h=>by
  have h1:=o9 n (l.erase n) (hn.erase _) fun x hx=>by
   have h2:=(hn.mem_erase_iff).1 hx
   have h3:=h x h2.2
   have h4:=h2.1
   omega
  rw[List.length_erase]at h1
  split at h1<;>omega
def eQ (L:Nat->Nat) (b:PB):Nat->Nat:=fun k=>if L k=max (L b.a) (L b.b)then min (L b.a) (L b.b)else L k
def eE (bs:List PB):Nat->Nat:=bs.foldl eQ id
theorem wo (bs:List PB) (b:PB):eE (bs++[b])=eQ (eE bs) b:=by simp[eE]
structure jI (L:Nat->Nat):Prop where
 le:∀k,L k<=k
 idem:∀k,L (L k)=L k
theorem jI.step {L:Nat->Nat} (h:jI L) (b:PB):jI (eQ L b):=by
 have ha:=h.idem b.a
 have hb:=h.idem b.b
 refine⟨fun k=>?_,fun k=>?_⟩
 ·have:=h.le k
  unfold eQ
  split<;>omega
 ·have hk:=h.idem k
  have hm:L (min (L b.a) (L b.b))=min (L b.a) (L b.b):=by
   rcases Nat.le_total (L b.a) (L b.b)with h1|h1
   ·rw[Nat.min_eq_left h1,ha]
   ·rw[Nat.min_eq_right h1,hb]
  unfold eQ
  by_cases h1:L k=max (L b.a) (L b.b)
  ·rw[if_pos h1,hm];split<;>rfl
  ·rw[if_neg h1,hk,if_neg h1]
theorem wq:∀(bs:List PB) (L:Nat->Nat),jI L->jI (bs.foldl eQ L)
 |[],_,h=>h
 |b::bs,L,h=>wq bs _ (h.step b)
theorem ub (bs:List PB):jI (eE bs):=wq bs id ⟨fun _=>Nat.le_refl _,fun _=>rfl⟩
def leads (n:Nat) (L:Nat->Nat):List Nat:=(List.range n).filter fun i=>L i==i
def members (n:Nat) (L:Nat->Nat) (i:Nat):List Nat:=(List.range n).filter fun k=>L k==i
def fE (n:Nat) (L:Nat->Nat):List (List Nat):=(leads n L).map (members n L)
def bW (L:Nat->Nat) (k:Nat):Nat:=(leads (L k) L).length
theorem gN (n:Nat) (L:Nat->Nat):leads (n+1) L=leads n L++if L n=n then[n]else[]:=by
 unfold leads
 rw[List.range_succ,List.filter_append]
 congr 1
 by_cases h:L n=n<;>simp[h]
theorem jt (n:Nat) (L:Nat->Nat) (i:Nat):members (n+1) L i=members n L i++if L n=i then[n]else[]:=by
 unfold members
 rw[List.range_succ,List.filter_append]
 congr 1
 by_cases h:L n=i<;>simp[h]
theorem nr {L:Nat->Nat} (h:jI L) {n i:Nat} (hn:n<=i):members n L i=[]:=by
 unfold members
 rw[List.filter_eq_nil_iff]
 intro k hk
 have:=h.le k
 have:=List.mem_range.1 hk
 simp;omega
theorem uc (n:Nat) (L:Nat->Nat):(leads n L).Nodup:=List.nodup_range.filter _
theorem yP {n:Nat} {L:Nat->Nat} {i:Nat}:i∈leads n L↔i<n/\L i=i:=by simp[leads]
theorem lW {n:Nat} {L:Nat->Nat} {i k:Nat}:k∈members n L i↔k<n/\L k=i:=by simp[members]
theorem Hm {L:Nat->Nat} {m n:Nat} (h:m<=n):∃r,leads n L=leads m L++r:=by
 obtain⟨d,rfl⟩:=Nat.le.dest h
 clear h
 induction d with
 |zero=>exact⟨[],by simp⟩
 |succ d ih=>
  obtain⟨r,hr⟩:=ih
  exact⟨r++if L (m+d)=m+d then[m+d]else[],by rw[<-Nat.add_assoc,gN,hr,List.append_assoc]⟩
theorem pE {L:Nat->Nat} (h:jI L) {n k:Nat} (hk:k<n):(leads n L)[bW L k]? =some (L k):=by
 have h1:=h.le k
 obtain⟨r,hr⟩:=Hm (L:=L) (show L k+1<=n by omega)
 rw[hr,gN,if_pos (h.idem k),List.append_assoc]
 unfold bW
 rw[List.getElem?_append_right (Nat.le_refl _),Nat.sub_self];rfl
theorem kh {L:Nat->Nat} (h:jI L) {n k:Nat} (hk:k<n):bW L k<(leads n L).length:=(List.getElem?_eq_some_iff.1 (pE h hk)).1
theorem tr {L:Nat->Nat} (h:jI L) {n k i:Nat} (hk:k<n) (hi:i<(leads n L).length):k∈members n L (leads n L)[i]↔bW L k=i:=by
 rw[lW]
 have h1:=pE h hk
 rw[List.getElem?_eq_getElem (kh h hk)]at h1
 injection h1 with h1
 constructor
 ·rintro⟨_,h2⟩
  rw[<-h1]at h2
  exact(List.getElem_inj (uc n L)).1 h2
 ·rintro rfl
  exact⟨hk,h1.symm⟩
def dy (L:Nat->Nat) (bs:List PB):List PB:=bs.filterMap fun b=>if bW L b.a=bW L b.b then none else some ⟨bW L b.a,bW L b.b,b.s⟩
def e9 (L:Nat->Nat) (bs:List PB):List PB:=bs.filterMap fun b=>if bW L b.a=bW L b.b then none else some ⟨min (bW L b.a) (bW L b.b),max (bW L b.a) (bW L b.b),b.s⟩
theorem Av (L:Nat->Nat) (bs:List PB) (b:PB):dy L (bs++[b])=dy L bs++if bW L b.a=bW L b.b then[]else[⟨bW L b.a,bW L b.b,b.s⟩]:=by
 unfold dy
 rw[List.filterMap_append]
 congr 1
 by_cases h:bW L b.a=bW L b.b<;>simp[h]
theorem Aw (L:Nat->Nat) (bs:List PB) (b:PB):e9 L (bs++[b])=e9 L bs++if bW L b.a=bW L b.b then[]else[⟨min (bW L b.a) (bW L b.b),max (bW L b.a) (bW L b.b),b.s⟩]:=by
 unfold e9
 rw[List.filterMap_append]
 congr 1
 by_cases h:bW L b.a=bW L b.b<;>simp[h]
theorem s9 (S:Nat->Bool) (b:PB) (bs:List PB):jf S (b::bs)=(if S b.a=S b.b then 0 else b.s)+jf S bs:=by simp[jf]
theorem yh (S:Nat->Bool) (L:Nat->Nat):∀bs:List PB,jf S (e9 L bs)=jf S (dy L bs)
 |[]=>rfl
 |b::bs=>by
  have ih:=yh S L bs
  unfold e9 dy at ih ⊢
  rw[List.filterMap_cons,List.filterMap_cons]
  by_cases h:bW L b.a=bW L b.b
  ·simp only[h,if_true];exact ih
  ·simp only[h,if_false]
   rw[s9,s9,ih]
   congr 1
   simp only
   rcases Nat.le_total (bW L b.a) (bW L b.b)with h1|h1
   ·rw[Nat.min_eq_left h1,Nat.max_eq_right h1]
   ·rw[Nat.min_eq_right h1,Nat.max_eq_left h1]
    cases S (bW L b.a)<;>cases S (bW L b.b)<;>rfl
theorem EN {L:Nat->Nat} (h:jI L) {n:Nat} {bs:List PB} (hb:∀b∈bs,b.a<n/\b.b<n):∀b∈dy L bs,b.a<(leads n L).length/\b.b<(leads n L).length/\b.a≠b.b/\∃c∈bs,b.s=c.s:=by
 intro b hm
 unfold dy at hm
 obtain⟨c,hc,he⟩:=List.mem_filterMap.1 hm
 split at he
 ·cases he
 ·rename_i il
  simp only[Option.some.injEq]at he
  subst he
  exact⟨kh h (hb c hc).1,kh h (hb c hc).2,il,c,hc,rfl⟩
theorem EO {L:Nat->Nat} (h:jI L) {n:Nat} {bs:List PB} (hb:∀b∈bs,b.a<n/\b.b<n):∀b∈e9 L bs,b.a<(leads n L).length/\b.b<(leads n L).length/\b.a≠b.b/\∃c∈bs,b.s=c.s:=by
 intro b hm
 unfold e9 at hm
 obtain⟨c,hc,he⟩:=List.mem_filterMap.1 hm
 split at he
 ·cases he
 ·rename_i il
  simp only[Option.some.injEq]at he
  subst he
  have h1:=kh h (hb c hc).1
  have h2:=kh h (hb c hc).2
  refine⟨by simp only;omega,by simp only;omega,by simp only;omega,c,hc,rfl⟩
theorem nA (L:Nat->Nat) (bs:List PB):(dy L bs).length<=bs.length/\(e9 L bs).length<=bs.length:=⟨List.length_filterMap_le ..,List.length_filterMap_le ..⟩
theorem jR (n:Nat) (L:Nat->Nat):(leads n L).length<=n:=by
 have:=List.length_filter_le (fun i=>L i==i) (List.range n)
 simpa[leads]using this
def aL (t:Int) (bs:List PB):List PB:=bs.filter fun b=>decide (t<=b.s)
def pw (n:Nat) (bs:List PB) (t:Int):Prop:=
 (leads n (eE (aL t bs))).length<=64/\kU (leads n (eE (aL t bs))).length (dy (eE (aL t bs)) bs) t
theorem D8 {n:Nat} {L:Nat->Nat} {bs:List PB} {t:Int}:kU n (e9 L bs) t↔kU n (dy L bs) t:=by
 unfold kU
 constructor<;>intro h S h0 hy<;>have:=h S h0 hy<;>rw[yh]at *<;>exact this
end Go.Proofs.YtgoljkjaameagaaGreat.V

namespace Go.Proofs.YtgoljkjaameagaaGreat.V
open Go.RowKit
attribute [local irreducible] eu wpOps gq Call
attribute [local go_sem] aI fJ eP fZ fY dc upd cz K.av cJ AV.cells AV.cell rowOf rowsOf part ld rowAt bR cq dC ea gV bJ cZ eo fX eY dr ef cX cW dM dO bP aX cN bL cQ cP ec eh ee cL bU cY eb bK aO cU cG gU bp cI bQ aW dx bf dD AV.undef bD bF dR dY dI dP cH ek ew cF ej ei cR cV List.getD_cons_zero List.getD_cons_succ List.getD_nil List.all_cons List.all_nil Bool.and_true Bool.true_and Bool.and_self Bool.not_true Bool.not_false Option.map_some Option.map_none Option.bind_some Option.bind_none List.length_cons List.length_nil List.take_succ_cons List.take_zero List.take_nil List.drop_succ_cons List.drop_zero List.drop_nil List.head?_cons List.map_cons List.map_nil List.getElem?_cons_zero List.getElem?_cons_succ List.cons_append List.nil_append List.append_nil List.length_map List.set_cons_zero List.set_cons_succ Nat.reduceMul eq_self Int.toNat_natCast Int.natCast_nonneg and_self true_and and_true decide_true decide_false Bool.false_eq_true Nat.zero_add Nat.add_zero List.contains_cons List.contains_nil Bool.or_false Bool.false_or beq_self_eq_true Nat.reduceBEq ne_eq not_true_eq_false not_false_eq_true Id.mk.injEq false_and and_false Nat.reduceLT Int.reduceLE Int.reduceLT Int.reduceToNat Int.reduceNeg Int.reduceAdd Nat.le_refl List.length_append beq_true beq_false Bool.not_eq_eq_eq_not or_false false_or dJ aj aq aH aZ bB ck aT bc aU aY cK bG
def aC (b:PB):List AV:=[.int .i64 b.a,.int .i64 b.b,.int .i64 b.s]
theorem NZ:∀b:PB,(aC b).length=3/\(aC b).all AV.cell=true:=fun _=>⟨rfl,rfl⟩
theorem zC (g:Rows) (n:Nat) (b:PB):dd g (n+1) (aC b)=some (aC b):=by simp[aC,aj,aq,aH]
theorem uN (g:Rows) (n:Nat) (b:PB):ez g (n+1) (aC b)=some (aC b):=by simp[aC,bz,cD,eC]
theorem I1:QV aC (fun c=>.agg (aC c)) 3 true:=⟨fun _=>rfl,fun _=>rfl,fun x g=>by simp only[aC,aj,aq,bc,aH,Option.map_some]⟩
def nf (s:au) (l:List ae) (i:Nat) (d:Int):List PB:=
 if 0<=eO l (bd (aV l i).bH d)/\0<gS s (aV l i).bx d (aV l (eO l (bd (aV l i).bH d)).toNat).bx then
  [⟨i,(eO l (bd (aV l i).bH d)).toNat,gS s (aV l i).bx d (aV l (eO l (bd (aV l i).bH d)).toNat).bx⟩]else[]
def gj (s:au) (l:List ae) (i m:Nat):List PB:=(List.range m).flatMap fun j:Nat=>nf s l i (1-(j:Int))
def gK (s:au) (l:List ae) (n:Nat):List PB:=(List.range n).flatMap fun i=>gj s l i 2
def da (s:au) (l:List ae):List PB:=gK s l l.length
theorem qk (s:au) (l:List ae) (i m:Nat):gj s l i (m+1)=gj s l i m++nf s l i (1-(m:Int)):=by simp[gj,List.range_succ]
theorem rK (s:au) (l:List ae) (n:Nat):gK s l (n+1)=gK s l n++gj s l n 2:=by simp[gK,List.range_succ]
theorem Dq (s:au) (l:List ae) (i:Nat) (d:Int):(nf s l i d).length<=1:=by unfold nf;split<;>simp
theorem rJ (s:au) (l:List ae) (i m:Nat):(gj s l i m).length<=m:=by
 induction m with
 |zero=>simp[gj]
 |succ m ih=>rw[qk,List.length_append];have:=Dq s l i (1-(m:Int));omega
theorem tM (s:au) (l:List ae) (n:Nat):(gK s l n).length<=2*n:=by
 induction n with
 |zero=>simp[gK]
 |succ n ih=>rw[rK,List.length_append];have:=rJ s l n 2;omega
def sB:Id->Prop:=fun o=>o.site=124001000∨o.site=124012006
theorem El (s:au) (l:List ae) (hS:jd s) (hA:kn s l):ar Tryz.prog 124 [.dn (aa s),.dn [.sl (l.map ai)]] (.sl ((da s l).map aC)):=by
 refine ar.body eG rfl fun hl n0=>?_
 clear hl
 have hF:=hA.1
 have GZ:=hF.BC
 (try((repeat(revert hN;revert N;apply Pn.out));refine wk @Nat.zero_add ?_;(repeat(refine Pn.mk ?_;intro N hN))))
 refine aM (fun n env st=>∃k:Nat,n=(l.length)-k/\k<=(l.length)/\env 6=.int .i64 (k:Int)/\(mT aC 3 (env 5) st.get sB (gK s l k))) (l.length) ⟨0,by omega,by omega,sl @Nat.zero_add,⟨⟨124001000,n0+1⟩,.inl rfl,by simp only[go_sem, ↓reduceIte,Nat.reduceEqDiff,Nat.reduceAdd,Nat.reduceSub,Nat.reduceLeDiff,reduceCtorEq];rfl,by simp only[go_sem, ↓reduceIte,Nat.reduceEqDiff,Nat.reduceAdd,Nat.reduceSub,Nat.reduceLeDiff,reduceCtorEq];rfl⟩⟩ ?_
 rintro n_a env_a st_a ⟨k,rfl,ale,a6,j8⟩ di
 have a0:=di 0 (by kernel_rfl);have a1:=di 1 (by kernel_rfl)
 simp only[go_sem, ↓reduceIte,Nat.reduceEqDiff,Nat.reduceAdd,Nat.reduceSub,Nat.reduceLeDiff,reduceCtorEq]at a0 a1
 clear di
 by_cases hk:(k:Int)<(l.length:Int)
 ·have cm:∀{e:Env} {gg:Rows},(e 6=.int .i64 (IntKind.i64.wrap ((k:Int)+1)))->(mT aC 3 (e 5) gg sB (gK s l (k+1)))->∃m0,m0<(l.length)-k/\∃k:Nat,m0=(l.length)-k/\k<=(l.length)/\e 6=.int .i64 (k:Int)/\(mT aC 3 (e 5) gg sB (gK s l k)):=fun x1 x2=>⟨_,by omega,k+1,rfl,by omega,(by rw[x1,ay (by omega)]),x2⟩
  have eU:k<l.length:=by omega
  have eB:=fC eU
  have L8:=tM s l k
  (try((repeat(revert hN;revert N;apply Pn.out));refine wk (tw @a6 (tw @a0 (tw @a1 @hk))) ?_;(repeat(refine Pn.mk ?_;intro N hN))))
  refine aM (fun n env st=>∃m:Nat,n=(2)-m/\m<=(2)/\env 7=(.int .i64 (1-(m:Int)))/\(mT aC 3 (env 5) st.get sB (gK s l k++gj s l k m))) (2) ⟨0,by omega,by omega,sl (tw @a6 (tw @a0 @a1)),by(simp only[go_sem, ↓reduceIte,Nat.reduceEqDiff,Nat.reduceAdd,Nat.reduceSub,Nat.reduceLeDiff,reduceCtorEq];exact j8.cast (by simp[gj]))⟩ ?_
  rintro n_b env_b st_b ⟨m,rfl,ble,b7,bI0⟩ e7
  have b0:=e7 0 (by kernel_rfl);have b1:=e7 1 (by kernel_rfl);have b6:=e7 6 (by kernel_rfl)
  simp only[go_sem, ↓reduceIte,Nat.reduceEqDiff,Nat.reduceAdd,Nat.reduceSub,Nat.reduceLeDiff,reduceCtorEq,a6,a0,a1]at b0 b1 b6
  clear e7
  have To:=rJ s l k m
  have lV:=qk s l k m
  by_cases hm:(m:Int)<2
  ·have ft:∀{e:Env} {gg:Rows},(e 7=(.int .i64 (1-((m+1):Int))))->(mT aC 3 (e 5) gg sB (gK s l k++gj s l k (m+1)))->∃m0,m0<(2)-m/\∃m:Nat,m0=(2)-m/\m<=(2)/\e 7=(.int .i64 (1-(m:Int)))/\(mT aC 3 (e 5) gg sB (gK s l k++gj s l k m)):=fun x1 x2=>⟨_,by omega,m+1,rfl,by omega,x1,x2⟩
   have qO:(0:Int)<=1-(m:Int):=by omega
   have hd:gJ (1-(m:Int)) 0 3=true:=jr (by omega)
   have hw:IntKind.i64.wrap (1-(m:Int)-1)=1-((m:Int)+1):=by rw[br (by omega)];omega
   have Ty:=xS l hF k (1-(m:Int)) eU hd
   unfold nf at lV
   have hT:=hA.2 _ (gT eU)
   generalize C7:eO l (bd (aV l k).bH (1-(m:Int)))=ix at *
   by_cases hi:ix<0
   ·rw[if_neg (by omega),List.append_nil]at lV
    (repeat(first|((repeat(revert hN;revert N;apply Pn.out));refine wk (tw @b7 (tw @b0 (tw @b1 (tw @b6 (tw @qO (tw @hw @hi)))))) ?_;(repeat(refine Pn.mk ?_;intro N hN)))|((try apply Or.inl);refine⟨_,ar.x (Ty) (sd (tw @b7 (tw @b0 (tw @b1 (tw @b6 (tw @qO (tw @hw @hi))))))),?_⟩;refine hN _ _ ?_;clear hN N)))
    exact ft (sd (tw @b7 (tw @b0 (tw @b1 (tw @b6 @hw))))) (by(simp only[go_sem, ↓reduceIte,Nat.reduceEqDiff,Nat.reduceAdd,Nat.reduceSub,Nat.reduceLeDiff,reduceCtorEq];exact bI0.cast (by rw[lV])))
   ·have Ic:0<=ix:=by omega
    have OZ:=kM (l:=l) (p:=bd (aV l k).bH (1-(m:Int))) (by omega)
    rw[C7]at OZ
    have kJ:=fC OZ.1
    have yw:=Hd s hS (aV l k).bx (1-(m:Int)) (aV l ix.toNat).bx hT (hA.2 _ (gT OZ.1)) hd
    generalize Tl:gS s (aV l k).bx (1-(m:Int)) (aV l ix.toNat).bx=bv at *
    by_cases hb:0<bv
    ·rw[if_pos ⟨Ic,hb⟩]at lV
     (repeat(first|((repeat(revert hN;revert N;apply Pn.out));refine wa (tw @b7 (tw @b0 (tw @b1 (tw @b6 (tw @qO (tw @hw (tw @hi (tw @Ic (tw @eB (tw @kJ (tw @hb @ai.eq_1))))))))))) ?_;(repeat(refine Pn.mk ?_;intro N hN)))|((try apply Or.inl);refine⟨_,ar.x (Ty) (sd (tw @b7 (tw @b0 (tw @b1 (tw @b6 (tw @qO (tw @hw (tw @hi (tw @Ic (tw @eB (tw @kJ (tw @hb @ai.eq_1)))))))))))),?_⟩;refine hN _ _ ?_;clear hN N)|((try apply Or.inl);refine⟨_,ar.x (yw) (sd (tw @b7 (tw @b0 (tw @b1 (tw @b6 (tw @qO (tw @hw (tw @hi (tw @Ic (tw @eB (tw @kJ (tw @hb @ai.eq_1)))))))))))),?_⟩;refine hN _ _ ?_;clear hN N)))
     refine PX (enc:=aC) (S:=sB) (L:=gK s l k++gj s l k m) (xv:=env_b 5) [⟨k,ix.toNat,bv⟩] rfl rfl (sd @Nat.zero_add) (bI0.frame fun o ho=>by rcases ho with ho|ho<;>simp only[go_sem, ↓reduceIte,Nat.reduceEqDiff,Nat.reduceAdd,Nat.reduceSub,Nat.reduceLeDiff,reduceCtorEq,Ax ho]) (sd (tw @aC.eq_1 (Int.toNat_of_nonneg Ic))) NZ (.inr rfl) (by simp only[dD,List.length_append,List.length_cons,List.length_nil];omega) fun v g' hO mz=>?_
     rw[List.append_assoc,<-lV]at hO
     clear mz
     (try((repeat(revert hN;revert N;apply Pn.out));refine wk (tw @b7 (tw @b0 (tw @b1 (tw @b6 @hw)))) ?_;(repeat(refine Pn.mk ?_;intro N hN))))
     exact ft (sd (tw @b7 (tw @b0 (tw @b1 (tw @b6 @hw))))) (by(simp only[go_sem, ↓reduceIte,Nat.reduceEqDiff,Nat.reduceAdd,Nat.reduceSub,Nat.reduceLeDiff,reduceCtorEq];exact hO))
    ·rw[if_neg fun h=>hb h.2,List.append_nil]at lV
     (repeat(first|((repeat(revert hN;revert N;apply Pn.out));refine wk (tw @b7 (tw @b0 (tw @b1 (tw @b6 (tw @qO (tw @hw (tw @hi (tw @Ic (tw @eB (tw @kJ (tw @hb @ai.eq_1))))))))))) ?_;(repeat(refine Pn.mk ?_;intro N hN)))|((try apply Or.inl);refine⟨_,ar.x (Ty) (sd (tw @b7 (tw @b0 (tw @b1 (tw @b6 (tw @qO (tw @hw (tw @hi (tw @Ic (tw @eB (tw @kJ (tw @hb @ai.eq_1)))))))))))),?_⟩;refine hN _ _ ?_;clear hN N)|((try apply Or.inl);refine⟨_,ar.x (yw) (sd (tw @b7 (tw @b0 (tw @b1 (tw @b6 (tw @qO (tw @hw (tw @hi (tw @Ic (tw @eB (tw @kJ (tw @hb @ai.eq_1)))))))))))),?_⟩;refine hN _ _ ?_;clear hN N)))
     exact ft (sd (tw @b7 (tw @b0 (tw @b1 (tw @b6 @hw))))) (by(simp only[go_sem, ↓reduceIte,Nat.reduceEqDiff,Nat.reduceAdd,Nat.reduceSub,Nat.reduceLeDiff,reduceCtorEq];exact bI0.cast (by rw[lV])))
  ·have NF:m=2:=by omega
   subst NF
   have dV:¬(0:Int)<=1-((2:Nat):Int):=by omega
   (try((repeat(revert hN;revert N;apply Pn.out));refine wk (tw @b7 (tw @b0 (tw @b1 (tw @b6 @dV)))) ?_;(repeat(refine Pn.mk ?_;intro N hN))))
   exact cm (sd (tw @a6 (tw @a0 (tw @a1 (tw @b7 (tw @b0 (tw @b1 @b6))))))) (by(simp only[go_sem, ↓reduceIte,Nat.reduceEqDiff,Nat.reduceAdd,Nat.reduceSub,Nat.reduceLeDiff,reduceCtorEq];exact bI0.cast (by rw[rK])))
 ·have jN:k=l.length:=by omega
  (try((repeat(revert hN;revert N;apply Pn.out));refine wk (tw @a6 (tw @a0 (tw @a1 @hk))) ?_;(repeat(refine Pn.mk ?_;intro N hN))))
  exact w7 (.inl rfl) (by simp only[go_sem, ↓reduceIte,Nat.reduceEqDiff,Nat.reduceAdd,Nat.reduceSub,Nat.reduceLeDiff,reduceCtorEq];rfl) (by rw[jN]at j8;exact j8.gx fun b=>uN _ _ b)
end Go.Proofs.YtgoljkjaameagaaGreat.V
