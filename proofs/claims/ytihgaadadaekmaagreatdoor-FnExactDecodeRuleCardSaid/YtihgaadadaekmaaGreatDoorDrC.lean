/- Slices of one's own that grow from an empty one. -/
import Derived.Test.YtihgaadadaekmaaGreatDoorDrB
import Derived.Test.YtihgaadadaekmaaGreatDoorChecked
set_option linter.unusedVariables false
set_option linter.unusedSimpArgs false
set_option maxRecDepth 100000
set_option maxHeartbeats 16000000
namespace Go.Proofs.YtihgaadadaekmaaGreatDoor.V
open Go.RowKit
variable {P:Program} {X:e6} {K:Env->aw->Prop} {env:Env} {σ:aw}
def lr {α:Type} (enc:α->List AV) (sz:Nat) (x:AV) (g:Rows) (S:Id->Prop) (L:List α):Prop:=∃o:Id,S o/\x=.own o 0 L.length/\g o=some ⟨true,sz,L.map enc⟩
section
variable {α:Type} {enc:α->List AV} {sz:Nat} {x:AV} {g g':Rows} {S:Id->Prop} {L L':List α}
theorem lr.cast (h:lr enc sz x g S L) (hL:L'=L):lr enc sz x g S L':=by subst hL;exact h
theorem lr.frame (h:lr enc sz x g S L) (hg:∀o:Id,S o->g' o=g o):lr enc sz x g' S L:=by
 obtain⟨o,h1,h2,h3⟩:=h
 exact⟨o,h1,h2,(hg o h1).trans h3⟩
theorem lr.app (hz:∀a,(enc a).length=sz/\(enc a).all AV.cell=true) (h:lr enc sz x g S L) (id:Id) (hid:S id) (M:List α) (hlen:L.length+M.length<=dJ):
  ∃v g',aZ g id sz x (M.map enc)=some (v,g')/\lr enc sz v g' S (L++M)/\∀j:Id,¬S j->g' j=g j:=by
 obtain⟨o,h1,rfl,h4⟩:=h
 refine⟨.own id 0 (L.length+(M.map enc).length),bK (bY g o) id ⟨true,sz,L.map enc++M.map enc⟩,?_,⟨id,hid,by simp,by simp[bK]⟩,fun j hj=>?_⟩
 ·have ha:=all_map (l:=M) hz
  simp only[aZ,h4,Option.bind_some]
  rw[if_pos ⟨trivial,trivial,by simp,by simpa using hlen,ha⟩]
 ·have e1:¬j=id:=fun h=>hj (h▸hid)
  have e2:¬j=o:=fun h=>hj (h▸h1)
  simp[bK,bY,e1,e2]
theorem L3 {draw:Bool} {o:aV} {r:List aV} {x' y:O} {xv:AV} (M:List α) (ho:o.op=.append sz x' y) (hw:aI o.guard env=true) (hx:cv env x'=xv) (hO:lr enc sz xv σ.get S L)
  (hy:br σ.get (cv env y)=some (M.map enc)) (hz:∀a,(enc a).length=sz/\(enc a).all AV.cell=true) (hid:S ⟨o.site,σ.next⟩) (hlen:L.length+M.length<=dJ)
  (next:∀v g',lr enc sz v g' S (L++M)->(∀j:Id,¬S j->g' j=σ.get j)->wpOps X draw r K (upd env o.dst v) ⟨g',σ.next⟩):wpOps X draw (o::r) K env σ:=by
 obtain⟨v,g',h1,h2,h3⟩:=hO.app hz ⟨o.site,σ.next⟩ hid M hlen
 unfold wpOps
 rw[if_pos hw]
 unfold fI
 simp only[ho,fW,hy,hx,Option.bind_some,h1]
 exact next v g' h2 h3
theorem lr.fa {n:Nat} (h:lr enc sz x g S L) (he:∀a,dv g n (enc a)=some (enc a)):fa g (n+1) x=some (.sl (L.map enc)):=by
 obtain⟨o,_,rfl,h3⟩:=h
 exact ft h3 rfl he
end
theorem dj {a b:Id} (h:a.bV<b.bV):(a=b)=False/\(b=a)=False:=by
 constructor<;>(simp only[eq_iff_iff,iff_false];rintro rfl;omega)
theorem xc {o:Id} {a:Nat} (h:o.site=a) {b v:Nat} (rh:(a==b)=false):(o=⟨b,v⟩)=False:=by
 simp only[eq_iff_iff,iff_false]
 rintro rfl
 simp only at h
 subst h
 simp at rh
def eN (n:Nat):List AV:=[.int .i64 n]
theorem fzN (g:Rows) (n:Nat) (a:Nat):bW g (n+1) (eN a)=some (eN a):=by simp[eN,ad,aj,aH]
theorem KM (g:Rows) (n:Nat) (a:Nat):dv g (n+1) (eN a)=some (eN a):=by simp[eN,bd,bE,dV]
def Mn:tT (List Nat):=fun g cs x ids=>∃id,cs=[.own id 0 x.length]/\g id=some ⟨true,1,x.map eN⟩/\ids=[id]
theorem Lz:ou Mn 1 where
 frame:=fun⟨id,h1,h2,h3⟩ hf=>by subst h3;exact⟨id,h1,(hf id (by simp)).trans h2,rfl⟩
 len:=fun⟨id,h1,_⟩=>by subst h1;rfl
 cell:=fun⟨id,h1,_⟩=>by subst h1;rfl
 live:=fun⟨id,h1,h2,h3⟩ i hi=>by
  subst h3
  have:i=id:=by simpa using hi
  subst this
  exact⟨_,h2,rfl,by simp[n9]⟩
 small:=by simp[n9]
def xw (l:List Nat):List AV:=[.sl (l.map eN)]
theorem Gq {g:Rows} {rows:List (List AV)} {xs:List (List Nat)} {ids:List Id} (n:Nat) (h:cD Mn g rows xs ids):fq g (n+2) rows=some (xs.map xw):=by
 induction h with
 |nil=>rw[fq];rfl
 |cons h1 _ ih=>
  obtain⟨id,rfl,h2,_⟩:=h1
  rw[fq,ih,bd,bE,ft (e:=eN) (sz:=1) h2 rfl fun a=>KM g n a];rfl
end Go.Proofs.YtihgaadadaekmaaGreatDoor.V

namespace Go.Proofs.YtihgaadadaekmaaGreatDoor.V
open Go.RowKit
attribute [local irreducible] dP wpOps gN Call
attribute [local go_sem] aI fI eE fW fV cv upd cq K.av cL AV.cells AV.cell rowOf rowsOf part ld rowAt bK bY dH eh ij bL da eA fZ eX dr eo cY cX dR dS bR bf cQ bQ cT cR ej ep ek cP bU cZ ei bP aM cV cz ig br cI bS aZ dD bp dJ AV.undef bB bH dX ef dO ea cF ez eC cu eu er cU cW List.getD_cons_zero List.getD_cons_succ List.getD_nil List.all_cons List.all_nil Bool.and_true Bool.true_and Bool.and_self Bool.not_true Bool.not_false Option.map_some Option.map_none Option.bind_some Option.bind_none List.length_cons List.length_nil List.take_succ_cons List.take_zero List.take_nil List.drop_succ_cons List.drop_zero List.drop_nil List.head?_cons List.map_cons List.map_nil List.getElem?_cons_zero List.getElem?_cons_succ List.cons_append List.nil_append List.append_nil List.length_map List.set_cons_zero List.set_cons_succ Nat.reduceMul eq_self Int.toNat_natCast Int.natCast_nonneg and_self true_and and_true decide_true decide_false Bool.false_eq_true Nat.zero_add Nat.add_zero List.contains_cons List.contains_nil Bool.or_false Bool.false_or beq_self_eq_true Nat.reduceBEq ne_eq not_true_eq_false not_false_eq_true Id.mk.injEq false_and and_false Nat.reduceLT Int.reduceLE Int.reduceLT Int.reduceToNat Int.reduceNeg Int.reduceAdd Nat.le_refl List.length_append beq_true beq_false Bool.not_eq_eq_eq_not or_false false_or dz ad aj aH bx cl aQ bj aW bh cN bz
variable {P:Program}
def HO {α:Type} (R:tT α) (x:α) (σ:aw) (r:AV) (σ':aw):Prop:=∃cs ids,r=.agg cs/\R σ'.get cs x ids/\dZ σ.next σ'.next ids/\Kept σ σ'
def fh {α:Type} (R:tT α) (z:Nat) (g:Rows) (a:AV) (xs:List α) (ids:List Id):Prop:=∃o rows is,a=.own o 0 xs.length/\g o=some ⟨true,z,rows⟩/\cD R g rows xs is/\ids=o::is
def HP {α:Type} (R:tT α) (z:Nat) (xs:List α) (σ:aw) (r:AV) (σ':aw):Prop:=∃ids,fh R z σ'.get r xs ids/\dZ σ.next σ'.next ids/\Kept σ σ'
theorem fh.frame {α:Type} {R:tT α} {z:Nat} {g g':Rows} {a:AV} {xs:List α} {ids:List Id} (ok:ou R z) (h:fh R z g a xs ids) (hf:∀i∈ids,g' i=g i):fh R z g' a xs ids:=by
 obtain⟨o,rows,is,h1,h2,h3,rfl⟩:=h
 exact⟨o,rows,is,h1,(hf o (by simp)).trans h2,h3.frame ok fun i hi=>hf i (by simp[hi]),rfl⟩
theorem fh.fz {α:Type} {R:tT α} {z n:Nat} {e:α->List AV} {g:Rows} {a:AV} {xs:List α} {ids:List Id} (h:fh R z g a xs ids) (hz:∀{cs x ids},R g cs x ids->bW (dz g) n cs=some (e x)):V.fz (dz g) (n+1) a=some (.sl (xs.map e)):=by
 obtain⟨o,rows,is,rfl,h2,h3,rfl⟩:=h
 rw[fP]
 simp only[dz,h2,Option.map_some,if_true]
 rw[if_pos (by rw[h3.len];omega),List.drop_zero,List.take_of_length_le (by rw[h3.len];exact Nat.le_refl _),h3.fz hz];rfl
def kr {α:Type} (e:α->List AV):tT α:=fun _ cs x ids=>cs=e x/\ids=[]
theorem FD {α:Type} {e:α->List AV} {z:Nat} (hz:∀x,(e x).length=z) (hc:∀x,(e x).all AV.cell=true) (hs:z<n9):ou (kr e) z where
 frame:=fun h _=>h
 len:=fun h=>by rw[h.1];exact hz _
 cell:=fun h=>by rw[h.1];exact hc _
 live:=fun h i hi=>by rw[h.2]at hi;cases hi
 small:=hs
def mL:tT ee:=fun g cs t ids=>∃i,cs=[.str t.aB,.own i 0 t.aX.length]/\g i=some ⟨true,1,t.aX.map az⟩/\ids=[i]
theorem oV:ou mL 2 where
 frame:=fun⟨i,h1,h2,h3⟩ hf=>⟨i,h1,(hf i (by rw[h3];simp)).trans h2,h3⟩
 len:=fun⟨i,h1,_⟩=>by rw[h1];rfl
 cell:=fun⟨i,h1,_⟩=>by rw[h1];rfl
 live:=fun⟨i,h1,h2,h3⟩ j hj=>by
  rw[h3]at hj
  have:j=i:=by simpa using hj
  subst this
  exact⟨_,h2,rfl,by simp[n9]⟩
 small:=by simp[n9]
theorem Jq {g:Rows} {cs:List AV} {t:ee} {ids:List Id} (n:Nat) (h:mL g cs t ids):bW (dz g) (n+2) cs=some (aU t):=by
 obtain⟨i,rfl,h2,_⟩:=h
 have h3:V.fz (dz g) (n+2) (.own i 0 t.aX.length)=some (.sl (t.aX.map az)):=fA (e:=az) (sz:=1) (by simp[dz,h2]) rfl fun x=>by simp[az,ad,aj,aH]
 simp only[ad,aj,bx,h3,Option.map_some,aU]
theorem Jl {α:Type} {a b:List α} {x y:α} {k:Nat} (hk:a.length=k):(a++x::b).set k y=a++[y]++b:=by subst hk;simp
theorem xk {α:Type} {R:tT α} {en:α->List AV} {z fk gk:Nat} {zero:List K} (ok:ou R z) (hc:lE P fk=some (rH fk gk z zero)) (EV:zero.length=z) (hz:∀x,(en x).length=z) (xs:List α) (hlen:xs.length<=1048576)
  (hg:∀x∈xs,∀σ,Call P gk [.agg (en x)] σ (HO R x σ)) (σ:aw):Call P fk [.sl (xs.map en)] σ (HP R z xs σ):=by
 refine eZ hc rfl fun hl=>?_
 try simp only[q]
 clear hl
 have hm:(xs.length:Int)<=((16777216:Nat):Int):=ab
 have h0:(0:Int)<=(xs.length:Int):=ab
 (try((repeat(revert hN;revert N;apply Pn.out));refine wk (tw @hm (tw @h0 (tw @Int.le_refl @EV))) ?_;(repeat(refine Pn.mk ?_;intro N hN))))
 refine aL (fun n env st=>∃k:Nat,n=(xs.length)-k/\k<=(xs.length)/\env 4=.int .i64 (k:Int)/\(σ.next+2<=st.next/\(∀y:Id,y.bV<σ.next->st.get y=σ.get y)/\∃rows is,st.get ⟨fk*1000000+1002,σ.next+1⟩=some ⟨true,z,rows++List.replicate (xs.length-k) (zero.map K.av)⟩/\cD R st.get rows (xs.take k) is/\dZ (σ.next+2) st.next is)) (xs.length) ⟨0,ab,ab,sl @Nat.zero_add,by(try dsimp only);exact⟨ab,fun y hy=>by
  have h1:=eD hy
  simp only[go_sem, ↓reduceIte,Nat.reduceEqDiff,Nat.reduceAdd,Nat.reduceSub,Nat.reduceLeDiff,reduceCtorEq,h1],[],[],sl @Nat.zero_add,.nil,List.nodup_nil,fun i hi=>by cases hi⟩⟩ ?_
 rintro n_a env_a st_a ⟨k,rfl,ale,a4,lx⟩ dC
 have a0:=dC 0 (by kernel_rfl);have a3:=dC 3 (by kernel_rfl)
 simp only[go_sem, ↓reduceIte,Nat.reduceEqDiff,Nat.reduceAdd,Nat.reduceSub,Nat.reduceLeDiff,reduceCtorEq]at a0 a3
 clear dC
 obtain⟨an,aK,rows,is,ag,aR,aN⟩:=lx
 have mz:rows.length=k:=by rw[aR.len,List.length_take];omega
 by_cases hk:(k:Int)<(xs.length:Int)
 ·have bZ:∀{e:Env} {gg:Rows} {nx:Nat},(e 4=.int .i64 (IntKind.i64.wrap ((k:Int)+1)))->(σ.next+2<=nx/\(∀y:Id,y.bV<σ.next->gg y=σ.get y)/\∃rows is,gg ⟨fk*1000000+1002,σ.next+1⟩=some ⟨true,z,rows++List.replicate (xs.length-(k+1)) (zero.map K.av)⟩/\cD R gg rows (xs.take (k+1)) is/\dZ (σ.next+2) nx is)->∃m0,m0<(xs.length)-k/\∃k:Nat,m0=(xs.length)-k/\k<=(xs.length)/\e 4=.int .i64 (k:Int)/\(σ.next+2<=nx/\(∀y:Id,y.bV<σ.next->gg y=σ.get y)/\∃rows is,gg ⟨fk*1000000+1002,σ.next+1⟩=some ⟨true,z,rows++List.replicate (xs.length-k) (zero.map K.av)⟩/\cD R gg rows (xs.take k) is/\dZ (σ.next+2) nx is):=fun x1 x2=>⟨_,ab,k+1,rfl,ab,(by rw[x1,ax ab]),x2⟩
  have eY:k<xs.length:=ab
  have eB:(xs.map en)[k]? =some (en xs[k]):=by simp[eY]
  have rm:=hz xs[k]
  have ht:(en xs[k]).take z=en xs[k]:=by rw[<-rm,List.take_length]
  have gw:=hg _ (List.getElem_mem eY)
  obtain⟨m,JW⟩:∃m,xs.length-k=m+1:=⟨xs.length-k-1,ab⟩
  rw[JW,List.replicate_succ]at ag
  generalize hex:en xs[k]=c at gw eB rm ht
  (try((repeat(revert hN;revert N;apply Pn.out));refine wk (tw @a4 (tw @a0 (tw @a3 (tw @hk (tw @eB (tw @rm (tw @ht @Nat.le_refl))))))) ?_;(repeat(refine Pn.mk ?_;intro N hN))))
  refine .inr (aO _ _ _ _ _ (fun r σ1 hq=>?_) (gw _))
  obtain⟨cs,ids,rfl,hR,hI,hK⟩:=hq
  obtain⟨g1,x1⟩:=σ1
  (try dsimp only at hR hI hK)
  have xD:=(hK.2 ⟨fk*1000000+1002,σ.next+1⟩ bt)
  simp only[go_sem, ↓reduceIte,Nat.reduceEqDiff,Nat.reduceAdd,Nat.reduceSub,Nat.reduceLeDiff,reduceCtorEq,ag]at xD
  have mm:=ok.len hR
  have wH:=ok.cell hR
  have dE:(rows++zero.map K.av::List.replicate m (zero.map K.av))[k]? =some (zero.map K.av):=by rw[List.getElem?_append_right ab,mz,Nat.sub_self];rfl
  have dK:(rows++zero.map K.av::List.replicate m (zero.map K.av)).set k cs=rows++[cs]++List.replicate m (zero.map K.av):=Jl mz
  have FO:(zero.map K.av).drop z=[]:=List.drop_of_length_le (by simp[EV])
  have xE:(rows++zero.map K.av::List.replicate m (zero.map K.av)).length=xs.length:=by simp[mz];omega
  refine hN _ _ ?_
  clear hN N
  (try((repeat(revert hN;revert N;apply Pn.out));refine wk (tw @a4 (tw @a0 (tw @a3 (tw @hk (tw @xD (tw @dE (tw @dK (tw @xE (tw @FO (tw @sw (tw @mm (tw @wH (tw @Nat.le_refl @EV))))))))))))) ?_;(repeat(refine Pn.mk ?_;intro N hN))))
  have uq:=hK.1
  have Hw:∀i∈is,(i=⟨fk*1000000+1002,σ.next+1⟩)=False:=fun i hi=>eq_false fun e=>by
   have:=(aN.2 i hi).1
   subst e;(try dsimp only at this);omega
  have r8:∀i∈ids,(i=⟨fk*1000000+1002,σ.next+1⟩)=False:=fun i hi=>eq_false fun e=>by
   have:=(hI.2 i hi).1
   subst e;(try dsimp only at this);omega
  exact bZ (sd (tw @a4 (tw @a0 @a3))) (by(try dsimp only at *);exact⟨ab,fun y hy=>by
   have h1:=eD hy
   have h2:=hK.2 y bt
   have h3:=aK y hy
   simp only[go_sem, ↓reduceIte,Nat.reduceEqDiff,Nat.reduceAdd,Nat.reduceSub,Nat.reduceLeDiff,reduceCtorEq]at h2
   simp only[go_sem, ↓reduceIte,Nat.reduceEqDiff,Nat.reduceAdd,Nat.reduceSub,Nat.reduceLeDiff,reduceCtorEq,h1,h2,h3],rows++[cs],is++ids,by
    rw[show xs.length-(k+1)=m by omega]
    simp only[go_sem, ↓reduceIte,Nat.reduceEqDiff,Nat.reduceAdd,Nat.reduceSub,Nat.reduceLeDiff,reduceCtorEq]<;>rfl,by
    rw[List.take_succ_eq_append_getElem eY]
    refine((aR.frame ok fun i hi=>?_).app (.one (ok.frame hR fun i hi=>?_)))
    ·have h1:=Hw i hi
     have h2:=hK.2 i (by(try dsimp only);have:=(aN.2 i hi).2;omega)
     simp only[go_sem, ↓reduceIte,Nat.reduceEqDiff,Nat.reduceAdd,Nat.reduceSub,Nat.reduceLeDiff,reduceCtorEq]at h2
     simp only[go_sem, ↓reduceIte,Nat.reduceEqDiff,Nat.reduceAdd,Nat.reduceSub,Nat.reduceLeDiff,reduceCtorEq,h1,h2]
    ·have h1:=r8 i hi
     simp only[go_sem, ↓reduceIte,Nat.reduceEqDiff,Nat.reduceAdd,Nat.reduceSub,Nat.reduceLeDiff,reduceCtorEq,h1],(aN.app hI bt ab bt).wide (Nat.le_refl _) bt⟩)
 ·(try((repeat(revert hN;revert N;apply Pn.out));refine wk (tw @a4 (tw @a0 (tw @a3 @hk))) ?_;(repeat(refine Pn.mk ?_;intro N hN))))
  have eY:k=xs.length:=ab
  subst eY
  rw[Nat.sub_self,List.replicate_zero,List.append_nil]at ag
  rw[List.take_length]at aR
  refine gn (.inl rfl) (vs:=[.own ⟨fk*1000000+1002,σ.next+1⟩ 0 xs.length]) (sd (tw @a4 (tw @a0 @a3))) ?_
  exact⟨_,⟨_,rows,is,rfl,ag,aR,rfl⟩,⟨List.nodup_cons.2 ⟨fun hi=>by have:=(aN.2 _ hi).1;(try dsimp only at this);omega,aN.1⟩,fun i hi=>by
   rcases List.mem_cons.1 hi with rfl|hi
   ·(try dsimp only);omega
   ·have:=aN.2 i hi;(try dsimp only);omega⟩,⟨bt,fun j hj=>aK j hj⟩⟩
end Go.Proofs.YtihgaadadaekmaaGreatDoor.V

namespace Go.Proofs.YtihgaadadaekmaaGreatDoor.V
open Go.RowKit
attribute [local irreducible] dP wpOps gN Call
attribute [local go_sem] aI fI eE fW fV cv upd cq K.av cL AV.cells AV.cell rowOf rowsOf part ld rowAt bK bY dH eh ij bL da eA fZ eX dr eo cY cX dR dS bR bf cQ bQ cT cR ej ep ek cP bU cZ ei bP aM cV cz ig br cI bS aZ dD bp dJ AV.undef bB bH dX ef dO ea cF ez eC cu eu er cU cW List.getD_cons_zero List.getD_cons_succ List.getD_nil List.all_cons List.all_nil Bool.and_true Bool.true_and Bool.and_self Bool.not_true Bool.not_false Option.map_some Option.map_none Option.bind_some Option.bind_none List.length_cons List.length_nil List.take_succ_cons List.take_zero List.take_nil List.drop_succ_cons List.drop_zero List.drop_nil List.head?_cons List.map_cons List.map_nil List.getElem?_cons_zero List.getElem?_cons_succ List.cons_append List.nil_append List.append_nil List.length_map List.set_cons_zero List.set_cons_succ Nat.reduceMul eq_self Int.toNat_natCast Int.natCast_nonneg and_self true_and and_true decide_true decide_false Bool.false_eq_true Nat.zero_add Nat.add_zero List.contains_cons List.contains_nil Bool.or_false Bool.false_or beq_self_eq_true Nat.reduceBEq ne_eq not_true_eq_false not_false_eq_true Id.mk.injEq false_and and_false Nat.reduceLT Int.reduceLE Int.reduceLT Int.reduceToNat Int.reduceNeg Int.reduceAdd Nat.le_refl List.length_append beq_true beq_false Bool.not_eq_eq_eq_not or_false false_or dz ad aj aH bx cl aQ bj aW bh cN bz
theorem fh.jV {α:Type} {R:tT α} {z:Nat} {g:Rows} {a:AV} {xs:List α} {ids:List Id} (h:fh R z g a xs ids):∃o,a=.own o 0 xs.length:=by
 obtain⟨o,rows,is,rfl,_⟩:=h;exact⟨o,rfl⟩
theorem Hd (xs:List Int) (hlen:xs.length<=1048576) (σ:aw):Call Tryz.prog 86 [.sl (xs.map az)] σ (fun r σ'=>∃i,r=.own i 0 xs.length/\σ'.get i=some ⟨true,1,xs.map az⟩/\dZ σ.next σ'.next [i]/\Kept σ σ'):=by
 refine eZ (show lE Tryz.prog 86=some (Hf 86 (.int .i64 0)) by kernel_rfl) rfl fun hl=>?_
 try simp only[q]
 clear hl
 obtain⟨en,Hz⟩:∃en:Int->List AV,en=az:=⟨_,rfl⟩
 rw[<-Hz]
 have hm:(xs.length:Int)<=((16777216:Nat):Int):=ab
 have h0:(0:Int)<=(xs.length:Int):=ab
 (try((repeat(revert hN;revert N;apply Pn.out));refine wk (tw @hm (tw @h0 (tw @Int.le_refl (mW en [AV.int .i64 0] xs)))) ?_;(repeat(refine Pn.mk ?_;intro N hN))))
 refine aL (fun n env st=>∃k:Nat,n=(xs.length)-k/\k<=(xs.length)/\env 4=.int .i64 (k:Int)/\st.get ⟨86*1000000+1002,σ.next+1⟩=some ⟨true,1,fN en [AV.int .i64 0] xs k⟩/\(σ.next+2<=st.next/\∀y:Id,y.bV<σ.next->st.get y=σ.get y)) (xs.length) ⟨0,ab,ab,sl @Nat.zero_add,sl @Nat.zero_add,by(try dsimp only);exact⟨ab,fun y hy=>by
  have h1:=eD hy
  simp only[go_sem, ↓reduceIte,Nat.reduceEqDiff,Nat.reduceAdd,Nat.reduceSub,Nat.reduceLeDiff,reduceCtorEq,h1]⟩⟩ ?_
 rintro n_a env_a st_a ⟨k,rfl,ale,a4,ag0,lx⟩ dC
 have a0:=dC 0 (by kernel_rfl);have a3:=dC 3 (by kernel_rfl)
 simp only[go_sem, ↓reduceIte,Nat.reduceEqDiff,Nat.reduceAdd,Nat.reduceSub,Nat.reduceLeDiff,reduceCtorEq]at a0 a3
 clear dC
 obtain⟨an,aK⟩:=lx
 by_cases hk:(k:Int)<(xs.length:Int)
 ·have bZ:∀{e:Env} {gg:Rows} {nx:Nat},(e 4=.int .i64 (IntKind.i64.wrap ((k:Int)+1)))->(gg ⟨86*1000000+1002,σ.next+1⟩=some ⟨true,1,fN en [AV.int .i64 0] xs (k+1)⟩)->(σ.next+2<=nx/\∀y:Id,y.bV<σ.next->gg y=σ.get y)->∃m0,m0<(xs.length)-k/\∃k:Nat,m0=(xs.length)-k/\k<=(xs.length)/\e 4=.int .i64 (k:Int)/\gg ⟨86*1000000+1002,σ.next+1⟩=some ⟨true,1,fN en [AV.int .i64 0] xs k⟩/\(σ.next+2<=nx/\∀y:Id,y.bV<σ.next->gg y=σ.get y):=fun x1 x2 x3=>⟨_,ab,k+1,rfl,ab,(by rw[x1,ax ab]),x2,x3⟩
  have eY:k<xs.length:=ab
  have eB:(xs.map en)[k]? =some [AV.int .i64 xs[k]]:=by simp[eY,Hz,az]
  have fu:=oC en [AV.int .i64 0] xs eY
  have dK:=oD en [AV.int .i64 0] xs eY
  rw[show en xs[k]=[AV.int .i64 xs[k]] by rw[Hz];rfl]at dK
  (try((repeat(revert hN;revert N;apply Pn.out));refine wk (tw @a4 (tw @ag0 (tw @a0 (tw @a3 (tw @hk (tw @eB (tw @fu @dK))))))) ?_;(repeat(refine Pn.mk ?_;intro N hN))))
  refine bZ ?_ ?_ (by(try dsimp only);exact⟨ab,fun y hy=>by
   have h1:=eD hy
   have h3:=aK y hy
   simp only[go_sem, ↓reduceIte,Nat.reduceEqDiff,Nat.reduceAdd,Nat.reduceSub,Nat.reduceLeDiff,reduceCtorEq,h1,h3]⟩)
  all_goals simp only[go_sem, ↓reduceIte,Nat.reduceEqDiff,Nat.reduceAdd,Nat.reduceSub,Nat.reduceLeDiff,reduceCtorEq,a4,ag0,a0,a3]
 ·(try((repeat(revert hN;revert N;apply Pn.out));refine wk (tw @a4 (tw @ag0 (tw @a0 (tw @a3 @hk)))) ?_;(repeat(refine Pn.mk ?_;intro N hN))))
  have eY:k=xs.length:=ab
  subst eY
  refine gn (.inl rfl) (vs:=[.own ⟨86*1000000+1002,σ.next+1⟩ 0 xs.length]) (sd (tw @a4 (tw @ag0 (tw @a0 @a3)))) ?_
  rw[oB]at ag0
  exact⟨_,rfl,ag0,⟨List.nodup_cons.2 ⟨by simp,List.nodup_nil⟩,fun i hi=>by
   rw[List.mem_singleton.1 hi];(try dsimp only);omega⟩,⟨bt,fun j hj=>aK j hj⟩⟩
theorem Hg (p:ee) (hs:qd p) (σ:aw):Call Tryz.prog 99 [.agg (aU p)] σ (HO mL p σ):=by
 refine eZ dN rfl fun hl=>?_
 clear hl
 (try((repeat(revert hN;revert N;apply Pn.out));refine wk @aU.eq_1 ?_;(repeat(refine Pn.mk ?_;intro N hN))))
 refine .inr (aO _ _ _ _ _ (fun r σ1 hq=>?_) (Hd p.aX hs _))
 obtain⟨i,rfl,hg,hI,hK⟩:=hq
 obtain⟨g1,x1⟩:=σ1
 (try dsimp only at hg hI hK)
 have hn:=hK.1
 refine hN _ _ ?_
 clear hN N
 have hi:=hI.2 i (by simp)
 have k2:=hK.2 ⟨99000001,σ.next⟩ bt
 have k3:=hK.2 ⟨99001000,σ.next+1⟩ bt
 simp only[go_sem, ↓reduceIte,Nat.reduceEqDiff,Nat.reduceAdd,Nat.reduceSub,Nat.reduceLeDiff,reduceCtorEq]at k2 k3
 (try((repeat(revert hN;revert N;apply Pn.out));refine wk (tw @aU.eq_1 (tw @k2 @k3)) ?_;(repeat(refine Pn.mk ?_;intro N hN))))
 refine gn (.inl rfl) (vs:=[.agg [.str p.aB,.own i 0 p.aX.length]]) (sd @Nat.zero_add) ?_
 refine⟨_,[i],rfl,⟨i,rfl,?_,rfl⟩,⟨hI.1,fun j hj=>?_⟩,⟨?_,fun j hj=>?_⟩⟩
 ·have i2:=dj (b:=i) (a:=⟨99000001,σ.next⟩) (by(try dsimp only at *);omega)
  have i3:=dj (b:=i) (a:=⟨99001000,σ.next+1⟩) (by(try dsimp only at *);omega)
  simp only[go_sem, ↓reduceIte,Nat.reduceEqDiff,Nat.reduceAdd,Nat.reduceSub,Nat.reduceLeDiff,reduceCtorEq,i2,i3,hg]
 ·rw[List.mem_singleton.1 hj]
  (try dsimp only at *);omega
 ·(try dsimp only at *);omega
 ·have h2:=hK.2 j bt
  have h1:=eD hj
  simp only[go_sem, ↓reduceIte,Nat.reduceEqDiff,Nat.reduceAdd,Nat.reduceSub,Nat.reduceLeDiff,reduceCtorEq,h1]at h2
  simp only[go_sem, ↓reduceIte,Nat.reduceEqDiff,Nat.reduceAdd,Nat.reduceSub,Nat.reduceLeDiff,reduceCtorEq,h1,h2]
theorem yq:ou (kr aT) 2:=FD (fun _=>rfl) (fun _=>rfl) (by simp[n9])
theorem uU:ou (kr ah) 3:=FD (fun _=>rfl) (fun _=>rfl) (by simp[n9])
theorem Hb (p:eR) (σ:aw):Call Tryz.prog 98 [.agg (aT p)] σ (HO (kr aT) p σ):=by
 refine eZ dN rfl fun hl=>?_
 clear hl
 (try((repeat(revert hN;revert N;apply Pn.out));refine wk @aT.eq_1 ?_;(repeat(refine Pn.mk ?_;intro N hN))))
 refine gn (.inl rfl) (vs:=[.agg (aT p)]) (sd @aT.eq_1) ?_
 exact⟨_,[],rfl,⟨rfl,rfl⟩,⟨List.nodup_nil,fun i hi=>by cases hi⟩,⟨bt,fun j hj=>by
  have h1:=eD hj
  simp only[go_sem, ↓reduceIte,Nat.reduceEqDiff,Nat.reduceAdd,Nat.reduceSub,Nat.reduceLeDiff,reduceCtorEq,h1]⟩⟩
theorem BE (p:ak) (σ:aw):Call Tryz.prog 71 [.agg (ah p)] σ (HO (kr ah) p σ):=by
 refine eZ dN rfl fun hl=>?_
 clear hl
 have h:=vO p.cC
 rw[ao]at h
 (repeat(first|((repeat(revert hN;revert N;apply Pn.out));refine wk @ah.eq_1 ?_;(repeat(refine Pn.mk ?_;intro N hN)))|((try apply Or.inl);refine⟨_,jC.x (h) _,?_⟩;refine hN _ _ ?_;clear hN N)))
 refine gn (.inl rfl) (vs:=[.agg (ah p)]) (sd @ah.eq_1) ?_
 exact⟨_,[],rfl,⟨rfl,rfl⟩,⟨List.nodup_nil,fun i hi=>by cases hi⟩,⟨bt,fun j hj=>by
  have h1:=eD hj
  simp only[go_sem, ↓reduceIte,Nat.reduceEqDiff,Nat.reduceAdd,Nat.reduceSub,Nat.reduceLeDiff,reduceCtorEq,h1]⟩⟩
theorem Eu (xs:List eR) (h:xs.length<=1048576) (σ:aw):Call Tryz.prog 69 [.sl (xs.map aT)] σ (HP (kr aT) 2 xs σ):=
 xk yq (show lE Tryz.prog 69=some (rH 69 98 2 [.str [],.int .i64 0]) by kernel_rfl) rfl (fun _=>rfl) xs h (fun x _ σ=>Hb x σ) σ
theorem Ew (xs:List ee) (h:xs.length<=1048576) (hs:∀t∈xs,qd t) (σ:aw):Call Tryz.prog 70 [.sl (xs.map aU)] σ (HP mL 2 xs σ):=
 xk oV (show lE Tryz.prog 70=some (rH 70 99 2 [.str [],.bC]) by kernel_rfl) rfl (fun _=>rfl) xs h (fun x hx σ=>Hg x (hs x hx) σ) σ
theorem zt (xs:List ak) (h:xs.length<=1048576) (σ:aw):Call Tryz.prog 40 [.sl (xs.map ah)] σ (HP (kr ah) 3 xs σ):=
 xk uU (show lE Tryz.prog 40=some (rH 40 71 3 [.int .i64 0,.int .i64 0,.int .i64 0]) by kernel_rfl) rfl (fun _=>rfl) xs h (fun x _ σ=>BE x σ) σ
def vQ (g:Rows) (v:AV) (a:dd) (ids:List Id):Prop:=∃x,v=.agg [x]/\fh (kr ah) 3 g x a.ae ids
structure xN (g:Rows) (v:AV) (s:ck) (ids:List Id):Prop where
 ex:∃a b c i1 i2 i3,v=.agg [a,b,c,.int .i64 s.aE]/\fh (kr aT) 2 g a s.aA.ar i1/\fh mL 2 g b s.aA.ae i2/\fh (kr ah) 3 g c s.bJ.ae i3/\ids=i1++(i2++i3)
theorem vQ.frame {g g':Rows} {v:AV} {a:dd} {ids:List Id} (h:vQ g v a ids) (hf:∀i∈ids,g' i=g i):vQ g' v a ids:=by
 obtain⟨x,h1,h2⟩:=h
 exact⟨x,h1,h2.frame uU hf⟩
theorem xN.frame {g g':Rows} {v:AV} {s:ck} {ids:List Id} (h:xN g v s ids) (hf:∀i∈ids,g' i=g i):xN g' v s ids:=by
 obtain⟨a,b,c,i1,i2,i3,h1,h2,h3,h4,rfl⟩:=h.ex
 exact⟨a,b,c,i1,i2,i3,h1,h2.frame yq fun i hi=>hf i (by simp[hi]),h3.frame oV fun i hi=>hf i (by simp[hi]),h4.frame uU fun i hi=>hf i (by simp[hi]),rfl⟩
theorem vQ.fz {g:Rows} {v:AV} {a:dd} {ids:List Id} (n:Nat) (h:vQ g v a ids):V.fz (dz g) (n+4) v=some (.agg (aC a)):=by
 obtain⟨x,rfl,h2⟩:=h
 have h3:=h2.fz (n:=n+2) (e:=ah) fun hc=>by rw[hc.1];simp[ah,ad,aj,aH]
 simp only[bj,ad,aj,h3,Option.map_some,aC]
theorem xN.fz {g:Rows} {v:AV} {s:ck} {ids:List Id} (n:Nat) (h:xN g v s ids):V.fz (dz g) (n+5) v=some (.agg (ay s)):=by
 obtain⟨a,b,c,i1,i2,i3,rfl,h2,h3,h4,rfl⟩:=h.ex
 have q1:=h2.fz (n:=n+3) (e:=aT) fun hc=>by rw[hc.1];simp[aT,ad,aj,aH,bx]
 have q2:=h3.fz (n:=n+3) (e:=aU) fun hc=>Jq (n+1) hc
 have q3:=h4.fz (n:=n+3) (e:=ah) fun hc=>by rw[hc.1];simp[ah,ad,aj,aH]
 simp only[bj,ad,aj,q1,q2,q3,aH,Option.map_some,ay]
theorem pY (p:dd) (hs:p.ae.length<=1048576) (σ:aw):Call Tryz.prog 11 [.agg (aC p)] σ (fun r σ'=>∃ids,vQ σ'.get r p ids/\dZ σ.next σ'.next ids/\Kept σ σ'):=by
 refine eZ dN rfl fun hl=>?_
 clear hl
 (try((repeat(revert hN;revert N;apply Pn.out));refine wk @aC.eq_1 ?_;(repeat(refine Pn.mk ?_;intro N hN))))
 refine .inr (aO _ _ _ _ _ (fun r σ1 hq=>?_) (zt p.ae hs _))
 obtain⟨ids,hR,hI,hK⟩:=hq
 obtain⟨g1,x1⟩:=σ1
 (try dsimp only at hR hI hK)
 have hn:=hK.1
 obtain⟨o,rows,is,rfl,hg,Qa,rfl⟩:=hR
 refine hN _ _ ?_
 clear hN N
 have k2:=hK.2 ⟨11000001,σ.next⟩ bt
 have k3:=hK.2 ⟨11001000,σ.next+1⟩ bt
 simp only[go_sem, ↓reduceIte,Nat.reduceEqDiff,Nat.reduceAdd,Nat.reduceSub,Nat.reduceLeDiff,reduceCtorEq]at k2 k3
 (try((repeat(revert hN;revert N;apply Pn.out));refine wk (tw @aC.eq_1 (tw @k2 @k3)) ?_;(repeat(refine Pn.mk ?_;intro N hN))))
 refine gn (.inl rfl) (vs:=[.agg [.own o 0 p.ae.length]]) (sd @Nat.zero_add) ?_
 have hb:=hI.2
 (try dsimp only at hb hn)
 refine⟨_,⟨_,rfl,fh.frame uU ⟨o,rows,is,rfl,hg,Qa,rfl⟩ fun j hj=>?_⟩,⟨hI.1,fun j hj=>?_⟩,⟨?_,fun j hj=>?_⟩⟩
 ·have hj2:=hb j hj
  have i2:=dj (b:=j) (a:=⟨11000001,σ.next⟩) bt
  have i3:=dj (b:=j) (a:=⟨11001000,σ.next+1⟩) bt
  simp only[go_sem, ↓reduceIte,Nat.reduceEqDiff,Nat.reduceAdd,Nat.reduceSub,Nat.reduceLeDiff,reduceCtorEq,i2,i3]
 ·have:=hb j hj
  (try dsimp only);omega
 ·(try dsimp only);omega
 ·have h2:=hK.2 j bt
  have h1:=eD hj
  simp only[go_sem, ↓reduceIte,Nat.reduceEqDiff,Nat.reduceAdd,Nat.reduceSub,Nat.reduceLeDiff,reduceCtorEq,h1]at h2
  simp only[go_sem, ↓reduceIte,Nat.reduceEqDiff,Nat.reduceAdd,Nat.reduceSub,Nat.reduceLeDiff,reduceCtorEq,h1,h2]
theorem zw (p:aq) (hs:Fa p) (σ:aw):Call Tryz.prog 39 [.agg (aa p)] σ (fun r σ'=>∃a b i1 i2,r=.agg [a,b]/\fh (kr aT) 2 σ'.get a p.ar i1/\fh mL 2 σ'.get b p.ae i2/\dZ σ.next σ'.next (i1++i2)/\Kept σ σ'):=by
 refine eZ dN rfl fun hl=>?_
 clear hl
 (try((repeat(revert hN;revert N;apply Pn.out));refine wk @aa.eq_1 ?_;(repeat(refine Pn.mk ?_;intro N hN))))
 refine .inr (aO _ _ _ _ _ (fun r σ1 hq=>?_) (Eu p.ar hs.g _))
 obtain⟨i1,hR,hI,hK⟩:=hq
 obtain⟨g1,x1⟩:=σ1
 (try dsimp only at hR hI hK)
 have hn:=hK.1
 obtain⟨o,rows,is,rfl,hg,Qa,rfl⟩:=hR
 have hb:=hI.2
 (try dsimp only at hb hn)
 refine hN _ _ ?_
 clear hN N
 have k1:=hK.2 ⟨39000000,σ.next⟩ bt
 have k2:=hK.2 ⟨39000001,σ.next⟩ bt
 have k3:=hK.2 ⟨39001000,σ.next+1⟩ bt
 simp only[go_sem, ↓reduceIte,Nat.reduceEqDiff,Nat.reduceAdd,Nat.reduceSub,Nat.reduceLeDiff,reduceCtorEq]at k1 k2 k3
 (try((repeat(revert hN;revert N;apply Pn.out));refine wk (tw @aa.eq_1 (tw @k1 (tw @k2 @k3))) ?_;(repeat(refine Pn.mk ?_;intro N hN))))
 refine .inr (aO _ _ _ _ _ (fun r σ2 hq=>?_) (Ew p.ae hs.t hs.s _))
 obtain⟨i2,hS,hJ,hL⟩:=hq
 obtain⟨g2,x2⟩:=σ2
 (try dsimp only at hS hJ hL)
 have NX:=hL.1
 obtain⟨o2,rD,J6,rfl,NM,hS',rfl⟩:=hS
 have hc:=hJ.2
 (try dsimp only at hc NX)
 refine hN _ _ ?_
 clear hN N
 have l2:=hL.2 ⟨39000001,σ.next⟩ bt
 have l3:=hL.2 ⟨39001000,σ.next+1⟩ bt
 simp only[go_sem, ↓reduceIte,Nat.reduceEqDiff,Nat.reduceAdd,Nat.reduceSub,Nat.reduceLeDiff,reduceCtorEq,k2,k3]at l2 l3
 (try((repeat(revert hN;revert N;apply Pn.out));refine wk (tw @aa.eq_1 (tw @l2 @l3)) ?_;(repeat(refine Pn.mk ?_;intro N hN))))
 refine gn (.inl rfl) (vs:=[.agg [.own o 0 p.ar.length,.own o2 0 p.ae.length]]) (sd @Nat.zero_add) ?_
 have fr:∀x:Id,σ.next+2<=x.bV->(x=⟨39000001,σ.next⟩)=False/\(x=⟨39001000,σ.next+1⟩)=False:=fun x hx=>⟨(dj (a:=⟨39000001,σ.next⟩) (b:=x) bt).2,(dj (a:=⟨39001000,σ.next+1⟩) (b:=x) bt).2⟩
 refine⟨_,_,_,_,rfl,fh.frame (g:=g1) yq ⟨o,rows,is,rfl,hg,Qa,rfl⟩ fun i hi=>?_,fh.frame (g:=g2) oV ⟨o2,rD,J6,rfl,NM,hS',rfl⟩ fun i hi=>?_,?_,⟨bt,fun j hj=>?_⟩⟩
 ·have h1:=hb i hi
  have h2:=hL.2 i bt
  have h3:=fr i ab
  simp only[go_sem, ↓reduceIte,Nat.reduceEqDiff,Nat.reduceAdd,Nat.reduceSub,Nat.reduceLeDiff,reduceCtorEq,h3]at h2
  simp only[go_sem, ↓reduceIte,Nat.reduceEqDiff,Nat.reduceAdd,Nat.reduceSub,Nat.reduceLeDiff,reduceCtorEq,h2,h3]
 ·have h1:=hc i hi
  have h3:=fr i ab
  simp only[go_sem, ↓reduceIte,Nat.reduceEqDiff,Nat.reduceAdd,Nat.reduceSub,Nat.reduceLeDiff,reduceCtorEq,h3]
 ·(try dsimp only at *)
  exact(hI.app hJ ab ab ab).wide ab ab
 ·have h1:=eD hj
  have h2:=hL.2 j bt
  have h3:=hK.2 j bt
  simp only[go_sem, ↓reduceIte,Nat.reduceEqDiff,Nat.reduceAdd,Nat.reduceSub,Nat.reduceLeDiff,reduceCtorEq,h1]at h2 h3
  simp only[go_sem, ↓reduceIte,Nat.reduceEqDiff,Nat.reduceAdd,Nat.reduceSub,Nat.reduceLeDiff,reduceCtorEq,h1,h2,h3]
theorem BH (p:ck) (hs:qR p) (σ:aw):Call Tryz.prog 10 [.agg (ay p)] σ (fun r σ'=>∃ids,xN σ'.get r p ids/\dZ σ.next σ'.next ids/\Kept σ σ'):=by
 refine eZ dN rfl fun hl=>?_
 clear hl
 have t1:=fun σ=>zw p.aA hs.s σ
 have t2:=fun σ=>pY p.bJ hs.a σ
 rw[aa]at t1
 rw[aC]at t2
 (try((repeat(revert hN;revert N;apply Pn.out));refine wk @ay.eq_1 ?_;(repeat(refine Pn.mk ?_;intro N hN))))
 refine .inr (aO _ _ _ _ _ (fun r σ1 hq=>?_) (t1 _))
 obtain⟨a,b,i1,i2,rfl,hA,hB,hI,hK⟩:=hq
 obtain⟨g1,x1⟩:=σ1
 (try dsimp only at hA hB hI hK)
 have hn:=hK.1
 have hb:=hI.2
 (try dsimp only at hb hn)
 refine hN _ _ ?_
 clear hN N
 have k1:=hK.2 ⟨10000000,σ.next⟩ bt
 have k2:=hK.2 ⟨10000001,σ.next⟩ bt
 have k3:=hK.2 ⟨10001000,σ.next+1⟩ bt
 simp only[go_sem, ↓reduceIte,Nat.reduceEqDiff,Nat.reduceAdd,Nat.reduceSub,Nat.reduceLeDiff,reduceCtorEq]at k1 k2 k3
 obtain⟨oa,rfl⟩:=hA.jV
 obtain⟨ob,rfl⟩:=hB.jV
 (try((repeat(revert hN;revert N;apply Pn.out));refine wk (tw @ay.eq_1 (tw @k1 (tw @k2 @k3))) ?_;(repeat(refine Pn.mk ?_;intro N hN))))
 refine .inr (aO _ _ _ _ _ (fun r σ2 hq=>?_) (t2 _))
 obtain⟨i3,hC,hJ,hL⟩:=hq
 obtain⟨g2,x2⟩:=σ2
 (try dsimp only at hC hJ hL)
 have NX:=hL.1
 have hc:=hJ.2
 (try dsimp only at hc NX)
 obtain⟨c,rfl,hC⟩:=hC
 obtain⟨oc,rfl⟩:=hC.jV
 refine hN _ _ ?_
 clear hN N
 have l1:=hL.2 ⟨10000000,σ.next⟩ bt
 have l2:=hL.2 ⟨10000001,σ.next⟩ bt
 have l3:=hL.2 ⟨10001000,σ.next+1⟩ bt
 simp only[go_sem, ↓reduceIte,Nat.reduceEqDiff,Nat.reduceAdd,Nat.reduceSub,Nat.reduceLeDiff,reduceCtorEq,k1,k2,k3]at l1 l2 l3
 (try((repeat(revert hN;revert N;apply Pn.out));refine wk (tw @ay.eq_1 (tw @l1 (tw @l2 @l3))) ?_;(repeat(refine Pn.mk ?_;intro N hN))))
 refine gn (.inl rfl) (vs:=[.agg [.own oa 0 p.aA.ar.length,.own ob 0 p.aA.ae.length,.own oc 0 p.bJ.ae.length,.int .i64 p.aE]]) (sd @Nat.zero_add) ?_
 have fr:∀x:Id,σ.next+2<=x.bV->(x=⟨10000001,σ.next⟩)=False/\(x=⟨10001000,σ.next+1⟩)=False:=fun x hx=>⟨(dj (a:=⟨10000001,σ.next⟩) (b:=x) bt).2,(dj (a:=⟨10001000,σ.next+1⟩) (b:=x) bt).2⟩
 have Ms:∀i∈i1++i2,g2 i=g1 i:=fun i hi=>by
  have h1:=hb i hi
  have h2:=hL.2 i bt
  have h3:=fr i ab
  simp only[go_sem, ↓reduceIte,Nat.reduceEqDiff,Nat.reduceAdd,Nat.reduceSub,Nat.reduceLeDiff,reduceCtorEq,h3]at h2
  exact h2
 refine⟨i1++(i2++i3),⟨_,_,_,i1,i2,i3,rfl,hA.frame yq fun i hi=>?_,hB.frame oV fun i hi=>?_,hC.frame uU fun i hi=>?_,rfl⟩,?_,⟨bt,fun j hj=>?_⟩⟩
 ·have h1:=hb i (by simp[hi])
  have h2:=Ms i (by simp[hi])
  have h3:=fr i ab
  simp only[go_sem, ↓reduceIte,Nat.reduceEqDiff,Nat.reduceAdd,Nat.reduceSub,Nat.reduceLeDiff,reduceCtorEq,h2,h3]
 ·have h1:=hb i (by simp[hi])
  have h2:=Ms i (by simp[hi])
  have h3:=fr i ab
  simp only[go_sem, ↓reduceIte,Nat.reduceEqDiff,Nat.reduceAdd,Nat.reduceSub,Nat.reduceLeDiff,reduceCtorEq,h2,h3]
 ·have h1:=hc i hi
  have h3:=fr i ab
  simp only[go_sem, ↓reduceIte,Nat.reduceEqDiff,Nat.reduceAdd,Nat.reduceSub,Nat.reduceLeDiff,reduceCtorEq,h3]
 ·(try dsimp only at *)
  rw[<-List.append_assoc]
  exact(hI.app hJ ab ab ab).wide ab ab
 ·have h1:=eD hj
  have h2:=hL.2 j bt
  have h3:=hK.2 j bt
  simp only[go_sem, ↓reduceIte,Nat.reduceEqDiff,Nat.reduceAdd,Nat.reduceSub,Nat.reduceLeDiff,reduceCtorEq,h1]at h2 h3
  simp only[go_sem, ↓reduceIte,Nat.reduceEqDiff,Nat.reduceAdd,Nat.reduceSub,Nat.reduceLeDiff,reduceCtorEq,h1,h2,h3]
end Go.Proofs.YtihgaadadaekmaaGreatDoor.V

namespace Go.Proofs.YtihgaadadaekmaaGreatDoor
open Go.RowKit
def jX (n:Int):Bool:=(decide (97<=n)&&decide (n<=122))||(decide (65<=n)&&decide (n<=90))
def iw (n:Int):Bool:=decide (48<=n)&&decide (n<=57)
def rM (i:Nat) (n:Int):Prop:=jX n=true∨(0<i/\(iw n=true∨n=95))
def sr (s:ByteArray):Prop:=(1<=s.size/\s.size<=12)/\∀i (h:i<s.size),rM i s[i].toNat
open Classical in
noncomputable def iT (s:ByteArray):Bool:=decide (sr s)
theorem A8 {s:ByteArray} (h:sr s):true=iT s:=by simp[iT,h]
theorem dy {s:ByteArray} (h:¬sr s):false=iT s:=by simp[iT,h]
theorem za {s:ByteArray} {b:Bool} (hb:b=true) (h:sr s):b=iT s:=by simp[iT,h,hb]
theorem pH {s:ByteArray} {b:Bool} (hb:b=false) (h:¬sr s):b=iT s:=by simp[iT,h,hb]
theorem s9 (w:World) (n:Int):Calls Tryz.prog 144 #[.int .u8 n] w fun e w'=>e=.returned (.bool (jX n))/\w=w':=by
 go_enter Tryz.func144,Tryz.ntmps144
 go_wp2_with fail
 all_goals
  go_ret
  exact⟨gH (by unfold jX;simp[*];try omega),rfl⟩
theorem C6 (w:World) (n:Int):Calls Tryz.prog 68 #[.int .u8 n] w fun e w'=>e=.returned (.bool (iw n))/\w=w':=by
 go_enter Tryz.func68,Tryz.ntmps68
 go_wp2_with fail
 all_goals
  go_ret
  exact⟨gH (by unfold iw;simp[*];try omega),rfl⟩
theorem zk (w:World) (s:ByteArray) (hs:s.size<=9223372036854775807):Calls Tryz.prog 123 #[.string s] w fun e w'=>e=.returned (.bool (iT s))/\Below w.heap.size w w':=by
 by_cases h1:1<=s.size
 case neg=>
  go_enter Tryz.func123,Tryz.ntmps123
  go_wp2_with fail
  go_ret
  exact⟨gH (dy fun h=>h1 h.1.1),Below.refl _ _⟩
 by_cases h2:s.size<=12
 case neg=>
  go_enter Tryz.func123,Tryz.ntmps123
  go_wp2_with fail
  go_ret
  exact⟨gH (dy fun h=>h2 h.1.2),Below.refl _ _⟩
 go_enter Tryz.func123,Tryz.ntmps123
 go_wp2_with fail
 refine(s9 _ _).mono ?_
 rintro e w' ⟨rfl,rfl⟩
 cases h3:jX s[0].toNat
 ·go_wp2_with fail
  go_ret
  exact⟨gH (dy fun h=>by have:=h.2 0 (by omega);simp only[rM]at this;rw[h3]at this;simp at this),Below.refl _ _⟩
 ·replace h3:=Lib.hid h3
  go_wp2_with fail
  go_loop [3] (fun i=>∃k:Nat,1<=k/\k<=s.size/\i=.int .i64 k/\Hid (∀j (h:j<s.size),j<k->rM j s[j].toNat)) (fun i=>s.size-(intOf i).toNat)
  case atStart=>exact⟨1,by omega,by omega,rfl,Lib.hid fun j h hj=>by
   obtain rfl:j=0:=by omega
   exact .inl h3.out⟩
  case round=>
   obtain⟨k,rj,hk,rfl,di⟩:=hrel
   by_cases dF:k<s.size
   ·go_wp2_with fail
    refine(s9 _ _).mono ?_
    rintro e w' ⟨rfl,rfl⟩
    have jI:rM k s[k].toNat∨¬rM k s[k].toNat:=Classical.em _
    cases hl:jX s[k].toNat
    ·go_wp2_with fail
     refine(C6 _ _).mono ?_
     rintro e w' ⟨rfl,rfl⟩
     cases hd:iw s[k].toNat
     ·by_cases r5:(s[k].toNat:Int)=95
      ·have PT:((s[k].toNat:Int) !=95)=false:=by simp;omega
       replace r5:=Lib.hid r5
       replace hl:=Lib.hid hl
       replace hd:=Lib.hid hd
       go_wp2_with fail
       go_round
       case rel=>exact⟨k+1,by omega,by omega,by go_num,Lib.hid fun j h hj=>by
        by_cases u6:j=k
        ·subst u6;exact .inr ⟨by omega,.inr r5.out⟩
        ·exact di.out j h (by omega)⟩
       case measure=>simp[intOf];omega
      ·have PT:((s[k].toNat:Int) !=95)=true:=by simp;omega
       replace r5:=Lib.hid r5
       replace hl:=Lib.hid hl
       replace hd:=Lib.hid hd
       go_wp2_with fail
       go_ret
       exact⟨gH (dy fun h=>by
        have:=h.2 k dF;simp only[rM,hl.out,hd.out]at this;exact r5.out (by simp at this;exact this.2)),Below.refl _ _⟩
     ·replace hl:=Lib.hid hl
      replace hd:=Lib.hid hd
      go_wp2_with fail
      go_round
      case rel=>exact⟨k+1,by omega,by omega,by go_num,Lib.hid fun j h hj=>by
       by_cases u6:j=k
       ·subst u6;exact .inr ⟨by omega,.inl hd.out⟩
       ·exact di.out j h (by omega)⟩
      case measure=>simp[intOf];omega
    ·replace hl:=Lib.hid hl
     go_wp2_with fail
     go_round
     case rel=>exact⟨k+1,by omega,by omega,by go_num,Lib.hid fun j h hj=>by
      by_cases u6:j=k
      ·subst u6;exact .inl hl.out
      ·exact di.out j h (by omega)⟩
     case measure=>simp[intOf];omega
   ·go_wp2_with fail
    go_ret
    exact⟨gH (A8 ⟨⟨h1,h2⟩,fun i h=>di.out i h (by omega)⟩),Below.refl _ _⟩
theorem yR (w:World) (s:ByteArray) (hs:s.size<=9223372036854775807):Calls Tryz.prog 132 #[.string s] w fun e w'=>e=.returned (.bool (iT s))/\w=w':=by
 go_enter Tryz.func132,Tryz.ntmps132
 go_wp2_with fail
 go_loop [8] (fun i=>∃k:Nat,k<=s.size/\i=.int .i64 k/\Hid (∀j (h:j<s.size),j<k->rM j s[j].toNat)) (fun i=>s.size-(intOf i).toNat)
 case atStart=>exact⟨0,by omega,rfl,Lib.hid fun j h hj=>by omega⟩
 case round=>
  obtain⟨k,hk,rfl,di⟩:=hrel
  by_cases dF:k<s.size
  ·have hc:(s[k].toNat:Int)<48∨(48<=(s[k].toNat:Int)/\(s[k].toNat:Int)<=57)∨(58<=(s[k].toNat:Int)/\(s[k].toNat:Int)<=64)∨(65<=(s[k].toNat:Int)/\(s[k].toNat:Int)<=90)∨(91<=(s[k].toNat:Int)/\(s[k].toNat:Int)<=94)∨(95<=(s[k].toNat:Int)/\(s[k].toNat:Int)<=95)∨(96<=(s[k].toNat:Int)/\(s[k].toNat:Int)<=96)∨(97<=(s[k].toNat:Int)/\(s[k].toNat:Int)<=122)∨123<=(s[k].toNat:Int):=by omega
   by_cases tV:k=0
   ·subst tV
    rcases hc with h|⟨h,h'⟩|⟨h,h'⟩|⟨h,h'⟩|⟨h,h'⟩|⟨h,h'⟩|⟨h,h'⟩|⟨h,h'⟩|h
    ·have r5:((s[0].toNat:Int) !=95)=true:=by simp;try omega
     go_wp2_with fail
     all_goals first
      |(go_ret;exact⟨gH (dy fun hh=>by have:=hh.2 0 dF;simp[rM,jX,iw]at this;omega),rfl⟩)
      |(exfalso;simp_all;done)
      |(exfalso;simp_all;omega)
    ·have r5:((s[0].toNat:Int) !=95)=true:=by simp;try omega
     go_wp2_with fail
     all_goals first
      |(go_ret;exact⟨gH (dy fun hh=>by have:=hh.2 0 dF;simp[rM,jX,iw]at this;omega),rfl⟩)
      |(exfalso;simp_all;done)
      |(exfalso;simp_all;omega)
    ·have r5:((s[0].toNat:Int) !=95)=true:=by simp;try omega
     go_wp2_with fail
     all_goals first
      |(go_ret;exact⟨gH (dy fun hh=>by have:=hh.2 0 dF;simp[rM,jX,iw]at this;omega),rfl⟩)
      |(exfalso;simp_all;done)
      |(exfalso;simp_all;omega)
    ·have r5:((s[0].toNat:Int) !=95)=true:=by simp;try omega
     go_wp2_with fail
     go_round
     case rel=>exact⟨0+1,by omega,by go_num,Lib.hid fun j hj u6=>by
      by_cases FW:j=0
      ·subst FW;simp[rM,jX,iw];omega
      ·exact di.out j hj (by omega)⟩
     case measure=>simp[intOf];try omega
    ·have r5:((s[0].toNat:Int) !=95)=true:=by simp;try omega
     go_wp2_with fail
     all_goals first
      |(go_ret;exact⟨gH (dy fun hh=>by have:=hh.2 0 dF;simp[rM,jX,iw]at this;omega),rfl⟩)
      |(exfalso;simp_all;done)
      |(exfalso;simp_all;omega)
    ·have r5:((s[0].toNat:Int) !=95)=false:=by simp;try omega
     go_wp2_with fail
     all_goals first
      |(go_ret;exact⟨gH (dy fun hh=>by have:=hh.2 0 dF;simp[rM,jX,iw]at this;omega),rfl⟩)
      |(exfalso;simp_all;done)
      |(exfalso;simp_all;omega)
    ·have r5:((s[0].toNat:Int) !=95)=true:=by simp;try omega
     go_wp2_with fail
     all_goals first
      |(go_ret;exact⟨gH (dy fun hh=>by have:=hh.2 0 dF;simp[rM,jX,iw]at this;omega),rfl⟩)
      |(exfalso;simp_all;done)
      |(exfalso;simp_all;omega)
    ·have r5:((s[0].toNat:Int) !=95)=true:=by simp;try omega
     go_wp2_with fail
     go_round
     case rel=>exact⟨0+1,by omega,by go_num,Lib.hid fun j hj u6=>by
      by_cases FW:j=0
      ·subst FW;simp[rM,jX,iw];omega
      ·exact di.out j hj (by omega)⟩
     case measure=>simp[intOf];try omega
    ·have r5:((s[0].toNat:Int) !=95)=true:=by simp;try omega
     go_wp2_with fail
     all_goals first
      |(go_ret;exact⟨gH (dy fun hh=>by have:=hh.2 0 dF;simp[rM,jX,iw]at this;omega),rfl⟩)
      |(exfalso;simp_all;done)
      |(exfalso;simp_all;omega)
   ·have hz:((k:Int)==0)=false:=by simpa using tV
    have rj:1<=k:=by omega
    clear tV
    rcases hc with h|⟨h,h'⟩|⟨h,h'⟩|⟨h,h'⟩|⟨h,h'⟩|⟨h,h'⟩|⟨h,h'⟩|⟨h,h'⟩|h
    ·have r5:((s[k].toNat:Int) !=95)=true:=by simp;try omega
     go_wp2_with fail
     all_goals first
      |(go_ret;exact⟨gH (dy fun hh=>by have:=hh.2 k dF;simp[rM,jX,iw]at this;omega),rfl⟩)
      |(exfalso;simp_all;done)
      |(exfalso;simp_all;omega)
    ·have r5:((s[k].toNat:Int) !=95)=true:=by simp;try omega
     go_wp2_with fail
     go_round
     case rel=>exact⟨k+1,by omega,by go_num,Lib.hid fun j hj u6=>by
      by_cases FW:j=k
      ·subst FW;simp[rM,jX,iw];omega
      ·exact di.out j hj (by omega)⟩
     case measure=>simp[intOf];try omega
    ·have r5:((s[k].toNat:Int) !=95)=true:=by simp;try omega
     go_wp2_with fail
     all_goals first
      |(go_ret;exact⟨gH (dy fun hh=>by have:=hh.2 k dF;simp[rM,jX,iw]at this;omega),rfl⟩)
      |(exfalso;simp_all;done)
      |(exfalso;simp_all;omega)
    ·have r5:((s[k].toNat:Int) !=95)=true:=by simp;try omega
     go_wp2_with fail
     go_round
     case rel=>exact⟨k+1,by omega,by go_num,Lib.hid fun j hj u6=>by
      by_cases FW:j=k
      ·subst FW;simp[rM,jX,iw];omega
      ·exact di.out j hj (by omega)⟩
     case measure=>simp[intOf];try omega
    ·have r5:((s[k].toNat:Int) !=95)=true:=by simp;try omega
     go_wp2_with fail
     all_goals first
      |(go_ret;exact⟨gH (dy fun hh=>by have:=hh.2 k dF;simp[rM,jX,iw]at this;omega),rfl⟩)
      |(exfalso;simp_all;done)
      |(exfalso;simp_all;omega)
    ·have r5:((s[k].toNat:Int) !=95)=false:=by simp;try omega
     go_wp2_with fail
     go_round
     case rel=>exact⟨k+1,by omega,by go_num,Lib.hid fun j hj u6=>by
      by_cases FW:j=k
      ·subst FW;simp[rM,jX,iw];omega
      ·exact di.out j hj (by omega)⟩
     case measure=>simp[intOf];try omega
    ·have r5:((s[k].toNat:Int) !=95)=true:=by simp;try omega
     go_wp2_with fail
     all_goals first
      |(go_ret;exact⟨gH (dy fun hh=>by have:=hh.2 k dF;simp[rM,jX,iw]at this;omega),rfl⟩)
      |(exfalso;simp_all;done)
      |(exfalso;simp_all;omega)
    ·have r5:((s[k].toNat:Int) !=95)=true:=by simp;try omega
     go_wp2_with fail
     go_round
     case rel=>exact⟨k+1,by omega,by go_num,Lib.hid fun j hj u6=>by
      by_cases FW:j=k
      ·subst FW;simp[rM,jX,iw];omega
      ·exact di.out j hj (by omega)⟩
     case measure=>simp[intOf];try omega
    ·have r5:((s[k].toNat:Int) !=95)=true:=by simp;try omega
     go_wp2_with fail
     all_goals first
      |(go_ret;exact⟨gH (dy fun hh=>by have:=hh.2 k dF;simp[rM,jX,iw]at this;omega),rfl⟩)
      |(exfalso;simp_all;done)
      |(exfalso;simp_all;omega)
  ·by_cases h1:1<=s.size
   ·by_cases h2:s.size<=12
    ·go_wp2_with fail
     go_ret
     exact⟨gH (za (by simp<;>omega) ⟨⟨h1,h2⟩,fun i h=>di.out i h (by omega)⟩),rfl⟩
    ·go_wp2_with fail
     go_ret
     exact⟨gH (pH (by simp<;>omega) fun h=>h2 h.1.2),rfl⟩
   ·go_wp2_with fail
    go_ret
    exact⟨gH (pH (by simp<;>omega) fun h=>h1 h.1.1),rfl⟩
end Go.Proofs.YtihgaadadaekmaaGreatDoor

namespace Go.Proofs.YtihgaadadaekmaaGreatDoor.V
open Go.RowKit
theorem mixed:Tryz.prog.follows .mixedOrders=true:=by kernel_rfl
variable {P:Program} {w:World} {D:Nat->Prop} {ι:Names}
theorem jh {f:Nat} {args:List AV} {r:AV} {vs0:Array Value} {u0:Value} (mb:∀(w:World) (D:Nat->Prop) (ι:Names) vs,eM P w D ι args vs->vs=vs0) (hr:∀(w:World) (D:Nat->Prop) (ι:Names),cw P w D ι r u0) (Cf:∀g,fa g 6 r=some r)
  (h:∀w,Calls P f vs0 w fun e w'=>e=.returned u0/\Below w.heap.size w w'):ai P f args r:=by
 intro n
 refine gT fun hs D ι w vs S U A=>?_
 have:=mb w D ι vs A
 subst this
 refine(h w).mono ?_
 rintro e w' ⟨rfl,hb⟩
 exact⟨r,_,n,D,ι,u0,rfl,⟨r,Cf _,rfl⟩,Step.stay S hb.block hb.size hb.os hb.tape hb.output (fun _ h=>h) (fun _ h=>.inl h) (fun _ _ h=>h),
  S.stay hb.block hb.size (fun _ h=>h) (fun b hd=>Nat.lt_of_lt_of_le (S.dead b hd) hb.size) (fun _ h=>.inl h) (fun _ _ h=>h),U,Nat.le_refl _,hr _ _ _⟩
theorem zi {s:ByteArray} {vs:Array Value} (h:eM P w D ι [.str s] vs):vs= #[.string s]:=by
 obtain⟨h1,h2⟩:=h
 obtain⟨u,hu,hr⟩:=h2 0 _ rfl
 rw[eT hr]at hu
 obtain⟨l⟩:=vs
 cases l with
 |nil=>simp at h1
 |cons a l=>cases l with
  |nil=>simp at hu;subst hu;rfl
  |cons b l=>simp at h1
theorem Cy (s:ByteArray) (hs:s.size<=9223372036854775807):ai Tryz.prog 123 [.str s] (.bool (iT s)):=
 jh (fun _ _ _ _=>zi) (fun _ _ _=>.ev _ _ (.bool _)) (fun g=>eO g 5 _) fun w=>zk w s hs
theorem Cn (s:ByteArray) (hs:s.size<=9223372036854775807):ai Tryz.prog 132 [.str s] (.bool (iT s)):=
 jh (fun _ _ _ _=>zi) (fun _ _ _=>.ev _ _ (.bool _)) (fun g=>eO g 5 _) fun w=>(yR w s hs).mono (by rintro e w' ⟨rfl,rfl⟩;exact⟨rfl,Below.refl _ _⟩)
end Go.Proofs.YtihgaadadaekmaaGreatDoor.V

namespace Go.Proofs.YtihgaadadaekmaaGreatDoor
open Go.RowKit
def rO (n:Nat):List UInt8:=if h:n=0 then[]else rO (n / 10)++[UInt8.ofNat (48+n % 10)]
termination_by n
decreasing_by omega
def ni (k:Int):ByteArray:=if k<=0 then⟨#[109,48]⟩else⟨(109::rO k.toNat).toArray⟩
theorem C7:rO 0=[]:=by unfold rO;simp
theorem Fv {n:Nat} (h:n≠0):rO n=rO (n / 10)++[UInt8.ofNat (48+n % 10)]:=by
 conv=>lhs;unfold rO
 rw[dif_neg h]
theorem uS (c:UInt8) (l:ByteArray):((⟨#[c]⟩++l:ByteArray)).data.toList=c::l.data.toList:=by
 simp[ByteArray.data_append]
theorem ye:∀(m n:Nat),n<10 ^ m->(rO n).length<=m
 |0,n,h=>by
  have:n=0:=by simpa using h
  subst this;simp[rO]
 |m+1,n,h=>by
  unfold rO
  split
  ·simp
  ·have:=ye m (n / 10) (by rw[Nat.pow_succ]at h;omega)
   simp;omega
theorem wW (w:World) (k:Int) (h0:0<=k) (h1:k<=4611686018427387904):
  Calls Tryz.prog 112 #[.int .i64 k] w fun e w'=>e=.returned (.string (ni k))/\Below w.heap.size w w':=by
 by_cases hk:k<=0
 ·go_enter Tryz.func112,Tryz.ntmps112
  go_wp2_with fail
  go_ret
  exact⟨by simp[ni,hk],Below.refl _ _⟩
 ·go_enter Tryz.func112,Tryz.ntmps112
  go_wp2_with fail
  go_loopw [0,3] (fun a s wr=>∃(j:Int) (l:ByteArray),a=.int .i64 j/\s=.string l/\0<=j/\j<=4611686018427387904/\Hid (rO j.toNat++l.data.toList=rO k.toNat)/\Below w.heap.size w wr) (fun a _ _=>(intOf a).toNat)
  case atStart=>exact⟨k,⟨#[]⟩,rfl,rfl,h0,h1,Lib.hid (by simp),Below.refl _ _⟩
  case round=>
   obtain⟨j,l,rfl,rfl,hj0,hj1,hd,hb⟩:=hrel
   have fb:l.size<=19:=by
    have h1:=congrArg List.length hd.out
    have h2:=ye 19 k.toNat (by omega)
    rw[List.length_append]at h1
    have:l.data.toList.length=l.size:=by rw[Array.length_toList];rfl
    omega
   by_cases hj:0<j
   ·have hcv:∀v:Int,(convert 142 9 (.slice (some ⟨wr.heap.size,0,none⟩) 1 1)).run Tryz.prog (wr.alloc (.cells #[.int .u8 v] 5))=.ok (.string ⟨#[UInt8.ofNat v.toNat]⟩) (wr.alloc (.cells #[.int .u8 v] 5)):=by
     intro v
     rw[run_convert_bytes_string _ _ _ 5 _ _ _ Tryz.underlying142 Tryz.underlying5 Tryz.underlying9,run_bytesToString _ _ _ _ [v] (by simp[loadCells,loadCellsFrom,go_sem])]
     rfl
    have hr:=fb
    go_wp2_with fail
    go_roundw
    case rel=>
     refine⟨_,_,rfl,rfl,by omega,by omega,Lib.hid ?_,hb.alloc hb.size _⟩
     rw[<-hd.out,uS,Fv (show j.toNat≠0 by omega),show(j / 10).toNat=j.toNat / 10 by omega,show(48+j % 10).toNat=48+j.toNat % 10 by omega]
     simp
    case measure=>simp[intOf];omega
   ·go_wp2_with fail
    go_ret
    refine⟨?_,hb⟩
    have h1:=hd.out
    rw[show j.toNat=0 by omega,C7,List.nil_append]at h1
    have h2:(⟨#[109]⟩++l:ByteArray)=ni k:=by
     rw[ni,if_neg (by omega)]
     refine ByteArray.ext (Array.ext' ?_)
     rw[uS,h1]
    rw[h2];rfl
end Go.Proofs.YtihgaadadaekmaaGreatDoor

namespace Go.Proofs.YtihgaadadaekmaaGreatDoor.V
open Go.RowKit
attribute [local irreducible] dP wpOps gN Call
attribute [local go_sem] aI fI eE fW fV cv upd cq K.av cL AV.cells AV.cell rowOf rowsOf part ld rowAt bK bY dH eh ij bL da eA fZ eX dr eo cY cX dR dS bR bf cQ bQ cT cR ej ep ek cP bU cZ ei bP aM cV cz ig br cI bS aZ dD bp dJ AV.undef bB bH dX ef dO ea cF ez eC cu eu er cU cW List.getD_cons_zero List.getD_cons_succ List.getD_nil List.all_cons List.all_nil Bool.and_true Bool.true_and Bool.and_self Bool.not_true Bool.not_false Option.map_some Option.map_none Option.bind_some Option.bind_none List.length_cons List.length_nil List.take_succ_cons List.take_zero List.take_nil List.drop_succ_cons List.drop_zero List.drop_nil List.head?_cons List.map_cons List.map_nil List.getElem?_cons_zero List.getElem?_cons_succ List.cons_append List.nil_append List.append_nil List.length_map List.set_cons_zero List.set_cons_succ Nat.reduceMul eq_self Int.toNat_natCast Int.natCast_nonneg and_self true_and and_true decide_true decide_false Bool.false_eq_true Nat.zero_add Nat.add_zero List.contains_cons List.contains_nil Bool.or_false Bool.false_or beq_self_eq_true Nat.reduceBEq ne_eq not_true_eq_false not_false_eq_true Id.mk.injEq false_and and_false Nat.reduceLT Int.reduceLE Int.reduceLT Int.reduceToNat Int.reduceNeg Int.reduceAdd Nat.le_refl List.length_append beq_true beq_false Bool.not_eq_eq_eq_not or_false false_or dz ad aj aH bx cl aQ bj aW bh cN bz
def o7 (σ:aw) (ids:List Id) (g:Rows) (n:Nat):Prop:=σ.next<=n/\∀x:Id,x.bV<σ.next->x∉ids->g x=σ.get x
theorem tC (l:List (List AV)) (i:Nat) (a b:List AV):(l.set i a).set i b=l.set i b:=List.set_set ..
theorem yg {l:List Int} {j:Nat} (h:j<l.length):(l.map az)[j]? =some [.int .i64 l[j]]:=by simp[h,az]
theorem Je {P:Program} {w:World} {D:Nat->Prop} {ι:Names} {k:Int} {vs:Array Value} (h:eM P w D ι [.int .i64 k] vs):vs= #[.int .i64 k]:=by
 obtain⟨h1,h2⟩:=h
 obtain⟨u,hu,hr⟩:=h2 0 _ rfl
 rw[db hr]at hu
 obtain⟨l⟩:=vs
 cases l with
 |nil=>simp at h1
 |cons a l=>cases l with
  |nil=>simp at hu;subst hu;rfl
  |cons b l=>simp at h1
theorem ta (k:Int) (h0:0<=k) (h1:k<=4611686018427387904):ai Tryz.prog 112 [.int .i64 k] (.str (ni k)):=
 jh (vs0:= #[.int .i64 k]) (u0:=.string (ni k)) (fun _ _ _ _=>Je) (fun w D ι=>.ev _ _ (.str _)) (fun g=>kB g 5 _) fun w=>wW w k h0 h1
theorem A6 (i:Id) (l:List Int) (k:Int) (h0:0<=k) (h1:k+l.length<=4611686018427387904) (σ:aw) (hv:i.bV<σ.next) (hg:σ.get i=some ⟨true,1,l.map az⟩):
  Call Tryz.prog 23 [.own i 0 l.length,.int .i64 k] σ (fun r σ'=>r=.int .i64 (k+l.length)/\o7 σ [i] σ'.get σ'.next):=by
 refine eZ dN rfl fun hl=>?_
 clear hl
 obtain⟨nn,hn⟩:∃nn,l.length=nn:=⟨_,rfl⟩
 rw[hn]at h1 ⊢
 (try((repeat(revert hN;revert N;apply Pn.out));refine wk @Nat.zero_add ?_;(repeat(refine Pn.mk ?_;intro N hN))))
 refine aL (fun n env st=>∃j:Nat,n=(nn)-j/\j<=(nn)/\env 5=.int .i64 (j:Int)/\env 1=.int .i64 (k+j)/\(o7 σ [i] st.get st.next/\∃l':List Int,l'.length=nn/\st.get i=some ⟨true,1,l'.map az⟩)) (nn) ⟨0,ab,ab,sl (tw @Int.add_zero @Int.natCast_zero),sl (tw @Int.add_zero @Int.natCast_zero),by(try dsimp only);exact⟨⟨bt,fun x _ _=>rfl⟩,l,hn,hg⟩⟩ ?_
 rintro n_a env_a st_a ⟨j,rfl,ale,a5,a1,lx⟩ dC
 have a0:=dC 0 (by kernel_rfl)
 simp only[go_sem, ↓reduceIte,Nat.reduceEqDiff,Nat.reduceAdd,Nat.reduceSub,Nat.reduceLeDiff,reduceCtorEq,Int.add_zero,Int.natCast_zero]at a0
 clear dC
 obtain⟨⟨an,aF⟩,l',al,ag⟩:=lx
 by_cases hj:(j:Int)<(nn:Int)
 ·have bZ:∀{e:Env} {gg:Rows} {nx:Nat},(e 5=.int .i64 (IntKind.i64.wrap ((j:Int)+1)))->(e 1=.int .i64 (k+(j+1)))->(o7 σ [i] gg nx/\∃l':List Int,l'.length=nn/\gg i=some ⟨true,1,l'.map az⟩)->∃m0,m0<(nn)-j/\∃j:Nat,m0=(nn)-j/\j<=(nn)/\e 5=.int .i64 (j:Int)/\e 1=.int .i64 (k+j)/\(o7 σ [i] gg nx/\∃l':List Int,l'.length=nn/\gg i=some ⟨true,1,l'.map az⟩):=fun x1 x2 x3=>⟨_,ab,j+1,rfl,ab,(by rw[x1,ax ab]),x2,x3⟩
  have gh:j<l'.length:=ab
  have dE:=yg gh
  have dK:(l'.map az).set j [.int .i64 (k+j)]=(l'.set j (k+j)).map az:=by rw[List.map_set];rfl
  have hw:IntKind.i64.wrap (k+(j:Int)+1)=k+((j:Int)+1):=by rw[aY ab];omega
  (try((repeat(revert hN;revert N;apply Pn.out));refine wk (tw @a5 (tw @a1 (tw @a0 (tw @hj (tw @ag (tw @dE (tw @dK @hw))))))) ?_;(repeat(refine Pn.mk ?_;intro N hN))))
  refine bZ ?_ ?_ (by(try dsimp only);exact⟨⟨bt,fun x hx hi=>by
   have h2:=aF x hx hi
   have h3:(x=i)=False:=eq_false fun e=>hi (by simp[e])
   simp only[go_sem, ↓reduceIte,Nat.reduceEqDiff,Nat.reduceAdd,Nat.reduceSub,Nat.reduceLeDiff,reduceCtorEq,h2,h3]⟩,l'.set j (k+j),by simp[al],sl @Nat.zero_add⟩)
  all_goals simp only[go_sem, ↓reduceIte,Nat.reduceEqDiff,Nat.reduceAdd,Nat.reduceSub,Nat.reduceLeDiff,reduceCtorEq,a5,a1,a0,hw]
 ·have gh:j=nn:=ab
  subst gh
  (try((repeat(revert hN;revert N;apply Pn.out));refine wk (tw @a5 (tw @a1 (tw @a0 @hj))) ?_;(repeat(refine Pn.mk ?_;intro N hN))))
  exact gn (.inl rfl) (vs:=[.int .i64 (k+j)]) (sd (tw @a5 (tw @a1 @a0))) ⟨rfl,⟨bt,fun x hx hi=>aF x hx hi⟩⟩
def IZ (k:Int) (n:Nat):List ak:=(List.range n).map fun j:Nat=>⟨⟨k+3*(j:Int),k+3*(j:Int)+1⟩,k+3*(j:Int)+2⟩
theorem pG (k:Int) (n:Nat):(IZ k n).length=n:=by simp[IZ]
theorem Gu (k:Int) (n:Nat):IZ k (n+1)=IZ k n++[⟨⟨k+3*(n:Int),k+3*(n:Int)+1⟩,k+3*(n:Int)+2⟩]:=by simp[IZ,List.range_succ]
def lL (k:Int) (l:List ak) (j:Nat):List ak:=IZ k j++l.drop j
theorem Gv {k:Int} {l:List ak} {j:Nat} (h:j<=l.length):(lL k l j).length=l.length:=by simp[lL,pG];omega
theorem I0 {k:Int} {l:List ak} {j:Nat} (h:j<l.length):((lL k l j).map ah)[j]? =some [.int .i64 l[j].cC.ga,.int .i64 l[j].cC.fB,.int .i64 l[j].bw]:=by
 rw[List.getElem?_map,lL,List.getElem?_append_right (by rw[pG];omega),pG,Nat.sub_self,List.getElem?_drop,Nat.add_zero,List.getElem?_eq_getElem h];rfl
theorem Gw {k:Int} {l:List ak} {j:Nat} (h:j<l.length):((lL k l j).map ah).set j [.int .i64 (k+3*(j:Int)),.int .i64 (k+3*(j:Int)+1),.int .i64 (k+3*(j:Int)+2)]=(lL k l (j+1)).map ah:=by
 have:(lL k l j).set j ⟨⟨k+3*(j:Int),k+3*(j:Int)+1⟩,k+3*(j:Int)+2⟩=lL k l (j+1):=by
  rw[lL,List.set_append_right _ _ (by rw[pG];omega),pG,Nat.sub_self,List.drop_eq_getElem_cons h,List.set_cons_zero,lL,Gu,List.append_assoc];rfl
 rw[<-this,List.map_set];rfl
theorem wV (i:Id) (l:List ak) (k:Int) (h0:0<=k) (h1:k+3*l.length<=4611686018427387904) (σ:aw) (hv:i.bV<σ.next) (hg:σ.get i=some ⟨true,3,l.map ah⟩):
  Call Tryz.prog 48 [.own i 0 l.length,.int .i64 k] σ (fun r σ'=>r=.int .i64 (k+3*l.length)/\o7 σ [i] σ'.get σ'.next/\σ'.get i=some ⟨true,3,(IZ k l.length).map ah⟩):=by
 refine eZ dN rfl fun hl=>?_
 clear hl
 have hz:lL k l 0=l:=by simp[lL,IZ]
 (try((repeat(revert hN;revert N;apply Pn.out));refine wk @Nat.zero_add ?_;(repeat(refine Pn.mk ?_;intro N hN))))
 refine aL (fun n env st=>∃j:Nat,n=(l.length)-j/\j<=(l.length)/\env 5=.int .i64 (j:Int)/\env 1=.int .i64 (k+3*j)/\st.get i=some ⟨true,3,(lL k l j).map ah⟩/\(o7 σ [i] st.get st.next)) (l.length) ⟨0,ab,ab,sl (tw @Int.add_zero (tw @Int.natCast_zero (tw @Int.mul_zero (tw @hz @hg)))),sl (tw @Int.add_zero (tw @Int.natCast_zero (tw @Int.mul_zero (tw @hz @hg)))),sl (tw @Int.add_zero (tw @Int.natCast_zero (tw @Int.mul_zero (tw @hz @hg)))),by(try dsimp only);exact⟨bt,fun x _ _=>rfl⟩⟩ ?_
 rintro n_a env_a st_a ⟨j,rfl,ale,a5,a1,ag0,lx⟩ dC
 have a0:=dC 0 (by kernel_rfl)
 simp only[go_sem, ↓reduceIte,Nat.reduceEqDiff,Nat.reduceAdd,Nat.reduceSub,Nat.reduceLeDiff,reduceCtorEq,Int.add_zero,Int.natCast_zero,Int.mul_zero,hz,hg]at a0
 clear dC
 obtain⟨an,aF⟩:=lx
 by_cases hj:(j:Int)<(l.length:Int)
 ·have bZ:∀{e:Env} {gg:Rows} {nx:Nat},(e 5=.int .i64 (IntKind.i64.wrap ((j:Int)+1)))->(e 1=.int .i64 (k+3*(j+1)))->(gg i=some ⟨true,3,(lL k l (j+1)).map ah⟩)->(o7 σ [i] gg nx)->∃m0,m0<(l.length)-j/\∃j:Nat,m0=(l.length)-j/\j<=(l.length)/\e 5=.int .i64 (j:Int)/\e 1=.int .i64 (k+3*j)/\gg i=some ⟨true,3,(lL k l j).map ah⟩/\(o7 σ [i] gg nx):=fun x1 x2 x3 x4=>⟨_,ab,j+1,rfl,ab,(by rw[x1,ax ab]),x2,x3,x4⟩
  have gh:j<l.length:=ab
  have dE:=I0 (k:=k) gh
  have dK:=Gw (k:=k) gh
  have qu:IntKind.i64.wrap (k+3*(j:Int)+1)=k+3*(j:Int)+1:=aY ab
  have AO:IntKind.i64.wrap (k+3*(j:Int)+1+1)=k+3*(j:Int)+2:=by rw[aY ab];omega
  have Oa:IntKind.i64.wrap (k+3*(j:Int)+2+1)=k+3*((j:Int)+1):=by rw[aY ab];omega
  have hlen:((lL k l j).map ah).length=l.length:=by rw[List.length_map,Gv ab]
  have Io:∀c:List AV,(((lL k l j).map ah).set j c)[j]? =some c:=fun c=>by rw[List.getElem?_set_self (by rw[hlen];exact gh)]
  (try((repeat(revert hN;revert N;apply Pn.out));refine wk (tw @a5 (tw @a1 (tw @ag0 (tw @a0 (tw @hj (tw @dE (tw @Io (tw @dK (tw @qu (tw @AO (tw @Oa (tw @hlen @tC)))))))))))) ?_;(repeat(refine Pn.mk ?_;intro N hN))))
  refine bZ ?_ ?_ ?_ (by(try dsimp only);exact⟨bt,fun x hx hi=>by
   have h2:=aF x hx hi
   have h3:(x=i)=False:=eq_false fun e=>hi (by simp[e])
   simp only[go_sem, ↓reduceIte,Nat.reduceEqDiff,Nat.reduceAdd,Nat.reduceSub,Nat.reduceLeDiff,reduceCtorEq,h2,h3]⟩)
  all_goals simp only[go_sem, ↓reduceIte,Nat.reduceEqDiff,Nat.reduceAdd,Nat.reduceSub,Nat.reduceLeDiff,reduceCtorEq,a5,a1,ag0,a0,Oa,dK]
 ·have gh:j=l.length:=ab
  subst gh
  (try((repeat(revert hN;revert N;apply Pn.out));refine wk (tw @a5 (tw @a1 (tw @ag0 (tw @a0 @hj)))) ?_;(repeat(refine Pn.mk ?_;intro N hN))))
  have kF:lL k l l.length=IZ k l.length:=by simp[lL]
  rw[kF]at ag0
  exact gn (.inl rfl) (vs:=[.int .i64 (k+3*l.length)]) (sd (tw @a5 (tw @a1 (tw @ag0 @a0)))) ⟨rfl,⟨bt,fun x hx hi=>aF x hx hi⟩,ag0⟩
theorem y6 (i:Id) (l:List eR) (k:Int) (h0:0<=k) (h1:k+2*l.length<=4611686018427387904) (σ:aw) (hv:i.bV<σ.next) (hg:σ.get i=some ⟨true,2,l.map aT⟩):
  Call Tryz.prog 79 [.own i 0 l.length,.int .i64 k] σ (fun r σ'=>r=.int .i64 (k+2*l.length)/\o7 σ [i] σ'.get σ'.next):=by
 refine eZ dN rfl fun hl=>?_
 clear hl
 obtain⟨nn,hn⟩:∃nn,l.length=nn:=⟨_,rfl⟩
 rw[hn]at h1 ⊢
 (try((repeat(revert hN;revert N;apply Pn.out));refine wk @Nat.zero_add ?_;(repeat(refine Pn.mk ?_;intro N hN))))
 refine aL (fun n env st=>∃j:Nat,n=(nn)-j/\j<=(nn)/\env 5=.int .i64 (j:Int)/\env 1=.int .i64 (k+2*j)/\(o7 σ [i] st.get st.next/\∃l':List eR,l'.length=nn/\st.get i=some ⟨true,2,l'.map aT⟩)) (nn) ⟨0,ab,ab,sl (tw @Int.add_zero (tw @Int.natCast_zero @Int.mul_zero)),sl (tw @Int.add_zero (tw @Int.natCast_zero @Int.mul_zero)),by(try dsimp only);exact⟨⟨bt,fun x _ _=>rfl⟩,l,hn,hg⟩⟩ ?_
 rintro n_a env_a st_a ⟨j,rfl,ale,a5,a1,lx⟩ dC
 have a0:=dC 0 (by kernel_rfl)
 simp only[go_sem, ↓reduceIte,Nat.reduceEqDiff,Nat.reduceAdd,Nat.reduceSub,Nat.reduceLeDiff,reduceCtorEq,Int.add_zero,Int.natCast_zero,Int.mul_zero]at a0
 clear dC
 obtain⟨⟨an,aF⟩,l',al,ag⟩:=lx
 by_cases hj:(j:Int)<(nn:Int)
 ·have bZ:∀{e:Env} {gg:Rows} {nx:Nat},(e 5=.int .i64 (IntKind.i64.wrap ((j:Int)+1)))->(e 1=.int .i64 (k+2*(j+1)))->(o7 σ [i] gg nx/\∃l':List eR,l'.length=nn/\gg i=some ⟨true,2,l'.map aT⟩)->∃m0,m0<(nn)-j/\∃j:Nat,m0=(nn)-j/\j<=(nn)/\e 5=.int .i64 (j:Int)/\e 1=.int .i64 (k+2*j)/\(o7 σ [i] gg nx/\∃l':List eR,l'.length=nn/\gg i=some ⟨true,2,l'.map aT⟩):=fun x1 x2 x3=>⟨_,ab,j+1,rfl,ab,(by rw[x1,ax ab]),x2,x3⟩
  have gh:j<l'.length:=ab
  have dE:(l'.map aT)[j]? =some [.str l'[j].aB,.int .i64 l'[j].dG]:=by simp[gh,aT]
  have hlen:(l'.map aT).length=nn:=by rw[List.length_map,al]
  have Io:∀c:List AV,((l'.map aT).set j c)[j]? =some c:=fun c=>by rw[List.getElem?_set_self (by rw[List.length_map];exact gh)]
  have ht:=ta (k+2*(j:Int)) ab ab
  have qu:IntKind.i64.wrap (k+2*(j:Int)+1)=k+2*(j:Int)+1:=aY ab
  have AO:IntKind.i64.wrap (k+2*(j:Int)+1+1)=k+2*((j:Int)+1):=by rw[aY ab];omega
  generalize ni (k+2*(j:Int))=mt at ht
  have dK:(l'.map aT).set j [.str mt,.int .i64 (k+2*(j:Int)+1)]=(l'.set j ⟨mt,k+2*(j:Int)+1⟩).map aT:=by rw[List.map_set];rfl
  (repeat(first|((repeat(revert hN;revert N;apply Pn.out));refine wk (tw @a5 (tw @a1 (tw @a0 (tw @hj (tw @ag (tw @dE (tw @Io (tw @dK (tw @qu (tw @AO (tw @hlen @tC))))))))))) ?_;(repeat(refine Pn.mk ?_;intro N hN)))|((try apply Or.inl);refine⟨_,ai.x (ht) (sd (tw @a5 (tw @a1 (tw @a0 (tw @hj (tw @ag (tw @dE (tw @Io (tw @dK (tw @qu (tw @AO (tw @hlen @tC)))))))))))),?_⟩;refine hN _ _ ?_;clear hN N)))
  refine bZ ?_ ?_ (by(try dsimp only);exact⟨⟨bt,fun x hx hi=>by
   have h2:=aF x hx hi
   have h3:(x=i)=False:=eq_false fun e=>hi (by simp[e])
   simp only[go_sem, ↓reduceIte,Nat.reduceEqDiff,Nat.reduceAdd,Nat.reduceSub,Nat.reduceLeDiff,reduceCtorEq,h2,h3]⟩,l'.set j ⟨mt,k+2*(j:Int)+1⟩,by simp[al],sl @Nat.zero_add⟩)
  all_goals simp only[go_sem, ↓reduceIte,Nat.reduceEqDiff,Nat.reduceAdd,Nat.reduceSub,Nat.reduceLeDiff,reduceCtorEq,a5,a1,a0,AO,dK]
 ·have gh:j=nn:=ab
  subst gh
  (try((repeat(revert hN;revert N;apply Pn.out));refine wk (tw @a5 (tw @a1 (tw @a0 @hj))) ?_;(repeat(refine Pn.mk ?_;intro N hN))))
  exact gn (.inl rfl) (vs:=[.int .i64 (k+2*j)]) (sd (tw @a5 (tw @a1 @a0))) ⟨rfl,⟨bt,fun x hx hi=>aF x hx hi⟩⟩
theorem fh.flat {α:Type} {e:α->List AV} {z:Nat} {g:Rows} {a:AV} {xs:List α} {ids:List Id} (h:fh (kr e) z g a xs ids):∃o,a=.own o 0 xs.length/\g o=some ⟨true,z,xs.map e⟩/\ids=[o]:=by
 obtain⟨o,rows,is,h1,h2,h3,rfl⟩:=h
 have:∀{rows:List (List AV)} {xs:List α} {is:List Id},cD (kr e) g rows xs is->rows=xs.map e/\is=[]:=fun h=>by
  induction h with
  |nil=>exact⟨rfl,rfl⟩
  |cons h1 _ ih=>obtain⟨rfl,rfl⟩:=h1;obtain⟨rfl,rfl⟩:=ih;exact⟨rfl,rfl⟩
 obtain⟨rfl,rfl⟩:=this h3
 exact⟨o,h1,h2,rfl⟩
def fG (t:ee):Nat:=1+t.aX.length
theorem y7 (a:AV) (l:List ee) (ids:List Id) (k:Int) (h0:0<=k) (MB:l.length<=1048576) (h1:k+(l.map fG).sum<=4611686018427387904) (σ:aw) (hv:∀i∈ids,i.bV<σ.next) (km:ids.Nodup) (hg:fh mL 2 σ.get a l ids):
  Call Tryz.prog 80 [a,.int .i64 k] σ (fun r σ'=>r=.int .i64 (k+(l.map fG).sum)/\o7 σ ids σ'.get σ'.next):=by
 obtain⟨o,rows,is,rfl,ho,hR,rfl⟩:=hg
 refine eZ dN rfl fun hl=>?_
 clear hl
 have rS:=hv o (by simp)
 have yM:=jc fG l
 (try((repeat(revert hN;revert N;apply Pn.out));refine wk @Nat.zero_add ?_;(repeat(refine Pn.mk ?_;intro N hN))))
 refine aL (fun n env st=>∃j:Nat,n=(l.length)-j/\j<=(l.length)/\env 5=.int .i64 (j:Int)/\env 1=.int .i64 (k+eV fG l j)/\(o7 σ (o::is) st.get st.next/\∃pre rest ir,st.get o=some ⟨true,2,pre++rest⟩/\pre.length=j/\cD mL st.get rest (l.drop j) ir/\(o::ir).Nodup/\∀i∈ir,i∈is)) (l.length) ⟨0,ab,ab,sl (tw @Int.add_zero (tw @Int.natCast_zero @yM)),sl (tw @Int.add_zero (tw @Int.natCast_zero @yM)),by(try dsimp only);exact⟨⟨bt,fun x _ _=>rfl⟩,[],rows,is,ho,rfl,hR,km,fun _ h=>h⟩⟩ ?_
 rintro n_a env_a st_a ⟨j,rfl,ale,a5,a1,lx⟩ dC
 have a0:=dC 0 (by kernel_rfl)
 simp only[go_sem, ↓reduceIte,Nat.reduceEqDiff,Nat.reduceAdd,Nat.reduceSub,Nat.reduceLeDiff,reduceCtorEq,Int.add_zero,Int.natCast_zero,yM]at a0
 clear dC
 obtain⟨⟨an,aF⟩,pre,rest,ir,ag,apl,aR,aN,aS⟩:=lx
 by_cases hj:(j:Int)<(l.length:Int)
 ·have bZ:∀{e:Env} {gg:Rows} {nx:Nat},(e 5=.int .i64 (IntKind.i64.wrap ((j:Int)+1)))->(e 1=.int .i64 (k+eV fG l (j+1)))->(o7 σ (o::is) gg nx/\∃pre rest ir,gg o=some ⟨true,2,pre++rest⟩/\pre.length=(j+1)/\cD mL gg rest (l.drop (j+1)) ir/\(o::ir).Nodup/\∀i∈ir,i∈is)->∃m0,m0<(l.length)-j/\∃j:Nat,m0=(l.length)-j/\j<=(l.length)/\e 5=.int .i64 (j:Int)/\e 1=.int .i64 (k+eV fG l j)/\(o7 σ (o::is) gg nx/\∃pre rest ir,gg o=some ⟨true,2,pre++rest⟩/\pre.length=j/\cD mL gg rest (l.drop j) ir/\(o::ir).Nodup/\∀i∈ir,i∈is):=fun x1 x2 x3=>⟨_,ab,j+1,rfl,ab,(by rw[x1,ax ab]),x2,x3⟩
  have gh:j<l.length:=ab
  have Du:=lS fG gh
  have hle:=ji fG l (j+1)
  obtain⟨t,htj⟩:∃t,l[j]=t:=⟨_,rfl⟩
  rw[List.drop_eq_getElem_cons gh,htj]at aR
  rw[htj]at Du
  cases aR with
  | @cons cs _ ic rs _ i2 hT K0=>
  obtain⟨i,rfl,hi,rfl⟩:=hT
  rw[List.singleton_append]at aN aS
  obtain⟨n1,n2⟩:=List.nodup_cons.1 aN
  obtain⟨n3,n4⟩:=List.nodup_cons.1 n2
  have JX:(o=i)=False:=eq_false fun e=>n1 (by simp[e])
  have JS:(i=o)=False:=eq_false fun e=>n1 (by simp[e])
  have hiv:i.bV<σ.next:=hv i (by simp[aS i (by simp)])
  have NV:fG t=1+t.aX.length:=rfl
  have ht:=ta (k+(eV fG l j:Nat)) ab ab
  have qu:IntKind.i64.wrap (k+(eV fG l j:Nat)+1)=k+(eV fG l j:Nat)+1:=aY ab
  generalize ni (k+(eV fG l j:Nat))=mt at ht
  have dE:(pre++[.str t.aB,.own i 0 t.aX.length]::rs)[j]? =some [.str t.aB,.own i 0 t.aX.length]:=by subst apl;simp
  have dK:(pre++[.str t.aB,.own i 0 t.aX.length]::rs).set j [.str mt,.own i 0 t.aX.length]=pre++[.str mt,.own i 0 t.aX.length]::rs:=by subst apl;simp
  have JP:(pre++[.str mt,.own i 0 t.aX.length]::rs)[j]? =some [.str mt,.own i 0 t.aX.length]:=by subst apl;simp
  (repeat(first|((repeat(revert hN;revert N;apply Pn.out));refine wk (tw @a5 (tw @a1 (tw @a0 (tw @hj (tw @ag (tw @dE (tw @dK (tw @JP (tw @qu (tw @JX (tw @JS @hi))))))))))) ?_;(repeat(refine Pn.mk ?_;intro N hN)))|((try apply Or.inl);refine⟨_,ai.x (ht) (sd (tw @a5 (tw @a1 (tw @a0 (tw @hj (tw @ag (tw @dE (tw @dK (tw @JP (tw @qu (tw @JX (tw @JS @hi)))))))))))),?_⟩;refine hN _ _ ?_;clear hN N)))
  refine .inr (aO _ _ _ _ _ (fun r σ1 hq=>?_) (A6 i t.aX (k+(eV fG l j:Nat)+1) ab ab _ bt (sd (tw @JX (tw @JS @hi)))))
  obtain⟨g1,x1⟩:=σ1
  obtain⟨rfl,EN,o6⟩:=hq
  (try dsimp only at EN o6)
  refine hN _ _ ?_
  clear hN N
  have JU:k+(eV fG l j:Nat)+1+t.aX.length=k+(eV fG l (j+1):Nat):=ab
  (try((repeat(revert hN;revert N;apply Pn.out));refine wk (tw @a5 (tw @a1 (tw @a0 @JU))) ?_;(repeat(refine Pn.mk ?_;intro N hN))))
  have gk:∀x:Id,x.bV<σ.next->x≠o->x≠i->g1 x=st_a.get x:=fun x hx h3 h4=>by
   have h2:=o6 x bt (by simp[h4])
   have h5:=eq_false h3
   simp only[go_sem, ↓reduceIte,Nat.reduceEqDiff,Nat.reduceAdd,Nat.reduceSub,Nat.reduceLeDiff,reduceCtorEq,h5]at h2
   exact h2
  have go:=o6 o bt (by simp only[List.mem_singleton];exact fun e=>n1 (by simp[e]))
  simp only[go_sem, ↓reduceIte,Nat.reduceEqDiff,Nat.reduceAdd,Nat.reduceSub,Nat.reduceLeDiff,reduceCtorEq]at go
  refine bZ ?_ ?_ (by(try dsimp only);exact⟨⟨bt,fun x hx hi=>by
   have h3:x≠o:=fun e=>hi (by simp[e])
   have h4:x≠i:=fun e=>hi (by simp[e,aS i (by simp)])
   rw[gk x hx h3 h4]
   exact aF x hx hi⟩,pre++[[.str mt,.own i 0 t.aX.length]],rs,i2,by rw[go];simp,by simp[apl],K0.frame oV (fun x hx=>gk x (hv x (by simp[aS x (by simp[hx])])) (fun e=>n1 (by simp[<-e,hx])) (fun e=>n3 (by rw[<-e];exact hx))),List.nodup_cons.2 ⟨fun h=>n1 (by simp[h]),n4⟩,fun x hx=>aS x (by simp[hx])⟩)
  all_goals simp only[go_sem, ↓reduceIte,Nat.reduceEqDiff,Nat.reduceAdd,Nat.reduceSub,Nat.reduceLeDiff,reduceCtorEq,a5,a1,a0,JU]
 ·have gh:j=l.length:=ab
  subst gh
  have di:=pT fG l
  rw[di]at a1
  (try((repeat(revert hN;revert N;apply Pn.out));refine wk (tw @a5 (tw @a1 (tw @a0 @hj))) ?_;(repeat(refine Pn.mk ?_;intro N hN))))
  exact gn (.inl rfl) (vs:=[.int .i64 (k+(l.map fG).sum)]) (sd (tw @a5 (tw @a1 @a0))) ⟨rfl,⟨bt,fun x hx hi=>aF x hx hi⟩⟩
theorem vB (v:AV) (p:dd) (ids:List Id) (k:Int) (h0:0<=k) (h1:k+3*p.ae.length<=4611686018427387904) (σ:aw) (hv:∀i∈ids,i.bV<σ.next) (hg:vQ σ.get v p ids):
  Call Tryz.prog 17 [v,.int .i64 k] σ (fun r σ'=>r=.int .i64 (k+3*p.ae.length)/\o7 σ ids σ'.get σ'.next):=by
 obtain⟨c,rfl,hc⟩:=hg
 obtain⟨o,rfl,ho,rfl⟩:=hc.flat
 refine eZ dN rfl fun hl=>?_
 clear hl
 have rS:=eD (hv o (by simp))
 have Iy:=hv o (by simp)
 (try((repeat(revert hN;revert N;apply Pn.out));refine wk @Nat.zero_add ?_;(repeat(refine Pn.mk ?_;intro N hN))))
 refine .inr (aO _ _ _ _ _ (fun r σ1 hq=>?_) (wV o p.ae k h0 h1 _ bt (sd (tw @rS @ho))))
 obtain⟨g1,x1⟩:=σ1
 obtain⟨rfl,⟨EN,o6⟩,_⟩:=hq
 (try dsimp only at EN o6)
 refine hN _ _ ?_
 clear hN N
 (try((repeat(revert hN;revert N;apply Pn.out));refine wk @Nat.zero_add ?_;(repeat(refine Pn.mk ?_;intro N hN))))
 exact gn (.inl rfl) (vs:=[.int .i64 (k+3*p.ae.length)]) (sd @Nat.zero_add) ⟨rfl,⟨bt,fun x hx hi=>by
  have h2:=o6 x bt hi
  have h3:=eD hx
  simp only[go_sem, ↓reduceIte,Nat.reduceEqDiff,Nat.reduceAdd,Nat.reduceSub,Nat.reduceLeDiff,reduceCtorEq,h3]at h2
  exact h2⟩⟩
def y5 (s:ck):Nat:=2*s.aA.ar.length+(s.aA.ae.map fG).sum+3*s.bJ.ae.length
theorem DW (a b:AV) (p:aq) (i1 i2:List Id) (k:Int) (h0:0<=k) (MB:p.ae.length<=1048576) (h1:k+2*p.ar.length+(p.ae.map fG).sum<=4611686018427387904) (σ:aw) (hv:∀i∈i1++i2,i.bV<σ.next) (km:(i1++i2).Nodup)
  (hA:fh (kr aT) 2 σ.get a p.ar i1) (hB:fh mL 2 σ.get b p.ae i2):
  Call Tryz.prog 47 [.agg [a,b],.int .i64 k] σ (fun r σ'=>r=.int .i64 (k+2*p.ar.length+(p.ae.map fG).sum)/\o7 σ (i1++i2) σ'.get σ'.next):=by
 obtain⟨_,n2,n3⟩:=List.nodup_append.1 km
 obtain⟨o,rfl,ho,rfl⟩:=hA.flat
 obtain⟨ob,rfl⟩:=hB.jV
 refine eZ dN rfl fun hl=>?_
 clear hl
 have Iy:=hv o (by simp)
 have rS:=eD Iy
 (try((repeat(revert hN;revert N;apply Pn.out));refine wk @Nat.zero_add ?_;(repeat(refine Pn.mk ?_;intro N hN))))
 refine .inr (aO _ _ _ _ _ (fun r σ1 hq=>?_) (y6 o p.ar k h0 ab _ bt (sd (tw @rS @ho))))
 obtain⟨g1,x1⟩:=σ1
 obtain⟨rfl,EN,o6⟩:=hq
 (try dsimp only at EN o6)
 refine hN _ _ ?_
 clear hN N
 have k1:=o6 ⟨47000000,σ.next⟩ bt (by simp only[List.mem_singleton];intro e;rw[<-e]at Iy;(try dsimp only at Iy);omega)
 simp only[go_sem, ↓reduceIte,Nat.reduceEqDiff,Nat.reduceAdd,Nat.reduceSub,Nat.reduceLeDiff,reduceCtorEq]at k1
 (try((repeat(revert hN;revert N;apply Pn.out));refine wk @k1 ?_;(repeat(refine Pn.mk ?_;intro N hN))))
 have hf:∀x:Id,x.bV<σ.next->x≠o->g1 x=σ.get x:=fun x hx ho=>by
  have h2:=o6 x bt (by simp[ho])
  have h3:=eD hx
  simp only[go_sem, ↓reduceIte,Nat.reduceEqDiff,Nat.reduceAdd,Nat.reduceSub,Nat.reduceLeDiff,reduceCtorEq,h3]at h2
  exact h2
 refine .inr (aO _ _ _ _ _ (fun r σ2 hq=>?_) (y7 _ p.ae i2 (k+2*p.ar.length) ab MB h1 _ (fun i hi=>by have:=hv i (by simp[hi]);(try dsimp only);omega) n2 (hB.frame oV fun i hi=>hf i (hv i (by simp[hi])) fun e=>n3 o (by simp) i hi e.symm)))
 obtain⟨g2,x2⟩:=σ2
 obtain⟨rfl,F5,AK⟩:=hq
 (try dsimp only at F5 AK)
 refine hN _ _ ?_
 clear hN N
 (try((repeat(revert hN;revert N;apply Pn.out));refine wk @Nat.zero_add ?_;(repeat(refine Pn.mk ?_;intro N hN))))
 exact gn (.inl rfl) (vs:=[.int .i64 (k+2*p.ar.length+(p.ae.map fG).sum)]) (sd @Nat.zero_add) ⟨rfl,⟨bt,fun x hx hi=>(AK x bt fun h=>hi (by simp[h])).trans (hf x hx fun e=>hi (by simp[e]))⟩⟩
theorem DX (v:AV) (p:ck) (ids:List Id) (k:Int) (h0:0<=k) (MB:p.aA.ae.length<=1048576) (h1:k+y5 p<=4611686018427387904) (σ:aw) (hv:∀i∈ids,i.bV<σ.next) (km:ids.Nodup) (hg:xN σ.get v p ids):
  Call Tryz.prog 16 [v,.int .i64 k] σ (fun r σ'=>r=.int .i64 (k+y5 p)/\o7 σ ids σ'.get σ'.next):=by
 obtain⟨a,b,c,i1,i2,i3,rfl,hA,hB,hC,rfl⟩:=hg.ex
 rw[<-List.append_assoc]at km
 obtain⟨n1,_,n3⟩:=List.nodup_append.1 km
 obtain⟨oa,rfl⟩:=hA.jV
 obtain⟨ob,rfl⟩:=hB.jV
 obtain⟨oc,rfl⟩:=hC.jV
 have hm:(y5 p:Int)=2*p.aA.ar.length+(p.aA.ae.map fG).sum+3*p.bJ.ae.length:=by simp[y5]
 refine eZ dN rfl fun hl=>?_
 clear hl
 have PO:∀x∈i1++(i2++i3),bK σ.get ⟨16000000,σ.next⟩ ⟨true,4,[[.own oa 0 p.aA.ar.length,.own ob 0 p.aA.ae.length,.own oc 0 p.bJ.ae.length,.int .i64 p.aE]]⟩ x=σ.get x:=fun x hx=>by
  have:=eD (hv x hx)
  simp only[go_sem, ↓reduceIte,Nat.reduceEqDiff,Nat.reduceAdd,Nat.reduceSub,Nat.reduceLeDiff,reduceCtorEq,this]
 (try((repeat(revert hN;revert N;apply Pn.out));refine wk @Nat.zero_add ?_;(repeat(refine Pn.mk ?_;intro N hN))))
 refine .inr (aO _ _ _ _ _ (fun r σ1 hq=>?_) (DW _ _ p.aA i1 i2 k h0 MB ab _ (fun i hi=>by have:=hv i (by rcases List.mem_append.1 hi with h|h<;>simp[h]);(try dsimp only);omega) n1 (hA.frame yq fun i hi=>PO i (by simp[hi])) (hB.frame oV fun i hi=>PO i (by simp[hi]))))
 obtain⟨g1,x1⟩:=σ1
 obtain⟨rfl,EN,o6⟩:=hq
 (try dsimp only at EN o6)
 refine hN _ _ ?_
 clear hN N
 have k1:=o6 ⟨16000000,σ.next⟩ bt (fun h=>by
  have:=hv ⟨16000000,σ.next⟩ (by rcases List.mem_append.1 h with h|h<;>simp[h])
  (try dsimp only at this);omega)
 simp only[go_sem, ↓reduceIte,Nat.reduceEqDiff,Nat.reduceAdd,Nat.reduceSub,Nat.reduceLeDiff,reduceCtorEq]at k1
 (try((repeat(revert hN;revert N;apply Pn.out));refine wk @k1 ?_;(repeat(refine Pn.mk ?_;intro N hN))))
 refine .inr (aO _ _ _ _ _ (fun r σ2 hq=>?_) (vB _ p.bJ i3 (k+2*p.aA.ar.length+(p.aA.ae.map fG).sum) ab ab _ (fun i hi=>by have:=hv i (by simp[hi]);(try dsimp only);omega) ⟨_,rfl,hC.frame uU fun i hi=>?_⟩))
 rotate_left
 ·exact(o6 i (by have:=hv i (by simp[hi]);(try dsimp only);omega) fun h=>n3 i h i hi rfl).trans (PO i (by simp[hi]))
 obtain⟨g2,x2⟩:=σ2
 obtain⟨rfl,F5,AK⟩:=hq
 (try dsimp only at F5 AK)
 refine hN _ _ ?_
 clear hN N
 (try((repeat(revert hN;revert N;apply Pn.out));refine wk @Nat.zero_add ?_;(repeat(refine Pn.mk ?_;intro N hN))))
 exact gn (.inl rfl) (vs:=[.int .i64 (k+2*p.aA.ar.length+(p.aA.ae.map fG).sum+3*p.bJ.ae.length)]) (sd @Nat.zero_add) ⟨by rw[hm];exact congrArg (AV.int .i64) ab,⟨bt,fun x hx hi=>by
  have h2:=AK x bt fun h=>hi (by simp[h])
  have h3:=o6 x bt fun h=>hi (by rcases List.mem_append.1 h with h|h<;>simp[h])
  have h4:=eD hx
  simp only[go_sem, ↓reduceIte,Nat.reduceEqDiff,Nat.reduceAdd,Nat.reduceSub,Nat.reduceLeDiff,reduceCtorEq,h4]at h3
  exact h2.trans h3⟩⟩
end Go.Proofs.YtihgaadadaekmaaGreatDoor.V

namespace Go.Proofs.YtihgaadadaekmaaGreatDoor.V
open Go.RowKit
def AV.clean:AV->Bool
 | .int .. | .bool _| .str _| .bC| .gj| .iG| .iP| .own .. | .ptr .. | .map .. | .qk _=>true
 | .sl l=>l.isEmpty
 |_=>false
def AV.qm:AV->Bool
 | .agg cs=>cs.all AV.clean
 | .ib cs=>cs.all fun a=>match a with
  | .agg cs=>cs.all AV.clean
  |a=>a.clean
 |a=>a.clean
def vN (ids:List Id) (g g':Rows):Rows:=fun id=>if id∈ids then g' id else g id
theorem tL {ids:List Id} {g g':Rows} {id:Id} (h:id∈ids):vN ids g g' id=g' id:=if_pos h
theorem qJ {ids:List Id} {g g':Rows} {id:Id} (h:id∉ids):vN ids g g' id=g id:=if_neg h
section
variable {P:Program} {w w':World} {D D' D1 D2:Nat->Prop} {ι ι1 ι2:Names}
theorem ja {a:AV} {v:Value} (hp:a.clean=true) (h:cw P w D1 ι1 a v):cw P w D2 ι1 a v:=by
 cases h with
 |ev a v h=>
  cases h with
  |int=>exact .ev _ _ (.int _ _)
  |bool=>exact .ev _ _ (.bool _)
  |str=>exact .ev _ _ (.str _)
  |bC=>exact .ev _ _ .bC
  |gj=>exact .ev _ _ .gj
  |iG=>exact .ev _ _ .iG
  |iP=>exact .ev _ _ .iP
  |zI a c h=>exact .ev _ _ (.zI a c h)
  |sl rows b o n c sz vs h1 h2 h3=>
   have:rows=[]:=by simpa[AV.clean]using hp
   subst this
   simp only[List.length_nil]at h1
   subst h1
   exact .ev _ _ (.zI _ _ h3)
  |cK=>simp[AV.clean]at hp
  |agg=>simp[AV.clean]at hp
  |fn=>simp[AV.clean]at hp
 |own id off len o cap B h1 h2 h3 h4 h5 h6=>exact .own id off len o cap B h1 h2 h3 h4 h5 h6
 |map id m B h1 h2=>exact .map id m B h1 h2
 |qk id c B h1 h2=>exact .qk id c B h1 h2
 |ptr id i off B h1 h2=>exact .ptr id i off B h1 h2
 |agg=>simp[AV.clean]at hp
 |ib=>simp[AV.clean]at hp
 |fn=>simp[AV.clean]at hp
 |tX=>simp[AV.clean]at hp
theorem kP {cs:List AV} {v:Value} (hc:cs.all AV.clean=true) (h:cw P w D1 ι1 (.agg cs) v):cw P w D2 ι1 (.agg cs) v:=by
 obtain⟨vs,f,rfl,h1,h2,h3,h4⟩:=gS h
 rw[List.all_eq_true]at hc
 exact .agg cs vs f h1 h2 h3 fun j a ha=>ja (hc a (List.mem_of_getElem? ha)) (h4 j a ha)
theorem Bk {a:AV} {v:Value} (hp:a.qm=true) (h:cw P w D1 ι1 a v):cw P w D2 ι1 a v:=by
 cases a with
 |agg cs=>exact kP hp h
 |ib cs=>
  obtain⟨vs,f,rfl,h1,h3,h4⟩:=sg h
  simp only[AV.qm,List.all_eq_true]at hp
  refine .ib cs vs f h1 h3 fun j a ha=>?_
  have:=hp a (List.mem_of_getElem? ha)
  split at this
  ·exact kP this (h4 j _ ha)
  ·exact ja this (h4 j _ ha)
 |_=>exact ja hp h
theorem Bh {ag:Bool} {n:Nat} {cs:List AV} {x:AV} {v:Value} (hc:∀a∈cs,a.clean=true) (hp:part ag n cs=some x) (hr:cw P w D1 ι1 x v):cw P w D2 ι1 x v:=by
 unfold part at hp
 split at hp
 ·split at hp
  ·simp only[Option.some.injEq]at hp;subst hp
   exact kP (List.all_eq_true.2 fun a ha=>hc a (List.mem_of_mem_take ha)) hr
  ·cases hp
 ·exact ja (hc x (List.mem_of_mem_head? hp)) hr
theorem gM.clean {B:qN} {r:Row} (R:gM P w D1 ι1 B r) (h:∀cs∈r.rows,∀a∈cs,a.clean=true):gM P w D2 ι1 B r:=
 ⟨R.sz,R.flat,fun hk=>⟨R.sz,(R.row hk).CU,(R.row hk).fits,(R.row hk).len,R.flat,fun i j cs a hi hj=>by
  obtain⟨v,q1,q2⟩:=(R.row hk).at_ i j cs a hi hj
  exact⟨v,q1,ja (h cs (List.mem_of_getElem? hi) a (List.mem_of_getElem? hj)) q2⟩⟩,fun m hm=>by
  obtain⟨h1,es,c,h2,h3,h5,h4⟩:=R.map m hm
  refine⟨h1,es,c,h2,h3,h5,fun i cs hi=>?_⟩
  obtain⟨e,kv,vv,q1,q2,q3,q4,q5⟩:=h4 i cs hi
  have hc:=h cs (List.mem_of_getElem? hi)
  exact⟨e,kv,vv,q1,q2,q3,Bh hc q2 q4,ja (hc vv (List.mem_of_getElem? q3)) q5⟩,fun c hc=>by
  obtain⟨h1,buf,s,q,h2,h3,h4⟩:=R.chan c hc
  refine⟨h1,buf,s,q,h2,h3,fun i cs hi=>?_⟩
  obtain⟨a,u,rfl,q2,q3⟩:=h4 i cs hi
  exact⟨a,u,rfl,q2,ja (h [a] (List.mem_of_getElem? hi) a (by simp)) q3⟩⟩
def Handed (ids:List Id) (g:Rows):Prop:=∀id∈ids,∃r,g id=some r/\r.w=true/\∀cs∈r.rows,∀a∈cs,a.clean=true
theorem EB {f:Nat} {args eI:List AV} {g:Rows} {n:Nat} {K:AV->aw->Prop} (hv:bW (dz g) 6 args=some eI)
  (h:Sound P f eI ⟨fun _=>none,n⟩ fun r σ'=>∃ids,r.qm=true/\Handed ids σ'.get/\K r ⟨vN ids g σ'.get,σ'.next⟩):Sound P f args ⟨g,n⟩ K:=by
 intro hs D ι w vs S U A
 let E:Nat->Prop:=fun b=>D b∨∃id r B,g id=some r/\ι id=some B/\b=B.b
 have lt:∀id r B,g id=some r->ι id=some B->B.b<w.heap.size:=fun id r B h1 h2=>by
  obtain⟨B',dn,R,_⟩:=S.row id r h1
  rw[h2]at dn;injection dn with dn;subst dn
  exact R.lt
 have S0:fJ P w.heap.size E ι (fun _=>none) w:=⟨Nat.le_refl _,fun b hb=>by
  rcases hb with hb|⟨id,r,B,h1,h2,rfl⟩
  ·exact S.dead b hb
  ·exact lt id r B h1 h2,fun id r h=>(by cases h),fun id jU r r' B B' h=>(by cases h)⟩
 obtain⟨l1,l2⟩:=fE hv
 have A':eM P w E ι eI vs:=⟨by rw[A.1,l1],fun j a hj=>by
  obtain⟨a0,kh,hz⟩:=l2 j a hj
  obtain⟨u,hu,hr⟩:=A.2 j a0 kh
  refine⟨u,hu,(po (D2:=E) (ι2:=ι) (fun b h=>.inl h) (fun id row hg hw=>?_) 6 a0 u a hr hz).1⟩
  unfold dz at hg
  simp only[Option.map_eq_some_iff]at hg
  obtain⟨r,mD,rfl⟩:=hg
  obtain⟨B,hB,R,_,_⟩:=S.row id r mD
  exact⟨B,hB,R.flag true,.inr ⟨id,r,B,mD,hB,rfl⟩⟩⟩
 refine(h w.heap.size E ι w vs S0 U A').mono ?_
 rintro e w' ⟨r0,g',n',D2,ι1,u,rfl,⟨ids,mm,hid,hK⟩,T,S1,U1,hn,hR⟩
 have hb:∀b,b<w.heap.size->w'.heap[b]? =w.heap[b]? :=T.below.block
 have hz:=T.below.size
 have frame:∀{a v},cw P w D ι a v->cw P w' D ι1 a v:=fun h=>h.frame (fun b hd=>hb b (S.dead b hd)) (fun _ h=>h) T.names
 refine⟨r0,_,n',D,ι1,u,rfl,hK,⟨T.below.mono S.lo,fun b hd=>hb b (S.dead b hd),fun _ h=>h,T.names,fun _ h=>.inl h⟩,⟨Nat.le_trans S.lo hz,fun b hd=>Nat.lt_of_lt_of_le (S.dead b hd) hz,fun id r hr=>?_,fun Oh id2 r1 r2 B1 B2 h1 h2 hw xz nW JK=>?_⟩,U1,hn,Bk mm hR⟩
 ·by_cases hi:id∈ids
  ·rw[tL hi]at hr
   obtain⟨r',mD,hw,hcr⟩:=hid id hi
   rw[hr]at mD;injection mD with mD;subst mD
   obtain⟨B,hB,R,k1,k2⟩:=S1.row id r hr
   have jz:=k1 hw
   exact⟨B,hB,R.clean hcr,fun _=>Nat.le_trans S.lo jz,fun _ hd=>Nat.lt_irrefl _ (Nat.lt_of_lt_of_le (S.dead _ hd) jz)⟩
  ·rw[qJ hi]at hr
   obtain⟨B,hB,R,k1,k2⟩:=S.row id r hr
   have hBl:=lt id r B hr hB
   exact⟨B,T.names _ _ hB,R.frame (hb _ hBl) fun a v h=>frame h,k1,k2⟩
 ·have new:∀{id r B},id∈ids->vN ids g g' id=some r->ι1 id=some B->w.heap.size<=B.b/\g' id=some r/\r.w=true:=fun {id r B} hi hr hB=>by
   rw[tL hi]at hr
   obtain⟨r',mD,hw,_⟩:=hid id hi
   replace mD:g' id=some r':=mD
   rw[hr]at mD;injection mD with mD;subst mD
   obtain⟨B',dn,_,k1,_⟩:=S1.row id r hr
   rw[hB]at dn;injection dn with dn;subst dn
   exact⟨k1 hw,hr,hw⟩
  have zf:∀{id r B},id∉ids->vN ids g g' id=some r->ι1 id=some B->B.b<w.heap.size/\g id=some r/\ι id=some B:=fun {id r B} hi hr hB=>by
   rw[qJ hi]at hr
   obtain⟨B',dn,_⟩:=S.row id r hr
   have:=T.names _ _ dn
   rw[hB]at this;injection this with this;subst this
   exact⟨lt id r _ hr dn,hr,dn⟩
  by_cases i1:Oh∈ids
  ·obtain⟨a1,a2,a3⟩:=new i1 h1 xz
   by_cases i2:id2∈ids
   ·obtain⟨b1,b2,b3⟩:=new i2 h2 nW
    exact S1.inj Oh id2 r1 r2 B1 B2 a2 b2 hw xz nW JK
   ·obtain⟨b1,_⟩:=zf i2 h2 nW
    omega
  ·obtain⟨a1,a2,a3⟩:=zf i1 h1 xz
   by_cases i2:id2∈ids
   ·obtain⟨b1,_⟩:=new i2 h2 nW
    omega
   ·obtain⟨b1,b2,b3⟩:=zf i2 h2 nW
    exact S.inj Oh id2 r1 r2 B1 B2 a2 b2 hw a3 b3 JK
theorem E0 (hm:P.follows .mixedOrders=true) {f:Nat} {args eI:List AV} {σ:aw} {K:AV->aw->Prop} (hv:bW (dz σ.get) 6 args=some eI)
  (h:Call P f eI ⟨fun _=>none,σ.next⟩ fun r σ'=>∃ids,r.qm=true/\Handed ids σ'.get/\K r ⟨vN ids σ.get σ'.get,σ'.next⟩):Call P f args σ K:=
 gT (EB hv (gu hm h))
end
inductive ot:List AV->List AV->Prop
 |nil:ot [] []
 |same (a) {l l'}:ot l l'->ot (a::l) (a::l')
 |ptr (cs rest) {l l'}:ot l l'->ot (.cK (cs++rest)::l) (.cK cs::l')
 |bC {l l'}:ot l l'->ot (.bC::l) (.sl []::l')
theorem Jh {P:Program} {w:World} {D:Nat->Prop} {ι:Names} {cs rest:List AV} {v:Value} (h:cw P w D ι (.cK (cs++rest)) v):cw P w D ι (.cK cs) v:=by
 obtain⟨b,o,vs,rfl,h1,h2,h3,h4⟩:=j4 h
 exact .ev _ _ (.cK cs b o vs h1 (fun a ha=>h2 a (List.mem_append_left _ ha)) (fun j hj=>h3 j (by rw[List.length_append];omega)) fun j a ha=>h4 j a (by
  have:=(List.getElem?_eq_some_iff.1 ha).1
  rw[List.getElem?_append_left this];exact ha))
theorem Jk {P:Program} {w:World} {D:Nat->Prop} {ι:Names} {v:Value} (h:cw P w D ι .bC v):cw P w D ι (.sl []) v:=by
 cases h with
 |ev _ _ h=>
  cases h with
  |bC=>exact .ev _ _ (.zI none 0 (Nat.zero_le _))
theorem ot.len {l l':List AV} (h:ot l l'):l'.length=l.length:=by induction h<;>simp_all
theorem ot.get {P:Program} {w:World} {D:Nat->Prop} {ι:Names} {l l':List AV} (h:ot l l'):∀{j:Nat} {a':AV},l'[j]? =some a'->∃a,l[j]? =some a/\∀v,cw P w D ι a v->cw P w D ι a' v:=by
 induction h with
 |nil=>intro j a' hj;simp at hj
 |same a _ ih=>
  intro j a' hj
  cases j with
  |zero=>simp at hj;subst hj;exact⟨a,rfl,fun _ h=>h⟩
  |succ j=>exact ih (by simpa using hj)
 |ptr cs rest _ ih=>
  intro j a' hj
  cases j with
  |zero=>simp at hj;subst hj;exact⟨_,rfl,fun _ h=>Jh h⟩
  |succ j=>exact ih (by simpa using hj)
 |bC _ ih=>
  intro j a' hj
  cases j with
  |zero=>simp at hj;subst hj;exact⟨_,rfl,fun _ h=>Jk h⟩
  |succ j=>exact ih (by simpa using hj)
theorem Call.cut {P:Program} (hm:P.follows .mixedOrders=true) {f:Nat} {args eI:List AV} {σ:aw} {K:AV->aw->Prop} (hc:ot args eI) (h:Call P f eI σ K):Call P f args σ K:=
 gT fun hs D ι w vs S U A=>gu hm h hs D ι w vs S U ⟨by rw[A.1,hc.len],fun j a' hj=>by
  obtain⟨a,ha,hr⟩:=hc.get (P:=P) (w:=w) (D:=D) (ι:=ι) hj
  obtain⟨u,hu,hv⟩:=A.2 j a ha
  exact⟨u,hu,hr u hv⟩⟩
theorem ai.cut {P:Program} (hm:P.follows .mixedOrders=true) {f:Nat} {args eI:List AV} {r:AV} (hc:ot args eI) (h:ai P f eI r):ai P f args r:=fun n=>(h n).cut hm hc
end Go.Proofs.YtihgaadadaekmaaGreatDoor.V

namespace Go.Proofs.YtihgaadadaekmaaGreatDoor.V
open Go.RowKit
attribute [local irreducible] dP wpOps gN Call
attribute [local go_sem] aI fI eE fW fV cv upd cq K.av cL AV.cells AV.cell rowOf rowsOf part ld rowAt bK bY dH eh ij bL da eA fZ eX dr eo cY cX dR dS bR bf cQ bQ cT cR ej ep ek cP bU cZ ei bP aM cV cz ig br cI bS aZ dD bp dJ AV.undef bB bH dX ef dO ea cF ez eC cu eu er cU cW List.getD_cons_zero List.getD_cons_succ List.getD_nil List.all_cons List.all_nil Bool.and_true Bool.true_and Bool.and_self Bool.not_true Bool.not_false Option.map_some Option.map_none Option.bind_some Option.bind_none List.length_cons List.length_nil List.take_succ_cons List.take_zero List.take_nil List.drop_succ_cons List.drop_zero List.drop_nil List.head?_cons List.map_cons List.map_nil List.getElem?_cons_zero List.getElem?_cons_succ List.cons_append List.nil_append List.append_nil List.length_map List.set_cons_zero List.set_cons_succ eq_self Int.toNat_natCast Int.natCast_nonneg and_self true_and and_true decide_true decide_false Bool.false_eq_true Nat.zero_add Nat.add_zero List.contains_cons List.contains_nil Bool.or_false Bool.false_or beq_self_eq_true ne_eq not_true_eq_false not_false_eq_true Id.mk.injEq false_and and_false Nat.le_refl List.length_append beq_true beq_false Bool.not_eq_eq_eq_not or_false false_or dz ad aj aH bx cl aQ bj aW bh cN bz
section
variable {P:Program} {α:Type} {e:α->List AV} {z:Nat} {g g':Rows} {v:AV} {L:List α} {ids:List Id}
def MY (e:α->List AV) (z:Nat) (g:Rows) (v:AV) (L:List α) (ids:List Id):Prop:=(L=[]/\v=.bC/\ids=[])∨∃o,v=.own o 0 L.length/\g o=some ⟨true,z,L.map e⟩/\ids=[o]/\0<L.length
def LG (e:α->List AV) (L:List α):AV:=if L.length=0 then .bC else .sl (L.map e)
def lZ (e:α->List AV) (L:List α) (w:AV):Prop:=(w=.bC/\L=[])∨w=.sl (L.map e)
def Pz (P:Program) (f:Nat) (args:List AV) (e:α->List AV) (z:Nat) (L:List α) (c:Int):Prop:=
 ∀n:Nat,Call P f args ⟨fun _=>none,n⟩ (fun r σ'=>∃v ids,r=.ib [v,.int .i64 c]/\MY e z σ'.get v L ids/\dZ n σ'.next ids)
theorem CK (hm:P.follows .mixedOrders=true) {f:Nat} {args:List AV} {σ:aw} {K:AV->aw->Prop} (h:Call P f args σ K):Call P f args σ (fun r σ'=>K r σ'/\σ.next<=σ'.next):=
 gT fun hs D ι w vs S U A=>(gu hm h hs D ι w vs S U A).mono (by
  rintro e w' ⟨r,g',n',D2,ι1,u,rfl,hK,T,S1,U1,hn,hR⟩
  exact⟨r,g',n',D2,ι1,u,rfl,⟨hK,hn⟩,T,S1,U1,hn,hR⟩)
theorem GA:lZ e L (LG e L):=by
 unfold LG
 split
 ·rename_i h;exact .inl ⟨rfl,List.eq_nil_of_length_eq_zero h⟩
 ·exact .inr rfl
end
theorem lZ.cut {α:Type} {e:α->List AV} {L:List α} {w:AV} (h:lZ e L w) {l l':List AV} (hl:ot l l'):ot (w::l) (.sl (L.map e)::l'):=by
 rcases h with⟨rfl,rfl⟩|rfl
 ·exact .bC hl
 ·exact .same _ hl
end Go.Proofs.YtihgaadadaekmaaGreatDoor.V

namespace Go.Proofs.YtihgaadadaekmaaGreatDoor.V
open Go.RowKit
attribute [local irreducible] dP wpOps gN Call
attribute [local go_sem] aI fI eE fW fV cv upd cq K.av cL AV.cells AV.cell rowOf rowsOf part ld rowAt bK bY dH eh ij bL da eA fZ eX dr eo cY cX dR dS bR bf cQ bQ cT cR ej ep ek cP bU cZ ei bP aM cV cz ig br cI bS aZ dD bp dJ AV.undef bB bH dX ef dO ea cF ez eC cu eu er cU cW List.getD_cons_zero List.getD_cons_succ List.getD_nil List.all_cons List.all_nil Bool.and_true Bool.true_and Bool.and_self Bool.not_true Bool.not_false Option.map_some Option.map_none Option.bind_some Option.bind_none List.length_cons List.length_nil List.take_succ_cons List.take_zero List.take_nil List.drop_succ_cons List.drop_zero List.drop_nil List.head?_cons List.map_cons List.map_nil List.getElem?_cons_zero List.getElem?_cons_succ List.cons_append List.nil_append List.append_nil List.length_map List.set_cons_zero List.set_cons_succ Nat.reduceMul eq_self Int.toNat_natCast Int.natCast_nonneg and_self true_and and_true decide_true decide_false Bool.false_eq_true Nat.zero_add Nat.add_zero List.contains_cons List.contains_nil Bool.or_false Bool.false_or beq_self_eq_true Nat.reduceBEq ne_eq not_true_eq_false not_false_eq_true Id.mk.injEq false_and and_false Nat.reduceLT Int.reduceLE Int.reduceLT Int.reduceToNat Int.reduceNeg Int.reduceAdd Nat.le_refl List.length_append beq_true beq_false Bool.not_eq_eq_eq_not or_false false_or dz ad aj aH bx cl aQ bj aW bh cN bz
end Go.Proofs.YtihgaadadaekmaaGreatDoor.V

namespace Go.Proofs.YtihgaadadaekmaaGreatDoor.V
open Go.RowKit
variable {P:Program}
theorem Lx (hm:P.follows .mixedOrders=true) {f:Nat} {args:List AV} {vs:Array Value} {w:World} (h:ai P f args (.bool true)) (hA:eM P w (fun b=>b<w.heap.size) (fun _=>none) args vs):
  Calls P f vs w fun e w'=>e=.returned (.bool true)/\Below w.heap.size w w':=by
 have hs:=gu hm (h 0) w.heap.size (fun b=>b<w.heap.size) (fun _=>none) w vs ⟨Nat.le_refl _,fun _ h=>h,fun id r h=>(by cases h),fun id jU r r' B B' h=>(by cases h)⟩ (fun id h=>absurd rfl h) hA
 refine hs.mono ?_
 rintro e w' ⟨r,g',n',D',ι',u,rfl,⟨r',hz,rfl⟩,dQ,hsim,_,_,gi⟩
 have hr:r=.bool true:=by
  cases r<;>rw[fa]at hz<;>simp_all
  all_goals (repeat' (split at hz))<;>simp_all
 subst hr
 exact⟨by rw[eG gi],dQ.below⟩
theorem jt {xs:List AV} {w:World} {D:Nat->Prop} {ι:Names} {a:AV} {v:Value} {vs:Array Value} (h:jl P w D a v) (k:eM P w D ι xs vs):eM P w D ι (a::xs) (#[v]++vs):=
 nv (xs:=[a]) ⟨rfl,fun j b hj=>by
  cases j with
  |zero=>simp at hj;subst hj;exact⟨v,rfl,.ev _ _ h⟩
  |succ j=>simp at hj⟩ k
end Go.Proofs.YtihgaadadaekmaaGreatDoor.V

namespace Go.Proofs.YtihgaadadaekmaaGreatDoor.V
open Go.RowKit
attribute [local irreducible] dP wpOps gN Call
attribute [local go_sem] aI fI eE fW fV cv upd cq K.av cL AV.cells AV.cell rowOf rowsOf part ld rowAt bK bY dH eh ij bL da eA fZ eX dr eo cY cX dR dS bR bf cQ bQ cT cR ej ep ek cP bU cZ ei bP aM cV cz ig br cI bS aZ dD bp dJ AV.undef bB bH dX ef dO ea cF ez eC cu eu er cU cW List.getD_cons_zero List.getD_cons_succ List.getD_nil List.all_cons List.all_nil Bool.and_true Bool.true_and Bool.and_self Bool.not_true Bool.not_false Option.map_some Option.map_none Option.bind_some Option.bind_none List.length_cons List.length_nil List.take_succ_cons List.take_zero List.take_nil List.drop_succ_cons List.drop_zero List.drop_nil List.head?_cons List.map_cons List.map_nil List.getElem?_cons_zero List.getElem?_cons_succ List.cons_append List.nil_append List.append_nil List.length_map List.set_cons_zero List.set_cons_succ Nat.reduceMul eq_self Int.toNat_natCast Int.natCast_nonneg and_self true_and and_true decide_true decide_false Bool.false_eq_true Nat.zero_add Nat.add_zero List.contains_cons List.contains_nil Bool.or_false Bool.false_or beq_self_eq_true Nat.reduceBEq ne_eq not_true_eq_false not_false_eq_true Id.mk.injEq false_and and_false Nat.reduceLT Int.reduceLE Int.reduceLT Int.reduceToNat Int.reduceNeg Int.reduceAdd Nat.le_refl List.length_append beq_true beq_false Bool.not_eq_eq_eq_not or_false false_or dz ad aj aH bx cl aQ bj aW bh cN bz
theorem LV {α:Type} (f:α->Nat) {xs:List α} {x:α} (h:x∈xs):f x<=(xs.map f).sum:=by
 induction xs with
 |nil=>cases h
 |cons y ys ih=>
  simp only[List.map_cons,List.sum_cons]
  rcases List.mem_cons.1 h with rfl|h
  ·omega
  ·have:=ih h;omega
theorem En {s:ck} (h:tQ s<=1048576):qR s:=by
 unfold tQ rV at h
 refine⟨⟨ab,ab,fun t ht=>?_⟩,ab⟩
 have:=LV jG ht
 have h2:t.aX.length<=jG t:=by unfold jG;omega
 unfold qd
 omega
theorem wj (a:dd):ai Tryz.prog 15 [.agg (aC a),.agg (aC a)] (.bool true):=by
 refine ai.body dN rfl fun hl n0=>?_
 clear hl
 have h1:=qU a.ae a.ae
 rw[decide_eq_true rfl]at h1
 (repeat(first|((repeat(revert hN;revert N;apply Pn.out));refine wk @aC.eq_1 ?_;(repeat(refine Pn.mk ?_;intro N hN)))|((try apply Or.inl);refine⟨_,ai.x (h1) (sd @aC.eq_1),?_⟩;refine hN _ _ ?_;clear hN N)))
 exact aJ (b:=true) (.inl rfl) (sd @Nat.zero_add) rfl
end Go.Proofs.YtihgaadadaekmaaGreatDoor.V

namespace Go.Proofs.YtihgaadadaekmaaGreatDoor.V
open Go.RowKit
attribute [local irreducible] dP wpOps gN Call
attribute [local go_sem] aI fI eE fW fV cv upd cq K.av cL AV.cells AV.cell rowOf rowsOf part ld rowAt bK bY dH eh ij bL da eA fZ eX dr eo cY cX dR dS bR bf cQ bQ cT cR ej ep ek cP bU cZ ei bP aM cV cz ig br cI bS aZ dD bp dJ AV.undef bB bH dX ef dO ea cF ez eC cu eu er cU cW List.getD_cons_zero List.getD_cons_succ List.getD_nil List.all_cons List.all_nil Bool.and_true Bool.true_and Bool.and_self Bool.not_true Bool.not_false Option.map_some Option.map_none Option.bind_some Option.bind_none List.length_cons List.length_nil List.take_succ_cons List.take_zero List.take_nil List.drop_succ_cons List.drop_zero List.drop_nil List.head?_cons List.map_cons List.map_nil List.getElem?_cons_zero List.getElem?_cons_succ List.cons_append List.nil_append List.append_nil List.length_map List.set_cons_zero List.set_cons_succ eq_self Int.toNat_natCast Int.natCast_nonneg and_self true_and and_true decide_true decide_false Bool.false_eq_true Nat.zero_add Nat.add_zero List.contains_cons List.contains_nil Bool.or_false Bool.false_or beq_self_eq_true ne_eq not_true_eq_false not_false_eq_true Id.mk.injEq false_and and_false Nat.le_refl List.length_append beq_true beq_false Bool.not_eq_eq_eq_not or_false false_or dz ad aj aH bx cl aQ bj aW bh cN bz
theorem Jp {g:Rows} {v w:AV} {s:ck} {i:List Id} (hX:xN g v s i) (hw:fz (dz g) 6 w=some w):bW (dz g) 6 [v,w]=some [.agg (ay s),w]:=by
 simp only[ad,aj,hX.fz 1,hw,Option.map_some]
theorem HT {g:Rows} {v w:AV} {s:dd} {i:List Id} (hX:vQ g v s i) (hw:fz (dz g) 6 w=some w):bW (dz g) 6 [v,w]=some [.agg (aC s),w]:=by
 simp only[ad,aj,hX.fz 2,hw,Option.map_some]
theorem BZ (g:Rows) (s:ck):fz g 6 (.agg (ay s))=some (.agg (ay s)):=by simp[ay,bj,ad,aj,cl,aH]
theorem BY (g:Rows) (s:dd):fz g 6 (.agg (aC s))=some (.agg (aC s)):=by simp[aC,bj,ad,aj,cl]
theorem tN {g:Rows} {v w v' w':AV} (h1:fz g 6 v=some v') (h2:fz g 6 w=some w'):bW g 6 [v,w]=some [v',w']:=by
 simp only[ad,aj,h1,h2,Option.map_some]
theorem IW (s:ck):y5 s<=3*tQ s:=by
 have h:∀l:List ee,(l.map fG).sum<=l.length+(l.map jG).sum:=fun l=>by
  induction l with
  |nil=>simp
  |cons t l ih=>simp only[List.map_cons,List.sum_cons,List.length_cons,fG,jG]at *;omega
 have:=h s.aA.ae
 unfold y5 tQ rV
 omega
theorem dZ.not {a b:Nat} {ids:List Id} (h:dZ a b ids) {x:Id} (hx:x.bV<a∨b<=x.bV):x∉ids:=fun hc=>by
 have:=h.2 x hc;omega
theorem lZ.fz {α:Type} {e:α->List AV} {L:List α} {w:AV} (h:lZ e L w) (g:Rows):V.fz g 6 w=some w:=by
 rcases h with⟨rfl,rfl⟩|rfl
 ·exact aQ _ _
 ·exact cl _ _ _
end Go.Proofs.YtihgaadadaekmaaGreatDoor.V

namespace Go.Proofs.YtihgaadadaekmaaGreatDoor.V
open Go.RowKit
attribute [local irreducible] dP wpOps gN Call
attribute [local go_sem] aI fI eE fW fV cv upd cq K.av cL AV.cells AV.cell rowOf rowsOf part ld rowAt bK bY dH eh ij bL da eA fZ eX dr eo cY cX dR dS bR bf cQ bQ cT cR ej ep ek cP bU cZ ei bP aM cV cz ig br cI bS aZ dD bp dJ AV.undef bB bH dX ef dO ea cF ez eC cu eu er cU cW List.getD_cons_zero List.getD_cons_succ List.getD_nil List.all_cons List.all_nil Bool.and_true Bool.true_and Bool.and_self Bool.not_true Bool.not_false Option.map_some Option.map_none Option.bind_some Option.bind_none List.length_cons List.length_nil List.take_succ_cons List.take_zero List.take_nil List.drop_succ_cons List.drop_zero List.drop_nil List.head?_cons List.map_cons List.map_nil List.getElem?_cons_zero List.getElem?_cons_succ List.cons_append List.nil_append List.append_nil List.length_map List.set_cons_zero List.set_cons_succ Nat.reduceMul eq_self Int.toNat_natCast Int.natCast_nonneg and_self true_and and_true decide_true decide_false Bool.false_eq_true Nat.zero_add Nat.add_zero List.contains_cons List.contains_nil Bool.or_false Bool.false_or beq_self_eq_true Nat.reduceBEq ne_eq not_true_eq_false not_false_eq_true Id.mk.injEq false_and and_false Nat.reduceLT Int.reduceLE Int.reduceLT Int.reduceToNat Int.reduceNeg Int.reduceAdd Nat.le_refl List.length_append beq_true beq_false Bool.not_eq_eq_eq_not or_false false_or dz ad aj aH bx cl aQ bj aW bh cN bz
end Go.Proofs.YtihgaadadaekmaaGreatDoor.V

namespace Go.Proofs.YtihgaadadaekmaaGreatDoor.V
open Go.RowKit
attribute [local irreducible] dP wpOps gN Call
attribute [local go_sem] aI fI eE fW fV cv upd cq K.av cL AV.cells AV.cell rowOf rowsOf part ld rowAt bK bY dH eh ij bL da eA fZ eX dr eo cY cX dR dS bR bf cQ bQ cT cR ej ep ek cP bU cZ ei bP aM cV cz ig br cI bS aZ dD bp dJ AV.undef bB bH dX ef dO ea cF ez eC cu eu er cU cW List.getD_cons_zero List.getD_cons_succ List.getD_nil List.all_cons List.all_nil Bool.and_true Bool.true_and Bool.and_self Bool.not_true Bool.not_false Option.map_some Option.map_none Option.bind_some Option.bind_none List.length_cons List.length_nil List.take_succ_cons List.take_zero List.take_nil List.drop_succ_cons List.drop_zero List.drop_nil List.head?_cons List.map_cons List.map_nil List.getElem?_cons_zero List.getElem?_cons_succ List.cons_append List.nil_append List.append_nil List.length_map List.set_cons_zero List.set_cons_succ eq_self Int.toNat_natCast Int.natCast_nonneg and_self true_and and_true decide_true decide_false Bool.false_eq_true Nat.zero_add Nat.add_zero List.contains_cons List.contains_nil Bool.or_false Bool.false_or beq_self_eq_true ne_eq not_true_eq_false not_false_eq_true Id.mk.injEq false_and and_false Nat.le_refl List.length_append beq_true beq_false Bool.not_eq_eq_eq_not or_false false_or dz ad aj aH bx cl aQ bj aW bh cN bz
end Go.Proofs.YtihgaadadaekmaaGreatDoor.V

namespace Go.Proofs.YtihgaadadaekmaaGreatDoor.V
open Go.RowKit
attribute [local irreducible] dP wpOps gN Call
attribute [local go_sem] aI fI eE fW fV cv upd cq K.av cL AV.cells AV.cell rowOf rowsOf part ld rowAt bK bY dH eh ij bL da eA fZ eX dr eo cY cX dR dS bR bf cQ bQ cT cR ej ep ek cP bU cZ ei bP aM cV cz ig br cI bS aZ dD bp dJ AV.undef bB bH dX ef dO ea cF ez eC cu eu er cU cW List.getD_cons_zero List.getD_cons_succ List.getD_nil List.all_cons List.all_nil Bool.and_true Bool.true_and Bool.and_self Bool.not_true Bool.not_false Option.map_some Option.map_none Option.bind_some Option.bind_none List.length_cons List.length_nil List.take_succ_cons List.take_zero List.take_nil List.drop_succ_cons List.drop_zero List.drop_nil List.head?_cons List.map_cons List.map_nil List.getElem?_cons_zero List.getElem?_cons_succ List.cons_append List.nil_append List.append_nil List.length_map List.set_cons_zero List.set_cons_succ Nat.reduceMul eq_self Int.toNat_natCast Int.natCast_nonneg and_self true_and and_true decide_true decide_false Bool.false_eq_true Nat.zero_add Nat.add_zero List.contains_cons List.contains_nil Bool.or_false Bool.false_or beq_self_eq_true Nat.reduceBEq ne_eq not_true_eq_false not_false_eq_true Id.mk.injEq false_and and_false Nat.reduceLT Int.reduceLE Int.reduceLT Int.reduceToNat Int.reduceNeg Int.reduceAdd Nat.le_refl List.length_append beq_true beq_false Bool.not_eq_eq_eq_not or_false false_or dz ad aj aH bx cl aQ bj aW bh cN bz
theorem CJ {P:Program} {K:AV->Rows->List Id->Prop} (hm:P.follows .mixedOrders=true) {f:Nat} {args eI:List AV} {σ:aw}
  (mm:∀r g ids,K r g ids->r.qm=true/\Handed ids g) (mc:∀r g g' ids,K r g ids->(∀i∈ids,g' i=g i)->K r g' ids)
  (h:∀n:Nat,Call P f eI ⟨fun _=>none,n⟩ (fun r σ'=>∃ids,K r σ'.get ids/\dZ n σ'.next ids)) (hv:bW (dz σ.get) 6 args=some eI):
  Call P f args σ (fun r σ'=>∃ids,K r σ'.get ids/\dZ σ.next σ'.next ids/\Kept σ σ'):=by
 refine E0 hm hv (aO _ _ _ _ _ (fun r σ' hq=>?_) (CK hm (h σ.next)))
 obtain⟨⟨ids,hK,hi⟩,hn⟩:=hq
 obtain⟨c1,c2⟩:=mm _ _ _ hK
 exact⟨ids,c1,c2,ids,mc _ _ _ _ hK (fun i hi=>tL hi),hi,hn,fun j hj=>qJ fun hc=>by have:=(hi.2 j hc).1;omega⟩
theorem Handed.app {i j:List Id} {g:Rows} (h:Handed i g) (k:Handed j g):Handed (i++j) g:=fun x hx=>by
 rcases List.mem_append.1 hx with h1|h1
 ·exact h x h1
 ·exact k x h1
theorem Handed.nil {g:Rows}:Handed [] g:=fun x hx=>by cases hx
section
variable {P:Program} {α:Type} {e:α->List AV} {z:Nat} {g g':Rows} {v:AV} {L:List α} {ids:List Id}
def OutT (e:α->List AV) (z:Nat) (g:Rows) (v:AV) (L:List α) (ids:List Id):Prop:=(L=[]/\v=.bC/\ids=[])∨∃(o:Id) (J:List α),v=.own o 0 L.length/\g o=some ⟨true,z,(L++J).map e⟩/\ids=[o]/\0<L.length
def Cz (e:α->List AV) (v:AV) (L:List α):AV:=match v with| .bC=>.bC|_=>.sl (L.map e)
theorem JH {n:Nat} {o:Id} {J:List α} (h2:g o=some ⟨true,z,(L++J).map e⟩) (he:∀x g,bW g n (e x)=some (e x)):V.fz (dz g) (n+1) (.own o 0 L.length)=some (.sl (L.map e)):=by
 rw[fP]
 have:dz g o=some ⟨true,z,(L++J).map e⟩:=by simp[dz,h2]
 simp only[this,if_true]
 have h4:((L++J).map e).take L.length=L.map e:=by rw[<-List.map_take,List.take_append_of_le_length (Nat.le_refl _),List.take_length]
 rw[if_pos (by simp),List.drop_zero,h4,lH fun x=>he x _];rfl
end
def wc (a:AV):Bool:=match a with| .agg cs=>cs.all AV.clean|a=>a.clean
theorem z2 (cs:List AV):(AV.ib cs).qm=cs.all wc:=rfl
theorem CX {a:AV} (h:a.clean=true):wc a=true:=by
 cases a<;>first|exact h|(simp[AV.clean]at h)
theorem zZ (k:IntKind) (n:Int):wc (.int k n)=true:=rfl
theorem ya (b:Bool):wc (.bool b)=true:=rfl
theorem Np {g:Rows} {u v w x u' v' w' x':AV} (h0:V.fz g 6 u=some u') (h1:V.fz g 6 v=some v') (h2:V.fz g 6 w=some w') (h3:V.fz g 6 x=some x'):bW g 6 [u,v,w,x]=some [u',v',w',x']:=by simp only[ad,aj,h0,h1,h2,h3,Option.map_some]
theorem PJ (x:ak):(ah x).all AV.clean=true:=rfl
end Go.Proofs.YtihgaadadaekmaaGreatDoor.V

namespace Go.Proofs.YtihgaadadaekmaaGreatDoor.V
open Go.RowKit
attribute [local irreducible] dP wpOps gN Call
attribute [local go_sem] aI fI eE fW fV cv upd cq K.av cL AV.cells AV.cell rowOf rowsOf part ld rowAt bK bY dH eh ij bL da eA fZ eX dr eo cY cX dR dS bR bf cQ bQ cT cR ej ep ek cP bU cZ ei bP aM cV cz ig br cI bS aZ dD bp dJ AV.undef bB bH dX ef dO ea cF ez eC cu eu er cU cW List.getD_cons_zero List.getD_cons_succ List.getD_nil List.all_cons List.all_nil Bool.and_true Bool.true_and Bool.and_self Bool.not_true Bool.not_false Option.map_some Option.map_none Option.bind_some Option.bind_none List.length_cons List.length_nil List.take_succ_cons List.take_zero List.take_nil List.drop_succ_cons List.drop_zero List.drop_nil List.head?_cons List.map_cons List.map_nil List.getElem?_cons_zero List.getElem?_cons_succ List.cons_append List.nil_append List.append_nil List.length_map List.set_cons_zero List.set_cons_succ eq_self Int.toNat_natCast Int.natCast_nonneg and_self true_and and_true decide_true decide_false Bool.false_eq_true Nat.zero_add Nat.add_zero List.contains_cons List.contains_nil Bool.or_false Bool.false_or beq_self_eq_true ne_eq not_true_eq_false not_false_eq_true Id.mk.injEq false_and and_false Nat.le_refl List.length_append beq_true beq_false Bool.not_eq_eq_eq_not or_false false_or dz ad aj aH bx cl aQ bj aW bh cN bz
section
variable {P:Program} {α:Type} {R:tT α} {e:α->List AV} {z:Nat} {g g':Rows} {v:AV} {L:List α} {ids:List Id}
def kJ (R:tT α) (z:Nat) (g:Rows) (v:AV) (L:List α) (ids:List Id):Prop:=(L=[]/\v=.bC/\ids=[])∨(fh R z g v L ids/\0<L.length)
theorem kJ.frame (ok:ou R z) (h:kJ R z g v L ids) (hf:∀i∈ids,g' i=g i):kJ R z g' v L ids:=by
 rcases h with h|⟨h,hp⟩
 ·exact .inl h
 ·exact .inr ⟨h.frame ok hf,hp⟩
theorem kJ.DR (h:kJ R z g v L ids):lZ e L (Cz e v L):=by
 rcases h with⟨rfl,rfl,_⟩|⟨⟨o,rows,is,rfl,_⟩,_⟩
 ·exact .inl ⟨rfl,rfl⟩
 ·exact .inr rfl
theorem kJ.Mt (h:kJ R z g v L ids) {n:Nat} (hz:∀{cs x ids},R g cs x ids->bW (dz g) n cs=some (e x)):V.fz (dz g) (n+1) v=some (Cz e v L):=by
 rcases h with⟨rfl,rfl,_⟩|⟨h,_⟩
 ·exact aQ _ _
 ·rw[h.fz hz]
  obtain⟨o,rows,is,rfl,_⟩:=h;rfl
theorem kJ.clean (h:kJ R z g v L ids):v.clean=true:=by
 rcases h with⟨_,rfl,_⟩|⟨⟨o,rows,is,rfl,_⟩,_⟩<;>rfl
theorem cD.hand {rows:List (List AV)} (h:cD R g rows L ids) (hc:∀{cs x ids},R g cs x ids->cs.all AV.clean=true/\Handed ids g):(∀cs∈rows,∀a∈cs,a.clean=true)/\Handed ids g:=by
 induction h with
 |nil=>exact⟨fun cs h=>(by cases h),Handed.nil⟩
 |cons h1 _ ih=>
  obtain⟨c1,c2⟩:=hc h1
  refine⟨fun cs dh a ha=>?_,c2.app ih.2⟩
  rcases List.mem_cons.1 dh with rfl|dh
  ·exact List.all_eq_true.1 c1 a ha
  ·exact ih.1 cs dh a ha
theorem kJ.hand (h:kJ R z g v L ids) (hc:∀{cs x ids},R g cs x ids->cs.all AV.clean=true/\Handed ids g):Handed ids g:=by
 rcases h with⟨_,_,rfl⟩|⟨⟨o,rows,is,_,h2,h3,rfl⟩,_⟩
 ·exact Handed.nil
 ·obtain⟨c1,c2⟩:=h3.hand hc
  intro i hi
  rcases List.mem_cons.1 hi with rfl|hi
  ·exact⟨_,h2,rfl,c1⟩
  ·exact c2 i hi
theorem cD.fa {n:Nat} {rows:List (List AV)} (h:cD R g rows L ids) (hz:∀{cs x ids},R g cs x ids->dv g n cs=some (e x)):fq g n rows=some (L.map e):=by
 induction h with
 |nil=>rw[fq];rfl
 |cons h1 _ ih=>rw[fq,hz h1,ih];rfl
theorem kJ.s (h:kJ R z g v L ids) {n:Nat} (hz:∀{cs x ids},R g cs x ids->dv g n cs=some (e x)):fa g (n+1) v=some (LG e L):=by
 rcases h with⟨rfl,rfl,_⟩|⟨⟨o,rows,is,rfl,h2,h3,_⟩,hp⟩
 ·rw[jO];rfl
 ·rw[pk (sz:=z) (rows:=rows) (rows':=L.map e) h2 (by rw[h3.len];omega) (by
   rw[List.drop_zero,List.take_of_length_le (by rw[h3.len];exact Nat.le_refl _),h3.fa hz]),LG,if_neg ab]
end
def wi (R:List ak):List AV:=[.sl (R.map ah)]
def ss:tT (List ak):=fun g cs R ids=>∃u,cs=[.own u 0 R.length]/\g u=some ⟨true,3,R.map ah⟩/\ids=[u]
theorem Ps:ou ss 1 where
 frame:=fun⟨i,h1,h2,h3⟩ hf=>⟨i,h1,(hf i (by rw[h3];simp)).trans h2,h3⟩
 len:=fun⟨i,h1,_⟩=>by rw[h1];rfl
 cell:=fun⟨i,h1,_⟩=>by rw[h1];rfl
 live:=fun⟨i,h1,h2,h3⟩ j hj=>by
  rw[h3]at hj
  have:j=i:=by simpa using hj
  subst this
  exact⟨_,h2,rfl,by simp[n9]⟩
 small:=by simp[n9]
theorem Oz {g:Rows} {cs:List AV} {x:List ak} {ids:List Id} (n:Nat) (h:ss g cs x ids):bW (dz g) (n+2) cs=some (wi x):=by
 obtain⟨i,rfl,h2,_⟩:=h
 have h3:V.fz (dz g) (n+2) (.own i 0 x.length)=some (.sl (x.map ah)):=fA (e:=ah) (sz:=3) (by simp[dz,h2]) rfl fun y=>by simp[ah,ad,aj,aH]
 simp only[ad,aj,h3,Option.map_some,wi]
theorem MS {g:Rows} {cs:List AV} {x:List ak} {ids:List Id} (n:Nat) (h:ss g cs x ids):dv g (n+2) cs=some (wi x):=by
 obtain⟨i,rfl,h2,_⟩:=h
 have h3:fa g (n+2) (.own i 0 x.length)=some (.sl (x.map ah)):=ft (e:=ah) h2 rfl fun y=>by simp[ah,bd,bE,dV]
 simp only[bd,bE,h3,Option.map_some,wi]
theorem LN {g:Rows} {cs:List AV} {x:List ak} {ids:List Id} (h:ss g cs x ids):cs.all AV.clean=true/\Handed ids g:=by
 obtain⟨i,rfl,h2,rfl⟩:=h
 refine⟨rfl,fun j hj=>?_⟩
 rw[List.mem_singleton.1 hj]
 refine⟨_,h2,rfl,fun cs dh a ha=>?_⟩
 obtain⟨y,_,rfl⟩:=List.mem_map.1 dh
 exact List.all_eq_true.1 (PJ y) a ha
def OutRs (g:Rows) (v:AV) (L:List (List ak)) (ids:List Id):Prop:=kJ ss 1 g v L ids
section
variable {g g':Rows} {v:AV} {L:List (List ak)} {ids:List Id}
end
end Go.Proofs.YtihgaadadaekmaaGreatDoor.V

namespace Go.Proofs.YtihgaadadaekmaaGreatDoor.V
open Go.RowKit
attribute [local irreducible] dP wpOps gN Call
attribute [local go_sem] aI fI eE fW fV cv upd cq K.av cL AV.cells AV.cell rowOf rowsOf part ld rowAt bK bY dH eh ij bL da eA fZ eX dr eo cY cX dR dS bR bf cQ bQ cT cR ej ep ek cP bU cZ ei bP aM cV cz ig br cI bS aZ dD bp dJ AV.undef bB bH dX ef dO ea cF ez eC cu eu er cU cW List.getD_cons_zero List.getD_cons_succ List.getD_nil List.all_cons List.all_nil Bool.and_true Bool.true_and Bool.and_self Bool.not_true Bool.not_false Option.map_some Option.map_none Option.bind_some Option.bind_none List.length_cons List.length_nil List.take_succ_cons List.take_zero List.take_nil List.drop_succ_cons List.drop_zero List.drop_nil List.head?_cons List.map_cons List.map_nil List.getElem?_cons_zero List.getElem?_cons_succ List.cons_append List.nil_append List.append_nil List.length_map List.set_cons_zero List.set_cons_succ Nat.reduceMul eq_self Int.toNat_natCast Int.natCast_nonneg and_self true_and and_true decide_true decide_false Bool.false_eq_true Nat.zero_add Nat.add_zero List.contains_cons List.contains_nil Bool.or_false Bool.false_or beq_self_eq_true Nat.reduceBEq ne_eq not_true_eq_false not_false_eq_true Id.mk.injEq false_and and_false Nat.reduceLT Int.reduceLE Int.reduceLT Int.reduceToNat Int.reduceNeg Int.reduceAdd Nat.le_refl List.length_append beq_true beq_false Bool.not_eq_eq_eq_not or_false false_or dz ad aj aH bx cl aQ bj aW bh cN bz
def Cv (k:Int) (n:Nat):List Int:=(List.range n).map fun j:Nat=>k+(j:Int)
theorem iE (k:Int) (n:Nat):(Cv k n).length=n:=by simp[Cv]
def iD (k:Int) (l:List Int) (j:Nat):List Int:=Cv k j++l.drop j
theorem vC {k:Int} {l:List Int} {j:Nat} (h:j<=l.length):(iD k l j).length=l.length:=by simp[iD,iE];omega
theorem Gt {k:Int} {l:List Int} {j:Nat} (h:j<l.length):((iD k l j).map az)[j]? =some [.int .i64 l[j]]:=by
 have h2:j<(iD k l j).length:=by rw[vC ab];exact h
 have h3:(iD k l j)[j]'h2=l[j]:=by simp[iD,List.getElem_append,iE]
 rw[yg h2,h3]
theorem DY {k:Int} {l:List Int} {j:Nat} (h:j<l.length):((iD k l j).map az).set j [.int .i64 (k+(j:Int))]=(iD k l (j+1)).map az:=by
 have h1:(iD k l j).set j (k+(j:Int))=iD k l (j+1):=by
  unfold iD
  rw[List.set_append_right _ _ (by rw[iE];omega),iE,Nat.sub_self]
  have h2:l.drop j=l[j]::l.drop (j+1):=List.drop_eq_getElem_cons h
  rw[h2,List.set_cons_zero]
  simp[Cv,List.range_succ]
 rw[<-h1,List.map_set];rfl
theorem IX (i:Id) (l:List Int) (k:Int) (h0:0<=k) (h1:k+l.length<=4611686018427387904) (σ:aw) (hv:i.bV<σ.next) (hg:σ.get i=some ⟨true,1,l.map az⟩):
  Call Tryz.prog 23 [.own i 0 l.length,.int .i64 k] σ (fun r σ'=>r=.int .i64 (k+l.length)/\o7 σ [i] σ'.get σ'.next/\σ'.get i=some ⟨true,1,(Cv k l.length).map az⟩):=by
 refine eZ dN rfl fun hl=>?_
 clear hl
 have hz:iD k l 0=l:=by simp[iD,Cv]
 (try((repeat(revert hN;revert N;apply Pn.out));refine wk @Nat.zero_add ?_;(repeat(refine Pn.mk ?_;intro N hN))))
 refine aL (fun n env st=>∃j:Nat,n=(l.length)-j/\j<=(l.length)/\env 5=.int .i64 (j:Int)/\env 1=.int .i64 (k+j)/\st.get i=some ⟨true,1,(iD k l j).map az⟩/\(o7 σ [i] st.get st.next)) (l.length) ⟨0,ab,ab,sl (tw @Int.add_zero (tw @Int.natCast_zero (tw @hz @hg))),sl (tw @Int.add_zero (tw @Int.natCast_zero (tw @hz @hg))),sl (tw @Int.add_zero (tw @Int.natCast_zero (tw @hz @hg))),by(try dsimp only);exact⟨bt,fun x _ _=>rfl⟩⟩ ?_
 rintro n_a env_a st_a ⟨j,rfl,ale,a5,a1,ag0,lx⟩ dC
 have a0:=dC 0 (by kernel_rfl)
 simp only[go_sem, ↓reduceIte,Nat.reduceEqDiff,Nat.reduceAdd,Nat.reduceSub,Nat.reduceLeDiff,reduceCtorEq,Int.add_zero,Int.natCast_zero,hz,hg]at a0
 clear dC
 obtain⟨an,aF⟩:=lx
 by_cases hj:(j:Int)<(l.length:Int)
 ·have bZ:∀{e:Env} {gg:Rows} {nx:Nat},(e 5=.int .i64 (IntKind.i64.wrap ((j:Int)+1)))->(e 1=.int .i64 (k+(j+1)))->(gg i=some ⟨true,1,(iD k l (j+1)).map az⟩)->(o7 σ [i] gg nx)->∃m0,m0<(l.length)-j/\∃j:Nat,m0=(l.length)-j/\j<=(l.length)/\e 5=.int .i64 (j:Int)/\e 1=.int .i64 (k+j)/\gg i=some ⟨true,1,(iD k l j).map az⟩/\(o7 σ [i] gg nx):=fun x1 x2 x3 x4=>⟨_,ab,j+1,rfl,ab,(by rw[x1,ax ab]),x2,x3,x4⟩
  have gh:j<l.length:=ab
  have dE:=Gt (k:=k) gh
  have dK:=DY (k:=k) gh
  have hw:IntKind.i64.wrap (k+(j:Int)+1)=k+((j:Int)+1):=by rw[aY ab];omega
  have hlen:((iD k l j).map az).length=l.length:=by rw[List.length_map,vC ab]
  (try((repeat(revert hN;revert N;apply Pn.out));refine wk (tw @a5 (tw @a1 (tw @ag0 (tw @a0 (tw @hj (tw @dE (tw @dK (tw @hw @hlen)))))))) ?_;(repeat(refine Pn.mk ?_;intro N hN))))
  refine bZ ?_ ?_ ?_ (by(try dsimp only);exact⟨bt,fun x hx hi=>by
   have h2:=aF x hx hi
   have h3:(x=i)=False:=eq_false fun e=>hi (by simp[e])
   simp only[go_sem, ↓reduceIte,Nat.reduceEqDiff,Nat.reduceAdd,Nat.reduceSub,Nat.reduceLeDiff,reduceCtorEq,h2,h3]⟩)
  all_goals simp only[go_sem, ↓reduceIte,Nat.reduceEqDiff,Nat.reduceAdd,Nat.reduceSub,Nat.reduceLeDiff,reduceCtorEq,a5,a1,ag0,a0,hw,dK]
 ·have gh:j=l.length:=ab
  subst gh
  (try((repeat(revert hN;revert N;apply Pn.out));refine wk (tw @a5 (tw @a1 (tw @ag0 (tw @a0 @hj)))) ?_;(repeat(refine Pn.mk ?_;intro N hN))))
  have kF:iD k l l.length=Cv k l.length:=by simp[iD]
  rw[kF]at ag0
  exact gn (.inl rfl) (vs:=[.int .i64 (k+l.length)]) (sd (tw @a5 (tw @a1 (tw @ag0 @a0)))) ⟨rfl,⟨bt,fun x hx hi=>aF x hx hi⟩,ag0⟩
theorem LD (k:Int) {n j:Nat} (h:j<n):((Cv k n).map az)[j]? =some [.int .i64 (k+(j:Int))]:=by
 simp[Cv,h,az]
theorem Il (k:Int) (n:Nat) (h0:0<=k) (h1:k+n<=4611686018427387904):ai Tryz.prog 24 [.sl ((Cv k n).map az),.int .i64 k] (.int .i64 (k+n)):=by
 refine ai.body dN rfl fun hl n0=>?_
 clear hl
 obtain⟨m,hm⟩:∃m,n=m:=⟨_,rfl⟩
 rw[hm]at h1 ⊢
 (try((repeat(revert hN;revert N;apply Pn.out));refine wk @iE ?_;(repeat(refine Pn.mk ?_;intro N hN))))
 refine aL (fun n env st=>∃j:Nat,n=(m)-j/\j<=(m)/\env 5=.int .i64 (j:Int)/\env 1=.int .i64 (k+j)) (m) ⟨0,ab,ab,sl (tw @Int.add_zero (tw @Int.natCast_zero @iE)),sl (tw @Int.add_zero (tw @Int.natCast_zero @iE))⟩ ?_
 rintro n_a env_a st_a ⟨j,rfl,ale,a5,a1⟩ dC
 have a0:=dC 0 (by kernel_rfl)
 simp only[go_sem, ↓reduceIte,Nat.reduceEqDiff,Nat.reduceAdd,Nat.reduceSub,Nat.reduceLeDiff,reduceCtorEq,Int.add_zero,Int.natCast_zero,iE]at a0
 clear dC
 by_cases hj:(j:Int)<(m:Int)
 ·have bZ:∀{e:Env},(e 5=.int .i64 (IntKind.i64.wrap ((j:Int)+1)))->(e 1=.int .i64 (k+(j+1)))->∃m0,m0<(m)-j/\∃j:Nat,m0=(m)-j/\j<=(m)/\e 5=.int .i64 (j:Int)/\e 1=.int .i64 (k+j):=fun x1 x2=>⟨_,ab,j+1,rfl,ab,(by rw[x1,ax ab]),x2⟩
  have dE:=LD k (n:=m) (j:=j) ab
  have hw:IntKind.i64.wrap (k+(j:Int)+1)=k+((j:Int)+1):=by rw[aY ab];omega
  have e1:decide (k+(j:Int)=k+(j:Int))=true:=decide_eq_true rfl
  (try((repeat(revert hN;revert N;apply Pn.out));refine wk (tw @a5 (tw @a1 (tw @a0 (tw @hj (tw @dE (tw @hw (tw @iE @e1))))))) ?_;(repeat(refine Pn.mk ?_;intro N hN))))
  refine bZ ?_ ?_
  all_goals simp only[go_sem, ↓reduceIte,Nat.reduceEqDiff,Nat.reduceAdd,Nat.reduceSub,Nat.reduceLeDiff,reduceCtorEq,a5,a1,a0,hw]
 ·have gh:j=m:=ab
  subst gh
  (try((repeat(revert hN;revert N;apply Pn.out));refine wk (tw @a5 (tw @a1 (tw @a0 (tw @hj @iE)))) ?_;(repeat(refine Pn.mk ?_;intro N hN))))
  exact bq (b:=k+(j:Int)) (.inl rfl) (sd (tw @a5 (tw @a1 @a0))) rfl
theorem clI (x:Int):(az x).all AV.clean=true:=rfl
def oX (R:List Int):List AV:=[.sl (R.map az)]
def jm:tT (List Int):=fun g cs R ids=>∃u,cs=[.own u 0 R.length]/\g u=some ⟨true,1,R.map az⟩/\ids=[u]
theorem qw:ou jm 1 where
 frame:=fun⟨i,h1,h2,h3⟩ hf=>⟨i,h1,(hf i (by rw[h3];simp)).trans h2,h3⟩
 len:=fun⟨i,h1,_⟩=>by rw[h1];rfl
 cell:=fun⟨i,h1,_⟩=>by rw[h1];rfl
 live:=fun⟨i,h1,h2,h3⟩ j hj=>by
  rw[h3]at hj
  have:j=i:=by simpa using hj
  subst this
  exact⟨_,h2,rfl,by simp[n9]⟩
 small:=by simp[n9]
theorem IJ {g:Rows} {cs:List AV} {x:List Int} {ids:List Id} (n:Nat) (h:jm g cs x ids):bW (dz g) (n+2) cs=some (oX x):=by
 obtain⟨i,rfl,h2,_⟩:=h
 have h3:V.fz (dz g) (n+2) (.own i 0 x.length)=some (.sl (x.map az)):=fA (e:=az) (sz:=1) (by simp[dz,h2]) rfl fun y=>by simp[az,ad,aj,aH]
 simp only[ad,aj,h3,Option.map_some,oX]
theorem Ge {g:Rows} {cs:List AV} {x:List Int} {ids:List Id} (n:Nat) (h:jm g cs x ids):dv g (n+2) cs=some (oX x):=by
 obtain⟨i,rfl,h2,_⟩:=h
 have h3:fa g (n+2) (.own i 0 x.length)=some (.sl (x.map az)):=ft (e:=az) h2 rfl fun y=>by simp[az,bd,bE,dV]
 simp only[bd,bE,h3,Option.map_some,oX]
theorem DD {g:Rows} {cs:List AV} {x:List Int} {ids:List Id} (h:jm g cs x ids):cs.all AV.clean=true/\Handed ids g:=by
 obtain⟨i,rfl,h2,rfl⟩:=h
 refine⟨rfl,fun j hj=>?_⟩
 rw[List.mem_singleton.1 hj]
 refine⟨_,h2,rfl,fun cs dh a ha=>?_⟩
 obtain⟨y,_,rfl⟩:=List.mem_map.1 dh
 exact List.all_eq_true.1 (clI y) a ha
def ik (g:Rows) (v:AV) (L:List (List Int)) (ids:List Id):Prop:=kJ jm 1 g v L ids
section
variable {g g':Rows} {v:AV} {L:List (List Int)} {ids:List Id}
theorem ik.frame (h:ik g v L ids) (hf:∀i∈ids,g' i=g i):ik g' v L ids:=kJ.frame qw h hf
theorem ik.DR (h:ik g v L ids):lZ oX L (Cz oX v L):=kJ.DR h
theorem ik.Mt (h:ik g v L ids):V.fz (dz g) 6 v=some (Cz oX v L):=kJ.Mt h fun h=>IJ 3 h
theorem ik.clean (h:ik g v L ids):v.clean=true:=kJ.clean h
theorem ik.hand (h:ik g v L ids):Handed ids g:=kJ.hand h fun h=>DD h
theorem ik.s (h:ik g v L ids):fa g 5 v=some (LG oX L):=kJ.s h fun h=>Ge 2 h
end
def kq (R:List Int):Nat:=R.length
def jA (k:Int):List (List Int)->List (List Int)
 |[]=>[]
 |R::L=>Cv k R.length::jA (k+(R.length:Int)) L
theorem gQ:∀(k:Int) (L:List (List Int)),(jA k L).length=L.length
 |_,[]=>rfl
 |k,R::L=>by rw[jA,List.length_cons,gQ,List.length_cons]
theorem tb:∀(k:Int) (A B:List (List Int)),jA k (A++B)=jA k A++jA (k+((A.map kq).sum:Nat)) B
 |k,[],B=>by simp[jA]
 |k,R::A,B=>by
  rw[List.cons_append,jA,jA,tb,List.cons_append]
  congr 3
  simp only[List.map_cons,List.sum_cons,kq];omega
def jE (k:Int) (L:List (List Int)) (j:Nat):List (List Int):=jA k (L.take j)++L.drop j
theorem D4 {k:Int} {L:List (List Int)} {j:Nat} (h:j<=L.length):(jE k L j).length=L.length:=by
 rw[jE,List.length_append,gQ,List.length_take,List.length_drop];omega
theorem DZ {k:Int} {L:List (List Int)} {j:Nat} (h:j<L.length):(jE k L j)[j]? =some L[j]:=by
 rw[jE,List.getElem?_append_right (by rw[gQ,List.length_take];omega),gQ,List.length_take,List.getElem?_drop,Nat.min_eq_left ab,Nat.sub_self,Nat.add_zero,List.getElem?_eq_getElem h]
theorem D5 {k:Int} {L:List (List Int)} {j:Nat} (h:j<L.length):(jE k L j).set j (Cv (k+(eV kq L j:Nat)) L[j].length)=jE k L (j+1):=by
 have h1:(jA k (L.take j)).length=j:=by rw[gQ,List.length_take];omega
 rw[jE,List.drop_eq_getElem_cons h,jE,List.take_succ_eq_append_getElem h,tb,List.append_assoc]
 rw[List.set_append_right _ _ ab,h1,Nat.sub_self,List.set_cons_zero]
 rfl
theorem Gs (v:AV) (L:List (List Int)) (ids:List Id) (k:Int) (h0:0<=k) (h1:k+((L.map kq).sum+L.length:Nat)<=4611686018427387904) (σ:aw) (hv:∀i∈ids,i.bV<σ.next) (km:ids.Nodup) (hg:fh jm 1 σ.get v L ids):
  Call Tryz.prog 18 [v,.int .i64 k] σ (fun r σ'=>r=.int .i64 (k+(L.map kq).sum)/\o7 σ ids σ'.get σ'.next/\fh jm 1 σ'.get v (jA k L) ids):=by
 obtain⟨o,rows,is,rfl,ho,hR,rfl⟩:=hg
 refine eZ dN rfl fun hl=>?_
 clear hl
 have rS:=hv o (by simp)
 have yM:=jc kq L
 obtain⟨JX,QD⟩:=List.nodup_cons.1 km
 have hz:jE k L 0=L:=by simp[jE,jA]
 have mz:=hR.len
 (try((repeat(revert hN;revert N;apply Pn.out));refine wk @Nat.zero_add ?_;(repeat(refine Pn.mk ?_;intro N hN))))
 refine aL (fun n env st=>∃j:Nat,n=(L.length)-j/\j<=(L.length)/\env 5=.int .i64 (j:Int)/\env 1=.int .i64 (k+eV kq L j)/\st.get o=some ⟨true,1,rows⟩/\(o7 σ (o::is) st.get st.next/\cD jm st.get rows (jE k L j) is)) (L.length) ⟨0,ab,ab,sl (tw @Int.add_zero (tw @Int.natCast_zero (tw @yM @ho))),sl (tw @Int.add_zero (tw @Int.natCast_zero (tw @yM @ho))),sl (tw @Int.add_zero (tw @Int.natCast_zero (tw @yM @ho))),by(try dsimp only);exact⟨⟨bt,fun x _ _=>rfl⟩,by rw[hz];exact hR⟩⟩ ?_
 rintro n_a env_a st_a ⟨j,rfl,ale,a5,a1,ag0,lx⟩ dC
 have a0:=dC 0 (by kernel_rfl)
 simp only[go_sem, ↓reduceIte,Nat.reduceEqDiff,Nat.reduceAdd,Nat.reduceSub,Nat.reduceLeDiff,reduceCtorEq,Int.add_zero,Int.natCast_zero,yM,ho]at a0
 clear dC
 obtain⟨⟨an,aF⟩,aR⟩:=lx
 by_cases hj:(j:Int)<(L.length:Int)
 ·have bZ:∀{e:Env} {gg:Rows} {nx:Nat},(e 5=.int .i64 (IntKind.i64.wrap ((j:Int)+1)))->(e 1=.int .i64 (k+eV kq L (j+1)))->(gg o=some ⟨true,1,rows⟩)->(o7 σ (o::is) gg nx/\cD jm gg rows (jE k L (j+1)) is)->∃m0,m0<(L.length)-j/\∃j:Nat,m0=(L.length)-j/\j<=(L.length)/\e 5=.int .i64 (j:Int)/\e 1=.int .i64 (k+eV kq L j)/\gg o=some ⟨true,1,rows⟩/\(o7 σ (o::is) gg nx/\cD jm gg rows (jE k L j) is):=fun x1 x2 x3 x4=>⟨_,ab,j+1,rfl,ab,(by rw[x1,ax ab]),x2,x3,x4⟩
  have gh:j<L.length:=ab
  have Du:=lS kq gh
  have hle:=ji kq L (j+1)
  have hlen:=D4 (k:=k) (L:=L) (j:=j) ab
  have kK:(jE k L j)[j]'ab=L[j]:=by
   have:=DZ (k:=k) gh
   rw[List.getElem?_eq_getElem ab]at this
   exact Option.some.inj this
  obtain⟨cs,ic,My,hT,n3,EM,sW⟩:=aR.put qw QD j ab
  rw[kK]at hT
  have dK:=D5 (k:=k) gh
  obtain⟨X,hX⟩:∃X,L[j]=X:=⟨_,rfl⟩
  rw[hX]at hT dK Du
  obtain⟨i,rfl,hi,rfl⟩:=hT
  have xG:kq X=X.length:=rfl
  have NQ:i∈is:=EM i (by simp)
  have JS:i≠o:=fun e=>JX (e▸NQ)
  have hiv:i.bV<σ.next:=hv i (by simp[NQ])
  (try((repeat(revert hN;revert N;apply Pn.out));refine wk (tw @a5 (tw @a1 (tw @ag0 (tw @a0 (tw @hj @My))))) ?_;(repeat(refine Pn.mk ?_;intro N hN))))
  refine .inr (aO _ _ _ _ _ (fun r σ1 hq=>?_) (IX i X (k+(eV kq L j:Nat)) ab ab _ bt hi))
  obtain⟨g1,x1⟩:=σ1
  obtain⟨rfl,⟨EN,o6⟩,hq3⟩:=hq
  (try dsimp only at EN o6 hq3)
  refine hN _ _ ?_
  clear hN N
  have JU:k+(eV kq L j:Nat)+(X.length:Int)=k+(eV kq L (j+1):Nat):=ab
  have go:=(o6 o bt (by simp only[List.mem_singleton];exact fun e=>JS e.symm)).trans ag0
  (try((repeat(revert hN;revert N;apply Pn.out));refine wk (tw @a5 (tw @a1 (tw @ag0 (tw @a0 (tw @JU @go))))) ?_;(repeat(refine Pn.mk ?_;intro N hN))))
  refine bZ ?_ ?_ ?_ (by(try dsimp only);exact⟨⟨bt,fun x hx u4=>by
   have h4:x≠i:=fun e=>u4 (by simp[e,NQ])
   rw[o6 x bt (by simp[h4])]
   exact aF x hx u4⟩,by
    rw[<-dK]
    exact sW _ _ ⟨i,by rw[iE],by rw[hq3],rfl⟩ fun x hx xI=>o6 x (by have:=hv x (by simp[hx]);(try dsimp only);omega) xI⟩)
  all_goals simp only[go_sem, ↓reduceIte,Nat.reduceEqDiff,Nat.reduceAdd,Nat.reduceSub,Nat.reduceLeDiff,reduceCtorEq,a5,a1,ag0,a0,JU,go]
 ·have gh:j=L.length:=ab
  subst gh
  have di:=pT kq L
  rw[di]at a1
  (try((repeat(revert hN;revert N;apply Pn.out));refine wk (tw @a5 (tw @a1 (tw @ag0 (tw @a0 @hj)))) ?_;(repeat(refine Pn.mk ?_;intro N hN))))
  have kF:jE k L L.length=jA k L:=by simp[jE]
  rw[kF]at aR
  exact gn (.inl rfl) (vs:=[.int .i64 (k+(L.map kq).sum)]) (sd (tw @a5 (tw @a1 (tw @ag0 @a0)))) ⟨rfl,⟨bt,fun x hx hi=>aF x hx hi⟩,⟨o,rows,is,by rw[gQ],ag0,aR,rfl⟩⟩
theorem DU (k:Int) (σ:aw):Call Tryz.prog 18 [.bC,.int .i64 k] σ (fun r σ'=>r=.int .i64 k/\o7 σ [] σ'.get σ'.next):=by
 refine eZ dN rfl fun hl=>?_
 clear hl
 (try((repeat(revert hN;revert N;apply Pn.out));refine wk @Nat.zero_add ?_;(repeat(refine Pn.mk ?_;intro N hN))))
 refine aL (fun n env st=>(env 1=.int .i64 k/\env 5=.int .i64 0/\env 0=.bC)/\σ.next<=st.next/\∀x:Id,st.get x=σ.get x) 0 ⟨⟨sd @Nat.zero_add,sd @Nat.zero_add,sd @Nat.zero_add⟩,bt,fun _=>rfl⟩ ?_
 rintro m e st ⟨⟨a1,a5,a0⟩,an,aF⟩ -
 have d0:decide ((0:Int)<((0:Nat):Int))=false:=rfl
 (try((repeat(revert hN;revert N;apply Pn.out));refine wk (tw @a0 (tw @a1 (tw @a5 @d0))) ?_;(repeat(refine Pn.mk ?_;intro N hN))))
 exact gn (.inl rfl) (vs:=[.int .i64 k]) (sd @a1) ⟨rfl,⟨bt,fun x hx hi=>aF x⟩⟩
theorem DV {v:AV} {L:List (List Int)} {ids:List Id} (k:Int) (h0:0<=k) (h1:k+((L.map kq).sum+L.length:Nat)<=4611686018427387904) (σ:aw) (hv:∀i∈ids,i.bV<σ.next) (km:ids.Nodup) (h:ik σ.get v L ids):
  Call Tryz.prog 18 [v,.int .i64 k] σ (fun r σ'=>r=.int .i64 (k+(L.map kq).sum)/\o7 σ ids σ'.get σ'.next/\ik σ'.get v (jA k L) ids):=by
 rcases h with⟨rfl,rfl,rfl⟩|⟨h,hp⟩
 ·refine aO _ _ _ _ _ (fun r σ' hq=>?_) (DU k σ)
  obtain⟨rfl,hB⟩:=hq
  exact⟨by simp,hB,.inl ⟨rfl,rfl,rfl⟩⟩
 ·refine aO _ _ _ _ _ (fun r σ' hq=>?_) (Gs v L ids k h0 h1 σ hv km h)
  obtain⟨rfl,hB,hg⟩:=hq
  exact⟨rfl,hB,.inr ⟨hg,by rw[gQ];exact hp⟩⟩
theorem IY {k:Int} {L:List (List Int)} {j:Nat} (h:j<L.length):((jA k L).map oX)[j]? =some [.sl ((Cv (k+(eV kq L j:Nat)) L[j].length).map az)]:=by
 have h1:(jA k (L.take j)).length=j:=by rw[gQ,List.length_take];omega
 have h2:L=L.take j++L[j]::L.drop (j+1):=by rw[<-List.drop_eq_getElem_cons h,List.take_append_drop]
 have h3:jA k L=jA k (L.take j)++jA (k+(((L.take j).map kq).sum:Nat)) (L[j]::L.drop (j+1)):=by rw[<-tb,<-h2]
 rw[h3,List.map_append,List.getElem?_append_right (by rw[List.length_map,h1];omega),List.length_map,h1,Nat.sub_self,jA]
 rfl
theorem FP (k:Int) (L:List (List Int)) (h0:0<=k) (h1:k+(L.map kq).sum<=4611686018427387904):ai Tryz.prog 19 [.sl ((jA k L).map oX),.int .i64 k] (.int .i64 (k+(L.map kq).sum)):=by
 refine ai.body dN rfl fun hl n0=>?_
 have hL:L.length<=9223372036854775807:=by simpa[gQ]using(hl (.sl ((jA k L).map oX)) (by simp)).len
 clear hl
 have yM:=jc kq L
 have kD:((jA k L).map oX).length=L.length:=by rw[List.length_map,gQ]
 (try((repeat(revert hN;revert N;apply Pn.out));refine wk @kD ?_;(repeat(refine Pn.mk ?_;intro N hN))))
 refine aL (fun n env st=>∃j:Nat,n=(L.length)-j/\j<=(L.length)/\env 5=.int .i64 (j:Int)/\env 1=.int .i64 (k+eV kq L j)) (L.length) ⟨0,ab,ab,sl (tw @Int.add_zero (tw @Int.natCast_zero (tw @yM @kD))),sl (tw @Int.add_zero (tw @Int.natCast_zero (tw @yM @kD)))⟩ ?_
 rintro n_a env_a st_a ⟨j,rfl,ale,a5,a1⟩ dC
 have a0:=dC 0 (by kernel_rfl)
 simp only[go_sem, ↓reduceIte,Nat.reduceEqDiff,Nat.reduceAdd,Nat.reduceSub,Nat.reduceLeDiff,reduceCtorEq,Int.add_zero,Int.natCast_zero,yM,kD]at a0
 clear dC
 by_cases hj:(j:Int)<(L.length:Int)
 ·have bZ:∀{e:Env},(e 5=.int .i64 (IntKind.i64.wrap ((j:Int)+1)))->(e 1=.int .i64 (k+eV kq L (j+1)))->∃m0,m0<(L.length)-j/\∃j:Nat,m0=(L.length)-j/\j<=(L.length)/\e 5=.int .i64 (j:Int)/\e 1=.int .i64 (k+eV kq L j):=fun x1 x2=>⟨_,ab,j+1,rfl,ab,(by rw[x1,ax ab]),x2⟩
  have gh:j<L.length:=ab
  have Du:=lS kq gh
  have hle:=ji kq L (j+1)
  have dE:=IY (k:=k) gh
  have xG:kq L[j]=L[j].length:=rfl
  have hh:=Il (k+(eV kq L j:Nat)) L[j].length ab ab
  have JU:k+(eV kq L j:Nat)+(L[j].length:Int)=k+(eV kq L (j+1):Nat):=ab
  rw[JU]at hh
  have hp:¬k+((eV kq L (j+1):Nat):Int)<0:=ab
  generalize (Cv (k+(eV kq L j:Nat)) L[j].length).map az=M at dE hh
  (repeat(first|((repeat(revert hN;revert N;apply Pn.out));refine wk (tw @a5 (tw @a1 (tw @a0 (tw @hj (tw @dE (tw @kD @hp)))))) ?_;(repeat(refine Pn.mk ?_;intro N hN)))|((try apply Or.inl);refine⟨_,ai.x (hh) (sd (tw @a5 (tw @a1 (tw @a0 (tw @hj (tw @dE (tw @kD @hp))))))),?_⟩;refine hN _ _ ?_;clear hN N)))
  refine bZ ?_ ?_
  all_goals simp only[go_sem, ↓reduceIte,Nat.reduceEqDiff,Nat.reduceAdd,Nat.reduceSub,Nat.reduceLeDiff,reduceCtorEq,a5,a1,a0,kD]
 ·have gh:j=L.length:=ab
  subst gh
  have di:=pT kq L
  rw[di]at a1
  (try((repeat(revert hN;revert N;apply Pn.out));refine wk (tw @a5 (tw @a1 (tw @a0 (tw @hj @kD)))) ?_;(repeat(refine Pn.mk ?_;intro N hN))))
  exact bq (b:=k+(L.map kq).sum) (.inl rfl) (sd (tw @a5 (tw @a1 @a0))) rfl
theorem u3 {w:AV} (k:Int) (L:List (List Int)) (h0:0<=k) (h1:k+(L.map kq).sum<=4611686018427387904) (hw:lZ oX (jA k L) w):ai Tryz.prog 19 [w,.int .i64 k] (.int .i64 (k+(L.map kq).sum)):=
 (FP k L h0 h1).cut mixed (hw.cut (.same _ .nil))
theorem KE (L:List (List Int)):ai Tryz.prog 13 [.sl (L.map oX),.sl (L.map oX)] (.bool true):=by
 refine ai.body dN rfl fun hl n0=>?_
 have hL:L.length<=9223372036854775807:=by simpa using(hl (.sl (L.map oX)) (by simp)).len
 clear hl
 have kD:(L.map oX).length=L.length:=by simp
 have d0:decide ((L.length:Int)=(L.length:Int))=true:=decide_eq_true rfl
 (try((repeat(revert hN;revert N;apply Pn.out));refine wk (tw @kD @d0) ?_;(repeat(refine Pn.mk ?_;intro N hN))))
 refine aL (fun n env st=>∃j:Nat,n=(L.length)-j/\j<=(L.length)/\env 5=.int .i64 (j:Int)) (L.length) ⟨0,ab,ab,sl @kD⟩ ?_
 rintro n_a env_a st_a ⟨j,rfl,ale,a5⟩ dC
 have a0:=dC 0 (by kernel_rfl);have a1:=dC 1 (by kernel_rfl)
 simp only[go_sem, ↓reduceIte,Nat.reduceEqDiff,Nat.reduceAdd,Nat.reduceSub,Nat.reduceLeDiff,reduceCtorEq,kD]at a0 a1
 clear dC
 by_cases hj:(j:Int)<(L.length:Int)
 ·have bZ:∀{e:Env},(e 5=.int .i64 (IntKind.i64.wrap ((j:Int)+1)))->∃m0,m0<(L.length)-j/\∃j:Nat,m0=(L.length)-j/\j<=(L.length)/\e 5=.int .i64 (j:Int):=fun x1=>⟨_,ab,j+1,rfl,ab,(by rw[x1,ax ab])⟩
  have gh:j<L.length:=ab
  have dE:(L.map oX)[j]? =some [.sl (L[j].map az)]:=by simp[gh,oX]
  have hh:=yj L[j] L[j]
  rw[decide_eq_true rfl]at hh
  generalize L[j].map az=M at dE hh
  (repeat(first|((repeat(revert hN;revert N;apply Pn.out));refine wk (tw @a5 (tw @a0 (tw @a1 (tw @hj (tw @dE @kD))))) ?_;(repeat(refine Pn.mk ?_;intro N hN)))|((try apply Or.inl);refine⟨_,ai.x (hh) (sd (tw @a5 (tw @a0 (tw @a1 (tw @hj (tw @dE @kD)))))),?_⟩;refine hN _ _ ?_;clear hN N)))
  exact bZ (sd (tw @a5 (tw @a0 (tw @a1 @kD))))
 ·have gh:j=L.length:=ab
  subst gh
  (try((repeat(revert hN;revert N;apply Pn.out));refine wk (tw @a5 (tw @a0 (tw @a1 (tw @hj @kD)))) ?_;(repeat(refine Pn.mk ?_;intro N hN))))
  exact aJ (b:=true) (.inl rfl) (sd @Nat.zero_add) rfl
theorem wm {L:List (List Int)} {v w:AV} (hv:lZ oX L v) (hw:lZ oX L w):ai Tryz.prog 13 [v,w] (.bool true):=
 (KE L).cut mixed (hv.cut (hw.cut .nil))
theorem IS (JD:ck->dd->Int->Int->List (List Int)×Int)
  (N5:∀s a w h,fC s.aA->qR s->a.ae.length<=1048576->∃w0,lZ oX (JD s a w h).1 w0/\jC Tryz.prog 9 [.agg (ay s),.agg (aC a),.int .i64 w,.int .i64 h] (.ib [w0,.int .i64 (JD s a w h).2]))
  (NR:∀s a w h,fC s.aA->qR s->a.ae.length<=1048576->∀n:Nat,Call Tryz.prog 12 [.agg (ay s),.agg (aC a),.int .i64 w,.int .i64 h] ⟨fun _=>none,n⟩ (fun r σ'=>∃ids,(∃v0 i0,r=.ib [v0,.int .i64 (JD s a w h).2]/\ik σ'.get v0 (JD s a w h).1 i0/\ids=i0)/\dZ n σ'.next ids))
  (JV:∀s a w h,fC s.aA->qR s->a.ae.length<=1048576->(((JD s a w h).1.map kq).sum+(JD s a w h).1.length)<=1099511627776)
  (s:ck) (a:dd) (w:Int) (h:Int) (hn:fC s.aA):ai Tryz.prog 3 [.agg (ay s),.agg (aC a),.int .i64 w,.int .i64 h] (.bool true):=by
 refine ai.body dN rfl fun hl n0=>?_
 clear hl
 have h1:=BD s 1048576 ab ab hn
 by_cases NI:((tQ s:Nat):Int)<=1048576
 ·rw[gE NI]at h1
  have Dn:¬(1048576:Int)-((tQ s:Nat):Int)<0:=ab
  have h2:=pV a (1048576-((tQ s:Nat):Int)) ab ab
  by_cases JM:((a.ae.length:Nat):Int)<=1048576-((tQ s:Nat):Int)
  ·rw[gE JM]at h2
   have K3:¬(1048576:Int)-((tQ s:Nat):Int)-((a.ae.length:Nat):Int)<0:=ab
   have sm:=En (s:=s) ab
   have ma:a.ae.length<=1048576:=ab
   have t1:=BI s sm
   have t2:=pZ a ma
   obtain⟨w0,ET,r1⟩:=N5 s a w h hn sm ma
   have r2:=NR s a w h hn sm ma
   have q1:=z8 s
   have q2:=wj a
   have Nu:=JV s a w h hn sm ma
   obtain⟨L0,hR0⟩:∃R,(JD s a w h).1=R:=⟨_,rfl⟩
   obtain⟨c1,Nv⟩:∃R,(JD s a w h).2=R:=⟨_,rfl⟩
   simp only[hR0,Nv]at r1 r2 ET Nu
   have o1:=fun σ=>BH s sm σ
   rw[ay]at o1
   have o2:=fun σ=>pY a ma σ
   rw[aC]at o2
   have Hu:decide (c1=c1)=true:=by simp
   rw[ay]at h1
   rw[aC]at h2
   (repeat(first|((repeat(revert hN;revert N;apply Pn.out));refine wk (tw @ay.eq_1 (tw @aC.eq_1 (tw @Dn @K3))) ?_;(repeat(refine Pn.mk ?_;intro N hN)))|((try apply Or.inl);refine⟨_,ai.x (h1) (sd (tw @ay.eq_1 (tw @aC.eq_1 (tw @Dn @K3)))),?_⟩;refine hN _ _ ?_;clear hN N)|((try apply Or.inl);refine⟨_,ai.x (h2) (sd (tw @ay.eq_1 (tw @aC.eq_1 (tw @Dn @K3)))),?_⟩;refine hN _ _ ?_;clear hN N)))
   refine⟨_,jC.x (by rw[ay]at t1;exact t1) _,?_⟩
   refine hN _ _ ?_
   clear hN N
   (try((repeat(revert hN;revert N;apply Pn.out));refine wk (tw @ay.eq_1 @aC.eq_1) ?_;(repeat(refine Pn.mk ?_;intro N hN))))
   refine⟨_,jC.x (by rw[aC]at t2;exact t2) _,?_⟩
   refine hN _ _ ?_
   clear hN N
   (try((repeat(revert hN;revert N;apply Pn.out));refine wk @Nat.zero_add ?_;(repeat(refine Pn.mk ?_;intro N hN))))
   refine⟨_,jC.x (by rw[ay,aC]at r1;exact r1) _,?_⟩
   refine hN _ _ ?_
   clear hN N
   (try((repeat(revert hN;revert N;apply Pn.out));refine wk @Nat.zero_add ?_;(repeat(refine Pn.mk ?_;intro N hN))))
   refine .inr (aO _ _ _ _ _ (fun r' σ1 hq=>?_) (o1 _))
   obtain⟨is,Hs,Ns,Ks⟩:=hq
   obtain⟨g1,x1⟩:=σ1
   (try dsimp only at Hs Ns Ks)
   obtain⟨As,Bs,Cs,j1s,j2s,j3s,rfl,hAs,Cc,hCs,-⟩:=Hs.ex
   obtain⟨oAs,rfl⟩:=hAs.jV
   obtain⟨oBs,rfl⟩:=Cc.jV
   obtain⟨oCs,rfl⟩:=hCs.jV
   clear hAs Cc hCs
   have ns:=Ks.1
   have bs:=Ns.2
   (try dsimp only at ns bs)
   have KG:=Ks.2 ⟨3000000,n0⟩ bt
   have KH:=Ks.2 ⟨3000001,n0⟩ bt
   simp only[go_sem, ↓reduceIte,Nat.reduceEqDiff,Nat.reduceAdd,Nat.reduceSub,Nat.reduceLeDiff,reduceCtorEq]at KG KH
   clear Ks
   refine hN _ _ ?_
   clear hN N
   (try((repeat(revert hN;revert N;apply Pn.out));refine wk (tw @KG @KH) ?_;(repeat(refine Pn.mk ?_;intro N hN))))
   refine .inr (aO _ _ _ _ _ (fun r' σ2 hq=>?_) (o2 _))
   obtain⟨ia,Ha,Na,Ka⟩:=hq
   obtain⟨g2,x2⟩:=σ2
   (try dsimp only at Ha Na Ka)
   obtain⟨Da,hDa⟩:=Ha
   obtain⟨rfl,PZ⟩:=hDa
   obtain⟨oDa,rfl⟩:=PZ.jV
   have Ha:vQ g2 (.agg [.own oDa 0 a.ae.length]) a ia:=⟨_,rfl,PZ⟩
   clear PZ
   have na:=Ka.1
   have ba:=Na.2
   (try dsimp only at na ba)
   have Ms:∀i:Id,i.bV<x1->g2 i=g1 i:=fun i hi=>by
    have h4:=Ka.2 i bt
    have h5:=eD (i:=i) (n:=x1) hi
    simp only[go_sem, ↓reduceIte,Nat.reduceEqDiff,Nat.reduceAdd,Nat.reduceSub,Nat.reduceLeDiff,reduceCtorEq,h5]at h4
    exact h4
   have Nh:=(Ms ⟨3000000,n0⟩ bt).trans KG
   have Ni:=(Ms ⟨3000001,n0⟩ bt).trans KH
   have KI:=Ka.2 ⟨3009002,x1⟩ bt
   simp only[go_sem, ↓reduceIte,Nat.reduceEqDiff,Nat.reduceAdd,Nat.reduceSub,Nat.reduceLeDiff,reduceCtorEq]at KI
   have Hs:=Hs.frame (g':=g2) fun i hi=>Ms i (by have:=bs i hi;omega)
   clear Ka
   refine hN _ _ ?_
   clear hN N
   (try((repeat(revert hN;revert N;apply Pn.out));refine wk (tw @Nh (tw @Ni @KI)) ?_;(repeat(refine Pn.mk ?_;intro N hN))))
   refine .inr (aO _ _ _ _ _ (fun r' σ3 hq=>?_) (CJ mixed (K:=fun r g ids=>(∃v0 i0,r=.ib [v0,.int .i64 c1]/\ik g v0 L0 i0/\ids=i0)) (by
    rintro r g ids ⟨v0,i0,rfl,k0,rfl⟩
    exact⟨by simp[z2,CX k0.clean,zZ,ya],(k0.hand)⟩) (by
    rintro r g g' ids ⟨v0,i0,rfl,k0,rfl⟩ hf
    exact⟨v0,ids,rfl,k0.frame (fun i hi=>hf i (by simp[hi])),rfl⟩) r2 (Np ((Hs.frame fun i hi=>by
    have h5:=eD (i:=i) (n:=x2) (by have:=bs i hi;omega)
    simp only[go_sem, ↓reduceIte,Nat.reduceEqDiff,Nat.reduceAdd,Nat.reduceSub,Nat.reduceLeDiff,reduceCtorEq,h5]).fz 1) ((Ha.frame fun i hi=>by
    have h5:=eD (i:=i) (n:=x2) (by have:=ba i hi;omega)
    simp only[go_sem, ↓reduceIte,Nat.reduceEqDiff,Nat.reduceAdd,Nat.reduceSub,Nat.reduceLeDiff,reduceCtorEq,h5]).fz 2) (aH _ _ _ _) (aH _ _ _ _))))
   obtain⟨iZ,⟨v0,iZ0,rfl,Z0,rfl⟩,NZ,KZ⟩:=hq
   obtain⟨g3,x3⟩:=σ3
   (try dsimp only at Z0 NZ KZ)
   have nZ:=KZ.1
   (try dsimp only at nZ)
   have N0:=NZ
   have b0:=N0.2
   (try dsimp only at b0)
   have Nm:∀i:Id,i.bV<x2->g3 i=g2 i:=fun i hi=>by
    have h4:=KZ.2 i bt
    have h5:=eD (i:=i) (n:=x2) hi
    simp only[go_sem, ↓reduceIte,Nat.reduceEqDiff,Nat.reduceAdd,Nat.reduceSub,Nat.reduceLeDiff,reduceCtorEq,h5]at h4
    exact h4
   have z9:=(Nm ⟨3000000,n0⟩ bt).trans Nh
   have Aa:=(Nm ⟨3000001,n0⟩ bt).trans Ni
   have Dg:=(Nm ⟨3009002,x1⟩ bt).trans KI
   have yl:=KZ.2 ⟨3010002,x2⟩ bt
   simp only[go_sem, ↓reduceIte,Nat.reduceEqDiff,Nat.reduceAdd,Nat.reduceSub,Nat.reduceLeDiff,reduceCtorEq]at yl
   have Hs:=Hs.frame (g':=g3) fun i hi=>Nm i (by have:=bs i hi;omega)
   have Ha:=Ha.frame (g':=g3) fun i hi=>Nm i (by have:=ba i hi;omega)
   clear KZ
   refine hN _ _ ?_
   clear hN N
   (try((repeat(revert hN;revert N;apply Pn.out));refine wk (tw @z9 (tw @Aa (tw @Dg @yl))) ?_;(repeat(refine Pn.mk ?_;intro N hN))))
   refine .inl ⟨_,ai.x (wm Z0.DR ET) (tN ((Z0.frame fun i hi=>by
    have h5:=eD (i:=i) (n:=x3) (by have:=b0 i hi;omega)
    simp only[go_sem, ↓reduceIte,Nat.reduceEqDiff,Nat.reduceAdd,Nat.reduceSub,Nat.reduceLeDiff,reduceCtorEq,h5]).Mt) (ET.fz _)),?_⟩
   refine hN _ _ ?_
   clear hN N
   (try((repeat(revert hN;revert N;apply Pn.out));refine wk (tw @z9 (tw @Aa (tw @Dg (tw @yl @Hu)))) ?_;(repeat(refine Pn.mk ?_;intro N hN))))
   refine⟨_,jC.x (by rw[ay]at t1;exact t1) _,?_⟩
   refine hN _ _ ?_
   clear hN N
   (try((repeat(revert hN;revert N;apply Pn.out));refine wk (tw @z9 (tw @Aa (tw @Dg (tw @yl @Hu)))) ?_;(repeat(refine Pn.mk ?_;intro N hN))))
   refine⟨_,ai.x (by rw[ay]at q1;exact q1) (by rw[<-ay];exact Jp (Hs.frame fun i hi=>by
    have h5:=eD (i:=i) (n:=x3) (by have:=bs i hi;omega)
    simp only[go_sem, ↓reduceIte,Nat.reduceEqDiff,Nat.reduceAdd,Nat.reduceSub,Nat.reduceLeDiff,reduceCtorEq,h5]) (BZ _ _)),?_⟩
   refine hN _ _ ?_
   clear hN N
   (try((repeat(revert hN;revert N;apply Pn.out));refine wk (tw @z9 (tw @Aa (tw @Dg (tw @yl @Hu)))) ?_;(repeat(refine Pn.mk ?_;intro N hN))))
   refine⟨_,jC.x (by rw[aC]at t2;exact t2) _,?_⟩
   refine hN _ _ ?_
   clear hN N
   (try((repeat(revert hN;revert N;apply Pn.out));refine wk (tw @z9 (tw @Aa (tw @Dg (tw @yl @Hu)))) ?_;(repeat(refine Pn.mk ?_;intro N hN))))
   refine⟨_,ai.x (by rw[aC]at q2;exact q2) (by rw[<-aC];exact HT (Ha.frame fun i hi=>by
    have h5:=eD (i:=i) (n:=x3) (by have:=ba i hi;omega)
    simp only[go_sem, ↓reduceIte,Nat.reduceEqDiff,Nat.reduceAdd,Nat.reduceSub,Nat.reduceLeDiff,reduceCtorEq,h5]) (BY _ _)),?_⟩
   refine hN _ _ ?_
   clear hN N
   (try((repeat(revert hN;revert N;apply Pn.out));refine wk (tw @z9 (tw @Aa (tw @Dg (tw @yl @Hu)))) ?_;(repeat(refine Pn.mk ?_;intro N hN))))
   have Le:=IW s
   refine .inr (aO _ _ _ _ _ (fun r' σ4 hq=>?_) (DX _ s _ 1 ab sm.s.t ab _ (fun i hi=>by have:=bs i hi;(try dsimp only);omega) Ns.1 (Hs.frame fun i hi=>by
    have h5:=eD (i:=i) (n:=x3) (by have:=bs i hi;omega)
    simp only[go_sem, ↓reduceIte,Nat.reduceEqDiff,Nat.reduceAdd,Nat.reduceSub,Nat.reduceLeDiff,reduceCtorEq,h5])))
   obtain⟨rfl,hM⟩:=hq
   obtain⟨g4,x4⟩:=σ4
   (try dsimp only at hM)
   have nM4:=hM.1
   (try dsimp only at nM4)
   have Nn:∀i:Id,i.bV<x3->i∉is->g4 i=g3 i:=fun i hi hx=>hM.2 i bt hx
   have Nj:=(Nn ⟨3000000,n0⟩ bt (Ns.not bt)).trans z9
   have Nk:=(Nn ⟨3000001,n0⟩ bt (Ns.not bt)).trans Aa
   have PM:=(Nn ⟨3010002,x2⟩ bt (Ns.not bt)).trans yl
   have Ha:=Ha.frame (g':=g4) fun i hi=>Nn i (by have:=ba i hi;omega) (Ns.not (by have:=ba i hi;omega))
   have Z0:=Z0.frame (g':=g4) fun i hi=>Nn i (by have:=b0 i hi;omega) (Ns.not (by have:=b0 i hi;omega))
   clear hM
   refine hN _ _ ?_
   clear hN N
   (try((repeat(revert hN;revert N;apply Pn.out));refine wk (tw @Nj (tw @Nk @PM)) ?_;(repeat(refine Pn.mk ?_;intro N hN))))
   refine .inr (aO _ _ _ _ _ (fun r' σ5 hq=>?_) (vB _ a _ (1+y5 s) ab ab _ (fun i hi=>by have:=ba i hi;(try dsimp only);omega) Ha))
   obtain⟨rfl,hM⟩:=hq
   obtain⟨g5,x5⟩:=σ5
   (try dsimp only at hM)
   have nM5:=hM.1
   (try dsimp only at nM5)
   have PQ:∀i:Id,i.bV<x4->i∉ia->g5 i=g4 i:=fun i hi hx=>hM.2 i bt hx
   have KJ:=(PQ ⟨3000000,n0⟩ bt (Na.not bt)).trans Nj
   have KK:=(PQ ⟨3000001,n0⟩ bt (Na.not bt)).trans Nk
   have Z0:=Z0.frame (g':=g5) fun i hi=>PQ i (by have:=b0 i hi;omega) (Na.not (by have:=b0 i hi;omega))
   clear hM
   have e3:decide (1+((y5 s:Nat):Int)+3*(a.ae.length:Int)<0)=false:=decide_eq_false ab
   refine hN _ _ ?_
   clear hN N
   (try((repeat(revert hN;revert N;apply Pn.out));refine wk (tw @KJ (tw @KK @e3)) ?_;(repeat(refine Pn.mk ?_;intro N hN))))
   refine .inl ⟨_,ai.x (wm Z0.DR ET) (tN (Z0.Mt) (ET.fz _)),?_⟩
   refine hN _ _ ?_
   clear hN N
   (try((repeat(revert hN;revert N;apply Pn.out));refine wk (tw @KJ (tw @KK (tw @Hu @e3))) ?_;(repeat(refine Pn.mk ?_;intro N hN))))
   refine .inr (aO _ _ _ _ _ (fun r' σ6 hq=>?_) (DV 1 ab ab _ (fun i hi=>by have:=b0 i hi;(try dsimp only);omega) N0.1 Z0))
   obtain⟨rfl,hM,Y0⟩:=hq
   obtain⟨g6,x6⟩:=σ6
   (try dsimp only at hM Y0)
   have nM6:=hM.1
   (try dsimp only at nM6)
   have fr6:∀i:Id,i.bV<x5->i∉iZ->g6 i=g5 i:=fun i hi hx=>hM.2 i bt hx
   have Ab:=(fr6 ⟨3000000,n0⟩ bt (N0.not bt)).trans KJ
   have Ac:=(fr6 ⟨3000001,n0⟩ bt (N0.not bt)).trans KK
   clear hM
   refine hN _ _ ?_
   clear hN N
   (try((repeat(revert hN;revert N;apply Pn.out));refine wk (tw @Ab @Ac) ?_;(repeat(refine Pn.mk ?_;intro N hN))))
   have OQ:decide (1+(((L0.map kq).sum:Nat):Int)<0)=false:=decide_eq_false ab
   refine .inl ⟨_,ai.x (u3 1 L0 ab ab Y0.DR) (tN (Y0.Mt) (aH _ _ _ _)),?_⟩
   refine hN _ _ ?_
   clear hN N
   have e5:decide (1+(((L0.map kq).sum:Nat):Int)=1+(((L0.map kq).sum:Nat):Int))=true:=decide_eq_true rfl
   (try((repeat(revert hN;revert N;apply Pn.out));refine wk (tw @Ab (tw @Ac (tw @OQ @e5))) ?_;(repeat(refine Pn.mk ?_;intro N hN))))
   refine⟨_,jC.x (by rw[ay]at t1;exact t1) _,?_⟩
   refine hN _ _ ?_
   clear hN N
   (try((repeat(revert hN;revert N;apply Pn.out));refine wk (tw @Ab (tw @Ac (tw @OQ @e5))) ?_;(repeat(refine Pn.mk ?_;intro N hN))))
   refine⟨_,jC.x (by rw[aC]at t2;exact t2) _,?_⟩
   refine hN _ _ ?_
   clear hN N
   (try((repeat(revert hN;revert N;apply Pn.out));refine wk (tw @Ab (tw @Ac (tw @OQ @e5))) ?_;(repeat(refine Pn.mk ?_;intro N hN))))
   have rs:ai Tryz.prog 12 [.agg (ay s),.agg (aC a),.int .i64 w,.int .i64 h] (.ib [LG oX L0,.int .i64 c1]):=fun n=>aO _ _ _ _ _ (fun r σ' hq=>by
    obtain⟨ids,⟨v0,i0,rfl,k0,rfl⟩,-⟩:=hq
    exact⟨_,by simp only[eJ,bd,bE,Cb,k0.s,dV,eO,Option.map_some]<;>rfl,rfl⟩) (r2 n)
   refine⟨_,ai.x (by rw[ay,aC]at rs;exact rs) (Np (by rw[<-ay];exact BZ _ _) (by rw[<-aC];exact BY _ _) (aH _ _ _ _) (aH _ _ _ _)),?_⟩
   refine hN _ _ ?_
   clear hN N
   have HG:=(GA (e:=oX) (L:=L0))
   generalize LG oX L0=u0 at HG ⊢
   (try((repeat(revert hN;revert N;apply Pn.out));refine wk (tw @Ab (tw @Ac @Hu)) ?_;(repeat(refine Pn.mk ?_;intro N hN))))
   refine .inl ⟨_,ai.x (wm HG ET) (tN (HG.fz _) (ET.fz _)),?_⟩
   refine hN _ _ ?_
   clear hN N
   (try((repeat(revert hN;revert N;apply Pn.out));refine wk (tw @Ab (tw @Ac @Hu)) ?_;(repeat(refine Pn.mk ?_;intro N hN))))
   refine .inl ⟨_,ai.x (u3 1 L0 ab ab Y0.DR) (tN ((Y0.frame fun i hi=>by
    have h5:=eD (i:=i) (n:=x6) (by have:=b0 i hi;omega)
    simp only[go_sem, ↓reduceIte,Nat.reduceEqDiff,Nat.reduceAdd,Nat.reduceSub,Nat.reduceLeDiff,reduceCtorEq,h5]).Mt) (aH _ _ _ _)),?_⟩
   refine hN _ _ ?_
   clear hN N
   (try((repeat(revert hN;revert N;apply Pn.out));refine wk (tw @Ab (tw @Ac (tw @OQ @e5))) ?_;(repeat(refine Pn.mk ?_;intro N hN))))
   exact aJ (b:=true) (.inl rfl) (sd @Nat.zero_add) rfl
  ·rw[gL JM]at h2
   rw[ay]at h1
   rw[aC]at h2
   (repeat(first|((repeat(revert hN;revert N;apply Pn.out));refine wk (tw @ay.eq_1 (tw @aC.eq_1 @Dn)) ?_;(repeat(refine Pn.mk ?_;intro N hN)))|((try apply Or.inl);refine⟨_,ai.x (h1) (sd (tw @ay.eq_1 (tw @aC.eq_1 @Dn))),?_⟩;refine hN _ _ ?_;clear hN N)|((try apply Or.inl);refine⟨_,ai.x (h2) (sd (tw @ay.eq_1 (tw @aC.eq_1 @Dn))),?_⟩;refine hN _ _ ?_;clear hN N)))
   exact aJ (b:=true) (.inl rfl) (sd @Nat.zero_add) rfl
 ·rw[gL NI]at h1
  rw[ay]at h1
  (repeat(first|((repeat(revert hN;revert N;apply Pn.out));refine wk (tw @ay.eq_1 @aC.eq_1) ?_;(repeat(refine Pn.mk ?_;intro N hN)))|((try apply Or.inl);refine⟨_,ai.x (h1) (sd (tw @ay.eq_1 @aC.eq_1)),?_⟩;refine hN _ _ ?_;clear hN N)))
  exact aJ (b:=true) (.inl rfl) (sd @Nat.zero_add) rfl
def gD (n lo hi:Int):Bool:=decide (lo<=n)&&decide (n<=hi)
theorem dt {n lo hi:Int} (h:gD n lo hi=true):lo<=n/\n<=hi:=by simpa[gD]using h
theorem nh {n lo hi:Int} (h:lo<=n/\n<=hi):gD n lo hi=true:=by simpa[gD]using h
def EX (p:bI):Bool:=gD p.ga (-60) 60&&gD p.fB (-60) 60
theorem jf (n lo hi:Int):ai Tryz.prog 36 [.int .i64 n,.int .i64 lo,.int .i64 hi] (.bool (gD n lo hi)):=by
 refine ai.body dN rfl fun hl n0=>?_
 clear hl
 by_cases h1:lo<=n
 ·(try((repeat(revert hN;revert N;apply Pn.out));refine wk @h1 ?_;(repeat(refine Pn.mk ?_;intro N hN))))
  exact aJ (b:=decide (n<=hi)) (.inl rfl) (sd @Nat.zero_add) (by simp[gD,h1])
 ·(try((repeat(revert hN;revert N;apply Pn.out));refine wk @h1 ?_;(repeat(refine Pn.mk ?_;intro N hN))))
  exact aJ (b:=false) (.inl rfl) (sd @Nat.zero_add) (by simp[gD,h1])
theorem iL (n lo hi:Int):ai Tryz.prog 42 [.int .i64 n,.int .i64 lo,.int .i64 hi] (.bool (gD n lo hi)):=by
 refine ai.body dN rfl fun hl n0=>?_
 clear hl
 by_cases h1:lo<=n
 ·(try((repeat(revert hN;revert N;apply Pn.out));refine wk @h1 ?_;(repeat(refine Pn.mk ?_;intro N hN))))
  exact aJ (b:=decide (n<=hi)) (.inl rfl) (sd @Nat.zero_add) (by simp[gD,h1])
 ·(try((repeat(revert hN;revert N;apply Pn.out));refine wk @h1 ?_;(repeat(refine Pn.mk ?_;intro N hN))))
  exact aJ (b:=false) (.inl rfl) (sd @Nat.zero_add) (by simp[gD,h1])
theorem Gi (d:Int):ai Tryz.prog 181 [.int .i64 d] (.bool (gD d 0 3)):=by
 refine ai.body dN rfl fun hl n0=>?_
 clear hl
 have h:=jf d 0 3
 (repeat(first|((repeat(revert hN;revert N;apply Pn.out));refine wk @Nat.zero_add ?_;(repeat(refine Pn.mk ?_;intro N hN)))|((try apply Or.inl);refine⟨_,ai.x (h) (sd @Nat.zero_add),?_⟩;refine hN _ _ ?_;clear hN N)))
 exact aJ (b:=gD d 0 3) (.inl rfl) (sd @Nat.zero_add) rfl
theorem AU (p:bI):ai Tryz.prog 129 [.agg (ao p)] (.bool (EX p)):=by
 refine ai.body dN rfl fun hl n0=>?_
 clear hl
 have h1:=jf p.ga (-60) 60
 have h2:=jf p.fB (-60) 60
 by_cases q:gD p.ga (-60) 60=true
 ·rw[q]at h1
  (repeat(first|((repeat(revert hN;revert N;apply Pn.out));refine wk @ao.eq_1 ?_;(repeat(refine Pn.mk ?_;intro N hN)))|((try apply Or.inl);refine⟨_,ai.x (h1) (sd @ao.eq_1),?_⟩;refine hN _ _ ?_;clear hN N)|((try apply Or.inl);refine⟨_,ai.x (h2) (sd @ao.eq_1),?_⟩;refine hN _ _ ?_;clear hN N)))
  exact aJ (b:=gD p.fB (-60) 60) (.inl rfl) (sd @Nat.zero_add) (by rw[EX,q];rfl)
 ·rw[Bool.not_eq_true]at q
  rw[q]at h1
  (repeat(first|((repeat(revert hN;revert N;apply Pn.out));refine wk @ao.eq_1 ?_;(repeat(refine Pn.mk ?_;intro N hN)))|((try apply Or.inl);refine⟨_,ai.x (h1) (sd @ao.eq_1),?_⟩;refine hN _ _ ?_;clear hN N)|((try apply Or.inl);refine⟨_,ai.x (h2) (sd @ao.eq_1),?_⟩;refine hN _ _ ?_;clear hN N)))
  exact aJ (b:=false) (.inl rfl) (sd @Nat.zero_add) (by rw[EX,q];rfl)
theorem vY (p:bI):ai Tryz.prog 135 [.agg (ao p)] (.bool (EX p)):=by
 refine ai.body dN rfl fun hl n0=>?_
 clear hl
 have h1:=iL p.ga (-60) 60
 have h2:=iL p.fB (-60) 60
 by_cases q:gD p.ga (-60) 60=true
 ·rw[q]at h1
  (repeat(first|((repeat(revert hN;revert N;apply Pn.out));refine wk @ao.eq_1 ?_;(repeat(refine Pn.mk ?_;intro N hN)))|((try apply Or.inl);refine⟨_,ai.x (h1) (sd @ao.eq_1),?_⟩;refine hN _ _ ?_;clear hN N)|((try apply Or.inl);refine⟨_,ai.x (h2) (sd @ao.eq_1),?_⟩;refine hN _ _ ?_;clear hN N)))
  exact aJ (b:=gD p.fB (-60) 60) (.inl rfl) (sd @Nat.zero_add) (by rw[EX,q];rfl)
 ·rw[Bool.not_eq_true]at q
  rw[q]at h1
  (repeat(first|((repeat(revert hN;revert N;apply Pn.out));refine wk @ao.eq_1 ?_;(repeat(refine Pn.mk ?_;intro N hN)))|((try apply Or.inl);refine⟨_,ai.x (h1) (sd @ao.eq_1),?_⟩;refine hN _ _ ?_;clear hN N)|((try apply Or.inl);refine⟨_,ai.x (h2) (sd @ao.eq_1),?_⟩;refine hN _ _ ?_;clear hN N)))
  exact aJ (b:=false) (.inl rfl) (sd @Nat.zero_add) (by rw[EX,q];rfl)
def qC (d:Int):Int:=if gD d 0 3 then(d+2) % 4 else -1
def ew (p:bI) (d:Int):bI:=
 if d=0 then⟨p.ga,p.fB+1⟩else if d=1 then⟨p.ga+1,p.fB⟩else if d=2 then⟨p.ga,p.fB-1⟩else if d=3 then⟨p.ga-1,p.fB⟩else p
def iB (n:Int):Prop:=-4611686018427387904<=n/\n<=4611686018427387904
theorem DI (p:bI) (d:Int) (hd:gD d 0 3=true) (hx:iB p.ga) (hy:iB p.fB):ai Tryz.prog 162 [.agg (ao p),.int .i64 d] (.agg (ao (ew p d))):=by
 refine ai.body dN rfl fun hl n0=>?_
 clear hl
 obtain⟨x1,x2⟩:=hx
 obtain⟨y1,y2⟩:=hy
 have w1:IntKind.i64.wrap (p.ga+1)=p.ga+1:=aY ab
 have w2:IntKind.i64.wrap (p.ga-1)=p.ga-1:=aY ab
 have w3:IntKind.i64.wrap (p.fB+1)=p.fB+1:=aY ab
 have w4:IntKind.i64.wrap (p.fB-1)=p.fB-1:=aY ab
 have hb:=dt hd
 have hc:d=0∨d=1∨d=2∨d=3:=ab
 rcases hc with rfl|rfl|rfl|rfl
 ·(try((repeat(revert hN;revert N;apply Pn.out));refine wk (tw @ao.eq_1 @w3) ?_;(repeat(refine Pn.mk ?_;intro N hN))))
  exact j5 (.inl rfl) (vs:=[.agg (ao (ew p 0))]) (by simp only[go_sem, ↓reduceIte,Nat.reduceEqDiff,Nat.reduceAdd,Nat.reduceSub,Nat.reduceLeDiff,reduceCtorEq,eQ,gI,ao,ew]) (by simp[dU,ao,fa,dv])
 ·(try((repeat(revert hN;revert N;apply Pn.out));refine wk (tw @ao.eq_1 @w1) ?_;(repeat(refine Pn.mk ?_;intro N hN))))
  exact j5 (.inl rfl) (vs:=[.agg (ao (ew p 1))]) (by simp[eQ,gI,ao,ew,ld,rowAt,bK,upd,part]) (by simp[dU,ao,fa,dv])
 ·(try((repeat(revert hN;revert N;apply Pn.out));refine wk (tw @ao.eq_1 @w4) ?_;(repeat(refine Pn.mk ?_;intro N hN))))
  exact j5 (.inl rfl) (vs:=[.agg (ao (ew p 2))]) (by simp[eQ,gI,ao,ew,ld,rowAt,bK,upd,part]) (by simp[dU,ao,fa,dv])
 ·(try((repeat(revert hN;revert N;apply Pn.out));refine wk (tw @ao.eq_1 @w2) ?_;(repeat(refine Pn.mk ?_;intro N hN))))
  exact j5 (.inl rfl) (vs:=[.agg (ao (ew p 3))]) (by simp[eQ,gI,ao,ew,ld,rowAt,bK,upd,part]) (by simp[dU,ao,fa,dv])
theorem w5 (p p2:bI) (x y:Int) (hx:IntKind.i64.wrap (p.ga+p2.ga)=x) (hy:IntKind.i64.wrap (p.fB+p2.fB)=y):ai Tryz.prog 194 [.agg (ao p),.agg (ao p2)] (.agg [.int .i64 x,.int .i64 y]):=by
 refine ai.body dN rfl fun hl n0=>?_
 clear hl
 (try((repeat(revert hN;revert N;apply Pn.out));refine wk (tw @ao.eq_1 (tw @hx @hy)) ?_;(repeat(refine Pn.mk ?_;intro N hN))))
 exact j5 (.inl rfl) (vs:=[.agg [.int .i64 x,.int .i64 y]]) (by simp only[go_sem, ↓reduceIte,Nat.reduceEqDiff,Nat.reduceAdd,Nat.reduceSub,Nat.reduceLeDiff,reduceCtorEq,eQ,gI,ao]) (by simp[dU,fa,dv])
theorem LU (p:bI) (d:Int) (hd:gD d 0 3=true) (hx:iB p.ga) (hy:iB p.fB):ai Tryz.prog 188 [.agg (ao p),.int .i64 d] (.agg (ao (ew p d))):=by
 refine ai.body dN rfl fun hl n0=>?_
 clear hl
 obtain⟨x1,x2⟩:=hx
 obtain⟨y1,y2⟩:=hy
 have hb:=dt hd
 have hc:d=0∨d=1∨d=2∨d=3:=ab
 rcases hc with rfl|rfl|rfl|rfl
 ·have h:=w5 p ⟨0,1⟩ (p.ga) (p.fB+1) (by rw[aY (by constructor<;>simp only<;>omega)]<;>(try simp only)<;>(try omega)) (by rw[aY (by constructor<;>simp only<;>omega)]<;>(try simp only)<;>(try omega))
  simp only[ao]at h
  (repeat(first|((repeat(revert hN;revert N;apply Pn.out));refine wk @ao.eq_1 ?_;(repeat(refine Pn.mk ?_;intro N hN)))|((try apply Or.inl);refine⟨_,ai.x (h) (sd @ao.eq_1),?_⟩;refine hN _ _ ?_;clear hN N)))
  exact j5 (.inl rfl) (vs:=[.agg (ao (ew p 0))]) (by simp[eQ,gI,ao,ew,ld,rowAt,bK,upd,part]) (by simp[dU,ao,fa,dv])
 ·have h:=w5 p ⟨1,0⟩ (p.ga+1) (p.fB) (by rw[aY (by constructor<;>simp only<;>omega)]<;>(try simp only)<;>(try omega)) (by rw[aY (by constructor<;>simp only<;>omega)]<;>(try simp only)<;>(try omega))
  simp only[ao]at h
  (repeat(first|((repeat(revert hN;revert N;apply Pn.out));refine wk @ao.eq_1 ?_;(repeat(refine Pn.mk ?_;intro N hN)))|((try apply Or.inl);refine⟨_,ai.x (h) (sd @ao.eq_1),?_⟩;refine hN _ _ ?_;clear hN N)))
  exact j5 (.inl rfl) (vs:=[.agg (ao (ew p 1))]) (by simp[eQ,gI,ao,ew,ld,rowAt,bK,upd,part]) (by simp[dU,ao,fa,dv])
 ·have h:=w5 p ⟨0,(-1)⟩ (p.ga) (p.fB-1) (by rw[aY (by constructor<;>simp only<;>omega)]<;>(try simp only)<;>(try omega)) (by rw[aY (by constructor<;>simp only<;>omega)]<;>(try simp only)<;>(try omega))
  simp only[ao]at h
  (repeat(first|((repeat(revert hN;revert N;apply Pn.out));refine wk @ao.eq_1 ?_;(repeat(refine Pn.mk ?_;intro N hN)))|((try apply Or.inl);refine⟨_,ai.x (h) (sd @ao.eq_1),?_⟩;refine hN _ _ ?_;clear hN N)))
  exact j5 (.inl rfl) (vs:=[.agg (ao (ew p 2))]) (by simp[eQ,gI,ao,ew,ld,rowAt,bK,upd,part]) (by simp[dU,ao,fa,dv])
 ·have h:=w5 p ⟨(-1),0⟩ (p.ga-1) (p.fB) (by rw[aY (by constructor<;>simp only<;>omega)]<;>(try simp only)<;>(try omega)) (by rw[aY (by constructor<;>simp only<;>omega)]<;>(try simp only)<;>(try omega))
  simp only[ao]at h
  (repeat(first|((repeat(revert hN;revert N;apply Pn.out));refine wk @ao.eq_1 ?_;(repeat(refine Pn.mk ?_;intro N hN)))|((try apply Or.inl);refine⟨_,ai.x (h) (sd @ao.eq_1),?_⟩;refine hN _ _ ?_;clear hN N)))
  exact j5 (.inl rfl) (vs:=[.agg (ao (ew p 3))]) (by simp[eQ,gI,ao,ew,ld,rowAt,bK,upd,part]) (by simp[dU,ao,fa,dv])
theorem Be (d:Int) (hd:gD d 0 3=true):ai Tryz.prog 189 [.int .i64 d] (.int .i64 (qC d)):=by
 refine ai.body dN rfl fun hl n0=>?_
 clear hl
 have hb:=dt hd
 have hw:IntKind.i64.wrap (d+2)=d+2:=aY ab
 have ht:Int.tmod (d+2) 4=(d+2) % 4:=Int.tmod_eq_emod_of_nonneg ab
 have h4:¬((4:Int)=0):=ab
 (try((repeat(revert hN;revert N;apply Pn.out));refine wk (tw @hw (tw @ht @h4)) ?_;(repeat(refine Pn.mk ?_;intro N hN))))
 exact bq (b:=(d+2) % 4) (.inl rfl) (sd @Nat.zero_add) (by rw[qC,if_pos hd])
theorem zO (d:Int) (hd:gD d 0 3=true):ai Tryz.prog 163 [.int .i64 d] (.int .i64 (qC d)):=by
 refine ai.body dN rfl fun hl n0=>?_
 clear hl
 have hb:=dt hd
 have hw:IntKind.i64.wrap (d+2)=d+2:=aY ab
 have ht:Int.tmod (d+2) 4=(d+2) % 4:=Int.tmod_eq_emod_of_nonneg ab
 have h4:¬((4:Int)=0):=ab
 have h:=Gi d
 rw[hd]at h
 (repeat(first|((repeat(revert hN;revert N;apply Pn.out));refine wk (tw @hw (tw @ht @h4)) ?_;(repeat(refine Pn.mk ?_;intro N hN)))|((try apply Or.inl);refine⟨_,ai.x (h) (sd (tw @hw (tw @ht @h4))),?_⟩;refine hN _ _ ?_;clear hN N)))
 exact bq (b:=(d+2) % 4) (.inl rfl) (sd @Nat.zero_add) (by rw[qC,if_pos hd])
def fU (s:aq) (t:Int):Bool:=gD t 0 ((s.ae.length:Int)-1)
theorem AW (s:aq) (t:Int):ai Tryz.prog 96 [.cK (aa s),.int .i64 t] (.bool (fU s t)):=by
 refine ai.body dN rfl fun hl n0=>?_
 have hn:s.ae.length<=9223372036854775807:=by
  have h1:=(hl (.cK (aa s)) (by simp)).vn (a:=.sl (s.ae.map aU)) (by simp[aa])
  simpa using h1.len
 clear hl
 have hw:IntKind.i64.wrap ((s.ae.length:Int)-1)=(s.ae.length:Int)-1:=aY ab
 have h:=jf t 0 ((s.ae.length:Int)-1)
 (repeat(first|((repeat(revert hN;revert N;apply Pn.out));refine wk (tw @aa.eq_1 @hw) ?_;(repeat(refine Pn.mk ?_;intro N hN)))|((try apply Or.inl);refine⟨_,ai.x (h) (sd (tw @aa.eq_1 @hw)),?_⟩;refine hN _ _ ?_;clear hN N)))
 exact aJ (b:=fU s t) (.inl rfl) (by simp only[go_sem, ↓reduceIte,Nat.reduceEqDiff,Nat.reduceAdd,Nat.reduceSub,Nat.reduceLeDiff,reduceCtorEq,fU]) rfl
theorem vp (t n:Int) (h0:0<=n) (h1:n<=9223372036854775807):ai Tryz.prog 136 [.int .i64 t,.int .i64 n] (.bool (gD t 0 (n-1))):=by
 refine ai.body dN rfl fun hl n0=>?_
 clear hl
 have hw:IntKind.i64.wrap (n-1)=n-1:=aY ab
 have h:=iL t 0 (n-1)
 (repeat(first|((repeat(revert hN;revert N;apply Pn.out));refine wk @hw ?_;(repeat(refine Pn.mk ?_;intro N hN)))|((try apply Or.inl);refine⟨_,ai.x (h) (sd @hw),?_⟩;refine hN _ _ ?_;clear hN N)))
 exact aJ (b:=gD t 0 (n-1)) (.inl rfl) (sd @Nat.zero_add) rfl
theorem Gh (s:aq) (t:Int):ai Tryz.prog 106 [.agg (aa s),.int .i64 t] (.bool (fU s t)):=by
 refine ai.body dN rfl fun hl n0=>?_
 have hn:s.ae.length<=9223372036854775807:=by
  have h1:=(hl (.agg (aa s)) (by simp)).HR (a:=.sl (s.ae.map aU)) (by simp[aa])
  simpa using h1.len
 clear hl
 have h:=vp t s.ae.length ab ab
 (repeat(first|((repeat(revert hN;revert N;apply Pn.out));refine wk @aa.eq_1 ?_;(repeat(refine Pn.mk ?_;intro N hN)))|((try apply Or.inl);refine⟨_,ai.x (h) (sd @aa.eq_1),?_⟩;refine hN _ _ ?_;clear hN N)))
 exact aJ (b:=fU s t) (.inl rfl) (by simp only[go_sem, ↓reduceIte,Nat.reduceEqDiff,Nat.reduceAdd,Nat.reduceSub,Nat.reduceLeDiff,reduceCtorEq,fU]) rfl
def A9:ee:=⟨⟨#[]⟩,[]⟩
def cH (s:aq) (t:Int):ee:=s.ae.getD t.toNat A9
def cJ (t:ee) (d:Int):Int:=t.aX.getD d.toNat 0
def iV (s:aq) (g:Int):eR:=s.ar.getD g.toNat ⟨⟨#[]⟩,0⟩
def tE (s:aq) (g:Int):Int:=if g=0 then 0 else(iV s (g-1)).dG
def iu (s:aq) (a d b:Int):Int:=if cJ (cH s a) d=cJ (cH s b) (qC d)then tE s (cJ (cH s a) d)else 0
structure iU (s:aq):Prop where
 ny:∀t∈s.ae,t.aX.length=4
 re:∀t∈s.ae,∀g∈t.aX,0<=g/\g<=s.ar.length
theorem getD_map {α β:Type} (e:α->β) {l:List α} {k:Nat} {d:α} (h:k<l.length):(l.map e)[k]? =some (e (l.getD k d)):=by simp[List.getD_eq_getElem?_getD,h]
theorem ux (s:aq) (g:Int) (h0:0<=g) (h1:g<=s.ar.length):ai Tryz.prog 164 [.cK (aa s),.int .i64 g] (.int .i64 (tE s g)):=by
 refine ai.body dN rfl fun hl n0=>?_
 have hn:s.ar.length<=9223372036854775807:=by
  have h1:=(hl (.cK (aa s)) (by simp)).vn (a:=.sl (s.ar.map aT)) (by simp[aa])
  simpa using h1.len
 clear hl
 by_cases hg:g=0
 ·have e:decide (g=0)=true:=decide_eq_true hg
  (try((repeat(revert hN;revert N;apply Pn.out));refine wk (tw @aa.eq_1 @e) ?_;(repeat(refine Pn.mk ?_;intro N hN))))
  exact bq (b:=0) (.inl rfl) (sd @Nat.zero_add) (by rw[tE,if_pos hg])
 ·have e:decide (g=0)=false:=decide_eq_false hg
  have hw:IntKind.i64.wrap (g-1)=g-1:=aY ab
  have kK:0<=g-1:=ab
  have dE:(s.ar.map aT)[(g-1).toNat]? =some (aT (iV s (g-1))):=getD_map aT ab
  (try((repeat(revert hN;revert N;apply Pn.out));refine wk (tw @aa.eq_1 (tw @e (tw @hw (tw @kK (tw @dE @aT.eq_1))))) ?_;(repeat(refine Pn.mk ?_;intro N hN))))
  exact bq (b:=(iV s (g-1)).dG) (.inl rfl) (sd @Nat.zero_add) (by rw[tE,if_neg hg])
theorem ke {s:aq} {a:Int} (h:fU s a=true):0<=a/\(s.ae.map aU)[a.toNat]? =some (aU (cH s a))/\cH s a∈s.ae:=by
 have h':=dt h
 have dF:a.toNat<s.ae.length:=ab
 refine⟨h'.1,getD_map aU dF,?_⟩
 unfold cH
 rw[List.getD_eq_getElem?_getD,List.getElem?_eq_getElem dF]
 exact List.getElem_mem dF
theorem j8 {t:ee} {d:Int} (h:t.aX.length=4) (hd:gD d 0 3=true):(t.aX.map az)[d.toNat]? =some [.int .i64 (cJ t d)]:=by
 have:=dt hd
 exact getD_map az ab
theorem pQ {t:ee} {d:Int} (h:t.aX.length=4) (hd:gD d 0 3=true):cJ t d∈t.aX:=by
 have:=dt hd
 have dF:d.toNat<t.aX.length:=ab
 unfold cJ
 rw[List.getD_eq_getElem?_getD,List.getElem?_eq_getElem dF]
 exact List.getElem_mem dF
theorem wZ {d:Int} (hd:gD d 0 3=true):gD (qC d) 0 3=true:=by
 have:=dt hd
 refine nh ?_
 rw[qC,if_pos hd];omega
theorem DJ (s:aq) (hF:iU s) (a d b:Int) (ha:fU s a=true) (hb:fU s b=true) (hd:gD d 0 3=true):ai Tryz.prog 149 [.cK (aa s),.int .i64 a,.int .i64 d,.int .i64 b] (.int .i64 (iu s a d b)):=by
 refine ai.body dN rfl fun hl n0=>?_
 clear hl
 obtain⟨a0,a1,a2⟩:=ke ha
 obtain⟨b0,b1,b2⟩:=ke hb
 have s1:=j8 (hF.ny _ a2) hd
 have s2:=j8 (hF.ny _ b2) (wZ hd)
 have gl:=hF.re _ a2 _ (pQ (hF.ny _ a2) hd)
 have d0:=(dt hd).1
 have d1:=(dt (wZ hd)).1
 have h:=zO d hd
 have hs:=ux s (cJ (cH s a) d) gl.1 gl.2
 rw[aa]at hs
 by_cases e:cJ (cH s a) d=cJ (cH s b) (qC d)
 ·have e':decide (cJ (cH s a) d=cJ (cH s b) (qC d))=true:=decide_eq_true e
  (repeat(first|((repeat(revert hN;revert N;apply Pn.out));refine wk (tw @aa.eq_1 (tw @aU.eq_1 (tw @a0 (tw @a1 (tw @b0 (tw @b1 (tw @s1 (tw @s2 (tw @d0 (tw @d1 @e')))))))))) ?_;(repeat(refine Pn.mk ?_;intro N hN)))|((try apply Or.inl);refine⟨_,ai.x (h) (sd (tw @aa.eq_1 (tw @aU.eq_1 (tw @a0 (tw @a1 (tw @b0 (tw @b1 (tw @s1 (tw @s2 (tw @d0 (tw @d1 @e'))))))))))),?_⟩;refine hN _ _ ?_;clear hN N)|((try apply Or.inl);refine⟨_,ai.x (hs) (sd (tw @aa.eq_1 (tw @aU.eq_1 (tw @a0 (tw @a1 (tw @b0 (tw @b1 (tw @s1 (tw @s2 (tw @d0 (tw @d1 @e'))))))))))),?_⟩;refine hN _ _ ?_;clear hN N)))
  exact bq (b:=tE s (cJ (cH s a) d)) (.inl rfl) (sd @Nat.zero_add) (by rw[iu,if_pos e])
 ·have e':decide (cJ (cH s a) d=cJ (cH s b) (qC d))=false:=decide_eq_false e
  (repeat(first|((repeat(revert hN;revert N;apply Pn.out));refine wk (tw @aa.eq_1 (tw @aU.eq_1 (tw @a0 (tw @a1 (tw @b0 (tw @b1 (tw @s1 (tw @s2 (tw @d0 (tw @d1 @e')))))))))) ?_;(repeat(refine Pn.mk ?_;intro N hN)))|((try apply Or.inl);refine⟨_,ai.x (h) (sd (tw @aa.eq_1 (tw @aU.eq_1 (tw @a0 (tw @a1 (tw @b0 (tw @b1 (tw @s1 (tw @s2 (tw @d0 (tw @d1 @e'))))))))))),?_⟩;refine hN _ _ ?_;clear hN N)))
  exact bq (b:=0) (.inl rfl) (sd @Nat.zero_add) (by rw[iu,if_neg e])
theorem BB (s:aq) (hF:iU s) (a d:Int) (ha:fU s a=true) (hd:gD d 0 3=true):ai Tryz.prog 190 [.agg (aa s),.int .i64 a,.int .i64 d] (.int .i64 (tE s (cJ (cH s a) d))):=by
 refine ai.body dN rfl fun hl n0=>?_
 have hn:s.ar.length<=9223372036854775807:=by
  have h1:=(hl (.agg (aa s)) (by simp)).HR (a:=.sl (s.ar.map aT)) (by simp[aa])
  simpa using h1.len
 clear hl
 obtain⟨a0,a1,a2⟩:=ke ha
 have s1:=j8 (hF.ny _ a2) hd
 have gl:=hF.re _ a2 _ (pQ (hF.ny _ a2) hd)
 have d0:=(dt hd).1
 by_cases hg:cJ (cH s a) d=0
 ·have e:¬(0<cJ (cH s a) d):=ab
  (try((repeat(revert hN;revert N;apply Pn.out));refine wk (tw @aa.eq_1 (tw @aU.eq_1 (tw @a0 (tw @a1 (tw @s1 (tw @d0 @e)))))) ?_;(repeat(refine Pn.mk ?_;intro N hN))))
  exact bq (b:=0) (.inl rfl) (sd @Nat.zero_add) (by rw[tE,if_pos hg])
 ·have e:0<cJ (cH s a) d:=ab
  have hw:IntKind.i64.wrap (cJ (cH s a) d-1)=cJ (cH s a) d-1:=aY ab
  have kK:0<=cJ (cH s a) d-1:=ab
  have dE:(s.ar.map aT)[(cJ (cH s a) d-1).toNat]? =some (aT (iV s (cJ (cH s a) d-1))):=getD_map aT ab
  (try((repeat(revert hN;revert N;apply Pn.out));refine wk (tw @aa.eq_1 (tw @aU.eq_1 (tw @a0 (tw @a1 (tw @s1 (tw @d0 (tw @e (tw @hw (tw @kK (tw @dE @aT.eq_1)))))))))) ?_;(repeat(refine Pn.mk ?_;intro N hN))))
  exact bq (b:=(iV s (cJ (cH s a) d-1)).dG) (.inl rfl) (sd @Nat.zero_add) (by rw[tE,if_neg hg])
theorem Kt (s:aq) (hF:iU s) (a d b:Int) (ha:fU s a=true) (hb:fU s b=true) (hd:gD d 0 3=true):ai Tryz.prog 173 [.agg (aa s),.int .i64 a,.int .i64 d,.int .i64 b] (.int .i64 (iu s a d b)):=by
 refine ai.body dN rfl fun hl n0=>?_
 clear hl
 obtain⟨a0,a1,a2⟩:=ke ha
 obtain⟨b0,b1,b2⟩:=ke hb
 have s1:=j8 (hF.ny _ a2) hd
 have s2:=j8 (hF.ny _ b2) (wZ hd)
 have d0:=(dt hd).1
 have d1:=(dt (wZ hd)).1
 have h:=Be d hd
 have hs:=BB s hF a d ha hd
 rw[aa]at hs
 by_cases e:cJ (cH s a) d=cJ (cH s b) (qC d)
 ·have e':decide (cJ (cH s a) d=cJ (cH s b) (qC d))=true:=decide_eq_true e
  (repeat(first|((repeat(revert hN;revert N;apply Pn.out));refine wk (tw @aa.eq_1 (tw @aU.eq_1 (tw @a0 (tw @a1 (tw @b0 (tw @b1 (tw @s1 (tw @s2 (tw @d0 (tw @d1 @e')))))))))) ?_;(repeat(refine Pn.mk ?_;intro N hN)))|((try apply Or.inl);refine⟨_,ai.x (h) (sd (tw @aa.eq_1 (tw @aU.eq_1 (tw @a0 (tw @a1 (tw @b0 (tw @b1 (tw @s1 (tw @s2 (tw @d0 (tw @d1 @e'))))))))))),?_⟩;refine hN _ _ ?_;clear hN N)|((try apply Or.inl);refine⟨_,ai.x (hs) (sd (tw @aa.eq_1 (tw @aU.eq_1 (tw @a0 (tw @a1 (tw @b0 (tw @b1 (tw @s1 (tw @s2 (tw @d0 (tw @d1 @e'))))))))))),?_⟩;refine hN _ _ ?_;clear hN N)))
  exact bq (b:=tE s (cJ (cH s a) d)) (.inl rfl) (sd @Nat.zero_add) (by rw[iu,if_pos e])
 ·have e':decide (cJ (cH s a) d=cJ (cH s b) (qC d))=false:=decide_eq_false e
  (repeat(first|((repeat(revert hN;revert N;apply Pn.out));refine wk (tw @aa.eq_1 (tw @aU.eq_1 (tw @a0 (tw @a1 (tw @b0 (tw @b1 (tw @s1 (tw @s2 (tw @d0 (tw @d1 @e')))))))))) ?_;(repeat(refine Pn.mk ?_;intro N hN)))|((try apply Or.inl);refine⟨_,ai.x (h) (sd (tw @aa.eq_1 (tw @aU.eq_1 (tw @a0 (tw @a1 (tw @b0 (tw @b1 (tw @s1 (tw @s2 (tw @d0 (tw @d1 @e'))))))))))),?_⟩;refine hN _ _ ?_;clear hN N)))
  exact bq (b:=0) (.inl rfl) (sd @Nat.zero_add) (by rw[iu,if_neg e])
def oh (s:aq) (i:Nat):eR:=s.ar.getD i ⟨⟨#[]⟩,0⟩
def nA (s:aq) (i:Nat):ee:=s.ae.getD i A9
def zM (s:aq) (i:Nat):Prop:=iT (oh s i).aB=true/\gD (oh s i).dG 1 4=true/\∀j,j<i->(oh s j).aB≠(oh s i).aB
def xO (s:aq) (i:Nat):Prop:=iT (nA s i).aB=true/\(nA s i).aX.length=4/\(∀j,j<i->(nA s j).aB≠(nA s i).aB)/\∀g∈(nA s i).aX,gD g 0 s.ar.length=true
structure lu (s:aq):Prop where
 re:s.ar.length<=200
 some:1<=s.ae.length
 Kf:s.ae.length<=160
 PS:∀i,i<s.ar.length->zM s i
 tok:∀i,i<s.ae.length->xO s i
noncomputable def oU (s:aq):Bool:=@decide (lu s) (Classical.propDecidable _)
theorem lj {s:aq}:oU s=true↔lu s:=by simp[oU]
theorem eU {s:aq} (h:¬lu s):false=oU s:=by simp[oU,h]
theorem zl {s:aq} (h:lu s):true=oU s:=by simp[oU,h]
theorem xi {s:aq} {i:Nat} (h:i<s.ae.length):(s.ae.map aU)[i]? =some (aU (nA s i)):=getD_map aU h
theorem wC {s:aq} {i:Nat} (h:i<s.ar.length):(s.ar.map aT)[i]? =some (aT (oh s i)):=getD_map aT h
theorem lu.form {s:aq} (h:lu s):iU s:=by
 have key:∀t∈s.ae,∃i,i<s.ae.length/\t=nA s i:=fun t ht=>by
  obtain⟨i,hi,rfl⟩:=List.getElem_of_mem ht
  exact⟨i,hi,by simp[nA,List.getD_eq_getElem?_getD,hi]⟩
 refine⟨fun t ht=>?_,fun t ht g hg=>?_⟩
 ·obtain⟨i,hi,rfl⟩:=key t ht
  exact(h.tok i hi).2.1
 ·obtain⟨i,hi,rfl⟩:=key t ht
  exact dt ((h.tok i hi).2.2.2 g hg)
def de (l:List ByteArray):List (List AV):=l.map fun n=>[.str n,.bool true]
abbrev mS:MK:=⟨false,[.tS]⟩
theorem vL (n:ByteArray):∀(l:List ByteArray) (i:Nat),∃r,gG mS [.str n] (de l) i=some r/\((r=none/\n∉l)∨∃j,r=some (i+j)/\n∈l/\(de l)[j]? =some [.str n,.bool true])
 |[],i=>⟨none,rfl,.inl ⟨rfl,by simp⟩⟩
 |m::l,i=>by
  obtain⟨r,h1,h2⟩:=vL n l (i+1)
  by_cases h:n=m
  ·subst h
   exact⟨some i,by simp[de,gG,eX,fZ,MK.ks],.inr ⟨0,rfl,by simp,rfl⟩⟩
  ·refine⟨r,?_,?_⟩
   ·unfold de at h1 ⊢
    simp only[List.map_cons,gG,MK.ks,List.length_cons,List.length_nil,Nat.zero_add,List.take_succ_cons,List.take_zero,eX,fZ,h,decide_false,Bool.and_true]
    exact h1
   ·rcases h2 with⟨rfl,h2⟩|⟨j,rfl,h2,h3⟩
    ·exact .inl ⟨rfl,by simp[h,h2]⟩
    ·exact .inr ⟨j+1,by congr 1;omega,by simp[h2],by simpa[de]using h3⟩
theorem tA (n:ByteArray) (l:List ByteArray):(n∉l/\gx mS (.str n) (de l)=some none)∨∃j,n∈l/\gx mS (.str n) (de l)=some (some j)/\(de l)[j]? =some [.str n,.bool true]:=by
 obtain⟨r,h1,h2⟩:=vL n l 0
 have e:gx mS (.str n) (de l)=some r:=by
  unfold gx
  rw[if_pos ⟨rfl,rfl,rfl⟩];exact h1
 rcases h2 with⟨rfl,h2⟩|⟨j,rfl,h2,h3⟩
 ·exact .inl ⟨h2,e⟩
 ·exact .inr ⟨j,h2,by rw[e,Nat.zero_add],h3⟩
theorem LR (s:aq) (g:Int):ai Tryz.prog 134 [.int .i64 g,.cK (aa s)] (.bool (!gD g 0 s.ar.length)):=by
 refine ai.body dN rfl fun hl n0=>?_
 clear hl
 have h:=iL g 0 s.ar.length
 (repeat(first|((repeat(revert hN;revert N;apply Pn.out));refine wk @aa.eq_1 ?_;(repeat(refine Pn.mk ?_;intro N hN)))|((try apply Or.inl);refine⟨_,ai.x (h) (sd @aa.eq_1),?_⟩;refine hN _ _ ?_;clear hN N)))
 exact aJ (b:= !gD g 0 s.ar.length) (.inl rfl) (sd @Nat.zero_add) rfl
theorem H9:MV az (fun c=>.int .i64 c) 1 false:=⟨fun _=>rfl,fun _=>rfl,fun x g=>by rw[ad,aH,aj];rfl⟩
theorem Jm (s:aq) (l:List Int) (hl:l.length<=1048576):ai Tryz.prog 133 [.sl (l.map az),.fn 134 [.cK (aa s)]] (.bool (l.any fun g=> !gD g 0 s.ar.length)):=
 mV H9 (show lE Tryz.prog 133=some (Av 133 156) by kernel_rfl)
  (show lE Tryz.prog 156=some (s4 156 1 false) by kernel_rfl) l hl _ _ _ rfl (fun g=>by rw[ad,aW,aj];rfl) (fun x _=>LR s x) fun g=>by rw[ad,aW,aj];rfl
theorem tf {α:Type} (f:Nat->α) (n k:Nat) (x:α):x∉(List.range k).map f↔∀j,j<k->f j≠x:=by
 constructor
 ·intro h j hj he
  exact h (List.mem_map.2 ⟨j,List.mem_range.2 hj,he⟩)
 ·intro h hm
  obtain⟨j,hj,he⟩:=List.mem_map.1 hm
  exact h j (List.mem_range.1 hj) he
theorem zQ (s:aq) (hn:fC s) (hg:s.ar.length<=1048576) (ht:s.ae.length<=1048576) (hs:∀t∈s.ae,t.aX.length<=1048576):ai Tryz.prog 102 [.agg (aa s)] (.bool (oU s)):=by
 refine ai.body dN rfl fun hl n0=>?_
 clear hl
 have NP:∀i,i<s.ar.length->(oh s i).aB.size<=9223372036854775807:=fun i hi=>hn.1 _ (by simp[oh,List.getD_eq_getElem?_getD,hi])
 have QQ:∀i,i<s.ae.length->(nA s i).aB.size<=9223372036854775807:=fun i hi=>hn.2 _ (by simp[nA,List.getD_eq_getElem?_getD,hi])
 have uv:∀i,i<s.ae.length->(nA s i).aX.length<=1048576:=fun i hi=>hs _ (by simp[nA,List.getD_eq_getElem?_getD,hi])
 have hw:=iL (s.ae.length:Int) 1 160
 by_cases h1:(200:Int)<(s.ar.length:Int)
 ·(try((repeat(revert hN;revert N;apply Pn.out));refine wk (tw @aa.eq_1 @h1) ?_;(repeat(refine Pn.mk ?_;intro N hN))))
  exact aJ (b:=false) (.inl rfl) (sd @Nat.zero_add) (eU fun h=>by have:=h.re;omega)
 by_cases h2:gD (s.ae.length:Int) 1 160=true
 ·have xx:=dt h2
  rw[h2]at hw
  (repeat(first|((repeat(revert hN;revert N;apply Pn.out));refine wk (tw @aa.eq_1 @h1) ?_;(repeat(refine Pn.mk ?_;intro N hN)))|((try apply Or.inl);refine⟨_,ai.x (hw) (sd (tw @aa.eq_1 @h1)),?_⟩;refine hN _ _ ?_;clear hN N)))
  refine aL (fun n env st=>∃k:Nat,n=(s.ar.length)-k/\k<=(s.ar.length)/\env 24=.int .i64 (k:Int)/\st.get ⟨102000000,n0⟩=some ⟨true,2,[aa s]⟩/\st.get ⟨102003000,n0+1+1⟩=some ⟨true,mS.Bp,de ((List.range k).map fun i=>(oh s i).aB)⟩/\(∀j:Nat,j<k->zM s j)) (s.ar.length) ⟨0,ab,ab,by(try simp only[go_sem, ↓reduceIte,Nat.reduceEqDiff,Nat.reduceAdd,Nat.reduceSub,Nat.reduceLeDiff,reduceCtorEq,aa,List.range_zero,List.map_nil,de]);try rfl,by(try simp only[go_sem, ↓reduceIte,Nat.reduceEqDiff,Nat.reduceAdd,Nat.reduceSub,Nat.reduceLeDiff,reduceCtorEq,aa,List.range_zero,List.map_nil,de]);try rfl,by(try simp only[go_sem, ↓reduceIte,Nat.reduceEqDiff,Nat.reduceAdd,Nat.reduceSub,Nat.reduceLeDiff,reduceCtorEq,aa,List.range_zero,List.map_nil,de]);try rfl,fun _ h=>absurd h (Nat.not_lt_zero _)⟩ ?_
  rintro n_a env_a st_a ⟨k,rfl,ale,a24,ag0,ag1,kj⟩ dC
  have a1:=dC 1 (by kernel_rfl);have a3:=dC 3 (by kernel_rfl);have xQ:=dC 22 (by kernel_rfl);have xR:=dC 23 (by kernel_rfl)
  simp only[go_sem, ↓reduceIte,Nat.reduceEqDiff,Nat.reduceAdd,Nat.reduceSub,Nat.reduceLeDiff,reduceCtorEq,aa,List.range_zero,List.map_nil,de]at a1 a3 xQ xR
  clear dC
  by_cases hk:(k:Int)<(s.ar.length:Int)
  ·have bZ:∀{e:Env} {gg:Rows},(e 24=.int .i64 (IntKind.i64.wrap ((k:Int)+1)))->(gg ⟨102000000,n0⟩=some ⟨true,2,[aa s]⟩)->(gg ⟨102003000,n0+1+1⟩=some ⟨true,mS.Bp,de ((List.range (k+1)).map fun i=>(oh s i).aB)⟩)->(zM s k)->∃m0,m0<(s.ar.length)-k/\∃k:Nat,m0=(s.ar.length)-k/\k<=(s.ar.length)/\e 24=.int .i64 (k:Int)/\gg ⟨102000000,n0⟩=some ⟨true,2,[aa s]⟩/\gg ⟨102003000,n0+1+1⟩=some ⟨true,mS.Bp,de ((List.range k).map fun i=>(oh s i).aB)⟩/\(∀j:Nat,j<k->zM s j):=fun x1 x2 x3 x4=>⟨_,ab,k+1,rfl,ab,(by rw[x1,ax ab]),x2,x3,(all_succ kj x4)⟩
   have eY:k<s.ar.length:=ab
   have eB:=wC eY
   have qb:=Cn (oh s k).aB (NP k eY)
   have HJ:=iL (oh s k).dG 1 4
   have yN:=tA (oh s k).aB ((List.range k).map fun i=>(oh s i).aB)
   rw[tf _ k]at yN
   have jI:(¬zM s k)->¬lu s:=fun h hp=>h (hp.PS k eY)
   generalize r9:oh s k=gl at *
   cases hb:iT gl.aB
   ·rw[hb]at qb
    (repeat(first|((repeat(revert hN;revert N;apply Pn.out));refine wk (tw @a24 (tw @ag0 (tw @ag1 (tw @a1 (tw @a3 (tw @xQ (tw @xR (tw @hk (tw @eB (tw @aT.eq_1 @aa.eq_1)))))))))) ?_;(repeat(refine Pn.mk ?_;intro N hN)))|((try apply Or.inl);refine⟨_,ai.x (qb) (sd (tw @a24 (tw @ag0 (tw @ag1 (tw @a1 (tw @a3 (tw @xQ (tw @xR (tw @hk (tw @eB (tw @aT.eq_1 @aa.eq_1))))))))))),?_⟩;refine hN _ _ ?_;clear hN N)))
    exact aJ (b:=false) (.inl rfl) (sd @Nat.zero_add) (eU (jI fun h=>by rw[zM,r9,hb]at h;cases h.1))
   ·rw[hb]at qb
    rcases yN with⟨AA,mv⟩|⟨j,fy,mv,fu⟩
    ·cases dQ:gD gl.dG 1 4
     ·rw[dQ]at HJ
      (repeat(first|((repeat(revert hN;revert N;apply Pn.out));refine wk (tw @a24 (tw @ag0 (tw @ag1 (tw @a1 (tw @a3 (tw @xQ (tw @xR (tw @hk (tw @eB (tw @mv (tw @aT.eq_1 @aa.eq_1))))))))))) ?_;(repeat(refine Pn.mk ?_;intro N hN)))|((try apply Or.inl);refine⟨_,ai.x (qb) (sd (tw @a24 (tw @ag0 (tw @ag1 (tw @a1 (tw @a3 (tw @xQ (tw @xR (tw @hk (tw @eB (tw @mv (tw @aT.eq_1 @aa.eq_1)))))))))))),?_⟩;refine hN _ _ ?_;clear hN N)|((try apply Or.inl);refine⟨_,ai.x (HJ) (sd (tw @a24 (tw @ag0 (tw @ag1 (tw @a1 (tw @a3 (tw @xQ (tw @xR (tw @hk (tw @eB (tw @mv (tw @aT.eq_1 @aa.eq_1)))))))))))),?_⟩;refine hN _ _ ?_;clear hN N)))
      exact aJ (b:=false) (.inl rfl) (sd @Nat.zero_add) (eU (jI fun h=>by rw[zM,r9,dQ]at h;cases h.2.1))
     ·rw[dQ]at HJ
      have sa:de ((List.range k).map fun i=>(oh s i).aB)++[[.str gl.aB,.bool true]]=de (List.map (fun i=>(oh s i).aB) (List.range k++[k])):=by simp[de,r9]
      (repeat(first|((repeat(revert hN;revert N;apply Pn.out));refine wk (tw @a24 (tw @ag0 (tw @ag1 (tw @a1 (tw @a3 (tw @xQ (tw @xR (tw @hk (tw @eB (tw @mv (tw @aT.eq_1 @aa.eq_1))))))))))) ?_;(repeat(refine Pn.mk ?_;intro N hN)))|((try apply Or.inl);refine⟨_,ai.x (qb) (sd (tw @a24 (tw @ag0 (tw @ag1 (tw @a1 (tw @a3 (tw @xQ (tw @xR (tw @hk (tw @eB (tw @mv (tw @aT.eq_1 @aa.eq_1)))))))))))),?_⟩;refine hN _ _ ?_;clear hN N)|((try apply Or.inl);refine⟨_,ai.x (HJ) (sd (tw @a24 (tw @ag0 (tw @ag1 (tw @a1 (tw @a3 (tw @xQ (tw @xR (tw @hk (tw @eB (tw @mv (tw @aT.eq_1 @aa.eq_1)))))))))))),?_⟩;refine hN _ _ ?_;clear hN N)))
      refine bZ ?_ ?_ ?_ (⟨by rw[r9];exact hb,by rw[r9];exact dQ,fun j hj=>by rw[r9];exact AA j hj⟩)
      all_goals simp only[go_sem, ↓reduceIte,Nat.reduceEqDiff,Nat.reduceAdd,Nat.reduceSub,Nat.reduceLeDiff,reduceCtorEq,a24,ag0,ag1,a1,a3,xQ,xR,mv,sa]
    ·(repeat(first|((repeat(revert hN;revert N;apply Pn.out));refine wk (tw @a24 (tw @ag0 (tw @ag1 (tw @a1 (tw @a3 (tw @xQ (tw @xR (tw @hk (tw @eB (tw @mv (tw @fu (tw @aT.eq_1 @aa.eq_1)))))))))))) ?_;(repeat(refine Pn.mk ?_;intro N hN)))|((try apply Or.inl);refine⟨_,ai.x (qb) (sd (tw @a24 (tw @ag0 (tw @ag1 (tw @a1 (tw @a3 (tw @xQ (tw @xR (tw @hk (tw @eB (tw @mv (tw @fu (tw @aT.eq_1 @aa.eq_1))))))))))))),?_⟩;refine hN _ _ ?_;clear hN N)))
     exact aJ (b:=false) (.inl rfl) (sd @Nat.zero_add) (eU (jI fun h=>by
      rw[zM,r9]at h
      obtain⟨i,hi,he⟩:=List.mem_map.1 fy
      exact h.2.2 i (List.mem_range.1 hi) he))
  ·have ki:k=s.ar.length:=ab
   (try((repeat(revert hN;revert N;apply Pn.out));refine wk (tw @a24 (tw @ag0 (tw @ag1 (tw @a1 (tw @a3 (tw @xQ (tw @xR (tw @hk @aa.eq_1)))))))) ?_;(repeat(refine Pn.mk ?_;intro N hN))))
   refine aL (fun n env st=>∃j:Nat,n=(s.ae.length)-j/\j<=(s.ae.length)/\env 52=.int .i64 (j:Int)/\st.get ⟨102000000,n0⟩=some ⟨true,2,[aa s]⟩/\st.get ⟨102011000,st_a.next+1⟩=some ⟨true,mS.Bp,de ((List.range j).map fun i=>(nA s i).aB)⟩/\(∀i:Nat,i<j->xO s i)/\(st_a.next<st.next)) (s.ae.length) ⟨0,ab,ab,by(try simp only[go_sem, ↓reduceIte,Nat.reduceEqDiff,Nat.reduceAdd,Nat.reduceSub,Nat.reduceLeDiff,reduceCtorEq,a24,ag0,ag1,a1,a3,xQ,xR,aa,List.range_zero,List.map_nil,de]);try rfl,by(try simp only[go_sem, ↓reduceIte,Nat.reduceEqDiff,Nat.reduceAdd,Nat.reduceSub,Nat.reduceLeDiff,reduceCtorEq,a24,ag0,ag1,a1,a3,xQ,xR,aa,List.range_zero,List.map_nil,de]);try rfl,by(try simp only[go_sem, ↓reduceIte,Nat.reduceEqDiff,Nat.reduceAdd,Nat.reduceSub,Nat.reduceLeDiff,reduceCtorEq,a24,ag0,ag1,a1,a3,xQ,xR,aa,List.range_zero,List.map_nil,de]);try rfl,fun _ h=>absurd h (Nat.not_lt_zero _),bt⟩ ?_
   rintro n_b env_b st_b ⟨j,rfl,ble,b52,bg0,bg1,bA0,bI0⟩ bfr
   have b1:=bfr 1 (by kernel_rfl);have b6:=bfr 6 (by kernel_rfl);have zS:=bfr 50 (by kernel_rfl);have zT:=bfr 51 (by kernel_rfl)
   simp only[go_sem, ↓reduceIte,Nat.reduceEqDiff,Nat.reduceAdd,Nat.reduceSub,Nat.reduceLeDiff,reduceCtorEq,a24,ag0,ag1,a1,a3,xQ,xR,aa,List.range_zero,List.map_nil,de]at b1 b6 zS zT
   clear bfr
   by_cases hj:(j:Int)<(s.ae.length:Int)
   ·have iF:∀{e:Env} {gg:Rows} {nx:Nat},(e 52=.int .i64 (IntKind.i64.wrap ((j:Int)+1)))->(gg ⟨102000000,n0⟩=some ⟨true,2,[aa s]⟩)->(gg ⟨102011000,st_a.next+1⟩=some ⟨true,mS.Bp,de ((List.range (j+1)).map fun i=>(nA s i).aB)⟩)->(xO s j)->(st_a.next<nx)->∃m0,m0<(s.ae.length)-j/\∃j:Nat,m0=(s.ae.length)-j/\j<=(s.ae.length)/\e 52=.int .i64 (j:Int)/\gg ⟨102000000,n0⟩=some ⟨true,2,[aa s]⟩/\gg ⟨102011000,st_a.next+1⟩=some ⟨true,mS.Bp,de ((List.range j).map fun i=>(nA s i).aB)⟩/\(∀i:Nat,i<j->xO s i)/\(st_a.next<nx):=fun x1 x2 x3 x4 x5=>⟨_,ab,j+1,rfl,ab,(by rw[x1,ax ab]),x2,x3,(all_succ bA0 x4),x5⟩
    have gh:j<s.ae.length:=ab
    have oJ:=xi gh
    have qb:=Cn (nA s j).aB (QQ j gh)
    have Ph:=Jm s (nA s j).aX (uv j gh)
    have yN:=tA (nA s j).aB ((List.range j).map fun i=>(nA s i).aB)
    rw[tf _ j]at yN
    have jI:(¬xO s j)->¬lu s:=fun h hp=>h (hp.tok j gh)
    have gF:(⟨102011000,st_a.next+1⟩:Id)≠⟨102000000,n0⟩:=by simp
    generalize htd:nA s j=tl at *
    cases hb:iT tl.aB
    ·rw[hb]at qb
     (repeat(first|((repeat(revert hN;revert N;apply Pn.out));refine wk (tw @b52 (tw @bg0 (tw @bg1 (tw @b1 (tw @b6 (tw @zS (tw @zT (tw @hj (tw @oJ (tw @aU.eq_1 @aa.eq_1)))))))))) ?_;(repeat(refine Pn.mk ?_;intro N hN)))|((try apply Or.inl);refine⟨_,ai.x (qb) (sd (tw @b52 (tw @bg0 (tw @bg1 (tw @b1 (tw @b6 (tw @zS (tw @zT (tw @hj (tw @oJ (tw @aU.eq_1 @aa.eq_1))))))))))),?_⟩;refine hN _ _ ?_;clear hN N)))
     exact aJ (b:=false) (.inl rfl) (sd @Nat.zero_add) (eU (jI fun h=>by rw[xO,htd,hb]at h;cases h.1))
    ·rw[hb]at qb
     rcases yN with⟨AA,mv⟩|⟨i,fy,mv,fu⟩
     ·by_cases h4:(tl.aX.length:Int)=4
      ·have wE:decide ((tl.aX.length:Int)=4)=true:=decide_eq_true h4
       cases hany:tl.aX.any fun g=> !gD g 0 s.ar.length
       ·rw[hany]at Ph
        have sa:de ((List.range j).map fun i=>(nA s i).aB)++[[.str tl.aB,.bool true]]=de (List.map (fun i=>(nA s i).aB) (List.range j++[j])):=by simp[de,htd]
        (repeat(first|((repeat(revert hN;revert N;apply Pn.out));refine wk (tw @b52 (tw @bg0 (tw @bg1 (tw @b1 (tw @b6 (tw @zS (tw @zT (tw @hj (tw @oJ (tw @mv (tw @wE (tw @aU.eq_1 @aa.eq_1)))))))))))) ?_;(repeat(refine Pn.mk ?_;intro N hN)))|((try apply Or.inl);refine⟨_,ai.x (qb) (sd (tw @b52 (tw @bg0 (tw @bg1 (tw @b1 (tw @b6 (tw @zS (tw @zT (tw @hj (tw @oJ (tw @mv (tw @wE (tw @aU.eq_1 @aa.eq_1))))))))))))),?_⟩;refine hN _ _ ?_;clear hN N)|((try apply Or.inl);refine⟨_,ai.x (Ph) (sd (tw @b52 (tw @bg0 (tw @bg1 (tw @b1 (tw @b6 (tw @zS (tw @zT (tw @hj (tw @oJ (tw @mv (tw @wE (tw @aU.eq_1 @aa.eq_1))))))))))))),?_⟩;refine hN _ _ ?_;clear hN N)))
        refine iF ?_ ?_ ?_ (⟨by rw[htd];exact hb,by rw[htd];omega,fun i hi=>(by rw[htd];exact AA i hi),fun g hg=>by rw[htd]at hg;have:=List.any_eq_false.1 hany g hg;simpa using this⟩) bt
        all_goals simp only[go_sem, ↓reduceIte,Nat.reduceEqDiff,Nat.reduceAdd,Nat.reduceSub,Nat.reduceLeDiff,reduceCtorEq,b52,bg0,bg1,b1,b6,zS,zT,mv,sa]
       ·rw[hany]at Ph
        (repeat(first|((repeat(revert hN;revert N;apply Pn.out));refine wk (tw @b52 (tw @bg0 (tw @bg1 (tw @b1 (tw @b6 (tw @zS (tw @zT (tw @hj (tw @oJ (tw @mv (tw @wE (tw @aU.eq_1 @aa.eq_1)))))))))))) ?_;(repeat(refine Pn.mk ?_;intro N hN)))|((try apply Or.inl);refine⟨_,ai.x (qb) (sd (tw @b52 (tw @bg0 (tw @bg1 (tw @b1 (tw @b6 (tw @zS (tw @zT (tw @hj (tw @oJ (tw @mv (tw @wE (tw @aU.eq_1 @aa.eq_1))))))))))))),?_⟩;refine hN _ _ ?_;clear hN N)|((try apply Or.inl);refine⟨_,ai.x (Ph) (sd (tw @b52 (tw @bg0 (tw @bg1 (tw @b1 (tw @b6 (tw @zS (tw @zT (tw @hj (tw @oJ (tw @mv (tw @wE (tw @aU.eq_1 @aa.eq_1))))))))))))),?_⟩;refine hN _ _ ?_;clear hN N)))
        exact aJ (b:=false) (.inl rfl) (sd @Nat.zero_add) (eU (jI fun h=>by
         rw[xO,htd]at h
         obtain⟨g,hg,hq⟩:=List.any_eq_true.1 hany
         have:=h.2.2.2 g hg
         rw[this]at hq;cases hq))
      ·have wE:decide ((tl.aX.length:Int)=4)=false:=decide_eq_false h4
       (repeat(first|((repeat(revert hN;revert N;apply Pn.out));refine wk (tw @b52 (tw @bg0 (tw @bg1 (tw @b1 (tw @b6 (tw @zS (tw @zT (tw @hj (tw @oJ (tw @mv (tw @wE (tw @aU.eq_1 @aa.eq_1)))))))))))) ?_;(repeat(refine Pn.mk ?_;intro N hN)))|((try apply Or.inl);refine⟨_,ai.x (qb) (sd (tw @b52 (tw @bg0 (tw @bg1 (tw @b1 (tw @b6 (tw @zS (tw @zT (tw @hj (tw @oJ (tw @mv (tw @wE (tw @aU.eq_1 @aa.eq_1))))))))))))),?_⟩;refine hN _ _ ?_;clear hN N)))
       exact aJ (b:=false) (.inl rfl) (sd @Nat.zero_add) (eU (jI fun h=>by rw[xO,htd]at h;have:=h.2.1;omega))
     ·(repeat(first|((repeat(revert hN;revert N;apply Pn.out));refine wk (tw @b52 (tw @bg0 (tw @bg1 (tw @b1 (tw @b6 (tw @zS (tw @zT (tw @hj (tw @oJ (tw @mv (tw @fu (tw @aU.eq_1 @aa.eq_1)))))))))))) ?_;(repeat(refine Pn.mk ?_;intro N hN)))|((try apply Or.inl);refine⟨_,ai.x (qb) (sd (tw @b52 (tw @bg0 (tw @bg1 (tw @b1 (tw @b6 (tw @zS (tw @zT (tw @hj (tw @oJ (tw @mv (tw @fu (tw @aU.eq_1 @aa.eq_1))))))))))))),?_⟩;refine hN _ _ ?_;clear hN N)))
      exact aJ (b:=false) (.inl rfl) (sd @Nat.zero_add) (eU (jI fun h=>by
       rw[xO,htd]at h
       obtain⟨i,hi,he⟩:=List.mem_map.1 fy
       exact h.2.2.1 i (List.mem_range.1 hi) he))
   ·(try((repeat(revert hN;revert N;apply Pn.out));refine wk (tw @b52 (tw @bg0 (tw @bg1 (tw @b1 (tw @b6 (tw @zS (tw @zT (tw @hj @aa.eq_1)))))))) ?_;(repeat(refine Pn.mk ?_;intro N hN))))
    exact aJ (b:=true) (.inl rfl) (sd @Nat.zero_add) (zl ⟨ab,ab,ab,fun i hi=>kj i ab,fun i hi=>bA0 i ab⟩)
 ·rw[Bool.not_eq_true]at h2
  rw[h2]at hw
  (repeat(first|((repeat(revert hN;revert N;apply Pn.out));refine wk (tw @aa.eq_1 @h1) ?_;(repeat(refine Pn.mk ?_;intro N hN)))|((try apply Or.inl);refine⟨_,ai.x (hw) (sd (tw @aa.eq_1 @h1)),?_⟩;refine hN _ _ ?_;clear hN N)))
  exact aJ (b:=false) (.inl rfl) (sd @Nat.zero_add) (eU fun h=>by
   have h3:=h.some
   have h4:=h.Kf
   rw[nh ⟨ab,ab⟩]at h2;cases h2)
theorem rZ {α:Type} {p:α->Bool} {xs:List α} {k:Nat} (hk:k<xs.length) (h1:p xs[k]=true) (h2:∀j (h:j<xs.length),j<k->p xs[j]=false):jy p xs=k:=by
 have:xs.findIdx p=k:=by rw[List.findIdx_eq hk];exact⟨h1,fun j hj=>h2 j ab hj⟩
 rw[jy,this,if_pos hk]
theorem uT {α:Type} {p:α->Bool} {xs:List α} (h:∀j (h:j<xs.length),p xs[j]=false):jy p xs= -1:=by
 rw[jy,if_neg]
 rw[List.findIdx_lt_length]
 rintro⟨x,hx,Lj⟩
 obtain⟨j,hj,rfl⟩:=List.getElem_of_mem hx
 rw[h j hj]at Lj;cases Lj
theorem wz {s:aq} {i:Nat} (h:i<s.ar.length):oh s i=s.ar[i]:=by simp[oh,List.getD_eq_getElem?_getD,h]
theorem xh {s:aq} {i:Nat} (h:i<s.ae.length):nA s i=s.ae[i]:=by simp[nA,List.getD_eq_getElem?_getD,h]
def Hv (s:aq) (n:ByteArray):Int:=jy (fun g:eR=>decide (g.aB=n)) s.ar
def Ke (s:aq) (n:ByteArray):Int:=jy (fun t:ee=>decide (t.aB=n)) s.ae
theorem DK (s:aq) (nm:ByteArray):ai Tryz.prog 124 [.cK (aa s),.str nm] (.int .i64 (Hv s nm+1)):=by
 refine ai.body dN rfl fun hl n0=>?_
 have hlen:s.ar.length<=9223372036854775807:=by
  have h1:=(hl (.cK (aa s)) (by simp)).vn (a:=.sl (s.ar.map aT)) (by simp[aa])
  simpa using h1.len
 clear hl
 (try((repeat(revert hN;revert N;apply Pn.out));refine wk @aa.eq_1 ?_;(repeat(refine Pn.mk ?_;intro N hN))))
 refine aL (fun n env st=>∃k:Nat,n=(s.ar.length)-k/\k<=(s.ar.length)/\env 5=.int .i64 (k:Int)/\(∀j:Nat,j<k->∀h:j<s.ar.length,decide (s.ar[j].aB=nm)=false)) (s.ar.length) ⟨0,ab,ab,sl @aa.eq_1,fun _ h=>absurd h (Nat.not_lt_zero _)⟩ ?_
 rintro n_a env_a st_a ⟨k,rfl,ale,a5,kj⟩ dC
 have a0:=dC 0 (by kernel_rfl);have a1:=dC 1 (by kernel_rfl)
 simp only[go_sem, ↓reduceIte,Nat.reduceEqDiff,Nat.reduceAdd,Nat.reduceSub,Nat.reduceLeDiff,reduceCtorEq,aa]at a0 a1
 clear dC
 by_cases hk:(k:Int)<(s.ar.length:Int)
 ·have bZ:∀{e:Env},(e 5=.int .i64 (IntKind.i64.wrap ((k:Int)+1)))->(∀h:k<s.ar.length,decide (s.ar[k].aB=nm)=false)->∃m0,m0<(s.ar.length)-k/\∃k:Nat,m0=(s.ar.length)-k/\k<=(s.ar.length)/\e 5=.int .i64 (k:Int)/\(∀j:Nat,j<k->∀h:j<s.ar.length,decide (s.ar[j].aB=nm)=false):=fun x1 x2=>⟨_,ab,k+1,rfl,ab,(by rw[x1,ax ab]),(all_succ kj x2)⟩
  have eY:k<s.ar.length:=ab
  have eB:=wC eY
  have e:=wz eY
  cases hd:decide ((oh s k).aB=nm)
  ·have O5:=of_decide_eq_false hd
   (try((repeat(revert hN;revert N;apply Pn.out));refine wk (tw @a5 (tw @a0 (tw @a1 (tw @hk (tw @eB (tw @O5 (tw @hd (tw @aT.eq_1 @aa.eq_1)))))))) ?_;(repeat(refine Pn.mk ?_;intro N hN))))
   exact bZ (sd (tw @a5 (tw @a0 @a1))) (fun _=>by rw[e]at hd;exact hd)
  ·have O5:=of_decide_eq_true hd
   have hw:IntKind.i64.wrap ((k:Int)+1)=(k:Int)+1:=aY ab
   (try((repeat(revert hN;revert N;apply Pn.out));refine wk (tw @a5 (tw @a0 (tw @a1 (tw @hk (tw @eB (tw @hd (tw @hw (tw @aT.eq_1 @aa.eq_1)))))))) ?_;(repeat(refine Pn.mk ?_;intro N hN))))
   exact bq (b:=(k:Int)+1) (.inl rfl) (sd @Nat.zero_add) (by rw[Hv,rZ eY (by rw[e]at hd;exact hd) fun j h hj=>kj j hj h])
 ·(try((repeat(revert hN;revert N;apply Pn.out));refine wk (tw @a5 (tw @a0 (tw @a1 (tw @hk @aa.eq_1)))) ?_;(repeat(refine Pn.mk ?_;intro N hN))))
  exact bq (b:=0) (.inl rfl) (sd @Nat.zero_add) (by rw[Hv,uT fun j h=>kj j ab h];rfl)
theorem DL (s:aq) (nm:ByteArray):ai Tryz.prog 125 [.cK (aa s),.str nm] (.int .i64 (Ke s nm)):=by
 refine ai.body dN rfl fun hl n0=>?_
 have hlen:s.ae.length<=9223372036854775807:=by
  have h1:=(hl (.cK (aa s)) (by simp)).vn (a:=.sl (s.ae.map aU)) (by simp[aa])
  simpa using h1.len
 clear hl
 (try((repeat(revert hN;revert N;apply Pn.out));refine wk @aa.eq_1 ?_;(repeat(refine Pn.mk ?_;intro N hN))))
 refine aL (fun n env st=>∃k:Nat,n=(s.ae.length)-k/\k<=(s.ae.length)/\env 5=.int .i64 (k:Int)/\(∀j:Nat,j<k->∀h:j<s.ae.length,decide (s.ae[j].aB=nm)=false)) (s.ae.length) ⟨0,ab,ab,sl @aa.eq_1,fun _ h=>absurd h (Nat.not_lt_zero _)⟩ ?_
 rintro n_a env_a st_a ⟨k,rfl,ale,a5,kj⟩ dC
 have a0:=dC 0 (by kernel_rfl);have a1:=dC 1 (by kernel_rfl)
 simp only[go_sem, ↓reduceIte,Nat.reduceEqDiff,Nat.reduceAdd,Nat.reduceSub,Nat.reduceLeDiff,reduceCtorEq,aa]at a0 a1
 clear dC
 by_cases hk:(k:Int)<(s.ae.length:Int)
 ·have bZ:∀{e:Env},(e 5=.int .i64 (IntKind.i64.wrap ((k:Int)+1)))->(∀h:k<s.ae.length,decide (s.ae[k].aB=nm)=false)->∃m0,m0<(s.ae.length)-k/\∃k:Nat,m0=(s.ae.length)-k/\k<=(s.ae.length)/\e 5=.int .i64 (k:Int)/\(∀j:Nat,j<k->∀h:j<s.ae.length,decide (s.ae[j].aB=nm)=false):=fun x1 x2=>⟨_,ab,k+1,rfl,ab,(by rw[x1,ax ab]),(all_succ kj x2)⟩
  have eY:k<s.ae.length:=ab
  have eB:=xi eY
  have e:=xh eY
  cases hd:decide ((nA s k).aB=nm)
  ·(try((repeat(revert hN;revert N;apply Pn.out));refine wk (tw @a5 (tw @a0 (tw @a1 (tw @hk (tw @eB (tw @hd (tw @aU.eq_1 @aa.eq_1))))))) ?_;(repeat(refine Pn.mk ?_;intro N hN))))
   exact bZ (sd (tw @a5 (tw @a0 @a1))) (fun _=>by rw[e]at hd;exact hd)
  ·(try((repeat(revert hN;revert N;apply Pn.out));refine wk (tw @a5 (tw @a0 (tw @a1 (tw @hk (tw @eB (tw @hd (tw @aU.eq_1 @aa.eq_1))))))) ?_;(repeat(refine Pn.mk ?_;intro N hN))))
   exact bq (b:=(k:Int)) (.inl rfl) (sd @Nat.zero_add) (by rw[Ke,rZ eY (by rw[e]at hd;exact hd) fun j h hj=>kj j hj h])
 ·(try((repeat(revert hN;revert N;apply Pn.out));refine wk (tw @a5 (tw @a0 (tw @a1 (tw @hk @aa.eq_1)))) ?_;(repeat(refine Pn.mk ?_;intro N hN))))
  exact bq (b:=-1) (.inl rfl) (sd @Nat.zero_add) (by rw[Ke,uT fun j h=>kj j ab h])
theorem KN {s:aq} {i:Nat} (h:i<s.ar.length):Hv s (oh s i).aB=i↔∀j,j<i->(oh s j).aB≠(oh s i).aB:=by
 constructor
 ·intro he j hj hc
  have gq:j<s.ar.length:=ab
  have:s.ar.findIdx (fun g:eR=>decide (g.aB=(oh s i).aB))<=j:=by
   rcases Nat.lt_or_ge j (s.ar.findIdx fun g:eR=>decide (g.aB=(oh s i).aB))with dF|kK
   ·have:=List.not_of_lt_findIdx dF
    rw[<-wz gq]at this
    simp[hc]at this
   ·exact kK
  unfold Hv jy at he
  split at he<;>omega
 ·intro hd
  exact rZ h (by rw[<-wz h];simp) fun j gq hj=>by rw[<-wz gq];simpa using hd j hj
theorem LW {s:aq} {i:Nat} (h:i<s.ae.length):Ke s (nA s i).aB=i↔∀j,j<i->(nA s j).aB≠(nA s i).aB:=by
 constructor
 ·intro he j hj hc
  have gq:j<s.ae.length:=ab
  have:s.ae.findIdx (fun g:ee=>decide (g.aB=(nA s i).aB))<=j:=by
   rcases Nat.lt_or_ge j (s.ae.findIdx fun g:ee=>decide (g.aB=(nA s i).aB))with dF|kK
   ·have:=List.not_of_lt_findIdx dF
    rw[<-xh gq]at this
    simp[hc]at this
   ·exact kK
  unfold Ke jy at he
  split at he<;>omega
 ·intro hd
  exact rZ h (by rw[<-xh h];simp) fun j gq hj=>by rw[<-xh gq];simpa using hd j hj
theorem IN (s:aq) (hn:fC s) (hg:s.ar.length<=1048576) (ht:s.ae.length<=1048576):ai Tryz.prog 92 [.cK (aa s)] (.bool (oU s)):=by
 refine ai.body dN rfl fun hl n0=>?_
 clear hl
 have NP:∀i,i<s.ar.length->(oh s i).aB.size<=9223372036854775807:=fun i hi=>hn.1 _ (by simp[oh,List.getD_eq_getElem?_getD,hi])
 have QQ:∀i,i<s.ae.length->(nA s i).aB.size<=9223372036854775807:=fun i hi=>hn.2 _ (by simp[nA,List.getD_eq_getElem?_getD,hi])
 by_cases h1:(200:Int)<(s.ar.length:Int)
 ·(try((repeat(revert hN;revert N;apply Pn.out));refine wk (tw @aa.eq_1 @h1) ?_;(repeat(refine Pn.mk ?_;intro N hN))))
  exact aJ (b:=false) (.inl rfl) (sd @Nat.zero_add) (eU fun h=>by have:=h.re;omega)
 by_cases h2:(s.ae.length:Int)<1
 ·(try((repeat(revert hN;revert N;apply Pn.out));refine wk (tw @aa.eq_1 (tw @h1 @h2)) ?_;(repeat(refine Pn.mk ?_;intro N hN))))
  exact aJ (b:=false) (.inl rfl) (sd @Nat.zero_add) (eU fun h=>by have:=h.some;omega)
 by_cases h3:(160:Int)<(s.ae.length:Int)
 ·(try((repeat(revert hN;revert N;apply Pn.out));refine wk (tw @aa.eq_1 (tw @h1 (tw @h2 @h3))) ?_;(repeat(refine Pn.mk ?_;intro N hN))))
  exact aJ (b:=false) (.inl rfl) (sd @Nat.zero_add) (eU fun h=>by have:=h.Kf;omega)
 (try((repeat(revert hN;revert N;apply Pn.out));refine wk (tw @aa.eq_1 (tw @h1 (tw @h2 @h3))) ?_;(repeat(refine Pn.mk ?_;intro N hN))))
 refine aL (fun n env st=>∃k:Nat,n=(s.ar.length)-k/\k<=(s.ar.length)/\env 3=.int .i64 (k:Int)/\(∀j:Nat,j<k->zM s j)) (s.ar.length) ⟨0,ab,ab,sl @aa.eq_1,fun _ h=>absurd h (Nat.not_lt_zero _)⟩ ?_
 rintro n_a env_a st_a ⟨k,rfl,ale,a3,kj⟩ dC
 have a0:=dC 0 (by kernel_rfl)
 simp only[go_sem, ↓reduceIte,Nat.reduceEqDiff,Nat.reduceAdd,Nat.reduceSub,Nat.reduceLeDiff,reduceCtorEq,aa]at a0
 clear dC
 by_cases hk:(k:Int)<(s.ar.length:Int)
 ·have bZ:∀{e:Env},(e 3=.int .i64 (IntKind.i64.wrap ((k:Int)+1)))->(zM s k)->∃m0,m0<(s.ar.length)-k/\∃k:Nat,m0=(s.ar.length)-k/\k<=(s.ar.length)/\e 3=.int .i64 (k:Int)/\(∀j:Nat,j<k->zM s j):=fun x1 x2=>⟨_,ab,k+1,rfl,ab,(by rw[x1,ax ab]),(all_succ kj x2)⟩
  have eY:k<s.ar.length:=ab
  have eB:=wC eY
  have qb:=Cy (oh s k).aB (NP k eY)
  have HJ:=jf (oh s k).dG 1 4
  have Dp:=DK s (oh s k).aB
  have nX:=KN eY
  have jI:(¬zM s k)->¬lu s:=fun h hp=>h (hp.PS k eY)
  have hw:IntKind.i64.wrap ((k:Int)+1)=(k:Int)+1:=aY ab
  generalize r9:oh s k=gl at *
  cases hb:iT gl.aB
  ·rw[hb]at qb
   (repeat(first|((repeat(revert hN;revert N;apply Pn.out));refine wk (tw @a3 (tw @a0 (tw @hk (tw @eB (tw @aT.eq_1 @aa.eq_1))))) ?_;(repeat(refine Pn.mk ?_;intro N hN)))|((try apply Or.inl);refine⟨_,ai.x (qb) (sd (tw @a3 (tw @a0 (tw @hk (tw @eB (tw @aT.eq_1 @aa.eq_1)))))),?_⟩;refine hN _ _ ?_;clear hN N)))
   exact aJ (b:=false) (.inl rfl) (sd @Nat.zero_add) (eU (jI fun h=>by rw[zM,r9,hb]at h;cases h.1))
  rw[hb]at qb
  cases dQ:gD gl.dG 1 4
  ·rw[dQ]at HJ
   (repeat(first|((repeat(revert hN;revert N;apply Pn.out));refine wk (tw @a3 (tw @a0 (tw @hk (tw @eB (tw @aT.eq_1 @aa.eq_1))))) ?_;(repeat(refine Pn.mk ?_;intro N hN)))|((try apply Or.inl);refine⟨_,ai.x (qb) (sd (tw @a3 (tw @a0 (tw @hk (tw @eB (tw @aT.eq_1 @aa.eq_1)))))),?_⟩;refine hN _ _ ?_;clear hN N)|((try apply Or.inl);refine⟨_,ai.x (HJ) (sd (tw @a3 (tw @a0 (tw @hk (tw @eB (tw @aT.eq_1 @aa.eq_1)))))),?_⟩;refine hN _ _ ?_;clear hN N)))
   exact aJ (b:=false) (.inl rfl) (sd @Nat.zero_add) (eU (jI fun h=>by rw[zM,r9,dQ]at h;cases h.2.1))
  rw[dQ]at HJ
  rw[aa]at Dp
  by_cases hq:Hv s gl.aB=(k:Int)
  ·have hd:decide (Hv s gl.aB+1=(k:Int)+1)=true:=decide_eq_true ab
   have mo:decide (Hv s gl.aB=(k:Int))=true:=decide_eq_true hq
   (repeat(first|((repeat(revert hN;revert N;apply Pn.out));refine wk (tw @a3 (tw @a0 (tw @hk (tw @eB (tw @hw (tw @hd (tw @mo (tw @aT.eq_1 @aa.eq_1)))))))) ?_;(repeat(refine Pn.mk ?_;intro N hN)))|((try apply Or.inl);refine⟨_,ai.x (qb) (sd (tw @a3 (tw @a0 (tw @hk (tw @eB (tw @hw (tw @hd (tw @mo (tw @aT.eq_1 @aa.eq_1))))))))),?_⟩;refine hN _ _ ?_;clear hN N)|((try apply Or.inl);refine⟨_,ai.x (HJ) (sd (tw @a3 (tw @a0 (tw @hk (tw @eB (tw @hw (tw @hd (tw @mo (tw @aT.eq_1 @aa.eq_1))))))))),?_⟩;refine hN _ _ ?_;clear hN N)|((try apply Or.inl);refine⟨_,ai.x (Dp) (sd (tw @a3 (tw @a0 (tw @hk (tw @eB (tw @hw (tw @hd (tw @mo (tw @aT.eq_1 @aa.eq_1))))))))),?_⟩;refine hN _ _ ?_;clear hN N)))
   exact bZ (sd (tw @a3 (tw @a0 @hw))) (⟨by rw[r9];exact hb,by rw[r9];exact dQ,fun j hj=>by rw[r9];exact nX.1 hq j hj⟩)
  ·have hd:decide (Hv s gl.aB+1=(k:Int)+1)=false:=decide_eq_false ab
   have mo:decide (Hv s gl.aB=(k:Int))=false:=decide_eq_false hq
   (repeat(first|((repeat(revert hN;revert N;apply Pn.out));refine wk (tw @a3 (tw @a0 (tw @hk (tw @eB (tw @hw (tw @hd (tw @mo (tw @aT.eq_1 @aa.eq_1)))))))) ?_;(repeat(refine Pn.mk ?_;intro N hN)))|((try apply Or.inl);refine⟨_,ai.x (qb) (sd (tw @a3 (tw @a0 (tw @hk (tw @eB (tw @hw (tw @hd (tw @mo (tw @aT.eq_1 @aa.eq_1))))))))),?_⟩;refine hN _ _ ?_;clear hN N)|((try apply Or.inl);refine⟨_,ai.x (HJ) (sd (tw @a3 (tw @a0 (tw @hk (tw @eB (tw @hw (tw @hd (tw @mo (tw @aT.eq_1 @aa.eq_1))))))))),?_⟩;refine hN _ _ ?_;clear hN N)|((try apply Or.inl);refine⟨_,ai.x (Dp) (sd (tw @a3 (tw @a0 (tw @hk (tw @eB (tw @hw (tw @hd (tw @mo (tw @aT.eq_1 @aa.eq_1))))))))),?_⟩;refine hN _ _ ?_;clear hN N)))
   exact aJ (b:=false) (.inl rfl) (sd @Nat.zero_add) (eU (jI fun h=>by
    rw[zM,r9]at h
    exact hq (nX.2 h.2.2)))
 ·have ki:k=s.ar.length:=ab
  (try((repeat(revert hN;revert N;apply Pn.out));refine wk (tw @a3 (tw @a0 (tw @hk @aa.eq_1))) ?_;(repeat(refine Pn.mk ?_;intro N hN))))
  refine aL (fun n env st=>∃j:Nat,n=(s.ae.length)-j/\j<=(s.ae.length)/\env 5=.int .i64 (j:Int)/\(∀i:Nat,i<j->xO s i)) (s.ae.length) ⟨0,ab,ab,sl (tw @a3 (tw @a0 @aa.eq_1)),fun _ h=>absurd h (Nat.not_lt_zero _)⟩ ?_
  rintro n_b env_b st_b ⟨j,rfl,ble,b5,bA0⟩ bfr
  have b0:=bfr 0 (by kernel_rfl)
  simp only[go_sem, ↓reduceIte,Nat.reduceEqDiff,Nat.reduceAdd,Nat.reduceSub,Nat.reduceLeDiff,reduceCtorEq,a3,a0,aa]at b0
  clear bfr
  by_cases hj:(j:Int)<(s.ae.length:Int)
  ·have iF:∀{e:Env},(e 5=.int .i64 (IntKind.i64.wrap ((j:Int)+1)))->(xO s j)->∃m0,m0<(s.ae.length)-j/\∃j:Nat,m0=(s.ae.length)-j/\j<=(s.ae.length)/\e 5=.int .i64 (j:Int)/\(∀i:Nat,i<j->xO s i):=fun x1 x2=>⟨_,ab,j+1,rfl,ab,(by rw[x1,ax ab]),(all_succ bA0 x2)⟩
   have gh:j<s.ae.length:=ab
   have oJ:=xi gh
   have qb:=Cy (nA s j).aB (QQ j gh)
   have Dp:=DL s (nA s j).aB
   have nX:=LW gh
   have jI:(¬xO s j)->¬lu s:=fun h hp=>h (hp.tok j gh)
   generalize htd:nA s j=tl at *
   cases hb:iT tl.aB
   ·rw[hb]at qb
    (repeat(first|((repeat(revert hN;revert N;apply Pn.out));refine wk (tw @b5 (tw @b0 (tw @hj (tw @oJ (tw @aU.eq_1 @aa.eq_1))))) ?_;(repeat(refine Pn.mk ?_;intro N hN)))|((try apply Or.inl);refine⟨_,ai.x (qb) (sd (tw @b5 (tw @b0 (tw @hj (tw @oJ (tw @aU.eq_1 @aa.eq_1)))))),?_⟩;refine hN _ _ ?_;clear hN N)))
    exact aJ (b:=false) (.inl rfl) (sd @Nat.zero_add) (eU (jI fun h=>by rw[xO,htd,hb]at h;cases h.1))
   rw[hb]at qb
   by_cases h4:(tl.aX.length:Int)=4
   ·have wE:decide ((tl.aX.length:Int)=4)=true:=decide_eq_true h4
    rw[aa]at Dp
    by_cases hq:Ke s tl.aB=(j:Int)
    ·have hd:decide (Ke s tl.aB=(j:Int))=true:=decide_eq_true hq
     (repeat(first|((repeat(revert hN;revert N;apply Pn.out));refine wk (tw @b5 (tw @b0 (tw @hj (tw @oJ (tw @wE (tw @hd (tw @aU.eq_1 @aa.eq_1))))))) ?_;(repeat(refine Pn.mk ?_;intro N hN)))|((try apply Or.inl);refine⟨_,ai.x (qb) (sd (tw @b5 (tw @b0 (tw @hj (tw @oJ (tw @wE (tw @hd (tw @aU.eq_1 @aa.eq_1)))))))),?_⟩;refine hN _ _ ?_;clear hN N)|((try apply Or.inl);refine⟨_,ai.x (Dp) (sd (tw @b5 (tw @b0 (tw @hj (tw @oJ (tw @wE (tw @hd (tw @aU.eq_1 @aa.eq_1)))))))),?_⟩;refine hN _ _ ?_;clear hN N)))
     refine aL (fun n env st=>∃i:Nat,n=(4)-i/\i<=(4)/\env 7=.int .i64 (i:Int)/\st.get ⟨92012007,st_b.next+1⟩=some ⟨true,2,[aU tl]⟩/\(∀x:Nat,x<i->gD (tl.aX.getD x 0) 0 s.ar.length=true)) (4) ⟨0,ab,ab,sl (tw @b5 (tw @b0 (tw @aU.eq_1 @aa.eq_1))),sl (tw @b5 (tw @b0 (tw @aU.eq_1 @aa.eq_1))),fun _ h=>absurd h (Nat.not_lt_zero _)⟩ ?_
     rintro n_c env_c st_c ⟨i,rfl,cle,c7,cg0,cA0⟩ cfr
     have c0:=cfr 0 (by kernel_rfl);have c5:=cfr 5 (by kernel_rfl);have c6:=cfr 6 (by kernel_rfl)
     simp only[go_sem, ↓reduceIte,Nat.reduceEqDiff,Nat.reduceAdd,Nat.reduceSub,Nat.reduceLeDiff,reduceCtorEq,b5,b0,aU,aa]at c0 c5 c6
     clear cfr
     by_cases hi:(i:Int)<4
     ·have gp:∀{e:Env} {gg:Rows},(e 7=.int .i64 (IntKind.i64.wrap ((i:Int)+1)))->(gg ⟨92012007,st_b.next+1⟩=some ⟨true,2,[aU tl]⟩)->(gD (tl.aX.getD i 0) 0 s.ar.length=true)->∃m0,m0<(4)-i/\∃i:Nat,m0=(4)-i/\i<=(4)/\e 7=.int .i64 (i:Int)/\gg ⟨92012007,st_b.next+1⟩=some ⟨true,2,[aU tl]⟩/\(∀x:Nat,x<i->gD (tl.aX.getD x 0) 0 s.ar.length=true):=fun x1 x2 x3=>⟨_,ab,i+1,rfl,ab,(by rw[x1,ax ab]),x2,(all_succ cA0 x3)⟩
      have fy:i<tl.aX.length:=ab
      have nH:(tl.aX.map az)[i]? =some (az (tl.aX.getD i 0)):=getD_map az fy
      have um:tl.aX.getD i 0∈tl.aX:=by rw[List.getD_eq_getElem?_getD,List.getElem?_eq_getElem fy];exact List.getElem_mem fy
      have FY:=jf (tl.aX.getD i 0) 0 s.ar.length
      generalize K6:tl.aX.getD i 0=gv at *
      cases hv:gD gv 0 s.ar.length
      ·rw[hv]at FY
       (repeat(first|((repeat(revert hN;revert N;apply Pn.out));refine wk (tw @c7 (tw @cg0 (tw @c0 (tw @c5 (tw @c6 (tw @hi (tw @nH (tw @az.eq_1 (tw @aU.eq_1 @aa.eq_1))))))))) ?_;(repeat(refine Pn.mk ?_;intro N hN)))|((try apply Or.inl);refine⟨_,ai.x (FY) (sd (tw @c7 (tw @cg0 (tw @c0 (tw @c5 (tw @c6 (tw @hi (tw @nH (tw @az.eq_1 (tw @aU.eq_1 @aa.eq_1)))))))))),?_⟩;refine hN _ _ ?_;clear hN N)))
       exact aJ (b:=false) (.inl rfl) (sd @Nat.zero_add) (eU (jI fun h=>by
        rw[xO,htd]at h
        have:=h.2.2.2 gv um
        rw[hv]at this;cases this))
      ·rw[hv]at FY
       (repeat(first|((repeat(revert hN;revert N;apply Pn.out));refine wk (tw @c7 (tw @cg0 (tw @c0 (tw @c5 (tw @c6 (tw @hi (tw @nH (tw @az.eq_1 (tw @aU.eq_1 @aa.eq_1))))))))) ?_;(repeat(refine Pn.mk ?_;intro N hN)))|((try apply Or.inl);refine⟨_,ai.x (FY) (sd (tw @c7 (tw @cg0 (tw @c0 (tw @c5 (tw @c6 (tw @hi (tw @nH (tw @az.eq_1 (tw @aU.eq_1 @aa.eq_1)))))))))),?_⟩;refine hN _ _ ?_;clear hN N)))
       refine gp ?_ ?_ (hv)
       all_goals simp only[go_sem, ↓reduceIte,Nat.reduceEqDiff,Nat.reduceAdd,Nat.reduceSub,Nat.reduceLeDiff,reduceCtorEq,c7,cg0,c0,c5,c6]
     ·have hi4:i=4:=ab
      (try((repeat(revert hN;revert N;apply Pn.out));refine wk (tw @c7 (tw @cg0 (tw @c0 (tw @c5 (tw @c6 (tw @hi (tw @aU.eq_1 @aa.eq_1))))))) ?_;(repeat(refine Pn.mk ?_;intro N hN))))
      exact iF (sd (tw @b5 (tw @b0 (tw @c7 (tw @cg0 (tw @c0 (tw @c5 @c6))))))) (⟨by rw[htd];exact hb,by rw[htd];omega,fun x hx=>(by rw[htd];exact nX.1 hq x hx),fun g hg=>by
       rw[htd]at hg
       obtain⟨x,hx,rfl⟩:=List.getElem_of_mem hg
       have:=cA0 x ab
       rwa [List.getD_eq_getElem?_getD,List.getElem?_eq_getElem hx]at this⟩)
    ·have hd:decide (Ke s tl.aB=(j:Int))=false:=decide_eq_false hq
     (repeat(first|((repeat(revert hN;revert N;apply Pn.out));refine wk (tw @b5 (tw @b0 (tw @hj (tw @oJ (tw @wE (tw @hd (tw @aU.eq_1 @aa.eq_1))))))) ?_;(repeat(refine Pn.mk ?_;intro N hN)))|((try apply Or.inl);refine⟨_,ai.x (qb) (sd (tw @b5 (tw @b0 (tw @hj (tw @oJ (tw @wE (tw @hd (tw @aU.eq_1 @aa.eq_1)))))))),?_⟩;refine hN _ _ ?_;clear hN N)|((try apply Or.inl);refine⟨_,ai.x (Dp) (sd (tw @b5 (tw @b0 (tw @hj (tw @oJ (tw @wE (tw @hd (tw @aU.eq_1 @aa.eq_1)))))))),?_⟩;refine hN _ _ ?_;clear hN N)))
     exact aJ (b:=false) (.inl rfl) (sd @Nat.zero_add) (eU (jI fun h=>by
      rw[xO,htd]at h
      exact hq (nX.2 h.2.2.1)))
   ·have wE:decide ((tl.aX.length:Int)=4)=false:=decide_eq_false h4
    (repeat(first|((repeat(revert hN;revert N;apply Pn.out));refine wk (tw @b5 (tw @b0 (tw @hj (tw @oJ (tw @wE (tw @aU.eq_1 @aa.eq_1)))))) ?_;(repeat(refine Pn.mk ?_;intro N hN)))|((try apply Or.inl);refine⟨_,ai.x (qb) (sd (tw @b5 (tw @b0 (tw @hj (tw @oJ (tw @wE (tw @aU.eq_1 @aa.eq_1))))))),?_⟩;refine hN _ _ ?_;clear hN N)))
    exact aJ (b:=false) (.inl rfl) (sd @Nat.zero_add) (eU (jI fun h=>by rw[xO,htd]at h;have:=h.2.1;omega))
  ·(try((repeat(revert hN;revert N;apply Pn.out));refine wk (tw @b5 (tw @b0 (tw @hj @aa.eq_1))) ?_;(repeat(refine Pn.mk ?_;intro N hN))))
   exact aJ (b:=true) (.inl rfl) (sd @Nat.zero_add) (zl ⟨ab,ab,ab,fun i hi=>kj i ab,fun i hi=>bA0 i ab⟩)
end Go.Proofs.YtihgaadadaekmaaGreatDoor.V

namespace Go.Proofs.YtihgaadadaekmaaGreatDoor.V
def pC (a b:bI):Bool:=decide (a.fB<b.fB)||(decide (a.fB=b.fB)&&decide (a.ga<b.ga))
theorem Ct {a b:bI}:pC a b=true↔a.fB<b.fB∨(a.fB=b.fB/\a.ga<b.ga):=by simp[pC]
theorem DS {a b:bI}:pC a b=false↔¬(a.fB<b.fB∨(a.fB=b.fB/\a.ga<b.ga)):=by rw[<-Ct,Bool.not_eq_true]
theorem LJ {a b:bI} (h1:a.ga=b.ga) (h2:a.fB=b.fB):a=b:=by cases a;cases b;simp_all
theorem la {a b c:bI} (h:pC a b=true) (k:pC b c=true):pC a c=true:=by rw[Ct]at *;omega
theorem Cu {a:bI}:pC a a=false:=by rw[DS];omega
def ue (a b:Int):Int:=if a<b then -1 else if b<a then 1 else 0
def Ou (a b:Int):Int:=if a=0 then b else a
def rN (a b:bI):Int:=Ou (ue a.fB b.fB) (ue a.ga b.ga)
theorem we (a b:bI):decide (rN a b<0)=pC a b:=by
 unfold rN Ou ue pC
 by_cases h1:a.fB<b.fB
 ·simp[h1]
 ·by_cases h2:b.fB<a.fB
  ·have:¬a.fB=b.fB:=ab
   simp[h1,h2,this]
  ·have:a.fB=b.fB:=ab
   by_cases h3:a.ga<b.ga
   ·simp[h1,h2,this,h3]
   ·by_cases h4:b.ga<a.ga<;>simp[h1,h2,this,h3,h4]
theorem CY (a b:bI):(rN a b=0)↔a=b:=by
 cases a;cases b
 unfold rN Ou ue
 simp only[bI.mk.injEq]
 split<;>(try split)<;>(try split)<;>(try split)<;>omega
def GB:ak:=⟨⟨0,0⟩,0⟩
def bo (l:List ak) (i:Nat):ak:=l.getD i GB
theorem jK {l:List ak} {i:Nat} (h:i<l.length):bo l i=l[i]:=by simp[bo,List.getD_eq_getElem?_getD,h]
theorem pJ {l:List ak} {i:Nat} (h:i<l.length):bo l i∈l:=by rw[jK h];exact List.getElem_mem h
def xM (l:List ak):Prop:=∀i j:Nat,i<j->j<l.length->pC (bo l i).cC (bo l j).cC=true
def Dw (l:List ak) (p:bI):Nat:=l.findIdx fun c=>decide (c.cC=p)
def fF (l:List ak) (p:bI):Int:=if Dw l p<l.length then(Dw l p:Int)else -1
def k9 (l:List ak) (p:bI):Nat:=l.findIdx fun c=> !pC c.cC p
theorem wS {l:List ak} {p:bI} {i:Nat} (hi:i<=l.length) (h1:∀x,x<i->pC (bo l x).cC p=true) (h2:i<l.length->pC (bo l i).cC p=false):k9 l p=i:=by
 unfold k9
 by_cases h:i<l.length
 ·rw[List.findIdx_eq h]
  refine⟨by have:=h2 h;rw[jK h]at this;simp[this],fun j hj=>?_⟩
  have:=h1 j hj
  rw[jK ab]at this
  simp[this]
 ·have:i=l.length:=ab
  subst this
  refine List.findIdx_eq_length_of_false fun x hx=>?_
  obtain⟨j,hj,rfl⟩:=List.getElem_of_mem hx
  have:=h1 j hj
  rw[jK hj]at this
  simp[this]
theorem wT {l:List ak} {p:bI} (hR:xM l):fF l p=if k9 l p<l.length/\(bo l (k9 l p)).cC=p then(k9 l p:Int)else -1:=by
 by_cases h:∃i,i<l.length/\(bo l i).cC=p
 ·obtain⟨i,hi,hp⟩:=h
  have h1:k9 l p=i:=wS ab (fun x hx=>by rw[<-hp];exact hR x i hx hi) fun _=>by rw[hp];exact Cu
  have h2:Dw l p=i:=by
   rw[Dw,List.findIdx_eq hi]
   refine⟨by rw[jK hi]at hp;simpa using hp,fun j hj=>?_⟩
   have:=hR j i hj hi
   rw[hp,jK ab]at this
   simp only[decide_eq_false_iff_not]
   intro hc
   rw[hc,Cu]at this
   cases this
  rw[fF,h1,h2,if_pos hi,if_pos ⟨hi,hp⟩]
 ·have h2:¬Dw l p<l.length:=by
   rw[Dw,List.findIdx_lt_length]
   rintro⟨c,hc,he⟩
   obtain⟨j,hj,rfl⟩:=List.getElem_of_mem hc
   exact h ⟨j,hj,by rw[jK hj];simpa using he⟩
  rw[fF,if_neg h2,if_neg]
  rintro⟨h3,h4⟩
  exact h ⟨_,h3,h4⟩
theorem sb {l:List ak} {p:bI} (h:0<=fF l p):(fF l p).toNat<l.length/\(bo l (fF l p).toNat).cC=p:=by
 unfold fF at h ⊢
 split at h
 ·rename_i hc
  rw[if_pos hc]
  refine⟨ab,?_⟩
  have:=of_decide_eq_true (List.findIdx_getElem (p:=fun c:ak=>decide (c.cC=p)) (xs:=l) (w:=hc))
  rw[Int.toNat_natCast,jK hc]
  exact this
 ·omega
def xu (l:List ak) (p:bI):Int:=if 0<=fF l p then(bo l (fF l p).toNat).bw else -1
end Go.Proofs.YtihgaadadaekmaaGreatDoor.V

namespace Go.Proofs.YtihgaadadaekmaaGreatDoor.V
open Go.RowKit
attribute [local irreducible] dP wpOps gN Call
attribute [local go_sem] aI fI eE fW fV cv upd cq K.av cL AV.cells AV.cell rowOf rowsOf part ld rowAt bK bY dH eh ij bL da eA fZ eX dr eo cY cX dR dS bR bf cQ bQ cT cR ej ep ek cP bU cZ ei bP aM cV cz ig br cI bS aZ dD bp dJ AV.undef bB bH dX ef dO ea cF ez eC cu eu er cU cW List.getD_cons_zero List.getD_cons_succ List.getD_nil List.all_cons List.all_nil Bool.and_true Bool.true_and Bool.and_self Bool.not_true Bool.not_false Option.map_some Option.map_none Option.bind_some Option.bind_none List.length_cons List.length_nil List.take_succ_cons List.take_zero List.take_nil List.drop_succ_cons List.drop_zero List.drop_nil List.head?_cons List.map_cons List.map_nil List.getElem?_cons_zero List.getElem?_cons_succ List.cons_append List.nil_append List.append_nil List.length_map List.set_cons_zero List.set_cons_succ Nat.reduceMul eq_self Int.toNat_natCast Int.natCast_nonneg and_self true_and and_true decide_true decide_false Bool.false_eq_true Nat.zero_add Nat.add_zero List.contains_cons List.contains_nil Bool.or_false Bool.false_or beq_self_eq_true Nat.reduceBEq ne_eq not_true_eq_false not_false_eq_true Id.mk.injEq false_and and_false Nat.reduceLT Int.reduceLE Int.reduceLT Int.reduceToNat Int.reduceNeg Int.reduceAdd Nat.le_refl List.length_append beq_true beq_false Bool.not_eq_eq_eq_not or_false false_or dz ad aj aH bx cl aQ bj aW bh cN bz
theorem qP (a b:bI):ai Tryz.prog 97 [.agg (ao a),.agg (ao b)] (.bool (pC a b)):=by
 refine ai.body dN rfl fun hl n0=>?_
 clear hl
 by_cases h0:a.fB<b.fB
 ·(try((repeat(revert hN;revert N;apply Pn.out));refine wk (tw @ao.eq_1 @h0) ?_;(repeat(refine Pn.mk ?_;intro N hN))))
  exact aJ (b:=true) (.inl rfl) (sd @Nat.zero_add) (by simp[pC,h0])
 ·by_cases h1:a.fB=b.fB
  ·have h2:¬b.fB<b.fB:=ab
   (try((repeat(revert hN;revert N;apply Pn.out));refine wk (tw @ao.eq_1 (tw @h1 @h2)) ?_;(repeat(refine Pn.mk ?_;intro N hN))))
   exact aJ (b:=decide (a.ga<b.ga)) (.inl rfl) (sd @Nat.zero_add) (by simp[pC,h1])
  ·(try((repeat(revert hN;revert N;apply Pn.out));refine wk (tw @ao.eq_1 (tw @h0 @h1)) ?_;(repeat(refine Pn.mk ?_;intro N hN))))
   exact aJ (b:=false) (.inl rfl) (sd @Nat.zero_add) (by simp[pC,h0,h1])
theorem gm {l:List ak} {i:Nat} (h:i<l.length):(l.map ah)[i]? =some (ah (bo l i)):=getD_map ah h
def CP (l:List ak) (i:Nat):Prop:=EX (bo l i).cC=true/\gD (bo l i).bw 0 159=true/\(0<i->pC (bo l (i-1)).cC (bo l i).cC=true)
structure jM (l:List ak):Prop where
 EH:l.length<=500
 ok:∀i,i<l.length->CP l i
noncomputable def m7 (l:List ak):Bool:=@decide (jM l) (Classical.propDecidable _)
theorem Dh {l:List ak}:m7 l=true↔jM l:=by simp[m7]
theorem jq {l:List ak} (h:¬jM l):false=m7 l:=by simp[m7,h]
theorem uW {l:List ak} (h:jM l):true=m7 l:=by simp[m7,h]
theorem jM.Pr {l:List ak} (h:jM l):xM l:=by
 intro i j Pa hj
 induction j with
 |zero=>omega
 |succ j ih=>
  have h1:=(h.ok (j+1) hj).2.2 ab
  rw[Nat.add_sub_cancel]at h1
  by_cases he:i=j
  ·subst he;exact h1
  ·exact la (ih ab ab) h1
theorem jM.pt {l:List ak} (h:jM l) {i:Nat} (hi:i<l.length):EX (bo l i).cC=true:=(h.ok i hi).1
theorem GM {p:bI} (h:EX p=true):iB p.ga/\iB p.fB:=by
 unfold EX at h
 simp only[Bool.and_eq_true]at h
 have:=dt h.1;have:=dt h.2
 unfold iB;omega
theorem DM (l:List ak):ai Tryz.prog 95 [.cK [.sl (l.map ah)]] (.bool (m7 l)):=by
 refine ai.body dN rfl fun hl n0=>?_
 clear hl
 by_cases h1:(500:Int)<(l.length:Int)
 ·(try((repeat(revert hN;revert N;apply Pn.out));refine wk @h1 ?_;(repeat(refine Pn.mk ?_;intro N hN))))
  exact aJ (b:=false) (.inl rfl) (sd @Nat.zero_add) (jq fun h=>by have:=h.EH;omega)
 (try((repeat(revert hN;revert N;apply Pn.out));refine wk @h1 ?_;(repeat(refine Pn.mk ?_;intro N hN))))
 refine aL (fun n env st=>∃k:Nat,n=(l.length)-k/\k<=(l.length)/\env 3=.int .i64 (k:Int)/\(∀j:Nat,j<k->CP l j)) (l.length) ⟨0,ab,ab,sl @Nat.zero_add,fun _ h=>absurd h (Nat.not_lt_zero _)⟩ ?_
 rintro n_a env_a st_a ⟨k,rfl,ale,a3,kj⟩ dC
 have a0:=dC 0 (by kernel_rfl)
 simp only[go_sem, ↓reduceIte,Nat.reduceEqDiff,Nat.reduceAdd,Nat.reduceSub,Nat.reduceLeDiff,reduceCtorEq]at a0
 clear dC
 by_cases hk:(k:Int)<(l.length:Int)
 ·have bZ:∀{e:Env},(e 3=.int .i64 (IntKind.i64.wrap ((k:Int)+1)))->(CP l k)->∃m0,m0<(l.length)-k/\∃k:Nat,m0=(l.length)-k/\k<=(l.length)/\e 3=.int .i64 (k:Int)/\(∀j:Nat,j<k->CP l j):=fun x1 x2=>⟨_,ab,k+1,rfl,ab,(by rw[x1,ax ab]),(all_succ kj x2)⟩
  have eY:k<l.length:=ab
  have eB:=gm eY
  have jI:(¬CP l k)->¬jM l:=fun h hp=>h (hp.ok k eY)
  have hp:=AU (bo l k).cC
  have ht:=jf (bo l k).bw 0 159
  cases b1:EX (bo l k).cC
  ·rw[b1]at hp
   (repeat(first|((repeat(revert hN;revert N;apply Pn.out));refine wk (tw @a3 (tw @a0 (tw @hk (tw @eB (tw @ah.eq_1 @ao.eq_1))))) ?_;(repeat(refine Pn.mk ?_;intro N hN)))|((try apply Or.inl);refine⟨_,ai.x (hp) (sd (tw @a3 (tw @a0 (tw @hk (tw @eB (tw @ah.eq_1 @ao.eq_1)))))),?_⟩;refine hN _ _ ?_;clear hN N)))
   exact aJ (b:=false) (.inl rfl) (sd @Nat.zero_add) (jq (jI fun h=>by rw[CP,b1]at h;cases h.1))
  rw[b1]at hp
  cases b2:gD (bo l k).bw 0 159
  ·rw[b2]at ht
   (repeat(first|((repeat(revert hN;revert N;apply Pn.out));refine wk (tw @a3 (tw @a0 (tw @hk (tw @eB (tw @ah.eq_1 @ao.eq_1))))) ?_;(repeat(refine Pn.mk ?_;intro N hN)))|((try apply Or.inl);refine⟨_,ai.x (hp) (sd (tw @a3 (tw @a0 (tw @hk (tw @eB (tw @ah.eq_1 @ao.eq_1)))))),?_⟩;refine hN _ _ ?_;clear hN N)|((try apply Or.inl);refine⟨_,ai.x (ht) (sd (tw @a3 (tw @a0 (tw @hk (tw @eB (tw @ah.eq_1 @ao.eq_1)))))),?_⟩;refine hN _ _ ?_;clear hN N)))
   exact aJ (b:=false) (.inl rfl) (sd @Nat.zero_add) (jq (jI fun h=>by rw[CP,b2]at h;cases h.2.1))
  rw[b2]at ht
  by_cases h0:(0:Int)<(k:Int)
  ·have sR:=gm (l:=l) (i:=k-1) ab
   have hw:IntKind.i64.wrap ((k:Int)-1)=((k-1:Nat):Int):=by rw[aY (by have:=eY;omega)];omega
   have hq:=qP (bo l (k-1)).cC (bo l k).cC
   cases b3:pC (bo l (k-1)).cC (bo l k).cC
   ·rw[b3]at hq
    (repeat(first|((repeat(revert hN;revert N;apply Pn.out));refine wk (tw @a3 (tw @a0 (tw @hk (tw @eB (tw @sR (tw @h0 (tw @hw (tw @ah.eq_1 @ao.eq_1)))))))) ?_;(repeat(refine Pn.mk ?_;intro N hN)))|((try apply Or.inl);refine⟨_,ai.x (hp) (sd (tw @a3 (tw @a0 (tw @hk (tw @eB (tw @sR (tw @h0 (tw @hw (tw @ah.eq_1 @ao.eq_1))))))))),?_⟩;refine hN _ _ ?_;clear hN N)|((try apply Or.inl);refine⟨_,ai.x (ht) (sd (tw @a3 (tw @a0 (tw @hk (tw @eB (tw @sR (tw @h0 (tw @hw (tw @ah.eq_1 @ao.eq_1))))))))),?_⟩;refine hN _ _ ?_;clear hN N)|((try apply Or.inl);refine⟨_,ai.x (hq) (sd (tw @a3 (tw @a0 (tw @hk (tw @eB (tw @sR (tw @h0 (tw @hw (tw @ah.eq_1 @ao.eq_1))))))))),?_⟩;refine hN _ _ ?_;clear hN N)))
    exact aJ (b:=false) (.inl rfl) (sd @Nat.zero_add) (jq (jI fun h=>by have:=h.2.2 ab;rw[b3]at this;cases this))
   ·rw[b3]at hq
    (repeat(first|((repeat(revert hN;revert N;apply Pn.out));refine wk (tw @a3 (tw @a0 (tw @hk (tw @eB (tw @sR (tw @h0 (tw @hw (tw @ah.eq_1 @ao.eq_1)))))))) ?_;(repeat(refine Pn.mk ?_;intro N hN)))|((try apply Or.inl);refine⟨_,ai.x (hp) (sd (tw @a3 (tw @a0 (tw @hk (tw @eB (tw @sR (tw @h0 (tw @hw (tw @ah.eq_1 @ao.eq_1))))))))),?_⟩;refine hN _ _ ?_;clear hN N)|((try apply Or.inl);refine⟨_,ai.x (ht) (sd (tw @a3 (tw @a0 (tw @hk (tw @eB (tw @sR (tw @h0 (tw @hw (tw @ah.eq_1 @ao.eq_1))))))))),?_⟩;refine hN _ _ ?_;clear hN N)|((try apply Or.inl);refine⟨_,ai.x (hq) (sd (tw @a3 (tw @a0 (tw @hk (tw @eB (tw @sR (tw @h0 (tw @hw (tw @ah.eq_1 @ao.eq_1))))))))),?_⟩;refine hN _ _ ?_;clear hN N)))
    exact bZ (sd (tw @a3 @a0)) (⟨b1,b2,fun _=>b3⟩)
  ·have tV:k=0:=ab
   (repeat(first|((repeat(revert hN;revert N;apply Pn.out));refine wk (tw @a3 (tw @a0 (tw @hk (tw @eB (tw @h0 (tw @ah.eq_1 @ao.eq_1)))))) ?_;(repeat(refine Pn.mk ?_;intro N hN)))|((try apply Or.inl);refine⟨_,ai.x (hp) (sd (tw @a3 (tw @a0 (tw @hk (tw @eB (tw @h0 (tw @ah.eq_1 @ao.eq_1))))))),?_⟩;refine hN _ _ ?_;clear hN N)|((try apply Or.inl);refine⟨_,ai.x (ht) (sd (tw @a3 (tw @a0 (tw @hk (tw @eB (tw @h0 (tw @ah.eq_1 @ao.eq_1))))))),?_⟩;refine hN _ _ ?_;clear hN N)))
   exact bZ (sd (tw @a3 @a0)) (⟨b1,b2,fun h=>ab⟩)
 ·(try((repeat(revert hN;revert N;apply Pn.out));refine wk (tw @a3 (tw @a0 @hk)) ?_;(repeat(refine Pn.mk ?_;intro N hN))))
  exact aJ (b:=true) (.inl rfl) (sd @Nat.zero_add) (uW ⟨ab,fun i hi=>kj i ab⟩)
theorem uR (a b:Int):ai Tryz.prog 141 [.int .i64 a,.int .i64 b] (.int .i64 (ue a b)):=by
 have nan:∀x:Int,ai Tryz.prog 157 [.int .i64 x] (.bool false):=fun x=>by
  refine ai.body dN rfl fun hl n0=>?_
  clear hl
  have e:decide (x=x)=true:=decide_eq_true rfl
  (try((repeat(revert hN;revert N;apply Pn.out));refine wk @e ?_;(repeat(refine Pn.mk ?_;intro N hN))))
  exact aJ (b:=false) (.inl rfl) (sd @Nat.zero_add) rfl
 refine ai.body dN rfl fun hl n0=>?_
 clear hl
 have ha:=nan a
 have hb:=nan b
 by_cases h1:a<b
 ·(repeat(first|((repeat(revert hN;revert N;apply Pn.out));refine wk @h1 ?_;(repeat(refine Pn.mk ?_;intro N hN)))|((try apply Or.inl);refine⟨_,ai.x (ha) (sd @h1),?_⟩;refine hN _ _ ?_;clear hN N)|((try apply Or.inl);refine⟨_,ai.x (hb) (sd @h1),?_⟩;refine hN _ _ ?_;clear hN N)))
  exact bq (b:=-1) (.inl rfl) (sd @Nat.zero_add) (by rw[ue,if_pos h1])
 by_cases h2:b<a
 ·(repeat(first|((repeat(revert hN;revert N;apply Pn.out));refine wk (tw @h1 @h2) ?_;(repeat(refine Pn.mk ?_;intro N hN)))|((try apply Or.inl);refine⟨_,ai.x (ha) (sd (tw @h1 @h2)),?_⟩;refine hN _ _ ?_;clear hN N)|((try apply Or.inl);refine⟨_,ai.x (hb) (sd (tw @h1 @h2)),?_⟩;refine hN _ _ ?_;clear hN N)))
  exact bq (b:=1) (.inl rfl) (sd @Nat.zero_add) (by rw[ue,if_neg h1,if_pos h2])
 ·(repeat(first|((repeat(revert hN;revert N;apply Pn.out));refine wk (tw @h1 @h2) ?_;(repeat(refine Pn.mk ?_;intro N hN)))|((try apply Or.inl);refine⟨_,ai.x (ha) (sd (tw @h1 @h2)),?_⟩;refine hN _ _ ?_;clear hN N)|((try apply Or.inl);refine⟨_,ai.x (hb) (sd (tw @h1 @h2)),?_⟩;refine hN _ _ ?_;clear hN N)))
  exact bq (b:=0) (.inl rfl) (sd @Nat.zero_add) (by rw[ue,if_neg h1,if_neg h2])
def EW:List Int->Int
 |[]=>0
 |a::r=>if a=0 then EW r else a
theorem GI:∀{l:List Int} {k:Nat} (hk:k<l.length),l[k]≠0->(∀j (h:j<l.length),j<k->l[j]=0)->EW l=l[k]
 |a::r,0,_,h,_=>by
  have h':a≠0:=h
  rw[EW,if_neg h'];rfl
 |a::r,k+1,hk,h,h0=>by
  have h':a=0:=h0 0 (by simp) ab
  rw[EW,if_pos h',GI (k:=k) (by simpa using hk) h fun j hj u6=>h0 (j+1) (by simpa using hj) ab];rfl
theorem zg:∀{l:List Int},(∀j (h:j<l.length),l[j]=0)->EW l=0
 |[],_=>rfl
 |a::r,h=>by
  have h':a=0:=h 0 (by simp)
  rw[EW,if_pos h',zg fun j hj=>h (j+1) (by simpa using hj)]
theorem I8 (a b:Int):EW [a,b]=Ou a b:=by
 unfold Ou
 by_cases h:a=0
 ·rw[EW,if_pos h,if_pos h,EW,EW];split<;>simp_all
 ·rw[EW,if_neg h,if_neg h]
theorem HZ (l:List Int):ai Tryz.prog 140 [.sl (l.map az)] (.int .i64 (EW l)):=by
 refine ai.body dN rfl fun hl n0=>?_
 have hlen:l.length<=9223372036854775807:=by simpa using(hl (.sl (l.map az)) (by simp)).len
 clear hl
 (try((repeat(revert hN;revert N;apply Pn.out));refine wk @Nat.zero_add ?_;(repeat(refine Pn.mk ?_;intro N hN))))
 refine aL (fun n env st=>∃k:Nat,n=(l.length)-k/\k<=(l.length)/\env 8=.int .i64 (k:Int)/\(∀j:Nat,j<k->∀h:j<l.length,l[j]=0)) (l.length) ⟨0,ab,ab,sl @Nat.zero_add,fun _ h=>absurd h (Nat.not_lt_zero _)⟩ ?_
 rintro n_a env_a st_a ⟨k,rfl,ale,a8,kj⟩ dC
 have a3:=dC 3 (by kernel_rfl);have a6:=dC 6 (by kernel_rfl);have a7:=dC 7 (by kernel_rfl)
 simp only[go_sem, ↓reduceIte,Nat.reduceEqDiff,Nat.reduceAdd,Nat.reduceSub,Nat.reduceLeDiff,reduceCtorEq]at a3 a6 a7
 clear dC
 by_cases hk:(k:Int)<(l.length:Int)
 ·have bZ:∀{e:Env},(e 8=.int .i64 (IntKind.i64.wrap ((k:Int)+1)))->(∀h:k<l.length,l[k]=0)->∃m0,m0<(l.length)-k/\∃k:Nat,m0=(l.length)-k/\k<=(l.length)/\e 8=.int .i64 (k:Int)/\(∀j:Nat,j<k->∀h:j<l.length,l[j]=0):=fun x1 x2=>⟨_,ab,k+1,rfl,ab,(by rw[x1,ax ab]),(all_succ kj x2)⟩
  have eY:k<l.length:=ab
  have eB:(l.map az)[k]? =some (az l[k]):=by simp[eY]
  generalize hv:l[k]=v at eB
  by_cases h0:v=0
  ·have e:decide (v=0)=true:=decide_eq_true h0
   (try((repeat(revert hN;revert N;apply Pn.out));refine wk (tw @a8 (tw @a3 (tw @a6 (tw @a7 (tw @e (tw @hk (tw @eB @az.eq_1))))))) ?_;(repeat(refine Pn.mk ?_;intro N hN))))
   exact bZ (sd (tw @a8 (tw @a3 (tw @a6 @a7)))) (fun _=>hv.trans h0)
  ·have e:decide (v=0)=false:=decide_eq_false h0
   (try((repeat(revert hN;revert N;apply Pn.out));refine wk (tw @a8 (tw @a3 (tw @a6 (tw @a7 (tw @e (tw @hk (tw @eB @az.eq_1))))))) ?_;(repeat(refine Pn.mk ?_;intro N hN))))
   exact bq (b:=v) (.inl rfl) (sd @Nat.zero_add) (by rw[GI eY (by rw[hv];exact h0) fun j h hj=>kj j hj h,hv])
 ·(try((repeat(revert hN;revert N;apply Pn.out));refine wk (tw @a8 (tw @a3 (tw @a6 (tw @a7 @hk)))) ?_;(repeat(refine Pn.mk ?_;intro N hN))))
  exact bq (b:=0) (.inl rfl) (sd @Nat.zero_add) (by rw[zg fun j h=>kj j ab h])
section
attribute [local go_sem] List.drop_zero List.take_succ_cons List.take_zero List.length_cons List.length_nil fP wu m8
theorem l9 (a b:bI):ai Tryz.prog 139 [.agg (ao a),.agg (ao b)] (.int .i64 (rN a b)):=by
 refine ai.body dN rfl fun hl n0=>?_
 clear hl
 have h1:=uR a.fB b.fB
 have h2:=uR a.ga b.ga
 have h3:=HZ [ue a.fB b.fB,ue a.ga b.ga]
 rw[I8,List.map_cons,List.map_cons,List.map_nil,az,az]at h3
 (repeat(first|((repeat(revert hN;revert N;apply Pn.out));refine wk @ao.eq_1 ?_;(repeat(refine Pn.mk ?_;intro N hN)))|((try apply Or.inl);refine⟨_,ai.x (h1) (sd @ao.eq_1),?_⟩;refine hN _ _ ?_;clear hN N)|((try apply Or.inl);refine⟨_,ai.x (h2) (sd @ao.eq_1),?_⟩;refine hN _ _ ?_;clear hN N)|((try apply Or.inl);refine⟨_,ai.x (h3) (sd @ao.eq_1),?_⟩;refine hN _ _ ?_;clear hN N)))
 exact bq (b:=rN a b) (.inl rfl) (by simp only[go_sem, ↓reduceIte,Nat.reduceEqDiff,Nat.reduceAdd,Nat.reduceSub,Nat.reduceLeDiff,reduceCtorEq,rN]) rfl
end
theorem IF (a b:bI):ai Tryz.prog 137 [.agg (ao a),.agg (ao b)] (.bool (pC a b)):=by
 refine ai.body dN rfl fun hl n0=>?_
 clear hl
 have h1:=l9 a b
 rw[ao,ao]at h1
 (repeat(first|((repeat(revert hN;revert N;apply Pn.out));refine wk @ao.eq_1 ?_;(repeat(refine Pn.mk ?_;intro N hN)))|((try apply Or.inl);refine⟨_,ai.x (h1) (sd @ao.eq_1),?_⟩;refine hN _ _ ?_;clear hN N)))
 exact aJ (b:=decide (rN a b<0)) (.inl rfl) (sd @Nat.zero_add) (we a b)
theorem jx (t:ak) (p:bI):ai Tryz.prog 108 [.agg (ah t),.agg (ao p)] (.int .i64 (rN t.cC p)):=by
 refine ai.body dN rfl fun hl n0=>?_
 clear hl
 have h1:=l9 t.cC p
 rw[ao,ao]at h1
 (repeat(first|((repeat(revert hN;revert N;apply Pn.out));refine wk (tw @ah.eq_1 @ao.eq_1) ?_;(repeat(refine Pn.mk ?_;intro N hN)))|((try apply Or.inl);refine⟨_,ai.x (h1) (sd (tw @ah.eq_1 @ao.eq_1)),?_⟩;refine hN _ _ ?_;clear hN N)))
 exact bq (b:=rN t.cC p) (.inl rfl) (sd @Nat.zero_add) rfl
theorem Dk (l:List ak):ai Tryz.prog 103 [.agg [.sl (l.map ah)]] (.bool (m7 l)):=by
 refine ai.body dN rfl fun hl n0=>?_
 have hlen:l.length<=9223372036854775807:=by
  have h1:=(hl (.agg [.sl (l.map ah)]) (by simp)).HR (a:=.sl (l.map ah)) (by simp)
  simpa using h1.len
 clear hl
 (try((repeat(revert hN;revert N;apply Pn.out));refine wk @Nat.zero_add ?_;(repeat(refine Pn.mk ?_;intro N hN))))
 refine aL (fun n env st=>∃k:Nat,n=(l.length)-k/\k<=(l.length)/\env 8=.int .i64 (k:Int)/\st.get ⟨103000000,n0⟩=some ⟨true,1,[[.sl (l.map ah)]]⟩/\(∀j:Nat,j<k->CP l j)) (l.length) ⟨0,ab,ab,sl @Nat.zero_add,sl @Nat.zero_add,fun _ h=>absurd h (Nat.not_lt_zero _)⟩ ?_
 rintro n_a env_a st_a ⟨k,rfl,ale,a8,ag0,kj⟩ dC
 have a1:=dC 1 (by kernel_rfl);have a6:=dC 6 (by kernel_rfl);have a7:=dC 7 (by kernel_rfl)
 simp only[go_sem, ↓reduceIte,Nat.reduceEqDiff,Nat.reduceAdd,Nat.reduceSub,Nat.reduceLeDiff,reduceCtorEq]at a1 a6 a7
 clear dC
 by_cases hk:(k:Int)<(l.length:Int)
 ·have bZ:∀{e:Env} {gg:Rows},(e 8=.int .i64 (IntKind.i64.wrap ((k:Int)+1)))->(gg ⟨103000000,n0⟩=some ⟨true,1,[[.sl (l.map ah)]]⟩)->(CP l k)->∃m0,m0<(l.length)-k/\∃k:Nat,m0=(l.length)-k/\k<=(l.length)/\e 8=.int .i64 (k:Int)/\gg ⟨103000000,n0⟩=some ⟨true,1,[[.sl (l.map ah)]]⟩/\(∀j:Nat,j<k->CP l j):=fun x1 x2 x3=>⟨_,ab,k+1,rfl,ab,(by rw[x1,ax ab]),x2,(all_succ kj x3)⟩
  have eY:k<l.length:=ab
  have eB:=gm eY
  have jI:(¬CP l k)->¬jM l:=fun h hp=>h (hp.ok k eY)
  have hp:=vY (bo l k).cC
  have ht:=vp (bo l k).bw 160 ab ab
  rw[show(160:Int)-1=159 from rfl]at ht
  cases b1:EX (bo l k).cC
  ·rw[b1]at hp
   (repeat(first|((repeat(revert hN;revert N;apply Pn.out));refine wk (tw @a8 (tw @ag0 (tw @a1 (tw @a6 (tw @a7 (tw @hk (tw @eB (tw @ah.eq_1 @ao.eq_1)))))))) ?_;(repeat(refine Pn.mk ?_;intro N hN)))|((try apply Or.inl);refine⟨_,ai.x (hp) (sd (tw @a8 (tw @ag0 (tw @a1 (tw @a6 (tw @a7 (tw @hk (tw @eB (tw @ah.eq_1 @ao.eq_1))))))))),?_⟩;refine hN _ _ ?_;clear hN N)))
   exact aJ (b:=false) (.inl rfl) (sd @Nat.zero_add) (jq (jI fun h=>by rw[CP,b1]at h;cases h.1))
  rw[b1]at hp
  cases b2:gD (bo l k).bw 0 159
  ·rw[b2]at ht
   (repeat(first|((repeat(revert hN;revert N;apply Pn.out));refine wk (tw @a8 (tw @ag0 (tw @a1 (tw @a6 (tw @a7 (tw @hk (tw @eB (tw @ah.eq_1 @ao.eq_1)))))))) ?_;(repeat(refine Pn.mk ?_;intro N hN)))|((try apply Or.inl);refine⟨_,ai.x (hp) (sd (tw @a8 (tw @ag0 (tw @a1 (tw @a6 (tw @a7 (tw @hk (tw @eB (tw @ah.eq_1 @ao.eq_1))))))))),?_⟩;refine hN _ _ ?_;clear hN N)|((try apply Or.inl);refine⟨_,ai.x (ht) (sd (tw @a8 (tw @ag0 (tw @a1 (tw @a6 (tw @a7 (tw @hk (tw @eB (tw @ah.eq_1 @ao.eq_1))))))))),?_⟩;refine hN _ _ ?_;clear hN N)))
   exact aJ (b:=false) (.inl rfl) (sd @Nat.zero_add) (jq (jI fun h=>by rw[CP,b2]at h;cases h.2.1))
  rw[b2]at ht
  by_cases h0:(0:Int)<(k:Int)
  ·have sR:=gm (l:=l) (i:=k-1) ab
   have hw:IntKind.i64.wrap ((k:Int)-1)=((k-1:Nat):Int):=by rw[aY ab];omega
   have hq:=IF (bo l (k-1)).cC (bo l k).cC
   cases b3:pC (bo l (k-1)).cC (bo l k).cC
   ·rw[b3]at hq
    (repeat(first|((repeat(revert hN;revert N;apply Pn.out));refine wk (tw @a8 (tw @ag0 (tw @a1 (tw @a6 (tw @a7 (tw @hk (tw @eB (tw @sR (tw @h0 (tw @hw (tw @ah.eq_1 @ao.eq_1))))))))))) ?_;(repeat(refine Pn.mk ?_;intro N hN)))|((try apply Or.inl);refine⟨_,ai.x (hp) (sd (tw @a8 (tw @ag0 (tw @a1 (tw @a6 (tw @a7 (tw @hk (tw @eB (tw @sR (tw @h0 (tw @hw (tw @ah.eq_1 @ao.eq_1)))))))))))),?_⟩;refine hN _ _ ?_;clear hN N)|((try apply Or.inl);refine⟨_,ai.x (ht) (sd (tw @a8 (tw @ag0 (tw @a1 (tw @a6 (tw @a7 (tw @hk (tw @eB (tw @sR (tw @h0 (tw @hw (tw @ah.eq_1 @ao.eq_1)))))))))))),?_⟩;refine hN _ _ ?_;clear hN N)|((try apply Or.inl);refine⟨_,ai.x (hq) (sd (tw @a8 (tw @ag0 (tw @a1 (tw @a6 (tw @a7 (tw @hk (tw @eB (tw @sR (tw @h0 (tw @hw (tw @ah.eq_1 @ao.eq_1)))))))))))),?_⟩;refine hN _ _ ?_;clear hN N)))
    exact aJ (b:=false) (.inl rfl) (sd @Nat.zero_add) (jq (jI fun h=>by have:=h.2.2 ab;rw[b3]at this;cases this))
   ·rw[b3]at hq
    (repeat(first|((repeat(revert hN;revert N;apply Pn.out));refine wk (tw @a8 (tw @ag0 (tw @a1 (tw @a6 (tw @a7 (tw @hk (tw @eB (tw @sR (tw @h0 (tw @hw (tw @ah.eq_1 @ao.eq_1))))))))))) ?_;(repeat(refine Pn.mk ?_;intro N hN)))|((try apply Or.inl);refine⟨_,ai.x (hp) (sd (tw @a8 (tw @ag0 (tw @a1 (tw @a6 (tw @a7 (tw @hk (tw @eB (tw @sR (tw @h0 (tw @hw (tw @ah.eq_1 @ao.eq_1)))))))))))),?_⟩;refine hN _ _ ?_;clear hN N)|((try apply Or.inl);refine⟨_,ai.x (ht) (sd (tw @a8 (tw @ag0 (tw @a1 (tw @a6 (tw @a7 (tw @hk (tw @eB (tw @sR (tw @h0 (tw @hw (tw @ah.eq_1 @ao.eq_1)))))))))))),?_⟩;refine hN _ _ ?_;clear hN N)|((try apply Or.inl);refine⟨_,ai.x (hq) (sd (tw @a8 (tw @ag0 (tw @a1 (tw @a6 (tw @a7 (tw @hk (tw @eB (tw @sR (tw @h0 (tw @hw (tw @ah.eq_1 @ao.eq_1)))))))))))),?_⟩;refine hN _ _ ?_;clear hN N)))
    refine bZ ?_ ?_ (⟨b1,b2,fun _=>b3⟩)
    all_goals simp only[go_sem, ↓reduceIte,Nat.reduceEqDiff,Nat.reduceAdd,Nat.reduceSub,Nat.reduceLeDiff,reduceCtorEq,a8,ag0,a1,a6,a7]
  ·have tV:k=0:=ab
   (repeat(first|((repeat(revert hN;revert N;apply Pn.out));refine wk (tw @a8 (tw @ag0 (tw @a1 (tw @a6 (tw @a7 (tw @hk (tw @eB (tw @h0 (tw @ah.eq_1 @ao.eq_1))))))))) ?_;(repeat(refine Pn.mk ?_;intro N hN)))|((try apply Or.inl);refine⟨_,ai.x (hp) (sd (tw @a8 (tw @ag0 (tw @a1 (tw @a6 (tw @a7 (tw @hk (tw @eB (tw @h0 (tw @ah.eq_1 @ao.eq_1)))))))))),?_⟩;refine hN _ _ ?_;clear hN N)|((try apply Or.inl);refine⟨_,ai.x (ht) (sd (tw @a8 (tw @ag0 (tw @a1 (tw @a6 (tw @a7 (tw @hk (tw @eB (tw @h0 (tw @ah.eq_1 @ao.eq_1)))))))))),?_⟩;refine hN _ _ ?_;clear hN N)))
   refine bZ ?_ ?_ (⟨b1,b2,fun h=>ab⟩)
   all_goals simp only[go_sem, ↓reduceIte,Nat.reduceEqDiff,Nat.reduceAdd,Nat.reduceSub,Nat.reduceLeDiff,reduceCtorEq,a8,ag0,a1,a6,a7]
 ·(try((repeat(revert hN;revert N;apply Pn.out));refine wk (tw @a8 (tw @ag0 (tw @a1 (tw @a6 (tw @a7 @hk))))) ?_;(repeat(refine Pn.mk ?_;intro N hN))))
  refine aJ (b:=decide ((l.length:Int)<=500)) (.inl rfl) (sd @Nat.zero_add) ?_
  by_cases h5:(l.length:Int)<=500
  ·rw[decide_eq_true h5];exact uW ⟨ab,fun i hi=>kj i ab⟩
  ·rw[decide_eq_false h5];exact jq fun h=>by have:=h.EH;omega
theorem uO (cells:List ak) (p:bI) (hR:xM cells) (Ie:cells.length<=1048576):
  ai Tryz.prog 107 [.sl (cells.map ah),.agg (ao p),.fn 108 []] (.ib [.int .i64 (k9 cells p),.bool (decide (k9 cells p<cells.length)&&decide ((bo cells (k9 cells p)).cC=p))]):=by
 refine ai.body dN rfl fun hl n0=>?_
 clear hl
 (try((repeat(revert hN;revert N;apply Pn.out));refine wk @ao.eq_1 ?_;(repeat(refine Pn.mk ?_;intro N hN))))
 refine aL (fun n env st=>∃i j:Nat,n=j-i/\i<=j/\j<=cells.length/\(∀x,x<i->pC (bo cells x).cC p=true)/\(∀x,j<=x->x<cells.length->pC (bo cells x).cC p=false)/\env 9=.int .i64 i/\env 10=.int .i64 j/\st.get ⟨107000000,n0⟩=some ⟨true,2,[ao p]⟩) cells.length ⟨0,cells.length,ab,ab,ab,fun x h=>ab,fun x h1 h2=>ab,by(simp only[go_sem, ↓reduceIte,Nat.reduceEqDiff,Nat.reduceAdd,Nat.reduceSub,Nat.reduceLeDiff,reduceCtorEq])<;>rfl,sd @Nat.zero_add,sd @ao.eq_1⟩ ?_
 rintro n env st ⟨i,j,rfl,Pa,hj,jz,zF,h9,FI,hg⟩ fr
 have h0:=fr 0 (by kernel_rfl)
 have h2:=fr 2 (by kernel_rfl)
 have h4:=fr 4 (by kernel_rfl)
 have h8:=fr 8 (by kernel_rfl)
 simp only[go_sem, ↓reduceIte,Nat.reduceEqDiff,Nat.reduceAdd,Nat.reduceSub,Nat.reduceLeDiff,reduceCtorEq]at h0 h2 h4 h8
 clear fr
 by_cases dF:(i:Int)<(j:Int)
 ·have e1:IntKind.i64.wrap ((i:Int)+j)=((i+j:Nat):Int):=by rw[aY ab];rfl
  have hm:(i+j) / 2<cells.length:=ab
  have dE:(cells.map ah)[(i+j) / 2]? =some (ah (bo cells ((i+j) / 2))):=gm (l:=cells) hm
  have e2:IntKind.i64.wrap ((IntKind.u64.wrap ((i+j:Nat):Int)).fdiv (2 ^ min 1 IntKind.u64.bits))=(((i+j) / 2:Nat):Int):=by
   have h:IntKind.u64.wrap ((i+j:Nat):Int)=((i+j:Nat):Int):=by rw[IntKind.wrap_u64];omega
   rw[h,show min 1 IntKind.u64.bits=1 from rfl,show((2:Int) ^ 1)=2 from rfl,Int.fdiv_eq_ediv_of_nonneg _ ab]
   rw[aY ab];omega
  have Nc:IntKind.i64.wrap ((IntKind.u64.wrap ((i+j:Nat):Int)).fdiv (2 ^ min 1 64))=(((i+j) / 2:Nat):Int):=e2
  have e3:=ax (k:=(i+j) / 2) ab
  by_cases hc:rN (bo cells ((i+j) / 2)).cC p<0
  ·have hl:pC (bo cells ((i+j) / 2)).cC p=true:=by rw[<-we];simpa using hc
   (repeat(first|((repeat(revert hN;revert N;apply Pn.out));refine wk (tw @h0 (tw @h2 (tw @h4 (tw @h8 (tw @h9 (tw @FI (tw @hg (tw @dF (tw @e1 (tw @e2 (tw @Nc (tw @dE (tw @hc (tw @ah.eq_1 @ao.eq_1)))))))))))))) ?_;(repeat(refine Pn.mk ?_;intro N hN)))|((try apply Or.inl);refine⟨_,ai.x (jx (bo cells ((i+j) / 2)) p) (sd (tw @h0 (tw @h2 (tw @h4 (tw @h8 (tw @h9 (tw @FI (tw @hg (tw @dF (tw @e1 (tw @e2 (tw @Nc (tw @dE (tw @hc (tw @ah.eq_1 @ao.eq_1))))))))))))))),?_⟩;refine hN _ _ ?_;clear hN N)))
   refine⟨_,?_,(i+j) / 2+1,j,rfl,ab,hj,fun x hx=>?_,zF,sd @e3,sd @FI,sd (tw @hg @ao.eq_1)⟩
   ·omega
   ·by_cases Lu:x=(i+j) / 2
    ·subst Lu;exact hl
    ·exact la (hR x _ ab hm) hl
  ·have hl:pC (bo cells ((i+j) / 2)).cC p=false:=by rw[<-we];simpa using hc
   (repeat(first|((repeat(revert hN;revert N;apply Pn.out));refine wk (tw @h0 (tw @h2 (tw @h4 (tw @h8 (tw @h9 (tw @FI (tw @hg (tw @dF (tw @e1 (tw @e2 (tw @Nc (tw @dE (tw @hc (tw @ah.eq_1 @ao.eq_1)))))))))))))) ?_;(repeat(refine Pn.mk ?_;intro N hN)))|((try apply Or.inl);refine⟨_,ai.x (jx (bo cells ((i+j) / 2)) p) (sd (tw @h0 (tw @h2 (tw @h4 (tw @h8 (tw @h9 (tw @FI (tw @hg (tw @dF (tw @e1 (tw @e2 (tw @Nc (tw @dE (tw @hc (tw @ah.eq_1 @ao.eq_1))))))))))))))),?_⟩;refine hN _ _ ?_;clear hN N)))
   refine⟨_,?_,i,(i+j) / 2,rfl,ab,ab,jz,fun x h1 h2=>?_,sd @h9,sd (tw @e2 @Nc),sd (tw @hg @ao.eq_1)⟩
   ·omega
   ·by_cases Lu:x=(i+j) / 2
    ·subst Lu;exact hl
    ·rw[Bool.eq_false_iff]
     intro hc
     have h3:=la (hR ((i+j) / 2) x ab h2) hc
     rw[hl]at h3;cases h3
 ·have K9:i=j:=ab
  subst K9
  have AG:k9 cells p=i:=wS hj jz fun h=>zF i (Nat.le_refl _) h
  by_cases hn:(i:Int)<(cells.length:Int)
  ·have fy:i<cells.length:=ab
   have dE:(cells.map ah)[i]? =some (ah (bo cells i)):=gm (l:=cells) fy
   have hd:decide (rN (bo cells i).cC p=0)=decide ((bo cells i).cC=p):=by simp only[CY]
   (repeat(first|((repeat(revert hN;revert N;apply Pn.out));refine wk (tw @h0 (tw @h2 (tw @h4 (tw @h8 (tw @h9 (tw @FI (tw @hg (tw @dF (tw @hn (tw @dE (tw @ah.eq_1 @ao.eq_1))))))))))) ?_;(repeat(refine Pn.mk ?_;intro N hN)))|((try apply Or.inl);refine⟨_,ai.x (jx (bo cells i) p) (sd (tw @h0 (tw @h2 (tw @h4 (tw @h8 (tw @h9 (tw @FI (tw @hg (tw @dF (tw @hn (tw @dE (tw @ah.eq_1 @ao.eq_1)))))))))))),?_⟩;refine hN _ _ ?_;clear hN N)))
   refine iJ (.inl rfl) (r1:=.int .i64 i) (r2:=.bool (decide ((bo cells i).cC=p))) ?_ ?_ ?_
   ·simp only[go_sem, ↓reduceIte,Nat.reduceEqDiff,Nat.reduceAdd,Nat.reduceSub,Nat.reduceLeDiff,reduceCtorEq]
   ·simp only[go_sem, ↓reduceIte,Nat.reduceEqDiff,Nat.reduceAdd,Nat.reduceSub,Nat.reduceLeDiff,reduceCtorEq,hd]
   ·simp only[eJ,bd,bE,dV,eO,Option.map_some,AG,fy,decide_true,Bool.true_and]
  ·have fy:¬i<cells.length:=ab
   (try((repeat(revert hN;revert N;apply Pn.out));refine wk (tw @h0 (tw @h2 (tw @h4 (tw @h8 (tw @h9 (tw @FI (tw @hg (tw @dF (tw @hn (tw @ah.eq_1 @ao.eq_1)))))))))) ?_;(repeat(refine Pn.mk ?_;intro N hN))))
   refine iJ (.inl rfl) (r1:=.int .i64 i) (r2:=.bool false) ?_ ?_ ?_
   ·simp only[go_sem, ↓reduceIte,Nat.reduceEqDiff,Nat.reduceAdd,Nat.reduceSub,Nat.reduceLeDiff,reduceCtorEq]
   ·simp only[go_sem, ↓reduceIte,Nat.reduceEqDiff,Nat.reduceAdd,Nat.reduceSub,Nat.reduceLeDiff,reduceCtorEq]
   ·simp only[eJ,bd,bE,dV,eO,Option.map_some,AG,fy,decide_false,Bool.false_and]
theorem Ec (l:List ak) (p:bI) (hR:xM l) (Ie:l.length<=1048576):ai Tryz.prog 187 [.agg [.sl (l.map ah)],.agg (ao p)] (.int .i64 (fF l p)):=by
 refine ai.body dN rfl fun hl n0=>?_
 clear hl
 rw[wT hR]
 have hb:=uO l p hR Ie
 rw[ao]at hb
 cases hf:(decide (k9 l p<l.length)&&decide ((bo l (k9 l p)).cC=p))
 ·rw[hf]at hb
  (repeat(first|((repeat(revert hN;revert N;apply Pn.out));refine wk @ao.eq_1 ?_;(repeat(refine Pn.mk ?_;intro N hN)))|((try apply Or.inl);refine⟨_,ai.x (hb) (sd @ao.eq_1),?_⟩;refine hN _ _ ?_;clear hN N)))
  exact bq (b:=-1) (.inl rfl) (sd @Nat.zero_add) (by rw[if_neg];intro h;simp[h.1,h.2]at hf)
 ·rw[hf]at hb
  (repeat(first|((repeat(revert hN;revert N;apply Pn.out));refine wk @ao.eq_1 ?_;(repeat(refine Pn.mk ?_;intro N hN)))|((try apply Or.inl);refine⟨_,ai.x (hb) (sd @ao.eq_1),?_⟩;refine hN _ _ ?_;clear hN N)))
  exact bq (b:=(k9 l p:Int)) (.inl rfl) (sd @Nat.zero_add) (by rw[if_pos];simpa using hf)
theorem PF (l:List ak) (p:bI) (hR:xM l) (Ie:l.length<=1048576):ai Tryz.prog 75 [.agg [.sl (l.map ah)],.agg (ao p)] (.int .i64 (xu l p)):=by
 refine ai.body dN rfl fun hl n0=>?_
 clear hl
 have hi:=wT (l:=l) (p:=p) hR
 have hb:=uO l p hR Ie
 rw[ao]at hb
 cases hf:(decide (k9 l p<l.length)&&decide ((bo l (k9 l p)).cC=p))
 ·rw[hf]at hb
  (repeat(first|((repeat(revert hN;revert N;apply Pn.out));refine wk @ao.eq_1 ?_;(repeat(refine Pn.mk ?_;intro N hN)))|((try apply Or.inl);refine⟨_,ai.x (hb) (sd @ao.eq_1),?_⟩;refine hN _ _ ?_;clear hN N)))
  exact bq (b:=-1) (.inl rfl) (sd @Nat.zero_add) (by
   have hx:fF l p= -1:=by rw[hi,if_neg (by intro h;simp[h.1,h.2]at hf)]
   rw[xu,hx];rfl)
 ·rw[hf]at hb
  have hc:k9 l p<l.length/\(bo l (k9 l p)).cC=p:=by simpa using hf
  have hg:=gm hc.1
  (repeat(first|((repeat(revert hN;revert N;apply Pn.out));refine wk (tw @ao.eq_1 (tw @hg @ah.eq_1)) ?_;(repeat(refine Pn.mk ?_;intro N hN)))|((try apply Or.inl);refine⟨_,ai.x (hb) (sd (tw @ao.eq_1 (tw @hg @ah.eq_1))),?_⟩;refine hN _ _ ?_;clear hN N)))
  exact bq (b:=(bo l (k9 l p)).bw) (.inl rfl) (sd @Nat.zero_add) (by
   have hx:fF l p=(k9 l p:Int):=by rw[hi,if_pos hc]
   rw[xu,hx,if_pos ab,Int.toNat_natCast])
theorem s6 (l:List ak) (p:bI) (hR:xM l) (Ie:l.length<=1048576):ai Tryz.prog 67 [.cK [.sl (l.map ah)],.agg (ao p)] (.int .i64 (fF l p)):=by
 refine ai.body dN rfl fun hl n0=>?_
 clear hl
 rw[wT hR]
 (try((repeat(revert hN;revert N;apply Pn.out));refine wk @ao.eq_1 ?_;(repeat(refine Pn.mk ?_;intro N hN))))
 refine aL (fun n env st=>∃i j:Nat,n=j-i/\i<=j/\j<=l.length/\(∀x,x<i->pC (bo l x).cC p=true)/\(∀x,j<=x->x<l.length->pC (bo l x).cC p=false)/\env 5=.int .i64 i/\env 6=.int .i64 j/\st.get ⟨67000000,n0⟩=some ⟨true,2,[ao p]⟩) l.length ⟨0,l.length,ab,ab,ab,fun x h=>ab,fun x h1 h2=>ab,by(simp only[go_sem, ↓reduceIte,Nat.reduceEqDiff,Nat.reduceAdd,Nat.reduceSub,Nat.reduceLeDiff,reduceCtorEq])<;>rfl,sd @Nat.zero_add,sd @ao.eq_1⟩ ?_
 rintro n env st ⟨i,j,rfl,Pa,hj,jz,zF,h5,h6,hg⟩ fr
 have h0:=fr 0 (by kernel_rfl)
 have h3:=fr 3 (by kernel_rfl)
 simp only[go_sem, ↓reduceIte,Nat.reduceEqDiff,Nat.reduceAdd,Nat.reduceSub,Nat.reduceLeDiff,reduceCtorEq]at h0 h3
 clear fr
 by_cases dF:(i:Int)<(j:Int)
 ·have e1:IntKind.i64.wrap ((i:Int)+j)=((i+j:Nat):Int):=by rw[aY ab];rfl
  have hm:(i+j) / 2<l.length:=ab
  have dE:=gm hm
  have e2:IntKind.i64.wrap (((i+j:Nat):Int).tdiv 2)=(((i+j) / 2:Nat):Int):=by
   rw[Int.tdiv_eq_ediv_of_nonneg ab,aY ab];omega
  have e3:=ax (k:=(i+j) / 2) ab
  have hq:=qP (bo l ((i+j) / 2)).cC p
  cases hl:pC (bo l ((i+j) / 2)).cC p
  ·rw[hl]at hq
   (repeat(first|((repeat(revert hN;revert N;apply Pn.out));refine wk (tw @h0 (tw @h3 (tw @h5 (tw @h6 (tw @hg (tw @dF (tw @e1 (tw @e2 (tw @dE (tw @ah.eq_1 @ao.eq_1)))))))))) ?_;(repeat(refine Pn.mk ?_;intro N hN)))|((try apply Or.inl);refine⟨_,ai.x (hq) (sd (tw @h0 (tw @h3 (tw @h5 (tw @h6 (tw @hg (tw @dF (tw @e1 (tw @e2 (tw @dE (tw @ah.eq_1 @ao.eq_1))))))))))),?_⟩;refine hN _ _ ?_;clear hN N)))
   refine⟨_,?_,i,(i+j) / 2,rfl,ab,ab,jz,fun x h1 h2=>?_,sd @h5,sd @e2,sd (tw @hg @ao.eq_1)⟩
   ·omega
   ·by_cases Lu:x=(i+j) / 2
    ·subst Lu;exact hl
    ·rw[Bool.eq_false_iff]
     intro hc
     have h3:=la (hR ((i+j) / 2) x ab h2) hc
     rw[hl]at h3;cases h3
  ·rw[hl]at hq
   (repeat(first|((repeat(revert hN;revert N;apply Pn.out));refine wk (tw @h0 (tw @h3 (tw @h5 (tw @h6 (tw @hg (tw @dF (tw @e1 (tw @e2 (tw @dE (tw @ah.eq_1 @ao.eq_1)))))))))) ?_;(repeat(refine Pn.mk ?_;intro N hN)))|((try apply Or.inl);refine⟨_,ai.x (hq) (sd (tw @h0 (tw @h3 (tw @h5 (tw @h6 (tw @hg (tw @dF (tw @e1 (tw @e2 (tw @dE (tw @ah.eq_1 @ao.eq_1))))))))))),?_⟩;refine hN _ _ ?_;clear hN N)))
   refine⟨_,?_,(i+j) / 2+1,j,rfl,ab,hj,fun x hx=>?_,zF,sd @e3,sd @h6,sd (tw @hg @ao.eq_1)⟩
   ·omega
   ·by_cases Lu:x=(i+j) / 2
    ·subst Lu;exact hl
    ·exact la (hR x _ ab hm) hl
 ·have K9:i=j:=ab
  subst K9
  have AG:k9 l p=i:=wS hj jz fun h=>zF i (Nat.le_refl _) h
  by_cases hn:(i:Int)<(l.length:Int)
  ·have fy:i<l.length:=ab
   have dE:=gm fy
   by_cases hp:(bo l i).cC=p
   ·have hx:decide ((bo l i).cC.ga=p.ga)=true:=decide_eq_true (by rw[hp])
    have hy:decide ((bo l i).cC.fB=p.fB)=true:=decide_eq_true (by rw[hp])
    (try((repeat(revert hN;revert N;apply Pn.out));refine wk (tw @h0 (tw @h3 (tw @h5 (tw @h6 (tw @hg (tw @dF (tw @hn (tw @dE (tw @hx (tw @hy (tw @ah.eq_1 @ao.eq_1))))))))))) ?_;(repeat(refine Pn.mk ?_;intro N hN))))
    exact bq (b:=(i:Int)) (.inl rfl) (sd @Nat.zero_add) (by rw[AG,if_pos ⟨fy,hp⟩])
   ·by_cases hx:(bo l i).cC.ga=p.ga
    ·have oM:decide ((bo l i).cC.ga=p.ga)=true:=decide_eq_true hx
     have hy':decide ((bo l i).cC.fB=p.fB)=false:=decide_eq_false fun h=>hp (LJ hx h)
     (try((repeat(revert hN;revert N;apply Pn.out));refine wk (tw @h0 (tw @h3 (tw @h5 (tw @h6 (tw @hg (tw @dF (tw @hn (tw @dE (tw @oM (tw @hy' (tw @ah.eq_1 @ao.eq_1))))))))))) ?_;(repeat(refine Pn.mk ?_;intro N hN))))
     exact bq (b:=-1) (.inl rfl) (sd @Nat.zero_add) (by rw[AG,if_neg fun h=>hp h.2])
    ·have oM:decide ((bo l i).cC.ga=p.ga)=false:=decide_eq_false hx
     (try((repeat(revert hN;revert N;apply Pn.out));refine wk (tw @h0 (tw @h3 (tw @h5 (tw @h6 (tw @hg (tw @dF (tw @hn (tw @dE (tw @oM (tw @Bool.false_and (tw @ah.eq_1 @ao.eq_1))))))))))) ?_;(repeat(refine Pn.mk ?_;intro N hN))))
     exact bq (b:=-1) (.inl rfl) (sd @Nat.zero_add) (by rw[AG,if_neg fun h=>hp h.2])
  ·have fy:¬i<l.length:=ab
   (try((repeat(revert hN;revert N;apply Pn.out));refine wk (tw @h0 (tw @h3 (tw @h5 (tw @h6 (tw @hg (tw @dF (tw @hn (tw @ah.eq_1 @ao.eq_1)))))))) ?_;(repeat(refine Pn.mk ?_;intro N hN))))
   exact bq (b:=-1) (.inl rfl) (sd @Nat.zero_add) (by rw[AG,if_neg fun h=>fy h.1])
theorem IP (l:List ak) (p:bI) (hR:xM l) (Ie:l.length<=1048576):ai Tryz.prog 37 [.cK [.sl (l.map ah)],.agg (ao p)] (.int .i64 (xu l p)):=by
 refine ai.body dN rfl fun hl n0=>?_
 clear hl
 have hb:=s6 l p hR Ie
 by_cases hi:fF l p<0
 ·rw[ao]at hb
  (repeat(first|((repeat(revert hN;revert N;apply Pn.out));refine wk (tw @ao.eq_1 @hi) ?_;(repeat(refine Pn.mk ?_;intro N hN)))|((try apply Or.inl);refine⟨_,ai.x (hb) (sd (tw @ao.eq_1 @hi)),?_⟩;refine hN _ _ ?_;clear hN N)))
  exact bq (b:=-1) (.inl rfl) (sd @Nat.zero_add) (by rw[xu,if_neg ab])
 ·have h0:0<=fF l p:=ab
  have hg:=gm (sb h0).1
  rw[ao]at hb
  (repeat(first|((repeat(revert hN;revert N;apply Pn.out));refine wk (tw @ao.eq_1 (tw @hi (tw @h0 (tw @hg @ah.eq_1)))) ?_;(repeat(refine Pn.mk ?_;intro N hN)))|((try apply Or.inl);refine⟨_,ai.x (hb) (sd (tw @ao.eq_1 (tw @hi (tw @h0 (tw @hg @ah.eq_1))))),?_⟩;refine hN _ _ ?_;clear hN N)))
  exact bq (b:=(bo l (fF l p).toNat).bw) (.inl rfl) (sd @Nat.zero_add) (by rw[xu,if_pos h0])
def rI (s:aq) (l:List ak):Prop:=jM l/\∀t∈l,fU s t.bw=true
noncomputable def nV (s:aq) (l:List ak):Bool:=m7 l&&l.all fun t=>fU s t.bw
theorem kX {s:aq} {l:List ak}:nV s l=true↔rI s l:=by simp[nV,rI,Dh]
theorem z4:MV ah (fun c=>.agg (ah c)) 3 true:=⟨fun _=>rfl,fun _=>rfl,fun x g=>by simp only[ah,ad,aj,bj,aH,Option.map_some]⟩
theorem D7 (s:aq) (t:ak) (hs:s.ae.length<=1048576):ai Tryz.prog 105 [.agg (ah t),.cK (aa s)] (.bool (!fU s t.bw)):=by
 refine ai.body dN rfl fun hl n0=>?_
 clear hl
 have h:=Gh s t.bw
 rw[aa]at h
 (repeat(first|((repeat(revert hN;revert N;apply Pn.out));refine wk (tw @ah.eq_1 @aa.eq_1) ?_;(repeat(refine Pn.mk ?_;intro N hN)))|((try apply Or.inl);refine⟨_,ai.x (h) (sd (tw @ah.eq_1 @aa.eq_1)),?_⟩;refine hN _ _ ?_;clear hN N)))
 exact aJ (b:= !fU s t.bw) (.inl rfl) (sd @Nat.zero_add) rfl
theorem Jr (s:aq) (l:List ak) (hs:s.ae.length<=1048576) (hl:l.length<=1048576):ai Tryz.prog 104 [.sl (l.map ah),.fn 105 [.cK (aa s)]] (.bool (l.any fun t=> !fU s t.bw)):=
 mV z4 (show lE Tryz.prog 104=some (Av 104 138) by kernel_rfl)
  (show lE Tryz.prog 138=some (s4 138 3 true) by kernel_rfl) l hl _ _ _ rfl (fun g=>by rw[ad,aW,aj];rfl) (fun x _=>D7 s x hs) fun g=>by rw[ad,aW,aj];rfl
theorem HS {α:Type} (p:α->Bool) (l:List α):(!l.any fun t=> !p t)=l.all p:=by
 induction l with
 |nil=>rfl
 |cons x l ih=>simp only[List.any_cons,List.all_cons,<-ih];cases p x<;>simp
theorem l7 (s:aq) (l:List ak) (hn:fC s) (hg:s.ar.length<=1048576) (ht:s.ae.length<=1048576) (hs:∀t∈s.ae,t.aX.length<=1048576) (hl:l.length<=1048576):ai Tryz.prog 73 [.agg (aa s),.agg [.sl (l.map ah)]] (.bool (oU s&&nV s l)):=by
 refine ai.body dN rfl fun hl n0=>?_
 clear hl
 have h1:=zQ s hn hg ht hs
 have h2:=Dk l
 have h3:=Jr s l ht hl
 rw[aa]at h1 h3
 cases b1:oU s
 ·rw[b1]at h1
  (repeat(first|((repeat(revert hN;revert N;apply Pn.out));refine wk @aa.eq_1 ?_;(repeat(refine Pn.mk ?_;intro N hN)))|((try apply Or.inl);refine⟨_,ai.x (h1) (sd @aa.eq_1),?_⟩;refine hN _ _ ?_;clear hN N)))
  exact aJ (b:=false) (.inl rfl) (sd @Nat.zero_add) rfl
 rw[b1]at h1
 cases b2:m7 l
 ·rw[b2]at h2
  (repeat(first|((repeat(revert hN;revert N;apply Pn.out));refine wk @aa.eq_1 ?_;(repeat(refine Pn.mk ?_;intro N hN)))|((try apply Or.inl);refine⟨_,ai.x (h1) (sd @aa.eq_1),?_⟩;refine hN _ _ ?_;clear hN N)|((try apply Or.inl);refine⟨_,ai.x (h2) (sd @aa.eq_1),?_⟩;refine hN _ _ ?_;clear hN N)))
  exact aJ (b:=false) (.inl rfl) (sd @Nat.zero_add) (by rw[nV,b2];rfl)
 rw[b2]at h2
 (repeat(first|((repeat(revert hN;revert N;apply Pn.out));refine wk @aa.eq_1 ?_;(repeat(refine Pn.mk ?_;intro N hN)))|((try apply Or.inl);refine⟨_,ai.x (h1) (sd @aa.eq_1),?_⟩;refine hN _ _ ?_;clear hN N)|((try apply Or.inl);refine⟨_,ai.x (h2) (sd @aa.eq_1),?_⟩;refine hN _ _ ?_;clear hN N)|((try apply Or.inl);refine⟨_,ai.x (h3) (sd @aa.eq_1),?_⟩;refine hN _ _ ?_;clear hN N)))
 exact aJ (b:= !(l.any fun t=> !fU s t.bw)) (.inl rfl) (sd @Nat.zero_add) (by rw[HS,nV,b2];rfl)
theorem Cp (s:aq) (l:List ak):ai Tryz.prog 66 [.cK (aa s),.cK [.sl (l.map ah)]] (.bool (nV s l)):=by
 refine ai.body dN rfl fun hl n0=>?_
 have hlen:l.length<=9223372036854775807:=by
  have h1:=(hl (.cK [.sl (l.map ah)]) (by simp)).vn (a:=.sl (l.map ah)) (by simp)
  simpa using h1.len
 clear hl
 have h2:=DM l
 cases b2:m7 l
 ·rw[b2]at h2
  (repeat(first|((repeat(revert hN;revert N;apply Pn.out));refine wk @Nat.zero_add ?_;(repeat(refine Pn.mk ?_;intro N hN)))|((try apply Or.inl);refine⟨_,ai.x (h2) (sd @Nat.zero_add),?_⟩;refine hN _ _ ?_;clear hN N)))
  exact aJ (b:=false) (.inl rfl) (sd @Nat.zero_add) (by rw[nV,b2];rfl)
 rw[b2]at h2
 (repeat(first|((repeat(revert hN;revert N;apply Pn.out));refine wk @Nat.zero_add ?_;(repeat(refine Pn.mk ?_;intro N hN)))|((try apply Or.inl);refine⟨_,ai.x (h2) (sd @Nat.zero_add),?_⟩;refine hN _ _ ?_;clear hN N)))
 refine aL (fun n env st=>∃k:Nat,n=(l.length)-k/\k<=(l.length)/\env 5=.int .i64 (k:Int)/\(∀j:Nat,j<k->fU s (bo l j).bw=true)) (l.length) ⟨0,ab,ab,sl @Nat.zero_add,fun _ h=>absurd h (Nat.not_lt_zero _)⟩ ?_
 rintro n_a env_a st_a ⟨k,rfl,ale,a5,kj⟩ dC
 have a0:=dC 0 (by kernel_rfl);have a1:=dC 1 (by kernel_rfl)
 simp only[go_sem, ↓reduceIte,Nat.reduceEqDiff,Nat.reduceAdd,Nat.reduceSub,Nat.reduceLeDiff,reduceCtorEq]at a0 a1
 clear dC
 by_cases hk:(k:Int)<(l.length:Int)
 ·have bZ:∀{e:Env},(e 5=.int .i64 (IntKind.i64.wrap ((k:Int)+1)))->(fU s (bo l k).bw=true)->∃m0,m0<(l.length)-k/\∃k:Nat,m0=(l.length)-k/\k<=(l.length)/\e 5=.int .i64 (k:Int)/\(∀j:Nat,j<k->fU s (bo l j).bw=true):=fun x1 x2=>⟨_,ab,k+1,rfl,ab,(by rw[x1,ax ab]),(all_succ kj x2)⟩
  have eY:k<l.length:=ab
  have eB:=gm eY
  have ht:=AW s (bo l k).bw
  cases b3:fU s (bo l k).bw
  ·rw[b3]at ht
   (repeat(first|((repeat(revert hN;revert N;apply Pn.out));refine wk (tw @a5 (tw @a0 (tw @a1 (tw @hk (tw @eB @ah.eq_1))))) ?_;(repeat(refine Pn.mk ?_;intro N hN)))|((try apply Or.inl);refine⟨_,ai.x (ht) (sd (tw @a5 (tw @a0 (tw @a1 (tw @hk (tw @eB @ah.eq_1)))))),?_⟩;refine hN _ _ ?_;clear hN N)))
   exact aJ (b:=false) (.inl rfl) (sd @Nat.zero_add) (by
    have:l.all (fun t=>fU s t.bw)=false:=List.all_eq_false.2 ⟨_,pJ eY,by rw[b3];simp⟩
    rw[nV,this,Bool.and_false])
  ·rw[b3]at ht
   (repeat(first|((repeat(revert hN;revert N;apply Pn.out));refine wk (tw @a5 (tw @a0 (tw @a1 (tw @hk (tw @eB @ah.eq_1))))) ?_;(repeat(refine Pn.mk ?_;intro N hN)))|((try apply Or.inl);refine⟨_,ai.x (ht) (sd (tw @a5 (tw @a0 (tw @a1 (tw @hk (tw @eB @ah.eq_1)))))),?_⟩;refine hN _ _ ?_;clear hN N)))
   exact bZ (sd (tw @a5 (tw @a0 @a1))) (b3)
 ·(try((repeat(revert hN;revert N;apply Pn.out));refine wk (tw @a5 (tw @a0 (tw @a1 @hk))) ?_;(repeat(refine Pn.mk ?_;intro N hN))))
  exact aJ (b:=true) (.inl rfl) (sd @Nat.zero_add) (by
   have:l.all (fun t=>fU s t.bw)=true:=List.all_eq_true.2 fun t ht=>by
    obtain⟨j,hj,rfl⟩:=List.getElem_of_mem ht
    have:=kj j ab
    rwa [jK hj]at this
   rw[nV,b2,this];rfl)
theorem uy (l:List ak) (hF:jM l) (i:Nat) (d:Int) (hi:i<l.length) (hd:gD d 0 3=true):ai Tryz.prog 148 [.cK [.sl (l.map ah)],.int .i64 i,.int .i64 d] (.int .i64 (fF l (ew (bo l i).cC d))):=by
 refine ai.body dN rfl fun hl n0=>?_
 clear hl
 have hg:=gm hi
 have hp:=GM (hF.pt hi)
 have h1:=DI (bo l i).cC d hd hp.1 hp.2
 have h2:=s6 l (ew (bo l i).cC d) hF.Pr (by have:=hF.EH;omega)
 rw[ao]at h1 h2
 (repeat(first|((repeat(revert hN;revert N;apply Pn.out));refine wk (tw @ah.eq_1 (tw @hg @ao.eq_1)) ?_;(repeat(refine Pn.mk ?_;intro N hN)))|((try apply Or.inl);refine⟨_,ai.x (h1) (sd (tw @ah.eq_1 (tw @hg @ao.eq_1))),?_⟩;refine hN _ _ ?_;clear hN N)|((try apply Or.inl);refine⟨_,ai.x (h2) (sd (tw @ah.eq_1 (tw @hg @ao.eq_1))),?_⟩;refine hN _ _ ?_;clear hN N)))
 exact bq (b:=fF l (ew (bo l i).cC d)) (.inl rfl) (sd @Nat.zero_add) rfl
end Go.Proofs.YtihgaadadaekmaaGreatDoor.V
