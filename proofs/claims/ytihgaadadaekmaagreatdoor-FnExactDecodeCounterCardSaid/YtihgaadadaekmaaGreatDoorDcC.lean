/- Slices of one's own that grow from an empty one. -/
import Derived.Test.YtihgaadadaekmaaGreatDoorDcB
import Derived.Test.YtihgaadadaekmaaGreatDoorChecked
import Derived.Test.YtihgaadadaekmaaGreatDoorDcA
set_option linter.unusedVariables false
set_option linter.unusedSimpArgs false
set_option maxRecDepth 100000
set_option maxHeartbeats 16000000
namespace Go.Proofs.YtihgaadadaekmaaGreatDoor.V
open Go.RowKit
variable {P:Program} {X:eW} {K:Env->ax->Prop} {env:Env} {σ:ax}
def lh {α:Type} (enc:α->List AV) (sz:Nat) (x:AV) (g:Rows) (S:Id->Prop) (L:List α):Prop:=∃o:Id,S o/\x=.own o 0 L.length/\g o=some ⟨true,sz,L.map enc⟩
section
variable {α:Type} {enc:α->List AV} {sz:Nat} {x:AV} {g g':Rows} {S:Id->Prop} {L L':List α}
theorem lh.cast (h:lh enc sz x g S L) (hL:L'=L):lh enc sz x g S L':=by subst hL;exact h
theorem lh.frame (h:lh enc sz x g S L) (hg:∀o:Id,S o->g' o=g o):lh enc sz x g' S L:=by
 obtain⟨o,h1,h2,h3⟩:=h
 exact⟨o,h1,h2,(hg o h1).trans h3⟩
theorem lh.app (hz:∀a,(enc a).length=sz/\(enc a).all AV.cell=true) (h:lh enc sz x g S L) (id:Id) (hid:S id) (M:List α) (hlen:L.length+M.length<=dI):
  ∃v g',aZ g id sz x (M.map enc)=some (v,g')/\lh enc sz v g' S (L++M)/\∀j:Id,¬S j->g' j=g j:=by
 obtain⟨o,h1,rfl,h4⟩:=h
 refine⟨.own id 0 (L.length+(M.map enc).length),bI (bU g o) id ⟨true,sz,L.map enc++M.map enc⟩,?_,⟨id,hid,by simp,by simp[bI]⟩,fun j hj=>?_⟩
 ·have ha:=all_map (l:=M) hz
  simp only[aZ,h4,Option.bind_some]
  rw[if_pos ⟨trivial,trivial,by simp,by simpa using hlen,ha⟩]
 ·have e1:¬j=id:=fun h=>hj (h▸hid)
  have e2:¬j=o:=fun h=>hj (h▸h1)
  simp[bI,bU,e1,e2]
theorem LV {draw:Bool} {o:aW} {r:List aW} {x' y:O} {xv:AV} (M:List α) (ho:o.op=.append sz x' y) (hw:aH o.guard env=true) (hx:cu env x'=xv) (hO:lh enc sz xv σ.get S L)
  (hy:br σ.get (cu env y)=some (M.map enc)) (hz:∀a,(enc a).length=sz/\(enc a).all AV.cell=true) (hid:S ⟨o.site,σ.next⟩) (hlen:L.length+M.length<=dI)
  (next:∀v g',lh enc sz v g' S (L++M)->(∀j:Id,¬S j->g' j=σ.get j)->wpOps X draw r K (upd env o.dst v) ⟨g',σ.next⟩):wpOps X draw (o::r) K env σ:=by
 obtain⟨v,g',h1,h2,h3⟩:=hO.app hz ⟨o.site,σ.next⟩ hid M hlen
 unfold wpOps
 rw[if_pos hw]
 unfold fF
 simp only[ho,fR,hy,hx,Option.bind_some,h1]
 exact next v g' h2 h3
theorem lh.fh {n:Nat} (h:lh enc sz x g S L) (he:∀a,du g n (enc a)=some (enc a)):fh g (n+1) x=some (.sl (L.map enc)):=by
 obtain⟨o,_,rfl,h3⟩:=h
 exact eX h3 rfl he
end
theorem dp {a b:Id} (h:a.bZ<b.bZ):(a=b)=False/\(b=a)=False:=by
 constructor<;>(simp only[eq_iff_iff,iff_false];rintro rfl;omega)
theorem wY {o:Id} {a:Nat} (h:o.site=a) {b v:Nat} (qV:(a==b)=false):(o=⟨b,v⟩)=False:=by
 simp only[eq_iff_iff,iff_false]
 rintro rfl
 simp only at h
 subst h
 simp at qV
def eN (n:Nat):List AV:=[.int .i64 n]
theorem fzN (g:Rows) (n:Nat) (a:Nat):bY g (n+1) (eN a)=some (eN a):=by simp[eN,ad,aj,aE]
theorem KC (g:Rows) (n:Nat) (a:Nat):du g (n+1) (eN a)=some (eN a):=by simp[eN,aM,bh,dK]
def Mf:uC (List Nat):=fun g cs x ids=>∃id,cs=[.own id 0 x.length]/\g id=some ⟨true,1,x.map eN⟩/\ids=[id]
theorem Ls:rD Mf 1 where
 frame:=fun⟨id,h1,h2,h3⟩ hf=>by subst h3;exact⟨id,h1,(hf id (by simp)).trans h2,rfl⟩
 len:=fun⟨id,h1,_⟩=>by subst h1;rfl
 cell:=fun⟨id,h1,_⟩=>by subst h1;rfl
 live:=fun⟨id,h1,h2,h3⟩ i hi=>by
  subst h3
  have:i=id:=by simpa using hi
  subst this
  exact⟨_,h2,rfl,by simp[nW]⟩
 small:=by simp[nW]
def xl (l:List Nat):List AV:=[.sl (l.map eN)]
theorem Gg {g:Rows} {rows:List (List AV)} {xs:List (List Nat)} {ids:List Id} (n:Nat) (h:dM Mf g rows xs ids):gh g (n+2) rows=some (xs.map xl):=by
 induction h with
 |nil=>rw[gh];rfl
 |cons h1 _ ih=>
  obtain⟨id,rfl,h2,_⟩:=h1
  rw[gh,ih,aM,bh,eX (e:=eN) (sz:=1) h2 rfl fun a=>KC g n a];rfl
end Go.Proofs.YtihgaadadaekmaaGreatDoor.V

namespace Go.Proofs.YtihgaadadaekmaaGreatDoor.V
open Go.RowKit
attribute [local irreducible] dO wpOps gO Call
attribute [local go_sem] aH fF eF fR fQ cu upd cm K.av cJ AV.cells AV.cell rowOf rowsOf part ld rowAt bI bU dG ei il bJ da eB fW eZ dq ep cY cX dU dV bP bd cQ bL cT cR ek er eo cP bS cZ ej bK aL cV cw ik br cI bQ aZ dz bl dI AV.undef bB bH dY eh dR ea cE eA eE cr ev eu cU cW List.getD_cons_zero List.getD_cons_succ List.getD_nil List.all_cons List.all_nil Bool.and_true Bool.true_and Bool.and_self Bool.not_true Bool.not_false Option.map_some Option.map_none Option.bind_some Option.bind_none List.length_cons List.length_nil List.take_succ_cons List.take_zero List.take_nil List.drop_succ_cons List.drop_zero List.drop_nil List.head?_cons List.map_cons List.map_nil List.getElem?_cons_zero List.getElem?_cons_succ List.cons_append List.nil_append List.append_nil List.length_map List.set_cons_zero List.set_cons_succ Nat.reduceMul eq_self Int.toNat_natCast Int.natCast_nonneg and_self true_and and_true decide_true decide_false Bool.false_eq_true Nat.zero_add Nat.add_zero List.contains_cons List.contains_nil Bool.or_false Bool.false_or beq_self_eq_true Nat.reduceBEq ne_eq not_true_eq_false not_false_eq_true Id.mk.injEq false_and and_false Nat.reduceLT Int.reduceLE Int.reduceLT Int.reduceToNat Int.reduceNeg Int.reduceAdd Nat.le_refl List.length_append beq_true beq_false Bool.not_eq_eq_eq_not or_false false_or dC ad aj aE bz cj aT bj aX bf cK bG
variable {P:Program}
def HD {α:Type} (R:uC α) (x:α) (σ:ax) (r:AV) (σ':ax):Prop:=∃cs ids,r=.agg cs/\R σ'.get cs x ids/\e6 σ.next σ'.next ids/\Kept σ σ'
def gq {α:Type} (R:uC α) (z:Nat) (g:Rows) (a:AV) (xs:List α) (ids:List Id):Prop:=∃o rows is,a=.own o 0 xs.length/\g o=some ⟨true,z,rows⟩/\dM R g rows xs is/\ids=o::is
def HE {α:Type} (R:uC α) (z:Nat) (xs:List α) (σ:ax) (r:AV) (σ':ax):Prop:=∃ids,gq R z σ'.get r xs ids/\e6 σ.next σ'.next ids/\Kept σ σ'
theorem gq.frame {α:Type} {R:uC α} {z:Nat} {g g':Rows} {a:AV} {xs:List α} {ids:List Id} (ok:rD R z) (h:gq R z g a xs ids) (hf:∀i∈ids,g' i=g i):gq R z g' a xs ids:=by
 obtain⟨o,rows,is,h1,h2,h3,rfl⟩:=h
 exact⟨o,rows,is,h1,(hf o (by simp)).trans h2,h3.frame ok fun i hi=>hf i (by simp[hi]),rfl⟩
theorem gq.fz {α:Type} {R:uC α} {z n:Nat} {e:α->List AV} {g:Rows} {a:AV} {xs:List α} {ids:List Id} (h:gq R z g a xs ids) (hz:∀{cs x ids},R g cs x ids->bY (dC g) n cs=some (e x)):V.fz (dC g) (n+1) a=some (.sl (xs.map e)):=by
 obtain⟨o,rows,is,rfl,h2,h3,rfl⟩:=h
 rw[gi]
 simp only[dC,h2,Option.map_some,if_true]
 rw[if_pos (by rw[h3.len];omega),List.drop_zero,List.take_of_length_le (by rw[h3.len];exact Nat.le_refl _),h3.fz hz];rfl
def kh {α:Type} (e:α->List AV):uC α:=fun _ cs x ids=>cs=e x/\ids=[]
theorem Fz {α:Type} {e:α->List AV} {z:Nat} (hz:∀x,(e x).length=z) (hc:∀x,(e x).all AV.cell=true) (hs:z<nW):rD (kh e) z where
 frame:=fun h _=>h
 len:=fun h=>by rw[h.1];exact hz _
 cell:=fun h=>by rw[h.1];exact hc _
 live:=fun h i hi=>by rw[h.2]at hi;cases hi
 small:=hs
def mC:uC ef:=fun g cs t ids=>∃i,cs=[.str t.aB,.own i 0 t.aY.length]/\g i=some ⟨true,1,t.aY.map au⟩/\ids=[i]
theorem oQ:rD mC 2 where
 frame:=fun⟨i,h1,h2,h3⟩ hf=>⟨i,h1,(hf i (by rw[h3];simp)).trans h2,h3⟩
 len:=fun⟨i,h1,_⟩=>by rw[h1];rfl
 cell:=fun⟨i,h1,_⟩=>by rw[h1];rfl
 live:=fun⟨i,h1,h2,h3⟩ j hj=>by
  rw[h3]at hj
  have:j=i:=by simpa using hj
  subst this
  exact⟨_,h2,rfl,by simp[nW]⟩
 small:=by simp[nW]
theorem Jd {g:Rows} {cs:List AV} {t:ef} {ids:List Id} (n:Nat) (h:mC g cs t ids):bY (dC g) (n+2) cs=some (aU t):=by
 obtain⟨i,rfl,h2,_⟩:=h
 have h3:V.fz (dC g) (n+2) (.own i 0 t.aY.length)=some (.sl (t.aY.map au)):=fw (e:=au) (sz:=1) (by simp[dC,h2]) rfl fun x=>by simp[au,ad,aj,aE]
 simp only[ad,aj,bz,h3,Option.map_some,aU]
theorem I8 {α:Type} {a b:List α} {x y:α} {k:Nat} (hk:a.length=k):(a++x::b).set k y=a++[y]++b:=by subst hk;simp
theorem xc {α:Type} {R:uC α} {en:α->List AV} {z fk gk:Nat} {zero:List K} (ok:rD R z) (hc:lr P fk=some (rq fk gk z zero)) (EP:zero.length=z) (hz:∀x,(en x).length=z) (xs:List α) (hlen:xs.length<=1048576)
  (hg:∀x∈xs,∀σ,Call P gk [.agg (en x)] σ (HD R x σ)) (σ:ax):Call P fk [.sl (xs.map en)] σ (HE R z xs σ):=by
 refine fm hc rfl fun hl=>?_
 try simp only[q]
 clear hl
 have hm:(xs.length:Int)<=((16777216:Nat):Int):=ab
 have h0:(0:Int)<=(xs.length:Int):=ab
 (try((repeat(revert hN;revert N;apply Pn.out));refine wk (tw @hm (tw @h0 (tw @Int.le_refl @EP))) ?_;(repeat(refine Pn.mk ?_;intro N hN))))
 refine aJ (fun n env st=>∃k:Nat,n=(xs.length)-k/\k<=(xs.length)/\env 4=.int .i64 (k:Int)/\(σ.next+2<=st.next/\(∀y:Id,y.bZ<σ.next->st.get y=σ.get y)/\∃rows is,st.get ⟨fk*1000000+1002,σ.next+1⟩=some ⟨true,z,rows++List.replicate (xs.length-k) (zero.map K.av)⟩/\dM R st.get rows (xs.take k) is/\e6 (σ.next+2) st.next is)) (xs.length) ⟨0,ab,ab,sl @Nat.zero_add,by(try dsimp only);exact⟨ab,fun y hy=>by
  have h1:=eK hy
  simp only[go_sem, ↓reduceIte,Nat.reduceEqDiff,Nat.reduceAdd,Nat.reduceSub,Nat.reduceLeDiff,reduceCtorEq,h1],[],[],sl @Nat.zero_add,.nil,List.nodup_nil,fun i hi=>by cases hi⟩⟩ ?_
 rintro n_a env_a st_a ⟨k,rfl,ale,a4,l7⟩ dE
 have a0:=dE 0 (by kernel_rfl);have a3:=dE 3 (by kernel_rfl)
 simp only[go_sem, ↓reduceIte,Nat.reduceEqDiff,Nat.reduceAdd,Nat.reduceSub,Nat.reduceLeDiff,reduceCtorEq]at a0 a3
 clear dE
 obtain⟨an,aK,rows,is,ag,aR,aN⟩:=l7
 have pZ:rows.length=k:=by rw[aR.len,List.length_take];omega
 by_cases hk:(k:Int)<(xs.length:Int)
 ·have cl:∀{e:Env} {gg:Rows} {nx:Nat},(e 4=.int .i64 (IntKind.i64.wrap ((k:Int)+1)))->(σ.next+2<=nx/\(∀y:Id,y.bZ<σ.next->gg y=σ.get y)/\∃rows is,gg ⟨fk*1000000+1002,σ.next+1⟩=some ⟨true,z,rows++List.replicate (xs.length-(k+1)) (zero.map K.av)⟩/\dM R gg rows (xs.take (k+1)) is/\e6 (σ.next+2) nx is)->∃m0,m0<(xs.length)-k/\∃k:Nat,m0=(xs.length)-k/\k<=(xs.length)/\e 4=.int .i64 (k:Int)/\(σ.next+2<=nx/\(∀y:Id,y.bZ<σ.next->gg y=σ.get y)/\∃rows is,gg ⟨fk*1000000+1002,σ.next+1⟩=some ⟨true,z,rows++List.replicate (xs.length-k) (zero.map K.av)⟩/\dM R gg rows (xs.take k) is/\e6 (σ.next+2) nx is):=fun x1 x2=>⟨_,ab,k+1,rfl,ab,(by rw[x1,aA ab]),x2⟩
  have eO:k<xs.length:=ab
  have eC:(xs.map en)[k]? =some (en xs[k]):=by simp[eO]
  have qZ:=hz xs[k]
  have ht:(en xs[k]).take z=en xs[k]:=by rw[<-qZ,List.take_length]
  have gu:=hg _ (List.getElem_mem eO)
  obtain⟨m,JI⟩:∃m,xs.length-k=m+1:=⟨xs.length-k-1,ab⟩
  rw[JI,List.replicate_succ]at ag
  generalize hex:en xs[k]=c at gu eC qZ ht
  (try((repeat(revert hN;revert N;apply Pn.out));refine wk (tw @a4 (tw @a0 (tw @a3 (tw @hk (tw @eC (tw @qZ (tw @ht @Nat.le_refl))))))) ?_;(repeat(refine Pn.mk ?_;intro N hN))))
  refine .inr (aO _ _ _ _ _ (fun r σ1 hq=>?_) (gu _))
  obtain⟨cs,ids,rfl,hR,hI,hK⟩:=hq
  obtain⟨g1,x1⟩:=σ1
  (try dsimp only at hR hI hK)
  have xr:=(hK.2 ⟨fk*1000000+1002,σ.next+1⟩ bD)
  simp only[go_sem, ↓reduceIte,Nat.reduceEqDiff,Nat.reduceAdd,Nat.reduceSub,Nat.reduceLeDiff,reduceCtorEq,ag]at xr
  have kB:=ok.len hR
  have wu:=ok.cell hR
  have dW:(rows++zero.map K.av::List.replicate m (zero.map K.av))[k]? =some (zero.map K.av):=by rw[List.getElem?_append_right ab,pZ,Nat.sub_self];rfl
  have dQ:(rows++zero.map K.av::List.replicate m (zero.map K.av)).set k cs=rows++[cs]++List.replicate m (zero.map K.av):=I8 pZ
  have FK:(zero.map K.av).drop z=[]:=List.drop_of_length_le (by simp[EP])
  have r6:(rows++zero.map K.av::List.replicate m (zero.map K.av)).length=xs.length:=by simp[pZ];omega
  refine hN _ _ ?_
  clear hN N
  (try((repeat(revert hN;revert N;apply Pn.out));refine wk (tw @a4 (tw @a0 (tw @a3 (tw @hk (tw @xr (tw @dW (tw @dQ (tw @r6 (tw @FK (tw @sr (tw @kB (tw @wu (tw @Nat.le_refl @EP))))))))))))) ?_;(repeat(refine Pn.mk ?_;intro N hN))))
  have uj:=hK.1
  have Hl:∀i∈is,(i=⟨fk*1000000+1002,σ.next+1⟩)=False:=fun i hi=>eq_false fun e=>by
   have:=(aN.2 i hi).1
   subst e;(try dsimp only at this);omega
  have yz:∀i∈ids,(i=⟨fk*1000000+1002,σ.next+1⟩)=False:=fun i hi=>eq_false fun e=>by
   have:=(hI.2 i hi).1
   subst e;(try dsimp only at this);omega
  exact cl (sd (tw @a4 (tw @a0 @a3))) (by(try dsimp only at *);exact⟨ab,fun y hy=>by
   have h1:=eK hy
   have h2:=hK.2 y bD
   have h3:=aK y hy
   simp only[go_sem, ↓reduceIte,Nat.reduceEqDiff,Nat.reduceAdd,Nat.reduceSub,Nat.reduceLeDiff,reduceCtorEq]at h2
   simp only[go_sem, ↓reduceIte,Nat.reduceEqDiff,Nat.reduceAdd,Nat.reduceSub,Nat.reduceLeDiff,reduceCtorEq,h1,h2,h3],rows++[cs],is++ids,by
    rw[show xs.length-(k+1)=m by omega]
    simp only[go_sem, ↓reduceIte,Nat.reduceEqDiff,Nat.reduceAdd,Nat.reduceSub,Nat.reduceLeDiff,reduceCtorEq]<;>rfl,by
    rw[List.take_succ_eq_append_getElem eO]
    refine((aR.frame ok fun i hi=>?_).app (.one (ok.frame hR fun i hi=>?_)))
    ·have h1:=Hl i hi
     have h2:=hK.2 i (by(try dsimp only);have:=(aN.2 i hi).2;omega)
     simp only[go_sem, ↓reduceIte,Nat.reduceEqDiff,Nat.reduceAdd,Nat.reduceSub,Nat.reduceLeDiff,reduceCtorEq]at h2
     simp only[go_sem, ↓reduceIte,Nat.reduceEqDiff,Nat.reduceAdd,Nat.reduceSub,Nat.reduceLeDiff,reduceCtorEq,h1,h2]
    ·have h1:=yz i hi
     simp only[go_sem, ↓reduceIte,Nat.reduceEqDiff,Nat.reduceAdd,Nat.reduceSub,Nat.reduceLeDiff,reduceCtorEq,h1],(aN.app hI bD ab bD).wide (Nat.le_refl _) bD⟩)
 ·(try((repeat(revert hN;revert N;apply Pn.out));refine wk (tw @a4 (tw @a0 (tw @a3 @hk))) ?_;(repeat(refine Pn.mk ?_;intro N hN))))
  have eO:k=xs.length:=ab
  subst eO
  rw[Nat.sub_self,List.replicate_zero,List.append_nil]at ag
  rw[List.take_length]at aR
  refine gy (.inl rfl) (vs:=[.own ⟨fk*1000000+1002,σ.next+1⟩ 0 xs.length]) (sd (tw @a4 (tw @a0 @a3))) ?_
  exact⟨_,⟨_,rows,is,rfl,ag,aR,rfl⟩,⟨List.nodup_cons.2 ⟨fun hi=>by have:=(aN.2 _ hi).1;(try dsimp only at this);omega,aN.1⟩,fun i hi=>by
   rcases List.mem_cons.1 hi with rfl|hi
   ·(try dsimp only);omega
   ·have:=aN.2 i hi;(try dsimp only);omega⟩,⟨bD,fun j hj=>aK j hj⟩⟩
end Go.Proofs.YtihgaadadaekmaaGreatDoor.V

namespace Go.Proofs.YtihgaadadaekmaaGreatDoor.V
open Go.RowKit
attribute [local irreducible] dO wpOps gO Call
attribute [local go_sem] aH fF eF fR fQ cu upd cm K.av cJ AV.cells AV.cell rowOf rowsOf part ld rowAt bI bU dG ei il bJ da eB fW eZ dq ep cY cX dU dV bP bd cQ bL cT cR ek er eo cP bS cZ ej bK aL cV cw ik br cI bQ aZ dz bl dI AV.undef bB bH dY eh dR ea cE eA eE cr ev eu cU cW List.getD_cons_zero List.getD_cons_succ List.getD_nil List.all_cons List.all_nil Bool.and_true Bool.true_and Bool.and_self Bool.not_true Bool.not_false Option.map_some Option.map_none Option.bind_some Option.bind_none List.length_cons List.length_nil List.take_succ_cons List.take_zero List.take_nil List.drop_succ_cons List.drop_zero List.drop_nil List.head?_cons List.map_cons List.map_nil List.getElem?_cons_zero List.getElem?_cons_succ List.cons_append List.nil_append List.append_nil List.length_map List.set_cons_zero List.set_cons_succ Nat.reduceMul eq_self Int.toNat_natCast Int.natCast_nonneg and_self true_and and_true decide_true decide_false Bool.false_eq_true Nat.zero_add Nat.add_zero List.contains_cons List.contains_nil Bool.or_false Bool.false_or beq_self_eq_true Nat.reduceBEq ne_eq not_true_eq_false not_false_eq_true Id.mk.injEq false_and and_false Nat.reduceLT Int.reduceLE Int.reduceLT Int.reduceToNat Int.reduceNeg Int.reduceAdd Nat.le_refl List.length_append beq_true beq_false Bool.not_eq_eq_eq_not or_false false_or dC ad aj aE bz cj aT bj aX bf cK bG
theorem gq.jQ {α:Type} {R:uC α} {z:Nat} {g:Rows} {a:AV} {xs:List α} {ids:List Id} (h:gq R z g a xs ids):∃o,a=.own o 0 xs.length:=by
 obtain⟨o,rows,is,rfl,_⟩:=h;exact⟨o,rfl⟩
theorem G2 (xs:List Int) (hlen:xs.length<=1048576) (σ:ax):Call Tryz.prog 86 [.sl (xs.map au)] σ (fun r σ'=>∃i,r=.own i 0 xs.length/\σ'.get i=some ⟨true,1,xs.map au⟩/\e6 σ.next σ'.next [i]/\Kept σ σ'):=by
 refine fm (show lr Tryz.prog 86=some (G4 86 (.int .i64 0)) by kernel_rfl) rfl fun hl=>?_
 try simp only[q]
 clear hl
 obtain⟨en,Ho⟩:∃en:Int->List AV,en=au:=⟨_,rfl⟩
 rw[<-Ho]
 have hm:(xs.length:Int)<=((16777216:Nat):Int):=ab
 have h0:(0:Int)<=(xs.length:Int):=ab
 (try((repeat(revert hN;revert N;apply Pn.out));refine wk (tw @hm (tw @h0 (tw @Int.le_refl (mN en [AV.int .i64 0] xs)))) ?_;(repeat(refine Pn.mk ?_;intro N hN))))
 refine aJ (fun n env st=>∃k:Nat,n=(xs.length)-k/\k<=(xs.length)/\env 4=.int .i64 (k:Int)/\st.get ⟨86*1000000+1002,σ.next+1⟩=some ⟨true,1,fJ en [AV.int .i64 0] xs k⟩/\(σ.next+2<=st.next/\∀y:Id,y.bZ<σ.next->st.get y=σ.get y)) (xs.length) ⟨0,ab,ab,sl @Nat.zero_add,sl @Nat.zero_add,by(try dsimp only);exact⟨ab,fun y hy=>by
  have h1:=eK hy
  simp only[go_sem, ↓reduceIte,Nat.reduceEqDiff,Nat.reduceAdd,Nat.reduceSub,Nat.reduceLeDiff,reduceCtorEq,h1]⟩⟩ ?_
 rintro n_a env_a st_a ⟨k,rfl,ale,a4,ag0,l7⟩ dE
 have a0:=dE 0 (by kernel_rfl);have a3:=dE 3 (by kernel_rfl)
 simp only[go_sem, ↓reduceIte,Nat.reduceEqDiff,Nat.reduceAdd,Nat.reduceSub,Nat.reduceLeDiff,reduceCtorEq]at a0 a3
 clear dE
 obtain⟨an,aK⟩:=l7
 by_cases hk:(k:Int)<(xs.length:Int)
 ·have cl:∀{e:Env} {gg:Rows} {nx:Nat},(e 4=.int .i64 (IntKind.i64.wrap ((k:Int)+1)))->(gg ⟨86*1000000+1002,σ.next+1⟩=some ⟨true,1,fJ en [AV.int .i64 0] xs (k+1)⟩)->(σ.next+2<=nx/\∀y:Id,y.bZ<σ.next->gg y=σ.get y)->∃m0,m0<(xs.length)-k/\∃k:Nat,m0=(xs.length)-k/\k<=(xs.length)/\e 4=.int .i64 (k:Int)/\gg ⟨86*1000000+1002,σ.next+1⟩=some ⟨true,1,fJ en [AV.int .i64 0] xs k⟩/\(σ.next+2<=nx/\∀y:Id,y.bZ<σ.next->gg y=σ.get y):=fun x1 x2 x3=>⟨_,ab,k+1,rfl,ab,(by rw[x1,aA ab]),x2,x3⟩
  have eO:k<xs.length:=ab
  have eC:(xs.map en)[k]? =some [AV.int .i64 xs[k]]:=by simp[eO,Ho,au]
  have e9:=oz en [AV.int .i64 0] xs eO
  have dQ:=oA en [AV.int .i64 0] xs eO
  rw[show en xs[k]=[AV.int .i64 xs[k]] by rw[Ho];rfl]at dQ
  (try((repeat(revert hN;revert N;apply Pn.out));refine wk (tw @a4 (tw @ag0 (tw @a0 (tw @a3 (tw @hk (tw @eC (tw @e9 @dQ))))))) ?_;(repeat(refine Pn.mk ?_;intro N hN))))
  refine cl ?_ ?_ (by(try dsimp only);exact⟨ab,fun y hy=>by
   have h1:=eK hy
   have h3:=aK y hy
   simp only[go_sem, ↓reduceIte,Nat.reduceEqDiff,Nat.reduceAdd,Nat.reduceSub,Nat.reduceLeDiff,reduceCtorEq,h1,h3]⟩)
  all_goals simp only[go_sem, ↓reduceIte,Nat.reduceEqDiff,Nat.reduceAdd,Nat.reduceSub,Nat.reduceLeDiff,reduceCtorEq,a4,ag0,a0,a3]
 ·(try((repeat(revert hN;revert N;apply Pn.out));refine wk (tw @a4 (tw @ag0 (tw @a0 (tw @a3 @hk)))) ?_;(repeat(refine Pn.mk ?_;intro N hN))))
  have eO:k=xs.length:=ab
  subst eO
  refine gy (.inl rfl) (vs:=[.own ⟨86*1000000+1002,σ.next+1⟩ 0 xs.length]) (sd (tw @a4 (tw @ag0 (tw @a0 @a3)))) ?_
  rw[oy]at ag0
  exact⟨_,rfl,ag0,⟨List.nodup_cons.2 ⟨by simp,List.nodup_nil⟩,fun i hi=>by
   rw[List.mem_singleton.1 hi];(try dsimp only);omega⟩,⟨bD,fun j hj=>aK j hj⟩⟩
theorem G5 (p:ef) (hs:p7 p) (σ:ax):Call Tryz.prog 99 [.agg (aU p)] σ (HD mC p σ):=by
 refine fm dP rfl fun hl=>?_
 clear hl
 (try((repeat(revert hN;revert N;apply Pn.out));refine wk @aU.eq_1 ?_;(repeat(refine Pn.mk ?_;intro N hN))))
 refine .inr (aO _ _ _ _ _ (fun r σ1 hq=>?_) (G2 p.aY hs _))
 obtain⟨i,rfl,hg,hI,hK⟩:=hq
 obtain⟨g1,x1⟩:=σ1
 (try dsimp only at hg hI hK)
 have hn:=hK.1
 refine hN _ _ ?_
 clear hN N
 have hi:=hI.2 i (by simp)
 have k2:=hK.2 ⟨99000001,σ.next⟩ bD
 have k3:=hK.2 ⟨99001000,σ.next+1⟩ bD
 simp only[go_sem, ↓reduceIte,Nat.reduceEqDiff,Nat.reduceAdd,Nat.reduceSub,Nat.reduceLeDiff,reduceCtorEq]at k2 k3
 (try((repeat(revert hN;revert N;apply Pn.out));refine wk (tw @aU.eq_1 (tw @k2 @k3)) ?_;(repeat(refine Pn.mk ?_;intro N hN))))
 refine gy (.inl rfl) (vs:=[.agg [.str p.aB,.own i 0 p.aY.length]]) (sd @Nat.zero_add) ?_
 refine⟨_,[i],rfl,⟨i,rfl,?_,rfl⟩,⟨hI.1,fun j hj=>?_⟩,⟨?_,fun j hj=>?_⟩⟩
 ·have i2:=dp (b:=i) (a:=⟨99000001,σ.next⟩) (by(try dsimp only at *);omega)
  have i3:=dp (b:=i) (a:=⟨99001000,σ.next+1⟩) (by(try dsimp only at *);omega)
  simp only[go_sem, ↓reduceIte,Nat.reduceEqDiff,Nat.reduceAdd,Nat.reduceSub,Nat.reduceLeDiff,reduceCtorEq,i2,i3,hg]
 ·rw[List.mem_singleton.1 hj]
  (try dsimp only at *);omega
 ·(try dsimp only at *);omega
 ·have h2:=hK.2 j bD
  have h1:=eK hj
  simp only[go_sem, ↓reduceIte,Nat.reduceEqDiff,Nat.reduceAdd,Nat.reduceSub,Nat.reduceLeDiff,reduceCtorEq,h1]at h2
  simp only[go_sem, ↓reduceIte,Nat.reduceEqDiff,Nat.reduceAdd,Nat.reduceSub,Nat.reduceLeDiff,reduceCtorEq,h1,h2]
theorem yj:rD (kh aV) 2:=Fz (fun _=>rfl) (fun _=>rfl) (by simp[nW])
theorem uR:rD (kh ah) 3:=Fz (fun _=>rfl) (fun _=>rfl) (by simp[nW])
theorem G0 (p:eS) (σ:ax):Call Tryz.prog 98 [.agg (aV p)] σ (HD (kh aV) p σ):=by
 refine fm dP rfl fun hl=>?_
 clear hl
 (try((repeat(revert hN;revert N;apply Pn.out));refine wk @aV.eq_1 ?_;(repeat(refine Pn.mk ?_;intro N hN))))
 refine gy (.inl rfl) (vs:=[.agg (aV p)]) (sd @aV.eq_1) ?_
 exact⟨_,[],rfl,⟨rfl,rfl⟩,⟨List.nodup_nil,fun i hi=>by cases hi⟩,⟨bD,fun j hj=>by
  have h1:=eK hj
  simp only[go_sem, ↓reduceIte,Nat.reduceEqDiff,Nat.reduceAdd,Nat.reduceSub,Nat.reduceLeDiff,reduceCtorEq,h1]⟩⟩
theorem BC (p:ak) (σ:ax):Call Tryz.prog 71 [.agg (ah p)] σ (HD (kh ah) p σ):=by
 refine fm dP rfl fun hl=>?_
 clear hl
 have h:=vJ p.cz
 rw[ao]at h
 (repeat(first|((repeat(revert hN;revert N;apply Pn.out));refine wk @ah.eq_1 ?_;(repeat(refine Pn.mk ?_;intro N hN)))|((try apply Or.inl);refine⟨_,jy.x (h) _,?_⟩;refine hN _ _ ?_;clear hN N)))
 refine gy (.inl rfl) (vs:=[.agg (ah p)]) (sd @ah.eq_1) ?_
 exact⟨_,[],rfl,⟨rfl,rfl⟩,⟨List.nodup_nil,fun i hi=>by cases hi⟩,⟨bD,fun j hj=>by
  have h1:=eK hj
  simp only[go_sem, ↓reduceIte,Nat.reduceEqDiff,Nat.reduceAdd,Nat.reduceSub,Nat.reduceLeDiff,reduceCtorEq,h1]⟩⟩
theorem Et (xs:List eS) (h:xs.length<=1048576) (σ:ax):Call Tryz.prog 69 [.sl (xs.map aV)] σ (HE (kh aV) 2 xs σ):=
 xc yj (show lr Tryz.prog 69=some (rq 69 98 2 [.str [],.int .i64 0]) by kernel_rfl) rfl (fun _=>rfl) xs h (fun x _ σ=>G0 x σ) σ
theorem Ev (xs:List ef) (h:xs.length<=1048576) (hs:∀t∈xs,p7 t) (σ:ax):Call Tryz.prog 70 [.sl (xs.map aU)] σ (HE mC 2 xs σ):=
 xc oQ (show lr Tryz.prog 70=some (rq 70 99 2 [.str [],.bE]) by kernel_rfl) rfl (fun _=>rfl) xs h (fun x hx σ=>G5 x (hs x hx) σ) σ
theorem zp (xs:List ak) (h:xs.length<=1048576) (σ:ax):Call Tryz.prog 40 [.sl (xs.map ah)] σ (HE (kh ah) 3 xs σ):=
 xc uR (show lr Tryz.prog 40=some (rq 40 71 3 [.int .i64 0,.int .i64 0,.int .i64 0]) by kernel_rfl) rfl (fun _=>rfl) xs h (fun x _ σ=>BC x σ) σ
def vL (g:Rows) (v:AV) (a:dd) (ids:List Id):Prop:=∃x,v=.agg [x]/\gq (kh ah) 3 g x a.ae ids
structure xE (g:Rows) (v:AV) (s:bV) (ids:List Id):Prop where
 ex:∃a b c i1 i2 i3,v=.agg [a,b,c,.int .i64 s.aG]/\gq (kh aV) 2 g a s.ar.aw i1/\gq mC 2 g b s.ar.ae i2/\gq (kh ah) 3 g c s.bR.ae i3/\ids=i1++(i2++i3)
theorem vL.frame {g g':Rows} {v:AV} {a:dd} {ids:List Id} (h:vL g v a ids) (hf:∀i∈ids,g' i=g i):vL g' v a ids:=by
 obtain⟨x,h1,h2⟩:=h
 exact⟨x,h1,h2.frame uR hf⟩
theorem xE.frame {g g':Rows} {v:AV} {s:bV} {ids:List Id} (h:xE g v s ids) (hf:∀i∈ids,g' i=g i):xE g' v s ids:=by
 obtain⟨a,b,c,i1,i2,i3,h1,h2,h3,h4,rfl⟩:=h.ex
 exact⟨a,b,c,i1,i2,i3,h1,h2.frame yj fun i hi=>hf i (by simp[hi]),h3.frame oQ fun i hi=>hf i (by simp[hi]),h4.frame uR fun i hi=>hf i (by simp[hi]),rfl⟩
theorem vL.fz {g:Rows} {v:AV} {a:dd} {ids:List Id} (n:Nat) (h:vL g v a ids):V.fz (dC g) (n+4) v=some (.agg (aC a)):=by
 obtain⟨x,rfl,h2⟩:=h
 have h3:=h2.fz (n:=n+2) (e:=ah) fun hc=>by rw[hc.1];simp[ah,ad,aj,aE]
 simp only[bj,ad,aj,h3,Option.map_some,aC]
theorem xE.fz {g:Rows} {v:AV} {s:bV} {ids:List Id} (n:Nat) (h:xE g v s ids):V.fz (dC g) (n+5) v=some (.agg (az s)):=by
 obtain⟨a,b,c,i1,i2,i3,rfl,h2,h3,h4,rfl⟩:=h.ex
 have q1:=h2.fz (n:=n+3) (e:=aV) fun hc=>by rw[hc.1];simp[aV,ad,aj,aE,bz]
 have q2:=h3.fz (n:=n+3) (e:=aU) fun hc=>Jd (n+1) hc
 have q3:=h4.fz (n:=n+3) (e:=ah) fun hc=>by rw[hc.1];simp[ah,ad,aj,aE]
 simp only[bj,ad,aj,q1,q2,q3,aE,Option.map_some,az]
theorem pR (p:dd) (hs:p.ae.length<=1048576) (σ:ax):Call Tryz.prog 11 [.agg (aC p)] σ (fun r σ'=>∃ids,vL σ'.get r p ids/\e6 σ.next σ'.next ids/\Kept σ σ'):=by
 refine fm dP rfl fun hl=>?_
 clear hl
 (try((repeat(revert hN;revert N;apply Pn.out));refine wk @aC.eq_1 ?_;(repeat(refine Pn.mk ?_;intro N hN))))
 refine .inr (aO _ _ _ _ _ (fun r σ1 hq=>?_) (zp p.ae hs _))
 obtain⟨ids,hR,hI,hK⟩:=hq
 obtain⟨g1,x1⟩:=σ1
 (try dsimp only at hR hI hK)
 have hn:=hK.1
 obtain⟨o,rows,is,rfl,hg,Qe,rfl⟩:=hR
 refine hN _ _ ?_
 clear hN N
 have k2:=hK.2 ⟨11000001,σ.next⟩ bD
 have k3:=hK.2 ⟨11001000,σ.next+1⟩ bD
 simp only[go_sem, ↓reduceIte,Nat.reduceEqDiff,Nat.reduceAdd,Nat.reduceSub,Nat.reduceLeDiff,reduceCtorEq]at k2 k3
 (try((repeat(revert hN;revert N;apply Pn.out));refine wk (tw @aC.eq_1 (tw @k2 @k3)) ?_;(repeat(refine Pn.mk ?_;intro N hN))))
 refine gy (.inl rfl) (vs:=[.agg [.own o 0 p.ae.length]]) (sd @Nat.zero_add) ?_
 have hb:=hI.2
 (try dsimp only at hb hn)
 refine⟨_,⟨_,rfl,gq.frame uR ⟨o,rows,is,rfl,hg,Qe,rfl⟩ fun j hj=>?_⟩,⟨hI.1,fun j hj=>?_⟩,⟨?_,fun j hj=>?_⟩⟩
 ·have hj2:=hb j hj
  have i2:=dp (b:=j) (a:=⟨11000001,σ.next⟩) bD
  have i3:=dp (b:=j) (a:=⟨11001000,σ.next+1⟩) bD
  simp only[go_sem, ↓reduceIte,Nat.reduceEqDiff,Nat.reduceAdd,Nat.reduceSub,Nat.reduceLeDiff,reduceCtorEq,i2,i3]
 ·have:=hb j hj
  (try dsimp only);omega
 ·(try dsimp only);omega
 ·have h2:=hK.2 j bD
  have h1:=eK hj
  simp only[go_sem, ↓reduceIte,Nat.reduceEqDiff,Nat.reduceAdd,Nat.reduceSub,Nat.reduceLeDiff,reduceCtorEq,h1]at h2
  simp only[go_sem, ↓reduceIte,Nat.reduceEqDiff,Nat.reduceAdd,Nat.reduceSub,Nat.reduceLeDiff,reduceCtorEq,h1,h2]
theorem zr (p:aq) (hs:E3 p) (σ:ax):Call Tryz.prog 39 [.agg (aa p)] σ (fun r σ'=>∃a b i1 i2,r=.agg [a,b]/\gq (kh aV) 2 σ'.get a p.aw i1/\gq mC 2 σ'.get b p.ae i2/\e6 σ.next σ'.next (i1++i2)/\Kept σ σ'):=by
 refine fm dP rfl fun hl=>?_
 clear hl
 (try((repeat(revert hN;revert N;apply Pn.out));refine wk @aa.eq_1 ?_;(repeat(refine Pn.mk ?_;intro N hN))))
 refine .inr (aO _ _ _ _ _ (fun r σ1 hq=>?_) (Et p.aw hs.g _))
 obtain⟨i1,hR,hI,hK⟩:=hq
 obtain⟨g1,x1⟩:=σ1
 (try dsimp only at hR hI hK)
 have hn:=hK.1
 obtain⟨o,rows,is,rfl,hg,Qe,rfl⟩:=hR
 have hb:=hI.2
 (try dsimp only at hb hn)
 refine hN _ _ ?_
 clear hN N
 have k1:=hK.2 ⟨39000000,σ.next⟩ bD
 have k2:=hK.2 ⟨39000001,σ.next⟩ bD
 have k3:=hK.2 ⟨39001000,σ.next+1⟩ bD
 simp only[go_sem, ↓reduceIte,Nat.reduceEqDiff,Nat.reduceAdd,Nat.reduceSub,Nat.reduceLeDiff,reduceCtorEq]at k1 k2 k3
 (try((repeat(revert hN;revert N;apply Pn.out));refine wk (tw @aa.eq_1 (tw @k1 (tw @k2 @k3))) ?_;(repeat(refine Pn.mk ?_;intro N hN))))
 refine .inr (aO _ _ _ _ _ (fun r σ2 hq=>?_) (Ev p.ae hs.t hs.s _))
 obtain⟨i2,hS,hJ,hL⟩:=hq
 obtain⟨g2,x2⟩:=σ2
 (try dsimp only at hS hJ hL)
 have NT:=hL.1
 obtain⟨o2,OA,is2,rfl,NI,hS',rfl⟩:=hS
 have hc:=hJ.2
 (try dsimp only at hc NT)
 refine hN _ _ ?_
 clear hN N
 have l2:=hL.2 ⟨39000001,σ.next⟩ bD
 have l3:=hL.2 ⟨39001000,σ.next+1⟩ bD
 simp only[go_sem, ↓reduceIte,Nat.reduceEqDiff,Nat.reduceAdd,Nat.reduceSub,Nat.reduceLeDiff,reduceCtorEq,k2,k3]at l2 l3
 (try((repeat(revert hN;revert N;apply Pn.out));refine wk (tw @aa.eq_1 (tw @l2 @l3)) ?_;(repeat(refine Pn.mk ?_;intro N hN))))
 refine gy (.inl rfl) (vs:=[.agg [.own o 0 p.aw.length,.own o2 0 p.ae.length]]) (sd @Nat.zero_add) ?_
 have fr:∀x:Id,σ.next+2<=x.bZ->(x=⟨39000001,σ.next⟩)=False/\(x=⟨39001000,σ.next+1⟩)=False:=fun x hx=>⟨(dp (a:=⟨39000001,σ.next⟩) (b:=x) bD).2,(dp (a:=⟨39001000,σ.next+1⟩) (b:=x) bD).2⟩
 refine⟨_,_,_,_,rfl,gq.frame (g:=g1) yj ⟨o,rows,is,rfl,hg,Qe,rfl⟩ fun i hi=>?_,gq.frame (g:=g2) oQ ⟨o2,OA,is2,rfl,NI,hS',rfl⟩ fun i hi=>?_,?_,⟨bD,fun j hj=>?_⟩⟩
 ·have h1:=hb i hi
  have h2:=hL.2 i bD
  have h3:=fr i ab
  simp only[go_sem, ↓reduceIte,Nat.reduceEqDiff,Nat.reduceAdd,Nat.reduceSub,Nat.reduceLeDiff,reduceCtorEq,h3]at h2
  simp only[go_sem, ↓reduceIte,Nat.reduceEqDiff,Nat.reduceAdd,Nat.reduceSub,Nat.reduceLeDiff,reduceCtorEq,h2,h3]
 ·have h1:=hc i hi
  have h3:=fr i ab
  simp only[go_sem, ↓reduceIte,Nat.reduceEqDiff,Nat.reduceAdd,Nat.reduceSub,Nat.reduceLeDiff,reduceCtorEq,h3]
 ·(try dsimp only at *)
  exact(hI.app hJ ab ab ab).wide ab ab
 ·have h1:=eK hj
  have h2:=hL.2 j bD
  have h3:=hK.2 j bD
  simp only[go_sem, ↓reduceIte,Nat.reduceEqDiff,Nat.reduceAdd,Nat.reduceSub,Nat.reduceLeDiff,reduceCtorEq,h1]at h2 h3
  simp only[go_sem, ↓reduceIte,Nat.reduceEqDiff,Nat.reduceAdd,Nat.reduceSub,Nat.reduceLeDiff,reduceCtorEq,h1,h2,h3]
theorem BF (p:bV) (hs:qL p) (σ:ax):Call Tryz.prog 10 [.agg (az p)] σ (fun r σ'=>∃ids,xE σ'.get r p ids/\e6 σ.next σ'.next ids/\Kept σ σ'):=by
 refine fm dP rfl fun hl=>?_
 clear hl
 have t1:=fun σ=>zr p.ar hs.s σ
 have t2:=fun σ=>pR p.bR hs.a σ
 rw[aa]at t1
 rw[aC]at t2
 (try((repeat(revert hN;revert N;apply Pn.out));refine wk @az.eq_1 ?_;(repeat(refine Pn.mk ?_;intro N hN))))
 refine .inr (aO _ _ _ _ _ (fun r σ1 hq=>?_) (t1 _))
 obtain⟨a,b,i1,i2,rfl,hA,hB,hI,hK⟩:=hq
 obtain⟨g1,x1⟩:=σ1
 (try dsimp only at hA hB hI hK)
 have hn:=hK.1
 have hb:=hI.2
 (try dsimp only at hb hn)
 refine hN _ _ ?_
 clear hN N
 have k1:=hK.2 ⟨10000000,σ.next⟩ bD
 have k2:=hK.2 ⟨10000001,σ.next⟩ bD
 have k3:=hK.2 ⟨10001000,σ.next+1⟩ bD
 simp only[go_sem, ↓reduceIte,Nat.reduceEqDiff,Nat.reduceAdd,Nat.reduceSub,Nat.reduceLeDiff,reduceCtorEq]at k1 k2 k3
 obtain⟨oa,rfl⟩:=hA.jQ
 obtain⟨ob,rfl⟩:=hB.jQ
 (try((repeat(revert hN;revert N;apply Pn.out));refine wk (tw @az.eq_1 (tw @k1 (tw @k2 @k3))) ?_;(repeat(refine Pn.mk ?_;intro N hN))))
 refine .inr (aO _ _ _ _ _ (fun r σ2 hq=>?_) (t2 _))
 obtain⟨i3,hC,hJ,hL⟩:=hq
 obtain⟨g2,x2⟩:=σ2
 (try dsimp only at hC hJ hL)
 have NT:=hL.1
 have hc:=hJ.2
 (try dsimp only at hc NT)
 obtain⟨c,rfl,hC⟩:=hC
 obtain⟨oc,rfl⟩:=hC.jQ
 refine hN _ _ ?_
 clear hN N
 have l1:=hL.2 ⟨10000000,σ.next⟩ bD
 have l2:=hL.2 ⟨10000001,σ.next⟩ bD
 have l3:=hL.2 ⟨10001000,σ.next+1⟩ bD
 simp only[go_sem, ↓reduceIte,Nat.reduceEqDiff,Nat.reduceAdd,Nat.reduceSub,Nat.reduceLeDiff,reduceCtorEq,k1,k2,k3]at l1 l2 l3
 (try((repeat(revert hN;revert N;apply Pn.out));refine wk (tw @az.eq_1 (tw @l1 (tw @l2 @l3))) ?_;(repeat(refine Pn.mk ?_;intro N hN))))
 refine gy (.inl rfl) (vs:=[.agg [.own oa 0 p.ar.aw.length,.own ob 0 p.ar.ae.length,.own oc 0 p.bR.ae.length,.int .i64 p.aG]]) (sd @Nat.zero_add) ?_
 have fr:∀x:Id,σ.next+2<=x.bZ->(x=⟨10000001,σ.next⟩)=False/\(x=⟨10001000,σ.next+1⟩)=False:=fun x hx=>⟨(dp (a:=⟨10000001,σ.next⟩) (b:=x) bD).2,(dp (a:=⟨10001000,σ.next+1⟩) (b:=x) bD).2⟩
 have Mm:∀i∈i1++i2,g2 i=g1 i:=fun i hi=>by
  have h1:=hb i hi
  have h2:=hL.2 i bD
  have h3:=fr i ab
  simp only[go_sem, ↓reduceIte,Nat.reduceEqDiff,Nat.reduceAdd,Nat.reduceSub,Nat.reduceLeDiff,reduceCtorEq,h3]at h2
  exact h2
 refine⟨i1++(i2++i3),⟨_,_,_,i1,i2,i3,rfl,hA.frame yj fun i hi=>?_,hB.frame oQ fun i hi=>?_,hC.frame uR fun i hi=>?_,rfl⟩,?_,⟨bD,fun j hj=>?_⟩⟩
 ·have h1:=hb i (by simp[hi])
  have h2:=Mm i (by simp[hi])
  have h3:=fr i ab
  simp only[go_sem, ↓reduceIte,Nat.reduceEqDiff,Nat.reduceAdd,Nat.reduceSub,Nat.reduceLeDiff,reduceCtorEq,h2,h3]
 ·have h1:=hb i (by simp[hi])
  have h2:=Mm i (by simp[hi])
  have h3:=fr i ab
  simp only[go_sem, ↓reduceIte,Nat.reduceEqDiff,Nat.reduceAdd,Nat.reduceSub,Nat.reduceLeDiff,reduceCtorEq,h2,h3]
 ·have h1:=hc i hi
  have h3:=fr i ab
  simp only[go_sem, ↓reduceIte,Nat.reduceEqDiff,Nat.reduceAdd,Nat.reduceSub,Nat.reduceLeDiff,reduceCtorEq,h3]
 ·(try dsimp only at *)
  rw[<-List.append_assoc]
  exact(hI.app hJ ab ab ab).wide ab ab
 ·have h1:=eK hj
  have h2:=hL.2 j bD
  have h3:=hK.2 j bD
  simp only[go_sem, ↓reduceIte,Nat.reduceEqDiff,Nat.reduceAdd,Nat.reduceSub,Nat.reduceLeDiff,reduceCtorEq,h1]at h2 h3
  simp only[go_sem, ↓reduceIte,Nat.reduceEqDiff,Nat.reduceAdd,Nat.reduceSub,Nat.reduceLeDiff,reduceCtorEq,h1,h2,h3]
end Go.Proofs.YtihgaadadaekmaaGreatDoor.V

namespace Go.Proofs.YtihgaadadaekmaaGreatDoor
open Go.RowKit
def jS (n:Int):Bool:=(decide (97<=n)&&decide (n<=122))||(decide (65<=n)&&decide (n<=90))
def iz (n:Int):Bool:=decide (48<=n)&&decide (n<=57)
def rF (i:Nat) (n:Int):Prop:=jS n=true∨(0<i/\(iz n=true∨n=95))
def sj (s:ByteArray):Prop:=(1<=s.size/\s.size<=12)/\∀i (h:i<s.size),rF i s[i].toNat
open Classical in
noncomputable def iV (s:ByteArray):Bool:=decide (sj s)
theorem A6 {s:ByteArray} (h:sj s):true=iV s:=by simp[iV,h]
theorem dx {s:ByteArray} (h:¬sj s):false=iV s:=by simp[iV,h]
theorem y6 {s:ByteArray} {b:Bool} (hb:b=true) (h:sj s):b=iV s:=by simp[iV,h,hb]
theorem pC {s:ByteArray} {b:Bool} (hb:b=false) (h:¬sj s):b=iV s:=by simp[iV,h,hb]
theorem s7 (w:World) (n:Int):Calls Tryz.prog 144 #[.int .u8 n] w fun e w'=>e=.returned (.bool (jS n))/\w=w':=by
 go_enter Tryz.func144,Tryz.ntmps144
 go_wp2_with fail
 all_goals
  go_ret
  exact⟨gH (by unfold jS;simp[*];try omega),rfl⟩
theorem Db (w:World) (n:Int):Calls Tryz.prog 68 #[.int .u8 n] w fun e w'=>e=.returned (.bool (iz n))/\w=w':=by
 go_enter Tryz.func68,Tryz.ntmps68
 go_wp2_with fail
 all_goals
  go_ret
  exact⟨gH (by unfold iz;simp[*];try omega),rfl⟩
theorem zg (w:World) (s:ByteArray) (hs:s.size<=9223372036854775807):Calls Tryz.prog 123 #[.string s] w fun e w'=>e=.returned (.bool (iV s))/\Below w.heap.size w w':=by
 by_cases h1:1<=s.size
 case neg=>
  go_enter Tryz.func123,Tryz.ntmps123
  go_wp2_with fail
  go_ret
  exact⟨gH (dx fun h=>h1 h.1.1),Below.refl _ _⟩
 by_cases h2:s.size<=12
 case neg=>
  go_enter Tryz.func123,Tryz.ntmps123
  go_wp2_with fail
  go_ret
  exact⟨gH (dx fun h=>h2 h.1.2),Below.refl _ _⟩
 go_enter Tryz.func123,Tryz.ntmps123
 go_wp2_with fail
 refine(s7 _ _).mono ?_
 rintro e w' ⟨rfl,rfl⟩
 cases h3:jS s[0].toNat
 ·go_wp2_with fail
  go_ret
  exact⟨gH (dx fun h=>by have:=h.2 0 (by omega);simp only[rF]at this;rw[h3]at this;simp at this),Below.refl _ _⟩
 ·replace h3:=Lib.hid h3
  go_wp2_with fail
  go_loop [3] (fun i=>∃k:Nat,1<=k/\k<=s.size/\i=.int .i64 k/\Hid (∀j (h:j<s.size),j<k->rF j s[j].toNat)) (fun i=>s.size-(intOf i).toNat)
  case atStart=>exact⟨1,by omega,by omega,rfl,Lib.hid fun j h hj=>by
   obtain rfl:j=0:=by omega
   exact .inl h3.out⟩
  case round=>
   obtain⟨k,qm,hk,rfl,cN⟩:=hrel
   by_cases dD:k<s.size
   ·go_wp2_with fail
    refine(s7 _ _).mono ?_
    rintro e w' ⟨rfl,rfl⟩
    have jD:rF k s[k].toNat∨¬rF k s[k].toNat:=Classical.em _
    cases hl:jS s[k].toNat
    ·go_wp2_with fail
     refine(Db _ _).mono ?_
     rintro e w' ⟨rfl,rfl⟩
     cases hd:iz s[k].toNat
     ·by_cases rX:(s[k].toNat:Int)=95
      ·have PX:((s[k].toNat:Int) !=95)=false:=by simp;omega
       replace rX:=Lib.hid rX
       replace hl:=Lib.hid hl
       replace hd:=Lib.hid hd
       go_wp2_with fail
       go_round
       case rel=>exact⟨k+1,by omega,by omega,by go_num,Lib.hid fun j h hj=>by
        by_cases uX:j=k
        ·subst uX;exact .inr ⟨by omega,.inr rX.out⟩
        ·exact cN.out j h (by omega)⟩
       case measure=>simp[intOf];omega
      ·have PX:((s[k].toNat:Int) !=95)=true:=by simp;omega
       replace rX:=Lib.hid rX
       replace hl:=Lib.hid hl
       replace hd:=Lib.hid hd
       go_wp2_with fail
       go_ret
       exact⟨gH (dx fun h=>by
        have:=h.2 k dD;simp only[rF,hl.out,hd.out]at this;exact rX.out (by simp at this;exact this.2)),Below.refl _ _⟩
     ·replace hl:=Lib.hid hl
      replace hd:=Lib.hid hd
      go_wp2_with fail
      go_round
      case rel=>exact⟨k+1,by omega,by omega,by go_num,Lib.hid fun j h hj=>by
       by_cases uX:j=k
       ·subst uX;exact .inr ⟨by omega,.inl hd.out⟩
       ·exact cN.out j h (by omega)⟩
      case measure=>simp[intOf];omega
    ·replace hl:=Lib.hid hl
     go_wp2_with fail
     go_round
     case rel=>exact⟨k+1,by omega,by omega,by go_num,Lib.hid fun j h hj=>by
      by_cases uX:j=k
      ·subst uX;exact .inl hl.out
      ·exact cN.out j h (by omega)⟩
     case measure=>simp[intOf];omega
   ·go_wp2_with fail
    go_ret
    exact⟨gH (A6 ⟨⟨h1,h2⟩,fun i h=>cN.out i h (by omega)⟩),Below.refl _ _⟩
theorem yN (w:World) (s:ByteArray) (hs:s.size<=9223372036854775807):Calls Tryz.prog 132 #[.string s] w fun e w'=>e=.returned (.bool (iV s))/\w=w':=by
 go_enter Tryz.func132,Tryz.ntmps132
 go_wp2_with fail
 go_loop [8] (fun i=>∃k:Nat,k<=s.size/\i=.int .i64 k/\Hid (∀j (h:j<s.size),j<k->rF j s[j].toNat)) (fun i=>s.size-(intOf i).toNat)
 case atStart=>exact⟨0,by omega,rfl,Lib.hid fun j h hj=>by omega⟩
 case round=>
  obtain⟨k,hk,rfl,cN⟩:=hrel
  by_cases dD:k<s.size
  ·have hc:(s[k].toNat:Int)<48∨(48<=(s[k].toNat:Int)/\(s[k].toNat:Int)<=57)∨(58<=(s[k].toNat:Int)/\(s[k].toNat:Int)<=64)∨(65<=(s[k].toNat:Int)/\(s[k].toNat:Int)<=90)∨(91<=(s[k].toNat:Int)/\(s[k].toNat:Int)<=94)∨(95<=(s[k].toNat:Int)/\(s[k].toNat:Int)<=95)∨(96<=(s[k].toNat:Int)/\(s[k].toNat:Int)<=96)∨(97<=(s[k].toNat:Int)/\(s[k].toNat:Int)<=122)∨123<=(s[k].toNat:Int):=by omega
   by_cases pj:k=0
   ·subst pj
    rcases hc with h|⟨h,h'⟩|⟨h,h'⟩|⟨h,h'⟩|⟨h,h'⟩|⟨h,h'⟩|⟨h,h'⟩|⟨h,h'⟩|h
    ·have rX:((s[0].toNat:Int) !=95)=true:=by simp;try omega
     go_wp2_with fail
     all_goals first
      |(go_ret;exact⟨gH (dx fun hh=>by have:=hh.2 0 dD;simp[rF,jS,iz]at this;omega),rfl⟩)
      |(exfalso;simp_all;done)
      |(exfalso;simp_all;omega)
    ·have rX:((s[0].toNat:Int) !=95)=true:=by simp;try omega
     go_wp2_with fail
     all_goals first
      |(go_ret;exact⟨gH (dx fun hh=>by have:=hh.2 0 dD;simp[rF,jS,iz]at this;omega),rfl⟩)
      |(exfalso;simp_all;done)
      |(exfalso;simp_all;omega)
    ·have rX:((s[0].toNat:Int) !=95)=true:=by simp;try omega
     go_wp2_with fail
     all_goals first
      |(go_ret;exact⟨gH (dx fun hh=>by have:=hh.2 0 dD;simp[rF,jS,iz]at this;omega),rfl⟩)
      |(exfalso;simp_all;done)
      |(exfalso;simp_all;omega)
    ·have rX:((s[0].toNat:Int) !=95)=true:=by simp;try omega
     go_wp2_with fail
     go_round
     case rel=>exact⟨0+1,by omega,by go_num,Lib.hid fun j hj uX=>by
      by_cases FP:j=0
      ·subst FP;simp[rF,jS,iz];omega
      ·exact cN.out j hj (by omega)⟩
     case measure=>simp[intOf];try omega
    ·have rX:((s[0].toNat:Int) !=95)=true:=by simp;try omega
     go_wp2_with fail
     all_goals first
      |(go_ret;exact⟨gH (dx fun hh=>by have:=hh.2 0 dD;simp[rF,jS,iz]at this;omega),rfl⟩)
      |(exfalso;simp_all;done)
      |(exfalso;simp_all;omega)
    ·have rX:((s[0].toNat:Int) !=95)=false:=by simp;try omega
     go_wp2_with fail
     all_goals first
      |(go_ret;exact⟨gH (dx fun hh=>by have:=hh.2 0 dD;simp[rF,jS,iz]at this;omega),rfl⟩)
      |(exfalso;simp_all;done)
      |(exfalso;simp_all;omega)
    ·have rX:((s[0].toNat:Int) !=95)=true:=by simp;try omega
     go_wp2_with fail
     all_goals first
      |(go_ret;exact⟨gH (dx fun hh=>by have:=hh.2 0 dD;simp[rF,jS,iz]at this;omega),rfl⟩)
      |(exfalso;simp_all;done)
      |(exfalso;simp_all;omega)
    ·have rX:((s[0].toNat:Int) !=95)=true:=by simp;try omega
     go_wp2_with fail
     go_round
     case rel=>exact⟨0+1,by omega,by go_num,Lib.hid fun j hj uX=>by
      by_cases FP:j=0
      ·subst FP;simp[rF,jS,iz];omega
      ·exact cN.out j hj (by omega)⟩
     case measure=>simp[intOf];try omega
    ·have rX:((s[0].toNat:Int) !=95)=true:=by simp;try omega
     go_wp2_with fail
     all_goals first
      |(go_ret;exact⟨gH (dx fun hh=>by have:=hh.2 0 dD;simp[rF,jS,iz]at this;omega),rfl⟩)
      |(exfalso;simp_all;done)
      |(exfalso;simp_all;omega)
   ·have hz:((k:Int)==0)=false:=by simpa using pj
    have qm:1<=k:=by omega
    clear pj
    rcases hc with h|⟨h,h'⟩|⟨h,h'⟩|⟨h,h'⟩|⟨h,h'⟩|⟨h,h'⟩|⟨h,h'⟩|⟨h,h'⟩|h
    ·have rX:((s[k].toNat:Int) !=95)=true:=by simp;try omega
     go_wp2_with fail
     all_goals first
      |(go_ret;exact⟨gH (dx fun hh=>by have:=hh.2 k dD;simp[rF,jS,iz]at this;omega),rfl⟩)
      |(exfalso;simp_all;done)
      |(exfalso;simp_all;omega)
    ·have rX:((s[k].toNat:Int) !=95)=true:=by simp;try omega
     go_wp2_with fail
     go_round
     case rel=>exact⟨k+1,by omega,by go_num,Lib.hid fun j hj uX=>by
      by_cases FP:j=k
      ·subst FP;simp[rF,jS,iz];omega
      ·exact cN.out j hj (by omega)⟩
     case measure=>simp[intOf];try omega
    ·have rX:((s[k].toNat:Int) !=95)=true:=by simp;try omega
     go_wp2_with fail
     all_goals first
      |(go_ret;exact⟨gH (dx fun hh=>by have:=hh.2 k dD;simp[rF,jS,iz]at this;omega),rfl⟩)
      |(exfalso;simp_all;done)
      |(exfalso;simp_all;omega)
    ·have rX:((s[k].toNat:Int) !=95)=true:=by simp;try omega
     go_wp2_with fail
     go_round
     case rel=>exact⟨k+1,by omega,by go_num,Lib.hid fun j hj uX=>by
      by_cases FP:j=k
      ·subst FP;simp[rF,jS,iz];omega
      ·exact cN.out j hj (by omega)⟩
     case measure=>simp[intOf];try omega
    ·have rX:((s[k].toNat:Int) !=95)=true:=by simp;try omega
     go_wp2_with fail
     all_goals first
      |(go_ret;exact⟨gH (dx fun hh=>by have:=hh.2 k dD;simp[rF,jS,iz]at this;omega),rfl⟩)
      |(exfalso;simp_all;done)
      |(exfalso;simp_all;omega)
    ·have rX:((s[k].toNat:Int) !=95)=false:=by simp;try omega
     go_wp2_with fail
     go_round
     case rel=>exact⟨k+1,by omega,by go_num,Lib.hid fun j hj uX=>by
      by_cases FP:j=k
      ·subst FP;simp[rF,jS,iz];omega
      ·exact cN.out j hj (by omega)⟩
     case measure=>simp[intOf];try omega
    ·have rX:((s[k].toNat:Int) !=95)=true:=by simp;try omega
     go_wp2_with fail
     all_goals first
      |(go_ret;exact⟨gH (dx fun hh=>by have:=hh.2 k dD;simp[rF,jS,iz]at this;omega),rfl⟩)
      |(exfalso;simp_all;done)
      |(exfalso;simp_all;omega)
    ·have rX:((s[k].toNat:Int) !=95)=true:=by simp;try omega
     go_wp2_with fail
     go_round
     case rel=>exact⟨k+1,by omega,by go_num,Lib.hid fun j hj uX=>by
      by_cases FP:j=k
      ·subst FP;simp[rF,jS,iz];omega
      ·exact cN.out j hj (by omega)⟩
     case measure=>simp[intOf];try omega
    ·have rX:((s[k].toNat:Int) !=95)=true:=by simp;try omega
     go_wp2_with fail
     all_goals first
      |(go_ret;exact⟨gH (dx fun hh=>by have:=hh.2 k dD;simp[rF,jS,iz]at this;omega),rfl⟩)
      |(exfalso;simp_all;done)
      |(exfalso;simp_all;omega)
  ·by_cases h1:1<=s.size
   ·by_cases h2:s.size<=12
    ·go_wp2_with fail
     go_ret
     exact⟨gH (y6 (by simp<;>omega) ⟨⟨h1,h2⟩,fun i h=>cN.out i h (by omega)⟩),rfl⟩
    ·go_wp2_with fail
     go_ret
     exact⟨gH (pC (by simp<;>omega) fun h=>h2 h.1.2),rfl⟩
   ·go_wp2_with fail
    go_ret
    exact⟨gH (pC (by simp<;>omega) fun h=>h1 h.1.1),rfl⟩
end Go.Proofs.YtihgaadadaekmaaGreatDoor

namespace Go.Proofs.YtihgaadadaekmaaGreatDoor.V
open Go.RowKit
theorem mixed:Tryz.prog.follows .mixedOrders=true:=by kernel_rfl
variable {P:Program} {w:World} {D:Nat->Prop} {ι:Names}
theorem jh {f:Nat} {args:List AV} {r:AV} {vs0:Array Value} {u0:Value} (lY:∀(w:World) (D:Nat->Prop) (ι:Names) vs,eP P w D ι args vs->vs=vs0) (hr:∀(w:World) (D:Nat->Prop) (ι:Names),cv P w D ι r u0) (Cf:∀g,fh g 6 r=some r)
  (h:∀w,Calls P f vs0 w fun e w'=>e=.returned u0/\Below w.heap.size w w'):ai P f args r:=by
 intro n
 refine gV fun hs D ι w vs S U A=>?_
 have:=lY w D ι vs A
 subst this
 refine(h w).mono ?_
 rintro e w' ⟨rfl,hb⟩
 exact⟨r,_,n,D,ι,u0,rfl,⟨r,Cf _,rfl⟩,Step.stay S hb.block hb.size hb.os hb.tape hb.output (fun _ h=>h) (fun _ h=>.inl h) (fun _ _ h=>h),
  S.stay hb.block hb.size (fun _ h=>h) (fun b hd=>Nat.lt_of_lt_of_le (S.dead b hd) hb.size) (fun _ h=>.inl h) (fun _ _ h=>h),U,Nat.le_refl _,hr _ _ _⟩
theorem ze {s:ByteArray} {vs:Array Value} (h:eP P w D ι [.str s] vs):vs= #[.string s]:=by
 obtain⟨h1,h2⟩:=h
 obtain⟨u,hu,hr⟩:=h2 0 _ rfl
 rw[eU hr]at hu
 obtain⟨l⟩:=vs
 cases l with
 |nil=>simp at h1
 |cons a l=>cases l with
  |nil=>simp at hu;subst hu;rfl
  |cons b l=>simp at h1
theorem Cz (s:ByteArray) (hs:s.size<=9223372036854775807):ai Tryz.prog 123 [.str s] (.bool (iV s)):=
 jh (fun _ _ _ _=>ze) (fun _ _ _=>.ew _ _ (.bool _)) (fun g=>eD g 5 _) fun w=>zg w s hs
theorem Cp (s:ByteArray) (hs:s.size<=9223372036854775807):ai Tryz.prog 132 [.str s] (.bool (iV s)):=
 jh (fun _ _ _ _=>ze) (fun _ _ _=>.ew _ _ (.bool _)) (fun g=>eD g 5 _) fun w=>(yN w s hs).mono (by rintro e w' ⟨rfl,rfl⟩;exact⟨rfl,Below.refl _ _⟩)
end Go.Proofs.YtihgaadadaekmaaGreatDoor.V

namespace Go.Proofs.YtihgaadadaekmaaGreatDoor
open Go.RowKit
def rH (n:Nat):List UInt8:=if h:n=0 then[]else rH (n / 10)++[UInt8.ofNat (48+n % 10)]
termination_by n
decreasing_by omega
def mZ (k:Int):ByteArray:=if k<=0 then⟨#[109,48]⟩else⟨(109::rH k.toNat).toArray⟩
theorem Dc:rH 0=[]:=by unfold rH;simp
theorem Fp {n:Nat} (h:n≠0):rH n=rH (n / 10)++[UInt8.ofNat (48+n % 10)]:=by
 conv=>lhs;unfold rH
 rw[dif_neg h]
theorem uP (c:UInt8) (l:ByteArray):((⟨#[c]⟩++l:ByteArray)).data.toList=c::l.data.toList:=by
 simp[ByteArray.data_append]
theorem x8:∀(m n:Nat),n<10 ^ m->(rH n).length<=m
 |0,n,h=>by
  have:n=0:=by simpa using h
  subst this;simp[rH]
 |m+1,n,h=>by
  unfold rH
  split
  ·simp
  ·have:=x8 m (n / 10) (by rw[Nat.pow_succ]at h;omega)
   simp;omega
theorem wP (w:World) (k:Int) (h0:0<=k) (h1:k<=4611686018427387904):
  Calls Tryz.prog 112 #[.int .i64 k] w fun e w'=>e=.returned (.string (mZ k))/\Below w.heap.size w w':=by
 by_cases hk:k<=0
 ·go_enter Tryz.func112,Tryz.ntmps112
  go_wp2_with fail
  go_ret
  exact⟨by simp[mZ,hk],Below.refl _ _⟩
 ·go_enter Tryz.func112,Tryz.ntmps112
  go_wp2_with fail
  go_loopw [0,3] (fun a s wr=>∃(j:Int) (l:ByteArray),a=.int .i64 j/\s=.string l/\0<=j/\j<=4611686018427387904/\Hid (rH j.toNat++l.data.toList=rH k.toNat)/\Below w.heap.size w wr) (fun a _ _=>(intOf a).toNat)
  case atStart=>exact⟨k,⟨#[]⟩,rfl,rfl,h0,h1,Lib.hid (by simp),Below.refl _ _⟩
  case round=>
   obtain⟨j,l,rfl,rfl,hj0,hj1,hd,hb⟩:=hrel
   have fc:l.size<=19:=by
    have h1:=congrArg List.length hd.out
    have h2:=x8 19 k.toNat (by omega)
    rw[List.length_append]at h1
    have:l.data.toList.length=l.size:=by rw[Array.length_toList];rfl
    omega
   by_cases hj:0<j
   ·have hcv:∀v:Int,(convert 142 9 (.slice (some ⟨wr.heap.size,0,none⟩) 1 1)).run Tryz.prog (wr.alloc (.cells #[.int .u8 v] 5))=.ok (.string ⟨#[UInt8.ofNat v.toNat]⟩) (wr.alloc (.cells #[.int .u8 v] 5)):=by
     intro v
     rw[run_convert_bytes_string _ _ _ 5 _ _ _ Tryz.underlying142 Tryz.underlying5 Tryz.underlying9,run_bytesToString _ _ _ _ [v] (by simp[loadCells,loadCellsFrom,go_sem])]
     rfl
    have hr:=fc
    go_wp2_with fail
    go_roundw
    case rel=>
     refine⟨_,_,rfl,rfl,by omega,by omega,Lib.hid ?_,hb.alloc hb.size _⟩
     rw[<-hd.out,uP,Fp (show j.toNat≠0 by omega),show(j / 10).toNat=j.toNat / 10 by omega,show(48+j % 10).toNat=48+j.toNat % 10 by omega]
     simp
    case measure=>simp[intOf];omega
   ·go_wp2_with fail
    go_ret
    refine⟨?_,hb⟩
    have h1:=hd.out
    rw[show j.toNat=0 by omega,Dc,List.nil_append]at h1
    have h2:(⟨#[109]⟩++l:ByteArray)=mZ k:=by
     rw[mZ,if_neg (by omega)]
     refine ByteArray.ext (Array.ext' ?_)
     rw[uP,h1]
    rw[h2];rfl
end Go.Proofs.YtihgaadadaekmaaGreatDoor

namespace Go.Proofs.YtihgaadadaekmaaGreatDoor.V
open Go.RowKit
attribute [local irreducible] dO wpOps gO Call
attribute [local go_sem] aH fF eF fR fQ cu upd cm K.av cJ AV.cells AV.cell rowOf rowsOf part ld rowAt bI bU dG ei il bJ da eB fW eZ dq ep cY cX dU dV bP bd cQ bL cT cR ek er eo cP bS cZ ej bK aL cV cw ik br cI bQ aZ dz bl dI AV.undef bB bH dY eh dR ea cE eA eE cr ev eu cU cW List.getD_cons_zero List.getD_cons_succ List.getD_nil List.all_cons List.all_nil Bool.and_true Bool.true_and Bool.and_self Bool.not_true Bool.not_false Option.map_some Option.map_none Option.bind_some Option.bind_none List.length_cons List.length_nil List.take_succ_cons List.take_zero List.take_nil List.drop_succ_cons List.drop_zero List.drop_nil List.head?_cons List.map_cons List.map_nil List.getElem?_cons_zero List.getElem?_cons_succ List.cons_append List.nil_append List.append_nil List.length_map List.set_cons_zero List.set_cons_succ Nat.reduceMul eq_self Int.toNat_natCast Int.natCast_nonneg and_self true_and and_true decide_true decide_false Bool.false_eq_true Nat.zero_add Nat.add_zero List.contains_cons List.contains_nil Bool.or_false Bool.false_or beq_self_eq_true Nat.reduceBEq ne_eq not_true_eq_false not_false_eq_true Id.mk.injEq false_and and_false Nat.reduceLT Int.reduceLE Int.reduceLT Int.reduceToNat Int.reduceNeg Int.reduceAdd Nat.le_refl List.length_append beq_true beq_false Bool.not_eq_eq_eq_not or_false false_or dC ad aj aE bz cj aT bj aX bf cK bG
def qH (σ:ax) (ids:List Id) (g:Rows) (n:Nat):Prop:=σ.next<=n/\∀x:Id,x.bZ<σ.next->x∉ids->g x=σ.get x
theorem tv (l:List (List AV)) (i:Nat) (a b:List AV):(l.set i a).set i b=l.set i b:=List.set_set ..
theorem ya {l:List Int} {j:Nat} (h:j<l.length):(l.map au)[j]? =some [.int .i64 l[j]]:=by simp[h,au]
theorem I1 {P:Program} {w:World} {D:Nat->Prop} {ι:Names} {k:Int} {vs:Array Value} (h:eP P w D ι [.int .i64 k] vs):vs= #[.int .i64 k]:=by
 obtain⟨h1,h2⟩:=h
 obtain⟨u,hu,hr⟩:=h2 0 _ rfl
 rw[db hr]at hu
 obtain⟨l⟩:=vs
 cases l with
 |nil=>simp at h1
 |cons a l=>cases l with
  |nil=>simp at hu;subst hu;rfl
  |cons b l=>simp at h1
theorem s8 (k:Int) (h0:0<=k) (h1:k<=4611686018427387904):ai Tryz.prog 112 [.int .i64 k] (.str (mZ k)):=
 jh (vs0:= #[.int .i64 k]) (u0:=.string (mZ k)) (fun _ _ _ _=>I1) (fun w D ι=>.ew _ _ (.str _)) (fun g=>ko g 5 _) fun w=>wP w k h0 h1
theorem A4 (i:Id) (l:List Int) (k:Int) (h0:0<=k) (h1:k+l.length<=4611686018427387904) (σ:ax) (hv:i.bZ<σ.next) (hg:σ.get i=some ⟨true,1,l.map au⟩):
  Call Tryz.prog 23 [.own i 0 l.length,.int .i64 k] σ (fun r σ'=>r=.int .i64 (k+l.length)/\qH σ [i] σ'.get σ'.next):=by
 refine fm dP rfl fun hl=>?_
 clear hl
 obtain⟨nn,hn⟩:∃nn,l.length=nn:=⟨_,rfl⟩
 rw[hn]at h1 ⊢
 (try((repeat(revert hN;revert N;apply Pn.out));refine wk @Nat.zero_add ?_;(repeat(refine Pn.mk ?_;intro N hN))))
 refine aJ (fun n env st=>∃j:Nat,n=(nn)-j/\j<=(nn)/\env 5=.int .i64 (j:Int)/\env 1=.int .i64 (k+j)/\(qH σ [i] st.get st.next/\∃l':List Int,l'.length=nn/\st.get i=some ⟨true,1,l'.map au⟩)) (nn) ⟨0,ab,ab,sl (tw @Int.add_zero @Int.natCast_zero),sl (tw @Int.add_zero @Int.natCast_zero),by(try dsimp only);exact⟨⟨bD,fun x _ _=>rfl⟩,l,hn,hg⟩⟩ ?_
 rintro n_a env_a st_a ⟨j,rfl,ale,a5,a1,l7⟩ dE
 have a0:=dE 0 (by kernel_rfl)
 simp only[go_sem, ↓reduceIte,Nat.reduceEqDiff,Nat.reduceAdd,Nat.reduceSub,Nat.reduceLeDiff,reduceCtorEq,Int.add_zero,Int.natCast_zero]at a0
 clear dE
 obtain⟨⟨an,aF⟩,l',al,ag⟩:=l7
 by_cases hj:(j:Int)<(nn:Int)
 ·have cl:∀{e:Env} {gg:Rows} {nx:Nat},(e 5=.int .i64 (IntKind.i64.wrap ((j:Int)+1)))->(e 1=.int .i64 (k+(j+1)))->(qH σ [i] gg nx/\∃l':List Int,l'.length=nn/\gg i=some ⟨true,1,l'.map au⟩)->∃m0,m0<(nn)-j/\∃j:Nat,m0=(nn)-j/\j<=(nn)/\e 5=.int .i64 (j:Int)/\e 1=.int .i64 (k+j)/\(qH σ [i] gg nx/\∃l':List Int,l'.length=nn/\gg i=some ⟨true,1,l'.map au⟩):=fun x1 x2 x3=>⟨_,ab,j+1,rfl,ab,(by rw[x1,aA ab]),x2,x3⟩
  have im:j<l'.length:=ab
  have dW:=ya im
  have dQ:(l'.map au).set j [.int .i64 (k+j)]=(l'.set j (k+j)).map au:=by rw[List.map_set];rfl
  have hw:IntKind.i64.wrap (k+(j:Int)+1)=k+((j:Int)+1):=by rw[aQ ab];omega
  (try((repeat(revert hN;revert N;apply Pn.out));refine wk (tw @a5 (tw @a1 (tw @a0 (tw @hj (tw @ag (tw @dW (tw @dQ @hw))))))) ?_;(repeat(refine Pn.mk ?_;intro N hN))))
  refine cl ?_ ?_ (by(try dsimp only);exact⟨⟨bD,fun x hx hi=>by
   have h2:=aF x hx hi
   have h3:(x=i)=False:=eq_false fun e=>hi (by simp[e])
   simp only[go_sem, ↓reduceIte,Nat.reduceEqDiff,Nat.reduceAdd,Nat.reduceSub,Nat.reduceLeDiff,reduceCtorEq,h2,h3]⟩,l'.set j (k+j),by simp[al],sl @Nat.zero_add⟩)
  all_goals simp only[go_sem, ↓reduceIte,Nat.reduceEqDiff,Nat.reduceAdd,Nat.reduceSub,Nat.reduceLeDiff,reduceCtorEq,a5,a1,a0,hw]
 ·have im:j=nn:=ab
  subst im
  (try((repeat(revert hN;revert N;apply Pn.out));refine wk (tw @a5 (tw @a1 (tw @a0 @hj))) ?_;(repeat(refine Pn.mk ?_;intro N hN))))
  exact gy (.inl rfl) (vs:=[.int .i64 (k+j)]) (sd (tw @a5 (tw @a1 @a0))) ⟨rfl,⟨bD,fun x hx hi=>aF x hx hi⟩⟩
def IK (k:Int) (n:Nat):List ak:=(List.range n).map fun j:Nat=>⟨⟨k+3*(j:Int),k+3*(j:Int)+1⟩,k+3*(j:Int)+2⟩
theorem pB (k:Int) (n:Nat):(IK k n).length=n:=by simp[IK]
theorem Gm (k:Int) (n:Nat):IK k (n+1)=IK k n++[⟨⟨k+3*(n:Int),k+3*(n:Int)+1⟩,k+3*(n:Int)+2⟩]:=by simp[IK,List.range_succ]
def lF (k:Int) (l:List ak) (j:Nat):List ak:=IK k j++l.drop j
theorem Gn {k:Int} {l:List ak} {j:Nat} (h:j<=l.length):(lF k l j).length=l.length:=by simp[lF,pB];omega
theorem IL {k:Int} {l:List ak} {j:Nat} (h:j<l.length):((lF k l j).map ah)[j]? =some [.int .i64 l[j].cz.fX,.int .i64 l[j].cz.fy,.int .i64 l[j].bw]:=by
 rw[List.getElem?_map,lF,List.getElem?_append_right (by rw[pB];omega),pB,Nat.sub_self,List.getElem?_drop,Nat.add_zero,List.getElem?_eq_getElem h];rfl
theorem Gp {k:Int} {l:List ak} {j:Nat} (h:j<l.length):((lF k l j).map ah).set j [.int .i64 (k+3*(j:Int)),.int .i64 (k+3*(j:Int)+1),.int .i64 (k+3*(j:Int)+2)]=(lF k l (j+1)).map ah:=by
 have:(lF k l j).set j ⟨⟨k+3*(j:Int),k+3*(j:Int)+1⟩,k+3*(j:Int)+2⟩=lF k l (j+1):=by
  rw[lF,List.set_append_right _ _ (by rw[pB];omega),pB,Nat.sub_self,List.drop_eq_getElem_cons h,List.set_cons_zero,lF,Gm,List.append_assoc];rfl
 rw[<-this,List.map_set];rfl
theorem wO (i:Id) (l:List ak) (k:Int) (h0:0<=k) (h1:k+3*l.length<=4611686018427387904) (σ:ax) (hv:i.bZ<σ.next) (hg:σ.get i=some ⟨true,3,l.map ah⟩):
  Call Tryz.prog 48 [.own i 0 l.length,.int .i64 k] σ (fun r σ'=>r=.int .i64 (k+3*l.length)/\qH σ [i] σ'.get σ'.next/\σ'.get i=some ⟨true,3,(IK k l.length).map ah⟩):=by
 refine fm dP rfl fun hl=>?_
 clear hl
 have hz:lF k l 0=l:=by simp[lF,IK]
 (try((repeat(revert hN;revert N;apply Pn.out));refine wk @Nat.zero_add ?_;(repeat(refine Pn.mk ?_;intro N hN))))
 refine aJ (fun n env st=>∃j:Nat,n=(l.length)-j/\j<=(l.length)/\env 5=.int .i64 (j:Int)/\env 1=.int .i64 (k+3*j)/\st.get i=some ⟨true,3,(lF k l j).map ah⟩/\(qH σ [i] st.get st.next)) (l.length) ⟨0,ab,ab,sl (tw @Int.add_zero (tw @Int.natCast_zero (tw @Int.mul_zero (tw @hz @hg)))),sl (tw @Int.add_zero (tw @Int.natCast_zero (tw @Int.mul_zero (tw @hz @hg)))),sl (tw @Int.add_zero (tw @Int.natCast_zero (tw @Int.mul_zero (tw @hz @hg)))),by(try dsimp only);exact⟨bD,fun x _ _=>rfl⟩⟩ ?_
 rintro n_a env_a st_a ⟨j,rfl,ale,a5,a1,ag0,l7⟩ dE
 have a0:=dE 0 (by kernel_rfl)
 simp only[go_sem, ↓reduceIte,Nat.reduceEqDiff,Nat.reduceAdd,Nat.reduceSub,Nat.reduceLeDiff,reduceCtorEq,Int.add_zero,Int.natCast_zero,Int.mul_zero,hz,hg]at a0
 clear dE
 obtain⟨an,aF⟩:=l7
 by_cases hj:(j:Int)<(l.length:Int)
 ·have cl:∀{e:Env} {gg:Rows} {nx:Nat},(e 5=.int .i64 (IntKind.i64.wrap ((j:Int)+1)))->(e 1=.int .i64 (k+3*(j+1)))->(gg i=some ⟨true,3,(lF k l (j+1)).map ah⟩)->(qH σ [i] gg nx)->∃m0,m0<(l.length)-j/\∃j:Nat,m0=(l.length)-j/\j<=(l.length)/\e 5=.int .i64 (j:Int)/\e 1=.int .i64 (k+3*j)/\gg i=some ⟨true,3,(lF k l j).map ah⟩/\(qH σ [i] gg nx):=fun x1 x2 x3 x4=>⟨_,ab,j+1,rfl,ab,(by rw[x1,aA ab]),x2,x3,x4⟩
  have im:j<l.length:=ab
  have dW:=IL (k:=k) im
  have dQ:=Gp (k:=k) im
  have mm:IntKind.i64.wrap (k+3*(j:Int)+1)=k+3*(j:Int)+1:=aQ ab
  have AL:IntKind.i64.wrap (k+3*(j:Int)+1+1)=k+3*(j:Int)+2:=by rw[aQ ab];omega
  have N9:IntKind.i64.wrap (k+3*(j:Int)+2+1)=k+3*((j:Int)+1):=by rw[aQ ab];omega
  have hlen:((lF k l j).map ah).length=l.length:=by rw[List.length_map,Gn ab]
  have Ib:∀c:List AV,(((lF k l j).map ah).set j c)[j]? =some c:=fun c=>by rw[List.getElem?_set_self (by rw[hlen];exact im)]
  (try((repeat(revert hN;revert N;apply Pn.out));refine wk (tw @a5 (tw @a1 (tw @ag0 (tw @a0 (tw @hj (tw @dW (tw @Ib (tw @dQ (tw @mm (tw @AL (tw @N9 (tw @hlen @tv)))))))))))) ?_;(repeat(refine Pn.mk ?_;intro N hN))))
  refine cl ?_ ?_ ?_ (by(try dsimp only);exact⟨bD,fun x hx hi=>by
   have h2:=aF x hx hi
   have h3:(x=i)=False:=eq_false fun e=>hi (by simp[e])
   simp only[go_sem, ↓reduceIte,Nat.reduceEqDiff,Nat.reduceAdd,Nat.reduceSub,Nat.reduceLeDiff,reduceCtorEq,h2,h3]⟩)
  all_goals simp only[go_sem, ↓reduceIte,Nat.reduceEqDiff,Nat.reduceAdd,Nat.reduceSub,Nat.reduceLeDiff,reduceCtorEq,a5,a1,ag0,a0,N9,dQ]
 ·have im:j=l.length:=ab
  subst im
  (try((repeat(revert hN;revert N;apply Pn.out));refine wk (tw @a5 (tw @a1 (tw @ag0 (tw @a0 @hj)))) ?_;(repeat(refine Pn.mk ?_;intro N hN))))
  have kN:lF k l l.length=IK k l.length:=by simp[lF]
  rw[kN]at ag0
  exact gy (.inl rfl) (vs:=[.int .i64 (k+3*l.length)]) (sd (tw @a5 (tw @a1 (tw @ag0 @a0)))) ⟨rfl,⟨bD,fun x hx hi=>aF x hx hi⟩,ag0⟩
theorem yY (i:Id) (l:List eS) (k:Int) (h0:0<=k) (h1:k+2*l.length<=4611686018427387904) (σ:ax) (hv:i.bZ<σ.next) (hg:σ.get i=some ⟨true,2,l.map aV⟩):
  Call Tryz.prog 79 [.own i 0 l.length,.int .i64 k] σ (fun r σ'=>r=.int .i64 (k+2*l.length)/\qH σ [i] σ'.get σ'.next):=by
 refine fm dP rfl fun hl=>?_
 clear hl
 obtain⟨nn,hn⟩:∃nn,l.length=nn:=⟨_,rfl⟩
 rw[hn]at h1 ⊢
 (try((repeat(revert hN;revert N;apply Pn.out));refine wk @Nat.zero_add ?_;(repeat(refine Pn.mk ?_;intro N hN))))
 refine aJ (fun n env st=>∃j:Nat,n=(nn)-j/\j<=(nn)/\env 5=.int .i64 (j:Int)/\env 1=.int .i64 (k+2*j)/\(qH σ [i] st.get st.next/\∃l':List eS,l'.length=nn/\st.get i=some ⟨true,2,l'.map aV⟩)) (nn) ⟨0,ab,ab,sl (tw @Int.add_zero (tw @Int.natCast_zero @Int.mul_zero)),sl (tw @Int.add_zero (tw @Int.natCast_zero @Int.mul_zero)),by(try dsimp only);exact⟨⟨bD,fun x _ _=>rfl⟩,l,hn,hg⟩⟩ ?_
 rintro n_a env_a st_a ⟨j,rfl,ale,a5,a1,l7⟩ dE
 have a0:=dE 0 (by kernel_rfl)
 simp only[go_sem, ↓reduceIte,Nat.reduceEqDiff,Nat.reduceAdd,Nat.reduceSub,Nat.reduceLeDiff,reduceCtorEq,Int.add_zero,Int.natCast_zero,Int.mul_zero]at a0
 clear dE
 obtain⟨⟨an,aF⟩,l',al,ag⟩:=l7
 by_cases hj:(j:Int)<(nn:Int)
 ·have cl:∀{e:Env} {gg:Rows} {nx:Nat},(e 5=.int .i64 (IntKind.i64.wrap ((j:Int)+1)))->(e 1=.int .i64 (k+2*(j+1)))->(qH σ [i] gg nx/\∃l':List eS,l'.length=nn/\gg i=some ⟨true,2,l'.map aV⟩)->∃m0,m0<(nn)-j/\∃j:Nat,m0=(nn)-j/\j<=(nn)/\e 5=.int .i64 (j:Int)/\e 1=.int .i64 (k+2*j)/\(qH σ [i] gg nx/\∃l':List eS,l'.length=nn/\gg i=some ⟨true,2,l'.map aV⟩):=fun x1 x2 x3=>⟨_,ab,j+1,rfl,ab,(by rw[x1,aA ab]),x2,x3⟩
  have im:j<l'.length:=ab
  have dW:(l'.map aV)[j]? =some [.str l'[j].aB,.int .i64 l'[j].dF]:=by simp[im,aV]
  have hlen:(l'.map aV).length=nn:=by rw[List.length_map,al]
  have Ib:∀c:List AV,((l'.map aV).set j c)[j]? =some c:=fun c=>by rw[List.getElem?_set_self (by rw[List.length_map];exact im)]
  have ht:=s8 (k+2*(j:Int)) ab ab
  have mm:IntKind.i64.wrap (k+2*(j:Int)+1)=k+2*(j:Int)+1:=aQ ab
  have AL:IntKind.i64.wrap (k+2*(j:Int)+1+1)=k+2*((j:Int)+1):=by rw[aQ ab];omega
  generalize mZ (k+2*(j:Int))=mt at ht
  have dQ:(l'.map aV).set j [.str mt,.int .i64 (k+2*(j:Int)+1)]=(l'.set j ⟨mt,k+2*(j:Int)+1⟩).map aV:=by rw[List.map_set];rfl
  (repeat(first|((repeat(revert hN;revert N;apply Pn.out));refine wk (tw @a5 (tw @a1 (tw @a0 (tw @hj (tw @ag (tw @dW (tw @Ib (tw @dQ (tw @mm (tw @AL (tw @hlen @tv))))))))))) ?_;(repeat(refine Pn.mk ?_;intro N hN)))|((try apply Or.inl);refine⟨_,ai.x (ht) (sd (tw @a5 (tw @a1 (tw @a0 (tw @hj (tw @ag (tw @dW (tw @Ib (tw @dQ (tw @mm (tw @AL (tw @hlen @tv)))))))))))),?_⟩;refine hN _ _ ?_;clear hN N)))
  refine cl ?_ ?_ (by(try dsimp only);exact⟨⟨bD,fun x hx hi=>by
   have h2:=aF x hx hi
   have h3:(x=i)=False:=eq_false fun e=>hi (by simp[e])
   simp only[go_sem, ↓reduceIte,Nat.reduceEqDiff,Nat.reduceAdd,Nat.reduceSub,Nat.reduceLeDiff,reduceCtorEq,h2,h3]⟩,l'.set j ⟨mt,k+2*(j:Int)+1⟩,by simp[al],sl @Nat.zero_add⟩)
  all_goals simp only[go_sem, ↓reduceIte,Nat.reduceEqDiff,Nat.reduceAdd,Nat.reduceSub,Nat.reduceLeDiff,reduceCtorEq,a5,a1,a0,AL,dQ]
 ·have im:j=nn:=ab
  subst im
  (try((repeat(revert hN;revert N;apply Pn.out));refine wk (tw @a5 (tw @a1 (tw @a0 @hj))) ?_;(repeat(refine Pn.mk ?_;intro N hN))))
  exact gy (.inl rfl) (vs:=[.int .i64 (k+2*j)]) (sd (tw @a5 (tw @a1 @a0))) ⟨rfl,⟨bD,fun x hx hi=>aF x hx hi⟩⟩
theorem gq.flat {α:Type} {e:α->List AV} {z:Nat} {g:Rows} {a:AV} {xs:List α} {ids:List Id} (h:gq (kh e) z g a xs ids):∃o,a=.own o 0 xs.length/\g o=some ⟨true,z,xs.map e⟩/\ids=[o]:=by
 obtain⟨o,rows,is,h1,h2,h3,rfl⟩:=h
 have:∀{rows:List (List AV)} {xs:List α} {is:List Id},dM (kh e) g rows xs is->rows=xs.map e/\is=[]:=fun h=>by
  induction h with
  |nil=>exact⟨rfl,rfl⟩
  |cons h1 _ ih=>obtain⟨rfl,rfl⟩:=h1;obtain⟨rfl,rfl⟩:=ih;exact⟨rfl,rfl⟩
 obtain⟨rfl,rfl⟩:=this h3
 exact⟨o,h1,h2,rfl⟩
def fD (t:ef):Nat:=1+t.aY.length
theorem yZ (a:AV) (l:List ef) (ids:List Id) (k:Int) (h0:0<=k) (EJ:l.length<=1048576) (h1:k+(l.map fD).sum<=4611686018427387904) (σ:ax) (hv:∀i∈ids,i.bZ<σ.next) (lD:ids.Nodup) (hg:gq mC 2 σ.get a l ids):
  Call Tryz.prog 80 [a,.int .i64 k] σ (fun r σ'=>r=.int .i64 (k+(l.map fD).sum)/\qH σ ids σ'.get σ'.next):=by
 obtain⟨o,rows,is,rfl,ho,hR,rfl⟩:=hg
 refine fm dP rfl fun hl=>?_
 clear hl
 have qY:=hv o (by simp)
 have JM:=k9 fD l
 (try((repeat(revert hN;revert N;apply Pn.out));refine wk @Nat.zero_add ?_;(repeat(refine Pn.mk ?_;intro N hN))))
 refine aJ (fun n env st=>∃j:Nat,n=(l.length)-j/\j<=(l.length)/\env 5=.int .i64 (j:Int)/\env 1=.int .i64 (k+gL fD l j)/\(qH σ (o::is) st.get st.next/\∃pre rest ir,st.get o=some ⟨true,2,pre++rest⟩/\pre.length=j/\dM mC st.get rest (l.drop j) ir/\(o::ir).Nodup/\∀i∈ir,i∈is)) (l.length) ⟨0,ab,ab,sl (tw @Int.add_zero (tw @Int.natCast_zero @JM)),sl (tw @Int.add_zero (tw @Int.natCast_zero @JM)),by(try dsimp only);exact⟨⟨bD,fun x _ _=>rfl⟩,[],rows,is,ho,rfl,hR,lD,fun _ h=>h⟩⟩ ?_
 rintro n_a env_a st_a ⟨j,rfl,ale,a5,a1,l7⟩ dE
 have a0:=dE 0 (by kernel_rfl)
 simp only[go_sem, ↓reduceIte,Nat.reduceEqDiff,Nat.reduceAdd,Nat.reduceSub,Nat.reduceLeDiff,reduceCtorEq,Int.add_zero,Int.natCast_zero,JM]at a0
 clear dE
 obtain⟨⟨an,aF⟩,pre,rest,ir,ag,apl,aR,aN,aS⟩:=l7
 by_cases hj:(j:Int)<(l.length:Int)
 ·have cl:∀{e:Env} {gg:Rows} {nx:Nat},(e 5=.int .i64 (IntKind.i64.wrap ((j:Int)+1)))->(e 1=.int .i64 (k+gL fD l (j+1)))->(qH σ (o::is) gg nx/\∃pre rest ir,gg o=some ⟨true,2,pre++rest⟩/\pre.length=(j+1)/\dM mC gg rest (l.drop (j+1)) ir/\(o::ir).Nodup/\∀i∈ir,i∈is)->∃m0,m0<(l.length)-j/\∃j:Nat,m0=(l.length)-j/\j<=(l.length)/\e 5=.int .i64 (j:Int)/\e 1=.int .i64 (k+gL fD l j)/\(qH σ (o::is) gg nx/\∃pre rest ir,gg o=some ⟨true,2,pre++rest⟩/\pre.length=j/\dM mC gg rest (l.drop j) ir/\(o::ir).Nodup/\∀i∈ir,i∈is):=fun x1 x2 x3=>⟨_,ab,j+1,rfl,ab,(by rw[x1,aA ab]),x2,x3⟩
  have im:j<l.length:=ab
  have Li:=tC fD im
  have hle:=oi fD l (j+1)
  obtain⟨t,htj⟩:∃t,l[j]=t:=⟨_,rfl⟩
  rw[List.drop_eq_getElem_cons im,htj]at aR
  rw[htj]at Li
  cases aR with
  | @cons cs _ ic rs _ i2 hT Nt=>
  obtain⟨i,rfl,hi,rfl⟩:=hT
  rw[List.singleton_append]at aN aS
  obtain⟨n1,n2⟩:=List.nodup_cons.1 aN
  obtain⟨n3,n4⟩:=List.nodup_cons.1 n2
  have Mx:(o=i)=False:=eq_false fun e=>n1 (by simp[e])
  have Ms:(i=o)=False:=eq_false fun e=>n1 (by simp[e])
  have hiv:i.bZ<σ.next:=hv i (by simp[aS i (by simp)])
  have NR:fD t=1+t.aY.length:=rfl
  have ht:=s8 (k+(gL fD l j:Nat)) ab ab
  have mm:IntKind.i64.wrap (k+(gL fD l j:Nat)+1)=k+(gL fD l j:Nat)+1:=aQ ab
  generalize mZ (k+(gL fD l j:Nat))=mt at ht
  have dW:(pre++[.str t.aB,.own i 0 t.aY.length]::rs)[j]? =some [.str t.aB,.own i 0 t.aY.length]:=by subst apl;simp
  have dQ:(pre++[.str t.aB,.own i 0 t.aY.length]::rs).set j [.str mt,.own i 0 t.aY.length]=pre++[.str mt,.own i 0 t.aY.length]::rs:=by subst apl;simp
  have JD:(pre++[.str mt,.own i 0 t.aY.length]::rs)[j]? =some [.str mt,.own i 0 t.aY.length]:=by subst apl;simp
  (repeat(first|((repeat(revert hN;revert N;apply Pn.out));refine wk (tw @a5 (tw @a1 (tw @a0 (tw @hj (tw @ag (tw @dW (tw @dQ (tw @JD (tw @mm (tw @Mx (tw @Ms @hi))))))))))) ?_;(repeat(refine Pn.mk ?_;intro N hN)))|((try apply Or.inl);refine⟨_,ai.x (ht) (sd (tw @a5 (tw @a1 (tw @a0 (tw @hj (tw @ag (tw @dW (tw @dQ (tw @JD (tw @mm (tw @Mx (tw @Ms @hi)))))))))))),?_⟩;refine hN _ _ ?_;clear hN N)))
  refine .inr (aO _ _ _ _ _ (fun r σ1 hq=>?_) (A4 i t.aY (k+(gL fD l j:Nat)+1) ab ab _ bD (sd (tw @Mx (tw @Ms @hi)))))
  obtain⟨g1,x1⟩:=σ1
  obtain⟨rfl,Hx,rK⟩:=hq
  (try dsimp only at Hx rK)
  refine hN _ _ ?_
  clear hN N
  have QB:k+(gL fD l j:Nat)+1+t.aY.length=k+(gL fD l (j+1):Nat):=ab
  (try((repeat(revert hN;revert N;apply Pn.out));refine wk (tw @a5 (tw @a1 (tw @a0 @QB))) ?_;(repeat(refine Pn.mk ?_;intro N hN))))
  have gk:∀x:Id,x.bZ<σ.next->x≠o->x≠i->g1 x=st_a.get x:=fun x hx h3 h4=>by
   have h2:=rK x bD (by simp[h4])
   have h5:=eq_false h3
   simp only[go_sem, ↓reduceIte,Nat.reduceEqDiff,Nat.reduceAdd,Nat.reduceSub,Nat.reduceLeDiff,reduceCtorEq,h5]at h2
   exact h2
  have go:=rK o bD (by simp only[List.mem_singleton];exact fun e=>n1 (by simp[e]))
  simp only[go_sem, ↓reduceIte,Nat.reduceEqDiff,Nat.reduceAdd,Nat.reduceSub,Nat.reduceLeDiff,reduceCtorEq]at go
  refine cl ?_ ?_ (by(try dsimp only);exact⟨⟨bD,fun x hx hi=>by
   have h3:x≠o:=fun e=>hi (by simp[e])
   have h4:x≠i:=fun e=>hi (by simp[e,aS i (by simp)])
   rw[gk x hx h3 h4]
   exact aF x hx hi⟩,pre++[[.str mt,.own i 0 t.aY.length]],rs,i2,by rw[go];simp,by simp[apl],Nt.frame oQ (fun x hx=>gk x (hv x (by simp[aS x (by simp[hx])])) (fun e=>n1 (by simp[<-e,hx])) (fun e=>n3 (by rw[<-e];exact hx))),List.nodup_cons.2 ⟨fun h=>n1 (by simp[h]),n4⟩,fun x hx=>aS x (by simp[hx])⟩)
  all_goals simp only[go_sem, ↓reduceIte,Nat.reduceEqDiff,Nat.reduceAdd,Nat.reduceSub,Nat.reduceLeDiff,reduceCtorEq,a5,a1,a0,QB]
 ·have im:j=l.length:=ab
  subst im
  have cN:=zk fD l
  rw[cN]at a1
  (try((repeat(revert hN;revert N;apply Pn.out));refine wk (tw @a5 (tw @a1 (tw @a0 @hj))) ?_;(repeat(refine Pn.mk ?_;intro N hN))))
  exact gy (.inl rfl) (vs:=[.int .i64 (k+(l.map fD).sum)]) (sd (tw @a5 (tw @a1 @a0))) ⟨rfl,⟨bD,fun x hx hi=>aF x hx hi⟩⟩
theorem vn (v:AV) (p:dd) (ids:List Id) (k:Int) (h0:0<=k) (h1:k+3*p.ae.length<=4611686018427387904) (σ:ax) (hv:∀i∈ids,i.bZ<σ.next) (hg:vL σ.get v p ids):
  Call Tryz.prog 17 [v,.int .i64 k] σ (fun r σ'=>r=.int .i64 (k+3*p.ae.length)/\qH σ ids σ'.get σ'.next):=by
 obtain⟨c,rfl,hc⟩:=hg
 obtain⟨o,rfl,ho,rfl⟩:=hc.flat
 refine fm dP rfl fun hl=>?_
 clear hl
 have qY:=eK (hv o (by simp))
 have Ip:=hv o (by simp)
 (try((repeat(revert hN;revert N;apply Pn.out));refine wk @Nat.zero_add ?_;(repeat(refine Pn.mk ?_;intro N hN))))
 refine .inr (aO _ _ _ _ _ (fun r σ1 hq=>?_) (wO o p.ae k h0 h1 _ bD (sd (tw @qY @ho))))
 obtain⟨g1,x1⟩:=σ1
 obtain⟨rfl,⟨Hx,rK⟩,_⟩:=hq
 (try dsimp only at Hx rK)
 refine hN _ _ ?_
 clear hN N
 (try((repeat(revert hN;revert N;apply Pn.out));refine wk @Nat.zero_add ?_;(repeat(refine Pn.mk ?_;intro N hN))))
 exact gy (.inl rfl) (vs:=[.int .i64 (k+3*p.ae.length)]) (sd @Nat.zero_add) ⟨rfl,⟨bD,fun x hx hi=>by
  have h2:=rK x bD hi
  have h3:=eK hx
  simp only[go_sem, ↓reduceIte,Nat.reduceEqDiff,Nat.reduceAdd,Nat.reduceSub,Nat.reduceLeDiff,reduceCtorEq,h3]at h2
  exact h2⟩⟩
def yX (s:bV):Nat:=2*s.ar.aw.length+(s.ar.ae.map fD).sum+3*s.bR.ae.length
theorem DX (a b:AV) (p:aq) (i1 i2:List Id) (k:Int) (h0:0<=k) (EJ:p.ae.length<=1048576) (h1:k+2*p.aw.length+(p.ae.map fD).sum<=4611686018427387904) (σ:ax) (hv:∀i∈i1++i2,i.bZ<σ.next) (lD:(i1++i2).Nodup)
  (hA:gq (kh aV) 2 σ.get a p.aw i1) (hB:gq mC 2 σ.get b p.ae i2):
  Call Tryz.prog 47 [.agg [a,b],.int .i64 k] σ (fun r σ'=>r=.int .i64 (k+2*p.aw.length+(p.ae.map fD).sum)/\qH σ (i1++i2) σ'.get σ'.next):=by
 obtain⟨_,n2,n3⟩:=List.nodup_append.1 lD
 obtain⟨o,rfl,ho,rfl⟩:=hA.flat
 obtain⟨ob,rfl⟩:=hB.jQ
 refine fm dP rfl fun hl=>?_
 clear hl
 have Ip:=hv o (by simp)
 have qY:=eK Ip
 (try((repeat(revert hN;revert N;apply Pn.out));refine wk @Nat.zero_add ?_;(repeat(refine Pn.mk ?_;intro N hN))))
 refine .inr (aO _ _ _ _ _ (fun r σ1 hq=>?_) (yY o p.aw k h0 ab _ bD (sd (tw @qY @ho))))
 obtain⟨g1,x1⟩:=σ1
 obtain⟨rfl,Hx,rK⟩:=hq
 (try dsimp only at Hx rK)
 refine hN _ _ ?_
 clear hN N
 have k1:=rK ⟨47000000,σ.next⟩ bD (by simp only[List.mem_singleton];intro e;rw[<-e]at Ip;(try dsimp only at Ip);omega)
 simp only[go_sem, ↓reduceIte,Nat.reduceEqDiff,Nat.reduceAdd,Nat.reduceSub,Nat.reduceLeDiff,reduceCtorEq]at k1
 (try((repeat(revert hN;revert N;apply Pn.out));refine wk @k1 ?_;(repeat(refine Pn.mk ?_;intro N hN))))
 have hf:∀x:Id,x.bZ<σ.next->x≠o->g1 x=σ.get x:=fun x hx ho=>by
  have h2:=rK x bD (by simp[ho])
  have h3:=eK hx
  simp only[go_sem, ↓reduceIte,Nat.reduceEqDiff,Nat.reduceAdd,Nat.reduceSub,Nat.reduceLeDiff,reduceCtorEq,h3]at h2
  exact h2
 refine .inr (aO _ _ _ _ _ (fun r σ2 hq=>?_) (yZ _ p.ae i2 (k+2*p.aw.length) ab EJ h1 _ (fun i hi=>by have:=hv i (by simp[hi]);(try dsimp only);omega) n2 (hB.frame oQ fun i hi=>hf i (hv i (by simp[hi])) fun e=>n3 o (by simp) i hi e.symm)))
 obtain⟨g2,x2⟩:=σ2
 obtain⟨rfl,NY,Dx⟩:=hq
 (try dsimp only at NY Dx)
 refine hN _ _ ?_
 clear hN N
 (try((repeat(revert hN;revert N;apply Pn.out));refine wk @Nat.zero_add ?_;(repeat(refine Pn.mk ?_;intro N hN))))
 exact gy (.inl rfl) (vs:=[.int .i64 (k+2*p.aw.length+(p.ae.map fD).sum)]) (sd @Nat.zero_add) ⟨rfl,⟨bD,fun x hx hi=>(Dx x bD fun h=>hi (by simp[h])).trans (hf x hx fun e=>hi (by simp[e]))⟩⟩
theorem DY (v:AV) (p:bV) (ids:List Id) (k:Int) (h0:0<=k) (EJ:p.ar.ae.length<=1048576) (h1:k+yX p<=4611686018427387904) (σ:ax) (hv:∀i∈ids,i.bZ<σ.next) (lD:ids.Nodup) (hg:xE σ.get v p ids):
  Call Tryz.prog 16 [v,.int .i64 k] σ (fun r σ'=>r=.int .i64 (k+yX p)/\qH σ ids σ'.get σ'.next):=by
 obtain⟨a,b,c,i1,i2,i3,rfl,hA,hB,hC,rfl⟩:=hg.ex
 rw[<-List.append_assoc]at lD
 obtain⟨n1,_,n3⟩:=List.nodup_append.1 lD
 obtain⟨oa,rfl⟩:=hA.jQ
 obtain⟨ob,rfl⟩:=hB.jQ
 obtain⟨oc,rfl⟩:=hC.jQ
 have hm:(yX p:Int)=2*p.ar.aw.length+(p.ar.ae.map fD).sum+3*p.bR.ae.length:=by simp[yX]
 refine fm dP rfl fun hl=>?_
 clear hl
 have PS:∀x∈i1++(i2++i3),bI σ.get ⟨16000000,σ.next⟩ ⟨true,4,[[.own oa 0 p.ar.aw.length,.own ob 0 p.ar.ae.length,.own oc 0 p.bR.ae.length,.int .i64 p.aG]]⟩ x=σ.get x:=fun x hx=>by
  have:=eK (hv x hx)
  simp only[go_sem, ↓reduceIte,Nat.reduceEqDiff,Nat.reduceAdd,Nat.reduceSub,Nat.reduceLeDiff,reduceCtorEq,this]
 (try((repeat(revert hN;revert N;apply Pn.out));refine wk @Nat.zero_add ?_;(repeat(refine Pn.mk ?_;intro N hN))))
 refine .inr (aO _ _ _ _ _ (fun r σ1 hq=>?_) (DX _ _ p.ar i1 i2 k h0 EJ ab _ (fun i hi=>by have:=hv i (by rcases List.mem_append.1 hi with h|h<;>simp[h]);(try dsimp only);omega) n1 (hA.frame yj fun i hi=>PS i (by simp[hi])) (hB.frame oQ fun i hi=>PS i (by simp[hi]))))
 obtain⟨g1,x1⟩:=σ1
 obtain⟨rfl,Hx,rK⟩:=hq
 (try dsimp only at Hx rK)
 refine hN _ _ ?_
 clear hN N
 have k1:=rK ⟨16000000,σ.next⟩ bD (fun h=>by
  have:=hv ⟨16000000,σ.next⟩ (by rcases List.mem_append.1 h with h|h<;>simp[h])
  (try dsimp only at this);omega)
 simp only[go_sem, ↓reduceIte,Nat.reduceEqDiff,Nat.reduceAdd,Nat.reduceSub,Nat.reduceLeDiff,reduceCtorEq]at k1
 (try((repeat(revert hN;revert N;apply Pn.out));refine wk @k1 ?_;(repeat(refine Pn.mk ?_;intro N hN))))
 refine .inr (aO _ _ _ _ _ (fun r σ2 hq=>?_) (vn _ p.bR i3 (k+2*p.ar.aw.length+(p.ar.ae.map fD).sum) ab ab _ (fun i hi=>by have:=hv i (by simp[hi]);(try dsimp only);omega) ⟨_,rfl,hC.frame uR fun i hi=>?_⟩))
 rotate_left
 ·exact(rK i (by have:=hv i (by simp[hi]);(try dsimp only);omega) fun h=>n3 i h i hi rfl).trans (PS i (by simp[hi]))
 obtain⟨g2,x2⟩:=σ2
 obtain⟨rfl,NY,Dx⟩:=hq
 (try dsimp only at NY Dx)
 refine hN _ _ ?_
 clear hN N
 (try((repeat(revert hN;revert N;apply Pn.out));refine wk @Nat.zero_add ?_;(repeat(refine Pn.mk ?_;intro N hN))))
 exact gy (.inl rfl) (vs:=[.int .i64 (k+2*p.ar.aw.length+(p.ar.ae.map fD).sum+3*p.bR.ae.length)]) (sd @Nat.zero_add) ⟨by rw[hm];exact congrArg (AV.int .i64) ab,⟨bD,fun x hx hi=>by
  have h2:=Dx x bD fun h=>hi (by simp[h])
  have h3:=rK x bD fun h=>hi (by rcases List.mem_append.1 h with h|h<;>simp[h])
  have h4:=eK hx
  simp only[go_sem, ↓reduceIte,Nat.reduceEqDiff,Nat.reduceAdd,Nat.reduceSub,Nat.reduceLeDiff,reduceCtorEq,h4]at h3
  exact h2.trans h3⟩⟩
end Go.Proofs.YtihgaadadaekmaaGreatDoor.V

namespace Go.Proofs.YtihgaadadaekmaaGreatDoor.V
open Go.RowKit
def AV.clean:AV->Bool
 | .int .. | .bool _| .str _| .bE| .fZ| .iH| .iR| .own .. | .ptr .. | .map .. | .qf _=>true
 | .sl l=>l.isEmpty
 |_=>false
def AV.qh:AV->Bool
 | .agg cs=>cs.all AV.clean
 | .gU cs=>cs.all fun a=>match a with
  | .agg cs=>cs.all AV.clean
  |a=>a.clean
 |a=>a.clean
def vI (ids:List Id) (g g':Rows):Rows:=fun id=>if id∈ids then g' id else g id
theorem tH {ids:List Id} {g g':Rows} {id:Id} (h:id∈ids):vI ids g g' id=g' id:=if_pos h
theorem qC {ids:List Id} {g g':Rows} {id:Id} (h:id∉ids):vI ids g g' id=g id:=if_neg h
section
variable {P:Program} {w w':World} {D D' D1 D2:Nat->Prop} {ι ι1 ι2:Names}
theorem jc {a:AV} {v:Value} (hp:a.clean=true) (h:cv P w D1 ι1 a v):cv P w D2 ι1 a v:=by
 cases h with
 |ew a v h=>
  cases h with
  |int=>exact .ew _ _ (.int _ _)
  |bool=>exact .ew _ _ (.bool _)
  |str=>exact .ew _ _ (.str _)
  |bE=>exact .ew _ _ .bE
  |fZ=>exact .ew _ _ .fZ
  |iH=>exact .ew _ _ .iH
  |iR=>exact .ew _ _ .iR
  |zE a c h=>exact .ew _ _ (.zE a c h)
  |sl rows b o n c sz vs h1 h2 h3=>
   have:rows=[]:=by simpa[AV.clean]using hp
   subst this
   simp only[List.length_nil]at h1
   subst h1
   exact .ew _ _ (.zE _ _ h3)
  |cH=>simp[AV.clean]at hp
  |agg=>simp[AV.clean]at hp
  |fn=>simp[AV.clean]at hp
 |own id off len o cap B h1 h2 h3 h4 h5 h6=>exact .own id off len o cap B h1 h2 h3 h4 h5 h6
 |map id m B h1 h2=>exact .map id m B h1 h2
 |qf id c B h1 h2=>exact .qf id c B h1 h2
 |ptr id i off B h1 h2=>exact .ptr id i off B h1 h2
 |agg=>simp[AV.clean]at hp
 |gU=>simp[AV.clean]at hp
 |fn=>simp[AV.clean]at hp
 |tU=>simp[AV.clean]at hp
theorem kE {cs:List AV} {v:Value} (hc:cs.all AV.clean=true) (h:cv P w D1 ι1 (.agg cs) v):cv P w D2 ι1 (.agg cs) v:=by
 obtain⟨vs,f,rfl,h1,h2,h3,h4⟩:=gT h
 rw[List.all_eq_true]at hc
 exact .agg cs vs f h1 h2 h3 fun j a ha=>jc (hc a (List.mem_of_getElem? ha)) (h4 j a ha)
theorem Bi {a:AV} {v:Value} (hp:a.qh=true) (h:cv P w D1 ι1 a v):cv P w D2 ι1 a v:=by
 cases a with
 |agg cs=>exact kE hp h
 |gU cs=>
  obtain⟨vs,f,rfl,h1,h3,h4⟩:=r9 h
  simp only[AV.qh,List.all_eq_true]at hp
  refine .gU cs vs f h1 h3 fun j a ha=>?_
  have:=hp a (List.mem_of_getElem? ha)
  split at this
  ·exact kE this (h4 j _ ha)
  ·exact jc this (h4 j _ ha)
 |_=>exact jc hp h
theorem Bf {ag:Bool} {n:Nat} {cs:List AV} {x:AV} {v:Value} (hc:∀a∈cs,a.clean=true) (hp:part ag n cs=some x) (hr:cv P w D1 ι1 x v):cv P w D2 ι1 x v:=by
 unfold part at hp
 split at hp
 ·split at hp
  ·simp only[Option.some.injEq]at hp;subst hp
   exact kE (List.all_eq_true.2 fun a ha=>hc a (List.mem_of_mem_take ha)) hr
  ·cases hp
 ·exact jc (hc x (List.mem_of_mem_head? hp)) hr
theorem gN.clean {B:qG} {r:Row} (R:gN P w D1 ι1 B r) (h:∀cs∈r.rows,∀a∈cs,a.clean=true):gN P w D2 ι1 B r:=
 ⟨R.sz,R.flat,fun hk=>⟨R.sz,(R.row hk).CX,(R.row hk).fits,(R.row hk).len,R.flat,fun i j cs a hi hj=>by
  obtain⟨v,q1,q2⟩:=(R.row hk).at_ i j cs a hi hj
  exact⟨v,q1,jc (h cs (List.mem_of_getElem? hi) a (List.mem_of_getElem? hj)) q2⟩⟩,fun m hm=>by
  obtain⟨h1,es,c,h2,h3,h5,h4⟩:=R.map m hm
  refine⟨h1,es,c,h2,h3,h5,fun i cs hi=>?_⟩
  obtain⟨e,kv,vv,q1,q2,q3,q4,q5⟩:=h4 i cs hi
  have hc:=h cs (List.mem_of_getElem? hi)
  exact⟨e,kv,vv,q1,q2,q3,Bf hc q2 q4,jc (hc vv (List.mem_of_getElem? q3)) q5⟩,fun c hc=>by
  obtain⟨h1,buf,s,q,h2,h3,h4⟩:=R.chan c hc
  refine⟨h1,buf,s,q,h2,h3,fun i cs hi=>?_⟩
  obtain⟨a,u,rfl,q2,q3⟩:=h4 i cs hi
  exact⟨a,u,rfl,q2,jc (h [a] (List.mem_of_getElem? hi) a (by simp)) q3⟩⟩
def Handed (ids:List Id) (g:Rows):Prop:=∀id∈ids,∃r,g id=some r/\r.w=true/\∀cs∈r.rows,∀a∈cs,a.clean=true
theorem EA {f:Nat} {args eJ:List AV} {g:Rows} {n:Nat} {K:AV->ax->Prop} (hv:bY (dC g) 6 args=some eJ)
  (h:Sound P f eJ ⟨fun _=>none,n⟩ fun r σ'=>∃ids,r.qh=true/\Handed ids σ'.get/\K r ⟨vI ids g σ'.get,σ'.next⟩):Sound P f args ⟨g,n⟩ K:=by
 intro hs D ι w vs S U A
 let E:Nat->Prop:=fun b=>D b∨∃id r B,g id=some r/\ι id=some B/\b=B.b
 have lt:∀id r B,g id=some r->ι id=some B->B.b<w.heap.size:=fun id r B h1 h2=>by
  obtain⟨B',dk,R,_⟩:=S.row id r h1
  rw[h2]at dk;injection dk with dk;subst dk
  exact R.lt
 have S0:fG P w.heap.size E ι (fun _=>none) w:=⟨Nat.le_refl _,fun b hb=>by
  rcases hb with hb|⟨id,r,B,h1,h2,rfl⟩
  ·exact S.dead b hb
  ·exact lt id r B h1 h2,fun id r h=>(by cases h),fun id jP r r' B B' h=>(by cases h)⟩
 obtain⟨l1,l2⟩:=fC hv
 have A':eP P w E ι eJ vs:=⟨by rw[A.1,l1],fun j a hj=>by
  obtain⟨a0,j8,hz⟩:=l2 j a hj
  obtain⟨u,hu,hr⟩:=A.2 j a0 j8
  refine⟨u,hu,(pf (D2:=E) (ι2:=ι) (fun b h=>.inl h) (fun id row hg hw=>?_) 6 a0 u a hr hz).1⟩
  unfold dC at hg
  simp only[Option.map_eq_some_iff]at hg
  obtain⟨r,mo,rfl⟩:=hg
  obtain⟨B,hB,R,_,_⟩:=S.row id r mo
  exact⟨B,hB,R.flag true,.inr ⟨id,r,B,mo,hB,rfl⟩⟩⟩
 refine(h w.heap.size E ι w vs S0 U A').mono ?_
 rintro e w' ⟨r0,g',n',D2,ι1,u,rfl,⟨ids,kB,hid,hK⟩,T,S1,U1,hn,hR⟩
 have hb:∀b,b<w.heap.size->w'.heap[b]? =w.heap[b]? :=T.below.block
 have hz:=T.below.size
 have frame:∀{a v},cv P w D ι a v->cv P w' D ι1 a v:=fun h=>h.frame (fun b hd=>hb b (S.dead b hd)) (fun _ h=>h) T.names
 refine⟨r0,_,n',D,ι1,u,rfl,hK,⟨T.below.mono S.lo,fun b hd=>hb b (S.dead b hd),fun _ h=>h,T.names,fun _ h=>.inl h⟩,⟨Nat.le_trans S.lo hz,fun b hd=>Nat.lt_of_lt_of_le (S.dead b hd) hz,fun id r hr=>?_,fun Og id2 r1 r2 B1 B2 h1 h2 hw xp nS Jy=>?_⟩,U1,hn,Bi kB hR⟩
 ·by_cases hi:id∈ids
  ·rw[tH hi]at hr
   obtain⟨r',mo,hw,hcr⟩:=hid id hi
   rw[hr]at mo;injection mo with mo;subst mo
   obtain⟨B,hB,R,k1,k2⟩:=S1.row id r hr
   have jH:=k1 hw
   exact⟨B,hB,R.clean hcr,fun _=>Nat.le_trans S.lo jH,fun _ hd=>Nat.lt_irrefl _ (Nat.lt_of_lt_of_le (S.dead _ hd) jH)⟩
  ·rw[qC hi]at hr
   obtain⟨B,hB,R,k1,k2⟩:=S.row id r hr
   have hBl:=lt id r B hr hB
   exact⟨B,T.names _ _ hB,R.frame (hb _ hBl) fun a v h=>frame h,k1,k2⟩
 ·have new:∀{id r B},id∈ids->vI ids g g' id=some r->ι1 id=some B->w.heap.size<=B.b/\g' id=some r/\r.w=true:=fun {id r B} hi hr hB=>by
   rw[tH hi]at hr
   obtain⟨r',mo,hw,_⟩:=hid id hi
   replace mo:g' id=some r':=mo
   rw[hr]at mo;injection mo with mo;subst mo
   obtain⟨B',dk,_,k1,_⟩:=S1.row id r hr
   rw[hB]at dk;injection dk with dk;subst dk
   exact⟨k1 hw,hr,hw⟩
  have za:∀{id r B},id∉ids->vI ids g g' id=some r->ι1 id=some B->B.b<w.heap.size/\g id=some r/\ι id=some B:=fun {id r B} hi hr hB=>by
   rw[qC hi]at hr
   obtain⟨B',dk,_⟩:=S.row id r hr
   have:=T.names _ _ dk
   rw[hB]at this;injection this with this;subst this
   exact⟨lt id r _ hr dk,hr,dk⟩
  by_cases i1:Og∈ids
  ·obtain⟨a1,a2,a3⟩:=new i1 h1 xp
   by_cases i2:id2∈ids
   ·obtain⟨b1,b2,b3⟩:=new i2 h2 nS
    exact S1.inj Og id2 r1 r2 B1 B2 a2 b2 hw xp nS Jy
   ·obtain⟨b1,_⟩:=za i2 h2 nS
    omega
  ·obtain⟨a1,a2,a3⟩:=za i1 h1 xp
   by_cases i2:id2∈ids
   ·obtain⟨b1,_⟩:=new i2 h2 nS
    omega
   ·obtain⟨b1,b2,b3⟩:=za i2 h2 nS
    exact S.inj Og id2 r1 r2 B1 B2 a2 b2 hw a3 b3 Jy
theorem EU (hm:P.follows .mixedOrders=true) {f:Nat} {args eJ:List AV} {σ:ax} {K:AV->ax->Prop} (hv:bY (dC σ.get) 6 args=some eJ)
  (h:Call P f eJ ⟨fun _=>none,σ.next⟩ fun r σ'=>∃ids,r.qh=true/\Handed ids σ'.get/\K r ⟨vI ids σ.get σ'.get,σ'.next⟩):Call P f args σ K:=
 gV (EA hv (gr hm h))
end
inductive oj:List AV->List AV->Prop
 |nil:oj [] []
 |same (a) {l l'}:oj l l'->oj (a::l) (a::l')
 |ptr (cs rest) {l l'}:oj l l'->oj (.cH (cs++rest)::l) (.cH cs::l')
 |bE {l l'}:oj l l'->oj (.bE::l) (.sl []::l')
theorem I4 {P:Program} {w:World} {D:Nat->Prop} {ι:Names} {cs rest:List AV} {v:Value} (h:cv P w D ι (.cH (cs++rest)) v):cv P w D ι (.cH cs) v:=by
 obtain⟨b,o,vs,rfl,h1,h2,h3,h4⟩:=jX h
 exact .ew _ _ (.cH cs b o vs h1 (fun a ha=>h2 a (List.mem_append_left _ ha)) (fun j hj=>h3 j (by rw[List.length_append];omega)) fun j a ha=>h4 j a (by
  have:=(List.getElem?_eq_some_iff.1 ha).1
  rw[List.getElem?_append_left this];exact ha))
theorem I7 {P:Program} {w:World} {D:Nat->Prop} {ι:Names} {v:Value} (h:cv P w D ι .bE v):cv P w D ι (.sl []) v:=by
 cases h with
 |ew _ _ h=>
  cases h with
  |bE=>exact .ew _ _ (.zE none 0 (Nat.zero_le _))
theorem oj.len {l l':List AV} (h:oj l l'):l'.length=l.length:=by induction h<;>simp_all
theorem oj.get {P:Program} {w:World} {D:Nat->Prop} {ι:Names} {l l':List AV} (h:oj l l'):∀{j:Nat} {a':AV},l'[j]? =some a'->∃a,l[j]? =some a/\∀v,cv P w D ι a v->cv P w D ι a' v:=by
 induction h with
 |nil=>intro j a' hj;simp at hj
 |same a _ ih=>
  intro j a' hj
  cases j with
  |zero=>simp at hj;subst hj;exact⟨a,rfl,fun _ h=>h⟩
  |succ j=>exact ih (by simpa using hj)
 |ptr cs rest _ ih=>
  intro j a' hj
  cases j with
  |zero=>simp at hj;subst hj;exact⟨_,rfl,fun _ h=>I4 h⟩
  |succ j=>exact ih (by simpa using hj)
 |bE _ ih=>
  intro j a' hj
  cases j with
  |zero=>simp at hj;subst hj;exact⟨_,rfl,fun _ h=>I7 h⟩
  |succ j=>exact ih (by simpa using hj)
theorem Call.cut {P:Program} (hm:P.follows .mixedOrders=true) {f:Nat} {args eJ:List AV} {σ:ax} {K:AV->ax->Prop} (hc:oj args eJ) (h:Call P f eJ σ K):Call P f args σ K:=
 gV fun hs D ι w vs S U A=>gr hm h hs D ι w vs S U ⟨by rw[A.1,hc.len],fun j a' hj=>by
  obtain⟨a,ha,hr⟩:=hc.get (P:=P) (w:=w) (D:=D) (ι:=ι) hj
  obtain⟨u,hu,hv⟩:=A.2 j a ha
  exact⟨u,hu,hr u hv⟩⟩
theorem ai.cut {P:Program} (hm:P.follows .mixedOrders=true) {f:Nat} {args eJ:List AV} {r:AV} (hc:oj args eJ) (h:ai P f eJ r):ai P f args r:=fun n=>(h n).cut hm hc
end Go.Proofs.YtihgaadadaekmaaGreatDoor.V

namespace Go.Proofs.YtihgaadadaekmaaGreatDoor.V
open Go.RowKit
attribute [local irreducible] dO wpOps gO Call
attribute [local go_sem] aH fF eF fR fQ cu upd cm K.av cJ AV.cells AV.cell rowOf rowsOf part ld rowAt bI bU dG ei il bJ da eB fW eZ dq ep cY cX dU dV bP bd cQ bL cT cR ek er eo cP bS cZ ej bK aL cV cw ik br cI bQ aZ dz bl dI AV.undef bB bH dY eh dR ea cE eA eE cr ev eu cU cW List.getD_cons_zero List.getD_cons_succ List.getD_nil List.all_cons List.all_nil Bool.and_true Bool.true_and Bool.and_self Bool.not_true Bool.not_false Option.map_some Option.map_none Option.bind_some Option.bind_none List.length_cons List.length_nil List.take_succ_cons List.take_zero List.take_nil List.drop_succ_cons List.drop_zero List.drop_nil List.head?_cons List.map_cons List.map_nil List.getElem?_cons_zero List.getElem?_cons_succ List.cons_append List.nil_append List.append_nil List.length_map List.set_cons_zero List.set_cons_succ eq_self Int.toNat_natCast Int.natCast_nonneg and_self true_and and_true decide_true decide_false Bool.false_eq_true Nat.zero_add Nat.add_zero List.contains_cons List.contains_nil Bool.or_false Bool.false_or beq_self_eq_true ne_eq not_true_eq_false not_false_eq_true Id.mk.injEq false_and and_false Nat.le_refl List.length_append beq_true beq_false Bool.not_eq_eq_eq_not or_false false_or dC ad aj aE bz cj aT bj aX bf cK bG
section
variable {P:Program} {α:Type} {e:α->List AV} {z:Nat} {g g':Rows} {v:AV} {L:List α} {ids:List Id}
def om (e:α->List AV) (z:Nat) (g:Rows) (v:AV) (L:List α) (ids:List Id):Prop:=(L=[]/\v=.bE/\ids=[])∨∃o,v=.own o 0 L.length/\g o=some ⟨true,z,L.map e⟩/\ids=[o]/\0<L.length
def Lx (e:α->List AV) (L:List α):AV:=if L.length=0 then .bE else .sl (L.map e)
theorem om.frame (h:om e z g v L ids) (hf:∀i∈ids,g' i=g i):om e z g' v L ids:=by
 rcases h with h|⟨o,h1,h2,rfl,hp⟩
 ·exact .inl h
 ·exact .inr ⟨o,h1,(hf o (by simp)).trans h2,rfl,hp⟩
def lS (e:α->List AV) (L:List α) (w:AV):Prop:=(w=.bE/\L=[])∨w=.sl (L.map e)
def PE (P:Program) (f:Nat) (args:List AV) (e:α->List AV) (z:Nat) (L:List α) (c:Int):Prop:=
 ∀n:Nat,Call P f args ⟨fun _=>none,n⟩ (fun r σ'=>∃v ids,r=.gU [v,.int .i64 c]/\om e z σ'.get v L ids/\e6 n σ'.next ids)
theorem CN (hm:P.follows .mixedOrders=true) {f:Nat} {args:List AV} {σ:ax} {K:AV->ax->Prop} (h:Call P f args σ K):Call P f args σ (fun r σ'=>K r σ'/\σ.next<=σ'.next):=
 gV fun hs D ι w vs S U A=>(gr hm h hs D ι w vs S U A).mono (by
  rintro e w' ⟨r,g',n',D2,ι1,u,rfl,hK,T,S1,U1,hn,hR⟩
  exact⟨r,g',n',D2,ι1,u,rfl,⟨hK,hn⟩,T,S1,U1,hn,hR⟩)
theorem Gt:lS e L (Lx e L):=by
 unfold Lx
 split
 ·rename_i h;exact .inl ⟨rfl,List.eq_nil_of_length_eq_zero h⟩
 ·exact .inr rfl
end
theorem lS.cut {α:Type} {e:α->List AV} {L:List α} {w:AV} (h:lS e L w) {l l':List AV} (hl:oj l l'):oj (w::l) (.sl (L.map e)::l'):=by
 rcases h with⟨rfl,rfl⟩|rfl
 ·exact .bE hl
 ·exact .same _ hl
end Go.Proofs.YtihgaadadaekmaaGreatDoor.V

namespace Go.Proofs.YtihgaadadaekmaaGreatDoor.V
open Go.RowKit
attribute [local irreducible] dO wpOps gO Call
attribute [local go_sem] aH fF eF fR fQ cu upd cm K.av cJ AV.cells AV.cell rowOf rowsOf part ld rowAt bI bU dG ei il bJ da eB fW eZ dq ep cY cX dU dV bP bd cQ bL cT cR ek er eo cP bS cZ ej bK aL cV cw ik br cI bQ aZ dz bl dI AV.undef bB bH dY eh dR ea cE eA eE cr ev eu cU cW List.getD_cons_zero List.getD_cons_succ List.getD_nil List.all_cons List.all_nil Bool.and_true Bool.true_and Bool.and_self Bool.not_true Bool.not_false Option.map_some Option.map_none Option.bind_some Option.bind_none List.length_cons List.length_nil List.take_succ_cons List.take_zero List.take_nil List.drop_succ_cons List.drop_zero List.drop_nil List.head?_cons List.map_cons List.map_nil List.getElem?_cons_zero List.getElem?_cons_succ List.cons_append List.nil_append List.append_nil List.length_map List.set_cons_zero List.set_cons_succ Nat.reduceMul eq_self Int.toNat_natCast Int.natCast_nonneg and_self true_and and_true decide_true decide_false Bool.false_eq_true Nat.zero_add Nat.add_zero List.contains_cons List.contains_nil Bool.or_false Bool.false_or beq_self_eq_true Nat.reduceBEq ne_eq not_true_eq_false not_false_eq_true Id.mk.injEq false_and and_false Nat.reduceLT Int.reduceLE Int.reduceLT Int.reduceToNat Int.reduceNeg Int.reduceAdd Nat.le_refl List.length_append beq_true beq_false Bool.not_eq_eq_eq_not or_false false_or dC ad aj aE bz cj aT bj aX bf cK bG
end Go.Proofs.YtihgaadadaekmaaGreatDoor.V

namespace Go.Proofs.YtihgaadadaekmaaGreatDoor.V
open Go.RowKit
variable {P:Program}
theorem Lq (hm:P.follows .mixedOrders=true) {f:Nat} {args:List AV} {vs:Array Value} {w:World} (h:ai P f args (.bool true)) (hA:eP P w (fun b=>b<w.heap.size) (fun _=>none) args vs):
  Calls P f vs w fun e w'=>e=.returned (.bool true)/\Below w.heap.size w w':=by
 have hs:=gr hm (h 0) w.heap.size (fun b=>b<w.heap.size) (fun _=>none) w vs ⟨Nat.le_refl _,fun _ h=>h,fun id r h=>(by cases h),fun id jP r r' B B' h=>(by cases h)⟩ (fun id h=>absurd rfl h) hA
 refine hs.mono ?_
 rintro e w' ⟨r,g',n',D',ι',u,rfl,⟨r',hz,rfl⟩,dS,hsim,_,_,fY⟩
 have hr:r=.bool true:=by
  cases r<;>rw[fh]at hz<;>simp_all
  all_goals (repeat' (split at hz))<;>simp_all
 subst hr
 exact⟨by rw[eH fY],dS.below⟩
theorem jr {xs:List AV} {w:World} {D:Nat->Prop} {ι:Names} {a:AV} {v:Value} {vs:Array Value} (h:jk P w D a v) (k:eP P w D ι xs vs):eP P w D ι (a::xs) (#[v]++vs):=
 ni (xs:=[a]) ⟨rfl,fun j b hj=>by
  cases j with
  |zero=>simp at hj;subst hj;exact⟨v,rfl,.ew _ _ h⟩
  |succ j=>simp at hj⟩ k
end Go.Proofs.YtihgaadadaekmaaGreatDoor.V

namespace Go.Proofs.YtihgaadadaekmaaGreatDoor.V
open Go.RowKit
attribute [local irreducible] dO wpOps gO Call
attribute [local go_sem] aH fF eF fR fQ cu upd cm K.av cJ AV.cells AV.cell rowOf rowsOf part ld rowAt bI bU dG ei il bJ da eB fW eZ dq ep cY cX dU dV bP bd cQ bL cT cR ek er eo cP bS cZ ej bK aL cV cw ik br cI bQ aZ dz bl dI AV.undef bB bH dY eh dR ea cE eA eE cr ev eu cU cW List.getD_cons_zero List.getD_cons_succ List.getD_nil List.all_cons List.all_nil Bool.and_true Bool.true_and Bool.and_self Bool.not_true Bool.not_false Option.map_some Option.map_none Option.bind_some Option.bind_none List.length_cons List.length_nil List.take_succ_cons List.take_zero List.take_nil List.drop_succ_cons List.drop_zero List.drop_nil List.head?_cons List.map_cons List.map_nil List.getElem?_cons_zero List.getElem?_cons_succ List.cons_append List.nil_append List.append_nil List.length_map List.set_cons_zero List.set_cons_succ Nat.reduceMul eq_self Int.toNat_natCast Int.natCast_nonneg and_self true_and and_true decide_true decide_false Bool.false_eq_true Nat.zero_add Nat.add_zero List.contains_cons List.contains_nil Bool.or_false Bool.false_or beq_self_eq_true Nat.reduceBEq ne_eq not_true_eq_false not_false_eq_true Id.mk.injEq false_and and_false Nat.reduceLT Int.reduceLE Int.reduceLT Int.reduceToNat Int.reduceNeg Int.reduceAdd Nat.le_refl List.length_append beq_true beq_false Bool.not_eq_eq_eq_not or_false false_or dC ad aj aE bz cj aT bj aX bf cK bG
theorem LN {α:Type} (f:α->Nat) {xs:List α} {x:α} (h:x∈xs):f x<=(xs.map f).sum:=by
 induction xs with
 |nil=>cases h
 |cons y ys ih=>
  simp only[List.map_cons,List.sum_cons]
  rcases List.mem_cons.1 h with rfl|h
  ·omega
  ·have:=ih h;omega
theorem Em {s:bV} (h:tN s<=1048576):qL s:=by
 unfold tN rP at h
 refine⟨⟨ab,ab,fun t ht=>?_⟩,ab⟩
 have:=LN jB ht
 have h2:t.aY.length<=jB t:=by unfold jB;omega
 unfold p7
 omega
theorem wb (a:dd):ai Tryz.prog 15 [.agg (aC a),.agg (aC a)] (.bool true):=by
 refine ai.body dP rfl fun hl n0=>?_
 clear hl
 have h1:=qO a.ae a.ae
 rw[decide_eq_true rfl]at h1
 (repeat(first|((repeat(revert hN;revert N;apply Pn.out));refine wk @aC.eq_1 ?_;(repeat(refine Pn.mk ?_;intro N hN)))|((try apply Or.inl);refine⟨_,ai.x (h1) (sd @aC.eq_1),?_⟩;refine hN _ _ ?_;clear hN N)))
 exact aI (b:=true) (.inl rfl) (sd @Nat.zero_add) rfl
end Go.Proofs.YtihgaadadaekmaaGreatDoor.V

namespace Go.Proofs.YtihgaadadaekmaaGreatDoor.V
open Go.RowKit
attribute [local irreducible] dO wpOps gO Call
attribute [local go_sem] aH fF eF fR fQ cu upd cm K.av cJ AV.cells AV.cell rowOf rowsOf part ld rowAt bI bU dG ei il bJ da eB fW eZ dq ep cY cX dU dV bP bd cQ bL cT cR ek er eo cP bS cZ ej bK aL cV cw ik br cI bQ aZ dz bl dI AV.undef bB bH dY eh dR ea cE eA eE cr ev eu cU cW List.getD_cons_zero List.getD_cons_succ List.getD_nil List.all_cons List.all_nil Bool.and_true Bool.true_and Bool.and_self Bool.not_true Bool.not_false Option.map_some Option.map_none Option.bind_some Option.bind_none List.length_cons List.length_nil List.take_succ_cons List.take_zero List.take_nil List.drop_succ_cons List.drop_zero List.drop_nil List.head?_cons List.map_cons List.map_nil List.getElem?_cons_zero List.getElem?_cons_succ List.cons_append List.nil_append List.append_nil List.length_map List.set_cons_zero List.set_cons_succ eq_self Int.toNat_natCast Int.natCast_nonneg and_self true_and and_true decide_true decide_false Bool.false_eq_true Nat.zero_add Nat.add_zero List.contains_cons List.contains_nil Bool.or_false Bool.false_or beq_self_eq_true ne_eq not_true_eq_false not_false_eq_true Id.mk.injEq false_and and_false Nat.le_refl List.length_append beq_true beq_false Bool.not_eq_eq_eq_not or_false false_or dC ad aj aE bz cj aT bj aX bf cK bG
theorem Jc {g:Rows} {v w:AV} {s:bV} {i:List Id} (hX:xE g v s i) (hw:fz (dC g) 6 w=some w):bY (dC g) 6 [v,w]=some [.agg (az s),w]:=by
 simp only[ad,aj,hX.fz 1,hw,Option.map_some]
theorem HI {g:Rows} {v w:AV} {s:dd} {i:List Id} (hX:vL g v s i) (hw:fz (dC g) 6 w=some w):bY (dC g) 6 [v,w]=some [.agg (aC s),w]:=by
 simp only[ad,aj,hX.fz 2,hw,Option.map_some]
theorem BX (g:Rows) (s:bV):fz g 6 (.agg (az s))=some (.agg (az s)):=by simp[az,bj,ad,aj,cj,aE]
theorem BW (g:Rows) (s:dd):fz g 6 (.agg (aC s))=some (.agg (aC s)):=by simp[aC,bj,ad,aj,cj]
theorem tK {g:Rows} {v w v' w':AV} (h1:fz g 6 v=some v') (h2:fz g 6 w=some w'):bY g 6 [v,w]=some [v',w']:=by
 simp only[ad,aj,h1,h2,Option.map_some]
theorem II (s:bV):yX s<=3*tN s:=by
 have h:∀l:List ef,(l.map fD).sum<=l.length+(l.map jB).sum:=fun l=>by
  induction l with
  |nil=>simp
  |cons t l ih=>simp only[List.map_cons,List.sum_cons,List.length_cons,fD,jB]at *;omega
 have:=h s.ar.ae
 unfold yX tN rP
 omega
theorem e6.not {a b:Nat} {ids:List Id} (h:e6 a b ids) {x:Id} (hx:x.bZ<a∨b<=x.bZ):x∉ids:=fun hc=>by
 have:=h.2 x hc;omega
theorem lS.fz {α:Type} {e:α->List AV} {L:List α} {w:AV} (h:lS e L w) (g:Rows):V.fz g 6 w=some w:=by
 rcases h with⟨rfl,rfl⟩|rfl
 ·exact aT _ _
 ·exact cj _ _ _
end Go.Proofs.YtihgaadadaekmaaGreatDoor.V

namespace Go.Proofs.YtihgaadadaekmaaGreatDoor.V
open Go.RowKit
attribute [local irreducible] dO wpOps gO Call
attribute [local go_sem] aH fF eF fR fQ cu upd cm K.av cJ AV.cells AV.cell rowOf rowsOf part ld rowAt bI bU dG ei il bJ da eB fW eZ dq ep cY cX dU dV bP bd cQ bL cT cR ek er eo cP bS cZ ej bK aL cV cw ik br cI bQ aZ dz bl dI AV.undef bB bH dY eh dR ea cE eA eE cr ev eu cU cW List.getD_cons_zero List.getD_cons_succ List.getD_nil List.all_cons List.all_nil Bool.and_true Bool.true_and Bool.and_self Bool.not_true Bool.not_false Option.map_some Option.map_none Option.bind_some Option.bind_none List.length_cons List.length_nil List.take_succ_cons List.take_zero List.take_nil List.drop_succ_cons List.drop_zero List.drop_nil List.head?_cons List.map_cons List.map_nil List.getElem?_cons_zero List.getElem?_cons_succ List.cons_append List.nil_append List.append_nil List.length_map List.set_cons_zero List.set_cons_succ Nat.reduceMul eq_self Int.toNat_natCast Int.natCast_nonneg and_self true_and and_true decide_true decide_false Bool.false_eq_true Nat.zero_add Nat.add_zero List.contains_cons List.contains_nil Bool.or_false Bool.false_or beq_self_eq_true Nat.reduceBEq ne_eq not_true_eq_false not_false_eq_true Id.mk.injEq false_and and_false Nat.reduceLT Int.reduceLE Int.reduceLT Int.reduceToNat Int.reduceNeg Int.reduceAdd Nat.le_refl List.length_append beq_true beq_false Bool.not_eq_eq_eq_not or_false false_or dC ad aj aE bz cj aT bj aX bf cK bG
end Go.Proofs.YtihgaadadaekmaaGreatDoor.V

namespace Go.Proofs.YtihgaadadaekmaaGreatDoor.V
open Go.RowKit
attribute [local irreducible] dO wpOps gO Call
attribute [local go_sem] aH fF eF fR fQ cu upd cm K.av cJ AV.cells AV.cell rowOf rowsOf part ld rowAt bI bU dG ei il bJ da eB fW eZ dq ep cY cX dU dV bP bd cQ bL cT cR ek er eo cP bS cZ ej bK aL cV cw ik br cI bQ aZ dz bl dI AV.undef bB bH dY eh dR ea cE eA eE cr ev eu cU cW List.getD_cons_zero List.getD_cons_succ List.getD_nil List.all_cons List.all_nil Bool.and_true Bool.true_and Bool.and_self Bool.not_true Bool.not_false Option.map_some Option.map_none Option.bind_some Option.bind_none List.length_cons List.length_nil List.take_succ_cons List.take_zero List.take_nil List.drop_succ_cons List.drop_zero List.drop_nil List.head?_cons List.map_cons List.map_nil List.getElem?_cons_zero List.getElem?_cons_succ List.cons_append List.nil_append List.append_nil List.length_map List.set_cons_zero List.set_cons_succ eq_self Int.toNat_natCast Int.natCast_nonneg and_self true_and and_true decide_true decide_false Bool.false_eq_true Nat.zero_add Nat.add_zero List.contains_cons List.contains_nil Bool.or_false Bool.false_or beq_self_eq_true ne_eq not_true_eq_false not_false_eq_true Id.mk.injEq false_and and_false Nat.le_refl List.length_append beq_true beq_false Bool.not_eq_eq_eq_not or_false false_or dC ad aj aE bz cj aT bj aX bf cK bG
end Go.Proofs.YtihgaadadaekmaaGreatDoor.V

namespace Go.Proofs.YtihgaadadaekmaaGreatDoor.V
open Go.RowKit
attribute [local irreducible] dO wpOps gO Call
attribute [local go_sem] aH fF eF fR fQ cu upd cm K.av cJ AV.cells AV.cell rowOf rowsOf part ld rowAt bI bU dG ei il bJ da eB fW eZ dq ep cY cX dU dV bP bd cQ bL cT cR ek er eo cP bS cZ ej bK aL cV cw ik br cI bQ aZ dz bl dI AV.undef bB bH dY eh dR ea cE eA eE cr ev eu cU cW List.getD_cons_zero List.getD_cons_succ List.getD_nil List.all_cons List.all_nil Bool.and_true Bool.true_and Bool.and_self Bool.not_true Bool.not_false Option.map_some Option.map_none Option.bind_some Option.bind_none List.length_cons List.length_nil List.take_succ_cons List.take_zero List.take_nil List.drop_succ_cons List.drop_zero List.drop_nil List.head?_cons List.map_cons List.map_nil List.getElem?_cons_zero List.getElem?_cons_succ List.cons_append List.nil_append List.append_nil List.length_map List.set_cons_zero List.set_cons_succ Nat.reduceMul eq_self Int.toNat_natCast Int.natCast_nonneg and_self true_and and_true decide_true decide_false Bool.false_eq_true Nat.zero_add Nat.add_zero List.contains_cons List.contains_nil Bool.or_false Bool.false_or beq_self_eq_true Nat.reduceBEq ne_eq not_true_eq_false not_false_eq_true Id.mk.injEq false_and and_false Nat.reduceLT Int.reduceLE Int.reduceLT Int.reduceToNat Int.reduceNeg Int.reduceAdd Nat.le_refl List.length_append beq_true beq_false Bool.not_eq_eq_eq_not or_false false_or dC ad aj aE bz cj aT bj aX bf cK bG
theorem CL {P:Program} {K:AV->Rows->List Id->Prop} (hm:P.follows .mixedOrders=true) {f:Nat} {args eJ:List AV} {σ:ax}
  (kB:∀r g ids,K r g ids->r.qh=true/\Handed ids g) (lZ:∀r g g' ids,K r g ids->(∀i∈ids,g' i=g i)->K r g' ids)
  (h:∀n:Nat,Call P f eJ ⟨fun _=>none,n⟩ (fun r σ'=>∃ids,K r σ'.get ids/\e6 n σ'.next ids)) (hv:bY (dC σ.get) 6 args=some eJ):
  Call P f args σ (fun r σ'=>∃ids,K r σ'.get ids/\e6 σ.next σ'.next ids/\Kept σ σ'):=by
 refine EU hm hv (aO _ _ _ _ _ (fun r σ' hq=>?_) (CN hm (h σ.next)))
 obtain⟨⟨ids,hK,hi⟩,hn⟩:=hq
 obtain⟨c1,c2⟩:=kB _ _ _ hK
 exact⟨ids,c1,c2,ids,lZ _ _ _ _ hK (fun i hi=>tH hi),hi,hn,fun j hj=>qC fun hc=>by have:=(hi.2 j hc).1;omega⟩
theorem Handed.nil {g:Rows}:Handed [] g:=fun x hx=>by cases hx
section
variable {P:Program} {α:Type} {e:α->List AV} {z:Nat} {g g':Rows} {v:AV} {L:List α} {ids:List Id}
def sk (e:α->List AV) (z:Nat) (g:Rows) (v:AV) (L:List α) (ids:List Id):Prop:=(L=[]/\v=.bE/\ids=[])∨∃(o:Id) (J:List α),v=.own o 0 L.length/\g o=some ⟨true,z,(L++J).map e⟩/\ids=[o]/\0<L.length
theorem om.t (h:om e z g v L ids):sk e z g v L ids:=by
 rcases h with h|⟨o,h1,h2,h3,h4⟩
 ·exact .inl h
 ·exact .inr ⟨o,[],h1,by rw[List.append_nil];exact h2,h3,h4⟩
def CA (e:α->List AV) (v:AV) (L:List α):AV:=match v with| .bE=>.bE|_=>.sl (L.map e)
theorem sk.DU (h:sk e z g v L ids):lS e L (CA e v L):=by
 rcases h with⟨rfl,rfl,_⟩|⟨o,J,rfl,_⟩
 ·exact .inl ⟨rfl,rfl⟩
 ·exact .inr rfl
theorem yn {n:Nat} {o:Id} {J:List α} (h2:g o=some ⟨true,z,(L++J).map e⟩) (he:∀x g,bY g n (e x)=some (e x)):V.fz (dC g) (n+1) (.own o 0 L.length)=some (.sl (L.map e)):=by
 rw[gi]
 have:dC g o=some ⟨true,z,(L++J).map e⟩:=by simp[dC,h2]
 simp only[this,if_true]
 have h4:((L++J).map e).take L.length=L.map e:=by rw[<-List.map_take,List.take_append_of_le_length (Nat.le_refl _),List.take_length]
 rw[if_pos (by simp),List.drop_zero,h4,lx fun x=>he x _];rfl
theorem sk.Mn (h:sk e z g v L ids) {n:Nat} (he:∀x g,bY g n (e x)=some (e x)):V.fz (dC g) (n+1) v=some (CA e v L):=by
 rcases h with⟨rfl,rfl,_⟩|⟨o,J,rfl,h2,_⟩
 ·exact aT _ _
 ·exact yn h2 he
theorem sk.clean (h:sk e z g v L ids):v.clean=true:=by
 rcases h with⟨_,rfl,_⟩|⟨o,J,rfl,_⟩<;>rfl
theorem sk.hand (h:sk e z g v L ids) (kB:∀x,(e x).all AV.clean=true):Handed ids g:=by
 rcases h with⟨_,_,rfl⟩|⟨o,J,_,h2,rfl,_⟩
 ·exact Handed.nil
 ·intro i hi
  rw[List.mem_singleton.1 hi]
  refine⟨_,h2,rfl,fun cs dh a ha=>?_⟩
  obtain⟨x,_,rfl⟩:=List.mem_map.1 dh
  have:=kB x
  rw[List.all_eq_true]at this
  exact this a ha
theorem sk.s (h:sk e z g v L ids) {n:Nat} (he:∀x g,du g n (e x)=some (e x)):fh g (n+1) v=some (Lx e L):=by
 rcases h with⟨rfl,rfl,_⟩|⟨o,J,rfl,h2,_,hp⟩
 ·rw[iA];rfl
 ·rw[pe (sz:=z) (rows:=(L++J).map e) (rows':=L.map e) h2 (by simp) (by
   have h4:((L++J).map e).take L.length=L.map e:=by rw[<-List.map_take,List.take_append_of_le_length (Nat.le_refl _),List.take_length]
   rw[List.drop_zero,h4,mW fun x=>he x _]),Lx,if_neg ab]
end
def vZ (a:AV):Bool:=match a with| .agg cs=>cs.all AV.clean|a=>a.clean
theorem zX (cs:List AV):(AV.gU cs).qh=cs.all vZ:=rfl
theorem C0 {a:AV} (h:a.clean=true):vZ a=true:=by
 cases a<;>first|exact h|(simp[AV.clean]at h)
theorem zW (k:IntKind) (n:Int):vZ (.int k n)=true:=rfl
theorem xY (b:Bool):vZ (.bool b)=true:=rfl
theorem Nl {g:Rows} {u v w x u' v' w' x':AV} (h0:V.fz g 6 u=some u') (h1:V.fz g 6 v=some v') (h2:V.fz g 6 w=some w') (h3:V.fz g 6 x=some x'):bY g 6 [u,v,w,x]=some [u',v',w',x']:=by simp only[ad,aj,h0,h1,h2,h3,Option.map_some]
theorem PM (x:ak):(ah x).all AV.clean=true:=rfl
def DZ (k:Int) (n:Nat):List Int:=(List.range n).map fun j:Nat=>k+(j:Int)
theorem gS (k:Int) (n:Nat):(DZ k n).length=n:=by simp[DZ]
def iG (k:Int) (l:List Int) (j:Nat):List Int:=DZ k j++l.drop j
theorem vp {k:Int} {l:List Int} {j:Nat} (h:j<=l.length):(iG k l j).length=l.length:=by simp[iG,gS];omega
theorem Gl {k:Int} {l:List Int} {j:Nat} (h:j<l.length):((iG k l j).map au)[j]? =some [.int .i64 l[j]]:=by
 have h2:j<(iG k l j).length:=by rw[vp ab];exact h
 have h3:(iG k l j)[j]'h2=l[j]:=by simp[iG,List.getElem_append,gS]
 rw[ya h2,h3]
theorem D4 {k:Int} {l:List Int} {j:Nat} (h:j<l.length):((iG k l j).map au).set j [.int .i64 (k+(j:Int))]=(iG k l (j+1)).map au:=by
 have h1:(iG k l j).set j (k+(j:Int))=iG k l (j+1):=by
  unfold iG
  rw[List.set_append_right _ _ (by rw[gS];omega),gS,Nat.sub_self]
  have h2:l.drop j=l[j]::l.drop (j+1):=List.drop_eq_getElem_cons h
  rw[h2,List.set_cons_zero]
  simp[DZ,List.range_succ]
 rw[<-h1,List.map_set];rfl
theorem IJ (i:Id) (l:List Int) (k:Int) (h0:0<=k) (h1:k+l.length<=4611686018427387904) (σ:ax) (hv:i.bZ<σ.next) (hg:σ.get i=some ⟨true,1,l.map au⟩):
  Call Tryz.prog 23 [.own i 0 l.length,.int .i64 k] σ (fun r σ'=>r=.int .i64 (k+l.length)/\qH σ [i] σ'.get σ'.next/\σ'.get i=some ⟨true,1,(DZ k l.length).map au⟩):=by
 refine fm dP rfl fun hl=>?_
 clear hl
 have hz:iG k l 0=l:=by simp[iG,DZ]
 (try((repeat(revert hN;revert N;apply Pn.out));refine wk @Nat.zero_add ?_;(repeat(refine Pn.mk ?_;intro N hN))))
 refine aJ (fun n env st=>∃j:Nat,n=(l.length)-j/\j<=(l.length)/\env 5=.int .i64 (j:Int)/\env 1=.int .i64 (k+j)/\st.get i=some ⟨true,1,(iG k l j).map au⟩/\(qH σ [i] st.get st.next)) (l.length) ⟨0,ab,ab,sl (tw @Int.add_zero (tw @Int.natCast_zero (tw @hz @hg))),sl (tw @Int.add_zero (tw @Int.natCast_zero (tw @hz @hg))),sl (tw @Int.add_zero (tw @Int.natCast_zero (tw @hz @hg))),by(try dsimp only);exact⟨bD,fun x _ _=>rfl⟩⟩ ?_
 rintro n_a env_a st_a ⟨j,rfl,ale,a5,a1,ag0,l7⟩ dE
 have a0:=dE 0 (by kernel_rfl)
 simp only[go_sem, ↓reduceIte,Nat.reduceEqDiff,Nat.reduceAdd,Nat.reduceSub,Nat.reduceLeDiff,reduceCtorEq,Int.add_zero,Int.natCast_zero,hz,hg]at a0
 clear dE
 obtain⟨an,aF⟩:=l7
 by_cases hj:(j:Int)<(l.length:Int)
 ·have cl:∀{e:Env} {gg:Rows} {nx:Nat},(e 5=.int .i64 (IntKind.i64.wrap ((j:Int)+1)))->(e 1=.int .i64 (k+(j+1)))->(gg i=some ⟨true,1,(iG k l (j+1)).map au⟩)->(qH σ [i] gg nx)->∃m0,m0<(l.length)-j/\∃j:Nat,m0=(l.length)-j/\j<=(l.length)/\e 5=.int .i64 (j:Int)/\e 1=.int .i64 (k+j)/\gg i=some ⟨true,1,(iG k l j).map au⟩/\(qH σ [i] gg nx):=fun x1 x2 x3 x4=>⟨_,ab,j+1,rfl,ab,(by rw[x1,aA ab]),x2,x3,x4⟩
  have im:j<l.length:=ab
  have dW:=Gl (k:=k) im
  have dQ:=D4 (k:=k) im
  have hw:IntKind.i64.wrap (k+(j:Int)+1)=k+((j:Int)+1):=by rw[aQ ab];omega
  have hlen:((iG k l j).map au).length=l.length:=by rw[List.length_map,vp ab]
  (try((repeat(revert hN;revert N;apply Pn.out));refine wk (tw @a5 (tw @a1 (tw @ag0 (tw @a0 (tw @hj (tw @dW (tw @dQ (tw @hw @hlen)))))))) ?_;(repeat(refine Pn.mk ?_;intro N hN))))
  refine cl ?_ ?_ ?_ (by(try dsimp only);exact⟨bD,fun x hx hi=>by
   have h2:=aF x hx hi
   have h3:(x=i)=False:=eq_false fun e=>hi (by simp[e])
   simp only[go_sem, ↓reduceIte,Nat.reduceEqDiff,Nat.reduceAdd,Nat.reduceSub,Nat.reduceLeDiff,reduceCtorEq,h2,h3]⟩)
  all_goals simp only[go_sem, ↓reduceIte,Nat.reduceEqDiff,Nat.reduceAdd,Nat.reduceSub,Nat.reduceLeDiff,reduceCtorEq,a5,a1,ag0,a0,hw,dQ]
 ·have im:j=l.length:=ab
  subst im
  (try((repeat(revert hN;revert N;apply Pn.out));refine wk (tw @a5 (tw @a1 (tw @ag0 (tw @a0 @hj)))) ?_;(repeat(refine Pn.mk ?_;intro N hN))))
  have kN:iG k l l.length=DZ k l.length:=by simp[iG]
  rw[kN]at ag0
  exact gy (.inl rfl) (vs:=[.int .i64 (k+l.length)]) (sd (tw @a5 (tw @a1 (tw @ag0 @a0)))) ⟨rfl,⟨bD,fun x hx hi=>aF x hx hi⟩,ag0⟩
theorem Gi (k:Int) (σ:ax):Call Tryz.prog 23 [.bE,.int .i64 k] σ (fun r σ'=>r=.int .i64 k/\qH σ [] σ'.get σ'.next):=by
 refine fm dP rfl fun hl=>?_
 clear hl
 (try((repeat(revert hN;revert N;apply Pn.out));refine wk @Nat.zero_add ?_;(repeat(refine Pn.mk ?_;intro N hN))))
 refine aJ (fun n env st=>(env 1=.int .i64 k/\env 5=.int .i64 0/\env 0=.bE)/\σ.next<=st.next/\∀x:Id,st.get x=σ.get x) 0 ⟨⟨sd @Nat.zero_add,sd @Nat.zero_add,sd @Nat.zero_add⟩,bD,fun _=>rfl⟩ ?_
 rintro m e st ⟨⟨a1,a5,a0⟩,an,aF⟩ -
 have d0:decide ((0:Int)<((0:Nat):Int))=false:=rfl
 (try((repeat(revert hN;revert N;apply Pn.out));refine wk (tw @a0 (tw @a1 (tw @a5 @d0))) ?_;(repeat(refine Pn.mk ?_;intro N hN))))
 exact gy (.inl rfl) (vs:=[.int .i64 k]) (sd @a1) ⟨rfl,⟨bD,fun x hx hi=>aF x⟩⟩
theorem Gk {v:AV} {L:List Int} {ids:List Id} (k:Int) (h0:0<=k) (h1:k+L.length<=4611686018427387904) (σ:ax) (hv:∀i∈ids,i.bZ<σ.next) (h:om au 1 σ.get v L ids):
  Call Tryz.prog 23 [v,.int .i64 k] σ (fun r σ'=>r=.int .i64 (k+L.length)/\qH σ ids σ'.get σ'.next/\om au 1 σ'.get v (DZ k L.length) ids):=by
 rcases h with⟨rfl,rfl,rfl⟩|⟨o,rfl,h2,rfl,hp⟩
 ·refine aO _ _ _ _ _ (fun r σ' hq=>?_) (Gi k σ)
  obtain⟨rfl,hB⟩:=hq
  exact⟨by simp,hB,.inl ⟨rfl,rfl,rfl⟩⟩
 ·refine aO _ _ _ _ _ (fun r σ' hq=>?_) (IJ o L k h0 h1 σ (hv o (by simp)) h2)
  obtain⟨rfl,hB,hg⟩:=hq
  exact⟨rfl,hB,.inr ⟨o,by rw[gS],hg,rfl,by rw[gS];exact hp⟩⟩
theorem Lv (k:Int) {n j:Nat} (h:j<n):((DZ k n).map au)[j]? =some [.int .i64 (k+(j:Int))]:=by
 simp[DZ,h,au]
theorem H8 (k:Int) (n:Nat) (h0:0<=k) (h1:k+n<=4611686018427387904):ai Tryz.prog 24 [.sl ((DZ k n).map au),.int .i64 k] (.int .i64 (k+n)):=by
 refine ai.body dP rfl fun hl n0=>?_
 clear hl
 obtain⟨m,hm⟩:∃m,n=m:=⟨_,rfl⟩
 rw[hm]at h1 ⊢
 (try((repeat(revert hN;revert N;apply Pn.out));refine wk @gS ?_;(repeat(refine Pn.mk ?_;intro N hN))))
 refine aJ (fun n env st=>∃j:Nat,n=(m)-j/\j<=(m)/\env 5=.int .i64 (j:Int)/\env 1=.int .i64 (k+j)) (m) ⟨0,ab,ab,sl (tw @Int.add_zero (tw @Int.natCast_zero @gS)),sl (tw @Int.add_zero (tw @Int.natCast_zero @gS))⟩ ?_
 rintro n_a env_a st_a ⟨j,rfl,ale,a5,a1⟩ dE
 have a0:=dE 0 (by kernel_rfl)
 simp only[go_sem, ↓reduceIte,Nat.reduceEqDiff,Nat.reduceAdd,Nat.reduceSub,Nat.reduceLeDiff,reduceCtorEq,Int.add_zero,Int.natCast_zero,gS]at a0
 clear dE
 by_cases hj:(j:Int)<(m:Int)
 ·have cl:∀{e:Env},(e 5=.int .i64 (IntKind.i64.wrap ((j:Int)+1)))->(e 1=.int .i64 (k+(j+1)))->∃m0,m0<(m)-j/\∃j:Nat,m0=(m)-j/\j<=(m)/\e 5=.int .i64 (j:Int)/\e 1=.int .i64 (k+j):=fun x1 x2=>⟨_,ab,j+1,rfl,ab,(by rw[x1,aA ab]),x2⟩
  have dW:=Lv k (n:=m) (j:=j) ab
  have hw:IntKind.i64.wrap (k+(j:Int)+1)=k+((j:Int)+1):=by rw[aQ ab];omega
  have e1:decide (k+(j:Int)=k+(j:Int))=true:=decide_eq_true rfl
  (try((repeat(revert hN;revert N;apply Pn.out));refine wk (tw @a5 (tw @a1 (tw @a0 (tw @hj (tw @dW (tw @hw (tw @gS @e1))))))) ?_;(repeat(refine Pn.mk ?_;intro N hN))))
  refine cl ?_ ?_
  all_goals simp only[go_sem, ↓reduceIte,Nat.reduceEqDiff,Nat.reduceAdd,Nat.reduceSub,Nat.reduceLeDiff,reduceCtorEq,a5,a1,a0,hw]
 ·have im:j=m:=ab
  subst im
  (try((repeat(revert hN;revert N;apply Pn.out));refine wk (tw @a5 (tw @a1 (tw @a0 (tw @hj @gS)))) ?_;(repeat(refine Pn.mk ?_;intro N hN))))
  exact bq (b:=k+(j:Int)) (.inl rfl) (sd (tw @a5 (tw @a1 @a0))) rfl
theorem yD {w:AV} (k:Int) (n:Nat) (h0:0<=k) (h1:k+n<=4611686018427387904) (hw:lS au (DZ k n) w):ai Tryz.prog 24 [w,.int .i64 k] (.int .i64 (k+n)):=
 (H8 k n h0 h1).cut mixed (hw.cut (.same _ .nil))
theorem z4 {L:List Int} {v w:AV} (hv:lS au L v) (hw:lS au L w):ai Tryz.prog 22 [v,w] (.bool true):=by
 have h:=yd L L
 rw[decide_eq_true rfl]at h
 exact h.cut mixed (hv.cut (hw.cut .nil))
end Go.Proofs.YtihgaadadaekmaaGreatDoor.V

namespace Go.Proofs.YtihgaadadaekmaaGreatDoor.V
open Go.RowKit
attribute [local irreducible] dO wpOps gO Call
attribute [local go_sem] aH fF eF fR fQ cu upd cm K.av cJ AV.cells AV.cell rowOf rowsOf part ld rowAt bI bU dG ei il bJ da eB fW eZ dq ep cY cX dU dV bP bd cQ bL cT cR ek er eo cP bS cZ ej bK aL cV cw ik br cI bQ aZ dz bl dI AV.undef bB bH dY eh dR ea cE eA eE cr ev eu cU cW List.getD_cons_zero List.getD_cons_succ List.getD_nil List.all_cons List.all_nil Bool.and_true Bool.true_and Bool.and_self Bool.not_true Bool.not_false Option.map_some Option.map_none Option.bind_some Option.bind_none List.length_cons List.length_nil List.take_succ_cons List.take_zero List.take_nil List.drop_succ_cons List.drop_zero List.drop_nil List.head?_cons List.map_cons List.map_nil List.getElem?_cons_zero List.getElem?_cons_succ List.cons_append List.nil_append List.append_nil List.length_map List.set_cons_zero List.set_cons_succ eq_self Int.toNat_natCast Int.natCast_nonneg and_self true_and and_true decide_true decide_false Bool.false_eq_true Nat.zero_add Nat.add_zero List.contains_cons List.contains_nil Bool.or_false Bool.false_or beq_self_eq_true ne_eq not_true_eq_false not_false_eq_true Id.mk.injEq false_and and_false Nat.le_refl List.length_append beq_true beq_false Bool.not_eq_eq_eq_not or_false false_or dC ad aj aE bz cj aT bj aX bf cK bG
section
variable {P:Program} {α:Type} {R:uC α} {e:α->List AV} {z:Nat} {g g':Rows} {v:AV} {L:List α} {ids:List Id}
def MT (R:uC α) (z:Nat) (g:Rows) (v:AV) (L:List α) (ids:List Id):Prop:=(L=[]/\v=.bE/\ids=[])∨(gq R z g v L ids/\0<L.length)
end
def v9 (R:List ak):List AV:=[.sl (R.map ah)]
def sn:uC (List ak):=fun g cs R ids=>∃u,cs=[.own u 0 R.length]/\g u=some ⟨true,3,R.map ah⟩/\ids=[u]
theorem Pw:rD sn 1 where
 frame:=fun⟨i,h1,h2,h3⟩ hf=>⟨i,h1,(hf i (by rw[h3];simp)).trans h2,h3⟩
 len:=fun⟨i,h1,_⟩=>by rw[h1];rfl
 cell:=fun⟨i,h1,_⟩=>by rw[h1];rfl
 live:=fun⟨i,h1,h2,h3⟩ j hj=>by
  rw[h3]at hj
  have:j=i:=by simpa using hj
  subst this
  exact⟨_,h2,rfl,by simp[nW]⟩
 small:=by simp[nW]
theorem Oz {g:Rows} {cs:List AV} {x:List ak} {ids:List Id} (n:Nat) (h:sn g cs x ids):bY (dC g) (n+2) cs=some (v9 x):=by
 obtain⟨i,rfl,h2,_⟩:=h
 have h3:V.fz (dC g) (n+2) (.own i 0 x.length)=some (.sl (x.map ah)):=fw (e:=ah) (sz:=3) (by simp[dC,h2]) rfl fun y=>by simp[ah,ad,aj,aE]
 simp only[ad,aj,h3,Option.map_some,v9]
theorem MO {g:Rows} {cs:List AV} {x:List ak} {ids:List Id} (n:Nat) (h:sn g cs x ids):du g (n+2) cs=some (v9 x):=by
 obtain⟨i,rfl,h2,_⟩:=h
 have h3:fh g (n+2) (.own i 0 x.length)=some (.sl (x.map ah)):=eX (e:=ah) h2 rfl fun y=>by simp[ah,aM,bh,dK]
 simp only[aM,bh,h3,Option.map_some,v9]
theorem LG {g:Rows} {cs:List AV} {x:List ak} {ids:List Id} (h:sn g cs x ids):cs.all AV.clean=true/\Handed ids g:=by
 obtain⟨i,rfl,h2,rfl⟩:=h
 refine⟨rfl,fun j hj=>?_⟩
 rw[List.mem_singleton.1 hj]
 refine⟨_,h2,rfl,fun cs dh a ha=>?_⟩
 obtain⟨y,_,rfl⟩:=List.mem_map.1 dh
 exact List.all_eq_true.1 (PM y) a ha
def OutRs (g:Rows) (v:AV) (L:List (List ak)) (ids:List Id):Prop:=MT sn 1 g v L ids
section
variable {g g':Rows} {v:AV} {L:List (List ak)} {ids:List Id}
end
end Go.Proofs.YtihgaadadaekmaaGreatDoor.V

namespace Go.Proofs.YtihgaadadaekmaaGreatDoor.V
open Go.RowKit
attribute [local irreducible] dO wpOps gO Call
attribute [local go_sem] aH fF eF fR fQ cu upd cm K.av cJ AV.cells AV.cell rowOf rowsOf part ld rowAt bI bU dG ei il bJ da eB fW eZ dq ep cY cX dU dV bP bd cQ bL cT cR ek er eo cP bS cZ ej bK aL cV cw ik br cI bQ aZ dz bl dI AV.undef bB bH dY eh dR ea cE eA eE cr ev eu cU cW List.getD_cons_zero List.getD_cons_succ List.getD_nil List.all_cons List.all_nil Bool.and_true Bool.true_and Bool.and_self Bool.not_true Bool.not_false Option.map_some Option.map_none Option.bind_some Option.bind_none List.length_cons List.length_nil List.take_succ_cons List.take_zero List.take_nil List.drop_succ_cons List.drop_zero List.drop_nil List.head?_cons List.map_cons List.map_nil List.getElem?_cons_zero List.getElem?_cons_succ List.cons_append List.nil_append List.append_nil List.length_map List.set_cons_zero List.set_cons_succ Nat.reduceMul eq_self Int.toNat_natCast Int.natCast_nonneg and_self true_and and_true decide_true decide_false Bool.false_eq_true Nat.zero_add Nat.add_zero List.contains_cons List.contains_nil Bool.or_false Bool.false_or beq_self_eq_true Nat.reduceBEq ne_eq not_true_eq_false not_false_eq_true Id.mk.injEq false_and and_false Nat.reduceLT Int.reduceLE Int.reduceLT Int.reduceToNat Int.reduceNeg Int.reduceAdd Nat.le_refl List.length_append beq_true beq_false Bool.not_eq_eq_eq_not or_false false_or dC ad aj aE bz cj aT bj aX bf cK bG
theorem clI (x:Int):(au x).all AV.clean=true:=rfl
def OS (R:List Int):List AV:=[.sl (R.map au)]
def xx:uC (List Int):=fun g cs R ids=>∃u,cs=[.own u 0 R.length]/\g u=some ⟨true,1,R.map au⟩/\ids=[u]
theorem Q1:rD xx 1 where
 frame:=fun⟨i,h1,h2,h3⟩ hf=>⟨i,h1,(hf i (by rw[h3];simp)).trans h2,h3⟩
 len:=fun⟨i,h1,_⟩=>by rw[h1];rfl
 cell:=fun⟨i,h1,_⟩=>by rw[h1];rfl
 live:=fun⟨i,h1,h2,h3⟩ j hj=>by
  rw[h3]at hj
  have:j=i:=by simpa using hj
  subst this
  exact⟨_,h2,rfl,by simp[nW]⟩
 small:=by simp[nW]
theorem Pu {g:Rows} {cs:List AV} {x:List Int} {ids:List Id} (n:Nat) (h:xx g cs x ids):bY (dC g) (n+2) cs=some (OS x):=by
 obtain⟨i,rfl,h2,_⟩:=h
 have h3:V.fz (dC g) (n+2) (.own i 0 x.length)=some (.sl (x.map au)):=fw (e:=au) (sz:=1) (by simp[dC,h2]) rfl fun y=>by simp[au,ad,aj,aE]
 simp only[ad,aj,h3,Option.map_some,OS]
theorem Oh {g:Rows} {cs:List AV} {x:List Int} {ids:List Id} (n:Nat) (h:xx g cs x ids):du g (n+2) cs=some (OS x):=by
 obtain⟨i,rfl,h2,_⟩:=h
 have h3:fh g (n+2) (.own i 0 x.length)=some (.sl (x.map au)):=eX (e:=au) h2 rfl fun y=>by simp[au,aM,bh,dK]
 simp only[aM,bh,h3,Option.map_some,OS]
theorem MM {g:Rows} {cs:List AV} {x:List Int} {ids:List Id} (h:xx g cs x ids):cs.all AV.clean=true/\Handed ids g:=by
 obtain⟨i,rfl,h2,rfl⟩:=h
 refine⟨rfl,fun j hj=>?_⟩
 rw[List.mem_singleton.1 hj]
 refine⟨_,h2,rfl,fun cs dh a ha=>?_⟩
 obtain⟨y,_,rfl⟩:=List.mem_map.1 dh
 exact List.all_eq_true.1 (clI y) a ha
def OutIs (g:Rows) (v:AV) (L:List (List Int)) (ids:List Id):Prop:=MT xx 1 g v L ids
section
variable {g g':Rows} {v:AV} {L:List (List Int)} {ids:List Id}
end
end Go.Proofs.YtihgaadadaekmaaGreatDoor.V

namespace Go.Proofs.YtihgaadadaekmaaGreatDoor.V
open Go.RowKit
variable {g g':Rows} {v:AV} {L:List Int} {ids:List Id}
theorem PU (x:Int) (g:Rows):bY g 5 (au x)=some (au x):=by simp[au,ad,aj,aE]
theorem Nk (x:Int) (g:Rows):du g 4 (au x)=some (au x):=by simp[au,aM,bh,dK]
def l6 (g:Rows) (v:AV) (L:List Int) (ids:List Id):Prop:=om au 1 g v L ids
theorem l6.frame (h:l6 g v L ids) (hf:∀i∈ids,g' i=g i):l6 g' v L ids:=om.frame h hf
theorem l6.DU (h:l6 g v L ids):lS au L (CA au v L):=(om.t h).DU
theorem l6.Mn (h:l6 g v L ids):V.fz (dC g) 6 v=some (CA au v L):=(om.t h).Mn PU
theorem l6.clean (h:l6 g v L ids):v.clean=true:=(om.t h).clean
theorem l6.hand (h:l6 g v L ids):Handed ids g:=(om.t h).hand clI
theorem l6.s (h:l6 g v L ids):fh g 5 v=some (Lx au L):=(om.t h).s Nk
theorem Gj (k:Int) (h0:0<=k) (h1:k+L.length<=4611686018427387904) (σ:ax) (hv:∀i∈ids,i.bZ<σ.next) (h:l6 σ.get v L ids):
  Call Tryz.prog 23 [v,.int .i64 k] σ (fun r σ'=>r=.int .i64 (k+L.length)/\qH σ ids σ'.get σ'.next/\l6 σ'.get v (DZ k L.length) ids):=Gk k h0 h1 σ hv h
def MR (z m:Nat) (L:List Int) (v:AV) (g:Rows) (n:Nat):Prop:=(L=[]/\v=.bE)∨∃u:Id,v=.own u 0 L.length/\g u=some ⟨true,1,L.map au⟩/\m<=u.bZ/\u.bZ<n/\0<L.length/\u.site=z
theorem MR.frame {z m:Nat} {L:List Int} {v v':AV} {g g':Rows} {n n':Nat} (h:MR z m L v g n) (he:v'=v) (hn:n<=n') (hf:∀x:Id,x.bZ<n->x.site=z->g' x=g x):MR z m L v' g' n':=by
 subst he
 rcases h with h|⟨u,h1,h2,h3,h4,h5,h6⟩
 ·exact .inl h
 ·exact .inr ⟨u,h1,(hf u h4 h6).trans h2,h3,ab,h5,h6⟩
def J6 (P:Program) (f:Nat) (args:List AV) (R:List Int×Int):Prop:=
 ∀n:Nat,Call P f args ⟨fun _=>none,n⟩ (fun r σ'=>∃ids,(∃v0 i0,r=.gU [v0,.int .i64 R.2]/\l6 σ'.get v0 R.1 i0/\ids=i0)/\e6 n σ'.next ids)
end Go.Proofs.YtihgaadadaekmaaGreatDoor.V

namespace Go.Proofs.YtihgaadadaekmaaGreatDoor.V
open Go.RowKit
attribute [local irreducible] dO wpOps gO Call
attribute [local go_sem] aH fF eF fR fQ cu upd cm K.av cJ AV.cells AV.cell rowOf rowsOf part ld rowAt bI bU dG ei il bJ da eB fW eZ dq ep cY cX dU dV bP bd cQ bL cT cR ek er eo cP bS cZ ej bK aL cV cw ik br cI bQ aZ dz bl dI AV.undef bB bH dY eh dR ea cE eA eE cr ev eu cU cW List.getD_cons_zero List.getD_cons_succ List.getD_nil List.all_cons List.all_nil Bool.and_true Bool.true_and Bool.and_self Bool.not_true Bool.not_false Option.map_some Option.map_none Option.bind_some Option.bind_none List.length_cons List.length_nil List.take_succ_cons List.take_zero List.take_nil List.drop_succ_cons List.drop_zero List.drop_nil List.head?_cons List.map_cons List.map_nil List.getElem?_cons_zero List.getElem?_cons_succ List.cons_append List.nil_append List.append_nil List.length_map List.set_cons_zero List.set_cons_succ Nat.reduceMul eq_self Int.toNat_natCast Int.natCast_nonneg and_self true_and and_true decide_true decide_false Bool.false_eq_true Nat.zero_add Nat.add_zero List.contains_cons List.contains_nil Bool.or_false Bool.false_or beq_self_eq_true Nat.reduceBEq ne_eq not_true_eq_false not_false_eq_true Id.mk.injEq false_and and_false Nat.reduceLT Int.reduceLE Int.reduceLT Int.reduceToNat Int.reduceNeg Int.reduceAdd Nat.le_refl List.length_append beq_true beq_false Bool.not_eq_eq_eq_not or_false false_or dC ad aj aE bz cj aT bj aX bf cK bG
theorem IE (Kf:bV->dd->Int->Int->List Int×Int)
  (N3:∀s a b d,fA s.ar->qL s->a.ae.length<=1048576->∃w0,lS au (Kf s a b d).1 w0/\jy Tryz.prog 20 [.agg (az s),.agg (aC a),.int .i64 b,.int .i64 d] (.gU [w0,.int .i64 (Kf s a b d).2]))
  (NN:∀s a b d,fA s.ar->qL s->a.ae.length<=1048576->∀n:Nat,Call Tryz.prog 21 [.agg (az s),.agg (aC a),.int .i64 b,.int .i64 d] ⟨fun _=>none,n⟩ (fun r σ'=>∃ids,(∃v0 i0,r=.gU [v0,.int .i64 (Kf s a b d).2]/\l6 σ'.get v0 (Kf s a b d).1 i0/\ids=i0)/\e6 n σ'.next ids))
  (JH:∀s a b d,fA s.ar->qL s->a.ae.length<=1048576->(Kf s a b d).1.length<=1099511627776)
  (s:bV) (a:dd) (b:Int) (d:Int) (hn:fA s.ar):ai Tryz.prog 4 [.agg (az s),.agg (aC a),.int .i64 b,.int .i64 d] (.bool true):=by
 refine ai.body dP rfl fun hl n0=>?_
 clear hl
 have h1:=BB s 1048576 ab ab hn
 by_cases ND:((tN s:Nat):Int)<=1048576
 ·rw[gE ND]at h1
  have Ds:¬(1048576:Int)-((tN s:Nat):Int)<0:=ab
  have h2:=pP a (1048576-((tN s:Nat):Int)) ab ab
  by_cases JA:((a.ae.length:Nat):Int)<=1048576-((tN s:Nat):Int)
  ·rw[gE JA]at h2
   have KT:¬(1048576:Int)-((tN s:Nat):Int)-((a.ae.length:Nat):Int)<0:=ab
   have sm:=Em (s:=s) ab
   have ma:a.ae.length<=1048576:=ab
   have t1:=BG s sm
   have t2:=pS a ma
   obtain⟨w0,EN,r1⟩:=N3 s a b d hn sm ma
   have r2:=NN s a b d hn sm ma
   have q1:=z7 s
   have q2:=wb a
   have Nq:=JH s a b d hn sm ma
   obtain⟨L0,hR0⟩:∃R,(Kf s a b d).1=R:=⟨_,rfl⟩
   obtain⟨c1,Nr⟩:∃R,(Kf s a b d).2=R:=⟨_,rfl⟩
   simp only[hR0,Nr]at r1 r2 EN Nq
   have o1:=fun σ=>BF s sm σ
   rw[az]at o1
   have o2:=fun σ=>pR a ma σ
   rw[aC]at o2
   have Hj:decide (c1=c1)=true:=by simp
   rw[az]at h1
   rw[aC]at h2
   (repeat(first|((repeat(revert hN;revert N;apply Pn.out));refine wk (tw @az.eq_1 (tw @aC.eq_1 (tw @Ds @KT))) ?_;(repeat(refine Pn.mk ?_;intro N hN)))|((try apply Or.inl);refine⟨_,ai.x (h1) (sd (tw @az.eq_1 (tw @aC.eq_1 (tw @Ds @KT)))),?_⟩;refine hN _ _ ?_;clear hN N)|((try apply Or.inl);refine⟨_,ai.x (h2) (sd (tw @az.eq_1 (tw @aC.eq_1 (tw @Ds @KT)))),?_⟩;refine hN _ _ ?_;clear hN N)))
   refine⟨_,jy.x (by rw[az]at t1;exact t1) _,?_⟩
   refine hN _ _ ?_
   clear hN N
   (try((repeat(revert hN;revert N;apply Pn.out));refine wk (tw @az.eq_1 @aC.eq_1) ?_;(repeat(refine Pn.mk ?_;intro N hN))))
   refine⟨_,jy.x (by rw[aC]at t2;exact t2) _,?_⟩
   refine hN _ _ ?_
   clear hN N
   (try((repeat(revert hN;revert N;apply Pn.out));refine wk @Nat.zero_add ?_;(repeat(refine Pn.mk ?_;intro N hN))))
   refine⟨_,jy.x (by rw[az,aC]at r1;exact r1) _,?_⟩
   refine hN _ _ ?_
   clear hN N
   (try((repeat(revert hN;revert N;apply Pn.out));refine wk @Nat.zero_add ?_;(repeat(refine Pn.mk ?_;intro N hN))))
   refine .inr (aO _ _ _ _ _ (fun r' σ1 hq=>?_) (o1 _))
   obtain⟨is,Hs,Ns,Ks⟩:=hq
   obtain⟨g1,x1⟩:=σ1
   (try dsimp only at Hs Ns Ks)
   obtain⟨As,Bs,Cs,j1s,j2s,j3s,rfl,hAs,Cb,hCs,-⟩:=Hs.ex
   obtain⟨oAs,rfl⟩:=hAs.jQ
   obtain⟨oBs,rfl⟩:=Cb.jQ
   obtain⟨oCs,rfl⟩:=hCs.jQ
   clear hAs Cb hCs
   have ns:=Ks.1
   have bs:=Ns.2
   (try dsimp only at ns bs)
   have Kw:=Ks.2 ⟨4000000,n0⟩ bD
   have Kx:=Ks.2 ⟨4000001,n0⟩ bD
   simp only[go_sem, ↓reduceIte,Nat.reduceEqDiff,Nat.reduceAdd,Nat.reduceSub,Nat.reduceLeDiff,reduceCtorEq]at Kw Kx
   clear Ks
   refine hN _ _ ?_
   clear hN N
   (try((repeat(revert hN;revert N;apply Pn.out));refine wk (tw @Kw @Kx) ?_;(repeat(refine Pn.mk ?_;intro N hN))))
   refine .inr (aO _ _ _ _ _ (fun r' σ2 hq=>?_) (o2 _))
   obtain⟨ia,Ha,Na,Ka⟩:=hq
   obtain⟨g2,x2⟩:=σ2
   (try dsimp only at Ha Na Ka)
   obtain⟨Da,hDa⟩:=Ha
   obtain⟨rfl,P5⟩:=hDa
   obtain⟨oDa,rfl⟩:=P5.jQ
   have Ha:vL g2 (.agg [.own oDa 0 a.ae.length]) a ia:=⟨_,rfl,P5⟩
   clear P5
   have na:=Ka.1
   have ba:=Na.2
   (try dsimp only at na ba)
   have Mm:∀i:Id,i.bZ<x1->g2 i=g1 i:=fun i hi=>by
    have h4:=Ka.2 i bD
    have h5:=eK (i:=i) (n:=x1) hi
    simp only[go_sem, ↓reduceIte,Nat.reduceEqDiff,Nat.reduceAdd,Nat.reduceSub,Nat.reduceLeDiff,reduceCtorEq,h5]at h4
    exact h4
   have Nc:=(Mm ⟨4000000,n0⟩ bD).trans Kw
   have Nd:=(Mm ⟨4000001,n0⟩ bD).trans Kx
   have Ky:=Ka.2 ⟨4009002,x1⟩ bD
   simp only[go_sem, ↓reduceIte,Nat.reduceEqDiff,Nat.reduceAdd,Nat.reduceSub,Nat.reduceLeDiff,reduceCtorEq]at Ky
   have Hs:=Hs.frame (g':=g2) fun i hi=>Mm i (by have:=bs i hi;omega)
   clear Ka
   refine hN _ _ ?_
   clear hN N
   (try((repeat(revert hN;revert N;apply Pn.out));refine wk (tw @Nc (tw @Nd @Ky)) ?_;(repeat(refine Pn.mk ?_;intro N hN))))
   refine .inr (aO _ _ _ _ _ (fun r' σ3 hq=>?_) (CL mixed (K:=fun r g ids=>(∃v0 i0,r=.gU [v0,.int .i64 c1]/\l6 g v0 L0 i0/\ids=i0)) (by
    rintro r g ids ⟨v0,i0,rfl,k0,rfl⟩
    exact⟨by simp[zX,C0 k0.clean,zW,xY],(k0.hand)⟩) (by
    rintro r g g' ids ⟨v0,i0,rfl,k0,rfl⟩ hf
    exact⟨v0,ids,rfl,k0.frame (fun i hi=>hf i (by simp[hi])),rfl⟩) r2 (Nl ((Hs.frame fun i hi=>by
    have h5:=eK (i:=i) (n:=x2) (by have:=bs i hi;omega)
    simp only[go_sem, ↓reduceIte,Nat.reduceEqDiff,Nat.reduceAdd,Nat.reduceSub,Nat.reduceLeDiff,reduceCtorEq,h5]).fz 1) ((Ha.frame fun i hi=>by
    have h5:=eK (i:=i) (n:=x2) (by have:=ba i hi;omega)
    simp only[go_sem, ↓reduceIte,Nat.reduceEqDiff,Nat.reduceAdd,Nat.reduceSub,Nat.reduceLeDiff,reduceCtorEq,h5]).fz 2) (aE _ _ _ _) (aE _ _ _ _))))
   obtain⟨iZ,⟨v0,iZ0,rfl,Z0,rfl⟩,NZ,KZ⟩:=hq
   obtain⟨g3,x3⟩:=σ3
   (try dsimp only at Z0 NZ KZ)
   have nZ:=KZ.1
   (try dsimp only at nZ)
   have N0:=NZ
   have b0:=N0.2
   (try dsimp only at b0)
   have Ni:∀i:Id,i.bZ<x2->g3 i=g2 i:=fun i hi=>by
    have h4:=KZ.2 i bD
    have h5:=eK (i:=i) (n:=x2) hi
    simp only[go_sem, ↓reduceIte,Nat.reduceEqDiff,Nat.reduceAdd,Nat.reduceSub,Nat.reduceLeDiff,reduceCtorEq,h5]at h4
    exact h4
   have z8:=(Ni ⟨4000000,n0⟩ bD).trans Nc
   have z9:=(Ni ⟨4000001,n0⟩ bD).trans Nd
   have Dj:=(Ni ⟨4009002,x1⟩ bD).trans Ky
   have yf:=KZ.2 ⟨4010002,x2⟩ bD
   simp only[go_sem, ↓reduceIte,Nat.reduceEqDiff,Nat.reduceAdd,Nat.reduceSub,Nat.reduceLeDiff,reduceCtorEq]at yf
   have Hs:=Hs.frame (g':=g3) fun i hi=>Ni i (by have:=bs i hi;omega)
   have Ha:=Ha.frame (g':=g3) fun i hi=>Ni i (by have:=ba i hi;omega)
   clear KZ
   refine hN _ _ ?_
   clear hN N
   (try((repeat(revert hN;revert N;apply Pn.out));refine wk (tw @z8 (tw @z9 (tw @Dj @yf))) ?_;(repeat(refine Pn.mk ?_;intro N hN))))
   refine .inl ⟨_,ai.x (z4 Z0.DU EN) (tK ((Z0.frame fun i hi=>by
    have h5:=eK (i:=i) (n:=x3) (by have:=b0 i hi;omega)
    simp only[go_sem, ↓reduceIte,Nat.reduceEqDiff,Nat.reduceAdd,Nat.reduceSub,Nat.reduceLeDiff,reduceCtorEq,h5]).Mn) (EN.fz _)),?_⟩
   refine hN _ _ ?_
   clear hN N
   (try((repeat(revert hN;revert N;apply Pn.out));refine wk (tw @z8 (tw @z9 (tw @Dj (tw @yf @Hj)))) ?_;(repeat(refine Pn.mk ?_;intro N hN))))
   refine⟨_,jy.x (by rw[az]at t1;exact t1) _,?_⟩
   refine hN _ _ ?_
   clear hN N
   (try((repeat(revert hN;revert N;apply Pn.out));refine wk (tw @z8 (tw @z9 (tw @Dj (tw @yf @Hj)))) ?_;(repeat(refine Pn.mk ?_;intro N hN))))
   refine⟨_,ai.x (by rw[az]at q1;exact q1) (by rw[<-az];exact Jc (Hs.frame fun i hi=>by
    have h5:=eK (i:=i) (n:=x3) (by have:=bs i hi;omega)
    simp only[go_sem, ↓reduceIte,Nat.reduceEqDiff,Nat.reduceAdd,Nat.reduceSub,Nat.reduceLeDiff,reduceCtorEq,h5]) (BX _ _)),?_⟩
   refine hN _ _ ?_
   clear hN N
   (try((repeat(revert hN;revert N;apply Pn.out));refine wk (tw @z8 (tw @z9 (tw @Dj (tw @yf @Hj)))) ?_;(repeat(refine Pn.mk ?_;intro N hN))))
   refine⟨_,jy.x (by rw[aC]at t2;exact t2) _,?_⟩
   refine hN _ _ ?_
   clear hN N
   (try((repeat(revert hN;revert N;apply Pn.out));refine wk (tw @z8 (tw @z9 (tw @Dj (tw @yf @Hj)))) ?_;(repeat(refine Pn.mk ?_;intro N hN))))
   refine⟨_,ai.x (by rw[aC]at q2;exact q2) (by rw[<-aC];exact HI (Ha.frame fun i hi=>by
    have h5:=eK (i:=i) (n:=x3) (by have:=ba i hi;omega)
    simp only[go_sem, ↓reduceIte,Nat.reduceEqDiff,Nat.reduceAdd,Nat.reduceSub,Nat.reduceLeDiff,reduceCtorEq,h5]) (BW _ _)),?_⟩
   refine hN _ _ ?_
   clear hN N
   (try((repeat(revert hN;revert N;apply Pn.out));refine wk (tw @z8 (tw @z9 (tw @Dj (tw @yf @Hj)))) ?_;(repeat(refine Pn.mk ?_;intro N hN))))
   have K3:=II s
   refine .inr (aO _ _ _ _ _ (fun r' σ4 hq=>?_) (DY _ s _ 1 ab sm.s.t ab _ (fun i hi=>by have:=bs i hi;(try dsimp only);omega) Ns.1 (Hs.frame fun i hi=>by
    have h5:=eK (i:=i) (n:=x3) (by have:=bs i hi;omega)
    simp only[go_sem, ↓reduceIte,Nat.reduceEqDiff,Nat.reduceAdd,Nat.reduceSub,Nat.reduceLeDiff,reduceCtorEq,h5])))
   obtain⟨rfl,hM⟩:=hq
   obtain⟨g4,x4⟩:=σ4
   (try dsimp only at hM)
   have nM4:=hM.1
   (try dsimp only at nM4)
   have Nj:∀i:Id,i.bZ<x3->i∉is->g4 i=g3 i:=fun i hi hx=>hM.2 i bD hx
   have Nf:=(Nj ⟨4000000,n0⟩ bD (Ns.not bD)).trans z8
   have Ng:=(Nj ⟨4000001,n0⟩ bD (Ns.not bD)).trans z9
   have PQ:=(Nj ⟨4010002,x2⟩ bD (Ns.not bD)).trans yf
   have Ha:=Ha.frame (g':=g4) fun i hi=>Nj i (by have:=ba i hi;omega) (Ns.not (by have:=ba i hi;omega))
   have Z0:=Z0.frame (g':=g4) fun i hi=>Nj i (by have:=b0 i hi;omega) (Ns.not (by have:=b0 i hi;omega))
   clear hM
   refine hN _ _ ?_
   clear hN N
   (try((repeat(revert hN;revert N;apply Pn.out));refine wk (tw @Nf (tw @Ng @PQ)) ?_;(repeat(refine Pn.mk ?_;intro N hN))))
   refine .inr (aO _ _ _ _ _ (fun r' σ5 hq=>?_) (vn _ a _ (1+yX s) ab ab _ (fun i hi=>by have:=ba i hi;(try dsimp only);omega) Ha))
   obtain⟨rfl,hM⟩:=hq
   obtain⟨g5,x5⟩:=σ5
   (try dsimp only at hM)
   have nM5:=hM.1
   (try dsimp only at nM5)
   have PT:∀i:Id,i.bZ<x4->i∉ia->g5 i=g4 i:=fun i hi hx=>hM.2 i bD hx
   have Kz:=(PT ⟨4000000,n0⟩ bD (Na.not bD)).trans Nf
   have KA:=(PT ⟨4000001,n0⟩ bD (Na.not bD)).trans Ng
   have Z0:=Z0.frame (g':=g5) fun i hi=>PT i (by have:=b0 i hi;omega) (Na.not (by have:=b0 i hi;omega))
   clear hM
   have e3:decide (1+((yX s:Nat):Int)+3*(a.ae.length:Int)<0)=false:=decide_eq_false ab
   refine hN _ _ ?_
   clear hN N
   (try((repeat(revert hN;revert N;apply Pn.out));refine wk (tw @Kz (tw @KA @e3)) ?_;(repeat(refine Pn.mk ?_;intro N hN))))
   refine .inl ⟨_,ai.x (z4 Z0.DU EN) (tK (Z0.Mn) (EN.fz _)),?_⟩
   refine hN _ _ ?_
   clear hN N
   (try((repeat(revert hN;revert N;apply Pn.out));refine wk (tw @Kz (tw @KA (tw @Hj @e3))) ?_;(repeat(refine Pn.mk ?_;intro N hN))))
   refine .inr (aO _ _ _ _ _ (fun r' σ6 hq=>?_) (Gj 1 ab ab _ (fun i hi=>by have:=b0 i hi;(try dsimp only);omega) Z0))
   obtain⟨rfl,hM,Y0⟩:=hq
   obtain⟨g6,x6⟩:=σ6
   (try dsimp only at hM Y0)
   have nM6:=hM.1
   (try dsimp only at nM6)
   have fr6:∀i:Id,i.bZ<x5->i∉iZ->g6 i=g5 i:=fun i hi hx=>hM.2 i bD hx
   have Aa:=(fr6 ⟨4000000,n0⟩ bD (N0.not bD)).trans Kz
   have Ab:=(fr6 ⟨4000001,n0⟩ bD (N0.not bD)).trans KA
   clear hM
   refine hN _ _ ?_
   clear hN N
   (try((repeat(revert hN;revert N;apply Pn.out));refine wk (tw @Aa @Ab) ?_;(repeat(refine Pn.mk ?_;intro N hN))))
   have OR:decide (1+(L0.length:Int)<0)=false:=decide_eq_false ab
   refine .inl ⟨_,ai.x (yD 1 L0.length ab ab Y0.DU) (tK (Y0.Mn) (aE _ _ _ _)),?_⟩
   refine hN _ _ ?_
   clear hN N
   have e5:decide (1+(L0.length:Int)=1+(L0.length:Int))=true:=decide_eq_true rfl
   (try((repeat(revert hN;revert N;apply Pn.out));refine wk (tw @Aa (tw @Ab (tw @OR @e5))) ?_;(repeat(refine Pn.mk ?_;intro N hN))))
   refine⟨_,jy.x (by rw[az]at t1;exact t1) _,?_⟩
   refine hN _ _ ?_
   clear hN N
   (try((repeat(revert hN;revert N;apply Pn.out));refine wk (tw @Aa (tw @Ab (tw @OR @e5))) ?_;(repeat(refine Pn.mk ?_;intro N hN))))
   refine⟨_,jy.x (by rw[aC]at t2;exact t2) _,?_⟩
   refine hN _ _ ?_
   clear hN N
   (try((repeat(revert hN;revert N;apply Pn.out));refine wk (tw @Aa (tw @Ab (tw @OR @e5))) ?_;(repeat(refine Pn.mk ?_;intro N hN))))
   have rs:ai Tryz.prog 21 [.agg (az s),.agg (aC a),.int .i64 b,.int .i64 d] (.gU [Lx au L0,.int .i64 c1]):=fun n=>aO _ _ _ _ _ (fun r σ' hq=>by
    obtain⟨ids,⟨v0,i0,rfl,k0,rfl⟩,-⟩:=hq
    exact⟨_,by simp only[ee,aM,bh,Ca,k0.s,dK,eD,Option.map_some]<;>rfl,rfl⟩) (r2 n)
   refine⟨_,ai.x (by rw[az,aC]at rs;exact rs) (Nl (by rw[<-az];exact BX _ _) (by rw[<-aC];exact BW _ _) (aE _ _ _ _) (aE _ _ _ _)),?_⟩
   refine hN _ _ ?_
   clear hN N
   have Du:=(Gt (e:=au) (L:=L0))
   generalize Lx au L0=u0 at Du ⊢
   (try((repeat(revert hN;revert N;apply Pn.out));refine wk (tw @Aa (tw @Ab @Hj)) ?_;(repeat(refine Pn.mk ?_;intro N hN))))
   refine .inl ⟨_,ai.x (z4 Du EN) (tK (Du.fz _) (EN.fz _)),?_⟩
   refine hN _ _ ?_
   clear hN N
   (try((repeat(revert hN;revert N;apply Pn.out));refine wk (tw @Aa (tw @Ab @Hj)) ?_;(repeat(refine Pn.mk ?_;intro N hN))))
   refine .inl ⟨_,ai.x (yD 1 L0.length ab ab Y0.DU) (tK ((Y0.frame fun i hi=>by
    have h5:=eK (i:=i) (n:=x6) (by have:=b0 i hi;omega)
    simp only[go_sem, ↓reduceIte,Nat.reduceEqDiff,Nat.reduceAdd,Nat.reduceSub,Nat.reduceLeDiff,reduceCtorEq,h5]).Mn) (aE _ _ _ _)),?_⟩
   refine hN _ _ ?_
   clear hN N
   (try((repeat(revert hN;revert N;apply Pn.out));refine wk (tw @Aa (tw @Ab (tw @OR @e5))) ?_;(repeat(refine Pn.mk ?_;intro N hN))))
   exact aI (b:=true) (.inl rfl) (sd @Nat.zero_add) rfl
  ·rw[gM JA]at h2
   rw[az]at h1
   rw[aC]at h2
   (repeat(first|((repeat(revert hN;revert N;apply Pn.out));refine wk (tw @az.eq_1 (tw @aC.eq_1 @Ds)) ?_;(repeat(refine Pn.mk ?_;intro N hN)))|((try apply Or.inl);refine⟨_,ai.x (h1) (sd (tw @az.eq_1 (tw @aC.eq_1 @Ds))),?_⟩;refine hN _ _ ?_;clear hN N)|((try apply Or.inl);refine⟨_,ai.x (h2) (sd (tw @az.eq_1 (tw @aC.eq_1 @Ds))),?_⟩;refine hN _ _ ?_;clear hN N)))
   exact aI (b:=true) (.inl rfl) (sd @Nat.zero_add) rfl
 ·rw[gM ND]at h1
  rw[az]at h1
  (repeat(first|((repeat(revert hN;revert N;apply Pn.out));refine wk (tw @az.eq_1 @aC.eq_1) ?_;(repeat(refine Pn.mk ?_;intro N hN)))|((try apply Or.inl);refine⟨_,ai.x (h1) (sd (tw @az.eq_1 @aC.eq_1)),?_⟩;refine hN _ _ ?_;clear hN N)))
  exact aI (b:=true) (.inl rfl) (sd @Nat.zero_add) rfl
def fU (n lo hi:Int):Bool:=decide (lo<=n)&&decide (n<=hi)
theorem dr {n lo hi:Int} (h:fU n lo hi=true):lo<=n/\n<=hi:=by simpa[fU]using h
theorem jx {n lo hi:Int} (h:lo<=n/\n<=hi):fU n lo hi=true:=by simpa[fU]using h
def Bg (p:bx):Bool:=fU p.fX (-60) 60&&fU p.fy (-60) 60
theorem gj (n lo hi:Int):ai Tryz.prog 36 [.int .i64 n,.int .i64 lo,.int .i64 hi] (.bool (fU n lo hi)):=by
 refine ai.body dP rfl fun hl n0=>?_
 clear hl
 by_cases h1:lo<=n
 ·(try((repeat(revert hN;revert N;apply Pn.out));refine wk @h1 ?_;(repeat(refine Pn.mk ?_;intro N hN))))
  exact aI (b:=decide (n<=hi)) (.inl rfl) (sd @Nat.zero_add) (by simp[fU,h1])
 ·(try((repeat(revert hN;revert N;apply Pn.out));refine wk @h1 ?_;(repeat(refine Pn.mk ?_;intro N hN))))
  exact aI (b:=false) (.inl rfl) (sd @Nat.zero_add) (by simp[fU,h1])
theorem iN (n lo hi:Int):ai Tryz.prog 42 [.int .i64 n,.int .i64 lo,.int .i64 hi] (.bool (fU n lo hi)):=by
 refine ai.body dP rfl fun hl n0=>?_
 clear hl
 by_cases h1:lo<=n
 ·(try((repeat(revert hN;revert N;apply Pn.out));refine wk @h1 ?_;(repeat(refine Pn.mk ?_;intro N hN))))
  exact aI (b:=decide (n<=hi)) (.inl rfl) (sd @Nat.zero_add) (by simp[fU,h1])
 ·(try((repeat(revert hN;revert N;apply Pn.out));refine wk @h1 ?_;(repeat(refine Pn.mk ?_;intro N hN))))
  exact aI (b:=false) (.inl rfl) (sd @Nat.zero_add) (by simp[fU,h1])
theorem F9 (d:Int):ai Tryz.prog 181 [.int .i64 d] (.bool (fU d 0 3)):=by
 refine ai.body dP rfl fun hl n0=>?_
 clear hl
 have h:=gj d 0 3
 (repeat(first|((repeat(revert hN;revert N;apply Pn.out));refine wk @Nat.zero_add ?_;(repeat(refine Pn.mk ?_;intro N hN)))|((try apply Or.inl);refine⟨_,ai.x (h) (sd @Nat.zero_add),?_⟩;refine hN _ _ ?_;clear hN N)))
 exact aI (b:=fU d 0 3) (.inl rfl) (sd @Nat.zero_add) rfl
theorem AS (p:bx):ai Tryz.prog 129 [.agg (ao p)] (.bool (Bg p)):=by
 refine ai.body dP rfl fun hl n0=>?_
 clear hl
 have h1:=gj p.fX (-60) 60
 have h2:=gj p.fy (-60) 60
 by_cases q:fU p.fX (-60) 60=true
 ·rw[q]at h1
  (repeat(first|((repeat(revert hN;revert N;apply Pn.out));refine wk @ao.eq_1 ?_;(repeat(refine Pn.mk ?_;intro N hN)))|((try apply Or.inl);refine⟨_,ai.x (h1) (sd @ao.eq_1),?_⟩;refine hN _ _ ?_;clear hN N)|((try apply Or.inl);refine⟨_,ai.x (h2) (sd @ao.eq_1),?_⟩;refine hN _ _ ?_;clear hN N)))
  exact aI (b:=fU p.fy (-60) 60) (.inl rfl) (sd @Nat.zero_add) (by rw[Bg,q];rfl)
 ·rw[Bool.not_eq_true]at q
  rw[q]at h1
  (repeat(first|((repeat(revert hN;revert N;apply Pn.out));refine wk @ao.eq_1 ?_;(repeat(refine Pn.mk ?_;intro N hN)))|((try apply Or.inl);refine⟨_,ai.x (h1) (sd @ao.eq_1),?_⟩;refine hN _ _ ?_;clear hN N)|((try apply Or.inl);refine⟨_,ai.x (h2) (sd @ao.eq_1),?_⟩;refine hN _ _ ?_;clear hN N)))
  exact aI (b:=false) (.inl rfl) (sd @Nat.zero_add) (by rw[Bg,q];rfl)
theorem vP (p:bx):ai Tryz.prog 135 [.agg (ao p)] (.bool (Bg p)):=by
 refine ai.body dP rfl fun hl n0=>?_
 clear hl
 have h1:=iN p.fX (-60) 60
 have h2:=iN p.fy (-60) 60
 by_cases q:fU p.fX (-60) 60=true
 ·rw[q]at h1
  (repeat(first|((repeat(revert hN;revert N;apply Pn.out));refine wk @ao.eq_1 ?_;(repeat(refine Pn.mk ?_;intro N hN)))|((try apply Or.inl);refine⟨_,ai.x (h1) (sd @ao.eq_1),?_⟩;refine hN _ _ ?_;clear hN N)|((try apply Or.inl);refine⟨_,ai.x (h2) (sd @ao.eq_1),?_⟩;refine hN _ _ ?_;clear hN N)))
  exact aI (b:=fU p.fy (-60) 60) (.inl rfl) (sd @Nat.zero_add) (by rw[Bg,q];rfl)
 ·rw[Bool.not_eq_true]at q
  rw[q]at h1
  (repeat(first|((repeat(revert hN;revert N;apply Pn.out));refine wk @ao.eq_1 ?_;(repeat(refine Pn.mk ?_;intro N hN)))|((try apply Or.inl);refine⟨_,ai.x (h1) (sd @ao.eq_1),?_⟩;refine hN _ _ ?_;clear hN N)|((try apply Or.inl);refine⟨_,ai.x (h2) (sd @ao.eq_1),?_⟩;refine hN _ _ ?_;clear hN N)))
  exact aI (b:=false) (.inl rfl) (sd @Nat.zero_add) (by rw[Bg,q];rfl)
def qu (d:Int):Int:=if fU d 0 3 then(d+2) % 4 else -1
def ez (p:bx) (d:Int):bx:=
 if d=0 then⟨p.fX,p.fy+1⟩else if d=1 then⟨p.fX+1,p.fy⟩else if d=2 then⟨p.fX,p.fy-1⟩else if d=3 then⟨p.fX-1,p.fy⟩else p
def iB (n:Int):Prop:=-4611686018427387904<=n/\n<=4611686018427387904
theorem DL (p:bx) (d:Int) (hd:fU d 0 3=true) (hx:iB p.fX) (hy:iB p.fy):ai Tryz.prog 162 [.agg (ao p),.int .i64 d] (.agg (ao (ez p d))):=by
 refine ai.body dP rfl fun hl n0=>?_
 clear hl
 obtain⟨x1,x2⟩:=hx
 obtain⟨y1,y2⟩:=hy
 have w1:IntKind.i64.wrap (p.fX+1)=p.fX+1:=aQ ab
 have w2:IntKind.i64.wrap (p.fX-1)=p.fX-1:=aQ ab
 have w3:IntKind.i64.wrap (p.fy+1)=p.fy+1:=aQ ab
 have w4:IntKind.i64.wrap (p.fy-1)=p.fy-1:=aQ ab
 have hb:=dr hd
 have hc:d=0∨d=1∨d=2∨d=3:=ab
 rcases hc with rfl|rfl|rfl|rfl
 ·(try((repeat(revert hN;revert N;apply Pn.out));refine wk (tw @ao.eq_1 @w3) ?_;(repeat(refine Pn.mk ?_;intro N hN))))
  exact iL (.inl rfl) (vs:=[.agg (ao (ez p 0))]) (by simp only[go_sem, ↓reduceIte,Nat.reduceEqDiff,Nat.reduceAdd,Nat.reduceSub,Nat.reduceLeDiff,reduceCtorEq,eR,gI,ao,ez]) (by simp[dJ,ao,fh,du])
 ·(try((repeat(revert hN;revert N;apply Pn.out));refine wk (tw @ao.eq_1 @w1) ?_;(repeat(refine Pn.mk ?_;intro N hN))))
  exact iL (.inl rfl) (vs:=[.agg (ao (ez p 1))]) (by simp[eR,gI,ao,ez,ld,rowAt,bI,upd,part]) (by simp[dJ,ao,fh,du])
 ·(try((repeat(revert hN;revert N;apply Pn.out));refine wk (tw @ao.eq_1 @w4) ?_;(repeat(refine Pn.mk ?_;intro N hN))))
  exact iL (.inl rfl) (vs:=[.agg (ao (ez p 2))]) (by simp[eR,gI,ao,ez,ld,rowAt,bI,upd,part]) (by simp[dJ,ao,fh,du])
 ·(try((repeat(revert hN;revert N;apply Pn.out));refine wk (tw @ao.eq_1 @w2) ?_;(repeat(refine Pn.mk ?_;intro N hN))))
  exact iL (.inl rfl) (vs:=[.agg (ao (ez p 3))]) (by simp[eR,gI,ao,ez,ld,rowAt,bI,upd,part]) (by simp[dJ,ao,fh,du])
theorem wS (p p2:bx) (x y:Int) (hx:IntKind.i64.wrap (p.fX+p2.fX)=x) (hy:IntKind.i64.wrap (p.fy+p2.fy)=y):ai Tryz.prog 194 [.agg (ao p),.agg (ao p2)] (.agg [.int .i64 x,.int .i64 y]):=by
 refine ai.body dP rfl fun hl n0=>?_
 clear hl
 (try((repeat(revert hN;revert N;apply Pn.out));refine wk (tw @ao.eq_1 (tw @hx @hy)) ?_;(repeat(refine Pn.mk ?_;intro N hN))))
 exact iL (.inl rfl) (vs:=[.agg [.int .i64 x,.int .i64 y]]) (by simp only[go_sem, ↓reduceIte,Nat.reduceEqDiff,Nat.reduceAdd,Nat.reduceSub,Nat.reduceLeDiff,reduceCtorEq,eR,gI,ao]) (by simp[dJ,fh,du])
theorem LM (p:bx) (d:Int) (hd:fU d 0 3=true) (hx:iB p.fX) (hy:iB p.fy):ai Tryz.prog 188 [.agg (ao p),.int .i64 d] (.agg (ao (ez p d))):=by
 refine ai.body dP rfl fun hl n0=>?_
 clear hl
 obtain⟨x1,x2⟩:=hx
 obtain⟨y1,y2⟩:=hy
 have hb:=dr hd
 have hc:d=0∨d=1∨d=2∨d=3:=ab
 rcases hc with rfl|rfl|rfl|rfl
 ·have h:=wS p ⟨0,1⟩ (p.fX) (p.fy+1) (by rw[aQ (by constructor<;>simp only<;>omega)]<;>(try simp only)<;>(try omega)) (by rw[aQ (by constructor<;>simp only<;>omega)]<;>(try simp only)<;>(try omega))
  simp only[ao]at h
  (repeat(first|((repeat(revert hN;revert N;apply Pn.out));refine wk @ao.eq_1 ?_;(repeat(refine Pn.mk ?_;intro N hN)))|((try apply Or.inl);refine⟨_,ai.x (h) (sd @ao.eq_1),?_⟩;refine hN _ _ ?_;clear hN N)))
  exact iL (.inl rfl) (vs:=[.agg (ao (ez p 0))]) (by simp[eR,gI,ao,ez,ld,rowAt,bI,upd,part]) (by simp[dJ,ao,fh,du])
 ·have h:=wS p ⟨1,0⟩ (p.fX+1) (p.fy) (by rw[aQ (by constructor<;>simp only<;>omega)]<;>(try simp only)<;>(try omega)) (by rw[aQ (by constructor<;>simp only<;>omega)]<;>(try simp only)<;>(try omega))
  simp only[ao]at h
  (repeat(first|((repeat(revert hN;revert N;apply Pn.out));refine wk @ao.eq_1 ?_;(repeat(refine Pn.mk ?_;intro N hN)))|((try apply Or.inl);refine⟨_,ai.x (h) (sd @ao.eq_1),?_⟩;refine hN _ _ ?_;clear hN N)))
  exact iL (.inl rfl) (vs:=[.agg (ao (ez p 1))]) (by simp[eR,gI,ao,ez,ld,rowAt,bI,upd,part]) (by simp[dJ,ao,fh,du])
 ·have h:=wS p ⟨0,(-1)⟩ (p.fX) (p.fy-1) (by rw[aQ (by constructor<;>simp only<;>omega)]<;>(try simp only)<;>(try omega)) (by rw[aQ (by constructor<;>simp only<;>omega)]<;>(try simp only)<;>(try omega))
  simp only[ao]at h
  (repeat(first|((repeat(revert hN;revert N;apply Pn.out));refine wk @ao.eq_1 ?_;(repeat(refine Pn.mk ?_;intro N hN)))|((try apply Or.inl);refine⟨_,ai.x (h) (sd @ao.eq_1),?_⟩;refine hN _ _ ?_;clear hN N)))
  exact iL (.inl rfl) (vs:=[.agg (ao (ez p 2))]) (by simp[eR,gI,ao,ez,ld,rowAt,bI,upd,part]) (by simp[dJ,ao,fh,du])
 ·have h:=wS p ⟨(-1),0⟩ (p.fX-1) (p.fy) (by rw[aQ (by constructor<;>simp only<;>omega)]<;>(try simp only)<;>(try omega)) (by rw[aQ (by constructor<;>simp only<;>omega)]<;>(try simp only)<;>(try omega))
  simp only[ao]at h
  (repeat(first|((repeat(revert hN;revert N;apply Pn.out));refine wk @ao.eq_1 ?_;(repeat(refine Pn.mk ?_;intro N hN)))|((try apply Or.inl);refine⟨_,ai.x (h) (sd @ao.eq_1),?_⟩;refine hN _ _ ?_;clear hN N)))
  exact iL (.inl rfl) (vs:=[.agg (ao (ez p 3))]) (by simp[eR,gI,ao,ez,ld,rowAt,bI,upd,part]) (by simp[dJ,ao,fh,du])
theorem Bc (d:Int) (hd:fU d 0 3=true):ai Tryz.prog 189 [.int .i64 d] (.int .i64 (qu d)):=by
 refine ai.body dP rfl fun hl n0=>?_
 clear hl
 have hb:=dr hd
 have hw:IntKind.i64.wrap (d+2)=d+2:=aQ ab
 have ht:Int.tmod (d+2) 4=(d+2) % 4:=Int.tmod_eq_emod_of_nonneg ab
 have h4:¬((4:Int)=0):=ab
 (try((repeat(revert hN;revert N;apply Pn.out));refine wk (tw @hw (tw @ht @h4)) ?_;(repeat(refine Pn.mk ?_;intro N hN))))
 exact bq (b:=(d+2) % 4) (.inl rfl) (sd @Nat.zero_add) (by rw[qu,if_pos hd])
theorem zL (d:Int) (hd:fU d 0 3=true):ai Tryz.prog 163 [.int .i64 d] (.int .i64 (qu d)):=by
 refine ai.body dP rfl fun hl n0=>?_
 clear hl
 have hb:=dr hd
 have hw:IntKind.i64.wrap (d+2)=d+2:=aQ ab
 have ht:Int.tmod (d+2) 4=(d+2) % 4:=Int.tmod_eq_emod_of_nonneg ab
 have h4:¬((4:Int)=0):=ab
 have h:=F9 d
 rw[hd]at h
 (repeat(first|((repeat(revert hN;revert N;apply Pn.out));refine wk (tw @hw (tw @ht @h4)) ?_;(repeat(refine Pn.mk ?_;intro N hN)))|((try apply Or.inl);refine⟨_,ai.x (h) (sd (tw @hw (tw @ht @h4))),?_⟩;refine hN _ _ ?_;clear hN N)))
 exact bq (b:=(d+2) % 4) (.inl rfl) (sd @Nat.zero_add) (by rw[qu,if_pos hd])
def fP (s:aq) (t:Int):Bool:=fU t 0 ((s.ae.length:Int)-1)
theorem AT (s:aq) (t:Int):ai Tryz.prog 96 [.cH (aa s),.int .i64 t] (.bool (fP s t)):=by
 refine ai.body dP rfl fun hl n0=>?_
 have hn:s.ae.length<=9223372036854775807:=by
  have h1:=(hl (.cH (aa s)) (by simp)).ve (a:=.sl (s.ae.map aU)) (by simp[aa])
  simpa using h1.len
 clear hl
 have hw:IntKind.i64.wrap ((s.ae.length:Int)-1)=(s.ae.length:Int)-1:=aQ ab
 have h:=gj t 0 ((s.ae.length:Int)-1)
 (repeat(first|((repeat(revert hN;revert N;apply Pn.out));refine wk (tw @aa.eq_1 @hw) ?_;(repeat(refine Pn.mk ?_;intro N hN)))|((try apply Or.inl);refine⟨_,ai.x (h) (sd (tw @aa.eq_1 @hw)),?_⟩;refine hN _ _ ?_;clear hN N)))
 exact aI (b:=fP s t) (.inl rfl) (by simp only[go_sem, ↓reduceIte,Nat.reduceEqDiff,Nat.reduceAdd,Nat.reduceSub,Nat.reduceLeDiff,reduceCtorEq,fP]) rfl
theorem vg (t n:Int) (h0:0<=n) (h1:n<=9223372036854775807):ai Tryz.prog 136 [.int .i64 t,.int .i64 n] (.bool (fU t 0 (n-1))):=by
 refine ai.body dP rfl fun hl n0=>?_
 clear hl
 have hw:IntKind.i64.wrap (n-1)=n-1:=aQ ab
 have h:=iN t 0 (n-1)
 (repeat(first|((repeat(revert hN;revert N;apply Pn.out));refine wk @hw ?_;(repeat(refine Pn.mk ?_;intro N hN)))|((try apply Or.inl);refine⟨_,ai.x (h) (sd @hw),?_⟩;refine hN _ _ ?_;clear hN N)))
 exact aI (b:=fU t 0 (n-1)) (.inl rfl) (sd @Nat.zero_add) rfl
theorem F8 (s:aq) (t:Int):ai Tryz.prog 106 [.agg (aa s),.int .i64 t] (.bool (fP s t)):=by
 refine ai.body dP rfl fun hl n0=>?_
 have hn:s.ae.length<=9223372036854775807:=by
  have h1:=(hl (.agg (aa s)) (by simp)).HG (a:=.sl (s.ae.map aU)) (by simp[aa])
  simpa using h1.len
 clear hl
 have h:=vg t s.ae.length ab ab
 (repeat(first|((repeat(revert hN;revert N;apply Pn.out));refine wk @aa.eq_1 ?_;(repeat(refine Pn.mk ?_;intro N hN)))|((try apply Or.inl);refine⟨_,ai.x (h) (sd @aa.eq_1),?_⟩;refine hN _ _ ?_;clear hN N)))
 exact aI (b:=fP s t) (.inl rfl) (by simp only[go_sem, ↓reduceIte,Nat.reduceEqDiff,Nat.reduceAdd,Nat.reduceSub,Nat.reduceLeDiff,reduceCtorEq,fP]) rfl
def A7:ef:=⟨⟨#[]⟩,[]⟩
def cD (s:aq) (t:Int):ef:=s.ae.getD t.toNat A7
def cG (t:ef) (d:Int):Int:=t.aY.getD d.toNat 0
def iX (s:aq) (g:Int):eS:=s.aw.getD g.toNat ⟨⟨#[]⟩,0⟩
def tz (s:aq) (g:Int):Int:=if g=0 then 0 else(iX s (g-1)).dF
def iw (s:aq) (a d b:Int):Int:=if cG (cD s a) d=cG (cD s b) (qu d)then tz s (cG (cD s a) d)else 0
structure g8 (s:aq):Prop where
 nk:∀t∈s.ae,t.aY.length=4
 qT:∀t∈s.ae,∀g∈t.aY,0<=g/\g<=s.aw.length
theorem getD_map {α β:Type} (e:α->β) {l:List α} {k:Nat} {d:α} (h:k<l.length):(l.map e)[k]? =some (e (l.getD k d)):=by simp[List.getD_eq_getElem?_getD,h]
theorem uu (s:aq) (g:Int) (h0:0<=g) (h1:g<=s.aw.length):ai Tryz.prog 164 [.cH (aa s),.int .i64 g] (.int .i64 (tz s g)):=by
 refine ai.body dP rfl fun hl n0=>?_
 have hn:s.aw.length<=9223372036854775807:=by
  have h1:=(hl (.cH (aa s)) (by simp)).ve (a:=.sl (s.aw.map aV)) (by simp[aa])
  simpa using h1.len
 clear hl
 by_cases hg:g=0
 ·have e:decide (g=0)=true:=decide_eq_true hg
  (try((repeat(revert hN;revert N;apply Pn.out));refine wk (tw @aa.eq_1 @e) ?_;(repeat(refine Pn.mk ?_;intro N hN))))
  exact bq (b:=0) (.inl rfl) (sd @Nat.zero_add) (by rw[tz,if_pos hg])
 ·have e:decide (g=0)=false:=decide_eq_false hg
  have hw:IntKind.i64.wrap (g-1)=g-1:=aQ ab
  have kV:0<=g-1:=ab
  have dW:(s.aw.map aV)[(g-1).toNat]? =some (aV (iX s (g-1))):=getD_map aV ab
  (try((repeat(revert hN;revert N;apply Pn.out));refine wk (tw @aa.eq_1 (tw @e (tw @hw (tw @kV (tw @dW @aV.eq_1))))) ?_;(repeat(refine Pn.mk ?_;intro N hN))))
  exact bq (b:=(iX s (g-1)).dF) (.inl rfl) (sd @Nat.zero_add) (by rw[tz,if_neg hg])
theorem j5 {s:aq} {a:Int} (h:fP s a=true):0<=a/\(s.ae.map aU)[a.toNat]? =some (aU (cD s a))/\cD s a∈s.ae:=by
 have h':=dr h
 have dD:a.toNat<s.ae.length:=ab
 refine⟨h'.1,getD_map aU dD,?_⟩
 unfold cD
 rw[List.getD_eq_getElem?_getD,List.getElem?_eq_getElem dD]
 exact List.getElem_mem dD
theorem j0 {t:ef} {d:Int} (h:t.aY.length=4) (hd:fU d 0 3=true):(t.aY.map au)[d.toNat]? =some [.int .i64 (cG t d)]:=by
 have:=dr hd
 exact getD_map au ab
theorem pK {t:ef} {d:Int} (h:t.aY.length=4) (hd:fU d 0 3=true):cG t d∈t.aY:=by
 have:=dr hd
 have dD:d.toNat<t.aY.length:=ab
 unfold cG
 rw[List.getD_eq_getElem?_getD,List.getElem?_eq_getElem dD]
 exact List.getElem_mem dD
theorem wR {d:Int} (hd:fU d 0 3=true):fU (qu d) 0 3=true:=by
 have:=dr hd
 refine jx ?_
 rw[qu,if_pos hd];omega
theorem DM (s:aq) (hF:g8 s) (a d b:Int) (ha:fP s a=true) (hb:fP s b=true) (hd:fU d 0 3=true):ai Tryz.prog 149 [.cH (aa s),.int .i64 a,.int .i64 d,.int .i64 b] (.int .i64 (iw s a d b)):=by
 refine ai.body dP rfl fun hl n0=>?_
 clear hl
 obtain⟨a0,a1,a2⟩:=j5 ha
 obtain⟨b0,b1,b2⟩:=j5 hb
 have s1:=j0 (hF.nk _ a2) hd
 have s2:=j0 (hF.nk _ b2) (wR hd)
 have gl:=hF.qT _ a2 _ (pK (hF.nk _ a2) hd)
 have d0:=(dr hd).1
 have d1:=(dr (wR hd)).1
 have h:=zL d hd
 have hs:=uu s (cG (cD s a) d) gl.1 gl.2
 rw[aa]at hs
 by_cases e:cG (cD s a) d=cG (cD s b) (qu d)
 ·have e':decide (cG (cD s a) d=cG (cD s b) (qu d))=true:=decide_eq_true e
  (repeat(first|((repeat(revert hN;revert N;apply Pn.out));refine wk (tw @aa.eq_1 (tw @aU.eq_1 (tw @a0 (tw @a1 (tw @b0 (tw @b1 (tw @s1 (tw @s2 (tw @d0 (tw @d1 @e')))))))))) ?_;(repeat(refine Pn.mk ?_;intro N hN)))|((try apply Or.inl);refine⟨_,ai.x (h) (sd (tw @aa.eq_1 (tw @aU.eq_1 (tw @a0 (tw @a1 (tw @b0 (tw @b1 (tw @s1 (tw @s2 (tw @d0 (tw @d1 @e'))))))))))),?_⟩;refine hN _ _ ?_;clear hN N)|((try apply Or.inl);refine⟨_,ai.x (hs) (sd (tw @aa.eq_1 (tw @aU.eq_1 (tw @a0 (tw @a1 (tw @b0 (tw @b1 (tw @s1 (tw @s2 (tw @d0 (tw @d1 @e'))))))))))),?_⟩;refine hN _ _ ?_;clear hN N)))
  exact bq (b:=tz s (cG (cD s a) d)) (.inl rfl) (sd @Nat.zero_add) (by rw[iw,if_pos e])
 ·have e':decide (cG (cD s a) d=cG (cD s b) (qu d))=false:=decide_eq_false e
  (repeat(first|((repeat(revert hN;revert N;apply Pn.out));refine wk (tw @aa.eq_1 (tw @aU.eq_1 (tw @a0 (tw @a1 (tw @b0 (tw @b1 (tw @s1 (tw @s2 (tw @d0 (tw @d1 @e')))))))))) ?_;(repeat(refine Pn.mk ?_;intro N hN)))|((try apply Or.inl);refine⟨_,ai.x (h) (sd (tw @aa.eq_1 (tw @aU.eq_1 (tw @a0 (tw @a1 (tw @b0 (tw @b1 (tw @s1 (tw @s2 (tw @d0 (tw @d1 @e'))))))))))),?_⟩;refine hN _ _ ?_;clear hN N)))
  exact bq (b:=0) (.inl rfl) (sd @Nat.zero_add) (by rw[iw,if_neg e])
theorem Bz (s:aq) (hF:g8 s) (a d:Int) (ha:fP s a=true) (hd:fU d 0 3=true):ai Tryz.prog 190 [.agg (aa s),.int .i64 a,.int .i64 d] (.int .i64 (tz s (cG (cD s a) d))):=by
 refine ai.body dP rfl fun hl n0=>?_
 have hn:s.aw.length<=9223372036854775807:=by
  have h1:=(hl (.agg (aa s)) (by simp)).HG (a:=.sl (s.aw.map aV)) (by simp[aa])
  simpa using h1.len
 clear hl
 obtain⟨a0,a1,a2⟩:=j5 ha
 have s1:=j0 (hF.nk _ a2) hd
 have gl:=hF.qT _ a2 _ (pK (hF.nk _ a2) hd)
 have d0:=(dr hd).1
 by_cases hg:cG (cD s a) d=0
 ·have e:¬(0<cG (cD s a) d):=ab
  (try((repeat(revert hN;revert N;apply Pn.out));refine wk (tw @aa.eq_1 (tw @aU.eq_1 (tw @a0 (tw @a1 (tw @s1 (tw @d0 @e)))))) ?_;(repeat(refine Pn.mk ?_;intro N hN))))
  exact bq (b:=0) (.inl rfl) (sd @Nat.zero_add) (by rw[tz,if_pos hg])
 ·have e:0<cG (cD s a) d:=ab
  have hw:IntKind.i64.wrap (cG (cD s a) d-1)=cG (cD s a) d-1:=aQ ab
  have kV:0<=cG (cD s a) d-1:=ab
  have dW:(s.aw.map aV)[(cG (cD s a) d-1).toNat]? =some (aV (iX s (cG (cD s a) d-1))):=getD_map aV ab
  (try((repeat(revert hN;revert N;apply Pn.out));refine wk (tw @aa.eq_1 (tw @aU.eq_1 (tw @a0 (tw @a1 (tw @s1 (tw @d0 (tw @e (tw @hw (tw @kV (tw @dW @aV.eq_1)))))))))) ?_;(repeat(refine Pn.mk ?_;intro N hN))))
  exact bq (b:=(iX s (cG (cD s a) d-1)).dF) (.inl rfl) (sd @Nat.zero_add) (by rw[tz,if_neg hg])
theorem Ki (s:aq) (hF:g8 s) (a d b:Int) (ha:fP s a=true) (hb:fP s b=true) (hd:fU d 0 3=true):ai Tryz.prog 173 [.agg (aa s),.int .i64 a,.int .i64 d,.int .i64 b] (.int .i64 (iw s a d b)):=by
 refine ai.body dP rfl fun hl n0=>?_
 clear hl
 obtain⟨a0,a1,a2⟩:=j5 ha
 obtain⟨b0,b1,b2⟩:=j5 hb
 have s1:=j0 (hF.nk _ a2) hd
 have s2:=j0 (hF.nk _ b2) (wR hd)
 have d0:=(dr hd).1
 have d1:=(dr (wR hd)).1
 have h:=Bc d hd
 have hs:=Bz s hF a d ha hd
 rw[aa]at hs
 by_cases e:cG (cD s a) d=cG (cD s b) (qu d)
 ·have e':decide (cG (cD s a) d=cG (cD s b) (qu d))=true:=decide_eq_true e
  (repeat(first|((repeat(revert hN;revert N;apply Pn.out));refine wk (tw @aa.eq_1 (tw @aU.eq_1 (tw @a0 (tw @a1 (tw @b0 (tw @b1 (tw @s1 (tw @s2 (tw @d0 (tw @d1 @e')))))))))) ?_;(repeat(refine Pn.mk ?_;intro N hN)))|((try apply Or.inl);refine⟨_,ai.x (h) (sd (tw @aa.eq_1 (tw @aU.eq_1 (tw @a0 (tw @a1 (tw @b0 (tw @b1 (tw @s1 (tw @s2 (tw @d0 (tw @d1 @e'))))))))))),?_⟩;refine hN _ _ ?_;clear hN N)|((try apply Or.inl);refine⟨_,ai.x (hs) (sd (tw @aa.eq_1 (tw @aU.eq_1 (tw @a0 (tw @a1 (tw @b0 (tw @b1 (tw @s1 (tw @s2 (tw @d0 (tw @d1 @e'))))))))))),?_⟩;refine hN _ _ ?_;clear hN N)))
  exact bq (b:=tz s (cG (cD s a) d)) (.inl rfl) (sd @Nat.zero_add) (by rw[iw,if_pos e])
 ·have e':decide (cG (cD s a) d=cG (cD s b) (qu d))=false:=decide_eq_false e
  (repeat(first|((repeat(revert hN;revert N;apply Pn.out));refine wk (tw @aa.eq_1 (tw @aU.eq_1 (tw @a0 (tw @a1 (tw @b0 (tw @b1 (tw @s1 (tw @s2 (tw @d0 (tw @d1 @e')))))))))) ?_;(repeat(refine Pn.mk ?_;intro N hN)))|((try apply Or.inl);refine⟨_,ai.x (h) (sd (tw @aa.eq_1 (tw @aU.eq_1 (tw @a0 (tw @a1 (tw @b0 (tw @b1 (tw @s1 (tw @s2 (tw @d0 (tw @d1 @e'))))))))))),?_⟩;refine hN _ _ ?_;clear hN N)))
  exact bq (b:=0) (.inl rfl) (sd @Nat.zero_add) (by rw[iw,if_neg e])
def n9 (s:aq) (i:Nat):eS:=s.aw.getD i ⟨⟨#[]⟩,0⟩
def nq (s:aq) (i:Nat):ef:=s.ae.getD i A7
def zI (s:aq) (i:Nat):Prop:=iV (n9 s i).aB=true/\fU (n9 s i).dF 1 4=true/\∀j,j<i->(n9 s j).aB≠(n9 s i).aB
def xF (s:aq) (i:Nat):Prop:=iV (nq s i).aB=true/\(nq s i).aY.length=4/\(∀j,j<i->(nq s j).aB≠(nq s i).aB)/\∀g∈(nq s i).aY,fU g 0 s.aw.length=true
structure lj (s:aq):Prop where
 qT:s.aw.length<=200
 some:1<=s.ae.length
 J1:s.ae.length<=160
 PW:∀i,i<s.aw.length->zI s i
 tok:∀i,i<s.ae.length->xF s i
noncomputable def oP (s:aq):Bool:=@decide (lj s) (Classical.propDecidable _)
theorem k7 {s:aq}:oP s=true↔lj s:=by simp[oP]
theorem eV {s:aq} (h:¬lj s):false=oP s:=by simp[oP,h]
theorem zh {s:aq} (h:lj s):true=oP s:=by simp[oP,h]
theorem w9 {s:aq} {i:Nat} (h:i<s.ae.length):(s.ae.map aU)[i]? =some (aU (nq s i)):=getD_map aU h
theorem wj {s:aq} {i:Nat} (h:i<s.aw.length):(s.aw.map aV)[i]? =some (aV (n9 s i)):=getD_map aV h
theorem lj.form {s:aq} (h:lj s):g8 s:=by
 have key:∀t∈s.ae,∃i,i<s.ae.length/\t=nq s i:=fun t ht=>by
  obtain⟨i,hi,rfl⟩:=List.getElem_of_mem ht
  exact⟨i,hi,by simp[nq,List.getD_eq_getElem?_getD,hi]⟩
 refine⟨fun t ht=>?_,fun t ht g hg=>?_⟩
 ·obtain⟨i,hi,rfl⟩:=key t ht
  exact(h.tok i hi).2.1
 ·obtain⟨i,hi,rfl⟩:=key t ht
  exact dr ((h.tok i hi).2.2.2 g hg)
def de (l:List ByteArray):List (List AV):=l.map fun n=>[.str n,.bool true]
abbrev mS:MK:=⟨false,[.tS]⟩
theorem vG (n:ByteArray):∀(l:List ByteArray) (i:Nat),∃r,gG mS [.str n] (de l) i=some r/\((r=none/\n∉l)∨∃j,r=some (i+j)/\n∈l/\(de l)[j]? =some [.str n,.bool true])
 |[],i=>⟨none,rfl,.inl ⟨rfl,by simp⟩⟩
 |m::l,i=>by
  obtain⟨r,h1,h2⟩:=vG n l (i+1)
  by_cases h:n=m
  ·subst h
   exact⟨some i,by simp[de,gG,eZ,fW,MK.ks],.inr ⟨0,rfl,by simp,rfl⟩⟩
  ·refine⟨r,?_,?_⟩
   ·unfold de at h1 ⊢
    simp only[List.map_cons,gG,MK.ks,List.length_cons,List.length_nil,Nat.zero_add,List.take_succ_cons,List.take_zero,eZ,fW,h,decide_false,Bool.and_true]
    exact h1
   ·rcases h2 with⟨rfl,h2⟩|⟨j,rfl,h2,h3⟩
    ·exact .inl ⟨rfl,by simp[h,h2]⟩
    ·exact .inr ⟨j+1,by congr 1;omega,by simp[h2],by simpa[de]using h3⟩
theorem tu (n:ByteArray) (l:List ByteArray):(n∉l/\gw mS (.str n) (de l)=some none)∨∃j,n∈l/\gw mS (.str n) (de l)=some (some j)/\(de l)[j]? =some [.str n,.bool true]:=by
 obtain⟨r,h1,h2⟩:=vG n l 0
 have e:gw mS (.str n) (de l)=some r:=by
  unfold gw
  rw[if_pos ⟨rfl,rfl,rfl⟩];exact h1
 rcases h2 with⟨rfl,h2⟩|⟨j,rfl,h2,h3⟩
 ·exact .inl ⟨h2,e⟩
 ·exact .inr ⟨j,h2,by rw[e,Nat.zero_add],h3⟩
theorem LK (s:aq) (g:Int):ai Tryz.prog 134 [.int .i64 g,.cH (aa s)] (.bool (!fU g 0 s.aw.length)):=by
 refine ai.body dP rfl fun hl n0=>?_
 clear hl
 have h:=iN g 0 s.aw.length
 (repeat(first|((repeat(revert hN;revert N;apply Pn.out));refine wk @aa.eq_1 ?_;(repeat(refine Pn.mk ?_;intro N hN)))|((try apply Or.inl);refine⟨_,ai.x (h) (sd @aa.eq_1),?_⟩;refine hN _ _ ?_;clear hN N)))
 exact aI (b:= !fU g 0 s.aw.length) (.inl rfl) (sd @Nat.zero_add) rfl
theorem HW:MP au (fun c=>.int .i64 c) 1 false:=⟨fun _=>rfl,fun _=>rfl,fun x g=>by rw[ad,aE,aj];rfl⟩
theorem I9 (s:aq) (l:List Int) (hl:l.length<=1048576):ai Tryz.prog 133 [.sl (l.map au),.fn 134 [.cH (aa s)]] (.bool (l.any fun g=> !fU g 0 s.aw.length)):=
 mM HW (show lr Tryz.prog 133=some (Ar 133 156) by kernel_rfl)
  (show lr Tryz.prog 156=some (sY 156 1 false) by kernel_rfl) l hl _ _ _ rfl (fun g=>by rw[ad,aX,aj];rfl) (fun x _=>LK s x) fun g=>by rw[ad,aX,aj];rfl
theorem tb {α:Type} (f:Nat->α) (n k:Nat) (x:α):x∉(List.range k).map f↔∀j,j<k->f j≠x:=by
 constructor
 ·intro h j hj he
  exact h (List.mem_map.2 ⟨j,List.mem_range.2 hj,he⟩)
 ·intro h hm
  obtain⟨j,hj,he⟩:=List.mem_map.1 hm
  exact h j (List.mem_range.1 hj) he
theorem zN (s:aq) (hn:fA s) (hg:s.aw.length<=1048576) (ht:s.ae.length<=1048576) (hs:∀t∈s.ae,t.aY.length<=1048576):ai Tryz.prog 102 [.agg (aa s)] (.bool (oP s)):=by
 refine ai.body dP rfl fun hl n0=>?_
 clear hl
 have NL:∀i,i<s.aw.length->(n9 s i).aB.size<=9223372036854775807:=fun i hi=>hn.1 _ (by simp[n9,List.getD_eq_getElem?_getD,hi])
 have QU:∀i,i<s.ae.length->(nq s i).aB.size<=9223372036854775807:=fun i hi=>hn.2 _ (by simp[nq,List.getD_eq_getElem?_getD,hi])
 have uq:∀i,i<s.ae.length->(nq s i).aY.length<=1048576:=fun i hi=>hs _ (by simp[nq,List.getD_eq_getElem?_getD,hi])
 have hw:=iN (s.ae.length:Int) 1 160
 by_cases h1:(200:Int)<(s.aw.length:Int)
 ·(try((repeat(revert hN;revert N;apply Pn.out));refine wk (tw @aa.eq_1 @h1) ?_;(repeat(refine Pn.mk ?_;intro N hN))))
  exact aI (b:=false) (.inl rfl) (sd @Nat.zero_add) (eV fun h=>by have:=h.qT;omega)
 by_cases h2:fU (s.ae.length:Int) 1 160=true
 ·have xo:=dr h2
  rw[h2]at hw
  (repeat(first|((repeat(revert hN;revert N;apply Pn.out));refine wk (tw @aa.eq_1 @h1) ?_;(repeat(refine Pn.mk ?_;intro N hN)))|((try apply Or.inl);refine⟨_,ai.x (hw) (sd (tw @aa.eq_1 @h1)),?_⟩;refine hN _ _ ?_;clear hN N)))
  refine aJ (fun n env st=>∃k:Nat,n=(s.aw.length)-k/\k<=(s.aw.length)/\env 24=.int .i64 (k:Int)/\st.get ⟨102000000,n0⟩=some ⟨true,2,[aa s]⟩/\st.get ⟨102003000,n0+1+1⟩=some ⟨true,mS.Bn,de ((List.range k).map fun i=>(n9 s i).aB)⟩/\(∀j:Nat,j<k->zI s j)) (s.aw.length) ⟨0,ab,ab,by(try simp only[go_sem, ↓reduceIte,Nat.reduceEqDiff,Nat.reduceAdd,Nat.reduceSub,Nat.reduceLeDiff,reduceCtorEq,aa,List.range_zero,List.map_nil,de]);try rfl,by(try simp only[go_sem, ↓reduceIte,Nat.reduceEqDiff,Nat.reduceAdd,Nat.reduceSub,Nat.reduceLeDiff,reduceCtorEq,aa,List.range_zero,List.map_nil,de]);try rfl,by(try simp only[go_sem, ↓reduceIte,Nat.reduceEqDiff,Nat.reduceAdd,Nat.reduceSub,Nat.reduceLeDiff,reduceCtorEq,aa,List.range_zero,List.map_nil,de]);try rfl,fun _ h=>absurd h (Nat.not_lt_zero _)⟩ ?_
  rintro n_a env_a st_a ⟨k,rfl,ale,a24,ag0,ag1,j9⟩ dE
  have a1:=dE 1 (by kernel_rfl);have a3:=dE 3 (by kernel_rfl);have xH:=dE 22 (by kernel_rfl);have xI:=dE 23 (by kernel_rfl)
  simp only[go_sem, ↓reduceIte,Nat.reduceEqDiff,Nat.reduceAdd,Nat.reduceSub,Nat.reduceLeDiff,reduceCtorEq,aa,List.range_zero,List.map_nil,de]at a1 a3 xH xI
  clear dE
  by_cases hk:(k:Int)<(s.aw.length:Int)
  ·have cl:∀{e:Env} {gg:Rows},(e 24=.int .i64 (IntKind.i64.wrap ((k:Int)+1)))->(gg ⟨102000000,n0⟩=some ⟨true,2,[aa s]⟩)->(gg ⟨102003000,n0+1+1⟩=some ⟨true,mS.Bn,de ((List.range (k+1)).map fun i=>(n9 s i).aB)⟩)->(zI s k)->∃m0,m0<(s.aw.length)-k/\∃k:Nat,m0=(s.aw.length)-k/\k<=(s.aw.length)/\e 24=.int .i64 (k:Int)/\gg ⟨102000000,n0⟩=some ⟨true,2,[aa s]⟩/\gg ⟨102003000,n0+1+1⟩=some ⟨true,mS.Bn,de ((List.range k).map fun i=>(n9 s i).aB)⟩/\(∀j:Nat,j<k->zI s j):=fun x1 x2 x3 x4=>⟨_,ab,k+1,rfl,ab,(by rw[x1,aA ab]),x2,x3,(all_succ j9 x4)⟩
   have eO:k<s.aw.length:=ab
   have eC:=wj eO
   have pY:=Cp (n9 s k).aB (NL k eO)
   have Hz:=iN (n9 s k).dF 1 4
   have yJ:=tu (n9 s k).aB ((List.range k).map fun i=>(n9 s i).aB)
   rw[tb _ k]at yJ
   have jD:(¬zI s k)->¬lj s:=fun h hp=>h (hp.PW k eO)
   generalize r5:n9 s k=gl at *
   cases hb:iV gl.aB
   ·rw[hb]at pY
    (repeat(first|((repeat(revert hN;revert N;apply Pn.out));refine wk (tw @a24 (tw @ag0 (tw @ag1 (tw @a1 (tw @a3 (tw @xH (tw @xI (tw @hk (tw @eC (tw @aV.eq_1 @aa.eq_1)))))))))) ?_;(repeat(refine Pn.mk ?_;intro N hN)))|((try apply Or.inl);refine⟨_,ai.x (pY) (sd (tw @a24 (tw @ag0 (tw @ag1 (tw @a1 (tw @a3 (tw @xH (tw @xI (tw @hk (tw @eC (tw @aV.eq_1 @aa.eq_1))))))))))),?_⟩;refine hN _ _ ?_;clear hN N)))
    exact aI (b:=false) (.inl rfl) (sd @Nat.zero_add) (eV (jD fun h=>by rw[zI,r5,hb]at h;cases h.1))
   ·rw[hb]at pY
    rcases yJ with⟨Ax,mi⟩|⟨j,fb,mi,e9⟩
    ·cases dS:fU gl.dF 1 4
     ·rw[dS]at Hz
      (repeat(first|((repeat(revert hN;revert N;apply Pn.out));refine wk (tw @a24 (tw @ag0 (tw @ag1 (tw @a1 (tw @a3 (tw @xH (tw @xI (tw @hk (tw @eC (tw @mi (tw @aV.eq_1 @aa.eq_1))))))))))) ?_;(repeat(refine Pn.mk ?_;intro N hN)))|((try apply Or.inl);refine⟨_,ai.x (pY) (sd (tw @a24 (tw @ag0 (tw @ag1 (tw @a1 (tw @a3 (tw @xH (tw @xI (tw @hk (tw @eC (tw @mi (tw @aV.eq_1 @aa.eq_1)))))))))))),?_⟩;refine hN _ _ ?_;clear hN N)|((try apply Or.inl);refine⟨_,ai.x (Hz) (sd (tw @a24 (tw @ag0 (tw @ag1 (tw @a1 (tw @a3 (tw @xH (tw @xI (tw @hk (tw @eC (tw @mi (tw @aV.eq_1 @aa.eq_1)))))))))))),?_⟩;refine hN _ _ ?_;clear hN N)))
      exact aI (b:=false) (.inl rfl) (sd @Nat.zero_add) (eV (jD fun h=>by rw[zI,r5,dS]at h;cases h.2.1))
     ·rw[dS]at Hz
      have uk:de ((List.range k).map fun i=>(n9 s i).aB)++[[.str gl.aB,.bool true]]=de (List.map (fun i=>(n9 s i).aB) (List.range k++[k])):=by simp[de,r5]
      (repeat(first|((repeat(revert hN;revert N;apply Pn.out));refine wk (tw @a24 (tw @ag0 (tw @ag1 (tw @a1 (tw @a3 (tw @xH (tw @xI (tw @hk (tw @eC (tw @mi (tw @aV.eq_1 @aa.eq_1))))))))))) ?_;(repeat(refine Pn.mk ?_;intro N hN)))|((try apply Or.inl);refine⟨_,ai.x (pY) (sd (tw @a24 (tw @ag0 (tw @ag1 (tw @a1 (tw @a3 (tw @xH (tw @xI (tw @hk (tw @eC (tw @mi (tw @aV.eq_1 @aa.eq_1)))))))))))),?_⟩;refine hN _ _ ?_;clear hN N)|((try apply Or.inl);refine⟨_,ai.x (Hz) (sd (tw @a24 (tw @ag0 (tw @ag1 (tw @a1 (tw @a3 (tw @xH (tw @xI (tw @hk (tw @eC (tw @mi (tw @aV.eq_1 @aa.eq_1)))))))))))),?_⟩;refine hN _ _ ?_;clear hN N)))
      refine cl ?_ ?_ ?_ (⟨by rw[r5];exact hb,by rw[r5];exact dS,fun j hj=>by rw[r5];exact Ax j hj⟩)
      all_goals simp only[go_sem, ↓reduceIte,Nat.reduceEqDiff,Nat.reduceAdd,Nat.reduceSub,Nat.reduceLeDiff,reduceCtorEq,a24,ag0,ag1,a1,a3,xH,xI,mi,uk]
    ·(repeat(first|((repeat(revert hN;revert N;apply Pn.out));refine wk (tw @a24 (tw @ag0 (tw @ag1 (tw @a1 (tw @a3 (tw @xH (tw @xI (tw @hk (tw @eC (tw @mi (tw @e9 (tw @aV.eq_1 @aa.eq_1)))))))))))) ?_;(repeat(refine Pn.mk ?_;intro N hN)))|((try apply Or.inl);refine⟨_,ai.x (pY) (sd (tw @a24 (tw @ag0 (tw @ag1 (tw @a1 (tw @a3 (tw @xH (tw @xI (tw @hk (tw @eC (tw @mi (tw @e9 (tw @aV.eq_1 @aa.eq_1))))))))))))),?_⟩;refine hN _ _ ?_;clear hN N)))
     exact aI (b:=false) (.inl rfl) (sd @Nat.zero_add) (eV (jD fun h=>by
      rw[zI,r5]at h
      obtain⟨i,hi,he⟩:=List.mem_map.1 fb
      exact h.2.2 i (List.mem_range.1 hi) he))
  ·have kK:k=s.aw.length:=ab
   (try((repeat(revert hN;revert N;apply Pn.out));refine wk (tw @a24 (tw @ag0 (tw @ag1 (tw @a1 (tw @a3 (tw @xH (tw @xI (tw @hk @aa.eq_1)))))))) ?_;(repeat(refine Pn.mk ?_;intro N hN))))
   refine aJ (fun n env st=>∃j:Nat,n=(s.ae.length)-j/\j<=(s.ae.length)/\env 52=.int .i64 (j:Int)/\st.get ⟨102000000,n0⟩=some ⟨true,2,[aa s]⟩/\st.get ⟨102011000,st_a.next+1⟩=some ⟨true,mS.Bn,de ((List.range j).map fun i=>(nq s i).aB)⟩/\(∀i:Nat,i<j->xF s i)/\(st_a.next<st.next)) (s.ae.length) ⟨0,ab,ab,by(try simp only[go_sem, ↓reduceIte,Nat.reduceEqDiff,Nat.reduceAdd,Nat.reduceSub,Nat.reduceLeDiff,reduceCtorEq,a24,ag0,ag1,a1,a3,xH,xI,aa,List.range_zero,List.map_nil,de]);try rfl,by(try simp only[go_sem, ↓reduceIte,Nat.reduceEqDiff,Nat.reduceAdd,Nat.reduceSub,Nat.reduceLeDiff,reduceCtorEq,a24,ag0,ag1,a1,a3,xH,xI,aa,List.range_zero,List.map_nil,de]);try rfl,by(try simp only[go_sem, ↓reduceIte,Nat.reduceEqDiff,Nat.reduceAdd,Nat.reduceSub,Nat.reduceLeDiff,reduceCtorEq,a24,ag0,ag1,a1,a3,xH,xI,aa,List.range_zero,List.map_nil,de]);try rfl,fun _ h=>absurd h (Nat.not_lt_zero _),bD⟩ ?_
   rintro n_b env_b st_b ⟨j,rfl,ble,b52,bg0,bg1,bA0,bI0⟩ bfr
   have b1:=bfr 1 (by kernel_rfl);have b6:=bfr 6 (by kernel_rfl);have zP:=bfr 50 (by kernel_rfl);have zQ:=bfr 51 (by kernel_rfl)
   simp only[go_sem, ↓reduceIte,Nat.reduceEqDiff,Nat.reduceAdd,Nat.reduceSub,Nat.reduceLeDiff,reduceCtorEq,a24,ag0,ag1,a1,a3,xH,xI,aa,List.range_zero,List.map_nil,de]at b1 b6 zP zQ
   clear bfr
   by_cases hj:(j:Int)<(s.ae.length:Int)
   ·have iW:∀{e:Env} {gg:Rows} {nx:Nat},(e 52=.int .i64 (IntKind.i64.wrap ((j:Int)+1)))->(gg ⟨102000000,n0⟩=some ⟨true,2,[aa s]⟩)->(gg ⟨102011000,st_a.next+1⟩=some ⟨true,mS.Bn,de ((List.range (j+1)).map fun i=>(nq s i).aB)⟩)->(xF s j)->(st_a.next<nx)->∃m0,m0<(s.ae.length)-j/\∃j:Nat,m0=(s.ae.length)-j/\j<=(s.ae.length)/\e 52=.int .i64 (j:Int)/\gg ⟨102000000,n0⟩=some ⟨true,2,[aa s]⟩/\gg ⟨102011000,st_a.next+1⟩=some ⟨true,mS.Bn,de ((List.range j).map fun i=>(nq s i).aB)⟩/\(∀i:Nat,i<j->xF s i)/\(st_a.next<nx):=fun x1 x2 x3 x4 x5=>⟨_,ab,j+1,rfl,ab,(by rw[x1,aA ab]),x2,x3,(all_succ bA0 x4),x5⟩
    have im:j<s.ae.length:=ab
    have oH:=w9 im
    have pY:=Cp (nq s j).aB (QU j im)
    have Po:=I9 s (nq s j).aY (uq j im)
    have yJ:=tu (nq s j).aB ((List.range j).map fun i=>(nq s i).aB)
    rw[tb _ j]at yJ
    have jD:(¬xF s j)->¬lj s:=fun h hp=>h (hp.tok j im)
    have gF:(⟨102011000,st_a.next+1⟩:Id)≠⟨102000000,n0⟩:=by simp
    generalize htd:nq s j=tl at *
    cases hb:iV tl.aB
    ·rw[hb]at pY
     (repeat(first|((repeat(revert hN;revert N;apply Pn.out));refine wk (tw @b52 (tw @bg0 (tw @bg1 (tw @b1 (tw @b6 (tw @zP (tw @zQ (tw @hj (tw @oH (tw @aU.eq_1 @aa.eq_1)))))))))) ?_;(repeat(refine Pn.mk ?_;intro N hN)))|((try apply Or.inl);refine⟨_,ai.x (pY) (sd (tw @b52 (tw @bg0 (tw @bg1 (tw @b1 (tw @b6 (tw @zP (tw @zQ (tw @hj (tw @oH (tw @aU.eq_1 @aa.eq_1))))))))))),?_⟩;refine hN _ _ ?_;clear hN N)))
     exact aI (b:=false) (.inl rfl) (sd @Nat.zero_add) (eV (jD fun h=>by rw[xF,htd,hb]at h;cases h.1))
    ·rw[hb]at pY
     rcases yJ with⟨Ax,mi⟩|⟨i,fb,mi,e9⟩
     ·by_cases h4:(tl.aY.length:Int)=4
      ·have wo:decide ((tl.aY.length:Int)=4)=true:=decide_eq_true h4
       cases hany:tl.aY.any fun g=> !fU g 0 s.aw.length
       ·rw[hany]at Po
        have uk:de ((List.range j).map fun i=>(nq s i).aB)++[[.str tl.aB,.bool true]]=de (List.map (fun i=>(nq s i).aB) (List.range j++[j])):=by simp[de,htd]
        (repeat(first|((repeat(revert hN;revert N;apply Pn.out));refine wk (tw @b52 (tw @bg0 (tw @bg1 (tw @b1 (tw @b6 (tw @zP (tw @zQ (tw @hj (tw @oH (tw @mi (tw @wo (tw @aU.eq_1 @aa.eq_1)))))))))))) ?_;(repeat(refine Pn.mk ?_;intro N hN)))|((try apply Or.inl);refine⟨_,ai.x (pY) (sd (tw @b52 (tw @bg0 (tw @bg1 (tw @b1 (tw @b6 (tw @zP (tw @zQ (tw @hj (tw @oH (tw @mi (tw @wo (tw @aU.eq_1 @aa.eq_1))))))))))))),?_⟩;refine hN _ _ ?_;clear hN N)|((try apply Or.inl);refine⟨_,ai.x (Po) (sd (tw @b52 (tw @bg0 (tw @bg1 (tw @b1 (tw @b6 (tw @zP (tw @zQ (tw @hj (tw @oH (tw @mi (tw @wo (tw @aU.eq_1 @aa.eq_1))))))))))))),?_⟩;refine hN _ _ ?_;clear hN N)))
        refine iW ?_ ?_ ?_ (⟨by rw[htd];exact hb,by rw[htd];omega,fun i hi=>(by rw[htd];exact Ax i hi),fun g hg=>by rw[htd]at hg;have:=List.any_eq_false.1 hany g hg;simpa using this⟩) bD
        all_goals simp only[go_sem, ↓reduceIte,Nat.reduceEqDiff,Nat.reduceAdd,Nat.reduceSub,Nat.reduceLeDiff,reduceCtorEq,b52,bg0,bg1,b1,b6,zP,zQ,mi,uk]
       ·rw[hany]at Po
        (repeat(first|((repeat(revert hN;revert N;apply Pn.out));refine wk (tw @b52 (tw @bg0 (tw @bg1 (tw @b1 (tw @b6 (tw @zP (tw @zQ (tw @hj (tw @oH (tw @mi (tw @wo (tw @aU.eq_1 @aa.eq_1)))))))))))) ?_;(repeat(refine Pn.mk ?_;intro N hN)))|((try apply Or.inl);refine⟨_,ai.x (pY) (sd (tw @b52 (tw @bg0 (tw @bg1 (tw @b1 (tw @b6 (tw @zP (tw @zQ (tw @hj (tw @oH (tw @mi (tw @wo (tw @aU.eq_1 @aa.eq_1))))))))))))),?_⟩;refine hN _ _ ?_;clear hN N)|((try apply Or.inl);refine⟨_,ai.x (Po) (sd (tw @b52 (tw @bg0 (tw @bg1 (tw @b1 (tw @b6 (tw @zP (tw @zQ (tw @hj (tw @oH (tw @mi (tw @wo (tw @aU.eq_1 @aa.eq_1))))))))))))),?_⟩;refine hN _ _ ?_;clear hN N)))
        exact aI (b:=false) (.inl rfl) (sd @Nat.zero_add) (eV (jD fun h=>by
         rw[xF,htd]at h
         obtain⟨g,hg,hq⟩:=List.any_eq_true.1 hany
         have:=h.2.2.2 g hg
         rw[this]at hq;cases hq))
      ·have wo:decide ((tl.aY.length:Int)=4)=false:=decide_eq_false h4
       (repeat(first|((repeat(revert hN;revert N;apply Pn.out));refine wk (tw @b52 (tw @bg0 (tw @bg1 (tw @b1 (tw @b6 (tw @zP (tw @zQ (tw @hj (tw @oH (tw @mi (tw @wo (tw @aU.eq_1 @aa.eq_1)))))))))))) ?_;(repeat(refine Pn.mk ?_;intro N hN)))|((try apply Or.inl);refine⟨_,ai.x (pY) (sd (tw @b52 (tw @bg0 (tw @bg1 (tw @b1 (tw @b6 (tw @zP (tw @zQ (tw @hj (tw @oH (tw @mi (tw @wo (tw @aU.eq_1 @aa.eq_1))))))))))))),?_⟩;refine hN _ _ ?_;clear hN N)))
       exact aI (b:=false) (.inl rfl) (sd @Nat.zero_add) (eV (jD fun h=>by rw[xF,htd]at h;have:=h.2.1;omega))
     ·(repeat(first|((repeat(revert hN;revert N;apply Pn.out));refine wk (tw @b52 (tw @bg0 (tw @bg1 (tw @b1 (tw @b6 (tw @zP (tw @zQ (tw @hj (tw @oH (tw @mi (tw @e9 (tw @aU.eq_1 @aa.eq_1)))))))))))) ?_;(repeat(refine Pn.mk ?_;intro N hN)))|((try apply Or.inl);refine⟨_,ai.x (pY) (sd (tw @b52 (tw @bg0 (tw @bg1 (tw @b1 (tw @b6 (tw @zP (tw @zQ (tw @hj (tw @oH (tw @mi (tw @e9 (tw @aU.eq_1 @aa.eq_1))))))))))))),?_⟩;refine hN _ _ ?_;clear hN N)))
      exact aI (b:=false) (.inl rfl) (sd @Nat.zero_add) (eV (jD fun h=>by
       rw[xF,htd]at h
       obtain⟨i,hi,he⟩:=List.mem_map.1 fb
       exact h.2.2.1 i (List.mem_range.1 hi) he))
   ·(try((repeat(revert hN;revert N;apply Pn.out));refine wk (tw @b52 (tw @bg0 (tw @bg1 (tw @b1 (tw @b6 (tw @zP (tw @zQ (tw @hj @aa.eq_1)))))))) ?_;(repeat(refine Pn.mk ?_;intro N hN))))
    exact aI (b:=true) (.inl rfl) (sd @Nat.zero_add) (zh ⟨ab,ab,ab,fun i hi=>j9 i ab,fun i hi=>bA0 i ab⟩)
 ·rw[Bool.not_eq_true]at h2
  rw[h2]at hw
  (repeat(first|((repeat(revert hN;revert N;apply Pn.out));refine wk (tw @aa.eq_1 @h1) ?_;(repeat(refine Pn.mk ?_;intro N hN)))|((try apply Or.inl);refine⟨_,ai.x (hw) (sd (tw @aa.eq_1 @h1)),?_⟩;refine hN _ _ ?_;clear hN N)))
  exact aI (b:=false) (.inl rfl) (sd @Nat.zero_add) (eV fun h=>by
   have h3:=h.some
   have h4:=h.J1
   rw[jx ⟨ab,ab⟩]at h2;cases h2)
theorem rV {α:Type} {p:α->Bool} {xs:List α} {k:Nat} (hk:k<xs.length) (h1:p xs[k]=true) (h2:∀j (h:j<xs.length),j<k->p xs[j]=false):jw p xs=k:=by
 have:xs.findIdx p=k:=by rw[List.findIdx_eq hk];exact⟨h1,fun j hj=>h2 j ab hj⟩
 rw[jw,this,if_pos hk]
theorem uQ {α:Type} {p:α->Bool} {xs:List α} (h:∀j (h:j<xs.length),p xs[j]=false):jw p xs= -1:=by
 rw[jw,if_neg]
 rw[List.findIdx_lt_length]
 rintro⟨x,hx,K8⟩
 obtain⟨j,hj,rfl⟩:=List.getElem_of_mem hx
 rw[h j hj]at K8;cases K8
theorem wi {s:aq} {i:Nat} (h:i<s.aw.length):n9 s i=s.aw[i]:=by simp[n9,List.getD_eq_getElem?_getD,h]
theorem w8 {s:aq} {i:Nat} (h:i<s.ae.length):nq s i=s.ae[i]:=by simp[nq,List.getD_eq_getElem?_getD,h]
def Hk (s:aq) (n:ByteArray):Int:=jw (fun g:eS=>decide (g.aB=n)) s.aw
def JY (s:aq) (n:ByteArray):Int:=jw (fun t:ef=>decide (t.aB=n)) s.ae
theorem DN (s:aq) (nm:ByteArray):ai Tryz.prog 124 [.cH (aa s),.str nm] (.int .i64 (Hk s nm+1)):=by
 refine ai.body dP rfl fun hl n0=>?_
 have hlen:s.aw.length<=9223372036854775807:=by
  have h1:=(hl (.cH (aa s)) (by simp)).ve (a:=.sl (s.aw.map aV)) (by simp[aa])
  simpa using h1.len
 clear hl
 (try((repeat(revert hN;revert N;apply Pn.out));refine wk @aa.eq_1 ?_;(repeat(refine Pn.mk ?_;intro N hN))))
 refine aJ (fun n env st=>∃k:Nat,n=(s.aw.length)-k/\k<=(s.aw.length)/\env 5=.int .i64 (k:Int)/\(∀j:Nat,j<k->∀h:j<s.aw.length,decide (s.aw[j].aB=nm)=false)) (s.aw.length) ⟨0,ab,ab,sl @aa.eq_1,fun _ h=>absurd h (Nat.not_lt_zero _)⟩ ?_
 rintro n_a env_a st_a ⟨k,rfl,ale,a5,j9⟩ dE
 have a0:=dE 0 (by kernel_rfl);have a1:=dE 1 (by kernel_rfl)
 simp only[go_sem, ↓reduceIte,Nat.reduceEqDiff,Nat.reduceAdd,Nat.reduceSub,Nat.reduceLeDiff,reduceCtorEq,aa]at a0 a1
 clear dE
 by_cases hk:(k:Int)<(s.aw.length:Int)
 ·have cl:∀{e:Env},(e 5=.int .i64 (IntKind.i64.wrap ((k:Int)+1)))->(∀h:k<s.aw.length,decide (s.aw[k].aB=nm)=false)->∃m0,m0<(s.aw.length)-k/\∃k:Nat,m0=(s.aw.length)-k/\k<=(s.aw.length)/\e 5=.int .i64 (k:Int)/\(∀j:Nat,j<k->∀h:j<s.aw.length,decide (s.aw[j].aB=nm)=false):=fun x1 x2=>⟨_,ab,k+1,rfl,ab,(by rw[x1,aA ab]),(all_succ j9 x2)⟩
  have eO:k<s.aw.length:=ab
  have eC:=wj eO
  have e:=wi eO
  cases hd:decide ((n9 s k).aB=nm)
  ·have O6:=of_decide_eq_false hd
   (try((repeat(revert hN;revert N;apply Pn.out));refine wk (tw @a5 (tw @a0 (tw @a1 (tw @hk (tw @eC (tw @O6 (tw @hd (tw @aV.eq_1 @aa.eq_1)))))))) ?_;(repeat(refine Pn.mk ?_;intro N hN))))
   exact cl (sd (tw @a5 (tw @a0 @a1))) (fun _=>by rw[e]at hd;exact hd)
  ·have O6:=of_decide_eq_true hd
   have hw:IntKind.i64.wrap ((k:Int)+1)=(k:Int)+1:=aQ ab
   (try((repeat(revert hN;revert N;apply Pn.out));refine wk (tw @a5 (tw @a0 (tw @a1 (tw @hk (tw @eC (tw @hd (tw @hw (tw @aV.eq_1 @aa.eq_1)))))))) ?_;(repeat(refine Pn.mk ?_;intro N hN))))
   exact bq (b:=(k:Int)+1) (.inl rfl) (sd @Nat.zero_add) (by rw[Hk,rV eO (by rw[e]at hd;exact hd) fun j h hj=>j9 j hj h])
 ·(try((repeat(revert hN;revert N;apply Pn.out));refine wk (tw @a5 (tw @a0 (tw @a1 (tw @hk @aa.eq_1)))) ?_;(repeat(refine Pn.mk ?_;intro N hN))))
  exact bq (b:=0) (.inl rfl) (sd @Nat.zero_add) (by rw[Hk,uQ fun j h=>j9 j ab h];rfl)
theorem DO (s:aq) (nm:ByteArray):ai Tryz.prog 125 [.cH (aa s),.str nm] (.int .i64 (JY s nm)):=by
 refine ai.body dP rfl fun hl n0=>?_
 have hlen:s.ae.length<=9223372036854775807:=by
  have h1:=(hl (.cH (aa s)) (by simp)).ve (a:=.sl (s.ae.map aU)) (by simp[aa])
  simpa using h1.len
 clear hl
 (try((repeat(revert hN;revert N;apply Pn.out));refine wk @aa.eq_1 ?_;(repeat(refine Pn.mk ?_;intro N hN))))
 refine aJ (fun n env st=>∃k:Nat,n=(s.ae.length)-k/\k<=(s.ae.length)/\env 5=.int .i64 (k:Int)/\(∀j:Nat,j<k->∀h:j<s.ae.length,decide (s.ae[j].aB=nm)=false)) (s.ae.length) ⟨0,ab,ab,sl @aa.eq_1,fun _ h=>absurd h (Nat.not_lt_zero _)⟩ ?_
 rintro n_a env_a st_a ⟨k,rfl,ale,a5,j9⟩ dE
 have a0:=dE 0 (by kernel_rfl);have a1:=dE 1 (by kernel_rfl)
 simp only[go_sem, ↓reduceIte,Nat.reduceEqDiff,Nat.reduceAdd,Nat.reduceSub,Nat.reduceLeDiff,reduceCtorEq,aa]at a0 a1
 clear dE
 by_cases hk:(k:Int)<(s.ae.length:Int)
 ·have cl:∀{e:Env},(e 5=.int .i64 (IntKind.i64.wrap ((k:Int)+1)))->(∀h:k<s.ae.length,decide (s.ae[k].aB=nm)=false)->∃m0,m0<(s.ae.length)-k/\∃k:Nat,m0=(s.ae.length)-k/\k<=(s.ae.length)/\e 5=.int .i64 (k:Int)/\(∀j:Nat,j<k->∀h:j<s.ae.length,decide (s.ae[j].aB=nm)=false):=fun x1 x2=>⟨_,ab,k+1,rfl,ab,(by rw[x1,aA ab]),(all_succ j9 x2)⟩
  have eO:k<s.ae.length:=ab
  have eC:=w9 eO
  have e:=w8 eO
  cases hd:decide ((nq s k).aB=nm)
  ·(try((repeat(revert hN;revert N;apply Pn.out));refine wk (tw @a5 (tw @a0 (tw @a1 (tw @hk (tw @eC (tw @hd (tw @aU.eq_1 @aa.eq_1))))))) ?_;(repeat(refine Pn.mk ?_;intro N hN))))
   exact cl (sd (tw @a5 (tw @a0 @a1))) (fun _=>by rw[e]at hd;exact hd)
  ·(try((repeat(revert hN;revert N;apply Pn.out));refine wk (tw @a5 (tw @a0 (tw @a1 (tw @hk (tw @eC (tw @hd (tw @aU.eq_1 @aa.eq_1))))))) ?_;(repeat(refine Pn.mk ?_;intro N hN))))
   exact bq (b:=(k:Int)) (.inl rfl) (sd @Nat.zero_add) (by rw[JY,rV eO (by rw[e]at hd;exact hd) fun j h hj=>j9 j hj h])
 ·(try((repeat(revert hN;revert N;apply Pn.out));refine wk (tw @a5 (tw @a0 (tw @a1 (tw @hk @aa.eq_1)))) ?_;(repeat(refine Pn.mk ?_;intro N hN))))
  exact bq (b:=-1) (.inl rfl) (sd @Nat.zero_add) (by rw[JY,uQ fun j h=>j9 j ab h])
theorem KD {s:aq} {i:Nat} (h:i<s.aw.length):Hk s (n9 s i).aB=i↔∀j,j<i->(n9 s j).aB≠(n9 s i).aB:=by
 constructor
 ·intro he j hj hc
  have gn:j<s.aw.length:=ab
  have:s.aw.findIdx (fun g:eS=>decide (g.aB=(n9 s i).aB))<=j:=by
   rcases Nat.lt_or_ge j (s.aw.findIdx fun g:eS=>decide (g.aB=(n9 s i).aB))with dD|kV
   ·have:=List.not_of_lt_findIdx dD
    rw[<-wi gn]at this
    simp[hc]at this
   ·exact kV
  unfold Hk jw at he
  split at he<;>omega
 ·intro hd
  exact rV h (by rw[<-wi h];simp) fun j gn hj=>by rw[<-wi gn];simpa using hd j hj
theorem LO {s:aq} {i:Nat} (h:i<s.ae.length):JY s (nq s i).aB=i↔∀j,j<i->(nq s j).aB≠(nq s i).aB:=by
 constructor
 ·intro he j hj hc
  have gn:j<s.ae.length:=ab
  have:s.ae.findIdx (fun g:ef=>decide (g.aB=(nq s i).aB))<=j:=by
   rcases Nat.lt_or_ge j (s.ae.findIdx fun g:ef=>decide (g.aB=(nq s i).aB))with dD|kV
   ·have:=List.not_of_lt_findIdx dD
    rw[<-w8 gn]at this
    simp[hc]at this
   ·exact kV
  unfold JY jw at he
  split at he<;>omega
 ·intro hd
  exact rV h (by rw[<-w8 h];simp) fun j gn hj=>by rw[<-w8 gn];simpa using hd j hj
theorem IB (s:aq) (hn:fA s) (hg:s.aw.length<=1048576) (ht:s.ae.length<=1048576):ai Tryz.prog 92 [.cH (aa s)] (.bool (oP s)):=by
 refine ai.body dP rfl fun hl n0=>?_
 clear hl
 have NL:∀i,i<s.aw.length->(n9 s i).aB.size<=9223372036854775807:=fun i hi=>hn.1 _ (by simp[n9,List.getD_eq_getElem?_getD,hi])
 have QU:∀i,i<s.ae.length->(nq s i).aB.size<=9223372036854775807:=fun i hi=>hn.2 _ (by simp[nq,List.getD_eq_getElem?_getD,hi])
 by_cases h1:(200:Int)<(s.aw.length:Int)
 ·(try((repeat(revert hN;revert N;apply Pn.out));refine wk (tw @aa.eq_1 @h1) ?_;(repeat(refine Pn.mk ?_;intro N hN))))
  exact aI (b:=false) (.inl rfl) (sd @Nat.zero_add) (eV fun h=>by have:=h.qT;omega)
 by_cases h2:(s.ae.length:Int)<1
 ·(try((repeat(revert hN;revert N;apply Pn.out));refine wk (tw @aa.eq_1 (tw @h1 @h2)) ?_;(repeat(refine Pn.mk ?_;intro N hN))))
  exact aI (b:=false) (.inl rfl) (sd @Nat.zero_add) (eV fun h=>by have:=h.some;omega)
 by_cases h3:(160:Int)<(s.ae.length:Int)
 ·(try((repeat(revert hN;revert N;apply Pn.out));refine wk (tw @aa.eq_1 (tw @h1 (tw @h2 @h3))) ?_;(repeat(refine Pn.mk ?_;intro N hN))))
  exact aI (b:=false) (.inl rfl) (sd @Nat.zero_add) (eV fun h=>by have:=h.J1;omega)
 (try((repeat(revert hN;revert N;apply Pn.out));refine wk (tw @aa.eq_1 (tw @h1 (tw @h2 @h3))) ?_;(repeat(refine Pn.mk ?_;intro N hN))))
 refine aJ (fun n env st=>∃k:Nat,n=(s.aw.length)-k/\k<=(s.aw.length)/\env 3=.int .i64 (k:Int)/\(∀j:Nat,j<k->zI s j)) (s.aw.length) ⟨0,ab,ab,sl @aa.eq_1,fun _ h=>absurd h (Nat.not_lt_zero _)⟩ ?_
 rintro n_a env_a st_a ⟨k,rfl,ale,a3,j9⟩ dE
 have a0:=dE 0 (by kernel_rfl)
 simp only[go_sem, ↓reduceIte,Nat.reduceEqDiff,Nat.reduceAdd,Nat.reduceSub,Nat.reduceLeDiff,reduceCtorEq,aa]at a0
 clear dE
 by_cases hk:(k:Int)<(s.aw.length:Int)
 ·have cl:∀{e:Env},(e 3=.int .i64 (IntKind.i64.wrap ((k:Int)+1)))->(zI s k)->∃m0,m0<(s.aw.length)-k/\∃k:Nat,m0=(s.aw.length)-k/\k<=(s.aw.length)/\e 3=.int .i64 (k:Int)/\(∀j:Nat,j<k->zI s j):=fun x1 x2=>⟨_,ab,k+1,rfl,ab,(by rw[x1,aA ab]),(all_succ j9 x2)⟩
  have eO:k<s.aw.length:=ab
  have eC:=wj eO
  have pY:=Cz (n9 s k).aB (NL k eO)
  have Hz:=gj (n9 s k).dF 1 4
  have Dt:=DN s (n9 s k).aB
  have nT:=KD eO
  have jD:(¬zI s k)->¬lj s:=fun h hp=>h (hp.PW k eO)
  have hw:IntKind.i64.wrap ((k:Int)+1)=(k:Int)+1:=aQ ab
  generalize r5:n9 s k=gl at *
  cases hb:iV gl.aB
  ·rw[hb]at pY
   (repeat(first|((repeat(revert hN;revert N;apply Pn.out));refine wk (tw @a3 (tw @a0 (tw @hk (tw @eC (tw @aV.eq_1 @aa.eq_1))))) ?_;(repeat(refine Pn.mk ?_;intro N hN)))|((try apply Or.inl);refine⟨_,ai.x (pY) (sd (tw @a3 (tw @a0 (tw @hk (tw @eC (tw @aV.eq_1 @aa.eq_1)))))),?_⟩;refine hN _ _ ?_;clear hN N)))
   exact aI (b:=false) (.inl rfl) (sd @Nat.zero_add) (eV (jD fun h=>by rw[zI,r5,hb]at h;cases h.1))
  rw[hb]at pY
  cases dS:fU gl.dF 1 4
  ·rw[dS]at Hz
   (repeat(first|((repeat(revert hN;revert N;apply Pn.out));refine wk (tw @a3 (tw @a0 (tw @hk (tw @eC (tw @aV.eq_1 @aa.eq_1))))) ?_;(repeat(refine Pn.mk ?_;intro N hN)))|((try apply Or.inl);refine⟨_,ai.x (pY) (sd (tw @a3 (tw @a0 (tw @hk (tw @eC (tw @aV.eq_1 @aa.eq_1)))))),?_⟩;refine hN _ _ ?_;clear hN N)|((try apply Or.inl);refine⟨_,ai.x (Hz) (sd (tw @a3 (tw @a0 (tw @hk (tw @eC (tw @aV.eq_1 @aa.eq_1)))))),?_⟩;refine hN _ _ ?_;clear hN N)))
   exact aI (b:=false) (.inl rfl) (sd @Nat.zero_add) (eV (jD fun h=>by rw[zI,r5,dS]at h;cases h.2.1))
  rw[dS]at Hz
  rw[aa]at Dt
  by_cases hq:Hk s gl.aB=(k:Int)
  ·have hd:decide (Hk s gl.aB+1=(k:Int)+1)=true:=decide_eq_true ab
   have oF:decide (Hk s gl.aB=(k:Int))=true:=decide_eq_true hq
   (repeat(first|((repeat(revert hN;revert N;apply Pn.out));refine wk (tw @a3 (tw @a0 (tw @hk (tw @eC (tw @hw (tw @hd (tw @oF (tw @aV.eq_1 @aa.eq_1)))))))) ?_;(repeat(refine Pn.mk ?_;intro N hN)))|((try apply Or.inl);refine⟨_,ai.x (pY) (sd (tw @a3 (tw @a0 (tw @hk (tw @eC (tw @hw (tw @hd (tw @oF (tw @aV.eq_1 @aa.eq_1))))))))),?_⟩;refine hN _ _ ?_;clear hN N)|((try apply Or.inl);refine⟨_,ai.x (Hz) (sd (tw @a3 (tw @a0 (tw @hk (tw @eC (tw @hw (tw @hd (tw @oF (tw @aV.eq_1 @aa.eq_1))))))))),?_⟩;refine hN _ _ ?_;clear hN N)|((try apply Or.inl);refine⟨_,ai.x (Dt) (sd (tw @a3 (tw @a0 (tw @hk (tw @eC (tw @hw (tw @hd (tw @oF (tw @aV.eq_1 @aa.eq_1))))))))),?_⟩;refine hN _ _ ?_;clear hN N)))
   exact cl (sd (tw @a3 (tw @a0 @hw))) (⟨by rw[r5];exact hb,by rw[r5];exact dS,fun j hj=>by rw[r5];exact nT.1 hq j hj⟩)
  ·have hd:decide (Hk s gl.aB+1=(k:Int)+1)=false:=decide_eq_false ab
   have oF:decide (Hk s gl.aB=(k:Int))=false:=decide_eq_false hq
   (repeat(first|((repeat(revert hN;revert N;apply Pn.out));refine wk (tw @a3 (tw @a0 (tw @hk (tw @eC (tw @hw (tw @hd (tw @oF (tw @aV.eq_1 @aa.eq_1)))))))) ?_;(repeat(refine Pn.mk ?_;intro N hN)))|((try apply Or.inl);refine⟨_,ai.x (pY) (sd (tw @a3 (tw @a0 (tw @hk (tw @eC (tw @hw (tw @hd (tw @oF (tw @aV.eq_1 @aa.eq_1))))))))),?_⟩;refine hN _ _ ?_;clear hN N)|((try apply Or.inl);refine⟨_,ai.x (Hz) (sd (tw @a3 (tw @a0 (tw @hk (tw @eC (tw @hw (tw @hd (tw @oF (tw @aV.eq_1 @aa.eq_1))))))))),?_⟩;refine hN _ _ ?_;clear hN N)|((try apply Or.inl);refine⟨_,ai.x (Dt) (sd (tw @a3 (tw @a0 (tw @hk (tw @eC (tw @hw (tw @hd (tw @oF (tw @aV.eq_1 @aa.eq_1))))))))),?_⟩;refine hN _ _ ?_;clear hN N)))
   exact aI (b:=false) (.inl rfl) (sd @Nat.zero_add) (eV (jD fun h=>by
    rw[zI,r5]at h
    exact hq (nT.2 h.2.2)))
 ·have kK:k=s.aw.length:=ab
  (try((repeat(revert hN;revert N;apply Pn.out));refine wk (tw @a3 (tw @a0 (tw @hk @aa.eq_1))) ?_;(repeat(refine Pn.mk ?_;intro N hN))))
  refine aJ (fun n env st=>∃j:Nat,n=(s.ae.length)-j/\j<=(s.ae.length)/\env 5=.int .i64 (j:Int)/\(∀i:Nat,i<j->xF s i)) (s.ae.length) ⟨0,ab,ab,sl (tw @a3 (tw @a0 @aa.eq_1)),fun _ h=>absurd h (Nat.not_lt_zero _)⟩ ?_
  rintro n_b env_b st_b ⟨j,rfl,ble,b5,bA0⟩ bfr
  have b0:=bfr 0 (by kernel_rfl)
  simp only[go_sem, ↓reduceIte,Nat.reduceEqDiff,Nat.reduceAdd,Nat.reduceSub,Nat.reduceLeDiff,reduceCtorEq,a3,a0,aa]at b0
  clear bfr
  by_cases hj:(j:Int)<(s.ae.length:Int)
  ·have iW:∀{e:Env},(e 5=.int .i64 (IntKind.i64.wrap ((j:Int)+1)))->(xF s j)->∃m0,m0<(s.ae.length)-j/\∃j:Nat,m0=(s.ae.length)-j/\j<=(s.ae.length)/\e 5=.int .i64 (j:Int)/\(∀i:Nat,i<j->xF s i):=fun x1 x2=>⟨_,ab,j+1,rfl,ab,(by rw[x1,aA ab]),(all_succ bA0 x2)⟩
   have im:j<s.ae.length:=ab
   have oH:=w9 im
   have pY:=Cz (nq s j).aB (QU j im)
   have Dt:=DO s (nq s j).aB
   have nT:=LO im
   have jD:(¬xF s j)->¬lj s:=fun h hp=>h (hp.tok j im)
   generalize htd:nq s j=tl at *
   cases hb:iV tl.aB
   ·rw[hb]at pY
    (repeat(first|((repeat(revert hN;revert N;apply Pn.out));refine wk (tw @b5 (tw @b0 (tw @hj (tw @oH (tw @aU.eq_1 @aa.eq_1))))) ?_;(repeat(refine Pn.mk ?_;intro N hN)))|((try apply Or.inl);refine⟨_,ai.x (pY) (sd (tw @b5 (tw @b0 (tw @hj (tw @oH (tw @aU.eq_1 @aa.eq_1)))))),?_⟩;refine hN _ _ ?_;clear hN N)))
    exact aI (b:=false) (.inl rfl) (sd @Nat.zero_add) (eV (jD fun h=>by rw[xF,htd,hb]at h;cases h.1))
   rw[hb]at pY
   by_cases h4:(tl.aY.length:Int)=4
   ·have wo:decide ((tl.aY.length:Int)=4)=true:=decide_eq_true h4
    rw[aa]at Dt
    by_cases hq:JY s tl.aB=(j:Int)
    ·have hd:decide (JY s tl.aB=(j:Int))=true:=decide_eq_true hq
     (repeat(first|((repeat(revert hN;revert N;apply Pn.out));refine wk (tw @b5 (tw @b0 (tw @hj (tw @oH (tw @wo (tw @hd (tw @aU.eq_1 @aa.eq_1))))))) ?_;(repeat(refine Pn.mk ?_;intro N hN)))|((try apply Or.inl);refine⟨_,ai.x (pY) (sd (tw @b5 (tw @b0 (tw @hj (tw @oH (tw @wo (tw @hd (tw @aU.eq_1 @aa.eq_1)))))))),?_⟩;refine hN _ _ ?_;clear hN N)|((try apply Or.inl);refine⟨_,ai.x (Dt) (sd (tw @b5 (tw @b0 (tw @hj (tw @oH (tw @wo (tw @hd (tw @aU.eq_1 @aa.eq_1)))))))),?_⟩;refine hN _ _ ?_;clear hN N)))
     refine aJ (fun n env st=>∃i:Nat,n=(4)-i/\i<=(4)/\env 7=.int .i64 (i:Int)/\st.get ⟨92012007,st_b.next+1⟩=some ⟨true,2,[aU tl]⟩/\(∀x:Nat,x<i->fU (tl.aY.getD x 0) 0 s.aw.length=true)) (4) ⟨0,ab,ab,sl (tw @b5 (tw @b0 (tw @aU.eq_1 @aa.eq_1))),sl (tw @b5 (tw @b0 (tw @aU.eq_1 @aa.eq_1))),fun _ h=>absurd h (Nat.not_lt_zero _)⟩ ?_
     rintro n_c env_c st_c ⟨i,rfl,cle,c7,cg0,cA0⟩ cfr
     have c0:=cfr 0 (by kernel_rfl);have c5:=cfr 5 (by kernel_rfl);have c6:=cfr 6 (by kernel_rfl)
     simp only[go_sem, ↓reduceIte,Nat.reduceEqDiff,Nat.reduceAdd,Nat.reduceSub,Nat.reduceLeDiff,reduceCtorEq,b5,b0,aU,aa]at c0 c5 c6
     clear cfr
     by_cases hi:(i:Int)<4
     ·have gm:∀{e:Env} {gg:Rows},(e 7=.int .i64 (IntKind.i64.wrap ((i:Int)+1)))->(gg ⟨92012007,st_b.next+1⟩=some ⟨true,2,[aU tl]⟩)->(fU (tl.aY.getD i 0) 0 s.aw.length=true)->∃m0,m0<(4)-i/\∃i:Nat,m0=(4)-i/\i<=(4)/\e 7=.int .i64 (i:Int)/\gg ⟨92012007,st_b.next+1⟩=some ⟨true,2,[aU tl]⟩/\(∀x:Nat,x<i->fU (tl.aY.getD x 0) 0 s.aw.length=true):=fun x1 x2 x3=>⟨_,ab,i+1,rfl,ab,(by rw[x1,aA ab]),x2,(all_succ cA0 x3)⟩
      have fb:i<tl.aY.length:=ab
      have nA:(tl.aY.map au)[i]? =some (au (tl.aY.getD i 0)):=getD_map au fb
      have ui:tl.aY.getD i 0∈tl.aY:=by rw[List.getD_eq_getElem?_getD,List.getElem?_eq_getElem fb];exact List.getElem_mem fb
      have FQ:=gj (tl.aY.getD i 0) 0 s.aw.length
      generalize KW:tl.aY.getD i 0=gv at *
      cases hv:fU gv 0 s.aw.length
      ·rw[hv]at FQ
       (repeat(first|((repeat(revert hN;revert N;apply Pn.out));refine wk (tw @c7 (tw @cg0 (tw @c0 (tw @c5 (tw @c6 (tw @hi (tw @nA (tw @au.eq_1 (tw @aU.eq_1 @aa.eq_1))))))))) ?_;(repeat(refine Pn.mk ?_;intro N hN)))|((try apply Or.inl);refine⟨_,ai.x (FQ) (sd (tw @c7 (tw @cg0 (tw @c0 (tw @c5 (tw @c6 (tw @hi (tw @nA (tw @au.eq_1 (tw @aU.eq_1 @aa.eq_1)))))))))),?_⟩;refine hN _ _ ?_;clear hN N)))
       exact aI (b:=false) (.inl rfl) (sd @Nat.zero_add) (eV (jD fun h=>by
        rw[xF,htd]at h
        have:=h.2.2.2 gv ui
        rw[hv]at this;cases this))
      ·rw[hv]at FQ
       (repeat(first|((repeat(revert hN;revert N;apply Pn.out));refine wk (tw @c7 (tw @cg0 (tw @c0 (tw @c5 (tw @c6 (tw @hi (tw @nA (tw @au.eq_1 (tw @aU.eq_1 @aa.eq_1))))))))) ?_;(repeat(refine Pn.mk ?_;intro N hN)))|((try apply Or.inl);refine⟨_,ai.x (FQ) (sd (tw @c7 (tw @cg0 (tw @c0 (tw @c5 (tw @c6 (tw @hi (tw @nA (tw @au.eq_1 (tw @aU.eq_1 @aa.eq_1)))))))))),?_⟩;refine hN _ _ ?_;clear hN N)))
       refine gm ?_ ?_ (hv)
       all_goals simp only[go_sem, ↓reduceIte,Nat.reduceEqDiff,Nat.reduceAdd,Nat.reduceSub,Nat.reduceLeDiff,reduceCtorEq,c7,cg0,c0,c5,c6]
     ·have hi4:i=4:=ab
      (try((repeat(revert hN;revert N;apply Pn.out));refine wk (tw @c7 (tw @cg0 (tw @c0 (tw @c5 (tw @c6 (tw @hi (tw @aU.eq_1 @aa.eq_1))))))) ?_;(repeat(refine Pn.mk ?_;intro N hN))))
      exact iW (sd (tw @b5 (tw @b0 (tw @c7 (tw @cg0 (tw @c0 (tw @c5 @c6))))))) (⟨by rw[htd];exact hb,by rw[htd];omega,fun x hx=>(by rw[htd];exact nT.1 hq x hx),fun g hg=>by
       rw[htd]at hg
       obtain⟨x,hx,rfl⟩:=List.getElem_of_mem hg
       have:=cA0 x ab
       rwa [List.getD_eq_getElem?_getD,List.getElem?_eq_getElem hx]at this⟩)
    ·have hd:decide (JY s tl.aB=(j:Int))=false:=decide_eq_false hq
     (repeat(first|((repeat(revert hN;revert N;apply Pn.out));refine wk (tw @b5 (tw @b0 (tw @hj (tw @oH (tw @wo (tw @hd (tw @aU.eq_1 @aa.eq_1))))))) ?_;(repeat(refine Pn.mk ?_;intro N hN)))|((try apply Or.inl);refine⟨_,ai.x (pY) (sd (tw @b5 (tw @b0 (tw @hj (tw @oH (tw @wo (tw @hd (tw @aU.eq_1 @aa.eq_1)))))))),?_⟩;refine hN _ _ ?_;clear hN N)|((try apply Or.inl);refine⟨_,ai.x (Dt) (sd (tw @b5 (tw @b0 (tw @hj (tw @oH (tw @wo (tw @hd (tw @aU.eq_1 @aa.eq_1)))))))),?_⟩;refine hN _ _ ?_;clear hN N)))
     exact aI (b:=false) (.inl rfl) (sd @Nat.zero_add) (eV (jD fun h=>by
      rw[xF,htd]at h
      exact hq (nT.2 h.2.2.1)))
   ·have wo:decide ((tl.aY.length:Int)=4)=false:=decide_eq_false h4
    (repeat(first|((repeat(revert hN;revert N;apply Pn.out));refine wk (tw @b5 (tw @b0 (tw @hj (tw @oH (tw @wo (tw @aU.eq_1 @aa.eq_1)))))) ?_;(repeat(refine Pn.mk ?_;intro N hN)))|((try apply Or.inl);refine⟨_,ai.x (pY) (sd (tw @b5 (tw @b0 (tw @hj (tw @oH (tw @wo (tw @aU.eq_1 @aa.eq_1))))))),?_⟩;refine hN _ _ ?_;clear hN N)))
    exact aI (b:=false) (.inl rfl) (sd @Nat.zero_add) (eV (jD fun h=>by rw[xF,htd]at h;have:=h.2.1;omega))
  ·(try((repeat(revert hN;revert N;apply Pn.out));refine wk (tw @b5 (tw @b0 (tw @hj @aa.eq_1))) ?_;(repeat(refine Pn.mk ?_;intro N hN))))
   exact aI (b:=true) (.inl rfl) (sd @Nat.zero_add) (zh ⟨ab,ab,ab,fun i hi=>j9 i ab,fun i hi=>bA0 i ab⟩)
end Go.Proofs.YtihgaadadaekmaaGreatDoor.V

namespace Go.Proofs.YtihgaadadaekmaaGreatDoor.V
def pw (a b:bx):Bool:=decide (a.fy<b.fy)||(decide (a.fy=b.fy)&&decide (a.fX<b.fX))
theorem Cv {a b:bx}:pw a b=true↔a.fy<b.fy∨(a.fy=b.fy/\a.fX<b.fX):=by simp[pw]
theorem DV {a b:bx}:pw a b=false↔¬(a.fy<b.fy∨(a.fy=b.fy/\a.fX<b.fX)):=by rw[<-Cv,Bool.not_eq_true]
theorem LB {a b:bx} (h1:a.fX=b.fX) (h2:a.fy=b.fy):a=b:=by cases a;cases b;simp_all
theorem kZ {a b c:bx} (h:pw a b=true) (k:pw b c=true):pw a c=true:=by rw[Cv]at *;omega
theorem Cw {a:bx}:pw a a=false:=by rw[DV];omega
def ub (a b:Int):Int:=if a<b then -1 else if b<a then 1 else 0
def Ou (a b:Int):Int:=if a=0 then b else a
def rG (a b:bx):Int:=Ou (ub a.fy b.fy) (ub a.fX b.fX)
theorem v5 (a b:bx):decide (rG a b<0)=pw a b:=by
 unfold rG Ou ub pw
 by_cases h1:a.fy<b.fy
 ·simp[h1]
 ·by_cases h2:b.fy<a.fy
  ·have:¬a.fy=b.fy:=ab
   simp[h1,h2,this]
  ·have:a.fy=b.fy:=ab
   by_cases h3:a.fX<b.fX
   ·simp[h1,h2,this,h3]
   ·by_cases h4:b.fX<a.fX<;>simp[h1,h2,this,h3,h4]
theorem C1 (a b:bx):(rG a b=0)↔a=b:=by
 cases a;cases b
 unfold rG Ou ub
 simp only[bx.mk.injEq]
 split<;>(try split)<;>(try split)<;>(try split)<;>omega
def Gu:ak:=⟨⟨0,0⟩,0⟩
def bp (l:List ak) (i:Nat):ak:=l.getD i Gu
theorem jF {l:List ak} {i:Nat} (h:i<l.length):bp l i=l[i]:=by simp[bp,List.getD_eq_getElem?_getD,h]
theorem nh {l:List ak} {i:Nat} (h:i<l.length):bp l i∈l:=by rw[jF h];exact List.getElem_mem h
def xD (l:List ak):Prop:=∀i j:Nat,i<j->j<l.length->pw (bp l i).cz (bp l j).cz=true
def DD (l:List ak) (p:bx):Nat:=l.findIdx fun c=>decide (c.cz=p)
def fx (l:List ak) (p:bx):Int:=if DD l p<l.length then(DD l p:Int)else -1
def kY (l:List ak) (p:bx):Nat:=l.findIdx fun c=> !pw c.cz p
theorem wL {l:List ak} {p:bx} {i:Nat} (hi:i<=l.length) (h1:∀x,x<i->pw (bp l x).cz p=true) (h2:i<l.length->pw (bp l i).cz p=false):kY l p=i:=by
 unfold kY
 by_cases h:i<l.length
 ·rw[List.findIdx_eq h]
  refine⟨by have:=h2 h;rw[jF h]at this;simp[this],fun j hj=>?_⟩
  have:=h1 j hj
  rw[jF ab]at this
  simp[this]
 ·have:i=l.length:=ab
  subst this
  refine List.findIdx_eq_length_of_false fun x hx=>?_
  obtain⟨j,hj,rfl⟩:=List.getElem_of_mem hx
  have:=h1 j hj
  rw[jF hj]at this
  simp[this]
theorem wM {l:List ak} {p:bx} (hR:xD l):fx l p=if kY l p<l.length/\(bp l (kY l p)).cz=p then(kY l p:Int)else -1:=by
 by_cases h:∃i,i<l.length/\(bp l i).cz=p
 ·obtain⟨i,hi,hp⟩:=h
  have h1:kY l p=i:=wL ab (fun x hx=>by rw[<-hp];exact hR x i hx hi) fun _=>by rw[hp];exact Cw
  have h2:DD l p=i:=by
   rw[DD,List.findIdx_eq hi]
   refine⟨by rw[jF hi]at hp;simpa using hp,fun j hj=>?_⟩
   have:=hR j i hj hi
   rw[hp,jF ab]at this
   simp only[decide_eq_false_iff_not]
   intro hc
   rw[hc,Cw]at this
   cases this
  rw[fx,h1,h2,if_pos hi,if_pos ⟨hi,hp⟩]
 ·have h2:¬DD l p<l.length:=by
   rw[DD,List.findIdx_lt_length]
   rintro⟨c,hc,he⟩
   obtain⟨j,hj,rfl⟩:=List.getElem_of_mem hc
   exact h ⟨j,hj,by rw[jF hj];simpa using he⟩
  rw[fx,if_neg h2,if_neg]
  rintro⟨h3,h4⟩
  exact h ⟨_,h3,h4⟩
theorem nB {l:List ak} {p:bx} (h:0<=fx l p):(fx l p).toNat<l.length/\(bp l (fx l p).toNat).cz=p:=by
 unfold fx at h ⊢
 split at h
 ·rename_i hc
  rw[if_pos hc]
  refine⟨ab,?_⟩
  have:=of_decide_eq_true (List.findIdx_getElem (p:=fun c:ak=>decide (c.cz=p)) (xs:=l) (w:=hc))
  rw[Int.toNat_natCast,jF hc]
  exact this
 ·omega
def tX (l:List ak) (p:bx):Int:=if 0<=fx l p then(bp l (fx l p).toNat).bw else -1
end Go.Proofs.YtihgaadadaekmaaGreatDoor.V

namespace Go.Proofs.YtihgaadadaekmaaGreatDoor.V
open Go.RowKit
attribute [local irreducible] dO wpOps gO Call
attribute [local go_sem] aH fF eF fR fQ cu upd cm K.av cJ AV.cells AV.cell rowOf rowsOf part ld rowAt bI bU dG ei il bJ da eB fW eZ dq ep cY cX dU dV bP bd cQ bL cT cR ek er eo cP bS cZ ej bK aL cV cw ik br cI bQ aZ dz bl dI AV.undef bB bH dY eh dR ea cE eA eE cr ev eu cU cW List.getD_cons_zero List.getD_cons_succ List.getD_nil List.all_cons List.all_nil Bool.and_true Bool.true_and Bool.and_self Bool.not_true Bool.not_false Option.map_some Option.map_none Option.bind_some Option.bind_none List.length_cons List.length_nil List.take_succ_cons List.take_zero List.take_nil List.drop_succ_cons List.drop_zero List.drop_nil List.head?_cons List.map_cons List.map_nil List.getElem?_cons_zero List.getElem?_cons_succ List.cons_append List.nil_append List.append_nil List.length_map List.set_cons_zero List.set_cons_succ Nat.reduceMul eq_self Int.toNat_natCast Int.natCast_nonneg and_self true_and and_true decide_true decide_false Bool.false_eq_true Nat.zero_add Nat.add_zero List.contains_cons List.contains_nil Bool.or_false Bool.false_or beq_self_eq_true Nat.reduceBEq ne_eq not_true_eq_false not_false_eq_true Id.mk.injEq false_and and_false Nat.reduceLT Int.reduceLE Int.reduceLT Int.reduceToNat Int.reduceNeg Int.reduceAdd Nat.le_refl List.length_append beq_true beq_false Bool.not_eq_eq_eq_not or_false false_or dC ad aj aE bz cj aT bj aX bf cK bG
theorem qJ (a b:bx):ai Tryz.prog 97 [.agg (ao a),.agg (ao b)] (.bool (pw a b)):=by
 refine ai.body dP rfl fun hl n0=>?_
 clear hl
 by_cases h0:a.fy<b.fy
 ·(try((repeat(revert hN;revert N;apply Pn.out));refine wk (tw @ao.eq_1 @h0) ?_;(repeat(refine Pn.mk ?_;intro N hN))))
  exact aI (b:=true) (.inl rfl) (sd @Nat.zero_add) (by simp[pw,h0])
 ·by_cases h1:a.fy=b.fy
  ·have h2:¬b.fy<b.fy:=ab
   (try((repeat(revert hN;revert N;apply Pn.out));refine wk (tw @ao.eq_1 (tw @h1 @h2)) ?_;(repeat(refine Pn.mk ?_;intro N hN))))
   exact aI (b:=decide (a.fX<b.fX)) (.inl rfl) (sd @Nat.zero_add) (by simp[pw,h1])
  ·(try((repeat(revert hN;revert N;apply Pn.out));refine wk (tw @ao.eq_1 (tw @h0 @h1)) ?_;(repeat(refine Pn.mk ?_;intro N hN))))
   exact aI (b:=false) (.inl rfl) (sd @Nat.zero_add) (by simp[pw,h0,h1])
theorem ga {l:List ak} {i:Nat} (h:i<l.length):(l.map ah)[i]? =some (ah (bp l i)):=getD_map ah h
def CR (l:List ak) (i:Nat):Prop:=Bg (bp l i).cz=true/\fU (bp l i).bw 0 159=true/\(0<i->pw (bp l (i-1)).cz (bp l i).cz=true)
structure jI (l:List ak):Prop where
 EF:l.length<=500
 ok:∀i,i<l.length->CR l i
noncomputable def mU (l:List ak):Bool:=@decide (jI l) (Classical.propDecidable _)
theorem Dk {l:List ak}:mU l=true↔jI l:=by simp[mU]
theorem jn {l:List ak} (h:¬jI l):false=mU l:=by simp[mU,h]
theorem uT {l:List ak} (h:jI l):true=mU l:=by simp[mU,h]
theorem jI.Pv {l:List ak} (h:jI l):xD l:=by
 intro i j Pc hj
 induction j with
 |zero=>omega
 |succ j ih=>
  have h1:=(h.ok (j+1) hj).2.2 ab
  rw[Nat.add_sub_cancel]at h1
  by_cases he:i=j
  ·subst he;exact h1
  ·exact kZ (ih ab ab) h1
theorem jI.pt {l:List ak} (h:jI l) {i:Nat} (hi:i<l.length):Bg (bp l i).cz=true:=(h.ok i hi).1
theorem GF {p:bx} (h:Bg p=true):iB p.fX/\iB p.fy:=by
 unfold Bg at h
 simp only[Bool.and_eq_true]at h
 have:=dr h.1;have:=dr h.2
 unfold iB;omega
theorem DP (l:List ak):ai Tryz.prog 95 [.cH [.sl (l.map ah)]] (.bool (mU l)):=by
 refine ai.body dP rfl fun hl n0=>?_
 clear hl
 by_cases h1:(500:Int)<(l.length:Int)
 ·(try((repeat(revert hN;revert N;apply Pn.out));refine wk @h1 ?_;(repeat(refine Pn.mk ?_;intro N hN))))
  exact aI (b:=false) (.inl rfl) (sd @Nat.zero_add) (jn fun h=>by have:=h.EF;omega)
 (try((repeat(revert hN;revert N;apply Pn.out));refine wk @h1 ?_;(repeat(refine Pn.mk ?_;intro N hN))))
 refine aJ (fun n env st=>∃k:Nat,n=(l.length)-k/\k<=(l.length)/\env 3=.int .i64 (k:Int)/\(∀j:Nat,j<k->CR l j)) (l.length) ⟨0,ab,ab,sl @Nat.zero_add,fun _ h=>absurd h (Nat.not_lt_zero _)⟩ ?_
 rintro n_a env_a st_a ⟨k,rfl,ale,a3,j9⟩ dE
 have a0:=dE 0 (by kernel_rfl)
 simp only[go_sem, ↓reduceIte,Nat.reduceEqDiff,Nat.reduceAdd,Nat.reduceSub,Nat.reduceLeDiff,reduceCtorEq]at a0
 clear dE
 by_cases hk:(k:Int)<(l.length:Int)
 ·have cl:∀{e:Env},(e 3=.int .i64 (IntKind.i64.wrap ((k:Int)+1)))->(CR l k)->∃m0,m0<(l.length)-k/\∃k:Nat,m0=(l.length)-k/\k<=(l.length)/\e 3=.int .i64 (k:Int)/\(∀j:Nat,j<k->CR l j):=fun x1 x2=>⟨_,ab,k+1,rfl,ab,(by rw[x1,aA ab]),(all_succ j9 x2)⟩
  have eO:k<l.length:=ab
  have eC:=ga eO
  have jD:(¬CR l k)->¬jI l:=fun h hp=>h (hp.ok k eO)
  have hp:=AS (bp l k).cz
  have ht:=gj (bp l k).bw 0 159
  cases b1:Bg (bp l k).cz
  ·rw[b1]at hp
   (repeat(first|((repeat(revert hN;revert N;apply Pn.out));refine wk (tw @a3 (tw @a0 (tw @hk (tw @eC (tw @ah.eq_1 @ao.eq_1))))) ?_;(repeat(refine Pn.mk ?_;intro N hN)))|((try apply Or.inl);refine⟨_,ai.x (hp) (sd (tw @a3 (tw @a0 (tw @hk (tw @eC (tw @ah.eq_1 @ao.eq_1)))))),?_⟩;refine hN _ _ ?_;clear hN N)))
   exact aI (b:=false) (.inl rfl) (sd @Nat.zero_add) (jn (jD fun h=>by rw[CR,b1]at h;cases h.1))
  rw[b1]at hp
  cases b2:fU (bp l k).bw 0 159
  ·rw[b2]at ht
   (repeat(first|((repeat(revert hN;revert N;apply Pn.out));refine wk (tw @a3 (tw @a0 (tw @hk (tw @eC (tw @ah.eq_1 @ao.eq_1))))) ?_;(repeat(refine Pn.mk ?_;intro N hN)))|((try apply Or.inl);refine⟨_,ai.x (hp) (sd (tw @a3 (tw @a0 (tw @hk (tw @eC (tw @ah.eq_1 @ao.eq_1)))))),?_⟩;refine hN _ _ ?_;clear hN N)|((try apply Or.inl);refine⟨_,ai.x (ht) (sd (tw @a3 (tw @a0 (tw @hk (tw @eC (tw @ah.eq_1 @ao.eq_1)))))),?_⟩;refine hN _ _ ?_;clear hN N)))
   exact aI (b:=false) (.inl rfl) (sd @Nat.zero_add) (jn (jD fun h=>by rw[CR,b2]at h;cases h.2.1))
  rw[b2]at ht
  by_cases h0:(0:Int)<(k:Int)
  ·have sP:=ga (l:=l) (i:=k-1) ab
   have hw:IntKind.i64.wrap ((k:Int)-1)=((k-1:Nat):Int):=by rw[aQ (by have:=eO;omega)];omega
   have hq:=qJ (bp l (k-1)).cz (bp l k).cz
   cases b3:pw (bp l (k-1)).cz (bp l k).cz
   ·rw[b3]at hq
    (repeat(first|((repeat(revert hN;revert N;apply Pn.out));refine wk (tw @a3 (tw @a0 (tw @hk (tw @eC (tw @sP (tw @h0 (tw @hw (tw @ah.eq_1 @ao.eq_1)))))))) ?_;(repeat(refine Pn.mk ?_;intro N hN)))|((try apply Or.inl);refine⟨_,ai.x (hp) (sd (tw @a3 (tw @a0 (tw @hk (tw @eC (tw @sP (tw @h0 (tw @hw (tw @ah.eq_1 @ao.eq_1))))))))),?_⟩;refine hN _ _ ?_;clear hN N)|((try apply Or.inl);refine⟨_,ai.x (ht) (sd (tw @a3 (tw @a0 (tw @hk (tw @eC (tw @sP (tw @h0 (tw @hw (tw @ah.eq_1 @ao.eq_1))))))))),?_⟩;refine hN _ _ ?_;clear hN N)|((try apply Or.inl);refine⟨_,ai.x (hq) (sd (tw @a3 (tw @a0 (tw @hk (tw @eC (tw @sP (tw @h0 (tw @hw (tw @ah.eq_1 @ao.eq_1))))))))),?_⟩;refine hN _ _ ?_;clear hN N)))
    exact aI (b:=false) (.inl rfl) (sd @Nat.zero_add) (jn (jD fun h=>by have:=h.2.2 ab;rw[b3]at this;cases this))
   ·rw[b3]at hq
    (repeat(first|((repeat(revert hN;revert N;apply Pn.out));refine wk (tw @a3 (tw @a0 (tw @hk (tw @eC (tw @sP (tw @h0 (tw @hw (tw @ah.eq_1 @ao.eq_1)))))))) ?_;(repeat(refine Pn.mk ?_;intro N hN)))|((try apply Or.inl);refine⟨_,ai.x (hp) (sd (tw @a3 (tw @a0 (tw @hk (tw @eC (tw @sP (tw @h0 (tw @hw (tw @ah.eq_1 @ao.eq_1))))))))),?_⟩;refine hN _ _ ?_;clear hN N)|((try apply Or.inl);refine⟨_,ai.x (ht) (sd (tw @a3 (tw @a0 (tw @hk (tw @eC (tw @sP (tw @h0 (tw @hw (tw @ah.eq_1 @ao.eq_1))))))))),?_⟩;refine hN _ _ ?_;clear hN N)|((try apply Or.inl);refine⟨_,ai.x (hq) (sd (tw @a3 (tw @a0 (tw @hk (tw @eC (tw @sP (tw @h0 (tw @hw (tw @ah.eq_1 @ao.eq_1))))))))),?_⟩;refine hN _ _ ?_;clear hN N)))
    exact cl (sd (tw @a3 @a0)) (⟨b1,b2,fun _=>b3⟩)
  ·have pj:k=0:=ab
   (repeat(first|((repeat(revert hN;revert N;apply Pn.out));refine wk (tw @a3 (tw @a0 (tw @hk (tw @eC (tw @h0 (tw @ah.eq_1 @ao.eq_1)))))) ?_;(repeat(refine Pn.mk ?_;intro N hN)))|((try apply Or.inl);refine⟨_,ai.x (hp) (sd (tw @a3 (tw @a0 (tw @hk (tw @eC (tw @h0 (tw @ah.eq_1 @ao.eq_1))))))),?_⟩;refine hN _ _ ?_;clear hN N)|((try apply Or.inl);refine⟨_,ai.x (ht) (sd (tw @a3 (tw @a0 (tw @hk (tw @eC (tw @h0 (tw @ah.eq_1 @ao.eq_1))))))),?_⟩;refine hN _ _ ?_;clear hN N)))
   exact cl (sd (tw @a3 @a0)) (⟨b1,b2,fun h=>ab⟩)
 ·(try((repeat(revert hN;revert N;apply Pn.out));refine wk (tw @a3 (tw @a0 @hk)) ?_;(repeat(refine Pn.mk ?_;intro N hN))))
  exact aI (b:=true) (.inl rfl) (sd @Nat.zero_add) (uT ⟨ab,fun i hi=>j9 i ab⟩)
theorem uO (a b:Int):ai Tryz.prog 141 [.int .i64 a,.int .i64 b] (.int .i64 (ub a b)):=by
 have nan:∀x:Int,ai Tryz.prog 157 [.int .i64 x] (.bool false):=fun x=>by
  refine ai.body dP rfl fun hl n0=>?_
  clear hl
  have e:decide (x=x)=true:=decide_eq_true rfl
  (try((repeat(revert hN;revert N;apply Pn.out));refine wk @e ?_;(repeat(refine Pn.mk ?_;intro N hN))))
  exact aI (b:=false) (.inl rfl) (sd @Nat.zero_add) rfl
 refine ai.body dP rfl fun hl n0=>?_
 clear hl
 have ha:=nan a
 have hb:=nan b
 by_cases h1:a<b
 ·(repeat(first|((repeat(revert hN;revert N;apply Pn.out));refine wk @h1 ?_;(repeat(refine Pn.mk ?_;intro N hN)))|((try apply Or.inl);refine⟨_,ai.x (ha) (sd @h1),?_⟩;refine hN _ _ ?_;clear hN N)|((try apply Or.inl);refine⟨_,ai.x (hb) (sd @h1),?_⟩;refine hN _ _ ?_;clear hN N)))
  exact bq (b:=-1) (.inl rfl) (sd @Nat.zero_add) (by rw[ub,if_pos h1])
 by_cases h2:b<a
 ·(repeat(first|((repeat(revert hN;revert N;apply Pn.out));refine wk (tw @h1 @h2) ?_;(repeat(refine Pn.mk ?_;intro N hN)))|((try apply Or.inl);refine⟨_,ai.x (ha) (sd (tw @h1 @h2)),?_⟩;refine hN _ _ ?_;clear hN N)|((try apply Or.inl);refine⟨_,ai.x (hb) (sd (tw @h1 @h2)),?_⟩;refine hN _ _ ?_;clear hN N)))
  exact bq (b:=1) (.inl rfl) (sd @Nat.zero_add) (by rw[ub,if_neg h1,if_pos h2])
 ·(repeat(first|((repeat(revert hN;revert N;apply Pn.out));refine wk (tw @h1 @h2) ?_;(repeat(refine Pn.mk ?_;intro N hN)))|((try apply Or.inl);refine⟨_,ai.x (ha) (sd (tw @h1 @h2)),?_⟩;refine hN _ _ ?_;clear hN N)|((try apply Or.inl);refine⟨_,ai.x (hb) (sd (tw @h1 @h2)),?_⟩;refine hN _ _ ?_;clear hN N)))
  exact bq (b:=0) (.inl rfl) (sd @Nat.zero_add) (by rw[ub,if_neg h1,if_neg h2])
def ER:List Int->Int
 |[]=>0
 |a::r=>if a=0 then ER r else a
theorem GA:∀{l:List Int} {k:Nat} (hk:k<l.length),l[k]≠0->(∀j (h:j<l.length),j<k->l[j]=0)->ER l=l[k]
 |a::r,0,_,h,_=>by
  have h':a≠0:=h
  rw[ER,if_neg h'];rfl
 |a::r,k+1,hk,h,h0=>by
  have h':a=0:=h0 0 (by simp) ab
  rw[ER,if_pos h',GA (k:=k) (by simpa using hk) h fun j hj uX=>h0 (j+1) (by simpa using hj) ab];rfl
theorem zb:∀{l:List Int},(∀j (h:j<l.length),l[j]=0)->ER l=0
 |[],_=>rfl
 |a::r,h=>by
  have h':a=0:=h 0 (by simp)
  rw[ER,if_pos h',zb fun j hj=>h (j+1) (by simpa using hj)]
theorem IV (a b:Int):ER [a,b]=Ou a b:=by
 unfold Ou
 by_cases h:a=0
 ·rw[ER,if_pos h,if_pos h,ER,ER];split<;>simp_all
 ·rw[ER,if_neg h,if_neg h]
theorem HO (l:List Int):ai Tryz.prog 140 [.sl (l.map au)] (.int .i64 (ER l)):=by
 refine ai.body dP rfl fun hl n0=>?_
 have hlen:l.length<=9223372036854775807:=by simpa using(hl (.sl (l.map au)) (by simp)).len
 clear hl
 (try((repeat(revert hN;revert N;apply Pn.out));refine wk @Nat.zero_add ?_;(repeat(refine Pn.mk ?_;intro N hN))))
 refine aJ (fun n env st=>∃k:Nat,n=(l.length)-k/\k<=(l.length)/\env 8=.int .i64 (k:Int)/\(∀j:Nat,j<k->∀h:j<l.length,l[j]=0)) (l.length) ⟨0,ab,ab,sl @Nat.zero_add,fun _ h=>absurd h (Nat.not_lt_zero _)⟩ ?_
 rintro n_a env_a st_a ⟨k,rfl,ale,a8,j9⟩ dE
 have a3:=dE 3 (by kernel_rfl);have a6:=dE 6 (by kernel_rfl);have a7:=dE 7 (by kernel_rfl)
 simp only[go_sem, ↓reduceIte,Nat.reduceEqDiff,Nat.reduceAdd,Nat.reduceSub,Nat.reduceLeDiff,reduceCtorEq]at a3 a6 a7
 clear dE
 by_cases hk:(k:Int)<(l.length:Int)
 ·have cl:∀{e:Env},(e 8=.int .i64 (IntKind.i64.wrap ((k:Int)+1)))->(∀h:k<l.length,l[k]=0)->∃m0,m0<(l.length)-k/\∃k:Nat,m0=(l.length)-k/\k<=(l.length)/\e 8=.int .i64 (k:Int)/\(∀j:Nat,j<k->∀h:j<l.length,l[j]=0):=fun x1 x2=>⟨_,ab,k+1,rfl,ab,(by rw[x1,aA ab]),(all_succ j9 x2)⟩
  have eO:k<l.length:=ab
  have eC:(l.map au)[k]? =some (au l[k]):=by simp[eO]
  generalize hv:l[k]=v at eC
  by_cases h0:v=0
  ·have e:decide (v=0)=true:=decide_eq_true h0
   (try((repeat(revert hN;revert N;apply Pn.out));refine wk (tw @a8 (tw @a3 (tw @a6 (tw @a7 (tw @e (tw @hk (tw @eC @au.eq_1))))))) ?_;(repeat(refine Pn.mk ?_;intro N hN))))
   exact cl (sd (tw @a8 (tw @a3 (tw @a6 @a7)))) (fun _=>hv.trans h0)
  ·have e:decide (v=0)=false:=decide_eq_false h0
   (try((repeat(revert hN;revert N;apply Pn.out));refine wk (tw @a8 (tw @a3 (tw @a6 (tw @a7 (tw @e (tw @hk (tw @eC @au.eq_1))))))) ?_;(repeat(refine Pn.mk ?_;intro N hN))))
   exact bq (b:=v) (.inl rfl) (sd @Nat.zero_add) (by rw[GA eO (by rw[hv];exact h0) fun j h hj=>j9 j hj h,hv])
 ·(try((repeat(revert hN;revert N;apply Pn.out));refine wk (tw @a8 (tw @a3 (tw @a6 (tw @a7 @hk)))) ?_;(repeat(refine Pn.mk ?_;intro N hN))))
  exact bq (b:=0) (.inl rfl) (sd @Nat.zero_add) (by rw[zb fun j h=>j9 j ab h])
section
attribute [local go_sem] List.drop_zero List.take_succ_cons List.take_zero List.length_cons List.length_nil gi wg mV
theorem lX (a b:bx):ai Tryz.prog 139 [.agg (ao a),.agg (ao b)] (.int .i64 (rG a b)):=by
 refine ai.body dP rfl fun hl n0=>?_
 clear hl
 have h1:=uO a.fy b.fy
 have h2:=uO a.fX b.fX
 have h3:=HO [ub a.fy b.fy,ub a.fX b.fX]
 rw[IV,List.map_cons,List.map_cons,List.map_nil,au,au]at h3
 (repeat(first|((repeat(revert hN;revert N;apply Pn.out));refine wk @ao.eq_1 ?_;(repeat(refine Pn.mk ?_;intro N hN)))|((try apply Or.inl);refine⟨_,ai.x (h1) (sd @ao.eq_1),?_⟩;refine hN _ _ ?_;clear hN N)|((try apply Or.inl);refine⟨_,ai.x (h2) (sd @ao.eq_1),?_⟩;refine hN _ _ ?_;clear hN N)|((try apply Or.inl);refine⟨_,ai.x (h3) (sd @ao.eq_1),?_⟩;refine hN _ _ ?_;clear hN N)))
 exact bq (b:=rG a b) (.inl rfl) (by simp only[go_sem, ↓reduceIte,Nat.reduceEqDiff,Nat.reduceAdd,Nat.reduceSub,Nat.reduceLeDiff,reduceCtorEq,rG]) rfl
end
theorem Iu (a b:bx):ai Tryz.prog 137 [.agg (ao a),.agg (ao b)] (.bool (pw a b)):=by
 refine ai.body dP rfl fun hl n0=>?_
 clear hl
 have h1:=lX a b
 rw[ao,ao]at h1
 (repeat(first|((repeat(revert hN;revert N;apply Pn.out));refine wk @ao.eq_1 ?_;(repeat(refine Pn.mk ?_;intro N hN)))|((try apply Or.inl);refine⟨_,ai.x (h1) (sd @ao.eq_1),?_⟩;refine hN _ _ ?_;clear hN N)))
 exact aI (b:=decide (rG a b<0)) (.inl rfl) (sd @Nat.zero_add) (v5 a b)
theorem jv (t:ak) (p:bx):ai Tryz.prog 108 [.agg (ah t),.agg (ao p)] (.int .i64 (rG t.cz p)):=by
 refine ai.body dP rfl fun hl n0=>?_
 clear hl
 have h1:=lX t.cz p
 rw[ao,ao]at h1
 (repeat(first|((repeat(revert hN;revert N;apply Pn.out));refine wk (tw @ah.eq_1 @ao.eq_1) ?_;(repeat(refine Pn.mk ?_;intro N hN)))|((try apply Or.inl);refine⟨_,ai.x (h1) (sd (tw @ah.eq_1 @ao.eq_1)),?_⟩;refine hN _ _ ?_;clear hN N)))
 exact bq (b:=rG t.cz p) (.inl rfl) (sd @Nat.zero_add) rfl
theorem Dp (l:List ak):ai Tryz.prog 103 [.agg [.sl (l.map ah)]] (.bool (mU l)):=by
 refine ai.body dP rfl fun hl n0=>?_
 have hlen:l.length<=9223372036854775807:=by
  have h1:=(hl (.agg [.sl (l.map ah)]) (by simp)).HG (a:=.sl (l.map ah)) (by simp)
  simpa using h1.len
 clear hl
 (try((repeat(revert hN;revert N;apply Pn.out));refine wk @Nat.zero_add ?_;(repeat(refine Pn.mk ?_;intro N hN))))
 refine aJ (fun n env st=>∃k:Nat,n=(l.length)-k/\k<=(l.length)/\env 8=.int .i64 (k:Int)/\st.get ⟨103000000,n0⟩=some ⟨true,1,[[.sl (l.map ah)]]⟩/\(∀j:Nat,j<k->CR l j)) (l.length) ⟨0,ab,ab,sl @Nat.zero_add,sl @Nat.zero_add,fun _ h=>absurd h (Nat.not_lt_zero _)⟩ ?_
 rintro n_a env_a st_a ⟨k,rfl,ale,a8,ag0,j9⟩ dE
 have a1:=dE 1 (by kernel_rfl);have a6:=dE 6 (by kernel_rfl);have a7:=dE 7 (by kernel_rfl)
 simp only[go_sem, ↓reduceIte,Nat.reduceEqDiff,Nat.reduceAdd,Nat.reduceSub,Nat.reduceLeDiff,reduceCtorEq]at a1 a6 a7
 clear dE
 by_cases hk:(k:Int)<(l.length:Int)
 ·have cl:∀{e:Env} {gg:Rows},(e 8=.int .i64 (IntKind.i64.wrap ((k:Int)+1)))->(gg ⟨103000000,n0⟩=some ⟨true,1,[[.sl (l.map ah)]]⟩)->(CR l k)->∃m0,m0<(l.length)-k/\∃k:Nat,m0=(l.length)-k/\k<=(l.length)/\e 8=.int .i64 (k:Int)/\gg ⟨103000000,n0⟩=some ⟨true,1,[[.sl (l.map ah)]]⟩/\(∀j:Nat,j<k->CR l j):=fun x1 x2 x3=>⟨_,ab,k+1,rfl,ab,(by rw[x1,aA ab]),x2,(all_succ j9 x3)⟩
  have eO:k<l.length:=ab
  have eC:=ga eO
  have jD:(¬CR l k)->¬jI l:=fun h hp=>h (hp.ok k eO)
  have hp:=vP (bp l k).cz
  have ht:=vg (bp l k).bw 160 ab ab
  rw[show(160:Int)-1=159 from rfl]at ht
  cases b1:Bg (bp l k).cz
  ·rw[b1]at hp
   (repeat(first|((repeat(revert hN;revert N;apply Pn.out));refine wk (tw @a8 (tw @ag0 (tw @a1 (tw @a6 (tw @a7 (tw @hk (tw @eC (tw @ah.eq_1 @ao.eq_1)))))))) ?_;(repeat(refine Pn.mk ?_;intro N hN)))|((try apply Or.inl);refine⟨_,ai.x (hp) (sd (tw @a8 (tw @ag0 (tw @a1 (tw @a6 (tw @a7 (tw @hk (tw @eC (tw @ah.eq_1 @ao.eq_1))))))))),?_⟩;refine hN _ _ ?_;clear hN N)))
   exact aI (b:=false) (.inl rfl) (sd @Nat.zero_add) (jn (jD fun h=>by rw[CR,b1]at h;cases h.1))
  rw[b1]at hp
  cases b2:fU (bp l k).bw 0 159
  ·rw[b2]at ht
   (repeat(first|((repeat(revert hN;revert N;apply Pn.out));refine wk (tw @a8 (tw @ag0 (tw @a1 (tw @a6 (tw @a7 (tw @hk (tw @eC (tw @ah.eq_1 @ao.eq_1)))))))) ?_;(repeat(refine Pn.mk ?_;intro N hN)))|((try apply Or.inl);refine⟨_,ai.x (hp) (sd (tw @a8 (tw @ag0 (tw @a1 (tw @a6 (tw @a7 (tw @hk (tw @eC (tw @ah.eq_1 @ao.eq_1))))))))),?_⟩;refine hN _ _ ?_;clear hN N)|((try apply Or.inl);refine⟨_,ai.x (ht) (sd (tw @a8 (tw @ag0 (tw @a1 (tw @a6 (tw @a7 (tw @hk (tw @eC (tw @ah.eq_1 @ao.eq_1))))))))),?_⟩;refine hN _ _ ?_;clear hN N)))
   exact aI (b:=false) (.inl rfl) (sd @Nat.zero_add) (jn (jD fun h=>by rw[CR,b2]at h;cases h.2.1))
  rw[b2]at ht
  by_cases h0:(0:Int)<(k:Int)
  ·have sP:=ga (l:=l) (i:=k-1) ab
   have hw:IntKind.i64.wrap ((k:Int)-1)=((k-1:Nat):Int):=by rw[aQ ab];omega
   have hq:=Iu (bp l (k-1)).cz (bp l k).cz
   cases b3:pw (bp l (k-1)).cz (bp l k).cz
   ·rw[b3]at hq
    (repeat(first|((repeat(revert hN;revert N;apply Pn.out));refine wk (tw @a8 (tw @ag0 (tw @a1 (tw @a6 (tw @a7 (tw @hk (tw @eC (tw @sP (tw @h0 (tw @hw (tw @ah.eq_1 @ao.eq_1))))))))))) ?_;(repeat(refine Pn.mk ?_;intro N hN)))|((try apply Or.inl);refine⟨_,ai.x (hp) (sd (tw @a8 (tw @ag0 (tw @a1 (tw @a6 (tw @a7 (tw @hk (tw @eC (tw @sP (tw @h0 (tw @hw (tw @ah.eq_1 @ao.eq_1)))))))))))),?_⟩;refine hN _ _ ?_;clear hN N)|((try apply Or.inl);refine⟨_,ai.x (ht) (sd (tw @a8 (tw @ag0 (tw @a1 (tw @a6 (tw @a7 (tw @hk (tw @eC (tw @sP (tw @h0 (tw @hw (tw @ah.eq_1 @ao.eq_1)))))))))))),?_⟩;refine hN _ _ ?_;clear hN N)|((try apply Or.inl);refine⟨_,ai.x (hq) (sd (tw @a8 (tw @ag0 (tw @a1 (tw @a6 (tw @a7 (tw @hk (tw @eC (tw @sP (tw @h0 (tw @hw (tw @ah.eq_1 @ao.eq_1)))))))))))),?_⟩;refine hN _ _ ?_;clear hN N)))
    exact aI (b:=false) (.inl rfl) (sd @Nat.zero_add) (jn (jD fun h=>by have:=h.2.2 ab;rw[b3]at this;cases this))
   ·rw[b3]at hq
    (repeat(first|((repeat(revert hN;revert N;apply Pn.out));refine wk (tw @a8 (tw @ag0 (tw @a1 (tw @a6 (tw @a7 (tw @hk (tw @eC (tw @sP (tw @h0 (tw @hw (tw @ah.eq_1 @ao.eq_1))))))))))) ?_;(repeat(refine Pn.mk ?_;intro N hN)))|((try apply Or.inl);refine⟨_,ai.x (hp) (sd (tw @a8 (tw @ag0 (tw @a1 (tw @a6 (tw @a7 (tw @hk (tw @eC (tw @sP (tw @h0 (tw @hw (tw @ah.eq_1 @ao.eq_1)))))))))))),?_⟩;refine hN _ _ ?_;clear hN N)|((try apply Or.inl);refine⟨_,ai.x (ht) (sd (tw @a8 (tw @ag0 (tw @a1 (tw @a6 (tw @a7 (tw @hk (tw @eC (tw @sP (tw @h0 (tw @hw (tw @ah.eq_1 @ao.eq_1)))))))))))),?_⟩;refine hN _ _ ?_;clear hN N)|((try apply Or.inl);refine⟨_,ai.x (hq) (sd (tw @a8 (tw @ag0 (tw @a1 (tw @a6 (tw @a7 (tw @hk (tw @eC (tw @sP (tw @h0 (tw @hw (tw @ah.eq_1 @ao.eq_1)))))))))))),?_⟩;refine hN _ _ ?_;clear hN N)))
    refine cl ?_ ?_ (⟨b1,b2,fun _=>b3⟩)
    all_goals simp only[go_sem, ↓reduceIte,Nat.reduceEqDiff,Nat.reduceAdd,Nat.reduceSub,Nat.reduceLeDiff,reduceCtorEq,a8,ag0,a1,a6,a7]
  ·have pj:k=0:=ab
   (repeat(first|((repeat(revert hN;revert N;apply Pn.out));refine wk (tw @a8 (tw @ag0 (tw @a1 (tw @a6 (tw @a7 (tw @hk (tw @eC (tw @h0 (tw @ah.eq_1 @ao.eq_1))))))))) ?_;(repeat(refine Pn.mk ?_;intro N hN)))|((try apply Or.inl);refine⟨_,ai.x (hp) (sd (tw @a8 (tw @ag0 (tw @a1 (tw @a6 (tw @a7 (tw @hk (tw @eC (tw @h0 (tw @ah.eq_1 @ao.eq_1)))))))))),?_⟩;refine hN _ _ ?_;clear hN N)|((try apply Or.inl);refine⟨_,ai.x (ht) (sd (tw @a8 (tw @ag0 (tw @a1 (tw @a6 (tw @a7 (tw @hk (tw @eC (tw @h0 (tw @ah.eq_1 @ao.eq_1)))))))))),?_⟩;refine hN _ _ ?_;clear hN N)))
   refine cl ?_ ?_ (⟨b1,b2,fun h=>ab⟩)
   all_goals simp only[go_sem, ↓reduceIte,Nat.reduceEqDiff,Nat.reduceAdd,Nat.reduceSub,Nat.reduceLeDiff,reduceCtorEq,a8,ag0,a1,a6,a7]
 ·(try((repeat(revert hN;revert N;apply Pn.out));refine wk (tw @a8 (tw @ag0 (tw @a1 (tw @a6 (tw @a7 @hk))))) ?_;(repeat(refine Pn.mk ?_;intro N hN))))
  refine aI (b:=decide ((l.length:Int)<=500)) (.inl rfl) (sd @Nat.zero_add) ?_
  by_cases h5:(l.length:Int)<=500
  ·rw[decide_eq_true h5];exact uT ⟨ab,fun i hi=>j9 i ab⟩
  ·rw[decide_eq_false h5];exact jn fun h=>by have:=h.EF;omega
theorem uL (cells:List ak) (p:bx) (hR:xD cells) (H0:cells.length<=1048576):
  ai Tryz.prog 107 [.sl (cells.map ah),.agg (ao p),.fn 108 []] (.gU [.int .i64 (kY cells p),.bool (decide (kY cells p<cells.length)&&decide ((bp cells (kY cells p)).cz=p))]):=by
 refine ai.body dP rfl fun hl n0=>?_
 clear hl
 (try((repeat(revert hN;revert N;apply Pn.out));refine wk @ao.eq_1 ?_;(repeat(refine Pn.mk ?_;intro N hN))))
 refine aJ (fun n env st=>∃i j:Nat,n=j-i/\i<=j/\j<=cells.length/\(∀x,x<i->pw (bp cells x).cz p=true)/\(∀x,j<=x->x<cells.length->pw (bp cells x).cz p=false)/\env 9=.int .i64 i/\env 10=.int .i64 j/\st.get ⟨107000000,n0⟩=some ⟨true,2,[ao p]⟩) cells.length ⟨0,cells.length,ab,ab,ab,fun x h=>ab,fun x h1 h2=>ab,by(simp only[go_sem, ↓reduceIte,Nat.reduceEqDiff,Nat.reduceAdd,Nat.reduceSub,Nat.reduceLeDiff,reduceCtorEq])<;>rfl,sd @Nat.zero_add,sd @ao.eq_1⟩ ?_
 rintro n env st ⟨i,j,rfl,Pc,hj,jH,zA,h9,FE,hg⟩ fr
 have h0:=fr 0 (by kernel_rfl)
 have h2:=fr 2 (by kernel_rfl)
 have h4:=fr 4 (by kernel_rfl)
 have h8:=fr 8 (by kernel_rfl)
 simp only[go_sem, ↓reduceIte,Nat.reduceEqDiff,Nat.reduceAdd,Nat.reduceSub,Nat.reduceLeDiff,reduceCtorEq]at h0 h2 h4 h8
 clear fr
 by_cases dD:(i:Int)<(j:Int)
 ·have e1:IntKind.i64.wrap ((i:Int)+j)=((i+j:Nat):Int):=by rw[aQ ab];rfl
  have hm:(i+j) / 2<cells.length:=ab
  have dW:(cells.map ah)[(i+j) / 2]? =some (ah (bp cells ((i+j) / 2))):=ga (l:=cells) hm
  have e2:IntKind.i64.wrap ((IntKind.u64.wrap ((i+j:Nat):Int)).fdiv (2 ^ min 1 IntKind.u64.bits))=(((i+j) / 2:Nat):Int):=by
   have h:IntKind.u64.wrap ((i+j:Nat):Int)=((i+j:Nat):Int):=by rw[IntKind.wrap_u64];omega
   rw[h,show min 1 IntKind.u64.bits=1 from rfl,show((2:Int) ^ 1)=2 from rfl,Int.fdiv_eq_ediv_of_nonneg _ ab]
   rw[aQ ab];omega
  have M7:IntKind.i64.wrap ((IntKind.u64.wrap ((i+j:Nat):Int)).fdiv (2 ^ min 1 64))=(((i+j) / 2:Nat):Int):=e2
  have e3:=aA (k:=(i+j) / 2) ab
  by_cases hc:rG (bp cells ((i+j) / 2)).cz p<0
  ·have hl:pw (bp cells ((i+j) / 2)).cz p=true:=by rw[<-v5];simpa using hc
   (repeat(first|((repeat(revert hN;revert N;apply Pn.out));refine wk (tw @h0 (tw @h2 (tw @h4 (tw @h8 (tw @h9 (tw @FE (tw @hg (tw @dD (tw @e1 (tw @e2 (tw @M7 (tw @dW (tw @hc (tw @ah.eq_1 @ao.eq_1)))))))))))))) ?_;(repeat(refine Pn.mk ?_;intro N hN)))|((try apply Or.inl);refine⟨_,ai.x (jv (bp cells ((i+j) / 2)) p) (sd (tw @h0 (tw @h2 (tw @h4 (tw @h8 (tw @h9 (tw @FE (tw @hg (tw @dD (tw @e1 (tw @e2 (tw @M7 (tw @dW (tw @hc (tw @ah.eq_1 @ao.eq_1))))))))))))))),?_⟩;refine hN _ _ ?_;clear hN N)))
   refine⟨_,?_,(i+j) / 2+1,j,rfl,ab,hj,fun x hx=>?_,zA,sd @e3,sd @FE,sd (tw @hg @ao.eq_1)⟩
   ·omega
   ·by_cases Ln:x=(i+j) / 2
    ·subst Ln;exact hl
    ·exact kZ (hR x _ ab hm) hl
  ·have hl:pw (bp cells ((i+j) / 2)).cz p=false:=by rw[<-v5];simpa using hc
   (repeat(first|((repeat(revert hN;revert N;apply Pn.out));refine wk (tw @h0 (tw @h2 (tw @h4 (tw @h8 (tw @h9 (tw @FE (tw @hg (tw @dD (tw @e1 (tw @e2 (tw @M7 (tw @dW (tw @hc (tw @ah.eq_1 @ao.eq_1)))))))))))))) ?_;(repeat(refine Pn.mk ?_;intro N hN)))|((try apply Or.inl);refine⟨_,ai.x (jv (bp cells ((i+j) / 2)) p) (sd (tw @h0 (tw @h2 (tw @h4 (tw @h8 (tw @h9 (tw @FE (tw @hg (tw @dD (tw @e1 (tw @e2 (tw @M7 (tw @dW (tw @hc (tw @ah.eq_1 @ao.eq_1))))))))))))))),?_⟩;refine hN _ _ ?_;clear hN N)))
   refine⟨_,?_,i,(i+j) / 2,rfl,ab,ab,jH,fun x h1 h2=>?_,sd @h9,sd (tw @e2 @M7),sd (tw @hg @ao.eq_1)⟩
   ·omega
   ·by_cases Ln:x=(i+j) / 2
    ·subst Ln;exact hl
    ·rw[Bool.eq_false_iff]
     intro hc
     have h3:=kZ (hR ((i+j) / 2) x ab h2) hc
     rw[hl]at h3;cases h3
 ·have K0:i=j:=ab
  subst K0
  have AE:kY cells p=i:=wL hj jH fun h=>zA i (Nat.le_refl _) h
  by_cases hn:(i:Int)<(cells.length:Int)
  ·have fb:i<cells.length:=ab
   have dW:(cells.map ah)[i]? =some (ah (bp cells i)):=ga (l:=cells) fb
   have hd:decide (rG (bp cells i).cz p=0)=decide ((bp cells i).cz=p):=by simp only[C1]
   (repeat(first|((repeat(revert hN;revert N;apply Pn.out));refine wk (tw @h0 (tw @h2 (tw @h4 (tw @h8 (tw @h9 (tw @FE (tw @hg (tw @dD (tw @hn (tw @dW (tw @ah.eq_1 @ao.eq_1))))))))))) ?_;(repeat(refine Pn.mk ?_;intro N hN)))|((try apply Or.inl);refine⟨_,ai.x (jv (bp cells i) p) (sd (tw @h0 (tw @h2 (tw @h4 (tw @h8 (tw @h9 (tw @FE (tw @hg (tw @dD (tw @hn (tw @dW (tw @ah.eq_1 @ao.eq_1)))))))))))),?_⟩;refine hN _ _ ?_;clear hN N)))
   refine iK (.inl rfl) (r1:=.int .i64 i) (r2:=.bool (decide ((bp cells i).cz=p))) ?_ ?_ ?_
   ·simp only[go_sem, ↓reduceIte,Nat.reduceEqDiff,Nat.reduceAdd,Nat.reduceSub,Nat.reduceLeDiff,reduceCtorEq]
   ·simp only[go_sem, ↓reduceIte,Nat.reduceEqDiff,Nat.reduceAdd,Nat.reduceSub,Nat.reduceLeDiff,reduceCtorEq,hd]
   ·simp only[ee,aM,bh,dK,eD,Option.map_some,AE,fb,decide_true,Bool.true_and]
  ·have fb:¬i<cells.length:=ab
   (try((repeat(revert hN;revert N;apply Pn.out));refine wk (tw @h0 (tw @h2 (tw @h4 (tw @h8 (tw @h9 (tw @FE (tw @hg (tw @dD (tw @hn (tw @ah.eq_1 @ao.eq_1)))))))))) ?_;(repeat(refine Pn.mk ?_;intro N hN))))
   refine iK (.inl rfl) (r1:=.int .i64 i) (r2:=.bool false) ?_ ?_ ?_
   ·simp only[go_sem, ↓reduceIte,Nat.reduceEqDiff,Nat.reduceAdd,Nat.reduceSub,Nat.reduceLeDiff,reduceCtorEq]
   ·simp only[go_sem, ↓reduceIte,Nat.reduceEqDiff,Nat.reduceAdd,Nat.reduceSub,Nat.reduceLeDiff,reduceCtorEq]
   ·simp only[ee,aM,bh,dK,eD,Option.map_some,AE,fb,decide_false,Bool.false_and]
theorem Eb (l:List ak) (p:bx) (hR:xD l) (H0:l.length<=1048576):ai Tryz.prog 187 [.agg [.sl (l.map ah)],.agg (ao p)] (.int .i64 (fx l p)):=by
 refine ai.body dP rfl fun hl n0=>?_
 clear hl
 rw[wM hR]
 have hb:=uL l p hR H0
 rw[ao]at hb
 cases hf:(decide (kY l p<l.length)&&decide ((bp l (kY l p)).cz=p))
 ·rw[hf]at hb
  (repeat(first|((repeat(revert hN;revert N;apply Pn.out));refine wk @ao.eq_1 ?_;(repeat(refine Pn.mk ?_;intro N hN)))|((try apply Or.inl);refine⟨_,ai.x (hb) (sd @ao.eq_1),?_⟩;refine hN _ _ ?_;clear hN N)))
  exact bq (b:=-1) (.inl rfl) (sd @Nat.zero_add) (by rw[if_neg];intro h;simp[h.1,h.2]at hf)
 ·rw[hf]at hb
  (repeat(first|((repeat(revert hN;revert N;apply Pn.out));refine wk @ao.eq_1 ?_;(repeat(refine Pn.mk ?_;intro N hN)))|((try apply Or.inl);refine⟨_,ai.x (hb) (sd @ao.eq_1),?_⟩;refine hN _ _ ?_;clear hN N)))
  exact bq (b:=(kY l p:Int)) (.inl rfl) (sd @Nat.zero_add) (by rw[if_pos];simpa using hf)
theorem PI (l:List ak) (p:bx) (hR:xD l) (H0:l.length<=1048576):ai Tryz.prog 75 [.agg [.sl (l.map ah)],.agg (ao p)] (.int .i64 (tX l p)):=by
 refine ai.body dP rfl fun hl n0=>?_
 clear hl
 have hi:=wM (l:=l) (p:=p) hR
 have hb:=uL l p hR H0
 rw[ao]at hb
 cases hf:(decide (kY l p<l.length)&&decide ((bp l (kY l p)).cz=p))
 ·rw[hf]at hb
  (repeat(first|((repeat(revert hN;revert N;apply Pn.out));refine wk @ao.eq_1 ?_;(repeat(refine Pn.mk ?_;intro N hN)))|((try apply Or.inl);refine⟨_,ai.x (hb) (sd @ao.eq_1),?_⟩;refine hN _ _ ?_;clear hN N)))
  exact bq (b:=-1) (.inl rfl) (sd @Nat.zero_add) (by
   have hx:fx l p= -1:=by rw[hi,if_neg (by intro h;simp[h.1,h.2]at hf)]
   rw[tX,hx];rfl)
 ·rw[hf]at hb
  have hc:kY l p<l.length/\(bp l (kY l p)).cz=p:=by simpa using hf
  have hg:=ga hc.1
  (repeat(first|((repeat(revert hN;revert N;apply Pn.out));refine wk (tw @ao.eq_1 (tw @hg @ah.eq_1)) ?_;(repeat(refine Pn.mk ?_;intro N hN)))|((try apply Or.inl);refine⟨_,ai.x (hb) (sd (tw @ao.eq_1 (tw @hg @ah.eq_1))),?_⟩;refine hN _ _ ?_;clear hN N)))
  exact bq (b:=(bp l (kY l p)).bw) (.inl rfl) (sd @Nat.zero_add) (by
   have hx:fx l p=(kY l p:Int):=by rw[hi,if_pos hc]
   rw[tX,hx,if_pos ab,Int.toNat_natCast])
theorem s4 (l:List ak) (p:bx) (hR:xD l) (H0:l.length<=1048576):ai Tryz.prog 67 [.cH [.sl (l.map ah)],.agg (ao p)] (.int .i64 (fx l p)):=by
 refine ai.body dP rfl fun hl n0=>?_
 clear hl
 rw[wM hR]
 (try((repeat(revert hN;revert N;apply Pn.out));refine wk @ao.eq_1 ?_;(repeat(refine Pn.mk ?_;intro N hN))))
 refine aJ (fun n env st=>∃i j:Nat,n=j-i/\i<=j/\j<=l.length/\(∀x,x<i->pw (bp l x).cz p=true)/\(∀x,j<=x->x<l.length->pw (bp l x).cz p=false)/\env 5=.int .i64 i/\env 6=.int .i64 j/\st.get ⟨67000000,n0⟩=some ⟨true,2,[ao p]⟩) l.length ⟨0,l.length,ab,ab,ab,fun x h=>ab,fun x h1 h2=>ab,by(simp only[go_sem, ↓reduceIte,Nat.reduceEqDiff,Nat.reduceAdd,Nat.reduceSub,Nat.reduceLeDiff,reduceCtorEq])<;>rfl,sd @Nat.zero_add,sd @ao.eq_1⟩ ?_
 rintro n env st ⟨i,j,rfl,Pc,hj,jH,zA,h5,h6,hg⟩ fr
 have h0:=fr 0 (by kernel_rfl)
 have h3:=fr 3 (by kernel_rfl)
 simp only[go_sem, ↓reduceIte,Nat.reduceEqDiff,Nat.reduceAdd,Nat.reduceSub,Nat.reduceLeDiff,reduceCtorEq]at h0 h3
 clear fr
 by_cases dD:(i:Int)<(j:Int)
 ·have e1:IntKind.i64.wrap ((i:Int)+j)=((i+j:Nat):Int):=by rw[aQ ab];rfl
  have hm:(i+j) / 2<l.length:=ab
  have dW:=ga hm
  have e2:IntKind.i64.wrap (((i+j:Nat):Int).tdiv 2)=(((i+j) / 2:Nat):Int):=by
   rw[Int.tdiv_eq_ediv_of_nonneg ab,aQ ab];omega
  have e3:=aA (k:=(i+j) / 2) ab
  have hq:=qJ (bp l ((i+j) / 2)).cz p
  cases hl:pw (bp l ((i+j) / 2)).cz p
  ·rw[hl]at hq
   (repeat(first|((repeat(revert hN;revert N;apply Pn.out));refine wk (tw @h0 (tw @h3 (tw @h5 (tw @h6 (tw @hg (tw @dD (tw @e1 (tw @e2 (tw @dW (tw @ah.eq_1 @ao.eq_1)))))))))) ?_;(repeat(refine Pn.mk ?_;intro N hN)))|((try apply Or.inl);refine⟨_,ai.x (hq) (sd (tw @h0 (tw @h3 (tw @h5 (tw @h6 (tw @hg (tw @dD (tw @e1 (tw @e2 (tw @dW (tw @ah.eq_1 @ao.eq_1))))))))))),?_⟩;refine hN _ _ ?_;clear hN N)))
   refine⟨_,?_,i,(i+j) / 2,rfl,ab,ab,jH,fun x h1 h2=>?_,sd @h5,sd @e2,sd (tw @hg @ao.eq_1)⟩
   ·omega
   ·by_cases Ln:x=(i+j) / 2
    ·subst Ln;exact hl
    ·rw[Bool.eq_false_iff]
     intro hc
     have h3:=kZ (hR ((i+j) / 2) x ab h2) hc
     rw[hl]at h3;cases h3
  ·rw[hl]at hq
   (repeat(first|((repeat(revert hN;revert N;apply Pn.out));refine wk (tw @h0 (tw @h3 (tw @h5 (tw @h6 (tw @hg (tw @dD (tw @e1 (tw @e2 (tw @dW (tw @ah.eq_1 @ao.eq_1)))))))))) ?_;(repeat(refine Pn.mk ?_;intro N hN)))|((try apply Or.inl);refine⟨_,ai.x (hq) (sd (tw @h0 (tw @h3 (tw @h5 (tw @h6 (tw @hg (tw @dD (tw @e1 (tw @e2 (tw @dW (tw @ah.eq_1 @ao.eq_1))))))))))),?_⟩;refine hN _ _ ?_;clear hN N)))
   refine⟨_,?_,(i+j) / 2+1,j,rfl,ab,hj,fun x hx=>?_,zA,sd @e3,sd @h6,sd (tw @hg @ao.eq_1)⟩
   ·omega
   ·by_cases Ln:x=(i+j) / 2
    ·subst Ln;exact hl
    ·exact kZ (hR x _ ab hm) hl
 ·have K0:i=j:=ab
  subst K0
  have AE:kY l p=i:=wL hj jH fun h=>zA i (Nat.le_refl _) h
  by_cases hn:(i:Int)<(l.length:Int)
  ·have fb:i<l.length:=ab
   have dW:=ga fb
   by_cases hp:(bp l i).cz=p
   ·have hx:decide ((bp l i).cz.fX=p.fX)=true:=decide_eq_true (by rw[hp])
    have hy:decide ((bp l i).cz.fy=p.fy)=true:=decide_eq_true (by rw[hp])
    (try((repeat(revert hN;revert N;apply Pn.out));refine wk (tw @h0 (tw @h3 (tw @h5 (tw @h6 (tw @hg (tw @dD (tw @hn (tw @dW (tw @hx (tw @hy (tw @ah.eq_1 @ao.eq_1))))))))))) ?_;(repeat(refine Pn.mk ?_;intro N hN))))
    exact bq (b:=(i:Int)) (.inl rfl) (sd @Nat.zero_add) (by rw[AE,if_pos ⟨fb,hp⟩])
   ·by_cases hx:(bp l i).cz.fX=p.fX
    ·have tT:decide ((bp l i).cz.fX=p.fX)=true:=decide_eq_true hx
     have hy':decide ((bp l i).cz.fy=p.fy)=false:=decide_eq_false fun h=>hp (LB hx h)
     (try((repeat(revert hN;revert N;apply Pn.out));refine wk (tw @h0 (tw @h3 (tw @h5 (tw @h6 (tw @hg (tw @dD (tw @hn (tw @dW (tw @tT (tw @hy' (tw @ah.eq_1 @ao.eq_1))))))))))) ?_;(repeat(refine Pn.mk ?_;intro N hN))))
     exact bq (b:=-1) (.inl rfl) (sd @Nat.zero_add) (by rw[AE,if_neg fun h=>hp h.2])
    ·have tT:decide ((bp l i).cz.fX=p.fX)=false:=decide_eq_false hx
     (try((repeat(revert hN;revert N;apply Pn.out));refine wk (tw @h0 (tw @h3 (tw @h5 (tw @h6 (tw @hg (tw @dD (tw @hn (tw @dW (tw @tT (tw @Bool.false_and (tw @ah.eq_1 @ao.eq_1))))))))))) ?_;(repeat(refine Pn.mk ?_;intro N hN))))
     exact bq (b:=-1) (.inl rfl) (sd @Nat.zero_add) (by rw[AE,if_neg fun h=>hp h.2])
  ·have fb:¬i<l.length:=ab
   (try((repeat(revert hN;revert N;apply Pn.out));refine wk (tw @h0 (tw @h3 (tw @h5 (tw @h6 (tw @hg (tw @dD (tw @hn (tw @ah.eq_1 @ao.eq_1)))))))) ?_;(repeat(refine Pn.mk ?_;intro N hN))))
   exact bq (b:=-1) (.inl rfl) (sd @Nat.zero_add) (by rw[AE,if_neg fun h=>fb h.1])
theorem IC (l:List ak) (p:bx) (hR:xD l) (H0:l.length<=1048576):ai Tryz.prog 37 [.cH [.sl (l.map ah)],.agg (ao p)] (.int .i64 (tX l p)):=by
 refine ai.body dP rfl fun hl n0=>?_
 clear hl
 have hb:=s4 l p hR H0
 by_cases hi:fx l p<0
 ·rw[ao]at hb
  (repeat(first|((repeat(revert hN;revert N;apply Pn.out));refine wk (tw @ao.eq_1 @hi) ?_;(repeat(refine Pn.mk ?_;intro N hN)))|((try apply Or.inl);refine⟨_,ai.x (hb) (sd (tw @ao.eq_1 @hi)),?_⟩;refine hN _ _ ?_;clear hN N)))
  exact bq (b:=-1) (.inl rfl) (sd @Nat.zero_add) (by rw[tX,if_neg ab])
 ·have h0:0<=fx l p:=ab
  have hg:=ga (nB h0).1
  rw[ao]at hb
  (repeat(first|((repeat(revert hN;revert N;apply Pn.out));refine wk (tw @ao.eq_1 (tw @hi (tw @h0 (tw @hg @ah.eq_1)))) ?_;(repeat(refine Pn.mk ?_;intro N hN)))|((try apply Or.inl);refine⟨_,ai.x (hb) (sd (tw @ao.eq_1 (tw @hi (tw @h0 (tw @hg @ah.eq_1))))),?_⟩;refine hN _ _ ?_;clear hN N)))
  exact bq (b:=(bp l (fx l p).toNat).bw) (.inl rfl) (sd @Nat.zero_add) (by rw[tX,if_pos h0])
def nN (s:aq) (l:List ak):Prop:=jI l/\∀t∈l,fP s t.bw=true
noncomputable def nQ (s:aq) (l:List ak):Bool:=mU l&&l.all fun t=>fP s t.bw
theorem kP {s:aq} {l:List ak}:nQ s l=true↔nN s l:=by simp[nQ,nN,Dk]
theorem z2:MP ah (fun c=>.agg (ah c)) 3 true:=⟨fun _=>rfl,fun _=>rfl,fun x g=>by simp only[ah,ad,aj,bj,aE,Option.map_some]⟩
theorem D6 (s:aq) (t:ak) (hs:s.ae.length<=1048576):ai Tryz.prog 105 [.agg (ah t),.cH (aa s)] (.bool (!fP s t.bw)):=by
 refine ai.body dP rfl fun hl n0=>?_
 clear hl
 have h:=F8 s t.bw
 rw[aa]at h
 (repeat(first|((repeat(revert hN;revert N;apply Pn.out));refine wk (tw @ah.eq_1 @aa.eq_1) ?_;(repeat(refine Pn.mk ?_;intro N hN)))|((try apply Or.inl);refine⟨_,ai.x (h) (sd (tw @ah.eq_1 @aa.eq_1)),?_⟩;refine hN _ _ ?_;clear hN N)))
 exact aI (b:= !fP s t.bw) (.inl rfl) (sd @Nat.zero_add) rfl
theorem Je (s:aq) (l:List ak) (hs:s.ae.length<=1048576) (hl:l.length<=1048576):ai Tryz.prog 104 [.sl (l.map ah),.fn 105 [.cH (aa s)]] (.bool (l.any fun t=> !fP s t.bw)):=
 mM z2 (show lr Tryz.prog 104=some (Ar 104 138) by kernel_rfl)
  (show lr Tryz.prog 138=some (sY 138 3 true) by kernel_rfl) l hl _ _ _ rfl (fun g=>by rw[ad,aX,aj];rfl) (fun x _=>D6 s x hs) fun g=>by rw[ad,aX,aj];rfl
theorem HH {α:Type} (p:α->Bool) (l:List α):(!l.any fun t=> !p t)=l.all p:=by
 induction l with
 |nil=>rfl
 |cons x l ih=>simp only[List.any_cons,List.all_cons,<-ih];cases p x<;>simp
theorem lV (s:aq) (l:List ak) (hn:fA s) (hg:s.aw.length<=1048576) (ht:s.ae.length<=1048576) (hs:∀t∈s.ae,t.aY.length<=1048576) (hl:l.length<=1048576):ai Tryz.prog 73 [.agg (aa s),.agg [.sl (l.map ah)]] (.bool (oP s&&nQ s l)):=by
 refine ai.body dP rfl fun hl n0=>?_
 clear hl
 have h1:=zN s hn hg ht hs
 have h2:=Dp l
 have h3:=Je s l ht hl
 rw[aa]at h1 h3
 cases b1:oP s
 ·rw[b1]at h1
  (repeat(first|((repeat(revert hN;revert N;apply Pn.out));refine wk @aa.eq_1 ?_;(repeat(refine Pn.mk ?_;intro N hN)))|((try apply Or.inl);refine⟨_,ai.x (h1) (sd @aa.eq_1),?_⟩;refine hN _ _ ?_;clear hN N)))
  exact aI (b:=false) (.inl rfl) (sd @Nat.zero_add) rfl
 rw[b1]at h1
 cases b2:mU l
 ·rw[b2]at h2
  (repeat(first|((repeat(revert hN;revert N;apply Pn.out));refine wk @aa.eq_1 ?_;(repeat(refine Pn.mk ?_;intro N hN)))|((try apply Or.inl);refine⟨_,ai.x (h1) (sd @aa.eq_1),?_⟩;refine hN _ _ ?_;clear hN N)|((try apply Or.inl);refine⟨_,ai.x (h2) (sd @aa.eq_1),?_⟩;refine hN _ _ ?_;clear hN N)))
  exact aI (b:=false) (.inl rfl) (sd @Nat.zero_add) (by rw[nQ,b2];rfl)
 rw[b2]at h2
 (repeat(first|((repeat(revert hN;revert N;apply Pn.out));refine wk @aa.eq_1 ?_;(repeat(refine Pn.mk ?_;intro N hN)))|((try apply Or.inl);refine⟨_,ai.x (h1) (sd @aa.eq_1),?_⟩;refine hN _ _ ?_;clear hN N)|((try apply Or.inl);refine⟨_,ai.x (h2) (sd @aa.eq_1),?_⟩;refine hN _ _ ?_;clear hN N)|((try apply Or.inl);refine⟨_,ai.x (h3) (sd @aa.eq_1),?_⟩;refine hN _ _ ?_;clear hN N)))
 exact aI (b:= !(l.any fun t=> !fP s t.bw)) (.inl rfl) (sd @Nat.zero_add) (by rw[HH,nQ,b2];rfl)
theorem Cr (s:aq) (l:List ak):ai Tryz.prog 66 [.cH (aa s),.cH [.sl (l.map ah)]] (.bool (nQ s l)):=by
 refine ai.body dP rfl fun hl n0=>?_
 have hlen:l.length<=9223372036854775807:=by
  have h1:=(hl (.cH [.sl (l.map ah)]) (by simp)).ve (a:=.sl (l.map ah)) (by simp)
  simpa using h1.len
 clear hl
 have h2:=DP l
 cases b2:mU l
 ·rw[b2]at h2
  (repeat(first|((repeat(revert hN;revert N;apply Pn.out));refine wk @Nat.zero_add ?_;(repeat(refine Pn.mk ?_;intro N hN)))|((try apply Or.inl);refine⟨_,ai.x (h2) (sd @Nat.zero_add),?_⟩;refine hN _ _ ?_;clear hN N)))
  exact aI (b:=false) (.inl rfl) (sd @Nat.zero_add) (by rw[nQ,b2];rfl)
 rw[b2]at h2
 (repeat(first|((repeat(revert hN;revert N;apply Pn.out));refine wk @Nat.zero_add ?_;(repeat(refine Pn.mk ?_;intro N hN)))|((try apply Or.inl);refine⟨_,ai.x (h2) (sd @Nat.zero_add),?_⟩;refine hN _ _ ?_;clear hN N)))
 refine aJ (fun n env st=>∃k:Nat,n=(l.length)-k/\k<=(l.length)/\env 5=.int .i64 (k:Int)/\(∀j:Nat,j<k->fP s (bp l j).bw=true)) (l.length) ⟨0,ab,ab,sl @Nat.zero_add,fun _ h=>absurd h (Nat.not_lt_zero _)⟩ ?_
 rintro n_a env_a st_a ⟨k,rfl,ale,a5,j9⟩ dE
 have a0:=dE 0 (by kernel_rfl);have a1:=dE 1 (by kernel_rfl)
 simp only[go_sem, ↓reduceIte,Nat.reduceEqDiff,Nat.reduceAdd,Nat.reduceSub,Nat.reduceLeDiff,reduceCtorEq]at a0 a1
 clear dE
 by_cases hk:(k:Int)<(l.length:Int)
 ·have cl:∀{e:Env},(e 5=.int .i64 (IntKind.i64.wrap ((k:Int)+1)))->(fP s (bp l k).bw=true)->∃m0,m0<(l.length)-k/\∃k:Nat,m0=(l.length)-k/\k<=(l.length)/\e 5=.int .i64 (k:Int)/\(∀j:Nat,j<k->fP s (bp l j).bw=true):=fun x1 x2=>⟨_,ab,k+1,rfl,ab,(by rw[x1,aA ab]),(all_succ j9 x2)⟩
  have eO:k<l.length:=ab
  have eC:=ga eO
  have ht:=AT s (bp l k).bw
  cases b3:fP s (bp l k).bw
  ·rw[b3]at ht
   (repeat(first|((repeat(revert hN;revert N;apply Pn.out));refine wk (tw @a5 (tw @a0 (tw @a1 (tw @hk (tw @eC @ah.eq_1))))) ?_;(repeat(refine Pn.mk ?_;intro N hN)))|((try apply Or.inl);refine⟨_,ai.x (ht) (sd (tw @a5 (tw @a0 (tw @a1 (tw @hk (tw @eC @ah.eq_1)))))),?_⟩;refine hN _ _ ?_;clear hN N)))
   exact aI (b:=false) (.inl rfl) (sd @Nat.zero_add) (by
    have:l.all (fun t=>fP s t.bw)=false:=List.all_eq_false.2 ⟨_,nh eO,by rw[b3];simp⟩
    rw[nQ,this,Bool.and_false])
  ·rw[b3]at ht
   (repeat(first|((repeat(revert hN;revert N;apply Pn.out));refine wk (tw @a5 (tw @a0 (tw @a1 (tw @hk (tw @eC @ah.eq_1))))) ?_;(repeat(refine Pn.mk ?_;intro N hN)))|((try apply Or.inl);refine⟨_,ai.x (ht) (sd (tw @a5 (tw @a0 (tw @a1 (tw @hk (tw @eC @ah.eq_1)))))),?_⟩;refine hN _ _ ?_;clear hN N)))
   exact cl (sd (tw @a5 (tw @a0 @a1))) (b3)
 ·(try((repeat(revert hN;revert N;apply Pn.out));refine wk (tw @a5 (tw @a0 (tw @a1 @hk))) ?_;(repeat(refine Pn.mk ?_;intro N hN))))
  exact aI (b:=true) (.inl rfl) (sd @Nat.zero_add) (by
   have:l.all (fun t=>fP s t.bw)=true:=List.all_eq_true.2 fun t ht=>by
    obtain⟨j,hj,rfl⟩:=List.getElem_of_mem ht
    have:=j9 j ab
    rwa [jF hj]at this
   rw[nQ,b2,this];rfl)
theorem uv (l:List ak) (hF:jI l) (i:Nat) (d:Int) (hi:i<l.length) (hd:fU d 0 3=true):ai Tryz.prog 148 [.cH [.sl (l.map ah)],.int .i64 i,.int .i64 d] (.int .i64 (fx l (ez (bp l i).cz d))):=by
 refine ai.body dP rfl fun hl n0=>?_
 clear hl
 have hg:=ga hi
 have hp:=GF (hF.pt hi)
 have h1:=DL (bp l i).cz d hd hp.1 hp.2
 have h2:=s4 l (ez (bp l i).cz d) hF.Pv (by have:=hF.EF;omega)
 rw[ao]at h1 h2
 (repeat(first|((repeat(revert hN;revert N;apply Pn.out));refine wk (tw @ah.eq_1 (tw @hg @ao.eq_1)) ?_;(repeat(refine Pn.mk ?_;intro N hN)))|((try apply Or.inl);refine⟨_,ai.x (h1) (sd (tw @ah.eq_1 (tw @hg @ao.eq_1))),?_⟩;refine hN _ _ ?_;clear hN N)|((try apply Or.inl);refine⟨_,ai.x (h2) (sd (tw @ah.eq_1 (tw @hg @ao.eq_1))),?_⟩;refine hN _ _ ?_;clear hN N)))
 exact bq (b:=fx l (ez (bp l i).cz d)) (.inl rfl) (sd @Nat.zero_add) rfl
end Go.Proofs.YtihgaadadaekmaaGreatDoor.V

namespace Go.Proofs.YtihgaadadaekmaaGreatDoor.V
def bi (b:Bool):Int:=if b then 1 else 0
def kH (f:Nat->Int):Nat->Int
 |0=>0
 |n+1=>kH f n+f n
theorem gz {f g:Nat->Int}:∀{n:Nat},(∀i,i<n->f i=g i)->kH f n=kH g n
 |0,_=>rfl
 |n+1,h=>by
  simp only[kH]
  rw[gz fun i hi=>h i ab,h n ab]
theorem pO {f g:Nat->Int}:∀{n:Nat},(∀i,i<n->f i<=g i)->kH f n<=kH g n
 |0,_=>Int.le_refl _
 |n+1,h=>by
  simp only[kH]
  have:=pO (n:=n) fun i hi=>h i ab
  have:=h n ab
  omega
theorem je:∀{n:Nat} {f:Nat->Int},(∀i,i<n->f i=0)->kH f n=0
 |0,_,_=>rfl
 |n+1,f,h=>by
  simp only[kH]
  rw[je fun i hi=>h i ab,h n ab];rfl
theorem nK {f:Nat->Int} {a:Nat} {d:Int}:∀n,kH (fun i=>f i+if i=a then d else 0) n=kH f n+if a<n then d else 0
 |0=>by simp[kH]
 |n+1=>by
  simp only[kH]
  rw[nK n]
  by_cases h:n=a
  ·subst h;simp;omega
  ·rw[if_neg h]
   by_cases h2:a<n
   ·rw[if_pos h2,if_pos ab];omega
   ·rw[if_neg h2,if_neg ab];omega
def kU (n:Nat) (S:Nat->Bool) (f:Nat->Nat->Int):Int:=kH (fun u=>kH (fun v=>if S u&& !S v then f u v else 0) n) n
def bump (f:Nat->Nat->Int) (a b:Nat) (d:Int):Nat->Nat->Int:=fun u v=>f u v+if u=a/\v=b then d else 0
theorem nz {n:Nat} {S:Nat->Bool} {f:Nat->Nat->Int} {a b:Nat} {d:Int} (ha:a<n) (hb:b<n):kU n S (bump f a b d)=kU n S f+if S a&& !S b then d else 0:=by
 unfold kU
 have h1:∀u,u<n->kH (fun v=>if S u&& !S v then bump f a b d u v else 0) n=kH (fun v=>if S u&& !S v then f u v else 0) n+if u=a then(if S a&& !S b then d else 0)else 0:=by
  intro u hu
  by_cases h:u=a
  ·subst h
   have h2:∀v,v<n->(if S u&& !S v then bump f u b d u v else 0)=(fun v=>if S u&& !S v then f u v else 0) v+if v=b then(if S u&& !S b then d else 0)else 0:=by
    intro v hv
    unfold bump
    by_cases h3:v=b
    ·subst h3;simp only[and_self,if_true];split<;>omega
    ·simp only[h3,and_false,if_false];split<;>omega
   rw[gz h2,nK,if_pos hb,if_pos rfl]
  ·rw[if_neg h,Int.add_zero]
   refine gz fun v hv=>?_
   unfold bump
   simp[h]
 rw[gz h1,nK,if_pos ha]
theorem HR {n:Nat} {S:Nat->Bool} {f c:Nat->Nat->Int} (h:∀u v,u<n->v<n->f u v<=c u v):kU n S f<=kU n S c:=
 pO fun u hu=>pO fun v hv=>by split;exact h u v hu hv;exact Int.le_refl _
theorem HQ {n:Nat} {S:Nat->Bool} {f c:Nat->Nat->Int} (h:∀u v,u<n->v<n->S u=true->S v=false->f u v=c u v):kU n S f=kU n S c:=
 gz fun u hu=>gz fun v hv=>by
  split
  ·rename_i hc
   simp only[Bool.and_eq_true,Bool.not_eq_true']at hc
   exact h u v hu hv hc.1 hc.2
  ·rfl
def jA (f:Nat->Nat->Int) (a b:Nat):Nat->Nat->Int:=bump (bump f a b 1) b a (-1)
theorem C5 {n:Nat} {S:Nat->Bool} {f:Nat->Nat->Int} {a b:Nat} (ha:a<n) (hb:b<n):kU n S (jA f a b)=kU n S f+bi (S a)-bi (S b):=by
 unfold jA
 rw[nz hb ha,nz ha hb]
 cases S a<;>cases S b<;>simp[bi]<;>omega
def kQ (f:Nat->Nat->Int):List Nat->Nat->Nat->Int
 |a::b::r=>kQ (jA f a b) (b::r)
 |_=>f
def oY (f c:Nat->Nat->Int):List Nat->Prop
 |a::b::r=>f a b<c a b/\oY f c (b::r)
 |_=>True
theorem xM {n:Nat} {S:Nat->Bool}:∀(r:List Nat) (a:Nat) (f:Nat->Nat->Int),(∀x∈a::r,x<n)->kU n S (kQ f (a::r))=kU n S f+bi (S a)-bi (S ((a::r).getLast (by simp)))
 |[],a,f,_=>by simp[kQ]
 |b::r,a,f,h=>by
  rw[kQ,xM r b (jA f a b) fun x hx=>h x (List.mem_cons_of_mem _ hx),C5 (h a (by simp)) (h b (by simp)),List.getLast_cons_cons]
  generalize bi (S b)=q
  omega
theorem oY.less {f g c:Nat->Nat->Int}:∀{p:List Nat},oY f c p->(∀u,u∈p->∀v,g u v<=f u v)->oY g c p
 |[],_,_=>trivial
 |[_],_,_=>trivial
 |a::b::r,h,hl=>⟨Int.lt_of_le_of_lt (hl a (by simp) b) h.1,oY.less (p:=b::r) h.2 fun u hu=>hl u (List.mem_cons_of_mem _ hu)⟩
theorem BR {n:Nat} {c:Nat->Nat->Int}:∀(p:List Nat) (f:Nat->Nat->Int),p.Nodup->oY f c p->(∀u v,u<n->v<n->f u v<=c u v)->∀u v,u<n->v<n->kQ f p u v<=c u v
 |[],f,_,_,h=>h
 |[_],f,_,_,h=>h
 |a::b::r,f,hn,hr,h=>by
  rw[kQ]
  have qV:a∉b::r:=(List.nodup_cons.1 hn).1
  refine BR (b::r) _ (List.nodup_cons.1 hn).2 (hr.2.less fun u hu v=>?_) fun u v hu hv=>?_
  ·unfold jA bump
   have:u≠a:=by rintro rfl;exact qV hu
   simp only[this,false_and,if_false]
   split<;>omega
  ·have h0:=h u v hu hv
   have h1:=hr.1
   unfold jA bump
   by_cases e:u=a/\v=b
   ·obtain⟨rfl,rfl⟩:=e
    rw[if_pos ⟨rfl,rfl⟩];split<;>omega
   ·rw[if_neg e];split<;>omega
structure lR (n:Nat) (c f:Nat->Nat->Int) (x y:Nat) (val:Int):Prop where
 le:∀u v,u<n->v<n->f u v<=c u v
 cut:∀S:Nat->Bool,S x=true->S y=false->kU n S f=val
theorem lR.zero {n:Nat} {c:Nat->Nat->Int} {x y:Nat} (h:∀u v,u<n->v<n->0<=c u v):lR n c (fun _ _=>0) x y 0:=
 ⟨h,fun S _ _=>je fun u hu=>je fun v hv=>by split<;>rfl⟩
theorem lR.aug {n:Nat} {c f:Nat->Nat->Int} {x y:Nat} {val:Int} (h:lR n c f x y val) {r:List Nat} (hl:(x::r).getLast (by simp)=y) (hn:(x::r).Nodup) (hr:oY f c (x::r)) (hb:∀v∈x::r,v<n):lR n c (kQ f (x::r)) x y (val+1):=
 ⟨BR _ _ hn hr h.le,fun S hx hy=>by rw[xM r x f hb,hl,h.cut S hx hy,hx,hy];simp[bi]⟩
theorem lR.bound {n:Nat} {c f:Nat->Nat->Int} {x y:Nat} {val:Int} (h:lR n c f x y val) {S:Nat->Bool} (hx:S x=true) (hy:S y=false):val<=kU n S c:=by
 rw[<-h.cut S hx hy];exact HR h.le
theorem lR.full {n:Nat} {c f:Nat->Nat->Int} {x y:Nat} {val:Int} (h:lR n c f x y val) {S:Nat->Bool} (hx:S x=true) (hy:S y=false) (hS:∀u v,u<n->v<n->S u=true->S v=false->¬f u v<c u v):val=kU n S c:=by
 rw[<-h.cut S hx hy]
 exact HQ fun u v hu hv h1 h2=>by have:=hS u v hu hv h1 h2;have:=h.le u v hu hv;omega
structure PB where
 a:Nat
 b:Nat
 s:Int
 deriving Inhabited
def bC (bs:List PB) (i:Nat):PB:=bs.getD i default
def ib (S:Nat->Bool) (bs:List PB):Int:=(bs.map fun b=>if S b.a=S b.b then 0 else b.s).sum
def l8 (c:Nat->Nat->Int) (b:PB):Nat->Nat->Int:=bump (bump c b.a b.b b.s) b.b b.a b.s
def jY (bs:List PB):Nat->Nat->Int:=bs.foldl l8 fun _ _=>0
theorem Bl (bs:List PB) (b:PB):jY (bs++[b])=l8 (jY bs) b:=by simp[jY]
theorem xZ {n:Nat} {S:Nat->Bool}:∀(bs:List PB) (c:Nat->Nat->Int),(∀b∈bs,b.a<n/\b.b<n)->kU n S (bs.foldl l8 c)=kU n S c+ib S bs
 |[],c,_=>by simp[ib]
 |b::bs,c,h=>by
  have hb:=h b (by simp)
  rw[List.foldl_cons,xZ bs _ fun x hx=>h x (List.mem_cons_of_mem _ hx)]
  unfold l8 ib
  rw[nz hb.2 hb.1,nz hb.1 hb.2,List.map_cons,List.sum_cons]
  cases S b.a<;>cases S b.b<;>simp<;>omega
theorem x7 {n:Nat} {S:Nat->Bool} {bs:List PB} (h:∀b∈bs,b.a<n/\b.b<n):kU n S (jY bs)=ib S bs:=by
 rw[jY,xZ bs _ h]
 have:kU n S (fun _ _=>0)=0:=je fun u hu=>je fun v hv=>by split<;>rfl
 omega
theorem wU:∀(bs:List PB) (c:Nat->Nat->Int),(∀b∈bs,0<=b.s)->(∀u v,0<=c u v)->∀u v,0<=bs.foldl l8 c u v
 |[],c,_,h=>h
 |b::bs,c,hb,h=>by
  rw[List.foldl_cons]
  refine wU bs _ (fun x hx=>hb x (List.mem_cons_of_mem _ hx)) fun u v=>?_
  have:=hb b (by simp);have:=h u v
  unfold l8 bump
  split<;>split<;>omega
theorem room_le:∀(bs:List PB) (c:Nat->Nat->Int) (m:Int),(∀b∈bs,b.s<=4)->(∀u v,c u v<=m)->0<=m->∀u v,bs.foldl l8 c u v<=m+8*bs.length
 |[],c,m,_,h,_=>fun u v=>by have:=h u v;simp;omega
 |b::bs,c,m,hb,h,h0=>fun u v=>by
  rw[List.foldl_cons]
  have:=room_le bs (l8 c b) (m+8) (fun x hx=>hb x (List.mem_cons_of_mem _ hx)) (fun u v=>by
   have:=hb b (by simp);have:=h u v
   unfold l8 bump
   split<;>split<;>omega) ab u v
  simp only[List.length_cons];omega
def jJ (n:Nat) (bs:List PB) (t:Int):Prop:=∀S:Nat->Bool,S 0=true->(∃y,y<n/\S y=false)->t<=ib S bs
def C3 (S:Nat->Bool) (bs:List PB) (f:Nat->Int):Int:=kH (fun i=>f i*(bi (S (bC bs i).a)-bi (S (bC bs i).b))) bs.length
structure jj (bs:List PB) (f:Nat->Int) (x y:Nat) (val:Int):Prop where
 le:∀i,i<bs.length->f i<=(bC bs i).s/\-(bC bs i).s<=f i
 cut:∀S:Nat->Bool,S x=true->S y=false->C3 S bs f=val
theorem sy (S:Nat->Bool):∀bs:List PB,ib S bs=kH (fun i=>if S (bC bs i).a=S (bC bs i).b then 0 else(bC bs i).s) bs.length:=by
 intro bs
 have key:∀n,n<=bs.length->ib S (bs.take n)=kH (fun i=>if S (bC bs i).a=S (bC bs i).b then 0 else(bC bs i).s) n:=by
  intro n
  induction n with
  |zero=>intro _;rfl
  |succ n ih=>
   intro h
   have e:bC bs n=bs[n]:=by simp[bC,List.getD_eq_getElem?_getD,List.getElem?_eq_getElem (show n<bs.length by omega)]
   rw[List.take_succ_eq_append_getElem ab,kH,<-ih ab,e]
   unfold ib
   rw[List.map_append,List.sum_append]
   simp only[List.map_cons,List.map_nil,List.sum_cons,List.sum_nil,Int.add_zero]
 have:=key bs.length (Nat.le_refl _)
 rwa [List.take_length]at this
theorem jj.bound {bs:List PB} {f:Nat->Int} {x y:Nat} {val:Int} (h:jj bs f x y val) {S:Nat->Bool} (hx:S x=true) (hy:S y=false):val<=ib S bs:=by
 rw[<-h.cut S hx hy,sy]
 refine pO fun i hi=>?_
 have:=h.le i hi
 cases S (bC bs i).a<;>cases S (bC bs i).b<;>simp[bi]<;>omega
def eY (bs:List PB) (f:Nat->Int) (i u:Nat):Int:=if (bC bs i).a=u then(bC bs i).s-f i else(bC bs i).s+f i
def bo (bs:List PB) (i u:Nat):Nat:=if (bC bs i).a=u then(bC bs i).b else(bC bs i).a
theorem jj.full {bs:List PB} {f:Nat->Int} {x y:Nat} {val:Int} (h:jj bs f x y val) {S:Nat->Bool} (hx:S x=true) (hy:S y=false)
  (hS:∀i,i<bs.length->((bC bs i).a≠(bC bs i).b->(S (bC bs i).a=true->S (bC bs i).b=false->¬0<eY bs f i (bC bs i).a)/\(S (bC bs i).b=true->S (bC bs i).a=false->¬0<eY bs f i (bC bs i).b))):val=ib S bs:=by
 rw[<-h.cut S hx hy,sy]
 refine gz fun i hi=>?_
 have h1:=h.le i hi
 by_cases qV:(bC bs i).a=(bC bs i).b
 ·rw[qV];simp
 ·have h2:=hS i hi qV
  unfold eY at h2
  rw[if_pos rfl,if_neg qV]at h2
  cases ha:S (bC bs i).a<;>cases hb:S (bC bs i).b<;>rw[ha,hb]at h2<;>simp[bi]at h2 ⊢ <;>omega
def rj (bs:List PB) (f:Nat->Int) (i u:Nat):Nat->Int:=fun j=>f j+if j=i then(if (bC bs i).a=u then 1 else -1)else 0
theorem C4 {S:Nat->Bool} {bs:List PB} {f:Nat->Int} {i u:Nat} (hi:i<bs.length) (hu:(bC bs i).a=u∨(bC bs i).b=u):C3 S bs (rj bs f i u)=C3 S bs f+bi (S u)-bi (S (bo bs i u)):=by
 unfold C3 rj
 have e:∀j,j<bs.length->(f j+if j=i then(if (bC bs i).a=u then 1 else -1)else 0)*(bi (S (bC bs j).a)-bi (S (bC bs j).b))=(fun j=>f j*(bi (S (bC bs j).a)-bi (S (bC bs j).b))) j+if j=i then(if (bC bs i).a=u then 1 else -1)*(bi (S (bC bs i).a)-bi (S (bC bs i).b))else 0:=by
  intro j hj
  by_cases h:j=i
  ·subst h;simp only[if_true];rw[Int.add_mul]
  ·simp only[h,if_false];simp
 rw[gz e,nK,if_pos hi]
 unfold bo
 by_cases ha:(bC bs i).a=u
 ·rw[if_pos ha,if_pos ha,ha];omega
 ·rw[if_neg ha,if_neg ha]
  rcases hu with hu|hu
  ·exact absurd hu ha
  ·rw[hu];omega
theorem m4:∀(n:Nat) (l:List Nat),l.Nodup->(∀x∈l,x<n)->l.length<=n
 |0,l,_,h=>by
  cases l with
  |nil=>simp
  |cons x l=>exact absurd (h x (by simp)) ab
 |n+1,l,hn,h=>by
  have h1:=m4 n (l.erase n) (hn.erase _) fun x hx=>by
   have h2:=(hn.mem_erase_iff).1 hx
   have h3:=h x h2.2
   have h4:=h2.1
   omega
  rw[List.length_erase]at h1
  split at h1<;>omega
end Go.Proofs.YtihgaadadaekmaaGreatDoor.V
