/- Slices of one's own that grow from an empty one. -/
import Derived.Test.YtgoelphibofcmaaGreatSqB
import Derived.Test.YtgoelphibofcmaaGreatChecked
import Derived.Test.YtgoelphibofcmaaGreatSqA
set_option linter.unusedVariables false
set_option linter.unusedSimpArgs false
set_option maxRecDepth 100000
set_option maxHeartbeats 16000000
namespace Go.Proofs.YtgoelphibofcmaaGreat.V
open Go.RowKit
variable {P:Program} {X:fF} {K:Env->ar->Prop} {env:Env} {σ:ar}
def mM {α:Type} (enc:α->List AV) (sz:Nat) (x:AV) (g:Rows) (S:Id->Prop) (L:List α):Prop:=∃o:Id,S o/\x=.own o 0 L.length/\g o=some ⟨true,sz,L.map enc⟩
section
variable {α:Type} {enc:α->List AV} {sz:Nat} {x:AV} {g g':Rows} {S:Id->Prop} {L L':List α}
theorem mM.cast (h:mM enc sz x g S L) (hL:L'=L):mM enc sz x g S L':=by subst hL;exact h
theorem mM.frame (h:mM enc sz x g S L) (hg:∀o:Id,S o->g' o=g o):mM enc sz x g' S L:=by
 obtain⟨o,h1,h2,h3⟩:=h
 exact⟨o,h1,h2,(hg o h1).trans h3⟩
theorem mM.app (hz:∀a,(enc a).length=sz/\(enc a).all AV.cell=true) (h:mM enc sz x g S L) (id:Id) (hid:S id) (M:List α) (hlen:L.length+M.length<=dH):
  ∃v g',aY g id sz x (M.map enc)=some (v,g')/\mM enc sz v g' S (L++M)/\∀j:Id,¬S j->g' j=g j:=by
 obtain⟨o,h1,rfl,h4⟩:=h
 refine⟨.own id 0 (L.length+(M.map enc).length),bz (cu g o) id ⟨true,sz,L.map enc++M.map enc⟩,?_,⟨id,hid,by simp,by simp[bz]⟩,fun j hj=>?_⟩
 ·have ha:=all_map (l:=M) hz
  simp only[aY,h4,Option.bind_some]
  rw[if_pos ⟨trivial,trivial,by simp,by simpa using hlen,ha⟩]
 ·have e1:¬j=id:=fun h=>hj (h▸hid)
  have e2:¬j=o:=fun h=>hj (h▸h1)
  simp[bz,cu,e1,e2]
theorem O3 {draw:Bool} {o:bd} {r:List bd} {x' y:O} {xv:AV} (M:List α) (ho:o.op=.append sz x' y) (hw:aM o.guard env=true) (hx:cN env x'=xv) (hO:mM enc sz xv σ.get S L)
  (hy:bx σ.get (cN env y)=some (M.map enc)) (hz:∀a,(enc a).length=sz/\(enc a).all AV.cell=true) (hid:S ⟨o.site,σ.next⟩) (hlen:L.length+M.length<=dH)
  (next:∀v g',mM enc sz v g' S (L++M)->(∀j:Id,¬S j->g' j=σ.get j)->wpOps X draw r K (upd env o.dst v) ⟨g',σ.next⟩):wpOps X draw (o::r) K env σ:=by
 obtain⟨v,g',h1,h2,h3⟩:=hO.app hz ⟨o.site,σ.next⟩ hid M hlen
 unfold wpOps
 rw[if_pos hw]
 unfold fM
 simp only[ho,gp,hy,hx,Option.bind_some,h1]
 exact next v g' h2 h3
theorem mM.gu {n:Nat} (h:mM enc sz x g S L) (he:∀a,ea g n (enc a)=some (enc a)):gu g (n+1) x=some (.sl (L.map enc)):=by
 obtain⟨o,_,rfl,h3⟩:=h
 exact fD h3 rfl he
end
theorem cr {a b:Id} (h:a.bP<b.bP):(a=b)=False/\(b=a)=False:=by
 constructor<;>(simp only[eq_iff_iff,iff_false];rintro rfl;omega)
theorem Ac {o:Id} {a:Nat} (h:o.site=a) {b v:Nat} (qv:(a==b)=false):(o=⟨b,v⟩)=False:=by
 simp only[eq_iff_iff,iff_false]
 rintro rfl
 simp only at h
 subst h
 simp at qv
def eN (n:Nat):List AV:=[.int .i64 n]
theorem fzN (g:Rows) (n:Nat) (a:Nat):cP g (n+1) (eN a)=some (eN a):=by simp[eN,ai,aj,aH]
theorem NA (g:Rows) (n:Nat) (a:Nat):ea g (n+1) (eN a)=some (eN a):=by simp[eN,bD,cE,eM]
def Pq:Cy (List Nat):=fun g cs x ids=>∃id,cs=[.own id 0 x.length]/\g id=some ⟨true,1,x.map eN⟩/\ids=[id]
theorem LD:xh Pq 1 where
 frame:=fun⟨id,h1,h2,h3⟩ hf=>by subst h3;exact⟨id,h1,(hf id (by simp)).trans h2,rfl⟩
 len:=fun⟨id,h1,_⟩=>by subst h1;rfl
 cell:=fun⟨id,h1,_⟩=>by subst h1;rfl
 live:=fun⟨id,h1,h2,h3⟩ i hi=>by
  subst h3
  have:i=id:=by simpa using hi
  subst this
  exact⟨_,h2,rfl,by simp[rN]⟩
 small:=by simp[rN]
def AA (l:List Nat):List AV:=[.sl (l.map eN)]
theorem Ja {g:Rows} {rows:List (List AV)} {xs:List (List Nat)} {ids:List Id} (n:Nat) (h:eH Pq g rows xs ids):ib g (n+2) rows=some (xs.map AA):=by
 induction h with
 |nil=>rw[ib];rfl
 |cons h1 _ ih=>
  obtain⟨id,rfl,h2,_⟩:=h1
  rw[ib,ih,bD,cE,fD (e:=eN) (sz:=1) h2 rfl fun a=>NA g n a];rfl
end Go.Proofs.YtgoelphibofcmaaGreat.V

namespace Go.Proofs.YtgoelphibofcmaaGreat.V
open Go.RowKit
attribute [local irreducible] dI wpOps gD Call
attribute [local go_sem] aM fM eP gp gm cN upd cD K.av cR AV.cells AV.cell rowOf rowsOf part ld rowAt bz cu dG ef ik bQ dh eA gj e9 dq ek dd dc dU dV bW bf cW bV cY cX ei eo ej cV ck de eh bU aT da cG ij bx cQ b4 aY dn bc dH AV.undef bF bI eb ee dP dM cJ ez eE cF er ep cZ db List.getD_cons_zero List.getD_cons_succ List.getD_nil List.all_cons List.all_nil Bool.and_true Bool.true_and Bool.and_self Bool.not_true Bool.not_false Option.map_some Option.map_none Option.bind_some Option.bind_none List.length_cons List.length_nil List.take_succ_cons List.take_zero List.take_nil List.drop_succ_cons List.drop_zero List.drop_nil List.head?_cons List.map_cons List.map_nil List.getElem?_cons_zero List.getElem?_cons_succ List.cons_append List.nil_append List.append_nil List.length_map List.set_cons_zero List.set_cons_succ Nat.reduceMul eq_self Int.toNat_natCast Int.natCast_nonneg and_self true_and and_true decide_true decide_false Bool.false_eq_true Nat.zero_add Nat.add_zero List.contains_cons List.contains_nil Bool.or_false Bool.false_or beq_self_eq_true Nat.reduceBEq ne_eq not_true_eq_false not_false_eq_true Id.mk.injEq false_and and_false Nat.reduceLT Int.reduceLE Int.reduceLT Int.reduceToNat Int.reduceNeg Int.reduceAdd Nat.le_refl List.length_append beq_true beq_false Bool.not_eq_eq_eq_not or_false false_or dO ai aj aH bp bE cz aX bl aW bj cU bH
variable {P:Program}
def KE {α:Type} (R:Cy α) (x:α) (σ:ar) (r:AV) (σ':ar):Prop:=∃cs ids,r=.agg cs/\R σ'.get cs x ids/\gC σ.next σ'.next ids/\Kept σ σ'
def iD {α:Type} (R:Cy α) (z:Nat) (g:Rows) (a:AV) (xs:List α) (ids:List Id):Prop:=∃o rows is,a=.own o 0 xs.length/\g o=some ⟨true,z,rows⟩/\eH R g rows xs is/\ids=o::is
def KF {α:Type} (R:Cy α) (z:Nat) (xs:List α) (σ:ar) (r:AV) (σ':ar):Prop:=∃ids,iD R z σ'.get r xs ids/\gC σ.next σ'.next ids/\Kept σ σ'
theorem iD.frame {α:Type} {R:Cy α} {z:Nat} {g g':Rows} {a:AV} {xs:List α} {ids:List Id} (ok:xh R z) (h:iD R z g a xs ids) (hf:∀i∈ids,g' i=g i):iD R z g' a xs ids:=by
 obtain⟨o,rows,is,h1,h2,h3,rfl⟩:=h
 exact⟨o,rows,is,h1,(hf o (by simp)).trans h2,h3.frame ok fun i hi=>hf i (by simp[hi]),rfl⟩
theorem iD.fz {α:Type} {R:Cy α} {z n:Nat} {e:α->List AV} {g:Rows} {a:AV} {xs:List α} {ids:List Id} (h:iD R z g a xs ids) (hz:∀{cs x ids},R g cs x ids->cP (dO g) n cs=some (e x)):V.fz (dO g) (n+1) a=some (.sl (xs.map e)):=by
 obtain⟨o,rows,is,rfl,h2,h3,rfl⟩:=h
 rw[iw]
 simp only[dO,h2,Option.map_some,if_true]
 rw[if_pos (by rw[h3.len];omega),List.drop_zero,List.take_of_length_le (by rw[h3.len];exact Nat.le_refl _),h3.fz hz];rfl
def lr {α:Type} (e:α->List AV):Cy α:=fun _ cs x ids=>cs=e x/\ids=[]
theorem Ie {α:Type} {e:α->List AV} {z:Nat} (hz:∀x,(e x).length=z) (hc:∀x,(e x).all AV.cell=true) (hs:z<rN):xh (lr e) z where
 frame:=fun h _=>h
 len:=fun h=>by rw[h.1];exact hz _
 cell:=fun h=>by rw[h.1];exact hc _
 live:=fun h i hi=>by rw[h.2]at hi;cases hi
 small:=hs
def oj:Cy eR:=fun g cs t ids=>∃i,cs=[.str t.aC,.own i 0 t.br.length]/\g i=some ⟨true,1,t.br.map bq⟩/\ids=[i]
theorem qM:xh oj 2 where
 frame:=fun⟨i,h1,h2,h3⟩ hf=>⟨i,h1,(hf i (by rw[h3];simp)).trans h2,h3⟩
 len:=fun⟨i,h1,_⟩=>by rw[h1];rfl
 cell:=fun⟨i,h1,_⟩=>by rw[h1];rfl
 live:=fun⟨i,h1,h2,h3⟩ j hj=>by
  rw[h3]at hj
  have:j=i:=by simpa using hj
  subst this
  exact⟨_,h2,rfl,by simp[rN]⟩
 small:=by simp[rN]
theorem Mb {g:Rows} {cs:List AV} {t:eR} {ids:List Id} (n:Nat) (h:oj g cs t ids):cP (dO g) (n+2) cs=some (bB t):=by
 obtain⟨i,rfl,h2,_⟩:=h
 have h3:V.fz (dO g) (n+2) (.own i 0 t.br.length)=some (.sl (t.br.map bq)):=gP (e:=bq) (sz:=1) (by simp[dO,h2]) rfl fun x=>by simp[bq,ai,aj,aH]
 simp only[ai,aj,bE,h3,Option.map_some,bB]
theorem L4 {α:Type} {a b:List α} {x y:α} {k:Nat} (hk:a.length=k):(a++x::b).set k y=a++[y]++b:=by subst hk;simp
theorem Al {α:Type} {R:Cy α} {en:α->List AV} {z fk gk:Nat} {zero:List K} (ok:xh R z) (hc:l5 P fk=some (tW fk gk z zero)) (Hr:zero.length=z) (hz:∀x,(en x).length=z) (xs:List α) (hlen:xs.length<=1048576)
  (hg:∀x∈xs,∀σ,Call P gk [.agg (en x)] σ (KE R x σ)) (σ:ar):Call P fk [.sl (xs.map en)] σ (KF R z xs σ):=by
 refine eT hc rfl fun hl=>?_
 try simp only[q]
 clear hl
 have hm:(xs.length:Int)<=((16777216:Nat):Int):=by omega
 have h0:(0:Int)<=(xs.length:Int):=by omega
 (try((repeat(revert hN;revert N;apply Pn.out));refine wk (tw @hm (tw @h0 (tw @Int.le_refl @Hr))) ?_;(repeat(refine Pn.mk ?_;intro N hN))))
 refine aV (fun n env st=>∃k:Nat,n=(xs.length)-k/\k<=(xs.length)/\env 4=.int .i64 (k:Int)/\(σ.next+2<=st.next/\(∀y:Id,y.bP<σ.next->st.get y=σ.get y)/\∃rows is,st.get ⟨fk*1000000+1002,σ.next+1⟩=some ⟨true,z,rows++List.replicate (xs.length-k) (zero.map K.av)⟩/\eH R st.get rows (xs.take k) is/\gC (σ.next+2) st.next is)) (xs.length) ⟨0,by omega,by omega,sl @Nat.zero_add,by(try dsimp only);exact⟨by omega,fun y hy=>by
  have h1:=dw hy
  simp only[go_sem, ↓reduceIte,Nat.reduceEqDiff,Nat.reduceAdd,Nat.reduceSub,Nat.reduceLeDiff,reduceCtorEq,h1],[],[],sl @Nat.zero_add,.nil,List.nodup_nil,fun i hi=>by cases hi⟩⟩ ?_
 rintro n_a env_a st_a ⟨k,rfl,ale,a4,lQ⟩ dD
 have a0:=dD 0 (by kernel_rfl);have a3:=dD 3 (by kernel_rfl)
 simp only[go_sem, ↓reduceIte,Nat.reduceEqDiff,Nat.reduceAdd,Nat.reduceSub,Nat.reduceLeDiff,reduceCtorEq]at a0 a3
 clear dD
 obtain⟨an,aK,rows,is,ag,aR,aN⟩:=lQ
 have sn:rows.length=k:=by rw[aR.len,List.length_take];omega
 by_cases hk:(k:Int)<(xs.length:Int)
 ·have cC:∀{e:Env} {gg:Rows} {nx:Nat},(e 4=.int .i64 (IntKind.i64.wrap ((k:Int)+1)))->(σ.next+2<=nx/\(∀y:Id,y.bP<σ.next->gg y=σ.get y)/\∃rows is,gg ⟨fk*1000000+1002,σ.next+1⟩=some ⟨true,z,rows++List.replicate (xs.length-(k+1)) (zero.map K.av)⟩/\eH R gg rows (xs.take (k+1)) is/\gC (σ.next+2) nx is)->∃m0,m0<(xs.length)-k/\∃k:Nat,m0=(xs.length)-k/\k<=(xs.length)/\e 4=.int .i64 (k:Int)/\(σ.next+2<=nx/\(∀y:Id,y.bP<σ.next->gg y=σ.get y)/\∃rows is,gg ⟨fk*1000000+1002,σ.next+1⟩=some ⟨true,z,rows++List.replicate (xs.length-k) (zero.map K.av)⟩/\eH R gg rows (xs.take k) is/\gC (σ.next+2) nx is):=fun x1 x2=>⟨_,by omega,k+1,rfl,by omega,(by rw[x1,az (by omega)]),x2⟩
  have fy:k<xs.length:=by omega
  have eQ:(xs.map en)[k]? =some (en xs[k]):=by simp[fy]
  have tJ:=hz xs[k]
  have ht:(en xs[k]).take z=en xs[k]:=by rw[<-tJ,List.take_length]
  have im:=hg _ (List.getElem_mem fy)
  obtain⟨m,Hm⟩:∃m,xs.length-k=m+1:=⟨xs.length-k-1,by omega⟩
  rw[Hm,List.replicate_succ]at ag
  generalize hex:en xs[k]=c at im eQ tJ ht
  (try((repeat(revert hN;revert N;apply Pn.out));refine wk (tw @a4 (tw @a0 (tw @a3 (tw @hk (tw @eQ (tw @tJ (tw @ht @Nat.le_refl))))))) ?_;(repeat(refine Pn.mk ?_;intro N hN))))
  refine .inr (aJ _ _ _ _ _ (fun r σ1 hq=>?_) (im _))
  obtain⟨cs,ids,rfl,hR,hI,hK⟩:=hq
  obtain⟨g1,x1⟩:=σ1
  (try dsimp only at hR hI hK)
  have AE:=(hK.2 ⟨fk*1000000+1002,σ.next+1⟩ (by(try dsimp only);omega))
  simp only[go_sem, ↓reduceIte,Nat.reduceEqDiff,Nat.reduceAdd,Nat.reduceSub,Nat.reduceLeDiff,reduceCtorEq,ag]at AE
  have mU:=ok.len hR
  have zC:=ok.cell hR
  have fc:(rows++zero.map K.av::List.replicate m (zero.map K.av))[k]? =some (zero.map K.av):=by rw[List.getElem?_append_right (by omega),sn,Nat.sub_self];rfl
  have eC:(rows++zero.map K.av::List.replicate m (zero.map K.av)).set k cs=rows++[cs]++List.replicate m (zero.map K.av):=L4 sn
  have Is:(zero.map K.av).drop z=[]:=List.drop_of_length_le (by simp[Hr])
  have E4:(rows++zero.map K.av::List.replicate m (zero.map K.av)).length=xs.length:=by simp[sn];omega
  refine hN _ _ ?_
  clear hN N
  (try((repeat(revert hN;revert N;apply Pn.out));refine wk (tw @a4 (tw @a0 (tw @a3 (tw @hk (tw @AE (tw @fc (tw @eC (tw @E4 (tw @Is (tw @uZ (tw @mU (tw @zC (tw @Nat.le_refl @Hr))))))))))))) ?_;(repeat(refine Pn.mk ?_;intro N hN))))
  have xw:=hK.1
  have Ko:∀i∈is,(i=⟨fk*1000000+1002,σ.next+1⟩)=False:=fun i hi=>eq_false fun e=>by
   have:=(aN.2 i hi).1
   subst e;(try dsimp only at this);omega
  have F5:∀i∈ids,(i=⟨fk*1000000+1002,σ.next+1⟩)=False:=fun i hi=>eq_false fun e=>by
   have:=(hI.2 i hi).1
   subst e;(try dsimp only at this);omega
  exact cC (sd (tw @a4 (tw @a0 @a3))) (by(try dsimp only at *);exact⟨by omega,fun y hy=>by
   have h1:=dw hy
   have h2:=hK.2 y (by(try dsimp only);omega)
   have h3:=aK y hy
   simp only[go_sem, ↓reduceIte,Nat.reduceEqDiff,Nat.reduceAdd,Nat.reduceSub,Nat.reduceLeDiff,reduceCtorEq]at h2
   simp only[go_sem, ↓reduceIte,Nat.reduceEqDiff,Nat.reduceAdd,Nat.reduceSub,Nat.reduceLeDiff,reduceCtorEq,h1,h2,h3],rows++[cs],is++ids,by
    rw[show xs.length-(k+1)=m by omega]
    simp only[go_sem, ↓reduceIte,Nat.reduceEqDiff,Nat.reduceAdd,Nat.reduceSub,Nat.reduceLeDiff,reduceCtorEq]<;>rfl,by
    rw[List.take_succ_eq_append_getElem fy]
    refine((aR.frame ok fun i hi=>?_).app (.one (ok.frame hR fun i hi=>?_)))
    ·have h1:=Ko i hi
     have h2:=hK.2 i (by(try dsimp only);have:=(aN.2 i hi).2;omega)
     simp only[go_sem, ↓reduceIte,Nat.reduceEqDiff,Nat.reduceAdd,Nat.reduceSub,Nat.reduceLeDiff,reduceCtorEq]at h2
     simp only[go_sem, ↓reduceIte,Nat.reduceEqDiff,Nat.reduceAdd,Nat.reduceSub,Nat.reduceLeDiff,reduceCtorEq,h1,h2]
    ·have h1:=F5 i hi
     simp only[go_sem, ↓reduceIte,Nat.reduceEqDiff,Nat.reduceAdd,Nat.reduceSub,Nat.reduceLeDiff,reduceCtorEq,h1],(aN.app hI (by(try dsimp only);omega) (by omega) (by(try dsimp only);omega)).wide (Nat.le_refl _) (by(try dsimp only);omega)⟩)
 ·(try((repeat(revert hN;revert N;apply Pn.out));refine wk (tw @a4 (tw @a0 (tw @a3 @hk))) ?_;(repeat(refine Pn.mk ?_;intro N hN))))
  have fy:k=xs.length:=by omega
  subst fy
  rw[Nat.sub_self,List.replicate_zero,List.append_nil]at ag
  rw[List.take_length]at aR
  refine fw (.inl rfl) (vs:=[.own ⟨fk*1000000+1002,σ.next+1⟩ 0 xs.length]) (sd (tw @a4 (tw @a0 @a3))) ?_
  exact⟨_,⟨_,rows,is,rfl,ag,aR,rfl⟩,⟨List.nodup_cons.2 ⟨fun hi=>by have:=(aN.2 _ hi).1;(try dsimp only at this);omega,aN.1⟩,fun i hi=>by
   rcases List.mem_cons.1 hi with rfl|hi
   ·(try dsimp only);omega
   ·have:=aN.2 i hi;(try dsimp only);omega⟩,⟨by(try dsimp only);omega,fun j hj=>aK j hj⟩⟩
end Go.Proofs.YtgoelphibofcmaaGreat.V

namespace Go.Proofs.YtgoelphibofcmaaGreat.V
open Go.RowKit
attribute [local irreducible] dI wpOps gD Call
attribute [local go_sem] aM fM eP gp gm cN upd cD K.av cR AV.cells AV.cell rowOf rowsOf part ld rowAt bz cu dG ef ik bQ dh eA gj e9 dq ek dd dc dU dV bW bf cW bV cY cX ei eo ej cV ck de eh bU aT da cG ij bx cQ b4 aY dn bc dH AV.undef bF bI eb ee dP dM cJ ez eE cF er ep cZ db List.getD_cons_zero List.getD_cons_succ List.getD_nil List.all_cons List.all_nil Bool.and_true Bool.true_and Bool.and_self Bool.not_true Bool.not_false Option.map_some Option.map_none Option.bind_some Option.bind_none List.length_cons List.length_nil List.take_succ_cons List.take_zero List.take_nil List.drop_succ_cons List.drop_zero List.drop_nil List.head?_cons List.map_cons List.map_nil List.getElem?_cons_zero List.getElem?_cons_succ List.cons_append List.nil_append List.append_nil List.length_map List.set_cons_zero List.set_cons_succ Nat.reduceMul eq_self Int.toNat_natCast Int.natCast_nonneg and_self true_and and_true decide_true decide_false Bool.false_eq_true Nat.zero_add Nat.add_zero List.contains_cons List.contains_nil Bool.or_false Bool.false_or beq_self_eq_true Nat.reduceBEq ne_eq not_true_eq_false not_false_eq_true Id.mk.injEq false_and and_false Nat.reduceLT Int.reduceLE Int.reduceLT Int.reduceToNat Int.reduceNeg Int.reduceAdd Nat.le_refl List.length_append beq_true beq_false Bool.not_eq_eq_eq_not or_false false_or dO ai aj aH bp bE cz aX bl aW bj cU bH
theorem iD.kP {α:Type} {R:Cy α} {z:Nat} {g:Rows} {a:AV} {xs:List α} {ids:List Id} (h:iD R z g a xs ids):∃o,a=.own o 0 xs.length:=by
 obtain⟨o,rows,is,rfl,_⟩:=h;exact⟨o,rfl⟩
theorem J3 (xs:List Int) (hlen:xs.length<=1048576) (σ:ar):Call Tryz.prog 195 [.sl (xs.map bq)] σ (fun r σ'=>∃i,r=.own i 0 xs.length/\σ'.get i=some ⟨true,1,xs.map bq⟩/\gC σ.next σ'.next [i]/\Kept σ σ'):=by
 refine eT (show l5 Tryz.prog 195=some (J5 195 (.int .i64 0)) by kernel_rfl) rfl fun hl=>?_
 try simp only[q]
 clear hl
 obtain⟨en,Hi⟩:∃en:Int->List AV,en=bq:=⟨_,rfl⟩
 rw[<-Hi]
 have hm:(xs.length:Int)<=((16777216:Nat):Int):=by omega
 have h0:(0:Int)<=(xs.length:Int):=by omega
 (try((repeat(revert hN;revert N;apply Pn.out));refine wk (tw @hm (tw @h0 (tw @Int.le_refl (ow en [AV.int .i64 0] xs)))) ?_;(repeat(refine Pn.mk ?_;intro N hN))))
 refine aV (fun n env st=>∃k:Nat,n=(xs.length)-k/\k<=(xs.length)/\env 4=.int .i64 (k:Int)/\st.get ⟨195*1000000+1002,σ.next+1⟩=some ⟨true,1,gO en [AV.int .i64 0] xs k⟩/\(σ.next+2<=st.next/\∀y:Id,y.bP<σ.next->st.get y=σ.get y)) (xs.length) ⟨0,by omega,by omega,sl @Nat.zero_add,sl @Nat.zero_add,by(try dsimp only);exact⟨by omega,fun y hy=>by
  have h1:=dw hy
  simp only[go_sem, ↓reduceIte,Nat.reduceEqDiff,Nat.reduceAdd,Nat.reduceSub,Nat.reduceLeDiff,reduceCtorEq,h1]⟩⟩ ?_
 rintro n_a env_a st_a ⟨k,rfl,ale,a4,ag0,lQ⟩ dD
 have a0:=dD 0 (by kernel_rfl);have a3:=dD 3 (by kernel_rfl)
 simp only[go_sem, ↓reduceIte,Nat.reduceEqDiff,Nat.reduceAdd,Nat.reduceSub,Nat.reduceLeDiff,reduceCtorEq]at a0 a3
 clear dD
 obtain⟨an,aK⟩:=lQ
 by_cases hk:(k:Int)<(xs.length:Int)
 ·have cC:∀{e:Env} {gg:Rows} {nx:Nat},(e 4=.int .i64 (IntKind.i64.wrap ((k:Int)+1)))->(gg ⟨195*1000000+1002,σ.next+1⟩=some ⟨true,1,gO en [AV.int .i64 0] xs (k+1)⟩)->(σ.next+2<=nx/\∀y:Id,y.bP<σ.next->gg y=σ.get y)->∃m0,m0<(xs.length)-k/\∃k:Nat,m0=(xs.length)-k/\k<=(xs.length)/\e 4=.int .i64 (k:Int)/\gg ⟨195*1000000+1002,σ.next+1⟩=some ⟨true,1,gO en [AV.int .i64 0] xs k⟩/\(σ.next+2<=nx/\∀y:Id,y.bP<σ.next->gg y=σ.get y):=fun x1 x2 x3=>⟨_,by omega,k+1,rfl,by omega,(by rw[x1,az (by omega)]),x2,x3⟩
  have fy:k<xs.length:=by omega
  have eQ:(xs.map en)[k]? =some [AV.int .i64 xs[k]]:=by simp[fy,Hi,bq]
  have fQ:=qk en [AV.int .i64 0] xs fy
  have eC:=ql en [AV.int .i64 0] xs fy
  rw[show en xs[k]=[AV.int .i64 xs[k]] by rw[Hi];rfl]at eC
  (try((repeat(revert hN;revert N;apply Pn.out));refine wk (tw @a4 (tw @ag0 (tw @a0 (tw @a3 (tw @hk (tw @eQ (tw @fQ @eC))))))) ?_;(repeat(refine Pn.mk ?_;intro N hN))))
  refine cC ?_ ?_ (by(try dsimp only);exact⟨by omega,fun y hy=>by
   have h1:=dw hy
   have h3:=aK y hy
   simp only[go_sem, ↓reduceIte,Nat.reduceEqDiff,Nat.reduceAdd,Nat.reduceSub,Nat.reduceLeDiff,reduceCtorEq,h1,h3]⟩)
  all_goals simp only[go_sem, ↓reduceIte,Nat.reduceEqDiff,Nat.reduceAdd,Nat.reduceSub,Nat.reduceLeDiff,reduceCtorEq,a4,ag0,a0,a3]
 ·(try((repeat(revert hN;revert N;apply Pn.out));refine wk (tw @a4 (tw @ag0 (tw @a0 (tw @a3 @hk)))) ?_;(repeat(refine Pn.mk ?_;intro N hN))))
  have fy:k=xs.length:=by omega
  subst fy
  refine fw (.inl rfl) (vs:=[.own ⟨195*1000000+1002,σ.next+1⟩ 0 xs.length]) (sd (tw @a4 (tw @ag0 (tw @a0 @a3)))) ?_
  rw[qj]at ag0
  exact⟨_,rfl,ag0,⟨List.nodup_cons.2 ⟨by simp,List.nodup_nil⟩,fun i hi=>by
   rw[List.mem_singleton.1 hi];(try dsimp only);omega⟩,⟨by(try dsimp only);omega,fun j hj=>aK j hj⟩⟩
theorem J6 (p:eR) (hs:su p) (σ:ar):Call Tryz.prog 162 [.agg (bB p)] σ (KE oj p σ):=by
 refine eT eB rfl fun hl=>?_
 clear hl
 (try((repeat(revert hN;revert N;apply Pn.out));refine wk @bB.eq_1 ?_;(repeat(refine Pn.mk ?_;intro N hN))))
 refine .inr (aJ _ _ _ _ _ (fun r σ1 hq=>?_) (J3 p.br hs _))
 obtain⟨i,rfl,hg,hI,hK⟩:=hq
 obtain⟨g1,x1⟩:=σ1
 (try dsimp only at hg hI hK)
 have hn:=hK.1
 refine hN _ _ ?_
 clear hN N
 have hi:=hI.2 i (by simp)
 have k2:=hK.2 ⟨162000001,σ.next⟩ (by(try dsimp only);omega)
 have k3:=hK.2 ⟨162001000,σ.next+1⟩ (by(try dsimp only);omega)
 simp only[go_sem, ↓reduceIte,Nat.reduceEqDiff,Nat.reduceAdd,Nat.reduceSub,Nat.reduceLeDiff,reduceCtorEq]at k2 k3
 (try((repeat(revert hN;revert N;apply Pn.out));refine wk (tw @bB.eq_1 (tw @k2 @k3)) ?_;(repeat(refine Pn.mk ?_;intro N hN))))
 refine fw (.inl rfl) (vs:=[.agg [.str p.aC,.own i 0 p.br.length]]) (sd @Nat.zero_add) ?_
 refine⟨_,[i],rfl,⟨i,rfl,?_,rfl⟩,⟨hI.1,fun j hj=>?_⟩,⟨?_,fun j hj=>?_⟩⟩
 ·have i2:=cr (b:=i) (a:=⟨162000001,σ.next⟩) (by(try dsimp only at *);omega)
  have i3:=cr (b:=i) (a:=⟨162001000,σ.next+1⟩) (by(try dsimp only at *);omega)
  simp only[go_sem, ↓reduceIte,Nat.reduceEqDiff,Nat.reduceAdd,Nat.reduceSub,Nat.reduceLeDiff,reduceCtorEq,i2,i3,hg]
 ·rw[List.mem_singleton.1 hj]
  (try dsimp only at *);omega
 ·(try dsimp only at *);omega
 ·have h2:=hK.2 j (by(try dsimp only);omega)
  have h1:=dw hj
  simp only[go_sem, ↓reduceIte,Nat.reduceEqDiff,Nat.reduceAdd,Nat.reduceSub,Nat.reduceLeDiff,reduceCtorEq,h1]at h2
  simp only[go_sem, ↓reduceIte,Nat.reduceEqDiff,Nat.reduceAdd,Nat.reduceSub,Nat.reduceLeDiff,reduceCtorEq,h1,h2]
theorem Bf:xh (lr bG) 2:=Ie (fun _=>rfl) (fun _=>rfl) (by simp[rN])
theorem ya:xh (lr aa) 3:=Ie (fun _=>rfl) (fun _=>rfl) (by simp[rN])
theorem J1 (p:fA) (σ:ar):Call Tryz.prog 161 [.agg (bG p)] σ (KE (lr bG) p σ):=by
 refine eT eB rfl fun hl=>?_
 clear hl
 (try((repeat(revert hN;revert N;apply Pn.out));refine wk @bG.eq_1 ?_;(repeat(refine Pn.mk ?_;intro N hN))))
 refine fw (.inl rfl) (vs:=[.agg (bG p)]) (sd @bG.eq_1) ?_
 exact⟨_,[],rfl,⟨rfl,rfl⟩,⟨List.nodup_nil,fun i hi=>by cases hi⟩,⟨by(try dsimp only);omega,fun j hj=>by
  have h1:=dw hj
  simp only[go_sem, ↓reduceIte,Nat.reduceEqDiff,Nat.reduceAdd,Nat.reduceSub,Nat.reduceLeDiff,reduceCtorEq,h1]⟩⟩
theorem El (p:ad) (σ:ar):Call Tryz.prog 104 [.agg (aa p)] σ (KE (lr aa) p σ):=by
 refine eT eB rfl fun hl=>?_
 clear hl
 have h:=yZ p.aO
 rw[ae]at h
 (repeat(first|((repeat(revert hN;revert N;apply Pn.out));refine wk @aa.eq_1 ?_;(repeat(refine Pn.mk ?_;intro N hN)))|((try apply Or.inl);refine⟨_,kd.x (h) _,?_⟩;refine hN _ _ ?_;clear hN N)))
 refine fw (.inl rfl) (vs:=[.agg (aa p)]) (sd @aa.eq_1) ?_
 exact⟨_,[],rfl,⟨rfl,rfl⟩,⟨List.nodup_nil,fun i hi=>by cases hi⟩,⟨by(try dsimp only);omega,fun j hj=>by
  have h1:=dw hj
  simp only[go_sem, ↓reduceIte,Nat.reduceEqDiff,Nat.reduceAdd,Nat.reduceSub,Nat.reduceLeDiff,reduceCtorEq,h1]⟩⟩
theorem G7 (xs:List fA) (h:xs.length<=1048576) (σ:ar):Call Tryz.prog 102 [.sl (xs.map bG)] σ (KF (lr bG) 2 xs σ):=
 Al Bf (show l5 Tryz.prog 102=some (tW 102 161 2 [.str [],.int .i64 0]) by kernel_rfl) rfl (fun _=>rfl) xs h (fun x _ σ=>J1 x σ) σ
theorem G9 (xs:List eR) (h:xs.length<=1048576) (hs:∀t∈xs,su t) (σ:ar):Call Tryz.prog 103 [.sl (xs.map bB)] σ (KF oj 2 xs σ):=
 Al qM (show l5 Tryz.prog 103=some (tW 103 162 2 [.str [],.cq]) by kernel_rfl) rfl (fun _=>rfl) xs h (fun x hx σ=>J6 x (hs x hx) σ) σ
theorem Cp (xs:List ad) (h:xs.length<=1048576) (σ:ar):Call Tryz.prog 62 [.sl (xs.map aa)] σ (KF (lr aa) 3 xs σ):=
 Al ya (show l5 Tryz.prog 62=some (tW 62 104 3 [.int .i64 0,.int .i64 0,.int .i64 0]) by kernel_rfl) rfl (fun _=>rfl) xs h (fun x _ σ=>El x σ) σ
def xg (g:Rows) (v:AV) (a:dL) (ids:List Id):Prop:=∃x,v=.agg [x]/\iD (lr aa) 3 g x a.ah ids
structure zb (g:Rows) (v:AV) (s:aA) (ids:List Id):Prop where
 ex:∃a b c i1 i2 i3,v=.agg [a,b,c,.int .i64 s.aB]/\iD (lr bG) 2 g a s.aE.ax i1/\iD oj 2 g b s.aE.ah i2/\iD (lr aa) 3 g c s.aZ.ah i3/\ids=i1++(i2++i3)
theorem xg.frame {g g':Rows} {v:AV} {a:dL} {ids:List Id} (h:xg g v a ids) (hf:∀i∈ids,g' i=g i):xg g' v a ids:=by
 obtain⟨x,h1,h2⟩:=h
 exact⟨x,h1,h2.frame ya hf⟩
theorem zb.frame {g g':Rows} {v:AV} {s:aA} {ids:List Id} (h:zb g v s ids) (hf:∀i∈ids,g' i=g i):zb g' v s ids:=by
 obtain⟨a,b,c,i1,i2,i3,h1,h2,h3,h4,rfl⟩:=h.ex
 exact⟨a,b,c,i1,i2,i3,h1,h2.frame Bf fun i hi=>hf i (by simp[hi]),h3.frame qM fun i hi=>hf i (by simp[hi]),h4.frame ya fun i hi=>hf i (by simp[hi]),rfl⟩
theorem xg.fz {g:Rows} {v:AV} {a:dL} {ids:List Id} (n:Nat) (h:xg g v a ids):V.fz (dO g) (n+4) v=some (.agg (aP a)):=by
 obtain⟨x,rfl,h2⟩:=h
 have h3:=h2.fz (n:=n+2) (e:=aa) fun hc=>by rw[hc.1];simp[aa,ai,aj,aH]
 simp only[bl,ai,aj,h3,Option.map_some,aP]
theorem zb.fz {g:Rows} {v:AV} {s:aA} {ids:List Id} (n:Nat) (h:zb g v s ids):V.fz (dO g) (n+5) v=some (.agg (aw s)):=by
 obtain⟨a,b,c,i1,i2,i3,rfl,h2,h3,h4,rfl⟩:=h.ex
 have q1:=h2.fz (n:=n+3) (e:=bG) fun hc=>by rw[hc.1];simp[bG,ai,aj,aH,bE]
 have q2:=h3.fz (n:=n+3) (e:=bB) fun hc=>Mb (n+1) hc
 have q3:=h4.fz (n:=n+3) (e:=aa) fun hc=>by rw[hc.1];simp[aa,ai,aj,aH]
 simp only[bl,ai,aj,q1,q2,q3,aH,Option.map_some,aw]
theorem r8 (p:dL) (hs:p.ah.length<=1048576) (σ:ar):Call Tryz.prog 18 [.agg (aP p)] σ (fun r σ'=>∃ids,xg σ'.get r p ids/\gC σ.next σ'.next ids/\Kept σ σ'):=by
 refine eT eB rfl fun hl=>?_
 clear hl
 (try((repeat(revert hN;revert N;apply Pn.out));refine wk @aP.eq_1 ?_;(repeat(refine Pn.mk ?_;intro N hN))))
 refine .inr (aJ _ _ _ _ _ (fun r σ1 hq=>?_) (Cp p.ah hs _))
 obtain⟨ids,hR,hI,hK⟩:=hq
 obtain⟨g1,x1⟩:=σ1
 (try dsimp only at hR hI hK)
 have hn:=hK.1
 obtain⟨o,rows,is,rfl,hg,TB,rfl⟩:=hR
 refine hN _ _ ?_
 clear hN N
 have k2:=hK.2 ⟨18000001,σ.next⟩ (by(try dsimp only);omega)
 have k3:=hK.2 ⟨18001000,σ.next+1⟩ (by(try dsimp only);omega)
 simp only[go_sem, ↓reduceIte,Nat.reduceEqDiff,Nat.reduceAdd,Nat.reduceSub,Nat.reduceLeDiff,reduceCtorEq]at k2 k3
 (try((repeat(revert hN;revert N;apply Pn.out));refine wk (tw @aP.eq_1 (tw @k2 @k3)) ?_;(repeat(refine Pn.mk ?_;intro N hN))))
 refine fw (.inl rfl) (vs:=[.agg [.own o 0 p.ah.length]]) (sd @Nat.zero_add) ?_
 have hb:=hI.2
 (try dsimp only at hb hn)
 refine⟨_,⟨_,rfl,iD.frame ya ⟨o,rows,is,rfl,hg,TB,rfl⟩ fun j hj=>?_⟩,⟨hI.1,fun j hj=>?_⟩,⟨?_,fun j hj=>?_⟩⟩
 ·have T9:=hb j hj
  have i2:=cr (b:=j) (a:=⟨18000001,σ.next⟩) (by(try dsimp only);omega)
  have i3:=cr (b:=j) (a:=⟨18001000,σ.next+1⟩) (by(try dsimp only);omega)
  simp only[go_sem, ↓reduceIte,Nat.reduceEqDiff,Nat.reduceAdd,Nat.reduceSub,Nat.reduceLeDiff,reduceCtorEq,i2,i3]
 ·have:=hb j hj
  (try dsimp only);omega
 ·(try dsimp only);omega
 ·have h2:=hK.2 j (by(try dsimp only);omega)
  have h1:=dw hj
  simp only[go_sem, ↓reduceIte,Nat.reduceEqDiff,Nat.reduceAdd,Nat.reduceSub,Nat.reduceLeDiff,reduceCtorEq,h1]at h2
  simp only[go_sem, ↓reduceIte,Nat.reduceEqDiff,Nat.reduceAdd,Nat.reduceSub,Nat.reduceLeDiff,reduceCtorEq,h1,h2]
theorem Cr (p:au) (hs:HE p) (σ:ar):Call Tryz.prog 61 [.agg (ab p)] σ (fun r σ'=>∃a b i1 i2,r=.agg [a,b]/\iD (lr bG) 2 σ'.get a p.ax i1/\iD oj 2 σ'.get b p.ah i2/\gC σ.next σ'.next (i1++i2)/\Kept σ σ'):=by
 refine eT eB rfl fun hl=>?_
 clear hl
 (try((repeat(revert hN;revert N;apply Pn.out));refine wk @ab.eq_1 ?_;(repeat(refine Pn.mk ?_;intro N hN))))
 refine .inr (aJ _ _ _ _ _ (fun r σ1 hq=>?_) (G7 p.ax hs.g _))
 obtain⟨i1,hR,hI,hK⟩:=hq
 obtain⟨g1,x1⟩:=σ1
 (try dsimp only at hR hI hK)
 have hn:=hK.1
 obtain⟨o,rows,is,rfl,hg,TB,rfl⟩:=hR
 have hb:=hI.2
 (try dsimp only at hb hn)
 refine hN _ _ ?_
 clear hN N
 have k1:=hK.2 ⟨61000000,σ.next⟩ (by(try dsimp only);omega)
 have k2:=hK.2 ⟨61000001,σ.next⟩ (by(try dsimp only);omega)
 have k3:=hK.2 ⟨61001000,σ.next+1⟩ (by(try dsimp only);omega)
 simp only[go_sem, ↓reduceIte,Nat.reduceEqDiff,Nat.reduceAdd,Nat.reduceSub,Nat.reduceLeDiff,reduceCtorEq]at k1 k2 k3
 (try((repeat(revert hN;revert N;apply Pn.out));refine wk (tw @ab.eq_1 (tw @k1 (tw @k2 @k3))) ?_;(repeat(refine Pn.mk ?_;intro N hN))))
 refine .inr (aJ _ _ _ _ _ (fun r σ2 hq=>?_) (G9 p.ah hs.t hs.s _))
 obtain⟨i2,hS,hJ,hL⟩:=hq
 obtain⟨g2,x2⟩:=σ2
 (try dsimp only at hS hJ hL)
 have Le:=hL.1
 obtain⟨o2,MU,is2,rfl,QF,hS',rfl⟩:=hS
 have hc:=hJ.2
 (try dsimp only at hc Le)
 refine hN _ _ ?_
 clear hN N
 have l2:=hL.2 ⟨61000001,σ.next⟩ (by(try dsimp only);omega)
 have l3:=hL.2 ⟨61001000,σ.next+1⟩ (by(try dsimp only);omega)
 simp only[go_sem, ↓reduceIte,Nat.reduceEqDiff,Nat.reduceAdd,Nat.reduceSub,Nat.reduceLeDiff,reduceCtorEq,k2,k3]at l2 l3
 (try((repeat(revert hN;revert N;apply Pn.out));refine wk (tw @ab.eq_1 (tw @l2 @l3)) ?_;(repeat(refine Pn.mk ?_;intro N hN))))
 refine fw (.inl rfl) (vs:=[.agg [.own o 0 p.ax.length,.own o2 0 p.ah.length]]) (sd @Nat.zero_add) ?_
 have fr:∀x:Id,σ.next+2<=x.bP->(x=⟨61000001,σ.next⟩)=False/\(x=⟨61001000,σ.next+1⟩)=False:=fun x hx=>⟨(cr (a:=⟨61000001,σ.next⟩) (b:=x) (by(try dsimp only);omega)).2,(cr (a:=⟨61001000,σ.next+1⟩) (b:=x) (by(try dsimp only);omega)).2⟩
 refine⟨_,_,_,_,rfl,iD.frame (g:=g1) Bf ⟨o,rows,is,rfl,hg,TB,rfl⟩ fun i hi=>?_,iD.frame (g:=g2) qM ⟨o2,MU,is2,rfl,QF,hS',rfl⟩ fun i hi=>?_,?_,⟨by(try dsimp only);omega,fun j hj=>?_⟩⟩
 ·have h1:=hb i hi
  have h2:=hL.2 i (by(try dsimp only);omega)
  have h3:=fr i (by omega)
  simp only[go_sem, ↓reduceIte,Nat.reduceEqDiff,Nat.reduceAdd,Nat.reduceSub,Nat.reduceLeDiff,reduceCtorEq,h3]at h2
  simp only[go_sem, ↓reduceIte,Nat.reduceEqDiff,Nat.reduceAdd,Nat.reduceSub,Nat.reduceLeDiff,reduceCtorEq,h2,h3]
 ·have h1:=hc i hi
  have h3:=fr i (by omega)
  simp only[go_sem, ↓reduceIte,Nat.reduceEqDiff,Nat.reduceAdd,Nat.reduceSub,Nat.reduceLeDiff,reduceCtorEq,h3]
 ·(try dsimp only at *)
  exact(hI.app hJ (by omega) (by omega) (by omega)).wide (by omega) (by omega)
 ·have h1:=dw hj
  have h2:=hL.2 j (by(try dsimp only);omega)
  have h3:=hK.2 j (by(try dsimp only);omega)
  simp only[go_sem, ↓reduceIte,Nat.reduceEqDiff,Nat.reduceAdd,Nat.reduceSub,Nat.reduceLeDiff,reduceCtorEq,h1]at h2 h3
  simp only[go_sem, ↓reduceIte,Nat.reduceEqDiff,Nat.reduceAdd,Nat.reduceSub,Nat.reduceLeDiff,reduceCtorEq,h1,h2,h3]
theorem Eo (p:aA) (hs:qT p) (σ:ar):Call Tryz.prog 17 [.agg (aw p)] σ (fun r σ'=>∃ids,zb σ'.get r p ids/\gC σ.next σ'.next ids/\Kept σ σ'):=by
 refine eT eB rfl fun hl=>?_
 clear hl
 have t1:=fun σ=>Cr p.aE hs.s σ
 have t2:=fun σ=>r8 p.aZ hs.a σ
 rw[ab]at t1
 rw[aP]at t2
 (try((repeat(revert hN;revert N;apply Pn.out));refine wk @aw.eq_1 ?_;(repeat(refine Pn.mk ?_;intro N hN))))
 refine .inr (aJ _ _ _ _ _ (fun r σ1 hq=>?_) (t1 _))
 obtain⟨a,b,i1,i2,rfl,hA,hB,hI,hK⟩:=hq
 obtain⟨g1,x1⟩:=σ1
 (try dsimp only at hA hB hI hK)
 have hn:=hK.1
 have hb:=hI.2
 (try dsimp only at hb hn)
 refine hN _ _ ?_
 clear hN N
 have k1:=hK.2 ⟨17000000,σ.next⟩ (by(try dsimp only);omega)
 have k2:=hK.2 ⟨17000001,σ.next⟩ (by(try dsimp only);omega)
 have k3:=hK.2 ⟨17001000,σ.next+1⟩ (by(try dsimp only);omega)
 simp only[go_sem, ↓reduceIte,Nat.reduceEqDiff,Nat.reduceAdd,Nat.reduceSub,Nat.reduceLeDiff,reduceCtorEq]at k1 k2 k3
 obtain⟨oa,rfl⟩:=hA.kP
 obtain⟨ob,rfl⟩:=hB.kP
 (try((repeat(revert hN;revert N;apply Pn.out));refine wk (tw @aw.eq_1 (tw @k1 (tw @k2 @k3))) ?_;(repeat(refine Pn.mk ?_;intro N hN))))
 refine .inr (aJ _ _ _ _ _ (fun r σ2 hq=>?_) (t2 _))
 obtain⟨i3,hC,hJ,hL⟩:=hq
 obtain⟨g2,x2⟩:=σ2
 (try dsimp only at hC hJ hL)
 have Le:=hL.1
 have hc:=hJ.2
 (try dsimp only at hc Le)
 obtain⟨c,rfl,hC⟩:=hC
 obtain⟨oc,rfl⟩:=hC.kP
 refine hN _ _ ?_
 clear hN N
 have l1:=hL.2 ⟨17000000,σ.next⟩ (by(try dsimp only);omega)
 have l2:=hL.2 ⟨17000001,σ.next⟩ (by(try dsimp only);omega)
 have l3:=hL.2 ⟨17001000,σ.next+1⟩ (by(try dsimp only);omega)
 simp only[go_sem, ↓reduceIte,Nat.reduceEqDiff,Nat.reduceAdd,Nat.reduceSub,Nat.reduceLeDiff,reduceCtorEq,k1,k2,k3]at l1 l2 l3
 (try((repeat(revert hN;revert N;apply Pn.out));refine wk (tw @aw.eq_1 (tw @l1 (tw @l2 @l3))) ?_;(repeat(refine Pn.mk ?_;intro N hN))))
 refine fw (.inl rfl) (vs:=[.agg [.own oa 0 p.aE.ax.length,.own ob 0 p.aE.ah.length,.own oc 0 p.aZ.ah.length,.int .i64 p.aB]]) (sd @Nat.zero_add) ?_
 have fr:∀x:Id,σ.next+2<=x.bP->(x=⟨17000001,σ.next⟩)=False/\(x=⟨17001000,σ.next+1⟩)=False:=fun x hx=>⟨(cr (a:=⟨17000001,σ.next⟩) (b:=x) (by(try dsimp only);omega)).2,(cr (a:=⟨17001000,σ.next+1⟩) (b:=x) (by(try dsimp only);omega)).2⟩
 have fr2:∀i∈i1++i2,g2 i=g1 i:=fun i hi=>by
  have h1:=hb i hi
  have h2:=hL.2 i (by(try dsimp only);omega)
  have h3:=fr i (by omega)
  simp only[go_sem, ↓reduceIte,Nat.reduceEqDiff,Nat.reduceAdd,Nat.reduceSub,Nat.reduceLeDiff,reduceCtorEq,h3]at h2
  exact h2
 refine⟨i1++(i2++i3),⟨_,_,_,i1,i2,i3,rfl,hA.frame Bf fun i hi=>?_,hB.frame qM fun i hi=>?_,hC.frame ya fun i hi=>?_,rfl⟩,?_,⟨by(try dsimp only);omega,fun j hj=>?_⟩⟩
 ·have h1:=hb i (by simp[hi])
  have h2:=fr2 i (by simp[hi])
  have h3:=fr i (by omega)
  simp only[go_sem, ↓reduceIte,Nat.reduceEqDiff,Nat.reduceAdd,Nat.reduceSub,Nat.reduceLeDiff,reduceCtorEq,h2,h3]
 ·have h1:=hb i (by simp[hi])
  have h2:=fr2 i (by simp[hi])
  have h3:=fr i (by omega)
  simp only[go_sem, ↓reduceIte,Nat.reduceEqDiff,Nat.reduceAdd,Nat.reduceSub,Nat.reduceLeDiff,reduceCtorEq,h2,h3]
 ·have h1:=hc i hi
  have h3:=fr i (by omega)
  simp only[go_sem, ↓reduceIte,Nat.reduceEqDiff,Nat.reduceAdd,Nat.reduceSub,Nat.reduceLeDiff,reduceCtorEq,h3]
 ·(try dsimp only at *)
  rw[<-List.append_assoc]
  exact(hI.app hJ (by omega) (by omega) (by omega)).wide (by omega) (by omega)
 ·have h1:=dw hj
  have h2:=hL.2 j (by(try dsimp only);omega)
  have h3:=hK.2 j (by(try dsimp only);omega)
  simp only[go_sem, ↓reduceIte,Nat.reduceEqDiff,Nat.reduceAdd,Nat.reduceSub,Nat.reduceLeDiff,reduceCtorEq,h1]at h2 h3
  simp only[go_sem, ↓reduceIte,Nat.reduceEqDiff,Nat.reduceAdd,Nat.reduceSub,Nat.reduceLeDiff,reduceCtorEq,h1,h2,h3]
end Go.Proofs.YtgoelphibofcmaaGreat.V

namespace Go.Proofs.YtgoelphibofcmaaGreat
open Go.RowKit
def kR (n:Int):Bool:=(decide (97<=n)&&decide (n<=122))||(decide (65<=n)&&decide (n<=90))
def lh (n:Int):Bool:=decide (48<=n)&&decide (n<=57)
def ua (i:Nat) (n:Int):Prop:=kR n=true∨(0<i/\(lh n=true∨n=95))
def uU (s:ByteArray):Prop:=(1<=s.size/\s.size<=12)/\∀i (h:i<s.size),ua i s[i].toNat
open Classical in
noncomputable def jL (s:ByteArray):Bool:=decide (uU s)
theorem DL {s:ByteArray} (h:uU s):true=jL s:=by simp[jL,h]
theorem dY {s:ByteArray} (h:¬uU s):false=jL s:=by simp[jL,h]
theorem B3 {s:ByteArray} {b:Bool} (hb:b=true) (h:uU s):b=jL s:=by simp[jL,h,hb]
theorem rO {s:ByteArray} {b:Bool} (hb:b=false) (h:¬uU s):b=jL s:=by simp[jL,h,hb]
theorem wh (w:World) (n:Int):Calls Tryz.prog 212 #[.int .u8 n] w fun e w'=>e=.returned (.bool (kR n))/\w=w':=by
 go_enter Tryz.func212,Tryz.ntmps212
 go_wp2_with fail
 all_goals
  go_ret
  exact⟨iE (by unfold kR;simp[*];try omega),rfl⟩
theorem FW (w:World) (n:Int):Calls Tryz.prog 213 #[.int .u8 n] w fun e w'=>e=.returned (.bool (lh n))/\w=w':=by
 go_enter Tryz.func213,Tryz.ntmps213
 go_wp2_with fail
 all_goals
  go_ret
  exact⟨iE (by unfold lh;simp[*];try omega),rfl⟩
theorem Ch (w:World) (s:ByteArray) (hs:s.size<=9223372036854775807):Calls Tryz.prog 189 #[.string s] w fun e w'=>e=.returned (.bool (jL s))/\Below w.heap.size w w':=by
 by_cases h1:1<=s.size
 case neg=>
  go_enter Tryz.func189,Tryz.ntmps189
  go_wp2_with fail
  go_ret
  exact⟨iE (dY fun h=>h1 h.1.1),Below.refl _ _⟩
 by_cases h2:s.size<=12
 case neg=>
  go_enter Tryz.func189,Tryz.ntmps189
  go_wp2_with fail
  go_ret
  exact⟨iE (dY fun h=>h2 h.1.2),Below.refl _ _⟩
 go_enter Tryz.func189,Tryz.ntmps189
 go_wp2_with fail
 refine(wh _ _).mono ?_
 rintro e w' ⟨rfl,rfl⟩
 cases h3:kR s[0].toNat
 ·go_wp2_with fail
  go_ret
  exact⟨iE (dY fun h=>by have:=h.2 0 (by omega);simp only[ua]at this;rw[h3]at this;simp at this),Below.refl _ _⟩
 ·replace h3:=Lib.hid h3
  go_wp2_with fail
  go_loop [3] (fun i=>∃k:Nat,1<=k/\k<=s.size/\i=.int .i64 k/\Hid (∀j (h:j<s.size),j<k->ua j s[j].toNat)) (fun i=>s.size-(intOf i).toNat)
  case atStart=>exact⟨1,by omega,by omega,rfl,Lib.hid fun j h hj=>by
   obtain rfl:j=0:=by omega
   exact .inl h3.out⟩
  case round=>
   obtain⟨k,xf,hk,rfl,dF⟩:=hrel
   by_cases dQ:k<s.size
   ·go_wp2_with fail
    refine(wh _ _).mono ?_
    rintro e w' ⟨rfl,rfl⟩
    have lk:ua k s[k].toNat∨¬ua k s[k].toNat:=Classical.em _
    cases hl:kR s[k].toNat
    ·go_wp2_with fail
     refine(FW _ _).mono ?_
     rintro e w' ⟨rfl,rfl⟩
     cases hd:lh s[k].toNat
     ·by_cases uA:(s[k].toNat:Int)=95
      ·have Tk:((s[k].toNat:Int) !=95)=false:=by simp;omega
       replace uA:=Lib.hid uA
       replace hl:=Lib.hid hl
       replace hd:=Lib.hid hd
       go_wp2_with fail
       go_round
       case rel=>exact⟨k+1,by omega,by omega,by go_num,Lib.hid fun j h hj=>by
        by_cases yi:j=k
        ·subst yi;exact .inr ⟨by omega,.inr uA.out⟩
        ·exact dF.out j h (by omega)⟩
       case measure=>simp[intOf];omega
      ·have Tk:((s[k].toNat:Int) !=95)=true:=by simp;omega
       replace uA:=Lib.hid uA
       replace hl:=Lib.hid hl
       replace hd:=Lib.hid hd
       go_wp2_with fail
       go_ret
       exact⟨iE (dY fun h=>by
        have:=h.2 k dQ;simp only[ua,hl.out,hd.out]at this;exact uA.out (by simp at this;exact this.2)),Below.refl _ _⟩
     ·replace hl:=Lib.hid hl
      replace hd:=Lib.hid hd
      go_wp2_with fail
      go_round
      case rel=>exact⟨k+1,by omega,by omega,by go_num,Lib.hid fun j h hj=>by
       by_cases yi:j=k
       ·subst yi;exact .inr ⟨by omega,.inl hd.out⟩
       ·exact dF.out j h (by omega)⟩
      case measure=>simp[intOf];omega
    ·replace hl:=Lib.hid hl
     go_wp2_with fail
     go_round
     case rel=>exact⟨k+1,by omega,by omega,by go_num,Lib.hid fun j h hj=>by
      by_cases yi:j=k
      ·subst yi;exact .inl hl.out
      ·exact dF.out j h (by omega)⟩
     case measure=>simp[intOf];omega
   ·go_wp2_with fail
    go_ret
    exact⟨iE (DL ⟨⟨h1,h2⟩,fun i h=>dF.out i h (by omega)⟩),Below.refl _ _⟩
theorem BA (w:World) (s:ByteArray) (hs:s.size<=9223372036854775807):Calls Tryz.prog 198 #[.string s] w fun e w'=>e=.returned (.bool (jL s))/\w=w':=by
 go_enter Tryz.func198,Tryz.ntmps198
 go_wp2_with fail
 go_loop [8] (fun i=>∃k:Nat,k<=s.size/\i=.int .i64 k/\Hid (∀j (h:j<s.size),j<k->ua j s[j].toNat)) (fun i=>s.size-(intOf i).toNat)
 case atStart=>exact⟨0,by omega,rfl,Lib.hid fun j h hj=>by omega⟩
 case round=>
  obtain⟨k,hk,rfl,dF⟩:=hrel
  by_cases dQ:k<s.size
  ·have hc:(s[k].toNat:Int)<48∨(48<=(s[k].toNat:Int)/\(s[k].toNat:Int)<=57)∨(58<=(s[k].toNat:Int)/\(s[k].toNat:Int)<=64)∨(65<=(s[k].toNat:Int)/\(s[k].toNat:Int)<=90)∨(91<=(s[k].toNat:Int)/\(s[k].toNat:Int)<=94)∨(95<=(s[k].toNat:Int)/\(s[k].toNat:Int)<=95)∨(96<=(s[k].toNat:Int)/\(s[k].toNat:Int)<=96)∨(97<=(s[k].toNat:Int)/\(s[k].toNat:Int)<=122)∨123<=(s[k].toNat:Int):=by omega
   by_cases xe:k=0
   ·subst xe
    rcases hc with h|⟨h,h'⟩|⟨h,h'⟩|⟨h,h'⟩|⟨h,h'⟩|⟨h,h'⟩|⟨h,h'⟩|⟨h,h'⟩|h
    ·have uA:((s[0].toNat:Int) !=95)=true:=by simp;try omega
     go_wp2_with fail
     all_goals first
      |(go_ret;exact⟨iE (dY fun hh=>by have:=hh.2 0 dQ;simp[ua,kR,lh]at this;omega),rfl⟩)
      |(exfalso;simp_all;done)
      |(exfalso;simp_all;omega)
    ·have uA:((s[0].toNat:Int) !=95)=true:=by simp;try omega
     go_wp2_with fail
     all_goals first
      |(go_ret;exact⟨iE (dY fun hh=>by have:=hh.2 0 dQ;simp[ua,kR,lh]at this;omega),rfl⟩)
      |(exfalso;simp_all;done)
      |(exfalso;simp_all;omega)
    ·have uA:((s[0].toNat:Int) !=95)=true:=by simp;try omega
     go_wp2_with fail
     all_goals first
      |(go_ret;exact⟨iE (dY fun hh=>by have:=hh.2 0 dQ;simp[ua,kR,lh]at this;omega),rfl⟩)
      |(exfalso;simp_all;done)
      |(exfalso;simp_all;omega)
    ·have uA:((s[0].toNat:Int) !=95)=true:=by simp;try omega
     go_wp2_with fail
     go_round
     case rel=>exact⟨0+1,by omega,by go_num,Lib.hid fun j hj yi=>by
      by_cases IA:j=0
      ·subst IA;simp[ua,kR,lh];omega
      ·exact dF.out j hj (by omega)⟩
     case measure=>simp[intOf];try omega
    ·have uA:((s[0].toNat:Int) !=95)=true:=by simp;try omega
     go_wp2_with fail
     all_goals first
      |(go_ret;exact⟨iE (dY fun hh=>by have:=hh.2 0 dQ;simp[ua,kR,lh]at this;omega),rfl⟩)
      |(exfalso;simp_all;done)
      |(exfalso;simp_all;omega)
    ·have uA:((s[0].toNat:Int) !=95)=false:=by simp;try omega
     go_wp2_with fail
     all_goals first
      |(go_ret;exact⟨iE (dY fun hh=>by have:=hh.2 0 dQ;simp[ua,kR,lh]at this;omega),rfl⟩)
      |(exfalso;simp_all;done)
      |(exfalso;simp_all;omega)
    ·have uA:((s[0].toNat:Int) !=95)=true:=by simp;try omega
     go_wp2_with fail
     all_goals first
      |(go_ret;exact⟨iE (dY fun hh=>by have:=hh.2 0 dQ;simp[ua,kR,lh]at this;omega),rfl⟩)
      |(exfalso;simp_all;done)
      |(exfalso;simp_all;omega)
    ·have uA:((s[0].toNat:Int) !=95)=true:=by simp;try omega
     go_wp2_with fail
     go_round
     case rel=>exact⟨0+1,by omega,by go_num,Lib.hid fun j hj yi=>by
      by_cases IA:j=0
      ·subst IA;simp[ua,kR,lh];omega
      ·exact dF.out j hj (by omega)⟩
     case measure=>simp[intOf];try omega
    ·have uA:((s[0].toNat:Int) !=95)=true:=by simp;try omega
     go_wp2_with fail
     all_goals first
      |(go_ret;exact⟨iE (dY fun hh=>by have:=hh.2 0 dQ;simp[ua,kR,lh]at this;omega),rfl⟩)
      |(exfalso;simp_all;done)
      |(exfalso;simp_all;omega)
   ·have hz:((k:Int)==0)=false:=by simpa using xe
    have xf:1<=k:=by omega
    clear xe
    rcases hc with h|⟨h,h'⟩|⟨h,h'⟩|⟨h,h'⟩|⟨h,h'⟩|⟨h,h'⟩|⟨h,h'⟩|⟨h,h'⟩|h
    ·have uA:((s[k].toNat:Int) !=95)=true:=by simp;try omega
     go_wp2_with fail
     all_goals first
      |(go_ret;exact⟨iE (dY fun hh=>by have:=hh.2 k dQ;simp[ua,kR,lh]at this;omega),rfl⟩)
      |(exfalso;simp_all;done)
      |(exfalso;simp_all;omega)
    ·have uA:((s[k].toNat:Int) !=95)=true:=by simp;try omega
     go_wp2_with fail
     go_round
     case rel=>exact⟨k+1,by omega,by go_num,Lib.hid fun j hj yi=>by
      by_cases IA:j=k
      ·subst IA;simp[ua,kR,lh];omega
      ·exact dF.out j hj (by omega)⟩
     case measure=>simp[intOf];try omega
    ·have uA:((s[k].toNat:Int) !=95)=true:=by simp;try omega
     go_wp2_with fail
     all_goals first
      |(go_ret;exact⟨iE (dY fun hh=>by have:=hh.2 k dQ;simp[ua,kR,lh]at this;omega),rfl⟩)
      |(exfalso;simp_all;done)
      |(exfalso;simp_all;omega)
    ·have uA:((s[k].toNat:Int) !=95)=true:=by simp;try omega
     go_wp2_with fail
     go_round
     case rel=>exact⟨k+1,by omega,by go_num,Lib.hid fun j hj yi=>by
      by_cases IA:j=k
      ·subst IA;simp[ua,kR,lh];omega
      ·exact dF.out j hj (by omega)⟩
     case measure=>simp[intOf];try omega
    ·have uA:((s[k].toNat:Int) !=95)=true:=by simp;try omega
     go_wp2_with fail
     all_goals first
      |(go_ret;exact⟨iE (dY fun hh=>by have:=hh.2 k dQ;simp[ua,kR,lh]at this;omega),rfl⟩)
      |(exfalso;simp_all;done)
      |(exfalso;simp_all;omega)
    ·have uA:((s[k].toNat:Int) !=95)=false:=by simp;try omega
     go_wp2_with fail
     go_round
     case rel=>exact⟨k+1,by omega,by go_num,Lib.hid fun j hj yi=>by
      by_cases IA:j=k
      ·subst IA;simp[ua,kR,lh];omega
      ·exact dF.out j hj (by omega)⟩
     case measure=>simp[intOf];try omega
    ·have uA:((s[k].toNat:Int) !=95)=true:=by simp;try omega
     go_wp2_with fail
     all_goals first
      |(go_ret;exact⟨iE (dY fun hh=>by have:=hh.2 k dQ;simp[ua,kR,lh]at this;omega),rfl⟩)
      |(exfalso;simp_all;done)
      |(exfalso;simp_all;omega)
    ·have uA:((s[k].toNat:Int) !=95)=true:=by simp;try omega
     go_wp2_with fail
     go_round
     case rel=>exact⟨k+1,by omega,by go_num,Lib.hid fun j hj yi=>by
      by_cases IA:j=k
      ·subst IA;simp[ua,kR,lh];omega
      ·exact dF.out j hj (by omega)⟩
     case measure=>simp[intOf];try omega
    ·have uA:((s[k].toNat:Int) !=95)=true:=by simp;try omega
     go_wp2_with fail
     all_goals first
      |(go_ret;exact⟨iE (dY fun hh=>by have:=hh.2 k dQ;simp[ua,kR,lh]at this;omega),rfl⟩)
      |(exfalso;simp_all;done)
      |(exfalso;simp_all;omega)
  ·by_cases h1:1<=s.size
   ·by_cases h2:s.size<=12
    ·go_wp2_with fail
     go_ret
     exact⟨iE (B3 (by simp<;>omega) ⟨⟨h1,h2⟩,fun i h=>dF.out i h (by omega)⟩),rfl⟩
    ·go_wp2_with fail
     go_ret
     exact⟨iE (rO (by simp<;>omega) fun h=>h2 h.1.2),rfl⟩
   ·go_wp2_with fail
    go_ret
    exact⟨iE (rO (by simp<;>omega) fun h=>h1 h.1.1),rfl⟩
end Go.Proofs.YtgoelphibofcmaaGreat

namespace Go.Proofs.YtgoelphibofcmaaGreat.V
open Go.RowKit
theorem mixed:Tryz.prog.follows .mixedOrders=true:=by kernel_rfl
variable {P:Program} {w:World} {D:Nat->Prop} {ι:Names}
theorem lU {f:Nat} {args:List AV} {r:AV} {vs0:Array Value} {u0:Value} (nD:∀(w:World) (D:Nat->Prop) (ι:Names) vs,fh P w D ι args vs->vs=vs0) (hr:∀(w:World) (D:Nat->Prop) (ι:Names),cH P w D ι r u0) (CB:∀g,gu g 6 r=some r)
  (h:∀w,Calls P f vs0 w fun e w'=>e=.returned u0/\Below w.heap.size w w'):aq P f args r:=by
 intro n
 refine gM fun hs D ι w vs S U A=>?_
 have:=nD w D ι vs A
 subst this
 refine(h w).mono ?_
 rintro e w' ⟨rfl,hb⟩
 exact⟨r,_,n,D,ι,u0,rfl,⟨r,CB _,rfl⟩,Step.stay S hb.block hb.size hb.os hb.tape hb.output (fun _ h=>h) (fun _ h=>.inl h) (fun _ _ h=>h),
  S.stay hb.block hb.size (fun _ h=>h) (fun b hd=>Nat.lt_of_lt_of_le (S.dead b hd) hb.size) (fun _ h=>.inl h) (fun _ _ h=>h),U,Nat.le_refl _,hr _ _ _⟩
theorem Ce {s:ByteArray} {vs:Array Value} (h:fh P w D ι [.str s] vs):vs= #[.string s]:=by
 obtain⟨h1,h2⟩:=h
 obtain⟨u,hu,hr⟩:=h2 0 _ rfl
 rw[fB hr]at hu
 obtain⟨l⟩:=vs
 cases l with
 |nil=>simp at h1
 |cons a l=>cases l with
  |nil=>simp at hu;subst hu;rfl
  |cons b l=>simp at h1
theorem Fu (s:ByteArray) (hs:s.size<=9223372036854775807):aq Tryz.prog 189 [.str s] (.bool (jL s)):=
 lU (fun _ _ _ _=>Ce) (fun _ _ _=>.eL _ _ (.bool _)) (fun g=>fI g 5 _) fun w=>Ch w s hs
theorem Fe (s:ByteArray) (hs:s.size<=9223372036854775807):aq Tryz.prog 198 [.str s] (.bool (jL s)):=
 lU (fun _ _ _ _=>Ce) (fun _ _ _=>.eL _ _ (.bool _)) (fun g=>fI g 5 _) fun w=>(BA w s hs).mono (by rintro e w' ⟨rfl,rfl⟩;exact⟨rfl,Below.refl _ _⟩)
end Go.Proofs.YtgoelphibofcmaaGreat.V

namespace Go.Proofs.YtgoelphibofcmaaGreat
open Go.RowKit
def ud (n:Nat):List UInt8:=if h:n=0 then[]else ud (n / 10)++[UInt8.ofNat (48+n % 10)]
termination_by n
decreasing_by omega
def oN (k:Int):ByteArray:=if k<=0 then⟨#[109,48]⟩else⟨(109::ud k.toNat).toArray⟩
theorem FX:ud 0=[]:=by unfold ud;simp
theorem HX {n:Nat} (h:n≠0):ud n=ud (n / 10)++[UInt8.ofNat (48+n % 10)]:=by
 conv=>lhs;unfold ud
 rw[dif_neg h]
theorem x7 (c:UInt8) (l:ByteArray):((⟨#[c]⟩++l:ByteArray)).data.toList=c::l.data.toList:=by
 simp[ByteArray.data_append]
theorem A7:∀(m n:Nat),n<10 ^ m->(ud n).length<=m
 |0,n,h=>by
  have:n=0:=by simpa using h
  subst this;simp[ud]
 |m+1,n,h=>by
  unfold ud
  split
  ·simp
  ·have:=A7 m (n / 10) (by rw[Nat.pow_succ]at h;omega)
   simp;omega
theorem zS (w:World) (k:Int) (h0:0<=k) (h1:k<=4611686018427387904):
  Calls Tryz.prog 179 #[.int .i64 k] w fun e w'=>e=.returned (.string (oN k))/\Below w.heap.size w w':=by
 by_cases hk:k<=0
 ·go_enter Tryz.func179,Tryz.ntmps179
  go_wp2_with fail
  go_ret
  exact⟨by simp[oN,hk],Below.refl _ _⟩
 ·go_enter Tryz.func179,Tryz.ntmps179
  go_wp2_with fail
  go_loopw [0,3] (fun a s wr=>∃(j:Int) (l:ByteArray),a=.int .i64 j/\s=.string l/\0<=j/\j<=4611686018427387904/\Hid (ud j.toNat++l.data.toList=ud k.toNat)/\Below w.heap.size w wr) (fun a _ _=>(intOf a).toNat)
  case atStart=>exact⟨k,⟨#[]⟩,rfl,rfl,h0,h1,Lib.hid (by simp),Below.refl _ _⟩
  case round=>
   obtain⟨j,l,rfl,rfl,hj0,hj1,hd,hb⟩:=hrel
   have fS:l.size<=19:=by
    have h1:=congrArg List.length hd.out
    have h2:=A7 19 k.toNat (by omega)
    rw[List.length_append]at h1
    have:l.data.toList.length=l.size:=by rw[Array.length_toList];rfl
    omega
   by_cases hj:0<j
   ·have Si:∀v:Int,(convert 241 9 (.slice (some ⟨wr.heap.size,0,none⟩) 1 1)).run Tryz.prog (wr.alloc (.cells #[.int .u8 v] 5))=.ok (.string ⟨#[UInt8.ofNat v.toNat]⟩) (wr.alloc (.cells #[.int .u8 v] 5)):=by
     intro v
     rw[run_convert_bytes_string _ _ _ 5 _ _ _ Tryz.underlying241 Tryz.underlying5 Tryz.underlying9,run_bytesToString _ _ _ _ [v] (by simp[loadCells,loadCellsFrom,go_sem])]
     rfl
    have hr:=fS
    go_wp2_with fail
    go_roundw
    case rel=>
     refine⟨_,_,rfl,rfl,by omega,by omega,Lib.hid ?_,hb.alloc hb.size _⟩
     rw[<-hd.out,x7,HX (show j.toNat≠0 by omega),show(j / 10).toNat=j.toNat / 10 by omega,show(48+j % 10).toNat=48+j.toNat % 10 by omega]
     simp
    case measure=>simp[intOf];omega
   ·go_wp2_with fail
    go_ret
    refine⟨?_,hb⟩
    have h1:=hd.out
    rw[show j.toNat=0 by omega,FX,List.nil_append]at h1
    have h2:(⟨#[109]⟩++l:ByteArray)=oN k:=by
     rw[oN,if_neg (by omega)]
     refine ByteArray.ext (Array.ext' ?_)
     rw[x7,h1]
    rw[h2];rfl
end Go.Proofs.YtgoelphibofcmaaGreat

namespace Go.Proofs.YtgoelphibofcmaaGreat.V
open Go.RowKit
attribute [local irreducible] dI wpOps gD Call
attribute [local go_sem] aM fM eP gp gm cN upd cD K.av cR AV.cells AV.cell rowOf rowsOf part ld rowAt bz cu dG ef ik bQ dh eA gj e9 dq ek dd dc dU dV bW bf cW bV cY cX ei eo ej cV ck de eh bU aT da cG ij bx cQ b4 aY dn bc dH AV.undef bF bI eb ee dP dM cJ ez eE cF er ep cZ db List.getD_cons_zero List.getD_cons_succ List.getD_nil List.all_cons List.all_nil Bool.and_true Bool.true_and Bool.and_self Bool.not_true Bool.not_false Option.map_some Option.map_none Option.bind_some Option.bind_none List.length_cons List.length_nil List.take_succ_cons List.take_zero List.take_nil List.drop_succ_cons List.drop_zero List.drop_nil List.head?_cons List.map_cons List.map_nil List.getElem?_cons_zero List.getElem?_cons_succ List.cons_append List.nil_append List.append_nil List.length_map List.set_cons_zero List.set_cons_succ Nat.reduceMul eq_self Int.toNat_natCast Int.natCast_nonneg and_self true_and and_true decide_true decide_false Bool.false_eq_true Nat.zero_add Nat.add_zero List.contains_cons List.contains_nil Bool.or_false Bool.false_or beq_self_eq_true Nat.reduceBEq ne_eq not_true_eq_false not_false_eq_true Id.mk.injEq false_and and_false Nat.reduceLT Int.reduceLE Int.reduceLT Int.reduceToNat Int.reduceNeg Int.reduceAdd Nat.le_refl List.length_append beq_true beq_false Bool.not_eq_eq_eq_not or_false false_or dO ai aj aH bp bE cz aX bl aW bj cU bH
def pS (σ:ar) (ids:List Id) (g:Rows) (n:Nat):Prop:=σ.next<=n/\∀x:Id,x.bP<σ.next->x∉ids->g x=σ.get x
theorem pS.trans {a b:ar} {i j:List Id} {g:Rows} {n:Nat} (h:pS a i b.get b.next) (k:pS b j g n):pS a (i++j) g n:=
 ⟨Nat.le_trans h.1 k.1,fun x hx hi=>(k.2 x (Nat.lt_of_lt_of_le hx h.1) fun hc=>hi (by simp[hc])).trans (h.2 x hx fun hc=>hi (by simp[hc]))⟩
theorem pS.sub {a:ar} {i j:List Id} {g:Rows} {n:Nat} (h:pS a i g n) (hs:∀x∈i,x∈j):pS a j g n:=⟨h.1,fun x hx hj=>h.2 x hx fun hi=>hj (hs x hi)⟩
theorem rX (l:List (List AV)) (i:Nat) (a b:List AV):(l.set i a).set i b=l.set i b:=List.set_set ..
theorem HY {l:List Int} {j:Nat} (h:j<l.length):(l.map bq)[j]? =some [.int .i64 l[j]]:=by simp[h,bq]
theorem LX {P:Program} {w:World} {D:Nat->Prop} {ι:Names} {k:Int} {vs:Array Value} (h:fh P w D ι [.int .i64 k] vs):vs= #[.int .i64 k]:=by
 obtain⟨h1,h2⟩:=h
 obtain⟨u,hu,hr⟩:=h2 0 _ rfl
 rw[dp hr]at hu
 obtain⟨l⟩:=vs
 cases l with
 |nil=>simp at h1
 |cons a l=>cases l with
  |nil=>simp at hu;subst hu;rfl
  |cons b l=>simp at h1
theorem wi (k:Int) (h0:0<=k) (h1:k<=4611686018427387904):aq Tryz.prog 179 [.int .i64 k] (.str (oN k)):=
 lU (vs0:= #[.int .i64 k]) (u0:=.string (oN k)) (fun _ _ _ _=>LX) (fun w D ι=>.eL _ _ (.str _)) (fun g=>KX g 5 _) fun w=>zS w k h0 h1
theorem DH (i:Id) (l:List Int) (k:Int) (h0:0<=k) (h1:k+l.length<=4611686018427387904) (σ:ar) (hv:i.bP<σ.next) (hg:σ.get i=some ⟨true,1,l.map bq⟩):
  Call Tryz.prog 33 [.own i 0 l.length,.int .i64 k] σ (fun r σ'=>r=.int .i64 (k+l.length)/\pS σ [i] σ'.get σ'.next):=by
 refine eT eB rfl fun hl=>?_
 clear hl
 obtain⟨nn,hn⟩:∃nn,l.length=nn:=⟨_,rfl⟩
 rw[hn]at h1 ⊢
 (try((repeat(revert hN;revert N;apply Pn.out));refine wk @Nat.zero_add ?_;(repeat(refine Pn.mk ?_;intro N hN))))
 refine aV (fun n env st=>∃j:Nat,n=(nn)-j/\j<=(nn)/\env 5=.int .i64 (j:Int)/\env 1=.int .i64 (k+j)/\(pS σ [i] st.get st.next/\∃l':List Int,l'.length=nn/\st.get i=some ⟨true,1,l'.map bq⟩)) (nn) ⟨0,by omega,by omega,sl (tw @Int.add_zero @Int.natCast_zero),sl (tw @Int.add_zero @Int.natCast_zero),by(try dsimp only);exact⟨⟨by(try dsimp only);omega,fun x _ _=>rfl⟩,l,hn,hg⟩⟩ ?_
 rintro n_a env_a st_a ⟨j,rfl,ale,a5,a1,lQ⟩ dD
 have a0:=dD 0 (by kernel_rfl)
 simp only[go_sem, ↓reduceIte,Nat.reduceEqDiff,Nat.reduceAdd,Nat.reduceSub,Nat.reduceLeDiff,reduceCtorEq,Int.add_zero,Int.natCast_zero]at a0
 clear dD
 obtain⟨⟨an,aF⟩,l',al,ag⟩:=lQ
 by_cases hj:(j:Int)<(nn:Int)
 ·have cC:∀{e:Env} {gg:Rows} {nx:Nat},(e 5=.int .i64 (IntKind.i64.wrap ((j:Int)+1)))->(e 1=.int .i64 (k+(j+1)))->(pS σ [i] gg nx/\∃l':List Int,l'.length=nn/\gg i=some ⟨true,1,l'.map bq⟩)->∃m0,m0<(nn)-j/\∃j:Nat,m0=(nn)-j/\j<=(nn)/\e 5=.int .i64 (j:Int)/\e 1=.int .i64 (k+j)/\(pS σ [i] gg nx/\∃l':List Int,l'.length=nn/\gg i=some ⟨true,1,l'.map bq⟩):=fun x1 x2 x3=>⟨_,by omega,j+1,rfl,by omega,(by rw[x1,az (by omega)]),x2,x3⟩
  have iO:j<l'.length:=by omega
  have fc:=HY iO
  have eC:(l'.map bq).set j [.int .i64 (k+j)]=(l'.set j (k+j)).map bq:=by rw[List.map_set];rfl
  have hw:IntKind.i64.wrap (k+(j:Int)+1)=k+((j:Int)+1):=by rw[bt (by omega)];omega
  (try((repeat(revert hN;revert N;apply Pn.out));refine wk (tw @a5 (tw @a1 (tw @a0 (tw @hj (tw @ag (tw @fc (tw @eC @hw))))))) ?_;(repeat(refine Pn.mk ?_;intro N hN))))
  refine cC ?_ ?_ (by(try dsimp only);exact⟨⟨by(try dsimp only);omega,fun x hx hi=>by
   have h2:=aF x hx hi
   have h3:(x=i)=False:=eq_false fun e=>hi (by simp[e])
   simp only[go_sem, ↓reduceIte,Nat.reduceEqDiff,Nat.reduceAdd,Nat.reduceSub,Nat.reduceLeDiff,reduceCtorEq,h2,h3]⟩,l'.set j (k+j),by simp[al],sl @Nat.zero_add⟩)
  all_goals simp only[go_sem, ↓reduceIte,Nat.reduceEqDiff,Nat.reduceAdd,Nat.reduceSub,Nat.reduceLeDiff,reduceCtorEq,a5,a1,a0,hw]
 ·have iO:j=nn:=by omega
  subst iO
  (try((repeat(revert hN;revert N;apply Pn.out));refine wk (tw @a5 (tw @a1 (tw @a0 @hj))) ?_;(repeat(refine Pn.mk ?_;intro N hN))))
  exact fw (.inl rfl) (vs:=[.int .i64 (k+j)]) (sd (tw @a5 (tw @a1 @a0))) ⟨rfl,⟨by(try dsimp only);omega,fun x hx hi=>aF x hx hi⟩⟩
def BX (k:Int) (n:Nat):List ad:=(List.range n).map fun j:Nat=>⟨⟨k+3*(j:Int),k+3*(j:Int)+1⟩,k+3*(j:Int)+2⟩
theorem iy (k:Int) (n:Nat):(BX k n).length=n:=by simp[BX]
theorem Jd (k:Int) (n:Nat):BX k (n+1)=BX k n++[⟨⟨k+3*(n:Int),k+3*(n:Int)+1⟩,k+3*(n:Int)+2⟩]:=by simp[BX,List.range_succ]
def jE (k:Int) (l:List ad) (j:Nat):List ad:=BX k j++l.drop j
theorem BY {k:Int} {l:List ad} {j:Nat} (h:j<=l.length):(jE k l j).length=l.length:=by simp[jE,iy];omega
theorem Fm {k:Int} {l:List ad} {j:Nat} (h:j<l.length):((jE k l j).map aa)[j]? =some [.int .i64 l[j].aO.eY,.int .i64 l[j].aO.eS,.int .i64 l[j].aQ]:=by
 rw[List.getElem?_map,jE,List.getElem?_append_right (by rw[iy];omega),iy,Nat.sub_self,List.getElem?_drop,Nat.add_zero,List.getElem?_eq_getElem h];rfl
theorem BZ {k:Int} {l:List ad} {j:Nat} (h:j<l.length):((jE k l j).map aa).set j [.int .i64 (k+3*(j:Int)),.int .i64 (k+3*(j:Int)+1),.int .i64 (k+3*(j:Int)+2)]=(jE k l (j+1)).map aa:=by
 have:(jE k l j).set j ⟨⟨k+3*(j:Int),k+3*(j:Int)+1⟩,k+3*(j:Int)+2⟩=jE k l (j+1):=by
  rw[jE,List.set_append_right _ _ (by rw[iy];omega),iy,Nat.sub_self,List.drop_eq_getElem_cons h,List.set_cons_zero,jE,Jd,List.append_assoc];rfl
 rw[<-this,List.map_set];rfl
theorem zR (i:Id) (l:List ad) (k:Int) (h0:0<=k) (h1:k+3*l.length<=4611686018427387904) (σ:ar) (hv:i.bP<σ.next) (hg:σ.get i=some ⟨true,3,l.map aa⟩):
  Call Tryz.prog 77 [.own i 0 l.length,.int .i64 k] σ (fun r σ'=>r=.int .i64 (k+3*l.length)/\pS σ [i] σ'.get σ'.next/\σ'.get i=some ⟨true,3,(BX k l.length).map aa⟩):=by
 refine eT eB rfl fun hl=>?_
 clear hl
 have hz:jE k l 0=l:=by simp[jE,BX]
 (try((repeat(revert hN;revert N;apply Pn.out));refine wk @Nat.zero_add ?_;(repeat(refine Pn.mk ?_;intro N hN))))
 refine aV (fun n env st=>∃j:Nat,n=(l.length)-j/\j<=(l.length)/\env 5=.int .i64 (j:Int)/\env 1=.int .i64 (k+3*j)/\st.get i=some ⟨true,3,(jE k l j).map aa⟩/\(pS σ [i] st.get st.next)) (l.length) ⟨0,by omega,by omega,sl (tw @Int.add_zero (tw @Int.natCast_zero (tw @Int.mul_zero (tw @hz @hg)))),sl (tw @Int.add_zero (tw @Int.natCast_zero (tw @Int.mul_zero (tw @hz @hg)))),sl (tw @Int.add_zero (tw @Int.natCast_zero (tw @Int.mul_zero (tw @hz @hg)))),by(try dsimp only);exact⟨by(try dsimp only);omega,fun x _ _=>rfl⟩⟩ ?_
 rintro n_a env_a st_a ⟨j,rfl,ale,a5,a1,ag0,lQ⟩ dD
 have a0:=dD 0 (by kernel_rfl)
 simp only[go_sem, ↓reduceIte,Nat.reduceEqDiff,Nat.reduceAdd,Nat.reduceSub,Nat.reduceLeDiff,reduceCtorEq,Int.add_zero,Int.natCast_zero,Int.mul_zero,hz,hg]at a0
 clear dD
 obtain⟨an,aF⟩:=lQ
 by_cases hj:(j:Int)<(l.length:Int)
 ·have cC:∀{e:Env} {gg:Rows} {nx:Nat},(e 5=.int .i64 (IntKind.i64.wrap ((j:Int)+1)))->(e 1=.int .i64 (k+3*(j+1)))->(gg i=some ⟨true,3,(jE k l (j+1)).map aa⟩)->(pS σ [i] gg nx)->∃m0,m0<(l.length)-j/\∃j:Nat,m0=(l.length)-j/\j<=(l.length)/\e 5=.int .i64 (j:Int)/\e 1=.int .i64 (k+3*j)/\gg i=some ⟨true,3,(jE k l j).map aa⟩/\(pS σ [i] gg nx):=fun x1 x2 x3 x4=>⟨_,by omega,j+1,rfl,by omega,(by rw[x1,az (by omega)]),x2,x3,x4⟩
  have iO:j<l.length:=by omega
  have fc:=Fm (k:=k) iO
  have eC:=BZ (k:=k) iO
  have nU:IntKind.i64.wrap (k+3*(j:Int)+1)=k+3*(j:Int)+1:=bt (by omega)
  have pQ:IntKind.i64.wrap (k+3*(j:Int)+1+1)=k+3*(j:Int)+2:=by rw[bt (by omega)];omega
  have IS:IntKind.i64.wrap (k+3*(j:Int)+2+1)=k+3*((j:Int)+1):=by rw[bt (by omega)];omega
  have hlen:((jE k l j).map aa).length=l.length:=by rw[List.length_map,BY (by omega)]
  have Iy:∀c:List AV,(((jE k l j).map aa).set j c)[j]? =some c:=fun c=>by rw[List.getElem?_set_self (by rw[hlen];exact iO)]
  (try((repeat(revert hN;revert N;apply Pn.out));refine wk (tw @a5 (tw @a1 (tw @ag0 (tw @a0 (tw @hj (tw @fc (tw @Iy (tw @eC (tw @nU (tw @pQ (tw @IS (tw @hlen @rX)))))))))))) ?_;(repeat(refine Pn.mk ?_;intro N hN))))
  refine cC ?_ ?_ ?_ (by(try dsimp only);exact⟨by(try dsimp only);omega,fun x hx hi=>by
   have h2:=aF x hx hi
   have h3:(x=i)=False:=eq_false fun e=>hi (by simp[e])
   simp only[go_sem, ↓reduceIte,Nat.reduceEqDiff,Nat.reduceAdd,Nat.reduceSub,Nat.reduceLeDiff,reduceCtorEq,h2,h3]⟩)
  all_goals simp only[go_sem, ↓reduceIte,Nat.reduceEqDiff,Nat.reduceAdd,Nat.reduceSub,Nat.reduceLeDiff,reduceCtorEq,a5,a1,ag0,a0,IS,eC]
 ·have iO:j=l.length:=by omega
  subst iO
  (try((repeat(revert hN;revert N;apply Pn.out));refine wk (tw @a5 (tw @a1 (tw @ag0 (tw @a0 @hj)))) ?_;(repeat(refine Pn.mk ?_;intro N hN))))
  have lg:jE k l l.length=BX k l.length:=by simp[jE]
  rw[lg]at ag0
  exact fw (.inl rfl) (vs:=[.int .i64 (k+3*l.length)]) (sd (tw @a5 (tw @a1 (tw @ag0 @a0)))) ⟨rfl,⟨by(try dsimp only);omega,fun x hx hi=>aF x hx hi⟩,ag0⟩
theorem BS (i:Id) (l:List fA) (k:Int) (h0:0<=k) (h1:k+2*l.length<=4611686018427387904) (σ:ar) (hv:i.bP<σ.next) (hg:σ.get i=some ⟨true,2,l.map bG⟩):
  Call Tryz.prog 131 [.own i 0 l.length,.int .i64 k] σ (fun r σ'=>r=.int .i64 (k+2*l.length)/\pS σ [i] σ'.get σ'.next):=by
 refine eT eB rfl fun hl=>?_
 clear hl
 obtain⟨nn,hn⟩:∃nn,l.length=nn:=⟨_,rfl⟩
 rw[hn]at h1 ⊢
 (try((repeat(revert hN;revert N;apply Pn.out));refine wk @Nat.zero_add ?_;(repeat(refine Pn.mk ?_;intro N hN))))
 refine aV (fun n env st=>∃j:Nat,n=(nn)-j/\j<=(nn)/\env 5=.int .i64 (j:Int)/\env 1=.int .i64 (k+2*j)/\(pS σ [i] st.get st.next/\∃l':List fA,l'.length=nn/\st.get i=some ⟨true,2,l'.map bG⟩)) (nn) ⟨0,by omega,by omega,sl (tw @Int.add_zero (tw @Int.natCast_zero @Int.mul_zero)),sl (tw @Int.add_zero (tw @Int.natCast_zero @Int.mul_zero)),by(try dsimp only);exact⟨⟨by(try dsimp only);omega,fun x _ _=>rfl⟩,l,hn,hg⟩⟩ ?_
 rintro n_a env_a st_a ⟨j,rfl,ale,a5,a1,lQ⟩ dD
 have a0:=dD 0 (by kernel_rfl)
 simp only[go_sem, ↓reduceIte,Nat.reduceEqDiff,Nat.reduceAdd,Nat.reduceSub,Nat.reduceLeDiff,reduceCtorEq,Int.add_zero,Int.natCast_zero,Int.mul_zero]at a0
 clear dD
 obtain⟨⟨an,aF⟩,l',al,ag⟩:=lQ
 by_cases hj:(j:Int)<(nn:Int)
 ·have cC:∀{e:Env} {gg:Rows} {nx:Nat},(e 5=.int .i64 (IntKind.i64.wrap ((j:Int)+1)))->(e 1=.int .i64 (k+2*(j+1)))->(pS σ [i] gg nx/\∃l':List fA,l'.length=nn/\gg i=some ⟨true,2,l'.map bG⟩)->∃m0,m0<(nn)-j/\∃j:Nat,m0=(nn)-j/\j<=(nn)/\e 5=.int .i64 (j:Int)/\e 1=.int .i64 (k+2*j)/\(pS σ [i] gg nx/\∃l':List fA,l'.length=nn/\gg i=some ⟨true,2,l'.map bG⟩):=fun x1 x2 x3=>⟨_,by omega,j+1,rfl,by omega,(by rw[x1,az (by omega)]),x2,x3⟩
  have iO:j<l'.length:=by omega
  have fc:(l'.map bG)[j]? =some [.str l'[j].aC,.int .i64 l'[j].eu]:=by simp[iO,bG]
  have hlen:(l'.map bG).length=nn:=by rw[List.length_map,al]
  have Iy:∀c:List AV,((l'.map bG).set j c)[j]? =some c:=fun c=>by rw[List.getElem?_set_self (by rw[List.length_map];exact iO)]
  have ht:=wi (k+2*(j:Int)) (by omega) (by omega)
  have nU:IntKind.i64.wrap (k+2*(j:Int)+1)=k+2*(j:Int)+1:=bt (by omega)
  have pQ:IntKind.i64.wrap (k+2*(j:Int)+1+1)=k+2*((j:Int)+1):=by rw[bt (by omega)];omega
  generalize oN (k+2*(j:Int))=mt at ht
  have eC:(l'.map bG).set j [.str mt,.int .i64 (k+2*(j:Int)+1)]=(l'.set j ⟨mt,k+2*(j:Int)+1⟩).map bG:=by rw[List.map_set];rfl
  (repeat(first|((repeat(revert hN;revert N;apply Pn.out));refine wk (tw @a5 (tw @a1 (tw @a0 (tw @hj (tw @ag (tw @fc (tw @Iy (tw @eC (tw @nU (tw @pQ (tw @hlen @rX))))))))))) ?_;(repeat(refine Pn.mk ?_;intro N hN)))|((try apply Or.inl);refine⟨_,aq.x (ht) (sd (tw @a5 (tw @a1 (tw @a0 (tw @hj (tw @ag (tw @fc (tw @Iy (tw @eC (tw @nU (tw @pQ (tw @hlen @rX)))))))))))),?_⟩;refine hN _ _ ?_;clear hN N)))
  refine cC ?_ ?_ (by(try dsimp only);exact⟨⟨by(try dsimp only);omega,fun x hx hi=>by
   have h2:=aF x hx hi
   have h3:(x=i)=False:=eq_false fun e=>hi (by simp[e])
   simp only[go_sem, ↓reduceIte,Nat.reduceEqDiff,Nat.reduceAdd,Nat.reduceSub,Nat.reduceLeDiff,reduceCtorEq,h2,h3]⟩,l'.set j ⟨mt,k+2*(j:Int)+1⟩,by simp[al],sl @Nat.zero_add⟩)
  all_goals simp only[go_sem, ↓reduceIte,Nat.reduceEqDiff,Nat.reduceAdd,Nat.reduceSub,Nat.reduceLeDiff,reduceCtorEq,a5,a1,a0,pQ,eC]
 ·have iO:j=nn:=by omega
  subst iO
  (try((repeat(revert hN;revert N;apply Pn.out));refine wk (tw @a5 (tw @a1 (tw @a0 @hj))) ?_;(repeat(refine Pn.mk ?_;intro N hN))))
  exact fw (.inl rfl) (vs:=[.int .i64 (k+2*j)]) (sd (tw @a5 (tw @a1 @a0))) ⟨rfl,⟨by(try dsimp only);omega,fun x hx hi=>aF x hx hi⟩⟩
end Go.Proofs.YtgoelphibofcmaaGreat.V

namespace Go.Proofs.YtgoelphibofcmaaGreat.V
open Go.RowKit
attribute [local irreducible] dI wpOps gD Call
attribute [local go_sem] aM fM eP gp gm cN upd cD K.av cR AV.cells AV.cell rowOf rowsOf part ld rowAt bz cu dG ef ik bQ dh eA gj e9 dq ek dd dc dU dV bW bf cW bV cY cX ei eo ej cV ck de eh bU aT da cG ij bx cQ b4 aY dn bc dH AV.undef bF bI eb ee dP dM cJ ez eE cF er ep cZ db List.getD_cons_zero List.getD_cons_succ List.getD_nil List.all_cons List.all_nil Bool.and_true Bool.true_and Bool.and_self Bool.not_true Bool.not_false Option.map_some Option.map_none Option.bind_some Option.bind_none List.length_cons List.length_nil List.take_succ_cons List.take_zero List.take_nil List.drop_succ_cons List.drop_zero List.drop_nil List.head?_cons List.map_cons List.map_nil List.getElem?_cons_zero List.getElem?_cons_succ List.cons_append List.nil_append List.append_nil List.length_map List.set_cons_zero List.set_cons_succ Nat.reduceMul eq_self Int.toNat_natCast Int.natCast_nonneg and_self true_and and_true decide_true decide_false Bool.false_eq_true Nat.zero_add Nat.add_zero List.contains_cons List.contains_nil Bool.or_false Bool.false_or beq_self_eq_true Nat.reduceBEq ne_eq not_true_eq_false not_false_eq_true Id.mk.injEq false_and and_false Nat.reduceLT Int.reduceLE Int.reduceLT Int.reduceToNat Int.reduceNeg Int.reduceAdd Nat.le_refl List.length_append beq_true beq_false Bool.not_eq_eq_eq_not or_false false_or dO ai aj aH bp bE cz aX bl aW bj cU bH
theorem iD.flat {α:Type} {e:α->List AV} {z:Nat} {g:Rows} {a:AV} {xs:List α} {ids:List Id} (h:iD (lr e) z g a xs ids):∃o,a=.own o 0 xs.length/\g o=some ⟨true,z,xs.map e⟩/\ids=[o]:=by
 obtain⟨o,rows,is,h1,h2,h3,rfl⟩:=h
 have:∀{rows:List (List AV)} {xs:List α} {is:List Id},eH (lr e) g rows xs is->rows=xs.map e/\is=[]:=fun h=>by
  induction h with
  |nil=>exact⟨rfl,rfl⟩
  |cons h1 _ ih=>obtain⟨rfl,rfl⟩:=h1;obtain⟨rfl,rfl⟩:=ih;exact⟨rfl,rfl⟩
 obtain⟨rfl,rfl⟩:=this h3
 exact⟨o,h1,h2,rfl⟩
def gF (t:eR):Nat:=1+t.br.length
theorem BT (a:AV) (l:List eR) (ids:List Id) (k:Int) (h0:0<=k) (Ld:l.length<=1048576) (h1:k+(l.map gF).sum<=4611686018427387904) (σ:ar) (hv:∀i∈ids,i.bP<σ.next) (mi:ids.Nodup) (hg:iD oj 2 σ.get a l ids):
  Call Tryz.prog 132 [a,.int .i64 k] σ (fun r σ'=>r=.int .i64 (k+(l.map gF).sum)/\pS σ ids σ'.get σ'.next):=by
 obtain⟨o,rows,is,rfl,ho,hR,rfl⟩:=hg
 refine eT eB rfl fun hl=>?_
 clear hl
 have uF:=hv o (by simp)
 have Dr:=mD gF l
 (try((repeat(revert hN;revert N;apply Pn.out));refine wk @Nat.zero_add ?_;(repeat(refine Pn.mk ?_;intro N hN))))
 refine aV (fun n env st=>∃j:Nat,n=(l.length)-j/\j<=(l.length)/\env 5=.int .i64 (j:Int)/\env 1=.int .i64 (k+iH gF l j)/\(pS σ (o::is) st.get st.next/\∃pre rest ir,st.get o=some ⟨true,2,pre++rest⟩/\pre.length=j/\eH oj st.get rest (l.drop j) ir/\(o::ir).Nodup/\∀i∈ir,i∈is)) (l.length) ⟨0,by omega,by omega,sl (tw @Int.add_zero (tw @Int.natCast_zero @Dr)),sl (tw @Int.add_zero (tw @Int.natCast_zero @Dr)),by(try dsimp only);exact⟨⟨by(try dsimp only);omega,fun x _ _=>rfl⟩,[],rows,is,ho,rfl,hR,mi,fun _ h=>h⟩⟩ ?_
 rintro n_a env_a st_a ⟨j,rfl,ale,a5,a1,lQ⟩ dD
 have a0:=dD 0 (by kernel_rfl)
 simp only[go_sem, ↓reduceIte,Nat.reduceEqDiff,Nat.reduceAdd,Nat.reduceSub,Nat.reduceLeDiff,reduceCtorEq,Int.add_zero,Int.natCast_zero,Dr]at a0
 clear dD
 obtain⟨⟨an,aF⟩,pre,rest,ir,ag,apl,aR,aN,aS⟩:=lQ
 by_cases hj:(j:Int)<(l.length:Int)
 ·have cC:∀{e:Env} {gg:Rows} {nx:Nat},(e 5=.int .i64 (IntKind.i64.wrap ((j:Int)+1)))->(e 1=.int .i64 (k+iH gF l (j+1)))->(pS σ (o::is) gg nx/\∃pre rest ir,gg o=some ⟨true,2,pre++rest⟩/\pre.length=(j+1)/\eH oj gg rest (l.drop (j+1)) ir/\(o::ir).Nodup/\∀i∈ir,i∈is)->∃m0,m0<(l.length)-j/\∃j:Nat,m0=(l.length)-j/\j<=(l.length)/\e 5=.int .i64 (j:Int)/\e 1=.int .i64 (k+iH gF l j)/\(pS σ (o::is) gg nx/\∃pre rest ir,gg o=some ⟨true,2,pre++rest⟩/\pre.length=j/\eH oj gg rest (l.drop j) ir/\(o::ir).Nodup/\∀i∈ir,i∈is):=fun x1 x2 x3=>⟨_,by omega,j+1,rfl,by omega,(by rw[x1,az (by omega)]),x2,x3⟩
  have iO:j<l.length:=by omega
  have Oj:=wU gF iO
  have hle:=qb gF l (j+1)
  obtain⟨t,htj⟩:∃t,l[j]=t:=⟨_,rfl⟩
  rw[List.drop_eq_getElem_cons iO,htj]at aR
  rw[htj]at Oj
  cases aR with
  | @cons cs _ ic rs _ i2 hT Qm=>
  obtain⟨i,rfl,hi,rfl⟩:=hT
  rw[List.singleton_append]at aN aS
  obtain⟨n1,n2⟩:=List.nodup_cons.1 aN
  obtain⟨n3,n4⟩:=List.nodup_cons.1 n2
  have PF:(o=i)=False:=eq_false fun e=>n1 (by simp[e])
  have Pz:(i=o)=False:=eq_false fun e=>n1 (by simp[e])
  have hiv:i.bP<σ.next:=hv i (by simp[aS i (by simp)])
  have QO:gF t=1+t.br.length:=rfl
  have ht:=wi (k+(iH gF l j:Nat)) (by omega) (by omega)
  have nU:IntKind.i64.wrap (k+(iH gF l j:Nat)+1)=k+(iH gF l j:Nat)+1:=bt (by omega)
  generalize oN (k+(iH gF l j:Nat))=mt at ht
  have fc:(pre++[.str t.aC,.own i 0 t.br.length]::rs)[j]? =some [.str t.aC,.own i 0 t.br.length]:=by subst apl;simp
  have eC:(pre++[.str t.aC,.own i 0 t.br.length]::rs).set j [.str mt,.own i 0 t.br.length]=pre++[.str mt,.own i 0 t.br.length]::rs:=by subst apl;simp
  have MB:(pre++[.str mt,.own i 0 t.br.length]::rs)[j]? =some [.str mt,.own i 0 t.br.length]:=by subst apl;simp
  (repeat(first|((repeat(revert hN;revert N;apply Pn.out));refine wk (tw @a5 (tw @a1 (tw @a0 (tw @hj (tw @ag (tw @fc (tw @eC (tw @MB (tw @nU (tw @PF (tw @Pz @hi))))))))))) ?_;(repeat(refine Pn.mk ?_;intro N hN)))|((try apply Or.inl);refine⟨_,aq.x (ht) (sd (tw @a5 (tw @a1 (tw @a0 (tw @hj (tw @ag (tw @fc (tw @eC (tw @MB (tw @nU (tw @PF (tw @Pz @hi)))))))))))),?_⟩;refine hN _ _ ?_;clear hN N)))
  refine .inr (aJ _ _ _ _ _ (fun r σ1 hq=>?_) (DH i t.br (k+(iH gF l j:Nat)+1) (by omega) (by omega) _ (by(try dsimp only);omega) (sd (tw @PF (tw @Pz @hi)))))
  obtain⟨g1,x1⟩:=σ1
  obtain⟨rfl,Ky,uj⟩:=hq
  (try dsimp only at Ky uj)
  refine hN _ _ ?_
  clear hN N
  have Ub:k+(iH gF l j:Nat)+1+t.br.length=k+(iH gF l (j+1):Nat):=by omega
  (try((repeat(revert hN;revert N;apply Pn.out));refine wk (tw @a5 (tw @a1 (tw @a0 @Ub))) ?_;(repeat(refine Pn.mk ?_;intro N hN))))
  have gk:∀x:Id,x.bP<σ.next->x≠o->x≠i->g1 x=st_a.get x:=fun x hx h3 h4=>by
   have h2:=uj x (by(try dsimp only);omega) (by simp[h4])
   have h5:=eq_false h3
   simp only[go_sem, ↓reduceIte,Nat.reduceEqDiff,Nat.reduceAdd,Nat.reduceSub,Nat.reduceLeDiff,reduceCtorEq,h5]at h2
   exact h2
  have go:=uj o (by(try dsimp only);omega) (by simp only[List.mem_singleton];exact fun e=>n1 (by simp[e]))
  simp only[go_sem, ↓reduceIte,Nat.reduceEqDiff,Nat.reduceAdd,Nat.reduceSub,Nat.reduceLeDiff,reduceCtorEq]at go
  refine cC ?_ ?_ (by(try dsimp only);exact⟨⟨by(try dsimp only);omega,fun x hx hi=>by
   have h3:x≠o:=fun e=>hi (by simp[e])
   have h4:x≠i:=fun e=>hi (by simp[e,aS i (by simp)])
   rw[gk x hx h3 h4]
   exact aF x hx hi⟩,pre++[[.str mt,.own i 0 t.br.length]],rs,i2,by rw[go];simp,by simp[apl],Qm.frame qM (fun x hx=>gk x (hv x (by simp[aS x (by simp[hx])])) (fun e=>n1 (by simp[<-e,hx])) (fun e=>n3 (by rw[<-e];exact hx))),List.nodup_cons.2 ⟨fun h=>n1 (by simp[h]),n4⟩,fun x hx=>aS x (by simp[hx])⟩)
  all_goals simp only[go_sem, ↓reduceIte,Nat.reduceEqDiff,Nat.reduceAdd,Nat.reduceSub,Nat.reduceLeDiff,reduceCtorEq,a5,a1,a0,Ub]
 ·have iO:j=l.length:=by omega
  subst iO
  have dF:=Cl gF l
  rw[dF]at a1
  (try((repeat(revert hN;revert N;apply Pn.out));refine wk (tw @a5 (tw @a1 (tw @a0 @hj))) ?_;(repeat(refine Pn.mk ?_;intro N hN))))
  exact fw (.inl rfl) (vs:=[.int .i64 (k+(l.map gF).sum)]) (sd (tw @a5 (tw @a1 @a0))) ⟨rfl,⟨by(try dsimp only);omega,fun x hx hi=>aF x hx hi⟩⟩
theorem yG (v:AV) (p:dL) (ids:List Id) (k:Int) (h0:0<=k) (h1:k+3*p.ah.length<=4611686018427387904) (σ:ar) (hv:∀i∈ids,i.bP<σ.next) (hg:xg σ.get v p ids):
  Call Tryz.prog 32 [v,.int .i64 k] σ (fun r σ'=>r=.int .i64 (k+3*p.ah.length)/\pS σ ids σ'.get σ'.next):=by
 obtain⟨c,rfl,hc⟩:=hg
 obtain⟨o,rfl,ho,rfl⟩:=hc.flat
 refine eT eB rfl fun hl=>?_
 clear hl
 have uF:=dw (hv o (by simp))
 have Li:=hv o (by simp)
 (try((repeat(revert hN;revert N;apply Pn.out));refine wk @Nat.zero_add ?_;(repeat(refine Pn.mk ?_;intro N hN))))
 refine .inr (aJ _ _ _ _ _ (fun r σ1 hq=>?_) (zR o p.ah k h0 h1 _ (by(try dsimp only);omega) (sd (tw @uF @ho))))
 obtain⟨g1,x1⟩:=σ1
 obtain⟨rfl,⟨Ky,uj⟩,_⟩:=hq
 (try dsimp only at Ky uj)
 refine hN _ _ ?_
 clear hN N
 (try((repeat(revert hN;revert N;apply Pn.out));refine wk @Nat.zero_add ?_;(repeat(refine Pn.mk ?_;intro N hN))))
 exact fw (.inl rfl) (vs:=[.int .i64 (k+3*p.ah.length)]) (sd @Nat.zero_add) ⟨rfl,⟨by(try dsimp only);omega,fun x hx hi=>by
  have h2:=uj x (by(try dsimp only);omega) hi
  have h3:=dw hx
  simp only[go_sem, ↓reduceIte,Nat.reduceEqDiff,Nat.reduceAdd,Nat.reduceSub,Nat.reduceLeDiff,reduceCtorEq,h3]at h2
  exact h2⟩⟩
def BR (s:aA):Nat:=2*s.aE.ax.length+(s.aE.ah.map gF).sum+3*s.aZ.ah.length
theorem Gz (a b:AV) (p:au) (i1 i2:List Id) (k:Int) (h0:0<=k) (Ld:p.ah.length<=1048576) (h1:k+2*p.ax.length+(p.ah.map gF).sum<=4611686018427387904) (σ:ar) (hv:∀i∈i1++i2,i.bP<σ.next) (mi:(i1++i2).Nodup)
  (hA:iD (lr bG) 2 σ.get a p.ax i1) (hB:iD oj 2 σ.get b p.ah i2):
  Call Tryz.prog 76 [.agg [a,b],.int .i64 k] σ (fun r σ'=>r=.int .i64 (k+2*p.ax.length+(p.ah.map gF).sum)/\pS σ (i1++i2) σ'.get σ'.next):=by
 obtain⟨_,n2,n3⟩:=List.nodup_append.1 mi
 obtain⟨o,rfl,ho,rfl⟩:=hA.flat
 obtain⟨ob,rfl⟩:=hB.kP
 refine eT eB rfl fun hl=>?_
 clear hl
 have Li:=hv o (by simp)
 have uF:=dw Li
 (try((repeat(revert hN;revert N;apply Pn.out));refine wk @Nat.zero_add ?_;(repeat(refine Pn.mk ?_;intro N hN))))
 refine .inr (aJ _ _ _ _ _ (fun r σ1 hq=>?_) (BS o p.ax k h0 (by omega) _ (by(try dsimp only);omega) (sd (tw @uF @ho))))
 obtain⟨g1,x1⟩:=σ1
 obtain⟨rfl,Ky,uj⟩:=hq
 (try dsimp only at Ky uj)
 refine hN _ _ ?_
 clear hN N
 have k1:=uj ⟨76000000,σ.next⟩ (by(try dsimp only);omega) (by simp only[List.mem_singleton];intro e;rw[<-e]at Li;(try dsimp only at Li);omega)
 simp only[go_sem, ↓reduceIte,Nat.reduceEqDiff,Nat.reduceAdd,Nat.reduceSub,Nat.reduceLeDiff,reduceCtorEq]at k1
 (try((repeat(revert hN;revert N;apply Pn.out));refine wk @k1 ?_;(repeat(refine Pn.mk ?_;intro N hN))))
 have hf:∀x:Id,x.bP<σ.next->x≠o->g1 x=σ.get x:=fun x hx ho=>by
  have h2:=uj x (by(try dsimp only);omega) (by simp[ho])
  have h3:=dw hx
  simp only[go_sem, ↓reduceIte,Nat.reduceEqDiff,Nat.reduceAdd,Nat.reduceSub,Nat.reduceLeDiff,reduceCtorEq,h3]at h2
  exact h2
 refine .inr (aJ _ _ _ _ _ (fun r σ2 hq=>?_) (BT _ p.ah i2 (k+2*p.ax.length) (by omega) Ld h1 _ (fun i hi=>by have:=hv i (by simp[hi]);(try dsimp only);omega) n2 (hB.frame qM fun i hi=>hf i (hv i (by simp[hi])) fun e=>n3 o (by simp) i hi e.symm)))
 obtain⟨g2,x2⟩:=σ2
 obtain⟨rfl,Od,Dp⟩:=hq
 (try dsimp only at Od Dp)
 refine hN _ _ ?_
 clear hN N
 (try((repeat(revert hN;revert N;apply Pn.out));refine wk @Nat.zero_add ?_;(repeat(refine Pn.mk ?_;intro N hN))))
 exact fw (.inl rfl) (vs:=[.int .i64 (k+2*p.ax.length+(p.ah.map gF).sum)]) (sd @Nat.zero_add) ⟨rfl,⟨by(try dsimp only);omega,fun x hx hi=>(Dp x (by(try dsimp only);omega) fun h=>hi (by simp[h])).trans (hf x hx fun e=>hi (by simp[e]))⟩⟩
theorem GA (v:AV) (p:aA) (ids:List Id) (k:Int) (h0:0<=k) (Ld:p.aE.ah.length<=1048576) (h1:k+BR p<=4611686018427387904) (σ:ar) (hv:∀i∈ids,i.bP<σ.next) (mi:ids.Nodup) (hg:zb σ.get v p ids):
  Call Tryz.prog 31 [v,.int .i64 k] σ (fun r σ'=>r=.int .i64 (k+BR p)/\pS σ ids σ'.get σ'.next):=by
 obtain⟨a,b,c,i1,i2,i3,rfl,hA,hB,hC,rfl⟩:=hg.ex
 rw[<-List.append_assoc]at mi
 obtain⟨n1,_,n3⟩:=List.nodup_append.1 mi
 obtain⟨oa,rfl⟩:=hA.kP
 obtain⟨ob,rfl⟩:=hB.kP
 obtain⟨oc,rfl⟩:=hC.kP
 have hm:(BR p:Int)=2*p.aE.ax.length+(p.aE.ah.map gF).sum+3*p.aZ.ah.length:=by simp[BR]
 refine eT eB rfl fun hl=>?_
 clear hl
 have Ti:∀x∈i1++(i2++i3),bz σ.get ⟨31000000,σ.next⟩ ⟨true,4,[[.own oa 0 p.aE.ax.length,.own ob 0 p.aE.ah.length,.own oc 0 p.aZ.ah.length,.int .i64 p.aB]]⟩ x=σ.get x:=fun x hx=>by
  have:=dw (hv x hx)
  simp only[go_sem, ↓reduceIte,Nat.reduceEqDiff,Nat.reduceAdd,Nat.reduceSub,Nat.reduceLeDiff,reduceCtorEq,this]
 (try((repeat(revert hN;revert N;apply Pn.out));refine wk @Nat.zero_add ?_;(repeat(refine Pn.mk ?_;intro N hN))))
 refine .inr (aJ _ _ _ _ _ (fun r σ1 hq=>?_) (Gz _ _ p.aE i1 i2 k h0 Ld (by omega) _ (fun i hi=>by have:=hv i (by rcases List.mem_append.1 hi with h|h<;>simp[h]);(try dsimp only);omega) n1 (hA.frame Bf fun i hi=>Ti i (by simp[hi])) (hB.frame qM fun i hi=>Ti i (by simp[hi]))))
 obtain⟨g1,x1⟩:=σ1
 obtain⟨rfl,Ky,uj⟩:=hq
 (try dsimp only at Ky uj)
 refine hN _ _ ?_
 clear hN N
 have k1:=uj ⟨31000000,σ.next⟩ (by(try dsimp only);omega) (fun h=>by
  have:=hv ⟨31000000,σ.next⟩ (by rcases List.mem_append.1 h with h|h<;>simp[h])
  (try dsimp only at this);omega)
 simp only[go_sem, ↓reduceIte,Nat.reduceEqDiff,Nat.reduceAdd,Nat.reduceSub,Nat.reduceLeDiff,reduceCtorEq]at k1
 (try((repeat(revert hN;revert N;apply Pn.out));refine wk @k1 ?_;(repeat(refine Pn.mk ?_;intro N hN))))
 refine .inr (aJ _ _ _ _ _ (fun r σ2 hq=>?_) (yG _ p.aZ i3 (k+2*p.aE.ax.length+(p.aE.ah.map gF).sum) (by omega) (by omega) _ (fun i hi=>by have:=hv i (by simp[hi]);(try dsimp only);omega) ⟨_,rfl,hC.frame ya fun i hi=>?_⟩))
 rotate_left
 ·exact(uj i (by have:=hv i (by simp[hi]);(try dsimp only);omega) fun h=>n3 i h i hi rfl).trans (Ti i (by simp[hi]))
 obtain⟨g2,x2⟩:=σ2
 obtain⟨rfl,Od,Dp⟩:=hq
 (try dsimp only at Od Dp)
 refine hN _ _ ?_
 clear hN N
 (try((repeat(revert hN;revert N;apply Pn.out));refine wk @Nat.zero_add ?_;(repeat(refine Pn.mk ?_;intro N hN))))
 exact fw (.inl rfl) (vs:=[.int .i64 (k+2*p.aE.ax.length+(p.aE.ah.map gF).sum+3*p.aZ.ah.length)]) (sd @Nat.zero_add) ⟨by rw[hm];exact congrArg (AV.int .i64) (by omega),⟨by(try dsimp only);omega,fun x hx hi=>by
  have h2:=Dp x (by(try dsimp only);omega) fun h=>hi (by simp[h])
  have h3:=uj x (by(try dsimp only);omega) fun h=>hi (by rcases List.mem_append.1 h with h|h<;>simp[h])
  have h4:=dw hx
  simp only[go_sem, ↓reduceIte,Nat.reduceEqDiff,Nat.reduceAdd,Nat.reduceSub,Nat.reduceLeDiff,reduceCtorEq,h4]at h3
  exact h2.trans h3⟩⟩
end Go.Proofs.YtgoelphibofcmaaGreat.V

namespace Go.Proofs.YtgoelphibofcmaaGreat.V
open Go.RowKit
def AV.clean:AV->Bool
 | .int .. | .bool _| .str _| .cq| .gR| .ja| .jk| .own .. | .ptr .. | .map .. | .rh _=>true
 | .sl l=>l.isEmpty
 |_=>false
def AV.zm:AV->Bool
 | .agg cs=>cs.all AV.clean
 | .gK cs=>cs.all fun a=>match a with
  | .agg cs=>cs.all AV.clean
  |a=>a.clean
 |a=>a.clean
def yY (ids:List Id) (g g':Rows):Rows:=fun id=>if id∈ids then g' id else g id
theorem r7 {ids:List Id} {g g':Rows} {id:Id} (h:id∈ids):yY ids g g' id=g' id:=if_pos h
theorem pH {ids:List Id} {g g':Rows} {id:Id} (h:id∉ids):yY ids g g' id=g id:=if_neg h
section
variable {P:Program} {w w':World} {D D' D1 D2:Nat->Prop} {ι ι1 ι2:Names}
theorem jS {a:AV} {v:Value} (hp:a.clean=true) (h:cH P w D1 ι1 a v):cH P w D2 ι1 a v:=by
 cases h with
 |eL a v h=>
  cases h with
  |int=>exact .eL _ _ (.int _ _)
  |bool=>exact .eL _ _ (.bool _)
  |str=>exact .eL _ _ (.str _)
  |cq=>exact .eL _ _ .cq
  |gR=>exact .eL _ _ .gR
  |ja=>exact .eL _ _ .ja
  |jk=>exact .eL _ _ .jk
  |AH a c h=>exact .eL _ _ (.AH a c h)
  |sl rows b o n c sz vs h1 h2 h3=>
   have:rows=[]:=by simpa[AV.clean]using hp
   subst this
   simp only[List.length_nil]at h1
   subst h1
   exact .eL _ _ (.AH _ _ h3)
  |di=>simp[AV.clean]at hp
  |agg=>simp[AV.clean]at hp
  |fn=>simp[AV.clean]at hp
 |own id off len o cap B h1 h2 h3 h4 h5 h6=>exact .own id off len o cap B h1 h2 h3 h4 h5 h6
 |map id m B h1 h2=>exact .map id m B h1 h2
 |rh id c B h1 h2=>exact .rh id c B h1 h2
 |ptr id i off B h1 h2=>exact .ptr id i off B h1 h2
 |agg=>simp[AV.clean]at hp
 |gK=>simp[AV.clean]at hp
 |fn=>simp[AV.clean]at hp
 |tO=>simp[AV.clean]at hp
theorem lT {cs:List AV} {v:Value} (hc:cs.all AV.clean=true) (h:cH P w D1 ι1 (.agg cs) v):cH P w D2 ι1 (.agg cs) v:=by
 obtain⟨vs,f,rfl,h1,h2,h3,h4⟩:=iP h
 rw[List.all_eq_true]at hc
 exact .agg cs vs f h1 h2 h3 fun j a ha=>jS (hc a (List.mem_of_getElem? ha)) (h4 j a ha)
theorem DV {a:AV} {v:Value} (hp:a.zm=true) (h:cH P w D1 ι1 a v):cH P w D2 ι1 a v:=by
 cases a with
 |agg cs=>exact lT hp h
 |gK cs=>
  obtain⟨vs,f,rfl,h1,h3,h4⟩:=uK h
  simp only[AV.zm,List.all_eq_true]at hp
  refine .gK cs vs f h1 h3 fun j a ha=>?_
  have:=hp a (List.mem_of_getElem? ha)
  split at this
  ·exact lT this (h4 j _ ha)
  ·exact jS this (h4 j _ ha)
 |_=>exact jS hp h
theorem DS {ag:Bool} {n:Nat} {cs:List AV} {x:AV} {v:Value} (hc:∀a∈cs,a.clean=true) (hp:part ag n cs=some x) (hr:cH P w D1 ι1 x v):cH P w D2 ι1 x v:=by
 unfold part at hp
 split at hp
 ·split at hp
  ·simp only[Option.some.injEq]at hp;subst hp
   exact lT (List.all_eq_true.2 fun a ha=>hc a (List.mem_of_mem_take ha)) hr
  ·cases hp
 ·exact jS (hc x (List.mem_of_mem_head? hp)) hr
theorem gL.clean {B:si} {r:Row} (R:gL P w D1 ι1 B r) (h:∀cs∈r.rows,∀a∈cs,a.clean=true):gL P w D2 ι1 B r:=
 ⟨R.sz,R.flat,fun hk=>⟨R.sz,(R.row hk).xk,(R.row hk).fits,(R.row hk).len,R.flat,fun i j cs a hi hj=>by
  obtain⟨v,q1,q2⟩:=(R.row hk).at_ i j cs a hi hj
  exact⟨v,q1,jS (h cs (List.mem_of_getElem? hi) a (List.mem_of_getElem? hj)) q2⟩⟩,fun m hm=>by
  obtain⟨h1,es,c,h2,h3,h5,h4⟩:=R.map m hm
  refine⟨h1,es,c,h2,h3,h5,fun i cs hi=>?_⟩
  obtain⟨e,kv,vv,q1,q2,q3,q4,q5⟩:=h4 i cs hi
  have hc:=h cs (List.mem_of_getElem? hi)
  exact⟨e,kv,vv,q1,q2,q3,DS hc q2 q4,jS (hc vv (List.mem_of_getElem? q3)) q5⟩,fun c hc=>by
  obtain⟨h1,buf,s,q,h2,h3,h4⟩:=R.chan c hc
  refine⟨h1,buf,s,q,h2,h3,fun i cs hi=>?_⟩
  obtain⟨a,u,rfl,q2,q3⟩:=h4 i cs hi
  exact⟨a,u,rfl,q2,jS (h [a] (List.mem_of_getElem? hi) a (by simp)) q3⟩⟩
def Handed (ids:List Id) (g:Rows):Prop:=∀id∈ids,∃r,g id=some r/\r.w=true/\∀cs∈r.rows,∀a∈cs,a.clean=true
theorem Hd {f:Nat} {args eF:List AV} {g:Rows} {n:Nat} {K:AV->ar->Prop} (hv:cP (dO g) 6 args=some eF)
  (h:Sound P f eF ⟨fun _=>none,n⟩ fun r σ'=>∃ids,r.zm=true/\Handed ids σ'.get/\K r ⟨yY ids g σ'.get,σ'.next⟩):Sound P f args ⟨g,n⟩ K:=by
 intro hs D ι w vs S U A
 let E:Nat->Prop:=fun b=>D b∨∃id r B,g id=some r/\ι id=some B/\b=B.b
 have lt:∀id r B,g id=some r->ι id=some B->B.b<w.heap.size:=fun id r B h1 h2=>by
  obtain⟨B',dz,R,_⟩:=S.row id r h1
  rw[h2]at dz;injection dz with dz;subst dz
  exact R.lt
 have S0:gr P w.heap.size E ι (fun _=>none) w:=⟨Nat.le_refl _,fun b hb=>by
  rcases hb with hb|⟨id,r,B,h1,h2,rfl⟩
  ·exact S.dead b hb
  ·exact lt id r B h1 h2,fun id r h=>(by cases h),fun id jW r r' B B' h=>(by cases h)⟩
 obtain⟨l1,l2⟩:=gE hv
 have A':fh P w E ι eF vs:=⟨by rw[A.1,l1],fun j a hj=>by
  obtain⟨a0,k9,hz⟩:=l2 j a hj
  obtain⟨u,hu,hr⟩:=A.2 j a0 k9
  refine⟨u,hu,(rq (D2:=E) (ι2:=ι) (fun b h=>.inl h) (fun id row hg hw=>?_) 6 a0 u a hr hz).1⟩
  unfold dO at hg
  simp only[Option.map_eq_some_iff]at hg
  obtain⟨r,nT,rfl⟩:=hg
  obtain⟨B,hB,R,_,_⟩:=S.row id r nT
  exact⟨B,hB,R.flag true,.inr ⟨id,r,B,nT,hB,rfl⟩⟩⟩
 refine(h w.heap.size E ι w vs S0 U A').mono ?_
 rintro e w' ⟨r0,g',n',D2,ι1,u,rfl,⟨ids,mU,hid,hK⟩,T,S1,U1,hn,hR⟩
 have hb:∀b,b<w.heap.size->w'.heap[b]? =w.heap[b]? :=T.below.block
 have hz:=T.below.size
 have frame:∀{a v},cH P w D ι a v->cH P w' D ι1 a v:=fun h=>h.frame (fun b hd=>hb b (S.dead b hd)) (fun _ h=>h) T.names
 refine⟨r0,_,n',D,ι1,u,rfl,hK,⟨T.below.mono S.lo,fun b hd=>hb b (S.dead b hd),fun _ h=>h,T.names,fun _ h=>.inl h⟩,⟨Nat.le_trans S.lo hz,fun b hd=>Nat.lt_of_lt_of_le (S.dead b hd) hz,fun id r hr=>?_,fun Rf id2 r1 r2 B1 B2 h1 h2 hw AB pN Mz=>?_⟩,U1,hn,DV mU hR⟩
 ·by_cases hi:id∈ids
  ·rw[r7 hi]at hr
   obtain⟨r',nT,hw,hcr⟩:=hid id hi
   rw[hr]at nT;injection nT with nT;subst nT
   obtain⟨B,hB,R,k1,k2⟩:=S1.row id r hr
   have kh:=k1 hw
   exact⟨B,hB,R.clean hcr,fun _=>Nat.le_trans S.lo kh,fun _ hd=>Nat.lt_irrefl _ (Nat.lt_of_lt_of_le (S.dead _ hd) kh)⟩
  ·rw[pH hi]at hr
   obtain⟨B,hB,R,k1,k2⟩:=S.row id r hr
   have RZ:=lt id r B hr hB
   exact⟨B,T.names _ _ hB,R.frame (hb _ RZ) fun a v h=>frame h,k1,k2⟩
 ·have new:∀{id r B},id∈ids->yY ids g g' id=some r->ι1 id=some B->w.heap.size<=B.b/\g' id=some r/\r.w=true:=fun {id r B} hi hr hB=>by
   rw[r7 hi]at hr
   obtain⟨r',nT,hw,_⟩:=hid id hi
   replace nT:g' id=some r':=nT
   rw[hr]at nT;injection nT with nT;subst nT
   obtain⟨B',dz,_,k1,_⟩:=S1.row id r hr
   rw[hB]at dz;injection dz with dz;subst dz
   exact⟨k1 hw,hr,hw⟩
  have yL:∀{id r B},id∉ids->yY ids g g' id=some r->ι1 id=some B->B.b<w.heap.size/\g id=some r/\ι id=some B:=fun {id r B} hi hr hB=>by
   rw[pH hi]at hr
   obtain⟨B',dz,_⟩:=S.row id r hr
   have:=T.names _ _ dz
   rw[hB]at this;injection this with this;subst this
   exact⟨lt id r _ hr dz,hr,dz⟩
  by_cases i1:Rf∈ids
  ·obtain⟨a1,a2,a3⟩:=new i1 h1 AB
   by_cases i2:id2∈ids
   ·obtain⟨b1,b2,b3⟩:=new i2 h2 pN
    exact S1.inj Rf id2 r1 r2 B1 B2 a2 b2 hw AB pN Mz
   ·obtain⟨b1,_⟩:=yL i2 h2 pN
    omega
  ·obtain⟨a1,a2,a3⟩:=yL i1 h1 AB
   by_cases i2:id2∈ids
   ·obtain⟨b1,_⟩:=new i2 h2 pN
    omega
   ·obtain⟨b1,b2,b3⟩:=yL i2 h2 pN
    exact S.inj Rf id2 r1 r2 B1 B2 a2 b2 hw a3 b3 Mz
theorem AI (hm:P.follows .mixedOrders=true) {f:Nat} {args eF:List AV} {σ:ar} {K:AV->ar->Prop} (hv:cP (dO σ.get) 6 args=some eF)
  (h:Call P f eF ⟨fun _=>none,σ.next⟩ fun r σ'=>∃ids,r.zm=true/\Handed ids σ'.get/\K r ⟨yY ids σ.get σ'.get,σ'.next⟩):Call P f args σ K:=
 gM (Hd hv (gn hm h))
end
end Go.Proofs.YtgoelphibofcmaaGreat.V

namespace Go.Proofs.YtgoelphibofcmaaGreat.V
open Go.RowKit
inductive nW:List AV->List AV->Prop
 |nil:nW [] []
 |same (a) {l l'}:nW l l'->nW (a::l) (a::l')
 |ptr (cs rest) {l l'}:nW l l'->nW (.di (cs++rest)::l) (.di cs::l')
 |cq {l l'}:nW l l'->nW (.cq::l) (.sl []::l')
theorem LZ {P:Program} {w:World} {D:Nat->Prop} {ι:Names} {cs rest:List AV} {v:Value} (h:cH P w D ι (.di (cs++rest)) v):cH P w D ι (.di cs) v:=by
 obtain⟨b,o,vs,rfl,h1,h2,h3,h4⟩:=kV h
 exact .eL _ _ (.di cs b o vs h1 (fun a ha=>h2 a (List.mem_append_left _ ha)) (fun j hj=>h3 j (by rw[List.length_append];omega)) fun j a ha=>h4 j a (by
  have:=(List.getElem?_eq_some_iff.1 ha).1
  rw[List.getElem?_append_left this];exact ha))
theorem L1 {P:Program} {w:World} {D:Nat->Prop} {ι:Names} {v:Value} (h:cH P w D ι .cq v):cH P w D ι (.sl []) v:=by
 cases h with
 |eL _ _ h=>
  cases h with
  |cq=>exact .eL _ _ (.AH none 0 (Nat.zero_le _))
theorem nW.len {l l':List AV} (h:nW l l'):l'.length=l.length:=by induction h<;>simp_all
theorem nW.get {P:Program} {w:World} {D:Nat->Prop} {ι:Names} {l l':List AV} (h:nW l l'):∀{j:Nat} {a':AV},l'[j]? =some a'->∃a,l[j]? =some a/\∀v,cH P w D ι a v->cH P w D ι a' v:=by
 induction h with
 |nil=>intro j a' hj;simp at hj
 |same a _ ih=>
  intro j a' hj
  cases j with
  |zero=>simp at hj;subst hj;exact⟨a,rfl,fun _ h=>h⟩
  |succ j=>exact ih (by simpa using hj)
 |ptr cs rest _ ih=>
  intro j a' hj
  cases j with
  |zero=>simp at hj;subst hj;exact⟨_,rfl,fun _ h=>LZ h⟩
  |succ j=>exact ih (by simpa using hj)
 |cq _ ih=>
  intro j a' hj
  cases j with
  |zero=>simp at hj;subst hj;exact⟨_,rfl,fun _ h=>L1 h⟩
  |succ j=>exact ih (by simpa using hj)
theorem Call.cut {P:Program} (hm:P.follows .mixedOrders=true) {f:Nat} {args eF:List AV} {σ:ar} {K:AV->ar->Prop} (hc:nW args eF) (h:Call P f eF σ K):Call P f args σ K:=
 gM fun hs D ι w vs S U A=>gn hm h hs D ι w vs S U ⟨by rw[A.1,hc.len],fun j a' hj=>by
  obtain⟨a,ha,hr⟩:=hc.get (P:=P) (w:=w) (D:=D) (ι:=ι) hj
  obtain⟨u,hu,hv⟩:=A.2 j a ha
  exact⟨u,hu,hr u hv⟩⟩
theorem aq.cut {P:Program} (hm:P.follows .mixedOrders=true) {f:Nat} {args eF:List AV} {r:AV} (hc:nW args eF) (h:aq P f eF r):aq P f args r:=fun n=>(h n).cut hm hc
theorem kd.cut {P:Program} (hm:P.follows .mixedOrders=true) {f:Nat} {args eF:List AV} {r:AV} (hc:nW args eF) (h:kd P f eF r):kd P f args r:=fun σ=>Call.cut hm hc (h σ)
end Go.Proofs.YtgoelphibofcmaaGreat.V

namespace Go.Proofs.YtgoelphibofcmaaGreat.V
open Go.RowKit
attribute [local irreducible] dI wpOps gD Call
attribute [local go_sem] aM fM eP gp gm cN upd cD K.av cR AV.cells AV.cell rowOf rowsOf part ld rowAt bz cu dG ef ik bQ dh eA gj e9 dq ek dd dc dU dV bW bf cW bV cY cX ei eo ej cV ck de eh bU aT da cG ij bx cQ b4 aY dn bc dH AV.undef bF bI eb ee dP dM cJ ez eE cF er ep cZ db List.getD_cons_zero List.getD_cons_succ List.getD_nil List.all_cons List.all_nil Bool.and_true Bool.true_and Bool.and_self Bool.not_true Bool.not_false Option.map_some Option.map_none Option.bind_some Option.bind_none List.length_cons List.length_nil List.take_succ_cons List.take_zero List.take_nil List.drop_succ_cons List.drop_zero List.drop_nil List.head?_cons List.map_cons List.map_nil List.getElem?_cons_zero List.getElem?_cons_succ List.cons_append List.nil_append List.append_nil List.length_map List.set_cons_zero List.set_cons_succ eq_self Int.toNat_natCast Int.natCast_nonneg and_self true_and and_true decide_true decide_false Bool.false_eq_true Nat.zero_add Nat.add_zero List.contains_cons List.contains_nil Bool.or_false Bool.false_or beq_self_eq_true ne_eq not_true_eq_false not_false_eq_true Id.mk.injEq false_and and_false Nat.le_refl List.length_append beq_true beq_false Bool.not_eq_eq_eq_not or_false false_or dO ai aj aH bp bE cz aX bl aW bj cU bH
section
variable {P:Program} {α:Type} {e:α->List AV} {z:Nat} {g g':Rows} {v:AV} {L:List α} {ids:List Id}
def y7 (e:α->List AV) (z:Nat) (g:Rows) (v:AV) (L:List α) (ids:List Id):Prop:=(L=[]/\v=.cq/\ids=[])∨∃o,v=.own o 0 L.length/\g o=some ⟨true,z,L.map e⟩/\ids=[o]/\0<L.length
def SN (e:α->List AV) (L:List α):AV:=if L.length=0 then .cq else .sl (L.map e)
theorem y7.frame (h:y7 e z g v L ids) (hf:∀i∈ids,g' i=g i):y7 e z g' v L ids:=by
 rcases h with h|⟨o,h1,h2,rfl,hp⟩
 ·exact .inl h
 ·exact .inr ⟨o,h1,(hf o (by simp)).trans h2,rfl,hp⟩
def ma (e:α->List AV) (L:List α) (w:AV):Prop:=(w=.cq/\L=[])∨w=.sl (L.map e)
theorem y7.fz (h:y7 e z g v L ids) (he:∀x g,cP g 5 (e x)=some (e x)):∃w,V.fz (dO g) 6 v=some w/\ma e L w:=by
 rcases h with⟨rfl,rfl,_⟩|⟨o,rfl,h2,_⟩
 ·exact⟨.cq,aX _ _,.inl ⟨rfl,rfl⟩⟩
 ·exact⟨_,gP (e:=e) (sz:=z) (by simp[dO,h2]) rfl fun x=>he x _,.inr rfl⟩
def uS (P:Program) (f:Nat) (args:List AV) (e:α->List AV) (z:Nat) (L:List α) (c:Int):Prop:=
 ∀n:Nat,Call P f args ⟨fun _=>none,n⟩ (fun r σ'=>∃v ids,r=.gK [v,.int .i64 c]/\y7 e z σ'.get v L ids/\gC n σ'.next ids)
theorem xM (hm:P.follows .mixedOrders=true) {f:Nat} {args:List AV} {σ:ar} {K:AV->ar->Prop} (h:Call P f args σ K):Call P f args σ (fun r σ'=>K r σ'/\σ.next<=σ'.next):=
 gM fun hs D ι w vs S U A=>(gn hm h hs D ι w vs S U A).mono (by
  rintro e w' ⟨r,g',n',D2,ι1,u,rfl,hK,T,S1,U1,hn,hR⟩
  exact⟨r,g',n',D2,ι1,u,rfl,⟨hK,hn⟩,T,S1,U1,hn,hR⟩)
theorem Hw (hm:P.follows .mixedOrders=true) {f:Nat} {args eF:List AV} {σ:ar} {c:Int} (mU:∀x,(e x).all AV.clean=true) (h:uS P f eF e z L c) (hv:cP (dO σ.get) 6 args=some eF):
  Call P f args σ (fun r σ'=>∃v ids,r=.gK [v,.int .i64 c]/\y7 e z σ'.get v L ids/\gC σ.next σ'.next ids/\Kept σ σ'):=by
 refine AI hm hv (aJ _ _ _ _ _ (fun r σ' hq=>?_) (xM hm (h σ.next)))
 obtain⟨⟨v,ids,rfl,ho,hi⟩,hn⟩:=hq
 refine⟨ids,?_,?_,v,ids,rfl,?_,hi,hn,fun j hj=>pH fun hc=>?_⟩
 ·rcases ho with⟨_,rfl,_⟩|⟨o,rfl,_⟩<;>rfl
 ·rcases ho with⟨_,_,rfl⟩|⟨o,_,h2,rfl,_⟩
  ·intro i hi;cases hi
  ·intro i hi
   rw[List.mem_singleton.1 hi]
   refine⟨_,h2,rfl,fun cs dt a ha=>?_⟩
   obtain⟨x,_,rfl⟩:=List.mem_map.1 dt
   have:=mU x
   rw[List.all_eq_true]at this
   exact this a ha
 ·exact ho.frame fun i hi=>r7 hi
 ·have:=(hi.2 j hc).1;omega
theorem uS.s {f:Nat} {args:List AV} {c:Int} (he:∀x g,ea g 4 (e x)=some (e x)) (h:uS P f args e z L c):aq P f args (.gK [SN e L,.int .i64 c]):=fun n=>
 aJ _ _ _ _ _ (fun r σ' hq=>by
  obtain⟨v,ids,rfl,ho,hi⟩:=hq
  rcases ho with⟨rfl,rfl,_⟩|⟨o,rfl,h2,_,hp⟩
  ·exact⟨_,by simp only[eW,bD,cE,kJ,eM,Option.map_some];rfl,rfl⟩
  ·have:=fD (e:=e) (n:=4) h2 rfl fun x=>he x _
   exact⟨_,by simp only[eW,bD,cE,this,eM,Option.map_some];rfl,by rw[SN,if_neg (by omega)]⟩) (h n)
theorem B7:ma e L (SN e L):=by
 unfold SN
 split
 ·rename_i h;exact .inl ⟨rfl,List.eq_nil_of_length_eq_zero h⟩
 ·exact .inr rfl
end
theorem ma.two {α:Type} {e:α->List AV} {L:List α} {w:AV} (h:ma e L w):nW [w] [.sl (L.map e)]:=by
 rcases h with⟨rfl,rfl⟩|rfl
 ·exact .cq .nil
 ·exact .same _ .nil
theorem ma.cut {α:Type} {e:α->List AV} {L:List α} {w:AV} (h:ma e L w) {l l':List AV} (hl:nW l l'):nW (w::l) (.sl (L.map e)::l'):=by
 rcases h with⟨rfl,rfl⟩|rfl
 ·exact .cq hl
 ·exact .same _ hl
end Go.Proofs.YtgoelphibofcmaaGreat.V

namespace Go.Proofs.YtgoelphibofcmaaGreat.V
open Go.RowKit
attribute [local irreducible] dI wpOps gD Call
attribute [local go_sem] aM fM eP gp gm cN upd cD K.av cR AV.cells AV.cell rowOf rowsOf part ld rowAt bz cu dG ef ik bQ dh eA gj e9 dq ek dd dc dU dV bW bf cW bV cY cX ei eo ej cV ck de eh bU aT da cG ij bx cQ b4 aY dn bc dH AV.undef bF bI eb ee dP dM cJ ez eE cF er ep cZ db List.getD_cons_zero List.getD_cons_succ List.getD_nil List.all_cons List.all_nil Bool.and_true Bool.true_and Bool.and_self Bool.not_true Bool.not_false Option.map_some Option.map_none Option.bind_some Option.bind_none List.length_cons List.length_nil List.take_succ_cons List.take_zero List.take_nil List.drop_succ_cons List.drop_zero List.drop_nil List.head?_cons List.map_cons List.map_nil List.getElem?_cons_zero List.getElem?_cons_succ List.cons_append List.nil_append List.append_nil List.length_map List.set_cons_zero List.set_cons_succ Nat.reduceMul eq_self Int.toNat_natCast Int.natCast_nonneg and_self true_and and_true decide_true decide_false Bool.false_eq_true Nat.zero_add Nat.add_zero List.contains_cons List.contains_nil Bool.or_false Bool.false_or beq_self_eq_true Nat.reduceBEq ne_eq not_true_eq_false not_false_eq_true Id.mk.injEq false_and and_false Nat.reduceLT Int.reduceLE Int.reduceLT Int.reduceToNat Int.reduceNeg Int.reduceAdd Nat.le_refl List.length_append beq_true beq_false Bool.not_eq_eq_eq_not or_false false_or dO ai aj aH bp bE cz aX bl aW bj cU bH
theorem Gy (i:Id) (l:List ad) (k:Int) (h0:0<=k) (h1:k+3*l.length<=4611686018427387904) (σ:ar) (hv:i.bP<σ.next) (hg:σ.get i=some ⟨true,3,l.map aa⟩):
  Call Tryz.prog 44 [.own i 0 l.length,.int .i64 k] σ (fun r σ'=>r=.int .i64 (k+3*l.length)/\pS σ [i] σ'.get σ'.next/\σ'.get i=some ⟨true,3,(BX k l.length).map aa⟩):=by
 refine eT eB rfl fun hl=>?_
 clear hl
 have hz:jE k l 0=l:=by simp[jE,BX]
 (try((repeat(revert hN;revert N;apply Pn.out));refine wk @Nat.zero_add ?_;(repeat(refine Pn.mk ?_;intro N hN))))
 refine aV (fun n env st=>∃j:Nat,n=(l.length)-j/\j<=(l.length)/\env 5=.int .i64 (j:Int)/\env 1=.int .i64 (k+3*j)/\st.get i=some ⟨true,3,(jE k l j).map aa⟩/\(pS σ [i] st.get st.next)) (l.length) ⟨0,by omega,by omega,sl (tw @Int.add_zero (tw @Int.natCast_zero (tw @Int.mul_zero (tw @hz @hg)))),sl (tw @Int.add_zero (tw @Int.natCast_zero (tw @Int.mul_zero (tw @hz @hg)))),sl (tw @Int.add_zero (tw @Int.natCast_zero (tw @Int.mul_zero (tw @hz @hg)))),by(try dsimp only);exact⟨by(try dsimp only);omega,fun x _ _=>rfl⟩⟩ ?_
 rintro n_a env_a st_a ⟨j,rfl,ale,a5,a1,ag0,lQ⟩ dD
 have a0:=dD 0 (by kernel_rfl)
 simp only[go_sem, ↓reduceIte,Nat.reduceEqDiff,Nat.reduceAdd,Nat.reduceSub,Nat.reduceLeDiff,reduceCtorEq,Int.add_zero,Int.natCast_zero,Int.mul_zero,hz,hg]at a0
 clear dD
 obtain⟨an,aF⟩:=lQ
 by_cases hj:(j:Int)<(l.length:Int)
 ·have cC:∀{e:Env} {gg:Rows} {nx:Nat},(e 5=.int .i64 (IntKind.i64.wrap ((j:Int)+1)))->(e 1=.int .i64 (k+3*(j+1)))->(gg i=some ⟨true,3,(jE k l (j+1)).map aa⟩)->(pS σ [i] gg nx)->∃m0,m0<(l.length)-j/\∃j:Nat,m0=(l.length)-j/\j<=(l.length)/\e 5=.int .i64 (j:Int)/\e 1=.int .i64 (k+3*j)/\gg i=some ⟨true,3,(jE k l j).map aa⟩/\(pS σ [i] gg nx):=fun x1 x2 x3 x4=>⟨_,by omega,j+1,rfl,by omega,(by rw[x1,az (by omega)]),x2,x3,x4⟩
  have iO:j<l.length:=by omega
  have fc:=Fm (k:=k) iO
  have eC:=BZ (k:=k) iO
  have nU:IntKind.i64.wrap (k+3*(j:Int)+1)=k+3*(j:Int)+1:=bt (by omega)
  have pQ:IntKind.i64.wrap (k+3*(j:Int)+1+1)=k+3*(j:Int)+2:=by rw[bt (by omega)];omega
  have IS:IntKind.i64.wrap (k+3*(j:Int)+2+1)=k+3*((j:Int)+1):=by rw[bt (by omega)];omega
  have hlen:((jE k l j).map aa).length=l.length:=by rw[List.length_map,BY (by omega)]
  have Iy:∀c:List AV,(((jE k l j).map aa).set j c)[j]? =some c:=fun c=>by rw[List.getElem?_set_self (by rw[hlen];exact iO)]
  (try((repeat(revert hN;revert N;apply Pn.out));refine wk (tw @a5 (tw @a1 (tw @ag0 (tw @a0 (tw @hj (tw @fc (tw @Iy (tw @eC (tw @nU (tw @pQ (tw @IS (tw @hlen @rX)))))))))))) ?_;(repeat(refine Pn.mk ?_;intro N hN))))
  refine cC ?_ ?_ ?_ (by(try dsimp only);exact⟨by(try dsimp only);omega,fun x hx hi=>by
   have h2:=aF x hx hi
   have h3:(x=i)=False:=eq_false fun e=>hi (by simp[e])
   simp only[go_sem, ↓reduceIte,Nat.reduceEqDiff,Nat.reduceAdd,Nat.reduceSub,Nat.reduceLeDiff,reduceCtorEq,h2,h3]⟩)
  all_goals simp only[go_sem, ↓reduceIte,Nat.reduceEqDiff,Nat.reduceAdd,Nat.reduceSub,Nat.reduceLeDiff,reduceCtorEq,a5,a1,ag0,a0,IS,eC]
 ·have iO:j=l.length:=by omega
  subst iO
  (try((repeat(revert hN;revert N;apply Pn.out));refine wk (tw @a5 (tw @a1 (tw @ag0 (tw @a0 @hj)))) ?_;(repeat(refine Pn.mk ?_;intro N hN))))
  have lg:jE k l l.length=BX k l.length:=by simp[jE]
  rw[lg]at ag0
  exact fw (.inl rfl) (vs:=[.int .i64 (k+3*l.length)]) (sd (tw @a5 (tw @a1 (tw @ag0 @a0)))) ⟨rfl,⟨by(try dsimp only);omega,fun x hx hi=>aF x hx hi⟩,ag0⟩
theorem OB (k:Int) {n j:Nat} (h:j<n):((BX k n).map aa)[j]? =some [.int .i64 (k+3*(j:Int)),.int .i64 (k+3*(j:Int)+1),.int .i64 (k+3*(j:Int)+2)]:=by
 simp[BX,h,aa]
theorem F8 (k:Int) (n:Nat) (h0:0<=k) (h1:k+3*n<=4611686018427387904):aq Tryz.prog 45 [.sl ((BX k n).map aa),.int .i64 k] (.int .i64 (k+3*n)):=by
 refine aq.body eB rfl fun hl n0=>?_
 clear hl
 obtain⟨m,hm⟩:∃m,n=m:=⟨_,rfl⟩
 rw[hm]at h1 ⊢
 (try((repeat(revert hN;revert N;apply Pn.out));refine wk @iy ?_;(repeat(refine Pn.mk ?_;intro N hN))))
 refine aV (fun n env st=>∃j:Nat,n=(m)-j/\j<=(m)/\env 5=.int .i64 (j:Int)/\env 1=.int .i64 (k+3*j)) (m) ⟨0,by omega,by omega,sl (tw @Int.add_zero (tw @Int.natCast_zero (tw @Int.mul_zero @iy))),sl (tw @Int.add_zero (tw @Int.natCast_zero (tw @Int.mul_zero @iy)))⟩ ?_
 rintro n_a env_a st_a ⟨j,rfl,ale,a5,a1⟩ dD
 have a0:=dD 0 (by kernel_rfl)
 simp only[go_sem, ↓reduceIte,Nat.reduceEqDiff,Nat.reduceAdd,Nat.reduceSub,Nat.reduceLeDiff,reduceCtorEq,Int.add_zero,Int.natCast_zero,Int.mul_zero,iy]at a0
 clear dD
 by_cases hj:(j:Int)<(m:Int)
 ·have cC:∀{e:Env},(e 5=.int .i64 (IntKind.i64.wrap ((j:Int)+1)))->(e 1=.int .i64 (k+3*(j+1)))->∃m0,m0<(m)-j/\∃j:Nat,m0=(m)-j/\j<=(m)/\e 5=.int .i64 (j:Int)/\e 1=.int .i64 (k+3*j):=fun x1 x2=>⟨_,by omega,j+1,rfl,by omega,(by rw[x1,az (by omega)]),x2⟩
  have fc:=OB k (n:=m) (j:=j) (by omega)
  have nU:IntKind.i64.wrap (k+3*(j:Int)+1)=k+3*(j:Int)+1:=bt (by omega)
  have pQ:IntKind.i64.wrap (k+3*(j:Int)+1+1)=k+3*(j:Int)+2:=by rw[bt (by omega)];omega
  have IS:IntKind.i64.wrap (k+3*(j:Int)+2+1)=k+3*((j:Int)+1):=by rw[bt (by omega)];omega
  have e1:decide (k+3*(j:Int)=k+3*(j:Int))=true:=decide_eq_true rfl
  have e2:decide (k+3*(j:Int)+1=k+3*(j:Int)+1)=true:=decide_eq_true rfl
  have e3:decide (k+3*(j:Int)+2=k+3*(j:Int)+2)=true:=decide_eq_true rfl
  (try((repeat(revert hN;revert N;apply Pn.out));refine wk (tw @a5 (tw @a1 (tw @a0 (tw @hj (tw @fc (tw @nU (tw @pQ (tw @IS (tw @iy (tw @e1 (tw @e2 @e3))))))))))) ?_;(repeat(refine Pn.mk ?_;intro N hN))))
  refine cC ?_ ?_
  all_goals simp only[go_sem, ↓reduceIte,Nat.reduceEqDiff,Nat.reduceAdd,Nat.reduceSub,Nat.reduceLeDiff,reduceCtorEq,a5,a1,a0,IS]
 ·have iO:j=m:=by omega
  subst iO
  (try((repeat(revert hN;revert N;apply Pn.out));refine wk (tw @a5 (tw @a1 (tw @a0 (tw @hj @iy)))) ?_;(repeat(refine Pn.mk ?_;intro N hN))))
  exact cj (b:=k+3*(j:Int)) (.inl rfl) (sd (tw @a5 (tw @a1 @a0))) rfl
theorem KW (a b:ad):aq Tryz.prog 26 [.agg (aa a),.agg (aa b)] (.bool (decide (a=b))):=by
 refine aq.body eB rfl fun hl n0=>?_
 clear hl
 have h:=x8 a.aO b.aO
 rw[ae,ae]at h
 by_cases h1:a.aO=b.aO
 ·rw[decide_eq_true h1]at h
  by_cases h2:a.aQ=b.aQ
  ·have e2:decide (a.aQ=b.aQ)=true:=decide_eq_true h2
   (repeat(first|((repeat(revert hN;revert N;apply Pn.out));refine wk (tw @aa.eq_1 @e2) ?_;(repeat(refine Pn.mk ?_;intro N hN)))|((try apply Or.inl);refine⟨_,aq.x (h) (sd (tw @aa.eq_1 @e2)),?_⟩;refine hN _ _ ?_;clear hN N)))
   exact aU (b:=true) (.inl rfl) (sd @Nat.zero_add) (decide_eq_true (by cases a;cases b;simp_all)).symm
  ·have e2:decide (a.aQ=b.aQ)=false:=decide_eq_false h2
   (repeat(first|((repeat(revert hN;revert N;apply Pn.out));refine wk (tw @aa.eq_1 @e2) ?_;(repeat(refine Pn.mk ?_;intro N hN)))|((try apply Or.inl);refine⟨_,aq.x (h) (sd (tw @aa.eq_1 @e2)),?_⟩;refine hN _ _ ?_;clear hN N)))
   exact aU (b:=false) (.inl rfl) (sd @Nat.zero_add) (decide_eq_false (by rintro rfl;exact h2 rfl)).symm
 ·rw[decide_eq_false h1]at h
  (repeat(first|((repeat(revert hN;revert N;apply Pn.out));refine wk @aa.eq_1 ?_;(repeat(refine Pn.mk ?_;intro N hN)))|((try apply Or.inl);refine⟨_,aq.x (h) (sd @aa.eq_1),?_⟩;refine hN _ _ ?_;clear hN N)))
  exact aU (b:=false) (.inl rfl) (sd @Nat.zero_add) (decide_eq_false (by rintro rfl;exact h1 rfl)).symm
theorem H8 (xs ys:List ad):aq Tryz.prog 43 [.sl (xs.map aa),.sl (ys.map aa)] (.bool (decide (xs=ys))):=
 zq (show l5 Tryz.prog 43=some (Bb 43 26 3) by kernel_rfl) (fun _=>rfl) vL xs ys KW
theorem sG {L:List ad} {v w:AV} (hv:ma aa L v) (hw:ma aa L w):aq Tryz.prog 43 [v,w] (.bool true):=by
 have h:=H8 L L
 rw[decide_eq_true rfl]at h
 exact h.cut mixed (hv.cut (hw.cut .nil))
theorem DI (k:Int) (σ:ar):Call Tryz.prog 44 [.cq,.int .i64 k] σ (fun r σ'=>r=.int .i64 k/\pS σ [] σ'.get σ'.next):=by
 refine eT eB rfl fun hl=>?_
 clear hl
 (try((repeat(revert hN;revert N;apply Pn.out));refine wk @Nat.zero_add ?_;(repeat(refine Pn.mk ?_;intro N hN))))
 refine aV (fun n env st=>(env 1=.int .i64 k/\env 5=.int .i64 0/\env 0=.cq)/\σ.next<=st.next/\∀x:Id,st.get x=σ.get x) 0 ⟨⟨sd @Nat.zero_add,sd @Nat.zero_add,sd @Nat.zero_add⟩,by(try dsimp only);omega,fun _=>rfl⟩ ?_
 rintro m e st ⟨⟨a1,a5,a0⟩,an,aF⟩ -
 have d0:decide ((0:Int)<((0:Nat):Int))=false:=rfl
 (try((repeat(revert hN;revert N;apply Pn.out));refine wk (tw @a0 (tw @a1 (tw @a5 @d0))) ?_;(repeat(refine Pn.mk ?_;intro N hN))))
 exact fw (.inl rfl) (vs:=[.int .i64 k]) (sd @a1) ⟨rfl,⟨by(try dsimp only);omega,fun x hx hi=>aF x⟩⟩
theorem DJ {v:AV} {L:List ad} {ids:List Id} (k:Int) (h0:0<=k) (h1:k+3*L.length<=4611686018427387904) (σ:ar) (hv:∀i∈ids,i.bP<σ.next) (h:y7 aa 3 σ.get v L ids):
  Call Tryz.prog 44 [v,.int .i64 k] σ (fun r σ'=>r=.int .i64 (k+3*L.length)/\pS σ ids σ'.get σ'.next/\y7 aa 3 σ'.get v (BX k L.length) ids):=by
 rcases h with⟨rfl,rfl,rfl⟩|⟨o,rfl,h2,rfl,hp⟩
 ·refine aJ _ _ _ _ _ (fun r σ' hq=>?_) (DI k σ)
  obtain⟨rfl,hB⟩:=hq
  exact⟨by simp,hB,.inl ⟨rfl,rfl,rfl⟩⟩
 ·refine aJ _ _ _ _ _ (fun r σ' hq=>?_) (Gy o L k h0 h1 σ (hv o (by simp)) h2)
  obtain⟨rfl,hB,hg⟩:=hq
  exact⟨rfl,hB,.inr ⟨o,by rw[iy],hg,rfl,by rw[iy];exact hp⟩⟩
theorem vP {w:AV} (k:Int) (n:Nat) (h0:0<=k) (h1:k+3*n<=4611686018427387904) (hw:ma aa (BX k n) w):aq Tryz.prog 45 [w,.int .i64 k] (.int .i64 (k+3*n)):=
 (F8 k n h0 h1).cut mixed (hw.cut (.same _ .nil))
end Go.Proofs.YtgoelphibofcmaaGreat.V

namespace Go.Proofs.YtgoelphibofcmaaGreat.V
open Go.RowKit
variable {P:Program}
theorem Ow (hm:P.follows .mixedOrders=true) {f:Nat} {args:List AV} {vs:Array Value} {w:World} (h:aq P f args (.bool true)) (hA:fh P w (fun b=>b<w.heap.size) (fun _=>none) args vs):
  Calls P f vs w fun e w'=>e=.returned (.bool true)/\Below w.heap.size w w':=by
 have hs:=gn hm (h 0) w.heap.size (fun b=>b<w.heap.size) (fun _=>none) w vs ⟨Nat.le_refl _,fun _ h=>h,fun id r h=>(by cases h),fun id jW r r' B B' h=>(by cases h)⟩ (fun id h=>absurd rfl h) hA
 refine hs.mono ?_
 rintro e w' ⟨r,g',n',D',ι',u,rfl,⟨r',hz,rfl⟩,dE,hsim,_,_,gJ⟩
 have hr:r=.bool true:=by
  cases r<;>rw[gu]at hz<;>simp_all
  all_goals (repeat' (split at hz))<;>simp_all
 subst hr
 exact⟨by rw[eZ gJ],dE.below⟩
theorem mu {xs:List AV} {w:World} {D:Nat->Prop} {ι:Names} {a:AV} {v:Value} {vs:Array Value} (h:jG P w D a v) (k:fh P w D ι xs vs):fh P w D ι (a::xs) (#[v]++vs):=
 oW (xs:=[a]) ⟨rfl,fun j b hj=>by
  cases j with
  |zero=>simp at hj;subst hj;exact⟨v,rfl,.eL _ _ h⟩
  |succ j=>simp at hj⟩ k
end Go.Proofs.YtgoelphibofcmaaGreat.V

namespace Go.Proofs.YtgoelphibofcmaaGreat.V
open Go.RowKit
attribute [local irreducible] dI wpOps gD Call
attribute [local go_sem] aM fM eP gp gm cN upd cD K.av cR AV.cells AV.cell rowOf rowsOf part ld rowAt bz cu dG ef ik bQ dh eA gj e9 dq ek dd dc dU dV bW bf cW bV cY cX ei eo ej cV ck de eh bU aT da cG ij bx cQ b4 aY dn bc dH AV.undef bF bI eb ee dP dM cJ ez eE cF er ep cZ db List.getD_cons_zero List.getD_cons_succ List.getD_nil List.all_cons List.all_nil Bool.and_true Bool.true_and Bool.and_self Bool.not_true Bool.not_false Option.map_some Option.map_none Option.bind_some Option.bind_none List.length_cons List.length_nil List.take_succ_cons List.take_zero List.take_nil List.drop_succ_cons List.drop_zero List.drop_nil List.head?_cons List.map_cons List.map_nil List.getElem?_cons_zero List.getElem?_cons_succ List.cons_append List.nil_append List.append_nil List.length_map List.set_cons_zero List.set_cons_succ Nat.reduceMul eq_self Int.toNat_natCast Int.natCast_nonneg and_self true_and and_true decide_true decide_false Bool.false_eq_true Nat.zero_add Nat.add_zero List.contains_cons List.contains_nil Bool.or_false Bool.false_or beq_self_eq_true Nat.reduceBEq ne_eq not_true_eq_false not_false_eq_true Id.mk.injEq false_and and_false Nat.reduceLT Int.reduceLE Int.reduceLT Int.reduceToNat Int.reduceNeg Int.reduceAdd Nat.le_refl List.length_append beq_true beq_false Bool.not_eq_eq_eq_not or_false false_or dO ai aj aH bp bE cz aX bl aW bj cU bH
theorem OU {α:Type} (f:α->Nat) {xs:List α} {x:α} (h:x∈xs):f x<=(xs.map f).sum:=by
 induction xs with
 |nil=>cases h
 |cons y ys ih=>
  simp only[List.map_cons,List.sum_cons]
  rcases List.mem_cons.1 h with rfl|h
  ·omega
  ·have:=ih h;omega
theorem G0 {s:aA} (h:w9 s<=1048576):qT s:=by
 unfold w9 uo at h
 refine⟨⟨by omega,by omega,fun t ht=>?_⟩,by omega⟩
 have:=OU kp ht
 have h2:t.br.length<=kp t:=by unfold kp;omega
 unfold su
 omega
theorem zp (a:dL):aq Tryz.prog 21 [.agg (aP a),.agg (aP a)] (.bool true):=by
 refine aq.body eB rfl fun hl n0=>?_
 clear hl
 have h1:=tz a.ah a.ah
 rw[decide_eq_true rfl]at h1
 (repeat(first|((repeat(revert hN;revert N;apply Pn.out));refine wk @aP.eq_1 ?_;(repeat(refine Pn.mk ?_;intro N hN)))|((try apply Or.inl);refine⟨_,aq.x (h1) (sd @aP.eq_1),?_⟩;refine hN _ _ ?_;clear hN N)))
 exact aU (b:=true) (.inl rfl) (sd @Nat.zero_add) rfl
end Go.Proofs.YtgoelphibofcmaaGreat.V

namespace Go.Proofs.YtgoelphibofcmaaGreat.V
open Go.RowKit
attribute [local irreducible] dI wpOps gD Call
attribute [local go_sem] aM fM eP gp gm cN upd cD K.av cR AV.cells AV.cell rowOf rowsOf part ld rowAt bz cu dG ef ik bQ dh eA gj e9 dq ek dd dc dU dV bW bf cW bV cY cX ei eo ej cV ck de eh bU aT da cG ij bx cQ b4 aY dn bc dH AV.undef bF bI eb ee dP dM cJ ez eE cF er ep cZ db List.getD_cons_zero List.getD_cons_succ List.getD_nil List.all_cons List.all_nil Bool.and_true Bool.true_and Bool.and_self Bool.not_true Bool.not_false Option.map_some Option.map_none Option.bind_some Option.bind_none List.length_cons List.length_nil List.take_succ_cons List.take_zero List.take_nil List.drop_succ_cons List.drop_zero List.drop_nil List.head?_cons List.map_cons List.map_nil List.getElem?_cons_zero List.getElem?_cons_succ List.cons_append List.nil_append List.append_nil List.length_map List.set_cons_zero List.set_cons_succ eq_self Int.toNat_natCast Int.natCast_nonneg and_self true_and and_true decide_true decide_false Bool.false_eq_true Nat.zero_add Nat.add_zero List.contains_cons List.contains_nil Bool.or_false Bool.false_or beq_self_eq_true ne_eq not_true_eq_false not_false_eq_true Id.mk.injEq false_and and_false Nat.le_refl List.length_append beq_true beq_false Bool.not_eq_eq_eq_not or_false false_or dO ai aj aH bp bE cz aX bl aW bj cU bH
theorem GK (x:ad) (g:Rows):ea g 4 (aa x)=some (aa x):=by simp[aa,bD,cE,eM]
theorem G1 {g:Rows} {v w:AV} {s:aA} {a:dL} {i j:List Id} (hX:zb g v s i) (hY:xg g w a j):cP (dO g) 6 [v,w]=some [.agg (aw s),.agg (aP a)]:=by
 simp only[ai,aj,hX.fz 1,hY.fz 2,Option.map_some]
theorem L9 {g:Rows} {v w:AV} {s:aA} {i:List Id} (hX:zb g v s i) (hw:fz (dO g) 6 w=some w):cP (dO g) 6 [v,w]=some [.agg (aw s),w]:=by
 simp only[ai,aj,hX.fz 1,hw,Option.map_some]
theorem KI {g:Rows} {v w:AV} {s:dL} {i:List Id} (hX:xg g v s i) (hw:fz (dO g) 6 w=some w):cP (dO g) 6 [v,w]=some [.agg (aP s),w]:=by
 simp only[ai,aj,hX.fz 2,hw,Option.map_some]
theorem EJ (g:Rows) (s:aA):fz g 6 (.agg (aw s))=some (.agg (aw s)):=by simp[aw,bl,ai,aj,cz,aH]
theorem EI (g:Rows) (s:dL):fz g 6 (.agg (aP s))=some (.agg (aP s)):=by simp[aP,bl,ai,aj,cz]
theorem tg {g:Rows} {v w v' w':AV} (h1:fz g 6 v=some v') (h2:fz g 6 w=some w'):cP g 6 [v,w]=some [v',w']:=by
 simp only[ai,aj,h1,h2,Option.map_some]
theorem LG (s:aA):BR s<=3*w9 s:=by
 have h:∀l:List eR,(l.map gF).sum<=l.length+(l.map kp).sum:=fun l=>by
  induction l with
  |nil=>simp
  |cons t l ih=>simp only[List.map_cons,List.sum_cons,List.length_cons,gF,kp]at *;omega
 have:=h s.aE.ah
 unfold BR w9 uo
 omega
theorem gC.not {a b:Nat} {ids:List Id} (h:gC a b ids) {x:Id} (hx:x.bP<a∨b<=x.bP):x∉ids:=fun hc=>by
 have:=h.2 x hc;omega
theorem ma.fz {α:Type} {e:α->List AV} {L:List α} {w:AV} (h:ma e L w) (g:Rows):V.fz g 6 w=some w:=by
 rcases h with⟨rfl,rfl⟩|rfl
 ·exact aX _ _
 ·exact cz _ _ _
end Go.Proofs.YtgoelphibofcmaaGreat.V

namespace Go.Proofs.YtgoelphibofcmaaGreat.V
open Go.RowKit
attribute [local irreducible] dI wpOps gD Call
attribute [local go_sem] aM fM eP gp gm cN upd cD K.av cR AV.cells AV.cell rowOf rowsOf part ld rowAt bz cu dG ef ik bQ dh eA gj e9 dq ek dd dc dU dV bW bf cW bV cY cX ei eo ej cV ck de eh bU aT da cG ij bx cQ b4 aY dn bc dH AV.undef bF bI eb ee dP dM cJ ez eE cF er ep cZ db List.getD_cons_zero List.getD_cons_succ List.getD_nil List.all_cons List.all_nil Bool.and_true Bool.true_and Bool.and_self Bool.not_true Bool.not_false Option.map_some Option.map_none Option.bind_some Option.bind_none List.length_cons List.length_nil List.take_succ_cons List.take_zero List.take_nil List.drop_succ_cons List.drop_zero List.drop_nil List.head?_cons List.map_cons List.map_nil List.getElem?_cons_zero List.getElem?_cons_succ List.cons_append List.nil_append List.append_nil List.length_map List.set_cons_zero List.set_cons_succ Nat.reduceMul eq_self Int.toNat_natCast Int.natCast_nonneg and_self true_and and_true decide_true decide_false Bool.false_eq_true Nat.zero_add Nat.add_zero List.contains_cons List.contains_nil Bool.or_false Bool.false_or beq_self_eq_true Nat.reduceBEq ne_eq not_true_eq_false not_false_eq_true Id.mk.injEq false_and and_false Nat.reduceLT Int.reduceLE Int.reduceLT Int.reduceToNat Int.reduceNeg Int.reduceAdd Nat.le_refl List.length_append beq_true beq_false Bool.not_eq_eq_eq_not or_false false_or dO ai aj aH bp bE cz aX bl aW bj cU bH
theorem Lz (Nh:aA->dL->List ad×Int)
  (QY:∀s a,fV s.aE->qT s->a.ah.length<=1048576->∃w,ma aa (Nh s a).1 w/\kd Tryz.prog 46 [.agg (aw s),.agg (aP a)] (.gK [w,.int .i64 (Nh s a).2]))
  (QL:∀s a,fV s.aE->qT s->a.ah.length<=1048576->uS Tryz.prog 47 [.agg (aw s),.agg (aP a)] aa 3 (Nh s a).1 (Nh s a).2)
  (hlen:∀s a,qT s->a.ah.length<=1048576->(Nh s a).1.length<=1152921504606846976)
  (s:aA) (a:dL) (hn:fV s.aE):aq Tryz.prog 10 [.agg (aw s),.agg (aP a)] (.bool true):=by
 refine aq.body eB rfl fun hl n0=>?_
 clear hl
 have h1:=Ej s 1048576 (by omega) (by omega) hn
 by_cases hf:(w9 s:Int)<=1048576
 ·rw[iC hf]at h1
  have kr:¬(1048576:Int)-(w9 s:Int)<0:=by omega
  have h2:=r5 a (1048576-w9 s) (by omega) (by omega)
  by_cases hg:(a.ah.length:Int)<=1048576-w9 s
  ·rw[iC hg]at h2
   have EZ:¬(1048576:Int)-(w9 s:Int)-(a.ah.length:Int)<0:=by omega
   have sm:=G0 (s:=s) (by omega)
   have am:a.ah.length<=1048576:=by omega
   have t1:=Ep s sm
   have t2:=r9 a am
   obtain⟨w,hw,r1⟩:=QY s a hn sm am
   have r2:=QL s a hn sm am
   have q1:=C3 s
   have q2:=zp a
   have hL:=hlen s a sm am
   obtain⟨L,hLe⟩:∃L,(Nh s a).1=L:=⟨_,rfl⟩
   obtain⟨c,hc⟩:∃c,(Nh s a).2=c:=⟨_,rfl⟩
   rw[hc]at r1
   rw[hLe,hc]at r2
   rw[hLe]at hw hL
   have IT:=fun σ=>Eo s sm σ
   have Q9:=fun σ=>r8 a am σ
   rw[aw]at IT
   rw[aP]at Q9
   have e2:decide (c=c)=true:=by simp
   rw[aw]at h1
   rw[aP]at h2
   (repeat(first|((repeat(revert hN;revert N;apply Pn.out));refine wk (tw @aw.eq_1 (tw @aP.eq_1 (tw @kr @EZ))) ?_;(repeat(refine Pn.mk ?_;intro N hN)))|((try apply Or.inl);refine⟨_,aq.x (h1) (sd (tw @aw.eq_1 (tw @aP.eq_1 (tw @kr @EZ)))),?_⟩;refine hN _ _ ?_;clear hN N)|((try apply Or.inl);refine⟨_,aq.x (h2) (sd (tw @aw.eq_1 (tw @aP.eq_1 (tw @kr @EZ)))),?_⟩;refine hN _ _ ?_;clear hN N)))
   refine⟨_,kd.x (by rw[aw]at t1;exact t1) _,?_⟩
   refine hN _ _ ?_
   clear hN N
   (try((repeat(revert hN;revert N;apply Pn.out));refine wk @aP.eq_1 ?_;(repeat(refine Pn.mk ?_;intro N hN))))
   refine⟨_,kd.x (by rw[aP]at t2;exact t2) _,?_⟩
   refine hN _ _ ?_
   clear hN N
   (try((repeat(revert hN;revert N;apply Pn.out));refine wk @Nat.zero_add ?_;(repeat(refine Pn.mk ?_;intro N hN))))
   refine⟨_,kd.x (by rw[aw,aP]at r1;exact r1) _,?_⟩
   refine hN _ _ ?_
   clear hN N
   (try((repeat(revert hN;revert N;apply Pn.out));refine wk @Nat.zero_add ?_;(repeat(refine Pn.mk ?_;intro N hN))))
   refine .inr (aJ _ _ _ _ _ (fun r σ1 hq=>?_) (IT _))
   obtain⟨iX,hX,Mu,Qk⟩:=hq
   obtain⟨g1,x1⟩:=σ1
   (try dsimp only at hX Mu Qk)
   obtain⟨A,B,C,j1,j2,j3,rfl,hA,hB,hC,rfl⟩:=hX.ex
   obtain⟨oA,rfl⟩:=hA.kP
   obtain⟨oB,rfl⟩:=hB.kP
   obtain⟨oC,rfl⟩:=hC.kP
   clear hA hB hC
   have nX:=Qk.1
   have bX:=Mu.2
   (try dsimp only at nX bX)
   have kA:=Qk.2 ⟨10000000,n0⟩ (by(try dsimp only);omega)
   have kB:=Qk.2 ⟨10000001,n0⟩ (by(try dsimp only);omega)
   simp only[go_sem, ↓reduceIte,Nat.reduceEqDiff,Nat.reduceAdd,Nat.reduceSub,Nat.reduceLeDiff,reduceCtorEq]at kA kB
   refine hN _ _ ?_
   clear hN N
   (try((repeat(revert hN;revert N;apply Pn.out));refine wk (tw @kA @kB) ?_;(repeat(refine Pn.mk ?_;intro N hN))))
   refine .inr (aJ _ _ _ _ _ (fun r σ2 hq=>?_) (Q9 _))
   obtain⟨iY,hY0,Qj,NR⟩:=hq
   obtain⟨g2,x2⟩:=σ2
   (try dsimp only at hY0 Qj NR)
   obtain⟨D,rfl,hD⟩:=hY0
   obtain⟨oD,rfl⟩:=hD.kP
   have hY:xg g2 (.agg [.own oD 0 a.ah.length]) a iY:=⟨_,rfl,hD⟩
   have nY:=NR.1
   have bY:=Qj.2
   (try dsimp only at nY bY)
   have lA:=NR.2 ⟨10000000,n0⟩ (by(try dsimp only);omega)
   have lB:=NR.2 ⟨10000001,n0⟩ (by(try dsimp only);omega)
   have lX:=NR.2 ⟨10009002,x1⟩ (by(try dsimp only);omega)
   have vA:=dw (i:=⟨10000000,n0⟩) (n:=x1) (by(try dsimp only);omega)
   have vB:=dw (i:=⟨10000001,n0⟩) (n:=x1) (by(try dsimp only);omega)
   simp only[go_sem, ↓reduceIte,Nat.reduceEqDiff,Nat.reduceAdd,Nat.reduceSub,Nat.reduceLeDiff,reduceCtorEq,kA,kB,vA,vB]at lA lB lX
   have TH:=hX.frame (g':=g2) fun i hi=>by
    have h3:=bX i hi
    have h4:=NR.2 i (by(try dsimp only);omega)
    have h5:=dw (i:=i) (n:=x1) (by omega)
    simp only[go_sem, ↓reduceIte,Nat.reduceEqDiff,Nat.reduceAdd,Nat.reduceSub,Nat.reduceLeDiff,reduceCtorEq,h5]at h4
    exact h4
   clear hX Qk NR hD kA kB
   refine hN _ _ ?_
   clear hN N
   have uX:=dw (i:=⟨10009002,x1⟩) (n:=x2) (by(try dsimp only);omega)
   (try((repeat(revert hN;revert N;apply Pn.out));refine wk (tw @lA (tw @lB (tw @lX @uX))) ?_;(repeat(refine Pn.mk ?_;intro N hN))))
   refine .inr (aJ _ _ _ _ _ (fun r σ3 hq=>?_) (Hw mixed (fun _=>rfl) r2 (G1 (TH.frame fun i hi=>by
    have h5:=dw (i:=i) (n:=x2) (by have:=bX i hi;omega)
    simp only[go_sem, ↓reduceIte,Nat.reduceEqDiff,Nat.reduceAdd,Nat.reduceSub,Nat.reduceLeDiff,reduceCtorEq,h5]) (hY.frame fun i hi=>by
    have h5:=dw (i:=i) (n:=x2) (by have:=bY i hi;omega)
    simp only[go_sem, ↓reduceIte,Nat.reduceEqDiff,Nat.reduceAdd,Nat.reduceSub,Nat.reduceLeDiff,reduceCtorEq,h5]))))
   obtain⟨v,iZ,rfl,hZ,R5,Mv⟩:=hq
   obtain⟨g3,x3⟩:=σ3
   (try dsimp only at hZ R5 Mv)
   have nZ:=Mv.1
   have bZ:=R5.2
   (try dsimp only at nZ bZ)
   have wA:=dw (i:=⟨10000000,n0⟩) (n:=x2) (by(try dsimp only);omega)
   have wB:=dw (i:=⟨10000001,n0⟩) (n:=x2) (by(try dsimp only);omega)
   have mA:=Mv.2 ⟨10000000,n0⟩ (by(try dsimp only);omega)
   have mB:=Mv.2 ⟨10000001,n0⟩ (by(try dsimp only);omega)
   have mX:=Mv.2 ⟨10009002,x1⟩ (by(try dsimp only);omega)
   have mY:=Mv.2 ⟨10010002,x2⟩ (by(try dsimp only);omega)
   simp only[go_sem, ↓reduceIte,Nat.reduceEqDiff,Nat.reduceAdd,Nat.reduceSub,Nat.reduceLeDiff,reduceCtorEq,lA,lB,lX,wA,wB,uX]at mA mB mX mY
   have fr3:∀i:Id,i.bP<x2->g3 i=g2 i:=fun i hi=>by
    have h4:=Mv.2 i (by(try dsimp only);omega)
    have h5:=dw (i:=i) (n:=x2) hi
    simp only[go_sem, ↓reduceIte,Nat.reduceEqDiff,Nat.reduceAdd,Nat.reduceSub,Nat.reduceLeDiff,reduceCtorEq,h5]at h4
    exact h4
   have TI:=TH.frame (g':=g3) fun i hi=>fr3 i (by have:=bX i hi;omega)
   have TJ:=hY.frame (g':=g3) fun i hi=>fr3 i (by have:=bY i hi;omega)
   clear TH hY Mv lA lB lX
   obtain⟨wv,p4,N4⟩:=hZ.fz fun x g=>by simp[aa,ai,aj,aH]
   refine hN _ _ ?_
   clear hN N
   (try((repeat(revert hN;revert N;apply Pn.out));refine wk (tw @mA (tw @mB (tw @mX @mY))) ?_;(repeat(refine Pn.mk ?_;intro N hN))))
   refine .inl ⟨_,aq.x (sG N4 hw) (tg p4 (hw.fz _)),?_⟩
   refine hN _ _ ?_
   clear hN N
   (try((repeat(revert hN;revert N;apply Pn.out));refine wk (tw @mA (tw @mB (tw @mX (tw @mY @e2)))) ?_;(repeat(refine Pn.mk ?_;intro N hN))))
   refine⟨_,kd.x (by rw[aw]at t1;exact t1) _,?_⟩
   refine hN _ _ ?_
   clear hN N
   (try((repeat(revert hN;revert N;apply Pn.out));refine wk (tw @mA (tw @mB (tw @mX (tw @mY @e2)))) ?_;(repeat(refine Pn.mk ?_;intro N hN))))
   refine⟨_,aq.x (by rw[aw]at q1;exact q1) (by rw[<-aw];exact L9 TI (EJ _ _)),?_⟩
   refine hN _ _ ?_
   clear hN N
   (try((repeat(revert hN;revert N;apply Pn.out));refine wk (tw @mA (tw @mB (tw @mX (tw @mY @e2)))) ?_;(repeat(refine Pn.mk ?_;intro N hN))))
   refine⟨_,kd.x (by rw[aP]at t2;exact t2) _,?_⟩
   refine hN _ _ ?_
   clear hN N
   (try((repeat(revert hN;revert N;apply Pn.out));refine wk (tw @mA (tw @mB (tw @mX (tw @mY @e2)))) ?_;(repeat(refine Pn.mk ?_;intro N hN))))
   refine⟨_,aq.x (by rw[aP]at q2;exact q2) (by rw[<-aP];exact KI TJ (EI _ _)),?_⟩
   refine hN _ _ ?_
   clear hN N
   (try((repeat(revert hN;revert N;apply Pn.out));refine wk (tw @mA (tw @mB (tw @mX (tw @mY @e2)))) ?_;(repeat(refine Pn.mk ?_;intro N hN))))
   have N6:=LG s
   have hns:=Mu.not (x:=⟨10000000,n0⟩) (by(try dsimp only);omega)
   have hnt:=Mu.not (x:=⟨10000001,n0⟩) (by(try dsimp only);omega)
   refine .inr (aJ _ _ _ _ _ (fun r σ4 hq=>?_) (GA _ s _ 1 (by omega) sm.s.t (by omega) _ (fun i hi=>by have:=bX i hi;(try dsimp only);omega) Mu.1 TI))
   obtain⟨rfl,hM⟩:=hq
   obtain⟨g4,x4⟩:=σ4
   (try dsimp only at hM)
   have nM:=hM.1
   (try dsimp only at nM)
   have pA:=(hM.2 ⟨10000000,n0⟩ (by(try dsimp only);omega) hns).trans mA
   have pB:=(hM.2 ⟨10000001,n0⟩ (by(try dsimp only);omega) hnt).trans mB
   have pY:=(hM.2 ⟨10010002,x2⟩ (by(try dsimp only);omega) (Mu.not (by(try dsimp only);omega))).trans mY
   have hY4:=TJ.frame (g':=g4) fun i hi=>hM.2 i (by have:=bY i hi;(try dsimp only);omega) (Mu.not (by have:=bY i hi;omega))
   have hZ4:=hZ.frame (g':=g4) fun i hi=>hM.2 i (by have:=bZ i hi;(try dsimp only);omega) (Mu.not (by have:=bZ i hi;omega))
   clear hM TI TJ hZ mA mB mX mY p4
   refine hN _ _ ?_
   clear hN N
   (try((repeat(revert hN;revert N;apply Pn.out));refine wk (tw @pA (tw @pB @pY)) ?_;(repeat(refine Pn.mk ?_;intro N hN))))
   refine .inr (aJ _ _ _ _ _ (fun r σ5 hq=>?_) (yG _ a _ (1+BR s) (by omega) (by omega) _ (fun i hi=>by have:=bY i hi;(try dsimp only);omega) hY4))
   obtain⟨rfl,hM⟩:=hq
   obtain⟨g5,x5⟩:=σ5
   (try dsimp only at hM)
   have nN:=hM.1
   (try dsimp only at nN)
   have rA:=(hM.2 ⟨10000000,n0⟩ (by(try dsimp only);omega) (Qj.not (by(try dsimp only);omega))).trans pA
   have rB:=(hM.2 ⟨10000001,n0⟩ (by(try dsimp only);omega) (Qj.not (by(try dsimp only);omega))).trans pB
   have TK:=hZ4.frame (g':=g5) fun i hi=>hM.2 i (by have:=bZ i hi;(try dsimp only);omega) (Qj.not (by have:=bZ i hi;omega))
   clear hM hY4 hZ4 pA pB pY
   obtain⟨wv5,p4,N4⟩:=TK.fz fun x g=>by simp[aa,ai,aj,aH]
   have e3:decide (1+(BR s:Int)+3*(a.ah.length:Int)<0)=false:=decide_eq_false (by omega)
   refine hN _ _ ?_
   clear hN N
   (try((repeat(revert hN;revert N;apply Pn.out));refine wk (tw @rA (tw @rB @e3)) ?_;(repeat(refine Pn.mk ?_;intro N hN))))
   refine .inl ⟨_,aq.x (sG N4 hw) (tg p4 (hw.fz _)),?_⟩
   refine hN _ _ ?_
   clear hN N
   (try((repeat(revert hN;revert N;apply Pn.out));refine wk (tw @rA (tw @rB (tw @e2 @e3))) ?_;(repeat(refine Pn.mk ?_;intro N hN))))
   refine .inr (aJ _ _ _ _ _ (fun r σ6 hq=>?_) (DJ 1 (by omega) (by omega) _ (fun i hi=>by have:=bZ i hi;(try dsimp only);omega) TK))
   obtain⟨rfl,hM,hZ6⟩:=hq
   obtain⟨g6,x6⟩:=σ6
   (try dsimp only at hM hZ6)
   have sA:=(hM.2 ⟨10000000,n0⟩ (by(try dsimp only);omega) (R5.not (by(try dsimp only);omega))).trans rA
   have sB:=(hM.2 ⟨10000001,n0⟩ (by(try dsimp only);omega) (R5.not (by(try dsimp only);omega))).trans rB
   clear hM TK rA rB p4 N4
   obtain⟨wv6,p4,N4⟩:=hZ6.fz fun x g=>by simp[aa,ai,aj,aH]
   have e4:decide (1+3*(L.length:Int)<0)=false:=decide_eq_false (by omega)
   have e5:decide (1+3*(L.length:Int)=1+3*(L.length:Int))=true:=decide_eq_true rfl
   refine hN _ _ ?_
   clear hN N
   (try((repeat(revert hN;revert N;apply Pn.out));refine wk (tw @sA @sB) ?_;(repeat(refine Pn.mk ?_;intro N hN))))
   refine .inl ⟨_,aq.x (vP 1 L.length (by omega) (by omega) N4) (tg p4 (aH _ _ _ _)),?_⟩
   refine hN _ _ ?_
   clear hN N
   (try((repeat(revert hN;revert N;apply Pn.out));refine wk (tw @sA (tw @sB (tw @e4 @e5))) ?_;(repeat(refine Pn.mk ?_;intro N hN))))
   refine⟨_,kd.x (by rw[aw]at t1;exact t1) _,?_⟩
   refine hN _ _ ?_
   clear hN N
   (try((repeat(revert hN;revert N;apply Pn.out));refine wk (tw @sA (tw @sB (tw @e4 @e5))) ?_;(repeat(refine Pn.mk ?_;intro N hN))))
   refine⟨_,kd.x (by rw[aP]at t2;exact t2) _,?_⟩
   refine hN _ _ ?_
   clear hN N
   (try((repeat(revert hN;revert N;apply Pn.out));refine wk (tw @sA (tw @sB (tw @e4 @e5))) ?_;(repeat(refine Pn.mk ?_;intro N hN))))
   refine⟨_,aq.x (by have h:=r2.s GK;rw[aw,aP]at h;exact h) (tg (by rw[<-aw];exact EJ _ _) (by rw[<-aP];exact EI _ _)),?_⟩
   refine hN _ _ ?_
   clear hN N
   (try((repeat(revert hN;revert N;apply Pn.out));refine wk @e2 ?_;(repeat(refine Pn.mk ?_;intro N hN))))
   refine .inl ⟨_,aq.x (sG B7 hw) (tg (B7.fz _) (hw.fz _)),?_⟩
   refine hN _ _ ?_
   clear hN N
   (try((repeat(revert hN;revert N;apply Pn.out));refine wk @e2 ?_;(repeat(refine Pn.mk ?_;intro N hN))))
   refine .inl ⟨_,aq.x (vP 1 L.length (by omega) (by omega) N4) (tg p4 (aH _ _ _ _)),?_⟩
   refine hN _ _ ?_
   clear hN N
   (try((repeat(revert hN;revert N;apply Pn.out));refine wk (tw @e4 @e5) ?_;(repeat(refine Pn.mk ?_;intro N hN))))
   exact aU (b:=true) (.inl rfl) (sd @Nat.zero_add) rfl
  ·rw[iI hg]at h2
   rw[aw]at h1
   rw[aP]at h2
   (repeat(first|((repeat(revert hN;revert N;apply Pn.out));refine wk (tw @aw.eq_1 (tw @aP.eq_1 @kr)) ?_;(repeat(refine Pn.mk ?_;intro N hN)))|((try apply Or.inl);refine⟨_,aq.x (h1) (sd (tw @aw.eq_1 (tw @aP.eq_1 @kr))),?_⟩;refine hN _ _ ?_;clear hN N)|((try apply Or.inl);refine⟨_,aq.x (h2) (sd (tw @aw.eq_1 (tw @aP.eq_1 @kr))),?_⟩;refine hN _ _ ?_;clear hN N)))
   exact aU (b:=true) (.inl rfl) (sd @Nat.zero_add) rfl
 ·rw[iI hf]at h1
  rw[aw]at h1
  (repeat(first|((repeat(revert hN;revert N;apply Pn.out));refine wk (tw @aw.eq_1 @aP.eq_1) ?_;(repeat(refine Pn.mk ?_;intro N hN)))|((try apply Or.inl);refine⟨_,aq.x (h1) (sd (tw @aw.eq_1 @aP.eq_1)),?_⟩;refine hN _ _ ?_;clear hN N)))
  exact aU (b:=true) (.inl rfl) (sd @Nat.zero_add) rfl
end Go.Proofs.YtgoelphibofcmaaGreat.V

namespace Go.Proofs.YtgoelphibofcmaaGreat.V
open Go.RowKit
attribute [local irreducible] dI wpOps gD Call
attribute [local go_sem] aM fM eP gp gm cN upd cD K.av cR AV.cells AV.cell rowOf rowsOf part ld rowAt bz cu dG ef ik bQ dh eA gj e9 dq ek dd dc dU dV bW bf cW bV cY cX ei eo ej cV ck de eh bU aT da cG ij bx cQ b4 aY dn bc dH AV.undef bF bI eb ee dP dM cJ ez eE cF er ep cZ db List.getD_cons_zero List.getD_cons_succ List.getD_nil List.all_cons List.all_nil Bool.and_true Bool.true_and Bool.and_self Bool.not_true Bool.not_false Option.map_some Option.map_none Option.bind_some Option.bind_none List.length_cons List.length_nil List.take_succ_cons List.take_zero List.take_nil List.drop_succ_cons List.drop_zero List.drop_nil List.head?_cons List.map_cons List.map_nil List.getElem?_cons_zero List.getElem?_cons_succ List.cons_append List.nil_append List.append_nil List.length_map List.set_cons_zero List.set_cons_succ Nat.reduceMul eq_self Int.toNat_natCast Int.natCast_nonneg and_self true_and and_true decide_true decide_false Bool.false_eq_true Nat.zero_add Nat.add_zero List.contains_cons List.contains_nil Bool.or_false Bool.false_or beq_self_eq_true Nat.reduceBEq ne_eq not_true_eq_false not_false_eq_true Id.mk.injEq false_and and_false Nat.reduceLT Int.reduceLE Int.reduceLT Int.reduceToNat Int.reduceNeg Int.reduceAdd Nat.le_refl List.length_append beq_true beq_false Bool.not_eq_eq_eq_not or_false false_or dO ai aj aH bp bE cz aX bl aW bj cU bH
def jc (n lo hi:Int):Bool:=decide (lo<=n)&&decide (n<=hi)
theorem ev {n lo hi:Int} (h:jc n lo hi=true):lo<=n/\n<=hi:=by simpa[jc]using h
theorem kO {n lo hi:Int} (h:lo<=n/\n<=hi):jc n lo hi=true:=by simpa[jc]using h
def Cb (p:aD):Bool:=jc p.eY (-60) 60&&jc p.eS (-60) 60
theorem lJ (n lo hi:Int):aq Tryz.prog 137 [.int .i64 n,.int .i64 lo,.int .i64 hi] (.bool (jc n lo hi)):=by
 refine aq.body eB rfl fun hl n0=>?_
 clear hl
 by_cases h1:lo<=n
 ·(try((repeat(revert hN;revert N;apply Pn.out));refine wk @h1 ?_;(repeat(refine Pn.mk ?_;intro N hN))))
  exact aU (b:=decide (n<=hi)) (.inl rfl) (sd @Nat.zero_add) (by simp[jc,h1])
 ·(try((repeat(revert hN;revert N;apply Pn.out));refine wk @h1 ?_;(repeat(refine Pn.mk ?_;intro N hN))))
  exact aU (b:=false) (.inl rfl) (sd @Nat.zero_add) (by simp[jc,h1])
theorem k7 (n lo hi:Int):aq Tryz.prog 141 [.int .i64 n,.int .i64 lo,.int .i64 hi] (.bool (jc n lo hi)):=by
 refine aq.body eB rfl fun hl n0=>?_
 clear hl
 by_cases h1:lo<=n
 ·(try((repeat(revert hN;revert N;apply Pn.out));refine wk @h1 ?_;(repeat(refine Pn.mk ?_;intro N hN))))
  exact aU (b:=decide (n<=hi)) (.inl rfl) (sd @Nat.zero_add) (by simp[jc,h1])
 ·(try((repeat(revert hN;revert N;apply Pn.out));refine wk @h1 ?_;(repeat(refine Pn.mk ?_;intro N hN))))
  exact aU (b:=false) (.inl rfl) (sd @Nat.zero_add) (by simp[jc,h1])
theorem IY (d:Int):aq Tryz.prog 173 [.int .i64 d] (.bool (jc d 0 3)):=by
 refine aq.body eB rfl fun hl n0=>?_
 clear hl
 have h:=lJ d 0 3
 (repeat(first|((repeat(revert hN;revert N;apply Pn.out));refine wk @Nat.zero_add ?_;(repeat(refine Pn.mk ?_;intro N hN)))|((try apply Or.inl);refine⟨_,aq.x (h) (sd @Nat.zero_add),?_⟩;refine hN _ _ ?_;clear hN N)))
 exact aU (b:=jc d 0 3) (.inl rfl) (sd @Nat.zero_add) rfl
theorem wb (p:aD):aq Tryz.prog 123 [.agg (ae p)] (.bool (Cb p)):=by
 refine aq.body eB rfl fun hl n0=>?_
 clear hl
 have h1:=lJ p.eY (-60) 60
 have h2:=lJ p.eS (-60) 60
 by_cases q:jc p.eY (-60) 60=true
 ·rw[q]at h1
  (repeat(first|((repeat(revert hN;revert N;apply Pn.out));refine wk @ae.eq_1 ?_;(repeat(refine Pn.mk ?_;intro N hN)))|((try apply Or.inl);refine⟨_,aq.x (h1) (sd @ae.eq_1),?_⟩;refine hN _ _ ?_;clear hN N)|((try apply Or.inl);refine⟨_,aq.x (h2) (sd @ae.eq_1),?_⟩;refine hN _ _ ?_;clear hN N)))
  exact aU (b:=jc p.eS (-60) 60) (.inl rfl) (sd @Nat.zero_add) (by rw[Cb,q];rfl)
 ·rw[Bool.not_eq_true]at q
  rw[q]at h1
  (repeat(first|((repeat(revert hN;revert N;apply Pn.out));refine wk @ae.eq_1 ?_;(repeat(refine Pn.mk ?_;intro N hN)))|((try apply Or.inl);refine⟨_,aq.x (h1) (sd @ae.eq_1),?_⟩;refine hN _ _ ?_;clear hN N)|((try apply Or.inl);refine⟨_,aq.x (h2) (sd @ae.eq_1),?_⟩;refine hN _ _ ?_;clear hN N)))
  exact aU (b:=false) (.inl rfl) (sd @Nat.zero_add) (by rw[Cb,q];rfl)
theorem qU (p:aD):aq Tryz.prog 140 [.agg (ae p)] (.bool (Cb p)):=by
 refine aq.body eB rfl fun hl n0=>?_
 clear hl
 have h1:=k7 p.eY (-60) 60
 have h2:=k7 p.eS (-60) 60
 by_cases q:jc p.eY (-60) 60=true
 ·rw[q]at h1
  (repeat(first|((repeat(revert hN;revert N;apply Pn.out));refine wk @ae.eq_1 ?_;(repeat(refine Pn.mk ?_;intro N hN)))|((try apply Or.inl);refine⟨_,aq.x (h1) (sd @ae.eq_1),?_⟩;refine hN _ _ ?_;clear hN N)|((try apply Or.inl);refine⟨_,aq.x (h2) (sd @ae.eq_1),?_⟩;refine hN _ _ ?_;clear hN N)))
  exact aU (b:=jc p.eS (-60) 60) (.inl rfl) (sd @Nat.zero_add) (by rw[Cb,q];rfl)
 ·rw[Bool.not_eq_true]at q
  rw[q]at h1
  (repeat(first|((repeat(revert hN;revert N;apply Pn.out));refine wk @ae.eq_1 ?_;(repeat(refine Pn.mk ?_;intro N hN)))|((try apply Or.inl);refine⟨_,aq.x (h1) (sd @ae.eq_1),?_⟩;refine hN _ _ ?_;clear hN N)|((try apply Or.inl);refine⟨_,aq.x (h2) (sd @ae.eq_1),?_⟩;refine hN _ _ ?_;clear hN N)))
  exact aU (b:=false) (.inl rfl) (sd @Nat.zero_add) (by rw[Cb,q];rfl)
def s5 (d:Int):Int:=if jc d 0 3 then(d+2) % 4 else -1
def dx (p:aD) (d:Int):aD:=
 if d=0 then⟨p.eY,p.eS+1⟩else if d=1 then⟨p.eY+1,p.eS⟩else if d=2 then⟨p.eY,p.eS-1⟩else if d=3 then⟨p.eY-1,p.eS⟩else p
def iB (n:Int):Prop:=-4611686018427387904<=n/\n<=4611686018427387904
theorem yz (p:aD) (d:Int) (hd:jc d 0 3=true) (hx:iB p.eY) (hy:iB p.eS):aq Tryz.prog 122 [.agg (ae p),.int .i64 d] (.agg (ae (dx p d))):=by
 refine aq.body eB rfl fun hl n0=>?_
 clear hl
 obtain⟨x1,x2⟩:=hx
 obtain⟨y1,y2⟩:=hy
 have w1:IntKind.i64.wrap (p.eY+1)=p.eY+1:=bt (by omega)
 have w2:IntKind.i64.wrap (p.eY-1)=p.eY-1:=bt (by omega)
 have w3:IntKind.i64.wrap (p.eS+1)=p.eS+1:=bt (by omega)
 have w4:IntKind.i64.wrap (p.eS-1)=p.eS-1:=bt (by omega)
 have hb:=ev hd
 have hc:d=0∨d=1∨d=2∨d=3:=by omega
 rcases hc with rfl|rfl|rfl|rfl
 ·(try((repeat(revert hN;revert N;apply Pn.out));refine wk (tw @ae.eq_1 @w3) ?_;(repeat(refine Pn.mk ?_;intro N hN))))
  exact p7 (.inl rfl) (vs:=[.agg (ae (dx p 0))]) (by simp only[go_sem, ↓reduceIte,Nat.reduceEqDiff,Nat.reduceAdd,Nat.reduceSub,Nat.reduceLeDiff,reduceCtorEq,fq,iq,ae,dx]) (by simp[fe,ae,gu,ea])
 ·(try((repeat(revert hN;revert N;apply Pn.out));refine wk (tw @ae.eq_1 @w1) ?_;(repeat(refine Pn.mk ?_;intro N hN))))
  exact p7 (.inl rfl) (vs:=[.agg (ae (dx p 1))]) (by simp[fq,iq,ae,dx,ld,rowAt,bz,upd,part]) (by simp[fe,ae,gu,ea])
 ·(try((repeat(revert hN;revert N;apply Pn.out));refine wk (tw @ae.eq_1 @w4) ?_;(repeat(refine Pn.mk ?_;intro N hN))))
  exact p7 (.inl rfl) (vs:=[.agg (ae (dx p 2))]) (by simp[fq,iq,ae,dx,ld,rowAt,bz,upd,part]) (by simp[fe,ae,gu,ea])
 ·(try((repeat(revert hN;revert N;apply Pn.out));refine wk (tw @ae.eq_1 @w2) ?_;(repeat(refine Pn.mk ?_;intro N hN))))
  exact p7 (.inl rfl) (vs:=[.agg (ae (dx p 3))]) (by simp[fq,iq,ae,dx,ld,rowAt,bz,upd,part]) (by simp[fe,ae,gu,ea])
theorem zY (p p2:aD) (x y:Int) (hx:IntKind.i64.wrap (p.eY+p2.eY)=x) (hy:IntKind.i64.wrap (p.eS+p2.eS)=y):aq Tryz.prog 184 [.agg (ae p),.agg (ae p2)] (.agg [.int .i64 x,.int .i64 y]):=by
 refine aq.body eB rfl fun hl n0=>?_
 clear hl
 (try((repeat(revert hN;revert N;apply Pn.out));refine wk (tw @ae.eq_1 (tw @hx @hy)) ?_;(repeat(refine Pn.mk ?_;intro N hN))))
 exact p7 (.inl rfl) (vs:=[.agg [.int .i64 x,.int .i64 y]]) (by simp only[go_sem, ↓reduceIte,Nat.reduceEqDiff,Nat.reduceAdd,Nat.reduceSub,Nat.reduceLeDiff,reduceCtorEq,fq,iq,ae]) (by simp[fe,gu,ea])
theorem Ee (p:aD) (d:Int) (hd:jc d 0 3=true) (hx:iB p.eY) (hy:iB p.eS):aq Tryz.prog 149 [.agg (ae p),.int .i64 d] (.agg (ae (dx p d))):=by
 refine aq.body eB rfl fun hl n0=>?_
 clear hl
 obtain⟨x1,x2⟩:=hx
 obtain⟨y1,y2⟩:=hy
 have hb:=ev hd
 have hc:d=0∨d=1∨d=2∨d=3:=by omega
 rcases hc with rfl|rfl|rfl|rfl
 ·have h:=zY p ⟨0,1⟩ (p.eY) (p.eS+1) (by rw[bt (by constructor<;>simp only<;>omega)]<;>(try simp only)<;>(try omega)) (by rw[bt (by constructor<;>simp only<;>omega)]<;>(try simp only)<;>(try omega))
  simp only[ae]at h
  (repeat(first|((repeat(revert hN;revert N;apply Pn.out));refine wk @ae.eq_1 ?_;(repeat(refine Pn.mk ?_;intro N hN)))|((try apply Or.inl);refine⟨_,aq.x (h) (sd @ae.eq_1),?_⟩;refine hN _ _ ?_;clear hN N)))
  exact p7 (.inl rfl) (vs:=[.agg (ae (dx p 0))]) (by simp[fq,iq,ae,dx,ld,rowAt,bz,upd,part]) (by simp[fe,ae,gu,ea])
 ·have h:=zY p ⟨1,0⟩ (p.eY+1) (p.eS) (by rw[bt (by constructor<;>simp only<;>omega)]<;>(try simp only)<;>(try omega)) (by rw[bt (by constructor<;>simp only<;>omega)]<;>(try simp only)<;>(try omega))
  simp only[ae]at h
  (repeat(first|((repeat(revert hN;revert N;apply Pn.out));refine wk @ae.eq_1 ?_;(repeat(refine Pn.mk ?_;intro N hN)))|((try apply Or.inl);refine⟨_,aq.x (h) (sd @ae.eq_1),?_⟩;refine hN _ _ ?_;clear hN N)))
  exact p7 (.inl rfl) (vs:=[.agg (ae (dx p 1))]) (by simp[fq,iq,ae,dx,ld,rowAt,bz,upd,part]) (by simp[fe,ae,gu,ea])
 ·have h:=zY p ⟨0,(-1)⟩ (p.eY) (p.eS-1) (by rw[bt (by constructor<;>simp only<;>omega)]<;>(try simp only)<;>(try omega)) (by rw[bt (by constructor<;>simp only<;>omega)]<;>(try simp only)<;>(try omega))
  simp only[ae]at h
  (repeat(first|((repeat(revert hN;revert N;apply Pn.out));refine wk @ae.eq_1 ?_;(repeat(refine Pn.mk ?_;intro N hN)))|((try apply Or.inl);refine⟨_,aq.x (h) (sd @ae.eq_1),?_⟩;refine hN _ _ ?_;clear hN N)))
  exact p7 (.inl rfl) (vs:=[.agg (ae (dx p 2))]) (by simp[fq,iq,ae,dx,ld,rowAt,bz,upd,part]) (by simp[fe,ae,gu,ea])
 ·have h:=zY p ⟨(-1),0⟩ (p.eY-1) (p.eS) (by rw[bt (by constructor<;>simp only<;>omega)]<;>(try simp only)<;>(try omega)) (by rw[bt (by constructor<;>simp only<;>omega)]<;>(try simp only)<;>(try omega))
  simp only[ae]at h
  (repeat(first|((repeat(revert hN;revert N;apply Pn.out));refine wk @ae.eq_1 ?_;(repeat(refine Pn.mk ?_;intro N hN)))|((try apply Or.inl);refine⟨_,aq.x (h) (sd @ae.eq_1),?_⟩;refine hN _ _ ?_;clear hN N)))
  exact p7 (.inl rfl) (vs:=[.agg (ae (dx p 3))]) (by simp[fq,iq,ae,dx,ld,rowAt,bz,upd,part]) (by simp[fe,ae,gu,ea])
theorem DP (d:Int) (hd:jc d 0 3=true):aq Tryz.prog 153 [.int .i64 d] (.int .i64 (s5 d)):=by
 refine aq.body eB rfl fun hl n0=>?_
 clear hl
 have hb:=ev hd
 have hw:IntKind.i64.wrap (d+2)=d+2:=bt (by omega)
 have ht:Int.tmod (d+2) 4=(d+2) % 4:=Int.tmod_eq_emod_of_nonneg (by omega)
 have h4:¬((4:Int)=0):=by omega
 (try((repeat(revert hN;revert N;apply Pn.out));refine wk (tw @hw (tw @ht @h4)) ?_;(repeat(refine Pn.mk ?_;intro N hN))))
 exact cj (b:=(d+2) % 4) (.inl rfl) (sd @Nat.zero_add) (by rw[s5,if_pos hd])
theorem CP (d:Int) (hd:jc d 0 3=true):aq Tryz.prog 125 [.int .i64 d] (.int .i64 (s5 d)):=by
 refine aq.body eB rfl fun hl n0=>?_
 clear hl
 have hb:=ev hd
 have hw:IntKind.i64.wrap (d+2)=d+2:=bt (by omega)
 have ht:Int.tmod (d+2) 4=(d+2) % 4:=Int.tmod_eq_emod_of_nonneg (by omega)
 have h4:¬((4:Int)=0):=by omega
 have h:=IY d
 rw[hd]at h
 (repeat(first|((repeat(revert hN;revert N;apply Pn.out));refine wk (tw @hw (tw @ht @h4)) ?_;(repeat(refine Pn.mk ?_;intro N hN)))|((try apply Or.inl);refine⟨_,aq.x (h) (sd (tw @hw (tw @ht @h4))),?_⟩;refine hN _ _ ?_;clear hN N)))
 exact cj (b:=(d+2) % 4) (.inl rfl) (sd @Nat.zero_add) (by rw[s5,if_pos hd])
end Go.Proofs.YtgoelphibofcmaaGreat.V

namespace Go.Proofs.YtgoelphibofcmaaGreat.V
open Go.RowKit
attribute [local irreducible] dI wpOps gD Call
attribute [local go_sem] aM fM eP gp gm cN upd cD K.av cR AV.cells AV.cell rowOf rowsOf part ld rowAt bz cu dG ef ik bQ dh eA gj e9 dq ek dd dc dU dV bW bf cW bV cY cX ei eo ej cV ck de eh bU aT da cG ij bx cQ b4 aY dn bc dH AV.undef bF bI eb ee dP dM cJ ez eE cF er ep cZ db List.getD_cons_zero List.getD_cons_succ List.getD_nil List.all_cons List.all_nil Bool.and_true Bool.true_and Bool.and_self Bool.not_true Bool.not_false Option.map_some Option.map_none Option.bind_some Option.bind_none List.length_cons List.length_nil List.take_succ_cons List.take_zero List.take_nil List.drop_succ_cons List.drop_zero List.drop_nil List.head?_cons List.map_cons List.map_nil List.getElem?_cons_zero List.getElem?_cons_succ List.cons_append List.nil_append List.append_nil List.length_map List.set_cons_zero List.set_cons_succ Nat.reduceMul eq_self Int.toNat_natCast Int.natCast_nonneg and_self true_and and_true decide_true decide_false Bool.false_eq_true Nat.zero_add Nat.add_zero List.contains_cons List.contains_nil Bool.or_false Bool.false_or beq_self_eq_true Nat.reduceBEq ne_eq not_true_eq_false not_false_eq_true Id.mk.injEq false_and and_false Nat.reduceLT Int.reduceLE Int.reduceLT Int.reduceToNat Int.reduceNeg Int.reduceAdd Nat.le_refl List.length_append beq_true beq_false Bool.not_eq_eq_eq_not or_false false_or dO ai aj aH bp bE cz aX bl aW bj cU bH
def eK (s:au) (t:Int):Bool:=jc t 0 ((s.ah.length:Int)-1)
theorem wc (s:au) (t:Int):aq Tryz.prog 136 [.di (ab s),.int .i64 t] (.bool (eK s t)):=by
 refine aq.body eB rfl fun hl n0=>?_
 have hn:s.ah.length<=9223372036854775807:=by
  have h1:=(hl (.di (ab s)) (by simp)).BH (a:=.sl (s.ah.map bB)) (by simp[ab])
  simpa using h1.len
 clear hl
 have hw:IntKind.i64.wrap ((s.ah.length:Int)-1)=(s.ah.length:Int)-1:=bt (by omega)
 have h:=lJ t 0 ((s.ah.length:Int)-1)
 (repeat(first|((repeat(revert hN;revert N;apply Pn.out));refine wk (tw @ab.eq_1 @hw) ?_;(repeat(refine Pn.mk ?_;intro N hN)))|((try apply Or.inl);refine⟨_,aq.x (h) (sd (tw @ab.eq_1 @hw)),?_⟩;refine hN _ _ ?_;clear hN N)))
 exact aU (b:=eK s t) (.inl rfl) (by simp only[go_sem, ↓reduceIte,Nat.reduceEqDiff,Nat.reduceAdd,Nat.reduceSub,Nat.reduceLeDiff,reduceCtorEq,eK]) rfl
theorem yw (t n:Int) (h0:0<=n) (h1:n<=9223372036854775807):aq Tryz.prog 139 [.int .i64 t,.int .i64 n] (.bool (jc t 0 (n-1))):=by
 refine aq.body eB rfl fun hl n0=>?_
 clear hl
 have hw:IntKind.i64.wrap (n-1)=n-1:=bt (by omega)
 have h:=k7 t 0 (n-1)
 (repeat(first|((repeat(revert hN;revert N;apply Pn.out));refine wk @hw ?_;(repeat(refine Pn.mk ?_;intro N hN)))|((try apply Or.inl);refine⟨_,aq.x (h) (sd @hw),?_⟩;refine hN _ _ ?_;clear hN N)))
 exact aU (b:=jc t 0 (n-1)) (.inl rfl) (sd @Nat.zero_add) rfl
theorem IX (s:au) (t:Int):aq Tryz.prog 83 [.agg (ab s),.int .i64 t] (.bool (eK s t)):=by
 refine aq.body eB rfl fun hl n0=>?_
 have hn:s.ah.length<=9223372036854775807:=by
  have h1:=(hl (.agg (ab s)) (by simp)).Nf (a:=.sl (s.ah.map bB)) (by simp[ab])
  simpa using h1.len
 clear hl
 have h:=yw t s.ah.length (by omega) (by omega)
 (repeat(first|((repeat(revert hN;revert N;apply Pn.out));refine wk @ab.eq_1 ?_;(repeat(refine Pn.mk ?_;intro N hN)))|((try apply Or.inl);refine⟨_,aq.x (h) (sd @ab.eq_1),?_⟩;refine hN _ _ ?_;clear hN N)))
 exact aU (b:=eK s t) (.inl rfl) (by simp only[go_sem, ↓reduceIte,Nat.reduceEqDiff,Nat.reduceAdd,Nat.reduceSub,Nat.reduceLeDiff,reduceCtorEq,eK]) rfl
def zV:eR:=⟨⟨#[]⟩,[]⟩
def dv (s:au) (t:Int):eR:=s.ah.getD t.toNat zV
def du (t:eR) (d:Int):Int:=t.br.getD d.toNat 0
def qq (s:au) (g:Int):fA:=s.ax.getD g.toNat ⟨⟨#[]⟩,0⟩
def te (s:au) (g:Int):Int:=if g=0 then 0 else(qq s (g-1)).eu
def gT (s:au) (a d b:Int):Int:=if du (dv s a) d=du (dv s b) (s5 d)then te s (du (dv s a) d)else 0
structure kE (s:au):Prop where
 wR:∀t∈s.ah,t.br.length=4
 vM:∀t∈s.ah,∀g∈t.br,0<=g/\g<=s.ax.length
theorem getD_map {α β:Type} (e:α->β) {l:List α} {k:Nat} {d:α} (h:k<l.length):(l.map e)[k]? =some (e (l.getD k d)):=by simp[List.getD_eq_getElem?_getD,h]
theorem xF (s:au) (g:Int) (h0:0<=g) (h1:g<=s.ax.length):aq Tryz.prog 126 [.di (ab s),.int .i64 g] (.int .i64 (te s g)):=by
 refine aq.body eB rfl fun hl n0=>?_
 have hn:s.ax.length<=9223372036854775807:=by
  have h1:=(hl (.di (ab s)) (by simp)).BH (a:=.sl (s.ax.map bG)) (by simp[ab])
  simpa using h1.len
 clear hl
 by_cases hg:g=0
 ·have e:decide (g=0)=true:=decide_eq_true hg
  (try((repeat(revert hN;revert N;apply Pn.out));refine wk (tw @ab.eq_1 @e) ?_;(repeat(refine Pn.mk ?_;intro N hN))))
  exact cj (b:=0) (.inl rfl) (sd @Nat.zero_add) (by rw[te,if_pos hg])
 ·have e:decide (g=0)=false:=decide_eq_false hg
  have hw:IntKind.i64.wrap (g-1)=g-1:=bt (by omega)
  have qw:0<=g-1:=by omega
  have fc:(s.ax.map bG)[(g-1).toNat]? =some (bG (qq s (g-1))):=getD_map bG (by omega)
  (try((repeat(revert hN;revert N;apply Pn.out));refine wk (tw @ab.eq_1 (tw @e (tw @hw (tw @qw (tw @fc @bG.eq_1))))) ?_;(repeat(refine Pn.mk ?_;intro N hN))))
  exact cj (b:=(qq s (g-1)).eu) (.inl rfl) (sd @Nat.zero_add) (by rw[te,if_neg hg])
theorem o9 {s:au} {a:Int} (h:eK s a=true):0<=a/\(s.ah.map bB)[a.toNat]? =some (bB (dv s a))/\dv s a∈s.ah:=by
 have h':=ev h
 have dQ:a.toNat<s.ah.length:=by omega
 refine⟨h'.1,getD_map bB dQ,?_⟩
 unfold dv
 rw[List.getD_eq_getElem?_getD,List.getElem?_eq_getElem dQ]
 exact List.getElem_mem dQ
theorem oY {t:eR} {d:Int} (h:t.br.length=4) (hd:jc d 0 3=true):(t.br.map bq)[d.toNat]? =some [.int .i64 (du t d)]:=by
 have:=ev hd
 exact getD_map bq (by omega)
theorem Cj {t:eR} {d:Int} (h:t.br.length=4) (hd:jc d 0 3=true):du t d∈t.br:=by
 have:=ev hd
 have dQ:d.toNat<t.br.length:=by omega
 unfold du
 rw[List.getD_eq_getElem?_getD,List.getElem?_eq_getElem dQ]
 exact List.getElem_mem dQ
theorem zW {d:Int} (hd:jc d 0 3=true):jc (s5 d) 0 3=true:=by
 have:=ev hd
 refine kO ?_
 rw[s5,if_pos hd];omega
theorem yC (s:au) (hF:kE s) (a d b:Int) (ha:eK s a=true) (hb:eK s b=true) (hd:jc d 0 3=true):aq Tryz.prog 147 [.di (ab s),.int .i64 a,.int .i64 d,.int .i64 b] (.int .i64 (gT s a d b)):=by
 refine aq.body eB rfl fun hl n0=>?_
 clear hl
 obtain⟨a0,a1,a2⟩:=o9 ha
 obtain⟨b0,b1,b2⟩:=o9 hb
 have s1:=oY (hF.wR _ a2) hd
 have s2:=oY (hF.wR _ b2) (zW hd)
 have gl:=hF.vM _ a2 _ (Cj (hF.wR _ a2) hd)
 have d0:=(ev hd).1
 have d1:=(ev (zW hd)).1
 have h:=CP d hd
 have hs:=xF s (du (dv s a) d) gl.1 gl.2
 rw[ab]at hs
 by_cases e:du (dv s a) d=du (dv s b) (s5 d)
 ·have e':decide (du (dv s a) d=du (dv s b) (s5 d))=true:=decide_eq_true e
  (repeat(first|((repeat(revert hN;revert N;apply Pn.out));refine wk (tw @ab.eq_1 (tw @bB.eq_1 (tw @a0 (tw @a1 (tw @b0 (tw @b1 (tw @s1 (tw @s2 (tw @d0 (tw @d1 @e')))))))))) ?_;(repeat(refine Pn.mk ?_;intro N hN)))|((try apply Or.inl);refine⟨_,aq.x (h) (sd (tw @ab.eq_1 (tw @bB.eq_1 (tw @a0 (tw @a1 (tw @b0 (tw @b1 (tw @s1 (tw @s2 (tw @d0 (tw @d1 @e'))))))))))),?_⟩;refine hN _ _ ?_;clear hN N)|((try apply Or.inl);refine⟨_,aq.x (hs) (sd (tw @ab.eq_1 (tw @bB.eq_1 (tw @a0 (tw @a1 (tw @b0 (tw @b1 (tw @s1 (tw @s2 (tw @d0 (tw @d1 @e'))))))))))),?_⟩;refine hN _ _ ?_;clear hN N)))
  exact cj (b:=te s (du (dv s a) d)) (.inl rfl) (sd @Nat.zero_add) (by rw[gT,if_pos e])
 ·have e':decide (du (dv s a) d=du (dv s b) (s5 d))=false:=decide_eq_false e
  (repeat(first|((repeat(revert hN;revert N;apply Pn.out));refine wk (tw @ab.eq_1 (tw @bB.eq_1 (tw @a0 (tw @a1 (tw @b0 (tw @b1 (tw @s1 (tw @s2 (tw @d0 (tw @d1 @e')))))))))) ?_;(repeat(refine Pn.mk ?_;intro N hN)))|((try apply Or.inl);refine⟨_,aq.x (h) (sd (tw @ab.eq_1 (tw @bB.eq_1 (tw @a0 (tw @a1 (tw @b0 (tw @b1 (tw @s1 (tw @s2 (tw @d0 (tw @d1 @e'))))))))))),?_⟩;refine hN _ _ ?_;clear hN N)))
  exact cj (b:=0) (.inl rfl) (sd @Nat.zero_add) (by rw[gT,if_neg e])
theorem Eh (s:au) (hF:kE s) (a d:Int) (ha:eK s a=true) (hd:jc d 0 3=true):aq Tryz.prog 185 [.agg (ab s),.int .i64 a,.int .i64 d] (.int .i64 (te s (du (dv s a) d))):=by
 refine aq.body eB rfl fun hl n0=>?_
 have hn:s.ax.length<=9223372036854775807:=by
  have h1:=(hl (.agg (ab s)) (by simp)).Nf (a:=.sl (s.ax.map bG)) (by simp[ab])
  simpa using h1.len
 clear hl
 obtain⟨a0,a1,a2⟩:=o9 ha
 have s1:=oY (hF.wR _ a2) hd
 have gl:=hF.vM _ a2 _ (Cj (hF.wR _ a2) hd)
 have d0:=(ev hd).1
 by_cases hg:du (dv s a) d=0
 ·have e:¬(0<du (dv s a) d):=by omega
  (try((repeat(revert hN;revert N;apply Pn.out));refine wk (tw @ab.eq_1 (tw @bB.eq_1 (tw @a0 (tw @a1 (tw @s1 (tw @d0 @e)))))) ?_;(repeat(refine Pn.mk ?_;intro N hN))))
  exact cj (b:=0) (.inl rfl) (sd @Nat.zero_add) (by rw[te,if_pos hg])
 ·have e:0<du (dv s a) d:=by omega
  have hw:IntKind.i64.wrap (du (dv s a) d-1)=du (dv s a) d-1:=bt (by omega)
  have qw:0<=du (dv s a) d-1:=by omega
  have fc:(s.ax.map bG)[(du (dv s a) d-1).toNat]? =some (bG (qq s (du (dv s a) d-1))):=getD_map bG (by omega)
  (try((repeat(revert hN;revert N;apply Pn.out));refine wk (tw @ab.eq_1 (tw @bB.eq_1 (tw @a0 (tw @a1 (tw @s1 (tw @d0 (tw @e (tw @hw (tw @qw (tw @fc @bG.eq_1)))))))))) ?_;(repeat(refine Pn.mk ?_;intro N hN))))
  exact cj (b:=(qq s (du (dv s a) d-1)).eu) (.inl rfl) (sd @Nat.zero_add) (by rw[te,if_neg hg])
theorem HR (s:au) (hF:kE s) (a d b:Int) (ha:eK s a=true) (hb:eK s b=true) (hd:jc d 0 3=true):aq Tryz.prog 150 [.agg (ab s),.int .i64 a,.int .i64 d,.int .i64 b] (.int .i64 (gT s a d b)):=by
 refine aq.body eB rfl fun hl n0=>?_
 clear hl
 obtain⟨a0,a1,a2⟩:=o9 ha
 obtain⟨b0,b1,b2⟩:=o9 hb
 have s1:=oY (hF.wR _ a2) hd
 have s2:=oY (hF.wR _ b2) (zW hd)
 have d0:=(ev hd).1
 have d1:=(ev (zW hd)).1
 have h:=DP d hd
 have hs:=Eh s hF a d ha hd
 rw[ab]at hs
 by_cases e:du (dv s a) d=du (dv s b) (s5 d)
 ·have e':decide (du (dv s a) d=du (dv s b) (s5 d))=true:=decide_eq_true e
  (repeat(first|((repeat(revert hN;revert N;apply Pn.out));refine wk (tw @ab.eq_1 (tw @bB.eq_1 (tw @a0 (tw @a1 (tw @b0 (tw @b1 (tw @s1 (tw @s2 (tw @d0 (tw @d1 @e')))))))))) ?_;(repeat(refine Pn.mk ?_;intro N hN)))|((try apply Or.inl);refine⟨_,aq.x (h) (sd (tw @ab.eq_1 (tw @bB.eq_1 (tw @a0 (tw @a1 (tw @b0 (tw @b1 (tw @s1 (tw @s2 (tw @d0 (tw @d1 @e'))))))))))),?_⟩;refine hN _ _ ?_;clear hN N)|((try apply Or.inl);refine⟨_,aq.x (hs) (sd (tw @ab.eq_1 (tw @bB.eq_1 (tw @a0 (tw @a1 (tw @b0 (tw @b1 (tw @s1 (tw @s2 (tw @d0 (tw @d1 @e'))))))))))),?_⟩;refine hN _ _ ?_;clear hN N)))
  exact cj (b:=te s (du (dv s a) d)) (.inl rfl) (sd @Nat.zero_add) (by rw[gT,if_pos e])
 ·have e':decide (du (dv s a) d=du (dv s b) (s5 d))=false:=decide_eq_false e
  (repeat(first|((repeat(revert hN;revert N;apply Pn.out));refine wk (tw @ab.eq_1 (tw @bB.eq_1 (tw @a0 (tw @a1 (tw @b0 (tw @b1 (tw @s1 (tw @s2 (tw @d0 (tw @d1 @e')))))))))) ?_;(repeat(refine Pn.mk ?_;intro N hN)))|((try apply Or.inl);refine⟨_,aq.x (h) (sd (tw @ab.eq_1 (tw @bB.eq_1 (tw @a0 (tw @a1 (tw @b0 (tw @b1 (tw @s1 (tw @s2 (tw @d0 (tw @d1 @e'))))))))))),?_⟩;refine hN _ _ ?_;clear hN N)))
  exact cj (b:=0) (.inl rfl) (sd @Nat.zero_add) (by rw[gT,if_neg e])
end Go.Proofs.YtgoelphibofcmaaGreat.V

namespace Go.Proofs.YtgoelphibofcmaaGreat.V
open Go.RowKit
attribute [local irreducible] dI wpOps gD Call
attribute [local go_sem] aM fM eP gp gm cN upd cD K.av cR AV.cells AV.cell rowOf rowsOf part ld rowAt bz cu dG ef ik bQ dh eA gj e9 dq ek dd dc dU dV bW bf cW bV cY cX ei eo ej cV ck de eh bU aT da cG ij bx cQ b4 aY dn bc dH AV.undef bF bI eb ee dP dM cJ ez eE cF er ep cZ db List.getD_cons_zero List.getD_cons_succ List.getD_nil List.all_cons List.all_nil Bool.and_true Bool.true_and Bool.and_self Bool.not_true Bool.not_false Option.map_some Option.map_none Option.bind_some Option.bind_none List.length_cons List.length_nil List.take_succ_cons List.take_zero List.take_nil List.drop_succ_cons List.drop_zero List.drop_nil List.head?_cons List.map_cons List.map_nil List.getElem?_cons_zero List.getElem?_cons_succ List.cons_append List.nil_append List.append_nil List.length_map List.set_cons_zero List.set_cons_succ Nat.reduceMul eq_self Int.toNat_natCast Int.natCast_nonneg and_self true_and and_true decide_true decide_false Bool.false_eq_true Nat.zero_add Nat.add_zero List.contains_cons List.contains_nil Bool.or_false Bool.false_or beq_self_eq_true Nat.reduceBEq ne_eq not_true_eq_false not_false_eq_true Id.mk.injEq false_and and_false Nat.reduceLT Int.reduceLE Int.reduceLT Int.reduceToNat Int.reduceNeg Int.reduceAdd Nat.le_refl List.length_append beq_true beq_false Bool.not_eq_eq_eq_not or_false false_or dO ai aj aH bp bE cz aX bl aW bj cU bH
def pM (s:au) (i:Nat):fA:=s.ax.getD i ⟨⟨#[]⟩,0⟩
def o8 (s:au) (i:Nat):eR:=s.ah.getD i zV
def CL (s:au) (i:Nat):Prop:=jL (pM s i).aC=true/\jc (pM s i).eu 1 4=true/\∀j,j<i->(pM s j).aC≠(pM s i).aC
def AL (s:au) (i:Nat):Prop:=jL (o8 s i).aC=true/\(o8 s i).br.length=4/\(∀j,j<i->(o8 s j).aC≠(o8 s i).aC)/\∀g∈(o8 s i).br,jc g 0 s.ax.length=true
structure iF (s:au):Prop where
 vM:s.ax.length<=200
 some:1<=s.ah.length
 J0:s.ah.length<=160
 RY:∀i,i<s.ax.length->CL s i
 tok:∀i,i<s.ah.length->AL s i
noncomputable def qL (s:au):Bool:=@decide (iF s) (Classical.propDecidable _)
theorem mz {s:au}:qL s=true↔iF s:=by simp[qL]
theorem fC {s:au} (h:¬iF s):false=qL s:=by simp[qL,h]
theorem Ci {s:au} (h:iF s):true=qL s:=by simp[qL,h]
theorem Aj {s:au} {i:Nat} (h:i<s.ah.length):(s.ah.map bB)[i]? =some (bB (o8 s i)):=getD_map bB h
theorem zx {s:au} {i:Nat} (h:i<s.ax.length):(s.ax.map bG)[i]? =some (bG (pM s i)):=getD_map bG h
theorem iF.form {s:au} (h:iF s):kE s:=by
 have key:∀t∈s.ah,∃i,i<s.ah.length/\t=o8 s i:=fun t ht=>by
  obtain⟨i,hi,rfl⟩:=List.getElem_of_mem ht
  exact⟨i,hi,by simp[o8,List.getD_eq_getElem?_getD,hi]⟩
 refine⟨fun t ht=>?_,fun t ht g hg=>?_⟩
 ·obtain⟨i,hi,rfl⟩:=key t ht
  exact(h.tok i hi).2.1
 ·obtain⟨i,hi,rfl⟩:=key t ht
  exact ev ((h.tok i hi).2.2.2 g hg)
def dy (l:List ByteArray):List (List AV):=l.map fun n=>[.str n,.bool true]
abbrev mS:MK:=⟨false,[.tS]⟩
theorem yW (n:ByteArray):∀(l:List ByteArray) (i:Nat),∃r,fZ mS [.str n] (dy l) i=some r/\((r=none/\n∉l)∨∃j,r=some (i+j)/\n∈l/\(dy l)[j]? =some [.str n,.bool true])
 |[],i=>⟨none,rfl,.inl ⟨rfl,by simp⟩⟩
 |m::l,i=>by
  obtain⟨r,h1,h2⟩:=yW n l (i+1)
  by_cases h:n=m
  ·subst h
   exact⟨some i,by simp[dy,fZ,e9,gj,MK.ks],.inr ⟨0,rfl,by simp,rfl⟩⟩
  ·refine⟨r,?_,?_⟩
   ·unfold dy at h1 ⊢
    simp only[List.map_cons,fZ,MK.ks,List.length_cons,List.length_nil,Nat.zero_add,List.take_succ_cons,List.take_zero,e9,gj,h,decide_false,Bool.and_true]
    exact h1
   ·rcases h2 with⟨rfl,h2⟩|⟨j,rfl,h2,h3⟩
    ·exact .inl ⟨rfl,by simp[h,h2]⟩
    ·exact .inr ⟨j+1,by congr 1;omega,by simp[h2],by simpa[dy]using h3⟩
theorem wP (n:ByteArray) (l:List ByteArray):(n∉l/\fK mS (.str n) (dy l)=some none)∨∃j,n∈l/\fK mS (.str n) (dy l)=some (some j)/\(dy l)[j]? =some [.str n,.bool true]:=by
 obtain⟨r,h1,h2⟩:=yW n l 0
 have e:fK mS (.str n) (dy l)=some r:=by
  unfold fK
  rw[if_pos ⟨rfl,rfl,rfl⟩];exact h1
 rcases h2 with⟨rfl,h2⟩|⟨j,rfl,h2,h3⟩
 ·exact .inl ⟨h2,e⟩
 ·exact .inr ⟨j,h2,by rw[e,Nat.zero_add],h3⟩
theorem OP (s:au) (g:Int):aq Tryz.prog 200 [.int .i64 g,.di (ab s)] (.bool (!jc g 0 s.ax.length)):=by
 refine aq.body eB rfl fun hl n0=>?_
 clear hl
 have h:=k7 g 0 s.ax.length
 (repeat(first|((repeat(revert hN;revert N;apply Pn.out));refine wk @ab.eq_1 ?_;(repeat(refine Pn.mk ?_;intro N hN)))|((try apply Or.inl);refine⟨_,aq.x (h) (sd @ab.eq_1),?_⟩;refine hN _ _ ?_;clear hN N)))
 exact aU (b:= !jc g 0 s.ax.length) (.inl rfl) (sd @Nat.zero_add) rfl
theorem KV:PW bq (fun c=>.int .i64 c) 1 false:=⟨fun _=>rfl,fun _=>rfl,fun x g=>by rw[ai,aH,aj];rfl⟩
theorem L5 (s:au) (l:List Int) (hl:l.length<=1048576):aq Tryz.prog 199 [.sl (l.map bq),.fn 200 [.di (ab s)]] (.bool (l.any fun g=> !jc g 0 s.ax.length)):=
 kI KV (show l5 Tryz.prog 199=some (zB 199 224) by kernel_rfl)
  (show l5 Tryz.prog 224=some (sS 224 1 false) by kernel_rfl) l hl _ _ _ rfl (fun g=>by rw[ai,aW,aj];rfl) (fun x _=>OP s x) fun g=>by rw[ai,aW,aj];rfl
theorem wo {α:Type} (f:Nat->α) (n k:Nat) (x:α):x∉(List.range k).map f↔∀j,j<k->f j≠x:=by
 constructor
 ·intro h j hj he
  exact h (List.mem_map.2 ⟨j,List.mem_range.2 hj,he⟩)
 ·intro h hm
  obtain⟨j,hj,he⟩:=List.mem_map.1 hm
  exact h j (List.mem_range.1 hj) he
theorem CR (s:au) (hn:fV s) (hg:s.ax.length<=1048576) (ht:s.ah.length<=1048576) (hs:∀t∈s.ah,t.br.length<=1048576):aq Tryz.prog 164 [.agg (ab s)] (.bool (qL s)):=by
 refine aq.body eB rfl fun hl n0=>?_
 clear hl
 have QI:∀i,i<s.ax.length->(pM s i).aC.size<=9223372036854775807:=fun i hi=>hn.1 _ (by simp[pM,List.getD_eq_getElem?_getD,hi])
 have Q1:∀i,i<s.ah.length->(o8 s i).aC.size<=9223372036854775807:=fun i hi=>hn.2 _ (by simp[o8,List.getD_eq_getElem?_getD,hi])
 have xD:∀i,i<s.ah.length->(o8 s i).br.length<=1048576:=fun i hi=>hs _ (by simp[o8,List.getD_eq_getElem?_getD,hi])
 have hw:=k7 (s.ah.length:Int) 1 160
 by_cases h1:(200:Int)<(s.ax.length:Int)
 ·(try((repeat(revert hN;revert N;apply Pn.out));refine wk (tw @ab.eq_1 @h1) ?_;(repeat(refine Pn.mk ?_;intro N hN))))
  exact aU (b:=false) (.inl rfl) (sd @Nat.zero_add) (fC fun h=>by have:=h.vM;omega)
 by_cases h2:jc (s.ah.length:Int) 1 160=true
 ·have Cz:=ev h2
  rw[h2]at hw
  (repeat(first|((repeat(revert hN;revert N;apply Pn.out));refine wk (tw @ab.eq_1 @h1) ?_;(repeat(refine Pn.mk ?_;intro N hN)))|((try apply Or.inl);refine⟨_,aq.x (hw) (sd (tw @ab.eq_1 @h1)),?_⟩;refine hN _ _ ?_;clear hN N)))
  refine aV (fun n env st=>∃k:Nat,n=(s.ax.length)-k/\k<=(s.ax.length)/\env 24=.int .i64 (k:Int)/\st.get ⟨164000000,n0⟩=some ⟨true,2,[ab s]⟩/\st.get ⟨164003000,n0+1+1⟩=some ⟨true,mS.pq,dy ((List.range k).map fun i=>(pM s i).aC)⟩/\(∀j:Nat,j<k->CL s j)) (s.ax.length) ⟨0,by omega,by omega,by(try simp only[go_sem, ↓reduceIte,Nat.reduceEqDiff,Nat.reduceAdd,Nat.reduceSub,Nat.reduceLeDiff,reduceCtorEq,ab,List.range_zero,List.map_nil,dy]);try rfl,by(try simp only[go_sem, ↓reduceIte,Nat.reduceEqDiff,Nat.reduceAdd,Nat.reduceSub,Nat.reduceLeDiff,reduceCtorEq,ab,List.range_zero,List.map_nil,dy]);try rfl,by(try simp only[go_sem, ↓reduceIte,Nat.reduceEqDiff,Nat.reduceAdd,Nat.reduceSub,Nat.reduceLeDiff,reduceCtorEq,ab,List.range_zero,List.map_nil,dy]);try rfl,fun _ h=>absurd h (Nat.not_lt_zero _)⟩ ?_
  rintro n_a env_a st_a ⟨k,rfl,ale,a24,ag0,ag1,lZ⟩ dD
  have a1:=dD 1 (by kernel_rfl);have a3:=dD 3 (by kernel_rfl);have a22:=dD 22 (by kernel_rfl);have a23:=dD 23 (by kernel_rfl)
  simp only[go_sem, ↓reduceIte,Nat.reduceEqDiff,Nat.reduceAdd,Nat.reduceSub,Nat.reduceLeDiff,reduceCtorEq,ab,List.range_zero,List.map_nil,dy]at a1 a3 a22 a23
  clear dD
  by_cases hk:(k:Int)<(s.ax.length:Int)
  ·have cC:∀{e:Env} {gg:Rows},(e 24=.int .i64 (IntKind.i64.wrap ((k:Int)+1)))->(gg ⟨164000000,n0⟩=some ⟨true,2,[ab s]⟩)->(gg ⟨164003000,n0+1+1⟩=some ⟨true,mS.pq,dy ((List.range (k+1)).map fun i=>(pM s i).aC)⟩)->(CL s k)->∃m0,m0<(s.ax.length)-k/\∃k:Nat,m0=(s.ax.length)-k/\k<=(s.ax.length)/\e 24=.int .i64 (k:Int)/\gg ⟨164000000,n0⟩=some ⟨true,2,[ab s]⟩/\gg ⟨164003000,n0+1+1⟩=some ⟨true,mS.pq,dy ((List.range k).map fun i=>(pM s i).aC)⟩/\(∀j:Nat,j<k->CL s j):=fun x1 x2 x3 x4=>⟨_,by omega,k+1,rfl,by omega,(by rw[x1,az (by omega)]),x2,x3,(all_succ lZ x4)⟩
   have fy:k<s.ax.length:=by omega
   have eQ:=zx fy
   have sk:=Fe (pM s k).aC (QI k fy)
   have KA:=k7 (pM s k).eu 1 4
   have Bv:=wP (pM s k).aC ((List.range k).map fun i=>(pM s i).aC)
   rw[wo _ k]at Bv
   have lk:(¬CL s k)->¬iF s:=fun h hp=>h (hp.RY k fy)
   generalize uE:pM s k=gl at *
   cases hb:jL gl.aC
   ·rw[hb]at sk
    (repeat(first|((repeat(revert hN;revert N;apply Pn.out));refine wk (tw @a24 (tw @ag0 (tw @ag1 (tw @a1 (tw @a3 (tw @a22 (tw @a23 (tw @hk (tw @eQ (tw @bG.eq_1 @ab.eq_1)))))))))) ?_;(repeat(refine Pn.mk ?_;intro N hN)))|((try apply Or.inl);refine⟨_,aq.x (sk) (sd (tw @a24 (tw @ag0 (tw @ag1 (tw @a1 (tw @a3 (tw @a22 (tw @a23 (tw @hk (tw @eQ (tw @bG.eq_1 @ab.eq_1))))))))))),?_⟩;refine hN _ _ ?_;clear hN N)))
    exact aU (b:=false) (.inl rfl) (sd @Nat.zero_add) (fC (lk fun h=>by rw[CL,uE,hb]at h;cases h.1))
   ·rw[hb]at sk
    rcases Bv with⟨Dh,l7⟩|⟨j,ft,l7,fQ⟩
    ·cases dE:jc gl.eu 1 4
     ·rw[dE]at KA
      (repeat(first|((repeat(revert hN;revert N;apply Pn.out));refine wk (tw @a24 (tw @ag0 (tw @ag1 (tw @a1 (tw @a3 (tw @a22 (tw @a23 (tw @hk (tw @eQ (tw @l7 (tw @bG.eq_1 @ab.eq_1))))))))))) ?_;(repeat(refine Pn.mk ?_;intro N hN)))|((try apply Or.inl);refine⟨_,aq.x (sk) (sd (tw @a24 (tw @ag0 (tw @ag1 (tw @a1 (tw @a3 (tw @a22 (tw @a23 (tw @hk (tw @eQ (tw @l7 (tw @bG.eq_1 @ab.eq_1)))))))))))),?_⟩;refine hN _ _ ?_;clear hN N)|((try apply Or.inl);refine⟨_,aq.x (KA) (sd (tw @a24 (tw @ag0 (tw @ag1 (tw @a1 (tw @a3 (tw @a22 (tw @a23 (tw @hk (tw @eQ (tw @l7 (tw @bG.eq_1 @ab.eq_1)))))))))))),?_⟩;refine hN _ _ ?_;clear hN N)))
      exact aU (b:=false) (.inl rfl) (sd @Nat.zero_add) (fC (lk fun h=>by rw[CL,uE,dE]at h;cases h.2.1))
     ·rw[dE]at KA
      have qx:dy ((List.range k).map fun i=>(pM s i).aC)++[[.str gl.aC,.bool true]]=dy (List.map (fun i=>(pM s i).aC) (List.range k++[k])):=by simp[dy,uE]
      (repeat(first|((repeat(revert hN;revert N;apply Pn.out));refine wk (tw @a24 (tw @ag0 (tw @ag1 (tw @a1 (tw @a3 (tw @a22 (tw @a23 (tw @hk (tw @eQ (tw @l7 (tw @bG.eq_1 @ab.eq_1))))))))))) ?_;(repeat(refine Pn.mk ?_;intro N hN)))|((try apply Or.inl);refine⟨_,aq.x (sk) (sd (tw @a24 (tw @ag0 (tw @ag1 (tw @a1 (tw @a3 (tw @a22 (tw @a23 (tw @hk (tw @eQ (tw @l7 (tw @bG.eq_1 @ab.eq_1)))))))))))),?_⟩;refine hN _ _ ?_;clear hN N)|((try apply Or.inl);refine⟨_,aq.x (KA) (sd (tw @a24 (tw @ag0 (tw @ag1 (tw @a1 (tw @a3 (tw @a22 (tw @a23 (tw @hk (tw @eQ (tw @l7 (tw @bG.eq_1 @ab.eq_1)))))))))))),?_⟩;refine hN _ _ ?_;clear hN N)))
      refine cC ?_ ?_ ?_ (⟨by rw[uE];exact hb,by rw[uE];exact dE,fun j hj=>by rw[uE];exact Dh j hj⟩)
      all_goals simp only[go_sem, ↓reduceIte,Nat.reduceEqDiff,Nat.reduceAdd,Nat.reduceSub,Nat.reduceLeDiff,reduceCtorEq,a24,ag0,ag1,a1,a3,a22,a23,l7,qx]
    ·(repeat(first|((repeat(revert hN;revert N;apply Pn.out));refine wk (tw @a24 (tw @ag0 (tw @ag1 (tw @a1 (tw @a3 (tw @a22 (tw @a23 (tw @hk (tw @eQ (tw @l7 (tw @fQ (tw @bG.eq_1 @ab.eq_1)))))))))))) ?_;(repeat(refine Pn.mk ?_;intro N hN)))|((try apply Or.inl);refine⟨_,aq.x (sk) (sd (tw @a24 (tw @ag0 (tw @ag1 (tw @a1 (tw @a3 (tw @a22 (tw @a23 (tw @hk (tw @eQ (tw @l7 (tw @fQ (tw @bG.eq_1 @ab.eq_1))))))))))))),?_⟩;refine hN _ _ ?_;clear hN N)))
     exact aU (b:=false) (.inl rfl) (sd @Nat.zero_add) (fC (lk fun h=>by
      rw[CL,uE]at h
      obtain⟨i,hi,he⟩:=List.mem_map.1 ft
      exact h.2.2 i (List.mem_range.1 hi) he))
  ·have l6:k=s.ax.length:=by omega
   (try((repeat(revert hN;revert N;apply Pn.out));refine wk (tw @a24 (tw @ag0 (tw @ag1 (tw @a1 (tw @a3 (tw @a22 (tw @a23 (tw @hk @ab.eq_1)))))))) ?_;(repeat(refine Pn.mk ?_;intro N hN))))
   refine aV (fun n env st=>∃j:Nat,n=(s.ah.length)-j/\j<=(s.ah.length)/\env 52=.int .i64 (j:Int)/\st.get ⟨164000000,n0⟩=some ⟨true,2,[ab s]⟩/\st.get ⟨164011000,st_a.next+1⟩=some ⟨true,mS.pq,dy ((List.range j).map fun i=>(o8 s i).aC)⟩/\(∀i:Nat,i<j->AL s i)/\(st_a.next<st.next)) (s.ah.length) ⟨0,by omega,by omega,by(try simp only[go_sem, ↓reduceIte,Nat.reduceEqDiff,Nat.reduceAdd,Nat.reduceSub,Nat.reduceLeDiff,reduceCtorEq,a24,ag0,ag1,a1,a3,a22,a23,ab,List.range_zero,List.map_nil,dy]);try rfl,by(try simp only[go_sem, ↓reduceIte,Nat.reduceEqDiff,Nat.reduceAdd,Nat.reduceSub,Nat.reduceLeDiff,reduceCtorEq,a24,ag0,ag1,a1,a3,a22,a23,ab,List.range_zero,List.map_nil,dy]);try rfl,by(try simp only[go_sem, ↓reduceIte,Nat.reduceEqDiff,Nat.reduceAdd,Nat.reduceSub,Nat.reduceLeDiff,reduceCtorEq,a24,ag0,ag1,a1,a3,a22,a23,ab,List.range_zero,List.map_nil,dy]);try rfl,fun _ h=>absurd h (Nat.not_lt_zero _),(by(try dsimp only);omega)⟩ ?_
   rintro n_b env_b st_b ⟨j,rfl,ble,b52,bg0,bg1,bA0,bI0⟩ fW
   have b1:=fW 1 (by kernel_rfl);have b6:=fW 6 (by kernel_rfl);have CV:=fW 50 (by kernel_rfl);have CW:=fW 51 (by kernel_rfl)
   simp only[go_sem, ↓reduceIte,Nat.reduceEqDiff,Nat.reduceAdd,Nat.reduceSub,Nat.reduceLeDiff,reduceCtorEq,a24,ag0,ag1,a1,a3,a22,a23,ab,List.range_zero,List.map_nil,dy]at b1 b6 CV CW
   clear fW
   by_cases hj:(j:Int)<(s.ah.length:Int)
   ·have ga:∀{e:Env} {gg:Rows} {nx:Nat},(e 52=.int .i64 (IntKind.i64.wrap ((j:Int)+1)))->(gg ⟨164000000,n0⟩=some ⟨true,2,[ab s]⟩)->(gg ⟨164011000,st_a.next+1⟩=some ⟨true,mS.pq,dy ((List.range (j+1)).map fun i=>(o8 s i).aC)⟩)->(AL s j)->(st_a.next<nx)->∃m0,m0<(s.ah.length)-j/\∃j:Nat,m0=(s.ah.length)-j/\j<=(s.ah.length)/\e 52=.int .i64 (j:Int)/\gg ⟨164000000,n0⟩=some ⟨true,2,[ab s]⟩/\gg ⟨164011000,st_a.next+1⟩=some ⟨true,mS.pq,dy ((List.range j).map fun i=>(o8 s i).aC)⟩/\(∀i:Nat,i<j->AL s i)/\(st_a.next<nx):=fun x1 x2 x3 x4 x5=>⟨_,by omega,j+1,rfl,by omega,(by rw[x1,az (by omega)]),x2,x3,(all_succ bA0 x4),x5⟩
    have iO:j<s.ah.length:=by omega
    have nQ:=Aj iO
    have sk:=Fe (o8 s j).aC (Q1 j iO)
    have SE:=L5 s (o8 s j).br (xD j iO)
    have Bv:=wP (o8 s j).aC ((List.range j).map fun i=>(o8 s i).aC)
    rw[wo _ j]at Bv
    have lk:(¬AL s j)->¬iF s:=fun h hp=>h (hp.tok j iO)
    have gW:(⟨164011000,st_a.next+1⟩:Id)≠⟨164000000,n0⟩:=by simp
    generalize htd:o8 s j=tl at *
    cases hb:jL tl.aC
    ·rw[hb]at sk
     (repeat(first|((repeat(revert hN;revert N;apply Pn.out));refine wk (tw @b52 (tw @bg0 (tw @bg1 (tw @b1 (tw @b6 (tw @CV (tw @CW (tw @hj (tw @nQ (tw @bB.eq_1 @ab.eq_1)))))))))) ?_;(repeat(refine Pn.mk ?_;intro N hN)))|((try apply Or.inl);refine⟨_,aq.x (sk) (sd (tw @b52 (tw @bg0 (tw @bg1 (tw @b1 (tw @b6 (tw @CV (tw @CW (tw @hj (tw @nQ (tw @bB.eq_1 @ab.eq_1))))))))))),?_⟩;refine hN _ _ ?_;clear hN N)))
     exact aU (b:=false) (.inl rfl) (sd @Nat.zero_add) (fC (lk fun h=>by rw[AL,htd,hb]at h;cases h.1))
    ·rw[hb]at sk
     rcases Bv with⟨Dh,l7⟩|⟨i,ft,l7,fQ⟩
     ·by_cases h4:(tl.br.length:Int)=4
      ·have zz:decide ((tl.br.length:Int)=4)=true:=decide_eq_true h4
       cases hany:tl.br.any fun g=> !jc g 0 s.ax.length
       ·rw[hany]at SE
        have qx:dy ((List.range j).map fun i=>(o8 s i).aC)++[[.str tl.aC,.bool true]]=dy (List.map (fun i=>(o8 s i).aC) (List.range j++[j])):=by simp[dy,htd]
        (repeat(first|((repeat(revert hN;revert N;apply Pn.out));refine wk (tw @b52 (tw @bg0 (tw @bg1 (tw @b1 (tw @b6 (tw @CV (tw @CW (tw @hj (tw @nQ (tw @l7 (tw @zz (tw @bB.eq_1 @ab.eq_1)))))))))))) ?_;(repeat(refine Pn.mk ?_;intro N hN)))|((try apply Or.inl);refine⟨_,aq.x (sk) (sd (tw @b52 (tw @bg0 (tw @bg1 (tw @b1 (tw @b6 (tw @CV (tw @CW (tw @hj (tw @nQ (tw @l7 (tw @zz (tw @bB.eq_1 @ab.eq_1))))))))))))),?_⟩;refine hN _ _ ?_;clear hN N)|((try apply Or.inl);refine⟨_,aq.x (SE) (sd (tw @b52 (tw @bg0 (tw @bg1 (tw @b1 (tw @b6 (tw @CV (tw @CW (tw @hj (tw @nQ (tw @l7 (tw @zz (tw @bB.eq_1 @ab.eq_1))))))))))))),?_⟩;refine hN _ _ ?_;clear hN N)))
        refine ga ?_ ?_ ?_ (⟨by rw[htd];exact hb,by rw[htd];omega,fun i hi=>(by rw[htd];exact Dh i hi),fun g hg=>by rw[htd]at hg;have:=List.any_eq_false.1 hany g hg;simpa using this⟩) (by(try dsimp only);omega)
        all_goals simp only[go_sem, ↓reduceIte,Nat.reduceEqDiff,Nat.reduceAdd,Nat.reduceSub,Nat.reduceLeDiff,reduceCtorEq,b52,bg0,bg1,b1,b6,CV,CW,l7,qx]
       ·rw[hany]at SE
        (repeat(first|((repeat(revert hN;revert N;apply Pn.out));refine wk (tw @b52 (tw @bg0 (tw @bg1 (tw @b1 (tw @b6 (tw @CV (tw @CW (tw @hj (tw @nQ (tw @l7 (tw @zz (tw @bB.eq_1 @ab.eq_1)))))))))))) ?_;(repeat(refine Pn.mk ?_;intro N hN)))|((try apply Or.inl);refine⟨_,aq.x (sk) (sd (tw @b52 (tw @bg0 (tw @bg1 (tw @b1 (tw @b6 (tw @CV (tw @CW (tw @hj (tw @nQ (tw @l7 (tw @zz (tw @bB.eq_1 @ab.eq_1))))))))))))),?_⟩;refine hN _ _ ?_;clear hN N)|((try apply Or.inl);refine⟨_,aq.x (SE) (sd (tw @b52 (tw @bg0 (tw @bg1 (tw @b1 (tw @b6 (tw @CV (tw @CW (tw @hj (tw @nQ (tw @l7 (tw @zz (tw @bB.eq_1 @ab.eq_1))))))))))))),?_⟩;refine hN _ _ ?_;clear hN N)))
        exact aU (b:=false) (.inl rfl) (sd @Nat.zero_add) (fC (lk fun h=>by
         rw[AL,htd]at h
         obtain⟨g,hg,hq⟩:=List.any_eq_true.1 hany
         have:=h.2.2.2 g hg
         rw[this]at hq;cases hq))
      ·have zz:decide ((tl.br.length:Int)=4)=false:=decide_eq_false h4
       (repeat(first|((repeat(revert hN;revert N;apply Pn.out));refine wk (tw @b52 (tw @bg0 (tw @bg1 (tw @b1 (tw @b6 (tw @CV (tw @CW (tw @hj (tw @nQ (tw @l7 (tw @zz (tw @bB.eq_1 @ab.eq_1)))))))))))) ?_;(repeat(refine Pn.mk ?_;intro N hN)))|((try apply Or.inl);refine⟨_,aq.x (sk) (sd (tw @b52 (tw @bg0 (tw @bg1 (tw @b1 (tw @b6 (tw @CV (tw @CW (tw @hj (tw @nQ (tw @l7 (tw @zz (tw @bB.eq_1 @ab.eq_1))))))))))))),?_⟩;refine hN _ _ ?_;clear hN N)))
       exact aU (b:=false) (.inl rfl) (sd @Nat.zero_add) (fC (lk fun h=>by rw[AL,htd]at h;have:=h.2.1;omega))
     ·(repeat(first|((repeat(revert hN;revert N;apply Pn.out));refine wk (tw @b52 (tw @bg0 (tw @bg1 (tw @b1 (tw @b6 (tw @CV (tw @CW (tw @hj (tw @nQ (tw @l7 (tw @fQ (tw @bB.eq_1 @ab.eq_1)))))))))))) ?_;(repeat(refine Pn.mk ?_;intro N hN)))|((try apply Or.inl);refine⟨_,aq.x (sk) (sd (tw @b52 (tw @bg0 (tw @bg1 (tw @b1 (tw @b6 (tw @CV (tw @CW (tw @hj (tw @nQ (tw @l7 (tw @fQ (tw @bB.eq_1 @ab.eq_1))))))))))))),?_⟩;refine hN _ _ ?_;clear hN N)))
      exact aU (b:=false) (.inl rfl) (sd @Nat.zero_add) (fC (lk fun h=>by
       rw[AL,htd]at h
       obtain⟨i,hi,he⟩:=List.mem_map.1 ft
       exact h.2.2.1 i (List.mem_range.1 hi) he))
   ·(try((repeat(revert hN;revert N;apply Pn.out));refine wk (tw @b52 (tw @bg0 (tw @bg1 (tw @b1 (tw @b6 (tw @CV (tw @CW (tw @hj @ab.eq_1)))))))) ?_;(repeat(refine Pn.mk ?_;intro N hN))))
    exact aU (b:=true) (.inl rfl) (sd @Nat.zero_add) (Ci ⟨by omega,by omega,by omega,fun i hi=>lZ i (by omega),fun i hi=>bA0 i (by omega)⟩)
 ·rw[Bool.not_eq_true]at h2
  rw[h2]at hw
  (repeat(first|((repeat(revert hN;revert N;apply Pn.out));refine wk (tw @ab.eq_1 @h1) ?_;(repeat(refine Pn.mk ?_;intro N hN)))|((try apply Or.inl);refine⟨_,aq.x (hw) (sd (tw @ab.eq_1 @h1)),?_⟩;refine hN _ _ ?_;clear hN N)))
  exact aU (b:=false) (.inl rfl) (sd @Nat.zero_add) (fC fun h=>by
   have h3:=h.some
   have h4:=h.J0
   rw[kO ⟨by omega,by omega⟩]at h2;cases h2)
end Go.Proofs.YtgoelphibofcmaaGreat.V

namespace Go.Proofs.YtgoelphibofcmaaGreat.V
open Go.RowKit
attribute [local irreducible] dI wpOps gD Call
attribute [local go_sem] aM fM eP gp gm cN upd cD K.av cR AV.cells AV.cell rowOf rowsOf part ld rowAt bz cu dG ef ik bQ dh eA gj e9 dq ek dd dc dU dV bW bf cW bV cY cX ei eo ej cV ck de eh bU aT da cG ij bx cQ b4 aY dn bc dH AV.undef bF bI eb ee dP dM cJ ez eE cF er ep cZ db List.getD_cons_zero List.getD_cons_succ List.getD_nil List.all_cons List.all_nil Bool.and_true Bool.true_and Bool.and_self Bool.not_true Bool.not_false Option.map_some Option.map_none Option.bind_some Option.bind_none List.length_cons List.length_nil List.take_succ_cons List.take_zero List.take_nil List.drop_succ_cons List.drop_zero List.drop_nil List.head?_cons List.map_cons List.map_nil List.getElem?_cons_zero List.getElem?_cons_succ List.cons_append List.nil_append List.append_nil List.length_map List.set_cons_zero List.set_cons_succ Nat.reduceMul eq_self Int.toNat_natCast Int.natCast_nonneg and_self true_and and_true decide_true decide_false Bool.false_eq_true Nat.zero_add Nat.add_zero List.contains_cons List.contains_nil Bool.or_false Bool.false_or beq_self_eq_true Nat.reduceBEq ne_eq not_true_eq_false not_false_eq_true Id.mk.injEq false_and and_false Nat.reduceLT Int.reduceLE Int.reduceLT Int.reduceToNat Int.reduceNeg Int.reduceAdd Nat.le_refl List.length_append beq_true beq_false Bool.not_eq_eq_eq_not or_false false_or dO ai aj aH bp bE cz aX bl aW bj cU bH
theorem ux {α:Type} {p:α->Bool} {xs:List α} {k:Nat} (hk:k<xs.length) (h1:p xs[k]=true) (h2:∀j (h:j<xs.length),j<k->p xs[j]=false):kg p xs=k:=by
 have:xs.findIdx p=k:=by rw[List.findIdx_eq hk];exact⟨h1,fun j hj=>h2 j (by omega) hj⟩
 rw[kg,this,if_pos hk]
theorem x9 {α:Type} {p:α->Bool} {xs:List α} (h:∀j (h:j<xs.length),p xs[j]=false):kg p xs= -1:=by
 rw[kg,if_neg]
 rw[List.findIdx_lt_length]
 rintro⟨x,hx,Ll⟩
 obtain⟨j,hj,rfl⟩:=List.getElem_of_mem hx
 rw[h j hj]at Ll;cases Ll
theorem zw {s:au} {i:Nat} (h:i<s.ax.length):pM s i=s.ax[i]:=by simp[pM,List.getD_eq_getElem?_getD,h]
theorem Ai {s:au} {i:Nat} (h:i<s.ah.length):o8 s i=s.ah[i]:=by simp[o8,List.getD_eq_getElem?_getD,h]
def Kn (s:au) (n:ByteArray):Int:=kg (fun g:fA=>decide (g.aC=n)) s.ax
def MY (s:au) (n:ByteArray):Int:=kg (fun t:eR=>decide (t.aC=n)) s.ah
theorem Gn (s:au) (nm:ByteArray):aq Tryz.prog 190 [.di (ab s),.str nm] (.int .i64 (Kn s nm+1)):=by
 refine aq.body eB rfl fun hl n0=>?_
 have hlen:s.ax.length<=9223372036854775807:=by
  have h1:=(hl (.di (ab s)) (by simp)).BH (a:=.sl (s.ax.map bG)) (by simp[ab])
  simpa using h1.len
 clear hl
 (try((repeat(revert hN;revert N;apply Pn.out));refine wk @ab.eq_1 ?_;(repeat(refine Pn.mk ?_;intro N hN))))
 refine aV (fun n env st=>∃k:Nat,n=(s.ax.length)-k/\k<=(s.ax.length)/\env 5=.int .i64 (k:Int)/\(∀j:Nat,j<k->∀h:j<s.ax.length,decide (s.ax[j].aC=nm)=false)) (s.ax.length) ⟨0,by omega,by omega,sl @ab.eq_1,fun _ h=>absurd h (Nat.not_lt_zero _)⟩ ?_
 rintro n_a env_a st_a ⟨k,rfl,ale,a5,lZ⟩ dD
 have a0:=dD 0 (by kernel_rfl);have a1:=dD 1 (by kernel_rfl)
 simp only[go_sem, ↓reduceIte,Nat.reduceEqDiff,Nat.reduceAdd,Nat.reduceSub,Nat.reduceLeDiff,reduceCtorEq,ab]at a0 a1
 clear dD
 by_cases hk:(k:Int)<(s.ax.length:Int)
 ·have cC:∀{e:Env},(e 5=.int .i64 (IntKind.i64.wrap ((k:Int)+1)))->(∀h:k<s.ax.length,decide (s.ax[k].aC=nm)=false)->∃m0,m0<(s.ax.length)-k/\∃k:Nat,m0=(s.ax.length)-k/\k<=(s.ax.length)/\e 5=.int .i64 (k:Int)/\(∀j:Nat,j<k->∀h:j<s.ax.length,decide (s.ax[j].aC=nm)=false):=fun x1 x2=>⟨_,by omega,k+1,rfl,by omega,(by rw[x1,az (by omega)]),(all_succ lZ x2)⟩
  have fy:k<s.ax.length:=by omega
  have eQ:=zx fy
  have e:=zw fy
  cases hd:decide ((pM s k).aC=nm)
  ·have Sj:=of_decide_eq_false hd
   (try((repeat(revert hN;revert N;apply Pn.out));refine wk (tw @a5 (tw @a0 (tw @a1 (tw @hk (tw @eQ (tw @Sj (tw @hd (tw @bG.eq_1 @ab.eq_1)))))))) ?_;(repeat(refine Pn.mk ?_;intro N hN))))
   exact cC (sd (tw @a5 (tw @a0 @a1))) (fun _=>by rw[e]at hd;exact hd)
  ·have Sj:=of_decide_eq_true hd
   have hw:IntKind.i64.wrap ((k:Int)+1)=(k:Int)+1:=bt (by omega)
   (try((repeat(revert hN;revert N;apply Pn.out));refine wk (tw @a5 (tw @a0 (tw @a1 (tw @hk (tw @eQ (tw @hd (tw @hw (tw @bG.eq_1 @ab.eq_1)))))))) ?_;(repeat(refine Pn.mk ?_;intro N hN))))
   exact cj (b:=(k:Int)+1) (.inl rfl) (sd @Nat.zero_add) (by rw[Kn,ux fy (by rw[e]at hd;exact hd) fun j h hj=>lZ j hj h])
 ·(try((repeat(revert hN;revert N;apply Pn.out));refine wk (tw @a5 (tw @a0 (tw @a1 (tw @hk @ab.eq_1)))) ?_;(repeat(refine Pn.mk ?_;intro N hN))))
  exact cj (b:=0) (.inl rfl) (sd @Nat.zero_add) (by rw[Kn,x9 fun j h=>lZ j (by omega) h];rfl)
theorem Gp (s:au) (nm:ByteArray):aq Tryz.prog 191 [.di (ab s),.str nm] (.int .i64 (MY s nm)):=by
 refine aq.body eB rfl fun hl n0=>?_
 have hlen:s.ah.length<=9223372036854775807:=by
  have h1:=(hl (.di (ab s)) (by simp)).BH (a:=.sl (s.ah.map bB)) (by simp[ab])
  simpa using h1.len
 clear hl
 (try((repeat(revert hN;revert N;apply Pn.out));refine wk @ab.eq_1 ?_;(repeat(refine Pn.mk ?_;intro N hN))))
 refine aV (fun n env st=>∃k:Nat,n=(s.ah.length)-k/\k<=(s.ah.length)/\env 5=.int .i64 (k:Int)/\(∀j:Nat,j<k->∀h:j<s.ah.length,decide (s.ah[j].aC=nm)=false)) (s.ah.length) ⟨0,by omega,by omega,sl @ab.eq_1,fun _ h=>absurd h (Nat.not_lt_zero _)⟩ ?_
 rintro n_a env_a st_a ⟨k,rfl,ale,a5,lZ⟩ dD
 have a0:=dD 0 (by kernel_rfl);have a1:=dD 1 (by kernel_rfl)
 simp only[go_sem, ↓reduceIte,Nat.reduceEqDiff,Nat.reduceAdd,Nat.reduceSub,Nat.reduceLeDiff,reduceCtorEq,ab]at a0 a1
 clear dD
 by_cases hk:(k:Int)<(s.ah.length:Int)
 ·have cC:∀{e:Env},(e 5=.int .i64 (IntKind.i64.wrap ((k:Int)+1)))->(∀h:k<s.ah.length,decide (s.ah[k].aC=nm)=false)->∃m0,m0<(s.ah.length)-k/\∃k:Nat,m0=(s.ah.length)-k/\k<=(s.ah.length)/\e 5=.int .i64 (k:Int)/\(∀j:Nat,j<k->∀h:j<s.ah.length,decide (s.ah[j].aC=nm)=false):=fun x1 x2=>⟨_,by omega,k+1,rfl,by omega,(by rw[x1,az (by omega)]),(all_succ lZ x2)⟩
  have fy:k<s.ah.length:=by omega
  have eQ:=Aj fy
  have e:=Ai fy
  cases hd:decide ((o8 s k).aC=nm)
  ·(try((repeat(revert hN;revert N;apply Pn.out));refine wk (tw @a5 (tw @a0 (tw @a1 (tw @hk (tw @eQ (tw @hd (tw @bB.eq_1 @ab.eq_1))))))) ?_;(repeat(refine Pn.mk ?_;intro N hN))))
   exact cC (sd (tw @a5 (tw @a0 @a1))) (fun _=>by rw[e]at hd;exact hd)
  ·(try((repeat(revert hN;revert N;apply Pn.out));refine wk (tw @a5 (tw @a0 (tw @a1 (tw @hk (tw @eQ (tw @hd (tw @bB.eq_1 @ab.eq_1))))))) ?_;(repeat(refine Pn.mk ?_;intro N hN))))
   exact cj (b:=(k:Int)) (.inl rfl) (sd @Nat.zero_add) (by rw[MY,ux fy (by rw[e]at hd;exact hd) fun j h hj=>lZ j hj h])
 ·(try((repeat(revert hN;revert N;apply Pn.out));refine wk (tw @a5 (tw @a0 (tw @a1 (tw @hk @ab.eq_1)))) ?_;(repeat(refine Pn.mk ?_;intro N hN))))
  exact cj (b:=-1) (.inl rfl) (sd @Nat.zero_add) (by rw[MY,x9 fun j h=>lZ j (by omega) h])
theorem NB {s:au} {i:Nat} (h:i<s.ax.length):Kn s (pM s i).aC=i↔∀j,j<i->(pM s j).aC≠(pM s i).aC:=by
 constructor
 ·intro he j hj hc
  have gZ:j<s.ax.length:=by omega
  have:s.ax.findIdx (fun g:fA=>decide (g.aC=(pM s i).aC))<=j:=by
   rcases Nat.lt_or_ge j (s.ax.findIdx fun g:fA=>decide (g.aC=(pM s i).aC))with dQ|qw
   ·have:=List.not_of_lt_findIdx dQ
    rw[<-zw gZ]at this
    simp[hc]at this
   ·exact qw
  unfold Kn kg at he
  split at he<;>omega
 ·intro hd
  exact ux h (by rw[<-zw h];simp) fun j gZ hj=>by rw[<-zw gZ];simpa using hd j hj
theorem OV {s:au} {i:Nat} (h:i<s.ah.length):MY s (o8 s i).aC=i↔∀j,j<i->(o8 s j).aC≠(o8 s i).aC:=by
 constructor
 ·intro he j hj hc
  have gZ:j<s.ah.length:=by omega
  have:s.ah.findIdx (fun g:eR=>decide (g.aC=(o8 s i).aC))<=j:=by
   rcases Nat.lt_or_ge j (s.ah.findIdx fun g:eR=>decide (g.aC=(o8 s i).aC))with dQ|qw
   ·have:=List.not_of_lt_findIdx dQ
    rw[<-Ai gZ]at this
    simp[hc]at this
   ·exact qw
  unfold MY kg at he
  split at he<;>omega
 ·intro hd
  exact ux h (by rw[<-Ai h];simp) fun j gZ hj=>by rw[<-Ai gZ];simpa using hd j hj
theorem Lx (s:au) (hn:fV s) (hg:s.ax.length<=1048576) (ht:s.ah.length<=1048576):aq Tryz.prog 156 [.di (ab s)] (.bool (qL s)):=by
 refine aq.body eB rfl fun hl n0=>?_
 clear hl
 have QI:∀i,i<s.ax.length->(pM s i).aC.size<=9223372036854775807:=fun i hi=>hn.1 _ (by simp[pM,List.getD_eq_getElem?_getD,hi])
 have Q1:∀i,i<s.ah.length->(o8 s i).aC.size<=9223372036854775807:=fun i hi=>hn.2 _ (by simp[o8,List.getD_eq_getElem?_getD,hi])
 by_cases h1:(200:Int)<(s.ax.length:Int)
 ·(try((repeat(revert hN;revert N;apply Pn.out));refine wk (tw @ab.eq_1 @h1) ?_;(repeat(refine Pn.mk ?_;intro N hN))))
  exact aU (b:=false) (.inl rfl) (sd @Nat.zero_add) (fC fun h=>by have:=h.vM;omega)
 by_cases h2:(s.ah.length:Int)<1
 ·(try((repeat(revert hN;revert N;apply Pn.out));refine wk (tw @ab.eq_1 (tw @h1 @h2)) ?_;(repeat(refine Pn.mk ?_;intro N hN))))
  exact aU (b:=false) (.inl rfl) (sd @Nat.zero_add) (fC fun h=>by have:=h.some;omega)
 by_cases h3:(160:Int)<(s.ah.length:Int)
 ·(try((repeat(revert hN;revert N;apply Pn.out));refine wk (tw @ab.eq_1 (tw @h1 (tw @h2 @h3))) ?_;(repeat(refine Pn.mk ?_;intro N hN))))
  exact aU (b:=false) (.inl rfl) (sd @Nat.zero_add) (fC fun h=>by have:=h.J0;omega)
 (try((repeat(revert hN;revert N;apply Pn.out));refine wk (tw @ab.eq_1 (tw @h1 (tw @h2 @h3))) ?_;(repeat(refine Pn.mk ?_;intro N hN))))
 refine aV (fun n env st=>∃k:Nat,n=(s.ax.length)-k/\k<=(s.ax.length)/\env 3=.int .i64 (k:Int)/\(∀j:Nat,j<k->CL s j)) (s.ax.length) ⟨0,by omega,by omega,sl @ab.eq_1,fun _ h=>absurd h (Nat.not_lt_zero _)⟩ ?_
 rintro n_a env_a st_a ⟨k,rfl,ale,a3,lZ⟩ dD
 have a0:=dD 0 (by kernel_rfl)
 simp only[go_sem, ↓reduceIte,Nat.reduceEqDiff,Nat.reduceAdd,Nat.reduceSub,Nat.reduceLeDiff,reduceCtorEq,ab]at a0
 clear dD
 by_cases hk:(k:Int)<(s.ax.length:Int)
 ·have cC:∀{e:Env},(e 3=.int .i64 (IntKind.i64.wrap ((k:Int)+1)))->(CL s k)->∃m0,m0<(s.ax.length)-k/\∃k:Nat,m0=(s.ax.length)-k/\k<=(s.ax.length)/\e 3=.int .i64 (k:Int)/\(∀j:Nat,j<k->CL s j):=fun x1 x2=>⟨_,by omega,k+1,rfl,by omega,(by rw[x1,az (by omega)]),(all_succ lZ x2)⟩
  have fy:k<s.ax.length:=by omega
  have eQ:=zx fy
  have sk:=Fu (pM s k).aC (QI k fy)
  have KA:=lJ (pM s k).eu 1 4
  have Ga:=Gn s (pM s k).aC
  have rD:=NB fy
  have lk:(¬CL s k)->¬iF s:=fun h hp=>h (hp.RY k fy)
  have hw:IntKind.i64.wrap ((k:Int)+1)=(k:Int)+1:=bt (by omega)
  generalize uE:pM s k=gl at *
  cases hb:jL gl.aC
  ·rw[hb]at sk
   (repeat(first|((repeat(revert hN;revert N;apply Pn.out));refine wk (tw @a3 (tw @a0 (tw @hk (tw @eQ (tw @bG.eq_1 @ab.eq_1))))) ?_;(repeat(refine Pn.mk ?_;intro N hN)))|((try apply Or.inl);refine⟨_,aq.x (sk) (sd (tw @a3 (tw @a0 (tw @hk (tw @eQ (tw @bG.eq_1 @ab.eq_1)))))),?_⟩;refine hN _ _ ?_;clear hN N)))
   exact aU (b:=false) (.inl rfl) (sd @Nat.zero_add) (fC (lk fun h=>by rw[CL,uE,hb]at h;cases h.1))
  rw[hb]at sk
  cases dE:jc gl.eu 1 4
  ·rw[dE]at KA
   (repeat(first|((repeat(revert hN;revert N;apply Pn.out));refine wk (tw @a3 (tw @a0 (tw @hk (tw @eQ (tw @bG.eq_1 @ab.eq_1))))) ?_;(repeat(refine Pn.mk ?_;intro N hN)))|((try apply Or.inl);refine⟨_,aq.x (sk) (sd (tw @a3 (tw @a0 (tw @hk (tw @eQ (tw @bG.eq_1 @ab.eq_1)))))),?_⟩;refine hN _ _ ?_;clear hN N)|((try apply Or.inl);refine⟨_,aq.x (KA) (sd (tw @a3 (tw @a0 (tw @hk (tw @eQ (tw @bG.eq_1 @ab.eq_1)))))),?_⟩;refine hN _ _ ?_;clear hN N)))
   exact aU (b:=false) (.inl rfl) (sd @Nat.zero_add) (fC (lk fun h=>by rw[CL,uE,dE]at h;cases h.2.1))
  rw[dE]at KA
  rw[ab]at Ga
  by_cases hq:Kn s gl.aC=(k:Int)
  ·have hd:decide (Kn s gl.aC+1=(k:Int)+1)=true:=decide_eq_true (by omega)
   have nO:decide (Kn s gl.aC=(k:Int))=true:=decide_eq_true hq
   (repeat(first|((repeat(revert hN;revert N;apply Pn.out));refine wk (tw @a3 (tw @a0 (tw @hk (tw @eQ (tw @hw (tw @hd (tw @nO (tw @bG.eq_1 @ab.eq_1)))))))) ?_;(repeat(refine Pn.mk ?_;intro N hN)))|((try apply Or.inl);refine⟨_,aq.x (sk) (sd (tw @a3 (tw @a0 (tw @hk (tw @eQ (tw @hw (tw @hd (tw @nO (tw @bG.eq_1 @ab.eq_1))))))))),?_⟩;refine hN _ _ ?_;clear hN N)|((try apply Or.inl);refine⟨_,aq.x (KA) (sd (tw @a3 (tw @a0 (tw @hk (tw @eQ (tw @hw (tw @hd (tw @nO (tw @bG.eq_1 @ab.eq_1))))))))),?_⟩;refine hN _ _ ?_;clear hN N)|((try apply Or.inl);refine⟨_,aq.x (Ga) (sd (tw @a3 (tw @a0 (tw @hk (tw @eQ (tw @hw (tw @hd (tw @nO (tw @bG.eq_1 @ab.eq_1))))))))),?_⟩;refine hN _ _ ?_;clear hN N)))
   exact cC (sd (tw @a3 (tw @a0 @hw))) (⟨by rw[uE];exact hb,by rw[uE];exact dE,fun j hj=>by rw[uE];exact rD.1 hq j hj⟩)
  ·have hd:decide (Kn s gl.aC+1=(k:Int)+1)=false:=decide_eq_false (by omega)
   have nO:decide (Kn s gl.aC=(k:Int))=false:=decide_eq_false hq
   (repeat(first|((repeat(revert hN;revert N;apply Pn.out));refine wk (tw @a3 (tw @a0 (tw @hk (tw @eQ (tw @hw (tw @hd (tw @nO (tw @bG.eq_1 @ab.eq_1)))))))) ?_;(repeat(refine Pn.mk ?_;intro N hN)))|((try apply Or.inl);refine⟨_,aq.x (sk) (sd (tw @a3 (tw @a0 (tw @hk (tw @eQ (tw @hw (tw @hd (tw @nO (tw @bG.eq_1 @ab.eq_1))))))))),?_⟩;refine hN _ _ ?_;clear hN N)|((try apply Or.inl);refine⟨_,aq.x (KA) (sd (tw @a3 (tw @a0 (tw @hk (tw @eQ (tw @hw (tw @hd (tw @nO (tw @bG.eq_1 @ab.eq_1))))))))),?_⟩;refine hN _ _ ?_;clear hN N)|((try apply Or.inl);refine⟨_,aq.x (Ga) (sd (tw @a3 (tw @a0 (tw @hk (tw @eQ (tw @hw (tw @hd (tw @nO (tw @bG.eq_1 @ab.eq_1))))))))),?_⟩;refine hN _ _ ?_;clear hN N)))
   exact aU (b:=false) (.inl rfl) (sd @Nat.zero_add) (fC (lk fun h=>by
    rw[CL,uE]at h
    exact hq (rD.2 h.2.2)))
 ·have l6:k=s.ax.length:=by omega
  (try((repeat(revert hN;revert N;apply Pn.out));refine wk (tw @a3 (tw @a0 (tw @hk @ab.eq_1))) ?_;(repeat(refine Pn.mk ?_;intro N hN))))
  refine aV (fun n env st=>∃j:Nat,n=(s.ah.length)-j/\j<=(s.ah.length)/\env 5=.int .i64 (j:Int)/\(∀i:Nat,i<j->AL s i)) (s.ah.length) ⟨0,by omega,by omega,sl (tw @a3 (tw @a0 @ab.eq_1)),fun _ h=>absurd h (Nat.not_lt_zero _)⟩ ?_
  rintro n_b env_b st_b ⟨j,rfl,ble,b5,bA0⟩ fW
  have b0:=fW 0 (by kernel_rfl)
  simp only[go_sem, ↓reduceIte,Nat.reduceEqDiff,Nat.reduceAdd,Nat.reduceSub,Nat.reduceLeDiff,reduceCtorEq,a3,a0,ab]at b0
  clear fW
  by_cases hj:(j:Int)<(s.ah.length:Int)
  ·have ga:∀{e:Env},(e 5=.int .i64 (IntKind.i64.wrap ((j:Int)+1)))->(AL s j)->∃m0,m0<(s.ah.length)-j/\∃j:Nat,m0=(s.ah.length)-j/\j<=(s.ah.length)/\e 5=.int .i64 (j:Int)/\(∀i:Nat,i<j->AL s i):=fun x1 x2=>⟨_,by omega,j+1,rfl,by omega,(by rw[x1,az (by omega)]),(all_succ bA0 x2)⟩
   have iO:j<s.ah.length:=by omega
   have nQ:=Aj iO
   have sk:=Fu (o8 s j).aC (Q1 j iO)
   have Ga:=Gp s (o8 s j).aC
   have rD:=OV iO
   have lk:(¬AL s j)->¬iF s:=fun h hp=>h (hp.tok j iO)
   generalize htd:o8 s j=tl at *
   cases hb:jL tl.aC
   ·rw[hb]at sk
    (repeat(first|((repeat(revert hN;revert N;apply Pn.out));refine wk (tw @b5 (tw @b0 (tw @hj (tw @nQ (tw @bB.eq_1 @ab.eq_1))))) ?_;(repeat(refine Pn.mk ?_;intro N hN)))|((try apply Or.inl);refine⟨_,aq.x (sk) (sd (tw @b5 (tw @b0 (tw @hj (tw @nQ (tw @bB.eq_1 @ab.eq_1)))))),?_⟩;refine hN _ _ ?_;clear hN N)))
    exact aU (b:=false) (.inl rfl) (sd @Nat.zero_add) (fC (lk fun h=>by rw[AL,htd,hb]at h;cases h.1))
   rw[hb]at sk
   by_cases h4:(tl.br.length:Int)=4
   ·have zz:decide ((tl.br.length:Int)=4)=true:=decide_eq_true h4
    rw[ab]at Ga
    by_cases hq:MY s tl.aC=(j:Int)
    ·have hd:decide (MY s tl.aC=(j:Int))=true:=decide_eq_true hq
     (repeat(first|((repeat(revert hN;revert N;apply Pn.out));refine wk (tw @b5 (tw @b0 (tw @hj (tw @nQ (tw @zz (tw @hd (tw @bB.eq_1 @ab.eq_1))))))) ?_;(repeat(refine Pn.mk ?_;intro N hN)))|((try apply Or.inl);refine⟨_,aq.x (sk) (sd (tw @b5 (tw @b0 (tw @hj (tw @nQ (tw @zz (tw @hd (tw @bB.eq_1 @ab.eq_1)))))))),?_⟩;refine hN _ _ ?_;clear hN N)|((try apply Or.inl);refine⟨_,aq.x (Ga) (sd (tw @b5 (tw @b0 (tw @hj (tw @nQ (tw @zz (tw @hd (tw @bB.eq_1 @ab.eq_1)))))))),?_⟩;refine hN _ _ ?_;clear hN N)))
     refine aV (fun n env st=>∃i:Nat,n=(4)-i/\i<=(4)/\env 7=.int .i64 (i:Int)/\st.get ⟨156012007,st_b.next+1⟩=some ⟨true,2,[bB tl]⟩/\(∀x:Nat,x<i->jc (tl.br.getD x 0) 0 s.ax.length=true)) (4) ⟨0,by omega,by omega,sl (tw @b5 (tw @b0 (tw @bB.eq_1 @ab.eq_1))),sl (tw @b5 (tw @b0 (tw @bB.eq_1 @ab.eq_1))),fun _ h=>absurd h (Nat.not_lt_zero _)⟩ ?_
     rintro n_c env_c st_c ⟨i,rfl,cle,c7,cg0,cA0⟩ cfr
     have c0:=cfr 0 (by kernel_rfl);have c5:=cfr 5 (by kernel_rfl);have c6:=cfr 6 (by kernel_rfl)
     simp only[go_sem, ↓reduceIte,Nat.reduceEqDiff,Nat.reduceAdd,Nat.reduceSub,Nat.reduceLeDiff,reduceCtorEq,b5,b0,bB,ab]at c0 c5 c6
     clear cfr
     by_cases hi:(i:Int)<4
     ·have ig:∀{e:Env} {gg:Rows},(e 7=.int .i64 (IntKind.i64.wrap ((i:Int)+1)))->(gg ⟨156012007,st_b.next+1⟩=some ⟨true,2,[bB tl]⟩)->(jc (tl.br.getD i 0) 0 s.ax.length=true)->∃m0,m0<(4)-i/\∃i:Nat,m0=(4)-i/\i<=(4)/\e 7=.int .i64 (i:Int)/\gg ⟨156012007,st_b.next+1⟩=some ⟨true,2,[bB tl]⟩/\(∀x:Nat,x<i->jc (tl.br.getD x 0) 0 s.ax.length=true):=fun x1 x2 x3=>⟨_,by omega,i+1,rfl,by omega,(by rw[x1,az (by omega)]),x2,(all_succ cA0 x3)⟩
      have ft:i<tl.br.length:=by omega
      have j6:(tl.br.map bq)[i]? =some (bq (tl.br.getD i 0)):=getD_map bq ft
      have sP:tl.br.getD i 0∈tl.br:=by rw[List.getD_eq_getElem?_getD,List.getElem?_eq_getElem ft];exact List.getElem_mem ft
      have IB:=lJ (tl.br.getD i 0) 0 s.ax.length
      generalize NY:tl.br.getD i 0=gv at *
      cases hv:jc gv 0 s.ax.length
      ·rw[hv]at IB
       (repeat(first|((repeat(revert hN;revert N;apply Pn.out));refine wk (tw @c7 (tw @cg0 (tw @c0 (tw @c5 (tw @c6 (tw @hi (tw @j6 (tw @bq.eq_1 (tw @bB.eq_1 @ab.eq_1))))))))) ?_;(repeat(refine Pn.mk ?_;intro N hN)))|((try apply Or.inl);refine⟨_,aq.x (IB) (sd (tw @c7 (tw @cg0 (tw @c0 (tw @c5 (tw @c6 (tw @hi (tw @j6 (tw @bq.eq_1 (tw @bB.eq_1 @ab.eq_1)))))))))),?_⟩;refine hN _ _ ?_;clear hN N)))
       exact aU (b:=false) (.inl rfl) (sd @Nat.zero_add) (fC (lk fun h=>by
        rw[AL,htd]at h
        have:=h.2.2.2 gv sP
        rw[hv]at this;cases this))
      ·rw[hv]at IB
       (repeat(first|((repeat(revert hN;revert N;apply Pn.out));refine wk (tw @c7 (tw @cg0 (tw @c0 (tw @c5 (tw @c6 (tw @hi (tw @j6 (tw @bq.eq_1 (tw @bB.eq_1 @ab.eq_1))))))))) ?_;(repeat(refine Pn.mk ?_;intro N hN)))|((try apply Or.inl);refine⟨_,aq.x (IB) (sd (tw @c7 (tw @cg0 (tw @c0 (tw @c5 (tw @c6 (tw @hi (tw @j6 (tw @bq.eq_1 (tw @bB.eq_1 @ab.eq_1)))))))))),?_⟩;refine hN _ _ ?_;clear hN N)))
       refine ig ?_ ?_ (hv)
       all_goals simp only[go_sem, ↓reduceIte,Nat.reduceEqDiff,Nat.reduceAdd,Nat.reduceSub,Nat.reduceLeDiff,reduceCtorEq,c7,cg0,c0,c5,c6]
     ·have hi4:i=4:=by omega
      (try((repeat(revert hN;revert N;apply Pn.out));refine wk (tw @c7 (tw @cg0 (tw @c0 (tw @c5 (tw @c6 (tw @hi (tw @bB.eq_1 @ab.eq_1))))))) ?_;(repeat(refine Pn.mk ?_;intro N hN))))
      exact ga (sd (tw @b5 (tw @b0 (tw @c7 (tw @cg0 (tw @c0 (tw @c5 @c6))))))) (⟨by rw[htd];exact hb,by rw[htd];omega,fun x hx=>(by rw[htd];exact rD.1 hq x hx),fun g hg=>by
       rw[htd]at hg
       obtain⟨x,hx,rfl⟩:=List.getElem_of_mem hg
       have:=cA0 x (by omega)
       rwa [List.getD_eq_getElem?_getD,List.getElem?_eq_getElem hx]at this⟩)
    ·have hd:decide (MY s tl.aC=(j:Int))=false:=decide_eq_false hq
     (repeat(first|((repeat(revert hN;revert N;apply Pn.out));refine wk (tw @b5 (tw @b0 (tw @hj (tw @nQ (tw @zz (tw @hd (tw @bB.eq_1 @ab.eq_1))))))) ?_;(repeat(refine Pn.mk ?_;intro N hN)))|((try apply Or.inl);refine⟨_,aq.x (sk) (sd (tw @b5 (tw @b0 (tw @hj (tw @nQ (tw @zz (tw @hd (tw @bB.eq_1 @ab.eq_1)))))))),?_⟩;refine hN _ _ ?_;clear hN N)|((try apply Or.inl);refine⟨_,aq.x (Ga) (sd (tw @b5 (tw @b0 (tw @hj (tw @nQ (tw @zz (tw @hd (tw @bB.eq_1 @ab.eq_1)))))))),?_⟩;refine hN _ _ ?_;clear hN N)))
     exact aU (b:=false) (.inl rfl) (sd @Nat.zero_add) (fC (lk fun h=>by
      rw[AL,htd]at h
      exact hq (rD.2 h.2.2.1)))
   ·have zz:decide ((tl.br.length:Int)=4)=false:=decide_eq_false h4
    (repeat(first|((repeat(revert hN;revert N;apply Pn.out));refine wk (tw @b5 (tw @b0 (tw @hj (tw @nQ (tw @zz (tw @bB.eq_1 @ab.eq_1)))))) ?_;(repeat(refine Pn.mk ?_;intro N hN)))|((try apply Or.inl);refine⟨_,aq.x (sk) (sd (tw @b5 (tw @b0 (tw @hj (tw @nQ (tw @zz (tw @bB.eq_1 @ab.eq_1))))))),?_⟩;refine hN _ _ ?_;clear hN N)))
    exact aU (b:=false) (.inl rfl) (sd @Nat.zero_add) (fC (lk fun h=>by rw[AL,htd]at h;have:=h.2.1;omega))
  ·(try((repeat(revert hN;revert N;apply Pn.out));refine wk (tw @b5 (tw @b0 (tw @hj @ab.eq_1))) ?_;(repeat(refine Pn.mk ?_;intro N hN))))
   exact aU (b:=true) (.inl rfl) (sd @Nat.zero_add) (Ci ⟨by omega,by omega,by omega,fun i hi=>lZ i (by omega),fun i hi=>bA0 i (by omega)⟩)
end Go.Proofs.YtgoelphibofcmaaGreat.V

namespace Go.Proofs.YtgoelphibofcmaaGreat.V
def jK (a b:aD):Bool:=decide (a.eS<b.eS)||(decide (a.eS=b.eS)&&decide (a.eY<b.eY))
theorem uI {a b:aD}:jK a b=true↔a.eS<b.eS∨(a.eS=b.eS/\a.eY<b.eY):=by simp[jK]
theorem pj {a b:aD}:jK a b=false↔¬(a.eS<b.eS∨(a.eS=b.eS/\a.eY<b.eY)):=by rw[<-uI,Bool.not_eq_true]
theorem DT {a b:aD} (h1:a.eY=b.eY) (h2:a.eS=b.eS):a=b:=by cases a;cases b;simp_all
theorem jQ {a b c:aD} (h:jK a b=true) (k:jK b c=true):jK a c=true:=by rw[uI]at *;omega
theorem mW {a:aD}:jK a a=false:=by rw[pj];omega
theorem Jb {a b:aD} (h:jK a b=true):jK b a=false:=by rw[uI]at h;rw[pj];omega
theorem Fk {a b:aD} (h:jK a b=false) (gW:a≠b):jK b a=true:=by
 rw[pj]at h;rw[uI]
 by_cases hy:a.eS=b.eS
 ·by_cases hx:a.eY=b.eY
  ·exact absurd (DT hx hy) gW
  ·omega
 ·omega
def rj (a b:Int):Int:=if a<b then -1 else if b<a then 1 else 0
def LP (a b:Int):Int:=if a=0 then b else a
def rl (a b:aD):Int:=LP (rj a.eS b.eS) (rj a.eY b.eY)
theorem uw (a b:aD):decide (rl a b<0)=jK a b:=by
 unfold rl LP rj jK
 by_cases h1:a.eS<b.eS
 ·simp[h1]
 ·by_cases h2:b.eS<a.eS
  ·have:¬a.eS=b.eS:=by omega
   simp[h1,h2,this]
  ·have:a.eS=b.eS:=by omega
   by_cases h3:a.eY<b.eY
   ·simp[h1,h2,this,h3]
   ·by_cases h4:b.eY<a.eY<;>simp[h1,h2,this,h3,h4]
theorem FO (a b:aD):(rl a b=0)↔a=b:=by
 cases a;cases b
 unfold rl LP rj
 simp only[aD.mk.injEq]
 split<;>(try split)<;>(try split)<;>(try split)<;>omega
def Jg:ad:=⟨⟨0,0⟩,0⟩
def aI (l:List ad) (i:Nat):ad:=l.getD i Jg
theorem fb {l:List ad} {i:Nat} (h:i<l.length):aI l i=l[i]:=by simp[aI,List.getD_eq_getElem?_getD,h]
theorem gG {l:List ad} {i:Nat} (h:i<l.length):aI l i∈l:=by rw[fb h];exact List.getElem_mem h
def nG (l:List ad):Prop:=∀i j:Nat,i<j->j<l.length->jK (aI l i).aO (aI l j).aO=true
def pR (l:List ad) (p:aD):Nat:=l.findIdx fun c=>decide (c.aO=p)
def eD (l:List ad) (p:aD):Int:=if pR l p<l.length then(pR l p:Int)else -1
def mm (l:List ad) (p:aD):Nat:=l.findIdx fun c=> !jK c.aO p
theorem zO {l:List ad} {p:aD} {i:Nat} (hi:i<=l.length) (h1:∀x,x<i->jK (aI l x).aO p=true) (h2:i<l.length->jK (aI l i).aO p=false):mm l p=i:=by
 unfold mm
 by_cases h:i<l.length
 ·rw[List.findIdx_eq h]
  refine⟨by have:=h2 h;rw[fb h]at this;simp[this],fun j hj=>?_⟩
  have:=h1 j hj
  rw[fb (by omega)]at this
  simp[this]
 ·have:i=l.length:=by omega
  subst this
  refine List.findIdx_eq_length_of_false fun x hx=>?_
  obtain⟨j,hj,rfl⟩:=List.getElem_of_mem hx
  have:=h1 j hj
  rw[fb hj]at this
  simp[this]
theorem zP {l:List ad} {p:aD} (hR:nG l):eD l p=if mm l p<l.length/\(aI l (mm l p)).aO=p then(mm l p:Int)else -1:=by
 by_cases h:∃i,i<l.length/\(aI l i).aO=p
 ·obtain⟨i,hi,hp⟩:=h
  have h1:mm l p=i:=zO (by omega) (fun x hx=>by rw[<-hp];exact hR x i hx hi) fun _=>by rw[hp];exact mW
  have h2:pR l p=i:=by
   rw[pR,List.findIdx_eq hi]
   refine⟨by rw[fb hi]at hp;simpa using hp,fun j hj=>?_⟩
   have:=hR j i hj hi
   rw[hp,fb (by omega)]at this
   simp only[decide_eq_false_iff_not]
   intro hc
   rw[hc,mW]at this
   cases this
  rw[eD,h1,h2,if_pos hi,if_pos ⟨hi,hp⟩]
 ·have h2:¬pR l p<l.length:=by
   rw[pR,List.findIdx_lt_length]
   rintro⟨c,hc,he⟩
   obtain⟨j,hj,rfl⟩:=List.getElem_of_mem hc
   exact h ⟨j,hj,by rw[fb hj];simpa using he⟩
  rw[eD,if_neg h2,if_neg]
  rintro⟨h3,h4⟩
  exact h ⟨_,h3,h4⟩
theorem lH {l:List ad} {p:aD} (h:0<=eD l p):(eD l p).toNat<l.length/\(aI l (eD l p).toNat).aO=p:=by
 unfold eD at h ⊢
 split at h
 ·rename_i hc
  rw[if_pos hc]
  refine⟨by omega,?_⟩
  have:=of_decide_eq_true (List.findIdx_getElem (p:=fun c:ad=>decide (c.aO=p)) (xs:=l) (w:=hc))
  rw[Int.toNat_natCast,fb hc]
  exact this
 ·omega
def gx (l:List ad) (p:aD):Int:=if 0<=eD l p then(aI l (eD l p).toNat).aQ else -1
end Go.Proofs.YtgoelphibofcmaaGreat.V

namespace Go.Proofs.YtgoelphibofcmaaGreat.V
open Go.RowKit
attribute [local irreducible] dI wpOps gD Call
attribute [local go_sem] aM fM eP gp gm cN upd cD K.av cR AV.cells AV.cell rowOf rowsOf part ld rowAt bz cu dG ef ik bQ dh eA gj e9 dq ek dd dc dU dV bW bf cW bV cY cX ei eo ej cV ck de eh bU aT da cG ij bx cQ b4 aY dn bc dH AV.undef bF bI eb ee dP dM cJ ez eE cF er ep cZ db List.getD_cons_zero List.getD_cons_succ List.getD_nil List.all_cons List.all_nil Bool.and_true Bool.true_and Bool.and_self Bool.not_true Bool.not_false Option.map_some Option.map_none Option.bind_some Option.bind_none List.length_cons List.length_nil List.take_succ_cons List.take_zero List.take_nil List.drop_succ_cons List.drop_zero List.drop_nil List.head?_cons List.map_cons List.map_nil List.getElem?_cons_zero List.getElem?_cons_succ List.cons_append List.nil_append List.append_nil List.length_map List.set_cons_zero List.set_cons_succ Nat.reduceMul eq_self Int.toNat_natCast Int.natCast_nonneg and_self true_and and_true decide_true decide_false Bool.false_eq_true Nat.zero_add Nat.add_zero List.contains_cons List.contains_nil Bool.or_false Bool.false_or beq_self_eq_true Nat.reduceBEq ne_eq not_true_eq_false not_false_eq_true Id.mk.injEq false_and and_false Nat.reduceLT Int.reduceLE Int.reduceLT Int.reduceToNat Int.reduceNeg Int.reduceAdd Nat.le_refl List.length_append beq_true beq_false Bool.not_eq_eq_eq_not or_false false_or dO ai aj aH bp bE cz aX bl aW bj cU bH
theorem od (a b:aD):aq Tryz.prog 160 [.agg (ae a),.agg (ae b)] (.bool (jK a b)):=by
 refine aq.body eB rfl fun hl n0=>?_
 clear hl
 by_cases h0:a.eS<b.eS
 ·(try((repeat(revert hN;revert N;apply Pn.out));refine wk (tw @ae.eq_1 @h0) ?_;(repeat(refine Pn.mk ?_;intro N hN))))
  exact aU (b:=true) (.inl rfl) (sd @Nat.zero_add) (by simp[jK,h0])
 ·by_cases h1:a.eS=b.eS
  ·have h2:¬b.eS<b.eS:=by omega
   (try((repeat(revert hN;revert N;apply Pn.out));refine wk (tw @ae.eq_1 (tw @h1 @h2)) ?_;(repeat(refine Pn.mk ?_;intro N hN))))
   exact aU (b:=decide (a.eY<b.eY)) (.inl rfl) (sd @Nat.zero_add) (by simp[jK,h1])
  ·(try((repeat(revert hN;revert N;apply Pn.out));refine wk (tw @ae.eq_1 (tw @h0 @h1)) ?_;(repeat(refine Pn.mk ?_;intro N hN))))
   exact aU (b:=false) (.inl rfl) (sd @Nat.zero_add) (by simp[jK,h0,h1])
end Go.Proofs.YtgoelphibofcmaaGreat.V

namespace Go.Proofs.YtgoelphibofcmaaGreat.V
open Go.RowKit
attribute [local irreducible] dI wpOps gD Call
attribute [local go_sem] aM fM eP gp gm cN upd cD K.av cR AV.cells AV.cell rowOf rowsOf part ld rowAt bz cu dG ef ik bQ dh eA gj e9 dq ek dd dc dU dV bW bf cW bV cY cX ei eo ej cV ck de eh bU aT da cG ij bx cQ b4 aY dn bc dH AV.undef bF bI eb ee dP dM cJ ez eE cF er ep cZ db List.getD_cons_zero List.getD_cons_succ List.getD_nil List.all_cons List.all_nil Bool.and_true Bool.true_and Bool.and_self Bool.not_true Bool.not_false Option.map_some Option.map_none Option.bind_some Option.bind_none List.length_cons List.length_nil List.take_succ_cons List.take_zero List.take_nil List.drop_succ_cons List.drop_zero List.drop_nil List.head?_cons List.map_cons List.map_nil List.getElem?_cons_zero List.getElem?_cons_succ List.cons_append List.nil_append List.append_nil List.length_map List.set_cons_zero List.set_cons_succ Nat.reduceMul eq_self Int.toNat_natCast Int.natCast_nonneg and_self true_and and_true decide_true decide_false Bool.false_eq_true Nat.zero_add Nat.add_zero List.contains_cons List.contains_nil Bool.or_false Bool.false_or beq_self_eq_true Nat.reduceBEq ne_eq not_true_eq_false not_false_eq_true Id.mk.injEq false_and and_false Nat.reduceLT Int.reduceLE Int.reduceLT Int.reduceToNat Int.reduceNeg Int.reduceAdd Nat.le_refl List.length_append beq_true beq_false Bool.not_eq_eq_eq_not or_false false_or dO ai aj aH bp bE cz aX bl aW bj cU bH
theorem fu {l:List ad} {i:Nat} (h:i<l.length):(l.map aa)[i]? =some (aa (aI l i)):=getD_map aa h
def EA (l:List ad) (i:Nat):Prop:=Cb (aI l i).aO=true/\jc (aI l i).aQ 0 159=true/\(0<i->jK (aI l (i-1)).aO (aI l i).aO=true)
structure jF (l:List ad):Prop where
 rn:l.length<=500
 ok:∀i,i<l.length->EA l i
noncomputable def oG (l:List ad):Bool:=@decide (jF l) (Classical.propDecidable _)
theorem sI {l:List ad}:oG l=true↔jF l:=by simp[oG]
theorem j5 {l:List ad} (h:¬jF l):false=oG l:=by simp[oG,h]
theorem yd {l:List ad} (h:jF l):true=oG l:=by simp[oG,h]
theorem jF.GP {l:List ad} (h:jF l):nG l:=by
 intro i j Dl hj
 induction j with
 |zero=>omega
 |succ j ih=>
  have h1:=(h.ok (j+1) hj).2.2 (by omega)
  rw[Nat.add_sub_cancel]at h1
  by_cases he:i=j
  ·subst he;exact h1
  ·exact jQ (ih (by omega) (by omega)) h1
theorem jF.pt {l:List ad} (h:jF l) {i:Nat} (hi:i<l.length):Cb (aI l i).aO=true:=(h.ok i hi).1
theorem s7 {p:aD} (h:Cb p=true):iB p.eY/\iB p.eS:=by
 unfold Cb at h
 simp only[Bool.and_eq_true]at h
 have:=ev h.1;have:=ev h.2
 unfold iB;omega
theorem Gq (l:List ad):aq Tryz.prog 159 [.di [.sl (l.map aa)]] (.bool (oG l)):=by
 refine aq.body eB rfl fun hl n0=>?_
 clear hl
 by_cases h1:(500:Int)<(l.length:Int)
 ·(try((repeat(revert hN;revert N;apply Pn.out));refine wk @h1 ?_;(repeat(refine Pn.mk ?_;intro N hN))))
  exact aU (b:=false) (.inl rfl) (sd @Nat.zero_add) (j5 fun h=>by have:=h.rn;omega)
 (try((repeat(revert hN;revert N;apply Pn.out));refine wk @h1 ?_;(repeat(refine Pn.mk ?_;intro N hN))))
 refine aV (fun n env st=>∃k:Nat,n=(l.length)-k/\k<=(l.length)/\env 3=.int .i64 (k:Int)/\(∀j:Nat,j<k->EA l j)) (l.length) ⟨0,by omega,by omega,sl @Nat.zero_add,fun _ h=>absurd h (Nat.not_lt_zero _)⟩ ?_
 rintro n_a env_a st_a ⟨k,rfl,ale,a3,lZ⟩ dD
 have a0:=dD 0 (by kernel_rfl)
 simp only[go_sem, ↓reduceIte,Nat.reduceEqDiff,Nat.reduceAdd,Nat.reduceSub,Nat.reduceLeDiff,reduceCtorEq]at a0
 clear dD
 by_cases hk:(k:Int)<(l.length:Int)
 ·have cC:∀{e:Env},(e 3=.int .i64 (IntKind.i64.wrap ((k:Int)+1)))->(EA l k)->∃m0,m0<(l.length)-k/\∃k:Nat,m0=(l.length)-k/\k<=(l.length)/\e 3=.int .i64 (k:Int)/\(∀j:Nat,j<k->EA l j):=fun x1 x2=>⟨_,by omega,k+1,rfl,by omega,(by rw[x1,az (by omega)]),(all_succ lZ x2)⟩
  have fy:k<l.length:=by omega
  have eQ:=fu fy
  have lk:(¬EA l k)->¬jF l:=fun h hp=>h (hp.ok k fy)
  have hp:=wb (aI l k).aO
  have ht:=lJ (aI l k).aQ 0 159
  cases b1:Cb (aI l k).aO
  ·rw[b1]at hp
   (repeat(first|((repeat(revert hN;revert N;apply Pn.out));refine wk (tw @a3 (tw @a0 (tw @hk (tw @eQ (tw @aa.eq_1 @ae.eq_1))))) ?_;(repeat(refine Pn.mk ?_;intro N hN)))|((try apply Or.inl);refine⟨_,aq.x (hp) (sd (tw @a3 (tw @a0 (tw @hk (tw @eQ (tw @aa.eq_1 @ae.eq_1)))))),?_⟩;refine hN _ _ ?_;clear hN N)))
   exact aU (b:=false) (.inl rfl) (sd @Nat.zero_add) (j5 (lk fun h=>by rw[EA,b1]at h;cases h.1))
  rw[b1]at hp
  cases b2:jc (aI l k).aQ 0 159
  ·rw[b2]at ht
   (repeat(first|((repeat(revert hN;revert N;apply Pn.out));refine wk (tw @a3 (tw @a0 (tw @hk (tw @eQ (tw @aa.eq_1 @ae.eq_1))))) ?_;(repeat(refine Pn.mk ?_;intro N hN)))|((try apply Or.inl);refine⟨_,aq.x (hp) (sd (tw @a3 (tw @a0 (tw @hk (tw @eQ (tw @aa.eq_1 @ae.eq_1)))))),?_⟩;refine hN _ _ ?_;clear hN N)|((try apply Or.inl);refine⟨_,aq.x (ht) (sd (tw @a3 (tw @a0 (tw @hk (tw @eQ (tw @aa.eq_1 @ae.eq_1)))))),?_⟩;refine hN _ _ ?_;clear hN N)))
   exact aU (b:=false) (.inl rfl) (sd @Nat.zero_add) (j5 (lk fun h=>by rw[EA,b2]at h;cases h.2.1))
  rw[b2]at ht
  by_cases h0:(0:Int)<(k:Int)
  ·have vQ:=fu (l:=l) (i:=k-1) (by omega)
   have hw:IntKind.i64.wrap ((k:Int)-1)=((k-1:Nat):Int):=by rw[bt (by have:=fy;omega)];omega
   have hq:=od (aI l (k-1)).aO (aI l k).aO
   cases b3:jK (aI l (k-1)).aO (aI l k).aO
   ·rw[b3]at hq
    (repeat(first|((repeat(revert hN;revert N;apply Pn.out));refine wk (tw @a3 (tw @a0 (tw @hk (tw @eQ (tw @vQ (tw @h0 (tw @hw (tw @aa.eq_1 @ae.eq_1)))))))) ?_;(repeat(refine Pn.mk ?_;intro N hN)))|((try apply Or.inl);refine⟨_,aq.x (hp) (sd (tw @a3 (tw @a0 (tw @hk (tw @eQ (tw @vQ (tw @h0 (tw @hw (tw @aa.eq_1 @ae.eq_1))))))))),?_⟩;refine hN _ _ ?_;clear hN N)|((try apply Or.inl);refine⟨_,aq.x (ht) (sd (tw @a3 (tw @a0 (tw @hk (tw @eQ (tw @vQ (tw @h0 (tw @hw (tw @aa.eq_1 @ae.eq_1))))))))),?_⟩;refine hN _ _ ?_;clear hN N)|((try apply Or.inl);refine⟨_,aq.x (hq) (sd (tw @a3 (tw @a0 (tw @hk (tw @eQ (tw @vQ (tw @h0 (tw @hw (tw @aa.eq_1 @ae.eq_1))))))))),?_⟩;refine hN _ _ ?_;clear hN N)))
    exact aU (b:=false) (.inl rfl) (sd @Nat.zero_add) (j5 (lk fun h=>by have:=h.2.2 (by omega);rw[b3]at this;cases this))
   ·rw[b3]at hq
    (repeat(first|((repeat(revert hN;revert N;apply Pn.out));refine wk (tw @a3 (tw @a0 (tw @hk (tw @eQ (tw @vQ (tw @h0 (tw @hw (tw @aa.eq_1 @ae.eq_1)))))))) ?_;(repeat(refine Pn.mk ?_;intro N hN)))|((try apply Or.inl);refine⟨_,aq.x (hp) (sd (tw @a3 (tw @a0 (tw @hk (tw @eQ (tw @vQ (tw @h0 (tw @hw (tw @aa.eq_1 @ae.eq_1))))))))),?_⟩;refine hN _ _ ?_;clear hN N)|((try apply Or.inl);refine⟨_,aq.x (ht) (sd (tw @a3 (tw @a0 (tw @hk (tw @eQ (tw @vQ (tw @h0 (tw @hw (tw @aa.eq_1 @ae.eq_1))))))))),?_⟩;refine hN _ _ ?_;clear hN N)|((try apply Or.inl);refine⟨_,aq.x (hq) (sd (tw @a3 (tw @a0 (tw @hk (tw @eQ (tw @vQ (tw @h0 (tw @hw (tw @aa.eq_1 @ae.eq_1))))))))),?_⟩;refine hN _ _ ?_;clear hN N)))
    exact cC (sd (tw @a3 @a0)) (⟨b1,b2,fun _=>b3⟩)
  ·have xe:k=0:=by omega
   (repeat(first|((repeat(revert hN;revert N;apply Pn.out));refine wk (tw @a3 (tw @a0 (tw @hk (tw @eQ (tw @h0 (tw @aa.eq_1 @ae.eq_1)))))) ?_;(repeat(refine Pn.mk ?_;intro N hN)))|((try apply Or.inl);refine⟨_,aq.x (hp) (sd (tw @a3 (tw @a0 (tw @hk (tw @eQ (tw @h0 (tw @aa.eq_1 @ae.eq_1))))))),?_⟩;refine hN _ _ ?_;clear hN N)|((try apply Or.inl);refine⟨_,aq.x (ht) (sd (tw @a3 (tw @a0 (tw @hk (tw @eQ (tw @h0 (tw @aa.eq_1 @ae.eq_1))))))),?_⟩;refine hN _ _ ?_;clear hN N)))
   exact cC (sd (tw @a3 @a0)) (⟨b1,b2,fun h=>by omega⟩)
 ·(try((repeat(revert hN;revert N;apply Pn.out));refine wk (tw @a3 (tw @a0 @hk)) ?_;(repeat(refine Pn.mk ?_;intro N hN))))
  exact aU (b:=true) (.inl rfl) (sd @Nat.zero_add) (yd ⟨by omega,fun i hi=>lZ i (by omega)⟩)
theorem xZ (a b:Int):aq Tryz.prog 178 [.int .i64 a,.int .i64 b] (.int .i64 (rj a b)):=by
 have nan:∀x:Int,aq Tryz.prog 208 [.int .i64 x] (.bool false):=fun x=>by
  refine aq.body eB rfl fun hl n0=>?_
  clear hl
  have e:decide (x=x)=true:=decide_eq_true rfl
  (try((repeat(revert hN;revert N;apply Pn.out));refine wk @e ?_;(repeat(refine Pn.mk ?_;intro N hN))))
  exact aU (b:=false) (.inl rfl) (sd @Nat.zero_add) rfl
 refine aq.body eB rfl fun hl n0=>?_
 clear hl
 have ha:=nan a
 have hb:=nan b
 by_cases h1:a<b
 ·(repeat(first|((repeat(revert hN;revert N;apply Pn.out));refine wk @h1 ?_;(repeat(refine Pn.mk ?_;intro N hN)))|((try apply Or.inl);refine⟨_,aq.x (ha) (sd @h1),?_⟩;refine hN _ _ ?_;clear hN N)|((try apply Or.inl);refine⟨_,aq.x (hb) (sd @h1),?_⟩;refine hN _ _ ?_;clear hN N)))
  exact cj (b:=-1) (.inl rfl) (sd @Nat.zero_add) (by rw[rj,if_pos h1])
 by_cases h2:b<a
 ·(repeat(first|((repeat(revert hN;revert N;apply Pn.out));refine wk (tw @h1 @h2) ?_;(repeat(refine Pn.mk ?_;intro N hN)))|((try apply Or.inl);refine⟨_,aq.x (ha) (sd (tw @h1 @h2)),?_⟩;refine hN _ _ ?_;clear hN N)|((try apply Or.inl);refine⟨_,aq.x (hb) (sd (tw @h1 @h2)),?_⟩;refine hN _ _ ?_;clear hN N)))
  exact cj (b:=1) (.inl rfl) (sd @Nat.zero_add) (by rw[rj,if_neg h1,if_pos h2])
 ·(repeat(first|((repeat(revert hN;revert N;apply Pn.out));refine wk (tw @h1 @h2) ?_;(repeat(refine Pn.mk ?_;intro N hN)))|((try apply Or.inl);refine⟨_,aq.x (ha) (sd (tw @h1 @h2)),?_⟩;refine hN _ _ ?_;clear hN N)|((try apply Or.inl);refine⟨_,aq.x (hb) (sd (tw @h1 @h2)),?_⟩;refine hN _ _ ?_;clear hN N)))
  exact cj (b:=0) (.inl rfl) (sd @Nat.zero_add) (by rw[rj,if_neg h1,if_neg h2])
def Hs:List Int->Int
 |[]=>0
 |a::r=>if a=0 then Hs r else a
theorem Jl:∀{l:List Int} {k:Nat} (hk:k<l.length),l[k]≠0->(∀j (h:j<l.length),j<k->l[j]=0)->Hs l=l[k]
 |a::r,0,_,h,_=>by
  have h':a≠0:=h
  rw[Hs,if_neg h'];rfl
 |a::r,k+1,hk,h,h0=>by
  have h':a=0:=h0 0 (by simp) (by omega)
  rw[Hs,if_pos h',Jl (k:=k) (by simpa using hk) h fun j hj yi=>h0 (j+1) (by simpa using hj) (by omega)];rfl
theorem B9:∀{l:List Int},(∀j (h:j<l.length),l[j]=0)->Hs l=0
 |[],_=>rfl
 |a::r,h=>by
  have h':a=0:=h 0 (by simp)
  rw[Hs,if_pos h',B9 fun j hj=>h (j+1) (by simpa using hj)]
theorem LQ (a b:Int):Hs [a,b]=LP a b:=by
 unfold LP
 by_cases h:a=0
 ·rw[Hs,if_pos h,if_pos h,Hs,Hs];split<;>simp_all
 ·rw[Hs,if_neg h,if_neg h]
theorem KP (l:List Int):aq Tryz.prog 177 [.sl (l.map bq)] (.int .i64 (Hs l)):=by
 refine aq.body eB rfl fun hl n0=>?_
 have hlen:l.length<=9223372036854775807:=by simpa using(hl (.sl (l.map bq)) (by simp)).len
 clear hl
 (try((repeat(revert hN;revert N;apply Pn.out));refine wk @Nat.zero_add ?_;(repeat(refine Pn.mk ?_;intro N hN))))
 refine aV (fun n env st=>∃k:Nat,n=(l.length)-k/\k<=(l.length)/\env 8=.int .i64 (k:Int)/\(∀j:Nat,j<k->∀h:j<l.length,l[j]=0)) (l.length) ⟨0,by omega,by omega,sl @Nat.zero_add,fun _ h=>absurd h (Nat.not_lt_zero _)⟩ ?_
 rintro n_a env_a st_a ⟨k,rfl,ale,a8,lZ⟩ dD
 have a3:=dD 3 (by kernel_rfl);have a6:=dD 6 (by kernel_rfl);have a7:=dD 7 (by kernel_rfl)
 simp only[go_sem, ↓reduceIte,Nat.reduceEqDiff,Nat.reduceAdd,Nat.reduceSub,Nat.reduceLeDiff,reduceCtorEq]at a3 a6 a7
 clear dD
 by_cases hk:(k:Int)<(l.length:Int)
 ·have cC:∀{e:Env},(e 8=.int .i64 (IntKind.i64.wrap ((k:Int)+1)))->(∀h:k<l.length,l[k]=0)->∃m0,m0<(l.length)-k/\∃k:Nat,m0=(l.length)-k/\k<=(l.length)/\e 8=.int .i64 (k:Int)/\(∀j:Nat,j<k->∀h:j<l.length,l[j]=0):=fun x1 x2=>⟨_,by omega,k+1,rfl,by omega,(by rw[x1,az (by omega)]),(all_succ lZ x2)⟩
  have fy:k<l.length:=by omega
  have eQ:(l.map bq)[k]? =some (bq l[k]):=by simp[fy]
  generalize hv:l[k]=v at eQ
  by_cases h0:v=0
  ·have e:decide (v=0)=true:=decide_eq_true h0
   (try((repeat(revert hN;revert N;apply Pn.out));refine wk (tw @a8 (tw @a3 (tw @a6 (tw @a7 (tw @e (tw @hk (tw @eQ @bq.eq_1))))))) ?_;(repeat(refine Pn.mk ?_;intro N hN))))
   exact cC (sd (tw @a8 (tw @a3 (tw @a6 @a7)))) (fun _=>hv.trans h0)
  ·have e:decide (v=0)=false:=decide_eq_false h0
   (try((repeat(revert hN;revert N;apply Pn.out));refine wk (tw @a8 (tw @a3 (tw @a6 (tw @a7 (tw @e (tw @hk (tw @eQ @bq.eq_1))))))) ?_;(repeat(refine Pn.mk ?_;intro N hN))))
   exact cj (b:=v) (.inl rfl) (sd @Nat.zero_add) (by rw[Jl fy (by rw[hv];exact h0) fun j h hj=>lZ j hj h,hv])
 ·(try((repeat(revert hN;revert N;apply Pn.out));refine wk (tw @a8 (tw @a3 (tw @a6 (tw @a7 @hk)))) ?_;(repeat(refine Pn.mk ?_;intro N hN))))
  exact cj (b:=0) (.inl rfl) (sd @Nat.zero_add) (by rw[B9 fun j h=>lZ j (by omega) h])
section
attribute [local go_sem] List.drop_zero List.take_succ_cons List.take_zero List.length_cons List.length_nil iw zu oI
theorem nA (a b:aD):aq Tryz.prog 130 [.agg (ae a),.agg (ae b)] (.int .i64 (rl a b)):=by
 refine aq.body eB rfl fun hl n0=>?_
 clear hl
 have h1:=xZ a.eS b.eS
 have h2:=xZ a.eY b.eY
 have h3:=KP [rj a.eS b.eS,rj a.eY b.eY]
 rw[LQ,List.map_cons,List.map_cons,List.map_nil,bq,bq]at h3
 (repeat(first|((repeat(revert hN;revert N;apply Pn.out));refine wk @ae.eq_1 ?_;(repeat(refine Pn.mk ?_;intro N hN)))|((try apply Or.inl);refine⟨_,aq.x (h1) (sd @ae.eq_1),?_⟩;refine hN _ _ ?_;clear hN N)|((try apply Or.inl);refine⟨_,aq.x (h2) (sd @ae.eq_1),?_⟩;refine hN _ _ ?_;clear hN N)|((try apply Or.inl);refine⟨_,aq.x (h3) (sd @ae.eq_1),?_⟩;refine hN _ _ ?_;clear hN N)))
 exact cj (b:=rl a b) (.inl rfl) (by simp only[go_sem, ↓reduceIte,Nat.reduceEqDiff,Nat.reduceAdd,Nat.reduceSub,Nat.reduceLeDiff,reduceCtorEq,rl]) rfl
end
theorem Lq (a b:aD):aq Tryz.prog 201 [.agg (ae a),.agg (ae b)] (.bool (jK a b)):=by
 refine aq.body eB rfl fun hl n0=>?_
 clear hl
 have h1:=nA a b
 rw[ae,ae]at h1
 (repeat(first|((repeat(revert hN;revert N;apply Pn.out));refine wk @ae.eq_1 ?_;(repeat(refine Pn.mk ?_;intro N hN)))|((try apply Or.inl);refine⟨_,aq.x (h1) (sd @ae.eq_1),?_⟩;refine hN _ _ ?_;clear hN N)))
 exact aU (b:=decide (rl a b<0)) (.inl rfl) (sd @Nat.zero_add) (uw a b)
theorem kf (t:ad) (p:aD):aq Tryz.prog 143 [.agg (aa t),.agg (ae p)] (.int .i64 (rl t.aO p)):=by
 refine aq.body eB rfl fun hl n0=>?_
 clear hl
 have h1:=nA t.aO p
 rw[ae,ae]at h1
 (repeat(first|((repeat(revert hN;revert N;apply Pn.out));refine wk (tw @aa.eq_1 @ae.eq_1) ?_;(repeat(refine Pn.mk ?_;intro N hN)))|((try apply Or.inl);refine⟨_,aq.x (h1) (sd (tw @aa.eq_1 @ae.eq_1)),?_⟩;refine hN _ _ ?_;clear hN N)))
 exact cj (b:=rl t.aO p) (.inl rfl) (sd @Nat.zero_add) rfl
theorem sK (l:List ad):aq Tryz.prog 165 [.agg [.sl (l.map aa)]] (.bool (oG l)):=by
 refine aq.body eB rfl fun hl n0=>?_
 have hlen:l.length<=9223372036854775807:=by
  have h1:=(hl (.agg [.sl (l.map aa)]) (by simp)).Nf (a:=.sl (l.map aa)) (by simp)
  simpa using h1.len
 clear hl
 (try((repeat(revert hN;revert N;apply Pn.out));refine wk @Nat.zero_add ?_;(repeat(refine Pn.mk ?_;intro N hN))))
 refine aV (fun n env st=>∃k:Nat,n=(l.length)-k/\k<=(l.length)/\env 8=.int .i64 (k:Int)/\st.get ⟨165000000,n0⟩=some ⟨true,1,[[.sl (l.map aa)]]⟩/\(∀j:Nat,j<k->EA l j)) (l.length) ⟨0,by omega,by omega,sl @Nat.zero_add,sl @Nat.zero_add,fun _ h=>absurd h (Nat.not_lt_zero _)⟩ ?_
 rintro n_a env_a st_a ⟨k,rfl,ale,a8,ag0,lZ⟩ dD
 have a1:=dD 1 (by kernel_rfl);have a6:=dD 6 (by kernel_rfl);have a7:=dD 7 (by kernel_rfl)
 simp only[go_sem, ↓reduceIte,Nat.reduceEqDiff,Nat.reduceAdd,Nat.reduceSub,Nat.reduceLeDiff,reduceCtorEq]at a1 a6 a7
 clear dD
 by_cases hk:(k:Int)<(l.length:Int)
 ·have cC:∀{e:Env} {gg:Rows},(e 8=.int .i64 (IntKind.i64.wrap ((k:Int)+1)))->(gg ⟨165000000,n0⟩=some ⟨true,1,[[.sl (l.map aa)]]⟩)->(EA l k)->∃m0,m0<(l.length)-k/\∃k:Nat,m0=(l.length)-k/\k<=(l.length)/\e 8=.int .i64 (k:Int)/\gg ⟨165000000,n0⟩=some ⟨true,1,[[.sl (l.map aa)]]⟩/\(∀j:Nat,j<k->EA l j):=fun x1 x2 x3=>⟨_,by omega,k+1,rfl,by omega,(by rw[x1,az (by omega)]),x2,(all_succ lZ x3)⟩
  have fy:k<l.length:=by omega
  have eQ:=fu fy
  have lk:(¬EA l k)->¬jF l:=fun h hp=>h (hp.ok k fy)
  have hp:=qU (aI l k).aO
  have ht:=yw (aI l k).aQ 160 (by omega) (by omega)
  rw[show(160:Int)-1=159 from rfl]at ht
  cases b1:Cb (aI l k).aO
  ·rw[b1]at hp
   (repeat(first|((repeat(revert hN;revert N;apply Pn.out));refine wk (tw @a8 (tw @ag0 (tw @a1 (tw @a6 (tw @a7 (tw @hk (tw @eQ (tw @aa.eq_1 @ae.eq_1)))))))) ?_;(repeat(refine Pn.mk ?_;intro N hN)))|((try apply Or.inl);refine⟨_,aq.x (hp) (sd (tw @a8 (tw @ag0 (tw @a1 (tw @a6 (tw @a7 (tw @hk (tw @eQ (tw @aa.eq_1 @ae.eq_1))))))))),?_⟩;refine hN _ _ ?_;clear hN N)))
   exact aU (b:=false) (.inl rfl) (sd @Nat.zero_add) (j5 (lk fun h=>by rw[EA,b1]at h;cases h.1))
  rw[b1]at hp
  cases b2:jc (aI l k).aQ 0 159
  ·rw[b2]at ht
   (repeat(first|((repeat(revert hN;revert N;apply Pn.out));refine wk (tw @a8 (tw @ag0 (tw @a1 (tw @a6 (tw @a7 (tw @hk (tw @eQ (tw @aa.eq_1 @ae.eq_1)))))))) ?_;(repeat(refine Pn.mk ?_;intro N hN)))|((try apply Or.inl);refine⟨_,aq.x (hp) (sd (tw @a8 (tw @ag0 (tw @a1 (tw @a6 (tw @a7 (tw @hk (tw @eQ (tw @aa.eq_1 @ae.eq_1))))))))),?_⟩;refine hN _ _ ?_;clear hN N)|((try apply Or.inl);refine⟨_,aq.x (ht) (sd (tw @a8 (tw @ag0 (tw @a1 (tw @a6 (tw @a7 (tw @hk (tw @eQ (tw @aa.eq_1 @ae.eq_1))))))))),?_⟩;refine hN _ _ ?_;clear hN N)))
   exact aU (b:=false) (.inl rfl) (sd @Nat.zero_add) (j5 (lk fun h=>by rw[EA,b2]at h;cases h.2.1))
  rw[b2]at ht
  by_cases h0:(0:Int)<(k:Int)
  ·have vQ:=fu (l:=l) (i:=k-1) (by omega)
   have hw:IntKind.i64.wrap ((k:Int)-1)=((k-1:Nat):Int):=by rw[bt (by omega)];omega
   have hq:=Lq (aI l (k-1)).aO (aI l k).aO
   cases b3:jK (aI l (k-1)).aO (aI l k).aO
   ·rw[b3]at hq
    (repeat(first|((repeat(revert hN;revert N;apply Pn.out));refine wk (tw @a8 (tw @ag0 (tw @a1 (tw @a6 (tw @a7 (tw @hk (tw @eQ (tw @vQ (tw @h0 (tw @hw (tw @aa.eq_1 @ae.eq_1))))))))))) ?_;(repeat(refine Pn.mk ?_;intro N hN)))|((try apply Or.inl);refine⟨_,aq.x (hp) (sd (tw @a8 (tw @ag0 (tw @a1 (tw @a6 (tw @a7 (tw @hk (tw @eQ (tw @vQ (tw @h0 (tw @hw (tw @aa.eq_1 @ae.eq_1)))))))))))),?_⟩;refine hN _ _ ?_;clear hN N)|((try apply Or.inl);refine⟨_,aq.x (ht) (sd (tw @a8 (tw @ag0 (tw @a1 (tw @a6 (tw @a7 (tw @hk (tw @eQ (tw @vQ (tw @h0 (tw @hw (tw @aa.eq_1 @ae.eq_1)))))))))))),?_⟩;refine hN _ _ ?_;clear hN N)|((try apply Or.inl);refine⟨_,aq.x (hq) (sd (tw @a8 (tw @ag0 (tw @a1 (tw @a6 (tw @a7 (tw @hk (tw @eQ (tw @vQ (tw @h0 (tw @hw (tw @aa.eq_1 @ae.eq_1)))))))))))),?_⟩;refine hN _ _ ?_;clear hN N)))
    exact aU (b:=false) (.inl rfl) (sd @Nat.zero_add) (j5 (lk fun h=>by have:=h.2.2 (by omega);rw[b3]at this;cases this))
   ·rw[b3]at hq
    (repeat(first|((repeat(revert hN;revert N;apply Pn.out));refine wk (tw @a8 (tw @ag0 (tw @a1 (tw @a6 (tw @a7 (tw @hk (tw @eQ (tw @vQ (tw @h0 (tw @hw (tw @aa.eq_1 @ae.eq_1))))))))))) ?_;(repeat(refine Pn.mk ?_;intro N hN)))|((try apply Or.inl);refine⟨_,aq.x (hp) (sd (tw @a8 (tw @ag0 (tw @a1 (tw @a6 (tw @a7 (tw @hk (tw @eQ (tw @vQ (tw @h0 (tw @hw (tw @aa.eq_1 @ae.eq_1)))))))))))),?_⟩;refine hN _ _ ?_;clear hN N)|((try apply Or.inl);refine⟨_,aq.x (ht) (sd (tw @a8 (tw @ag0 (tw @a1 (tw @a6 (tw @a7 (tw @hk (tw @eQ (tw @vQ (tw @h0 (tw @hw (tw @aa.eq_1 @ae.eq_1)))))))))))),?_⟩;refine hN _ _ ?_;clear hN N)|((try apply Or.inl);refine⟨_,aq.x (hq) (sd (tw @a8 (tw @ag0 (tw @a1 (tw @a6 (tw @a7 (tw @hk (tw @eQ (tw @vQ (tw @h0 (tw @hw (tw @aa.eq_1 @ae.eq_1)))))))))))),?_⟩;refine hN _ _ ?_;clear hN N)))
    refine cC ?_ ?_ (⟨b1,b2,fun _=>b3⟩)
    all_goals simp only[go_sem, ↓reduceIte,Nat.reduceEqDiff,Nat.reduceAdd,Nat.reduceSub,Nat.reduceLeDiff,reduceCtorEq,a8,ag0,a1,a6,a7]
  ·have xe:k=0:=by omega
   (repeat(first|((repeat(revert hN;revert N;apply Pn.out));refine wk (tw @a8 (tw @ag0 (tw @a1 (tw @a6 (tw @a7 (tw @hk (tw @eQ (tw @h0 (tw @aa.eq_1 @ae.eq_1))))))))) ?_;(repeat(refine Pn.mk ?_;intro N hN)))|((try apply Or.inl);refine⟨_,aq.x (hp) (sd (tw @a8 (tw @ag0 (tw @a1 (tw @a6 (tw @a7 (tw @hk (tw @eQ (tw @h0 (tw @aa.eq_1 @ae.eq_1)))))))))),?_⟩;refine hN _ _ ?_;clear hN N)|((try apply Or.inl);refine⟨_,aq.x (ht) (sd (tw @a8 (tw @ag0 (tw @a1 (tw @a6 (tw @a7 (tw @hk (tw @eQ (tw @h0 (tw @aa.eq_1 @ae.eq_1)))))))))),?_⟩;refine hN _ _ ?_;clear hN N)))
   refine cC ?_ ?_ (⟨b1,b2,fun h=>by omega⟩)
   all_goals simp only[go_sem, ↓reduceIte,Nat.reduceEqDiff,Nat.reduceAdd,Nat.reduceSub,Nat.reduceLeDiff,reduceCtorEq,a8,ag0,a1,a6,a7]
 ·(try((repeat(revert hN;revert N;apply Pn.out));refine wk (tw @a8 (tw @ag0 (tw @a1 (tw @a6 (tw @a7 @hk))))) ?_;(repeat(refine Pn.mk ?_;intro N hN))))
  refine aU (b:=decide ((l.length:Int)<=500)) (.inl rfl) (sd @Nat.zero_add) ?_
  by_cases h5:(l.length:Int)<=500
  ·rw[decide_eq_true h5];exact yd ⟨by omega,fun i hi=>lZ i (by omega)⟩
  ·rw[decide_eq_false h5];exact j5 fun h=>by have:=h.rn;omega
end Go.Proofs.YtgoelphibofcmaaGreat.V

namespace Go.Proofs.YtgoelphibofcmaaGreat.V
open Go.RowKit
attribute [local irreducible] dI wpOps gD Call
attribute [local go_sem] aM fM eP gp gm cN upd cD K.av cR AV.cells AV.cell rowOf rowsOf part ld rowAt bz cu dG ef ik bQ dh eA gj e9 dq ek dd dc dU dV bW bf cW bV cY cX ei eo ej cV ck de eh bU aT da cG ij bx cQ b4 aY dn bc dH AV.undef bF bI eb ee dP dM cJ ez eE cF er ep cZ db List.getD_cons_zero List.getD_cons_succ List.getD_nil List.all_cons List.all_nil Bool.and_true Bool.true_and Bool.and_self Bool.not_true Bool.not_false Option.map_some Option.map_none Option.bind_some Option.bind_none List.length_cons List.length_nil List.take_succ_cons List.take_zero List.take_nil List.drop_succ_cons List.drop_zero List.drop_nil List.head?_cons List.map_cons List.map_nil List.getElem?_cons_zero List.getElem?_cons_succ List.cons_append List.nil_append List.append_nil List.length_map List.set_cons_zero List.set_cons_succ Nat.reduceMul eq_self Int.toNat_natCast Int.natCast_nonneg and_self true_and and_true decide_true decide_false Bool.false_eq_true Nat.zero_add Nat.add_zero List.contains_cons List.contains_nil Bool.or_false Bool.false_or beq_self_eq_true Nat.reduceBEq ne_eq not_true_eq_false not_false_eq_true Id.mk.injEq false_and and_false Nat.reduceLT Int.reduceLE Int.reduceLT Int.reduceToNat Int.reduceNeg Int.reduceAdd Nat.le_refl List.length_append beq_true beq_false Bool.not_eq_eq_eq_not or_false false_or dO ai aj aH bp bE cz aX bl aW bj cU bH
theorem xW (cells:List ad) (p:aD) (hR:nG cells) (F4:cells.length<=1048576):
  aq Tryz.prog 142 [.sl (cells.map aa),.agg (ae p),.fn 143 []] (.gK [.int .i64 (mm cells p),.bool (decide (mm cells p<cells.length)&&decide ((aI cells (mm cells p)).aO=p))]):=by
 refine aq.body eB rfl fun hl n0=>?_
 clear hl
 (try((repeat(revert hN;revert N;apply Pn.out));refine wk @ae.eq_1 ?_;(repeat(refine Pn.mk ?_;intro N hN))))
 refine aV (fun n env st=>∃i j:Nat,n=j-i/\i<=j/\j<=cells.length/\(∀x,x<i->jK (aI cells x).aO p=true)/\(∀x,j<=x->x<cells.length->jK (aI cells x).aO p=false)/\env 9=.int .i64 i/\env 10=.int .i64 j/\st.get ⟨142000000,n0⟩=some ⟨true,2,[ae p]⟩) cells.length ⟨0,cells.length,by omega,by omega,by omega,fun x h=>by omega,fun x h1 h2=>by omega,by(simp only[go_sem, ↓reduceIte,Nat.reduceEqDiff,Nat.reduceAdd,Nat.reduceSub,Nat.reduceLeDiff,reduceCtorEq])<;>rfl,sd @Nat.zero_add,sd @ae.eq_1⟩ ?_
 rintro n env st ⟨i,j,rfl,Dl,hj,kh,CD,h9,h10,hg⟩ fr
 have h0:=fr 0 (by kernel_rfl)
 have h2:=fr 2 (by kernel_rfl)
 have h4:=fr 4 (by kernel_rfl)
 have h8:=fr 8 (by kernel_rfl)
 simp only[go_sem, ↓reduceIte,Nat.reduceEqDiff,Nat.reduceAdd,Nat.reduceSub,Nat.reduceLeDiff,reduceCtorEq]at h0 h2 h4 h8
 clear fr
 by_cases dQ:(i:Int)<(j:Int)
 ·have e1:IntKind.i64.wrap ((i:Int)+j)=((i+j:Nat):Int):=by rw[bt (by omega)];rfl
  have hm:(i+j) / 2<cells.length:=by omega
  have fc:(cells.map aa)[(i+j) / 2]? =some (aa (aI cells ((i+j) / 2))):=fu (l:=cells) hm
  have e2:IntKind.i64.wrap ((IntKind.u64.wrap ((i+j:Nat):Int)).fdiv (2 ^ min 1 IntKind.u64.bits))=(((i+j) / 2:Nat):Int):=by
   have h:IntKind.u64.wrap ((i+j:Nat):Int)=((i+j:Nat):Int):=by rw[IntKind.wrap_u64];omega
   rw[h,show min 1 IntKind.u64.bits=1 from rfl,show((2:Int) ^ 1)=2 from rfl,Int.fdiv_eq_ediv_of_nonneg _ (by omega)]
   rw[bt (by omega)];omega
  have Qa:IntKind.i64.wrap ((IntKind.u64.wrap ((i+j:Nat):Int)).fdiv (2 ^ min 1 64))=(((i+j) / 2:Nat):Int):=e2
  have e3:=az (k:=(i+j) / 2) (by omega)
  by_cases hc:rl (aI cells ((i+j) / 2)).aO p<0
  ·have hl:jK (aI cells ((i+j) / 2)).aO p=true:=by rw[<-uw];simpa using hc
   (repeat(first|((repeat(revert hN;revert N;apply Pn.out));refine wk (tw @h0 (tw @h2 (tw @h4 (tw @h8 (tw @h9 (tw @h10 (tw @hg (tw @dQ (tw @e1 (tw @e2 (tw @Qa (tw @fc (tw @hc (tw @aa.eq_1 @ae.eq_1)))))))))))))) ?_;(repeat(refine Pn.mk ?_;intro N hN)))|((try apply Or.inl);refine⟨_,aq.x (kf (aI cells ((i+j) / 2)) p) (sd (tw @h0 (tw @h2 (tw @h4 (tw @h8 (tw @h9 (tw @h10 (tw @hg (tw @dQ (tw @e1 (tw @e2 (tw @Qa (tw @fc (tw @hc (tw @aa.eq_1 @ae.eq_1))))))))))))))),?_⟩;refine hN _ _ ?_;clear hN N)))
   refine⟨_,?_,(i+j) / 2+1,j,rfl,by omega,hj,fun x hx=>?_,CD,sd @e3,sd @h10,sd (tw @hg @ae.eq_1)⟩
   ·omega
   ·by_cases Ot:x=(i+j) / 2
    ·subst Ot;exact hl
    ·exact jQ (hR x _ (by omega) hm) hl
  ·have hl:jK (aI cells ((i+j) / 2)).aO p=false:=by rw[<-uw];simpa using hc
   (repeat(first|((repeat(revert hN;revert N;apply Pn.out));refine wk (tw @h0 (tw @h2 (tw @h4 (tw @h8 (tw @h9 (tw @h10 (tw @hg (tw @dQ (tw @e1 (tw @e2 (tw @Qa (tw @fc (tw @hc (tw @aa.eq_1 @ae.eq_1)))))))))))))) ?_;(repeat(refine Pn.mk ?_;intro N hN)))|((try apply Or.inl);refine⟨_,aq.x (kf (aI cells ((i+j) / 2)) p) (sd (tw @h0 (tw @h2 (tw @h4 (tw @h8 (tw @h9 (tw @h10 (tw @hg (tw @dQ (tw @e1 (tw @e2 (tw @Qa (tw @fc (tw @hc (tw @aa.eq_1 @ae.eq_1))))))))))))))),?_⟩;refine hN _ _ ?_;clear hN N)))
   refine⟨_,?_,i,(i+j) / 2,rfl,by omega,by omega,kh,fun x h1 h2=>?_,sd @h9,sd (tw @e2 @Qa),sd (tw @hg @ae.eq_1)⟩
   ·omega
   ·by_cases Ot:x=(i+j) / 2
    ·subst Ot;exact hl
    ·rw[Bool.eq_false_iff]
     intro hc
     have h3:=jQ (hR ((i+j) / 2) x (by omega) h2) hc
     rw[hl]at h3;cases h3
 ·have N1:i=j:=by omega
  subst N1
  have Bp:mm cells p=i:=zO hj kh fun h=>CD i (Nat.le_refl _) h
  by_cases hn:(i:Int)<(cells.length:Int)
  ·have ft:i<cells.length:=by omega
   have fc:(cells.map aa)[i]? =some (aa (aI cells i)):=fu (l:=cells) ft
   have hd:decide (rl (aI cells i).aO p=0)=decide ((aI cells i).aO=p):=by simp only[FO]
   (repeat(first|((repeat(revert hN;revert N;apply Pn.out));refine wk (tw @h0 (tw @h2 (tw @h4 (tw @h8 (tw @h9 (tw @h10 (tw @hg (tw @dQ (tw @hn (tw @fc (tw @aa.eq_1 @ae.eq_1))))))))))) ?_;(repeat(refine Pn.mk ?_;intro N hN)))|((try apply Or.inl);refine⟨_,aq.x (kf (aI cells i) p) (sd (tw @h0 (tw @h2 (tw @h4 (tw @h8 (tw @h9 (tw @h10 (tw @hg (tw @dQ (tw @hn (tw @fc (tw @aa.eq_1 @ae.eq_1)))))))))))),?_⟩;refine hN _ _ ?_;clear hN N)))
   refine jx (.inl rfl) (r1:=.int .i64 i) (r2:=.bool (decide ((aI cells i).aO=p))) ?_ ?_ ?_
   ·simp only[go_sem, ↓reduceIte,Nat.reduceEqDiff,Nat.reduceAdd,Nat.reduceSub,Nat.reduceLeDiff,reduceCtorEq]
   ·simp only[go_sem, ↓reduceIte,Nat.reduceEqDiff,Nat.reduceAdd,Nat.reduceSub,Nat.reduceLeDiff,reduceCtorEq,hd]
   ·simp only[eW,bD,cE,eM,fI,Option.map_some,Bp,ft,decide_true,Bool.true_and]
  ·have ft:¬i<cells.length:=by omega
   (try((repeat(revert hN;revert N;apply Pn.out));refine wk (tw @h0 (tw @h2 (tw @h4 (tw @h8 (tw @h9 (tw @h10 (tw @hg (tw @dQ (tw @hn (tw @aa.eq_1 @ae.eq_1)))))))))) ?_;(repeat(refine Pn.mk ?_;intro N hN))))
   refine jx (.inl rfl) (r1:=.int .i64 i) (r2:=.bool false) ?_ ?_ ?_
   ·simp only[go_sem, ↓reduceIte,Nat.reduceEqDiff,Nat.reduceAdd,Nat.reduceSub,Nat.reduceLeDiff,reduceCtorEq]
   ·simp only[go_sem, ↓reduceIte,Nat.reduceEqDiff,Nat.reduceAdd,Nat.reduceSub,Nat.reduceLeDiff,reduceCtorEq]
   ·simp only[eW,bD,cE,eM,fI,Option.map_some,Bp,ft,decide_false,Bool.false_and]
theorem GI (l:List ad) (p:aD) (hR:nG l) (F4:l.length<=1048576):aq Tryz.prog 265 [.agg [.sl (l.map aa)],.agg (ae p)] (.int .i64 (eD l p)):=by
 refine aq.body eB rfl fun hl n0=>?_
 clear hl
 rw[zP hR]
 have hb:=xW l p hR F4
 rw[ae]at hb
 cases hf:(decide (mm l p<l.length)&&decide ((aI l (mm l p)).aO=p))
 ·rw[hf]at hb
  (repeat(first|((repeat(revert hN;revert N;apply Pn.out));refine wk @ae.eq_1 ?_;(repeat(refine Pn.mk ?_;intro N hN)))|((try apply Or.inl);refine⟨_,aq.x (hb) (sd @ae.eq_1),?_⟩;refine hN _ _ ?_;clear hN N)))
  exact cj (b:=-1) (.inl rfl) (sd @Nat.zero_add) (by rw[if_neg];intro h;simp[h.1,h.2]at hf)
 ·rw[hf]at hb
  (repeat(first|((repeat(revert hN;revert N;apply Pn.out));refine wk @ae.eq_1 ?_;(repeat(refine Pn.mk ?_;intro N hN)))|((try apply Or.inl);refine⟨_,aq.x (hb) (sd @ae.eq_1),?_⟩;refine hN _ _ ?_;clear hN N)))
  exact cj (b:=(mm l p:Int)) (.inl rfl) (sd @Nat.zero_add) (by rw[if_pos];simpa using hf)
theorem Ta (l:List ad) (p:aD) (hR:nG l) (F4:l.length<=1048576):aq Tryz.prog 117 [.agg [.sl (l.map aa)],.agg (ae p)] (.int .i64 (gx l p)):=by
 refine aq.body eB rfl fun hl n0=>?_
 clear hl
 have hi:=zP (l:=l) (p:=p) hR
 have hb:=xW l p hR F4
 rw[ae]at hb
 cases hf:(decide (mm l p<l.length)&&decide ((aI l (mm l p)).aO=p))
 ·rw[hf]at hb
  (repeat(first|((repeat(revert hN;revert N;apply Pn.out));refine wk @ae.eq_1 ?_;(repeat(refine Pn.mk ?_;intro N hN)))|((try apply Or.inl);refine⟨_,aq.x (hb) (sd @ae.eq_1),?_⟩;refine hN _ _ ?_;clear hN N)))
  exact cj (b:=-1) (.inl rfl) (sd @Nat.zero_add) (by
   have hx:eD l p= -1:=by rw[hi,if_neg (by intro h;simp[h.1,h.2]at hf)]
   rw[gx,hx];rfl)
 ·rw[hf]at hb
  have hc:mm l p<l.length/\(aI l (mm l p)).aO=p:=by simpa using hf
  have hg:=fu hc.1
  (repeat(first|((repeat(revert hN;revert N;apply Pn.out));refine wk (tw @ae.eq_1 (tw @hg @aa.eq_1)) ?_;(repeat(refine Pn.mk ?_;intro N hN)))|((try apply Or.inl);refine⟨_,aq.x (hb) (sd (tw @ae.eq_1 (tw @hg @aa.eq_1))),?_⟩;refine hN _ _ ?_;clear hN N)))
  exact cj (b:=(aI l (mm l p)).aQ) (.inl rfl) (sd @Nat.zero_add) (by
   have hx:eD l p=(mm l p:Int):=by rw[hi,if_pos hc]
   rw[gx,hx,if_pos (by omega),Int.toNat_natCast])
theorem qF (l:List ad) (p:aD) (hR:nG l) (F4:l.length<=1048576):aq Tryz.prog 124 [.di [.sl (l.map aa)],.agg (ae p)] (.int .i64 (eD l p)):=by
 refine aq.body eB rfl fun hl n0=>?_
 clear hl
 rw[zP hR]
 (try((repeat(revert hN;revert N;apply Pn.out));refine wk @ae.eq_1 ?_;(repeat(refine Pn.mk ?_;intro N hN))))
 refine aV (fun n env st=>∃i j:Nat,n=j-i/\i<=j/\j<=l.length/\(∀x,x<i->jK (aI l x).aO p=true)/\(∀x,j<=x->x<l.length->jK (aI l x).aO p=false)/\env 5=.int .i64 i/\env 6=.int .i64 j/\st.get ⟨124000000,n0⟩=some ⟨true,2,[ae p]⟩) l.length ⟨0,l.length,by omega,by omega,by omega,fun x h=>by omega,fun x h1 h2=>by omega,by(simp only[go_sem, ↓reduceIte,Nat.reduceEqDiff,Nat.reduceAdd,Nat.reduceSub,Nat.reduceLeDiff,reduceCtorEq])<;>rfl,sd @Nat.zero_add,sd @ae.eq_1⟩ ?_
 rintro n env st ⟨i,j,rfl,Dl,hj,kh,CD,h5,h6,hg⟩ fr
 have h0:=fr 0 (by kernel_rfl)
 have h3:=fr 3 (by kernel_rfl)
 simp only[go_sem, ↓reduceIte,Nat.reduceEqDiff,Nat.reduceAdd,Nat.reduceSub,Nat.reduceLeDiff,reduceCtorEq]at h0 h3
 clear fr
 by_cases dQ:(i:Int)<(j:Int)
 ·have e1:IntKind.i64.wrap ((i:Int)+j)=((i+j:Nat):Int):=by rw[bt (by omega)];rfl
  have hm:(i+j) / 2<l.length:=by omega
  have fc:=fu hm
  have e2:IntKind.i64.wrap (((i+j:Nat):Int).tdiv 2)=(((i+j) / 2:Nat):Int):=by
   rw[Int.tdiv_eq_ediv_of_nonneg (by omega),bt (by omega)];omega
  have e3:=az (k:=(i+j) / 2) (by omega)
  have hq:=od (aI l ((i+j) / 2)).aO p
  cases hl:jK (aI l ((i+j) / 2)).aO p
  ·rw[hl]at hq
   (repeat(first|((repeat(revert hN;revert N;apply Pn.out));refine wk (tw @h0 (tw @h3 (tw @h5 (tw @h6 (tw @hg (tw @dQ (tw @e1 (tw @e2 (tw @fc (tw @aa.eq_1 @ae.eq_1)))))))))) ?_;(repeat(refine Pn.mk ?_;intro N hN)))|((try apply Or.inl);refine⟨_,aq.x (hq) (sd (tw @h0 (tw @h3 (tw @h5 (tw @h6 (tw @hg (tw @dQ (tw @e1 (tw @e2 (tw @fc (tw @aa.eq_1 @ae.eq_1))))))))))),?_⟩;refine hN _ _ ?_;clear hN N)))
   refine⟨_,?_,i,(i+j) / 2,rfl,by omega,by omega,kh,fun x h1 h2=>?_,sd @h5,sd @e2,sd (tw @hg @ae.eq_1)⟩
   ·omega
   ·by_cases Ot:x=(i+j) / 2
    ·subst Ot;exact hl
    ·rw[Bool.eq_false_iff]
     intro hc
     have h3:=jQ (hR ((i+j) / 2) x (by omega) h2) hc
     rw[hl]at h3;cases h3
  ·rw[hl]at hq
   (repeat(first|((repeat(revert hN;revert N;apply Pn.out));refine wk (tw @h0 (tw @h3 (tw @h5 (tw @h6 (tw @hg (tw @dQ (tw @e1 (tw @e2 (tw @fc (tw @aa.eq_1 @ae.eq_1)))))))))) ?_;(repeat(refine Pn.mk ?_;intro N hN)))|((try apply Or.inl);refine⟨_,aq.x (hq) (sd (tw @h0 (tw @h3 (tw @h5 (tw @h6 (tw @hg (tw @dQ (tw @e1 (tw @e2 (tw @fc (tw @aa.eq_1 @ae.eq_1))))))))))),?_⟩;refine hN _ _ ?_;clear hN N)))
   refine⟨_,?_,(i+j) / 2+1,j,rfl,by omega,hj,fun x hx=>?_,CD,sd @e3,sd @h6,sd (tw @hg @ae.eq_1)⟩
   ·omega
   ·by_cases Ot:x=(i+j) / 2
    ·subst Ot;exact hl
    ·exact jQ (hR x _ (by omega) hm) hl
 ·have N1:i=j:=by omega
  subst N1
  have Bp:mm l p=i:=zO hj kh fun h=>CD i (Nat.le_refl _) h
  by_cases hn:(i:Int)<(l.length:Int)
  ·have ft:i<l.length:=by omega
   have fc:=fu ft
   by_cases hp:(aI l i).aO=p
   ·have hx:decide ((aI l i).aO.eY=p.eY)=true:=decide_eq_true (by rw[hp])
    have hy:decide ((aI l i).aO.eS=p.eS)=true:=decide_eq_true (by rw[hp])
    (try((repeat(revert hN;revert N;apply Pn.out));refine wk (tw @h0 (tw @h3 (tw @h5 (tw @h6 (tw @hg (tw @dQ (tw @hn (tw @fc (tw @hx (tw @hy (tw @aa.eq_1 @ae.eq_1))))))))))) ?_;(repeat(refine Pn.mk ?_;intro N hN))))
    exact cj (b:=(i:Int)) (.inl rfl) (sd @Nat.zero_add) (by rw[Bp,if_pos ⟨ft,hp⟩])
   ·by_cases hx:(aI l i).aO.eY=p.eY
    ·have uG:decide ((aI l i).aO.eY=p.eY)=true:=decide_eq_true hx
     have hy':decide ((aI l i).aO.eS=p.eS)=false:=decide_eq_false fun h=>hp (DT hx h)
     (try((repeat(revert hN;revert N;apply Pn.out));refine wk (tw @h0 (tw @h3 (tw @h5 (tw @h6 (tw @hg (tw @dQ (tw @hn (tw @fc (tw @uG (tw @hy' (tw @aa.eq_1 @ae.eq_1))))))))))) ?_;(repeat(refine Pn.mk ?_;intro N hN))))
     exact cj (b:=-1) (.inl rfl) (sd @Nat.zero_add) (by rw[Bp,if_neg fun h=>hp h.2])
    ·have uG:decide ((aI l i).aO.eY=p.eY)=false:=decide_eq_false hx
     (try((repeat(revert hN;revert N;apply Pn.out));refine wk (tw @h0 (tw @h3 (tw @h5 (tw @h6 (tw @hg (tw @dQ (tw @hn (tw @fc (tw @uG (tw @Bool.false_and (tw @aa.eq_1 @ae.eq_1))))))))))) ?_;(repeat(refine Pn.mk ?_;intro N hN))))
     exact cj (b:=-1) (.inl rfl) (sd @Nat.zero_add) (by rw[Bp,if_neg fun h=>hp h.2])
  ·have ft:¬i<l.length:=by omega
   (try((repeat(revert hN;revert N;apply Pn.out));refine wk (tw @h0 (tw @h3 (tw @h5 (tw @h6 (tw @hg (tw @dQ (tw @hn (tw @aa.eq_1 @ae.eq_1)))))))) ?_;(repeat(refine Pn.mk ?_;intro N hN))))
   exact cj (b:=-1) (.inl rfl) (sd @Nat.zero_add) (by rw[Bp,if_neg fun h=>ft h.1])
theorem Fg (l:List ad) (p:aD) (hR:nG l) (F4:l.length<=1048576):aq Tryz.prog 98 [.di [.sl (l.map aa)],.agg (ae p)] (.int .i64 (gx l p)):=by
 refine aq.body eB rfl fun hl n0=>?_
 clear hl
 have hb:=qF l p hR F4
 by_cases hi:eD l p<0
 ·rw[ae]at hb
  (repeat(first|((repeat(revert hN;revert N;apply Pn.out));refine wk (tw @ae.eq_1 @hi) ?_;(repeat(refine Pn.mk ?_;intro N hN)))|((try apply Or.inl);refine⟨_,aq.x (hb) (sd (tw @ae.eq_1 @hi)),?_⟩;refine hN _ _ ?_;clear hN N)))
  exact cj (b:=-1) (.inl rfl) (sd @Nat.zero_add) (by rw[gx,if_neg (by omega)])
 ·have h0:0<=eD l p:=by omega
  have hg:=fu (lH h0).1
  rw[ae]at hb
  (repeat(first|((repeat(revert hN;revert N;apply Pn.out));refine wk (tw @ae.eq_1 (tw @hi (tw @h0 (tw @hg @aa.eq_1)))) ?_;(repeat(refine Pn.mk ?_;intro N hN)))|((try apply Or.inl);refine⟨_,aq.x (hb) (sd (tw @ae.eq_1 (tw @hi (tw @h0 (tw @hg @aa.eq_1))))),?_⟩;refine hN _ _ ?_;clear hN N)))
  exact cj (b:=(aI l (eD l p).toNat).aQ) (.inl rfl) (sd @Nat.zero_add) (by rw[gx,if_pos h0])
def jl (s:au) (l:List ad):Prop:=jF l/\∀t∈l,eK s t.aQ=true
noncomputable def pK (s:au) (l:List ad):Bool:=oG l&&l.all fun t=>eK s t.aQ
theorem mb {s:au} {l:List ad}:pK s l=true↔jl s l:=by simp[pK,jl,sI]
theorem vw:PW aa (fun c=>.agg (aa c)) 3 true:=⟨fun _=>rfl,fun _=>rfl,fun x g=>by simp only[aa,ai,aj,bl,aH,Option.map_some]⟩
theorem GD (s:au) (t:ad) (hs:s.ah.length<=1048576):aq Tryz.prog 167 [.agg (aa t),.di (ab s)] (.bool (!eK s t.aQ)):=by
 refine aq.body eB rfl fun hl n0=>?_
 clear hl
 have h:=IX s t.aQ
 rw[ab]at h
 (repeat(first|((repeat(revert hN;revert N;apply Pn.out));refine wk (tw @aa.eq_1 @ab.eq_1) ?_;(repeat(refine Pn.mk ?_;intro N hN)))|((try apply Or.inl);refine⟨_,aq.x (h) (sd (tw @aa.eq_1 @ab.eq_1)),?_⟩;refine hN _ _ ?_;clear hN N)))
 exact aU (b:= !eK s t.aQ) (.inl rfl) (sd @Nat.zero_add) rfl
theorem Mc (s:au) (l:List ad) (hs:s.ah.length<=1048576) (hl:l.length<=1048576):aq Tryz.prog 166 [.sl (l.map aa),.fn 167 [.di (ab s)]] (.bool (l.any fun t=> !eK s t.aQ)):=
 kI vw (show l5 Tryz.prog 166=some (zB 166 202) by kernel_rfl)
  (show l5 Tryz.prog 202=some (sS 202 3 true) by kernel_rfl) l hl _ _ _ rfl (fun g=>by rw[ai,aW,aj];rfl) (fun x _=>GD s x hs) fun g=>by rw[ai,aW,aj];rfl
theorem EC {α:Type} (p:α->Bool) (l:List α):(!l.any fun t=> !p t)=l.all p:=by
 induction l with
 |nil=>rfl
 |cons x l ih=>simp only[List.any_cons,List.all_cons,<-ih];cases p x<;>simp
theorem ny (s:au) (l:List ad) (hn:fV s) (hg:s.ax.length<=1048576) (ht:s.ah.length<=1048576) (hs:∀t∈s.ah,t.br.length<=1048576) (hl:l.length<=1048576):aq Tryz.prog 106 [.agg (ab s),.agg [.sl (l.map aa)]] (.bool (qL s&&pK s l)):=by
 refine aq.body eB rfl fun hl n0=>?_
 clear hl
 have h1:=CR s hn hg ht hs
 have h2:=sK l
 have h3:=Mc s l ht hl
 rw[ab]at h1 h3
 cases b1:qL s
 ·rw[b1]at h1
  (repeat(first|((repeat(revert hN;revert N;apply Pn.out));refine wk @ab.eq_1 ?_;(repeat(refine Pn.mk ?_;intro N hN)))|((try apply Or.inl);refine⟨_,aq.x (h1) (sd @ab.eq_1),?_⟩;refine hN _ _ ?_;clear hN N)))
  exact aU (b:=false) (.inl rfl) (sd @Nat.zero_add) rfl
 rw[b1]at h1
 cases b2:oG l
 ·rw[b2]at h2
  (repeat(first|((repeat(revert hN;revert N;apply Pn.out));refine wk @ab.eq_1 ?_;(repeat(refine Pn.mk ?_;intro N hN)))|((try apply Or.inl);refine⟨_,aq.x (h1) (sd @ab.eq_1),?_⟩;refine hN _ _ ?_;clear hN N)|((try apply Or.inl);refine⟨_,aq.x (h2) (sd @ab.eq_1),?_⟩;refine hN _ _ ?_;clear hN N)))
  exact aU (b:=false) (.inl rfl) (sd @Nat.zero_add) (by rw[pK,b2];rfl)
 rw[b2]at h2
 (repeat(first|((repeat(revert hN;revert N;apply Pn.out));refine wk @ab.eq_1 ?_;(repeat(refine Pn.mk ?_;intro N hN)))|((try apply Or.inl);refine⟨_,aq.x (h1) (sd @ab.eq_1),?_⟩;refine hN _ _ ?_;clear hN N)|((try apply Or.inl);refine⟨_,aq.x (h2) (sd @ab.eq_1),?_⟩;refine hN _ _ ?_;clear hN N)|((try apply Or.inl);refine⟨_,aq.x (h3) (sd @ab.eq_1),?_⟩;refine hN _ _ ?_;clear hN N)))
 exact aU (b:= !(l.any fun t=> !eK s t.aQ)) (.inl rfl) (sd @Nat.zero_add) (by rw[EC,pK,b2];rfl)
theorem Fh (s:au) (l:List ad):aq Tryz.prog 97 [.di (ab s),.di [.sl (l.map aa)]] (.bool (pK s l)):=by
 refine aq.body eB rfl fun hl n0=>?_
 have hlen:l.length<=9223372036854775807:=by
  have h1:=(hl (.di [.sl (l.map aa)]) (by simp)).BH (a:=.sl (l.map aa)) (by simp)
  simpa using h1.len
 clear hl
 have h2:=Gq l
 cases b2:oG l
 ·rw[b2]at h2
  (repeat(first|((repeat(revert hN;revert N;apply Pn.out));refine wk @Nat.zero_add ?_;(repeat(refine Pn.mk ?_;intro N hN)))|((try apply Or.inl);refine⟨_,aq.x (h2) (sd @Nat.zero_add),?_⟩;refine hN _ _ ?_;clear hN N)))
  exact aU (b:=false) (.inl rfl) (sd @Nat.zero_add) (by rw[pK,b2];rfl)
 rw[b2]at h2
 (repeat(first|((repeat(revert hN;revert N;apply Pn.out));refine wk @Nat.zero_add ?_;(repeat(refine Pn.mk ?_;intro N hN)))|((try apply Or.inl);refine⟨_,aq.x (h2) (sd @Nat.zero_add),?_⟩;refine hN _ _ ?_;clear hN N)))
 refine aV (fun n env st=>∃k:Nat,n=(l.length)-k/\k<=(l.length)/\env 5=.int .i64 (k:Int)/\(∀j:Nat,j<k->eK s (aI l j).aQ=true)) (l.length) ⟨0,by omega,by omega,sl @Nat.zero_add,fun _ h=>absurd h (Nat.not_lt_zero _)⟩ ?_
 rintro n_a env_a st_a ⟨k,rfl,ale,a5,lZ⟩ dD
 have a0:=dD 0 (by kernel_rfl);have a1:=dD 1 (by kernel_rfl)
 simp only[go_sem, ↓reduceIte,Nat.reduceEqDiff,Nat.reduceAdd,Nat.reduceSub,Nat.reduceLeDiff,reduceCtorEq]at a0 a1
 clear dD
 by_cases hk:(k:Int)<(l.length:Int)
 ·have cC:∀{e:Env},(e 5=.int .i64 (IntKind.i64.wrap ((k:Int)+1)))->(eK s (aI l k).aQ=true)->∃m0,m0<(l.length)-k/\∃k:Nat,m0=(l.length)-k/\k<=(l.length)/\e 5=.int .i64 (k:Int)/\(∀j:Nat,j<k->eK s (aI l j).aQ=true):=fun x1 x2=>⟨_,by omega,k+1,rfl,by omega,(by rw[x1,az (by omega)]),(all_succ lZ x2)⟩
  have fy:k<l.length:=by omega
  have eQ:=fu fy
  have ht:=wc s (aI l k).aQ
  cases b3:eK s (aI l k).aQ
  ·rw[b3]at ht
   (repeat(first|((repeat(revert hN;revert N;apply Pn.out));refine wk (tw @a5 (tw @a0 (tw @a1 (tw @hk (tw @eQ @aa.eq_1))))) ?_;(repeat(refine Pn.mk ?_;intro N hN)))|((try apply Or.inl);refine⟨_,aq.x (ht) (sd (tw @a5 (tw @a0 (tw @a1 (tw @hk (tw @eQ @aa.eq_1)))))),?_⟩;refine hN _ _ ?_;clear hN N)))
   exact aU (b:=false) (.inl rfl) (sd @Nat.zero_add) (by
    have:l.all (fun t=>eK s t.aQ)=false:=List.all_eq_false.2 ⟨_,gG fy,by rw[b3];simp⟩
    rw[pK,this,Bool.and_false])
  ·rw[b3]at ht
   (repeat(first|((repeat(revert hN;revert N;apply Pn.out));refine wk (tw @a5 (tw @a0 (tw @a1 (tw @hk (tw @eQ @aa.eq_1))))) ?_;(repeat(refine Pn.mk ?_;intro N hN)))|((try apply Or.inl);refine⟨_,aq.x (ht) (sd (tw @a5 (tw @a0 (tw @a1 (tw @hk (tw @eQ @aa.eq_1)))))),?_⟩;refine hN _ _ ?_;clear hN N)))
   exact cC (sd (tw @a5 (tw @a0 @a1))) (b3)
 ·(try((repeat(revert hN;revert N;apply Pn.out));refine wk (tw @a5 (tw @a0 (tw @a1 @hk))) ?_;(repeat(refine Pn.mk ?_;intro N hN))))
  exact aU (b:=true) (.inl rfl) (sd @Nat.zero_add) (by
   have:l.all (fun t=>eK s t.aQ)=true:=List.all_eq_true.2 fun t ht=>by
    obtain⟨j,hj,rfl⟩:=List.getElem_of_mem ht
    have:=lZ j (by omega)
    rwa [fb hj]at this
   rw[pK,b2,this];rfl)
theorem xG (l:List ad) (hF:jF l) (i:Nat) (d:Int) (hi:i<l.length) (hd:jc d 0 3=true):aq Tryz.prog 217 [.di [.sl (l.map aa)],.int .i64 i,.int .i64 d] (.int .i64 (eD l (dx (aI l i).aO d))):=by
 refine aq.body eB rfl fun hl n0=>?_
 clear hl
 have hg:=fu hi
 have hp:=s7 (hF.pt hi)
 have h1:=yz (aI l i).aO d hd hp.1 hp.2
 have h2:=qF l (dx (aI l i).aO d) hF.GP (by have:=hF.rn;omega)
 rw[ae]at h1 h2
 (repeat(first|((repeat(revert hN;revert N;apply Pn.out));refine wk (tw @aa.eq_1 (tw @hg @ae.eq_1)) ?_;(repeat(refine Pn.mk ?_;intro N hN)))|((try apply Or.inl);refine⟨_,aq.x (h1) (sd (tw @aa.eq_1 (tw @hg @ae.eq_1))),?_⟩;refine hN _ _ ?_;clear hN N)|((try apply Or.inl);refine⟨_,aq.x (h2) (sd (tw @aa.eq_1 (tw @hg @ae.eq_1))),?_⟩;refine hN _ _ ?_;clear hN N)))
 exact cj (b:=eD l (dx (aI l i).aO d)) (.inl rfl) (sd @Nat.zero_add) rfl
end Go.Proofs.YtgoelphibofcmaaGreat.V

namespace Go.Proofs.YtgoelphibofcmaaGreat.V
def bi (b:Bool):Int:=if b then 1 else 0
def lW (f:Nat->Int):Nat->Int
 |0=>0
 |n+1=>lW f n+f n
theorem gq {f g:Nat->Int}:∀{n:Nat},(∀i,i<n->f i=g i)->lW f n=lW g n
 |0,_=>rfl
 |n+1,h=>by
  simp only[lW]
  rw[gq fun i hi=>h i (by omega),h n (by omega)]
theorem r4 {f g:Nat->Int}:∀{n:Nat},(∀i,i<n->f i<=g i)->lW f n<=lW g n
 |0,_=>Int.le_refl _
 |n+1,h=>by
  simp only[lW]
  have:=r4 (n:=n) fun i hi=>h i (by omega)
  have:=h n (by omega)
  omega
theorem jU:∀{n:Nat} {f:Nat->Int},(∀i,i<n->f i=0)->lW f n=0
 |0,_,_=>rfl
 |n+1,f,h=>by
  simp only[lW]
  rw[jU fun i hi=>h i (by omega),h n (by omega)];rfl
theorem pE {f:Nat->Int} {a:Nat} {d:Int}:∀n,lW (fun i=>f i+if i=a then d else 0) n=lW f n+if a<n then d else 0
 |0=>by simp[lW]
 |n+1=>by
  simp only[lW]
  rw[pE n]
  by_cases h:n=a
  ·subst h;simp;omega
  ·rw[if_neg h]
   by_cases h2:a<n
   ·rw[if_pos h2,if_pos (by omega)];omega
   ·rw[if_neg h2,if_neg (by omega)];omega
def mh (n:Nat) (S:Nat->Bool) (f:Nat->Nat->Int):Int:=lW (fun u=>lW (fun v=>if S u&& !S v then f u v else 0) n) n
def bump (f:Nat->Nat->Int) (a b:Nat) (d:Int):Nat->Nat->Int:=fun u v=>f u v+if u=a/\v=b then d else 0
theorem pf {n:Nat} {S:Nat->Bool} {f:Nat->Nat->Int} {a b:Nat} {d:Int} (ha:a<n) (hb:b<n):mh n S (bump f a b d)=mh n S f+if S a&& !S b then d else 0:=by
 unfold mh
 have h1:∀u,u<n->lW (fun v=>if S u&& !S v then bump f a b d u v else 0) n=lW (fun v=>if S u&& !S v then f u v else 0) n+if u=a then(if S a&& !S b then d else 0)else 0:=by
  intro u hu
  by_cases h:u=a
  ·subst h
   have h2:∀v,v<n->(if S u&& !S v then bump f u b d u v else 0)=(fun v=>if S u&& !S v then f u v else 0) v+if v=b then(if S u&& !S b then d else 0)else 0:=by
    intro v hv
    unfold bump
    by_cases h3:v=b
    ·subst h3;simp only[and_self,if_true];split<;>omega
    ·simp only[h3,and_false,if_false];split<;>omega
   rw[gq h2,pE,if_pos hb,if_pos rfl]
  ·rw[if_neg h,Int.add_zero]
   refine gq fun v hv=>?_
   unfold bump
   simp[h]
 rw[gq h1,pE,if_pos ha]
theorem KS {n:Nat} {S:Nat->Bool} {f c:Nat->Nat->Int} (h:∀u v,u<n->v<n->f u v<=c u v):mh n S f<=mh n S c:=
 r4 fun u hu=>r4 fun v hv=>by split;exact h u v hu hv;exact Int.le_refl _
theorem KR {n:Nat} {S:Nat->Bool} {f c:Nat->Nat->Int} (h:∀u v,u<n->v<n->S u=true->S v=false->f u v=c u v):mh n S f=mh n S c:=
 gq fun u hu=>gq fun v hv=>by
  split
  ·rename_i hc
   simp only[Bool.and_eq_true,Bool.not_eq_true']at hc
   exact h u v hu hv hc.1 hc.2
  ·rfl
def ko (f:Nat->Nat->Int) (a b:Nat):Nat->Nat->Int:=bump (bump f a b 1) b a (-1)
theorem FT {n:Nat} {S:Nat->Bool} {f:Nat->Nat->Int} {a b:Nat} (ha:a<n) (hb:b<n):mh n S (ko f a b)=mh n S f+bi (S a)-bi (S b):=by
 unfold ko
 rw[pf hb ha,pf ha hb]
 cases S a<;>cases S b<;>simp[bi]<;>omega
def mc (f:Nat->Nat->Int):List Nat->Nat->Nat->Int
 |a::b::r=>mc (ko f a b) (b::r)
 |_=>f
def qQ (f c:Nat->Nat->Int):List Nat->Prop
 |a::b::r=>f a b<c a b/\qQ f c (b::r)
 |_=>True
theorem AQ {n:Nat} {S:Nat->Bool}:∀(r:List Nat) (a:Nat) (f:Nat->Nat->Int),(∀x∈a::r,x<n)->mh n S (mc f (a::r))=mh n S f+bi (S a)-bi (S ((a::r).getLast (by simp)))
 |[],a,f,_=>by simp[mc]
 |b::r,a,f,h=>by
  rw[mc,AQ r b (ko f a b) fun x hx=>h x (List.mem_cons_of_mem _ hx),FT (h a (by simp)) (h b (by simp)),List.getLast_cons_cons]
  generalize bi (S b)=q
  omega
theorem qQ.less {f g c:Nat->Nat->Int}:∀{p:List Nat},qQ f c p->(∀u,u∈p->∀v,g u v<=f u v)->qQ g c p
 |[],_,_=>trivial
 |[_],_,_=>trivial
 |a::b::r,h,hl=>⟨Int.lt_of_le_of_lt (hl a (by simp) b) h.1,qQ.less (p:=b::r) h.2 fun u hu=>hl u (List.mem_cons_of_mem _ hu)⟩
theorem ED {n:Nat} {c:Nat->Nat->Int}:∀(p:List Nat) (f:Nat->Nat->Int),p.Nodup->qQ f c p->(∀u v,u<n->v<n->f u v<=c u v)->∀u v,u<n->v<n->mc f p u v<=c u v
 |[],f,_,_,h=>h
 |[_],f,_,_,h=>h
 |a::b::r,f,hn,hr,h=>by
  rw[mc]
  have qv:a∉b::r:=(List.nodup_cons.1 hn).1
  refine ED (b::r) _ (List.nodup_cons.1 hn).2 (hr.2.less fun u hu v=>?_) fun u v hu hv=>?_
  ·unfold ko bump
   have:u≠a:=by rintro rfl;exact qv hu
   simp only[this,false_and,if_false]
   split<;>omega
  ·have h0:=h u v hu hv
   have h1:=hr.1
   unfold ko bump
   by_cases e:u=a/\v=b
   ·obtain⟨rfl,rfl⟩:=e
    rw[if_pos ⟨rfl,rfl⟩];split<;>omega
   ·rw[if_neg e];split<;>omega
structure lu (n:Nat) (c f:Nat->Nat->Int) (x y:Nat) (val:Int):Prop where
 le:∀u v,u<n->v<n->f u v<=c u v
 cut:∀S:Nat->Bool,S x=true->S y=false->mh n S f=val
theorem lu.zero {n:Nat} {c:Nat->Nat->Int} {x y:Nat} (h:∀u v,u<n->v<n->0<=c u v):lu n c (fun _ _=>0) x y 0:=
 ⟨h,fun S _ _=>jU fun u hu=>jU fun v hv=>by split<;>rfl⟩
theorem lu.congr {n:Nat} {c f g:Nat->Nat->Int} {x y:Nat} {val:Int} (h:lu n c f x y val) (e:∀u v,u<n->v<n->g u v=f u v):lu n c g x y val:=
 ⟨fun u v hu hv=>by rw[e u v hu hv];exact h.le u v hu hv,fun S hx hy=>by
  rw[<-h.cut S hx hy]
  exact gq fun u hu=>gq fun v hv=>by rw[e u v hu hv]⟩
theorem lu.aug {n:Nat} {c f:Nat->Nat->Int} {x y:Nat} {val:Int} (h:lu n c f x y val) {r:List Nat} (hl:(x::r).getLast (by simp)=y) (hn:(x::r).Nodup) (hr:qQ f c (x::r)) (hb:∀v∈x::r,v<n):lu n c (mc f (x::r)) x y (val+1):=
 ⟨ED _ _ hn hr h.le,fun S hx hy=>by rw[AQ r x f hb,hl,h.cut S hx hy,hx,hy];simp[bi]⟩
theorem lu.bound {n:Nat} {c f:Nat->Nat->Int} {x y:Nat} {val:Int} (h:lu n c f x y val) {S:Nat->Bool} (hx:S x=true) (hy:S y=false):val<=mh n S c:=by
 rw[<-h.cut S hx hy];exact KS h.le
theorem lu.full {n:Nat} {c f:Nat->Nat->Int} {x y:Nat} {val:Int} (h:lu n c f x y val) {S:Nat->Bool} (hx:S x=true) (hy:S y=false) (hS:∀u v,u<n->v<n->S u=true->S v=false->¬f u v<c u v):val=mh n S c:=by
 rw[<-h.cut S hx hy]
 exact KR fun u v hu hv h1 h2=>by have:=hS u v hu hv h1 h2;have:=h.le u v hu hv;omega
structure PB where
 a:Nat
 b:Nat
 s:Int
 deriving Inhabited
def cw (bs:List PB) (i:Nat):PB:=bs.getD i default
def jg (S:Nat->Bool) (bs:List PB):Int:=(bs.map fun b=>if S b.a=S b.b then 0 else b.s).sum
def nI (c:Nat->Nat->Int) (b:PB):Nat->Nat->Int:=bump (bump c b.a b.b b.s) b.b b.a b.s
def kW (bs:List PB):Nat->Nat->Int:=bs.foldl nI fun _ _=>0
theorem DY (bs:List PB) (b:PB):kW (bs++[b])=nI (kW bs) b:=by simp[kW]
theorem A5 {n:Nat} {S:Nat->Bool}:∀(bs:List PB) (c:Nat->Nat->Int),(∀b∈bs,b.a<n/\b.b<n)->mh n S (bs.foldl nI c)=mh n S c+jg S bs
 |[],c,_=>by simp[jg]
 |b::bs,c,h=>by
  have hb:=h b (by simp)
  rw[List.foldl_cons,A5 bs _ fun x hx=>h x (List.mem_cons_of_mem _ hx)]
  unfold nI jg
  rw[pf hb.2 hb.1,pf hb.1 hb.2,List.map_cons,List.sum_cons]
  cases S b.a<;>cases S b.b<;>simp<;>omega
theorem A6 {n:Nat} {S:Nat->Bool} {bs:List PB} (h:∀b∈bs,b.a<n/\b.b<n):mh n S (kW bs)=jg S bs:=by
 rw[kW,A5 bs _ h]
 have:mh n S (fun _ _=>0)=0:=jU fun u hu=>jU fun v hv=>by split<;>rfl
 omega
theorem z7:∀(bs:List PB) (c:Nat->Nat->Int),(∀b∈bs,0<=b.s)->(∀u v,0<=c u v)->∀u v,0<=bs.foldl nI c u v
 |[],c,_,h=>h
 |b::bs,c,hb,h=>by
  rw[List.foldl_cons]
  refine z7 bs _ (fun x hx=>hb x (List.mem_cons_of_mem _ hx)) fun u v=>?_
  have:=hb b (by simp);have:=h u v
  unfold nI bump
  split<;>split<;>omega
theorem room_le:∀(bs:List PB) (c:Nat->Nat->Int) (m:Int),(∀b∈bs,b.s<=4)->(∀u v,c u v<=m)->0<=m->∀u v,bs.foldl nI c u v<=m+8*bs.length
 |[],c,m,_,h,_=>fun u v=>by have:=h u v;simp;omega
 |b::bs,c,m,hb,h,h0=>fun u v=>by
  rw[List.foldl_cons]
  have:=room_le bs (nI c b) (m+8) (fun x hx=>hb x (List.mem_cons_of_mem _ hx)) (fun u v=>by
   have:=hb b (by simp);have:=h u v
   unfold nI bump
   split<;>split<;>omega) (by omega) u v
  simp only[List.length_cons];omega
def kF (n:Nat) (bs:List PB) (t:Int):Prop:=∀S:Nat->Bool,S 0=true->(∃y,y<n/\S y=false)->t<=jg S bs
def FQ (S:Nat->Bool) (bs:List PB) (f:Nat->Int):Int:=lW (fun i=>f i*(bi (S (cw bs i).a)-bi (S (cw bs i).b))) bs.length
structure jZ (bs:List PB) (f:Nat->Int) (x y:Nat) (val:Int):Prop where
 le:∀i,i<bs.length->f i<=(cw bs i).s/\-(cw bs i).s<=f i
 cut:∀S:Nat->Bool,S x=true->S y=false->FQ S bs f=val
theorem vk (S:Nat->Bool):∀bs:List PB,jg S bs=lW (fun i=>if S (cw bs i).a=S (cw bs i).b then 0 else(cw bs i).s) bs.length:=by
 intro bs
 have key:∀n,n<=bs.length->jg S (bs.take n)=lW (fun i=>if S (cw bs i).a=S (cw bs i).b then 0 else(cw bs i).s) n:=by
  intro n
  induction n with
  |zero=>intro _;rfl
  |succ n ih=>
   intro h
   have e:cw bs n=bs[n]:=by simp[cw,List.getD_eq_getElem?_getD,List.getElem?_eq_getElem (show n<bs.length by omega)]
   rw[List.take_succ_eq_append_getElem (by omega),lW,<-ih (by omega),e]
   unfold jg
   rw[List.map_append,List.sum_append]
   simp only[List.map_cons,List.map_nil,List.sum_cons,List.sum_nil,Int.add_zero]
 have:=key bs.length (Nat.le_refl _)
 rwa [List.take_length]at this
theorem jZ.bound {bs:List PB} {f:Nat->Int} {x y:Nat} {val:Int} (h:jZ bs f x y val) {S:Nat->Bool} (hx:S x=true) (hy:S y=false):val<=jg S bs:=by
 rw[<-h.cut S hx hy,vk]
 refine r4 fun i hi=>?_
 have:=h.le i hi
 cases S (cw bs i).a<;>cases S (cw bs i).b<;>simp[bi]<;>omega
def fE (bs:List PB) (f:Nat->Int) (i u:Nat):Int:=if (cw bs i).a=u then(cw bs i).s-f i else(cw bs i).s+f i
def bK (bs:List PB) (i u:Nat):Nat:=if (cw bs i).a=u then(cw bs i).b else(cw bs i).a
theorem jZ.full {bs:List PB} {f:Nat->Int} {x y:Nat} {val:Int} (h:jZ bs f x y val) {S:Nat->Bool} (hx:S x=true) (hy:S y=false)
  (hS:∀i,i<bs.length->((cw bs i).a≠(cw bs i).b->(S (cw bs i).a=true->S (cw bs i).b=false->¬0<fE bs f i (cw bs i).a)/\(S (cw bs i).b=true->S (cw bs i).a=false->¬0<fE bs f i (cw bs i).b))):val=jg S bs:=by
 rw[<-h.cut S hx hy,vk]
 refine gq fun i hi=>?_
 have h1:=h.le i hi
 by_cases qv:(cw bs i).a=(cw bs i).b
 ·rw[qv];simp
 ·have h2:=hS i hi qv
  unfold fE at h2
  rw[if_pos rfl,if_neg qv]at h2
  cases ha:S (cw bs i).a<;>cases hb:S (cw bs i).b<;>rw[ha,hb]at h2<;>simp[bi]at h2 ⊢ <;>omega
def tR (bs:List PB) (f:Nat->Int) (i u:Nat):Nat->Int:=fun j=>f j+if j=i then(if (cw bs i).a=u then 1 else -1)else 0
theorem FR {S:Nat->Bool} {bs:List PB} {f:Nat->Int} {i u:Nat} (hi:i<bs.length) (hu:(cw bs i).a=u∨(cw bs i).b=u):FQ S bs (tR bs f i u)=FQ S bs f+bi (S u)-bi (S (bK bs i u)):=by
 unfold FQ tR
 have e:∀j,j<bs.length->(f j+if j=i then(if (cw bs i).a=u then 1 else -1)else 0)*(bi (S (cw bs j).a)-bi (S (cw bs j).b))=(fun j=>f j*(bi (S (cw bs j).a)-bi (S (cw bs j).b))) j+if j=i then(if (cw bs i).a=u then 1 else -1)*(bi (S (cw bs i).a)-bi (S (cw bs i).b))else 0:=by
  intro j hj
  by_cases h:j=i
  ·subst h;simp only[if_true];rw[Int.add_mul]
  ·simp only[h,if_false];simp
 rw[gq e,pE,if_pos hi]
 unfold bK
 by_cases ha:(cw bs i).a=u
 ·rw[if_pos ha,if_pos ha,ha];omega
 ·rw[if_neg ha,if_neg ha]
  rcases hu with hu|hu
  ·exact absurd hu ha
  ·rw[hu];omega
theorem oP:∀(n:Nat) (l:List Nat),l.Nodup->(∀x∈l,x<n)->l.length<=n
 |0,l,_,h=>by
  cases l with
  |nil=>simp
  |cons x l=>exact absurd (h x (by simp)) (by omega)
 |n+1,l,hn,h=>by
  have h1:=oP n (l.erase n) (hn.erase _) fun x hx=>by
   have h2:=(hn.mem_erase_iff).1 hx
   have h3:=h x h2.2
   have h4:=h2.1
   omega
  rw[List.length_erase]at h1
  split at h1<;>omega
end Go.Proofs.YtgoelphibofcmaaGreat.V

namespace Go.Proofs.YtgoelphibofcmaaGreat.V
def eO (L:Nat->Nat) (b:PB):Nat->Nat:=fun k=>if L k=max (L b.a) (L b.b)then min (L b.a) (L b.b)else L k
def ew (bs:List PB):Nat->Nat:=bs.foldl eO id
theorem we (bs:List PB) (b:PB):ew (bs++[b])=eO (ew bs) b:=by simp[ew]
structure jH (L:Nat->Nat):Prop where
 le:∀k,L k<=k
 idem:∀k,L (L k)=L k
theorem jH.step {L:Nat->Nat} (h:jH L) (b:PB):jH (eO L b):=by
 have ha:=h.idem b.a
 have hb:=h.idem b.b
 refine⟨fun k=>?_,fun k=>?_⟩
 ·have:=h.le k
  unfold eO
  split<;>omega
 ·have hk:=h.idem k
  have hm:L (min (L b.a) (L b.b))=min (L b.a) (L b.b):=by
   rcases Nat.le_total (L b.a) (L b.b)with h1|h1
   ·rw[Nat.min_eq_left h1,ha]
   ·rw[Nat.min_eq_right h1,hb]
  unfold eO
  by_cases h1:L k=max (L b.a) (L b.b)
  ·rw[if_pos h1,hm];split<;>rfl
  ·rw[if_neg h1,hk,if_neg h1]
theorem wg:∀(bs:List PB) (L:Nat->Nat),jH L->jH (bs.foldl eO L)
 |[],_,h=>h
 |b::bs,L,h=>wg bs _ (h.step b)
theorem tM (bs:List PB):jH (ew bs):=wg bs id ⟨fun _=>Nat.le_refl _,fun _=>rfl⟩
def leads (n:Nat) (L:Nat->Nat):List Nat:=(List.range n).filter fun i=>L i==i
def members (n:Nat) (L:Nat->Nat) (i:Nat):List Nat:=(List.range n).filter fun k=>L k==i
def fx (n:Nat) (L:Nat->Nat):List (List Nat):=(leads n L).map (members n L)
def bJ (L:Nat->Nat) (k:Nat):Nat:=(leads (L k) L).length
theorem gQ (n:Nat) (L:Nat->Nat):leads (n+1) L=leads n L++if L n=n then[n]else[]:=by
 unfold leads
 rw[List.range_succ,List.filter_append]
 congr 1
 by_cases h:L n=n<;>simp[h]
theorem jw (n:Nat) (L:Nat->Nat) (i:Nat):members (n+1) L i=members n L i++if L n=i then[n]else[]:=by
 unfold members
 rw[List.range_succ,List.filter_append]
 congr 1
 by_cases h:L n=i<;>simp[h]
theorem mZ {L:Nat->Nat} (h:jH L) {n i:Nat} (hn:n<=i):members n L i=[]:=by
 unfold members
 rw[List.filter_eq_nil_iff]
 intro k hk
 have:=h.le k
 have:=List.mem_range.1 hk
 simp;omega
theorem tN (n:Nat) (L:Nat->Nat):(leads n L).Nodup:=List.nodup_range.filter _
theorem yF {n:Nat} {L:Nat->Nat} {i:Nat}:i∈leads n L↔i<n/\L i=i:=by simp[leads]
theorem lK {n:Nat} {L:Nat->Nat} {i k:Nat}:k∈members n L i↔k<n/\L k=i:=by simp[members]
theorem Gv {L:Nat->Nat} {m n:Nat} (h:m<=n):∃r,leads n L=leads m L++r:=by
 obtain⟨d,rfl⟩:=Nat.le.dest h
 clear h
 induction d with
 |zero=>exact⟨[],by simp⟩
 |succ d ih=>
  obtain⟨r,hr⟩:=ih
  exact⟨r++if L (m+d)=m+d then[m+d]else[],by rw[<-Nat.add_assoc,gQ,hr,List.append_assoc]⟩
theorem ph {L:Nat->Nat} (h:jH L) {n k:Nat} (hk:k<n):(leads n L)[bJ L k]? =some (L k):=by
 have h1:=h.le k
 obtain⟨r,hr⟩:=Gv (L:=L) (show L k+1<=n by omega)
 rw[hr,gQ,if_pos (h.idem k),List.append_assoc]
 unfold bJ
 rw[List.getElem?_append_right (Nat.le_refl _),Nat.sub_self];rfl
theorem j9 {L:Nat->Nat} (h:jH L) {n k:Nat} (hk:k<n):bJ L k<(leads n L).length:=(List.getElem?_eq_some_iff.1 (ph h hk)).1
theorem sZ {L:Nat->Nat} (h:jH L) {n k i:Nat} (hk:k<n) (hi:i<(leads n L).length):k∈members n L (leads n L)[i]↔bJ L k=i:=by
 rw[lK]
 have h1:=ph h hk
 rw[List.getElem?_eq_getElem (j9 h hk)]at h1
 injection h1 with h1
 constructor
 ·rintro⟨_,h2⟩
  rw[<-h1]at h2
  exact(List.getElem_inj (tN n L)).1 h2
 ·rintro rfl
  exact⟨hk,h1.symm⟩
def dr (L:Nat->Nat) (bs:List PB):List PB:=bs.filterMap fun b=>if bJ L b.a=bJ L b.b then none else some ⟨bJ L b.a,bJ L b.b,b.s⟩
def eX (L:Nat->Nat) (bs:List PB):List PB:=bs.filterMap fun b=>if bJ L b.a=bJ L b.b then none else some ⟨min (bJ L b.a) (bJ L b.b),max (bJ L b.a) (bJ L b.b),b.s⟩
theorem Aa (L:Nat->Nat) (bs:List PB) (b:PB):dr L (bs++[b])=dr L bs++if bJ L b.a=bJ L b.b then[]else[⟨bJ L b.a,bJ L b.b,b.s⟩]:=by
 unfold dr
 rw[List.filterMap_append]
 congr 1
 by_cases h:bJ L b.a=bJ L b.b<;>simp[h]
theorem Ab (L:Nat->Nat) (bs:List PB) (b:PB):eX L (bs++[b])=eX L bs++if bJ L b.a=bJ L b.b then[]else[⟨min (bJ L b.a) (bJ L b.b),max (bJ L b.a) (bJ L b.b),b.s⟩]:=by
 unfold eX
 rw[List.filterMap_append]
 congr 1
 by_cases h:bJ L b.a=bJ L b.b<;>simp[h]
theorem sF (S:Nat->Bool) (b:PB) (bs:List PB):jg S (b::bs)=(if S b.a=S b.b then 0 else b.s)+jg S bs:=by simp[jg]
theorem xX (S:Nat->Bool) (L:Nat->Nat):∀bs:List PB,jg S (eX L bs)=jg S (dr L bs)
 |[]=>rfl
 |b::bs=>by
  have ih:=xX S L bs
  unfold eX dr at ih ⊢
  rw[List.filterMap_cons,List.filterMap_cons]
  by_cases h:bJ L b.a=bJ L b.b
  ·simp only[h,if_true];exact ih
  ·simp only[h,if_false]
   rw[sF,sF,ih]
   congr 1
   simp only
   rcases Nat.le_total (bJ L b.a) (bJ L b.b)with h1|h1
   ·rw[Nat.min_eq_left h1,Nat.max_eq_right h1]
   ·rw[Nat.min_eq_right h1,Nat.max_eq_left h1]
    cases S (bJ L b.a)<;>cases S (bJ L b.b)<;>rfl
theorem D8 {L:Nat->Nat} (h:jH L) {n:Nat} {bs:List PB} (hb:∀b∈bs,b.a<n/\b.b<n):∀b∈dr L bs,b.a<(leads n L).length/\b.b<(leads n L).length/\b.a≠b.b/\∃c∈bs,b.s=c.s:=by
 intro b hm
 unfold dr at hm
 obtain⟨c,hc,he⟩:=List.mem_filterMap.1 hm
 split at he
 ·cases he
 ·rename_i gW
  simp only[Option.some.injEq]at he
  subst he
  exact⟨j9 h (hb c hc).1,j9 h (hb c hc).2,gW,c,hc,rfl⟩
theorem D9 {L:Nat->Nat} (h:jH L) {n:Nat} {bs:List PB} (hb:∀b∈bs,b.a<n/\b.b<n):∀b∈eX L bs,b.a<(leads n L).length/\b.b<(leads n L).length/\b.a≠b.b/\∃c∈bs,b.s=c.s:=by
 intro b hm
 unfold eX at hm
 obtain⟨c,hc,he⟩:=List.mem_filterMap.1 hm
 split at he
 ·cases he
 ·rename_i gW
  simp only[Option.some.injEq]at he
  subst he
  have h1:=j9 h (hb c hc).1
  have h2:=j9 h (hb c hc).2
  refine⟨by simp only;omega,by simp only;omega,by simp only;omega,c,hc,rfl⟩
theorem nk (L:Nat->Nat) (bs:List PB):(dr L bs).length<=bs.length/\(eX L bs).length<=bs.length:=⟨List.length_filterMap_le ..,List.length_filterMap_le ..⟩
theorem jP (n:Nat) (L:Nat->Nat):(leads n L).length<=n:=by
 have:=List.length_filter_le (fun i=>L i==i) (List.range n)
 simpa[leads]using this
def aL (t:Int) (bs:List PB):List PB:=bs.filter fun b=>decide (t<=b.s)
def pd (n:Nat) (bs:List PB) (t:Int):Prop:=
 (leads n (ew (aL t bs))).length<=64/\kF (leads n (ew (aL t bs))).length (dr (ew (aL t bs)) bs) t
theorem Dm {n:Nat} {L:Nat->Nat} {bs:List PB} {t:Int}:kF n (eX L bs) t↔kF n (dr L bs) t:=by
 unfold kF
 constructor<;>intro h S h0 hy<;>have:=h S h0 hy<;>rw[xX]at *<;>exact this
end Go.Proofs.YtgoelphibofcmaaGreat.V
