/- Slices of one's own that grow from an empty one. -/
import Derived.Test.YtgoelphibofcmaaGreatOuB
import Derived.Test.YtgoelphibofcmaaGreatChecked
import Derived.Test.YtgoelphibofcmaaGreatOuA
set_option linter.unusedVariables false
set_option linter.unusedSimpArgs false
set_option maxRecDepth 100000
set_option maxHeartbeats 16000000
namespace Go.Proofs.YtgoelphibofcmaaGreat.V
open Go.RowKit
variable {P:Program} {X:fZ} {K:Env->au->Prop} {env:Env} {σ:au}
def nB {α:Type} (enc:α->List AV) (sz:Nat) (x:AV) (g:Rows) (S:Id->Prop) (L:List α):Prop:=∃o:Id,S o/\x=.own o 0 L.length/\g o=some ⟨true,sz,L.map enc⟩
section
variable {α:Type} {enc:α->List AV} {sz:Nat} {x:AV} {g g':Rows} {S:Id->Prop} {L L':List α}
theorem nB.cast (h:nB enc sz x g S L) (hL:L'=L):nB enc sz x g S L':=by subst hL;exact h
theorem nB.frame (h:nB enc sz x g S L) (hg:∀o:Id,S o->g' o=g o):nB enc sz x g' S L:=by
 obtain⟨o,h1,h2,h3⟩:=h
 exact⟨o,h1,h2,(hg o h1).trans h3⟩
theorem nB.app (hz:∀a,(enc a).length=sz/\(enc a).all AV.cell=true) (h:nB enc sz x g S L) (id:Id) (hid:S id) (M:List α) (hlen:L.length+M.length<=dG):
  ∃v g',bd g id sz x (M.map enc)=some (v,g')/\nB enc sz v g' S (L++M)/\∀j:Id,¬S j->g' j=g j:=by
 obtain⟨o,h1,rfl,h4⟩:=h
 refine⟨.own id 0 (L.length+(M.map enc).length),bQ (cC g o) id ⟨true,sz,L.map enc++M.map enc⟩,?_,⟨id,hid,by simp,by simp[bQ]⟩,fun j hj=>?_⟩
 ·have ha:=all_map (l:=M) hz
  simp only[bd,h4,Option.bind_some]
  rw[if_pos ⟨trivial,trivial,by simp,by simpa using hlen,ha⟩]
 ·have e1:¬j=id:=fun h=>hj (h▸hid)
  have e2:¬j=o:=fun h=>hj (h▸h1)
  simp[bQ,cC,e1,e2]
theorem QX {draw:Bool} {o:br} {r:List br} {x' y:O} {xv:AV} (M:List α) (ho:o.op=.append sz x' y) (hw:aQ o.guard env=true) (hx:dm env x'=xv) (hO:nB enc sz xv σ.get S L)
  (hy:bx σ.get (dm env y)=some (M.map enc)) (hz:∀a,(enc a).length=sz/\(enc a).all AV.cell=true) (hid:S ⟨o.site,σ.next⟩) (hlen:L.length+M.length<=dG)
  (next:∀v g',nB enc sz v g' S (L++M)->(∀j:Id,¬S j->g' j=σ.get j)->wpOps X draw r K (upd env o.dst v) ⟨g',σ.next⟩):wpOps X draw (o::r) K env σ:=by
 obtain⟨v,g',h1,h2,h3⟩:=hO.app hz ⟨o.site,σ.next⟩ hid M hlen
 unfold wpOps
 rw[if_pos hw]
 unfold fM
 simp only[ho,fY,hy,hx,Option.bind_some,h1]
 exact next v g' h2 h3
theorem nB.gK {n:Nat} (h:nB enc sz x g S L) (he:∀a,eI g n (enc a)=some (enc a)):gK g (n+1) x=some (.sl (L.map enc)):=by
 obtain⟨o,_,rfl,h3⟩:=h
 exact fu h3 rfl he
end
theorem cm {a b:Id} (h:a.bE<b.bE):(a=b)=False/\(b=a)=False:=by
 constructor<;>(simp only[eq_iff_iff,iff_false];rintro rfl;omega)
theorem Bb {o:Id} {a:Nat} (h:o.site=a) {b v:Nat} (rh:(a==b)=false):(o=⟨b,v⟩)=False:=by
 simp only[eq_iff_iff,iff_false]
 rintro rfl
 simp only at h
 subst h
 simp at rh
def eN (n:Nat):List AV:=[.int .i64 n]
theorem fzN (g:Rows) (n:Nat) (a:Nat):dt g (n+1) (eN a)=some (eN a):=by simp[eN,ae,aj,aJ]
theorem Pt (g:Rows) (n:Nat) (a:Nat):eI g (n+1) (eN a)=some (eN a):=by simp[eN,bt,cz,er]
def Rj:DP (List Nat):=fun g cs x ids=>∃id,cs=[.own id 0 x.length]/\g id=some ⟨true,1,x.map eN⟩/\ids=[id]
theorem Ns:yn Rj 1 where
 frame:=fun⟨id,h1,h2,h3⟩ hf=>by subst h3;exact⟨id,h1,(hf id (by simp)).trans h2,rfl⟩
 len:=fun⟨id,h1,_⟩=>by subst h1;rfl
 cell:=fun⟨id,h1,_⟩=>by subst h1;rfl
 live:=fun⟨id,h1,h2,h3⟩ i hi=>by
  subst h3
  have:i=id:=by simpa using hi
  subst this
  exact⟨_,h2,rfl,by simp[sE]⟩
 small:=by simp[sE]
def BC (l:List Nat):List AV:=[.sl (l.map eN)]
theorem KM {g:Rows} {rows:List (List AV)} {xs:List (List Nat)} {ids:List Id} (n:Nat) (h:eQ Rj g rows xs ids):iE g (n+2) rows=some (xs.map BC):=by
 induction h with
 |nil=>rw[iE];rfl
 |cons h1 _ ih=>
  obtain⟨id,rfl,h2,_⟩:=h1
  rw[iE,ih,bt,cz,fu (e:=eN) (sz:=1) h2 rfl fun a=>Pt g n a];rfl
end Go.Proofs.YtgoelphibofcmaaGreat.V

namespace Go.Proofs.YtgoelphibofcmaaGreat.V
open Go.RowKit
attribute [local irreducible] dQ wpOps fX Call
attribute [local go_sem] aQ fM eU fY fW dm upd cG K.av cQ AV.cells AV.cell rowOf rowsOf part ld rowAt bQ cC dE ea gZ bS dh eo fV fj dB ef dd dc dS dU b4 bj cV bW cY cW ec eh ee cU ck de eb bV aU da cK gY bx cP cj bd dv bl dG AV.undef bH bK dW dZ dO dL cN ek eu cJ ej ei cZ db List.getD_cons_zero List.getD_cons_succ List.getD_nil List.all_cons List.all_nil Bool.and_true Bool.true_and Bool.and_self Bool.not_true Bool.not_false Option.map_some Option.map_none Option.bind_some Option.bind_none List.length_cons List.length_nil List.take_succ_cons List.take_zero List.take_nil List.drop_succ_cons List.drop_zero List.drop_nil List.head?_cons List.map_cons List.map_nil List.getElem?_cons_zero List.getElem?_cons_succ List.cons_append List.nil_append List.append_nil List.length_map List.set_cons_zero List.set_cons_succ Nat.reduceMul eq_self Int.toNat_natCast Int.natCast_nonneg and_self true_and and_true decide_true decide_false Bool.false_eq_true Nat.zero_add Nat.add_zero List.contains_cons List.contains_nil Bool.or_false Bool.false_or beq_self_eq_true Nat.reduceBEq ne_eq not_true_eq_false not_false_eq_true Id.mk.injEq false_and and_false Nat.reduceLT Int.reduceLE Int.reduceLT Int.reduceToNat Int.reduceNeg Int.reduceAdd Nat.le_refl List.length_append beq_true beq_false Bool.not_eq_eq_eq_not or_false false_or dX ae aj aJ bq bG cr aY bf aW bp cR bB
variable {P:Program}
def Jg {α:Type} (R:DP α) (x:α) (σ:au) (r:AV) (σ':au):Prop:=∃cs ids,r=.agg cs/\R σ'.get cs x ids/\gQ σ.next σ'.next ids/\Kept σ σ'
def gP {α:Type} (R:DP α) (z:Nat) (g:Rows) (a:AV) (xs:List α) (ids:List Id):Prop:=∃o rows is,a=.own o 0 xs.length/\g o=some ⟨true,z,rows⟩/\eQ R g rows xs is/\ids=o::is
def Jh {α:Type} (R:DP α) (z:Nat) (xs:List α) (σ:au) (r:AV) (σ':au):Prop:=∃ids,gP R z σ'.get r xs ids/\gQ σ.next σ'.next ids/\Kept σ σ'
theorem gP.frame {α:Type} {R:DP α} {z:Nat} {g g':Rows} {a:AV} {xs:List α} {ids:List Id} (ok:yn R z) (h:gP R z g a xs ids) (hf:∀i∈ids,g' i=g i):gP R z g' a xs ids:=by
 obtain⟨o,rows,is,h1,h2,h3,rfl⟩:=h
 exact⟨o,rows,is,h1,(hf o (by simp)).trans h2,h3.frame ok fun i hi=>hf i (by simp[hi]),rfl⟩
theorem gP.fz {α:Type} {R:DP α} {z n:Nat} {e:α->List AV} {g:Rows} {a:AV} {xs:List α} {ids:List Id} (h:gP R z g a xs ids) (hz:∀{cs x ids},R g cs x ids->dt (dX g) n cs=some (e x)):V.fz (dX g) (n+1) a=some (.sl (xs.map e)):=by
 obtain⟨o,rows,is,rfl,h2,h3,rfl⟩:=h
 rw[iP]
 simp only[dX,h2,Option.map_some,if_true]
 rw[if_pos (by rw[h3.len];omega),List.drop_zero,List.take_of_length_le (by rw[h3.len];exact Nat.le_refl _),h3.fz hz];rfl
def jq {α:Type} (e:α->List AV):DP α:=fun _ cs x ids=>cs=e x/\ids=[]
theorem JT {α:Type} {e:α->List AV} {z:Nat} (hz:∀x,(e x).length=z) (hc:∀x,(e x).all AV.cell=true) (hs:z<sE):yn (jq e) z where
 frame:=fun h _=>h
 len:=fun h=>by rw[h.1];exact hz _
 cell:=fun h=>by rw[h.1];exact hc _
 live:=fun h i hi=>by rw[h.2]at hi;cases hi
 small:=hs
def oR:DP fh:=fun g cs t ids=>∃i,cs=[.str t.aO,.own i 0 t.bL.length]/\g i=some ⟨true,1,t.bL.map az⟩/\ids=[i]
theorem rQ:yn oR 2 where
 frame:=fun⟨i,h1,h2,h3⟩ hf=>⟨i,h1,(hf i (by rw[h3];simp)).trans h2,h3⟩
 len:=fun⟨i,h1,_⟩=>by rw[h1];rfl
 cell:=fun⟨i,h1,_⟩=>by rw[h1];rfl
 live:=fun⟨i,h1,h2,h3⟩ j hj=>by
  rw[h3]at hj
  have:j=i:=by simpa using hj
  subst this
  exact⟨_,h2,rfl,by simp[sE]⟩
 small:=by simp[sE]
theorem NW {g:Rows} {cs:List AV} {t:fh} {ids:List Id} (n:Nat) (h:oR g cs t ids):dt (dX g) (n+2) cs=some (bJ t):=by
 obtain⟨i,rfl,h2,_⟩:=h
 have h3:V.fz (dX g) (n+2) (.own i 0 t.bL.length)=some (.sl (t.bL.map az)):=il (e:=az) (sz:=1) (by simp[dX,h2]) rfl fun x=>by simp[az,ae,aj,aJ]
 simp only[ae,aj,bG,h3,Option.map_some,bJ]
theorem NQ {α:Type} {a b:List α} {x y:α} {k:Nat} (hk:a.length=k):(a++x::b).set k y=a++[y]++b:=by subst hk;simp
theorem wb {α:Type} {R:DP α} {en:α->List AV} {z fk gk:Nat} {zero:List K} (ok:yn R z) (hc:lV P fk=some (qI fk gk z zero)) (I5:zero.length=z) (hz:∀x,(en x).length=z) (xs:List α) (hlen:xs.length<=1048576)
  (hg:∀x∈xs,∀σ,Call P gk [.agg (en x)] σ (Jg R x σ)) (σ:au):Call P fk [.sl (xs.map en)] σ (Jh R z xs σ):=by
 refine eJ hc rfl fun hl=>?_
 try simp only[q]
 clear hl
 have hm:(xs.length:Int)<=((16777216:Nat):Int):=by omega
 have h0:(0:Int)<=(xs.length:Int):=by omega
 (try((repeat(revert hN;revert N;apply Pn.out));refine wk (tw @hm (tw @h0 (tw @Int.le_refl @I5))) ?_;(repeat(refine Pn.mk ?_;intro N hN))))
 refine aZ (fun n env st=>∃k:Nat,n=(xs.length)-k/\k<=(xs.length)/\env 4=.int .i64 (k:Int)/\(σ.next+2<=st.next/\(∀y:Id,y.bE<σ.next->st.get y=σ.get y)/\∃rows is,st.get ⟨fk*1000000+1002,σ.next+1⟩=some ⟨true,z,rows++List.replicate (xs.length-k) (zero.map K.av)⟩/\eQ R st.get rows (xs.take k) is/\gQ (σ.next+2) st.next is)) (xs.length) ⟨0,by omega,by omega,sl @Nat.zero_add,by(try dsimp only);exact⟨by omega,fun y hy=>by
  have h1:=dr hy
  simp only[go_sem, ↓reduceIte,Nat.reduceEqDiff,Nat.reduceAdd,Nat.reduceSub,Nat.reduceLeDiff,reduceCtorEq,h1],[],[],sl @Nat.zero_add,.nil,List.nodup_nil,fun i hi=>by cases hi⟩⟩ ?_
 rintro n_a env_a st_a ⟨k,rfl,ale,a4,jO⟩ dy
 have a0:=dy 0 (by kernel_rfl);have a3:=dy 3 (by kernel_rfl)
 simp only[go_sem, ↓reduceIte,Nat.reduceEqDiff,Nat.reduceAdd,Nat.reduceSub,Nat.reduceLeDiff,reduceCtorEq]at a0 a3
 clear dy
 obtain⟨an,aK,rows,is,ag,aR,aN⟩:=jO
 have rn:rows.length=k:=by rw[aR.len,List.length_take];omega
 by_cases hk:(k:Int)<(xs.length:Int)
 ·have cw:∀{e:Env} {gg:Rows} {nx:Nat},(e 4=.int .i64 (IntKind.i64.wrap ((k:Int)+1)))->(σ.next+2<=nx/\(∀y:Id,y.bE<σ.next->gg y=σ.get y)/\∃rows is,gg ⟨fk*1000000+1002,σ.next+1⟩=some ⟨true,z,rows++List.replicate (xs.length-(k+1)) (zero.map K.av)⟩/\eQ R gg rows (xs.take (k+1)) is/\gQ (σ.next+2) nx is)->∃m0,m0<(xs.length)-k/\∃k:Nat,m0=(xs.length)-k/\k<=(xs.length)/\e 4=.int .i64 (k:Int)/\(σ.next+2<=nx/\(∀y:Id,y.bE<σ.next->gg y=σ.get y)/\∃rows is,gg ⟨fk*1000000+1002,σ.next+1⟩=some ⟨true,z,rows++List.replicate (xs.length-k) (zero.map K.av)⟩/\eQ R gg rows (xs.take k) is/\gQ (σ.next+2) nx is):=fun x1 x2=>⟨_,by omega,k+1,rfl,by omega,(by rw[x1,aD (by omega)]),x2⟩
  have fP:k<xs.length:=by omega
  have eX:(xs.map en)[k]? =some (en xs[k]):=by simp[fP]
  have uA:=hz xs[k]
  have ht:(en xs[k]).take z=en xs[k]:=by rw[<-uA,List.take_length]
  have iv:=hg _ (List.getElem_mem fP)
  obtain⟨m,uy⟩:∃m,xs.length-k=m+1:=⟨xs.length-k-1,by omega⟩
  rw[uy,List.replicate_succ]at ag
  generalize hex:en xs[k]=c at iv eX uA ht
  (try((repeat(revert hN;revert N;apply Pn.out));refine wk (tw @a4 (tw @a0 (tw @a3 (tw @hk (tw @eX (tw @uA (tw @ht @Nat.le_refl))))))) ?_;(repeat(refine Pn.mk ?_;intro N hN))))
  refine .inr (aE _ _ _ _ _ (fun r σ1 hq=>?_) (iv _))
  obtain⟨cs,ids,rfl,hR,hI,hK⟩:=hq
  obtain⟨g1,x1⟩:=σ1
  (try dsimp only at hR hI hK)
  have BG:=(hK.2 ⟨fk*1000000+1002,σ.next+1⟩ (by(try dsimp only);omega))
  simp only[go_sem, ↓reduceIte,Nat.reduceEqDiff,Nat.reduceAdd,Nat.reduceSub,Nat.reduceLeDiff,reduceCtorEq,ag]at BG
  have nG:=ok.len hR
  have AA:=ok.cell hR
  have fC:(rows++zero.map K.av::List.replicate m (zero.map K.av))[k]? =some (zero.map K.av):=by rw[List.getElem?_append_right (by omega),rn,Nat.sub_self];rfl
  have eL:(rows++zero.map K.av::List.replicate m (zero.map K.av)).set k cs=rows++[cs]++List.replicate m (zero.map K.av):=NQ rn
  have J8:(zero.map K.av).drop z=[]:=List.drop_of_length_le (by simp[I5])
  have Gn:(rows++zero.map K.av::List.replicate m (zero.map K.av)).length=xs.length:=by simp[rn];omega
  refine hN _ _ ?_
  clear hN N
  (try((repeat(revert hN;revert N;apply Pn.out));refine wk (tw @a4 (tw @a0 (tw @a3 (tw @hk (tw @BG (tw @fC (tw @eL (tw @Gn (tw @J8 (tw @wK (tw @nG (tw @AA (tw @Nat.le_refl @I5))))))))))))) ?_;(repeat(refine Pn.mk ?_;intro N hN))))
  have rm:=hK.1
  have L8:∀i∈is,(i=⟨fk*1000000+1002,σ.next+1⟩)=False:=fun i hi=>eq_false fun e=>by
   have:=(aN.2 i hi).1
   subst e;(try dsimp only at this);omega
  have BE:∀i∈ids,(i=⟨fk*1000000+1002,σ.next+1⟩)=False:=fun i hi=>eq_false fun e=>by
   have:=(hI.2 i hi).1
   subst e;(try dsimp only at this);omega
  exact cw (sd (tw @a4 (tw @a0 @a3))) (by(try dsimp only at *);exact⟨by omega,fun y hy=>by
   have h1:=dr hy
   have h2:=hK.2 y (by(try dsimp only);omega)
   have h3:=aK y hy
   simp only[go_sem, ↓reduceIte,Nat.reduceEqDiff,Nat.reduceAdd,Nat.reduceSub,Nat.reduceLeDiff,reduceCtorEq]at h2
   simp only[go_sem, ↓reduceIte,Nat.reduceEqDiff,Nat.reduceAdd,Nat.reduceSub,Nat.reduceLeDiff,reduceCtorEq,h1,h2,h3],rows++[cs],is++ids,by
    rw[show xs.length-(k+1)=m by omega]
    simp only[go_sem, ↓reduceIte,Nat.reduceEqDiff,Nat.reduceAdd,Nat.reduceSub,Nat.reduceLeDiff,reduceCtorEq]<;>rfl,by
    rw[List.take_succ_eq_append_getElem fP]
    refine((aR.frame ok fun i hi=>?_).app (.one (ok.frame hR fun i hi=>?_)))
    ·have h1:=L8 i hi
     have h2:=hK.2 i (by(try dsimp only);have:=(aN.2 i hi).2;omega)
     simp only[go_sem, ↓reduceIte,Nat.reduceEqDiff,Nat.reduceAdd,Nat.reduceSub,Nat.reduceLeDiff,reduceCtorEq]at h2
     simp only[go_sem, ↓reduceIte,Nat.reduceEqDiff,Nat.reduceAdd,Nat.reduceSub,Nat.reduceLeDiff,reduceCtorEq,h1,h2]
    ·have h1:=BE i hi
     simp only[go_sem, ↓reduceIte,Nat.reduceEqDiff,Nat.reduceAdd,Nat.reduceSub,Nat.reduceLeDiff,reduceCtorEq,h1],(aN.app hI (by(try dsimp only);omega) (by omega) (by(try dsimp only);omega)).wide (Nat.le_refl _) (by(try dsimp only);omega)⟩)
 ·(try((repeat(revert hN;revert N;apply Pn.out));refine wk (tw @a4 (tw @a0 (tw @a3 @hk))) ?_;(repeat(refine Pn.mk ?_;intro N hN))))
  have fP:k=xs.length:=by omega
  subst fP
  rw[Nat.sub_self,List.replicate_zero,List.append_nil]at ag
  rw[List.take_length]at aR
  refine eV (.inl rfl) (vs:=[.own ⟨fk*1000000+1002,σ.next+1⟩ 0 xs.length]) (sd (tw @a4 (tw @a0 @a3))) ?_
  exact⟨_,⟨_,rows,is,rfl,ag,aR,rfl⟩,⟨List.nodup_cons.2 ⟨fun hi=>by have:=(aN.2 _ hi).1;(try dsimp only at this);omega,aN.1⟩,fun i hi=>by
   rcases List.mem_cons.1 hi with rfl|hi
   ·(try dsimp only);omega
   ·have:=aN.2 i hi;(try dsimp only);omega⟩,⟨by(try dsimp only);omega,fun j hj=>aK j hj⟩⟩
end Go.Proofs.YtgoelphibofcmaaGreat.V

namespace Go.Proofs.YtgoelphibofcmaaGreat.V
open Go.RowKit
attribute [local irreducible] dQ wpOps fX Call
attribute [local go_sem] aQ fM eU fY fW dm upd cG K.av cQ AV.cells AV.cell rowOf rowsOf part ld rowAt bQ cC dE ea gZ bS dh eo fV fj dB ef dd dc dS dU b4 bj cV bW cY cW ec eh ee cU ck de eb bV aU da cK gY bx cP cj bd dv bl dG AV.undef bH bK dW dZ dO dL cN ek eu cJ ej ei cZ db List.getD_cons_zero List.getD_cons_succ List.getD_nil List.all_cons List.all_nil Bool.and_true Bool.true_and Bool.and_self Bool.not_true Bool.not_false Option.map_some Option.map_none Option.bind_some Option.bind_none List.length_cons List.length_nil List.take_succ_cons List.take_zero List.take_nil List.drop_succ_cons List.drop_zero List.drop_nil List.head?_cons List.map_cons List.map_nil List.getElem?_cons_zero List.getElem?_cons_succ List.cons_append List.nil_append List.append_nil List.length_map List.set_cons_zero List.set_cons_succ Nat.reduceMul eq_self Int.toNat_natCast Int.natCast_nonneg and_self true_and and_true decide_true decide_false Bool.false_eq_true Nat.zero_add Nat.add_zero List.contains_cons List.contains_nil Bool.or_false Bool.false_or beq_self_eq_true Nat.reduceBEq ne_eq not_true_eq_false not_false_eq_true Id.mk.injEq false_and and_false Nat.reduceLT Int.reduceLE Int.reduceLT Int.reduceToNat Int.reduceNeg Int.reduceAdd Nat.le_refl List.length_append beq_true beq_false Bool.not_eq_eq_eq_not or_false false_or dX ae aj aJ bq bG cr aY bf aW bp cR bB
theorem gP.jn {α:Type} {R:DP α} {z:Nat} {g:Rows} {a:AV} {xs:List α} {ids:List Id} (h:gP R z g a xs ids):∃o,a=.own o 0 xs.length:=by
 obtain⟨o,rows,is,rfl,_⟩:=h;exact⟨o,rfl⟩
theorem LK (xs:List Int) (hlen:xs.length<=1048576) (σ:au):Call Tryz.prog 195 [.sl (xs.map az)] σ (fun r σ'=>∃i,r=.own i 0 xs.length/\σ'.get i=some ⟨true,1,xs.map az⟩/\gQ σ.next σ'.next [i]/\Kept σ σ'):=by
 refine eJ (show lV Tryz.prog 195=some (LM 195 (.int .i64 0)) by kernel_rfl) rfl fun hl=>?_
 try simp only[q]
 clear hl
 obtain⟨en,IV⟩:∃en:Int->List AV,en=az:=⟨_,rfl⟩
 rw[<-IV]
 have hm:(xs.length:Int)<=((16777216:Nat):Int):=by omega
 have h0:(0:Int)<=(xs.length:Int):=by omega
 (try((repeat(revert hN;revert N;apply Pn.out));refine wk (tw @hm (tw @h0 (tw @Int.le_refl (o9 en [AV.int .i64 0] xs)))) ?_;(repeat(refine Pn.mk ?_;intro N hN))))
 refine aZ (fun n env st=>∃k:Nat,n=(xs.length)-k/\k<=(xs.length)/\env 4=.int .i64 (k:Int)/\st.get ⟨195*1000000+1002,σ.next+1⟩=some ⟨true,1,ik en [AV.int .i64 0] xs k⟩/\(σ.next+2<=st.next/\∀y:Id,y.bE<σ.next->st.get y=σ.get y)) (xs.length) ⟨0,by omega,by omega,sl @Nat.zero_add,sl @Nat.zero_add,by(try dsimp only);exact⟨by omega,fun y hy=>by
  have h1:=dr hy
  simp only[go_sem, ↓reduceIte,Nat.reduceEqDiff,Nat.reduceAdd,Nat.reduceSub,Nat.reduceLeDiff,reduceCtorEq,h1]⟩⟩ ?_
 rintro n_a env_a st_a ⟨k,rfl,ale,a4,ag0,jO⟩ dy
 have a0:=dy 0 (by kernel_rfl);have a3:=dy 3 (by kernel_rfl)
 simp only[go_sem, ↓reduceIte,Nat.reduceEqDiff,Nat.reduceAdd,Nat.reduceSub,Nat.reduceLeDiff,reduceCtorEq]at a0 a3
 clear dy
 obtain⟨an,aK⟩:=jO
 by_cases hk:(k:Int)<(xs.length:Int)
 ·have cw:∀{e:Env} {gg:Rows} {nx:Nat},(e 4=.int .i64 (IntKind.i64.wrap ((k:Int)+1)))->(gg ⟨195*1000000+1002,σ.next+1⟩=some ⟨true,1,ik en [AV.int .i64 0] xs (k+1)⟩)->(σ.next+2<=nx/\∀y:Id,y.bE<σ.next->gg y=σ.get y)->∃m0,m0<(xs.length)-k/\∃k:Nat,m0=(xs.length)-k/\k<=(xs.length)/\e 4=.int .i64 (k:Int)/\gg ⟨195*1000000+1002,σ.next+1⟩=some ⟨true,1,ik en [AV.int .i64 0] xs k⟩/\(σ.next+2<=nx/\∀y:Id,y.bE<σ.next->gg y=σ.get y):=fun x1 x2 x3=>⟨_,by omega,k+1,rfl,by omega,(by rw[x1,aD (by omega)]),x2,x3⟩
  have fP:k<xs.length:=by omega
  have eX:(xs.map en)[k]? =some [AV.int .i64 xs[k]]:=by simp[fP,IV,az]
  have gn:=qS en [AV.int .i64 0] xs fP
  have eL:=qT en [AV.int .i64 0] xs fP
  rw[show en xs[k]=[AV.int .i64 xs[k]] by rw[IV];rfl]at eL
  (try((repeat(revert hN;revert N;apply Pn.out));refine wk (tw @a4 (tw @ag0 (tw @a0 (tw @a3 (tw @hk (tw @eX (tw @gn @eL))))))) ?_;(repeat(refine Pn.mk ?_;intro N hN))))
  refine cw ?_ ?_ (by(try dsimp only);exact⟨by omega,fun y hy=>by
   have h1:=dr hy
   have h3:=aK y hy
   simp only[go_sem, ↓reduceIte,Nat.reduceEqDiff,Nat.reduceAdd,Nat.reduceSub,Nat.reduceLeDiff,reduceCtorEq,h1,h3]⟩)
  all_goals simp only[go_sem, ↓reduceIte,Nat.reduceEqDiff,Nat.reduceAdd,Nat.reduceSub,Nat.reduceLeDiff,reduceCtorEq,a4,ag0,a0,a3]
 ·(try((repeat(revert hN;revert N;apply Pn.out));refine wk (tw @a4 (tw @ag0 (tw @a0 (tw @a3 @hk)))) ?_;(repeat(refine Pn.mk ?_;intro N hN))))
  have fP:k=xs.length:=by omega
  subst fP
  refine eV (.inl rfl) (vs:=[.own ⟨195*1000000+1002,σ.next+1⟩ 0 xs.length]) (sd (tw @a4 (tw @ag0 (tw @a0 @a3)))) ?_
  rw[qR]at ag0
  exact⟨_,rfl,ag0,⟨List.nodup_cons.2 ⟨by simp,List.nodup_nil⟩,fun i hi=>by
   rw[List.mem_singleton.1 hi];(try dsimp only);omega⟩,⟨by(try dsimp only);omega,fun j hj=>aK j hj⟩⟩
theorem LN (p:fh) (hs:tn p) (σ:au):Call Tryz.prog 162 [.agg (bJ p)] σ (Jg oR p σ):=by
 refine eJ eF rfl fun hl=>?_
 clear hl
 (try((repeat(revert hN;revert N;apply Pn.out));refine wk @bJ.eq_1 ?_;(repeat(refine Pn.mk ?_;intro N hN))))
 refine .inr (aE _ _ _ _ _ (fun r σ1 hq=>?_) (LK p.bL hs _))
 obtain⟨i,rfl,hg,hI,hK⟩:=hq
 obtain⟨g1,x1⟩:=σ1
 (try dsimp only at hg hI hK)
 have hn:=hK.1
 refine hN _ _ ?_
 clear hN N
 have hi:=hI.2 i (by simp)
 have k2:=hK.2 ⟨162000001,σ.next⟩ (by(try dsimp only);omega)
 have k3:=hK.2 ⟨162001000,σ.next+1⟩ (by(try dsimp only);omega)
 simp only[go_sem, ↓reduceIte,Nat.reduceEqDiff,Nat.reduceAdd,Nat.reduceSub,Nat.reduceLeDiff,reduceCtorEq]at k2 k3
 (try((repeat(revert hN;revert N;apply Pn.out));refine wk (tw @bJ.eq_1 (tw @k2 @k3)) ?_;(repeat(refine Pn.mk ?_;intro N hN))))
 refine eV (.inl rfl) (vs:=[.agg [.str p.aO,.own i 0 p.bL.length]]) (sd @Nat.zero_add) ?_
 refine⟨_,[i],rfl,⟨i,rfl,?_,rfl⟩,⟨hI.1,fun j hj=>?_⟩,⟨?_,fun j hj=>?_⟩⟩
 ·have i2:=cm (b:=i) (a:=⟨162000001,σ.next⟩) (by(try dsimp only at *);omega)
  have i3:=cm (b:=i) (a:=⟨162001000,σ.next+1⟩) (by(try dsimp only at *);omega)
  simp only[go_sem, ↓reduceIte,Nat.reduceEqDiff,Nat.reduceAdd,Nat.reduceSub,Nat.reduceLeDiff,reduceCtorEq,i2,i3,hg]
 ·rw[List.mem_singleton.1 hj]
  (try dsimp only at *);omega
 ·(try dsimp only at *);omega
 ·have h2:=hK.2 j (by(try dsimp only);omega)
  have h1:=dr hj
  simp only[go_sem, ↓reduceIte,Nat.reduceEqDiff,Nat.reduceAdd,Nat.reduceSub,Nat.reduceLeDiff,reduceCtorEq,h1]at h2
  simp only[go_sem, ↓reduceIte,Nat.reduceEqDiff,Nat.reduceAdd,Nat.reduceSub,Nat.reduceLeDiff,reduceCtorEq,h1,h2]
theorem Cn:yn (jq cq) 2:=JT (fun _=>rfl) (fun _=>rfl) (by simp[sE])
theorem mO:yn (jq aa) 3:=JT (fun _=>rfl) (fun _=>rfl) (by simp[sE])
theorem LI (p:fQ) (σ:au):Call Tryz.prog 161 [.agg (cq p)] σ (Jg (jq cq) p σ):=by
 refine eJ eF rfl fun hl=>?_
 clear hl
 (try((repeat(revert hN;revert N;apply Pn.out));refine wk @cq.eq_1 ?_;(repeat(refine Pn.mk ?_;intro N hN))))
 refine eV (.inl rfl) (vs:=[.agg (cq p)]) (sd @cq.eq_1) ?_
 exact⟨_,[],rfl,⟨rfl,rfl⟩,⟨List.nodup_nil,fun i hi=>by cases hi⟩,⟨by(try dsimp only);omega,fun j hj=>by
  have h1:=dr hj
  simp only[go_sem, ↓reduceIte,Nat.reduceEqDiff,Nat.reduceAdd,Nat.reduceSub,Nat.reduceLeDiff,reduceCtorEq,h1]⟩⟩
theorem FV (p:ab) (σ:au):Call Tryz.prog 104 [.agg (aa p)] σ (Jg (jq aa) p σ):=by
 refine eJ eF rfl fun hl=>?_
 clear hl
 have h:=qm p.aL
 rw[ah]at h
 (repeat(first|((repeat(revert hN;revert N;apply Pn.out));refine wk @aa.eq_1 ?_;(repeat(refine Pn.mk ?_;intro N hN)))|((try apply Or.inl);refine⟨_,iM.x (h) _,?_⟩;refine hN _ _ ?_;clear hN N)))
 refine eV (.inl rfl) (vs:=[.agg (aa p)]) (sd @aa.eq_1) ?_
 exact⟨_,[],rfl,⟨rfl,rfl⟩,⟨List.nodup_nil,fun i hi=>by cases hi⟩,⟨by(try dsimp only);omega,fun j hj=>by
  have h1:=dr hj
  simp only[go_sem, ↓reduceIte,Nat.reduceEqDiff,Nat.reduceAdd,Nat.reduceSub,Nat.reduceLeDiff,reduceCtorEq,h1]⟩⟩
theorem IG (xs:List fQ) (h:xs.length<=1048576) (σ:au):Call Tryz.prog 102 [.sl (xs.map cq)] σ (Jh (jq cq) 2 xs σ):=
 wb Cn (show lV Tryz.prog 102=some (qI 102 161 2 [.str [],.int .i64 0]) by kernel_rfl) rfl (fun _=>rfl) xs h (fun x _ σ=>LI x σ) σ
theorem II (xs:List fh) (h:xs.length<=1048576) (hs:∀t∈xs,tn t) (σ:au):Call Tryz.prog 103 [.sl (xs.map bJ)] σ (Jh oR 2 xs σ):=
 wb rQ (show lV Tryz.prog 103=some (qI 103 162 2 [.str [],.bD]) by kernel_rfl) rfl (fun _=>rfl) xs h (fun x hx σ=>LN x (hs x hx) σ) σ
theorem DH (xs:List ab) (h:xs.length<=1048576) (σ:au):Call Tryz.prog 62 [.sl (xs.map aa)] σ (Jh (jq aa) 3 xs σ):=
 wb mO (show lV Tryz.prog 62=some (qI 62 104 3 [.int .i64 0,.int .i64 0,.int .i64 0]) by kernel_rfl) rfl (fun _=>rfl) xs h (fun x _ σ=>FV x σ) σ
def DZ (g:Rows) (v:AV) (a:gF) (ids:List Id):Prop:=∃x,v=.agg [x]/\gP (jq aa) 3 g x a.ai ids
structure Ac (g:Rows) (v:AV) (s:aw) (ids:List Id):Prop where
 ex:∃a b c i1 i2 i3,v=.agg [a,b,c,.int .i64 s.ay]/\gP (jq cq) 2 g a s.aI.aB i1/\gP oR 2 g b s.aI.ai i2/\gP (jq aa) 3 g c s.bh.ai i3/\ids=i1++(i2++i3)
theorem DZ.frame {g g':Rows} {v:AV} {a:gF} {ids:List Id} (h:DZ g v a ids) (hf:∀i∈ids,g' i=g i):DZ g' v a ids:=by
 obtain⟨x,h1,h2⟩:=h
 exact⟨x,h1,h2.frame mO hf⟩
theorem Ac.frame {g g':Rows} {v:AV} {s:aw} {ids:List Id} (h:Ac g v s ids) (hf:∀i∈ids,g' i=g i):Ac g' v s ids:=by
 obtain⟨a,b,c,i1,i2,i3,h1,h2,h3,h4,rfl⟩:=h.ex
 exact⟨a,b,c,i1,i2,i3,h1,h2.frame Cn fun i hi=>hf i (by simp[hi]),h3.frame rQ fun i hi=>hf i (by simp[hi]),h4.frame mO fun i hi=>hf i (by simp[hi]),rfl⟩
theorem DZ.fz {g:Rows} {v:AV} {a:gF} {ids:List Id} (n:Nat) (h:DZ g v a ids):V.fz (dX g) (n+4) v=some (.agg (dP a)):=by
 obtain⟨x,rfl,h2⟩:=h
 have h3:=h2.fz (n:=n+2) (e:=aa) fun hc=>by rw[hc.1];simp[aa,ae,aj,aJ]
 simp only[bf,ae,aj,h3,Option.map_some,dP]
theorem Ac.fz {g:Rows} {v:AV} {s:aw} {ids:List Id} (n:Nat) (h:Ac g v s ids):V.fz (dX g) (n+5) v=some (.agg (ar s)):=by
 obtain⟨a,b,c,i1,i2,i3,rfl,h2,h3,h4,rfl⟩:=h.ex
 have q1:=h2.fz (n:=n+3) (e:=cq) fun hc=>by rw[hc.1];simp[cq,ae,aj,aJ,bG]
 have q2:=h3.fz (n:=n+3) (e:=bJ) fun hc=>NW (n+1) hc
 have q3:=h4.fz (n:=n+3) (e:=aa) fun hc=>by rw[hc.1];simp[aa,ae,aj,aJ]
 simp only[bf,ae,aj,q1,q2,q3,aJ,Option.map_some,ar]
theorem Bk (p:gF) (hs:p.ai.length<=1048576) (σ:au):Call Tryz.prog 18 [.agg (dP p)] σ (fun r σ'=>∃ids,DZ σ'.get r p ids/\gQ σ.next σ'.next ids/\Kept σ σ'):=by
 refine eJ eF rfl fun hl=>?_
 clear hl
 (try((repeat(revert hN;revert N;apply Pn.out));refine wk @dP.eq_1 ?_;(repeat(refine Pn.mk ?_;intro N hN))))
 refine .inr (aE _ _ _ _ _ (fun r σ1 hq=>?_) (DH p.ai hs _))
 obtain⟨ids,hR,hI,hK⟩:=hq
 obtain⟨g1,x1⟩:=σ1
 (try dsimp only at hR hI hK)
 have hn:=hK.1
 obtain⟨o,rows,is,rfl,hg,VF,rfl⟩:=hR
 refine hN _ _ ?_
 clear hN N
 have k2:=hK.2 ⟨18000001,σ.next⟩ (by(try dsimp only);omega)
 have k3:=hK.2 ⟨18001000,σ.next+1⟩ (by(try dsimp only);omega)
 simp only[go_sem, ↓reduceIte,Nat.reduceEqDiff,Nat.reduceAdd,Nat.reduceSub,Nat.reduceLeDiff,reduceCtorEq]at k2 k3
 (try((repeat(revert hN;revert N;apply Pn.out));refine wk (tw @dP.eq_1 (tw @k2 @k3)) ?_;(repeat(refine Pn.mk ?_;intro N hN))))
 refine eV (.inl rfl) (vs:=[.agg [.own o 0 p.ai.length]]) (sd @Nat.zero_add) ?_
 have hb:=hI.2
 (try dsimp only at hb hn)
 refine⟨_,⟨_,rfl,gP.frame mO ⟨o,rows,is,rfl,hg,VF,rfl⟩ fun j hj=>?_⟩,⟨hI.1,fun j hj=>?_⟩,⟨?_,fun j hj=>?_⟩⟩
 ·have V5:=hb j hj
  have i2:=cm (b:=j) (a:=⟨18000001,σ.next⟩) (by(try dsimp only);omega)
  have i3:=cm (b:=j) (a:=⟨18001000,σ.next+1⟩) (by(try dsimp only);omega)
  simp only[go_sem, ↓reduceIte,Nat.reduceEqDiff,Nat.reduceAdd,Nat.reduceSub,Nat.reduceLeDiff,reduceCtorEq,i2,i3]
 ·have:=hb j hj
  (try dsimp only);omega
 ·(try dsimp only);omega
 ·have h2:=hK.2 j (by(try dsimp only);omega)
  have h1:=dr hj
  simp only[go_sem, ↓reduceIte,Nat.reduceEqDiff,Nat.reduceAdd,Nat.reduceSub,Nat.reduceLeDiff,reduceCtorEq,h1]at h2
  simp only[go_sem, ↓reduceIte,Nat.reduceEqDiff,Nat.reduceAdd,Nat.reduceSub,Nat.reduceLeDiff,reduceCtorEq,h1,h2]
theorem DJ (p:ax) (hs:Jm p) (σ:au):Call Tryz.prog 61 [.agg (ad p)] σ (fun r σ'=>∃a b i1 i2,r=.agg [a,b]/\gP (jq cq) 2 σ'.get a p.aB i1/\gP oR 2 σ'.get b p.ai i2/\gQ σ.next σ'.next (i1++i2)/\Kept σ σ'):=by
 refine eJ eF rfl fun hl=>?_
 clear hl
 (try((repeat(revert hN;revert N;apply Pn.out));refine wk @ad.eq_1 ?_;(repeat(refine Pn.mk ?_;intro N hN))))
 refine .inr (aE _ _ _ _ _ (fun r σ1 hq=>?_) (IG p.aB hs.g _))
 obtain⟨i1,hR,hI,hK⟩:=hq
 obtain⟨g1,x1⟩:=σ1
 (try dsimp only at hR hI hK)
 have hn:=hK.1
 obtain⟨o,rows,is,rfl,hg,VF,rfl⟩:=hR
 have hb:=hI.2
 (try dsimp only at hb hn)
 refine hN _ _ ?_
 clear hN N
 have k1:=hK.2 ⟨61000000,σ.next⟩ (by(try dsimp only);omega)
 have k2:=hK.2 ⟨61000001,σ.next⟩ (by(try dsimp only);omega)
 have k3:=hK.2 ⟨61001000,σ.next+1⟩ (by(try dsimp only);omega)
 simp only[go_sem, ↓reduceIte,Nat.reduceEqDiff,Nat.reduceAdd,Nat.reduceSub,Nat.reduceLeDiff,reduceCtorEq]at k1 k2 k3
 (try((repeat(revert hN;revert N;apply Pn.out));refine wk (tw @ad.eq_1 (tw @k1 (tw @k2 @k3))) ?_;(repeat(refine Pn.mk ?_;intro N hN))))
 refine .inr (aE _ _ _ _ _ (fun r σ2 hq=>?_) (II p.ai hs.t hs.s _))
 obtain⟨i2,hS,hJ,hL⟩:=hq
 obtain⟨g2,x2⟩:=σ2
 (try dsimp only at hS hJ hL)
 have EU:=hL.1
 obtain⟨o2,OO,is2,rfl,SJ,hS',rfl⟩:=hS
 have hc:=hJ.2
 (try dsimp only at hc EU)
 refine hN _ _ ?_
 clear hN N
 have l2:=hL.2 ⟨61000001,σ.next⟩ (by(try dsimp only);omega)
 have l3:=hL.2 ⟨61001000,σ.next+1⟩ (by(try dsimp only);omega)
 simp only[go_sem, ↓reduceIte,Nat.reduceEqDiff,Nat.reduceAdd,Nat.reduceSub,Nat.reduceLeDiff,reduceCtorEq,k2,k3]at l2 l3
 (try((repeat(revert hN;revert N;apply Pn.out));refine wk (tw @ad.eq_1 (tw @l2 @l3)) ?_;(repeat(refine Pn.mk ?_;intro N hN))))
 refine eV (.inl rfl) (vs:=[.agg [.own o 0 p.aB.length,.own o2 0 p.ai.length]]) (sd @Nat.zero_add) ?_
 have fr:∀x:Id,σ.next+2<=x.bE->(x=⟨61000001,σ.next⟩)=False/\(x=⟨61001000,σ.next+1⟩)=False:=fun x hx=>⟨(cm (a:=⟨61000001,σ.next⟩) (b:=x) (by(try dsimp only);omega)).2,(cm (a:=⟨61001000,σ.next+1⟩) (b:=x) (by(try dsimp only);omega)).2⟩
 refine⟨_,_,_,_,rfl,gP.frame (g:=g1) Cn ⟨o,rows,is,rfl,hg,VF,rfl⟩ fun i hi=>?_,gP.frame (g:=g2) rQ ⟨o2,OO,is2,rfl,SJ,hS',rfl⟩ fun i hi=>?_,?_,⟨by(try dsimp only);omega,fun j hj=>?_⟩⟩
 ·have h1:=hb i hi
  have h2:=hL.2 i (by(try dsimp only);omega)
  have h3:=fr i (by omega)
  simp only[go_sem, ↓reduceIte,Nat.reduceEqDiff,Nat.reduceAdd,Nat.reduceSub,Nat.reduceLeDiff,reduceCtorEq,h3]at h2
  simp only[go_sem, ↓reduceIte,Nat.reduceEqDiff,Nat.reduceAdd,Nat.reduceSub,Nat.reduceLeDiff,reduceCtorEq,h2,h3]
 ·have h1:=hc i hi
  have h3:=fr i (by omega)
  simp only[go_sem, ↓reduceIte,Nat.reduceEqDiff,Nat.reduceAdd,Nat.reduceSub,Nat.reduceLeDiff,reduceCtorEq,h3]
 ·(try dsimp only at *)
  exact(hI.app hJ (by omega) (by omega) (by omega)).wide (by omega) (by omega)
 ·have h1:=dr hj
  have h2:=hL.2 j (by(try dsimp only);omega)
  have h3:=hK.2 j (by(try dsimp only);omega)
  simp only[go_sem, ↓reduceIte,Nat.reduceEqDiff,Nat.reduceAdd,Nat.reduceSub,Nat.reduceLeDiff,reduceCtorEq,h1]at h2 h3
  simp only[go_sem, ↓reduceIte,Nat.reduceEqDiff,Nat.reduceAdd,Nat.reduceSub,Nat.reduceLeDiff,reduceCtorEq,h1,h2,h3]
theorem yc (p:aw) (hs:mK p) (σ:au):Call Tryz.prog 17 [.agg (ar p)] σ (fun r σ'=>∃ids,Ac σ'.get r p ids/\gQ σ.next σ'.next ids/\Kept σ σ'):=by
 refine eJ eF rfl fun hl=>?_
 clear hl
 have t1:=fun σ=>DJ p.aI hs.s σ
 have t2:=fun σ=>Bk p.bh hs.a σ
 rw[ad]at t1
 rw[dP]at t2
 (try((repeat(revert hN;revert N;apply Pn.out));refine wk @ar.eq_1 ?_;(repeat(refine Pn.mk ?_;intro N hN))))
 refine .inr (aE _ _ _ _ _ (fun r σ1 hq=>?_) (t1 _))
 obtain⟨a,b,i1,i2,rfl,hA,hB,hI,hK⟩:=hq
 obtain⟨g1,x1⟩:=σ1
 (try dsimp only at hA hB hI hK)
 have hn:=hK.1
 have hb:=hI.2
 (try dsimp only at hb hn)
 refine hN _ _ ?_
 clear hN N
 have k1:=hK.2 ⟨17000000,σ.next⟩ (by(try dsimp only);omega)
 have k2:=hK.2 ⟨17000001,σ.next⟩ (by(try dsimp only);omega)
 have k3:=hK.2 ⟨17001000,σ.next+1⟩ (by(try dsimp only);omega)
 simp only[go_sem, ↓reduceIte,Nat.reduceEqDiff,Nat.reduceAdd,Nat.reduceSub,Nat.reduceLeDiff,reduceCtorEq]at k1 k2 k3
 obtain⟨oa,rfl⟩:=hA.jn
 obtain⟨ob,rfl⟩:=hB.jn
 (try((repeat(revert hN;revert N;apply Pn.out));refine wk (tw @ar.eq_1 (tw @k1 (tw @k2 @k3))) ?_;(repeat(refine Pn.mk ?_;intro N hN))))
 refine .inr (aE _ _ _ _ _ (fun r σ2 hq=>?_) (t2 _))
 obtain⟨i3,hC,hJ,hL⟩:=hq
 obtain⟨g2,x2⟩:=σ2
 (try dsimp only at hC hJ hL)
 have EU:=hL.1
 have hc:=hJ.2
 (try dsimp only at hc EU)
 obtain⟨c,rfl,hC⟩:=hC
 obtain⟨oc,rfl⟩:=hC.jn
 refine hN _ _ ?_
 clear hN N
 have l1:=hL.2 ⟨17000000,σ.next⟩ (by(try dsimp only);omega)
 have l2:=hL.2 ⟨17000001,σ.next⟩ (by(try dsimp only);omega)
 have l3:=hL.2 ⟨17001000,σ.next+1⟩ (by(try dsimp only);omega)
 simp only[go_sem, ↓reduceIte,Nat.reduceEqDiff,Nat.reduceAdd,Nat.reduceSub,Nat.reduceLeDiff,reduceCtorEq,k1,k2,k3]at l1 l2 l3
 (try((repeat(revert hN;revert N;apply Pn.out));refine wk (tw @ar.eq_1 (tw @l1 (tw @l2 @l3))) ?_;(repeat(refine Pn.mk ?_;intro N hN))))
 refine eV (.inl rfl) (vs:=[.agg [.own oa 0 p.aI.aB.length,.own ob 0 p.aI.ai.length,.own oc 0 p.bh.ai.length,.int .i64 p.ay]]) (sd @Nat.zero_add) ?_
 have fr:∀x:Id,σ.next+2<=x.bE->(x=⟨17000001,σ.next⟩)=False/\(x=⟨17001000,σ.next+1⟩)=False:=fun x hx=>⟨(cm (a:=⟨17000001,σ.next⟩) (b:=x) (by(try dsimp only);omega)).2,(cm (a:=⟨17001000,σ.next+1⟩) (b:=x) (by(try dsimp only);omega)).2⟩
 have fr2:∀i∈i1++i2,g2 i=g1 i:=fun i hi=>by
  have h1:=hb i hi
  have h2:=hL.2 i (by(try dsimp only);omega)
  have h3:=fr i (by omega)
  simp only[go_sem, ↓reduceIte,Nat.reduceEqDiff,Nat.reduceAdd,Nat.reduceSub,Nat.reduceLeDiff,reduceCtorEq,h3]at h2
  exact h2
 refine⟨i1++(i2++i3),⟨_,_,_,i1,i2,i3,rfl,hA.frame Cn fun i hi=>?_,hB.frame rQ fun i hi=>?_,hC.frame mO fun i hi=>?_,rfl⟩,?_,⟨by(try dsimp only);omega,fun j hj=>?_⟩⟩
 ·have h1:=hb i (by simp[hi])
  have h2:=fr2 i (by simp[hi])
  have h3:=fr i (by omega)
  simp only[go_sem, ↓reduceIte,Nat.reduceEqDiff,Nat.reduceAdd,Nat.reduceSub,Nat.reduceLeDiff,reduceCtorEq,h2,h3]
 ·have h1:=hb i (by simp[hi])
  have h2:=fr2 i (by simp[hi])
  have h3:=fr i (by omega)
  simp only[go_sem, ↓reduceIte,Nat.reduceEqDiff,Nat.reduceAdd,Nat.reduceSub,Nat.reduceLeDiff,reduceCtorEq,h2,h3]
 ·have h1:=hc i hi
  have h3:=fr i (by omega)
  simp only[go_sem, ↓reduceIte,Nat.reduceEqDiff,Nat.reduceAdd,Nat.reduceSub,Nat.reduceLeDiff,reduceCtorEq,h3]
 ·(try dsimp only at *)
  rw[<-List.append_assoc]
  exact(hI.app hJ (by omega) (by omega) (by omega)).wide (by omega) (by omega)
 ·have h1:=dr hj
  have h2:=hL.2 j (by(try dsimp only);omega)
  have h3:=hK.2 j (by(try dsimp only);omega)
  simp only[go_sem, ↓reduceIte,Nat.reduceEqDiff,Nat.reduceAdd,Nat.reduceSub,Nat.reduceLeDiff,reduceCtorEq,h1]at h2 h3
  simp only[go_sem, ↓reduceIte,Nat.reduceEqDiff,Nat.reduceAdd,Nat.reduceSub,Nat.reduceLeDiff,reduceCtorEq,h1,h2,h3]
end Go.Proofs.YtgoelphibofcmaaGreat.V

namespace Go.Proofs.YtgoelphibofcmaaGreat
open Go.RowKit
def lq (n:Int):Bool:=(decide (97<=n)&&decide (n<=122))||(decide (65<=n)&&decide (n<=90))
def lO (n:Int):Bool:=decide (48<=n)&&decide (n<=57)
def uQ (i:Nat) (n:Int):Prop:=lq n=true∨(0<i/\(lO n=true∨n=95))
def wq (s:ByteArray):Prop:=(1<=s.size/\s.size<=12)/\∀i (h:i<s.size),uQ i s[i].toNat
open Classical in
noncomputable def jZ (s:ByteArray):Bool:=decide (wq s)
theorem Fk {s:ByteArray} (h:wq s):true=jZ s:=by simp[jZ,h]
theorem eG {s:ByteArray} (h:¬wq s):false=jZ s:=by simp[jZ,h]
theorem Da {s:ByteArray} {b:Bool} (hb:b=true) (h:wq s):b=jZ s:=by simp[jZ,h,hb]
theorem sF {s:ByteArray} {b:Bool} (hb:b=false) (h:¬wq s):b=jZ s:=by simp[jZ,h,hb]
theorem xu (w:World) (n:Int):Calls Tryz.prog 212 #[.int .u8 n] w fun e w'=>e=.returned (.bool (lq n))/\w=w':=by
 go_enter Tryz.func212,Tryz.ntmps212
 go_wp2_with fail
 all_goals
  go_ret
  exact⟨iT (by unfold lq;simp[*];try omega),rfl⟩
theorem Hp (w:World) (n:Int):Calls Tryz.prog 213 #[.int .u8 n] w fun e w'=>e=.returned (.bool (lO n))/\w=w':=by
 go_enter Tryz.func213,Tryz.ntmps213
 go_wp2_with fail
 all_goals
  go_ret
  exact⟨iT (by unfold lO;simp[*];try omega),rfl⟩
theorem Ds (w:World) (s:ByteArray) (hs:s.size<=9223372036854775807):Calls Tryz.prog 189 #[.string s] w fun e w'=>e=.returned (.bool (jZ s))/\Below w.heap.size w w':=by
 by_cases h1:1<=s.size
 case neg=>
  go_enter Tryz.func189,Tryz.ntmps189
  go_wp2_with fail
  go_ret
  exact⟨iT (eG fun h=>h1 h.1.1),Below.refl _ _⟩
 by_cases h2:s.size<=12
 case neg=>
  go_enter Tryz.func189,Tryz.ntmps189
  go_wp2_with fail
  go_ret
  exact⟨iT (eG fun h=>h2 h.1.2),Below.refl _ _⟩
 go_enter Tryz.func189,Tryz.ntmps189
 go_wp2_with fail
 refine(xu _ _).mono ?_
 rintro e w' ⟨rfl,rfl⟩
 cases h3:lq s[0].toNat
 ·go_wp2_with fail
  go_ret
  exact⟨iT (eG fun h=>by have:=h.2 0 (by omega);simp only[uQ]at this;rw[h3]at this;simp at this),Below.refl _ _⟩
 ·replace h3:=Lib.hid h3
  go_wp2_with fail
  go_loop [3] (fun i=>∃k:Nat,1<=k/\k<=s.size/\i=.int .i64 k/\Hid (∀j (h:j<s.size),j<k->uQ j s[j].toNat)) (fun i=>s.size-(intOf i).toNat)
  case atStart=>exact⟨1,by omega,by omega,rfl,Lib.hid fun j h hj=>by
   obtain rfl:j=0:=by omega
   exact .inl h3.out⟩
  case round=>
   obtain⟨k,yk,hk,rfl,dx⟩:=hrel
   by_cases ew:k<s.size
   ·go_wp2_with fail
    refine(xu _ _).mono ?_
    rintro e w' ⟨rfl,rfl⟩
    have kq:uQ k s[k].toNat∨¬uQ k s[k].toNat:=Classical.em _
    cases hl:lq s[k].toNat
    ·go_wp2_with fail
     refine(Hp _ _).mono ?_
     rintro e w' ⟨rfl,rfl⟩
     cases hd:lO s[k].toNat
     ·by_cases vM:(s[k].toNat:Int)=95
      ·have Vl:((s[k].toNat:Int) !=95)=false:=by simp;omega
       replace vM:=Lib.hid vM
       replace hl:=Lib.hid hl
       replace hd:=Lib.hid hd
       go_wp2_with fail
       go_round
       case rel=>exact⟨k+1,by omega,by omega,by go_num,Lib.hid fun j h hj=>by
        by_cases xj:j=k
        ·subst xj;exact .inr ⟨by omega,.inr vM.out⟩
        ·exact dx.out j h (by omega)⟩
       case measure=>simp[intOf];omega
      ·have Vl:((s[k].toNat:Int) !=95)=true:=by simp;omega
       replace vM:=Lib.hid vM
       replace hl:=Lib.hid hl
       replace hd:=Lib.hid hd
       go_wp2_with fail
       go_ret
       exact⟨iT (eG fun h=>by
        have:=h.2 k ew;simp only[uQ,hl.out,hd.out]at this;exact vM.out (by simp at this;exact this.2)),Below.refl _ _⟩
     ·replace hl:=Lib.hid hl
      replace hd:=Lib.hid hd
      go_wp2_with fail
      go_round
      case rel=>exact⟨k+1,by omega,by omega,by go_num,Lib.hid fun j h hj=>by
       by_cases xj:j=k
       ·subst xj;exact .inr ⟨by omega,.inl hd.out⟩
       ·exact dx.out j h (by omega)⟩
      case measure=>simp[intOf];omega
    ·replace hl:=Lib.hid hl
     go_wp2_with fail
     go_round
     case rel=>exact⟨k+1,by omega,by omega,by go_num,Lib.hid fun j h hj=>by
      by_cases xj:j=k
      ·subst xj;exact .inl hl.out
      ·exact dx.out j h (by omega)⟩
     case measure=>simp[intOf];omega
   ·go_wp2_with fail
    go_ret
    exact⟨iT (Fk ⟨⟨h1,h2⟩,fun i h=>dx.out i h (by omega)⟩),Below.refl _ _⟩
theorem CJ (w:World) (s:ByteArray) (hs:s.size<=9223372036854775807):Calls Tryz.prog 198 #[.string s] w fun e w'=>e=.returned (.bool (jZ s))/\w=w':=by
 go_enter Tryz.func198,Tryz.ntmps198
 go_wp2_with fail
 go_loop [8] (fun i=>∃k:Nat,k<=s.size/\i=.int .i64 k/\Hid (∀j (h:j<s.size),j<k->uQ j s[j].toNat)) (fun i=>s.size-(intOf i).toNat)
 case atStart=>exact⟨0,by omega,rfl,Lib.hid fun j h hj=>by omega⟩
 case round=>
  obtain⟨k,hk,rfl,dx⟩:=hrel
  by_cases ew:k<s.size
  ·have hc:(s[k].toNat:Int)<48∨(48<=(s[k].toNat:Int)/\(s[k].toNat:Int)<=57)∨(58<=(s[k].toNat:Int)/\(s[k].toNat:Int)<=64)∨(65<=(s[k].toNat:Int)/\(s[k].toNat:Int)<=90)∨(91<=(s[k].toNat:Int)/\(s[k].toNat:Int)<=94)∨(95<=(s[k].toNat:Int)/\(s[k].toNat:Int)<=95)∨(96<=(s[k].toNat:Int)/\(s[k].toNat:Int)<=96)∨(97<=(s[k].toNat:Int)/\(s[k].toNat:Int)<=122)∨123<=(s[k].toNat:Int):=by omega
   by_cases yj:k=0
   ·subst yj
    rcases hc with h|⟨h,h'⟩|⟨h,h'⟩|⟨h,h'⟩|⟨h,h'⟩|⟨h,h'⟩|⟨h,h'⟩|⟨h,h'⟩|h
    ·have vM:((s[0].toNat:Int) !=95)=true:=by simp;try omega
     go_wp2_with fail
     all_goals first
      |(go_ret;exact⟨iT (eG fun hh=>by have:=hh.2 0 ew;simp[uQ,lq,lO]at this;omega),rfl⟩)
      |(exfalso;simp_all;done)
      |(exfalso;simp_all;omega)
    ·have vM:((s[0].toNat:Int) !=95)=true:=by simp;try omega
     go_wp2_with fail
     all_goals first
      |(go_ret;exact⟨iT (eG fun hh=>by have:=hh.2 0 ew;simp[uQ,lq,lO]at this;omega),rfl⟩)
      |(exfalso;simp_all;done)
      |(exfalso;simp_all;omega)
    ·have vM:((s[0].toNat:Int) !=95)=true:=by simp;try omega
     go_wp2_with fail
     all_goals first
      |(go_ret;exact⟨iT (eG fun hh=>by have:=hh.2 0 ew;simp[uQ,lq,lO]at this;omega),rfl⟩)
      |(exfalso;simp_all;done)
      |(exfalso;simp_all;omega)
    ·have vM:((s[0].toNat:Int) !=95)=true:=by simp;try omega
     go_wp2_with fail
     go_round
     case rel=>exact⟨0+1,by omega,by go_num,Lib.hid fun j hj xj=>by
      by_cases Ke:j=0
      ·subst Ke;simp[uQ,lq,lO];omega
      ·exact dx.out j hj (by omega)⟩
     case measure=>simp[intOf];try omega
    ·have vM:((s[0].toNat:Int) !=95)=true:=by simp;try omega
     go_wp2_with fail
     all_goals first
      |(go_ret;exact⟨iT (eG fun hh=>by have:=hh.2 0 ew;simp[uQ,lq,lO]at this;omega),rfl⟩)
      |(exfalso;simp_all;done)
      |(exfalso;simp_all;omega)
    ·have vM:((s[0].toNat:Int) !=95)=false:=by simp;try omega
     go_wp2_with fail
     all_goals first
      |(go_ret;exact⟨iT (eG fun hh=>by have:=hh.2 0 ew;simp[uQ,lq,lO]at this;omega),rfl⟩)
      |(exfalso;simp_all;done)
      |(exfalso;simp_all;omega)
    ·have vM:((s[0].toNat:Int) !=95)=true:=by simp;try omega
     go_wp2_with fail
     all_goals first
      |(go_ret;exact⟨iT (eG fun hh=>by have:=hh.2 0 ew;simp[uQ,lq,lO]at this;omega),rfl⟩)
      |(exfalso;simp_all;done)
      |(exfalso;simp_all;omega)
    ·have vM:((s[0].toNat:Int) !=95)=true:=by simp;try omega
     go_wp2_with fail
     go_round
     case rel=>exact⟨0+1,by omega,by go_num,Lib.hid fun j hj xj=>by
      by_cases Ke:j=0
      ·subst Ke;simp[uQ,lq,lO];omega
      ·exact dx.out j hj (by omega)⟩
     case measure=>simp[intOf];try omega
    ·have vM:((s[0].toNat:Int) !=95)=true:=by simp;try omega
     go_wp2_with fail
     all_goals first
      |(go_ret;exact⟨iT (eG fun hh=>by have:=hh.2 0 ew;simp[uQ,lq,lO]at this;omega),rfl⟩)
      |(exfalso;simp_all;done)
      |(exfalso;simp_all;omega)
   ·have hz:((k:Int)==0)=false:=by simpa using yj
    have yk:1<=k:=by omega
    clear yj
    rcases hc with h|⟨h,h'⟩|⟨h,h'⟩|⟨h,h'⟩|⟨h,h'⟩|⟨h,h'⟩|⟨h,h'⟩|⟨h,h'⟩|h
    ·have vM:((s[k].toNat:Int) !=95)=true:=by simp;try omega
     go_wp2_with fail
     all_goals first
      |(go_ret;exact⟨iT (eG fun hh=>by have:=hh.2 k ew;simp[uQ,lq,lO]at this;omega),rfl⟩)
      |(exfalso;simp_all;done)
      |(exfalso;simp_all;omega)
    ·have vM:((s[k].toNat:Int) !=95)=true:=by simp;try omega
     go_wp2_with fail
     go_round
     case rel=>exact⟨k+1,by omega,by go_num,Lib.hid fun j hj xj=>by
      by_cases Ke:j=k
      ·subst Ke;simp[uQ,lq,lO];omega
      ·exact dx.out j hj (by omega)⟩
     case measure=>simp[intOf];try omega
    ·have vM:((s[k].toNat:Int) !=95)=true:=by simp;try omega
     go_wp2_with fail
     all_goals first
      |(go_ret;exact⟨iT (eG fun hh=>by have:=hh.2 k ew;simp[uQ,lq,lO]at this;omega),rfl⟩)
      |(exfalso;simp_all;done)
      |(exfalso;simp_all;omega)
    ·have vM:((s[k].toNat:Int) !=95)=true:=by simp;try omega
     go_wp2_with fail
     go_round
     case rel=>exact⟨k+1,by omega,by go_num,Lib.hid fun j hj xj=>by
      by_cases Ke:j=k
      ·subst Ke;simp[uQ,lq,lO];omega
      ·exact dx.out j hj (by omega)⟩
     case measure=>simp[intOf];try omega
    ·have vM:((s[k].toNat:Int) !=95)=true:=by simp;try omega
     go_wp2_with fail
     all_goals first
      |(go_ret;exact⟨iT (eG fun hh=>by have:=hh.2 k ew;simp[uQ,lq,lO]at this;omega),rfl⟩)
      |(exfalso;simp_all;done)
      |(exfalso;simp_all;omega)
    ·have vM:((s[k].toNat:Int) !=95)=false:=by simp;try omega
     go_wp2_with fail
     go_round
     case rel=>exact⟨k+1,by omega,by go_num,Lib.hid fun j hj xj=>by
      by_cases Ke:j=k
      ·subst Ke;simp[uQ,lq,lO];omega
      ·exact dx.out j hj (by omega)⟩
     case measure=>simp[intOf];try omega
    ·have vM:((s[k].toNat:Int) !=95)=true:=by simp;try omega
     go_wp2_with fail
     all_goals first
      |(go_ret;exact⟨iT (eG fun hh=>by have:=hh.2 k ew;simp[uQ,lq,lO]at this;omega),rfl⟩)
      |(exfalso;simp_all;done)
      |(exfalso;simp_all;omega)
    ·have vM:((s[k].toNat:Int) !=95)=true:=by simp;try omega
     go_wp2_with fail
     go_round
     case rel=>exact⟨k+1,by omega,by go_num,Lib.hid fun j hj xj=>by
      by_cases Ke:j=k
      ·subst Ke;simp[uQ,lq,lO];omega
      ·exact dx.out j hj (by omega)⟩
     case measure=>simp[intOf];try omega
    ·have vM:((s[k].toNat:Int) !=95)=true:=by simp;try omega
     go_wp2_with fail
     all_goals first
      |(go_ret;exact⟨iT (eG fun hh=>by have:=hh.2 k ew;simp[uQ,lq,lO]at this;omega),rfl⟩)
      |(exfalso;simp_all;done)
      |(exfalso;simp_all;omega)
  ·by_cases h1:1<=s.size
   ·by_cases h2:s.size<=12
    ·go_wp2_with fail
     go_ret
     exact⟨iT (Da (by simp<;>omega) ⟨⟨h1,h2⟩,fun i h=>dx.out i h (by omega)⟩),rfl⟩
    ·go_wp2_with fail
     go_ret
     exact⟨iT (sF (by simp<;>omega) fun h=>h2 h.1.2),rfl⟩
   ·go_wp2_with fail
    go_ret
    exact⟨iT (sF (by simp<;>omega) fun h=>h1 h.1.1),rfl⟩
end Go.Proofs.YtgoelphibofcmaaGreat

namespace Go.Proofs.YtgoelphibofcmaaGreat.V
open Go.RowKit
theorem mixed:Tryz.prog.follows .mixedOrders=true:=by kernel_rfl
variable {P:Program} {w:World} {D:Nat->Prop} {ι:Names}
theorem mo {f:Nat} {args:List AV} {r:AV} {vs0:Array Value} {u0:Value} (mQ:∀(w:World) (D:Nat->Prop) (ι:Names) vs,fF P w D ι args vs->vs=vs0) (hr:∀(w:World) (D:Nat->Prop) (ι:Names),di P w D ι r u0) (Cz:∀g,gK g 6 r=some r)
  (h:∀w,Calls P f vs0 w fun e w'=>e=.returned u0/\Below w.heap.size w w'):aq P f args r:=by
 intro n
 refine ig fun hs D ι w vs S U A=>?_
 have:=mQ w D ι vs A
 subst this
 refine(h w).mono ?_
 rintro e w' ⟨rfl,hb⟩
 exact⟨r,_,n,D,ι,u0,rfl,⟨r,Cz _,rfl⟩,Step.stay S hb.block hb.size hb.os hb.tape hb.output (fun _ h=>h) (fun _ h=>.inl h) (fun _ _ h=>h),
  S.stay hb.block hb.size (fun _ h=>h) (fun b hd=>Nat.lt_of_lt_of_le (S.dead b hd) hb.size) (fun _ h=>.inl h) (fun _ _ h=>h),U,Nat.le_refl _,hr _ _ _⟩
theorem Dp {s:ByteArray} {vs:Array Value} (h:fF P w D ι [.str s] vs):vs= #[.string s]:=by
 obtain⟨h1,h2⟩:=h
 obtain⟨u,hu,hr⟩:=h2 0 _ rfl
 rw[fR hr]at hu
 obtain⟨l⟩:=vs
 cases l with
 |nil=>simp at h1
 |cons a l=>cases l with
  |nil=>simp at hu;subst hu;rfl
  |cons b l=>simp at h1
theorem GR (s:ByteArray) (hs:s.size<=9223372036854775807):aq Tryz.prog 189 [.str s] (.bool (jZ s)):=
 mo (fun _ _ _ _=>Dp) (fun _ _ _=>.eZ _ _ (.bool _)) (fun g=>gh g 5 _) fun w=>Ds w s hs
theorem GA (s:ByteArray) (hs:s.size<=9223372036854775807):aq Tryz.prog 198 [.str s] (.bool (jZ s)):=
 mo (fun _ _ _ _=>Dp) (fun _ _ _=>.eZ _ _ (.bool _)) (fun g=>gh g 5 _) fun w=>(CJ w s hs).mono (by rintro e w' ⟨rfl,rfl⟩;exact⟨rfl,Below.refl _ _⟩)
end Go.Proofs.YtgoelphibofcmaaGreat.V

namespace Go.Proofs.YtgoelphibofcmaaGreat
open Go.RowKit
def uS (n:Nat):List UInt8:=if h:n=0 then[]else uS (n / 10)++[UInt8.ofNat (48+n % 10)]
termination_by n
decreasing_by omega
def pq (k:Int):ByteArray:=if k<=0 then⟨#[109,48]⟩else⟨(109::uS k.toNat).toArray⟩
theorem Hq:uS 0=[]:=by unfold uS;simp
theorem JG {n:Nat} (h:n≠0):uS n=uS (n / 10)++[UInt8.ofNat (48+n % 10)]:=by
 conv=>lhs;unfold uS
 rw[dif_neg h]
theorem zd (c:UInt8) (l:ByteArray):((⟨#[c]⟩++l:ByteArray)).data.toList=c::l.data.toList:=by
 simp[ByteArray.data_append]
theorem Cd:∀(m n:Nat),n<10 ^ m->(uS n).length<=m
 |0,n,h=>by
  have:n=0:=by simpa using h
  subst this;simp[uS]
 |m+1,n,h=>by
  unfold uS
  split
  ·simp
  ·have:=Cd m (n / 10) (by rw[Nat.pow_succ]at h;omega)
   simp;omega
theorem AP (w:World) (k:Int) (h0:0<=k) (h1:k<=4611686018427387904):
  Calls Tryz.prog 179 #[.int .i64 k] w fun e w'=>e=.returned (.string (pq k))/\Below w.heap.size w w':=by
 by_cases hk:k<=0
 ·go_enter Tryz.func179,Tryz.ntmps179
  go_wp2_with fail
  go_ret
  exact⟨by simp[pq,hk],Below.refl _ _⟩
 ·go_enter Tryz.func179,Tryz.ntmps179
  go_wp2_with fail
  go_loopw [0,3] (fun a s wr=>∃(j:Int) (l:ByteArray),a=.int .i64 j/\s=.string l/\0<=j/\j<=4611686018427387904/\Hid (uS j.toNat++l.data.toList=uS k.toNat)/\Below w.heap.size w wr) (fun a _ _=>(intOf a).toNat)
  case atStart=>exact⟨k,⟨#[]⟩,rfl,rfl,h0,h1,Lib.hid (by simp),Below.refl _ _⟩
  case round=>
   obtain⟨j,l,rfl,rfl,Uz,hj1,hd,hb⟩:=hrel
   have gq:l.size<=19:=by
    have h1:=congrArg List.length hd.out
    have h2:=Cd 19 k.toNat (by omega)
    rw[List.length_append]at h1
    have:l.data.toList.length=l.size:=by rw[Array.length_toList];rfl
    omega
   by_cases hj:0<j
   ·have Rs:∀v:Int,(convert 241 9 (.slice (some ⟨wr.heap.size,0,none⟩) 1 1)).run Tryz.prog (wr.alloc (.cells #[.int .u8 v] 5))=.ok (.string ⟨#[UInt8.ofNat v.toNat]⟩) (wr.alloc (.cells #[.int .u8 v] 5)):=by
     intro v
     rw[run_convert_bytes_string _ _ _ 5 _ _ _ Tryz.underlying241 Tryz.underlying5 Tryz.underlying9,run_bytesToString _ _ _ _ [v] (by simp[loadCells,loadCellsFrom,go_sem])]
     rfl
    have hr:=gq
    go_wp2_with fail
    go_roundw
    case rel=>
     refine⟨_,_,rfl,rfl,by omega,by omega,Lib.hid ?_,hb.alloc hb.size _⟩
     rw[<-hd.out,zd,JG (show j.toNat≠0 by omega),show(j / 10).toNat=j.toNat / 10 by omega,show(48+j % 10).toNat=48+j.toNat % 10 by omega]
     simp
    case measure=>simp[intOf];omega
   ·go_wp2_with fail
    go_ret
    refine⟨?_,hb⟩
    have h1:=hd.out
    rw[show j.toNat=0 by omega,Hq,List.nil_append]at h1
    have h2:(⟨#[109]⟩++l:ByteArray)=pq k:=by
     rw[pq,if_neg (by omega)]
     refine ByteArray.ext (Array.ext' ?_)
     rw[zd,h1]
    rw[h2];rfl
end Go.Proofs.YtgoelphibofcmaaGreat

namespace Go.Proofs.YtgoelphibofcmaaGreat.V
open Go.RowKit
attribute [local irreducible] dQ wpOps fX Call
attribute [local go_sem] aQ fM eU fY fW dm upd cG K.av cQ AV.cells AV.cell rowOf rowsOf part ld rowAt bQ cC dE ea gZ bS dh eo fV fj dB ef dd dc dS dU b4 bj cV bW cY cW ec eh ee cU ck de eb bV aU da cK gY bx cP cj bd dv bl dG AV.undef bH bK dW dZ dO dL cN ek eu cJ ej ei cZ db List.getD_cons_zero List.getD_cons_succ List.getD_nil List.all_cons List.all_nil Bool.and_true Bool.true_and Bool.and_self Bool.not_true Bool.not_false Option.map_some Option.map_none Option.bind_some Option.bind_none List.length_cons List.length_nil List.take_succ_cons List.take_zero List.take_nil List.drop_succ_cons List.drop_zero List.drop_nil List.head?_cons List.map_cons List.map_nil List.getElem?_cons_zero List.getElem?_cons_succ List.cons_append List.nil_append List.append_nil List.length_map List.set_cons_zero List.set_cons_succ Nat.reduceMul eq_self Int.toNat_natCast Int.natCast_nonneg and_self true_and and_true decide_true decide_false Bool.false_eq_true Nat.zero_add Nat.add_zero List.contains_cons List.contains_nil Bool.or_false Bool.false_or beq_self_eq_true Nat.reduceBEq ne_eq not_true_eq_false not_false_eq_true Id.mk.injEq false_and and_false Nat.reduceLT Int.reduceLE Int.reduceLT Int.reduceToNat Int.reduceNeg Int.reduceAdd Nat.le_refl List.length_append beq_true beq_false Bool.not_eq_eq_eq_not or_false false_or dX ae aj aJ bq bG cr aY bf aW bp cR bB
def ou (σ:au) (ids:List Id) (g:Rows) (n:Nat):Prop:=σ.next<=n/\∀x:Id,x.bE<σ.next->x∉ids->g x=σ.get x
theorem ou.trans {a b:au} {i j:List Id} {g:Rows} {n:Nat} (h:ou a i b.get b.next) (k:ou b j g n):ou a (i++j) g n:=
 ⟨Nat.le_trans h.1 k.1,fun x hx hi=>(k.2 x (Nat.lt_of_lt_of_le hx h.1) fun hc=>hi (by simp[hc])).trans (h.2 x hx fun hc=>hi (by simp[hc]))⟩
theorem ou.sub {a:au} {i j:List Id} {g:Rows} {n:Nat} (h:ou a i g n) (hs:∀x∈i,x∈j):ou a j g n:=⟨h.1,fun x hx hj=>h.2 x hx fun hi=>hj (hs x hi)⟩
theorem sS (l:List (List AV)) (i:Nat) (a b:List AV):(l.set i a).set i b=l.set i b:=List.set_set ..
theorem r9 {l:List Int} {j:Nat} (h:j<l.length):(l.map az)[j]? =some [.int .i64 l[j]]:=by simp[h,az]
theorem NL {P:Program} {w:World} {D:Nat->Prop} {ι:Names} {k:Int} {vs:Array Value} (h:fF P w D ι [.int .i64 k] vs):vs= #[.int .i64 k]:=by
 obtain⟨h1,h2⟩:=h
 obtain⟨u,hu,hr⟩:=h2 0 _ rfl
 rw[dD hr]at hu
 obtain⟨l⟩:=vs
 cases l with
 |nil=>simp at h1
 |cons a l=>cases l with
  |nil=>simp at hu;subst hu;rfl
  |cons b l=>simp at h1
theorem xx (k:Int) (h0:0<=k) (h1:k<=4611686018427387904):aq Tryz.prog 179 [.int .i64 k] (.str (pq k)):=
 mo (vs0:= #[.int .i64 k]) (u0:=.string (pq k)) (fun _ _ _ _=>NL) (fun w D ι=>.eZ _ _ (.str _)) (fun g=>MH g 5 _) fun w=>AP w k h0 h1
theorem Fi (i:Id) (l:List Int) (k:Int) (h0:0<=k) (h1:k+l.length<=4611686018427387904) (σ:au) (hv:i.bE<σ.next) (hg:σ.get i=some ⟨true,1,l.map az⟩):
  Call Tryz.prog 33 [.own i 0 l.length,.int .i64 k] σ (fun r σ'=>r=.int .i64 (k+l.length)/\ou σ [i] σ'.get σ'.next):=by
 refine eJ eF rfl fun hl=>?_
 clear hl
 obtain⟨nn,hn⟩:∃nn,l.length=nn:=⟨_,rfl⟩
 rw[hn]at h1 ⊢
 (try((repeat(revert hN;revert N;apply Pn.out));refine wk @Nat.zero_add ?_;(repeat(refine Pn.mk ?_;intro N hN))))
 refine aZ (fun n env st=>∃j:Nat,n=(nn)-j/\j<=(nn)/\env 5=.int .i64 (j:Int)/\env 1=.int .i64 (k+j)/\(ou σ [i] st.get st.next/\∃l':List Int,l'.length=nn/\st.get i=some ⟨true,1,l'.map az⟩)) (nn) ⟨0,by omega,by omega,sl (tw @Int.add_zero @Int.natCast_zero),sl (tw @Int.add_zero @Int.natCast_zero),by(try dsimp only);exact⟨⟨by(try dsimp only);omega,fun x _ _=>rfl⟩,l,hn,hg⟩⟩ ?_
 rintro n_a env_a st_a ⟨j,rfl,ale,a5,a1,jO⟩ dy
 have a0:=dy 0 (by kernel_rfl)
 simp only[go_sem, ↓reduceIte,Nat.reduceEqDiff,Nat.reduceAdd,Nat.reduceSub,Nat.reduceLeDiff,reduceCtorEq,Int.add_zero,Int.natCast_zero]at a0
 clear dy
 obtain⟨⟨an,aF⟩,l',al,ag⟩:=jO
 by_cases hj:(j:Int)<(nn:Int)
 ·have cw:∀{e:Env} {gg:Rows} {nx:Nat},(e 5=.int .i64 (IntKind.i64.wrap ((j:Int)+1)))->(e 1=.int .i64 (k+(j+1)))->(ou σ [i] gg nx/\∃l':List Int,l'.length=nn/\gg i=some ⟨true,1,l'.map az⟩)->∃m0,m0<(nn)-j/\∃j:Nat,m0=(nn)-j/\j<=(nn)/\e 5=.int .i64 (j:Int)/\e 1=.int .i64 (k+j)/\(ou σ [i] gg nx/\∃l':List Int,l'.length=nn/\gg i=some ⟨true,1,l'.map az⟩):=fun x1 x2 x3=>⟨_,by omega,j+1,rfl,by omega,(by rw[x1,aD (by omega)]),x2,x3⟩
  have iK:j<l'.length:=by omega
  have fC:=r9 iK
  have eL:(l'.map az).set j [.int .i64 (k+j)]=(l'.set j (k+j)).map az:=by rw[List.map_set];rfl
  have hw:IntKind.i64.wrap (k+(j:Int)+1)=k+((j:Int)+1):=by rw[bI (by omega)];omega
  (try((repeat(revert hN;revert N;apply Pn.out));refine wk (tw @a5 (tw @a1 (tw @a0 (tw @hj (tw @ag (tw @fC (tw @eL @hw))))))) ?_;(repeat(refine Pn.mk ?_;intro N hN))))
  refine cw ?_ ?_ (by(try dsimp only);exact⟨⟨by(try dsimp only);omega,fun x hx hi=>by
   have h2:=aF x hx hi
   have h3:(x=i)=False:=eq_false fun e=>hi (by simp[e])
   simp only[go_sem, ↓reduceIte,Nat.reduceEqDiff,Nat.reduceAdd,Nat.reduceSub,Nat.reduceLeDiff,reduceCtorEq,h2,h3]⟩,l'.set j (k+j),by simp[al],sl @Nat.zero_add⟩)
  all_goals simp only[go_sem, ↓reduceIte,Nat.reduceEqDiff,Nat.reduceAdd,Nat.reduceSub,Nat.reduceLeDiff,reduceCtorEq,a5,a1,a0,hw]
 ·have iK:j=nn:=by omega
  subst iK
  (try((repeat(revert hN;revert N;apply Pn.out));refine wk (tw @a5 (tw @a1 (tw @a0 @hj))) ?_;(repeat(refine Pn.mk ?_;intro N hN))))
  exact eV (.inl rfl) (vs:=[.int .i64 (k+j)]) (sd (tw @a5 (tw @a1 @a0))) ⟨rfl,⟨by(try dsimp only);omega,fun x hx hi=>aF x hx hi⟩⟩
def I7 (k:Int) (n:Nat):List ab:=(List.range n).map fun j:Nat=>⟨⟨k+3*(j:Int),k+3*(j:Int)+1⟩,k+3*(j:Int)+2⟩
theorem sD (k:Int) (n:Nat):(I7 k n).length=n:=by simp[I7]
theorem KR (k:Int) (n:Nat):I7 k (n+1)=I7 k n++[⟨⟨k+3*(n:Int),k+3*(n:Int)+1⟩,k+3*(n:Int)+2⟩]:=by simp[I7,List.range_succ]
def jT (k:Int) (l:List ab) (j:Nat):List ab:=I7 k j++l.drop j
theorem C8 {k:Int} {l:List ab} {j:Nat} (h:j<=l.length):(jT k l j).length=l.length:=by simp[jT,sD];omega
theorem GK {k:Int} {l:List ab} {j:Nat} (h:j<l.length):((jT k l j).map aa)[j]? =some [.int .i64 l[j].aL.fc,.int .i64 l[j].aL.eR,.int .i64 l[j].aT]:=by
 rw[List.getElem?_map,jT,List.getElem?_append_right (by rw[sD];omega),sD,Nat.sub_self,List.getElem?_drop,Nat.add_zero,List.getElem?_eq_getElem h];rfl
theorem C9 {k:Int} {l:List ab} {j:Nat} (h:j<l.length):((jT k l j).map aa).set j [.int .i64 (k+3*(j:Int)),.int .i64 (k+3*(j:Int)+1),.int .i64 (k+3*(j:Int)+2)]=(jT k l (j+1)).map aa:=by
 have:(jT k l j).set j ⟨⟨k+3*(j:Int),k+3*(j:Int)+1⟩,k+3*(j:Int)+2⟩=jT k l (j+1):=by
  rw[jT,List.set_append_right _ _ (by rw[sD];omega),sD,Nat.sub_self,List.drop_eq_getElem_cons h,List.set_cons_zero,jT,KR,List.append_assoc];rfl
 rw[<-this,List.map_set];rfl
theorem AO (i:Id) (l:List ab) (k:Int) (h0:0<=k) (h1:k+3*l.length<=4611686018427387904) (σ:au) (hv:i.bE<σ.next) (hg:σ.get i=some ⟨true,3,l.map aa⟩):
  Call Tryz.prog 77 [.own i 0 l.length,.int .i64 k] σ (fun r σ'=>r=.int .i64 (k+3*l.length)/\ou σ [i] σ'.get σ'.next/\σ'.get i=some ⟨true,3,(I7 k l.length).map aa⟩):=by
 refine eJ eF rfl fun hl=>?_
 clear hl
 have hz:jT k l 0=l:=by simp[jT,I7]
 (try((repeat(revert hN;revert N;apply Pn.out));refine wk @Nat.zero_add ?_;(repeat(refine Pn.mk ?_;intro N hN))))
 refine aZ (fun n env st=>∃j:Nat,n=(l.length)-j/\j<=(l.length)/\env 5=.int .i64 (j:Int)/\env 1=.int .i64 (k+3*j)/\st.get i=some ⟨true,3,(jT k l j).map aa⟩/\(ou σ [i] st.get st.next)) (l.length) ⟨0,by omega,by omega,sl (tw @Int.add_zero (tw @Int.natCast_zero (tw @Int.mul_zero (tw @hz @hg)))),sl (tw @Int.add_zero (tw @Int.natCast_zero (tw @Int.mul_zero (tw @hz @hg)))),sl (tw @Int.add_zero (tw @Int.natCast_zero (tw @Int.mul_zero (tw @hz @hg)))),by(try dsimp only);exact⟨by(try dsimp only);omega,fun x _ _=>rfl⟩⟩ ?_
 rintro n_a env_a st_a ⟨j,rfl,ale,a5,a1,ag0,jO⟩ dy
 have a0:=dy 0 (by kernel_rfl)
 simp only[go_sem, ↓reduceIte,Nat.reduceEqDiff,Nat.reduceAdd,Nat.reduceSub,Nat.reduceLeDiff,reduceCtorEq,Int.add_zero,Int.natCast_zero,Int.mul_zero,hz,hg]at a0
 clear dy
 obtain⟨an,aF⟩:=jO
 by_cases hj:(j:Int)<(l.length:Int)
 ·have cw:∀{e:Env} {gg:Rows} {nx:Nat},(e 5=.int .i64 (IntKind.i64.wrap ((j:Int)+1)))->(e 1=.int .i64 (k+3*(j+1)))->(gg i=some ⟨true,3,(jT k l (j+1)).map aa⟩)->(ou σ [i] gg nx)->∃m0,m0<(l.length)-j/\∃j:Nat,m0=(l.length)-j/\j<=(l.length)/\e 5=.int .i64 (j:Int)/\e 1=.int .i64 (k+3*j)/\gg i=some ⟨true,3,(jT k l j).map aa⟩/\(ou σ [i] gg nx):=fun x1 x2 x3 x4=>⟨_,by omega,j+1,rfl,by omega,(by rw[x1,aD (by omega)]),x2,x3,x4⟩
  have iK:j<l.length:=by omega
  have fC:=GK (k:=k) iK
  have eL:=C9 (k:=k) iK
  have oq:IntKind.i64.wrap (k+3*(j:Int)+1)=k+3*(j:Int)+1:=bI (by omega)
  have rD:IntKind.i64.wrap (k+3*(j:Int)+1+1)=k+3*(j:Int)+2:=by rw[bI (by omega)];omega
  have OD:IntKind.i64.wrap (k+3*(j:Int)+2+1)=k+3*((j:Int)+1):=by rw[bI (by omega)];omega
  have hlen:((jT k l j).map aa).length=l.length:=by rw[List.length_map,C8 (by omega)]
  have Ka:∀c:List AV,(((jT k l j).map aa).set j c)[j]? =some c:=fun c=>by rw[List.getElem?_set_self (by rw[hlen];exact iK)]
  (try((repeat(revert hN;revert N;apply Pn.out));refine wk (tw @a5 (tw @a1 (tw @ag0 (tw @a0 (tw @hj (tw @fC (tw @Ka (tw @eL (tw @oq (tw @rD (tw @OD (tw @hlen @sS)))))))))))) ?_;(repeat(refine Pn.mk ?_;intro N hN))))
  refine cw ?_ ?_ ?_ (by(try dsimp only);exact⟨by(try dsimp only);omega,fun x hx hi=>by
   have h2:=aF x hx hi
   have h3:(x=i)=False:=eq_false fun e=>hi (by simp[e])
   simp only[go_sem, ↓reduceIte,Nat.reduceEqDiff,Nat.reduceAdd,Nat.reduceSub,Nat.reduceLeDiff,reduceCtorEq,h2,h3]⟩)
  all_goals simp only[go_sem, ↓reduceIte,Nat.reduceEqDiff,Nat.reduceAdd,Nat.reduceSub,Nat.reduceLeDiff,reduceCtorEq,a5,a1,ag0,a0,OD,eL]
 ·have iK:j=l.length:=by omega
  subst iK
  (try((repeat(revert hN;revert N;apply Pn.out));refine wk (tw @a5 (tw @a1 (tw @ag0 (tw @a0 @hj)))) ?_;(repeat(refine Pn.mk ?_;intro N hN))))
  have k6:jT k l l.length=I7 k l.length:=by simp[jT]
  rw[k6]at ag0
  exact eV (.inl rfl) (vs:=[.int .i64 (k+3*l.length)]) (sd (tw @a5 (tw @a1 (tw @ag0 @a0)))) ⟨rfl,⟨by(try dsimp only);omega,fun x hx hi=>aF x hx hi⟩,ag0⟩
theorem C2 (i:Id) (l:List fQ) (k:Int) (h0:0<=k) (h1:k+2*l.length<=4611686018427387904) (σ:au) (hv:i.bE<σ.next) (hg:σ.get i=some ⟨true,2,l.map cq⟩):
  Call Tryz.prog 131 [.own i 0 l.length,.int .i64 k] σ (fun r σ'=>r=.int .i64 (k+2*l.length)/\ou σ [i] σ'.get σ'.next):=by
 refine eJ eF rfl fun hl=>?_
 clear hl
 obtain⟨nn,hn⟩:∃nn,l.length=nn:=⟨_,rfl⟩
 rw[hn]at h1 ⊢
 (try((repeat(revert hN;revert N;apply Pn.out));refine wk @Nat.zero_add ?_;(repeat(refine Pn.mk ?_;intro N hN))))
 refine aZ (fun n env st=>∃j:Nat,n=(nn)-j/\j<=(nn)/\env 5=.int .i64 (j:Int)/\env 1=.int .i64 (k+2*j)/\(ou σ [i] st.get st.next/\∃l':List fQ,l'.length=nn/\st.get i=some ⟨true,2,l'.map cq⟩)) (nn) ⟨0,by omega,by omega,sl (tw @Int.add_zero (tw @Int.natCast_zero @Int.mul_zero)),sl (tw @Int.add_zero (tw @Int.natCast_zero @Int.mul_zero)),by(try dsimp only);exact⟨⟨by(try dsimp only);omega,fun x _ _=>rfl⟩,l,hn,hg⟩⟩ ?_
 rintro n_a env_a st_a ⟨j,rfl,ale,a5,a1,jO⟩ dy
 have a0:=dy 0 (by kernel_rfl)
 simp only[go_sem, ↓reduceIte,Nat.reduceEqDiff,Nat.reduceAdd,Nat.reduceSub,Nat.reduceLeDiff,reduceCtorEq,Int.add_zero,Int.natCast_zero,Int.mul_zero]at a0
 clear dy
 obtain⟨⟨an,aF⟩,l',al,ag⟩:=jO
 by_cases hj:(j:Int)<(nn:Int)
 ·have cw:∀{e:Env} {gg:Rows} {nx:Nat},(e 5=.int .i64 (IntKind.i64.wrap ((j:Int)+1)))->(e 1=.int .i64 (k+2*(j+1)))->(ou σ [i] gg nx/\∃l':List fQ,l'.length=nn/\gg i=some ⟨true,2,l'.map cq⟩)->∃m0,m0<(nn)-j/\∃j:Nat,m0=(nn)-j/\j<=(nn)/\e 5=.int .i64 (j:Int)/\e 1=.int .i64 (k+2*j)/\(ou σ [i] gg nx/\∃l':List fQ,l'.length=nn/\gg i=some ⟨true,2,l'.map cq⟩):=fun x1 x2 x3=>⟨_,by omega,j+1,rfl,by omega,(by rw[x1,aD (by omega)]),x2,x3⟩
  have iK:j<l'.length:=by omega
  have fC:(l'.map cq)[j]? =some [.str l'[j].aO,.int .i64 l'[j].eK]:=by simp[iK,cq]
  have hlen:(l'.map cq).length=nn:=by rw[List.length_map,al]
  have Ka:∀c:List AV,((l'.map cq).set j c)[j]? =some c:=fun c=>by rw[List.getElem?_set_self (by rw[List.length_map];exact iK)]
  have ht:=xx (k+2*(j:Int)) (by omega) (by omega)
  have oq:IntKind.i64.wrap (k+2*(j:Int)+1)=k+2*(j:Int)+1:=bI (by omega)
  have rD:IntKind.i64.wrap (k+2*(j:Int)+1+1)=k+2*((j:Int)+1):=by rw[bI (by omega)];omega
  generalize pq (k+2*(j:Int))=mt at ht
  have eL:(l'.map cq).set j [.str mt,.int .i64 (k+2*(j:Int)+1)]=(l'.set j ⟨mt,k+2*(j:Int)+1⟩).map cq:=by rw[List.map_set];rfl
  (repeat(first|((repeat(revert hN;revert N;apply Pn.out));refine wk (tw @a5 (tw @a1 (tw @a0 (tw @hj (tw @ag (tw @fC (tw @Ka (tw @eL (tw @oq (tw @rD (tw @hlen @sS))))))))))) ?_;(repeat(refine Pn.mk ?_;intro N hN)))|((try apply Or.inl);refine⟨_,aq.x (ht) (sd (tw @a5 (tw @a1 (tw @a0 (tw @hj (tw @ag (tw @fC (tw @Ka (tw @eL (tw @oq (tw @rD (tw @hlen @sS)))))))))))),?_⟩;refine hN _ _ ?_;clear hN N)))
  refine cw ?_ ?_ (by(try dsimp only);exact⟨⟨by(try dsimp only);omega,fun x hx hi=>by
   have h2:=aF x hx hi
   have h3:(x=i)=False:=eq_false fun e=>hi (by simp[e])
   simp only[go_sem, ↓reduceIte,Nat.reduceEqDiff,Nat.reduceAdd,Nat.reduceSub,Nat.reduceLeDiff,reduceCtorEq,h2,h3]⟩,l'.set j ⟨mt,k+2*(j:Int)+1⟩,by simp[al],sl @Nat.zero_add⟩)
  all_goals simp only[go_sem, ↓reduceIte,Nat.reduceEqDiff,Nat.reduceAdd,Nat.reduceSub,Nat.reduceLeDiff,reduceCtorEq,a5,a1,a0,rD,eL]
 ·have iK:j=nn:=by omega
  subst iK
  (try((repeat(revert hN;revert N;apply Pn.out));refine wk (tw @a5 (tw @a1 (tw @a0 @hj))) ?_;(repeat(refine Pn.mk ?_;intro N hN))))
  exact eV (.inl rfl) (vs:=[.int .i64 (k+2*j)]) (sd (tw @a5 (tw @a1 @a0))) ⟨rfl,⟨by(try dsimp only);omega,fun x hx hi=>aF x hx hi⟩⟩
end Go.Proofs.YtgoelphibofcmaaGreat.V

namespace Go.Proofs.YtgoelphibofcmaaGreat.V
open Go.RowKit
attribute [local irreducible] dQ wpOps fX Call
attribute [local go_sem] aQ fM eU fY fW dm upd cG K.av cQ AV.cells AV.cell rowOf rowsOf part ld rowAt bQ cC dE ea gZ bS dh eo fV fj dB ef dd dc dS dU b4 bj cV bW cY cW ec eh ee cU ck de eb bV aU da cK gY bx cP cj bd dv bl dG AV.undef bH bK dW dZ dO dL cN ek eu cJ ej ei cZ db List.getD_cons_zero List.getD_cons_succ List.getD_nil List.all_cons List.all_nil Bool.and_true Bool.true_and Bool.and_self Bool.not_true Bool.not_false Option.map_some Option.map_none Option.bind_some Option.bind_none List.length_cons List.length_nil List.take_succ_cons List.take_zero List.take_nil List.drop_succ_cons List.drop_zero List.drop_nil List.head?_cons List.map_cons List.map_nil List.getElem?_cons_zero List.getElem?_cons_succ List.cons_append List.nil_append List.append_nil List.length_map List.set_cons_zero List.set_cons_succ Nat.reduceMul eq_self Int.toNat_natCast Int.natCast_nonneg and_self true_and and_true decide_true decide_false Bool.false_eq_true Nat.zero_add Nat.add_zero List.contains_cons List.contains_nil Bool.or_false Bool.false_or beq_self_eq_true Nat.reduceBEq ne_eq not_true_eq_false not_false_eq_true Id.mk.injEq false_and and_false Nat.reduceLT Int.reduceLE Int.reduceLT Int.reduceToNat Int.reduceNeg Int.reduceAdd Nat.le_refl List.length_append beq_true beq_false Bool.not_eq_eq_eq_not or_false false_or dX ae aj aJ bq bG cr aY bf aW bp cR bB
theorem gP.flat {α:Type} {e:α->List AV} {z:Nat} {g:Rows} {a:AV} {xs:List α} {ids:List Id} (h:gP (jq e) z g a xs ids):∃o,a=.own o 0 xs.length/\g o=some ⟨true,z,xs.map e⟩/\ids=[o]:=by
 obtain⟨o,rows,is,h1,h2,h3,rfl⟩:=h
 have:∀{rows:List (List AV)} {xs:List α} {is:List Id},eQ (jq e) g rows xs is->rows=xs.map e/\is=[]:=fun h=>by
  induction h with
  |nil=>exact⟨rfl,rfl⟩
  |cons h1 _ ih=>obtain⟨rfl,rfl⟩:=h1;obtain⟨rfl,rfl⟩:=ih;exact⟨rfl,rfl⟩
 obtain⟨rfl,rfl⟩:=this h3
 exact⟨o,h1,h2,rfl⟩
def gS (t:fh):Nat:=1+t.bL.length
theorem C4 (a:AV) (l:List fh) (ids:List Id) (k:Int) (h0:0<=k) (yJ:l.length<=1048576) (h1:k+(l.map gS).sum<=4611686018427387904) (σ:au) (hv:∀i∈ids,i.bE<σ.next) (mE:ids.Nodup) (hg:gP oR 2 σ.get a l ids):
  Call Tryz.prog 132 [a,.int .i64 k] σ (fun r σ'=>r=.int .i64 (k+(l.map gS).sum)/\ou σ ids σ'.get σ'.next):=by
 obtain⟨o,rows,is,rfl,ho,hR,rfl⟩:=hg
 refine eJ eF rfl fun hl=>?_
 clear hl
 have u7:=hv o (by simp)
 have Oz:=nk gS l
 (try((repeat(revert hN;revert N;apply Pn.out));refine wk @Nat.zero_add ?_;(repeat(refine Pn.mk ?_;intro N hN))))
 refine aZ (fun n env st=>∃j:Nat,n=(l.length)-j/\j<=(l.length)/\env 5=.int .i64 (j:Int)/\env 1=.int .i64 (k+iW gS l j)/\(ou σ (o::is) st.get st.next/\∃pre rest ir,st.get o=some ⟨true,2,pre++rest⟩/\pre.length=j/\eQ oR st.get rest (l.drop j) ir/\(o::ir).Nodup/\∀i∈ir,i∈is)) (l.length) ⟨0,by omega,by omega,sl (tw @Int.add_zero (tw @Int.natCast_zero @Oz)),sl (tw @Int.add_zero (tw @Int.natCast_zero @Oz)),by(try dsimp only);exact⟨⟨by(try dsimp only);omega,fun x _ _=>rfl⟩,[],rows,is,ho,rfl,hR,mE,fun _ h=>h⟩⟩ ?_
 rintro n_a env_a st_a ⟨j,rfl,ale,a5,a1,jO⟩ dy
 have a0:=dy 0 (by kernel_rfl)
 simp only[go_sem, ↓reduceIte,Nat.reduceEqDiff,Nat.reduceAdd,Nat.reduceSub,Nat.reduceLeDiff,reduceCtorEq,Int.add_zero,Int.natCast_zero,Oz]at a0
 clear dy
 obtain⟨⟨an,aF⟩,pre,rest,ir,ag,apl,aR,aN,aS⟩:=jO
 by_cases hj:(j:Int)<(l.length:Int)
 ·have cw:∀{e:Env} {gg:Rows} {nx:Nat},(e 5=.int .i64 (IntKind.i64.wrap ((j:Int)+1)))->(e 1=.int .i64 (k+iW gS l (j+1)))->(ou σ (o::is) gg nx/\∃pre rest ir,gg o=some ⟨true,2,pre++rest⟩/\pre.length=(j+1)/\eQ oR gg rest (l.drop (j+1)) ir/\(o::ir).Nodup/\∀i∈ir,i∈is)->∃m0,m0<(l.length)-j/\∃j:Nat,m0=(l.length)-j/\j<=(l.length)/\e 5=.int .i64 (j:Int)/\e 1=.int .i64 (k+iW gS l j)/\(ou σ (o::is) gg nx/\∃pre rest ir,gg o=some ⟨true,2,pre++rest⟩/\pre.length=j/\eQ oR gg rest (l.drop j) ir/\(o::ir).Nodup/\∀i∈ir,i∈is):=fun x1 x2 x3=>⟨_,by omega,j+1,rfl,by omega,(by rw[x1,aD (by omega)]),x2,x3⟩
  have iK:j<l.length:=by omega
  have Qk:=xZ gS iK
  have hle:=qH gS l (j+1)
  obtain⟨t,htj⟩:∃t,l[j]=t:=⟨_,rfl⟩
  rw[List.drop_eq_getElem_cons iK,htj]at aR
  rw[htj]at Qk
  cases aR with
  | @cons cs _ ic rs _ i2 hT Sp=>
  obtain⟨i,rfl,hi,rfl⟩:=hT
  rw[List.singleton_append]at aN aS
  obtain⟨n1,n2⟩:=List.nodup_cons.1 aN
  obtain⟨n3,n4⟩:=List.nodup_cons.1 n2
  have RA:(o=i)=False:=eq_false fun e=>n1 (by simp[e])
  have Rv:(i=o)=False:=eq_false fun e=>n1 (by simp[e])
  have hiv:i.bE<σ.next:=hv i (by simp[aS i (by simp)])
  have SS:gS t=1+t.bL.length:=rfl
  have ht:=xx (k+(iW gS l j:Nat)) (by omega) (by omega)
  have oq:IntKind.i64.wrap (k+(iW gS l j:Nat)+1)=k+(iW gS l j:Nat)+1:=bI (by omega)
  generalize pq (k+(iW gS l j:Nat))=mt at ht
  have fC:(pre++[.str t.aO,.own i 0 t.bL.length]::rs)[j]? =some [.str t.aO,.own i 0 t.bL.length]:=by subst apl;simp
  have eL:(pre++[.str t.aO,.own i 0 t.bL.length]::rs).set j [.str mt,.own i 0 t.bL.length]=pre++[.str mt,.own i 0 t.bL.length]::rs:=by subst apl;simp
  have Oj:(pre++[.str mt,.own i 0 t.bL.length]::rs)[j]? =some [.str mt,.own i 0 t.bL.length]:=by subst apl;simp
  (repeat(first|((repeat(revert hN;revert N;apply Pn.out));refine wk (tw @a5 (tw @a1 (tw @a0 (tw @hj (tw @ag (tw @fC (tw @eL (tw @Oj (tw @oq (tw @RA (tw @Rv @hi))))))))))) ?_;(repeat(refine Pn.mk ?_;intro N hN)))|((try apply Or.inl);refine⟨_,aq.x (ht) (sd (tw @a5 (tw @a1 (tw @a0 (tw @hj (tw @ag (tw @fC (tw @eL (tw @Oj (tw @oq (tw @RA (tw @Rv @hi)))))))))))),?_⟩;refine hN _ _ ?_;clear hN N)))
  refine .inr (aE _ _ _ _ _ (fun r σ1 hq=>?_) (Fi i t.bL (k+(iW gS l j:Nat)+1) (by omega) (by omega) _ (by(try dsimp only);omega) (sd (tw @RA (tw @Rv @hi)))))
  obtain⟨g1,x1⟩:=σ1
  obtain⟨rfl,Gr,nz⟩:=hq
  (try dsimp only at Gr nz)
  refine hN _ _ ?_
  clear hN N
  have V8:k+(iW gS l j:Nat)+1+t.bL.length=k+(iW gS l (j+1):Nat):=by omega
  (try((repeat(revert hN;revert N;apply Pn.out));refine wk (tw @a5 (tw @a1 (tw @a0 @V8))) ?_;(repeat(refine Pn.mk ?_;intro N hN))))
  have gk:∀x:Id,x.bE<σ.next->x≠o->x≠i->g1 x=st_a.get x:=fun x hx h3 h4=>by
   have h2:=nz x (by(try dsimp only);omega) (by simp[h4])
   have h5:=eq_false h3
   simp only[go_sem, ↓reduceIte,Nat.reduceEqDiff,Nat.reduceAdd,Nat.reduceSub,Nat.reduceLeDiff,reduceCtorEq,h5]at h2
   exact h2
  have go:=nz o (by(try dsimp only);omega) (by simp only[List.mem_singleton];exact fun e=>n1 (by simp[e]))
  simp only[go_sem, ↓reduceIte,Nat.reduceEqDiff,Nat.reduceAdd,Nat.reduceSub,Nat.reduceLeDiff,reduceCtorEq]at go
  refine cw ?_ ?_ (by(try dsimp only);exact⟨⟨by(try dsimp only);omega,fun x hx hi=>by
   have h3:x≠o:=fun e=>hi (by simp[e])
   have h4:x≠i:=fun e=>hi (by simp[e,aS i (by simp)])
   rw[gk x hx h3 h4]
   exact aF x hx hi⟩,pre++[[.str mt,.own i 0 t.bL.length]],rs,i2,by rw[go];simp,by simp[apl],Sp.frame rQ (fun x hx=>gk x (hv x (by simp[aS x (by simp[hx])])) (fun e=>n1 (by simp[<-e,hx])) (fun e=>n3 (by rw[<-e];exact hx))),List.nodup_cons.2 ⟨fun h=>n1 (by simp[h]),n4⟩,fun x hx=>aS x (by simp[hx])⟩)
  all_goals simp only[go_sem, ↓reduceIte,Nat.reduceEqDiff,Nat.reduceAdd,Nat.reduceSub,Nat.reduceLeDiff,reduceCtorEq,a5,a1,a0,V8]
 ·have iK:j=l.length:=by omega
  subst iK
  have dx:=Dx gS l
  rw[dx]at a1
  (try((repeat(revert hN;revert N;apply Pn.out));refine wk (tw @a5 (tw @a1 (tw @a0 @hj))) ?_;(repeat(refine Pn.mk ?_;intro N hN))))
  exact eV (.inl rfl) (vs:=[.int .i64 (k+(l.map gS).sum)]) (sd (tw @a5 (tw @a1 @a0))) ⟨rfl,⟨by(try dsimp only);omega,fun x hx hi=>aF x hx hi⟩⟩
theorem H5 (v:AV) (p:gF) (ids:List Id) (k:Int) (h0:0<=k) (h1:k+3*p.ai.length<=4611686018427387904) (σ:au) (hv:∀i∈ids,i.bE<σ.next) (hg:DZ σ.get v p ids):
  Call Tryz.prog 32 [v,.int .i64 k] σ (fun r σ'=>r=.int .i64 (k+3*p.ai.length)/\ou σ ids σ'.get σ'.next):=by
 obtain⟨c,rfl,hc⟩:=hg
 obtain⟨o,rfl,ho,rfl⟩:=hc.flat
 refine eJ eF rfl fun hl=>?_
 clear hl
 have u7:=dr (hv o (by simp))
 have M5:=hv o (by simp)
 (try((repeat(revert hN;revert N;apply Pn.out));refine wk @Nat.zero_add ?_;(repeat(refine Pn.mk ?_;intro N hN))))
 refine .inr (aE _ _ _ _ _ (fun r σ1 hq=>?_) (AO o p.ai k h0 h1 _ (by(try dsimp only);omega) (sd (tw @u7 @ho))))
 obtain⟨g1,x1⟩:=σ1
 obtain⟨rfl,⟨Gr,nz⟩,_⟩:=hq
 (try dsimp only at Gr nz)
 refine hN _ _ ?_
 clear hN N
 (try((repeat(revert hN;revert N;apply Pn.out));refine wk @Nat.zero_add ?_;(repeat(refine Pn.mk ?_;intro N hN))))
 exact eV (.inl rfl) (vs:=[.int .i64 (k+3*p.ai.length)]) (sd @Nat.zero_add) ⟨rfl,⟨by(try dsimp only);omega,fun x hx hi=>by
  have h2:=nz x (by(try dsimp only);omega) hi
  have h3:=dr hx
  simp only[go_sem, ↓reduceIte,Nat.reduceEqDiff,Nat.reduceAdd,Nat.reduceSub,Nat.reduceLeDiff,reduceCtorEq,h3]at h2
  exact h2⟩⟩
def yR (s:aw):Nat:=2*s.aI.aB.length+(s.aI.ai.map gS).sum+3*s.bh.ai.length
theorem H7 (a b:AV) (p:ax) (i1 i2:List Id) (k:Int) (h0:0<=k) (yJ:p.ai.length<=1048576) (h1:k+2*p.aB.length+(p.ai.map gS).sum<=4611686018427387904) (σ:au) (hv:∀i∈i1++i2,i.bE<σ.next) (mE:(i1++i2).Nodup)
  (hA:gP (jq cq) 2 σ.get a p.aB i1) (hB:gP oR 2 σ.get b p.ai i2):
  Call Tryz.prog 76 [.agg [a,b],.int .i64 k] σ (fun r σ'=>r=.int .i64 (k+2*p.aB.length+(p.ai.map gS).sum)/\ou σ (i1++i2) σ'.get σ'.next):=by
 obtain⟨_,n2,n3⟩:=List.nodup_append.1 mE
 obtain⟨o,rfl,ho,rfl⟩:=hA.flat
 obtain⟨ob,rfl⟩:=hB.jn
 refine eJ eF rfl fun hl=>?_
 clear hl
 have M5:=hv o (by simp)
 have u7:=dr M5
 (try((repeat(revert hN;revert N;apply Pn.out));refine wk @Nat.zero_add ?_;(repeat(refine Pn.mk ?_;intro N hN))))
 refine .inr (aE _ _ _ _ _ (fun r σ1 hq=>?_) (C2 o p.aB k h0 (by omega) _ (by(try dsimp only);omega) (sd (tw @u7 @ho))))
 obtain⟨g1,x1⟩:=σ1
 obtain⟨rfl,Gr,nz⟩:=hq
 (try dsimp only at Gr nz)
 refine hN _ _ ?_
 clear hN N
 have k1:=nz ⟨76000000,σ.next⟩ (by(try dsimp only);omega) (by simp only[List.mem_singleton];intro e;rw[<-e]at M5;(try dsimp only at M5);omega)
 simp only[go_sem, ↓reduceIte,Nat.reduceEqDiff,Nat.reduceAdd,Nat.reduceSub,Nat.reduceLeDiff,reduceCtorEq]at k1
 (try((repeat(revert hN;revert N;apply Pn.out));refine wk @k1 ?_;(repeat(refine Pn.mk ?_;intro N hN))))
 have hf:∀x:Id,x.bE<σ.next->x≠o->g1 x=σ.get x:=fun x hx ho=>by
  have h2:=nz x (by(try dsimp only);omega) (by simp[ho])
  have h3:=dr hx
  simp only[go_sem, ↓reduceIte,Nat.reduceEqDiff,Nat.reduceAdd,Nat.reduceSub,Nat.reduceLeDiff,reduceCtorEq,h3]at h2
  exact h2
 refine .inr (aE _ _ _ _ _ (fun r σ2 hq=>?_) (C4 _ p.ai i2 (k+2*p.aB.length) (by omega) yJ h1 _ (fun i hi=>by have:=hv i (by simp[hi]);(try dsimp only);omega) n2 (hB.frame rQ fun i hi=>hf i (hv i (by simp[hi])) fun e=>n3 o (by simp) i hi e.symm)))
 obtain⟨g2,x2⟩:=σ2
 obtain⟨rfl,Qf,EY⟩:=hq
 (try dsimp only at Qf EY)
 refine hN _ _ ?_
 clear hN N
 (try((repeat(revert hN;revert N;apply Pn.out));refine wk @Nat.zero_add ?_;(repeat(refine Pn.mk ?_;intro N hN))))
 exact eV (.inl rfl) (vs:=[.int .i64 (k+2*p.aB.length+(p.ai.map gS).sum)]) (sd @Nat.zero_add) ⟨rfl,⟨by(try dsimp only);omega,fun x hx hi=>(EY x (by(try dsimp only);omega) fun h=>hi (by simp[h])).trans (hf x hx fun e=>hi (by simp[e]))⟩⟩
theorem zA (v:AV) (p:aw) (ids:List Id) (k:Int) (h0:0<=k) (yJ:p.aI.ai.length<=1048576) (h1:k+yR p<=4611686018427387904) (σ:au) (hv:∀i∈ids,i.bE<σ.next) (mE:ids.Nodup) (hg:Ac σ.get v p ids):
  Call Tryz.prog 31 [v,.int .i64 k] σ (fun r σ'=>r=.int .i64 (k+yR p)/\ou σ ids σ'.get σ'.next):=by
 obtain⟨a,b,c,i1,i2,i3,rfl,hA,hB,hC,rfl⟩:=hg.ex
 rw[<-List.append_assoc]at mE
 obtain⟨n1,_,n3⟩:=List.nodup_append.1 mE
 obtain⟨oa,rfl⟩:=hA.jn
 obtain⟨ob,rfl⟩:=hB.jn
 obtain⟨oc,rfl⟩:=hC.jn
 have hm:(yR p:Int)=2*p.aI.aB.length+(p.aI.ai.map gS).sum+3*p.bh.ai.length:=by simp[yR]
 refine eJ eF rfl fun hl=>?_
 clear hl
 have Vj:∀x∈i1++(i2++i3),bQ σ.get ⟨31000000,σ.next⟩ ⟨true,4,[[.own oa 0 p.aI.aB.length,.own ob 0 p.aI.ai.length,.own oc 0 p.bh.ai.length,.int .i64 p.ay]]⟩ x=σ.get x:=fun x hx=>by
  have:=dr (hv x hx)
  simp only[go_sem, ↓reduceIte,Nat.reduceEqDiff,Nat.reduceAdd,Nat.reduceSub,Nat.reduceLeDiff,reduceCtorEq,this]
 (try((repeat(revert hN;revert N;apply Pn.out));refine wk @Nat.zero_add ?_;(repeat(refine Pn.mk ?_;intro N hN))))
 refine .inr (aE _ _ _ _ _ (fun r σ1 hq=>?_) (H7 _ _ p.aI i1 i2 k h0 yJ (by omega) _ (fun i hi=>by have:=hv i (by rcases List.mem_append.1 hi with h|h<;>simp[h]);(try dsimp only);omega) n1 (hA.frame Cn fun i hi=>Vj i (by simp[hi])) (hB.frame rQ fun i hi=>Vj i (by simp[hi]))))
 obtain⟨g1,x1⟩:=σ1
 obtain⟨rfl,Gr,nz⟩:=hq
 (try dsimp only at Gr nz)
 refine hN _ _ ?_
 clear hN N
 have k1:=nz ⟨31000000,σ.next⟩ (by(try dsimp only);omega) (fun h=>by
  have:=hv ⟨31000000,σ.next⟩ (by rcases List.mem_append.1 h with h|h<;>simp[h])
  (try dsimp only at this);omega)
 simp only[go_sem, ↓reduceIte,Nat.reduceEqDiff,Nat.reduceAdd,Nat.reduceSub,Nat.reduceLeDiff,reduceCtorEq]at k1
 (try((repeat(revert hN;revert N;apply Pn.out));refine wk @k1 ?_;(repeat(refine Pn.mk ?_;intro N hN))))
 refine .inr (aE _ _ _ _ _ (fun r σ2 hq=>?_) (H5 _ p.bh i3 (k+2*p.aI.aB.length+(p.aI.ai.map gS).sum) (by omega) (by omega) _ (fun i hi=>by have:=hv i (by simp[hi]);(try dsimp only);omega) ⟨_,rfl,hC.frame mO fun i hi=>?_⟩))
 rotate_left
 ·exact(nz i (by have:=hv i (by simp[hi]);(try dsimp only);omega) fun h=>n3 i h i hi rfl).trans (Vj i (by simp[hi]))
 obtain⟨g2,x2⟩:=σ2
 obtain⟨rfl,Qf,EY⟩:=hq
 (try dsimp only at Qf EY)
 refine hN _ _ ?_
 clear hN N
 (try((repeat(revert hN;revert N;apply Pn.out));refine wk @Nat.zero_add ?_;(repeat(refine Pn.mk ?_;intro N hN))))
 exact eV (.inl rfl) (vs:=[.int .i64 (k+2*p.aI.aB.length+(p.aI.ai.map gS).sum+3*p.bh.ai.length)]) (sd @Nat.zero_add) ⟨by rw[hm];exact congrArg (AV.int .i64) (by omega),⟨by(try dsimp only);omega,fun x hx hi=>by
  have h2:=EY x (by(try dsimp only);omega) fun h=>hi (by simp[h])
  have h3:=nz x (by(try dsimp only);omega) fun h=>hi (by rcases List.mem_append.1 h with h|h<;>simp[h])
  have h4:=dr hx
  simp only[go_sem, ↓reduceIte,Nat.reduceEqDiff,Nat.reduceAdd,Nat.reduceSub,Nat.reduceLeDiff,reduceCtorEq,h4]at h3
  exact h2.trans h3⟩⟩
end Go.Proofs.YtgoelphibofcmaaGreat.V

namespace Go.Proofs.YtgoelphibofcmaaGreat.V
open Go.RowKit
def AV.clean:AV->Bool
 | .int .. | .bool _| .str _| .bD| .gT| .jo| .jy| .own .. | .ptr .. | .map .. | .r6 _=>true
 | .sl l=>l.isEmpty
 |_=>false
def AV.Ap:AV->Bool
 | .agg cs=>cs.all AV.clean
 | .gD cs=>cs.all fun a=>match a with
  | .agg cs=>cs.all AV.clean
  |a=>a.clean
 |a=>a.clean
def z6 (ids:List Id) (g g':Rows):Rows:=fun id=>if id∈ids then g' id else g id
theorem pN {ids:List Id} {g g':Rows} {id:Id} (h:id∈ids):z6 ids g g' id=g' id:=if_pos h
theorem k8 {ids:List Id} {g g':Rows} {id:Id} (h:id∉ids):z6 ids g g' id=g id:=if_neg h
section
variable {P:Program} {w w':World} {D D' D1 D2:Nat->Prop} {ι ι1 ι2:Names}
theorem kb {a:AV} {v:Value} (hp:a.clean=true) (h:di P w D1 ι1 a v):di P w D2 ι1 a v:=by
 cases h with
 |eZ a v h=>
  cases h with
  |int=>exact .eZ _ _ (.int _ _)
  |bool=>exact .eZ _ _ (.bool _)
  |str=>exact .eZ _ _ (.str _)
  |bD=>exact .eZ _ _ .bD
  |gT=>exact .eZ _ _ .gT
  |jo=>exact .eZ _ _ .jo
  |jy=>exact .eZ _ _ .jy
  |BM a c h=>exact .eZ _ _ (.BM a c h)
  |sl rows b o n c sz vs h1 h2 h3=>
   have:rows=[]:=by simpa[AV.clean]using hp
   subst this
   simp only[List.length_nil]at h1
   subst h1
   exact .eZ _ _ (.BM _ _ h3)
  |du=>simp[AV.clean]at hp
  |agg=>simp[AV.clean]at hp
  |fn=>simp[AV.clean]at hp
 |own id off len o cap B h1 h2 h3 h4 h5 h6=>exact .own id off len o cap B h1 h2 h3 h4 h5 h6
 |map id m B h1 h2=>exact .map id m B h1 h2
 |r6 id c B h1 h2=>exact .r6 id c B h1 h2
 |ptr id i off B h1 h2=>exact .ptr id i off B h1 h2
 |agg=>simp[AV.clean]at hp
 |gD=>simp[AV.clean]at hp
 |fn=>simp[AV.clean]at hp
 |uE=>simp[AV.clean]at hp
theorem mm {cs:List AV} {v:Value} (hc:cs.all AV.clean=true) (h:di P w D1 ι1 (.agg cs) v):di P w D2 ι1 (.agg cs) v:=by
 obtain⟨vs,f,rfl,h1,h2,h3,h4⟩:=jh h
 rw[List.all_eq_true]at hc
 exact .agg cs vs f h1 h2 h3 fun j a ha=>kb (hc a (List.mem_of_getElem? ha)) (h4 j a ha)
theorem Fz {a:AV} {v:Value} (hp:a.Ap=true) (h:di P w D1 ι1 a v):di P w D2 ι1 a v:=by
 cases a with
 |agg cs=>exact mm hp h
 |gD cs=>
  obtain⟨vs,f,rfl,h1,h3,h4⟩:=v8 h
  simp only[AV.Ap,List.all_eq_true]at hp
  refine .gD cs vs f h1 h3 fun j a ha=>?_
  have:=hp a (List.mem_of_getElem? ha)
  split at this
  ·exact mm this (h4 j _ ha)
  ·exact kb this (h4 j _ ha)
 |_=>exact kb hp h
theorem Fv {ag:Bool} {n:Nat} {cs:List AV} {x:AV} {v:Value} (hc:∀a∈cs,a.clean=true) (hp:part ag n cs=some x) (hr:di P w D1 ι1 x v):di P w D2 ι1 x v:=by
 unfold part at hp
 split at hp
 ·split at hp
  ·simp only[Option.some.injEq]at hp;subst hp
   exact mm (List.all_eq_true.2 fun a ha=>hc a (List.mem_of_mem_take ha)) hr
  ·cases hp
 ·exact kb (hc x (List.mem_of_mem_head? hp)) hr
theorem ib.clean {B:s9} {r:Row} (R:ib P w D1 ι1 B r) (h:∀cs∈r.rows,∀a∈cs,a.clean=true):ib P w D2 ι1 B r:=
 ⟨R.sz,R.flat,fun hk=>⟨R.sz,(R.row hk).yv,(R.row hk).fits,(R.row hk).len,R.flat,fun i j cs a hi hj=>by
  obtain⟨v,q1,q2⟩:=(R.row hk).at_ i j cs a hi hj
  exact⟨v,q1,kb (h cs (List.mem_of_getElem? hi) a (List.mem_of_getElem? hj)) q2⟩⟩,fun m hm=>by
  obtain⟨h1,es,c,h2,h3,h5,h4⟩:=R.map m hm
  refine⟨h1,es,c,h2,h3,h5,fun i cs hi=>?_⟩
  obtain⟨e,kv,vv,q1,q2,q3,q4,q5⟩:=h4 i cs hi
  have hc:=h cs (List.mem_of_getElem? hi)
  exact⟨e,kv,vv,q1,q2,q3,Fv hc q2 q4,kb (hc vv (List.mem_of_getElem? q3)) q5⟩,fun c hc=>by
  obtain⟨h1,buf,s,q,h2,h3,h4⟩:=R.chan c hc
  refine⟨h1,buf,s,q,h2,h3,fun i cs hi=>?_⟩
  obtain⟨a,u,rfl,q2,q3⟩:=h4 i cs hi
  exact⟨a,u,rfl,q2,kb (h [a] (List.mem_of_getElem? hi) a (by simp)) q3⟩⟩
def Handed (ids:List Id) (g:Rows):Prop:=∀id∈ids,∃r,g id=some r/\r.w=true/\∀cs∈r.rows,∀a∈cs,a.clean=true
theorem IM {f:Nat} {args args':List AV} {g:Rows} {n:Nat} {K:AV->au->Prop} (hv:dt (dX g) 6 args=some args')
  (h:Sound P f args' ⟨fun _=>none,n⟩ fun r σ'=>∃ids,r.Ap=true/\Handed ids σ'.get/\K r ⟨z6 ids g σ'.get,σ'.next⟩):Sound P f args ⟨g,n⟩ K:=by
 intro hs D ι w vs S U A
 let E:Nat->Prop:=fun b=>D b∨∃id r B,g id=some r/\ι id=some B/\b=B.b
 have lt:∀id r B,g id=some r->ι id=some B->B.b<w.heap.size:=fun id r B h1 h2=>by
  obtain⟨B',dM,R,_⟩:=S.row id r h1
  rw[h2]at dM;injection dM with dM;subst dM
  exact R.lt
 have S0:gJ P w.heap.size E ι (fun _=>none) w:=⟨Nat.le_refl _,fun b hb=>by
  rcases hb with hb|⟨id,r,B,h1,h2,rfl⟩
  ·exact S.dead b hb
  ·exact lt id r B h1 h2,fun id r h=>(by cases h),fun id kf r r' B B' h=>(by cases h)⟩
 obtain⟨l1,l2⟩:=gR hv
 have A':fF P w E ι args' vs:=⟨by rw[A.1,l1],fun j a hj=>by
  obtain⟨a0,lK,hz⟩:=l2 j a hj
  obtain⟨u,hu,hr⟩:=A.2 j a0 lK
  refine⟨u,hu,(sb (D2:=E) (ι2:=ι) (fun b h=>.inl h) (fun id row hg hw=>?_) 6 a0 u a hr hz).1⟩
  unfold dX at hg
  simp only[Option.map_eq_some_iff]at hg
  obtain⟨r,oK,rfl⟩:=hg
  obtain⟨B,hB,R,_,_⟩:=S.row id r oK
  exact⟨B,hB,R.flag true,.inr ⟨id,r,B,oK,hB,rfl⟩⟩⟩
 refine(h w.heap.size E ι w vs S0 U A').mono ?_
 rintro e w' ⟨r0,g',n',D2,ι1,u,rfl,⟨ids,nG,hid,hK⟩,T,S1,U1,hn,hR⟩
 have hb:∀b,b<w.heap.size->w'.heap[b]? =w.heap[b]? :=T.below.block
 have hz:=T.below.size
 have frame:∀{a v},di P w D ι a v->di P w' D ι1 a v:=fun h=>h.frame (fun b hd=>hb b (S.dead b hd)) (fun _ h=>h) T.names
 refine⟨r0,_,n',D,ι1,u,rfl,hK,⟨T.below.mono S.lo,fun b hd=>hb b (S.dead b hd),fun _ h=>h,T.names,fun _ h=>.inl h⟩,⟨Nat.le_trans S.lo hz,fun b hd=>Nat.lt_of_lt_of_le (S.dead b hd) hz,fun id r hr=>?_,fun Tm id2 r1 r2 B1 B2 h1 h2 hw BD qt Og=>?_⟩,U1,hn,Fz nG hR⟩
 ·by_cases hi:id∈ids
  ·rw[pN hi]at hr
   obtain⟨r',oK,hw,SC⟩:=hid id hi
   rw[hr]at oK;injection oK with oK;subst oK
   obtain⟨B,hB,R,k1,k2⟩:=S1.row id r hr
   have kI:=k1 hw
   exact⟨B,hB,R.clean SC,fun _=>Nat.le_trans S.lo kI,fun _ hd=>Nat.lt_irrefl _ (Nat.lt_of_lt_of_le (S.dead _ hd) kI)⟩
  ·rw[k8 hi]at hr
   obtain⟨B,hB,R,k1,k2⟩:=S.row id r hr
   have Ud:=lt id r B hr hB
   exact⟨B,T.names _ _ hB,R.frame (hb _ Ud) fun a v h=>frame h,k1,k2⟩
 ·have new:∀{id r B},id∈ids->z6 ids g g' id=some r->ι1 id=some B->w.heap.size<=B.b/\g' id=some r/\r.w=true:=fun {id r B} hi hr hB=>by
   rw[pN hi]at hr
   obtain⟨r',oK,hw,_⟩:=hid id hi
   replace oK:g' id=some r':=oK
   rw[hr]at oK;injection oK with oK;subst oK
   obtain⟨B',dM,_,k1,_⟩:=S1.row id r hr
   rw[hB]at dM;injection dM with dM;subst dM
   exact⟨k1 hw,hr,hw⟩
  have zI:∀{id r B},id∉ids->z6 ids g g' id=some r->ι1 id=some B->B.b<w.heap.size/\g id=some r/\ι id=some B:=fun {id r B} hi hr hB=>by
   rw[k8 hi]at hr
   obtain⟨B',dM,_⟩:=S.row id r hr
   have:=T.names _ _ dM
   rw[hB]at this;injection this with this;subst this
   exact⟨lt id r _ hr dM,hr,dM⟩
  by_cases i1:Tm∈ids
  ·obtain⟨a1,a2,a3⟩:=new i1 h1 BD
   by_cases i2:id2∈ids
   ·obtain⟨b1,b2,b3⟩:=new i2 h2 qt
    exact S1.inj Tm id2 r1 r2 B1 B2 a2 b2 hw BD qt Og
   ·obtain⟨b1,_⟩:=zI i2 h2 qt
    omega
  ·obtain⟨a1,a2,a3⟩:=zI i1 h1 BD
   by_cases i2:id2∈ids
   ·obtain⟨b1,_⟩:=new i2 h2 qt
    omega
   ·obtain⟨b1,b2,b3⟩:=zI i2 h2 qt
    exact S.inj Tm id2 r1 r2 B1 B2 a2 b2 hw a3 b3 Og
theorem wj (hm:P.follows .mixedOrders=true) {f:Nat} {args args':List AV} {σ:au} {K:AV->au->Prop} (hv:dt (dX σ.get) 6 args=some args')
  (h:Call P f args' ⟨fun _=>none,σ.next⟩ fun r σ'=>∃ids,r.Ap=true/\Handed ids σ'.get/\K r ⟨z6 ids σ.get σ'.get,σ'.next⟩):Call P f args σ K:=
 ig (IM hv (gG hm h))
end
end Go.Proofs.YtgoelphibofcmaaGreat.V

namespace Go.Proofs.YtgoelphibofcmaaGreat.V
open Go.RowKit
inductive oM:List AV->List AV->Prop
 |nil:oM [] []
 |same (a) {l l'}:oM l l'->oM (a::l) (a::l')
 |ptr (cs rest) {l l'}:oM l l'->oM (.du (cs++rest)::l) (.du cs::l')
 |bD {l l'}:oM l l'->oM (.bD::l) (.sl []::l')
theorem NN {P:Program} {w:World} {D:Nat->Prop} {ι:Names} {cs rest:List AV} {v:Value} (h:di P w D ι (.du (cs++rest)) v):di P w D ι (.du cs) v:=by
 obtain⟨b,o,vs,rfl,h1,h2,h3,h4⟩:=lD h
 exact .eZ _ _ (.du cs b o vs h1 (fun a ha=>h2 a (List.mem_append_left _ ha)) (fun j hj=>h3 j (by rw[List.length_append];omega)) fun j a ha=>h4 j a (by
  have:=(List.getElem?_eq_some_iff.1 ha).1
  rw[List.getElem?_append_left this];exact ha))
theorem NP {P:Program} {w:World} {D:Nat->Prop} {ι:Names} {v:Value} (h:di P w D ι .bD v):di P w D ι (.sl []) v:=by
 cases h with
 |eZ _ _ h=>
  cases h with
  |bD=>exact .eZ _ _ (.BM none 0 (Nat.zero_le _))
theorem oM.len {l l':List AV} (h:oM l l'):l'.length=l.length:=by induction h<;>simp_all
theorem oM.get {P:Program} {w:World} {D:Nat->Prop} {ι:Names} {l l':List AV} (h:oM l l'):∀{j:Nat} {a':AV},l'[j]? =some a'->∃a,l[j]? =some a/\∀v,di P w D ι a v->di P w D ι a' v:=by
 induction h with
 |nil=>intro j a' hj;simp at hj
 |same a _ ih=>
  intro j a' hj
  cases j with
  |zero=>simp at hj;subst hj;exact⟨a,rfl,fun _ h=>h⟩
  |succ j=>exact ih (by simpa using hj)
 |ptr cs rest _ ih=>
  intro j a' hj
  cases j with
  |zero=>simp at hj;subst hj;exact⟨_,rfl,fun _ h=>NN h⟩
  |succ j=>exact ih (by simpa using hj)
 |bD _ ih=>
  intro j a' hj
  cases j with
  |zero=>simp at hj;subst hj;exact⟨_,rfl,fun _ h=>NP h⟩
  |succ j=>exact ih (by simpa using hj)
theorem Call.cut {P:Program} (hm:P.follows .mixedOrders=true) {f:Nat} {args args':List AV} {σ:au} {K:AV->au->Prop} (hc:oM args args') (h:Call P f args' σ K):Call P f args σ K:=
 ig fun hs D ι w vs S U A=>gG hm h hs D ι w vs S U ⟨by rw[A.1,hc.len],fun j a' hj=>by
  obtain⟨a,ha,hr⟩:=hc.get (P:=P) (w:=w) (D:=D) (ι:=ι) hj
  obtain⟨u,hu,hv⟩:=A.2 j a ha
  exact⟨u,hu,hr u hv⟩⟩
theorem aq.cut {P:Program} (hm:P.follows .mixedOrders=true) {f:Nat} {args args':List AV} {r:AV} (hc:oM args args') (h:aq P f args' r):aq P f args r:=fun n=>(h n).cut hm hc
theorem iM.cut {P:Program} (hm:P.follows .mixedOrders=true) {f:Nat} {args args':List AV} {r:AV} (hc:oM args args') (h:iM P f args' r):iM P f args r:=fun σ=>Call.cut hm hc (h σ)
end Go.Proofs.YtgoelphibofcmaaGreat.V

namespace Go.Proofs.YtgoelphibofcmaaGreat.V
open Go.RowKit
attribute [local irreducible] dQ wpOps fX Call
attribute [local go_sem] aQ fM eU fY fW dm upd cG K.av cQ AV.cells AV.cell rowOf rowsOf part ld rowAt bQ cC dE ea gZ bS dh eo fV fj dB ef dd dc dS dU b4 bj cV bW cY cW ec eh ee cU ck de eb bV aU da cK gY bx cP cj bd dv bl dG AV.undef bH bK dW dZ dO dL cN ek eu cJ ej ei cZ db List.getD_cons_zero List.getD_cons_succ List.getD_nil List.all_cons List.all_nil Bool.and_true Bool.true_and Bool.and_self Bool.not_true Bool.not_false Option.map_some Option.map_none Option.bind_some Option.bind_none List.length_cons List.length_nil List.take_succ_cons List.take_zero List.take_nil List.drop_succ_cons List.drop_zero List.drop_nil List.head?_cons List.map_cons List.map_nil List.getElem?_cons_zero List.getElem?_cons_succ List.cons_append List.nil_append List.append_nil List.length_map List.set_cons_zero List.set_cons_succ eq_self Int.toNat_natCast Int.natCast_nonneg and_self true_and and_true decide_true decide_false Bool.false_eq_true Nat.zero_add Nat.add_zero List.contains_cons List.contains_nil Bool.or_false Bool.false_or beq_self_eq_true ne_eq not_true_eq_false not_false_eq_true Id.mk.injEq false_and and_false Nat.le_refl List.length_append beq_true beq_false Bool.not_eq_eq_eq_not or_false false_or dX ae aj aJ bq bG cr aY bf aW bp cR bB
section
variable {P:Program} {α:Type} {e:α->List AV} {z:Nat} {g g':Rows} {v:AV} {L:List α} {ids:List Id}
def Aa (e:α->List AV) (z:Nat) (g:Rows) (v:AV) (L:List α) (ids:List Id):Prop:=(L=[]/\v=.bD/\ids=[])∨∃o,v=.own o 0 L.length/\g o=some ⟨true,z,L.map e⟩/\ids=[o]/\0<L.length
def UR (e:α->List AV) (L:List α):AV:=if L.length=0 then .bD else .sl (L.map e)
theorem Aa.frame (h:Aa e z g v L ids) (hf:∀i∈ids,g' i=g i):Aa e z g' v L ids:=by
 rcases h with h|⟨o,h1,h2,rfl,hp⟩
 ·exact .inl h
 ·exact .inr ⟨o,h1,(hf o (by simp)).trans h2,rfl,hp⟩
def lf (e:α->List AV) (L:List α) (w:AV):Prop:=(w=.bD/\L=[])∨w=.sl (L.map e)
theorem Aa.fz (h:Aa e z g v L ids) (he:∀x g,dt g 5 (e x)=some (e x)):∃w,V.fz (dX g) 6 v=some w/\lf e L w:=by
 rcases h with⟨rfl,rfl,_⟩|⟨o,rfl,h2,_⟩
 ·exact⟨.bD,aY _ _,.inl ⟨rfl,rfl⟩⟩
 ·exact⟨_,il (e:=e) (sz:=z) (by simp[dX,h2]) rfl fun x=>he x _,.inr rfl⟩
def qJ (P:Program) (f:Nat) (args:List AV) (e:α->List AV) (z:Nat) (L:List α) (c:Int):Prop:=
 ∀n:Nat,Call P f args ⟨fun _=>none,n⟩ (fun r σ'=>∃v ids,r=.gD [v,.int .i64 c]/\Aa e z σ'.get v L ids/\gQ n σ'.next ids)
theorem th (hm:P.follows .mixedOrders=true) {f:Nat} {args:List AV} {σ:au} {K:AV->au->Prop} (h:Call P f args σ K):Call P f args σ (fun r σ'=>K r σ'/\σ.next<=σ'.next):=
 ig fun hs D ι w vs S U A=>(gG hm h hs D ι w vs S U A).mono (by
  rintro e w' ⟨r,g',n',D2,ι1,u,rfl,hK,T,S1,U1,hn,hR⟩
  exact⟨r,g',n',D2,ι1,u,rfl,⟨hK,hn⟩,T,S1,U1,hn,hR⟩)
theorem BN (hm:P.follows .mixedOrders=true) {f:Nat} {args args':List AV} {σ:au} {c:Int} (nG:∀x,(e x).all AV.clean=true) (h:qJ P f args' e z L c) (hv:dt (dX σ.get) 6 args=some args'):
  Call P f args σ (fun r σ'=>∃v ids,r=.gD [v,.int .i64 c]/\Aa e z σ'.get v L ids/\gQ σ.next σ'.next ids/\Kept σ σ'):=by
 refine wj hm hv (aE _ _ _ _ _ (fun r σ' hq=>?_) (th hm (h σ.next)))
 obtain⟨⟨v,ids,rfl,ho,hi⟩,hn⟩:=hq
 refine⟨ids,?_,?_,v,ids,rfl,?_,hi,hn,fun j hj=>k8 fun hc=>?_⟩
 ·rcases ho with⟨_,rfl,_⟩|⟨o,rfl,_⟩<;>rfl
 ·rcases ho with⟨_,_,rfl⟩|⟨o,_,h2,rfl,_⟩
  ·intro i hi;cases hi
  ·intro i hi
   rw[List.mem_singleton.1 hi]
   refine⟨_,h2,rfl,fun cs dC a ha=>?_⟩
   obtain⟨x,_,rfl⟩:=List.mem_map.1 dC
   have:=nG x
   rw[List.all_eq_true]at this
   exact this a ha
 ·exact ho.frame fun i hi=>pN hi
 ·have:=(hi.2 j hc).1;omega
theorem qJ.s {f:Nat} {args:List AV} {c:Int} (he:∀x g,eI g 4 (e x)=some (e x)) (h:qJ P f args e z L c):aq P f args (.gD [UR e L,.int .i64 c]):=fun n=>
 aE _ _ _ _ _ (fun r σ' hq=>by
  obtain⟨v,ids,rfl,ho,hi⟩:=hq
  rcases ho with⟨rfl,rfl,_⟩|⟨o,rfl,h2,_,hp⟩
  ·exact⟨_,by simp only[e9,bt,cz,jE,er,Option.map_some];rfl,rfl⟩
  ·have:=fu (e:=e) (n:=4) h2 rfl fun x=>he x _
   exact⟨_,by simp only[e9,bt,cz,this,er,Option.map_some];rfl,by rw[UR,if_neg (by omega)]⟩) (h n)
theorem sI:lf e L (UR e L):=by
 unfold UR
 split
 ·rename_i h;exact .inl ⟨rfl,List.eq_nil_of_length_eq_zero h⟩
 ·exact .inr rfl
end
theorem lf.two {α:Type} {e:α->List AV} {L:List α} {w:AV} (h:lf e L w):oM [w] [.sl (L.map e)]:=by
 rcases h with⟨rfl,rfl⟩|rfl
 ·exact .bD .nil
 ·exact .same _ .nil
theorem lf.cut {α:Type} {e:α->List AV} {L:List α} {w:AV} (h:lf e L w) {l l':List AV} (hl:oM l l'):oM (w::l) (.sl (L.map e)::l'):=by
 rcases h with⟨rfl,rfl⟩|rfl
 ·exact .bD hl
 ·exact .same _ hl
end Go.Proofs.YtgoelphibofcmaaGreat.V

namespace Go.Proofs.YtgoelphibofcmaaGreat.V
open Go.RowKit
attribute [local irreducible] dQ wpOps fX Call
attribute [local go_sem] aQ fM eU fY fW dm upd cG K.av cQ AV.cells AV.cell rowOf rowsOf part ld rowAt bQ cC dE ea gZ bS dh eo fV fj dB ef dd dc dS dU b4 bj cV bW cY cW ec eh ee cU ck de eb bV aU da cK gY bx cP cj bd dv bl dG AV.undef bH bK dW dZ dO dL cN ek eu cJ ej ei cZ db List.getD_cons_zero List.getD_cons_succ List.getD_nil List.all_cons List.all_nil Bool.and_true Bool.true_and Bool.and_self Bool.not_true Bool.not_false Option.map_some Option.map_none Option.bind_some Option.bind_none List.length_cons List.length_nil List.take_succ_cons List.take_zero List.take_nil List.drop_succ_cons List.drop_zero List.drop_nil List.head?_cons List.map_cons List.map_nil List.getElem?_cons_zero List.getElem?_cons_succ List.cons_append List.nil_append List.append_nil List.length_map List.set_cons_zero List.set_cons_succ Nat.reduceMul eq_self Int.toNat_natCast Int.natCast_nonneg and_self true_and and_true decide_true decide_false Bool.false_eq_true Nat.zero_add Nat.add_zero List.contains_cons List.contains_nil Bool.or_false Bool.false_or beq_self_eq_true Nat.reduceBEq ne_eq not_true_eq_false not_false_eq_true Id.mk.injEq false_and and_false Nat.reduceLT Int.reduceLE Int.reduceLT Int.reduceToNat Int.reduceNeg Int.reduceAdd Nat.le_refl List.length_append beq_true beq_false Bool.not_eq_eq_eq_not or_false false_or dX ae aj aJ bq bG cr aY bf aW bp cR bB
theorem H6 (i:Id) (l:List ab) (k:Int) (h0:0<=k) (h1:k+3*l.length<=4611686018427387904) (σ:au) (hv:i.bE<σ.next) (hg:σ.get i=some ⟨true,3,l.map aa⟩):
  Call Tryz.prog 44 [.own i 0 l.length,.int .i64 k] σ (fun r σ'=>r=.int .i64 (k+3*l.length)/\ou σ [i] σ'.get σ'.next/\σ'.get i=some ⟨true,3,(I7 k l.length).map aa⟩):=by
 refine eJ eF rfl fun hl=>?_
 clear hl
 have hz:jT k l 0=l:=by simp[jT,I7]
 (try((repeat(revert hN;revert N;apply Pn.out));refine wk @Nat.zero_add ?_;(repeat(refine Pn.mk ?_;intro N hN))))
 refine aZ (fun n env st=>∃j:Nat,n=(l.length)-j/\j<=(l.length)/\env 5=.int .i64 (j:Int)/\env 1=.int .i64 (k+3*j)/\st.get i=some ⟨true,3,(jT k l j).map aa⟩/\(ou σ [i] st.get st.next)) (l.length) ⟨0,by omega,by omega,sl (tw @Int.add_zero (tw @Int.natCast_zero (tw @Int.mul_zero (tw @hz @hg)))),sl (tw @Int.add_zero (tw @Int.natCast_zero (tw @Int.mul_zero (tw @hz @hg)))),sl (tw @Int.add_zero (tw @Int.natCast_zero (tw @Int.mul_zero (tw @hz @hg)))),by(try dsimp only);exact⟨by(try dsimp only);omega,fun x _ _=>rfl⟩⟩ ?_
 rintro n_a env_a st_a ⟨j,rfl,ale,a5,a1,ag0,jO⟩ dy
 have a0:=dy 0 (by kernel_rfl)
 simp only[go_sem, ↓reduceIte,Nat.reduceEqDiff,Nat.reduceAdd,Nat.reduceSub,Nat.reduceLeDiff,reduceCtorEq,Int.add_zero,Int.natCast_zero,Int.mul_zero,hz,hg]at a0
 clear dy
 obtain⟨an,aF⟩:=jO
 by_cases hj:(j:Int)<(l.length:Int)
 ·have cw:∀{e:Env} {gg:Rows} {nx:Nat},(e 5=.int .i64 (IntKind.i64.wrap ((j:Int)+1)))->(e 1=.int .i64 (k+3*(j+1)))->(gg i=some ⟨true,3,(jT k l (j+1)).map aa⟩)->(ou σ [i] gg nx)->∃m0,m0<(l.length)-j/\∃j:Nat,m0=(l.length)-j/\j<=(l.length)/\e 5=.int .i64 (j:Int)/\e 1=.int .i64 (k+3*j)/\gg i=some ⟨true,3,(jT k l j).map aa⟩/\(ou σ [i] gg nx):=fun x1 x2 x3 x4=>⟨_,by omega,j+1,rfl,by omega,(by rw[x1,aD (by omega)]),x2,x3,x4⟩
  have iK:j<l.length:=by omega
  have fC:=GK (k:=k) iK
  have eL:=C9 (k:=k) iK
  have oq:IntKind.i64.wrap (k+3*(j:Int)+1)=k+3*(j:Int)+1:=bI (by omega)
  have rD:IntKind.i64.wrap (k+3*(j:Int)+1+1)=k+3*(j:Int)+2:=by rw[bI (by omega)];omega
  have OD:IntKind.i64.wrap (k+3*(j:Int)+2+1)=k+3*((j:Int)+1):=by rw[bI (by omega)];omega
  have hlen:((jT k l j).map aa).length=l.length:=by rw[List.length_map,C8 (by omega)]
  have Ka:∀c:List AV,(((jT k l j).map aa).set j c)[j]? =some c:=fun c=>by rw[List.getElem?_set_self (by rw[hlen];exact iK)]
  (try((repeat(revert hN;revert N;apply Pn.out));refine wk (tw @a5 (tw @a1 (tw @ag0 (tw @a0 (tw @hj (tw @fC (tw @Ka (tw @eL (tw @oq (tw @rD (tw @OD (tw @hlen @sS)))))))))))) ?_;(repeat(refine Pn.mk ?_;intro N hN))))
  refine cw ?_ ?_ ?_ (by(try dsimp only);exact⟨by(try dsimp only);omega,fun x hx hi=>by
   have h2:=aF x hx hi
   have h3:(x=i)=False:=eq_false fun e=>hi (by simp[e])
   simp only[go_sem, ↓reduceIte,Nat.reduceEqDiff,Nat.reduceAdd,Nat.reduceSub,Nat.reduceLeDiff,reduceCtorEq,h2,h3]⟩)
  all_goals simp only[go_sem, ↓reduceIte,Nat.reduceEqDiff,Nat.reduceAdd,Nat.reduceSub,Nat.reduceLeDiff,reduceCtorEq,a5,a1,ag0,a0,OD,eL]
 ·have iK:j=l.length:=by omega
  subst iK
  (try((repeat(revert hN;revert N;apply Pn.out));refine wk (tw @a5 (tw @a1 (tw @ag0 (tw @a0 @hj)))) ?_;(repeat(refine Pn.mk ?_;intro N hN))))
  have k6:jT k l l.length=I7 k l.length:=by simp[jT]
  rw[k6]at ag0
  exact eV (.inl rfl) (vs:=[.int .i64 (k+3*l.length)]) (sd (tw @a5 (tw @a1 (tw @ag0 @a0)))) ⟨rfl,⟨by(try dsimp only);omega,fun x hx hi=>aF x hx hi⟩,ag0⟩
theorem MG (a b:ab):aq Tryz.prog 26 [.agg (aa a),.agg (aa b)] (.bool (decide (a=b))):=by
 refine aq.body eF rfl fun hl n0=>?_
 clear hl
 have h:=ze a.aL b.aL
 rw[ah,ah]at h
 by_cases h1:a.aL=b.aL
 ·rw[decide_eq_true h1]at h
  by_cases h2:a.aT=b.aT
  ·have e2:decide (a.aT=b.aT)=true:=decide_eq_true h2
   (repeat(first|((repeat(revert hN;revert N;apply Pn.out));refine wk (tw @aa.eq_1 @e2) ?_;(repeat(refine Pn.mk ?_;intro N hN)))|((try apply Or.inl);refine⟨_,aq.x (h) (sd (tw @aa.eq_1 @e2)),?_⟩;refine hN _ _ ?_;clear hN N)))
   exact bc (b:=true) (.inl rfl) (sd @Nat.zero_add) (decide_eq_true (by cases a;cases b;simp_all)).symm
  ·have e2:decide (a.aT=b.aT)=false:=decide_eq_false h2
   (repeat(first|((repeat(revert hN;revert N;apply Pn.out));refine wk (tw @aa.eq_1 @e2) ?_;(repeat(refine Pn.mk ?_;intro N hN)))|((try apply Or.inl);refine⟨_,aq.x (h) (sd (tw @aa.eq_1 @e2)),?_⟩;refine hN _ _ ?_;clear hN N)))
   exact bc (b:=false) (.inl rfl) (sd @Nat.zero_add) (decide_eq_false (by rintro rfl;exact h2 rfl)).symm
 ·rw[decide_eq_false h1]at h
  (repeat(first|((repeat(revert hN;revert N;apply Pn.out));refine wk @aa.eq_1 ?_;(repeat(refine Pn.mk ?_;intro N hN)))|((try apply Or.inl);refine⟨_,aq.x (h) (sd @aa.eq_1),?_⟩;refine hN _ _ ?_;clear hN N)))
  exact bc (b:=false) (.inl rfl) (sd @Nat.zero_add) (decide_eq_false (by rintro rfl;exact h1 rfl)).symm
theorem Ch (xs ys:List ab):aq Tryz.prog 43 [.sl (xs.map aa),.sl (ys.map aa)] (.bool (decide (xs=ys))):=
 Ar (show lV Tryz.prog 43=some (Cj 43 26 3) by kernel_rfl) (fun _=>rfl) xc xs ys MG
end Go.Proofs.YtgoelphibofcmaaGreat.V

namespace Go.Proofs.YtgoelphibofcmaaGreat.V
open Go.RowKit
variable {P:Program}
theorem KG (hm:P.follows .mixedOrders=true) {f:Nat} {args:List AV} {vs:Array Value} {w:World} (h:aq P f args (.bool true)) (hA:fF P w (fun b=>b<w.heap.size) (fun _=>none) args vs):
  Calls P f vs w fun e w'=>e=.returned (.bool true)/\Below w.heap.size w w':=by
 have hs:=gG hm (h 0) w.heap.size (fun b=>b<w.heap.size) (fun _=>none) w vs ⟨Nat.le_refl _,fun _ h=>h,fun id r h=>(by cases h),fun id kf r r' B B' h=>(by cases h)⟩ (fun id h=>absurd rfl h) hA
 refine hs.mono ?_
 rintro e w' ⟨r,g',n',D',ι',u,rfl,⟨r',hz,rfl⟩,dJ,hsim,_,_,gH⟩
 have hr:r=.bool true:=by
  cases r<;>rw[gK]at hz<;>simp_all
  all_goals (repeat' (split at hz))<;>simp_all
 subst hr
 exact⟨by rw[fA gH],dJ.below⟩
theorem kC {xs:List AV} {w:World} {D:Nat->Prop} {ι:Names} {a:AV} {v:Value} {vs:Array Value} (h:j0 P w D a v) (k:fF P w D ι xs vs):fF P w D ι (a::xs) (#[v]++vs):=
 pG (xs:=[a]) ⟨rfl,fun j b hj=>by
  cases j with
  |zero=>simp at hj;subst hj;exact⟨v,rfl,.eZ _ _ h⟩
  |succ j=>simp at hj⟩ k
end Go.Proofs.YtgoelphibofcmaaGreat.V

namespace Go.Proofs.YtgoelphibofcmaaGreat.V
open Go.RowKit
attribute [local irreducible] dQ wpOps fX Call
attribute [local go_sem] aQ fM eU fY fW dm upd cG K.av cQ AV.cells AV.cell rowOf rowsOf part ld rowAt bQ cC dE ea gZ bS dh eo fV fj dB ef dd dc dS dU b4 bj cV bW cY cW ec eh ee cU ck de eb bV aU da cK gY bx cP cj bd dv bl dG AV.undef bH bK dW dZ dO dL cN ek eu cJ ej ei cZ db List.getD_cons_zero List.getD_cons_succ List.getD_nil List.all_cons List.all_nil Bool.and_true Bool.true_and Bool.and_self Bool.not_true Bool.not_false Option.map_some Option.map_none Option.bind_some Option.bind_none List.length_cons List.length_nil List.take_succ_cons List.take_zero List.take_nil List.drop_succ_cons List.drop_zero List.drop_nil List.head?_cons List.map_cons List.map_nil List.getElem?_cons_zero List.getElem?_cons_succ List.cons_append List.nil_append List.append_nil List.length_map List.set_cons_zero List.set_cons_succ Nat.reduceMul eq_self Int.toNat_natCast Int.natCast_nonneg and_self true_and and_true decide_true decide_false Bool.false_eq_true Nat.zero_add Nat.add_zero List.contains_cons List.contains_nil Bool.or_false Bool.false_or beq_self_eq_true Nat.reduceBEq ne_eq not_true_eq_false not_false_eq_true Id.mk.injEq false_and and_false Nat.reduceLT Int.reduceLE Int.reduceLT Int.reduceToNat Int.reduceNeg Int.reduceAdd Nat.le_refl List.length_append beq_true beq_false Bool.not_eq_eq_eq_not or_false false_or dX ae aj aJ bq bG cr aY bf aW bp cR bB
theorem QQ {α:Type} (f:α->Nat) {xs:List α} {x:α} (h:x∈xs):f x<=(xs.map f).sum:=by
 induction xs with
 |nil=>cases h
 |cons y ys ih=>
  simp only[List.map_cons,List.sum_cons]
  rcases List.mem_cons.1 h with rfl|h
  ·omega
  ·have:=ih h;omega
theorem zX {s:aw} (h:qx s<=1048576):mK s:=by
 unfold qx vm at h
 refine⟨⟨by omega,by omega,fun t ht=>?_⟩,by omega⟩
 have:=QQ kR ht
 have h2:t.bL.length<=kR t:=by unfold kR;omega
 unfold tn
 omega
end Go.Proofs.YtgoelphibofcmaaGreat.V

namespace Go.Proofs.YtgoelphibofcmaaGreat.V
open Go.RowKit
attribute [local irreducible] dQ wpOps fX Call
attribute [local go_sem] aQ fM eU fY fW dm upd cG K.av cQ AV.cells AV.cell rowOf rowsOf part ld rowAt bQ cC dE ea gZ bS dh eo fV fj dB ef dd dc dS dU b4 bj cV bW cY cW ec eh ee cU ck de eb bV aU da cK gY bx cP cj bd dv bl dG AV.undef bH bK dW dZ dO dL cN ek eu cJ ej ei cZ db List.getD_cons_zero List.getD_cons_succ List.getD_nil List.all_cons List.all_nil Bool.and_true Bool.true_and Bool.and_self Bool.not_true Bool.not_false Option.map_some Option.map_none Option.bind_some Option.bind_none List.length_cons List.length_nil List.take_succ_cons List.take_zero List.take_nil List.drop_succ_cons List.drop_zero List.drop_nil List.head?_cons List.map_cons List.map_nil List.getElem?_cons_zero List.getElem?_cons_succ List.cons_append List.nil_append List.append_nil List.length_map List.set_cons_zero List.set_cons_succ eq_self Int.toNat_natCast Int.natCast_nonneg and_self true_and and_true decide_true decide_false Bool.false_eq_true Nat.zero_add Nat.add_zero List.contains_cons List.contains_nil Bool.or_false Bool.false_or beq_self_eq_true ne_eq not_true_eq_false not_false_eq_true Id.mk.injEq false_and and_false Nat.le_refl List.length_append beq_true beq_false Bool.not_eq_eq_eq_not or_false false_or dX ae aj aJ bq bG cr aY bf aW bp cR bB
theorem GX {g:Rows} {v w:AV} {s:aw} {i:List Id} (hX:Ac g v s i) (hw:fz (dX g) 6 w=some w):dt (dX g) 6 [v,w]=some [.agg (ar s),w]:=by
 simp only[ae,aj,hX.fz 1,hw,Option.map_some]
theorem vH (g:Rows) (s:aw):fz g 6 (.agg (ar s))=some (.agg (ar s)):=by simp[ar,bf,ae,aj,cr,aJ]
theorem kO {g:Rows} {v w v' w':AV} (h1:fz g 6 v=some v') (h2:fz g 6 w=some w'):dt g 6 [v,w]=some [v',w']:=by
 simp only[ae,aj,h1,h2,Option.map_some]
theorem GJ (s:aw):yR s<=3*qx s:=by
 have h:∀l:List fh,(l.map gS).sum<=l.length+(l.map kR).sum:=fun l=>by
  induction l with
  |nil=>simp
  |cons t l ih=>simp only[List.map_cons,List.sum_cons,List.length_cons,gS,kR]at *;omega
 have:=h s.aI.ai
 unfold yR qx vm
 omega
theorem gQ.not {a b:Nat} {ids:List Id} (h:gQ a b ids) {x:Id} (hx:x.bE<a∨b<=x.bE):x∉ids:=fun hc=>by
 have:=h.2 x hc;omega
theorem lf.fz {α:Type} {e:α->List AV} {L:List α} {w:AV} (h:lf e L w) (g:Rows):V.fz g 6 w=some w:=by
 rcases h with⟨rfl,rfl⟩|rfl
 ·exact aY _ _
 ·exact cr _ _ _
end Go.Proofs.YtgoelphibofcmaaGreat.V

namespace Go.Proofs.YtgoelphibofcmaaGreat.V
open Go.RowKit
attribute [local irreducible] dQ wpOps fX Call
attribute [local go_sem] aQ fM eU fY fW dm upd cG K.av cQ AV.cells AV.cell rowOf rowsOf part ld rowAt bQ cC dE ea gZ bS dh eo fV fj dB ef dd dc dS dU b4 bj cV bW cY cW ec eh ee cU ck de eb bV aU da cK gY bx cP cj bd dv bl dG AV.undef bH bK dW dZ dO dL cN ek eu cJ ej ei cZ db List.getD_cons_zero List.getD_cons_succ List.getD_nil List.all_cons List.all_nil Bool.and_true Bool.true_and Bool.and_self Bool.not_true Bool.not_false Option.map_some Option.map_none Option.bind_some Option.bind_none List.length_cons List.length_nil List.take_succ_cons List.take_zero List.take_nil List.drop_succ_cons List.drop_zero List.drop_nil List.head?_cons List.map_cons List.map_nil List.getElem?_cons_zero List.getElem?_cons_succ List.cons_append List.nil_append List.append_nil List.length_map List.set_cons_zero List.set_cons_succ Nat.reduceMul eq_self Int.toNat_natCast Int.natCast_nonneg and_self true_and and_true decide_true decide_false Bool.false_eq_true Nat.zero_add Nat.add_zero List.contains_cons List.contains_nil Bool.or_false Bool.false_or beq_self_eq_true Nat.reduceBEq ne_eq not_true_eq_false not_false_eq_true Id.mk.injEq false_and and_false Nat.reduceLT Int.reduceLE Int.reduceLT Int.reduceToNat Int.reduceNeg Int.reduceAdd Nat.le_refl List.length_append beq_true beq_false Bool.not_eq_eq_eq_not or_false false_or dX ae aj aJ bq bG cr aY bf aW bp cR bB
theorem Dz (xs:List ab) (l:Int) (h0:0<=l) (h1:l<=1048576):aq Tryz.prog 50 [.sl (xs.map aa),.int .i64 l] (.int .i64 (ym xs.length l)):=by
 have h:=FQ (show lV Tryz.prog 50=some (GY 50) by kernel_rfl) (xs.map aa) l h0 h1
 rwa [List.length_map]at h
theorem FU (p:ab):iM Tryz.prog 39 [.agg (aa p)] (.agg (aa p)):=by
 refine iM.body eF rfl fun hl σ=>?_
 clear hl
 have h:=qm p.aL
 rw[ah]at h
 (repeat(first|((repeat(revert hN;revert N;apply Pn.out));refine wk @aa.eq_1 ?_;(repeat(refine Pn.mk ?_;intro N hN)))|((try apply Or.inl);refine⟨_,iM.x (h) _,?_⟩;refine hN _ _ ?_;clear hN N)))
 exact rP (.inl rfl) (vs:=[.agg (aa p)]) (by simp only[go_sem, ↓reduceIte,Nat.reduceEqDiff,Nat.reduceAdd,Nat.reduceSub,Nat.reduceLeDiff,reduceCtorEq,fG,iG,aa]) (by simp[eW,aa,bf,ae,aj,aJ])
theorem DG (xs:List ab) (h:xs.length<=1048576):iM Tryz.prog 52 [.sl (xs.map aa)] (.sl (xs.map aa)):=
 Bm (show lV Tryz.prog 52=some (qI 52 39 3 [.int .i64 0,.int .i64 0,.int .i64 0]) by kernel_rfl) rfl (fun _=>rfl) (fun _=>rfl) zR xs h fun x _=>FU x
theorem FT (p:ab) (σ:au):Call Tryz.prog 39 [.agg (aa p)] σ (Jg (jq aa) p σ):=by
 refine eJ eF rfl fun hl=>?_
 clear hl
 have h:=qm p.aL
 rw[ah]at h
 (repeat(first|((repeat(revert hN;revert N;apply Pn.out));refine wk @aa.eq_1 ?_;(repeat(refine Pn.mk ?_;intro N hN)))|((try apply Or.inl);refine⟨_,iM.x (h) _,?_⟩;refine hN _ _ ?_;clear hN N)))
 refine eV (.inl rfl) (vs:=[.agg (aa p)]) (sd @aa.eq_1) ?_
 exact⟨_,[],rfl,⟨rfl,rfl⟩,⟨List.nodup_nil,fun i hi=>by cases hi⟩,⟨by(try dsimp only);omega,fun j hj=>by
  have h1:=dr hj
  simp only[go_sem, ↓reduceIte,Nat.reduceEqDiff,Nat.reduceAdd,Nat.reduceSub,Nat.reduceLeDiff,reduceCtorEq,h1]⟩⟩
theorem DF (xs:List ab) (h:xs.length<=1048576) (σ:au):Call Tryz.prog 52 [.sl (xs.map aa)] σ (Jh (jq aa) 3 xs σ):=
 wb mO (show lV Tryz.prog 52=some (qI 52 39 3 [.int .i64 0,.int .i64 0,.int .i64 0]) by kernel_rfl) rfl (fun _=>rfl) xs h (fun x _ σ=>FT x σ) σ
def I6 (k:Int) (n:Nat):List Int:=(List.range n).map fun j:Nat=>k+(j:Int)
theorem jg (k:Int) (n:Nat):(I6 k n).length=n:=by simp[I6]
def jK (k:Int) (l:List Int) (j:Nat):List Int:=I6 k j++l.drop j
theorem zB {k:Int} {l:List Int} {j:Nat} (h:j<=l.length):(jK k l j).length=l.length:=by simp[jK,jg];omega
theorem KQ {k:Int} {l:List Int} {j:Nat} (h:j<l.length):((jK k l j).map az)[j]? =some [.int .i64 l[j]]:=by
 have h2:j<(jK k l j).length:=by rw[zB (by omega)];exact h
 have h3:(jK k l j)[j]'h2=l[j]:=by simp[jK,List.getElem_append,jg]
 rw[r9 h2,h3]
theorem H8 {k:Int} {l:List Int} {j:Nat} (h:j<l.length):((jK k l j).map az).set j [.int .i64 (k+(j:Int))]=(jK k l (j+1)).map az:=by
 have h1:(jK k l j).set j (k+(j:Int))=jK k l (j+1):=by
  unfold jK
  rw[List.set_append_right _ _ (by rw[jg];omega),jg,Nat.sub_self]
  have h2:l.drop j=l[j]::l.drop (j+1):=List.drop_eq_getElem_cons h
  rw[h2,List.set_cons_zero]
  simp[I6,List.range_succ]
 rw[<-h1,List.map_set];rfl
theorem Nu (i:Id) (l:List Int) (k:Int) (h0:0<=k) (h1:k+l.length<=4611686018427387904) (σ:au) (hv:i.bE<σ.next) (hg:σ.get i=some ⟨true,1,l.map az⟩):
  Call Tryz.prog 33 [.own i 0 l.length,.int .i64 k] σ (fun r σ'=>r=.int .i64 (k+l.length)/\ou σ [i] σ'.get σ'.next/\σ'.get i=some ⟨true,1,(I6 k l.length).map az⟩):=by
 refine eJ eF rfl fun hl=>?_
 clear hl
 have hz:jK k l 0=l:=by simp[jK,I6]
 (try((repeat(revert hN;revert N;apply Pn.out));refine wk @Nat.zero_add ?_;(repeat(refine Pn.mk ?_;intro N hN))))
 refine aZ (fun n env st=>∃j:Nat,n=(l.length)-j/\j<=(l.length)/\env 5=.int .i64 (j:Int)/\env 1=.int .i64 (k+j)/\st.get i=some ⟨true,1,(jK k l j).map az⟩/\(ou σ [i] st.get st.next)) (l.length) ⟨0,by omega,by omega,sl (tw @Int.add_zero (tw @Int.natCast_zero (tw @hz @hg))),sl (tw @Int.add_zero (tw @Int.natCast_zero (tw @hz @hg))),sl (tw @Int.add_zero (tw @Int.natCast_zero (tw @hz @hg))),by(try dsimp only);exact⟨by(try dsimp only);omega,fun x _ _=>rfl⟩⟩ ?_
 rintro n_a env_a st_a ⟨j,rfl,ale,a5,a1,ag0,jO⟩ dy
 have a0:=dy 0 (by kernel_rfl)
 simp only[go_sem, ↓reduceIte,Nat.reduceEqDiff,Nat.reduceAdd,Nat.reduceSub,Nat.reduceLeDiff,reduceCtorEq,Int.add_zero,Int.natCast_zero,hz,hg]at a0
 clear dy
 obtain⟨an,aF⟩:=jO
 by_cases hj:(j:Int)<(l.length:Int)
 ·have cw:∀{e:Env} {gg:Rows} {nx:Nat},(e 5=.int .i64 (IntKind.i64.wrap ((j:Int)+1)))->(e 1=.int .i64 (k+(j+1)))->(gg i=some ⟨true,1,(jK k l (j+1)).map az⟩)->(ou σ [i] gg nx)->∃m0,m0<(l.length)-j/\∃j:Nat,m0=(l.length)-j/\j<=(l.length)/\e 5=.int .i64 (j:Int)/\e 1=.int .i64 (k+j)/\gg i=some ⟨true,1,(jK k l j).map az⟩/\(ou σ [i] gg nx):=fun x1 x2 x3 x4=>⟨_,by omega,j+1,rfl,by omega,(by rw[x1,aD (by omega)]),x2,x3,x4⟩
  have iK:j<l.length:=by omega
  have fC:=KQ (k:=k) iK
  have eL:=H8 (k:=k) iK
  have hw:IntKind.i64.wrap (k+(j:Int)+1)=k+((j:Int)+1):=by rw[bI (by omega)];omega
  have hlen:((jK k l j).map az).length=l.length:=by rw[List.length_map,zB (by omega)]
  (try((repeat(revert hN;revert N;apply Pn.out));refine wk (tw @a5 (tw @a1 (tw @ag0 (tw @a0 (tw @hj (tw @fC (tw @eL (tw @hw @hlen)))))))) ?_;(repeat(refine Pn.mk ?_;intro N hN))))
  refine cw ?_ ?_ ?_ (by(try dsimp only);exact⟨by(try dsimp only);omega,fun x hx hi=>by
   have h2:=aF x hx hi
   have h3:(x=i)=False:=eq_false fun e=>hi (by simp[e])
   simp only[go_sem, ↓reduceIte,Nat.reduceEqDiff,Nat.reduceAdd,Nat.reduceSub,Nat.reduceLeDiff,reduceCtorEq,h2,h3]⟩)
  all_goals simp only[go_sem, ↓reduceIte,Nat.reduceEqDiff,Nat.reduceAdd,Nat.reduceSub,Nat.reduceLeDiff,reduceCtorEq,a5,a1,ag0,a0,hw,eL]
 ·have iK:j=l.length:=by omega
  subst iK
  (try((repeat(revert hN;revert N;apply Pn.out));refine wk (tw @a5 (tw @a1 (tw @ag0 (tw @a0 @hj)))) ?_;(repeat(refine Pn.mk ?_;intro N hN))))
  have k6:jK k l l.length=I6 k l.length:=by simp[jK]
  rw[k6]at ag0
  exact eV (.inl rfl) (vs:=[.int .i64 (k+l.length)]) (sd (tw @a5 (tw @a1 (tw @ag0 @a0)))) ⟨rfl,⟨by(try dsimp only);omega,fun x hx hi=>aF x hx hi⟩,ag0⟩
theorem KP (k:Int) (σ:au):Call Tryz.prog 33 [.bD,.int .i64 k] σ (fun r σ'=>r=.int .i64 k/\ou σ [] σ'.get σ'.next):=by
 refine eJ eF rfl fun hl=>?_
 clear hl
 (try((repeat(revert hN;revert N;apply Pn.out));refine wk @Nat.zero_add ?_;(repeat(refine Pn.mk ?_;intro N hN))))
 refine aZ (fun n env st=>(env 1=.int .i64 k/\env 5=.int .i64 0/\env 0=.bD)/\σ.next<=st.next/\∀x:Id,st.get x=σ.get x) 0 ⟨⟨sd @Nat.zero_add,sd @Nat.zero_add,sd @Nat.zero_add⟩,by(try dsimp only);omega,fun _=>rfl⟩ ?_
 rintro m e st ⟨⟨a1,a5,a0⟩,an,aF⟩ -
 have d0:decide ((0:Int)<((0:Nat):Int))=false:=rfl
 (try((repeat(revert hN;revert N;apply Pn.out));refine wk (tw @a0 (tw @a1 (tw @a5 @d0))) ?_;(repeat(refine Pn.mk ?_;intro N hN))))
 exact eV (.inl rfl) (vs:=[.int .i64 k]) (sd @a1) ⟨rfl,⟨by(try dsimp only);omega,fun x hx hi=>aF x⟩⟩
theorem C3 {v:AV} {L:List Int} {ids:List Id} (k:Int) (h0:0<=k) (h1:k+L.length<=4611686018427387904) (σ:au) (hv:∀i∈ids,i.bE<σ.next) (h:Aa az 1 σ.get v L ids):
  Call Tryz.prog 33 [v,.int .i64 k] σ (fun r σ'=>r=.int .i64 (k+L.length)/\ou σ ids σ'.get σ'.next/\Aa az 1 σ'.get v (I6 k L.length) ids):=by
 rcases h with⟨rfl,rfl,rfl⟩|⟨o,rfl,h2,rfl,hp⟩
 ·refine aE _ _ _ _ _ (fun r σ' hq=>?_) (KP k σ)
  obtain⟨rfl,hB⟩:=hq
  exact⟨by simp,hB,.inl ⟨rfl,rfl,rfl⟩⟩
 ·refine aE _ _ _ _ _ (fun r σ' hq=>?_) (Nu o L k h0 h1 σ (hv o (by simp)) h2)
  obtain⟨rfl,hB,hg⟩:=hq
  exact⟨rfl,hB,.inr ⟨o,by rw[jg],hg,rfl,by rw[jg];exact hp⟩⟩
theorem Qy (k:Int) {n j:Nat} (h:j<n):((I6 k n).map az)[j]? =some [.int .i64 (k+(j:Int))]:=by
 simp[I6,h,az]
theorem MU (k:Int) (n:Nat) (h0:0<=k) (h1:k+n<=4611686018427387904):aq Tryz.prog 34 [.sl ((I6 k n).map az),.int .i64 k] (.int .i64 (k+n)):=by
 refine aq.body eF rfl fun hl n0=>?_
 clear hl
 obtain⟨m,hm⟩:∃m,n=m:=⟨_,rfl⟩
 rw[hm]at h1 ⊢
 (try((repeat(revert hN;revert N;apply Pn.out));refine wk @jg ?_;(repeat(refine Pn.mk ?_;intro N hN))))
 refine aZ (fun n env st=>∃j:Nat,n=(m)-j/\j<=(m)/\env 5=.int .i64 (j:Int)/\env 1=.int .i64 (k+j)) (m) ⟨0,by omega,by omega,sl (tw @Int.add_zero (tw @Int.natCast_zero @jg)),sl (tw @Int.add_zero (tw @Int.natCast_zero @jg))⟩ ?_
 rintro n_a env_a st_a ⟨j,rfl,ale,a5,a1⟩ dy
 have a0:=dy 0 (by kernel_rfl)
 simp only[go_sem, ↓reduceIte,Nat.reduceEqDiff,Nat.reduceAdd,Nat.reduceSub,Nat.reduceLeDiff,reduceCtorEq,Int.add_zero,Int.natCast_zero,jg]at a0
 clear dy
 by_cases hj:(j:Int)<(m:Int)
 ·have cw:∀{e:Env},(e 5=.int .i64 (IntKind.i64.wrap ((j:Int)+1)))->(e 1=.int .i64 (k+(j+1)))->∃m0,m0<(m)-j/\∃j:Nat,m0=(m)-j/\j<=(m)/\e 5=.int .i64 (j:Int)/\e 1=.int .i64 (k+j):=fun x1 x2=>⟨_,by omega,j+1,rfl,by omega,(by rw[x1,aD (by omega)]),x2⟩
  have fC:=Qy k (n:=m) (j:=j) (by omega)
  have hw:IntKind.i64.wrap (k+(j:Int)+1)=k+((j:Int)+1):=by rw[bI (by omega)];omega
  have e1:decide (k+(j:Int)=k+(j:Int))=true:=decide_eq_true rfl
  (try((repeat(revert hN;revert N;apply Pn.out));refine wk (tw @a5 (tw @a1 (tw @a0 (tw @hj (tw @fC (tw @hw (tw @jg @e1))))))) ?_;(repeat(refine Pn.mk ?_;intro N hN))))
  refine cw ?_ ?_
  all_goals simp only[go_sem, ↓reduceIte,Nat.reduceEqDiff,Nat.reduceAdd,Nat.reduceSub,Nat.reduceLeDiff,reduceCtorEq,a5,a1,a0,hw]
 ·have iK:j=m:=by omega
  subst iK
  (try((repeat(revert hN;revert N;apply Pn.out));refine wk (tw @a5 (tw @a1 (tw @a0 (tw @hj @jg)))) ?_;(repeat(refine Pn.mk ?_;intro N hN))))
  exact dj (b:=k+(j:Int)) (.inl rfl) (sd (tw @a5 (tw @a1 @a0))) rfl
theorem se {w:AV} (k:Int) (n:Nat) (h0:0<=k) (h1:k+n<=4611686018427387904) (hw:lf az (I6 k n) w):aq Tryz.prog 34 [w,.int .i64 k] (.int .i64 (k+n)):=
 (MU k n h0 h1).cut mixed (hw.cut (.same _ .nil))
theorem tA {L:List Int} {v w:AV} (hv:lf az L v) (hw:lf az L w):aq Tryz.prog 30 [v,w] (.bool true):=by
 have h:=Cf L L
 rw[decide_eq_true rfl]at h
 exact h.cut mixed (hv.cut (hw.cut .nil))
theorem xw (v:AV) (es:List ab) (ids:List Id) (k:Int) (h0:0<=k) (h1:k+3*es.length<=4611686018427387904) (σ:au) (hv:∀i∈ids,i.bE<σ.next) (hg:gP (jq aa) 3 σ.get v es ids):
  Call Tryz.prog 44 [v,.int .i64 k] σ (fun r σ'=>r=.int .i64 (k+3*es.length)/\ou σ ids σ'.get σ'.next):=by
 obtain⟨o,rfl,ho,rfl⟩:=hg.flat
 refine aE _ _ _ _ _ (fun r σ' hq=>?_) (H6 o es k h0 h1 σ (hv o (by simp)) ho)
 exact⟨hq.1,hq.2.1⟩
theorem gP.fzO {g:Rows} {v:AV} {es:List ab} {ids:List Id} (n:Nat) (h:gP (jq aa) 3 g v es ids):V.fz (dX g) (n+2) v=some (.sl (es.map aa)):=
 h.fz (n:=n+1) fun {cs x ids} hr=>by
  obtain⟨rfl,_⟩:=hr
  simp[aa,ae,aj,aJ]
end Go.Proofs.YtgoelphibofcmaaGreat.V

namespace Go.Proofs.YtgoelphibofcmaaGreat.V
open Go.RowKit
attribute [local irreducible] dQ wpOps fX Call
attribute [local go_sem] aQ fM eU fY fW dm upd cG K.av cQ AV.cells AV.cell rowOf rowsOf part ld rowAt bQ cC dE ea gZ bS dh eo fV fj dB ef dd dc dS dU b4 bj cV bW cY cW ec eh ee cU ck de eb bV aU da cK gY bx cP cj bd dv bl dG AV.undef bH bK dW dZ dO dL cN ek eu cJ ej ei cZ db List.getD_cons_zero List.getD_cons_succ List.getD_nil List.all_cons List.all_nil Bool.and_true Bool.true_and Bool.and_self Bool.not_true Bool.not_false Option.map_some Option.map_none Option.bind_some Option.bind_none List.length_cons List.length_nil List.take_succ_cons List.take_zero List.take_nil List.drop_succ_cons List.drop_zero List.drop_nil List.head?_cons List.map_cons List.map_nil List.getElem?_cons_zero List.getElem?_cons_succ List.cons_append List.nil_append List.append_nil List.length_map List.set_cons_zero List.set_cons_succ Nat.reduceMul eq_self Int.toNat_natCast Int.natCast_nonneg and_self true_and and_true decide_true decide_false Bool.false_eq_true Nat.zero_add Nat.add_zero List.contains_cons List.contains_nil Bool.or_false Bool.false_or beq_self_eq_true Nat.reduceBEq ne_eq not_true_eq_false not_false_eq_true Id.mk.injEq false_and and_false Nat.reduceLT Int.reduceLE Int.reduceLT Int.reduceToNat Int.reduceNeg Int.reduceAdd Nat.le_refl List.length_append beq_true beq_false Bool.not_eq_eq_eq_not or_false false_or dX ae aj aJ bq bG cr aY bf aW bp cR bB
theorem Lf (x:Int) (g:Rows):eI g 4 (az x)=some (az x):=by simp[az,bt,cz,er]
theorem zY {g:Rows} {v w:AV} {s:aw} {a:List ab} {i j:List Id} (hX:Ac g v s i) (hY:gP (jq aa) 3 g w a j):dt (dX g) 6 [v,w]=some [.agg (ar s),.sl (a.map aa)]:=by
 simp only[ae,aj,hX.fz 1,hY.fzO 4,Option.map_some]
theorem GM {g:Rows} {v w:AV} {a:List ab} {i:List Id} (hX:gP (jq aa) 3 g v a i) (hw:fz (dX g) 6 w=some w):dt (dX g) 6 [v,w]=some [.sl (a.map aa),w]:=by
 simp only[ae,aj,hX.fzO 4,hw,Option.map_some]
theorem Np (Eg:aw->List ab->List Int×Int)
  (Ku:∀s a,fm s.aI->mK s->a.length<=1048576->∃w,lf az (Eg s a).1 w/\iM Tryz.prog 51 [.agg (ar s),.sl (a.map aa)] (.gD [w,.int .i64 (Eg s a).2]))
  (Kc:∀s a,fm s.aI->mK s->a.length<=1048576->qJ Tryz.prog 53 [.agg (ar s),.sl (a.map aa)] az 1 (Eg s a).1 (Eg s a).2)
  (hlen:∀s a,mK s->a.length<=1048576->(Eg s a).1.length<=1152921504606846976)
  (s:aw) (a:List ab) (hn:fm s.aI):aq Tryz.prog 12 [.agg (ar s),.sl (a.map aa)] (.bool true):=by
 refine aq.body eF rfl fun hl n0=>?_
 clear hl
 have h1:=x7 s 1048576 (by omega) (by omega) hn
 by_cases hf:(qx s:Int)<=1048576
 ·rw[iu hf]at h1
  have jX:¬(1048576:Int)-(qx s:Int)<0:=by omega
  have h2:=Dz a (1048576-qx s) (by omega) (by omega)
  by_cases hg:(a.length:Int)<=1048576-qx s
  ·rw[iu hg]at h2
   have BF:¬(1048576:Int)-(qx s:Int)-(a.length:Int)<0:=by omega
   have sm:=zX (s:=s) (by omega)
   have am:a.length<=1048576:=by omega
   have t1:=yd s sm
   have t2:=DG a am
   obtain⟨w,hw,r1⟩:=Ku s a hn sm am
   have r2:=Kc s a hn sm am
   have q1:=wW s
   have q2:=Ch a a
   rw[decide_eq_true rfl]at q2
   have hL:=hlen s a sm am
   obtain⟨L,Sm⟩:∃L,(Eg s a).1=L:=⟨_,rfl⟩
   obtain⟨c,hc⟩:∃c,(Eg s a).2=c:=⟨_,rfl⟩
   rw[hc]at r1
   rw[Sm,hc]at r2
   rw[Sm]at hw hL
   have Gx:=fun σ=>yc s sm σ
   have RN:=fun σ=>DF a am σ
   rw[ar]at Gx
   have e2:decide (c=c)=true:=by simp
   rw[ar]at h1
   (repeat(first|((repeat(revert hN;revert N;apply Pn.out));refine wk (tw @ar.eq_1 (tw @jX @BF)) ?_;(repeat(refine Pn.mk ?_;intro N hN)))|((try apply Or.inl);refine⟨_,aq.x (h1) (sd (tw @ar.eq_1 (tw @jX @BF))),?_⟩;refine hN _ _ ?_;clear hN N)|((try apply Or.inl);refine⟨_,aq.x (h2) (sd (tw @ar.eq_1 (tw @jX @BF))),?_⟩;refine hN _ _ ?_;clear hN N)))
   refine .inl ⟨_,iM.x (by rw[ar]at t1;exact t1) _,?_⟩
   refine hN _ _ ?_
   clear hN N
   (try((repeat(revert hN;revert N;apply Pn.out));refine wk @Nat.zero_add ?_;(repeat(refine Pn.mk ?_;intro N hN))))
   refine .inl ⟨_,iM.x t2 _,?_⟩
   refine hN _ _ ?_
   clear hN N
   (try((repeat(revert hN;revert N;apply Pn.out));refine wk @Nat.zero_add ?_;(repeat(refine Pn.mk ?_;intro N hN))))
   refine .inl ⟨_,iM.x (by rw[ar]at r1;exact r1) _,?_⟩
   refine hN _ _ ?_
   clear hN N
   (try((repeat(revert hN;revert N;apply Pn.out));refine wk @Nat.zero_add ?_;(repeat(refine Pn.mk ?_;intro N hN))))
   refine .inr (aE _ _ _ _ _ (fun r σ1 hq=>?_) (Gx _))
   obtain⟨iX,hX,Hx,MP⟩:=hq
   obtain⟨g1,x1⟩:=σ1
   (try dsimp only at hX Hx MP)
   obtain⟨A,B,C,j1,j2,j3,rfl,hA,hB,hC,rfl⟩:=hX.ex
   obtain⟨oA,rfl⟩:=hA.jn
   obtain⟨oB,rfl⟩:=hB.jn
   obtain⟨oC,rfl⟩:=hC.jn
   clear hA hB hC
   have nX:=MP.1
   have bX:=Hx.2
   (try dsimp only at nX bX)
   have kA:=MP.2 ⟨12000000,n0⟩ (by(try dsimp only);omega)
   simp only[go_sem, ↓reduceIte,Nat.reduceEqDiff,Nat.reduceAdd,Nat.reduceSub,Nat.reduceLeDiff,reduceCtorEq]at kA
   refine hN _ _ ?_
   clear hN N
   (try((repeat(revert hN;revert N;apply Pn.out));refine wk @kA ?_;(repeat(refine Pn.mk ?_;intro N hN))))
   refine .inr (aE _ _ _ _ _ (fun r σ2 hq=>?_) (RN _))
   obtain⟨iY,hD,MO,Hy⟩:=hq
   obtain⟨g2,x2⟩:=σ2
   (try dsimp only at hD MO Hy)
   obtain⟨oD,rfl⟩:=hD.jn
   have hY:=hD
   have nY:=Hy.1
   have bY:=MO.2
   (try dsimp only at nY bY)
   have lA:=Hy.2 ⟨12000000,n0⟩ (by(try dsimp only);omega)
   have lX:=Hy.2 ⟨12009002,x1⟩ (by(try dsimp only);omega)
   have vA:=dr (i:=⟨12000000,n0⟩) (n:=x1) (by(try dsimp only);omega)
   simp only[go_sem, ↓reduceIte,Nat.reduceEqDiff,Nat.reduceAdd,Nat.reduceSub,Nat.reduceLeDiff,reduceCtorEq,kA,vA]at lA lX
   have J0:=hX.frame (g':=g2) fun i hi=>by
    have h3:=bX i hi
    have h4:=Hy.2 i (by(try dsimp only);omega)
    have h5:=dr (i:=i) (n:=x1) (by omega)
    simp only[go_sem, ↓reduceIte,Nat.reduceEqDiff,Nat.reduceAdd,Nat.reduceSub,Nat.reduceLeDiff,reduceCtorEq,h5]at h4
    exact h4
   clear hX MP Hy hD kA
   refine hN _ _ ?_
   clear hN N
   have uX:=dr (i:=⟨12009002,x1⟩) (n:=x2) (by(try dsimp only);omega)
   (try((repeat(revert hN;revert N;apply Pn.out));refine wk (tw @lA (tw @lX @uX)) ?_;(repeat(refine Pn.mk ?_;intro N hN))))
   refine .inr (aE _ _ _ _ _ (fun r σ3 hq=>?_) (BN mixed (fun _=>rfl) r2 (zY (J0.frame fun i hi=>by
    have h5:=dr (i:=i) (n:=x2) (by have:=bX i hi;omega)
    simp only[go_sem, ↓reduceIte,Nat.reduceEqDiff,Nat.reduceAdd,Nat.reduceSub,Nat.reduceLeDiff,reduceCtorEq,h5]) (hY.frame mO fun i hi=>by
    have h5:=dr (i:=i) (n:=x2) (by have:=bY i hi;omega)
    simp only[go_sem, ↓reduceIte,Nat.reduceEqDiff,Nat.reduceAdd,Nat.reduceSub,Nat.reduceLeDiff,reduceCtorEq,h5]))))
   obtain⟨v,iZ,rfl,hZ,PK,Hz⟩:=hq
   obtain⟨g3,x3⟩:=σ3
   (try dsimp only at hZ PK Hz)
   have nZ:=Hz.1
   have bZ:=PK.2
   (try dsimp only at nZ bZ)
   have wA:=dr (i:=⟨12000000,n0⟩) (n:=x2) (by(try dsimp only);omega)
   have mA:=Hz.2 ⟨12000000,n0⟩ (by(try dsimp only);omega)
   have mX:=Hz.2 ⟨12009002,x1⟩ (by(try dsimp only);omega)
   simp only[go_sem, ↓reduceIte,Nat.reduceEqDiff,Nat.reduceAdd,Nat.reduceSub,Nat.reduceLeDiff,reduceCtorEq,lA,lX,wA,uX]at mA mX
   have Se:∀i:Id,i.bE<x2->g3 i=g2 i:=fun i hi=>by
    have h4:=Hz.2 i (by(try dsimp only);omega)
    have h5:=dr (i:=i) (n:=x2) hi
    simp only[go_sem, ↓reduceIte,Nat.reduceEqDiff,Nat.reduceAdd,Nat.reduceSub,Nat.reduceLeDiff,reduceCtorEq,h5]at h4
    exact h4
   have PQ:=J0.frame (g':=g3) fun i hi=>Se i (by have:=bX i hi;omega)
   have PS:=hY.frame mO (g':=g3) fun i hi=>Se i (by have:=bY i hi;omega)
   clear J0 hY Hz lA lX
   obtain⟨wv,mW,ET⟩:=hZ.fz fun x g=>by simp[az,ae,aj,aJ]
   refine hN _ _ ?_
   clear hN N
   (try((repeat(revert hN;revert N;apply Pn.out));refine wk (tw @mA @mX) ?_;(repeat(refine Pn.mk ?_;intro N hN))))
   refine .inl ⟨_,aq.x (tA ET hw) (kO mW (hw.fz _)),?_⟩
   refine hN _ _ ?_
   clear hN N
   (try((repeat(revert hN;revert N;apply Pn.out));refine wk (tw @mA (tw @mX @e2)) ?_;(repeat(refine Pn.mk ?_;intro N hN))))
   refine⟨_,iM.x (by rw[ar]at t1;exact t1) _,?_⟩
   refine hN _ _ ?_
   clear hN N
   (try((repeat(revert hN;revert N;apply Pn.out));refine wk (tw @mA (tw @mX @e2)) ?_;(repeat(refine Pn.mk ?_;intro N hN))))
   refine⟨_,aq.x (by rw[ar]at q1;exact q1) (by rw[<-ar];exact GX PQ (vH _ _)),?_⟩
   refine hN _ _ ?_
   clear hN N
   (try((repeat(revert hN;revert N;apply Pn.out));refine wk (tw @mA (tw @mX @e2)) ?_;(repeat(refine Pn.mk ?_;intro N hN))))
   refine .inl ⟨_,iM.x t2 _,?_⟩
   refine hN _ _ ?_
   clear hN N
   (try((repeat(revert hN;revert N;apply Pn.out));refine wk (tw @mA (tw @mX @e2)) ?_;(repeat(refine Pn.mk ?_;intro N hN))))
   refine .inl ⟨_,aq.x q2 (GM PS (cr _ _ _)),?_⟩
   refine hN _ _ ?_
   clear hN N
   (try((repeat(revert hN;revert N;apply Pn.out));refine wk (tw @mA (tw @mX @e2)) ?_;(repeat(refine Pn.mk ?_;intro N hN))))
   have Ot:=GJ s
   have Wm:=Hx.not (x:=⟨12000000,n0⟩) (by(try dsimp only);omega)
   refine .inr (aE _ _ _ _ _ (fun r σ4 hq=>?_) (zA _ s _ 1 (by omega) sm.s.t (by omega) _ (fun i hi=>by have:=bX i hi;(try dsimp only);omega) Hx.1 PQ))
   obtain⟨rfl,hM⟩:=hq
   obtain⟨g4,x4⟩:=σ4
   (try dsimp only at hM)
   have nM:=hM.1
   (try dsimp only at nM)
   have pA:=(hM.2 ⟨12000000,n0⟩ (by(try dsimp only);omega) Wm).trans mA
   have Ss:=PS.frame mO (g':=g4) fun i hi=>hM.2 i (by have:=bY i hi;(try dsimp only);omega) (Hx.not (by have:=bY i hi;omega))
   have Su:=hZ.frame (g':=g4) fun i hi=>hM.2 i (by have:=bZ i hi;(try dsimp only);omega) (Hx.not (by have:=bZ i hi;omega))
   clear hM PQ PS hZ mA mX mW
   refine hN _ _ ?_
   clear hN N
   (try((repeat(revert hN;revert N;apply Pn.out));refine wk @pA ?_;(repeat(refine Pn.mk ?_;intro N hN))))
   refine .inr (aE _ _ _ _ _ (fun r σ5 hq=>?_) (xw _ a _ (1+yR s) (by omega) (by omega) _ (fun i hi=>by have:=bY i hi;(try dsimp only);omega) Ss))
   obtain⟨rfl,hM⟩:=hq
   obtain⟨g5,x5⟩:=σ5
   (try dsimp only at hM)
   have nN:=hM.1
   (try dsimp only at nN)
   have rA:=(hM.2 ⟨12000000,n0⟩ (by(try dsimp only);omega) (MO.not (by(try dsimp only);omega))).trans pA
   have PT:=Su.frame (g':=g5) fun i hi=>hM.2 i (by have:=bZ i hi;(try dsimp only);omega) (MO.not (by have:=bZ i hi;omega))
   clear hM Ss Su pA
   obtain⟨wv5,mW,ET⟩:=PT.fz fun x g=>by simp[az,ae,aj,aJ]
   have e3:decide (1+(yR s:Int)+3*(a.length:Int)<0)=false:=decide_eq_false (by omega)
   refine hN _ _ ?_
   clear hN N
   (try((repeat(revert hN;revert N;apply Pn.out));refine wk (tw @rA @e3) ?_;(repeat(refine Pn.mk ?_;intro N hN))))
   refine .inl ⟨_,aq.x (tA ET hw) (kO mW (hw.fz _)),?_⟩
   refine hN _ _ ?_
   clear hN N
   (try((repeat(revert hN;revert N;apply Pn.out));refine wk (tw @rA (tw @e2 @e3)) ?_;(repeat(refine Pn.mk ?_;intro N hN))))
   refine .inr (aE _ _ _ _ _ (fun r σ6 hq=>?_) (C3 1 (by omega) (by omega) _ (fun i hi=>by have:=bZ i hi;(try dsimp only);omega) PT))
   obtain⟨rfl,hM,Sv⟩:=hq
   obtain⟨g6,x6⟩:=σ6
   (try dsimp only at hM Sv)
   have sA:=(hM.2 ⟨12000000,n0⟩ (by(try dsimp only);omega) (PK.not (by(try dsimp only);omega))).trans rA
   clear hM PT rA mW ET
   obtain⟨wv6,mW,ET⟩:=Sv.fz fun x g=>by simp[az,ae,aj,aJ]
   have e4:decide (1+(L.length:Int)<0)=false:=decide_eq_false (by omega)
   have e5:decide (1+(L.length:Int)=1+(L.length:Int))=true:=decide_eq_true rfl
   refine hN _ _ ?_
   clear hN N
   (try((repeat(revert hN;revert N;apply Pn.out));refine wk @sA ?_;(repeat(refine Pn.mk ?_;intro N hN))))
   refine .inl ⟨_,aq.x (se 1 L.length (by omega) (by omega) ET) (kO mW (aJ _ _ _ _)),?_⟩
   refine hN _ _ ?_
   clear hN N
   (try((repeat(revert hN;revert N;apply Pn.out));refine wk (tw @sA (tw @e4 @e5)) ?_;(repeat(refine Pn.mk ?_;intro N hN))))
   refine .inl ⟨_,iM.x (by rw[ar]at t1;exact t1) _,?_⟩
   refine hN _ _ ?_
   clear hN N
   (try((repeat(revert hN;revert N;apply Pn.out));refine wk (tw @sA (tw @e4 @e5)) ?_;(repeat(refine Pn.mk ?_;intro N hN))))
   refine .inl ⟨_,iM.x t2 _,?_⟩
   refine hN _ _ ?_
   clear hN N
   (try((repeat(revert hN;revert N;apply Pn.out));refine wk (tw @sA (tw @e4 @e5)) ?_;(repeat(refine Pn.mk ?_;intro N hN))))
   refine .inl ⟨_,aq.x (by have h:=r2.s Lf;rw[ar]at h;exact h) (kO (by rw[<-ar];exact vH _ _) (cr _ _ _)),?_⟩
   refine hN _ _ ?_
   clear hN N
   (try((repeat(revert hN;revert N;apply Pn.out));refine wk @e2 ?_;(repeat(refine Pn.mk ?_;intro N hN))))
   refine .inl ⟨_,aq.x (tA sI hw) (kO (sI.fz _) (hw.fz _)),?_⟩
   refine hN _ _ ?_
   clear hN N
   (try((repeat(revert hN;revert N;apply Pn.out));refine wk @e2 ?_;(repeat(refine Pn.mk ?_;intro N hN))))
   refine .inl ⟨_,aq.x (se 1 L.length (by omega) (by omega) ET) (kO mW (aJ _ _ _ _)),?_⟩
   refine hN _ _ ?_
   clear hN N
   (try((repeat(revert hN;revert N;apply Pn.out));refine wk (tw @e4 @e5) ?_;(repeat(refine Pn.mk ?_;intro N hN))))
   exact bc (b:=true) (.inl rfl) (sd @Nat.zero_add) rfl
  ·rw[iD hg]at h2
   rw[ar]at h1
   (repeat(first|((repeat(revert hN;revert N;apply Pn.out));refine wk (tw @ar.eq_1 @jX) ?_;(repeat(refine Pn.mk ?_;intro N hN)))|((try apply Or.inl);refine⟨_,aq.x (h1) (sd (tw @ar.eq_1 @jX)),?_⟩;refine hN _ _ ?_;clear hN N)|((try apply Or.inl);refine⟨_,aq.x (h2) (sd (tw @ar.eq_1 @jX)),?_⟩;refine hN _ _ ?_;clear hN N)))
   exact bc (b:=true) (.inl rfl) (sd @Nat.zero_add) rfl
 ·rw[iD hf]at h1
  rw[ar]at h1
  (repeat(first|((repeat(revert hN;revert N;apply Pn.out));refine wk @ar.eq_1 ?_;(repeat(refine Pn.mk ?_;intro N hN)))|((try apply Or.inl);refine⟨_,aq.x (h1) (sd @ar.eq_1),?_⟩;refine hN _ _ ?_;clear hN N)))
  exact bc (b:=true) (.inl rfl) (sd @Nat.zero_add) rfl
end Go.Proofs.YtgoelphibofcmaaGreat.V

namespace Go.Proofs.YtgoelphibofcmaaGreat.V
open Go.RowKit
attribute [local irreducible] dQ wpOps fX Call
attribute [local go_sem] aQ fM eU fY fW dm upd cG K.av cQ AV.cells AV.cell rowOf rowsOf part ld rowAt bQ cC dE ea gZ bS dh eo fV fj dB ef dd dc dS dU b4 bj cV bW cY cW ec eh ee cU ck de eb bV aU da cK gY bx cP cj bd dv bl dG AV.undef bH bK dW dZ dO dL cN ek eu cJ ej ei cZ db List.getD_cons_zero List.getD_cons_succ List.getD_nil List.all_cons List.all_nil Bool.and_true Bool.true_and Bool.and_self Bool.not_true Bool.not_false Option.map_some Option.map_none Option.bind_some Option.bind_none List.length_cons List.length_nil List.take_succ_cons List.take_zero List.take_nil List.drop_succ_cons List.drop_zero List.drop_nil List.head?_cons List.map_cons List.map_nil List.getElem?_cons_zero List.getElem?_cons_succ List.cons_append List.nil_append List.append_nil List.length_map List.set_cons_zero List.set_cons_succ Nat.reduceMul eq_self Int.toNat_natCast Int.natCast_nonneg and_self true_and and_true decide_true decide_false Bool.false_eq_true Nat.zero_add Nat.add_zero List.contains_cons List.contains_nil Bool.or_false Bool.false_or beq_self_eq_true Nat.reduceBEq ne_eq not_true_eq_false not_false_eq_true Id.mk.injEq false_and and_false Nat.reduceLT Int.reduceLE Int.reduceLT Int.reduceToNat Int.reduceNeg Int.reduceAdd Nat.le_refl List.length_append beq_true beq_false Bool.not_eq_eq_eq_not or_false false_or dX ae aj aJ bq bG cr aY bf aW bp cR bB
def jl (n lo hi:Int):Bool:=decide (lo<=n)&&decide (n<=hi)
theorem eM {n lo hi:Int} (h:jl n lo hi=true):lo<=n/\n<=hi:=by simpa[jl]using h
theorem gr {n lo hi:Int} (h:lo<=n/\n<=hi):jl n lo hi=true:=by simpa[jl]using h
def vk (p:aM):Bool:=jl p.fc (-60) 60&&jl p.eR (-60) 60
theorem l6 (n lo hi:Int):aq Tryz.prog 137 [.int .i64 n,.int .i64 lo,.int .i64 hi] (.bool (jl n lo hi)):=by
 refine aq.body eF rfl fun hl n0=>?_
 clear hl
 by_cases h1:lo<=n
 ·(try((repeat(revert hN;revert N;apply Pn.out));refine wk @h1 ?_;(repeat(refine Pn.mk ?_;intro N hN))))
  exact bc (b:=decide (n<=hi)) (.inl rfl) (sd @Nat.zero_add) (by simp[jl,h1])
 ·(try((repeat(revert hN;revert N;apply Pn.out));refine wk @h1 ?_;(repeat(refine Pn.mk ?_;intro N hN))))
  exact bc (b:=false) (.inl rfl) (sd @Nat.zero_add) (by simp[jl,h1])
theorem lI (n lo hi:Int):aq Tryz.prog 141 [.int .i64 n,.int .i64 lo,.int .i64 hi] (.bool (jl n lo hi)):=by
 refine aq.body eF rfl fun hl n0=>?_
 clear hl
 by_cases h1:lo<=n
 ·(try((repeat(revert hN;revert N;apply Pn.out));refine wk @h1 ?_;(repeat(refine Pn.mk ?_;intro N hN))))
  exact bc (b:=decide (n<=hi)) (.inl rfl) (sd @Nat.zero_add) (by simp[jl,h1])
 ·(try((repeat(revert hN;revert N;apply Pn.out));refine wk @h1 ?_;(repeat(refine Pn.mk ?_;intro N hN))))
  exact bc (b:=false) (.inl rfl) (sd @Nat.zero_add) (by simp[jl,h1])
theorem KA (d:Int):aq Tryz.prog 173 [.int .i64 d] (.bool (jl d 0 3)):=by
 refine aq.body eF rfl fun hl n0=>?_
 clear hl
 have h:=l6 d 0 3
 (repeat(first|((repeat(revert hN;revert N;apply Pn.out));refine wk @Nat.zero_add ?_;(repeat(refine Pn.mk ?_;intro N hN)))|((try apply Or.inl);refine⟨_,aq.x (h) (sd @Nat.zero_add),?_⟩;refine hN _ _ ?_;clear hN N)))
 exact bc (b:=jl d 0 3) (.inl rfl) (sd @Nat.zero_add) rfl
theorem rG (p:aM):aq Tryz.prog 123 [.agg (ah p)] (.bool (vk p)):=by
 refine aq.body eF rfl fun hl n0=>?_
 clear hl
 have h1:=l6 p.fc (-60) 60
 have h2:=l6 p.eR (-60) 60
 by_cases q:jl p.fc (-60) 60=true
 ·rw[q]at h1
  (repeat(first|((repeat(revert hN;revert N;apply Pn.out));refine wk @ah.eq_1 ?_;(repeat(refine Pn.mk ?_;intro N hN)))|((try apply Or.inl);refine⟨_,aq.x (h1) (sd @ah.eq_1),?_⟩;refine hN _ _ ?_;clear hN N)|((try apply Or.inl);refine⟨_,aq.x (h2) (sd @ah.eq_1),?_⟩;refine hN _ _ ?_;clear hN N)))
  exact bc (b:=jl p.eR (-60) 60) (.inl rfl) (sd @Nat.zero_add) (by rw[vk,q];rfl)
 ·rw[Bool.not_eq_true]at q
  rw[q]at h1
  (repeat(first|((repeat(revert hN;revert N;apply Pn.out));refine wk @ah.eq_1 ?_;(repeat(refine Pn.mk ?_;intro N hN)))|((try apply Or.inl);refine⟨_,aq.x (h1) (sd @ah.eq_1),?_⟩;refine hN _ _ ?_;clear hN N)|((try apply Or.inl);refine⟨_,aq.x (h2) (sd @ah.eq_1),?_⟩;refine hN _ _ ?_;clear hN N)))
  exact bc (b:=false) (.inl rfl) (sd @Nat.zero_add) (by rw[vk,q];rfl)
theorem rW (p:aM):aq Tryz.prog 140 [.agg (ah p)] (.bool (vk p)):=by
 refine aq.body eF rfl fun hl n0=>?_
 clear hl
 have h1:=lI p.fc (-60) 60
 have h2:=lI p.eR (-60) 60
 by_cases q:jl p.fc (-60) 60=true
 ·rw[q]at h1
  (repeat(first|((repeat(revert hN;revert N;apply Pn.out));refine wk @ah.eq_1 ?_;(repeat(refine Pn.mk ?_;intro N hN)))|((try apply Or.inl);refine⟨_,aq.x (h1) (sd @ah.eq_1),?_⟩;refine hN _ _ ?_;clear hN N)|((try apply Or.inl);refine⟨_,aq.x (h2) (sd @ah.eq_1),?_⟩;refine hN _ _ ?_;clear hN N)))
  exact bc (b:=jl p.eR (-60) 60) (.inl rfl) (sd @Nat.zero_add) (by rw[vk,q];rfl)
 ·rw[Bool.not_eq_true]at q
  rw[q]at h1
  (repeat(first|((repeat(revert hN;revert N;apply Pn.out));refine wk @ah.eq_1 ?_;(repeat(refine Pn.mk ?_;intro N hN)))|((try apply Or.inl);refine⟨_,aq.x (h1) (sd @ah.eq_1),?_⟩;refine hN _ _ ?_;clear hN N)|((try apply Or.inl);refine⟨_,aq.x (h2) (sd @ah.eq_1),?_⟩;refine hN _ _ ?_;clear hN N)))
  exact bc (b:=false) (.inl rfl) (sd @Nat.zero_add) (by rw[vk,q];rfl)
def kN (d:Int):Int:=if jl d 0 3 then(d+2) % 4 else -1
def cH (p:aM) (d:Int):aM:=
 if d=0 then⟨p.fc,p.eR+1⟩else if d=1 then⟨p.fc+1,p.eR⟩else if d=2 then⟨p.fc,p.eR-1⟩else if d=3 then⟨p.fc-1,p.eR⟩else p
def iB (n:Int):Prop:=-4611686018427387904<=n/\n<=4611686018427387904
theorem pY (p:aM) (d:Int) (hd:jl d 0 3=true) (hx:iB p.fc) (hy:iB p.eR):aq Tryz.prog 122 [.agg (ah p),.int .i64 d] (.agg (ah (cH p d))):=by
 refine aq.body eF rfl fun hl n0=>?_
 clear hl
 obtain⟨x1,x2⟩:=hx
 obtain⟨y1,y2⟩:=hy
 have w1:IntKind.i64.wrap (p.fc+1)=p.fc+1:=bI (by omega)
 have w2:IntKind.i64.wrap (p.fc-1)=p.fc-1:=bI (by omega)
 have w3:IntKind.i64.wrap (p.eR+1)=p.eR+1:=bI (by omega)
 have w4:IntKind.i64.wrap (p.eR-1)=p.eR-1:=bI (by omega)
 have hb:=eM hd
 have hc:d=0∨d=1∨d=2∨d=3:=by omega
 rcases hc with rfl|rfl|rfl|rfl
 ·(try((repeat(revert hN;revert N;apply Pn.out));refine wk (tw @ah.eq_1 @w3) ?_;(repeat(refine Pn.mk ?_;intro N hN))))
  exact l9 (.inl rfl) (vs:=[.agg (ah (cH p 0))]) (by simp only[go_sem, ↓reduceIte,Nat.reduceEqDiff,Nat.reduceAdd,Nat.reduceSub,Nat.reduceLeDiff,reduceCtorEq,fG,iG,ah,cH]) (by simp[eW,ah,gK,eI])
 ·(try((repeat(revert hN;revert N;apply Pn.out));refine wk (tw @ah.eq_1 @w1) ?_;(repeat(refine Pn.mk ?_;intro N hN))))
  exact l9 (.inl rfl) (vs:=[.agg (ah (cH p 1))]) (by simp[fG,iG,ah,cH,ld,rowAt,bQ,upd,part]) (by simp[eW,ah,gK,eI])
 ·(try((repeat(revert hN;revert N;apply Pn.out));refine wk (tw @ah.eq_1 @w4) ?_;(repeat(refine Pn.mk ?_;intro N hN))))
  exact l9 (.inl rfl) (vs:=[.agg (ah (cH p 2))]) (by simp[fG,iG,ah,cH,ld,rowAt,bQ,upd,part]) (by simp[eW,ah,gK,eI])
 ·(try((repeat(revert hN;revert N;apply Pn.out));refine wk (tw @ah.eq_1 @w2) ?_;(repeat(refine Pn.mk ?_;intro N hN))))
  exact l9 (.inl rfl) (vs:=[.agg (ah (cH p 3))]) (by simp[fG,iG,ah,cH,ld,rowAt,bQ,upd,part]) (by simp[eW,ah,gK,eI])
theorem A4 (p p2:aM) (x y:Int) (hx:IntKind.i64.wrap (p.fc+p2.fc)=x) (hy:IntKind.i64.wrap (p.eR+p2.eR)=y):aq Tryz.prog 184 [.agg (ah p),.agg (ah p2)] (.agg [.int .i64 x,.int .i64 y]):=by
 refine aq.body eF rfl fun hl n0=>?_
 clear hl
 (try((repeat(revert hN;revert N;apply Pn.out));refine wk (tw @ah.eq_1 (tw @hx @hy)) ?_;(repeat(refine Pn.mk ?_;intro N hN))))
 exact l9 (.inl rfl) (vs:=[.agg [.int .i64 x,.int .i64 y]]) (by simp only[go_sem, ↓reduceIte,Nat.reduceEqDiff,Nat.reduceAdd,Nat.reduceSub,Nat.reduceLeDiff,reduceCtorEq,fG,iG,ah]) (by simp[eW,gK,eI])
theorem xX (p:aM) (d:Int) (hd:jl d 0 3=true) (hx:iB p.fc) (hy:iB p.eR):aq Tryz.prog 149 [.agg (ah p),.int .i64 d] (.agg (ah (cH p d))):=by
 refine aq.body eF rfl fun hl n0=>?_
 clear hl
 obtain⟨x1,x2⟩:=hx
 obtain⟨y1,y2⟩:=hy
 have hb:=eM hd
 have hc:d=0∨d=1∨d=2∨d=3:=by omega
 rcases hc with rfl|rfl|rfl|rfl
 ·have h:=A4 p ⟨0,1⟩ (p.fc) (p.eR+1) (by rw[bI (by constructor<;>simp only<;>omega)]<;>(try simp only)<;>(try omega)) (by rw[bI (by constructor<;>simp only<;>omega)]<;>(try simp only)<;>(try omega))
  simp only[ah]at h
  (repeat(first|((repeat(revert hN;revert N;apply Pn.out));refine wk @ah.eq_1 ?_;(repeat(refine Pn.mk ?_;intro N hN)))|((try apply Or.inl);refine⟨_,aq.x (h) (sd @ah.eq_1),?_⟩;refine hN _ _ ?_;clear hN N)))
  exact l9 (.inl rfl) (vs:=[.agg (ah (cH p 0))]) (by simp[fG,iG,ah,cH,ld,rowAt,bQ,upd,part]) (by simp[eW,ah,gK,eI])
 ·have h:=A4 p ⟨1,0⟩ (p.fc+1) (p.eR) (by rw[bI (by constructor<;>simp only<;>omega)]<;>(try simp only)<;>(try omega)) (by rw[bI (by constructor<;>simp only<;>omega)]<;>(try simp only)<;>(try omega))
  simp only[ah]at h
  (repeat(first|((repeat(revert hN;revert N;apply Pn.out));refine wk @ah.eq_1 ?_;(repeat(refine Pn.mk ?_;intro N hN)))|((try apply Or.inl);refine⟨_,aq.x (h) (sd @ah.eq_1),?_⟩;refine hN _ _ ?_;clear hN N)))
  exact l9 (.inl rfl) (vs:=[.agg (ah (cH p 1))]) (by simp[fG,iG,ah,cH,ld,rowAt,bQ,upd,part]) (by simp[eW,ah,gK,eI])
 ·have h:=A4 p ⟨0,(-1)⟩ (p.fc) (p.eR-1) (by rw[bI (by constructor<;>simp only<;>omega)]<;>(try simp only)<;>(try omega)) (by rw[bI (by constructor<;>simp only<;>omega)]<;>(try simp only)<;>(try omega))
  simp only[ah]at h
  (repeat(first|((repeat(revert hN;revert N;apply Pn.out));refine wk @ah.eq_1 ?_;(repeat(refine Pn.mk ?_;intro N hN)))|((try apply Or.inl);refine⟨_,aq.x (h) (sd @ah.eq_1),?_⟩;refine hN _ _ ?_;clear hN N)))
  exact l9 (.inl rfl) (vs:=[.agg (ah (cH p 2))]) (by simp[fG,iG,ah,cH,ld,rowAt,bQ,upd,part]) (by simp[eW,ah,gK,eI])
 ·have h:=A4 p ⟨(-1),0⟩ (p.fc-1) (p.eR) (by rw[bI (by constructor<;>simp only<;>omega)]<;>(try simp only)<;>(try omega)) (by rw[bI (by constructor<;>simp only<;>omega)]<;>(try simp only)<;>(try omega))
  simp only[ah]at h
  (repeat(first|((repeat(revert hN;revert N;apply Pn.out));refine wk @ah.eq_1 ?_;(repeat(refine Pn.mk ?_;intro N hN)))|((try apply Or.inl);refine⟨_,aq.x (h) (sd @ah.eq_1),?_⟩;refine hN _ _ ?_;clear hN N)))
  exact l9 (.inl rfl) (vs:=[.agg (ah (cH p 3))]) (by simp[fG,iG,ah,cH,ld,rowAt,bQ,upd,part]) (by simp[eW,ah,gK,eI])
theorem xF (d:Int) (hd:jl d 0 3=true):aq Tryz.prog 153 [.int .i64 d] (.int .i64 (kN d)):=by
 refine aq.body eF rfl fun hl n0=>?_
 clear hl
 have hb:=eM hd
 have hw:IntKind.i64.wrap (d+2)=d+2:=bI (by omega)
 have ht:Int.tmod (d+2) 4=(d+2) % 4:=Int.tmod_eq_emod_of_nonneg (by omega)
 have h4:¬((4:Int)=0):=by omega
 (try((repeat(revert hN;revert N;apply Pn.out));refine wk (tw @hw (tw @ht @h4)) ?_;(repeat(refine Pn.mk ?_;intro N hN))))
 exact dj (b:=(d+2) % 4) (.inl rfl) (sd @Nat.zero_add) (by rw[kN,if_pos hd])
theorem wz (d:Int) (hd:jl d 0 3=true):aq Tryz.prog 125 [.int .i64 d] (.int .i64 (kN d)):=by
 refine aq.body eF rfl fun hl n0=>?_
 clear hl
 have hb:=eM hd
 have hw:IntKind.i64.wrap (d+2)=d+2:=bI (by omega)
 have ht:Int.tmod (d+2) 4=(d+2) % 4:=Int.tmod_eq_emod_of_nonneg (by omega)
 have h4:¬((4:Int)=0):=by omega
 have h:=KA d
 rw[hd]at h
 (repeat(first|((repeat(revert hN;revert N;apply Pn.out));refine wk (tw @hw (tw @ht @h4)) ?_;(repeat(refine Pn.mk ?_;intro N hN)))|((try apply Or.inl);refine⟨_,aq.x (h) (sd (tw @hw (tw @ht @h4))),?_⟩;refine hN _ _ ?_;clear hN N)))
 exact dj (b:=(d+2) % 4) (.inl rfl) (sd @Nat.zero_add) (by rw[kN,if_pos hd])
end Go.Proofs.YtgoelphibofcmaaGreat.V

namespace Go.Proofs.YtgoelphibofcmaaGreat.V
open Go.RowKit
attribute [local irreducible] dQ wpOps fX Call
attribute [local go_sem] aQ fM eU fY fW dm upd cG K.av cQ AV.cells AV.cell rowOf rowsOf part ld rowAt bQ cC dE ea gZ bS dh eo fV fj dB ef dd dc dS dU b4 bj cV bW cY cW ec eh ee cU ck de eb bV aU da cK gY bx cP cj bd dv bl dG AV.undef bH bK dW dZ dO dL cN ek eu cJ ej ei cZ db List.getD_cons_zero List.getD_cons_succ List.getD_nil List.all_cons List.all_nil Bool.and_true Bool.true_and Bool.and_self Bool.not_true Bool.not_false Option.map_some Option.map_none Option.bind_some Option.bind_none List.length_cons List.length_nil List.take_succ_cons List.take_zero List.take_nil List.drop_succ_cons List.drop_zero List.drop_nil List.head?_cons List.map_cons List.map_nil List.getElem?_cons_zero List.getElem?_cons_succ List.cons_append List.nil_append List.append_nil List.length_map List.set_cons_zero List.set_cons_succ Nat.reduceMul eq_self Int.toNat_natCast Int.natCast_nonneg and_self true_and and_true decide_true decide_false Bool.false_eq_true Nat.zero_add Nat.add_zero List.contains_cons List.contains_nil Bool.or_false Bool.false_or beq_self_eq_true Nat.reduceBEq ne_eq not_true_eq_false not_false_eq_true Id.mk.injEq false_and and_false Nat.reduceLT Int.reduceLE Int.reduceLT Int.reduceToNat Int.reduceNeg Int.reduceAdd Nat.le_refl List.length_append beq_true beq_false Bool.not_eq_eq_eq_not or_false false_or dX ae aj aJ bq bG cr aY bf aW bp cR bB
def ev (s:ax) (t:Int):Bool:=jl t 0 ((s.ai.length:Int)-1)
theorem rH (s:ax) (t:Int):aq Tryz.prog 136 [.du (ad s),.int .i64 t] (.bool (ev s t)):=by
 refine aq.body eF rfl fun hl n0=>?_
 have hn:s.ai.length<=9223372036854775807:=by
  have h1:=(hl (.du (ad s)) (by simp)).CP (a:=.sl (s.ai.map bJ)) (by simp[ad])
  simpa using h1.len
 clear hl
 have hw:IntKind.i64.wrap ((s.ai.length:Int)-1)=(s.ai.length:Int)-1:=bI (by omega)
 have h:=l6 t 0 ((s.ai.length:Int)-1)
 (repeat(first|((repeat(revert hN;revert N;apply Pn.out));refine wk (tw @ad.eq_1 @hw) ?_;(repeat(refine Pn.mk ?_;intro N hN)))|((try apply Or.inl);refine⟨_,aq.x (h) (sd (tw @ad.eq_1 @hw)),?_⟩;refine hN _ _ ?_;clear hN N)))
 exact bc (b:=ev s t) (.inl rfl) (by simp only[go_sem, ↓reduceIte,Nat.reduceEqDiff,Nat.reduceAdd,Nat.reduceSub,Nat.reduceLeDiff,reduceCtorEq,ev]) rfl
theorem zt (t n:Int) (h0:0<=n) (h1:n<=9223372036854775807):aq Tryz.prog 139 [.int .i64 t,.int .i64 n] (.bool (jl t 0 (n-1))):=by
 refine aq.body eF rfl fun hl n0=>?_
 clear hl
 have hw:IntKind.i64.wrap (n-1)=n-1:=bI (by omega)
 have h:=lI t 0 (n-1)
 (repeat(first|((repeat(revert hN;revert N;apply Pn.out));refine wk @hw ?_;(repeat(refine Pn.mk ?_;intro N hN)))|((try apply Or.inl);refine⟨_,aq.x (h) (sd @hw),?_⟩;refine hN _ _ ?_;clear hN N)))
 exact bc (b:=jl t 0 (n-1)) (.inl rfl) (sd @Nat.zero_add) rfl
theorem CQ (s:ax) (t:Int):aq Tryz.prog 83 [.agg (ad s),.int .i64 t] (.bool (ev s t)):=by
 refine aq.body eF rfl fun hl n0=>?_
 have hn:s.ai.length<=9223372036854775807:=by
  have h1:=(hl (.agg (ad s)) (by simp)).O7 (a:=.sl (s.ai.map bJ)) (by simp[ad])
  simpa using h1.len
 clear hl
 have h:=zt t s.ai.length (by omega) (by omega)
 (repeat(first|((repeat(revert hN;revert N;apply Pn.out));refine wk @ad.eq_1 ?_;(repeat(refine Pn.mk ?_;intro N hN)))|((try apply Or.inl);refine⟨_,aq.x (h) (sd @ad.eq_1),?_⟩;refine hN _ _ ?_;clear hN N)))
 exact bc (b:=ev s t) (.inl rfl) (by simp only[go_sem, ↓reduceIte,Nat.reduceEqDiff,Nat.reduceAdd,Nat.reduceSub,Nat.reduceLeDiff,reduceCtorEq,ev]) rfl
def AS:fh:=⟨⟨#[]⟩,[]⟩
def dI (s:ax) (t:Int):fh:=s.ai.getD t.toNat AS
def dH (t:fh) (d:Int):Int:=t.bL.getD d.toNat 0
def qZ (s:ax) (g:Int):fQ:=s.aB.getD g.toNat ⟨⟨#[]⟩,0⟩
def ua (s:ax) (g:Int):Int:=if g=0 then 0 else(qZ s (g-1)).eK
def gw (s:ax) (a d b:Int):Int:=if dH (dI s a) d=dH (dI s b) (kN d)then ua s (dH (dI s a) d)else 0
structure kZ (s:ax):Prop where
 xV:∀t∈s.ai,t.bL.length=4
 xd:∀t∈s.ai,∀g∈t.bL,0<=g/\g<=s.aB.length
theorem getD_map {α β:Type} (e:α->β) {l:List α} {k:Nat} {d:α} (h:k<l.length):(l.map e)[k]? =some (e (l.getD k d)):=by simp[List.getD_eq_getElem?_getD,h]
theorem yP (s:ax) (g:Int) (h0:0<=g) (h1:g<=s.aB.length):aq Tryz.prog 126 [.du (ad s),.int .i64 g] (.int .i64 (ua s g)):=by
 refine aq.body eF rfl fun hl n0=>?_
 have hn:s.aB.length<=9223372036854775807:=by
  have h1:=(hl (.du (ad s)) (by simp)).CP (a:=.sl (s.aB.map cq)) (by simp[ad])
  simpa using h1.len
 clear hl
 by_cases hg:g=0
 ·have e:decide (g=0)=true:=decide_eq_true hg
  (try((repeat(revert hN;revert N;apply Pn.out));refine wk (tw @ad.eq_1 @e) ?_;(repeat(refine Pn.mk ?_;intro N hN))))
  exact dj (b:=0) (.inl rfl) (sd @Nat.zero_add) (by rw[ua,if_pos hg])
 ·have e:decide (g=0)=false:=decide_eq_false hg
  have hw:IntKind.i64.wrap (g-1)=g-1:=bI (by omega)
  have rl:0<=g-1:=by omega
  have fC:(s.aB.map cq)[(g-1).toNat]? =some (cq (qZ s (g-1))):=getD_map cq (by omega)
  (try((repeat(revert hN;revert N;apply Pn.out));refine wk (tw @ad.eq_1 (tw @e (tw @hw (tw @rl (tw @fC @cq.eq_1))))) ?_;(repeat(refine Pn.mk ?_;intro N hN))))
  exact dj (b:=(qZ s (g-1)).eK) (.inl rfl) (sd @Nat.zero_add) (by rw[ua,if_neg hg])
theorem pO {s:ax} {a:Int} (h:ev s a=true):0<=a/\(s.ai.map bJ)[a.toNat]? =some (bJ (dI s a))/\dI s a∈s.ai:=by
 have h':=eM h
 have ew:a.toNat<s.ai.length:=by omega
 refine⟨h'.1,getD_map bJ ew,?_⟩
 unfold dI
 rw[List.getD_eq_getElem?_getD,List.getElem?_eq_getElem ew]
 exact List.getElem_mem ew
theorem pJ {t:fh} {d:Int} (h:t.bL.length=4) (hd:jl d 0 3=true):(t.bL.map az)[d.toNat]? =some [.int .i64 (dH t d)]:=by
 have:=eM hd
 exact getD_map az (by omega)
theorem Du {t:fh} {d:Int} (h:t.bL.length=4) (hd:jl d 0 3=true):dH t d∈t.bL:=by
 have:=eM hd
 have ew:d.toNat<t.bL.length:=by omega
 unfold dH
 rw[List.getD_eq_getElem?_getD,List.getElem?_eq_getElem ew]
 exact List.getElem_mem ew
theorem AU {d:Int} (hd:jl d 0 3=true):jl (kN d) 0 3=true:=by
 have:=eM hd
 refine gr ?_
 rw[kN,if_pos hd];omega
theorem tP (s:ax) (hF:kZ s) (a d b:Int) (ha:ev s a=true) (hb:ev s b=true) (hd:jl d 0 3=true):aq Tryz.prog 147 [.du (ad s),.int .i64 a,.int .i64 d,.int .i64 b] (.int .i64 (gw s a d b)):=by
 refine aq.body eF rfl fun hl n0=>?_
 clear hl
 obtain⟨a0,a1,a2⟩:=pO ha
 obtain⟨b0,b1,b2⟩:=pO hb
 have s1:=pJ (hF.xV _ a2) hd
 have s2:=pJ (hF.xV _ b2) (AU hd)
 have gl:=hF.xd _ a2 _ (Du (hF.xV _ a2) hd)
 have d0:=(eM hd).1
 have d1:=(eM (AU hd)).1
 have h:=wz d hd
 have hs:=yP s (dH (dI s a) d) gl.1 gl.2
 rw[ad]at hs
 by_cases e:dH (dI s a) d=dH (dI s b) (kN d)
 ·have e':decide (dH (dI s a) d=dH (dI s b) (kN d))=true:=decide_eq_true e
  (repeat(first|((repeat(revert hN;revert N;apply Pn.out));refine wk (tw @ad.eq_1 (tw @bJ.eq_1 (tw @a0 (tw @a1 (tw @b0 (tw @b1 (tw @s1 (tw @s2 (tw @d0 (tw @d1 @e')))))))))) ?_;(repeat(refine Pn.mk ?_;intro N hN)))|((try apply Or.inl);refine⟨_,aq.x (h) (sd (tw @ad.eq_1 (tw @bJ.eq_1 (tw @a0 (tw @a1 (tw @b0 (tw @b1 (tw @s1 (tw @s2 (tw @d0 (tw @d1 @e'))))))))))),?_⟩;refine hN _ _ ?_;clear hN N)|((try apply Or.inl);refine⟨_,aq.x (hs) (sd (tw @ad.eq_1 (tw @bJ.eq_1 (tw @a0 (tw @a1 (tw @b0 (tw @b1 (tw @s1 (tw @s2 (tw @d0 (tw @d1 @e'))))))))))),?_⟩;refine hN _ _ ?_;clear hN N)))
  exact dj (b:=ua s (dH (dI s a) d)) (.inl rfl) (sd @Nat.zero_add) (by rw[gw,if_pos e])
 ·have e':decide (dH (dI s a) d=dH (dI s b) (kN d))=false:=decide_eq_false e
  (repeat(first|((repeat(revert hN;revert N;apply Pn.out));refine wk (tw @ad.eq_1 (tw @bJ.eq_1 (tw @a0 (tw @a1 (tw @b0 (tw @b1 (tw @s1 (tw @s2 (tw @d0 (tw @d1 @e')))))))))) ?_;(repeat(refine Pn.mk ?_;intro N hN)))|((try apply Or.inl);refine⟨_,aq.x (h) (sd (tw @ad.eq_1 (tw @bJ.eq_1 (tw @a0 (tw @a1 (tw @b0 (tw @b1 (tw @s1 (tw @s2 (tw @d0 (tw @d1 @e'))))))))))),?_⟩;refine hN _ _ ?_;clear hN N)))
  exact dj (b:=0) (.inl rfl) (sd @Nat.zero_add) (by rw[gw,if_neg e])
theorem FO (s:ax) (hF:kZ s) (a d:Int) (ha:ev s a=true) (hd:jl d 0 3=true):aq Tryz.prog 185 [.agg (ad s),.int .i64 a,.int .i64 d] (.int .i64 (ua s (dH (dI s a) d))):=by
 refine aq.body eF rfl fun hl n0=>?_
 have hn:s.aB.length<=9223372036854775807:=by
  have h1:=(hl (.agg (ad s)) (by simp)).O7 (a:=.sl (s.aB.map cq)) (by simp[ad])
  simpa using h1.len
 clear hl
 obtain⟨a0,a1,a2⟩:=pO ha
 have s1:=pJ (hF.xV _ a2) hd
 have gl:=hF.xd _ a2 _ (Du (hF.xV _ a2) hd)
 have d0:=(eM hd).1
 by_cases hg:dH (dI s a) d=0
 ·have e:¬(0<dH (dI s a) d):=by omega
  (try((repeat(revert hN;revert N;apply Pn.out));refine wk (tw @ad.eq_1 (tw @bJ.eq_1 (tw @a0 (tw @a1 (tw @s1 (tw @d0 @e)))))) ?_;(repeat(refine Pn.mk ?_;intro N hN))))
  exact dj (b:=0) (.inl rfl) (sd @Nat.zero_add) (by rw[ua,if_pos hg])
 ·have e:0<dH (dI s a) d:=by omega
  have hw:IntKind.i64.wrap (dH (dI s a) d-1)=dH (dI s a) d-1:=bI (by omega)
  have rl:0<=dH (dI s a) d-1:=by omega
  have fC:(s.aB.map cq)[(dH (dI s a) d-1).toNat]? =some (cq (qZ s (dH (dI s a) d-1))):=getD_map cq (by omega)
  (try((repeat(revert hN;revert N;apply Pn.out));refine wk (tw @ad.eq_1 (tw @bJ.eq_1 (tw @a0 (tw @a1 (tw @s1 (tw @d0 (tw @e (tw @hw (tw @rl (tw @fC @cq.eq_1)))))))))) ?_;(repeat(refine Pn.mk ?_;intro N hN))))
  exact dj (b:=(qZ s (dH (dI s a) d-1)).eK) (.inl rfl) (sd @Nat.zero_add) (by rw[ua,if_neg hg])
theorem Em (s:ax) (hF:kZ s) (a d b:Int) (ha:ev s a=true) (hb:ev s b=true) (hd:jl d 0 3=true):aq Tryz.prog 150 [.agg (ad s),.int .i64 a,.int .i64 d,.int .i64 b] (.int .i64 (gw s a d b)):=by
 refine aq.body eF rfl fun hl n0=>?_
 clear hl
 obtain⟨a0,a1,a2⟩:=pO ha
 obtain⟨b0,b1,b2⟩:=pO hb
 have s1:=pJ (hF.xV _ a2) hd
 have s2:=pJ (hF.xV _ b2) (AU hd)
 have d0:=(eM hd).1
 have d1:=(eM (AU hd)).1
 have h:=xF d hd
 have hs:=FO s hF a d ha hd
 rw[ad]at hs
 by_cases e:dH (dI s a) d=dH (dI s b) (kN d)
 ·have e':decide (dH (dI s a) d=dH (dI s b) (kN d))=true:=decide_eq_true e
  (repeat(first|((repeat(revert hN;revert N;apply Pn.out));refine wk (tw @ad.eq_1 (tw @bJ.eq_1 (tw @a0 (tw @a1 (tw @b0 (tw @b1 (tw @s1 (tw @s2 (tw @d0 (tw @d1 @e')))))))))) ?_;(repeat(refine Pn.mk ?_;intro N hN)))|((try apply Or.inl);refine⟨_,aq.x (h) (sd (tw @ad.eq_1 (tw @bJ.eq_1 (tw @a0 (tw @a1 (tw @b0 (tw @b1 (tw @s1 (tw @s2 (tw @d0 (tw @d1 @e'))))))))))),?_⟩;refine hN _ _ ?_;clear hN N)|((try apply Or.inl);refine⟨_,aq.x (hs) (sd (tw @ad.eq_1 (tw @bJ.eq_1 (tw @a0 (tw @a1 (tw @b0 (tw @b1 (tw @s1 (tw @s2 (tw @d0 (tw @d1 @e'))))))))))),?_⟩;refine hN _ _ ?_;clear hN N)))
  exact dj (b:=ua s (dH (dI s a) d)) (.inl rfl) (sd @Nat.zero_add) (by rw[gw,if_pos e])
 ·have e':decide (dH (dI s a) d=dH (dI s b) (kN d))=false:=decide_eq_false e
  (repeat(first|((repeat(revert hN;revert N;apply Pn.out));refine wk (tw @ad.eq_1 (tw @bJ.eq_1 (tw @a0 (tw @a1 (tw @b0 (tw @b1 (tw @s1 (tw @s2 (tw @d0 (tw @d1 @e')))))))))) ?_;(repeat(refine Pn.mk ?_;intro N hN)))|((try apply Or.inl);refine⟨_,aq.x (h) (sd (tw @ad.eq_1 (tw @bJ.eq_1 (tw @a0 (tw @a1 (tw @b0 (tw @b1 (tw @s1 (tw @s2 (tw @d0 (tw @d1 @e'))))))))))),?_⟩;refine hN _ _ ?_;clear hN N)))
  exact dj (b:=0) (.inl rfl) (sd @Nat.zero_add) (by rw[gw,if_neg e])
end Go.Proofs.YtgoelphibofcmaaGreat.V

namespace Go.Proofs.YtgoelphibofcmaaGreat.V
open Go.RowKit
attribute [local irreducible] dQ wpOps fX Call
attribute [local go_sem] aQ fM eU fY fW dm upd cG K.av cQ AV.cells AV.cell rowOf rowsOf part ld rowAt bQ cC dE ea gZ bS dh eo fV fj dB ef dd dc dS dU b4 bj cV bW cY cW ec eh ee cU ck de eb bV aU da cK gY bx cP cj bd dv bl dG AV.undef bH bK dW dZ dO dL cN ek eu cJ ej ei cZ db List.getD_cons_zero List.getD_cons_succ List.getD_nil List.all_cons List.all_nil Bool.and_true Bool.true_and Bool.and_self Bool.not_true Bool.not_false Option.map_some Option.map_none Option.bind_some Option.bind_none List.length_cons List.length_nil List.take_succ_cons List.take_zero List.take_nil List.drop_succ_cons List.drop_zero List.drop_nil List.head?_cons List.map_cons List.map_nil List.getElem?_cons_zero List.getElem?_cons_succ List.cons_append List.nil_append List.append_nil List.length_map List.set_cons_zero List.set_cons_succ Nat.reduceMul eq_self Int.toNat_natCast Int.natCast_nonneg and_self true_and and_true decide_true decide_false Bool.false_eq_true Nat.zero_add Nat.add_zero List.contains_cons List.contains_nil Bool.or_false Bool.false_or beq_self_eq_true Nat.reduceBEq ne_eq not_true_eq_false not_false_eq_true Id.mk.injEq false_and and_false Nat.reduceLT Int.reduceLE Int.reduceLT Int.reduceToNat Int.reduceNeg Int.reduceAdd Nat.le_refl List.length_append beq_true beq_false Bool.not_eq_eq_eq_not or_false false_or dX ae aj aJ bq bG cr aY bf aW bp cR bB
def qq (s:ax) (i:Nat):fQ:=s.aB.getD i ⟨⟨#[]⟩,0⟩
def pM (s:ax) (i:Nat):fh:=s.ai.getD i AS
def D8 (s:ax) (i:Nat):Prop:=jZ (qq s i).aO=true/\jl (qq s i).eK 1 4=true/\∀j,j<i->(qq s j).aO≠(qq s i).aO
def BS (s:ax) (i:Nat):Prop:=jZ (pM s i).aO=true/\(pM s i).bL.length=4/\(∀j,j<i->(pM s j).aO≠(pM s i).aO)/\∀g∈(pM s i).bL,jl g 0 s.aB.length=true
structure iH (s:ax):Prop where
 xd:s.aB.length<=200
 some:1<=s.ai.length
 G0:s.ai.length<=160
 Uc:∀i,i<s.aB.length->D8 s i
 tok:∀i,i<s.ai.length->BS s i
noncomputable def sR (s:ax):Bool:=@decide (iH s) (Classical.propDecidable _)
theorem pI {s:ax}:sR s=true↔iH s:=by simp[sR]
theorem fS {s:ax} (h:¬iH s):false=sR s:=by simp[sR,h]
theorem Dt {s:ax} (h:iH s):true=sR s:=by simp[sR,h]
theorem Bi {s:ax} {i:Nat} (h:i<s.ai.length):(s.ai.map bJ)[i]? =some (bJ (pM s i)):=getD_map bJ h
theorem Ax {s:ax} {i:Nat} (h:i<s.aB.length):(s.aB.map cq)[i]? =some (cq (qq s i)):=getD_map cq h
theorem iH.form {s:ax} (h:iH s):kZ s:=by
 have key:∀t∈s.ai,∃i,i<s.ai.length/\t=pM s i:=fun t ht=>by
  obtain⟨i,hi,rfl⟩:=List.getElem_of_mem ht
  exact⟨i,hi,by simp[pM,List.getD_eq_getElem?_getD,hi]⟩
 refine⟨fun t ht=>?_,fun t ht g hg=>?_⟩
 ·obtain⟨i,hi,rfl⟩:=key t ht
  exact(h.tok i hi).2.1
 ·obtain⟨i,hi,rfl⟩:=key t ht
  exact eM ((h.tok i hi).2.2.2 g hg)
def dK (l:List ByteArray):List (List AV):=l.map fun n=>[.str n,.bool true]
abbrev mS:MK:=⟨false,[.tS]⟩
theorem zW (n:ByteArray):∀(l:List ByteArray) (i:Nat),∃r,gz mS [.str n] (dK l) i=some r/\((r=none/\n∉l)∨∃j,r=some (i+j)/\n∈l/\(dK l)[j]? =some [.str n,.bool true])
 |[],i=>⟨none,rfl,.inl ⟨rfl,by simp⟩⟩
 |m::l,i=>by
  obtain⟨r,h1,h2⟩:=zW n l (i+1)
  by_cases h:n=m
  ·subst h
   exact⟨some i,by simp[dK,gz,fj,fV,MK.ks],.inr ⟨0,rfl,by simp,rfl⟩⟩
  ·refine⟨r,?_,?_⟩
   ·unfold dK at h1 ⊢
    simp only[List.map_cons,gz,MK.ks,List.length_cons,List.length_nil,Nat.zero_add,List.take_succ_cons,List.take_zero,fj,fV,h,decide_false,Bool.and_true]
    exact h1
   ·rcases h2 with⟨rfl,h2⟩|⟨j,rfl,h2,h3⟩
    ·exact .inl ⟨rfl,by simp[h,h2]⟩
    ·exact .inr ⟨j+1,by congr 1;omega,by simp[h2],by simpa[dK]using h3⟩
theorem xT (n:ByteArray) (l:List ByteArray):(n∉l/\gi mS (.str n) (dK l)=some none)∨∃j,n∈l/\gi mS (.str n) (dK l)=some (some j)/\(dK l)[j]? =some [.str n,.bool true]:=by
 obtain⟨r,h1,h2⟩:=zW n l 0
 have e:gi mS (.str n) (dK l)=some r:=by
  unfold gi
  rw[if_pos ⟨rfl,rfl,rfl⟩];exact h1
 rcases h2 with⟨rfl,h2⟩|⟨j,rfl,h2,h3⟩
 ·exact .inl ⟨h2,e⟩
 ·exact .inr ⟨j,h2,by rw[e,Nat.zero_add],h3⟩
theorem QM (s:ax) (g:Int):aq Tryz.prog 200 [.int .i64 g,.du (ad s)] (.bool (!jl g 0 s.aB.length)):=by
 refine aq.body eF rfl fun hl n0=>?_
 clear hl
 have h:=lI g 0 s.aB.length
 (repeat(first|((repeat(revert hN;revert N;apply Pn.out));refine wk @ad.eq_1 ?_;(repeat(refine Pn.mk ?_;intro N hN)))|((try apply Or.inl);refine⟨_,aq.x (h) (sd @ad.eq_1),?_⟩;refine hN _ _ ?_;clear hN N)))
 exact bc (b:= !jl g 0 s.aB.length) (.inl rfl) (sd @Nat.zero_add) rfl
theorem MF:Rh az (fun c=>.int .i64 c) 1 false:=⟨fun _=>rfl,fun _=>rfl,fun x g=>by rw[ae,aJ,aj];rfl⟩
theorem NR (s:ax) (l:List Int) (hl:l.length<=1048576):aq Tryz.prog 199 [.sl (l.map az),.fn 200 [.du (ad s)]] (.bool (l.any fun g=> !jl g 0 s.aB.length)):=
 o8 MF (show lV Tryz.prog 199=some (EK 199 224) by kernel_rfl)
  (show lV Tryz.prog 224=some (tM 224 1 false) by kernel_rfl) l hl _ _ _ rfl (fun g=>by rw[ae,aW,aj];rfl) (fun x _=>QM s x) fun g=>by rw[ae,aW,aj];rfl
theorem xD {α:Type} (f:Nat->α) (n k:Nat) (x:α):x∉(List.range k).map f↔∀j,j<k->f j≠x:=by
 constructor
 ·intro h j hj he
  exact h (List.mem_map.2 ⟨j,List.mem_range.2 hj,he⟩)
 ·intro h hm
  obtain⟨j,hj,he⟩:=List.mem_map.1 hm
  exact h j (List.mem_range.1 hj) he
theorem Ee (s:ax) (hn:fm s) (hg:s.aB.length<=1048576) (ht:s.ai.length<=1048576) (hs:∀t∈s.ai,t.bL.length<=1048576):aq Tryz.prog 164 [.agg (ad s)] (.bool (sR s)):=by
 refine aq.body eF rfl fun hl n0=>?_
 clear hl
 have SN:∀i,i<s.aB.length->(qq s i).aO.size<=9223372036854775807:=fun i hi=>hn.1 _ (by simp[qq,List.getD_eq_getElem?_getD,hi])
 have S9:∀i,i<s.ai.length->(pM s i).aO.size<=9223372036854775807:=fun i hi=>hn.2 _ (by simp[pM,List.getD_eq_getElem?_getD,hi])
 have yN:∀i,i<s.ai.length->(pM s i).bL.length<=1048576:=fun i hi=>hs _ (by simp[pM,List.getD_eq_getElem?_getD,hi])
 have hw:=lI (s.ai.length:Int) 1 160
 by_cases h1:(200:Int)<(s.aB.length:Int)
 ·(try((repeat(revert hN;revert N;apply Pn.out));refine wk (tw @ad.eq_1 @h1) ?_;(repeat(refine Pn.mk ?_;intro N hN))))
  exact bc (b:=false) (.inl rfl) (sd @Nat.zero_add) (fS fun h=>by have:=h.xd;omega)
 by_cases h2:jl (s.ai.length:Int) 1 160=true
 ·have DQ:=eM h2
  rw[h2]at hw
  (repeat(first|((repeat(revert hN;revert N;apply Pn.out));refine wk (tw @ad.eq_1 @h1) ?_;(repeat(refine Pn.mk ?_;intro N hN)))|((try apply Or.inl);refine⟨_,aq.x (hw) (sd (tw @ad.eq_1 @h1)),?_⟩;refine hN _ _ ?_;clear hN N)))
  refine aZ (fun n env st=>∃k:Nat,n=(s.aB.length)-k/\k<=(s.aB.length)/\env 24=.int .i64 (k:Int)/\st.get ⟨164000000,n0⟩=some ⟨true,2,[ad s]⟩/\st.get ⟨164003000,n0+1+1⟩=some ⟨true,mS.qe,dK ((List.range k).map fun i=>(qq s i).aO)⟩/\(∀j:Nat,j<k->D8 s j)) (s.aB.length) ⟨0,by omega,by omega,by(try simp only[go_sem, ↓reduceIte,Nat.reduceEqDiff,Nat.reduceAdd,Nat.reduceSub,Nat.reduceLeDiff,reduceCtorEq,ad,List.range_zero,List.map_nil,dK]);try rfl,by(try simp only[go_sem, ↓reduceIte,Nat.reduceEqDiff,Nat.reduceAdd,Nat.reduceSub,Nat.reduceLeDiff,reduceCtorEq,ad,List.range_zero,List.map_nil,dK]);try rfl,by(try simp only[go_sem, ↓reduceIte,Nat.reduceEqDiff,Nat.reduceAdd,Nat.reduceSub,Nat.reduceLeDiff,reduceCtorEq,ad,List.range_zero,List.map_nil,dK]);try rfl,fun _ h=>absurd h (Nat.not_lt_zero _)⟩ ?_
  rintro n_a env_a st_a ⟨k,rfl,ale,a24,ag0,ag1,kj⟩ dy
  have a1:=dy 1 (by kernel_rfl);have a3:=dy 3 (by kernel_rfl);have a22:=dy 22 (by kernel_rfl);have a23:=dy 23 (by kernel_rfl)
  simp only[go_sem, ↓reduceIte,Nat.reduceEqDiff,Nat.reduceAdd,Nat.reduceSub,Nat.reduceLeDiff,reduceCtorEq,ad,List.range_zero,List.map_nil,dK]at a1 a3 a22 a23
  clear dy
  by_cases hk:(k:Int)<(s.aB.length:Int)
  ·have cw:∀{e:Env} {gg:Rows},(e 24=.int .i64 (IntKind.i64.wrap ((k:Int)+1)))->(gg ⟨164000000,n0⟩=some ⟨true,2,[ad s]⟩)->(gg ⟨164003000,n0+1+1⟩=some ⟨true,mS.qe,dK ((List.range (k+1)).map fun i=>(qq s i).aO)⟩)->(D8 s k)->∃m0,m0<(s.aB.length)-k/\∃k:Nat,m0=(s.aB.length)-k/\k<=(s.aB.length)/\e 24=.int .i64 (k:Int)/\gg ⟨164000000,n0⟩=some ⟨true,2,[ad s]⟩/\gg ⟨164003000,n0+1+1⟩=some ⟨true,mS.qe,dK ((List.range k).map fun i=>(qq s i).aO)⟩/\(∀j:Nat,j<k->D8 s j):=fun x1 x2 x3 x4=>⟨_,by omega,k+1,rfl,by omega,(by rw[x1,aD (by omega)]),x2,x3,(all_succ kj x4)⟩
   have fP:k<s.aB.length:=by omega
   have eX:=Ax fP
   have td:=GA (qq s k).aO (SN k fP)
   have Mh:=lI (qq s k).eK 1 4
   have CE:=xT (qq s k).aO ((List.range k).map fun i=>(qq s i).aO)
   rw[xD _ k]at CE
   have kq:(¬D8 s k)->¬iH s:=fun h hp=>h (hp.Uc k fP)
   generalize tb:qq s k=gl at *
   cases hb:jZ gl.aO
   ·rw[hb]at td
    (repeat(first|((repeat(revert hN;revert N;apply Pn.out));refine wk (tw @a24 (tw @ag0 (tw @ag1 (tw @a1 (tw @a3 (tw @a22 (tw @a23 (tw @hk (tw @eX (tw @cq.eq_1 @ad.eq_1)))))))))) ?_;(repeat(refine Pn.mk ?_;intro N hN)))|((try apply Or.inl);refine⟨_,aq.x (td) (sd (tw @a24 (tw @ag0 (tw @ag1 (tw @a1 (tw @a3 (tw @a22 (tw @a23 (tw @hk (tw @eX (tw @cq.eq_1 @ad.eq_1))))))))))),?_⟩;refine hN _ _ ?_;clear hN N)))
    exact bc (b:=false) (.inl rfl) (sd @Nat.zero_add) (fS (kq fun h=>by rw[D8,tb,hb]at h;cases h.1))
   ·rw[hb]at td
    rcases CE with⟨EN,me⟩|⟨j,fe,me,gn⟩
    ·cases dJ:jl gl.eK 1 4
     ·rw[dJ]at Mh
      (repeat(first|((repeat(revert hN;revert N;apply Pn.out));refine wk (tw @a24 (tw @ag0 (tw @ag1 (tw @a1 (tw @a3 (tw @a22 (tw @a23 (tw @hk (tw @eX (tw @me (tw @cq.eq_1 @ad.eq_1))))))))))) ?_;(repeat(refine Pn.mk ?_;intro N hN)))|((try apply Or.inl);refine⟨_,aq.x (td) (sd (tw @a24 (tw @ag0 (tw @ag1 (tw @a1 (tw @a3 (tw @a22 (tw @a23 (tw @hk (tw @eX (tw @me (tw @cq.eq_1 @ad.eq_1)))))))))))),?_⟩;refine hN _ _ ?_;clear hN N)|((try apply Or.inl);refine⟨_,aq.x (Mh) (sd (tw @a24 (tw @ag0 (tw @ag1 (tw @a1 (tw @a3 (tw @a22 (tw @a23 (tw @hk (tw @eX (tw @me (tw @cq.eq_1 @ad.eq_1)))))))))))),?_⟩;refine hN _ _ ?_;clear hN N)))
      exact bc (b:=false) (.inl rfl) (sd @Nat.zero_add) (fS (kq fun h=>by rw[D8,tb,dJ]at h;cases h.2.1))
     ·rw[dJ]at Mh
      have tK:dK ((List.range k).map fun i=>(qq s i).aO)++[[.str gl.aO,.bool true]]=dK (List.map (fun i=>(qq s i).aO) (List.range k++[k])):=by simp[dK,tb]
      (repeat(first|((repeat(revert hN;revert N;apply Pn.out));refine wk (tw @a24 (tw @ag0 (tw @ag1 (tw @a1 (tw @a3 (tw @a22 (tw @a23 (tw @hk (tw @eX (tw @me (tw @cq.eq_1 @ad.eq_1))))))))))) ?_;(repeat(refine Pn.mk ?_;intro N hN)))|((try apply Or.inl);refine⟨_,aq.x (td) (sd (tw @a24 (tw @ag0 (tw @ag1 (tw @a1 (tw @a3 (tw @a22 (tw @a23 (tw @hk (tw @eX (tw @me (tw @cq.eq_1 @ad.eq_1)))))))))))),?_⟩;refine hN _ _ ?_;clear hN N)|((try apply Or.inl);refine⟨_,aq.x (Mh) (sd (tw @a24 (tw @ag0 (tw @ag1 (tw @a1 (tw @a3 (tw @a22 (tw @a23 (tw @hk (tw @eX (tw @me (tw @cq.eq_1 @ad.eq_1)))))))))))),?_⟩;refine hN _ _ ?_;clear hN N)))
      refine cw ?_ ?_ ?_ (⟨by rw[tb];exact hb,by rw[tb];exact dJ,fun j hj=>by rw[tb];exact EN j hj⟩)
      all_goals simp only[go_sem, ↓reduceIte,Nat.reduceEqDiff,Nat.reduceAdd,Nat.reduceSub,Nat.reduceLeDiff,reduceCtorEq,a24,ag0,ag1,a1,a3,a22,a23,me,tK]
    ·(repeat(first|((repeat(revert hN;revert N;apply Pn.out));refine wk (tw @a24 (tw @ag0 (tw @ag1 (tw @a1 (tw @a3 (tw @a22 (tw @a23 (tw @hk (tw @eX (tw @me (tw @gn (tw @cq.eq_1 @ad.eq_1)))))))))))) ?_;(repeat(refine Pn.mk ?_;intro N hN)))|((try apply Or.inl);refine⟨_,aq.x (td) (sd (tw @a24 (tw @ag0 (tw @ag1 (tw @a1 (tw @a3 (tw @a22 (tw @a23 (tw @hk (tw @eX (tw @me (tw @gn (tw @cq.eq_1 @ad.eq_1))))))))))))),?_⟩;refine hN _ _ ?_;clear hN N)))
     exact bc (b:=false) (.inl rfl) (sd @Nat.zero_add) (fS (kq fun h=>by
      rw[D8,tb]at h
      obtain⟨i,hi,he⟩:=List.mem_map.1 fe
      exact h.2.2 i (List.mem_range.1 hi) he))
  ·have kT:k=s.aB.length:=by omega
   (try((repeat(revert hN;revert N;apply Pn.out));refine wk (tw @a24 (tw @ag0 (tw @ag1 (tw @a1 (tw @a3 (tw @a22 (tw @a23 (tw @hk @ad.eq_1)))))))) ?_;(repeat(refine Pn.mk ?_;intro N hN))))
   refine aZ (fun n env st=>∃j:Nat,n=(s.ai.length)-j/\j<=(s.ai.length)/\env 52=.int .i64 (j:Int)/\st.get ⟨164000000,n0⟩=some ⟨true,2,[ad s]⟩/\st.get ⟨164011000,st_a.next+1⟩=some ⟨true,mS.qe,dK ((List.range j).map fun i=>(pM s i).aO)⟩/\(∀i:Nat,i<j->BS s i)/\(st_a.next<st.next)) (s.ai.length) ⟨0,by omega,by omega,by(try simp only[go_sem, ↓reduceIte,Nat.reduceEqDiff,Nat.reduceAdd,Nat.reduceSub,Nat.reduceLeDiff,reduceCtorEq,a24,ag0,ag1,a1,a3,a22,a23,ad,List.range_zero,List.map_nil,dK]);try rfl,by(try simp only[go_sem, ↓reduceIte,Nat.reduceEqDiff,Nat.reduceAdd,Nat.reduceSub,Nat.reduceLeDiff,reduceCtorEq,a24,ag0,ag1,a1,a3,a22,a23,ad,List.range_zero,List.map_nil,dK]);try rfl,by(try simp only[go_sem, ↓reduceIte,Nat.reduceEqDiff,Nat.reduceAdd,Nat.reduceSub,Nat.reduceLeDiff,reduceCtorEq,a24,ag0,ag1,a1,a3,a22,a23,ad,List.range_zero,List.map_nil,dK]);try rfl,fun _ h=>absurd h (Nat.not_lt_zero _),(by(try dsimp only);omega)⟩ ?_
   rintro n_b env_b st_b ⟨j,rfl,ble,b52,bg0,bg1,bA0,bI0⟩ fK
   have b1:=fK 1 (by kernel_rfl);have b6:=fK 6 (by kernel_rfl);have Ej:=fK 50 (by kernel_rfl);have Ek:=fK 51 (by kernel_rfl)
   simp only[go_sem, ↓reduceIte,Nat.reduceEqDiff,Nat.reduceAdd,Nat.reduceSub,Nat.reduceLeDiff,reduceCtorEq,a24,ag0,ag1,a1,a3,a22,a23,ad,List.range_zero,List.map_nil,dK]at b1 b6 Ej Ek
   clear fK
   by_cases hj:(j:Int)<(s.ai.length:Int)
   ·have fE:∀{e:Env} {gg:Rows} {nx:Nat},(e 52=.int .i64 (IntKind.i64.wrap ((j:Int)+1)))->(gg ⟨164000000,n0⟩=some ⟨true,2,[ad s]⟩)->(gg ⟨164011000,st_a.next+1⟩=some ⟨true,mS.qe,dK ((List.range (j+1)).map fun i=>(pM s i).aO)⟩)->(BS s j)->(st_a.next<nx)->∃m0,m0<(s.ai.length)-j/\∃j:Nat,m0=(s.ai.length)-j/\j<=(s.ai.length)/\e 52=.int .i64 (j:Int)/\gg ⟨164000000,n0⟩=some ⟨true,2,[ad s]⟩/\gg ⟨164011000,st_a.next+1⟩=some ⟨true,mS.qe,dK ((List.range j).map fun i=>(pM s i).aO)⟩/\(∀i:Nat,i<j->BS s i)/\(st_a.next<nx):=fun x1 x2 x3 x4 x5=>⟨_,by omega,j+1,rfl,by omega,(by rw[x1,aD (by omega)]),x2,x3,(all_succ bA0 x4),x5⟩
    have iK:j<s.ai.length:=by omega
    have oH:=Bi iK
    have td:=GA (pM s j).aO (S9 j iK)
    have UK:=NR s (pM s j).bL (yN j iK)
    have CE:=xT (pM s j).aO ((List.range j).map fun i=>(pM s i).aO)
    rw[xD _ j]at CE
    have kq:(¬BS s j)->¬iH s:=fun h hp=>h (hp.tok j iK)
    have gM:(⟨164011000,st_a.next+1⟩:Id)≠⟨164000000,n0⟩:=by simp
    generalize htd:pM s j=tl at *
    cases hb:jZ tl.aO
    ·rw[hb]at td
     (repeat(first|((repeat(revert hN;revert N;apply Pn.out));refine wk (tw @b52 (tw @bg0 (tw @bg1 (tw @b1 (tw @b6 (tw @Ej (tw @Ek (tw @hj (tw @oH (tw @bJ.eq_1 @ad.eq_1)))))))))) ?_;(repeat(refine Pn.mk ?_;intro N hN)))|((try apply Or.inl);refine⟨_,aq.x (td) (sd (tw @b52 (tw @bg0 (tw @bg1 (tw @b1 (tw @b6 (tw @Ej (tw @Ek (tw @hj (tw @oH (tw @bJ.eq_1 @ad.eq_1))))))))))),?_⟩;refine hN _ _ ?_;clear hN N)))
     exact bc (b:=false) (.inl rfl) (sd @Nat.zero_add) (fS (kq fun h=>by rw[BS,htd,hb]at h;cases h.1))
    ·rw[hb]at td
     rcases CE with⟨EN,me⟩|⟨i,fe,me,gn⟩
     ·by_cases h4:(tl.bL.length:Int)=4
      ·have Ay:decide ((tl.bL.length:Int)=4)=true:=decide_eq_true h4
       cases hany:tl.bL.any fun g=> !jl g 0 s.aB.length
       ·rw[hany]at UK
        have tK:dK ((List.range j).map fun i=>(pM s i).aO)++[[.str tl.aO,.bool true]]=dK (List.map (fun i=>(pM s i).aO) (List.range j++[j])):=by simp[dK,htd]
        (repeat(first|((repeat(revert hN;revert N;apply Pn.out));refine wk (tw @b52 (tw @bg0 (tw @bg1 (tw @b1 (tw @b6 (tw @Ej (tw @Ek (tw @hj (tw @oH (tw @me (tw @Ay (tw @bJ.eq_1 @ad.eq_1)))))))))))) ?_;(repeat(refine Pn.mk ?_;intro N hN)))|((try apply Or.inl);refine⟨_,aq.x (td) (sd (tw @b52 (tw @bg0 (tw @bg1 (tw @b1 (tw @b6 (tw @Ej (tw @Ek (tw @hj (tw @oH (tw @me (tw @Ay (tw @bJ.eq_1 @ad.eq_1))))))))))))),?_⟩;refine hN _ _ ?_;clear hN N)|((try apply Or.inl);refine⟨_,aq.x (UK) (sd (tw @b52 (tw @bg0 (tw @bg1 (tw @b1 (tw @b6 (tw @Ej (tw @Ek (tw @hj (tw @oH (tw @me (tw @Ay (tw @bJ.eq_1 @ad.eq_1))))))))))))),?_⟩;refine hN _ _ ?_;clear hN N)))
        refine fE ?_ ?_ ?_ (⟨by rw[htd];exact hb,by rw[htd];omega,fun i hi=>(by rw[htd];exact EN i hi),fun g hg=>by rw[htd]at hg;have:=List.any_eq_false.1 hany g hg;simpa using this⟩) (by(try dsimp only);omega)
        all_goals simp only[go_sem, ↓reduceIte,Nat.reduceEqDiff,Nat.reduceAdd,Nat.reduceSub,Nat.reduceLeDiff,reduceCtorEq,b52,bg0,bg1,b1,b6,Ej,Ek,me,tK]
       ·rw[hany]at UK
        (repeat(first|((repeat(revert hN;revert N;apply Pn.out));refine wk (tw @b52 (tw @bg0 (tw @bg1 (tw @b1 (tw @b6 (tw @Ej (tw @Ek (tw @hj (tw @oH (tw @me (tw @Ay (tw @bJ.eq_1 @ad.eq_1)))))))))))) ?_;(repeat(refine Pn.mk ?_;intro N hN)))|((try apply Or.inl);refine⟨_,aq.x (td) (sd (tw @b52 (tw @bg0 (tw @bg1 (tw @b1 (tw @b6 (tw @Ej (tw @Ek (tw @hj (tw @oH (tw @me (tw @Ay (tw @bJ.eq_1 @ad.eq_1))))))))))))),?_⟩;refine hN _ _ ?_;clear hN N)|((try apply Or.inl);refine⟨_,aq.x (UK) (sd (tw @b52 (tw @bg0 (tw @bg1 (tw @b1 (tw @b6 (tw @Ej (tw @Ek (tw @hj (tw @oH (tw @me (tw @Ay (tw @bJ.eq_1 @ad.eq_1))))))))))))),?_⟩;refine hN _ _ ?_;clear hN N)))
        exact bc (b:=false) (.inl rfl) (sd @Nat.zero_add) (fS (kq fun h=>by
         rw[BS,htd]at h
         obtain⟨g,hg,hq⟩:=List.any_eq_true.1 hany
         have:=h.2.2.2 g hg
         rw[this]at hq;cases hq))
      ·have Ay:decide ((tl.bL.length:Int)=4)=false:=decide_eq_false h4
       (repeat(first|((repeat(revert hN;revert N;apply Pn.out));refine wk (tw @b52 (tw @bg0 (tw @bg1 (tw @b1 (tw @b6 (tw @Ej (tw @Ek (tw @hj (tw @oH (tw @me (tw @Ay (tw @bJ.eq_1 @ad.eq_1)))))))))))) ?_;(repeat(refine Pn.mk ?_;intro N hN)))|((try apply Or.inl);refine⟨_,aq.x (td) (sd (tw @b52 (tw @bg0 (tw @bg1 (tw @b1 (tw @b6 (tw @Ej (tw @Ek (tw @hj (tw @oH (tw @me (tw @Ay (tw @bJ.eq_1 @ad.eq_1))))))))))))),?_⟩;refine hN _ _ ?_;clear hN N)))
       exact bc (b:=false) (.inl rfl) (sd @Nat.zero_add) (fS (kq fun h=>by rw[BS,htd]at h;have:=h.2.1;omega))
     ·(repeat(first|((repeat(revert hN;revert N;apply Pn.out));refine wk (tw @b52 (tw @bg0 (tw @bg1 (tw @b1 (tw @b6 (tw @Ej (tw @Ek (tw @hj (tw @oH (tw @me (tw @gn (tw @bJ.eq_1 @ad.eq_1)))))))))))) ?_;(repeat(refine Pn.mk ?_;intro N hN)))|((try apply Or.inl);refine⟨_,aq.x (td) (sd (tw @b52 (tw @bg0 (tw @bg1 (tw @b1 (tw @b6 (tw @Ej (tw @Ek (tw @hj (tw @oH (tw @me (tw @gn (tw @bJ.eq_1 @ad.eq_1))))))))))))),?_⟩;refine hN _ _ ?_;clear hN N)))
      exact bc (b:=false) (.inl rfl) (sd @Nat.zero_add) (fS (kq fun h=>by
       rw[BS,htd]at h
       obtain⟨i,hi,he⟩:=List.mem_map.1 fe
       exact h.2.2.1 i (List.mem_range.1 hi) he))
   ·(try((repeat(revert hN;revert N;apply Pn.out));refine wk (tw @b52 (tw @bg0 (tw @bg1 (tw @b1 (tw @b6 (tw @Ej (tw @Ek (tw @hj @ad.eq_1)))))))) ?_;(repeat(refine Pn.mk ?_;intro N hN))))
    exact bc (b:=true) (.inl rfl) (sd @Nat.zero_add) (Dt ⟨by omega,by omega,by omega,fun i hi=>kj i (by omega),fun i hi=>bA0 i (by omega)⟩)
 ·rw[Bool.not_eq_true]at h2
  rw[h2]at hw
  (repeat(first|((repeat(revert hN;revert N;apply Pn.out));refine wk (tw @ad.eq_1 @h1) ?_;(repeat(refine Pn.mk ?_;intro N hN)))|((try apply Or.inl);refine⟨_,aq.x (hw) (sd (tw @ad.eq_1 @h1)),?_⟩;refine hN _ _ ?_;clear hN N)))
  exact bc (b:=false) (.inl rfl) (sd @Nat.zero_add) (fS fun h=>by
   have h3:=h.some
   have h4:=h.G0
   rw[gr ⟨by omega,by omega⟩]at h2;cases h2)
end Go.Proofs.YtgoelphibofcmaaGreat.V

namespace Go.Proofs.YtgoelphibofcmaaGreat.V
open Go.RowKit
attribute [local irreducible] dQ wpOps fX Call
attribute [local go_sem] aQ fM eU fY fW dm upd cG K.av cQ AV.cells AV.cell rowOf rowsOf part ld rowAt bQ cC dE ea gZ bS dh eo fV fj dB ef dd dc dS dU b4 bj cV bW cY cW ec eh ee cU ck de eb bV aU da cK gY bx cP cj bd dv bl dG AV.undef bH bK dW dZ dO dL cN ek eu cJ ej ei cZ db List.getD_cons_zero List.getD_cons_succ List.getD_nil List.all_cons List.all_nil Bool.and_true Bool.true_and Bool.and_self Bool.not_true Bool.not_false Option.map_some Option.map_none Option.bind_some Option.bind_none List.length_cons List.length_nil List.take_succ_cons List.take_zero List.take_nil List.drop_succ_cons List.drop_zero List.drop_nil List.head?_cons List.map_cons List.map_nil List.getElem?_cons_zero List.getElem?_cons_succ List.cons_append List.nil_append List.append_nil List.length_map List.set_cons_zero List.set_cons_succ Nat.reduceMul eq_self Int.toNat_natCast Int.natCast_nonneg and_self true_and and_true decide_true decide_false Bool.false_eq_true Nat.zero_add Nat.add_zero List.contains_cons List.contains_nil Bool.or_false Bool.false_or beq_self_eq_true Nat.reduceBEq ne_eq not_true_eq_false not_false_eq_true Id.mk.injEq false_and and_false Nat.reduceLT Int.reduceLE Int.reduceLT Int.reduceToNat Int.reduceNeg Int.reduceAdd Nat.le_refl List.length_append beq_true beq_false Bool.not_eq_eq_eq_not or_false false_or dX ae aj aJ bq bG cr aY bf aW bp cR bB
theorem vI {α:Type} {p:α->Bool} {xs:List α} {k:Nat} (hk:k<xs.length) (h1:p xs[k]=true) (h2:∀j (h:j<xs.length),j<k->p xs[j]=false):gL p xs=k:=by
 have:xs.findIdx p=k:=by rw[List.findIdx_eq hk];exact⟨h1,fun j hj=>h2 j (by omega) hj⟩
 rw[gL,this,if_pos hk]
theorem zf {α:Type} {p:α->Bool} {xs:List α} (h:∀j (h:j<xs.length),p xs[j]=false):gL p xs= -1:=by
 rw[gL,if_neg]
 rw[List.findIdx_lt_length]
 rintro⟨x,hx,M7⟩
 obtain⟨j,hj,rfl⟩:=List.getElem_of_mem hx
 rw[h j hj]at M7;cases M7
theorem Aw {s:ax} {i:Nat} (h:i<s.aB.length):qq s i=s.aB[i]:=by simp[qq,List.getD_eq_getElem?_getD,h]
theorem Bh {s:ax} {i:Nat} (h:i<s.ai.length):pM s i=s.ai[i]:=by simp[pM,List.getD_eq_getElem?_getD,h]
def L7 (s:ax) (n:ByteArray):Int:=gL (fun g:fQ=>decide (g.aO=n)) s.aB
def OR (s:ax) (n:ByteArray):Int:=gL (fun t:fh=>decide (t.aO=n)) s.ai
theorem HS (s:ax) (nm:ByteArray):aq Tryz.prog 190 [.du (ad s),.str nm] (.int .i64 (L7 s nm+1)):=by
 refine aq.body eF rfl fun hl n0=>?_
 have hlen:s.aB.length<=9223372036854775807:=by
  have h1:=(hl (.du (ad s)) (by simp)).CP (a:=.sl (s.aB.map cq)) (by simp[ad])
  simpa using h1.len
 clear hl
 (try((repeat(revert hN;revert N;apply Pn.out));refine wk @ad.eq_1 ?_;(repeat(refine Pn.mk ?_;intro N hN))))
 refine aZ (fun n env st=>∃k:Nat,n=(s.aB.length)-k/\k<=(s.aB.length)/\env 5=.int .i64 (k:Int)/\(∀j:Nat,j<k->∀h:j<s.aB.length,decide (s.aB[j].aO=nm)=false)) (s.aB.length) ⟨0,by omega,by omega,sl @ad.eq_1,fun _ h=>absurd h (Nat.not_lt_zero _)⟩ ?_
 rintro n_a env_a st_a ⟨k,rfl,ale,a5,kj⟩ dy
 have a0:=dy 0 (by kernel_rfl);have a1:=dy 1 (by kernel_rfl)
 simp only[go_sem, ↓reduceIte,Nat.reduceEqDiff,Nat.reduceAdd,Nat.reduceSub,Nat.reduceLeDiff,reduceCtorEq,ad]at a0 a1
 clear dy
 by_cases hk:(k:Int)<(s.aB.length:Int)
 ·have cw:∀{e:Env},(e 5=.int .i64 (IntKind.i64.wrap ((k:Int)+1)))->(∀h:k<s.aB.length,decide (s.aB[k].aO=nm)=false)->∃m0,m0<(s.aB.length)-k/\∃k:Nat,m0=(s.aB.length)-k/\k<=(s.aB.length)/\e 5=.int .i64 (k:Int)/\(∀j:Nat,j<k->∀h:j<s.aB.length,decide (s.aB[j].aO=nm)=false):=fun x1 x2=>⟨_,by omega,k+1,rfl,by omega,(by rw[x1,aD (by omega)]),(all_succ kj x2)⟩
  have fP:k<s.aB.length:=by omega
  have eX:=Ax fP
  have e:=Aw fP
  cases hd:decide ((qq s k).aO=nm)
  ·have Ur:=of_decide_eq_false hd
   (try((repeat(revert hN;revert N;apply Pn.out));refine wk (tw @a5 (tw @a0 (tw @a1 (tw @hk (tw @eX (tw @Ur (tw @hd (tw @cq.eq_1 @ad.eq_1)))))))) ?_;(repeat(refine Pn.mk ?_;intro N hN))))
   exact cw (sd (tw @a5 (tw @a0 @a1))) (fun _=>by rw[e]at hd;exact hd)
  ·have Ur:=of_decide_eq_true hd
   have hw:IntKind.i64.wrap ((k:Int)+1)=(k:Int)+1:=bI (by omega)
   (try((repeat(revert hN;revert N;apply Pn.out));refine wk (tw @a5 (tw @a0 (tw @a1 (tw @hk (tw @eX (tw @hd (tw @hw (tw @cq.eq_1 @ad.eq_1)))))))) ?_;(repeat(refine Pn.mk ?_;intro N hN))))
   exact dj (b:=(k:Int)+1) (.inl rfl) (sd @Nat.zero_add) (by rw[L7,vI fP (by rw[e]at hd;exact hd) fun j h hj=>kj j hj h])
 ·(try((repeat(revert hN;revert N;apply Pn.out));refine wk (tw @a5 (tw @a0 (tw @a1 (tw @hk @ad.eq_1)))) ?_;(repeat(refine Pn.mk ?_;intro N hN))))
  exact dj (b:=0) (.inl rfl) (sd @Nat.zero_add) (by rw[L7,zf fun j h=>kj j (by omega) h];rfl)
theorem HT (s:ax) (nm:ByteArray):aq Tryz.prog 191 [.du (ad s),.str nm] (.int .i64 (OR s nm)):=by
 refine aq.body eF rfl fun hl n0=>?_
 have hlen:s.ai.length<=9223372036854775807:=by
  have h1:=(hl (.du (ad s)) (by simp)).CP (a:=.sl (s.ai.map bJ)) (by simp[ad])
  simpa using h1.len
 clear hl
 (try((repeat(revert hN;revert N;apply Pn.out));refine wk @ad.eq_1 ?_;(repeat(refine Pn.mk ?_;intro N hN))))
 refine aZ (fun n env st=>∃k:Nat,n=(s.ai.length)-k/\k<=(s.ai.length)/\env 5=.int .i64 (k:Int)/\(∀j:Nat,j<k->∀h:j<s.ai.length,decide (s.ai[j].aO=nm)=false)) (s.ai.length) ⟨0,by omega,by omega,sl @ad.eq_1,fun _ h=>absurd h (Nat.not_lt_zero _)⟩ ?_
 rintro n_a env_a st_a ⟨k,rfl,ale,a5,kj⟩ dy
 have a0:=dy 0 (by kernel_rfl);have a1:=dy 1 (by kernel_rfl)
 simp only[go_sem, ↓reduceIte,Nat.reduceEqDiff,Nat.reduceAdd,Nat.reduceSub,Nat.reduceLeDiff,reduceCtorEq,ad]at a0 a1
 clear dy
 by_cases hk:(k:Int)<(s.ai.length:Int)
 ·have cw:∀{e:Env},(e 5=.int .i64 (IntKind.i64.wrap ((k:Int)+1)))->(∀h:k<s.ai.length,decide (s.ai[k].aO=nm)=false)->∃m0,m0<(s.ai.length)-k/\∃k:Nat,m0=(s.ai.length)-k/\k<=(s.ai.length)/\e 5=.int .i64 (k:Int)/\(∀j:Nat,j<k->∀h:j<s.ai.length,decide (s.ai[j].aO=nm)=false):=fun x1 x2=>⟨_,by omega,k+1,rfl,by omega,(by rw[x1,aD (by omega)]),(all_succ kj x2)⟩
  have fP:k<s.ai.length:=by omega
  have eX:=Bi fP
  have e:=Bh fP
  cases hd:decide ((pM s k).aO=nm)
  ·(try((repeat(revert hN;revert N;apply Pn.out));refine wk (tw @a5 (tw @a0 (tw @a1 (tw @hk (tw @eX (tw @hd (tw @bJ.eq_1 @ad.eq_1))))))) ?_;(repeat(refine Pn.mk ?_;intro N hN))))
   exact cw (sd (tw @a5 (tw @a0 @a1))) (fun _=>by rw[e]at hd;exact hd)
  ·(try((repeat(revert hN;revert N;apply Pn.out));refine wk (tw @a5 (tw @a0 (tw @a1 (tw @hk (tw @eX (tw @hd (tw @bJ.eq_1 @ad.eq_1))))))) ?_;(repeat(refine Pn.mk ?_;intro N hN))))
   exact dj (b:=(k:Int)) (.inl rfl) (sd @Nat.zero_add) (by rw[OR,vI fP (by rw[e]at hd;exact hd) fun j h hj=>kj j hj h])
 ·(try((repeat(revert hN;revert N;apply Pn.out));refine wk (tw @a5 (tw @a0 (tw @a1 (tw @hk @ad.eq_1)))) ?_;(repeat(refine Pn.mk ?_;intro N hN))))
  exact dj (b:=-1) (.inl rfl) (sd @Nat.zero_add) (by rw[OR,zf fun j h=>kj j (by omega) h])
theorem Pu {s:ax} {i:Nat} (h:i<s.aB.length):L7 s (qq s i).aO=i↔∀j,j<i->(qq s j).aO≠(qq s i).aO:=by
 constructor
 ·intro he j hj hc
  have iA:j<s.aB.length:=by omega
  have:s.aB.findIdx (fun g:fQ=>decide (g.aO=(qq s i).aO))<=j:=by
   rcases Nat.lt_or_ge j (s.aB.findIdx fun g:fQ=>decide (g.aO=(qq s i).aO))with ew|rl
   ·have:=List.not_of_lt_findIdx ew
    rw[<-Aw iA]at this
    simp[hc]at this
   ·exact rl
  unfold L7 gL at he
  split at he<;>omega
 ·intro hd
  exact vI h (by rw[<-Aw h];simp) fun j iA hj=>by rw[<-Aw iA];simpa using hd j hj
theorem QR {s:ax} {i:Nat} (h:i<s.ai.length):OR s (pM s i).aO=i↔∀j,j<i->(pM s j).aO≠(pM s i).aO:=by
 constructor
 ·intro he j hj hc
  have iA:j<s.ai.length:=by omega
  have:s.ai.findIdx (fun g:fh=>decide (g.aO=(pM s i).aO))<=j:=by
   rcases Nat.lt_or_ge j (s.ai.findIdx fun g:fh=>decide (g.aO=(pM s i).aO))with ew|rl
   ·have:=List.not_of_lt_findIdx ew
    rw[<-Bh iA]at this
    simp[hc]at this
   ·exact rl
  unfold OR gL at he
  split at he<;>omega
 ·intro hd
  exact vI h (by rw[<-Bh h];simp) fun j iA hj=>by rw[<-Bh iA];simpa using hd j hj
theorem Nk (s:ax) (hn:fm s) (hg:s.aB.length<=1048576) (ht:s.ai.length<=1048576):aq Tryz.prog 156 [.du (ad s)] (.bool (sR s)):=by
 refine aq.body eF rfl fun hl n0=>?_
 clear hl
 have SN:∀i,i<s.aB.length->(qq s i).aO.size<=9223372036854775807:=fun i hi=>hn.1 _ (by simp[qq,List.getD_eq_getElem?_getD,hi])
 have S9:∀i,i<s.ai.length->(pM s i).aO.size<=9223372036854775807:=fun i hi=>hn.2 _ (by simp[pM,List.getD_eq_getElem?_getD,hi])
 by_cases h1:(200:Int)<(s.aB.length:Int)
 ·(try((repeat(revert hN;revert N;apply Pn.out));refine wk (tw @ad.eq_1 @h1) ?_;(repeat(refine Pn.mk ?_;intro N hN))))
  exact bc (b:=false) (.inl rfl) (sd @Nat.zero_add) (fS fun h=>by have:=h.xd;omega)
 by_cases h2:(s.ai.length:Int)<1
 ·(try((repeat(revert hN;revert N;apply Pn.out));refine wk (tw @ad.eq_1 (tw @h1 @h2)) ?_;(repeat(refine Pn.mk ?_;intro N hN))))
  exact bc (b:=false) (.inl rfl) (sd @Nat.zero_add) (fS fun h=>by have:=h.some;omega)
 by_cases h3:(160:Int)<(s.ai.length:Int)
 ·(try((repeat(revert hN;revert N;apply Pn.out));refine wk (tw @ad.eq_1 (tw @h1 (tw @h2 @h3))) ?_;(repeat(refine Pn.mk ?_;intro N hN))))
  exact bc (b:=false) (.inl rfl) (sd @Nat.zero_add) (fS fun h=>by have:=h.G0;omega)
 (try((repeat(revert hN;revert N;apply Pn.out));refine wk (tw @ad.eq_1 (tw @h1 (tw @h2 @h3))) ?_;(repeat(refine Pn.mk ?_;intro N hN))))
 refine aZ (fun n env st=>∃k:Nat,n=(s.aB.length)-k/\k<=(s.aB.length)/\env 3=.int .i64 (k:Int)/\(∀j:Nat,j<k->D8 s j)) (s.aB.length) ⟨0,by omega,by omega,sl @ad.eq_1,fun _ h=>absurd h (Nat.not_lt_zero _)⟩ ?_
 rintro n_a env_a st_a ⟨k,rfl,ale,a3,kj⟩ dy
 have a0:=dy 0 (by kernel_rfl)
 simp only[go_sem, ↓reduceIte,Nat.reduceEqDiff,Nat.reduceAdd,Nat.reduceSub,Nat.reduceLeDiff,reduceCtorEq,ad]at a0
 clear dy
 by_cases hk:(k:Int)<(s.aB.length:Int)
 ·have cw:∀{e:Env},(e 3=.int .i64 (IntKind.i64.wrap ((k:Int)+1)))->(D8 s k)->∃m0,m0<(s.aB.length)-k/\∃k:Nat,m0=(s.aB.length)-k/\k<=(s.aB.length)/\e 3=.int .i64 (k:Int)/\(∀j:Nat,j<k->D8 s j):=fun x1 x2=>⟨_,by omega,k+1,rfl,by omega,(by rw[x1,aD (by omega)]),(all_succ kj x2)⟩
  have fP:k<s.aB.length:=by omega
  have eX:=Ax fP
  have td:=GR (qq s k).aO (SN k fP)
  have Mh:=l6 (qq s k).eK 1 4
  have BI:=HS s (qq s k).aO
  have sg:=Pu fP
  have kq:(¬D8 s k)->¬iH s:=fun h hp=>h (hp.Uc k fP)
  have hw:IntKind.i64.wrap ((k:Int)+1)=(k:Int)+1:=bI (by omega)
  generalize tb:qq s k=gl at *
  cases hb:jZ gl.aO
  ·rw[hb]at td
   (repeat(first|((repeat(revert hN;revert N;apply Pn.out));refine wk (tw @a3 (tw @a0 (tw @hk (tw @eX (tw @cq.eq_1 @ad.eq_1))))) ?_;(repeat(refine Pn.mk ?_;intro N hN)))|((try apply Or.inl);refine⟨_,aq.x (td) (sd (tw @a3 (tw @a0 (tw @hk (tw @eX (tw @cq.eq_1 @ad.eq_1)))))),?_⟩;refine hN _ _ ?_;clear hN N)))
   exact bc (b:=false) (.inl rfl) (sd @Nat.zero_add) (fS (kq fun h=>by rw[D8,tb,hb]at h;cases h.1))
  rw[hb]at td
  cases dJ:jl gl.eK 1 4
  ·rw[dJ]at Mh
   (repeat(first|((repeat(revert hN;revert N;apply Pn.out));refine wk (tw @a3 (tw @a0 (tw @hk (tw @eX (tw @cq.eq_1 @ad.eq_1))))) ?_;(repeat(refine Pn.mk ?_;intro N hN)))|((try apply Or.inl);refine⟨_,aq.x (td) (sd (tw @a3 (tw @a0 (tw @hk (tw @eX (tw @cq.eq_1 @ad.eq_1)))))),?_⟩;refine hN _ _ ?_;clear hN N)|((try apply Or.inl);refine⟨_,aq.x (Mh) (sd (tw @a3 (tw @a0 (tw @hk (tw @eX (tw @cq.eq_1 @ad.eq_1)))))),?_⟩;refine hN _ _ ?_;clear hN N)))
   exact bc (b:=false) (.inl rfl) (sd @Nat.zero_add) (fS (kq fun h=>by rw[D8,tb,dJ]at h;cases h.2.1))
  rw[dJ]at Mh
  rw[ad]at BI
  by_cases hq:L7 s gl.aO=(k:Int)
  ·have hd:decide (L7 s gl.aO+1=(k:Int)+1)=true:=decide_eq_true (by omega)
   have mT:decide (L7 s gl.aO=(k:Int))=true:=decide_eq_true hq
   (repeat(first|((repeat(revert hN;revert N;apply Pn.out));refine wk (tw @a3 (tw @a0 (tw @hk (tw @eX (tw @hw (tw @hd (tw @mT (tw @cq.eq_1 @ad.eq_1)))))))) ?_;(repeat(refine Pn.mk ?_;intro N hN)))|((try apply Or.inl);refine⟨_,aq.x (td) (sd (tw @a3 (tw @a0 (tw @hk (tw @eX (tw @hw (tw @hd (tw @mT (tw @cq.eq_1 @ad.eq_1))))))))),?_⟩;refine hN _ _ ?_;clear hN N)|((try apply Or.inl);refine⟨_,aq.x (Mh) (sd (tw @a3 (tw @a0 (tw @hk (tw @eX (tw @hw (tw @hd (tw @mT (tw @cq.eq_1 @ad.eq_1))))))))),?_⟩;refine hN _ _ ?_;clear hN N)|((try apply Or.inl);refine⟨_,aq.x (BI) (sd (tw @a3 (tw @a0 (tw @hk (tw @eX (tw @hw (tw @hd (tw @mT (tw @cq.eq_1 @ad.eq_1))))))))),?_⟩;refine hN _ _ ?_;clear hN N)))
   exact cw (sd (tw @a3 (tw @a0 @hw))) (⟨by rw[tb];exact hb,by rw[tb];exact dJ,fun j hj=>by rw[tb];exact sg.1 hq j hj⟩)
  ·have hd:decide (L7 s gl.aO+1=(k:Int)+1)=false:=decide_eq_false (by omega)
   have mT:decide (L7 s gl.aO=(k:Int))=false:=decide_eq_false hq
   (repeat(first|((repeat(revert hN;revert N;apply Pn.out));refine wk (tw @a3 (tw @a0 (tw @hk (tw @eX (tw @hw (tw @hd (tw @mT (tw @cq.eq_1 @ad.eq_1)))))))) ?_;(repeat(refine Pn.mk ?_;intro N hN)))|((try apply Or.inl);refine⟨_,aq.x (td) (sd (tw @a3 (tw @a0 (tw @hk (tw @eX (tw @hw (tw @hd (tw @mT (tw @cq.eq_1 @ad.eq_1))))))))),?_⟩;refine hN _ _ ?_;clear hN N)|((try apply Or.inl);refine⟨_,aq.x (Mh) (sd (tw @a3 (tw @a0 (tw @hk (tw @eX (tw @hw (tw @hd (tw @mT (tw @cq.eq_1 @ad.eq_1))))))))),?_⟩;refine hN _ _ ?_;clear hN N)|((try apply Or.inl);refine⟨_,aq.x (BI) (sd (tw @a3 (tw @a0 (tw @hk (tw @eX (tw @hw (tw @hd (tw @mT (tw @cq.eq_1 @ad.eq_1))))))))),?_⟩;refine hN _ _ ?_;clear hN N)))
   exact bc (b:=false) (.inl rfl) (sd @Nat.zero_add) (fS (kq fun h=>by
    rw[D8,tb]at h
    exact hq (sg.2 h.2.2)))
 ·have kT:k=s.aB.length:=by omega
  (try((repeat(revert hN;revert N;apply Pn.out));refine wk (tw @a3 (tw @a0 (tw @hk @ad.eq_1))) ?_;(repeat(refine Pn.mk ?_;intro N hN))))
  refine aZ (fun n env st=>∃j:Nat,n=(s.ai.length)-j/\j<=(s.ai.length)/\env 5=.int .i64 (j:Int)/\(∀i:Nat,i<j->BS s i)) (s.ai.length) ⟨0,by omega,by omega,sl (tw @a3 (tw @a0 @ad.eq_1)),fun _ h=>absurd h (Nat.not_lt_zero _)⟩ ?_
  rintro n_b env_b st_b ⟨j,rfl,ble,b5,bA0⟩ fK
  have b0:=fK 0 (by kernel_rfl)
  simp only[go_sem, ↓reduceIte,Nat.reduceEqDiff,Nat.reduceAdd,Nat.reduceSub,Nat.reduceLeDiff,reduceCtorEq,a3,a0,ad]at b0
  clear fK
  by_cases hj:(j:Int)<(s.ai.length:Int)
  ·have fE:∀{e:Env},(e 5=.int .i64 (IntKind.i64.wrap ((j:Int)+1)))->(BS s j)->∃m0,m0<(s.ai.length)-j/\∃j:Nat,m0=(s.ai.length)-j/\j<=(s.ai.length)/\e 5=.int .i64 (j:Int)/\(∀i:Nat,i<j->BS s i):=fun x1 x2=>⟨_,by omega,j+1,rfl,by omega,(by rw[x1,aD (by omega)]),(all_succ bA0 x2)⟩
   have iK:j<s.ai.length:=by omega
   have oH:=Bi iK
   have td:=GR (pM s j).aO (S9 j iK)
   have BI:=HT s (pM s j).aO
   have sg:=QR iK
   have kq:(¬BS s j)->¬iH s:=fun h hp=>h (hp.tok j iK)
   generalize htd:pM s j=tl at *
   cases hb:jZ tl.aO
   ·rw[hb]at td
    (repeat(first|((repeat(revert hN;revert N;apply Pn.out));refine wk (tw @b5 (tw @b0 (tw @hj (tw @oH (tw @bJ.eq_1 @ad.eq_1))))) ?_;(repeat(refine Pn.mk ?_;intro N hN)))|((try apply Or.inl);refine⟨_,aq.x (td) (sd (tw @b5 (tw @b0 (tw @hj (tw @oH (tw @bJ.eq_1 @ad.eq_1)))))),?_⟩;refine hN _ _ ?_;clear hN N)))
    exact bc (b:=false) (.inl rfl) (sd @Nat.zero_add) (fS (kq fun h=>by rw[BS,htd,hb]at h;cases h.1))
   rw[hb]at td
   by_cases h4:(tl.bL.length:Int)=4
   ·have Ay:decide ((tl.bL.length:Int)=4)=true:=decide_eq_true h4
    rw[ad]at BI
    by_cases hq:OR s tl.aO=(j:Int)
    ·have hd:decide (OR s tl.aO=(j:Int))=true:=decide_eq_true hq
     (repeat(first|((repeat(revert hN;revert N;apply Pn.out));refine wk (tw @b5 (tw @b0 (tw @hj (tw @oH (tw @Ay (tw @hd (tw @bJ.eq_1 @ad.eq_1))))))) ?_;(repeat(refine Pn.mk ?_;intro N hN)))|((try apply Or.inl);refine⟨_,aq.x (td) (sd (tw @b5 (tw @b0 (tw @hj (tw @oH (tw @Ay (tw @hd (tw @bJ.eq_1 @ad.eq_1)))))))),?_⟩;refine hN _ _ ?_;clear hN N)|((try apply Or.inl);refine⟨_,aq.x (BI) (sd (tw @b5 (tw @b0 (tw @hj (tw @oH (tw @Ay (tw @hd (tw @bJ.eq_1 @ad.eq_1)))))))),?_⟩;refine hN _ _ ?_;clear hN N)))
     refine aZ (fun n env st=>∃i:Nat,n=(4)-i/\i<=(4)/\env 7=.int .i64 (i:Int)/\st.get ⟨156012007,st_b.next+1⟩=some ⟨true,2,[bJ tl]⟩/\(∀x:Nat,x<i->jl (tl.bL.getD x 0) 0 s.aB.length=true)) (4) ⟨0,by omega,by omega,sl (tw @b5 (tw @b0 (tw @bJ.eq_1 @ad.eq_1))),sl (tw @b5 (tw @b0 (tw @bJ.eq_1 @ad.eq_1))),fun _ h=>absurd h (Nat.not_lt_zero _)⟩ ?_
     rintro n_c env_c st_c ⟨i,rfl,cle,c7,cg0,cA0⟩ cfr
     have c0:=cfr 0 (by kernel_rfl);have c5:=cfr 5 (by kernel_rfl);have c6:=cfr 6 (by kernel_rfl)
     simp only[go_sem, ↓reduceIte,Nat.reduceEqDiff,Nat.reduceAdd,Nat.reduceSub,Nat.reduceLeDiff,reduceCtorEq,b5,b0,bJ,ad]at c0 c5 c6
     clear cfr
     by_cases hi:(i:Int)<4
     ·have iF:∀{e:Env} {gg:Rows},(e 7=.int .i64 (IntKind.i64.wrap ((i:Int)+1)))->(gg ⟨156012007,st_b.next+1⟩=some ⟨true,2,[bJ tl]⟩)->(jl (tl.bL.getD i 0) 0 s.aB.length=true)->∃m0,m0<(4)-i/\∃i:Nat,m0=(4)-i/\i<=(4)/\e 7=.int .i64 (i:Int)/\gg ⟨156012007,st_b.next+1⟩=some ⟨true,2,[bJ tl]⟩/\(∀x:Nat,x<i->jl (tl.bL.getD x 0) 0 s.aB.length=true):=fun x1 x2 x3=>⟨_,by omega,i+1,rfl,by omega,(by rw[x1,aD (by omega)]),x2,(all_succ cA0 x3)⟩
      have fe:i<tl.bL.length:=by omega
      have iV:(tl.bL.map az)[i]? =some (az (tl.bL.getD i 0)):=getD_map az fe
      have tJ:tl.bL.getD i 0∈tl.bL:=by rw[List.getD_eq_getElem?_getD,List.getElem?_eq_getElem fe];exact List.getElem_mem fe
      have Kf:=l6 (tl.bL.getD i 0) 0 s.aB.length
      generalize PZ:tl.bL.getD i 0=gv at *
      cases hv:jl gv 0 s.aB.length
      ·rw[hv]at Kf
       (repeat(first|((repeat(revert hN;revert N;apply Pn.out));refine wk (tw @c7 (tw @cg0 (tw @c0 (tw @c5 (tw @c6 (tw @hi (tw @iV (tw @az.eq_1 (tw @bJ.eq_1 @ad.eq_1))))))))) ?_;(repeat(refine Pn.mk ?_;intro N hN)))|((try apply Or.inl);refine⟨_,aq.x (Kf) (sd (tw @c7 (tw @cg0 (tw @c0 (tw @c5 (tw @c6 (tw @hi (tw @iV (tw @az.eq_1 (tw @bJ.eq_1 @ad.eq_1)))))))))),?_⟩;refine hN _ _ ?_;clear hN N)))
       exact bc (b:=false) (.inl rfl) (sd @Nat.zero_add) (fS (kq fun h=>by
        rw[BS,htd]at h
        have:=h.2.2.2 gv tJ
        rw[hv]at this;cases this))
      ·rw[hv]at Kf
       (repeat(first|((repeat(revert hN;revert N;apply Pn.out));refine wk (tw @c7 (tw @cg0 (tw @c0 (tw @c5 (tw @c6 (tw @hi (tw @iV (tw @az.eq_1 (tw @bJ.eq_1 @ad.eq_1))))))))) ?_;(repeat(refine Pn.mk ?_;intro N hN)))|((try apply Or.inl);refine⟨_,aq.x (Kf) (sd (tw @c7 (tw @cg0 (tw @c0 (tw @c5 (tw @c6 (tw @hi (tw @iV (tw @az.eq_1 (tw @bJ.eq_1 @ad.eq_1)))))))))),?_⟩;refine hN _ _ ?_;clear hN N)))
       refine iF ?_ ?_ (hv)
       all_goals simp only[go_sem, ↓reduceIte,Nat.reduceEqDiff,Nat.reduceAdd,Nat.reduceSub,Nat.reduceLeDiff,reduceCtorEq,c7,cg0,c0,c5,c6]
     ·have hi4:i=4:=by omega
      (try((repeat(revert hN;revert N;apply Pn.out));refine wk (tw @c7 (tw @cg0 (tw @c0 (tw @c5 (tw @c6 (tw @hi (tw @bJ.eq_1 @ad.eq_1))))))) ?_;(repeat(refine Pn.mk ?_;intro N hN))))
      exact fE (sd (tw @b5 (tw @b0 (tw @c7 (tw @cg0 (tw @c0 (tw @c5 @c6))))))) (⟨by rw[htd];exact hb,by rw[htd];omega,fun x hx=>(by rw[htd];exact sg.1 hq x hx),fun g hg=>by
       rw[htd]at hg
       obtain⟨x,hx,rfl⟩:=List.getElem_of_mem hg
       have:=cA0 x (by omega)
       rwa [List.getD_eq_getElem?_getD,List.getElem?_eq_getElem hx]at this⟩)
    ·have hd:decide (OR s tl.aO=(j:Int))=false:=decide_eq_false hq
     (repeat(first|((repeat(revert hN;revert N;apply Pn.out));refine wk (tw @b5 (tw @b0 (tw @hj (tw @oH (tw @Ay (tw @hd (tw @bJ.eq_1 @ad.eq_1))))))) ?_;(repeat(refine Pn.mk ?_;intro N hN)))|((try apply Or.inl);refine⟨_,aq.x (td) (sd (tw @b5 (tw @b0 (tw @hj (tw @oH (tw @Ay (tw @hd (tw @bJ.eq_1 @ad.eq_1)))))))),?_⟩;refine hN _ _ ?_;clear hN N)|((try apply Or.inl);refine⟨_,aq.x (BI) (sd (tw @b5 (tw @b0 (tw @hj (tw @oH (tw @Ay (tw @hd (tw @bJ.eq_1 @ad.eq_1)))))))),?_⟩;refine hN _ _ ?_;clear hN N)))
     exact bc (b:=false) (.inl rfl) (sd @Nat.zero_add) (fS (kq fun h=>by
      rw[BS,htd]at h
      exact hq (sg.2 h.2.2.1)))
   ·have Ay:decide ((tl.bL.length:Int)=4)=false:=decide_eq_false h4
    (repeat(first|((repeat(revert hN;revert N;apply Pn.out));refine wk (tw @b5 (tw @b0 (tw @hj (tw @oH (tw @Ay (tw @bJ.eq_1 @ad.eq_1)))))) ?_;(repeat(refine Pn.mk ?_;intro N hN)))|((try apply Or.inl);refine⟨_,aq.x (td) (sd (tw @b5 (tw @b0 (tw @hj (tw @oH (tw @Ay (tw @bJ.eq_1 @ad.eq_1))))))),?_⟩;refine hN _ _ ?_;clear hN N)))
    exact bc (b:=false) (.inl rfl) (sd @Nat.zero_add) (fS (kq fun h=>by rw[BS,htd]at h;have:=h.2.1;omega))
  ·(try((repeat(revert hN;revert N;apply Pn.out));refine wk (tw @b5 (tw @b0 (tw @hj @ad.eq_1))) ?_;(repeat(refine Pn.mk ?_;intro N hN))))
   exact bc (b:=true) (.inl rfl) (sd @Nat.zero_add) (Dt ⟨by omega,by omega,by omega,fun i hi=>kj i (by omega),fun i hi=>bA0 i (by omega)⟩)
end Go.Proofs.YtgoelphibofcmaaGreat.V

namespace Go.Proofs.YtgoelphibofcmaaGreat.V
def jY (a b:aM):Bool:=decide (a.eR<b.eR)||(decide (a.eR=b.eR)&&decide (a.fc<b.fc))
theorem vZ {a b:aM}:jY a b=true↔a.eR<b.eR∨(a.eR=b.eR/\a.fc<b.fc):=by simp[jY]
theorem qa {a b:aM}:jY a b=false↔¬(a.eR<b.eR∨(a.eR=b.eR/\a.fc<b.fc)):=by rw[<-vZ,Bool.not_eq_true]
theorem Fx {a b:aM} (h1:a.fc=b.fc) (h2:a.eR=b.eR):a=b:=by cases a;cases b;simp_all
theorem j8 {a b c:aM} (h:jY a b=true) (k:jY b c=true):jY a c=true:=by rw[vZ]at *;omega
theorem nK {a:aM}:jY a a=false:=by rw[qa];omega
theorem KN {a b:aM} (h:jY a b=true):jY b a=false:=by rw[vZ]at h;rw[qa];omega
theorem GI {a b:aM} (h:jY a b=false) (gM:a≠b):jY b a=true:=by
 rw[qa]at h;rw[vZ]
 by_cases hy:a.eR=b.eR
 ·by_cases hx:a.fc=b.fc
  ·exact absurd (Fx hx hy) gM
  ·omega
 ·omega
def r7 (a b:Int):Int:=if a<b then -1 else if b<a then 1 else 0
def NC (a b:Int):Int:=if a=0 then b else a
def r8 (a b:aM):Int:=NC (r7 a.eR b.eR) (r7 a.fc b.fc)
theorem vG (a b:aM):decide (r8 a b<0)=jY a b:=by
 unfold r8 NC r7 jY
 by_cases h1:a.eR<b.eR
 ·simp[h1]
 ·by_cases h2:b.eR<a.eR
  ·have:¬a.eR=b.eR:=by omega
   simp[h1,h2,this]
  ·have:a.eR=b.eR:=by omega
   by_cases h3:a.fc<b.fc
   ·simp[h1,h2,this,h3]
   ·by_cases h4:b.fc<a.fc<;>simp[h1,h2,this,h3,h4]
theorem Hi (a b:aM):(r8 a b=0)↔a=b:=by
 cases a;cases b
 unfold r8 NC r7
 simp only[aM.mk.injEq]
 split<;>(try split)<;>(try split)<;>(try split)<;>omega
def KU:ab:=⟨⟨0,0⟩,0⟩
def aA (l:List ab) (i:Nat):ab:=l.getD i KU
theorem fx {l:List ab} {i:Nat} (h:i<l.length):aA l i=l[i]:=by simp[aA,List.getD_eq_getElem?_getD,h]
theorem lv {l:List ab} {i:Nat} (h:i<l.length):aA l i∈l:=by rw[fx h];exact List.getElem_mem h
def qo (l:List ab):Prop:=∀i j:Nat,i<j->j<l.length->jY (aA l i).aL (aA l j).aL=true
def qw (l:List ab) (p:aM):Nat:=l.findIdx fun c=>decide (c.aL=p)
def eY (l:List ab) (p:aM):Int:=if qw l p<l.length then(qw l p:Int)else -1
def su (l:List ab) (p:aM):Nat:=l.findIdx fun c=> !jY c.aL p
theorem AM {l:List ab} {p:aM} {i:Nat} (hi:i<=l.length) (h1:∀x,x<i->jY (aA l x).aL p=true) (h2:i<l.length->jY (aA l i).aL p=false):su l p=i:=by
 unfold su
 by_cases h:i<l.length
 ·rw[List.findIdx_eq h]
  refine⟨by have:=h2 h;rw[fx h]at this;simp[this],fun j hj=>?_⟩
  have:=h1 j hj
  rw[fx (by omega)]at this
  simp[this]
 ·have:i=l.length:=by omega
  subst this
  refine List.findIdx_eq_length_of_false fun x hx=>?_
  obtain⟨j,hj,rfl⟩:=List.getElem_of_mem hx
  have:=h1 j hj
  rw[fx hj]at this
  simp[this]
theorem GG {l:List ab} {p:aM} (hR:qo l):eY l p=if su l p<l.length/\(aA l (su l p)).aL=p then(su l p:Int)else -1:=by
 by_cases h:∃i,i<l.length/\(aA l i).aL=p
 ·obtain⟨i,hi,hp⟩:=h
  have h1:su l p=i:=AM (by omega) (fun x hx=>by rw[<-hp];exact hR x i hx hi) fun _=>by rw[hp];exact nK
  have h2:qw l p=i:=by
   rw[qw,List.findIdx_eq hi]
   refine⟨by rw[fx hi]at hp;simpa using hp,fun j hj=>?_⟩
   have:=hR j i hj hi
   rw[hp,fx (by omega)]at this
   simp only[decide_eq_false_iff_not]
   intro hc
   rw[hc,nK]at this
   cases this
  rw[eY,h1,h2,if_pos hi,if_pos ⟨hi,hp⟩]
 ·have h2:¬qw l p<l.length:=by
   rw[qw,List.findIdx_lt_length]
   rintro⟨c,hc,he⟩
   obtain⟨j,hj,rfl⟩:=List.getElem_of_mem hc
   exact h ⟨j,hj,by rw[fx hj];simpa using he⟩
  rw[eY,if_neg h2,if_neg]
  rintro⟨h3,h4⟩
  exact h ⟨_,h3,h4⟩
theorem nI {l:List ab} {p:aM} (h:0<=eY l p):(eY l p).toNat<l.length/\(aA l (eY l p).toNat).aL=p:=by
 unfold eY at h ⊢
 split at h
 ·rename_i hc
  rw[if_pos hc]
  refine⟨by omega,?_⟩
  have:=of_decide_eq_true (List.findIdx_getElem (p:=fun c:ab=>decide (c.aL=p)) (xs:=l) (w:=hc))
  rw[Int.toNat_natCast,fx hc]
  exact this
 ·omega
def gV (l:List ab) (p:aM):Int:=if 0<=eY l p then(aA l (eY l p).toNat).aT else -1
end Go.Proofs.YtgoelphibofcmaaGreat.V

namespace Go.Proofs.YtgoelphibofcmaaGreat.V
open Go.RowKit
attribute [local irreducible] dQ wpOps fX Call
attribute [local go_sem] aQ fM eU fY fW dm upd cG K.av cQ AV.cells AV.cell rowOf rowsOf part ld rowAt bQ cC dE ea gZ bS dh eo fV fj dB ef dd dc dS dU b4 bj cV bW cY cW ec eh ee cU ck de eb bV aU da cK gY bx cP cj bd dv bl dG AV.undef bH bK dW dZ dO dL cN ek eu cJ ej ei cZ db List.getD_cons_zero List.getD_cons_succ List.getD_nil List.all_cons List.all_nil Bool.and_true Bool.true_and Bool.and_self Bool.not_true Bool.not_false Option.map_some Option.map_none Option.bind_some Option.bind_none List.length_cons List.length_nil List.take_succ_cons List.take_zero List.take_nil List.drop_succ_cons List.drop_zero List.drop_nil List.head?_cons List.map_cons List.map_nil List.getElem?_cons_zero List.getElem?_cons_succ List.cons_append List.nil_append List.append_nil List.length_map List.set_cons_zero List.set_cons_succ Nat.reduceMul eq_self Int.toNat_natCast Int.natCast_nonneg and_self true_and and_true decide_true decide_false Bool.false_eq_true Nat.zero_add Nat.add_zero List.contains_cons List.contains_nil Bool.or_false Bool.false_or beq_self_eq_true Nat.reduceBEq ne_eq not_true_eq_false not_false_eq_true Id.mk.injEq false_and and_false Nat.reduceLT Int.reduceLE Int.reduceLT Int.reduceToNat Int.reduceNeg Int.reduceAdd Nat.le_refl List.length_append beq_true beq_false Bool.not_eq_eq_eq_not or_false false_or dX ae aj aJ bq bG cr aY bf aW bp cR bB
theorem oN (a b:aM):aq Tryz.prog 160 [.agg (ah a),.agg (ah b)] (.bool (jY a b)):=by
 refine aq.body eF rfl fun hl n0=>?_
 clear hl
 by_cases h0:a.eR<b.eR
 ·(try((repeat(revert hN;revert N;apply Pn.out));refine wk (tw @ah.eq_1 @h0) ?_;(repeat(refine Pn.mk ?_;intro N hN))))
  exact bc (b:=true) (.inl rfl) (sd @Nat.zero_add) (by simp[jY,h0])
 ·by_cases h1:a.eR=b.eR
  ·have h2:¬b.eR<b.eR:=by omega
   (try((repeat(revert hN;revert N;apply Pn.out));refine wk (tw @ah.eq_1 (tw @h1 @h2)) ?_;(repeat(refine Pn.mk ?_;intro N hN))))
   exact bc (b:=decide (a.fc<b.fc)) (.inl rfl) (sd @Nat.zero_add) (by simp[jY,h1])
  ·(try((repeat(revert hN;revert N;apply Pn.out));refine wk (tw @ah.eq_1 (tw @h0 @h1)) ?_;(repeat(refine Pn.mk ?_;intro N hN))))
   exact bc (b:=false) (.inl rfl) (sd @Nat.zero_add) (by simp[jY,h0,h1])
end Go.Proofs.YtgoelphibofcmaaGreat.V

namespace Go.Proofs.YtgoelphibofcmaaGreat.V
open Go.RowKit
attribute [local irreducible] dQ wpOps fX Call
attribute [local go_sem] aQ fM eU fY fW dm upd cG K.av cQ AV.cells AV.cell rowOf rowsOf part ld rowAt bQ cC dE ea gZ bS dh eo fV fj dB ef dd dc dS dU b4 bj cV bW cY cW ec eh ee cU ck de eb bV aU da cK gY bx cP cj bd dv bl dG AV.undef bH bK dW dZ dO dL cN ek eu cJ ej ei cZ db List.getD_cons_zero List.getD_cons_succ List.getD_nil List.all_cons List.all_nil Bool.and_true Bool.true_and Bool.and_self Bool.not_true Bool.not_false Option.map_some Option.map_none Option.bind_some Option.bind_none List.length_cons List.length_nil List.take_succ_cons List.take_zero List.take_nil List.drop_succ_cons List.drop_zero List.drop_nil List.head?_cons List.map_cons List.map_nil List.getElem?_cons_zero List.getElem?_cons_succ List.cons_append List.nil_append List.append_nil List.length_map List.set_cons_zero List.set_cons_succ Nat.reduceMul eq_self Int.toNat_natCast Int.natCast_nonneg and_self true_and and_true decide_true decide_false Bool.false_eq_true Nat.zero_add Nat.add_zero List.contains_cons List.contains_nil Bool.or_false Bool.false_or beq_self_eq_true Nat.reduceBEq ne_eq not_true_eq_false not_false_eq_true Id.mk.injEq false_and and_false Nat.reduceLT Int.reduceLE Int.reduceLT Int.reduceToNat Int.reduceNeg Int.reduceAdd Nat.le_refl List.length_append beq_true beq_false Bool.not_eq_eq_eq_not or_false false_or dX ae aj aJ bq bG cr aY bf aW bp cR bB
theorem fw {l:List ab} {i:Nat} (h:i<l.length):(l.map aa)[i]? =some (aa (aA l i)):=getD_map aa h
def Ec (l:List ab) (i:Nat):Prop:=vk (aA l i).aL=true/\jl (aA l i).aT 0 159=true/\(0<i->jY (aA l (i-1)).aL (aA l i).aL=true)
structure k9 (l:List ab):Prop where
 yi:l.length<=500
 ok:∀i,i<l.length->Ec l i
noncomputable def pe (l:List ab):Bool:=@decide (k9 l) (Classical.propDecidable _)
theorem Hu {l:List ab}:pe l=true↔k9 l:=by simp[pe]
theorem ko {l:List ab} (h:¬k9 l):false=pe l:=by simp[pe,h]
theorem zh {l:List ab} (h:k9 l):true=pe l:=by simp[pe,h]
theorem k9.Lo {l:List ab} (h:k9 l):qo l:=by
 intro i j xi hj
 induction j with
 |zero=>omega
 |succ j ih=>
  have h1:=(h.ok (j+1) hj).2.2 (by omega)
  rw[Nat.add_sub_cancel]at h1
  by_cases he:i=j
  ·subst he;exact h1
  ·exact j8 (ih (by omega) (by omega)) h1
theorem k9.pt {l:List ab} (h:k9 l) {i:Nat} (hi:i<l.length):vk (aA l i).aL=true:=(h.ok i hi).1
theorem ml {p:aM} (h:vk p=true):iB p.fc/\iB p.eR:=by
 unfold vk at h
 simp only[Bool.and_eq_true]at h
 have:=eM h.1;have:=eM h.2
 unfold iB;omega
theorem HU (l:List ab):aq Tryz.prog 159 [.du [.sl (l.map aa)]] (.bool (pe l)):=by
 refine aq.body eF rfl fun hl n0=>?_
 clear hl
 by_cases h1:(500:Int)<(l.length:Int)
 ·(try((repeat(revert hN;revert N;apply Pn.out));refine wk @h1 ?_;(repeat(refine Pn.mk ?_;intro N hN))))
  exact bc (b:=false) (.inl rfl) (sd @Nat.zero_add) (ko fun h=>by have:=h.yi;omega)
 (try((repeat(revert hN;revert N;apply Pn.out));refine wk @h1 ?_;(repeat(refine Pn.mk ?_;intro N hN))))
 refine aZ (fun n env st=>∃k:Nat,n=(l.length)-k/\k<=(l.length)/\env 3=.int .i64 (k:Int)/\(∀j:Nat,j<k->Ec l j)) (l.length) ⟨0,by omega,by omega,sl @Nat.zero_add,fun _ h=>absurd h (Nat.not_lt_zero _)⟩ ?_
 rintro n_a env_a st_a ⟨k,rfl,ale,a3,kj⟩ dy
 have a0:=dy 0 (by kernel_rfl)
 simp only[go_sem, ↓reduceIte,Nat.reduceEqDiff,Nat.reduceAdd,Nat.reduceSub,Nat.reduceLeDiff,reduceCtorEq]at a0
 clear dy
 by_cases hk:(k:Int)<(l.length:Int)
 ·have cw:∀{e:Env},(e 3=.int .i64 (IntKind.i64.wrap ((k:Int)+1)))->(Ec l k)->∃m0,m0<(l.length)-k/\∃k:Nat,m0=(l.length)-k/\k<=(l.length)/\e 3=.int .i64 (k:Int)/\(∀j:Nat,j<k->Ec l j):=fun x1 x2=>⟨_,by omega,k+1,rfl,by omega,(by rw[x1,aD (by omega)]),(all_succ kj x2)⟩
  have fP:k<l.length:=by omega
  have eX:=fw fP
  have kq:(¬Ec l k)->¬k9 l:=fun h hp=>h (hp.ok k fP)
  have hp:=rG (aA l k).aL
  have ht:=l6 (aA l k).aT 0 159
  cases b1:vk (aA l k).aL
  ·rw[b1]at hp
   (repeat(first|((repeat(revert hN;revert N;apply Pn.out));refine wk (tw @a3 (tw @a0 (tw @hk (tw @eX (tw @aa.eq_1 @ah.eq_1))))) ?_;(repeat(refine Pn.mk ?_;intro N hN)))|((try apply Or.inl);refine⟨_,aq.x (hp) (sd (tw @a3 (tw @a0 (tw @hk (tw @eX (tw @aa.eq_1 @ah.eq_1)))))),?_⟩;refine hN _ _ ?_;clear hN N)))
   exact bc (b:=false) (.inl rfl) (sd @Nat.zero_add) (ko (kq fun h=>by rw[Ec,b1]at h;cases h.1))
  rw[b1]at hp
  cases b2:jl (aA l k).aT 0 159
  ·rw[b2]at ht
   (repeat(first|((repeat(revert hN;revert N;apply Pn.out));refine wk (tw @a3 (tw @a0 (tw @hk (tw @eX (tw @aa.eq_1 @ah.eq_1))))) ?_;(repeat(refine Pn.mk ?_;intro N hN)))|((try apply Or.inl);refine⟨_,aq.x (hp) (sd (tw @a3 (tw @a0 (tw @hk (tw @eX (tw @aa.eq_1 @ah.eq_1)))))),?_⟩;refine hN _ _ ?_;clear hN N)|((try apply Or.inl);refine⟨_,aq.x (ht) (sd (tw @a3 (tw @a0 (tw @hk (tw @eX (tw @aa.eq_1 @ah.eq_1)))))),?_⟩;refine hN _ _ ?_;clear hN N)))
   exact bc (b:=false) (.inl rfl) (sd @Nat.zero_add) (ko (kq fun h=>by rw[Ec,b2]at h;cases h.2.1))
  rw[b2]at ht
  by_cases h0:(0:Int)<(k:Int)
  ·have xh:=fw (l:=l) (i:=k-1) (by omega)
   have hw:IntKind.i64.wrap ((k:Int)-1)=((k-1:Nat):Int):=by rw[bI (by have:=fP;omega)];omega
   have hq:=oN (aA l (k-1)).aL (aA l k).aL
   cases b3:jY (aA l (k-1)).aL (aA l k).aL
   ·rw[b3]at hq
    (repeat(first|((repeat(revert hN;revert N;apply Pn.out));refine wk (tw @a3 (tw @a0 (tw @hk (tw @eX (tw @xh (tw @h0 (tw @hw (tw @aa.eq_1 @ah.eq_1)))))))) ?_;(repeat(refine Pn.mk ?_;intro N hN)))|((try apply Or.inl);refine⟨_,aq.x (hp) (sd (tw @a3 (tw @a0 (tw @hk (tw @eX (tw @xh (tw @h0 (tw @hw (tw @aa.eq_1 @ah.eq_1))))))))),?_⟩;refine hN _ _ ?_;clear hN N)|((try apply Or.inl);refine⟨_,aq.x (ht) (sd (tw @a3 (tw @a0 (tw @hk (tw @eX (tw @xh (tw @h0 (tw @hw (tw @aa.eq_1 @ah.eq_1))))))))),?_⟩;refine hN _ _ ?_;clear hN N)|((try apply Or.inl);refine⟨_,aq.x (hq) (sd (tw @a3 (tw @a0 (tw @hk (tw @eX (tw @xh (tw @h0 (tw @hw (tw @aa.eq_1 @ah.eq_1))))))))),?_⟩;refine hN _ _ ?_;clear hN N)))
    exact bc (b:=false) (.inl rfl) (sd @Nat.zero_add) (ko (kq fun h=>by have:=h.2.2 (by omega);rw[b3]at this;cases this))
   ·rw[b3]at hq
    (repeat(first|((repeat(revert hN;revert N;apply Pn.out));refine wk (tw @a3 (tw @a0 (tw @hk (tw @eX (tw @xh (tw @h0 (tw @hw (tw @aa.eq_1 @ah.eq_1)))))))) ?_;(repeat(refine Pn.mk ?_;intro N hN)))|((try apply Or.inl);refine⟨_,aq.x (hp) (sd (tw @a3 (tw @a0 (tw @hk (tw @eX (tw @xh (tw @h0 (tw @hw (tw @aa.eq_1 @ah.eq_1))))))))),?_⟩;refine hN _ _ ?_;clear hN N)|((try apply Or.inl);refine⟨_,aq.x (ht) (sd (tw @a3 (tw @a0 (tw @hk (tw @eX (tw @xh (tw @h0 (tw @hw (tw @aa.eq_1 @ah.eq_1))))))))),?_⟩;refine hN _ _ ?_;clear hN N)|((try apply Or.inl);refine⟨_,aq.x (hq) (sd (tw @a3 (tw @a0 (tw @hk (tw @eX (tw @xh (tw @h0 (tw @hw (tw @aa.eq_1 @ah.eq_1))))))))),?_⟩;refine hN _ _ ?_;clear hN N)))
    exact cw (sd (tw @a3 @a0)) (⟨b1,b2,fun _=>b3⟩)
  ·have yj:k=0:=by omega
   (repeat(first|((repeat(revert hN;revert N;apply Pn.out));refine wk (tw @a3 (tw @a0 (tw @hk (tw @eX (tw @h0 (tw @aa.eq_1 @ah.eq_1)))))) ?_;(repeat(refine Pn.mk ?_;intro N hN)))|((try apply Or.inl);refine⟨_,aq.x (hp) (sd (tw @a3 (tw @a0 (tw @hk (tw @eX (tw @h0 (tw @aa.eq_1 @ah.eq_1))))))),?_⟩;refine hN _ _ ?_;clear hN N)|((try apply Or.inl);refine⟨_,aq.x (ht) (sd (tw @a3 (tw @a0 (tw @hk (tw @eX (tw @h0 (tw @aa.eq_1 @ah.eq_1))))))),?_⟩;refine hN _ _ ?_;clear hN N)))
   exact cw (sd (tw @a3 @a0)) (⟨b1,b2,fun h=>by omega⟩)
 ·(try((repeat(revert hN;revert N;apply Pn.out));refine wk (tw @a3 (tw @a0 @hk)) ?_;(repeat(refine Pn.mk ?_;intro N hN))))
  exact bc (b:=true) (.inl rfl) (sd @Nat.zero_add) (zh ⟨by omega,fun i hi=>kj i (by omega)⟩)
theorem zb (a b:Int):aq Tryz.prog 178 [.int .i64 a,.int .i64 b] (.int .i64 (r7 a b)):=by
 have nan:∀x:Int,aq Tryz.prog 208 [.int .i64 x] (.bool false):=fun x=>by
  refine aq.body eF rfl fun hl n0=>?_
  clear hl
  have e:decide (x=x)=true:=decide_eq_true rfl
  (try((repeat(revert hN;revert N;apply Pn.out));refine wk @e ?_;(repeat(refine Pn.mk ?_;intro N hN))))
  exact bc (b:=false) (.inl rfl) (sd @Nat.zero_add) rfl
 refine aq.body eF rfl fun hl n0=>?_
 clear hl
 have ha:=nan a
 have hb:=nan b
 by_cases h1:a<b
 ·(repeat(first|((repeat(revert hN;revert N;apply Pn.out));refine wk @h1 ?_;(repeat(refine Pn.mk ?_;intro N hN)))|((try apply Or.inl);refine⟨_,aq.x (ha) (sd @h1),?_⟩;refine hN _ _ ?_;clear hN N)|((try apply Or.inl);refine⟨_,aq.x (hb) (sd @h1),?_⟩;refine hN _ _ ?_;clear hN N)))
  exact dj (b:=-1) (.inl rfl) (sd @Nat.zero_add) (by rw[r7,if_pos h1])
 by_cases h2:b<a
 ·(repeat(first|((repeat(revert hN;revert N;apply Pn.out));refine wk (tw @h1 @h2) ?_;(repeat(refine Pn.mk ?_;intro N hN)))|((try apply Or.inl);refine⟨_,aq.x (ha) (sd (tw @h1 @h2)),?_⟩;refine hN _ _ ?_;clear hN N)|((try apply Or.inl);refine⟨_,aq.x (hb) (sd (tw @h1 @h2)),?_⟩;refine hN _ _ ?_;clear hN N)))
  exact dj (b:=1) (.inl rfl) (sd @Nat.zero_add) (by rw[r7,if_neg h1,if_pos h2])
 ·(repeat(first|((repeat(revert hN;revert N;apply Pn.out));refine wk (tw @h1 @h2) ?_;(repeat(refine Pn.mk ?_;intro N hN)))|((try apply Or.inl);refine⟨_,aq.x (ha) (sd (tw @h1 @h2)),?_⟩;refine hN _ _ ?_;clear hN N)|((try apply Or.inl);refine⟨_,aq.x (hb) (sd (tw @h1 @h2)),?_⟩;refine hN _ _ ?_;clear hN N)))
  exact dj (b:=0) (.inl rfl) (sd @Nat.zero_add) (by rw[r7,if_neg h1,if_neg h2])
def I8:List Int->Int
 |[]=>0
 |a::r=>if a=0 then I8 r else a
theorem KY:∀{l:List Int} {k:Nat} (hk:k<l.length),l[k]≠0->(∀j (h:j<l.length),j<k->l[j]=0)->I8 l=l[k]
 |a::r,0,_,h,_=>by
  have h':a≠0:=h
  rw[I8,if_neg h'];rfl
 |a::r,k+1,hk,h,h0=>by
  have h':a=0:=h0 0 (by simp) (by omega)
  rw[I8,if_pos h',KY (k:=k) (by simpa using hk) h fun j hj xj=>h0 (j+1) (by simpa using hj) (by omega)];rfl
theorem Dg:∀{l:List Int},(∀j (h:j<l.length),l[j]=0)->I8 l=0
 |[],_=>rfl
 |a::r,h=>by
  have h':a=0:=h 0 (by simp)
  rw[I8,if_pos h',Dg fun j hj=>h (j+1) (by simpa using hj)]
theorem ND (a b:Int):I8 [a,b]=NC a b:=by
 unfold NC
 by_cases h:a=0
 ·rw[I8,if_pos h,if_pos h,I8,I8];split<;>simp_all
 ·rw[I8,if_neg h,if_neg h]
theorem Mz (l:List Int):aq Tryz.prog 177 [.sl (l.map az)] (.int .i64 (I8 l)):=by
 refine aq.body eF rfl fun hl n0=>?_
 have hlen:l.length<=9223372036854775807:=by simpa using(hl (.sl (l.map az)) (by simp)).len
 clear hl
 (try((repeat(revert hN;revert N;apply Pn.out));refine wk @Nat.zero_add ?_;(repeat(refine Pn.mk ?_;intro N hN))))
 refine aZ (fun n env st=>∃k:Nat,n=(l.length)-k/\k<=(l.length)/\env 8=.int .i64 (k:Int)/\(∀j:Nat,j<k->∀h:j<l.length,l[j]=0)) (l.length) ⟨0,by omega,by omega,sl @Nat.zero_add,fun _ h=>absurd h (Nat.not_lt_zero _)⟩ ?_
 rintro n_a env_a st_a ⟨k,rfl,ale,a8,kj⟩ dy
 have a3:=dy 3 (by kernel_rfl);have a6:=dy 6 (by kernel_rfl);have a7:=dy 7 (by kernel_rfl)
 simp only[go_sem, ↓reduceIte,Nat.reduceEqDiff,Nat.reduceAdd,Nat.reduceSub,Nat.reduceLeDiff,reduceCtorEq]at a3 a6 a7
 clear dy
 by_cases hk:(k:Int)<(l.length:Int)
 ·have cw:∀{e:Env},(e 8=.int .i64 (IntKind.i64.wrap ((k:Int)+1)))->(∀h:k<l.length,l[k]=0)->∃m0,m0<(l.length)-k/\∃k:Nat,m0=(l.length)-k/\k<=(l.length)/\e 8=.int .i64 (k:Int)/\(∀j:Nat,j<k->∀h:j<l.length,l[j]=0):=fun x1 x2=>⟨_,by omega,k+1,rfl,by omega,(by rw[x1,aD (by omega)]),(all_succ kj x2)⟩
  have fP:k<l.length:=by omega
  have eX:(l.map az)[k]? =some (az l[k]):=by simp[fP]
  generalize hv:l[k]=v at eX
  by_cases h0:v=0
  ·have e:decide (v=0)=true:=decide_eq_true h0
   (try((repeat(revert hN;revert N;apply Pn.out));refine wk (tw @a8 (tw @a3 (tw @a6 (tw @a7 (tw @e (tw @hk (tw @eX @az.eq_1))))))) ?_;(repeat(refine Pn.mk ?_;intro N hN))))
   exact cw (sd (tw @a8 (tw @a3 (tw @a6 @a7)))) (fun _=>hv.trans h0)
  ·have e:decide (v=0)=false:=decide_eq_false h0
   (try((repeat(revert hN;revert N;apply Pn.out));refine wk (tw @a8 (tw @a3 (tw @a6 (tw @a7 (tw @e (tw @hk (tw @eX @az.eq_1))))))) ?_;(repeat(refine Pn.mk ?_;intro N hN))))
   exact dj (b:=v) (.inl rfl) (sd @Nat.zero_add) (by rw[KY fP (by rw[hv];exact h0) fun j h hj=>kj j hj h,hv])
 ·(try((repeat(revert hN;revert N;apply Pn.out));refine wk (tw @a8 (tw @a3 (tw @a6 (tw @a7 @hk)))) ?_;(repeat(refine Pn.mk ?_;intro N hN))))
  exact dj (b:=0) (.inl rfl) (sd @Nat.zero_add) (by rw[Dg fun j h=>kj j (by omega) h])
section
attribute [local go_sem] List.drop_zero List.take_succ_cons List.take_zero List.length_cons List.length_nil iP Av pf
theorem oh (a b:aM):aq Tryz.prog 130 [.agg (ah a),.agg (ah b)] (.int .i64 (r8 a b)):=by
 refine aq.body eF rfl fun hl n0=>?_
 clear hl
 have h1:=zb a.eR b.eR
 have h2:=zb a.fc b.fc
 have h3:=Mz [r7 a.eR b.eR,r7 a.fc b.fc]
 rw[ND,List.map_cons,List.map_cons,List.map_nil,az,az]at h3
 (repeat(first|((repeat(revert hN;revert N;apply Pn.out));refine wk @ah.eq_1 ?_;(repeat(refine Pn.mk ?_;intro N hN)))|((try apply Or.inl);refine⟨_,aq.x (h1) (sd @ah.eq_1),?_⟩;refine hN _ _ ?_;clear hN N)|((try apply Or.inl);refine⟨_,aq.x (h2) (sd @ah.eq_1),?_⟩;refine hN _ _ ?_;clear hN N)|((try apply Or.inl);refine⟨_,aq.x (h3) (sd @ah.eq_1),?_⟩;refine hN _ _ ?_;clear hN N)))
 exact dj (b:=r8 a b) (.inl rfl) (by simp only[go_sem, ↓reduceIte,Nat.reduceEqDiff,Nat.reduceAdd,Nat.reduceSub,Nat.reduceLeDiff,reduceCtorEq,r8]) rfl
end
theorem Na (a b:aM):aq Tryz.prog 201 [.agg (ah a),.agg (ah b)] (.bool (jY a b)):=by
 refine aq.body eF rfl fun hl n0=>?_
 clear hl
 have h1:=oh a b
 rw[ah,ah]at h1
 (repeat(first|((repeat(revert hN;revert N;apply Pn.out));refine wk @ah.eq_1 ?_;(repeat(refine Pn.mk ?_;intro N hN)))|((try apply Or.inl);refine⟨_,aq.x (h1) (sd @ah.eq_1),?_⟩;refine hN _ _ ?_;clear hN N)))
 exact bc (b:=decide (r8 a b<0)) (.inl rfl) (sd @Nat.zero_add) (vG a b)
theorem kH (t:ab) (p:aM):aq Tryz.prog 143 [.agg (aa t),.agg (ah p)] (.int .i64 (r8 t.aL p)):=by
 refine aq.body eF rfl fun hl n0=>?_
 clear hl
 have h1:=oh t.aL p
 rw[ah,ah]at h1
 (repeat(first|((repeat(revert hN;revert N;apply Pn.out));refine wk (tw @aa.eq_1 @ah.eq_1) ?_;(repeat(refine Pn.mk ?_;intro N hN)))|((try apply Or.inl);refine⟨_,aq.x (h1) (sd (tw @aa.eq_1 @ah.eq_1)),?_⟩;refine hN _ _ ?_;clear hN N)))
 exact dj (b:=r8 t.aL p) (.inl rfl) (sd @Nat.zero_add) rfl
theorem HA (l:List ab):aq Tryz.prog 165 [.agg [.sl (l.map aa)]] (.bool (pe l)):=by
 refine aq.body eF rfl fun hl n0=>?_
 have hlen:l.length<=9223372036854775807:=by
  have h1:=(hl (.agg [.sl (l.map aa)]) (by simp)).O7 (a:=.sl (l.map aa)) (by simp)
  simpa using h1.len
 clear hl
 (try((repeat(revert hN;revert N;apply Pn.out));refine wk @Nat.zero_add ?_;(repeat(refine Pn.mk ?_;intro N hN))))
 refine aZ (fun n env st=>∃k:Nat,n=(l.length)-k/\k<=(l.length)/\env 8=.int .i64 (k:Int)/\st.get ⟨165000000,n0⟩=some ⟨true,1,[[.sl (l.map aa)]]⟩/\(∀j:Nat,j<k->Ec l j)) (l.length) ⟨0,by omega,by omega,sl @Nat.zero_add,sl @Nat.zero_add,fun _ h=>absurd h (Nat.not_lt_zero _)⟩ ?_
 rintro n_a env_a st_a ⟨k,rfl,ale,a8,ag0,kj⟩ dy
 have a1:=dy 1 (by kernel_rfl);have a6:=dy 6 (by kernel_rfl);have a7:=dy 7 (by kernel_rfl)
 simp only[go_sem, ↓reduceIte,Nat.reduceEqDiff,Nat.reduceAdd,Nat.reduceSub,Nat.reduceLeDiff,reduceCtorEq]at a1 a6 a7
 clear dy
 by_cases hk:(k:Int)<(l.length:Int)
 ·have cw:∀{e:Env} {gg:Rows},(e 8=.int .i64 (IntKind.i64.wrap ((k:Int)+1)))->(gg ⟨165000000,n0⟩=some ⟨true,1,[[.sl (l.map aa)]]⟩)->(Ec l k)->∃m0,m0<(l.length)-k/\∃k:Nat,m0=(l.length)-k/\k<=(l.length)/\e 8=.int .i64 (k:Int)/\gg ⟨165000000,n0⟩=some ⟨true,1,[[.sl (l.map aa)]]⟩/\(∀j:Nat,j<k->Ec l j):=fun x1 x2 x3=>⟨_,by omega,k+1,rfl,by omega,(by rw[x1,aD (by omega)]),x2,(all_succ kj x3)⟩
  have fP:k<l.length:=by omega
  have eX:=fw fP
  have kq:(¬Ec l k)->¬k9 l:=fun h hp=>h (hp.ok k fP)
  have hp:=rW (aA l k).aL
  have ht:=zt (aA l k).aT 160 (by omega) (by omega)
  rw[show(160:Int)-1=159 from rfl]at ht
  cases b1:vk (aA l k).aL
  ·rw[b1]at hp
   (repeat(first|((repeat(revert hN;revert N;apply Pn.out));refine wk (tw @a8 (tw @ag0 (tw @a1 (tw @a6 (tw @a7 (tw @hk (tw @eX (tw @aa.eq_1 @ah.eq_1)))))))) ?_;(repeat(refine Pn.mk ?_;intro N hN)))|((try apply Or.inl);refine⟨_,aq.x (hp) (sd (tw @a8 (tw @ag0 (tw @a1 (tw @a6 (tw @a7 (tw @hk (tw @eX (tw @aa.eq_1 @ah.eq_1))))))))),?_⟩;refine hN _ _ ?_;clear hN N)))
   exact bc (b:=false) (.inl rfl) (sd @Nat.zero_add) (ko (kq fun h=>by rw[Ec,b1]at h;cases h.1))
  rw[b1]at hp
  cases b2:jl (aA l k).aT 0 159
  ·rw[b2]at ht
   (repeat(first|((repeat(revert hN;revert N;apply Pn.out));refine wk (tw @a8 (tw @ag0 (tw @a1 (tw @a6 (tw @a7 (tw @hk (tw @eX (tw @aa.eq_1 @ah.eq_1)))))))) ?_;(repeat(refine Pn.mk ?_;intro N hN)))|((try apply Or.inl);refine⟨_,aq.x (hp) (sd (tw @a8 (tw @ag0 (tw @a1 (tw @a6 (tw @a7 (tw @hk (tw @eX (tw @aa.eq_1 @ah.eq_1))))))))),?_⟩;refine hN _ _ ?_;clear hN N)|((try apply Or.inl);refine⟨_,aq.x (ht) (sd (tw @a8 (tw @ag0 (tw @a1 (tw @a6 (tw @a7 (tw @hk (tw @eX (tw @aa.eq_1 @ah.eq_1))))))))),?_⟩;refine hN _ _ ?_;clear hN N)))
   exact bc (b:=false) (.inl rfl) (sd @Nat.zero_add) (ko (kq fun h=>by rw[Ec,b2]at h;cases h.2.1))
  rw[b2]at ht
  by_cases h0:(0:Int)<(k:Int)
  ·have xh:=fw (l:=l) (i:=k-1) (by omega)
   have hw:IntKind.i64.wrap ((k:Int)-1)=((k-1:Nat):Int):=by rw[bI (by omega)];omega
   have hq:=Na (aA l (k-1)).aL (aA l k).aL
   cases b3:jY (aA l (k-1)).aL (aA l k).aL
   ·rw[b3]at hq
    (repeat(first|((repeat(revert hN;revert N;apply Pn.out));refine wk (tw @a8 (tw @ag0 (tw @a1 (tw @a6 (tw @a7 (tw @hk (tw @eX (tw @xh (tw @h0 (tw @hw (tw @aa.eq_1 @ah.eq_1))))))))))) ?_;(repeat(refine Pn.mk ?_;intro N hN)))|((try apply Or.inl);refine⟨_,aq.x (hp) (sd (tw @a8 (tw @ag0 (tw @a1 (tw @a6 (tw @a7 (tw @hk (tw @eX (tw @xh (tw @h0 (tw @hw (tw @aa.eq_1 @ah.eq_1)))))))))))),?_⟩;refine hN _ _ ?_;clear hN N)|((try apply Or.inl);refine⟨_,aq.x (ht) (sd (tw @a8 (tw @ag0 (tw @a1 (tw @a6 (tw @a7 (tw @hk (tw @eX (tw @xh (tw @h0 (tw @hw (tw @aa.eq_1 @ah.eq_1)))))))))))),?_⟩;refine hN _ _ ?_;clear hN N)|((try apply Or.inl);refine⟨_,aq.x (hq) (sd (tw @a8 (tw @ag0 (tw @a1 (tw @a6 (tw @a7 (tw @hk (tw @eX (tw @xh (tw @h0 (tw @hw (tw @aa.eq_1 @ah.eq_1)))))))))))),?_⟩;refine hN _ _ ?_;clear hN N)))
    exact bc (b:=false) (.inl rfl) (sd @Nat.zero_add) (ko (kq fun h=>by have:=h.2.2 (by omega);rw[b3]at this;cases this))
   ·rw[b3]at hq
    (repeat(first|((repeat(revert hN;revert N;apply Pn.out));refine wk (tw @a8 (tw @ag0 (tw @a1 (tw @a6 (tw @a7 (tw @hk (tw @eX (tw @xh (tw @h0 (tw @hw (tw @aa.eq_1 @ah.eq_1))))))))))) ?_;(repeat(refine Pn.mk ?_;intro N hN)))|((try apply Or.inl);refine⟨_,aq.x (hp) (sd (tw @a8 (tw @ag0 (tw @a1 (tw @a6 (tw @a7 (tw @hk (tw @eX (tw @xh (tw @h0 (tw @hw (tw @aa.eq_1 @ah.eq_1)))))))))))),?_⟩;refine hN _ _ ?_;clear hN N)|((try apply Or.inl);refine⟨_,aq.x (ht) (sd (tw @a8 (tw @ag0 (tw @a1 (tw @a6 (tw @a7 (tw @hk (tw @eX (tw @xh (tw @h0 (tw @hw (tw @aa.eq_1 @ah.eq_1)))))))))))),?_⟩;refine hN _ _ ?_;clear hN N)|((try apply Or.inl);refine⟨_,aq.x (hq) (sd (tw @a8 (tw @ag0 (tw @a1 (tw @a6 (tw @a7 (tw @hk (tw @eX (tw @xh (tw @h0 (tw @hw (tw @aa.eq_1 @ah.eq_1)))))))))))),?_⟩;refine hN _ _ ?_;clear hN N)))
    refine cw ?_ ?_ (⟨b1,b2,fun _=>b3⟩)
    all_goals simp only[go_sem, ↓reduceIte,Nat.reduceEqDiff,Nat.reduceAdd,Nat.reduceSub,Nat.reduceLeDiff,reduceCtorEq,a8,ag0,a1,a6,a7]
  ·have yj:k=0:=by omega
   (repeat(first|((repeat(revert hN;revert N;apply Pn.out));refine wk (tw @a8 (tw @ag0 (tw @a1 (tw @a6 (tw @a7 (tw @hk (tw @eX (tw @h0 (tw @aa.eq_1 @ah.eq_1))))))))) ?_;(repeat(refine Pn.mk ?_;intro N hN)))|((try apply Or.inl);refine⟨_,aq.x (hp) (sd (tw @a8 (tw @ag0 (tw @a1 (tw @a6 (tw @a7 (tw @hk (tw @eX (tw @h0 (tw @aa.eq_1 @ah.eq_1)))))))))),?_⟩;refine hN _ _ ?_;clear hN N)|((try apply Or.inl);refine⟨_,aq.x (ht) (sd (tw @a8 (tw @ag0 (tw @a1 (tw @a6 (tw @a7 (tw @hk (tw @eX (tw @h0 (tw @aa.eq_1 @ah.eq_1)))))))))),?_⟩;refine hN _ _ ?_;clear hN N)))
   refine cw ?_ ?_ (⟨b1,b2,fun h=>by omega⟩)
   all_goals simp only[go_sem, ↓reduceIte,Nat.reduceEqDiff,Nat.reduceAdd,Nat.reduceSub,Nat.reduceLeDiff,reduceCtorEq,a8,ag0,a1,a6,a7]
 ·(try((repeat(revert hN;revert N;apply Pn.out));refine wk (tw @a8 (tw @ag0 (tw @a1 (tw @a6 (tw @a7 @hk))))) ?_;(repeat(refine Pn.mk ?_;intro N hN))))
  refine bc (b:=decide ((l.length:Int)<=500)) (.inl rfl) (sd @Nat.zero_add) ?_
  by_cases h5:(l.length:Int)<=500
  ·rw[decide_eq_true h5];exact zh ⟨by omega,fun i hi=>kj i (by omega)⟩
  ·rw[decide_eq_false h5];exact ko fun h=>by have:=h.yi;omega
end Go.Proofs.YtgoelphibofcmaaGreat.V

namespace Go.Proofs.YtgoelphibofcmaaGreat.V
open Go.RowKit
attribute [local irreducible] dQ wpOps fX Call
attribute [local go_sem] aQ fM eU fY fW dm upd cG K.av cQ AV.cells AV.cell rowOf rowsOf part ld rowAt bQ cC dE ea gZ bS dh eo fV fj dB ef dd dc dS dU b4 bj cV bW cY cW ec eh ee cU ck de eb bV aU da cK gY bx cP cj bd dv bl dG AV.undef bH bK dW dZ dO dL cN ek eu cJ ej ei cZ db List.getD_cons_zero List.getD_cons_succ List.getD_nil List.all_cons List.all_nil Bool.and_true Bool.true_and Bool.and_self Bool.not_true Bool.not_false Option.map_some Option.map_none Option.bind_some Option.bind_none List.length_cons List.length_nil List.take_succ_cons List.take_zero List.take_nil List.drop_succ_cons List.drop_zero List.drop_nil List.head?_cons List.map_cons List.map_nil List.getElem?_cons_zero List.getElem?_cons_succ List.cons_append List.nil_append List.append_nil List.length_map List.set_cons_zero List.set_cons_succ Nat.reduceMul eq_self Int.toNat_natCast Int.natCast_nonneg and_self true_and and_true decide_true decide_false Bool.false_eq_true Nat.zero_add Nat.add_zero List.contains_cons List.contains_nil Bool.or_false Bool.false_or beq_self_eq_true Nat.reduceBEq ne_eq not_true_eq_false not_false_eq_true Id.mk.injEq false_and and_false Nat.reduceLT Int.reduceLE Int.reduceLT Int.reduceToNat Int.reduceNeg Int.reduceAdd Nat.le_refl List.length_append beq_true beq_false Bool.not_eq_eq_eq_not or_false false_or dX ae aj aJ bq bG cr aY bf aW bp cR bB
theorem Hg (cells:List ab) (p:aM) (hR:qo cells) (MM:cells.length<=1048576):
  aq Tryz.prog 142 [.sl (cells.map aa),.agg (ah p),.fn 143 []] (.gD [.int .i64 (su cells p),.bool (decide (su cells p<cells.length)&&decide ((aA cells (su cells p)).aL=p))]):=by
 refine aq.body eF rfl fun hl n0=>?_
 clear hl
 (try((repeat(revert hN;revert N;apply Pn.out));refine wk @ah.eq_1 ?_;(repeat(refine Pn.mk ?_;intro N hN))))
 refine aZ (fun n env st=>∃i j:Nat,n=j-i/\i<=j/\j<=cells.length/\(∀x,x<i->jY (aA cells x).aL p=true)/\(∀x,j<=x->x<cells.length->jY (aA cells x).aL p=false)/\env 9=.int .i64 i/\env 10=.int .i64 j/\st.get ⟨142000000,n0⟩=some ⟨true,2,[ah p]⟩) cells.length ⟨0,cells.length,by omega,by omega,by omega,fun x h=>by omega,fun x h1 h2=>by omega,by(simp only[go_sem, ↓reduceIte,Nat.reduceEqDiff,Nat.reduceAdd,Nat.reduceSub,Nat.reduceLeDiff,reduceCtorEq])<;>rfl,sd @Nat.zero_add,sd @ah.eq_1⟩ ?_
 rintro n env st ⟨i,j,rfl,xi,hj,kI,DT,h9,h10,hg⟩ fr
 have h0:=fr 0 (by kernel_rfl)
 have h2:=fr 2 (by kernel_rfl)
 have h4:=fr 4 (by kernel_rfl)
 have h8:=fr 8 (by kernel_rfl)
 simp only[go_sem, ↓reduceIte,Nat.reduceEqDiff,Nat.reduceAdd,Nat.reduceSub,Nat.reduceLeDiff,reduceCtorEq]at h0 h2 h4 h8
 clear fr
 by_cases ew:(i:Int)<(j:Int)
 ·have e1:IntKind.i64.wrap ((i:Int)+j)=((i+j:Nat):Int):=by rw[bI (by omega)];rfl
  have hm:(i+j) / 2<cells.length:=by omega
  have fC:(cells.map aa)[(i+j) / 2]? =some (aa (aA cells ((i+j) / 2))):=fw (l:=cells) hm
  have e2:IntKind.i64.wrap ((IntKind.u64.wrap ((i+j:Nat):Int)).fdiv (2 ^ min 1 IntKind.u64.bits))=(((i+j) / 2:Nat):Int):=by
   have h:IntKind.u64.wrap ((i+j:Nat):Int)=((i+j:Nat):Int):=by rw[IntKind.wrap_u64];omega
   rw[h,show min 1 IntKind.u64.bits=1 from rfl,show((2:Int) ^ 1)=2 from rfl,Int.fdiv_eq_ediv_of_nonneg _ (by omega)]
   rw[bI (by omega)];omega
  have R8:IntKind.i64.wrap ((IntKind.u64.wrap ((i+j:Nat):Int)).fdiv (2 ^ min 1 64))=(((i+j) / 2:Nat):Int):=e2
  have e3:=aD (k:=(i+j) / 2) (by omega)
  by_cases hc:r8 (aA cells ((i+j) / 2)).aL p<0
  ·have hl:jY (aA cells ((i+j) / 2)).aL p=true:=by rw[<-vG];simpa using hc
   (repeat(first|((repeat(revert hN;revert N;apply Pn.out));refine wk (tw @h0 (tw @h2 (tw @h4 (tw @h8 (tw @h9 (tw @h10 (tw @hg (tw @ew (tw @e1 (tw @e2 (tw @R8 (tw @fC (tw @hc (tw @aa.eq_1 @ah.eq_1)))))))))))))) ?_;(repeat(refine Pn.mk ?_;intro N hN)))|((try apply Or.inl);refine⟨_,aq.x (kH (aA cells ((i+j) / 2)) p) (sd (tw @h0 (tw @h2 (tw @h4 (tw @h8 (tw @h9 (tw @h10 (tw @hg (tw @ew (tw @e1 (tw @e2 (tw @R8 (tw @fC (tw @hc (tw @aa.eq_1 @ah.eq_1))))))))))))))),?_⟩;refine hN _ _ ?_;clear hN N)))
   refine⟨_,?_,(i+j) / 2+1,j,rfl,by omega,hj,fun x hx=>?_,DT,sd @e3,sd @h10,sd (tw @hg @ah.eq_1)⟩
   ·omega
   ·by_cases Qr:x=(i+j) / 2
    ·subst Qr;exact hl
    ·exact j8 (hR x _ (by omega) hm) hl
  ·have hl:jY (aA cells ((i+j) / 2)).aL p=false:=by rw[<-vG];simpa using hc
   (repeat(first|((repeat(revert hN;revert N;apply Pn.out));refine wk (tw @h0 (tw @h2 (tw @h4 (tw @h8 (tw @h9 (tw @h10 (tw @hg (tw @ew (tw @e1 (tw @e2 (tw @R8 (tw @fC (tw @hc (tw @aa.eq_1 @ah.eq_1)))))))))))))) ?_;(repeat(refine Pn.mk ?_;intro N hN)))|((try apply Or.inl);refine⟨_,aq.x (kH (aA cells ((i+j) / 2)) p) (sd (tw @h0 (tw @h2 (tw @h4 (tw @h8 (tw @h9 (tw @h10 (tw @hg (tw @ew (tw @e1 (tw @e2 (tw @R8 (tw @fC (tw @hc (tw @aa.eq_1 @ah.eq_1))))))))))))))),?_⟩;refine hN _ _ ?_;clear hN N)))
   refine⟨_,?_,i,(i+j) / 2,rfl,by omega,by omega,kI,fun x h1 h2=>?_,sd @h9,sd (tw @e2 @R8),sd (tw @hg @ah.eq_1)⟩
   ·omega
   ·by_cases Qr:x=(i+j) / 2
    ·subst Qr;exact hl
    ·rw[Bool.eq_false_iff]
     intro hc
     have h3:=j8 (hR ((i+j) / 2) x (by omega) h2) hc
     rw[hl]at h3;cases h3
 ·have P4:i=j:=by omega
  subst P4
  have ES:su cells p=i:=AM hj kI fun h=>DT i (Nat.le_refl _) h
  by_cases hn:(i:Int)<(cells.length:Int)
  ·have fe:i<cells.length:=by omega
   have fC:(cells.map aa)[i]? =some (aa (aA cells i)):=fw (l:=cells) fe
   have hd:decide (r8 (aA cells i).aL p=0)=decide ((aA cells i).aL=p):=by simp only[Hi]
   (repeat(first|((repeat(revert hN;revert N;apply Pn.out));refine wk (tw @h0 (tw @h2 (tw @h4 (tw @h8 (tw @h9 (tw @h10 (tw @hg (tw @ew (tw @hn (tw @fC (tw @aa.eq_1 @ah.eq_1))))))))))) ?_;(repeat(refine Pn.mk ?_;intro N hN)))|((try apply Or.inl);refine⟨_,aq.x (kH (aA cells i) p) (sd (tw @h0 (tw @h2 (tw @h4 (tw @h8 (tw @h9 (tw @h10 (tw @hg (tw @ew (tw @hn (tw @fC (tw @aa.eq_1 @ah.eq_1)))))))))))),?_⟩;refine hN _ _ ?_;clear hN N)))
   refine jL (.inl rfl) (r1:=.int .i64 i) (r2:=.bool (decide ((aA cells i).aL=p))) ?_ ?_ ?_
   ·simp only[go_sem, ↓reduceIte,Nat.reduceEqDiff,Nat.reduceAdd,Nat.reduceSub,Nat.reduceLeDiff,reduceCtorEq]
   ·simp only[go_sem, ↓reduceIte,Nat.reduceEqDiff,Nat.reduceAdd,Nat.reduceSub,Nat.reduceLeDiff,reduceCtorEq,hd]
   ·simp only[e9,bt,cz,er,gh,Option.map_some,ES,fe,decide_true,Bool.true_and]
  ·have fe:¬i<cells.length:=by omega
   (try((repeat(revert hN;revert N;apply Pn.out));refine wk (tw @h0 (tw @h2 (tw @h4 (tw @h8 (tw @h9 (tw @h10 (tw @hg (tw @ew (tw @hn (tw @aa.eq_1 @ah.eq_1)))))))))) ?_;(repeat(refine Pn.mk ?_;intro N hN))))
   refine jL (.inl rfl) (r1:=.int .i64 i) (r2:=.bool false) ?_ ?_ ?_
   ·simp only[go_sem, ↓reduceIte,Nat.reduceEqDiff,Nat.reduceAdd,Nat.reduceSub,Nat.reduceLeDiff,reduceCtorEq]
   ·simp only[go_sem, ↓reduceIte,Nat.reduceEqDiff,Nat.reduceAdd,Nat.reduceSub,Nat.reduceLeDiff,reduceCtorEq]
   ·simp only[e9,bt,cz,er,gh,Option.map_some,ES,fe,decide_false,Bool.false_and]
theorem Im (l:List ab) (p:aM) (hR:qo l) (MM:l.length<=1048576):aq Tryz.prog 265 [.agg [.sl (l.map aa)],.agg (ah p)] (.int .i64 (eY l p)):=by
 refine aq.body eF rfl fun hl n0=>?_
 clear hl
 rw[GG hR]
 have hb:=Hg l p hR MM
 rw[ah]at hb
 cases hf:(decide (su l p<l.length)&&decide ((aA l (su l p)).aL=p))
 ·rw[hf]at hb
  (repeat(first|((repeat(revert hN;revert N;apply Pn.out));refine wk @ah.eq_1 ?_;(repeat(refine Pn.mk ?_;intro N hN)))|((try apply Or.inl);refine⟨_,aq.x (hb) (sd @ah.eq_1),?_⟩;refine hN _ _ ?_;clear hN N)))
  exact dj (b:=-1) (.inl rfl) (sd @Nat.zero_add) (by rw[if_neg];intro h;simp[h.1,h.2]at hf)
 ·rw[hf]at hb
  (repeat(first|((repeat(revert hN;revert N;apply Pn.out));refine wk @ah.eq_1 ?_;(repeat(refine Pn.mk ?_;intro N hN)))|((try apply Or.inl);refine⟨_,aq.x (hb) (sd @ah.eq_1),?_⟩;refine hN _ _ ?_;clear hN N)))
  exact dj (b:=(su l p:Int)) (.inl rfl) (sd @Nat.zero_add) (by rw[if_pos];simpa using hf)
theorem rI (l:List ab) (p:aM) (hR:qo l) (MM:l.length<=1048576):aq Tryz.prog 124 [.du [.sl (l.map aa)],.agg (ah p)] (.int .i64 (eY l p)):=by
 refine aq.body eF rfl fun hl n0=>?_
 clear hl
 rw[GG hR]
 (try((repeat(revert hN;revert N;apply Pn.out));refine wk @ah.eq_1 ?_;(repeat(refine Pn.mk ?_;intro N hN))))
 refine aZ (fun n env st=>∃i j:Nat,n=j-i/\i<=j/\j<=l.length/\(∀x,x<i->jY (aA l x).aL p=true)/\(∀x,j<=x->x<l.length->jY (aA l x).aL p=false)/\env 5=.int .i64 i/\env 6=.int .i64 j/\st.get ⟨124000000,n0⟩=some ⟨true,2,[ah p]⟩) l.length ⟨0,l.length,by omega,by omega,by omega,fun x h=>by omega,fun x h1 h2=>by omega,by(simp only[go_sem, ↓reduceIte,Nat.reduceEqDiff,Nat.reduceAdd,Nat.reduceSub,Nat.reduceLeDiff,reduceCtorEq])<;>rfl,sd @Nat.zero_add,sd @ah.eq_1⟩ ?_
 rintro n env st ⟨i,j,rfl,xi,hj,kI,DT,h5,h6,hg⟩ fr
 have h0:=fr 0 (by kernel_rfl)
 have h3:=fr 3 (by kernel_rfl)
 simp only[go_sem, ↓reduceIte,Nat.reduceEqDiff,Nat.reduceAdd,Nat.reduceSub,Nat.reduceLeDiff,reduceCtorEq]at h0 h3
 clear fr
 by_cases ew:(i:Int)<(j:Int)
 ·have e1:IntKind.i64.wrap ((i:Int)+j)=((i+j:Nat):Int):=by rw[bI (by omega)];rfl
  have hm:(i+j) / 2<l.length:=by omega
  have fC:=fw hm
  have e2:IntKind.i64.wrap (((i+j:Nat):Int).tdiv 2)=(((i+j) / 2:Nat):Int):=by
   rw[Int.tdiv_eq_ediv_of_nonneg (by omega),bI (by omega)];omega
  have e3:=aD (k:=(i+j) / 2) (by omega)
  have hq:=oN (aA l ((i+j) / 2)).aL p
  cases hl:jY (aA l ((i+j) / 2)).aL p
  ·rw[hl]at hq
   (repeat(first|((repeat(revert hN;revert N;apply Pn.out));refine wk (tw @h0 (tw @h3 (tw @h5 (tw @h6 (tw @hg (tw @ew (tw @e1 (tw @e2 (tw @fC (tw @aa.eq_1 @ah.eq_1)))))))))) ?_;(repeat(refine Pn.mk ?_;intro N hN)))|((try apply Or.inl);refine⟨_,aq.x (hq) (sd (tw @h0 (tw @h3 (tw @h5 (tw @h6 (tw @hg (tw @ew (tw @e1 (tw @e2 (tw @fC (tw @aa.eq_1 @ah.eq_1))))))))))),?_⟩;refine hN _ _ ?_;clear hN N)))
   refine⟨_,?_,i,(i+j) / 2,rfl,by omega,by omega,kI,fun x h1 h2=>?_,sd @h5,sd @e2,sd (tw @hg @ah.eq_1)⟩
   ·omega
   ·by_cases Qr:x=(i+j) / 2
    ·subst Qr;exact hl
    ·rw[Bool.eq_false_iff]
     intro hc
     have h3:=j8 (hR ((i+j) / 2) x (by omega) h2) hc
     rw[hl]at h3;cases h3
  ·rw[hl]at hq
   (repeat(first|((repeat(revert hN;revert N;apply Pn.out));refine wk (tw @h0 (tw @h3 (tw @h5 (tw @h6 (tw @hg (tw @ew (tw @e1 (tw @e2 (tw @fC (tw @aa.eq_1 @ah.eq_1)))))))))) ?_;(repeat(refine Pn.mk ?_;intro N hN)))|((try apply Or.inl);refine⟨_,aq.x (hq) (sd (tw @h0 (tw @h3 (tw @h5 (tw @h6 (tw @hg (tw @ew (tw @e1 (tw @e2 (tw @fC (tw @aa.eq_1 @ah.eq_1))))))))))),?_⟩;refine hN _ _ ?_;clear hN N)))
   refine⟨_,?_,(i+j) / 2+1,j,rfl,by omega,hj,fun x hx=>?_,DT,sd @e3,sd @h6,sd (tw @hg @ah.eq_1)⟩
   ·omega
   ·by_cases Qr:x=(i+j) / 2
    ·subst Qr;exact hl
    ·exact j8 (hR x _ (by omega) hm) hl
 ·have P4:i=j:=by omega
  subst P4
  have ES:su l p=i:=AM hj kI fun h=>DT i (Nat.le_refl _) h
  by_cases hn:(i:Int)<(l.length:Int)
  ·have fe:i<l.length:=by omega
   have fC:=fw fe
   by_cases hp:(aA l i).aL=p
   ·have hx:decide ((aA l i).aL.fc=p.fc)=true:=decide_eq_true (by rw[hp])
    have hy:decide ((aA l i).aL.eR=p.eR)=true:=decide_eq_true (by rw[hp])
    (try((repeat(revert hN;revert N;apply Pn.out));refine wk (tw @h0 (tw @h3 (tw @h5 (tw @h6 (tw @hg (tw @ew (tw @hn (tw @fC (tw @hx (tw @hy (tw @aa.eq_1 @ah.eq_1))))))))))) ?_;(repeat(refine Pn.mk ?_;intro N hN))))
    exact dj (b:=(i:Int)) (.inl rfl) (sd @Nat.zero_add) (by rw[ES,if_pos ⟨fe,hp⟩])
   ·by_cases hx:(aA l i).aL.fc=p.fc
    ·have yl:decide ((aA l i).aL.fc=p.fc)=true:=decide_eq_true hx
     have hy':decide ((aA l i).aL.eR=p.eR)=false:=decide_eq_false fun h=>hp (Fx hx h)
     (try((repeat(revert hN;revert N;apply Pn.out));refine wk (tw @h0 (tw @h3 (tw @h5 (tw @h6 (tw @hg (tw @ew (tw @hn (tw @fC (tw @yl (tw @hy' (tw @aa.eq_1 @ah.eq_1))))))))))) ?_;(repeat(refine Pn.mk ?_;intro N hN))))
     exact dj (b:=-1) (.inl rfl) (sd @Nat.zero_add) (by rw[ES,if_neg fun h=>hp h.2])
    ·have yl:decide ((aA l i).aL.fc=p.fc)=false:=decide_eq_false hx
     (try((repeat(revert hN;revert N;apply Pn.out));refine wk (tw @h0 (tw @h3 (tw @h5 (tw @h6 (tw @hg (tw @ew (tw @hn (tw @fC (tw @yl (tw @Bool.false_and (tw @aa.eq_1 @ah.eq_1))))))))))) ?_;(repeat(refine Pn.mk ?_;intro N hN))))
     exact dj (b:=-1) (.inl rfl) (sd @Nat.zero_add) (by rw[ES,if_neg fun h=>hp h.2])
  ·have fe:¬i<l.length:=by omega
   (try((repeat(revert hN;revert N;apply Pn.out));refine wk (tw @h0 (tw @h3 (tw @h5 (tw @h6 (tw @hg (tw @ew (tw @hn (tw @aa.eq_1 @ah.eq_1)))))))) ?_;(repeat(refine Pn.mk ?_;intro N hN))))
   exact dj (b:=-1) (.inl rfl) (sd @Nat.zero_add) (by rw[ES,if_neg fun h=>fe h.1])
theorem GD (l:List ab) (p:aM) (hR:qo l) (MM:l.length<=1048576):aq Tryz.prog 98 [.du [.sl (l.map aa)],.agg (ah p)] (.int .i64 (gV l p)):=by
 refine aq.body eF rfl fun hl n0=>?_
 clear hl
 have hb:=rI l p hR MM
 by_cases hi:eY l p<0
 ·rw[ah]at hb
  (repeat(first|((repeat(revert hN;revert N;apply Pn.out));refine wk (tw @ah.eq_1 @hi) ?_;(repeat(refine Pn.mk ?_;intro N hN)))|((try apply Or.inl);refine⟨_,aq.x (hb) (sd (tw @ah.eq_1 @hi)),?_⟩;refine hN _ _ ?_;clear hN N)))
  exact dj (b:=-1) (.inl rfl) (sd @Nat.zero_add) (by rw[gV,if_neg (by omega)])
 ·have h0:0<=eY l p:=by omega
  have hg:=fw (nI h0).1
  rw[ah]at hb
  (repeat(first|((repeat(revert hN;revert N;apply Pn.out));refine wk (tw @ah.eq_1 (tw @hi (tw @h0 (tw @hg @aa.eq_1)))) ?_;(repeat(refine Pn.mk ?_;intro N hN)))|((try apply Or.inl);refine⟨_,aq.x (hb) (sd (tw @ah.eq_1 (tw @hi (tw @h0 (tw @hg @aa.eq_1))))),?_⟩;refine hN _ _ ?_;clear hN N)))
  exact dj (b:=(aA l (eY l p).toNat).aT) (.inl rfl) (sd @Nat.zero_add) (by rw[gV,if_pos h0])
def lN (s:ax) (l:List ab):Prop:=k9 l/\∀t∈l,ev s t.aT=true
noncomputable def tp (s:ax) (l:List ab):Bool:=pe l&&l.all fun t=>ev s t.aT
theorem oY {s:ax} {l:List ab}:tp s l=true↔lN s l:=by simp[tp,lN,Hu]
theorem Et:Rh aa (fun c=>.agg (aa c)) 3 true:=⟨fun _=>rfl,fun _=>rfl,fun x g=>by simp only[aa,ae,aj,bf,aJ,Option.map_some]⟩
theorem Ib (s:ax) (t:ab) (hs:s.ai.length<=1048576):aq Tryz.prog 167 [.agg (aa t),.du (ad s)] (.bool (!ev s t.aT)):=by
 refine aq.body eF rfl fun hl n0=>?_
 clear hl
 have h:=CQ s t.aT
 rw[ad]at h
 (repeat(first|((repeat(revert hN;revert N;apply Pn.out));refine wk (tw @aa.eq_1 @ad.eq_1) ?_;(repeat(refine Pn.mk ?_;intro N hN)))|((try apply Or.inl);refine⟨_,aq.x (h) (sd (tw @aa.eq_1 @ad.eq_1)),?_⟩;refine hN _ _ ?_;clear hN N)))
 exact bc (b:= !ev s t.aT) (.inl rfl) (sd @Nat.zero_add) rfl
theorem NX (s:ax) (l:List ab) (hs:s.ai.length<=1048576) (hl:l.length<=1048576):aq Tryz.prog 166 [.sl (l.map aa),.fn 167 [.du (ad s)]] (.bool (l.any fun t=> !ev s t.aT)):=
 o8 Et (show lV Tryz.prog 166=some (EK 166 202) by kernel_rfl)
  (show lV Tryz.prog 202=some (tM 202 3 true) by kernel_rfl) l hl _ _ _ rfl (fun g=>by rw[ae,aW,aj];rfl) (fun x _=>Ib s x hs) fun g=>by rw[ae,aW,aj];rfl
theorem Mp {α:Type} (p:α->Bool) (l:List α):(!l.any fun t=> !p t)=l.all p:=by
 induction l with
 |nil=>rfl
 |cons x l ih=>simp only[List.any_cons,List.all_cons,<-ih];cases p x<;>simp
theorem uO (s:ax) (l:List ab) (hn:fm s) (hg:s.aB.length<=1048576) (ht:s.ai.length<=1048576) (hs:∀t∈s.ai,t.bL.length<=1048576) (hl:l.length<=1048576):aq Tryz.prog 106 [.agg (ad s),.agg [.sl (l.map aa)]] (.bool (sR s&&tp s l)):=by
 refine aq.body eF rfl fun hl n0=>?_
 clear hl
 have h1:=Ee s hn hg ht hs
 have h2:=HA l
 have h3:=NX s l ht hl
 rw[ad]at h1 h3
 cases b1:sR s
 ·rw[b1]at h1
  (repeat(first|((repeat(revert hN;revert N;apply Pn.out));refine wk @ad.eq_1 ?_;(repeat(refine Pn.mk ?_;intro N hN)))|((try apply Or.inl);refine⟨_,aq.x (h1) (sd @ad.eq_1),?_⟩;refine hN _ _ ?_;clear hN N)))
  exact bc (b:=false) (.inl rfl) (sd @Nat.zero_add) rfl
 rw[b1]at h1
 cases b2:pe l
 ·rw[b2]at h2
  (repeat(first|((repeat(revert hN;revert N;apply Pn.out));refine wk @ad.eq_1 ?_;(repeat(refine Pn.mk ?_;intro N hN)))|((try apply Or.inl);refine⟨_,aq.x (h1) (sd @ad.eq_1),?_⟩;refine hN _ _ ?_;clear hN N)|((try apply Or.inl);refine⟨_,aq.x (h2) (sd @ad.eq_1),?_⟩;refine hN _ _ ?_;clear hN N)))
  exact bc (b:=false) (.inl rfl) (sd @Nat.zero_add) (by rw[tp,b2];rfl)
 rw[b2]at h2
 (repeat(first|((repeat(revert hN;revert N;apply Pn.out));refine wk @ad.eq_1 ?_;(repeat(refine Pn.mk ?_;intro N hN)))|((try apply Or.inl);refine⟨_,aq.x (h1) (sd @ad.eq_1),?_⟩;refine hN _ _ ?_;clear hN N)|((try apply Or.inl);refine⟨_,aq.x (h2) (sd @ad.eq_1),?_⟩;refine hN _ _ ?_;clear hN N)|((try apply Or.inl);refine⟨_,aq.x (h3) (sd @ad.eq_1),?_⟩;refine hN _ _ ?_;clear hN N)))
 exact bc (b:= !(l.any fun t=> !ev s t.aT)) (.inl rfl) (sd @Nat.zero_add) (by rw[Mp,tp,b2];rfl)
theorem Nl (s:ax) (l:List ab):aq Tryz.prog 97 [.du (ad s),.du [.sl (l.map aa)]] (.bool (tp s l)):=by
 refine aq.body eF rfl fun hl n0=>?_
 have hlen:l.length<=9223372036854775807:=by
  have h1:=(hl (.du [.sl (l.map aa)]) (by simp)).CP (a:=.sl (l.map aa)) (by simp)
  simpa using h1.len
 clear hl
 have h2:=HU l
 cases b2:pe l
 ·rw[b2]at h2
  (repeat(first|((repeat(revert hN;revert N;apply Pn.out));refine wk @Nat.zero_add ?_;(repeat(refine Pn.mk ?_;intro N hN)))|((try apply Or.inl);refine⟨_,aq.x (h2) (sd @Nat.zero_add),?_⟩;refine hN _ _ ?_;clear hN N)))
  exact bc (b:=false) (.inl rfl) (sd @Nat.zero_add) (by rw[tp,b2];rfl)
 rw[b2]at h2
 (repeat(first|((repeat(revert hN;revert N;apply Pn.out));refine wk @Nat.zero_add ?_;(repeat(refine Pn.mk ?_;intro N hN)))|((try apply Or.inl);refine⟨_,aq.x (h2) (sd @Nat.zero_add),?_⟩;refine hN _ _ ?_;clear hN N)))
 refine aZ (fun n env st=>∃k:Nat,n=(l.length)-k/\k<=(l.length)/\env 5=.int .i64 (k:Int)/\(∀j:Nat,j<k->ev s (aA l j).aT=true)) (l.length) ⟨0,by omega,by omega,sl @Nat.zero_add,fun _ h=>absurd h (Nat.not_lt_zero _)⟩ ?_
 rintro n_a env_a st_a ⟨k,rfl,ale,a5,kj⟩ dy
 have a0:=dy 0 (by kernel_rfl);have a1:=dy 1 (by kernel_rfl)
 simp only[go_sem, ↓reduceIte,Nat.reduceEqDiff,Nat.reduceAdd,Nat.reduceSub,Nat.reduceLeDiff,reduceCtorEq]at a0 a1
 clear dy
 by_cases hk:(k:Int)<(l.length:Int)
 ·have cw:∀{e:Env},(e 5=.int .i64 (IntKind.i64.wrap ((k:Int)+1)))->(ev s (aA l k).aT=true)->∃m0,m0<(l.length)-k/\∃k:Nat,m0=(l.length)-k/\k<=(l.length)/\e 5=.int .i64 (k:Int)/\(∀j:Nat,j<k->ev s (aA l j).aT=true):=fun x1 x2=>⟨_,by omega,k+1,rfl,by omega,(by rw[x1,aD (by omega)]),(all_succ kj x2)⟩
  have fP:k<l.length:=by omega
  have eX:=fw fP
  have ht:=rH s (aA l k).aT
  cases b3:ev s (aA l k).aT
  ·rw[b3]at ht
   (repeat(first|((repeat(revert hN;revert N;apply Pn.out));refine wk (tw @a5 (tw @a0 (tw @a1 (tw @hk (tw @eX @aa.eq_1))))) ?_;(repeat(refine Pn.mk ?_;intro N hN)))|((try apply Or.inl);refine⟨_,aq.x (ht) (sd (tw @a5 (tw @a0 (tw @a1 (tw @hk (tw @eX @aa.eq_1)))))),?_⟩;refine hN _ _ ?_;clear hN N)))
   exact bc (b:=false) (.inl rfl) (sd @Nat.zero_add) (by
    have:l.all (fun t=>ev s t.aT)=false:=List.all_eq_false.2 ⟨_,lv fP,by rw[b3];simp⟩
    rw[tp,this,Bool.and_false])
  ·rw[b3]at ht
   (repeat(first|((repeat(revert hN;revert N;apply Pn.out));refine wk (tw @a5 (tw @a0 (tw @a1 (tw @hk (tw @eX @aa.eq_1))))) ?_;(repeat(refine Pn.mk ?_;intro N hN)))|((try apply Or.inl);refine⟨_,aq.x (ht) (sd (tw @a5 (tw @a0 (tw @a1 (tw @hk (tw @eX @aa.eq_1)))))),?_⟩;refine hN _ _ ?_;clear hN N)))
   exact cw (sd (tw @a5 (tw @a0 @a1))) (b3)
 ·(try((repeat(revert hN;revert N;apply Pn.out));refine wk (tw @a5 (tw @a0 (tw @a1 @hk))) ?_;(repeat(refine Pn.mk ?_;intro N hN))))
  exact bc (b:=true) (.inl rfl) (sd @Nat.zero_add) (by
   have:l.all (fun t=>ev s t.aT)=true:=List.all_eq_true.2 fun t ht=>by
    obtain⟨j,hj,rfl⟩:=List.getElem_of_mem ht
    have:=kj j (by omega)
    rwa [fx hj]at this
   rw[tp,b2,this];rfl)
theorem yQ (l:List ab) (hF:k9 l) (i:Nat) (d:Int) (hi:i<l.length) (hd:jl d 0 3=true):aq Tryz.prog 217 [.du [.sl (l.map aa)],.int .i64 i,.int .i64 d] (.int .i64 (eY l (cH (aA l i).aL d))):=by
 refine aq.body eF rfl fun hl n0=>?_
 clear hl
 have hg:=fw hi
 have hp:=ml (hF.pt hi)
 have h1:=pY (aA l i).aL d hd hp.1 hp.2
 have h2:=rI l (cH (aA l i).aL d) hF.Lo (by have:=hF.yi;omega)
 rw[ah]at h1 h2
 (repeat(first|((repeat(revert hN;revert N;apply Pn.out));refine wk (tw @aa.eq_1 (tw @hg @ah.eq_1)) ?_;(repeat(refine Pn.mk ?_;intro N hN)))|((try apply Or.inl);refine⟨_,aq.x (h1) (sd (tw @aa.eq_1 (tw @hg @ah.eq_1))),?_⟩;refine hN _ _ ?_;clear hN N)|((try apply Or.inl);refine⟨_,aq.x (h2) (sd (tw @aa.eq_1 (tw @hg @ah.eq_1))),?_⟩;refine hN _ _ ?_;clear hN N)))
 exact dj (b:=eY l (cH (aA l i).aL d)) (.inl rfl) (sd @Nat.zero_add) rfl
end Go.Proofs.YtgoelphibofcmaaGreat.V

namespace Go.Proofs.YtgoelphibofcmaaGreat.V
def bi (b:Bool):Int:=if b then 1 else 0
def mB (f:Nat->Int):Nat->Int
 |0=>0
 |n+1=>mB f n+f n
theorem gI {f g:Nat->Int}:∀{n:Nat},(∀i,i<n->f i=g i)->mB f n=mB g n
 |0,_=>rfl
 |n+1,h=>by
  simp only[mB]
  rw[gI fun i hi=>h i (by omega),h n (by omega)]
theorem sW {f g:Nat->Int}:∀{n:Nat},(∀i,i<n->f i<=g i)->mB f n<=mB g n
 |0,_=>Int.le_refl _
 |n+1,h=>by
  simp only[mB]
  have:=sW (n:=n) fun i hi=>h i (by omega)
  have:=h n (by omega)
  omega
theorem kd:∀{n:Nat} {f:Nat->Int},(∀i,i<n->f i=0)->mB f n=0
 |0,_,_=>rfl
 |n+1,f,h=>by
  simp only[mB]
  rw[kd fun i hi=>h i (by omega),h n (by omega)];rfl
theorem qk {f:Nat->Int} {a:Nat} {d:Int}:∀n,mB (fun i=>f i+if i=a then d else 0) n=mB f n+if a<n then d else 0
 |0=>by simp[mB]
 |n+1=>by
  simp only[mB]
  rw[qk n]
  by_cases h:n=a
  ·subst h;simp;omega
  ·rw[if_neg h]
   by_cases h2:a<n
   ·rw[if_pos h2,if_pos (by omega)];omega
   ·rw[if_neg h2,if_neg (by omega)];omega
def mN (n:Nat) (S:Nat->Bool) (f:Nat->Nat->Int):Int:=mB (fun u=>mB (fun v=>if S u&& !S v then f u v else 0) n) n
def bump (f:Nat->Nat->Int) (a b:Nat) (d:Int):Nat->Nat->Int:=fun u v=>f u v+if u=a/\v=b then d else 0
theorem pW {n:Nat} {S:Nat->Bool} {f:Nat->Nat->Int} {a b:Nat} {d:Int} (ha:a<n) (hb:b<n):mN n S (bump f a b d)=mN n S f+if S a&& !S b then d else 0:=by
 unfold mN
 have h1:∀u,u<n->mB (fun v=>if S u&& !S v then bump f a b d u v else 0) n=mB (fun v=>if S u&& !S v then f u v else 0) n+if u=a then(if S a&& !S b then d else 0)else 0:=by
  intro u hu
  by_cases h:u=a
  ·subst h
   have h2:∀v,v<n->(if S u&& !S v then bump f u b d u v else 0)=(fun v=>if S u&& !S v then f u v else 0) v+if v=b then(if S u&& !S b then d else 0)else 0:=by
    intro v hv
    unfold bump
    by_cases h3:v=b
    ·subst h3;simp only[and_self,if_true];split<;>omega
    ·simp only[h3,and_false,if_false];split<;>omega
   rw[gI h2,qk,if_pos hb,if_pos rfl]
  ·rw[if_neg h,Int.add_zero]
   refine gI fun v hv=>?_
   unfold bump
   simp[h]
 rw[gI h1,qk,if_pos ha]
theorem MC {n:Nat} {S:Nat->Bool} {f c:Nat->Nat->Int} (h:∀u v,u<n->v<n->f u v<=c u v):mN n S f<=mN n S c:=
 sW fun u hu=>sW fun v hv=>by split;exact h u v hu hv;exact Int.le_refl _
theorem MB {n:Nat} {S:Nat->Bool} {f c:Nat->Nat->Int} (h:∀u v,u<n->v<n->S u=true->S v=false->f u v=c u v):mN n S f=mN n S c:=
 gI fun u hu=>gI fun v hv=>by
  split
  ·rename_i hc
   simp only[Bool.and_eq_true,Bool.not_eq_true']at hc
   exact h u v hu hv hc.1 hc.2
  ·rfl
def kQ (f:Nat->Nat->Int) (a b:Nat):Nat->Nat->Int:=bump (bump f a b 1) b a (-1)
theorem Hm {n:Nat} {S:Nat->Bool} {f:Nat->Nat->Int} {a b:Nat} (ha:a<n) (hb:b<n):mN n S (kQ f a b)=mN n S f+bi (S a)-bi (S b):=by
 unfold kQ
 rw[pW hb ha,pW ha hb]
 cases S a<;>cases S b<;>simp[bi]<;>omega
def mL (f:Nat->Nat->Int):List Nat->Nat->Nat->Int
 |a::b::r=>mL (kQ f a b) (b::r)
 |_=>f
def rV (f c:Nat->Nat->Int):List Nat->Prop
 |a::b::r=>f a b<c a b/\rV f c (b::r)
 |_=>True
theorem BY {n:Nat} {S:Nat->Bool}:∀(r:List Nat) (a:Nat) (f:Nat->Nat->Int),(∀x∈a::r,x<n)->mN n S (mL f (a::r))=mN n S f+bi (S a)-bi (S ((a::r).getLast (by simp)))
 |[],a,f,_=>by simp[mL]
 |b::r,a,f,h=>by
  rw[mL,BY r b (kQ f a b) fun x hx=>h x (List.mem_cons_of_mem _ hx),Hm (h a (by simp)) (h b (by simp)),List.getLast_cons_cons]
  generalize bi (S b)=q
  omega
theorem rV.less {f g c:Nat->Nat->Int}:∀{p:List Nat},rV f c p->(∀u,u∈p->∀v,g u v<=f u v)->rV g c p
 |[],_,_=>trivial
 |[_],_,_=>trivial
 |a::b::r,h,hl=>⟨Int.lt_of_le_of_lt (hl a (by simp) b) h.1,rV.less (p:=b::r) h.2 fun u hu=>hl u (List.mem_cons_of_mem _ hu)⟩
theorem F6 {n:Nat} {c:Nat->Nat->Int}:∀(p:List Nat) (f:Nat->Nat->Int),p.Nodup->rV f c p->(∀u v,u<n->v<n->f u v<=c u v)->∀u v,u<n->v<n->mL f p u v<=c u v
 |[],f,_,_,h=>h
 |[_],f,_,_,h=>h
 |a::b::r,f,hn,hr,h=>by
  rw[mL]
  have rh:a∉b::r:=(List.nodup_cons.1 hn).1
  refine F6 (b::r) _ (List.nodup_cons.1 hn).2 (hr.2.less fun u hu v=>?_) fun u v hu hv=>?_
  ·unfold kQ bump
   have:u≠a:=by rintro rfl;exact rh hu
   simp only[this,false_and,if_false]
   split<;>omega
  ·have h0:=h u v hu hv
   have h1:=hr.1
   unfold kQ bump
   by_cases e:u=a/\v=b
   ·obtain⟨rfl,rfl⟩:=e
    rw[if_pos ⟨rfl,rfl⟩];split<;>omega
   ·rw[if_neg e];split<;>omega
structure lS (n:Nat) (c f:Nat->Nat->Int) (x y:Nat) (val:Int):Prop where
 le:∀u v,u<n->v<n->f u v<=c u v
 cut:∀S:Nat->Bool,S x=true->S y=false->mN n S f=val
theorem lS.zero {n:Nat} {c:Nat->Nat->Int} {x y:Nat} (h:∀u v,u<n->v<n->0<=c u v):lS n c (fun _ _=>0) x y 0:=
 ⟨h,fun S _ _=>kd fun u hu=>kd fun v hv=>by split<;>rfl⟩
theorem lS.congr {n:Nat} {c f g:Nat->Nat->Int} {x y:Nat} {val:Int} (h:lS n c f x y val) (e:∀u v,u<n->v<n->g u v=f u v):lS n c g x y val:=
 ⟨fun u v hu hv=>by rw[e u v hu hv];exact h.le u v hu hv,fun S hx hy=>by
  rw[<-h.cut S hx hy]
  exact gI fun u hu=>gI fun v hv=>by rw[e u v hu hv]⟩
theorem lS.aug {n:Nat} {c f:Nat->Nat->Int} {x y:Nat} {val:Int} (h:lS n c f x y val) {r:List Nat} (hl:(x::r).getLast (by simp)=y) (hn:(x::r).Nodup) (hr:rV f c (x::r)) (hb:∀v∈x::r,v<n):lS n c (mL f (x::r)) x y (val+1):=
 ⟨F6 _ _ hn hr h.le,fun S hx hy=>by rw[BY r x f hb,hl,h.cut S hx hy,hx,hy];simp[bi]⟩
theorem lS.bound {n:Nat} {c f:Nat->Nat->Int} {x y:Nat} {val:Int} (h:lS n c f x y val) {S:Nat->Bool} (hx:S x=true) (hy:S y=false):val<=mN n S c:=by
 rw[<-h.cut S hx hy];exact MC h.le
theorem lS.full {n:Nat} {c f:Nat->Nat->Int} {x y:Nat} {val:Int} (h:lS n c f x y val) {S:Nat->Bool} (hx:S x=true) (hy:S y=false) (hS:∀u v,u<n->v<n->S u=true->S v=false->¬f u v<c u v):val=mN n S c:=by
 rw[<-h.cut S hx hy]
 exact MB fun u v hu hv h1 h2=>by have:=hS u v hu hv h1 h2;have:=h.le u v hu hv;omega
structure PB where
 a:Nat
 b:Nat
 s:Int
 deriving Inhabited
def cL (bs:List PB) (i:Nat):PB:=bs.getD i default
def jt (S:Nat->Bool) (bs:List PB):Int:=(bs.map fun b=>if S b.a=S b.b then 0 else b.s).sum
def oy (c:Nat->Nat->Int) (b:PB):Nat->Nat->Int:=bump (bump c b.a b.b b.s) b.b b.a b.s
def lE (bs:List PB):Nat->Nat->Int:=bs.foldl oy fun _ _=>0
theorem FC (bs:List PB) (b:PB):lE (bs++[b])=oy (lE bs) b:=by simp[lE]
theorem Cb {n:Nat} {S:Nat->Bool}:∀(bs:List PB) (c:Nat->Nat->Int),(∀b∈bs,b.a<n/\b.b<n)->mN n S (bs.foldl oy c)=mN n S c+jt S bs
 |[],c,_=>by simp[jt]
 |b::bs,c,h=>by
  have hb:=h b (by simp)
  rw[List.foldl_cons,Cb bs _ fun x hx=>h x (List.mem_cons_of_mem _ hx)]
  unfold oy jt
  rw[pW hb.2 hb.1,pW hb.1 hb.2,List.map_cons,List.sum_cons]
  cases S b.a<;>cases S b.b<;>simp<;>omega
theorem Cc {n:Nat} {S:Nat->Bool} {bs:List PB} (h:∀b∈bs,b.a<n/\b.b<n):mN n S (lE bs)=jt S bs:=by
 rw[lE,Cb bs _ h]
 have:mN n S (fun _ _=>0)=0:=kd fun u hu=>kd fun v hv=>by split<;>rfl
 omega
theorem A7:∀(bs:List PB) (c:Nat->Nat->Int),(∀b∈bs,0<=b.s)->(∀u v,0<=c u v)->∀u v,0<=bs.foldl oy c u v
 |[],c,_,h=>h
 |b::bs,c,hb,h=>by
  rw[List.foldl_cons]
  refine A7 bs _ (fun x hx=>hb x (List.mem_cons_of_mem _ hx)) fun u v=>?_
  have:=hb b (by simp);have:=h u v
  unfold oy bump
  split<;>split<;>omega
theorem room_le:∀(bs:List PB) (c:Nat->Nat->Int) (m:Int),(∀b∈bs,b.s<=4)->(∀u v,c u v<=m)->0<=m->∀u v,bs.foldl oy c u v<=m+8*bs.length
 |[],c,m,_,h,_=>fun u v=>by have:=h u v;simp;omega
 |b::bs,c,m,hb,h,h0=>fun u v=>by
  rw[List.foldl_cons]
  have:=room_le bs (oy c b) (m+8) (fun x hx=>hb x (List.mem_cons_of_mem _ hx)) (fun u v=>by
   have:=hb b (by simp);have:=h u v
   unfold oy bump
   split<;>split<;>omega) (by omega) u v
  simp only[List.length_cons];omega
def la (n:Nat) (bs:List PB) (t:Int):Prop:=∀S:Nat->Bool,S 0=true->(∃y,y<n/\S y=false)->t<=jt S bs
def Hk (S:Nat->Bool) (bs:List PB) (f:Nat->Int):Int:=mB (fun i=>f i*(bi (S (cL bs i).a)-bi (S (cL bs i).b))) bs.length
structure ki (bs:List PB) (f:Nat->Int) (x y:Nat) (val:Int):Prop where
 le:∀i,i<bs.length->f i<=(cL bs i).s/\-(cL bs i).s<=f i
 cut:∀S:Nat->Bool,S x=true->S y=false->Hk S bs f=val
theorem wS (S:Nat->Bool):∀bs:List PB,jt S bs=mB (fun i=>if S (cL bs i).a=S (cL bs i).b then 0 else(cL bs i).s) bs.length:=by
 intro bs
 have key:∀n,n<=bs.length->jt S (bs.take n)=mB (fun i=>if S (cL bs i).a=S (cL bs i).b then 0 else(cL bs i).s) n:=by
  intro n
  induction n with
  |zero=>intro _;rfl
  |succ n ih=>
   intro h
   have e:cL bs n=bs[n]:=by simp[cL,List.getD_eq_getElem?_getD,List.getElem?_eq_getElem (show n<bs.length by omega)]
   rw[List.take_succ_eq_append_getElem (by omega),mB,<-ih (by omega),e]
   unfold jt
   rw[List.map_append,List.sum_append]
   simp only[List.map_cons,List.map_nil,List.sum_cons,List.sum_nil,Int.add_zero]
 have:=key bs.length (Nat.le_refl _)
 rwa [List.take_length]at this
theorem ki.bound {bs:List PB} {f:Nat->Int} {x y:Nat} {val:Int} (h:ki bs f x y val) {S:Nat->Bool} (hx:S x=true) (hy:S y=false):val<=jt S bs:=by
 rw[<-h.cut S hx hy,wS]
 refine sW fun i hi=>?_
 have:=h.le i hi
 cases S (cL bs i).a<;>cases S (cL bs i).b<;>simp[bi]<;>omega
def fU (bs:List PB) (f:Nat->Int) (i u:Nat):Int:=if (cL bs i).a=u then(cL bs i).s-f i else(cL bs i).s+f i
def cE (bs:List PB) (i u:Nat):Nat:=if (cL bs i).a=u then(cL bs i).b else(cL bs i).a
theorem ki.full {bs:List PB} {f:Nat->Int} {x y:Nat} {val:Int} (h:ki bs f x y val) {S:Nat->Bool} (hx:S x=true) (hy:S y=false)
  (hS:∀i,i<bs.length->((cL bs i).a≠(cL bs i).b->(S (cL bs i).a=true->S (cL bs i).b=false->¬0<fU bs f i (cL bs i).a)/\(S (cL bs i).b=true->S (cL bs i).a=false->¬0<fU bs f i (cL bs i).b))):val=jt S bs:=by
 rw[<-h.cut S hx hy,wS]
 refine gI fun i hi=>?_
 have h1:=h.le i hi
 by_cases rh:(cL bs i).a=(cL bs i).b
 ·rw[rh];simp
 ·have h2:=hS i hi rh
  unfold fU at h2
  rw[if_pos rfl,if_neg rh]at h2
  cases ha:S (cL bs i).a<;>cases hb:S (cL bs i).b<;>rw[ha,hb]at h2<;>simp[bi]at h2 ⊢ <;>omega
def uH (bs:List PB) (f:Nat->Int) (i u:Nat):Nat->Int:=fun j=>f j+if j=i then(if (cL bs i).a=u then 1 else -1)else 0
theorem Hl {S:Nat->Bool} {bs:List PB} {f:Nat->Int} {i u:Nat} (hi:i<bs.length) (hu:(cL bs i).a=u∨(cL bs i).b=u):Hk S bs (uH bs f i u)=Hk S bs f+bi (S u)-bi (S (cE bs i u)):=by
 unfold Hk uH
 have e:∀j,j<bs.length->(f j+if j=i then(if (cL bs i).a=u then 1 else -1)else 0)*(bi (S (cL bs j).a)-bi (S (cL bs j).b))=(fun j=>f j*(bi (S (cL bs j).a)-bi (S (cL bs j).b))) j+if j=i then(if (cL bs i).a=u then 1 else -1)*(bi (S (cL bs i).a)-bi (S (cL bs i).b))else 0:=by
  intro j hj
  by_cases h:j=i
  ·subst h;simp only[if_true];rw[Int.add_mul]
  ·simp only[h,if_false];simp
 rw[gI e,qk,if_pos hi]
 unfold cE
 by_cases ha:(cL bs i).a=u
 ·rw[if_pos ha,if_pos ha,ha];omega
 ·rw[if_neg ha,if_neg ha]
  rcases hu with hu|hu
  ·exact absurd hu ha
  ·rw[hu];omega
theorem pw:∀(n:Nat) (l:List Nat),l.Nodup->(∀x∈l,x<n)->l.length<=n
 |0,l,_,h=>by
  cases l with
  |nil=>simp
  |cons x l=>exact absurd (h x (by simp)) (by omega)
 |n+1,l,hn,h=>by
  have h1:=pw n (l.erase n) (hn.erase _) fun x hx=>by
   have h2:=(hn.mem_erase_iff).1 hx
   have h3:=h x h2.2
   have h4:=h2.1
   omega
  rw[List.length_erase]at h1
  split at h1<;>omega
end Go.Proofs.YtgoelphibofcmaaGreat.V

namespace Go.Proofs.YtgoelphibofcmaaGreat.V
def fa (L:Nat->Nat) (b:PB):Nat->Nat:=fun k=>if L k=max (L b.a) (L b.b)then min (L b.a) (L b.b)else L k
def eO (bs:List PB):Nat->Nat:=bs.foldl fa id
theorem xr (bs:List PB) (b:PB):eO (bs++[b])=fa (eO bs) b:=by simp[eO]
structure jU (L:Nat->Nat):Prop where
 le:∀k,L k<=k
 idem:∀k,L (L k)=L k
theorem jU.step {L:Nat->Nat} (h:jU L) (b:PB):jU (fa L b):=by
 have ha:=h.idem b.a
 have hb:=h.idem b.b
 refine⟨fun k=>?_,fun k=>?_⟩
 ·have:=h.le k
  unfold fa
  split<;>omega
 ·have hk:=h.idem k
  have hm:L (min (L b.a) (L b.b))=min (L b.a) (L b.b):=by
   rcases Nat.le_total (L b.a) (L b.b)with h1|h1
   ·rw[Nat.min_eq_left h1,ha]
   ·rw[Nat.min_eq_right h1,hb]
  unfold fa
  by_cases h1:L k=max (L b.a) (L b.b)
  ·rw[if_pos h1,hm];split<;>rfl
  ·rw[if_neg h1,hk,if_neg h1]
theorem xt:∀(bs:List PB) (L:Nat->Nat),jU L->jU (bs.foldl fa L)
 |[],_,h=>h
 |b::bs,L,h=>xt bs _ (h.step b)
theorem uC (bs:List PB):jU (eO bs):=xt bs id ⟨fun _=>Nat.le_refl _,fun _=>rfl⟩
def leads (n:Nat) (L:Nat->Nat):List Nat:=(List.range n).filter fun i=>L i==i
def members (n:Nat) (L:Nat->Nat) (i:Nat):List Nat:=(List.range n).filter fun k=>L k==i
def fN (n:Nat) (L:Nat->Nat):List (List Nat):=(leads n L).map (members n L)
def cD (L:Nat->Nat) (k:Nat):Nat:=(leads (L k) L).length
theorem im (n:Nat) (L:Nat->Nat):leads (n+1) L=leads n L++if L n=n then[n]else[]:=by
 unfold leads
 rw[List.range_succ,List.filter_append]
 congr 1
 by_cases h:L n=n<;>simp[h]
theorem jJ (n:Nat) (L:Nat->Nat) (i:Nat):members (n+1) L i=members n L i++if L n=i then[n]else[]:=by
 unfold members
 rw[List.range_succ,List.filter_append]
 congr 1
 by_cases h:L n=i<;>simp[h]
theorem nL {L:Nat->Nat} (h:jU L) {n i:Nat} (hn:n<=i):members n L i=[]:=by
 unfold members
 rw[List.filter_eq_nil_iff]
 intro k hk
 have:=h.le k
 have:=List.mem_range.1 hk
 simp;omega
theorem uD (n:Nat) (L:Nat->Nat):(leads n L).Nodup:=List.nodup_range.filter _
theorem zz {n:Nat} {L:Nat->Nat} {i:Nat}:i∈leads n L↔i<n/\L i=i:=by simp[leads]
theorem l7 {n:Nat} {L:Nat->Nat} {i k:Nat}:k∈members n L i↔k<n/\L k=i:=by simp[members]
theorem H0 {L:Nat->Nat} {m n:Nat} (h:m<=n):∃r,leads n L=leads m L++r:=by
 obtain⟨d,rfl⟩:=Nat.le.dest h
 clear h
 induction d with
 |zero=>exact⟨[],by simp⟩
 |succ d ih=>
  obtain⟨r,hr⟩:=ih
  exact⟨r++if L (m+d)=m+d then[m+d]else[],by rw[<-Nat.add_assoc,im,hr,List.append_assoc]⟩
theorem pZ {L:Nat->Nat} (h:jU L) {n k:Nat} (hk:k<n):(leads n L)[cD L k]? =some (L k):=by
 have h1:=h.le k
 obtain⟨r,hr⟩:=H0 (L:=L) (show L k+1<=n by omega)
 rw[hr,im,if_pos (h.idem k),List.append_assoc]
 unfold cD
 rw[List.getElem?_append_right (Nat.le_refl _),Nat.sub_self];rfl
theorem kB {L:Nat->Nat} (h:jU L) {n k:Nat} (hk:k<n):cD L k<(leads n L).length:=(List.getElem?_eq_some_iff.1 (pZ h hk)).1
theorem tR {L:Nat->Nat} (h:jU L) {n k i:Nat} (hk:k<n) (hi:i<(leads n L).length):k∈members n L (leads n L)[i]↔cD L k=i:=by
 rw[l7]
 have h1:=pZ h hk
 rw[List.getElem?_eq_getElem (kB h hk)]at h1
 injection h1 with h1
 constructor
 ·rintro⟨_,h2⟩
  rw[<-h1]at h2
  exact(List.getElem_inj (uD n L)).1 h2
 ·rintro rfl
  exact⟨hk,h1.symm⟩
def dF (L:Nat->Nat) (bs:List PB):List PB:=bs.filterMap fun b=>if cD L b.a=cD L b.b then none else some ⟨cD L b.a,cD L b.b,b.s⟩
def fy (L:Nat->Nat) (bs:List PB):List PB:=bs.filterMap fun b=>if cD L b.a=cD L b.b then none else some ⟨min (cD L b.a) (cD L b.b),max (cD L b.a) (cD L b.b),b.s⟩
theorem A8 (L:Nat->Nat) (bs:List PB) (b:PB):dF L (bs++[b])=dF L bs++if cD L b.a=cD L b.b then[]else[⟨cD L b.a,cD L b.b,b.s⟩]:=by
 unfold dF
 rw[List.filterMap_append]
 congr 1
 by_cases h:cD L b.a=cD L b.b<;>simp[h]
theorem A9 (L:Nat->Nat) (bs:List PB) (b:PB):fy L (bs++[b])=fy L bs++if cD L b.a=cD L b.b then[]else[⟨min (cD L b.a) (cD L b.b),max (cD L b.a) (cD L b.b),b.s⟩]:=by
 unfold fy
 rw[List.filterMap_append]
 congr 1
 by_cases h:cD L b.a=cD L b.b<;>simp[h]
theorem tz (S:Nat->Bool) (b:PB) (bs:List PB):jt S (b::bs)=(if S b.a=S b.b then 0 else b.s)+jt S bs:=by simp[jt]
theorem y9 (S:Nat->Bool) (L:Nat->Nat):∀bs:List PB,jt S (fy L bs)=jt S (dF L bs)
 |[]=>rfl
 |b::bs=>by
  have ih:=y9 S L bs
  unfold fy dF at ih ⊢
  rw[List.filterMap_cons,List.filterMap_cons]
  by_cases h:cD L b.a=cD L b.b
  ·simp only[h,if_true];exact ih
  ·simp only[h,if_false]
   rw[tz,tz,ih]
   congr 1
   simp only
   rcases Nat.le_total (cD L b.a) (cD L b.b)with h1|h1
   ·rw[Nat.min_eq_left h1,Nat.max_eq_right h1]
   ·rw[Nat.min_eq_right h1,Nat.max_eq_left h1]
    cases S (cD L b.a)<;>cases S (cD L b.b)<;>rfl
theorem FG {L:Nat->Nat} (h:jU L) {n:Nat} {bs:List PB} (hb:∀b∈bs,b.a<n/\b.b<n):∀b∈dF L bs,b.a<(leads n L).length/\b.b<(leads n L).length/\b.a≠b.b/\∃c∈bs,b.s=c.s:=by
 intro b hm
 unfold dF at hm
 obtain⟨c,hc,he⟩:=List.mem_filterMap.1 hm
 split at he
 ·cases he
 ·rename_i gM
  simp only[Option.some.injEq]at he
  subst he
  exact⟨kB h (hb c hc).1,kB h (hb c hc).2,gM,c,hc,rfl⟩
theorem FH {L:Nat->Nat} (h:jU L) {n:Nat} {bs:List PB} (hb:∀b∈bs,b.a<n/\b.b<n):∀b∈fy L bs,b.a<(leads n L).length/\b.b<(leads n L).length/\b.a≠b.b/\∃c∈bs,b.s=c.s:=by
 intro b hm
 unfold fy at hm
 obtain⟨c,hc,he⟩:=List.mem_filterMap.1 hm
 split at he
 ·cases he
 ·rename_i gM
  simp only[Option.some.injEq]at he
  subst he
  have h1:=kB h (hb c hc).1
  have h2:=kB h (hb c hc).2
  refine⟨by simp only;omega,by simp only;omega,by simp only;omega,c,hc,rfl⟩
theorem nR (L:Nat->Nat) (bs:List PB):(dF L bs).length<=bs.length/\(fy L bs).length<=bs.length:=⟨List.length_filterMap_le ..,List.length_filterMap_le ..⟩
theorem j7 (n:Nat) (L:Nat->Nat):(leads n L).length<=n:=by
 have:=List.length_filter_le (fun i=>L i==i) (List.range n)
 simpa[leads]using this
def aV (t:Int) (bs:List PB):List PB:=bs.filter fun b=>decide (t<=b.s)
def pU (n:Nat) (bs:List PB) (t:Int):Prop:=
 (leads n (eO (aV t bs))).length<=64/\la (leads n (eO (aV t bs))).length (dF (eO (aV t bs)) bs) t
theorem EV {n:Nat} {L:Nat->Nat} {bs:List PB} {t:Int}:la n (fy L bs) t↔la n (dF L bs) t:=by
 unfold la
 constructor<;>intro h S h0 hy<;>have:=h S h0 hy<;>rw[y9]at *<;>exact this
end Go.Proofs.YtgoelphibofcmaaGreat.V
