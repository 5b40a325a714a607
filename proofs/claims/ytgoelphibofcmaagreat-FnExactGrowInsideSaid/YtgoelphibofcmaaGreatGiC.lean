/- Slices of one's own that grow from an empty one. -/
import Derived.Test.YtgoelphibofcmaaGreatGiB
import Derived.Test.YtgoelphibofcmaaGreatChecked
import Derived.Test.YtgoelphibofcmaaGreatGiA
set_option linter.unusedVariables false
set_option linter.unusedSimpArgs false
set_option maxRecDepth 100000
set_option maxHeartbeats 16000000
namespace Go.Proofs.YtgoelphibofcmaaGreat.V
open Go.RowKit
variable {P:Program} {X:fG} {K:Env->ar->Prop} {env:Env} {σ:ar}
def mQ {α:Type} (enc:α->List AV) (sz:Nat) (x:AV) (g:Rows) (S:Id->Prop) (L:List α):Prop:=∃o:Id,S o/\x=.own o 0 L.length/\g o=some ⟨true,sz,L.map enc⟩
section
variable {α:Type} {enc:α->List AV} {sz:Nat} {x:AV} {g g':Rows} {S:Id->Prop} {L L':List α}
theorem mQ.cast (h:mQ enc sz x g S L) (hL:L'=L):mQ enc sz x g S L':=by subst hL;exact h
theorem mQ.frame (h:mQ enc sz x g S L) (hg:∀o:Id,S o->g' o=g o):mQ enc sz x g' S L:=by
 obtain⟨o,h1,h2,h3⟩:=h
 exact⟨o,h1,h2,(hg o h1).trans h3⟩
theorem mQ.app (hz:∀a,(enc a).length=sz/\(enc a).all AV.cell=true) (h:mQ enc sz x g S L) (id:Id) (hid:S id) (M:List α) (hlen:L.length+M.length<=dE):
  ∃v g',aY g id sz x (M.map enc)=some (v,g')/\mQ enc sz v g' S (L++M)/\∀j:Id,¬S j->g' j=g j:=by
 obtain⟨o,h1,rfl,h4⟩:=h
 refine⟨.own id 0 (L.length+(M.map enc).length),bq (cu g o) id ⟨true,sz,L.map enc++M.map enc⟩,?_,⟨id,hid,by simp,by simp[bq]⟩,fun j hj=>?_⟩
 ·have ha:=all_map (l:=M) hz
  simp only[aY,h4,Option.bind_some]
  rw[if_pos ⟨trivial,trivial,by simp,by simpa using hlen,ha⟩]
 ·have e1:¬j=id:=fun h=>hj (h▸hid)
  have e2:¬j=o:=fun h=>hj (h▸h1)
  simp[bq,cu,e1,e2]
theorem Pg {draw:Bool} {o:bj} {r:List bj} {x' y:O} {xv:AV} (M:List α) (ho:o.op=.append sz x' y) (hw:aM o.guard env=true) (hx:cQ env x'=xv) (hO:mQ enc sz xv σ.get S L)
  (hy:bw σ.get (cQ env y)=some (M.map enc)) (hz:∀a,(enc a).length=sz/\(enc a).all AV.cell=true) (hid:S ⟨o.site,σ.next⟩) (hlen:L.length+M.length<=dE)
  (next:∀v g',mQ enc sz v g' S (L++M)->(∀j:Id,¬S j->g' j=σ.get j)->wpOps X draw r K (upd env o.dst v) ⟨g',σ.next⟩):wpOps X draw (o::r) K env σ:=by
 obtain⟨v,g',h1,h2,h3⟩:=hO.app hz ⟨o.site,σ.next⟩ hid M hlen
 unfold wpOps
 rw[if_pos hw]
 unfold fF
 simp only[ho,ga,hy,hx,Option.bind_some,h1]
 exact next v g' h2 h3
theorem mQ.gx {n:Nat} (h:mQ enc sz x g S L) (he:∀a,er g n (enc a)=some (enc a)):gx g (n+1) x=some (.sl (L.map enc)):=by
 obtain⟨o,_,rfl,h3⟩:=h
 exact fc h3 rfl he
end
theorem cr {a b:Id} (h:a.ck<b.ck):(a=b)=False/\(b=a)=False:=by
 constructor<;>(simp only[eq_iff_iff,iff_false];rintro rfl;omega)
theorem Ao {o:Id} {a:Nat} (h:o.site=a) {b v:Nat} (qD:(a==b)=false):(o=⟨b,v⟩)=False:=by
 simp only[eq_iff_iff,iff_false]
 rintro rfl
 simp only at h
 subst h
 simp at qD
def eN (n:Nat):List AV:=[.int .i64 n]
theorem fzN (g:Rows) (n:Nat) (a:Nat):cN g (n+1) (eN a)=some (eN a):=by simp[eN,ai,aj,aH]
theorem NP (g:Rows) (n:Nat) (a:Nat):er g (n+1) (eN a)=some (eN a):=by simp[eN,bz,cD,eK]
def PF:CG (List Nat):=fun g cs x ids=>∃id,cs=[.own id 0 x.length]/\g id=some ⟨true,1,x.map eN⟩/\ids=[id]
theorem LU:xE PF 1 where
 frame:=fun⟨id,h1,h2,h3⟩ hf=>by subst h3;exact⟨id,h1,(hf id (by simp)).trans h2,rfl⟩
 len:=fun⟨id,h1,_⟩=>by subst h1;rfl
 cell:=fun⟨id,h1,_⟩=>by subst h1;rfl
 live:=fun⟨id,h1,h2,h3⟩ i hi=>by
  subst h3
  have:i=id:=by simpa using hi
  subst this
  exact⟨_,h2,rfl,by simp[rX]⟩
 small:=by simp[rX]
def AM (l:List Nat):List AV:=[.sl (l.map eN)]
theorem Jm {g:Rows} {rows:List (List AV)} {xs:List (List Nat)} {ids:List Id} (n:Nat) (h:eG PF g rows xs ids):ib g (n+2) rows=some (xs.map AM):=by
 induction h with
 |nil=>rw[ib];rfl
 |cons h1 _ ih=>
  obtain⟨id,rfl,h2,_⟩:=h1
  rw[ib,ih,bz,cD,fc (e:=eN) (sz:=1) h2 rfl fun a=>NP g n a];rfl
end Go.Proofs.YtgoelphibofcmaaGreat.V

namespace Go.Proofs.YtgoelphibofcmaaGreat.V
open Go.RowKit
attribute [local irreducible] dG wpOps gy Call
attribute [local go_sem] aM fF eP ga fW cQ upd cz K.av cR AV.cells AV.cell rowOf rowsOf part ld rowAt bq cu dD ee ik bJ dh ev fU eX dr ej dd dc dQ dR bQ bf cW bP cY cX eh ek ei cV cj de ef bK aO da cG ij bw cK bU aY dn aZ dE AV.undef bD bG dV ec dM dK cH eu ew cF ep eo cZ db List.getD_cons_zero List.getD_cons_succ List.getD_nil List.all_cons List.all_nil Bool.and_true Bool.true_and Bool.and_self Bool.not_true Bool.not_false Option.map_some Option.map_none Option.bind_some Option.bind_none List.length_cons List.length_nil List.take_succ_cons List.take_zero List.take_nil List.drop_succ_cons List.drop_zero List.drop_nil List.head?_cons List.map_cons List.map_nil List.getElem?_cons_zero List.getElem?_cons_succ List.cons_append List.nil_append List.append_nil List.length_map List.set_cons_zero List.set_cons_succ Nat.reduceMul eq_self Int.toNat_natCast Int.natCast_nonneg and_self true_and and_true decide_true decide_false Bool.false_eq_true Nat.zero_add Nat.add_zero List.contains_cons List.contains_nil Bool.or_false Bool.false_or beq_self_eq_true Nat.reduceBEq ne_eq not_true_eq_false not_false_eq_true Id.mk.injEq false_and and_false Nat.reduceLT Int.reduceLE Int.reduceLT Int.reduceToNat Int.reduceNeg Int.reduceAdd Nat.le_refl List.length_append beq_true beq_false Bool.not_eq_eq_eq_not or_false false_or dL ai aj aH bl bB cw aX bd aU bh cU bH
variable {P:Program}
def KS {α:Type} (R:CG α) (x:α) (σ:ar) (r:AV) (σ':ar):Prop:=∃cs ids,r=.agg cs/\R σ'.get cs x ids/\gp σ.next σ'.next ids/\Kept σ σ'
def iD {α:Type} (R:CG α) (z:Nat) (g:Rows) (a:AV) (xs:List α) (ids:List Id):Prop:=∃o rows is,a=.own o 0 xs.length/\g o=some ⟨true,z,rows⟩/\eG R g rows xs is/\ids=o::is
def KT {α:Type} (R:CG α) (z:Nat) (xs:List α) (σ:ar) (r:AV) (σ':ar):Prop:=∃ids,iD R z σ'.get r xs ids/\gp σ.next σ'.next ids/\Kept σ σ'
theorem iD.frame {α:Type} {R:CG α} {z:Nat} {g g':Rows} {a:AV} {xs:List α} {ids:List Id} (ok:xE R z) (h:iD R z g a xs ids) (hf:∀i∈ids,g' i=g i):iD R z g' a xs ids:=by
 obtain⟨o,rows,is,h1,h2,h3,rfl⟩:=h
 exact⟨o,rows,is,h1,(hf o (by simp)).trans h2,h3.frame ok fun i hi=>hf i (by simp[hi]),rfl⟩
theorem iD.fz {α:Type} {R:CG α} {z n:Nat} {e:α->List AV} {g:Rows} {a:AV} {xs:List α} {ids:List Id} (h:iD R z g a xs ids) (hz:∀{cs x ids},R g cs x ids->cN (dL g) n cs=some (e x)):V.fz (dL g) (n+1) a=some (.sl (xs.map e)):=by
 obtain⟨o,rows,is,rfl,h2,h3,rfl⟩:=h
 rw[iw]
 simp only[dL,h2,Option.map_some,if_true]
 rw[if_pos (by rw[h3.len];omega),List.drop_zero,List.take_of_length_le (by rw[h3.len];exact Nat.le_refl _),h3.fz hz];rfl
def lr {α:Type} (e:α->List AV):CG α:=fun _ cs x ids=>cs=e x/\ids=[]
theorem Iq {α:Type} {e:α->List AV} {z:Nat} (hz:∀x,(e x).length=z) (hc:∀x,(e x).all AV.cell=true) (hs:z<rX):xE (lr e) z where
 frame:=fun h _=>h
 len:=fun h=>by rw[h.1];exact hz _
 cell:=fun h=>by rw[h.1];exact hc _
 live:=fun h i hi=>by rw[h.2]at hi;cases hi
 small:=hs
def ow:CG eS:=fun g cs t ids=>∃i,cs=[.str t.aC,.own i 0 t.bt.length]/\g i=some ⟨true,1,t.bt.map br⟩/\ids=[i]
theorem qU:xE ow 2 where
 frame:=fun⟨i,h1,h2,h3⟩ hf=>⟨i,h1,(hf i (by rw[h3];simp)).trans h2,h3⟩
 len:=fun⟨i,h1,_⟩=>by rw[h1];rfl
 cell:=fun⟨i,h1,_⟩=>by rw[h1];rfl
 live:=fun⟨i,h1,h2,h3⟩ j hj=>by
  rw[h3]at hj
  have:j=i:=by simpa using hj
  subst this
  exact⟨_,h2,rfl,by simp[rX]⟩
 small:=by simp[rX]
theorem Mr {g:Rows} {cs:List AV} {t:eS} {ids:List Id} (n:Nat) (h:ow g cs t ids):cN (dL g) (n+2) cs=some (bE t):=by
 obtain⟨i,rfl,h2,_⟩:=h
 have h3:V.fz (dL g) (n+2) (.own i 0 t.bt.length)=some (.sl (t.bt.map br)):=gr (e:=br) (sz:=1) (by simp[dL,h2]) rfl fun x=>by simp[br,ai,aj,aH]
 simp only[ai,aj,bB,h3,Option.map_some,bE]
theorem Mj {α:Type} {a b:List α} {x y:α} {k:Nat} (hk:a.length=k):(a++x::b).set k y=a++[y]++b:=by subst hk;simp
theorem Ax {α:Type} {R:CG α} {en:α->List AV} {z fk gk:Nat} {zero:List K} (ok:xE R z) (hc:mi P fk=some (ug fk gk z zero)) (HC:zero.length=z) (hz:∀x,(en x).length=z) (xs:List α) (hlen:xs.length<=1048576)
  (hg:∀x∈xs,∀σ,Call P gk [.agg (en x)] σ (KS R x σ)) (σ:ar):Call P fk [.sl (xs.map en)] σ (KT R z xs σ):=by
 refine eU hc rfl fun hl=>?_
 try simp only[q]
 clear hl
 have hm:(xs.length:Int)<=((16777216:Nat):Int):=by omega
 have h0:(0:Int)<=(xs.length:Int):=by omega
 (try((repeat(revert hN;revert N;apply Pn.out));refine wk (tw @hm (tw @h0 (tw @Int.le_refl @HC))) ?_;(repeat(refine Pn.mk ?_;intro N hN))))
 refine aW (fun n env st=>∃k:Nat,n=(xs.length)-k/\k<=(xs.length)/\env 4=.int .i64 (k:Int)/\(σ.next+2<=st.next/\(∀y:Id,y.ck<σ.next->st.get y=σ.get y)/\∃rows is,st.get ⟨fk*1000000+1002,σ.next+1⟩=some ⟨true,z,rows++List.replicate (xs.length-k) (zero.map K.av)⟩/\eG R st.get rows (xs.take k) is/\gp (σ.next+2) st.next is)) (xs.length) ⟨0,by omega,by omega,sl @Nat.zero_add,by(try dsimp only);exact⟨by omega,fun y hy=>by
  have h1:=dp hy
  simp only[go_sem, ↓reduceIte,Nat.reduceEqDiff,Nat.reduceAdd,Nat.reduceSub,Nat.reduceLeDiff,reduceCtorEq,h1],[],[],sl @Nat.zero_add,.nil,List.nodup_nil,fun i hi=>by cases hi⟩⟩ ?_
 rintro n_a env_a st_a ⟨k,rfl,ale,a4,mb⟩ dH
 have a0:=dH 0 (by kernel_rfl);have a3:=dH 3 (by kernel_rfl)
 simp only[go_sem, ↓reduceIte,Nat.reduceEqDiff,Nat.reduceAdd,Nat.reduceSub,Nat.reduceLeDiff,reduceCtorEq]at a0 a3
 clear dH
 obtain⟨an,aK,rows,is,ag,aR,aN⟩:=mb
 have sG:rows.length=k:=by rw[aR.len,List.length_take];omega
 by_cases hk:(k:Int)<(xs.length:Int)
 ·have cE:∀{e:Env} {gg:Rows} {nx:Nat},(e 4=.int .i64 (IntKind.i64.wrap ((k:Int)+1)))->(σ.next+2<=nx/\(∀y:Id,y.ck<σ.next->gg y=σ.get y)/\∃rows is,gg ⟨fk*1000000+1002,σ.next+1⟩=some ⟨true,z,rows++List.replicate (xs.length-(k+1)) (zero.map K.av)⟩/\eG R gg rows (xs.take (k+1)) is/\gp (σ.next+2) nx is)->∃m0,m0<(xs.length)-k/\∃k:Nat,m0=(xs.length)-k/\k<=(xs.length)/\e 4=.int .i64 (k:Int)/\(σ.next+2<=nx/\(∀y:Id,y.ck<σ.next->gg y=σ.get y)/\∃rows is,gg ⟨fk*1000000+1002,σ.next+1⟩=some ⟨true,z,rows++List.replicate (xs.length-k) (zero.map K.av)⟩/\eG R gg rows (xs.take k) is/\gp (σ.next+2) nx is):=fun x1 x2=>⟨_,by omega,k+1,rfl,by omega,(by rw[x1,az (by omega)]),x2⟩
  have fA:k<xs.length:=by omega
  have eQ:(xs.map en)[k]? =some (en xs[k]):=by simp[fA]
  have tT:=hz xs[k]
  have ht:(en xs[k]).take z=en xs[k]:=by rw[<-tT,List.take_length]
  have im:=hg _ (List.getElem_mem fA)
  obtain⟨m,Hx⟩:∃m,xs.length-k=m+1:=⟨xs.length-k-1,by omega⟩
  rw[Hx,List.replicate_succ]at ag
  generalize hex:en xs[k]=c at im eQ tT ht
  (try((repeat(revert hN;revert N;apply Pn.out));refine wk (tw @a4 (tw @a0 (tw @a3 (tw @hk (tw @eQ (tw @tT (tw @ht @Nat.le_refl))))))) ?_;(repeat(refine Pn.mk ?_;intro N hN))))
  refine .inr (aI _ _ _ _ _ (fun r σ1 hq=>?_) (im _))
  obtain⟨cs,ids,rfl,hR,hI,hK⟩:=hq
  obtain⟨g1,x1⟩:=σ1
  (try dsimp only at hR hI hK)
  have AP:=(hK.2 ⟨fk*1000000+1002,σ.next+1⟩ (by(try dsimp only);omega))
  simp only[go_sem, ↓reduceIte,Nat.reduceEqDiff,Nat.reduceAdd,Nat.reduceSub,Nat.reduceLeDiff,reduceCtorEq,ag]at AP
  have nS:=ok.len hR
  have zN:=ok.cell hR
  have fu:(rows++zero.map K.av::List.replicate m (zero.map K.av))[k]? =some (zero.map K.av):=by rw[List.getElem?_append_right (by omega),sG,Nat.sub_self];rfl
  have eJ:(rows++zero.map K.av::List.replicate m (zero.map K.av)).set k cs=rows++[cs]++List.replicate m (zero.map K.av):=Mj sG
  have IE:(zero.map K.av).drop z=[]:=List.drop_of_length_le (by simp[HC])
  have Fc:(rows++zero.map K.av::List.replicate m (zero.map K.av)).length=xs.length:=by simp[sG];omega
  refine hN _ _ ?_
  clear hN N
  (try((repeat(revert hN;revert N;apply Pn.out));refine wk (tw @a4 (tw @a0 (tw @a3 (tw @hk (tw @AP (tw @fu (tw @eJ (tw @Fc (tw @IE (tw @vw (tw @nS (tw @zN (tw @Nat.le_refl @HC))))))))))))) ?_;(repeat(refine Pn.mk ?_;intro N hN))))
  have uw:=hK.1
  have KC:∀i∈is,(i=⟨fk*1000000+1002,σ.next+1⟩)=False:=fun i hi=>eq_false fun e=>by
   have:=(aN.2 i hi).1
   subst e;(try dsimp only at this);omega
  have Gh:∀i∈ids,(i=⟨fk*1000000+1002,σ.next+1⟩)=False:=fun i hi=>eq_false fun e=>by
   have:=(hI.2 i hi).1
   subst e;(try dsimp only at this);omega
  exact cE (sd (tw @a4 (tw @a0 @a3))) (by(try dsimp only at *);exact⟨by omega,fun y hy=>by
   have h1:=dp hy
   have h2:=hK.2 y (by(try dsimp only);omega)
   have h3:=aK y hy
   simp only[go_sem, ↓reduceIte,Nat.reduceEqDiff,Nat.reduceAdd,Nat.reduceSub,Nat.reduceLeDiff,reduceCtorEq]at h2
   simp only[go_sem, ↓reduceIte,Nat.reduceEqDiff,Nat.reduceAdd,Nat.reduceSub,Nat.reduceLeDiff,reduceCtorEq,h1,h2,h3],rows++[cs],is++ids,by
    rw[show xs.length-(k+1)=m by omega]
    simp only[go_sem, ↓reduceIte,Nat.reduceEqDiff,Nat.reduceAdd,Nat.reduceSub,Nat.reduceLeDiff,reduceCtorEq]<;>rfl,by
    rw[List.take_succ_eq_append_getElem fA]
    refine((aR.frame ok fun i hi=>?_).app (.one (ok.frame hR fun i hi=>?_)))
    ·have h1:=KC i hi
     have h2:=hK.2 i (by(try dsimp only);have:=(aN.2 i hi).2;omega)
     simp only[go_sem, ↓reduceIte,Nat.reduceEqDiff,Nat.reduceAdd,Nat.reduceSub,Nat.reduceLeDiff,reduceCtorEq]at h2
     simp only[go_sem, ↓reduceIte,Nat.reduceEqDiff,Nat.reduceAdd,Nat.reduceSub,Nat.reduceLeDiff,reduceCtorEq,h1,h2]
    ·have h1:=Gh i hi
     simp only[go_sem, ↓reduceIte,Nat.reduceEqDiff,Nat.reduceAdd,Nat.reduceSub,Nat.reduceLeDiff,reduceCtorEq,h1],(aN.app hI (by(try dsimp only);omega) (by omega) (by(try dsimp only);omega)).wide (Nat.le_refl _) (by(try dsimp only);omega)⟩)
 ·(try((repeat(revert hN;revert N;apply Pn.out));refine wk (tw @a4 (tw @a0 (tw @a3 @hk))) ?_;(repeat(refine Pn.mk ?_;intro N hN))))
  have fA:k=xs.length:=by omega
  subst fA
  rw[Nat.sub_self,List.replicate_zero,List.append_nil]at ag
  rw[List.take_length]at aR
  refine fx (.inl rfl) (vs:=[.own ⟨fk*1000000+1002,σ.next+1⟩ 0 xs.length]) (sd (tw @a4 (tw @a0 @a3))) ?_
  exact⟨_,⟨_,rows,is,rfl,ag,aR,rfl⟩,⟨List.nodup_cons.2 ⟨fun hi=>by have:=(aN.2 _ hi).1;(try dsimp only at this);omega,aN.1⟩,fun i hi=>by
   rcases List.mem_cons.1 hi with rfl|hi
   ·(try dsimp only);omega
   ·have:=aN.2 i hi;(try dsimp only);omega⟩,⟨by(try dsimp only);omega,fun j hj=>aK j hj⟩⟩
end Go.Proofs.YtgoelphibofcmaaGreat.V

namespace Go.Proofs.YtgoelphibofcmaaGreat.V
open Go.RowKit
attribute [local irreducible] dG wpOps gy Call
attribute [local go_sem] aM fF eP ga fW cQ upd cz K.av cR AV.cells AV.cell rowOf rowsOf part ld rowAt bq cu dD ee ik bJ dh ev fU eX dr ej dd dc dQ dR bQ bf cW bP cY cX eh ek ei cV cj de ef bK aO da cG ij bw cK bU aY dn aZ dE AV.undef bD bG dV ec dM dK cH eu ew cF ep eo cZ db List.getD_cons_zero List.getD_cons_succ List.getD_nil List.all_cons List.all_nil Bool.and_true Bool.true_and Bool.and_self Bool.not_true Bool.not_false Option.map_some Option.map_none Option.bind_some Option.bind_none List.length_cons List.length_nil List.take_succ_cons List.take_zero List.take_nil List.drop_succ_cons List.drop_zero List.drop_nil List.head?_cons List.map_cons List.map_nil List.getElem?_cons_zero List.getElem?_cons_succ List.cons_append List.nil_append List.append_nil List.length_map List.set_cons_zero List.set_cons_succ Nat.reduceMul eq_self Int.toNat_natCast Int.natCast_nonneg and_self true_and and_true decide_true decide_false Bool.false_eq_true Nat.zero_add Nat.add_zero List.contains_cons List.contains_nil Bool.or_false Bool.false_or beq_self_eq_true Nat.reduceBEq ne_eq not_true_eq_false not_false_eq_true Id.mk.injEq false_and and_false Nat.reduceLT Int.reduceLE Int.reduceLT Int.reduceToNat Int.reduceNeg Int.reduceAdd Nat.le_refl List.length_append beq_true beq_false Bool.not_eq_eq_eq_not or_false false_or dL ai aj aH bl bB cw aX bd aU bh cU bH
theorem iD.kQ {α:Type} {R:CG α} {z:Nat} {g:Rows} {a:AV} {xs:List α} {ids:List Id} (h:iD R z g a xs ids):∃o,a=.own o 0 xs.length:=by
 obtain⟨o,rows,is,rfl,_⟩:=h;exact⟨o,rfl⟩
theorem Kg (xs:List Int) (hlen:xs.length<=1048576) (σ:ar):Call Tryz.prog 195 [.sl (xs.map br)] σ (fun r σ'=>∃i,r=.own i 0 xs.length/\σ'.get i=some ⟨true,1,xs.map br⟩/\gp σ.next σ'.next [i]/\Kept σ σ'):=by
 refine eU (show mi Tryz.prog 195=some (Ki 195 (.int .i64 0)) by kernel_rfl) rfl fun hl=>?_
 try simp only[q]
 clear hl
 obtain⟨en,Hu⟩:∃en:Int->List AV,en=br:=⟨_,rfl⟩
 rw[<-Hu]
 have hm:(xs.length:Int)<=((16777216:Nat):Int):=by omega
 have h0:(0:Int)<=(xs.length:Int):=by omega
 (try((repeat(revert hN;revert N;apply Pn.out));refine wk (tw @hm (tw @h0 (tw @Int.le_refl (oF en [AV.int .i64 0] xs)))) ?_;(repeat(refine Pn.mk ?_;intro N hN))))
 refine aW (fun n env st=>∃k:Nat,n=(xs.length)-k/\k<=(xs.length)/\env 4=.int .i64 (k:Int)/\st.get ⟨195*1000000+1002,σ.next+1⟩=some ⟨true,1,gP en [AV.int .i64 0] xs k⟩/\(σ.next+2<=st.next/\∀y:Id,y.ck<σ.next->st.get y=σ.get y)) (xs.length) ⟨0,by omega,by omega,sl @Nat.zero_add,sl @Nat.zero_add,by(try dsimp only);exact⟨by omega,fun y hy=>by
  have h1:=dp hy
  simp only[go_sem, ↓reduceIte,Nat.reduceEqDiff,Nat.reduceAdd,Nat.reduceSub,Nat.reduceLeDiff,reduceCtorEq,h1]⟩⟩ ?_
 rintro n_a env_a st_a ⟨k,rfl,ale,a4,ag0,mb⟩ dH
 have a0:=dH 0 (by kernel_rfl);have a3:=dH 3 (by kernel_rfl)
 simp only[go_sem, ↓reduceIte,Nat.reduceEqDiff,Nat.reduceAdd,Nat.reduceSub,Nat.reduceLeDiff,reduceCtorEq]at a0 a3
 clear dH
 obtain⟨an,aK⟩:=mb
 by_cases hk:(k:Int)<(xs.length:Int)
 ·have cE:∀{e:Env} {gg:Rows} {nx:Nat},(e 4=.int .i64 (IntKind.i64.wrap ((k:Int)+1)))->(gg ⟨195*1000000+1002,σ.next+1⟩=some ⟨true,1,gP en [AV.int .i64 0] xs (k+1)⟩)->(σ.next+2<=nx/\∀y:Id,y.ck<σ.next->gg y=σ.get y)->∃m0,m0<(xs.length)-k/\∃k:Nat,m0=(xs.length)-k/\k<=(xs.length)/\e 4=.int .i64 (k:Int)/\gg ⟨195*1000000+1002,σ.next+1⟩=some ⟨true,1,gP en [AV.int .i64 0] xs k⟩/\(σ.next+2<=nx/\∀y:Id,y.ck<σ.next->gg y=σ.get y):=fun x1 x2 x3=>⟨_,by omega,k+1,rfl,by omega,(by rw[x1,az (by omega)]),x2,x3⟩
  have fA:k<xs.length:=by omega
  have eQ:(xs.map en)[k]? =some [AV.int .i64 xs[k]]:=by simp[fA,Hu,br]
  have fQ:=qq en [AV.int .i64 0] xs fA
  have eJ:=qt en [AV.int .i64 0] xs fA
  rw[show en xs[k]=[AV.int .i64 xs[k]] by rw[Hu];rfl]at eJ
  (try((repeat(revert hN;revert N;apply Pn.out));refine wk (tw @a4 (tw @ag0 (tw @a0 (tw @a3 (tw @hk (tw @eQ (tw @fQ @eJ))))))) ?_;(repeat(refine Pn.mk ?_;intro N hN))))
  refine cE ?_ ?_ (by(try dsimp only);exact⟨by omega,fun y hy=>by
   have h1:=dp hy
   have h3:=aK y hy
   simp only[go_sem, ↓reduceIte,Nat.reduceEqDiff,Nat.reduceAdd,Nat.reduceSub,Nat.reduceLeDiff,reduceCtorEq,h1,h3]⟩)
  all_goals simp only[go_sem, ↓reduceIte,Nat.reduceEqDiff,Nat.reduceAdd,Nat.reduceSub,Nat.reduceLeDiff,reduceCtorEq,a4,ag0,a0,a3]
 ·(try((repeat(revert hN;revert N;apply Pn.out));refine wk (tw @a4 (tw @ag0 (tw @a0 (tw @a3 @hk)))) ?_;(repeat(refine Pn.mk ?_;intro N hN))))
  have fA:k=xs.length:=by omega
  subst fA
  refine fx (.inl rfl) (vs:=[.own ⟨195*1000000+1002,σ.next+1⟩ 0 xs.length]) (sd (tw @a4 (tw @ag0 (tw @a0 @a3)))) ?_
  rw[qp]at ag0
  exact⟨_,rfl,ag0,⟨List.nodup_cons.2 ⟨by simp,List.nodup_nil⟩,fun i hi=>by
   rw[List.mem_singleton.1 hi];(try dsimp only);omega⟩,⟨by(try dsimp only);omega,fun j hj=>aK j hj⟩⟩
theorem Kj (p:eS) (hs:sK p) (σ:ar):Call Tryz.prog 162 [.agg (bE p)] σ (KS ow p σ):=by
 refine eU eC rfl fun hl=>?_
 clear hl
 (try((repeat(revert hN;revert N;apply Pn.out));refine wk @bE.eq_1 ?_;(repeat(refine Pn.mk ?_;intro N hN))))
 refine .inr (aI _ _ _ _ _ (fun r σ1 hq=>?_) (Kg p.bt hs _))
 obtain⟨i,rfl,hg,hI,hK⟩:=hq
 obtain⟨g1,x1⟩:=σ1
 (try dsimp only at hg hI hK)
 have hn:=hK.1
 refine hN _ _ ?_
 clear hN N
 have hi:=hI.2 i (by simp)
 have k2:=hK.2 ⟨162000001,σ.next⟩ (by(try dsimp only);omega)
 have k3:=hK.2 ⟨162001000,σ.next+1⟩ (by(try dsimp only);omega)
 simp only[go_sem, ↓reduceIte,Nat.reduceEqDiff,Nat.reduceAdd,Nat.reduceSub,Nat.reduceLeDiff,reduceCtorEq]at k2 k3
 (try((repeat(revert hN;revert N;apply Pn.out));refine wk (tw @bE.eq_1 (tw @k2 @k3)) ?_;(repeat(refine Pn.mk ?_;intro N hN))))
 refine fx (.inl rfl) (vs:=[.agg [.str p.aC,.own i 0 p.bt.length]]) (sd @Nat.zero_add) ?_
 refine⟨_,[i],rfl,⟨i,rfl,?_,rfl⟩,⟨hI.1,fun j hj=>?_⟩,⟨?_,fun j hj=>?_⟩⟩
 ·have i2:=cr (b:=i) (a:=⟨162000001,σ.next⟩) (by(try dsimp only at *);omega)
  have i3:=cr (b:=i) (a:=⟨162001000,σ.next+1⟩) (by(try dsimp only at *);omega)
  simp only[go_sem, ↓reduceIte,Nat.reduceEqDiff,Nat.reduceAdd,Nat.reduceSub,Nat.reduceLeDiff,reduceCtorEq,i2,i3,hg]
 ·rw[List.mem_singleton.1 hj]
  (try dsimp only at *);omega
 ·(try dsimp only at *);omega
 ·have h2:=hK.2 j (by(try dsimp only);omega)
  have h1:=dp hj
  simp only[go_sem, ↓reduceIte,Nat.reduceEqDiff,Nat.reduceAdd,Nat.reduceSub,Nat.reduceLeDiff,reduceCtorEq,h1]at h2
  simp only[go_sem, ↓reduceIte,Nat.reduceEqDiff,Nat.reduceAdd,Nat.reduceSub,Nat.reduceLeDiff,reduceCtorEq,h1,h2]
theorem Br:xE (lr bI) 2:=Iq (fun _=>rfl) (fun _=>rfl) (by simp[rX])
theorem yp:xE (lr aa) 3:=Iq (fun _=>rfl) (fun _=>rfl) (by simp[rX])
theorem Ke (p:fB) (σ:ar):Call Tryz.prog 161 [.agg (bI p)] σ (KS (lr bI) p σ):=by
 refine eU eC rfl fun hl=>?_
 clear hl
 (try((repeat(revert hN;revert N;apply Pn.out));refine wk @bI.eq_1 ?_;(repeat(refine Pn.mk ?_;intro N hN))))
 refine fx (.inl rfl) (vs:=[.agg (bI p)]) (sd @bI.eq_1) ?_
 exact⟨_,[],rfl,⟨rfl,rfl⟩,⟨List.nodup_nil,fun i hi=>by cases hi⟩,⟨by(try dsimp only);omega,fun j hj=>by
  have h1:=dp hj
  simp only[go_sem, ↓reduceIte,Nat.reduceEqDiff,Nat.reduceAdd,Nat.reduceSub,Nat.reduceLeDiff,reduceCtorEq,h1]⟩⟩
theorem Eu (p:ad) (σ:ar):Call Tryz.prog 104 [.agg (aa p)] σ (KS (lr aa) p σ):=by
 refine eU eC rfl fun hl=>?_
 clear hl
 have h:=zh p.aQ
 rw[ae]at h
 (repeat(first|((repeat(revert hN;revert N;apply Pn.out));refine wk @aa.eq_1 ?_;(repeat(refine Pn.mk ?_;intro N hN)))|((try apply Or.inl);refine⟨_,kn.x (h) _,?_⟩;refine hN _ _ ?_;clear hN N)))
 refine fx (.inl rfl) (vs:=[.agg (aa p)]) (sd @aa.eq_1) ?_
 exact⟨_,[],rfl,⟨rfl,rfl⟩,⟨List.nodup_nil,fun i hi=>by cases hi⟩,⟨by(try dsimp only);omega,fun j hj=>by
  have h1:=dp hj
  simp only[go_sem, ↓reduceIte,Nat.reduceEqDiff,Nat.reduceAdd,Nat.reduceSub,Nat.reduceLeDiff,reduceCtorEq,h1]⟩⟩
theorem Hj (xs:List fB) (h:xs.length<=1048576) (σ:ar):Call Tryz.prog 102 [.sl (xs.map bI)] σ (KT (lr bI) 2 xs σ):=
 Ax Br (show mi Tryz.prog 102=some (ug 102 161 2 [.str [],.int .i64 0]) by kernel_rfl) rfl (fun _=>rfl) xs h (fun x _ σ=>Ke x σ) σ
theorem Hl (xs:List eS) (h:xs.length<=1048576) (hs:∀t∈xs,sK t) (σ:ar):Call Tryz.prog 103 [.sl (xs.map bE)] σ (KT ow 2 xs σ):=
 Ax qU (show mi Tryz.prog 103=some (ug 103 162 2 [.str [],.cm]) by kernel_rfl) rfl (fun _=>rfl) xs h (fun x hx σ=>Kj x (hs x hx) σ) σ
theorem Cx (xs:List ad) (h:xs.length<=1048576) (σ:ar):Call Tryz.prog 62 [.sl (xs.map aa)] σ (KT (lr aa) 3 xs σ):=
 Ax yp (show mi Tryz.prog 62=some (ug 62 104 3 [.int .i64 0,.int .i64 0,.int .i64 0]) by kernel_rfl) rfl (fun _=>rfl) xs h (fun x _ σ=>Eu x σ) σ
def xD (g:Rows) (v:AV) (a:dP) (ids:List Id):Prop:=∃x,v=.agg [x]/\iD (lr aa) 3 g x a.ah ids
structure zp (g:Rows) (v:AV) (s:aA) (ids:List Id):Prop where
 ex:∃a b c i1 i2 i3,v=.agg [a,b,c,.int .i64 s.aB]/\iD (lr bI) 2 g a s.aE.ax i1/\iD ow 2 g b s.aE.ah i2/\iD (lr aa) 3 g c s.bc.ah i3/\ids=i1++(i2++i3)
theorem xD.frame {g g':Rows} {v:AV} {a:dP} {ids:List Id} (h:xD g v a ids) (hf:∀i∈ids,g' i=g i):xD g' v a ids:=by
 obtain⟨x,h1,h2⟩:=h
 exact⟨x,h1,h2.frame yp hf⟩
theorem zp.frame {g g':Rows} {v:AV} {s:aA} {ids:List Id} (h:zp g v s ids) (hf:∀i∈ids,g' i=g i):zp g' v s ids:=by
 obtain⟨a,b,c,i1,i2,i3,h1,h2,h3,h4,rfl⟩:=h.ex
 exact⟨a,b,c,i1,i2,i3,h1,h2.frame Br fun i hi=>hf i (by simp[hi]),h3.frame qU fun i hi=>hf i (by simp[hi]),h4.frame yp fun i hi=>hf i (by simp[hi]),rfl⟩
theorem xD.fz {g:Rows} {v:AV} {a:dP} {ids:List Id} (n:Nat) (h:xD g v a ids):V.fz (dL g) (n+4) v=some (.agg (aP a)):=by
 obtain⟨x,rfl,h2⟩:=h
 have h3:=h2.fz (n:=n+2) (e:=aa) fun hc=>by rw[hc.1];simp[aa,ai,aj,aH]
 simp only[bd,ai,aj,h3,Option.map_some,aP]
theorem zp.fz {g:Rows} {v:AV} {s:aA} {ids:List Id} (n:Nat) (h:zp g v s ids):V.fz (dL g) (n+5) v=some (.agg (aw s)):=by
 obtain⟨a,b,c,i1,i2,i3,rfl,h2,h3,h4,rfl⟩:=h.ex
 have q1:=h2.fz (n:=n+3) (e:=bI) fun hc=>by rw[hc.1];simp[bI,ai,aj,aH,bB]
 have q2:=h3.fz (n:=n+3) (e:=bE) fun hc=>Mr (n+1) hc
 have q3:=h4.fz (n:=n+3) (e:=aa) fun hc=>by rw[hc.1];simp[aa,ai,aj,aH]
 simp only[bd,ai,aj,q1,q2,q3,aH,Option.map_some,aw]
theorem sk (p:dP) (hs:p.ah.length<=1048576) (σ:ar):Call Tryz.prog 18 [.agg (aP p)] σ (fun r σ'=>∃ids,xD σ'.get r p ids/\gp σ.next σ'.next ids/\Kept σ σ'):=by
 refine eU eC rfl fun hl=>?_
 clear hl
 (try((repeat(revert hN;revert N;apply Pn.out));refine wk @aP.eq_1 ?_;(repeat(refine Pn.mk ?_;intro N hN))))
 refine .inr (aI _ _ _ _ _ (fun r σ1 hq=>?_) (Cx p.ah hs _))
 obtain⟨ids,hR,hI,hK⟩:=hq
 obtain⟨g1,x1⟩:=σ1
 (try dsimp only at hR hI hK)
 have hn:=hK.1
 obtain⟨o,rows,is,rfl,hg,TQ,rfl⟩:=hR
 refine hN _ _ ?_
 clear hN N
 have k2:=hK.2 ⟨18000001,σ.next⟩ (by(try dsimp only);omega)
 have k3:=hK.2 ⟨18001000,σ.next+1⟩ (by(try dsimp only);omega)
 simp only[go_sem, ↓reduceIte,Nat.reduceEqDiff,Nat.reduceAdd,Nat.reduceSub,Nat.reduceLeDiff,reduceCtorEq]at k2 k3
 (try((repeat(revert hN;revert N;apply Pn.out));refine wk (tw @aP.eq_1 (tw @k2 @k3)) ?_;(repeat(refine Pn.mk ?_;intro N hN))))
 refine fx (.inl rfl) (vs:=[.agg [.own o 0 p.ah.length]]) (sd @Nat.zero_add) ?_
 have hb:=hI.2
 (try dsimp only at hb hn)
 refine⟨_,⟨_,rfl,iD.frame yp ⟨o,rows,is,rfl,hg,TQ,rfl⟩ fun j hj=>?_⟩,⟨hI.1,fun j hj=>?_⟩,⟨?_,fun j hj=>?_⟩⟩
 ·have Up:=hb j hj
  have i2:=cr (b:=j) (a:=⟨18000001,σ.next⟩) (by(try dsimp only);omega)
  have i3:=cr (b:=j) (a:=⟨18001000,σ.next+1⟩) (by(try dsimp only);omega)
  simp only[go_sem, ↓reduceIte,Nat.reduceEqDiff,Nat.reduceAdd,Nat.reduceSub,Nat.reduceLeDiff,reduceCtorEq,i2,i3]
 ·have:=hb j hj
  (try dsimp only);omega
 ·(try dsimp only);omega
 ·have h2:=hK.2 j (by(try dsimp only);omega)
  have h1:=dp hj
  simp only[go_sem, ↓reduceIte,Nat.reduceEqDiff,Nat.reduceAdd,Nat.reduceSub,Nat.reduceLeDiff,reduceCtorEq,h1]at h2
  simp only[go_sem, ↓reduceIte,Nat.reduceEqDiff,Nat.reduceAdd,Nat.reduceSub,Nat.reduceLeDiff,reduceCtorEq,h1,h2]
theorem Cz (p:au) (hs:HP p) (σ:ar):Call Tryz.prog 61 [.agg (ab p)] σ (fun r σ'=>∃a b i1 i2,r=.agg [a,b]/\iD (lr bI) 2 σ'.get a p.ax i1/\iD ow 2 σ'.get b p.ah i2/\gp σ.next σ'.next (i1++i2)/\Kept σ σ'):=by
 refine eU eC rfl fun hl=>?_
 clear hl
 (try((repeat(revert hN;revert N;apply Pn.out));refine wk @ab.eq_1 ?_;(repeat(refine Pn.mk ?_;intro N hN))))
 refine .inr (aI _ _ _ _ _ (fun r σ1 hq=>?_) (Hj p.ax hs.g _))
 obtain⟨i1,hR,hI,hK⟩:=hq
 obtain⟨g1,x1⟩:=σ1
 (try dsimp only at hR hI hK)
 have hn:=hK.1
 obtain⟨o,rows,is,rfl,hg,TQ,rfl⟩:=hR
 have hb:=hI.2
 (try dsimp only at hb hn)
 refine hN _ _ ?_
 clear hN N
 have k1:=hK.2 ⟨61000000,σ.next⟩ (by(try dsimp only);omega)
 have k2:=hK.2 ⟨61000001,σ.next⟩ (by(try dsimp only);omega)
 have k3:=hK.2 ⟨61001000,σ.next+1⟩ (by(try dsimp only);omega)
 simp only[go_sem, ↓reduceIte,Nat.reduceEqDiff,Nat.reduceAdd,Nat.reduceSub,Nat.reduceLeDiff,reduceCtorEq]at k1 k2 k3
 (try((repeat(revert hN;revert N;apply Pn.out));refine wk (tw @ab.eq_1 (tw @k1 (tw @k2 @k3))) ?_;(repeat(refine Pn.mk ?_;intro N hN))))
 refine .inr (aI _ _ _ _ _ (fun r σ2 hq=>?_) (Hl p.ah hs.t hs.s _))
 obtain⟨i2,hS,hJ,hL⟩:=hq
 obtain⟨g2,x2⟩:=σ2
 (try dsimp only at hS hJ hL)
 have Gq:=hL.1
 obtain⟨o2,Na,is2,rfl,QU,hS',rfl⟩:=hS
 have hc:=hJ.2
 (try dsimp only at hc Gq)
 refine hN _ _ ?_
 clear hN N
 have l2:=hL.2 ⟨61000001,σ.next⟩ (by(try dsimp only);omega)
 have l3:=hL.2 ⟨61001000,σ.next+1⟩ (by(try dsimp only);omega)
 simp only[go_sem, ↓reduceIte,Nat.reduceEqDiff,Nat.reduceAdd,Nat.reduceSub,Nat.reduceLeDiff,reduceCtorEq,k2,k3]at l2 l3
 (try((repeat(revert hN;revert N;apply Pn.out));refine wk (tw @ab.eq_1 (tw @l2 @l3)) ?_;(repeat(refine Pn.mk ?_;intro N hN))))
 refine fx (.inl rfl) (vs:=[.agg [.own o 0 p.ax.length,.own o2 0 p.ah.length]]) (sd @Nat.zero_add) ?_
 have fr:∀x:Id,σ.next+2<=x.ck->(x=⟨61000001,σ.next⟩)=False/\(x=⟨61001000,σ.next+1⟩)=False:=fun x hx=>⟨(cr (a:=⟨61000001,σ.next⟩) (b:=x) (by(try dsimp only);omega)).2,(cr (a:=⟨61001000,σ.next+1⟩) (b:=x) (by(try dsimp only);omega)).2⟩
 refine⟨_,_,_,_,rfl,iD.frame (g:=g1) Br ⟨o,rows,is,rfl,hg,TQ,rfl⟩ fun i hi=>?_,iD.frame (g:=g2) qU ⟨o2,Na,is2,rfl,QU,hS',rfl⟩ fun i hi=>?_,?_,⟨by(try dsimp only);omega,fun j hj=>?_⟩⟩
 ·have h1:=hb i hi
  have h2:=hL.2 i (by(try dsimp only);omega)
  have h3:=fr i (by omega)
  simp only[go_sem, ↓reduceIte,Nat.reduceEqDiff,Nat.reduceAdd,Nat.reduceSub,Nat.reduceLeDiff,reduceCtorEq,h3]at h2
  simp only[go_sem, ↓reduceIte,Nat.reduceEqDiff,Nat.reduceAdd,Nat.reduceSub,Nat.reduceLeDiff,reduceCtorEq,h2,h3]
 ·have h1:=hc i hi
  have h3:=fr i (by omega)
  simp only[go_sem, ↓reduceIte,Nat.reduceEqDiff,Nat.reduceAdd,Nat.reduceSub,Nat.reduceLeDiff,reduceCtorEq,h3]
 ·(try dsimp only at *)
  exact(hI.app hJ (by omega) (by omega) (by omega)).wide (by omega) (by omega)
 ·have h1:=dp hj
  have h2:=hL.2 j (by(try dsimp only);omega)
  have h3:=hK.2 j (by(try dsimp only);omega)
  simp only[go_sem, ↓reduceIte,Nat.reduceEqDiff,Nat.reduceAdd,Nat.reduceSub,Nat.reduceLeDiff,reduceCtorEq,h1]at h2 h3
  simp only[go_sem, ↓reduceIte,Nat.reduceEqDiff,Nat.reduceAdd,Nat.reduceSub,Nat.reduceLeDiff,reduceCtorEq,h1,h2,h3]
theorem Ey (p:aA) (hs:rh p) (σ:ar):Call Tryz.prog 17 [.agg (aw p)] σ (fun r σ'=>∃ids,zp σ'.get r p ids/\gp σ.next σ'.next ids/\Kept σ σ'):=by
 refine eU eC rfl fun hl=>?_
 clear hl
 have t1:=fun σ=>Cz p.aE hs.s σ
 have t2:=fun σ=>sk p.bc hs.a σ
 rw[ab]at t1
 rw[aP]at t2
 (try((repeat(revert hN;revert N;apply Pn.out));refine wk @aw.eq_1 ?_;(repeat(refine Pn.mk ?_;intro N hN))))
 refine .inr (aI _ _ _ _ _ (fun r σ1 hq=>?_) (t1 _))
 obtain⟨a,b,i1,i2,rfl,hA,hB,hI,hK⟩:=hq
 obtain⟨g1,x1⟩:=σ1
 (try dsimp only at hA hB hI hK)
 have hn:=hK.1
 have hb:=hI.2
 (try dsimp only at hb hn)
 refine hN _ _ ?_
 clear hN N
 have k1:=hK.2 ⟨17000000,σ.next⟩ (by(try dsimp only);omega)
 have k2:=hK.2 ⟨17000001,σ.next⟩ (by(try dsimp only);omega)
 have k3:=hK.2 ⟨17001000,σ.next+1⟩ (by(try dsimp only);omega)
 simp only[go_sem, ↓reduceIte,Nat.reduceEqDiff,Nat.reduceAdd,Nat.reduceSub,Nat.reduceLeDiff,reduceCtorEq]at k1 k2 k3
 obtain⟨oa,rfl⟩:=hA.kQ
 obtain⟨ob,rfl⟩:=hB.kQ
 (try((repeat(revert hN;revert N;apply Pn.out));refine wk (tw @aw.eq_1 (tw @k1 (tw @k2 @k3))) ?_;(repeat(refine Pn.mk ?_;intro N hN))))
 refine .inr (aI _ _ _ _ _ (fun r σ2 hq=>?_) (t2 _))
 obtain⟨i3,hC,hJ,hL⟩:=hq
 obtain⟨g2,x2⟩:=σ2
 (try dsimp only at hC hJ hL)
 have Gq:=hL.1
 have hc:=hJ.2
 (try dsimp only at hc Gq)
 obtain⟨c,rfl,hC⟩:=hC
 obtain⟨oc,rfl⟩:=hC.kQ
 refine hN _ _ ?_
 clear hN N
 have l1:=hL.2 ⟨17000000,σ.next⟩ (by(try dsimp only);omega)
 have l2:=hL.2 ⟨17000001,σ.next⟩ (by(try dsimp only);omega)
 have l3:=hL.2 ⟨17001000,σ.next+1⟩ (by(try dsimp only);omega)
 simp only[go_sem, ↓reduceIte,Nat.reduceEqDiff,Nat.reduceAdd,Nat.reduceSub,Nat.reduceLeDiff,reduceCtorEq,k1,k2,k3]at l1 l2 l3
 (try((repeat(revert hN;revert N;apply Pn.out));refine wk (tw @aw.eq_1 (tw @l1 (tw @l2 @l3))) ?_;(repeat(refine Pn.mk ?_;intro N hN))))
 refine fx (.inl rfl) (vs:=[.agg [.own oa 0 p.aE.ax.length,.own ob 0 p.aE.ah.length,.own oc 0 p.bc.ah.length,.int .i64 p.aB]]) (sd @Nat.zero_add) ?_
 have fr:∀x:Id,σ.next+2<=x.ck->(x=⟨17000001,σ.next⟩)=False/\(x=⟨17001000,σ.next+1⟩)=False:=fun x hx=>⟨(cr (a:=⟨17000001,σ.next⟩) (b:=x) (by(try dsimp only);omega)).2,(cr (a:=⟨17001000,σ.next+1⟩) (b:=x) (by(try dsimp only);omega)).2⟩
 have fr2:∀i∈i1++i2,g2 i=g1 i:=fun i hi=>by
  have h1:=hb i hi
  have h2:=hL.2 i (by(try dsimp only);omega)
  have h3:=fr i (by omega)
  simp only[go_sem, ↓reduceIte,Nat.reduceEqDiff,Nat.reduceAdd,Nat.reduceSub,Nat.reduceLeDiff,reduceCtorEq,h3]at h2
  exact h2
 refine⟨i1++(i2++i3),⟨_,_,_,i1,i2,i3,rfl,hA.frame Br fun i hi=>?_,hB.frame qU fun i hi=>?_,hC.frame yp fun i hi=>?_,rfl⟩,?_,⟨by(try dsimp only);omega,fun j hj=>?_⟩⟩
 ·have h1:=hb i (by simp[hi])
  have h2:=fr2 i (by simp[hi])
  have h3:=fr i (by omega)
  simp only[go_sem, ↓reduceIte,Nat.reduceEqDiff,Nat.reduceAdd,Nat.reduceSub,Nat.reduceLeDiff,reduceCtorEq,h2,h3]
 ·have h1:=hb i (by simp[hi])
  have h2:=fr2 i (by simp[hi])
  have h3:=fr i (by omega)
  simp only[go_sem, ↓reduceIte,Nat.reduceEqDiff,Nat.reduceAdd,Nat.reduceSub,Nat.reduceLeDiff,reduceCtorEq,h2,h3]
 ·have h1:=hc i hi
  have h3:=fr i (by omega)
  simp only[go_sem, ↓reduceIte,Nat.reduceEqDiff,Nat.reduceAdd,Nat.reduceSub,Nat.reduceLeDiff,reduceCtorEq,h3]
 ·(try dsimp only at *)
  rw[<-List.append_assoc]
  exact(hI.app hJ (by omega) (by omega) (by omega)).wide (by omega) (by omega)
 ·have h1:=dp hj
  have h2:=hL.2 j (by(try dsimp only);omega)
  have h3:=hK.2 j (by(try dsimp only);omega)
  simp only[go_sem, ↓reduceIte,Nat.reduceEqDiff,Nat.reduceAdd,Nat.reduceSub,Nat.reduceLeDiff,reduceCtorEq,h1]at h2 h3
  simp only[go_sem, ↓reduceIte,Nat.reduceEqDiff,Nat.reduceAdd,Nat.reduceSub,Nat.reduceLeDiff,reduceCtorEq,h1,h2,h3]
end Go.Proofs.YtgoelphibofcmaaGreat.V

namespace Go.Proofs.YtgoelphibofcmaaGreat
open Go.RowKit
def kS (n:Int):Bool:=(decide (97<=n)&&decide (n<=122))||(decide (65<=n)&&decide (n<=90))
def lj (n:Int):Bool:=decide (48<=n)&&decide (n<=57)
def uk (i:Nat) (n:Int):Prop:=kS n=true∨(0<i/\(lj n=true∨n=95))
def vk (s:ByteArray):Prop:=(1<=s.size/\s.size<=12)/\∀i (h:i<s.size),uk i s[i].toNat
open Classical in
noncomputable def jK (s:ByteArray):Bool:=decide (vk s)
theorem DU {s:ByteArray} (h:vk s):true=jK s:=by simp[jK,h]
theorem dZ {s:ByteArray} (h:¬vk s):false=jK s:=by simp[jK,h]
theorem Cc {s:ByteArray} {b:Bool} (hb:b=true) (h:vk s):b=jK s:=by simp[jK,h,hb]
theorem rY {s:ByteArray} {b:Bool} (hb:b=false) (h:¬vk s):b=jK s:=by simp[jK,h,hb]
theorem wI (w:World) (n:Int):Calls Tryz.prog 212 #[.int .u8 n] w fun e w'=>e=.returned (.bool (kS n))/\w=w':=by
 go_enter Tryz.func212,Tryz.ntmps212
 go_wp2_with fail
 all_goals
  go_ret
  exact⟨iE (by unfold kS;simp[*];try omega),rfl⟩
theorem F5 (w:World) (n:Int):Calls Tryz.prog 213 #[.int .u8 n] w fun e w'=>e=.returned (.bool (lj n))/\w=w':=by
 go_enter Tryz.func213,Tryz.ntmps213
 go_wp2_with fail
 all_goals
  go_ret
  exact⟨iE (by unfold lj;simp[*];try omega),rfl⟩
theorem Cp (w:World) (s:ByteArray) (hs:s.size<=9223372036854775807):Calls Tryz.prog 189 #[.string s] w fun e w'=>e=.returned (.bool (jK s))/\Below w.heap.size w w':=by
 by_cases h1:1<=s.size
 case neg=>
  go_enter Tryz.func189,Tryz.ntmps189
  go_wp2_with fail
  go_ret
  exact⟨iE (dZ fun h=>h1 h.1.1),Below.refl _ _⟩
 by_cases h2:s.size<=12
 case neg=>
  go_enter Tryz.func189,Tryz.ntmps189
  go_wp2_with fail
  go_ret
  exact⟨iE (dZ fun h=>h2 h.1.2),Below.refl _ _⟩
 go_enter Tryz.func189,Tryz.ntmps189
 go_wp2_with fail
 refine(wI _ _).mono ?_
 rintro e w' ⟨rfl,rfl⟩
 cases h3:kS s[0].toNat
 ·go_wp2_with fail
  go_ret
  exact⟨iE (dZ fun h=>by have:=h.2 0 (by omega);simp only[uk]at this;rw[h3]at this;simp at this),Below.refl _ _⟩
 ·replace h3:=Lib.hid h3
  go_wp2_with fail
  go_loop [3] (fun i=>∃k:Nat,1<=k/\k<=s.size/\i=.int .i64 k/\Hid (∀j (h:j<s.size),j<k->uk j s[j].toNat)) (fun i=>s.size-(intOf i).toNat)
  case atStart=>exact⟨1,by omega,by omega,rfl,Lib.hid fun j h hj=>by
   obtain rfl:j=0:=by omega
   exact .inl h3.out⟩
  case round=>
   obtain⟨k,xC,hk,rfl,dI⟩:=hrel
   by_cases dS:k<s.size
   ·go_wp2_with fail
    refine(wI _ _).mono ?_
    rintro e w' ⟨rfl,rfl⟩
    have lk:uk k s[k].toNat∨¬uk k s[k].toNat:=Classical.em _
    cases hl:kS s[k].toNat
    ·go_wp2_with fail
     refine(F5 _ _).mono ?_
     rintro e w' ⟨rfl,rfl⟩
     cases hd:lj s[k].toNat
     ·by_cases uL:(s[k].toNat:Int)=95
      ·have Tz:((s[k].toNat:Int) !=95)=false:=by simp;omega
       replace uL:=Lib.hid uL
       replace hl:=Lib.hid hl
       replace hd:=Lib.hid hd
       go_wp2_with fail
       go_round
       case rel=>exact⟨k+1,by omega,by omega,by go_num,Lib.hid fun j h hj=>by
        by_cases yC:j=k
        ·subst yC;exact .inr ⟨by omega,.inr uL.out⟩
        ·exact dI.out j h (by omega)⟩
       case measure=>simp[intOf];omega
      ·have Tz:((s[k].toNat:Int) !=95)=true:=by simp;omega
       replace uL:=Lib.hid uL
       replace hl:=Lib.hid hl
       replace hd:=Lib.hid hd
       go_wp2_with fail
       go_ret
       exact⟨iE (dZ fun h=>by
        have:=h.2 k dS;simp only[uk,hl.out,hd.out]at this;exact uL.out (by simp at this;exact this.2)),Below.refl _ _⟩
     ·replace hl:=Lib.hid hl
      replace hd:=Lib.hid hd
      go_wp2_with fail
      go_round
      case rel=>exact⟨k+1,by omega,by omega,by go_num,Lib.hid fun j h hj=>by
       by_cases yC:j=k
       ·subst yC;exact .inr ⟨by omega,.inl hd.out⟩
       ·exact dI.out j h (by omega)⟩
      case measure=>simp[intOf];omega
    ·replace hl:=Lib.hid hl
     go_wp2_with fail
     go_round
     case rel=>exact⟨k+1,by omega,by omega,by go_num,Lib.hid fun j h hj=>by
      by_cases yC:j=k
      ·subst yC;exact .inl hl.out
      ·exact dI.out j h (by omega)⟩
     case measure=>simp[intOf];omega
   ·go_wp2_with fail
    go_ret
    exact⟨iE (DU ⟨⟨h1,h2⟩,fun i h=>dI.out i h (by omega)⟩),Below.refl _ _⟩
theorem BN (w:World) (s:ByteArray) (hs:s.size<=9223372036854775807):Calls Tryz.prog 198 #[.string s] w fun e w'=>e=.returned (.bool (jK s))/\w=w':=by
 go_enter Tryz.func198,Tryz.ntmps198
 go_wp2_with fail
 go_loop [8] (fun i=>∃k:Nat,k<=s.size/\i=.int .i64 k/\Hid (∀j (h:j<s.size),j<k->uk j s[j].toNat)) (fun i=>s.size-(intOf i).toNat)
 case atStart=>exact⟨0,by omega,rfl,Lib.hid fun j h hj=>by omega⟩
 case round=>
  obtain⟨k,hk,rfl,dI⟩:=hrel
  by_cases dS:k<s.size
  ·have hc:(s[k].toNat:Int)<48∨(48<=(s[k].toNat:Int)/\(s[k].toNat:Int)<=57)∨(58<=(s[k].toNat:Int)/\(s[k].toNat:Int)<=64)∨(65<=(s[k].toNat:Int)/\(s[k].toNat:Int)<=90)∨(91<=(s[k].toNat:Int)/\(s[k].toNat:Int)<=94)∨(95<=(s[k].toNat:Int)/\(s[k].toNat:Int)<=95)∨(96<=(s[k].toNat:Int)/\(s[k].toNat:Int)<=96)∨(97<=(s[k].toNat:Int)/\(s[k].toNat:Int)<=122)∨123<=(s[k].toNat:Int):=by omega
   by_cases xz:k=0
   ·subst xz
    rcases hc with h|⟨h,h'⟩|⟨h,h'⟩|⟨h,h'⟩|⟨h,h'⟩|⟨h,h'⟩|⟨h,h'⟩|⟨h,h'⟩|h
    ·have uL:((s[0].toNat:Int) !=95)=true:=by simp;try omega
     go_wp2_with fail
     all_goals first
      |(go_ret;exact⟨iE (dZ fun hh=>by have:=hh.2 0 dS;simp[uk,kS,lj]at this;omega),rfl⟩)
      |(exfalso;simp_all;done)
      |(exfalso;simp_all;omega)
    ·have uL:((s[0].toNat:Int) !=95)=true:=by simp;try omega
     go_wp2_with fail
     all_goals first
      |(go_ret;exact⟨iE (dZ fun hh=>by have:=hh.2 0 dS;simp[uk,kS,lj]at this;omega),rfl⟩)
      |(exfalso;simp_all;done)
      |(exfalso;simp_all;omega)
    ·have uL:((s[0].toNat:Int) !=95)=true:=by simp;try omega
     go_wp2_with fail
     all_goals first
      |(go_ret;exact⟨iE (dZ fun hh=>by have:=hh.2 0 dS;simp[uk,kS,lj]at this;omega),rfl⟩)
      |(exfalso;simp_all;done)
      |(exfalso;simp_all;omega)
    ·have uL:((s[0].toNat:Int) !=95)=true:=by simp;try omega
     go_wp2_with fail
     go_round
     case rel=>exact⟨0+1,by omega,by go_num,Lib.hid fun j hj yC=>by
      by_cases IM:j=0
      ·subst IM;simp[uk,kS,lj];omega
      ·exact dI.out j hj (by omega)⟩
     case measure=>simp[intOf];try omega
    ·have uL:((s[0].toNat:Int) !=95)=true:=by simp;try omega
     go_wp2_with fail
     all_goals first
      |(go_ret;exact⟨iE (dZ fun hh=>by have:=hh.2 0 dS;simp[uk,kS,lj]at this;omega),rfl⟩)
      |(exfalso;simp_all;done)
      |(exfalso;simp_all;omega)
    ·have uL:((s[0].toNat:Int) !=95)=false:=by simp;try omega
     go_wp2_with fail
     all_goals first
      |(go_ret;exact⟨iE (dZ fun hh=>by have:=hh.2 0 dS;simp[uk,kS,lj]at this;omega),rfl⟩)
      |(exfalso;simp_all;done)
      |(exfalso;simp_all;omega)
    ·have uL:((s[0].toNat:Int) !=95)=true:=by simp;try omega
     go_wp2_with fail
     all_goals first
      |(go_ret;exact⟨iE (dZ fun hh=>by have:=hh.2 0 dS;simp[uk,kS,lj]at this;omega),rfl⟩)
      |(exfalso;simp_all;done)
      |(exfalso;simp_all;omega)
    ·have uL:((s[0].toNat:Int) !=95)=true:=by simp;try omega
     go_wp2_with fail
     go_round
     case rel=>exact⟨0+1,by omega,by go_num,Lib.hid fun j hj yC=>by
      by_cases IM:j=0
      ·subst IM;simp[uk,kS,lj];omega
      ·exact dI.out j hj (by omega)⟩
     case measure=>simp[intOf];try omega
    ·have uL:((s[0].toNat:Int) !=95)=true:=by simp;try omega
     go_wp2_with fail
     all_goals first
      |(go_ret;exact⟨iE (dZ fun hh=>by have:=hh.2 0 dS;simp[uk,kS,lj]at this;omega),rfl⟩)
      |(exfalso;simp_all;done)
      |(exfalso;simp_all;omega)
   ·have hz:((k:Int)==0)=false:=by simpa using xz
    have xC:1<=k:=by omega
    clear xz
    rcases hc with h|⟨h,h'⟩|⟨h,h'⟩|⟨h,h'⟩|⟨h,h'⟩|⟨h,h'⟩|⟨h,h'⟩|⟨h,h'⟩|h
    ·have uL:((s[k].toNat:Int) !=95)=true:=by simp;try omega
     go_wp2_with fail
     all_goals first
      |(go_ret;exact⟨iE (dZ fun hh=>by have:=hh.2 k dS;simp[uk,kS,lj]at this;omega),rfl⟩)
      |(exfalso;simp_all;done)
      |(exfalso;simp_all;omega)
    ·have uL:((s[k].toNat:Int) !=95)=true:=by simp;try omega
     go_wp2_with fail
     go_round
     case rel=>exact⟨k+1,by omega,by go_num,Lib.hid fun j hj yC=>by
      by_cases IM:j=k
      ·subst IM;simp[uk,kS,lj];omega
      ·exact dI.out j hj (by omega)⟩
     case measure=>simp[intOf];try omega
    ·have uL:((s[k].toNat:Int) !=95)=true:=by simp;try omega
     go_wp2_with fail
     all_goals first
      |(go_ret;exact⟨iE (dZ fun hh=>by have:=hh.2 k dS;simp[uk,kS,lj]at this;omega),rfl⟩)
      |(exfalso;simp_all;done)
      |(exfalso;simp_all;omega)
    ·have uL:((s[k].toNat:Int) !=95)=true:=by simp;try omega
     go_wp2_with fail
     go_round
     case rel=>exact⟨k+1,by omega,by go_num,Lib.hid fun j hj yC=>by
      by_cases IM:j=k
      ·subst IM;simp[uk,kS,lj];omega
      ·exact dI.out j hj (by omega)⟩
     case measure=>simp[intOf];try omega
    ·have uL:((s[k].toNat:Int) !=95)=true:=by simp;try omega
     go_wp2_with fail
     all_goals first
      |(go_ret;exact⟨iE (dZ fun hh=>by have:=hh.2 k dS;simp[uk,kS,lj]at this;omega),rfl⟩)
      |(exfalso;simp_all;done)
      |(exfalso;simp_all;omega)
    ·have uL:((s[k].toNat:Int) !=95)=false:=by simp;try omega
     go_wp2_with fail
     go_round
     case rel=>exact⟨k+1,by omega,by go_num,Lib.hid fun j hj yC=>by
      by_cases IM:j=k
      ·subst IM;simp[uk,kS,lj];omega
      ·exact dI.out j hj (by omega)⟩
     case measure=>simp[intOf];try omega
    ·have uL:((s[k].toNat:Int) !=95)=true:=by simp;try omega
     go_wp2_with fail
     all_goals first
      |(go_ret;exact⟨iE (dZ fun hh=>by have:=hh.2 k dS;simp[uk,kS,lj]at this;omega),rfl⟩)
      |(exfalso;simp_all;done)
      |(exfalso;simp_all;omega)
    ·have uL:((s[k].toNat:Int) !=95)=true:=by simp;try omega
     go_wp2_with fail
     go_round
     case rel=>exact⟨k+1,by omega,by go_num,Lib.hid fun j hj yC=>by
      by_cases IM:j=k
      ·subst IM;simp[uk,kS,lj];omega
      ·exact dI.out j hj (by omega)⟩
     case measure=>simp[intOf];try omega
    ·have uL:((s[k].toNat:Int) !=95)=true:=by simp;try omega
     go_wp2_with fail
     all_goals first
      |(go_ret;exact⟨iE (dZ fun hh=>by have:=hh.2 k dS;simp[uk,kS,lj]at this;omega),rfl⟩)
      |(exfalso;simp_all;done)
      |(exfalso;simp_all;omega)
  ·by_cases h1:1<=s.size
   ·by_cases h2:s.size<=12
    ·go_wp2_with fail
     go_ret
     exact⟨iE (Cc (by simp<;>omega) ⟨⟨h1,h2⟩,fun i h=>dI.out i h (by omega)⟩),rfl⟩
    ·go_wp2_with fail
     go_ret
     exact⟨iE (rY (by simp<;>omega) fun h=>h2 h.1.2),rfl⟩
   ·go_wp2_with fail
    go_ret
    exact⟨iE (rY (by simp<;>omega) fun h=>h1 h.1.1),rfl⟩
end Go.Proofs.YtgoelphibofcmaaGreat

namespace Go.Proofs.YtgoelphibofcmaaGreat.V
open Go.RowKit
theorem mixed:Tryz.prog.follows .mixedOrders=true:=by kernel_rfl
variable {P:Program} {w:World} {D:Nat->Prop} {ι:Names}
theorem lV {f:Nat} {args:List AV} {r:AV} {vs0:Array Value} {u0:Value} (nG:∀(w:World) (D:Nat->Prop) (ι:Names) vs,fe P w D ι args vs->vs=vs0) (hr:∀(w:World) (D:Nat->Prop) (ι:Names),cI P w D ι r u0) (CJ:∀g,gx g 6 r=some r)
  (h:∀w,Calls P f vs0 w fun e w'=>e=.returned u0/\Below w.heap.size w w'):aq P f args r:=by
 intro n
 refine gN fun hs D ι w vs S U A=>?_
 have:=nG w D ι vs A
 subst this
 refine(h w).mono ?_
 rintro e w' ⟨rfl,hb⟩
 exact⟨r,_,n,D,ι,u0,rfl,⟨r,CJ _,rfl⟩,Step.stay S hb.block hb.size hb.os hb.tape hb.output (fun _ h=>h) (fun _ h=>.inl h) (fun _ _ h=>h),
  S.stay hb.block hb.size (fun _ h=>h) (fun b hd=>Nat.lt_of_lt_of_le (S.dead b hd) hb.size) (fun _ h=>.inl h) (fun _ _ h=>h),U,Nat.le_refl _,hr _ _ _⟩
theorem Cm {s:ByteArray} {vs:Array Value} (h:fe P w D ι [.str s] vs):vs= #[.string s]:=by
 obtain⟨h1,h2⟩:=h
 obtain⟨u,hu,hr⟩:=h2 0 _ rfl
 rw[fC hr]at hu
 obtain⟨l⟩:=vs
 cases l with
 |nil=>simp at h1
 |cons a l=>cases l with
  |nil=>simp at hu;subst hu;rfl
  |cons b l=>simp at h1
theorem FC (s:ByteArray) (hs:s.size<=9223372036854775807):aq Tryz.prog 189 [.str s] (.bool (jK s)):=
 lV (fun _ _ _ _=>Cm) (fun _ _ _=>.eM _ _ (.bool _)) (fun g=>fJ g 5 _) fun w=>Cp w s hs
theorem Fp (s:ByteArray) (hs:s.size<=9223372036854775807):aq Tryz.prog 198 [.str s] (.bool (jK s)):=
 lV (fun _ _ _ _=>Cm) (fun _ _ _=>.eM _ _ (.bool _)) (fun g=>fJ g 5 _) fun w=>(BN w s hs).mono (by rintro e w' ⟨rfl,rfl⟩;exact⟨rfl,Below.refl _ _⟩)
end Go.Proofs.YtgoelphibofcmaaGreat.V

namespace Go.Proofs.YtgoelphibofcmaaGreat
open Go.RowKit
def uo (n:Nat):List UInt8:=if h:n=0 then[]else uo (n / 10)++[UInt8.ofNat (48+n % 10)]
termination_by n
decreasing_by omega
def oV (k:Int):ByteArray:=if k<=0 then⟨#[109,48]⟩else⟨(109::uo k.toNat).toArray⟩
theorem F6:uo 0=[]:=by unfold uo;simp
theorem Ia {n:Nat} (h:n≠0):uo n=uo (n / 10)++[UInt8.ofNat (48+n % 10)]:=by
 conv=>lhs;unfold uo
 rw[dif_neg h]
theorem ym (c:UInt8) (l:ByteArray):((⟨#[c]⟩++l:ByteArray)).data.toList=c::l.data.toList:=by
 simp[ByteArray.data_append]
theorem Bk:∀(m n:Nat),n<10 ^ m->(uo n).length<=m
 |0,n,h=>by
  have:n=0:=by simpa using h
  subst this;simp[uo]
 |m+1,n,h=>by
  unfold uo
  split
  ·simp
  ·have:=Bk m (n / 10) (by rw[Nat.pow_succ]at h;omega)
   simp;omega
theorem z8 (w:World) (k:Int) (h0:0<=k) (h1:k<=4611686018427387904):
  Calls Tryz.prog 179 #[.int .i64 k] w fun e w'=>e=.returned (.string (oV k))/\Below w.heap.size w w':=by
 by_cases hk:k<=0
 ·go_enter Tryz.func179,Tryz.ntmps179
  go_wp2_with fail
  go_ret
  exact⟨by simp[oV,hk],Below.refl _ _⟩
 ·go_enter Tryz.func179,Tryz.ntmps179
  go_wp2_with fail
  go_loopw [0,3] (fun a s wr=>∃(j:Int) (l:ByteArray),a=.int .i64 j/\s=.string l/\0<=j/\j<=4611686018427387904/\Hid (uo j.toNat++l.data.toList=uo k.toNat)/\Below w.heap.size w wr) (fun a _ _=>(intOf a).toNat)
  case atStart=>exact⟨k,⟨#[]⟩,rfl,rfl,h0,h1,Lib.hid (by simp),Below.refl _ _⟩
  case round=>
   obtain⟨j,l,rfl,rfl,hj0,hj1,hd,hb⟩:=hrel
   have fS:l.size<=19:=by
    have h1:=congrArg List.length hd.out
    have h2:=Bk 19 k.toNat (by omega)
    rw[List.length_append]at h1
    have:l.data.toList.length=l.size:=by rw[Array.length_toList];rfl
    omega
   by_cases hj:0<j
   ·have Sz:∀v:Int,(convert 241 9 (.slice (some ⟨wr.heap.size,0,none⟩) 1 1)).run Tryz.prog (wr.alloc (.cells #[.int .u8 v] 5))=.ok (.string ⟨#[UInt8.ofNat v.toNat]⟩) (wr.alloc (.cells #[.int .u8 v] 5)):=by
     intro v
     rw[run_convert_bytes_string _ _ _ 5 _ _ _ Tryz.underlying241 Tryz.underlying5 Tryz.underlying9,run_bytesToString _ _ _ _ [v] (by simp[loadCells,loadCellsFrom,go_sem])]
     rfl
    have hr:=fS
    go_wp2_with fail
    go_roundw
    case rel=>
     refine⟨_,_,rfl,rfl,by omega,by omega,Lib.hid ?_,hb.alloc hb.size _⟩
     rw[<-hd.out,ym,Ia (show j.toNat≠0 by omega),show(j / 10).toNat=j.toNat / 10 by omega,show(48+j % 10).toNat=48+j.toNat % 10 by omega]
     simp
    case measure=>simp[intOf];omega
   ·go_wp2_with fail
    go_ret
    refine⟨?_,hb⟩
    have h1:=hd.out
    rw[show j.toNat=0 by omega,F6,List.nil_append]at h1
    have h2:(⟨#[109]⟩++l:ByteArray)=oV k:=by
     rw[oV,if_neg (by omega)]
     refine ByteArray.ext (Array.ext' ?_)
     rw[ym,h1]
    rw[h2];rfl
end Go.Proofs.YtgoelphibofcmaaGreat

namespace Go.Proofs.YtgoelphibofcmaaGreat.V
open Go.RowKit
attribute [local irreducible] dG wpOps gy Call
attribute [local go_sem] aM fF eP ga fW cQ upd cz K.av cR AV.cells AV.cell rowOf rowsOf part ld rowAt bq cu dD ee ik bJ dh ev fU eX dr ej dd dc dQ dR bQ bf cW bP cY cX eh ek ei cV cj de ef bK aO da cG ij bw cK bU aY dn aZ dE AV.undef bD bG dV ec dM dK cH eu ew cF ep eo cZ db List.getD_cons_zero List.getD_cons_succ List.getD_nil List.all_cons List.all_nil Bool.and_true Bool.true_and Bool.and_self Bool.not_true Bool.not_false Option.map_some Option.map_none Option.bind_some Option.bind_none List.length_cons List.length_nil List.take_succ_cons List.take_zero List.take_nil List.drop_succ_cons List.drop_zero List.drop_nil List.head?_cons List.map_cons List.map_nil List.getElem?_cons_zero List.getElem?_cons_succ List.cons_append List.nil_append List.append_nil List.length_map List.set_cons_zero List.set_cons_succ Nat.reduceMul eq_self Int.toNat_natCast Int.natCast_nonneg and_self true_and and_true decide_true decide_false Bool.false_eq_true Nat.zero_add Nat.add_zero List.contains_cons List.contains_nil Bool.or_false Bool.false_or beq_self_eq_true Nat.reduceBEq ne_eq not_true_eq_false not_false_eq_true Id.mk.injEq false_and and_false Nat.reduceLT Int.reduceLE Int.reduceLT Int.reduceToNat Int.reduceNeg Int.reduceAdd Nat.le_refl List.length_append beq_true beq_false Bool.not_eq_eq_eq_not or_false false_or dL ai aj aH bl bB cw aX bd aU bh cU bH
def qY (σ:ar) (ids:List Id) (g:Rows) (n:Nat):Prop:=σ.next<=n/\∀x:Id,x.ck<σ.next->x∉ids->g x=σ.get x
theorem qY.trans {a b:ar} {i j:List Id} {g:Rows} {n:Nat} (h:qY a i b.get b.next) (k:qY b j g n):qY a (i++j) g n:=
 ⟨Nat.le_trans h.1 k.1,fun x hx hi=>(k.2 x (Nat.lt_of_lt_of_le hx h.1) fun hc=>hi (by simp[hc])).trans (h.2 x hx fun hc=>hi (by simp[hc]))⟩
theorem qY.sub {a:ar} {i j:List Id} {g:Rows} {n:Nat} (h:qY a i g n) (hs:∀x∈i,x∈j):qY a j g n:=⟨h.1,fun x hx hj=>h.2 x hx fun hi=>hj (hs x hi)⟩
theorem xe (l:List (List AV)) (i:Nat) (a b:List AV):(l.set i a).set i b=l.set i b:=List.set_set ..
theorem Ib {l:List Int} {j:Nat} (h:j<l.length):(l.map br)[j]? =some [.int .i64 l[j]]:=by simp[h,br]
theorem Me {P:Program} {w:World} {D:Nat->Prop} {ι:Names} {k:Int} {vs:Array Value} (h:fe P w D ι [.int .i64 k] vs):vs= #[.int .i64 k]:=by
 obtain⟨h1,h2⟩:=h
 obtain⟨u,hu,hr⟩:=h2 0 _ rfl
 rw[dq hr]at hu
 obtain⟨l⟩:=vs
 cases l with
 |nil=>simp at h1
 |cons a l=>cases l with
  |nil=>simp at hu;subst hu;rfl
  |cons b l=>simp at h1
theorem wJ (k:Int) (h0:0<=k) (h1:k<=4611686018427387904):aq Tryz.prog 179 [.int .i64 k] (.str (oV k)):=
 lV (vs0:= #[.int .i64 k]) (u0:=.string (oV k)) (fun _ _ _ _=>Me) (fun w D ι=>.eM _ _ (.str _)) (fun g=>Le g 5 _) fun w=>z8 w k h0 h1
theorem DS (i:Id) (l:List Int) (k:Int) (h0:0<=k) (h1:k+l.length<=4611686018427387904) (σ:ar) (hv:i.ck<σ.next) (hg:σ.get i=some ⟨true,1,l.map br⟩):
  Call Tryz.prog 33 [.own i 0 l.length,.int .i64 k] σ (fun r σ'=>r=.int .i64 (k+l.length)/\qY σ [i] σ'.get σ'.next):=by
 refine eU eC rfl fun hl=>?_
 clear hl
 obtain⟨nn,hn⟩:∃nn,l.length=nn:=⟨_,rfl⟩
 rw[hn]at h1 ⊢
 (try((repeat(revert hN;revert N;apply Pn.out));refine wk @Nat.zero_add ?_;(repeat(refine Pn.mk ?_;intro N hN))))
 refine aW (fun n env st=>∃j:Nat,n=(nn)-j/\j<=(nn)/\env 5=.int .i64 (j:Int)/\env 1=.int .i64 (k+j)/\(qY σ [i] st.get st.next/\∃l':List Int,l'.length=nn/\st.get i=some ⟨true,1,l'.map br⟩)) (nn) ⟨0,by omega,by omega,sl (tw @Int.add_zero @Int.natCast_zero),sl (tw @Int.add_zero @Int.natCast_zero),by(try dsimp only);exact⟨⟨by(try dsimp only);omega,fun x _ _=>rfl⟩,l,hn,hg⟩⟩ ?_
 rintro n_a env_a st_a ⟨j,rfl,ale,a5,a1,mb⟩ dH
 have a0:=dH 0 (by kernel_rfl)
 simp only[go_sem, ↓reduceIte,Nat.reduceEqDiff,Nat.reduceAdd,Nat.reduceSub,Nat.reduceLeDiff,reduceCtorEq,Int.add_zero,Int.natCast_zero]at a0
 clear dH
 obtain⟨⟨an,aF⟩,l',al,ag⟩:=mb
 by_cases hj:(j:Int)<(nn:Int)
 ·have cE:∀{e:Env} {gg:Rows} {nx:Nat},(e 5=.int .i64 (IntKind.i64.wrap ((j:Int)+1)))->(e 1=.int .i64 (k+(j+1)))->(qY σ [i] gg nx/\∃l':List Int,l'.length=nn/\gg i=some ⟨true,1,l'.map br⟩)->∃m0,m0<(nn)-j/\∃j:Nat,m0=(nn)-j/\j<=(nn)/\e 5=.int .i64 (j:Int)/\e 1=.int .i64 (k+j)/\(qY σ [i] gg nx/\∃l':List Int,l'.length=nn/\gg i=some ⟨true,1,l'.map br⟩):=fun x1 x2 x3=>⟨_,by omega,j+1,rfl,by omega,(by rw[x1,az (by omega)]),x2,x3⟩
  have jB:j<l'.length:=by omega
  have fu:=Ib jB
  have eJ:(l'.map br).set j [.int .i64 (k+j)]=(l'.set j (k+j)).map br:=by rw[List.map_set];rfl
  have hw:IntKind.i64.wrap (k+(j:Int)+1)=k+((j:Int)+1):=by rw[bF (by omega)];omega
  (try((repeat(revert hN;revert N;apply Pn.out));refine wk (tw @a5 (tw @a1 (tw @a0 (tw @hj (tw @ag (tw @fu (tw @eJ @hw))))))) ?_;(repeat(refine Pn.mk ?_;intro N hN))))
  refine cE ?_ ?_ (by(try dsimp only);exact⟨⟨by(try dsimp only);omega,fun x hx hi=>by
   have h2:=aF x hx hi
   have h3:(x=i)=False:=eq_false fun e=>hi (by simp[e])
   simp only[go_sem, ↓reduceIte,Nat.reduceEqDiff,Nat.reduceAdd,Nat.reduceSub,Nat.reduceLeDiff,reduceCtorEq,h2,h3]⟩,l'.set j (k+j),by simp[al],sl @Nat.zero_add⟩)
  all_goals simp only[go_sem, ↓reduceIte,Nat.reduceEqDiff,Nat.reduceAdd,Nat.reduceSub,Nat.reduceLeDiff,reduceCtorEq,a5,a1,a0,hw]
 ·have jB:j=nn:=by omega
  subst jB
  (try((repeat(revert hN;revert N;apply Pn.out));refine wk (tw @a5 (tw @a1 (tw @a0 @hj))) ?_;(repeat(refine Pn.mk ?_;intro N hN))))
  exact fx (.inl rfl) (vs:=[.int .i64 (k+j)]) (sd (tw @a5 (tw @a1 @a0))) ⟨rfl,⟨by(try dsimp only);omega,fun x hx hi=>aF x hx hi⟩⟩
def AS (k:Int) (n:Nat):List ad:=(List.range n).map fun j:Nat=>⟨⟨k+3*(j:Int),k+3*(j:Int)+1⟩,k+3*(j:Int)+2⟩
theorem iy (k:Int) (n:Nat):(AS k n).length=n:=by simp[AS]
theorem Jq (k:Int) (n:Nat):AS k (n+1)=AS k n++[⟨⟨k+3*(n:Int),k+3*(n:Int)+1⟩,k+3*(n:Int)+2⟩]:=by simp[AS,List.range_succ]
def nj (k:Int) (l:List ad) (j:Nat):List ad:=AS k j++l.drop j
theorem Jr {k:Int} {l:List ad} {j:Nat} (h:j<=l.length):(nj k l j).length=l.length:=by simp[nj,iy];omega
theorem LX {k:Int} {l:List ad} {j:Nat} (h:j<l.length):((nj k l j).map aa)[j]? =some [.int .i64 l[j].aQ.eZ,.int .i64 l[j].aQ.eT,.int .i64 l[j].aV]:=by
 rw[List.getElem?_map,nj,List.getElem?_append_right (by rw[iy];omega),iy,Nat.sub_self,List.getElem?_drop,Nat.add_zero,List.getElem?_eq_getElem h];rfl
theorem Js {k:Int} {l:List ad} {j:Nat} (h:j<l.length):((nj k l j).map aa).set j [.int .i64 (k+3*(j:Int)),.int .i64 (k+3*(j:Int)+1),.int .i64 (k+3*(j:Int)+2)]=(nj k l (j+1)).map aa:=by
 have:(nj k l j).set j ⟨⟨k+3*(j:Int),k+3*(j:Int)+1⟩,k+3*(j:Int)+2⟩=nj k l (j+1):=by
  rw[nj,List.set_append_right _ _ (by rw[iy];omega),iy,Nat.sub_self,List.drop_eq_getElem_cons h,List.set_cons_zero,nj,Jq,List.append_assoc];rfl
 rw[<-this,List.map_set];rfl
theorem rV (i:Id) (l:List ad) (k:Int) (h0:0<=k) (h1:k+3*l.length<=4611686018427387904) (σ:ar) (hv:i.ck<σ.next) (hg:σ.get i=some ⟨true,3,l.map aa⟩):
  Call Tryz.prog 77 [.own i 0 l.length,.int .i64 k] σ (fun r σ'=>r=.int .i64 (k+3*l.length)/\qY σ [i] σ'.get σ'.next/\σ'.get i=some ⟨true,3,(AS k l.length).map aa⟩):=by
 refine eU eC rfl fun hl=>?_
 clear hl
 have hz:nj k l 0=l:=by simp[nj,AS]
 (try((repeat(revert hN;revert N;apply Pn.out));refine wk @Nat.zero_add ?_;(repeat(refine Pn.mk ?_;intro N hN))))
 refine aW (fun n env st=>∃j:Nat,n=(l.length)-j/\j<=(l.length)/\env 5=.int .i64 (j:Int)/\env 1=.int .i64 (k+3*j)/\st.get i=some ⟨true,3,(nj k l j).map aa⟩/\(qY σ [i] st.get st.next)) (l.length) ⟨0,by omega,by omega,sl (tw @Int.add_zero (tw @Int.natCast_zero (tw @Int.mul_zero (tw @hz @hg)))),sl (tw @Int.add_zero (tw @Int.natCast_zero (tw @Int.mul_zero (tw @hz @hg)))),sl (tw @Int.add_zero (tw @Int.natCast_zero (tw @Int.mul_zero (tw @hz @hg)))),by(try dsimp only);exact⟨by(try dsimp only);omega,fun x _ _=>rfl⟩⟩ ?_
 rintro n_a env_a st_a ⟨j,rfl,ale,a5,a1,ag0,mb⟩ dH
 have a0:=dH 0 (by kernel_rfl)
 simp only[go_sem, ↓reduceIte,Nat.reduceEqDiff,Nat.reduceAdd,Nat.reduceSub,Nat.reduceLeDiff,reduceCtorEq,Int.add_zero,Int.natCast_zero,Int.mul_zero,hz,hg]at a0
 clear dH
 obtain⟨an,aF⟩:=mb
 by_cases hj:(j:Int)<(l.length:Int)
 ·have cE:∀{e:Env} {gg:Rows} {nx:Nat},(e 5=.int .i64 (IntKind.i64.wrap ((j:Int)+1)))->(e 1=.int .i64 (k+3*(j+1)))->(gg i=some ⟨true,3,(nj k l (j+1)).map aa⟩)->(qY σ [i] gg nx)->∃m0,m0<(l.length)-j/\∃j:Nat,m0=(l.length)-j/\j<=(l.length)/\e 5=.int .i64 (j:Int)/\e 1=.int .i64 (k+3*j)/\gg i=some ⟨true,3,(nj k l j).map aa⟩/\(qY σ [i] gg nx):=fun x1 x2 x3 x4=>⟨_,by omega,j+1,rfl,by omega,(by rw[x1,az (by omega)]),x2,x3,x4⟩
  have jB:j<l.length:=by omega
  have fu:=LX (k:=k) jB
  have eJ:=Js (k:=k) jB
  have od:IntKind.i64.wrap (k+3*(j:Int)+1)=k+3*(j:Int)+1:=bF (by omega)
  have pr:IntKind.i64.wrap (k+3*(j:Int)+1+1)=k+3*(j:Int)+2:=by rw[bF (by omega)];omega
  have M4:IntKind.i64.wrap (k+3*(j:Int)+2+1)=k+3*((j:Int)+1):=by rw[bF (by omega)];omega
  have hlen:((nj k l j).map aa).length=l.length:=by rw[List.length_map,Jr (by omega)]
  have Lo:∀c:List AV,(((nj k l j).map aa).set j c)[j]? =some c:=fun c=>by rw[List.getElem?_set_self (by rw[hlen];exact jB)]
  (try((repeat(revert hN;revert N;apply Pn.out));refine wk (tw @a5 (tw @a1 (tw @ag0 (tw @a0 (tw @hj (tw @fu (tw @Lo (tw @eJ (tw @od (tw @pr (tw @M4 (tw @hlen @xe)))))))))))) ?_;(repeat(refine Pn.mk ?_;intro N hN))))
  refine cE ?_ ?_ ?_ (by(try dsimp only);exact⟨by(try dsimp only);omega,fun x hx hi=>by
   have h2:=aF x hx hi
   have h3:(x=i)=False:=eq_false fun e=>hi (by simp[e])
   simp only[go_sem, ↓reduceIte,Nat.reduceEqDiff,Nat.reduceAdd,Nat.reduceSub,Nat.reduceLeDiff,reduceCtorEq,h2,h3]⟩)
  all_goals simp only[go_sem, ↓reduceIte,Nat.reduceEqDiff,Nat.reduceAdd,Nat.reduceSub,Nat.reduceLeDiff,reduceCtorEq,a5,a1,ag0,a0,M4,eJ]
 ·have jB:j=l.length:=by omega
  subst jB
  (try((repeat(revert hN;revert N;apply Pn.out));refine wk (tw @a5 (tw @a1 (tw @ag0 (tw @a0 @hj)))) ?_;(repeat(refine Pn.mk ?_;intro N hN))))
  have lI:nj k l l.length=AS k l.length:=by simp[nj]
  rw[lI]at ag0
  exact fx (.inl rfl) (vs:=[.int .i64 (k+3*l.length)]) (sd (tw @a5 (tw @a1 (tw @ag0 @a0)))) ⟨rfl,⟨by(try dsimp only);omega,fun x hx hi=>aF x hx hi⟩,ag0⟩
theorem B7 (i:Id) (l:List fB) (k:Int) (h0:0<=k) (h1:k+2*l.length<=4611686018427387904) (σ:ar) (hv:i.ck<σ.next) (hg:σ.get i=some ⟨true,2,l.map bI⟩):
  Call Tryz.prog 131 [.own i 0 l.length,.int .i64 k] σ (fun r σ'=>r=.int .i64 (k+2*l.length)/\qY σ [i] σ'.get σ'.next):=by
 refine eU eC rfl fun hl=>?_
 clear hl
 obtain⟨nn,hn⟩:∃nn,l.length=nn:=⟨_,rfl⟩
 rw[hn]at h1 ⊢
 (try((repeat(revert hN;revert N;apply Pn.out));refine wk @Nat.zero_add ?_;(repeat(refine Pn.mk ?_;intro N hN))))
 refine aW (fun n env st=>∃j:Nat,n=(nn)-j/\j<=(nn)/\env 5=.int .i64 (j:Int)/\env 1=.int .i64 (k+2*j)/\(qY σ [i] st.get st.next/\∃l':List fB,l'.length=nn/\st.get i=some ⟨true,2,l'.map bI⟩)) (nn) ⟨0,by omega,by omega,sl (tw @Int.add_zero (tw @Int.natCast_zero @Int.mul_zero)),sl (tw @Int.add_zero (tw @Int.natCast_zero @Int.mul_zero)),by(try dsimp only);exact⟨⟨by(try dsimp only);omega,fun x _ _=>rfl⟩,l,hn,hg⟩⟩ ?_
 rintro n_a env_a st_a ⟨j,rfl,ale,a5,a1,mb⟩ dH
 have a0:=dH 0 (by kernel_rfl)
 simp only[go_sem, ↓reduceIte,Nat.reduceEqDiff,Nat.reduceAdd,Nat.reduceSub,Nat.reduceLeDiff,reduceCtorEq,Int.add_zero,Int.natCast_zero,Int.mul_zero]at a0
 clear dH
 obtain⟨⟨an,aF⟩,l',al,ag⟩:=mb
 by_cases hj:(j:Int)<(nn:Int)
 ·have cE:∀{e:Env} {gg:Rows} {nx:Nat},(e 5=.int .i64 (IntKind.i64.wrap ((j:Int)+1)))->(e 1=.int .i64 (k+2*(j+1)))->(qY σ [i] gg nx/\∃l':List fB,l'.length=nn/\gg i=some ⟨true,2,l'.map bI⟩)->∃m0,m0<(nn)-j/\∃j:Nat,m0=(nn)-j/\j<=(nn)/\e 5=.int .i64 (j:Int)/\e 1=.int .i64 (k+2*j)/\(qY σ [i] gg nx/\∃l':List fB,l'.length=nn/\gg i=some ⟨true,2,l'.map bI⟩):=fun x1 x2 x3=>⟨_,by omega,j+1,rfl,by omega,(by rw[x1,az (by omega)]),x2,x3⟩
  have jB:j<l'.length:=by omega
  have fu:(l'.map bI)[j]? =some [.str l'[j].aC,.int .i64 l'[j].ez]:=by simp[jB,bI]
  have hlen:(l'.map bI).length=nn:=by rw[List.length_map,al]
  have Lo:∀c:List AV,((l'.map bI).set j c)[j]? =some c:=fun c=>by rw[List.getElem?_set_self (by rw[List.length_map];exact jB)]
  have ht:=wJ (k+2*(j:Int)) (by omega) (by omega)
  have od:IntKind.i64.wrap (k+2*(j:Int)+1)=k+2*(j:Int)+1:=bF (by omega)
  have pr:IntKind.i64.wrap (k+2*(j:Int)+1+1)=k+2*((j:Int)+1):=by rw[bF (by omega)];omega
  generalize oV (k+2*(j:Int))=mt at ht
  have eJ:(l'.map bI).set j [.str mt,.int .i64 (k+2*(j:Int)+1)]=(l'.set j ⟨mt,k+2*(j:Int)+1⟩).map bI:=by rw[List.map_set];rfl
  (repeat(first|((repeat(revert hN;revert N;apply Pn.out));refine wk (tw @a5 (tw @a1 (tw @a0 (tw @hj (tw @ag (tw @fu (tw @Lo (tw @eJ (tw @od (tw @pr (tw @hlen @xe))))))))))) ?_;(repeat(refine Pn.mk ?_;intro N hN)))|((try apply Or.inl);refine⟨_,aq.x (ht) (sd (tw @a5 (tw @a1 (tw @a0 (tw @hj (tw @ag (tw @fu (tw @Lo (tw @eJ (tw @od (tw @pr (tw @hlen @xe)))))))))))),?_⟩;refine hN _ _ ?_;clear hN N)))
  refine cE ?_ ?_ (by(try dsimp only);exact⟨⟨by(try dsimp only);omega,fun x hx hi=>by
   have h2:=aF x hx hi
   have h3:(x=i)=False:=eq_false fun e=>hi (by simp[e])
   simp only[go_sem, ↓reduceIte,Nat.reduceEqDiff,Nat.reduceAdd,Nat.reduceSub,Nat.reduceLeDiff,reduceCtorEq,h2,h3]⟩,l'.set j ⟨mt,k+2*(j:Int)+1⟩,by simp[al],sl @Nat.zero_add⟩)
  all_goals simp only[go_sem, ↓reduceIte,Nat.reduceEqDiff,Nat.reduceAdd,Nat.reduceSub,Nat.reduceLeDiff,reduceCtorEq,a5,a1,a0,pr,eJ]
 ·have jB:j=nn:=by omega
  subst jB
  (try((repeat(revert hN;revert N;apply Pn.out));refine wk (tw @a5 (tw @a1 (tw @a0 @hj))) ?_;(repeat(refine Pn.mk ?_;intro N hN))))
  exact fx (.inl rfl) (vs:=[.int .i64 (k+2*j)]) (sd (tw @a5 (tw @a1 @a0))) ⟨rfl,⟨by(try dsimp only);omega,fun x hx hi=>aF x hx hi⟩⟩
end Go.Proofs.YtgoelphibofcmaaGreat.V

namespace Go.Proofs.YtgoelphibofcmaaGreat.V
open Go.RowKit
attribute [local irreducible] dG wpOps gy Call
attribute [local go_sem] aM fF eP ga fW cQ upd cz K.av cR AV.cells AV.cell rowOf rowsOf part ld rowAt bq cu dD ee ik bJ dh ev fU eX dr ej dd dc dQ dR bQ bf cW bP cY cX eh ek ei cV cj de ef bK aO da cG ij bw cK bU aY dn aZ dE AV.undef bD bG dV ec dM dK cH eu ew cF ep eo cZ db List.getD_cons_zero List.getD_cons_succ List.getD_nil List.all_cons List.all_nil Bool.and_true Bool.true_and Bool.and_self Bool.not_true Bool.not_false Option.map_some Option.map_none Option.bind_some Option.bind_none List.length_cons List.length_nil List.take_succ_cons List.take_zero List.take_nil List.drop_succ_cons List.drop_zero List.drop_nil List.head?_cons List.map_cons List.map_nil List.getElem?_cons_zero List.getElem?_cons_succ List.cons_append List.nil_append List.append_nil List.length_map List.set_cons_zero List.set_cons_succ Nat.reduceMul eq_self Int.toNat_natCast Int.natCast_nonneg and_self true_and and_true decide_true decide_false Bool.false_eq_true Nat.zero_add Nat.add_zero List.contains_cons List.contains_nil Bool.or_false Bool.false_or beq_self_eq_true Nat.reduceBEq ne_eq not_true_eq_false not_false_eq_true Id.mk.injEq false_and and_false Nat.reduceLT Int.reduceLE Int.reduceLT Int.reduceToNat Int.reduceNeg Int.reduceAdd Nat.le_refl List.length_append beq_true beq_false Bool.not_eq_eq_eq_not or_false false_or dL ai aj aH bl bB cw aX bd aU bh cU bH
theorem iD.flat {α:Type} {e:α->List AV} {z:Nat} {g:Rows} {a:AV} {xs:List α} {ids:List Id} (h:iD (lr e) z g a xs ids):∃o,a=.own o 0 xs.length/\g o=some ⟨true,z,xs.map e⟩/\ids=[o]:=by
 obtain⟨o,rows,is,h1,h2,h3,rfl⟩:=h
 have:∀{rows:List (List AV)} {xs:List α} {is:List Id},eG (lr e) g rows xs is->rows=xs.map e/\is=[]:=fun h=>by
  induction h with
  |nil=>exact⟨rfl,rfl⟩
  |cons h1 _ ih=>obtain⟨rfl,rfl⟩:=h1;obtain⟨rfl,rfl⟩:=ih;exact⟨rfl,rfl⟩
 obtain⟨rfl,rfl⟩:=this h3
 exact⟨o,h1,h2,rfl⟩
def gG (t:eS):Nat:=1+t.bt.length
theorem B8 (a:AV) (l:List eS) (ids:List Id) (k:Int) (h0:0<=k) (Lu:l.length<=1048576) (h1:k+(l.map gG).sum<=4611686018427387904) (σ:ar) (hv:∀i∈ids,i.ck<σ.next) (mm:ids.Nodup) (hg:iD ow 2 σ.get a l ids):
  Call Tryz.prog 132 [a,.int .i64 k] σ (fun r σ'=>r=.int .i64 (k+(l.map gG).sum)/\qY σ ids σ'.get σ'.next):=by
 obtain⟨o,rows,is,rfl,ho,hR,rfl⟩:=hg
 refine eU eC rfl fun hl=>?_
 clear hl
 have uR:=hv o (by simp)
 have DE:=mJ gG l
 (try((repeat(revert hN;revert N;apply Pn.out));refine wk @Nat.zero_add ?_;(repeat(refine Pn.mk ?_;intro N hN))))
 refine aW (fun n env st=>∃j:Nat,n=(l.length)-j/\j<=(l.length)/\env 5=.int .i64 (j:Int)/\env 1=.int .i64 (k+iH gG l j)/\(qY σ (o::is) st.get st.next/\∃pre rest ir,st.get o=some ⟨true,2,pre++rest⟩/\pre.length=j/\eG ow st.get rest (l.drop j) ir/\(o::ir).Nodup/\∀i∈ir,i∈is)) (l.length) ⟨0,by omega,by omega,sl (tw @Int.add_zero (tw @Int.natCast_zero @DE)),sl (tw @Int.add_zero (tw @Int.natCast_zero @DE)),by(try dsimp only);exact⟨⟨by(try dsimp only);omega,fun x _ _=>rfl⟩,[],rows,is,ho,rfl,hR,mm,fun _ h=>h⟩⟩ ?_
 rintro n_a env_a st_a ⟨j,rfl,ale,a5,a1,mb⟩ dH
 have a0:=dH 0 (by kernel_rfl)
 simp only[go_sem, ↓reduceIte,Nat.reduceEqDiff,Nat.reduceAdd,Nat.reduceSub,Nat.reduceLeDiff,reduceCtorEq,Int.add_zero,Int.natCast_zero,DE]at a0
 clear dH
 obtain⟨⟨an,aF⟩,pre,rest,ir,ag,apl,aR,aN,aS⟩:=mb
 by_cases hj:(j:Int)<(l.length:Int)
 ·have cE:∀{e:Env} {gg:Rows} {nx:Nat},(e 5=.int .i64 (IntKind.i64.wrap ((j:Int)+1)))->(e 1=.int .i64 (k+iH gG l (j+1)))->(qY σ (o::is) gg nx/\∃pre rest ir,gg o=some ⟨true,2,pre++rest⟩/\pre.length=(j+1)/\eG ow gg rest (l.drop (j+1)) ir/\(o::ir).Nodup/\∀i∈ir,i∈is)->∃m0,m0<(l.length)-j/\∃j:Nat,m0=(l.length)-j/\j<=(l.length)/\e 5=.int .i64 (j:Int)/\e 1=.int .i64 (k+iH gG l j)/\(qY σ (o::is) gg nx/\∃pre rest ir,gg o=some ⟨true,2,pre++rest⟩/\pre.length=j/\eG ow gg rest (l.drop j) ir/\(o::ir).Nodup/\∀i∈ir,i∈is):=fun x1 x2 x3=>⟨_,by omega,j+1,rfl,by omega,(by rw[x1,az (by omega)]),x2,x3⟩
  have jB:j<l.length:=by omega
  have OC:=xi gG jB
  have hle:=qh gG l (j+1)
  obtain⟨t,htj⟩:∃t,l[j]=t:=⟨_,rfl⟩
  rw[List.drop_eq_getElem_cons jB,htj]at aR
  rw[htj]at OC
  cases aR with
  | @cons cs _ ic rs _ i2 hT QB=>
  obtain⟨i,rfl,hi,rfl⟩:=hT
  rw[List.singleton_append]at aN aS
  obtain⟨n1,n2⟩:=List.nodup_cons.1 aN
  obtain⟨n3,n4⟩:=List.nodup_cons.1 n2
  have PW:(o=i)=False:=eq_false fun e=>n1 (by simp[e])
  have PR:(i=o)=False:=eq_false fun e=>n1 (by simp[e])
  have hiv:i.ck<σ.next:=hv i (by simp[aS i (by simp)])
  have Q3:gG t=1+t.bt.length:=rfl
  have ht:=wJ (k+(iH gG l j:Nat)) (by omega) (by omega)
  have od:IntKind.i64.wrap (k+(iH gG l j:Nat)+1)=k+(iH gG l j:Nat)+1:=bF (by omega)
  generalize oV (k+(iH gG l j:Nat))=mt at ht
  have fu:(pre++[.str t.aC,.own i 0 t.bt.length]::rs)[j]? =some [.str t.aC,.own i 0 t.bt.length]:=by subst apl;simp
  have eJ:(pre++[.str t.aC,.own i 0 t.bt.length]::rs).set j [.str mt,.own i 0 t.bt.length]=pre++[.str mt,.own i 0 t.bt.length]::rs:=by subst apl;simp
  have MP:(pre++[.str mt,.own i 0 t.bt.length]::rs)[j]? =some [.str mt,.own i 0 t.bt.length]:=by subst apl;simp
  (repeat(first|((repeat(revert hN;revert N;apply Pn.out));refine wk (tw @a5 (tw @a1 (tw @a0 (tw @hj (tw @ag (tw @fu (tw @eJ (tw @MP (tw @od (tw @PW (tw @PR @hi))))))))))) ?_;(repeat(refine Pn.mk ?_;intro N hN)))|((try apply Or.inl);refine⟨_,aq.x (ht) (sd (tw @a5 (tw @a1 (tw @a0 (tw @hj (tw @ag (tw @fu (tw @eJ (tw @MP (tw @od (tw @PW (tw @PR @hi)))))))))))),?_⟩;refine hN _ _ ?_;clear hN N)))
  refine .inr (aI _ _ _ _ _ (fun r σ1 hq=>?_) (DS i t.bt (k+(iH gG l j:Nat)+1) (by omega) (by omega) _ (by(try dsimp only);omega) (sd (tw @PW (tw @PR @hi)))))
  obtain⟨g1,x1⟩:=σ1
  obtain⟨rfl,Fg,qG⟩:=hq
  (try dsimp only at Fg qG)
  refine hN _ _ ?_
  clear hN N
  have Ur:k+(iH gG l j:Nat)+1+t.bt.length=k+(iH gG l (j+1):Nat):=by omega
  (try((repeat(revert hN;revert N;apply Pn.out));refine wk (tw @a5 (tw @a1 (tw @a0 @Ur))) ?_;(repeat(refine Pn.mk ?_;intro N hN))))
  have gk:∀x:Id,x.ck<σ.next->x≠o->x≠i->g1 x=st_a.get x:=fun x hx h3 h4=>by
   have h2:=qG x (by(try dsimp only);omega) (by simp[h4])
   have h5:=eq_false h3
   simp only[go_sem, ↓reduceIte,Nat.reduceEqDiff,Nat.reduceAdd,Nat.reduceSub,Nat.reduceLeDiff,reduceCtorEq,h5]at h2
   exact h2
  have go:=qG o (by(try dsimp only);omega) (by simp only[List.mem_singleton];exact fun e=>n1 (by simp[e]))
  simp only[go_sem, ↓reduceIte,Nat.reduceEqDiff,Nat.reduceAdd,Nat.reduceSub,Nat.reduceLeDiff,reduceCtorEq]at go
  refine cE ?_ ?_ (by(try dsimp only);exact⟨⟨by(try dsimp only);omega,fun x hx hi=>by
   have h3:x≠o:=fun e=>hi (by simp[e])
   have h4:x≠i:=fun e=>hi (by simp[e,aS i (by simp)])
   rw[gk x hx h3 h4]
   exact aF x hx hi⟩,pre++[[.str mt,.own i 0 t.bt.length]],rs,i2,by rw[go];simp,by simp[apl],QB.frame qU (fun x hx=>gk x (hv x (by simp[aS x (by simp[hx])])) (fun e=>n1 (by simp[<-e,hx])) (fun e=>n3 (by rw[<-e];exact hx))),List.nodup_cons.2 ⟨fun h=>n1 (by simp[h]),n4⟩,fun x hx=>aS x (by simp[hx])⟩)
  all_goals simp only[go_sem, ↓reduceIte,Nat.reduceEqDiff,Nat.reduceAdd,Nat.reduceSub,Nat.reduceLeDiff,reduceCtorEq,a5,a1,a0,Ur]
 ·have jB:j=l.length:=by omega
  subst jB
  have dI:=Ct gG l
  rw[dI]at a1
  (try((repeat(revert hN;revert N;apply Pn.out));refine wk (tw @a5 (tw @a1 (tw @a0 @hj))) ?_;(repeat(refine Pn.mk ?_;intro N hN))))
  exact fx (.inl rfl) (vs:=[.int .i64 (k+(l.map gG).sum)]) (sd (tw @a5 (tw @a1 @a0))) ⟨rfl,⟨by(try dsimp only);omega,fun x hx hi=>aF x hx hi⟩⟩
theorem yS (v:AV) (p:dP) (ids:List Id) (k:Int) (h0:0<=k) (h1:k+3*p.ah.length<=4611686018427387904) (σ:ar) (hv:∀i∈ids,i.ck<σ.next) (hg:xD σ.get v p ids):
  Call Tryz.prog 32 [v,.int .i64 k] σ (fun r σ'=>r=.int .i64 (k+3*p.ah.length)/\qY σ ids σ'.get σ'.next):=by
 obtain⟨c,rfl,hc⟩:=hg
 obtain⟨o,rfl,ho,rfl⟩:=hc.flat
 refine eU eC rfl fun hl=>?_
 clear hl
 have uR:=dp (hv o (by simp))
 have Ly:=hv o (by simp)
 (try((repeat(revert hN;revert N;apply Pn.out));refine wk @Nat.zero_add ?_;(repeat(refine Pn.mk ?_;intro N hN))))
 refine .inr (aI _ _ _ _ _ (fun r σ1 hq=>?_) (rV o p.ah k h0 h1 _ (by(try dsimp only);omega) (sd (tw @uR @ho))))
 obtain⟨g1,x1⟩:=σ1
 obtain⟨rfl,⟨Fg,qG⟩,_⟩:=hq
 (try dsimp only at Fg qG)
 refine hN _ _ ?_
 clear hN N
 (try((repeat(revert hN;revert N;apply Pn.out));refine wk @Nat.zero_add ?_;(repeat(refine Pn.mk ?_;intro N hN))))
 exact fx (.inl rfl) (vs:=[.int .i64 (k+3*p.ah.length)]) (sd @Nat.zero_add) ⟨rfl,⟨by(try dsimp only);omega,fun x hx hi=>by
  have h2:=qG x (by(try dsimp only);omega) hi
  have h3:=dp hx
  simp only[go_sem, ↓reduceIte,Nat.reduceEqDiff,Nat.reduceAdd,Nat.reduceSub,Nat.reduceLeDiff,reduceCtorEq,h3]at h2
  exact h2⟩⟩
def B6 (s:aA):Nat:=2*s.aE.ax.length+(s.aE.ah.map gG).sum+3*s.bc.ah.length
theorem GN (a b:AV) (p:au) (i1 i2:List Id) (k:Int) (h0:0<=k) (Lu:p.ah.length<=1048576) (h1:k+2*p.ax.length+(p.ah.map gG).sum<=4611686018427387904) (σ:ar) (hv:∀i∈i1++i2,i.ck<σ.next) (mm:(i1++i2).Nodup)
  (hA:iD (lr bI) 2 σ.get a p.ax i1) (hB:iD ow 2 σ.get b p.ah i2):
  Call Tryz.prog 76 [.agg [a,b],.int .i64 k] σ (fun r σ'=>r=.int .i64 (k+2*p.ax.length+(p.ah.map gG).sum)/\qY σ (i1++i2) σ'.get σ'.next):=by
 obtain⟨_,n2,n3⟩:=List.nodup_append.1 mm
 obtain⟨o,rfl,ho,rfl⟩:=hA.flat
 obtain⟨ob,rfl⟩:=hB.kQ
 refine eU eC rfl fun hl=>?_
 clear hl
 have Ly:=hv o (by simp)
 have uR:=dp Ly
 (try((repeat(revert hN;revert N;apply Pn.out));refine wk @Nat.zero_add ?_;(repeat(refine Pn.mk ?_;intro N hN))))
 refine .inr (aI _ _ _ _ _ (fun r σ1 hq=>?_) (B7 o p.ax k h0 (by omega) _ (by(try dsimp only);omega) (sd (tw @uR @ho))))
 obtain⟨g1,x1⟩:=σ1
 obtain⟨rfl,Fg,qG⟩:=hq
 (try dsimp only at Fg qG)
 refine hN _ _ ?_
 clear hN N
 have k1:=qG ⟨76000000,σ.next⟩ (by(try dsimp only);omega) (by simp only[List.mem_singleton];intro e;rw[<-e]at Ly;(try dsimp only at Ly);omega)
 simp only[go_sem, ↓reduceIte,Nat.reduceEqDiff,Nat.reduceAdd,Nat.reduceSub,Nat.reduceLeDiff,reduceCtorEq]at k1
 (try((repeat(revert hN;revert N;apply Pn.out));refine wk @k1 ?_;(repeat(refine Pn.mk ?_;intro N hN))))
 have hf:∀x:Id,x.ck<σ.next->x≠o->g1 x=σ.get x:=fun x hx ho=>by
  have h2:=qG x (by(try dsimp only);omega) (by simp[ho])
  have h3:=dp hx
  simp only[go_sem, ↓reduceIte,Nat.reduceEqDiff,Nat.reduceAdd,Nat.reduceSub,Nat.reduceLeDiff,reduceCtorEq,h3]at h2
  exact h2
 refine .inr (aI _ _ _ _ _ (fun r σ2 hq=>?_) (B8 _ p.ah i2 (k+2*p.ax.length) (by omega) Lu h1 _ (fun i hi=>by have:=hv i (by simp[hi]);(try dsimp only);omega) n2 (hB.frame qU fun i hi=>hf i (hv i (by simp[hi])) fun e=>n3 o (by simp) i hi e.symm)))
 obtain⟨g2,x2⟩:=σ2
 obtain⟨rfl,Ov,Dz⟩:=hq
 (try dsimp only at Ov Dz)
 refine hN _ _ ?_
 clear hN N
 (try((repeat(revert hN;revert N;apply Pn.out));refine wk @Nat.zero_add ?_;(repeat(refine Pn.mk ?_;intro N hN))))
 exact fx (.inl rfl) (vs:=[.int .i64 (k+2*p.ax.length+(p.ah.map gG).sum)]) (sd @Nat.zero_add) ⟨rfl,⟨by(try dsimp only);omega,fun x hx hi=>(Dz x (by(try dsimp only);omega) fun h=>hi (by simp[h])).trans (hf x hx fun e=>hi (by simp[e]))⟩⟩
theorem GO (v:AV) (p:aA) (ids:List Id) (k:Int) (h0:0<=k) (Lu:p.aE.ah.length<=1048576) (h1:k+B6 p<=4611686018427387904) (σ:ar) (hv:∀i∈ids,i.ck<σ.next) (mm:ids.Nodup) (hg:zp σ.get v p ids):
  Call Tryz.prog 31 [v,.int .i64 k] σ (fun r σ'=>r=.int .i64 (k+B6 p)/\qY σ ids σ'.get σ'.next):=by
 obtain⟨a,b,c,i1,i2,i3,rfl,hA,hB,hC,rfl⟩:=hg.ex
 rw[<-List.append_assoc]at mm
 obtain⟨n1,_,n3⟩:=List.nodup_append.1 mm
 obtain⟨oa,rfl⟩:=hA.kQ
 obtain⟨ob,rfl⟩:=hB.kQ
 obtain⟨oc,rfl⟩:=hC.kQ
 have hm:(B6 p:Int)=2*p.aE.ax.length+(p.aE.ah.map gG).sum+3*p.bc.ah.length:=by simp[B6]
 refine eU eC rfl fun hl=>?_
 clear hl
 have Tv:∀x∈i1++(i2++i3),bq σ.get ⟨31000000,σ.next⟩ ⟨true,4,[[.own oa 0 p.aE.ax.length,.own ob 0 p.aE.ah.length,.own oc 0 p.bc.ah.length,.int .i64 p.aB]]⟩ x=σ.get x:=fun x hx=>by
  have:=dp (hv x hx)
  simp only[go_sem, ↓reduceIte,Nat.reduceEqDiff,Nat.reduceAdd,Nat.reduceSub,Nat.reduceLeDiff,reduceCtorEq,this]
 (try((repeat(revert hN;revert N;apply Pn.out));refine wk @Nat.zero_add ?_;(repeat(refine Pn.mk ?_;intro N hN))))
 refine .inr (aI _ _ _ _ _ (fun r σ1 hq=>?_) (GN _ _ p.aE i1 i2 k h0 Lu (by omega) _ (fun i hi=>by have:=hv i (by rcases List.mem_append.1 hi with h|h<;>simp[h]);(try dsimp only);omega) n1 (hA.frame Br fun i hi=>Tv i (by simp[hi])) (hB.frame qU fun i hi=>Tv i (by simp[hi]))))
 obtain⟨g1,x1⟩:=σ1
 obtain⟨rfl,Fg,qG⟩:=hq
 (try dsimp only at Fg qG)
 refine hN _ _ ?_
 clear hN N
 have k1:=qG ⟨31000000,σ.next⟩ (by(try dsimp only);omega) (fun h=>by
  have:=hv ⟨31000000,σ.next⟩ (by rcases List.mem_append.1 h with h|h<;>simp[h])
  (try dsimp only at this);omega)
 simp only[go_sem, ↓reduceIte,Nat.reduceEqDiff,Nat.reduceAdd,Nat.reduceSub,Nat.reduceLeDiff,reduceCtorEq]at k1
 (try((repeat(revert hN;revert N;apply Pn.out));refine wk @k1 ?_;(repeat(refine Pn.mk ?_;intro N hN))))
 refine .inr (aI _ _ _ _ _ (fun r σ2 hq=>?_) (yS _ p.bc i3 (k+2*p.aE.ax.length+(p.aE.ah.map gG).sum) (by omega) (by omega) _ (fun i hi=>by have:=hv i (by simp[hi]);(try dsimp only);omega) ⟨_,rfl,hC.frame yp fun i hi=>?_⟩))
 rotate_left
 ·exact(qG i (by have:=hv i (by simp[hi]);(try dsimp only);omega) fun h=>n3 i h i hi rfl).trans (Tv i (by simp[hi]))
 obtain⟨g2,x2⟩:=σ2
 obtain⟨rfl,Ov,Dz⟩:=hq
 (try dsimp only at Ov Dz)
 refine hN _ _ ?_
 clear hN N
 (try((repeat(revert hN;revert N;apply Pn.out));refine wk @Nat.zero_add ?_;(repeat(refine Pn.mk ?_;intro N hN))))
 exact fx (.inl rfl) (vs:=[.int .i64 (k+2*p.aE.ax.length+(p.aE.ah.map gG).sum+3*p.bc.ah.length)]) (sd @Nat.zero_add) ⟨by rw[hm];exact congrArg (AV.int .i64) (by omega),⟨by(try dsimp only);omega,fun x hx hi=>by
  have h2:=Dz x (by(try dsimp only);omega) fun h=>hi (by simp[h])
  have h3:=qG x (by(try dsimp only);omega) fun h=>hi (by rcases List.mem_append.1 h with h|h<;>simp[h])
  have h4:=dp hx
  simp only[go_sem, ↓reduceIte,Nat.reduceEqDiff,Nat.reduceAdd,Nat.reduceSub,Nat.reduceLeDiff,reduceCtorEq,h4]at h3
  exact h2.trans h3⟩⟩
end Go.Proofs.YtgoelphibofcmaaGreat.V

namespace Go.Proofs.YtgoelphibofcmaaGreat.V
open Go.RowKit
def AV.clean:AV->Bool
 | .int .. | .bool _| .str _| .cm| .gR| .iW| .jj| .own .. | .ptr .. | .map .. | .rE _=>true
 | .sl l=>l.isEmpty
 |_=>false
def AV.zB:AV->Bool
 | .agg cs=>cs.all AV.clean
 | .gJ cs=>cs.all fun a=>match a with
  | .agg cs=>cs.all AV.clean
  |a=>a.clean
 |a=>a.clean
def zg (ids:List Id) (g g':Rows):Rows:=fun id=>if id∈ids then g' id else g id
theorem sj {ids:List Id} {g g':Rows} {id:Id} (h:id∈ids):zg ids g g' id=g' id:=if_pos h
theorem pP {ids:List Id} {g g':Rows} {id:Id} (h:id∉ids):zg ids g g' id=g id:=if_neg h
section
variable {P:Program} {w w':World} {D D' D1 D2:Nat->Prop} {ι ι1 ι2:Names}
theorem jS {a:AV} {v:Value} (hp:a.clean=true) (h:cI P w D1 ι1 a v):cI P w D2 ι1 a v:=by
 cases h with
 |eM a v h=>
  cases h with
  |int=>exact .eM _ _ (.int _ _)
  |bool=>exact .eM _ _ (.bool _)
  |str=>exact .eM _ _ (.str _)
  |cm=>exact .eM _ _ .cm
  |gR=>exact .eM _ _ .gR
  |iW=>exact .eM _ _ .iW
  |jj=>exact .eM _ _ .jj
  |AU a c h=>exact .eM _ _ (.AU a c h)
  |sl rows b o n c sz vs h1 h2 h3=>
   have:rows=[]:=by simpa[AV.clean]using hp
   subst this
   simp only[List.length_nil]at h1
   subst h1
   exact .eM _ _ (.AU _ _ h3)
  |di=>simp[AV.clean]at hp
  |agg=>simp[AV.clean]at hp
  |fn=>simp[AV.clean]at hp
 |own id off len o cap B h1 h2 h3 h4 h5 h6=>exact .own id off len o cap B h1 h2 h3 h4 h5 h6
 |map id m B h1 h2=>exact .map id m B h1 h2
 |rE id c B h1 h2=>exact .rE id c B h1 h2
 |ptr id i off B h1 h2=>exact .ptr id i off B h1 h2
 |agg=>simp[AV.clean]at hp
 |gJ=>simp[AV.clean]at hp
 |fn=>simp[AV.clean]at hp
 |tY=>simp[AV.clean]at hp
theorem lU {cs:List AV} {v:Value} (hc:cs.all AV.clean=true) (h:cI P w D1 ι1 (.agg cs) v):cI P w D2 ι1 (.agg cs) v:=by
 obtain⟨vs,f,rfl,h1,h2,h3,h4⟩:=iP h
 rw[List.all_eq_true]at hc
 exact .agg cs vs f h1 h2 h3 fun j a ha=>jS (hc a (List.mem_of_getElem? ha)) (h4 j a ha)
theorem D9 {a:AV} {v:Value} (hp:a.zB=true) (h:cI P w D1 ι1 a v):cI P w D2 ι1 a v:=by
 cases a with
 |agg cs=>exact lU hp h
 |gJ cs=>
  obtain⟨vs,f,rfl,h1,h3,h4⟩:=uY h
  simp only[AV.zB,List.all_eq_true]at hp
  refine .gJ cs vs f h1 h3 fun j a ha=>?_
  have:=hp a (List.mem_of_getElem? ha)
  split at this
  ·exact lU this (h4 j _ ha)
  ·exact jS this (h4 j _ ha)
 |_=>exact jS hp h
theorem D6 {ag:Bool} {n:Nat} {cs:List AV} {x:AV} {v:Value} (hc:∀a∈cs,a.clean=true) (hp:part ag n cs=some x) (hr:cI P w D1 ι1 x v):cI P w D2 ι1 x v:=by
 unfold part at hp
 split at hp
 ·split at hp
  ·simp only[Option.some.injEq]at hp;subst hp
   exact lU (List.all_eq_true.2 fun a ha=>hc a (List.mem_of_mem_take ha)) hr
  ·cases hp
 ·exact jS (hc x (List.mem_of_mem_head? hp)) hr
theorem gM.clean {B:sC} {r:Row} (R:gM P w D1 ι1 B r) (h:∀cs∈r.rows,∀a∈cs,a.clean=true):gM P w D2 ι1 B r:=
 ⟨R.sz,R.flat,fun hk=>⟨R.sz,(R.row hk).xH,(R.row hk).fits,(R.row hk).len,R.flat,fun i j cs a hi hj=>by
  obtain⟨v,q1,q2⟩:=(R.row hk).at_ i j cs a hi hj
  exact⟨v,q1,jS (h cs (List.mem_of_getElem? hi) a (List.mem_of_getElem? hj)) q2⟩⟩,fun m hm=>by
  obtain⟨h1,es,c,h2,h3,h5,h4⟩:=R.map m hm
  refine⟨h1,es,c,h2,h3,h5,fun i cs hi=>?_⟩
  obtain⟨e,kv,vv,q1,q2,q3,q4,q5⟩:=h4 i cs hi
  have hc:=h cs (List.mem_of_getElem? hi)
  exact⟨e,kv,vv,q1,q2,q3,D6 hc q2 q4,jS (hc vv (List.mem_of_getElem? q3)) q5⟩,fun c hc=>by
  obtain⟨h1,buf,s,q,h2,h3,h4⟩:=R.chan c hc
  refine⟨h1,buf,s,q,h2,h3,fun i cs hi=>?_⟩
  obtain⟨a,u,rfl,q2,q3⟩:=h4 i cs hi
  exact⟨a,u,rfl,q2,jS (h [a] (List.mem_of_getElem? hi) a (by simp)) q3⟩⟩
def Handed (ids:List Id) (g:Rows):Prop:=∀id∈ids,∃r,g id=some r/\r.w=true/\∀cs∈r.rows,∀a∈cs,a.clean=true
theorem Hp {f:Nat} {args eE:List AV} {g:Rows} {n:Nat} {K:AV->ar->Prop} (hv:cN (dL g) 6 args=some eE)
  (h:Sound P f eE ⟨fun _=>none,n⟩ fun r σ'=>∃ids,r.zB=true/\Handed ids σ'.get/\K r ⟨zg ids g σ'.get,σ'.next⟩):Sound P f args ⟨g,n⟩ K:=by
 intro hs D ι w vs S U A
 let E:Nat->Prop:=fun b=>D b∨∃id r B,g id=some r/\ι id=some B/\b=B.b
 have lt:∀id r B,g id=some r->ι id=some B->B.b<w.heap.size:=fun id r B h1 h2=>by
  obtain⟨B',dz,R,_⟩:=S.row id r h1
  rw[h2]at dz;injection dz with dz;subst dz
  exact R.lt
 have S0:gw P w.heap.size E ι (fun _=>none) w:=⟨Nat.le_refl _,fun b hb=>by
  rcases hb with hb|⟨id,r,B,h1,h2,rfl⟩
  ·exact S.dead b hb
  ·exact lt id r B h1 h2,fun id r h=>(by cases h),fun id jW r r' B B' h=>(by cases h)⟩
 obtain⟨l1,l2⟩:=gF hv
 have A':fe P w E ι eE vs:=⟨by rw[A.1,l1],fun j a hj=>by
  obtain⟨a0,lg,hz⟩:=l2 j a hj
  obtain⟨u,hu,hr⟩:=A.2 j a0 lg
  refine⟨u,hu,(rI (D2:=E) (ι2:=ι) (fun b h=>.inl h) (fun id row hg hw=>?_) 6 a0 u a hr hz).1⟩
  unfold dL at hg
  simp only[Option.map_eq_some_iff]at hg
  obtain⟨r,oe,rfl⟩:=hg
  obtain⟨B,hB,R,_,_⟩:=S.row id r oe
  exact⟨B,hB,R.flag true,.inr ⟨id,r,B,oe,hB,rfl⟩⟩⟩
 refine(h w.heap.size E ι w vs S0 U A').mono ?_
 rintro e w' ⟨r0,g',n',D2,ι1,u,rfl,⟨ids,nS,hid,hK⟩,T,S1,U1,hn,hR⟩
 have hb:∀b,b<w.heap.size->w'.heap[b]? =w.heap[b]? :=T.below.block
 have hz:=T.below.size
 have frame:∀{a v},cI P w D ι a v->cI P w' D ι1 a v:=fun h=>h.frame (fun b hd=>hb b (S.dead b hd)) (fun _ h=>h) T.names
 refine⟨r0,_,n',D,ι1,u,rfl,hK,⟨T.below.mono S.lo,fun b hd=>hb b (S.dead b hd),fun _ h=>h,T.names,fun _ h=>.inl h⟩,⟨Nat.le_trans S.lo hz,fun b hd=>Nat.lt_of_lt_of_le (S.dead b hd) hz,fun id r hr=>?_,fun Ru id2 r1 r2 B1 B2 h1 h2 hw AN pV MN=>?_⟩,U1,hn,D9 nS hR⟩
 ·by_cases hi:id∈ids
  ·rw[sj hi]at hr
   obtain⟨r',oe,hw,hcr⟩:=hid id hi
   rw[hr]at oe;injection oe with oe;subst oe
   obtain⟨B,hB,R,k1,k2⟩:=S1.row id r hr
   have ki:=k1 hw
   exact⟨B,hB,R.clean hcr,fun _=>Nat.le_trans S.lo ki,fun _ hd=>Nat.lt_irrefl _ (Nat.lt_of_lt_of_le (S.dead _ hd) ki)⟩
  ·rw[pP hi]at hr
   obtain⟨B,hB,R,k1,k2⟩:=S.row id r hr
   have Sg:=lt id r B hr hB
   exact⟨B,T.names _ _ hB,R.frame (hb _ Sg) fun a v h=>frame h,k1,k2⟩
 ·have new:∀{id r B},id∈ids->zg ids g g' id=some r->ι1 id=some B->w.heap.size<=B.b/\g' id=some r/\r.w=true:=fun {id r B} hi hr hB=>by
   rw[sj hi]at hr
   obtain⟨r',oe,hw,_⟩:=hid id hi
   replace oe:g' id=some r':=oe
   rw[hr]at oe;injection oe with oe;subst oe
   obtain⟨B',dz,_,k1,_⟩:=S1.row id r hr
   rw[hB]at dz;injection dz with dz;subst dz
   exact⟨k1 hw,hr,hw⟩
  have yY:∀{id r B},id∉ids->zg ids g g' id=some r->ι1 id=some B->B.b<w.heap.size/\g id=some r/\ι id=some B:=fun {id r B} hi hr hB=>by
   rw[pP hi]at hr
   obtain⟨B',dz,_⟩:=S.row id r hr
   have:=T.names _ _ dz
   rw[hB]at this;injection this with this;subst this
   exact⟨lt id r _ hr dz,hr,dz⟩
  by_cases i1:Ru∈ids
  ·obtain⟨a1,a2,a3⟩:=new i1 h1 AN
   by_cases i2:id2∈ids
   ·obtain⟨b1,b2,b3⟩:=new i2 h2 pV
    exact S1.inj Ru id2 r1 r2 B1 B2 a2 b2 hw AN pV MN
   ·obtain⟨b1,_⟩:=yY i2 h2 pV
    omega
  ·obtain⟨a1,a2,a3⟩:=yY i1 h1 AN
   by_cases i2:id2∈ids
   ·obtain⟨b1,_⟩:=new i2 h2 pV
    omega
   ·obtain⟨b1,b2,b3⟩:=yY i2 h2 pV
    exact S.inj Ru id2 r1 r2 B1 B2 a2 b2 hw a3 b3 MN
theorem AW (hm:P.follows .mixedOrders=true) {f:Nat} {args eE:List AV} {σ:ar} {K:AV->ar->Prop} (hv:cN (dL σ.get) 6 args=some eE)
  (h:Call P f eE ⟨fun _=>none,σ.next⟩ fun r σ'=>∃ids,r.zB=true/\Handed ids σ'.get/\K r ⟨zg ids σ.get σ'.get,σ'.next⟩):Call P f args σ K:=
 gN (Hp hv (gq hm h))
end
end Go.Proofs.YtgoelphibofcmaaGreat.V

namespace Go.Proofs.YtgoelphibofcmaaGreat.V
open Go.RowKit
inductive oi:List AV->List AV->Prop
 |nil:oi [] []
 |same (a) {l l'}:oi l l'->oi (a::l) (a::l')
 |ptr (cs rest) {l l'}:oi l l'->oi (.di (cs++rest)::l) (.di cs::l')
 |cm {l l'}:oi l l'->oi (.cm::l) (.sl []::l')
theorem Mg {P:Program} {w:World} {D:Nat->Prop} {ι:Names} {cs rest:List AV} {v:Value} (h:cI P w D ι (.di (cs++rest)) v):cI P w D ι (.di cs) v:=by
 obtain⟨b,o,vs,rfl,h1,h2,h3,h4⟩:=kY h
 exact .eM _ _ (.di cs b o vs h1 (fun a ha=>h2 a (List.mem_append_left _ ha)) (fun j hj=>h3 j (by rw[List.length_append];omega)) fun j a ha=>h4 j a (by
  have:=(List.getElem?_eq_some_iff.1 ha).1
  rw[List.getElem?_append_left this];exact ha))
theorem Mi {P:Program} {w:World} {D:Nat->Prop} {ι:Names} {v:Value} (h:cI P w D ι .cm v):cI P w D ι (.sl []) v:=by
 cases h with
 |eM _ _ h=>
  cases h with
  |cm=>exact .eM _ _ (.AU none 0 (Nat.zero_le _))
theorem oi.len {l l':List AV} (h:oi l l'):l'.length=l.length:=by induction h<;>simp_all
theorem oi.get {P:Program} {w:World} {D:Nat->Prop} {ι:Names} {l l':List AV} (h:oi l l'):∀{j:Nat} {a':AV},l'[j]? =some a'->∃a,l[j]? =some a/\∀v,cI P w D ι a v->cI P w D ι a' v:=by
 induction h with
 |nil=>intro j a' hj;simp at hj
 |same a _ ih=>
  intro j a' hj
  cases j with
  |zero=>simp at hj;subst hj;exact⟨a,rfl,fun _ h=>h⟩
  |succ j=>exact ih (by simpa using hj)
 |ptr cs rest _ ih=>
  intro j a' hj
  cases j with
  |zero=>simp at hj;subst hj;exact⟨_,rfl,fun _ h=>Mg h⟩
  |succ j=>exact ih (by simpa using hj)
 |cm _ ih=>
  intro j a' hj
  cases j with
  |zero=>simp at hj;subst hj;exact⟨_,rfl,fun _ h=>Mi h⟩
  |succ j=>exact ih (by simpa using hj)
theorem Call.cut {P:Program} (hm:P.follows .mixedOrders=true) {f:Nat} {args eE:List AV} {σ:ar} {K:AV->ar->Prop} (hc:oi args eE) (h:Call P f eE σ K):Call P f args σ K:=
 gN fun hs D ι w vs S U A=>gq hm h hs D ι w vs S U ⟨by rw[A.1,hc.len],fun j a' hj=>by
  obtain⟨a,ha,hr⟩:=hc.get (P:=P) (w:=w) (D:=D) (ι:=ι) hj
  obtain⟨u,hu,hv⟩:=A.2 j a ha
  exact⟨u,hu,hr u hv⟩⟩
theorem aq.cut {P:Program} (hm:P.follows .mixedOrders=true) {f:Nat} {args eE:List AV} {r:AV} (hc:oi args eE) (h:aq P f eE r):aq P f args r:=fun n=>(h n).cut hm hc
theorem kn.cut {P:Program} (hm:P.follows .mixedOrders=true) {f:Nat} {args eE:List AV} {r:AV} (hc:oi args eE) (h:kn P f eE r):kn P f args r:=fun σ=>Call.cut hm hc (h σ)
end Go.Proofs.YtgoelphibofcmaaGreat.V

namespace Go.Proofs.YtgoelphibofcmaaGreat.V
open Go.RowKit
attribute [local irreducible] dG wpOps gy Call
attribute [local go_sem] aM fF eP ga fW cQ upd cz K.av cR AV.cells AV.cell rowOf rowsOf part ld rowAt bq cu dD ee ik bJ dh ev fU eX dr ej dd dc dQ dR bQ bf cW bP cY cX eh ek ei cV cj de ef bK aO da cG ij bw cK bU aY dn aZ dE AV.undef bD bG dV ec dM dK cH eu ew cF ep eo cZ db List.getD_cons_zero List.getD_cons_succ List.getD_nil List.all_cons List.all_nil Bool.and_true Bool.true_and Bool.and_self Bool.not_true Bool.not_false Option.map_some Option.map_none Option.bind_some Option.bind_none List.length_cons List.length_nil List.take_succ_cons List.take_zero List.take_nil List.drop_succ_cons List.drop_zero List.drop_nil List.head?_cons List.map_cons List.map_nil List.getElem?_cons_zero List.getElem?_cons_succ List.cons_append List.nil_append List.append_nil List.length_map List.set_cons_zero List.set_cons_succ eq_self Int.toNat_natCast Int.natCast_nonneg and_self true_and and_true decide_true decide_false Bool.false_eq_true Nat.zero_add Nat.add_zero List.contains_cons List.contains_nil Bool.or_false Bool.false_or beq_self_eq_true ne_eq not_true_eq_false not_false_eq_true Id.mk.injEq false_and and_false Nat.le_refl List.length_append beq_true beq_false Bool.not_eq_eq_eq_not or_false false_or dL ai aj aH bl bB cw aX bd aU bh cU bH
section
variable {P:Program} {α:Type} {e:α->List AV} {z:Nat} {g g':Rows} {v:AV} {L:List α} {ids:List Id}
def pR (e:α->List AV) (z:Nat) (g:Rows) (v:AV) (L:List α) (ids:List Id):Prop:=(L=[]/\v=.cm/\ids=[])∨∃o,v=.own o 0 L.length/\g o=some ⟨true,z,L.map e⟩/\ids=[o]/\0<L.length
def OP (e:α->List AV) (L:List α):AV:=if L.length=0 then .cm else .sl (L.map e)
theorem pR.frame (h:pR e z g v L ids) (hf:∀i∈ids,g' i=g i):pR e z g' v L ids:=by
 rcases h with h|⟨o,h1,h2,rfl,hp⟩
 ·exact .inl h
 ·exact .inr ⟨o,h1,(hf o (by simp)).trans h2,rfl,hp⟩
def iJ (e:α->List AV) (L:List α) (w:AV):Prop:=(w=.cm/\L=[])∨w=.sl (L.map e)
theorem pR.fz (h:pR e z g v L ids) (he:∀x g,cN g 5 (e x)=some (e x)):∃w,V.fz (dL g) 6 v=some w/\iJ e L w:=by
 rcases h with⟨rfl,rfl,_⟩|⟨o,rfl,h2,_⟩
 ·exact⟨.cm,aX _ _,.inl ⟨rfl,rfl⟩⟩
 ·exact⟨_,gr (e:=e) (sz:=z) (by simp[dL,h2]) rfl fun x=>he x _,.inr rfl⟩
def HK (P:Program) (f:Nat) (args:List AV) (e:α->List AV) (z:Nat) (L:List α) (c:Int):Prop:=
 ∀n:Nat,Call P f args ⟨fun _=>none,n⟩ (fun r σ'=>∃v ids,r=.gJ [v,.int .i64 c]/\pR e z σ'.get v L ids/\gp n σ'.next ids)
theorem x7 (hm:P.follows .mixedOrders=true) {f:Nat} {args:List AV} {σ:ar} {K:AV->ar->Prop} (h:Call P f args σ K):Call P f args σ (fun r σ'=>K r σ'/\σ.next<=σ'.next):=
 gN fun hs D ι w vs S U A=>(gq hm h hs D ι w vs S U A).mono (by
  rintro e w' ⟨r,g',n',D2,ι1,u,rfl,hK,T,S1,U1,hn,hR⟩
  exact⟨r,g',n',D2,ι1,u,rfl,⟨hK,hn⟩,T,S1,U1,hn,hR⟩)
theorem HK.s {f:Nat} {args:List AV} {c:Int} (he:∀x g,er g 4 (e x)=some (e x)) (h:HK P f args e z L c):aq P f args (.gJ [OP e L,.int .i64 c]):=fun n=>
 aI _ _ _ _ _ (fun r σ' hq=>by
  obtain⟨v,ids,rfl,ho,hi⟩:=hq
  rcases ho with⟨rfl,rfl,_⟩|⟨o,rfl,h2,_,hp⟩
  ·exact⟨_,by simp only[eR,bz,cD,j6,eK,Option.map_some];rfl,rfl⟩
  ·have:=fc (e:=e) (n:=4) h2 rfl fun x=>he x _
   exact⟨_,by simp only[eR,bz,cD,this,eK,Option.map_some];rfl,by rw[OP,if_neg (by omega)]⟩) (h n)
theorem wN:iJ e L (OP e L):=by
 unfold OP
 split
 ·rename_i h;exact .inl ⟨rfl,List.eq_nil_of_length_eq_zero h⟩
 ·exact .inr rfl
end
theorem iJ.two {α:Type} {e:α->List AV} {L:List α} {w:AV} (h:iJ e L w):oi [w] [.sl (L.map e)]:=by
 rcases h with⟨rfl,rfl⟩|rfl
 ·exact .cm .nil
 ·exact .same _ .nil
theorem iJ.cut {α:Type} {e:α->List AV} {L:List α} {w:AV} (h:iJ e L w) {l l':List AV} (hl:oi l l'):oi (w::l) (.sl (L.map e)::l'):=by
 rcases h with⟨rfl,rfl⟩|rfl
 ·exact .cm hl
 ·exact .same _ hl
end Go.Proofs.YtgoelphibofcmaaGreat.V

namespace Go.Proofs.YtgoelphibofcmaaGreat.V
open Go.RowKit
attribute [local irreducible] dG wpOps gy Call
attribute [local go_sem] aM fF eP ga fW cQ upd cz K.av cR AV.cells AV.cell rowOf rowsOf part ld rowAt bq cu dD ee ik bJ dh ev fU eX dr ej dd dc dQ dR bQ bf cW bP cY cX eh ek ei cV cj de ef bK aO da cG ij bw cK bU aY dn aZ dE AV.undef bD bG dV ec dM dK cH eu ew cF ep eo cZ db List.getD_cons_zero List.getD_cons_succ List.getD_nil List.all_cons List.all_nil Bool.and_true Bool.true_and Bool.and_self Bool.not_true Bool.not_false Option.map_some Option.map_none Option.bind_some Option.bind_none List.length_cons List.length_nil List.take_succ_cons List.take_zero List.take_nil List.drop_succ_cons List.drop_zero List.drop_nil List.head?_cons List.map_cons List.map_nil List.getElem?_cons_zero List.getElem?_cons_succ List.cons_append List.nil_append List.append_nil List.length_map List.set_cons_zero List.set_cons_succ Nat.reduceMul eq_self Int.toNat_natCast Int.natCast_nonneg and_self true_and and_true decide_true decide_false Bool.false_eq_true Nat.zero_add Nat.add_zero List.contains_cons List.contains_nil Bool.or_false Bool.false_or beq_self_eq_true Nat.reduceBEq ne_eq not_true_eq_false not_false_eq_true Id.mk.injEq false_and and_false Nat.reduceLT Int.reduceLE Int.reduceLT Int.reduceToNat Int.reduceNeg Int.reduceAdd Nat.le_refl List.length_append beq_true beq_false Bool.not_eq_eq_eq_not or_false false_or dL ai aj aH bl bB cw aX bd aU bh cU bH
theorem Jp (k:Int) {n j:Nat} (h:j<n):((AS k n).map aa)[j]? =some [.int .i64 (k+3*(j:Int)),.int .i64 (k+3*(j:Int)+1),.int .i64 (k+3*(j:Int)+2)]:=by
 simp[AS,h,aa]
end Go.Proofs.YtgoelphibofcmaaGreat.V

namespace Go.Proofs.YtgoelphibofcmaaGreat.V
open Go.RowKit
variable {P:Program}
theorem OK (hm:P.follows .mixedOrders=true) {f:Nat} {args:List AV} {vs:Array Value} {w:World} (h:aq P f args (.bool true)) (hA:fe P w (fun b=>b<w.heap.size) (fun _=>none) args vs):
  Calls P f vs w fun e w'=>e=.returned (.bool true)/\Below w.heap.size w w':=by
 have hs:=gq hm (h 0) w.heap.size (fun b=>b<w.heap.size) (fun _=>none) w vs ⟨Nat.le_refl _,fun _ h=>h,fun id r h=>(by cases h),fun id jW r r' B B' h=>(by cases h)⟩ (fun id h=>absurd rfl h) hA
 refine hs.mono ?_
 rintro e w' ⟨r,g',n',D',ι',u,rfl,⟨r',hz,rfl⟩,dF,hsim,_,_,gL⟩
 have hr:r=.bool true:=by
  cases r<;>rw[gx]at hz<;>simp_all
  all_goals (repeat' (split at hz))<;>simp_all
 subst hr
 exact⟨by rw[e6 gL],dF.below⟩
theorem mC {xs:List AV} {w:World} {D:Nat->Prop} {ι:Names} {a:AV} {v:Value} {vs:Array Value} (h:jF P w D a v) (k:fe P w D ι xs vs):fe P w D ι (a::xs) (#[v]++vs):=
 pa (xs:=[a]) ⟨rfl,fun j b hj=>by
  cases j with
  |zero=>simp at hj;subst hj;exact⟨v,rfl,.eM _ _ h⟩
  |succ j=>simp at hj⟩ k
end Go.Proofs.YtgoelphibofcmaaGreat.V

namespace Go.Proofs.YtgoelphibofcmaaGreat.V
open Go.RowKit
attribute [local irreducible] dG wpOps gy Call
attribute [local go_sem] aM fF eP ga fW cQ upd cz K.av cR AV.cells AV.cell rowOf rowsOf part ld rowAt bq cu dD ee ik bJ dh ev fU eX dr ej dd dc dQ dR bQ bf cW bP cY cX eh ek ei cV cj de ef bK aO da cG ij bw cK bU aY dn aZ dE AV.undef bD bG dV ec dM dK cH eu ew cF ep eo cZ db List.getD_cons_zero List.getD_cons_succ List.getD_nil List.all_cons List.all_nil Bool.and_true Bool.true_and Bool.and_self Bool.not_true Bool.not_false Option.map_some Option.map_none Option.bind_some Option.bind_none List.length_cons List.length_nil List.take_succ_cons List.take_zero List.take_nil List.drop_succ_cons List.drop_zero List.drop_nil List.head?_cons List.map_cons List.map_nil List.getElem?_cons_zero List.getElem?_cons_succ List.cons_append List.nil_append List.append_nil List.length_map List.set_cons_zero List.set_cons_succ Nat.reduceMul eq_self Int.toNat_natCast Int.natCast_nonneg and_self true_and and_true decide_true decide_false Bool.false_eq_true Nat.zero_add Nat.add_zero List.contains_cons List.contains_nil Bool.or_false Bool.false_or beq_self_eq_true Nat.reduceBEq ne_eq not_true_eq_false not_false_eq_true Id.mk.injEq false_and and_false Nat.reduceLT Int.reduceLE Int.reduceLT Int.reduceToNat Int.reduceNeg Int.reduceAdd Nat.le_refl List.length_append beq_true beq_false Bool.not_eq_eq_eq_not or_false false_or dL ai aj aH bl bB cw aX bd aU bh cU bH
theorem O9 {α:Type} (f:α->Nat) {xs:List α} {x:α} (h:x∈xs):f x<=(xs.map f).sum:=by
 induction xs with
 |nil=>cases h
 |cons y ys ih=>
  simp only[List.map_cons,List.sum_cons]
  rcases List.mem_cons.1 h with rfl|h
  ·omega
  ·have:=ih h;omega
theorem Hc {s:aA} (h:xt s<=1048576):rh s:=by
 unfold xt uB at h
 refine⟨⟨by omega,by omega,fun t ht=>?_⟩,by omega⟩
 have:=O9 kq ht
 have h2:t.bt.length<=kq t:=by unfold kq;omega
 unfold sK
 omega
theorem zD (a:dP):aq Tryz.prog 21 [.agg (aP a),.agg (aP a)] (.bool true):=by
 refine aq.body eC rfl fun hl n0=>?_
 clear hl
 have h1:=oJ a.ah a.ah
 rw[decide_eq_true rfl]at h1
 (repeat(first|((repeat(revert hN;revert N;apply Pn.out));refine wk @aP.eq_1 ?_;(repeat(refine Pn.mk ?_;intro N hN)))|((try apply Or.inl);refine⟨_,aq.x (h1) (sd @aP.eq_1),?_⟩;refine hN _ _ ?_;clear hN N)))
 exact aT (b:=true) (.inl rfl) (sd @Nat.zero_add) rfl
end Go.Proofs.YtgoelphibofcmaaGreat.V

namespace Go.Proofs.YtgoelphibofcmaaGreat.V
open Go.RowKit
attribute [local irreducible] dG wpOps gy Call
attribute [local go_sem] aM fF eP ga fW cQ upd cz K.av cR AV.cells AV.cell rowOf rowsOf part ld rowAt bq cu dD ee ik bJ dh ev fU eX dr ej dd dc dQ dR bQ bf cW bP cY cX eh ek ei cV cj de ef bK aO da cG ij bw cK bU aY dn aZ dE AV.undef bD bG dV ec dM dK cH eu ew cF ep eo cZ db List.getD_cons_zero List.getD_cons_succ List.getD_nil List.all_cons List.all_nil Bool.and_true Bool.true_and Bool.and_self Bool.not_true Bool.not_false Option.map_some Option.map_none Option.bind_some Option.bind_none List.length_cons List.length_nil List.take_succ_cons List.take_zero List.take_nil List.drop_succ_cons List.drop_zero List.drop_nil List.head?_cons List.map_cons List.map_nil List.getElem?_cons_zero List.getElem?_cons_succ List.cons_append List.nil_append List.append_nil List.length_map List.set_cons_zero List.set_cons_succ eq_self Int.toNat_natCast Int.natCast_nonneg and_self true_and and_true decide_true decide_false Bool.false_eq_true Nat.zero_add Nat.add_zero List.contains_cons List.contains_nil Bool.or_false Bool.false_or beq_self_eq_true ne_eq not_true_eq_false not_false_eq_true Id.mk.injEq false_and and_false Nat.le_refl List.length_append beq_true beq_false Bool.not_eq_eq_eq_not or_false false_or dL ai aj aH bl bB cw aX bd aU bh cU bH
theorem Hd {g:Rows} {v w:AV} {s:aA} {a:dP} {i j:List Id} (hX:zp g v s i) (hY:xD g w a j):cN (dL g) 6 [v,w]=some [.agg (aw s),.agg (aP a)]:=by
 simp only[ai,aj,hX.fz 1,hY.fz 2,Option.map_some]
theorem Mp {g:Rows} {v w:AV} {s:aA} {i:List Id} (hX:zp g v s i) (hw:fz (dL g) 6 w=some w):cN (dL g) 6 [v,w]=some [.agg (aw s),w]:=by
 simp only[ai,aj,hX.fz 1,hw,Option.map_some]
theorem KW {g:Rows} {v w:AV} {s:dP} {i:List Id} (hX:xD g v s i) (hw:fz (dL g) 6 w=some w):cN (dL g) 6 [v,w]=some [.agg (aP s),w]:=by
 simp only[ai,aj,hX.fz 2,hw,Option.map_some]
theorem ES (g:Rows) (s:aA):fz g 6 (.agg (aw s))=some (.agg (aw s)):=by simp[aw,bd,ai,aj,cw,aH]
theorem ER (g:Rows) (s:dP):fz g 6 (.agg (aP s))=some (.agg (aP s)):=by simp[aP,bd,ai,aj,cw]
theorem tx {g:Rows} {v w v' w':AV} (h1:fz g 6 v=some v') (h2:fz g 6 w=some w'):cN g 6 [v,w]=some [v',w']:=by
 simp only[ai,aj,h1,h2,Option.map_some]
theorem LW (s:aA):B6 s<=3*xt s:=by
 have h:∀l:List eS,(l.map gG).sum<=l.length+(l.map kq).sum:=fun l=>by
  induction l with
  |nil=>simp
  |cons t l ih=>simp only[List.map_cons,List.sum_cons,List.length_cons,gG,kq]at *;omega
 have:=h s.aE.ah
 unfold B6 xt uB
 omega
theorem gp.not {a b:Nat} {ids:List Id} (h:gp a b ids) {x:Id} (hx:x.ck<a∨b<=x.ck):x∉ids:=fun hc=>by
 have:=h.2 x hc;omega
theorem iJ.fz {α:Type} {e:α->List AV} {L:List α} {w:AV} (h:iJ e L w) (g:Rows):V.fz g 6 w=some w:=by
 rcases h with⟨rfl,rfl⟩|rfl
 ·exact aX _ _
 ·exact cw _ _ _
end Go.Proofs.YtgoelphibofcmaaGreat.V

namespace Go.Proofs.YtgoelphibofcmaaGreat.V
open Go.RowKit
attribute [local irreducible] dG wpOps gy Call
attribute [local go_sem] aM fF eP ga fW cQ upd cz K.av cR AV.cells AV.cell rowOf rowsOf part ld rowAt bq cu dD ee ik bJ dh ev fU eX dr ej dd dc dQ dR bQ bf cW bP cY cX eh ek ei cV cj de ef bK aO da cG ij bw cK bU aY dn aZ dE AV.undef bD bG dV ec dM dK cH eu ew cF ep eo cZ db List.getD_cons_zero List.getD_cons_succ List.getD_nil List.all_cons List.all_nil Bool.and_true Bool.true_and Bool.and_self Bool.not_true Bool.not_false Option.map_some Option.map_none Option.bind_some Option.bind_none List.length_cons List.length_nil List.take_succ_cons List.take_zero List.take_nil List.drop_succ_cons List.drop_zero List.drop_nil List.head?_cons List.map_cons List.map_nil List.getElem?_cons_zero List.getElem?_cons_succ List.cons_append List.nil_append List.append_nil List.length_map List.set_cons_zero List.set_cons_succ Nat.reduceMul eq_self Int.toNat_natCast Int.natCast_nonneg and_self true_and and_true decide_true decide_false Bool.false_eq_true Nat.zero_add Nat.add_zero List.contains_cons List.contains_nil Bool.or_false Bool.false_or beq_self_eq_true Nat.reduceBEq ne_eq not_true_eq_false not_false_eq_true Id.mk.injEq false_and and_false Nat.reduceLT Int.reduceLE Int.reduceLT Int.reduceToNat Int.reduceNeg Int.reduceAdd Nat.le_refl List.length_append beq_true beq_false Bool.not_eq_eq_eq_not or_false false_or dL ai aj aH bl bB cw aX bd aU bh cU bH
theorem IF (k:Int) (n:Nat) (h0:0<=k) (h1:k+3*n<=4611686018427387904):aq Tryz.prog 79 [.sl ((AS k n).map aa),.int .i64 k] (.int .i64 (k+3*n)):=by
 refine aq.body eC rfl fun hl n0=>?_
 clear hl
 obtain⟨m,hm⟩:∃m,n=m:=⟨_,rfl⟩
 rw[hm]at h1 ⊢
 (try((repeat(revert hN;revert N;apply Pn.out));refine wk @iy ?_;(repeat(refine Pn.mk ?_;intro N hN))))
 refine aW (fun n env st=>∃j:Nat,n=(m)-j/\j<=(m)/\env 5=.int .i64 (j:Int)/\env 1=.int .i64 (k+3*j)) (m) ⟨0,by omega,by omega,sl (tw @Int.add_zero (tw @Int.natCast_zero (tw @Int.mul_zero @iy))),sl (tw @Int.add_zero (tw @Int.natCast_zero (tw @Int.mul_zero @iy)))⟩ ?_
 rintro n_a env_a st_a ⟨j,rfl,ale,a5,a1⟩ dH
 have a0:=dH 0 (by kernel_rfl)
 simp only[go_sem, ↓reduceIte,Nat.reduceEqDiff,Nat.reduceAdd,Nat.reduceSub,Nat.reduceLeDiff,reduceCtorEq,Int.add_zero,Int.natCast_zero,Int.mul_zero,iy]at a0
 clear dH
 by_cases hj:(j:Int)<(m:Int)
 ·have cE:∀{e:Env},(e 5=.int .i64 (IntKind.i64.wrap ((j:Int)+1)))->(e 1=.int .i64 (k+3*(j+1)))->∃m0,m0<(m)-j/\∃j:Nat,m0=(m)-j/\j<=(m)/\e 5=.int .i64 (j:Int)/\e 1=.int .i64 (k+3*j):=fun x1 x2=>⟨_,by omega,j+1,rfl,by omega,(by rw[x1,az (by omega)]),x2⟩
  have fu:=Jp k (n:=m) (j:=j) (by omega)
  have od:IntKind.i64.wrap (k+3*(j:Int)+1)=k+3*(j:Int)+1:=bF (by omega)
  have pr:IntKind.i64.wrap (k+3*(j:Int)+1+1)=k+3*(j:Int)+2:=by rw[bF (by omega)];omega
  have M4:IntKind.i64.wrap (k+3*(j:Int)+2+1)=k+3*((j:Int)+1):=by rw[bF (by omega)];omega
  have e1:decide (k+3*(j:Int)=k+3*(j:Int))=true:=decide_eq_true rfl
  have e2:decide (k+3*(j:Int)+1=k+3*(j:Int)+1)=true:=decide_eq_true rfl
  have e3:decide (k+3*(j:Int)+2=k+3*(j:Int)+2)=true:=decide_eq_true rfl
  (try((repeat(revert hN;revert N;apply Pn.out));refine wk (tw @a5 (tw @a1 (tw @a0 (tw @hj (tw @fu (tw @od (tw @pr (tw @M4 (tw @iy (tw @e1 (tw @e2 @e3))))))))))) ?_;(repeat(refine Pn.mk ?_;intro N hN))))
  refine cE ?_ ?_
  all_goals simp only[go_sem, ↓reduceIte,Nat.reduceEqDiff,Nat.reduceAdd,Nat.reduceSub,Nat.reduceLeDiff,reduceCtorEq,a5,a1,a0,M4]
 ·have jB:j=m:=by omega
  subst jB
  (try((repeat(revert hN;revert N;apply Pn.out));refine wk (tw @a5 (tw @a1 (tw @a0 (tw @hj @iy)))) ?_;(repeat(refine Pn.mk ?_;intro N hN))))
  exact b4 (b:=k+3*(j:Int)) (.inl rfl) (sd (tw @a5 (tw @a1 @a0))) rfl
theorem GM (k:Int) (σ:ar):Call Tryz.prog 77 [.cm,.int .i64 k] σ (fun r σ'=>r=.int .i64 k/\qY σ [] σ'.get σ'.next):=by
 refine eU eC rfl fun hl=>?_
 clear hl
 (try((repeat(revert hN;revert N;apply Pn.out));refine wk @Nat.zero_add ?_;(repeat(refine Pn.mk ?_;intro N hN))))
 refine aW (fun n env st=>(env 1=.int .i64 k/\env 5=.int .i64 0/\env 0=.cm)/\σ.next<=st.next/\∀x:Id,st.get x=σ.get x) 0 ⟨⟨sd @Nat.zero_add,sd @Nat.zero_add,sd @Nat.zero_add⟩,by(try dsimp only);omega,fun _=>rfl⟩ ?_
 rintro m e st ⟨⟨a1,a5,a0⟩,an,aF⟩ -
 have d0:decide ((0:Int)<((0:Nat):Int))=false:=rfl
 (try((repeat(revert hN;revert N;apply Pn.out));refine wk (tw @a0 (tw @a1 (tw @a5 @d0))) ?_;(repeat(refine Pn.mk ?_;intro N hN))))
 exact fx (.inl rfl) (vs:=[.int .i64 k]) (sd @a1) ⟨rfl,⟨by(try dsimp only);omega,fun x hx hi=>aF x⟩⟩
theorem yT {v:AV} {L:List ad} {ids:List Id} (k:Int) (h0:0<=k) (h1:k+3*L.length<=4611686018427387904) (σ:ar) (hv:∀i∈ids,i.ck<σ.next) (h:pR aa 3 σ.get v L ids):
  Call Tryz.prog 77 [v,.int .i64 k] σ (fun r σ'=>r=.int .i64 (k+3*L.length)/\qY σ ids σ'.get σ'.next/\pR aa 3 σ'.get v (AS k L.length) ids):=by
 rcases h with⟨rfl,rfl,rfl⟩|⟨o,rfl,h2,rfl,hp⟩
 ·refine aI _ _ _ _ _ (fun r σ' hq=>?_) (GM k σ)
  obtain⟨rfl,hB⟩:=hq
  exact⟨by simp,hB,.inl ⟨rfl,rfl,rfl⟩⟩
 ·refine aI _ _ _ _ _ (fun r σ' hq=>?_) (rV o L k h0 h1 σ (hv o (by simp)) h2)
  obtain⟨rfl,hB,hg⟩:=hq
  exact⟨rfl,hB,.inr ⟨o,by rw[iy],hg,rfl,by rw[iy];exact hp⟩⟩
theorem Gk {w:AV} (k:Int) (n:Nat) (h0:0<=k) (h1:k+3*n<=4611686018427387904) (hw:iJ aa (AS k n) w):aq Tryz.prog 79 [w,.int .i64 k] (.int .i64 (k+3*n)):=
 (IF k n h0 h1).cut mixed (hw.cut (.same _ .nil))
theorem Lc {L:List ad} {v w:AV} (hv:iJ aa L v) (hw:iJ aa L w):aq Tryz.prog 66 [v,w] (.bool true):=by
 have h:=oJ L L
 rw[decide_eq_true rfl]at h
 exact h.cut mixed (hv.cut (hw.cut .nil))
theorem vP {L:List ad} {v w:AV} (hv:iJ aa L v) (hw:iJ aa L w):aq Tryz.prog 21 [.agg [v],.agg [w]] (.bool true):=by
 refine aq.body eC rfl fun hl n0=>?_
 clear hl
 have h:=Lc hv hw
 rcases hv with⟨rfl,hL⟩|rfl<;>rcases hw with⟨rfl,hL2⟩|rfl
 ·(repeat(first|((repeat(revert hN;revert N;apply Pn.out));refine wk @Nat.zero_add ?_;(repeat(refine Pn.mk ?_;intro N hN)))|((try apply Or.inl);refine⟨_,aq.x (h) (sd @Nat.zero_add),?_⟩;refine hN _ _ ?_;clear hN N)))
  exact aT (b:=true) (.inl rfl) (sd @Nat.zero_add) rfl
 ·(repeat(first|((repeat(revert hN;revert N;apply Pn.out));refine wk @Nat.zero_add ?_;(repeat(refine Pn.mk ?_;intro N hN)))|((try apply Or.inl);refine⟨_,aq.x (h) (sd @Nat.zero_add),?_⟩;refine hN _ _ ?_;clear hN N)))
  exact aT (b:=true) (.inl rfl) (sd @Nat.zero_add) rfl
 ·(repeat(first|((repeat(revert hN;revert N;apply Pn.out));refine wk @Nat.zero_add ?_;(repeat(refine Pn.mk ?_;intro N hN)))|((try apply Or.inl);refine⟨_,aq.x (h) (sd @Nat.zero_add),?_⟩;refine hN _ _ ?_;clear hN N)))
  exact aT (b:=true) (.inl rfl) (sd @Nat.zero_add) rfl
 ·(repeat(first|((repeat(revert hN;revert N;apply Pn.out));refine wk @Nat.zero_add ?_;(repeat(refine Pn.mk ?_;intro N hN)))|((try apply Or.inl);refine⟨_,aq.x (h) (sd @Nat.zero_add),?_⟩;refine hN _ _ ?_;clear hN N)))
  exact aT (b:=true) (.inl rfl) (sd @Nat.zero_add) rfl
theorem wg {w:AV} (k:Int) (n:Nat) (h0:0<=k) (h1:k+3*n<=4611686018427387904) (hw:iJ aa (AS k n) w):aq Tryz.prog 37 [.agg [w],.int .i64 k] (.int .i64 (k+3*n)):=by
 refine aq.body eC rfl fun hl n0=>?_
 clear hl
 have h:=Gk k n h0 h1 hw
 have hp:¬k+3*(n:Int)<0:=by omega
 rcases hw with⟨rfl,hL⟩|rfl
 ·(repeat(first|((repeat(revert hN;revert N;apply Pn.out));refine wk @hp ?_;(repeat(refine Pn.mk ?_;intro N hN)))|((try apply Or.inl);refine⟨_,aq.x (h) (sd @hp),?_⟩;refine hN _ _ ?_;clear hN N)))
  exact b4 (b:=k+3*(n:Int)) (.inl rfl) (sd @Nat.zero_add) rfl
 ·(repeat(first|((repeat(revert hN;revert N;apply Pn.out));refine wk @hp ?_;(repeat(refine Pn.mk ?_;intro N hN)))|((try apply Or.inl);refine⟨_,aq.x (h) (sd @hp),?_⟩;refine hN _ _ ?_;clear hN N)))
  exact b4 (b:=k+3*(n:Int)) (.inl rfl) (sd @Nat.zero_add) rfl
theorem DR {v:AV} {L:List ad} {ids:List Id} (k:Int) (h0:0<=k) (h1:k+3*L.length<=4611686018427387904) (σ:ar) (hv:∀i∈ids,i.ck<σ.next) (h:pR aa 3 σ.get v L ids):
  Call Tryz.prog 32 [.agg [v],.int .i64 k] σ (fun r σ'=>r=.int .i64 (k+3*L.length)/\qY σ ids σ'.get σ'.next/\pR aa 3 σ'.get v (AS k L.length) ids):=by
 have jA:=h.frame (g':=bq σ.get ⟨32000000,σ.next⟩ ⟨true,1,[[v]]⟩) fun i hi=>by
  have:=dp (hv i hi)
  simp only[go_sem, ↓reduceIte,Nat.reduceEqDiff,Nat.reduceAdd,Nat.reduceSub,Nat.reduceLeDiff,reduceCtorEq,this]
 obtain⟨n,hn⟩:∃n,L.length=n:=⟨_,rfl⟩
 rcases h with⟨hL,rfl,Fb⟩|⟨o,rfl,h2,Fb,hp⟩
 ·clear hn
  refine eU eC rfl fun hl=>?_
  clear hl
  (try((repeat(revert hN;revert N;apply Pn.out));refine wk @Nat.zero_add ?_;(repeat(refine Pn.mk ?_;intro N hN))))
  refine .inr (aI _ _ _ _ _ (fun r σ1 hq=>?_) (yT k h0 h1 _ (fun i hi=>by have:=hv i hi;(try dsimp only);omega) jA))
  obtain⟨g1,x1⟩:=σ1
  obtain⟨rfl,⟨Fg,qG⟩,hO⟩:=hq
  (try dsimp only at Fg qG hO)
  refine hN _ _ ?_
  clear hN N
  (try((repeat(revert hN;revert N;apply Pn.out));refine wk @Nat.zero_add ?_;(repeat(refine Pn.mk ?_;intro N hN))))
  exact fx (.inl rfl) (vs:=[.int .i64 (k+3*L.length)]) (sd @Nat.zero_add) ⟨rfl,⟨by(try dsimp only);omega,fun x hx hi=>by
   have h2:=qG x (by(try dsimp only);omega) hi
   have h3:=dp hx
   simp only[go_sem, ↓reduceIte,Nat.reduceEqDiff,Nat.reduceAdd,Nat.reduceSub,Nat.reduceLeDiff,reduceCtorEq,h3]at h2
   exact h2⟩,hO⟩
 ·clear hn
  refine eU eC rfl fun hl=>?_
  clear hl
  (try((repeat(revert hN;revert N;apply Pn.out));refine wk @Nat.zero_add ?_;(repeat(refine Pn.mk ?_;intro N hN))))
  refine .inr (aI _ _ _ _ _ (fun r σ1 hq=>?_) (yT k h0 h1 _ (fun i hi=>by have:=hv i hi;(try dsimp only);omega) jA))
  obtain⟨g1,x1⟩:=σ1
  obtain⟨rfl,⟨Fg,qG⟩,hO⟩:=hq
  (try dsimp only at Fg qG hO)
  refine hN _ _ ?_
  clear hN N
  (try((repeat(revert hN;revert N;apply Pn.out));refine wk @Nat.zero_add ?_;(repeat(refine Pn.mk ?_;intro N hN))))
  exact fx (.inl rfl) (vs:=[.int .i64 (k+3*L.length)]) (sd @Nat.zero_add) ⟨rfl,⟨by(try dsimp only);omega,fun x hx hi=>by
   have h2:=qG x (by(try dsimp only);omega) hi
   have h3:=dp hx
   simp only[go_sem, ↓reduceIte,Nat.reduceEqDiff,Nat.reduceAdd,Nat.reduceSub,Nat.reduceLeDiff,reduceCtorEq,h3]at h2
   exact h2⟩,hO⟩
end Go.Proofs.YtgoelphibofcmaaGreat.V

namespace Go.Proofs.YtgoelphibofcmaaGreat.V
open Go.RowKit
attribute [local irreducible] dG wpOps gy Call
attribute [local go_sem] aM fF eP ga fW cQ upd cz K.av cR AV.cells AV.cell rowOf rowsOf part ld rowAt bq cu dD ee ik bJ dh ev fU eX dr ej dd dc dQ dR bQ bf cW bP cY cX eh ek ei cV cj de ef bK aO da cG ij bw cK bU aY dn aZ dE AV.undef bD bG dV ec dM dK cH eu ew cF ep eo cZ db List.getD_cons_zero List.getD_cons_succ List.getD_nil List.all_cons List.all_nil Bool.and_true Bool.true_and Bool.and_self Bool.not_true Bool.not_false Option.map_some Option.map_none Option.bind_some Option.bind_none List.length_cons List.length_nil List.take_succ_cons List.take_zero List.take_nil List.drop_succ_cons List.drop_zero List.drop_nil List.head?_cons List.map_cons List.map_nil List.getElem?_cons_zero List.getElem?_cons_succ List.cons_append List.nil_append List.append_nil List.length_map List.set_cons_zero List.set_cons_succ Nat.reduceMul eq_self Int.toNat_natCast Int.natCast_nonneg and_self true_and and_true decide_true decide_false Bool.false_eq_true Nat.zero_add Nat.add_zero List.contains_cons List.contains_nil Bool.or_false Bool.false_or beq_self_eq_true Nat.reduceBEq ne_eq not_true_eq_false not_false_eq_true Id.mk.injEq false_and and_false Nat.reduceLT Int.reduceLE Int.reduceLT Int.reduceToNat Int.reduceNeg Int.reduceAdd Nat.le_refl List.length_append beq_true beq_false Bool.not_eq_eq_eq_not or_false false_or dL ai aj aH bl bB cw aX bd aU bh cU bH
def jb (n lo hi:Int):Bool:=decide (lo<=n)&&decide (n<=hi)
theorem eA {n lo hi:Int} (h:jb n lo hi=true):lo<=n/\n<=hi:=by simpa[jb]using h
theorem kP {n lo hi:Int} (h:lo<=n/\n<=hi):jb n lo hi=true:=by simpa[jb]using h
def Cj (p:aD):Bool:=jb p.eZ (-60) 60&&jb p.eT (-60) 60
theorem lL (n lo hi:Int):aq Tryz.prog 137 [.int .i64 n,.int .i64 lo,.int .i64 hi] (.bool (jb n lo hi)):=by
 refine aq.body eC rfl fun hl n0=>?_
 clear hl
 by_cases h1:lo<=n
 ·(try((repeat(revert hN;revert N;apply Pn.out));refine wk @h1 ?_;(repeat(refine Pn.mk ?_;intro N hN))))
  exact aT (b:=decide (n<=hi)) (.inl rfl) (sd @Nat.zero_add) (by simp[jb,h1])
 ·(try((repeat(revert hN;revert N;apply Pn.out));refine wk @h1 ?_;(repeat(refine Pn.mk ?_;intro N hN))))
  exact aT (b:=false) (.inl rfl) (sd @Nat.zero_add) (by simp[jb,h1])
theorem k9 (n lo hi:Int):aq Tryz.prog 141 [.int .i64 n,.int .i64 lo,.int .i64 hi] (.bool (jb n lo hi)):=by
 refine aq.body eC rfl fun hl n0=>?_
 clear hl
 by_cases h1:lo<=n
 ·(try((repeat(revert hN;revert N;apply Pn.out));refine wk @h1 ?_;(repeat(refine Pn.mk ?_;intro N hN))))
  exact aT (b:=decide (n<=hi)) (.inl rfl) (sd @Nat.zero_add) (by simp[jb,h1])
 ·(try((repeat(revert hN;revert N;apply Pn.out));refine wk @h1 ?_;(repeat(refine Pn.mk ?_;intro N hN))))
  exact aT (b:=false) (.inl rfl) (sd @Nat.zero_add) (by simp[jb,h1])
theorem Jb (d:Int):aq Tryz.prog 173 [.int .i64 d] (.bool (jb d 0 3)):=by
 refine aq.body eC rfl fun hl n0=>?_
 clear hl
 have h:=lL d 0 3
 (repeat(first|((repeat(revert hN;revert N;apply Pn.out));refine wk @Nat.zero_add ?_;(repeat(refine Pn.mk ?_;intro N hN)))|((try apply Or.inl);refine⟨_,aq.x (h) (sd @Nat.zero_add),?_⟩;refine hN _ _ ?_;clear hN N)))
 exact aT (b:=jb d 0 3) (.inl rfl) (sd @Nat.zero_add) rfl
theorem wD (p:aD):aq Tryz.prog 123 [.agg (ae p)] (.bool (Cj p)):=by
 refine aq.body eC rfl fun hl n0=>?_
 clear hl
 have h1:=lL p.eZ (-60) 60
 have h2:=lL p.eT (-60) 60
 by_cases q:jb p.eZ (-60) 60=true
 ·rw[q]at h1
  (repeat(first|((repeat(revert hN;revert N;apply Pn.out));refine wk @ae.eq_1 ?_;(repeat(refine Pn.mk ?_;intro N hN)))|((try apply Or.inl);refine⟨_,aq.x (h1) (sd @ae.eq_1),?_⟩;refine hN _ _ ?_;clear hN N)|((try apply Or.inl);refine⟨_,aq.x (h2) (sd @ae.eq_1),?_⟩;refine hN _ _ ?_;clear hN N)))
  exact aT (b:=jb p.eT (-60) 60) (.inl rfl) (sd @Nat.zero_add) (by rw[Cj,q];rfl)
 ·rw[Bool.not_eq_true]at q
  rw[q]at h1
  (repeat(first|((repeat(revert hN;revert N;apply Pn.out));refine wk @ae.eq_1 ?_;(repeat(refine Pn.mk ?_;intro N hN)))|((try apply Or.inl);refine⟨_,aq.x (h1) (sd @ae.eq_1),?_⟩;refine hN _ _ ?_;clear hN N)|((try apply Or.inl);refine⟨_,aq.x (h2) (sd @ae.eq_1),?_⟩;refine hN _ _ ?_;clear hN N)))
  exact aT (b:=false) (.inl rfl) (sd @Nat.zero_add) (by rw[Cj,q];rfl)
theorem rj (p:aD):aq Tryz.prog 140 [.agg (ae p)] (.bool (Cj p)):=by
 refine aq.body eC rfl fun hl n0=>?_
 clear hl
 have h1:=k9 p.eZ (-60) 60
 have h2:=k9 p.eT (-60) 60
 by_cases q:jb p.eZ (-60) 60=true
 ·rw[q]at h1
  (repeat(first|((repeat(revert hN;revert N;apply Pn.out));refine wk @ae.eq_1 ?_;(repeat(refine Pn.mk ?_;intro N hN)))|((try apply Or.inl);refine⟨_,aq.x (h1) (sd @ae.eq_1),?_⟩;refine hN _ _ ?_;clear hN N)|((try apply Or.inl);refine⟨_,aq.x (h2) (sd @ae.eq_1),?_⟩;refine hN _ _ ?_;clear hN N)))
  exact aT (b:=jb p.eT (-60) 60) (.inl rfl) (sd @Nat.zero_add) (by rw[Cj,q];rfl)
 ·rw[Bool.not_eq_true]at q
  rw[q]at h1
  (repeat(first|((repeat(revert hN;revert N;apply Pn.out));refine wk @ae.eq_1 ?_;(repeat(refine Pn.mk ?_;intro N hN)))|((try apply Or.inl);refine⟨_,aq.x (h1) (sd @ae.eq_1),?_⟩;refine hN _ _ ?_;clear hN N)|((try apply Or.inl);refine⟨_,aq.x (h2) (sd @ae.eq_1),?_⟩;refine hN _ _ ?_;clear hN N)))
  exact aT (b:=false) (.inl rfl) (sd @Nat.zero_add) (by rw[Cj,q];rfl)
def tg (d:Int):Int:=if jb d 0 3 then(d+2) % 4 else -1
def dx (p:aD) (d:Int):aD:=
 if d=0 then⟨p.eZ,p.eT+1⟩else if d=1 then⟨p.eZ+1,p.eT⟩else if d=2 then⟨p.eZ,p.eT-1⟩else if d=3 then⟨p.eZ-1,p.eT⟩else p
def iB (n:Int):Prop:=-4611686018427387904<=n/\n<=4611686018427387904
theorem yN (p:aD) (d:Int) (hd:jb d 0 3=true) (hx:iB p.eZ) (hy:iB p.eT):aq Tryz.prog 122 [.agg (ae p),.int .i64 d] (.agg (ae (dx p d))):=by
 refine aq.body eC rfl fun hl n0=>?_
 clear hl
 obtain⟨x1,x2⟩:=hx
 obtain⟨y1,y2⟩:=hy
 have w1:IntKind.i64.wrap (p.eZ+1)=p.eZ+1:=bF (by omega)
 have w2:IntKind.i64.wrap (p.eZ-1)=p.eZ-1:=bF (by omega)
 have w3:IntKind.i64.wrap (p.eT+1)=p.eT+1:=bF (by omega)
 have w4:IntKind.i64.wrap (p.eT-1)=p.eT-1:=bF (by omega)
 have hb:=eA hd
 have hc:d=0∨d=1∨d=2∨d=3:=by omega
 rcases hc with rfl|rfl|rfl|rfl
 ·(try((repeat(revert hN;revert N;apply Pn.out));refine wk (tw @ae.eq_1 @w3) ?_;(repeat(refine Pn.mk ?_;intro N hN))))
  exact qe (.inl rfl) (vs:=[.agg (ae (dx p 0))]) (by simp only[go_sem, ↓reduceIte,Nat.reduceEqDiff,Nat.reduceAdd,Nat.reduceSub,Nat.reduceLeDiff,reduceCtorEq,ft,iq,ae,dx]) (by simp[fq,ae,gx,er])
 ·(try((repeat(revert hN;revert N;apply Pn.out));refine wk (tw @ae.eq_1 @w1) ?_;(repeat(refine Pn.mk ?_;intro N hN))))
  exact qe (.inl rfl) (vs:=[.agg (ae (dx p 1))]) (by simp[ft,iq,ae,dx,ld,rowAt,bq,upd,part]) (by simp[fq,ae,gx,er])
 ·(try((repeat(revert hN;revert N;apply Pn.out));refine wk (tw @ae.eq_1 @w4) ?_;(repeat(refine Pn.mk ?_;intro N hN))))
  exact qe (.inl rfl) (vs:=[.agg (ae (dx p 2))]) (by simp[ft,iq,ae,dx,ld,rowAt,bq,upd,part]) (by simp[fq,ae,gx,er])
 ·(try((repeat(revert hN;revert N;apply Pn.out));refine wk (tw @ae.eq_1 @w2) ?_;(repeat(refine Pn.mk ?_;intro N hN))))
  exact qe (.inl rfl) (vs:=[.agg (ae (dx p 3))]) (by simp[ft,iq,ae,dx,ld,rowAt,bq,upd,part]) (by simp[fq,ae,gx,er])
theorem Af (p p2:aD) (x y:Int) (hx:IntKind.i64.wrap (p.eZ+p2.eZ)=x) (hy:IntKind.i64.wrap (p.eT+p2.eT)=y):aq Tryz.prog 184 [.agg (ae p),.agg (ae p2)] (.agg [.int .i64 x,.int .i64 y]):=by
 refine aq.body eC rfl fun hl n0=>?_
 clear hl
 (try((repeat(revert hN;revert N;apply Pn.out));refine wk (tw @ae.eq_1 (tw @hx @hy)) ?_;(repeat(refine Pn.mk ?_;intro N hN))))
 exact qe (.inl rfl) (vs:=[.agg [.int .i64 x,.int .i64 y]]) (by simp only[go_sem, ↓reduceIte,Nat.reduceEqDiff,Nat.reduceAdd,Nat.reduceSub,Nat.reduceLeDiff,reduceCtorEq,ft,iq,ae]) (by simp[fq,gx,er])
theorem Em (p:aD) (d:Int) (hd:jb d 0 3=true) (hx:iB p.eZ) (hy:iB p.eT):aq Tryz.prog 149 [.agg (ae p),.int .i64 d] (.agg (ae (dx p d))):=by
 refine aq.body eC rfl fun hl n0=>?_
 clear hl
 obtain⟨x1,x2⟩:=hx
 obtain⟨y1,y2⟩:=hy
 have hb:=eA hd
 have hc:d=0∨d=1∨d=2∨d=3:=by omega
 rcases hc with rfl|rfl|rfl|rfl
 ·have h:=Af p ⟨0,1⟩ (p.eZ) (p.eT+1) (by rw[bF (by constructor<;>simp only<;>omega)]<;>(try simp only)<;>(try omega)) (by rw[bF (by constructor<;>simp only<;>omega)]<;>(try simp only)<;>(try omega))
  simp only[ae]at h
  (repeat(first|((repeat(revert hN;revert N;apply Pn.out));refine wk @ae.eq_1 ?_;(repeat(refine Pn.mk ?_;intro N hN)))|((try apply Or.inl);refine⟨_,aq.x (h) (sd @ae.eq_1),?_⟩;refine hN _ _ ?_;clear hN N)))
  exact qe (.inl rfl) (vs:=[.agg (ae (dx p 0))]) (by simp[ft,iq,ae,dx,ld,rowAt,bq,upd,part]) (by simp[fq,ae,gx,er])
 ·have h:=Af p ⟨1,0⟩ (p.eZ+1) (p.eT) (by rw[bF (by constructor<;>simp only<;>omega)]<;>(try simp only)<;>(try omega)) (by rw[bF (by constructor<;>simp only<;>omega)]<;>(try simp only)<;>(try omega))
  simp only[ae]at h
  (repeat(first|((repeat(revert hN;revert N;apply Pn.out));refine wk @ae.eq_1 ?_;(repeat(refine Pn.mk ?_;intro N hN)))|((try apply Or.inl);refine⟨_,aq.x (h) (sd @ae.eq_1),?_⟩;refine hN _ _ ?_;clear hN N)))
  exact qe (.inl rfl) (vs:=[.agg (ae (dx p 1))]) (by simp[ft,iq,ae,dx,ld,rowAt,bq,upd,part]) (by simp[fq,ae,gx,er])
 ·have h:=Af p ⟨0,(-1)⟩ (p.eZ) (p.eT-1) (by rw[bF (by constructor<;>simp only<;>omega)]<;>(try simp only)<;>(try omega)) (by rw[bF (by constructor<;>simp only<;>omega)]<;>(try simp only)<;>(try omega))
  simp only[ae]at h
  (repeat(first|((repeat(revert hN;revert N;apply Pn.out));refine wk @ae.eq_1 ?_;(repeat(refine Pn.mk ?_;intro N hN)))|((try apply Or.inl);refine⟨_,aq.x (h) (sd @ae.eq_1),?_⟩;refine hN _ _ ?_;clear hN N)))
  exact qe (.inl rfl) (vs:=[.agg (ae (dx p 2))]) (by simp[ft,iq,ae,dx,ld,rowAt,bq,upd,part]) (by simp[fq,ae,gx,er])
 ·have h:=Af p ⟨(-1),0⟩ (p.eZ-1) (p.eT) (by rw[bF (by constructor<;>simp only<;>omega)]<;>(try simp only)<;>(try omega)) (by rw[bF (by constructor<;>simp only<;>omega)]<;>(try simp only)<;>(try omega))
  simp only[ae]at h
  (repeat(first|((repeat(revert hN;revert N;apply Pn.out));refine wk @ae.eq_1 ?_;(repeat(refine Pn.mk ?_;intro N hN)))|((try apply Or.inl);refine⟨_,aq.x (h) (sd @ae.eq_1),?_⟩;refine hN _ _ ?_;clear hN N)))
  exact qe (.inl rfl) (vs:=[.agg (ae (dx p 3))]) (by simp[ft,iq,ae,dx,ld,rowAt,bq,upd,part]) (by simp[fq,ae,gx,er])
theorem DY (d:Int) (hd:jb d 0 3=true):aq Tryz.prog 153 [.int .i64 d] (.int .i64 (tg d)):=by
 refine aq.body eC rfl fun hl n0=>?_
 clear hl
 have hb:=eA hd
 have hw:IntKind.i64.wrap (d+2)=d+2:=bF (by omega)
 have ht:Int.tmod (d+2) 4=(d+2) % 4:=Int.tmod_eq_emod_of_nonneg (by omega)
 have h4:¬((4:Int)=0):=by omega
 (try((repeat(revert hN;revert N;apply Pn.out));refine wk (tw @hw (tw @ht @h4)) ?_;(repeat(refine Pn.mk ?_;intro N hN))))
 exact b4 (b:=(d+2) % 4) (.inl rfl) (sd @Nat.zero_add) (by rw[tg,if_pos hd])
theorem CY (d:Int) (hd:jb d 0 3=true):aq Tryz.prog 125 [.int .i64 d] (.int .i64 (tg d)):=by
 refine aq.body eC rfl fun hl n0=>?_
 clear hl
 have hb:=eA hd
 have hw:IntKind.i64.wrap (d+2)=d+2:=bF (by omega)
 have ht:Int.tmod (d+2) 4=(d+2) % 4:=Int.tmod_eq_emod_of_nonneg (by omega)
 have h4:¬((4:Int)=0):=by omega
 have h:=Jb d
 rw[hd]at h
 (repeat(first|((repeat(revert hN;revert N;apply Pn.out));refine wk (tw @hw (tw @ht @h4)) ?_;(repeat(refine Pn.mk ?_;intro N hN)))|((try apply Or.inl);refine⟨_,aq.x (h) (sd (tw @hw (tw @ht @h4))),?_⟩;refine hN _ _ ?_;clear hN N)))
 exact b4 (b:=(d+2) % 4) (.inl rfl) (sd @Nat.zero_add) (by rw[tg,if_pos hd])
end Go.Proofs.YtgoelphibofcmaaGreat.V

namespace Go.Proofs.YtgoelphibofcmaaGreat.V
open Go.RowKit
attribute [local irreducible] dG wpOps gy Call
attribute [local go_sem] aM fF eP ga fW cQ upd cz K.av cR AV.cells AV.cell rowOf rowsOf part ld rowAt bq cu dD ee ik bJ dh ev fU eX dr ej dd dc dQ dR bQ bf cW bP cY cX eh ek ei cV cj de ef bK aO da cG ij bw cK bU aY dn aZ dE AV.undef bD bG dV ec dM dK cH eu ew cF ep eo cZ db List.getD_cons_zero List.getD_cons_succ List.getD_nil List.all_cons List.all_nil Bool.and_true Bool.true_and Bool.and_self Bool.not_true Bool.not_false Option.map_some Option.map_none Option.bind_some Option.bind_none List.length_cons List.length_nil List.take_succ_cons List.take_zero List.take_nil List.drop_succ_cons List.drop_zero List.drop_nil List.head?_cons List.map_cons List.map_nil List.getElem?_cons_zero List.getElem?_cons_succ List.cons_append List.nil_append List.append_nil List.length_map List.set_cons_zero List.set_cons_succ Nat.reduceMul eq_self Int.toNat_natCast Int.natCast_nonneg and_self true_and and_true decide_true decide_false Bool.false_eq_true Nat.zero_add Nat.add_zero List.contains_cons List.contains_nil Bool.or_false Bool.false_or beq_self_eq_true Nat.reduceBEq ne_eq not_true_eq_false not_false_eq_true Id.mk.injEq false_and and_false Nat.reduceLT Int.reduceLE Int.reduceLT Int.reduceToNat Int.reduceNeg Int.reduceAdd Nat.le_refl List.length_append beq_true beq_false Bool.not_eq_eq_eq_not or_false false_or dL ai aj aH bl bB cw aX bd aU bh cU bH
def eL (s:au) (t:Int):Bool:=jb t 0 ((s.ah.length:Int)-1)
theorem wE (s:au) (t:Int):aq Tryz.prog 136 [.di (ab s),.int .i64 t] (.bool (eL s t)):=by
 refine aq.body eC rfl fun hl n0=>?_
 have hn:s.ah.length<=9223372036854775807:=by
  have h1:=(hl (.di (ab s)) (by simp)).BU (a:=.sl (s.ah.map bE)) (by simp[ab])
  simpa using h1.len
 clear hl
 have hw:IntKind.i64.wrap ((s.ah.length:Int)-1)=(s.ah.length:Int)-1:=bF (by omega)
 have h:=lL t 0 ((s.ah.length:Int)-1)
 (repeat(first|((repeat(revert hN;revert N;apply Pn.out));refine wk (tw @ab.eq_1 @hw) ?_;(repeat(refine Pn.mk ?_;intro N hN)))|((try apply Or.inl);refine⟨_,aq.x (h) (sd (tw @ab.eq_1 @hw)),?_⟩;refine hN _ _ ?_;clear hN N)))
 exact aT (b:=eL s t) (.inl rfl) (by simp only[go_sem, ↓reduceIte,Nat.reduceEqDiff,Nat.reduceAdd,Nat.reduceSub,Nat.reduceLeDiff,reduceCtorEq,eL]) rfl
theorem yL (t n:Int) (h0:0<=n) (h1:n<=9223372036854775807):aq Tryz.prog 139 [.int .i64 t,.int .i64 n] (.bool (jb t 0 (n-1))):=by
 refine aq.body eC rfl fun hl n0=>?_
 clear hl
 have hw:IntKind.i64.wrap (n-1)=n-1:=bF (by omega)
 have h:=k9 t 0 (n-1)
 (repeat(first|((repeat(revert hN;revert N;apply Pn.out));refine wk @hw ?_;(repeat(refine Pn.mk ?_;intro N hN)))|((try apply Or.inl);refine⟨_,aq.x (h) (sd @hw),?_⟩;refine hN _ _ ?_;clear hN N)))
 exact aT (b:=jb t 0 (n-1)) (.inl rfl) (sd @Nat.zero_add) rfl
theorem Ja (s:au) (t:Int):aq Tryz.prog 83 [.agg (ab s),.int .i64 t] (.bool (eL s t)):=by
 refine aq.body eC rfl fun hl n0=>?_
 have hn:s.ah.length<=9223372036854775807:=by
  have h1:=(hl (.agg (ab s)) (by simp)).Nv (a:=.sl (s.ah.map bE)) (by simp[ab])
  simpa using h1.len
 clear hl
 have h:=yL t s.ah.length (by omega) (by omega)
 (repeat(first|((repeat(revert hN;revert N;apply Pn.out));refine wk @ab.eq_1 ?_;(repeat(refine Pn.mk ?_;intro N hN)))|((try apply Or.inl);refine⟨_,aq.x (h) (sd @ab.eq_1),?_⟩;refine hN _ _ ?_;clear hN N)))
 exact aT (b:=eL s t) (.inl rfl) (by simp only[go_sem, ↓reduceIte,Nat.reduceEqDiff,Nat.reduceAdd,Nat.reduceSub,Nat.reduceLeDiff,reduceCtorEq,eL]) rfl
def Ac:eS:=⟨⟨#[]⟩,[]⟩
def dw (s:au) (t:Int):eS:=s.ah.getD t.toNat Ac
def dv (t:eS) (d:Int):Int:=t.bt.getD d.toNat 0
def qy (s:au) (g:Int):fB:=s.ax.getD g.toNat ⟨⟨#[]⟩,0⟩
def tt (s:au) (g:Int):Int:=if g=0 then 0 else(qy s (g-1)).ez
def gT (s:au) (a d b:Int):Int:=if dv (dw s a) d=dv (dw s b) (tg d)then tt s (dv (dw s a) d)else 0
structure kF (s:au):Prop where
 xf:∀t∈s.ah,t.bt.length=4
 wb:∀t∈s.ah,∀g∈t.bt,0<=g/\g<=s.ax.length
theorem getD_map {α β:Type} (e:α->β) {l:List α} {k:Nat} {d:α} (h:k<l.length):(l.map e)[k]? =some (e (l.getD k d)):=by simp[List.getD_eq_getElem?_getD,h]
theorem xU (s:au) (g:Int) (h0:0<=g) (h1:g<=s.ax.length):aq Tryz.prog 126 [.di (ab s),.int .i64 g] (.int .i64 (tt s g)):=by
 refine aq.body eC rfl fun hl n0=>?_
 have hn:s.ax.length<=9223372036854775807:=by
  have h1:=(hl (.di (ab s)) (by simp)).BU (a:=.sl (s.ax.map bI)) (by simp[ab])
  simpa using h1.len
 clear hl
 by_cases hg:g=0
 ·have e:decide (g=0)=true:=decide_eq_true hg
  (try((repeat(revert hN;revert N;apply Pn.out));refine wk (tw @ab.eq_1 @e) ?_;(repeat(refine Pn.mk ?_;intro N hN))))
  exact b4 (b:=0) (.inl rfl) (sd @Nat.zero_add) (by rw[tt,if_pos hg])
 ·have e:decide (g=0)=false:=decide_eq_false hg
  have hw:IntKind.i64.wrap (g-1)=g-1:=bF (by omega)
  have qE:0<=g-1:=by omega
  have fu:(s.ax.map bI)[(g-1).toNat]? =some (bI (qy s (g-1))):=getD_map bI (by omega)
  (try((repeat(revert hN;revert N;apply Pn.out));refine wk (tw @ab.eq_1 (tw @e (tw @hw (tw @qE (tw @fu @bI.eq_1))))) ?_;(repeat(refine Pn.mk ?_;intro N hN))))
  exact b4 (b:=(qy s (g-1)).ez) (.inl rfl) (sd @Nat.zero_add) (by rw[tt,if_neg hg])
theorem pf {s:au} {a:Int} (h:eL s a=true):0<=a/\(s.ah.map bE)[a.toNat]? =some (bE (dw s a))/\dw s a∈s.ah:=by
 have h':=eA h
 have dS:a.toNat<s.ah.length:=by omega
 refine⟨h'.1,getD_map bE dS,?_⟩
 unfold dw
 rw[List.getD_eq_getElem?_getD,List.getElem?_eq_getElem dS]
 exact List.getElem_mem dS
theorem pc {t:eS} {d:Int} (h:t.bt.length=4) (hd:jb d 0 3=true):(t.bt.map br)[d.toNat]? =some [.int .i64 (dv t d)]:=by
 have:=eA hd
 exact getD_map br (by omega)
theorem Cr {t:eS} {d:Int} (h:t.bt.length=4) (hd:jb d 0 3=true):dv t d∈t.bt:=by
 have:=eA hd
 have dS:d.toNat<t.bt.length:=by omega
 unfold dv
 rw[List.getD_eq_getElem?_getD,List.getElem?_eq_getElem dS]
 exact List.getElem_mem dS
theorem Ad {d:Int} (hd:jb d 0 3=true):jb (tg d) 0 3=true:=by
 have:=eA hd
 refine kP ?_
 rw[tg,if_pos hd];omega
theorem yO (s:au) (hF:kF s) (a d b:Int) (ha:eL s a=true) (hb:eL s b=true) (hd:jb d 0 3=true):aq Tryz.prog 147 [.di (ab s),.int .i64 a,.int .i64 d,.int .i64 b] (.int .i64 (gT s a d b)):=by
 refine aq.body eC rfl fun hl n0=>?_
 clear hl
 obtain⟨a0,a1,a2⟩:=pf ha
 obtain⟨b0,b1,b2⟩:=pf hb
 have s1:=pc (hF.xf _ a2) hd
 have s2:=pc (hF.xf _ b2) (Ad hd)
 have gl:=hF.wb _ a2 _ (Cr (hF.xf _ a2) hd)
 have d0:=(eA hd).1
 have d1:=(eA (Ad hd)).1
 have h:=CY d hd
 have hs:=xU s (dv (dw s a) d) gl.1 gl.2
 rw[ab]at hs
 by_cases e:dv (dw s a) d=dv (dw s b) (tg d)
 ·have e':decide (dv (dw s a) d=dv (dw s b) (tg d))=true:=decide_eq_true e
  (repeat(first|((repeat(revert hN;revert N;apply Pn.out));refine wk (tw @ab.eq_1 (tw @bE.eq_1 (tw @a0 (tw @a1 (tw @b0 (tw @b1 (tw @s1 (tw @s2 (tw @d0 (tw @d1 @e')))))))))) ?_;(repeat(refine Pn.mk ?_;intro N hN)))|((try apply Or.inl);refine⟨_,aq.x (h) (sd (tw @ab.eq_1 (tw @bE.eq_1 (tw @a0 (tw @a1 (tw @b0 (tw @b1 (tw @s1 (tw @s2 (tw @d0 (tw @d1 @e'))))))))))),?_⟩;refine hN _ _ ?_;clear hN N)|((try apply Or.inl);refine⟨_,aq.x (hs) (sd (tw @ab.eq_1 (tw @bE.eq_1 (tw @a0 (tw @a1 (tw @b0 (tw @b1 (tw @s1 (tw @s2 (tw @d0 (tw @d1 @e'))))))))))),?_⟩;refine hN _ _ ?_;clear hN N)))
  exact b4 (b:=tt s (dv (dw s a) d)) (.inl rfl) (sd @Nat.zero_add) (by rw[gT,if_pos e])
 ·have e':decide (dv (dw s a) d=dv (dw s b) (tg d))=false:=decide_eq_false e
  (repeat(first|((repeat(revert hN;revert N;apply Pn.out));refine wk (tw @ab.eq_1 (tw @bE.eq_1 (tw @a0 (tw @a1 (tw @b0 (tw @b1 (tw @s1 (tw @s2 (tw @d0 (tw @d1 @e')))))))))) ?_;(repeat(refine Pn.mk ?_;intro N hN)))|((try apply Or.inl);refine⟨_,aq.x (h) (sd (tw @ab.eq_1 (tw @bE.eq_1 (tw @a0 (tw @a1 (tw @b0 (tw @b1 (tw @s1 (tw @s2 (tw @d0 (tw @d1 @e'))))))))))),?_⟩;refine hN _ _ ?_;clear hN N)))
  exact b4 (b:=0) (.inl rfl) (sd @Nat.zero_add) (by rw[gT,if_neg e])
theorem Ep (s:au) (hF:kF s) (a d:Int) (ha:eL s a=true) (hd:jb d 0 3=true):aq Tryz.prog 185 [.agg (ab s),.int .i64 a,.int .i64 d] (.int .i64 (tt s (dv (dw s a) d))):=by
 refine aq.body eC rfl fun hl n0=>?_
 have hn:s.ax.length<=9223372036854775807:=by
  have h1:=(hl (.agg (ab s)) (by simp)).Nv (a:=.sl (s.ax.map bI)) (by simp[ab])
  simpa using h1.len
 clear hl
 obtain⟨a0,a1,a2⟩:=pf ha
 have s1:=pc (hF.xf _ a2) hd
 have gl:=hF.wb _ a2 _ (Cr (hF.xf _ a2) hd)
 have d0:=(eA hd).1
 by_cases hg:dv (dw s a) d=0
 ·have e:¬(0<dv (dw s a) d):=by omega
  (try((repeat(revert hN;revert N;apply Pn.out));refine wk (tw @ab.eq_1 (tw @bE.eq_1 (tw @a0 (tw @a1 (tw @s1 (tw @d0 @e)))))) ?_;(repeat(refine Pn.mk ?_;intro N hN))))
  exact b4 (b:=0) (.inl rfl) (sd @Nat.zero_add) (by rw[tt,if_pos hg])
 ·have e:0<dv (dw s a) d:=by omega
  have hw:IntKind.i64.wrap (dv (dw s a) d-1)=dv (dw s a) d-1:=bF (by omega)
  have qE:0<=dv (dw s a) d-1:=by omega
  have fu:(s.ax.map bI)[(dv (dw s a) d-1).toNat]? =some (bI (qy s (dv (dw s a) d-1))):=getD_map bI (by omega)
  (try((repeat(revert hN;revert N;apply Pn.out));refine wk (tw @ab.eq_1 (tw @bE.eq_1 (tw @a0 (tw @a1 (tw @s1 (tw @d0 (tw @e (tw @hw (tw @qE (tw @fu @bI.eq_1)))))))))) ?_;(repeat(refine Pn.mk ?_;intro N hN))))
  exact b4 (b:=(qy s (dv (dw s a) d-1)).ez) (.inl rfl) (sd @Nat.zero_add) (by rw[tt,if_neg hg])
theorem H4 (s:au) (hF:kF s) (a d b:Int) (ha:eL s a=true) (hb:eL s b=true) (hd:jb d 0 3=true):aq Tryz.prog 150 [.agg (ab s),.int .i64 a,.int .i64 d,.int .i64 b] (.int .i64 (gT s a d b)):=by
 refine aq.body eC rfl fun hl n0=>?_
 clear hl
 obtain⟨a0,a1,a2⟩:=pf ha
 obtain⟨b0,b1,b2⟩:=pf hb
 have s1:=pc (hF.xf _ a2) hd
 have s2:=pc (hF.xf _ b2) (Ad hd)
 have d0:=(eA hd).1
 have d1:=(eA (Ad hd)).1
 have h:=DY d hd
 have hs:=Ep s hF a d ha hd
 rw[ab]at hs
 by_cases e:dv (dw s a) d=dv (dw s b) (tg d)
 ·have e':decide (dv (dw s a) d=dv (dw s b) (tg d))=true:=decide_eq_true e
  (repeat(first|((repeat(revert hN;revert N;apply Pn.out));refine wk (tw @ab.eq_1 (tw @bE.eq_1 (tw @a0 (tw @a1 (tw @b0 (tw @b1 (tw @s1 (tw @s2 (tw @d0 (tw @d1 @e')))))))))) ?_;(repeat(refine Pn.mk ?_;intro N hN)))|((try apply Or.inl);refine⟨_,aq.x (h) (sd (tw @ab.eq_1 (tw @bE.eq_1 (tw @a0 (tw @a1 (tw @b0 (tw @b1 (tw @s1 (tw @s2 (tw @d0 (tw @d1 @e'))))))))))),?_⟩;refine hN _ _ ?_;clear hN N)|((try apply Or.inl);refine⟨_,aq.x (hs) (sd (tw @ab.eq_1 (tw @bE.eq_1 (tw @a0 (tw @a1 (tw @b0 (tw @b1 (tw @s1 (tw @s2 (tw @d0 (tw @d1 @e'))))))))))),?_⟩;refine hN _ _ ?_;clear hN N)))
  exact b4 (b:=tt s (dv (dw s a) d)) (.inl rfl) (sd @Nat.zero_add) (by rw[gT,if_pos e])
 ·have e':decide (dv (dw s a) d=dv (dw s b) (tg d))=false:=decide_eq_false e
  (repeat(first|((repeat(revert hN;revert N;apply Pn.out));refine wk (tw @ab.eq_1 (tw @bE.eq_1 (tw @a0 (tw @a1 (tw @b0 (tw @b1 (tw @s1 (tw @s2 (tw @d0 (tw @d1 @e')))))))))) ?_;(repeat(refine Pn.mk ?_;intro N hN)))|((try apply Or.inl);refine⟨_,aq.x (h) (sd (tw @ab.eq_1 (tw @bE.eq_1 (tw @a0 (tw @a1 (tw @b0 (tw @b1 (tw @s1 (tw @s2 (tw @d0 (tw @d1 @e'))))))))))),?_⟩;refine hN _ _ ?_;clear hN N)))
  exact b4 (b:=0) (.inl rfl) (sd @Nat.zero_add) (by rw[gT,if_neg e])
end Go.Proofs.YtgoelphibofcmaaGreat.V

namespace Go.Proofs.YtgoelphibofcmaaGreat.V
open Go.RowKit
attribute [local irreducible] dG wpOps gy Call
attribute [local go_sem] aM fF eP ga fW cQ upd cz K.av cR AV.cells AV.cell rowOf rowsOf part ld rowAt bq cu dD ee ik bJ dh ev fU eX dr ej dd dc dQ dR bQ bf cW bP cY cX eh ek ei cV cj de ef bK aO da cG ij bw cK bU aY dn aZ dE AV.undef bD bG dV ec dM dK cH eu ew cF ep eo cZ db List.getD_cons_zero List.getD_cons_succ List.getD_nil List.all_cons List.all_nil Bool.and_true Bool.true_and Bool.and_self Bool.not_true Bool.not_false Option.map_some Option.map_none Option.bind_some Option.bind_none List.length_cons List.length_nil List.take_succ_cons List.take_zero List.take_nil List.drop_succ_cons List.drop_zero List.drop_nil List.head?_cons List.map_cons List.map_nil List.getElem?_cons_zero List.getElem?_cons_succ List.cons_append List.nil_append List.append_nil List.length_map List.set_cons_zero List.set_cons_succ Nat.reduceMul eq_self Int.toNat_natCast Int.natCast_nonneg and_self true_and and_true decide_true decide_false Bool.false_eq_true Nat.zero_add Nat.add_zero List.contains_cons List.contains_nil Bool.or_false Bool.false_or beq_self_eq_true Nat.reduceBEq ne_eq not_true_eq_false not_false_eq_true Id.mk.injEq false_and and_false Nat.reduceLT Int.reduceLE Int.reduceLT Int.reduceToNat Int.reduceNeg Int.reduceAdd Nat.le_refl List.length_append beq_true beq_false Bool.not_eq_eq_eq_not or_false false_or dL ai aj aH bl bB cw aX bd aU bh cU bH
def pU (s:au) (i:Nat):fB:=s.ax.getD i ⟨⟨#[]⟩,0⟩
def pe (s:au) (i:Nat):eS:=s.ah.getD i Ac
def CV (s:au) (i:Nat):Prop:=jK (pU s i).aC=true/\jb (pU s i).ez 1 4=true/\∀j,j<i->(pU s j).aC≠(pU s i).aC
def AZ (s:au) (i:Nat):Prop:=jK (pe s i).aC=true/\(pe s i).bt.length=4/\(∀j,j<i->(pe s j).aC≠(pe s i).aC)/\∀g∈(pe s i).bt,jb g 0 s.ax.length=true
structure iF (s:au):Prop where
 wb:s.ax.length<=200
 some:1<=s.ah.length
 Kd:s.ah.length<=160
 Sf:∀i,i<s.ax.length->CV s i
 tok:∀i,i<s.ah.length->AZ s i
noncomputable def qT (s:au):Bool:=@decide (iF s) (Classical.propDecidable _)
theorem mE {s:au}:qT s=true↔iF s:=by simp[qT]
theorem fD {s:au} (h:¬iF s):false=qT s:=by simp[qT,h]
theorem Cq {s:au} (h:iF s):true=qT s:=by simp[qT,h]
theorem Av {s:au} {i:Nat} (h:i<s.ah.length):(s.ah.map bE)[i]? =some (bE (pe s i)):=getD_map bE h
theorem zI {s:au} {i:Nat} (h:i<s.ax.length):(s.ax.map bI)[i]? =some (bI (pU s i)):=getD_map bI h
theorem iF.form {s:au} (h:iF s):kF s:=by
 have key:∀t∈s.ah,∃i,i<s.ah.length/\t=pe s i:=fun t ht=>by
  obtain⟨i,hi,rfl⟩:=List.getElem_of_mem ht
  exact⟨i,hi,by simp[pe,List.getD_eq_getElem?_getD,hi]⟩
 refine⟨fun t ht=>?_,fun t ht g hg=>?_⟩
 ·obtain⟨i,hi,rfl⟩:=key t ht
  exact(h.tok i hi).2.1
 ·obtain⟨i,hi,rfl⟩:=key t ht
  exact eA ((h.tok i hi).2.2.2 g hg)
def dy (l:List ByteArray):List (List AV):=l.map fun n=>[.str n,.bool true]
abbrev mS:MK:=⟨false,[.tS]⟩
theorem ze (n:ByteArray):∀(l:List ByteArray) (i:Nat),∃r,gi mS [.str n] (dy l) i=some r/\((r=none/\n∉l)∨∃j,r=some (i+j)/\n∈l/\(dy l)[j]? =some [.str n,.bool true])
 |[],i=>⟨none,rfl,.inl ⟨rfl,by simp⟩⟩
 |m::l,i=>by
  obtain⟨r,h1,h2⟩:=ze n l (i+1)
  by_cases h:n=m
  ·subst h
   exact⟨some i,by simp[dy,gi,eX,fU,MK.ks],.inr ⟨0,rfl,by simp,rfl⟩⟩
  ·refine⟨r,?_,?_⟩
   ·unfold dy at h1 ⊢
    simp only[List.map_cons,gi,MK.ks,List.length_cons,List.length_nil,Nat.zero_add,List.take_succ_cons,List.take_zero,eX,fU,h,decide_false,Bool.and_true]
    exact h1
   ·rcases h2 with⟨rfl,h2⟩|⟨j,rfl,h2,h3⟩
    ·exact .inl ⟨rfl,by simp[h,h2]⟩
    ·exact .inr ⟨j+1,by congr 1;omega,by simp[h2],by simpa[dy]using h3⟩
theorem xc (n:ByteArray) (l:List ByteArray):(n∉l/\fM mS (.str n) (dy l)=some none)∨∃j,n∈l/\fM mS (.str n) (dy l)=some (some j)/\(dy l)[j]? =some [.str n,.bool true]:=by
 obtain⟨r,h1,h2⟩:=ze n l 0
 have e:fM mS (.str n) (dy l)=some r:=by
  unfold fM
  rw[if_pos ⟨rfl,rfl,rfl⟩];exact h1
 rcases h2 with⟨rfl,h2⟩|⟨j,rfl,h2,h3⟩
 ·exact .inl ⟨h2,e⟩
 ·exact .inr ⟨j,h2,by rw[e,Nat.zero_add],h3⟩
theorem O5 (s:au) (g:Int):aq Tryz.prog 200 [.int .i64 g,.di (ab s)] (.bool (!jb g 0 s.ax.length)):=by
 refine aq.body eC rfl fun hl n0=>?_
 clear hl
 have h:=k9 g 0 s.ax.length
 (repeat(first|((repeat(revert hN;revert N;apply Pn.out));refine wk @ab.eq_1 ?_;(repeat(refine Pn.mk ?_;intro N hN)))|((try apply Or.inl);refine⟨_,aq.x (h) (sd @ab.eq_1),?_⟩;refine hN _ _ ?_;clear hN N)))
 exact aT (b:= !jb g 0 s.ax.length) (.inl rfl) (sd @Nat.zero_add) rfl
theorem K9:Qf br (fun c=>.int .i64 c) 1 false:=⟨fun _=>rfl,fun _=>rfl,fun x g=>by rw[ai,aH,aj];rfl⟩
theorem Ml (s:au) (l:List Int) (hl:l.length<=1048576):aq Tryz.prog 199 [.sl (l.map br),.fn 200 [.di (ab s)]] (.bool (l.any fun g=> !jb g 0 s.ax.length)):=
 kJ K9 (show mi Tryz.prog 199=some (zM 199 224) by kernel_rfl)
  (show mi Tryz.prog 224=some (s8 224 1 false) by kernel_rfl) l hl _ _ _ rfl (fun g=>by rw[ai,aU,aj];rfl) (fun x _=>O5 s x) fun g=>by rw[ai,aU,aj];rfl
theorem wM {α:Type} (f:Nat->α) (n k:Nat) (x:α):x∉(List.range k).map f↔∀j,j<k->f j≠x:=by
 constructor
 ·intro h j hj he
  exact h (List.mem_map.2 ⟨j,List.mem_range.2 hj,he⟩)
 ·intro h hm
  obtain⟨j,hj,he⟩:=List.mem_map.1 hm
  exact h j (List.mem_range.1 hj) he
theorem C0 (s:au) (hn:fX s) (hg:s.ax.length<=1048576) (ht:s.ah.length<=1048576) (hs:∀t∈s.ah,t.bt.length<=1048576):aq Tryz.prog 164 [.agg (ab s)] (.bool (qT s)):=by
 refine aq.body eC rfl fun hl n0=>?_
 clear hl
 have QX:∀i,i<s.ax.length->(pU s i).aC.size<=9223372036854775807:=fun i hi=>hn.1 _ (by simp[pU,List.getD_eq_getElem?_getD,hi])
 have Rh:∀i,i<s.ah.length->(pe s i).aC.size<=9223372036854775807:=fun i hi=>hn.2 _ (by simp[pe,List.getD_eq_getElem?_getD,hi])
 have xS:∀i,i<s.ah.length->(pe s i).bt.length<=1048576:=fun i hi=>hs _ (by simp[pe,List.getD_eq_getElem?_getD,hi])
 have hw:=k9 (s.ah.length:Int) 1 160
 by_cases h1:(200:Int)<(s.ax.length:Int)
 ·(try((repeat(revert hN;revert N;apply Pn.out));refine wk (tw @ab.eq_1 @h1) ?_;(repeat(refine Pn.mk ?_;intro N hN))))
  exact aT (b:=false) (.inl rfl) (sd @Nat.zero_add) (fD fun h=>by have:=h.wb;omega)
 by_cases h2:jb (s.ah.length:Int) 1 160=true
 ·have CH:=eA h2
  rw[h2]at hw
  (repeat(first|((repeat(revert hN;revert N;apply Pn.out));refine wk (tw @ab.eq_1 @h1) ?_;(repeat(refine Pn.mk ?_;intro N hN)))|((try apply Or.inl);refine⟨_,aq.x (hw) (sd (tw @ab.eq_1 @h1)),?_⟩;refine hN _ _ ?_;clear hN N)))
  refine aW (fun n env st=>∃k:Nat,n=(s.ax.length)-k/\k<=(s.ax.length)/\env 24=.int .i64 (k:Int)/\st.get ⟨164000000,n0⟩=some ⟨true,2,[ab s]⟩/\st.get ⟨164003000,n0+1+1⟩=some ⟨true,mS.pG,dy ((List.range k).map fun i=>(pU s i).aC)⟩/\(∀j:Nat,j<k->CV s j)) (s.ax.length) ⟨0,by omega,by omega,by(try simp only[go_sem, ↓reduceIte,Nat.reduceEqDiff,Nat.reduceAdd,Nat.reduceSub,Nat.reduceLeDiff,reduceCtorEq,ab,List.range_zero,List.map_nil,dy]);try rfl,by(try simp only[go_sem, ↓reduceIte,Nat.reduceEqDiff,Nat.reduceAdd,Nat.reduceSub,Nat.reduceLeDiff,reduceCtorEq,ab,List.range_zero,List.map_nil,dy]);try rfl,by(try simp only[go_sem, ↓reduceIte,Nat.reduceEqDiff,Nat.reduceAdd,Nat.reduceSub,Nat.reduceLeDiff,reduceCtorEq,ab,List.range_zero,List.map_nil,dy]);try rfl,fun _ h=>absurd h (Nat.not_lt_zero _)⟩ ?_
  rintro n_a env_a st_a ⟨k,rfl,ale,a24,ag0,ag1,l6⟩ dH
  have a1:=dH 1 (by kernel_rfl);have a3:=dH 3 (by kernel_rfl);have a22:=dH 22 (by kernel_rfl);have a23:=dH 23 (by kernel_rfl)
  simp only[go_sem, ↓reduceIte,Nat.reduceEqDiff,Nat.reduceAdd,Nat.reduceSub,Nat.reduceLeDiff,reduceCtorEq,ab,List.range_zero,List.map_nil,dy]at a1 a3 a22 a23
  clear dH
  by_cases hk:(k:Int)<(s.ax.length:Int)
  ·have cE:∀{e:Env} {gg:Rows},(e 24=.int .i64 (IntKind.i64.wrap ((k:Int)+1)))->(gg ⟨164000000,n0⟩=some ⟨true,2,[ab s]⟩)->(gg ⟨164003000,n0+1+1⟩=some ⟨true,mS.pG,dy ((List.range (k+1)).map fun i=>(pU s i).aC)⟩)->(CV s k)->∃m0,m0<(s.ax.length)-k/\∃k:Nat,m0=(s.ax.length)-k/\k<=(s.ax.length)/\e 24=.int .i64 (k:Int)/\gg ⟨164000000,n0⟩=some ⟨true,2,[ab s]⟩/\gg ⟨164003000,n0+1+1⟩=some ⟨true,mS.pG,dy ((List.range k).map fun i=>(pU s i).aC)⟩/\(∀j:Nat,j<k->CV s j):=fun x1 x2 x3 x4=>⟨_,by omega,k+1,rfl,by omega,(by rw[x1,az (by omega)]),x2,x3,(all_succ l6 x4)⟩
   have fA:k<s.ax.length:=by omega
   have eQ:=zI fA
   have sF:=Fp (pU s k).aC (QX k fA)
   have KN:=k9 (pU s k).ez 1 4
   have BI:=xc (pU s k).aC ((List.range k).map fun i=>(pU s i).aC)
   rw[wM _ k]at BI
   have lk:(¬CV s k)->¬iF s:=fun h hp=>h (hp.Sf k fA)
   generalize uQ:pU s k=gl at *
   cases hb:jK gl.aC
   ·rw[hb]at sF
    (repeat(first|((repeat(revert hN;revert N;apply Pn.out));refine wk (tw @a24 (tw @ag0 (tw @ag1 (tw @a1 (tw @a3 (tw @a22 (tw @a23 (tw @hk (tw @eQ (tw @bI.eq_1 @ab.eq_1)))))))))) ?_;(repeat(refine Pn.mk ?_;intro N hN)))|((try apply Or.inl);refine⟨_,aq.x (sF) (sd (tw @a24 (tw @ag0 (tw @ag1 (tw @a1 (tw @a3 (tw @a22 (tw @a23 (tw @hk (tw @eQ (tw @bI.eq_1 @ab.eq_1))))))))))),?_⟩;refine hN _ _ ?_;clear hN N)))
    exact aT (b:=false) (.inl rfl) (sd @Nat.zero_add) (fD (lk fun h=>by rw[CV,uQ,hb]at h;cases h.1))
   ·rw[hb]at sF
    rcases BI with⟨Ds,l8⟩|⟨j,fh,l8,fQ⟩
    ·cases dF:jb gl.ez 1 4
     ·rw[dF]at KN
      (repeat(first|((repeat(revert hN;revert N;apply Pn.out));refine wk (tw @a24 (tw @ag0 (tw @ag1 (tw @a1 (tw @a3 (tw @a22 (tw @a23 (tw @hk (tw @eQ (tw @l8 (tw @bI.eq_1 @ab.eq_1))))))))))) ?_;(repeat(refine Pn.mk ?_;intro N hN)))|((try apply Or.inl);refine⟨_,aq.x (sF) (sd (tw @a24 (tw @ag0 (tw @ag1 (tw @a1 (tw @a3 (tw @a22 (tw @a23 (tw @hk (tw @eQ (tw @l8 (tw @bI.eq_1 @ab.eq_1)))))))))))),?_⟩;refine hN _ _ ?_;clear hN N)|((try apply Or.inl);refine⟨_,aq.x (KN) (sd (tw @a24 (tw @ag0 (tw @ag1 (tw @a1 (tw @a3 (tw @a22 (tw @a23 (tw @hk (tw @eQ (tw @l8 (tw @bI.eq_1 @ab.eq_1)))))))))))),?_⟩;refine hN _ _ ?_;clear hN N)))
      exact aT (b:=false) (.inl rfl) (sd @Nat.zero_add) (fD (lk fun h=>by rw[CV,uQ,dF]at h;cases h.2.1))
     ·rw[dF]at KN
      have qF:dy ((List.range k).map fun i=>(pU s i).aC)++[[.str gl.aC,.bool true]]=dy (List.map (fun i=>(pU s i).aC) (List.range k++[k])):=by simp[dy,uQ]
      (repeat(first|((repeat(revert hN;revert N;apply Pn.out));refine wk (tw @a24 (tw @ag0 (tw @ag1 (tw @a1 (tw @a3 (tw @a22 (tw @a23 (tw @hk (tw @eQ (tw @l8 (tw @bI.eq_1 @ab.eq_1))))))))))) ?_;(repeat(refine Pn.mk ?_;intro N hN)))|((try apply Or.inl);refine⟨_,aq.x (sF) (sd (tw @a24 (tw @ag0 (tw @ag1 (tw @a1 (tw @a3 (tw @a22 (tw @a23 (tw @hk (tw @eQ (tw @l8 (tw @bI.eq_1 @ab.eq_1)))))))))))),?_⟩;refine hN _ _ ?_;clear hN N)|((try apply Or.inl);refine⟨_,aq.x (KN) (sd (tw @a24 (tw @ag0 (tw @ag1 (tw @a1 (tw @a3 (tw @a22 (tw @a23 (tw @hk (tw @eQ (tw @l8 (tw @bI.eq_1 @ab.eq_1)))))))))))),?_⟩;refine hN _ _ ?_;clear hN N)))
      refine cE ?_ ?_ ?_ (⟨by rw[uQ];exact hb,by rw[uQ];exact dF,fun j hj=>by rw[uQ];exact Ds j hj⟩)
      all_goals simp only[go_sem, ↓reduceIte,Nat.reduceEqDiff,Nat.reduceAdd,Nat.reduceSub,Nat.reduceLeDiff,reduceCtorEq,a24,ag0,ag1,a1,a3,a22,a23,l8,qF]
    ·(repeat(first|((repeat(revert hN;revert N;apply Pn.out));refine wk (tw @a24 (tw @ag0 (tw @ag1 (tw @a1 (tw @a3 (tw @a22 (tw @a23 (tw @hk (tw @eQ (tw @l8 (tw @fQ (tw @bI.eq_1 @ab.eq_1)))))))))))) ?_;(repeat(refine Pn.mk ?_;intro N hN)))|((try apply Or.inl);refine⟨_,aq.x (sF) (sd (tw @a24 (tw @ag0 (tw @ag1 (tw @a1 (tw @a3 (tw @a22 (tw @a23 (tw @hk (tw @eQ (tw @l8 (tw @fQ (tw @bI.eq_1 @ab.eq_1))))))))))))),?_⟩;refine hN _ _ ?_;clear hN N)))
     exact aT (b:=false) (.inl rfl) (sd @Nat.zero_add) (fD (lk fun h=>by
      rw[CV,uQ]at h
      obtain⟨i,hi,he⟩:=List.mem_map.1 fh
      exact h.2.2 i (List.mem_range.1 hi) he))
  ·have l7:k=s.ax.length:=by omega
   (try((repeat(revert hN;revert N;apply Pn.out));refine wk (tw @a24 (tw @ag0 (tw @ag1 (tw @a1 (tw @a3 (tw @a22 (tw @a23 (tw @hk @ab.eq_1)))))))) ?_;(repeat(refine Pn.mk ?_;intro N hN))))
   refine aW (fun n env st=>∃j:Nat,n=(s.ah.length)-j/\j<=(s.ah.length)/\env 52=.int .i64 (j:Int)/\st.get ⟨164000000,n0⟩=some ⟨true,2,[ab s]⟩/\st.get ⟨164011000,st_a.next+1⟩=some ⟨true,mS.pG,dy ((List.range j).map fun i=>(pe s i).aC)⟩/\(∀i:Nat,i<j->AZ s i)/\(st_a.next<st.next)) (s.ah.length) ⟨0,by omega,by omega,by(try simp only[go_sem, ↓reduceIte,Nat.reduceEqDiff,Nat.reduceAdd,Nat.reduceSub,Nat.reduceLeDiff,reduceCtorEq,a24,ag0,ag1,a1,a3,a22,a23,ab,List.range_zero,List.map_nil,dy]);try rfl,by(try simp only[go_sem, ↓reduceIte,Nat.reduceEqDiff,Nat.reduceAdd,Nat.reduceSub,Nat.reduceLeDiff,reduceCtorEq,a24,ag0,ag1,a1,a3,a22,a23,ab,List.range_zero,List.map_nil,dy]);try rfl,by(try simp only[go_sem, ↓reduceIte,Nat.reduceEqDiff,Nat.reduceAdd,Nat.reduceSub,Nat.reduceLeDiff,reduceCtorEq,a24,ag0,ag1,a1,a3,a22,a23,ab,List.range_zero,List.map_nil,dy]);try rfl,fun _ h=>absurd h (Nat.not_lt_zero _),(by(try dsimp only);omega)⟩ ?_
   rintro n_b env_b st_b ⟨j,rfl,ble,b52,bg0,bg1,bA0,bI0⟩ fY
   have b1:=fY 1 (by kernel_rfl);have b6:=fY 6 (by kernel_rfl);have C3:=fY 50 (by kernel_rfl);have C4:=fY 51 (by kernel_rfl)
   simp only[go_sem, ↓reduceIte,Nat.reduceEqDiff,Nat.reduceAdd,Nat.reduceSub,Nat.reduceLeDiff,reduceCtorEq,a24,ag0,ag1,a1,a3,a22,a23,ab,List.range_zero,List.map_nil,dy]at b1 b6 C3 C4
   clear fY
   by_cases hj:(j:Int)<(s.ah.length:Int)
   ·have gj:∀{e:Env} {gg:Rows} {nx:Nat},(e 52=.int .i64 (IntKind.i64.wrap ((j:Int)+1)))->(gg ⟨164000000,n0⟩=some ⟨true,2,[ab s]⟩)->(gg ⟨164011000,st_a.next+1⟩=some ⟨true,mS.pG,dy ((List.range (j+1)).map fun i=>(pe s i).aC)⟩)->(AZ s j)->(st_a.next<nx)->∃m0,m0<(s.ah.length)-j/\∃j:Nat,m0=(s.ah.length)-j/\j<=(s.ah.length)/\e 52=.int .i64 (j:Int)/\gg ⟨164000000,n0⟩=some ⟨true,2,[ab s]⟩/\gg ⟨164011000,st_a.next+1⟩=some ⟨true,mS.pG,dy ((List.range j).map fun i=>(pe s i).aC)⟩/\(∀i:Nat,i<j->AZ s i)/\(st_a.next<nx):=fun x1 x2 x3 x4 x5=>⟨_,by omega,j+1,rfl,by omega,(by rw[x1,az (by omega)]),x2,x3,(all_succ bA0 x4),x5⟩
    have jB:j<s.ah.length:=by omega
    have nV:=Av jB
    have sF:=Fp (pe s j).aC (Rh j jB)
    have SR:=Ml s (pe s j).bt (xS j jB)
    have BI:=xc (pe s j).aC ((List.range j).map fun i=>(pe s i).aC)
    rw[wM _ j]at BI
    have lk:(¬AZ s j)->¬iF s:=fun h hp=>h (hp.tok j jB)
    have gW:(⟨164011000,st_a.next+1⟩:Id)≠⟨164000000,n0⟩:=by simp
    generalize htd:pe s j=tl at *
    cases hb:jK tl.aC
    ·rw[hb]at sF
     (repeat(first|((repeat(revert hN;revert N;apply Pn.out));refine wk (tw @b52 (tw @bg0 (tw @bg1 (tw @b1 (tw @b6 (tw @C3 (tw @C4 (tw @hj (tw @nV (tw @bE.eq_1 @ab.eq_1)))))))))) ?_;(repeat(refine Pn.mk ?_;intro N hN)))|((try apply Or.inl);refine⟨_,aq.x (sF) (sd (tw @b52 (tw @bg0 (tw @bg1 (tw @b1 (tw @b6 (tw @C3 (tw @C4 (tw @hj (tw @nV (tw @bE.eq_1 @ab.eq_1))))))))))),?_⟩;refine hN _ _ ?_;clear hN N)))
     exact aT (b:=false) (.inl rfl) (sd @Nat.zero_add) (fD (lk fun h=>by rw[AZ,htd,hb]at h;cases h.1))
    ·rw[hb]at sF
     rcases BI with⟨Ds,l8⟩|⟨i,fh,l8,fQ⟩
     ·by_cases h4:(tl.bt.length:Int)=4
      ·have zK:decide ((tl.bt.length:Int)=4)=true:=decide_eq_true h4
       cases hany:tl.bt.any fun g=> !jb g 0 s.ax.length
       ·rw[hany]at SR
        have qF:dy ((List.range j).map fun i=>(pe s i).aC)++[[.str tl.aC,.bool true]]=dy (List.map (fun i=>(pe s i).aC) (List.range j++[j])):=by simp[dy,htd]
        (repeat(first|((repeat(revert hN;revert N;apply Pn.out));refine wk (tw @b52 (tw @bg0 (tw @bg1 (tw @b1 (tw @b6 (tw @C3 (tw @C4 (tw @hj (tw @nV (tw @l8 (tw @zK (tw @bE.eq_1 @ab.eq_1)))))))))))) ?_;(repeat(refine Pn.mk ?_;intro N hN)))|((try apply Or.inl);refine⟨_,aq.x (sF) (sd (tw @b52 (tw @bg0 (tw @bg1 (tw @b1 (tw @b6 (tw @C3 (tw @C4 (tw @hj (tw @nV (tw @l8 (tw @zK (tw @bE.eq_1 @ab.eq_1))))))))))))),?_⟩;refine hN _ _ ?_;clear hN N)|((try apply Or.inl);refine⟨_,aq.x (SR) (sd (tw @b52 (tw @bg0 (tw @bg1 (tw @b1 (tw @b6 (tw @C3 (tw @C4 (tw @hj (tw @nV (tw @l8 (tw @zK (tw @bE.eq_1 @ab.eq_1))))))))))))),?_⟩;refine hN _ _ ?_;clear hN N)))
        refine gj ?_ ?_ ?_ (⟨by rw[htd];exact hb,by rw[htd];omega,fun i hi=>(by rw[htd];exact Ds i hi),fun g hg=>by rw[htd]at hg;have:=List.any_eq_false.1 hany g hg;simpa using this⟩) (by(try dsimp only);omega)
        all_goals simp only[go_sem, ↓reduceIte,Nat.reduceEqDiff,Nat.reduceAdd,Nat.reduceSub,Nat.reduceLeDiff,reduceCtorEq,b52,bg0,bg1,b1,b6,C3,C4,l8,qF]
       ·rw[hany]at SR
        (repeat(first|((repeat(revert hN;revert N;apply Pn.out));refine wk (tw @b52 (tw @bg0 (tw @bg1 (tw @b1 (tw @b6 (tw @C3 (tw @C4 (tw @hj (tw @nV (tw @l8 (tw @zK (tw @bE.eq_1 @ab.eq_1)))))))))))) ?_;(repeat(refine Pn.mk ?_;intro N hN)))|((try apply Or.inl);refine⟨_,aq.x (sF) (sd (tw @b52 (tw @bg0 (tw @bg1 (tw @b1 (tw @b6 (tw @C3 (tw @C4 (tw @hj (tw @nV (tw @l8 (tw @zK (tw @bE.eq_1 @ab.eq_1))))))))))))),?_⟩;refine hN _ _ ?_;clear hN N)|((try apply Or.inl);refine⟨_,aq.x (SR) (sd (tw @b52 (tw @bg0 (tw @bg1 (tw @b1 (tw @b6 (tw @C3 (tw @C4 (tw @hj (tw @nV (tw @l8 (tw @zK (tw @bE.eq_1 @ab.eq_1))))))))))))),?_⟩;refine hN _ _ ?_;clear hN N)))
        exact aT (b:=false) (.inl rfl) (sd @Nat.zero_add) (fD (lk fun h=>by
         rw[AZ,htd]at h
         obtain⟨g,hg,hq⟩:=List.any_eq_true.1 hany
         have:=h.2.2.2 g hg
         rw[this]at hq;cases hq))
      ·have zK:decide ((tl.bt.length:Int)=4)=false:=decide_eq_false h4
       (repeat(first|((repeat(revert hN;revert N;apply Pn.out));refine wk (tw @b52 (tw @bg0 (tw @bg1 (tw @b1 (tw @b6 (tw @C3 (tw @C4 (tw @hj (tw @nV (tw @l8 (tw @zK (tw @bE.eq_1 @ab.eq_1)))))))))))) ?_;(repeat(refine Pn.mk ?_;intro N hN)))|((try apply Or.inl);refine⟨_,aq.x (sF) (sd (tw @b52 (tw @bg0 (tw @bg1 (tw @b1 (tw @b6 (tw @C3 (tw @C4 (tw @hj (tw @nV (tw @l8 (tw @zK (tw @bE.eq_1 @ab.eq_1))))))))))))),?_⟩;refine hN _ _ ?_;clear hN N)))
       exact aT (b:=false) (.inl rfl) (sd @Nat.zero_add) (fD (lk fun h=>by rw[AZ,htd]at h;have:=h.2.1;omega))
     ·(repeat(first|((repeat(revert hN;revert N;apply Pn.out));refine wk (tw @b52 (tw @bg0 (tw @bg1 (tw @b1 (tw @b6 (tw @C3 (tw @C4 (tw @hj (tw @nV (tw @l8 (tw @fQ (tw @bE.eq_1 @ab.eq_1)))))))))))) ?_;(repeat(refine Pn.mk ?_;intro N hN)))|((try apply Or.inl);refine⟨_,aq.x (sF) (sd (tw @b52 (tw @bg0 (tw @bg1 (tw @b1 (tw @b6 (tw @C3 (tw @C4 (tw @hj (tw @nV (tw @l8 (tw @fQ (tw @bE.eq_1 @ab.eq_1))))))))))))),?_⟩;refine hN _ _ ?_;clear hN N)))
      exact aT (b:=false) (.inl rfl) (sd @Nat.zero_add) (fD (lk fun h=>by
       rw[AZ,htd]at h
       obtain⟨i,hi,he⟩:=List.mem_map.1 fh
       exact h.2.2.1 i (List.mem_range.1 hi) he))
   ·(try((repeat(revert hN;revert N;apply Pn.out));refine wk (tw @b52 (tw @bg0 (tw @bg1 (tw @b1 (tw @b6 (tw @C3 (tw @C4 (tw @hj @ab.eq_1)))))))) ?_;(repeat(refine Pn.mk ?_;intro N hN))))
    exact aT (b:=true) (.inl rfl) (sd @Nat.zero_add) (Cq ⟨by omega,by omega,by omega,fun i hi=>l6 i (by omega),fun i hi=>bA0 i (by omega)⟩)
 ·rw[Bool.not_eq_true]at h2
  rw[h2]at hw
  (repeat(first|((repeat(revert hN;revert N;apply Pn.out));refine wk (tw @ab.eq_1 @h1) ?_;(repeat(refine Pn.mk ?_;intro N hN)))|((try apply Or.inl);refine⟨_,aq.x (hw) (sd (tw @ab.eq_1 @h1)),?_⟩;refine hN _ _ ?_;clear hN N)))
  exact aT (b:=false) (.inl rfl) (sd @Nat.zero_add) (fD fun h=>by
   have h3:=h.some
   have h4:=h.Kd
   rw[kP ⟨by omega,by omega⟩]at h2;cases h2)
end Go.Proofs.YtgoelphibofcmaaGreat.V

namespace Go.Proofs.YtgoelphibofcmaaGreat.V
open Go.RowKit
attribute [local irreducible] dG wpOps gy Call
attribute [local go_sem] aM fF eP ga fW cQ upd cz K.av cR AV.cells AV.cell rowOf rowsOf part ld rowAt bq cu dD ee ik bJ dh ev fU eX dr ej dd dc dQ dR bQ bf cW bP cY cX eh ek ei cV cj de ef bK aO da cG ij bw cK bU aY dn aZ dE AV.undef bD bG dV ec dM dK cH eu ew cF ep eo cZ db List.getD_cons_zero List.getD_cons_succ List.getD_nil List.all_cons List.all_nil Bool.and_true Bool.true_and Bool.and_self Bool.not_true Bool.not_false Option.map_some Option.map_none Option.bind_some Option.bind_none List.length_cons List.length_nil List.take_succ_cons List.take_zero List.take_nil List.drop_succ_cons List.drop_zero List.drop_nil List.head?_cons List.map_cons List.map_nil List.getElem?_cons_zero List.getElem?_cons_succ List.cons_append List.nil_append List.append_nil List.length_map List.set_cons_zero List.set_cons_succ Nat.reduceMul eq_self Int.toNat_natCast Int.natCast_nonneg and_self true_and and_true decide_true decide_false Bool.false_eq_true Nat.zero_add Nat.add_zero List.contains_cons List.contains_nil Bool.or_false Bool.false_or beq_self_eq_true Nat.reduceBEq ne_eq not_true_eq_false not_false_eq_true Id.mk.injEq false_and and_false Nat.reduceLT Int.reduceLE Int.reduceLT Int.reduceToNat Int.reduceNeg Int.reduceAdd Nat.le_refl List.length_append beq_true beq_false Bool.not_eq_eq_eq_not or_false false_or dL ai aj aH bl bB cw aX bd aU bh cU bH
theorem uH {α:Type} {p:α->Bool} {xs:List α} {k:Nat} (hk:k<xs.length) (h1:p xs[k]=true) (h2:∀j (h:j<xs.length),j<k->p xs[j]=false):kh p xs=k:=by
 have:xs.findIdx p=k:=by rw[List.findIdx_eq hk];exact⟨h1,fun j hj=>h2 j (by omega) hj⟩
 rw[kh,this,if_pos hk]
theorem yn {α:Type} {p:α->Bool} {xs:List α} (h:∀j (h:j<xs.length),p xs[j]=false):kh p xs= -1:=by
 rw[kh,if_neg]
 rw[List.findIdx_lt_length]
 rintro⟨x,hx,LC⟩
 obtain⟨j,hj,rfl⟩:=List.getElem_of_mem hx
 rw[h j hj]at LC;cases LC
theorem zH {s:au} {i:Nat} (h:i<s.ax.length):pU s i=s.ax[i]:=by simp[pU,List.getD_eq_getElem?_getD,h]
theorem Au {s:au} {i:Nat} (h:i<s.ah.length):pe s i=s.ah[i]:=by simp[pe,List.getD_eq_getElem?_getD,h]
def KA (s:au) (n:ByteArray):Int:=kh (fun g:fB=>decide (g.aC=n)) s.ax
def Nd (s:au) (n:ByteArray):Int:=kh (fun t:eS=>decide (t.aC=n)) s.ah
theorem GB (s:au) (nm:ByteArray):aq Tryz.prog 190 [.di (ab s),.str nm] (.int .i64 (KA s nm+1)):=by
 refine aq.body eC rfl fun hl n0=>?_
 have hlen:s.ax.length<=9223372036854775807:=by
  have h1:=(hl (.di (ab s)) (by simp)).BU (a:=.sl (s.ax.map bI)) (by simp[ab])
  simpa using h1.len
 clear hl
 (try((repeat(revert hN;revert N;apply Pn.out));refine wk @ab.eq_1 ?_;(repeat(refine Pn.mk ?_;intro N hN))))
 refine aW (fun n env st=>∃k:Nat,n=(s.ax.length)-k/\k<=(s.ax.length)/\env 5=.int .i64 (k:Int)/\(∀j:Nat,j<k->∀h:j<s.ax.length,decide (s.ax[j].aC=nm)=false)) (s.ax.length) ⟨0,by omega,by omega,sl @ab.eq_1,fun _ h=>absurd h (Nat.not_lt_zero _)⟩ ?_
 rintro n_a env_a st_a ⟨k,rfl,ale,a5,l6⟩ dH
 have a0:=dH 0 (by kernel_rfl);have a1:=dH 1 (by kernel_rfl)
 simp only[go_sem, ↓reduceIte,Nat.reduceEqDiff,Nat.reduceAdd,Nat.reduceSub,Nat.reduceLeDiff,reduceCtorEq,ab]at a0 a1
 clear dH
 by_cases hk:(k:Int)<(s.ax.length:Int)
 ·have cE:∀{e:Env},(e 5=.int .i64 (IntKind.i64.wrap ((k:Int)+1)))->(∀h:k<s.ax.length,decide (s.ax[k].aC=nm)=false)->∃m0,m0<(s.ax.length)-k/\∃k:Nat,m0=(s.ax.length)-k/\k<=(s.ax.length)/\e 5=.int .i64 (k:Int)/\(∀j:Nat,j<k->∀h:j<s.ax.length,decide (s.ax[j].aC=nm)=false):=fun x1 x2=>⟨_,by omega,k+1,rfl,by omega,(by rw[x1,az (by omega)]),(all_succ l6 x2)⟩
  have fA:k<s.ax.length:=by omega
  have eQ:=zI fA
  have e:=zH fA
  cases hd:decide ((pU s k).aC=nm)
  ·have SA:=of_decide_eq_false hd
   (try((repeat(revert hN;revert N;apply Pn.out));refine wk (tw @a5 (tw @a0 (tw @a1 (tw @hk (tw @eQ (tw @SA (tw @hd (tw @bI.eq_1 @ab.eq_1)))))))) ?_;(repeat(refine Pn.mk ?_;intro N hN))))
   exact cE (sd (tw @a5 (tw @a0 @a1))) (fun _=>by rw[e]at hd;exact hd)
  ·have SA:=of_decide_eq_true hd
   have hw:IntKind.i64.wrap ((k:Int)+1)=(k:Int)+1:=bF (by omega)
   (try((repeat(revert hN;revert N;apply Pn.out));refine wk (tw @a5 (tw @a0 (tw @a1 (tw @hk (tw @eQ (tw @hd (tw @hw (tw @bI.eq_1 @ab.eq_1)))))))) ?_;(repeat(refine Pn.mk ?_;intro N hN))))
   exact b4 (b:=(k:Int)+1) (.inl rfl) (sd @Nat.zero_add) (by rw[KA,uH fA (by rw[e]at hd;exact hd) fun j h hj=>l6 j hj h])
 ·(try((repeat(revert hN;revert N;apply Pn.out));refine wk (tw @a5 (tw @a0 (tw @a1 (tw @hk @ab.eq_1)))) ?_;(repeat(refine Pn.mk ?_;intro N hN))))
  exact b4 (b:=0) (.inl rfl) (sd @Nat.zero_add) (by rw[KA,yn fun j h=>l6 j (by omega) h];rfl)
theorem GC (s:au) (nm:ByteArray):aq Tryz.prog 191 [.di (ab s),.str nm] (.int .i64 (Nd s nm)):=by
 refine aq.body eC rfl fun hl n0=>?_
 have hlen:s.ah.length<=9223372036854775807:=by
  have h1:=(hl (.di (ab s)) (by simp)).BU (a:=.sl (s.ah.map bE)) (by simp[ab])
  simpa using h1.len
 clear hl
 (try((repeat(revert hN;revert N;apply Pn.out));refine wk @ab.eq_1 ?_;(repeat(refine Pn.mk ?_;intro N hN))))
 refine aW (fun n env st=>∃k:Nat,n=(s.ah.length)-k/\k<=(s.ah.length)/\env 5=.int .i64 (k:Int)/\(∀j:Nat,j<k->∀h:j<s.ah.length,decide (s.ah[j].aC=nm)=false)) (s.ah.length) ⟨0,by omega,by omega,sl @ab.eq_1,fun _ h=>absurd h (Nat.not_lt_zero _)⟩ ?_
 rintro n_a env_a st_a ⟨k,rfl,ale,a5,l6⟩ dH
 have a0:=dH 0 (by kernel_rfl);have a1:=dH 1 (by kernel_rfl)
 simp only[go_sem, ↓reduceIte,Nat.reduceEqDiff,Nat.reduceAdd,Nat.reduceSub,Nat.reduceLeDiff,reduceCtorEq,ab]at a0 a1
 clear dH
 by_cases hk:(k:Int)<(s.ah.length:Int)
 ·have cE:∀{e:Env},(e 5=.int .i64 (IntKind.i64.wrap ((k:Int)+1)))->(∀h:k<s.ah.length,decide (s.ah[k].aC=nm)=false)->∃m0,m0<(s.ah.length)-k/\∃k:Nat,m0=(s.ah.length)-k/\k<=(s.ah.length)/\e 5=.int .i64 (k:Int)/\(∀j:Nat,j<k->∀h:j<s.ah.length,decide (s.ah[j].aC=nm)=false):=fun x1 x2=>⟨_,by omega,k+1,rfl,by omega,(by rw[x1,az (by omega)]),(all_succ l6 x2)⟩
  have fA:k<s.ah.length:=by omega
  have eQ:=Av fA
  have e:=Au fA
  cases hd:decide ((pe s k).aC=nm)
  ·(try((repeat(revert hN;revert N;apply Pn.out));refine wk (tw @a5 (tw @a0 (tw @a1 (tw @hk (tw @eQ (tw @hd (tw @bE.eq_1 @ab.eq_1))))))) ?_;(repeat(refine Pn.mk ?_;intro N hN))))
   exact cE (sd (tw @a5 (tw @a0 @a1))) (fun _=>by rw[e]at hd;exact hd)
  ·(try((repeat(revert hN;revert N;apply Pn.out));refine wk (tw @a5 (tw @a0 (tw @a1 (tw @hk (tw @eQ (tw @hd (tw @bE.eq_1 @ab.eq_1))))))) ?_;(repeat(refine Pn.mk ?_;intro N hN))))
   exact b4 (b:=(k:Int)) (.inl rfl) (sd @Nat.zero_add) (by rw[Nd,uH fA (by rw[e]at hd;exact hd) fun j h hj=>l6 j hj h])
 ·(try((repeat(revert hN;revert N;apply Pn.out));refine wk (tw @a5 (tw @a0 (tw @a1 (tw @hk @ab.eq_1)))) ?_;(repeat(refine Pn.mk ?_;intro N hN))))
  exact b4 (b:=-1) (.inl rfl) (sd @Nat.zero_add) (by rw[Nd,yn fun j h=>l6 j (by omega) h])
theorem NQ {s:au} {i:Nat} (h:i<s.ax.length):KA s (pU s i).aC=i↔∀j,j<i->(pU s j).aC≠(pU s i).aC:=by
 constructor
 ·intro he j hj hc
  have gZ:j<s.ax.length:=by omega
  have:s.ax.findIdx (fun g:fB=>decide (g.aC=(pU s i).aC))<=j:=by
   rcases Nat.lt_or_ge j (s.ax.findIdx fun g:fB=>decide (g.aC=(pU s i).aC))with dS|qE
   ·have:=List.not_of_lt_findIdx dS
    rw[<-zH gZ]at this
    simp[hc]at this
   ·exact qE
  unfold KA kh at he
  split at he<;>omega
 ·intro hd
  exact uH h (by rw[<-zH h];simp) fun j gZ hj=>by rw[<-zH gZ];simpa using hd j hj
theorem Pa {s:au} {i:Nat} (h:i<s.ah.length):Nd s (pe s i).aC=i↔∀j,j<i->(pe s j).aC≠(pe s i).aC:=by
 constructor
 ·intro he j hj hc
  have gZ:j<s.ah.length:=by omega
  have:s.ah.findIdx (fun g:eS=>decide (g.aC=(pe s i).aC))<=j:=by
   rcases Nat.lt_or_ge j (s.ah.findIdx fun g:eS=>decide (g.aC=(pe s i).aC))with dS|qE
   ·have:=List.not_of_lt_findIdx dS
    rw[<-Au gZ]at this
    simp[hc]at this
   ·exact qE
  unfold Nd kh at he
  split at he<;>omega
 ·intro hd
  exact uH h (by rw[<-Au h];simp) fun j gZ hj=>by rw[<-Au gZ];simpa using hd j hj
theorem LP (s:au) (hn:fX s) (hg:s.ax.length<=1048576) (ht:s.ah.length<=1048576):aq Tryz.prog 156 [.di (ab s)] (.bool (qT s)):=by
 refine aq.body eC rfl fun hl n0=>?_
 clear hl
 have QX:∀i,i<s.ax.length->(pU s i).aC.size<=9223372036854775807:=fun i hi=>hn.1 _ (by simp[pU,List.getD_eq_getElem?_getD,hi])
 have Rh:∀i,i<s.ah.length->(pe s i).aC.size<=9223372036854775807:=fun i hi=>hn.2 _ (by simp[pe,List.getD_eq_getElem?_getD,hi])
 by_cases h1:(200:Int)<(s.ax.length:Int)
 ·(try((repeat(revert hN;revert N;apply Pn.out));refine wk (tw @ab.eq_1 @h1) ?_;(repeat(refine Pn.mk ?_;intro N hN))))
  exact aT (b:=false) (.inl rfl) (sd @Nat.zero_add) (fD fun h=>by have:=h.wb;omega)
 by_cases h2:(s.ah.length:Int)<1
 ·(try((repeat(revert hN;revert N;apply Pn.out));refine wk (tw @ab.eq_1 (tw @h1 @h2)) ?_;(repeat(refine Pn.mk ?_;intro N hN))))
  exact aT (b:=false) (.inl rfl) (sd @Nat.zero_add) (fD fun h=>by have:=h.some;omega)
 by_cases h3:(160:Int)<(s.ah.length:Int)
 ·(try((repeat(revert hN;revert N;apply Pn.out));refine wk (tw @ab.eq_1 (tw @h1 (tw @h2 @h3))) ?_;(repeat(refine Pn.mk ?_;intro N hN))))
  exact aT (b:=false) (.inl rfl) (sd @Nat.zero_add) (fD fun h=>by have:=h.Kd;omega)
 (try((repeat(revert hN;revert N;apply Pn.out));refine wk (tw @ab.eq_1 (tw @h1 (tw @h2 @h3))) ?_;(repeat(refine Pn.mk ?_;intro N hN))))
 refine aW (fun n env st=>∃k:Nat,n=(s.ax.length)-k/\k<=(s.ax.length)/\env 3=.int .i64 (k:Int)/\(∀j:Nat,j<k->CV s j)) (s.ax.length) ⟨0,by omega,by omega,sl @ab.eq_1,fun _ h=>absurd h (Nat.not_lt_zero _)⟩ ?_
 rintro n_a env_a st_a ⟨k,rfl,ale,a3,l6⟩ dH
 have a0:=dH 0 (by kernel_rfl)
 simp only[go_sem, ↓reduceIte,Nat.reduceEqDiff,Nat.reduceAdd,Nat.reduceSub,Nat.reduceLeDiff,reduceCtorEq,ab]at a0
 clear dH
 by_cases hk:(k:Int)<(s.ax.length:Int)
 ·have cE:∀{e:Env},(e 3=.int .i64 (IntKind.i64.wrap ((k:Int)+1)))->(CV s k)->∃m0,m0<(s.ax.length)-k/\∃k:Nat,m0=(s.ax.length)-k/\k<=(s.ax.length)/\e 3=.int .i64 (k:Int)/\(∀j:Nat,j<k->CV s j):=fun x1 x2=>⟨_,by omega,k+1,rfl,by omega,(by rw[x1,az (by omega)]),(all_succ l6 x2)⟩
  have fA:k<s.ax.length:=by omega
  have eQ:=zI fA
  have sF:=FC (pU s k).aC (QX k fA)
  have KN:=lL (pU s k).ez 1 4
  have Gm:=GB s (pU s k).aC
  have rL:=NQ fA
  have lk:(¬CV s k)->¬iF s:=fun h hp=>h (hp.Sf k fA)
  have hw:IntKind.i64.wrap ((k:Int)+1)=(k:Int)+1:=bF (by omega)
  generalize uQ:pU s k=gl at *
  cases hb:jK gl.aC
  ·rw[hb]at sF
   (repeat(first|((repeat(revert hN;revert N;apply Pn.out));refine wk (tw @a3 (tw @a0 (tw @hk (tw @eQ (tw @bI.eq_1 @ab.eq_1))))) ?_;(repeat(refine Pn.mk ?_;intro N hN)))|((try apply Or.inl);refine⟨_,aq.x (sF) (sd (tw @a3 (tw @a0 (tw @hk (tw @eQ (tw @bI.eq_1 @ab.eq_1)))))),?_⟩;refine hN _ _ ?_;clear hN N)))
   exact aT (b:=false) (.inl rfl) (sd @Nat.zero_add) (fD (lk fun h=>by rw[CV,uQ,hb]at h;cases h.1))
  rw[hb]at sF
  cases dF:jb gl.ez 1 4
  ·rw[dF]at KN
   (repeat(first|((repeat(revert hN;revert N;apply Pn.out));refine wk (tw @a3 (tw @a0 (tw @hk (tw @eQ (tw @bI.eq_1 @ab.eq_1))))) ?_;(repeat(refine Pn.mk ?_;intro N hN)))|((try apply Or.inl);refine⟨_,aq.x (sF) (sd (tw @a3 (tw @a0 (tw @hk (tw @eQ (tw @bI.eq_1 @ab.eq_1)))))),?_⟩;refine hN _ _ ?_;clear hN N)|((try apply Or.inl);refine⟨_,aq.x (KN) (sd (tw @a3 (tw @a0 (tw @hk (tw @eQ (tw @bI.eq_1 @ab.eq_1)))))),?_⟩;refine hN _ _ ?_;clear hN N)))
   exact aT (b:=false) (.inl rfl) (sd @Nat.zero_add) (fD (lk fun h=>by rw[CV,uQ,dF]at h;cases h.2.1))
  rw[dF]at KN
  rw[ab]at Gm
  by_cases hq:KA s gl.aC=(k:Int)
  ·have hd:decide (KA s gl.aC+1=(k:Int)+1)=true:=decide_eq_true (by omega)
   have nT:decide (KA s gl.aC=(k:Int))=true:=decide_eq_true hq
   (repeat(first|((repeat(revert hN;revert N;apply Pn.out));refine wk (tw @a3 (tw @a0 (tw @hk (tw @eQ (tw @hw (tw @hd (tw @nT (tw @bI.eq_1 @ab.eq_1)))))))) ?_;(repeat(refine Pn.mk ?_;intro N hN)))|((try apply Or.inl);refine⟨_,aq.x (sF) (sd (tw @a3 (tw @a0 (tw @hk (tw @eQ (tw @hw (tw @hd (tw @nT (tw @bI.eq_1 @ab.eq_1))))))))),?_⟩;refine hN _ _ ?_;clear hN N)|((try apply Or.inl);refine⟨_,aq.x (KN) (sd (tw @a3 (tw @a0 (tw @hk (tw @eQ (tw @hw (tw @hd (tw @nT (tw @bI.eq_1 @ab.eq_1))))))))),?_⟩;refine hN _ _ ?_;clear hN N)|((try apply Or.inl);refine⟨_,aq.x (Gm) (sd (tw @a3 (tw @a0 (tw @hk (tw @eQ (tw @hw (tw @hd (tw @nT (tw @bI.eq_1 @ab.eq_1))))))))),?_⟩;refine hN _ _ ?_;clear hN N)))
   exact cE (sd (tw @a3 (tw @a0 @hw))) (⟨by rw[uQ];exact hb,by rw[uQ];exact dF,fun j hj=>by rw[uQ];exact rL.1 hq j hj⟩)
  ·have hd:decide (KA s gl.aC+1=(k:Int)+1)=false:=decide_eq_false (by omega)
   have nT:decide (KA s gl.aC=(k:Int))=false:=decide_eq_false hq
   (repeat(first|((repeat(revert hN;revert N;apply Pn.out));refine wk (tw @a3 (tw @a0 (tw @hk (tw @eQ (tw @hw (tw @hd (tw @nT (tw @bI.eq_1 @ab.eq_1)))))))) ?_;(repeat(refine Pn.mk ?_;intro N hN)))|((try apply Or.inl);refine⟨_,aq.x (sF) (sd (tw @a3 (tw @a0 (tw @hk (tw @eQ (tw @hw (tw @hd (tw @nT (tw @bI.eq_1 @ab.eq_1))))))))),?_⟩;refine hN _ _ ?_;clear hN N)|((try apply Or.inl);refine⟨_,aq.x (KN) (sd (tw @a3 (tw @a0 (tw @hk (tw @eQ (tw @hw (tw @hd (tw @nT (tw @bI.eq_1 @ab.eq_1))))))))),?_⟩;refine hN _ _ ?_;clear hN N)|((try apply Or.inl);refine⟨_,aq.x (Gm) (sd (tw @a3 (tw @a0 (tw @hk (tw @eQ (tw @hw (tw @hd (tw @nT (tw @bI.eq_1 @ab.eq_1))))))))),?_⟩;refine hN _ _ ?_;clear hN N)))
   exact aT (b:=false) (.inl rfl) (sd @Nat.zero_add) (fD (lk fun h=>by
    rw[CV,uQ]at h
    exact hq (rL.2 h.2.2)))
 ·have l7:k=s.ax.length:=by omega
  (try((repeat(revert hN;revert N;apply Pn.out));refine wk (tw @a3 (tw @a0 (tw @hk @ab.eq_1))) ?_;(repeat(refine Pn.mk ?_;intro N hN))))
  refine aW (fun n env st=>∃j:Nat,n=(s.ah.length)-j/\j<=(s.ah.length)/\env 5=.int .i64 (j:Int)/\(∀i:Nat,i<j->AZ s i)) (s.ah.length) ⟨0,by omega,by omega,sl (tw @a3 (tw @a0 @ab.eq_1)),fun _ h=>absurd h (Nat.not_lt_zero _)⟩ ?_
  rintro n_b env_b st_b ⟨j,rfl,ble,b5,bA0⟩ fY
  have b0:=fY 0 (by kernel_rfl)
  simp only[go_sem, ↓reduceIte,Nat.reduceEqDiff,Nat.reduceAdd,Nat.reduceSub,Nat.reduceLeDiff,reduceCtorEq,a3,a0,ab]at b0
  clear fY
  by_cases hj:(j:Int)<(s.ah.length:Int)
  ·have gj:∀{e:Env},(e 5=.int .i64 (IntKind.i64.wrap ((j:Int)+1)))->(AZ s j)->∃m0,m0<(s.ah.length)-j/\∃j:Nat,m0=(s.ah.length)-j/\j<=(s.ah.length)/\e 5=.int .i64 (j:Int)/\(∀i:Nat,i<j->AZ s i):=fun x1 x2=>⟨_,by omega,j+1,rfl,by omega,(by rw[x1,az (by omega)]),(all_succ bA0 x2)⟩
   have jB:j<s.ah.length:=by omega
   have nV:=Av jB
   have sF:=FC (pe s j).aC (Rh j jB)
   have Gm:=GC s (pe s j).aC
   have rL:=Pa jB
   have lk:(¬AZ s j)->¬iF s:=fun h hp=>h (hp.tok j jB)
   generalize htd:pe s j=tl at *
   cases hb:jK tl.aC
   ·rw[hb]at sF
    (repeat(first|((repeat(revert hN;revert N;apply Pn.out));refine wk (tw @b5 (tw @b0 (tw @hj (tw @nV (tw @bE.eq_1 @ab.eq_1))))) ?_;(repeat(refine Pn.mk ?_;intro N hN)))|((try apply Or.inl);refine⟨_,aq.x (sF) (sd (tw @b5 (tw @b0 (tw @hj (tw @nV (tw @bE.eq_1 @ab.eq_1)))))),?_⟩;refine hN _ _ ?_;clear hN N)))
    exact aT (b:=false) (.inl rfl) (sd @Nat.zero_add) (fD (lk fun h=>by rw[AZ,htd,hb]at h;cases h.1))
   rw[hb]at sF
   by_cases h4:(tl.bt.length:Int)=4
   ·have zK:decide ((tl.bt.length:Int)=4)=true:=decide_eq_true h4
    rw[ab]at Gm
    by_cases hq:Nd s tl.aC=(j:Int)
    ·have hd:decide (Nd s tl.aC=(j:Int))=true:=decide_eq_true hq
     (repeat(first|((repeat(revert hN;revert N;apply Pn.out));refine wk (tw @b5 (tw @b0 (tw @hj (tw @nV (tw @zK (tw @hd (tw @bE.eq_1 @ab.eq_1))))))) ?_;(repeat(refine Pn.mk ?_;intro N hN)))|((try apply Or.inl);refine⟨_,aq.x (sF) (sd (tw @b5 (tw @b0 (tw @hj (tw @nV (tw @zK (tw @hd (tw @bE.eq_1 @ab.eq_1)))))))),?_⟩;refine hN _ _ ?_;clear hN N)|((try apply Or.inl);refine⟨_,aq.x (Gm) (sd (tw @b5 (tw @b0 (tw @hj (tw @nV (tw @zK (tw @hd (tw @bE.eq_1 @ab.eq_1)))))))),?_⟩;refine hN _ _ ?_;clear hN N)))
     refine aW (fun n env st=>∃i:Nat,n=(4)-i/\i<=(4)/\env 7=.int .i64 (i:Int)/\st.get ⟨156012007,st_b.next+1⟩=some ⟨true,2,[bE tl]⟩/\(∀x:Nat,x<i->jb (tl.bt.getD x 0) 0 s.ax.length=true)) (4) ⟨0,by omega,by omega,sl (tw @b5 (tw @b0 (tw @bE.eq_1 @ab.eq_1))),sl (tw @b5 (tw @b0 (tw @bE.eq_1 @ab.eq_1))),fun _ h=>absurd h (Nat.not_lt_zero _)⟩ ?_
     rintro n_c env_c st_c ⟨i,rfl,cle,c7,cg0,cA0⟩ cfr
     have c0:=cfr 0 (by kernel_rfl);have c5:=cfr 5 (by kernel_rfl);have c6:=cfr 6 (by kernel_rfl)
     simp only[go_sem, ↓reduceIte,Nat.reduceEqDiff,Nat.reduceAdd,Nat.reduceSub,Nat.reduceLeDiff,reduceCtorEq,b5,b0,bE,ab]at c0 c5 c6
     clear cfr
     by_cases hi:(i:Int)<4
     ·have ig:∀{e:Env} {gg:Rows},(e 7=.int .i64 (IntKind.i64.wrap ((i:Int)+1)))->(gg ⟨156012007,st_b.next+1⟩=some ⟨true,2,[bE tl]⟩)->(jb (tl.bt.getD i 0) 0 s.ax.length=true)->∃m0,m0<(4)-i/\∃i:Nat,m0=(4)-i/\i<=(4)/\e 7=.int .i64 (i:Int)/\gg ⟨156012007,st_b.next+1⟩=some ⟨true,2,[bE tl]⟩/\(∀x:Nat,x<i->jb (tl.bt.getD x 0) 0 s.ax.length=true):=fun x1 x2 x3=>⟨_,by omega,i+1,rfl,by omega,(by rw[x1,az (by omega)]),x2,(all_succ cA0 x3)⟩
      have fh:i<tl.bt.length:=by omega
      have j7:(tl.bt.map br)[i]? =some (br (tl.bt.getD i 0)):=getD_map br fh
      have s5:tl.bt.getD i 0∈tl.bt:=by rw[List.getD_eq_getElem?_getD,List.getElem?_eq_getElem fh];exact List.getElem_mem fh
      have IP:=lL (tl.bt.getD i 0) 0 s.ax.length
      generalize Oe:tl.bt.getD i 0=gv at *
      cases hv:jb gv 0 s.ax.length
      ·rw[hv]at IP
       (repeat(first|((repeat(revert hN;revert N;apply Pn.out));refine wk (tw @c7 (tw @cg0 (tw @c0 (tw @c5 (tw @c6 (tw @hi (tw @j7 (tw @br.eq_1 (tw @bE.eq_1 @ab.eq_1))))))))) ?_;(repeat(refine Pn.mk ?_;intro N hN)))|((try apply Or.inl);refine⟨_,aq.x (IP) (sd (tw @c7 (tw @cg0 (tw @c0 (tw @c5 (tw @c6 (tw @hi (tw @j7 (tw @br.eq_1 (tw @bE.eq_1 @ab.eq_1)))))))))),?_⟩;refine hN _ _ ?_;clear hN N)))
       exact aT (b:=false) (.inl rfl) (sd @Nat.zero_add) (fD (lk fun h=>by
        rw[AZ,htd]at h
        have:=h.2.2.2 gv s5
        rw[hv]at this;cases this))
      ·rw[hv]at IP
       (repeat(first|((repeat(revert hN;revert N;apply Pn.out));refine wk (tw @c7 (tw @cg0 (tw @c0 (tw @c5 (tw @c6 (tw @hi (tw @j7 (tw @br.eq_1 (tw @bE.eq_1 @ab.eq_1))))))))) ?_;(repeat(refine Pn.mk ?_;intro N hN)))|((try apply Or.inl);refine⟨_,aq.x (IP) (sd (tw @c7 (tw @cg0 (tw @c0 (tw @c5 (tw @c6 (tw @hi (tw @j7 (tw @br.eq_1 (tw @bE.eq_1 @ab.eq_1)))))))))),?_⟩;refine hN _ _ ?_;clear hN N)))
       refine ig ?_ ?_ (hv)
       all_goals simp only[go_sem, ↓reduceIte,Nat.reduceEqDiff,Nat.reduceAdd,Nat.reduceSub,Nat.reduceLeDiff,reduceCtorEq,c7,cg0,c0,c5,c6]
     ·have hi4:i=4:=by omega
      (try((repeat(revert hN;revert N;apply Pn.out));refine wk (tw @c7 (tw @cg0 (tw @c0 (tw @c5 (tw @c6 (tw @hi (tw @bE.eq_1 @ab.eq_1))))))) ?_;(repeat(refine Pn.mk ?_;intro N hN))))
      exact gj (sd (tw @b5 (tw @b0 (tw @c7 (tw @cg0 (tw @c0 (tw @c5 @c6))))))) (⟨by rw[htd];exact hb,by rw[htd];omega,fun x hx=>(by rw[htd];exact rL.1 hq x hx),fun g hg=>by
       rw[htd]at hg
       obtain⟨x,hx,rfl⟩:=List.getElem_of_mem hg
       have:=cA0 x (by omega)
       rwa [List.getD_eq_getElem?_getD,List.getElem?_eq_getElem hx]at this⟩)
    ·have hd:decide (Nd s tl.aC=(j:Int))=false:=decide_eq_false hq
     (repeat(first|((repeat(revert hN;revert N;apply Pn.out));refine wk (tw @b5 (tw @b0 (tw @hj (tw @nV (tw @zK (tw @hd (tw @bE.eq_1 @ab.eq_1))))))) ?_;(repeat(refine Pn.mk ?_;intro N hN)))|((try apply Or.inl);refine⟨_,aq.x (sF) (sd (tw @b5 (tw @b0 (tw @hj (tw @nV (tw @zK (tw @hd (tw @bE.eq_1 @ab.eq_1)))))))),?_⟩;refine hN _ _ ?_;clear hN N)|((try apply Or.inl);refine⟨_,aq.x (Gm) (sd (tw @b5 (tw @b0 (tw @hj (tw @nV (tw @zK (tw @hd (tw @bE.eq_1 @ab.eq_1)))))))),?_⟩;refine hN _ _ ?_;clear hN N)))
     exact aT (b:=false) (.inl rfl) (sd @Nat.zero_add) (fD (lk fun h=>by
      rw[AZ,htd]at h
      exact hq (rL.2 h.2.2.1)))
   ·have zK:decide ((tl.bt.length:Int)=4)=false:=decide_eq_false h4
    (repeat(first|((repeat(revert hN;revert N;apply Pn.out));refine wk (tw @b5 (tw @b0 (tw @hj (tw @nV (tw @zK (tw @bE.eq_1 @ab.eq_1)))))) ?_;(repeat(refine Pn.mk ?_;intro N hN)))|((try apply Or.inl);refine⟨_,aq.x (sF) (sd (tw @b5 (tw @b0 (tw @hj (tw @nV (tw @zK (tw @bE.eq_1 @ab.eq_1))))))),?_⟩;refine hN _ _ ?_;clear hN N)))
    exact aT (b:=false) (.inl rfl) (sd @Nat.zero_add) (fD (lk fun h=>by rw[AZ,htd]at h;have:=h.2.1;omega))
  ·(try((repeat(revert hN;revert N;apply Pn.out));refine wk (tw @b5 (tw @b0 (tw @hj @ab.eq_1))) ?_;(repeat(refine Pn.mk ?_;intro N hN))))
   exact aT (b:=true) (.inl rfl) (sd @Nat.zero_add) (Cq ⟨by omega,by omega,by omega,fun i hi=>l6 i (by omega),fun i hi=>bA0 i (by omega)⟩)
end Go.Proofs.YtgoelphibofcmaaGreat.V

namespace Go.Proofs.YtgoelphibofcmaaGreat.V
def jJ (a b:aD):Bool:=decide (a.eT<b.eT)||(decide (a.eT=b.eT)&&decide (a.eZ<b.eZ))
theorem uV {a b:aD}:jJ a b=true↔a.eT<b.eT∨(a.eT=b.eT/\a.eZ<b.eZ):=by simp[jJ]
theorem pC {a b:aD}:jJ a b=false↔¬(a.eT<b.eT∨(a.eT=b.eT/\a.eZ<b.eZ)):=by rw[<-uV,Bool.not_eq_true]
theorem D7 {a b:aD} (h1:a.eZ=b.eZ) (h2:a.eT=b.eT):a=b:=by cases a;cases b;simp_all
theorem jQ {a b c:aD} (h:jJ a b=true) (k:jJ b c=true):jJ a c=true:=by rw[uV]at *;omega
theorem nh {a:aD}:jJ a a=false:=by rw[pC];omega
theorem Jn {a b:aD} (h:jJ a b=true):jJ b a=false:=by rw[uV]at h;rw[pC];omega
theorem Fw {a b:aD} (h:jJ a b=false) (gW:a≠b):jJ b a=true:=by
 rw[pC]at h;rw[uV]
 by_cases hy:a.eT=b.eT
 ·by_cases hx:a.eZ=b.eZ
  ·exact absurd (D7 hx hy) gW
  ·omega
 ·omega
def rF (a b:Int):Int:=if a<b then -1 else if b<a then 1 else 0
def L7 (a b:Int):Int:=if a=0 then b else a
def rG (a b:aD):Int:=L7 (rF a.eT b.eT) (rF a.eZ b.eZ)
theorem uG (a b:aD):decide (rG a b<0)=jJ a b:=by
 unfold rG L7 rF jJ
 by_cases h1:a.eT<b.eT
 ·simp[h1]
 ·by_cases h2:b.eT<a.eT
  ·have:¬a.eT=b.eT:=by omega
   simp[h1,h2,this]
  ·have:a.eT=b.eT:=by omega
   by_cases h3:a.eZ<b.eZ
   ·simp[h1,h2,this,h3]
   ·by_cases h4:b.eZ<a.eZ<;>simp[h1,h2,this,h3,h4]
theorem FY (a b:aD):(rG a b=0)↔a=b:=by
 cases a;cases b
 unfold rG L7 rF
 simp only[aD.mk.injEq]
 split<;>(try split)<;>(try split)<;>(try split)<;>omega
def Jv:ad:=⟨⟨0,0⟩,0⟩
def aJ (l:List ad) (i:Nat):ad:=l.getD i Jv
theorem fb {l:List ad} {i:Nat} (h:i<l.length):aJ l i=l[i]:=by simp[aJ,List.getD_eq_getElem?_getD,h]
theorem gH {l:List ad} {i:Nat} (h:i<l.length):aJ l i∈l:=by rw[fb h];exact List.getElem_mem h
def nJ (l:List ad):Prop:=∀i j:Nat,i<j->j<l.length->jJ (aJ l i).aQ (aJ l j).aQ=true
def p7 (l:List ad) (p:aD):Nat:=l.findIdx fun c=>decide (c.aQ=p)
def eD (l:List ad) (p:aD):Int:=if p7 l p<l.length then(p7 l p:Int)else -1
def mv (l:List ad) (p:aD):Nat:=l.findIdx fun c=> !jJ c.aQ p
theorem zZ {l:List ad} {p:aD} {i:Nat} (hi:i<=l.length) (h1:∀x,x<i->jJ (aJ l x).aQ p=true) (h2:i<l.length->jJ (aJ l i).aQ p=false):mv l p=i:=by
 unfold mv
 by_cases h:i<l.length
 ·rw[List.findIdx_eq h]
  refine⟨by have:=h2 h;rw[fb h]at this;simp[this],fun j hj=>?_⟩
  have:=h1 j hj
  rw[fb (by omega)]at this
  simp[this]
 ·have:i=l.length:=by omega
  subst this
  refine List.findIdx_eq_length_of_false fun x hx=>?_
  obtain⟨j,hj,rfl⟩:=List.getElem_of_mem hx
  have:=h1 j hj
  rw[fb hj]at this
  simp[this]
theorem z6 {l:List ad} {p:aD} (hR:nJ l):eD l p=if mv l p<l.length/\(aJ l (mv l p)).aQ=p then(mv l p:Int)else -1:=by
 by_cases h:∃i,i<l.length/\(aJ l i).aQ=p
 ·obtain⟨i,hi,hp⟩:=h
  have h1:mv l p=i:=zZ (by omega) (fun x hx=>by rw[<-hp];exact hR x i hx hi) fun _=>by rw[hp];exact nh
  have h2:p7 l p=i:=by
   rw[p7,List.findIdx_eq hi]
   refine⟨by rw[fb hi]at hp;simpa using hp,fun j hj=>?_⟩
   have:=hR j i hj hi
   rw[hp,fb (by omega)]at this
   simp only[decide_eq_false_iff_not]
   intro hc
   rw[hc,nh]at this
   cases this
  rw[eD,h1,h2,if_pos hi,if_pos ⟨hi,hp⟩]
 ·have h2:¬p7 l p<l.length:=by
   rw[p7,List.findIdx_lt_length]
   rintro⟨c,hc,he⟩
   obtain⟨j,hj,rfl⟩:=List.getElem_of_mem hc
   exact h ⟨j,hj,by rw[fb hj];simpa using he⟩
  rw[eD,if_neg h2,if_neg]
  rintro⟨h3,h4⟩
  exact h ⟨_,h3,h4⟩
theorem lJ {l:List ad} {p:aD} (h:0<=eD l p):(eD l p).toNat<l.length/\(aJ l (eD l p).toNat).aQ=p:=by
 unfold eD at h ⊢
 split at h
 ·rename_i hc
  rw[if_pos hc]
  refine⟨by omega,?_⟩
  have:=of_decide_eq_true (List.findIdx_getElem (p:=fun c:ad=>decide (c.aQ=p)) (xs:=l) (w:=hc))
  rw[Int.toNat_natCast,fb hc]
  exact this
 ·omega
def gC (l:List ad) (p:aD):Int:=if 0<=eD l p then(aJ l (eD l p).toNat).aV else -1
end Go.Proofs.YtgoelphibofcmaaGreat.V

namespace Go.Proofs.YtgoelphibofcmaaGreat.V
open Go.RowKit
attribute [local irreducible] dG wpOps gy Call
attribute [local go_sem] aM fF eP ga fW cQ upd cz K.av cR AV.cells AV.cell rowOf rowsOf part ld rowAt bq cu dD ee ik bJ dh ev fU eX dr ej dd dc dQ dR bQ bf cW bP cY cX eh ek ei cV cj de ef bK aO da cG ij bw cK bU aY dn aZ dE AV.undef bD bG dV ec dM dK cH eu ew cF ep eo cZ db List.getD_cons_zero List.getD_cons_succ List.getD_nil List.all_cons List.all_nil Bool.and_true Bool.true_and Bool.and_self Bool.not_true Bool.not_false Option.map_some Option.map_none Option.bind_some Option.bind_none List.length_cons List.length_nil List.take_succ_cons List.take_zero List.take_nil List.drop_succ_cons List.drop_zero List.drop_nil List.head?_cons List.map_cons List.map_nil List.getElem?_cons_zero List.getElem?_cons_succ List.cons_append List.nil_append List.append_nil List.length_map List.set_cons_zero List.set_cons_succ Nat.reduceMul eq_self Int.toNat_natCast Int.natCast_nonneg and_self true_and and_true decide_true decide_false Bool.false_eq_true Nat.zero_add Nat.add_zero List.contains_cons List.contains_nil Bool.or_false Bool.false_or beq_self_eq_true Nat.reduceBEq ne_eq not_true_eq_false not_false_eq_true Id.mk.injEq false_and and_false Nat.reduceLT Int.reduceLE Int.reduceLT Int.reduceToNat Int.reduceNeg Int.reduceAdd Nat.le_refl List.length_append beq_true beq_false Bool.not_eq_eq_eq_not or_false false_or dL ai aj aH bl bB cw aX bd aU bh cU bH
theorem om (a b:aD):aq Tryz.prog 160 [.agg (ae a),.agg (ae b)] (.bool (jJ a b)):=by
 refine aq.body eC rfl fun hl n0=>?_
 clear hl
 by_cases h0:a.eT<b.eT
 ·(try((repeat(revert hN;revert N;apply Pn.out));refine wk (tw @ae.eq_1 @h0) ?_;(repeat(refine Pn.mk ?_;intro N hN))))
  exact aT (b:=true) (.inl rfl) (sd @Nat.zero_add) (by simp[jJ,h0])
 ·by_cases h1:a.eT=b.eT
  ·have h2:¬b.eT<b.eT:=by omega
   (try((repeat(revert hN;revert N;apply Pn.out));refine wk (tw @ae.eq_1 (tw @h1 @h2)) ?_;(repeat(refine Pn.mk ?_;intro N hN))))
   exact aT (b:=decide (a.eZ<b.eZ)) (.inl rfl) (sd @Nat.zero_add) (by simp[jJ,h1])
  ·(try((repeat(revert hN;revert N;apply Pn.out));refine wk (tw @ae.eq_1 (tw @h0 @h1)) ?_;(repeat(refine Pn.mk ?_;intro N hN))))
   exact aT (b:=false) (.inl rfl) (sd @Nat.zero_add) (by simp[jJ,h0,h1])
end Go.Proofs.YtgoelphibofcmaaGreat.V

namespace Go.Proofs.YtgoelphibofcmaaGreat.V
open Go.RowKit
attribute [local irreducible] dG wpOps gy Call
attribute [local go_sem] aM fF eP ga fW cQ upd cz K.av cR AV.cells AV.cell rowOf rowsOf part ld rowAt bq cu dD ee ik bJ dh ev fU eX dr ej dd dc dQ dR bQ bf cW bP cY cX eh ek ei cV cj de ef bK aO da cG ij bw cK bU aY dn aZ dE AV.undef bD bG dV ec dM dK cH eu ew cF ep eo cZ db List.getD_cons_zero List.getD_cons_succ List.getD_nil List.all_cons List.all_nil Bool.and_true Bool.true_and Bool.and_self Bool.not_true Bool.not_false Option.map_some Option.map_none Option.bind_some Option.bind_none List.length_cons List.length_nil List.take_succ_cons List.take_zero List.take_nil List.drop_succ_cons List.drop_zero List.drop_nil List.head?_cons List.map_cons List.map_nil List.getElem?_cons_zero List.getElem?_cons_succ List.cons_append List.nil_append List.append_nil List.length_map List.set_cons_zero List.set_cons_succ Nat.reduceMul eq_self Int.toNat_natCast Int.natCast_nonneg and_self true_and and_true decide_true decide_false Bool.false_eq_true Nat.zero_add Nat.add_zero List.contains_cons List.contains_nil Bool.or_false Bool.false_or beq_self_eq_true Nat.reduceBEq ne_eq not_true_eq_false not_false_eq_true Id.mk.injEq false_and and_false Nat.reduceLT Int.reduceLE Int.reduceLT Int.reduceToNat Int.reduceNeg Int.reduceAdd Nat.le_refl List.length_append beq_true beq_false Bool.not_eq_eq_eq_not or_false false_or dL ai aj aH bl bB cw aX bd aU bh cU bH
theorem fw {l:List ad} {i:Nat} (h:i<l.length):(l.map aa)[i]? =some (aa (aJ l i)):=getD_map aa h
def EI (l:List ad) (i:Nat):Prop:=Cj (aJ l i).aQ=true/\jb (aJ l i).aV 0 159=true/\(0<i->jJ (aJ l (i-1)).aQ (aJ l i).aQ=true)
structure jE (l:List ad):Prop where
 sD:l.length<=500
 ok:∀i,i<l.length->EI l i
noncomputable def oM (l:List ad):Bool:=@decide (jE l) (Classical.propDecidable _)
theorem sR {l:List ad}:oM l=true↔jE l:=by simp[oM]
theorem j5 {l:List ad} (h:¬jE l):false=oM l:=by simp[oM,h]
theorem yu {l:List ad} (h:jE l):true=oM l:=by simp[oM,h]
theorem jE.G3 {l:List ad} (h:jE l):nJ l:=by
 intro i j Dw hj
 induction j with
 |zero=>omega
 |succ j ih=>
  have h1:=(h.ok (j+1) hj).2.2 (by omega)
  rw[Nat.add_sub_cancel]at h1
  by_cases he:i=j
  ·subst he;exact h1
  ·exact jQ (ih (by omega) (by omega)) h1
theorem jE.pt {l:List ad} (h:jE l) {i:Nat} (hi:i<l.length):Cj (aJ l i).aQ=true:=(h.ok i hi).1
theorem tj {p:aD} (h:Cj p=true):iB p.eZ/\iB p.eT:=by
 unfold Cj at h
 simp only[Bool.and_eq_true]at h
 have:=eA h.1;have:=eA h.2
 unfold iB;omega
theorem GD (l:List ad):aq Tryz.prog 159 [.di [.sl (l.map aa)]] (.bool (oM l)):=by
 refine aq.body eC rfl fun hl n0=>?_
 clear hl
 by_cases h1:(500:Int)<(l.length:Int)
 ·(try((repeat(revert hN;revert N;apply Pn.out));refine wk @h1 ?_;(repeat(refine Pn.mk ?_;intro N hN))))
  exact aT (b:=false) (.inl rfl) (sd @Nat.zero_add) (j5 fun h=>by have:=h.sD;omega)
 (try((repeat(revert hN;revert N;apply Pn.out));refine wk @h1 ?_;(repeat(refine Pn.mk ?_;intro N hN))))
 refine aW (fun n env st=>∃k:Nat,n=(l.length)-k/\k<=(l.length)/\env 3=.int .i64 (k:Int)/\(∀j:Nat,j<k->EI l j)) (l.length) ⟨0,by omega,by omega,sl @Nat.zero_add,fun _ h=>absurd h (Nat.not_lt_zero _)⟩ ?_
 rintro n_a env_a st_a ⟨k,rfl,ale,a3,l6⟩ dH
 have a0:=dH 0 (by kernel_rfl)
 simp only[go_sem, ↓reduceIte,Nat.reduceEqDiff,Nat.reduceAdd,Nat.reduceSub,Nat.reduceLeDiff,reduceCtorEq]at a0
 clear dH
 by_cases hk:(k:Int)<(l.length:Int)
 ·have cE:∀{e:Env},(e 3=.int .i64 (IntKind.i64.wrap ((k:Int)+1)))->(EI l k)->∃m0,m0<(l.length)-k/\∃k:Nat,m0=(l.length)-k/\k<=(l.length)/\e 3=.int .i64 (k:Int)/\(∀j:Nat,j<k->EI l j):=fun x1 x2=>⟨_,by omega,k+1,rfl,by omega,(by rw[x1,az (by omega)]),(all_succ l6 x2)⟩
  have fA:k<l.length:=by omega
  have eQ:=fw fA
  have lk:(¬EI l k)->¬jE l:=fun h hp=>h (hp.ok k fA)
  have hp:=wD (aJ l k).aQ
  have ht:=lL (aJ l k).aV 0 159
  cases b1:Cj (aJ l k).aQ
  ·rw[b1]at hp
   (repeat(first|((repeat(revert hN;revert N;apply Pn.out));refine wk (tw @a3 (tw @a0 (tw @hk (tw @eQ (tw @aa.eq_1 @ae.eq_1))))) ?_;(repeat(refine Pn.mk ?_;intro N hN)))|((try apply Or.inl);refine⟨_,aq.x (hp) (sd (tw @a3 (tw @a0 (tw @hk (tw @eQ (tw @aa.eq_1 @ae.eq_1)))))),?_⟩;refine hN _ _ ?_;clear hN N)))
   exact aT (b:=false) (.inl rfl) (sd @Nat.zero_add) (j5 (lk fun h=>by rw[EI,b1]at h;cases h.1))
  rw[b1]at hp
  cases b2:jb (aJ l k).aV 0 159
  ·rw[b2]at ht
   (repeat(first|((repeat(revert hN;revert N;apply Pn.out));refine wk (tw @a3 (tw @a0 (tw @hk (tw @eQ (tw @aa.eq_1 @ae.eq_1))))) ?_;(repeat(refine Pn.mk ?_;intro N hN)))|((try apply Or.inl);refine⟨_,aq.x (hp) (sd (tw @a3 (tw @a0 (tw @hk (tw @eQ (tw @aa.eq_1 @ae.eq_1)))))),?_⟩;refine hN _ _ ?_;clear hN N)|((try apply Or.inl);refine⟨_,aq.x (ht) (sd (tw @a3 (tw @a0 (tw @hk (tw @eQ (tw @aa.eq_1 @ae.eq_1)))))),?_⟩;refine hN _ _ ?_;clear hN N)))
   exact aT (b:=false) (.inl rfl) (sd @Nat.zero_add) (j5 (lk fun h=>by rw[EI,b2]at h;cases h.2.1))
  rw[b2]at ht
  by_cases h0:(0:Int)<(k:Int)
  ·have wh:=fw (l:=l) (i:=k-1) (by omega)
   have hw:IntKind.i64.wrap ((k:Int)-1)=((k-1:Nat):Int):=by rw[bF (by have:=fA;omega)];omega
   have hq:=om (aJ l (k-1)).aQ (aJ l k).aQ
   cases b3:jJ (aJ l (k-1)).aQ (aJ l k).aQ
   ·rw[b3]at hq
    (repeat(first|((repeat(revert hN;revert N;apply Pn.out));refine wk (tw @a3 (tw @a0 (tw @hk (tw @eQ (tw @wh (tw @h0 (tw @hw (tw @aa.eq_1 @ae.eq_1)))))))) ?_;(repeat(refine Pn.mk ?_;intro N hN)))|((try apply Or.inl);refine⟨_,aq.x (hp) (sd (tw @a3 (tw @a0 (tw @hk (tw @eQ (tw @wh (tw @h0 (tw @hw (tw @aa.eq_1 @ae.eq_1))))))))),?_⟩;refine hN _ _ ?_;clear hN N)|((try apply Or.inl);refine⟨_,aq.x (ht) (sd (tw @a3 (tw @a0 (tw @hk (tw @eQ (tw @wh (tw @h0 (tw @hw (tw @aa.eq_1 @ae.eq_1))))))))),?_⟩;refine hN _ _ ?_;clear hN N)|((try apply Or.inl);refine⟨_,aq.x (hq) (sd (tw @a3 (tw @a0 (tw @hk (tw @eQ (tw @wh (tw @h0 (tw @hw (tw @aa.eq_1 @ae.eq_1))))))))),?_⟩;refine hN _ _ ?_;clear hN N)))
    exact aT (b:=false) (.inl rfl) (sd @Nat.zero_add) (j5 (lk fun h=>by have:=h.2.2 (by omega);rw[b3]at this;cases this))
   ·rw[b3]at hq
    (repeat(first|((repeat(revert hN;revert N;apply Pn.out));refine wk (tw @a3 (tw @a0 (tw @hk (tw @eQ (tw @wh (tw @h0 (tw @hw (tw @aa.eq_1 @ae.eq_1)))))))) ?_;(repeat(refine Pn.mk ?_;intro N hN)))|((try apply Or.inl);refine⟨_,aq.x (hp) (sd (tw @a3 (tw @a0 (tw @hk (tw @eQ (tw @wh (tw @h0 (tw @hw (tw @aa.eq_1 @ae.eq_1))))))))),?_⟩;refine hN _ _ ?_;clear hN N)|((try apply Or.inl);refine⟨_,aq.x (ht) (sd (tw @a3 (tw @a0 (tw @hk (tw @eQ (tw @wh (tw @h0 (tw @hw (tw @aa.eq_1 @ae.eq_1))))))))),?_⟩;refine hN _ _ ?_;clear hN N)|((try apply Or.inl);refine⟨_,aq.x (hq) (sd (tw @a3 (tw @a0 (tw @hk (tw @eQ (tw @wh (tw @h0 (tw @hw (tw @aa.eq_1 @ae.eq_1))))))))),?_⟩;refine hN _ _ ?_;clear hN N)))
    exact cE (sd (tw @a3 @a0)) (⟨b1,b2,fun _=>b3⟩)
  ·have xz:k=0:=by omega
   (repeat(first|((repeat(revert hN;revert N;apply Pn.out));refine wk (tw @a3 (tw @a0 (tw @hk (tw @eQ (tw @h0 (tw @aa.eq_1 @ae.eq_1)))))) ?_;(repeat(refine Pn.mk ?_;intro N hN)))|((try apply Or.inl);refine⟨_,aq.x (hp) (sd (tw @a3 (tw @a0 (tw @hk (tw @eQ (tw @h0 (tw @aa.eq_1 @ae.eq_1))))))),?_⟩;refine hN _ _ ?_;clear hN N)|((try apply Or.inl);refine⟨_,aq.x (ht) (sd (tw @a3 (tw @a0 (tw @hk (tw @eQ (tw @h0 (tw @aa.eq_1 @ae.eq_1))))))),?_⟩;refine hN _ _ ?_;clear hN N)))
   exact cE (sd (tw @a3 @a0)) (⟨b1,b2,fun h=>by omega⟩)
 ·(try((repeat(revert hN;revert N;apply Pn.out));refine wk (tw @a3 (tw @a0 @hk)) ?_;(repeat(refine Pn.mk ?_;intro N hN))))
  exact aT (b:=true) (.inl rfl) (sd @Nat.zero_add) (yu ⟨by omega,fun i hi=>l6 i (by omega)⟩)
theorem yl (a b:Int):aq Tryz.prog 178 [.int .i64 a,.int .i64 b] (.int .i64 (rF a b)):=by
 have nan:∀x:Int,aq Tryz.prog 208 [.int .i64 x] (.bool false):=fun x=>by
  refine aq.body eC rfl fun hl n0=>?_
  clear hl
  have e:decide (x=x)=true:=decide_eq_true rfl
  (try((repeat(revert hN;revert N;apply Pn.out));refine wk @e ?_;(repeat(refine Pn.mk ?_;intro N hN))))
  exact aT (b:=false) (.inl rfl) (sd @Nat.zero_add) rfl
 refine aq.body eC rfl fun hl n0=>?_
 clear hl
 have ha:=nan a
 have hb:=nan b
 by_cases h1:a<b
 ·(repeat(first|((repeat(revert hN;revert N;apply Pn.out));refine wk @h1 ?_;(repeat(refine Pn.mk ?_;intro N hN)))|((try apply Or.inl);refine⟨_,aq.x (ha) (sd @h1),?_⟩;refine hN _ _ ?_;clear hN N)|((try apply Or.inl);refine⟨_,aq.x (hb) (sd @h1),?_⟩;refine hN _ _ ?_;clear hN N)))
  exact b4 (b:=-1) (.inl rfl) (sd @Nat.zero_add) (by rw[rF,if_pos h1])
 by_cases h2:b<a
 ·(repeat(first|((repeat(revert hN;revert N;apply Pn.out));refine wk (tw @h1 @h2) ?_;(repeat(refine Pn.mk ?_;intro N hN)))|((try apply Or.inl);refine⟨_,aq.x (ha) (sd (tw @h1 @h2)),?_⟩;refine hN _ _ ?_;clear hN N)|((try apply Or.inl);refine⟨_,aq.x (hb) (sd (tw @h1 @h2)),?_⟩;refine hN _ _ ?_;clear hN N)))
  exact b4 (b:=1) (.inl rfl) (sd @Nat.zero_add) (by rw[rF,if_neg h1,if_pos h2])
 ·(repeat(first|((repeat(revert hN;revert N;apply Pn.out));refine wk (tw @h1 @h2) ?_;(repeat(refine Pn.mk ?_;intro N hN)))|((try apply Or.inl);refine⟨_,aq.x (ha) (sd (tw @h1 @h2)),?_⟩;refine hN _ _ ?_;clear hN N)|((try apply Or.inl);refine⟨_,aq.x (hb) (sd (tw @h1 @h2)),?_⟩;refine hN _ _ ?_;clear hN N)))
  exact b4 (b:=0) (.inl rfl) (sd @Nat.zero_add) (by rw[rF,if_neg h1,if_neg h2])
def HD:List Int->Int
 |[]=>0
 |a::r=>if a=0 then HD r else a
theorem JB:∀{l:List Int} {k:Nat} (hk:k<l.length),l[k]≠0->(∀j (h:j<l.length),j<k->l[j]=0)->HD l=l[k]
 |a::r,0,_,h,_=>by
  have h':a≠0:=h
  rw[HD,if_neg h'];rfl
 |a::r,k+1,hk,h,h0=>by
  have h':a=0:=h0 0 (by simp) (by omega)
  rw[HD,if_pos h',JB (k:=k) (by simpa using hk) h fun j hj yC=>h0 (j+1) (by simpa using hj) (by omega)];rfl
theorem Ch:∀{l:List Int},(∀j (h:j<l.length),l[j]=0)->HD l=0
 |[],_=>rfl
 |a::r,h=>by
  have h':a=0:=h 0 (by simp)
  rw[HD,if_pos h',Ch fun j hj=>h (j+1) (by simpa using hj)]
theorem L8 (a b:Int):HD [a,b]=L7 a b:=by
 unfold L7
 by_cases h:a=0
 ·rw[HD,if_pos h,if_pos h,HD,HD];split<;>simp_all
 ·rw[HD,if_neg h,if_neg h]
theorem K3 (l:List Int):aq Tryz.prog 177 [.sl (l.map br)] (.int .i64 (HD l)):=by
 refine aq.body eC rfl fun hl n0=>?_
 have hlen:l.length<=9223372036854775807:=by simpa using(hl (.sl (l.map br)) (by simp)).len
 clear hl
 (try((repeat(revert hN;revert N;apply Pn.out));refine wk @Nat.zero_add ?_;(repeat(refine Pn.mk ?_;intro N hN))))
 refine aW (fun n env st=>∃k:Nat,n=(l.length)-k/\k<=(l.length)/\env 8=.int .i64 (k:Int)/\(∀j:Nat,j<k->∀h:j<l.length,l[j]=0)) (l.length) ⟨0,by omega,by omega,sl @Nat.zero_add,fun _ h=>absurd h (Nat.not_lt_zero _)⟩ ?_
 rintro n_a env_a st_a ⟨k,rfl,ale,a8,l6⟩ dH
 have a3:=dH 3 (by kernel_rfl);have a6:=dH 6 (by kernel_rfl);have a7:=dH 7 (by kernel_rfl)
 simp only[go_sem, ↓reduceIte,Nat.reduceEqDiff,Nat.reduceAdd,Nat.reduceSub,Nat.reduceLeDiff,reduceCtorEq]at a3 a6 a7
 clear dH
 by_cases hk:(k:Int)<(l.length:Int)
 ·have cE:∀{e:Env},(e 8=.int .i64 (IntKind.i64.wrap ((k:Int)+1)))->(∀h:k<l.length,l[k]=0)->∃m0,m0<(l.length)-k/\∃k:Nat,m0=(l.length)-k/\k<=(l.length)/\e 8=.int .i64 (k:Int)/\(∀j:Nat,j<k->∀h:j<l.length,l[j]=0):=fun x1 x2=>⟨_,by omega,k+1,rfl,by omega,(by rw[x1,az (by omega)]),(all_succ l6 x2)⟩
  have fA:k<l.length:=by omega
  have eQ:(l.map br)[k]? =some (br l[k]):=by simp[fA]
  generalize hv:l[k]=v at eQ
  by_cases h0:v=0
  ·have e:decide (v=0)=true:=decide_eq_true h0
   (try((repeat(revert hN;revert N;apply Pn.out));refine wk (tw @a8 (tw @a3 (tw @a6 (tw @a7 (tw @e (tw @hk (tw @eQ @br.eq_1))))))) ?_;(repeat(refine Pn.mk ?_;intro N hN))))
   exact cE (sd (tw @a8 (tw @a3 (tw @a6 @a7)))) (fun _=>hv.trans h0)
  ·have e:decide (v=0)=false:=decide_eq_false h0
   (try((repeat(revert hN;revert N;apply Pn.out));refine wk (tw @a8 (tw @a3 (tw @a6 (tw @a7 (tw @e (tw @hk (tw @eQ @br.eq_1))))))) ?_;(repeat(refine Pn.mk ?_;intro N hN))))
   exact b4 (b:=v) (.inl rfl) (sd @Nat.zero_add) (by rw[JB fA (by rw[hv];exact h0) fun j h hj=>l6 j hj h,hv])
 ·(try((repeat(revert hN;revert N;apply Pn.out));refine wk (tw @a8 (tw @a3 (tw @a6 (tw @a7 @hk)))) ?_;(repeat(refine Pn.mk ?_;intro N hN))))
  exact b4 (b:=0) (.inl rfl) (sd @Nat.zero_add) (by rw[Ch fun j h=>l6 j (by omega) h])
section
attribute [local go_sem] List.drop_zero List.take_succ_cons List.take_zero List.length_cons List.length_nil iw zG oO
theorem nD (a b:aD):aq Tryz.prog 130 [.agg (ae a),.agg (ae b)] (.int .i64 (rG a b)):=by
 refine aq.body eC rfl fun hl n0=>?_
 clear hl
 have h1:=yl a.eT b.eT
 have h2:=yl a.eZ b.eZ
 have h3:=K3 [rF a.eT b.eT,rF a.eZ b.eZ]
 rw[L8,List.map_cons,List.map_cons,List.map_nil,br,br]at h3
 (repeat(first|((repeat(revert hN;revert N;apply Pn.out));refine wk @ae.eq_1 ?_;(repeat(refine Pn.mk ?_;intro N hN)))|((try apply Or.inl);refine⟨_,aq.x (h1) (sd @ae.eq_1),?_⟩;refine hN _ _ ?_;clear hN N)|((try apply Or.inl);refine⟨_,aq.x (h2) (sd @ae.eq_1),?_⟩;refine hN _ _ ?_;clear hN N)|((try apply Or.inl);refine⟨_,aq.x (h3) (sd @ae.eq_1),?_⟩;refine hN _ _ ?_;clear hN N)))
 exact b4 (b:=rG a b) (.inl rfl) (by simp only[go_sem, ↓reduceIte,Nat.reduceEqDiff,Nat.reduceAdd,Nat.reduceSub,Nat.reduceLeDiff,reduceCtorEq,rG]) rfl
end
theorem LI (a b:aD):aq Tryz.prog 201 [.agg (ae a),.agg (ae b)] (.bool (jJ a b)):=by
 refine aq.body eC rfl fun hl n0=>?_
 clear hl
 have h1:=nD a b
 rw[ae,ae]at h1
 (repeat(first|((repeat(revert hN;revert N;apply Pn.out));refine wk @ae.eq_1 ?_;(repeat(refine Pn.mk ?_;intro N hN)))|((try apply Or.inl);refine⟨_,aq.x (h1) (sd @ae.eq_1),?_⟩;refine hN _ _ ?_;clear hN N)))
 exact aT (b:=decide (rG a b<0)) (.inl rfl) (sd @Nat.zero_add) (uG a b)
theorem kg (t:ad) (p:aD):aq Tryz.prog 143 [.agg (aa t),.agg (ae p)] (.int .i64 (rG t.aQ p)):=by
 refine aq.body eC rfl fun hl n0=>?_
 clear hl
 have h1:=nD t.aQ p
 rw[ae,ae]at h1
 (repeat(first|((repeat(revert hN;revert N;apply Pn.out));refine wk (tw @aa.eq_1 @ae.eq_1) ?_;(repeat(refine Pn.mk ?_;intro N hN)))|((try apply Or.inl);refine⟨_,aq.x (h1) (sd (tw @aa.eq_1 @ae.eq_1)),?_⟩;refine hN _ _ ?_;clear hN N)))
 exact b4 (b:=rG t.aQ p) (.inl rfl) (sd @Nat.zero_add) rfl
theorem sU (l:List ad):aq Tryz.prog 165 [.agg [.sl (l.map aa)]] (.bool (oM l)):=by
 refine aq.body eC rfl fun hl n0=>?_
 have hlen:l.length<=9223372036854775807:=by
  have h1:=(hl (.agg [.sl (l.map aa)]) (by simp)).Nv (a:=.sl (l.map aa)) (by simp)
  simpa using h1.len
 clear hl
 (try((repeat(revert hN;revert N;apply Pn.out));refine wk @Nat.zero_add ?_;(repeat(refine Pn.mk ?_;intro N hN))))
 refine aW (fun n env st=>∃k:Nat,n=(l.length)-k/\k<=(l.length)/\env 8=.int .i64 (k:Int)/\st.get ⟨165000000,n0⟩=some ⟨true,1,[[.sl (l.map aa)]]⟩/\(∀j:Nat,j<k->EI l j)) (l.length) ⟨0,by omega,by omega,sl @Nat.zero_add,sl @Nat.zero_add,fun _ h=>absurd h (Nat.not_lt_zero _)⟩ ?_
 rintro n_a env_a st_a ⟨k,rfl,ale,a8,ag0,l6⟩ dH
 have a1:=dH 1 (by kernel_rfl);have a6:=dH 6 (by kernel_rfl);have a7:=dH 7 (by kernel_rfl)
 simp only[go_sem, ↓reduceIte,Nat.reduceEqDiff,Nat.reduceAdd,Nat.reduceSub,Nat.reduceLeDiff,reduceCtorEq]at a1 a6 a7
 clear dH
 by_cases hk:(k:Int)<(l.length:Int)
 ·have cE:∀{e:Env} {gg:Rows},(e 8=.int .i64 (IntKind.i64.wrap ((k:Int)+1)))->(gg ⟨165000000,n0⟩=some ⟨true,1,[[.sl (l.map aa)]]⟩)->(EI l k)->∃m0,m0<(l.length)-k/\∃k:Nat,m0=(l.length)-k/\k<=(l.length)/\e 8=.int .i64 (k:Int)/\gg ⟨165000000,n0⟩=some ⟨true,1,[[.sl (l.map aa)]]⟩/\(∀j:Nat,j<k->EI l j):=fun x1 x2 x3=>⟨_,by omega,k+1,rfl,by omega,(by rw[x1,az (by omega)]),x2,(all_succ l6 x3)⟩
  have fA:k<l.length:=by omega
  have eQ:=fw fA
  have lk:(¬EI l k)->¬jE l:=fun h hp=>h (hp.ok k fA)
  have hp:=rj (aJ l k).aQ
  have ht:=yL (aJ l k).aV 160 (by omega) (by omega)
  rw[show(160:Int)-1=159 from rfl]at ht
  cases b1:Cj (aJ l k).aQ
  ·rw[b1]at hp
   (repeat(first|((repeat(revert hN;revert N;apply Pn.out));refine wk (tw @a8 (tw @ag0 (tw @a1 (tw @a6 (tw @a7 (tw @hk (tw @eQ (tw @aa.eq_1 @ae.eq_1)))))))) ?_;(repeat(refine Pn.mk ?_;intro N hN)))|((try apply Or.inl);refine⟨_,aq.x (hp) (sd (tw @a8 (tw @ag0 (tw @a1 (tw @a6 (tw @a7 (tw @hk (tw @eQ (tw @aa.eq_1 @ae.eq_1))))))))),?_⟩;refine hN _ _ ?_;clear hN N)))
   exact aT (b:=false) (.inl rfl) (sd @Nat.zero_add) (j5 (lk fun h=>by rw[EI,b1]at h;cases h.1))
  rw[b1]at hp
  cases b2:jb (aJ l k).aV 0 159
  ·rw[b2]at ht
   (repeat(first|((repeat(revert hN;revert N;apply Pn.out));refine wk (tw @a8 (tw @ag0 (tw @a1 (tw @a6 (tw @a7 (tw @hk (tw @eQ (tw @aa.eq_1 @ae.eq_1)))))))) ?_;(repeat(refine Pn.mk ?_;intro N hN)))|((try apply Or.inl);refine⟨_,aq.x (hp) (sd (tw @a8 (tw @ag0 (tw @a1 (tw @a6 (tw @a7 (tw @hk (tw @eQ (tw @aa.eq_1 @ae.eq_1))))))))),?_⟩;refine hN _ _ ?_;clear hN N)|((try apply Or.inl);refine⟨_,aq.x (ht) (sd (tw @a8 (tw @ag0 (tw @a1 (tw @a6 (tw @a7 (tw @hk (tw @eQ (tw @aa.eq_1 @ae.eq_1))))))))),?_⟩;refine hN _ _ ?_;clear hN N)))
   exact aT (b:=false) (.inl rfl) (sd @Nat.zero_add) (j5 (lk fun h=>by rw[EI,b2]at h;cases h.2.1))
  rw[b2]at ht
  by_cases h0:(0:Int)<(k:Int)
  ·have wh:=fw (l:=l) (i:=k-1) (by omega)
   have hw:IntKind.i64.wrap ((k:Int)-1)=((k-1:Nat):Int):=by rw[bF (by omega)];omega
   have hq:=LI (aJ l (k-1)).aQ (aJ l k).aQ
   cases b3:jJ (aJ l (k-1)).aQ (aJ l k).aQ
   ·rw[b3]at hq
    (repeat(first|((repeat(revert hN;revert N;apply Pn.out));refine wk (tw @a8 (tw @ag0 (tw @a1 (tw @a6 (tw @a7 (tw @hk (tw @eQ (tw @wh (tw @h0 (tw @hw (tw @aa.eq_1 @ae.eq_1))))))))))) ?_;(repeat(refine Pn.mk ?_;intro N hN)))|((try apply Or.inl);refine⟨_,aq.x (hp) (sd (tw @a8 (tw @ag0 (tw @a1 (tw @a6 (tw @a7 (tw @hk (tw @eQ (tw @wh (tw @h0 (tw @hw (tw @aa.eq_1 @ae.eq_1)))))))))))),?_⟩;refine hN _ _ ?_;clear hN N)|((try apply Or.inl);refine⟨_,aq.x (ht) (sd (tw @a8 (tw @ag0 (tw @a1 (tw @a6 (tw @a7 (tw @hk (tw @eQ (tw @wh (tw @h0 (tw @hw (tw @aa.eq_1 @ae.eq_1)))))))))))),?_⟩;refine hN _ _ ?_;clear hN N)|((try apply Or.inl);refine⟨_,aq.x (hq) (sd (tw @a8 (tw @ag0 (tw @a1 (tw @a6 (tw @a7 (tw @hk (tw @eQ (tw @wh (tw @h0 (tw @hw (tw @aa.eq_1 @ae.eq_1)))))))))))),?_⟩;refine hN _ _ ?_;clear hN N)))
    exact aT (b:=false) (.inl rfl) (sd @Nat.zero_add) (j5 (lk fun h=>by have:=h.2.2 (by omega);rw[b3]at this;cases this))
   ·rw[b3]at hq
    (repeat(first|((repeat(revert hN;revert N;apply Pn.out));refine wk (tw @a8 (tw @ag0 (tw @a1 (tw @a6 (tw @a7 (tw @hk (tw @eQ (tw @wh (tw @h0 (tw @hw (tw @aa.eq_1 @ae.eq_1))))))))))) ?_;(repeat(refine Pn.mk ?_;intro N hN)))|((try apply Or.inl);refine⟨_,aq.x (hp) (sd (tw @a8 (tw @ag0 (tw @a1 (tw @a6 (tw @a7 (tw @hk (tw @eQ (tw @wh (tw @h0 (tw @hw (tw @aa.eq_1 @ae.eq_1)))))))))))),?_⟩;refine hN _ _ ?_;clear hN N)|((try apply Or.inl);refine⟨_,aq.x (ht) (sd (tw @a8 (tw @ag0 (tw @a1 (tw @a6 (tw @a7 (tw @hk (tw @eQ (tw @wh (tw @h0 (tw @hw (tw @aa.eq_1 @ae.eq_1)))))))))))),?_⟩;refine hN _ _ ?_;clear hN N)|((try apply Or.inl);refine⟨_,aq.x (hq) (sd (tw @a8 (tw @ag0 (tw @a1 (tw @a6 (tw @a7 (tw @hk (tw @eQ (tw @wh (tw @h0 (tw @hw (tw @aa.eq_1 @ae.eq_1)))))))))))),?_⟩;refine hN _ _ ?_;clear hN N)))
    refine cE ?_ ?_ (⟨b1,b2,fun _=>b3⟩)
    all_goals simp only[go_sem, ↓reduceIte,Nat.reduceEqDiff,Nat.reduceAdd,Nat.reduceSub,Nat.reduceLeDiff,reduceCtorEq,a8,ag0,a1,a6,a7]
  ·have xz:k=0:=by omega
   (repeat(first|((repeat(revert hN;revert N;apply Pn.out));refine wk (tw @a8 (tw @ag0 (tw @a1 (tw @a6 (tw @a7 (tw @hk (tw @eQ (tw @h0 (tw @aa.eq_1 @ae.eq_1))))))))) ?_;(repeat(refine Pn.mk ?_;intro N hN)))|((try apply Or.inl);refine⟨_,aq.x (hp) (sd (tw @a8 (tw @ag0 (tw @a1 (tw @a6 (tw @a7 (tw @hk (tw @eQ (tw @h0 (tw @aa.eq_1 @ae.eq_1)))))))))),?_⟩;refine hN _ _ ?_;clear hN N)|((try apply Or.inl);refine⟨_,aq.x (ht) (sd (tw @a8 (tw @ag0 (tw @a1 (tw @a6 (tw @a7 (tw @hk (tw @eQ (tw @h0 (tw @aa.eq_1 @ae.eq_1)))))))))),?_⟩;refine hN _ _ ?_;clear hN N)))
   refine cE ?_ ?_ (⟨b1,b2,fun h=>by omega⟩)
   all_goals simp only[go_sem, ↓reduceIte,Nat.reduceEqDiff,Nat.reduceAdd,Nat.reduceSub,Nat.reduceLeDiff,reduceCtorEq,a8,ag0,a1,a6,a7]
 ·(try((repeat(revert hN;revert N;apply Pn.out));refine wk (tw @a8 (tw @ag0 (tw @a1 (tw @a6 (tw @a7 @hk))))) ?_;(repeat(refine Pn.mk ?_;intro N hN))))
  refine aT (b:=decide ((l.length:Int)<=500)) (.inl rfl) (sd @Nat.zero_add) ?_
  by_cases h5:(l.length:Int)<=500
  ·rw[decide_eq_true h5];exact yu ⟨by omega,fun i hi=>l6 i (by omega)⟩
  ·rw[decide_eq_false h5];exact j5 fun h=>by have:=h.sD;omega
end Go.Proofs.YtgoelphibofcmaaGreat.V

namespace Go.Proofs.YtgoelphibofcmaaGreat.V
open Go.RowKit
attribute [local irreducible] dG wpOps gy Call
attribute [local go_sem] aM fF eP ga fW cQ upd cz K.av cR AV.cells AV.cell rowOf rowsOf part ld rowAt bq cu dD ee ik bJ dh ev fU eX dr ej dd dc dQ dR bQ bf cW bP cY cX eh ek ei cV cj de ef bK aO da cG ij bw cK bU aY dn aZ dE AV.undef bD bG dV ec dM dK cH eu ew cF ep eo cZ db List.getD_cons_zero List.getD_cons_succ List.getD_nil List.all_cons List.all_nil Bool.and_true Bool.true_and Bool.and_self Bool.not_true Bool.not_false Option.map_some Option.map_none Option.bind_some Option.bind_none List.length_cons List.length_nil List.take_succ_cons List.take_zero List.take_nil List.drop_succ_cons List.drop_zero List.drop_nil List.head?_cons List.map_cons List.map_nil List.getElem?_cons_zero List.getElem?_cons_succ List.cons_append List.nil_append List.append_nil List.length_map List.set_cons_zero List.set_cons_succ Nat.reduceMul eq_self Int.toNat_natCast Int.natCast_nonneg and_self true_and and_true decide_true decide_false Bool.false_eq_true Nat.zero_add Nat.add_zero List.contains_cons List.contains_nil Bool.or_false Bool.false_or beq_self_eq_true Nat.reduceBEq ne_eq not_true_eq_false not_false_eq_true Id.mk.injEq false_and and_false Nat.reduceLT Int.reduceLE Int.reduceLT Int.reduceToNat Int.reduceNeg Int.reduceAdd Nat.le_refl List.length_append beq_true beq_false Bool.not_eq_eq_eq_not or_false false_or dL ai aj aH bl bB cw aX bd aU bh cU bH
theorem yi (cells:List ad) (p:aD) (hR:nJ cells) (Gg:cells.length<=1048576):
  aq Tryz.prog 142 [.sl (cells.map aa),.agg (ae p),.fn 143 []] (.gJ [.int .i64 (mv cells p),.bool (decide (mv cells p<cells.length)&&decide ((aJ cells (mv cells p)).aQ=p))]):=by
 refine aq.body eC rfl fun hl n0=>?_
 clear hl
 (try((repeat(revert hN;revert N;apply Pn.out));refine wk @ae.eq_1 ?_;(repeat(refine Pn.mk ?_;intro N hN))))
 refine aW (fun n env st=>∃i j:Nat,n=j-i/\i<=j/\j<=cells.length/\(∀x,x<i->jJ (aJ cells x).aQ p=true)/\(∀x,j<=x->x<cells.length->jJ (aJ cells x).aQ p=false)/\env 9=.int .i64 i/\env 10=.int .i64 j/\st.get ⟨142000000,n0⟩=some ⟨true,2,[ae p]⟩) cells.length ⟨0,cells.length,by omega,by omega,by omega,fun x h=>by omega,fun x h1 h2=>by omega,by(simp only[go_sem, ↓reduceIte,Nat.reduceEqDiff,Nat.reduceAdd,Nat.reduceSub,Nat.reduceLeDiff,reduceCtorEq])<;>rfl,sd @Nat.zero_add,sd @ae.eq_1⟩ ?_
 rintro n env st ⟨i,j,rfl,Dw,hj,ki,CL,h9,h10,hg⟩ fr
 have h0:=fr 0 (by kernel_rfl)
 have h2:=fr 2 (by kernel_rfl)
 have h4:=fr 4 (by kernel_rfl)
 have h8:=fr 8 (by kernel_rfl)
 simp only[go_sem, ↓reduceIte,Nat.reduceEqDiff,Nat.reduceAdd,Nat.reduceSub,Nat.reduceLeDiff,reduceCtorEq]at h0 h2 h4 h8
 clear fr
 by_cases dS:(i:Int)<(j:Int)
 ·have e1:IntKind.i64.wrap ((i:Int)+j)=((i+j:Nat):Int):=by rw[bF (by omega)];rfl
  have hm:(i+j) / 2<cells.length:=by omega
  have fu:(cells.map aa)[(i+j) / 2]? =some (aa (aJ cells ((i+j) / 2))):=fw (l:=cells) hm
  have e2:IntKind.i64.wrap ((IntKind.u64.wrap ((i+j:Nat):Int)).fdiv (2 ^ min 1 IntKind.u64.bits))=(((i+j) / 2:Nat):Int):=by
   have h:IntKind.u64.wrap ((i+j:Nat):Int)=((i+j:Nat):Int):=by rw[IntKind.wrap_u64];omega
   rw[h,show min 1 IntKind.u64.bits=1 from rfl,show((2:Int) ^ 1)=2 from rfl,Int.fdiv_eq_ediv_of_nonneg _ (by omega)]
   rw[bF (by omega)];omega
  have Qr:IntKind.i64.wrap ((IntKind.u64.wrap ((i+j:Nat):Int)).fdiv (2 ^ min 1 64))=(((i+j) / 2:Nat):Int):=e2
  have e3:=az (k:=(i+j) / 2) (by omega)
  by_cases hc:rG (aJ cells ((i+j) / 2)).aQ p<0
  ·have hl:jJ (aJ cells ((i+j) / 2)).aQ p=true:=by rw[<-uG];simpa using hc
   (repeat(first|((repeat(revert hN;revert N;apply Pn.out));refine wk (tw @h0 (tw @h2 (tw @h4 (tw @h8 (tw @h9 (tw @h10 (tw @hg (tw @dS (tw @e1 (tw @e2 (tw @Qr (tw @fu (tw @hc (tw @aa.eq_1 @ae.eq_1)))))))))))))) ?_;(repeat(refine Pn.mk ?_;intro N hN)))|((try apply Or.inl);refine⟨_,aq.x (kg (aJ cells ((i+j) / 2)) p) (sd (tw @h0 (tw @h2 (tw @h4 (tw @h8 (tw @h9 (tw @h10 (tw @hg (tw @dS (tw @e1 (tw @e2 (tw @Qr (tw @fu (tw @hc (tw @aa.eq_1 @ae.eq_1))))))))))))))),?_⟩;refine hN _ _ ?_;clear hN N)))
   refine⟨_,?_,(i+j) / 2+1,j,rfl,by omega,hj,fun x hx=>?_,CL,sd @e3,sd @h10,sd (tw @hg @ae.eq_1)⟩
   ·omega
   ·by_cases OH:x=(i+j) / 2
    ·subst OH;exact hl
    ·exact jQ (hR x _ (by omega) hm) hl
  ·have hl:jJ (aJ cells ((i+j) / 2)).aQ p=false:=by rw[<-uG];simpa using hc
   (repeat(first|((repeat(revert hN;revert N;apply Pn.out));refine wk (tw @h0 (tw @h2 (tw @h4 (tw @h8 (tw @h9 (tw @h10 (tw @hg (tw @dS (tw @e1 (tw @e2 (tw @Qr (tw @fu (tw @hc (tw @aa.eq_1 @ae.eq_1)))))))))))))) ?_;(repeat(refine Pn.mk ?_;intro N hN)))|((try apply Or.inl);refine⟨_,aq.x (kg (aJ cells ((i+j) / 2)) p) (sd (tw @h0 (tw @h2 (tw @h4 (tw @h8 (tw @h9 (tw @h10 (tw @hg (tw @dS (tw @e1 (tw @e2 (tw @Qr (tw @fu (tw @hc (tw @aa.eq_1 @ae.eq_1))))))))))))))),?_⟩;refine hN _ _ ?_;clear hN N)))
   refine⟨_,?_,i,(i+j) / 2,rfl,by omega,by omega,ki,fun x h1 h2=>?_,sd @h9,sd (tw @e2 @Qr),sd (tw @hg @ae.eq_1)⟩
   ·omega
   ·by_cases OH:x=(i+j) / 2
    ·subst OH;exact hl
    ·rw[Bool.eq_false_iff]
     intro hc
     have h3:=jQ (hR ((i+j) / 2) x (by omega) h2) hc
     rw[hl]at h3;cases h3
 ·have Oh:i=j:=by omega
  subst Oh
  have BD:mv cells p=i:=zZ hj ki fun h=>CL i (Nat.le_refl _) h
  by_cases hn:(i:Int)<(cells.length:Int)
  ·have fh:i<cells.length:=by omega
   have fu:(cells.map aa)[i]? =some (aa (aJ cells i)):=fw (l:=cells) fh
   have hd:decide (rG (aJ cells i).aQ p=0)=decide ((aJ cells i).aQ=p):=by simp only[FY]
   (repeat(first|((repeat(revert hN;revert N;apply Pn.out));refine wk (tw @h0 (tw @h2 (tw @h4 (tw @h8 (tw @h9 (tw @h10 (tw @hg (tw @dS (tw @hn (tw @fu (tw @aa.eq_1 @ae.eq_1))))))))))) ?_;(repeat(refine Pn.mk ?_;intro N hN)))|((try apply Or.inl);refine⟨_,aq.x (kg (aJ cells i) p) (sd (tw @h0 (tw @h2 (tw @h4 (tw @h8 (tw @h9 (tw @h10 (tw @hg (tw @dS (tw @hn (tw @fu (tw @aa.eq_1 @ae.eq_1)))))))))))),?_⟩;refine hN _ _ ?_;clear hN N)))
   refine jw (.inl rfl) (r1:=.int .i64 i) (r2:=.bool (decide ((aJ cells i).aQ=p))) ?_ ?_ ?_
   ·simp only[go_sem, ↓reduceIte,Nat.reduceEqDiff,Nat.reduceAdd,Nat.reduceSub,Nat.reduceLeDiff,reduceCtorEq]
   ·simp only[go_sem, ↓reduceIte,Nat.reduceEqDiff,Nat.reduceAdd,Nat.reduceSub,Nat.reduceLeDiff,reduceCtorEq,hd]
   ·simp only[eR,bz,cD,eK,fJ,Option.map_some,BD,fh,decide_true,Bool.true_and]
  ·have fh:¬i<cells.length:=by omega
   (try((repeat(revert hN;revert N;apply Pn.out));refine wk (tw @h0 (tw @h2 (tw @h4 (tw @h8 (tw @h9 (tw @h10 (tw @hg (tw @dS (tw @hn (tw @aa.eq_1 @ae.eq_1)))))))))) ?_;(repeat(refine Pn.mk ?_;intro N hN))))
   refine jw (.inl rfl) (r1:=.int .i64 i) (r2:=.bool false) ?_ ?_ ?_
   ·simp only[go_sem, ↓reduceIte,Nat.reduceEqDiff,Nat.reduceAdd,Nat.reduceSub,Nat.reduceLeDiff,reduceCtorEq]
   ·simp only[go_sem, ↓reduceIte,Nat.reduceEqDiff,Nat.reduceAdd,Nat.reduceSub,Nat.reduceLeDiff,reduceCtorEq]
   ·simp only[eR,bz,cD,eK,fJ,Option.map_some,BD,fh,decide_false,Bool.false_and]
theorem GX (l:List ad) (p:aD) (hR:nJ l) (Gg:l.length<=1048576):aq Tryz.prog 265 [.agg [.sl (l.map aa)],.agg (ae p)] (.int .i64 (eD l p)):=by
 refine aq.body eC rfl fun hl n0=>?_
 clear hl
 rw[z6 hR]
 have hb:=yi l p hR Gg
 rw[ae]at hb
 cases hf:(decide (mv l p<l.length)&&decide ((aJ l (mv l p)).aQ=p))
 ·rw[hf]at hb
  (repeat(first|((repeat(revert hN;revert N;apply Pn.out));refine wk @ae.eq_1 ?_;(repeat(refine Pn.mk ?_;intro N hN)))|((try apply Or.inl);refine⟨_,aq.x (hb) (sd @ae.eq_1),?_⟩;refine hN _ _ ?_;clear hN N)))
  exact b4 (b:=-1) (.inl rfl) (sd @Nat.zero_add) (by rw[if_neg];intro h;simp[h.1,h.2]at hf)
 ·rw[hf]at hb
  (repeat(first|((repeat(revert hN;revert N;apply Pn.out));refine wk @ae.eq_1 ?_;(repeat(refine Pn.mk ?_;intro N hN)))|((try apply Or.inl);refine⟨_,aq.x (hb) (sd @ae.eq_1),?_⟩;refine hN _ _ ?_;clear hN N)))
  exact b4 (b:=(mv l p:Int)) (.inl rfl) (sd @Nat.zero_add) (by rw[if_pos];simpa using hf)
theorem To (l:List ad) (p:aD) (hR:nJ l) (Gg:l.length<=1048576):aq Tryz.prog 117 [.agg [.sl (l.map aa)],.agg (ae p)] (.int .i64 (gC l p)):=by
 refine aq.body eC rfl fun hl n0=>?_
 clear hl
 have hi:=z6 (l:=l) (p:=p) hR
 have hb:=yi l p hR Gg
 rw[ae]at hb
 cases hf:(decide (mv l p<l.length)&&decide ((aJ l (mv l p)).aQ=p))
 ·rw[hf]at hb
  (repeat(first|((repeat(revert hN;revert N;apply Pn.out));refine wk @ae.eq_1 ?_;(repeat(refine Pn.mk ?_;intro N hN)))|((try apply Or.inl);refine⟨_,aq.x (hb) (sd @ae.eq_1),?_⟩;refine hN _ _ ?_;clear hN N)))
  exact b4 (b:=-1) (.inl rfl) (sd @Nat.zero_add) (by
   have hx:eD l p= -1:=by rw[hi,if_neg (by intro h;simp[h.1,h.2]at hf)]
   rw[gC,hx];rfl)
 ·rw[hf]at hb
  have hc:mv l p<l.length/\(aJ l (mv l p)).aQ=p:=by simpa using hf
  have hg:=fw hc.1
  (repeat(first|((repeat(revert hN;revert N;apply Pn.out));refine wk (tw @ae.eq_1 (tw @hg @aa.eq_1)) ?_;(repeat(refine Pn.mk ?_;intro N hN)))|((try apply Or.inl);refine⟨_,aq.x (hb) (sd (tw @ae.eq_1 (tw @hg @aa.eq_1))),?_⟩;refine hN _ _ ?_;clear hN N)))
  exact b4 (b:=(aJ l (mv l p)).aV) (.inl rfl) (sd @Nat.zero_add) (by
   have hx:eD l p=(mv l p:Int):=by rw[hi,if_pos hc]
   rw[gC,hx,if_pos (by omega),Int.toNat_natCast])
theorem qN (l:List ad) (p:aD) (hR:nJ l) (Gg:l.length<=1048576):aq Tryz.prog 124 [.di [.sl (l.map aa)],.agg (ae p)] (.int .i64 (eD l p)):=by
 refine aq.body eC rfl fun hl n0=>?_
 clear hl
 rw[z6 hR]
 (try((repeat(revert hN;revert N;apply Pn.out));refine wk @ae.eq_1 ?_;(repeat(refine Pn.mk ?_;intro N hN))))
 refine aW (fun n env st=>∃i j:Nat,n=j-i/\i<=j/\j<=l.length/\(∀x,x<i->jJ (aJ l x).aQ p=true)/\(∀x,j<=x->x<l.length->jJ (aJ l x).aQ p=false)/\env 5=.int .i64 i/\env 6=.int .i64 j/\st.get ⟨124000000,n0⟩=some ⟨true,2,[ae p]⟩) l.length ⟨0,l.length,by omega,by omega,by omega,fun x h=>by omega,fun x h1 h2=>by omega,by(simp only[go_sem, ↓reduceIte,Nat.reduceEqDiff,Nat.reduceAdd,Nat.reduceSub,Nat.reduceLeDiff,reduceCtorEq])<;>rfl,sd @Nat.zero_add,sd @ae.eq_1⟩ ?_
 rintro n env st ⟨i,j,rfl,Dw,hj,ki,CL,h5,h6,hg⟩ fr
 have h0:=fr 0 (by kernel_rfl)
 have h3:=fr 3 (by kernel_rfl)
 simp only[go_sem, ↓reduceIte,Nat.reduceEqDiff,Nat.reduceAdd,Nat.reduceSub,Nat.reduceLeDiff,reduceCtorEq]at h0 h3
 clear fr
 by_cases dS:(i:Int)<(j:Int)
 ·have e1:IntKind.i64.wrap ((i:Int)+j)=((i+j:Nat):Int):=by rw[bF (by omega)];rfl
  have hm:(i+j) / 2<l.length:=by omega
  have fu:=fw hm
  have e2:IntKind.i64.wrap (((i+j:Nat):Int).tdiv 2)=(((i+j) / 2:Nat):Int):=by
   rw[Int.tdiv_eq_ediv_of_nonneg (by omega),bF (by omega)];omega
  have e3:=az (k:=(i+j) / 2) (by omega)
  have hq:=om (aJ l ((i+j) / 2)).aQ p
  cases hl:jJ (aJ l ((i+j) / 2)).aQ p
  ·rw[hl]at hq
   (repeat(first|((repeat(revert hN;revert N;apply Pn.out));refine wk (tw @h0 (tw @h3 (tw @h5 (tw @h6 (tw @hg (tw @dS (tw @e1 (tw @e2 (tw @fu (tw @aa.eq_1 @ae.eq_1)))))))))) ?_;(repeat(refine Pn.mk ?_;intro N hN)))|((try apply Or.inl);refine⟨_,aq.x (hq) (sd (tw @h0 (tw @h3 (tw @h5 (tw @h6 (tw @hg (tw @dS (tw @e1 (tw @e2 (tw @fu (tw @aa.eq_1 @ae.eq_1))))))))))),?_⟩;refine hN _ _ ?_;clear hN N)))
   refine⟨_,?_,i,(i+j) / 2,rfl,by omega,by omega,ki,fun x h1 h2=>?_,sd @h5,sd @e2,sd (tw @hg @ae.eq_1)⟩
   ·omega
   ·by_cases OH:x=(i+j) / 2
    ·subst OH;exact hl
    ·rw[Bool.eq_false_iff]
     intro hc
     have h3:=jQ (hR ((i+j) / 2) x (by omega) h2) hc
     rw[hl]at h3;cases h3
  ·rw[hl]at hq
   (repeat(first|((repeat(revert hN;revert N;apply Pn.out));refine wk (tw @h0 (tw @h3 (tw @h5 (tw @h6 (tw @hg (tw @dS (tw @e1 (tw @e2 (tw @fu (tw @aa.eq_1 @ae.eq_1)))))))))) ?_;(repeat(refine Pn.mk ?_;intro N hN)))|((try apply Or.inl);refine⟨_,aq.x (hq) (sd (tw @h0 (tw @h3 (tw @h5 (tw @h6 (tw @hg (tw @dS (tw @e1 (tw @e2 (tw @fu (tw @aa.eq_1 @ae.eq_1))))))))))),?_⟩;refine hN _ _ ?_;clear hN N)))
   refine⟨_,?_,(i+j) / 2+1,j,rfl,by omega,hj,fun x hx=>?_,CL,sd @e3,sd @h6,sd (tw @hg @ae.eq_1)⟩
   ·omega
   ·by_cases OH:x=(i+j) / 2
    ·subst OH;exact hl
    ·exact jQ (hR x _ (by omega) hm) hl
 ·have Oh:i=j:=by omega
  subst Oh
  have BD:mv l p=i:=zZ hj ki fun h=>CL i (Nat.le_refl _) h
  by_cases hn:(i:Int)<(l.length:Int)
  ·have fh:i<l.length:=by omega
   have fu:=fw fh
   by_cases hp:(aJ l i).aQ=p
   ·have hx:decide ((aJ l i).aQ.eZ=p.eZ)=true:=decide_eq_true (by rw[hp])
    have hy:decide ((aJ l i).aQ.eT=p.eT)=true:=decide_eq_true (by rw[hp])
    (try((repeat(revert hN;revert N;apply Pn.out));refine wk (tw @h0 (tw @h3 (tw @h5 (tw @h6 (tw @hg (tw @dS (tw @hn (tw @fu (tw @hx (tw @hy (tw @aa.eq_1 @ae.eq_1))))))))))) ?_;(repeat(refine Pn.mk ?_;intro N hN))))
    exact b4 (b:=(i:Int)) (.inl rfl) (sd @Nat.zero_add) (by rw[BD,if_pos ⟨fh,hp⟩])
   ·by_cases hx:(aJ l i).aQ.eZ=p.eZ
    ·have uS:decide ((aJ l i).aQ.eZ=p.eZ)=true:=decide_eq_true hx
     have hy':decide ((aJ l i).aQ.eT=p.eT)=false:=decide_eq_false fun h=>hp (D7 hx h)
     (try((repeat(revert hN;revert N;apply Pn.out));refine wk (tw @h0 (tw @h3 (tw @h5 (tw @h6 (tw @hg (tw @dS (tw @hn (tw @fu (tw @uS (tw @hy' (tw @aa.eq_1 @ae.eq_1))))))))))) ?_;(repeat(refine Pn.mk ?_;intro N hN))))
     exact b4 (b:=-1) (.inl rfl) (sd @Nat.zero_add) (by rw[BD,if_neg fun h=>hp h.2])
    ·have uS:decide ((aJ l i).aQ.eZ=p.eZ)=false:=decide_eq_false hx
     (try((repeat(revert hN;revert N;apply Pn.out));refine wk (tw @h0 (tw @h3 (tw @h5 (tw @h6 (tw @hg (tw @dS (tw @hn (tw @fu (tw @uS (tw @Bool.false_and (tw @aa.eq_1 @ae.eq_1))))))))))) ?_;(repeat(refine Pn.mk ?_;intro N hN))))
     exact b4 (b:=-1) (.inl rfl) (sd @Nat.zero_add) (by rw[BD,if_neg fun h=>hp h.2])
  ·have fh:¬i<l.length:=by omega
   (try((repeat(revert hN;revert N;apply Pn.out));refine wk (tw @h0 (tw @h3 (tw @h5 (tw @h6 (tw @hg (tw @dS (tw @hn (tw @aa.eq_1 @ae.eq_1)))))))) ?_;(repeat(refine Pn.mk ?_;intro N hN))))
   exact b4 (b:=-1) (.inl rfl) (sd @Nat.zero_add) (by rw[BD,if_neg fun h=>fh h.1])
theorem Fs (l:List ad) (p:aD) (hR:nJ l) (Gg:l.length<=1048576):aq Tryz.prog 98 [.di [.sl (l.map aa)],.agg (ae p)] (.int .i64 (gC l p)):=by
 refine aq.body eC rfl fun hl n0=>?_
 clear hl
 have hb:=qN l p hR Gg
 by_cases hi:eD l p<0
 ·rw[ae]at hb
  (repeat(first|((repeat(revert hN;revert N;apply Pn.out));refine wk (tw @ae.eq_1 @hi) ?_;(repeat(refine Pn.mk ?_;intro N hN)))|((try apply Or.inl);refine⟨_,aq.x (hb) (sd (tw @ae.eq_1 @hi)),?_⟩;refine hN _ _ ?_;clear hN N)))
  exact b4 (b:=-1) (.inl rfl) (sd @Nat.zero_add) (by rw[gC,if_neg (by omega)])
 ·have h0:0<=eD l p:=by omega
  have hg:=fw (lJ h0).1
  rw[ae]at hb
  (repeat(first|((repeat(revert hN;revert N;apply Pn.out));refine wk (tw @ae.eq_1 (tw @hi (tw @h0 (tw @hg @aa.eq_1)))) ?_;(repeat(refine Pn.mk ?_;intro N hN)))|((try apply Or.inl);refine⟨_,aq.x (hb) (sd (tw @ae.eq_1 (tw @hi (tw @h0 (tw @hg @aa.eq_1))))),?_⟩;refine hN _ _ ?_;clear hN N)))
  exact b4 (b:=(aJ l (eD l p).toNat).aV) (.inl rfl) (sd @Nat.zero_add) (by rw[gC,if_pos h0])
def jk (s:au) (l:List ad):Prop:=jE l/\∀t∈l,eL s t.aV=true
noncomputable def pT (s:au) (l:List ad):Bool:=oM l&&l.all fun t=>eL s t.aV
theorem mc {s:au} {l:List ad}:pT s l=true↔jk s l:=by simp[pT,jk,sR]
theorem vO:Qf aa (fun c=>.agg (aa c)) 3 true:=⟨fun _=>rfl,fun _=>rfl,fun x g=>by simp only[aa,ai,aj,bd,aH,Option.map_some]⟩
theorem GR (s:au) (t:ad) (hs:s.ah.length<=1048576):aq Tryz.prog 167 [.agg (aa t),.di (ab s)] (.bool (!eL s t.aV)):=by
 refine aq.body eC rfl fun hl n0=>?_
 clear hl
 have h:=Ja s t.aV
 rw[ab]at h
 (repeat(first|((repeat(revert hN;revert N;apply Pn.out));refine wk (tw @aa.eq_1 @ab.eq_1) ?_;(repeat(refine Pn.mk ?_;intro N hN)))|((try apply Or.inl);refine⟨_,aq.x (h) (sd (tw @aa.eq_1 @ab.eq_1)),?_⟩;refine hN _ _ ?_;clear hN N)))
 exact aT (b:= !eL s t.aV) (.inl rfl) (sd @Nat.zero_add) rfl
theorem Ms (s:au) (l:List ad) (hs:s.ah.length<=1048576) (hl:l.length<=1048576):aq Tryz.prog 166 [.sl (l.map aa),.fn 167 [.di (ab s)]] (.bool (l.any fun t=> !eL s t.aV)):=
 kJ vO (show mi Tryz.prog 166=some (zM 166 202) by kernel_rfl)
  (show mi Tryz.prog 202=some (s8 202 3 true) by kernel_rfl) l hl _ _ _ rfl (fun g=>by rw[ai,aU,aj];rfl) (fun x _=>GR s x hs) fun g=>by rw[ai,aU,aj];rfl
theorem EK {α:Type} (p:α->Bool) (l:List α):(!l.any fun t=> !p t)=l.all p:=by
 induction l with
 |nil=>rfl
 |cons x l ih=>simp only[List.any_cons,List.all_cons,<-ih];cases p x<;>simp
theorem nB (s:au) (l:List ad) (hn:fX s) (hg:s.ax.length<=1048576) (ht:s.ah.length<=1048576) (hs:∀t∈s.ah,t.bt.length<=1048576) (hl:l.length<=1048576):aq Tryz.prog 106 [.agg (ab s),.agg [.sl (l.map aa)]] (.bool (qT s&&pT s l)):=by
 refine aq.body eC rfl fun hl n0=>?_
 clear hl
 have h1:=C0 s hn hg ht hs
 have h2:=sU l
 have h3:=Ms s l ht hl
 rw[ab]at h1 h3
 cases b1:qT s
 ·rw[b1]at h1
  (repeat(first|((repeat(revert hN;revert N;apply Pn.out));refine wk @ab.eq_1 ?_;(repeat(refine Pn.mk ?_;intro N hN)))|((try apply Or.inl);refine⟨_,aq.x (h1) (sd @ab.eq_1),?_⟩;refine hN _ _ ?_;clear hN N)))
  exact aT (b:=false) (.inl rfl) (sd @Nat.zero_add) rfl
 rw[b1]at h1
 cases b2:oM l
 ·rw[b2]at h2
  (repeat(first|((repeat(revert hN;revert N;apply Pn.out));refine wk @ab.eq_1 ?_;(repeat(refine Pn.mk ?_;intro N hN)))|((try apply Or.inl);refine⟨_,aq.x (h1) (sd @ab.eq_1),?_⟩;refine hN _ _ ?_;clear hN N)|((try apply Or.inl);refine⟨_,aq.x (h2) (sd @ab.eq_1),?_⟩;refine hN _ _ ?_;clear hN N)))
  exact aT (b:=false) (.inl rfl) (sd @Nat.zero_add) (by rw[pT,b2];rfl)
 rw[b2]at h2
 (repeat(first|((repeat(revert hN;revert N;apply Pn.out));refine wk @ab.eq_1 ?_;(repeat(refine Pn.mk ?_;intro N hN)))|((try apply Or.inl);refine⟨_,aq.x (h1) (sd @ab.eq_1),?_⟩;refine hN _ _ ?_;clear hN N)|((try apply Or.inl);refine⟨_,aq.x (h2) (sd @ab.eq_1),?_⟩;refine hN _ _ ?_;clear hN N)|((try apply Or.inl);refine⟨_,aq.x (h3) (sd @ab.eq_1),?_⟩;refine hN _ _ ?_;clear hN N)))
 exact aT (b:= !(l.any fun t=> !eL s t.aV)) (.inl rfl) (sd @Nat.zero_add) (by rw[EK,pT,b2];rfl)
theorem Ft (s:au) (l:List ad):aq Tryz.prog 97 [.di (ab s),.di [.sl (l.map aa)]] (.bool (pT s l)):=by
 refine aq.body eC rfl fun hl n0=>?_
 have hlen:l.length<=9223372036854775807:=by
  have h1:=(hl (.di [.sl (l.map aa)]) (by simp)).BU (a:=.sl (l.map aa)) (by simp)
  simpa using h1.len
 clear hl
 have h2:=GD l
 cases b2:oM l
 ·rw[b2]at h2
  (repeat(first|((repeat(revert hN;revert N;apply Pn.out));refine wk @Nat.zero_add ?_;(repeat(refine Pn.mk ?_;intro N hN)))|((try apply Or.inl);refine⟨_,aq.x (h2) (sd @Nat.zero_add),?_⟩;refine hN _ _ ?_;clear hN N)))
  exact aT (b:=false) (.inl rfl) (sd @Nat.zero_add) (by rw[pT,b2];rfl)
 rw[b2]at h2
 (repeat(first|((repeat(revert hN;revert N;apply Pn.out));refine wk @Nat.zero_add ?_;(repeat(refine Pn.mk ?_;intro N hN)))|((try apply Or.inl);refine⟨_,aq.x (h2) (sd @Nat.zero_add),?_⟩;refine hN _ _ ?_;clear hN N)))
 refine aW (fun n env st=>∃k:Nat,n=(l.length)-k/\k<=(l.length)/\env 5=.int .i64 (k:Int)/\(∀j:Nat,j<k->eL s (aJ l j).aV=true)) (l.length) ⟨0,by omega,by omega,sl @Nat.zero_add,fun _ h=>absurd h (Nat.not_lt_zero _)⟩ ?_
 rintro n_a env_a st_a ⟨k,rfl,ale,a5,l6⟩ dH
 have a0:=dH 0 (by kernel_rfl);have a1:=dH 1 (by kernel_rfl)
 simp only[go_sem, ↓reduceIte,Nat.reduceEqDiff,Nat.reduceAdd,Nat.reduceSub,Nat.reduceLeDiff,reduceCtorEq]at a0 a1
 clear dH
 by_cases hk:(k:Int)<(l.length:Int)
 ·have cE:∀{e:Env},(e 5=.int .i64 (IntKind.i64.wrap ((k:Int)+1)))->(eL s (aJ l k).aV=true)->∃m0,m0<(l.length)-k/\∃k:Nat,m0=(l.length)-k/\k<=(l.length)/\e 5=.int .i64 (k:Int)/\(∀j:Nat,j<k->eL s (aJ l j).aV=true):=fun x1 x2=>⟨_,by omega,k+1,rfl,by omega,(by rw[x1,az (by omega)]),(all_succ l6 x2)⟩
  have fA:k<l.length:=by omega
  have eQ:=fw fA
  have ht:=wE s (aJ l k).aV
  cases b3:eL s (aJ l k).aV
  ·rw[b3]at ht
   (repeat(first|((repeat(revert hN;revert N;apply Pn.out));refine wk (tw @a5 (tw @a0 (tw @a1 (tw @hk (tw @eQ @aa.eq_1))))) ?_;(repeat(refine Pn.mk ?_;intro N hN)))|((try apply Or.inl);refine⟨_,aq.x (ht) (sd (tw @a5 (tw @a0 (tw @a1 (tw @hk (tw @eQ @aa.eq_1)))))),?_⟩;refine hN _ _ ?_;clear hN N)))
   exact aT (b:=false) (.inl rfl) (sd @Nat.zero_add) (by
    have:l.all (fun t=>eL s t.aV)=false:=List.all_eq_false.2 ⟨_,gH fA,by rw[b3];simp⟩
    rw[pT,this,Bool.and_false])
  ·rw[b3]at ht
   (repeat(first|((repeat(revert hN;revert N;apply Pn.out));refine wk (tw @a5 (tw @a0 (tw @a1 (tw @hk (tw @eQ @aa.eq_1))))) ?_;(repeat(refine Pn.mk ?_;intro N hN)))|((try apply Or.inl);refine⟨_,aq.x (ht) (sd (tw @a5 (tw @a0 (tw @a1 (tw @hk (tw @eQ @aa.eq_1)))))),?_⟩;refine hN _ _ ?_;clear hN N)))
   exact cE (sd (tw @a5 (tw @a0 @a1))) (b3)
 ·(try((repeat(revert hN;revert N;apply Pn.out));refine wk (tw @a5 (tw @a0 (tw @a1 @hk))) ?_;(repeat(refine Pn.mk ?_;intro N hN))))
  exact aT (b:=true) (.inl rfl) (sd @Nat.zero_add) (by
   have:l.all (fun t=>eL s t.aV)=true:=List.all_eq_true.2 fun t ht=>by
    obtain⟨j,hj,rfl⟩:=List.getElem_of_mem ht
    have:=l6 j (by omega)
    rwa [fb hj]at this
   rw[pT,b2,this];rfl)
theorem xV (l:List ad) (hF:jE l) (i:Nat) (d:Int) (hi:i<l.length) (hd:jb d 0 3=true):aq Tryz.prog 217 [.di [.sl (l.map aa)],.int .i64 i,.int .i64 d] (.int .i64 (eD l (dx (aJ l i).aQ d))):=by
 refine aq.body eC rfl fun hl n0=>?_
 clear hl
 have hg:=fw hi
 have hp:=tj (hF.pt hi)
 have h1:=yN (aJ l i).aQ d hd hp.1 hp.2
 have h2:=qN l (dx (aJ l i).aQ d) hF.G3 (by have:=hF.sD;omega)
 rw[ae]at h1 h2
 (repeat(first|((repeat(revert hN;revert N;apply Pn.out));refine wk (tw @aa.eq_1 (tw @hg @ae.eq_1)) ?_;(repeat(refine Pn.mk ?_;intro N hN)))|((try apply Or.inl);refine⟨_,aq.x (h1) (sd (tw @aa.eq_1 (tw @hg @ae.eq_1))),?_⟩;refine hN _ _ ?_;clear hN N)|((try apply Or.inl);refine⟨_,aq.x (h2) (sd (tw @aa.eq_1 (tw @hg @ae.eq_1))),?_⟩;refine hN _ _ ?_;clear hN N)))
 exact b4 (b:=eD l (dx (aJ l i).aQ d)) (.inl rfl) (sd @Nat.zero_add) rfl
end Go.Proofs.YtgoelphibofcmaaGreat.V

namespace Go.Proofs.YtgoelphibofcmaaGreat.V
def bi (b:Bool):Int:=if b then 1 else 0
def lZ (f:Nat->Int):Nat->Int
 |0=>0
 |n+1=>lZ f n+f n
theorem gu {f g:Nat->Int}:∀{n:Nat},(∀i,i<n->f i=g i)->lZ f n=lZ g n
 |0,_=>rfl
 |n+1,h=>by
  simp only[lZ]
  rw[gu fun i hi=>h i (by omega),h n (by omega)]
theorem sf {f g:Nat->Int}:∀{n:Nat},(∀i,i<n->f i<=g i)->lZ f n<=lZ g n
 |0,_=>Int.le_refl _
 |n+1,h=>by
  simp only[lZ]
  have:=sf (n:=n) fun i hi=>h i (by omega)
  have:=h n (by omega)
  omega
theorem jU:∀{n:Nat} {f:Nat->Int},(∀i,i<n->f i=0)->lZ f n=0
 |0,_,_=>rfl
 |n+1,f,h=>by
  simp only[lZ]
  rw[jU fun i hi=>h i (by omega),h n (by omega)];rfl
theorem pN {f:Nat->Int} {a:Nat} {d:Int}:∀n,lZ (fun i=>f i+if i=a then d else 0) n=lZ f n+if a<n then d else 0
 |0=>by simp[lZ]
 |n+1=>by
  simp only[lZ]
  rw[pN n]
  by_cases h:n=a
  ·subst h;simp;omega
  ·rw[if_neg h]
   by_cases h2:a<n
   ·rw[if_pos h2,if_pos (by omega)];omega
   ·rw[if_neg h2,if_neg (by omega)];omega
def mj (n:Nat) (S:Nat->Bool) (f:Nat->Nat->Int):Int:=lZ (fun u=>lZ (fun v=>if S u&& !S v then f u v else 0) n) n
def bump (f:Nat->Nat->Int) (a b:Nat) (d:Int):Nat->Nat->Int:=fun u v=>f u v+if u=a/\v=b then d else 0
theorem pq {n:Nat} {S:Nat->Bool} {f:Nat->Nat->Int} {a b:Nat} {d:Int} (ha:a<n) (hb:b<n):mj n S (bump f a b d)=mj n S f+if S a&& !S b then d else 0:=by
 unfold mj
 have h1:∀u,u<n->lZ (fun v=>if S u&& !S v then bump f a b d u v else 0) n=lZ (fun v=>if S u&& !S v then f u v else 0) n+if u=a then(if S a&& !S b then d else 0)else 0:=by
  intro u hu
  by_cases h:u=a
  ·subst h
   have h2:∀v,v<n->(if S u&& !S v then bump f u b d u v else 0)=(fun v=>if S u&& !S v then f u v else 0) v+if v=b then(if S u&& !S b then d else 0)else 0:=by
    intro v hv
    unfold bump
    by_cases h3:v=b
    ·subst h3;simp only[and_self,if_true];split<;>omega
    ·simp only[h3,and_false,if_false];split<;>omega
   rw[gu h2,pN,if_pos hb,if_pos rfl]
  ·rw[if_neg h,Int.add_zero]
   refine gu fun v hv=>?_
   unfold bump
   simp[h]
 rw[gu h1,pN,if_pos ha]
theorem K6 {n:Nat} {S:Nat->Bool} {f c:Nat->Nat->Int} (h:∀u v,u<n->v<n->f u v<=c u v):mj n S f<=mj n S c:=
 sf fun u hu=>sf fun v hv=>by split;exact h u v hu hv;exact Int.le_refl _
theorem K5 {n:Nat} {S:Nat->Bool} {f c:Nat->Nat->Int} (h:∀u v,u<n->v<n->S u=true->S v=false->f u v=c u v):mj n S f=mj n S c:=
 gu fun u hu=>gu fun v hv=>by
  split
  ·rename_i hc
   simp only[Bool.and_eq_true,Bool.not_eq_true']at hc
   exact h u v hu hv hc.1 hc.2
  ·rfl
def kp (f:Nat->Nat->Int) (a b:Nat):Nat->Nat->Int:=bump (bump f a b 1) b a (-1)
theorem F2 {n:Nat} {S:Nat->Bool} {f:Nat->Nat->Int} {a b:Nat} (ha:a<n) (hb:b<n):mj n S (kp f a b)=mj n S f+bi (S a)-bi (S b):=by
 unfold kp
 rw[pq hb ha,pq ha hb]
 cases S a<;>cases S b<;>simp[bi]<;>omega
def me (f:Nat->Nat->Int):List Nat->Nat->Nat->Int
 |a::b::r=>me (kp f a b) (b::r)
 |_=>f
def q9 (f c:Nat->Nat->Int):List Nat->Prop
 |a::b::r=>f a b<c a b/\q9 f c (b::r)
 |_=>True
theorem A8 {n:Nat} {S:Nat->Bool}:∀(r:List Nat) (a:Nat) (f:Nat->Nat->Int),(∀x∈a::r,x<n)->mj n S (me f (a::r))=mj n S f+bi (S a)-bi (S ((a::r).getLast (by simp)))
 |[],a,f,_=>by simp[me]
 |b::r,a,f,h=>by
  rw[me,A8 r b (kp f a b) fun x hx=>h x (List.mem_cons_of_mem _ hx),F2 (h a (by simp)) (h b (by simp)),List.getLast_cons_cons]
  generalize bi (S b)=q
  omega
theorem q9.less {f g c:Nat->Nat->Int}:∀{p:List Nat},q9 f c p->(∀u,u∈p->∀v,g u v<=f u v)->q9 g c p
 |[],_,_=>trivial
 |[_],_,_=>trivial
 |a::b::r,h,hl=>⟨Int.lt_of_le_of_lt (hl a (by simp) b) h.1,q9.less (p:=b::r) h.2 fun u hu=>hl u (List.mem_cons_of_mem _ hu)⟩
theorem EL {n:Nat} {c:Nat->Nat->Int}:∀(p:List Nat) (f:Nat->Nat->Int),p.Nodup->q9 f c p->(∀u v,u<n->v<n->f u v<=c u v)->∀u v,u<n->v<n->me f p u v<=c u v
 |[],f,_,_,h=>h
 |[_],f,_,_,h=>h
 |a::b::r,f,hn,hr,h=>by
  rw[me]
  have qD:a∉b::r:=(List.nodup_cons.1 hn).1
  refine EL (b::r) _ (List.nodup_cons.1 hn).2 (hr.2.less fun u hu v=>?_) fun u v hu hv=>?_
  ·unfold kp bump
   have:u≠a:=by rintro rfl;exact qD hu
   simp only[this,false_and,if_false]
   split<;>omega
  ·have h0:=h u v hu hv
   have h1:=hr.1
   unfold kp bump
   by_cases e:u=a/\v=b
   ·obtain⟨rfl,rfl⟩:=e
    rw[if_pos ⟨rfl,rfl⟩];split<;>omega
   ·rw[if_neg e];split<;>omega
structure lu (n:Nat) (c f:Nat->Nat->Int) (x y:Nat) (val:Int):Prop where
 le:∀u v,u<n->v<n->f u v<=c u v
 cut:∀S:Nat->Bool,S x=true->S y=false->mj n S f=val
theorem lu.zero {n:Nat} {c:Nat->Nat->Int} {x y:Nat} (h:∀u v,u<n->v<n->0<=c u v):lu n c (fun _ _=>0) x y 0:=
 ⟨h,fun S _ _=>jU fun u hu=>jU fun v hv=>by split<;>rfl⟩
theorem lu.congr {n:Nat} {c f g:Nat->Nat->Int} {x y:Nat} {val:Int} (h:lu n c f x y val) (e:∀u v,u<n->v<n->g u v=f u v):lu n c g x y val:=
 ⟨fun u v hu hv=>by rw[e u v hu hv];exact h.le u v hu hv,fun S hx hy=>by
  rw[<-h.cut S hx hy]
  exact gu fun u hu=>gu fun v hv=>by rw[e u v hu hv]⟩
theorem lu.aug {n:Nat} {c f:Nat->Nat->Int} {x y:Nat} {val:Int} (h:lu n c f x y val) {r:List Nat} (hl:(x::r).getLast (by simp)=y) (hn:(x::r).Nodup) (hr:q9 f c (x::r)) (hb:∀v∈x::r,v<n):lu n c (me f (x::r)) x y (val+1):=
 ⟨EL _ _ hn hr h.le,fun S hx hy=>by rw[A8 r x f hb,hl,h.cut S hx hy,hx,hy];simp[bi]⟩
theorem lu.bound {n:Nat} {c f:Nat->Nat->Int} {x y:Nat} {val:Int} (h:lu n c f x y val) {S:Nat->Bool} (hx:S x=true) (hy:S y=false):val<=mj n S c:=by
 rw[<-h.cut S hx hy];exact K6 h.le
theorem lu.full {n:Nat} {c f:Nat->Nat->Int} {x y:Nat} {val:Int} (h:lu n c f x y val) {S:Nat->Bool} (hx:S x=true) (hy:S y=false) (hS:∀u v,u<n->v<n->S u=true->S v=false->¬f u v<c u v):val=mj n S c:=by
 rw[<-h.cut S hx hy]
 exact K5 fun u v hu hv h1 h2=>by have:=hS u v hu hv h1 h2;have:=h.le u v hu hv;omega
structure PB where
 a:Nat
 b:Nat
 s:Int
 deriving Inhabited
def cC (bs:List PB) (i:Nat):PB:=bs.getD i default
def jf (S:Nat->Bool) (bs:List PB):Int:=(bs.map fun b=>if S b.a=S b.b then 0 else b.s).sum
def nL (c:Nat->Nat->Int) (b:PB):Nat->Nat->Int:=bump (bump c b.a b.b b.s) b.b b.a b.s
def kZ (bs:List PB):Nat->Nat->Int:=bs.foldl nL fun _ _=>0
theorem Ec (bs:List PB) (b:PB):kZ (bs++[b])=nL (kZ bs) b:=by simp[kZ]
theorem Bi {n:Nat} {S:Nat->Bool}:∀(bs:List PB) (c:Nat->Nat->Int),(∀b∈bs,b.a<n/\b.b<n)->mj n S (bs.foldl nL c)=mj n S c+jf S bs
 |[],c,_=>by simp[jf]
 |b::bs,c,h=>by
  have hb:=h b (by simp)
  rw[List.foldl_cons,Bi bs _ fun x hx=>h x (List.mem_cons_of_mem _ hx)]
  unfold nL jf
  rw[pq hb.2 hb.1,pq hb.1 hb.2,List.map_cons,List.sum_cons]
  cases S b.a<;>cases S b.b<;>simp<;>omega
theorem Bj {n:Nat} {S:Nat->Bool} {bs:List PB} (h:∀b∈bs,b.a<n/\b.b<n):mj n S (kZ bs)=jf S bs:=by
 rw[kZ,Bi bs _ h]
 have:mj n S (fun _ _=>0)=0:=jU fun u hu=>jU fun v hv=>by split<;>rfl
 omega
theorem Ak:∀(bs:List PB) (c:Nat->Nat->Int),(∀b∈bs,0<=b.s)->(∀u v,0<=c u v)->∀u v,0<=bs.foldl nL c u v
 |[],c,_,h=>h
 |b::bs,c,hb,h=>by
  rw[List.foldl_cons]
  refine Ak bs _ (fun x hx=>hb x (List.mem_cons_of_mem _ hx)) fun u v=>?_
  have:=hb b (by simp);have:=h u v
  unfold nL bump
  split<;>split<;>omega
theorem room_le:∀(bs:List PB) (c:Nat->Nat->Int) (m:Int),(∀b∈bs,b.s<=4)->(∀u v,c u v<=m)->0<=m->∀u v,bs.foldl nL c u v<=m+8*bs.length
 |[],c,m,_,h,_=>fun u v=>by have:=h u v;simp;omega
 |b::bs,c,m,hb,h,h0=>fun u v=>by
  rw[List.foldl_cons]
  have:=room_le bs (nL c b) (m+8) (fun x hx=>hb x (List.mem_cons_of_mem _ hx)) (fun u v=>by
   have:=hb b (by simp);have:=h u v
   unfold nL bump
   split<;>split<;>omega) (by omega) u v
  simp only[List.length_cons];omega
def kG (n:Nat) (bs:List PB) (t:Int):Prop:=∀S:Nat->Bool,S 0=true->(∃y,y<n/\S y=false)->t<=jf S bs
def F0 (S:Nat->Bool) (bs:List PB) (f:Nat->Int):Int:=lZ (fun i=>f i*(bi (S (cC bs i).a)-bi (S (cC bs i).b))) bs.length
structure jZ (bs:List PB) (f:Nat->Int) (x y:Nat) (val:Int):Prop where
 le:∀i,i<bs.length->f i<=(cC bs i).s/\-(cC bs i).s<=f i
 cut:∀S:Nat->Bool,S x=true->S y=false->F0 S bs f=val
theorem vK (S:Nat->Bool):∀bs:List PB,jf S bs=lZ (fun i=>if S (cC bs i).a=S (cC bs i).b then 0 else(cC bs i).s) bs.length:=by
 intro bs
 have key:∀n,n<=bs.length->jf S (bs.take n)=lZ (fun i=>if S (cC bs i).a=S (cC bs i).b then 0 else(cC bs i).s) n:=by
  intro n
  induction n with
  |zero=>intro _;rfl
  |succ n ih=>
   intro h
   have e:cC bs n=bs[n]:=by simp[cC,List.getD_eq_getElem?_getD,List.getElem?_eq_getElem (show n<bs.length by omega)]
   rw[List.take_succ_eq_append_getElem (by omega),lZ,<-ih (by omega),e]
   unfold jf
   rw[List.map_append,List.sum_append]
   simp only[List.map_cons,List.map_nil,List.sum_cons,List.sum_nil,Int.add_zero]
 have:=key bs.length (Nat.le_refl _)
 rwa [List.take_length]at this
theorem jZ.bound {bs:List PB} {f:Nat->Int} {x y:Nat} {val:Int} (h:jZ bs f x y val) {S:Nat->Bool} (hx:S x=true) (hy:S y=false):val<=jf S bs:=by
 rw[<-h.cut S hx hy,vK]
 refine sf fun i hi=>?_
 have:=h.le i hi
 cases S (cC bs i).a<;>cases S (cC bs i).b<;>simp[bi]<;>omega
def fE (bs:List PB) (f:Nat->Int) (i u:Nat):Int:=if (cC bs i).a=u then(cC bs i).s-f i else(cC bs i).s+f i
def bW (bs:List PB) (i u:Nat):Nat:=if (cC bs i).a=u then(cC bs i).b else(cC bs i).a
theorem jZ.full {bs:List PB} {f:Nat->Int} {x y:Nat} {val:Int} (h:jZ bs f x y val) {S:Nat->Bool} (hx:S x=true) (hy:S y=false)
  (hS:∀i,i<bs.length->((cC bs i).a≠(cC bs i).b->(S (cC bs i).a=true->S (cC bs i).b=false->¬0<fE bs f i (cC bs i).a)/\(S (cC bs i).b=true->S (cC bs i).a=false->¬0<fE bs f i (cC bs i).b))):val=jf S bs:=by
 rw[<-h.cut S hx hy,vK]
 refine gu fun i hi=>?_
 have h1:=h.le i hi
 by_cases qD:(cC bs i).a=(cC bs i).b
 ·rw[qD];simp
 ·have h2:=hS i hi qD
  unfold fE at h2
  rw[if_pos rfl,if_neg qD]at h2
  cases ha:S (cC bs i).a<;>cases hb:S (cC bs i).b<;>rw[ha,hb]at h2<;>simp[bi]at h2 ⊢ <;>omega
def ub (bs:List PB) (f:Nat->Int) (i u:Nat):Nat->Int:=fun j=>f j+if j=i then(if (cC bs i).a=u then 1 else -1)else 0
theorem F1 {S:Nat->Bool} {bs:List PB} {f:Nat->Int} {i u:Nat} (hi:i<bs.length) (hu:(cC bs i).a=u∨(cC bs i).b=u):F0 S bs (ub bs f i u)=F0 S bs f+bi (S u)-bi (S (bW bs i u)):=by
 unfold F0 ub
 have e:∀j,j<bs.length->(f j+if j=i then(if (cC bs i).a=u then 1 else -1)else 0)*(bi (S (cC bs j).a)-bi (S (cC bs j).b))=(fun j=>f j*(bi (S (cC bs j).a)-bi (S (cC bs j).b))) j+if j=i then(if (cC bs i).a=u then 1 else -1)*(bi (S (cC bs i).a)-bi (S (cC bs i).b))else 0:=by
  intro j hj
  by_cases h:j=i
  ·subst h;simp only[if_true];rw[Int.add_mul]
  ·simp only[h,if_false];simp
 rw[gu e,pN,if_pos hi]
 unfold bW
 by_cases ha:(cC bs i).a=u
 ·rw[if_pos ha,if_pos ha,ha];omega
 ·rw[if_neg ha,if_neg ha]
  rcases hu with hu|hu
  ·exact absurd hu ha
  ·rw[hu];omega
theorem oX:∀(n:Nat) (l:List Nat),l.Nodup->(∀x∈l,x<n)->l.length<=n
 |0,l,_,h=>by
  cases l with
  |nil=>simp
  |cons x l=>exact absurd (h x (by simp)) (by omega)
 |n+1,l,hn,h=>by
  have h1:=oX n (l.erase n) (hn.erase _) fun x hx=>by
   have h2:=(hn.mem_erase_iff).1 hx
   have h3:=h x h2.2
   have h4:=h2.1
   omega
  rw[List.length_erase]at h1
  split at h1<;>omega
end Go.Proofs.YtgoelphibofcmaaGreat.V

namespace Go.Proofs.YtgoelphibofcmaaGreat.V
def eO (L:Nat->Nat) (b:PB):Nat->Nat:=fun k=>if L k=max (L b.a) (L b.b)then min (L b.a) (L b.b)else L k
def eB (bs:List PB):Nat->Nat:=bs.foldl eO id
theorem wG (bs:List PB) (b:PB):eB (bs++[b])=eO (eB bs) b:=by simp[eB]
structure jG (L:Nat->Nat):Prop where
 le:∀k,L k<=k
 idem:∀k,L (L k)=L k
theorem jG.step {L:Nat->Nat} (h:jG L) (b:PB):jG (eO L b):=by
 have ha:=h.idem b.a
 have hb:=h.idem b.b
 refine⟨fun k=>?_,fun k=>?_⟩
 ·have:=h.le k
  unfold eO
  split<;>omega
 ·have hk:=h.idem k
  have hm:L (min (L b.a) (L b.b))=min (L b.a) (L b.b):=by
   rcases Nat.le_total (L b.a) (L b.b)with h1|h1
   ·rw[Nat.min_eq_left h1,ha]
   ·rw[Nat.min_eq_right h1,hb]
  unfold eO
  by_cases h1:L k=max (L b.a) (L b.b)
  ·rw[if_pos h1,hm];split<;>rfl
  ·rw[if_neg h1,hk,if_neg h1]
theorem wH:∀(bs:List PB) (L:Nat->Nat),jG L->jG (bs.foldl eO L)
 |[],_,h=>h
 |b::bs,L,h=>wH bs _ (h.step b)
theorem tW (bs:List PB):jG (eB bs):=wH bs id ⟨fun _=>Nat.le_refl _,fun _=>rfl⟩
def leads (n:Nat) (L:Nat->Nat):List Nat:=(List.range n).filter fun i=>L i==i
def members (n:Nat) (L:Nat->Nat) (i:Nat):List Nat:=(List.range n).filter fun k=>L k==i
def fy (n:Nat) (L:Nat->Nat):List (List Nat):=(leads n L).map (members n L)
def bV (L:Nat->Nat) (k:Nat):Nat:=(leads (L k) L).length
theorem gQ (n:Nat) (L:Nat->Nat):leads (n+1) L=leads n L++if L n=n then[n]else[]:=by
 unfold leads
 rw[List.range_succ,List.filter_append]
 congr 1
 by_cases h:L n=n<;>simp[h]
theorem jv (n:Nat) (L:Nat->Nat) (i:Nat):members (n+1) L i=members n L i++if L n=i then[n]else[]:=by
 unfold members
 rw[List.range_succ,List.filter_append]
 congr 1
 by_cases h:L n=i<;>simp[h]
theorem ni {L:Nat->Nat} (h:jG L) {n i:Nat} (hn:n<=i):members n L i=[]:=by
 unfold members
 rw[List.filter_eq_nil_iff]
 intro k hk
 have:=h.le k
 have:=List.mem_range.1 hk
 simp;omega
theorem tX (n:Nat) (L:Nat->Nat):(leads n L).Nodup:=List.nodup_range.filter _
theorem yR {n:Nat} {L:Nat->Nat} {i:Nat}:i∈leads n L↔i<n/\L i=i:=by simp[leads]
theorem lN {n:Nat} {L:Nat->Nat} {i k:Nat}:k∈members n L i↔k<n/\L k=i:=by simp[members]
theorem GJ {L:Nat->Nat} {m n:Nat} (h:m<=n):∃r,leads n L=leads m L++r:=by
 obtain⟨d,rfl⟩:=Nat.le.dest h
 clear h
 induction d with
 |zero=>exact⟨[],by simp⟩
 |succ d ih=>
  obtain⟨r,hr⟩:=ih
  exact⟨r++if L (m+d)=m+d then[m+d]else[],by rw[<-Nat.add_assoc,gQ,hr,List.append_assoc]⟩
theorem pz {L:Nat->Nat} (h:jG L) {n k:Nat} (hk:k<n):(leads n L)[bV L k]? =some (L k):=by
 have h1:=h.le k
 obtain⟨r,hr⟩:=GJ (L:=L) (show L k+1<=n by omega)
 rw[hr,gQ,if_pos (h.idem k),List.append_assoc]
 unfold bV
 rw[List.getElem?_append_right (Nat.le_refl _),Nat.sub_self];rfl
theorem kc {L:Nat->Nat} (h:jG L) {n k:Nat} (hk:k<n):bV L k<(leads n L).length:=(List.getElem?_eq_some_iff.1 (pz h hk)).1
theorem te {L:Nat->Nat} (h:jG L) {n k i:Nat} (hk:k<n) (hi:i<(leads n L).length):k∈members n L (leads n L)[i]↔bV L k=i:=by
 rw[lN]
 have h1:=pz h hk
 rw[List.getElem?_eq_getElem (kc h hk)]at h1
 injection h1 with h1
 constructor
 ·rintro⟨_,h2⟩
  rw[<-h1]at h2
  exact(List.getElem_inj (tX n L)).1 h2
 ·rintro rfl
  exact⟨hk,h1.symm⟩
def dt (L:Nat->Nat) (bs:List PB):List PB:=bs.filterMap fun b=>if bV L b.a=bV L b.b then none else some ⟨bV L b.a,bV L b.b,b.s⟩
def eY (L:Nat->Nat) (bs:List PB):List PB:=bs.filterMap fun b=>if bV L b.a=bV L b.b then none else some ⟨min (bV L b.a) (bV L b.b),max (bV L b.a) (bV L b.b),b.s⟩
theorem Am (L:Nat->Nat) (bs:List PB) (b:PB):dt L (bs++[b])=dt L bs++if bV L b.a=bV L b.b then[]else[⟨bV L b.a,bV L b.b,b.s⟩]:=by
 unfold dt
 rw[List.filterMap_append]
 congr 1
 by_cases h:bV L b.a=bV L b.b<;>simp[h]
theorem An (L:Nat->Nat) (bs:List PB) (b:PB):eY L (bs++[b])=eY L bs++if bV L b.a=bV L b.b then[]else[⟨min (bV L b.a) (bV L b.b),max (bV L b.a) (bV L b.b),b.s⟩]:=by
 unfold eY
 rw[List.filterMap_append]
 congr 1
 by_cases h:bV L b.a=bV L b.b<;>simp[h]
theorem sP (S:Nat->Bool) (b:PB) (bs:List PB):jf S (b::bs)=(if S b.a=S b.b then 0 else b.s)+jf S bs:=by simp[jf]
theorem yj (S:Nat->Bool) (L:Nat->Nat):∀bs:List PB,jf S (eY L bs)=jf S (dt L bs)
 |[]=>rfl
 |b::bs=>by
  have ih:=yj S L bs
  unfold eY dt at ih ⊢
  rw[List.filterMap_cons,List.filterMap_cons]
  by_cases h:bV L b.a=bV L b.b
  ·simp only[h,if_true];exact ih
  ·simp only[h,if_false]
   rw[sP,sP,ih]
   congr 1
   simp only
   rcases Nat.le_total (bV L b.a) (bV L b.b)with h1|h1
   ·rw[Nat.min_eq_left h1,Nat.max_eq_right h1]
   ·rw[Nat.min_eq_right h1,Nat.max_eq_left h1]
    cases S (bV L b.a)<;>cases S (bV L b.b)<;>rfl
theorem Eg {L:Nat->Nat} (h:jG L) {n:Nat} {bs:List PB} (hb:∀b∈bs,b.a<n/\b.b<n):∀b∈dt L bs,b.a<(leads n L).length/\b.b<(leads n L).length/\b.a≠b.b/\∃c∈bs,b.s=c.s:=by
 intro b hm
 unfold dt at hm
 obtain⟨c,hc,he⟩:=List.mem_filterMap.1 hm
 split at he
 ·cases he
 ·rename_i gW
  simp only[Option.some.injEq]at he
  subst he
  exact⟨kc h (hb c hc).1,kc h (hb c hc).2,gW,c,hc,rfl⟩
theorem Eh {L:Nat->Nat} (h:jG L) {n:Nat} {bs:List PB} (hb:∀b∈bs,b.a<n/\b.b<n):∀b∈eY L bs,b.a<(leads n L).length/\b.b<(leads n L).length/\b.a≠b.b/\∃c∈bs,b.s=c.s:=by
 intro b hm
 unfold eY at hm
 obtain⟨c,hc,he⟩:=List.mem_filterMap.1 hm
 split at he
 ·cases he
 ·rename_i gW
  simp only[Option.some.injEq]at he
  subst he
  have h1:=kc h (hb c hc).1
  have h2:=kc h (hb c hc).2
  refine⟨by simp only;omega,by simp only;omega,by simp only;omega,c,hc,rfl⟩
theorem nr (L:Nat->Nat) (bs:List PB):(dt L bs).length<=bs.length/\(eY L bs).length<=bs.length:=⟨List.length_filterMap_le ..,List.length_filterMap_le ..⟩
theorem jP (n:Nat) (L:Nat->Nat):(leads n L).length<=n:=by
 have:=List.length_filter_le (fun i=>L i==i) (List.range n)
 simpa[leads]using this
def aL (t:Int) (bs:List PB):List PB:=bs.filter fun b=>decide (t<=b.s)
def pk (n:Nat) (bs:List PB) (t:Int):Prop:=
 (leads n (eB (aL t bs))).length<=64/\kG (leads n (eB (aL t bs))).length (dt (eB (aL t bs)) bs) t
theorem Dx {n:Nat} {L:Nat->Nat} {bs:List PB} {t:Int}:kG n (eY L bs) t↔kG n (dt L bs) t:=by
 unfold kG
 constructor<;>intro h S h0 hy<;>have:=h S h0 hy<;>rw[yj]at *<;>exact this
end Go.Proofs.YtgoelphibofcmaaGreat.V

namespace Go.Proofs.YtgoelphibofcmaaGreat.V
open Go.RowKit
attribute [local irreducible] dG wpOps gy Call
attribute [local go_sem] aM fF eP ga fW cQ upd cz K.av cR AV.cells AV.cell rowOf rowsOf part ld rowAt bq cu dD ee ik bJ dh ev fU eX dr ej dd dc dQ dR bQ bf cW bP cY cX eh ek ei cV cj de ef bK aO da cG ij bw cK bU aY dn aZ dE AV.undef bD bG dV ec dM dK cH eu ew cF ep eo cZ db List.getD_cons_zero List.getD_cons_succ List.getD_nil List.all_cons List.all_nil Bool.and_true Bool.true_and Bool.and_self Bool.not_true Bool.not_false Option.map_some Option.map_none Option.bind_some Option.bind_none List.length_cons List.length_nil List.take_succ_cons List.take_zero List.take_nil List.drop_succ_cons List.drop_zero List.drop_nil List.head?_cons List.map_cons List.map_nil List.getElem?_cons_zero List.getElem?_cons_succ List.cons_append List.nil_append List.append_nil List.length_map List.set_cons_zero List.set_cons_succ Nat.reduceMul eq_self Int.toNat_natCast Int.natCast_nonneg and_self true_and and_true decide_true decide_false Bool.false_eq_true Nat.zero_add Nat.add_zero List.contains_cons List.contains_nil Bool.or_false Bool.false_or beq_self_eq_true Nat.reduceBEq ne_eq not_true_eq_false not_false_eq_true Id.mk.injEq false_and and_false Nat.reduceLT Int.reduceLE Int.reduceLT Int.reduceToNat Int.reduceNeg Int.reduceAdd Nat.le_refl List.length_append beq_true beq_false Bool.not_eq_eq_eq_not or_false false_or dL ai aj aH bl bB cw aX bd aU bh cU bH
def ay (b:PB):List AV:=[.int .i64 b.a,.int .i64 b.b,.int .i64 b.s]
theorem Ni:∀b:PB,(ay b).length=3/\(ay b).all AV.cell=true:=fun _=>⟨rfl,rfl⟩
theorem zF (g:Rows) (n:Nat) (b:PB):cN g (n+1) (ay b)=some (ay b):=by simp[ay,ai,aj,aH]
theorem uI (g:Rows) (n:Nat) (b:PB):er g (n+1) (ay b)=some (ay b):=by simp[ay,bz,cD,eK]
theorem Ie:Qf ay (fun c=>.agg (ay c)) 3 true:=⟨fun _=>rfl,fun _=>rfl,fun x g=>by simp only[ay,ai,aj,bd,aH,Option.map_some]⟩
def mV (s:au) (l:List ad) (i:Nat) (d:Int):List PB:=
 if 0<=eD l (dx (aJ l i).aQ d)/\0<gT s (aJ l i).aV d (aJ l (eD l (dx (aJ l i).aQ d)).toNat).aV then
  [⟨i,(eD l (dx (aJ l i).aQ d)).toNat,gT s (aJ l i).aV d (aJ l (eD l (dx (aJ l i).aQ d)).toNat).aV⟩]else[]
def fZ (s:au) (l:List ad) (i m:Nat):List PB:=(List.range m).flatMap fun j:Nat=>mV s l i (1-(j:Int))
def gO (s:au) (l:List ad) (n:Nat):List PB:=(List.range n).flatMap fun i=>fZ s l i 2
def cJ (s:au) (l:List ad):List PB:=gO s l l.length
theorem qa (s:au) (l:List ad) (i m:Nat):fZ s l i (m+1)=fZ s l i m++mV s l i (1-(m:Int)):=by simp[fZ,List.range_succ]
theorem rq (s:au) (l:List ad) (n:Nat):gO s l (n+1)=gO s l n++fZ s l n 2:=by simp[gO,List.range_succ]
theorem C5 (s:au) (l:List ad) (i:Nat) (d:Int):(mV s l i d).length<=1:=by unfold mV;split<;>simp
theorem rn (s:au) (l:List ad) (i m:Nat):(fZ s l i m).length<=m:=by
 induction m with
 |zero=>simp[fZ]
 |succ m ih=>rw[qa,List.length_append];have:=C5 s l i (1-(m:Int));omega
theorem tJ (s:au) (l:List ad) (n:Nat):(gO s l n).length<=2*n:=by
 induction n with
 |zero=>simp[gO]
 |succ n ih=>rw[rq,List.length_append];have:=rn s l n 2;omega
def sB:Id->Prop:=fun o=>o.site=193001000∨o.site=193012006
theorem DM (s:au) (l:List ad) (hS:kF s) (hA:jk s l):aq Tryz.prog 193 [.di (ab s),.di [.sl (l.map aa)]] (.sl ((cJ s l).map ay)):=by
 refine aq.body eC rfl fun hl n0=>?_
 clear hl
 have hF:=hA.1
 have IH:=hF.sD
 (try((repeat(revert hN;revert N;apply Pn.out));refine wk @Nat.zero_add ?_;(repeat(refine Pn.mk ?_;intro N hN))))
 refine aW (fun n env st=>∃k:Nat,n=(l.length)-k/\k<=(l.length)/\env 6=.int .i64 (k:Int)/\(mQ ay 3 (env 5) st.get sB (gO s l k))) (l.length) ⟨0,by omega,by omega,sl @Nat.zero_add,⟨⟨193001000,n0+1⟩,.inl rfl,by simp only[go_sem, ↓reduceIte,Nat.reduceEqDiff,Nat.reduceAdd,Nat.reduceSub,Nat.reduceLeDiff,reduceCtorEq];rfl,by simp only[go_sem, ↓reduceIte,Nat.reduceEqDiff,Nat.reduceAdd,Nat.reduceSub,Nat.reduceLeDiff,reduceCtorEq];rfl⟩⟩ ?_
 rintro n_a env_a st_a ⟨k,rfl,ale,a6,mb⟩ dH
 have a0:=dH 0 (by kernel_rfl);have a1:=dH 1 (by kernel_rfl)
 simp only[go_sem, ↓reduceIte,Nat.reduceEqDiff,Nat.reduceAdd,Nat.reduceSub,Nat.reduceLeDiff,reduceCtorEq]at a0 a1
 clear dH
 by_cases hk:(k:Int)<(l.length:Int)
 ·have cE:∀{e:Env} {gg:Rows},(e 6=.int .i64 (IntKind.i64.wrap ((k:Int)+1)))->(mQ ay 3 (e 5) gg sB (gO s l (k+1)))->∃m0,m0<(l.length)-k/\∃k:Nat,m0=(l.length)-k/\k<=(l.length)/\e 6=.int .i64 (k:Int)/\(mQ ay 3 (e 5) gg sB (gO s l k)):=fun x1 x2=>⟨_,by omega,k+1,rfl,by omega,(by rw[x1,az (by omega)]),x2⟩
  have fA:k<l.length:=by omega
  have eQ:=fw fA
  have SU:=tJ s l k
  (try((repeat(revert hN;revert N;apply Pn.out));refine wk (tw @a6 (tw @a0 (tw @a1 @hk))) ?_;(repeat(refine Pn.mk ?_;intro N hN))))
  refine aW (fun n env st=>∃m:Nat,n=(2)-m/\m<=(2)/\env 7=(.int .i64 (1-(m:Int)))/\(mQ ay 3 (env 5) st.get sB (gO s l k++fZ s l k m))) (2) ⟨0,by omega,by omega,sl (tw @a6 (tw @a0 @a1)),by(simp only[go_sem, ↓reduceIte,Nat.reduceEqDiff,Nat.reduceAdd,Nat.reduceSub,Nat.reduceLeDiff,reduceCtorEq];exact mb.cast (by simp[fZ]))⟩ ?_
  rintro n_b env_b st_b ⟨m,rfl,ble,b7,bI0⟩ fY
  have b0:=fY 0 (by kernel_rfl);have b1:=fY 1 (by kernel_rfl);have b6:=fY 6 (by kernel_rfl)
  simp only[go_sem, ↓reduceIte,Nat.reduceEqDiff,Nat.reduceAdd,Nat.reduceSub,Nat.reduceLeDiff,reduceCtorEq,a6,a0,a1]at b0 b1 b6
  clear fY
  have SB:=rn s l k m
  have lH:=qa s l k m
  by_cases hm:(m:Int)<2
  ·have gj:∀{e:Env} {gg:Rows},(e 7=(.int .i64 (1-((m+1):Int))))->(mQ ay 3 (e 5) gg sB (gO s l k++fZ s l k (m+1)))->∃m0,m0<(2)-m/\∃m:Nat,m0=(2)-m/\m<=(2)/\e 7=(.int .i64 (1-(m:Int)))/\(mQ ay 3 (e 5) gg sB (gO s l k++fZ s l k m)):=fun x1 x2=>⟨_,by omega,m+1,rfl,by omega,x1,x2⟩
   have qE:(0:Int)<=1-(m:Int):=by omega
   have hd:jb (1-(m:Int)) 0 3=true:=kP (by omega)
   have hw:IntKind.i64.wrap (1-(m:Int)-1)=1-((m:Int)+1):=by rw[bF (by omega)];omega
   have SL:=xV l hF k (1-(m:Int)) fA hd
   unfold mV at lH
   have hT:=hA.2 _ (gH fA)
   generalize Gm:eD l (dx (aJ l k).aQ (1-(m:Int)))=ix at *
   by_cases hi:ix<0
   ·rw[if_neg (by omega),List.append_nil]at lH
    (repeat(first|((repeat(revert hN;revert N;apply Pn.out));refine wk (tw @b7 (tw @b0 (tw @b1 (tw @b6 (tw @qE (tw @hw @hi)))))) ?_;(repeat(refine Pn.mk ?_;intro N hN)))|((try apply Or.inl);refine⟨_,aq.x (SL) (sd (tw @b7 (tw @b0 (tw @b1 (tw @b6 (tw @qE (tw @hw @hi))))))),?_⟩;refine hN _ _ ?_;clear hN N)))
    exact gj (sd (tw @b7 (tw @b0 (tw @b1 (tw @b6 @hw))))) (by(simp only[go_sem, ↓reduceIte,Nat.reduceEqDiff,Nat.reduceAdd,Nat.reduceSub,Nat.reduceLeDiff,reduceCtorEq];exact bI0.cast (by rw[lH])))
   ·have Fb:0<=ix:=by omega
    have Oi:=lJ (l:=l) (p:=dx (aJ l k).aQ (1-(m:Int))) (by omega)
    rw[Gm]at Oi
    have j7:=fw Oi.1
    have xx:=yO s hS (aJ l k).aV (1-(m:Int)) (aJ l ix.toNat).aV hT (hA.2 _ (gH Oi.1)) hd
    generalize Sx:gT s (aJ l k).aV (1-(m:Int)) (aJ l ix.toNat).aV=bv at *
    by_cases hb:0<bv
    ·rw[if_pos ⟨Fb,hb⟩]at lH
     (repeat(first|((repeat(revert hN;revert N;apply Pn.out));refine wa (tw @b7 (tw @b0 (tw @b1 (tw @b6 (tw @qE (tw @hw (tw @hi (tw @Fb (tw @eQ (tw @j7 (tw @hb @aa.eq_1))))))))))) ?_;(repeat(refine Pn.mk ?_;intro N hN)))|((try apply Or.inl);refine⟨_,aq.x (SL) (sd (tw @b7 (tw @b0 (tw @b1 (tw @b6 (tw @qE (tw @hw (tw @hi (tw @Fb (tw @eQ (tw @j7 (tw @hb @aa.eq_1)))))))))))),?_⟩;refine hN _ _ ?_;clear hN N)|((try apply Or.inl);refine⟨_,aq.x (xx) (sd (tw @b7 (tw @b0 (tw @b1 (tw @b6 (tw @qE (tw @hw (tw @hi (tw @Fb (tw @eQ (tw @j7 (tw @hb @aa.eq_1)))))))))))),?_⟩;refine hN _ _ ?_;clear hN N)))
     refine Pg (enc:=ay) (S:=sB) (L:=gO s l k++fZ s l k m) (xv:=env_b 5) [⟨k,ix.toNat,bv⟩] rfl rfl (sd @Nat.zero_add) (bI0.frame fun o ho=>by rcases ho with ho|ho<;>simp only[go_sem, ↓reduceIte,Nat.reduceEqDiff,Nat.reduceAdd,Nat.reduceSub,Nat.reduceLeDiff,reduceCtorEq,Ao ho]) (sd (tw @ay.eq_1 (Int.toNat_of_nonneg Fb))) Ni (.inr rfl) (by simp only[dE,List.length_append,List.length_cons,List.length_nil];omega) fun v g' hO jA=>?_
     rw[List.append_assoc,<-lH]at hO
     clear jA
     (try((repeat(revert hN;revert N;apply Pn.out));refine wk (tw @b7 (tw @b0 (tw @b1 (tw @b6 @hw)))) ?_;(repeat(refine Pn.mk ?_;intro N hN))))
     exact gj (sd (tw @b7 (tw @b0 (tw @b1 (tw @b6 @hw))))) (by(simp only[go_sem, ↓reduceIte,Nat.reduceEqDiff,Nat.reduceAdd,Nat.reduceSub,Nat.reduceLeDiff,reduceCtorEq];exact hO))
    ·rw[if_neg fun h=>hb h.2,List.append_nil]at lH
     (repeat(first|((repeat(revert hN;revert N;apply Pn.out));refine wk (tw @b7 (tw @b0 (tw @b1 (tw @b6 (tw @qE (tw @hw (tw @hi (tw @Fb (tw @eQ (tw @j7 (tw @hb @aa.eq_1))))))))))) ?_;(repeat(refine Pn.mk ?_;intro N hN)))|((try apply Or.inl);refine⟨_,aq.x (SL) (sd (tw @b7 (tw @b0 (tw @b1 (tw @b6 (tw @qE (tw @hw (tw @hi (tw @Fb (tw @eQ (tw @j7 (tw @hb @aa.eq_1)))))))))))),?_⟩;refine hN _ _ ?_;clear hN N)|((try apply Or.inl);refine⟨_,aq.x (xx) (sd (tw @b7 (tw @b0 (tw @b1 (tw @b6 (tw @qE (tw @hw (tw @hi (tw @Fb (tw @eQ (tw @j7 (tw @hb @aa.eq_1)))))))))))),?_⟩;refine hN _ _ ?_;clear hN N)))
     exact gj (sd (tw @b7 (tw @b0 (tw @b1 (tw @b6 @hw))))) (by(simp only[go_sem, ↓reduceIte,Nat.reduceEqDiff,Nat.reduceAdd,Nat.reduceSub,Nat.reduceLeDiff,reduceCtorEq];exact bI0.cast (by rw[lH])))
  ·have Hx:m=2:=by omega
   subst Hx
   have dS:¬(0:Int)<=1-((2:Nat):Int):=by omega
   (try((repeat(revert hN;revert N;apply Pn.out));refine wk (tw @b7 (tw @b0 (tw @b1 (tw @b6 @dS)))) ?_;(repeat(refine Pn.mk ?_;intro N hN))))
   exact cE (sd (tw @a6 (tw @a0 (tw @a1 (tw @b7 (tw @b0 (tw @b1 @b6))))))) (by(simp only[go_sem, ↓reduceIte,Nat.reduceEqDiff,Nat.reduceAdd,Nat.reduceSub,Nat.reduceLeDiff,reduceCtorEq];exact bI0.cast (by rw[rq])))
 ·have l7:k=l.length:=by omega
  (try((repeat(revert hN;revert N;apply Pn.out));refine wk (tw @a6 (tw @a0 (tw @a1 @hk))) ?_;(repeat(refine Pn.mk ?_;intro N hN))))
  exact w7 (.inl rfl) (by simp only[go_sem, ↓reduceIte,Nat.reduceEqDiff,Nat.reduceAdd,Nat.reduceSub,Nat.reduceLeDiff,reduceCtorEq];rfl) (by rw[l7]at mb;exact mb.gx fun b=>uI _ _ b)
end Go.Proofs.YtgoelphibofcmaaGreat.V
