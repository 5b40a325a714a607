/- Slices of one's own that grow from an empty one. -/
import Derived.Test.YtgoljkjaameagaaGreatPgB
import Derived.Test.YtgoljkjaameagaaGreatChecked
import Derived.Test.YtgoljkjaameagaaGreatPgA
set_option linter.unusedVariables false
set_option linter.unusedSimpArgs false
set_option maxRecDepth 100000
set_option maxHeartbeats 16000000
namespace Go.Proofs.YtgoljkjaameagaaGreat.V
open Go.RowKit
variable {P:Program} {X:fH} {K:Env->ar->Prop} {env:Env} {σ:ar}
def nh {α:Type} (enc:α->List AV) (sz:Nat) (x:AV) (g:Rows) (S:Id->Prop) (L:List α):Prop:=∃o:Id,S o/\x=.own o 0 L.length/\g o=some ⟨true,sz,L.map enc⟩
section
variable {α:Type} {enc:α->List AV} {sz:Nat} {x:AV} {g g':Rows} {S:Id->Prop} {L L':List α}
theorem nh.cast (h:nh enc sz x g S L) (hL:L'=L):nh enc sz x g S L':=by subst hL;exact h
theorem nh.frame (h:nh enc sz x g S L) (hg:∀o:Id,S o->g' o=g o):nh enc sz x g' S L:=by
 obtain⟨o,h1,h2,h3⟩:=h
 exact⟨o,h1,h2,(hg o h1).trans h3⟩
theorem nh.app (hz:∀a,(enc a).length=sz/\(enc a).all AV.cell=true) (h:nh enc sz x g S L) (id:Id) (hid:S id) (M:List α) (hlen:L.length+M.length<=dF):
  ∃v g',aY g id sz x (M.map enc)=some (v,g')/\nh enc sz v g' S (L++M)/\∀j:Id,¬S j->g' j=g j:=by
 obtain⟨o,h1,rfl,h4⟩:=h
 refine⟨.own id 0 (L.length+(M.map enc).length),bt (cu g o) id ⟨true,sz,L.map enc++M.map enc⟩,?_,⟨id,hid,by simp,by simp[bt]⟩,fun j hj=>?_⟩
 ·have ha:=all_map (l:=M) hz
  simp only[aY,h4,Option.bind_some]
  rw[if_pos ⟨trivial,trivial,by simp,by simpa using hlen,ha⟩]
 ·have e1:¬j=id:=fun h=>hj (h▸hid)
  have e2:¬j=o:=fun h=>hj (h▸h1)
  simp[bt,cu,e1,e2]
theorem PM {draw:Bool} {o:bq} {r:List bq} {x' y:O} {xv:AV} (M:List α) (ho:o.op=.append sz x' y) (hw:aM o.guard env=true) (hx:cQ env x'=xv) (hO:nh enc sz xv σ.get S L)
  (hy:bw σ.get (cQ env y)=some (M.map enc)) (hz:∀a,(enc a).length=sz/\(enc a).all AV.cell=true) (hid:S ⟨o.site,σ.next⟩) (hlen:L.length+M.length<=dF)
  (next:∀v g',nh enc sz v g' S (L++M)->(∀j:Id,¬S j->g' j=σ.get j)->wpOps X draw r K (upd env o.dst v) ⟨g',σ.next⟩):wpOps X draw (o::r) K env σ:=by
 obtain⟨v,g',h1,h2,h3⟩:=hO.app hz ⟨o.site,σ.next⟩ hid M hlen
 unfold wpOps
 rw[if_pos hw]
 unfold fG
 simp only[ho,fZ,hy,hx,Option.bind_some,h1]
 exact next v g' h2 h3
theorem nh.gC {n:Nat} (h:nh enc sz x g S L) (he:∀a,ez g n (enc a)=some (enc a)):gC g (n+1) x=some (.sl (L.map enc)):=by
 obtain⟨o,_,rfl,h3⟩:=h
 exact fj h3 rfl he
end
theorem cz {a b:Id} (h:a.ck<b.ck):(a=b)=False/\(b=a)=False:=by
 constructor<;>(simp only[eq_iff_iff,iff_false];rintro rfl;omega)
theorem AH {o:Id} {a:Nat} (h:o.site=a) {b v:Nat} (qM:(a==b)=false):(o=⟨b,v⟩)=False:=by
 simp only[eq_iff_iff,iff_false]
 rintro rfl
 simp only at h
 subst h
 simp at qM
def eN (n:Nat):List AV:=[.int .i64 n]
theorem fzN (g:Rows) (n:Nat) (a:Nat):cJ g (n+1) (eN a)=some (eN a):=by simp[eN,ai,aj,aD]
theorem Og (g:Rows) (n:Nat) (a:Nat):ez g (n+1) (eN a)=some (eN a):=by simp[eN,bB,cw,eG]
def P9:C2 (List Nat):=fun g cs x ids=>∃id,cs=[.own id 0 x.length]/\g id=some ⟨true,1,x.map eN⟩/\ids=[id]
theorem Mf:xO P9 1 where
 frame:=fun⟨id,h1,h2,h3⟩ hf=>by subst h3;exact⟨id,h1,(hf id (by simp)).trans h2,rfl⟩
 len:=fun⟨id,h1,_⟩=>by subst h1;rfl
 cell:=fun⟨id,h1,_⟩=>by subst h1;rfl
 live:=fun⟨id,h1,h2,h3⟩ i hi=>by
  subst h3
  have:i=id:=by simpa using hi
  subst this
  exact⟨_,h2,rfl,by simp[r8]⟩
 small:=by simp[r8]
def A9 (l:List Nat):List AV:=[.sl (l.map eN)]
theorem JF {g:Rows} {rows:List (List AV)} {xs:List (List Nat)} {ids:List Id} (n:Nat) (h:eI P9 g rows xs ids):il g (n+2) rows=some (xs.map A9):=by
 induction h with
 |nil=>rw[il];rfl
 |cons h1 _ ih=>
  obtain⟨id,rfl,h2,_⟩:=h1
  rw[il,ih,bB,cw,fj (e:=eN) (sz:=1) h2 rfl fun a=>Og g n a];rfl
end Go.Proofs.YtgoljkjaameagaaGreat.V

namespace Go.Proofs.YtgoljkjaameagaaGreat.V
open Go.RowKit
attribute [local irreducible] dI wpOps gy Call
attribute [local go_sem] aM fG eQ fZ fY cQ upd cC K.av cP AV.cells AV.cell rowOf rowsOf part ld rowAt bt cu dE ee ik bJ dh ew fX eX dp ej dd dc dQ dR bQ bf cW bP cY cX eh ek ei cV b4 de ef bK aP da cG ij bw cK bU aY dn bc dF AV.undef bF bI dS ec dM dK cH ev eA cF ep eo cZ db List.getD_cons_zero List.getD_cons_succ List.getD_nil List.all_cons List.all_nil Bool.and_true Bool.true_and Bool.and_self Bool.not_true Bool.not_false Option.map_some Option.map_none Option.bind_some Option.bind_none List.length_cons List.length_nil List.take_succ_cons List.take_zero List.take_nil List.drop_succ_cons List.drop_zero List.drop_nil List.head?_cons List.map_cons List.map_nil List.getElem?_cons_zero List.getElem?_cons_succ List.cons_append List.nil_append List.append_nil List.length_map List.set_cons_zero List.set_cons_succ Nat.reduceMul eq_self Int.toNat_natCast Int.natCast_nonneg and_self true_and and_true decide_true decide_false Bool.false_eq_true Nat.zero_add Nat.add_zero List.contains_cons List.contains_nil Bool.or_false Bool.false_or beq_self_eq_true Nat.reduceBEq ne_eq not_true_eq_false not_false_eq_true Id.mk.injEq false_and and_false Nat.reduceLT Int.reduceLE Int.reduceLT Int.reduceToNat Int.reduceNeg Int.reduceAdd Nat.le_refl List.length_append beq_true beq_false Bool.not_eq_eq_eq_not or_false false_or dJ ai aj aD bp bE cq aT bd aX bj cR bG
variable {P:Program}
def Lf {α:Type} (R:C2 α) (x:α) (σ:ar) (r:AV) (σ':ar):Prop:=∃cs ids,r=.agg cs/\R σ'.get cs x ids/\fW σ.next σ'.next ids/\Kept σ σ'
def iG {α:Type} (R:C2 α) (z:Nat) (g:Rows) (a:AV) (xs:List α) (ids:List Id):Prop:=∃o rows is,a=.own o 0 xs.length/\g o=some ⟨true,z,rows⟩/\eI R g rows xs is/\ids=o::is
def Lg {α:Type} (R:C2 α) (z:Nat) (xs:List α) (σ:ar) (r:AV) (σ':ar):Prop:=∃ids,iG R z σ'.get r xs ids/\fW σ.next σ'.next ids/\Kept σ σ'
theorem iG.frame {α:Type} {R:C2 α} {z:Nat} {g g':Rows} {a:AV} {xs:List α} {ids:List Id} (ok:xO R z) (h:iG R z g a xs ids) (hf:∀i∈ids,g' i=g i):iG R z g' a xs ids:=by
 obtain⟨o,rows,is,h1,h2,h3,rfl⟩:=h
 exact⟨o,rows,is,h1,(hf o (by simp)).trans h2,h3.frame ok fun i hi=>hf i (by simp[hi]),rfl⟩
theorem iG.fz {α:Type} {R:C2 α} {z n:Nat} {e:α->List AV} {g:Rows} {a:AV} {xs:List α} {ids:List Id} (h:iG R z g a xs ids) (hz:∀{cs x ids},R g cs x ids->cJ (dJ g) n cs=some (e x)):V.fz (dJ g) (n+1) a=some (.sl (xs.map e)):=by
 obtain⟨o,rows,is,rfl,h2,h3,rfl⟩:=h
 rw[iA]
 simp only[dJ,h2,Option.map_some,if_true]
 rw[if_pos (by rw[h3.len];omega),List.drop_zero,List.take_of_length_le (by rw[h3.len];exact Nat.le_refl _),h3.fz hz];rfl
def lE {α:Type} (e:α->List AV):C2 α:=fun _ cs x ids=>cs=e x/\ids=[]
theorem IK {α:Type} {e:α->List AV} {z:Nat} (hz:∀x,(e x).length=z) (hc:∀x,(e x).all AV.cell=true) (hs:z<r8):xO (lE e) z where
 frame:=fun h _=>h
 len:=fun h=>by rw[h.1];exact hz _
 cell:=fun h=>by rw[h.1];exact hc _
 live:=fun h i hi=>by rw[h.2]at hi;cases hi
 small:=hs
def oF:C2 eT:=fun g cs t ids=>∃i,cs=[.str t.aE,.own i 0 t.bx.length]/\g i=some ⟨true,1,t.bx.map bh⟩/\ids=[i]
theorem rh:xO oF 2 where
 frame:=fun⟨i,h1,h2,h3⟩ hf=>⟨i,h1,(hf i (by rw[h3];simp)).trans h2,h3⟩
 len:=fun⟨i,h1,_⟩=>by rw[h1];rfl
 cell:=fun⟨i,h1,_⟩=>by rw[h1];rfl
 live:=fun⟨i,h1,h2,h3⟩ j hj=>by
  rw[h3]at hj
  have:j=i:=by simpa using hj
  subst this
  exact⟨_,h2,rfl,by simp[r8]⟩
 small:=by simp[r8]
theorem MM {g:Rows} {cs:List AV} {t:eT} {ids:List Id} (n:Nat) (h:oF g cs t ids):cJ (dJ g) (n+2) cs=some (bH t):=by
 obtain⟨i,rfl,h2,_⟩:=h
 have h3:V.fz (dJ g) (n+2) (.own i 0 t.bx.length)=some (.sl (t.bx.map bh)):=fM (e:=bh) (sz:=1) (by simp[dJ,h2]) rfl fun x=>by simp[bh,ai,aj,aD]
 simp only[ai,aj,bE,h3,Option.map_some,bH]
theorem ME {α:Type} {a b:List α} {x y:α} {k:Nat} (hk:a.length=k):(a++x::b).set k y=a++[y]++b:=by subst hk;simp
theorem AP {α:Type} {R:C2 α} {en:α->List AV} {z fk gk:Nat} {zero:List K} (ok:xO R z) (hc:me P fk=some (uv fk gk z zero)) (HW:zero.length=z) (hz:∀x,(en x).length=z) (xs:List α) (hlen:xs.length<=1048576)
  (hg:∀x∈xs,∀σ,Call P gk [.agg (en x)] σ (Lf R x σ)) (σ:ar):Call P fk [.sl (xs.map en)] σ (Lg R z xs σ):=by
 refine eL hc rfl fun hl=>?_
 try simp only[q]
 clear hl
 have hm:(xs.length:Int)<=((16777216:Nat):Int):=by omega
 have h0:(0:Int)<=(xs.length:Int):=by omega
 (try((repeat(revert hN;revert N;apply Pn.out));refine wk (tw @hm (tw @h0 (tw @Int.le_refl @HW))) ?_;(repeat(refine Pn.mk ?_;intro N hN))))
 refine aU (fun n env st=>∃k:Nat,n=(xs.length)-k/\k<=(xs.length)/\env 4=.int .i64 (k:Int)/\(σ.next+2<=st.next/\(∀y:Id,y.ck<σ.next->st.get y=σ.get y)/\∃rows is,st.get ⟨fk*1000000+1002,σ.next+1⟩=some ⟨true,z,rows++List.replicate (xs.length-k) (zero.map K.av)⟩/\eI R st.get rows (xs.take k) is/\fW (σ.next+2) st.next is)) (xs.length) ⟨0,by omega,by omega,sl @Nat.zero_add,by(try dsimp only);exact⟨by omega,fun y hy=>by
  have h1:=dr hy
  simp only[go_sem, ↓reduceIte,Nat.reduceEqDiff,Nat.reduceAdd,Nat.reduceSub,Nat.reduceLeDiff,reduceCtorEq,h1],[],[],sl @Nat.zero_add,.nil,List.nodup_nil,fun i hi=>by cases hi⟩⟩ ?_
 rintro n_a env_a st_a ⟨k,rfl,ale,a4,lZ⟩ dC
 have a0:=dC 0 (by kernel_rfl);have a3:=dC 3 (by kernel_rfl)
 simp only[go_sem, ↓reduceIte,Nat.reduceEqDiff,Nat.reduceAdd,Nat.reduceSub,Nat.reduceLeDiff,reduceCtorEq]at a0 a3
 clear dC
 obtain⟨an,aK,rows,is,ag,aR,aN⟩:=lZ
 have sO:rows.length=k:=by rw[aR.len,List.length_take];omega
 by_cases hk:(k:Int)<(xs.length:Int)
 ·have cD:∀{e:Env} {gg:Rows} {nx:Nat},(e 4=.int .i64 (IntKind.i64.wrap ((k:Int)+1)))->(σ.next+2<=nx/\(∀y:Id,y.ck<σ.next->gg y=σ.get y)/\∃rows is,gg ⟨fk*1000000+1002,σ.next+1⟩=some ⟨true,z,rows++List.replicate (xs.length-(k+1)) (zero.map K.av)⟩/\eI R gg rows (xs.take (k+1)) is/\fW (σ.next+2) nx is)->∃m0,m0<(xs.length)-k/\∃k:Nat,m0=(xs.length)-k/\k<=(xs.length)/\e 4=.int .i64 (k:Int)/\(σ.next+2<=nx/\(∀y:Id,y.ck<σ.next->gg y=σ.get y)/\∃rows is,gg ⟨fk*1000000+1002,σ.next+1⟩=some ⟨true,z,rows++List.replicate (xs.length-k) (zero.map K.av)⟩/\eI R gg rows (xs.take k) is/\fW (σ.next+2) nx is):=fun x1 x2=>⟨_,by omega,k+1,rfl,by omega,(by rw[x1,aA (by omega)]),x2⟩
  have fA:k<xs.length:=by omega
  have eR:(xs.map en)[k]? =some (en xs[k]):=by simp[fA]
  have ue:=hz xs[k]
  have ht:(en xs[k]).take z=en xs[k]:=by rw[<-ue,List.take_length]
  have iu:=hg _ (List.getElem_mem fA)
  obtain⟨m,HQ⟩:∃m,xs.length-k=m+1:=⟨xs.length-k-1,by omega⟩
  rw[HQ,List.replicate_succ]at ag
  generalize hex:en xs[k]=c at iu eR ue ht
  (try((repeat(revert hN;revert N;apply Pn.out));refine wk (tw @a4 (tw @a0 (tw @a3 (tw @hk (tw @eR (tw @ue (tw @ht @Nat.le_refl))))))) ?_;(repeat(refine Pn.mk ?_;intro N hN))))
  refine .inr (aC _ _ _ _ _ (fun r σ1 hq=>?_) (iu _))
  obtain⟨cs,ids,rfl,hR,hI,hK⟩:=hq
  obtain⟨g1,x1⟩:=σ1
  (try dsimp only at hR hI hK)
  have Bd:=(hK.2 ⟨fk*1000000+1002,σ.next+1⟩ (by(try dsimp only);omega))
  simp only[go_sem, ↓reduceIte,Nat.reduceEqDiff,Nat.reduceAdd,Nat.reduceSub,Nat.reduceLeDiff,reduceCtorEq,ag]at Bd
  have nq:=ok.len hR
  have Ab:=ok.cell hR
  have fc:(rows++zero.map K.av::List.replicate m (zero.map K.av))[k]? =some (zero.map K.av):=by rw[List.getElem?_append_right (by omega),sO,Nat.sub_self];rfl
  have eE:(rows++zero.map K.av::List.replicate m (zero.map K.av)).set k cs=rows++[cs]++List.replicate m (zero.map K.av):=ME sO
  have IZ:(zero.map K.av).drop z=[]:=List.drop_of_length_le (by simp[HW])
  have Fy:(rows++zero.map K.av::List.replicate m (zero.map K.av)).length=xs.length:=by simp[sO];omega
  refine hN _ _ ?_
  clear hN N
  (try((repeat(revert hN;revert N;apply Pn.out));refine wk (tw @a4 (tw @a0 (tw @a3 (tw @hk (tw @Bd (tw @fc (tw @eE (tw @Fy (tw @IZ (tw @vP (tw @nq (tw @Ab (tw @Nat.le_refl @HW))))))))))))) ?_;(repeat(refine Pn.mk ?_;intro N hN))))
  have vh:=hK.1
  have KW:∀i∈is,(i=⟨fk*1000000+1002,σ.next+1⟩)=False:=fun i hi=>eq_false fun e=>by
   have:=(aN.2 i hi).1
   subst e;(try dsimp only at this);omega
  have Gy:∀i∈ids,(i=⟨fk*1000000+1002,σ.next+1⟩)=False:=fun i hi=>eq_false fun e=>by
   have:=(hI.2 i hi).1
   subst e;(try dsimp only at this);omega
  exact cD (sd (tw @a4 (tw @a0 @a3))) (by(try dsimp only at *);exact⟨by omega,fun y hy=>by
   have h1:=dr hy
   have h2:=hK.2 y (by(try dsimp only);omega)
   have h3:=aK y hy
   simp only[go_sem, ↓reduceIte,Nat.reduceEqDiff,Nat.reduceAdd,Nat.reduceSub,Nat.reduceLeDiff,reduceCtorEq]at h2
   simp only[go_sem, ↓reduceIte,Nat.reduceEqDiff,Nat.reduceAdd,Nat.reduceSub,Nat.reduceLeDiff,reduceCtorEq,h1,h2,h3],rows++[cs],is++ids,by
    rw[show xs.length-(k+1)=m by omega]
    simp only[go_sem, ↓reduceIte,Nat.reduceEqDiff,Nat.reduceAdd,Nat.reduceSub,Nat.reduceLeDiff,reduceCtorEq]<;>rfl,by
    rw[List.take_succ_eq_append_getElem fA]
    refine((aR.frame ok fun i hi=>?_).app (.one (ok.frame hR fun i hi=>?_)))
    ·have h1:=KW i hi
     have h2:=hK.2 i (by(try dsimp only);have:=(aN.2 i hi).2;omega)
     simp only[go_sem, ↓reduceIte,Nat.reduceEqDiff,Nat.reduceAdd,Nat.reduceSub,Nat.reduceLeDiff,reduceCtorEq]at h2
     simp only[go_sem, ↓reduceIte,Nat.reduceEqDiff,Nat.reduceAdd,Nat.reduceSub,Nat.reduceLeDiff,reduceCtorEq,h1,h2]
    ·have h1:=Gy i hi
     simp only[go_sem, ↓reduceIte,Nat.reduceEqDiff,Nat.reduceAdd,Nat.reduceSub,Nat.reduceLeDiff,reduceCtorEq,h1],(aN.app hI (by(try dsimp only);omega) (by omega) (by(try dsimp only);omega)).wide (Nat.le_refl _) (by(try dsimp only);omega)⟩)
 ·(try((repeat(revert hN;revert N;apply Pn.out));refine wk (tw @a4 (tw @a0 (tw @a3 @hk))) ?_;(repeat(refine Pn.mk ?_;intro N hN))))
  have fA:k=xs.length:=by omega
  subst fA
  rw[Nat.sub_self,List.replicate_zero,List.append_nil]at ag
  rw[List.take_length]at aR
  refine e9 (.inl rfl) (vs:=[.own ⟨fk*1000000+1002,σ.next+1⟩ 0 xs.length]) (sd (tw @a4 (tw @a0 @a3))) ?_
  exact⟨_,⟨_,rows,is,rfl,ag,aR,rfl⟩,⟨List.nodup_cons.2 ⟨fun hi=>by have:=(aN.2 _ hi).1;(try dsimp only at this);omega,aN.1⟩,fun i hi=>by
   rcases List.mem_cons.1 hi with rfl|hi
   ·(try dsimp only);omega
   ·have:=aN.2 i hi;(try dsimp only);omega⟩,⟨by(try dsimp only);omega,fun j hj=>aK j hj⟩⟩
end Go.Proofs.YtgoljkjaameagaaGreat.V

namespace Go.Proofs.YtgoljkjaameagaaGreat.V
open Go.RowKit
attribute [local irreducible] dI wpOps gy Call
attribute [local go_sem] aM fG eQ fZ fY cQ upd cC K.av cP AV.cells AV.cell rowOf rowsOf part ld rowAt bt cu dE ee ik bJ dh ew fX eX dp ej dd dc dQ dR bQ bf cW bP cY cX eh ek ei cV b4 de ef bK aP da cG ij bw cK bU aY dn bc dF AV.undef bF bI dS ec dM dK cH ev eA cF ep eo cZ db List.getD_cons_zero List.getD_cons_succ List.getD_nil List.all_cons List.all_nil Bool.and_true Bool.true_and Bool.and_self Bool.not_true Bool.not_false Option.map_some Option.map_none Option.bind_some Option.bind_none List.length_cons List.length_nil List.take_succ_cons List.take_zero List.take_nil List.drop_succ_cons List.drop_zero List.drop_nil List.head?_cons List.map_cons List.map_nil List.getElem?_cons_zero List.getElem?_cons_succ List.cons_append List.nil_append List.append_nil List.length_map List.set_cons_zero List.set_cons_succ Nat.reduceMul eq_self Int.toNat_natCast Int.natCast_nonneg and_self true_and and_true decide_true decide_false Bool.false_eq_true Nat.zero_add Nat.add_zero List.contains_cons List.contains_nil Bool.or_false Bool.false_or beq_self_eq_true Nat.reduceBEq ne_eq not_true_eq_false not_false_eq_true Id.mk.injEq false_and and_false Nat.reduceLT Int.reduceLE Int.reduceLT Int.reduceToNat Int.reduceNeg Int.reduceAdd Nat.le_refl List.length_append beq_true beq_false Bool.not_eq_eq_eq_not or_false false_or dJ ai aj aD bp bE cq aT bd aX bj cR bG
theorem iG.kY {α:Type} {R:C2 α} {z:Nat} {g:Rows} {a:AV} {xs:List α} {ids:List Id} (h:iG R z g a xs ids):∃o,a=.own o 0 xs.length:=by
 obtain⟨o,rows,is,rfl,_⟩:=h;exact⟨o,rfl⟩
theorem Kz (xs:List Int) (hlen:xs.length<=1048576) (σ:ar):Call Tryz.prog 17 [.sl (xs.map bh)] σ (fun r σ'=>∃i,r=.own i 0 xs.length/\σ'.get i=some ⟨true,1,xs.map bh⟩/\fW σ.next σ'.next [i]/\Kept σ σ'):=by
 refine eL (show me Tryz.prog 17=some (KB 17 (.int .i64 0)) by kernel_rfl) rfl fun hl=>?_
 try simp only[q]
 clear hl
 obtain⟨en,HM⟩:∃en:Int->List AV,en=bh:=⟨_,rfl⟩
 rw[<-HM]
 have hm:(xs.length:Int)<=((16777216:Nat):Int):=by omega
 have h0:(0:Int)<=(xs.length:Int):=by omega
 (try((repeat(revert hN;revert N;apply Pn.out));refine wk (tw @hm (tw @h0 (tw @Int.le_refl (oK en [AV.int .i64 0] xs)))) ?_;(repeat(refine Pn.mk ?_;intro N hN))))
 refine aU (fun n env st=>∃k:Nat,n=(xs.length)-k/\k<=(xs.length)/\env 4=.int .i64 (k:Int)/\st.get ⟨17*1000000+1002,σ.next+1⟩=some ⟨true,1,gR en [AV.int .i64 0] xs k⟩/\(σ.next+2<=st.next/\∀y:Id,y.ck<σ.next->st.get y=σ.get y)) (xs.length) ⟨0,by omega,by omega,sl @Nat.zero_add,sl @Nat.zero_add,by(try dsimp only);exact⟨by omega,fun y hy=>by
  have h1:=dr hy
  simp only[go_sem, ↓reduceIte,Nat.reduceEqDiff,Nat.reduceAdd,Nat.reduceSub,Nat.reduceLeDiff,reduceCtorEq,h1]⟩⟩ ?_
 rintro n_a env_a st_a ⟨k,rfl,ale,a4,ag0,lZ⟩ dC
 have a0:=dC 0 (by kernel_rfl);have a3:=dC 3 (by kernel_rfl)
 simp only[go_sem, ↓reduceIte,Nat.reduceEqDiff,Nat.reduceAdd,Nat.reduceSub,Nat.reduceLeDiff,reduceCtorEq]at a0 a3
 clear dC
 obtain⟨an,aK⟩:=lZ
 by_cases hk:(k:Int)<(xs.length:Int)
 ·have cD:∀{e:Env} {gg:Rows} {nx:Nat},(e 4=.int .i64 (IntKind.i64.wrap ((k:Int)+1)))->(gg ⟨17*1000000+1002,σ.next+1⟩=some ⟨true,1,gR en [AV.int .i64 0] xs (k+1)⟩)->(σ.next+2<=nx/\∀y:Id,y.ck<σ.next->gg y=σ.get y)->∃m0,m0<(xs.length)-k/\∃k:Nat,m0=(xs.length)-k/\k<=(xs.length)/\e 4=.int .i64 (k:Int)/\gg ⟨17*1000000+1002,σ.next+1⟩=some ⟨true,1,gR en [AV.int .i64 0] xs k⟩/\(σ.next+2<=nx/\∀y:Id,y.ck<σ.next->gg y=σ.get y):=fun x1 x2 x3=>⟨_,by omega,k+1,rfl,by omega,(by rw[x1,aA (by omega)]),x2,x3⟩
  have fA:k<xs.length:=by omega
  have eR:(xs.map en)[k]? =some [AV.int .i64 xs[k]]:=by simp[fA,HM,bh]
  have fS:=qD en [AV.int .i64 0] xs fA
  have eE:=qE en [AV.int .i64 0] xs fA
  rw[show en xs[k]=[AV.int .i64 xs[k]] by rw[HM];rfl]at eE
  (try((repeat(revert hN;revert N;apply Pn.out));refine wk (tw @a4 (tw @ag0 (tw @a0 (tw @a3 (tw @hk (tw @eR (tw @fS @eE))))))) ?_;(repeat(refine Pn.mk ?_;intro N hN))))
  refine cD ?_ ?_ (by(try dsimp only);exact⟨by omega,fun y hy=>by
   have h1:=dr hy
   have h3:=aK y hy
   simp only[go_sem, ↓reduceIte,Nat.reduceEqDiff,Nat.reduceAdd,Nat.reduceSub,Nat.reduceLeDiff,reduceCtorEq,h1,h3]⟩)
  all_goals simp only[go_sem, ↓reduceIte,Nat.reduceEqDiff,Nat.reduceAdd,Nat.reduceSub,Nat.reduceLeDiff,reduceCtorEq,a4,ag0,a0,a3]
 ·(try((repeat(revert hN;revert N;apply Pn.out));refine wk (tw @a4 (tw @ag0 (tw @a0 (tw @a3 @hk)))) ?_;(repeat(refine Pn.mk ?_;intro N hN))))
  have fA:k=xs.length:=by omega
  subst fA
  refine e9 (.inl rfl) (vs:=[.own ⟨17*1000000+1002,σ.next+1⟩ 0 xs.length]) (sd (tw @a4 (tw @ag0 (tw @a0 @a3)))) ?_
  rw[qC]at ag0
  exact⟨_,rfl,ag0,⟨List.nodup_cons.2 ⟨by simp,List.nodup_nil⟩,fun i hi=>by
   rw[List.mem_singleton.1 hi];(try dsimp only);omega⟩,⟨by(try dsimp only);omega,fun j hj=>aK j hj⟩⟩
theorem KC (p:eT) (hs:sU p) (σ:ar):Call Tryz.prog 198 [.agg (bH p)] σ (Lf oF p σ):=by
 refine eL dX rfl fun hl=>?_
 clear hl
 (try((repeat(revert hN;revert N;apply Pn.out));refine wk @bH.eq_1 ?_;(repeat(refine Pn.mk ?_;intro N hN))))
 refine .inr (aC _ _ _ _ _ (fun r σ1 hq=>?_) (Kz p.bx hs _))
 obtain⟨i,rfl,hg,hI,hK⟩:=hq
 obtain⟨g1,x1⟩:=σ1
 (try dsimp only at hg hI hK)
 have hn:=hK.1
 refine hN _ _ ?_
 clear hN N
 have hi:=hI.2 i (by simp)
 have k2:=hK.2 ⟨198000001,σ.next⟩ (by(try dsimp only);omega)
 have k3:=hK.2 ⟨198001000,σ.next+1⟩ (by(try dsimp only);omega)
 simp only[go_sem, ↓reduceIte,Nat.reduceEqDiff,Nat.reduceAdd,Nat.reduceSub,Nat.reduceLeDiff,reduceCtorEq]at k2 k3
 (try((repeat(revert hN;revert N;apply Pn.out));refine wk (tw @bH.eq_1 (tw @k2 @k3)) ?_;(repeat(refine Pn.mk ?_;intro N hN))))
 refine e9 (.inl rfl) (vs:=[.agg [.str p.aE,.own i 0 p.bx.length]]) (sd @Nat.zero_add) ?_
 refine⟨_,[i],rfl,⟨i,rfl,?_,rfl⟩,⟨hI.1,fun j hj=>?_⟩,⟨?_,fun j hj=>?_⟩⟩
 ·have i2:=cz (b:=i) (a:=⟨198000001,σ.next⟩) (by(try dsimp only at *);omega)
  have i3:=cz (b:=i) (a:=⟨198001000,σ.next+1⟩) (by(try dsimp only at *);omega)
  simp only[go_sem, ↓reduceIte,Nat.reduceEqDiff,Nat.reduceAdd,Nat.reduceSub,Nat.reduceLeDiff,reduceCtorEq,i2,i3,hg]
 ·rw[List.mem_singleton.1 hj]
  (try dsimp only at *);omega
 ·(try dsimp only at *);omega
 ·have h2:=hK.2 j (by(try dsimp only);omega)
  have h1:=dr hj
  simp only[go_sem, ↓reduceIte,Nat.reduceEqDiff,Nat.reduceAdd,Nat.reduceSub,Nat.reduceLeDiff,reduceCtorEq,h1]at h2
  simp only[go_sem, ↓reduceIte,Nat.reduceEqDiff,Nat.reduceAdd,Nat.reduceSub,Nat.reduceLeDiff,reduceCtorEq,h1,h2]
theorem BL:xO (lE bV) 2:=IK (fun _=>rfl) (fun _=>rfl) (by simp[r8])
theorem yH:xO (lE aa) 3:=IK (fun _=>rfl) (fun _=>rfl) (by simp[r8])
theorem Kx (p:fB) (σ:ar):Call Tryz.prog 197 [.agg (bV p)] σ (Lf (lE bV) p σ):=by
 refine eL dX rfl fun hl=>?_
 clear hl
 (try((repeat(revert hN;revert N;apply Pn.out));refine wk @bV.eq_1 ?_;(repeat(refine Pn.mk ?_;intro N hN))))
 refine e9 (.inl rfl) (vs:=[.agg (bV p)]) (sd @bV.eq_1) ?_
 exact⟨_,[],rfl,⟨rfl,rfl⟩,⟨List.nodup_nil,fun i hi=>by cases hi⟩,⟨by(try dsimp only);omega,fun j hj=>by
  have h1:=dr hj
  simp only[go_sem, ↓reduceIte,Nat.reduceEqDiff,Nat.reduceAdd,Nat.reduceSub,Nat.reduceLeDiff,reduceCtorEq,h1]⟩⟩
theorem EO (p:ad) (σ:ar):Call Tryz.prog 149 [.agg (aa p)] σ (Lf (lE aa) p σ):=by
 refine eL dX rfl fun hl=>?_
 clear hl
 have h:=zw p.aO
 rw[ae]at h
 (repeat(first|((repeat(revert hN;revert N;apply Pn.out));refine wk @aa.eq_1 ?_;(repeat(refine Pn.mk ?_;intro N hN)))|((try apply Or.inl);refine⟨_,jO.x (h) _,?_⟩;refine hN _ _ ?_;clear hN N)))
 refine e9 (.inl rfl) (vs:=[.agg (aa p)]) (sd @aa.eq_1) ?_
 exact⟨_,[],rfl,⟨rfl,rfl⟩,⟨List.nodup_nil,fun i hi=>by cases hi⟩,⟨by(try dsimp only);omega,fun j hj=>by
  have h1:=dr hj
  simp only[go_sem, ↓reduceIte,Nat.reduceEqDiff,Nat.reduceAdd,Nat.reduceSub,Nat.reduceLeDiff,reduceCtorEq,h1]⟩⟩
theorem HB (xs:List fB) (h:xs.length<=1048576) (σ:ar):Call Tryz.prog 129 [.sl (xs.map bV)] σ (Lg (lE bV) 2 xs σ):=
 AP BL (show me Tryz.prog 129=some (uv 129 197 2 [.str [],.int .i64 0]) by kernel_rfl) rfl (fun _=>rfl) xs h (fun x _ σ=>Kx x σ) σ
theorem HD (xs:List eT) (h:xs.length<=1048576) (hs:∀t∈xs,sU t) (σ:ar):Call Tryz.prog 130 [.sl (xs.map bH)] σ (Lg oF 2 xs σ):=
 AP rh (show me Tryz.prog 130=some (uv 130 198 2 [.str [],.bl]) by kernel_rfl) rfl (fun _=>rfl) xs h (fun x hx σ=>KC x (hs x hx) σ) σ
theorem CT (xs:List ad) (h:xs.length<=1048576) (σ:ar):Call Tryz.prog 80 [.sl (xs.map aa)] σ (Lg (lE aa) 3 xs σ):=
 AP yH (show me Tryz.prog 80=some (uv 80 149 3 [.int .i64 0,.int .i64 0,.int .i64 0]) by kernel_rfl) rfl (fun _=>rfl) xs h (fun x _ σ=>EO x σ) σ
def xN (g:Rows) (v:AV) (a:dP) (ids:List Id):Prop:=∃x,v=.agg [x]/\iG (lE aa) 3 g x a.ah ids
structure zG (g:Rows) (v:AV) (s:az) (ids:List Id):Prop where
 ex:∃a b c i1 i2 i3,v=.agg [a,b,c,.int .i64 s.aB]/\iG (lE bV) 2 g a s.aH.ax i1/\iG oF 2 g b s.aH.ah i2/\iG (lE aa) 3 g c s.aZ.ah i3/\ids=i1++(i2++i3)
theorem xN.frame {g g':Rows} {v:AV} {a:dP} {ids:List Id} (h:xN g v a ids) (hf:∀i∈ids,g' i=g i):xN g' v a ids:=by
 obtain⟨x,h1,h2⟩:=h
 exact⟨x,h1,h2.frame yH hf⟩
theorem zG.frame {g g':Rows} {v:AV} {s:az} {ids:List Id} (h:zG g v s ids) (hf:∀i∈ids,g' i=g i):zG g' v s ids:=by
 obtain⟨a,b,c,i1,i2,i3,h1,h2,h3,h4,rfl⟩:=h.ex
 exact⟨a,b,c,i1,i2,i3,h1,h2.frame BL fun i hi=>hf i (by simp[hi]),h3.frame rh fun i hi=>hf i (by simp[hi]),h4.frame yH fun i hi=>hf i (by simp[hi]),rfl⟩
theorem xN.fz {g:Rows} {v:AV} {a:dP} {ids:List Id} (n:Nat) (h:xN g v a ids):V.fz (dJ g) (n+4) v=some (.agg (aQ a)):=by
 obtain⟨x,rfl,h2⟩:=h
 have h3:=h2.fz (n:=n+2) (e:=aa) fun hc=>by rw[hc.1];simp[aa,ai,aj,aD]
 simp only[bd,ai,aj,h3,Option.map_some,aQ]
theorem zG.fz {g:Rows} {v:AV} {s:az} {ids:List Id} (n:Nat) (h:zG g v s ids):V.fz (dJ g) (n+5) v=some (.agg (au s)):=by
 obtain⟨a,b,c,i1,i2,i3,rfl,h2,h3,h4,rfl⟩:=h.ex
 have q1:=h2.fz (n:=n+3) (e:=bV) fun hc=>by rw[hc.1];simp[bV,ai,aj,aD,bE]
 have q2:=h3.fz (n:=n+3) (e:=bH) fun hc=>MM (n+1) hc
 have q3:=h4.fz (n:=n+3) (e:=aa) fun hc=>by rw[hc.1];simp[aa,ai,aj,aD]
 simp only[bd,ai,aj,q1,q2,q3,aD,Option.map_some,au]
theorem sD (p:dP) (hs:p.ah.length<=1048576) (σ:ar):Call Tryz.prog 18 [.agg (aQ p)] σ (fun r σ'=>∃ids,xN σ'.get r p ids/\fW σ.next σ'.next ids/\Kept σ σ'):=by
 refine eL dX rfl fun hl=>?_
 clear hl
 (try((repeat(revert hN;revert N;apply Pn.out));refine wk @aQ.eq_1 ?_;(repeat(refine Pn.mk ?_;intro N hN))))
 refine .inr (aC _ _ _ _ _ (fun r σ1 hq=>?_) (CT p.ah hs _))
 obtain⟨ids,hR,hI,hK⟩:=hq
 obtain⟨g1,x1⟩:=σ1
 (try dsimp only at hR hI hK)
 have hn:=hK.1
 obtain⟨o,rows,is,rfl,hg,Uq,rfl⟩:=hR
 refine hN _ _ ?_
 clear hN N
 have k2:=hK.2 ⟨18000001,σ.next⟩ (by(try dsimp only);omega)
 have k3:=hK.2 ⟨18001000,σ.next+1⟩ (by(try dsimp only);omega)
 simp only[go_sem, ↓reduceIte,Nat.reduceEqDiff,Nat.reduceAdd,Nat.reduceSub,Nat.reduceLeDiff,reduceCtorEq]at k2 k3
 (try((repeat(revert hN;revert N;apply Pn.out));refine wk (tw @aQ.eq_1 (tw @k2 @k3)) ?_;(repeat(refine Pn.mk ?_;intro N hN))))
 refine e9 (.inl rfl) (vs:=[.agg [.own o 0 p.ah.length]]) (sd @Nat.zero_add) ?_
 have hb:=hI.2
 (try dsimp only at hb hn)
 refine⟨_,⟨_,rfl,iG.frame yH ⟨o,rows,is,rfl,hg,Uq,rfl⟩ fun j hj=>?_⟩,⟨hI.1,fun j hj=>?_⟩,⟨?_,fun j hj=>?_⟩⟩
 ·have UR:=hb j hj
  have i2:=cz (b:=j) (a:=⟨18000001,σ.next⟩) (by(try dsimp only);omega)
  have i3:=cz (b:=j) (a:=⟨18001000,σ.next+1⟩) (by(try dsimp only);omega)
  simp only[go_sem, ↓reduceIte,Nat.reduceEqDiff,Nat.reduceAdd,Nat.reduceSub,Nat.reduceLeDiff,reduceCtorEq,i2,i3]
 ·have:=hb j hj
  (try dsimp only);omega
 ·(try dsimp only);omega
 ·have h2:=hK.2 j (by(try dsimp only);omega)
  have h1:=dr hj
  simp only[go_sem, ↓reduceIte,Nat.reduceEqDiff,Nat.reduceAdd,Nat.reduceSub,Nat.reduceLeDiff,reduceCtorEq,h1]at h2
  simp only[go_sem, ↓reduceIte,Nat.reduceEqDiff,Nat.reduceAdd,Nat.reduceSub,Nat.reduceLeDiff,reduceCtorEq,h1,h2]
theorem CV (p:aw) (hs:Ib p) (σ:ar):Call Tryz.prog 63 [.agg (ab p)] σ (fun r σ'=>∃a b i1 i2,r=.agg [a,b]/\iG (lE bV) 2 σ'.get a p.ax i1/\iG oF 2 σ'.get b p.ah i2/\fW σ.next σ'.next (i1++i2)/\Kept σ σ'):=by
 refine eL dX rfl fun hl=>?_
 clear hl
 (try((repeat(revert hN;revert N;apply Pn.out));refine wk @ab.eq_1 ?_;(repeat(refine Pn.mk ?_;intro N hN))))
 refine .inr (aC _ _ _ _ _ (fun r σ1 hq=>?_) (HB p.ax hs.g _))
 obtain⟨i1,hR,hI,hK⟩:=hq
 obtain⟨g1,x1⟩:=σ1
 (try dsimp only at hR hI hK)
 have hn:=hK.1
 obtain⟨o,rows,is,rfl,hg,Uq,rfl⟩:=hR
 have hb:=hI.2
 (try dsimp only at hb hn)
 refine hN _ _ ?_
 clear hN N
 have k1:=hK.2 ⟨63000000,σ.next⟩ (by(try dsimp only);omega)
 have k2:=hK.2 ⟨63000001,σ.next⟩ (by(try dsimp only);omega)
 have k3:=hK.2 ⟨63001000,σ.next+1⟩ (by(try dsimp only);omega)
 simp only[go_sem, ↓reduceIte,Nat.reduceEqDiff,Nat.reduceAdd,Nat.reduceSub,Nat.reduceLeDiff,reduceCtorEq]at k1 k2 k3
 (try((repeat(revert hN;revert N;apply Pn.out));refine wk (tw @ab.eq_1 (tw @k1 (tw @k2 @k3))) ?_;(repeat(refine Pn.mk ?_;intro N hN))))
 refine .inr (aC _ _ _ _ _ (fun r σ2 hq=>?_) (HD p.ah hs.t hs.s _))
 obtain⟨i2,hS,hJ,hL⟩:=hq
 obtain⟨g2,x2⟩:=σ2
 (try dsimp only at hS hJ hL)
 have HS:=hL.1
 obtain⟨o2,Nx,is2,rfl,Rn,hS',rfl⟩:=hS
 have hc:=hJ.2
 (try dsimp only at hc HS)
 refine hN _ _ ?_
 clear hN N
 have l2:=hL.2 ⟨63000001,σ.next⟩ (by(try dsimp only);omega)
 have l3:=hL.2 ⟨63001000,σ.next+1⟩ (by(try dsimp only);omega)
 simp only[go_sem, ↓reduceIte,Nat.reduceEqDiff,Nat.reduceAdd,Nat.reduceSub,Nat.reduceLeDiff,reduceCtorEq,k2,k3]at l2 l3
 (try((repeat(revert hN;revert N;apply Pn.out));refine wk (tw @ab.eq_1 (tw @l2 @l3)) ?_;(repeat(refine Pn.mk ?_;intro N hN))))
 refine e9 (.inl rfl) (vs:=[.agg [.own o 0 p.ax.length,.own o2 0 p.ah.length]]) (sd @Nat.zero_add) ?_
 have fr:∀x:Id,σ.next+2<=x.ck->(x=⟨63000001,σ.next⟩)=False/\(x=⟨63001000,σ.next+1⟩)=False:=fun x hx=>⟨(cz (a:=⟨63000001,σ.next⟩) (b:=x) (by(try dsimp only);omega)).2,(cz (a:=⟨63001000,σ.next+1⟩) (b:=x) (by(try dsimp only);omega)).2⟩
 refine⟨_,_,_,_,rfl,iG.frame (g:=g1) BL ⟨o,rows,is,rfl,hg,Uq,rfl⟩ fun i hi=>?_,iG.frame (g:=g2) rh ⟨o2,Nx,is2,rfl,Rn,hS',rfl⟩ fun i hi=>?_,?_,⟨by(try dsimp only);omega,fun j hj=>?_⟩⟩
 ·have h1:=hb i hi
  have h2:=hL.2 i (by(try dsimp only);omega)
  have h3:=fr i (by omega)
  simp only[go_sem, ↓reduceIte,Nat.reduceEqDiff,Nat.reduceAdd,Nat.reduceSub,Nat.reduceLeDiff,reduceCtorEq,h3]at h2
  simp only[go_sem, ↓reduceIte,Nat.reduceEqDiff,Nat.reduceAdd,Nat.reduceSub,Nat.reduceLeDiff,reduceCtorEq,h2,h3]
 ·have h1:=hc i hi
  have h3:=fr i (by omega)
  simp only[go_sem, ↓reduceIte,Nat.reduceEqDiff,Nat.reduceAdd,Nat.reduceSub,Nat.reduceLeDiff,reduceCtorEq,h3]
 ·(try dsimp only at *)
  exact(hI.app hJ (by omega) (by omega) (by omega)).wide (by omega) (by omega)
 ·have h1:=dr hj
  have h2:=hL.2 j (by(try dsimp only);omega)
  have h3:=hK.2 j (by(try dsimp only);omega)
  simp only[go_sem, ↓reduceIte,Nat.reduceEqDiff,Nat.reduceAdd,Nat.reduceSub,Nat.reduceLeDiff,reduceCtorEq,h1]at h2 h3
  simp only[go_sem, ↓reduceIte,Nat.reduceEqDiff,Nat.reduceAdd,Nat.reduceSub,Nat.reduceLeDiff,reduceCtorEq,h1,h2,h3]
theorem ES (p:az) (hs:qi p) (σ:ar):Call Tryz.prog 16 [.agg (au p)] σ (fun r σ'=>∃ids,zG σ'.get r p ids/\fW σ.next σ'.next ids/\Kept σ σ'):=by
 refine eL dX rfl fun hl=>?_
 clear hl
 have t1:=fun σ=>CV p.aH hs.s σ
 have t2:=fun σ=>sD p.aZ hs.a σ
 rw[ab]at t1
 rw[aQ]at t2
 (try((repeat(revert hN;revert N;apply Pn.out));refine wk @au.eq_1 ?_;(repeat(refine Pn.mk ?_;intro N hN))))
 refine .inr (aC _ _ _ _ _ (fun r σ1 hq=>?_) (t1 _))
 obtain⟨a,b,i1,i2,rfl,hA,hB,hI,hK⟩:=hq
 obtain⟨g1,x1⟩:=σ1
 (try dsimp only at hA hB hI hK)
 have hn:=hK.1
 have hb:=hI.2
 (try dsimp only at hb hn)
 refine hN _ _ ?_
 clear hN N
 have k1:=hK.2 ⟨16000000,σ.next⟩ (by(try dsimp only);omega)
 have k2:=hK.2 ⟨16000001,σ.next⟩ (by(try dsimp only);omega)
 have k3:=hK.2 ⟨16001000,σ.next+1⟩ (by(try dsimp only);omega)
 simp only[go_sem, ↓reduceIte,Nat.reduceEqDiff,Nat.reduceAdd,Nat.reduceSub,Nat.reduceLeDiff,reduceCtorEq]at k1 k2 k3
 obtain⟨oa,rfl⟩:=hA.kY
 obtain⟨ob,rfl⟩:=hB.kY
 (try((repeat(revert hN;revert N;apply Pn.out));refine wk (tw @au.eq_1 (tw @k1 (tw @k2 @k3))) ?_;(repeat(refine Pn.mk ?_;intro N hN))))
 refine .inr (aC _ _ _ _ _ (fun r σ2 hq=>?_) (t2 _))
 obtain⟨i3,hC,hJ,hL⟩:=hq
 obtain⟨g2,x2⟩:=σ2
 (try dsimp only at hC hJ hL)
 have HS:=hL.1
 have hc:=hJ.2
 (try dsimp only at hc HS)
 obtain⟨c,rfl,hC⟩:=hC
 obtain⟨oc,rfl⟩:=hC.kY
 refine hN _ _ ?_
 clear hN N
 have l1:=hL.2 ⟨16000000,σ.next⟩ (by(try dsimp only);omega)
 have l2:=hL.2 ⟨16000001,σ.next⟩ (by(try dsimp only);omega)
 have l3:=hL.2 ⟨16001000,σ.next+1⟩ (by(try dsimp only);omega)
 simp only[go_sem, ↓reduceIte,Nat.reduceEqDiff,Nat.reduceAdd,Nat.reduceSub,Nat.reduceLeDiff,reduceCtorEq,k1,k2,k3]at l1 l2 l3
 (try((repeat(revert hN;revert N;apply Pn.out));refine wk (tw @au.eq_1 (tw @l1 (tw @l2 @l3))) ?_;(repeat(refine Pn.mk ?_;intro N hN))))
 refine e9 (.inl rfl) (vs:=[.agg [.own oa 0 p.aH.ax.length,.own ob 0 p.aH.ah.length,.own oc 0 p.aZ.ah.length,.int .i64 p.aB]]) (sd @Nat.zero_add) ?_
 have fr:∀x:Id,σ.next+2<=x.ck->(x=⟨16000001,σ.next⟩)=False/\(x=⟨16001000,σ.next+1⟩)=False:=fun x hx=>⟨(cz (a:=⟨16000001,σ.next⟩) (b:=x) (by(try dsimp only);omega)).2,(cz (a:=⟨16001000,σ.next+1⟩) (b:=x) (by(try dsimp only);omega)).2⟩
 have fr2:∀i∈i1++i2,g2 i=g1 i:=fun i hi=>by
  have h1:=hb i hi
  have h2:=hL.2 i (by(try dsimp only);omega)
  have h3:=fr i (by omega)
  simp only[go_sem, ↓reduceIte,Nat.reduceEqDiff,Nat.reduceAdd,Nat.reduceSub,Nat.reduceLeDiff,reduceCtorEq,h3]at h2
  exact h2
 refine⟨i1++(i2++i3),⟨_,_,_,i1,i2,i3,rfl,hA.frame BL fun i hi=>?_,hB.frame rh fun i hi=>?_,hC.frame yH fun i hi=>?_,rfl⟩,?_,⟨by(try dsimp only);omega,fun j hj=>?_⟩⟩
 ·have h1:=hb i (by simp[hi])
  have h2:=fr2 i (by simp[hi])
  have h3:=fr i (by omega)
  simp only[go_sem, ↓reduceIte,Nat.reduceEqDiff,Nat.reduceAdd,Nat.reduceSub,Nat.reduceLeDiff,reduceCtorEq,h2,h3]
 ·have h1:=hb i (by simp[hi])
  have h2:=fr2 i (by simp[hi])
  have h3:=fr i (by omega)
  simp only[go_sem, ↓reduceIte,Nat.reduceEqDiff,Nat.reduceAdd,Nat.reduceSub,Nat.reduceLeDiff,reduceCtorEq,h2,h3]
 ·have h1:=hc i hi
  have h3:=fr i (by omega)
  simp only[go_sem, ↓reduceIte,Nat.reduceEqDiff,Nat.reduceAdd,Nat.reduceSub,Nat.reduceLeDiff,reduceCtorEq,h3]
 ·(try dsimp only at *)
  rw[<-List.append_assoc]
  exact(hI.app hJ (by omega) (by omega) (by omega)).wide (by omega) (by omega)
 ·have h1:=dr hj
  have h2:=hL.2 j (by(try dsimp only);omega)
  have h3:=hK.2 j (by(try dsimp only);omega)
  simp only[go_sem, ↓reduceIte,Nat.reduceEqDiff,Nat.reduceAdd,Nat.reduceSub,Nat.reduceLeDiff,reduceCtorEq,h1]at h2 h3
  simp only[go_sem, ↓reduceIte,Nat.reduceEqDiff,Nat.reduceAdd,Nat.reduceSub,Nat.reduceLeDiff,reduceCtorEq,h1,h2,h3]
end Go.Proofs.YtgoljkjaameagaaGreat.V

namespace Go.Proofs.YtgoljkjaameagaaGreat
open Go.RowKit
def k6 (n:Int):Bool:=(decide (97<=n)&&decide (n<=122))||(decide (65<=n)&&decide (n<=90))
def lv (n:Int):Bool:=decide (48<=n)&&decide (n<=57)
def uz (i:Nat) (n:Int):Prop:=k6 n=true∨(0<i/\(lv n=true∨n=95))
def vM (s:ByteArray):Prop:=(1<=s.size/\s.size<=12)/\∀i (h:i<s.size),uz i s[i].toNat
open Classical in
noncomputable def jS (s:ByteArray):Bool:=decide (vM s)
theorem Eh {s:ByteArray} (h:vM s):true=jS s:=by simp[jS,h]
theorem ea {s:ByteArray} (h:¬vM s):false=jS s:=by simp[jS,h]
theorem Cv {s:ByteArray} {b:Bool} (hb:b=true) (h:vM s):b=jS s:=by simp[jS,h,hb]
theorem r9 {s:ByteArray} {b:Bool} (hb:b=false) (h:¬vM s):b=jS s:=by simp[jS,h,hb]
theorem wT (w:World) (n:Int):Calls Tryz.prog 285 #[.int .u8 n] w fun e w'=>e=.returned (.bool (k6 n))/\w=w':=by
 go_enter Tryz.func285,Tryz.ntmps285
 go_wp2_with fail
 all_goals
  go_ret
  exact⟨iH (by unfold k6;simp[*];try omega),rfl⟩
theorem Gn (w:World) (n:Int):Calls Tryz.prog 286 #[.int .u8 n] w fun e w'=>e=.returned (.bool (lv n))/\w=w':=by
 go_enter Tryz.func286,Tryz.ntmps286
 go_wp2_with fail
 all_goals
  go_ret
  exact⟨iH (by unfold lv;simp[*];try omega),rfl⟩
theorem CI (w:World) (s:ByteArray) (hs:s.size<=9223372036854775807):Calls Tryz.prog 237 #[.string s] w fun e w'=>e=.returned (.bool (jS s))/\Below w.heap.size w w':=by
 by_cases h1:1<=s.size
 case neg=>
  go_enter Tryz.func237,Tryz.ntmps237
  go_wp2_with fail
  go_ret
  exact⟨iH (ea fun h=>h1 h.1.1),Below.refl _ _⟩
 by_cases h2:s.size<=12
 case neg=>
  go_enter Tryz.func237,Tryz.ntmps237
  go_wp2_with fail
  go_ret
  exact⟨iH (ea fun h=>h2 h.1.2),Below.refl _ _⟩
 go_enter Tryz.func237,Tryz.ntmps237
 go_wp2_with fail
 refine(wT _ _).mono ?_
 rintro e w' ⟨rfl,rfl⟩
 cases h3:k6 s[0].toNat
 ·go_wp2_with fail
  go_ret
  exact⟨iH (ea fun h=>by have:=h.2 0 (by omega);simp only[uz]at this;rw[h3]at this;simp at this),Below.refl _ _⟩
 ·replace h3:=Lib.hid h3
  go_wp2_with fail
  go_loop [3] (fun i=>∃k:Nat,1<=k/\k<=s.size/\i=.int .i64 k/\Hid (∀j (h:j<s.size),j<k->uz j s[j].toNat)) (fun i=>s.size-(intOf i).toNat)
  case atStart=>exact⟨1,by omega,by omega,rfl,Lib.hid fun j h hj=>by
   obtain rfl:j=0:=by omega
   exact .inl h3.out⟩
  case round=>
   obtain⟨k,xM,hk,rfl,dD⟩:=hrel
   by_cases dU:k<s.size
   ·go_wp2_with fail
    refine(wT _ _).mono ?_
    rintro e w' ⟨rfl,rfl⟩
    have lx:uz k s[k].toNat∨¬uz k s[k].toNat:=Classical.em _
    cases hl:k6 s[k].toNat
    ·go_wp2_with fail
     refine(Gn _ _).mono ?_
     rintro e w' ⟨rfl,rfl⟩
     cases hd:lv s[k].toNat
     ·by_cases u7:(s[k].toNat:Int)=95
      ·have Ua:((s[k].toNat:Int) !=95)=false:=by simp;omega
       replace u7:=Lib.hid u7
       replace hl:=Lib.hid hl
       replace hd:=Lib.hid hd
       go_wp2_with fail
       go_round
       case rel=>exact⟨k+1,by omega,by omega,by go_num,Lib.hid fun j h hj=>by
        by_cases yP:j=k
        ·subst yP;exact .inr ⟨by omega,.inr u7.out⟩
        ·exact dD.out j h (by omega)⟩
       case measure=>simp[intOf];omega
      ·have Ua:((s[k].toNat:Int) !=95)=true:=by simp;omega
       replace u7:=Lib.hid u7
       replace hl:=Lib.hid hl
       replace hd:=Lib.hid hd
       go_wp2_with fail
       go_ret
       exact⟨iH (ea fun h=>by
        have:=h.2 k dU;simp only[uz,hl.out,hd.out]at this;exact u7.out (by simp at this;exact this.2)),Below.refl _ _⟩
     ·replace hl:=Lib.hid hl
      replace hd:=Lib.hid hd
      go_wp2_with fail
      go_round
      case rel=>exact⟨k+1,by omega,by omega,by go_num,Lib.hid fun j h hj=>by
       by_cases yP:j=k
       ·subst yP;exact .inr ⟨by omega,.inl hd.out⟩
       ·exact dD.out j h (by omega)⟩
      case measure=>simp[intOf];omega
    ·replace hl:=Lib.hid hl
     go_wp2_with fail
     go_round
     case rel=>exact⟨k+1,by omega,by omega,by go_num,Lib.hid fun j h hj=>by
      by_cases yP:j=k
      ·subst yP;exact .inl hl.out
      ·exact dD.out j h (by omega)⟩
     case measure=>simp[intOf];omega
   ·go_wp2_with fail
    go_ret
    exact⟨iH (Eh ⟨⟨h1,h2⟩,fun i h=>dD.out i h (by omega)⟩),Below.refl _ _⟩
theorem B7 (w:World) (s:ByteArray) (hs:s.size<=9223372036854775807):Calls Tryz.prog 254 #[.string s] w fun e w'=>e=.returned (.bool (jS s))/\w=w':=by
 go_enter Tryz.func254,Tryz.ntmps254
 go_wp2_with fail
 go_loop [8] (fun i=>∃k:Nat,k<=s.size/\i=.int .i64 k/\Hid (∀j (h:j<s.size),j<k->uz j s[j].toNat)) (fun i=>s.size-(intOf i).toNat)
 case atStart=>exact⟨0,by omega,rfl,Lib.hid fun j h hj=>by omega⟩
 case round=>
  obtain⟨k,hk,rfl,dD⟩:=hrel
  by_cases dU:k<s.size
  ·have hc:(s[k].toNat:Int)<48∨(48<=(s[k].toNat:Int)/\(s[k].toNat:Int)<=57)∨(58<=(s[k].toNat:Int)/\(s[k].toNat:Int)<=64)∨(65<=(s[k].toNat:Int)/\(s[k].toNat:Int)<=90)∨(91<=(s[k].toNat:Int)/\(s[k].toNat:Int)<=94)∨(95<=(s[k].toNat:Int)/\(s[k].toNat:Int)<=95)∨(96<=(s[k].toNat:Int)/\(s[k].toNat:Int)<=96)∨(97<=(s[k].toNat:Int)/\(s[k].toNat:Int)<=122)∨123<=(s[k].toNat:Int):=by omega
   by_cases xL:k=0
   ·subst xL
    rcases hc with h|⟨h,h'⟩|⟨h,h'⟩|⟨h,h'⟩|⟨h,h'⟩|⟨h,h'⟩|⟨h,h'⟩|⟨h,h'⟩|h
    ·have u7:((s[0].toNat:Int) !=95)=true:=by simp;try omega
     go_wp2_with fail
     all_goals first
      |(go_ret;exact⟨iH (ea fun hh=>by have:=hh.2 0 dU;simp[uz,k6,lv]at this;omega),rfl⟩)
      |(exfalso;simp_all;done)
      |(exfalso;simp_all;omega)
    ·have u7:((s[0].toNat:Int) !=95)=true:=by simp;try omega
     go_wp2_with fail
     all_goals first
      |(go_ret;exact⟨iH (ea fun hh=>by have:=hh.2 0 dU;simp[uz,k6,lv]at this;omega),rfl⟩)
      |(exfalso;simp_all;done)
      |(exfalso;simp_all;omega)
    ·have u7:((s[0].toNat:Int) !=95)=true:=by simp;try omega
     go_wp2_with fail
     all_goals first
      |(go_ret;exact⟨iH (ea fun hh=>by have:=hh.2 0 dU;simp[uz,k6,lv]at this;omega),rfl⟩)
      |(exfalso;simp_all;done)
      |(exfalso;simp_all;omega)
    ·have u7:((s[0].toNat:Int) !=95)=true:=by simp;try omega
     go_wp2_with fail
     go_round
     case rel=>exact⟨0+1,by omega,by go_num,Lib.hid fun j hj yP=>by
      by_cases Ja:j=0
      ·subst Ja;simp[uz,k6,lv];omega
      ·exact dD.out j hj (by omega)⟩
     case measure=>simp[intOf];try omega
    ·have u7:((s[0].toNat:Int) !=95)=true:=by simp;try omega
     go_wp2_with fail
     all_goals first
      |(go_ret;exact⟨iH (ea fun hh=>by have:=hh.2 0 dU;simp[uz,k6,lv]at this;omega),rfl⟩)
      |(exfalso;simp_all;done)
      |(exfalso;simp_all;omega)
    ·have u7:((s[0].toNat:Int) !=95)=false:=by simp;try omega
     go_wp2_with fail
     all_goals first
      |(go_ret;exact⟨iH (ea fun hh=>by have:=hh.2 0 dU;simp[uz,k6,lv]at this;omega),rfl⟩)
      |(exfalso;simp_all;done)
      |(exfalso;simp_all;omega)
    ·have u7:((s[0].toNat:Int) !=95)=true:=by simp;try omega
     go_wp2_with fail
     all_goals first
      |(go_ret;exact⟨iH (ea fun hh=>by have:=hh.2 0 dU;simp[uz,k6,lv]at this;omega),rfl⟩)
      |(exfalso;simp_all;done)
      |(exfalso;simp_all;omega)
    ·have u7:((s[0].toNat:Int) !=95)=true:=by simp;try omega
     go_wp2_with fail
     go_round
     case rel=>exact⟨0+1,by omega,by go_num,Lib.hid fun j hj yP=>by
      by_cases Ja:j=0
      ·subst Ja;simp[uz,k6,lv];omega
      ·exact dD.out j hj (by omega)⟩
     case measure=>simp[intOf];try omega
    ·have u7:((s[0].toNat:Int) !=95)=true:=by simp;try omega
     go_wp2_with fail
     all_goals first
      |(go_ret;exact⟨iH (ea fun hh=>by have:=hh.2 0 dU;simp[uz,k6,lv]at this;omega),rfl⟩)
      |(exfalso;simp_all;done)
      |(exfalso;simp_all;omega)
   ·have hz:((k:Int)==0)=false:=by simpa using xL
    have xM:1<=k:=by omega
    clear xL
    rcases hc with h|⟨h,h'⟩|⟨h,h'⟩|⟨h,h'⟩|⟨h,h'⟩|⟨h,h'⟩|⟨h,h'⟩|⟨h,h'⟩|h
    ·have u7:((s[k].toNat:Int) !=95)=true:=by simp;try omega
     go_wp2_with fail
     all_goals first
      |(go_ret;exact⟨iH (ea fun hh=>by have:=hh.2 k dU;simp[uz,k6,lv]at this;omega),rfl⟩)
      |(exfalso;simp_all;done)
      |(exfalso;simp_all;omega)
    ·have u7:((s[k].toNat:Int) !=95)=true:=by simp;try omega
     go_wp2_with fail
     go_round
     case rel=>exact⟨k+1,by omega,by go_num,Lib.hid fun j hj yP=>by
      by_cases Ja:j=k
      ·subst Ja;simp[uz,k6,lv];omega
      ·exact dD.out j hj (by omega)⟩
     case measure=>simp[intOf];try omega
    ·have u7:((s[k].toNat:Int) !=95)=true:=by simp;try omega
     go_wp2_with fail
     all_goals first
      |(go_ret;exact⟨iH (ea fun hh=>by have:=hh.2 k dU;simp[uz,k6,lv]at this;omega),rfl⟩)
      |(exfalso;simp_all;done)
      |(exfalso;simp_all;omega)
    ·have u7:((s[k].toNat:Int) !=95)=true:=by simp;try omega
     go_wp2_with fail
     go_round
     case rel=>exact⟨k+1,by omega,by go_num,Lib.hid fun j hj yP=>by
      by_cases Ja:j=k
      ·subst Ja;simp[uz,k6,lv];omega
      ·exact dD.out j hj (by omega)⟩
     case measure=>simp[intOf];try omega
    ·have u7:((s[k].toNat:Int) !=95)=true:=by simp;try omega
     go_wp2_with fail
     all_goals first
      |(go_ret;exact⟨iH (ea fun hh=>by have:=hh.2 k dU;simp[uz,k6,lv]at this;omega),rfl⟩)
      |(exfalso;simp_all;done)
      |(exfalso;simp_all;omega)
    ·have u7:((s[k].toNat:Int) !=95)=false:=by simp;try omega
     go_wp2_with fail
     go_round
     case rel=>exact⟨k+1,by omega,by go_num,Lib.hid fun j hj yP=>by
      by_cases Ja:j=k
      ·subst Ja;simp[uz,k6,lv];omega
      ·exact dD.out j hj (by omega)⟩
     case measure=>simp[intOf];try omega
    ·have u7:((s[k].toNat:Int) !=95)=true:=by simp;try omega
     go_wp2_with fail
     all_goals first
      |(go_ret;exact⟨iH (ea fun hh=>by have:=hh.2 k dU;simp[uz,k6,lv]at this;omega),rfl⟩)
      |(exfalso;simp_all;done)
      |(exfalso;simp_all;omega)
    ·have u7:((s[k].toNat:Int) !=95)=true:=by simp;try omega
     go_wp2_with fail
     go_round
     case rel=>exact⟨k+1,by omega,by go_num,Lib.hid fun j hj yP=>by
      by_cases Ja:j=k
      ·subst Ja;simp[uz,k6,lv];omega
      ·exact dD.out j hj (by omega)⟩
     case measure=>simp[intOf];try omega
    ·have u7:((s[k].toNat:Int) !=95)=true:=by simp;try omega
     go_wp2_with fail
     all_goals first
      |(go_ret;exact⟨iH (ea fun hh=>by have:=hh.2 k dU;simp[uz,k6,lv]at this;omega),rfl⟩)
      |(exfalso;simp_all;done)
      |(exfalso;simp_all;omega)
  ·by_cases h1:1<=s.size
   ·by_cases h2:s.size<=12
    ·go_wp2_with fail
     go_ret
     exact⟨iH (Cv (by simp<;>omega) ⟨⟨h1,h2⟩,fun i h=>dD.out i h (by omega)⟩),rfl⟩
    ·go_wp2_with fail
     go_ret
     exact⟨iH (r9 (by simp<;>omega) fun h=>h2 h.1.2),rfl⟩
   ·go_wp2_with fail
    go_ret
    exact⟨iH (r9 (by simp<;>omega) fun h=>h1 h.1.1),rfl⟩
end Go.Proofs.YtgoljkjaameagaaGreat

namespace Go.Proofs.YtgoljkjaameagaaGreat.V
open Go.RowKit
theorem mixed:Tryz.prog.follows .mixedOrders=true:=by kernel_rfl
variable {P:Program} {w:World} {D:Nat->Prop} {ι:Names}
theorem l8 {f:Nat} {args:List AV} {r:AV} {vs0:Array Value} {u0:Value} (nO:∀(w:World) (D:Nat->Prop) (ι:Names) vs,fm P w D ι args vs->vs=vs0) (hr:∀(w:World) (D:Nat->Prop) (ι:Names),cI P w D ι r u0) (C5:∀g,gC g 6 r=some r)
  (h:∀w,Calls P f vs0 w fun e w'=>e=.returned u0/\Below w.heap.size w w'):aq P f args r:=by
 intro n
 refine gP fun hs D ι w vs S U A=>?_
 have:=nO w D ι vs A
 subst this
 refine(h w).mono ?_
 rintro e w' ⟨rfl,hb⟩
 exact⟨r,_,n,D,ι,u0,rfl,⟨r,C5 _,rfl⟩,Step.stay S hb.block hb.size hb.os hb.tape hb.output (fun _ h=>h) (fun _ h=>.inl h) (fun _ _ h=>h),
  S.stay hb.block hb.size (fun _ h=>h) (fun b hd=>Nat.lt_of_lt_of_le (S.dead b hd) hb.size) (fun _ h=>.inl h) (fun _ _ h=>h),U,Nat.le_refl _,hr _ _ _⟩
theorem CF {s:ByteArray} {vs:Array Value} (h:fm P w D ι [.str s] vs):vs= #[.string s]:=by
 obtain⟨h1,h2⟩:=h
 obtain⟨u,hu,hr⟩:=h2 0 _ rfl
 rw[fD hr]at hu
 obtain⟨l⟩:=vs
 cases l with
 |nil=>simp at h1
 |cons a l=>cases l with
  |nil=>simp at hu;subst hu;rfl
  |cons b l=>simp at h1
theorem FV (s:ByteArray) (hs:s.size<=9223372036854775807):aq Tryz.prog 237 [.str s] (.bool (jS s)):=
 l8 (fun _ _ _ _=>CF) (fun _ _ _=>.eO _ _ (.bool _)) (fun g=>fK g 5 _) fun w=>CI w s hs
theorem FH (s:ByteArray) (hs:s.size<=9223372036854775807):aq Tryz.prog 254 [.str s] (.bool (jS s)):=
 l8 (fun _ _ _ _=>CF) (fun _ _ _=>.eO _ _ (.bool _)) (fun g=>fK g 5 _) fun w=>(B7 w s hs).mono (by rintro e w' ⟨rfl,rfl⟩;exact⟨rfl,Below.refl _ _⟩)
end Go.Proofs.YtgoljkjaameagaaGreat.V

namespace Go.Proofs.YtgoljkjaameagaaGreat
open Go.RowKit
def uB (n:Nat):List UInt8:=if h:n=0 then[]else uB (n / 10)++[UInt8.ofNat (48+n % 10)]
termination_by n
decreasing_by omega
def oZ (k:Int):ByteArray:=if k<=0 then⟨#[109,48]⟩else⟨(109::uB k.toNat).toArray⟩
theorem Gp:uB 0=[]:=by unfold uB;simp
theorem Ix {n:Nat} (h:n≠0):uB n=uB (n / 10)++[UInt8.ofNat (48+n % 10)]:=by
 conv=>lhs;unfold uB
 rw[dif_neg h]
theorem yD (c:UInt8) (l:ByteArray):((⟨#[c]⟩++l:ByteArray)).data.toList=c::l.data.toList:=by
 simp[ByteArray.data_append]
theorem BC:∀(m n:Nat),n<10 ^ m->(uB n).length<=m
 |0,n,h=>by
  have:n=0:=by simpa using h
  subst this;simp[uB]
 |m+1,n,h=>by
  unfold uB
  split
  ·simp
  ·have:=BC m (n / 10) (by rw[Nat.pow_succ]at h;omega)
   simp;omega
theorem As (w:World) (k:Int) (h0:0<=k) (h1:k<=4611686018427387904):
  Calls Tryz.prog 213 #[.int .i64 k] w fun e w'=>e=.returned (.string (oZ k))/\Below w.heap.size w w':=by
 by_cases hk:k<=0
 ·go_enter Tryz.func213,Tryz.ntmps213
  go_wp2_with fail
  go_ret
  exact⟨by simp[oZ,hk],Below.refl _ _⟩
 ·go_enter Tryz.func213,Tryz.ntmps213
  go_wp2_with fail
  go_loopw [0,3] (fun a s wr=>∃(j:Int) (l:ByteArray),a=.int .i64 j/\s=.string l/\0<=j/\j<=4611686018427387904/\Hid (uB j.toNat++l.data.toList=uB k.toNat)/\Below w.heap.size w wr) (fun a _ _=>(intOf a).toNat)
  case atStart=>exact⟨k,⟨#[]⟩,rfl,rfl,h0,h1,Lib.hid (by simp),Below.refl _ _⟩
  case round=>
   obtain⟨j,l,rfl,rfl,hj0,hj1,hd,hb⟩:=hrel
   have fV:l.size<=19:=by
    have h1:=congrArg List.length hd.out
    have h2:=BC 19 k.toNat (by omega)
    rw[List.length_append]at h1
    have:l.data.toList.length=l.size:=by rw[Array.length_toList];rfl
    omega
   by_cases hj:0<j
   ·have S9:∀v:Int,(convert 336 9 (.slice (some ⟨wr.heap.size,0,none⟩) 1 1)).run Tryz.prog (wr.alloc (.cells #[.int .u8 v] 5))=.ok (.string ⟨#[UInt8.ofNat v.toNat]⟩) (wr.alloc (.cells #[.int .u8 v] 5)):=by
     intro v
     rw[run_convert_bytes_string _ _ _ 5 _ _ _ Tryz.underlying336 Tryz.underlying5 Tryz.underlying9,run_bytesToString _ _ _ _ [v] (by simp[loadCells,loadCellsFrom,go_sem])]
     rfl
    have hr:=fV
    go_wp2_with fail
    go_roundw
    case rel=>
     refine⟨_,_,rfl,rfl,by omega,by omega,Lib.hid ?_,hb.alloc hb.size _⟩
     rw[<-hd.out,yD,Ix (show j.toNat≠0 by omega),show(j / 10).toNat=j.toNat / 10 by omega,show(48+j % 10).toNat=48+j.toNat % 10 by omega]
     simp
    case measure=>simp[intOf];omega
   ·go_wp2_with fail
    go_ret
    refine⟨?_,hb⟩
    have h1:=hd.out
    rw[show j.toNat=0 by omega,Gp,List.nil_append]at h1
    have h2:(⟨#[109]⟩++l:ByteArray)=oZ k:=by
     rw[oZ,if_neg (by omega)]
     refine ByteArray.ext (Array.ext' ?_)
     rw[yD,h1]
    rw[h2];rfl
end Go.Proofs.YtgoljkjaameagaaGreat

namespace Go.Proofs.YtgoljkjaameagaaGreat.V
open Go.RowKit
attribute [local irreducible] dI wpOps gy Call
attribute [local go_sem] aM fG eQ fZ fY cQ upd cC K.av cP AV.cells AV.cell rowOf rowsOf part ld rowAt bt cu dE ee ik bJ dh ew fX eX dp ej dd dc dQ dR bQ bf cW bP cY cX eh ek ei cV b4 de ef bK aP da cG ij bw cK bU aY dn bc dF AV.undef bF bI dS ec dM dK cH ev eA cF ep eo cZ db List.getD_cons_zero List.getD_cons_succ List.getD_nil List.all_cons List.all_nil Bool.and_true Bool.true_and Bool.and_self Bool.not_true Bool.not_false Option.map_some Option.map_none Option.bind_some Option.bind_none List.length_cons List.length_nil List.take_succ_cons List.take_zero List.take_nil List.drop_succ_cons List.drop_zero List.drop_nil List.head?_cons List.map_cons List.map_nil List.getElem?_cons_zero List.getElem?_cons_succ List.cons_append List.nil_append List.append_nil List.length_map List.set_cons_zero List.set_cons_succ Nat.reduceMul eq_self Int.toNat_natCast Int.natCast_nonneg and_self true_and and_true decide_true decide_false Bool.false_eq_true Nat.zero_add Nat.add_zero List.contains_cons List.contains_nil Bool.or_false Bool.false_or beq_self_eq_true Nat.reduceBEq ne_eq not_true_eq_false not_false_eq_true Id.mk.injEq false_and and_false Nat.reduceLT Int.reduceLE Int.reduceLT Int.reduceToNat Int.reduceNeg Int.reduceAdd Nat.le_refl List.length_append beq_true beq_false Bool.not_eq_eq_eq_not or_false false_or dJ ai aj aD bp bE cq aT bd aX bj cR bG
def oq (σ:ar) (ids:List Id) (g:Rows) (n:Nat):Prop:=σ.next<=n/\∀x:Id,x.ck<σ.next->x∉ids->g x=σ.get x
theorem oq.trans {a b:ar} {i j:List Id} {g:Rows} {n:Nat} (h:oq a i b.get b.next) (k:oq b j g n):oq a (i++j) g n:=
 ⟨Nat.le_trans h.1 k.1,fun x hx hi=>(k.2 x (Nat.lt_of_lt_of_le hx h.1) fun hc=>hi (by simp[hc])).trans (h.2 x hx fun hc=>hi (by simp[hc]))⟩
theorem oq.sub {a:ar} {i j:List Id} {g:Rows} {n:Nat} (h:oq a i g n) (hs:∀x∈i,x∈j):oq a j g n:=⟨h.1,fun x hx hj=>h.2 x hx fun hi=>hj (hs x hi)⟩
theorem so (l:List (List AV)) (i:Nat) (a b:List AV):(l.set i a).set i b=l.set i b:=List.set_set ..
theorem Iy {l:List Int} {j:Nat} (h:j<l.length):(l.map bh)[j]? =some [.int .i64 l[j]]:=by simp[h,bh]
theorem Mz {P:Program} {w:World} {D:Nat->Prop} {ι:Names} {k:Int} {vs:Array Value} (h:fm P w D ι [.int .i64 k] vs):vs= #[.int .i64 k]:=by
 obtain⟨h1,h2⟩:=h
 obtain⟨u,hu,hr⟩:=h2 0 _ rfl
 rw[dq hr]at hu
 obtain⟨l⟩:=vs
 cases l with
 |nil=>simp at h1
 |cons a l=>cases l with
  |nil=>simp at hu;subst hu;rfl
  |cons b l=>simp at h1
theorem wV (k:Int) (h0:0<=k) (h1:k<=4611686018427387904):aq Tryz.prog 213 [.int .i64 k] (.str (oZ k)):=
 l8 (vs0:= #[.int .i64 k]) (u0:=.string (oZ k)) (fun _ _ _ _=>Mz) (fun w D ι=>.eO _ _ (.str _)) (fun g=>Ly g 5 _) fun w=>As w k h0 h1
theorem Ee (i:Id) (l:List Int) (k:Int) (h0:0<=k) (h1:k+l.length<=4611686018427387904) (σ:ar) (hv:i.ck<σ.next) (hg:σ.get i=some ⟨true,1,l.map bh⟩):
  Call Tryz.prog 24 [.own i 0 l.length,.int .i64 k] σ (fun r σ'=>r=.int .i64 (k+l.length)/\oq σ [i] σ'.get σ'.next):=by
 refine eL dX rfl fun hl=>?_
 clear hl
 obtain⟨nn,hn⟩:∃nn,l.length=nn:=⟨_,rfl⟩
 rw[hn]at h1 ⊢
 (try((repeat(revert hN;revert N;apply Pn.out));refine wk @Nat.zero_add ?_;(repeat(refine Pn.mk ?_;intro N hN))))
 refine aU (fun n env st=>∃j:Nat,n=(nn)-j/\j<=(nn)/\env 5=.int .i64 (j:Int)/\env 1=.int .i64 (k+j)/\(oq σ [i] st.get st.next/\∃l':List Int,l'.length=nn/\st.get i=some ⟨true,1,l'.map bh⟩)) (nn) ⟨0,by omega,by omega,sl (tw @Int.add_zero @Int.natCast_zero),sl (tw @Int.add_zero @Int.natCast_zero),by(try dsimp only);exact⟨⟨by(try dsimp only);omega,fun x _ _=>rfl⟩,l,hn,hg⟩⟩ ?_
 rintro n_a env_a st_a ⟨j,rfl,ale,a5,a1,lZ⟩ dC
 have a0:=dC 0 (by kernel_rfl)
 simp only[go_sem, ↓reduceIte,Nat.reduceEqDiff,Nat.reduceAdd,Nat.reduceSub,Nat.reduceLeDiff,reduceCtorEq,Int.add_zero,Int.natCast_zero]at a0
 clear dC
 obtain⟨⟨an,aF⟩,l',al,ag⟩:=lZ
 by_cases hj:(j:Int)<(nn:Int)
 ·have cD:∀{e:Env} {gg:Rows} {nx:Nat},(e 5=.int .i64 (IntKind.i64.wrap ((j:Int)+1)))->(e 1=.int .i64 (k+(j+1)))->(oq σ [i] gg nx/\∃l':List Int,l'.length=nn/\gg i=some ⟨true,1,l'.map bh⟩)->∃m0,m0<(nn)-j/\∃j:Nat,m0=(nn)-j/\j<=(nn)/\e 5=.int .i64 (j:Int)/\e 1=.int .i64 (k+j)/\(oq σ [i] gg nx/\∃l':List Int,l'.length=nn/\gg i=some ⟨true,1,l'.map bh⟩):=fun x1 x2 x3=>⟨_,by omega,j+1,rfl,by omega,(by rw[x1,aA (by omega)]),x2,x3⟩
  have iL:j<l'.length:=by omega
  have fc:=Iy iL
  have eE:(l'.map bh).set j [.int .i64 (k+j)]=(l'.set j (k+j)).map bh:=by rw[List.map_set];rfl
  have hw:IntKind.i64.wrap (k+(j:Int)+1)=k+((j:Int)+1):=by rw[bz (by omega)];omega
  (try((repeat(revert hN;revert N;apply Pn.out));refine wk (tw @a5 (tw @a1 (tw @a0 (tw @hj (tw @ag (tw @fc (tw @eE @hw))))))) ?_;(repeat(refine Pn.mk ?_;intro N hN))))
  refine cD ?_ ?_ (by(try dsimp only);exact⟨⟨by(try dsimp only);omega,fun x hx hi=>by
   have h2:=aF x hx hi
   have h3:(x=i)=False:=eq_false fun e=>hi (by simp[e])
   simp only[go_sem, ↓reduceIte,Nat.reduceEqDiff,Nat.reduceAdd,Nat.reduceSub,Nat.reduceLeDiff,reduceCtorEq,h2,h3]⟩,l'.set j (k+j),by simp[al],sl @Nat.zero_add⟩)
  all_goals simp only[go_sem, ↓reduceIte,Nat.reduceEqDiff,Nat.reduceAdd,Nat.reduceSub,Nat.reduceLeDiff,reduceCtorEq,a5,a1,a0,hw]
 ·have iL:j=nn:=by omega
  subst iL
  (try((repeat(revert hN;revert N;apply Pn.out));refine wk (tw @a5 (tw @a1 (tw @a0 @hj))) ?_;(repeat(refine Pn.mk ?_;intro N hN))))
  exact e9 (.inl rfl) (vs:=[.int .i64 (k+j)]) (sd (tw @a5 (tw @a1 @a0))) ⟨rfl,⟨by(try dsimp only);omega,fun x hx hi=>aF x hx hi⟩⟩
def Au (k:Int) (n:Nat):List ad:=(List.range n).map fun j:Nat=>⟨⟨k+3*(j:Int),k+3*(j:Int)+1⟩,k+3*(j:Int)+2⟩
theorem iC (k:Int) (n:Nat):(Au k n).length=n:=by simp[Au]
theorem JJ (k:Int) (n:Nat):Au k (n+1)=Au k n++[⟨⟨k+3*(n:Int),k+3*(n:Int)+1⟩,k+3*(n:Int)+2⟩]:=by simp[Au,List.range_succ]
def jK (k:Int) (l:List ad) (j:Nat):List ad:=Au k j++l.drop j
theorem Ct {k:Int} {l:List ad} {j:Nat} (h:j<=l.length):(jK k l j).length=l.length:=by simp[jK,iC];omega
theorem FO {k:Int} {l:List ad} {j:Nat} (h:j<l.length):((jK k l j).map aa)[j]? =some [.int .i64 l[j].aO.eZ,.int .i64 l[j].aO.eU,.int .i64 l[j].aV]:=by
 rw[List.getElem?_map,jK,List.getElem?_append_right (by rw[iC];omega),iC,Nat.sub_self,List.getElem?_drop,Nat.add_zero,List.getElem?_eq_getElem h];rfl
theorem Cu {k:Int} {l:List ad} {j:Nat} (h:j<l.length):((jK k l j).map aa).set j [.int .i64 (k+3*(j:Int)),.int .i64 (k+3*(j:Int)+1),.int .i64 (k+3*(j:Int)+2)]=(jK k l (j+1)).map aa:=by
 have:(jK k l j).set j ⟨⟨k+3*(j:Int),k+3*(j:Int)+1⟩,k+3*(j:Int)+2⟩=jK k l (j+1):=by
  rw[jK,List.set_append_right _ _ (by rw[iC];omega),iC,Nat.sub_self,List.drop_eq_getElem_cons h,List.set_cons_zero,jK,JJ,List.append_assoc];rfl
 rw[<-this,List.map_set];rfl
theorem Ar (i:Id) (l:List ad) (k:Int) (h0:0<=k) (h1:k+3*l.length<=4611686018427387904) (σ:ar) (hv:i.ck<σ.next) (hg:σ.get i=some ⟨true,3,l.map aa⟩):
  Call Tryz.prog 59 [.own i 0 l.length,.int .i64 k] σ (fun r σ'=>r=.int .i64 (k+3*l.length)/\oq σ [i] σ'.get σ'.next/\σ'.get i=some ⟨true,3,(Au k l.length).map aa⟩):=by
 refine eL dX rfl fun hl=>?_
 clear hl
 have hz:jK k l 0=l:=by simp[jK,Au]
 (try((repeat(revert hN;revert N;apply Pn.out));refine wk @Nat.zero_add ?_;(repeat(refine Pn.mk ?_;intro N hN))))
 refine aU (fun n env st=>∃j:Nat,n=(l.length)-j/\j<=(l.length)/\env 5=.int .i64 (j:Int)/\env 1=.int .i64 (k+3*j)/\st.get i=some ⟨true,3,(jK k l j).map aa⟩/\(oq σ [i] st.get st.next)) (l.length) ⟨0,by omega,by omega,sl (tw @Int.add_zero (tw @Int.natCast_zero (tw @Int.mul_zero (tw @hz @hg)))),sl (tw @Int.add_zero (tw @Int.natCast_zero (tw @Int.mul_zero (tw @hz @hg)))),sl (tw @Int.add_zero (tw @Int.natCast_zero (tw @Int.mul_zero (tw @hz @hg)))),by(try dsimp only);exact⟨by(try dsimp only);omega,fun x _ _=>rfl⟩⟩ ?_
 rintro n_a env_a st_a ⟨j,rfl,ale,a5,a1,ag0,lZ⟩ dC
 have a0:=dC 0 (by kernel_rfl)
 simp only[go_sem, ↓reduceIte,Nat.reduceEqDiff,Nat.reduceAdd,Nat.reduceSub,Nat.reduceLeDiff,reduceCtorEq,Int.add_zero,Int.natCast_zero,Int.mul_zero,hz,hg]at a0
 clear dC
 obtain⟨an,aF⟩:=lZ
 by_cases hj:(j:Int)<(l.length:Int)
 ·have cD:∀{e:Env} {gg:Rows} {nx:Nat},(e 5=.int .i64 (IntKind.i64.wrap ((j:Int)+1)))->(e 1=.int .i64 (k+3*(j+1)))->(gg i=some ⟨true,3,(jK k l (j+1)).map aa⟩)->(oq σ [i] gg nx)->∃m0,m0<(l.length)-j/\∃j:Nat,m0=(l.length)-j/\j<=(l.length)/\e 5=.int .i64 (j:Int)/\e 1=.int .i64 (k+3*j)/\gg i=some ⟨true,3,(jK k l j).map aa⟩/\(oq σ [i] gg nx):=fun x1 x2 x3 x4=>⟨_,by omega,j+1,rfl,by omega,(by rw[x1,aA (by omega)]),x2,x3,x4⟩
  have iL:j<l.length:=by omega
  have fc:=FO (k:=k) iL
  have eE:=Cu (k:=k) iL
  have jq:IntKind.i64.wrap (k+3*(j:Int)+1)=k+3*(j:Int)+1:=bz (by omega)
  have jJ:IntKind.i64.wrap (k+3*(j:Int)+1+1)=k+3*(j:Int)+2:=by rw[bz (by omega)];omega
  have uJ:IntKind.i64.wrap (k+3*(j:Int)+2+1)=k+3*((j:Int)+1):=by rw[bz (by omega)];omega
  have hlen:((jK k l j).map aa).length=l.length:=by rw[List.length_map,Ct (by omega)]
  have I8:∀c:List AV,(((jK k l j).map aa).set j c)[j]? =some c:=fun c=>by rw[List.getElem?_set_self (by rw[hlen];exact iL)]
  (try((repeat(revert hN;revert N;apply Pn.out));refine wk (tw @a5 (tw @a1 (tw @ag0 (tw @a0 (tw @hj (tw @fc (tw @I8 (tw @eE (tw @jq (tw @jJ (tw @uJ (tw @hlen @so)))))))))))) ?_;(repeat(refine Pn.mk ?_;intro N hN))))
  refine cD ?_ ?_ ?_ (by(try dsimp only);exact⟨by(try dsimp only);omega,fun x hx hi=>by
   have h2:=aF x hx hi
   have h3:(x=i)=False:=eq_false fun e=>hi (by simp[e])
   simp only[go_sem, ↓reduceIte,Nat.reduceEqDiff,Nat.reduceAdd,Nat.reduceSub,Nat.reduceLeDiff,reduceCtorEq,h2,h3]⟩)
  all_goals simp only[go_sem, ↓reduceIte,Nat.reduceEqDiff,Nat.reduceAdd,Nat.reduceSub,Nat.reduceLeDiff,reduceCtorEq,a5,a1,ag0,a0,uJ,eE]
 ·have iL:j=l.length:=by omega
  subst iL
  (try((repeat(revert hN;revert N;apply Pn.out));refine wk (tw @a5 (tw @a1 (tw @ag0 (tw @a0 @hj)))) ?_;(repeat(refine Pn.mk ?_;intro N hN))))
  have lu:jK k l l.length=Au k l.length:=by simp[jK]
  rw[lu]at ag0
  exact e9 (.inl rfl) (vs:=[.int .i64 (k+3*l.length)]) (sd (tw @a5 (tw @a1 (tw @ag0 @a0)))) ⟨rfl,⟨by(try dsimp only);omega,fun x hx hi=>aF x hx hi⟩,ag0⟩
theorem Co (i:Id) (l:List fB) (k:Int) (h0:0<=k) (h1:k+2*l.length<=4611686018427387904) (σ:ar) (hv:i.ck<σ.next) (hg:σ.get i=some ⟨true,2,l.map bV⟩):
  Call Tryz.prog 138 [.own i 0 l.length,.int .i64 k] σ (fun r σ'=>r=.int .i64 (k+2*l.length)/\oq σ [i] σ'.get σ'.next):=by
 refine eL dX rfl fun hl=>?_
 clear hl
 obtain⟨nn,hn⟩:∃nn,l.length=nn:=⟨_,rfl⟩
 rw[hn]at h1 ⊢
 (try((repeat(revert hN;revert N;apply Pn.out));refine wk @Nat.zero_add ?_;(repeat(refine Pn.mk ?_;intro N hN))))
 refine aU (fun n env st=>∃j:Nat,n=(nn)-j/\j<=(nn)/\env 5=.int .i64 (j:Int)/\env 1=.int .i64 (k+2*j)/\(oq σ [i] st.get st.next/\∃l':List fB,l'.length=nn/\st.get i=some ⟨true,2,l'.map bV⟩)) (nn) ⟨0,by omega,by omega,sl (tw @Int.add_zero (tw @Int.natCast_zero @Int.mul_zero)),sl (tw @Int.add_zero (tw @Int.natCast_zero @Int.mul_zero)),by(try dsimp only);exact⟨⟨by(try dsimp only);omega,fun x _ _=>rfl⟩,l,hn,hg⟩⟩ ?_
 rintro n_a env_a st_a ⟨j,rfl,ale,a5,a1,lZ⟩ dC
 have a0:=dC 0 (by kernel_rfl)
 simp only[go_sem, ↓reduceIte,Nat.reduceEqDiff,Nat.reduceAdd,Nat.reduceSub,Nat.reduceLeDiff,reduceCtorEq,Int.add_zero,Int.natCast_zero,Int.mul_zero]at a0
 clear dC
 obtain⟨⟨an,aF⟩,l',al,ag⟩:=lZ
 by_cases hj:(j:Int)<(nn:Int)
 ·have cD:∀{e:Env} {gg:Rows} {nx:Nat},(e 5=.int .i64 (IntKind.i64.wrap ((j:Int)+1)))->(e 1=.int .i64 (k+2*(j+1)))->(oq σ [i] gg nx/\∃l':List fB,l'.length=nn/\gg i=some ⟨true,2,l'.map bV⟩)->∃m0,m0<(nn)-j/\∃j:Nat,m0=(nn)-j/\j<=(nn)/\e 5=.int .i64 (j:Int)/\e 1=.int .i64 (k+2*j)/\(oq σ [i] gg nx/\∃l':List fB,l'.length=nn/\gg i=some ⟨true,2,l'.map bV⟩):=fun x1 x2 x3=>⟨_,by omega,j+1,rfl,by omega,(by rw[x1,aA (by omega)]),x2,x3⟩
  have iL:j<l'.length:=by omega
  have fc:(l'.map bV)[j]? =some [.str l'[j].aE,.int .i64 l'[j].eB]:=by simp[iL,bV]
  have hlen:(l'.map bV).length=nn:=by rw[List.length_map,al]
  have I8:∀c:List AV,((l'.map bV).set j c)[j]? =some c:=fun c=>by rw[List.getElem?_set_self (by rw[List.length_map];exact iL)]
  have ht:=wV (k+2*(j:Int)) (by omega) (by omega)
  have jq:IntKind.i64.wrap (k+2*(j:Int)+1)=k+2*(j:Int)+1:=bz (by omega)
  have jJ:IntKind.i64.wrap (k+2*(j:Int)+1+1)=k+2*((j:Int)+1):=by rw[bz (by omega)];omega
  generalize oZ (k+2*(j:Int))=mt at ht
  have eE:(l'.map bV).set j [.str mt,.int .i64 (k+2*(j:Int)+1)]=(l'.set j ⟨mt,k+2*(j:Int)+1⟩).map bV:=by rw[List.map_set];rfl
  (repeat(first|((repeat(revert hN;revert N;apply Pn.out));refine wk (tw @a5 (tw @a1 (tw @a0 (tw @hj (tw @ag (tw @fc (tw @I8 (tw @eE (tw @jq (tw @jJ (tw @hlen @so))))))))))) ?_;(repeat(refine Pn.mk ?_;intro N hN)))|((try apply Or.inl);refine⟨_,aq.x (ht) (sd (tw @a5 (tw @a1 (tw @a0 (tw @hj (tw @ag (tw @fc (tw @I8 (tw @eE (tw @jq (tw @jJ (tw @hlen @so)))))))))))),?_⟩;refine hN _ _ ?_;clear hN N)))
  refine cD ?_ ?_ (by(try dsimp only);exact⟨⟨by(try dsimp only);omega,fun x hx hi=>by
   have h2:=aF x hx hi
   have h3:(x=i)=False:=eq_false fun e=>hi (by simp[e])
   simp only[go_sem, ↓reduceIte,Nat.reduceEqDiff,Nat.reduceAdd,Nat.reduceSub,Nat.reduceLeDiff,reduceCtorEq,h2,h3]⟩,l'.set j ⟨mt,k+2*(j:Int)+1⟩,by simp[al],sl @Nat.zero_add⟩)
  all_goals simp only[go_sem, ↓reduceIte,Nat.reduceEqDiff,Nat.reduceAdd,Nat.reduceSub,Nat.reduceLeDiff,reduceCtorEq,a5,a1,a0,jJ,eE]
 ·have iL:j=nn:=by omega
  subst iL
  (try((repeat(revert hN;revert N;apply Pn.out));refine wk (tw @a5 (tw @a1 (tw @a0 @hj))) ?_;(repeat(refine Pn.mk ?_;intro N hN))))
  exact e9 (.inl rfl) (vs:=[.int .i64 (k+2*j)]) (sd (tw @a5 (tw @a1 @a0))) ⟨rfl,⟨by(try dsimp only);omega,fun x hx hi=>aF x hx hi⟩⟩
theorem iG.flat {α:Type} {e:α->List AV} {z:Nat} {g:Rows} {a:AV} {xs:List α} {ids:List Id} (h:iG (lE e) z g a xs ids):∃o,a=.own o 0 xs.length/\g o=some ⟨true,z,xs.map e⟩/\ids=[o]:=by
 obtain⟨o,rows,is,h1,h2,h3,rfl⟩:=h
 have:∀{rows:List (List AV)} {xs:List α} {is:List Id},eI (lE e) g rows xs is->rows=xs.map e/\is=[]:=fun h=>by
  induction h with
  |nil=>exact⟨rfl,rfl⟩
  |cons h1 _ ih=>obtain⟨rfl,rfl⟩:=h1;obtain⟨rfl,rfl⟩:=ih;exact⟨rfl,rfl⟩
 obtain⟨rfl,rfl⟩:=this h3
 exact⟨o,h1,h2,rfl⟩
def gJ (t:eT):Nat:=1+t.bx.length
theorem Cp (a:AV) (l:List eT) (ids:List Id) (k:Int) (h0:0<=k) (LP:l.length<=1048576) (h1:k+(l.map gJ).sum<=4611686018427387904) (σ:ar) (hv:∀i∈ids,i.ck<σ.next) (mz:ids.Nodup) (hg:iG oF 2 σ.get a l ids):
  Call Tryz.prog 139 [a,.int .i64 k] σ (fun r σ'=>r=.int .i64 (k+(l.map gJ).sum)/\oq σ ids σ'.get σ'.next):=by
 obtain⟨o,rows,is,rfl,ho,hR,rfl⟩:=hg
 refine eL dX rfl fun hl=>?_
 clear hl
 have vk:=hv o (by simp)
 have DW:=mN gJ l
 (try((repeat(revert hN;revert N;apply Pn.out));refine wk @Nat.zero_add ?_;(repeat(refine Pn.mk ?_;intro N hN))))
 refine aU (fun n env st=>∃j:Nat,n=(l.length)-j/\j<=(l.length)/\env 5=.int .i64 (j:Int)/\env 1=.int .i64 (k+iJ gJ l j)/\(oq σ (o::is) st.get st.next/\∃pre rest ir,st.get o=some ⟨true,2,pre++rest⟩/\pre.length=j/\eI oF st.get rest (l.drop j) ir/\(o::ir).Nodup/\∀i∈ir,i∈is)) (l.length) ⟨0,by omega,by omega,sl (tw @Int.add_zero (tw @Int.natCast_zero @DW)),sl (tw @Int.add_zero (tw @Int.natCast_zero @DW)),by(try dsimp only);exact⟨⟨by(try dsimp only);omega,fun x _ _=>rfl⟩,[],rows,is,ho,rfl,hR,mz,fun _ h=>h⟩⟩ ?_
 rintro n_a env_a st_a ⟨j,rfl,ale,a5,a1,lZ⟩ dC
 have a0:=dC 0 (by kernel_rfl)
 simp only[go_sem, ↓reduceIte,Nat.reduceEqDiff,Nat.reduceAdd,Nat.reduceSub,Nat.reduceLeDiff,reduceCtorEq,Int.add_zero,Int.natCast_zero,DW]at a0
 clear dC
 obtain⟨⟨an,aF⟩,pre,rest,ir,ag,apl,aR,aN,aS⟩:=lZ
 by_cases hj:(j:Int)<(l.length:Int)
 ·have cD:∀{e:Env} {gg:Rows} {nx:Nat},(e 5=.int .i64 (IntKind.i64.wrap ((j:Int)+1)))->(e 1=.int .i64 (k+iJ gJ l (j+1)))->(oq σ (o::is) gg nx/\∃pre rest ir,gg o=some ⟨true,2,pre++rest⟩/\pre.length=(j+1)/\eI oF gg rest (l.drop (j+1)) ir/\(o::ir).Nodup/\∀i∈ir,i∈is)->∃m0,m0<(l.length)-j/\∃j:Nat,m0=(l.length)-j/\j<=(l.length)/\e 5=.int .i64 (j:Int)/\e 1=.int .i64 (k+iJ gJ l j)/\(oq σ (o::is) gg nx/\∃pre rest ir,gg o=some ⟨true,2,pre++rest⟩/\pre.length=j/\eI oF gg rest (l.drop j) ir/\(o::ir).Nodup/\∀i∈ir,i∈is):=fun x1 x2 x3=>⟨_,by omega,j+1,rfl,by omega,(by rw[x1,aA (by omega)]),x2,x3⟩
  have iL:j<l.length:=by omega
  have O6:=xu gJ iL
  have hle:=qq gJ l (j+1)
  obtain⟨t,htj⟩:∃t,l[j]=t:=⟨_,rfl⟩
  rw[List.drop_eq_getElem_cons iL,htj]at aR
  rw[htj]at O6
  cases aR with
  | @cons cs _ ic rs _ i2 hT Q3=>
  obtain⟨i,rfl,hi,rfl⟩:=hT
  rw[List.singleton_append]at aN aS
  obtain⟨n1,n2⟩:=List.nodup_cons.1 aN
  obtain⟨n3,n4⟩:=List.nodup_cons.1 n2
  have Qo:(o=i)=False:=eq_false fun e=>n1 (by simp[e])
  have Qj:(i=o)=False:=eq_false fun e=>n1 (by simp[e])
  have hiv:i.ck<σ.next:=hv i (by simp[aS i (by simp)])
  have Rw:gJ t=1+t.bx.length:=rfl
  have ht:=wV (k+(iJ gJ l j:Nat)) (by omega) (by omega)
  have jq:IntKind.i64.wrap (k+(iJ gJ l j:Nat)+1)=k+(iJ gJ l j:Nat)+1:=bz (by omega)
  generalize oZ (k+(iJ gJ l j:Nat))=mt at ht
  have fc:(pre++[.str t.aE,.own i 0 t.bx.length]::rs)[j]? =some [.str t.aE,.own i 0 t.bx.length]:=by subst apl;simp
  have eE:(pre++[.str t.aE,.own i 0 t.bx.length]::rs).set j [.str mt,.own i 0 t.bx.length]=pre++[.str mt,.own i 0 t.bx.length]::rs:=by subst apl;simp
  have Nd:(pre++[.str mt,.own i 0 t.bx.length]::rs)[j]? =some [.str mt,.own i 0 t.bx.length]:=by subst apl;simp
  (repeat(first|((repeat(revert hN;revert N;apply Pn.out));refine wk (tw @a5 (tw @a1 (tw @a0 (tw @hj (tw @ag (tw @fc (tw @eE (tw @Nd (tw @jq (tw @Qo (tw @Qj @hi))))))))))) ?_;(repeat(refine Pn.mk ?_;intro N hN)))|((try apply Or.inl);refine⟨_,aq.x (ht) (sd (tw @a5 (tw @a1 (tw @a0 (tw @hj (tw @ag (tw @fc (tw @eE (tw @Nd (tw @jq (tw @Qo (tw @Qj @hi)))))))))))),?_⟩;refine hN _ _ ?_;clear hN N)))
  refine .inr (aC _ _ _ _ _ (fun r σ1 hq=>?_) (Ee i t.bx (k+(iJ gJ l j:Nat)+1) (by omega) (by omega) _ (by(try dsimp only);omega) (sd (tw @Qo (tw @Qj @hi)))))
  obtain⟨g1,x1⟩:=σ1
  obtain⟨rfl,K6,uH⟩:=hq
  (try dsimp only at K6 uH)
  refine hN _ _ ?_
  clear hN N
  have UT:k+(iJ gJ l j:Nat)+1+t.bx.length=k+(iJ gJ l (j+1):Nat):=by omega
  (try((repeat(revert hN;revert N;apply Pn.out));refine wk (tw @a5 (tw @a1 (tw @a0 @UT))) ?_;(repeat(refine Pn.mk ?_;intro N hN))))
  have gk:∀x:Id,x.ck<σ.next->x≠o->x≠i->g1 x=st_a.get x:=fun x hx h3 h4=>by
   have h2:=uH x (by(try dsimp only);omega) (by simp[h4])
   have h5:=eq_false h3
   simp only[go_sem, ↓reduceIte,Nat.reduceEqDiff,Nat.reduceAdd,Nat.reduceSub,Nat.reduceLeDiff,reduceCtorEq,h5]at h2
   exact h2
  have go:=uH o (by(try dsimp only);omega) (by simp only[List.mem_singleton];exact fun e=>n1 (by simp[e]))
  simp only[go_sem, ↓reduceIte,Nat.reduceEqDiff,Nat.reduceAdd,Nat.reduceSub,Nat.reduceLeDiff,reduceCtorEq]at go
  refine cD ?_ ?_ (by(try dsimp only);exact⟨⟨by(try dsimp only);omega,fun x hx hi=>by
   have h3:x≠o:=fun e=>hi (by simp[e])
   have h4:x≠i:=fun e=>hi (by simp[e,aS i (by simp)])
   rw[gk x hx h3 h4]
   exact aF x hx hi⟩,pre++[[.str mt,.own i 0 t.bx.length]],rs,i2,by rw[go];simp,by simp[apl],Q3.frame rh (fun x hx=>gk x (hv x (by simp[aS x (by simp[hx])])) (fun e=>n1 (by simp[<-e,hx])) (fun e=>n3 (by rw[<-e];exact hx))),List.nodup_cons.2 ⟨fun h=>n1 (by simp[h]),n4⟩,fun x hx=>aS x (by simp[hx])⟩)
  all_goals simp only[go_sem, ↓reduceIte,Nat.reduceEqDiff,Nat.reduceAdd,Nat.reduceSub,Nat.reduceLeDiff,reduceCtorEq,a5,a1,a0,UT]
 ·have iL:j=l.length:=by omega
  subst iL
  have dD:=CO gJ l
  rw[dD]at a1
  (try((repeat(revert hN;revert N;apply Pn.out));refine wk (tw @a5 (tw @a1 (tw @a0 @hj))) ?_;(repeat(refine Pn.mk ?_;intro N hN))))
  exact e9 (.inl rfl) (vs:=[.int .i64 (k+(l.map gJ).sum)]) (sd (tw @a5 (tw @a1 @a0))) ⟨rfl,⟨by(try dsimp only);omega,fun x hx hi=>aF x hx hi⟩⟩
theorem y9 (v:AV) (p:dP) (ids:List Id) (k:Int) (h0:0<=k) (h1:k+3*p.ah.length<=4611686018427387904) (σ:ar) (hv:∀i∈ids,i.ck<σ.next) (hg:xN σ.get v p ids):
  Call Tryz.prog 25 [v,.int .i64 k] σ (fun r σ'=>r=.int .i64 (k+3*p.ah.length)/\oq σ ids σ'.get σ'.next):=by
 obtain⟨c,rfl,hc⟩:=hg
 obtain⟨o,rfl,ho,rfl⟩:=hc.flat
 refine eL dX rfl fun hl=>?_
 clear hl
 have vk:=dr (hv o (by simp))
 have LU:=hv o (by simp)
 (try((repeat(revert hN;revert N;apply Pn.out));refine wk @Nat.zero_add ?_;(repeat(refine Pn.mk ?_;intro N hN))))
 refine .inr (aC _ _ _ _ _ (fun r σ1 hq=>?_) (Ar o p.ah k h0 h1 _ (by(try dsimp only);omega) (sd (tw @vk @ho))))
 obtain⟨g1,x1⟩:=σ1
 obtain⟨rfl,⟨K6,uH⟩,_⟩:=hq
 (try dsimp only at K6 uH)
 refine hN _ _ ?_
 clear hN N
 (try((repeat(revert hN;revert N;apply Pn.out));refine wk @Nat.zero_add ?_;(repeat(refine Pn.mk ?_;intro N hN))))
 exact e9 (.inl rfl) (vs:=[.int .i64 (k+3*p.ah.length)]) (sd @Nat.zero_add) ⟨rfl,⟨by(try dsimp only);omega,fun x hx hi=>by
  have h2:=uH x (by(try dsimp only);omega) hi
  have h3:=dr hx
  simp only[go_sem, ↓reduceIte,Nat.reduceEqDiff,Nat.reduceAdd,Nat.reduceSub,Nat.reduceLeDiff,reduceCtorEq,h3]at h2
  exact h2⟩⟩
def Cn (s:az):Nat:=2*s.aH.ax.length+(s.aH.ah.map gJ).sum+3*s.aZ.ah.length
theorem G7 (a b:AV) (p:aw) (i1 i2:List Id) (k:Int) (h0:0<=k) (LP:p.ah.length<=1048576) (h1:k+2*p.ax.length+(p.ah.map gJ).sum<=4611686018427387904) (σ:ar) (hv:∀i∈i1++i2,i.ck<σ.next) (mz:(i1++i2).Nodup)
  (hA:iG (lE bV) 2 σ.get a p.ax i1) (hB:iG oF 2 σ.get b p.ah i2):
  Call Tryz.prog 67 [.agg [a,b],.int .i64 k] σ (fun r σ'=>r=.int .i64 (k+2*p.ax.length+(p.ah.map gJ).sum)/\oq σ (i1++i2) σ'.get σ'.next):=by
 obtain⟨_,n2,n3⟩:=List.nodup_append.1 mz
 obtain⟨o,rfl,ho,rfl⟩:=hA.flat
 obtain⟨ob,rfl⟩:=hB.kY
 refine eL dX rfl fun hl=>?_
 clear hl
 have LU:=hv o (by simp)
 have vk:=dr LU
 (try((repeat(revert hN;revert N;apply Pn.out));refine wk @Nat.zero_add ?_;(repeat(refine Pn.mk ?_;intro N hN))))
 refine .inr (aC _ _ _ _ _ (fun r σ1 hq=>?_) (Co o p.ax k h0 (by omega) _ (by(try dsimp only);omega) (sd (tw @vk @ho))))
 obtain⟨g1,x1⟩:=σ1
 obtain⟨rfl,K6,uH⟩:=hq
 (try dsimp only at K6 uH)
 refine hN _ _ ?_
 clear hN N
 have k1:=uH ⟨67000000,σ.next⟩ (by(try dsimp only);omega) (by simp only[List.mem_singleton];intro e;rw[<-e]at LU;(try dsimp only at LU);omega)
 simp only[go_sem, ↓reduceIte,Nat.reduceEqDiff,Nat.reduceAdd,Nat.reduceSub,Nat.reduceLeDiff,reduceCtorEq]at k1
 (try((repeat(revert hN;revert N;apply Pn.out));refine wk @k1 ?_;(repeat(refine Pn.mk ?_;intro N hN))))
 have hf:∀x:Id,x.ck<σ.next->x≠o->g1 x=σ.get x:=fun x hx ho=>by
  have h2:=uH x (by(try dsimp only);omega) (by simp[ho])
  have h3:=dr hx
  simp only[go_sem, ↓reduceIte,Nat.reduceEqDiff,Nat.reduceAdd,Nat.reduceSub,Nat.reduceLeDiff,reduceCtorEq,h3]at h2
  exact h2
 refine .inr (aC _ _ _ _ _ (fun r σ2 hq=>?_) (Cp _ p.ah i2 (k+2*p.ax.length) (by omega) LP h1 _ (fun i hi=>by have:=hv i (by simp[hi]);(try dsimp only);omega) n2 (hB.frame rh fun i hi=>hf i (hv i (by simp[hi])) fun e=>n3 o (by simp) i hi e.symm)))
 obtain⟨g2,x2⟩:=σ2
 obtain⟨rfl,OZ,DU⟩:=hq
 (try dsimp only at OZ DU)
 refine hN _ _ ?_
 clear hN N
 (try((repeat(revert hN;revert N;apply Pn.out));refine wk @Nat.zero_add ?_;(repeat(refine Pn.mk ?_;intro N hN))))
 exact e9 (.inl rfl) (vs:=[.int .i64 (k+2*p.ax.length+(p.ah.map gJ).sum)]) (sd @Nat.zero_add) ⟨rfl,⟨by(try dsimp only);omega,fun x hx hi=>(DU x (by(try dsimp only);omega) fun h=>hi (by simp[h])).trans (hf x hx fun e=>hi (by simp[e]))⟩⟩
theorem G8 (v:AV) (p:az) (ids:List Id) (k:Int) (h0:0<=k) (LP:p.aH.ah.length<=1048576) (h1:k+Cn p<=4611686018427387904) (σ:ar) (hv:∀i∈ids,i.ck<σ.next) (mz:ids.Nodup) (hg:zG σ.get v p ids):
  Call Tryz.prog 23 [v,.int .i64 k] σ (fun r σ'=>r=.int .i64 (k+Cn p)/\oq σ ids σ'.get σ'.next):=by
 obtain⟨a,b,c,i1,i2,i3,rfl,hA,hB,hC,rfl⟩:=hg.ex
 rw[<-List.append_assoc]at mz
 obtain⟨n1,_,n3⟩:=List.nodup_append.1 mz
 obtain⟨oa,rfl⟩:=hA.kY
 obtain⟨ob,rfl⟩:=hB.kY
 obtain⟨oc,rfl⟩:=hC.kY
 have hm:(Cn p:Int)=2*p.aH.ax.length+(p.aH.ah.map gJ).sum+3*p.aZ.ah.length:=by simp[Cn]
 refine eL dX rfl fun hl=>?_
 clear hl
 have T7:∀x∈i1++(i2++i3),bt σ.get ⟨23000000,σ.next⟩ ⟨true,4,[[.own oa 0 p.aH.ax.length,.own ob 0 p.aH.ah.length,.own oc 0 p.aZ.ah.length,.int .i64 p.aB]]⟩ x=σ.get x:=fun x hx=>by
  have:=dr (hv x hx)
  simp only[go_sem, ↓reduceIte,Nat.reduceEqDiff,Nat.reduceAdd,Nat.reduceSub,Nat.reduceLeDiff,reduceCtorEq,this]
 (try((repeat(revert hN;revert N;apply Pn.out));refine wk @Nat.zero_add ?_;(repeat(refine Pn.mk ?_;intro N hN))))
 refine .inr (aC _ _ _ _ _ (fun r σ1 hq=>?_) (G7 _ _ p.aH i1 i2 k h0 LP (by omega) _ (fun i hi=>by have:=hv i (by rcases List.mem_append.1 hi with h|h<;>simp[h]);(try dsimp only);omega) n1 (hA.frame BL fun i hi=>T7 i (by simp[hi])) (hB.frame rh fun i hi=>T7 i (by simp[hi]))))
 obtain⟨g1,x1⟩:=σ1
 obtain⟨rfl,K6,uH⟩:=hq
 (try dsimp only at K6 uH)
 refine hN _ _ ?_
 clear hN N
 have k1:=uH ⟨23000000,σ.next⟩ (by(try dsimp only);omega) (fun h=>by
  have:=hv ⟨23000000,σ.next⟩ (by rcases List.mem_append.1 h with h|h<;>simp[h])
  (try dsimp only at this);omega)
 simp only[go_sem, ↓reduceIte,Nat.reduceEqDiff,Nat.reduceAdd,Nat.reduceSub,Nat.reduceLeDiff,reduceCtorEq]at k1
 (try((repeat(revert hN;revert N;apply Pn.out));refine wk @k1 ?_;(repeat(refine Pn.mk ?_;intro N hN))))
 refine .inr (aC _ _ _ _ _ (fun r σ2 hq=>?_) (y9 _ p.aZ i3 (k+2*p.aH.ax.length+(p.aH.ah.map gJ).sum) (by omega) (by omega) _ (fun i hi=>by have:=hv i (by simp[hi]);(try dsimp only);omega) ⟨_,rfl,hC.frame yH fun i hi=>?_⟩))
 rotate_left
 ·exact(uH i (by have:=hv i (by simp[hi]);(try dsimp only);omega) fun h=>n3 i h i hi rfl).trans (T7 i (by simp[hi]))
 obtain⟨g2,x2⟩:=σ2
 obtain⟨rfl,OZ,DU⟩:=hq
 (try dsimp only at OZ DU)
 refine hN _ _ ?_
 clear hN N
 (try((repeat(revert hN;revert N;apply Pn.out));refine wk @Nat.zero_add ?_;(repeat(refine Pn.mk ?_;intro N hN))))
 exact e9 (.inl rfl) (vs:=[.int .i64 (k+2*p.aH.ax.length+(p.aH.ah.map gJ).sum+3*p.aZ.ah.length)]) (sd @Nat.zero_add) ⟨by rw[hm];exact congrArg (AV.int .i64) (by omega),⟨by(try dsimp only);omega,fun x hx hi=>by
  have h2:=DU x (by(try dsimp only);omega) fun h=>hi (by simp[h])
  have h3:=uH x (by(try dsimp only);omega) fun h=>hi (by rcases List.mem_append.1 h with h|h<;>simp[h])
  have h4:=dr hx
  simp only[go_sem, ↓reduceIte,Nat.reduceEqDiff,Nat.reduceAdd,Nat.reduceSub,Nat.reduceLeDiff,reduceCtorEq,h4]at h3
  exact h2.trans h3⟩⟩
end Go.Proofs.YtgoljkjaameagaaGreat.V

namespace Go.Proofs.YtgoljkjaameagaaGreat.V
open Go.RowKit
def AV.clean:AV->Bool
 | .int .. | .bool _| .str _| .bl| .gT| .jd| .jo| .own .. | .ptr .. | .map .. | .rL _=>true
 | .sl l=>l.isEmpty
 |_=>false
def AV.zQ:AV->Bool
 | .agg cs=>cs.all AV.clean
 | .gD cs=>cs.all fun a=>match a with
  | .agg cs=>cs.all AV.clean
  |a=>a.clean
 |a=>a.clean
def zu (ids:List Id) (g g':Rows):Rows:=fun id=>if id∈ids then g' id else g id
theorem pq {ids:List Id} {g g':Rows} {id:Id} (h:id∈ids):zu ids g g' id=g' id:=if_pos h
theorem mQ {ids:List Id} {g g':Rows} {id:Id} (h:id∉ids):zu ids g g' id=g id:=if_neg h
section
variable {P:Program} {w w':World} {D D' D1 D2:Nat->Prop} {ι ι1 ι2:Names}
theorem jZ {a:AV} {v:Value} (hp:a.clean=true) (h:cI P w D1 ι1 a v):cI P w D2 ι1 a v:=by
 cases h with
 |eO a v h=>
  cases h with
  |int=>exact .eO _ _ (.int _ _)
  |bool=>exact .eO _ _ (.bool _)
  |str=>exact .eO _ _ (.str _)
  |bl=>exact .eO _ _ .bl
  |gT=>exact .eO _ _ .gT
  |jd=>exact .eO _ _ .jd
  |jo=>exact .eO _ _ .jo
  |Bg a c h=>exact .eO _ _ (.Bg a c h)
  |sl rows b o n c sz vs h1 h2 h3=>
   have:rows=[]:=by simpa[AV.clean]using hp
   subst this
   simp only[List.length_nil]at h1
   subst h1
   exact .eO _ _ (.Bg _ _ h3)
  |di=>simp[AV.clean]at hp
  |agg=>simp[AV.clean]at hp
  |fn=>simp[AV.clean]at hp
 |own id off len o cap B h1 h2 h3 h4 h5 h6=>exact .own id off len o cap B h1 h2 h3 h4 h5 h6
 |map id m B h1 h2=>exact .map id m B h1 h2
 |rL id c B h1 h2=>exact .rL id c B h1 h2
 |ptr id i off B h1 h2=>exact .ptr id i off B h1 h2
 |agg=>simp[AV.clean]at hp
 |gD=>simp[AV.clean]at hp
 |fn=>simp[AV.clean]at hp
 |uj=>simp[AV.clean]at hp
theorem l7 {cs:List AV} {v:Value} (hc:cs.all AV.clean=true) (h:cI P w D1 ι1 (.agg cs) v):cI P w D2 ι1 (.agg cs) v:=by
 obtain⟨vs,f,rfl,h1,h2,h3,h4⟩:=iR h
 rw[List.all_eq_true]at hc
 exact .agg cs vs f h1 h2 h3 fun j a ha=>jZ (hc a (List.mem_of_getElem? ha)) (h4 j a ha)
theorem Et {a:AV} {v:Value} (hp:a.zQ=true) (h:cI P w D1 ι1 a v):cI P w D2 ι1 a v:=by
 cases a with
 |agg cs=>exact l7 hp h
 |gD cs=>
  obtain⟨vs,f,rfl,h1,h3,h4⟩:=vz h
  simp only[AV.zQ,List.all_eq_true]at hp
  refine .gD cs vs f h1 h3 fun j a ha=>?_
  have:=hp a (List.mem_of_getElem? ha)
  split at this
  ·exact l7 this (h4 j _ ha)
  ·exact jZ this (h4 j _ ha)
 |_=>exact jZ hp h
theorem Eo {ag:Bool} {n:Nat} {cs:List AV} {x:AV} {v:Value} (hc:∀a∈cs,a.clean=true) (hp:part ag n cs=some x) (hr:cI P w D1 ι1 x v):cI P w D2 ι1 x v:=by
 unfold part at hp
 split at hp
 ·split at hp
  ·simp only[Option.some.injEq]at hp;subst hp
   exact l7 (List.all_eq_true.2 fun a ha=>hc a (List.mem_of_mem_take ha)) hr
  ·cases hp
 ·exact jZ (hc x (List.mem_of_mem_head? hp)) hr
theorem gO.clean {B:sL} {r:Row} (R:gO P w D1 ι1 B r) (h:∀cs∈r.rows,∀a∈cs,a.clean=true):gO P w D2 ι1 B r:=
 ⟨R.sz,R.flat,fun hk=>⟨R.sz,(R.row hk).xR,(R.row hk).fits,(R.row hk).len,R.flat,fun i j cs a hi hj=>by
  obtain⟨v,q1,q2⟩:=(R.row hk).at_ i j cs a hi hj
  exact⟨v,q1,jZ (h cs (List.mem_of_getElem? hi) a (List.mem_of_getElem? hj)) q2⟩⟩,fun m hm=>by
  obtain⟨h1,es,c,h2,h3,h5,h4⟩:=R.map m hm
  refine⟨h1,es,c,h2,h3,h5,fun i cs hi=>?_⟩
  obtain⟨e,kv,vv,q1,q2,q3,q4,q5⟩:=h4 i cs hi
  have hc:=h cs (List.mem_of_getElem? hi)
  exact⟨e,kv,vv,q1,q2,q3,Eo hc q2 q4,jZ (hc vv (List.mem_of_getElem? q3)) q5⟩,fun c hc=>by
  obtain⟨h1,buf,s,q,h2,h3,h4⟩:=R.chan c hc
  refine⟨h1,buf,s,q,h2,h3,fun i cs hi=>?_⟩
  obtain⟨a,u,rfl,q2,q3⟩:=h4 i cs hi
  exact⟨a,u,rfl,q2,jZ (h [a] (List.mem_of_getElem? hi) a (by simp)) q3⟩⟩
def Handed (ids:List Id) (g:Rows):Prop:=∀id∈ids,∃r,g id=some r/\r.w=true/\∀cs∈r.rows,∀a∈cs,a.clean=true
theorem HH {f:Nat} {args eu:List AV} {g:Rows} {n:Nat} {K:AV->ar->Prop} (hv:cJ (dJ g) 6 args=some eu)
  (h:Sound P f eu ⟨fun _=>none,n⟩ fun r σ'=>∃ids,r.zQ=true/\Handed ids σ'.get/\K r ⟨zu ids g σ'.get,σ'.next⟩):Sound P f args ⟨g,n⟩ K:=by
 intro hs D ι w vs S U A
 let E:Nat->Prop:=fun b=>D b∨∃id r B,g id=some r/\ι id=some B/\b=B.b
 have lt:∀id r B,g id=some r->ι id=some B->B.b<w.heap.size:=fun id r B h1 h2=>by
  obtain⟨B',dz,R,_⟩:=S.row id r h1
  rw[h2]at dz;injection dz with dz;subst dz
  exact R.lt
 have S0:gz P w.heap.size E ι (fun _=>none) w:=⟨Nat.le_refl _,fun b hb=>by
  rcases hb with hb|⟨id,r,B,h1,h2,rfl⟩
  ·exact S.dead b hb
  ·exact lt id r B h1 h2,fun id r h=>(by cases h),fun id j6 r r' B B' h=>(by cases h)⟩
 obtain⟨l1,l2⟩:=gI hv
 have A':fm P w E ι eu vs:=⟨by rw[A.1,l1],fun j a hj=>by
  obtain⟨a0,lq,hz⟩:=l2 j a hj
  obtain⟨u,hu,hr⟩:=A.2 j a0 lq
  refine⟨u,hu,(rQ (D2:=E) (ι2:=ι) (fun b h=>.inl h) (fun id row hg hw=>?_) 6 a0 u a hr hz).1⟩
  unfold dJ at hg
  simp only[Option.map_eq_some_iff]at hg
  obtain⟨r,om,rfl⟩:=hg
  obtain⟨B,hB,R,_,_⟩:=S.row id r om
  exact⟨B,hB,R.flag true,.inr ⟨id,r,B,om,hB,rfl⟩⟩⟩
 refine(h w.heap.size E ι w vs S0 U A').mono ?_
 rintro e w' ⟨r0,g',n',D2,ι1,u,rfl,⟨ids,nq,hid,hK⟩,T,S1,U1,hn,hR⟩
 have hb:∀b,b<w.heap.size->w'.heap[b]? =w.heap[b]? :=T.below.block
 have hz:=T.below.size
 have frame:∀{a v},cI P w D ι a v->cI P w' D ι1 a v:=fun h=>h.frame (fun b hd=>hb b (S.dead b hd)) (fun _ h=>h) T.names
 refine⟨r0,_,n',D,ι1,u,rfl,hK,⟨T.below.mono S.lo,fun b hd=>hb b (S.dead b hd),fun _ h=>h,T.names,fun _ h=>.inl h⟩,⟨Nat.le_trans S.lo hz,fun b hd=>Nat.lt_of_lt_of_le (S.dead b hd) hz,fun id r hr=>?_,fun R0 id2 r1 r2 B1 B2 h1 h2 hw Bb qc Nb=>?_⟩,U1,hn,Et nq hR⟩
 ·by_cases hi:id∈ids
  ·rw[pq hi]at hr
   obtain⟨r',om,hw,hcr⟩:=hid id hi
   rw[hr]at om;injection om with om;subst om
   obtain⟨B,hB,R,k1,k2⟩:=S1.row id r hr
   have kq:=k1 hw
   exact⟨B,hB,R.clean hcr,fun _=>Nat.le_trans S.lo kq,fun _ hd=>Nat.lt_irrefl _ (Nat.lt_of_lt_of_le (S.dead _ hd) kq)⟩
  ·rw[mQ hi]at hr
   obtain⟨B,hB,R,k1,k2⟩:=S.row id r hr
   have SM:=lt id r B hr hB
   exact⟨B,T.names _ _ hB,R.frame (hb _ SM) fun a v h=>frame h,k1,k2⟩
 ·have new:∀{id r B},id∈ids->zu ids g g' id=some r->ι1 id=some B->w.heap.size<=B.b/\g' id=some r/\r.w=true:=fun {id r B} hi hr hB=>by
   rw[pq hi]at hr
   obtain⟨r',om,hw,_⟩:=hid id hi
   replace om:g' id=some r':=om
   rw[hr]at om;injection om with om;subst om
   obtain⟨B',dz,_,k1,_⟩:=S1.row id r hr
   rw[hB]at dz;injection dz with dz;subst dz
   exact⟨k1 hw,hr,hw⟩
  have zf:∀{id r B},id∉ids->zu ids g g' id=some r->ι1 id=some B->B.b<w.heap.size/\g id=some r/\ι id=some B:=fun {id r B} hi hr hB=>by
   rw[mQ hi]at hr
   obtain⟨B',dz,_⟩:=S.row id r hr
   have:=T.names _ _ dz
   rw[hB]at this;injection this with this;subst this
   exact⟨lt id r _ hr dz,hr,dz⟩
  by_cases i1:R0∈ids
  ·obtain⟨a1,a2,a3⟩:=new i1 h1 Bb
   by_cases i2:id2∈ids
   ·obtain⟨b1,b2,b3⟩:=new i2 h2 qc
    exact S1.inj R0 id2 r1 r2 B1 B2 a2 b2 hw Bb qc Nb
   ·obtain⟨b1,_⟩:=zf i2 h2 qc
    omega
  ·obtain⟨a1,a2,a3⟩:=zf i1 h1 Bb
   by_cases i2:id2∈ids
   ·obtain⟨b1,_⟩:=new i2 h2 qc
    omega
   ·obtain⟨b1,b2,b3⟩:=zf i2 h2 qc
    exact S.inj R0 id2 r1 r2 B1 B2 a2 b2 hw a3 b3 Nb
theorem vK (hm:P.follows .mixedOrders=true) {f:Nat} {args eu:List AV} {σ:ar} {K:AV->ar->Prop} (hv:cJ (dJ σ.get) 6 args=some eu)
  (h:Call P f eu ⟨fun _=>none,σ.next⟩ fun r σ'=>∃ids,r.zQ=true/\Handed ids σ'.get/\K r ⟨zu ids σ.get σ'.get,σ'.next⟩):Call P f args σ K:=
 gP (HH hv (gr hm h))
end
inductive ou:List AV->List AV->Prop
 |nil:ou [] []
 |same (a) {l l'}:ou l l'->ou (a::l) (a::l')
 |ptr (cs rest) {l l'}:ou l l'->ou (.di (cs++rest)::l) (.di cs::l')
 |bl {l l'}:ou l l'->ou (.bl::l) (.sl []::l')
theorem MB {P:Program} {w:World} {D:Nat->Prop} {ι:Names} {cs rest:List AV} {v:Value} (h:cI P w D ι (.di (cs++rest)) v):cI P w D ι (.di cs) v:=by
 obtain⟨b,o,vs,rfl,h1,h2,h3,h4⟩:=lf h
 exact .eO _ _ (.di cs b o vs h1 (fun a ha=>h2 a (List.mem_append_left _ ha)) (fun j hj=>h3 j (by rw[List.length_append];omega)) fun j a ha=>h4 j a (by
  have:=(List.getElem?_eq_some_iff.1 ha).1
  rw[List.getElem?_append_left this];exact ha))
theorem MD {P:Program} {w:World} {D:Nat->Prop} {ι:Names} {v:Value} (h:cI P w D ι .bl v):cI P w D ι (.sl []) v:=by
 cases h with
 |eO _ _ h=>
  cases h with
  |bl=>exact .eO _ _ (.Bg none 0 (Nat.zero_le _))
theorem ou.len {l l':List AV} (h:ou l l'):l'.length=l.length:=by induction h<;>simp_all
theorem ou.get {P:Program} {w:World} {D:Nat->Prop} {ι:Names} {l l':List AV} (h:ou l l'):∀{j:Nat} {a':AV},l'[j]? =some a'->∃a,l[j]? =some a/\∀v,cI P w D ι a v->cI P w D ι a' v:=by
 induction h with
 |nil=>intro j a' hj;simp at hj
 |same a _ ih=>
  intro j a' hj
  cases j with
  |zero=>simp at hj;subst hj;exact⟨a,rfl,fun _ h=>h⟩
  |succ j=>exact ih (by simpa using hj)
 |ptr cs rest _ ih=>
  intro j a' hj
  cases j with
  |zero=>simp at hj;subst hj;exact⟨_,rfl,fun _ h=>MB h⟩
  |succ j=>exact ih (by simpa using hj)
 |bl _ ih=>
  intro j a' hj
  cases j with
  |zero=>simp at hj;subst hj;exact⟨_,rfl,fun _ h=>MD h⟩
  |succ j=>exact ih (by simpa using hj)
theorem Call.cut {P:Program} (hm:P.follows .mixedOrders=true) {f:Nat} {args eu:List AV} {σ:ar} {K:AV->ar->Prop} (hc:ou args eu) (h:Call P f eu σ K):Call P f args σ K:=
 gP fun hs D ι w vs S U A=>gr hm h hs D ι w vs S U ⟨by rw[A.1,hc.len],fun j a' hj=>by
  obtain⟨a,ha,hr⟩:=hc.get (P:=P) (w:=w) (D:=D) (ι:=ι) hj
  obtain⟨u,hu,hv⟩:=A.2 j a ha
  exact⟨u,hu,hr u hv⟩⟩
theorem aq.cut {P:Program} (hm:P.follows .mixedOrders=true) {f:Nat} {args eu:List AV} {r:AV} (hc:ou args eu) (h:aq P f eu r):aq P f args r:=fun n=>(h n).cut hm hc
theorem jO.cut {P:Program} (hm:P.follows .mixedOrders=true) {f:Nat} {args eu:List AV} {r:AV} (hc:ou args eu) (h:jO P f eu r):jO P f args r:=fun σ=>Call.cut hm hc (h σ)
end Go.Proofs.YtgoljkjaameagaaGreat.V

namespace Go.Proofs.YtgoljkjaameagaaGreat.V
open Go.RowKit
attribute [local irreducible] dI wpOps gy Call
attribute [local go_sem] aM fG eQ fZ fY cQ upd cC K.av cP AV.cells AV.cell rowOf rowsOf part ld rowAt bt cu dE ee ik bJ dh ew fX eX dp ej dd dc dQ dR bQ bf cW bP cY cX eh ek ei cV b4 de ef bK aP da cG ij bw cK bU aY dn bc dF AV.undef bF bI dS ec dM dK cH ev eA cF ep eo cZ db List.getD_cons_zero List.getD_cons_succ List.getD_nil List.all_cons List.all_nil Bool.and_true Bool.true_and Bool.and_self Bool.not_true Bool.not_false Option.map_some Option.map_none Option.bind_some Option.bind_none List.length_cons List.length_nil List.take_succ_cons List.take_zero List.take_nil List.drop_succ_cons List.drop_zero List.drop_nil List.head?_cons List.map_cons List.map_nil List.getElem?_cons_zero List.getElem?_cons_succ List.cons_append List.nil_append List.append_nil List.length_map List.set_cons_zero List.set_cons_succ eq_self Int.toNat_natCast Int.natCast_nonneg and_self true_and and_true decide_true decide_false Bool.false_eq_true Nat.zero_add Nat.add_zero List.contains_cons List.contains_nil Bool.or_false Bool.false_or beq_self_eq_true ne_eq not_true_eq_false not_false_eq_true Id.mk.injEq false_and and_false Nat.le_refl List.length_append beq_true beq_false Bool.not_eq_eq_eq_not or_false false_or dJ ai aj aD bp bE cq aT bd aX bj cR bG
section
variable {P:Program} {α:Type} {e:α->List AV} {z:Nat} {g g':Rows} {v:AV} {L:List α} {ids:List Id}
def nf (e:α->List AV) (z:Nat) (g:Rows) (v:AV) (L:List α) (ids:List Id):Prop:=(L=[]/\v=.bl/\ids=[])∨∃o,v=.own o 0 L.length/\g o=some ⟨true,z,L.map e⟩/\ids=[o]/\0<L.length
def QF (e:α->List AV) (L:List α):AV:=if L.length=0 then .bl else .sl (L.map e)
theorem nf.frame (h:nf e z g v L ids) (hf:∀i∈ids,g' i=g i):nf e z g' v L ids:=by
 rcases h with h|⟨o,h1,h2,rfl,hp⟩
 ·exact .inl h
 ·exact .inr ⟨o,h1,(hf o (by simp)).trans h2,rfl,hp⟩
def gx (e:α->List AV) (L:List α) (w:AV):Prop:=(w=.bl/\L=[])∨w=.sl (L.map e)
theorem nf.fz (h:nf e z g v L ids) (he:∀x g,cJ g 5 (e x)=some (e x)):∃w,V.fz (dJ g) 6 v=some w/\gx e L w:=by
 rcases h with⟨rfl,rfl,_⟩|⟨o,rfl,h2,_⟩
 ·exact⟨.bl,aT _ _,.inl ⟨rfl,rfl⟩⟩
 ·exact⟨_,fM (e:=e) (sz:=z) (by simp[dJ,h2]) rfl fun x=>he x _,.inr rfl⟩
def zA (P:Program) (f:Nat) (args:List AV) (e:α->List AV) (z:Nat) (L:List α) (c:Int):Prop:=
 ∀n:Nat,Call P f args ⟨fun _=>none,n⟩ (fun r σ'=>∃v ids,r=.gD [v,.int .i64 c]/\nf e z σ'.get v L ids/\fW n σ'.next ids)
theorem sR (hm:P.follows .mixedOrders=true) {f:Nat} {args:List AV} {σ:ar} {K:AV->ar->Prop} (h:Call P f args σ K):Call P f args σ (fun r σ'=>K r σ'/\σ.next<=σ'.next):=
 gP fun hs D ι w vs S U A=>(gr hm h hs D ι w vs S U A).mono (by
  rintro e w' ⟨r,g',n',D2,ι1,u,rfl,hK,T,S1,U1,hn,hR⟩
  exact⟨r,g',n',D2,ι1,u,rfl,⟨hK,hn⟩,T,S1,U1,hn,hR⟩)
theorem H3 (hm:P.follows .mixedOrders=true) {f:Nat} {args eu:List AV} {σ:ar} {c:Int} (nq:∀x,(e x).all AV.clean=true) (h:zA P f eu e z L c) (hv:cJ (dJ σ.get) 6 args=some eu):
  Call P f args σ (fun r σ'=>∃v ids,r=.gD [v,.int .i64 c]/\nf e z σ'.get v L ids/\fW σ.next σ'.next ids/\Kept σ σ'):=by
 refine vK hm hv (aC _ _ _ _ _ (fun r σ' hq=>?_) (sR hm (h σ.next)))
 obtain⟨⟨v,ids,rfl,ho,hi⟩,hn⟩:=hq
 refine⟨ids,?_,?_,v,ids,rfl,?_,hi,hn,fun j hj=>mQ fun hc=>?_⟩
 ·rcases ho with⟨_,rfl,_⟩|⟨o,rfl,_⟩<;>rfl
 ·rcases ho with⟨_,_,rfl⟩|⟨o,_,h2,rfl,_⟩
  ·intro i hi;cases hi
  ·intro i hi
   rw[List.mem_singleton.1 hi]
   refine⟨_,h2,rfl,fun cs dt a ha=>?_⟩
   obtain⟨x,_,rfl⟩:=List.mem_map.1 dt
   have:=nq x
   rw[List.all_eq_true]at this
   exact this a ha
 ·exact ho.frame fun i hi=>pq hi
 ·have:=(hi.2 j hc).1;omega
theorem zA.s {f:Nat} {args:List AV} {c:Int} (he:∀x g,ez g 4 (e x)=some (e x)) (h:zA P f args e z L c):aq P f args (.gD [QF e L,.int .i64 c]):=fun n=>
 aC _ _ _ _ _ (fun r σ' hq=>by
  obtain⟨v,ids,rfl,ho,hi⟩:=hq
  rcases ho with⟨rfl,rfl,_⟩|⟨o,rfl,h2,_,hp⟩
  ·exact⟨_,by simp only[eS,bB,cw,jw,eG,Option.map_some];rfl,rfl⟩
  ·have:=fj (e:=e) (n:=4) h2 rfl fun x=>he x _
   exact⟨_,by simp only[eS,bB,cw,this,eG,Option.map_some];rfl,by rw[QF,if_neg (by omega)]⟩) (h n)
theorem sb:gx e L (QF e L):=by
 unfold QF
 split
 ·rename_i h;exact .inl ⟨rfl,List.eq_nil_of_length_eq_zero h⟩
 ·exact .inr rfl
end
theorem gx.two {α:Type} {e:α->List AV} {L:List α} {w:AV} (h:gx e L w):ou [w] [.sl (L.map e)]:=by
 rcases h with⟨rfl,rfl⟩|rfl
 ·exact .bl .nil
 ·exact .same _ .nil
theorem gx.cut {α:Type} {e:α->List AV} {L:List α} {w:AV} (h:gx e L w) {l l':List AV} (hl:ou l l'):ou (w::l) (.sl (L.map e)::l'):=by
 rcases h with⟨rfl,rfl⟩|rfl
 ·exact .bl hl
 ·exact .same _ hl
end Go.Proofs.YtgoljkjaameagaaGreat.V

namespace Go.Proofs.YtgoljkjaameagaaGreat.V
open Go.RowKit
attribute [local irreducible] dI wpOps gy Call
attribute [local go_sem] aM fG eQ fZ fY cQ upd cC K.av cP AV.cells AV.cell rowOf rowsOf part ld rowAt bt cu dE ee ik bJ dh ew fX eX dp ej dd dc dQ dR bQ bf cW bP cY cX eh ek ei cV b4 de ef bK aP da cG ij bw cK bU aY dn bc dF AV.undef bF bI dS ec dM dK cH ev eA cF ep eo cZ db List.getD_cons_zero List.getD_cons_succ List.getD_nil List.all_cons List.all_nil Bool.and_true Bool.true_and Bool.and_self Bool.not_true Bool.not_false Option.map_some Option.map_none Option.bind_some Option.bind_none List.length_cons List.length_nil List.take_succ_cons List.take_zero List.take_nil List.drop_succ_cons List.drop_zero List.drop_nil List.head?_cons List.map_cons List.map_nil List.getElem?_cons_zero List.getElem?_cons_succ List.cons_append List.nil_append List.append_nil List.length_map List.set_cons_zero List.set_cons_succ Nat.reduceMul eq_self Int.toNat_natCast Int.natCast_nonneg and_self true_and and_true decide_true decide_false Bool.false_eq_true Nat.zero_add Nat.add_zero List.contains_cons List.contains_nil Bool.or_false Bool.false_or beq_self_eq_true Nat.reduceBEq ne_eq not_true_eq_false not_false_eq_true Id.mk.injEq false_and and_false Nat.reduceLT Int.reduceLE Int.reduceLT Int.reduceToNat Int.reduceNeg Int.reduceAdd Nat.le_refl List.length_append beq_true beq_false Bool.not_eq_eq_eq_not or_false false_or dJ ai aj aD bp bE cq aT bd aX bj cR bG
theorem G5 (i:Id) (l:List ad) (k:Int) (h0:0<=k) (h1:k+3*l.length<=4611686018427387904) (σ:ar) (hv:i.ck<σ.next) (hg:σ.get i=some ⟨true,3,l.map aa⟩):
  Call Tryz.prog 49 [.own i 0 l.length,.int .i64 k] σ (fun r σ'=>r=.int .i64 (k+3*l.length)/\oq σ [i] σ'.get σ'.next/\σ'.get i=some ⟨true,3,(Au k l.length).map aa⟩):=by
 refine eL dX rfl fun hl=>?_
 clear hl
 have hz:jK k l 0=l:=by simp[jK,Au]
 (try((repeat(revert hN;revert N;apply Pn.out));refine wk @Nat.zero_add ?_;(repeat(refine Pn.mk ?_;intro N hN))))
 refine aU (fun n env st=>∃j:Nat,n=(l.length)-j/\j<=(l.length)/\env 5=.int .i64 (j:Int)/\env 1=.int .i64 (k+3*j)/\st.get i=some ⟨true,3,(jK k l j).map aa⟩/\(oq σ [i] st.get st.next)) (l.length) ⟨0,by omega,by omega,sl (tw @Int.add_zero (tw @Int.natCast_zero (tw @Int.mul_zero (tw @hz @hg)))),sl (tw @Int.add_zero (tw @Int.natCast_zero (tw @Int.mul_zero (tw @hz @hg)))),sl (tw @Int.add_zero (tw @Int.natCast_zero (tw @Int.mul_zero (tw @hz @hg)))),by(try dsimp only);exact⟨by(try dsimp only);omega,fun x _ _=>rfl⟩⟩ ?_
 rintro n_a env_a st_a ⟨j,rfl,ale,a5,a1,ag0,lZ⟩ dC
 have a0:=dC 0 (by kernel_rfl)
 simp only[go_sem, ↓reduceIte,Nat.reduceEqDiff,Nat.reduceAdd,Nat.reduceSub,Nat.reduceLeDiff,reduceCtorEq,Int.add_zero,Int.natCast_zero,Int.mul_zero,hz,hg]at a0
 clear dC
 obtain⟨an,aF⟩:=lZ
 by_cases hj:(j:Int)<(l.length:Int)
 ·have cD:∀{e:Env} {gg:Rows} {nx:Nat},(e 5=.int .i64 (IntKind.i64.wrap ((j:Int)+1)))->(e 1=.int .i64 (k+3*(j+1)))->(gg i=some ⟨true,3,(jK k l (j+1)).map aa⟩)->(oq σ [i] gg nx)->∃m0,m0<(l.length)-j/\∃j:Nat,m0=(l.length)-j/\j<=(l.length)/\e 5=.int .i64 (j:Int)/\e 1=.int .i64 (k+3*j)/\gg i=some ⟨true,3,(jK k l j).map aa⟩/\(oq σ [i] gg nx):=fun x1 x2 x3 x4=>⟨_,by omega,j+1,rfl,by omega,(by rw[x1,aA (by omega)]),x2,x3,x4⟩
  have iL:j<l.length:=by omega
  have fc:=FO (k:=k) iL
  have eE:=Cu (k:=k) iL
  have jq:IntKind.i64.wrap (k+3*(j:Int)+1)=k+3*(j:Int)+1:=bz (by omega)
  have jJ:IntKind.i64.wrap (k+3*(j:Int)+1+1)=k+3*(j:Int)+2:=by rw[bz (by omega)];omega
  have uJ:IntKind.i64.wrap (k+3*(j:Int)+2+1)=k+3*((j:Int)+1):=by rw[bz (by omega)];omega
  have hlen:((jK k l j).map aa).length=l.length:=by rw[List.length_map,Ct (by omega)]
  have I8:∀c:List AV,(((jK k l j).map aa).set j c)[j]? =some c:=fun c=>by rw[List.getElem?_set_self (by rw[hlen];exact iL)]
  (try((repeat(revert hN;revert N;apply Pn.out));refine wk (tw @a5 (tw @a1 (tw @ag0 (tw @a0 (tw @hj (tw @fc (tw @I8 (tw @eE (tw @jq (tw @jJ (tw @uJ (tw @hlen @so)))))))))))) ?_;(repeat(refine Pn.mk ?_;intro N hN))))
  refine cD ?_ ?_ ?_ (by(try dsimp only);exact⟨by(try dsimp only);omega,fun x hx hi=>by
   have h2:=aF x hx hi
   have h3:(x=i)=False:=eq_false fun e=>hi (by simp[e])
   simp only[go_sem, ↓reduceIte,Nat.reduceEqDiff,Nat.reduceAdd,Nat.reduceSub,Nat.reduceLeDiff,reduceCtorEq,h2,h3]⟩)
  all_goals simp only[go_sem, ↓reduceIte,Nat.reduceEqDiff,Nat.reduceAdd,Nat.reduceSub,Nat.reduceLeDiff,reduceCtorEq,a5,a1,ag0,a0,uJ,eE]
 ·have iL:j=l.length:=by omega
  subst iL
  (try((repeat(revert hN;revert N;apply Pn.out));refine wk (tw @a5 (tw @a1 (tw @ag0 (tw @a0 @hj)))) ?_;(repeat(refine Pn.mk ?_;intro N hN))))
  have lu:jK k l l.length=Au k l.length:=by simp[jK]
  rw[lu]at ag0
  exact e9 (.inl rfl) (vs:=[.int .i64 (k+3*l.length)]) (sd (tw @a5 (tw @a1 (tw @ag0 @a0)))) ⟨rfl,⟨by(try dsimp only);omega,fun x hx hi=>aF x hx hi⟩,ag0⟩
theorem Pk (k:Int) {n j:Nat} (h:j<n):((Au k n).map aa)[j]? =some [.int .i64 (k+3*(j:Int)),.int .i64 (k+3*(j:Int)+1),.int .i64 (k+3*(j:Int)+2)]:=by
 simp[Au,h,aa]
theorem GC (k:Int) (n:Nat) (h0:0<=k) (h1:k+3*n<=4611686018427387904):aq Tryz.prog 50 [.sl ((Au k n).map aa),.int .i64 k] (.int .i64 (k+3*n)):=by
 refine aq.body dX rfl fun hl n0=>?_
 clear hl
 obtain⟨m,hm⟩:∃m,n=m:=⟨_,rfl⟩
 rw[hm]at h1 ⊢
 (try((repeat(revert hN;revert N;apply Pn.out));refine wk @iC ?_;(repeat(refine Pn.mk ?_;intro N hN))))
 refine aU (fun n env st=>∃j:Nat,n=(m)-j/\j<=(m)/\env 5=.int .i64 (j:Int)/\env 1=.int .i64 (k+3*j)) (m) ⟨0,by omega,by omega,sl (tw @Int.add_zero (tw @Int.natCast_zero (tw @Int.mul_zero @iC))),sl (tw @Int.add_zero (tw @Int.natCast_zero (tw @Int.mul_zero @iC)))⟩ ?_
 rintro n_a env_a st_a ⟨j,rfl,ale,a5,a1⟩ dC
 have a0:=dC 0 (by kernel_rfl)
 simp only[go_sem, ↓reduceIte,Nat.reduceEqDiff,Nat.reduceAdd,Nat.reduceSub,Nat.reduceLeDiff,reduceCtorEq,Int.add_zero,Int.natCast_zero,Int.mul_zero,iC]at a0
 clear dC
 by_cases hj:(j:Int)<(m:Int)
 ·have cD:∀{e:Env},(e 5=.int .i64 (IntKind.i64.wrap ((j:Int)+1)))->(e 1=.int .i64 (k+3*(j+1)))->∃m0,m0<(m)-j/\∃j:Nat,m0=(m)-j/\j<=(m)/\e 5=.int .i64 (j:Int)/\e 1=.int .i64 (k+3*j):=fun x1 x2=>⟨_,by omega,j+1,rfl,by omega,(by rw[x1,aA (by omega)]),x2⟩
  have fc:=Pk k (n:=m) (j:=j) (by omega)
  have jq:IntKind.i64.wrap (k+3*(j:Int)+1)=k+3*(j:Int)+1:=bz (by omega)
  have jJ:IntKind.i64.wrap (k+3*(j:Int)+1+1)=k+3*(j:Int)+2:=by rw[bz (by omega)];omega
  have uJ:IntKind.i64.wrap (k+3*(j:Int)+2+1)=k+3*((j:Int)+1):=by rw[bz (by omega)];omega
  have e1:decide (k+3*(j:Int)=k+3*(j:Int))=true:=decide_eq_true rfl
  have e2:decide (k+3*(j:Int)+1=k+3*(j:Int)+1)=true:=decide_eq_true rfl
  have e3:decide (k+3*(j:Int)+2=k+3*(j:Int)+2)=true:=decide_eq_true rfl
  (try((repeat(revert hN;revert N;apply Pn.out));refine wk (tw @a5 (tw @a1 (tw @a0 (tw @hj (tw @fc (tw @jq (tw @jJ (tw @uJ (tw @iC (tw @e1 (tw @e2 @e3))))))))))) ?_;(repeat(refine Pn.mk ?_;intro N hN))))
  refine cD ?_ ?_
  all_goals simp only[go_sem, ↓reduceIte,Nat.reduceEqDiff,Nat.reduceAdd,Nat.reduceSub,Nat.reduceLeDiff,reduceCtorEq,a5,a1,a0,uJ]
 ·have iL:j=m:=by omega
  subst iL
  (try((repeat(revert hN;revert N;apply Pn.out));refine wk (tw @a5 (tw @a1 (tw @a0 (tw @hj @iC)))) ?_;(repeat(refine Pn.mk ?_;intro N hN))))
  exact bW (b:=k+3*(j:Int)) (.inl rfl) (sd (tw @a5 (tw @a1 @a0))) rfl
theorem Lx (a b:ad):aq Tryz.prog 106 [.agg (aa a),.agg (aa b)] (.bool (decide (a=b))):=by
 refine aq.body dX rfl fun hl n0=>?_
 clear hl
 have h:=yF a.aO b.aO
 rw[ae,ae]at h
 by_cases h1:a.aO=b.aO
 ·rw[decide_eq_true h1]at h
  by_cases h2:a.aV=b.aV
  ·have e2:decide (a.aV=b.aV)=true:=decide_eq_true h2
   (repeat(first|((repeat(revert hN;revert N;apply Pn.out));refine wk (tw @aa.eq_1 @e2) ?_;(repeat(refine Pn.mk ?_;intro N hN)))|((try apply Or.inl);refine⟨_,aq.x (h) (sd (tw @aa.eq_1 @e2)),?_⟩;refine hN _ _ ?_;clear hN N)))
   exact aW (b:=true) (.inl rfl) (sd @Nat.zero_add) (decide_eq_true (by cases a;cases b;simp_all)).symm
  ·have e2:decide (a.aV=b.aV)=false:=decide_eq_false h2
   (repeat(first|((repeat(revert hN;revert N;apply Pn.out));refine wk (tw @aa.eq_1 @e2) ?_;(repeat(refine Pn.mk ?_;intro N hN)))|((try apply Or.inl);refine⟨_,aq.x (h) (sd (tw @aa.eq_1 @e2)),?_⟩;refine hN _ _ ?_;clear hN N)))
   exact aW (b:=false) (.inl rfl) (sd @Nat.zero_add) (decide_eq_false (by rintro rfl;exact h2 rfl)).symm
 ·rw[decide_eq_false h1]at h
  (repeat(first|((repeat(revert hN;revert N;apply Pn.out));refine wk @aa.eq_1 ?_;(repeat(refine Pn.mk ?_;intro N hN)))|((try apply Or.inl);refine⟨_,aq.x (h) (sd @aa.eq_1),?_⟩;refine hN _ _ ?_;clear hN N)))
  exact aW (b:=false) (.inl rfl) (sd @Nat.zero_add) (decide_eq_false (by rintro rfl;exact h1 rfl)).symm
theorem IF (xs ys:List ad):aq Tryz.prog 48 [.sl (xs.map aa),.sl (ys.map aa)] (.bool (decide (xs=ys))):=
 zU (show me Tryz.prog 48=some (BG 48 106 3) by kernel_rfl) (fun _=>rfl) wz xs ys Lx
theorem yE {L:List ad} {v w:AV} (hv:gx aa L v) (hw:gx aa L w):aq Tryz.prog 48 [v,w] (.bool true):=by
 have h:=IF L L
 rw[decide_eq_true rfl]at h
 exact h.cut mixed (hv.cut (hw.cut .nil))
theorem wU (k:Int) (σ:ar):Call Tryz.prog 49 [.bl,.int .i64 k] σ (fun r σ'=>r=.int .i64 k/\oq σ [] σ'.get σ'.next):=by
 refine eL dX rfl fun hl=>?_
 clear hl
 (try((repeat(revert hN;revert N;apply Pn.out));refine wk @Nat.zero_add ?_;(repeat(refine Pn.mk ?_;intro N hN))))
 refine aU (fun n env st=>(env 1=.int .i64 k/\env 5=.int .i64 0/\env 0=.bl)/\σ.next<=st.next/\∀x:Id,st.get x=σ.get x) 0 ⟨⟨sd @Nat.zero_add,sd @Nat.zero_add,sd @Nat.zero_add⟩,by(try dsimp only);omega,fun _=>rfl⟩ ?_
 rintro m e st ⟨⟨a1,a5,a0⟩,an,aF⟩ -
 have d0:decide ((0:Int)<((0:Nat):Int))=false:=rfl
 (try((repeat(revert hN;revert N;apply Pn.out));refine wk (tw @a0 (tw @a1 (tw @a5 @d0))) ?_;(repeat(refine Pn.mk ?_;intro N hN))))
 exact e9 (.inl rfl) (vs:=[.int .i64 k]) (sd @a1) ⟨rfl,⟨by(try dsimp only);omega,fun x hx hi=>aF x⟩⟩
theorem Ef {v:AV} {L:List ad} {ids:List Id} (k:Int) (h0:0<=k) (h1:k+3*L.length<=4611686018427387904) (σ:ar) (hv:∀i∈ids,i.ck<σ.next) (h:nf aa 3 σ.get v L ids):
  Call Tryz.prog 49 [v,.int .i64 k] σ (fun r σ'=>r=.int .i64 (k+3*L.length)/\oq σ ids σ'.get σ'.next/\nf aa 3 σ'.get v (Au k L.length) ids):=by
 rcases h with⟨rfl,rfl,rfl⟩|⟨o,rfl,h2,rfl,hp⟩
 ·refine aC _ _ _ _ _ (fun r σ' hq=>?_) (wU k σ)
  obtain⟨rfl,hB⟩:=hq
  exact⟨by simp,hB,.inl ⟨rfl,rfl,rfl⟩⟩
 ·refine aC _ _ _ _ _ (fun r σ' hq=>?_) (G5 o L k h0 h1 σ (hv o (by simp)) h2)
  obtain⟨rfl,hB,hg⟩:=hq
  exact⟨rfl,hB,.inr ⟨o,by rw[iC],hg,rfl,by rw[iC];exact hp⟩⟩
theorem wG {w:AV} (k:Int) (n:Nat) (h0:0<=k) (h1:k+3*n<=4611686018427387904) (hw:gx aa (Au k n) w):aq Tryz.prog 50 [w,.int .i64 k] (.int .i64 (k+3*n)):=
 (GC k n h0 h1).cut mixed (hw.cut (.same _ .nil))
end Go.Proofs.YtgoljkjaameagaaGreat.V

namespace Go.Proofs.YtgoljkjaameagaaGreat.V
open Go.RowKit
variable {P:Program}
theorem Pe (hm:P.follows .mixedOrders=true) {f:Nat} {args:List AV} {vs:Array Value} {w:World} (h:aq P f args (.bool true)) (hA:fm P w (fun b=>b<w.heap.size) (fun _=>none) args vs):
  Calls P f vs w fun e w'=>e=.returned (.bool true)/\Below w.heap.size w w':=by
 have hs:=gr hm (h 0) w.heap.size (fun b=>b<w.heap.size) (fun _=>none) w vs ⟨Nat.le_refl _,fun _ h=>h,fun id r h=>(by cases h),fun id j6 r r' B B' h=>(by cases h)⟩ (fun id h=>absurd rfl h) hA
 refine hs.mono ?_
 rintro e w' ⟨r,g',n',D',ι',u,rfl,⟨r',hz,rfl⟩,dH,hsim,_,_,gN⟩
 have hr:r=.bool true:=by
  cases r<;>rw[gC]at hz<;>simp_all
  all_goals (repeat' (split at hz))<;>simp_all
 subst hr
 exact⟨by rw[e6 gN],dH.below⟩
theorem mJ {xs:List AV} {w:World} {D:Nat->Prop} {ι:Names} {a:AV} {v:Value} {vs:Array Value} (h:jM P w D a v) (k:fm P w D ι xs vs):fm P w D ι (a::xs) (#[v]++vs):=
 pg (xs:=[a]) ⟨rfl,fun j b hj=>by
  cases j with
  |zero=>simp at hj;subst hj;exact⟨v,rfl,.eO _ _ h⟩
  |succ j=>simp at hj⟩ k
end Go.Proofs.YtgoljkjaameagaaGreat.V

namespace Go.Proofs.YtgoljkjaameagaaGreat.V
open Go.RowKit
attribute [local irreducible] dI wpOps gy Call
attribute [local go_sem] aM fG eQ fZ fY cQ upd cC K.av cP AV.cells AV.cell rowOf rowsOf part ld rowAt bt cu dE ee ik bJ dh ew fX eX dp ej dd dc dQ dR bQ bf cW bP cY cX eh ek ei cV b4 de ef bK aP da cG ij bw cK bU aY dn bc dF AV.undef bF bI dS ec dM dK cH ev eA cF ep eo cZ db List.getD_cons_zero List.getD_cons_succ List.getD_nil List.all_cons List.all_nil Bool.and_true Bool.true_and Bool.and_self Bool.not_true Bool.not_false Option.map_some Option.map_none Option.bind_some Option.bind_none List.length_cons List.length_nil List.take_succ_cons List.take_zero List.take_nil List.drop_succ_cons List.drop_zero List.drop_nil List.head?_cons List.map_cons List.map_nil List.getElem?_cons_zero List.getElem?_cons_succ List.cons_append List.nil_append List.append_nil List.length_map List.set_cons_zero List.set_cons_succ Nat.reduceMul eq_self Int.toNat_natCast Int.natCast_nonneg and_self true_and and_true decide_true decide_false Bool.false_eq_true Nat.zero_add Nat.add_zero List.contains_cons List.contains_nil Bool.or_false Bool.false_or beq_self_eq_true Nat.reduceBEq ne_eq not_true_eq_false not_false_eq_true Id.mk.injEq false_and and_false Nat.reduceLT Int.reduceLE Int.reduceLT Int.reduceToNat Int.reduceNeg Int.reduceAdd Nat.le_refl List.length_append beq_true beq_false Bool.not_eq_eq_eq_not or_false false_or dJ ai aj aD bp bE cq aT bd aX bj cR bG
theorem PG {α:Type} (f:α->Nat) {xs:List α} {x:α} (h:x∈xs):f x<=(xs.map f).sum:=by
 induction xs with
 |nil=>cases h
 |cons y ys ih=>
  simp only[List.map_cons,List.sum_cons]
  rcases List.mem_cons.1 h with rfl|h
  ·omega
  ·have:=ih h;omega
theorem Hu {s:az} (h:xH s<=1048576):qi s:=by
 unfold xH uN at h
 refine⟨⟨by omega,by omega,fun t ht=>?_⟩,by omega⟩
 have:=PG kG ht
 have h2:t.bx.length<=kG t:=by unfold kG;omega
 unfold sU
 omega
theorem zS (a:dP):aq Tryz.prog 22 [.agg (aQ a),.agg (aQ a)] (.bool true):=by
 refine aq.body dX rfl fun hl n0=>?_
 clear hl
 have h1:=tV a.ah a.ah
 rw[decide_eq_true rfl]at h1
 (repeat(first|((repeat(revert hN;revert N;apply Pn.out));refine wk @aQ.eq_1 ?_;(repeat(refine Pn.mk ?_;intro N hN)))|((try apply Or.inl);refine⟨_,aq.x (h1) (sd @aQ.eq_1),?_⟩;refine hN _ _ ?_;clear hN N)))
 exact aW (b:=true) (.inl rfl) (sd @Nat.zero_add) rfl
end Go.Proofs.YtgoljkjaameagaaGreat.V

namespace Go.Proofs.YtgoljkjaameagaaGreat.V
open Go.RowKit
attribute [local irreducible] dI wpOps gy Call
attribute [local go_sem] aM fG eQ fZ fY cQ upd cC K.av cP AV.cells AV.cell rowOf rowsOf part ld rowAt bt cu dE ee ik bJ dh ew fX eX dp ej dd dc dQ dR bQ bf cW bP cY cX eh ek ei cV b4 de ef bK aP da cG ij bw cK bU aY dn bc dF AV.undef bF bI dS ec dM dK cH ev eA cF ep eo cZ db List.getD_cons_zero List.getD_cons_succ List.getD_nil List.all_cons List.all_nil Bool.and_true Bool.true_and Bool.and_self Bool.not_true Bool.not_false Option.map_some Option.map_none Option.bind_some Option.bind_none List.length_cons List.length_nil List.take_succ_cons List.take_zero List.take_nil List.drop_succ_cons List.drop_zero List.drop_nil List.head?_cons List.map_cons List.map_nil List.getElem?_cons_zero List.getElem?_cons_succ List.cons_append List.nil_append List.append_nil List.length_map List.set_cons_zero List.set_cons_succ eq_self Int.toNat_natCast Int.natCast_nonneg and_self true_and and_true decide_true decide_false Bool.false_eq_true Nat.zero_add Nat.add_zero List.contains_cons List.contains_nil Bool.or_false Bool.false_or beq_self_eq_true ne_eq not_true_eq_false not_false_eq_true Id.mk.injEq false_and and_false Nat.le_refl List.length_append beq_true beq_false Bool.not_eq_eq_eq_not or_false false_or dJ ai aj aD bp bE cq aT bd aX bj cR bG
theorem Hv {g:Rows} {v w:AV} {s:az} {a:dP} {i j:List Id} (hX:zG g v s i) (hY:xN g w a j):cJ (dJ g) 6 [v,w]=some [.agg (au s),.agg (aQ a)]:=by
 simp only[ai,aj,hX.fz 1,hY.fz 2,Option.map_some]
theorem MJ {g:Rows} {v w:AV} {s:az} {i:List Id} (hX:zG g v s i) (hw:fz (dJ g) 6 w=some w):cJ (dJ g) 6 [v,w]=some [.agg (au s),w]:=by
 simp only[ai,aj,hX.fz 1,hw,Option.map_some]
theorem Lj {g:Rows} {v w:AV} {s:dP} {i:List Id} (hX:xN g v s i) (hw:fz (dJ g) 6 w=some w):cJ (dJ g) 6 [v,w]=some [.agg (aQ s),w]:=by
 simp only[ai,aj,hX.fz 2,hw,Option.map_some]
theorem Ff (g:Rows) (s:az):fz g 6 (.agg (au s))=some (.agg (au s)):=by simp[au,bd,ai,aj,cq,aD]
theorem Fe (g:Rows) (s:dP):fz g 6 (.agg (aQ s))=some (.agg (aQ s)):=by simp[aQ,bd,ai,aj,cq]
theorem tJ {g:Rows} {v w v' w':AV} (h1:fz g 6 v=some v') (h2:fz g 6 w=some w'):cJ g 6 [v,w]=some [v',w']:=by
 simp only[ai,aj,h1,h2,Option.map_some]
theorem Mh (s:az):Cn s<=3*xH s:=by
 have h:∀l:List eT,(l.map gJ).sum<=l.length+(l.map kG).sum:=fun l=>by
  induction l with
  |nil=>simp
  |cons t l ih=>simp only[List.map_cons,List.sum_cons,List.length_cons,gJ,kG]at *;omega
 have:=h s.aH.ah
 unfold Cn xH uN
 omega
theorem fW.not {a b:Nat} {ids:List Id} (h:fW a b ids) {x:Id} (hx:x.ck<a∨b<=x.ck):x∉ids:=fun hc=>by
 have:=h.2 x hc;omega
theorem gx.fz {α:Type} {e:α->List AV} {L:List α} {w:AV} (h:gx e L w) (g:Rows):V.fz g 6 w=some w:=by
 rcases h with⟨rfl,rfl⟩|rfl
 ·exact aT _ _
 ·exact cq _ _ _
end Go.Proofs.YtgoljkjaameagaaGreat.V

namespace Go.Proofs.YtgoljkjaameagaaGreat.V
open Go.RowKit
attribute [local irreducible] dI wpOps gy Call
attribute [local go_sem] aM fG eQ fZ fY cQ upd cC K.av cP AV.cells AV.cell rowOf rowsOf part ld rowAt bt cu dE ee ik bJ dh ew fX eX dp ej dd dc dQ dR bQ bf cW bP cY cX eh ek ei cV b4 de ef bK aP da cG ij bw cK bU aY dn bc dF AV.undef bF bI dS ec dM dK cH ev eA cF ep eo cZ db List.getD_cons_zero List.getD_cons_succ List.getD_nil List.all_cons List.all_nil Bool.and_true Bool.true_and Bool.and_self Bool.not_true Bool.not_false Option.map_some Option.map_none Option.bind_some Option.bind_none List.length_cons List.length_nil List.take_succ_cons List.take_zero List.take_nil List.drop_succ_cons List.drop_zero List.drop_nil List.head?_cons List.map_cons List.map_nil List.getElem?_cons_zero List.getElem?_cons_succ List.cons_append List.nil_append List.append_nil List.length_map List.set_cons_zero List.set_cons_succ Nat.reduceMul eq_self Int.toNat_natCast Int.natCast_nonneg and_self true_and and_true decide_true decide_false Bool.false_eq_true Nat.zero_add Nat.add_zero List.contains_cons List.contains_nil Bool.or_false Bool.false_or beq_self_eq_true Nat.reduceBEq ne_eq not_true_eq_false not_false_eq_true Id.mk.injEq false_and and_false Nat.reduceLT Int.reduceLE Int.reduceLT Int.reduceToNat Int.reduceNeg Int.reduceAdd Nat.le_refl List.length_append beq_true beq_false Bool.not_eq_eq_eq_not or_false false_or dJ ai aj aD bp bE cq aT bd aX bj cR bG
def ja (n lo hi:Int):Bool:=decide (lo<=n)&&decide (n<=hi)
theorem eC {n lo hi:Int} (h:ja n lo hi=true):lo<=n/\n<=hi:=by simpa[ja]using h
theorem kV {n lo hi:Int} (h:lo<=n/\n<=hi):ja n lo hi=true:=by simpa[ja]using h
def CC (p:aI):Bool:=ja p.eZ (-60) 60&&ja p.eU (-60) 60
theorem lR (n lo hi:Int):aq Tryz.prog 95 [.int .i64 n,.int .i64 lo,.int .i64 hi] (.bool (ja n lo hi)):=by
 refine aq.body dX rfl fun hl n0=>?_
 clear hl
 by_cases h1:lo<=n
 ·(try((repeat(revert hN;revert N;apply Pn.out));refine wk @h1 ?_;(repeat(refine Pn.mk ?_;intro N hN))))
  exact aW (b:=decide (n<=hi)) (.inl rfl) (sd @Nat.zero_add) (by simp[ja,h1])
 ·(try((repeat(revert hN;revert N;apply Pn.out));refine wk @h1 ?_;(repeat(refine Pn.mk ?_;intro N hN))))
  exact aW (b:=false) (.inl rfl) (sd @Nat.zero_add) (by simp[ja,h1])
theorem ll (n lo hi:Int):aq Tryz.prog 98 [.int .i64 n,.int .i64 lo,.int .i64 hi] (.bool (ja n lo hi)):=by
 refine aq.body dX rfl fun hl n0=>?_
 clear hl
 by_cases h1:lo<=n
 ·(try((repeat(revert hN;revert N;apply Pn.out));refine wk @h1 ?_;(repeat(refine Pn.mk ?_;intro N hN))))
  exact aW (b:=decide (n<=hi)) (.inl rfl) (sd @Nat.zero_add) (by simp[ja,h1])
 ·(try((repeat(revert hN;revert N;apply Pn.out));refine wk @h1 ?_;(repeat(refine Pn.mk ?_;intro N hN))))
  exact aW (b:=false) (.inl rfl) (sd @Nat.zero_add) (by simp[ja,h1])
theorem Ju (d:Int):aq Tryz.prog 278 [.int .i64 d] (.bool (ja d 0 3)):=by
 refine aq.body dX rfl fun hl n0=>?_
 clear hl
 have h:=lR d 0 3
 (repeat(first|((repeat(revert hN;revert N;apply Pn.out));refine wk @Nat.zero_add ?_;(repeat(refine Pn.mk ?_;intro N hN)))|((try apply Or.inl);refine⟨_,aq.x (h) (sd @Nat.zero_add),?_⟩;refine hN _ _ ?_;clear hN N)))
 exact aW (b:=ja d 0 3) (.inl rfl) (sd @Nat.zero_add) rfl
theorem wP (p:aI):aq Tryz.prog 222 [.agg (ae p)] (.bool (CC p)):=by
 refine aq.body dX rfl fun hl n0=>?_
 clear hl
 have h1:=lR p.eZ (-60) 60
 have h2:=lR p.eU (-60) 60
 by_cases q:ja p.eZ (-60) 60=true
 ·rw[q]at h1
  (repeat(first|((repeat(revert hN;revert N;apply Pn.out));refine wk @ae.eq_1 ?_;(repeat(refine Pn.mk ?_;intro N hN)))|((try apply Or.inl);refine⟨_,aq.x (h1) (sd @ae.eq_1),?_⟩;refine hN _ _ ?_;clear hN N)|((try apply Or.inl);refine⟨_,aq.x (h2) (sd @ae.eq_1),?_⟩;refine hN _ _ ?_;clear hN N)))
  exact aW (b:=ja p.eU (-60) 60) (.inl rfl) (sd @Nat.zero_add) (by rw[CC,q];rfl)
 ·rw[Bool.not_eq_true]at q
  rw[q]at h1
  (repeat(first|((repeat(revert hN;revert N;apply Pn.out));refine wk @ae.eq_1 ?_;(repeat(refine Pn.mk ?_;intro N hN)))|((try apply Or.inl);refine⟨_,aq.x (h1) (sd @ae.eq_1),?_⟩;refine hN _ _ ?_;clear hN N)|((try apply Or.inl);refine⟨_,aq.x (h2) (sd @ae.eq_1),?_⟩;refine hN _ _ ?_;clear hN N)))
  exact aW (b:=false) (.inl rfl) (sd @Nat.zero_add) (by rw[CC,q];rfl)
theorem rC (p:aI):aq Tryz.prog 256 [.agg (ae p)] (.bool (CC p)):=by
 refine aq.body dX rfl fun hl n0=>?_
 clear hl
 have h1:=ll p.eZ (-60) 60
 have h2:=ll p.eU (-60) 60
 by_cases q:ja p.eZ (-60) 60=true
 ·rw[q]at h1
  (repeat(first|((repeat(revert hN;revert N;apply Pn.out));refine wk @ae.eq_1 ?_;(repeat(refine Pn.mk ?_;intro N hN)))|((try apply Or.inl);refine⟨_,aq.x (h1) (sd @ae.eq_1),?_⟩;refine hN _ _ ?_;clear hN N)|((try apply Or.inl);refine⟨_,aq.x (h2) (sd @ae.eq_1),?_⟩;refine hN _ _ ?_;clear hN N)))
  exact aW (b:=ja p.eU (-60) 60) (.inl rfl) (sd @Nat.zero_add) (by rw[CC,q];rfl)
 ·rw[Bool.not_eq_true]at q
  rw[q]at h1
  (repeat(first|((repeat(revert hN;revert N;apply Pn.out));refine wk @ae.eq_1 ?_;(repeat(refine Pn.mk ?_;intro N hN)))|((try apply Or.inl);refine⟨_,aq.x (h1) (sd @ae.eq_1),?_⟩;refine hN _ _ ?_;clear hN N)|((try apply Or.inl);refine⟨_,aq.x (h2) (sd @ae.eq_1),?_⟩;refine hN _ _ ?_;clear hN N)))
  exact aW (b:=false) (.inl rfl) (sd @Nat.zero_add) (by rw[CC,q];rfl)
def tu (d:Int):Int:=if ja d 0 3 then(d+2) % 4 else -1
def dx (p:aI) (d:Int):aI:=
 if d=0 then⟨p.eZ,p.eU+1⟩else if d=1 then⟨p.eZ+1,p.eU⟩else if d=2 then⟨p.eZ,p.eU-1⟩else if d=3 then⟨p.eZ-1,p.eU⟩else p
def iB (n:Int):Prop:=-4611686018427387904<=n/\n<=4611686018427387904
theorem y4 (p:aI) (d:Int) (hd:ja d 0 3=true) (hx:iB p.eZ) (hy:iB p.eU):aq Tryz.prog 221 [.agg (ae p),.int .i64 d] (.agg (ae (dx p d))):=by
 refine aq.body dX rfl fun hl n0=>?_
 clear hl
 obtain⟨x1,x2⟩:=hx
 obtain⟨y1,y2⟩:=hy
 have w1:IntKind.i64.wrap (p.eZ+1)=p.eZ+1:=bz (by omega)
 have w2:IntKind.i64.wrap (p.eZ-1)=p.eZ-1:=bz (by omega)
 have w3:IntKind.i64.wrap (p.eU+1)=p.eU+1:=bz (by omega)
 have w4:IntKind.i64.wrap (p.eU-1)=p.eU-1:=bz (by omega)
 have hb:=eC hd
 have hc:d=0∨d=1∨d=2∨d=3:=by omega
 rcases hc with rfl|rfl|rfl|rfl
 ·(try((repeat(revert hN;revert N;apply Pn.out));refine wk (tw @ae.eq_1 @w3) ?_;(repeat(refine Pn.mk ?_;intro N hN))))
  exact qn (.inl rfl) (vs:=[.agg (ae (dx p 0))]) (by simp only[go_sem, ↓reduceIte,Nat.reduceEqDiff,Nat.reduceAdd,Nat.reduceSub,Nat.reduceLeDiff,reduceCtorEq,fu,iv,ae,dx]) (by simp[fa,ae,gC,ez])
 ·(try((repeat(revert hN;revert N;apply Pn.out));refine wk (tw @ae.eq_1 @w1) ?_;(repeat(refine Pn.mk ?_;intro N hN))))
  exact qn (.inl rfl) (vs:=[.agg (ae (dx p 1))]) (by simp[fu,iv,ae,dx,ld,rowAt,bt,upd,part]) (by simp[fa,ae,gC,ez])
 ·(try((repeat(revert hN;revert N;apply Pn.out));refine wk (tw @ae.eq_1 @w4) ?_;(repeat(refine Pn.mk ?_;intro N hN))))
  exact qn (.inl rfl) (vs:=[.agg (ae (dx p 2))]) (by simp[fu,iv,ae,dx,ld,rowAt,bt,upd,part]) (by simp[fa,ae,gC,ez])
 ·(try((repeat(revert hN;revert N;apply Pn.out));refine wk (tw @ae.eq_1 @w2) ?_;(repeat(refine Pn.mk ?_;intro N hN))))
  exact qn (.inl rfl) (vs:=[.agg (ae (dx p 3))]) (by simp[fu,iv,ae,dx,ld,rowAt,bt,upd,part]) (by simp[fa,ae,gC,ez])
theorem AA (p p2:aI) (x y:Int) (hx:IntKind.i64.wrap (p.eZ+p2.eZ)=x) (hy:IntKind.i64.wrap (p.eU+p2.eU)=y):aq Tryz.prog 280 [.agg (ae p),.agg (ae p2)] (.agg [.int .i64 x,.int .i64 y]):=by
 refine aq.body dX rfl fun hl n0=>?_
 clear hl
 (try((repeat(revert hN;revert N;apply Pn.out));refine wk (tw @ae.eq_1 (tw @hx @hy)) ?_;(repeat(refine Pn.mk ?_;intro N hN))))
 exact qn (.inl rfl) (vs:=[.agg [.int .i64 x,.int .i64 y]]) (by simp only[go_sem, ↓reduceIte,Nat.reduceEqDiff,Nat.reduceAdd,Nat.reduceSub,Nat.reduceLeDiff,reduceCtorEq,fu,iv,ae]) (by simp[fa,gC,ez])
theorem EH (p:aI) (d:Int) (hd:ja d 0 3=true) (hx:iB p.eZ) (hy:iB p.eU):aq Tryz.prog 228 [.agg (ae p),.int .i64 d] (.agg (ae (dx p d))):=by
 refine aq.body dX rfl fun hl n0=>?_
 clear hl
 obtain⟨x1,x2⟩:=hx
 obtain⟨y1,y2⟩:=hy
 have hb:=eC hd
 have hc:d=0∨d=1∨d=2∨d=3:=by omega
 rcases hc with rfl|rfl|rfl|rfl
 ·have h:=AA p ⟨0,1⟩ (p.eZ) (p.eU+1) (by rw[bz (by constructor<;>simp only<;>omega)]<;>(try simp only)<;>(try omega)) (by rw[bz (by constructor<;>simp only<;>omega)]<;>(try simp only)<;>(try omega))
  simp only[ae]at h
  (repeat(first|((repeat(revert hN;revert N;apply Pn.out));refine wk @ae.eq_1 ?_;(repeat(refine Pn.mk ?_;intro N hN)))|((try apply Or.inl);refine⟨_,aq.x (h) (sd @ae.eq_1),?_⟩;refine hN _ _ ?_;clear hN N)))
  exact qn (.inl rfl) (vs:=[.agg (ae (dx p 0))]) (by simp[fu,iv,ae,dx,ld,rowAt,bt,upd,part]) (by simp[fa,ae,gC,ez])
 ·have h:=AA p ⟨1,0⟩ (p.eZ+1) (p.eU) (by rw[bz (by constructor<;>simp only<;>omega)]<;>(try simp only)<;>(try omega)) (by rw[bz (by constructor<;>simp only<;>omega)]<;>(try simp only)<;>(try omega))
  simp only[ae]at h
  (repeat(first|((repeat(revert hN;revert N;apply Pn.out));refine wk @ae.eq_1 ?_;(repeat(refine Pn.mk ?_;intro N hN)))|((try apply Or.inl);refine⟨_,aq.x (h) (sd @ae.eq_1),?_⟩;refine hN _ _ ?_;clear hN N)))
  exact qn (.inl rfl) (vs:=[.agg (ae (dx p 1))]) (by simp[fu,iv,ae,dx,ld,rowAt,bt,upd,part]) (by simp[fa,ae,gC,ez])
 ·have h:=AA p ⟨0,(-1)⟩ (p.eZ) (p.eU-1) (by rw[bz (by constructor<;>simp only<;>omega)]<;>(try simp only)<;>(try omega)) (by rw[bz (by constructor<;>simp only<;>omega)]<;>(try simp only)<;>(try omega))
  simp only[ae]at h
  (repeat(first|((repeat(revert hN;revert N;apply Pn.out));refine wk @ae.eq_1 ?_;(repeat(refine Pn.mk ?_;intro N hN)))|((try apply Or.inl);refine⟨_,aq.x (h) (sd @ae.eq_1),?_⟩;refine hN _ _ ?_;clear hN N)))
  exact qn (.inl rfl) (vs:=[.agg (ae (dx p 2))]) (by simp[fu,iv,ae,dx,ld,rowAt,bt,upd,part]) (by simp[fa,ae,gC,ez])
 ·have h:=AA p ⟨(-1),0⟩ (p.eZ-1) (p.eU) (by rw[bz (by constructor<;>simp only<;>omega)]<;>(try simp only)<;>(try omega)) (by rw[bz (by constructor<;>simp only<;>omega)]<;>(try simp only)<;>(try omega))
  simp only[ae]at h
  (repeat(first|((repeat(revert hN;revert N;apply Pn.out));refine wk @ae.eq_1 ?_;(repeat(refine Pn.mk ?_;intro N hN)))|((try apply Or.inl);refine⟨_,aq.x (h) (sd @ae.eq_1),?_⟩;refine hN _ _ ?_;clear hN N)))
  exact qn (.inl rfl) (vs:=[.agg (ae (dx p 3))]) (by simp[fu,iv,ae,dx,ld,rowAt,bt,upd,part]) (by simp[fa,ae,gC,ez])
theorem El (d:Int) (hd:ja d 0 3=true):aq Tryz.prog 304 [.int .i64 d] (.int .i64 (tu d)):=by
 refine aq.body dX rfl fun hl n0=>?_
 clear hl
 have hb:=eC hd
 have hw:IntKind.i64.wrap (d+2)=d+2:=bz (by omega)
 have ht:Int.tmod (d+2) 4=(d+2) % 4:=Int.tmod_eq_emod_of_nonneg (by omega)
 have h4:¬((4:Int)=0):=by omega
 (try((repeat(revert hN;revert N;apply Pn.out));refine wk (tw @hw (tw @ht @h4)) ?_;(repeat(refine Pn.mk ?_;intro N hN))))
 exact bW (b:=(d+2) % 4) (.inl rfl) (sd @Nat.zero_add) (by rw[tu,if_pos hd])
theorem Di (d:Int) (hd:ja d 0 3=true):aq Tryz.prog 224 [.int .i64 d] (.int .i64 (tu d)):=by
 refine aq.body dX rfl fun hl n0=>?_
 clear hl
 have hb:=eC hd
 have hw:IntKind.i64.wrap (d+2)=d+2:=bz (by omega)
 have ht:Int.tmod (d+2) 4=(d+2) % 4:=Int.tmod_eq_emod_of_nonneg (by omega)
 have h4:¬((4:Int)=0):=by omega
 have h:=Ju d
 rw[hd]at h
 (repeat(first|((repeat(revert hN;revert N;apply Pn.out));refine wk (tw @hw (tw @ht @h4)) ?_;(repeat(refine Pn.mk ?_;intro N hN)))|((try apply Or.inl);refine⟨_,aq.x (h) (sd (tw @hw (tw @ht @h4))),?_⟩;refine hN _ _ ?_;clear hN N)))
 exact bW (b:=(d+2) % 4) (.inl rfl) (sd @Nat.zero_add) (by rw[tu,if_pos hd])
def eM (s:aw) (t:Int):Bool:=ja t 0 ((s.ah.length:Int)-1)
theorem wQ (s:aw) (t:Int):aq Tryz.prog 220 [.di (ab s),.int .i64 t] (.bool (eM s t)):=by
 refine aq.body dX rfl fun hl n0=>?_
 have hn:s.ah.length<=9223372036854775807:=by
  have h1:=(hl (.di (ab s)) (by simp)).Ce (a:=.sl (s.ah.map bH)) (by simp[ab])
  simpa using h1.len
 clear hl
 have hw:IntKind.i64.wrap ((s.ah.length:Int)-1)=(s.ah.length:Int)-1:=bz (by omega)
 have h:=lR t 0 ((s.ah.length:Int)-1)
 (repeat(first|((repeat(revert hN;revert N;apply Pn.out));refine wk (tw @ab.eq_1 @hw) ?_;(repeat(refine Pn.mk ?_;intro N hN)))|((try apply Or.inl);refine⟨_,aq.x (h) (sd (tw @ab.eq_1 @hw)),?_⟩;refine hN _ _ ?_;clear hN N)))
 exact aW (b:=eM s t) (.inl rfl) (by simp only[go_sem, ↓reduceIte,Nat.reduceEqDiff,Nat.reduceAdd,Nat.reduceSub,Nat.reduceLeDiff,reduceCtorEq,eM]) rfl
theorem yY (t n:Int) (h0:0<=n) (h1:n<=9223372036854775807):aq Tryz.prog 257 [.int .i64 t,.int .i64 n] (.bool (ja t 0 (n-1))):=by
 refine aq.body dX rfl fun hl n0=>?_
 clear hl
 have hw:IntKind.i64.wrap (n-1)=n-1:=bz (by omega)
 have h:=ll t 0 (n-1)
 (repeat(first|((repeat(revert hN;revert N;apply Pn.out));refine wk @hw ?_;(repeat(refine Pn.mk ?_;intro N hN)))|((try apply Or.inl);refine⟨_,aq.x (h) (sd @hw),?_⟩;refine hN _ _ ?_;clear hN N)))
 exact aW (b:=ja t 0 (n-1)) (.inl rfl) (sd @Nat.zero_add) rfl
theorem Jt (s:aw) (t:Int):aq Tryz.prog 203 [.agg (ab s),.int .i64 t] (.bool (eM s t)):=by
 refine aq.body dX rfl fun hl n0=>?_
 have hn:s.ah.length<=9223372036854775807:=by
  have h1:=(hl (.agg (ab s)) (by simp)).NQ (a:=.sl (s.ah.map bH)) (by simp[ab])
  simpa using h1.len
 clear hl
 have h:=yY t s.ah.length (by omega) (by omega)
 (repeat(first|((repeat(revert hN;revert N;apply Pn.out));refine wk @ab.eq_1 ?_;(repeat(refine Pn.mk ?_;intro N hN)))|((try apply Or.inl);refine⟨_,aq.x (h) (sd @ab.eq_1),?_⟩;refine hN _ _ ?_;clear hN N)))
 exact aW (b:=eM s t) (.inl rfl) (by simp only[go_sem, ↓reduceIte,Nat.reduceEqDiff,Nat.reduceAdd,Nat.reduceSub,Nat.reduceLeDiff,reduceCtorEq,eM]) rfl
def Ax:eT:=⟨⟨#[]⟩,[]⟩
def dw (s:aw) (t:Int):eT:=s.ah.getD t.toNat Ax
def dv (t:eT) (d:Int):Int:=t.bx.getD d.toNat 0
def qJ (s:aw) (g:Int):fB:=s.ax.getD g.toNat ⟨⟨#[]⟩,0⟩
def tG (s:aw) (g:Int):Int:=if g=0 then 0 else(qJ s (g-1)).eB
def gV (s:aw) (a d b:Int):Int:=if dv (dw s a) d=dv (dw s b) (tu d)then tG s (dv (dw s a) d)else 0
structure kN (s:aw):Prop where
 xq:∀t∈s.ah,t.bx.length=4
 wC:∀t∈s.ah,∀g∈t.bx,0<=g/\g<=s.ax.length
theorem getD_map {α β:Type} (e:α->β) {l:List α} {k:Nat} {d:α} (h:k<l.length):(l.map e)[k]? =some (e (l.getD k d)):=by simp[List.getD_eq_getElem?_getD,h]
theorem yd (s:aw) (g:Int) (h0:0<=g) (h1:g<=s.ax.length):aq Tryz.prog 225 [.di (ab s),.int .i64 g] (.int .i64 (tG s g)):=by
 refine aq.body dX rfl fun hl n0=>?_
 have hn:s.ax.length<=9223372036854775807:=by
  have h1:=(hl (.di (ab s)) (by simp)).Ce (a:=.sl (s.ax.map bV)) (by simp[ab])
  simpa using h1.len
 clear hl
 by_cases hg:g=0
 ·have e:decide (g=0)=true:=decide_eq_true hg
  (try((repeat(revert hN;revert N;apply Pn.out));refine wk (tw @ab.eq_1 @e) ?_;(repeat(refine Pn.mk ?_;intro N hN))))
  exact bW (b:=0) (.inl rfl) (sd @Nat.zero_add) (by rw[tG,if_pos hg])
 ·have e:decide (g=0)=false:=decide_eq_false hg
  have hw:IntKind.i64.wrap (g-1)=g-1:=bz (by omega)
  have qN:0<=g-1:=by omega
  have fc:(s.ax.map bV)[(g-1).toNat]? =some (bV (qJ s (g-1))):=getD_map bV (by omega)
  (try((repeat(revert hN;revert N;apply Pn.out));refine wk (tw @ab.eq_1 (tw @e (tw @hw (tw @qN (tw @fc @bV.eq_1))))) ?_;(repeat(refine Pn.mk ?_;intro N hN))))
  exact bW (b:=(qJ s (g-1)).eB) (.inl rfl) (sd @Nat.zero_add) (by rw[tG,if_neg hg])
theorem pr {s:aw} {a:Int} (h:eM s a=true):0<=a/\(s.ah.map bH)[a.toNat]? =some (bH (dw s a))/\dw s a∈s.ah:=by
 have h':=eC h
 have dU:a.toNat<s.ah.length:=by omega
 refine⟨h'.1,getD_map bH dU,?_⟩
 unfold dw
 rw[List.getD_eq_getElem?_getD,List.getElem?_eq_getElem dU]
 exact List.getElem_mem dU
theorem pj {t:eT} {d:Int} (h:t.bx.length=4) (hd:ja d 0 3=true):(t.bx.map bh)[d.toNat]? =some [.int .i64 (dv t d)]:=by
 have:=eC hd
 exact getD_map bh (by omega)
theorem CL {t:eT} {d:Int} (h:t.bx.length=4) (hd:ja d 0 3=true):dv t d∈t.bx:=by
 have:=eC hd
 have dU:d.toNat<t.bx.length:=by omega
 unfold dv
 rw[List.getD_eq_getElem?_getD,List.getElem?_eq_getElem dU]
 exact List.getElem_mem dU
theorem Ay {d:Int} (hd:ja d 0 3=true):ja (tu d) 0 3=true:=by
 have:=eC hd
 refine kV ?_
 rw[tu,if_pos hd];omega
theorem y5 (s:aw) (hF:kN s) (a d b:Int) (ha:eM s a=true) (hb:eM s b=true) (hd:ja d 0 3=true):aq Tryz.prog 190 [.di (ab s),.int .i64 a,.int .i64 d,.int .i64 b] (.int .i64 (gV s a d b)):=by
 refine aq.body dX rfl fun hl n0=>?_
 clear hl
 obtain⟨a0,a1,a2⟩:=pr ha
 obtain⟨b0,b1,b2⟩:=pr hb
 have s1:=pj (hF.xq _ a2) hd
 have s2:=pj (hF.xq _ b2) (Ay hd)
 have gl:=hF.wC _ a2 _ (CL (hF.xq _ a2) hd)
 have d0:=(eC hd).1
 have d1:=(eC (Ay hd)).1
 have h:=Di d hd
 have hs:=yd s (dv (dw s a) d) gl.1 gl.2
 rw[ab]at hs
 by_cases e:dv (dw s a) d=dv (dw s b) (tu d)
 ·have e':decide (dv (dw s a) d=dv (dw s b) (tu d))=true:=decide_eq_true e
  (repeat(first|((repeat(revert hN;revert N;apply Pn.out));refine wk (tw @ab.eq_1 (tw @bH.eq_1 (tw @a0 (tw @a1 (tw @b0 (tw @b1 (tw @s1 (tw @s2 (tw @d0 (tw @d1 @e')))))))))) ?_;(repeat(refine Pn.mk ?_;intro N hN)))|((try apply Or.inl);refine⟨_,aq.x (h) (sd (tw @ab.eq_1 (tw @bH.eq_1 (tw @a0 (tw @a1 (tw @b0 (tw @b1 (tw @s1 (tw @s2 (tw @d0 (tw @d1 @e'))))))))))),?_⟩;refine hN _ _ ?_;clear hN N)|((try apply Or.inl);refine⟨_,aq.x (hs) (sd (tw @ab.eq_1 (tw @bH.eq_1 (tw @a0 (tw @a1 (tw @b0 (tw @b1 (tw @s1 (tw @s2 (tw @d0 (tw @d1 @e'))))))))))),?_⟩;refine hN _ _ ?_;clear hN N)))
  exact bW (b:=tG s (dv (dw s a) d)) (.inl rfl) (sd @Nat.zero_add) (by rw[gV,if_pos e])
 ·have e':decide (dv (dw s a) d=dv (dw s b) (tu d))=false:=decide_eq_false e
  (repeat(first|((repeat(revert hN;revert N;apply Pn.out));refine wk (tw @ab.eq_1 (tw @bH.eq_1 (tw @a0 (tw @a1 (tw @b0 (tw @b1 (tw @s1 (tw @s2 (tw @d0 (tw @d1 @e')))))))))) ?_;(repeat(refine Pn.mk ?_;intro N hN)))|((try apply Or.inl);refine⟨_,aq.x (h) (sd (tw @ab.eq_1 (tw @bH.eq_1 (tw @a0 (tw @a1 (tw @b0 (tw @b1 (tw @s1 (tw @s2 (tw @d0 (tw @d1 @e'))))))))))),?_⟩;refine hN _ _ ?_;clear hN N)))
  exact bW (b:=0) (.inl rfl) (sd @Nat.zero_add) (by rw[gV,if_neg e])
theorem EK (s:aw) (hF:kN s) (a d:Int) (ha:eM s a=true) (hd:ja d 0 3=true):aq Tryz.prog 305 [.agg (ab s),.int .i64 a,.int .i64 d] (.int .i64 (tG s (dv (dw s a) d))):=by
 refine aq.body dX rfl fun hl n0=>?_
 have hn:s.ax.length<=9223372036854775807:=by
  have h1:=(hl (.agg (ab s)) (by simp)).NQ (a:=.sl (s.ax.map bV)) (by simp[ab])
  simpa using h1.len
 clear hl
 obtain⟨a0,a1,a2⟩:=pr ha
 have s1:=pj (hF.xq _ a2) hd
 have gl:=hF.wC _ a2 _ (CL (hF.xq _ a2) hd)
 have d0:=(eC hd).1
 by_cases hg:dv (dw s a) d=0
 ·have e:¬(0<dv (dw s a) d):=by omega
  (try((repeat(revert hN;revert N;apply Pn.out));refine wk (tw @ab.eq_1 (tw @bH.eq_1 (tw @a0 (tw @a1 (tw @s1 (tw @d0 @e)))))) ?_;(repeat(refine Pn.mk ?_;intro N hN))))
  exact bW (b:=0) (.inl rfl) (sd @Nat.zero_add) (by rw[tG,if_pos hg])
 ·have e:0<dv (dw s a) d:=by omega
  have hw:IntKind.i64.wrap (dv (dw s a) d-1)=dv (dw s a) d-1:=bz (by omega)
  have qN:0<=dv (dw s a) d-1:=by omega
  have fc:(s.ax.map bV)[(dv (dw s a) d-1).toNat]? =some (bV (qJ s (dv (dw s a) d-1))):=getD_map bV (by omega)
  (try((repeat(revert hN;revert N;apply Pn.out));refine wk (tw @ab.eq_1 (tw @bH.eq_1 (tw @a0 (tw @a1 (tw @s1 (tw @d0 (tw @e (tw @hw (tw @qN (tw @fc @bV.eq_1)))))))))) ?_;(repeat(refine Pn.mk ?_;intro N hN))))
  exact bW (b:=(qJ s (dv (dw s a) d-1)).eB) (.inl rfl) (sd @Nat.zero_add) (by rw[tG,if_neg hg])
theorem Ir (s:aw) (hF:kN s) (a d b:Int) (ha:eM s a=true) (hb:eM s b=true) (hd:ja d 0 3=true):aq Tryz.prog 261 [.agg (ab s),.int .i64 a,.int .i64 d,.int .i64 b] (.int .i64 (gV s a d b)):=by
 refine aq.body dX rfl fun hl n0=>?_
 clear hl
 obtain⟨a0,a1,a2⟩:=pr ha
 obtain⟨b0,b1,b2⟩:=pr hb
 have s1:=pj (hF.xq _ a2) hd
 have s2:=pj (hF.xq _ b2) (Ay hd)
 have d0:=(eC hd).1
 have d1:=(eC (Ay hd)).1
 have h:=El d hd
 have hs:=EK s hF a d ha hd
 rw[ab]at hs
 by_cases e:dv (dw s a) d=dv (dw s b) (tu d)
 ·have e':decide (dv (dw s a) d=dv (dw s b) (tu d))=true:=decide_eq_true e
  (repeat(first|((repeat(revert hN;revert N;apply Pn.out));refine wk (tw @ab.eq_1 (tw @bH.eq_1 (tw @a0 (tw @a1 (tw @b0 (tw @b1 (tw @s1 (tw @s2 (tw @d0 (tw @d1 @e')))))))))) ?_;(repeat(refine Pn.mk ?_;intro N hN)))|((try apply Or.inl);refine⟨_,aq.x (h) (sd (tw @ab.eq_1 (tw @bH.eq_1 (tw @a0 (tw @a1 (tw @b0 (tw @b1 (tw @s1 (tw @s2 (tw @d0 (tw @d1 @e'))))))))))),?_⟩;refine hN _ _ ?_;clear hN N)|((try apply Or.inl);refine⟨_,aq.x (hs) (sd (tw @ab.eq_1 (tw @bH.eq_1 (tw @a0 (tw @a1 (tw @b0 (tw @b1 (tw @s1 (tw @s2 (tw @d0 (tw @d1 @e'))))))))))),?_⟩;refine hN _ _ ?_;clear hN N)))
  exact bW (b:=tG s (dv (dw s a) d)) (.inl rfl) (sd @Nat.zero_add) (by rw[gV,if_pos e])
 ·have e':decide (dv (dw s a) d=dv (dw s b) (tu d))=false:=decide_eq_false e
  (repeat(first|((repeat(revert hN;revert N;apply Pn.out));refine wk (tw @ab.eq_1 (tw @bH.eq_1 (tw @a0 (tw @a1 (tw @b0 (tw @b1 (tw @s1 (tw @s2 (tw @d0 (tw @d1 @e')))))))))) ?_;(repeat(refine Pn.mk ?_;intro N hN)))|((try apply Or.inl);refine⟨_,aq.x (h) (sd (tw @ab.eq_1 (tw @bH.eq_1 (tw @a0 (tw @a1 (tw @b0 (tw @b1 (tw @s1 (tw @s2 (tw @d0 (tw @d1 @e'))))))))))),?_⟩;refine hN _ _ ?_;clear hN N)))
  exact bW (b:=0) (.inl rfl) (sd @Nat.zero_add) (by rw[gV,if_neg e])
def qb (s:aw) (i:Nat):fB:=s.ax.getD i ⟨⟨#[]⟩,0⟩
def po (s:aw) (i:Nat):eT:=s.ah.getD i Ax
def Df (s:aw) (i:Nat):Prop:=jS (qb s i).aE=true/\ja (qb s i).eB 1 4=true/\∀j,j<i->(qb s j).aE≠(qb s i).aE
def Bk (s:aw) (i:Nat):Prop:=jS (po s i).aE=true/\(po s i).bx.length=4/\(∀j,j<i->(po s j).aE≠(po s i).aE)/\∀g∈(po s i).bx,ja g 0 s.ax.length=true
structure iw (s:aw):Prop where
 wC:s.ax.length<=200
 some:1<=s.ah.length
 Kw:s.ah.length<=160
 SL:∀i,i<s.ax.length->Df s i
 tok:∀i,i<s.ah.length->Bk s i
noncomputable def rf (s:aw):Bool:=@decide (iw s) (Classical.propDecidable _)
theorem mL {s:aw}:rf s=true↔iw s:=by simp[rf]
theorem fE {s:aw} (h:¬iw s):false=rf s:=by simp[rf,h]
theorem CK {s:aw} (h:iw s):true=rf s:=by simp[rf,h]
theorem AN {s:aw} {i:Nat} (h:i<s.ah.length):(s.ah.map bH)[i]? =some (bH (po s i)):=getD_map bH h
theorem zZ {s:aw} {i:Nat} (h:i<s.ax.length):(s.ax.map bV)[i]? =some (bV (qb s i)):=getD_map bV h
theorem iw.form {s:aw} (h:iw s):kN s:=by
 have key:∀t∈s.ah,∃i,i<s.ah.length/\t=po s i:=fun t ht=>by
  obtain⟨i,hi,rfl⟩:=List.getElem_of_mem ht
  exact⟨i,hi,by simp[po,List.getD_eq_getElem?_getD,hi]⟩
 refine⟨fun t ht=>?_,fun t ht g hg=>?_⟩
 ·obtain⟨i,hi,rfl⟩:=key t ht
  exact(h.tok i hi).2.1
 ·obtain⟨i,hi,rfl⟩:=key t ht
  exact eC ((h.tok i hi).2.2.2 g hg)
def dy (l:List ByteArray):List (List AV):=l.map fun n=>[.str n,.bool true]
abbrev mS:MK:=⟨false,[.tS]⟩
theorem zr (n:ByteArray):∀(l:List ByteArray) (i:Nat),∃r,gm mS [.str n] (dy l) i=some r/\((r=none/\n∉l)∨∃j,r=some (i+j)/\n∈l/\(dy l)[j]? =some [.str n,.bool true])
 |[],i=>⟨none,rfl,.inl ⟨rfl,by simp⟩⟩
 |m::l,i=>by
  obtain⟨r,h1,h2⟩:=zr n l (i+1)
  by_cases h:n=m
  ·subst h
   exact⟨some i,by simp[dy,gm,eX,fX,MK.ks],.inr ⟨0,rfl,by simp,rfl⟩⟩
  ·refine⟨r,?_,?_⟩
   ·unfold dy at h1 ⊢
    simp only[List.map_cons,gm,MK.ks,List.length_cons,List.length_nil,Nat.zero_add,List.take_succ_cons,List.take_zero,eX,fX,h,decide_false,Bool.and_true]
    exact h1
   ·rcases h2 with⟨rfl,h2⟩|⟨j,rfl,h2,h3⟩
    ·exact .inl ⟨rfl,by simp[h,h2]⟩
    ·exact .inr ⟨j+1,by congr 1;omega,by simp[h2],by simpa[dy]using h3⟩
theorem xo (n:ByteArray) (l:List ByteArray):(n∉l/\fP mS (.str n) (dy l)=some none)∨∃j,n∈l/\fP mS (.str n) (dy l)=some (some j)/\(dy l)[j]? =some [.str n,.bool true]:=by
 obtain⟨r,h1,h2⟩:=zr n l 0
 have e:fP mS (.str n) (dy l)=some r:=by
  unfold fP
  rw[if_pos ⟨rfl,rfl,rfl⟩];exact h1
 rcases h2 with⟨rfl,h2⟩|⟨j,rfl,h2,h3⟩
 ·exact .inl ⟨h2,e⟩
 ·exact .inr ⟨j,h2,by rw[e,Nat.zero_add],h3⟩
theorem PA (s:aw) (g:Int):aq Tryz.prog 255 [.int .i64 g,.di (ab s)] (.bool (!ja g 0 s.ax.length)):=by
 refine aq.body dX rfl fun hl n0=>?_
 clear hl
 have h:=ll g 0 s.ax.length
 (repeat(first|((repeat(revert hN;revert N;apply Pn.out));refine wk @ab.eq_1 ?_;(repeat(refine Pn.mk ?_;intro N hN)))|((try apply Or.inl);refine⟨_,aq.x (h) (sd @ab.eq_1),?_⟩;refine hN _ _ ?_;clear hN N)))
 exact aW (b:= !ja g 0 s.ax.length) (.inl rfl) (sd @Nat.zero_add) rfl
theorem Lw:QH bh (fun c=>.int .i64 c) 1 false:=⟨fun _=>rfl,fun _=>rfl,fun x g=>by rw[ai,aD,aj];rfl⟩
theorem MF (s:aw) (l:List Int) (hl:l.length<=1048576):aq Tryz.prog 226 [.sl (l.map bh),.fn 255 [.di (ab s)]] (.bool (l.any fun g=> !ja g 0 s.ax.length)):=
 kR Lw (show me Tryz.prog 226=some (Aa 226 279) by kernel_rfl)
  (show me Tryz.prog 279=some (tj 279 1 false) by kernel_rfl) l hl _ _ _ rfl (fun g=>by rw[ai,aX,aj];rfl) (fun x _=>PA s x) fun g=>by rw[ai,aX,aj];rfl
theorem w5 {α:Type} (f:Nat->α) (n k:Nat) (x:α):x∉(List.range k).map f↔∀j,j<k->f j≠x:=by
 constructor
 ·intro h j hj he
  exact h (List.mem_map.2 ⟨j,List.mem_range.2 hj,he⟩)
 ·intro h hm
  obtain⟨j,hj,he⟩:=List.mem_map.1 hm
  exact h j (List.mem_range.1 hj) he
theorem Dk (s:aw) (hn:fC s) (hg:s.ax.length<=1048576) (ht:s.ah.length<=1048576) (hs:∀t∈s.ah,t.bx.length<=1048576):aq Tryz.prog 199 [.agg (ab s)] (.bool (rf s)):=by
 refine aq.body dX rfl fun hl n0=>?_
 clear hl
 have Rq:∀i,i<s.ax.length->(qb s i).aE.size<=9223372036854775807:=fun i hi=>hn.1 _ (by simp[qb,List.getD_eq_getElem?_getD,hi])
 have RL:∀i,i<s.ah.length->(po s i).aE.size<=9223372036854775807:=fun i hi=>hn.2 _ (by simp[po,List.getD_eq_getElem?_getD,hi])
 have ya:∀i,i<s.ah.length->(po s i).bx.length<=1048576:=fun i hi=>hs _ (by simp[po,List.getD_eq_getElem?_getD,hi])
 have hw:=ll (s.ah.length:Int) 1 160
 by_cases h1:(200:Int)<(s.ax.length:Int)
 ·(try((repeat(revert hN;revert N;apply Pn.out));refine wk (tw @ab.eq_1 @h1) ?_;(repeat(refine Pn.mk ?_;intro N hN))))
  exact aW (b:=false) (.inl rfl) (sd @Nat.zero_add) (fE fun h=>by have:=h.wC;omega)
 by_cases h2:ja (s.ah.length:Int) 1 160=true
 ·have C3:=eC h2
  rw[h2]at hw
  (repeat(first|((repeat(revert hN;revert N;apply Pn.out));refine wk (tw @ab.eq_1 @h1) ?_;(repeat(refine Pn.mk ?_;intro N hN)))|((try apply Or.inl);refine⟨_,aq.x (hw) (sd (tw @ab.eq_1 @h1)),?_⟩;refine hN _ _ ?_;clear hN N)))
  refine aU (fun n env st=>∃k:Nat,n=(s.ax.length)-k/\k<=(s.ax.length)/\env 24=.int .i64 (k:Int)/\st.get ⟨199000000,n0⟩=some ⟨true,2,[ab s]⟩/\st.get ⟨199003000,n0+1+1⟩=some ⟨true,mS.pQ,dy ((List.range k).map fun i=>(qb s i).aE)⟩/\(∀j:Nat,j<k->Df s j)) (s.ax.length) ⟨0,by omega,by omega,by(try simp only[go_sem, ↓reduceIte,Nat.reduceEqDiff,Nat.reduceAdd,Nat.reduceSub,Nat.reduceLeDiff,reduceCtorEq,ab,List.range_zero,List.map_nil,dy]);try rfl,by(try simp only[go_sem, ↓reduceIte,Nat.reduceEqDiff,Nat.reduceAdd,Nat.reduceSub,Nat.reduceLeDiff,reduceCtorEq,ab,List.range_zero,List.map_nil,dy]);try rfl,by(try simp only[go_sem, ↓reduceIte,Nat.reduceEqDiff,Nat.reduceAdd,Nat.reduceSub,Nat.reduceLeDiff,reduceCtorEq,ab,List.range_zero,List.map_nil,dy]);try rfl,fun _ h=>absurd h (Nat.not_lt_zero _)⟩ ?_
  rintro n_a env_a st_a ⟨k,rfl,ale,a24,ag0,ag1,mc⟩ dC
  have a1:=dC 1 (by kernel_rfl);have a3:=dC 3 (by kernel_rfl);have a22:=dC 22 (by kernel_rfl);have a23:=dC 23 (by kernel_rfl)
  simp only[go_sem, ↓reduceIte,Nat.reduceEqDiff,Nat.reduceAdd,Nat.reduceSub,Nat.reduceLeDiff,reduceCtorEq,ab,List.range_zero,List.map_nil,dy]at a1 a3 a22 a23
  clear dC
  by_cases hk:(k:Int)<(s.ax.length:Int)
  ·have cD:∀{e:Env} {gg:Rows},(e 24=.int .i64 (IntKind.i64.wrap ((k:Int)+1)))->(gg ⟨199000000,n0⟩=some ⟨true,2,[ab s]⟩)->(gg ⟨199003000,n0+1+1⟩=some ⟨true,mS.pQ,dy ((List.range (k+1)).map fun i=>(qb s i).aE)⟩)->(Df s k)->∃m0,m0<(s.ax.length)-k/\∃k:Nat,m0=(s.ax.length)-k/\k<=(s.ax.length)/\e 24=.int .i64 (k:Int)/\gg ⟨199000000,n0⟩=some ⟨true,2,[ab s]⟩/\gg ⟨199003000,n0+1+1⟩=some ⟨true,mS.pQ,dy ((List.range k).map fun i=>(qb s i).aE)⟩/\(∀j:Nat,j<k->Df s j):=fun x1 x2 x3 x4=>⟨_,by omega,k+1,rfl,by omega,(by rw[x1,aA (by omega)]),x2,x3,(all_succ mc x4)⟩
   have fA:k<s.ax.length:=by omega
   have eR:=zZ fA
   have sN:=FH (qb s k).aE (Rq k fA)
   have K8:=ll (qb s k).eB 1 4
   have B3:=xo (qb s k).aE ((List.range k).map fun i=>(qb s i).aE)
   rw[w5 _ k]at B3
   have lx:(¬Df s k)->¬iw s:=fun h hp=>h (hp.SL k fA)
   generalize vg:qb s k=gl at *
   cases hb:jS gl.aE
   ·rw[hb]at sN
    (repeat(first|((repeat(revert hN;revert N;apply Pn.out));refine wk (tw @a24 (tw @ag0 (tw @ag1 (tw @a1 (tw @a3 (tw @a22 (tw @a23 (tw @hk (tw @eR (tw @bV.eq_1 @ab.eq_1)))))))))) ?_;(repeat(refine Pn.mk ?_;intro N hN)))|((try apply Or.inl);refine⟨_,aq.x (sN) (sd (tw @a24 (tw @ag0 (tw @ag1 (tw @a1 (tw @a3 (tw @a22 (tw @a23 (tw @hk (tw @eR (tw @bV.eq_1 @ab.eq_1))))))))))),?_⟩;refine hN _ _ ?_;clear hN N)))
    exact aW (b:=false) (.inl rfl) (sd @Nat.zero_add) (fE (lx fun h=>by rw[Df,vg,hb]at h;cases h.1))
   ·rw[hb]at sN
    rcases B3 with⟨DN,mi⟩|⟨j,fw,mi,fS⟩
    ·cases dH:ja gl.eB 1 4
     ·rw[dH]at K8
      (repeat(first|((repeat(revert hN;revert N;apply Pn.out));refine wk (tw @a24 (tw @ag0 (tw @ag1 (tw @a1 (tw @a3 (tw @a22 (tw @a23 (tw @hk (tw @eR (tw @mi (tw @bV.eq_1 @ab.eq_1))))))))))) ?_;(repeat(refine Pn.mk ?_;intro N hN)))|((try apply Or.inl);refine⟨_,aq.x (sN) (sd (tw @a24 (tw @ag0 (tw @ag1 (tw @a1 (tw @a3 (tw @a22 (tw @a23 (tw @hk (tw @eR (tw @mi (tw @bV.eq_1 @ab.eq_1)))))))))))),?_⟩;refine hN _ _ ?_;clear hN N)|((try apply Or.inl);refine⟨_,aq.x (K8) (sd (tw @a24 (tw @ag0 (tw @ag1 (tw @a1 (tw @a3 (tw @a22 (tw @a23 (tw @hk (tw @eR (tw @mi (tw @bV.eq_1 @ab.eq_1)))))))))))),?_⟩;refine hN _ _ ?_;clear hN N)))
      exact aW (b:=false) (.inl rfl) (sd @Nat.zero_add) (fE (lx fun h=>by rw[Df,vg,dH]at h;cases h.2.1))
     ·rw[dH]at K8
      have qO:dy ((List.range k).map fun i=>(qb s i).aE)++[[.str gl.aE,.bool true]]=dy (List.map (fun i=>(qb s i).aE) (List.range k++[k])):=by simp[dy,vg]
      (repeat(first|((repeat(revert hN;revert N;apply Pn.out));refine wk (tw @a24 (tw @ag0 (tw @ag1 (tw @a1 (tw @a3 (tw @a22 (tw @a23 (tw @hk (tw @eR (tw @mi (tw @bV.eq_1 @ab.eq_1))))))))))) ?_;(repeat(refine Pn.mk ?_;intro N hN)))|((try apply Or.inl);refine⟨_,aq.x (sN) (sd (tw @a24 (tw @ag0 (tw @ag1 (tw @a1 (tw @a3 (tw @a22 (tw @a23 (tw @hk (tw @eR (tw @mi (tw @bV.eq_1 @ab.eq_1)))))))))))),?_⟩;refine hN _ _ ?_;clear hN N)|((try apply Or.inl);refine⟨_,aq.x (K8) (sd (tw @a24 (tw @ag0 (tw @ag1 (tw @a1 (tw @a3 (tw @a22 (tw @a23 (tw @hk (tw @eR (tw @mi (tw @bV.eq_1 @ab.eq_1)))))))))))),?_⟩;refine hN _ _ ?_;clear hN N)))
      refine cD ?_ ?_ ?_ (⟨by rw[vg];exact hb,by rw[vg];exact dH,fun j hj=>by rw[vg];exact DN j hj⟩)
      all_goals simp only[go_sem, ↓reduceIte,Nat.reduceEqDiff,Nat.reduceAdd,Nat.reduceSub,Nat.reduceLeDiff,reduceCtorEq,a24,ag0,ag1,a1,a3,a22,a23,mi,qO]
    ·(repeat(first|((repeat(revert hN;revert N;apply Pn.out));refine wk (tw @a24 (tw @ag0 (tw @ag1 (tw @a1 (tw @a3 (tw @a22 (tw @a23 (tw @hk (tw @eR (tw @mi (tw @fS (tw @bV.eq_1 @ab.eq_1)))))))))))) ?_;(repeat(refine Pn.mk ?_;intro N hN)))|((try apply Or.inl);refine⟨_,aq.x (sN) (sd (tw @a24 (tw @ag0 (tw @ag1 (tw @a1 (tw @a3 (tw @a22 (tw @a23 (tw @hk (tw @eR (tw @mi (tw @fS (tw @bV.eq_1 @ab.eq_1))))))))))))),?_⟩;refine hN _ _ ?_;clear hN N)))
     exact aW (b:=false) (.inl rfl) (sd @Nat.zero_add) (fE (lx fun h=>by
      rw[Df,vg]at h
      obtain⟨i,hi,he⟩:=List.mem_map.1 fw
      exact h.2.2 i (List.mem_range.1 hi) he))
  ·have mh:k=s.ax.length:=by omega
   (try((repeat(revert hN;revert N;apply Pn.out));refine wk (tw @a24 (tw @ag0 (tw @ag1 (tw @a1 (tw @a3 (tw @a22 (tw @a23 (tw @hk @ab.eq_1)))))))) ?_;(repeat(refine Pn.mk ?_;intro N hN))))
   refine aU (fun n env st=>∃j:Nat,n=(s.ah.length)-j/\j<=(s.ah.length)/\env 52=.int .i64 (j:Int)/\st.get ⟨199000000,n0⟩=some ⟨true,2,[ab s]⟩/\st.get ⟨199011000,st_a.next+1⟩=some ⟨true,mS.pQ,dy ((List.range j).map fun i=>(po s i).aE)⟩/\(∀i:Nat,i<j->Bk s i)/\(st_a.next<st.next)) (s.ah.length) ⟨0,by omega,by omega,by(try simp only[go_sem, ↓reduceIte,Nat.reduceEqDiff,Nat.reduceAdd,Nat.reduceSub,Nat.reduceLeDiff,reduceCtorEq,a24,ag0,ag1,a1,a3,a22,a23,ab,List.range_zero,List.map_nil,dy]);try rfl,by(try simp only[go_sem, ↓reduceIte,Nat.reduceEqDiff,Nat.reduceAdd,Nat.reduceSub,Nat.reduceLeDiff,reduceCtorEq,a24,ag0,ag1,a1,a3,a22,a23,ab,List.range_zero,List.map_nil,dy]);try rfl,by(try simp only[go_sem, ↓reduceIte,Nat.reduceEqDiff,Nat.reduceAdd,Nat.reduceSub,Nat.reduceLeDiff,reduceCtorEq,a24,ag0,ag1,a1,a3,a22,a23,ab,List.range_zero,List.map_nil,dy]);try rfl,fun _ h=>absurd h (Nat.not_lt_zero _),(by(try dsimp only);omega)⟩ ?_
   rintro n_b env_b st_b ⟨j,rfl,ble,b52,bg0,bg1,bA0,bI0⟩ gh
   have b1:=gh 1 (by kernel_rfl);have b6:=gh 6 (by kernel_rfl);have Dn:=gh 50 (by kernel_rfl);have Dp:=gh 51 (by kernel_rfl)
   simp only[go_sem, ↓reduceIte,Nat.reduceEqDiff,Nat.reduceAdd,Nat.reduceSub,Nat.reduceLeDiff,reduceCtorEq,a24,ag0,ag1,a1,a3,a22,a23,ab,List.range_zero,List.map_nil,dy]at b1 b6 Dn Dp
   clear gh
   by_cases hj:(j:Int)<(s.ah.length:Int)
   ·have gn:∀{e:Env} {gg:Rows} {nx:Nat},(e 52=.int .i64 (IntKind.i64.wrap ((j:Int)+1)))->(gg ⟨199000000,n0⟩=some ⟨true,2,[ab s]⟩)->(gg ⟨199011000,st_a.next+1⟩=some ⟨true,mS.pQ,dy ((List.range (j+1)).map fun i=>(po s i).aE)⟩)->(Bk s j)->(st_a.next<nx)->∃m0,m0<(s.ah.length)-j/\∃j:Nat,m0=(s.ah.length)-j/\j<=(s.ah.length)/\e 52=.int .i64 (j:Int)/\gg ⟨199000000,n0⟩=some ⟨true,2,[ab s]⟩/\gg ⟨199011000,st_a.next+1⟩=some ⟨true,mS.pQ,dy ((List.range j).map fun i=>(po s i).aE)⟩/\(∀i:Nat,i<j->Bk s i)/\(st_a.next<nx):=fun x1 x2 x3 x4 x5=>⟨_,by omega,j+1,rfl,by omega,(by rw[x1,aA (by omega)]),x2,x3,(all_succ bA0 x4),x5⟩
    have iL:j<s.ah.length:=by omega
    have oh:=AN iL
    have sN:=FH (po s j).aE (RL j iL)
    have Ts:=MF s (po s j).bx (ya j iL)
    have B3:=xo (po s j).aE ((List.range j).map fun i=>(po s i).aE)
    rw[w5 _ j]at B3
    have lx:(¬Bk s j)->¬iw s:=fun h hp=>h (hp.tok j iL)
    have gZ:(⟨199011000,st_a.next+1⟩:Id)≠⟨199000000,n0⟩:=by simp
    generalize htd:po s j=tl at *
    cases hb:jS tl.aE
    ·rw[hb]at sN
     (repeat(first|((repeat(revert hN;revert N;apply Pn.out));refine wk (tw @b52 (tw @bg0 (tw @bg1 (tw @b1 (tw @b6 (tw @Dn (tw @Dp (tw @hj (tw @oh (tw @bH.eq_1 @ab.eq_1)))))))))) ?_;(repeat(refine Pn.mk ?_;intro N hN)))|((try apply Or.inl);refine⟨_,aq.x (sN) (sd (tw @b52 (tw @bg0 (tw @bg1 (tw @b1 (tw @b6 (tw @Dn (tw @Dp (tw @hj (tw @oh (tw @bH.eq_1 @ab.eq_1))))))))))),?_⟩;refine hN _ _ ?_;clear hN N)))
     exact aW (b:=false) (.inl rfl) (sd @Nat.zero_add) (fE (lx fun h=>by rw[Bk,htd,hb]at h;cases h.1))
    ·rw[hb]at sN
     rcases B3 with⟨DN,mi⟩|⟨i,fw,mi,fS⟩
     ·by_cases h4:(tl.bx.length:Int)=4
      ·have z7:decide ((tl.bx.length:Int)=4)=true:=decide_eq_true h4
       cases hany:tl.bx.any fun g=> !ja g 0 s.ax.length
       ·rw[hany]at Ts
        have qO:dy ((List.range j).map fun i=>(po s i).aE)++[[.str tl.aE,.bool true]]=dy (List.map (fun i=>(po s i).aE) (List.range j++[j])):=by simp[dy,htd]
        (repeat(first|((repeat(revert hN;revert N;apply Pn.out));refine wk (tw @b52 (tw @bg0 (tw @bg1 (tw @b1 (tw @b6 (tw @Dn (tw @Dp (tw @hj (tw @oh (tw @mi (tw @z7 (tw @bH.eq_1 @ab.eq_1)))))))))))) ?_;(repeat(refine Pn.mk ?_;intro N hN)))|((try apply Or.inl);refine⟨_,aq.x (sN) (sd (tw @b52 (tw @bg0 (tw @bg1 (tw @b1 (tw @b6 (tw @Dn (tw @Dp (tw @hj (tw @oh (tw @mi (tw @z7 (tw @bH.eq_1 @ab.eq_1))))))))))))),?_⟩;refine hN _ _ ?_;clear hN N)|((try apply Or.inl);refine⟨_,aq.x (Ts) (sd (tw @b52 (tw @bg0 (tw @bg1 (tw @b1 (tw @b6 (tw @Dn (tw @Dp (tw @hj (tw @oh (tw @mi (tw @z7 (tw @bH.eq_1 @ab.eq_1))))))))))))),?_⟩;refine hN _ _ ?_;clear hN N)))
        refine gn ?_ ?_ ?_ (⟨by rw[htd];exact hb,by rw[htd];omega,fun i hi=>(by rw[htd];exact DN i hi),fun g hg=>by rw[htd]at hg;have:=List.any_eq_false.1 hany g hg;simpa using this⟩) (by(try dsimp only);omega)
        all_goals simp only[go_sem, ↓reduceIte,Nat.reduceEqDiff,Nat.reduceAdd,Nat.reduceSub,Nat.reduceLeDiff,reduceCtorEq,b52,bg0,bg1,b1,b6,Dn,Dp,mi,qO]
       ·rw[hany]at Ts
        (repeat(first|((repeat(revert hN;revert N;apply Pn.out));refine wk (tw @b52 (tw @bg0 (tw @bg1 (tw @b1 (tw @b6 (tw @Dn (tw @Dp (tw @hj (tw @oh (tw @mi (tw @z7 (tw @bH.eq_1 @ab.eq_1)))))))))))) ?_;(repeat(refine Pn.mk ?_;intro N hN)))|((try apply Or.inl);refine⟨_,aq.x (sN) (sd (tw @b52 (tw @bg0 (tw @bg1 (tw @b1 (tw @b6 (tw @Dn (tw @Dp (tw @hj (tw @oh (tw @mi (tw @z7 (tw @bH.eq_1 @ab.eq_1))))))))))))),?_⟩;refine hN _ _ ?_;clear hN N)|((try apply Or.inl);refine⟨_,aq.x (Ts) (sd (tw @b52 (tw @bg0 (tw @bg1 (tw @b1 (tw @b6 (tw @Dn (tw @Dp (tw @hj (tw @oh (tw @mi (tw @z7 (tw @bH.eq_1 @ab.eq_1))))))))))))),?_⟩;refine hN _ _ ?_;clear hN N)))
        exact aW (b:=false) (.inl rfl) (sd @Nat.zero_add) (fE (lx fun h=>by
         rw[Bk,htd]at h
         obtain⟨g,hg,hq⟩:=List.any_eq_true.1 hany
         have:=h.2.2.2 g hg
         rw[this]at hq;cases hq))
      ·have z7:decide ((tl.bx.length:Int)=4)=false:=decide_eq_false h4
       (repeat(first|((repeat(revert hN;revert N;apply Pn.out));refine wk (tw @b52 (tw @bg0 (tw @bg1 (tw @b1 (tw @b6 (tw @Dn (tw @Dp (tw @hj (tw @oh (tw @mi (tw @z7 (tw @bH.eq_1 @ab.eq_1)))))))))))) ?_;(repeat(refine Pn.mk ?_;intro N hN)))|((try apply Or.inl);refine⟨_,aq.x (sN) (sd (tw @b52 (tw @bg0 (tw @bg1 (tw @b1 (tw @b6 (tw @Dn (tw @Dp (tw @hj (tw @oh (tw @mi (tw @z7 (tw @bH.eq_1 @ab.eq_1))))))))))))),?_⟩;refine hN _ _ ?_;clear hN N)))
       exact aW (b:=false) (.inl rfl) (sd @Nat.zero_add) (fE (lx fun h=>by rw[Bk,htd]at h;have:=h.2.1;omega))
     ·(repeat(first|((repeat(revert hN;revert N;apply Pn.out));refine wk (tw @b52 (tw @bg0 (tw @bg1 (tw @b1 (tw @b6 (tw @Dn (tw @Dp (tw @hj (tw @oh (tw @mi (tw @fS (tw @bH.eq_1 @ab.eq_1)))))))))))) ?_;(repeat(refine Pn.mk ?_;intro N hN)))|((try apply Or.inl);refine⟨_,aq.x (sN) (sd (tw @b52 (tw @bg0 (tw @bg1 (tw @b1 (tw @b6 (tw @Dn (tw @Dp (tw @hj (tw @oh (tw @mi (tw @fS (tw @bH.eq_1 @ab.eq_1))))))))))))),?_⟩;refine hN _ _ ?_;clear hN N)))
      exact aW (b:=false) (.inl rfl) (sd @Nat.zero_add) (fE (lx fun h=>by
       rw[Bk,htd]at h
       obtain⟨i,hi,he⟩:=List.mem_map.1 fw
       exact h.2.2.1 i (List.mem_range.1 hi) he))
   ·(try((repeat(revert hN;revert N;apply Pn.out));refine wk (tw @b52 (tw @bg0 (tw @bg1 (tw @b1 (tw @b6 (tw @Dn (tw @Dp (tw @hj @ab.eq_1)))))))) ?_;(repeat(refine Pn.mk ?_;intro N hN))))
    exact aW (b:=true) (.inl rfl) (sd @Nat.zero_add) (CK ⟨by omega,by omega,by omega,fun i hi=>mc i (by omega),fun i hi=>bA0 i (by omega)⟩)
 ·rw[Bool.not_eq_true]at h2
  rw[h2]at hw
  (repeat(first|((repeat(revert hN;revert N;apply Pn.out));refine wk (tw @ab.eq_1 @h1) ?_;(repeat(refine Pn.mk ?_;intro N hN)))|((try apply Or.inl);refine⟨_,aq.x (hw) (sd (tw @ab.eq_1 @h1)),?_⟩;refine hN _ _ ?_;clear hN N)))
  exact aW (b:=false) (.inl rfl) (sd @Nat.zero_add) (fE fun h=>by
   have h3:=h.some
   have h4:=h.Kw
   rw[kV ⟨by omega,by omega⟩]at h2;cases h2)
theorem uV {α:Type} {p:α->Bool} {xs:List α} {k:Nat} (hk:k<xs.length) (h1:p xs[k]=true) (h2:∀j (h:j<xs.length),j<k->p xs[j]=false):ko p xs=k:=by
 have:xs.findIdx p=k:=by rw[List.findIdx_eq hk];exact⟨h1,fun j hj=>h2 j (by omega) hj⟩
 rw[ko,this,if_pos hk]
theorem yG {α:Type} {p:α->Bool} {xs:List α} (h:∀j (h:j<xs.length),p xs[j]=false):ko p xs= -1:=by
 rw[ko,if_neg]
 rw[List.findIdx_lt_length]
 rintro⟨x,hx,LX⟩
 obtain⟨j,hj,rfl⟩:=List.getElem_of_mem hx
 rw[h j hj]at LX;cases LX
theorem zY {s:aw} {i:Nat} (h:i<s.ax.length):qb s i=s.ax[i]:=by simp[qb,List.getD_eq_getElem?_getD,h]
theorem AM {s:aw} {i:Nat} (h:i<s.ah.length):po s i=s.ah[i]:=by simp[po,List.getD_eq_getElem?_getD,h]
def KT (s:aw) (n:ByteArray):Int:=ko (fun g:fB=>decide (g.aE=n)) s.ax
def NA (s:aw) (n:ByteArray):Int:=ko (fun t:eT=>decide (t.aE=n)) s.ah
theorem GU (s:aw) (nm:ByteArray):aq Tryz.prog 238 [.di (ab s),.str nm] (.int .i64 (KT s nm+1)):=by
 refine aq.body dX rfl fun hl n0=>?_
 have hlen:s.ax.length<=9223372036854775807:=by
  have h1:=(hl (.di (ab s)) (by simp)).Ce (a:=.sl (s.ax.map bV)) (by simp[ab])
  simpa using h1.len
 clear hl
 (try((repeat(revert hN;revert N;apply Pn.out));refine wk @ab.eq_1 ?_;(repeat(refine Pn.mk ?_;intro N hN))))
 refine aU (fun n env st=>∃k:Nat,n=(s.ax.length)-k/\k<=(s.ax.length)/\env 5=.int .i64 (k:Int)/\(∀j:Nat,j<k->∀h:j<s.ax.length,decide (s.ax[j].aE=nm)=false)) (s.ax.length) ⟨0,by omega,by omega,sl @ab.eq_1,fun _ h=>absurd h (Nat.not_lt_zero _)⟩ ?_
 rintro n_a env_a st_a ⟨k,rfl,ale,a5,mc⟩ dC
 have a0:=dC 0 (by kernel_rfl);have a1:=dC 1 (by kernel_rfl)
 simp only[go_sem, ↓reduceIte,Nat.reduceEqDiff,Nat.reduceAdd,Nat.reduceSub,Nat.reduceLeDiff,reduceCtorEq,ab]at a0 a1
 clear dC
 by_cases hk:(k:Int)<(s.ax.length:Int)
 ·have cD:∀{e:Env},(e 5=.int .i64 (IntKind.i64.wrap ((k:Int)+1)))->(∀h:k<s.ax.length,decide (s.ax[k].aE=nm)=false)->∃m0,m0<(s.ax.length)-k/\∃k:Nat,m0=(s.ax.length)-k/\k<=(s.ax.length)/\e 5=.int .i64 (k:Int)/\(∀j:Nat,j<k->∀h:j<s.ax.length,decide (s.ax[j].aE=nm)=false):=fun x1 x2=>⟨_,by omega,k+1,rfl,by omega,(by rw[x1,aA (by omega)]),(all_succ mc x2)⟩
  have fA:k<s.ax.length:=by omega
  have eR:=zZ fA
  have e:=zY fA
  cases hd:decide ((qb s k).aE=nm)
  ·have Ta:=of_decide_eq_false hd
   (try((repeat(revert hN;revert N;apply Pn.out));refine wk (tw @a5 (tw @a0 (tw @a1 (tw @hk (tw @eR (tw @Ta (tw @hd (tw @bV.eq_1 @ab.eq_1)))))))) ?_;(repeat(refine Pn.mk ?_;intro N hN))))
   exact cD (sd (tw @a5 (tw @a0 @a1))) (fun _=>by rw[e]at hd;exact hd)
  ·have Ta:=of_decide_eq_true hd
   have hw:IntKind.i64.wrap ((k:Int)+1)=(k:Int)+1:=bz (by omega)
   (try((repeat(revert hN;revert N;apply Pn.out));refine wk (tw @a5 (tw @a0 (tw @a1 (tw @hk (tw @eR (tw @hd (tw @hw (tw @bV.eq_1 @ab.eq_1)))))))) ?_;(repeat(refine Pn.mk ?_;intro N hN))))
   exact bW (b:=(k:Int)+1) (.inl rfl) (sd @Nat.zero_add) (by rw[KT,uV fA (by rw[e]at hd;exact hd) fun j h hj=>mc j hj h])
 ·(try((repeat(revert hN;revert N;apply Pn.out));refine wk (tw @a5 (tw @a0 (tw @a1 (tw @hk @ab.eq_1)))) ?_;(repeat(refine Pn.mk ?_;intro N hN))))
  exact bW (b:=0) (.inl rfl) (sd @Nat.zero_add) (by rw[KT,yG fun j h=>mc j (by omega) h];rfl)
theorem GV (s:aw) (nm:ByteArray):aq Tryz.prog 239 [.di (ab s),.str nm] (.int .i64 (NA s nm)):=by
 refine aq.body dX rfl fun hl n0=>?_
 have hlen:s.ah.length<=9223372036854775807:=by
  have h1:=(hl (.di (ab s)) (by simp)).Ce (a:=.sl (s.ah.map bH)) (by simp[ab])
  simpa using h1.len
 clear hl
 (try((repeat(revert hN;revert N;apply Pn.out));refine wk @ab.eq_1 ?_;(repeat(refine Pn.mk ?_;intro N hN))))
 refine aU (fun n env st=>∃k:Nat,n=(s.ah.length)-k/\k<=(s.ah.length)/\env 5=.int .i64 (k:Int)/\(∀j:Nat,j<k->∀h:j<s.ah.length,decide (s.ah[j].aE=nm)=false)) (s.ah.length) ⟨0,by omega,by omega,sl @ab.eq_1,fun _ h=>absurd h (Nat.not_lt_zero _)⟩ ?_
 rintro n_a env_a st_a ⟨k,rfl,ale,a5,mc⟩ dC
 have a0:=dC 0 (by kernel_rfl);have a1:=dC 1 (by kernel_rfl)
 simp only[go_sem, ↓reduceIte,Nat.reduceEqDiff,Nat.reduceAdd,Nat.reduceSub,Nat.reduceLeDiff,reduceCtorEq,ab]at a0 a1
 clear dC
 by_cases hk:(k:Int)<(s.ah.length:Int)
 ·have cD:∀{e:Env},(e 5=.int .i64 (IntKind.i64.wrap ((k:Int)+1)))->(∀h:k<s.ah.length,decide (s.ah[k].aE=nm)=false)->∃m0,m0<(s.ah.length)-k/\∃k:Nat,m0=(s.ah.length)-k/\k<=(s.ah.length)/\e 5=.int .i64 (k:Int)/\(∀j:Nat,j<k->∀h:j<s.ah.length,decide (s.ah[j].aE=nm)=false):=fun x1 x2=>⟨_,by omega,k+1,rfl,by omega,(by rw[x1,aA (by omega)]),(all_succ mc x2)⟩
  have fA:k<s.ah.length:=by omega
  have eR:=AN fA
  have e:=AM fA
  cases hd:decide ((po s k).aE=nm)
  ·(try((repeat(revert hN;revert N;apply Pn.out));refine wk (tw @a5 (tw @a0 (tw @a1 (tw @hk (tw @eR (tw @hd (tw @bH.eq_1 @ab.eq_1))))))) ?_;(repeat(refine Pn.mk ?_;intro N hN))))
   exact cD (sd (tw @a5 (tw @a0 @a1))) (fun _=>by rw[e]at hd;exact hd)
  ·(try((repeat(revert hN;revert N;apply Pn.out));refine wk (tw @a5 (tw @a0 (tw @a1 (tw @hk (tw @eR (tw @hd (tw @bH.eq_1 @ab.eq_1))))))) ?_;(repeat(refine Pn.mk ?_;intro N hN))))
   exact bW (b:=(k:Int)) (.inl rfl) (sd @Nat.zero_add) (by rw[NA,uV fA (by rw[e]at hd;exact hd) fun j h hj=>mc j hj h])
 ·(try((repeat(revert hN;revert N;apply Pn.out));refine wk (tw @a5 (tw @a0 (tw @a1 (tw @hk @ab.eq_1)))) ?_;(repeat(refine Pn.mk ?_;intro N hN))))
  exact bW (b:=-1) (.inl rfl) (sd @Nat.zero_add) (by rw[NA,yG fun j h=>mc j (by omega) h])
theorem Oh {s:aw} {i:Nat} (h:i<s.ax.length):KT s (qb s i).aE=i↔∀j,j<i->(qb s j).aE≠(qb s i).aE:=by
 constructor
 ·intro he j hj hc
  have ig:j<s.ax.length:=by omega
  have:s.ax.findIdx (fun g:fB=>decide (g.aE=(qb s i).aE))<=j:=by
   rcases Nat.lt_or_ge j (s.ax.findIdx fun g:fB=>decide (g.aE=(qb s i).aE))with dU|qN
   ·have:=List.not_of_lt_findIdx dU
    rw[<-zY ig]at this
    simp[hc]at this
   ·exact qN
  unfold KT ko at he
  split at he<;>omega
 ·intro hd
  exact uV h (by rw[<-zY h];simp) fun j ig hj=>by rw[<-zY ig];simpa using hd j hj
theorem PH {s:aw} {i:Nat} (h:i<s.ah.length):NA s (po s i).aE=i↔∀j,j<i->(po s j).aE≠(po s i).aE:=by
 constructor
 ·intro he j hj hc
  have ig:j<s.ah.length:=by omega
  have:s.ah.findIdx (fun g:eT=>decide (g.aE=(po s i).aE))<=j:=by
   rcases Nat.lt_or_ge j (s.ah.findIdx fun g:eT=>decide (g.aE=(po s i).aE))with dU|qN
   ·have:=List.not_of_lt_findIdx dU
    rw[<-AM ig]at this
    simp[hc]at this
   ·exact qN
  unfold NA ko at he
  split at he<;>omega
 ·intro hd
  exact uV h (by rw[<-AM h];simp) fun j ig hj=>by rw[<-AM ig];simpa using hd j hj
theorem Ma (s:aw) (hn:fC s) (hg:s.ax.length<=1048576) (ht:s.ah.length<=1048576):aq Tryz.prog 167 [.di (ab s)] (.bool (rf s)):=by
 refine aq.body dX rfl fun hl n0=>?_
 clear hl
 have Rq:∀i,i<s.ax.length->(qb s i).aE.size<=9223372036854775807:=fun i hi=>hn.1 _ (by simp[qb,List.getD_eq_getElem?_getD,hi])
 have RL:∀i,i<s.ah.length->(po s i).aE.size<=9223372036854775807:=fun i hi=>hn.2 _ (by simp[po,List.getD_eq_getElem?_getD,hi])
 by_cases h1:(200:Int)<(s.ax.length:Int)
 ·(try((repeat(revert hN;revert N;apply Pn.out));refine wk (tw @ab.eq_1 @h1) ?_;(repeat(refine Pn.mk ?_;intro N hN))))
  exact aW (b:=false) (.inl rfl) (sd @Nat.zero_add) (fE fun h=>by have:=h.wC;omega)
 by_cases h2:(s.ah.length:Int)<1
 ·(try((repeat(revert hN;revert N;apply Pn.out));refine wk (tw @ab.eq_1 (tw @h1 @h2)) ?_;(repeat(refine Pn.mk ?_;intro N hN))))
  exact aW (b:=false) (.inl rfl) (sd @Nat.zero_add) (fE fun h=>by have:=h.some;omega)
 by_cases h3:(160:Int)<(s.ah.length:Int)
 ·(try((repeat(revert hN;revert N;apply Pn.out));refine wk (tw @ab.eq_1 (tw @h1 (tw @h2 @h3))) ?_;(repeat(refine Pn.mk ?_;intro N hN))))
  exact aW (b:=false) (.inl rfl) (sd @Nat.zero_add) (fE fun h=>by have:=h.Kw;omega)
 (try((repeat(revert hN;revert N;apply Pn.out));refine wk (tw @ab.eq_1 (tw @h1 (tw @h2 @h3))) ?_;(repeat(refine Pn.mk ?_;intro N hN))))
 refine aU (fun n env st=>∃k:Nat,n=(s.ax.length)-k/\k<=(s.ax.length)/\env 3=.int .i64 (k:Int)/\(∀j:Nat,j<k->Df s j)) (s.ax.length) ⟨0,by omega,by omega,sl @ab.eq_1,fun _ h=>absurd h (Nat.not_lt_zero _)⟩ ?_
 rintro n_a env_a st_a ⟨k,rfl,ale,a3,mc⟩ dC
 have a0:=dC 0 (by kernel_rfl)
 simp only[go_sem, ↓reduceIte,Nat.reduceEqDiff,Nat.reduceAdd,Nat.reduceSub,Nat.reduceLeDiff,reduceCtorEq,ab]at a0
 clear dC
 by_cases hk:(k:Int)<(s.ax.length:Int)
 ·have cD:∀{e:Env},(e 3=.int .i64 (IntKind.i64.wrap ((k:Int)+1)))->(Df s k)->∃m0,m0<(s.ax.length)-k/\∃k:Nat,m0=(s.ax.length)-k/\k<=(s.ax.length)/\e 3=.int .i64 (k:Int)/\(∀j:Nat,j<k->Df s j):=fun x1 x2=>⟨_,by omega,k+1,rfl,by omega,(by rw[x1,aA (by omega)]),(all_succ mc x2)⟩
  have fA:k<s.ax.length:=by omega
  have eR:=zZ fA
  have sN:=FV (qb s k).aE (Rq k fA)
  have K8:=lR (qb s k).eB 1 4
  have GF:=GU s (qb s k).aE
  have rT:=Oh fA
  have lx:(¬Df s k)->¬iw s:=fun h hp=>h (hp.SL k fA)
  have hw:IntKind.i64.wrap ((k:Int)+1)=(k:Int)+1:=bz (by omega)
  generalize vg:qb s k=gl at *
  cases hb:jS gl.aE
  ·rw[hb]at sN
   (repeat(first|((repeat(revert hN;revert N;apply Pn.out));refine wk (tw @a3 (tw @a0 (tw @hk (tw @eR (tw @bV.eq_1 @ab.eq_1))))) ?_;(repeat(refine Pn.mk ?_;intro N hN)))|((try apply Or.inl);refine⟨_,aq.x (sN) (sd (tw @a3 (tw @a0 (tw @hk (tw @eR (tw @bV.eq_1 @ab.eq_1)))))),?_⟩;refine hN _ _ ?_;clear hN N)))
   exact aW (b:=false) (.inl rfl) (sd @Nat.zero_add) (fE (lx fun h=>by rw[Df,vg,hb]at h;cases h.1))
  rw[hb]at sN
  cases dH:ja gl.eB 1 4
  ·rw[dH]at K8
   (repeat(first|((repeat(revert hN;revert N;apply Pn.out));refine wk (tw @a3 (tw @a0 (tw @hk (tw @eR (tw @bV.eq_1 @ab.eq_1))))) ?_;(repeat(refine Pn.mk ?_;intro N hN)))|((try apply Or.inl);refine⟨_,aq.x (sN) (sd (tw @a3 (tw @a0 (tw @hk (tw @eR (tw @bV.eq_1 @ab.eq_1)))))),?_⟩;refine hN _ _ ?_;clear hN N)|((try apply Or.inl);refine⟨_,aq.x (K8) (sd (tw @a3 (tw @a0 (tw @hk (tw @eR (tw @bV.eq_1 @ab.eq_1)))))),?_⟩;refine hN _ _ ?_;clear hN N)))
   exact aW (b:=false) (.inl rfl) (sd @Nat.zero_add) (fE (lx fun h=>by rw[Df,vg,dH]at h;cases h.2.1))
  rw[dH]at K8
  rw[ab]at GF
  by_cases hq:KT s gl.aE=(k:Int)
  ·have hd:decide (KT s gl.aE+1=(k:Int)+1)=true:=decide_eq_true (by omega)
   have od:decide (KT s gl.aE=(k:Int))=true:=decide_eq_true hq
   (repeat(first|((repeat(revert hN;revert N;apply Pn.out));refine wk (tw @a3 (tw @a0 (tw @hk (tw @eR (tw @hw (tw @hd (tw @od (tw @bV.eq_1 @ab.eq_1)))))))) ?_;(repeat(refine Pn.mk ?_;intro N hN)))|((try apply Or.inl);refine⟨_,aq.x (sN) (sd (tw @a3 (tw @a0 (tw @hk (tw @eR (tw @hw (tw @hd (tw @od (tw @bV.eq_1 @ab.eq_1))))))))),?_⟩;refine hN _ _ ?_;clear hN N)|((try apply Or.inl);refine⟨_,aq.x (K8) (sd (tw @a3 (tw @a0 (tw @hk (tw @eR (tw @hw (tw @hd (tw @od (tw @bV.eq_1 @ab.eq_1))))))))),?_⟩;refine hN _ _ ?_;clear hN N)|((try apply Or.inl);refine⟨_,aq.x (GF) (sd (tw @a3 (tw @a0 (tw @hk (tw @eR (tw @hw (tw @hd (tw @od (tw @bV.eq_1 @ab.eq_1))))))))),?_⟩;refine hN _ _ ?_;clear hN N)))
   exact cD (sd (tw @a3 (tw @a0 @hw))) (⟨by rw[vg];exact hb,by rw[vg];exact dH,fun j hj=>by rw[vg];exact rT.1 hq j hj⟩)
  ·have hd:decide (KT s gl.aE+1=(k:Int)+1)=false:=decide_eq_false (by omega)
   have od:decide (KT s gl.aE=(k:Int))=false:=decide_eq_false hq
   (repeat(first|((repeat(revert hN;revert N;apply Pn.out));refine wk (tw @a3 (tw @a0 (tw @hk (tw @eR (tw @hw (tw @hd (tw @od (tw @bV.eq_1 @ab.eq_1)))))))) ?_;(repeat(refine Pn.mk ?_;intro N hN)))|((try apply Or.inl);refine⟨_,aq.x (sN) (sd (tw @a3 (tw @a0 (tw @hk (tw @eR (tw @hw (tw @hd (tw @od (tw @bV.eq_1 @ab.eq_1))))))))),?_⟩;refine hN _ _ ?_;clear hN N)|((try apply Or.inl);refine⟨_,aq.x (K8) (sd (tw @a3 (tw @a0 (tw @hk (tw @eR (tw @hw (tw @hd (tw @od (tw @bV.eq_1 @ab.eq_1))))))))),?_⟩;refine hN _ _ ?_;clear hN N)|((try apply Or.inl);refine⟨_,aq.x (GF) (sd (tw @a3 (tw @a0 (tw @hk (tw @eR (tw @hw (tw @hd (tw @od (tw @bV.eq_1 @ab.eq_1))))))))),?_⟩;refine hN _ _ ?_;clear hN N)))
   exact aW (b:=false) (.inl rfl) (sd @Nat.zero_add) (fE (lx fun h=>by
    rw[Df,vg]at h
    exact hq (rT.2 h.2.2)))
 ·have mh:k=s.ax.length:=by omega
  (try((repeat(revert hN;revert N;apply Pn.out));refine wk (tw @a3 (tw @a0 (tw @hk @ab.eq_1))) ?_;(repeat(refine Pn.mk ?_;intro N hN))))
  refine aU (fun n env st=>∃j:Nat,n=(s.ah.length)-j/\j<=(s.ah.length)/\env 5=.int .i64 (j:Int)/\(∀i:Nat,i<j->Bk s i)) (s.ah.length) ⟨0,by omega,by omega,sl (tw @a3 (tw @a0 @ab.eq_1)),fun _ h=>absurd h (Nat.not_lt_zero _)⟩ ?_
  rintro n_b env_b st_b ⟨j,rfl,ble,b5,bA0⟩ gh
  have b0:=gh 0 (by kernel_rfl)
  simp only[go_sem, ↓reduceIte,Nat.reduceEqDiff,Nat.reduceAdd,Nat.reduceSub,Nat.reduceLeDiff,reduceCtorEq,a3,a0,ab]at b0
  clear gh
  by_cases hj:(j:Int)<(s.ah.length:Int)
  ·have gn:∀{e:Env},(e 5=.int .i64 (IntKind.i64.wrap ((j:Int)+1)))->(Bk s j)->∃m0,m0<(s.ah.length)-j/\∃j:Nat,m0=(s.ah.length)-j/\j<=(s.ah.length)/\e 5=.int .i64 (j:Int)/\(∀i:Nat,i<j->Bk s i):=fun x1 x2=>⟨_,by omega,j+1,rfl,by omega,(by rw[x1,aA (by omega)]),(all_succ bA0 x2)⟩
   have iL:j<s.ah.length:=by omega
   have oh:=AN iL
   have sN:=FV (po s j).aE (RL j iL)
   have GF:=GV s (po s j).aE
   have rT:=PH iL
   have lx:(¬Bk s j)->¬iw s:=fun h hp=>h (hp.tok j iL)
   generalize htd:po s j=tl at *
   cases hb:jS tl.aE
   ·rw[hb]at sN
    (repeat(first|((repeat(revert hN;revert N;apply Pn.out));refine wk (tw @b5 (tw @b0 (tw @hj (tw @oh (tw @bH.eq_1 @ab.eq_1))))) ?_;(repeat(refine Pn.mk ?_;intro N hN)))|((try apply Or.inl);refine⟨_,aq.x (sN) (sd (tw @b5 (tw @b0 (tw @hj (tw @oh (tw @bH.eq_1 @ab.eq_1)))))),?_⟩;refine hN _ _ ?_;clear hN N)))
    exact aW (b:=false) (.inl rfl) (sd @Nat.zero_add) (fE (lx fun h=>by rw[Bk,htd,hb]at h;cases h.1))
   rw[hb]at sN
   by_cases h4:(tl.bx.length:Int)=4
   ·have z7:decide ((tl.bx.length:Int)=4)=true:=decide_eq_true h4
    rw[ab]at GF
    by_cases hq:NA s tl.aE=(j:Int)
    ·have hd:decide (NA s tl.aE=(j:Int))=true:=decide_eq_true hq
     (repeat(first|((repeat(revert hN;revert N;apply Pn.out));refine wk (tw @b5 (tw @b0 (tw @hj (tw @oh (tw @z7 (tw @hd (tw @bH.eq_1 @ab.eq_1))))))) ?_;(repeat(refine Pn.mk ?_;intro N hN)))|((try apply Or.inl);refine⟨_,aq.x (sN) (sd (tw @b5 (tw @b0 (tw @hj (tw @oh (tw @z7 (tw @hd (tw @bH.eq_1 @ab.eq_1)))))))),?_⟩;refine hN _ _ ?_;clear hN N)|((try apply Or.inl);refine⟨_,aq.x (GF) (sd (tw @b5 (tw @b0 (tw @hj (tw @oh (tw @z7 (tw @hd (tw @bH.eq_1 @ab.eq_1)))))))),?_⟩;refine hN _ _ ?_;clear hN N)))
     refine aU (fun n env st=>∃i:Nat,n=(4)-i/\i<=(4)/\env 7=.int .i64 (i:Int)/\st.get ⟨167012007,st_b.next+1⟩=some ⟨true,2,[bH tl]⟩/\(∀x:Nat,x<i->ja (tl.bx.getD x 0) 0 s.ax.length=true)) (4) ⟨0,by omega,by omega,sl (tw @b5 (tw @b0 (tw @bH.eq_1 @ab.eq_1))),sl (tw @b5 (tw @b0 (tw @bH.eq_1 @ab.eq_1))),fun _ h=>absurd h (Nat.not_lt_zero _)⟩ ?_
     rintro n_c env_c st_c ⟨i,rfl,cle,c7,cg0,cA0⟩ cfr
     have c0:=cfr 0 (by kernel_rfl);have c5:=cfr 5 (by kernel_rfl);have c6:=cfr 6 (by kernel_rfl)
     simp only[go_sem, ↓reduceIte,Nat.reduceEqDiff,Nat.reduceAdd,Nat.reduceSub,Nat.reduceLeDiff,reduceCtorEq,b5,b0,bH,ab]at c0 c5 c6
     clear cfr
     by_cases hi:(i:Int)<4
     ·have im:∀{e:Env} {gg:Rows},(e 7=.int .i64 (IntKind.i64.wrap ((i:Int)+1)))->(gg ⟨167012007,st_b.next+1⟩=some ⟨true,2,[bH tl]⟩)->(ja (tl.bx.getD i 0) 0 s.ax.length=true)->∃m0,m0<(4)-i/\∃i:Nat,m0=(4)-i/\i<=(4)/\e 7=.int .i64 (i:Int)/\gg ⟨167012007,st_b.next+1⟩=some ⟨true,2,[bH tl]⟩/\(∀x:Nat,x<i->ja (tl.bx.getD x 0) 0 s.ax.length=true):=fun x1 x2 x3=>⟨_,by omega,i+1,rfl,by omega,(by rw[x1,aA (by omega)]),x2,(all_succ cA0 x3)⟩
      have fw:i<tl.bx.length:=by omega
      have ke:(tl.bx.map bh)[i]? =some (bh (tl.bx.getD i 0)):=getD_map bh fw
      have tf:tl.bx.getD i 0∈tl.bx:=by rw[List.getD_eq_getElem?_getD,List.getElem?_eq_getElem fw];exact List.getElem_mem fw
      have Jb:=lR (tl.bx.getD i 0) 0 s.ax.length
      generalize OJ:tl.bx.getD i 0=gv at *
      cases hv:ja gv 0 s.ax.length
      ·rw[hv]at Jb
       (repeat(first|((repeat(revert hN;revert N;apply Pn.out));refine wk (tw @c7 (tw @cg0 (tw @c0 (tw @c5 (tw @c6 (tw @hi (tw @ke (tw @bh.eq_1 (tw @bH.eq_1 @ab.eq_1))))))))) ?_;(repeat(refine Pn.mk ?_;intro N hN)))|((try apply Or.inl);refine⟨_,aq.x (Jb) (sd (tw @c7 (tw @cg0 (tw @c0 (tw @c5 (tw @c6 (tw @hi (tw @ke (tw @bh.eq_1 (tw @bH.eq_1 @ab.eq_1)))))))))),?_⟩;refine hN _ _ ?_;clear hN N)))
       exact aW (b:=false) (.inl rfl) (sd @Nat.zero_add) (fE (lx fun h=>by
        rw[Bk,htd]at h
        have:=h.2.2.2 gv tf
        rw[hv]at this;cases this))
      ·rw[hv]at Jb
       (repeat(first|((repeat(revert hN;revert N;apply Pn.out));refine wk (tw @c7 (tw @cg0 (tw @c0 (tw @c5 (tw @c6 (tw @hi (tw @ke (tw @bh.eq_1 (tw @bH.eq_1 @ab.eq_1))))))))) ?_;(repeat(refine Pn.mk ?_;intro N hN)))|((try apply Or.inl);refine⟨_,aq.x (Jb) (sd (tw @c7 (tw @cg0 (tw @c0 (tw @c5 (tw @c6 (tw @hi (tw @ke (tw @bh.eq_1 (tw @bH.eq_1 @ab.eq_1)))))))))),?_⟩;refine hN _ _ ?_;clear hN N)))
       refine im ?_ ?_ (hv)
       all_goals simp only[go_sem, ↓reduceIte,Nat.reduceEqDiff,Nat.reduceAdd,Nat.reduceSub,Nat.reduceLeDiff,reduceCtorEq,c7,cg0,c0,c5,c6]
     ·have hi4:i=4:=by omega
      (try((repeat(revert hN;revert N;apply Pn.out));refine wk (tw @c7 (tw @cg0 (tw @c0 (tw @c5 (tw @c6 (tw @hi (tw @bH.eq_1 @ab.eq_1))))))) ?_;(repeat(refine Pn.mk ?_;intro N hN))))
      exact gn (sd (tw @b5 (tw @b0 (tw @c7 (tw @cg0 (tw @c0 (tw @c5 @c6))))))) (⟨by rw[htd];exact hb,by rw[htd];omega,fun x hx=>(by rw[htd];exact rT.1 hq x hx),fun g hg=>by
       rw[htd]at hg
       obtain⟨x,hx,rfl⟩:=List.getElem_of_mem hg
       have:=cA0 x (by omega)
       rwa [List.getD_eq_getElem?_getD,List.getElem?_eq_getElem hx]at this⟩)
    ·have hd:decide (NA s tl.aE=(j:Int))=false:=decide_eq_false hq
     (repeat(first|((repeat(revert hN;revert N;apply Pn.out));refine wk (tw @b5 (tw @b0 (tw @hj (tw @oh (tw @z7 (tw @hd (tw @bH.eq_1 @ab.eq_1))))))) ?_;(repeat(refine Pn.mk ?_;intro N hN)))|((try apply Or.inl);refine⟨_,aq.x (sN) (sd (tw @b5 (tw @b0 (tw @hj (tw @oh (tw @z7 (tw @hd (tw @bH.eq_1 @ab.eq_1)))))))),?_⟩;refine hN _ _ ?_;clear hN N)|((try apply Or.inl);refine⟨_,aq.x (GF) (sd (tw @b5 (tw @b0 (tw @hj (tw @oh (tw @z7 (tw @hd (tw @bH.eq_1 @ab.eq_1)))))))),?_⟩;refine hN _ _ ?_;clear hN N)))
     exact aW (b:=false) (.inl rfl) (sd @Nat.zero_add) (fE (lx fun h=>by
      rw[Bk,htd]at h
      exact hq (rT.2 h.2.2.1)))
   ·have z7:decide ((tl.bx.length:Int)=4)=false:=decide_eq_false h4
    (repeat(first|((repeat(revert hN;revert N;apply Pn.out));refine wk (tw @b5 (tw @b0 (tw @hj (tw @oh (tw @z7 (tw @bH.eq_1 @ab.eq_1)))))) ?_;(repeat(refine Pn.mk ?_;intro N hN)))|((try apply Or.inl);refine⟨_,aq.x (sN) (sd (tw @b5 (tw @b0 (tw @hj (tw @oh (tw @z7 (tw @bH.eq_1 @ab.eq_1))))))),?_⟩;refine hN _ _ ?_;clear hN N)))
    exact aW (b:=false) (.inl rfl) (sd @Nat.zero_add) (fE (lx fun h=>by rw[Bk,htd]at h;have:=h.2.1;omega))
  ·(try((repeat(revert hN;revert N;apply Pn.out));refine wk (tw @b5 (tw @b0 (tw @hj @ab.eq_1))) ?_;(repeat(refine Pn.mk ?_;intro N hN))))
   exact aW (b:=true) (.inl rfl) (sd @Nat.zero_add) (CK ⟨by omega,by omega,by omega,fun i hi=>mc i (by omega),fun i hi=>bA0 i (by omega)⟩)
end Go.Proofs.YtgoljkjaameagaaGreat.V

namespace Go.Proofs.YtgoljkjaameagaaGreat.V
def jR (a b:aI):Bool:=decide (a.eU<b.eU)||(decide (a.eU=b.eU)&&decide (a.eZ<b.eZ))
theorem vp {a b:aI}:jR a b=true↔a.eU<b.eU∨(a.eU=b.eU/\a.eZ<b.eZ):=by simp[jR]
theorem pM {a b:aI}:jR a b=false↔¬(a.eU<b.eU∨(a.eU=b.eU/\a.eZ<b.eZ)):=by rw[<-vp,Bool.not_eq_true]
theorem Er {a b:aI} (h1:a.eZ=b.eZ) (h2:a.eU=b.eU):a=b:=by cases a;cases b;simp_all
theorem jX {a b c:aI} (h:jR a b=true) (k:jR b c=true):jR a c=true:=by rw[vp]at *;omega
theorem ns {a:aI}:jR a a=false:=by rw[pM];omega
theorem JG {a b:aI} (h:jR a b=true):jR b a=false:=by rw[vp]at h;rw[pM];omega
theorem FN {a b:aI} (h:jR a b=false) (gZ:a≠b):jR b a=true:=by
 rw[pM]at h;rw[vp]
 by_cases hy:a.eU=b.eU
 ·by_cases hx:a.eZ=b.eZ
  ·exact absurd (Er hx hy) gZ
  ·omega
 ·omega
def rM (a b:Int):Int:=if a<b then -1 else if b<a then 1 else 0
def Mr (a b:Int):Int:=if a=0 then b else a
def rN (a b:aI):Int:=Mr (rM a.eU b.eU) (rM a.eZ b.eZ)
theorem uU (a b:aI):decide (rN a b<0)=jR a b:=by
 unfold rN Mr rM jR
 by_cases h1:a.eU<b.eU
 ·simp[h1]
 ·by_cases h2:b.eU<a.eU
  ·have:¬a.eU=b.eU:=by omega
   simp[h1,h2,this]
  ·have:a.eU=b.eU:=by omega
   by_cases h3:a.eZ<b.eZ
   ·simp[h1,h2,this,h3]
   ·by_cases h4:b.eZ<a.eZ<;>simp[h1,h2,this,h3,h4]
theorem Gg (a b:aI):(rN a b=0)↔a=b:=by
 cases a;cases b
 unfold rN Mr rM
 simp only[aI.mk.injEq]
 split<;>(try split)<;>(try split)<;>(try split)<;>omega
def JM:ad:=⟨⟨0,0⟩,0⟩
def aJ (l:List ad) (i:Nat):ad:=l.getD i JM
theorem fh {l:List ad} {i:Nat} (h:i<l.length):aJ l i=l[i]:=by simp[aJ,List.getD_eq_getElem?_getD,h]
theorem gK {l:List ad} {i:Nat} (h:i<l.length):aJ l i∈l:=by rw[fh h];exact List.getElem_mem h
def nS (l:List ad):Prop:=∀i j:Nat,i<j->j<l.length->jR (aJ l i).aO (aJ l j).aO=true
def qg (l:List ad) (p:aI):Nat:=l.findIdx fun c=>decide (c.aO=p)
def eF (l:List ad) (p:aI):Int:=if qg l p<l.length then(qg l p:Int)else -1
def mE (l:List ad) (p:aI):Nat:=l.findIdx fun c=> !jR c.aO p
theorem Ao {l:List ad} {p:aI} {i:Nat} (hi:i<=l.length) (h1:∀x,x<i->jR (aJ l x).aO p=true) (h2:i<l.length->jR (aJ l i).aO p=false):mE l p=i:=by
 unfold mE
 by_cases h:i<l.length
 ·rw[List.findIdx_eq h]
  refine⟨by have:=h2 h;rw[fh h]at this;simp[this],fun j hj=>?_⟩
  have:=h1 j hj
  rw[fh (by omega)]at this
  simp[this]
 ·have:i=l.length:=by omega
  subst this
  refine List.findIdx_eq_length_of_false fun x hx=>?_
  obtain⟨j,hj,rfl⟩:=List.getElem_of_mem hx
  have:=h1 j hj
  rw[fh hj]at this
  simp[this]
theorem Ap {l:List ad} {p:aI} (hR:nS l):eF l p=if mE l p<l.length/\(aJ l (mE l p)).aO=p then(mE l p:Int)else -1:=by
 by_cases h:∃i,i<l.length/\(aJ l i).aO=p
 ·obtain⟨i,hi,hp⟩:=h
  have h1:mE l p=i:=Ao (by omega) (fun x hx=>by rw[<-hp];exact hR x i hx hi) fun _=>by rw[hp];exact ns
  have h2:qg l p=i:=by
   rw[qg,List.findIdx_eq hi]
   refine⟨by rw[fh hi]at hp;simpa using hp,fun j hj=>?_⟩
   have:=hR j i hj hi
   rw[hp,fh (by omega)]at this
   simp only[decide_eq_false_iff_not]
   intro hc
   rw[hc,ns]at this
   cases this
  rw[eF,h1,h2,if_pos hi,if_pos ⟨hi,hp⟩]
 ·have h2:¬qg l p<l.length:=by
   rw[qg,List.findIdx_lt_length]
   rintro⟨c,hc,he⟩
   obtain⟨j,hj,rfl⟩:=List.getElem_of_mem hc
   exact h ⟨j,hj,by rw[fh hj];simpa using he⟩
  rw[eF,if_neg h2,if_neg]
  rintro⟨h3,h4⟩
  exact h ⟨_,h3,h4⟩
theorem lP {l:List ad} {p:aI} (h:0<=eF l p):(eF l p).toNat<l.length/\(aJ l (eF l p).toNat).aO=p:=by
 unfold eF at h ⊢
 split at h
 ·rename_i hc
  rw[if_pos hc]
  refine⟨by omega,?_⟩
  have:=of_decide_eq_true (List.findIdx_getElem (p:=fun c:ad=>decide (c.aO=p)) (xs:=l) (w:=hc))
  rw[Int.toNat_natCast,fh hc]
  exact this
 ·omega
def gF (l:List ad) (p:aI):Int:=if 0<=eF l p then(aJ l (eF l p).toNat).aV else -1
end Go.Proofs.YtgoljkjaameagaaGreat.V

namespace Go.Proofs.YtgoljkjaameagaaGreat.V
open Go.RowKit
attribute [local irreducible] dI wpOps gy Call
attribute [local go_sem] aM fG eQ fZ fY cQ upd cC K.av cP AV.cells AV.cell rowOf rowsOf part ld rowAt bt cu dE ee ik bJ dh ew fX eX dp ej dd dc dQ dR bQ bf cW bP cY cX eh ek ei cV b4 de ef bK aP da cG ij bw cK bU aY dn bc dF AV.undef bF bI dS ec dM dK cH ev eA cF ep eo cZ db List.getD_cons_zero List.getD_cons_succ List.getD_nil List.all_cons List.all_nil Bool.and_true Bool.true_and Bool.and_self Bool.not_true Bool.not_false Option.map_some Option.map_none Option.bind_some Option.bind_none List.length_cons List.length_nil List.take_succ_cons List.take_zero List.take_nil List.drop_succ_cons List.drop_zero List.drop_nil List.head?_cons List.map_cons List.map_nil List.getElem?_cons_zero List.getElem?_cons_succ List.cons_append List.nil_append List.append_nil List.length_map List.set_cons_zero List.set_cons_succ Nat.reduceMul eq_self Int.toNat_natCast Int.natCast_nonneg and_self true_and and_true decide_true decide_false Bool.false_eq_true Nat.zero_add Nat.add_zero List.contains_cons List.contains_nil Bool.or_false Bool.false_or beq_self_eq_true Nat.reduceBEq ne_eq not_true_eq_false not_false_eq_true Id.mk.injEq false_and and_false Nat.reduceLT Int.reduceLE Int.reduceLT Int.reduceToNat Int.reduceNeg Int.reduceAdd Nat.le_refl List.length_append beq_true beq_false Bool.not_eq_eq_eq_not or_false false_or dJ ai aj aD bp bE cq aT bd aX bj cR bG
theorem ox (a b:aI):aq Tryz.prog 175 [.agg (ae a),.agg (ae b)] (.bool (jR a b)):=by
 refine aq.body dX rfl fun hl n0=>?_
 clear hl
 by_cases h0:a.eU<b.eU
 ·(try((repeat(revert hN;revert N;apply Pn.out));refine wk (tw @ae.eq_1 @h0) ?_;(repeat(refine Pn.mk ?_;intro N hN))))
  exact aW (b:=true) (.inl rfl) (sd @Nat.zero_add) (by simp[jR,h0])
 ·by_cases h1:a.eU=b.eU
  ·have h2:¬b.eU<b.eU:=by omega
   (try((repeat(revert hN;revert N;apply Pn.out));refine wk (tw @ae.eq_1 (tw @h1 @h2)) ?_;(repeat(refine Pn.mk ?_;intro N hN))))
   exact aW (b:=decide (a.eZ<b.eZ)) (.inl rfl) (sd @Nat.zero_add) (by simp[jR,h1])
  ·(try((repeat(revert hN;revert N;apply Pn.out));refine wk (tw @ae.eq_1 (tw @h0 @h1)) ?_;(repeat(refine Pn.mk ?_;intro N hN))))
   exact aW (b:=false) (.inl rfl) (sd @Nat.zero_add) (by simp[jR,h0,h1])
theorem fx {l:List ad} {i:Nat} (h:i<l.length):(l.map aa)[i]? =some (aa (aJ l i)):=getD_map aa h
def E5 (l:List ad) (i:Nat):Prop:=CC (aJ l i).aO=true/\ja (aJ l i).aV 0 159=true/\(0<i->jR (aJ l (i-1)).aO (aJ l i).aO=true)
structure jL (l:List ad):Prop where
 rP:l.length<=500
 ok:∀i,i<l.length->E5 l i
noncomputable def oQ (l:List ad):Bool:=@decide (jL l) (Classical.propDecidable _)
theorem s7 {l:List ad}:oQ l=true↔jL l:=by simp[oQ]
theorem kd {l:List ad} (h:¬jL l):false=oQ l:=by simp[oQ,h]
theorem yJ {l:List ad} (h:jL l):true=oQ l:=by simp[oQ,h]
theorem jL.Hl {l:List ad} (h:jL l):nS l:=by
 intro i j DR hj
 induction j with
 |zero=>omega
 |succ j ih=>
  have h1:=(h.ok (j+1) hj).2.2 (by omega)
  rw[Nat.add_sub_cancel]at h1
  by_cases he:i=j
  ·subst he;exact h1
  ·exact jX (ih (by omega) (by omega)) h1
theorem jL.pt {l:List ad} (h:jL l) {i:Nat} (hi:i<l.length):CC (aJ l i).aO=true:=(h.ok i hi).1
theorem tz {p:aI} (h:CC p=true):iB p.eZ/\iB p.eU:=by
 unfold CC at h
 simp only[Bool.and_eq_true]at h
 have:=eC h.1;have:=eC h.2
 unfold iB;omega
theorem GW (l:List ad):aq Tryz.prog 219 [.di [.sl (l.map aa)]] (.bool (oQ l)):=by
 refine aq.body dX rfl fun hl n0=>?_
 clear hl
 by_cases h1:(500:Int)<(l.length:Int)
 ·(try((repeat(revert hN;revert N;apply Pn.out));refine wk @h1 ?_;(repeat(refine Pn.mk ?_;intro N hN))))
  exact aW (b:=false) (.inl rfl) (sd @Nat.zero_add) (kd fun h=>by have:=h.rP;omega)
 (try((repeat(revert hN;revert N;apply Pn.out));refine wk @h1 ?_;(repeat(refine Pn.mk ?_;intro N hN))))
 refine aU (fun n env st=>∃k:Nat,n=(l.length)-k/\k<=(l.length)/\env 3=.int .i64 (k:Int)/\(∀j:Nat,j<k->E5 l j)) (l.length) ⟨0,by omega,by omega,sl @Nat.zero_add,fun _ h=>absurd h (Nat.not_lt_zero _)⟩ ?_
 rintro n_a env_a st_a ⟨k,rfl,ale,a3,mc⟩ dC
 have a0:=dC 0 (by kernel_rfl)
 simp only[go_sem, ↓reduceIte,Nat.reduceEqDiff,Nat.reduceAdd,Nat.reduceSub,Nat.reduceLeDiff,reduceCtorEq]at a0
 clear dC
 by_cases hk:(k:Int)<(l.length:Int)
 ·have cD:∀{e:Env},(e 3=.int .i64 (IntKind.i64.wrap ((k:Int)+1)))->(E5 l k)->∃m0,m0<(l.length)-k/\∃k:Nat,m0=(l.length)-k/\k<=(l.length)/\e 3=.int .i64 (k:Int)/\(∀j:Nat,j<k->E5 l j):=fun x1 x2=>⟨_,by omega,k+1,rfl,by omega,(by rw[x1,aA (by omega)]),(all_succ mc x2)⟩
  have fA:k<l.length:=by omega
  have eR:=fx fA
  have lx:(¬E5 l k)->¬jL l:=fun h hp=>h (hp.ok k fA)
  have hp:=wP (aJ l k).aO
  have ht:=lR (aJ l k).aV 0 159
  cases b1:CC (aJ l k).aO
  ·rw[b1]at hp
   (repeat(first|((repeat(revert hN;revert N;apply Pn.out));refine wk (tw @a3 (tw @a0 (tw @hk (tw @eR (tw @aa.eq_1 @ae.eq_1))))) ?_;(repeat(refine Pn.mk ?_;intro N hN)))|((try apply Or.inl);refine⟨_,aq.x (hp) (sd (tw @a3 (tw @a0 (tw @hk (tw @eR (tw @aa.eq_1 @ae.eq_1)))))),?_⟩;refine hN _ _ ?_;clear hN N)))
   exact aW (b:=false) (.inl rfl) (sd @Nat.zero_add) (kd (lx fun h=>by rw[E5,b1]at h;cases h.1))
  rw[b1]at hp
  cases b2:ja (aJ l k).aV 0 159
  ·rw[b2]at ht
   (repeat(first|((repeat(revert hN;revert N;apply Pn.out));refine wk (tw @a3 (tw @a0 (tw @hk (tw @eR (tw @aa.eq_1 @ae.eq_1))))) ?_;(repeat(refine Pn.mk ?_;intro N hN)))|((try apply Or.inl);refine⟨_,aq.x (hp) (sd (tw @a3 (tw @a0 (tw @hk (tw @eR (tw @aa.eq_1 @ae.eq_1)))))),?_⟩;refine hN _ _ ?_;clear hN N)|((try apply Or.inl);refine⟨_,aq.x (ht) (sd (tw @a3 (tw @a0 (tw @hk (tw @eR (tw @aa.eq_1 @ae.eq_1)))))),?_⟩;refine hN _ _ ?_;clear hN N)))
   exact aW (b:=false) (.inl rfl) (sd @Nat.zero_add) (kd (lx fun h=>by rw[E5,b2]at h;cases h.2.1))
  rw[b2]at ht
  by_cases h0:(0:Int)<(k:Int)
  ·have wH:=fx (l:=l) (i:=k-1) (by omega)
   have hw:IntKind.i64.wrap ((k:Int)-1)=((k-1:Nat):Int):=by rw[bz (by have:=fA;omega)];omega
   have hq:=ox (aJ l (k-1)).aO (aJ l k).aO
   cases b3:jR (aJ l (k-1)).aO (aJ l k).aO
   ·rw[b3]at hq
    (repeat(first|((repeat(revert hN;revert N;apply Pn.out));refine wk (tw @a3 (tw @a0 (tw @hk (tw @eR (tw @wH (tw @h0 (tw @hw (tw @aa.eq_1 @ae.eq_1)))))))) ?_;(repeat(refine Pn.mk ?_;intro N hN)))|((try apply Or.inl);refine⟨_,aq.x (hp) (sd (tw @a3 (tw @a0 (tw @hk (tw @eR (tw @wH (tw @h0 (tw @hw (tw @aa.eq_1 @ae.eq_1))))))))),?_⟩;refine hN _ _ ?_;clear hN N)|((try apply Or.inl);refine⟨_,aq.x (ht) (sd (tw @a3 (tw @a0 (tw @hk (tw @eR (tw @wH (tw @h0 (tw @hw (tw @aa.eq_1 @ae.eq_1))))))))),?_⟩;refine hN _ _ ?_;clear hN N)|((try apply Or.inl);refine⟨_,aq.x (hq) (sd (tw @a3 (tw @a0 (tw @hk (tw @eR (tw @wH (tw @h0 (tw @hw (tw @aa.eq_1 @ae.eq_1))))))))),?_⟩;refine hN _ _ ?_;clear hN N)))
    exact aW (b:=false) (.inl rfl) (sd @Nat.zero_add) (kd (lx fun h=>by have:=h.2.2 (by omega);rw[b3]at this;cases this))
   ·rw[b3]at hq
    (repeat(first|((repeat(revert hN;revert N;apply Pn.out));refine wk (tw @a3 (tw @a0 (tw @hk (tw @eR (tw @wH (tw @h0 (tw @hw (tw @aa.eq_1 @ae.eq_1)))))))) ?_;(repeat(refine Pn.mk ?_;intro N hN)))|((try apply Or.inl);refine⟨_,aq.x (hp) (sd (tw @a3 (tw @a0 (tw @hk (tw @eR (tw @wH (tw @h0 (tw @hw (tw @aa.eq_1 @ae.eq_1))))))))),?_⟩;refine hN _ _ ?_;clear hN N)|((try apply Or.inl);refine⟨_,aq.x (ht) (sd (tw @a3 (tw @a0 (tw @hk (tw @eR (tw @wH (tw @h0 (tw @hw (tw @aa.eq_1 @ae.eq_1))))))))),?_⟩;refine hN _ _ ?_;clear hN N)|((try apply Or.inl);refine⟨_,aq.x (hq) (sd (tw @a3 (tw @a0 (tw @hk (tw @eR (tw @wH (tw @h0 (tw @hw (tw @aa.eq_1 @ae.eq_1))))))))),?_⟩;refine hN _ _ ?_;clear hN N)))
    exact cD (sd (tw @a3 @a0)) (⟨b1,b2,fun _=>b3⟩)
  ·have xL:k=0:=by omega
   (repeat(first|((repeat(revert hN;revert N;apply Pn.out));refine wk (tw @a3 (tw @a0 (tw @hk (tw @eR (tw @h0 (tw @aa.eq_1 @ae.eq_1)))))) ?_;(repeat(refine Pn.mk ?_;intro N hN)))|((try apply Or.inl);refine⟨_,aq.x (hp) (sd (tw @a3 (tw @a0 (tw @hk (tw @eR (tw @h0 (tw @aa.eq_1 @ae.eq_1))))))),?_⟩;refine hN _ _ ?_;clear hN N)|((try apply Or.inl);refine⟨_,aq.x (ht) (sd (tw @a3 (tw @a0 (tw @hk (tw @eR (tw @h0 (tw @aa.eq_1 @ae.eq_1))))))),?_⟩;refine hN _ _ ?_;clear hN N)))
   exact cD (sd (tw @a3 @a0)) (⟨b1,b2,fun h=>by omega⟩)
 ·(try((repeat(revert hN;revert N;apply Pn.out));refine wk (tw @a3 (tw @a0 @hk)) ?_;(repeat(refine Pn.mk ?_;intro N hN))))
  exact aW (b:=true) (.inl rfl) (sd @Nat.zero_add) (yJ ⟨by omega,fun i hi=>mc i (by omega)⟩)
theorem yC (a b:Int):aq Tryz.prog 210 [.int .i64 a,.int .i64 b] (.int .i64 (rM a b)):=by
 have nan:∀x:Int,aq Tryz.prog 273 [.int .i64 x] (.bool false):=fun x=>by
  refine aq.body dX rfl fun hl n0=>?_
  clear hl
  have e:decide (x=x)=true:=decide_eq_true rfl
  (try((repeat(revert hN;revert N;apply Pn.out));refine wk @e ?_;(repeat(refine Pn.mk ?_;intro N hN))))
  exact aW (b:=false) (.inl rfl) (sd @Nat.zero_add) rfl
 refine aq.body dX rfl fun hl n0=>?_
 clear hl
 have ha:=nan a
 have hb:=nan b
 by_cases h1:a<b
 ·(repeat(first|((repeat(revert hN;revert N;apply Pn.out));refine wk @h1 ?_;(repeat(refine Pn.mk ?_;intro N hN)))|((try apply Or.inl);refine⟨_,aq.x (ha) (sd @h1),?_⟩;refine hN _ _ ?_;clear hN N)|((try apply Or.inl);refine⟨_,aq.x (hb) (sd @h1),?_⟩;refine hN _ _ ?_;clear hN N)))
  exact bW (b:=-1) (.inl rfl) (sd @Nat.zero_add) (by rw[rM,if_pos h1])
 by_cases h2:b<a
 ·(repeat(first|((repeat(revert hN;revert N;apply Pn.out));refine wk (tw @h1 @h2) ?_;(repeat(refine Pn.mk ?_;intro N hN)))|((try apply Or.inl);refine⟨_,aq.x (ha) (sd (tw @h1 @h2)),?_⟩;refine hN _ _ ?_;clear hN N)|((try apply Or.inl);refine⟨_,aq.x (hb) (sd (tw @h1 @h2)),?_⟩;refine hN _ _ ?_;clear hN N)))
  exact bW (b:=1) (.inl rfl) (sd @Nat.zero_add) (by rw[rM,if_neg h1,if_pos h2])
 ·(repeat(first|((repeat(revert hN;revert N;apply Pn.out));refine wk (tw @h1 @h2) ?_;(repeat(refine Pn.mk ?_;intro N hN)))|((try apply Or.inl);refine⟨_,aq.x (ha) (sd (tw @h1 @h2)),?_⟩;refine hN _ _ ?_;clear hN N)|((try apply Or.inl);refine⟨_,aq.x (hb) (sd (tw @h1 @h2)),?_⟩;refine hN _ _ ?_;clear hN N)))
  exact bW (b:=0) (.inl rfl) (sd @Nat.zero_add) (by rw[rM,if_neg h1,if_neg h2])
def HX:List Int->Int
 |[]=>0
 |a::r=>if a=0 then HX r else a
theorem JR:∀{l:List Int} {k:Nat} (hk:k<l.length),l[k]≠0->(∀j (h:j<l.length),j<k->l[j]=0)->HX l=l[k]
 |a::r,0,_,h,_=>by
  have h':a≠0:=h
  rw[HX,if_neg h'];rfl
 |a::r,k+1,hk,h,h0=>by
  have h':a=0:=h0 0 (by simp) (by omega)
  rw[HX,if_pos h',JR (k:=k) (by simpa using hk) h fun j hj yP=>h0 (j+1) (by simpa using hj) (by omega)];rfl
theorem CA:∀{l:List Int},(∀j (h:j<l.length),l[j]=0)->HX l=0
 |[],_=>rfl
 |a::r,h=>by
  have h':a=0:=h 0 (by simp)
  rw[HX,if_pos h',CA fun j hj=>h (j+1) (by simpa using hj)]
theorem Ms (a b:Int):HX [a,b]=Mr a b:=by
 unfold Mr
 by_cases h:a=0
 ·rw[HX,if_pos h,if_pos h,HX,HX];split<;>simp_all
 ·rw[HX,if_neg h,if_neg h]
theorem Lq (l:List Int):aq Tryz.prog 233 [.sl (l.map bh)] (.int .i64 (HX l)):=by
 refine aq.body dX rfl fun hl n0=>?_
 have hlen:l.length<=9223372036854775807:=by simpa using(hl (.sl (l.map bh)) (by simp)).len
 clear hl
 (try((repeat(revert hN;revert N;apply Pn.out));refine wk @Nat.zero_add ?_;(repeat(refine Pn.mk ?_;intro N hN))))
 refine aU (fun n env st=>∃k:Nat,n=(l.length)-k/\k<=(l.length)/\env 8=.int .i64 (k:Int)/\(∀j:Nat,j<k->∀h:j<l.length,l[j]=0)) (l.length) ⟨0,by omega,by omega,sl @Nat.zero_add,fun _ h=>absurd h (Nat.not_lt_zero _)⟩ ?_
 rintro n_a env_a st_a ⟨k,rfl,ale,a8,mc⟩ dC
 have a3:=dC 3 (by kernel_rfl);have a6:=dC 6 (by kernel_rfl);have a7:=dC 7 (by kernel_rfl)
 simp only[go_sem, ↓reduceIte,Nat.reduceEqDiff,Nat.reduceAdd,Nat.reduceSub,Nat.reduceLeDiff,reduceCtorEq]at a3 a6 a7
 clear dC
 by_cases hk:(k:Int)<(l.length:Int)
 ·have cD:∀{e:Env},(e 8=.int .i64 (IntKind.i64.wrap ((k:Int)+1)))->(∀h:k<l.length,l[k]=0)->∃m0,m0<(l.length)-k/\∃k:Nat,m0=(l.length)-k/\k<=(l.length)/\e 8=.int .i64 (k:Int)/\(∀j:Nat,j<k->∀h:j<l.length,l[j]=0):=fun x1 x2=>⟨_,by omega,k+1,rfl,by omega,(by rw[x1,aA (by omega)]),(all_succ mc x2)⟩
  have fA:k<l.length:=by omega
  have eR:(l.map bh)[k]? =some (bh l[k]):=by simp[fA]
  generalize hv:l[k]=v at eR
  by_cases h0:v=0
  ·have e:decide (v=0)=true:=decide_eq_true h0
   (try((repeat(revert hN;revert N;apply Pn.out));refine wk (tw @a8 (tw @a3 (tw @a6 (tw @a7 (tw @e (tw @hk (tw @eR @bh.eq_1))))))) ?_;(repeat(refine Pn.mk ?_;intro N hN))))
   exact cD (sd (tw @a8 (tw @a3 (tw @a6 @a7)))) (fun _=>hv.trans h0)
  ·have e:decide (v=0)=false:=decide_eq_false h0
   (try((repeat(revert hN;revert N;apply Pn.out));refine wk (tw @a8 (tw @a3 (tw @a6 (tw @a7 (tw @e (tw @hk (tw @eR @bh.eq_1))))))) ?_;(repeat(refine Pn.mk ?_;intro N hN))))
   exact bW (b:=v) (.inl rfl) (sd @Nat.zero_add) (by rw[JR fA (by rw[hv];exact h0) fun j h hj=>mc j hj h,hv])
 ·(try((repeat(revert hN;revert N;apply Pn.out));refine wk (tw @a8 (tw @a3 (tw @a6 (tw @a7 @hk)))) ?_;(repeat(refine Pn.mk ?_;intro N hN))))
  exact bW (b:=0) (.inl rfl) (sd @Nat.zero_add) (by rw[CA fun j h=>mc j (by omega) h])
section
attribute [local go_sem] List.drop_zero List.take_succ_cons List.take_zero List.length_cons List.length_nil iA zX oU
theorem nJ (a b:aI):aq Tryz.prog 154 [.agg (ae a),.agg (ae b)] (.int .i64 (rN a b)):=by
 refine aq.body dX rfl fun hl n0=>?_
 clear hl
 have h1:=yC a.eU b.eU
 have h2:=yC a.eZ b.eZ
 have h3:=Lq [rM a.eU b.eU,rM a.eZ b.eZ]
 rw[Ms,List.map_cons,List.map_cons,List.map_nil,bh,bh]at h3
 (repeat(first|((repeat(revert hN;revert N;apply Pn.out));refine wk @ae.eq_1 ?_;(repeat(refine Pn.mk ?_;intro N hN)))|((try apply Or.inl);refine⟨_,aq.x (h1) (sd @ae.eq_1),?_⟩;refine hN _ _ ?_;clear hN N)|((try apply Or.inl);refine⟨_,aq.x (h2) (sd @ae.eq_1),?_⟩;refine hN _ _ ?_;clear hN N)|((try apply Or.inl);refine⟨_,aq.x (h3) (sd @ae.eq_1),?_⟩;refine hN _ _ ?_;clear hN N)))
 exact bW (b:=rN a b) (.inl rfl) (by simp only[go_sem, ↓reduceIte,Nat.reduceEqDiff,Nat.reduceAdd,Nat.reduceSub,Nat.reduceLeDiff,reduceCtorEq,rN]) rfl
end
theorem L3 (a b:aI):aq Tryz.prog 179 [.agg (ae a),.agg (ae b)] (.bool (jR a b)):=by
 refine aq.body dX rfl fun hl n0=>?_
 clear hl
 have h1:=nJ a b
 rw[ae,ae]at h1
 (repeat(first|((repeat(revert hN;revert N;apply Pn.out));refine wk @ae.eq_1 ?_;(repeat(refine Pn.mk ?_;intro N hN)))|((try apply Or.inl);refine⟨_,aq.x (h1) (sd @ae.eq_1),?_⟩;refine hN _ _ ?_;clear hN N)))
 exact aW (b:=decide (rN a b<0)) (.inl rfl) (sd @Nat.zero_add) (uU a b)
theorem kn (t:ad) (p:aI):aq Tryz.prog 164 [.agg (aa t),.agg (ae p)] (.int .i64 (rN t.aO p)):=by
 refine aq.body dX rfl fun hl n0=>?_
 clear hl
 have h1:=nJ t.aO p
 rw[ae,ae]at h1
 (repeat(first|((repeat(revert hN;revert N;apply Pn.out));refine wk (tw @aa.eq_1 @ae.eq_1) ?_;(repeat(refine Pn.mk ?_;intro N hN)))|((try apply Or.inl);refine⟨_,aq.x (h1) (sd (tw @aa.eq_1 @ae.eq_1)),?_⟩;refine hN _ _ ?_;clear hN N)))
 exact bW (b:=rN t.aO p) (.inl rfl) (sd @Nat.zero_add) rfl
theorem s9 (l:List ad):aq Tryz.prog 200 [.agg [.sl (l.map aa)]] (.bool (oQ l)):=by
 refine aq.body dX rfl fun hl n0=>?_
 have hlen:l.length<=9223372036854775807:=by
  have h1:=(hl (.agg [.sl (l.map aa)]) (by simp)).NQ (a:=.sl (l.map aa)) (by simp)
  simpa using h1.len
 clear hl
 (try((repeat(revert hN;revert N;apply Pn.out));refine wk @Nat.zero_add ?_;(repeat(refine Pn.mk ?_;intro N hN))))
 refine aU (fun n env st=>∃k:Nat,n=(l.length)-k/\k<=(l.length)/\env 8=.int .i64 (k:Int)/\st.get ⟨200000000,n0⟩=some ⟨true,1,[[.sl (l.map aa)]]⟩/\(∀j:Nat,j<k->E5 l j)) (l.length) ⟨0,by omega,by omega,sl @Nat.zero_add,sl @Nat.zero_add,fun _ h=>absurd h (Nat.not_lt_zero _)⟩ ?_
 rintro n_a env_a st_a ⟨k,rfl,ale,a8,ag0,mc⟩ dC
 have a1:=dC 1 (by kernel_rfl);have a6:=dC 6 (by kernel_rfl);have a7:=dC 7 (by kernel_rfl)
 simp only[go_sem, ↓reduceIte,Nat.reduceEqDiff,Nat.reduceAdd,Nat.reduceSub,Nat.reduceLeDiff,reduceCtorEq]at a1 a6 a7
 clear dC
 by_cases hk:(k:Int)<(l.length:Int)
 ·have cD:∀{e:Env} {gg:Rows},(e 8=.int .i64 (IntKind.i64.wrap ((k:Int)+1)))->(gg ⟨200000000,n0⟩=some ⟨true,1,[[.sl (l.map aa)]]⟩)->(E5 l k)->∃m0,m0<(l.length)-k/\∃k:Nat,m0=(l.length)-k/\k<=(l.length)/\e 8=.int .i64 (k:Int)/\gg ⟨200000000,n0⟩=some ⟨true,1,[[.sl (l.map aa)]]⟩/\(∀j:Nat,j<k->E5 l j):=fun x1 x2 x3=>⟨_,by omega,k+1,rfl,by omega,(by rw[x1,aA (by omega)]),x2,(all_succ mc x3)⟩
  have fA:k<l.length:=by omega
  have eR:=fx fA
  have lx:(¬E5 l k)->¬jL l:=fun h hp=>h (hp.ok k fA)
  have hp:=rC (aJ l k).aO
  have ht:=yY (aJ l k).aV 160 (by omega) (by omega)
  rw[show(160:Int)-1=159 from rfl]at ht
  cases b1:CC (aJ l k).aO
  ·rw[b1]at hp
   (repeat(first|((repeat(revert hN;revert N;apply Pn.out));refine wk (tw @a8 (tw @ag0 (tw @a1 (tw @a6 (tw @a7 (tw @hk (tw @eR (tw @aa.eq_1 @ae.eq_1)))))))) ?_;(repeat(refine Pn.mk ?_;intro N hN)))|((try apply Or.inl);refine⟨_,aq.x (hp) (sd (tw @a8 (tw @ag0 (tw @a1 (tw @a6 (tw @a7 (tw @hk (tw @eR (tw @aa.eq_1 @ae.eq_1))))))))),?_⟩;refine hN _ _ ?_;clear hN N)))
   exact aW (b:=false) (.inl rfl) (sd @Nat.zero_add) (kd (lx fun h=>by rw[E5,b1]at h;cases h.1))
  rw[b1]at hp
  cases b2:ja (aJ l k).aV 0 159
  ·rw[b2]at ht
   (repeat(first|((repeat(revert hN;revert N;apply Pn.out));refine wk (tw @a8 (tw @ag0 (tw @a1 (tw @a6 (tw @a7 (tw @hk (tw @eR (tw @aa.eq_1 @ae.eq_1)))))))) ?_;(repeat(refine Pn.mk ?_;intro N hN)))|((try apply Or.inl);refine⟨_,aq.x (hp) (sd (tw @a8 (tw @ag0 (tw @a1 (tw @a6 (tw @a7 (tw @hk (tw @eR (tw @aa.eq_1 @ae.eq_1))))))))),?_⟩;refine hN _ _ ?_;clear hN N)|((try apply Or.inl);refine⟨_,aq.x (ht) (sd (tw @a8 (tw @ag0 (tw @a1 (tw @a6 (tw @a7 (tw @hk (tw @eR (tw @aa.eq_1 @ae.eq_1))))))))),?_⟩;refine hN _ _ ?_;clear hN N)))
   exact aW (b:=false) (.inl rfl) (sd @Nat.zero_add) (kd (lx fun h=>by rw[E5,b2]at h;cases h.2.1))
  rw[b2]at ht
  by_cases h0:(0:Int)<(k:Int)
  ·have wH:=fx (l:=l) (i:=k-1) (by omega)
   have hw:IntKind.i64.wrap ((k:Int)-1)=((k-1:Nat):Int):=by rw[bz (by omega)];omega
   have hq:=L3 (aJ l (k-1)).aO (aJ l k).aO
   cases b3:jR (aJ l (k-1)).aO (aJ l k).aO
   ·rw[b3]at hq
    (repeat(first|((repeat(revert hN;revert N;apply Pn.out));refine wk (tw @a8 (tw @ag0 (tw @a1 (tw @a6 (tw @a7 (tw @hk (tw @eR (tw @wH (tw @h0 (tw @hw (tw @aa.eq_1 @ae.eq_1))))))))))) ?_;(repeat(refine Pn.mk ?_;intro N hN)))|((try apply Or.inl);refine⟨_,aq.x (hp) (sd (tw @a8 (tw @ag0 (tw @a1 (tw @a6 (tw @a7 (tw @hk (tw @eR (tw @wH (tw @h0 (tw @hw (tw @aa.eq_1 @ae.eq_1)))))))))))),?_⟩;refine hN _ _ ?_;clear hN N)|((try apply Or.inl);refine⟨_,aq.x (ht) (sd (tw @a8 (tw @ag0 (tw @a1 (tw @a6 (tw @a7 (tw @hk (tw @eR (tw @wH (tw @h0 (tw @hw (tw @aa.eq_1 @ae.eq_1)))))))))))),?_⟩;refine hN _ _ ?_;clear hN N)|((try apply Or.inl);refine⟨_,aq.x (hq) (sd (tw @a8 (tw @ag0 (tw @a1 (tw @a6 (tw @a7 (tw @hk (tw @eR (tw @wH (tw @h0 (tw @hw (tw @aa.eq_1 @ae.eq_1)))))))))))),?_⟩;refine hN _ _ ?_;clear hN N)))
    exact aW (b:=false) (.inl rfl) (sd @Nat.zero_add) (kd (lx fun h=>by have:=h.2.2 (by omega);rw[b3]at this;cases this))
   ·rw[b3]at hq
    (repeat(first|((repeat(revert hN;revert N;apply Pn.out));refine wk (tw @a8 (tw @ag0 (tw @a1 (tw @a6 (tw @a7 (tw @hk (tw @eR (tw @wH (tw @h0 (tw @hw (tw @aa.eq_1 @ae.eq_1))))))))))) ?_;(repeat(refine Pn.mk ?_;intro N hN)))|((try apply Or.inl);refine⟨_,aq.x (hp) (sd (tw @a8 (tw @ag0 (tw @a1 (tw @a6 (tw @a7 (tw @hk (tw @eR (tw @wH (tw @h0 (tw @hw (tw @aa.eq_1 @ae.eq_1)))))))))))),?_⟩;refine hN _ _ ?_;clear hN N)|((try apply Or.inl);refine⟨_,aq.x (ht) (sd (tw @a8 (tw @ag0 (tw @a1 (tw @a6 (tw @a7 (tw @hk (tw @eR (tw @wH (tw @h0 (tw @hw (tw @aa.eq_1 @ae.eq_1)))))))))))),?_⟩;refine hN _ _ ?_;clear hN N)|((try apply Or.inl);refine⟨_,aq.x (hq) (sd (tw @a8 (tw @ag0 (tw @a1 (tw @a6 (tw @a7 (tw @hk (tw @eR (tw @wH (tw @h0 (tw @hw (tw @aa.eq_1 @ae.eq_1)))))))))))),?_⟩;refine hN _ _ ?_;clear hN N)))
    refine cD ?_ ?_ (⟨b1,b2,fun _=>b3⟩)
    all_goals simp only[go_sem, ↓reduceIte,Nat.reduceEqDiff,Nat.reduceAdd,Nat.reduceSub,Nat.reduceLeDiff,reduceCtorEq,a8,ag0,a1,a6,a7]
  ·have xL:k=0:=by omega
   (repeat(first|((repeat(revert hN;revert N;apply Pn.out));refine wk (tw @a8 (tw @ag0 (tw @a1 (tw @a6 (tw @a7 (tw @hk (tw @eR (tw @h0 (tw @aa.eq_1 @ae.eq_1))))))))) ?_;(repeat(refine Pn.mk ?_;intro N hN)))|((try apply Or.inl);refine⟨_,aq.x (hp) (sd (tw @a8 (tw @ag0 (tw @a1 (tw @a6 (tw @a7 (tw @hk (tw @eR (tw @h0 (tw @aa.eq_1 @ae.eq_1)))))))))),?_⟩;refine hN _ _ ?_;clear hN N)|((try apply Or.inl);refine⟨_,aq.x (ht) (sd (tw @a8 (tw @ag0 (tw @a1 (tw @a6 (tw @a7 (tw @hk (tw @eR (tw @h0 (tw @aa.eq_1 @ae.eq_1)))))))))),?_⟩;refine hN _ _ ?_;clear hN N)))
   refine cD ?_ ?_ (⟨b1,b2,fun h=>by omega⟩)
   all_goals simp only[go_sem, ↓reduceIte,Nat.reduceEqDiff,Nat.reduceAdd,Nat.reduceSub,Nat.reduceLeDiff,reduceCtorEq,a8,ag0,a1,a6,a7]
 ·(try((repeat(revert hN;revert N;apply Pn.out));refine wk (tw @a8 (tw @ag0 (tw @a1 (tw @a6 (tw @a7 @hk))))) ?_;(repeat(refine Pn.mk ?_;intro N hN))))
  refine aW (b:=decide ((l.length:Int)<=500)) (.inl rfl) (sd @Nat.zero_add) ?_
  by_cases h5:(l.length:Int)<=500
  ·rw[decide_eq_true h5];exact yJ ⟨by omega,fun i hi=>mc i (by omega)⟩
  ·rw[decide_eq_false h5];exact kd fun h=>by have:=h.rP;omega
theorem yw (cells:List ad) (p:aI) (hR:nS cells) (Gw:cells.length<=1048576):
  aq Tryz.prog 163 [.sl (cells.map aa),.agg (ae p),.fn 164 []] (.gD [.int .i64 (mE cells p),.bool (decide (mE cells p<cells.length)&&decide ((aJ cells (mE cells p)).aO=p))]):=by
 refine aq.body dX rfl fun hl n0=>?_
 clear hl
 (try((repeat(revert hN;revert N;apply Pn.out));refine wk @ae.eq_1 ?_;(repeat(refine Pn.mk ?_;intro N hN))))
 refine aU (fun n env st=>∃i j:Nat,n=j-i/\i<=j/\j<=cells.length/\(∀x,x<i->jR (aJ cells x).aO p=true)/\(∀x,j<=x->x<cells.length->jR (aJ cells x).aO p=false)/\env 9=.int .i64 i/\env 10=.int .i64 j/\st.get ⟨163000000,n0⟩=some ⟨true,2,[ae p]⟩) cells.length ⟨0,cells.length,by omega,by omega,by omega,fun x h=>by omega,fun x h1 h2=>by omega,by(simp only[go_sem, ↓reduceIte,Nat.reduceEqDiff,Nat.reduceAdd,Nat.reduceSub,Nat.reduceLeDiff,reduceCtorEq])<;>rfl,sd @Nat.zero_add,sd @ae.eq_1⟩ ?_
 rintro n env st ⟨i,j,rfl,DR,hj,kq,C7,h9,h10,hg⟩ fr
 have h0:=fr 0 (by kernel_rfl)
 have h2:=fr 2 (by kernel_rfl)
 have h4:=fr 4 (by kernel_rfl)
 have h8:=fr 8 (by kernel_rfl)
 simp only[go_sem, ↓reduceIte,Nat.reduceEqDiff,Nat.reduceAdd,Nat.reduceSub,Nat.reduceLeDiff,reduceCtorEq]at h0 h2 h4 h8
 clear fr
 by_cases dU:(i:Int)<(j:Int)
 ·have e1:IntKind.i64.wrap ((i:Int)+j)=((i+j:Nat):Int):=by rw[bz (by omega)];rfl
  have hm:(i+j) / 2<cells.length:=by omega
  have fc:(cells.map aa)[(i+j) / 2]? =some (aa (aJ cells ((i+j) / 2))):=fx (l:=cells) hm
  have e2:IntKind.i64.wrap ((IntKind.u64.wrap ((i+j:Nat):Int)).fdiv (2 ^ min 1 IntKind.u64.bits))=(((i+j) / 2:Nat):Int):=by
   have h:IntKind.u64.wrap ((i+j:Nat):Int)=((i+j:Nat):Int):=by rw[IntKind.wrap_u64];omega
   rw[h,show min 1 IntKind.u64.bits=1 from rfl,show((2:Int) ^ 1)=2 from rfl,Int.fdiv_eq_ediv_of_nonneg _ (by omega)]
   rw[bz (by omega)];omega
  have QT:IntKind.i64.wrap ((IntKind.u64.wrap ((i+j:Nat):Int)).fdiv (2 ^ min 1 64))=(((i+j) / 2:Nat):Int):=e2
  have e3:=aA (k:=(i+j) / 2) (by omega)
  by_cases hc:rN (aJ cells ((i+j) / 2)).aO p<0
  ·have hl:jR (aJ cells ((i+j) / 2)).aO p=true:=by rw[<-uU];simpa using hc
   (repeat(first|((repeat(revert hN;revert N;apply Pn.out));refine wk (tw @h0 (tw @h2 (tw @h4 (tw @h8 (tw @h9 (tw @h10 (tw @hg (tw @dU (tw @e1 (tw @e2 (tw @QT (tw @fc (tw @hc (tw @aa.eq_1 @ae.eq_1)))))))))))))) ?_;(repeat(refine Pn.mk ?_;intro N hN)))|((try apply Or.inl);refine⟨_,aq.x (kn (aJ cells ((i+j) / 2)) p) (sd (tw @h0 (tw @h2 (tw @h4 (tw @h8 (tw @h9 (tw @h10 (tw @hg (tw @dU (tw @e1 (tw @e2 (tw @QT (tw @fc (tw @hc (tw @aa.eq_1 @ae.eq_1))))))))))))))),?_⟩;refine hN _ _ ?_;clear hN N)))
   refine⟨_,?_,(i+j) / 2+1,j,rfl,by omega,hj,fun x hx=>?_,C7,sd @e3,sd @h10,sd (tw @hg @ae.eq_1)⟩
   ·omega
   ·by_cases Pb:x=(i+j) / 2
    ·subst Pb;exact hl
    ·exact jX (hR x _ (by omega) hm) hl
  ·have hl:jR (aJ cells ((i+j) / 2)).aO p=false:=by rw[<-uU];simpa using hc
   (repeat(first|((repeat(revert hN;revert N;apply Pn.out));refine wk (tw @h0 (tw @h2 (tw @h4 (tw @h8 (tw @h9 (tw @h10 (tw @hg (tw @dU (tw @e1 (tw @e2 (tw @QT (tw @fc (tw @hc (tw @aa.eq_1 @ae.eq_1)))))))))))))) ?_;(repeat(refine Pn.mk ?_;intro N hN)))|((try apply Or.inl);refine⟨_,aq.x (kn (aJ cells ((i+j) / 2)) p) (sd (tw @h0 (tw @h2 (tw @h4 (tw @h8 (tw @h9 (tw @h10 (tw @hg (tw @dU (tw @e1 (tw @e2 (tw @QT (tw @fc (tw @hc (tw @aa.eq_1 @ae.eq_1))))))))))))))),?_⟩;refine hN _ _ ?_;clear hN N)))
   refine⟨_,?_,i,(i+j) / 2,rfl,by omega,by omega,kq,fun x h1 h2=>?_,sd @h9,sd (tw @e2 @QT),sd (tw @hg @ae.eq_1)⟩
   ·omega
   ·by_cases Pb:x=(i+j) / 2
    ·subst Pb;exact hl
    ·rw[Bool.eq_false_iff]
     intro hc
     have h3:=jX (hR ((i+j) / 2) x (by omega) h2) hc
     rw[hl]at h3;cases h3
 ·have OM:i=j:=by omega
  subst OM
  have BV:mE cells p=i:=Ao hj kq fun h=>C7 i (Nat.le_refl _) h
  by_cases hn:(i:Int)<(cells.length:Int)
  ·have fw:i<cells.length:=by omega
   have fc:(cells.map aa)[i]? =some (aa (aJ cells i)):=fx (l:=cells) fw
   have hd:decide (rN (aJ cells i).aO p=0)=decide ((aJ cells i).aO=p):=by simp only[Gg]
   (repeat(first|((repeat(revert hN;revert N;apply Pn.out));refine wk (tw @h0 (tw @h2 (tw @h4 (tw @h8 (tw @h9 (tw @h10 (tw @hg (tw @dU (tw @hn (tw @fc (tw @aa.eq_1 @ae.eq_1))))))))))) ?_;(repeat(refine Pn.mk ?_;intro N hN)))|((try apply Or.inl);refine⟨_,aq.x (kn (aJ cells i) p) (sd (tw @h0 (tw @h2 (tw @h4 (tw @h8 (tw @h9 (tw @h10 (tw @hg (tw @dU (tw @hn (tw @fc (tw @aa.eq_1 @ae.eq_1)))))))))))),?_⟩;refine hN _ _ ?_;clear hN N)))
   refine jC (.inl rfl) (r1:=.int .i64 i) (r2:=.bool (decide ((aJ cells i).aO=p))) ?_ ?_ ?_
   ·simp only[go_sem, ↓reduceIte,Nat.reduceEqDiff,Nat.reduceAdd,Nat.reduceSub,Nat.reduceLeDiff,reduceCtorEq]
   ·simp only[go_sem, ↓reduceIte,Nat.reduceEqDiff,Nat.reduceAdd,Nat.reduceSub,Nat.reduceLeDiff,reduceCtorEq,hd]
   ·simp only[eS,bB,cw,eG,fK,Option.map_some,BV,fw,decide_true,Bool.true_and]
  ·have fw:¬i<cells.length:=by omega
   (try((repeat(revert hN;revert N;apply Pn.out));refine wk (tw @h0 (tw @h2 (tw @h4 (tw @h8 (tw @h9 (tw @h10 (tw @hg (tw @dU (tw @hn (tw @aa.eq_1 @ae.eq_1)))))))))) ?_;(repeat(refine Pn.mk ?_;intro N hN))))
   refine jC (.inl rfl) (r1:=.int .i64 i) (r2:=.bool false) ?_ ?_ ?_
   ·simp only[go_sem, ↓reduceIte,Nat.reduceEqDiff,Nat.reduceAdd,Nat.reduceSub,Nat.reduceLeDiff,reduceCtorEq]
   ·simp only[go_sem, ↓reduceIte,Nat.reduceEqDiff,Nat.reduceAdd,Nat.reduceSub,Nat.reduceLeDiff,reduceCtorEq]
   ·simp only[eS,bB,cw,eG,fK,Option.map_some,BV,fw,decide_false,Bool.false_and]
theorem Hf (l:List ad) (p:aI) (hR:nS l) (Gw:l.length<=1048576):aq Tryz.prog 303 [.agg [.sl (l.map aa)],.agg (ae p)] (.int .i64 (eF l p)):=by
 refine aq.body dX rfl fun hl n0=>?_
 clear hl
 rw[Ap hR]
 have hb:=yw l p hR Gw
 rw[ae]at hb
 cases hf:(decide (mE l p<l.length)&&decide ((aJ l (mE l p)).aO=p))
 ·rw[hf]at hb
  (repeat(first|((repeat(revert hN;revert N;apply Pn.out));refine wk @ae.eq_1 ?_;(repeat(refine Pn.mk ?_;intro N hN)))|((try apply Or.inl);refine⟨_,aq.x (hb) (sd @ae.eq_1),?_⟩;refine hN _ _ ?_;clear hN N)))
  exact bW (b:=-1) (.inl rfl) (sd @Nat.zero_add) (by rw[if_neg];intro h;simp[h.1,h.2]at hf)
 ·rw[hf]at hb
  (repeat(first|((repeat(revert hN;revert N;apply Pn.out));refine wk @ae.eq_1 ?_;(repeat(refine Pn.mk ?_;intro N hN)))|((try apply Or.inl);refine⟨_,aq.x (hb) (sd @ae.eq_1),?_⟩;refine hN _ _ ?_;clear hN N)))
  exact bW (b:=(mE l p:Int)) (.inl rfl) (sd @Nat.zero_add) (by rw[if_pos];simpa using hf)
theorem TV (l:List ad) (p:aI) (hR:nS l) (Gw:l.length<=1048576):aq Tryz.prog 244 [.agg [.sl (l.map aa)],.agg (ae p)] (.int .i64 (gF l p)):=by
 refine aq.body dX rfl fun hl n0=>?_
 clear hl
 have hi:=Ap (l:=l) (p:=p) hR
 have hb:=yw l p hR Gw
 rw[ae]at hb
 cases hf:(decide (mE l p<l.length)&&decide ((aJ l (mE l p)).aO=p))
 ·rw[hf]at hb
  (repeat(first|((repeat(revert hN;revert N;apply Pn.out));refine wk @ae.eq_1 ?_;(repeat(refine Pn.mk ?_;intro N hN)))|((try apply Or.inl);refine⟨_,aq.x (hb) (sd @ae.eq_1),?_⟩;refine hN _ _ ?_;clear hN N)))
  exact bW (b:=-1) (.inl rfl) (sd @Nat.zero_add) (by
   have hx:eF l p= -1:=by rw[hi,if_neg (by intro h;simp[h.1,h.2]at hf)]
   rw[gF,hx];rfl)
 ·rw[hf]at hb
  have hc:mE l p<l.length/\(aJ l (mE l p)).aO=p:=by simpa using hf
  have hg:=fx hc.1
  (repeat(first|((repeat(revert hN;revert N;apply Pn.out));refine wk (tw @ae.eq_1 (tw @hg @aa.eq_1)) ?_;(repeat(refine Pn.mk ?_;intro N hN)))|((try apply Or.inl);refine⟨_,aq.x (hb) (sd (tw @ae.eq_1 (tw @hg @aa.eq_1))),?_⟩;refine hN _ _ ?_;clear hN N)))
  exact bW (b:=(aJ l (mE l p)).aV) (.inl rfl) (sd @Nat.zero_add) (by
   have hx:eF l p=(mE l p:Int):=by rw[hi,if_pos hc]
   rw[gF,hx,if_pos (by omega),Int.toNat_natCast])
theorem qV (l:List ad) (p:aI) (hR:nS l) (Gw:l.length<=1048576):aq Tryz.prog 173 [.di [.sl (l.map aa)],.agg (ae p)] (.int .i64 (eF l p)):=by
 refine aq.body dX rfl fun hl n0=>?_
 clear hl
 rw[Ap hR]
 (try((repeat(revert hN;revert N;apply Pn.out));refine wk @ae.eq_1 ?_;(repeat(refine Pn.mk ?_;intro N hN))))
 refine aU (fun n env st=>∃i j:Nat,n=j-i/\i<=j/\j<=l.length/\(∀x,x<i->jR (aJ l x).aO p=true)/\(∀x,j<=x->x<l.length->jR (aJ l x).aO p=false)/\env 5=.int .i64 i/\env 6=.int .i64 j/\st.get ⟨173000000,n0⟩=some ⟨true,2,[ae p]⟩) l.length ⟨0,l.length,by omega,by omega,by omega,fun x h=>by omega,fun x h1 h2=>by omega,by(simp only[go_sem, ↓reduceIte,Nat.reduceEqDiff,Nat.reduceAdd,Nat.reduceSub,Nat.reduceLeDiff,reduceCtorEq])<;>rfl,sd @Nat.zero_add,sd @ae.eq_1⟩ ?_
 rintro n env st ⟨i,j,rfl,DR,hj,kq,C7,h5,h6,hg⟩ fr
 have h0:=fr 0 (by kernel_rfl)
 have h3:=fr 3 (by kernel_rfl)
 simp only[go_sem, ↓reduceIte,Nat.reduceEqDiff,Nat.reduceAdd,Nat.reduceSub,Nat.reduceLeDiff,reduceCtorEq]at h0 h3
 clear fr
 by_cases dU:(i:Int)<(j:Int)
 ·have e1:IntKind.i64.wrap ((i:Int)+j)=((i+j:Nat):Int):=by rw[bz (by omega)];rfl
  have hm:(i+j) / 2<l.length:=by omega
  have fc:=fx hm
  have e2:IntKind.i64.wrap (((i+j:Nat):Int).tdiv 2)=(((i+j) / 2:Nat):Int):=by
   rw[Int.tdiv_eq_ediv_of_nonneg (by omega),bz (by omega)];omega
  have e3:=aA (k:=(i+j) / 2) (by omega)
  have hq:=ox (aJ l ((i+j) / 2)).aO p
  cases hl:jR (aJ l ((i+j) / 2)).aO p
  ·rw[hl]at hq
   (repeat(first|((repeat(revert hN;revert N;apply Pn.out));refine wk (tw @h0 (tw @h3 (tw @h5 (tw @h6 (tw @hg (tw @dU (tw @e1 (tw @e2 (tw @fc (tw @aa.eq_1 @ae.eq_1)))))))))) ?_;(repeat(refine Pn.mk ?_;intro N hN)))|((try apply Or.inl);refine⟨_,aq.x (hq) (sd (tw @h0 (tw @h3 (tw @h5 (tw @h6 (tw @hg (tw @dU (tw @e1 (tw @e2 (tw @fc (tw @aa.eq_1 @ae.eq_1))))))))))),?_⟩;refine hN _ _ ?_;clear hN N)))
   refine⟨_,?_,i,(i+j) / 2,rfl,by omega,by omega,kq,fun x h1 h2=>?_,sd @h5,sd @e2,sd (tw @hg @ae.eq_1)⟩
   ·omega
   ·by_cases Pb:x=(i+j) / 2
    ·subst Pb;exact hl
    ·rw[Bool.eq_false_iff]
     intro hc
     have h3:=jX (hR ((i+j) / 2) x (by omega) h2) hc
     rw[hl]at h3;cases h3
  ·rw[hl]at hq
   (repeat(first|((repeat(revert hN;revert N;apply Pn.out));refine wk (tw @h0 (tw @h3 (tw @h5 (tw @h6 (tw @hg (tw @dU (tw @e1 (tw @e2 (tw @fc (tw @aa.eq_1 @ae.eq_1)))))))))) ?_;(repeat(refine Pn.mk ?_;intro N hN)))|((try apply Or.inl);refine⟨_,aq.x (hq) (sd (tw @h0 (tw @h3 (tw @h5 (tw @h6 (tw @hg (tw @dU (tw @e1 (tw @e2 (tw @fc (tw @aa.eq_1 @ae.eq_1))))))))))),?_⟩;refine hN _ _ ?_;clear hN N)))
   refine⟨_,?_,(i+j) / 2+1,j,rfl,by omega,hj,fun x hx=>?_,C7,sd @e3,sd @h6,sd (tw @hg @ae.eq_1)⟩
   ·omega
   ·by_cases Pb:x=(i+j) / 2
    ·subst Pb;exact hl
    ·exact jX (hR x _ (by omega) hm) hl
 ·have OM:i=j:=by omega
  subst OM
  have BV:mE l p=i:=Ao hj kq fun h=>C7 i (Nat.le_refl _) h
  by_cases hn:(i:Int)<(l.length:Int)
  ·have fw:i<l.length:=by omega
   have fc:=fx fw
   by_cases hp:(aJ l i).aO=p
   ·have hx:decide ((aJ l i).aO.eZ=p.eZ)=true:=decide_eq_true (by rw[hp])
    have hy:decide ((aJ l i).aO.eU=p.eU)=true:=decide_eq_true (by rw[hp])
    (try((repeat(revert hN;revert N;apply Pn.out));refine wk (tw @h0 (tw @h3 (tw @h5 (tw @h6 (tw @hg (tw @dU (tw @hn (tw @fc (tw @hx (tw @hy (tw @aa.eq_1 @ae.eq_1))))))))))) ?_;(repeat(refine Pn.mk ?_;intro N hN))))
    exact bW (b:=(i:Int)) (.inl rfl) (sd @Nat.zero_add) (by rw[BV,if_pos ⟨fw,hp⟩])
   ·by_cases hx:(aJ l i).aO.eZ=p.eZ
    ·have vm:decide ((aJ l i).aO.eZ=p.eZ)=true:=decide_eq_true hx
     have hy':decide ((aJ l i).aO.eU=p.eU)=false:=decide_eq_false fun h=>hp (Er hx h)
     (try((repeat(revert hN;revert N;apply Pn.out));refine wk (tw @h0 (tw @h3 (tw @h5 (tw @h6 (tw @hg (tw @dU (tw @hn (tw @fc (tw @vm (tw @hy' (tw @aa.eq_1 @ae.eq_1))))))))))) ?_;(repeat(refine Pn.mk ?_;intro N hN))))
     exact bW (b:=-1) (.inl rfl) (sd @Nat.zero_add) (by rw[BV,if_neg fun h=>hp h.2])
    ·have vm:decide ((aJ l i).aO.eZ=p.eZ)=false:=decide_eq_false hx
     (try((repeat(revert hN;revert N;apply Pn.out));refine wk (tw @h0 (tw @h3 (tw @h5 (tw @h6 (tw @hg (tw @dU (tw @hn (tw @fc (tw @vm (tw @Bool.false_and (tw @aa.eq_1 @ae.eq_1))))))))))) ?_;(repeat(refine Pn.mk ?_;intro N hN))))
     exact bW (b:=-1) (.inl rfl) (sd @Nat.zero_add) (by rw[BV,if_neg fun h=>hp h.2])
  ·have fw:¬i<l.length:=by omega
   (try((repeat(revert hN;revert N;apply Pn.out));refine wk (tw @h0 (tw @h3 (tw @h5 (tw @h6 (tw @hg (tw @dU (tw @hn (tw @aa.eq_1 @ae.eq_1)))))))) ?_;(repeat(refine Pn.mk ?_;intro N hN))))
   exact bW (b:=-1) (.inl rfl) (sd @Nat.zero_add) (by rw[BV,if_neg fun h=>fw h.1])
theorem FJ (l:List ad) (p:aI) (hR:nS l) (Gw:l.length<=1048576):aq Tryz.prog 216 [.di [.sl (l.map aa)],.agg (ae p)] (.int .i64 (gF l p)):=by
 refine aq.body dX rfl fun hl n0=>?_
 clear hl
 have hb:=qV l p hR Gw
 by_cases hi:eF l p<0
 ·rw[ae]at hb
  (repeat(first|((repeat(revert hN;revert N;apply Pn.out));refine wk (tw @ae.eq_1 @hi) ?_;(repeat(refine Pn.mk ?_;intro N hN)))|((try apply Or.inl);refine⟨_,aq.x (hb) (sd (tw @ae.eq_1 @hi)),?_⟩;refine hN _ _ ?_;clear hN N)))
  exact bW (b:=-1) (.inl rfl) (sd @Nat.zero_add) (by rw[gF,if_neg (by omega)])
 ·have h0:0<=eF l p:=by omega
  have hg:=fx (lP h0).1
  rw[ae]at hb
  (repeat(first|((repeat(revert hN;revert N;apply Pn.out));refine wk (tw @ae.eq_1 (tw @hi (tw @h0 (tw @hg @aa.eq_1)))) ?_;(repeat(refine Pn.mk ?_;intro N hN)))|((try apply Or.inl);refine⟨_,aq.x (hb) (sd (tw @ae.eq_1 (tw @hi (tw @h0 (tw @hg @aa.eq_1))))),?_⟩;refine hN _ _ ?_;clear hN N)))
  exact bW (b:=(aJ l (eF l p).toNat).aV) (.inl rfl) (sd @Nat.zero_add) (by rw[gF,if_pos h0])
def jj (s:aw) (l:List ad):Prop:=jL l/\∀t∈l,eM s t.aV=true
noncomputable def qa (s:aw) (l:List ad):Bool:=oQ l&&l.all fun t=>eM s t.aV
theorem mm {s:aw} {l:List ad}:qa s l=true↔jj s l:=by simp[qa,jj,s7]
theorem wg:QH aa (fun c=>.agg (aa c)) 3 true:=⟨fun _=>rfl,fun _=>rfl,fun x g=>by simp only[aa,ai,aj,bd,aD,Option.map_some]⟩
theorem Hb (s:aw) (t:ad) (hs:s.ah.length<=1048576):aq Tryz.prog 202 [.agg (aa t),.di (ab s)] (.bool (!eM s t.aV)):=by
 refine aq.body dX rfl fun hl n0=>?_
 clear hl
 have h:=Jt s t.aV
 rw[ab]at h
 (repeat(first|((repeat(revert hN;revert N;apply Pn.out));refine wk (tw @aa.eq_1 @ab.eq_1) ?_;(repeat(refine Pn.mk ?_;intro N hN)))|((try apply Or.inl);refine⟨_,aq.x (h) (sd (tw @aa.eq_1 @ab.eq_1)),?_⟩;refine hN _ _ ?_;clear hN N)))
 exact aW (b:= !eM s t.aV) (.inl rfl) (sd @Nat.zero_add) rfl
theorem MN (s:aw) (l:List ad) (hs:s.ah.length<=1048576) (hl:l.length<=1048576):aq Tryz.prog 201 [.sl (l.map aa),.fn 202 [.di (ab s)]] (.bool (l.any fun t=> !eM s t.aV)):=
 kR wg (show me Tryz.prog 201=some (Aa 201 247) by kernel_rfl)
  (show me Tryz.prog 247=some (tj 247 3 true) by kernel_rfl) l hl _ _ _ rfl (fun g=>by rw[ai,aX,aj];rfl) (fun x _=>Hb s x hs) fun g=>by rw[ai,aX,aj];rfl
theorem E7 {α:Type} (p:α->Bool) (l:List α):(!l.any fun t=> !p t)=l.all p:=by
 induction l with
 |nil=>rfl
 |cons x l ih=>simp only[List.any_cons,List.all_cons,<-ih];cases p x<;>simp
theorem nH (s:aw) (l:List ad) (hn:fC s) (hg:s.ax.length<=1048576) (ht:s.ah.length<=1048576) (hs:∀t∈s.ah,t.bx.length<=1048576) (hl:l.length<=1048576):aq Tryz.prog 131 [.agg (ab s),.agg [.sl (l.map aa)]] (.bool (rf s&&qa s l)):=by
 refine aq.body dX rfl fun hl n0=>?_
 clear hl
 have h1:=Dk s hn hg ht hs
 have h2:=s9 l
 have h3:=MN s l ht hl
 rw[ab]at h1 h3
 cases b1:rf s
 ·rw[b1]at h1
  (repeat(first|((repeat(revert hN;revert N;apply Pn.out));refine wk @ab.eq_1 ?_;(repeat(refine Pn.mk ?_;intro N hN)))|((try apply Or.inl);refine⟨_,aq.x (h1) (sd @ab.eq_1),?_⟩;refine hN _ _ ?_;clear hN N)))
  exact aW (b:=false) (.inl rfl) (sd @Nat.zero_add) rfl
 rw[b1]at h1
 cases b2:oQ l
 ·rw[b2]at h2
  (repeat(first|((repeat(revert hN;revert N;apply Pn.out));refine wk @ab.eq_1 ?_;(repeat(refine Pn.mk ?_;intro N hN)))|((try apply Or.inl);refine⟨_,aq.x (h1) (sd @ab.eq_1),?_⟩;refine hN _ _ ?_;clear hN N)|((try apply Or.inl);refine⟨_,aq.x (h2) (sd @ab.eq_1),?_⟩;refine hN _ _ ?_;clear hN N)))
  exact aW (b:=false) (.inl rfl) (sd @Nat.zero_add) (by rw[qa,b2];rfl)
 rw[b2]at h2
 (repeat(first|((repeat(revert hN;revert N;apply Pn.out));refine wk @ab.eq_1 ?_;(repeat(refine Pn.mk ?_;intro N hN)))|((try apply Or.inl);refine⟨_,aq.x (h1) (sd @ab.eq_1),?_⟩;refine hN _ _ ?_;clear hN N)|((try apply Or.inl);refine⟨_,aq.x (h2) (sd @ab.eq_1),?_⟩;refine hN _ _ ?_;clear hN N)|((try apply Or.inl);refine⟨_,aq.x (h3) (sd @ab.eq_1),?_⟩;refine hN _ _ ?_;clear hN N)))
 exact aW (b:= !(l.any fun t=> !eM s t.aV)) (.inl rfl) (sd @Nat.zero_add) (by rw[E7,qa,b2];rfl)
theorem FK (s:aw) (l:List ad):aq Tryz.prog 146 [.di (ab s),.di [.sl (l.map aa)]] (.bool (qa s l)):=by
 refine aq.body dX rfl fun hl n0=>?_
 have hlen:l.length<=9223372036854775807:=by
  have h1:=(hl (.di [.sl (l.map aa)]) (by simp)).Ce (a:=.sl (l.map aa)) (by simp)
  simpa using h1.len
 clear hl
 have h2:=GW l
 cases b2:oQ l
 ·rw[b2]at h2
  (repeat(first|((repeat(revert hN;revert N;apply Pn.out));refine wk @Nat.zero_add ?_;(repeat(refine Pn.mk ?_;intro N hN)))|((try apply Or.inl);refine⟨_,aq.x (h2) (sd @Nat.zero_add),?_⟩;refine hN _ _ ?_;clear hN N)))
  exact aW (b:=false) (.inl rfl) (sd @Nat.zero_add) (by rw[qa,b2];rfl)
 rw[b2]at h2
 (repeat(first|((repeat(revert hN;revert N;apply Pn.out));refine wk @Nat.zero_add ?_;(repeat(refine Pn.mk ?_;intro N hN)))|((try apply Or.inl);refine⟨_,aq.x (h2) (sd @Nat.zero_add),?_⟩;refine hN _ _ ?_;clear hN N)))
 refine aU (fun n env st=>∃k:Nat,n=(l.length)-k/\k<=(l.length)/\env 5=.int .i64 (k:Int)/\(∀j:Nat,j<k->eM s (aJ l j).aV=true)) (l.length) ⟨0,by omega,by omega,sl @Nat.zero_add,fun _ h=>absurd h (Nat.not_lt_zero _)⟩ ?_
 rintro n_a env_a st_a ⟨k,rfl,ale,a5,mc⟩ dC
 have a0:=dC 0 (by kernel_rfl);have a1:=dC 1 (by kernel_rfl)
 simp only[go_sem, ↓reduceIte,Nat.reduceEqDiff,Nat.reduceAdd,Nat.reduceSub,Nat.reduceLeDiff,reduceCtorEq]at a0 a1
 clear dC
 by_cases hk:(k:Int)<(l.length:Int)
 ·have cD:∀{e:Env},(e 5=.int .i64 (IntKind.i64.wrap ((k:Int)+1)))->(eM s (aJ l k).aV=true)->∃m0,m0<(l.length)-k/\∃k:Nat,m0=(l.length)-k/\k<=(l.length)/\e 5=.int .i64 (k:Int)/\(∀j:Nat,j<k->eM s (aJ l j).aV=true):=fun x1 x2=>⟨_,by omega,k+1,rfl,by omega,(by rw[x1,aA (by omega)]),(all_succ mc x2)⟩
  have fA:k<l.length:=by omega
  have eR:=fx fA
  have ht:=wQ s (aJ l k).aV
  cases b3:eM s (aJ l k).aV
  ·rw[b3]at ht
   (repeat(first|((repeat(revert hN;revert N;apply Pn.out));refine wk (tw @a5 (tw @a0 (tw @a1 (tw @hk (tw @eR @aa.eq_1))))) ?_;(repeat(refine Pn.mk ?_;intro N hN)))|((try apply Or.inl);refine⟨_,aq.x (ht) (sd (tw @a5 (tw @a0 (tw @a1 (tw @hk (tw @eR @aa.eq_1)))))),?_⟩;refine hN _ _ ?_;clear hN N)))
   exact aW (b:=false) (.inl rfl) (sd @Nat.zero_add) (by
    have:l.all (fun t=>eM s t.aV)=false:=List.all_eq_false.2 ⟨_,gK fA,by rw[b3];simp⟩
    rw[qa,this,Bool.and_false])
  ·rw[b3]at ht
   (repeat(first|((repeat(revert hN;revert N;apply Pn.out));refine wk (tw @a5 (tw @a0 (tw @a1 (tw @hk (tw @eR @aa.eq_1))))) ?_;(repeat(refine Pn.mk ?_;intro N hN)))|((try apply Or.inl);refine⟨_,aq.x (ht) (sd (tw @a5 (tw @a0 (tw @a1 (tw @hk (tw @eR @aa.eq_1)))))),?_⟩;refine hN _ _ ?_;clear hN N)))
   exact cD (sd (tw @a5 (tw @a0 @a1))) (b3)
 ·(try((repeat(revert hN;revert N;apply Pn.out));refine wk (tw @a5 (tw @a0 (tw @a1 @hk))) ?_;(repeat(refine Pn.mk ?_;intro N hN))))
  exact aW (b:=true) (.inl rfl) (sd @Nat.zero_add) (by
   have:l.all (fun t=>eM s t.aV)=true:=List.all_eq_true.2 fun t ht=>by
    obtain⟨j,hj,rfl⟩:=List.getElem_of_mem ht
    have:=mc j (by omega)
    rwa [fh hj]at this
   rw[qa,b2,this];rfl)
theorem ye (l:List ad) (hF:jL l) (i:Nat) (d:Int) (hi:i<l.length) (hd:ja d 0 3=true):aq Tryz.prog 189 [.di [.sl (l.map aa)],.int .i64 i,.int .i64 d] (.int .i64 (eF l (dx (aJ l i).aO d))):=by
 refine aq.body dX rfl fun hl n0=>?_
 clear hl
 have hg:=fx hi
 have hp:=tz (hF.pt hi)
 have h1:=y4 (aJ l i).aO d hd hp.1 hp.2
 have h2:=qV l (dx (aJ l i).aO d) hF.Hl (by have:=hF.rP;omega)
 rw[ae]at h1 h2
 (repeat(first|((repeat(revert hN;revert N;apply Pn.out));refine wk (tw @aa.eq_1 (tw @hg @ae.eq_1)) ?_;(repeat(refine Pn.mk ?_;intro N hN)))|((try apply Or.inl);refine⟨_,aq.x (h1) (sd (tw @aa.eq_1 (tw @hg @ae.eq_1))),?_⟩;refine hN _ _ ?_;clear hN N)|((try apply Or.inl);refine⟨_,aq.x (h2) (sd (tw @aa.eq_1 (tw @hg @ae.eq_1))),?_⟩;refine hN _ _ ?_;clear hN N)))
 exact bW (b:=eF l (dx (aJ l i).aO d)) (.inl rfl) (sd @Nat.zero_add) rfl
end Go.Proofs.YtgoljkjaameagaaGreat.V

namespace Go.Proofs.YtgoljkjaameagaaGreat.V
def bi (b:Bool):Int:=if b then 1 else 0
def ma (f:Nat->Int):Nat->Int
 |0=>0
 |n+1=>ma f n+f n
theorem gw {f g:Nat->Int}:∀{n:Nat},(∀i,i<n->f i=g i)->ma f n=ma g n
 |0,_=>rfl
 |n+1,h=>by
  simp only[ma]
  rw[gw fun i hi=>h i (by omega),h n (by omega)]
theorem su {f g:Nat->Int}:∀{n:Nat},(∀i,i<n->f i<=g i)->ma f n<=ma g n
 |0,_=>Int.le_refl _
 |n+1,h=>by
  simp only[ma]
  have:=su (n:=n) fun i hi=>h i (by omega)
  have:=h n (by omega)
  omega
theorem j4:∀{n:Nat} {f:Nat->Int},(∀i,i<n->f i=0)->ma f n=0
 |0,_,_=>rfl
 |n+1,f,h=>by
  simp only[ma]
  rw[j4 fun i hi=>h i (by omega),h n (by omega)];rfl
theorem pZ {f:Nat->Int} {a:Nat} {d:Int}:∀n,ma (fun i=>f i+if i=a then d else 0) n=ma f n+if a<n then d else 0
 |0=>by simp[ma]
 |n+1=>by
  simp only[ma]
  rw[pZ n]
  by_cases h:n=a
  ·subst h;simp;omega
  ·rw[if_neg h]
   by_cases h2:a<n
   ·rw[if_pos h2,if_pos (by omega)];omega
   ·rw[if_neg h2,if_neg (by omega)];omega
def mv (n:Nat) (S:Nat->Bool) (f:Nat->Nat->Int):Int:=ma (fun u=>ma (fun v=>if S u&& !S v then f u v else 0) n) n
def bump (f:Nat->Nat->Int) (a b:Nat) (d:Int):Nat->Nat->Int:=fun u v=>f u v+if u=a/\v=b then d else 0
theorem pI {n:Nat} {S:Nat->Bool} {f:Nat->Nat->Int} {a b:Nat} {d:Int} (ha:a<n) (hb:b<n):mv n S (bump f a b d)=mv n S f+if S a&& !S b then d else 0:=by
 unfold mv
 have h1:∀u,u<n->ma (fun v=>if S u&& !S v then bump f a b d u v else 0) n=ma (fun v=>if S u&& !S v then f u v else 0) n+if u=a then(if S a&& !S b then d else 0)else 0:=by
  intro u hu
  by_cases h:u=a
  ·subst h
   have h2:∀v,v<n->(if S u&& !S v then bump f u b d u v else 0)=(fun v=>if S u&& !S v then f u v else 0) v+if v=b then(if S u&& !S b then d else 0)else 0:=by
    intro v hv
    unfold bump
    by_cases h3:v=b
    ·subst h3;simp only[and_self,if_true];split<;>omega
    ·simp only[h3,and_false,if_false];split<;>omega
   rw[gw h2,pZ,if_pos hb,if_pos rfl]
  ·rw[if_neg h,Int.add_zero]
   refine gw fun v hv=>?_
   unfold bump
   simp[h]
 rw[gw h1,pZ,if_pos ha]
theorem Lt {n:Nat} {S:Nat->Bool} {f c:Nat->Nat->Int} (h:∀u v,u<n->v<n->f u v<=c u v):mv n S f<=mv n S c:=
 su fun u hu=>su fun v hv=>by split;exact h u v hu hv;exact Int.le_refl _
theorem Ls {n:Nat} {S:Nat->Bool} {f c:Nat->Nat->Int} (h:∀u v,u<n->v<n->S u=true->S v=false->f u v=c u v):mv n S f=mv n S c:=
 gw fun u hu=>gw fun v hv=>by
  split
  ·rename_i hc
   simp only[Bool.and_eq_true,Bool.not_eq_true']at hc
   exact h u v hu hv hc.1 hc.2
  ·rfl
def kF (f:Nat->Nat->Int) (a b:Nat):Nat->Nat->Int:=bump (bump f a b 1) b a (-1)
theorem Gk {n:Nat} {S:Nat->Bool} {f:Nat->Nat->Int} {a b:Nat} (ha:a<n) (hb:b<n):mv n S (kF f a b)=mv n S f+bi (S a)-bi (S b):=by
 unfold kF
 rw[pI hb ha,pI ha hb]
 cases S a<;>cases S b<;>simp[bi]<;>omega
def mo (f:Nat->Nat->Int):List Nat->Nat->Nat->Int
 |a::b::r=>mo (kF f a b) (b::r)
 |_=>f
def rn (f c:Nat->Nat->Int):List Nat->Prop
 |a::b::r=>f a b<c a b/\rn f c (b::r)
 |_=>True
theorem Bp {n:Nat} {S:Nat->Bool}:∀(r:List Nat) (a:Nat) (f:Nat->Nat->Int),(∀x∈a::r,x<n)->mv n S (mo f (a::r))=mv n S f+bi (S a)-bi (S ((a::r).getLast (by simp)))
 |[],a,f,_=>by simp[mo]
 |b::r,a,f,h=>by
  rw[mo,Bp r b (kF f a b) fun x hx=>h x (List.mem_cons_of_mem _ hx),Gk (h a (by simp)) (h b (by simp)),List.getLast_cons_cons]
  generalize bi (S b)=q
  omega
theorem rn.less {f g c:Nat->Nat->Int}:∀{p:List Nat},rn f c p->(∀u,u∈p->∀v,g u v<=f u v)->rn g c p
 |[],_,_=>trivial
 |[_],_,_=>trivial
 |a::b::r,h,hl=>⟨Int.lt_of_le_of_lt (hl a (by simp) b) h.1,rn.less (p:=b::r) h.2 fun u hu=>hl u (List.mem_cons_of_mem _ hu)⟩
theorem E8 {n:Nat} {c:Nat->Nat->Int}:∀(p:List Nat) (f:Nat->Nat->Int),p.Nodup->rn f c p->(∀u v,u<n->v<n->f u v<=c u v)->∀u v,u<n->v<n->mo f p u v<=c u v
 |[],f,_,_,h=>h
 |[_],f,_,_,h=>h
 |a::b::r,f,hn,hr,h=>by
  rw[mo]
  have qM:a∉b::r:=(List.nodup_cons.1 hn).1
  refine E8 (b::r) _ (List.nodup_cons.1 hn).2 (hr.2.less fun u hu v=>?_) fun u v hu hv=>?_
  ·unfold kF bump
   have:u≠a:=by rintro rfl;exact qM hu
   simp only[this,false_and,if_false]
   split<;>omega
  ·have h0:=h u v hu hv
   have h1:=hr.1
   unfold kF bump
   by_cases e:u=a/\v=b
   ·obtain⟨rfl,rfl⟩:=e
    rw[if_pos ⟨rfl,rfl⟩];split<;>omega
   ·rw[if_neg e];split<;>omega
structure lF (n:Nat) (c f:Nat->Nat->Int) (x y:Nat) (val:Int):Prop where
 le:∀u v,u<n->v<n->f u v<=c u v
 cut:∀S:Nat->Bool,S x=true->S y=false->mv n S f=val
theorem lF.zero {n:Nat} {c:Nat->Nat->Int} {x y:Nat} (h:∀u v,u<n->v<n->0<=c u v):lF n c (fun _ _=>0) x y 0:=
 ⟨h,fun S _ _=>j4 fun u hu=>j4 fun v hv=>by split<;>rfl⟩
theorem lF.congr {n:Nat} {c f g:Nat->Nat->Int} {x y:Nat} {val:Int} (h:lF n c f x y val) (e:∀u v,u<n->v<n->g u v=f u v):lF n c g x y val:=
 ⟨fun u v hu hv=>by rw[e u v hu hv];exact h.le u v hu hv,fun S hx hy=>by
  rw[<-h.cut S hx hy]
  exact gw fun u hu=>gw fun v hv=>by rw[e u v hu hv]⟩
theorem lF.aug {n:Nat} {c f:Nat->Nat->Int} {x y:Nat} {val:Int} (h:lF n c f x y val) {r:List Nat} (hl:(x::r).getLast (by simp)=y) (hn:(x::r).Nodup) (hr:rn f c (x::r)) (hb:∀v∈x::r,v<n):lF n c (mo f (x::r)) x y (val+1):=
 ⟨E8 _ _ hn hr h.le,fun S hx hy=>by rw[Bp r x f hb,hl,h.cut S hx hy,hx,hy];simp[bi]⟩
theorem lF.bound {n:Nat} {c f:Nat->Nat->Int} {x y:Nat} {val:Int} (h:lF n c f x y val) {S:Nat->Bool} (hx:S x=true) (hy:S y=false):val<=mv n S c:=by
 rw[<-h.cut S hx hy];exact Lt h.le
theorem lF.full {n:Nat} {c f:Nat->Nat->Int} {x y:Nat} {val:Int} (h:lF n c f x y val) {S:Nat->Bool} (hx:S x=true) (hy:S y=false) (hS:∀u v,u<n->v<n->S u=true->S v=false->¬f u v<c u v):val=mv n S c:=by
 rw[<-h.cut S hx hy]
 exact Ls fun u v hu hv h1 h2=>by have:=hS u v hu hv h1 h2;have:=h.le u v hu hv;omega
structure PB where
 a:Nat
 b:Nat
 s:Int
 deriving Inhabited
def cE (bs:List PB) (i:Nat):PB:=bs.getD i default
def jk (S:Nat->Bool) (bs:List PB):Int:=(bs.map fun b=>if S b.a=S b.b then 0 else b.s).sum
def nU (c:Nat->Nat->Int) (b:PB):Nat->Nat->Int:=bump (bump c b.a b.b b.s) b.b b.a b.s
def lg (bs:List PB):Nat->Nat->Int:=bs.foldl nU fun _ _=>0
theorem Ew (bs:List PB) (b:PB):lg (bs++[b])=nU (lg bs) b:=by simp[lg]
theorem BA {n:Nat} {S:Nat->Bool}:∀(bs:List PB) (c:Nat->Nat->Int),(∀b∈bs,b.a<n/\b.b<n)->mv n S (bs.foldl nU c)=mv n S c+jk S bs
 |[],c,_=>by simp[jk]
 |b::bs,c,h=>by
  have hb:=h b (by simp)
  rw[List.foldl_cons,BA bs _ fun x hx=>h x (List.mem_cons_of_mem _ hx)]
  unfold nU jk
  rw[pI hb.2 hb.1,pI hb.1 hb.2,List.map_cons,List.sum_cons]
  cases S b.a<;>cases S b.b<;>simp<;>omega
theorem BB {n:Nat} {S:Nat->Bool} {bs:List PB} (h:∀b∈bs,b.a<n/\b.b<n):mv n S (lg bs)=jk S bs:=by
 rw[lg,BA bs _ h]
 have:mv n S (fun _ _=>0)=0:=j4 fun u hu=>j4 fun v hv=>by split<;>rfl
 omega
theorem AE:∀(bs:List PB) (c:Nat->Nat->Int),(∀b∈bs,0<=b.s)->(∀u v,0<=c u v)->∀u v,0<=bs.foldl nU c u v
 |[],c,_,h=>h
 |b::bs,c,hb,h=>by
  rw[List.foldl_cons]
  refine AE bs _ (fun x hx=>hb x (List.mem_cons_of_mem _ hx)) fun u v=>?_
  have:=hb b (by simp);have:=h u v
  unfold nU bump
  split<;>split<;>omega
theorem room_le:∀(bs:List PB) (c:Nat->Nat->Int) (m:Int),(∀b∈bs,b.s<=4)->(∀u v,c u v<=m)->0<=m->∀u v,bs.foldl nU c u v<=m+8*bs.length
 |[],c,m,_,h,_=>fun u v=>by have:=h u v;simp;omega
 |b::bs,c,m,hb,h,h0=>fun u v=>by
  rw[List.foldl_cons]
  have:=room_le bs (nU c b) (m+8) (fun x hx=>hb x (List.mem_cons_of_mem _ hx)) (fun u v=>by
   have:=hb b (by simp);have:=h u v
   unfold nU bump
   split<;>split<;>omega) (by omega) u v
  simp only[List.length_cons];omega
def kO (n:Nat) (bs:List PB) (t:Int):Prop:=∀S:Nat->Bool,S 0=true->(∃y,y<n/\S y=false)->t<=jk S bs
def Gi (S:Nat->Bool) (bs:List PB) (f:Nat->Int):Int:=ma (fun i=>f i*(bi (S (cE bs i).a)-bi (S (cE bs i).b))) bs.length
structure j9 (bs:List PB) (f:Nat->Int) (x y:Nat) (val:Int):Prop where
 le:∀i,i<bs.length->f i<=(cE bs i).s/\-(cE bs i).s<=f i
 cut:∀S:Nat->Bool,S x=true->S y=false->Gi S bs f=val
theorem v8 (S:Nat->Bool):∀bs:List PB,jk S bs=ma (fun i=>if S (cE bs i).a=S (cE bs i).b then 0 else(cE bs i).s) bs.length:=by
 intro bs
 have key:∀n,n<=bs.length->jk S (bs.take n)=ma (fun i=>if S (cE bs i).a=S (cE bs i).b then 0 else(cE bs i).s) n:=by
  intro n
  induction n with
  |zero=>intro _;rfl
  |succ n ih=>
   intro h
   have e:cE bs n=bs[n]:=by simp[cE,List.getD_eq_getElem?_getD,List.getElem?_eq_getElem (show n<bs.length by omega)]
   rw[List.take_succ_eq_append_getElem (by omega),ma,<-ih (by omega),e]
   unfold jk
   rw[List.map_append,List.sum_append]
   simp only[List.map_cons,List.map_nil,List.sum_cons,List.sum_nil,Int.add_zero]
 have:=key bs.length (Nat.le_refl _)
 rwa [List.take_length]at this
theorem j9.bound {bs:List PB} {f:Nat->Int} {x y:Nat} {val:Int} (h:j9 bs f x y val) {S:Nat->Bool} (hx:S x=true) (hy:S y=false):val<=jk S bs:=by
 rw[<-h.cut S hx hy,v8]
 refine su fun i hi=>?_
 have:=h.le i hi
 cases S (cE bs i).a<;>cases S (cE bs i).b<;>simp[bi]<;>omega
def fF (bs:List PB) (f:Nat->Int) (i u:Nat):Int:=if (cE bs i).a=u then(cE bs i).s-f i else(cE bs i).s+f i
def cm (bs:List PB) (i u:Nat):Nat:=if (cE bs i).a=u then(cE bs i).b else(cE bs i).a
theorem j9.full {bs:List PB} {f:Nat->Int} {x y:Nat} {val:Int} (h:j9 bs f x y val) {S:Nat->Bool} (hx:S x=true) (hy:S y=false)
  (hS:∀i,i<bs.length->((cE bs i).a≠(cE bs i).b->(S (cE bs i).a=true->S (cE bs i).b=false->¬0<fF bs f i (cE bs i).a)/\(S (cE bs i).b=true->S (cE bs i).a=false->¬0<fF bs f i (cE bs i).b))):val=jk S bs:=by
 rw[<-h.cut S hx hy,v8]
 refine gw fun i hi=>?_
 have h1:=h.le i hi
 by_cases qM:(cE bs i).a=(cE bs i).b
 ·rw[qM];simp
 ·have h2:=hS i hi qM
  unfold fF at h2
  rw[if_pos rfl,if_neg qM]at h2
  cases ha:S (cE bs i).a<;>cases hb:S (cE bs i).b<;>rw[ha,hb]at h2<;>simp[bi]at h2 ⊢ <;>omega
def uo (bs:List PB) (f:Nat->Int) (i u:Nat):Nat->Int:=fun j=>f j+if j=i then(if (cE bs i).a=u then 1 else -1)else 0
theorem Gj {S:Nat->Bool} {bs:List PB} {f:Nat->Int} {i u:Nat} (hi:i<bs.length) (hu:(cE bs i).a=u∨(cE bs i).b=u):Gi S bs (uo bs f i u)=Gi S bs f+bi (S u)-bi (S (cm bs i u)):=by
 unfold Gi uo
 have e:∀j,j<bs.length->(f j+if j=i then(if (cE bs i).a=u then 1 else -1)else 0)*(bi (S (cE bs j).a)-bi (S (cE bs j).b))=(fun j=>f j*(bi (S (cE bs j).a)-bi (S (cE bs j).b))) j+if j=i then(if (cE bs i).a=u then 1 else -1)*(bi (S (cE bs i).a)-bi (S (cE bs i).b))else 0:=by
  intro j hj
  by_cases h:j=i
  ·subst h;simp only[if_true];rw[Int.add_mul]
  ·simp only[h,if_false];simp
 rw[gw e,pZ,if_pos hi]
 unfold cm
 by_cases ha:(cE bs i).a=u
 ·rw[if_pos ha,if_pos ha,ha];omega
 ·rw[if_neg ha,if_neg ha]
  rcases hu with hu|hu
  ·exact absurd hu ha
  ·rw[hu];omega
theorem o9:∀(n:Nat) (l:List Nat),l.Nodup->(∀x∈l,x<n)->l.length<=n
 |0,l,_,h=>by
  cases l with
  |nil=>simp
  |cons x l=>exact absurd (h x (by simp)) (by omega)
 |n+1,l,hn,h=>by
  have h1:=o9 n (l.erase n) (hn.erase _) fun x hx=>by
   have h2:=(hn.mem_erase_iff).1 hx
   have h3:=h x h2.2
   have h4:=h2.1
   omega
  rw[List.length_erase]at h1
  split at h1<;>omega
def eP (L:Nat->Nat) (b:PB):Nat->Nat:=fun k=>if L k=max (L b.a) (L b.b)then min (L b.a) (L b.b)else L k
def eD (bs:List PB):Nat->Nat:=bs.foldl eP id
theorem wR (bs:List PB) (b:PB):eD (bs++[b])=eP (eD bs) b:=by simp[eD]
structure jN (L:Nat->Nat):Prop where
 le:∀k,L k<=k
 idem:∀k,L (L k)=L k
theorem jN.step {L:Nat->Nat} (h:jN L) (b:PB):jN (eP L b):=by
 have ha:=h.idem b.a
 have hb:=h.idem b.b
 refine⟨fun k=>?_,fun k=>?_⟩
 ·have:=h.le k
  unfold eP
  split<;>omega
 ·have hk:=h.idem k
  have hm:L (min (L b.a) (L b.b))=min (L b.a) (L b.b):=by
   rcases Nat.le_total (L b.a) (L b.b)with h1|h1
   ·rw[Nat.min_eq_left h1,ha]
   ·rw[Nat.min_eq_right h1,hb]
  unfold eP
  by_cases h1:L k=max (L b.a) (L b.b)
  ·rw[if_pos h1,hm];split<;>rfl
  ·rw[if_neg h1,hk,if_neg h1]
theorem wS:∀(bs:List PB) (L:Nat->Nat),jN L->jN (bs.foldl eP L)
 |[],_,h=>h
 |b::bs,L,h=>wS bs _ (h.step b)
theorem uh (bs:List PB):jN (eD bs):=wS bs id ⟨fun _=>Nat.le_refl _,fun _=>rfl⟩
def leads (n:Nat) (L:Nat->Nat):List Nat:=(List.range n).filter fun i=>L i==i
def members (n:Nat) (L:Nat->Nat) (i:Nat):List Nat:=(List.range n).filter fun k=>L k==i
def fy (n:Nat) (L:Nat->Nat):List (List Nat):=(leads n L).map (members n L)
def cj (L:Nat->Nat) (k:Nat):Nat:=(leads (L k) L).length
theorem gS (n:Nat) (L:Nat->Nat):leads (n+1) L=leads n L++if L n=n then[n]else[]:=by
 unfold leads
 rw[List.range_succ,List.filter_append]
 congr 1
 by_cases h:L n=n<;>simp[h]
theorem jB (n:Nat) (L:Nat->Nat) (i:Nat):members (n+1) L i=members n L i++if L n=i then[n]else[]:=by
 unfold members
 rw[List.range_succ,List.filter_append]
 congr 1
 by_cases h:L n=i<;>simp[h]
theorem nu {L:Nat->Nat} (h:jN L) {n i:Nat} (hn:n<=i):members n L i=[]:=by
 unfold members
 rw[List.filter_eq_nil_iff]
 intro k hk
 have:=h.le k
 have:=List.mem_range.1 hk
 simp;omega
theorem ui (n:Nat) (L:Nat->Nat):(leads n L).Nodup:=List.nodup_range.filter _
theorem y8 {n:Nat} {L:Nat->Nat} {i:Nat}:i∈leads n L↔i<n/\L i=i:=by simp[leads]
theorem lS {n:Nat} {L:Nat->Nat} {i k:Nat}:k∈members n L i↔k<n/\L k=i:=by simp[members]
theorem G1 {L:Nat->Nat} {m n:Nat} (h:m<=n):∃r,leads n L=leads m L++r:=by
 obtain⟨d,rfl⟩:=Nat.le.dest h
 clear h
 induction d with
 |zero=>exact⟨[],by simp⟩
 |succ d ih=>
  obtain⟨r,hr⟩:=ih
  exact⟨r++if L (m+d)=m+d then[m+d]else[],by rw[<-Nat.add_assoc,gS,hr,List.append_assoc]⟩
theorem pK {L:Nat->Nat} (h:jN L) {n k:Nat} (hk:k<n):(leads n L)[cj L k]? =some (L k):=by
 have h1:=h.le k
 obtain⟨r,hr⟩:=G1 (L:=L) (show L k+1<=n by omega)
 rw[hr,gS,if_pos (h.idem k),List.append_assoc]
 unfold cj
 rw[List.getElem?_append_right (Nat.le_refl _),Nat.sub_self];rfl
theorem kh {L:Nat->Nat} (h:jN L) {n k:Nat} (hk:k<n):cj L k<(leads n L).length:=(List.getElem?_eq_some_iff.1 (pK h hk)).1
theorem tr {L:Nat->Nat} (h:jN L) {n k i:Nat} (hk:k<n) (hi:i<(leads n L).length):k∈members n L (leads n L)[i]↔cj L k=i:=by
 rw[lS]
 have h1:=pK h hk
 rw[List.getElem?_eq_getElem (kh h hk)]at h1
 injection h1 with h1
 constructor
 ·rintro⟨_,h2⟩
  rw[<-h1]at h2
  exact(List.getElem_inj (ui n L)).1 h2
 ·rintro rfl
  exact⟨hk,h1.symm⟩
def du (L:Nat->Nat) (bs:List PB):List PB:=bs.filterMap fun b=>if cj L b.a=cj L b.b then none else some ⟨cj L b.a,cj L b.b,b.s⟩
def eY (L:Nat->Nat) (bs:List PB):List PB:=bs.filterMap fun b=>if cj L b.a=cj L b.b then none else some ⟨min (cj L b.a) (cj L b.b),max (cj L b.a) (cj L b.b),b.s⟩
theorem AF (L:Nat->Nat) (bs:List PB) (b:PB):du L (bs++[b])=du L bs++if cj L b.a=cj L b.b then[]else[⟨cj L b.a,cj L b.b,b.s⟩]:=by
 unfold du
 rw[List.filterMap_append]
 congr 1
 by_cases h:cj L b.a=cj L b.b<;>simp[h]
theorem AG (L:Nat->Nat) (bs:List PB) (b:PB):eY L (bs++[b])=eY L bs++if cj L b.a=cj L b.b then[]else[⟨min (cj L b.a) (cj L b.b),max (cj L b.a) (cj L b.b),b.s⟩]:=by
 unfold eY
 rw[List.filterMap_append]
 congr 1
 by_cases h:cj L b.a=cj L b.b<;>simp[h]
theorem s5 (S:Nat->Bool) (b:PB) (bs:List PB):jk S (b::bs)=(if S b.a=S b.b then 0 else b.s)+jk S bs:=by simp[jk]
theorem yy (S:Nat->Bool) (L:Nat->Nat):∀bs:List PB,jk S (eY L bs)=jk S (du L bs)
 |[]=>rfl
 |b::bs=>by
  have ih:=yy S L bs
  unfold eY du at ih ⊢
  rw[List.filterMap_cons,List.filterMap_cons]
  by_cases h:cj L b.a=cj L b.b
  ·simp only[h,if_true];exact ih
  ·simp only[h,if_false]
   rw[s5,s5,ih]
   congr 1
   simp only
   rcases Nat.le_total (cj L b.a) (cj L b.b)with h1|h1
   ·rw[Nat.min_eq_left h1,Nat.max_eq_right h1]
   ·rw[Nat.min_eq_right h1,Nat.max_eq_left h1]
    cases S (cj L b.a)<;>cases S (cj L b.b)<;>rfl
theorem EB {L:Nat->Nat} (h:jN L) {n:Nat} {bs:List PB} (hb:∀b∈bs,b.a<n/\b.b<n):∀b∈du L bs,b.a<(leads n L).length/\b.b<(leads n L).length/\b.a≠b.b/\∃c∈bs,b.s=c.s:=by
 intro b hm
 unfold du at hm
 obtain⟨c,hc,he⟩:=List.mem_filterMap.1 hm
 split at he
 ·cases he
 ·rename_i gZ
  simp only[Option.some.injEq]at he
  subst he
  exact⟨kh h (hb c hc).1,kh h (hb c hc).2,gZ,c,hc,rfl⟩
theorem EC {L:Nat->Nat} (h:jN L) {n:Nat} {bs:List PB} (hb:∀b∈bs,b.a<n/\b.b<n):∀b∈eY L bs,b.a<(leads n L).length/\b.b<(leads n L).length/\b.a≠b.b/\∃c∈bs,b.s=c.s:=by
 intro b hm
 unfold eY at hm
 obtain⟨c,hc,he⟩:=List.mem_filterMap.1 hm
 split at he
 ·cases he
 ·rename_i gZ
  simp only[Option.some.injEq]at he
  subst he
  have h1:=kh h (hb c hc).1
  have h2:=kh h (hb c hc).2
  refine⟨by simp only;omega,by simp only;omega,by simp only;omega,c,hc,rfl⟩
theorem nA (L:Nat->Nat) (bs:List PB):(du L bs).length<=bs.length/\(eY L bs).length<=bs.length:=⟨List.length_filterMap_le ..,List.length_filterMap_le ..⟩
theorem jW (n:Nat) (L:Nat->Nat):(leads n L).length<=n:=by
 have:=List.length_filter_le (fun i=>L i==i) (List.range n)
 simpa[leads]using this
def aL (t:Int) (bs:List PB):List PB:=bs.filter fun b=>decide (t<=b.s)
def pE (n:Nat) (bs:List PB) (t:Int):Prop:=
 (leads n (eD (aL t bs))).length<=64/\kO (leads n (eD (aL t bs))).length (du (eD (aL t bs)) bs) t
theorem DS {n:Nat} {L:Nat->Nat} {bs:List PB} {t:Int}:kO n (eY L bs) t↔kO n (du L bs) t:=by
 unfold kO
 constructor<;>intro h S h0 hy<;>have:=h S h0 hy<;>rw[yy]at *<;>exact this
end Go.Proofs.YtgoljkjaameagaaGreat.V

namespace Go.Proofs.YtgoljkjaameagaaGreat.V
open Go.RowKit
attribute [local irreducible] dI wpOps gy Call
attribute [local go_sem] aM fG eQ fZ fY cQ upd cC K.av cP AV.cells AV.cell rowOf rowsOf part ld rowAt bt cu dE ee ik bJ dh ew fX eX dp ej dd dc dQ dR bQ bf cW bP cY cX eh ek ei cV b4 de ef bK aP da cG ij bw cK bU aY dn bc dF AV.undef bF bI dS ec dM dK cH ev eA cF ep eo cZ db List.getD_cons_zero List.getD_cons_succ List.getD_nil List.all_cons List.all_nil Bool.and_true Bool.true_and Bool.and_self Bool.not_true Bool.not_false Option.map_some Option.map_none Option.bind_some Option.bind_none List.length_cons List.length_nil List.take_succ_cons List.take_zero List.take_nil List.drop_succ_cons List.drop_zero List.drop_nil List.head?_cons List.map_cons List.map_nil List.getElem?_cons_zero List.getElem?_cons_succ List.cons_append List.nil_append List.append_nil List.length_map List.set_cons_zero List.set_cons_succ Nat.reduceMul eq_self Int.toNat_natCast Int.natCast_nonneg and_self true_and and_true decide_true decide_false Bool.false_eq_true Nat.zero_add Nat.add_zero List.contains_cons List.contains_nil Bool.or_false Bool.false_or beq_self_eq_true Nat.reduceBEq ne_eq not_true_eq_false not_false_eq_true Id.mk.injEq false_and and_false Nat.reduceLT Int.reduceLE Int.reduceLT Int.reduceToNat Int.reduceNeg Int.reduceAdd Nat.le_refl List.length_append beq_true beq_false Bool.not_eq_eq_eq_not or_false false_or dJ ai aj aD bp bE cq aT bd aX bj cR bG
def ay (b:PB):List AV:=[.int .i64 b.a,.int .i64 b.b,.int .i64 b.s]
theorem NF:∀b:PB,(ay b).length=3/\(ay b).all AV.cell=true:=fun _=>⟨rfl,rfl⟩
theorem zW (g:Rows) (n:Nat) (b:PB):cJ g (n+1) (ay b)=some (ay b):=by simp[ay,ai,aj,aD]
theorem uW (g:Rows) (n:Nat) (b:PB):ez g (n+1) (ay b)=some (ay b):=by simp[ay,bB,cw,eG]
theorem IA:QH ay (fun c=>.agg (ay c)) 3 true:=⟨fun _=>rfl,fun _=>rfl,fun x g=>by simp only[ay,ai,aj,bd,aD,Option.map_some]⟩
def nk (s:aw) (l:List ad) (i:Nat) (d:Int):List PB:=
 if 0<=eF l (dx (aJ l i).aO d)/\0<gV s (aJ l i).aV d (aJ l (eF l (dx (aJ l i).aO d)).toNat).aV then
  [⟨i,(eF l (dx (aJ l i).aO d)).toNat,gV s (aJ l i).aV d (aJ l (eF l (dx (aJ l i).aO d)).toNat).aV⟩]else[]
def gi (s:aw) (l:List ad) (i m:Nat):List PB:=(List.range m).flatMap fun j:Nat=>nk s l i (1-(j:Int))
def gQ (s:aw) (l:List ad) (n:Nat):List PB:=(List.range n).flatMap fun i=>gi s l i 2
def cL (s:aw) (l:List ad):List PB:=gQ s l l.length
theorem qj (s:aw) (l:List ad) (i m:Nat):gi s l i (m+1)=gi s l i m++nk s l i (1-(m:Int)):=by simp[gi,List.range_succ]
theorem rH (s:aw) (l:List ad) (n:Nat):gQ s l (n+1)=gQ s l n++gi s l n 2:=by simp[gQ,List.range_succ]
theorem Dq (s:aw) (l:List ad) (i:Nat) (d:Int):(nk s l i d).length<=1:=by unfold nk;split<;>simp
theorem rF (s:aw) (l:List ad) (i m:Nat):(gi s l i m).length<=m:=by
 induction m with
 |zero=>simp[gi]
 |succ m ih=>rw[qj,List.length_append];have:=Dq s l i (1-(m:Int));omega
theorem tT (s:aw) (l:List ad) (n:Nat):(gQ s l n).length<=2*n:=by
 induction n with
 |zero=>simp[gQ]
 |succ n ih=>rw[rH,List.length_append];have:=rF s l n 2;omega
def sB:Id->Prop:=fun o=>o.site=124001000∨o.site=124012006
theorem D9 (s:aw) (l:List ad) (hS:kN s) (hA:jj s l):aq Tryz.prog 124 [.di (ab s),.di [.sl (l.map aa)]] (.sl ((cL s l).map ay)):=by
 refine aq.body dX rfl fun hl n0=>?_
 clear hl
 have hF:=hA.1
 have I4:=hF.rP
 (try((repeat(revert hN;revert N;apply Pn.out));refine wk @Nat.zero_add ?_;(repeat(refine Pn.mk ?_;intro N hN))))
 refine aU (fun n env st=>∃k:Nat,n=(l.length)-k/\k<=(l.length)/\env 6=.int .i64 (k:Int)/\(nh ay 3 (env 5) st.get sB (gQ s l k))) (l.length) ⟨0,by omega,by omega,sl @Nat.zero_add,⟨⟨124001000,n0+1⟩,.inl rfl,by simp only[go_sem, ↓reduceIte,Nat.reduceEqDiff,Nat.reduceAdd,Nat.reduceSub,Nat.reduceLeDiff,reduceCtorEq];rfl,by simp only[go_sem, ↓reduceIte,Nat.reduceEqDiff,Nat.reduceAdd,Nat.reduceSub,Nat.reduceLeDiff,reduceCtorEq];rfl⟩⟩ ?_
 rintro n_a env_a st_a ⟨k,rfl,ale,a6,lZ⟩ dC
 have a0:=dC 0 (by kernel_rfl);have a1:=dC 1 (by kernel_rfl)
 simp only[go_sem, ↓reduceIte,Nat.reduceEqDiff,Nat.reduceAdd,Nat.reduceSub,Nat.reduceLeDiff,reduceCtorEq]at a0 a1
 clear dC
 by_cases hk:(k:Int)<(l.length:Int)
 ·have cD:∀{e:Env} {gg:Rows},(e 6=.int .i64 (IntKind.i64.wrap ((k:Int)+1)))->(nh ay 3 (e 5) gg sB (gQ s l (k+1)))->∃m0,m0<(l.length)-k/\∃k:Nat,m0=(l.length)-k/\k<=(l.length)/\e 6=.int .i64 (k:Int)/\(nh ay 3 (e 5) gg sB (gQ s l k)):=fun x1 x2=>⟨_,by omega,k+1,rfl,by omega,(by rw[x1,aA (by omega)]),x2⟩
  have fA:k<l.length:=by omega
  have eR:=fx fA
  have Tu:=tT s l k
  (try((repeat(revert hN;revert N;apply Pn.out));refine wk (tw @a6 (tw @a0 (tw @a1 @hk))) ?_;(repeat(refine Pn.mk ?_;intro N hN))))
  refine aU (fun n env st=>∃m:Nat,n=(2)-m/\m<=(2)/\env 7=(.int .i64 (1-(m:Int)))/\(nh ay 3 (env 5) st.get sB (gQ s l k++gi s l k m))) (2) ⟨0,by omega,by omega,sl (tw @a6 (tw @a0 @a1)),by(simp only[go_sem, ↓reduceIte,Nat.reduceEqDiff,Nat.reduceAdd,Nat.reduceSub,Nat.reduceLeDiff,reduceCtorEq];exact lZ.cast (by simp[gi]))⟩ ?_
  rintro n_b env_b st_b ⟨m,rfl,ble,b7,bI0⟩ gh
  have b0:=gh 0 (by kernel_rfl);have b1:=gh 1 (by kernel_rfl);have b6:=gh 6 (by kernel_rfl)
  simp only[go_sem, ↓reduceIte,Nat.reduceEqDiff,Nat.reduceAdd,Nat.reduceSub,Nat.reduceLeDiff,reduceCtorEq,a6,a0,a1]at b0 b1 b6
  clear gh
  have Tb:=rF s l k m
  have lO:=qj s l k m
  by_cases hm:(m:Int)<2
  ·have gn:∀{e:Env} {gg:Rows},(e 7=(.int .i64 (1-((m+1):Int))))->(nh ay 3 (e 5) gg sB (gQ s l k++gi s l k (m+1)))->∃m0,m0<(2)-m/\∃m:Nat,m0=(2)-m/\m<=(2)/\e 7=(.int .i64 (1-(m:Int)))/\(nh ay 3 (e 5) gg sB (gQ s l k++gi s l k m)):=fun x1 x2=>⟨_,by omega,m+1,rfl,by omega,x1,x2⟩
   have qN:(0:Int)<=1-(m:Int):=by omega
   have hd:ja (1-(m:Int)) 0 3=true:=kV (by omega)
   have hw:IntKind.i64.wrap (1-(m:Int)-1)=1-((m:Int)+1):=by rw[bz (by omega)];omega
   have Tn:=ye l hF k (1-(m:Int)) fA hd
   unfold nk at lO
   have hT:=hA.2 _ (gK fA)
   generalize GF:eF l (dx (aJ l k).aO (1-(m:Int)))=ix at *
   by_cases hi:ix<0
   ·rw[if_neg (by omega),List.append_nil]at lO
    (repeat(first|((repeat(revert hN;revert N;apply Pn.out));refine wk (tw @b7 (tw @b0 (tw @b1 (tw @b6 (tw @qN (tw @hw @hi)))))) ?_;(repeat(refine Pn.mk ?_;intro N hN)))|((try apply Or.inl);refine⟨_,aq.x (Tn) (sd (tw @b7 (tw @b0 (tw @b1 (tw @b6 (tw @qN (tw @hw @hi))))))),?_⟩;refine hN _ _ ?_;clear hN N)))
    exact gn (sd (tw @b7 (tw @b0 (tw @b1 (tw @b6 @hw))))) (by(simp only[go_sem, ↓reduceIte,Nat.reduceEqDiff,Nat.reduceAdd,Nat.reduceSub,Nat.reduceLeDiff,reduceCtorEq];exact bI0.cast (by rw[lO])))
   ·have HO:0<=ix:=by omega
    have ON:=lP (l:=l) (p:=dx (aJ l k).aO (1-(m:Int))) (by omega)
    rw[GF]at ON
    have ke:=fx ON.1
    have xK:=y5 s hS (aJ l k).aV (1-(m:Int)) (aJ l ix.toNat).aV hT (hA.2 _ (gK ON.1)) hd
    generalize S7:gV s (aJ l k).aV (1-(m:Int)) (aJ l ix.toNat).aV=bv at *
    by_cases hb:0<bv
    ·rw[if_pos ⟨HO,hb⟩]at lO
     (repeat(first|((repeat(revert hN;revert N;apply Pn.out));refine wa (tw @b7 (tw @b0 (tw @b1 (tw @b6 (tw @qN (tw @hw (tw @hi (tw @HO (tw @eR (tw @ke (tw @hb @aa.eq_1))))))))))) ?_;(repeat(refine Pn.mk ?_;intro N hN)))|((try apply Or.inl);refine⟨_,aq.x (Tn) (sd (tw @b7 (tw @b0 (tw @b1 (tw @b6 (tw @qN (tw @hw (tw @hi (tw @HO (tw @eR (tw @ke (tw @hb @aa.eq_1)))))))))))),?_⟩;refine hN _ _ ?_;clear hN N)|((try apply Or.inl);refine⟨_,aq.x (xK) (sd (tw @b7 (tw @b0 (tw @b1 (tw @b6 (tw @qN (tw @hw (tw @hi (tw @HO (tw @eR (tw @ke (tw @hb @aa.eq_1)))))))))))),?_⟩;refine hN _ _ ?_;clear hN N)))
     refine PM (enc:=ay) (S:=sB) (L:=gQ s l k++gi s l k m) (xv:=env_b 5) [⟨k,ix.toNat,bv⟩] rfl rfl (sd @Nat.zero_add) (bI0.frame fun o ho=>by rcases ho with ho|ho<;>simp only[go_sem, ↓reduceIte,Nat.reduceEqDiff,Nat.reduceAdd,Nat.reduceSub,Nat.reduceLeDiff,reduceCtorEq,AH ho]) (sd (tw @ay.eq_1 (Int.toNat_of_nonneg HO))) NF (.inr rfl) (by simp only[dF,List.length_append,List.length_cons,List.length_nil];omega) fun v g' hO jG=>?_
     rw[List.append_assoc,<-lO]at hO
     clear jG
     (try((repeat(revert hN;revert N;apply Pn.out));refine wk (tw @b7 (tw @b0 (tw @b1 (tw @b6 @hw)))) ?_;(repeat(refine Pn.mk ?_;intro N hN))))
     exact gn (sd (tw @b7 (tw @b0 (tw @b1 (tw @b6 @hw))))) (by(simp only[go_sem, ↓reduceIte,Nat.reduceEqDiff,Nat.reduceAdd,Nat.reduceSub,Nat.reduceLeDiff,reduceCtorEq];exact hO))
    ·rw[if_neg fun h=>hb h.2,List.append_nil]at lO
     (repeat(first|((repeat(revert hN;revert N;apply Pn.out));refine wk (tw @b7 (tw @b0 (tw @b1 (tw @b6 (tw @qN (tw @hw (tw @hi (tw @HO (tw @eR (tw @ke (tw @hb @aa.eq_1))))))))))) ?_;(repeat(refine Pn.mk ?_;intro N hN)))|((try apply Or.inl);refine⟨_,aq.x (Tn) (sd (tw @b7 (tw @b0 (tw @b1 (tw @b6 (tw @qN (tw @hw (tw @hi (tw @HO (tw @eR (tw @ke (tw @hb @aa.eq_1)))))))))))),?_⟩;refine hN _ _ ?_;clear hN N)|((try apply Or.inl);refine⟨_,aq.x (xK) (sd (tw @b7 (tw @b0 (tw @b1 (tw @b6 (tw @qN (tw @hw (tw @hi (tw @HO (tw @eR (tw @ke (tw @hb @aa.eq_1)))))))))))),?_⟩;refine hN _ _ ?_;clear hN N)))
     exact gn (sd (tw @b7 (tw @b0 (tw @b1 (tw @b6 @hw))))) (by(simp only[go_sem, ↓reduceIte,Nat.reduceEqDiff,Nat.reduceAdd,Nat.reduceSub,Nat.reduceLeDiff,reduceCtorEq];exact bI0.cast (by rw[lO])))
  ·have HQ:m=2:=by omega
   subst HQ
   have dU:¬(0:Int)<=1-((2:Nat):Int):=by omega
   (try((repeat(revert hN;revert N;apply Pn.out));refine wk (tw @b7 (tw @b0 (tw @b1 (tw @b6 @dU)))) ?_;(repeat(refine Pn.mk ?_;intro N hN))))
   exact cD (sd (tw @a6 (tw @a0 (tw @a1 (tw @b7 (tw @b0 (tw @b1 @b6))))))) (by(simp only[go_sem, ↓reduceIte,Nat.reduceEqDiff,Nat.reduceAdd,Nat.reduceSub,Nat.reduceLeDiff,reduceCtorEq];exact bI0.cast (by rw[rH])))
 ·have mh:k=l.length:=by omega
  (try((repeat(revert hN;revert N;apply Pn.out));refine wk (tw @a6 (tw @a0 (tw @a1 @hk))) ?_;(repeat(refine Pn.mk ?_;intro N hN))))
  exact xj (.inl rfl) (by simp only[go_sem, ↓reduceIte,Nat.reduceEqDiff,Nat.reduceAdd,Nat.reduceSub,Nat.reduceLeDiff,reduceCtorEq];rfl) (by rw[mh]at lZ;exact lZ.gC fun b=>uW _ _ b)
end Go.Proofs.YtgoljkjaameagaaGreat.V
