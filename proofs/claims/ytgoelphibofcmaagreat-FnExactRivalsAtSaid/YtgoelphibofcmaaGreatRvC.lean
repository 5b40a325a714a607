/- Lists of one's own, and lists of such lists: rows whose cells hold rows of one's own. -/
import Derived.Test.YtgoelphibofcmaaGreatRvB
import Derived.Test.YtgoelphibofcmaaGreatChecked
import Derived.Test.YtgoelphibofcmaaGreatRvA
set_option linter.unusedVariables false
set_option linter.unusedSimpArgs false
set_option maxRecDepth 100000
set_option maxHeartbeats 16000000
namespace Go.Proofs.YtgoelphibofcmaaGreat.V
open Go.RowKit
section
variable {α:Type} {enc:α->List AV} {sz:Nat} {g g':Rows} {a:AV} {xs:List α} {ids:List Id}
end
abbrev CD (α:Type):=Rows->List AV->α->List Id->Prop
structure xp {α:Type} (R:CD α) (sz:Nat):Prop where
 frame:∀{g g':Rows} {cs x ids},R g cs x ids->(∀i∈ids,g' i=g i)->R g' cs x ids
 len:∀{g cs x ids},R g cs x ids->cs.length=sz
 cell:∀{g cs x ids},R g cs x ids->cs.all AV.cell=true
 live:∀{g cs x ids},R g cs x ids->∀i∈ids,∃r,g i=some r/\r.w=true/\r.sz<r8
 small:sz<r8
inductive eE {α:Type} (R:CD α) (g:Rows):List (List AV)->List α->List Id->Prop
 |nil:eE R g [] [] []
 |cons {cs x i1 rs xs i2}:R g cs x i1->eE R g rs xs i2->eE R g (cs::rs) (x::xs) (i1++i2)
section
variable {α:Type} {R:CD α} {sz:Nat} {g g':Rows} {rows r1 r2:List (List AV)} {xs x1 x2:List α} {ids i1 i2:List Id}
theorem eE.len (h:eE R g rows xs ids):rows.length=xs.length:=by
 induction h with
 |nil=>rfl
 |cons _ _ ih=>simp[ih]
theorem eE.frame (ok:xp R sz) (h:eE R g rows xs ids) (hf:∀i∈ids,g' i=g i):eE R g' rows xs ids:=by
 induction h with
 |nil=>exact .nil
 |cons h1 _ ih=>exact .cons (ok.frame h1 fun i hi=>hf i (List.mem_append_left _ hi)) (ih fun i hi=>hf i (List.mem_append_right _ hi))
theorem eE.app (h1:eE R g r1 x1 i1) (h2:eE R g r2 x2 i2):eE R g (r1++r2) (x1++x2) (i1++i2):=by
 induction h1 with
 |nil=>exact h2
 |cons h _ ih=>rw[List.append_assoc];exact .cons h ih
theorem eE.one {cs:List AV} {x:α} (h:R g cs x ids):eE R g [cs] [x] ids:=by
 have:=eE.cons h eE.nil
 rwa [List.append_nil]at this
theorem eE.split (h:eE R g rows xs ids):∀k (hk:k<xs.length),∃r1 cs r2 i1 ic i2,rows=r1++cs::r2/\r1.length=k/\ids=i1++(ic++i2)/\eE R g r1 (xs.take k) i1/\R g cs xs[k] ic/\eE R g r2 (xs.drop (k+1)) i2:=by
 induction h with
 |nil=>intro k hk;simp at hk
 |cons h1 h2 ih=>
  rename_i cs x j1 rs xs j2
  intro k hk
  cases k with
  |zero=>exact⟨[],cs,rs,[],j1,j2,rfl,rfl,rfl,.nil,h1,h2⟩
  |succ k=>
   obtain⟨r1,qd,r2,i1,ic,i2,rfl,hl,rfl,h3,h4,h5⟩:=ih k (by simpa using hk)
   exact⟨cs::r1,qd,r2,j1++i1,ic,i2,rfl,by simp[hl],by rw[List.append_assoc],.cons h1 h3,h4,h5⟩
theorem eE.at_ (h:eE R g rows xs ids) (k:Nat) (hk:k<xs.length):∃cs ic,rows[k]? =some cs/\R g cs xs[k] ic/\∀i∈ic,i∈ids:=by
 obtain⟨r1,cs,r2,i1,ic,i2,rfl,hl,rfl,h3,h4,h5⟩:=h.split k hk
 refine⟨cs,ic,by rw[List.getElem?_append_right (by omega)];simp[hl],h4,fun i hi=>by simp[hi]⟩
theorem eE.fz {n:Nat} {e:α->List AV} (h:eE R g rows xs ids) (hz:∀{cs x ids},R g cs x ids->cG (dF g) n cs=some (e x)):eo (dF g) n rows=some (xs.map e):=by
 induction h with
 |nil=>rw[eo];rfl
 |cons h1 _ ih=>rw[eo,hz h1,ih];rfl
end
section
variable {α:Type} {R:CD α} {sz:Nat} {g g':Rows} {a:AV} {xs:List α} {ids:List Id}
end
variable {P:Program} {X:fG} {K:Env->ar->Prop} {env:Env} {σ:ar}
def mH {α:Type} (enc:α->List AV) (sz:Nat) (x:AV) (g:Rows) (S:Id->Prop) (L:List α):Prop:=∃o:Id,S o/\x=.own o 0 L.length/\g o=some ⟨true,sz,L.map enc⟩
section
variable {α:Type} {enc:α->List AV} {sz:Nat} {x:AV} {g g':Rows} {S:Id->Prop} {L L':List α}
theorem mH.cast (h:mH enc sz x g S L) (hL:L'=L):mH enc sz x g S L':=by subst hL;exact h
theorem mH.frame (h:mH enc sz x g S L) (hg:∀o:Id,S o->g' o=g o):mH enc sz x g' S L:=by
 obtain⟨o,h1,h2,h3⟩:=h
 exact⟨o,h1,h2,(hg o h1).trans h3⟩
theorem mH.app (hz:∀a,(enc a).length=sz/\(enc a).all AV.cell=true) (h:mH enc sz x g S L) (id:Id) (hid:S id) (M:List α) (hlen:L.length+M.length<=dz):
  ∃v g',aT g id sz x (M.map enc)=some (v,g')/\mH enc sz v g' S (L++M)/\∀j:Id,¬S j->g' j=g j:=by
 obtain⟨o,h1,rfl,h4⟩:=h
 refine⟨.own id 0 (L.length+(M.map enc).length),bF (cj g o) id ⟨true,sz,L.map enc++M.map enc⟩,?_,⟨id,hid,by simp,by simp[bF]⟩,fun j hj=>?_⟩
 ·have ha:=all_map (l:=M) hz
  simp only[aT,h4,Option.bind_some]
  rw[if_pos ⟨trivial,trivial,by simp,by simpa using hlen,ha⟩]
 ·have e1:¬j=id:=fun h=>hj (h▸hid)
  have e2:¬j=o:=fun h=>hj (h▸h1)
  simp[bF,cj,e1,e2]
theorem PF {draw:Bool} {o:bq} {r:List bq} {x' y:O} {xv:AV} (M:List α) (ho:o.op=.append sz x' y) (hw:aH o.guard env=true) (hx:da env x'=xv) (hO:mH enc sz xv σ.get S L)
  (hy:bj σ.get (da env y)=some (M.map enc)) (hz:∀a,(enc a).length=sz/\(enc a).all AV.cell=true) (hid:S ⟨o.site,σ.next⟩) (hlen:L.length+M.length<=dz)
  (next:∀v g',mH enc sz v g' S (L++M)->(∀j:Id,¬S j->g' j=σ.get j)->wpOps X draw r K (upd env o.dst v) ⟨g',σ.next⟩):wpOps X draw (o::r) K env σ:=by
 obtain⟨v,g',h1,h2,h3⟩:=hO.app hz ⟨o.site,σ.next⟩ hid M hlen
 unfold wpOps
 rw[if_pos hw]
 unfold fF
 simp only[ho,ga,hy,hx,Option.bind_some,h1]
 exact next v g' h2 h3
theorem mH.gy {n:Nat} (h:mH enc sz x g S L) (he:∀a,ew g n (enc a)=some (enc a)):gy g (n+1) x=some (.sl (L.map enc)):=by
 obtain⟨o,_,rfl,h3⟩:=h
 exact fI h3 rfl he
end
theorem dt {a b:Id} (h:a.bm<b.bm):(a=b)=False/\(b=a)=False:=by
 constructor<;>(simp only[eq_iff_iff,iff_false];rintro rfl;omega)
theorem Ad {o:Id} {a:Nat} (h:o.site=a) {b v:Nat} (nP:(a==b)=false):(o=⟨b,v⟩)=False:=by
 simp only[eq_iff_iff,iff_false]
 rintro rfl
 simp only at h
 subst h
 simp at nP
def eN (n:Nat):List AV:=[.int .i64 n]
theorem fzN (g:Rows) (n:Nat) (a:Nat):cG g (n+1) (eN a)=some (eN a):=by simp[eN,ai,ao,aG]
theorem Oe (g:Rows) (n:Nat) (a:Nat):ew g (n+1) (eN a)=some (eN a):=by simp[eN,bB,cr,eC]
def P0:CD (List Nat):=fun g cs x ids=>∃id,cs=[.own id 0 x.length]/\g id=some ⟨true,1,x.map eN⟩/\ids=[id]
theorem L8:xp P0 1 where
 frame:=fun⟨id,h1,h2,h3⟩ hf=>by subst h3;exact⟨id,h1,(hf id (by simp)).trans h2,rfl⟩
 len:=fun⟨id,h1,_⟩=>by subst h1;rfl
 cell:=fun⟨id,h1,_⟩=>by subst h1;rfl
 live:=fun⟨id,h1,h2,h3⟩ i hi=>by
  subst h3
  have:i=id:=by simpa using hi
  subst this
  exact⟨_,h2,rfl,by simp[r8]⟩
 small:=by simp[r8]
def Av (l:List Nat):List AV:=[.sl (l.map eN)]
theorem Jq {g:Rows} {rows:List (List AV)} {xs:List (List Nat)} {ids:List Id} (n:Nat) (h:eE P0 g rows xs ids):ib g (n+2) rows=some (xs.map Av):=by
 induction h with
 |nil=>rw[ib];rfl
 |cons h1 _ ih=>
  obtain⟨id,rfl,h2,_⟩:=h1
  rw[ib,ih,bB,cr,fI (e:=eN) (sz:=1) h2 rfl fun a=>Oe g n a];rfl
end Go.Proofs.YtgoelphibofcmaaGreat.V

namespace Go.Proofs.YtgoelphibofcmaaGreat.V
open Go.RowKit
attribute [local irreducible] ek wpOps gq Call
attribute [local go_sem] aH fF eK ga fZ da upd ck K.av cH AV.cells AV.cell rowOf rowsOf part ld rowAt bF cj dy dW gU bG cX eh fY eU dn ea cV cU dH dI bJ aW cK bI cN cL dY eb dZ cJ bL cW dX bH aL cQ cC gT bj cF bK aT du bf dz AV.undef bw bE dM dU dE dJ cE ef ep cw ee ec cP cR List.getD_cons_zero List.getD_cons_succ List.getD_nil List.all_cons List.all_nil Bool.and_true Bool.true_and Bool.and_self Bool.not_true Bool.not_false Option.map_some Option.map_none Option.bind_some Option.bind_none List.length_cons List.length_nil List.take_succ_cons List.take_zero List.take_nil List.drop_succ_cons List.drop_zero List.drop_nil List.head?_cons List.map_cons List.map_nil List.getElem?_cons_zero List.getElem?_cons_succ List.cons_append List.nil_append List.append_nil List.length_map List.set_cons_zero List.set_cons_succ Nat.reduceMul eq_self Int.toNat_natCast Int.natCast_nonneg and_self true_and and_true decide_true decide_false Bool.false_eq_true Nat.zero_add Nat.add_zero List.contains_cons List.contains_nil Bool.or_false Bool.false_or beq_self_eq_true Nat.reduceBEq ne_eq not_true_eq_false not_false_eq_true Id.mk.injEq false_and and_false Nat.reduceLT Int.reduceLE Int.reduceLT Int.reduceToNat Int.reduceNeg Int.reduceAdd Nat.le_refl List.length_append beq_true beq_false Bool.not_eq_eq_eq_not or_false false_or dF ai ao aG aZ bt bW aP aY aQ aV cI bD
variable {P:Program}
def KT {α:Type} (R:CD α) (x:α) (σ:ar) (r:AV) (σ':ar):Prop:=∃cs ids,r=.agg cs/\R σ'.get cs x ids/\gr σ.next σ'.next ids/\Kept σ σ'
def iD {α:Type} (R:CD α) (z:Nat) (g:Rows) (a:AV) (xs:List α) (ids:List Id):Prop:=∃o rows is,a=.own o 0 xs.length/\g o=some ⟨true,z,rows⟩/\eE R g rows xs is/\ids=o::is
def KU {α:Type} (R:CD α) (z:Nat) (xs:List α) (σ:ar) (r:AV) (σ':ar):Prop:=∃ids,iD R z σ'.get r xs ids/\gr σ.next σ'.next ids/\Kept σ σ'
theorem iD.frame {α:Type} {R:CD α} {z:Nat} {g g':Rows} {a:AV} {xs:List α} {ids:List Id} (ok:xp R z) (h:iD R z g a xs ids) (hf:∀i∈ids,g' i=g i):iD R z g' a xs ids:=by
 obtain⟨o,rows,is,h1,h2,h3,rfl⟩:=h
 exact⟨o,rows,is,h1,(hf o (by simp)).trans h2,h3.frame ok fun i hi=>hf i (by simp[hi]),rfl⟩
theorem iD.fz {α:Type} {R:CD α} {z n:Nat} {e:α->List AV} {g:Rows} {a:AV} {xs:List α} {ids:List Id} (h:iD R z g a xs ids) (hz:∀{cs x ids},R g cs x ids->cG (dF g) n cs=some (e x)):V.fz (dF g) (n+1) a=some (.sl (xs.map e)):=by
 obtain⟨o,rows,is,rfl,h2,h3,rfl⟩:=h
 rw[iw]
 simp only[dF,h2,Option.map_some,if_true]
 rw[if_pos (by rw[h3.len];omega),List.drop_zero,List.take_of_length_le (by rw[h3.len];exact Nat.le_refl _),h3.fz hz];rfl
def lz {α:Type} (e:α->List AV):CD α:=fun _ cs x ids=>cs=e x/\ids=[]
theorem IE {α:Type} {e:α->List AV} {z:Nat} (hz:∀x,(e x).length=z) (hc:∀x,(e x).all AV.cell=true) (hs:z<r8):xp (lz e) z where
 frame:=fun h _=>h
 len:=fun h=>by rw[h.1];exact hz _
 cell:=fun h=>by rw[h.1];exact hc _
 live:=fun h i hi=>by rw[h.2]at hi;cases hi
 small:=hs
def oi:CD eR:=fun g cs t ids=>∃i,cs=[.str t.aE,.own i 0 t.br.length]/\g i=some ⟨true,1,t.br.map aw⟩/\ids=[i]
theorem re:xp oi 2 where
 frame:=fun⟨i,h1,h2,h3⟩ hf=>⟨i,h1,(hf i (by rw[h3];simp)).trans h2,h3⟩
 len:=fun⟨i,h1,_⟩=>by rw[h1];rfl
 cell:=fun⟨i,h1,_⟩=>by rw[h1];rfl
 live:=fun⟨i,h1,h2,h3⟩ j hj=>by
  rw[h3]at hj
  have:j=i:=by simpa using hj
  subst this
  exact⟨_,h2,rfl,by simp[r8]⟩
 small:=by simp[r8]
theorem MM {g:Rows} {cs:List AV} {t:eR} {ids:List Id} (n:Nat) (h:oi g cs t ids):cG (dF g) (n+2) cs=some (bp t):=by
 obtain⟨i,rfl,h2,_⟩:=h
 have h3:V.fz (dF g) (n+2) (.own i 0 t.br.length)=some (.sl (t.br.map aw)):=fS (e:=aw) (sz:=1) (by simp[dF,h2]) rfl fun x=>by simp[aw,ai,ao,aG]
 simp only[ai,ao,bt,h3,Option.map_some,bp]
theorem MC {α:Type} {a b:List α} {x y:α} {k:Nat} (hk:a.length=k):(a++x::b).set k y=a++[y]++b:=by subst hk;simp
theorem Am {α:Type} {R:CD α} {en:α->List AV} {z fk gk:Nat} {zero:List K} (ok:xp R z) (hc:mO P fk=some (ua fk gk z zero)) (Fx:zero.length=z) (hz:∀x,(en x).length=z) (xs:List α) (hlen:xs.length<=1048576)
  (hg:∀x∈xs,∀σ,Call P gk [.agg (en x)] σ (KT R x σ)) (σ:ar):Call P fk [.sl (xs.map en)] σ (KU R z xs σ):=by
 refine eV hc rfl fun hl=>?_
 try simp only[q]
 clear hl
 have hm:(xs.length:Int)<=((16777216:Nat):Int):=by omega
 have h0:(0:Int)<=(xs.length:Int):=by omega
 (try((repeat(revert hN;revert N;apply Pn.out));refine wk (tw @hm (tw @h0 (tw @Int.le_refl @Fx))) ?_;(repeat(refine Pn.mk ?_;intro N hN))))
 refine aM (fun n env st=>∃k:Nat,n=(xs.length)-k/\k<=(xs.length)/\env 4=.int .i64 (k:Int)/\(σ.next+2<=st.next/\(∀y:Id,y.bm<σ.next->st.get y=σ.get y)/\∃rows is,st.get ⟨fk*1000000+1002,σ.next+1⟩=some ⟨true,z,rows++List.replicate (xs.length-k) (zero.map K.av)⟩/\eE R st.get rows (xs.take k) is/\gr (σ.next+2) st.next is)) (xs.length) ⟨0,by omega,by omega,sl @Nat.zero_add,by(try dsimp only);exact⟨by omega,fun y hy=>by
  have h1:=dx hy
  simp only[go_sem, ↓reduceIte,Nat.reduceEqDiff,Nat.reduceAdd,Nat.reduceSub,Nat.reduceLeDiff,reduceCtorEq,h1],[],[],sl @Nat.zero_add,.nil,List.nodup_nil,fun i hi=>by cases hi⟩⟩ ?_
 rintro n_a env_a st_a ⟨k,rfl,ale,a4,kc⟩ di
 have a0:=di 0 (by kernel_rfl);have a3:=di 3 (by kernel_rfl)
 simp only[go_sem, ↓reduceIte,Nat.reduceEqDiff,Nat.reduceAdd,Nat.reduceSub,Nat.reduceLeDiff,reduceCtorEq]at a0 a3
 clear di
 obtain⟨an,aK,rows,is,ag,aR,aN⟩:=kc
 have sI:rows.length=k:=by rw[aR.len,List.length_take];omega
 by_cases hk:(k:Int)<(xs.length:Int)
 ·have cz:∀{e:Env} {gg:Rows} {nx:Nat},(e 4=.int .i64 (IntKind.i64.wrap ((k:Int)+1)))->(σ.next+2<=nx/\(∀y:Id,y.bm<σ.next->gg y=σ.get y)/\∃rows is,gg ⟨fk*1000000+1002,σ.next+1⟩=some ⟨true,z,rows++List.replicate (xs.length-(k+1)) (zero.map K.av)⟩/\eE R gg rows (xs.take (k+1)) is/\gr (σ.next+2) nx is)->∃m0,m0<(xs.length)-k/\∃k:Nat,m0=(xs.length)-k/\k<=(xs.length)/\e 4=.int .i64 (k:Int)/\(σ.next+2<=nx/\(∀y:Id,y.bm<σ.next->gg y=σ.get y)/\∃rows is,gg ⟨fk*1000000+1002,σ.next+1⟩=some ⟨true,z,rows++List.replicate (xs.length-k) (zero.map K.av)⟩/\eE R gg rows (xs.take k) is/\gr (σ.next+2) nx is):=fun x1 x2=>⟨_,by omega,k+1,rfl,by omega,(by rw[x1,az (by omega)]),x2⟩
  have eX:k<xs.length:=by omega
  have eM:(xs.map en)[k]? =some (en xs[k]):=by simp[eX]
  have tO:=hz xs[k]
  have ht:(en xs[k]).take z=en xs[k]:=by rw[<-tO,List.take_length]
  have im:=hg _ (List.getElem_mem eX)
  obtain⟨m,Nl⟩:∃m,xs.length-k=m+1:=⟨xs.length-k-1,by omega⟩
  rw[Nl,List.replicate_succ]at ag
  generalize hex:en xs[k]=c at im eM tO ht
  (try((repeat(revert hN;revert N;apply Pn.out));refine wk (tw @a4 (tw @a0 (tw @a3 (tw @hk (tw @eM (tw @tO (tw @ht @Nat.le_refl))))))) ?_;(repeat(refine Pn.mk ?_;intro N hN))))
  refine .inr (aI _ _ _ _ _ (fun r σ1 hq=>?_) (im _))
  obtain⟨cs,ids,rfl,hR,hI,hK⟩:=hq
  obtain⟨g1,x1⟩:=σ1
  (try dsimp only at hR hI hK)
  have Ay:=(hK.2 ⟨fk*1000000+1002,σ.next+1⟩ (by(try dsimp only);omega))
  simp only[go_sem, ↓reduceIte,Nat.reduceEqDiff,Nat.reduceAdd,Nat.reduceSub,Nat.reduceLeDiff,reduceCtorEq,ag]at Ay
  have nR:=ok.len hR
  have zz:=ok.cell hR
  have eZ:(rows++zero.map K.av::List.replicate m (zero.map K.av))[k]? =some (zero.map K.av):=by rw[List.getElem?_append_right (by omega),sI,Nat.sub_self];rfl
  have dS:(rows++zero.map K.av::List.replicate m (zero.map K.av)).set k cs=rows++[cs]++List.replicate m (zero.map K.av):=MC sI
  have IU:(zero.map K.av).drop z=[]:=List.drop_of_length_le (by simp[Fx])
  have Ly:(rows++zero.map K.av::List.replicate m (zero.map K.av)).length=xs.length:=by simp[sI];omega
  refine hN _ _ ?_
  clear hN N
  (try((repeat(revert hN;revert N;apply Pn.out));refine wk (tw @a4 (tw @a0 (tw @a3 (tw @hk (tw @Ay (tw @eZ (tw @dS (tw @Ly (tw @IU (tw @vd (tw @nR (tw @zz (tw @Nat.le_refl @Fx))))))))))))) ?_;(repeat(refine Pn.mk ?_;intro N hN))))
  have zC:=hK.1
  have HJ:∀i∈is,(i=⟨fk*1000000+1002,σ.next+1⟩)=False:=fun i hi=>eq_false fun e=>by
   have:=(aN.2 i hi).1
   subst e;(try dsimp only at this);omega
  have Bt:∀i∈ids,(i=⟨fk*1000000+1002,σ.next+1⟩)=False:=fun i hi=>eq_false fun e=>by
   have:=(hI.2 i hi).1
   subst e;(try dsimp only at this);omega
  exact cz (sd (tw @a4 (tw @a0 @a3))) (by(try dsimp only at *);exact⟨by omega,fun y hy=>by
   have h1:=dx hy
   have h2:=hK.2 y (by(try dsimp only);omega)
   have h3:=aK y hy
   simp only[go_sem, ↓reduceIte,Nat.reduceEqDiff,Nat.reduceAdd,Nat.reduceSub,Nat.reduceLeDiff,reduceCtorEq]at h2
   simp only[go_sem, ↓reduceIte,Nat.reduceEqDiff,Nat.reduceAdd,Nat.reduceSub,Nat.reduceLeDiff,reduceCtorEq,h1,h2,h3],rows++[cs],is++ids,by
    rw[show xs.length-(k+1)=m by omega]
    simp only[go_sem, ↓reduceIte,Nat.reduceEqDiff,Nat.reduceAdd,Nat.reduceSub,Nat.reduceLeDiff,reduceCtorEq]<;>rfl,by
    rw[List.take_succ_eq_append_getElem eX]
    refine((aR.frame ok fun i hi=>?_).app (.one (ok.frame hR fun i hi=>?_)))
    ·have h1:=HJ i hi
     have h2:=hK.2 i (by(try dsimp only);have:=(aN.2 i hi).2;omega)
     simp only[go_sem, ↓reduceIte,Nat.reduceEqDiff,Nat.reduceAdd,Nat.reduceSub,Nat.reduceLeDiff,reduceCtorEq]at h2
     simp only[go_sem, ↓reduceIte,Nat.reduceEqDiff,Nat.reduceAdd,Nat.reduceSub,Nat.reduceLeDiff,reduceCtorEq,h1,h2]
    ·have h1:=Bt i hi
     simp only[go_sem, ↓reduceIte,Nat.reduceEqDiff,Nat.reduceAdd,Nat.reduceSub,Nat.reduceLeDiff,reduceCtorEq,h1],(aN.app hI (by(try dsimp only);omega) (by omega) (by(try dsimp only);omega)).wide (Nat.le_refl _) (by(try dsimp only);omega)⟩)
 ·(try((repeat(revert hN;revert N;apply Pn.out));refine wk (tw @a4 (tw @a0 (tw @a3 @hk))) ?_;(repeat(refine Pn.mk ?_;intro N hN))))
  have eX:k=xs.length:=by omega
  subst eX
  rw[Nat.sub_self,List.replicate_zero,List.append_nil]at ag
  rw[List.take_length]at aR
  refine fb (.inl rfl) (vs:=[.own ⟨fk*1000000+1002,σ.next+1⟩ 0 xs.length]) (sd (tw @a4 (tw @a0 @a3))) ?_
  exact⟨_,⟨_,rows,is,rfl,ag,aR,rfl⟩,⟨List.nodup_cons.2 ⟨fun hi=>by have:=(aN.2 _ hi).1;(try dsimp only at this);omega,aN.1⟩,fun i hi=>by
   rcases List.mem_cons.1 hi with rfl|hi
   ·(try dsimp only);omega
   ·have:=aN.2 i hi;(try dsimp only);omega⟩,⟨by(try dsimp only);omega,fun j hj=>aK j hj⟩⟩
end Go.Proofs.YtgoelphibofcmaaGreat.V

namespace Go.Proofs.YtgoelphibofcmaaGreat.V
open Go.RowKit
attribute [local irreducible] ek wpOps gq Call
attribute [local go_sem] aH fF eK ga fZ da upd ck K.av cH AV.cells AV.cell rowOf rowsOf part ld rowAt bF cj dy dW gU bG cX eh fY eU dn ea cV cU dH dI bJ aW cK bI cN cL dY eb dZ cJ bL cW dX bH aL cQ cC gT bj cF bK aT du bf dz AV.undef bw bE dM dU dE dJ cE ef ep cw ee ec cP cR List.getD_cons_zero List.getD_cons_succ List.getD_nil List.all_cons List.all_nil Bool.and_true Bool.true_and Bool.and_self Bool.not_true Bool.not_false Option.map_some Option.map_none Option.bind_some Option.bind_none List.length_cons List.length_nil List.take_succ_cons List.take_zero List.take_nil List.drop_succ_cons List.drop_zero List.drop_nil List.head?_cons List.map_cons List.map_nil List.getElem?_cons_zero List.getElem?_cons_succ List.cons_append List.nil_append List.append_nil List.length_map List.set_cons_zero List.set_cons_succ Nat.reduceMul eq_self Int.toNat_natCast Int.natCast_nonneg and_self true_and and_true decide_true decide_false Bool.false_eq_true Nat.zero_add Nat.add_zero List.contains_cons List.contains_nil Bool.or_false Bool.false_or beq_self_eq_true Nat.reduceBEq ne_eq not_true_eq_false not_false_eq_true Id.mk.injEq false_and and_false Nat.reduceLT Int.reduceLE Int.reduceLT Int.reduceToNat Int.reduceNeg Int.reduceAdd Nat.le_refl List.length_append beq_true beq_false Bool.not_eq_eq_eq_not or_false false_or dF ai ao aG aZ bt bW aP aY aQ aV cI bD
theorem iD.kS {α:Type} {R:CD α} {z:Nat} {g:Rows} {a:AV} {xs:List α} {ids:List Id} (h:iD R z g a xs ids):∃o,a=.own o 0 xs.length:=by
 obtain⟨o,rows,is,rfl,_⟩:=h;exact⟨o,rfl⟩
theorem Kh (xs:List Int) (hlen:xs.length<=1048576) (σ:ar):Call Tryz.prog 195 [.sl (xs.map aw)] σ (fun r σ'=>∃i,r=.own i 0 xs.length/\σ'.get i=some ⟨true,1,xs.map aw⟩/\gr σ.next σ'.next [i]/\Kept σ σ'):=by
 refine eV (show mO Tryz.prog 195=some (Kj 195 (.int .i64 0)) by kernel_rfl) rfl fun hl=>?_
 try simp only[q]
 clear hl
 obtain⟨en,DG⟩:∃en:Int->List AV,en=aw:=⟨_,rfl⟩
 rw[<-DG]
 have hm:(xs.length:Int)<=((16777216:Nat):Int):=by omega
 have h0:(0:Int)<=(xs.length:Int):=by omega
 (try((repeat(revert hN;revert N;apply Pn.out));refine wk (tw @hm (tw @h0 (tw @Int.le_refl (oz en [AV.int .i64 0] xs)))) ?_;(repeat(refine Pn.mk ?_;intro N hN))))
 refine aM (fun n env st=>∃k:Nat,n=(xs.length)-k/\k<=(xs.length)/\env 4=.int .i64 (k:Int)/\st.get ⟨195*1000000+1002,σ.next+1⟩=some ⟨true,1,gM en [AV.int .i64 0] xs k⟩/\(σ.next+2<=st.next/\∀y:Id,y.bm<σ.next->st.get y=σ.get y)) (xs.length) ⟨0,by omega,by omega,sl @Nat.zero_add,sl @Nat.zero_add,by(try dsimp only);exact⟨by omega,fun y hy=>by
  have h1:=dx hy
  simp only[go_sem, ↓reduceIte,Nat.reduceEqDiff,Nat.reduceAdd,Nat.reduceSub,Nat.reduceLeDiff,reduceCtorEq,h1]⟩⟩ ?_
 rintro n_a env_a st_a ⟨k,rfl,ale,a4,ag0,kc⟩ di
 have a0:=di 0 (by kernel_rfl);have a3:=di 3 (by kernel_rfl)
 simp only[go_sem, ↓reduceIte,Nat.reduceEqDiff,Nat.reduceAdd,Nat.reduceSub,Nat.reduceLeDiff,reduceCtorEq]at a0 a3
 clear di
 obtain⟨an,aK⟩:=kc
 by_cases hk:(k:Int)<(xs.length:Int)
 ·have cz:∀{e:Env} {gg:Rows} {nx:Nat},(e 4=.int .i64 (IntKind.i64.wrap ((k:Int)+1)))->(gg ⟨195*1000000+1002,σ.next+1⟩=some ⟨true,1,gM en [AV.int .i64 0] xs (k+1)⟩)->(σ.next+2<=nx/\∀y:Id,y.bm<σ.next->gg y=σ.get y)->∃m0,m0<(xs.length)-k/\∃k:Nat,m0=(xs.length)-k/\k<=(xs.length)/\e 4=.int .i64 (k:Int)/\gg ⟨195*1000000+1002,σ.next+1⟩=some ⟨true,1,gM en [AV.int .i64 0] xs k⟩/\(σ.next+2<=nx/\∀y:Id,y.bm<σ.next->gg y=σ.get y):=fun x1 x2 x3=>⟨_,by omega,k+1,rfl,by omega,(by rw[x1,az (by omega)]),x2,x3⟩
  have eX:k<xs.length:=by omega
  have eM:(xs.map en)[k]? =some [AV.int .i64 xs[k]]:=by simp[eX,DG,aw]
  have e6:=qv en [AV.int .i64 0] xs eX
  have dS:=qw en [AV.int .i64 0] xs eX
  rw[show en xs[k]=[AV.int .i64 xs[k]] by rw[DG];rfl]at dS
  (try((repeat(revert hN;revert N;apply Pn.out));refine wk (tw @a4 (tw @ag0 (tw @a0 (tw @a3 (tw @hk (tw @eM (tw @e6 @dS))))))) ?_;(repeat(refine Pn.mk ?_;intro N hN))))
  refine cz ?_ ?_ (by(try dsimp only);exact⟨by omega,fun y hy=>by
   have h1:=dx hy
   have h3:=aK y hy
   simp only[go_sem, ↓reduceIte,Nat.reduceEqDiff,Nat.reduceAdd,Nat.reduceSub,Nat.reduceLeDiff,reduceCtorEq,h1,h3]⟩)
  all_goals simp only[go_sem, ↓reduceIte,Nat.reduceEqDiff,Nat.reduceAdd,Nat.reduceSub,Nat.reduceLeDiff,reduceCtorEq,a4,ag0,a0,a3]
 ·(try((repeat(revert hN;revert N;apply Pn.out));refine wk (tw @a4 (tw @ag0 (tw @a0 (tw @a3 @hk)))) ?_;(repeat(refine Pn.mk ?_;intro N hN))))
  have eX:k=xs.length:=by omega
  subst eX
  refine fb (.inl rfl) (vs:=[.own ⟨195*1000000+1002,σ.next+1⟩ 0 xs.length]) (sd (tw @a4 (tw @ag0 (tw @a0 @a3)))) ?_
  rw[qu]at ag0
  exact⟨_,rfl,ag0,⟨List.nodup_cons.2 ⟨by simp,List.nodup_nil⟩,fun i hi=>by
   rw[List.mem_singleton.1 hi];(try dsimp only);omega⟩,⟨by(try dsimp only);omega,fun j hj=>aK j hj⟩⟩
theorem Kk (p:eR) (hs:sN p) (σ:ar):Call Tryz.prog 162 [.agg (bp p)] σ (KT oi p σ):=by
 refine eV eL rfl fun hl=>?_
 clear hl
 (try((repeat(revert hN;revert N;apply Pn.out));refine wk @bp.eq_1 ?_;(repeat(refine Pn.mk ?_;intro N hN))))
 refine .inr (aI _ _ _ _ _ (fun r σ1 hq=>?_) (Kh p.br hs _))
 obtain⟨i,rfl,hg,hI,hK⟩:=hq
 obtain⟨g1,x1⟩:=σ1
 (try dsimp only at hg hI hK)
 have hn:=hK.1
 refine hN _ _ ?_
 clear hN N
 have hi:=hI.2 i (by simp)
 have k2:=hK.2 ⟨162000001,σ.next⟩ (by(try dsimp only);omega)
 have k3:=hK.2 ⟨162001000,σ.next+1⟩ (by(try dsimp only);omega)
 simp only[go_sem, ↓reduceIte,Nat.reduceEqDiff,Nat.reduceAdd,Nat.reduceSub,Nat.reduceLeDiff,reduceCtorEq]at k2 k3
 (try((repeat(revert hN;revert N;apply Pn.out));refine wk (tw @bp.eq_1 (tw @k2 @k3)) ?_;(repeat(refine Pn.mk ?_;intro N hN))))
 refine fb (.inl rfl) (vs:=[.agg [.str p.aE,.own i 0 p.br.length]]) (sd @Nat.zero_add) ?_
 refine⟨_,[i],rfl,⟨i,rfl,?_,rfl⟩,⟨hI.1,fun j hj=>?_⟩,⟨?_,fun j hj=>?_⟩⟩
 ·have i2:=dt (b:=i) (a:=⟨162000001,σ.next⟩) (by(try dsimp only at *);omega)
  have i3:=dt (b:=i) (a:=⟨162001000,σ.next+1⟩) (by(try dsimp only at *);omega)
  simp only[go_sem, ↓reduceIte,Nat.reduceEqDiff,Nat.reduceAdd,Nat.reduceSub,Nat.reduceLeDiff,reduceCtorEq,i2,i3,hg]
 ·rw[List.mem_singleton.1 hj]
  (try dsimp only at *);omega
 ·(try dsimp only at *);omega
 ·have h2:=hK.2 j (by(try dsimp only);omega)
  have h1:=dx hj
  simp only[go_sem, ↓reduceIte,Nat.reduceEqDiff,Nat.reduceAdd,Nat.reduceSub,Nat.reduceLeDiff,reduceCtorEq,h1]at h2
  simp only[go_sem, ↓reduceIte,Nat.reduceEqDiff,Nat.reduceAdd,Nat.reduceSub,Nat.reduceLeDiff,reduceCtorEq,h1,h2]
theorem Bh:xp (lz bP) 2:=IE (fun _=>rfl) (fun _=>rfl) (by simp[r8])
theorem yc:xp (lz aj) 3:=IE (fun _=>rfl) (fun _=>rfl) (by simp[r8])
theorem Kf (p:fy) (σ:ar):Call Tryz.prog 161 [.agg (bP p)] σ (KT (lz bP) p σ):=by
 refine eV eL rfl fun hl=>?_
 clear hl
 (try((repeat(revert hN;revert N;apply Pn.out));refine wk @bP.eq_1 ?_;(repeat(refine Pn.mk ?_;intro N hN))))
 refine fb (.inl rfl) (vs:=[.agg (bP p)]) (sd @bP.eq_1) ?_
 exact⟨_,[],rfl,⟨rfl,rfl⟩,⟨List.nodup_nil,fun i hi=>by cases hi⟩,⟨by(try dsimp only);omega,fun j hj=>by
  have h1:=dx hj
  simp only[go_sem, ↓reduceIte,Nat.reduceEqDiff,Nat.reduceAdd,Nat.reduceSub,Nat.reduceLeDiff,reduceCtorEq,h1]⟩⟩
theorem EJ (p:ae) (σ:ar):Call Tryz.prog 104 [.agg (aj p)] σ (KT (lz aj) p σ):=by
 refine eV eL rfl fun hl=>?_
 clear hl
 have h:=yX p.bc
 rw[ab]at h
 (repeat(first|((repeat(revert hN;revert N;apply Pn.out));refine wk @aj.eq_1 ?_;(repeat(refine Pn.mk ?_;intro N hN)))|((try apply Or.inl);refine⟨_,kj.x (h) _,?_⟩;refine hN _ _ ?_;clear hN N)))
 refine fb (.inl rfl) (vs:=[.agg (aj p)]) (sd @aj.eq_1) ?_
 exact⟨_,[],rfl,⟨rfl,rfl⟩,⟨List.nodup_nil,fun i hi=>by cases hi⟩,⟨by(try dsimp only);omega,fun j hj=>by
  have h1:=dx hj
  simp only[go_sem, ↓reduceIte,Nat.reduceEqDiff,Nat.reduceAdd,Nat.reduceSub,Nat.reduceLeDiff,reduceCtorEq,h1]⟩⟩
theorem Hv (xs:List fy) (h:xs.length<=1048576) (σ:ar):Call Tryz.prog 102 [.sl (xs.map bP)] σ (KU (lz bP) 2 xs σ):=
 Am Bh (show mO Tryz.prog 102=some (ua 102 161 2 [.str [],.int .i64 0]) by kernel_rfl) rfl (fun _=>rfl) xs h (fun x _ σ=>Kf x σ) σ
theorem Hx (xs:List eR) (h:xs.length<=1048576) (hs:∀t∈xs,sN t) (σ:ar):Call Tryz.prog 103 [.sl (xs.map bp)] σ (KU oi 2 xs σ):=
 Am re (show mO Tryz.prog 103=some (ua 103 162 2 [.str [],.bV]) by kernel_rfl) rfl (fun _=>rfl) xs h (fun x hx σ=>Kk x (hs x hx) σ) σ
theorem Cv (xs:List ae) (h:xs.length<=1048576) (σ:ar):Call Tryz.prog 62 [.sl (xs.map aj)] σ (KU (lz aj) 3 xs σ):=
 Am yc (show mO Tryz.prog 62=some (ua 62 104 3 [.int .i64 0,.int .i64 0,.int .i64 0]) by kernel_rfl) rfl (fun _=>rfl) xs h (fun x _ σ=>EJ x σ) σ
def xo (g:Rows) (v:AV) (a:dP) (ids:List Id):Prop:=∃x,v=.agg [x]/\iD (lz aj) 3 g x a.ah ids
structure y7 (g:Rows) (v:AV) (s:aD) (ids:List Id):Prop where
 ex:∃a b c i1 i2 i3,v=.agg [a,b,c,.int .i64 s.ay]/\iD (lz bP) 2 g a s.aB.ax i1/\iD oi 2 g b s.aB.ah i2/\iD (lz aj) 3 g c s.cu.ah i3/\ids=i1++(i2++i3)
theorem xo.frame {g g':Rows} {v:AV} {a:dP} {ids:List Id} (h:xo g v a ids) (hf:∀i∈ids,g' i=g i):xo g' v a ids:=by
 obtain⟨x,h1,h2⟩:=h
 exact⟨x,h1,h2.frame yc hf⟩
theorem y7.frame {g g':Rows} {v:AV} {s:aD} {ids:List Id} (h:y7 g v s ids) (hf:∀i∈ids,g' i=g i):y7 g' v s ids:=by
 obtain⟨a,b,c,i1,i2,i3,h1,h2,h3,h4,rfl⟩:=h.ex
 exact⟨a,b,c,i1,i2,i3,h1,h2.frame Bh fun i hi=>hf i (by simp[hi]),h3.frame re fun i hi=>hf i (by simp[hi]),h4.frame yc fun i hi=>hf i (by simp[hi]),rfl⟩
theorem xo.fz {g:Rows} {v:AV} {a:dP} {ids:List Id} (n:Nat) (h:xo g v a ids):V.fz (dF g) (n+4) v=some (.agg (aO a)):=by
 obtain⟨x,rfl,h2⟩:=h
 have h3:=h2.fz (n:=n+2) (e:=aj) fun hc=>by rw[hc.1];simp[aj,ai,ao,aG]
 simp only[aY,ai,ao,h3,Option.map_some,aO]
theorem y7.fz {g:Rows} {v:AV} {s:aD} {ids:List Id} (n:Nat) (h:y7 g v s ids):V.fz (dF g) (n+5) v=some (.agg (aC s)):=by
 obtain⟨a,b,c,i1,i2,i3,rfl,h2,h3,h4,rfl⟩:=h.ex
 have q1:=h2.fz (n:=n+3) (e:=bP) fun hc=>by rw[hc.1];simp[bP,ai,ao,aG,bt]
 have q2:=h3.fz (n:=n+3) (e:=bp) fun hc=>MM (n+1) hc
 have q3:=h4.fz (n:=n+3) (e:=aj) fun hc=>by rw[hc.1];simp[aj,ai,ao,aG]
 simp only[aY,ai,ao,q1,q2,q3,aG,Option.map_some,aC]
theorem sr (p:dP) (hs:p.ah.length<=1048576) (σ:ar):Call Tryz.prog 18 [.agg (aO p)] σ (fun r σ'=>∃ids,xo σ'.get r p ids/\gr σ.next σ'.next ids/\Kept σ σ'):=by
 refine eV eL rfl fun hl=>?_
 clear hl
 (try((repeat(revert hN;revert N;apply Pn.out));refine wk @aO.eq_1 ?_;(repeat(refine Pn.mk ?_;intro N hN))))
 refine .inr (aI _ _ _ _ _ (fun r σ1 hq=>?_) (Cv p.ah hs _))
 obtain⟨ids,hR,hI,hK⟩:=hq
 obtain⟨g1,x1⟩:=σ1
 (try dsimp only at hR hI hK)
 have hn:=hK.1
 obtain⟨o,rows,is,rfl,hg,Ui,rfl⟩:=hR
 refine hN _ _ ?_
 clear hN N
 have k2:=hK.2 ⟨18000001,σ.next⟩ (by(try dsimp only);omega)
 have k3:=hK.2 ⟨18001000,σ.next+1⟩ (by(try dsimp only);omega)
 simp only[go_sem, ↓reduceIte,Nat.reduceEqDiff,Nat.reduceAdd,Nat.reduceSub,Nat.reduceLeDiff,reduceCtorEq]at k2 k3
 (try((repeat(revert hN;revert N;apply Pn.out));refine wk (tw @aO.eq_1 (tw @k2 @k3)) ?_;(repeat(refine Pn.mk ?_;intro N hN))))
 refine fb (.inl rfl) (vs:=[.agg [.own o 0 p.ah.length]]) (sd @Nat.zero_add) ?_
 have hb:=hI.2
 (try dsimp only at hb hn)
 refine⟨_,⟨_,rfl,iD.frame yc ⟨o,rows,is,rfl,hg,Ui,rfl⟩ fun j hj=>?_⟩,⟨hI.1,fun j hj=>?_⟩,⟨?_,fun j hj=>?_⟩⟩
 ·have OJ:=hb j hj
  have i2:=dt (b:=j) (a:=⟨18000001,σ.next⟩) (by(try dsimp only);omega)
  have i3:=dt (b:=j) (a:=⟨18001000,σ.next+1⟩) (by(try dsimp only);omega)
  simp only[go_sem, ↓reduceIte,Nat.reduceEqDiff,Nat.reduceAdd,Nat.reduceSub,Nat.reduceLeDiff,reduceCtorEq,i2,i3]
 ·have:=hb j hj
  (try dsimp only);omega
 ·(try dsimp only);omega
 ·have h2:=hK.2 j (by(try dsimp only);omega)
  have h1:=dx hj
  simp only[go_sem, ↓reduceIte,Nat.reduceEqDiff,Nat.reduceAdd,Nat.reduceSub,Nat.reduceLeDiff,reduceCtorEq,h1]at h2
  simp only[go_sem, ↓reduceIte,Nat.reduceEqDiff,Nat.reduceAdd,Nat.reduceSub,Nat.reduceLeDiff,reduceCtorEq,h1,h2]
theorem Cx (p:au) (hs:H3 p) (σ:ar):Call Tryz.prog 61 [.agg (aa p)] σ (fun r σ'=>∃a b i1 i2,r=.agg [a,b]/\iD (lz bP) 2 σ'.get a p.ax i1/\iD oi 2 σ'.get b p.ah i2/\gr σ.next σ'.next (i1++i2)/\Kept σ σ'):=by
 refine eV eL rfl fun hl=>?_
 clear hl
 (try((repeat(revert hN;revert N;apply Pn.out));refine wk @aa.eq_1 ?_;(repeat(refine Pn.mk ?_;intro N hN))))
 refine .inr (aI _ _ _ _ _ (fun r σ1 hq=>?_) (Hv p.ax hs.g _))
 obtain⟨i1,hR,hI,hK⟩:=hq
 obtain⟨g1,x1⟩:=σ1
 (try dsimp only at hR hI hK)
 have hn:=hK.1
 obtain⟨o,rows,is,rfl,hg,Ui,rfl⟩:=hR
 have hb:=hI.2
 (try dsimp only at hb hn)
 refine hN _ _ ?_
 clear hN N
 have k1:=hK.2 ⟨61000000,σ.next⟩ (by(try dsimp only);omega)
 have k2:=hK.2 ⟨61000001,σ.next⟩ (by(try dsimp only);omega)
 have k3:=hK.2 ⟨61001000,σ.next+1⟩ (by(try dsimp only);omega)
 simp only[go_sem, ↓reduceIte,Nat.reduceEqDiff,Nat.reduceAdd,Nat.reduceSub,Nat.reduceLeDiff,reduceCtorEq]at k1 k2 k3
 (try((repeat(revert hN;revert N;apply Pn.out));refine wk (tw @aa.eq_1 (tw @k1 (tw @k2 @k3))) ?_;(repeat(refine Pn.mk ?_;intro N hN))))
 refine .inr (aI _ _ _ _ _ (fun r σ2 hq=>?_) (Hx p.ah hs.t hs.s _))
 obtain⟨i2,hS,hJ,hL⟩:=hq
 obtain⟨g2,x2⟩:=σ2
 (try dsimp only at hS hJ hL)
 have OQ:=hL.1
 obtain⟨o2,Se,is2,rfl,OC,hS',rfl⟩:=hS
 have hc:=hJ.2
 (try dsimp only at hc OQ)
 refine hN _ _ ?_
 clear hN N
 have l2:=hL.2 ⟨61000001,σ.next⟩ (by(try dsimp only);omega)
 have l3:=hL.2 ⟨61001000,σ.next+1⟩ (by(try dsimp only);omega)
 simp only[go_sem, ↓reduceIte,Nat.reduceEqDiff,Nat.reduceAdd,Nat.reduceSub,Nat.reduceLeDiff,reduceCtorEq,k2,k3]at l2 l3
 (try((repeat(revert hN;revert N;apply Pn.out));refine wk (tw @aa.eq_1 (tw @l2 @l3)) ?_;(repeat(refine Pn.mk ?_;intro N hN))))
 refine fb (.inl rfl) (vs:=[.agg [.own o 0 p.ax.length,.own o2 0 p.ah.length]]) (sd @Nat.zero_add) ?_
 have fr:∀x:Id,σ.next+2<=x.bm->(x=⟨61000001,σ.next⟩)=False/\(x=⟨61001000,σ.next+1⟩)=False:=fun x hx=>⟨(dt (a:=⟨61000001,σ.next⟩) (b:=x) (by(try dsimp only);omega)).2,(dt (a:=⟨61001000,σ.next+1⟩) (b:=x) (by(try dsimp only);omega)).2⟩
 refine⟨_,_,_,_,rfl,iD.frame (g:=g1) Bh ⟨o,rows,is,rfl,hg,Ui,rfl⟩ fun i hi=>?_,iD.frame (g:=g2) re ⟨o2,Se,is2,rfl,OC,hS',rfl⟩ fun i hi=>?_,?_,⟨by(try dsimp only);omega,fun j hj=>?_⟩⟩
 ·have h1:=hb i hi
  have h2:=hL.2 i (by(try dsimp only);omega)
  have h3:=fr i (by omega)
  simp only[go_sem, ↓reduceIte,Nat.reduceEqDiff,Nat.reduceAdd,Nat.reduceSub,Nat.reduceLeDiff,reduceCtorEq,h3]at h2
  simp only[go_sem, ↓reduceIte,Nat.reduceEqDiff,Nat.reduceAdd,Nat.reduceSub,Nat.reduceLeDiff,reduceCtorEq,h2,h3]
 ·have h1:=hc i hi
  have h3:=fr i (by omega)
  simp only[go_sem, ↓reduceIte,Nat.reduceEqDiff,Nat.reduceAdd,Nat.reduceSub,Nat.reduceLeDiff,reduceCtorEq,h3]
 ·(try dsimp only at *)
  exact(hI.app hJ (by omega) (by omega) (by omega)).wide (by omega) (by omega)
 ·have h1:=dx hj
  have h2:=hL.2 j (by(try dsimp only);omega)
  have h3:=hK.2 j (by(try dsimp only);omega)
  simp only[go_sem, ↓reduceIte,Nat.reduceEqDiff,Nat.reduceAdd,Nat.reduceSub,Nat.reduceLeDiff,reduceCtorEq,h1]at h2 h3
  simp only[go_sem, ↓reduceIte,Nat.reduceEqDiff,Nat.reduceAdd,Nat.reduceSub,Nat.reduceLeDiff,reduceCtorEq,h1,h2,h3]
theorem EM (p:aD) (hs:rz p) (σ:ar):Call Tryz.prog 17 [.agg (aC p)] σ (fun r σ'=>∃ids,y7 σ'.get r p ids/\gr σ.next σ'.next ids/\Kept σ σ'):=by
 refine eV eL rfl fun hl=>?_
 clear hl
 have t1:=fun σ=>Cx p.aB hs.s σ
 have t2:=fun σ=>sr p.cu hs.a σ
 rw[aa]at t1
 rw[aO]at t2
 (try((repeat(revert hN;revert N;apply Pn.out));refine wk @aC.eq_1 ?_;(repeat(refine Pn.mk ?_;intro N hN))))
 refine .inr (aI _ _ _ _ _ (fun r σ1 hq=>?_) (t1 _))
 obtain⟨a,b,i1,i2,rfl,hA,hB,hI,hK⟩:=hq
 obtain⟨g1,x1⟩:=σ1
 (try dsimp only at hA hB hI hK)
 have hn:=hK.1
 have hb:=hI.2
 (try dsimp only at hb hn)
 refine hN _ _ ?_
 clear hN N
 have k1:=hK.2 ⟨17000000,σ.next⟩ (by(try dsimp only);omega)
 have k2:=hK.2 ⟨17000001,σ.next⟩ (by(try dsimp only);omega)
 have k3:=hK.2 ⟨17001000,σ.next+1⟩ (by(try dsimp only);omega)
 simp only[go_sem, ↓reduceIte,Nat.reduceEqDiff,Nat.reduceAdd,Nat.reduceSub,Nat.reduceLeDiff,reduceCtorEq]at k1 k2 k3
 obtain⟨oa,rfl⟩:=hA.kS
 obtain⟨ob,rfl⟩:=hB.kS
 (try((repeat(revert hN;revert N;apply Pn.out));refine wk (tw @aC.eq_1 (tw @k1 (tw @k2 @k3))) ?_;(repeat(refine Pn.mk ?_;intro N hN))))
 refine .inr (aI _ _ _ _ _ (fun r σ2 hq=>?_) (t2 _))
 obtain⟨i3,hC,hJ,hL⟩:=hq
 obtain⟨g2,x2⟩:=σ2
 (try dsimp only at hC hJ hL)
 have OQ:=hL.1
 have hc:=hJ.2
 (try dsimp only at hc OQ)
 obtain⟨c,rfl,hC⟩:=hC
 obtain⟨oc,rfl⟩:=hC.kS
 refine hN _ _ ?_
 clear hN N
 have l1:=hL.2 ⟨17000000,σ.next⟩ (by(try dsimp only);omega)
 have l2:=hL.2 ⟨17000001,σ.next⟩ (by(try dsimp only);omega)
 have l3:=hL.2 ⟨17001000,σ.next+1⟩ (by(try dsimp only);omega)
 simp only[go_sem, ↓reduceIte,Nat.reduceEqDiff,Nat.reduceAdd,Nat.reduceSub,Nat.reduceLeDiff,reduceCtorEq,k1,k2,k3]at l1 l2 l3
 (try((repeat(revert hN;revert N;apply Pn.out));refine wk (tw @aC.eq_1 (tw @l1 (tw @l2 @l3))) ?_;(repeat(refine Pn.mk ?_;intro N hN))))
 refine fb (.inl rfl) (vs:=[.agg [.own oa 0 p.aB.ax.length,.own ob 0 p.aB.ah.length,.own oc 0 p.cu.ah.length,.int .i64 p.ay]]) (sd @Nat.zero_add) ?_
 have fr:∀x:Id,σ.next+2<=x.bm->(x=⟨17000001,σ.next⟩)=False/\(x=⟨17001000,σ.next+1⟩)=False:=fun x hx=>⟨(dt (a:=⟨17000001,σ.next⟩) (b:=x) (by(try dsimp only);omega)).2,(dt (a:=⟨17001000,σ.next+1⟩) (b:=x) (by(try dsimp only);omega)).2⟩
 have fr2:∀i∈i1++i2,g2 i=g1 i:=fun i hi=>by
  have h1:=hb i hi
  have h2:=hL.2 i (by(try dsimp only);omega)
  have h3:=fr i (by omega)
  simp only[go_sem, ↓reduceIte,Nat.reduceEqDiff,Nat.reduceAdd,Nat.reduceSub,Nat.reduceLeDiff,reduceCtorEq,h3]at h2
  exact h2
 refine⟨i1++(i2++i3),⟨_,_,_,i1,i2,i3,rfl,hA.frame Bh fun i hi=>?_,hB.frame re fun i hi=>?_,hC.frame yc fun i hi=>?_,rfl⟩,?_,⟨by(try dsimp only);omega,fun j hj=>?_⟩⟩
 ·have h1:=hb i (by simp[hi])
  have h2:=fr2 i (by simp[hi])
  have h3:=fr i (by omega)
  simp only[go_sem, ↓reduceIte,Nat.reduceEqDiff,Nat.reduceAdd,Nat.reduceSub,Nat.reduceLeDiff,reduceCtorEq,h2,h3]
 ·have h1:=hb i (by simp[hi])
  have h2:=fr2 i (by simp[hi])
  have h3:=fr i (by omega)
  simp only[go_sem, ↓reduceIte,Nat.reduceEqDiff,Nat.reduceAdd,Nat.reduceSub,Nat.reduceLeDiff,reduceCtorEq,h2,h3]
 ·have h1:=hc i hi
  have h3:=fr i (by omega)
  simp only[go_sem, ↓reduceIte,Nat.reduceEqDiff,Nat.reduceAdd,Nat.reduceSub,Nat.reduceLeDiff,reduceCtorEq,h3]
 ·(try dsimp only at *)
  rw[<-List.append_assoc]
  exact(hI.app hJ (by omega) (by omega) (by omega)).wide (by omega) (by omega)
 ·have h1:=dx hj
  have h2:=hL.2 j (by(try dsimp only);omega)
  have h3:=hK.2 j (by(try dsimp only);omega)
  simp only[go_sem, ↓reduceIte,Nat.reduceEqDiff,Nat.reduceAdd,Nat.reduceSub,Nat.reduceLeDiff,reduceCtorEq,h1]at h2 h3
  simp only[go_sem, ↓reduceIte,Nat.reduceEqDiff,Nat.reduceAdd,Nat.reduceSub,Nat.reduceLeDiff,reduceCtorEq,h1,h2,h3]
end Go.Proofs.YtgoelphibofcmaaGreat.V

namespace Go.Proofs.YtgoelphibofcmaaGreat
open Go.RowKit
def kU (n:Int):Bool:=(decide (97<=n)&&decide (n<=122))||(decide (65<=n)&&decide (n<=90))
def lq (n:Int):Bool:=decide (48<=n)&&decide (n<=57)
def uf (i:Nat) (n:Int):Prop:=kU n=true∨(0<i/\(lq n=true∨n=95))
def uV (s:ByteArray):Prop:=(1<=s.size/\s.size<=12)/\∀i (h:i<s.size),uf i s[i].toNat
open Classical in
noncomputable def jI (s:ByteArray):Bool:=decide (uV s)
theorem Ef {s:ByteArray} (h:uV s):true=jI s:=by simp[jI,h]
theorem ej {s:ByteArray} (h:¬uV s):false=jI s:=by simp[jI,h]
theorem Cb {s:ByteArray} {b:Bool} (hb:b=true) (h:uV s):b=jI s:=by simp[jI,h,hb]
theorem r9 {s:ByteArray} {b:Bool} (hb:b=false) (h:¬uV s):b=jI s:=by simp[jI,h,hb]
theorem we (w:World) (n:Int):Calls Tryz.prog 212 #[.int .u8 n] w fun e w'=>e=.returned (.bool (kU n))/\w=w':=by
 go_enter Tryz.func212,Tryz.ntmps212
 go_wp2_with fail
 all_goals
  go_ret
  exact⟨iG (by unfold kU;simp[*];try omega),rfl⟩
theorem Gk (w:World) (n:Int):Calls Tryz.prog 213 #[.int .u8 n] w fun e w'=>e=.returned (.bool (lq n))/\w=w':=by
 go_enter Tryz.func213,Tryz.ntmps213
 go_wp2_with fail
 all_goals
  go_ret
  exact⟨iG (by unfold lq;simp[*];try omega),rfl⟩
theorem Cn (w:World) (s:ByteArray) (hs:s.size<=9223372036854775807):Calls Tryz.prog 189 #[.string s] w fun e w'=>e=.returned (.bool (jI s))/\Below w.heap.size w w':=by
 by_cases h1:1<=s.size
 case neg=>
  go_enter Tryz.func189,Tryz.ntmps189
  go_wp2_with fail
  go_ret
  exact⟨iG (ej fun h=>h1 h.1.1),Below.refl _ _⟩
 by_cases h2:s.size<=12
 case neg=>
  go_enter Tryz.func189,Tryz.ntmps189
  go_wp2_with fail
  go_ret
  exact⟨iG (ej fun h=>h2 h.1.2),Below.refl _ _⟩
 go_enter Tryz.func189,Tryz.ntmps189
 go_wp2_with fail
 refine(we _ _).mono ?_
 rintro e w' ⟨rfl,rfl⟩
 cases h3:kU s[0].toNat
 ·go_wp2_with fail
  go_ret
  exact⟨iG (ej fun h=>by have:=h.2 0 (by omega);simp only[uf]at this;rw[h3]at this;simp at this),Below.refl _ _⟩
 ·replace h3:=Lib.hid h3
  go_wp2_with fail
  go_loop [3] (fun i=>∃k:Nat,1<=k/\k<=s.size/\i=.int .i64 k/\Hid (∀j (h:j<s.size),j<k->uf j s[j].toNat)) (fun i=>s.size-(intOf i).toNat)
  case atStart=>exact⟨1,by omega,by omega,rfl,Lib.hid fun j h hj=>by
   obtain rfl:j=0:=by omega
   exact .inl h3.out⟩
  case round=>
   obtain⟨k,rj,hk,rfl,dQ⟩:=hrel
   by_cases dR:k<s.size
   ·go_wp2_with fail
    refine(we _ _).mono ?_
    rintro e w' ⟨rfl,rfl⟩
    have lr:uf k s[k].toNat∨¬uf k s[k].toNat:=Classical.em _
    cases hl:kU s[k].toNat
    ·go_wp2_with fail
     refine(Gk _ _).mono ?_
     rintro e w' ⟨rfl,rfl⟩
     cases hd:lq s[k].toNat
     ·by_cases uF:(s[k].toNat:Int)=95
      ·have TW:((s[k].toNat:Int) !=95)=false:=by simp;omega
       replace uF:=Lib.hid uF
       replace hl:=Lib.hid hl
       replace hd:=Lib.hid hd
       go_wp2_with fail
       go_round
       case rel=>exact⟨k+1,by omega,by omega,by go_num,Lib.hid fun j h hj=>by
        by_cases ym:j=k
        ·subst ym;exact .inr ⟨by omega,.inr uF.out⟩
        ·exact dQ.out j h (by omega)⟩
       case measure=>simp[intOf];omega
      ·have TW:((s[k].toNat:Int) !=95)=true:=by simp;omega
       replace uF:=Lib.hid uF
       replace hl:=Lib.hid hl
       replace hd:=Lib.hid hd
       go_wp2_with fail
       go_ret
       exact⟨iG (ej fun h=>by
        have:=h.2 k dR;simp only[uf,hl.out,hd.out]at this;exact uF.out (by simp at this;exact this.2)),Below.refl _ _⟩
     ·replace hl:=Lib.hid hl
      replace hd:=Lib.hid hd
      go_wp2_with fail
      go_round
      case rel=>exact⟨k+1,by omega,by omega,by go_num,Lib.hid fun j h hj=>by
       by_cases ym:j=k
       ·subst ym;exact .inr ⟨by omega,.inl hd.out⟩
       ·exact dQ.out j h (by omega)⟩
      case measure=>simp[intOf];omega
    ·replace hl:=Lib.hid hl
     go_wp2_with fail
     go_round
     case rel=>exact⟨k+1,by omega,by omega,by go_num,Lib.hid fun j h hj=>by
      by_cases ym:j=k
      ·subst ym;exact .inl hl.out
      ·exact dQ.out j h (by omega)⟩
     case measure=>simp[intOf];omega
   ·go_wp2_with fail
    go_ret
    exact⟨iG (Ef ⟨⟨h1,h2⟩,fun i h=>dQ.out i h (by omega)⟩),Below.refl _ _⟩
theorem BL (w:World) (s:ByteArray) (hs:s.size<=9223372036854775807):Calls Tryz.prog 198 #[.string s] w fun e w'=>e=.returned (.bool (jI s))/\w=w':=by
 go_enter Tryz.func198,Tryz.ntmps198
 go_wp2_with fail
 go_loop [8] (fun i=>∃k:Nat,k<=s.size/\i=.int .i64 k/\Hid (∀j (h:j<s.size),j<k->uf j s[j].toNat)) (fun i=>s.size-(intOf i).toNat)
 case atStart=>exact⟨0,by omega,rfl,Lib.hid fun j h hj=>by omega⟩
 case round=>
  obtain⟨k,hk,rfl,dQ⟩:=hrel
  by_cases dR:k<s.size
  ·have hc:(s[k].toNat:Int)<48∨(48<=(s[k].toNat:Int)/\(s[k].toNat:Int)<=57)∨(58<=(s[k].toNat:Int)/\(s[k].toNat:Int)<=64)∨(65<=(s[k].toNat:Int)/\(s[k].toNat:Int)<=90)∨(91<=(s[k].toNat:Int)/\(s[k].toNat:Int)<=94)∨(95<=(s[k].toNat:Int)/\(s[k].toNat:Int)<=95)∨(96<=(s[k].toNat:Int)/\(s[k].toNat:Int)<=96)∨(97<=(s[k].toNat:Int)/\(s[k].toNat:Int)<=122)∨123<=(s[k].toNat:Int):=by omega
   by_cases xl:k=0
   ·subst xl
    rcases hc with h|⟨h,h'⟩|⟨h,h'⟩|⟨h,h'⟩|⟨h,h'⟩|⟨h,h'⟩|⟨h,h'⟩|⟨h,h'⟩|h
    ·have uF:((s[0].toNat:Int) !=95)=true:=by simp;try omega
     go_wp2_with fail
     all_goals first
      |(go_ret;exact⟨iG (ej fun hh=>by have:=hh.2 0 dR;simp[uf,kU,lq]at this;omega),rfl⟩)
      |(exfalso;simp_all;done)
      |(exfalso;simp_all;omega)
    ·have uF:((s[0].toNat:Int) !=95)=true:=by simp;try omega
     go_wp2_with fail
     all_goals first
      |(go_ret;exact⟨iG (ej fun hh=>by have:=hh.2 0 dR;simp[uf,kU,lq]at this;omega),rfl⟩)
      |(exfalso;simp_all;done)
      |(exfalso;simp_all;omega)
    ·have uF:((s[0].toNat:Int) !=95)=true:=by simp;try omega
     go_wp2_with fail
     all_goals first
      |(go_ret;exact⟨iG (ej fun hh=>by have:=hh.2 0 dR;simp[uf,kU,lq]at this;omega),rfl⟩)
      |(exfalso;simp_all;done)
      |(exfalso;simp_all;omega)
    ·have uF:((s[0].toNat:Int) !=95)=true:=by simp;try omega
     go_wp2_with fail
     go_round
     case rel=>exact⟨0+1,by omega,by go_num,Lib.hid fun j hj ym=>by
      by_cases I0:j=0
      ·subst I0;simp[uf,kU,lq];omega
      ·exact dQ.out j hj (by omega)⟩
     case measure=>simp[intOf];try omega
    ·have uF:((s[0].toNat:Int) !=95)=true:=by simp;try omega
     go_wp2_with fail
     all_goals first
      |(go_ret;exact⟨iG (ej fun hh=>by have:=hh.2 0 dR;simp[uf,kU,lq]at this;omega),rfl⟩)
      |(exfalso;simp_all;done)
      |(exfalso;simp_all;omega)
    ·have uF:((s[0].toNat:Int) !=95)=false:=by simp;try omega
     go_wp2_with fail
     all_goals first
      |(go_ret;exact⟨iG (ej fun hh=>by have:=hh.2 0 dR;simp[uf,kU,lq]at this;omega),rfl⟩)
      |(exfalso;simp_all;done)
      |(exfalso;simp_all;omega)
    ·have uF:((s[0].toNat:Int) !=95)=true:=by simp;try omega
     go_wp2_with fail
     all_goals first
      |(go_ret;exact⟨iG (ej fun hh=>by have:=hh.2 0 dR;simp[uf,kU,lq]at this;omega),rfl⟩)
      |(exfalso;simp_all;done)
      |(exfalso;simp_all;omega)
    ·have uF:((s[0].toNat:Int) !=95)=true:=by simp;try omega
     go_wp2_with fail
     go_round
     case rel=>exact⟨0+1,by omega,by go_num,Lib.hid fun j hj ym=>by
      by_cases I0:j=0
      ·subst I0;simp[uf,kU,lq];omega
      ·exact dQ.out j hj (by omega)⟩
     case measure=>simp[intOf];try omega
    ·have uF:((s[0].toNat:Int) !=95)=true:=by simp;try omega
     go_wp2_with fail
     all_goals first
      |(go_ret;exact⟨iG (ej fun hh=>by have:=hh.2 0 dR;simp[uf,kU,lq]at this;omega),rfl⟩)
      |(exfalso;simp_all;done)
      |(exfalso;simp_all;omega)
   ·have hz:((k:Int)==0)=false:=by simpa using xl
    have rj:1<=k:=by omega
    clear xl
    rcases hc with h|⟨h,h'⟩|⟨h,h'⟩|⟨h,h'⟩|⟨h,h'⟩|⟨h,h'⟩|⟨h,h'⟩|⟨h,h'⟩|h
    ·have uF:((s[k].toNat:Int) !=95)=true:=by simp;try omega
     go_wp2_with fail
     all_goals first
      |(go_ret;exact⟨iG (ej fun hh=>by have:=hh.2 k dR;simp[uf,kU,lq]at this;omega),rfl⟩)
      |(exfalso;simp_all;done)
      |(exfalso;simp_all;omega)
    ·have uF:((s[k].toNat:Int) !=95)=true:=by simp;try omega
     go_wp2_with fail
     go_round
     case rel=>exact⟨k+1,by omega,by go_num,Lib.hid fun j hj ym=>by
      by_cases I0:j=k
      ·subst I0;simp[uf,kU,lq];omega
      ·exact dQ.out j hj (by omega)⟩
     case measure=>simp[intOf];try omega
    ·have uF:((s[k].toNat:Int) !=95)=true:=by simp;try omega
     go_wp2_with fail
     all_goals first
      |(go_ret;exact⟨iG (ej fun hh=>by have:=hh.2 k dR;simp[uf,kU,lq]at this;omega),rfl⟩)
      |(exfalso;simp_all;done)
      |(exfalso;simp_all;omega)
    ·have uF:((s[k].toNat:Int) !=95)=true:=by simp;try omega
     go_wp2_with fail
     go_round
     case rel=>exact⟨k+1,by omega,by go_num,Lib.hid fun j hj ym=>by
      by_cases I0:j=k
      ·subst I0;simp[uf,kU,lq];omega
      ·exact dQ.out j hj (by omega)⟩
     case measure=>simp[intOf];try omega
    ·have uF:((s[k].toNat:Int) !=95)=true:=by simp;try omega
     go_wp2_with fail
     all_goals first
      |(go_ret;exact⟨iG (ej fun hh=>by have:=hh.2 k dR;simp[uf,kU,lq]at this;omega),rfl⟩)
      |(exfalso;simp_all;done)
      |(exfalso;simp_all;omega)
    ·have uF:((s[k].toNat:Int) !=95)=false:=by simp;try omega
     go_wp2_with fail
     go_round
     case rel=>exact⟨k+1,by omega,by go_num,Lib.hid fun j hj ym=>by
      by_cases I0:j=k
      ·subst I0;simp[uf,kU,lq];omega
      ·exact dQ.out j hj (by omega)⟩
     case measure=>simp[intOf];try omega
    ·have uF:((s[k].toNat:Int) !=95)=true:=by simp;try omega
     go_wp2_with fail
     all_goals first
      |(go_ret;exact⟨iG (ej fun hh=>by have:=hh.2 k dR;simp[uf,kU,lq]at this;omega),rfl⟩)
      |(exfalso;simp_all;done)
      |(exfalso;simp_all;omega)
    ·have uF:((s[k].toNat:Int) !=95)=true:=by simp;try omega
     go_wp2_with fail
     go_round
     case rel=>exact⟨k+1,by omega,by go_num,Lib.hid fun j hj ym=>by
      by_cases I0:j=k
      ·subst I0;simp[uf,kU,lq];omega
      ·exact dQ.out j hj (by omega)⟩
     case measure=>simp[intOf];try omega
    ·have uF:((s[k].toNat:Int) !=95)=true:=by simp;try omega
     go_wp2_with fail
     all_goals first
      |(go_ret;exact⟨iG (ej fun hh=>by have:=hh.2 k dR;simp[uf,kU,lq]at this;omega),rfl⟩)
      |(exfalso;simp_all;done)
      |(exfalso;simp_all;omega)
  ·by_cases h1:1<=s.size
   ·by_cases h2:s.size<=12
    ·go_wp2_with fail
     go_ret
     exact⟨iG (Cb (by simp<;>omega) ⟨⟨h1,h2⟩,fun i h=>dQ.out i h (by omega)⟩),rfl⟩
    ·go_wp2_with fail
     go_ret
     exact⟨iG (r9 (by simp<;>omega) fun h=>h2 h.1.2),rfl⟩
   ·go_wp2_with fail
    go_ret
    exact⟨iG (r9 (by simp<;>omega) fun h=>h1 h.1.1),rfl⟩
end Go.Proofs.YtgoelphibofcmaaGreat

namespace Go.Proofs.YtgoelphibofcmaaGreat.V
open Go.RowKit
theorem mixed:Tryz.prog.follows .mixedOrders=true:=by kernel_rfl
variable {P:Program} {w:World} {D:Nat->Prop} {ι:Names}
theorem lR {f:Nat} {args:List AV} {r:AV} {vs0:Array Value} {u0:Value} (nF:∀(w:World) (D:Nat->Prop) (ι:Names) vs,fh P w D ι args vs->vs=vs0) (hr:∀(w:World) (D:Nat->Prop) (ι:Names),dc P w D ι r u0) (CG:∀g,gy g 6 r=some r)
  (h:∀w,Calls P f vs0 w fun e w'=>e=.returned u0/\Below w.heap.size w w'):aq P f args r:=by
 intro n
 refine fN fun hs D ι w vs S U A=>?_
 have:=nF w D ι vs A
 subst this
 refine(h w).mono ?_
 rintro e w' ⟨rfl,hb⟩
 exact⟨r,_,n,D,ι,u0,rfl,⟨r,CG _,rfl⟩,Step.stay S hb.block hb.size hb.os hb.tape hb.output (fun _ h=>h) (fun _ h=>.inl h) (fun _ _ h=>h),
  S.stay hb.block hb.size (fun _ h=>h) (fun b hd=>Nat.lt_of_lt_of_le (S.dead b hd) hb.size) (fun _ h=>.inl h) (fun _ _ h=>h),U,Nat.le_refl _,hr _ _ _⟩
theorem Cl {s:ByteArray} {vs:Array Value} (h:fh P w D ι [.str s] vs):vs= #[.string s]:=by
 obtain⟨h1,h2⟩:=h
 obtain⟨u,hu,hr⟩:=h2 0 _ rfl
 rw[fD hr]at hu
 obtain⟨l⟩:=vs
 cases l with
 |nil=>simp at h1
 |cons a l=>cases l with
  |nil=>simp at hu;subst hu;rfl
  |cons b l=>simp at h1
theorem FN (s:ByteArray) (hs:s.size<=9223372036854775807):aq Tryz.prog 189 [.str s] (.bool (jI s)):=
 lR (fun _ _ _ _=>Cl) (fun _ _ _=>.eP _ _ (.bool _)) (fun g=>fR g 5 _) fun w=>Cn w s hs
theorem Fz (s:ByteArray) (hs:s.size<=9223372036854775807):aq Tryz.prog 198 [.str s] (.bool (jI s)):=
 lR (fun _ _ _ _=>Cl) (fun _ _ _=>.eP _ _ (.bool _)) (fun g=>fR g 5 _) fun w=>(BL w s hs).mono (by rintro e w' ⟨rfl,rfl⟩;exact⟨rfl,Below.refl _ _⟩)
end Go.Proofs.YtgoelphibofcmaaGreat.V

namespace Go.Proofs.YtgoelphibofcmaaGreat
open Go.RowKit
def uh (n:Nat):List UInt8:=if h:n=0 then[]else uh (n / 10)++[UInt8.ofNat (48+n % 10)]
termination_by n
decreasing_by omega
def oQ (k:Int):ByteArray:=if k<=0 then⟨#[109,48]⟩else⟨(109::uh k.toNat).toArray⟩
theorem Gl:uh 0=[]:=by unfold uh;simp
theorem It {n:Nat} (h:n≠0):uh n=uh (n / 10)++[UInt8.ofNat (48+n % 10)]:=by
 conv=>lhs;unfold uh
 rw[dif_neg h]
theorem x8 (c:UInt8) (l:ByteArray):((⟨#[c]⟩++l:ByteArray)).data.toList=c::l.data.toList:=by
 simp[ByteArray.data_append]
theorem A7:∀(m n:Nat),n<10 ^ m->(uh n).length<=m
 |0,n,h=>by
  have:n=0:=by simpa using h
  subst this;simp[uh]
 |m+1,n,h=>by
  unfold uh
  split
  ·simp
  ·have:=A7 m (n / 10) (by rw[Nat.pow_succ]at h;omega)
   simp;omega
theorem zR (w:World) (k:Int) (h0:0<=k) (h1:k<=4611686018427387904):
  Calls Tryz.prog 179 #[.int .i64 k] w fun e w'=>e=.returned (.string (oQ k))/\Below w.heap.size w w':=by
 by_cases hk:k<=0
 ·go_enter Tryz.func179,Tryz.ntmps179
  go_wp2_with fail
  go_ret
  exact⟨by simp[oQ,hk],Below.refl _ _⟩
 ·go_enter Tryz.func179,Tryz.ntmps179
  go_wp2_with fail
  go_loopw [0,3] (fun a s wr=>∃(j:Int) (l:ByteArray),a=.int .i64 j/\s=.string l/\0<=j/\j<=4611686018427387904/\Hid (uh j.toNat++l.data.toList=uh k.toNat)/\Below w.heap.size w wr) (fun a _ _=>(intOf a).toNat)
  case atStart=>exact⟨k,⟨#[]⟩,rfl,rfl,h0,h1,Lib.hid (by simp),Below.refl _ _⟩
  case round=>
   obtain⟨j,l,rfl,rfl,IZ,hj1,hd,hb⟩:=hrel
   have gh:l.size<=19:=by
    have h1:=congrArg List.length hd.out
    have h2:=A7 19 k.toNat (by omega)
    rw[List.length_append]at h1
    have:l.data.toList.length=l.size:=by rw[Array.length_toList];rfl
    omega
   by_cases hj:0<j
   ·have Ri:∀v:Int,(convert 241 9 (.slice (some ⟨wr.heap.size,0,none⟩) 1 1)).run Tryz.prog (wr.alloc (.cells #[.int .u8 v] 5))=.ok (.string ⟨#[UInt8.ofNat v.toNat]⟩) (wr.alloc (.cells #[.int .u8 v] 5)):=by
     intro v
     rw[run_convert_bytes_string _ _ _ 5 _ _ _ Tryz.underlying241 Tryz.underlying5 Tryz.underlying9,run_bytesToString _ _ _ _ [v] (by simp[loadCells,loadCellsFrom,go_sem])]
     rfl
    have hr:=gh
    go_wp2_with fail
    go_roundw
    case rel=>
     refine⟨_,_,rfl,rfl,by omega,by omega,Lib.hid ?_,hb.alloc hb.size _⟩
     rw[<-hd.out,x8,It (show j.toNat≠0 by omega),show(j / 10).toNat=j.toNat / 10 by omega,show(48+j % 10).toNat=48+j.toNat % 10 by omega]
     simp
    case measure=>simp[intOf];omega
   ·go_wp2_with fail
    go_ret
    refine⟨?_,hb⟩
    have h1:=hd.out
    rw[show j.toNat=0 by omega,Gl,List.nil_append]at h1
    have h2:(⟨#[109]⟩++l:ByteArray)=oQ k:=by
     rw[oQ,if_neg (by omega)]
     refine ByteArray.ext (Array.ext' ?_)
     rw[x8,h1]
    rw[h2];rfl
end Go.Proofs.YtgoelphibofcmaaGreat

namespace Go.Proofs.YtgoelphibofcmaaGreat.V
open Go.RowKit
attribute [local irreducible] ek wpOps gq Call
attribute [local go_sem] aH fF eK ga fZ da upd ck K.av cH AV.cells AV.cell rowOf rowsOf part ld rowAt bF cj dy dW gU bG cX eh fY eU dn ea cV cU dH dI bJ aW cK bI cN cL dY eb dZ cJ bL cW dX bH aL cQ cC gT bj cF bK aT du bf dz AV.undef bw bE dM dU dE dJ cE ef ep cw ee ec cP cR List.getD_cons_zero List.getD_cons_succ List.getD_nil List.all_cons List.all_nil Bool.and_true Bool.true_and Bool.and_self Bool.not_true Bool.not_false Option.map_some Option.map_none Option.bind_some Option.bind_none List.length_cons List.length_nil List.take_succ_cons List.take_zero List.take_nil List.drop_succ_cons List.drop_zero List.drop_nil List.head?_cons List.map_cons List.map_nil List.getElem?_cons_zero List.getElem?_cons_succ List.cons_append List.nil_append List.append_nil List.length_map List.set_cons_zero List.set_cons_succ Nat.reduceMul eq_self Int.toNat_natCast Int.natCast_nonneg and_self true_and and_true decide_true decide_false Bool.false_eq_true Nat.zero_add Nat.add_zero List.contains_cons List.contains_nil Bool.or_false Bool.false_or beq_self_eq_true Nat.reduceBEq ne_eq not_true_eq_false not_false_eq_true Id.mk.injEq false_and and_false Nat.reduceLT Int.reduceLE Int.reduceLT Int.reduceToNat Int.reduceNeg Int.reduceAdd Nat.le_refl List.length_append beq_true beq_false Bool.not_eq_eq_eq_not or_false false_or dF ai ao aG aZ bt bW aP aY aQ aV cI bD
def p9 (σ:ar) (ids:List Id) (g:Rows) (n:Nat):Prop:=σ.next<=n/\∀x:Id,x.bm<σ.next->x∉ids->g x=σ.get x
theorem p9.trans {a b:ar} {i j:List Id} {g:Rows} {n:Nat} (h:p9 a i b.get b.next) (k:p9 b j g n):p9 a (i++j) g n:=
 ⟨Nat.le_trans h.1 k.1,fun x hx hi=>(k.2 x (Nat.lt_of_lt_of_le hx h.1) fun hc=>hi (by simp[hc])).trans (h.2 x hx fun hc=>hi (by simp[hc]))⟩
theorem p9.sub {a:ar} {i j:List Id} {g:Rows} {n:Nat} (h:p9 a i g n) (hs:∀x∈i,x∈j):p9 a j g n:=⟨h.1,fun x hx hj=>h.2 x hx fun hi=>hj (hs x hi)⟩
theorem wZ (l:List (List AV)) (i:Nat) (a b:List AV):(l.set i a).set i b=l.set i b:=List.set_set ..
theorem A9 {l:List Int} {j:Nat} (h:j<l.length):(l.map aw)[j]? =some [.int .i64 l[j]]:=by simp[h,aw]
theorem Mv {P:Program} {w:World} {D:Nat->Prop} {ι:Names} {k:Int} {vs:Array Value} (h:fh P w D ι [.int .i64 k] vs):vs= #[.int .i64 k]:=by
 obtain⟨h1,h2⟩:=h
 obtain⟨u,hu,hr⟩:=h2 0 _ rfl
 rw[dp hr]at hu
 obtain⟨l⟩:=vs
 cases l with
 |nil=>simp at h1
 |cons a l=>cases l with
  |nil=>simp at hu;subst hu;rfl
  |cons b l=>simp at h1
theorem wg (k:Int) (h0:0<=k) (h1:k<=4611686018427387904):aq Tryz.prog 179 [.int .i64 k] (.str (oQ k)):=
 lR (vs0:= #[.int .i64 k]) (u0:=.string (oQ k)) (fun _ _ _ _=>Mv) (fun w D ι=>.eP _ _ (.str _)) (fun g=>Lh g 5 _) fun w=>zR w k h0 h1
theorem Ed (i:Id) (l:List Int) (k:Int) (h0:0<=k) (h1:k+l.length<=4611686018427387904) (σ:ar) (hv:i.bm<σ.next) (hg:σ.get i=some ⟨true,1,l.map aw⟩):
  Call Tryz.prog 33 [.own i 0 l.length,.int .i64 k] σ (fun r σ'=>r=.int .i64 (k+l.length)/\p9 σ [i] σ'.get σ'.next):=by
 refine eV eL rfl fun hl=>?_
 clear hl
 obtain⟨nn,hn⟩:∃nn,l.length=nn:=⟨_,rfl⟩
 rw[hn]at h1 ⊢
 (try((repeat(revert hN;revert N;apply Pn.out));refine wk @Nat.zero_add ?_;(repeat(refine Pn.mk ?_;intro N hN))))
 refine aM (fun n env st=>∃j:Nat,n=(nn)-j/\j<=(nn)/\env 5=.int .i64 (j:Int)/\env 1=.int .i64 (k+j)/\(p9 σ [i] st.get st.next/\∃l':List Int,l'.length=nn/\st.get i=some ⟨true,1,l'.map aw⟩)) (nn) ⟨0,by omega,by omega,sl (tw @Int.add_zero @Int.natCast_zero),sl (tw @Int.add_zero @Int.natCast_zero),by(try dsimp only);exact⟨⟨by(try dsimp only);omega,fun x _ _=>rfl⟩,l,hn,hg⟩⟩ ?_
 rintro n_a env_a st_a ⟨j,rfl,ale,a5,a1,kc⟩ di
 have a0:=di 0 (by kernel_rfl)
 simp only[go_sem, ↓reduceIte,Nat.reduceEqDiff,Nat.reduceAdd,Nat.reduceSub,Nat.reduceLeDiff,reduceCtorEq,Int.add_zero,Int.natCast_zero]at a0
 clear di
 obtain⟨⟨an,aF⟩,l',al,ag⟩:=kc
 by_cases hj:(j:Int)<(nn:Int)
 ·have cz:∀{e:Env} {gg:Rows} {nx:Nat},(e 5=.int .i64 (IntKind.i64.wrap ((j:Int)+1)))->(e 1=.int .i64 (k+(j+1)))->(p9 σ [i] gg nx/\∃l':List Int,l'.length=nn/\gg i=some ⟨true,1,l'.map aw⟩)->∃m0,m0<(nn)-j/\∃j:Nat,m0=(nn)-j/\j<=(nn)/\e 5=.int .i64 (j:Int)/\e 1=.int .i64 (k+j)/\(p9 σ [i] gg nx/\∃l':List Int,l'.length=nn/\gg i=some ⟨true,1,l'.map aw⟩):=fun x1 x2 x3=>⟨_,by omega,j+1,rfl,by omega,(by rw[x1,az (by omega)]),x2,x3⟩
  have iM:j<l'.length:=by omega
  have eZ:=A9 iM
  have dS:(l'.map aw).set j [.int .i64 (k+j)]=(l'.set j (k+j)).map aw:=by rw[List.map_set];rfl
  have hw:IntKind.i64.wrap (k+(j:Int)+1)=k+((j:Int)+1):=by rw[bx (by omega)];omega
  (try((repeat(revert hN;revert N;apply Pn.out));refine wk (tw @a5 (tw @a1 (tw @a0 (tw @hj (tw @ag (tw @eZ (tw @dS @hw))))))) ?_;(repeat(refine Pn.mk ?_;intro N hN))))
  refine cz ?_ ?_ (by(try dsimp only);exact⟨⟨by(try dsimp only);omega,fun x hx hi=>by
   have h2:=aF x hx hi
   have h3:(x=i)=False:=eq_false fun e=>hi (by simp[e])
   simp only[go_sem, ↓reduceIte,Nat.reduceEqDiff,Nat.reduceAdd,Nat.reduceSub,Nat.reduceLeDiff,reduceCtorEq,h2,h3]⟩,l'.set j (k+j),by simp[al],sl @Nat.zero_add⟩)
  all_goals simp only[go_sem, ↓reduceIte,Nat.reduceEqDiff,Nat.reduceAdd,Nat.reduceSub,Nat.reduceLeDiff,reduceCtorEq,a5,a1,a0,hw]
 ·have iM:j=nn:=by omega
  subst iM
  (try((repeat(revert hN;revert N;apply Pn.out));refine wk (tw @a5 (tw @a1 (tw @a0 @hj))) ?_;(repeat(refine Pn.mk ?_;intro N hN))))
  exact fb (.inl rfl) (vs:=[.int .i64 (k+j)]) (sd (tw @a5 (tw @a1 @a0))) ⟨rfl,⟨by(try dsimp only);omega,fun x hx hi=>aF x hx hi⟩⟩
def Mc (k:Int) (n:Nat):List ae:=(List.range n).map fun j:Nat=>⟨⟨k+3*(j:Int),k+3*(j:Int)+1⟩,k+3*(j:Int)+2⟩
theorem r7 (k:Int) (n:Nat):(Mc k n).length=n:=by simp[Mc]
theorem Jy (k:Int) (n:Nat):Mc k (n+1)=Mc k n++[⟨⟨k+3*(n:Int),k+3*(n:Int)+1⟩,k+3*(n:Int)+2⟩]:=by simp[Mc,List.range_succ]
def nh (k:Int) (l:List ae) (j:Nat):List ae:=Mc k j++l.drop j
theorem Jz {k:Int} {l:List ae} {j:Nat} (h:j<=l.length):(nh k l j).length=l.length:=by simp[nh,r7];omega
theorem Md {k:Int} {l:List ae} {j:Nat} (h:j<l.length):((nh k l j).map aj)[j]? =some [.int .i64 l[j].bc.eI,.int .i64 l[j].bc.eF,.int .i64 l[j].bU]:=by
 rw[List.getElem?_map,nh,List.getElem?_append_right (by rw[r7];omega),r7,Nat.sub_self,List.getElem?_drop,Nat.add_zero,List.getElem?_eq_getElem h];rfl
theorem JA {k:Int} {l:List ae} {j:Nat} (h:j<l.length):((nh k l j).map aj).set j [.int .i64 (k+3*(j:Int)),.int .i64 (k+3*(j:Int)+1),.int .i64 (k+3*(j:Int)+2)]=(nh k l (j+1)).map aj:=by
 have:(nh k l j).set j ⟨⟨k+3*(j:Int),k+3*(j:Int)+1⟩,k+3*(j:Int)+2⟩=nh k l (j+1):=by
  rw[nh,List.set_append_right _ _ (by rw[r7];omega),r7,Nat.sub_self,List.drop_eq_getElem_cons h,List.set_cons_zero,nh,Jy,List.append_assoc];rfl
 rw[<-this,List.map_set];rfl
theorem zQ (i:Id) (l:List ae) (k:Int) (h0:0<=k) (h1:k+3*l.length<=4611686018427387904) (σ:ar) (hv:i.bm<σ.next) (hg:σ.get i=some ⟨true,3,l.map aj⟩):
  Call Tryz.prog 77 [.own i 0 l.length,.int .i64 k] σ (fun r σ'=>r=.int .i64 (k+3*l.length)/\p9 σ [i] σ'.get σ'.next/\σ'.get i=some ⟨true,3,(Mc k l.length).map aj⟩):=by
 refine eV eL rfl fun hl=>?_
 clear hl
 have hz:nh k l 0=l:=by simp[nh,Mc]
 (try((repeat(revert hN;revert N;apply Pn.out));refine wk @Nat.zero_add ?_;(repeat(refine Pn.mk ?_;intro N hN))))
 refine aM (fun n env st=>∃j:Nat,n=(l.length)-j/\j<=(l.length)/\env 5=.int .i64 (j:Int)/\env 1=.int .i64 (k+3*j)/\st.get i=some ⟨true,3,(nh k l j).map aj⟩/\(p9 σ [i] st.get st.next)) (l.length) ⟨0,by omega,by omega,sl (tw @Int.add_zero (tw @Int.natCast_zero (tw @Int.mul_zero (tw @hz @hg)))),sl (tw @Int.add_zero (tw @Int.natCast_zero (tw @Int.mul_zero (tw @hz @hg)))),sl (tw @Int.add_zero (tw @Int.natCast_zero (tw @Int.mul_zero (tw @hz @hg)))),by(try dsimp only);exact⟨by(try dsimp only);omega,fun x _ _=>rfl⟩⟩ ?_
 rintro n_a env_a st_a ⟨j,rfl,ale,a5,a1,ag0,kc⟩ di
 have a0:=di 0 (by kernel_rfl)
 simp only[go_sem, ↓reduceIte,Nat.reduceEqDiff,Nat.reduceAdd,Nat.reduceSub,Nat.reduceLeDiff,reduceCtorEq,Int.add_zero,Int.natCast_zero,Int.mul_zero,hz,hg]at a0
 clear di
 obtain⟨an,aF⟩:=kc
 by_cases hj:(j:Int)<(l.length:Int)
 ·have cz:∀{e:Env} {gg:Rows} {nx:Nat},(e 5=.int .i64 (IntKind.i64.wrap ((j:Int)+1)))->(e 1=.int .i64 (k+3*(j+1)))->(gg i=some ⟨true,3,(nh k l (j+1)).map aj⟩)->(p9 σ [i] gg nx)->∃m0,m0<(l.length)-j/\∃j:Nat,m0=(l.length)-j/\j<=(l.length)/\e 5=.int .i64 (j:Int)/\e 1=.int .i64 (k+3*j)/\gg i=some ⟨true,3,(nh k l j).map aj⟩/\(p9 σ [i] gg nx):=fun x1 x2 x3 x4=>⟨_,by omega,j+1,rfl,by omega,(by rw[x1,az (by omega)]),x2,x3,x4⟩
  have iM:j<l.length:=by omega
  have eZ:=Md (k:=k) iM
  have dS:=JA (k:=k) iM
  have oP:IntKind.i64.wrap (k+3*(j:Int)+1)=k+3*(j:Int)+1:=bx (by omega)
  have vV:IntKind.i64.wrap (k+3*(j:Int)+1+1)=k+3*(j:Int)+2:=by rw[bx (by omega)];omega
  have RL:IntKind.i64.wrap (k+3*(j:Int)+2+1)=k+3*((j:Int)+1):=by rw[bx (by omega)];omega
  have hlen:((nh k l j).map aj).length=l.length:=by rw[List.length_map,Jz (by omega)]
  have IX:∀c:List AV,(((nh k l j).map aj).set j c)[j]? =some c:=fun c=>by rw[List.getElem?_set_self (by rw[hlen];exact iM)]
  (try((repeat(revert hN;revert N;apply Pn.out));refine wk (tw @a5 (tw @a1 (tw @ag0 (tw @a0 (tw @hj (tw @eZ (tw @IX (tw @dS (tw @oP (tw @vV (tw @RL (tw @hlen @wZ)))))))))))) ?_;(repeat(refine Pn.mk ?_;intro N hN))))
  refine cz ?_ ?_ ?_ (by(try dsimp only);exact⟨by(try dsimp only);omega,fun x hx hi=>by
   have h2:=aF x hx hi
   have h3:(x=i)=False:=eq_false fun e=>hi (by simp[e])
   simp only[go_sem, ↓reduceIte,Nat.reduceEqDiff,Nat.reduceAdd,Nat.reduceSub,Nat.reduceLeDiff,reduceCtorEq,h2,h3]⟩)
  all_goals simp only[go_sem, ↓reduceIte,Nat.reduceEqDiff,Nat.reduceAdd,Nat.reduceSub,Nat.reduceLeDiff,reduceCtorEq,a5,a1,ag0,a0,RL,dS]
 ·have iM:j=l.length:=by omega
  subst iM
  (try((repeat(revert hN;revert N;apply Pn.out));refine wk (tw @a5 (tw @a1 (tw @ag0 (tw @a0 @hj)))) ?_;(repeat(refine Pn.mk ?_;intro N hN))))
  have kz:nh k l l.length=Mc k l.length:=by simp[nh]
  rw[kz]at ag0
  exact fb (.inl rfl) (vs:=[.int .i64 (k+3*l.length)]) (sd (tw @a5 (tw @a1 (tw @ag0 @a0)))) ⟨rfl,⟨by(try dsimp only);omega,fun x hx hi=>aF x hx hi⟩,ag0⟩
theorem B4 (i:Id) (l:List fy) (k:Int) (h0:0<=k) (h1:k+2*l.length<=4611686018427387904) (σ:ar) (hv:i.bm<σ.next) (hg:σ.get i=some ⟨true,2,l.map bP⟩):
  Call Tryz.prog 131 [.own i 0 l.length,.int .i64 k] σ (fun r σ'=>r=.int .i64 (k+2*l.length)/\p9 σ [i] σ'.get σ'.next):=by
 refine eV eL rfl fun hl=>?_
 clear hl
 obtain⟨nn,hn⟩:∃nn,l.length=nn:=⟨_,rfl⟩
 rw[hn]at h1 ⊢
 (try((repeat(revert hN;revert N;apply Pn.out));refine wk @Nat.zero_add ?_;(repeat(refine Pn.mk ?_;intro N hN))))
 refine aM (fun n env st=>∃j:Nat,n=(nn)-j/\j<=(nn)/\env 5=.int .i64 (j:Int)/\env 1=.int .i64 (k+2*j)/\(p9 σ [i] st.get st.next/\∃l':List fy,l'.length=nn/\st.get i=some ⟨true,2,l'.map bP⟩)) (nn) ⟨0,by omega,by omega,sl (tw @Int.add_zero (tw @Int.natCast_zero @Int.mul_zero)),sl (tw @Int.add_zero (tw @Int.natCast_zero @Int.mul_zero)),by(try dsimp only);exact⟨⟨by(try dsimp only);omega,fun x _ _=>rfl⟩,l,hn,hg⟩⟩ ?_
 rintro n_a env_a st_a ⟨j,rfl,ale,a5,a1,kc⟩ di
 have a0:=di 0 (by kernel_rfl)
 simp only[go_sem, ↓reduceIte,Nat.reduceEqDiff,Nat.reduceAdd,Nat.reduceSub,Nat.reduceLeDiff,reduceCtorEq,Int.add_zero,Int.natCast_zero,Int.mul_zero]at a0
 clear di
 obtain⟨⟨an,aF⟩,l',al,ag⟩:=kc
 by_cases hj:(j:Int)<(nn:Int)
 ·have cz:∀{e:Env} {gg:Rows} {nx:Nat},(e 5=.int .i64 (IntKind.i64.wrap ((j:Int)+1)))->(e 1=.int .i64 (k+2*(j+1)))->(p9 σ [i] gg nx/\∃l':List fy,l'.length=nn/\gg i=some ⟨true,2,l'.map bP⟩)->∃m0,m0<(nn)-j/\∃j:Nat,m0=(nn)-j/\j<=(nn)/\e 5=.int .i64 (j:Int)/\e 1=.int .i64 (k+2*j)/\(p9 σ [i] gg nx/\∃l':List fy,l'.length=nn/\gg i=some ⟨true,2,l'.map bP⟩):=fun x1 x2 x3=>⟨_,by omega,j+1,rfl,by omega,(by rw[x1,az (by omega)]),x2,x3⟩
  have iM:j<l'.length:=by omega
  have eZ:(l'.map bP)[j]? =some [.str l'[j].aE,.int .i64 l'[j].ez]:=by simp[iM,bP]
  have hlen:(l'.map bP).length=nn:=by rw[List.length_map,al]
  have IX:∀c:List AV,((l'.map bP).set j c)[j]? =some c:=fun c=>by rw[List.getElem?_set_self (by rw[List.length_map];exact iM)]
  have ht:=wg (k+2*(j:Int)) (by omega) (by omega)
  have oP:IntKind.i64.wrap (k+2*(j:Int)+1)=k+2*(j:Int)+1:=bx (by omega)
  have vV:IntKind.i64.wrap (k+2*(j:Int)+1+1)=k+2*((j:Int)+1):=by rw[bx (by omega)];omega
  generalize oQ (k+2*(j:Int))=mt at ht
  have dS:(l'.map bP).set j [.str mt,.int .i64 (k+2*(j:Int)+1)]=(l'.set j ⟨mt,k+2*(j:Int)+1⟩).map bP:=by rw[List.map_set];rfl
  (repeat(first|((repeat(revert hN;revert N;apply Pn.out));refine wk (tw @a5 (tw @a1 (tw @a0 (tw @hj (tw @ag (tw @eZ (tw @IX (tw @dS (tw @oP (tw @vV (tw @hlen @wZ))))))))))) ?_;(repeat(refine Pn.mk ?_;intro N hN)))|((try apply Or.inl);refine⟨_,aq.x (ht) (sd (tw @a5 (tw @a1 (tw @a0 (tw @hj (tw @ag (tw @eZ (tw @IX (tw @dS (tw @oP (tw @vV (tw @hlen @wZ)))))))))))),?_⟩;refine hN _ _ ?_;clear hN N)))
  refine cz ?_ ?_ (by(try dsimp only);exact⟨⟨by(try dsimp only);omega,fun x hx hi=>by
   have h2:=aF x hx hi
   have h3:(x=i)=False:=eq_false fun e=>hi (by simp[e])
   simp only[go_sem, ↓reduceIte,Nat.reduceEqDiff,Nat.reduceAdd,Nat.reduceSub,Nat.reduceLeDiff,reduceCtorEq,h2,h3]⟩,l'.set j ⟨mt,k+2*(j:Int)+1⟩,by simp[al],sl @Nat.zero_add⟩)
  all_goals simp only[go_sem, ↓reduceIte,Nat.reduceEqDiff,Nat.reduceAdd,Nat.reduceSub,Nat.reduceLeDiff,reduceCtorEq,a5,a1,a0,vV,dS]
 ·have iM:j=nn:=by omega
  subst iM
  (try((repeat(revert hN;revert N;apply Pn.out));refine wk (tw @a5 (tw @a1 (tw @a0 @hj))) ?_;(repeat(refine Pn.mk ?_;intro N hN))))
  exact fb (.inl rfl) (vs:=[.int .i64 (k+2*j)]) (sd (tw @a5 (tw @a1 @a0))) ⟨rfl,⟨by(try dsimp only);omega,fun x hx hi=>aF x hx hi⟩⟩
theorem iD.flat {α:Type} {e:α->List AV} {z:Nat} {g:Rows} {a:AV} {xs:List α} {ids:List Id} (h:iD (lz e) z g a xs ids):∃o,a=.own o 0 xs.length/\g o=some ⟨true,z,xs.map e⟩/\ids=[o]:=by
 obtain⟨o,rows,is,h1,h2,h3,rfl⟩:=h
 have:∀{rows:List (List AV)} {xs:List α} {is:List Id},eE (lz e) g rows xs is->rows=xs.map e/\is=[]:=fun h=>by
  induction h with
  |nil=>exact⟨rfl,rfl⟩
  |cons h1 _ ih=>obtain⟨rfl,rfl⟩:=h1;obtain⟨rfl,rfl⟩:=ih;exact⟨rfl,rfl⟩
 obtain⟨rfl,rfl⟩:=this h3
 exact⟨o,h1,h2,rfl⟩
def gF (t:eR):Nat:=1+t.br.length
theorem B5 (a:AV) (l:List eR) (ids:List Id) (k:Int) (h0:0<=k) (yn:l.length<=1048576) (h1:k+(l.map gF).sum<=4611686018427387904) (σ:ar) (hv:∀i∈ids,i.bm<σ.next) (lZ:ids.Nodup) (hg:iD oi 2 σ.get a l ids):
  Call Tryz.prog 132 [a,.int .i64 k] σ (fun r σ'=>r=.int .i64 (k+(l.map gF).sum)/\p9 σ ids σ'.get σ'.next):=by
 obtain⟨o,rows,is,rfl,ho,hR,rfl⟩:=hg
 refine eV eL rfl fun hl=>?_
 clear hl
 have rS:=hv o (by simp)
 have Nq:=mu gF l
 (try((repeat(revert hN;revert N;apply Pn.out));refine wk @Nat.zero_add ?_;(repeat(refine Pn.mk ?_;intro N hN))))
 refine aM (fun n env st=>∃j:Nat,n=(l.length)-j/\j<=(l.length)/\env 5=.int .i64 (j:Int)/\env 1=.int .i64 (k+iJ gF l j)/\(p9 σ (o::is) st.get st.next/\∃pre rest ir,st.get o=some ⟨true,2,pre++rest⟩/\pre.length=j/\eE oi st.get rest (l.drop j) ir/\(o::ir).Nodup/\∀i∈ir,i∈is)) (l.length) ⟨0,by omega,by omega,sl (tw @Int.add_zero (tw @Int.natCast_zero @Nq)),sl (tw @Int.add_zero (tw @Int.natCast_zero @Nq)),by(try dsimp only);exact⟨⟨by(try dsimp only);omega,fun x _ _=>rfl⟩,[],rows,is,ho,rfl,hR,lZ,fun _ h=>h⟩⟩ ?_
 rintro n_a env_a st_a ⟨j,rfl,ale,a5,a1,kc⟩ di
 have a0:=di 0 (by kernel_rfl)
 simp only[go_sem, ↓reduceIte,Nat.reduceEqDiff,Nat.reduceAdd,Nat.reduceSub,Nat.reduceLeDiff,reduceCtorEq,Int.add_zero,Int.natCast_zero,Nq]at a0
 clear di
 obtain⟨⟨an,aF⟩,pre,rest,ir,ag,apl,aR,aN,aS⟩:=kc
 by_cases hj:(j:Int)<(l.length:Int)
 ·have cz:∀{e:Env} {gg:Rows} {nx:Nat},(e 5=.int .i64 (IntKind.i64.wrap ((j:Int)+1)))->(e 1=.int .i64 (k+iJ gF l (j+1)))->(p9 σ (o::is) gg nx/\∃pre rest ir,gg o=some ⟨true,2,pre++rest⟩/\pre.length=(j+1)/\eE oi gg rest (l.drop (j+1)) ir/\(o::ir).Nodup/\∀i∈ir,i∈is)->∃m0,m0<(l.length)-j/\∃j:Nat,m0=(l.length)-j/\j<=(l.length)/\e 5=.int .i64 (j:Int)/\e 1=.int .i64 (k+iJ gF l j)/\(p9 σ (o::is) gg nx/\∃pre rest ir,gg o=some ⟨true,2,pre++rest⟩/\pre.length=j/\eE oi gg rest (l.drop j) ir/\(o::ir).Nodup/\∀i∈ir,i∈is):=fun x1 x2 x3=>⟨_,by omega,j+1,rfl,by omega,(by rw[x1,az (by omega)]),x2,x3⟩
  have iM:j<l.length:=by omega
  have O4:=w8 gF iM
  have hle:=qj gF l (j+1)
  obtain⟨t,htj⟩:∃t,l[j]=t:=⟨_,rfl⟩
  rw[List.drop_eq_getElem_cons iM,htj]at aR
  rw[htj]at O4
  cases aR with
  | @cons cs _ ic rs _ i2 hT Q4=>
  obtain⟨i,rfl,hi,rfl⟩:=hT
  rw[List.singleton_append]at aN aS
  obtain⟨n1,n2⟩:=List.nodup_cons.1 aN
  obtain⟨n3,n4⟩:=List.nodup_cons.1 n2
  have Qn:(o=i)=False:=eq_false fun e=>n1 (by simp[e])
  have Qg:(i=o)=False:=eq_false fun e=>n1 (by simp[e])
  have hiv:i.bm<σ.next:=hv i (by simp[aS i (by simp)])
  have Rw:gF t=1+t.br.length:=rfl
  have ht:=wg (k+(iJ gF l j:Nat)) (by omega) (by omega)
  have oP:IntKind.i64.wrap (k+(iJ gF l j:Nat)+1)=k+(iJ gF l j:Nat)+1:=bx (by omega)
  generalize oQ (k+(iJ gF l j:Nat))=mt at ht
  have eZ:(pre++[.str t.aE,.own i 0 t.br.length]::rs)[j]? =some [.str t.aE,.own i 0 t.br.length]:=by subst apl;simp
  have dS:(pre++[.str t.aE,.own i 0 t.br.length]::rs).set j [.str mt,.own i 0 t.br.length]=pre++[.str mt,.own i 0 t.br.length]::rs:=by subst apl;simp
  have Nh:(pre++[.str mt,.own i 0 t.br.length]::rs)[j]? =some [.str mt,.own i 0 t.br.length]:=by subst apl;simp
  (repeat(first|((repeat(revert hN;revert N;apply Pn.out));refine wk (tw @a5 (tw @a1 (tw @a0 (tw @hj (tw @ag (tw @eZ (tw @dS (tw @Nh (tw @oP (tw @Qn (tw @Qg @hi))))))))))) ?_;(repeat(refine Pn.mk ?_;intro N hN)))|((try apply Or.inl);refine⟨_,aq.x (ht) (sd (tw @a5 (tw @a1 (tw @a0 (tw @hj (tw @ag (tw @eZ (tw @dS (tw @Nh (tw @oP (tw @Qn (tw @Qg @hi)))))))))))),?_⟩;refine hN _ _ ?_;clear hN N)))
  refine .inr (aI _ _ _ _ _ (fun r σ1 hq=>?_) (Ed i t.br (k+(iJ gF l j:Nat)+1) (by omega) (by omega) _ (by(try dsimp only);omega) (sd (tw @Qn (tw @Qg @hi)))))
  obtain⟨g1,x1⟩:=σ1
  obtain⟨rfl,yq,uq⟩:=hq
  (try dsimp only at yq uq)
  refine hN _ _ ?_
  clear hN N
  have UO:k+(iJ gF l j:Nat)+1+t.br.length=k+(iJ gF l (j+1):Nat):=by omega
  (try((repeat(revert hN;revert N;apply Pn.out));refine wk (tw @a5 (tw @a1 (tw @a0 @UO))) ?_;(repeat(refine Pn.mk ?_;intro N hN))))
  have gk:∀x:Id,x.bm<σ.next->x≠o->x≠i->g1 x=st_a.get x:=fun x hx h3 h4=>by
   have h2:=uq x (by(try dsimp only);omega) (by simp[h4])
   have h5:=eq_false h3
   simp only[go_sem, ↓reduceIte,Nat.reduceEqDiff,Nat.reduceAdd,Nat.reduceSub,Nat.reduceLeDiff,reduceCtorEq,h5]at h2
   exact h2
  have go:=uq o (by(try dsimp only);omega) (by simp only[List.mem_singleton];exact fun e=>n1 (by simp[e]))
  simp only[go_sem, ↓reduceIte,Nat.reduceEqDiff,Nat.reduceAdd,Nat.reduceSub,Nat.reduceLeDiff,reduceCtorEq]at go
  refine cz ?_ ?_ (by(try dsimp only);exact⟨⟨by(try dsimp only);omega,fun x hx hi=>by
   have h3:x≠o:=fun e=>hi (by simp[e])
   have h4:x≠i:=fun e=>hi (by simp[e,aS i (by simp)])
   rw[gk x hx h3 h4]
   exact aF x hx hi⟩,pre++[[.str mt,.own i 0 t.br.length]],rs,i2,by rw[go];simp,by simp[apl],Q4.frame re (fun x hx=>gk x (hv x (by simp[aS x (by simp[hx])])) (fun e=>n1 (by simp[<-e,hx])) (fun e=>n3 (by rw[<-e];exact hx))),List.nodup_cons.2 ⟨fun h=>n1 (by simp[h]),n4⟩,fun x hx=>aS x (by simp[hx])⟩)
  all_goals simp only[go_sem, ↓reduceIte,Nat.reduceEqDiff,Nat.reduceAdd,Nat.reduceSub,Nat.reduceLeDiff,reduceCtorEq,a5,a1,a0,UO]
 ·have iM:j=l.length:=by omega
  subst iM
  have dQ:=Cq gF l
  rw[dQ]at a1
  (try((repeat(revert hN;revert N;apply Pn.out));refine wk (tw @a5 (tw @a1 (tw @a0 @hj))) ?_;(repeat(refine Pn.mk ?_;intro N hN))))
  exact fb (.inl rfl) (vs:=[.int .i64 (k+(l.map gF).sum)]) (sd (tw @a5 (tw @a1 @a0))) ⟨rfl,⟨by(try dsimp only);omega,fun x hx hi=>aF x hx hi⟩⟩
theorem yH (v:AV) (p:dP) (ids:List Id) (k:Int) (h0:0<=k) (h1:k+3*p.ah.length<=4611686018427387904) (σ:ar) (hv:∀i∈ids,i.bm<σ.next) (hg:xo σ.get v p ids):
  Call Tryz.prog 32 [v,.int .i64 k] σ (fun r σ'=>r=.int .i64 (k+3*p.ah.length)/\p9 σ ids σ'.get σ'.next):=by
 obtain⟨c,rfl,hc⟩:=hg
 obtain⟨o,rfl,ho,rfl⟩:=hc.flat
 refine eV eL rfl fun hl=>?_
 clear hl
 have rS:=dx (hv o (by simp))
 have LC:=hv o (by simp)
 (try((repeat(revert hN;revert N;apply Pn.out));refine wk @Nat.zero_add ?_;(repeat(refine Pn.mk ?_;intro N hN))))
 refine .inr (aI _ _ _ _ _ (fun r σ1 hq=>?_) (zQ o p.ah k h0 h1 _ (by(try dsimp only);omega) (sd (tw @rS @ho))))
 obtain⟨g1,x1⟩:=σ1
 obtain⟨rfl,⟨yq,uq⟩,_⟩:=hq
 (try dsimp only at yq uq)
 refine hN _ _ ?_
 clear hN N
 (try((repeat(revert hN;revert N;apply Pn.out));refine wk @Nat.zero_add ?_;(repeat(refine Pn.mk ?_;intro N hN))))
 exact fb (.inl rfl) (vs:=[.int .i64 (k+3*p.ah.length)]) (sd @Nat.zero_add) ⟨rfl,⟨by(try dsimp only);omega,fun x hx hi=>by
  have h2:=uq x (by(try dsimp only);omega) hi
  have h3:=dx hx
  simp only[go_sem, ↓reduceIte,Nat.reduceEqDiff,Nat.reduceAdd,Nat.reduceSub,Nat.reduceLeDiff,reduceCtorEq,h3]at h2
  exact h2⟩⟩
def B3 (s:aD):Nat:=2*s.aB.ax.length+(s.aB.ah.map gF).sum+3*s.cu.ah.length
theorem G0 (a b:AV) (p:au) (i1 i2:List Id) (k:Int) (h0:0<=k) (yn:p.ah.length<=1048576) (h1:k+2*p.ax.length+(p.ah.map gF).sum<=4611686018427387904) (σ:ar) (hv:∀i∈i1++i2,i.bm<σ.next) (lZ:(i1++i2).Nodup)
  (hA:iD (lz bP) 2 σ.get a p.ax i1) (hB:iD oi 2 σ.get b p.ah i2):
  Call Tryz.prog 76 [.agg [a,b],.int .i64 k] σ (fun r σ'=>r=.int .i64 (k+2*p.ax.length+(p.ah.map gF).sum)/\p9 σ (i1++i2) σ'.get σ'.next):=by
 obtain⟨_,n2,n3⟩:=List.nodup_append.1 lZ
 obtain⟨o,rfl,ho,rfl⟩:=hA.flat
 obtain⟨ob,rfl⟩:=hB.kS
 refine eV eL rfl fun hl=>?_
 clear hl
 have LC:=hv o (by simp)
 have rS:=dx LC
 (try((repeat(revert hN;revert N;apply Pn.out));refine wk @Nat.zero_add ?_;(repeat(refine Pn.mk ?_;intro N hN))))
 refine .inr (aI _ _ _ _ _ (fun r σ1 hq=>?_) (B4 o p.ax k h0 (by omega) _ (by(try dsimp only);omega) (sd (tw @rS @ho))))
 obtain⟨g1,x1⟩:=σ1
 obtain⟨rfl,yq,uq⟩:=hq
 (try dsimp only at yq uq)
 refine hN _ _ ?_
 clear hN N
 have k1:=uq ⟨76000000,σ.next⟩ (by(try dsimp only);omega) (by simp only[List.mem_singleton];intro e;rw[<-e]at LC;(try dsimp only at LC);omega)
 simp only[go_sem, ↓reduceIte,Nat.reduceEqDiff,Nat.reduceAdd,Nat.reduceSub,Nat.reduceLeDiff,reduceCtorEq]at k1
 (try((repeat(revert hN;revert N;apply Pn.out));refine wk @k1 ?_;(repeat(refine Pn.mk ?_;intro N hN))))
 have hf:∀x:Id,x.bm<σ.next->x≠o->g1 x=σ.get x:=fun x hx ho=>by
  have h2:=uq x (by(try dsimp only);omega) (by simp[ho])
  have h3:=dx hx
  simp only[go_sem, ↓reduceIte,Nat.reduceEqDiff,Nat.reduceAdd,Nat.reduceSub,Nat.reduceLeDiff,reduceCtorEq,h3]at h2
  exact h2
 refine .inr (aI _ _ _ _ _ (fun r σ2 hq=>?_) (B5 _ p.ah i2 (k+2*p.ax.length) (by omega) yn h1 _ (fun i hi=>by have:=hv i (by simp[hi]);(try dsimp only);omega) n2 (hB.frame re fun i hi=>hf i (hv i (by simp[hi])) fun e=>n3 o (by simp) i hi e.symm)))
 obtain⟨g2,x2⟩:=σ2
 obtain⟨rfl,LH,AA⟩:=hq
 (try dsimp only at LH AA)
 refine hN _ _ ?_
 clear hN N
 (try((repeat(revert hN;revert N;apply Pn.out));refine wk @Nat.zero_add ?_;(repeat(refine Pn.mk ?_;intro N hN))))
 exact fb (.inl rfl) (vs:=[.int .i64 (k+2*p.ax.length+(p.ah.map gF).sum)]) (sd @Nat.zero_add) ⟨rfl,⟨by(try dsimp only);omega,fun x hx hi=>(AA x (by(try dsimp only);omega) fun h=>hi (by simp[h])).trans (hf x hx fun e=>hi (by simp[e]))⟩⟩
theorem G1 (v:AV) (p:aD) (ids:List Id) (k:Int) (h0:0<=k) (yn:p.aB.ah.length<=1048576) (h1:k+B3 p<=4611686018427387904) (σ:ar) (hv:∀i∈ids,i.bm<σ.next) (lZ:ids.Nodup) (hg:y7 σ.get v p ids):
  Call Tryz.prog 31 [v,.int .i64 k] σ (fun r σ'=>r=.int .i64 (k+B3 p)/\p9 σ ids σ'.get σ'.next):=by
 obtain⟨a,b,c,i1,i2,i3,rfl,hA,hB,hC,rfl⟩:=hg.ex
 rw[<-List.append_assoc]at lZ
 obtain⟨n1,_,n3⟩:=List.nodup_append.1 lZ
 obtain⟨oa,rfl⟩:=hA.kS
 obtain⟨ob,rfl⟩:=hB.kS
 obtain⟨oc,rfl⟩:=hC.kS
 have hm:(B3 p:Int)=2*p.aB.ax.length+(p.aB.ah.map gF).sum+3*p.cu.ah.length:=by simp[B3]
 refine eV eL rfl fun hl=>?_
 clear hl
 have TU:∀x∈i1++(i2++i3),bF σ.get ⟨31000000,σ.next⟩ ⟨true,4,[[.own oa 0 p.aB.ax.length,.own ob 0 p.aB.ah.length,.own oc 0 p.cu.ah.length,.int .i64 p.ay]]⟩ x=σ.get x:=fun x hx=>by
  have:=dx (hv x hx)
  simp only[go_sem, ↓reduceIte,Nat.reduceEqDiff,Nat.reduceAdd,Nat.reduceSub,Nat.reduceLeDiff,reduceCtorEq,this]
 (try((repeat(revert hN;revert N;apply Pn.out));refine wk @Nat.zero_add ?_;(repeat(refine Pn.mk ?_;intro N hN))))
 refine .inr (aI _ _ _ _ _ (fun r σ1 hq=>?_) (G0 _ _ p.aB i1 i2 k h0 yn (by omega) _ (fun i hi=>by have:=hv i (by rcases List.mem_append.1 hi with h|h<;>simp[h]);(try dsimp only);omega) n1 (hA.frame Bh fun i hi=>TU i (by simp[hi])) (hB.frame re fun i hi=>TU i (by simp[hi]))))
 obtain⟨g1,x1⟩:=σ1
 obtain⟨rfl,yq,uq⟩:=hq
 (try dsimp only at yq uq)
 refine hN _ _ ?_
 clear hN N
 have k1:=uq ⟨31000000,σ.next⟩ (by(try dsimp only);omega) (fun h=>by
  have:=hv ⟨31000000,σ.next⟩ (by rcases List.mem_append.1 h with h|h<;>simp[h])
  (try dsimp only at this);omega)
 simp only[go_sem, ↓reduceIte,Nat.reduceEqDiff,Nat.reduceAdd,Nat.reduceSub,Nat.reduceLeDiff,reduceCtorEq]at k1
 (try((repeat(revert hN;revert N;apply Pn.out));refine wk @k1 ?_;(repeat(refine Pn.mk ?_;intro N hN))))
 refine .inr (aI _ _ _ _ _ (fun r σ2 hq=>?_) (yH _ p.cu i3 (k+2*p.aB.ax.length+(p.aB.ah.map gF).sum) (by omega) (by omega) _ (fun i hi=>by have:=hv i (by simp[hi]);(try dsimp only);omega) ⟨_,rfl,hC.frame yc fun i hi=>?_⟩))
 rotate_left
 ·exact(uq i (by have:=hv i (by simp[hi]);(try dsimp only);omega) fun h=>n3 i h i hi rfl).trans (TU i (by simp[hi]))
 obtain⟨g2,x2⟩:=σ2
 obtain⟨rfl,LH,AA⟩:=hq
 (try dsimp only at LH AA)
 refine hN _ _ ?_
 clear hN N
 (try((repeat(revert hN;revert N;apply Pn.out));refine wk @Nat.zero_add ?_;(repeat(refine Pn.mk ?_;intro N hN))))
 exact fb (.inl rfl) (vs:=[.int .i64 (k+2*p.aB.ax.length+(p.aB.ah.map gF).sum+3*p.cu.ah.length)]) (sd @Nat.zero_add) ⟨by rw[hm];exact congrArg (AV.int .i64) (by omega),⟨by(try dsimp only);omega,fun x hx hi=>by
  have h2:=AA x (by(try dsimp only);omega) fun h=>hi (by simp[h])
  have h3:=uq x (by(try dsimp only);omega) fun h=>hi (by rcases List.mem_append.1 h with h|h<;>simp[h])
  have h4:=dx hx
  simp only[go_sem, ↓reduceIte,Nat.reduceEqDiff,Nat.reduceAdd,Nat.reduceSub,Nat.reduceLeDiff,reduceCtorEq,h4]at h3
  exact h2.trans h3⟩⟩
end Go.Proofs.YtgoelphibofcmaaGreat.V

namespace Go.Proofs.YtgoelphibofcmaaGreat.V
open Go.RowKit
def AV.clean:AV->Bool
 | .int .. | .bool _| .str _| .bV| .gP| .jb| .jk| .own .. | .ptr .. | .map .. | .rK _=>true
 | .sl l=>l.isEmpty
 |_=>false
def AV.zj:AV->Bool
 | .agg cs=>cs.all AV.clean
 | .iC cs=>cs.all fun a=>match a with
  | .agg cs=>cs.all AV.clean
  |a=>a.clean
 |a=>a.clean
def yV (ids:List Id) (g g':Rows):Rows:=fun id=>if id∈ids then g' id else g id
theorem o9 {ids:List Id} {g g':Rows} {id:Id} (h:id∈ids):yV ids g g' id=g' id:=if_pos h
theorem mz {ids:List Id} {g g':Rows} {id:Id} (h:id∉ids):yV ids g g' id=g id:=if_neg h
section
variable {P:Program} {w w':World} {D D' D1 D2:Nat->Prop} {ι ι1 ι2:Names}
theorem jP {a:AV} {v:Value} (hp:a.clean=true) (h:dc P w D1 ι1 a v):dc P w D2 ι1 a v:=by
 cases h with
 |eP a v h=>
  cases h with
  |int=>exact .eP _ _ (.int _ _)
  |bool=>exact .eP _ _ (.bool _)
  |str=>exact .eP _ _ (.str _)
  |bV=>exact .eP _ _ .bV
  |gP=>exact .eP _ _ .gP
  |jb=>exact .eP _ _ .jb
  |jk=>exact .eP _ _ .jk
  |AG a c h=>exact .eP _ _ (.AG a c h)
  |sl rows b o n c sz vs h1 h2 h3=>
   have:rows=[]:=by simpa[AV.clean]using hp
   subst this
   simp only[List.length_nil]at h1
   subst h1
   exact .eP _ _ (.AG _ _ h3)
  |dm=>simp[AV.clean]at hp
  |agg=>simp[AV.clean]at hp
  |fn=>simp[AV.clean]at hp
 |own id off len o cap B h1 h2 h3 h4 h5 h6=>exact .own id off len o cap B h1 h2 h3 h4 h5 h6
 |map id m B h1 h2=>exact .map id m B h1 h2
 |rK id c B h1 h2=>exact .rK id c B h1 h2
 |ptr id i off B h1 h2=>exact .ptr id i off B h1 h2
 |agg=>simp[AV.clean]at hp
 |iC=>simp[AV.clean]at hp
 |fn=>simp[AV.clean]at hp
 |tT=>simp[AV.clean]at hp
theorem lQ {cs:List AV} {v:Value} (hc:cs.all AV.clean=true) (h:dc P w D1 ι1 (.agg cs) v):dc P w D2 ι1 (.agg cs) v:=by
 obtain⟨vs,f,rfl,h1,h2,h3,h4⟩:=iz h
 rw[List.all_eq_true]at hc
 exact .agg cs vs f h1 h2 h3 fun j a ha=>jP (hc a (List.mem_of_getElem? ha)) (h4 j a ha)
theorem Em {a:AV} {v:Value} (hp:a.zj=true) (h:dc P w D1 ι1 a v):dc P w D2 ι1 a v:=by
 cases a with
 |agg cs=>exact lQ hp h
 |iC cs=>
  obtain⟨vs,f,rfl,h1,h3,h4⟩:=uN h
  simp only[AV.zj,List.all_eq_true]at hp
  refine .iC cs vs f h1 h3 fun j a ha=>?_
  have:=hp a (List.mem_of_getElem? ha)
  split at this
  ·exact lQ this (h4 j _ ha)
  ·exact jP this (h4 j _ ha)
 |_=>exact jP hp h
theorem Ek {ag:Bool} {n:Nat} {cs:List AV} {x:AV} {v:Value} (hc:∀a∈cs,a.clean=true) (hp:part ag n cs=some x) (hr:dc P w D1 ι1 x v):dc P w D2 ι1 x v:=by
 unfold part at hp
 split at hp
 ·split at hp
  ·simp only[Option.some.injEq]at hp;subst hp
   exact lQ (List.all_eq_true.2 fun a ha=>hc a (List.mem_of_mem_take ha)) hr
  ·cases hp
 ·exact jP (hc x (List.mem_of_mem_head? hp)) hr
theorem ia.clean {B:sK} {r:Row} (R:ia P w D1 ι1 B r) (h:∀cs∈r.rows,∀a∈cs,a.clean=true):ia P w D2 ι1 B r:=
 ⟨R.sz,R.flat,fun hk=>⟨R.sz,(R.row hk).xV,(R.row hk).fits,(R.row hk).len,R.flat,fun i j cs a hi hj=>by
  obtain⟨v,q1,q2⟩:=(R.row hk).at_ i j cs a hi hj
  exact⟨v,q1,jP (h cs (List.mem_of_getElem? hi) a (List.mem_of_getElem? hj)) q2⟩⟩,fun m hm=>by
  obtain⟨h1,es,c,h2,h3,h5,h4⟩:=R.map m hm
  refine⟨h1,es,c,h2,h3,h5,fun i cs hi=>?_⟩
  obtain⟨e,kv,vv,q1,q2,q3,q4,q5⟩:=h4 i cs hi
  have hc:=h cs (List.mem_of_getElem? hi)
  exact⟨e,kv,vv,q1,q2,q3,Ek hc q2 q4,jP (hc vv (List.mem_of_getElem? q3)) q5⟩,fun c hc=>by
  obtain⟨h1,buf,s,q,h2,h3,h4⟩:=R.chan c hc
  refine⟨h1,buf,s,q,h2,h3,fun i cs hi=>?_⟩
  obtain⟨a,u,rfl,q2,q3⟩:=h4 i cs hi
  exact⟨a,u,rfl,q2,jP (h [a] (List.mem_of_getElem? hi) a (by simp)) q3⟩⟩
def Handed (ids:List Id) (g:Rows):Prop:=∀id∈ids,∃r,g id=some r/\r.w=true/\∀cs∈r.rows,∀a∈cs,a.clean=true
theorem HC {f:Nat} {args er:List AV} {g:Rows} {n:Nat} {K:AV->ar->Prop} (hv:cG (dF g) 6 args=some er)
  (h:Sound P f er ⟨fun _=>none,n⟩ fun r σ'=>∃ids,r.zj=true/\Handed ids σ'.get/\K r ⟨yV ids g σ'.get,σ'.next⟩):Sound P f args ⟨g,n⟩ K:=by
 intro hs D ι w vs S U A
 let E:Nat->Prop:=fun b=>D b∨∃id r B,g id=some r/\ι id=some B/\b=B.b
 have lt:∀id r B,g id=some r->ι id=some B->B.b<w.heap.size:=fun id r B h1 h2=>by
  obtain⟨B',dD,R,_⟩:=S.row id r h1
  rw[h2]at dD;injection dD with dD;subst dD
  exact R.lt
 have S0:gz P w.heap.size E ι (fun _=>none) w:=⟨Nat.le_refl _,fun b hb=>by
  rcases hb with hb|⟨id,r,B,h1,h2,rfl⟩
  ·exact S.dead b hb
  ·exact lt id r B h1 h2,fun id r h=>(by cases h),fun id kR r r' B B' h=>(by cases h)⟩
 obtain⟨l1,l2⟩:=gD hv
 have A':fh P w E ι er vs:=⟨by rw[A.1,l1],fun j a hj=>by
  obtain⟨a0,ll,hz⟩:=l2 j a hj
  obtain⟨u,hu,hr⟩:=A.2 j a0 ll
  refine⟨u,hu,(rP (D2:=E) (ι2:=ι) (fun b h=>.inl h) (fun id row hg hw=>?_) 6 a0 u a hr hz).1⟩
  unfold dF at hg
  simp only[Option.map_eq_some_iff]at hg
  obtain⟨r,nW,rfl⟩:=hg
  obtain⟨B,hB,R,_,_⟩:=S.row id r nW
  exact⟨B,hB,R.flag true,.inr ⟨id,r,B,nW,hB,rfl⟩⟩⟩
 refine(h w.heap.size E ι w vs S0 U A').mono ?_
 rintro e w' ⟨r0,g',n',D2,ι1,u,rfl,⟨ids,nR,hid,hK⟩,T,S1,U1,hn,hR⟩
 have hb:∀b,b<w.heap.size->w'.heap[b]? =w.heap[b]? :=T.below.block
 have hz:=T.below.size
 have frame:∀{a v},dc P w D ι a v->dc P w' D ι1 a v:=fun h=>h.frame (fun b hd=>hb b (S.dead b hd)) (fun _ h=>h) T.names
 refine⟨r0,_,n',D,ι1,u,rfl,hK,⟨T.below.mono S.lo,fun b hd=>hb b (S.dead b hd),fun _ h=>h,T.names,fun _ h=>.inl h⟩,⟨Nat.le_trans S.lo hz,fun b hd=>Nat.lt_of_lt_of_le (S.dead b hd) hz,fun id r hr=>?_,fun RV id2 r1 r2 B1 B2 h1 h2 hw Aw pR Nd=>?_⟩,U1,hn,Em nR hR⟩
 ·by_cases hi:id∈ids
  ·rw[o9 hi]at hr
   obtain⟨r',nW,hw,hcr⟩:=hid id hi
   rw[hr]at nW;injection nW with nW;subst nW
   obtain⟨B,hB,R,k1,k2⟩:=S1.row id r hr
   have j5:=k1 hw
   exact⟨B,hB,R.clean hcr,fun _=>Nat.le_trans S.lo j5,fun _ hd=>Nat.lt_irrefl _ (Nat.lt_of_lt_of_le (S.dead _ hd) j5)⟩
  ·rw[mz hi]at hr
   obtain⟨B,hB,R,k1,k2⟩:=S.row id r hr
   have hBl:=lt id r B hr hB
   exact⟨B,T.names _ _ hB,R.frame (hb _ hBl) fun a v h=>frame h,k1,k2⟩
 ·have new:∀{id r B},id∈ids->yV ids g g' id=some r->ι1 id=some B->w.heap.size<=B.b/\g' id=some r/\r.w=true:=fun {id r B} hi hr hB=>by
   rw[o9 hi]at hr
   obtain⟨r',nW,hw,_⟩:=hid id hi
   replace nW:g' id=some r':=nW
   rw[hr]at nW;injection nW with nW;subst nW
   obtain⟨B',dD,_,k1,_⟩:=S1.row id r hr
   rw[hB]at dD;injection dD with dD;subst dD
   exact⟨k1 hw,hr,hw⟩
  have Cg:∀{id r B},id∉ids->yV ids g g' id=some r->ι1 id=some B->B.b<w.heap.size/\g id=some r/\ι id=some B:=fun {id r B} hi hr hB=>by
   rw[mz hi]at hr
   obtain⟨B',dD,_⟩:=S.row id r hr
   have:=T.names _ _ dD
   rw[hB]at this;injection this with this;subst this
   exact⟨lt id r _ hr dD,hr,dD⟩
  by_cases i1:RV∈ids
  ·obtain⟨a1,a2,a3⟩:=new i1 h1 Aw
   by_cases i2:id2∈ids
   ·obtain⟨b1,b2,b3⟩:=new i2 h2 pR
    exact S1.inj RV id2 r1 r2 B1 B2 a2 b2 hw Aw pR Nd
   ·obtain⟨b1,_⟩:=Cg i2 h2 pR
    omega
  ·obtain⟨a1,a2,a3⟩:=Cg i1 h1 Aw
   by_cases i2:id2∈ids
   ·obtain⟨b1,_⟩:=new i2 h2 pR
    omega
   ·obtain⟨b1,b2,b3⟩:=Cg i2 h2 pR
    exact S.inj RV id2 r1 r2 B1 B2 a2 b2 hw a3 b3 Nd
theorem uT (hm:P.follows .mixedOrders=true) {f:Nat} {args er:List AV} {σ:ar} {K:AV->ar->Prop} (hv:cG (dF σ.get) 6 args=some er)
  (h:Call P f er ⟨fun _=>none,σ.next⟩ fun r σ'=>∃ids,r.zj=true/\Handed ids σ'.get/\K r ⟨yV ids σ.get σ'.get,σ'.next⟩):Call P f args σ K:=
 fN (HC hv (il hm h))
end
inductive od:List AV->List AV->Prop
 |nil:od [] []
 |same (a) {l l'}:od l l'->od (a::l) (a::l')
 |ptr (cs rest) {l l'}:od l l'->od (.dm (cs++rest)::l) (.dm cs::l')
 |bV {l l'}:od l l'->od (.bV::l) (.sl []::l')
theorem Mx {P:Program} {w:World} {D:Nat->Prop} {ι:Names} {cs rest:List AV} {v:Value} (h:dc P w D ι (.dm (cs++rest)) v):dc P w D ι (.dm cs) v:=by
 obtain⟨b,o,vs,rfl,h1,h2,h3,h4⟩:=k7 h
 exact .eP _ _ (.dm cs b o vs h1 (fun a ha=>h2 a (List.mem_append_left _ ha)) (fun j hj=>h3 j (by rw[List.length_append];omega)) fun j a ha=>h4 j a (by
  have:=(List.getElem?_eq_some_iff.1 ha).1
  rw[List.getElem?_append_left this];exact ha))
theorem Mz {P:Program} {w:World} {D:Nat->Prop} {ι:Names} {v:Value} (h:dc P w D ι .bV v):dc P w D ι (.sl []) v:=by
 cases h with
 |eP _ _ h=>
  cases h with
  |bV=>exact .eP _ _ (.AG none 0 (Nat.zero_le _))
theorem od.len {l l':List AV} (h:od l l'):l'.length=l.length:=by induction h<;>simp_all
theorem od.get {P:Program} {w:World} {D:Nat->Prop} {ι:Names} {l l':List AV} (h:od l l'):∀{j:Nat} {a':AV},l'[j]? =some a'->∃a,l[j]? =some a/\∀v,dc P w D ι a v->dc P w D ι a' v:=by
 induction h with
 |nil=>intro j a' hj;simp at hj
 |same a _ ih=>
  intro j a' hj
  cases j with
  |zero=>simp at hj;subst hj;exact⟨a,rfl,fun _ h=>h⟩
  |succ j=>exact ih (by simpa using hj)
 |ptr cs rest _ ih=>
  intro j a' hj
  cases j with
  |zero=>simp at hj;subst hj;exact⟨_,rfl,fun _ h=>Mx h⟩
  |succ j=>exact ih (by simpa using hj)
 |bV _ ih=>
  intro j a' hj
  cases j with
  |zero=>simp at hj;subst hj;exact⟨_,rfl,fun _ h=>Mz h⟩
  |succ j=>exact ih (by simpa using hj)
theorem Call.cut {P:Program} (hm:P.follows .mixedOrders=true) {f:Nat} {args er:List AV} {σ:ar} {K:AV->ar->Prop} (hc:od args er) (h:Call P f er σ K):Call P f args σ K:=
 fN fun hs D ι w vs S U A=>il hm h hs D ι w vs S U ⟨by rw[A.1,hc.len],fun j a' hj=>by
  obtain⟨a,ha,hr⟩:=hc.get (P:=P) (w:=w) (D:=D) (ι:=ι) hj
  obtain⟨u,hu,hv⟩:=A.2 j a ha
  exact⟨u,hu,hr u hv⟩⟩
theorem aq.cut {P:Program} (hm:P.follows .mixedOrders=true) {f:Nat} {args er:List AV} {r:AV} (hc:od args er) (h:aq P f er r):aq P f args r:=fun n=>(h n).cut hm hc
theorem kj.cut {P:Program} (hm:P.follows .mixedOrders=true) {f:Nat} {args er:List AV} {r:AV} (hc:od args er) (h:kj P f er r):kj P f args r:=fun σ=>Call.cut hm hc (h σ)
end Go.Proofs.YtgoelphibofcmaaGreat.V

namespace Go.Proofs.YtgoelphibofcmaaGreat.V
open Go.RowKit
attribute [local irreducible] ek wpOps gq Call
attribute [local go_sem] aH fF eK ga fZ da upd ck K.av cH AV.cells AV.cell rowOf rowsOf part ld rowAt bF cj dy dW gU bG cX eh fY eU dn ea cV cU dH dI bJ aW cK bI cN cL dY eb dZ cJ bL cW dX bH aL cQ cC gT bj cF bK aT du bf dz AV.undef bw bE dM dU dE dJ cE ef ep cw ee ec cP cR List.getD_cons_zero List.getD_cons_succ List.getD_nil List.all_cons List.all_nil Bool.and_true Bool.true_and Bool.and_self Bool.not_true Bool.not_false Option.map_some Option.map_none Option.bind_some Option.bind_none List.length_cons List.length_nil List.take_succ_cons List.take_zero List.take_nil List.drop_succ_cons List.drop_zero List.drop_nil List.head?_cons List.map_cons List.map_nil List.getElem?_cons_zero List.getElem?_cons_succ List.cons_append List.nil_append List.append_nil List.length_map List.set_cons_zero List.set_cons_succ eq_self Int.toNat_natCast Int.natCast_nonneg and_self true_and and_true decide_true decide_false Bool.false_eq_true Nat.zero_add Nat.add_zero List.contains_cons List.contains_nil Bool.or_false Bool.false_or beq_self_eq_true ne_eq not_true_eq_false not_false_eq_true Id.mk.injEq false_and and_false Nat.le_refl List.length_append beq_true beq_false Bool.not_eq_eq_eq_not or_false false_or dF ai ao aG aZ bt bW aP aY aQ aV cI bD
section
variable {P:Program} {α:Type} {e:α->List AV} {z:Nat} {g g':Rows} {v:AV} {L:List α} {ids:List Id}
def pM (e:α->List AV) (z:Nat) (g:Rows) (v:AV) (L:List α) (ids:List Id):Prop:=(L=[]/\v=.bV/\ids=[])∨∃o,v=.own o 0 L.length/\g o=some ⟨true,z,L.map e⟩/\ids=[o]/\0<L.length
def QC (e:α->List AV) (L:List α):AV:=if L.length=0 then .bV else .sl (L.map e)
theorem pM.frame (h:pM e z g v L ids) (hf:∀i∈ids,g' i=g i):pM e z g' v L ids:=by
 rcases h with h|⟨o,h1,h2,rfl,hp⟩
 ·exact .inl h
 ·exact .inr ⟨o,h1,(hf o (by simp)).trans h2,rfl,hp⟩
def jc (e:α->List AV) (L:List α) (w:AV):Prop:=(w=.bV/\L=[])∨w=.sl (L.map e)
theorem pM.fz (h:pM e z g v L ids) (he:∀x g,cG g 5 (e x)=some (e x)):∃w,V.fz (dF g) 6 v=some w/\jc e L w:=by
 rcases h with⟨rfl,rfl,_⟩|⟨o,rfl,h2,_⟩
 ·exact⟨.bV,aP _ _,.inl ⟨rfl,rfl⟩⟩
 ·exact⟨_,fS (e:=e) (sz:=z) (by simp[dF,h2]) rfl fun x=>he x _,.inr rfl⟩
def HX (P:Program) (f:Nat) (args:List AV) (e:α->List AV) (z:Nat) (L:List α) (c:Int):Prop:=
 ∀n:Nat,Call P f args ⟨fun _=>none,n⟩ (fun r σ'=>∃v ids,r=.iC [v,.int .i64 c]/\pM e z σ'.get v L ids/\gr n σ'.next ids)
theorem xP (hm:P.follows .mixedOrders=true) {f:Nat} {args:List AV} {σ:ar} {K:AV->ar->Prop} (h:Call P f args σ K):Call P f args σ (fun r σ'=>K r σ'/\σ.next<=σ'.next):=
 fN fun hs D ι w vs S U A=>(il hm h hs D ι w vs S U A).mono (by
  rintro e w' ⟨r,g',n',D2,ι1,u,rfl,hK,T,S1,U1,hn,hR⟩
  exact⟨r,g',n',D2,ι1,u,rfl,⟨hK,hn⟩,T,S1,U1,hn,hR⟩)
theorem HX.s {f:Nat} {args:List AV} {c:Int} (he:∀x g,ew g 4 (e x)=some (e x)) (h:HX P f args e z L c):aq P f args (.iC [QC e L,.int .i64 c]):=fun n=>
 aI _ _ _ _ _ (fun r σ' hq=>by
  obtain⟨v,ids,rfl,ho,hi⟩:=hq
  rcases ho with⟨rfl,rfl,_⟩|⟨o,rfl,h2,_,hp⟩
  ·exact⟨_,by simp only[eT,bB,cr,j4,eC,Option.map_some];rfl,rfl⟩
  ·have:=fI (e:=e) (n:=4) h2 rfl fun x=>he x _
   exact⟨_,by simp only[eT,bB,cr,this,eC,Option.map_some];rfl,by rw[QC,if_neg (by omega)]⟩) (h n)
theorem Cf:jc e L (QC e L):=by
 unfold QC
 split
 ·rename_i h;exact .inl ⟨rfl,List.eq_nil_of_length_eq_zero h⟩
 ·exact .inr rfl
end
theorem jc.two {α:Type} {e:α->List AV} {L:List α} {w:AV} (h:jc e L w):od [w] [.sl (L.map e)]:=by
 rcases h with⟨rfl,rfl⟩|rfl
 ·exact .bV .nil
 ·exact .same _ .nil
theorem jc.cut {α:Type} {e:α->List AV} {L:List α} {w:AV} (h:jc e L w) {l l':List AV} (hl:od l l'):od (w::l) (.sl (L.map e)::l'):=by
 rcases h with⟨rfl,rfl⟩|rfl
 ·exact .bV hl
 ·exact .same _ hl
end Go.Proofs.YtgoelphibofcmaaGreat.V

namespace Go.Proofs.YtgoelphibofcmaaGreat.V
open Go.RowKit
attribute [local irreducible] ek wpOps gq Call
attribute [local go_sem] aH fF eK ga fZ da upd ck K.av cH AV.cells AV.cell rowOf rowsOf part ld rowAt bF cj dy dW gU bG cX eh fY eU dn ea cV cU dH dI bJ aW cK bI cN cL dY eb dZ cJ bL cW dX bH aL cQ cC gT bj cF bK aT du bf dz AV.undef bw bE dM dU dE dJ cE ef ep cw ee ec cP cR List.getD_cons_zero List.getD_cons_succ List.getD_nil List.all_cons List.all_nil Bool.and_true Bool.true_and Bool.and_self Bool.not_true Bool.not_false Option.map_some Option.map_none Option.bind_some Option.bind_none List.length_cons List.length_nil List.take_succ_cons List.take_zero List.take_nil List.drop_succ_cons List.drop_zero List.drop_nil List.head?_cons List.map_cons List.map_nil List.getElem?_cons_zero List.getElem?_cons_succ List.cons_append List.nil_append List.append_nil List.length_map List.set_cons_zero List.set_cons_succ Nat.reduceMul eq_self Int.toNat_natCast Int.natCast_nonneg and_self true_and and_true decide_true decide_false Bool.false_eq_true Nat.zero_add Nat.add_zero List.contains_cons List.contains_nil Bool.or_false Bool.false_or beq_self_eq_true Nat.reduceBEq ne_eq not_true_eq_false not_false_eq_true Id.mk.injEq false_and and_false Nat.reduceLT Int.reduceLE Int.reduceLT Int.reduceToNat Int.reduceNeg Int.reduceAdd Nat.le_refl List.length_append beq_true beq_false Bool.not_eq_eq_eq_not or_false false_or dF ai ao aG aZ bt bW aP aY aQ aV cI bD
end Go.Proofs.YtgoelphibofcmaaGreat.V

namespace Go.Proofs.YtgoelphibofcmaaGreat.V
open Go.RowKit
variable {P:Program}
theorem Pb (hm:P.follows .mixedOrders=true) {f:Nat} {args:List AV} {vs:Array Value} {w:World} (h:aq P f args (.bool true)) (hA:fh P w (fun b=>b<w.heap.size) (fun _=>none) args vs):
  Calls P f vs w fun e w'=>e=.returned (.bool true)/\Below w.heap.size w w':=by
 have hs:=il hm (h 0) w.heap.size (fun b=>b<w.heap.size) (fun _=>none) w vs ⟨Nat.le_refl _,fun _ h=>h,fun id r h=>(by cases h),fun id kR r r' B B' h=>(by cases h)⟩ (fun id h=>absurd rfl h) hA
 refine hs.mono ?_
 rintro e w' ⟨r,g',n',D',ι',u,rfl,⟨r',hz,rfl⟩,dL,hsim,_,_,gZ⟩
 have hr:r=.bool true:=by
  cases r<;>rw[gy]at hz<;>simp_all
  all_goals (repeat' (split at hz))<;>simp_all
 subst hr
 exact⟨by rw[e7 gZ],dL.below⟩
theorem mj {xs:List AV} {w:World} {D:Nat->Prop} {ι:Names} {a:AV} {v:Value} {vs:Array Value} (h:jC P w D a v) (k:fh P w D ι xs vs):fh P w D ι (a::xs) (#[v]++vs):=
 oZ (xs:=[a]) ⟨rfl,fun j b hj=>by
  cases j with
  |zero=>simp at hj;subst hj;exact⟨v,rfl,.eP _ _ h⟩
  |succ j=>simp at hj⟩ k
end Go.Proofs.YtgoelphibofcmaaGreat.V

namespace Go.Proofs.YtgoelphibofcmaaGreat.V
open Go.RowKit
attribute [local irreducible] ek wpOps gq Call
attribute [local go_sem] aH fF eK ga fZ da upd ck K.av cH AV.cells AV.cell rowOf rowsOf part ld rowAt bF cj dy dW gU bG cX eh fY eU dn ea cV cU dH dI bJ aW cK bI cN cL dY eb dZ cJ bL cW dX bH aL cQ cC gT bj cF bK aT du bf dz AV.undef bw bE dM dU dE dJ cE ef ep cw ee ec cP cR List.getD_cons_zero List.getD_cons_succ List.getD_nil List.all_cons List.all_nil Bool.and_true Bool.true_and Bool.and_self Bool.not_true Bool.not_false Option.map_some Option.map_none Option.bind_some Option.bind_none List.length_cons List.length_nil List.take_succ_cons List.take_zero List.take_nil List.drop_succ_cons List.drop_zero List.drop_nil List.head?_cons List.map_cons List.map_nil List.getElem?_cons_zero List.getElem?_cons_succ List.cons_append List.nil_append List.append_nil List.length_map List.set_cons_zero List.set_cons_succ Nat.reduceMul eq_self Int.toNat_natCast Int.natCast_nonneg and_self true_and and_true decide_true decide_false Bool.false_eq_true Nat.zero_add Nat.add_zero List.contains_cons List.contains_nil Bool.or_false Bool.false_or beq_self_eq_true Nat.reduceBEq ne_eq not_true_eq_false not_false_eq_true Id.mk.injEq false_and and_false Nat.reduceLT Int.reduceLE Int.reduceLT Int.reduceToNat Int.reduceNeg Int.reduceAdd Nat.le_refl List.length_append beq_true beq_false Bool.not_eq_eq_eq_not or_false false_or dF ai ao aG aZ bt bW aP aY aQ aV cI bD
theorem Pw {α:Type} (f:α->Nat) {xs:List α} {x:α} (h:x∈xs):f x<=(xs.map f).sum:=by
 induction xs with
 |nil=>cases h
 |cons y ys ih=>
  simp only[List.map_cons,List.sum_cons]
  rcases List.mem_cons.1 h with rfl|h
  ·omega
  ·have:=ih h;omega
theorem Ho {s:aD} (h:xh s<=1048576):rz s:=by
 unfold xh uw at h
 refine⟨⟨by omega,by omega,fun t ht=>?_⟩,by omega⟩
 have:=Pw ko ht
 have h2:t.br.length<=ko t:=by unfold ko;omega
 unfold sN
 omega
theorem zl (a:dP):aq Tryz.prog 21 [.agg (aO a),.agg (aO a)] (.bool true):=by
 refine aq.body eL rfl fun hl n0=>?_
 clear hl
 have h1:=tD a.ah a.ah
 rw[decide_eq_true rfl]at h1
 (repeat(first|((repeat(revert hN;revert N;apply Pn.out));refine wk @aO.eq_1 ?_;(repeat(refine Pn.mk ?_;intro N hN)))|((try apply Or.inl);refine⟨_,aq.x (h1) (sd @aO.eq_1),?_⟩;refine hN _ _ ?_;clear hN N)))
 exact aX (b:=true) (.inl rfl) (sd @Nat.zero_add) rfl
end Go.Proofs.YtgoelphibofcmaaGreat.V

namespace Go.Proofs.YtgoelphibofcmaaGreat.V
open Go.RowKit
attribute [local irreducible] ek wpOps gq Call
attribute [local go_sem] aH fF eK ga fZ da upd ck K.av cH AV.cells AV.cell rowOf rowsOf part ld rowAt bF cj dy dW gU bG cX eh fY eU dn ea cV cU dH dI bJ aW cK bI cN cL dY eb dZ cJ bL cW dX bH aL cQ cC gT bj cF bK aT du bf dz AV.undef bw bE dM dU dE dJ cE ef ep cw ee ec cP cR List.getD_cons_zero List.getD_cons_succ List.getD_nil List.all_cons List.all_nil Bool.and_true Bool.true_and Bool.and_self Bool.not_true Bool.not_false Option.map_some Option.map_none Option.bind_some Option.bind_none List.length_cons List.length_nil List.take_succ_cons List.take_zero List.take_nil List.drop_succ_cons List.drop_zero List.drop_nil List.head?_cons List.map_cons List.map_nil List.getElem?_cons_zero List.getElem?_cons_succ List.cons_append List.nil_append List.append_nil List.length_map List.set_cons_zero List.set_cons_succ eq_self Int.toNat_natCast Int.natCast_nonneg and_self true_and and_true decide_true decide_false Bool.false_eq_true Nat.zero_add Nat.add_zero List.contains_cons List.contains_nil Bool.or_false Bool.false_or beq_self_eq_true ne_eq not_true_eq_false not_false_eq_true Id.mk.injEq false_and and_false Nat.le_refl List.length_append beq_true beq_false Bool.not_eq_eq_eq_not or_false false_or dF ai ao aG aZ bt bW aP aY aQ aV cI bD
theorem Hp {g:Rows} {v w:AV} {s:aD} {a:dP} {i j:List Id} (hX:y7 g v s i) (hY:xo g w a j):cG (dF g) 6 [v,w]=some [.agg (aC s),.agg (aO a)]:=by
 simp only[ai,ao,hX.fz 1,hY.fz 2,Option.map_some]
theorem MI {g:Rows} {v w:AV} {s:aD} {i:List Id} (hX:y7 g v s i) (hw:fz (dF g) 6 w=some w):cG (dF g) 6 [v,w]=some [.agg (aC s),w]:=by
 simp only[ai,ao,hX.fz 1,hw,Option.map_some]
theorem KZ {g:Rows} {v w:AV} {s:dP} {i:List Id} (hX:xo g v s i) (hw:fz (dF g) 6 w=some w):cG (dF g) 6 [v,w]=some [.agg (aO s),w]:=by
 simp only[ai,ao,hX.fz 2,hw,Option.map_some]
theorem Fa (g:Rows) (s:aD):fz g 6 (.agg (aC s))=some (.agg (aC s)):=by simp[aC,aY,ai,ao,bW,aG]
theorem E9 (g:Rows) (s:dP):fz g 6 (.agg (aO s))=some (.agg (aO s)):=by simp[aO,aY,ai,ao,bW]
theorem tp {g:Rows} {v w v' w':AV} (h1:fz g 6 v=some v') (h2:fz g 6 w=some w'):cG g 6 [v,w]=some [v',w']:=by
 simp only[ai,ao,h1,h2,Option.map_some]
theorem Ma (s:aD):B3 s<=3*xh s:=by
 have h:∀l:List eR,(l.map gF).sum<=l.length+(l.map ko).sum:=fun l=>by
  induction l with
  |nil=>simp
  |cons t l ih=>simp only[List.map_cons,List.sum_cons,List.length_cons,gF,ko]at *;omega
 have:=h s.aB.ah
 unfold B3 xh uw
 omega
theorem gr.not {a b:Nat} {ids:List Id} (h:gr a b ids) {x:Id} (hx:x.bm<a∨b<=x.bm):x∉ids:=fun hc=>by
 have:=h.2 x hc;omega
theorem jc.fz {α:Type} {e:α->List AV} {L:List α} {w:AV} (h:jc e L w) (g:Rows):V.fz g 6 w=some w:=by
 rcases h with⟨rfl,rfl⟩|rfl
 ·exact aP _ _
 ·exact bW _ _ _
end Go.Proofs.YtgoelphibofcmaaGreat.V

namespace Go.Proofs.YtgoelphibofcmaaGreat.V
open Go.RowKit
attribute [local irreducible] ek wpOps gq Call
attribute [local go_sem] aH fF eK ga fZ da upd ck K.av cH AV.cells AV.cell rowOf rowsOf part ld rowAt bF cj dy dW gU bG cX eh fY eU dn ea cV cU dH dI bJ aW cK bI cN cL dY eb dZ cJ bL cW dX bH aL cQ cC gT bj cF bK aT du bf dz AV.undef bw bE dM dU dE dJ cE ef ep cw ee ec cP cR List.getD_cons_zero List.getD_cons_succ List.getD_nil List.all_cons List.all_nil Bool.and_true Bool.true_and Bool.and_self Bool.not_true Bool.not_false Option.map_some Option.map_none Option.bind_some Option.bind_none List.length_cons List.length_nil List.take_succ_cons List.take_zero List.take_nil List.drop_succ_cons List.drop_zero List.drop_nil List.head?_cons List.map_cons List.map_nil List.getElem?_cons_zero List.getElem?_cons_succ List.cons_append List.nil_append List.append_nil List.length_map List.set_cons_zero List.set_cons_succ Nat.reduceMul eq_self Int.toNat_natCast Int.natCast_nonneg and_self true_and and_true decide_true decide_false Bool.false_eq_true Nat.zero_add Nat.add_zero List.contains_cons List.contains_nil Bool.or_false Bool.false_or beq_self_eq_true Nat.reduceBEq ne_eq not_true_eq_false not_false_eq_true Id.mk.injEq false_and and_false Nat.reduceLT Int.reduceLE Int.reduceLT Int.reduceToNat Int.reduceNeg Int.reduceAdd Nat.le_refl List.length_append beq_true beq_false Bool.not_eq_eq_eq_not or_false false_or dF ai ao aG aZ bt bW aP aY aQ aV cI bD
def iO (n lo hi:Int):Bool:=decide (lo<=n)&&decide (n<=hi)
theorem eu {n lo hi:Int} (h:iO n lo hi=true):lo<=n/\n<=hi:=by simpa[iO]using h
theorem jL {n lo hi:Int} (h:lo<=n/\n<=hi):iO n lo hi=true:=by simpa[iO]using h
def zZ (p:ad):Bool:=iO p.eI (-60) 60&&iO p.eF (-60) 60
theorem lJ (n lo hi:Int):aq Tryz.prog 137 [.int .i64 n,.int .i64 lo,.int .i64 hi] (.bool (iO n lo hi)):=by
 refine aq.body eL rfl fun hl n0=>?_
 clear hl
 by_cases h1:lo<=n
 ·(try((repeat(revert hN;revert N;apply Pn.out));refine wk @h1 ?_;(repeat(refine Pn.mk ?_;intro N hN))))
  exact aX (b:=decide (n<=hi)) (.inl rfl) (sd @Nat.zero_add) (by simp[iO,h1])
 ·(try((repeat(revert hN;revert N;apply Pn.out));refine wk @h1 ?_;(repeat(refine Pn.mk ?_;intro N hN))))
  exact aX (b:=false) (.inl rfl) (sd @Nat.zero_add) (by simp[iO,h1])
theorem lj (n lo hi:Int):aq Tryz.prog 141 [.int .i64 n,.int .i64 lo,.int .i64 hi] (.bool (iO n lo hi)):=by
 refine aq.body eL rfl fun hl n0=>?_
 clear hl
 by_cases h1:lo<=n
 ·(try((repeat(revert hN;revert N;apply Pn.out));refine wk @h1 ?_;(repeat(refine Pn.mk ?_;intro N hN))))
  exact aX (b:=decide (n<=hi)) (.inl rfl) (sd @Nat.zero_add) (by simp[iO,h1])
 ·(try((repeat(revert hN;revert N;apply Pn.out));refine wk @h1 ?_;(repeat(refine Pn.mk ?_;intro N hN))))
  exact aX (b:=false) (.inl rfl) (sd @Nat.zero_add) (by simp[iO,h1])
theorem Jj (d:Int):aq Tryz.prog 173 [.int .i64 d] (.bool (iO d 0 3)):=by
 refine aq.body eL rfl fun hl n0=>?_
 clear hl
 have h:=lJ d 0 3
 (repeat(first|((repeat(revert hN;revert N;apply Pn.out));refine wk @Nat.zero_add ?_;(repeat(refine Pn.mk ?_;intro N hN)))|((try apply Or.inl);refine⟨_,aq.x (h) (sd @Nat.zero_add),?_⟩;refine hN _ _ ?_;clear hN N)))
 exact aX (b:=iO d 0 3) (.inl rfl) (sd @Nat.zero_add) rfl
theorem v7 (p:ad):aq Tryz.prog 123 [.agg (ab p)] (.bool (zZ p)):=by
 refine aq.body eL rfl fun hl n0=>?_
 clear hl
 have h1:=lJ p.eI (-60) 60
 have h2:=lJ p.eF (-60) 60
 by_cases q:iO p.eI (-60) 60=true
 ·rw[q]at h1
  (repeat(first|((repeat(revert hN;revert N;apply Pn.out));refine wk @ab.eq_1 ?_;(repeat(refine Pn.mk ?_;intro N hN)))|((try apply Or.inl);refine⟨_,aq.x (h1) (sd @ab.eq_1),?_⟩;refine hN _ _ ?_;clear hN N)|((try apply Or.inl);refine⟨_,aq.x (h2) (sd @ab.eq_1),?_⟩;refine hN _ _ ?_;clear hN N)))
  exact aX (b:=iO p.eF (-60) 60) (.inl rfl) (sd @Nat.zero_add) (by rw[zZ,q];rfl)
 ·rw[Bool.not_eq_true]at q
  rw[q]at h1
  (repeat(first|((repeat(revert hN;revert N;apply Pn.out));refine wk @ab.eq_1 ?_;(repeat(refine Pn.mk ?_;intro N hN)))|((try apply Or.inl);refine⟨_,aq.x (h1) (sd @ab.eq_1),?_⟩;refine hN _ _ ?_;clear hN N)|((try apply Or.inl);refine⟨_,aq.x (h2) (sd @ab.eq_1),?_⟩;refine hN _ _ ?_;clear hN N)))
  exact aX (b:=false) (.inl rfl) (sd @Nat.zero_add) (by rw[zZ,q];rfl)
theorem rC (p:ad):aq Tryz.prog 140 [.agg (ab p)] (.bool (zZ p)):=by
 refine aq.body eL rfl fun hl n0=>?_
 clear hl
 have h1:=lj p.eI (-60) 60
 have h2:=lj p.eF (-60) 60
 by_cases q:iO p.eI (-60) 60=true
 ·rw[q]at h1
  (repeat(first|((repeat(revert hN;revert N;apply Pn.out));refine wk @ab.eq_1 ?_;(repeat(refine Pn.mk ?_;intro N hN)))|((try apply Or.inl);refine⟨_,aq.x (h1) (sd @ab.eq_1),?_⟩;refine hN _ _ ?_;clear hN N)|((try apply Or.inl);refine⟨_,aq.x (h2) (sd @ab.eq_1),?_⟩;refine hN _ _ ?_;clear hN N)))
  exact aX (b:=iO p.eF (-60) 60) (.inl rfl) (sd @Nat.zero_add) (by rw[zZ,q];rfl)
 ·rw[Bool.not_eq_true]at q
  rw[q]at h1
  (repeat(first|((repeat(revert hN;revert N;apply Pn.out));refine wk @ab.eq_1 ?_;(repeat(refine Pn.mk ?_;intro N hN)))|((try apply Or.inl);refine⟨_,aq.x (h1) (sd @ab.eq_1),?_⟩;refine hN _ _ ?_;clear hN N)|((try apply Or.inl);refine⟨_,aq.x (h2) (sd @ab.eq_1),?_⟩;refine hN _ _ ?_;clear hN N)))
  exact aX (b:=false) (.inl rfl) (sd @Nat.zero_add) (by rw[zZ,q];rfl)
def kF (d:Int):Int:=if iO d 0 3 then(d+2) % 4 else -1
def bd (p:ad) (d:Int):ad:=
 if d=0 then⟨p.eI,p.eF+1⟩else if d=1 then⟨p.eI+1,p.eF⟩else if d=2 then⟨p.eI,p.eF-1⟩else if d=3 then⟨p.eI-1,p.eF⟩else p
def iB (n:Int):Prop:=-4611686018427387904<=n/\n<=4611686018427387904
theorem s8 (p:ad) (d:Int) (hd:iO d 0 3=true) (hx:iB p.eI) (hy:iB p.eF):aq Tryz.prog 122 [.agg (ab p),.int .i64 d] (.agg (ab (bd p d))):=by
 refine aq.body eL rfl fun hl n0=>?_
 clear hl
 obtain⟨x1,x2⟩:=hx
 obtain⟨y1,y2⟩:=hy
 have w1:IntKind.i64.wrap (p.eI+1)=p.eI+1:=bx (by omega)
 have w2:IntKind.i64.wrap (p.eI-1)=p.eI-1:=bx (by omega)
 have w3:IntKind.i64.wrap (p.eF+1)=p.eF+1:=bx (by omega)
 have w4:IntKind.i64.wrap (p.eF-1)=p.eF-1:=bx (by omega)
 have hb:=eu hd
 have hc:d=0∨d=1∨d=2∨d=3:=by omega
 rcases hc with rfl|rfl|rfl|rfl
 ·(try((repeat(revert hN;revert N;apply Pn.out));refine wk (tw @ab.eq_1 @w3) ?_;(repeat(refine Pn.mk ?_;intro N hN))))
  exact qf (.inl rfl) (vs:=[.agg (ab (bd p 0))]) (by simp only[go_sem, ↓reduceIte,Nat.reduceEqDiff,Nat.reduceAdd,Nat.reduceSub,Nat.reduceLeDiff,reduceCtorEq,fq,iu,ab,bd]) (by simp[fe,ab,gy,ew])
 ·(try((repeat(revert hN;revert N;apply Pn.out));refine wk (tw @ab.eq_1 @w1) ?_;(repeat(refine Pn.mk ?_;intro N hN))))
  exact qf (.inl rfl) (vs:=[.agg (ab (bd p 1))]) (by simp[fq,iu,ab,bd,ld,rowAt,bF,upd,part]) (by simp[fe,ab,gy,ew])
 ·(try((repeat(revert hN;revert N;apply Pn.out));refine wk (tw @ab.eq_1 @w4) ?_;(repeat(refine Pn.mk ?_;intro N hN))))
  exact qf (.inl rfl) (vs:=[.agg (ab (bd p 2))]) (by simp[fq,iu,ab,bd,ld,rowAt,bF,upd,part]) (by simp[fe,ab,gy,ew])
 ·(try((repeat(revert hN;revert N;apply Pn.out));refine wk (tw @ab.eq_1 @w2) ?_;(repeat(refine Pn.mk ?_;intro N hN))))
  exact qf (.inl rfl) (vs:=[.agg (ab (bd p 3))]) (by simp[fq,iu,ab,bd,ld,rowAt,bF,upd,part]) (by simp[fe,ab,gy,ew])
theorem zY (p p2:ad) (x y:Int) (hx:IntKind.i64.wrap (p.eI+p2.eI)=x) (hy:IntKind.i64.wrap (p.eF+p2.eF)=y):aq Tryz.prog 184 [.agg (ab p),.agg (ab p2)] (.agg [.int .i64 x,.int .i64 y]):=by
 refine aq.body eL rfl fun hl n0=>?_
 clear hl
 (try((repeat(revert hN;revert N;apply Pn.out));refine wk (tw @ab.eq_1 (tw @hx @hy)) ?_;(repeat(refine Pn.mk ?_;intro N hN))))
 exact qf (.inl rfl) (vs:=[.agg [.int .i64 x,.int .i64 y]]) (by simp only[go_sem, ↓reduceIte,Nat.reduceEqDiff,Nat.reduceAdd,Nat.reduceSub,Nat.reduceLeDiff,reduceCtorEq,fq,iu,ab]) (by simp[fe,gy,ew])
theorem ED (p:ad) (d:Int) (hd:iO d 0 3=true) (hx:iB p.eI) (hy:iB p.eF):aq Tryz.prog 149 [.agg (ab p),.int .i64 d] (.agg (ab (bd p d))):=by
 refine aq.body eL rfl fun hl n0=>?_
 clear hl
 obtain⟨x1,x2⟩:=hx
 obtain⟨y1,y2⟩:=hy
 have hb:=eu hd
 have hc:d=0∨d=1∨d=2∨d=3:=by omega
 rcases hc with rfl|rfl|rfl|rfl
 ·have h:=zY p ⟨0,1⟩ (p.eI) (p.eF+1) (by rw[bx (by constructor<;>simp only<;>omega)]<;>(try simp only)<;>(try omega)) (by rw[bx (by constructor<;>simp only<;>omega)]<;>(try simp only)<;>(try omega))
  simp only[ab]at h
  (repeat(first|((repeat(revert hN;revert N;apply Pn.out));refine wk @ab.eq_1 ?_;(repeat(refine Pn.mk ?_;intro N hN)))|((try apply Or.inl);refine⟨_,aq.x (h) (sd @ab.eq_1),?_⟩;refine hN _ _ ?_;clear hN N)))
  exact qf (.inl rfl) (vs:=[.agg (ab (bd p 0))]) (by simp[fq,iu,ab,bd,ld,rowAt,bF,upd,part]) (by simp[fe,ab,gy,ew])
 ·have h:=zY p ⟨1,0⟩ (p.eI+1) (p.eF) (by rw[bx (by constructor<;>simp only<;>omega)]<;>(try simp only)<;>(try omega)) (by rw[bx (by constructor<;>simp only<;>omega)]<;>(try simp only)<;>(try omega))
  simp only[ab]at h
  (repeat(first|((repeat(revert hN;revert N;apply Pn.out));refine wk @ab.eq_1 ?_;(repeat(refine Pn.mk ?_;intro N hN)))|((try apply Or.inl);refine⟨_,aq.x (h) (sd @ab.eq_1),?_⟩;refine hN _ _ ?_;clear hN N)))
  exact qf (.inl rfl) (vs:=[.agg (ab (bd p 1))]) (by simp[fq,iu,ab,bd,ld,rowAt,bF,upd,part]) (by simp[fe,ab,gy,ew])
 ·have h:=zY p ⟨0,(-1)⟩ (p.eI) (p.eF-1) (by rw[bx (by constructor<;>simp only<;>omega)]<;>(try simp only)<;>(try omega)) (by rw[bx (by constructor<;>simp only<;>omega)]<;>(try simp only)<;>(try omega))
  simp only[ab]at h
  (repeat(first|((repeat(revert hN;revert N;apply Pn.out));refine wk @ab.eq_1 ?_;(repeat(refine Pn.mk ?_;intro N hN)))|((try apply Or.inl);refine⟨_,aq.x (h) (sd @ab.eq_1),?_⟩;refine hN _ _ ?_;clear hN N)))
  exact qf (.inl rfl) (vs:=[.agg (ab (bd p 2))]) (by simp[fq,iu,ab,bd,ld,rowAt,bF,upd,part]) (by simp[fe,ab,gy,ew])
 ·have h:=zY p ⟨(-1),0⟩ (p.eI-1) (p.eF) (by rw[bx (by constructor<;>simp only<;>omega)]<;>(try simp only)<;>(try omega)) (by rw[bx (by constructor<;>simp only<;>omega)]<;>(try simp only)<;>(try omega))
  simp only[ab]at h
  (repeat(first|((repeat(revert hN;revert N;apply Pn.out));refine wk @ab.eq_1 ?_;(repeat(refine Pn.mk ?_;intro N hN)))|((try apply Or.inl);refine⟨_,aq.x (h) (sd @ab.eq_1),?_⟩;refine hN _ _ ?_;clear hN N)))
  exact qf (.inl rfl) (vs:=[.agg (ab (bd p 3))]) (by simp[fq,iu,ab,bd,ld,rowAt,bF,upd,part]) (by simp[fe,ab,gy,ew])
theorem Eh (d:Int) (hd:iO d 0 3=true):aq Tryz.prog 153 [.int .i64 d] (.int .i64 (kF d)):=by
 refine aq.body eL rfl fun hl n0=>?_
 clear hl
 have hb:=eu hd
 have hw:IntKind.i64.wrap (d+2)=d+2:=bx (by omega)
 have ht:Int.tmod (d+2) 4=(d+2) % 4:=Int.tmod_eq_emod_of_nonneg (by omega)
 have h4:¬((4:Int)=0):=by omega
 (try((repeat(revert hN;revert N;apply Pn.out));refine wk (tw @hw (tw @ht @h4)) ?_;(repeat(refine Pn.mk ?_;intro N hN))))
 exact cD (b:=(d+2) % 4) (.inl rfl) (sd @Nat.zero_add) (by rw[kF,if_pos hd])
theorem uY (d:Int) (hd:iO d 0 3=true):aq Tryz.prog 125 [.int .i64 d] (.int .i64 (kF d)):=by
 refine aq.body eL rfl fun hl n0=>?_
 clear hl
 have hb:=eu hd
 have hw:IntKind.i64.wrap (d+2)=d+2:=bx (by omega)
 have ht:Int.tmod (d+2) 4=(d+2) % 4:=Int.tmod_eq_emod_of_nonneg (by omega)
 have h4:¬((4:Int)=0):=by omega
 have h:=Jj d
 rw[hd]at h
 (repeat(first|((repeat(revert hN;revert N;apply Pn.out));refine wk (tw @hw (tw @ht @h4)) ?_;(repeat(refine Pn.mk ?_;intro N hN)))|((try apply Or.inl);refine⟨_,aq.x (h) (sd (tw @hw (tw @ht @h4))),?_⟩;refine hN _ _ ?_;clear hN N)))
 exact cD (b:=(d+2) % 4) (.inl rfl) (sd @Nat.zero_add) (by rw[kF,if_pos hd])
def eQ (s:au) (t:Int):Bool:=iO t 0 ((s.ah.length:Int)-1)
theorem D6 (s:au) (t:Int):aq Tryz.prog 136 [.dm (aa s),.int .i64 t] (.bool (eQ s t)):=by
 refine aq.body eL rfl fun hl n0=>?_
 have hn:s.ah.length<=9223372036854775807:=by
  have h1:=(hl (.dm (aa s)) (by simp)).BR (a:=.sl (s.ah.map bp)) (by simp[aa])
  simpa using h1.len
 clear hl
 have hw:IntKind.i64.wrap ((s.ah.length:Int)-1)=(s.ah.length:Int)-1:=bx (by omega)
 have h:=lJ t 0 ((s.ah.length:Int)-1)
 (repeat(first|((repeat(revert hN;revert N;apply Pn.out));refine wk (tw @aa.eq_1 @hw) ?_;(repeat(refine Pn.mk ?_;intro N hN)))|((try apply Or.inl);refine⟨_,aq.x (h) (sd (tw @aa.eq_1 @hw)),?_⟩;refine hN _ _ ?_;clear hN N)))
 exact aX (b:=eQ s t) (.inl rfl) (by simp only[go_sem, ↓reduceIte,Nat.reduceEqDiff,Nat.reduceAdd,Nat.reduceSub,Nat.reduceLeDiff,reduceCtorEq,eQ]) rfl
theorem yC (t n:Int) (h0:0<=n) (h1:n<=9223372036854775807):aq Tryz.prog 139 [.int .i64 t,.int .i64 n] (.bool (iO t 0 (n-1))):=by
 refine aq.body eL rfl fun hl n0=>?_
 clear hl
 have hw:IntKind.i64.wrap (n-1)=n-1:=bx (by omega)
 have h:=lj t 0 (n-1)
 (repeat(first|((repeat(revert hN;revert N;apply Pn.out));refine wk @hw ?_;(repeat(refine Pn.mk ?_;intro N hN)))|((try apply Or.inl);refine⟨_,aq.x (h) (sd @hw),?_⟩;refine hN _ _ ?_;clear hN N)))
 exact aX (b:=iO t 0 (n-1)) (.inl rfl) (sd @Nat.zero_add) rfl
theorem Jg (s:au) (t:Int):aq Tryz.prog 83 [.agg (aa s),.int .i64 t] (.bool (eQ s t)):=by
 refine aq.body eL rfl fun hl n0=>?_
 have hn:s.ah.length<=9223372036854775807:=by
  have h1:=(hl (.agg (aa s)) (by simp)).NS (a:=.sl (s.ah.map bp)) (by simp[aa])
  simpa using h1.len
 clear hl
 have h:=yC t s.ah.length (by omega) (by omega)
 (repeat(first|((repeat(revert hN;revert N;apply Pn.out));refine wk @aa.eq_1 ?_;(repeat(refine Pn.mk ?_;intro N hN)))|((try apply Or.inl);refine⟨_,aq.x (h) (sd @aa.eq_1),?_⟩;refine hN _ _ ?_;clear hN N)))
 exact aX (b:=eQ s t) (.inl rfl) (by simp only[go_sem, ↓reduceIte,Nat.reduceEqDiff,Nat.reduceAdd,Nat.reduceSub,Nat.reduceLeDiff,reduceCtorEq,eQ]) rfl
def zW:eR:=⟨⟨#[]⟩,[]⟩
def dh (s:au) (t:Int):eR:=s.ah.getD t.toNat zW
def de (t:eR) (d:Int):Int:=t.br.getD d.toNat 0
def qD (s:au) (g:Int):fy:=s.ax.getD g.toNat ⟨⟨#[]⟩,0⟩
def p7 (s:au) (g:Int):Int:=if g=0 then 0 else(qD s (g-1)).ez
def gS (s:au) (a d b:Int):Int:=if de (dh s a) d=de (dh s b) (kF d)then p7 s (de (dh s a) d)else 0
structure je (s:au):Prop where
 qi:∀t∈s.ah,t.br.length=4
 tK:∀t∈s.ah,∀g∈t.br,0<=g/\g<=s.ax.length
theorem getD_map {α β:Type} (e:α->β) {l:List α} {k:Nat} {d:α} (h:k<l.length):(l.map e)[k]? =some (e (l.getD k d)):=by simp[List.getD_eq_getElem?_getD,h]
theorem qe (s:au) (g:Int) (h0:0<=g) (h1:g<=s.ax.length):aq Tryz.prog 126 [.dm (aa s),.int .i64 g] (.int .i64 (p7 s g)):=by
 refine aq.body eL rfl fun hl n0=>?_
 have hn:s.ax.length<=9223372036854775807:=by
  have h1:=(hl (.dm (aa s)) (by simp)).BR (a:=.sl (s.ax.map bP)) (by simp[aa])
  simpa using h1.len
 clear hl
 by_cases hg:g=0
 ·have e:decide (g=0)=true:=decide_eq_true hg
  (try((repeat(revert hN;revert N;apply Pn.out));refine wk (tw @aa.eq_1 @e) ?_;(repeat(refine Pn.mk ?_;intro N hN))))
  exact cD (b:=0) (.inl rfl) (sd @Nat.zero_add) (by rw[p7,if_pos hg])
 ·have e:decide (g=0)=false:=decide_eq_false hg
  have hw:IntKind.i64.wrap (g-1)=g-1:=bx (by omega)
  have qG:0<=g-1:=by omega
  have eZ:(s.ax.map bP)[(g-1).toNat]? =some (bP (qD s (g-1))):=getD_map bP (by omega)
  (try((repeat(revert hN;revert N;apply Pn.out));refine wk (tw @aa.eq_1 (tw @e (tw @hw (tw @qG (tw @eZ @bP.eq_1))))) ?_;(repeat(refine Pn.mk ?_;intro N hN))))
  exact cD (b:=(qD s (g-1)).ez) (.inl rfl) (sd @Nat.zero_add) (by rw[p7,if_neg hg])
theorem kb {s:au} {a:Int} (h:eQ s a=true):0<=a/\(s.ah.map bp)[a.toNat]? =some (bp (dh s a))/\dh s a∈s.ah:=by
 have h':=eu h
 have dR:a.toNat<s.ah.length:=by omega
 refine⟨h'.1,getD_map bp dR,?_⟩
 unfold dh
 rw[List.getD_eq_getElem?_getD,List.getElem?_eq_getElem dR]
 exact List.getElem_mem dR
theorem lf {t:eR} {d:Int} (h:t.br.length=4) (hd:iO d 0 3=true):(t.br.map aw)[d.toNat]? =some [.int .i64 (de t d)]:=by
 have:=eu hd
 exact getD_map aw (by omega)
theorem w5 {t:eR} {d:Int} (h:t.br.length=4) (hd:iO d 0 3=true):de t d∈t.br:=by
 have:=eu hd
 have dR:d.toNat<t.br.length:=by omega
 unfold de
 rw[List.getD_eq_getElem?_getD,List.getElem?_eq_getElem dR]
 exact List.getElem_mem dR
theorem qV {d:Int} (hd:iO d 0 3=true):iO (kF d) 0 3=true:=by
 have:=eu hd
 refine jL ?_
 rw[kF,if_pos hd];omega
theorem GN (s:au) (hF:je s) (a d b:Int) (ha:eQ s a=true) (hb:eQ s b=true) (hd:iO d 0 3=true):aq Tryz.prog 147 [.dm (aa s),.int .i64 a,.int .i64 d,.int .i64 b] (.int .i64 (gS s a d b)):=by
 refine aq.body eL rfl fun hl n0=>?_
 clear hl
 obtain⟨a0,a1,a2⟩:=kb ha
 obtain⟨b0,b1,b2⟩:=kb hb
 have s1:=lf (hF.qi _ a2) hd
 have s2:=lf (hF.qi _ b2) (qV hd)
 have gl:=hF.tK _ a2 _ (w5 (hF.qi _ a2) hd)
 have d0:=(eu hd).1
 have d1:=(eu (qV hd)).1
 have h:=uY d hd
 have hs:=qe s (de (dh s a) d) gl.1 gl.2
 rw[aa]at hs
 by_cases e:de (dh s a) d=de (dh s b) (kF d)
 ·have e':decide (de (dh s a) d=de (dh s b) (kF d))=true:=decide_eq_true e
  (repeat(first|((repeat(revert hN;revert N;apply Pn.out));refine wk (tw @aa.eq_1 (tw @bp.eq_1 (tw @a0 (tw @a1 (tw @b0 (tw @b1 (tw @s1 (tw @s2 (tw @d0 (tw @d1 @e')))))))))) ?_;(repeat(refine Pn.mk ?_;intro N hN)))|((try apply Or.inl);refine⟨_,aq.x (h) (sd (tw @aa.eq_1 (tw @bp.eq_1 (tw @a0 (tw @a1 (tw @b0 (tw @b1 (tw @s1 (tw @s2 (tw @d0 (tw @d1 @e'))))))))))),?_⟩;refine hN _ _ ?_;clear hN N)|((try apply Or.inl);refine⟨_,aq.x (hs) (sd (tw @aa.eq_1 (tw @bp.eq_1 (tw @a0 (tw @a1 (tw @b0 (tw @b1 (tw @s1 (tw @s2 (tw @d0 (tw @d1 @e'))))))))))),?_⟩;refine hN _ _ ?_;clear hN N)))
  exact cD (b:=p7 s (de (dh s a) d)) (.inl rfl) (sd @Nat.zero_add) (by rw[gS,if_pos e])
 ·have e':decide (de (dh s a) d=de (dh s b) (kF d))=false:=decide_eq_false e
  (repeat(first|((repeat(revert hN;revert N;apply Pn.out));refine wk (tw @aa.eq_1 (tw @bp.eq_1 (tw @a0 (tw @a1 (tw @b0 (tw @b1 (tw @s1 (tw @s2 (tw @d0 (tw @d1 @e')))))))))) ?_;(repeat(refine Pn.mk ?_;intro N hN)))|((try apply Or.inl);refine⟨_,aq.x (h) (sd (tw @aa.eq_1 (tw @bp.eq_1 (tw @a0 (tw @a1 (tw @b0 (tw @b1 (tw @s1 (tw @s2 (tw @d0 (tw @d1 @e'))))))))))),?_⟩;refine hN _ _ ?_;clear hN N)))
  exact cD (b:=0) (.inl rfl) (sd @Nat.zero_add) (by rw[gS,if_neg e])
theorem EG (s:au) (hF:je s) (a d:Int) (ha:eQ s a=true) (hd:iO d 0 3=true):aq Tryz.prog 185 [.agg (aa s),.int .i64 a,.int .i64 d] (.int .i64 (p7 s (de (dh s a) d))):=by
 refine aq.body eL rfl fun hl n0=>?_
 have hn:s.ax.length<=9223372036854775807:=by
  have h1:=(hl (.agg (aa s)) (by simp)).NS (a:=.sl (s.ax.map bP)) (by simp[aa])
  simpa using h1.len
 clear hl
 obtain⟨a0,a1,a2⟩:=kb ha
 have s1:=lf (hF.qi _ a2) hd
 have gl:=hF.tK _ a2 _ (w5 (hF.qi _ a2) hd)
 have d0:=(eu hd).1
 by_cases hg:de (dh s a) d=0
 ·have e:¬(0<de (dh s a) d):=by omega
  (try((repeat(revert hN;revert N;apply Pn.out));refine wk (tw @aa.eq_1 (tw @bp.eq_1 (tw @a0 (tw @a1 (tw @s1 (tw @d0 @e)))))) ?_;(repeat(refine Pn.mk ?_;intro N hN))))
  exact cD (b:=0) (.inl rfl) (sd @Nat.zero_add) (by rw[p7,if_pos hg])
 ·have e:0<de (dh s a) d:=by omega
  have hw:IntKind.i64.wrap (de (dh s a) d-1)=de (dh s a) d-1:=bx (by omega)
  have qG:0<=de (dh s a) d-1:=by omega
  have eZ:(s.ax.map bP)[(de (dh s a) d-1).toNat]? =some (bP (qD s (de (dh s a) d-1))):=getD_map bP (by omega)
  (try((repeat(revert hN;revert N;apply Pn.out));refine wk (tw @aa.eq_1 (tw @bp.eq_1 (tw @a0 (tw @a1 (tw @s1 (tw @d0 (tw @e (tw @hw (tw @qG (tw @eZ @bP.eq_1)))))))))) ?_;(repeat(refine Pn.mk ?_;intro N hN))))
  exact cD (b:=(qD s (de (dh s a) d-1)).ez) (.inl rfl) (sd @Nat.zero_add) (by rw[p7,if_neg hg])
theorem Ik (s:au) (hF:je s) (a d b:Int) (ha:eQ s a=true) (hb:eQ s b=true) (hd:iO d 0 3=true):aq Tryz.prog 150 [.agg (aa s),.int .i64 a,.int .i64 d,.int .i64 b] (.int .i64 (gS s a d b)):=by
 refine aq.body eL rfl fun hl n0=>?_
 clear hl
 obtain⟨a0,a1,a2⟩:=kb ha
 obtain⟨b0,b1,b2⟩:=kb hb
 have s1:=lf (hF.qi _ a2) hd
 have s2:=lf (hF.qi _ b2) (qV hd)
 have d0:=(eu hd).1
 have d1:=(eu (qV hd)).1
 have h:=Eh d hd
 have hs:=EG s hF a d ha hd
 rw[aa]at hs
 by_cases e:de (dh s a) d=de (dh s b) (kF d)
 ·have e':decide (de (dh s a) d=de (dh s b) (kF d))=true:=decide_eq_true e
  (repeat(first|((repeat(revert hN;revert N;apply Pn.out));refine wk (tw @aa.eq_1 (tw @bp.eq_1 (tw @a0 (tw @a1 (tw @b0 (tw @b1 (tw @s1 (tw @s2 (tw @d0 (tw @d1 @e')))))))))) ?_;(repeat(refine Pn.mk ?_;intro N hN)))|((try apply Or.inl);refine⟨_,aq.x (h) (sd (tw @aa.eq_1 (tw @bp.eq_1 (tw @a0 (tw @a1 (tw @b0 (tw @b1 (tw @s1 (tw @s2 (tw @d0 (tw @d1 @e'))))))))))),?_⟩;refine hN _ _ ?_;clear hN N)|((try apply Or.inl);refine⟨_,aq.x (hs) (sd (tw @aa.eq_1 (tw @bp.eq_1 (tw @a0 (tw @a1 (tw @b0 (tw @b1 (tw @s1 (tw @s2 (tw @d0 (tw @d1 @e'))))))))))),?_⟩;refine hN _ _ ?_;clear hN N)))
  exact cD (b:=p7 s (de (dh s a) d)) (.inl rfl) (sd @Nat.zero_add) (by rw[gS,if_pos e])
 ·have e':decide (de (dh s a) d=de (dh s b) (kF d))=false:=decide_eq_false e
  (repeat(first|((repeat(revert hN;revert N;apply Pn.out));refine wk (tw @aa.eq_1 (tw @bp.eq_1 (tw @a0 (tw @a1 (tw @b0 (tw @b1 (tw @s1 (tw @s2 (tw @d0 (tw @d1 @e')))))))))) ?_;(repeat(refine Pn.mk ?_;intro N hN)))|((try apply Or.inl);refine⟨_,aq.x (h) (sd (tw @aa.eq_1 (tw @bp.eq_1 (tw @a0 (tw @a1 (tw @b0 (tw @b1 (tw @s1 (tw @s2 (tw @d0 (tw @d1 @e'))))))))))),?_⟩;refine hN _ _ ?_;clear hN N)))
  exact cD (b:=0) (.inl rfl) (sd @Nat.zero_add) (by rw[gS,if_neg e])
def pQ (s:au) (i:Nat):fy:=s.ax.getD i ⟨⟨#[]⟩,0⟩
def o8 (s:au) (i:Nat):eR:=s.ah.getD i zW
def CV (s:au) (i:Nat):Prop:=jI (pQ s i).aE=true/\iO (pQ s i).ez 1 4=true/\∀j,j<i->(pQ s j).aE≠(pQ s i).aE
def AK (s:au) (i:Nat):Prop:=jI (o8 s i).aE=true/\(o8 s i).br.length=4/\(∀j,j<i->(o8 s j).aE≠(o8 s i).aE)/\∀g∈(o8 s i).br,iO g 0 s.ax.length=true
structure iH (s:au):Prop where
 tK:s.ax.length<=200
 some:1<=s.ah.length
 yW:s.ah.length<=160
 SH:∀i,i<s.ax.length->CV s i
 tok:∀i,i<s.ah.length->AK s i
noncomputable def q9 (s:au):Bool:=@decide (iH s) (Classical.propDecidable _)
theorem mm {s:au}:q9 s=true↔iH s:=by simp[q9]
theorem fE {s:au} (h:¬iH s):false=q9 s:=by simp[q9,h]
theorem Co {s:au} (h:iH s):true=q9 s:=by simp[q9,h]
theorem Ak {s:au} {i:Nat} (h:i<s.ah.length):(s.ah.map bp)[i]? =some (bp (o8 s i)):=getD_map bp h
theorem zu {s:au} {i:Nat} (h:i<s.ax.length):(s.ax.map bP)[i]? =some (bP (pQ s i)):=getD_map bP h
theorem iH.form {s:au} (h:iH s):je s:=by
 have key:∀t∈s.ah,∃i,i<s.ah.length/\t=o8 s i:=fun t ht=>by
  obtain⟨i,hi,rfl⟩:=List.getElem_of_mem ht
  exact⟨i,hi,by simp[o8,List.getD_eq_getElem?_getD,hi]⟩
 refine⟨fun t ht=>?_,fun t ht g hg=>?_⟩
 ·obtain⟨i,hi,rfl⟩:=key t ht
  exact(h.tok i hi).2.1
 ·obtain⟨i,hi,rfl⟩:=key t ht
  exact eu ((h.tok i hi).2.2.2 g hg)
def dw (l:List ByteArray):List (List AV):=l.map fun n=>[.str n,.bool true]
abbrev mS:MK:=⟨false,[.tS]⟩
theorem yS (n:ByteArray):∀(l:List ByteArray) (i:Nat),∃r,gi mS [.str n] (dw l) i=some r/\((r=none/\n∉l)∨∃j,r=some (i+j)/\n∈l/\(dw l)[j]? =some [.str n,.bool true])
 |[],i=>⟨none,rfl,.inl ⟨rfl,by simp⟩⟩
 |m::l,i=>by
  obtain⟨r,h1,h2⟩:=yS n l (i+1)
  by_cases h:n=m
  ·subst h
   exact⟨some i,by simp[dw,gi,eU,fY,MK.ks],.inr ⟨0,rfl,by simp,rfl⟩⟩
  ·refine⟨r,?_,?_⟩
   ·unfold dw at h1 ⊢
    simp only[List.map_cons,gi,MK.ks,List.length_cons,List.length_nil,Nat.zero_add,List.take_succ_cons,List.take_zero,eU,fY,h,decide_false,Bool.and_true]
    exact h1
   ·rcases h2 with⟨rfl,h2⟩|⟨j,rfl,h2,h3⟩
    ·exact .inl ⟨rfl,by simp[h,h2]⟩
    ·exact .inr ⟨j+1,by congr 1;omega,by simp[h2],by simpa[dw]using h3⟩
theorem wY (n:ByteArray) (l:List ByteArray):(n∉l/\fV mS (.str n) (dw l)=some none)∨∃j,n∈l/\fV mS (.str n) (dw l)=some (some j)/\(dw l)[j]? =some [.str n,.bool true]:=by
 obtain⟨r,h1,h2⟩:=yS n l 0
 have e:fV mS (.str n) (dw l)=some r:=by
  unfold fV
  rw[if_pos ⟨rfl,rfl,rfl⟩];exact h1
 rcases h2 with⟨rfl,h2⟩|⟨j,rfl,h2,h3⟩
 ·exact .inl ⟨h2,e⟩
 ·exact .inr ⟨j,h2,by rw[e,Nat.zero_add],h3⟩
theorem Pu (s:au) (g:Int):aq Tryz.prog 200 [.int .i64 g,.dm (aa s)] (.bool (!iO g 0 s.ax.length)):=by
 refine aq.body eL rfl fun hl n0=>?_
 clear hl
 have h:=lj g 0 s.ax.length
 (repeat(first|((repeat(revert hN;revert N;apply Pn.out));refine wk @aa.eq_1 ?_;(repeat(refine Pn.mk ?_;intro N hN)))|((try apply Or.inl);refine⟨_,aq.x (h) (sd @aa.eq_1),?_⟩;refine hN _ _ ?_;clear hN N)))
 exact aX (b:= !iO g 0 s.ax.length) (.inl rfl) (sd @Nat.zero_add) rfl
theorem Le:QE aw (fun c=>.int .i64 c) 1 false:=⟨fun _=>rfl,fun _=>rfl,fun x g=>by rw[ai,aG,ao];rfl⟩
theorem MD (s:au) (l:List Int) (hl:l.length<=1048576):aq Tryz.prog 199 [.sl (l.map aw),.fn 200 [.dm (aa s)]] (.bool (l.any fun g=> !iO g 0 s.ax.length)):=
 oy Le (show mO Tryz.prog 199=some (Dy 199 224) by kernel_rfl)
  (show mO Tryz.prog 224=some (vZ 224 1 false) by kernel_rfl) l hl _ _ _ rfl (fun g=>by rw[ai,aQ,ao];rfl) (fun x _=>Pu s x) fun g=>by rw[ai,aQ,ao];rfl
theorem wC {α:Type} (f:Nat->α) (n k:Nat) (x:α):x∉(List.range k).map f↔∀j,j<k->f j≠x:=by
 constructor
 ·intro h j hj he
  exact h (List.mem_map.2 ⟨j,List.mem_range.2 hj,he⟩)
 ·intro h hm
  obtain⟨j,hj,he⟩:=List.mem_map.1 hm
  exact h j (List.mem_range.1 hj) he
theorem C2 (s:au) (hn:gK s) (hg:s.ax.length<=1048576) (ht:s.ah.length<=1048576) (hs:∀t∈s.ah,t.br.length<=1048576):aq Tryz.prog 164 [.agg (aa s)] (.bool (q9 s)):=by
 refine aq.body eL rfl fun hl n0=>?_
 clear hl
 have Rq:∀i,i<s.ax.length->(pQ s i).aE.size<=9223372036854775807:=fun i hi=>hn.1 _ (by simp[pQ,List.getD_eq_getElem?_getD,hi])
 have RH:∀i,i<s.ah.length->(o8 s i).aE.size<=9223372036854775807:=fun i hi=>hn.2 _ (by simp[o8,List.getD_eq_getElem?_getD,hi])
 have xG:∀i,i<s.ah.length->(o8 s i).br.length<=1048576:=fun i hi=>hs _ (by simp[o8,List.getD_eq_getElem?_getD,hi])
 have hw:=lj (s.ah.length:Int) 1 160
 by_cases h1:(200:Int)<(s.ax.length:Int)
 ·(try((repeat(revert hN;revert N;apply Pn.out));refine wk (tw @aa.eq_1 @h1) ?_;(repeat(refine Pn.mk ?_;intro N hN))))
  exact aX (b:=false) (.inl rfl) (sd @Nat.zero_add) (fE fun h=>by have:=h.tK;omega)
 by_cases h2:iO (s.ah.length:Int) 1 160=true
 ·have CE:=eu h2
  rw[h2]at hw
  (repeat(first|((repeat(revert hN;revert N;apply Pn.out));refine wk (tw @aa.eq_1 @h1) ?_;(repeat(refine Pn.mk ?_;intro N hN)))|((try apply Or.inl);refine⟨_,aq.x (hw) (sd (tw @aa.eq_1 @h1)),?_⟩;refine hN _ _ ?_;clear hN N)))
  refine aM (fun n env st=>∃k:Nat,n=(s.ax.length)-k/\k<=(s.ax.length)/\env 24=.int .i64 (k:Int)/\st.get ⟨164000000,n0⟩=some ⟨true,2,[aa s]⟩/\st.get ⟨164003000,n0+1+1⟩=some ⟨true,mS.lT,dw ((List.range k).map fun i=>(pQ s i).aE)⟩/\(∀j:Nat,j<k->CV s j)) (s.ax.length) ⟨0,by omega,by omega,by(try simp only[go_sem, ↓reduceIte,Nat.reduceEqDiff,Nat.reduceAdd,Nat.reduceSub,Nat.reduceLeDiff,reduceCtorEq,aa,List.range_zero,List.map_nil,dw]);try rfl,by(try simp only[go_sem, ↓reduceIte,Nat.reduceEqDiff,Nat.reduceAdd,Nat.reduceSub,Nat.reduceLeDiff,reduceCtorEq,aa,List.range_zero,List.map_nil,dw]);try rfl,by(try simp only[go_sem, ↓reduceIte,Nat.reduceEqDiff,Nat.reduceAdd,Nat.reduceSub,Nat.reduceLeDiff,reduceCtorEq,aa,List.range_zero,List.map_nil,dw]);try rfl,fun _ h=>absurd h (Nat.not_lt_zero _)⟩ ?_
  rintro n_a env_a st_a ⟨k,rfl,ale,a24,ag0,ag1,kN⟩ di
  have a1:=di 1 (by kernel_rfl);have a3:=di 3 (by kernel_rfl);have a22:=di 22 (by kernel_rfl);have a23:=di 23 (by kernel_rfl)
  simp only[go_sem, ↓reduceIte,Nat.reduceEqDiff,Nat.reduceAdd,Nat.reduceSub,Nat.reduceLeDiff,reduceCtorEq,aa,List.range_zero,List.map_nil,dw]at a1 a3 a22 a23
  clear di
  by_cases hk:(k:Int)<(s.ax.length:Int)
  ·have cz:∀{e:Env} {gg:Rows},(e 24=.int .i64 (IntKind.i64.wrap ((k:Int)+1)))->(gg ⟨164000000,n0⟩=some ⟨true,2,[aa s]⟩)->(gg ⟨164003000,n0+1+1⟩=some ⟨true,mS.lT,dw ((List.range (k+1)).map fun i=>(pQ s i).aE)⟩)->(CV s k)->∃m0,m0<(s.ax.length)-k/\∃k:Nat,m0=(s.ax.length)-k/\k<=(s.ax.length)/\e 24=.int .i64 (k:Int)/\gg ⟨164000000,n0⟩=some ⟨true,2,[aa s]⟩/\gg ⟨164003000,n0+1+1⟩=some ⟨true,mS.lT,dw ((List.range k).map fun i=>(pQ s i).aE)⟩/\(∀j:Nat,j<k->CV s j):=fun x1 x2 x3 x4=>⟨_,by omega,k+1,rfl,by omega,(by rw[x1,az (by omega)]),x2,x3,(all_succ kN x4)⟩
   have eX:k<s.ax.length:=by omega
   have eM:=zu eX
   have qH:=Fz (pQ s k).aE (Rq k eX)
   have KM:=lj (pQ s k).ez 1 4
   have BF:=wY (pQ s k).aE ((List.range k).map fun i=>(pQ s i).aE)
   rw[wC _ k]at BF
   have lr:(¬CV s k)->¬iH s:=fun h hp=>h (hp.SH k eX)
   generalize sF:pQ s k=gl at *
   cases hb:jI gl.aE
   ·rw[hb]at qH
    (repeat(first|((repeat(revert hN;revert N;apply Pn.out));refine wk (tw @a24 (tw @ag0 (tw @ag1 (tw @a1 (tw @a3 (tw @a22 (tw @a23 (tw @hk (tw @eM (tw @bP.eq_1 @aa.eq_1)))))))))) ?_;(repeat(refine Pn.mk ?_;intro N hN)))|((try apply Or.inl);refine⟨_,aq.x (qH) (sd (tw @a24 (tw @ag0 (tw @ag1 (tw @a1 (tw @a3 (tw @a22 (tw @a23 (tw @hk (tw @eM (tw @bP.eq_1 @aa.eq_1))))))))))),?_⟩;refine hN _ _ ?_;clear hN N)))
    exact aX (b:=false) (.inl rfl) (sd @Nat.zero_add) (fE (lr fun h=>by rw[CV,sF,hb]at h;cases h.1))
   ·rw[hb]at qH
    rcases BF with⟨DJ,mE⟩|⟨j,fU,mE,e6⟩
    ·cases dL:iO gl.ez 1 4
     ·rw[dL]at KM
      (repeat(first|((repeat(revert hN;revert N;apply Pn.out));refine wk (tw @a24 (tw @ag0 (tw @ag1 (tw @a1 (tw @a3 (tw @a22 (tw @a23 (tw @hk (tw @eM (tw @mE (tw @bP.eq_1 @aa.eq_1))))))))))) ?_;(repeat(refine Pn.mk ?_;intro N hN)))|((try apply Or.inl);refine⟨_,aq.x (qH) (sd (tw @a24 (tw @ag0 (tw @ag1 (tw @a1 (tw @a3 (tw @a22 (tw @a23 (tw @hk (tw @eM (tw @mE (tw @bP.eq_1 @aa.eq_1)))))))))))),?_⟩;refine hN _ _ ?_;clear hN N)|((try apply Or.inl);refine⟨_,aq.x (KM) (sd (tw @a24 (tw @ag0 (tw @ag1 (tw @a1 (tw @a3 (tw @a22 (tw @a23 (tw @hk (tw @eM (tw @mE (tw @bP.eq_1 @aa.eq_1)))))))))))),?_⟩;refine hN _ _ ?_;clear hN N)))
      exact aX (b:=false) (.inl rfl) (sd @Nat.zero_add) (fE (lr fun h=>by rw[CV,sF,dL]at h;cases h.2.1))
     ·rw[dL]at KM
      have pj:dw ((List.range k).map fun i=>(pQ s i).aE)++[[.str gl.aE,.bool true]]=dw (List.map (fun i=>(pQ s i).aE) (List.range k++[k])):=by simp[dw,sF]
      (repeat(first|((repeat(revert hN;revert N;apply Pn.out));refine wk (tw @a24 (tw @ag0 (tw @ag1 (tw @a1 (tw @a3 (tw @a22 (tw @a23 (tw @hk (tw @eM (tw @mE (tw @bP.eq_1 @aa.eq_1))))))))))) ?_;(repeat(refine Pn.mk ?_;intro N hN)))|((try apply Or.inl);refine⟨_,aq.x (qH) (sd (tw @a24 (tw @ag0 (tw @ag1 (tw @a1 (tw @a3 (tw @a22 (tw @a23 (tw @hk (tw @eM (tw @mE (tw @bP.eq_1 @aa.eq_1)))))))))))),?_⟩;refine hN _ _ ?_;clear hN N)|((try apply Or.inl);refine⟨_,aq.x (KM) (sd (tw @a24 (tw @ag0 (tw @ag1 (tw @a1 (tw @a3 (tw @a22 (tw @a23 (tw @hk (tw @eM (tw @mE (tw @bP.eq_1 @aa.eq_1)))))))))))),?_⟩;refine hN _ _ ?_;clear hN N)))
      refine cz ?_ ?_ ?_ (⟨by rw[sF];exact hb,by rw[sF];exact dL,fun j hj=>by rw[sF];exact DJ j hj⟩)
      all_goals simp only[go_sem, ↓reduceIte,Nat.reduceEqDiff,Nat.reduceAdd,Nat.reduceSub,Nat.reduceLeDiff,reduceCtorEq,a24,ag0,ag1,a1,a3,a22,a23,mE,pj]
    ·(repeat(first|((repeat(revert hN;revert N;apply Pn.out));refine wk (tw @a24 (tw @ag0 (tw @ag1 (tw @a1 (tw @a3 (tw @a22 (tw @a23 (tw @hk (tw @eM (tw @mE (tw @e6 (tw @bP.eq_1 @aa.eq_1)))))))))))) ?_;(repeat(refine Pn.mk ?_;intro N hN)))|((try apply Or.inl);refine⟨_,aq.x (qH) (sd (tw @a24 (tw @ag0 (tw @ag1 (tw @a1 (tw @a3 (tw @a22 (tw @a23 (tw @hk (tw @eM (tw @mE (tw @e6 (tw @bP.eq_1 @aa.eq_1))))))))))))),?_⟩;refine hN _ _ ?_;clear hN N)))
     exact aX (b:=false) (.inl rfl) (sd @Nat.zero_add) (fE (lr fun h=>by
      rw[CV,sF]at h
      obtain⟨i,hi,he⟩:=List.mem_map.1 fU
      exact h.2.2 i (List.mem_range.1 hi) he))
  ·have kH:k=s.ax.length:=by omega
   (try((repeat(revert hN;revert N;apply Pn.out));refine wk (tw @a24 (tw @ag0 (tw @ag1 (tw @a1 (tw @a3 (tw @a22 (tw @a23 (tw @hk @aa.eq_1)))))))) ?_;(repeat(refine Pn.mk ?_;intro N hN))))
   refine aM (fun n env st=>∃j:Nat,n=(s.ah.length)-j/\j<=(s.ah.length)/\env 52=.int .i64 (j:Int)/\st.get ⟨164000000,n0⟩=some ⟨true,2,[aa s]⟩/\st.get ⟨164011000,st_a.next+1⟩=some ⟨true,mS.lT,dw ((List.range j).map fun i=>(o8 s i).aE)⟩/\(∀i:Nat,i<j->AK s i)/\(st_a.next<st.next)) (s.ah.length) ⟨0,by omega,by omega,by(try simp only[go_sem, ↓reduceIte,Nat.reduceEqDiff,Nat.reduceAdd,Nat.reduceSub,Nat.reduceLeDiff,reduceCtorEq,a24,ag0,ag1,a1,a3,a22,a23,aa,List.range_zero,List.map_nil,dw]);try rfl,by(try simp only[go_sem, ↓reduceIte,Nat.reduceEqDiff,Nat.reduceAdd,Nat.reduceSub,Nat.reduceLeDiff,reduceCtorEq,a24,ag0,ag1,a1,a3,a22,a23,aa,List.range_zero,List.map_nil,dw]);try rfl,by(try simp only[go_sem, ↓reduceIte,Nat.reduceEqDiff,Nat.reduceAdd,Nat.reduceSub,Nat.reduceLeDiff,reduceCtorEq,a24,ag0,ag1,a1,a3,a22,a23,aa,List.range_zero,List.map_nil,dw]);try rfl,fun _ h=>absurd h (Nat.not_lt_zero _),(by(try dsimp only);omega)⟩ ?_
   rintro n_b env_b st_b ⟨j,rfl,ble,b52,bg0,bg1,bA0,bI0⟩ e9
   have b1:=e9 1 (by kernel_rfl);have b6:=e9 6 (by kernel_rfl);have C5:=e9 50 (by kernel_rfl);have C6:=e9 51 (by kernel_rfl)
   simp only[go_sem, ↓reduceIte,Nat.reduceEqDiff,Nat.reduceAdd,Nat.reduceSub,Nat.reduceLeDiff,reduceCtorEq,a24,ag0,ag1,a1,a3,a22,a23,aa,List.range_zero,List.map_nil,dw]at b1 b6 C5 C6
   clear e9
   by_cases hj:(j:Int)<(s.ah.length:Int)
   ·have fJ:∀{e:Env} {gg:Rows} {nx:Nat},(e 52=.int .i64 (IntKind.i64.wrap ((j:Int)+1)))->(gg ⟨164000000,n0⟩=some ⟨true,2,[aa s]⟩)->(gg ⟨164011000,st_a.next+1⟩=some ⟨true,mS.lT,dw ((List.range (j+1)).map fun i=>(o8 s i).aE)⟩)->(AK s j)->(st_a.next<nx)->∃m0,m0<(s.ah.length)-j/\∃j:Nat,m0=(s.ah.length)-j/\j<=(s.ah.length)/\e 52=.int .i64 (j:Int)/\gg ⟨164000000,n0⟩=some ⟨true,2,[aa s]⟩/\gg ⟨164011000,st_a.next+1⟩=some ⟨true,mS.lT,dw ((List.range j).map fun i=>(o8 s i).aE)⟩/\(∀i:Nat,i<j->AK s i)/\(st_a.next<nx):=fun x1 x2 x3 x4 x5=>⟨_,by omega,j+1,rfl,by omega,(by rw[x1,az (by omega)]),x2,x3,(all_succ bA0 x4),x5⟩
    have iM:j<s.ah.length:=by omega
    have oN:=Ak iM
    have qH:=Fz (o8 s j).aE (RH j iM)
    have Tl:=MD s (o8 s j).br (xG j iM)
    have BF:=wY (o8 s j).aE ((List.range j).map fun i=>(o8 s i).aE)
    rw[wC _ j]at BF
    have lr:(¬AK s j)->¬iH s:=fun h hp=>h (hp.tok j iM)
    have gY:(⟨164011000,st_a.next+1⟩:Id)≠⟨164000000,n0⟩:=by simp
    generalize htd:o8 s j=tl at *
    cases hb:jI tl.aE
    ·rw[hb]at qH
     (repeat(first|((repeat(revert hN;revert N;apply Pn.out));refine wk (tw @b52 (tw @bg0 (tw @bg1 (tw @b1 (tw @b6 (tw @C5 (tw @C6 (tw @hj (tw @oN (tw @bp.eq_1 @aa.eq_1)))))))))) ?_;(repeat(refine Pn.mk ?_;intro N hN)))|((try apply Or.inl);refine⟨_,aq.x (qH) (sd (tw @b52 (tw @bg0 (tw @bg1 (tw @b1 (tw @b6 (tw @C5 (tw @C6 (tw @hj (tw @oN (tw @bp.eq_1 @aa.eq_1))))))))))),?_⟩;refine hN _ _ ?_;clear hN N)))
     exact aX (b:=false) (.inl rfl) (sd @Nat.zero_add) (fE (lr fun h=>by rw[AK,htd,hb]at h;cases h.1))
    ·rw[hb]at qH
     rcases BF with⟨DJ,mE⟩|⟨i,fU,mE,e6⟩
     ·by_cases h4:(tl.br.length:Int)=4
      ·have zx:decide ((tl.br.length:Int)=4)=true:=decide_eq_true h4
       cases hany:tl.br.any fun g=> !iO g 0 s.ax.length
       ·rw[hany]at Tl
        have pj:dw ((List.range j).map fun i=>(o8 s i).aE)++[[.str tl.aE,.bool true]]=dw (List.map (fun i=>(o8 s i).aE) (List.range j++[j])):=by simp[dw,htd]
        (repeat(first|((repeat(revert hN;revert N;apply Pn.out));refine wk (tw @b52 (tw @bg0 (tw @bg1 (tw @b1 (tw @b6 (tw @C5 (tw @C6 (tw @hj (tw @oN (tw @mE (tw @zx (tw @bp.eq_1 @aa.eq_1)))))))))))) ?_;(repeat(refine Pn.mk ?_;intro N hN)))|((try apply Or.inl);refine⟨_,aq.x (qH) (sd (tw @b52 (tw @bg0 (tw @bg1 (tw @b1 (tw @b6 (tw @C5 (tw @C6 (tw @hj (tw @oN (tw @mE (tw @zx (tw @bp.eq_1 @aa.eq_1))))))))))))),?_⟩;refine hN _ _ ?_;clear hN N)|((try apply Or.inl);refine⟨_,aq.x (Tl) (sd (tw @b52 (tw @bg0 (tw @bg1 (tw @b1 (tw @b6 (tw @C5 (tw @C6 (tw @hj (tw @oN (tw @mE (tw @zx (tw @bp.eq_1 @aa.eq_1))))))))))))),?_⟩;refine hN _ _ ?_;clear hN N)))
        refine fJ ?_ ?_ ?_ (⟨by rw[htd];exact hb,by rw[htd];omega,fun i hi=>(by rw[htd];exact DJ i hi),fun g hg=>by rw[htd]at hg;have:=List.any_eq_false.1 hany g hg;simpa using this⟩) (by(try dsimp only);omega)
        all_goals simp only[go_sem, ↓reduceIte,Nat.reduceEqDiff,Nat.reduceAdd,Nat.reduceSub,Nat.reduceLeDiff,reduceCtorEq,b52,bg0,bg1,b1,b6,C5,C6,mE,pj]
       ·rw[hany]at Tl
        (repeat(first|((repeat(revert hN;revert N;apply Pn.out));refine wk (tw @b52 (tw @bg0 (tw @bg1 (tw @b1 (tw @b6 (tw @C5 (tw @C6 (tw @hj (tw @oN (tw @mE (tw @zx (tw @bp.eq_1 @aa.eq_1)))))))))))) ?_;(repeat(refine Pn.mk ?_;intro N hN)))|((try apply Or.inl);refine⟨_,aq.x (qH) (sd (tw @b52 (tw @bg0 (tw @bg1 (tw @b1 (tw @b6 (tw @C5 (tw @C6 (tw @hj (tw @oN (tw @mE (tw @zx (tw @bp.eq_1 @aa.eq_1))))))))))))),?_⟩;refine hN _ _ ?_;clear hN N)|((try apply Or.inl);refine⟨_,aq.x (Tl) (sd (tw @b52 (tw @bg0 (tw @bg1 (tw @b1 (tw @b6 (tw @C5 (tw @C6 (tw @hj (tw @oN (tw @mE (tw @zx (tw @bp.eq_1 @aa.eq_1))))))))))))),?_⟩;refine hN _ _ ?_;clear hN N)))
        exact aX (b:=false) (.inl rfl) (sd @Nat.zero_add) (fE (lr fun h=>by
         rw[AK,htd]at h
         obtain⟨g,hg,hq⟩:=List.any_eq_true.1 hany
         have:=h.2.2.2 g hg
         rw[this]at hq;cases hq))
      ·have zx:decide ((tl.br.length:Int)=4)=false:=decide_eq_false h4
       (repeat(first|((repeat(revert hN;revert N;apply Pn.out));refine wk (tw @b52 (tw @bg0 (tw @bg1 (tw @b1 (tw @b6 (tw @C5 (tw @C6 (tw @hj (tw @oN (tw @mE (tw @zx (tw @bp.eq_1 @aa.eq_1)))))))))))) ?_;(repeat(refine Pn.mk ?_;intro N hN)))|((try apply Or.inl);refine⟨_,aq.x (qH) (sd (tw @b52 (tw @bg0 (tw @bg1 (tw @b1 (tw @b6 (tw @C5 (tw @C6 (tw @hj (tw @oN (tw @mE (tw @zx (tw @bp.eq_1 @aa.eq_1))))))))))))),?_⟩;refine hN _ _ ?_;clear hN N)))
       exact aX (b:=false) (.inl rfl) (sd @Nat.zero_add) (fE (lr fun h=>by rw[AK,htd]at h;have:=h.2.1;omega))
     ·(repeat(first|((repeat(revert hN;revert N;apply Pn.out));refine wk (tw @b52 (tw @bg0 (tw @bg1 (tw @b1 (tw @b6 (tw @C5 (tw @C6 (tw @hj (tw @oN (tw @mE (tw @e6 (tw @bp.eq_1 @aa.eq_1)))))))))))) ?_;(repeat(refine Pn.mk ?_;intro N hN)))|((try apply Or.inl);refine⟨_,aq.x (qH) (sd (tw @b52 (tw @bg0 (tw @bg1 (tw @b1 (tw @b6 (tw @C5 (tw @C6 (tw @hj (tw @oN (tw @mE (tw @e6 (tw @bp.eq_1 @aa.eq_1))))))))))))),?_⟩;refine hN _ _ ?_;clear hN N)))
      exact aX (b:=false) (.inl rfl) (sd @Nat.zero_add) (fE (lr fun h=>by
       rw[AK,htd]at h
       obtain⟨i,hi,he⟩:=List.mem_map.1 fU
       exact h.2.2.1 i (List.mem_range.1 hi) he))
   ·(try((repeat(revert hN;revert N;apply Pn.out));refine wk (tw @b52 (tw @bg0 (tw @bg1 (tw @b1 (tw @b6 (tw @C5 (tw @C6 (tw @hj @aa.eq_1)))))))) ?_;(repeat(refine Pn.mk ?_;intro N hN))))
    exact aX (b:=true) (.inl rfl) (sd @Nat.zero_add) (Co ⟨by omega,by omega,by omega,fun i hi=>kN i (by omega),fun i hi=>bA0 i (by omega)⟩)
 ·rw[Bool.not_eq_true]at h2
  rw[h2]at hw
  (repeat(first|((repeat(revert hN;revert N;apply Pn.out));refine wk (tw @aa.eq_1 @h1) ?_;(repeat(refine Pn.mk ?_;intro N hN)))|((try apply Or.inl);refine⟨_,aq.x (hw) (sd (tw @aa.eq_1 @h1)),?_⟩;refine hN _ _ ?_;clear hN N)))
  exact aX (b:=false) (.inl rfl) (sd @Nat.zero_add) (fE fun h=>by
   have h3:=h.some
   have h4:=h.yW
   rw[jL ⟨by omega,by omega⟩]at h2;cases h2)
theorem uC {α:Type} {p:α->Bool} {xs:List α} {k:Nat} (hk:k<xs.length) (h1:p xs[k]=true) (h2:∀j (h:j<xs.length),j<k->p xs[j]=false):kf p xs=k:=by
 have:xs.findIdx p=k:=by rw[List.findIdx_eq hk];exact⟨h1,fun j hj=>h2 j (by omega) hj⟩
 rw[kf,this,if_pos hk]
theorem ya {α:Type} {p:α->Bool} {xs:List α} (h:∀j (h:j<xs.length),p xs[j]=false):kf p xs= -1:=by
 rw[kf,if_neg]
 rw[List.findIdx_lt_length]
 rintro⟨x,hx,OY⟩
 obtain⟨j,hj,rfl⟩:=List.getElem_of_mem hx
 rw[h j hj]at OY;cases OY
theorem zt {s:au} {i:Nat} (h:i<s.ax.length):pQ s i=s.ax[i]:=by simp[pQ,List.getD_eq_getElem?_getD,h]
theorem Aj {s:au} {i:Nat} (h:i<s.ah.length):o8 s i=s.ah[i]:=by simp[o8,List.getD_eq_getElem?_getD,h]
def KA (s:au) (n:ByteArray):Int:=kf (fun g:fy=>decide (g.aE=n)) s.ax
def NG (s:au) (n:ByteArray):Int:=kf (fun t:eR=>decide (t.aE=n)) s.ah
theorem GO (s:au) (nm:ByteArray):aq Tryz.prog 190 [.dm (aa s),.str nm] (.int .i64 (KA s nm+1)):=by
 refine aq.body eL rfl fun hl n0=>?_
 have hlen:s.ax.length<=9223372036854775807:=by
  have h1:=(hl (.dm (aa s)) (by simp)).BR (a:=.sl (s.ax.map bP)) (by simp[aa])
  simpa using h1.len
 clear hl
 (try((repeat(revert hN;revert N;apply Pn.out));refine wk @aa.eq_1 ?_;(repeat(refine Pn.mk ?_;intro N hN))))
 refine aM (fun n env st=>∃k:Nat,n=(s.ax.length)-k/\k<=(s.ax.length)/\env 5=.int .i64 (k:Int)/\(∀j:Nat,j<k->∀h:j<s.ax.length,decide (s.ax[j].aE=nm)=false)) (s.ax.length) ⟨0,by omega,by omega,sl @aa.eq_1,fun _ h=>absurd h (Nat.not_lt_zero _)⟩ ?_
 rintro n_a env_a st_a ⟨k,rfl,ale,a5,kN⟩ di
 have a0:=di 0 (by kernel_rfl);have a1:=di 1 (by kernel_rfl)
 simp only[go_sem, ↓reduceIte,Nat.reduceEqDiff,Nat.reduceAdd,Nat.reduceSub,Nat.reduceLeDiff,reduceCtorEq,aa]at a0 a1
 clear di
 by_cases hk:(k:Int)<(s.ax.length:Int)
 ·have cz:∀{e:Env},(e 5=.int .i64 (IntKind.i64.wrap ((k:Int)+1)))->(∀h:k<s.ax.length,decide (s.ax[k].aE=nm)=false)->∃m0,m0<(s.ax.length)-k/\∃k:Nat,m0=(s.ax.length)-k/\k<=(s.ax.length)/\e 5=.int .i64 (k:Int)/\(∀j:Nat,j<k->∀h:j<s.ax.length,decide (s.ax[j].aE=nm)=false):=fun x1 x2=>⟨_,by omega,k+1,rfl,by omega,(by rw[x1,az (by omega)]),(all_succ kN x2)⟩
  have eX:k<s.ax.length:=by omega
  have eM:=zu eX
  have e:=zt eX
  cases hd:decide ((pQ s k).aE=nm)
  ·have SZ:=of_decide_eq_false hd
   (try((repeat(revert hN;revert N;apply Pn.out));refine wk (tw @a5 (tw @a0 (tw @a1 (tw @hk (tw @eM (tw @SZ (tw @hd (tw @bP.eq_1 @aa.eq_1)))))))) ?_;(repeat(refine Pn.mk ?_;intro N hN))))
   exact cz (sd (tw @a5 (tw @a0 @a1))) (fun _=>by rw[e]at hd;exact hd)
  ·have SZ:=of_decide_eq_true hd
   have hw:IntKind.i64.wrap ((k:Int)+1)=(k:Int)+1:=bx (by omega)
   (try((repeat(revert hN;revert N;apply Pn.out));refine wk (tw @a5 (tw @a0 (tw @a1 (tw @hk (tw @eM (tw @hd (tw @hw (tw @bP.eq_1 @aa.eq_1)))))))) ?_;(repeat(refine Pn.mk ?_;intro N hN))))
   exact cD (b:=(k:Int)+1) (.inl rfl) (sd @Nat.zero_add) (by rw[KA,uC eX (by rw[e]at hd;exact hd) fun j h hj=>kN j hj h])
 ·(try((repeat(revert hN;revert N;apply Pn.out));refine wk (tw @a5 (tw @a0 (tw @a1 (tw @hk @aa.eq_1)))) ?_;(repeat(refine Pn.mk ?_;intro N hN))))
  exact cD (b:=0) (.inl rfl) (sd @Nat.zero_add) (by rw[KA,ya fun j h=>kN j (by omega) h];rfl)
theorem GP (s:au) (nm:ByteArray):aq Tryz.prog 191 [.dm (aa s),.str nm] (.int .i64 (NG s nm)):=by
 refine aq.body eL rfl fun hl n0=>?_
 have hlen:s.ah.length<=9223372036854775807:=by
  have h1:=(hl (.dm (aa s)) (by simp)).BR (a:=.sl (s.ah.map bp)) (by simp[aa])
  simpa using h1.len
 clear hl
 (try((repeat(revert hN;revert N;apply Pn.out));refine wk @aa.eq_1 ?_;(repeat(refine Pn.mk ?_;intro N hN))))
 refine aM (fun n env st=>∃k:Nat,n=(s.ah.length)-k/\k<=(s.ah.length)/\env 5=.int .i64 (k:Int)/\(∀j:Nat,j<k->∀h:j<s.ah.length,decide (s.ah[j].aE=nm)=false)) (s.ah.length) ⟨0,by omega,by omega,sl @aa.eq_1,fun _ h=>absurd h (Nat.not_lt_zero _)⟩ ?_
 rintro n_a env_a st_a ⟨k,rfl,ale,a5,kN⟩ di
 have a0:=di 0 (by kernel_rfl);have a1:=di 1 (by kernel_rfl)
 simp only[go_sem, ↓reduceIte,Nat.reduceEqDiff,Nat.reduceAdd,Nat.reduceSub,Nat.reduceLeDiff,reduceCtorEq,aa]at a0 a1
 clear di
 by_cases hk:(k:Int)<(s.ah.length:Int)
 ·have cz:∀{e:Env},(e 5=.int .i64 (IntKind.i64.wrap ((k:Int)+1)))->(∀h:k<s.ah.length,decide (s.ah[k].aE=nm)=false)->∃m0,m0<(s.ah.length)-k/\∃k:Nat,m0=(s.ah.length)-k/\k<=(s.ah.length)/\e 5=.int .i64 (k:Int)/\(∀j:Nat,j<k->∀h:j<s.ah.length,decide (s.ah[j].aE=nm)=false):=fun x1 x2=>⟨_,by omega,k+1,rfl,by omega,(by rw[x1,az (by omega)]),(all_succ kN x2)⟩
  have eX:k<s.ah.length:=by omega
  have eM:=Ak eX
  have e:=Aj eX
  cases hd:decide ((o8 s k).aE=nm)
  ·(try((repeat(revert hN;revert N;apply Pn.out));refine wk (tw @a5 (tw @a0 (tw @a1 (tw @hk (tw @eM (tw @hd (tw @bp.eq_1 @aa.eq_1))))))) ?_;(repeat(refine Pn.mk ?_;intro N hN))))
   exact cz (sd (tw @a5 (tw @a0 @a1))) (fun _=>by rw[e]at hd;exact hd)
  ·(try((repeat(revert hN;revert N;apply Pn.out));refine wk (tw @a5 (tw @a0 (tw @a1 (tw @hk (tw @eM (tw @hd (tw @bp.eq_1 @aa.eq_1))))))) ?_;(repeat(refine Pn.mk ?_;intro N hN))))
   exact cD (b:=(k:Int)) (.inl rfl) (sd @Nat.zero_add) (by rw[NG,uC eX (by rw[e]at hd;exact hd) fun j h hj=>kN j hj h])
 ·(try((repeat(revert hN;revert N;apply Pn.out));refine wk (tw @a5 (tw @a0 (tw @a1 (tw @hk @aa.eq_1)))) ?_;(repeat(refine Pn.mk ?_;intro N hN))))
  exact cD (b:=-1) (.inl rfl) (sd @Nat.zero_add) (by rw[NG,ya fun j h=>kN j (by omega) h])
theorem Of {s:au} {i:Nat} (h:i<s.ax.length):KA s (pQ s i).aE=i↔∀j,j<i->(pQ s j).aE≠(pQ s i).aE:=by
 constructor
 ·intro he j hj hc
  have gN:j<s.ax.length:=by omega
  have:s.ax.findIdx (fun g:fy=>decide (g.aE=(pQ s i).aE))<=j:=by
   rcases Nat.lt_or_ge j (s.ax.findIdx fun g:fy=>decide (g.aE=(pQ s i).aE))with dR|qG
   ·have:=List.not_of_lt_findIdx dR
    rw[<-zt gN]at this
    simp[hc]at this
   ·exact qG
  unfold KA kf at he
  split at he<;>omega
 ·intro hd
  exact uC h (by rw[<-zt h];simp) fun j gN hj=>by rw[<-zt gN];simpa using hd j hj
theorem Px {s:au} {i:Nat} (h:i<s.ah.length):NG s (o8 s i).aE=i↔∀j,j<i->(o8 s j).aE≠(o8 s i).aE:=by
 constructor
 ·intro he j hj hc
  have gN:j<s.ah.length:=by omega
  have:s.ah.findIdx (fun g:eR=>decide (g.aE=(o8 s i).aE))<=j:=by
   rcases Nat.lt_or_ge j (s.ah.findIdx fun g:eR=>decide (g.aE=(o8 s i).aE))with dR|qG
   ·have:=List.not_of_lt_findIdx dR
    rw[<-Aj gN]at this
    simp[hc]at this
   ·exact qG
  unfold NG kf at he
  split at he<;>omega
 ·intro hd
  exact uC h (by rw[<-Aj h];simp) fun j gN hj=>by rw[<-Aj gN];simpa using hd j hj
theorem L1 (s:au) (hn:gK s) (hg:s.ax.length<=1048576) (ht:s.ah.length<=1048576):aq Tryz.prog 156 [.dm (aa s)] (.bool (q9 s)):=by
 refine aq.body eL rfl fun hl n0=>?_
 clear hl
 have Rq:∀i,i<s.ax.length->(pQ s i).aE.size<=9223372036854775807:=fun i hi=>hn.1 _ (by simp[pQ,List.getD_eq_getElem?_getD,hi])
 have RH:∀i,i<s.ah.length->(o8 s i).aE.size<=9223372036854775807:=fun i hi=>hn.2 _ (by simp[o8,List.getD_eq_getElem?_getD,hi])
 by_cases h1:(200:Int)<(s.ax.length:Int)
 ·(try((repeat(revert hN;revert N;apply Pn.out));refine wk (tw @aa.eq_1 @h1) ?_;(repeat(refine Pn.mk ?_;intro N hN))))
  exact aX (b:=false) (.inl rfl) (sd @Nat.zero_add) (fE fun h=>by have:=h.tK;omega)
 by_cases h2:(s.ah.length:Int)<1
 ·(try((repeat(revert hN;revert N;apply Pn.out));refine wk (tw @aa.eq_1 (tw @h1 @h2)) ?_;(repeat(refine Pn.mk ?_;intro N hN))))
  exact aX (b:=false) (.inl rfl) (sd @Nat.zero_add) (fE fun h=>by have:=h.some;omega)
 by_cases h3:(160:Int)<(s.ah.length:Int)
 ·(try((repeat(revert hN;revert N;apply Pn.out));refine wk (tw @aa.eq_1 (tw @h1 (tw @h2 @h3))) ?_;(repeat(refine Pn.mk ?_;intro N hN))))
  exact aX (b:=false) (.inl rfl) (sd @Nat.zero_add) (fE fun h=>by have:=h.yW;omega)
 (try((repeat(revert hN;revert N;apply Pn.out));refine wk (tw @aa.eq_1 (tw @h1 (tw @h2 @h3))) ?_;(repeat(refine Pn.mk ?_;intro N hN))))
 refine aM (fun n env st=>∃k:Nat,n=(s.ax.length)-k/\k<=(s.ax.length)/\env 3=.int .i64 (k:Int)/\(∀j:Nat,j<k->CV s j)) (s.ax.length) ⟨0,by omega,by omega,sl @aa.eq_1,fun _ h=>absurd h (Nat.not_lt_zero _)⟩ ?_
 rintro n_a env_a st_a ⟨k,rfl,ale,a3,kN⟩ di
 have a0:=di 0 (by kernel_rfl)
 simp only[go_sem, ↓reduceIte,Nat.reduceEqDiff,Nat.reduceAdd,Nat.reduceSub,Nat.reduceLeDiff,reduceCtorEq,aa]at a0
 clear di
 by_cases hk:(k:Int)<(s.ax.length:Int)
 ·have cz:∀{e:Env},(e 3=.int .i64 (IntKind.i64.wrap ((k:Int)+1)))->(CV s k)->∃m0,m0<(s.ax.length)-k/\∃k:Nat,m0=(s.ax.length)-k/\k<=(s.ax.length)/\e 3=.int .i64 (k:Int)/\(∀j:Nat,j<k->CV s j):=fun x1 x2=>⟨_,by omega,k+1,rfl,by omega,(by rw[x1,az (by omega)]),(all_succ kN x2)⟩
  have eX:k<s.ax.length:=by omega
  have eM:=zu eX
  have qH:=FN (pQ s k).aE (Rq k eX)
  have KM:=lJ (pQ s k).ez 1 4
  have CJ:=GO s (pQ s k).aE
  have rR:=Of eX
  have lr:(¬CV s k)->¬iH s:=fun h hp=>h (hp.SH k eX)
  have hw:IntKind.i64.wrap ((k:Int)+1)=(k:Int)+1:=bx (by omega)
  generalize sF:pQ s k=gl at *
  cases hb:jI gl.aE
  ·rw[hb]at qH
   (repeat(first|((repeat(revert hN;revert N;apply Pn.out));refine wk (tw @a3 (tw @a0 (tw @hk (tw @eM (tw @bP.eq_1 @aa.eq_1))))) ?_;(repeat(refine Pn.mk ?_;intro N hN)))|((try apply Or.inl);refine⟨_,aq.x (qH) (sd (tw @a3 (tw @a0 (tw @hk (tw @eM (tw @bP.eq_1 @aa.eq_1)))))),?_⟩;refine hN _ _ ?_;clear hN N)))
   exact aX (b:=false) (.inl rfl) (sd @Nat.zero_add) (fE (lr fun h=>by rw[CV,sF,hb]at h;cases h.1))
  rw[hb]at qH
  cases dL:iO gl.ez 1 4
  ·rw[dL]at KM
   (repeat(first|((repeat(revert hN;revert N;apply Pn.out));refine wk (tw @a3 (tw @a0 (tw @hk (tw @eM (tw @bP.eq_1 @aa.eq_1))))) ?_;(repeat(refine Pn.mk ?_;intro N hN)))|((try apply Or.inl);refine⟨_,aq.x (qH) (sd (tw @a3 (tw @a0 (tw @hk (tw @eM (tw @bP.eq_1 @aa.eq_1)))))),?_⟩;refine hN _ _ ?_;clear hN N)|((try apply Or.inl);refine⟨_,aq.x (KM) (sd (tw @a3 (tw @a0 (tw @hk (tw @eM (tw @bP.eq_1 @aa.eq_1)))))),?_⟩;refine hN _ _ ?_;clear hN N)))
   exact aX (b:=false) (.inl rfl) (sd @Nat.zero_add) (fE (lr fun h=>by rw[CV,sF,dL]at h;cases h.2.1))
  rw[dL]at KM
  rw[aa]at CJ
  by_cases hq:KA s gl.aE=(k:Int)
  ·have hd:decide (KA s gl.aE+1=(k:Int)+1)=true:=decide_eq_true (by omega)
   have uk:decide (KA s gl.aE=(k:Int))=true:=decide_eq_true hq
   (repeat(first|((repeat(revert hN;revert N;apply Pn.out));refine wk (tw @a3 (tw @a0 (tw @hk (tw @eM (tw @hw (tw @hd (tw @uk (tw @bP.eq_1 @aa.eq_1)))))))) ?_;(repeat(refine Pn.mk ?_;intro N hN)))|((try apply Or.inl);refine⟨_,aq.x (qH) (sd (tw @a3 (tw @a0 (tw @hk (tw @eM (tw @hw (tw @hd (tw @uk (tw @bP.eq_1 @aa.eq_1))))))))),?_⟩;refine hN _ _ ?_;clear hN N)|((try apply Or.inl);refine⟨_,aq.x (KM) (sd (tw @a3 (tw @a0 (tw @hk (tw @eM (tw @hw (tw @hd (tw @uk (tw @bP.eq_1 @aa.eq_1))))))))),?_⟩;refine hN _ _ ?_;clear hN N)|((try apply Or.inl);refine⟨_,aq.x (CJ) (sd (tw @a3 (tw @a0 (tw @hk (tw @eM (tw @hw (tw @hd (tw @uk (tw @bP.eq_1 @aa.eq_1))))))))),?_⟩;refine hN _ _ ?_;clear hN N)))
   exact cz (sd (tw @a3 (tw @a0 @hw))) (⟨by rw[sF];exact hb,by rw[sF];exact dL,fun j hj=>by rw[sF];exact rR.1 hq j hj⟩)
  ·have hd:decide (KA s gl.aE+1=(k:Int)+1)=false:=decide_eq_false (by omega)
   have uk:decide (KA s gl.aE=(k:Int))=false:=decide_eq_false hq
   (repeat(first|((repeat(revert hN;revert N;apply Pn.out));refine wk (tw @a3 (tw @a0 (tw @hk (tw @eM (tw @hw (tw @hd (tw @uk (tw @bP.eq_1 @aa.eq_1)))))))) ?_;(repeat(refine Pn.mk ?_;intro N hN)))|((try apply Or.inl);refine⟨_,aq.x (qH) (sd (tw @a3 (tw @a0 (tw @hk (tw @eM (tw @hw (tw @hd (tw @uk (tw @bP.eq_1 @aa.eq_1))))))))),?_⟩;refine hN _ _ ?_;clear hN N)|((try apply Or.inl);refine⟨_,aq.x (KM) (sd (tw @a3 (tw @a0 (tw @hk (tw @eM (tw @hw (tw @hd (tw @uk (tw @bP.eq_1 @aa.eq_1))))))))),?_⟩;refine hN _ _ ?_;clear hN N)|((try apply Or.inl);refine⟨_,aq.x (CJ) (sd (tw @a3 (tw @a0 (tw @hk (tw @eM (tw @hw (tw @hd (tw @uk (tw @bP.eq_1 @aa.eq_1))))))))),?_⟩;refine hN _ _ ?_;clear hN N)))
   exact aX (b:=false) (.inl rfl) (sd @Nat.zero_add) (fE (lr fun h=>by
    rw[CV,sF]at h
    exact hq (rR.2 h.2.2)))
 ·have kH:k=s.ax.length:=by omega
  (try((repeat(revert hN;revert N;apply Pn.out));refine wk (tw @a3 (tw @a0 (tw @hk @aa.eq_1))) ?_;(repeat(refine Pn.mk ?_;intro N hN))))
  refine aM (fun n env st=>∃j:Nat,n=(s.ah.length)-j/\j<=(s.ah.length)/\env 5=.int .i64 (j:Int)/\(∀i:Nat,i<j->AK s i)) (s.ah.length) ⟨0,by omega,by omega,sl (tw @a3 (tw @a0 @aa.eq_1)),fun _ h=>absurd h (Nat.not_lt_zero _)⟩ ?_
  rintro n_b env_b st_b ⟨j,rfl,ble,b5,bA0⟩ e9
  have b0:=e9 0 (by kernel_rfl)
  simp only[go_sem, ↓reduceIte,Nat.reduceEqDiff,Nat.reduceAdd,Nat.reduceSub,Nat.reduceLeDiff,reduceCtorEq,a3,a0,aa]at b0
  clear e9
  by_cases hj:(j:Int)<(s.ah.length:Int)
  ·have fJ:∀{e:Env},(e 5=.int .i64 (IntKind.i64.wrap ((j:Int)+1)))->(AK s j)->∃m0,m0<(s.ah.length)-j/\∃j:Nat,m0=(s.ah.length)-j/\j<=(s.ah.length)/\e 5=.int .i64 (j:Int)/\(∀i:Nat,i<j->AK s i):=fun x1 x2=>⟨_,by omega,j+1,rfl,by omega,(by rw[x1,az (by omega)]),(all_succ bA0 x2)⟩
   have iM:j<s.ah.length:=by omega
   have oN:=Ak iM
   have qH:=FN (o8 s j).aE (RH j iM)
   have CJ:=GP s (o8 s j).aE
   have rR:=Px iM
   have lr:(¬AK s j)->¬iH s:=fun h hp=>h (hp.tok j iM)
   generalize htd:o8 s j=tl at *
   cases hb:jI tl.aE
   ·rw[hb]at qH
    (repeat(first|((repeat(revert hN;revert N;apply Pn.out));refine wk (tw @b5 (tw @b0 (tw @hj (tw @oN (tw @bp.eq_1 @aa.eq_1))))) ?_;(repeat(refine Pn.mk ?_;intro N hN)))|((try apply Or.inl);refine⟨_,aq.x (qH) (sd (tw @b5 (tw @b0 (tw @hj (tw @oN (tw @bp.eq_1 @aa.eq_1)))))),?_⟩;refine hN _ _ ?_;clear hN N)))
    exact aX (b:=false) (.inl rfl) (sd @Nat.zero_add) (fE (lr fun h=>by rw[AK,htd,hb]at h;cases h.1))
   rw[hb]at qH
   by_cases h4:(tl.br.length:Int)=4
   ·have zx:decide ((tl.br.length:Int)=4)=true:=decide_eq_true h4
    rw[aa]at CJ
    by_cases hq:NG s tl.aE=(j:Int)
    ·have hd:decide (NG s tl.aE=(j:Int))=true:=decide_eq_true hq
     (repeat(first|((repeat(revert hN;revert N;apply Pn.out));refine wk (tw @b5 (tw @b0 (tw @hj (tw @oN (tw @zx (tw @hd (tw @bp.eq_1 @aa.eq_1))))))) ?_;(repeat(refine Pn.mk ?_;intro N hN)))|((try apply Or.inl);refine⟨_,aq.x (qH) (sd (tw @b5 (tw @b0 (tw @hj (tw @oN (tw @zx (tw @hd (tw @bp.eq_1 @aa.eq_1)))))))),?_⟩;refine hN _ _ ?_;clear hN N)|((try apply Or.inl);refine⟨_,aq.x (CJ) (sd (tw @b5 (tw @b0 (tw @hj (tw @oN (tw @zx (tw @hd (tw @bp.eq_1 @aa.eq_1)))))))),?_⟩;refine hN _ _ ?_;clear hN N)))
     refine aM (fun n env st=>∃i:Nat,n=(4)-i/\i<=(4)/\env 7=.int .i64 (i:Int)/\st.get ⟨156012007,st_b.next+1⟩=some ⟨true,2,[bp tl]⟩/\(∀x:Nat,x<i->iO (tl.br.getD x 0) 0 s.ax.length=true)) (4) ⟨0,by omega,by omega,sl (tw @b5 (tw @b0 (tw @bp.eq_1 @aa.eq_1))),sl (tw @b5 (tw @b0 (tw @bp.eq_1 @aa.eq_1))),fun _ h=>absurd h (Nat.not_lt_zero _)⟩ ?_
     rintro n_c env_c st_c ⟨i,rfl,cle,c7,cg0,cA0⟩ iL
     have c0:=iL 0 (by kernel_rfl);have c5:=iL 5 (by kernel_rfl);have c6:=iL 6 (by kernel_rfl)
     simp only[go_sem, ↓reduceIte,Nat.reduceEqDiff,Nat.reduceAdd,Nat.reduceSub,Nat.reduceLeDiff,reduceCtorEq,b5,b0,bp,aa]at c0 c5 c6
     clear iL
     by_cases hi:(i:Int)<4
     ·have gG:∀{e:Env} {gg:Rows},(e 7=.int .i64 (IntKind.i64.wrap ((i:Int)+1)))->(gg ⟨156012007,st_b.next+1⟩=some ⟨true,2,[bp tl]⟩)->(iO (tl.br.getD i 0) 0 s.ax.length=true)->∃m0,m0<(4)-i/\∃i:Nat,m0=(4)-i/\i<=(4)/\e 7=.int .i64 (i:Int)/\gg ⟨156012007,st_b.next+1⟩=some ⟨true,2,[bp tl]⟩/\(∀x:Nat,x<i->iO (tl.br.getD x 0) 0 s.ax.length=true):=fun x1 x2 x3=>⟨_,by omega,i+1,rfl,by omega,(by rw[x1,az (by omega)]),x2,(all_succ cA0 x3)⟩
      have fU:i<tl.br.length:=by omega
      have ku:(tl.br.map aw)[i]? =some (aw (tl.br.getD i 0)):=getD_map aw fU
      have pV:tl.br.getD i 0∈tl.br:=by rw[List.getD_eq_getElem?_getD,List.getElem?_eq_getElem fU];exact List.getElem_mem fU
      have I2:=lJ (tl.br.getD i 0) 0 s.ax.length
      generalize OF:tl.br.getD i 0=gv at *
      cases hv:iO gv 0 s.ax.length
      ·rw[hv]at I2
       (repeat(first|((repeat(revert hN;revert N;apply Pn.out));refine wk (tw @c7 (tw @cg0 (tw @c0 (tw @c5 (tw @c6 (tw @hi (tw @ku (tw @aw.eq_1 (tw @bp.eq_1 @aa.eq_1))))))))) ?_;(repeat(refine Pn.mk ?_;intro N hN)))|((try apply Or.inl);refine⟨_,aq.x (I2) (sd (tw @c7 (tw @cg0 (tw @c0 (tw @c5 (tw @c6 (tw @hi (tw @ku (tw @aw.eq_1 (tw @bp.eq_1 @aa.eq_1)))))))))),?_⟩;refine hN _ _ ?_;clear hN N)))
       exact aX (b:=false) (.inl rfl) (sd @Nat.zero_add) (fE (lr fun h=>by
        rw[AK,htd]at h
        have:=h.2.2.2 gv pV
        rw[hv]at this;cases this))
      ·rw[hv]at I2
       (repeat(first|((repeat(revert hN;revert N;apply Pn.out));refine wk (tw @c7 (tw @cg0 (tw @c0 (tw @c5 (tw @c6 (tw @hi (tw @ku (tw @aw.eq_1 (tw @bp.eq_1 @aa.eq_1))))))))) ?_;(repeat(refine Pn.mk ?_;intro N hN)))|((try apply Or.inl);refine⟨_,aq.x (I2) (sd (tw @c7 (tw @cg0 (tw @c0 (tw @c5 (tw @c6 (tw @hi (tw @ku (tw @aw.eq_1 (tw @bp.eq_1 @aa.eq_1)))))))))),?_⟩;refine hN _ _ ?_;clear hN N)))
       refine gG ?_ ?_ (hv)
       all_goals simp only[go_sem, ↓reduceIte,Nat.reduceEqDiff,Nat.reduceAdd,Nat.reduceSub,Nat.reduceLeDiff,reduceCtorEq,c7,cg0,c0,c5,c6]
     ·have hi4:i=4:=by omega
      (try((repeat(revert hN;revert N;apply Pn.out));refine wk (tw @c7 (tw @cg0 (tw @c0 (tw @c5 (tw @c6 (tw @hi (tw @bp.eq_1 @aa.eq_1))))))) ?_;(repeat(refine Pn.mk ?_;intro N hN))))
      exact fJ (sd (tw @b5 (tw @b0 (tw @c7 (tw @cg0 (tw @c0 (tw @c5 @c6))))))) (⟨by rw[htd];exact hb,by rw[htd];omega,fun x hx=>(by rw[htd];exact rR.1 hq x hx),fun g hg=>by
       rw[htd]at hg
       obtain⟨x,hx,rfl⟩:=List.getElem_of_mem hg
       have:=cA0 x (by omega)
       rwa [List.getD_eq_getElem?_getD,List.getElem?_eq_getElem hx]at this⟩)
    ·have hd:decide (NG s tl.aE=(j:Int))=false:=decide_eq_false hq
     (repeat(first|((repeat(revert hN;revert N;apply Pn.out));refine wk (tw @b5 (tw @b0 (tw @hj (tw @oN (tw @zx (tw @hd (tw @bp.eq_1 @aa.eq_1))))))) ?_;(repeat(refine Pn.mk ?_;intro N hN)))|((try apply Or.inl);refine⟨_,aq.x (qH) (sd (tw @b5 (tw @b0 (tw @hj (tw @oN (tw @zx (tw @hd (tw @bp.eq_1 @aa.eq_1)))))))),?_⟩;refine hN _ _ ?_;clear hN N)|((try apply Or.inl);refine⟨_,aq.x (CJ) (sd (tw @b5 (tw @b0 (tw @hj (tw @oN (tw @zx (tw @hd (tw @bp.eq_1 @aa.eq_1)))))))),?_⟩;refine hN _ _ ?_;clear hN N)))
     exact aX (b:=false) (.inl rfl) (sd @Nat.zero_add) (fE (lr fun h=>by
      rw[AK,htd]at h
      exact hq (rR.2 h.2.2.1)))
   ·have zx:decide ((tl.br.length:Int)=4)=false:=decide_eq_false h4
    (repeat(first|((repeat(revert hN;revert N;apply Pn.out));refine wk (tw @b5 (tw @b0 (tw @hj (tw @oN (tw @zx (tw @bp.eq_1 @aa.eq_1)))))) ?_;(repeat(refine Pn.mk ?_;intro N hN)))|((try apply Or.inl);refine⟨_,aq.x (qH) (sd (tw @b5 (tw @b0 (tw @hj (tw @oN (tw @zx (tw @bp.eq_1 @aa.eq_1))))))),?_⟩;refine hN _ _ ?_;clear hN N)))
    exact aX (b:=false) (.inl rfl) (sd @Nat.zero_add) (fE (lr fun h=>by rw[AK,htd]at h;have:=h.2.1;omega))
  ·(try((repeat(revert hN;revert N;apply Pn.out));refine wk (tw @b5 (tw @b0 (tw @hj @aa.eq_1))) ?_;(repeat(refine Pn.mk ?_;intro N hN))))
   exact aX (b:=true) (.inl rfl) (sd @Nat.zero_add) (Co ⟨by omega,by omega,by omega,fun i hi=>kN i (by omega),fun i hi=>bA0 i (by omega)⟩)
end Go.Proofs.YtgoelphibofcmaaGreat.V

namespace Go.Proofs.YtgoelphibofcmaaGreat.V
def kE (a b:ad):Bool:=decide (a.eF<b.eF)||(decide (a.eF=b.eF)&&decide (a.eI<b.eI))
theorem uK {a b:ad}:kE a b=true↔a.eF<b.eF∨(a.eF=b.eF/\a.eI<b.eI):=by simp[kE]
theorem po {a b:ad}:kE a b=false↔¬(a.eF<b.eF∨(a.eF=b.eF/\a.eI<b.eI)):=by rw[<-uK,Bool.not_eq_true]
theorem wH {a b:ad} (h1:a.eI=b.eI) (h2:a.eF=b.eF):a=b:=by cases a;cases b;simp_all
theorem iy {a b c:ad} (h:kE a b=true) (k:kE b c=true):kE a c=true:=by rw[uK]at *;omega
theorem mZ {a:ad}:kE a a=false:=by rw[po];omega
theorem Jr {a b:ad} (h:kE a b=true):kE b a=false:=by rw[uK]at h;rw[po];omega
theorem zO {a b:ad} (h:kE a b=false) (gY:a≠b):kE b a=true:=by
 rw[po]at h;rw[uK]
 by_cases hy:a.eF=b.eF
 ·by_cases hx:a.eI=b.eI
  ·exact absurd (wH hx hy) gY
  ·omega
 ·omega
def rL (a b:Int):Int:=if a<b then -1 else if b<a then 1 else 0
def Mm (a b:Int):Int:=if a=0 then b else a
def pP (a b:ad):Int:=Mm (rL a.eF b.eF) (rL a.eI b.eI)
theorem mQ (a b:ad):decide (pP a b<0)=kE a b:=by
 unfold pP Mm rL kE
 by_cases h1:a.eF<b.eF
 ·simp[h1]
 ·by_cases h2:b.eF<a.eF
  ·have:¬a.eF=b.eF:=by omega
   simp[h1,h2,this]
  ·have:a.eF=b.eF:=by omega
   by_cases h3:a.eI<b.eI
   ·simp[h1,h2,this,h3]
   ·by_cases h4:b.eI<a.eI<;>simp[h1,h2,this,h3,h4]
theorem Gc (a b:ad):(pP a b=0)↔a=b:=by
 cases a;cases b
 unfold pP Mm rL
 simp only[ad.mk.injEq]
 split<;>(try split)<;>(try split)<;>(try split)<;>omega
def JD:ae:=⟨⟨0,0⟩,0⟩
def aU (l:List ae) (i:Nat):ae:=l.getD i JD
theorem ij {l:List ae} {i:Nat} (h:i<l.length):aU l i=l[i]:=by simp[aU,List.getD_eq_getElem?_getD,h]
theorem kY {l:List ae} {i:Nat} (h:i<l.length):aU l i∈l:=by rw[ij h];exact List.getElem_mem h
def sM (l:List ae):Prop:=∀i j:Nat,i<j->j<l.length->kE (aU l i).bc (aU l j).bc=true
def qM (l:List ae) (p:ad):Nat:=l.findIdx fun c=>decide (c.bc=p)
def eJ (l:List ae) (p:ad):Int:=if qM l p<l.length then(qM l p:Int)else -1
def r4 (l:List ae) (p:ad):Nat:=l.findIdx fun c=> !kE c.bc p
theorem zL {l:List ae} {p:ad} {i:Nat} (hi:i<=l.length) (h1:∀x,x<i->kE (aU l x).bc p=true) (h2:i<l.length->kE (aU l i).bc p=false):r4 l p=i:=by
 unfold r4
 by_cases h:i<l.length
 ·rw[List.findIdx_eq h]
  refine⟨by have:=h2 h;rw[ij h]at this;simp[this],fun j hj=>?_⟩
  have:=h1 j hj
  rw[ij (by omega)]at this
  simp[this]
 ·have:i=l.length:=by omega
  subst this
  refine List.findIdx_eq_length_of_false fun x hx=>?_
  obtain⟨j,hj,rfl⟩:=List.getElem_of_mem hx
  have:=h1 j hj
  rw[ij hj]at this
  simp[this]
theorem FG {l:List ae} {p:ad} (hR:sM l):eJ l p=if r4 l p<l.length/\(aU l (r4 l p)).bc=p then(r4 l p:Int)else -1:=by
 by_cases h:∃i,i<l.length/\(aU l i).bc=p
 ·obtain⟨i,hi,hp⟩:=h
  have h1:r4 l p=i:=zL (by omega) (fun x hx=>by rw[<-hp];exact hR x i hx hi) fun _=>by rw[hp];exact mZ
  have h2:qM l p=i:=by
   rw[qM,List.findIdx_eq hi]
   refine⟨by rw[ij hi]at hp;simpa using hp,fun j hj=>?_⟩
   have:=hR j i hj hi
   rw[hp,ij (by omega)]at this
   simp only[decide_eq_false_iff_not]
   intro hc
   rw[hc,mZ]at this
   cases this
  rw[eJ,h1,h2,if_pos hi,if_pos ⟨hi,hp⟩]
 ·have h2:¬qM l p<l.length:=by
   rw[qM,List.findIdx_lt_length]
   rintro⟨c,hc,he⟩
   obtain⟨j,hj,rfl⟩:=List.getElem_of_mem hc
   exact h ⟨j,hj,by rw[ij hj];simpa using he⟩
  rw[eJ,if_neg h2,if_neg]
  rintro⟨h3,h4⟩
  exact h ⟨_,h3,h4⟩
theorem kD {l:List ae} {p:ad} (h:0<=eJ l p):(eJ l p).toNat<l.length/\(aU l (eJ l p).toNat).bc=p:=by
 unfold eJ at h ⊢
 split at h
 ·rename_i hc
  rw[if_pos hc]
  refine⟨by omega,?_⟩
  have:=of_decide_eq_true (List.findIdx_getElem (p:=fun c:ae=>decide (c.bc=p)) (xs:=l) (w:=hc))
  rw[Int.toNat_natCast,ij hc]
  exact this
 ·omega
def gR (l:List ae) (p:ad):Int:=if 0<=eJ l p then(aU l (eJ l p).toNat).bU else -1
end Go.Proofs.YtgoelphibofcmaaGreat.V

namespace Go.Proofs.YtgoelphibofcmaaGreat.V
open Go.RowKit
attribute [local irreducible] ek wpOps gq Call
attribute [local go_sem] aH fF eK ga fZ da upd ck K.av cH AV.cells AV.cell rowOf rowsOf part ld rowAt bF cj dy dW gU bG cX eh fY eU dn ea cV cU dH dI bJ aW cK bI cN cL dY eb dZ cJ bL cW dX bH aL cQ cC gT bj cF bK aT du bf dz AV.undef bw bE dM dU dE dJ cE ef ep cw ee ec cP cR List.getD_cons_zero List.getD_cons_succ List.getD_nil List.all_cons List.all_nil Bool.and_true Bool.true_and Bool.and_self Bool.not_true Bool.not_false Option.map_some Option.map_none Option.bind_some Option.bind_none List.length_cons List.length_nil List.take_succ_cons List.take_zero List.take_nil List.drop_succ_cons List.drop_zero List.drop_nil List.head?_cons List.map_cons List.map_nil List.getElem?_cons_zero List.getElem?_cons_succ List.cons_append List.nil_append List.append_nil List.length_map List.set_cons_zero List.set_cons_succ Nat.reduceMul eq_self Int.toNat_natCast Int.natCast_nonneg and_self true_and and_true decide_true decide_false Bool.false_eq_true Nat.zero_add Nat.add_zero List.contains_cons List.contains_nil Bool.or_false Bool.false_or beq_self_eq_true Nat.reduceBEq ne_eq not_true_eq_false not_false_eq_true Id.mk.injEq false_and and_false Nat.reduceLT Int.reduceLE Int.reduceLT Int.reduceToNat Int.reduceNeg Int.reduceAdd Nat.le_refl List.length_append beq_true beq_false Bool.not_eq_eq_eq_not or_false false_or dF ai ao aG aZ bt bW aP aY aQ aV cI bD
theorem oe (a b:ad):aq Tryz.prog 160 [.agg (ab a),.agg (ab b)] (.bool (kE a b)):=by
 refine aq.body eL rfl fun hl n0=>?_
 clear hl
 by_cases h0:a.eF<b.eF
 ·(try((repeat(revert hN;revert N;apply Pn.out));refine wk (tw @ab.eq_1 @h0) ?_;(repeat(refine Pn.mk ?_;intro N hN))))
  exact aX (b:=true) (.inl rfl) (sd @Nat.zero_add) (by simp[kE,h0])
 ·by_cases h1:a.eF=b.eF
  ·have h2:¬b.eF<b.eF:=by omega
   (try((repeat(revert hN;revert N;apply Pn.out));refine wk (tw @ab.eq_1 (tw @h1 @h2)) ?_;(repeat(refine Pn.mk ?_;intro N hN))))
   exact aX (b:=decide (a.eI<b.eI)) (.inl rfl) (sd @Nat.zero_add) (by simp[kE,h1])
  ·(try((repeat(revert hN;revert N;apply Pn.out));refine wk (tw @ab.eq_1 (tw @h0 @h1)) ?_;(repeat(refine Pn.mk ?_;intro N hN))))
   exact aX (b:=false) (.inl rfl) (sd @Nat.zero_add) (by simp[kE,h0,h1])
theorem gw {l:List ae} {i:Nat} (h:i<l.length):(l.map aj)[i]? =some (aj (aU l i)):=getD_map aj h
def F1 (l:List ae) (i:Nat):Prop:=zZ (aU l i).bc=true/\iO (aU l i).bU 0 159=true/\(0<i->kE (aU l (i-1)).bc (aU l i).bc=true)
structure ki (l:List ae):Prop where
 Bd:l.length<=500
 ok:∀i,i<l.length->F1 l i
noncomputable def oI (l:List ae):Bool:=@decide (ki l) (Classical.propDecidable _)
theorem Gs {l:List ae}:oI l=true↔ki l:=by simp[oI]
theorem jZ {l:List ae} (h:¬ki l):false=oI l:=by simp[oI,h]
theorem ye {l:List ae} (h:ki l):true=oI l:=by simp[oI,h]
theorem ki.NB {l:List ae} (h:ki l):sM l:=by
 intro i j DO hj
 induction j with
 |zero=>omega
 |succ j ih=>
  have h1:=(h.ok (j+1) hj).2.2 (by omega)
  rw[Nat.add_sub_cancel]at h1
  by_cases he:i=j
  ·subst he;exact h1
  ·exact iy (ih (by omega) (by omega)) h1
theorem ki.pt {l:List ae} (h:ki l) {i:Nat} (hi:i<l.length):zZ (aU l i).bc=true:=(h.ok i hi).1
theorem te {p:ad} (h:zZ p=true):iB p.eI/\iB p.eF:=by
 unfold zZ at h
 simp only[Bool.and_eq_true]at h
 have:=eu h.1;have:=eu h.2
 unfold iB;omega
theorem GQ (l:List ae):aq Tryz.prog 159 [.dm [.sl (l.map aj)]] (.bool (oI l)):=by
 refine aq.body eL rfl fun hl n0=>?_
 clear hl
 by_cases h1:(500:Int)<(l.length:Int)
 ·(try((repeat(revert hN;revert N;apply Pn.out));refine wk @h1 ?_;(repeat(refine Pn.mk ?_;intro N hN))))
  exact aX (b:=false) (.inl rfl) (sd @Nat.zero_add) (jZ fun h=>by have:=h.Bd;omega)
 (try((repeat(revert hN;revert N;apply Pn.out));refine wk @h1 ?_;(repeat(refine Pn.mk ?_;intro N hN))))
 refine aM (fun n env st=>∃k:Nat,n=(l.length)-k/\k<=(l.length)/\env 3=.int .i64 (k:Int)/\(∀j:Nat,j<k->F1 l j)) (l.length) ⟨0,by omega,by omega,sl @Nat.zero_add,fun _ h=>absurd h (Nat.not_lt_zero _)⟩ ?_
 rintro n_a env_a st_a ⟨k,rfl,ale,a3,kN⟩ di
 have a0:=di 0 (by kernel_rfl)
 simp only[go_sem, ↓reduceIte,Nat.reduceEqDiff,Nat.reduceAdd,Nat.reduceSub,Nat.reduceLeDiff,reduceCtorEq]at a0
 clear di
 by_cases hk:(k:Int)<(l.length:Int)
 ·have cz:∀{e:Env},(e 3=.int .i64 (IntKind.i64.wrap ((k:Int)+1)))->(F1 l k)->∃m0,m0<(l.length)-k/\∃k:Nat,m0=(l.length)-k/\k<=(l.length)/\e 3=.int .i64 (k:Int)/\(∀j:Nat,j<k->F1 l j):=fun x1 x2=>⟨_,by omega,k+1,rfl,by omega,(by rw[x1,az (by omega)]),(all_succ kN x2)⟩
  have eX:k<l.length:=by omega
  have eM:=gw eX
  have lr:(¬F1 l k)->¬ki l:=fun h hp=>h (hp.ok k eX)
  have hp:=v7 (aU l k).bc
  have ht:=lJ (aU l k).bU 0 159
  cases b1:zZ (aU l k).bc
  ·rw[b1]at hp
   (repeat(first|((repeat(revert hN;revert N;apply Pn.out));refine wk (tw @a3 (tw @a0 (tw @hk (tw @eM (tw @aj.eq_1 @ab.eq_1))))) ?_;(repeat(refine Pn.mk ?_;intro N hN)))|((try apply Or.inl);refine⟨_,aq.x (hp) (sd (tw @a3 (tw @a0 (tw @hk (tw @eM (tw @aj.eq_1 @ab.eq_1)))))),?_⟩;refine hN _ _ ?_;clear hN N)))
   exact aX (b:=false) (.inl rfl) (sd @Nat.zero_add) (jZ (lr fun h=>by rw[F1,b1]at h;cases h.1))
  rw[b1]at hp
  cases b2:iO (aU l k).bU 0 159
  ·rw[b2]at ht
   (repeat(first|((repeat(revert hN;revert N;apply Pn.out));refine wk (tw @a3 (tw @a0 (tw @hk (tw @eM (tw @aj.eq_1 @ab.eq_1))))) ?_;(repeat(refine Pn.mk ?_;intro N hN)))|((try apply Or.inl);refine⟨_,aq.x (hp) (sd (tw @a3 (tw @a0 (tw @hk (tw @eM (tw @aj.eq_1 @ab.eq_1)))))),?_⟩;refine hN _ _ ?_;clear hN N)|((try apply Or.inl);refine⟨_,aq.x (ht) (sd (tw @a3 (tw @a0 (tw @hk (tw @eM (tw @aj.eq_1 @ab.eq_1)))))),?_⟩;refine hN _ _ ?_;clear hN N)))
   exact aX (b:=false) (.inl rfl) (sd @Nat.zero_add) (jZ (lr fun h=>by rw[F1,b2]at h;cases h.2.1))
  rw[b2]at ht
  by_cases h0:(0:Int)<(k:Int)
  ·have sH:=gw (l:=l) (i:=k-1) (by omega)
   have hw:IntKind.i64.wrap ((k:Int)-1)=((k-1:Nat):Int):=by rw[bx (by have:=eX;omega)];omega
   have hq:=oe (aU l (k-1)).bc (aU l k).bc
   cases b3:kE (aU l (k-1)).bc (aU l k).bc
   ·rw[b3]at hq
    (repeat(first|((repeat(revert hN;revert N;apply Pn.out));refine wk (tw @a3 (tw @a0 (tw @hk (tw @eM (tw @sH (tw @h0 (tw @hw (tw @aj.eq_1 @ab.eq_1)))))))) ?_;(repeat(refine Pn.mk ?_;intro N hN)))|((try apply Or.inl);refine⟨_,aq.x (hp) (sd (tw @a3 (tw @a0 (tw @hk (tw @eM (tw @sH (tw @h0 (tw @hw (tw @aj.eq_1 @ab.eq_1))))))))),?_⟩;refine hN _ _ ?_;clear hN N)|((try apply Or.inl);refine⟨_,aq.x (ht) (sd (tw @a3 (tw @a0 (tw @hk (tw @eM (tw @sH (tw @h0 (tw @hw (tw @aj.eq_1 @ab.eq_1))))))))),?_⟩;refine hN _ _ ?_;clear hN N)|((try apply Or.inl);refine⟨_,aq.x (hq) (sd (tw @a3 (tw @a0 (tw @hk (tw @eM (tw @sH (tw @h0 (tw @hw (tw @aj.eq_1 @ab.eq_1))))))))),?_⟩;refine hN _ _ ?_;clear hN N)))
    exact aX (b:=false) (.inl rfl) (sd @Nat.zero_add) (jZ (lr fun h=>by have:=h.2.2 (by omega);rw[b3]at this;cases this))
   ·rw[b3]at hq
    (repeat(first|((repeat(revert hN;revert N;apply Pn.out));refine wk (tw @a3 (tw @a0 (tw @hk (tw @eM (tw @sH (tw @h0 (tw @hw (tw @aj.eq_1 @ab.eq_1)))))))) ?_;(repeat(refine Pn.mk ?_;intro N hN)))|((try apply Or.inl);refine⟨_,aq.x (hp) (sd (tw @a3 (tw @a0 (tw @hk (tw @eM (tw @sH (tw @h0 (tw @hw (tw @aj.eq_1 @ab.eq_1))))))))),?_⟩;refine hN _ _ ?_;clear hN N)|((try apply Or.inl);refine⟨_,aq.x (ht) (sd (tw @a3 (tw @a0 (tw @hk (tw @eM (tw @sH (tw @h0 (tw @hw (tw @aj.eq_1 @ab.eq_1))))))))),?_⟩;refine hN _ _ ?_;clear hN N)|((try apply Or.inl);refine⟨_,aq.x (hq) (sd (tw @a3 (tw @a0 (tw @hk (tw @eM (tw @sH (tw @h0 (tw @hw (tw @aj.eq_1 @ab.eq_1))))))))),?_⟩;refine hN _ _ ?_;clear hN N)))
    exact cz (sd (tw @a3 @a0)) (⟨b1,b2,fun _=>b3⟩)
  ·have xl:k=0:=by omega
   (repeat(first|((repeat(revert hN;revert N;apply Pn.out));refine wk (tw @a3 (tw @a0 (tw @hk (tw @eM (tw @h0 (tw @aj.eq_1 @ab.eq_1)))))) ?_;(repeat(refine Pn.mk ?_;intro N hN)))|((try apply Or.inl);refine⟨_,aq.x (hp) (sd (tw @a3 (tw @a0 (tw @hk (tw @eM (tw @h0 (tw @aj.eq_1 @ab.eq_1))))))),?_⟩;refine hN _ _ ?_;clear hN N)|((try apply Or.inl);refine⟨_,aq.x (ht) (sd (tw @a3 (tw @a0 (tw @hk (tw @eM (tw @h0 (tw @aj.eq_1 @ab.eq_1))))))),?_⟩;refine hN _ _ ?_;clear hN N)))
   exact cz (sd (tw @a3 @a0)) (⟨b1,b2,fun h=>by omega⟩)
 ·(try((repeat(revert hN;revert N;apply Pn.out));refine wk (tw @a3 (tw @a0 @hk)) ?_;(repeat(refine Pn.mk ?_;intro N hN))))
  exact aX (b:=true) (.inl rfl) (sd @Nat.zero_add) (ye ⟨by omega,fun i hi=>kN i (by omega)⟩)
theorem x7 (a b:Int):aq Tryz.prog 178 [.int .i64 a,.int .i64 b] (.int .i64 (rL a b)):=by
 have nan:∀x:Int,aq Tryz.prog 208 [.int .i64 x] (.bool false):=fun x=>by
  refine aq.body eL rfl fun hl n0=>?_
  clear hl
  have e:decide (x=x)=true:=decide_eq_true rfl
  (try((repeat(revert hN;revert N;apply Pn.out));refine wk @e ?_;(repeat(refine Pn.mk ?_;intro N hN))))
  exact aX (b:=false) (.inl rfl) (sd @Nat.zero_add) rfl
 refine aq.body eL rfl fun hl n0=>?_
 clear hl
 have ha:=nan a
 have hb:=nan b
 by_cases h1:a<b
 ·(repeat(first|((repeat(revert hN;revert N;apply Pn.out));refine wk @h1 ?_;(repeat(refine Pn.mk ?_;intro N hN)))|((try apply Or.inl);refine⟨_,aq.x (ha) (sd @h1),?_⟩;refine hN _ _ ?_;clear hN N)|((try apply Or.inl);refine⟨_,aq.x (hb) (sd @h1),?_⟩;refine hN _ _ ?_;clear hN N)))
  exact cD (b:=-1) (.inl rfl) (sd @Nat.zero_add) (by rw[rL,if_pos h1])
 by_cases h2:b<a
 ·(repeat(first|((repeat(revert hN;revert N;apply Pn.out));refine wk (tw @h1 @h2) ?_;(repeat(refine Pn.mk ?_;intro N hN)))|((try apply Or.inl);refine⟨_,aq.x (ha) (sd (tw @h1 @h2)),?_⟩;refine hN _ _ ?_;clear hN N)|((try apply Or.inl);refine⟨_,aq.x (hb) (sd (tw @h1 @h2)),?_⟩;refine hN _ _ ?_;clear hN N)))
  exact cD (b:=1) (.inl rfl) (sd @Nat.zero_add) (by rw[rL,if_neg h1,if_pos h2])
 ·(repeat(first|((repeat(revert hN;revert N;apply Pn.out));refine wk (tw @h1 @h2) ?_;(repeat(refine Pn.mk ?_;intro N hN)))|((try apply Or.inl);refine⟨_,aq.x (ha) (sd (tw @h1 @h2)),?_⟩;refine hN _ _ ?_;clear hN N)|((try apply Or.inl);refine⟨_,aq.x (hb) (sd (tw @h1 @h2)),?_⟩;refine hN _ _ ?_;clear hN N)))
  exact cD (b:=0) (.inl rfl) (sd @Nat.zero_add) (by rw[rL,if_neg h1,if_neg h2])
def HP:List Int->Int
 |[]=>0
 |a::r=>if a=0 then HP r else a
theorem JK:∀{l:List Int} {k:Nat} (hk:k<l.length),l[k]≠0->(∀j (h:j<l.length),j<k->l[j]=0)->HP l=l[k]
 |a::r,0,_,h,_=>by
  have h':a≠0:=h
  rw[HP,if_neg h'];rfl
 |a::r,k+1,hk,h,h0=>by
  have h':a=0:=h0 0 (by simp) (by omega)
  rw[HP,if_pos h',JK (k:=k) (by simpa using hk) h fun j hj ym=>h0 (j+1) (by simpa using hj) (by omega)];rfl
theorem Ch:∀{l:List Int},(∀j (h:j<l.length),l[j]=0)->HP l=0
 |[],_=>rfl
 |a::r,h=>by
  have h':a=0:=h 0 (by simp)
  rw[HP,if_pos h',Ch fun j hj=>h (j+1) (by simpa using hj)]
theorem Mn (a b:Int):HP [a,b]=Mm a b:=by
 unfold Mm
 by_cases h:a=0
 ·rw[HP,if_pos h,if_pos h,HP,HP];split<;>simp_all
 ·rw[HP,if_neg h,if_neg h]
theorem K6 (l:List Int):aq Tryz.prog 177 [.sl (l.map aw)] (.int .i64 (HP l)):=by
 refine aq.body eL rfl fun hl n0=>?_
 have hlen:l.length<=9223372036854775807:=by simpa using(hl (.sl (l.map aw)) (by simp)).len
 clear hl
 (try((repeat(revert hN;revert N;apply Pn.out));refine wk @Nat.zero_add ?_;(repeat(refine Pn.mk ?_;intro N hN))))
 refine aM (fun n env st=>∃k:Nat,n=(l.length)-k/\k<=(l.length)/\env 8=.int .i64 (k:Int)/\(∀j:Nat,j<k->∀h:j<l.length,l[j]=0)) (l.length) ⟨0,by omega,by omega,sl @Nat.zero_add,fun _ h=>absurd h (Nat.not_lt_zero _)⟩ ?_
 rintro n_a env_a st_a ⟨k,rfl,ale,a8,kN⟩ di
 have a3:=di 3 (by kernel_rfl);have a6:=di 6 (by kernel_rfl);have a7:=di 7 (by kernel_rfl)
 simp only[go_sem, ↓reduceIte,Nat.reduceEqDiff,Nat.reduceAdd,Nat.reduceSub,Nat.reduceLeDiff,reduceCtorEq]at a3 a6 a7
 clear di
 by_cases hk:(k:Int)<(l.length:Int)
 ·have cz:∀{e:Env},(e 8=.int .i64 (IntKind.i64.wrap ((k:Int)+1)))->(∀h:k<l.length,l[k]=0)->∃m0,m0<(l.length)-k/\∃k:Nat,m0=(l.length)-k/\k<=(l.length)/\e 8=.int .i64 (k:Int)/\(∀j:Nat,j<k->∀h:j<l.length,l[j]=0):=fun x1 x2=>⟨_,by omega,k+1,rfl,by omega,(by rw[x1,az (by omega)]),(all_succ kN x2)⟩
  have eX:k<l.length:=by omega
  have eM:(l.map aw)[k]? =some (aw l[k]):=by simp[eX]
  generalize hv:l[k]=v at eM
  by_cases h0:v=0
  ·have e:decide (v=0)=true:=decide_eq_true h0
   (try((repeat(revert hN;revert N;apply Pn.out));refine wk (tw @a8 (tw @a3 (tw @a6 (tw @a7 (tw @e (tw @hk (tw @eM @aw.eq_1))))))) ?_;(repeat(refine Pn.mk ?_;intro N hN))))
   exact cz (sd (tw @a8 (tw @a3 (tw @a6 @a7)))) (fun _=>hv.trans h0)
  ·have e:decide (v=0)=false:=decide_eq_false h0
   (try((repeat(revert hN;revert N;apply Pn.out));refine wk (tw @a8 (tw @a3 (tw @a6 (tw @a7 (tw @e (tw @hk (tw @eM @aw.eq_1))))))) ?_;(repeat(refine Pn.mk ?_;intro N hN))))
   exact cD (b:=v) (.inl rfl) (sd @Nat.zero_add) (by rw[JK eX (by rw[hv];exact h0) fun j h hj=>kN j hj h,hv])
 ·(try((repeat(revert hN;revert N;apply Pn.out));refine wk (tw @a8 (tw @a3 (tw @a6 (tw @a7 @hk)))) ?_;(repeat(refine Pn.mk ?_;intro N hN))))
  exact cD (b:=0) (.inl rfl) (sd @Nat.zero_add) (by rw[Ch fun j h=>kN j (by omega) h])
section
attribute [local go_sem] List.drop_zero List.take_succ_cons List.take_zero List.length_cons List.length_nil iw zp oJ
theorem nD (a b:ad):aq Tryz.prog 130 [.agg (ab a),.agg (ab b)] (.int .i64 (pP a b)):=by
 refine aq.body eL rfl fun hl n0=>?_
 clear hl
 have h1:=x7 a.eF b.eF
 have h2:=x7 a.eI b.eI
 have h3:=K6 [rL a.eF b.eF,rL a.eI b.eI]
 rw[Mn,List.map_cons,List.map_cons,List.map_nil,aw,aw]at h3
 (repeat(first|((repeat(revert hN;revert N;apply Pn.out));refine wk @ab.eq_1 ?_;(repeat(refine Pn.mk ?_;intro N hN)))|((try apply Or.inl);refine⟨_,aq.x (h1) (sd @ab.eq_1),?_⟩;refine hN _ _ ?_;clear hN N)|((try apply Or.inl);refine⟨_,aq.x (h2) (sd @ab.eq_1),?_⟩;refine hN _ _ ?_;clear hN N)|((try apply Or.inl);refine⟨_,aq.x (h3) (sd @ab.eq_1),?_⟩;refine hN _ _ ?_;clear hN N)))
 exact cD (b:=pP a b) (.inl rfl) (by simp only[go_sem, ↓reduceIte,Nat.reduceEqDiff,Nat.reduceAdd,Nat.reduceSub,Nat.reduceLeDiff,reduceCtorEq,pP]) rfl
end
theorem LR (a b:ad):aq Tryz.prog 201 [.agg (ab a),.agg (ab b)] (.bool (kE a b)):=by
 refine aq.body eL rfl fun hl n0=>?_
 clear hl
 have h1:=nD a b
 rw[ab,ab]at h1
 (repeat(first|((repeat(revert hN;revert N;apply Pn.out));refine wk @ab.eq_1 ?_;(repeat(refine Pn.mk ?_;intro N hN)))|((try apply Or.inl);refine⟨_,aq.x (h1) (sd @ab.eq_1),?_⟩;refine hN _ _ ?_;clear hN N)))
 exact aX (b:=decide (pP a b<0)) (.inl rfl) (sd @Nat.zero_add) (mQ a b)
theorem ke (t:ae) (p:ad):aq Tryz.prog 143 [.agg (aj t),.agg (ab p)] (.int .i64 (pP t.bc p)):=by
 refine aq.body eL rfl fun hl n0=>?_
 clear hl
 have h1:=nD t.bc p
 rw[ab,ab]at h1
 (repeat(first|((repeat(revert hN;revert N;apply Pn.out));refine wk (tw @aj.eq_1 @ab.eq_1) ?_;(repeat(refine Pn.mk ?_;intro N hN)))|((try apply Or.inl);refine⟨_,aq.x (h1) (sd (tw @aj.eq_1 @ab.eq_1)),?_⟩;refine hN _ _ ?_;clear hN N)))
 exact cD (b:=pP t.bc p) (.inl rfl) (sd @Nat.zero_add) rfl
theorem Gw (l:List ae):aq Tryz.prog 165 [.agg [.sl (l.map aj)]] (.bool (oI l)):=by
 refine aq.body eL rfl fun hl n0=>?_
 have hlen:l.length<=9223372036854775807:=by
  have h1:=(hl (.agg [.sl (l.map aj)]) (by simp)).NS (a:=.sl (l.map aj)) (by simp)
  simpa using h1.len
 clear hl
 (try((repeat(revert hN;revert N;apply Pn.out));refine wk @Nat.zero_add ?_;(repeat(refine Pn.mk ?_;intro N hN))))
 refine aM (fun n env st=>∃k:Nat,n=(l.length)-k/\k<=(l.length)/\env 8=.int .i64 (k:Int)/\st.get ⟨165000000,n0⟩=some ⟨true,1,[[.sl (l.map aj)]]⟩/\(∀j:Nat,j<k->F1 l j)) (l.length) ⟨0,by omega,by omega,sl @Nat.zero_add,sl @Nat.zero_add,fun _ h=>absurd h (Nat.not_lt_zero _)⟩ ?_
 rintro n_a env_a st_a ⟨k,rfl,ale,a8,ag0,kN⟩ di
 have a1:=di 1 (by kernel_rfl);have a6:=di 6 (by kernel_rfl);have a7:=di 7 (by kernel_rfl)
 simp only[go_sem, ↓reduceIte,Nat.reduceEqDiff,Nat.reduceAdd,Nat.reduceSub,Nat.reduceLeDiff,reduceCtorEq]at a1 a6 a7
 clear di
 by_cases hk:(k:Int)<(l.length:Int)
 ·have cz:∀{e:Env} {gg:Rows},(e 8=.int .i64 (IntKind.i64.wrap ((k:Int)+1)))->(gg ⟨165000000,n0⟩=some ⟨true,1,[[.sl (l.map aj)]]⟩)->(F1 l k)->∃m0,m0<(l.length)-k/\∃k:Nat,m0=(l.length)-k/\k<=(l.length)/\e 8=.int .i64 (k:Int)/\gg ⟨165000000,n0⟩=some ⟨true,1,[[.sl (l.map aj)]]⟩/\(∀j:Nat,j<k->F1 l j):=fun x1 x2 x3=>⟨_,by omega,k+1,rfl,by omega,(by rw[x1,az (by omega)]),x2,(all_succ kN x3)⟩
  have eX:k<l.length:=by omega
  have eM:=gw eX
  have lr:(¬F1 l k)->¬ki l:=fun h hp=>h (hp.ok k eX)
  have hp:=rC (aU l k).bc
  have ht:=yC (aU l k).bU 160 (by omega) (by omega)
  rw[show(160:Int)-1=159 from rfl]at ht
  cases b1:zZ (aU l k).bc
  ·rw[b1]at hp
   (repeat(first|((repeat(revert hN;revert N;apply Pn.out));refine wk (tw @a8 (tw @ag0 (tw @a1 (tw @a6 (tw @a7 (tw @hk (tw @eM (tw @aj.eq_1 @ab.eq_1)))))))) ?_;(repeat(refine Pn.mk ?_;intro N hN)))|((try apply Or.inl);refine⟨_,aq.x (hp) (sd (tw @a8 (tw @ag0 (tw @a1 (tw @a6 (tw @a7 (tw @hk (tw @eM (tw @aj.eq_1 @ab.eq_1))))))))),?_⟩;refine hN _ _ ?_;clear hN N)))
   exact aX (b:=false) (.inl rfl) (sd @Nat.zero_add) (jZ (lr fun h=>by rw[F1,b1]at h;cases h.1))
  rw[b1]at hp
  cases b2:iO (aU l k).bU 0 159
  ·rw[b2]at ht
   (repeat(first|((repeat(revert hN;revert N;apply Pn.out));refine wk (tw @a8 (tw @ag0 (tw @a1 (tw @a6 (tw @a7 (tw @hk (tw @eM (tw @aj.eq_1 @ab.eq_1)))))))) ?_;(repeat(refine Pn.mk ?_;intro N hN)))|((try apply Or.inl);refine⟨_,aq.x (hp) (sd (tw @a8 (tw @ag0 (tw @a1 (tw @a6 (tw @a7 (tw @hk (tw @eM (tw @aj.eq_1 @ab.eq_1))))))))),?_⟩;refine hN _ _ ?_;clear hN N)|((try apply Or.inl);refine⟨_,aq.x (ht) (sd (tw @a8 (tw @ag0 (tw @a1 (tw @a6 (tw @a7 (tw @hk (tw @eM (tw @aj.eq_1 @ab.eq_1))))))))),?_⟩;refine hN _ _ ?_;clear hN N)))
   exact aX (b:=false) (.inl rfl) (sd @Nat.zero_add) (jZ (lr fun h=>by rw[F1,b2]at h;cases h.2.1))
  rw[b2]at ht
  by_cases h0:(0:Int)<(k:Int)
  ·have sH:=gw (l:=l) (i:=k-1) (by omega)
   have hw:IntKind.i64.wrap ((k:Int)-1)=((k-1:Nat):Int):=by rw[bx (by omega)];omega
   have hq:=LR (aU l (k-1)).bc (aU l k).bc
   cases b3:kE (aU l (k-1)).bc (aU l k).bc
   ·rw[b3]at hq
    (repeat(first|((repeat(revert hN;revert N;apply Pn.out));refine wk (tw @a8 (tw @ag0 (tw @a1 (tw @a6 (tw @a7 (tw @hk (tw @eM (tw @sH (tw @h0 (tw @hw (tw @aj.eq_1 @ab.eq_1))))))))))) ?_;(repeat(refine Pn.mk ?_;intro N hN)))|((try apply Or.inl);refine⟨_,aq.x (hp) (sd (tw @a8 (tw @ag0 (tw @a1 (tw @a6 (tw @a7 (tw @hk (tw @eM (tw @sH (tw @h0 (tw @hw (tw @aj.eq_1 @ab.eq_1)))))))))))),?_⟩;refine hN _ _ ?_;clear hN N)|((try apply Or.inl);refine⟨_,aq.x (ht) (sd (tw @a8 (tw @ag0 (tw @a1 (tw @a6 (tw @a7 (tw @hk (tw @eM (tw @sH (tw @h0 (tw @hw (tw @aj.eq_1 @ab.eq_1)))))))))))),?_⟩;refine hN _ _ ?_;clear hN N)|((try apply Or.inl);refine⟨_,aq.x (hq) (sd (tw @a8 (tw @ag0 (tw @a1 (tw @a6 (tw @a7 (tw @hk (tw @eM (tw @sH (tw @h0 (tw @hw (tw @aj.eq_1 @ab.eq_1)))))))))))),?_⟩;refine hN _ _ ?_;clear hN N)))
    exact aX (b:=false) (.inl rfl) (sd @Nat.zero_add) (jZ (lr fun h=>by have:=h.2.2 (by omega);rw[b3]at this;cases this))
   ·rw[b3]at hq
    (repeat(first|((repeat(revert hN;revert N;apply Pn.out));refine wk (tw @a8 (tw @ag0 (tw @a1 (tw @a6 (tw @a7 (tw @hk (tw @eM (tw @sH (tw @h0 (tw @hw (tw @aj.eq_1 @ab.eq_1))))))))))) ?_;(repeat(refine Pn.mk ?_;intro N hN)))|((try apply Or.inl);refine⟨_,aq.x (hp) (sd (tw @a8 (tw @ag0 (tw @a1 (tw @a6 (tw @a7 (tw @hk (tw @eM (tw @sH (tw @h0 (tw @hw (tw @aj.eq_1 @ab.eq_1)))))))))))),?_⟩;refine hN _ _ ?_;clear hN N)|((try apply Or.inl);refine⟨_,aq.x (ht) (sd (tw @a8 (tw @ag0 (tw @a1 (tw @a6 (tw @a7 (tw @hk (tw @eM (tw @sH (tw @h0 (tw @hw (tw @aj.eq_1 @ab.eq_1)))))))))))),?_⟩;refine hN _ _ ?_;clear hN N)|((try apply Or.inl);refine⟨_,aq.x (hq) (sd (tw @a8 (tw @ag0 (tw @a1 (tw @a6 (tw @a7 (tw @hk (tw @eM (tw @sH (tw @h0 (tw @hw (tw @aj.eq_1 @ab.eq_1)))))))))))),?_⟩;refine hN _ _ ?_;clear hN N)))
    refine cz ?_ ?_ (⟨b1,b2,fun _=>b3⟩)
    all_goals simp only[go_sem, ↓reduceIte,Nat.reduceEqDiff,Nat.reduceAdd,Nat.reduceSub,Nat.reduceLeDiff,reduceCtorEq,a8,ag0,a1,a6,a7]
  ·have xl:k=0:=by omega
   (repeat(first|((repeat(revert hN;revert N;apply Pn.out));refine wk (tw @a8 (tw @ag0 (tw @a1 (tw @a6 (tw @a7 (tw @hk (tw @eM (tw @h0 (tw @aj.eq_1 @ab.eq_1))))))))) ?_;(repeat(refine Pn.mk ?_;intro N hN)))|((try apply Or.inl);refine⟨_,aq.x (hp) (sd (tw @a8 (tw @ag0 (tw @a1 (tw @a6 (tw @a7 (tw @hk (tw @eM (tw @h0 (tw @aj.eq_1 @ab.eq_1)))))))))),?_⟩;refine hN _ _ ?_;clear hN N)|((try apply Or.inl);refine⟨_,aq.x (ht) (sd (tw @a8 (tw @ag0 (tw @a1 (tw @a6 (tw @a7 (tw @hk (tw @eM (tw @h0 (tw @aj.eq_1 @ab.eq_1)))))))))),?_⟩;refine hN _ _ ?_;clear hN N)))
   refine cz ?_ ?_ (⟨b1,b2,fun h=>by omega⟩)
   all_goals simp only[go_sem, ↓reduceIte,Nat.reduceEqDiff,Nat.reduceAdd,Nat.reduceSub,Nat.reduceLeDiff,reduceCtorEq,a8,ag0,a1,a6,a7]
 ·(try((repeat(revert hN;revert N;apply Pn.out));refine wk (tw @a8 (tw @ag0 (tw @a1 (tw @a6 (tw @a7 @hk))))) ?_;(repeat(refine Pn.mk ?_;intro N hN))))
  refine aX (b:=decide ((l.length:Int)<=500)) (.inl rfl) (sd @Nat.zero_add) ?_
  by_cases h5:(l.length:Int)<=500
  ·rw[decide_eq_true h5];exact ye ⟨by omega,fun i hi=>kN i (by omega)⟩
  ·rw[decide_eq_false h5];exact jZ fun h=>by have:=h.Bd;omega
theorem Gb (cells:List ae) (p:ad) (hR:sM cells) (Oi:cells.length<=1048576):
  aq Tryz.prog 142 [.sl (cells.map aj),.agg (ab p),.fn 143 []] (.iC [.int .i64 (r4 cells p),.bool (decide (r4 cells p<cells.length)&&decide ((aU cells (r4 cells p)).bc=p))]):=by
 refine aq.body eL rfl fun hl n0=>?_
 clear hl
 (try((repeat(revert hN;revert N;apply Pn.out));refine wk @ab.eq_1 ?_;(repeat(refine Pn.mk ?_;intro N hN))))
 refine aM (fun n env st=>∃i j:Nat,n=j-i/\i<=j/\j<=cells.length/\(∀x,x<i->kE (aU cells x).bc p=true)/\(∀x,j<=x->x<cells.length->kE (aU cells x).bc p=false)/\env 9=.int .i64 i/\env 10=.int .i64 j/\st.get ⟨142000000,n0⟩=some ⟨true,2,[ab p]⟩) cells.length ⟨0,cells.length,by omega,by omega,by omega,fun x h=>by omega,fun x h1 h2=>by omega,by(simp only[go_sem, ↓reduceIte,Nat.reduceEqDiff,Nat.reduceAdd,Nat.reduceSub,Nat.reduceLeDiff,reduceCtorEq])<;>rfl,sd @Nat.zero_add,sd @ab.eq_1⟩ ?_
 rintro n env st ⟨i,j,rfl,DO,hj,j5,CI,h9,h10,hg⟩ fr
 have h0:=fr 0 (by kernel_rfl)
 have h2:=fr 2 (by kernel_rfl)
 have h4:=fr 4 (by kernel_rfl)
 have h8:=fr 8 (by kernel_rfl)
 simp only[go_sem, ↓reduceIte,Nat.reduceEqDiff,Nat.reduceAdd,Nat.reduceSub,Nat.reduceLeDiff,reduceCtorEq]at h0 h2 h4 h8
 clear fr
 by_cases dR:(i:Int)<(j:Int)
 ·have e1:IntKind.i64.wrap ((i:Int)+j)=((i+j:Nat):Int):=by rw[bx (by omega)];rfl
  have hm:(i+j) / 2<cells.length:=by omega
  have eZ:(cells.map aj)[(i+j) / 2]? =some (aj (aU cells ((i+j) / 2))):=gw (l:=cells) hm
  have e2:IntKind.i64.wrap ((IntKind.u64.wrap ((i+j:Nat):Int)).fdiv (2 ^ min 1 IntKind.u64.bits))=(((i+j) / 2:Nat):Int):=by
   have h:IntKind.u64.wrap ((i+j:Nat):Int)=((i+j:Nat):Int):=by rw[IntKind.wrap_u64];omega
   rw[h,show min 1 IntKind.u64.bits=1 from rfl,show((2:Int) ^ 1)=2 from rfl,Int.fdiv_eq_ediv_of_nonneg _ (by omega)]
   rw[bx (by omega)];omega
  have QQ:IntKind.i64.wrap ((IntKind.u64.wrap ((i+j:Nat):Int)).fdiv (2 ^ min 1 64))=(((i+j) / 2:Nat):Int):=e2
  have e3:=az (k:=(i+j) / 2) (by omega)
  by_cases hc:pP (aU cells ((i+j) / 2)).bc p<0
  ·have hl:kE (aU cells ((i+j) / 2)).bc p=true:=by rw[<-mQ];simpa using hc
   (repeat(first|((repeat(revert hN;revert N;apply Pn.out));refine wk (tw @h0 (tw @h2 (tw @h4 (tw @h8 (tw @h9 (tw @h10 (tw @hg (tw @dR (tw @e1 (tw @e2 (tw @QQ (tw @eZ (tw @hc (tw @aj.eq_1 @ab.eq_1)))))))))))))) ?_;(repeat(refine Pn.mk ?_;intro N hN)))|((try apply Or.inl);refine⟨_,aq.x (ke (aU cells ((i+j) / 2)) p) (sd (tw @h0 (tw @h2 (tw @h4 (tw @h8 (tw @h9 (tw @h10 (tw @hg (tw @dR (tw @e1 (tw @e2 (tw @QQ (tw @eZ (tw @hc (tw @aj.eq_1 @ab.eq_1))))))))))))))),?_⟩;refine hN _ _ ?_;clear hN N)))
   refine⟨_,?_,(i+j) / 2+1,j,rfl,by omega,hj,fun x hx=>?_,CI,sd @e3,sd @h10,sd (tw @hg @ab.eq_1)⟩
   ·omega
   ·by_cases O8:x=(i+j) / 2
    ·subst O8;exact hl
    ·exact iy (hR x _ (by omega) hm) hl
  ·have hl:kE (aU cells ((i+j) / 2)).bc p=false:=by rw[<-mQ];simpa using hc
   (repeat(first|((repeat(revert hN;revert N;apply Pn.out));refine wk (tw @h0 (tw @h2 (tw @h4 (tw @h8 (tw @h9 (tw @h10 (tw @hg (tw @dR (tw @e1 (tw @e2 (tw @QQ (tw @eZ (tw @hc (tw @aj.eq_1 @ab.eq_1)))))))))))))) ?_;(repeat(refine Pn.mk ?_;intro N hN)))|((try apply Or.inl);refine⟨_,aq.x (ke (aU cells ((i+j) / 2)) p) (sd (tw @h0 (tw @h2 (tw @h4 (tw @h8 (tw @h9 (tw @h10 (tw @hg (tw @dR (tw @e1 (tw @e2 (tw @QQ (tw @eZ (tw @hc (tw @aj.eq_1 @ab.eq_1))))))))))))))),?_⟩;refine hN _ _ ?_;clear hN N)))
   refine⟨_,?_,i,(i+j) / 2,rfl,by omega,by omega,j5,fun x h1 h2=>?_,sd @h9,sd (tw @e2 @QQ),sd (tw @hg @ab.eq_1)⟩
   ·omega
   ·by_cases O8:x=(i+j) / 2
    ·subst O8;exact hl
    ·rw[Bool.eq_false_iff]
     intro hc
     have h3:=iy (hR ((i+j) / 2) x (by omega) h2) hc
     rw[hl]at h3;cases h3
 ·have OH:i=j:=by omega
  subst OH
  have DP:r4 cells p=i:=zL hj j5 fun h=>CI i (Nat.le_refl _) h
  by_cases hn:(i:Int)<(cells.length:Int)
  ·have fU:i<cells.length:=by omega
   have eZ:(cells.map aj)[i]? =some (aj (aU cells i)):=gw (l:=cells) fU
   have hd:decide (pP (aU cells i).bc p=0)=decide ((aU cells i).bc=p):=by simp only[Gc]
   (repeat(first|((repeat(revert hN;revert N;apply Pn.out));refine wk (tw @h0 (tw @h2 (tw @h4 (tw @h8 (tw @h9 (tw @h10 (tw @hg (tw @dR (tw @hn (tw @eZ (tw @aj.eq_1 @ab.eq_1))))))))))) ?_;(repeat(refine Pn.mk ?_;intro N hN)))|((try apply Or.inl);refine⟨_,aq.x (ke (aU cells i) p) (sd (tw @h0 (tw @h2 (tw @h4 (tw @h8 (tw @h9 (tw @h10 (tw @hg (tw @dR (tw @hn (tw @eZ (tw @aj.eq_1 @ab.eq_1)))))))))))),?_⟩;refine hN _ _ ?_;clear hN N)))
   refine jw (.inl rfl) (r1:=.int .i64 i) (r2:=.bool (decide ((aU cells i).bc=p))) ?_ ?_ ?_
   ·simp only[go_sem, ↓reduceIte,Nat.reduceEqDiff,Nat.reduceAdd,Nat.reduceSub,Nat.reduceLeDiff,reduceCtorEq]
   ·simp only[go_sem, ↓reduceIte,Nat.reduceEqDiff,Nat.reduceAdd,Nat.reduceSub,Nat.reduceLeDiff,reduceCtorEq,hd]
   ·simp only[eT,bB,cr,eC,fR,Option.map_some,DP,fU,decide_true,Bool.true_and]
  ·have fU:¬i<cells.length:=by omega
   (try((repeat(revert hN;revert N;apply Pn.out));refine wk (tw @h0 (tw @h2 (tw @h4 (tw @h8 (tw @h9 (tw @h10 (tw @hg (tw @dR (tw @hn (tw @aj.eq_1 @ab.eq_1)))))))))) ?_;(repeat(refine Pn.mk ?_;intro N hN))))
   refine jw (.inl rfl) (r1:=.int .i64 i) (r2:=.bool false) ?_ ?_ ?_
   ·simp only[go_sem, ↓reduceIte,Nat.reduceEqDiff,Nat.reduceAdd,Nat.reduceSub,Nat.reduceLeDiff,reduceCtorEq]
   ·simp only[go_sem, ↓reduceIte,Nat.reduceEqDiff,Nat.reduceAdd,Nat.reduceSub,Nat.reduceLeDiff,reduceCtorEq]
   ·simp only[eT,bB,cr,eC,fR,Option.map_some,DP,fU,decide_false,Bool.false_and]
theorem Ha (l:List ae) (p:ad) (hR:sM l) (Oi:l.length<=1048576):aq Tryz.prog 265 [.agg [.sl (l.map aj)],.agg (ab p)] (.int .i64 (eJ l p)):=by
 refine aq.body eL rfl fun hl n0=>?_
 clear hl
 rw[FG hR]
 have hb:=Gb l p hR Oi
 rw[ab]at hb
 cases hf:(decide (r4 l p<l.length)&&decide ((aU l (r4 l p)).bc=p))
 ·rw[hf]at hb
  (repeat(first|((repeat(revert hN;revert N;apply Pn.out));refine wk @ab.eq_1 ?_;(repeat(refine Pn.mk ?_;intro N hN)))|((try apply Or.inl);refine⟨_,aq.x (hb) (sd @ab.eq_1),?_⟩;refine hN _ _ ?_;clear hN N)))
  exact cD (b:=-1) (.inl rfl) (sd @Nat.zero_add) (by rw[if_neg];intro h;simp[h.1,h.2]at hf)
 ·rw[hf]at hb
  (repeat(first|((repeat(revert hN;revert N;apply Pn.out));refine wk @ab.eq_1 ?_;(repeat(refine Pn.mk ?_;intro N hN)))|((try apply Or.inl);refine⟨_,aq.x (hb) (sd @ab.eq_1),?_⟩;refine hN _ _ ?_;clear hN N)))
  exact cD (b:=(r4 l p:Int)) (.inl rfl) (sd @Nat.zero_add) (by rw[if_pos];simpa using hf)
theorem qO (l:List ae) (p:ad) (hR:sM l) (Oi:l.length<=1048576):aq Tryz.prog 124 [.dm [.sl (l.map aj)],.agg (ab p)] (.int .i64 (eJ l p)):=by
 refine aq.body eL rfl fun hl n0=>?_
 clear hl
 rw[FG hR]
 (try((repeat(revert hN;revert N;apply Pn.out));refine wk @ab.eq_1 ?_;(repeat(refine Pn.mk ?_;intro N hN))))
 refine aM (fun n env st=>∃i j:Nat,n=j-i/\i<=j/\j<=l.length/\(∀x,x<i->kE (aU l x).bc p=true)/\(∀x,j<=x->x<l.length->kE (aU l x).bc p=false)/\env 5=.int .i64 i/\env 6=.int .i64 j/\st.get ⟨124000000,n0⟩=some ⟨true,2,[ab p]⟩) l.length ⟨0,l.length,by omega,by omega,by omega,fun x h=>by omega,fun x h1 h2=>by omega,by(simp only[go_sem, ↓reduceIte,Nat.reduceEqDiff,Nat.reduceAdd,Nat.reduceSub,Nat.reduceLeDiff,reduceCtorEq])<;>rfl,sd @Nat.zero_add,sd @ab.eq_1⟩ ?_
 rintro n env st ⟨i,j,rfl,DO,hj,j5,CI,h5,h6,hg⟩ fr
 have h0:=fr 0 (by kernel_rfl)
 have h3:=fr 3 (by kernel_rfl)
 simp only[go_sem, ↓reduceIte,Nat.reduceEqDiff,Nat.reduceAdd,Nat.reduceSub,Nat.reduceLeDiff,reduceCtorEq]at h0 h3
 clear fr
 by_cases dR:(i:Int)<(j:Int)
 ·have e1:IntKind.i64.wrap ((i:Int)+j)=((i+j:Nat):Int):=by rw[bx (by omega)];rfl
  have hm:(i+j) / 2<l.length:=by omega
  have eZ:=gw hm
  have e2:IntKind.i64.wrap (((i+j:Nat):Int).tdiv 2)=(((i+j) / 2:Nat):Int):=by
   rw[Int.tdiv_eq_ediv_of_nonneg (by omega),bx (by omega)];omega
  have e3:=az (k:=(i+j) / 2) (by omega)
  have hq:=oe (aU l ((i+j) / 2)).bc p
  cases hl:kE (aU l ((i+j) / 2)).bc p
  ·rw[hl]at hq
   (repeat(first|((repeat(revert hN;revert N;apply Pn.out));refine wk (tw @h0 (tw @h3 (tw @h5 (tw @h6 (tw @hg (tw @dR (tw @e1 (tw @e2 (tw @eZ (tw @aj.eq_1 @ab.eq_1)))))))))) ?_;(repeat(refine Pn.mk ?_;intro N hN)))|((try apply Or.inl);refine⟨_,aq.x (hq) (sd (tw @h0 (tw @h3 (tw @h5 (tw @h6 (tw @hg (tw @dR (tw @e1 (tw @e2 (tw @eZ (tw @aj.eq_1 @ab.eq_1))))))))))),?_⟩;refine hN _ _ ?_;clear hN N)))
   refine⟨_,?_,i,(i+j) / 2,rfl,by omega,by omega,j5,fun x h1 h2=>?_,sd @h5,sd @e2,sd (tw @hg @ab.eq_1)⟩
   ·omega
   ·by_cases O8:x=(i+j) / 2
    ·subst O8;exact hl
    ·rw[Bool.eq_false_iff]
     intro hc
     have h3:=iy (hR ((i+j) / 2) x (by omega) h2) hc
     rw[hl]at h3;cases h3
  ·rw[hl]at hq
   (repeat(first|((repeat(revert hN;revert N;apply Pn.out));refine wk (tw @h0 (tw @h3 (tw @h5 (tw @h6 (tw @hg (tw @dR (tw @e1 (tw @e2 (tw @eZ (tw @aj.eq_1 @ab.eq_1)))))))))) ?_;(repeat(refine Pn.mk ?_;intro N hN)))|((try apply Or.inl);refine⟨_,aq.x (hq) (sd (tw @h0 (tw @h3 (tw @h5 (tw @h6 (tw @hg (tw @dR (tw @e1 (tw @e2 (tw @eZ (tw @aj.eq_1 @ab.eq_1))))))))))),?_⟩;refine hN _ _ ?_;clear hN N)))
   refine⟨_,?_,(i+j) / 2+1,j,rfl,by omega,hj,fun x hx=>?_,CI,sd @e3,sd @h6,sd (tw @hg @ab.eq_1)⟩
   ·omega
   ·by_cases O8:x=(i+j) / 2
    ·subst O8;exact hl
    ·exact iy (hR x _ (by omega) hm) hl
 ·have OH:i=j:=by omega
  subst OH
  have DP:r4 l p=i:=zL hj j5 fun h=>CI i (Nat.le_refl _) h
  by_cases hn:(i:Int)<(l.length:Int)
  ·have fU:i<l.length:=by omega
   have eZ:=gw fU
   by_cases hp:(aU l i).bc=p
   ·have hx:decide ((aU l i).bc.eI=p.eI)=true:=decide_eq_true (by rw[hp])
    have hy:decide ((aU l i).bc.eF=p.eF)=true:=decide_eq_true (by rw[hp])
    (try((repeat(revert hN;revert N;apply Pn.out));refine wk (tw @h0 (tw @h3 (tw @h5 (tw @h6 (tw @hg (tw @dR (tw @hn (tw @eZ (tw @hx (tw @hy (tw @aj.eq_1 @ab.eq_1))))))))))) ?_;(repeat(refine Pn.mk ?_;intro N hN))))
    exact cD (b:=(i:Int)) (.inl rfl) (sd @Nat.zero_add) (by rw[DP,if_pos ⟨fU,hp⟩])
   ·by_cases hx:(aU l i).bc.eI=p.eI
    ·have tN:decide ((aU l i).bc.eI=p.eI)=true:=decide_eq_true hx
     have Tr:decide ((aU l i).bc.eF=p.eF)=false:=decide_eq_false fun h=>hp (wH hx h)
     (try((repeat(revert hN;revert N;apply Pn.out));refine wk (tw @h0 (tw @h3 (tw @h5 (tw @h6 (tw @hg (tw @dR (tw @hn (tw @eZ (tw @tN (tw @Tr (tw @aj.eq_1 @ab.eq_1))))))))))) ?_;(repeat(refine Pn.mk ?_;intro N hN))))
     exact cD (b:=-1) (.inl rfl) (sd @Nat.zero_add) (by rw[DP,if_neg fun h=>hp h.2])
    ·have tN:decide ((aU l i).bc.eI=p.eI)=false:=decide_eq_false hx
     (try((repeat(revert hN;revert N;apply Pn.out));refine wk (tw @h0 (tw @h3 (tw @h5 (tw @h6 (tw @hg (tw @dR (tw @hn (tw @eZ (tw @tN (tw @Bool.false_and (tw @aj.eq_1 @ab.eq_1))))))))))) ?_;(repeat(refine Pn.mk ?_;intro N hN))))
     exact cD (b:=-1) (.inl rfl) (sd @Nat.zero_add) (by rw[DP,if_neg fun h=>hp h.2])
  ·have fU:¬i<l.length:=by omega
   (try((repeat(revert hN;revert N;apply Pn.out));refine wk (tw @h0 (tw @h3 (tw @h5 (tw @h6 (tw @hg (tw @dR (tw @hn (tw @aj.eq_1 @ab.eq_1)))))))) ?_;(repeat(refine Pn.mk ?_;intro N hN))))
   exact cD (b:=-1) (.inl rfl) (sd @Nat.zero_add) (by rw[DP,if_neg fun h=>fU h.1])
theorem L2 (l:List ae) (p:ad) (hR:sM l) (Oi:l.length<=1048576):aq Tryz.prog 98 [.dm [.sl (l.map aj)],.agg (ab p)] (.int .i64 (gR l p)):=by
 refine aq.body eL rfl fun hl n0=>?_
 clear hl
 have hb:=qO l p hR Oi
 by_cases hi:eJ l p<0
 ·rw[ab]at hb
  (repeat(first|((repeat(revert hN;revert N;apply Pn.out));refine wk (tw @ab.eq_1 @hi) ?_;(repeat(refine Pn.mk ?_;intro N hN)))|((try apply Or.inl);refine⟨_,aq.x (hb) (sd (tw @ab.eq_1 @hi)),?_⟩;refine hN _ _ ?_;clear hN N)))
  exact cD (b:=-1) (.inl rfl) (sd @Nat.zero_add) (by rw[gR,if_neg (by omega)])
 ·have h0:0<=eJ l p:=by omega
  have hg:=gw (kD h0).1
  rw[ab]at hb
  (repeat(first|((repeat(revert hN;revert N;apply Pn.out));refine wk (tw @ab.eq_1 (tw @hi (tw @h0 (tw @hg @aj.eq_1)))) ?_;(repeat(refine Pn.mk ?_;intro N hN)))|((try apply Or.inl);refine⟨_,aq.x (hb) (sd (tw @ab.eq_1 (tw @hi (tw @h0 (tw @hg @aj.eq_1))))),?_⟩;refine hN _ _ ?_;clear hN N)))
  exact cD (b:=(aU l (eJ l p).toNat).bU) (.inl rfl) (sd @Nat.zero_add) (by rw[gR,if_pos h0])
def lp (s:au) (l:List ae):Prop:=ki l/\∀t∈l,eQ s t.bU=true
noncomputable def pO (s:au) (l:List ae):Bool:=oI l&&l.all fun t=>eQ s t.bU
theorem l7 {s:au} {l:List ae}:pO s l=true↔lp s l:=by simp[pO,lp,Gs]
theorem Dd:QE aj (fun c=>.agg (aj c)) 3 true:=⟨fun _=>rfl,fun _=>rfl,fun x g=>by simp only[aj,ai,ao,aY,aG,Option.map_some]⟩
theorem G5 (s:au) (t:ae) (hs:s.ah.length<=1048576):aq Tryz.prog 167 [.agg (aj t),.dm (aa s)] (.bool (!eQ s t.bU)):=by
 refine aq.body eL rfl fun hl n0=>?_
 clear hl
 have h:=Jg s t.bU
 rw[aa]at h
 (repeat(first|((repeat(revert hN;revert N;apply Pn.out));refine wk (tw @aj.eq_1 @aa.eq_1) ?_;(repeat(refine Pn.mk ?_;intro N hN)))|((try apply Or.inl);refine⟨_,aq.x (h) (sd (tw @aj.eq_1 @aa.eq_1)),?_⟩;refine hN _ _ ?_;clear hN N)))
 exact aX (b:= !eQ s t.bU) (.inl rfl) (sd @Nat.zero_add) rfl
theorem MN (s:au) (l:List ae) (hs:s.ah.length<=1048576) (hl:l.length<=1048576):aq Tryz.prog 166 [.sl (l.map aj),.fn 167 [.dm (aa s)]] (.bool (l.any fun t=> !eQ s t.bU)):=
 oy Dd (show mO Tryz.prog 166=some (Dy 166 202) by kernel_rfl)
  (show mO Tryz.prog 202=some (vZ 202 3 true) by kernel_rfl) l hl _ _ _ rfl (fun g=>by rw[ai,aQ,ao];rfl) (fun x _=>G5 s x hs) fun g=>by rw[ai,aQ,ao];rfl
theorem KY {α:Type} (p:α->Bool) (l:List α):(!l.any fun t=> !p t)=l.all p:=by
 induction l with
 |nil=>rfl
 |cons x l ih=>simp only[List.any_cons,List.all_cons,<-ih];cases p x<;>simp
theorem nB (s:au) (l:List ae) (hn:gK s) (hg:s.ax.length<=1048576) (ht:s.ah.length<=1048576) (hs:∀t∈s.ah,t.br.length<=1048576) (hl:l.length<=1048576):aq Tryz.prog 106 [.agg (aa s),.agg [.sl (l.map aj)]] (.bool (q9 s&&pO s l)):=by
 refine aq.body eL rfl fun hl n0=>?_
 clear hl
 have h1:=C2 s hn hg ht hs
 have h2:=Gw l
 have h3:=MN s l ht hl
 rw[aa]at h1 h3
 cases b1:q9 s
 ·rw[b1]at h1
  (repeat(first|((repeat(revert hN;revert N;apply Pn.out));refine wk @aa.eq_1 ?_;(repeat(refine Pn.mk ?_;intro N hN)))|((try apply Or.inl);refine⟨_,aq.x (h1) (sd @aa.eq_1),?_⟩;refine hN _ _ ?_;clear hN N)))
  exact aX (b:=false) (.inl rfl) (sd @Nat.zero_add) rfl
 rw[b1]at h1
 cases b2:oI l
 ·rw[b2]at h2
  (repeat(first|((repeat(revert hN;revert N;apply Pn.out));refine wk @aa.eq_1 ?_;(repeat(refine Pn.mk ?_;intro N hN)))|((try apply Or.inl);refine⟨_,aq.x (h1) (sd @aa.eq_1),?_⟩;refine hN _ _ ?_;clear hN N)|((try apply Or.inl);refine⟨_,aq.x (h2) (sd @aa.eq_1),?_⟩;refine hN _ _ ?_;clear hN N)))
  exact aX (b:=false) (.inl rfl) (sd @Nat.zero_add) (by rw[pO,b2];rfl)
 rw[b2]at h2
 (repeat(first|((repeat(revert hN;revert N;apply Pn.out));refine wk @aa.eq_1 ?_;(repeat(refine Pn.mk ?_;intro N hN)))|((try apply Or.inl);refine⟨_,aq.x (h1) (sd @aa.eq_1),?_⟩;refine hN _ _ ?_;clear hN N)|((try apply Or.inl);refine⟨_,aq.x (h2) (sd @aa.eq_1),?_⟩;refine hN _ _ ?_;clear hN N)|((try apply Or.inl);refine⟨_,aq.x (h3) (sd @aa.eq_1),?_⟩;refine hN _ _ ?_;clear hN N)))
 exact aX (b:= !(l.any fun t=> !eQ s t.bU)) (.inl rfl) (sd @Nat.zero_add) (by rw[KY,pO,b2];rfl)
theorem FD (s:au) (l:List ae):aq Tryz.prog 97 [.dm (aa s),.dm [.sl (l.map aj)]] (.bool (pO s l)):=by
 refine aq.body eL rfl fun hl n0=>?_
 have hlen:l.length<=9223372036854775807:=by
  have h1:=(hl (.dm [.sl (l.map aj)]) (by simp)).BR (a:=.sl (l.map aj)) (by simp)
  simpa using h1.len
 clear hl
 have h2:=GQ l
 cases b2:oI l
 ·rw[b2]at h2
  (repeat(first|((repeat(revert hN;revert N;apply Pn.out));refine wk @Nat.zero_add ?_;(repeat(refine Pn.mk ?_;intro N hN)))|((try apply Or.inl);refine⟨_,aq.x (h2) (sd @Nat.zero_add),?_⟩;refine hN _ _ ?_;clear hN N)))
  exact aX (b:=false) (.inl rfl) (sd @Nat.zero_add) (by rw[pO,b2];rfl)
 rw[b2]at h2
 (repeat(first|((repeat(revert hN;revert N;apply Pn.out));refine wk @Nat.zero_add ?_;(repeat(refine Pn.mk ?_;intro N hN)))|((try apply Or.inl);refine⟨_,aq.x (h2) (sd @Nat.zero_add),?_⟩;refine hN _ _ ?_;clear hN N)))
 refine aM (fun n env st=>∃k:Nat,n=(l.length)-k/\k<=(l.length)/\env 5=.int .i64 (k:Int)/\(∀j:Nat,j<k->eQ s (aU l j).bU=true)) (l.length) ⟨0,by omega,by omega,sl @Nat.zero_add,fun _ h=>absurd h (Nat.not_lt_zero _)⟩ ?_
 rintro n_a env_a st_a ⟨k,rfl,ale,a5,kN⟩ di
 have a0:=di 0 (by kernel_rfl);have a1:=di 1 (by kernel_rfl)
 simp only[go_sem, ↓reduceIte,Nat.reduceEqDiff,Nat.reduceAdd,Nat.reduceSub,Nat.reduceLeDiff,reduceCtorEq]at a0 a1
 clear di
 by_cases hk:(k:Int)<(l.length:Int)
 ·have cz:∀{e:Env},(e 5=.int .i64 (IntKind.i64.wrap ((k:Int)+1)))->(eQ s (aU l k).bU=true)->∃m0,m0<(l.length)-k/\∃k:Nat,m0=(l.length)-k/\k<=(l.length)/\e 5=.int .i64 (k:Int)/\(∀j:Nat,j<k->eQ s (aU l j).bU=true):=fun x1 x2=>⟨_,by omega,k+1,rfl,by omega,(by rw[x1,az (by omega)]),(all_succ kN x2)⟩
  have eX:k<l.length:=by omega
  have eM:=gw eX
  have ht:=D6 s (aU l k).bU
  cases b3:eQ s (aU l k).bU
  ·rw[b3]at ht
   (repeat(first|((repeat(revert hN;revert N;apply Pn.out));refine wk (tw @a5 (tw @a0 (tw @a1 (tw @hk (tw @eM @aj.eq_1))))) ?_;(repeat(refine Pn.mk ?_;intro N hN)))|((try apply Or.inl);refine⟨_,aq.x (ht) (sd (tw @a5 (tw @a0 (tw @a1 (tw @hk (tw @eM @aj.eq_1)))))),?_⟩;refine hN _ _ ?_;clear hN N)))
   exact aX (b:=false) (.inl rfl) (sd @Nat.zero_add) (by
    have:l.all (fun t=>eQ s t.bU)=false:=List.all_eq_false.2 ⟨_,kY eX,by rw[b3];simp⟩
    rw[pO,this,Bool.and_false])
  ·rw[b3]at ht
   (repeat(first|((repeat(revert hN;revert N;apply Pn.out));refine wk (tw @a5 (tw @a0 (tw @a1 (tw @hk (tw @eM @aj.eq_1))))) ?_;(repeat(refine Pn.mk ?_;intro N hN)))|((try apply Or.inl);refine⟨_,aq.x (ht) (sd (tw @a5 (tw @a0 (tw @a1 (tw @hk (tw @eM @aj.eq_1)))))),?_⟩;refine hN _ _ ?_;clear hN N)))
   exact cz (sd (tw @a5 (tw @a0 @a1))) (b3)
 ·(try((repeat(revert hN;revert N;apply Pn.out));refine wk (tw @a5 (tw @a0 (tw @a1 @hk))) ?_;(repeat(refine Pn.mk ?_;intro N hN))))
  exact aX (b:=true) (.inl rfl) (sd @Nat.zero_add) (by
   have:l.all (fun t=>eQ s t.bU)=true:=List.all_eq_true.2 fun t ht=>by
    obtain⟨j,hj,rfl⟩:=List.getElem_of_mem ht
    have:=kN j (by omega)
    rwa [ij hj]at this
   rw[pO,b2,this];rfl)
theorem xI (l:List ae) (hF:ki l) (i:Nat) (d:Int) (hi:i<l.length) (hd:iO d 0 3=true):aq Tryz.prog 217 [.dm [.sl (l.map aj)],.int .i64 i,.int .i64 d] (.int .i64 (eJ l (bd (aU l i).bc d))):=by
 refine aq.body eL rfl fun hl n0=>?_
 clear hl
 have hg:=gw hi
 have hp:=te (hF.pt hi)
 have h1:=s8 (aU l i).bc d hd hp.1 hp.2
 have h2:=qO l (bd (aU l i).bc d) hF.NB (by have:=hF.Bd;omega)
 rw[ab]at h1 h2
 (repeat(first|((repeat(revert hN;revert N;apply Pn.out));refine wk (tw @aj.eq_1 (tw @hg @ab.eq_1)) ?_;(repeat(refine Pn.mk ?_;intro N hN)))|((try apply Or.inl);refine⟨_,aq.x (h1) (sd (tw @aj.eq_1 (tw @hg @ab.eq_1))),?_⟩;refine hN _ _ ?_;clear hN N)|((try apply Or.inl);refine⟨_,aq.x (h2) (sd (tw @aj.eq_1 (tw @hg @ab.eq_1))),?_⟩;refine hN _ _ ?_;clear hN N)))
 exact cD (b:=eJ l (bd (aU l i).bc d)) (.inl rfl) (sd @Nat.zero_add) rfl
end Go.Proofs.YtgoelphibofcmaaGreat.V

namespace Go.Proofs.YtgoelphibofcmaaGreat.V
def bi (b:Bool):Int:=if b then 1 else 0
def lU (f:Nat->Int):Nat->Int
 |0=>0
 |n+1=>lU f n+f n
theorem gx {f g:Nat->Int}:∀{n:Nat},(∀i,i<n->f i=g i)->lU f n=lU g n
 |0,_=>rfl
 |n+1,h=>by
  simp only[lU]
  rw[gx fun i hi=>h i (by omega),h n (by omega)]
theorem sn {f g:Nat->Int}:∀{n:Nat},(∀i,i<n->f i<=g i)->lU f n<=lU g n
 |0,_=>Int.le_refl _
 |n+1,h=>by
  simp only[lU]
  have:=sn (n:=n) fun i hi=>h i (by omega)
  have:=h n (by omega)
  omega
theorem jR:∀{n:Nat} {f:Nat->Int},(∀i,i<n->f i=0)->lU f n=0
 |0,_,_=>rfl
 |n+1,f,h=>by
  simp only[lU]
  rw[jR fun i hi=>h i (by omega),h n (by omega)];rfl
theorem pE {f:Nat->Int} {a:Nat} {d:Int}:∀n,lU (fun i=>f i+if i=a then d else 0) n=lU f n+if a<n then d else 0
 |0=>by simp[lU]
 |n+1=>by
  simp only[lU]
  rw[pE n]
  by_cases h:n=a
  ·subst h;simp;omega
  ·rw[if_neg h]
   by_cases h2:a<n
   ·rw[if_pos h2,if_pos (by omega)];omega
   ·rw[if_neg h2,if_neg (by omega)];omega
def mb (n:Nat) (S:Nat->Bool) (f:Nat->Nat->Int):Int:=lU (fun u=>lU (fun v=>if S u&& !S v then f u v else 0) n) n
def bump (f:Nat->Nat->Int) (a b:Nat) (d:Int):Nat->Nat->Int:=fun u v=>f u v+if u=a/\v=b then d else 0
theorem pf {n:Nat} {S:Nat->Bool} {f:Nat->Nat->Int} {a b:Nat} {d:Int} (ha:a<n) (hb:b<n):mb n S (bump f a b d)=mb n S f+if S a&& !S b then d else 0:=by
 unfold mb
 have h1:∀u,u<n->lU (fun v=>if S u&& !S v then bump f a b d u v else 0) n=lU (fun v=>if S u&& !S v then f u v else 0) n+if u=a then(if S a&& !S b then d else 0)else 0:=by
  intro u hu
  by_cases h:u=a
  ·subst h
   have h2:∀v,v<n->(if S u&& !S v then bump f u b d u v else 0)=(fun v=>if S u&& !S v then f u v else 0) v+if v=b then(if S u&& !S b then d else 0)else 0:=by
    intro v hv
    unfold bump
    by_cases h3:v=b
    ·subst h3;simp only[and_self,if_true];split<;>omega
    ·simp only[h3,and_false,if_false];split<;>omega
   rw[gx h2,pE,if_pos hb,if_pos rfl]
  ·rw[if_neg h,Int.add_zero]
   refine gx fun v hv=>?_
   unfold bump
   simp[h]
 rw[gx h1,pE,if_pos ha]
theorem K9 {n:Nat} {S:Nat->Bool} {f c:Nat->Nat->Int} (h:∀u v,u<n->v<n->f u v<=c u v):mb n S f<=mb n S c:=
 sn fun u hu=>sn fun v hv=>by split;exact h u v hu hv;exact Int.le_refl _
theorem K8 {n:Nat} {S:Nat->Bool} {f c:Nat->Nat->Int} (h:∀u v,u<n->v<n->S u=true->S v=false->f u v=c u v):mb n S f=mb n S c:=
 gx fun u hu=>gx fun v hv=>by
  split
  ·rename_i hc
   simp only[Bool.and_eq_true,Bool.not_eq_true']at hc
   exact h u v hu hv hc.1 hc.2
  ·rfl
def kn (f:Nat->Nat->Int) (a b:Nat):Nat->Nat->Int:=bump (bump f a b 1) b a (-1)
theorem Gh {n:Nat} {S:Nat->Bool} {f:Nat->Nat->Int} {a b:Nat} (ha:a<n) (hb:b<n):mb n S (kn f a b)=mb n S f+bi (S a)-bi (S b):=by
 unfold kn
 rw[pf hb ha,pf ha hb]
 cases S a<;>cases S b<;>simp[bi]<;>omega
def l8 (f:Nat->Nat->Int):List Nat->Nat->Nat->Int
 |a::b::r=>l8 (kn f a b) (b::r)
 |_=>f
def rm (f c:Nat->Nat->Int):List Nat->Prop
 |a::b::r=>f a b<c a b/\rm f c (b::r)
 |_=>True
theorem AP {n:Nat} {S:Nat->Bool}:∀(r:List Nat) (a:Nat) (f:Nat->Nat->Int),(∀x∈a::r,x<n)->mb n S (l8 f (a::r))=mb n S f+bi (S a)-bi (S ((a::r).getLast (by simp)))
 |[],a,f,_=>by simp[l8]
 |b::r,a,f,h=>by
  rw[l8,AP r b (kn f a b) fun x hx=>h x (List.mem_cons_of_mem _ hx),Gh (h a (by simp)) (h b (by simp)),List.getLast_cons_cons]
  generalize bi (S b)=q
  omega
theorem rm.less {f g c:Nat->Nat->Int}:∀{p:List Nat},rm f c p->(∀u,u∈p->∀v,g u v<=f u v)->rm g c p
 |[],_,_=>trivial
 |[_],_,_=>trivial
 |a::b::r,h,hl=>⟨Int.lt_of_le_of_lt (hl a (by simp) b) h.1,rm.less (p:=b::r) h.2 fun u hu=>hl u (List.mem_cons_of_mem _ hu)⟩
theorem E0 {n:Nat} {c:Nat->Nat->Int}:∀(p:List Nat) (f:Nat->Nat->Int),p.Nodup->rm f c p->(∀u v,u<n->v<n->f u v<=c u v)->∀u v,u<n->v<n->l8 f p u v<=c u v
 |[],f,_,_,h=>h
 |[_],f,_,_,h=>h
 |a::b::r,f,hn,hr,h=>by
  rw[l8]
  have nP:a∉b::r:=(List.nodup_cons.1 hn).1
  refine E0 (b::r) _ (List.nodup_cons.1 hn).2 (hr.2.less fun u hu v=>?_) fun u v hu hv=>?_
  ·unfold kn bump
   have:u≠a:=by rintro rfl;exact nP hu
   simp only[this,false_and,if_false]
   split<;>omega
  ·have h0:=h u v hu hv
   have h1:=hr.1
   unfold kn bump
   by_cases e:u=a/\v=b
   ·obtain⟨rfl,rfl⟩:=e
    rw[if_pos ⟨rfl,rfl⟩];split<;>omega
   ·rw[if_neg e];split<;>omega
structure lD (n:Nat) (c f:Nat->Nat->Int) (x y:Nat) (val:Int):Prop where
 le:∀u v,u<n->v<n->f u v<=c u v
 cut:∀S:Nat->Bool,S x=true->S y=false->mb n S f=val
theorem lD.zero {n:Nat} {c:Nat->Nat->Int} {x y:Nat} (h:∀u v,u<n->v<n->0<=c u v):lD n c (fun _ _=>0) x y 0:=
 ⟨h,fun S _ _=>jR fun u hu=>jR fun v hv=>by split<;>rfl⟩
theorem lD.congr {n:Nat} {c f g:Nat->Nat->Int} {x y:Nat} {val:Int} (h:lD n c f x y val) (e:∀u v,u<n->v<n->g u v=f u v):lD n c g x y val:=
 ⟨fun u v hu hv=>by rw[e u v hu hv];exact h.le u v hu hv,fun S hx hy=>by
  rw[<-h.cut S hx hy]
  exact gx fun u hu=>gx fun v hv=>by rw[e u v hu hv]⟩
theorem lD.aug {n:Nat} {c f:Nat->Nat->Int} {x y:Nat} {val:Int} (h:lD n c f x y val) {r:List Nat} (hl:(x::r).getLast (by simp)=y) (hn:(x::r).Nodup) (hr:rm f c (x::r)) (hb:∀v∈x::r,v<n):lD n c (l8 f (x::r)) x y (val+1):=
 ⟨E0 _ _ hn hr h.le,fun S hx hy=>by rw[AP r x f hb,hl,h.cut S hx hy,hx,hy];simp[bi]⟩
theorem lD.bound {n:Nat} {c f:Nat->Nat->Int} {x y:Nat} {val:Int} (h:lD n c f x y val) {S:Nat->Bool} (hx:S x=true) (hy:S y=false):val<=mb n S c:=by
 rw[<-h.cut S hx hy];exact K9 h.le
theorem lD.full {n:Nat} {c f:Nat->Nat->Int} {x y:Nat} {val:Int} (h:lD n c f x y val) {S:Nat->Bool} (hx:S x=true) (hy:S y=false) (hS:∀u v,u<n->v<n->S u=true->S v=false->¬f u v<c u v):val=mb n S c:=by
 rw[<-h.cut S hx hy]
 exact K8 fun u v hu hv h1 h2=>by have:=hS u v hu hv h1 h2;have:=h.le u v hu hv;omega
structure PB where
 a:Nat
 b:Nat
 s:Int
 deriving Inhabited
def cq (bs:List PB) (i:Nat):PB:=bs.getD i default
def jh (S:Nat->Bool) (bs:List PB):Int:=(bs.map fun b=>if S b.a=S b.b then 0 else b.s).sum
def nJ (c:Nat->Nat->Int) (b:PB):Nat->Nat->Int:=bump (bump c b.a b.b b.s) b.b b.a b.s
def k9 (bs:List PB):Nat->Nat->Int:=bs.foldl nJ fun _ _=>0
theorem Es (bs:List PB) (b:PB):k9 (bs++[b])=nJ (k9 bs) b:=by simp[k9]
theorem A5 {n:Nat} {S:Nat->Bool}:∀(bs:List PB) (c:Nat->Nat->Int),(∀b∈bs,b.a<n/\b.b<n)->mb n S (bs.foldl nJ c)=mb n S c+jh S bs
 |[],c,_=>by simp[jh]
 |b::bs,c,h=>by
  have hb:=h b (by simp)
  rw[List.foldl_cons,A5 bs _ fun x hx=>h x (List.mem_cons_of_mem _ hx)]
  unfold nJ jh
  rw[pf hb.2 hb.1,pf hb.1 hb.2,List.map_cons,List.sum_cons]
  cases S b.a<;>cases S b.b<;>simp<;>omega
theorem A6 {n:Nat} {S:Nat->Bool} {bs:List PB} (h:∀b∈bs,b.a<n/\b.b<n):mb n S (k9 bs)=jh S bs:=by
 rw[k9,A5 bs _ h]
 have:mb n S (fun _ _=>0)=0:=jR fun u hu=>jR fun v hv=>by split<;>rfl
 omega
theorem Aa:∀(bs:List PB) (c:Nat->Nat->Int),(∀b∈bs,0<=b.s)->(∀u v,0<=c u v)->∀u v,0<=bs.foldl nJ c u v
 |[],c,_,h=>h
 |b::bs,c,hb,h=>by
  rw[List.foldl_cons]
  refine Aa bs _ (fun x hx=>hb x (List.mem_cons_of_mem _ hx)) fun u v=>?_
  have:=hb b (by simp);have:=h u v
  unfold nJ bump
  split<;>split<;>omega
theorem room_le:∀(bs:List PB) (c:Nat->Nat->Int) (m:Int),(∀b∈bs,b.s<=4)->(∀u v,c u v<=m)->0<=m->∀u v,bs.foldl nJ c u v<=m+8*bs.length
 |[],c,m,_,h,_=>fun u v=>by have:=h u v;simp;omega
 |b::bs,c,m,hb,h,h0=>fun u v=>by
  rw[List.foldl_cons]
  have:=room_le bs (nJ c b) (m+8) (fun x hx=>hb x (List.mem_cons_of_mem _ hx)) (fun u v=>by
   have:=hb b (by simp);have:=h u v
   unfold nJ bump
   split<;>split<;>omega) (by omega) u v
  simp only[List.length_cons];omega
def kK (n:Nat) (bs:List PB) (t:Int):Prop:=∀S:Nat->Bool,S 0=true->(∃y,y<n/\S y=false)->t<=jh S bs
def Gf (S:Nat->Bool) (bs:List PB) (f:Nat->Int):Int:=lU (fun i=>f i*(bi (S (cq bs i).a)-bi (S (cq bs i).b))) bs.length
structure jW (bs:List PB) (f:Nat->Int) (x y:Nat) (val:Int):Prop where
 le:∀i,i<bs.length->f i<=(cq bs i).s/\-(cq bs i).s<=f i
 cut:∀S:Nat->Bool,S x=true->S y=false->Gf S bs f=val
theorem vw (S:Nat->Bool):∀bs:List PB,jh S bs=lU (fun i=>if S (cq bs i).a=S (cq bs i).b then 0 else(cq bs i).s) bs.length:=by
 intro bs
 have key:∀n,n<=bs.length->jh S (bs.take n)=lU (fun i=>if S (cq bs i).a=S (cq bs i).b then 0 else(cq bs i).s) n:=by
  intro n
  induction n with
  |zero=>intro _;rfl
  |succ n ih=>
   intro h
   have e:cq bs n=bs[n]:=by simp[cq,List.getD_eq_getElem?_getD,List.getElem?_eq_getElem (show n<bs.length by omega)]
   rw[List.take_succ_eq_append_getElem (by omega),lU,<-ih (by omega),e]
   unfold jh
   rw[List.map_append,List.sum_append]
   simp only[List.map_cons,List.map_nil,List.sum_cons,List.sum_nil,Int.add_zero]
 have:=key bs.length (Nat.le_refl _)
 rwa [List.take_length]at this
theorem jW.bound {bs:List PB} {f:Nat->Int} {x y:Nat} {val:Int} (h:jW bs f x y val) {S:Nat->Bool} (hx:S x=true) (hy:S y=false):val<=jh S bs:=by
 rw[<-h.cut S hx hy,vw]
 refine sn fun i hi=>?_
 have:=h.le i hi
 cases S (cq bs i).a<;>cases S (cq bs i).b<;>simp[bi]<;>omega
def fK (bs:List PB) (f:Nat->Int) (i u:Nat):Int:=if (cq bs i).a=u then(cq bs i).s-f i else(cq bs i).s+f i
def bR (bs:List PB) (i u:Nat):Nat:=if (cq bs i).a=u then(cq bs i).b else(cq bs i).a
theorem jW.full {bs:List PB} {f:Nat->Int} {x y:Nat} {val:Int} (h:jW bs f x y val) {S:Nat->Bool} (hx:S x=true) (hy:S y=false)
  (hS:∀i,i<bs.length->((cq bs i).a≠(cq bs i).b->(S (cq bs i).a=true->S (cq bs i).b=false->¬0<fK bs f i (cq bs i).a)/\(S (cq bs i).b=true->S (cq bs i).a=false->¬0<fK bs f i (cq bs i).b))):val=jh S bs:=by
 rw[<-h.cut S hx hy,vw]
 refine gx fun i hi=>?_
 have h1:=h.le i hi
 by_cases nP:(cq bs i).a=(cq bs i).b
 ·rw[nP];simp
 ·have h2:=hS i hi nP
  unfold fK at h2
  rw[if_pos rfl,if_neg nP]at h2
  cases ha:S (cq bs i).a<;>cases hb:S (cq bs i).b<;>rw[ha,hb]at h2<;>simp[bi]at h2 ⊢ <;>omega
def tV (bs:List PB) (f:Nat->Int) (i u:Nat):Nat->Int:=fun j=>f j+if j=i then(if (cq bs i).a=u then 1 else -1)else 0
theorem Gg {S:Nat->Bool} {bs:List PB} {f:Nat->Int} {i u:Nat} (hi:i<bs.length) (hu:(cq bs i).a=u∨(cq bs i).b=u):Gf S bs (tV bs f i u)=Gf S bs f+bi (S u)-bi (S (bR bs i u)):=by
 unfold Gf tV
 have e:∀j,j<bs.length->(f j+if j=i then(if (cq bs i).a=u then 1 else -1)else 0)*(bi (S (cq bs j).a)-bi (S (cq bs j).b))=(fun j=>f j*(bi (S (cq bs j).a)-bi (S (cq bs j).b))) j+if j=i then(if (cq bs i).a=u then 1 else -1)*(bi (S (cq bs i).a)-bi (S (cq bs i).b))else 0:=by
  intro j hj
  by_cases h:j=i
  ·subst h;simp only[if_true];rw[Int.add_mul]
  ·simp only[h,if_false];simp
 rw[gx e,pE,if_pos hi]
 unfold bR
 by_cases ha:(cq bs i).a=u
 ·rw[if_pos ha,if_pos ha,ha];omega
 ·rw[if_neg ha,if_neg ha]
  rcases hu with hu|hu
  ·exact absurd hu ha
  ·rw[hu];omega
theorem oU:∀(n:Nat) (l:List Nat),l.Nodup->(∀x∈l,x<n)->l.length<=n
 |0,l,_,h=>by
  cases l with
  |nil=>simp
  |cons x l=>exact absurd (h x (by simp)) (by omega)
 |n+1,l,hn,h=>by
  have h1:=oU n (l.erase n) (hn.erase _) fun x hx=>by
   have h2:=(hn.mem_erase_iff).1 hx
   have h3:=h x h2.2
   have h4:=h2.1
   omega
  rw[List.length_erase]at h1
  split at h1<;>omega
def eO (L:Nat->Nat) (b:PB):Nat->Nat:=fun k=>if L k=max (L b.a) (L b.b)then min (L b.a) (L b.b)else L k
def eA (bs:List PB):Nat->Nat:=bs.foldl eO id
theorem wb (bs:List PB) (b:PB):eA (bs++[b])=eO (eA bs) b:=by simp[eA]
structure jD (L:Nat->Nat):Prop where
 le:∀k,L k<=k
 idem:∀k,L (L k)=L k
theorem jD.step {L:Nat->Nat} (h:jD L) (b:PB):jD (eO L b):=by
 have ha:=h.idem b.a
 have hb:=h.idem b.b
 refine⟨fun k=>?_,fun k=>?_⟩
 ·have:=h.le k
  unfold eO
  split<;>omega
 ·have hk:=h.idem k
  have hm:L (min (L b.a) (L b.b))=min (L b.a) (L b.b):=by
   rcases Nat.le_total (L b.a) (L b.b)with h1|h1
   ·rw[Nat.min_eq_left h1,ha]
   ·rw[Nat.min_eq_right h1,hb]
  unfold eO
  by_cases h1:L k=max (L b.a) (L b.b)
  ·rw[if_pos h1,hm];split<;>rfl
  ·rw[if_neg h1,hk,if_neg h1]
theorem wc:∀(bs:List PB) (L:Nat->Nat),jD L->jD (bs.foldl eO L)
 |[],_,h=>h
 |b::bs,L,h=>wc bs _ (h.step b)
theorem tQ (bs:List PB):jD (eA bs):=wc bs id ⟨fun _=>Nat.le_refl _,fun _=>rfl⟩
def leads (n:Nat) (L:Nat->Nat):List Nat:=(List.range n).filter fun i=>L i==i
def members (n:Nat) (L:Nat->Nat) (i:Nat):List Nat:=(List.range n).filter fun k=>L k==i
def fw (n:Nat) (L:Nat->Nat):List (List Nat):=(leads n L).map (members n L)
def bQ (L:Nat->Nat) (k:Nat):Nat:=(leads (L k) L).length
theorem gO (n:Nat) (L:Nat->Nat):leads (n+1) L=leads n L++if L n=n then[n]else[]:=by
 unfold leads
 rw[List.range_succ,List.filter_append]
 congr 1
 by_cases h:L n=n<;>simp[h]
theorem jt (n:Nat) (L:Nat->Nat) (i:Nat):members (n+1) L i=members n L i++if L n=i then[n]else[]:=by
 unfold members
 rw[List.range_succ,List.filter_append]
 congr 1
 by_cases h:L n=i<;>simp[h]
theorem nf {L:Nat->Nat} (h:jD L) {n i:Nat} (hn:n<=i):members n L i=[]:=by
 unfold members
 rw[List.filter_eq_nil_iff]
 intro k hk
 have:=h.le k
 have:=List.mem_range.1 hk
 simp;omega
theorem tR (n:Nat) (L:Nat->Nat):(leads n L).Nodup:=List.nodup_range.filter _
theorem yF {n:Nat} {L:Nat->Nat} {i:Nat}:i∈leads n L↔i<n/\L i=i:=by simp[leads]
theorem lK {n:Nat} {L:Nat->Nat} {i k:Nat}:k∈members n L i↔k<n/\L k=i:=by simp[members]
theorem GX {L:Nat->Nat} {m n:Nat} (h:m<=n):∃r,leads n L=leads m L++r:=by
 obtain⟨d,rfl⟩:=Nat.le.dest h
 clear h
 induction d with
 |zero=>exact⟨[],by simp⟩
 |succ d ih=>
  obtain⟨r,hr⟩:=ih
  exact⟨r++if L (m+d)=m+d then[m+d]else[],by rw[<-Nat.add_assoc,gO,hr,List.append_assoc]⟩
theorem pk {L:Nat->Nat} (h:jD L) {n k:Nat} (hk:k<n):(leads n L)[bQ L k]? =some (L k):=by
 have h1:=h.le k
 obtain⟨r,hr⟩:=GX (L:=L) (show L k+1<=n by omega)
 rw[hr,gO,if_pos (h.idem k),List.append_assoc]
 unfold bQ
 rw[List.getElem?_append_right (Nat.le_refl _),Nat.sub_self];rfl
theorem j8 {L:Nat->Nat} (h:jD L) {n k:Nat} (hk:k<n):bQ L k<(leads n L).length:=(List.getElem?_eq_some_iff.1 (pk h hk)).1
theorem tb {L:Nat->Nat} (h:jD L) {n k i:Nat} (hk:k<n) (hi:i<(leads n L).length):k∈members n L (leads n L)[i]↔bQ L k=i:=by
 rw[lK]
 have h1:=pk h hk
 rw[List.getElem?_eq_getElem (j8 h hk)]at h1
 injection h1 with h1
 constructor
 ·rintro⟨_,h2⟩
  rw[<-h1]at h2
  exact(List.getElem_inj (tR n L)).1 h2
 ·rintro rfl
  exact⟨hk,h1.symm⟩
def dv (L:Nat->Nat) (bs:List PB):List PB:=bs.filterMap fun b=>if bQ L b.a=bQ L b.b then none else some ⟨bQ L b.a,bQ L b.b,b.s⟩
def eY (L:Nat->Nat) (bs:List PB):List PB:=bs.filterMap fun b=>if bQ L b.a=bQ L b.b then none else some ⟨min (bQ L b.a) (bQ L b.b),max (bQ L b.a) (bQ L b.b),b.s⟩
theorem Ab (L:Nat->Nat) (bs:List PB) (b:PB):dv L (bs++[b])=dv L bs++if bQ L b.a=bQ L b.b then[]else[⟨bQ L b.a,bQ L b.b,b.s⟩]:=by
 unfold dv
 rw[List.filterMap_append]
 congr 1
 by_cases h:bQ L b.a=bQ L b.b<;>simp[h]
theorem Ac (L:Nat->Nat) (bs:List PB) (b:PB):eY L (bs++[b])=eY L bs++if bQ L b.a=bQ L b.b then[]else[⟨min (bQ L b.a) (bQ L b.b),max (bQ L b.a) (bQ L b.b),b.s⟩]:=by
 unfold eY
 rw[List.filterMap_append]
 congr 1
 by_cases h:bQ L b.a=bQ L b.b<;>simp[h]
theorem sS (S:Nat->Bool) (b:PB) (bs:List PB):jh S (b::bs)=(if S b.a=S b.b then 0 else b.s)+jh S bs:=by simp[jh]
theorem xY (S:Nat->Bool) (L:Nat->Nat):∀bs:List PB,jh S (eY L bs)=jh S (dv L bs)
 |[]=>rfl
 |b::bs=>by
  have ih:=xY S L bs
  unfold eY dv at ih ⊢
  rw[List.filterMap_cons,List.filterMap_cons]
  by_cases h:bQ L b.a=bQ L b.b
  ·simp only[h,if_true];exact ih
  ·simp only[h,if_false]
   rw[sS,sS,ih]
   congr 1
   simp only
   rcases Nat.le_total (bQ L b.a) (bQ L b.b)with h1|h1
   ·rw[Nat.min_eq_left h1,Nat.max_eq_right h1]
   ·rw[Nat.min_eq_right h1,Nat.max_eq_left h1]
    cases S (bQ L b.a)<;>cases S (bQ L b.b)<;>rfl
theorem Ey {L:Nat->Nat} (h:jD L) {n:Nat} {bs:List PB} (hb:∀b∈bs,b.a<n/\b.b<n):∀b∈dv L bs,b.a<(leads n L).length/\b.b<(leads n L).length/\b.a≠b.b/\∃c∈bs,b.s=c.s:=by
 intro b hm
 unfold dv at hm
 obtain⟨c,hc,he⟩:=List.mem_filterMap.1 hm
 split at he
 ·cases he
 ·rename_i gY
  simp only[Option.some.injEq]at he
  subst he
  exact⟨j8 h (hb c hc).1,j8 h (hb c hc).2,gY,c,hc,rfl⟩
theorem Ez {L:Nat->Nat} (h:jD L) {n:Nat} {bs:List PB} (hb:∀b∈bs,b.a<n/\b.b<n):∀b∈eY L bs,b.a<(leads n L).length/\b.b<(leads n L).length/\b.a≠b.b/\∃c∈bs,b.s=c.s:=by
 intro b hm
 unfold eY at hm
 obtain⟨c,hc,he⟩:=List.mem_filterMap.1 hm
 split at he
 ·cases he
 ·rename_i gY
  simp only[Option.some.injEq]at he
  subst he
  have h1:=j8 h (hb c hc).1
  have h2:=j8 h (hb c hc).2
  refine⟨by simp only;omega,by simp only;omega,by simp only;omega,c,hc,rfl⟩
theorem nr (L:Nat->Nat) (bs:List PB):(dv L bs).length<=bs.length/\(eY L bs).length<=bs.length:=⟨List.length_filterMap_le ..,List.length_filterMap_le ..⟩
theorem jM (n:Nat) (L:Nat->Nat):(leads n L).length<=n:=by
 have:=List.length_filter_le (fun i=>L i==i) (List.range n)
 simpa[leads]using this
def aJ (t:Int) (bs:List PB):List PB:=bs.filter fun b=>decide (t<=b.s)
def pd (n:Nat) (bs:List PB) (t:Int):Prop:=
 (leads n (eA (aJ t bs))).length<=64/\kK (leads n (eA (aJ t bs))).length (dv (eA (aJ t bs)) bs) t
theorem DR {n:Nat} {L:Nat->Nat} {bs:List PB} {t:Int}:kK n (eY L bs) t↔kK n (dv L bs) t:=by
 unfold kK
 constructor<;>intro h S h0 hy<;>have:=h S h0 hy<;>rw[xY]at *<;>exact this
end Go.Proofs.YtgoelphibofcmaaGreat.V

namespace Go.Proofs.YtgoelphibofcmaaGreat.V
open Go.RowKit
attribute [local irreducible] ek wpOps gq Call
attribute [local go_sem] aH fF eK ga fZ da upd ck K.av cH AV.cells AV.cell rowOf rowsOf part ld rowAt bF cj dy dW gU bG cX eh fY eU dn ea cV cU dH dI bJ aW cK bI cN cL dY eb dZ cJ bL cW dX bH aL cQ cC gT bj cF bK aT du bf dz AV.undef bw bE dM dU dE dJ cE ef ep cw ee ec cP cR List.getD_cons_zero List.getD_cons_succ List.getD_nil List.all_cons List.all_nil Bool.and_true Bool.true_and Bool.and_self Bool.not_true Bool.not_false Option.map_some Option.map_none Option.bind_some Option.bind_none List.length_cons List.length_nil List.take_succ_cons List.take_zero List.take_nil List.drop_succ_cons List.drop_zero List.drop_nil List.head?_cons List.map_cons List.map_nil List.getElem?_cons_zero List.getElem?_cons_succ List.cons_append List.nil_append List.append_nil List.length_map List.set_cons_zero List.set_cons_succ Nat.reduceMul eq_self Int.toNat_natCast Int.natCast_nonneg and_self true_and and_true decide_true decide_false Bool.false_eq_true Nat.zero_add Nat.add_zero List.contains_cons List.contains_nil Bool.or_false Bool.false_or beq_self_eq_true Nat.reduceBEq ne_eq not_true_eq_false not_false_eq_true Id.mk.injEq false_and and_false Nat.reduceLT Int.reduceLE Int.reduceLT Int.reduceToNat Int.reduceNeg Int.reduceAdd Nat.le_refl List.length_append beq_true beq_false Bool.not_eq_eq_eq_not or_false false_or dF ai ao aG aZ bt bW aP aY aQ aV cI bD
def aA (b:PB):List AV:=[.int .i64 b.a,.int .i64 b.b,.int .i64 b.s]
theorem NJ:∀b:PB,(aA b).length=3/\(aA b).all AV.cell=true:=fun _=>⟨rfl,rfl⟩
theorem zo (g:Rows) (n:Nat) (b:PB):cG g (n+1) (aA b)=some (aA b):=by simp[aA,ai,ao,aG]
theorem uD (g:Rows) (n:Nat) (b:PB):ew g (n+1) (aA b)=some (aA b):=by simp[aA,bB,cr,eC]
theorem Iv:QE aA (fun c=>.agg (aA c)) 3 true:=⟨fun _=>rfl,fun _=>rfl,fun x g=>by simp only[aA,ai,ao,aY,aG,Option.map_some]⟩
def mM (s:au) (l:List ae) (i:Nat) (d:Int):List PB:=
 if 0<=eJ l (bd (aU l i).bc d)/\0<gS s (aU l i).bU d (aU l (eJ l (bd (aU l i).bc d)).toNat).bU then
  [⟨i,(eJ l (bd (aU l i).bc d)).toNat,gS s (aU l i).bU d (aU l (eJ l (bd (aU l i).bc d)).toNat).bU⟩]else[]
def gm (s:au) (l:List ae) (i m:Nat):List PB:=(List.range m).flatMap fun j:Nat=>mM s l i (1-(j:Int))
def gL (s:au) (l:List ae) (n:Nat):List PB:=(List.range n).flatMap fun i=>gm s l i 2
def cY (s:au) (l:List ae):List PB:=gL s l l.length
theorem qc (s:au) (l:List ae) (i m:Nat):gm s l i (m+1)=gm s l i m++mM s l i (1-(m:Int)):=by simp[gm,List.range_succ]
theorem rF (s:au) (l:List ae) (n:Nat):gL s l (n+1)=gL s l n++gm s l n 2:=by simp[gL,List.range_succ]
theorem C8 (s:au) (l:List ae) (i:Nat) (d:Int):(mM s l i d).length<=1:=by unfold mM;split<;>simp
theorem rE (s:au) (l:List ae) (i m:Nat):(gm s l i m).length<=m:=by
 induction m with
 |zero=>simp[gm]
 |succ m ih=>rw[qc,List.length_append];have:=C8 s l i (1-(m:Int));omega
theorem tA (s:au) (l:List ae) (n:Nat):(gL s l n).length<=2*n:=by
 induction n with
 |zero=>simp[gL]
 |succ n ih=>rw[rF,List.length_append];have:=rE s l n 2;omega
def sB:Id->Prop:=fun o=>o.site=193001000∨o.site=193012006
theorem D7 (s:au) (l:List ae) (hS:je s) (hA:lp s l):aq Tryz.prog 193 [.dm (aa s),.dm [.sl (l.map aj)]] (.sl ((cY s l).map aA)):=by
 refine aq.body eL rfl fun hl n0=>?_
 clear hl
 have hF:=hA.1
 have Gz:=hF.Bd
 (try((repeat(revert hN;revert N;apply Pn.out));refine wk @Nat.zero_add ?_;(repeat(refine Pn.mk ?_;intro N hN))))
 refine aM (fun n env st=>∃k:Nat,n=(l.length)-k/\k<=(l.length)/\env 6=.int .i64 (k:Int)/\(mH aA 3 (env 5) st.get sB (gL s l k))) (l.length) ⟨0,by omega,by omega,sl @Nat.zero_add,⟨⟨193001000,n0+1⟩,.inl rfl,by simp only[go_sem, ↓reduceIte,Nat.reduceEqDiff,Nat.reduceAdd,Nat.reduceSub,Nat.reduceLeDiff,reduceCtorEq];rfl,by simp only[go_sem, ↓reduceIte,Nat.reduceEqDiff,Nat.reduceAdd,Nat.reduceSub,Nat.reduceLeDiff,reduceCtorEq];rfl⟩⟩ ?_
 rintro n_a env_a st_a ⟨k,rfl,ale,a6,kc⟩ di
 have a0:=di 0 (by kernel_rfl);have a1:=di 1 (by kernel_rfl)
 simp only[go_sem, ↓reduceIte,Nat.reduceEqDiff,Nat.reduceAdd,Nat.reduceSub,Nat.reduceLeDiff,reduceCtorEq]at a0 a1
 clear di
 by_cases hk:(k:Int)<(l.length:Int)
 ·have cz:∀{e:Env} {gg:Rows},(e 6=.int .i64 (IntKind.i64.wrap ((k:Int)+1)))->(mH aA 3 (e 5) gg sB (gL s l (k+1)))->∃m0,m0<(l.length)-k/\∃k:Nat,m0=(l.length)-k/\k<=(l.length)/\e 6=.int .i64 (k:Int)/\(mH aA 3 (e 5) gg sB (gL s l k)):=fun x1 x2=>⟨_,by omega,k+1,rfl,by omega,(by rw[x1,az (by omega)]),x2⟩
  have eX:k<l.length:=by omega
  have eM:=gw eX
  have LM:=tA s l k
  (try((repeat(revert hN;revert N;apply Pn.out));refine wk (tw @a6 (tw @a0 (tw @a1 @hk))) ?_;(repeat(refine Pn.mk ?_;intro N hN))))
  refine aM (fun n env st=>∃m:Nat,n=(2)-m/\m<=(2)/\env 7=(.int .i64 (1-(m:Int)))/\(mH aA 3 (env 5) st.get sB (gL s l k++gm s l k m))) (2) ⟨0,by omega,by omega,sl (tw @a6 (tw @a0 @a1)),by(simp only[go_sem, ↓reduceIte,Nat.reduceEqDiff,Nat.reduceAdd,Nat.reduceSub,Nat.reduceLeDiff,reduceCtorEq];exact kc.cast (by simp[gm]))⟩ ?_
  rintro n_b env_b st_b ⟨m,rfl,ble,b7,bI0⟩ e9
  have b0:=e9 0 (by kernel_rfl);have b1:=e9 1 (by kernel_rfl);have b6:=e9 6 (by kernel_rfl)
  simp only[go_sem, ↓reduceIte,Nat.reduceEqDiff,Nat.reduceAdd,Nat.reduceSub,Nat.reduceLeDiff,reduceCtorEq,a6,a0,a1]at b0 b1 b6
  clear e9
  have S3:=rE s l k m
  have lI:=qc s l k m
  by_cases hm:(m:Int)<2
  ·have fJ:∀{e:Env} {gg:Rows},(e 7=(.int .i64 (1-((m+1):Int))))->(mH aA 3 (e 5) gg sB (gL s l k++gm s l k (m+1)))->∃m0,m0<(2)-m/\∃m:Nat,m0=(2)-m/\m<=(2)/\e 7=(.int .i64 (1-(m:Int)))/\(mH aA 3 (e 5) gg sB (gL s l k++gm s l k m)):=fun x1 x2=>⟨_,by omega,m+1,rfl,by omega,x1,x2⟩
   have qG:(0:Int)<=1-(m:Int):=by omega
   have hd:iO (1-(m:Int)) 0 3=true:=jL (by omega)
   have hw:IntKind.i64.wrap (1-(m:Int)-1)=1-((m:Int)+1):=by rw[bx (by omega)];omega
   have Te:=xI l hF k (1-(m:Int)) eX hd
   unfold mM at lI
   have hT:=hA.2 _ (kY eX)
   generalize CJ:eJ l (bd (aU l k).bc (1-(m:Int)))=ix at *
   by_cases hi:ix<0
   ·rw[if_neg (by omega),List.append_nil]at lI
    (repeat(first|((repeat(revert hN;revert N;apply Pn.out));refine wk (tw @b7 (tw @b0 (tw @b1 (tw @b6 (tw @qG (tw @hw @hi)))))) ?_;(repeat(refine Pn.mk ?_;intro N hN)))|((try apply Or.inl);refine⟨_,aq.x (Te) (sd (tw @b7 (tw @b0 (tw @b1 (tw @b6 (tw @qG (tw @hw @hi))))))),?_⟩;refine hN _ _ ?_;clear hN N)))
    exact fJ (sd (tw @b7 (tw @b0 (tw @b1 (tw @b6 @hw))))) (by(simp only[go_sem, ↓reduceIte,Nat.reduceEqDiff,Nat.reduceAdd,Nat.reduceSub,Nat.reduceLeDiff,reduceCtorEq];exact bI0.cast (by rw[lI])))
   ·have HL:0<=ix:=by omega
    have OI:=kD (l:=l) (p:=bd (aU l k).bc (1-(m:Int))) (by omega)
    rw[CJ]at OI
    have ku:=gw OI.1
    have yi:=GN s hS (aU l k).bU (1-(m:Int)) (aU l ix.toNat).bU hT (hA.2 _ (kY OI.1)) hd
    generalize SX:gS s (aU l k).bU (1-(m:Int)) (aU l ix.toNat).bU=bv at *
    by_cases hb:0<bv
    ·rw[if_pos ⟨HL,hb⟩]at lI
     (repeat(first|((repeat(revert hN;revert N;apply Pn.out));refine wa (tw @b7 (tw @b0 (tw @b1 (tw @b6 (tw @qG (tw @hw (tw @hi (tw @HL (tw @eM (tw @ku (tw @hb @aj.eq_1))))))))))) ?_;(repeat(refine Pn.mk ?_;intro N hN)))|((try apply Or.inl);refine⟨_,aq.x (Te) (sd (tw @b7 (tw @b0 (tw @b1 (tw @b6 (tw @qG (tw @hw (tw @hi (tw @HL (tw @eM (tw @ku (tw @hb @aj.eq_1)))))))))))),?_⟩;refine hN _ _ ?_;clear hN N)|((try apply Or.inl);refine⟨_,aq.x (yi) (sd (tw @b7 (tw @b0 (tw @b1 (tw @b6 (tw @qG (tw @hw (tw @hi (tw @HL (tw @eM (tw @ku (tw @hb @aj.eq_1)))))))))))),?_⟩;refine hN _ _ ?_;clear hN N)))
     refine PF (enc:=aA) (S:=sB) (L:=gL s l k++gm s l k m) (xv:=env_b 5) [⟨k,ix.toNat,bv⟩] rfl rfl (sd @Nat.zero_add) (bI0.frame fun o ho=>by rcases ho with ho|ho<;>simp only[go_sem, ↓reduceIte,Nat.reduceEqDiff,Nat.reduceAdd,Nat.reduceSub,Nat.reduceLeDiff,reduceCtorEq,Ad ho]) (sd (tw @aA.eq_1 (Int.toNat_of_nonneg HL))) NJ (.inr rfl) (by simp only[dz,List.length_append,List.length_cons,List.length_nil];omega) fun v g' hO lY=>?_
     rw[List.append_assoc,<-lI]at hO
     clear lY
     (try((repeat(revert hN;revert N;apply Pn.out));refine wk (tw @b7 (tw @b0 (tw @b1 (tw @b6 @hw)))) ?_;(repeat(refine Pn.mk ?_;intro N hN))))
     exact fJ (sd (tw @b7 (tw @b0 (tw @b1 (tw @b6 @hw))))) (by(simp only[go_sem, ↓reduceIte,Nat.reduceEqDiff,Nat.reduceAdd,Nat.reduceSub,Nat.reduceLeDiff,reduceCtorEq];exact hO))
    ·rw[if_neg fun h=>hb h.2,List.append_nil]at lI
     (repeat(first|((repeat(revert hN;revert N;apply Pn.out));refine wk (tw @b7 (tw @b0 (tw @b1 (tw @b6 (tw @qG (tw @hw (tw @hi (tw @HL (tw @eM (tw @ku (tw @hb @aj.eq_1))))))))))) ?_;(repeat(refine Pn.mk ?_;intro N hN)))|((try apply Or.inl);refine⟨_,aq.x (Te) (sd (tw @b7 (tw @b0 (tw @b1 (tw @b6 (tw @qG (tw @hw (tw @hi (tw @HL (tw @eM (tw @ku (tw @hb @aj.eq_1)))))))))))),?_⟩;refine hN _ _ ?_;clear hN N)|((try apply Or.inl);refine⟨_,aq.x (yi) (sd (tw @b7 (tw @b0 (tw @b1 (tw @b6 (tw @qG (tw @hw (tw @hi (tw @HL (tw @eM (tw @ku (tw @hb @aj.eq_1)))))))))))),?_⟩;refine hN _ _ ?_;clear hN N)))
     exact fJ (sd (tw @b7 (tw @b0 (tw @b1 (tw @b6 @hw))))) (by(simp only[go_sem, ↓reduceIte,Nat.reduceEqDiff,Nat.reduceAdd,Nat.reduceSub,Nat.reduceLeDiff,reduceCtorEq];exact bI0.cast (by rw[lI])))
  ·have Nl:m=2:=by omega
   subst Nl
   have dR:¬(0:Int)<=1-((2:Nat):Int):=by omega
   (try((repeat(revert hN;revert N;apply Pn.out));refine wk (tw @b7 (tw @b0 (tw @b1 (tw @b6 @dR)))) ?_;(repeat(refine Pn.mk ?_;intro N hN))))
   exact cz (sd (tw @a6 (tw @a0 (tw @a1 (tw @b7 (tw @b0 (tw @b1 @b6))))))) (by(simp only[go_sem, ↓reduceIte,Nat.reduceEqDiff,Nat.reduceAdd,Nat.reduceSub,Nat.reduceLeDiff,reduceCtorEq];exact bI0.cast (by rw[rF])))
 ·have kH:k=l.length:=by omega
  (try((repeat(revert hN;revert N;apply Pn.out));refine wk (tw @a6 (tw @a0 (tw @a1 @hk))) ?_;(repeat(refine Pn.mk ?_;intro N hN))))
  exact wS (.inl rfl) (by simp only[go_sem, ↓reduceIte,Nat.reduceEqDiff,Nat.reduceAdd,Nat.reduceSub,Nat.reduceLeDiff,reduceCtorEq];rfl) (by rw[kH]at kc;exact kc.gy fun b=>uD _ _ b)
end Go.Proofs.YtgoelphibofcmaaGreat.V
