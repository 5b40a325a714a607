/- Lists of one's own, and lists of such lists: rows whose cells hold rows of one's own. -/
import Derived.Test.YtgoljkjaameagaaGreatSdB
import Derived.Test.YtgoljkjaameagaaGreatChecked
set_option linter.unusedVariables false
set_option linter.unusedSimpArgs false
set_option maxRecDepth 100000
set_option maxHeartbeats 16000000
namespace Go.Proofs.YtgoljkjaameagaaGreat.V
open Go.RowKit
section
variable {α:Type} {enc:α->List AV} {sz:Nat} {g g':Rows} {a:AV} {xs:List α} {ids:List Id}
end
abbrev vI (α:Type):=Rows->List AV->α->List Id->Prop
structure rQ {α:Type} (R:vI α) (sz:Nat):Prop where
 frame:∀{g g':Rows} {cs x ids},R g cs x ids->(∀i∈ids,g' i=g i)->R g' cs x ids
 len:∀{g cs x ids},R g cs x ids->cs.length=sz
 cell:∀{g cs x ids},R g cs x ids->cs.all AV.cell=true
 live:∀{g cs x ids},R g cs x ids->∀i∈ids,∃r,g i=some r/\r.w=true/\r.sz<mT
 small:sz<mT
inductive dE {α:Type} (R:vI α) (g:Rows):List (List AV)->List α->List Id->Prop
 |nil:dE R g [] [] []
 |cons {cs x i1 rs xs i2}:R g cs x i1->dE R g rs xs i2->dE R g (cs::rs) (x::xs) (i1++i2)
section
variable {α:Type} {R:vI α} {sz:Nat} {g g':Rows} {rows r1 r2:List (List AV)} {xs x1 x2:List α} {ids i1 i2:List Id}
theorem dE.len (h:dE R g rows xs ids):rows.length=xs.length:=by
 induction h with
 |nil=>rfl
 |cons _ _ ih=>simp[ih]
theorem dE.frame (ok:rQ R sz) (h:dE R g rows xs ids) (hf:∀i∈ids,g' i=g i):dE R g' rows xs ids:=by
 induction h with
 |nil=>exact .nil
 |cons h1 _ ih=>exact .cons (ok.frame h1 fun i hi=>hf i (List.mem_append_left _ hi)) (ih fun i hi=>hf i (List.mem_append_right _ hi))
theorem dE.app (h1:dE R g r1 x1 i1) (h2:dE R g r2 x2 i2):dE R g (r1++r2) (x1++x2) (i1++i2):=by
 induction h1 with
 |nil=>exact h2
 |cons h _ ih=>rw[List.append_assoc];exact .cons h ih
theorem dE.one {cs:List AV} {x:α} (h:R g cs x ids):dE R g [cs] [x] ids:=by
 have:=dE.cons h dE.nil
 rwa [List.append_nil]at this
theorem dE.split (h:dE R g rows xs ids):∀k (hk:k<xs.length),∃r1 cs r2 i1 ic i2,rows=r1++cs::r2/\r1.length=k/\ids=i1++(ic++i2)/\dE R g r1 (xs.take k) i1/\R g cs xs[k] ic/\dE R g r2 (xs.drop (k+1)) i2:=by
 induction h with
 |nil=>intro k hk;simp at hk
 |cons h1 h2 ih=>
  rename_i cs x j1 rs xs j2
  intro k hk
  cases k with
  |zero=>exact⟨[],cs,rs,[],j1,j2,rfl,rfl,rfl,.nil,h1,h2⟩
  |succ k=>
   obtain⟨r1,qw,r2,i1,ic,i2,rfl,hl,rfl,h3,h4,h5⟩:=ih k (by simpa using hk)
   exact⟨cs::r1,qw,r2,j1++i1,ic,i2,rfl,by simp[hl],by rw[List.append_assoc],.cons h1 h3,h4,h5⟩
theorem dE.at_ (h:dE R g rows xs ids) (k:Nat) (hk:k<xs.length):∃cs ic,rows[k]? =some cs/\R g cs xs[k] ic/\∀i∈ic,i∈ids:=by
 obtain⟨r1,cs,r2,i1,ic,i2,rfl,hl,rfl,h3,h4,h5⟩:=h.split k hk
 refine⟨cs,ic,by rw[List.getElem?_append_right (by omega)];simp[hl],h4,fun i hi=>by simp[hi]⟩
theorem dE.fz {n:Nat} {e:α->List AV} (h:dE R g rows xs ids) (hz:∀{cs x ids},R g cs x ids->de (dK g) n cs=some (e x)):ee (dK g) n rows=some (xs.map e):=by
 induction h with
 |nil=>rw[ee];rfl
 |cons h1 _ ih=>rw[ee,hz h1,ih];rfl
end
section
variable {α:Type} {R:vI α} {sz:Nat} {g g':Rows} {a:AV} {xs:List α} {ids:List Id}
end
variable {P:Program} {X:fX} {K:Env->ay->Prop} {env:Env} {σ:ay}
def nj {α:Type} (enc:α->List AV) (sz:Nat) (x:AV) (g:Rows) (S:Id->Prop) (L:List α):Prop:=∃o:Id,S o/\x=.own o 0 L.length/\g o=some ⟨true,sz,L.map enc⟩
section
variable {α:Type} {enc:α->List AV} {sz:Nat} {x:AV} {g g':Rows} {S:Id->Prop} {L L':List α}
theorem nj.cast (h:nj enc sz x g S L) (hL:L'=L):nj enc sz x g S L':=by subst hL;exact h
theorem nj.frame (h:nj enc sz x g S L) (hg:∀o:Id,S o->g' o=g o):nj enc sz x g' S L:=by
 obtain⟨o,h1,h2,h3⟩:=h
 exact⟨o,h1,h2,(hg o h1).trans h3⟩
theorem nj.app (hz:∀a,(enc a).length=sz/\(enc a).all AV.cell=true) (h:nj enc sz x g S L) (id:Id) (hid:S id) (M:List α) (hlen:L.length+M.length<=dy):
  ∃v g',aW g id sz x (M.map enc)=some (v,g')/\nj enc sz v g' S (L++M)/\∀j:Id,¬S j->g' j=g j:=by
 obtain⟨o,h1,rfl,h4⟩:=h
 refine⟨.own id 0 (L.length+(M.map enc).length),bL (bY g o) id ⟨true,sz,L.map enc++M.map enc⟩,?_,⟨id,hid,by simp,by simp[bL]⟩,fun j hj=>?_⟩
 ·have ha:=all_map (l:=M) hz
  simp only[aW,h4,Option.bind_some]
  rw[if_pos ⟨trivial,trivial,by simp,by simpa using hlen,ha⟩]
 ·have e1:¬j=id:=fun h=>hj (h▸hid)
  have e2:¬j=o:=fun h=>hj (h▸h1)
  simp[bL,bY,e1,e2]
theorem RA {draw:Bool} {o:bR} {r:List bR} {x' y:O} {xv:AV} (M:List α) (ho:o.op=.append sz x' y) (hw:aI o.guard env=true) (hx:dd env x'=xv) (hO:nj enc sz xv σ.get S L)
  (hy:bq σ.get (dd env y)=some (M.map enc)) (hz:∀a,(enc a).length=sz/\(enc a).all AV.cell=true) (hid:S ⟨o.site,σ.next⟩) (hlen:L.length+M.length<=dy)
  (next:∀v g',nj enc sz v g' S (L++M)->(∀j:Id,¬S j->g' j=σ.get j)->wpOps X draw r K (upd env o.dst v) ⟨g',σ.next⟩):wpOps X draw (o::r) K env σ:=by
 obtain⟨v,g',h1,h2,h3⟩:=hO.app hz ⟨o.site,σ.next⟩ hid M hlen
 unfold wpOps
 rw[if_pos hw]
 unfold fw
 simp only[ho,fE,hy,hx,Option.bind_some,h1]
 exact next v g' h2 h3
theorem nj.gq {n:Nat} (h:nj enc sz x g S L) (he:∀a,er g n (enc a)=some (enc a)):gq g (n+1) x=some (.sl (L.map enc)):=by
 obtain⟨o,_,rfl,h3⟩:=h
 exact fA h3 rfl he
end
theorem da {a b:Id} (h:a.br<b.br):(a=b)=False/\(b=a)=False:=by
 constructor<;>(simp only[eq_iff_iff,iff_false];rintro rfl;omega)
theorem AR {o:Id} {a:Nat} (h:o.site=a) {b v:Nat} (oq:(a==b)=false):(o=⟨b,v⟩)=False:=by
 simp only[eq_iff_iff,iff_false]
 rintro rfl
 simp only at h
 subst h
 simp at oq
def eN (n:Nat):List AV:=[.int .i64 n]
theorem fzN (g:Rows) (n:Nat) (a:Nat):de g (n+1) (eN a)=some (eN a):=by simp[eN,aq,au,aH]
theorem Qa (g:Rows) (n:Nat) (a:Nat):er g (n+1) (eN a)=some (eN a):=by simp[eN,bV,cY,eL]
def RY:vI (List Nat):=fun g cs x ids=>∃id,cs=[.own id 0 x.length]/\g id=some ⟨true,1,x.map eN⟩/\ids=[id]
theorem Ra:rQ RY 1 where
 frame:=fun⟨id,h1,h2,h3⟩ hf=>by subst h3;exact⟨id,h1,(hf id (by simp)).trans h2,rfl⟩
 len:=fun⟨id,h1,_⟩=>by subst h1;rfl
 cell:=fun⟨id,h1,_⟩=>by subst h1;rfl
 live:=fun⟨id,h1,h2,h3⟩ i hi=>by
  subst h3
  have:i=id:=by simpa using hi
  subst this
  exact⟨_,h2,rfl,by simp[mT]⟩
 small:=by simp[mT]
def Be (l:List Nat):List AV:=[.sl (l.map eN)]
theorem KL {g:Rows} {rows:List (List AV)} {xs:List (List Nat)} {ids:List Id} (n:Nat) (h:dE RY g rows xs ids):gD g (n+2) rows=some (xs.map Be):=by
 induction h with
 |nil=>rw[gD];rfl
 |cons h1 _ ih=>
  obtain⟨id,rfl,h2,_⟩:=h1
  rw[gD,ih,bV,cY,fA (e:=eN) (sz:=1) h2 rfl fun a=>Qa g n a];rfl
end Go.Proofs.YtgoljkjaameagaaGreat.V

namespace Go.Proofs.YtgoljkjaameagaaGreat.V
open Go.RowKit
attribute [local irreducible] ek wpOps fK Call
attribute [local go_sem] aI fw eH fE fD dd upd cm K.av cG AV.cells AV.cell rowOf rowsOf part ld rowAt bL bY dx dO gz bE cW dY fC eY dj dS cU cR dG dH bH aZ cJ bG cL cK dQ dU dR cI bJ cV dP bF aL cP cz gy bq cF bI aW dq bm dy AV.undef bw bz dJ dM dD dI cE dX ea cq dW dV cN cQ List.getD_cons_zero List.getD_cons_succ List.getD_nil List.all_cons List.all_nil Bool.and_true Bool.true_and Bool.and_self Bool.not_true Bool.not_false Option.map_some Option.map_none Option.bind_some Option.bind_none List.length_cons List.length_nil List.take_succ_cons List.take_zero List.take_nil List.drop_succ_cons List.drop_zero List.drop_nil List.head?_cons List.map_cons List.map_nil List.getElem?_cons_zero List.getElem?_cons_succ List.cons_append List.nil_append List.append_nil List.length_map List.set_cons_zero List.set_cons_succ Nat.reduceMul eq_self Int.toNat_natCast Int.natCast_nonneg and_self true_and and_true decide_true decide_false Bool.false_eq_true Nat.zero_add Nat.add_zero List.contains_cons List.contains_nil Bool.or_false Bool.false_or beq_self_eq_true Nat.reduceBEq ne_eq not_true_eq_false not_false_eq_true Id.mk.injEq false_and and_false Nat.reduceLT Int.reduceLE Int.reduceLT Int.reduceToNat Int.reduceNeg Int.reduceAdd Nat.le_refl List.length_append beq_true beq_false Bool.not_eq_eq_eq_not or_false false_or dK aq au aH bf bt bZ aU bh aT bc cH bx
variable {P:Program}
def Mn {α:Type} (R:vI α) (x:α) (σ:ay) (r:AV) (σ':ay):Prop:=∃cs ids,r=.agg cs/\R σ'.get cs x ids/\eE σ.next σ'.next ids/\Kept σ σ'
def eV {α:Type} (R:vI α) (z:Nat) (g:Rows) (a:AV) (xs:List α) (ids:List Id):Prop:=∃o rows is,a=.own o 0 xs.length/\g o=some ⟨true,z,rows⟩/\dE R g rows xs is/\ids=o::is
def Mo {α:Type} (R:vI α) (z:Nat) (xs:List α) (σ:ay) (r:AV) (σ':ay):Prop:=∃ids,eV R z σ'.get r xs ids/\eE σ.next σ'.next ids/\Kept σ σ'
theorem eV.frame {α:Type} {R:vI α} {z:Nat} {g g':Rows} {a:AV} {xs:List α} {ids:List Id} (ok:rQ R z) (h:eV R z g a xs ids) (hf:∀i∈ids,g' i=g i):eV R z g' a xs ids:=by
 obtain⟨o,rows,is,h1,h2,h3,rfl⟩:=h
 exact⟨o,rows,is,h1,(hf o (by simp)).trans h2,h3.frame ok fun i hi=>hf i (by simp[hi]),rfl⟩
theorem eV.fz {α:Type} {R:vI α} {z n:Nat} {e:α->List AV} {g:Rows} {a:AV} {xs:List α} {ids:List Id} (h:eV R z g a xs ids) (hz:∀{cs x ids},R g cs x ids->de (dK g) n cs=some (e x)):V.fz (dK g) (n+1) a=some (.sl (xs.map e)):=by
 obtain⟨o,rows,is,rfl,h2,h3,rfl⟩:=h
 rw[gE]
 simp only[dK,h2,Option.map_some,if_true]
 rw[if_pos (by rw[h3.len];omega),List.drop_zero,List.take_of_length_le (by rw[h3.len];exact Nat.le_refl _),h3.fz hz];rfl
def lV {α:Type} (e:α->List AV):vI α:=fun _ cs x ids=>cs=e x/\ids=[]
theorem JY {α:Type} {e:α->List AV} {z:Nat} (hz:∀x,(e x).length=z) (hc:∀x,(e x).all AV.cell=true) (hs:z<mT):rQ (lV e) z where
 frame:=fun h _=>h
 len:=fun h=>by rw[h.1];exact hz _
 cell:=fun h=>by rw[h.1];exact hc _
 live:=fun h i hi=>by rw[h.2]at hi;cases hi
 small:=hs
def oK:vI fc:=fun g cs t ids=>∃i,cs=[.str t.aO,.own i 0 t.bU.length]/\g i=some ⟨true,1,t.bU.map aQ⟩/\ids=[i]
theorem rM:rQ oK 2 where
 frame:=fun⟨i,h1,h2,h3⟩ hf=>⟨i,h1,(hf i (by rw[h3];simp)).trans h2,h3⟩
 len:=fun⟨i,h1,_⟩=>by rw[h1];rfl
 cell:=fun⟨i,h1,_⟩=>by rw[h1];rfl
 live:=fun⟨i,h1,h2,h3⟩ j hj=>by
  rw[h3]at hj
  have:j=i:=by simpa using hj
  subst this
  exact⟨_,h2,rfl,by simp[mT]⟩
 small:=by simp[mT]
theorem Ov {g:Rows} {cs:List AV} {t:fc} {ids:List Id} (n:Nat) (h:oK g cs t ids):de (dK g) (n+2) cs=some (bP t):=by
 obtain⟨i,rfl,h2,_⟩:=h
 have h3:V.fz (dK g) (n+2) (.own i 0 t.bU.length)=some (.sl (t.bU.map aQ)):=gI (e:=aQ) (sz:=1) (by simp[dK,h2]) rfl fun x=>by simp[aQ,aq,au,aH]
 simp only[aq,au,bt,h3,Option.map_some,bP]
theorem Oi {α:Type} {a b:List α} {x y:α} {k:Nat} (hk:a.length=k):(a++x::b).set k y=a++[y]++b:=by subst hk;simp
theorem A5 {α:Type} {R:vI α} {en:α->List AV} {z fk gk:Nat} {zero:List K} (ok:rQ R z) (hc:nv P fk=some (uy fk gk z zero)) (Bp:zero.length=z) (hz:∀x,(en x).length=z) (xs:List α) (hlen:xs.length<=1048576)
  (hg:∀x∈xs,∀σ,Call P gk [.agg (en x)] σ (Mn R x σ)) (σ:ay):Call P fk [.sl (xs.map en)] σ (Mo R z xs σ):=by
 refine e6 hc rfl fun hl=>?_
 try simp only[q]
 clear hl
 have hm:(xs.length:Int)<=((16777216:Nat):Int):=by omega
 have h0:(0:Int)<=(xs.length:Int):=by omega
 (try((repeat(revert hN;revert N;apply Pn.out));refine wk (tw @hm (tw @h0 (tw @Int.le_refl @Bp))) ?_;(repeat(refine Pn.mk ?_;intro N hN))))
 refine aX (fun n env st=>∃k:Nat,n=(xs.length)-k/\k<=(xs.length)/\env 4=.int .i64 (k:Int)/\(σ.next+2<=st.next/\(∀y:Id,y.br<σ.next->st.get y=σ.get y)/\∃rows is,st.get ⟨fk*1000000+1002,σ.next+1⟩=some ⟨true,z,rows++List.replicate (xs.length-k) (zero.map K.av)⟩/\dE R st.get rows (xs.take k) is/\eE (σ.next+2) st.next is)) (xs.length) ⟨0,by omega,by omega,sl @Nat.zero_add,by(try dsimp only);exact⟨by omega,fun y hy=>by
  have h1:=dr hy
  simp only[go_sem, ↓reduceIte,Nat.reduceEqDiff,Nat.reduceAdd,Nat.reduceSub,Nat.reduceLeDiff,reduceCtorEq,h1],[],[],sl @Nat.zero_add,.nil,List.nodup_nil,fun i hi=>by cases hi⟩⟩ ?_
 rintro n_a env_a st_a ⟨k,rfl,ale,a4,kC⟩ dC
 have a0:=dC 0 (by kernel_rfl);have a3:=dC 3 (by kernel_rfl)
 simp only[go_sem, ↓reduceIte,Nat.reduceEqDiff,Nat.reduceAdd,Nat.reduceSub,Nat.reduceLeDiff,reduceCtorEq]at a0 a3
 clear dC
 obtain⟨an,aK,rows,is,ag,aR,aN⟩:=kC
 have pP:rows.length=k:=by rw[aR.len,List.length_take];omega
 by_cases hk:(k:Int)<(xs.length:Int)
 ·have cD:∀{e:Env} {gg:Rows} {nx:Nat},(e 4=.int .i64 (IntKind.i64.wrap ((k:Int)+1)))->(σ.next+2<=nx/\(∀y:Id,y.br<σ.next->gg y=σ.get y)/\∃rows is,gg ⟨fk*1000000+1002,σ.next+1⟩=some ⟨true,z,rows++List.replicate (xs.length-(k+1)) (zero.map K.av)⟩/\dE R gg rows (xs.take (k+1)) is/\eE (σ.next+2) nx is)->∃m0,m0<(xs.length)-k/\∃k:Nat,m0=(xs.length)-k/\k<=(xs.length)/\e 4=.int .i64 (k:Int)/\(σ.next+2<=nx/\(∀y:Id,y.br<σ.next->gg y=σ.get y)/\∃rows is,gg ⟨fk*1000000+1002,σ.next+1⟩=some ⟨true,z,rows++List.replicate (xs.length-k) (zero.map K.av)⟩/\dE R gg rows (xs.take k) is/\eE (σ.next+2) nx is):=fun x1 x2=>⟨_,by omega,k+1,rfl,by omega,(by rw[x1,az (by omega)]),x2⟩
  have fm:k<xs.length:=by omega
  have eU:(xs.map en)[k]? =some (en xs[k]):=by simp[fm]
  have uh:=hz xs[k]
  have ht:(en xs[k]).take z=en xs[k]:=by rw[<-uh,List.take_length]
  have iy:=hg _ (List.getElem_mem fm)
  obtain⟨m,Gr⟩:∃m,xs.length-k=m+1:=⟨xs.length-k-1,by omega⟩
  rw[Gr,List.replicate_succ]at ag
  generalize hex:en xs[k]=c at iy eU uh ht
  (try((repeat(revert hN;revert N;apply Pn.out));refine wk (tw @a4 (tw @a0 (tw @a3 (tw @hk (tw @eU (tw @uh (tw @ht @Nat.le_refl))))))) ?_;(repeat(refine Pn.mk ?_;intro N hN))))
  refine .inr (aJ _ _ _ _ _ (fun r σ1 hq=>?_) (iy _))
  obtain⟨cs,ids,rfl,hR,hI,hK⟩:=hq
  obtain⟨g1,x1⟩:=σ1
  (try dsimp only at hR hI hK)
  have Bh:=(hK.2 ⟨fk*1000000+1002,σ.next+1⟩ (by(try dsimp only);omega))
  simp only[go_sem, ↓reduceIte,Nat.reduceEqDiff,Nat.reduceAdd,Nat.reduceSub,Nat.reduceLeDiff,reduceCtorEq,ag]at Bh
  have mi:=ok.len hR
  have Ae:=ok.cell hR
  have eT:(rows++zero.map K.av::List.replicate m (zero.map K.av))[k]? =some (zero.map K.av):=by rw[List.getElem?_append_right (by omega),pP,Nat.sub_self];rfl
  have eC:(rows++zero.map K.av::List.replicate m (zero.map K.av)).set k cs=rows++[cs]++List.replicate m (zero.map K.av):=Oi pP
  have Kb:(zero.map K.av).drop z=[]:=List.drop_of_length_le (by simp[Bp])
  have I7:(rows++zero.map K.av::List.replicate m (zero.map K.av)).length=xs.length:=by simp[pP];omega
  refine hN _ _ ?_
  clear hN N
  (try((repeat(revert hN;revert N;apply Pn.out));refine wk (tw @a4 (tw @a0 (tw @a3 (tw @hk (tw @Bh (tw @eT (tw @eC (tw @I7 (tw @Kb (tw @vR (tw @mi (tw @Ae (tw @Nat.le_refl @Bp))))))))))))) ?_;(repeat(refine Pn.mk ?_;intro N hN))))
  have Al:=hK.1
  have Gk:∀i∈is,(i=⟨fk*1000000+1002,σ.next+1⟩)=False:=fun i hi=>eq_false fun e=>by
   have:=(aN.2 i hi).1
   subst e;(try dsimp only at this);omega
  have Bg:∀i∈ids,(i=⟨fk*1000000+1002,σ.next+1⟩)=False:=fun i hi=>eq_false fun e=>by
   have:=(hI.2 i hi).1
   subst e;(try dsimp only at this);omega
  exact cD (sd (tw @a4 (tw @a0 @a3))) (by(try dsimp only at *);exact⟨by omega,fun y hy=>by
   have h1:=dr hy
   have h2:=hK.2 y (by(try dsimp only);omega)
   have h3:=aK y hy
   simp only[go_sem, ↓reduceIte,Nat.reduceEqDiff,Nat.reduceAdd,Nat.reduceSub,Nat.reduceLeDiff,reduceCtorEq]at h2
   simp only[go_sem, ↓reduceIte,Nat.reduceEqDiff,Nat.reduceAdd,Nat.reduceSub,Nat.reduceLeDiff,reduceCtorEq,h1,h2,h3],rows++[cs],is++ids,by
    rw[show xs.length-(k+1)=m by omega]
    simp only[go_sem, ↓reduceIte,Nat.reduceEqDiff,Nat.reduceAdd,Nat.reduceSub,Nat.reduceLeDiff,reduceCtorEq]<;>rfl,by
    rw[List.take_succ_eq_append_getElem fm]
    refine((aR.frame ok fun i hi=>?_).app (.one (ok.frame hR fun i hi=>?_)))
    ·have h1:=Gk i hi
     have h2:=hK.2 i (by(try dsimp only);have:=(aN.2 i hi).2;omega)
     simp only[go_sem, ↓reduceIte,Nat.reduceEqDiff,Nat.reduceAdd,Nat.reduceSub,Nat.reduceLeDiff,reduceCtorEq]at h2
     simp only[go_sem, ↓reduceIte,Nat.reduceEqDiff,Nat.reduceAdd,Nat.reduceSub,Nat.reduceLeDiff,reduceCtorEq,h1,h2]
    ·have h1:=Bg i hi
     simp only[go_sem, ↓reduceIte,Nat.reduceEqDiff,Nat.reduceAdd,Nat.reduceSub,Nat.reduceLeDiff,reduceCtorEq,h1],(aN.app hI (by(try dsimp only);omega) (by omega) (by(try dsimp only);omega)).wide (Nat.le_refl _) (by(try dsimp only);omega)⟩)
 ·(try((repeat(revert hN;revert N;apply Pn.out));refine wk (tw @a4 (tw @a0 (tw @a3 @hk))) ?_;(repeat(refine Pn.mk ?_;intro N hN))))
  have fm:k=xs.length:=by omega
  subst fm
  rw[Nat.sub_self,List.replicate_zero,List.append_nil]at ag
  rw[List.take_length]at aR
  refine fe (.inl rfl) (vs:=[.own ⟨fk*1000000+1002,σ.next+1⟩ 0 xs.length]) (sd (tw @a4 (tw @a0 @a3))) ?_
  exact⟨_,⟨_,rows,is,rfl,ag,aR,rfl⟩,⟨List.nodup_cons.2 ⟨fun hi=>by have:=(aN.2 _ hi).1;(try dsimp only at this);omega,aN.1⟩,fun i hi=>by
   rcases List.mem_cons.1 hi with rfl|hi
   ·(try dsimp only);omega
   ·have:=aN.2 i hi;(try dsimp only);omega⟩,⟨by(try dsimp only);omega,fun j hj=>aK j hj⟩⟩
end Go.Proofs.YtgoljkjaameagaaGreat.V

namespace Go.Proofs.YtgoljkjaameagaaGreat.V
open Go.RowKit
attribute [local irreducible] ek wpOps fK Call
attribute [local go_sem] aI fw eH fE fD dd upd cm K.av cG AV.cells AV.cell rowOf rowsOf part ld rowAt bL bY dx dO gz bE cW dY fC eY dj dS cU cR dG dH bH aZ cJ bG cL cK dQ dU dR cI bJ cV dP bF aL cP cz gy bq cF bI aW dq bm dy AV.undef bw bz dJ dM dD dI cE dX ea cq dW dV cN cQ List.getD_cons_zero List.getD_cons_succ List.getD_nil List.all_cons List.all_nil Bool.and_true Bool.true_and Bool.and_self Bool.not_true Bool.not_false Option.map_some Option.map_none Option.bind_some Option.bind_none List.length_cons List.length_nil List.take_succ_cons List.take_zero List.take_nil List.drop_succ_cons List.drop_zero List.drop_nil List.head?_cons List.map_cons List.map_nil List.getElem?_cons_zero List.getElem?_cons_succ List.cons_append List.nil_append List.append_nil List.length_map List.set_cons_zero List.set_cons_succ Nat.reduceMul eq_self Int.toNat_natCast Int.natCast_nonneg and_self true_and and_true decide_true decide_false Bool.false_eq_true Nat.zero_add Nat.add_zero List.contains_cons List.contains_nil Bool.or_false Bool.false_or beq_self_eq_true Nat.reduceBEq ne_eq not_true_eq_false not_false_eq_true Id.mk.injEq false_and and_false Nat.reduceLT Int.reduceLE Int.reduceLT Int.reduceToNat Int.reduceNeg Int.reduceAdd Nat.le_refl List.length_append beq_true beq_false Bool.not_eq_eq_eq_not or_false false_or dK aq au aH bf bt bZ aU bh aT bc cH bx
theorem eV.ll {α:Type} {R:vI α} {z:Nat} {g:Rows} {a:AV} {xs:List α} {ids:List Id} (h:eV R z g a xs ids):∃o,a=.own o 0 xs.length:=by
 obtain⟨o,rows,is,rfl,_⟩:=h;exact⟨o,rfl⟩
theorem LI (xs:List Int) (hlen:xs.length<=1048576) (σ:ay):Call Tryz.prog 17 [.sl (xs.map aQ)] σ (fun r σ'=>∃i,r=.own i 0 xs.length/\σ'.get i=some ⟨true,1,xs.map aQ⟩/\eE σ.next σ'.next [i]/\Kept σ σ'):=by
 refine e6 (show nv Tryz.prog 17=some (LK 17 (.int .i64 0)) by kernel_rfl) rfl fun hl=>?_
 try simp only[q]
 clear hl
 obtain⟨en,EG⟩:∃en:Int->List AV,en=aQ:=⟨_,rfl⟩
 rw[<-EG]
 have hm:(xs.length:Int)<=((16777216:Nat):Int):=by omega
 have h0:(0:Int)<=(xs.length:Int):=by omega
 (try((repeat(revert hN;revert N;apply Pn.out));refine wk (tw @hm (tw @h0 (tw @Int.le_refl (oR en [AV.int .i64 0] xs)))) ?_;(repeat(refine Pn.mk ?_;intro N hN))))
 refine aX (fun n env st=>∃k:Nat,n=(xs.length)-k/\k<=(xs.length)/\env 4=.int .i64 (k:Int)/\st.get ⟨17*1000000+1002,σ.next+1⟩=some ⟨true,1,gV en [AV.int .i64 0] xs k⟩/\(σ.next+2<=st.next/\∀y:Id,y.br<σ.next->st.get y=σ.get y)) (xs.length) ⟨0,by omega,by omega,sl @Nat.zero_add,sl @Nat.zero_add,by(try dsimp only);exact⟨by omega,fun y hy=>by
  have h1:=dr hy
  simp only[go_sem, ↓reduceIte,Nat.reduceEqDiff,Nat.reduceAdd,Nat.reduceSub,Nat.reduceLeDiff,reduceCtorEq,h1]⟩⟩ ?_
 rintro n_a env_a st_a ⟨k,rfl,ale,a4,ag0,kC⟩ dC
 have a0:=dC 0 (by kernel_rfl);have a3:=dC 3 (by kernel_rfl)
 simp only[go_sem, ↓reduceIte,Nat.reduceEqDiff,Nat.reduceAdd,Nat.reduceSub,Nat.reduceLeDiff,reduceCtorEq]at a0 a3
 clear dC
 obtain⟨an,aK⟩:=kC
 by_cases hk:(k:Int)<(xs.length:Int)
 ·have cD:∀{e:Env} {gg:Rows} {nx:Nat},(e 4=.int .i64 (IntKind.i64.wrap ((k:Int)+1)))->(gg ⟨17*1000000+1002,σ.next+1⟩=some ⟨true,1,gV en [AV.int .i64 0] xs (k+1)⟩)->(σ.next+2<=nx/\∀y:Id,y.br<σ.next->gg y=σ.get y)->∃m0,m0<(xs.length)-k/\∃k:Nat,m0=(xs.length)-k/\k<=(xs.length)/\e 4=.int .i64 (k:Int)/\gg ⟨17*1000000+1002,σ.next+1⟩=some ⟨true,1,gV en [AV.int .i64 0] xs k⟩/\(σ.next+2<=nx/\∀y:Id,y.br<σ.next->gg y=σ.get y):=fun x1 x2 x3=>⟨_,by omega,k+1,rfl,by omega,(by rw[x1,az (by omega)]),x2,x3⟩
  have fm:k<xs.length:=by omega
  have eU:(xs.map en)[k]? =some [AV.int .i64 xs[k]]:=by simp[fm,EG,aQ]
  have fy:=qV en [AV.int .i64 0] xs fm
  have eC:=qW en [AV.int .i64 0] xs fm
  rw[show en xs[k]=[AV.int .i64 xs[k]] by rw[EG];rfl]at eC
  (try((repeat(revert hN;revert N;apply Pn.out));refine wk (tw @a4 (tw @ag0 (tw @a0 (tw @a3 (tw @hk (tw @eU (tw @fy @eC))))))) ?_;(repeat(refine Pn.mk ?_;intro N hN))))
  refine cD ?_ ?_ (by(try dsimp only);exact⟨by omega,fun y hy=>by
   have h1:=dr hy
   have h3:=aK y hy
   simp only[go_sem, ↓reduceIte,Nat.reduceEqDiff,Nat.reduceAdd,Nat.reduceSub,Nat.reduceLeDiff,reduceCtorEq,h1,h3]⟩)
  all_goals simp only[go_sem, ↓reduceIte,Nat.reduceEqDiff,Nat.reduceAdd,Nat.reduceSub,Nat.reduceLeDiff,reduceCtorEq,a4,ag0,a0,a3]
 ·(try((repeat(revert hN;revert N;apply Pn.out));refine wk (tw @a4 (tw @ag0 (tw @a0 (tw @a3 @hk)))) ?_;(repeat(refine Pn.mk ?_;intro N hN))))
  have fm:k=xs.length:=by omega
  subst fm
  refine fe (.inl rfl) (vs:=[.own ⟨17*1000000+1002,σ.next+1⟩ 0 xs.length]) (sd (tw @a4 (tw @ag0 (tw @a0 @a3)))) ?_
  rw[qU]at ag0
  exact⟨_,rfl,ag0,⟨List.nodup_cons.2 ⟨by simp,List.nodup_nil⟩,fun i hi=>by
   rw[List.mem_singleton.1 hi];(try dsimp only);omega⟩,⟨by(try dsimp only);omega,fun j hj=>aK j hj⟩⟩
theorem LL (p:fc) (hs:tb p) (σ:ay):Call Tryz.prog 198 [.agg (bP p)] σ (Mn oK p σ):=by
 refine e6 eK rfl fun hl=>?_
 clear hl
 (try((repeat(revert hN;revert N;apply Pn.out));refine wk @bP.eq_1 ?_;(repeat(refine Pn.mk ?_;intro N hN))))
 refine .inr (aJ _ _ _ _ _ (fun r σ1 hq=>?_) (LI p.bU hs _))
 obtain⟨i,rfl,hg,hI,hK⟩:=hq
 obtain⟨g1,x1⟩:=σ1
 (try dsimp only at hg hI hK)
 have hn:=hK.1
 refine hN _ _ ?_
 clear hN N
 have hi:=hI.2 i (by simp)
 have k2:=hK.2 ⟨198000001,σ.next⟩ (by(try dsimp only);omega)
 have k3:=hK.2 ⟨198001000,σ.next+1⟩ (by(try dsimp only);omega)
 simp only[go_sem, ↓reduceIte,Nat.reduceEqDiff,Nat.reduceAdd,Nat.reduceSub,Nat.reduceLeDiff,reduceCtorEq]at k2 k3
 (try((repeat(revert hN;revert N;apply Pn.out));refine wk (tw @bP.eq_1 (tw @k2 @k3)) ?_;(repeat(refine Pn.mk ?_;intro N hN))))
 refine fe (.inl rfl) (vs:=[.agg [.str p.aO,.own i 0 p.bU.length]]) (sd @Nat.zero_add) ?_
 refine⟨_,[i],rfl,⟨i,rfl,?_,rfl⟩,⟨hI.1,fun j hj=>?_⟩,⟨?_,fun j hj=>?_⟩⟩
 ·have i2:=da (b:=i) (a:=⟨198000001,σ.next⟩) (by(try dsimp only at *);omega)
  have i3:=da (b:=i) (a:=⟨198001000,σ.next+1⟩) (by(try dsimp only at *);omega)
  simp only[go_sem, ↓reduceIte,Nat.reduceEqDiff,Nat.reduceAdd,Nat.reduceSub,Nat.reduceLeDiff,reduceCtorEq,i2,i3,hg]
 ·rw[List.mem_singleton.1 hj]
  (try dsimp only at *);omega
 ·(try dsimp only at *);omega
 ·have h2:=hK.2 j (by(try dsimp only);omega)
  have h1:=dr hj
  simp only[go_sem, ↓reduceIte,Nat.reduceEqDiff,Nat.reduceAdd,Nat.reduceSub,Nat.reduceLeDiff,reduceCtorEq,h1]at h2
  simp only[go_sem, ↓reduceIte,Nat.reduceEqDiff,Nat.reduceAdd,Nat.reduceSub,Nat.reduceLeDiff,reduceCtorEq,h1,h2]
theorem B4:rQ (lV ck) 2:=JY (fun _=>rfl) (fun _=>rfl) (by simp[mT])
theorem yP:rQ (lV ah) 3:=JY (fun _=>rfl) (fun _=>rfl) (by simp[mT])
theorem LG (p:fS) (σ:ay):Call Tryz.prog 197 [.agg (ck p)] σ (Mn (lV ck) p σ):=by
 refine e6 eK rfl fun hl=>?_
 clear hl
 (try((repeat(revert hN;revert N;apply Pn.out));refine wk @ck.eq_1 ?_;(repeat(refine Pn.mk ?_;intro N hN))))
 refine fe (.inl rfl) (vs:=[.agg (ck p)]) (sd @ck.eq_1) ?_
 exact⟨_,[],rfl,⟨rfl,rfl⟩,⟨List.nodup_nil,fun i hi=>by cases hi⟩,⟨by(try dsimp only);omega,fun j hj=>by
  have h1:=dr hj
  simp only[go_sem, ↓reduceIte,Nat.reduceEqDiff,Nat.reduceAdd,Nat.reduceSub,Nat.reduceLeDiff,reduceCtorEq,h1]⟩⟩
theorem FI (p:ae) (σ:ay):Call Tryz.prog 149 [.agg (ah p)] σ (Mn (lV ah) p σ):=by
 refine e6 eK rfl fun hl=>?_
 clear hl
 have h:=zA p.bj
 rw[ai]at h
 (repeat(first|((repeat(revert hN;revert N;apply Pn.out));refine wk @ah.eq_1 ?_;(repeat(refine Pn.mk ?_;intro N hN)))|((try apply Or.inl);refine⟨_,k8.x (h) _,?_⟩;refine hN _ _ ?_;clear hN N)))
 refine fe (.inl rfl) (vs:=[.agg (ah p)]) (sd @ah.eq_1) ?_
 exact⟨_,[],rfl,⟨rfl,rfl⟩,⟨List.nodup_nil,fun i hi=>by cases hi⟩,⟨by(try dsimp only);omega,fun j hj=>by
  have h1:=dr hj
  simp only[go_sem, ↓reduceIte,Nat.reduceEqDiff,Nat.reduceAdd,Nat.reduceSub,Nat.reduceLeDiff,reduceCtorEq,h1]⟩⟩
theorem IM (xs:List fS) (h:xs.length<=1048576) (σ:ay):Call Tryz.prog 129 [.sl (xs.map ck)] σ (Mo (lV ck) 2 xs σ):=
 A5 B4 (show nv Tryz.prog 129=some (uy 129 197 2 [.str [],.int .i64 0]) by kernel_rfl) rfl (fun _=>rfl) xs h (fun x _ σ=>LG x σ) σ
theorem IQ (xs:List fc) (h:xs.length<=1048576) (hs:∀t∈xs,tb t) (σ:ay):Call Tryz.prog 130 [.sl (xs.map bP)] σ (Mo oK 2 xs σ):=
 A5 rM (show nv Tryz.prog 130=some (uy 130 198 2 [.str [],.cj]) by kernel_rfl) rfl (fun _=>rfl) xs h (fun x hx σ=>LL x (hs x hx) σ) σ
theorem Dj (xs:List ae) (h:xs.length<=1048576) (σ:ay):Call Tryz.prog 80 [.sl (xs.map ah)] σ (Mo (lV ah) 3 xs σ):=
 A5 yP (show nv Tryz.prog 80=some (uy 80 149 3 [.int .i64 0,.int .i64 0,.int .i64 0]) by kernel_rfl) rfl (fun _=>rfl) xs h (fun x _ σ=>FI x σ) σ
def zD (g:Rows) (v:AV) (a:eB) (ids:List Id):Prop:=∃x,v=.agg [x]/\eV (lV ah) 3 g x a.aj ids
structure By (g:Rows) (v:AV) (s:aM) (ids:List Id):Prop where
 ex:∃a b c i1 i2 i3,v=.agg [a,b,c,.int .i64 s.aA]/\eV (lV ck) 2 g a s.aC.aB i1/\eV oK 2 g b s.aC.aj i2/\eV (lV ah) 3 g c s.cC.aj i3/\ids=i1++(i2++i3)
theorem zD.frame {g g':Rows} {v:AV} {a:eB} {ids:List Id} (h:zD g v a ids) (hf:∀i∈ids,g' i=g i):zD g' v a ids:=by
 obtain⟨x,h1,h2⟩:=h
 exact⟨x,h1,h2.frame yP hf⟩
theorem By.frame {g g':Rows} {v:AV} {s:aM} {ids:List Id} (h:By g v s ids) (hf:∀i∈ids,g' i=g i):By g' v s ids:=by
 obtain⟨a,b,c,i1,i2,i3,h1,h2,h3,h4,rfl⟩:=h.ex
 exact⟨a,b,c,i1,i2,i3,h1,h2.frame B4 fun i hi=>hf i (by simp[hi]),h3.frame rM fun i hi=>hf i (by simp[hi]),h4.frame yP fun i hi=>hf i (by simp[hi]),rfl⟩
theorem zD.fz {g:Rows} {v:AV} {a:eB} {ids:List Id} (n:Nat) (h:zD g v a ids):V.fz (dK g) (n+4) v=some (.agg (bd a)):=by
 obtain⟨x,rfl,h2⟩:=h
 have h3:=h2.fz (n:=n+2) (e:=ah) fun hc=>by rw[hc.1];simp[ah,aq,au,aH]
 simp only[bh,aq,au,h3,Option.map_some,bd]
theorem By.fz {g:Rows} {v:AV} {s:aM} {ids:List Id} (n:Nat) (h:By g v s ids):V.fz (dK g) (n+5) v=some (.agg (aE s)):=by
 obtain⟨a,b,c,i1,i2,i3,rfl,h2,h3,h4,rfl⟩:=h.ex
 have q1:=h2.fz (n:=n+3) (e:=ck) fun hc=>by rw[hc.1];simp[ck,aq,au,aH,bt]
 have q2:=h3.fz (n:=n+3) (e:=bP) fun hc=>Ov (n+1) hc
 have q3:=h4.fz (n:=n+3) (e:=ah) fun hc=>by rw[hc.1];simp[ah,aq,au,aH]
 simp only[bh,aq,au,q1,q2,q3,aH,Option.map_some,aE]
theorem sV (p:eB) (hs:p.aj.length<=1048576) (σ:ay):Call Tryz.prog 18 [.agg (bd p)] σ (fun r σ'=>∃ids,zD σ'.get r p ids/\eE σ.next σ'.next ids/\Kept σ σ'):=by
 refine e6 eK rfl fun hl=>?_
 clear hl
 (try((repeat(revert hN;revert N;apply Pn.out));refine wk @bd.eq_1 ?_;(repeat(refine Pn.mk ?_;intro N hN))))
 refine .inr (aJ _ _ _ _ _ (fun r σ1 hq=>?_) (Dj p.aj hs _))
 obtain⟨ids,hR,hI,hK⟩:=hq
 obtain⟨g1,x1⟩:=σ1
 (try dsimp only at hR hI hK)
 have hn:=hK.1
 obtain⟨o,rows,is,rfl,hg,WG,rfl⟩:=hR
 refine hN _ _ ?_
 clear hN N
 have k2:=hK.2 ⟨18000001,σ.next⟩ (by(try dsimp only);omega)
 have k3:=hK.2 ⟨18001000,σ.next+1⟩ (by(try dsimp only);omega)
 simp only[go_sem, ↓reduceIte,Nat.reduceEqDiff,Nat.reduceAdd,Nat.reduceSub,Nat.reduceLeDiff,reduceCtorEq]at k2 k3
 (try((repeat(revert hN;revert N;apply Pn.out));refine wk (tw @bd.eq_1 (tw @k2 @k3)) ?_;(repeat(refine Pn.mk ?_;intro N hN))))
 refine fe (.inl rfl) (vs:=[.agg [.own o 0 p.aj.length]]) (sd @Nat.zero_add) ?_
 have hb:=hI.2
 (try dsimp only at hb hn)
 refine⟨_,⟨_,rfl,eV.frame yP ⟨o,rows,is,rfl,hg,WG,rfl⟩ fun j hj=>?_⟩,⟨hI.1,fun j hj=>?_⟩,⟨?_,fun j hj=>?_⟩⟩
 ·have QD:=hb j hj
  have i2:=da (b:=j) (a:=⟨18000001,σ.next⟩) (by(try dsimp only);omega)
  have i3:=da (b:=j) (a:=⟨18001000,σ.next+1⟩) (by(try dsimp only);omega)
  simp only[go_sem, ↓reduceIte,Nat.reduceEqDiff,Nat.reduceAdd,Nat.reduceSub,Nat.reduceLeDiff,reduceCtorEq,i2,i3]
 ·have:=hb j hj
  (try dsimp only);omega
 ·(try dsimp only);omega
 ·have h2:=hK.2 j (by(try dsimp only);omega)
  have h1:=dr hj
  simp only[go_sem, ↓reduceIte,Nat.reduceEqDiff,Nat.reduceAdd,Nat.reduceSub,Nat.reduceLeDiff,reduceCtorEq,h1]at h2
  simp only[go_sem, ↓reduceIte,Nat.reduceEqDiff,Nat.reduceAdd,Nat.reduceSub,Nat.reduceLeDiff,reduceCtorEq,h1,h2]
theorem Dl (p:ax) (hs:Jn p) (σ:ay):Call Tryz.prog 63 [.agg (aa p)] σ (fun r σ'=>∃a b i1 i2,r=.agg [a,b]/\eV (lV ck) 2 σ'.get a p.aB i1/\eV oK 2 σ'.get b p.aj i2/\eE σ.next σ'.next (i1++i2)/\Kept σ σ'):=by
 refine e6 eK rfl fun hl=>?_
 clear hl
 (try((repeat(revert hN;revert N;apply Pn.out));refine wk @aa.eq_1 ?_;(repeat(refine Pn.mk ?_;intro N hN))))
 refine .inr (aJ _ _ _ _ _ (fun r σ1 hq=>?_) (IM p.aB hs.g _))
 obtain⟨i1,hR,hI,hK⟩:=hq
 obtain⟨g1,x1⟩:=σ1
 (try dsimp only at hR hI hK)
 have hn:=hK.1
 obtain⟨o,rows,is,rfl,hg,WG,rfl⟩:=hR
 have hb:=hI.2
 (try dsimp only at hb hn)
 refine hN _ _ ?_
 clear hN N
 have k1:=hK.2 ⟨63000000,σ.next⟩ (by(try dsimp only);omega)
 have k2:=hK.2 ⟨63000001,σ.next⟩ (by(try dsimp only);omega)
 have k3:=hK.2 ⟨63001000,σ.next+1⟩ (by(try dsimp only);omega)
 simp only[go_sem, ↓reduceIte,Nat.reduceEqDiff,Nat.reduceAdd,Nat.reduceSub,Nat.reduceLeDiff,reduceCtorEq]at k1 k2 k3
 (try((repeat(revert hN;revert N;apply Pn.out));refine wk (tw @aa.eq_1 (tw @k1 (tw @k2 @k3))) ?_;(repeat(refine Pn.mk ?_;intro N hN))))
 refine .inr (aJ _ _ _ _ _ (fun r σ2 hq=>?_) (IQ p.aj hs.t hs.s _))
 obtain⟨i2,hS,hJ,hL⟩:=hq
 obtain⟨g2,x2⟩:=σ2
 (try dsimp only at hS hJ hL)
 have Kk:=hL.1
 obtain⟨o2,Uz,is2,rfl,Qw,hS',rfl⟩:=hS
 have hc:=hJ.2
 (try dsimp only at hc Kk)
 refine hN _ _ ?_
 clear hN N
 have l2:=hL.2 ⟨63000001,σ.next⟩ (by(try dsimp only);omega)
 have l3:=hL.2 ⟨63001000,σ.next+1⟩ (by(try dsimp only);omega)
 simp only[go_sem, ↓reduceIte,Nat.reduceEqDiff,Nat.reduceAdd,Nat.reduceSub,Nat.reduceLeDiff,reduceCtorEq,k2,k3]at l2 l3
 (try((repeat(revert hN;revert N;apply Pn.out));refine wk (tw @aa.eq_1 (tw @l2 @l3)) ?_;(repeat(refine Pn.mk ?_;intro N hN))))
 refine fe (.inl rfl) (vs:=[.agg [.own o 0 p.aB.length,.own o2 0 p.aj.length]]) (sd @Nat.zero_add) ?_
 have fr:∀x:Id,σ.next+2<=x.br->(x=⟨63000001,σ.next⟩)=False/\(x=⟨63001000,σ.next+1⟩)=False:=fun x hx=>⟨(da (a:=⟨63000001,σ.next⟩) (b:=x) (by(try dsimp only);omega)).2,(da (a:=⟨63001000,σ.next+1⟩) (b:=x) (by(try dsimp only);omega)).2⟩
 refine⟨_,_,_,_,rfl,eV.frame (g:=g1) B4 ⟨o,rows,is,rfl,hg,WG,rfl⟩ fun i hi=>?_,eV.frame (g:=g2) rM ⟨o2,Uz,is2,rfl,Qw,hS',rfl⟩ fun i hi=>?_,?_,⟨by(try dsimp only);omega,fun j hj=>?_⟩⟩
 ·have h1:=hb i hi
  have h2:=hL.2 i (by(try dsimp only);omega)
  have h3:=fr i (by omega)
  simp only[go_sem, ↓reduceIte,Nat.reduceEqDiff,Nat.reduceAdd,Nat.reduceSub,Nat.reduceLeDiff,reduceCtorEq,h3]at h2
  simp only[go_sem, ↓reduceIte,Nat.reduceEqDiff,Nat.reduceAdd,Nat.reduceSub,Nat.reduceLeDiff,reduceCtorEq,h2,h3]
 ·have h1:=hc i hi
  have h3:=fr i (by omega)
  simp only[go_sem, ↓reduceIte,Nat.reduceEqDiff,Nat.reduceAdd,Nat.reduceSub,Nat.reduceLeDiff,reduceCtorEq,h3]
 ·(try dsimp only at *)
  exact(hI.app hJ (by omega) (by omega) (by omega)).wide (by omega) (by omega)
 ·have h1:=dr hj
  have h2:=hL.2 j (by(try dsimp only);omega)
  have h3:=hK.2 j (by(try dsimp only);omega)
  simp only[go_sem, ↓reduceIte,Nat.reduceEqDiff,Nat.reduceAdd,Nat.reduceSub,Nat.reduceLeDiff,reduceCtorEq,h1]at h2 h3
  simp only[go_sem, ↓reduceIte,Nat.reduceEqDiff,Nat.reduceAdd,Nat.reduceSub,Nat.reduceLeDiff,reduceCtorEq,h1,h2,h3]
theorem FL (p:aM) (hs:tU p) (σ:ay):Call Tryz.prog 16 [.agg (aE p)] σ (fun r σ'=>∃ids,By σ'.get r p ids/\eE σ.next σ'.next ids/\Kept σ σ'):=by
 refine e6 eK rfl fun hl=>?_
 clear hl
 have t1:=fun σ=>Dl p.aC hs.s σ
 have t2:=fun σ=>sV p.cC hs.a σ
 rw[aa]at t1
 rw[bd]at t2
 (try((repeat(revert hN;revert N;apply Pn.out));refine wk @aE.eq_1 ?_;(repeat(refine Pn.mk ?_;intro N hN))))
 refine .inr (aJ _ _ _ _ _ (fun r σ1 hq=>?_) (t1 _))
 obtain⟨a,b,i1,i2,rfl,hA,hB,hI,hK⟩:=hq
 obtain⟨g1,x1⟩:=σ1
 (try dsimp only at hA hB hI hK)
 have hn:=hK.1
 have hb:=hI.2
 (try dsimp only at hb hn)
 refine hN _ _ ?_
 clear hN N
 have k1:=hK.2 ⟨16000000,σ.next⟩ (by(try dsimp only);omega)
 have k2:=hK.2 ⟨16000001,σ.next⟩ (by(try dsimp only);omega)
 have k3:=hK.2 ⟨16001000,σ.next+1⟩ (by(try dsimp only);omega)
 simp only[go_sem, ↓reduceIte,Nat.reduceEqDiff,Nat.reduceAdd,Nat.reduceSub,Nat.reduceLeDiff,reduceCtorEq]at k1 k2 k3
 obtain⟨oa,rfl⟩:=hA.ll
 obtain⟨ob,rfl⟩:=hB.ll
 (try((repeat(revert hN;revert N;apply Pn.out));refine wk (tw @aE.eq_1 (tw @k1 (tw @k2 @k3))) ?_;(repeat(refine Pn.mk ?_;intro N hN))))
 refine .inr (aJ _ _ _ _ _ (fun r σ2 hq=>?_) (t2 _))
 obtain⟨i3,hC,hJ,hL⟩:=hq
 obtain⟨g2,x2⟩:=σ2
 (try dsimp only at hC hJ hL)
 have Kk:=hL.1
 have hc:=hJ.2
 (try dsimp only at hc Kk)
 obtain⟨c,rfl,hC⟩:=hC
 obtain⟨oc,rfl⟩:=hC.ll
 refine hN _ _ ?_
 clear hN N
 have l1:=hL.2 ⟨16000000,σ.next⟩ (by(try dsimp only);omega)
 have l2:=hL.2 ⟨16000001,σ.next⟩ (by(try dsimp only);omega)
 have l3:=hL.2 ⟨16001000,σ.next+1⟩ (by(try dsimp only);omega)
 simp only[go_sem, ↓reduceIte,Nat.reduceEqDiff,Nat.reduceAdd,Nat.reduceSub,Nat.reduceLeDiff,reduceCtorEq,k1,k2,k3]at l1 l2 l3
 (try((repeat(revert hN;revert N;apply Pn.out));refine wk (tw @aE.eq_1 (tw @l1 (tw @l2 @l3))) ?_;(repeat(refine Pn.mk ?_;intro N hN))))
 refine fe (.inl rfl) (vs:=[.agg [.own oa 0 p.aC.aB.length,.own ob 0 p.aC.aj.length,.own oc 0 p.cC.aj.length,.int .i64 p.aA]]) (sd @Nat.zero_add) ?_
 have fr:∀x:Id,σ.next+2<=x.br->(x=⟨16000001,σ.next⟩)=False/\(x=⟨16001000,σ.next+1⟩)=False:=fun x hx=>⟨(da (a:=⟨16000001,σ.next⟩) (b:=x) (by(try dsimp only);omega)).2,(da (a:=⟨16001000,σ.next+1⟩) (b:=x) (by(try dsimp only);omega)).2⟩
 have R7:∀i∈i1++i2,g2 i=g1 i:=fun i hi=>by
  have h1:=hb i hi
  have h2:=hL.2 i (by(try dsimp only);omega)
  have h3:=fr i (by omega)
  simp only[go_sem, ↓reduceIte,Nat.reduceEqDiff,Nat.reduceAdd,Nat.reduceSub,Nat.reduceLeDiff,reduceCtorEq,h3]at h2
  exact h2
 refine⟨i1++(i2++i3),⟨_,_,_,i1,i2,i3,rfl,hA.frame B4 fun i hi=>?_,hB.frame rM fun i hi=>?_,hC.frame yP fun i hi=>?_,rfl⟩,?_,⟨by(try dsimp only);omega,fun j hj=>?_⟩⟩
 ·have h1:=hb i (by simp[hi])
  have h2:=R7 i (by simp[hi])
  have h3:=fr i (by omega)
  simp only[go_sem, ↓reduceIte,Nat.reduceEqDiff,Nat.reduceAdd,Nat.reduceSub,Nat.reduceLeDiff,reduceCtorEq,h2,h3]
 ·have h1:=hb i (by simp[hi])
  have h2:=R7 i (by simp[hi])
  have h3:=fr i (by omega)
  simp only[go_sem, ↓reduceIte,Nat.reduceEqDiff,Nat.reduceAdd,Nat.reduceSub,Nat.reduceLeDiff,reduceCtorEq,h2,h3]
 ·have h1:=hc i hi
  have h3:=fr i (by omega)
  simp only[go_sem, ↓reduceIte,Nat.reduceEqDiff,Nat.reduceAdd,Nat.reduceSub,Nat.reduceLeDiff,reduceCtorEq,h3]
 ·(try dsimp only at *)
  rw[<-List.append_assoc]
  exact(hI.app hJ (by omega) (by omega) (by omega)).wide (by omega) (by omega)
 ·have h1:=dr hj
  have h2:=hL.2 j (by(try dsimp only);omega)
  have h3:=hK.2 j (by(try dsimp only);omega)
  simp only[go_sem, ↓reduceIte,Nat.reduceEqDiff,Nat.reduceAdd,Nat.reduceSub,Nat.reduceLeDiff,reduceCtorEq,h1]at h2 h3
  simp only[go_sem, ↓reduceIte,Nat.reduceEqDiff,Nat.reduceAdd,Nat.reduceSub,Nat.reduceLeDiff,reduceCtorEq,h1,h2,h3]
end Go.Proofs.YtgoljkjaameagaaGreat.V

namespace Go.Proofs.YtgoljkjaameagaaGreat
open Go.RowKit
def lq (n:Int):Bool:=(decide (97<=n)&&decide (n<=122))||(decide (65<=n)&&decide (n<=90))
def lP (n:Int):Bool:=decide (48<=n)&&decide (n<=57)
def uF (i:Nat) (n:Int):Prop:=lq n=true∨(0<i/\(lP n=true∨n=95))
def vK (s:ByteArray):Prop:=(1<=s.size/\s.size<=12)/\∀i (h:i<s.size),uF i s[i].toNat
open Classical in
noncomputable def jR (s:ByteArray):Bool:=decide (vK s)
theorem Fe {s:ByteArray} (h:vK s):true=jR s:=by simp[jR,h]
theorem eA {s:ByteArray} (h:¬vK s):false=jR s:=by simp[jR,h]
theorem CX {s:ByteArray} {b:Bool} (hb:b=true) (h:vK s):b=jR s:=by simp[jR,h,hb]
theorem sI {s:ByteArray} {b:Bool} (hb:b=false) (h:¬vK s):b=jR s:=by simp[jR,h,hb]
theorem wS (w:World) (n:Int):Calls Tryz.prog 285 #[.int .u8 n] w fun e w'=>e=.returned (.bool (lq n))/\w=w':=by
 go_enter Tryz.func285,Tryz.ntmps285
 go_wp2_with fail
 all_goals
  go_ret
  exact⟨iJ (by unfold lq;simp[*];try omega),rfl⟩
theorem Hp (w:World) (n:Int):Calls Tryz.prog 286 #[.int .u8 n] w fun e w'=>e=.returned (.bool (lP n))/\w=w':=by
 go_enter Tryz.func286,Tryz.ntmps286
 go_wp2_with fail
 all_goals
  go_ret
  exact⟨iJ (by unfold lP;simp[*];try omega),rfl⟩
theorem Db (w:World) (s:ByteArray) (hs:s.size<=9223372036854775807):Calls Tryz.prog 237 #[.string s] w fun e w'=>e=.returned (.bool (jR s))/\Below w.heap.size w w':=by
 by_cases h1:1<=s.size
 case neg=>
  go_enter Tryz.func237,Tryz.ntmps237
  go_wp2_with fail
  go_ret
  exact⟨iJ (eA fun h=>h1 h.1.1),Below.refl _ _⟩
 by_cases h2:s.size<=12
 case neg=>
  go_enter Tryz.func237,Tryz.ntmps237
  go_wp2_with fail
  go_ret
  exact⟨iJ (eA fun h=>h2 h.1.2),Below.refl _ _⟩
 go_enter Tryz.func237,Tryz.ntmps237
 go_wp2_with fail
 refine(wS _ _).mono ?_
 rintro e w' ⟨rfl,rfl⟩
 cases h3:lq s[0].toNat
 ·go_wp2_with fail
  go_ret
  exact⟨iJ (eA fun h=>by have:=h.2 0 (by omega);simp only[uF]at this;rw[h3]at this;simp at this),Below.refl _ _⟩
 ·replace h3:=Lib.hid h3
  go_wp2_with fail
  go_loop [3] (fun i=>∃k:Nat,1<=k/\k<=s.size/\i=.int .i64 k/\Hid (∀j (h:j<s.size),j<k->uF j s[j].toNat)) (fun i=>s.size-(intOf i).toNat)
  case atStart=>exact⟨1,by omega,by omega,rfl,Lib.hid fun j h hj=>by
   obtain rfl:j=0:=by omega
   exact .inl h3.out⟩
  case round=>
   obtain⟨k,pc,hk,rfl,eh⟩:=hrel
   by_cases eo:k<s.size
   ·go_wp2_with fail
    refine(wS _ _).mono ?_
    rintro e w' ⟨rfl,rfl⟩
    have kH:uF k s[k].toNat∨¬uF k s[k].toNat:=Classical.em _
    cases hl:lq s[k].toNat
    ·go_wp2_with fail
     refine(Hp _ _).mono ?_
     rintro e w' ⟨rfl,rfl⟩
     cases hd:lP s[k].toNat
     ·by_cases uW:(s[k].toNat:Int)=95
      ·have Wn:((s[k].toNat:Int) !=95)=false:=by simp;omega
       replace uW:=Lib.hid uW
       replace hl:=Lib.hid hl
       replace hd:=Lib.hid hd
       go_wp2_with fail
       go_round
       case rel=>exact⟨k+1,by omega,by omega,by go_num,Lib.hid fun j h hj=>by
        by_cases yY:j=k
        ·subst yY;exact .inr ⟨by omega,.inr uW.out⟩
        ·exact eh.out j h (by omega)⟩
       case measure=>simp[intOf];omega
      ·have Wn:((s[k].toNat:Int) !=95)=true:=by simp;omega
       replace uW:=Lib.hid uW
       replace hl:=Lib.hid hl
       replace hd:=Lib.hid hd
       go_wp2_with fail
       go_ret
       exact⟨iJ (eA fun h=>by
        have:=h.2 k eo;simp only[uF,hl.out,hd.out]at this;exact uW.out (by simp at this;exact this.2)),Below.refl _ _⟩
     ·replace hl:=Lib.hid hl
      replace hd:=Lib.hid hd
      go_wp2_with fail
      go_round
      case rel=>exact⟨k+1,by omega,by omega,by go_num,Lib.hid fun j h hj=>by
       by_cases yY:j=k
       ·subst yY;exact .inr ⟨by omega,.inl hd.out⟩
       ·exact eh.out j h (by omega)⟩
      case measure=>simp[intOf];omega
    ·replace hl:=Lib.hid hl
     go_wp2_with fail
     go_round
     case rel=>exact⟨k+1,by omega,by omega,by go_num,Lib.hid fun j h hj=>by
      by_cases yY:j=k
      ·subst yY;exact .inl hl.out
      ·exact eh.out j h (by omega)⟩
     case measure=>simp[intOf];omega
   ·go_wp2_with fail
    go_ret
    exact⟨iJ (Fe ⟨⟨h1,h2⟩,fun i h=>eh.out i h (by omega)⟩),Below.refl _ _⟩
theorem Cv (w:World) (s:ByteArray) (hs:s.size<=9223372036854775807):Calls Tryz.prog 254 #[.string s] w fun e w'=>e=.returned (.bool (jR s))/\w=w':=by
 go_enter Tryz.func254,Tryz.ntmps254
 go_wp2_with fail
 go_loop [8] (fun i=>∃k:Nat,k<=s.size/\i=.int .i64 k/\Hid (∀j (h:j<s.size),j<k->uF j s[j].toNat)) (fun i=>s.size-(intOf i).toNat)
 case atStart=>exact⟨0,by omega,rfl,Lib.hid fun j h hj=>by omega⟩
 case round=>
  obtain⟨k,hk,rfl,eh⟩:=hrel
  by_cases eo:k<s.size
  ·have hc:(s[k].toNat:Int)<48∨(48<=(s[k].toNat:Int)/\(s[k].toNat:Int)<=57)∨(58<=(s[k].toNat:Int)/\(s[k].toNat:Int)<=64)∨(65<=(s[k].toNat:Int)/\(s[k].toNat:Int)<=90)∨(91<=(s[k].toNat:Int)/\(s[k].toNat:Int)<=94)∨(95<=(s[k].toNat:Int)/\(s[k].toNat:Int)<=95)∨(96<=(s[k].toNat:Int)/\(s[k].toNat:Int)<=96)∨(97<=(s[k].toNat:Int)/\(s[k].toNat:Int)<=122)∨123<=(s[k].toNat:Int):=by omega
   by_cases ue:k=0
   ·subst ue
    rcases hc with h|⟨h,h'⟩|⟨h,h'⟩|⟨h,h'⟩|⟨h,h'⟩|⟨h,h'⟩|⟨h,h'⟩|⟨h,h'⟩|h
    ·have uW:((s[0].toNat:Int) !=95)=true:=by simp;try omega
     go_wp2_with fail
     all_goals first
      |(go_ret;exact⟨iJ (eA fun hh=>by have:=hh.2 0 eo;simp[uF,lq,lP]at this;omega),rfl⟩)
      |(exfalso;simp_all;done)
      |(exfalso;simp_all;omega)
    ·have uW:((s[0].toNat:Int) !=95)=true:=by simp;try omega
     go_wp2_with fail
     all_goals first
      |(go_ret;exact⟨iJ (eA fun hh=>by have:=hh.2 0 eo;simp[uF,lq,lP]at this;omega),rfl⟩)
      |(exfalso;simp_all;done)
      |(exfalso;simp_all;omega)
    ·have uW:((s[0].toNat:Int) !=95)=true:=by simp;try omega
     go_wp2_with fail
     all_goals first
      |(go_ret;exact⟨iJ (eA fun hh=>by have:=hh.2 0 eo;simp[uF,lq,lP]at this;omega),rfl⟩)
      |(exfalso;simp_all;done)
      |(exfalso;simp_all;omega)
    ·have uW:((s[0].toNat:Int) !=95)=true:=by simp;try omega
     go_wp2_with fail
     go_round
     case rel=>exact⟨0+1,by omega,by go_num,Lib.hid fun j hj yY=>by
      by_cases Kh:j=0
      ·subst Kh;simp[uF,lq,lP];omega
      ·exact eh.out j hj (by omega)⟩
     case measure=>simp[intOf];try omega
    ·have uW:((s[0].toNat:Int) !=95)=true:=by simp;try omega
     go_wp2_with fail
     all_goals first
      |(go_ret;exact⟨iJ (eA fun hh=>by have:=hh.2 0 eo;simp[uF,lq,lP]at this;omega),rfl⟩)
      |(exfalso;simp_all;done)
      |(exfalso;simp_all;omega)
    ·have uW:((s[0].toNat:Int) !=95)=false:=by simp;try omega
     go_wp2_with fail
     all_goals first
      |(go_ret;exact⟨iJ (eA fun hh=>by have:=hh.2 0 eo;simp[uF,lq,lP]at this;omega),rfl⟩)
      |(exfalso;simp_all;done)
      |(exfalso;simp_all;omega)
    ·have uW:((s[0].toNat:Int) !=95)=true:=by simp;try omega
     go_wp2_with fail
     all_goals first
      |(go_ret;exact⟨iJ (eA fun hh=>by have:=hh.2 0 eo;simp[uF,lq,lP]at this;omega),rfl⟩)
      |(exfalso;simp_all;done)
      |(exfalso;simp_all;omega)
    ·have uW:((s[0].toNat:Int) !=95)=true:=by simp;try omega
     go_wp2_with fail
     go_round
     case rel=>exact⟨0+1,by omega,by go_num,Lib.hid fun j hj yY=>by
      by_cases Kh:j=0
      ·subst Kh;simp[uF,lq,lP];omega
      ·exact eh.out j hj (by omega)⟩
     case measure=>simp[intOf];try omega
    ·have uW:((s[0].toNat:Int) !=95)=true:=by simp;try omega
     go_wp2_with fail
     all_goals first
      |(go_ret;exact⟨iJ (eA fun hh=>by have:=hh.2 0 eo;simp[uF,lq,lP]at this;omega),rfl⟩)
      |(exfalso;simp_all;done)
      |(exfalso;simp_all;omega)
   ·have hz:((k:Int)==0)=false:=by simpa using ue
    have pc:1<=k:=by omega
    clear ue
    rcases hc with h|⟨h,h'⟩|⟨h,h'⟩|⟨h,h'⟩|⟨h,h'⟩|⟨h,h'⟩|⟨h,h'⟩|⟨h,h'⟩|h
    ·have uW:((s[k].toNat:Int) !=95)=true:=by simp;try omega
     go_wp2_with fail
     all_goals first
      |(go_ret;exact⟨iJ (eA fun hh=>by have:=hh.2 k eo;simp[uF,lq,lP]at this;omega),rfl⟩)
      |(exfalso;simp_all;done)
      |(exfalso;simp_all;omega)
    ·have uW:((s[k].toNat:Int) !=95)=true:=by simp;try omega
     go_wp2_with fail
     go_round
     case rel=>exact⟨k+1,by omega,by go_num,Lib.hid fun j hj yY=>by
      by_cases Kh:j=k
      ·subst Kh;simp[uF,lq,lP];omega
      ·exact eh.out j hj (by omega)⟩
     case measure=>simp[intOf];try omega
    ·have uW:((s[k].toNat:Int) !=95)=true:=by simp;try omega
     go_wp2_with fail
     all_goals first
      |(go_ret;exact⟨iJ (eA fun hh=>by have:=hh.2 k eo;simp[uF,lq,lP]at this;omega),rfl⟩)
      |(exfalso;simp_all;done)
      |(exfalso;simp_all;omega)
    ·have uW:((s[k].toNat:Int) !=95)=true:=by simp;try omega
     go_wp2_with fail
     go_round
     case rel=>exact⟨k+1,by omega,by go_num,Lib.hid fun j hj yY=>by
      by_cases Kh:j=k
      ·subst Kh;simp[uF,lq,lP];omega
      ·exact eh.out j hj (by omega)⟩
     case measure=>simp[intOf];try omega
    ·have uW:((s[k].toNat:Int) !=95)=true:=by simp;try omega
     go_wp2_with fail
     all_goals first
      |(go_ret;exact⟨iJ (eA fun hh=>by have:=hh.2 k eo;simp[uF,lq,lP]at this;omega),rfl⟩)
      |(exfalso;simp_all;done)
      |(exfalso;simp_all;omega)
    ·have uW:((s[k].toNat:Int) !=95)=false:=by simp;try omega
     go_wp2_with fail
     go_round
     case rel=>exact⟨k+1,by omega,by go_num,Lib.hid fun j hj yY=>by
      by_cases Kh:j=k
      ·subst Kh;simp[uF,lq,lP];omega
      ·exact eh.out j hj (by omega)⟩
     case measure=>simp[intOf];try omega
    ·have uW:((s[k].toNat:Int) !=95)=true:=by simp;try omega
     go_wp2_with fail
     all_goals first
      |(go_ret;exact⟨iJ (eA fun hh=>by have:=hh.2 k eo;simp[uF,lq,lP]at this;omega),rfl⟩)
      |(exfalso;simp_all;done)
      |(exfalso;simp_all;omega)
    ·have uW:((s[k].toNat:Int) !=95)=true:=by simp;try omega
     go_wp2_with fail
     go_round
     case rel=>exact⟨k+1,by omega,by go_num,Lib.hid fun j hj yY=>by
      by_cases Kh:j=k
      ·subst Kh;simp[uF,lq,lP];omega
      ·exact eh.out j hj (by omega)⟩
     case measure=>simp[intOf];try omega
    ·have uW:((s[k].toNat:Int) !=95)=true:=by simp;try omega
     go_wp2_with fail
     all_goals first
      |(go_ret;exact⟨iJ (eA fun hh=>by have:=hh.2 k eo;simp[uF,lq,lP]at this;omega),rfl⟩)
      |(exfalso;simp_all;done)
      |(exfalso;simp_all;omega)
  ·by_cases h1:1<=s.size
   ·by_cases h2:s.size<=12
    ·go_wp2_with fail
     go_ret
     exact⟨iJ (CX (by simp<;>omega) ⟨⟨h1,h2⟩,fun i h=>eh.out i h (by omega)⟩),rfl⟩
    ·go_wp2_with fail
     go_ret
     exact⟨iJ (sI (by simp<;>omega) fun h=>h2 h.1.2),rfl⟩
   ·go_wp2_with fail
    go_ret
    exact⟨iJ (sI (by simp<;>omega) fun h=>h1 h.1.1),rfl⟩
end Go.Proofs.YtgoljkjaameagaaGreat

namespace Go.Proofs.YtgoljkjaameagaaGreat.V
open Go.RowKit
theorem mixed:Tryz.prog.follows .mixedOrders=true:=by kernel_rfl
variable {P:Program} {w:World} {D:Nat->Prop} {ι:Names}
theorem mu {f:Nat} {args:List AV} {r:AV} {vs0:Array Value} {u0:Value} (n9:∀(w:World) (D:Nat->Prop) (ι:Names) vs,fb P w D ι args vs->vs=vs0) (hr:∀(w:World) (D:Nat->Prop) (ι:Names),dm P w D ι r u0) (Ah:∀g,gq g 6 r=some r)
  (h:∀w,Calls P f vs0 w fun e w'=>e=.returned u0/\Below w.heap.size w w'):aw P f args r:=by
 intro n
 refine gh fun hs D ι w vs S U A=>?_
 have:=n9 w D ι vs A
 subst this
 refine(h w).mono ?_
 rintro e w' ⟨rfl,hb⟩
 exact⟨r,_,n,D,ι,u0,rfl,⟨r,Ah _,rfl⟩,Step.stay S hb.block hb.size hb.os hb.tape hb.output (fun _ h=>h) (fun _ h=>.inl h) (fun _ _ h=>h),
  S.stay hb.block hb.size (fun _ h=>h) (fun b hd=>Nat.lt_of_lt_of_le (S.dead b hd) hb.size) (fun _ h=>.inl h) (fun _ _ h=>h),U,Nat.le_refl _,hr _ _ _⟩
theorem C8 {s:ByteArray} {vs:Array Value} (h:fb P w D ι [.str s] vs):vs= #[.string s]:=by
 obtain⟨h1,h2⟩:=h
 obtain⟨u,hu,hr⟩:=h2 0 _ rfl
 rw[fV hr]at hu
 obtain⟨l⟩:=vs
 cases l with
 |nil=>simp at h1
 |cons a l=>cases l with
  |nil=>simp at hu;subst hu;rfl
  |cons b l=>simp at h1
theorem GO (s:ByteArray) (hs:s.size<=9223372036854775807):aw Tryz.prog 237 [.str s] (.bool (jR s)):=
 mu (fun _ _ _ _=>C8) (fun _ _ _=>.fa _ _ (.bool _)) (fun g=>fP g 5 _) fun w=>Db w s hs
theorem GA (s:ByteArray) (hs:s.size<=9223372036854775807):aw Tryz.prog 254 [.str s] (.bool (jR s)):=
 mu (fun _ _ _ _=>C8) (fun _ _ _=>.fa _ _ (.bool _)) (fun g=>fP g 5 _) fun w=>(Cv w s hs).mono (by rintro e w' ⟨rfl,rfl⟩;exact⟨rfl,Below.refl _ _⟩)
end Go.Proofs.YtgoljkjaameagaaGreat.V

namespace Go.Proofs.YtgoljkjaameagaaGreat
open Go.RowKit
def uH (n:Nat):List UInt8:=if h:n=0 then[]else uH (n / 10)++[UInt8.ofNat (48+n % 10)]
termination_by n
decreasing_by omega
def pd (k:Int):ByteArray:=if k<=0 then⟨#[109,48]⟩else⟨(109::uH k.toNat).toArray⟩
theorem Hq:uH 0=[]:=by unfold uH;simp
theorem JJ {n:Nat} (h:n≠0):uH n=uH (n / 10)++[UInt8.ofNat (48+n % 10)]:=by
 conv=>lhs;unfold uH
 rw[dif_neg h]
theorem yN (c:UInt8) (l:ByteArray):((⟨#[c]⟩++l:ByteArray)).data.toList=c::l.data.toList:=by
 simp[ByteArray.data_append]
theorem BT:∀(m n:Nat),n<10 ^ m->(uH n).length<=m
 |0,n,h=>by
  have:n=0:=by simpa using h
  subst this;simp[uH]
 |m+1,n,h=>by
  unfold uH
  split
  ·simp
  ·have:=BT m (n / 10) (by rw[Nat.pow_succ]at h;omega)
   simp;omega
theorem AB (w:World) (k:Int) (h0:0<=k) (h1:k<=4611686018427387904):
  Calls Tryz.prog 213 #[.int .i64 k] w fun e w'=>e=.returned (.string (pd k))/\Below w.heap.size w w':=by
 by_cases hk:k<=0
 ·go_enter Tryz.func213,Tryz.ntmps213
  go_wp2_with fail
  go_ret
  exact⟨by simp[pd,hk],Below.refl _ _⟩
 ·go_enter Tryz.func213,Tryz.ntmps213
  go_wp2_with fail
  go_loopw [0,3] (fun a s wr=>∃(j:Int) (l:ByteArray),a=.int .i64 j/\s=.string l/\0<=j/\j<=4611686018427387904/\Hid (uH j.toNat++l.data.toList=uH k.toNat)/\Below w.heap.size w wr) (fun a _ _=>(intOf a).toNat)
  case atStart=>exact⟨k,⟨#[]⟩,rfl,rfl,h0,h1,Lib.hid (by simp),Below.refl _ _⟩
  case round=>
   obtain⟨j,l,rfl,rfl,Se,hj1,hd,hb⟩:=hrel
   have eR:l.size<=19:=by
    have h1:=congrArg List.length hd.out
    have h2:=BT 19 k.toNat (by omega)
    rw[List.length_append]at h1
    have:l.data.toList.length=l.size:=by rw[Array.length_toList];rfl
    omega
   by_cases hj:0<j
   ·have Tw:∀v:Int,(convert 336 9 (.slice (some ⟨wr.heap.size,0,none⟩) 1 1)).run Tryz.prog (wr.alloc (.cells #[.int .u8 v] 5))=.ok (.string ⟨#[UInt8.ofNat v.toNat]⟩) (wr.alloc (.cells #[.int .u8 v] 5)):=by
     intro v
     rw[run_convert_bytes_string _ _ _ 5 _ _ _ Tryz.underlying336 Tryz.underlying5 Tryz.underlying9,run_bytesToString _ _ _ _ [v] (by simp[loadCells,loadCellsFrom,go_sem])]
     rfl
    have hr:=eR
    go_wp2_with fail
    go_roundw
    case rel=>
     refine⟨_,_,rfl,rfl,by omega,by omega,Lib.hid ?_,hb.alloc hb.size _⟩
     rw[<-hd.out,yN,JJ (show j.toNat≠0 by omega),show(j / 10).toNat=j.toNat / 10 by omega,show(48+j % 10).toNat=48+j.toNat % 10 by omega]
     simp
    case measure=>simp[intOf];omega
   ·go_wp2_with fail
    go_ret
    refine⟨?_,hb⟩
    have h1:=hd.out
    rw[show j.toNat=0 by omega,Hq,List.nil_append]at h1
    have h2:(⟨#[109]⟩++l:ByteArray)=pd k:=by
     rw[pd,if_neg (by omega)]
     refine ByteArray.ext (Array.ext' ?_)
     rw[yN,h1]
    rw[h2];rfl
end Go.Proofs.YtgoljkjaameagaaGreat

namespace Go.Proofs.YtgoljkjaameagaaGreat.V
open Go.RowKit
attribute [local irreducible] ek wpOps fK Call
attribute [local go_sem] aI fw eH fE fD dd upd cm K.av cG AV.cells AV.cell rowOf rowsOf part ld rowAt bL bY dx dO gz bE cW dY fC eY dj dS cU cR dG dH bH aZ cJ bG cL cK dQ dU dR cI bJ cV dP bF aL cP cz gy bq cF bI aW dq bm dy AV.undef bw bz dJ dM dD dI cE dX ea cq dW dV cN cQ List.getD_cons_zero List.getD_cons_succ List.getD_nil List.all_cons List.all_nil Bool.and_true Bool.true_and Bool.and_self Bool.not_true Bool.not_false Option.map_some Option.map_none Option.bind_some Option.bind_none List.length_cons List.length_nil List.take_succ_cons List.take_zero List.take_nil List.drop_succ_cons List.drop_zero List.drop_nil List.head?_cons List.map_cons List.map_nil List.getElem?_cons_zero List.getElem?_cons_succ List.cons_append List.nil_append List.append_nil List.length_map List.set_cons_zero List.set_cons_succ Nat.reduceMul eq_self Int.toNat_natCast Int.natCast_nonneg and_self true_and and_true decide_true decide_false Bool.false_eq_true Nat.zero_add Nat.add_zero List.contains_cons List.contains_nil Bool.or_false Bool.false_or beq_self_eq_true Nat.reduceBEq ne_eq not_true_eq_false not_false_eq_true Id.mk.injEq false_and and_false Nat.reduceLT Int.reduceLE Int.reduceLT Int.reduceToNat Int.reduceNeg Int.reduceAdd Nat.le_refl List.length_append beq_true beq_false Bool.not_eq_eq_eq_not or_false false_or dK aq au aH bf bt bZ aU bh aT bc cH bx
def uz (σ:ay) (ids:List Id) (g:Rows) (n:Nat):Prop:=σ.next<=n/\∀x:Id,x.br<σ.next->x∉ids->g x=σ.get x
theorem xC (l:List (List AV)) (i:Nat) (a b:List AV):(l.set i a).set i b=l.set i b:=List.set_set ..
theorem JK {l:List Int} {j:Nat} (h:j<l.length):(l.map aQ)[j]? =some [.int .i64 l[j]]:=by simp[h,aQ]
theorem Ob {P:Program} {w:World} {D:Nat->Prop} {ι:Names} {k:Int} {vs:Array Value} (h:fb P w D ι [.int .i64 k] vs):vs= #[.int .i64 k]:=by
 obtain⟨h1,h2⟩:=h
 obtain⟨u,hu,hr⟩:=h2 0 _ rfl
 rw[dB hr]at hu
 obtain⟨l⟩:=vs
 cases l with
 |nil=>simp at h1
 |cons a l=>cases l with
  |nil=>simp at hu;subst hu;rfl
  |cons b l=>simp at h1
theorem wT (k:Int) (h0:0<=k) (h1:k<=4611686018427387904):aw Tryz.prog 213 [.int .i64 k] (.str (pd k)):=
 mu (vs0:= #[.int .i64 k]) (u0:=.string (pd k)) (fun _ _ _ _=>Ob) (fun w D ι=>.fa _ _ (.str _)) (fun g=>MM g 5 _) fun w=>AB w k h0 h1
theorem Fa (i:Id) (l:List Int) (k:Int) (h0:0<=k) (h1:k+l.length<=4611686018427387904) (σ:ay) (hv:i.br<σ.next) (hg:σ.get i=some ⟨true,1,l.map aQ⟩):
  Call Tryz.prog 24 [.own i 0 l.length,.int .i64 k] σ (fun r σ'=>r=.int .i64 (k+l.length)/\uz σ [i] σ'.get σ'.next):=by
 refine e6 eK rfl fun hl=>?_
 clear hl
 obtain⟨nn,hn⟩:∃nn,l.length=nn:=⟨_,rfl⟩
 rw[hn]at h1 ⊢
 (try((repeat(revert hN;revert N;apply Pn.out));refine wk @Nat.zero_add ?_;(repeat(refine Pn.mk ?_;intro N hN))))
 refine aX (fun n env st=>∃j:Nat,n=(nn)-j/\j<=(nn)/\env 5=.int .i64 (j:Int)/\env 1=.int .i64 (k+j)/\(uz σ [i] st.get st.next/\∃l':List Int,l'.length=nn/\st.get i=some ⟨true,1,l'.map aQ⟩)) (nn) ⟨0,by omega,by omega,sl (tw @Int.add_zero @Int.natCast_zero),sl (tw @Int.add_zero @Int.natCast_zero),by(try dsimp only);exact⟨⟨by(try dsimp only);omega,fun x _ _=>rfl⟩,l,hn,hg⟩⟩ ?_
 rintro n_a env_a st_a ⟨j,rfl,ale,a5,a1,kC⟩ dC
 have a0:=dC 0 (by kernel_rfl)
 simp only[go_sem, ↓reduceIte,Nat.reduceEqDiff,Nat.reduceAdd,Nat.reduceSub,Nat.reduceLeDiff,reduceCtorEq,Int.add_zero,Int.natCast_zero]at a0
 clear dC
 obtain⟨⟨an,aF⟩,l',al,ag⟩:=kC
 by_cases hj:(j:Int)<(nn:Int)
 ·have cD:∀{e:Env} {gg:Rows} {nx:Nat},(e 5=.int .i64 (IntKind.i64.wrap ((j:Int)+1)))->(e 1=.int .i64 (k+(j+1)))->(uz σ [i] gg nx/\∃l':List Int,l'.length=nn/\gg i=some ⟨true,1,l'.map aQ⟩)->∃m0,m0<(nn)-j/\∃j:Nat,m0=(nn)-j/\j<=(nn)/\e 5=.int .i64 (j:Int)/\e 1=.int .i64 (k+j)/\(uz σ [i] gg nx/\∃l':List Int,l'.length=nn/\gg i=some ⟨true,1,l'.map aQ⟩):=fun x1 x2 x3=>⟨_,by omega,j+1,rfl,by omega,(by rw[x1,az (by omega)]),x2,x3⟩
  have gW:j<l'.length:=by omega
  have eT:=JK gW
  have eC:(l'.map aQ).set j [.int .i64 (k+j)]=(l'.set j (k+j)).map aQ:=by rw[List.map_set];rfl
  have hw:IntKind.i64.wrap (k+(j:Int)+1)=k+((j:Int)+1):=by rw[bK (by omega)];omega
  (try((repeat(revert hN;revert N;apply Pn.out));refine wk (tw @a5 (tw @a1 (tw @a0 (tw @hj (tw @ag (tw @eT (tw @eC @hw))))))) ?_;(repeat(refine Pn.mk ?_;intro N hN))))
  refine cD ?_ ?_ (by(try dsimp only);exact⟨⟨by(try dsimp only);omega,fun x hx hi=>by
   have h2:=aF x hx hi
   have h3:(x=i)=False:=eq_false fun e=>hi (by simp[e])
   simp only[go_sem, ↓reduceIte,Nat.reduceEqDiff,Nat.reduceAdd,Nat.reduceSub,Nat.reduceLeDiff,reduceCtorEq,h2,h3]⟩,l'.set j (k+j),by simp[al],sl @Nat.zero_add⟩)
  all_goals simp only[go_sem, ↓reduceIte,Nat.reduceEqDiff,Nat.reduceAdd,Nat.reduceSub,Nat.reduceLeDiff,reduceCtorEq,a5,a1,a0,hw]
 ·have gW:j=nn:=by omega
  subst gW
  (try((repeat(revert hN;revert N;apply Pn.out));refine wk (tw @a5 (tw @a1 (tw @a0 @hj))) ?_;(repeat(refine Pn.mk ?_;intro N hN))))
  exact fe (.inl rfl) (vs:=[.int .i64 (k+j)]) (sd (tw @a5 (tw @a1 @a0))) ⟨rfl,⟨by(try dsimp only);omega,fun x hx hi=>aF x hx hi⟩⟩
def DH (k:Int) (n:Nat):List ae:=(List.range n).map fun j:Nat=>⟨⟨k+3*(j:Int),k+3*(j:Int)+1⟩,k+3*(j:Int)+2⟩
theorem iX (k:Int) (n:Nat):(DH k n).length=n:=by simp[DH]
theorem KO (k:Int) (n:Nat):DH k (n+1)=DH k n++[⟨⟨k+3*(n:Int),k+3*(n:Int)+1⟩,k+3*(n:Int)+2⟩]:=by simp[DH,List.range_succ]
def nD (k:Int) (l:List ae) (j:Nat):List ae:=DH k j++l.drop j
theorem KP {k:Int} {l:List ae} {j:Nat} (h:j<=l.length):(nD k l j).length=l.length:=by simp[nD,iX];omega
theorem NR {k:Int} {l:List ae} {j:Nat} (h:j<l.length):((nD k l j).map ah)[j]? =some [.int .i64 l[j].bj.eM,.int .i64 l[j].bj.eG,.int .i64 l[j].bQ]:=by
 rw[List.getElem?_map,nD,List.getElem?_append_right (by rw[iX];omega),iX,Nat.sub_self,List.getElem?_drop,Nat.add_zero,List.getElem?_eq_getElem h];rfl
theorem KQ {k:Int} {l:List ae} {j:Nat} (h:j<l.length):((nD k l j).map ah).set j [.int .i64 (k+3*(j:Int)),.int .i64 (k+3*(j:Int)+1),.int .i64 (k+3*(j:Int)+2)]=(nD k l (j+1)).map ah:=by
 have:(nD k l j).set j ⟨⟨k+3*(j:Int),k+3*(j:Int)+1⟩,k+3*(j:Int)+2⟩=nD k l (j+1):=by
  rw[nD,List.set_append_right _ _ (by rw[iX];omega),iX,Nat.sub_self,List.drop_eq_getElem_cons h,List.set_cons_zero,nD,KO,List.append_assoc];rfl
 rw[<-this,List.map_set];rfl
theorem sH (i:Id) (l:List ae) (k:Int) (h0:0<=k) (h1:k+3*l.length<=4611686018427387904) (σ:ay) (hv:i.br<σ.next) (hg:σ.get i=some ⟨true,3,l.map ah⟩):
  Call Tryz.prog 59 [.own i 0 l.length,.int .i64 k] σ (fun r σ'=>r=.int .i64 (k+3*l.length)/\uz σ [i] σ'.get σ'.next/\σ'.get i=some ⟨true,3,(DH k l.length).map ah⟩):=by
 refine e6 eK rfl fun hl=>?_
 clear hl
 have hz:nD k l 0=l:=by simp[nD,DH]
 (try((repeat(revert hN;revert N;apply Pn.out));refine wk @Nat.zero_add ?_;(repeat(refine Pn.mk ?_;intro N hN))))
 refine aX (fun n env st=>∃j:Nat,n=(l.length)-j/\j<=(l.length)/\env 5=.int .i64 (j:Int)/\env 1=.int .i64 (k+3*j)/\st.get i=some ⟨true,3,(nD k l j).map ah⟩/\(uz σ [i] st.get st.next)) (l.length) ⟨0,by omega,by omega,sl (tw @Int.add_zero (tw @Int.natCast_zero (tw @Int.mul_zero (tw @hz @hg)))),sl (tw @Int.add_zero (tw @Int.natCast_zero (tw @Int.mul_zero (tw @hz @hg)))),sl (tw @Int.add_zero (tw @Int.natCast_zero (tw @Int.mul_zero (tw @hz @hg)))),by(try dsimp only);exact⟨by(try dsimp only);omega,fun x _ _=>rfl⟩⟩ ?_
 rintro n_a env_a st_a ⟨j,rfl,ale,a5,a1,ag0,kC⟩ dC
 have a0:=dC 0 (by kernel_rfl)
 simp only[go_sem, ↓reduceIte,Nat.reduceEqDiff,Nat.reduceAdd,Nat.reduceSub,Nat.reduceLeDiff,reduceCtorEq,Int.add_zero,Int.natCast_zero,Int.mul_zero,hz,hg]at a0
 clear dC
 obtain⟨an,aF⟩:=kC
 by_cases hj:(j:Int)<(l.length:Int)
 ·have cD:∀{e:Env} {gg:Rows} {nx:Nat},(e 5=.int .i64 (IntKind.i64.wrap ((j:Int)+1)))->(e 1=.int .i64 (k+3*(j+1)))->(gg i=some ⟨true,3,(nD k l (j+1)).map ah⟩)->(uz σ [i] gg nx)->∃m0,m0<(l.length)-j/\∃j:Nat,m0=(l.length)-j/\j<=(l.length)/\e 5=.int .i64 (j:Int)/\e 1=.int .i64 (k+3*j)/\gg i=some ⟨true,3,(nD k l j).map ah⟩/\(uz σ [i] gg nx):=fun x1 x2 x3 x4=>⟨_,by omega,j+1,rfl,by omega,(by rw[x1,az (by omega)]),x2,x3,x4⟩
  have gW:j<l.length:=by omega
  have eT:=NR (k:=k) gW
  have eC:=KQ (k:=k) gW
  have l7:IntKind.i64.wrap (k+3*(j:Int)+1)=k+3*(j:Int)+1:=bK (by omega)
  have qy:IntKind.i64.wrap (k+3*(j:Int)+1+1)=k+3*(j:Int)+2:=by rw[bK (by omega)];omega
  have Pe:IntKind.i64.wrap (k+3*(j:Int)+2+1)=k+3*((j:Int)+1):=by rw[bK (by omega)];omega
  have hlen:((nD k l j).map ah).length=l.length:=by rw[List.length_map,KP (by omega)]
  have HK:∀c:List AV,(((nD k l j).map ah).set j c)[j]? =some c:=fun c=>by rw[List.getElem?_set_self (by rw[hlen];exact gW)]
  (try((repeat(revert hN;revert N;apply Pn.out));refine wk (tw @a5 (tw @a1 (tw @ag0 (tw @a0 (tw @hj (tw @eT (tw @HK (tw @eC (tw @l7 (tw @qy (tw @Pe (tw @hlen @xC)))))))))))) ?_;(repeat(refine Pn.mk ?_;intro N hN))))
  refine cD ?_ ?_ ?_ (by(try dsimp only);exact⟨by(try dsimp only);omega,fun x hx hi=>by
   have h2:=aF x hx hi
   have h3:(x=i)=False:=eq_false fun e=>hi (by simp[e])
   simp only[go_sem, ↓reduceIte,Nat.reduceEqDiff,Nat.reduceAdd,Nat.reduceSub,Nat.reduceLeDiff,reduceCtorEq,h2,h3]⟩)
  all_goals simp only[go_sem, ↓reduceIte,Nat.reduceEqDiff,Nat.reduceAdd,Nat.reduceSub,Nat.reduceLeDiff,reduceCtorEq,a5,a1,ag0,a0,Pe,eC]
 ·have gW:j=l.length:=by omega
  subst gW
  (try((repeat(revert hN;revert N;apply Pn.out));refine wk (tw @a5 (tw @a1 (tw @ag0 (tw @a0 @hj)))) ?_;(repeat(refine Pn.mk ?_;intro N hN))))
  have kR:nD k l l.length=DH k l.length:=by simp[nD]
  rw[kR]at ag0
  exact fe (.inl rfl) (vs:=[.int .i64 (k+3*l.length)]) (sd (tw @a5 (tw @a1 (tw @ag0 @a0)))) ⟨rfl,⟨by(try dsimp only);omega,fun x hx hi=>aF x hx hi⟩,ag0⟩
theorem CO (i:Id) (l:List fS) (k:Int) (h0:0<=k) (h1:k+2*l.length<=4611686018427387904) (σ:ay) (hv:i.br<σ.next) (hg:σ.get i=some ⟨true,2,l.map ck⟩):
  Call Tryz.prog 138 [.own i 0 l.length,.int .i64 k] σ (fun r σ'=>r=.int .i64 (k+2*l.length)/\uz σ [i] σ'.get σ'.next):=by
 refine e6 eK rfl fun hl=>?_
 clear hl
 obtain⟨nn,hn⟩:∃nn,l.length=nn:=⟨_,rfl⟩
 rw[hn]at h1 ⊢
 (try((repeat(revert hN;revert N;apply Pn.out));refine wk @Nat.zero_add ?_;(repeat(refine Pn.mk ?_;intro N hN))))
 refine aX (fun n env st=>∃j:Nat,n=(nn)-j/\j<=(nn)/\env 5=.int .i64 (j:Int)/\env 1=.int .i64 (k+2*j)/\(uz σ [i] st.get st.next/\∃l':List fS,l'.length=nn/\st.get i=some ⟨true,2,l'.map ck⟩)) (nn) ⟨0,by omega,by omega,sl (tw @Int.add_zero (tw @Int.natCast_zero @Int.mul_zero)),sl (tw @Int.add_zero (tw @Int.natCast_zero @Int.mul_zero)),by(try dsimp only);exact⟨⟨by(try dsimp only);omega,fun x _ _=>rfl⟩,l,hn,hg⟩⟩ ?_
 rintro n_a env_a st_a ⟨j,rfl,ale,a5,a1,kC⟩ dC
 have a0:=dC 0 (by kernel_rfl)
 simp only[go_sem, ↓reduceIte,Nat.reduceEqDiff,Nat.reduceAdd,Nat.reduceSub,Nat.reduceLeDiff,reduceCtorEq,Int.add_zero,Int.natCast_zero,Int.mul_zero]at a0
 clear dC
 obtain⟨⟨an,aF⟩,l',al,ag⟩:=kC
 by_cases hj:(j:Int)<(nn:Int)
 ·have cD:∀{e:Env} {gg:Rows} {nx:Nat},(e 5=.int .i64 (IntKind.i64.wrap ((j:Int)+1)))->(e 1=.int .i64 (k+2*(j+1)))->(uz σ [i] gg nx/\∃l':List fS,l'.length=nn/\gg i=some ⟨true,2,l'.map ck⟩)->∃m0,m0<(nn)-j/\∃j:Nat,m0=(nn)-j/\j<=(nn)/\e 5=.int .i64 (j:Int)/\e 1=.int .i64 (k+2*j)/\(uz σ [i] gg nx/\∃l':List fS,l'.length=nn/\gg i=some ⟨true,2,l'.map ck⟩):=fun x1 x2 x3=>⟨_,by omega,j+1,rfl,by omega,(by rw[x1,az (by omega)]),x2,x3⟩
  have gW:j<l'.length:=by omega
  have eT:(l'.map ck)[j]? =some [.str l'[j].aO,.int .i64 l'[j].eI]:=by simp[gW,ck]
  have hlen:(l'.map ck).length=nn:=by rw[List.length_map,al]
  have HK:∀c:List AV,((l'.map ck).set j c)[j]? =some c:=fun c=>by rw[List.getElem?_set_self (by rw[List.length_map];exact gW)]
  have ht:=wT (k+2*(j:Int)) (by omega) (by omega)
  have l7:IntKind.i64.wrap (k+2*(j:Int)+1)=k+2*(j:Int)+1:=bK (by omega)
  have qy:IntKind.i64.wrap (k+2*(j:Int)+1+1)=k+2*((j:Int)+1):=by rw[bK (by omega)];omega
  generalize pd (k+2*(j:Int))=mt at ht
  have eC:(l'.map ck).set j [.str mt,.int .i64 (k+2*(j:Int)+1)]=(l'.set j ⟨mt,k+2*(j:Int)+1⟩).map ck:=by rw[List.map_set];rfl
  (repeat(first|((repeat(revert hN;revert N;apply Pn.out));refine wk (tw @a5 (tw @a1 (tw @a0 (tw @hj (tw @ag (tw @eT (tw @HK (tw @eC (tw @l7 (tw @qy (tw @hlen @xC))))))))))) ?_;(repeat(refine Pn.mk ?_;intro N hN)))|((try apply Or.inl);refine⟨_,aw.x (ht) (sd (tw @a5 (tw @a1 (tw @a0 (tw @hj (tw @ag (tw @eT (tw @HK (tw @eC (tw @l7 (tw @qy (tw @hlen @xC)))))))))))),?_⟩;refine hN _ _ ?_;clear hN N)))
  refine cD ?_ ?_ (by(try dsimp only);exact⟨⟨by(try dsimp only);omega,fun x hx hi=>by
   have h2:=aF x hx hi
   have h3:(x=i)=False:=eq_false fun e=>hi (by simp[e])
   simp only[go_sem, ↓reduceIte,Nat.reduceEqDiff,Nat.reduceAdd,Nat.reduceSub,Nat.reduceLeDiff,reduceCtorEq,h2,h3]⟩,l'.set j ⟨mt,k+2*(j:Int)+1⟩,by simp[al],sl @Nat.zero_add⟩)
  all_goals simp only[go_sem, ↓reduceIte,Nat.reduceEqDiff,Nat.reduceAdd,Nat.reduceSub,Nat.reduceLeDiff,reduceCtorEq,a5,a1,a0,qy,eC]
 ·have gW:j=nn:=by omega
  subst gW
  (try((repeat(revert hN;revert N;apply Pn.out));refine wk (tw @a5 (tw @a1 (tw @a0 @hj))) ?_;(repeat(refine Pn.mk ?_;intro N hN))))
  exact fe (.inl rfl) (vs:=[.int .i64 (k+2*j)]) (sd (tw @a5 (tw @a1 @a0))) ⟨rfl,⟨by(try dsimp only);omega,fun x hx hi=>aF x hx hi⟩⟩
theorem eV.flat {α:Type} {e:α->List AV} {z:Nat} {g:Rows} {a:AV} {xs:List α} {ids:List Id} (h:eV (lV e) z g a xs ids):∃o,a=.own o 0 xs.length/\g o=some ⟨true,z,xs.map e⟩/\ids=[o]:=by
 obtain⟨o,rows,is,h1,h2,h3,rfl⟩:=h
 have:∀{rows:List (List AV)} {xs:List α} {is:List Id},dE (lV e) g rows xs is->rows=xs.map e/\is=[]:=fun h=>by
  induction h with
  |nil=>exact⟨rfl,rfl⟩
  |cons h1 _ ih=>obtain⟨rfl,rfl⟩:=h1;obtain⟨rfl,rfl⟩:=ih;exact⟨rfl,rfl⟩
 obtain⟨rfl,rfl⟩:=this h3
 exact⟨o,h1,h2,rfl⟩
def gM (t:fc):Nat:=1+t.bU.length
theorem CP (a:AV) (l:List fc) (ids:List Id) (k:Int) (h0:0<=k) (wG:l.length<=1048576) (h1:k+(l.map gM).sum<=4611686018427387904) (σ:ay) (hv:∀i∈ids,i.br<σ.next) (lg:ids.Nodup) (hg:eV oK 2 σ.get a l ids):
  Call Tryz.prog 139 [a,.int .i64 k] σ (fun r σ'=>r=.int .i64 (k+(l.map gM).sum)/\uz σ ids σ'.get σ'.next):=by
 obtain⟨o,rows,is,rfl,ho,hR,rfl⟩:=hg
 refine e6 eK rfl fun hl=>?_
 clear hl
 have pO:=hv o (by simp)
 have DD:=j5 gM l
 (try((repeat(revert hN;revert N;apply Pn.out));refine wk @Nat.zero_add ?_;(repeat(refine Pn.mk ?_;intro N hN))))
 refine aX (fun n env st=>∃j:Nat,n=(l.length)-j/\j<=(l.length)/\env 5=.int .i64 (j:Int)/\env 1=.int .i64 (k+e9 gM l j)/\(uz σ (o::is) st.get st.next/\∃pre rest ir,st.get o=some ⟨true,2,pre++rest⟩/\pre.length=j/\dE oK st.get rest (l.drop j) ir/\(o::ir).Nodup/\∀i∈ir,i∈is)) (l.length) ⟨0,by omega,by omega,sl (tw @Int.add_zero (tw @Int.natCast_zero @DD)),sl (tw @Int.add_zero (tw @Int.natCast_zero @DD)),by(try dsimp only);exact⟨⟨by(try dsimp only);omega,fun x _ _=>rfl⟩,[],rows,is,ho,rfl,hR,lg,fun _ h=>h⟩⟩ ?_
 rintro n_a env_a st_a ⟨j,rfl,ale,a5,a1,kC⟩ dC
 have a0:=dC 0 (by kernel_rfl)
 simp only[go_sem, ↓reduceIte,Nat.reduceEqDiff,Nat.reduceAdd,Nat.reduceSub,Nat.reduceLeDiff,reduceCtorEq,Int.add_zero,Int.natCast_zero,DD]at a0
 clear dC
 obtain⟨⟨an,aF⟩,pre,rest,ir,ag,apl,aR,aN,aS⟩:=kC
 by_cases hj:(j:Int)<(l.length:Int)
 ·have cD:∀{e:Env} {gg:Rows} {nx:Nat},(e 5=.int .i64 (IntKind.i64.wrap ((j:Int)+1)))->(e 1=.int .i64 (k+e9 gM l (j+1)))->(uz σ (o::is) gg nx/\∃pre rest ir,gg o=some ⟨true,2,pre++rest⟩/\pre.length=(j+1)/\dE oK gg rest (l.drop (j+1)) ir/\(o::ir).Nodup/\∀i∈ir,i∈is)->∃m0,m0<(l.length)-j/\∃j:Nat,m0=(l.length)-j/\j<=(l.length)/\e 5=.int .i64 (j:Int)/\e 1=.int .i64 (k+e9 gM l j)/\(uz σ (o::is) gg nx/\∃pre rest ir,gg o=some ⟨true,2,pre++rest⟩/\pre.length=j/\dE oK gg rest (l.drop j) ir/\(o::ir).Nodup/\∀i∈ir,i∈is):=fun x1 x2 x3=>⟨_,by omega,j+1,rfl,by omega,(by rw[x1,az (by omega)]),x2,x3⟩
  have gW:j<l.length:=by omega
  have HP:=nN gM gW
  have hle:=kb gM l (j+1)
  obtain⟨t,htj⟩:∃t,l[j]=t:=⟨_,rfl⟩
  rw[List.drop_eq_getElem_cons gW,htj]at aR
  rw[htj]at HP
  cases aR with
  | @cons cs _ ic rs _ i2 hT MX=>
  obtain⟨i,rfl,hi,rfl⟩:=hT
  rw[List.singleton_append]at aN aS
  obtain⟨n1,n2⟩:=List.nodup_cons.1 aN
  obtain⟨n3,n4⟩:=List.nodup_cons.1 n2
  have QN:(o=i)=False:=eq_false fun e=>n1 (by simp[e])
  have Ma:(i=o)=False:=eq_false fun e=>n1 (by simp[e])
  have hiv:i.br<σ.next:=hv i (by simp[aS i (by simp)])
  have TN:gM t=1+t.bU.length:=rfl
  have ht:=wT (k+(e9 gM l j:Nat)) (by omega) (by omega)
  have l7:IntKind.i64.wrap (k+(e9 gM l j:Nat)+1)=k+(e9 gM l j:Nat)+1:=bK (by omega)
  generalize pd (k+(e9 gM l j:Nat))=mt at ht
  have eT:(pre++[.str t.aO,.own i 0 t.bU.length]::rs)[j]? =some [.str t.aO,.own i 0 t.bU.length]:=by subst apl;simp
  have eC:(pre++[.str t.aO,.own i 0 t.bU.length]::rs).set j [.str mt,.own i 0 t.bU.length]=pre++[.str mt,.own i 0 t.bU.length]::rs:=by subst apl;simp
  have O3:(pre++[.str mt,.own i 0 t.bU.length]::rs)[j]? =some [.str mt,.own i 0 t.bU.length]:=by subst apl;simp
  (repeat(first|((repeat(revert hN;revert N;apply Pn.out));refine wk (tw @a5 (tw @a1 (tw @a0 (tw @hj (tw @ag (tw @eT (tw @eC (tw @O3 (tw @l7 (tw @QN (tw @Ma @hi))))))))))) ?_;(repeat(refine Pn.mk ?_;intro N hN)))|((try apply Or.inl);refine⟨_,aw.x (ht) (sd (tw @a5 (tw @a1 (tw @a0 (tw @hj (tw @ag (tw @eT (tw @eC (tw @O3 (tw @l7 (tw @QN (tw @Ma @hi)))))))))))),?_⟩;refine hN _ _ ?_;clear hN N)))
  refine .inr (aJ _ _ _ _ _ (fun r σ1 hq=>?_) (Fa i t.bU (k+(e9 gM l j:Nat)+1) (by omega) (by omega) _ (by(try dsimp only);omega) (sd (tw @QN (tw @Ma @hi)))))
  obtain⟨g1,x1⟩:=σ1
  obtain⟨rfl,xT,qm⟩:=hq
  (try dsimp only at xT qm)
  refine hN _ _ ?_
  clear hN N
  have Sg:k+(e9 gM l j:Nat)+1+t.bU.length=k+(e9 gM l (j+1):Nat):=by omega
  (try((repeat(revert hN;revert N;apply Pn.out));refine wk (tw @a5 (tw @a1 (tw @a0 @Sg))) ?_;(repeat(refine Pn.mk ?_;intro N hN))))
  have gk:∀x:Id,x.br<σ.next->x≠o->x≠i->g1 x=st_a.get x:=fun x hx h3 h4=>by
   have h2:=qm x (by(try dsimp only);omega) (by simp[h4])
   have h5:=eq_false h3
   simp only[go_sem, ↓reduceIte,Nat.reduceEqDiff,Nat.reduceAdd,Nat.reduceSub,Nat.reduceLeDiff,reduceCtorEq,h5]at h2
   exact h2
  have go:=qm o (by(try dsimp only);omega) (by simp only[List.mem_singleton];exact fun e=>n1 (by simp[e]))
  simp only[go_sem, ↓reduceIte,Nat.reduceEqDiff,Nat.reduceAdd,Nat.reduceSub,Nat.reduceLeDiff,reduceCtorEq]at go
  refine cD ?_ ?_ (by(try dsimp only);exact⟨⟨by(try dsimp only);omega,fun x hx hi=>by
   have h3:x≠o:=fun e=>hi (by simp[e])
   have h4:x≠i:=fun e=>hi (by simp[e,aS i (by simp)])
   rw[gk x hx h3 h4]
   exact aF x hx hi⟩,pre++[[.str mt,.own i 0 t.bU.length]],rs,i2,by rw[go];simp,by simp[apl],MX.frame rM (fun x hx=>gk x (hv x (by simp[aS x (by simp[hx])])) (fun e=>n1 (by simp[<-e,hx])) (fun e=>n3 (by rw[<-e];exact hx))),List.nodup_cons.2 ⟨fun h=>n1 (by simp[h]),n4⟩,fun x hx=>aS x (by simp[hx])⟩)
  all_goals simp only[go_sem, ↓reduceIte,Nat.reduceEqDiff,Nat.reduceAdd,Nat.reduceSub,Nat.reduceLeDiff,reduceCtorEq,a5,a1,a0,Sg]
 ·have gW:j=l.length:=by omega
  subst gW
  have eh:=sQ gM l
  rw[eh]at a1
  (try((repeat(revert hN;revert N;apply Pn.out));refine wk (tw @a5 (tw @a1 (tw @a0 @hj))) ?_;(repeat(refine Pn.mk ?_;intro N hN))))
  exact fe (.inl rfl) (vs:=[.int .i64 (k+(l.map gM).sum)]) (sd (tw @a5 (tw @a1 @a0))) ⟨rfl,⟨by(try dsimp only);omega,fun x hx hi=>aF x hx hi⟩⟩
theorem zf (v:AV) (p:eB) (ids:List Id) (k:Int) (h0:0<=k) (h1:k+3*p.aj.length<=4611686018427387904) (σ:ay) (hv:∀i∈ids,i.br<σ.next) (hg:zD σ.get v p ids):
  Call Tryz.prog 25 [v,.int .i64 k] σ (fun r σ'=>r=.int .i64 (k+3*p.aj.length)/\uz σ ids σ'.get σ'.next):=by
 obtain⟨c,rfl,hc⟩:=hg
 obtain⟨o,rfl,ho,rfl⟩:=hc.flat
 refine e6 eK rfl fun hl=>?_
 clear hl
 have pO:=dr (hv o (by simp))
 have Ng:=hv o (by simp)
 (try((repeat(revert hN;revert N;apply Pn.out));refine wk @Nat.zero_add ?_;(repeat(refine Pn.mk ?_;intro N hN))))
 refine .inr (aJ _ _ _ _ _ (fun r σ1 hq=>?_) (sH o p.aj k h0 h1 _ (by(try dsimp only);omega) (sd (tw @pO @ho))))
 obtain⟨g1,x1⟩:=σ1
 obtain⟨rfl,⟨xT,qm⟩,_⟩:=hq
 (try dsimp only at xT qm)
 refine hN _ _ ?_
 clear hN N
 (try((repeat(revert hN;revert N;apply Pn.out));refine wk @Nat.zero_add ?_;(repeat(refine Pn.mk ?_;intro N hN))))
 exact fe (.inl rfl) (vs:=[.int .i64 (k+3*p.aj.length)]) (sd @Nat.zero_add) ⟨rfl,⟨by(try dsimp only);omega,fun x hx hi=>by
  have h2:=qm x (by(try dsimp only);omega) hi
  have h3:=dr hx
  simp only[go_sem, ↓reduceIte,Nat.reduceEqDiff,Nat.reduceAdd,Nat.reduceSub,Nat.reduceLeDiff,reduceCtorEq,h3]at h2
  exact h2⟩⟩
def CL (s:aM):Nat:=2*s.aC.aB.length+(s.aC.aj.map gM).sum+3*s.cC.aj.length
theorem Ih (a b:AV) (p:ax) (i1 i2:List Id) (k:Int) (h0:0<=k) (wG:p.aj.length<=1048576) (h1:k+2*p.aB.length+(p.aj.map gM).sum<=4611686018427387904) (σ:ay) (hv:∀i∈i1++i2,i.br<σ.next) (lg:(i1++i2).Nodup)
  (hA:eV (lV ck) 2 σ.get a p.aB i1) (hB:eV oK 2 σ.get b p.aj i2):
  Call Tryz.prog 67 [.agg [a,b],.int .i64 k] σ (fun r σ'=>r=.int .i64 (k+2*p.aB.length+(p.aj.map gM).sum)/\uz σ (i1++i2) σ'.get σ'.next):=by
 obtain⟨_,n2,n3⟩:=List.nodup_append.1 lg
 obtain⟨o,rfl,ho,rfl⟩:=hA.flat
 obtain⟨ob,rfl⟩:=hB.ll
 refine e6 eK rfl fun hl=>?_
 clear hl
 have Ng:=hv o (by simp)
 have pO:=dr Ng
 (try((repeat(revert hN;revert N;apply Pn.out));refine wk @Nat.zero_add ?_;(repeat(refine Pn.mk ?_;intro N hN))))
 refine .inr (aJ _ _ _ _ _ (fun r σ1 hq=>?_) (CO o p.aB k h0 (by omega) _ (by(try dsimp only);omega) (sd (tw @pO @ho))))
 obtain⟨g1,x1⟩:=σ1
 obtain⟨rfl,xT,qm⟩:=hq
 (try dsimp only at xT qm)
 refine hN _ _ ?_
 clear hN N
 have k1:=qm ⟨67000000,σ.next⟩ (by(try dsimp only);omega) (by simp only[List.mem_singleton];intro e;rw[<-e]at Ng;(try dsimp only at Ng);omega)
 simp only[go_sem, ↓reduceIte,Nat.reduceEqDiff,Nat.reduceAdd,Nat.reduceSub,Nat.reduceLeDiff,reduceCtorEq]at k1
 (try((repeat(revert hN;revert N;apply Pn.out));refine wk @k1 ?_;(repeat(refine Pn.mk ?_;intro N hN))))
 have hf:∀x:Id,x.br<σ.next->x≠o->g1 x=σ.get x:=fun x hx ho=>by
  have h2:=qm x (by(try dsimp only);omega) (by simp[ho])
  have h3:=dr hx
  simp only[go_sem, ↓reduceIte,Nat.reduceEqDiff,Nat.reduceAdd,Nat.reduceSub,Nat.reduceLeDiff,reduceCtorEq,h3]at h2
  exact h2
 refine .inr (aJ _ _ _ _ _ (fun r σ2 hq=>?_) (CP _ p.aj i2 (k+2*p.aB.length) (by omega) wG h1 _ (fun i hi=>by have:=hv i (by simp[hi]);(try dsimp only);omega) n2 (hB.frame rM fun i hi=>hf i (hv i (by simp[hi])) fun e=>n3 o (by simp) i hi e.symm)))
 obtain⟨g2,x2⟩:=σ2
 obtain⟨rfl,Nk,Bk⟩:=hq
 (try dsimp only at Nk Bk)
 refine hN _ _ ?_
 clear hN N
 (try((repeat(revert hN;revert N;apply Pn.out));refine wk @Nat.zero_add ?_;(repeat(refine Pn.mk ?_;intro N hN))))
 exact fe (.inl rfl) (vs:=[.int .i64 (k+2*p.aB.length+(p.aj.map gM).sum)]) (sd @Nat.zero_add) ⟨rfl,⟨by(try dsimp only);omega,fun x hx hi=>(Bk x (by(try dsimp only);omega) fun h=>hi (by simp[h])).trans (hf x hx fun e=>hi (by simp[e]))⟩⟩
theorem Ii (v:AV) (p:aM) (ids:List Id) (k:Int) (h0:0<=k) (wG:p.aC.aj.length<=1048576) (h1:k+CL p<=4611686018427387904) (σ:ay) (hv:∀i∈ids,i.br<σ.next) (lg:ids.Nodup) (hg:By σ.get v p ids):
  Call Tryz.prog 23 [v,.int .i64 k] σ (fun r σ'=>r=.int .i64 (k+CL p)/\uz σ ids σ'.get σ'.next):=by
 obtain⟨a,b,c,i1,i2,i3,rfl,hA,hB,hC,rfl⟩:=hg.ex
 rw[<-List.append_assoc]at lg
 obtain⟨n1,_,n3⟩:=List.nodup_append.1 lg
 obtain⟨oa,rfl⟩:=hA.ll
 obtain⟨ob,rfl⟩:=hB.ll
 obtain⟨oc,rfl⟩:=hC.ll
 have hm:(CL p:Int)=2*p.aC.aB.length+(p.aC.aj.map gM).sum+3*p.cC.aj.length:=by simp[CL]
 refine e6 eK rfl fun hl=>?_
 clear hl
 have Wh:∀x∈i1++(i2++i3),bL σ.get ⟨23000000,σ.next⟩ ⟨true,4,[[.own oa 0 p.aC.aB.length,.own ob 0 p.aC.aj.length,.own oc 0 p.cC.aj.length,.int .i64 p.aA]]⟩ x=σ.get x:=fun x hx=>by
  have:=dr (hv x hx)
  simp only[go_sem, ↓reduceIte,Nat.reduceEqDiff,Nat.reduceAdd,Nat.reduceSub,Nat.reduceLeDiff,reduceCtorEq,this]
 (try((repeat(revert hN;revert N;apply Pn.out));refine wk @Nat.zero_add ?_;(repeat(refine Pn.mk ?_;intro N hN))))
 refine .inr (aJ _ _ _ _ _ (fun r σ1 hq=>?_) (Ih _ _ p.aC i1 i2 k h0 wG (by omega) _ (fun i hi=>by have:=hv i (by rcases List.mem_append.1 hi with h|h<;>simp[h]);(try dsimp only);omega) n1 (hA.frame B4 fun i hi=>Wh i (by simp[hi])) (hB.frame rM fun i hi=>Wh i (by simp[hi]))))
 obtain⟨g1,x1⟩:=σ1
 obtain⟨rfl,xT,qm⟩:=hq
 (try dsimp only at xT qm)
 refine hN _ _ ?_
 clear hN N
 have k1:=qm ⟨23000000,σ.next⟩ (by(try dsimp only);omega) (fun h=>by
  have:=hv ⟨23000000,σ.next⟩ (by rcases List.mem_append.1 h with h|h<;>simp[h])
  (try dsimp only at this);omega)
 simp only[go_sem, ↓reduceIte,Nat.reduceEqDiff,Nat.reduceAdd,Nat.reduceSub,Nat.reduceLeDiff,reduceCtorEq]at k1
 (try((repeat(revert hN;revert N;apply Pn.out));refine wk @k1 ?_;(repeat(refine Pn.mk ?_;intro N hN))))
 refine .inr (aJ _ _ _ _ _ (fun r σ2 hq=>?_) (zf _ p.cC i3 (k+2*p.aC.aB.length+(p.aC.aj.map gM).sum) (by omega) (by omega) _ (fun i hi=>by have:=hv i (by simp[hi]);(try dsimp only);omega) ⟨_,rfl,hC.frame yP fun i hi=>?_⟩))
 rotate_left
 ·exact(qm i (by have:=hv i (by simp[hi]);(try dsimp only);omega) fun h=>n3 i h i hi rfl).trans (Wh i (by simp[hi]))
 obtain⟨g2,x2⟩:=σ2
 obtain⟨rfl,Nk,Bk⟩:=hq
 (try dsimp only at Nk Bk)
 refine hN _ _ ?_
 clear hN N
 (try((repeat(revert hN;revert N;apply Pn.out));refine wk @Nat.zero_add ?_;(repeat(refine Pn.mk ?_;intro N hN))))
 exact fe (.inl rfl) (vs:=[.int .i64 (k+2*p.aC.aB.length+(p.aC.aj.map gM).sum+3*p.cC.aj.length)]) (sd @Nat.zero_add) ⟨by rw[hm];exact congrArg (AV.int .i64) (by omega),⟨by(try dsimp only);omega,fun x hx hi=>by
  have h2:=Bk x (by(try dsimp only);omega) fun h=>hi (by simp[h])
  have h3:=qm x (by(try dsimp only);omega) fun h=>hi (by rcases List.mem_append.1 h with h|h<;>simp[h])
  have h4:=dr hx
  simp only[go_sem, ↓reduceIte,Nat.reduceEqDiff,Nat.reduceAdd,Nat.reduceSub,Nat.reduceLeDiff,reduceCtorEq,h4]at h3
  exact h2.trans h3⟩⟩
end Go.Proofs.YtgoljkjaameagaaGreat.V

namespace Go.Proofs.YtgoljkjaameagaaGreat.V
open Go.RowKit
def AV.clean:AV->Bool
 | .int .. | .bool _| .str _| .cj| .il| .jC| .jJ| .own .. | .ptr .. | .map .. | .tj _=>true
 | .sl l=>l.isEmpty
 |_=>false
def AV.tk:AV->Bool
 | .agg cs=>cs.all AV.clean
 | .iA cs=>cs.all fun a=>match a with
  | .agg cs=>cs.all AV.clean
  |a=>a.clean
 |a=>a.clean
def zz (ids:List Id) (g g':Rows):Rows:=fun id=>if id∈ids then g' id else g id
theorem pB {ids:List Id} {g g':Rows} {id:Id} (h:id∈ids):zz ids g g' id=g' id:=if_pos h
theorem kY {ids:List Id} {g g':Rows} {id:Id} (h:id∉ids):zz ids g g' id=g id:=if_neg h
section
variable {P:Program} {w w':World} {D D' D1 D2:Nat->Prop} {ι ι1 ι2:Names}
theorem j3 {a:AV} {v:Value} (hp:a.clean=true) (h:dm P w D1 ι1 a v):dm P w D2 ι1 a v:=by
 cases h with
 |fa a v h=>
  cases h with
  |int=>exact .fa _ _ (.int _ _)
  |bool=>exact .fa _ _ (.bool _)
  |str=>exact .fa _ _ (.str _)
  |cj=>exact .fa _ _ .cj
  |il=>exact .fa _ _ .il
  |jC=>exact .fa _ _ .jC
  |jJ=>exact .fa _ _ .jJ
  |DI a c h=>exact .fa _ _ (.DI a c h)
  |sl rows b o n c sz vs h1 h2 h3=>
   have:rows=[]:=by simpa[AV.clean]using hp
   subst this
   simp only[List.length_nil]at h1
   subst h1
   exact .fa _ _ (.DI _ _ h3)
  |dp=>simp[AV.clean]at hp
  |agg=>simp[AV.clean]at hp
  |fn=>simp[AV.clean]at hp
 |own id off len o cap B h1 h2 h3 h4 h5 h6=>exact .own id off len o cap B h1 h2 h3 h4 h5 h6
 |map id m B h1 h2=>exact .map id m B h1 h2
 |tj id c B h1 h2=>exact .tj id c B h1 h2
 |ptr id i off B h1 h2=>exact .ptr id i off B h1 h2
 |agg=>simp[AV.clean]at hp
 |iA=>simp[AV.clean]at hp
 |fn=>simp[AV.clean]at hp
 |vh=>simp[AV.clean]at hp
theorem mm {cs:List AV} {v:Value} (hc:cs.all AV.clean=true) (h:dm P w D1 ι1 (.agg cs) v):dm P w D2 ι1 (.agg cs) v:=by
 obtain⟨vs,f,rfl,h1,h2,h3,h4⟩:=iE h
 rw[List.all_eq_true]at hc
 exact .agg cs vs f h1 h2 h3 fun j a ha=>j3 (hc a (List.mem_of_getElem? ha)) (h4 j a ha)
theorem Fm {a:AV} {v:Value} (hp:a.tk=true) (h:dm P w D1 ι1 a v):dm P w D2 ι1 a v:=by
 cases a with
 |agg cs=>exact mm hp h
 |iA cs=>
  obtain⟨vs,f,rfl,h1,h3,h4⟩:=vn h
  simp only[AV.tk,List.all_eq_true]at hp
  refine .iA cs vs f h1 h3 fun j a ha=>?_
  have:=hp a (List.mem_of_getElem? ha)
  split at this
  ·exact mm this (h4 j _ ha)
  ·exact j3 this (h4 j _ ha)
 |_=>exact j3 hp h
theorem Fj {ag:Bool} {n:Nat} {cs:List AV} {x:AV} {v:Value} (hc:∀a∈cs,a.clean=true) (hp:part ag n cs=some x) (hr:dm P w D1 ι1 x v):dm P w D2 ι1 x v:=by
 unfold part at hp
 split at hp
 ·split at hp
  ·simp only[Option.some.injEq]at hp;subst hp
   exact mm (List.all_eq_true.2 fun a ha=>hc a (List.mem_of_mem_take ha)) hr
  ·cases hp
 ·exact j3 (hc x (List.mem_of_mem_head? hp)) hr
theorem im.clean {B:s4} {r:Row} (R:im P w D1 ι1 B r) (h:∀cs∈r.rows,∀a∈cs,a.clean=true):im P w D2 ι1 B r:=
 ⟨R.sz,R.flat,fun hk=>⟨R.sz,(R.row hk).vT,(R.row hk).fits,(R.row hk).len,R.flat,fun i j cs a hi hj=>by
  obtain⟨v,q1,q2⟩:=(R.row hk).at_ i j cs a hi hj
  exact⟨v,q1,j3 (h cs (List.mem_of_getElem? hi) a (List.mem_of_getElem? hj)) q2⟩⟩,fun m hm=>by
  obtain⟨h1,es,c,h2,h3,h5,h4⟩:=R.map m hm
  refine⟨h1,es,c,h2,h3,h5,fun i cs hi=>?_⟩
  obtain⟨e,kv,vv,q1,q2,q3,q4,q5⟩:=h4 i cs hi
  have hc:=h cs (List.mem_of_getElem? hi)
  exact⟨e,kv,vv,q1,q2,q3,Fj hc q2 q4,j3 (hc vv (List.mem_of_getElem? q3)) q5⟩,fun c hc=>by
  obtain⟨h1,buf,s,q,h2,h3,h4⟩:=R.chan c hc
  refine⟨h1,buf,s,q,h2,h3,fun i cs hi=>?_⟩
  obtain⟨a,u,rfl,q2,q3⟩:=h4 i cs hi
  exact⟨a,u,rfl,q2,j3 (h [a] (List.mem_of_getElem? hi) a (by simp)) q3⟩⟩
def Handed (ids:List Id) (g:Rows):Prop:=∀id∈ids,∃r,g id=some r/\r.w=true/\∀cs∈r.rows,∀a∈cs,a.clean=true
theorem IW {f:Nat} {args args':List AV} {g:Rows} {n:Nat} {K:AV->ay->Prop} (hv:de (dK g) 6 args=some args')
  (h:Sound P f args' ⟨fun _=>none,n⟩ fun r σ'=>∃ids,r.tk=true/\Handed ids σ'.get/\K r ⟨zz ids g σ'.get,σ'.next⟩):Sound P f args ⟨g,n⟩ K:=by
 intro hs D ι w vs S U A
 let E:Nat->Prop:=fun b=>D b∨∃id r B,g id=some r/\ι id=some B/\b=B.b
 have lt:∀id r B,g id=some r->ι id=some B->B.b<w.heap.size:=fun id r B h1 h2=>by
  obtain⟨B',eb,R,_⟩:=S.row id r h1
  rw[h2]at eb;injection eb with eb;subst eb
  exact R.lt
 have S0:gw P w.heap.size E ι (fun _=>none) w:=⟨Nat.le_refl _,fun b hb=>by
  rcases hb with hb|⟨id,r,B,h1,h2,rfl⟩
  ·exact S.dead b hb
  ·exact lt id r B h1 h2,fun id r h=>(by cases h),fun id lk r r' B B' h=>(by cases h)⟩
 obtain⟨l1,l2⟩:=gL hv
 have A':fb P w E ι args' vs:=⟨by rw[A.1,l1],fun j a hj=>by
  obtain⟨a0,lL,hz⟩:=l2 j a hj
  obtain⟨u,hu,hr⟩:=A.2 j a0 lL
  refine⟨u,hu,(sg (D2:=E) (ι2:=ι) (fun b h=>.inl h) (fun id row hg hw=>?_) 6 a0 u a hr hz).1⟩
  unfold dK at hg
  simp only[Option.map_eq_some_iff]at hg
  obtain⟨r,oE,rfl⟩:=hg
  obtain⟨B,hB,R,_,_⟩:=S.row id r oE
  exact⟨B,hB,R.flag true,.inr ⟨id,r,B,oE,hB,rfl⟩⟩⟩
 refine(h w.heap.size E ι w vs S0 U A').mono ?_
 rintro e w' ⟨r0,g',n',D2,ι1,u,rfl,⟨ids,mi,hid,hK⟩,T,S1,U1,hn,hR⟩
 have hb:∀b,b<w.heap.size->w'.heap[b]? =w.heap[b]? :=T.below.block
 have hz:=T.below.size
 have frame:∀{a v},dm P w D ι a v->dm P w' D ι1 a v:=fun h=>h.frame (fun b hd=>hb b (S.dead b hd)) (fun _ h=>h) T.names
 refine⟨r0,_,n',D,ι1,u,rfl,hK,⟨T.below.mono S.lo,fun b hd=>hb b (S.dead b hd),fun _ h=>h,T.names,fun _ h=>.inl h⟩,⟨Nat.le_trans S.lo hz,fun b hd=>Nat.lt_of_lt_of_le (S.dead b hd) hz,fun id r hr=>?_,fun Uh id2 r1 r2 B1 B2 h1 h2 hw Bf qh OZ=>?_⟩,U1,hn,Fm mi hR⟩
 ·by_cases hi:id∈ids
  ·rw[pB hi]at hr
   obtain⟨r',oE,hw,hcr⟩:=hid id hi
   rw[hr]at oE;injection oE with oE;subst oE
   obtain⟨B,hB,R,k1,k2⟩:=S1.row id r hr
   have jQ:=k1 hw
   exact⟨B,hB,R.clean hcr,fun _=>Nat.le_trans S.lo jQ,fun _ hd=>Nat.lt_irrefl _ (Nat.lt_of_lt_of_le (S.dead _ hd) jQ)⟩
  ·rw[kY hi]at hr
   obtain⟨B,hB,R,k1,k2⟩:=S.row id r hr
   have hBl:=lt id r B hr hB
   exact⟨B,T.names _ _ hB,R.frame (hb _ hBl) fun a v h=>frame h,k1,k2⟩
 ·have new:∀{id r B},id∈ids->zz ids g g' id=some r->ι1 id=some B->w.heap.size<=B.b/\g' id=some r/\r.w=true:=fun {id r B} hi hr hB=>by
   rw[pB hi]at hr
   obtain⟨r',oE,hw,_⟩:=hid id hi
   replace oE:g' id=some r':=oE
   rw[hr]at oE;injection oE with oE;subst oE
   obtain⟨B',eb,_,k1,_⟩:=S1.row id r hr
   rw[hB]at eb;injection eb with eb;subst eb
   exact⟨k1 hw,hr,hw⟩
  have C2:∀{id r B},id∉ids->zz ids g g' id=some r->ι1 id=some B->B.b<w.heap.size/\g id=some r/\ι id=some B:=fun {id r B} hi hr hB=>by
   rw[kY hi]at hr
   obtain⟨B',eb,_⟩:=S.row id r hr
   have:=T.names _ _ eb
   rw[hB]at this;injection this with this;subst this
   exact⟨lt id r _ hr eb,hr,eb⟩
  by_cases i1:Uh∈ids
  ·obtain⟨a1,a2,a3⟩:=new i1 h1 Bf
   by_cases i2:id2∈ids
   ·obtain⟨b1,b2,b3⟩:=new i2 h2 qh
    exact S1.inj Uh id2 r1 r2 B1 B2 a2 b2 hw Bf qh OZ
   ·obtain⟨b1,_⟩:=C2 i2 h2 qh
    omega
  ·obtain⟨a1,a2,a3⟩:=C2 i1 h1 Bf
   by_cases i2:id2∈ids
   ·obtain⟨b1,_⟩:=new i2 h2 qh
    omega
   ·obtain⟨b1,b2,b3⟩:=C2 i2 h2 qh
    exact S.inj Uh id2 r1 r2 B1 B2 a2 b2 hw a3 b3 OZ
theorem vH (hm:P.follows .mixedOrders=true) {f:Nat} {args args':List AV} {σ:ay} {K:AV->ay->Prop} (hv:de (dK σ.get) 6 args=some args')
  (h:Call P f args' ⟨fun _=>none,σ.next⟩ fun r σ'=>∃ids,r.tk=true/\Handed ids σ'.get/\K r ⟨zz ids σ.get σ'.get,σ'.next⟩):Call P f args σ K:=
 gh (IW hv (iw hm h))
end
inductive qH:List AV->List AV->Prop
 |nil:qH [] []
 |same (a) {l l'}:qH l l'->qH (a::l) (a::l')
 |ptr (cs rest) {l l'}:qH l l'->qH (.dp (cs++rest)::l) (.dp cs::l')
 |cj {l l'}:qH l l'->qH (.cj::l) (.sl []::l')
theorem Od {P:Program} {w:World} {D:Nat->Prop} {ι:Names} {cs rest:List AV} {v:Value} (h:dm P w D ι (.dp (cs++rest)) v):dm P w D ι (.dp cs) v:=by
 obtain⟨b,o,vs,rfl,h1,h2,h3,h4⟩:=lD h
 exact .fa _ _ (.dp cs b o vs h1 (fun a ha=>h2 a (List.mem_append_left _ ha)) (fun j hj=>h3 j (by rw[List.length_append];omega)) fun j a ha=>h4 j a (by
  have:=(List.getElem?_eq_some_iff.1 ha).1
  rw[List.getElem?_append_left this];exact ha))
theorem Of {P:Program} {w:World} {D:Nat->Prop} {ι:Names} {v:Value} (h:dm P w D ι .cj v):dm P w D ι (.sl []) v:=by
 cases h with
 |fa _ _ h=>
  cases h with
  |cj=>exact .fa _ _ (.DI none 0 (Nat.zero_le _))
theorem qH.len {l l':List AV} (h:qH l l'):l'.length=l.length:=by induction h<;>simp_all
theorem qH.get {P:Program} {w:World} {D:Nat->Prop} {ι:Names} {l l':List AV} (h:qH l l'):∀{j:Nat} {a':AV},l'[j]? =some a'->∃a,l[j]? =some a/\∀v,dm P w D ι a v->dm P w D ι a' v:=by
 induction h with
 |nil=>intro j a' hj;simp at hj
 |same a _ ih=>
  intro j a' hj
  cases j with
  |zero=>simp at hj;subst hj;exact⟨a,rfl,fun _ h=>h⟩
  |succ j=>exact ih (by simpa using hj)
 |ptr cs rest _ ih=>
  intro j a' hj
  cases j with
  |zero=>simp at hj;subst hj;exact⟨_,rfl,fun _ h=>Od h⟩
  |succ j=>exact ih (by simpa using hj)
 |cj _ ih=>
  intro j a' hj
  cases j with
  |zero=>simp at hj;subst hj;exact⟨_,rfl,fun _ h=>Of h⟩
  |succ j=>exact ih (by simpa using hj)
theorem Call.cut {P:Program} (hm:P.follows .mixedOrders=true) {f:Nat} {args args':List AV} {σ:ay} {K:AV->ay->Prop} (hc:qH args args') (h:Call P f args' σ K):Call P f args σ K:=
 gh fun hs D ι w vs S U A=>iw hm h hs D ι w vs S U ⟨by rw[A.1,hc.len],fun j a' hj=>by
  obtain⟨a,ha,hr⟩:=hc.get (P:=P) (w:=w) (D:=D) (ι:=ι) hj
  obtain⟨u,hu,hv⟩:=A.2 j a ha
  exact⟨u,hu,hr u hv⟩⟩
theorem aw.cut {P:Program} (hm:P.follows .mixedOrders=true) {f:Nat} {args args':List AV} {r:AV} (hc:qH args args') (h:aw P f args' r):aw P f args r:=fun n=>(h n).cut hm hc
end Go.Proofs.YtgoljkjaameagaaGreat.V

namespace Go.Proofs.YtgoljkjaameagaaGreat.V
open Go.RowKit
attribute [local irreducible] ek wpOps fK Call
attribute [local go_sem] aI fw eH fE fD dd upd cm K.av cG AV.cells AV.cell rowOf rowsOf part ld rowAt bL bY dx dO gz bE cW dY fC eY dj dS cU cR dG dH bH aZ cJ bG cL cK dQ dU dR cI bJ cV dP bF aL cP cz gy bq cF bI aW dq bm dy AV.undef bw bz dJ dM dD dI cE dX ea cq dW dV cN cQ List.getD_cons_zero List.getD_cons_succ List.getD_nil List.all_cons List.all_nil Bool.and_true Bool.true_and Bool.and_self Bool.not_true Bool.not_false Option.map_some Option.map_none Option.bind_some Option.bind_none List.length_cons List.length_nil List.take_succ_cons List.take_zero List.take_nil List.drop_succ_cons List.drop_zero List.drop_nil List.head?_cons List.map_cons List.map_nil List.getElem?_cons_zero List.getElem?_cons_succ List.cons_append List.nil_append List.append_nil List.length_map List.set_cons_zero List.set_cons_succ eq_self Int.toNat_natCast Int.natCast_nonneg and_self true_and and_true decide_true decide_false Bool.false_eq_true Nat.zero_add Nat.add_zero List.contains_cons List.contains_nil Bool.or_false Bool.false_or beq_self_eq_true ne_eq not_true_eq_false not_false_eq_true Id.mk.injEq false_and and_false Nat.le_refl List.length_append beq_true beq_false Bool.not_eq_eq_eq_not or_false false_or dK aq au aH bf bt bZ aU bh aT bc cH bx
section
variable {P:Program} {α:Type} {e:α->List AV} {z:Nat} {g g':Rows} {v:AV} {L:List α} {ids:List Id}
def VX (e:α->List AV) (z:Nat) (g:Rows) (v:AV) (L:List α) (ids:List Id):Prop:=(L=[]/\v=.cj/\ids=[])∨∃o,v=.own o 0 L.length/\g o=some ⟨true,z,L.map e⟩/\ids=[o]/\0<L.length
def Rf (e:α->List AV) (L:List α):AV:=if L.length=0 then .cj else .sl (L.map e)
def k5 (e:α->List AV) (L:List α) (w:AV):Prop:=(w=.cj/\L=[])∨w=.sl (L.map e)
def VV (P:Program) (f:Nat) (args:List AV) (e:α->List AV) (z:Nat) (L:List α) (c:Int):Prop:=
 ∀n:Nat,Call P f args ⟨fun _=>none,n⟩ (fun r σ'=>∃v ids,r=.iA [v,.int .i64 c]/\VX e z σ'.get v L ids/\eE n σ'.next ids)
theorem s9 (hm:P.follows .mixedOrders=true) {f:Nat} {args:List AV} {σ:ay} {K:AV->ay->Prop} (h:Call P f args σ K):Call P f args σ (fun r σ'=>K r σ'/\σ.next<=σ'.next):=
 gh fun hs D ι w vs S U A=>(iw hm h hs D ι w vs S U A).mono (by
  rintro e w' ⟨r,g',n',D2,ι1,u,rfl,hK,T,S1,U1,hn,hR⟩
  exact⟨r,g',n',D2,ι1,u,rfl,⟨hK,hn⟩,T,S1,U1,hn,hR⟩)
theorem KT:k5 e L (Rf e L):=by
 unfold Rf
 split
 ·rename_i h;exact .inl ⟨rfl,List.eq_nil_of_length_eq_zero h⟩
 ·exact .inr rfl
end
theorem k5.cut {α:Type} {e:α->List AV} {L:List α} {w:AV} (h:k5 e L w) {l l':List AV} (hl:qH l l'):qH (w::l) (.sl (L.map e)::l'):=by
 rcases h with⟨rfl,rfl⟩|rfl
 ·exact .cj hl
 ·exact .same _ hl
end Go.Proofs.YtgoljkjaameagaaGreat.V

namespace Go.Proofs.YtgoljkjaameagaaGreat.V
open Go.RowKit
attribute [local irreducible] ek wpOps fK Call
attribute [local go_sem] aI fw eH fE fD dd upd cm K.av cG AV.cells AV.cell rowOf rowsOf part ld rowAt bL bY dx dO gz bE cW dY fC eY dj dS cU cR dG dH bH aZ cJ bG cL cK dQ dU dR cI bJ cV dP bF aL cP cz gy bq cF bI aW dq bm dy AV.undef bw bz dJ dM dD dI cE dX ea cq dW dV cN cQ List.getD_cons_zero List.getD_cons_succ List.getD_nil List.all_cons List.all_nil Bool.and_true Bool.true_and Bool.and_self Bool.not_true Bool.not_false Option.map_some Option.map_none Option.bind_some Option.bind_none List.length_cons List.length_nil List.take_succ_cons List.take_zero List.take_nil List.drop_succ_cons List.drop_zero List.drop_nil List.head?_cons List.map_cons List.map_nil List.getElem?_cons_zero List.getElem?_cons_succ List.cons_append List.nil_append List.append_nil List.length_map List.set_cons_zero List.set_cons_succ Nat.reduceMul eq_self Int.toNat_natCast Int.natCast_nonneg and_self true_and and_true decide_true decide_false Bool.false_eq_true Nat.zero_add Nat.add_zero List.contains_cons List.contains_nil Bool.or_false Bool.false_or beq_self_eq_true Nat.reduceBEq ne_eq not_true_eq_false not_false_eq_true Id.mk.injEq false_and and_false Nat.reduceLT Int.reduceLE Int.reduceLT Int.reduceToNat Int.reduceNeg Int.reduceAdd Nat.le_refl List.length_append beq_true beq_false Bool.not_eq_eq_eq_not or_false false_or dK aq au aH bf bt bZ aU bh aT bc cH bx
end Go.Proofs.YtgoljkjaameagaaGreat.V

namespace Go.Proofs.YtgoljkjaameagaaGreat.V
open Go.RowKit
variable {P:Program}
theorem Q6 (hm:P.follows .mixedOrders=true) {f:Nat} {args:List AV} {vs:Array Value} {w:World} (h:aw P f args (.bool true)) (hA:fb P w (fun b=>b<w.heap.size) (fun _=>none) args vs):
  Calls P f vs w fun e w'=>e=.returned (.bool true)/\Below w.heap.size w w':=by
 have hs:=iw hm (h 0) w.heap.size (fun b=>b<w.heap.size) (fun _=>none) w vs ⟨Nat.le_refl _,fun _ h=>h,fun id r h=>(by cases h),fun id lk r r' B B' h=>(by cases h)⟩ (fun id h=>absurd rfl h) hA
 refine hs.mono ?_
 rintro e w' ⟨r,g',n',D',ι',u,rfl,⟨r',hz,rfl⟩,eu,hsim,_,_,gS⟩
 have hr:r=.bool true:=by
  cases r<;>rw[gq]at hz<;>simp_all
  all_goals (repeat' (split at hz))<;>simp_all
 subst hr
 exact⟨by rw[fu gS],eu.below⟩
theorem mV {xs:List AV} {w:World} {D:Nat->Prop} {ι:Names} {a:AV} {v:Value} {vs:Array Value} (h:ke P w D a v) (k:fb P w D ι xs vs):fb P w D ι (a::xs) (#[v]++vs):=
 pq (xs:=[a]) ⟨rfl,fun j b hj=>by
  cases j with
  |zero=>simp at hj;subst hj;exact⟨v,rfl,.fa _ _ h⟩
  |succ j=>simp at hj⟩ k
end Go.Proofs.YtgoljkjaameagaaGreat.V

namespace Go.Proofs.YtgoljkjaameagaaGreat.V
open Go.RowKit
attribute [local irreducible] ek wpOps fK Call
attribute [local go_sem] aI fw eH fE fD dd upd cm K.av cG AV.cells AV.cell rowOf rowsOf part ld rowAt bL bY dx dO gz bE cW dY fC eY dj dS cU cR dG dH bH aZ cJ bG cL cK dQ dU dR cI bJ cV dP bF aL cP cz gy bq cF bI aW dq bm dy AV.undef bw bz dJ dM dD dI cE dX ea cq dW dV cN cQ List.getD_cons_zero List.getD_cons_succ List.getD_nil List.all_cons List.all_nil Bool.and_true Bool.true_and Bool.and_self Bool.not_true Bool.not_false Option.map_some Option.map_none Option.bind_some Option.bind_none List.length_cons List.length_nil List.take_succ_cons List.take_zero List.take_nil List.drop_succ_cons List.drop_zero List.drop_nil List.head?_cons List.map_cons List.map_nil List.getElem?_cons_zero List.getElem?_cons_succ List.cons_append List.nil_append List.append_nil List.length_map List.set_cons_zero List.set_cons_succ Nat.reduceMul eq_self Int.toNat_natCast Int.natCast_nonneg and_self true_and and_true decide_true decide_false Bool.false_eq_true Nat.zero_add Nat.add_zero List.contains_cons List.contains_nil Bool.or_false Bool.false_or beq_self_eq_true Nat.reduceBEq ne_eq not_true_eq_false not_false_eq_true Id.mk.injEq false_and and_false Nat.reduceLT Int.reduceLE Int.reduceLT Int.reduceToNat Int.reduceNeg Int.reduceAdd Nat.le_refl List.length_append beq_true beq_false Bool.not_eq_eq_eq_not or_false false_or dK aq au aH bf bt bZ aU bh aT bc cH bx
theorem Rr {α:Type} (f:α->Nat) {xs:List α} {x:α} (h:x∈xs):f x<=(xs.map f).sum:=by
 induction xs with
 |nil=>cases h
 |cons y ys ih=>
  simp only[List.map_cons,List.sum_cons]
  rcases List.mem_cons.1 h with rfl|h
  ·omega
  ·have:=ih h;omega
theorem IG {s:aM} (h:xP s<=1048576):tU s:=by
 unfold xP uP at h
 refine⟨⟨by omega,by omega,fun t ht=>?_⟩,by omega⟩
 have:=Rr kO ht
 have h2:t.bU.length<=kO t:=by unfold kO;omega
 unfold tb
 omega
theorem zU (a:eB):aw Tryz.prog 22 [.agg (bd a),.agg (bd a)] (.bool true):=by
 refine aw.body eK rfl fun hl n0=>?_
 clear hl
 have h1:=oY a.aj a.aj
 rw[decide_eq_true rfl]at h1
 (repeat(first|((repeat(revert hN;revert N;apply Pn.out));refine wk @bd.eq_1 ?_;(repeat(refine Pn.mk ?_;intro N hN)))|((try apply Or.inl);refine⟨_,aw.x (h1) (sd @bd.eq_1),?_⟩;refine hN _ _ ?_;clear hN N)))
 exact bp (b:=true) (.inl rfl) (sd @Nat.zero_add) rfl
end Go.Proofs.YtgoljkjaameagaaGreat.V

namespace Go.Proofs.YtgoljkjaameagaaGreat.V
open Go.RowKit
attribute [local irreducible] ek wpOps fK Call
attribute [local go_sem] aI fw eH fE fD dd upd cm K.av cG AV.cells AV.cell rowOf rowsOf part ld rowAt bL bY dx dO gz bE cW dY fC eY dj dS cU cR dG dH bH aZ cJ bG cL cK dQ dU dR cI bJ cV dP bF aL cP cz gy bq cF bI aW dq bm dy AV.undef bw bz dJ dM dD dI cE dX ea cq dW dV cN cQ List.getD_cons_zero List.getD_cons_succ List.getD_nil List.all_cons List.all_nil Bool.and_true Bool.true_and Bool.and_self Bool.not_true Bool.not_false Option.map_some Option.map_none Option.bind_some Option.bind_none List.length_cons List.length_nil List.take_succ_cons List.take_zero List.take_nil List.drop_succ_cons List.drop_zero List.drop_nil List.head?_cons List.map_cons List.map_nil List.getElem?_cons_zero List.getElem?_cons_succ List.cons_append List.nil_append List.append_nil List.length_map List.set_cons_zero List.set_cons_succ eq_self Int.toNat_natCast Int.natCast_nonneg and_self true_and and_true decide_true decide_false Bool.false_eq_true Nat.zero_add Nat.add_zero List.contains_cons List.contains_nil Bool.or_false Bool.false_or beq_self_eq_true ne_eq not_true_eq_false not_false_eq_true Id.mk.injEq false_and and_false Nat.le_refl List.length_append beq_true beq_false Bool.not_eq_eq_eq_not or_false false_or dK aq au aH bf bt bZ aU bh aT bc cH bx
theorem Ot {g:Rows} {v w:AV} {s:aM} {i:List Id} (hX:By g v s i) (hw:fz (dK g) 6 w=some w):de (dK g) 6 [v,w]=some [.agg (aE s),w]:=by
 simp only[aq,au,hX.fz 1,hw,Option.map_some]
theorem Ms {g:Rows} {v w:AV} {s:eB} {i:List Id} (hX:zD g v s i) (hw:fz (dK g) 6 w=some w):de (dK g) 6 [v,w]=some [.agg (bd s),w]:=by
 simp only[aq,au,hX.fz 2,hw,Option.map_some]
theorem F8 (g:Rows) (s:aM):fz g 6 (.agg (aE s))=some (.agg (aE s)):=by simp[aE,bh,aq,au,bZ,aH]
theorem F7 (g:Rows) (s:eB):fz g 6 (.agg (bd s))=some (.agg (bd s)):=by simp[bd,bh,aq,au,bZ]
theorem xM {g:Rows} {v w v' w':AV} (h1:fz g 6 v=some v') (h2:fz g 6 w=some w'):de g 6 [v,w]=some [v',w']:=by
 simp only[aq,au,h1,h2,Option.map_some]
theorem NO (s:aM):CL s<=3*xP s:=by
 have h:∀l:List fc,(l.map gM).sum<=l.length+(l.map kO).sum:=fun l=>by
  induction l with
  |nil=>simp
  |cons t l ih=>simp only[List.map_cons,List.sum_cons,List.length_cons,gM,kO]at *;omega
 have:=h s.aC.aj
 unfold CL xP uP
 omega
theorem eE.not {a b:Nat} {ids:List Id} (h:eE a b ids) {x:Id} (hx:x.br<a∨b<=x.br):x∉ids:=fun hc=>by
 have:=h.2 x hc;omega
theorem k5.fz {α:Type} {e:α->List AV} {L:List α} {w:AV} (h:k5 e L w) (g:Rows):V.fz g 6 w=some w:=by
 rcases h with⟨rfl,rfl⟩|rfl
 ·exact aU _ _
 ·exact bZ _ _ _
end Go.Proofs.YtgoljkjaameagaaGreat.V

namespace Go.Proofs.YtgoljkjaameagaaGreat.V
open Go.RowKit
attribute [local irreducible] ek wpOps fK Call
attribute [local go_sem] aI fw eH fE fD dd upd cm K.av cG AV.cells AV.cell rowOf rowsOf part ld rowAt bL bY dx dO gz bE cW dY fC eY dj dS cU cR dG dH bH aZ cJ bG cL cK dQ dU dR cI bJ cV dP bF aL cP cz gy bq cF bI aW dq bm dy AV.undef bw bz dJ dM dD dI cE dX ea cq dW dV cN cQ List.getD_cons_zero List.getD_cons_succ List.getD_nil List.all_cons List.all_nil Bool.and_true Bool.true_and Bool.and_self Bool.not_true Bool.not_false Option.map_some Option.map_none Option.bind_some Option.bind_none List.length_cons List.length_nil List.take_succ_cons List.take_zero List.take_nil List.drop_succ_cons List.drop_zero List.drop_nil List.head?_cons List.map_cons List.map_nil List.getElem?_cons_zero List.getElem?_cons_succ List.cons_append List.nil_append List.append_nil List.length_map List.set_cons_zero List.set_cons_succ Nat.reduceMul eq_self Int.toNat_natCast Int.natCast_nonneg and_self true_and and_true decide_true decide_false Bool.false_eq_true Nat.zero_add Nat.add_zero List.contains_cons List.contains_nil Bool.or_false Bool.false_or beq_self_eq_true Nat.reduceBEq ne_eq not_true_eq_false not_false_eq_true Id.mk.injEq false_and and_false Nat.reduceLT Int.reduceLE Int.reduceLT Int.reduceToNat Int.reduceNeg Int.reduceAdd Nat.le_refl List.length_append beq_true beq_false Bool.not_eq_eq_eq_not or_false false_or dK aq au aH bf bt bZ aU bh aT bc cH bx
theorem NQ (k:Int) {n j:Nat} (h:j<n):((DH k n).map ah)[j]? =some [.int .i64 (k+3*(j:Int)),.int .i64 (k+3*(j:Int)+1),.int .i64 (k+3*(j:Int)+2)]:=by
 simp[DH,h,ah]
theorem Kc (k:Int) (n:Nat) (h0:0<=k) (h1:k+3*n<=4611686018427387904):aw Tryz.prog 60 [.sl ((DH k n).map ah),.int .i64 k] (.int .i64 (k+3*n)):=by
 refine aw.body eK rfl fun hl n0=>?_
 clear hl
 obtain⟨m,hm⟩:∃m,n=m:=⟨_,rfl⟩
 rw[hm]at h1 ⊢
 (try((repeat(revert hN;revert N;apply Pn.out));refine wk @iX ?_;(repeat(refine Pn.mk ?_;intro N hN))))
 refine aX (fun n env st=>∃j:Nat,n=(m)-j/\j<=(m)/\env 5=.int .i64 (j:Int)/\env 1=.int .i64 (k+3*j)) (m) ⟨0,by omega,by omega,sl (tw @Int.add_zero (tw @Int.natCast_zero (tw @Int.mul_zero @iX))),sl (tw @Int.add_zero (tw @Int.natCast_zero (tw @Int.mul_zero @iX)))⟩ ?_
 rintro n_a env_a st_a ⟨j,rfl,ale,a5,a1⟩ dC
 have a0:=dC 0 (by kernel_rfl)
 simp only[go_sem, ↓reduceIte,Nat.reduceEqDiff,Nat.reduceAdd,Nat.reduceSub,Nat.reduceLeDiff,reduceCtorEq,Int.add_zero,Int.natCast_zero,Int.mul_zero,iX]at a0
 clear dC
 by_cases hj:(j:Int)<(m:Int)
 ·have cD:∀{e:Env},(e 5=.int .i64 (IntKind.i64.wrap ((j:Int)+1)))->(e 1=.int .i64 (k+3*(j+1)))->∃m0,m0<(m)-j/\∃j:Nat,m0=(m)-j/\j<=(m)/\e 5=.int .i64 (j:Int)/\e 1=.int .i64 (k+3*j):=fun x1 x2=>⟨_,by omega,j+1,rfl,by omega,(by rw[x1,az (by omega)]),x2⟩
  have eT:=NQ k (n:=m) (j:=j) (by omega)
  have l7:IntKind.i64.wrap (k+3*(j:Int)+1)=k+3*(j:Int)+1:=bK (by omega)
  have qy:IntKind.i64.wrap (k+3*(j:Int)+1+1)=k+3*(j:Int)+2:=by rw[bK (by omega)];omega
  have Pe:IntKind.i64.wrap (k+3*(j:Int)+2+1)=k+3*((j:Int)+1):=by rw[bK (by omega)];omega
  have e1:decide (k+3*(j:Int)=k+3*(j:Int))=true:=decide_eq_true rfl
  have e2:decide (k+3*(j:Int)+1=k+3*(j:Int)+1)=true:=decide_eq_true rfl
  have e3:decide (k+3*(j:Int)+2=k+3*(j:Int)+2)=true:=decide_eq_true rfl
  (try((repeat(revert hN;revert N;apply Pn.out));refine wk (tw @a5 (tw @a1 (tw @a0 (tw @hj (tw @eT (tw @l7 (tw @qy (tw @Pe (tw @iX (tw @e1 (tw @e2 @e3))))))))))) ?_;(repeat(refine Pn.mk ?_;intro N hN))))
  refine cD ?_ ?_
  all_goals simp only[go_sem, ↓reduceIte,Nat.reduceEqDiff,Nat.reduceAdd,Nat.reduceSub,Nat.reduceLeDiff,reduceCtorEq,a5,a1,a0,Pe]
 ·have gW:j=m:=by omega
  subst gW
  (try((repeat(revert hN;revert N;apply Pn.out));refine wk (tw @a5 (tw @a1 (tw @a0 (tw @hj @iX)))) ?_;(repeat(refine Pn.mk ?_;intro N hN))))
  exact db (b:=k+3*(j:Int)) (.inl rfl) (sd (tw @a5 (tw @a1 @a0))) rfl
theorem ML {L:List ae} {v w:AV} (hv:k5 ah L v) (hw:k5 ah L w):aw Tryz.prog 58 [v,w] (.bool true):=by
 have h:=oY L L
 rw[decide_eq_true rfl]at h
 exact h.cut mixed (hv.cut (hw.cut .nil))
theorem JO {L:List ae} {v w:AV} (hv:k5 ah L v) (hw:k5 ah L w):aw Tryz.prog 22 [.agg [v],.agg [w]] (.bool true):=by
 refine aw.body eK rfl fun hl n0=>?_
 clear hl
 have h:=ML hv hw
 rcases hv with⟨rfl,hL⟩|rfl<;>rcases hw with⟨rfl,hL2⟩|rfl
 ·(repeat(first|((repeat(revert hN;revert N;apply Pn.out));refine wk @Nat.zero_add ?_;(repeat(refine Pn.mk ?_;intro N hN)))|((try apply Or.inl);refine⟨_,aw.x (h) (sd @Nat.zero_add),?_⟩;refine hN _ _ ?_;clear hN N)))
  exact bp (b:=true) (.inl rfl) (sd @Nat.zero_add) rfl
 ·(repeat(first|((repeat(revert hN;revert N;apply Pn.out));refine wk @Nat.zero_add ?_;(repeat(refine Pn.mk ?_;intro N hN)))|((try apply Or.inl);refine⟨_,aw.x (h) (sd @Nat.zero_add),?_⟩;refine hN _ _ ?_;clear hN N)))
  exact bp (b:=true) (.inl rfl) (sd @Nat.zero_add) rfl
 ·(repeat(first|((repeat(revert hN;revert N;apply Pn.out));refine wk @Nat.zero_add ?_;(repeat(refine Pn.mk ?_;intro N hN)))|((try apply Or.inl);refine⟨_,aw.x (h) (sd @Nat.zero_add),?_⟩;refine hN _ _ ?_;clear hN N)))
  exact bp (b:=true) (.inl rfl) (sd @Nat.zero_add) rfl
 ·(repeat(first|((repeat(revert hN;revert N;apply Pn.out));refine wk @Nat.zero_add ?_;(repeat(refine Pn.mk ?_;intro N hN)))|((try apply Or.inl);refine⟨_,aw.x (h) (sd @Nat.zero_add),?_⟩;refine hN _ _ ?_;clear hN N)))
  exact bp (b:=true) (.inl rfl) (sd @Nat.zero_add) rfl
end Go.Proofs.YtgoljkjaameagaaGreat.V

namespace Go.Proofs.YtgoljkjaameagaaGreat.V
open Go.RowKit
attribute [local irreducible] ek wpOps fK Call
attribute [local go_sem] aI fw eH fE fD dd upd cm K.av cG AV.cells AV.cell rowOf rowsOf part ld rowAt bL bY dx dO gz bE cW dY fC eY dj dS cU cR dG dH bH aZ cJ bG cL cK dQ dU dR cI bJ cV dP bF aL cP cz gy bq cF bI aW dq bm dy AV.undef bw bz dJ dM dD dI cE dX ea cq dW dV cN cQ List.getD_cons_zero List.getD_cons_succ List.getD_nil List.all_cons List.all_nil Bool.and_true Bool.true_and Bool.and_self Bool.not_true Bool.not_false Option.map_some Option.map_none Option.bind_some Option.bind_none List.length_cons List.length_nil List.take_succ_cons List.take_zero List.take_nil List.drop_succ_cons List.drop_zero List.drop_nil List.head?_cons List.map_cons List.map_nil List.getElem?_cons_zero List.getElem?_cons_succ List.cons_append List.nil_append List.append_nil List.length_map List.set_cons_zero List.set_cons_succ eq_self Int.toNat_natCast Int.natCast_nonneg and_self true_and and_true decide_true decide_false Bool.false_eq_true Nat.zero_add Nat.add_zero List.contains_cons List.contains_nil Bool.or_false Bool.false_or beq_self_eq_true ne_eq not_true_eq_false not_false_eq_true Id.mk.injEq false_and and_false Nat.le_refl List.length_append beq_true beq_false Bool.not_eq_eq_eq_not or_false false_or dK aq au aH bf bt bZ aU bh aT bc cH bx
end Go.Proofs.YtgoljkjaameagaaGreat.V

namespace Go.Proofs.YtgoljkjaameagaaGreat.V
open Go.RowKit
attribute [local irreducible] ek wpOps fK Call
attribute [local go_sem] aI fw eH fE fD dd upd cm K.av cG AV.cells AV.cell rowOf rowsOf part ld rowAt bL bY dx dO gz bE cW dY fC eY dj dS cU cR dG dH bH aZ cJ bG cL cK dQ dU dR cI bJ cV dP bF aL cP cz gy bq cF bI aW dq bm dy AV.undef bw bz dJ dM dD dI cE dX ea cq dW dV cN cQ List.getD_cons_zero List.getD_cons_succ List.getD_nil List.all_cons List.all_nil Bool.and_true Bool.true_and Bool.and_self Bool.not_true Bool.not_false Option.map_some Option.map_none Option.bind_some Option.bind_none List.length_cons List.length_nil List.take_succ_cons List.take_zero List.take_nil List.drop_succ_cons List.drop_zero List.drop_nil List.head?_cons List.map_cons List.map_nil List.getElem?_cons_zero List.getElem?_cons_succ List.cons_append List.nil_append List.append_nil List.length_map List.set_cons_zero List.set_cons_succ Nat.reduceMul eq_self Int.toNat_natCast Int.natCast_nonneg and_self true_and and_true decide_true decide_false Bool.false_eq_true Nat.zero_add Nat.add_zero List.contains_cons List.contains_nil Bool.or_false Bool.false_or beq_self_eq_true Nat.reduceBEq ne_eq not_true_eq_false not_false_eq_true Id.mk.injEq false_and and_false Nat.reduceLT Int.reduceLE Int.reduceLT Int.reduceToNat Int.reduceNeg Int.reduceAdd Nat.le_refl List.length_append beq_true beq_false Bool.not_eq_eq_eq_not or_false false_or dK aq au aH bf bt bZ aU bh aT bc cH bx
theorem G1 {P:Program} {K:AV->Rows->List Id->Prop} (hm:P.follows .mixedOrders=true) {f:Nat} {args args':List AV} {σ:ay}
  (mi:∀r g ids,K r g ids->r.tk=true/\Handed ids g) (l5:∀r g g' ids,K r g ids->(∀i∈ids,g' i=g i)->K r g' ids)
  (h:∀n:Nat,Call P f args' ⟨fun _=>none,n⟩ (fun r σ'=>∃ids,K r σ'.get ids/\eE n σ'.next ids)) (hv:de (dK σ.get) 6 args=some args'):
  Call P f args σ (fun r σ'=>∃ids,K r σ'.get ids/\eE σ.next σ'.next ids/\Kept σ σ'):=by
 refine vH hm hv (aJ _ _ _ _ _ (fun r σ' hq=>?_) (s9 hm (h σ.next)))
 obtain⟨⟨ids,hK,hi⟩,hn⟩:=hq
 obtain⟨c1,c2⟩:=mi _ _ _ hK
 exact⟨ids,c1,c2,ids,l5 _ _ _ _ hK (fun i hi=>pB hi),hi,hn,fun j hj=>kY fun hc=>by have:=(hi.2 j hc).1;omega⟩
theorem Handed.app {i j:List Id} {g:Rows} (h:Handed i g) (k:Handed j g):Handed (i++j) g:=fun x hx=>by
 rcases List.mem_append.1 hx with h1|h1
 ·exact h x h1
 ·exact k x h1
theorem Handed.nil {g:Rows}:Handed [] g:=fun x hx=>by cases hx
section
variable {P:Program} {α:Type} {e:α->List AV} {z:Nat} {g g':Rows} {v:AV} {L:List α} {ids:List Id}
def OutT (e:α->List AV) (z:Nat) (g:Rows) (v:AV) (L:List α) (ids:List Id):Prop:=(L=[]/\v=.cj/\ids=[])∨∃(o:Id) (J:List α),v=.own o 0 L.length/\g o=some ⟨true,z,(L++J).map e⟩/\ids=[o]/\0<L.length
def GQ (e:α->List AV) (v:AV) (L:List α):AV:=match v with| .cj=>.cj|_=>.sl (L.map e)
theorem OT {n:Nat} {o:Id} {J:List α} (h2:g o=some ⟨true,z,(L++J).map e⟩) (he:∀x g,de g n (e x)=some (e x)):V.fz (dK g) (n+1) (.own o 0 L.length)=some (.sl (L.map e)):=by
 rw[gE]
 have:dK g o=some ⟨true,z,(L++J).map e⟩:=by simp[dK,h2]
 simp only[this,if_true]
 have h4:((L++J).map e).take L.length=L.map e:=by rw[<-List.map_take,List.take_append_of_le_length (Nat.le_refl _),List.take_length]
 rw[if_pos (by simp),List.drop_zero,h4,nz fun x=>he x _];rfl
end
def zR (a:AV):Bool:=match a with| .agg cs=>cs.all AV.clean|a=>a.clean
theorem D9 (cs:List AV):(AV.iA cs).tk=cs.all zR:=rfl
theorem Hh {a:AV} (h:a.clean=true):zR a=true:=by
 cases a<;>first|exact h|(simp[AV.clean]at h)
theorem D8 (k:IntKind) (n:Int):zR (.int k n)=true:=rfl
theorem BP (b:Bool):zR (.bool b)=true:=rfl
theorem S8 {g:Rows} {u v u' v':AV} (h0:V.fz g 6 u=some u') (h1:V.fz g 6 v=some v'):de g 6 [u,v]=some [u',v']:=by simp only[aq,au,h0,h1,Option.map_some]
theorem SQ (x:ae):(ah x).all AV.clean=true:=rfl
end Go.Proofs.YtgoljkjaameagaaGreat.V

namespace Go.Proofs.YtgoljkjaameagaaGreat.V
open Go.RowKit
attribute [local irreducible] ek wpOps fK Call
attribute [local go_sem] aI fw eH fE fD dd upd cm K.av cG AV.cells AV.cell rowOf rowsOf part ld rowAt bL bY dx dO gz bE cW dY fC eY dj dS cU cR dG dH bH aZ cJ bG cL cK dQ dU dR cI bJ cV dP bF aL cP cz gy bq cF bI aW dq bm dy AV.undef bw bz dJ dM dD dI cE dX ea cq dW dV cN cQ List.getD_cons_zero List.getD_cons_succ List.getD_nil List.all_cons List.all_nil Bool.and_true Bool.true_and Bool.and_self Bool.not_true Bool.not_false Option.map_some Option.map_none Option.bind_some Option.bind_none List.length_cons List.length_nil List.take_succ_cons List.take_zero List.take_nil List.drop_succ_cons List.drop_zero List.drop_nil List.head?_cons List.map_cons List.map_nil List.getElem?_cons_zero List.getElem?_cons_succ List.cons_append List.nil_append List.append_nil List.length_map List.set_cons_zero List.set_cons_succ eq_self Int.toNat_natCast Int.natCast_nonneg and_self true_and and_true decide_true decide_false Bool.false_eq_true Nat.zero_add Nat.add_zero List.contains_cons List.contains_nil Bool.or_false Bool.false_or beq_self_eq_true ne_eq not_true_eq_false not_false_eq_true Id.mk.injEq false_and and_false Nat.le_refl List.length_append beq_true beq_false Bool.not_eq_eq_eq_not or_false false_or dK aq au aH bf bt bZ aU bh aT bc cH bx
section
variable {P:Program} {α:Type} {R:vI α} {e:α->List AV} {z:Nat} {g g':Rows} {v:AV} {L:List α} {ids:List Id}
def me (R:vI α) (z:Nat) (g:Rows) (v:AV) (L:List α) (ids:List Id):Prop:=(L=[]/\v=.cj/\ids=[])∨(eV R z g v L ids/\0<L.length)
theorem me.frame (ok:rQ R z) (h:me R z g v L ids) (hf:∀i∈ids,g' i=g i):me R z g' v L ids:=by
 rcases h with h|⟨h,hp⟩
 ·exact .inl h
 ·exact .inr ⟨h.frame ok hf,hp⟩
theorem me.Ib (h:me R z g v L ids):k5 e L (GQ e v L):=by
 rcases h with⟨rfl,rfl,_⟩|⟨⟨o,rows,is,rfl,_⟩,_⟩
 ·exact .inl ⟨rfl,rfl⟩
 ·exact .inr rfl
theorem me.MN (h:me R z g v L ids) {n:Nat} (hz:∀{cs x ids},R g cs x ids->de (dK g) n cs=some (e x)):V.fz (dK g) (n+1) v=some (GQ e v L):=by
 rcases h with⟨rfl,rfl,_⟩|⟨h,_⟩
 ·exact aU _ _
 ·rw[h.fz hz]
  obtain⟨o,rows,is,rfl,_⟩:=h;rfl
theorem me.clean (h:me R z g v L ids):v.clean=true:=by
 rcases h with⟨_,rfl,_⟩|⟨⟨o,rows,is,rfl,_⟩,_⟩<;>rfl
theorem dE.hand {rows:List (List AV)} (h:dE R g rows L ids) (hc:∀{cs x ids},R g cs x ids->cs.all AV.clean=true/\Handed ids g):(∀cs∈rows,∀a∈cs,a.clean=true)/\Handed ids g:=by
 induction h with
 |nil=>exact⟨fun cs h=>(by cases h),Handed.nil⟩
 |cons h1 _ ih=>
  obtain⟨c1,c2⟩:=hc h1
  refine⟨fun cs dz a ha=>?_,c2.app ih.2⟩
  rcases List.mem_cons.1 dz with rfl|dz
  ·exact List.all_eq_true.1 c1 a ha
  ·exact ih.1 cs dz a ha
theorem me.hand (h:me R z g v L ids) (hc:∀{cs x ids},R g cs x ids->cs.all AV.clean=true/\Handed ids g):Handed ids g:=by
 rcases h with⟨_,_,rfl⟩|⟨⟨o,rows,is,_,h2,h3,rfl⟩,_⟩
 ·exact Handed.nil
 ·obtain⟨c1,c2⟩:=h3.hand hc
  intro i hi
  rcases List.mem_cons.1 hi with rfl|hi
  ·exact⟨_,h2,rfl,c1⟩
  ·exact c2 i hi
theorem dE.gq {n:Nat} {rows:List (List AV)} (h:dE R g rows L ids) (hz:∀{cs x ids},R g cs x ids->er g n cs=some (e x)):gD g n rows=some (L.map e):=by
 induction h with
 |nil=>rw[gD];rfl
 |cons h1 _ ih=>rw[gD,hz h1,ih];rfl
theorem me.s (h:me R z g v L ids) {n:Nat} (hz:∀{cs x ids},R g cs x ids->er g n cs=some (e x)):gq g (n+1) v=some (Rf e L):=by
 rcases h with⟨rfl,rfl,_⟩|⟨⟨o,rows,is,rfl,h2,h3,_⟩,hp⟩
 ·rw[k9];rfl
 ·rw[sf (sz:=z) (rows:=rows) (rows':=L.map e) h2 (by rw[h3.len];omega) (by
   rw[List.drop_zero,List.take_of_length_le (by rw[h3.len];exact Nat.le_refl _),h3.gq hz]),Rf,if_neg (by omega)]
end
def zT (R:List ae):List AV:=[.sl (R.map ah)]
def qK:vI (List ae):=fun g cs R ids=>∃u,cs=[.own u 0 R.length]/\g u=some ⟨true,3,R.map ah⟩/\ids=[u]
theorem VK:rQ qK 1 where
 frame:=fun⟨i,h1,h2,h3⟩ hf=>⟨i,h1,(hf i (by rw[h3];simp)).trans h2,h3⟩
 len:=fun⟨i,h1,_⟩=>by rw[h1];rfl
 cell:=fun⟨i,h1,_⟩=>by rw[h1];rfl
 live:=fun⟨i,h1,h2,h3⟩ j hj=>by
  rw[h3]at hj
  have:j=i:=by simpa using hj
  subst this
  exact⟨_,h2,rfl,by simp[mT]⟩
 small:=by simp[mT]
theorem Uy {g:Rows} {cs:List AV} {x:List ae} {ids:List Id} (n:Nat) (h:qK g cs x ids):de (dK g) (n+2) cs=some (zT x):=by
 obtain⟨i,rfl,h2,_⟩:=h
 have h3:V.fz (dK g) (n+2) (.own i 0 x.length)=some (.sl (x.map ah)):=gI (e:=ah) (sz:=3) (by simp[dK,h2]) rfl fun y=>by simp[ah,aq,au,aH]
 simp only[aq,au,h3,Option.map_some,zT]
theorem SA {g:Rows} {cs:List AV} {x:List ae} {ids:List Id} (n:Nat) (h:qK g cs x ids):er g (n+2) cs=some (zT x):=by
 obtain⟨i,rfl,h2,_⟩:=h
 have h3:gq g (n+2) (.own i 0 x.length)=some (.sl (x.map ah)):=fA (e:=ah) h2 rfl fun y=>by simp[ah,bV,cY,eL]
 simp only[bV,cY,h3,Option.map_some,zT]
theorem Rn {g:Rows} {cs:List AV} {x:List ae} {ids:List Id} (h:qK g cs x ids):cs.all AV.clean=true/\Handed ids g:=by
 obtain⟨i,rfl,h2,rfl⟩:=h
 refine⟨rfl,fun j hj=>?_⟩
 rw[List.mem_singleton.1 hj]
 refine⟨_,h2,rfl,fun cs dz a ha=>?_⟩
 obtain⟨y,_,rfl⟩:=List.mem_map.1 dz
 exact List.all_eq_true.1 (SQ y) a ha
def OutRs (g:Rows) (v:AV) (L:List (List ae)) (ids:List Id):Prop:=me qK 1 g v L ids
section
variable {g g':Rows} {v:AV} {L:List (List ae)} {ids:List Id}
end
end Go.Proofs.YtgoljkjaameagaaGreat.V

namespace Go.Proofs.YtgoljkjaameagaaGreat.V
open Go.RowKit
attribute [local irreducible] ek wpOps fK Call
attribute [local go_sem] aI fw eH fE fD dd upd cm K.av cG AV.cells AV.cell rowOf rowsOf part ld rowAt bL bY dx dO gz bE cW dY fC eY dj dS cU cR dG dH bH aZ cJ bG cL cK dQ dU dR cI bJ cV dP bF aL cP cz gy bq cF bI aW dq bm dy AV.undef bw bz dJ dM dD dI cE dX ea cq dW dV cN cQ List.getD_cons_zero List.getD_cons_succ List.getD_nil List.all_cons List.all_nil Bool.and_true Bool.true_and Bool.and_self Bool.not_true Bool.not_false Option.map_some Option.map_none Option.bind_some Option.bind_none List.length_cons List.length_nil List.take_succ_cons List.take_zero List.take_nil List.drop_succ_cons List.drop_zero List.drop_nil List.head?_cons List.map_cons List.map_nil List.getElem?_cons_zero List.getElem?_cons_succ List.cons_append List.nil_append List.append_nil List.length_map List.set_cons_zero List.set_cons_succ Nat.reduceMul eq_self Int.toNat_natCast Int.natCast_nonneg and_self true_and and_true decide_true decide_false Bool.false_eq_true Nat.zero_add Nat.add_zero List.contains_cons List.contains_nil Bool.or_false Bool.false_or beq_self_eq_true Nat.reduceBEq ne_eq not_true_eq_false not_false_eq_true Id.mk.injEq false_and and_false Nat.reduceLT Int.reduceLE Int.reduceLT Int.reduceToNat Int.reduceNeg Int.reduceAdd Nat.le_refl List.length_append beq_true beq_false Bool.not_eq_eq_eq_not or_false false_or dK aq au aH bf bt bZ aU bh aT bc cH bx
structure jn where
 t:List ae
 n:Int
 d:Int
def fM (x:jn):List AV:=[.sl (x.t.map ah),.int .i64 x.n,.int .i64 x.d]
def iH:vI jn:=fun g cs x ids=>∃u,cs=[.own u 0 x.t.length,.int .i64 x.n,.int .i64 x.d]/\g u=some ⟨true,3,x.t.map ah⟩/\ids=[u]
theorem xe:rQ iH 3 where
 frame:=fun⟨i,h1,h2,h3⟩ hf=>⟨i,h1,(hf i (by rw[h3];simp)).trans h2,h3⟩
 len:=fun⟨i,h1,_⟩=>by rw[h1];rfl
 cell:=fun⟨i,h1,_⟩=>by rw[h1];rfl
 live:=fun⟨i,h1,h2,h3⟩ j hj=>by
  rw[h3]at hj
  have:j=i:=by simpa using hj
  subst this
  exact⟨_,h2,rfl,by simp[mT]⟩
 small:=by simp[mT]
theorem N4 {g:Rows} {cs:List AV} {x:jn} {ids:List Id} (n:Nat) (h:iH g cs x ids):de (dK g) (n+2) cs=some (fM x):=by
 obtain⟨i,rfl,h2,_⟩:=h
 have h3:V.fz (dK g) (n+2) (.own i 0 x.t.length)=some (.sl (x.t.map ah)):=gI (e:=ah) (sz:=3) (by simp[dK,h2]) rfl fun y=>by simp[ah,aq,au,aH]
 simp only[aq,au,h3,aH,Option.map_some,fM]
theorem K6 {g:Rows} {cs:List AV} {x:jn} {ids:List Id} (n:Nat) (h:iH g cs x ids):er g (n+2) cs=some (fM x):=by
 obtain⟨i,rfl,h2,_⟩:=h
 have h3:gq g (n+2) (.own i 0 x.t.length)=some (.sl (x.t.map ah)):=fA (e:=ah) h2 rfl fun y=>by simp[ah,bV,cY,eL]
 simp only[bV,cY,h3,eL,Option.map_some,fM]
theorem Is {g:Rows} {cs:List AV} {x:jn} {ids:List Id} (h:iH g cs x ids):cs.all AV.clean=true/\Handed ids g:=by
 obtain⟨i,rfl,h2,rfl⟩:=h
 refine⟨rfl,fun j hj=>?_⟩
 rw[List.mem_singleton.1 hj]
 refine⟨_,h2,rfl,fun cs dz a ha=>?_⟩
 obtain⟨y,_,rfl⟩:=List.mem_map.1 dz
 exact List.all_eq_true.1 (SQ y) a ha
def jM (g:Rows) (v:AV) (L:List jn) (ids:List Id):Prop:=me iH 3 g v L ids
section
variable {g g':Rows} {v:AV} {L:List jn} {ids:List Id}
theorem jM.frame (h:jM g v L ids) (hf:∀i∈ids,g' i=g i):jM g' v L ids:=me.frame xe h hf
theorem jM.Ib (h:jM g v L ids):k5 fM L (GQ fM v L):=me.Ib h
theorem jM.MN (h:jM g v L ids):V.fz (dK g) 6 v=some (GQ fM v L):=me.MN h fun h=>N4 3 h
theorem jM.clean (h:jM g v L ids):v.clean=true:=me.clean h
theorem jM.hand (h:jM g v L ids):Handed ids g:=me.hand h fun h=>Is h
theorem jM.s (h:jM g v L ids):gq g 5 v=some (Rf fM L):=me.s h fun h=>K6 2 h
end
def jh (x:jn):Nat:=3*x.t.length+2
theorem A8:∀L:List jn,L.length<=(L.map jh).sum
 |[]=>Nat.le_refl _
 |x::L=>by
  have:=A8 L
  simp only[List.map_cons,List.sum_cons,List.length_cons,jh];omega
def kI (k:Int):List jn->List jn
 |[]=>[]
 |x::L=>⟨DH k x.t.length,k+3*(x.t.length:Int),k+3*(x.t.length:Int)+1⟩::kI (k+3*(x.t.length:Int)+2) L
theorem mQ:∀(k:Int) (L:List jn),(kI k L).length=L.length
 |_,[]=>rfl
 |k,x::L=>by rw[kI,List.length_cons,mQ,List.length_cons]
theorem wZ:∀(k:Int) (A B:List jn),kI k (A++B)=kI k A++kI (k+((A.map jh).sum:Nat)) B
 |k,[],B=>by simp[kI]
 |k,x::A,B=>by
  rw[List.cons_append,kI,kI,wZ,List.cons_append]
  congr 3
  simp only[List.map_cons,List.sum_cons,jh];omega
theorem Ij {k:Int} {L:List jn} {j:Nat} (h:j<L.length):kI k (L.take (j+1))=kI k (L.take j)++[⟨DH (k+(e9 jh L j:Nat)) L[j].t.length,k+(e9 jh L j:Nat)+3*(L[j].t.length:Int),k+(e9 jh L j:Nat)+3*(L[j].t.length:Int)+1⟩]:=by
 rw[List.take_succ_eq_append_getElem h,wZ];rfl
theorem Ig (v:AV) (L:List jn) (ids:List Id) (k:Int) (h0:0<=k) (h1:k+(L.map jh).sum<=4611686018427387904) (σ:ay) (hv:∀i∈ids,i.br<σ.next) (lg:ids.Nodup) (hg:eV iH 3 σ.get v L ids):
  Call Tryz.prog 38 [v,.int .i64 k] σ (fun r σ'=>r=.int .i64 (k+(L.map jh).sum)/\uz σ ids σ'.get σ'.next/\eV iH 3 σ'.get v (kI k L) ids):=by
 obtain⟨o,rows,is,rfl,ho,hR,rfl⟩:=hg
 refine e6 eK rfl fun hl=>?_
 clear hl
 have pO:=hv o (by simp)
 have DD:=j5 jh L
 have Si:=A8 L
 (try((repeat(revert hN;revert N;apply Pn.out));refine wk @Nat.zero_add ?_;(repeat(refine Pn.mk ?_;intro N hN))))
 refine aX (fun n env st=>∃j:Nat,n=(L.length)-j/\j<=(L.length)/\env 5=.int .i64 (j:Int)/\env 1=.int .i64 (k+e9 jh L j)/\(uz σ (o::is) st.get st.next/\∃pre rest i1 i2,st.get o=some ⟨true,3,pre++rest⟩/\dE iH st.get pre (kI k (L.take j)) i1/\dE iH st.get rest (L.drop j) i2/\is=i1++i2)) (L.length) ⟨0,by omega,by omega,sl (tw @Int.add_zero (tw @Int.natCast_zero @DD)),sl (tw @Int.add_zero (tw @Int.natCast_zero @DD)),by(try dsimp only);exact⟨⟨by(try dsimp only);omega,fun x _ _=>rfl⟩,[],rows,[],is,ho,.nil,hR,rfl⟩⟩ ?_
 rintro n_a env_a st_a ⟨j,rfl,ale,a5,a1,kC⟩ dC
 have a0:=dC 0 (by kernel_rfl)
 simp only[go_sem, ↓reduceIte,Nat.reduceEqDiff,Nat.reduceAdd,Nat.reduceSub,Nat.reduceLeDiff,reduceCtorEq,Int.add_zero,Int.natCast_zero,DD]at a0
 clear dC
 obtain⟨⟨an,aF⟩,pre,rest,i1,i2,ag,aP,aR,his⟩:=kC
 have lj:pre.length=j:=by rw[aP.len,mQ,List.length_take];omega
 by_cases hj:(j:Int)<(L.length:Int)
 ·have cD:∀{e:Env} {gg:Rows} {nx:Nat},(e 5=.int .i64 (IntKind.i64.wrap ((j:Int)+1)))->(e 1=.int .i64 (k+e9 jh L (j+1)))->(uz σ (o::is) gg nx/\∃pre rest i1 i2,gg o=some ⟨true,3,pre++rest⟩/\dE iH gg pre (kI k (L.take (j+1))) i1/\dE iH gg rest (L.drop (j+1)) i2/\is=i1++i2)->∃m0,m0<(L.length)-j/\∃j:Nat,m0=(L.length)-j/\j<=(L.length)/\e 5=.int .i64 (j:Int)/\e 1=.int .i64 (k+e9 jh L j)/\(uz σ (o::is) gg nx/\∃pre rest i1 i2,gg o=some ⟨true,3,pre++rest⟩/\dE iH gg pre (kI k (L.take j)) i1/\dE iH gg rest (L.drop j) i2/\is=i1++i2):=fun x1 x2 x3=>⟨_,by omega,j+1,rfl,by omega,(by rw[x1,az (by omega)]),x2,x3⟩
  have gW:j<L.length:=by omega
  have HP:=nN jh gW
  have hle:=kb jh L (j+1)
  have uM:=Ij (k:=k) gW
  obtain⟨x,hx⟩:∃x,L[j]=x:=⟨_,rfl⟩
  rw[List.drop_eq_getElem_cons gW,hx]at aR
  rw[hx]at HP uM
  cases aR with
  | @cons cs _ ic rs _ i3 hT MX=>
  obtain⟨i,rfl,hi,rfl⟩:=hT
  have TQ:=lg
  rw[his]at TQ
  have HQ:∀y,y∈i1++([i]++i3)->y.br<σ.next:=fun y hy=>hv y (by rw[his];simp only[List.mem_cons];exact .inr hy)
  obtain⟨n1,n2⟩:=List.nodup_cons.1 TQ
  obtain⟨n3,n4,n5⟩:=List.nodup_append.1 n2
  obtain⟨n6,n7⟩:=List.nodup_cons.1 n4
  have Ma:i≠o:=fun e=>n1 (by simp[e])
  have QN:=eq_false (fun e:o=i=>Ma e.symm)
  have hiv:i.br<σ.next:=HQ i (by simp)
  have hwx:jh x=3*x.t.length+2:=rfl
  have eT:(pre++[.own i 0 x.t.length,.int .i64 x.n,.int .i64 x.d]::rs)[j]? =some [.own i 0 x.t.length,.int .i64 x.n,.int .i64 x.d]:=by subst lj;simp
  have l7:IntKind.i64.wrap (k+(e9 jh L j:Nat)+3*(x.t.length:Int)+1)=k+(e9 jh L j:Nat)+3*(x.t.length:Int)+1:=bK (by omega)
  have qy:IntKind.i64.wrap (k+(e9 jh L j:Nat)+3*(x.t.length:Int)+1+1)=k+(e9 jh L (j+1):Nat):=by rw[bK (by omega)];omega
  (try((repeat(revert hN;revert N;apply Pn.out));refine wk (tw @a5 (tw @a1 (tw @a0 (tw @hj (tw @ag @eT))))) ?_;(repeat(refine Pn.mk ?_;intro N hN))))
  refine .inr (aJ _ _ _ _ _ (fun r σ1 hq=>?_) (sH i x.t (k+(e9 jh L j:Nat)) (by omega) (by omega) _ (by(try dsimp only);omega) hi))
  obtain⟨g1,x1⟩:=σ1
  obtain⟨rfl,⟨xT,qm⟩,Sn⟩:=hq
  (try dsimp only at xT qm Sn)
  refine hN _ _ ?_
  clear hN N
  have go:=(qm o (by(try dsimp only);omega) (by simp only[List.mem_singleton];exact fun e=>Ma e.symm)).trans ag
  have Gt:∀c:List AV,(pre++[.own i 0 x.t.length,.int .i64 x.n,.int .i64 x.d]::rs).set j c=pre++c::rs:=fun c=>by subst lj;simp
  have HK:∀c:List AV,(pre++c::rs)[j]? =some c:=fun c=>by subst lj;simp
  have Vz:∀c d:List AV,(pre++c::rs).set j d=pre++d::rs:=fun c d=>by subst lj;simp
  (try((repeat(revert hN;revert N;apply Pn.out));refine wk (tw @a5 (tw @a1 (tw @a0 (tw @hj (tw @go (tw @eT (tw @Gt (tw @HK (tw @Vz (tw @l7 @qy)))))))))) ?_;(repeat(refine Pn.mk ?_;intro N hN))))
  have fr:∀y:Id,y.br<σ.next->y≠o->y≠i->g1 y=st_a.get y:=fun y hy h3 h4=>qm y (by(try dsimp only);omega) (by simp[h4])
  have io:=eq_false Ma
  refine cD ?_ ?_ (by(try dsimp only);exact⟨⟨by(try dsimp only);omega,fun y hy uZ=>by
   have h3:y≠o:=fun e=>uZ (by simp[e])
   have h4:y≠i:=fun e=>uZ (by rw[his];simp[e])
   have h5:=eq_false h3
   simp only[go_sem, ↓reduceIte,Nat.reduceEqDiff,Nat.reduceAdd,Nat.reduceSub,Nat.reduceLeDiff,reduceCtorEq,h5]
   rw[fr y hy h3 h4]
   exact aF y hy uZ⟩,pre++[[.own i 0 x.t.length,.int .i64 (k+(e9 jh L j:Nat)+3*(x.t.length:Int)),.int .i64 (k+(e9 jh L j:Nat)+3*(x.t.length:Int)+1)]],rs,i1++[i],i3,by simp only[go_sem, ↓reduceIte,Nat.reduceEqDiff,Nat.reduceAdd,Nat.reduceSub,Nat.reduceLeDiff,reduceCtorEq]<;>simp,by
    rw[uM]
    refine dE.app (aP.frame xe fun y hy=>?_) (dE.one ⟨i,by rw[iX],sd (tw @io @Sn),rfl⟩)
    have h3:y≠o:=fun e=>n1 (by simp[<-e,hy])
    have h4:y≠i:=fun e=>n5 y hy i (by simp) e
    have h5:=eq_false h3
    simp only[go_sem, ↓reduceIte,Nat.reduceEqDiff,Nat.reduceAdd,Nat.reduceSub,Nat.reduceLeDiff,reduceCtorEq,h5]
    exact fr y (HQ y (by simp[hy])) h3 h4,MX.frame xe (fun y hy=>by
     have h3:y≠o:=fun e=>n1 (by simp[<-e,hy])
     have h4:y≠i:=fun e=>n6 (by rw[<-e];exact hy)
     have h5:=eq_false h3
     simp only[go_sem, ↓reduceIte,Nat.reduceEqDiff,Nat.reduceAdd,Nat.reduceSub,Nat.reduceLeDiff,reduceCtorEq,h5]
     exact fr y (HQ y (by simp[hy])) h3 h4),by rw[his];simp⟩)
  all_goals simp only[go_sem, ↓reduceIte,Nat.reduceEqDiff,Nat.reduceAdd,Nat.reduceSub,Nat.reduceLeDiff,reduceCtorEq,a5,a1,a0,qy]
 ·have gW:j=L.length:=by omega
  subst gW
  have eh:=sQ jh L
  rw[eh]at a1
  rw[List.take_length]at aP
  rw[List.drop_length]at aR
  cases aR
  rw[List.append_nil]at his ag
  (try((repeat(revert hN;revert N;apply Pn.out));refine wk (tw @a5 (tw @a1 (tw @a0 @hj))) ?_;(repeat(refine Pn.mk ?_;intro N hN))))
  exact fe (.inl rfl) (vs:=[.int .i64 (k+(L.map jh).sum)]) (sd (tw @a5 (tw @a1 @a0))) ⟨rfl,⟨by(try dsimp only);omega,fun x hx hi=>aF x hx hi⟩,⟨o,pre,i1,by rw[mQ],ag,aP,by rw[his]⟩⟩
theorem Fb (k:Int) (σ:ay):Call Tryz.prog 38 [.cj,.int .i64 k] σ (fun r σ'=>r=.int .i64 k/\uz σ [] σ'.get σ'.next):=by
 refine e6 eK rfl fun hl=>?_
 clear hl
 (try((repeat(revert hN;revert N;apply Pn.out));refine wk @Nat.zero_add ?_;(repeat(refine Pn.mk ?_;intro N hN))))
 refine aX (fun n env st=>(env 1=.int .i64 k/\env 5=.int .i64 0/\env 0=.cj)/\σ.next<=st.next/\∀x:Id,st.get x=σ.get x) 0 ⟨⟨sd @Nat.zero_add,sd @Nat.zero_add,sd @Nat.zero_add⟩,by(try dsimp only);omega,fun _=>rfl⟩ ?_
 rintro m e st ⟨⟨a1,a5,a0⟩,an,aF⟩ -
 have d0:decide ((0:Int)<((0:Nat):Int))=false:=rfl
 (try((repeat(revert hN;revert N;apply Pn.out));refine wk (tw @a0 (tw @a1 (tw @a5 @d0))) ?_;(repeat(refine Pn.mk ?_;intro N hN))))
 exact fe (.inl rfl) (vs:=[.int .i64 k]) (sd @a1) ⟨rfl,⟨by(try dsimp only);omega,fun x hx hi=>aF x⟩⟩
theorem Ie {v:AV} {L:List jn} {ids:List Id} (k:Int) (h0:0<=k) (h1:k+(L.map jh).sum<=4611686018427387904) (σ:ay) (hv:∀i∈ids,i.br<σ.next) (lg:ids.Nodup) (h:jM σ.get v L ids):
  Call Tryz.prog 38 [v,.int .i64 k] σ (fun r σ'=>r=.int .i64 (k+(L.map jh).sum)/\uz σ ids σ'.get σ'.next/\jM σ'.get v (kI k L) ids):=by
 rcases h with⟨rfl,rfl,rfl⟩|⟨h,hp⟩
 ·refine aJ _ _ _ _ _ (fun r σ' hq=>?_) (Fb k σ)
  obtain⟨rfl,hB⟩:=hq
  exact⟨by simp,hB,.inl ⟨rfl,rfl,rfl⟩⟩
 ·refine aJ _ _ _ _ _ (fun r σ' hq=>?_) (Ig v L ids k h0 h1 σ hv lg h)
  obtain⟨rfl,hB,hg⟩:=hq
  exact⟨rfl,hB,.inr ⟨hg,by rw[mQ];exact hp⟩⟩
theorem NP {k:Int} {L:List jn} {j:Nat} (h:j<L.length):((kI k L).map fM)[j]? =some [.sl ((DH (k+(e9 jh L j:Nat)) L[j].t.length).map ah),.int .i64 (k+(e9 jh L j:Nat)+3*(L[j].t.length:Int)),.int .i64 (k+(e9 jh L j:Nat)+3*(L[j].t.length:Int)+1)]:=by
 have h1:(kI k (L.take j)).length=j:=by rw[mQ,List.length_take];omega
 have h2:L=L.take j++L[j]::L.drop (j+1):=by rw[<-List.drop_eq_getElem_cons h,List.take_append_drop]
 have h3:kI k L=kI k (L.take j)++kI (k+(((L.take j).map jh).sum:Nat)) (L[j]::L.drop (j+1)):=by rw[<-wZ,<-h2]
 rw[h3,List.map_append,List.getElem?_append_right (by rw[List.length_map,h1];omega),List.length_map,h1,Nat.sub_self,kI]
 rfl
theorem HH (k:Int) (L:List jn) (h0:0<=k) (h1:k+(L.map jh).sum<=4611686018427387904):aw Tryz.prog 39 [.sl ((kI k L).map fM),.int .i64 k] (.int .i64 (k+(L.map jh).sum)):=by
 refine aw.body eK rfl fun hl n0=>?_
 clear hl
 have DD:=j5 jh L
 have Si:=A8 L
 have gR:((kI k L).map fM).length=L.length:=by rw[List.length_map,mQ]
 (try((repeat(revert hN;revert N;apply Pn.out));refine wk @gR ?_;(repeat(refine Pn.mk ?_;intro N hN))))
 refine aX (fun n env st=>∃j:Nat,n=(L.length)-j/\j<=(L.length)/\env 5=.int .i64 (j:Int)/\env 1=.int .i64 (k+e9 jh L j)) (L.length) ⟨0,by omega,by omega,sl (tw @Int.add_zero (tw @Int.natCast_zero (tw @DD @gR))),sl (tw @Int.add_zero (tw @Int.natCast_zero (tw @DD @gR)))⟩ ?_
 rintro n_a env_a st_a ⟨j,rfl,ale,a5,a1⟩ dC
 have a0:=dC 0 (by kernel_rfl)
 simp only[go_sem, ↓reduceIte,Nat.reduceEqDiff,Nat.reduceAdd,Nat.reduceSub,Nat.reduceLeDiff,reduceCtorEq,Int.add_zero,Int.natCast_zero,DD,gR]at a0
 clear dC
 by_cases hj:(j:Int)<(L.length:Int)
 ·have cD:∀{e:Env},(e 5=.int .i64 (IntKind.i64.wrap ((j:Int)+1)))->(e 1=.int .i64 (k+e9 jh L (j+1)))->∃m0,m0<(L.length)-j/\∃j:Nat,m0=(L.length)-j/\j<=(L.length)/\e 5=.int .i64 (j:Int)/\e 1=.int .i64 (k+e9 jh L j):=fun x1 x2=>⟨_,by omega,j+1,rfl,by omega,(by rw[x1,az (by omega)]),x2⟩
  have gW:j<L.length:=by omega
  have HP:=nN jh gW
  have hle:=kb jh L (j+1)
  have eT:=NP (k:=k) gW
  have hwx:jh L[j]=3*L[j].t.length+2:=rfl
  have hh:=Kc (k+(e9 jh L j:Nat)) L[j].t.length (by omega) (by omega)
  have hp:¬k+(e9 jh L j:Nat)+3*(L[j].t.length:Int)<0:=by omega
  have l7:IntKind.i64.wrap (k+(e9 jh L j:Nat)+3*(L[j].t.length:Int)+1)=k+(e9 jh L j:Nat)+3*(L[j].t.length:Int)+1:=bK (by omega)
  have qy:IntKind.i64.wrap (k+(e9 jh L j:Nat)+3*(L[j].t.length:Int)+1+1)=k+(e9 jh L (j+1):Nat):=by rw[bK (by omega)];omega
  have d1:decide (k+(e9 jh L j:Nat)+3*(L[j].t.length:Int)=k+(e9 jh L j:Nat)+3*(L[j].t.length:Int))=true:=decide_eq_true rfl
  have d2:decide (k+(e9 jh L j:Nat)+3*(L[j].t.length:Int)+1=k+(e9 jh L j:Nat)+3*(L[j].t.length:Int)+1)=true:=decide_eq_true rfl
  generalize (DH (k+(e9 jh L j:Nat)) L[j].t.length).map ah=M at eT hh
  (repeat(first|((repeat(revert hN;revert N;apply Pn.out));refine wk (tw @a5 (tw @a1 (tw @a0 (tw @hj (tw @eT (tw @gR (tw @hp (tw @l7 (tw @qy (tw @d1 @d2)))))))))) ?_;(repeat(refine Pn.mk ?_;intro N hN)))|((try apply Or.inl);refine⟨_,aw.x (hh) (sd (tw @a5 (tw @a1 (tw @a0 (tw @hj (tw @eT (tw @gR (tw @hp (tw @l7 (tw @qy (tw @d1 @d2))))))))))),?_⟩;refine hN _ _ ?_;clear hN N)))
  refine cD ?_ ?_
  all_goals simp only[go_sem, ↓reduceIte,Nat.reduceEqDiff,Nat.reduceAdd,Nat.reduceSub,Nat.reduceLeDiff,reduceCtorEq,a5,a1,a0,gR,qy]
 ·have gW:j=L.length:=by omega
  subst gW
  have eh:=sQ jh L
  rw[eh]at a1
  (try((repeat(revert hN;revert N;apply Pn.out));refine wk (tw @a5 (tw @a1 (tw @a0 (tw @hj @gR)))) ?_;(repeat(refine Pn.mk ?_;intro N hN))))
  exact db (b:=k+(L.map jh).sum) (.inl rfl) (sd (tw @a5 (tw @a1 @a0))) rfl
theorem yW {w:AV} (k:Int) (L:List jn) (h0:0<=k) (h1:k+(L.map jh).sum<=4611686018427387904) (hw:k5 fM (kI k L) w):aw Tryz.prog 39 [w,.int .i64 k] (.int .i64 (k+(L.map jh).sum)):=
 (HH k L h0 h1).cut mixed (hw.cut (.same _ .nil))
theorem JP (n d:Int):aw Tryz.prog 29 [.agg [.int .i64 n,.int .i64 d],.agg [.int .i64 n,.int .i64 d]] (.bool true):=by
 refine aw.body eK rfl fun hl n0=>?_
 clear hl
 have d1:decide (n=n)=true:=decide_eq_true rfl
 have d2:decide (d=d)=true:=decide_eq_true rfl
 (try((repeat(revert hN;revert N;apply Pn.out));refine wk (tw @d1 @d2) ?_;(repeat(refine Pn.mk ?_;intro N hN))))
 exact bp (b:=true) (.inl rfl) (sd @Nat.zero_add) rfl
theorem JS (x:jn):aw Tryz.prog 93 [.agg (fM x),.agg (fM x)] (.bool true):=by
 refine aw.body eK rfl fun hl n0=>?_
 clear hl
 have h1:=JO (L:=x.t) (.inr rfl) (.inr rfl)
 have h2:=JP x.n x.d
 rw[fM]
 generalize x.t.map ah=M at h1 ⊢
 (repeat(first|((repeat(revert hN;revert N;apply Pn.out));refine wk @Nat.zero_add ?_;(repeat(refine Pn.mk ?_;intro N hN)))|((try apply Or.inl);refine⟨_,aw.x (h1) (sd @Nat.zero_add),?_⟩;refine hN _ _ ?_;clear hN N)|((try apply Or.inl);refine⟨_,aw.x (h2) (sd @Nat.zero_add),?_⟩;refine hN _ _ ?_;clear hN N)))
 exact bp (b:=true) (.inl rfl) (sd @Nat.zero_add) rfl
theorem MJ (L:List jn):aw Tryz.prog 37 [.sl (L.map fM),.sl (L.map fM)] (.bool true):=by
 refine aw.body eK rfl fun hl n0=>?_
 have hL:L.length<=9223372036854775807:=by simpa using(hl (.sl (L.map fM)) (by simp)).len
 clear hl
 have gR:(L.map fM).length=L.length:=by simp
 have d0:decide ((L.length:Int)=(L.length:Int))=true:=decide_eq_true rfl
 (try((repeat(revert hN;revert N;apply Pn.out));refine wk (tw @gR @d0) ?_;(repeat(refine Pn.mk ?_;intro N hN))))
 refine aX (fun n env st=>∃j:Nat,n=(L.length)-j/\j<=(L.length)/\env 5=.int .i64 (j:Int)) (L.length) ⟨0,by omega,by omega,sl @gR⟩ ?_
 rintro n_a env_a st_a ⟨j,rfl,ale,a5⟩ dC
 have a0:=dC 0 (by kernel_rfl);have a1:=dC 1 (by kernel_rfl)
 simp only[go_sem, ↓reduceIte,Nat.reduceEqDiff,Nat.reduceAdd,Nat.reduceSub,Nat.reduceLeDiff,reduceCtorEq,gR]at a0 a1
 clear dC
 by_cases hj:(j:Int)<(L.length:Int)
 ·have cD:∀{e:Env},(e 5=.int .i64 (IntKind.i64.wrap ((j:Int)+1)))->∃m0,m0<(L.length)-j/\∃j:Nat,m0=(L.length)-j/\j<=(L.length)/\e 5=.int .i64 (j:Int):=fun x1=>⟨_,by omega,j+1,rfl,by omega,(by rw[x1,az (by omega)])⟩
  have gW:j<L.length:=by omega
  have eT:(L.map fM)[j]? =some (fM L[j]):=by simp[gW]
  have hh:=JS L[j]
  rw[fM]at eT hh
  generalize L[j]=x at eT hh
  (repeat(first|((repeat(revert hN;revert N;apply Pn.out));refine wk (tw @a5 (tw @a0 (tw @a1 (tw @hj (tw @eT @gR))))) ?_;(repeat(refine Pn.mk ?_;intro N hN)))|((try apply Or.inl);refine⟨_,aw.x (hh) (sd (tw @a5 (tw @a0 (tw @a1 (tw @hj (tw @eT @gR)))))),?_⟩;refine hN _ _ ?_;clear hN N)))
  exact cD (sd (tw @a5 (tw @a0 (tw @a1 @gR))))
 ·have gW:j=L.length:=by omega
  subst gW
  (try((repeat(revert hN;revert N;apply Pn.out));refine wk (tw @a5 (tw @a0 (tw @a1 (tw @hj @gR)))) ?_;(repeat(refine Pn.mk ?_;intro N hN))))
  exact bp (b:=true) (.inl rfl) (sd @Nat.zero_add) rfl
theorem zV {L:List jn} {v w:AV} (hv:k5 fM L v) (hw:k5 fM L w):aw Tryz.prog 37 [v,w] (.bool true):=
 (MJ L).cut mixed (hv.cut (hw.cut .nil))
theorem NJ (PI:aM->eB->List jn×Int)
  (T6:∀s a,gJ s.aC->tU s->a.aj.length<=1048576->∃w0,k5 fM (PI s a).1 w0/\k8 Tryz.prog 35 [.agg (aE s),.agg (bd a)] (.iA [w0,.int .i64 (PI s a).2]))
  (TI:∀s a,gJ s.aC->tU s->a.aj.length<=1048576->∀n:Nat,Call Tryz.prog 36 [.agg (aE s),.agg (bd a)] ⟨fun _=>none,n⟩ (fun r σ'=>∃ids,(∃v0 i0,r=.iA [v0,.int .i64 (PI s a).2]/\jM σ'.get v0 (PI s a).1 i0/\ids=i0)/\eE n σ'.next ids))
  (O8:∀s a,gJ s.aC->tU s->a.aj.length<=1048576->((PI s a).1.map jh).sum<=1099511627776)
  (s:aM) (a:eB) (hn:gJ s.aC):aw Tryz.prog 6 [.agg (aE s),.agg (bd a)] (.bool true):=by
 refine aw.body eK rfl fun hl n0=>?_
 clear hl
 have h1:=FH s 1048576 (by omega) (by omega) hn
 by_cases Sc:((xP s:Nat):Int)<=1048576
 ·rw[iF Sc]at h1
  have HI:¬(1048576:Int)-((xP s:Nat):Int)<0:=by omega
  have h2:=sS a (1048576-((xP s:Nat):Int)) (by omega) (by omega)
  by_cases Ce:((a.aj.length:Nat):Int)<=1048576-((xP s:Nat):Int)
  ·rw[iF Ce]at h2
   have Qv:¬(1048576:Int)-((xP s:Nat):Int)-((a.aj.length:Nat):Int)<0:=by omega
   have sm:=IG (s:=s) (by omega)
   have ma:a.aj.length<=1048576:=by omega
   have t1:=FM s sm
   have t2:=sW a ma
   obtain⟨w0,Jb,r1⟩:=T6 s a hn sm ma
   have r2:=TI s a hn sm ma
   have q1:=Eg s
   have q2:=zU a
   have Qo:=O8 s a hn sm ma
   obtain⟨L0,hR0⟩:∃R,(PI s a).1=R:=⟨_,rfl⟩
   obtain⟨c1,Ti⟩:∃R,(PI s a).2=R:=⟨_,rfl⟩
   simp only[hR0,Ti]at r1 r2 Jb Qo
   have o1:=fun σ=>FL s sm σ
   rw[aE]at o1
   have o2:=fun σ=>sV a ma σ
   rw[bd]at o2
   have L1:decide (c1=c1)=true:=by simp
   rw[aE]at h1
   rw[bd]at h2
   (repeat(first|((repeat(revert hN;revert N;apply Pn.out));refine wk (tw @aE.eq_1 (tw @bd.eq_1 (tw @HI @Qv))) ?_;(repeat(refine Pn.mk ?_;intro N hN)))|((try apply Or.inl);refine⟨_,aw.x (h1) (sd (tw @aE.eq_1 (tw @bd.eq_1 (tw @HI @Qv)))),?_⟩;refine hN _ _ ?_;clear hN N)|((try apply Or.inl);refine⟨_,aw.x (h2) (sd (tw @aE.eq_1 (tw @bd.eq_1 (tw @HI @Qv)))),?_⟩;refine hN _ _ ?_;clear hN N)))
   refine⟨_,k8.x (by rw[aE]at t1;exact t1) _,?_⟩
   refine hN _ _ ?_
   clear hN N
   (try((repeat(revert hN;revert N;apply Pn.out));refine wk (tw @aE.eq_1 @bd.eq_1) ?_;(repeat(refine Pn.mk ?_;intro N hN))))
   refine⟨_,k8.x (by rw[bd]at t2;exact t2) _,?_⟩
   refine hN _ _ ?_
   clear hN N
   (try((repeat(revert hN;revert N;apply Pn.out));refine wk @Nat.zero_add ?_;(repeat(refine Pn.mk ?_;intro N hN))))
   refine⟨_,k8.x (by rw[aE,bd]at r1;exact r1) _,?_⟩
   refine hN _ _ ?_
   clear hN N
   (try((repeat(revert hN;revert N;apply Pn.out));refine wk @Nat.zero_add ?_;(repeat(refine Pn.mk ?_;intro N hN))))
   refine .inr (aJ _ _ _ _ _ (fun r' σ1 hq=>?_) (o1 _))
   obtain⟨is,Hs,Ns,Ks⟩:=hq
   obtain⟨g1,x1⟩:=σ1
   (try dsimp only at Hs Ns Ks)
   obtain⟨As,Bs,Cs,j1s,j2s,j3s,rfl,hAs,Du,hCs,-⟩:=Hs.ex
   obtain⟨oAs,rfl⟩:=hAs.ll
   obtain⟨oBs,rfl⟩:=Du.ll
   obtain⟨oCs,rfl⟩:=hCs.ll
   clear hAs Du hCs
   have ns:=Ks.1
   have bs:=Ns.2
   (try dsimp only at ns bs)
   have P0:=Ks.2 ⟨6000000,n0⟩ (by(try dsimp only);omega)
   have P3:=Ks.2 ⟨6000001,n0⟩ (by(try dsimp only);omega)
   simp only[go_sem, ↓reduceIte,Nat.reduceEqDiff,Nat.reduceAdd,Nat.reduceSub,Nat.reduceLeDiff,reduceCtorEq]at P0 P3
   clear Ks
   refine hN _ _ ?_
   clear hN N
   (try((repeat(revert hN;revert N;apply Pn.out));refine wk (tw @P0 @P3) ?_;(repeat(refine Pn.mk ?_;intro N hN))))
   refine .inr (aJ _ _ _ _ _ (fun r' σ2 hq=>?_) (o2 _))
   obtain⟨ia,Ha,Na,Ka⟩:=hq
   obtain⟨g2,x2⟩:=σ2
   (try dsimp only at Ha Na Ka)
   obtain⟨Da,hDa⟩:=Ha
   obtain⟨rfl,Wu⟩:=hDa
   obtain⟨oDa,rfl⟩:=Wu.ll
   have Ha:zD g2 (.agg [.own oDa 0 a.aj.length]) a ia:=⟨_,rfl,Wu⟩
   clear Wu
   have na:=Ka.1
   have ba:=Na.2
   (try dsimp only at na ba)
   have R7:∀i:Id,i.br<x1->g2 i=g1 i:=fun i hi=>by
    have h4:=Ka.2 i (by(try dsimp only);omega)
    have h5:=dr (i:=i) (n:=x1) hi
    simp only[go_sem, ↓reduceIte,Nat.reduceEqDiff,Nat.reduceAdd,Nat.reduceSub,Nat.reduceLeDiff,reduceCtorEq,h5]at h4
    exact h4
   have SX:=(R7 ⟨6000000,n0⟩ (by(try dsimp only);omega)).trans P0
   have SY:=(R7 ⟨6000001,n0⟩ (by(try dsimp only);omega)).trans P3
   have P4:=Ka.2 ⟨6009002,x1⟩ (by(try dsimp only);omega)
   simp only[go_sem, ↓reduceIte,Nat.reduceEqDiff,Nat.reduceAdd,Nat.reduceSub,Nat.reduceLeDiff,reduceCtorEq]at P4
   have Hs:=Hs.frame (g':=g2) fun i hi=>R7 i (by have:=bs i hi;omega)
   clear Ka
   refine hN _ _ ?_
   clear hN N
   (try((repeat(revert hN;revert N;apply Pn.out));refine wk (tw @SX (tw @SY @P4)) ?_;(repeat(refine Pn.mk ?_;intro N hN))))
   refine .inr (aJ _ _ _ _ _ (fun r' σ3 hq=>?_) (G1 mixed (K:=fun r g ids=>(∃v0 i0,r=.iA [v0,.int .i64 c1]/\jM g v0 L0 i0/\ids=i0)) (by
    rintro r g ids ⟨v0,i0,rfl,k0,rfl⟩
    exact⟨by simp[D9,Hh k0.clean,D8,BP],(k0.hand)⟩) (by
    rintro r g g' ids ⟨v0,i0,rfl,k0,rfl⟩ hf
    exact⟨v0,ids,rfl,k0.frame (fun i hi=>hf i (by simp[hi])),rfl⟩) r2 (S8 ((Hs.frame fun i hi=>by
    have h5:=dr (i:=i) (n:=x2) (by have:=bs i hi;omega)
    simp only[go_sem, ↓reduceIte,Nat.reduceEqDiff,Nat.reduceAdd,Nat.reduceSub,Nat.reduceLeDiff,reduceCtorEq,h5]).fz 1) ((Ha.frame fun i hi=>by
    have h5:=dr (i:=i) (n:=x2) (by have:=ba i hi;omega)
    simp only[go_sem, ↓reduceIte,Nat.reduceEqDiff,Nat.reduceAdd,Nat.reduceSub,Nat.reduceLeDiff,reduceCtorEq,h5]).fz 2))))
   obtain⟨iZ,⟨v0,iZ0,rfl,Z0,rfl⟩,NZ,KZ⟩:=hq
   obtain⟨g3,x3⟩:=σ3
   (try dsimp only at Z0 NZ KZ)
   have nZ:=KZ.1
   (try dsimp only at nZ)
   have N0:=NZ
   have b0:=N0.2
   (try dsimp only at b0)
   have J2:∀i:Id,i.br<x2->g3 i=g2 i:=fun i hi=>by
    have h4:=KZ.2 i (by(try dsimp only);omega)
    have h5:=dr (i:=i) (n:=x2) hi
    simp only[go_sem, ↓reduceIte,Nat.reduceEqDiff,Nat.reduceAdd,Nat.reduceSub,Nat.reduceLeDiff,reduceCtorEq,h5]at h4
    exact h4
   have Eh:=(J2 ⟨6000000,n0⟩ (by(try dsimp only);omega)).trans SX
   have Ei:=(J2 ⟨6000001,n0⟩ (by(try dsimp only);omega)).trans SY
   have Hy:=(J2 ⟨6009002,x1⟩ (by(try dsimp only);omega)).trans P4
   have BW:=KZ.2 ⟨6010002,x2⟩ (by(try dsimp only);omega)
   simp only[go_sem, ↓reduceIte,Nat.reduceEqDiff,Nat.reduceAdd,Nat.reduceSub,Nat.reduceLeDiff,reduceCtorEq]at BW
   have Hs:=Hs.frame (g':=g3) fun i hi=>J2 i (by have:=bs i hi;omega)
   have Ha:=Ha.frame (g':=g3) fun i hi=>J2 i (by have:=ba i hi;omega)
   clear KZ
   refine hN _ _ ?_
   clear hN N
   (try((repeat(revert hN;revert N;apply Pn.out));refine wk (tw @Eh (tw @Ei (tw @Hy @BW))) ?_;(repeat(refine Pn.mk ?_;intro N hN))))
   refine .inl ⟨_,aw.x (zV Z0.Ib Jb) (xM ((Z0.frame fun i hi=>by
    have h5:=dr (i:=i) (n:=x3) (by have:=b0 i hi;omega)
    simp only[go_sem, ↓reduceIte,Nat.reduceEqDiff,Nat.reduceAdd,Nat.reduceSub,Nat.reduceLeDiff,reduceCtorEq,h5]).MN) (Jb.fz _)),?_⟩
   refine hN _ _ ?_
   clear hN N
   (try((repeat(revert hN;revert N;apply Pn.out));refine wk (tw @Eh (tw @Ei (tw @Hy (tw @BW @L1)))) ?_;(repeat(refine Pn.mk ?_;intro N hN))))
   refine⟨_,k8.x (by rw[aE]at t1;exact t1) _,?_⟩
   refine hN _ _ ?_
   clear hN N
   (try((repeat(revert hN;revert N;apply Pn.out));refine wk (tw @Eh (tw @Ei (tw @Hy (tw @BW @L1)))) ?_;(repeat(refine Pn.mk ?_;intro N hN))))
   refine⟨_,aw.x (by rw[aE]at q1;exact q1) (by rw[<-aE];exact Ot (Hs.frame fun i hi=>by
    have h5:=dr (i:=i) (n:=x3) (by have:=bs i hi;omega)
    simp only[go_sem, ↓reduceIte,Nat.reduceEqDiff,Nat.reduceAdd,Nat.reduceSub,Nat.reduceLeDiff,reduceCtorEq,h5]) (F8 _ _)),?_⟩
   refine hN _ _ ?_
   clear hN N
   (try((repeat(revert hN;revert N;apply Pn.out));refine wk (tw @Eh (tw @Ei (tw @Hy (tw @BW @L1)))) ?_;(repeat(refine Pn.mk ?_;intro N hN))))
   refine⟨_,k8.x (by rw[bd]at t2;exact t2) _,?_⟩
   refine hN _ _ ?_
   clear hN N
   (try((repeat(revert hN;revert N;apply Pn.out));refine wk (tw @Eh (tw @Ei (tw @Hy (tw @BW @L1)))) ?_;(repeat(refine Pn.mk ?_;intro N hN))))
   refine⟨_,aw.x (by rw[bd]at q2;exact q2) (by rw[<-bd];exact Ms (Ha.frame fun i hi=>by
    have h5:=dr (i:=i) (n:=x3) (by have:=ba i hi;omega)
    simp only[go_sem, ↓reduceIte,Nat.reduceEqDiff,Nat.reduceAdd,Nat.reduceSub,Nat.reduceLeDiff,reduceCtorEq,h5]) (F7 _ _)),?_⟩
   refine hN _ _ ?_
   clear hN N
   (try((repeat(revert hN;revert N;apply Pn.out));refine wk (tw @Eh (tw @Ei (tw @Hy (tw @BW @L1)))) ?_;(repeat(refine Pn.mk ?_;intro N hN))))
   have QJ:=NO s
   refine .inr (aJ _ _ _ _ _ (fun r' σ4 hq=>?_) (Ii _ s _ 1 (by omega) sm.s.t (by omega) _ (fun i hi=>by have:=bs i hi;(try dsimp only);omega) Ns.1 (Hs.frame fun i hi=>by
    have h5:=dr (i:=i) (n:=x3) (by have:=bs i hi;omega)
    simp only[go_sem, ↓reduceIte,Nat.reduceEqDiff,Nat.reduceAdd,Nat.reduceSub,Nat.reduceLeDiff,reduceCtorEq,h5])))
   obtain⟨rfl,hM⟩:=hq
   obtain⟨g4,x4⟩:=σ4
   (try dsimp only at hM)
   have nM4:=hM.1
   (try dsimp only at nM4)
   have S6:∀i:Id,i.br<x3->i∉is->g4 i=g3 i:=fun i hi hx=>hM.2 i (by(try dsimp only);omega) hx
   have SZ:=(S6 ⟨6000000,n0⟩ (by(try dsimp only);omega) (Ns.not (by(try dsimp only);omega))).trans Eh
   have S3:=(S6 ⟨6000001,n0⟩ (by(try dsimp only);omega) (Ns.not (by(try dsimp only);omega))).trans Ei
   have Wf:=(S6 ⟨6010002,x2⟩ (by(try dsimp only);omega) (Ns.not (by(try dsimp only);omega))).trans BW
   have Ha:=Ha.frame (g':=g4) fun i hi=>S6 i (by have:=ba i hi;omega) (Ns.not (by have:=ba i hi;omega))
   have Z0:=Z0.frame (g':=g4) fun i hi=>S6 i (by have:=b0 i hi;omega) (Ns.not (by have:=b0 i hi;omega))
   clear hM
   refine hN _ _ ?_
   clear hN N
   (try((repeat(revert hN;revert N;apply Pn.out));refine wk (tw @SZ (tw @S3 @Wf)) ?_;(repeat(refine Pn.mk ?_;intro N hN))))
   refine .inr (aJ _ _ _ _ _ (fun r' σ5 hq=>?_) (zf _ a _ (1+CL s) (by omega) (by omega) _ (fun i hi=>by have:=ba i hi;(try dsimp only);omega) Ha))
   obtain⟨rfl,hM⟩:=hq
   obtain⟨g5,x5⟩:=σ5
   (try dsimp only at hM)
   have nM5:=hM.1
   (try dsimp only at nM5)
   have Wi:∀i:Id,i.br<x4->i∉ia->g5 i=g4 i:=fun i hi hx=>hM.2 i (by(try dsimp only);omega) hx
   have P5:=(Wi ⟨6000000,n0⟩ (by(try dsimp only);omega) (Na.not (by(try dsimp only);omega))).trans SZ
   have P6:=(Wi ⟨6000001,n0⟩ (by(try dsimp only);omega) (Na.not (by(try dsimp only);omega))).trans S3
   have Z0:=Z0.frame (g':=g5) fun i hi=>Wi i (by have:=b0 i hi;omega) (Na.not (by have:=b0 i hi;omega))
   clear hM
   have e3:decide (1+((CL s:Nat):Int)+3*(a.aj.length:Int)<0)=false:=decide_eq_false (by omega)
   refine hN _ _ ?_
   clear hN N
   (try((repeat(revert hN;revert N;apply Pn.out));refine wk (tw @P5 (tw @P6 @e3)) ?_;(repeat(refine Pn.mk ?_;intro N hN))))
   refine .inl ⟨_,aw.x (zV Z0.Ib Jb) (xM (Z0.MN) (Jb.fz _)),?_⟩
   refine hN _ _ ?_
   clear hN N
   (try((repeat(revert hN;revert N;apply Pn.out));refine wk (tw @P5 (tw @P6 (tw @L1 @e3))) ?_;(repeat(refine Pn.mk ?_;intro N hN))))
   refine .inr (aJ _ _ _ _ _ (fun r' σ6 hq=>?_) (Ie 1 (by omega) (by omega) _ (fun i hi=>by have:=b0 i hi;(try dsimp only);omega) N0.1 Z0))
   obtain⟨rfl,hM,Y0⟩:=hq
   obtain⟨g6,x6⟩:=σ6
   (try dsimp only at hM Y0)
   have nM6:=hM.1
   (try dsimp only at nM6)
   have fr6:∀i:Id,i.br<x5->i∉iZ->g6 i=g5 i:=fun i hi hx=>hM.2 i (by(try dsimp only);omega) hx
   have Ej:=(fr6 ⟨6000000,n0⟩ (by(try dsimp only);omega) (N0.not (by(try dsimp only);omega))).trans P5
   have Ek:=(fr6 ⟨6000001,n0⟩ (by(try dsimp only);omega) (N0.not (by(try dsimp only);omega))).trans P6
   clear hM
   refine hN _ _ ?_
   clear hN N
   (try((repeat(revert hN;revert N;apply Pn.out));refine wk (tw @Ej @Ek) ?_;(repeat(refine Pn.mk ?_;intro N hN))))
   have UU:decide (1+(((L0.map jh).sum:Nat):Int)<0)=false:=decide_eq_false (by omega)
   refine .inl ⟨_,aw.x (yW 1 L0 (by omega) (by omega) Y0.Ib) (xM (Y0.MN) (aH _ _ _ _)),?_⟩
   refine hN _ _ ?_
   clear hN N
   have e5:decide (1+(((L0.map jh).sum:Nat):Int)=1+(((L0.map jh).sum:Nat):Int))=true:=decide_eq_true rfl
   (try((repeat(revert hN;revert N;apply Pn.out));refine wk (tw @Ej (tw @Ek (tw @UU @e5))) ?_;(repeat(refine Pn.mk ?_;intro N hN))))
   refine⟨_,k8.x (by rw[aE]at t1;exact t1) _,?_⟩
   refine hN _ _ ?_
   clear hN N
   (try((repeat(revert hN;revert N;apply Pn.out));refine wk (tw @Ej (tw @Ek (tw @UU @e5))) ?_;(repeat(refine Pn.mk ?_;intro N hN))))
   refine⟨_,k8.x (by rw[bd]at t2;exact t2) _,?_⟩
   refine hN _ _ ?_
   clear hN N
   (try((repeat(revert hN;revert N;apply Pn.out));refine wk (tw @Ej (tw @Ek (tw @UU @e5))) ?_;(repeat(refine Pn.mk ?_;intro N hN))))
   have rs:aw Tryz.prog 36 [.agg (aE s),.agg (bd a)] (.iA [Rf fM L0,.int .i64 c1]):=fun n=>aJ _ _ _ _ _ (fun r σ' hq=>by
    obtain⟨ids,⟨v0,i0,rfl,k0,rfl⟩,-⟩:=hq
    exact⟨_,by simp only[fF,bV,cY,Gi,k0.s,eL,fP,Option.map_some]<;>rfl,rfl⟩) (r2 n)
   refine⟨_,aw.x (by rw[aE,bd]at rs;exact rs) (S8 (by rw[<-aE];exact F8 _ _) (by rw[<-bd];exact F7 _ _)),?_⟩
   refine hN _ _ ?_
   clear hN N
   have I8:=(KT (e:=fM) (L:=L0))
   generalize Rf fM L0=u0 at I8 ⊢
   (try((repeat(revert hN;revert N;apply Pn.out));refine wk (tw @Ej (tw @Ek @L1)) ?_;(repeat(refine Pn.mk ?_;intro N hN))))
   refine .inl ⟨_,aw.x (zV I8 Jb) (xM (I8.fz _) (Jb.fz _)),?_⟩
   refine hN _ _ ?_
   clear hN N
   (try((repeat(revert hN;revert N;apply Pn.out));refine wk (tw @Ej (tw @Ek @L1)) ?_;(repeat(refine Pn.mk ?_;intro N hN))))
   refine .inl ⟨_,aw.x (yW 1 L0 (by omega) (by omega) Y0.Ib) (xM ((Y0.frame fun i hi=>by
    have h5:=dr (i:=i) (n:=x6) (by have:=b0 i hi;omega)
    simp only[go_sem, ↓reduceIte,Nat.reduceEqDiff,Nat.reduceAdd,Nat.reduceSub,Nat.reduceLeDiff,reduceCtorEq,h5]).MN) (aH _ _ _ _)),?_⟩
   refine hN _ _ ?_
   clear hN N
   (try((repeat(revert hN;revert N;apply Pn.out));refine wk (tw @Ej (tw @Ek (tw @UU @e5))) ?_;(repeat(refine Pn.mk ?_;intro N hN))))
   exact bp (b:=true) (.inl rfl) (sd @Nat.zero_add) rfl
  ·rw[iN Ce]at h2
   rw[aE]at h1
   rw[bd]at h2
   (repeat(first|((repeat(revert hN;revert N;apply Pn.out));refine wk (tw @aE.eq_1 (tw @bd.eq_1 @HI)) ?_;(repeat(refine Pn.mk ?_;intro N hN)))|((try apply Or.inl);refine⟨_,aw.x (h1) (sd (tw @aE.eq_1 (tw @bd.eq_1 @HI))),?_⟩;refine hN _ _ ?_;clear hN N)|((try apply Or.inl);refine⟨_,aw.x (h2) (sd (tw @aE.eq_1 (tw @bd.eq_1 @HI))),?_⟩;refine hN _ _ ?_;clear hN N)))
   exact bp (b:=true) (.inl rfl) (sd @Nat.zero_add) rfl
 ·rw[iN Sc]at h1
  rw[aE]at h1
  (repeat(first|((repeat(revert hN;revert N;apply Pn.out));refine wk (tw @aE.eq_1 @bd.eq_1) ?_;(repeat(refine Pn.mk ?_;intro N hN)))|((try apply Or.inl);refine⟨_,aw.x (h1) (sd (tw @aE.eq_1 @bd.eq_1)),?_⟩;refine hN _ _ ?_;clear hN N)))
  exact bp (b:=true) (.inl rfl) (sd @Nat.zero_add) rfl
def iP (n lo hi:Int):Bool:=decide (lo<=n)&&decide (n<=hi)
theorem eD {n lo hi:Int} (h:iP n lo hi=true):lo<=n/\n<=hi:=by simpa[iP]using h
theorem jy {n lo hi:Int} (h:lo<=n/\n<=hi):iP n lo hi=true:=by simpa[iP]using h
def AK (p:ar):Bool:=iP p.eM (-60) 60&&iP p.eG (-60) 60
theorem l8 (n lo hi:Int):aw Tryz.prog 95 [.int .i64 n,.int .i64 lo,.int .i64 hi] (.bool (iP n lo hi)):=by
 refine aw.body eK rfl fun hl n0=>?_
 clear hl
 by_cases h1:lo<=n
 ·(try((repeat(revert hN;revert N;apply Pn.out));refine wk @h1 ?_;(repeat(refine Pn.mk ?_;intro N hN))))
  exact bp (b:=decide (n<=hi)) (.inl rfl) (sd @Nat.zero_add) (by simp[iP,h1])
 ·(try((repeat(revert hN;revert N;apply Pn.out));refine wk @h1 ?_;(repeat(refine Pn.mk ?_;intro N hN))))
  exact bp (b:=false) (.inl rfl) (sd @Nat.zero_add) (by simp[iP,h1])
theorem lJ (n lo hi:Int):aw Tryz.prog 98 [.int .i64 n,.int .i64 lo,.int .i64 hi] (.bool (iP n lo hi)):=by
 refine aw.body eK rfl fun hl n0=>?_
 clear hl
 by_cases h1:lo<=n
 ·(try((repeat(revert hN;revert N;apply Pn.out));refine wk @h1 ?_;(repeat(refine Pn.mk ?_;intro N hN))))
  exact bp (b:=decide (n<=hi)) (.inl rfl) (sd @Nat.zero_add) (by simp[iP,h1])
 ·(try((repeat(revert hN;revert N;apply Pn.out));refine wk @h1 ?_;(repeat(refine Pn.mk ?_;intro N hN))))
  exact bp (b:=false) (.inl rfl) (sd @Nat.zero_add) (by simp[iP,h1])
theorem KD (d:Int):aw Tryz.prog 278 [.int .i64 d] (.bool (iP d 0 3)):=by
 refine aw.body eK rfl fun hl n0=>?_
 clear hl
 have h:=l8 d 0 3
 (repeat(first|((repeat(revert hN;revert N;apply Pn.out));refine wk @Nat.zero_add ?_;(repeat(refine Pn.mk ?_;intro N hN)))|((try apply Or.inl);refine⟨_,aw.x (h) (sd @Nat.zero_add),?_⟩;refine hN _ _ ?_;clear hN N)))
 exact bp (b:=iP d 0 3) (.inl rfl) (sd @Nat.zero_add) rfl
theorem wP (p:ar):aw Tryz.prog 222 [.agg (ai p)] (.bool (AK p)):=by
 refine aw.body eK rfl fun hl n0=>?_
 clear hl
 have h1:=l8 p.eM (-60) 60
 have h2:=l8 p.eG (-60) 60
 by_cases q:iP p.eM (-60) 60=true
 ·rw[q]at h1
  (repeat(first|((repeat(revert hN;revert N;apply Pn.out));refine wk @ai.eq_1 ?_;(repeat(refine Pn.mk ?_;intro N hN)))|((try apply Or.inl);refine⟨_,aw.x (h1) (sd @ai.eq_1),?_⟩;refine hN _ _ ?_;clear hN N)|((try apply Or.inl);refine⟨_,aw.x (h2) (sd @ai.eq_1),?_⟩;refine hN _ _ ?_;clear hN N)))
  exact bp (b:=iP p.eG (-60) 60) (.inl rfl) (sd @Nat.zero_add) (by rw[AK,q];rfl)
 ·rw[Bool.not_eq_true]at q
  rw[q]at h1
  (repeat(first|((repeat(revert hN;revert N;apply Pn.out));refine wk @ai.eq_1 ?_;(repeat(refine Pn.mk ?_;intro N hN)))|((try apply Or.inl);refine⟨_,aw.x (h1) (sd @ai.eq_1),?_⟩;refine hN _ _ ?_;clear hN N)|((try apply Or.inl);refine⟨_,aw.x (h2) (sd @ai.eq_1),?_⟩;refine hN _ _ ?_;clear hN N)))
  exact bp (b:=false) (.inl rfl) (sd @Nat.zero_add) (by rw[AK,q];rfl)
theorem rV (p:ar):aw Tryz.prog 256 [.agg (ai p)] (.bool (AK p)):=by
 refine aw.body eK rfl fun hl n0=>?_
 clear hl
 have h1:=lJ p.eM (-60) 60
 have h2:=lJ p.eG (-60) 60
 by_cases q:iP p.eM (-60) 60=true
 ·rw[q]at h1
  (repeat(first|((repeat(revert hN;revert N;apply Pn.out));refine wk @ai.eq_1 ?_;(repeat(refine Pn.mk ?_;intro N hN)))|((try apply Or.inl);refine⟨_,aw.x (h1) (sd @ai.eq_1),?_⟩;refine hN _ _ ?_;clear hN N)|((try apply Or.inl);refine⟨_,aw.x (h2) (sd @ai.eq_1),?_⟩;refine hN _ _ ?_;clear hN N)))
  exact bp (b:=iP p.eG (-60) 60) (.inl rfl) (sd @Nat.zero_add) (by rw[AK,q];rfl)
 ·rw[Bool.not_eq_true]at q
  rw[q]at h1
  (repeat(first|((repeat(revert hN;revert N;apply Pn.out));refine wk @ai.eq_1 ?_;(repeat(refine Pn.mk ?_;intro N hN)))|((try apply Or.inl);refine⟨_,aw.x (h1) (sd @ai.eq_1),?_⟩;refine hN _ _ ?_;clear hN N)|((try apply Or.inl);refine⟨_,aw.x (h2) (sd @ai.eq_1),?_⟩;refine hN _ _ ?_;clear hN N)))
  exact bp (b:=false) (.inl rfl) (sd @Nat.zero_add) (by rw[AK,q];rfl)
def kT (d:Int):Int:=if iP d 0 3 then(d+2) % 4 else -1
def bB (p:ar) (d:Int):ar:=
 if d=0 then⟨p.eM,p.eG+1⟩else if d=1 then⟨p.eM+1,p.eG⟩else if d=2 then⟨p.eM,p.eG-1⟩else if d=3 then⟨p.eM-1,p.eG⟩else p
def iB (n:Int):Prop:=-4611686018427387904<=n/\n<=4611686018427387904
theorem tC (p:ar) (d:Int) (hd:iP d 0 3=true) (hx:iB p.eM) (hy:iB p.eG):aw Tryz.prog 221 [.agg (ai p),.int .i64 d] (.agg (ai (bB p d))):=by
 refine aw.body eK rfl fun hl n0=>?_
 clear hl
 obtain⟨x1,x2⟩:=hx
 obtain⟨y1,y2⟩:=hy
 have w1:IntKind.i64.wrap (p.eM+1)=p.eM+1:=bK (by omega)
 have w2:IntKind.i64.wrap (p.eM-1)=p.eM-1:=bK (by omega)
 have w3:IntKind.i64.wrap (p.eG+1)=p.eG+1:=bK (by omega)
 have w4:IntKind.i64.wrap (p.eG-1)=p.eG-1:=bK (by omega)
 have hb:=eD hd
 have hc:d=0∨d=1∨d=2∨d=3:=by omega
 rcases hc with rfl|rfl|rfl|rfl
 ·(try((repeat(revert hN;revert N;apply Pn.out));refine wk (tw @ai.eq_1 @w3) ?_;(repeat(refine Pn.mk ?_;intro N hN))))
  exact pr (.inl rfl) (vs:=[.agg (ai (bB p 0))]) (by simp only[go_sem, ↓reduceIte,Nat.reduceEqDiff,Nat.reduceAdd,Nat.reduceSub,Nat.reduceLeDiff,reduceCtorEq,fR,iK,ai,bB]) (by simp[fx,ai,gq,er])
 ·(try((repeat(revert hN;revert N;apply Pn.out));refine wk (tw @ai.eq_1 @w1) ?_;(repeat(refine Pn.mk ?_;intro N hN))))
  exact pr (.inl rfl) (vs:=[.agg (ai (bB p 1))]) (by simp[fR,iK,ai,bB,ld,rowAt,bL,upd,part]) (by simp[fx,ai,gq,er])
 ·(try((repeat(revert hN;revert N;apply Pn.out));refine wk (tw @ai.eq_1 @w4) ?_;(repeat(refine Pn.mk ?_;intro N hN))))
  exact pr (.inl rfl) (vs:=[.agg (ai (bB p 2))]) (by simp[fR,iK,ai,bB,ld,rowAt,bL,upd,part]) (by simp[fx,ai,gq,er])
 ·(try((repeat(revert hN;revert N;apply Pn.out));refine wk (tw @ai.eq_1 @w2) ?_;(repeat(refine Pn.mk ?_;intro N hN))))
  exact pr (.inl rfl) (vs:=[.agg (ai (bB p 3))]) (by simp[fR,iK,ai,bB,ld,rowAt,bL,upd,part]) (by simp[fx,ai,gq,er])
theorem AJ (p p2:ar) (x y:Int) (hx:IntKind.i64.wrap (p.eM+p2.eM)=x) (hy:IntKind.i64.wrap (p.eG+p2.eG)=y):aw Tryz.prog 280 [.agg (ai p),.agg (ai p2)] (.agg [.int .i64 x,.int .i64 y]):=by
 refine aw.body eK rfl fun hl n0=>?_
 clear hl
 (try((repeat(revert hN;revert N;apply Pn.out));refine wk (tw @ai.eq_1 (tw @hx @hy)) ?_;(repeat(refine Pn.mk ?_;intro N hN))))
 exact pr (.inl rfl) (vs:=[.agg [.int .i64 x,.int .i64 y]]) (by simp only[go_sem, ↓reduceIte,Nat.reduceEqDiff,Nat.reduceAdd,Nat.reduceSub,Nat.reduceLeDiff,reduceCtorEq,fR,iK,ai]) (by simp[fx,gq,er])
theorem FC (p:ar) (d:Int) (hd:iP d 0 3=true) (hx:iB p.eM) (hy:iB p.eG):aw Tryz.prog 228 [.agg (ai p),.int .i64 d] (.agg (ai (bB p d))):=by
 refine aw.body eK rfl fun hl n0=>?_
 clear hl
 obtain⟨x1,x2⟩:=hx
 obtain⟨y1,y2⟩:=hy
 have hb:=eD hd
 have hc:d=0∨d=1∨d=2∨d=3:=by omega
 rcases hc with rfl|rfl|rfl|rfl
 ·have h:=AJ p ⟨0,1⟩ (p.eM) (p.eG+1) (by rw[bK (by constructor<;>simp only<;>omega)]<;>(try simp only)<;>(try omega)) (by rw[bK (by constructor<;>simp only<;>omega)]<;>(try simp only)<;>(try omega))
  simp only[ai]at h
  (repeat(first|((repeat(revert hN;revert N;apply Pn.out));refine wk @ai.eq_1 ?_;(repeat(refine Pn.mk ?_;intro N hN)))|((try apply Or.inl);refine⟨_,aw.x (h) (sd @ai.eq_1),?_⟩;refine hN _ _ ?_;clear hN N)))
  exact pr (.inl rfl) (vs:=[.agg (ai (bB p 0))]) (by simp[fR,iK,ai,bB,ld,rowAt,bL,upd,part]) (by simp[fx,ai,gq,er])
 ·have h:=AJ p ⟨1,0⟩ (p.eM+1) (p.eG) (by rw[bK (by constructor<;>simp only<;>omega)]<;>(try simp only)<;>(try omega)) (by rw[bK (by constructor<;>simp only<;>omega)]<;>(try simp only)<;>(try omega))
  simp only[ai]at h
  (repeat(first|((repeat(revert hN;revert N;apply Pn.out));refine wk @ai.eq_1 ?_;(repeat(refine Pn.mk ?_;intro N hN)))|((try apply Or.inl);refine⟨_,aw.x (h) (sd @ai.eq_1),?_⟩;refine hN _ _ ?_;clear hN N)))
  exact pr (.inl rfl) (vs:=[.agg (ai (bB p 1))]) (by simp[fR,iK,ai,bB,ld,rowAt,bL,upd,part]) (by simp[fx,ai,gq,er])
 ·have h:=AJ p ⟨0,(-1)⟩ (p.eM) (p.eG-1) (by rw[bK (by constructor<;>simp only<;>omega)]<;>(try simp only)<;>(try omega)) (by rw[bK (by constructor<;>simp only<;>omega)]<;>(try simp only)<;>(try omega))
  simp only[ai]at h
  (repeat(first|((repeat(revert hN;revert N;apply Pn.out));refine wk @ai.eq_1 ?_;(repeat(refine Pn.mk ?_;intro N hN)))|((try apply Or.inl);refine⟨_,aw.x (h) (sd @ai.eq_1),?_⟩;refine hN _ _ ?_;clear hN N)))
  exact pr (.inl rfl) (vs:=[.agg (ai (bB p 2))]) (by simp[fR,iK,ai,bB,ld,rowAt,bL,upd,part]) (by simp[fx,ai,gq,er])
 ·have h:=AJ p ⟨(-1),0⟩ (p.eM-1) (p.eG) (by rw[bK (by constructor<;>simp only<;>omega)]<;>(try simp only)<;>(try omega)) (by rw[bK (by constructor<;>simp only<;>omega)]<;>(try simp only)<;>(try omega))
  simp only[ai]at h
  (repeat(first|((repeat(revert hN;revert N;apply Pn.out));refine wk @ai.eq_1 ?_;(repeat(refine Pn.mk ?_;intro N hN)))|((try apply Or.inl);refine⟨_,aw.x (h) (sd @ai.eq_1),?_⟩;refine hN _ _ ?_;clear hN N)))
  exact pr (.inl rfl) (vs:=[.agg (ai (bB p 3))]) (by simp[fR,iK,ai,bB,ld,rowAt,bL,upd,part]) (by simp[fx,ai,gq,er])
theorem Fg (d:Int) (hd:iP d 0 3=true):aw Tryz.prog 304 [.int .i64 d] (.int .i64 (kT d)):=by
 refine aw.body eK rfl fun hl n0=>?_
 clear hl
 have hb:=eD hd
 have hw:IntKind.i64.wrap (d+2)=d+2:=bK (by omega)
 have ht:Int.tmod (d+2) 4=(d+2) % 4:=Int.tmod_eq_emod_of_nonneg (by omega)
 have h4:¬((4:Int)=0):=by omega
 (try((repeat(revert hN;revert N;apply Pn.out));refine wk (tw @hw (tw @ht @h4)) ?_;(repeat(refine Pn.mk ?_;intro N hN))))
 exact db (b:=(d+2) % 4) (.inl rfl) (sd @Nat.zero_add) (by rw[kT,if_pos hd])
theorem vL (d:Int) (hd:iP d 0 3=true):aw Tryz.prog 224 [.int .i64 d] (.int .i64 (kT d)):=by
 refine aw.body eK rfl fun hl n0=>?_
 clear hl
 have hb:=eD hd
 have hw:IntKind.i64.wrap (d+2)=d+2:=bK (by omega)
 have ht:Int.tmod (d+2) 4=(d+2) % 4:=Int.tmod_eq_emod_of_nonneg (by omega)
 have h4:¬((4:Int)=0):=by omega
 have h:=KD d
 rw[hd]at h
 (repeat(first|((repeat(revert hN;revert N;apply Pn.out));refine wk (tw @hw (tw @ht @h4)) ?_;(repeat(refine Pn.mk ?_;intro N hN)))|((try apply Or.inl);refine⟨_,aw.x (h) (sd (tw @hw (tw @ht @h4))),?_⟩;refine hN _ _ ?_;clear hN N)))
 exact db (b:=(d+2) % 4) (.inl rfl) (sd @Nat.zero_add) (by rw[kT,if_pos hd])
def eW (s:ax) (t:Int):Bool:=iP t 0 ((s.aj.length:Int)-1)
theorem E3 (s:ax) (t:Int):aw Tryz.prog 220 [.dp (aa s),.int .i64 t] (.bool (eW s t)):=by
 refine aw.body eK rfl fun hl n0=>?_
 have hn:s.aj.length<=9223372036854775807:=by
  have h1:=(hl (.dp (aa s)) (by simp)).CB (a:=.sl (s.aj.map bP)) (by simp[aa])
  simpa using h1.len
 clear hl
 have hw:IntKind.i64.wrap ((s.aj.length:Int)-1)=(s.aj.length:Int)-1:=bK (by omega)
 have h:=l8 t 0 ((s.aj.length:Int)-1)
 (repeat(first|((repeat(revert hN;revert N;apply Pn.out));refine wk (tw @aa.eq_1 @hw) ?_;(repeat(refine Pn.mk ?_;intro N hN)))|((try apply Or.inl);refine⟨_,aw.x (h) (sd (tw @aa.eq_1 @hw)),?_⟩;refine hN _ _ ?_;clear hN N)))
 exact bp (b:=eW s t) (.inl rfl) (by simp only[go_sem, ↓reduceIte,Nat.reduceEqDiff,Nat.reduceAdd,Nat.reduceSub,Nat.reduceLeDiff,reduceCtorEq,eW]) rfl
theorem y9 (t n:Int) (h0:0<=n) (h1:n<=9223372036854775807):aw Tryz.prog 257 [.int .i64 t,.int .i64 n] (.bool (iP t 0 (n-1))):=by
 refine aw.body eK rfl fun hl n0=>?_
 clear hl
 have hw:IntKind.i64.wrap (n-1)=n-1:=bK (by omega)
 have h:=lJ t 0 (n-1)
 (repeat(first|((repeat(revert hN;revert N;apply Pn.out));refine wk @hw ?_;(repeat(refine Pn.mk ?_;intro N hN)))|((try apply Or.inl);refine⟨_,aw.x (h) (sd @hw),?_⟩;refine hN _ _ ?_;clear hN N)))
 exact bp (b:=iP t 0 (n-1)) (.inl rfl) (sd @Nat.zero_add) rfl
theorem KA (s:ax) (t:Int):aw Tryz.prog 203 [.agg (aa s),.int .i64 t] (.bool (eW s t)):=by
 refine aw.body eK rfl fun hl n0=>?_
 have hn:s.aj.length<=9223372036854775807:=by
  have h1:=(hl (.agg (aa s)) (by simp)).PF (a:=.sl (s.aj.map bP)) (by simp[aa])
  simpa using h1.len
 clear hl
 have h:=y9 t s.aj.length (by omega) (by omega)
 (repeat(first|((repeat(revert hN;revert N;apply Pn.out));refine wk @aa.eq_1 ?_;(repeat(refine Pn.mk ?_;intro N hN)))|((try apply Or.inl);refine⟨_,aw.x (h) (sd @aa.eq_1),?_⟩;refine hN _ _ ?_;clear hN N)))
 exact bp (b:=eW s t) (.inl rfl) (by simp only[go_sem, ↓reduceIte,Nat.reduceEqDiff,Nat.reduceAdd,Nat.reduceSub,Nat.reduceLeDiff,reduceCtorEq,eW]) rfl
def AH:fc:=⟨⟨#[]⟩,[]⟩
def du (s:ax) (t:Int):fc:=s.aj.getD t.toNat AH
def dt (t:fc) (d:Int):Int:=t.bU.getD d.toNat 0
def re (s:ax) (g:Int):fS:=s.aB.getD g.toNat ⟨⟨#[]⟩,0⟩
def qq (s:ax) (g:Int):Int:=if g=0 then 0 else(re s (g-1)).eI
def ib (s:ax) (a d b:Int):Int:=if dt (du s a) d=dt (du s b) (kT d)then qq s (dt (du s a) d)else 0
structure je (s:ax):Prop where
 qF:∀t∈s.aj,t.bU.length=4
 uc:∀t∈s.aj,∀g∈t.bU,0<=g/\g<=s.aB.length
theorem getD_map {α β:Type} (e:α->β) {l:List α} {k:Nat} {d:α} (h:k<l.length):(l.map e)[k]? =some (e (l.getD k d)):=by simp[List.getD_eq_getElem?_getD,h]
theorem qz (s:ax) (g:Int) (h0:0<=g) (h1:g<=s.aB.length):aw Tryz.prog 225 [.dp (aa s),.int .i64 g] (.int .i64 (qq s g)):=by
 refine aw.body eK rfl fun hl n0=>?_
 have hn:s.aB.length<=9223372036854775807:=by
  have h1:=(hl (.dp (aa s)) (by simp)).CB (a:=.sl (s.aB.map ck)) (by simp[aa])
  simpa using h1.len
 clear hl
 by_cases hg:g=0
 ·have e:decide (g=0)=true:=decide_eq_true hg
  (try((repeat(revert hN;revert N;apply Pn.out));refine wk (tw @aa.eq_1 @e) ?_;(repeat(refine Pn.mk ?_;intro N hN))))
  exact db (b:=0) (.inl rfl) (sd @Nat.zero_add) (by rw[qq,if_pos hg])
 ·have e:decide (g=0)=false:=decide_eq_false hg
  have hw:IntKind.i64.wrap (g-1)=g-1:=bK (by omega)
  have rj:0<=g-1:=by omega
  have eT:(s.aB.map ck)[(g-1).toNat]? =some (ck (re s (g-1))):=getD_map ck (by omega)
  (try((repeat(revert hN;revert N;apply Pn.out));refine wk (tw @aa.eq_1 (tw @e (tw @hw (tw @rj (tw @eT @ck.eq_1))))) ?_;(repeat(refine Pn.mk ?_;intro N hN))))
  exact db (b:=(re s (g-1)).eI) (.inl rfl) (sd @Nat.zero_add) (by rw[qq,if_neg hg])
theorem ku {s:ax} {a:Int} (h:eW s a=true):0<=a/\(s.aj.map bP)[a.toNat]? =some (bP (du s a))/\du s a∈s.aj:=by
 have h':=eD h
 have eo:a.toNat<s.aj.length:=by omega
 refine⟨h'.1,getD_map bP eo,?_⟩
 unfold du
 rw[List.getD_eq_getElem?_getD,List.getElem?_eq_getElem eo]
 exact List.getElem_mem eo
theorem lG {t:fc} {d:Int} (h:t.bU.length=4) (hd:iP d 0 3=true):(t.bU.map aQ)[d.toNat]? =some [.int .i64 (dt t d)]:=by
 have:=eD hd
 exact getD_map aQ (by omega)
theorem xD {t:fc} {d:Int} (h:t.bU.length=4) (hd:iP d 0 3=true):dt t d∈t.bU:=by
 have:=eD hd
 have eo:d.toNat<t.bU.length:=by omega
 unfold dt
 rw[List.getD_eq_getElem?_getD,List.getElem?_eq_getElem eo]
 exact List.getElem_mem eo
theorem rI {d:Int} (hd:iP d 0 3=true):iP (kT d) 0 3=true:=by
 have:=eD hd
 refine jy ?_
 rw[kT,if_pos hd];omega
theorem HZ (s:ax) (hF:je s) (a d b:Int) (ha:eW s a=true) (hb:eW s b=true) (hd:iP d 0 3=true):aw Tryz.prog 190 [.dp (aa s),.int .i64 a,.int .i64 d,.int .i64 b] (.int .i64 (ib s a d b)):=by
 refine aw.body eK rfl fun hl n0=>?_
 clear hl
 obtain⟨a0,a1,a2⟩:=ku ha
 obtain⟨b0,b1,b2⟩:=ku hb
 have s1:=lG (hF.qF _ a2) hd
 have s2:=lG (hF.qF _ b2) (rI hd)
 have gl:=hF.uc _ a2 _ (xD (hF.qF _ a2) hd)
 have d0:=(eD hd).1
 have d1:=(eD (rI hd)).1
 have h:=vL d hd
 have hs:=qz s (dt (du s a) d) gl.1 gl.2
 rw[aa]at hs
 by_cases e:dt (du s a) d=dt (du s b) (kT d)
 ·have e':decide (dt (du s a) d=dt (du s b) (kT d))=true:=decide_eq_true e
  (repeat(first|((repeat(revert hN;revert N;apply Pn.out));refine wk (tw @aa.eq_1 (tw @bP.eq_1 (tw @a0 (tw @a1 (tw @b0 (tw @b1 (tw @s1 (tw @s2 (tw @d0 (tw @d1 @e')))))))))) ?_;(repeat(refine Pn.mk ?_;intro N hN)))|((try apply Or.inl);refine⟨_,aw.x (h) (sd (tw @aa.eq_1 (tw @bP.eq_1 (tw @a0 (tw @a1 (tw @b0 (tw @b1 (tw @s1 (tw @s2 (tw @d0 (tw @d1 @e'))))))))))),?_⟩;refine hN _ _ ?_;clear hN N)|((try apply Or.inl);refine⟨_,aw.x (hs) (sd (tw @aa.eq_1 (tw @bP.eq_1 (tw @a0 (tw @a1 (tw @b0 (tw @b1 (tw @s1 (tw @s2 (tw @d0 (tw @d1 @e'))))))))))),?_⟩;refine hN _ _ ?_;clear hN N)))
  exact db (b:=qq s (dt (du s a) d)) (.inl rfl) (sd @Nat.zero_add) (by rw[ib,if_pos e])
 ·have e':decide (dt (du s a) d=dt (du s b) (kT d))=false:=decide_eq_false e
  (repeat(first|((repeat(revert hN;revert N;apply Pn.out));refine wk (tw @aa.eq_1 (tw @bP.eq_1 (tw @a0 (tw @a1 (tw @b0 (tw @b1 (tw @s1 (tw @s2 (tw @d0 (tw @d1 @e')))))))))) ?_;(repeat(refine Pn.mk ?_;intro N hN)))|((try apply Or.inl);refine⟨_,aw.x (h) (sd (tw @aa.eq_1 (tw @bP.eq_1 (tw @a0 (tw @a1 (tw @b0 (tw @b1 (tw @s1 (tw @s2 (tw @d0 (tw @d1 @e'))))))))))),?_⟩;refine hN _ _ ?_;clear hN N)))
  exact db (b:=0) (.inl rfl) (sd @Nat.zero_add) (by rw[ib,if_neg e])
theorem FF (s:ax) (hF:je s) (a d:Int) (ha:eW s a=true) (hd:iP d 0 3=true):aw Tryz.prog 305 [.agg (aa s),.int .i64 a,.int .i64 d] (.int .i64 (qq s (dt (du s a) d))):=by
 refine aw.body eK rfl fun hl n0=>?_
 have hn:s.aB.length<=9223372036854775807:=by
  have h1:=(hl (.agg (aa s)) (by simp)).PF (a:=.sl (s.aB.map ck)) (by simp[aa])
  simpa using h1.len
 clear hl
 obtain⟨a0,a1,a2⟩:=ku ha
 have s1:=lG (hF.qF _ a2) hd
 have gl:=hF.uc _ a2 _ (xD (hF.qF _ a2) hd)
 have d0:=(eD hd).1
 by_cases hg:dt (du s a) d=0
 ·have e:¬(0<dt (du s a) d):=by omega
  (try((repeat(revert hN;revert N;apply Pn.out));refine wk (tw @aa.eq_1 (tw @bP.eq_1 (tw @a0 (tw @a1 (tw @s1 (tw @d0 @e)))))) ?_;(repeat(refine Pn.mk ?_;intro N hN))))
  exact db (b:=0) (.inl rfl) (sd @Nat.zero_add) (by rw[qq,if_pos hg])
 ·have e:0<dt (du s a) d:=by omega
  have hw:IntKind.i64.wrap (dt (du s a) d-1)=dt (du s a) d-1:=bK (by omega)
  have rj:0<=dt (du s a) d-1:=by omega
  have eT:(s.aB.map ck)[(dt (du s a) d-1).toNat]? =some (ck (re s (dt (du s a) d-1))):=getD_map ck (by omega)
  (try((repeat(revert hN;revert N;apply Pn.out));refine wk (tw @aa.eq_1 (tw @bP.eq_1 (tw @a0 (tw @a1 (tw @s1 (tw @d0 (tw @e (tw @hw (tw @rj (tw @eT @ck.eq_1)))))))))) ?_;(repeat(refine Pn.mk ?_;intro N hN))))
  exact db (b:=(re s (dt (du s a) d-1)).eI) (.inl rfl) (sd @Nat.zero_add) (by rw[qq,if_neg hg])
theorem JB (s:ax) (hF:je s) (a d b:Int) (ha:eW s a=true) (hb:eW s b=true) (hd:iP d 0 3=true):aw Tryz.prog 261 [.agg (aa s),.int .i64 a,.int .i64 d,.int .i64 b] (.int .i64 (ib s a d b)):=by
 refine aw.body eK rfl fun hl n0=>?_
 clear hl
 obtain⟨a0,a1,a2⟩:=ku ha
 obtain⟨b0,b1,b2⟩:=ku hb
 have s1:=lG (hF.qF _ a2) hd
 have s2:=lG (hF.qF _ b2) (rI hd)
 have d0:=(eD hd).1
 have d1:=(eD (rI hd)).1
 have h:=Fg d hd
 have hs:=FF s hF a d ha hd
 rw[aa]at hs
 by_cases e:dt (du s a) d=dt (du s b) (kT d)
 ·have e':decide (dt (du s a) d=dt (du s b) (kT d))=true:=decide_eq_true e
  (repeat(first|((repeat(revert hN;revert N;apply Pn.out));refine wk (tw @aa.eq_1 (tw @bP.eq_1 (tw @a0 (tw @a1 (tw @b0 (tw @b1 (tw @s1 (tw @s2 (tw @d0 (tw @d1 @e')))))))))) ?_;(repeat(refine Pn.mk ?_;intro N hN)))|((try apply Or.inl);refine⟨_,aw.x (h) (sd (tw @aa.eq_1 (tw @bP.eq_1 (tw @a0 (tw @a1 (tw @b0 (tw @b1 (tw @s1 (tw @s2 (tw @d0 (tw @d1 @e'))))))))))),?_⟩;refine hN _ _ ?_;clear hN N)|((try apply Or.inl);refine⟨_,aw.x (hs) (sd (tw @aa.eq_1 (tw @bP.eq_1 (tw @a0 (tw @a1 (tw @b0 (tw @b1 (tw @s1 (tw @s2 (tw @d0 (tw @d1 @e'))))))))))),?_⟩;refine hN _ _ ?_;clear hN N)))
  exact db (b:=qq s (dt (du s a) d)) (.inl rfl) (sd @Nat.zero_add) (by rw[ib,if_pos e])
 ·have e':decide (dt (du s a) d=dt (du s b) (kT d))=false:=decide_eq_false e
  (repeat(first|((repeat(revert hN;revert N;apply Pn.out));refine wk (tw @aa.eq_1 (tw @bP.eq_1 (tw @a0 (tw @a1 (tw @b0 (tw @b1 (tw @s1 (tw @s2 (tw @d0 (tw @d1 @e')))))))))) ?_;(repeat(refine Pn.mk ?_;intro N hN)))|((try apply Or.inl);refine⟨_,aw.x (h) (sd (tw @aa.eq_1 (tw @bP.eq_1 (tw @a0 (tw @a1 (tw @b0 (tw @b1 (tw @s1 (tw @s2 (tw @d0 (tw @d1 @e'))))))))))),?_⟩;refine hN _ _ ?_;clear hN N)))
  exact db (b:=0) (.inl rfl) (sd @Nat.zero_add) (by rw[ib,if_neg e])
def qg (s:ax) (i:Nat):fS:=s.aB.getD i ⟨⟨#[]⟩,0⟩
def pA (s:ax) (i:Nat):fc:=s.aj.getD i AH
def DN (s:ax) (i:Nat):Prop:=jR (qg s i).aO=true/\iP (qg s i).eI 1 4=true/\∀j,j<i->(qg s j).aO≠(qg s i).aO
def Bz (s:ax) (i:Nat):Prop:=jR (pA s i).aO=true/\(pA s i).bU.length=4/\(∀j,j<i->(pA s j).aO≠(pA s i).aO)/\∀g∈(pA s i).bU,iP g 0 s.aB.length=true
structure iu (s:ax):Prop where
 uc:s.aB.length<=200
 some:1<=s.aj.length
 xK:s.aj.length<=160
 UZ:∀i,i<s.aB.length->DN s i
 tok:∀i,i<s.aj.length->Bz s i
noncomputable def rL (s:ax):Bool:=@decide (iu s) (Classical.propDecidable _)
theorem mY {s:ax}:rL s=true↔iu s:=by simp[rL]
theorem fW {s:ax} (h:¬iu s):false=rL s:=by simp[rL,h]
theorem Dc {s:ax} (h:iu s):true=rL s:=by simp[rL,h]
theorem AZ {s:ax} {i:Nat} (h:i<s.aj.length):(s.aj.map bP)[i]? =some (bP (pA s i)):=getD_map bP h
theorem z7 {s:ax} {i:Nat} (h:i<s.aB.length):(s.aB.map ck)[i]? =some (ck (qg s i)):=getD_map ck h
theorem iu.form {s:ax} (h:iu s):je s:=by
 have key:∀t∈s.aj,∃i,i<s.aj.length/\t=pA s i:=fun t ht=>by
  obtain⟨i,hi,rfl⟩:=List.getElem_of_mem ht
  exact⟨i,hi,by simp[pA,List.getD_eq_getElem?_getD,hi]⟩
 refine⟨fun t ht=>?_,fun t ht g hg=>?_⟩
 ·obtain⟨i,hi,rfl⟩:=key t ht
  exact(h.tok i hi).2.1
 ·obtain⟨i,hi,rfl⟩:=key t ht
  exact eD ((h.tok i hi).2.2.2 g hg)
def dZ (l:List ByteArray):List (List AV):=l.map fun n=>[.str n,.bool true]
abbrev mS:MK:=⟨false,[.tS]⟩
theorem zw (n:ByteArray):∀(l:List ByteArray) (i:Nat),∃r,gr mS [.str n] (dZ l) i=some r/\((r=none/\n∉l)∨∃j,r=some (i+j)/\n∈l/\(dZ l)[j]? =some [.str n,.bool true])
 |[],i=>⟨none,rfl,.inl ⟨rfl,by simp⟩⟩
 |m::l,i=>by
  obtain⟨r,h1,h2⟩:=zw n l (i+1)
  by_cases h:n=m
  ·subst h
   exact⟨some i,by simp[dZ,gr,eY,fC,MK.ks],.inr ⟨0,rfl,by simp,rfl⟩⟩
  ·refine⟨r,?_,?_⟩
   ·unfold dZ at h1 ⊢
    simp only[List.map_cons,gr,MK.ks,List.length_cons,List.length_nil,Nat.zero_add,List.take_succ_cons,List.take_zero,eY,fC,h,decide_false,Bool.and_true]
    exact h1
   ·rcases h2 with⟨rfl,h2⟩|⟨j,rfl,h2,h3⟩
    ·exact .inl ⟨rfl,by simp[h,h2]⟩
    ·exact .inr ⟨j+1,by congr 1;omega,by simp[h2],by simpa[dZ]using h3⟩
theorem xz (n:ByteArray) (l:List ByteArray):(n∉l/\gm mS (.str n) (dZ l)=some none)∨∃j,n∈l/\gm mS (.str n) (dZ l)=some (some j)/\(dZ l)[j]? =some [.str n,.bool true]:=by
 obtain⟨r,h1,h2⟩:=zw n l 0
 have e:gm mS (.str n) (dZ l)=some r:=by
  unfold gm
  rw[if_pos ⟨rfl,rfl,rfl⟩];exact h1
 rcases h2 with⟨rfl,h2⟩|⟨j,rfl,h2,h3⟩
 ·exact .inl ⟨h2,e⟩
 ·exact .inr ⟨j,h2,by rw[e,Nat.zero_add],h3⟩
theorem Rp (s:ax) (g:Int):aw Tryz.prog 255 [.int .i64 g,.dp (aa s)] (.bool (!iP g 0 s.aB.length)):=by
 refine aw.body eK rfl fun hl n0=>?_
 clear hl
 have h:=lJ g 0 s.aB.length
 (repeat(first|((repeat(revert hN;revert N;apply Pn.out));refine wk @aa.eq_1 ?_;(repeat(refine Pn.mk ?_;intro N hN)))|((try apply Or.inl);refine⟨_,aw.x (h) (sd @aa.eq_1),?_⟩;refine hN _ _ ?_;clear hN N)))
 exact bp (b:= !iP g 0 s.aB.length) (.inl rfl) (sd @Nat.zero_add) rfl
theorem MH:SB aQ (fun c=>.int .i64 c) 1 false:=⟨fun _=>rfl,fun _=>rfl,fun x g=>by rw[aq,aH,au];rfl⟩
theorem Oj (s:ax) (l:List Int) (hl:l.length<=1048576):aw Tryz.prog 226 [.sl (l.map aQ),.fn 255 [.dp (aa s)]] (.bool (l.any fun g=> !iP g 0 s.aB.length)):=
 oQ MH (show nv Tryz.prog 226=some (EB 226 279) by kernel_rfl)
  (show nv Tryz.prog 279=some (wM 279 1 false) by kernel_rfl) l hl _ _ _ rfl (fun g=>by rw[aq,aT,au];rfl) (fun x _=>Rp s x) fun g=>by rw[aq,aT,au];rfl
theorem w9 {α:Type} (f:Nat->α) (n k:Nat) (x:α):x∉(List.range k).map f↔∀j,j<k->f j≠x:=by
 constructor
 ·intro h j hj he
  exact h (List.mem_map.2 ⟨j,List.mem_range.2 hj,he⟩)
 ·intro h hm
  obtain⟨j,hj,he⟩:=List.mem_map.1 hm
  exact h j (List.mem_range.1 hj) he
theorem DT (s:ax) (hn:gJ s) (hg:s.aB.length<=1048576) (ht:s.aj.length<=1048576) (hs:∀t∈s.aj,t.bU.length<=1048576):aw Tryz.prog 199 [.agg (aa s)] (.bool (rL s)):=by
 refine aw.body eK rfl fun hl n0=>?_
 clear hl
 have TF:∀i,i<s.aB.length->(qg s i).aO.size<=9223372036854775807:=fun i hi=>hn.1 _ (by simp[qg,List.getD_eq_getElem?_getD,hi])
 have QW:∀i,i<s.aj.length->(pA s i).aO.size<=9223372036854775807:=fun i hi=>hn.2 _ (by simp[pA,List.getD_eq_getElem?_getD,hi])
 have ym:∀i,i<s.aj.length->(pA s i).bU.length<=1048576:=fun i hi=>hs _ (by simp[pA,List.getD_eq_getElem?_getD,hi])
 have hw:=lJ (s.aj.length:Int) 1 160
 by_cases h1:(200:Int)<(s.aB.length:Int)
 ·(try((repeat(revert hN;revert N;apply Pn.out));refine wk (tw @aa.eq_1 @h1) ?_;(repeat(refine Pn.mk ?_;intro N hN))))
  exact bp (b:=false) (.inl rfl) (sd @Nat.zero_add) (fW fun h=>by have:=h.uc;omega)
 by_cases h2:iP (s.aj.length:Int) 1 160=true
 ·have Dt:=eD h2
  rw[h2]at hw
  (repeat(first|((repeat(revert hN;revert N;apply Pn.out));refine wk (tw @aa.eq_1 @h1) ?_;(repeat(refine Pn.mk ?_;intro N hN)))|((try apply Or.inl);refine⟨_,aw.x (hw) (sd (tw @aa.eq_1 @h1)),?_⟩;refine hN _ _ ?_;clear hN N)))
  refine aX (fun n env st=>∃k:Nat,n=(s.aB.length)-k/\k<=(s.aB.length)/\env 24=.int .i64 (k:Int)/\st.get ⟨199000000,n0⟩=some ⟨true,2,[aa s]⟩/\st.get ⟨199003000,n0+1+1⟩=some ⟨true,mS.mz,dZ ((List.range k).map fun i=>(qg s i).aO)⟩/\(∀j:Nat,j<k->DN s j)) (s.aB.length) ⟨0,by omega,by omega,by(try simp only[go_sem, ↓reduceIte,Nat.reduceEqDiff,Nat.reduceAdd,Nat.reduceSub,Nat.reduceLeDiff,reduceCtorEq,aa,List.range_zero,List.map_nil,dZ]);try rfl,by(try simp only[go_sem, ↓reduceIte,Nat.reduceEqDiff,Nat.reduceAdd,Nat.reduceSub,Nat.reduceLeDiff,reduceCtorEq,aa,List.range_zero,List.map_nil,dZ]);try rfl,by(try simp only[go_sem, ↓reduceIte,Nat.reduceEqDiff,Nat.reduceAdd,Nat.reduceSub,Nat.reduceLeDiff,reduceCtorEq,aa,List.range_zero,List.map_nil,dZ]);try rfl,fun _ h=>absurd h (Nat.not_lt_zero _)⟩ ?_
  rintro n_a env_a st_a ⟨k,rfl,ale,a24,ag0,ag1,nq⟩ dC
  have a1:=dC 1 (by kernel_rfl);have a3:=dC 3 (by kernel_rfl);have a22:=dC 22 (by kernel_rfl);have a23:=dC 23 (by kernel_rfl)
  simp only[go_sem, ↓reduceIte,Nat.reduceEqDiff,Nat.reduceAdd,Nat.reduceSub,Nat.reduceLeDiff,reduceCtorEq,aa,List.range_zero,List.map_nil,dZ]at a1 a3 a22 a23
  clear dC
  by_cases hk:(k:Int)<(s.aB.length:Int)
  ·have cD:∀{e:Env} {gg:Rows},(e 24=.int .i64 (IntKind.i64.wrap ((k:Int)+1)))->(gg ⟨199000000,n0⟩=some ⟨true,2,[aa s]⟩)->(gg ⟨199003000,n0+1+1⟩=some ⟨true,mS.mz,dZ ((List.range (k+1)).map fun i=>(qg s i).aO)⟩)->(DN s k)->∃m0,m0<(s.aB.length)-k/\∃k:Nat,m0=(s.aB.length)-k/\k<=(s.aB.length)/\e 24=.int .i64 (k:Int)/\gg ⟨199000000,n0⟩=some ⟨true,2,[aa s]⟩/\gg ⟨199003000,n0+1+1⟩=some ⟨true,mS.mz,dZ ((List.range k).map fun i=>(qg s i).aO)⟩/\(∀j:Nat,j<k->DN s j):=fun x1 x2 x3 x4=>⟨_,by omega,k+1,rfl,by omega,(by rw[x1,az (by omega)]),x2,x3,(all_succ nq x4)⟩
   have fm:k<s.aB.length:=by omega
   have eU:=z7 fm
   have rl:=GA (qg s k).aO (TF k fm)
   have Mh:=lJ (qg s k).eI 1 4
   have Cp:=xz (qg s k).aO ((List.range k).map fun i=>(qg s i).aO)
   rw[w9 _ k]at Cp
   have kH:(¬DN s k)->¬iu s:=fun h hp=>h (hp.UZ k fm)
   generalize rO:qg s k=gl at *
   cases hb:jR gl.aO
   ·rw[hb]at rl
    (repeat(first|((repeat(revert hN;revert N;apply Pn.out));refine wk (tw @a24 (tw @ag0 (tw @ag1 (tw @a1 (tw @a3 (tw @a22 (tw @a23 (tw @hk (tw @eU (tw @ck.eq_1 @aa.eq_1)))))))))) ?_;(repeat(refine Pn.mk ?_;intro N hN)))|((try apply Or.inl);refine⟨_,aw.x (rl) (sd (tw @a24 (tw @ag0 (tw @ag1 (tw @a1 (tw @a3 (tw @a22 (tw @a23 (tw @hk (tw @eU (tw @ck.eq_1 @aa.eq_1))))))))))),?_⟩;refine hN _ _ ?_;clear hN N)))
    exact bp (b:=false) (.inl rfl) (sd @Nat.zero_add) (fW (kH fun h=>by rw[DN,rO,hb]at h;cases h.1))
   ·rw[hb]at rl
    rcases Cp with⟨wD,lj⟩|⟨j,fI,lj,fy⟩
    ·cases eu:iP gl.eI 1 4
     ·rw[eu]at Mh
      (repeat(first|((repeat(revert hN;revert N;apply Pn.out));refine wk (tw @a24 (tw @ag0 (tw @ag1 (tw @a1 (tw @a3 (tw @a22 (tw @a23 (tw @hk (tw @eU (tw @lj (tw @ck.eq_1 @aa.eq_1))))))))))) ?_;(repeat(refine Pn.mk ?_;intro N hN)))|((try apply Or.inl);refine⟨_,aw.x (rl) (sd (tw @a24 (tw @ag0 (tw @ag1 (tw @a1 (tw @a3 (tw @a22 (tw @a23 (tw @hk (tw @eU (tw @lj (tw @ck.eq_1 @aa.eq_1)))))))))))),?_⟩;refine hN _ _ ?_;clear hN N)|((try apply Or.inl);refine⟨_,aw.x (Mh) (sd (tw @a24 (tw @ag0 (tw @ag1 (tw @a1 (tw @a3 (tw @a22 (tw @a23 (tw @hk (tw @eU (tw @lj (tw @ck.eq_1 @aa.eq_1)))))))))))),?_⟩;refine hN _ _ ?_;clear hN N)))
      exact bp (b:=false) (.inl rfl) (sd @Nat.zero_add) (fW (kH fun h=>by rw[DN,rO,eu]at h;cases h.2.1))
     ·rw[eu]at Mh
      have pN:dZ ((List.range k).map fun i=>(qg s i).aO)++[[.str gl.aO,.bool true]]=dZ (List.map (fun i=>(qg s i).aO) (List.range k++[k])):=by simp[dZ,rO]
      (repeat(first|((repeat(revert hN;revert N;apply Pn.out));refine wk (tw @a24 (tw @ag0 (tw @ag1 (tw @a1 (tw @a3 (tw @a22 (tw @a23 (tw @hk (tw @eU (tw @lj (tw @ck.eq_1 @aa.eq_1))))))))))) ?_;(repeat(refine Pn.mk ?_;intro N hN)))|((try apply Or.inl);refine⟨_,aw.x (rl) (sd (tw @a24 (tw @ag0 (tw @ag1 (tw @a1 (tw @a3 (tw @a22 (tw @a23 (tw @hk (tw @eU (tw @lj (tw @ck.eq_1 @aa.eq_1)))))))))))),?_⟩;refine hN _ _ ?_;clear hN N)|((try apply Or.inl);refine⟨_,aw.x (Mh) (sd (tw @a24 (tw @ag0 (tw @ag1 (tw @a1 (tw @a3 (tw @a22 (tw @a23 (tw @hk (tw @eU (tw @lj (tw @ck.eq_1 @aa.eq_1)))))))))))),?_⟩;refine hN _ _ ?_;clear hN N)))
      refine cD ?_ ?_ ?_ (⟨by rw[rO];exact hb,by rw[rO];exact eu,fun j hj=>by rw[rO];exact wD j hj⟩)
      all_goals simp only[go_sem, ↓reduceIte,Nat.reduceEqDiff,Nat.reduceAdd,Nat.reduceSub,Nat.reduceLeDiff,reduceCtorEq,a24,ag0,ag1,a1,a3,a22,a23,lj,pN]
    ·(repeat(first|((repeat(revert hN;revert N;apply Pn.out));refine wk (tw @a24 (tw @ag0 (tw @ag1 (tw @a1 (tw @a3 (tw @a22 (tw @a23 (tw @hk (tw @eU (tw @lj (tw @fy (tw @ck.eq_1 @aa.eq_1)))))))))))) ?_;(repeat(refine Pn.mk ?_;intro N hN)))|((try apply Or.inl);refine⟨_,aw.x (rl) (sd (tw @a24 (tw @ag0 (tw @ag1 (tw @a1 (tw @a3 (tw @a22 (tw @a23 (tw @hk (tw @eU (tw @lj (tw @fy (tw @ck.eq_1 @aa.eq_1))))))))))))),?_⟩;refine hN _ _ ?_;clear hN N)))
     exact bp (b:=false) (.inl rfl) (sd @Nat.zero_add) (fW (kH fun h=>by
      rw[DN,rO]at h
      obtain⟨i,hi,he⟩:=List.mem_map.1 fI
      exact h.2.2 i (List.mem_range.1 hi) he))
  ·have kM:k=s.aB.length:=by omega
   (try((repeat(revert hN;revert N;apply Pn.out));refine wk (tw @a24 (tw @ag0 (tw @ag1 (tw @a1 (tw @a3 (tw @a22 (tw @a23 (tw @hk @aa.eq_1)))))))) ?_;(repeat(refine Pn.mk ?_;intro N hN))))
   refine aX (fun n env st=>∃j:Nat,n=(s.aj.length)-j/\j<=(s.aj.length)/\env 52=.int .i64 (j:Int)/\st.get ⟨199000000,n0⟩=some ⟨true,2,[aa s]⟩/\st.get ⟨199011000,st_a.next+1⟩=some ⟨true,mS.mz,dZ ((List.range j).map fun i=>(pA s i).aO)⟩/\(∀i:Nat,i<j->Bz s i)/\(st_a.next<st.next)) (s.aj.length) ⟨0,by omega,by omega,by(try simp only[go_sem, ↓reduceIte,Nat.reduceEqDiff,Nat.reduceAdd,Nat.reduceSub,Nat.reduceLeDiff,reduceCtorEq,a24,ag0,ag1,a1,a3,a22,a23,aa,List.range_zero,List.map_nil,dZ]);try rfl,by(try simp only[go_sem, ↓reduceIte,Nat.reduceEqDiff,Nat.reduceAdd,Nat.reduceSub,Nat.reduceLeDiff,reduceCtorEq,a24,ag0,ag1,a1,a3,a22,a23,aa,List.range_zero,List.map_nil,dZ]);try rfl,by(try simp only[go_sem, ↓reduceIte,Nat.reduceEqDiff,Nat.reduceAdd,Nat.reduceSub,Nat.reduceLeDiff,reduceCtorEq,a24,ag0,ag1,a1,a3,a22,a23,aa,List.range_zero,List.map_nil,dZ]);try rfl,fun _ h=>absurd h (Nat.not_lt_zero _),(by(try dsimp only);omega)⟩ ?_
   rintro n_b env_b st_b ⟨j,rfl,ble,b52,bg0,bg1,bA0,bI0⟩ eX
   have b1:=eX 1 (by kernel_rfl);have b6:=eX 6 (by kernel_rfl);have DX:=eX 50 (by kernel_rfl);have DY:=eX 51 (by kernel_rfl)
   simp only[go_sem, ↓reduceIte,Nat.reduceEqDiff,Nat.reduceAdd,Nat.reduceSub,Nat.reduceLeDiff,reduceCtorEq,a24,ag0,ag1,a1,a3,a22,a23,aa,List.range_zero,List.map_nil,dZ]at b1 b6 DX DY
   clear eX
   by_cases hj:(j:Int)<(s.aj.length:Int)
   ·have fh:∀{e:Env} {gg:Rows} {nx:Nat},(e 52=.int .i64 (IntKind.i64.wrap ((j:Int)+1)))->(gg ⟨199000000,n0⟩=some ⟨true,2,[aa s]⟩)->(gg ⟨199011000,st_a.next+1⟩=some ⟨true,mS.mz,dZ ((List.range (j+1)).map fun i=>(pA s i).aO)⟩)->(Bz s j)->(st_a.next<nx)->∃m0,m0<(s.aj.length)-j/\∃j:Nat,m0=(s.aj.length)-j/\j<=(s.aj.length)/\e 52=.int .i64 (j:Int)/\gg ⟨199000000,n0⟩=some ⟨true,2,[aa s]⟩/\gg ⟨199011000,st_a.next+1⟩=some ⟨true,mS.mz,dZ ((List.range j).map fun i=>(pA s i).aO)⟩/\(∀i:Nat,i<j->Bz s i)/\(st_a.next<nx):=fun x1 x2 x3 x4 x5=>⟨_,by omega,j+1,rfl,by omega,(by rw[x1,az (by omega)]),x2,x3,(all_succ bA0 x4),x5⟩
    have gW:j<s.aj.length:=by omega
    have lR:=AZ gW
    have rl:=GA (pA s j).aO (QW j gW)
    have VA:=Oj s (pA s j).bU (ym j gW)
    have Cp:=xz (pA s j).aO ((List.range j).map fun i=>(pA s i).aO)
    rw[w9 _ j]at Cp
    have kH:(¬Bz s j)->¬iu s:=fun h hp=>h (hp.tok j gW)
    have ij:(⟨199011000,st_a.next+1⟩:Id)≠⟨199000000,n0⟩:=by simp
    generalize htd:pA s j=tl at *
    cases hb:jR tl.aO
    ·rw[hb]at rl
     (repeat(first|((repeat(revert hN;revert N;apply Pn.out));refine wk (tw @b52 (tw @bg0 (tw @bg1 (tw @b1 (tw @b6 (tw @DX (tw @DY (tw @hj (tw @lR (tw @bP.eq_1 @aa.eq_1)))))))))) ?_;(repeat(refine Pn.mk ?_;intro N hN)))|((try apply Or.inl);refine⟨_,aw.x (rl) (sd (tw @b52 (tw @bg0 (tw @bg1 (tw @b1 (tw @b6 (tw @DX (tw @DY (tw @hj (tw @lR (tw @bP.eq_1 @aa.eq_1))))))))))),?_⟩;refine hN _ _ ?_;clear hN N)))
     exact bp (b:=false) (.inl rfl) (sd @Nat.zero_add) (fW (kH fun h=>by rw[Bz,htd,hb]at h;cases h.1))
    ·rw[hb]at rl
     rcases Cp with⟨wD,lj⟩|⟨i,fI,lj,fy⟩
     ·by_cases h4:(tl.bU.length:Int)=4
      ·have Ab:decide ((tl.bU.length:Int)=4)=true:=decide_eq_true h4
       cases hany:tl.bU.any fun g=> !iP g 0 s.aB.length
       ·rw[hany]at VA
        have pN:dZ ((List.range j).map fun i=>(pA s i).aO)++[[.str tl.aO,.bool true]]=dZ (List.map (fun i=>(pA s i).aO) (List.range j++[j])):=by simp[dZ,htd]
        (repeat(first|((repeat(revert hN;revert N;apply Pn.out));refine wk (tw @b52 (tw @bg0 (tw @bg1 (tw @b1 (tw @b6 (tw @DX (tw @DY (tw @hj (tw @lR (tw @lj (tw @Ab (tw @bP.eq_1 @aa.eq_1)))))))))))) ?_;(repeat(refine Pn.mk ?_;intro N hN)))|((try apply Or.inl);refine⟨_,aw.x (rl) (sd (tw @b52 (tw @bg0 (tw @bg1 (tw @b1 (tw @b6 (tw @DX (tw @DY (tw @hj (tw @lR (tw @lj (tw @Ab (tw @bP.eq_1 @aa.eq_1))))))))))))),?_⟩;refine hN _ _ ?_;clear hN N)|((try apply Or.inl);refine⟨_,aw.x (VA) (sd (tw @b52 (tw @bg0 (tw @bg1 (tw @b1 (tw @b6 (tw @DX (tw @DY (tw @hj (tw @lR (tw @lj (tw @Ab (tw @bP.eq_1 @aa.eq_1))))))))))))),?_⟩;refine hN _ _ ?_;clear hN N)))
        refine fh ?_ ?_ ?_ (⟨by rw[htd];exact hb,by rw[htd];omega,fun i hi=>(by rw[htd];exact wD i hi),fun g hg=>by rw[htd]at hg;have:=List.any_eq_false.1 hany g hg;simpa using this⟩) (by(try dsimp only);omega)
        all_goals simp only[go_sem, ↓reduceIte,Nat.reduceEqDiff,Nat.reduceAdd,Nat.reduceSub,Nat.reduceLeDiff,reduceCtorEq,b52,bg0,bg1,b1,b6,DX,DY,lj,pN]
       ·rw[hany]at VA
        (repeat(first|((repeat(revert hN;revert N;apply Pn.out));refine wk (tw @b52 (tw @bg0 (tw @bg1 (tw @b1 (tw @b6 (tw @DX (tw @DY (tw @hj (tw @lR (tw @lj (tw @Ab (tw @bP.eq_1 @aa.eq_1)))))))))))) ?_;(repeat(refine Pn.mk ?_;intro N hN)))|((try apply Or.inl);refine⟨_,aw.x (rl) (sd (tw @b52 (tw @bg0 (tw @bg1 (tw @b1 (tw @b6 (tw @DX (tw @DY (tw @hj (tw @lR (tw @lj (tw @Ab (tw @bP.eq_1 @aa.eq_1))))))))))))),?_⟩;refine hN _ _ ?_;clear hN N)|((try apply Or.inl);refine⟨_,aw.x (VA) (sd (tw @b52 (tw @bg0 (tw @bg1 (tw @b1 (tw @b6 (tw @DX (tw @DY (tw @hj (tw @lR (tw @lj (tw @Ab (tw @bP.eq_1 @aa.eq_1))))))))))))),?_⟩;refine hN _ _ ?_;clear hN N)))
        exact bp (b:=false) (.inl rfl) (sd @Nat.zero_add) (fW (kH fun h=>by
         rw[Bz,htd]at h
         obtain⟨g,hg,hq⟩:=List.any_eq_true.1 hany
         have:=h.2.2.2 g hg
         rw[this]at hq;cases hq))
      ·have Ab:decide ((tl.bU.length:Int)=4)=false:=decide_eq_false h4
       (repeat(first|((repeat(revert hN;revert N;apply Pn.out));refine wk (tw @b52 (tw @bg0 (tw @bg1 (tw @b1 (tw @b6 (tw @DX (tw @DY (tw @hj (tw @lR (tw @lj (tw @Ab (tw @bP.eq_1 @aa.eq_1)))))))))))) ?_;(repeat(refine Pn.mk ?_;intro N hN)))|((try apply Or.inl);refine⟨_,aw.x (rl) (sd (tw @b52 (tw @bg0 (tw @bg1 (tw @b1 (tw @b6 (tw @DX (tw @DY (tw @hj (tw @lR (tw @lj (tw @Ab (tw @bP.eq_1 @aa.eq_1))))))))))))),?_⟩;refine hN _ _ ?_;clear hN N)))
       exact bp (b:=false) (.inl rfl) (sd @Nat.zero_add) (fW (kH fun h=>by rw[Bz,htd]at h;have:=h.2.1;omega))
     ·(repeat(first|((repeat(revert hN;revert N;apply Pn.out));refine wk (tw @b52 (tw @bg0 (tw @bg1 (tw @b1 (tw @b6 (tw @DX (tw @DY (tw @hj (tw @lR (tw @lj (tw @fy (tw @bP.eq_1 @aa.eq_1)))))))))))) ?_;(repeat(refine Pn.mk ?_;intro N hN)))|((try apply Or.inl);refine⟨_,aw.x (rl) (sd (tw @b52 (tw @bg0 (tw @bg1 (tw @b1 (tw @b6 (tw @DX (tw @DY (tw @hj (tw @lR (tw @lj (tw @fy (tw @bP.eq_1 @aa.eq_1))))))))))))),?_⟩;refine hN _ _ ?_;clear hN N)))
      exact bp (b:=false) (.inl rfl) (sd @Nat.zero_add) (fW (kH fun h=>by
       rw[Bz,htd]at h
       obtain⟨i,hi,he⟩:=List.mem_map.1 fI
       exact h.2.2.1 i (List.mem_range.1 hi) he))
   ·(try((repeat(revert hN;revert N;apply Pn.out));refine wk (tw @b52 (tw @bg0 (tw @bg1 (tw @b1 (tw @b6 (tw @DX (tw @DY (tw @hj @aa.eq_1)))))))) ?_;(repeat(refine Pn.mk ?_;intro N hN))))
    exact bp (b:=true) (.inl rfl) (sd @Nat.zero_add) (Dc ⟨by omega,by omega,by omega,fun i hi=>nq i (by omega),fun i hi=>bA0 i (by omega)⟩)
 ·rw[Bool.not_eq_true]at h2
  rw[h2]at hw
  (repeat(first|((repeat(revert hN;revert N;apply Pn.out));refine wk (tw @aa.eq_1 @h1) ?_;(repeat(refine Pn.mk ?_;intro N hN)))|((try apply Or.inl);refine⟨_,aw.x (hw) (sd (tw @aa.eq_1 @h1)),?_⟩;refine hN _ _ ?_;clear hN N)))
  exact bp (b:=false) (.inl rfl) (sd @Nat.zero_add) (fW fun h=>by
   have h3:=h.some
   have h4:=h.xK
   rw[jy ⟨by omega,by omega⟩]at h2;cases h2)
theorem uU {α:Type} {p:α->Bool} {xs:List α} {k:Nat} (hk:k<xs.length) (h1:p xs[k]=true) (h2:∀j (h:j<xs.length),j<k->p xs[j]=false):kF p xs=k:=by
 have:xs.findIdx p=k:=by rw[List.findIdx_eq hk];exact⟨h1,fun j hj=>h2 j (by omega) hj⟩
 rw[kF,this,if_pos hk]
theorem yO {α:Type} {p:α->Bool} {xs:List α} (h:∀j (h:j<xs.length),p xs[j]=false):kF p xs= -1:=by
 rw[kF,if_neg]
 rw[List.findIdx_lt_length]
 rintro⟨x,hx,Kq⟩
 obtain⟨j,hj,rfl⟩:=List.getElem_of_mem hx
 rw[h j hj]at Kq;cases Kq
theorem z6 {s:ax} {i:Nat} (h:i<s.aB.length):qg s i=s.aB[i]:=by simp[qg,List.getD_eq_getElem?_getD,h]
theorem AY {s:ax} {i:Nat} (h:i<s.aj.length):pA s i=s.aj[i]:=by simp[pA,List.getD_eq_getElem?_getD,h]
def L2 (s:ax) (n:ByteArray):Int:=kF (fun g:fS=>decide (g.aO=n)) s.aB
def Ps (s:ax) (n:ByteArray):Int:=kF (fun t:fc=>decide (t.aO=n)) s.aj
theorem H0 (s:ax) (nm:ByteArray):aw Tryz.prog 238 [.dp (aa s),.str nm] (.int .i64 (L2 s nm+1)):=by
 refine aw.body eK rfl fun hl n0=>?_
 have hlen:s.aB.length<=9223372036854775807:=by
  have h1:=(hl (.dp (aa s)) (by simp)).CB (a:=.sl (s.aB.map ck)) (by simp[aa])
  simpa using h1.len
 clear hl
 (try((repeat(revert hN;revert N;apply Pn.out));refine wk @aa.eq_1 ?_;(repeat(refine Pn.mk ?_;intro N hN))))
 refine aX (fun n env st=>∃k:Nat,n=(s.aB.length)-k/\k<=(s.aB.length)/\env 5=.int .i64 (k:Int)/\(∀j:Nat,j<k->∀h:j<s.aB.length,decide (s.aB[j].aO=nm)=false)) (s.aB.length) ⟨0,by omega,by omega,sl @aa.eq_1,fun _ h=>absurd h (Nat.not_lt_zero _)⟩ ?_
 rintro n_a env_a st_a ⟨k,rfl,ale,a5,nq⟩ dC
 have a0:=dC 0 (by kernel_rfl);have a1:=dC 1 (by kernel_rfl)
 simp only[go_sem, ↓reduceIte,Nat.reduceEqDiff,Nat.reduceAdd,Nat.reduceSub,Nat.reduceLeDiff,reduceCtorEq,aa]at a0 a1
 clear dC
 by_cases hk:(k:Int)<(s.aB.length:Int)
 ·have cD:∀{e:Env},(e 5=.int .i64 (IntKind.i64.wrap ((k:Int)+1)))->(∀h:k<s.aB.length,decide (s.aB[k].aO=nm)=false)->∃m0,m0<(s.aB.length)-k/\∃k:Nat,m0=(s.aB.length)-k/\k<=(s.aB.length)/\e 5=.int .i64 (k:Int)/\(∀j:Nat,j<k->∀h:j<s.aB.length,decide (s.aB[j].aO=nm)=false):=fun x1 x2=>⟨_,by omega,k+1,rfl,by omega,(by rw[x1,az (by omega)]),(all_succ nq x2)⟩
  have fm:k<s.aB.length:=by omega
  have eU:=z7 fm
  have e:=z6 fm
  cases hd:decide ((qg s k).aO=nm)
  ·have Vh:=of_decide_eq_false hd
   (try((repeat(revert hN;revert N;apply Pn.out));refine wk (tw @a5 (tw @a0 (tw @a1 (tw @hk (tw @eU (tw @Vh (tw @hd (tw @ck.eq_1 @aa.eq_1)))))))) ?_;(repeat(refine Pn.mk ?_;intro N hN))))
   exact cD (sd (tw @a5 (tw @a0 @a1))) (fun _=>by rw[e]at hd;exact hd)
  ·have Vh:=of_decide_eq_true hd
   have hw:IntKind.i64.wrap ((k:Int)+1)=(k:Int)+1:=bK (by omega)
   (try((repeat(revert hN;revert N;apply Pn.out));refine wk (tw @a5 (tw @a0 (tw @a1 (tw @hk (tw @eU (tw @hd (tw @hw (tw @ck.eq_1 @aa.eq_1)))))))) ?_;(repeat(refine Pn.mk ?_;intro N hN))))
   exact db (b:=(k:Int)+1) (.inl rfl) (sd @Nat.zero_add) (by rw[L2,uU fm (by rw[e]at hd;exact hd) fun j h hj=>nq j hj h])
 ·(try((repeat(revert hN;revert N;apply Pn.out));refine wk (tw @a5 (tw @a0 (tw @a1 (tw @hk @aa.eq_1)))) ?_;(repeat(refine Pn.mk ?_;intro N hN))))
  exact db (b:=0) (.inl rfl) (sd @Nat.zero_add) (by rw[L2,yO fun j h=>nq j (by omega) h];rfl)
theorem H3 (s:ax) (nm:ByteArray):aw Tryz.prog 239 [.dp (aa s),.str nm] (.int .i64 (Ps s nm)):=by
 refine aw.body eK rfl fun hl n0=>?_
 have hlen:s.aj.length<=9223372036854775807:=by
  have h1:=(hl (.dp (aa s)) (by simp)).CB (a:=.sl (s.aj.map bP)) (by simp[aa])
  simpa using h1.len
 clear hl
 (try((repeat(revert hN;revert N;apply Pn.out));refine wk @aa.eq_1 ?_;(repeat(refine Pn.mk ?_;intro N hN))))
 refine aX (fun n env st=>∃k:Nat,n=(s.aj.length)-k/\k<=(s.aj.length)/\env 5=.int .i64 (k:Int)/\(∀j:Nat,j<k->∀h:j<s.aj.length,decide (s.aj[j].aO=nm)=false)) (s.aj.length) ⟨0,by omega,by omega,sl @aa.eq_1,fun _ h=>absurd h (Nat.not_lt_zero _)⟩ ?_
 rintro n_a env_a st_a ⟨k,rfl,ale,a5,nq⟩ dC
 have a0:=dC 0 (by kernel_rfl);have a1:=dC 1 (by kernel_rfl)
 simp only[go_sem, ↓reduceIte,Nat.reduceEqDiff,Nat.reduceAdd,Nat.reduceSub,Nat.reduceLeDiff,reduceCtorEq,aa]at a0 a1
 clear dC
 by_cases hk:(k:Int)<(s.aj.length:Int)
 ·have cD:∀{e:Env},(e 5=.int .i64 (IntKind.i64.wrap ((k:Int)+1)))->(∀h:k<s.aj.length,decide (s.aj[k].aO=nm)=false)->∃m0,m0<(s.aj.length)-k/\∃k:Nat,m0=(s.aj.length)-k/\k<=(s.aj.length)/\e 5=.int .i64 (k:Int)/\(∀j:Nat,j<k->∀h:j<s.aj.length,decide (s.aj[j].aO=nm)=false):=fun x1 x2=>⟨_,by omega,k+1,rfl,by omega,(by rw[x1,az (by omega)]),(all_succ nq x2)⟩
  have fm:k<s.aj.length:=by omega
  have eU:=AZ fm
  have e:=AY fm
  cases hd:decide ((pA s k).aO=nm)
  ·(try((repeat(revert hN;revert N;apply Pn.out));refine wk (tw @a5 (tw @a0 (tw @a1 (tw @hk (tw @eU (tw @hd (tw @bP.eq_1 @aa.eq_1))))))) ?_;(repeat(refine Pn.mk ?_;intro N hN))))
   exact cD (sd (tw @a5 (tw @a0 @a1))) (fun _=>by rw[e]at hd;exact hd)
  ·(try((repeat(revert hN;revert N;apply Pn.out));refine wk (tw @a5 (tw @a0 (tw @a1 (tw @hk (tw @eU (tw @hd (tw @bP.eq_1 @aa.eq_1))))))) ?_;(repeat(refine Pn.mk ?_;intro N hN))))
   exact db (b:=(k:Int)) (.inl rfl) (sd @Nat.zero_add) (by rw[Ps,uU fm (by rw[e]at hd;exact hd) fun j h hj=>nq j hj h])
 ·(try((repeat(revert hN;revert N;apply Pn.out));refine wk (tw @a5 (tw @a0 (tw @a1 (tw @hk @aa.eq_1)))) ?_;(repeat(refine Pn.mk ?_;intro N hN))))
  exact db (b:=-1) (.inl rfl) (sd @Nat.zero_add) (by rw[Ps,yO fun j h=>nq j (by omega) h])
theorem Qb {s:ax} {i:Nat} (h:i<s.aB.length):L2 s (qg s i).aO=i↔∀j,j<i->(qg s j).aO≠(qg s i).aO:=by
 constructor
 ·intro he j hj hc
  have gT:j<s.aB.length:=by omega
  have:s.aB.findIdx (fun g:fS=>decide (g.aO=(qg s i).aO))<=j:=by
   rcases Nat.lt_or_ge j (s.aB.findIdx fun g:fS=>decide (g.aO=(qg s i).aO))with eo|rj
   ·have:=List.not_of_lt_findIdx eo
    rw[<-z6 gT]at this
    simp[hc]at this
   ·exact rj
  unfold L2 kF at he
  split at he<;>omega
 ·intro hd
  exact uU h (by rw[<-z6 h];simp) fun j gT hj=>by rw[<-z6 gT];simpa using hd j hj
theorem Rs {s:ax} {i:Nat} (h:i<s.aj.length):Ps s (pA s i).aO=i↔∀j,j<i->(pA s j).aO≠(pA s i).aO:=by
 constructor
 ·intro he j hj hc
  have gT:j<s.aj.length:=by omega
  have:s.aj.findIdx (fun g:fc=>decide (g.aO=(pA s i).aO))<=j:=by
   rcases Nat.lt_or_ge j (s.aj.findIdx fun g:fc=>decide (g.aO=(pA s i).aO))with eo|rj
   ·have:=List.not_of_lt_findIdx eo
    rw[<-AY gT]at this
    simp[hc]at this
   ·exact rj
  unfold Ps kF at he
  split at he<;>omega
 ·intro hd
  exact uU h (by rw[<-AY h];simp) fun j gT hj=>by rw[<-AY gT];simpa using hd j hj
theorem NF (s:ax) (hn:gJ s) (hg:s.aB.length<=1048576) (ht:s.aj.length<=1048576):aw Tryz.prog 167 [.dp (aa s)] (.bool (rL s)):=by
 refine aw.body eK rfl fun hl n0=>?_
 clear hl
 have TF:∀i,i<s.aB.length->(qg s i).aO.size<=9223372036854775807:=fun i hi=>hn.1 _ (by simp[qg,List.getD_eq_getElem?_getD,hi])
 have QW:∀i,i<s.aj.length->(pA s i).aO.size<=9223372036854775807:=fun i hi=>hn.2 _ (by simp[pA,List.getD_eq_getElem?_getD,hi])
 by_cases h1:(200:Int)<(s.aB.length:Int)
 ·(try((repeat(revert hN;revert N;apply Pn.out));refine wk (tw @aa.eq_1 @h1) ?_;(repeat(refine Pn.mk ?_;intro N hN))))
  exact bp (b:=false) (.inl rfl) (sd @Nat.zero_add) (fW fun h=>by have:=h.uc;omega)
 by_cases h2:(s.aj.length:Int)<1
 ·(try((repeat(revert hN;revert N;apply Pn.out));refine wk (tw @aa.eq_1 (tw @h1 @h2)) ?_;(repeat(refine Pn.mk ?_;intro N hN))))
  exact bp (b:=false) (.inl rfl) (sd @Nat.zero_add) (fW fun h=>by have:=h.some;omega)
 by_cases h3:(160:Int)<(s.aj.length:Int)
 ·(try((repeat(revert hN;revert N;apply Pn.out));refine wk (tw @aa.eq_1 (tw @h1 (tw @h2 @h3))) ?_;(repeat(refine Pn.mk ?_;intro N hN))))
  exact bp (b:=false) (.inl rfl) (sd @Nat.zero_add) (fW fun h=>by have:=h.xK;omega)
 (try((repeat(revert hN;revert N;apply Pn.out));refine wk (tw @aa.eq_1 (tw @h1 (tw @h2 @h3))) ?_;(repeat(refine Pn.mk ?_;intro N hN))))
 refine aX (fun n env st=>∃k:Nat,n=(s.aB.length)-k/\k<=(s.aB.length)/\env 3=.int .i64 (k:Int)/\(∀j:Nat,j<k->DN s j)) (s.aB.length) ⟨0,by omega,by omega,sl @aa.eq_1,fun _ h=>absurd h (Nat.not_lt_zero _)⟩ ?_
 rintro n_a env_a st_a ⟨k,rfl,ale,a3,nq⟩ dC
 have a0:=dC 0 (by kernel_rfl)
 simp only[go_sem, ↓reduceIte,Nat.reduceEqDiff,Nat.reduceAdd,Nat.reduceSub,Nat.reduceLeDiff,reduceCtorEq,aa]at a0
 clear dC
 by_cases hk:(k:Int)<(s.aB.length:Int)
 ·have cD:∀{e:Env},(e 3=.int .i64 (IntKind.i64.wrap ((k:Int)+1)))->(DN s k)->∃m0,m0<(s.aB.length)-k/\∃k:Nat,m0=(s.aB.length)-k/\k<=(s.aB.length)/\e 3=.int .i64 (k:Int)/\(∀j:Nat,j<k->DN s j):=fun x1 x2=>⟨_,by omega,k+1,rfl,by omega,(by rw[x1,az (by omega)]),(all_succ nq x2)⟩
  have fm:k<s.aB.length:=by omega
  have eU:=z7 fm
  have rl:=GO (qg s k).aO (TF k fm)
  have Mh:=l8 (qg s k).eI 1 4
  have Dy:=H0 s (qg s k).aO
  have sn:=Qb fm
  have kH:(¬DN s k)->¬iu s:=fun h hp=>h (hp.UZ k fm)
  have hw:IntKind.i64.wrap ((k:Int)+1)=(k:Int)+1:=bK (by omega)
  generalize rO:qg s k=gl at *
  cases hb:jR gl.aO
  ·rw[hb]at rl
   (repeat(first|((repeat(revert hN;revert N;apply Pn.out));refine wk (tw @a3 (tw @a0 (tw @hk (tw @eU (tw @ck.eq_1 @aa.eq_1))))) ?_;(repeat(refine Pn.mk ?_;intro N hN)))|((try apply Or.inl);refine⟨_,aw.x (rl) (sd (tw @a3 (tw @a0 (tw @hk (tw @eU (tw @ck.eq_1 @aa.eq_1)))))),?_⟩;refine hN _ _ ?_;clear hN N)))
   exact bp (b:=false) (.inl rfl) (sd @Nat.zero_add) (fW (kH fun h=>by rw[DN,rO,hb]at h;cases h.1))
  rw[hb]at rl
  cases eu:iP gl.eI 1 4
  ·rw[eu]at Mh
   (repeat(first|((repeat(revert hN;revert N;apply Pn.out));refine wk (tw @a3 (tw @a0 (tw @hk (tw @eU (tw @ck.eq_1 @aa.eq_1))))) ?_;(repeat(refine Pn.mk ?_;intro N hN)))|((try apply Or.inl);refine⟨_,aw.x (rl) (sd (tw @a3 (tw @a0 (tw @hk (tw @eU (tw @ck.eq_1 @aa.eq_1)))))),?_⟩;refine hN _ _ ?_;clear hN N)|((try apply Or.inl);refine⟨_,aw.x (Mh) (sd (tw @a3 (tw @a0 (tw @hk (tw @eU (tw @ck.eq_1 @aa.eq_1)))))),?_⟩;refine hN _ _ ?_;clear hN N)))
   exact bp (b:=false) (.inl rfl) (sd @Nat.zero_add) (fW (kH fun h=>by rw[DN,rO,eu]at h;cases h.2.1))
  rw[eu]at Mh
  rw[aa]at Dy
  by_cases hq:L2 s gl.aO=(k:Int)
  ·have hd:decide (L2 s gl.aO+1=(k:Int)+1)=true:=decide_eq_true (by omega)
   have mM:decide (L2 s gl.aO=(k:Int))=true:=decide_eq_true hq
   (repeat(first|((repeat(revert hN;revert N;apply Pn.out));refine wk (tw @a3 (tw @a0 (tw @hk (tw @eU (tw @hw (tw @hd (tw @mM (tw @ck.eq_1 @aa.eq_1)))))))) ?_;(repeat(refine Pn.mk ?_;intro N hN)))|((try apply Or.inl);refine⟨_,aw.x (rl) (sd (tw @a3 (tw @a0 (tw @hk (tw @eU (tw @hw (tw @hd (tw @mM (tw @ck.eq_1 @aa.eq_1))))))))),?_⟩;refine hN _ _ ?_;clear hN N)|((try apply Or.inl);refine⟨_,aw.x (Mh) (sd (tw @a3 (tw @a0 (tw @hk (tw @eU (tw @hw (tw @hd (tw @mM (tw @ck.eq_1 @aa.eq_1))))))))),?_⟩;refine hN _ _ ?_;clear hN N)|((try apply Or.inl);refine⟨_,aw.x (Dy) (sd (tw @a3 (tw @a0 (tw @hk (tw @eU (tw @hw (tw @hd (tw @mM (tw @ck.eq_1 @aa.eq_1))))))))),?_⟩;refine hN _ _ ?_;clear hN N)))
   exact cD (sd (tw @a3 (tw @a0 @hw))) (⟨by rw[rO];exact hb,by rw[rO];exact eu,fun j hj=>by rw[rO];exact sn.1 hq j hj⟩)
  ·have hd:decide (L2 s gl.aO+1=(k:Int)+1)=false:=decide_eq_false (by omega)
   have mM:decide (L2 s gl.aO=(k:Int))=false:=decide_eq_false hq
   (repeat(first|((repeat(revert hN;revert N;apply Pn.out));refine wk (tw @a3 (tw @a0 (tw @hk (tw @eU (tw @hw (tw @hd (tw @mM (tw @ck.eq_1 @aa.eq_1)))))))) ?_;(repeat(refine Pn.mk ?_;intro N hN)))|((try apply Or.inl);refine⟨_,aw.x (rl) (sd (tw @a3 (tw @a0 (tw @hk (tw @eU (tw @hw (tw @hd (tw @mM (tw @ck.eq_1 @aa.eq_1))))))))),?_⟩;refine hN _ _ ?_;clear hN N)|((try apply Or.inl);refine⟨_,aw.x (Mh) (sd (tw @a3 (tw @a0 (tw @hk (tw @eU (tw @hw (tw @hd (tw @mM (tw @ck.eq_1 @aa.eq_1))))))))),?_⟩;refine hN _ _ ?_;clear hN N)|((try apply Or.inl);refine⟨_,aw.x (Dy) (sd (tw @a3 (tw @a0 (tw @hk (tw @eU (tw @hw (tw @hd (tw @mM (tw @ck.eq_1 @aa.eq_1))))))))),?_⟩;refine hN _ _ ?_;clear hN N)))
   exact bp (b:=false) (.inl rfl) (sd @Nat.zero_add) (fW (kH fun h=>by
    rw[DN,rO]at h
    exact hq (sn.2 h.2.2)))
 ·have kM:k=s.aB.length:=by omega
  (try((repeat(revert hN;revert N;apply Pn.out));refine wk (tw @a3 (tw @a0 (tw @hk @aa.eq_1))) ?_;(repeat(refine Pn.mk ?_;intro N hN))))
  refine aX (fun n env st=>∃j:Nat,n=(s.aj.length)-j/\j<=(s.aj.length)/\env 5=.int .i64 (j:Int)/\(∀i:Nat,i<j->Bz s i)) (s.aj.length) ⟨0,by omega,by omega,sl (tw @a3 (tw @a0 @aa.eq_1)),fun _ h=>absurd h (Nat.not_lt_zero _)⟩ ?_
  rintro n_b env_b st_b ⟨j,rfl,ble,b5,bA0⟩ eX
  have b0:=eX 0 (by kernel_rfl)
  simp only[go_sem, ↓reduceIte,Nat.reduceEqDiff,Nat.reduceAdd,Nat.reduceSub,Nat.reduceLeDiff,reduceCtorEq,a3,a0,aa]at b0
  clear eX
  by_cases hj:(j:Int)<(s.aj.length:Int)
  ·have fh:∀{e:Env},(e 5=.int .i64 (IntKind.i64.wrap ((j:Int)+1)))->(Bz s j)->∃m0,m0<(s.aj.length)-j/\∃j:Nat,m0=(s.aj.length)-j/\j<=(s.aj.length)/\e 5=.int .i64 (j:Int)/\(∀i:Nat,i<j->Bz s i):=fun x1 x2=>⟨_,by omega,j+1,rfl,by omega,(by rw[x1,az (by omega)]),(all_succ bA0 x2)⟩
   have gW:j<s.aj.length:=by omega
   have lR:=AZ gW
   have rl:=GO (pA s j).aO (QW j gW)
   have Dy:=H3 s (pA s j).aO
   have sn:=Rs gW
   have kH:(¬Bz s j)->¬iu s:=fun h hp=>h (hp.tok j gW)
   generalize htd:pA s j=tl at *
   cases hb:jR tl.aO
   ·rw[hb]at rl
    (repeat(first|((repeat(revert hN;revert N;apply Pn.out));refine wk (tw @b5 (tw @b0 (tw @hj (tw @lR (tw @bP.eq_1 @aa.eq_1))))) ?_;(repeat(refine Pn.mk ?_;intro N hN)))|((try apply Or.inl);refine⟨_,aw.x (rl) (sd (tw @b5 (tw @b0 (tw @hj (tw @lR (tw @bP.eq_1 @aa.eq_1)))))),?_⟩;refine hN _ _ ?_;clear hN N)))
    exact bp (b:=false) (.inl rfl) (sd @Nat.zero_add) (fW (kH fun h=>by rw[Bz,htd,hb]at h;cases h.1))
   rw[hb]at rl
   by_cases h4:(tl.bU.length:Int)=4
   ·have Ab:decide ((tl.bU.length:Int)=4)=true:=decide_eq_true h4
    rw[aa]at Dy
    by_cases hq:Ps s tl.aO=(j:Int)
    ·have hd:decide (Ps s tl.aO=(j:Int))=true:=decide_eq_true hq
     (repeat(first|((repeat(revert hN;revert N;apply Pn.out));refine wk (tw @b5 (tw @b0 (tw @hj (tw @lR (tw @Ab (tw @hd (tw @bP.eq_1 @aa.eq_1))))))) ?_;(repeat(refine Pn.mk ?_;intro N hN)))|((try apply Or.inl);refine⟨_,aw.x (rl) (sd (tw @b5 (tw @b0 (tw @hj (tw @lR (tw @Ab (tw @hd (tw @bP.eq_1 @aa.eq_1)))))))),?_⟩;refine hN _ _ ?_;clear hN N)|((try apply Or.inl);refine⟨_,aw.x (Dy) (sd (tw @b5 (tw @b0 (tw @hj (tw @lR (tw @Ab (tw @hd (tw @bP.eq_1 @aa.eq_1)))))))),?_⟩;refine hN _ _ ?_;clear hN N)))
     refine aX (fun n env st=>∃i:Nat,n=(4)-i/\i<=(4)/\env 7=.int .i64 (i:Int)/\st.get ⟨167012007,st_b.next+1⟩=some ⟨true,2,[bP tl]⟩/\(∀x:Nat,x<i->iP (tl.bU.getD x 0) 0 s.aB.length=true)) (4) ⟨0,by omega,by omega,sl (tw @b5 (tw @b0 (tw @bP.eq_1 @aa.eq_1))),sl (tw @b5 (tw @b0 (tw @bP.eq_1 @aa.eq_1))),fun _ h=>absurd h (Nat.not_lt_zero _)⟩ ?_
     rintro n_c env_c st_c ⟨i,rfl,cle,c7,cg0,cA0⟩ iO
     have c0:=iO 0 (by kernel_rfl);have c5:=iO 5 (by kernel_rfl);have c6:=iO 6 (by kernel_rfl)
     simp only[go_sem, ↓reduceIte,Nat.reduceEqDiff,Nat.reduceAdd,Nat.reduceSub,Nat.reduceLeDiff,reduceCtorEq,b5,b0,bP,aa]at c0 c5 c6
     clear iO
     by_cases hi:(i:Int)<4
     ·have gN:∀{e:Env} {gg:Rows},(e 7=.int .i64 (IntKind.i64.wrap ((i:Int)+1)))->(gg ⟨167012007,st_b.next+1⟩=some ⟨true,2,[bP tl]⟩)->(iP (tl.bU.getD i 0) 0 s.aB.length=true)->∃m0,m0<(4)-i/\∃i:Nat,m0=(4)-i/\i<=(4)/\e 7=.int .i64 (i:Int)/\gg ⟨167012007,st_b.next+1⟩=some ⟨true,2,[bP tl]⟩/\(∀x:Nat,x<i->iP (tl.bU.getD x 0) 0 s.aB.length=true):=fun x1 x2 x3=>⟨_,by omega,i+1,rfl,by omega,(by rw[x1,az (by omega)]),x2,(all_succ cA0 x3)⟩
      have fI:i<tl.bU.length:=by omega
      have jm:(tl.bU.map aQ)[i]? =some (aQ (tl.bU.getD i 0)):=getD_map aQ fI
      have ql:tl.bU.getD i 0∈tl.bU:=by rw[List.getD_eq_getElem?_getD,List.getElem?_eq_getElem fI];exact List.getElem_mem fI
      have Kj:=l8 (tl.bU.getD i 0) 0 s.aB.length
      generalize Qz:tl.bU.getD i 0=gv at *
      cases hv:iP gv 0 s.aB.length
      ·rw[hv]at Kj
       (repeat(first|((repeat(revert hN;revert N;apply Pn.out));refine wk (tw @c7 (tw @cg0 (tw @c0 (tw @c5 (tw @c6 (tw @hi (tw @jm (tw @aQ.eq_1 (tw @bP.eq_1 @aa.eq_1))))))))) ?_;(repeat(refine Pn.mk ?_;intro N hN)))|((try apply Or.inl);refine⟨_,aw.x (Kj) (sd (tw @c7 (tw @cg0 (tw @c0 (tw @c5 (tw @c6 (tw @hi (tw @jm (tw @aQ.eq_1 (tw @bP.eq_1 @aa.eq_1)))))))))),?_⟩;refine hN _ _ ?_;clear hN N)))
       exact bp (b:=false) (.inl rfl) (sd @Nat.zero_add) (fW (kH fun h=>by
        rw[Bz,htd]at h
        have:=h.2.2.2 gv ql
        rw[hv]at this;cases this))
      ·rw[hv]at Kj
       (repeat(first|((repeat(revert hN;revert N;apply Pn.out));refine wk (tw @c7 (tw @cg0 (tw @c0 (tw @c5 (tw @c6 (tw @hi (tw @jm (tw @aQ.eq_1 (tw @bP.eq_1 @aa.eq_1))))))))) ?_;(repeat(refine Pn.mk ?_;intro N hN)))|((try apply Or.inl);refine⟨_,aw.x (Kj) (sd (tw @c7 (tw @cg0 (tw @c0 (tw @c5 (tw @c6 (tw @hi (tw @jm (tw @aQ.eq_1 (tw @bP.eq_1 @aa.eq_1)))))))))),?_⟩;refine hN _ _ ?_;clear hN N)))
       refine gN ?_ ?_ (hv)
       all_goals simp only[go_sem, ↓reduceIte,Nat.reduceEqDiff,Nat.reduceAdd,Nat.reduceSub,Nat.reduceLeDiff,reduceCtorEq,c7,cg0,c0,c5,c6]
     ·have hi4:i=4:=by omega
      (try((repeat(revert hN;revert N;apply Pn.out));refine wk (tw @c7 (tw @cg0 (tw @c0 (tw @c5 (tw @c6 (tw @hi (tw @bP.eq_1 @aa.eq_1))))))) ?_;(repeat(refine Pn.mk ?_;intro N hN))))
      exact fh (sd (tw @b5 (tw @b0 (tw @c7 (tw @cg0 (tw @c0 (tw @c5 @c6))))))) (⟨by rw[htd];exact hb,by rw[htd];omega,fun x hx=>(by rw[htd];exact sn.1 hq x hx),fun g hg=>by
       rw[htd]at hg
       obtain⟨x,hx,rfl⟩:=List.getElem_of_mem hg
       have:=cA0 x (by omega)
       rwa [List.getD_eq_getElem?_getD,List.getElem?_eq_getElem hx]at this⟩)
    ·have hd:decide (Ps s tl.aO=(j:Int))=false:=decide_eq_false hq
     (repeat(first|((repeat(revert hN;revert N;apply Pn.out));refine wk (tw @b5 (tw @b0 (tw @hj (tw @lR (tw @Ab (tw @hd (tw @bP.eq_1 @aa.eq_1))))))) ?_;(repeat(refine Pn.mk ?_;intro N hN)))|((try apply Or.inl);refine⟨_,aw.x (rl) (sd (tw @b5 (tw @b0 (tw @hj (tw @lR (tw @Ab (tw @hd (tw @bP.eq_1 @aa.eq_1)))))))),?_⟩;refine hN _ _ ?_;clear hN N)|((try apply Or.inl);refine⟨_,aw.x (Dy) (sd (tw @b5 (tw @b0 (tw @hj (tw @lR (tw @Ab (tw @hd (tw @bP.eq_1 @aa.eq_1)))))))),?_⟩;refine hN _ _ ?_;clear hN N)))
     exact bp (b:=false) (.inl rfl) (sd @Nat.zero_add) (fW (kH fun h=>by
      rw[Bz,htd]at h
      exact hq (sn.2 h.2.2.1)))
   ·have Ab:decide ((tl.bU.length:Int)=4)=false:=decide_eq_false h4
    (repeat(first|((repeat(revert hN;revert N;apply Pn.out));refine wk (tw @b5 (tw @b0 (tw @hj (tw @lR (tw @Ab (tw @bP.eq_1 @aa.eq_1)))))) ?_;(repeat(refine Pn.mk ?_;intro N hN)))|((try apply Or.inl);refine⟨_,aw.x (rl) (sd (tw @b5 (tw @b0 (tw @hj (tw @lR (tw @Ab (tw @bP.eq_1 @aa.eq_1))))))),?_⟩;refine hN _ _ ?_;clear hN N)))
    exact bp (b:=false) (.inl rfl) (sd @Nat.zero_add) (fW (kH fun h=>by rw[Bz,htd]at h;have:=h.2.1;omega))
  ·(try((repeat(revert hN;revert N;apply Pn.out));refine wk (tw @b5 (tw @b0 (tw @hj @aa.eq_1))) ?_;(repeat(refine Pn.mk ?_;intro N hN))))
   exact bp (b:=true) (.inl rfl) (sd @Nat.zero_add) (Dc ⟨by omega,by omega,by omega,fun i hi=>nq i (by omega),fun i hi=>bA0 i (by omega)⟩)
end Go.Proofs.YtgoljkjaameagaaGreat.V

namespace Go.Proofs.YtgoljkjaameagaaGreat.V
def iW (a b:ar):Bool:=decide (a.eG<b.eG)||(decide (a.eG=b.eG)&&decide (a.eM<b.eM))
theorem ve {a b:ar}:iW a b=true↔a.eG<b.eG∨(a.eG=b.eG/\a.eM<b.eM):=by simp[iW]
theorem pR {a b:ar}:iW a b=false↔¬(a.eG<b.eG∨(a.eG=b.eG/\a.eM<b.eM)):=by rw[<-ve,Bool.not_eq_true]
theorem xg {a b:ar} (h1:a.eM=b.eM) (h2:a.eG=b.eG):a=b:=by cases a;cases b;simp_all
theorem iD {a b c:ar} (h:iW a b=true) (k:iW b c=true):iW a c=true:=by rw[ve]at *;omega
theorem nB {a:ar}:iW a a=false:=by rw[pR];omega
theorem CK {a b:ar} (h:iW a b=true):iW b a=false:=by rw[ve]at h;rw[pR];omega
theorem vg {a b:ar} (h:iW a b=false) (ij:a≠b):iW b a=true:=by
 rw[pR]at h;rw[ve]
 by_cases hy:a.eG=b.eG
 ·by_cases hx:a.eM=b.eM
  ·exact absurd (xg hx hy) ij
  ·omega
 ·omega
def r8 (a b:Int):Int:=if a<b then -1 else if b<a then 1 else 0
def N2 (a b:Int):Int:=if a=0 then b else a
def qf (a b:ar):Int:=N2 (r8 a.eG b.eG) (r8 a.eM b.eM)
theorem nw (a b:ar):decide (qf a b<0)=iW a b:=by
 unfold qf N2 r8 iW
 by_cases h1:a.eG<b.eG
 ·simp[h1]
 ·by_cases h2:b.eG<a.eG
  ·have:¬a.eG=b.eG:=by omega
   simp[h1,h2,this]
  ·have:a.eG=b.eG:=by omega
   by_cases h3:a.eM<b.eM
   ·simp[h1,h2,this,h3]
   ·by_cases h4:b.eM<a.eM<;>simp[h1,h2,this,h3,h4]
theorem Hi (a b:ar):(qf a b=0)↔a=b:=by
 cases a;cases b
 unfold qf N2 r8
 simp only[ar.mk.injEq]
 split<;>(try split)<;>(try split)<;>(try split)<;>omega
def KU:ae:=⟨⟨0,0⟩,0⟩
def aY (l:List ae) (i:Nat):ae:=l.getD i KU
theorem hZ {l:List ae} {i:Nat} (h:i<l.length):aY l i=l[i]:=by simp[aY,List.getD_eq_getElem?_getD,h]
theorem ko {l:List ae} {i:Nat} (h:i<l.length):aY l i∈l:=by rw[hZ h];exact List.getElem_mem h
def qJ (l:List ae):Prop:=∀i j:Nat,i<j->j<l.length->iW (aY l i).bj (aY l j).bj=true
def qo (l:List ae) (p:ar):Nat:=l.findIdx fun c=>decide (c.bj=p)
def eO (l:List ae) (p:ar):Int:=if qo l p<l.length then(qo l p:Int)else -1
def km (l:List ae) (p:ar):Nat:=l.findIdx fun c=> !iW c.bj p
theorem Ax {l:List ae} {p:ar} {i:Nat} (hi:i<=l.length) (h1:∀x,x<i->iW (aY l x).bj p=true) (h2:i<l.length->iW (aY l i).bj p=false):km l p=i:=by
 unfold km
 by_cases h:i<l.length
 ·rw[List.findIdx_eq h]
  refine⟨by have:=h2 h;rw[hZ h]at this;simp[this],fun j hj=>?_⟩
  have:=h1 j hj
  rw[hZ (by omega)]at this
  simp[this]
 ·have:i=l.length:=by omega
  subst this
  refine List.findIdx_eq_length_of_false fun x hx=>?_
  obtain⟨j,hj,rfl⟩:=List.getElem_of_mem hx
  have:=h1 j hj
  rw[hZ hj]at this
  simp[this]
theorem GI {l:List ae} {p:ar} (hR:qJ l):eO l p=if km l p<l.length/\(aY l (km l p)).bj=p then(km l p:Int)else -1:=by
 by_cases h:∃i,i<l.length/\(aY l i).bj=p
 ·obtain⟨i,hi,hp⟩:=h
  have h1:km l p=i:=Ax (by omega) (fun x hx=>by rw[<-hp];exact hR x i hx hi) fun _=>by rw[hp];exact nB
  have h2:qo l p=i:=by
   rw[qo,List.findIdx_eq hi]
   refine⟨by rw[hZ hi]at hp;simpa using hp,fun j hj=>?_⟩
   have:=hR j i hj hi
   rw[hp,hZ (by omega)]at this
   simp only[decide_eq_false_iff_not]
   intro hc
   rw[hc,nB]at this
   cases this
  rw[eO,h1,h2,if_pos hi,if_pos ⟨hi,hp⟩]
 ·have h2:¬qo l p<l.length:=by
   rw[qo,List.findIdx_lt_length]
   rintro⟨c,hc,he⟩
   obtain⟨j,hj,rfl⟩:=List.getElem_of_mem hc
   exact h ⟨j,hj,by rw[hZ hj];simpa using he⟩
  rw[eO,if_neg h2,if_neg]
  rintro⟨h3,h4⟩
  exact h ⟨_,h3,h4⟩
theorem kS {l:List ae} {p:ar} (h:0<=eO l p):(eO l p).toNat<l.length/\(aY l (eO l p).toNat).bj=p:=by
 unfold eO at h ⊢
 split at h
 ·rename_i hc
  rw[if_pos hc]
  refine⟨by omega,?_⟩
  have:=of_decide_eq_true (List.findIdx_getElem (p:=fun c:ae=>decide (c.bj=p)) (xs:=l) (w:=hc))
  rw[Int.toNat_natCast,hZ hc]
  exact this
 ·omega
def gH (l:List ae) (p:ar):Int:=if 0<=eO l p then(aY l (eO l p).toNat).bQ else -1
end Go.Proofs.YtgoljkjaameagaaGreat.V

namespace Go.Proofs.YtgoljkjaameagaaGreat.V
open Go.RowKit
attribute [local irreducible] ek wpOps fK Call
attribute [local go_sem] aI fw eH fE fD dd upd cm K.av cG AV.cells AV.cell rowOf rowsOf part ld rowAt bL bY dx dO gz bE cW dY fC eY dj dS cU cR dG dH bH aZ cJ bG cL cK dQ dU dR cI bJ cV dP bF aL cP cz gy bq cF bI aW dq bm dy AV.undef bw bz dJ dM dD dI cE dX ea cq dW dV cN cQ List.getD_cons_zero List.getD_cons_succ List.getD_nil List.all_cons List.all_nil Bool.and_true Bool.true_and Bool.and_self Bool.not_true Bool.not_false Option.map_some Option.map_none Option.bind_some Option.bind_none List.length_cons List.length_nil List.take_succ_cons List.take_zero List.take_nil List.drop_succ_cons List.drop_zero List.drop_nil List.head?_cons List.map_cons List.map_nil List.getElem?_cons_zero List.getElem?_cons_succ List.cons_append List.nil_append List.append_nil List.length_map List.set_cons_zero List.set_cons_succ Nat.reduceMul eq_self Int.toNat_natCast Int.natCast_nonneg and_self true_and and_true decide_true decide_false Bool.false_eq_true Nat.zero_add Nat.add_zero List.contains_cons List.contains_nil Bool.or_false Bool.false_or beq_self_eq_true Nat.reduceBEq ne_eq not_true_eq_false not_false_eq_true Id.mk.injEq false_and and_false Nat.reduceLT Int.reduceLE Int.reduceLT Int.reduceToNat Int.reduceNeg Int.reduceAdd Nat.le_refl List.length_append beq_true beq_false Bool.not_eq_eq_eq_not or_false false_or dK aq au aH bf bt bZ aU bh aT bc cH bx
theorem lX (a b:ar):aw Tryz.prog 175 [.agg (ai a),.agg (ai b)] (.bool (iW a b)):=by
 refine aw.body eK rfl fun hl n0=>?_
 clear hl
 by_cases h0:a.eG<b.eG
 ·(try((repeat(revert hN;revert N;apply Pn.out));refine wk (tw @ai.eq_1 @h0) ?_;(repeat(refine Pn.mk ?_;intro N hN))))
  exact bp (b:=true) (.inl rfl) (sd @Nat.zero_add) (by simp[iW,h0])
 ·by_cases h1:a.eG=b.eG
  ·have h2:¬b.eG<b.eG:=by omega
   (try((repeat(revert hN;revert N;apply Pn.out));refine wk (tw @ai.eq_1 (tw @h1 @h2)) ?_;(repeat(refine Pn.mk ?_;intro N hN))))
   exact bp (b:=decide (a.eM<b.eM)) (.inl rfl) (sd @Nat.zero_add) (by simp[iW,h1])
  ·(try((repeat(revert hN;revert N;apply Pn.out));refine wk (tw @ai.eq_1 (tw @h0 @h1)) ?_;(repeat(refine Pn.mk ?_;intro N hN))))
   exact bp (b:=false) (.inl rfl) (sd @Nat.zero_add) (by simp[iW,h0,h1])
theorem fU {l:List ae} {i:Nat} (h:i<l.length):(l.map ah)[i]? =some (ah (aY l i)):=getD_map ah h
def G4 (l:List ae) (i:Nat):Prop:=AK (aY l i).bj=true/\iP (aY l i).bQ 0 159=true/\(0<i->iW (aY l (i-1)).bj (aY l i).bj=true)
structure kJ (l:List ae):Prop where
 zW:l.length<=500
 ok:∀i,i<l.length->G4 l i
noncomputable def o5 (l:List ae):Bool:=@decide (kJ l) (Classical.propDecidable _)
theorem Hz {l:List ae}:o5 l=true↔kJ l:=by simp[o5]
theorem ki {l:List ae} (h:¬kJ l):false=o5 l:=by simp[o5,h]
theorem yR {l:List ae} (h:kJ l):true=o5 l:=by simp[o5,h]
theorem kJ.Rm {l:List ae} (h:kJ l):qJ l:=by
 intro i j EM hj
 induction j with
 |zero=>omega
 |succ j ih=>
  have h1:=(h.ok (j+1) hj).2.2 (by omega)
  rw[Nat.add_sub_cancel]at h1
  by_cases he:i=j
  ·subst he;exact h1
  ·exact iD (ih (by omega) (by omega)) h1
theorem kJ.pt {l:List ae} (h:kJ l) {i:Nat} (hi:i<l.length):AK (aY l i).bj=true:=(h.ok i hi).1
theorem tG {p:ar} (h:AK p=true):iB p.eM/\iB p.eG:=by
 unfold AK at h
 simp only[Bool.and_eq_true]at h
 have:=eD h.1;have:=eD h.2
 unfold iB;omega
theorem H4 (l:List ae):aw Tryz.prog 219 [.dp [.sl (l.map ah)]] (.bool (o5 l)):=by
 refine aw.body eK rfl fun hl n0=>?_
 clear hl
 by_cases h1:(500:Int)<(l.length:Int)
 ·(try((repeat(revert hN;revert N;apply Pn.out));refine wk @h1 ?_;(repeat(refine Pn.mk ?_;intro N hN))))
  exact bp (b:=false) (.inl rfl) (sd @Nat.zero_add) (ki fun h=>by have:=h.zW;omega)
 (try((repeat(revert hN;revert N;apply Pn.out));refine wk @h1 ?_;(repeat(refine Pn.mk ?_;intro N hN))))
 refine aX (fun n env st=>∃k:Nat,n=(l.length)-k/\k<=(l.length)/\env 3=.int .i64 (k:Int)/\(∀j:Nat,j<k->G4 l j)) (l.length) ⟨0,by omega,by omega,sl @Nat.zero_add,fun _ h=>absurd h (Nat.not_lt_zero _)⟩ ?_
 rintro n_a env_a st_a ⟨k,rfl,ale,a3,nq⟩ dC
 have a0:=dC 0 (by kernel_rfl)
 simp only[go_sem, ↓reduceIte,Nat.reduceEqDiff,Nat.reduceAdd,Nat.reduceSub,Nat.reduceLeDiff,reduceCtorEq]at a0
 clear dC
 by_cases hk:(k:Int)<(l.length:Int)
 ·have cD:∀{e:Env},(e 3=.int .i64 (IntKind.i64.wrap ((k:Int)+1)))->(G4 l k)->∃m0,m0<(l.length)-k/\∃k:Nat,m0=(l.length)-k/\k<=(l.length)/\e 3=.int .i64 (k:Int)/\(∀j:Nat,j<k->G4 l j):=fun x1 x2=>⟨_,by omega,k+1,rfl,by omega,(by rw[x1,az (by omega)]),(all_succ nq x2)⟩
  have fm:k<l.length:=by omega
  have eU:=fU fm
  have kH:(¬G4 l k)->¬kJ l:=fun h hp=>h (hp.ok k fm)
  have hp:=wP (aY l k).bj
  have ht:=l8 (aY l k).bQ 0 159
  cases b1:AK (aY l k).bj
  ·rw[b1]at hp
   (repeat(first|((repeat(revert hN;revert N;apply Pn.out));refine wk (tw @a3 (tw @a0 (tw @hk (tw @eU (tw @ah.eq_1 @ai.eq_1))))) ?_;(repeat(refine Pn.mk ?_;intro N hN)))|((try apply Or.inl);refine⟨_,aw.x (hp) (sd (tw @a3 (tw @a0 (tw @hk (tw @eU (tw @ah.eq_1 @ai.eq_1)))))),?_⟩;refine hN _ _ ?_;clear hN N)))
   exact bp (b:=false) (.inl rfl) (sd @Nat.zero_add) (ki (kH fun h=>by rw[G4,b1]at h;cases h.1))
  rw[b1]at hp
  cases b2:iP (aY l k).bQ 0 159
  ·rw[b2]at ht
   (repeat(first|((repeat(revert hN;revert N;apply Pn.out));refine wk (tw @a3 (tw @a0 (tw @hk (tw @eU (tw @ah.eq_1 @ai.eq_1))))) ?_;(repeat(refine Pn.mk ?_;intro N hN)))|((try apply Or.inl);refine⟨_,aw.x (hp) (sd (tw @a3 (tw @a0 (tw @hk (tw @eU (tw @ah.eq_1 @ai.eq_1)))))),?_⟩;refine hN _ _ ?_;clear hN N)|((try apply Or.inl);refine⟨_,aw.x (ht) (sd (tw @a3 (tw @a0 (tw @hk (tw @eU (tw @ah.eq_1 @ai.eq_1)))))),?_⟩;refine hN _ _ ?_;clear hN N)))
   exact bp (b:=false) (.inl rfl) (sd @Nat.zero_add) (ki (kH fun h=>by rw[G4,b2]at h;cases h.2.1))
  rw[b2]at ht
  by_cases h0:(0:Int)<(k:Int)
  ·have s7:=fU (l:=l) (i:=k-1) (by omega)
   have hw:IntKind.i64.wrap ((k:Int)-1)=((k-1:Nat):Int):=by rw[bK (by have:=fm;omega)];omega
   have hq:=lX (aY l (k-1)).bj (aY l k).bj
   cases b3:iW (aY l (k-1)).bj (aY l k).bj
   ·rw[b3]at hq
    (repeat(first|((repeat(revert hN;revert N;apply Pn.out));refine wk (tw @a3 (tw @a0 (tw @hk (tw @eU (tw @s7 (tw @h0 (tw @hw (tw @ah.eq_1 @ai.eq_1)))))))) ?_;(repeat(refine Pn.mk ?_;intro N hN)))|((try apply Or.inl);refine⟨_,aw.x (hp) (sd (tw @a3 (tw @a0 (tw @hk (tw @eU (tw @s7 (tw @h0 (tw @hw (tw @ah.eq_1 @ai.eq_1))))))))),?_⟩;refine hN _ _ ?_;clear hN N)|((try apply Or.inl);refine⟨_,aw.x (ht) (sd (tw @a3 (tw @a0 (tw @hk (tw @eU (tw @s7 (tw @h0 (tw @hw (tw @ah.eq_1 @ai.eq_1))))))))),?_⟩;refine hN _ _ ?_;clear hN N)|((try apply Or.inl);refine⟨_,aw.x (hq) (sd (tw @a3 (tw @a0 (tw @hk (tw @eU (tw @s7 (tw @h0 (tw @hw (tw @ah.eq_1 @ai.eq_1))))))))),?_⟩;refine hN _ _ ?_;clear hN N)))
    exact bp (b:=false) (.inl rfl) (sd @Nat.zero_add) (ki (kH fun h=>by have:=h.2.2 (by omega);rw[b3]at this;cases this))
   ·rw[b3]at hq
    (repeat(first|((repeat(revert hN;revert N;apply Pn.out));refine wk (tw @a3 (tw @a0 (tw @hk (tw @eU (tw @s7 (tw @h0 (tw @hw (tw @ah.eq_1 @ai.eq_1)))))))) ?_;(repeat(refine Pn.mk ?_;intro N hN)))|((try apply Or.inl);refine⟨_,aw.x (hp) (sd (tw @a3 (tw @a0 (tw @hk (tw @eU (tw @s7 (tw @h0 (tw @hw (tw @ah.eq_1 @ai.eq_1))))))))),?_⟩;refine hN _ _ ?_;clear hN N)|((try apply Or.inl);refine⟨_,aw.x (ht) (sd (tw @a3 (tw @a0 (tw @hk (tw @eU (tw @s7 (tw @h0 (tw @hw (tw @ah.eq_1 @ai.eq_1))))))))),?_⟩;refine hN _ _ ?_;clear hN N)|((try apply Or.inl);refine⟨_,aw.x (hq) (sd (tw @a3 (tw @a0 (tw @hk (tw @eU (tw @s7 (tw @h0 (tw @hw (tw @ah.eq_1 @ai.eq_1))))))))),?_⟩;refine hN _ _ ?_;clear hN N)))
    exact cD (sd (tw @a3 @a0)) (⟨b1,b2,fun _=>b3⟩)
  ·have ue:k=0:=by omega
   (repeat(first|((repeat(revert hN;revert N;apply Pn.out));refine wk (tw @a3 (tw @a0 (tw @hk (tw @eU (tw @h0 (tw @ah.eq_1 @ai.eq_1)))))) ?_;(repeat(refine Pn.mk ?_;intro N hN)))|((try apply Or.inl);refine⟨_,aw.x (hp) (sd (tw @a3 (tw @a0 (tw @hk (tw @eU (tw @h0 (tw @ah.eq_1 @ai.eq_1))))))),?_⟩;refine hN _ _ ?_;clear hN N)|((try apply Or.inl);refine⟨_,aw.x (ht) (sd (tw @a3 (tw @a0 (tw @hk (tw @eU (tw @h0 (tw @ah.eq_1 @ai.eq_1))))))),?_⟩;refine hN _ _ ?_;clear hN N)))
   exact cD (sd (tw @a3 @a0)) (⟨b1,b2,fun h=>by omega⟩)
 ·(try((repeat(revert hN;revert N;apply Pn.out));refine wk (tw @a3 (tw @a0 @hk)) ?_;(repeat(refine Pn.mk ?_;intro N hN))))
  exact bp (b:=true) (.inl rfl) (sd @Nat.zero_add) (yR ⟨by omega,fun i hi=>nq i (by omega)⟩)
theorem yM (a b:Int):aw Tryz.prog 210 [.int .i64 a,.int .i64 b] (.int .i64 (r8 a b)):=by
 have nan:∀x:Int,aw Tryz.prog 273 [.int .i64 x] (.bool false):=fun x=>by
  refine aw.body eK rfl fun hl n0=>?_
  clear hl
  have e:decide (x=x)=true:=decide_eq_true rfl
  (try((repeat(revert hN;revert N;apply Pn.out));refine wk @e ?_;(repeat(refine Pn.mk ?_;intro N hN))))
  exact bp (b:=false) (.inl rfl) (sd @Nat.zero_add) rfl
 refine aw.body eK rfl fun hl n0=>?_
 clear hl
 have ha:=nan a
 have hb:=nan b
 by_cases h1:a<b
 ·(repeat(first|((repeat(revert hN;revert N;apply Pn.out));refine wk @h1 ?_;(repeat(refine Pn.mk ?_;intro N hN)))|((try apply Or.inl);refine⟨_,aw.x (ha) (sd @h1),?_⟩;refine hN _ _ ?_;clear hN N)|((try apply Or.inl);refine⟨_,aw.x (hb) (sd @h1),?_⟩;refine hN _ _ ?_;clear hN N)))
  exact db (b:=-1) (.inl rfl) (sd @Nat.zero_add) (by rw[r8,if_pos h1])
 by_cases h2:b<a
 ·(repeat(first|((repeat(revert hN;revert N;apply Pn.out));refine wk (tw @h1 @h2) ?_;(repeat(refine Pn.mk ?_;intro N hN)))|((try apply Or.inl);refine⟨_,aw.x (ha) (sd (tw @h1 @h2)),?_⟩;refine hN _ _ ?_;clear hN N)|((try apply Or.inl);refine⟨_,aw.x (hb) (sd (tw @h1 @h2)),?_⟩;refine hN _ _ ?_;clear hN N)))
  exact db (b:=1) (.inl rfl) (sd @Nat.zero_add) (by rw[r8,if_neg h1,if_pos h2])
 ·(repeat(first|((repeat(revert hN;revert N;apply Pn.out));refine wk (tw @h1 @h2) ?_;(repeat(refine Pn.mk ?_;intro N hN)))|((try apply Or.inl);refine⟨_,aw.x (ha) (sd (tw @h1 @h2)),?_⟩;refine hN _ _ ?_;clear hN N)|((try apply Or.inl);refine⟨_,aw.x (hb) (sd (tw @h1 @h2)),?_⟩;refine hN _ _ ?_;clear hN N)))
  exact db (b:=0) (.inl rfl) (sd @Nat.zero_add) (by rw[r8,if_neg h1,if_neg h2])
def Jc:List Int->Int
 |[]=>0
 |a::r=>if a=0 then Jc r else a
theorem K2:∀{l:List Int} {k:Nat} (hk:k<l.length),l[k]≠0->(∀j (h:j<l.length),j<k->l[j]=0)->Jc l=l[k]
 |a::r,0,_,h,_=>by
  have h':a≠0:=h
  rw[Jc,if_neg h'];rfl
 |a::r,k+1,hk,h,h0=>by
  have h':a=0:=h0 0 (by simp) (by omega)
  rw[Jc,if_pos h',K2 (k:=k) (by simpa using hk) h fun j hj yY=>h0 (j+1) (by simpa using hj) (by omega)];rfl
theorem C4:∀{l:List Int},(∀j (h:j<l.length),l[j]=0)->Jc l=0
 |[],_=>rfl
 |a::r,h=>by
  have h':a=0:=h 0 (by simp)
  rw[Jc,if_pos h',C4 fun j hj=>h (j+1) (by simpa using hj)]
theorem N3 (a b:Int):Jc [a,b]=N2 a b:=by
 unfold N2
 by_cases h:a=0
 ·rw[Jc,if_pos h,if_pos h,Jc,Jc];split<;>simp_all
 ·rw[Jc,if_neg h,if_neg h]
theorem MB (l:List Int):aw Tryz.prog 233 [.sl (l.map aQ)] (.int .i64 (Jc l)):=by
 refine aw.body eK rfl fun hl n0=>?_
 have hlen:l.length<=9223372036854775807:=by simpa using(hl (.sl (l.map aQ)) (by simp)).len
 clear hl
 (try((repeat(revert hN;revert N;apply Pn.out));refine wk @Nat.zero_add ?_;(repeat(refine Pn.mk ?_;intro N hN))))
 refine aX (fun n env st=>∃k:Nat,n=(l.length)-k/\k<=(l.length)/\env 8=.int .i64 (k:Int)/\(∀j:Nat,j<k->∀h:j<l.length,l[j]=0)) (l.length) ⟨0,by omega,by omega,sl @Nat.zero_add,fun _ h=>absurd h (Nat.not_lt_zero _)⟩ ?_
 rintro n_a env_a st_a ⟨k,rfl,ale,a8,nq⟩ dC
 have a3:=dC 3 (by kernel_rfl);have a6:=dC 6 (by kernel_rfl);have a7:=dC 7 (by kernel_rfl)
 simp only[go_sem, ↓reduceIte,Nat.reduceEqDiff,Nat.reduceAdd,Nat.reduceSub,Nat.reduceLeDiff,reduceCtorEq]at a3 a6 a7
 clear dC
 by_cases hk:(k:Int)<(l.length:Int)
 ·have cD:∀{e:Env},(e 8=.int .i64 (IntKind.i64.wrap ((k:Int)+1)))->(∀h:k<l.length,l[k]=0)->∃m0,m0<(l.length)-k/\∃k:Nat,m0=(l.length)-k/\k<=(l.length)/\e 8=.int .i64 (k:Int)/\(∀j:Nat,j<k->∀h:j<l.length,l[j]=0):=fun x1 x2=>⟨_,by omega,k+1,rfl,by omega,(by rw[x1,az (by omega)]),(all_succ nq x2)⟩
  have fm:k<l.length:=by omega
  have eU:(l.map aQ)[k]? =some (aQ l[k]):=by simp[fm]
  generalize hv:l[k]=v at eU
  by_cases h0:v=0
  ·have e:decide (v=0)=true:=decide_eq_true h0
   (try((repeat(revert hN;revert N;apply Pn.out));refine wk (tw @a8 (tw @a3 (tw @a6 (tw @a7 (tw @e (tw @hk (tw @eU @aQ.eq_1))))))) ?_;(repeat(refine Pn.mk ?_;intro N hN))))
   exact cD (sd (tw @a8 (tw @a3 (tw @a6 @a7)))) (fun _=>hv.trans h0)
  ·have e:decide (v=0)=false:=decide_eq_false h0
   (try((repeat(revert hN;revert N;apply Pn.out));refine wk (tw @a8 (tw @a3 (tw @a6 (tw @a7 (tw @e (tw @hk (tw @eU @aQ.eq_1))))))) ?_;(repeat(refine Pn.mk ?_;intro N hN))))
   exact db (b:=v) (.inl rfl) (sd @Nat.zero_add) (by rw[K2 fm (by rw[hv];exact h0) fun j h hj=>nq j hj h,hv])
 ·(try((repeat(revert hN;revert N;apply Pn.out));refine wk (tw @a8 (tw @a3 (tw @a6 (tw @a7 @hk)))) ?_;(repeat(refine Pn.mk ?_;intro N hN))))
  exact db (b:=0) (.inl rfl) (sd @Nat.zero_add) (by rw[C4 fun j h=>nq j (by omega) h])
section
attribute [local go_sem] List.drop_zero List.take_succ_cons List.take_zero List.length_cons List.length_nil gE zZ o8
theorem nX (a b:ar):aw Tryz.prog 154 [.agg (ai a),.agg (ai b)] (.int .i64 (qf a b)):=by
 refine aw.body eK rfl fun hl n0=>?_
 clear hl
 have h1:=yM a.eG b.eG
 have h2:=yM a.eM b.eM
 have h3:=MB [r8 a.eG b.eG,r8 a.eM b.eM]
 rw[N3,List.map_cons,List.map_cons,List.map_nil,aQ,aQ]at h3
 (repeat(first|((repeat(revert hN;revert N;apply Pn.out));refine wk @ai.eq_1 ?_;(repeat(refine Pn.mk ?_;intro N hN)))|((try apply Or.inl);refine⟨_,aw.x (h1) (sd @ai.eq_1),?_⟩;refine hN _ _ ?_;clear hN N)|((try apply Or.inl);refine⟨_,aw.x (h2) (sd @ai.eq_1),?_⟩;refine hN _ _ ?_;clear hN N)|((try apply Or.inl);refine⟨_,aw.x (h3) (sd @ai.eq_1),?_⟩;refine hN _ _ ?_;clear hN N)))
 exact db (b:=qf a b) (.inl rfl) (by simp only[go_sem, ↓reduceIte,Nat.reduceEqDiff,Nat.reduceAdd,Nat.reduceSub,Nat.reduceLeDiff,reduceCtorEq,qf]) rfl
end
theorem Nv (a b:ar):aw Tryz.prog 179 [.agg (ai a),.agg (ai b)] (.bool (iW a b)):=by
 refine aw.body eK rfl fun hl n0=>?_
 clear hl
 have h1:=nX a b
 rw[ai,ai]at h1
 (repeat(first|((repeat(revert hN;revert N;apply Pn.out));refine wk @ai.eq_1 ?_;(repeat(refine Pn.mk ?_;intro N hN)))|((try apply Or.inl);refine⟨_,aw.x (h1) (sd @ai.eq_1),?_⟩;refine hN _ _ ?_;clear hN N)))
 exact bp (b:=decide (qf a b<0)) (.inl rfl) (sd @Nat.zero_add) (nw a b)
theorem kE (t:ae) (p:ar):aw Tryz.prog 164 [.agg (ah t),.agg (ai p)] (.int .i64 (qf t.bj p)):=by
 refine aw.body eK rfl fun hl n0=>?_
 clear hl
 have h1:=nX t.bj p
 rw[ai,ai]at h1
 (repeat(first|((repeat(revert hN;revert N;apply Pn.out));refine wk (tw @ah.eq_1 @ai.eq_1) ?_;(repeat(refine Pn.mk ?_;intro N hN)))|((try apply Or.inl);refine⟨_,aw.x (h1) (sd (tw @ah.eq_1 @ai.eq_1)),?_⟩;refine hN _ _ ?_;clear hN N)))
 exact db (b:=qf t.bj p) (.inl rfl) (sd @Nat.zero_add) rfl
theorem HE (l:List ae):aw Tryz.prog 200 [.agg [.sl (l.map ah)]] (.bool (o5 l)):=by
 refine aw.body eK rfl fun hl n0=>?_
 have hlen:l.length<=9223372036854775807:=by
  have h1:=(hl (.agg [.sl (l.map ah)]) (by simp)).PF (a:=.sl (l.map ah)) (by simp)
  simpa using h1.len
 clear hl
 (try((repeat(revert hN;revert N;apply Pn.out));refine wk @Nat.zero_add ?_;(repeat(refine Pn.mk ?_;intro N hN))))
 refine aX (fun n env st=>∃k:Nat,n=(l.length)-k/\k<=(l.length)/\env 8=.int .i64 (k:Int)/\st.get ⟨200000000,n0⟩=some ⟨true,1,[[.sl (l.map ah)]]⟩/\(∀j:Nat,j<k->G4 l j)) (l.length) ⟨0,by omega,by omega,sl @Nat.zero_add,sl @Nat.zero_add,fun _ h=>absurd h (Nat.not_lt_zero _)⟩ ?_
 rintro n_a env_a st_a ⟨k,rfl,ale,a8,ag0,nq⟩ dC
 have a1:=dC 1 (by kernel_rfl);have a6:=dC 6 (by kernel_rfl);have a7:=dC 7 (by kernel_rfl)
 simp only[go_sem, ↓reduceIte,Nat.reduceEqDiff,Nat.reduceAdd,Nat.reduceSub,Nat.reduceLeDiff,reduceCtorEq]at a1 a6 a7
 clear dC
 by_cases hk:(k:Int)<(l.length:Int)
 ·have cD:∀{e:Env} {gg:Rows},(e 8=.int .i64 (IntKind.i64.wrap ((k:Int)+1)))->(gg ⟨200000000,n0⟩=some ⟨true,1,[[.sl (l.map ah)]]⟩)->(G4 l k)->∃m0,m0<(l.length)-k/\∃k:Nat,m0=(l.length)-k/\k<=(l.length)/\e 8=.int .i64 (k:Int)/\gg ⟨200000000,n0⟩=some ⟨true,1,[[.sl (l.map ah)]]⟩/\(∀j:Nat,j<k->G4 l j):=fun x1 x2 x3=>⟨_,by omega,k+1,rfl,by omega,(by rw[x1,az (by omega)]),x2,(all_succ nq x3)⟩
  have fm:k<l.length:=by omega
  have eU:=fU fm
  have kH:(¬G4 l k)->¬kJ l:=fun h hp=>h (hp.ok k fm)
  have hp:=rV (aY l k).bj
  have ht:=y9 (aY l k).bQ 160 (by omega) (by omega)
  rw[show(160:Int)-1=159 from rfl]at ht
  cases b1:AK (aY l k).bj
  ·rw[b1]at hp
   (repeat(first|((repeat(revert hN;revert N;apply Pn.out));refine wk (tw @a8 (tw @ag0 (tw @a1 (tw @a6 (tw @a7 (tw @hk (tw @eU (tw @ah.eq_1 @ai.eq_1)))))))) ?_;(repeat(refine Pn.mk ?_;intro N hN)))|((try apply Or.inl);refine⟨_,aw.x (hp) (sd (tw @a8 (tw @ag0 (tw @a1 (tw @a6 (tw @a7 (tw @hk (tw @eU (tw @ah.eq_1 @ai.eq_1))))))))),?_⟩;refine hN _ _ ?_;clear hN N)))
   exact bp (b:=false) (.inl rfl) (sd @Nat.zero_add) (ki (kH fun h=>by rw[G4,b1]at h;cases h.1))
  rw[b1]at hp
  cases b2:iP (aY l k).bQ 0 159
  ·rw[b2]at ht
   (repeat(first|((repeat(revert hN;revert N;apply Pn.out));refine wk (tw @a8 (tw @ag0 (tw @a1 (tw @a6 (tw @a7 (tw @hk (tw @eU (tw @ah.eq_1 @ai.eq_1)))))))) ?_;(repeat(refine Pn.mk ?_;intro N hN)))|((try apply Or.inl);refine⟨_,aw.x (hp) (sd (tw @a8 (tw @ag0 (tw @a1 (tw @a6 (tw @a7 (tw @hk (tw @eU (tw @ah.eq_1 @ai.eq_1))))))))),?_⟩;refine hN _ _ ?_;clear hN N)|((try apply Or.inl);refine⟨_,aw.x (ht) (sd (tw @a8 (tw @ag0 (tw @a1 (tw @a6 (tw @a7 (tw @hk (tw @eU (tw @ah.eq_1 @ai.eq_1))))))))),?_⟩;refine hN _ _ ?_;clear hN N)))
   exact bp (b:=false) (.inl rfl) (sd @Nat.zero_add) (ki (kH fun h=>by rw[G4,b2]at h;cases h.2.1))
  rw[b2]at ht
  by_cases h0:(0:Int)<(k:Int)
  ·have s7:=fU (l:=l) (i:=k-1) (by omega)
   have hw:IntKind.i64.wrap ((k:Int)-1)=((k-1:Nat):Int):=by rw[bK (by omega)];omega
   have hq:=Nv (aY l (k-1)).bj (aY l k).bj
   cases b3:iW (aY l (k-1)).bj (aY l k).bj
   ·rw[b3]at hq
    (repeat(first|((repeat(revert hN;revert N;apply Pn.out));refine wk (tw @a8 (tw @ag0 (tw @a1 (tw @a6 (tw @a7 (tw @hk (tw @eU (tw @s7 (tw @h0 (tw @hw (tw @ah.eq_1 @ai.eq_1))))))))))) ?_;(repeat(refine Pn.mk ?_;intro N hN)))|((try apply Or.inl);refine⟨_,aw.x (hp) (sd (tw @a8 (tw @ag0 (tw @a1 (tw @a6 (tw @a7 (tw @hk (tw @eU (tw @s7 (tw @h0 (tw @hw (tw @ah.eq_1 @ai.eq_1)))))))))))),?_⟩;refine hN _ _ ?_;clear hN N)|((try apply Or.inl);refine⟨_,aw.x (ht) (sd (tw @a8 (tw @ag0 (tw @a1 (tw @a6 (tw @a7 (tw @hk (tw @eU (tw @s7 (tw @h0 (tw @hw (tw @ah.eq_1 @ai.eq_1)))))))))))),?_⟩;refine hN _ _ ?_;clear hN N)|((try apply Or.inl);refine⟨_,aw.x (hq) (sd (tw @a8 (tw @ag0 (tw @a1 (tw @a6 (tw @a7 (tw @hk (tw @eU (tw @s7 (tw @h0 (tw @hw (tw @ah.eq_1 @ai.eq_1)))))))))))),?_⟩;refine hN _ _ ?_;clear hN N)))
    exact bp (b:=false) (.inl rfl) (sd @Nat.zero_add) (ki (kH fun h=>by have:=h.2.2 (by omega);rw[b3]at this;cases this))
   ·rw[b3]at hq
    (repeat(first|((repeat(revert hN;revert N;apply Pn.out));refine wk (tw @a8 (tw @ag0 (tw @a1 (tw @a6 (tw @a7 (tw @hk (tw @eU (tw @s7 (tw @h0 (tw @hw (tw @ah.eq_1 @ai.eq_1))))))))))) ?_;(repeat(refine Pn.mk ?_;intro N hN)))|((try apply Or.inl);refine⟨_,aw.x (hp) (sd (tw @a8 (tw @ag0 (tw @a1 (tw @a6 (tw @a7 (tw @hk (tw @eU (tw @s7 (tw @h0 (tw @hw (tw @ah.eq_1 @ai.eq_1)))))))))))),?_⟩;refine hN _ _ ?_;clear hN N)|((try apply Or.inl);refine⟨_,aw.x (ht) (sd (tw @a8 (tw @ag0 (tw @a1 (tw @a6 (tw @a7 (tw @hk (tw @eU (tw @s7 (tw @h0 (tw @hw (tw @ah.eq_1 @ai.eq_1)))))))))))),?_⟩;refine hN _ _ ?_;clear hN N)|((try apply Or.inl);refine⟨_,aw.x (hq) (sd (tw @a8 (tw @ag0 (tw @a1 (tw @a6 (tw @a7 (tw @hk (tw @eU (tw @s7 (tw @h0 (tw @hw (tw @ah.eq_1 @ai.eq_1)))))))))))),?_⟩;refine hN _ _ ?_;clear hN N)))
    refine cD ?_ ?_ (⟨b1,b2,fun _=>b3⟩)
    all_goals simp only[go_sem, ↓reduceIte,Nat.reduceEqDiff,Nat.reduceAdd,Nat.reduceSub,Nat.reduceLeDiff,reduceCtorEq,a8,ag0,a1,a6,a7]
  ·have ue:k=0:=by omega
   (repeat(first|((repeat(revert hN;revert N;apply Pn.out));refine wk (tw @a8 (tw @ag0 (tw @a1 (tw @a6 (tw @a7 (tw @hk (tw @eU (tw @h0 (tw @ah.eq_1 @ai.eq_1))))))))) ?_;(repeat(refine Pn.mk ?_;intro N hN)))|((try apply Or.inl);refine⟨_,aw.x (hp) (sd (tw @a8 (tw @ag0 (tw @a1 (tw @a6 (tw @a7 (tw @hk (tw @eU (tw @h0 (tw @ah.eq_1 @ai.eq_1)))))))))),?_⟩;refine hN _ _ ?_;clear hN N)|((try apply Or.inl);refine⟨_,aw.x (ht) (sd (tw @a8 (tw @ag0 (tw @a1 (tw @a6 (tw @a7 (tw @hk (tw @eU (tw @h0 (tw @ah.eq_1 @ai.eq_1)))))))))),?_⟩;refine hN _ _ ?_;clear hN N)))
   refine cD ?_ ?_ (⟨b1,b2,fun h=>by omega⟩)
   all_goals simp only[go_sem, ↓reduceIte,Nat.reduceEqDiff,Nat.reduceAdd,Nat.reduceSub,Nat.reduceLeDiff,reduceCtorEq,a8,ag0,a1,a6,a7]
 ·(try((repeat(revert hN;revert N;apply Pn.out));refine wk (tw @a8 (tw @ag0 (tw @a1 (tw @a6 (tw @a7 @hk))))) ?_;(repeat(refine Pn.mk ?_;intro N hN))))
  refine bp (b:=decide ((l.length:Int)<=500)) (.inl rfl) (sd @Nat.zero_add) ?_
  by_cases h5:(l.length:Int)<=500
  ·rw[decide_eq_true h5];exact yR ⟨by omega,fun i hi=>nq i (by omega)⟩
  ·rw[decide_eq_false h5];exact ki fun h=>by have:=h.zW;omega
end Go.Proofs.YtgoljkjaameagaaGreat.V
