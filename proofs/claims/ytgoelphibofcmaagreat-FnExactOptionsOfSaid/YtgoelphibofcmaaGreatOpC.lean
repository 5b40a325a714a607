/- Slices of one's own that grow from an empty one. -/
import Derived.Test.YtgoelphibofcmaaGreatOpB
import Derived.Test.YtgoelphibofcmaaGreatChecked
import Derived.Test.YtgoelphibofcmaaGreatOpA
set_option linter.unusedVariables false
set_option linter.unusedSimpArgs false
set_option maxRecDepth 100000
set_option maxHeartbeats 16000000
namespace Go.Proofs.YtgoelphibofcmaaGreat.V
open Go.RowKit
variable {P:Program} {X:fA} {K:Env->au->Prop} {env:Env} {σ:au}
def mm {α:Type} (enc:α->List AV) (sz:Nat) (x:AV) (g:Rows) (S:Id->Prop) (L:List α):Prop:=∃o:Id,S o/\x=.own o 0 L.length/\g o=some ⟨true,sz,L.map enc⟩
section
variable {α:Type} {enc:α->List AV} {sz:Nat} {x:AV} {g g':Rows} {S:Id->Prop} {L L':List α}
theorem mm.cast (h:mm enc sz x g S L) (hL:L'=L):mm enc sz x g S L':=by subst hL;exact h
theorem mm.frame (h:mm enc sz x g S L) (hg:∀o:Id,S o->g' o=g o):mm enc sz x g' S L:=by
 obtain⟨o,h1,h2,h3⟩:=h
 exact⟨o,h1,h2,(hg o h1).trans h3⟩
theorem mm.app (hz:∀a,(enc a).length=sz/\(enc a).all AV.cell=true) (h:mm enc sz x g S L) (id:Id) (hid:S id) (M:List α) (hlen:L.length+M.length<=dE):
  ∃v g',aW g id sz x (M.map enc)=some (v,g')/\mm enc sz v g' S (L++M)/\∀j:Id,¬S j->g' j=g j:=by
 obtain⟨o,h1,rfl,h4⟩:=h
 refine⟨.own id 0 (L.length+(M.map enc).length),bI (bW g o) id ⟨true,sz,L.map enc++M.map enc⟩,?_,⟨id,hid,by simp,by simp[bI]⟩,fun j hj=>?_⟩
 ·have ha:=all_map (l:=M) hz
  simp only[aW,h4,Option.bind_some]
  rw[if_pos ⟨trivial,trivial,by simp,by simpa using hlen,ha⟩]
 ·have e1:¬j=id:=fun h=>hj (h▸hid)
  have e2:¬j=o:=fun h=>hj (h▸h1)
  simp[bI,bW,e1,e2]
theorem O3 {draw:Bool} {o:bq} {r:List bq} {x' y:O} {xv:AV} (M:List α) (ho:o.op=.append sz x' y) (hw:aJ o.guard env=true) (hx:cL env x'=xv) (hO:mm enc sz xv σ.get S L)
  (hy:bw σ.get (cL env y)=some (M.map enc)) (hz:∀a,(enc a).length=sz/\(enc a).all AV.cell=true) (hid:S ⟨o.site,σ.next⟩) (hlen:L.length+M.length<=dE)
  (next:∀v g',mm enc sz v g' S (L++M)->(∀j:Id,¬S j->g' j=σ.get j)->wpOps X draw r K (upd env o.dst v) ⟨g',σ.next⟩):wpOps X draw (o::r) K env σ:=by
 obtain⟨v,g',h1,h2,h3⟩:=hO.app hz ⟨o.site,σ.next⟩ hid M hlen
 unfold wpOps
 rw[if_pos hw]
 unfold fM
 simp only[ho,fZ,hy,hx,Option.bind_some,h1]
 exact next v g' h2 h3
theorem mm.gi {n:Nat} (h:mm enc sz x g S L) (he:∀a,dZ g n (enc a)=some (enc a)):gi g (n+1) x=some (.sl (L.map enc)):=by
 obtain⟨o,_,rfl,h3⟩:=h
 exact fB h3 rfl he
end
theorem dq {a b:Id} (h:a.bm<b.bm):(a=b)=False/\(b=a)=False:=by
 constructor<;>(simp only[eq_iff_iff,iff_false];rintro rfl;omega)
theorem zQ {o:Id} {a:Nat} (h:o.site=a) {b v:Nat} (nG:(a==b)=false):(o=⟨b,v⟩)=False:=by
 simp only[eq_iff_iff,iff_false]
 rintro rfl
 simp only at h
 subst h
 simp at nG
def eN (n:Nat):List AV:=[.int .i64 n]
theorem fzN (g:Rows) (n:Nat) (a:Nat):cK g (n+1) (eN a)=some (eN a):=by simp[eN,aj,aq,aH]
theorem NI (g:Rows) (n:Nat) (a:Nat):dZ g (n+1) (eN a)=some (eN a):=by simp[eN,bE,cw,eH]
def Pq:Ct (List Nat):=fun g cs x ids=>∃id,cs=[.own id 0 x.length]/\g id=some ⟨true,1,x.map eN⟩/\ids=[id]
theorem LH:wW Pq 1 where
 frame:=fun⟨id,h1,h2,h3⟩ hf=>by subst h3;exact⟨id,h1,(hf id (by simp)).trans h2,rfl⟩
 len:=fun⟨id,h1,_⟩=>by subst h1;rfl
 cell:=fun⟨id,h1,_⟩=>by subst h1;rfl
 live:=fun⟨id,h1,h2,h3⟩ i hi=>by
  subst h3
  have:i=id:=by simpa using hi
  subst this
  exact⟨_,h2,rfl,by simp[rN]⟩
 small:=by simp[rN]
def Ad (l:List Nat):List AV:=[.sl (l.map eN)]
theorem Ja {g:Rows} {rows:List (List AV)} {xs:List (List Nat)} {ids:List Id} (n:Nat) (h:eE Pq g rows xs ids):gQ g (n+2) rows=some (xs.map Ad):=by
 induction h with
 |nil=>rw[gQ];rfl
 |cons h1 _ ih=>
  obtain⟨id,rfl,h2,_⟩:=h1
  rw[gQ,ih,bE,cw,fB (e:=eN) (sz:=1) h2 rfl fun a=>NI g n a];rfl
end Go.Proofs.YtgoelphibofcmaaGreat.V

namespace Go.Proofs.YtgoelphibofcmaaGreat.V
open Go.RowKit
attribute [local irreducible] eb wpOps gj Call
attribute [local go_sem] aJ fM eP fZ fY cL upd cu K.av cN AV.cells AV.cell rowOf rowsOf part ld rowAt bI bW dD ee gT bL dc ev fU eY dr ej da cZ dO dR bR aX cR bQ cV cU eh ek ei cQ bV db ef bP aP cX cE gS bw cJ bU aW dx bj dE AV.undef bD bF dV ec dI dS cF eu eB cD ep eo cW cY List.getD_cons_zero List.getD_cons_succ List.getD_nil List.all_cons List.all_nil Bool.and_true Bool.true_and Bool.and_self Bool.not_true Bool.not_false Option.map_some Option.map_none Option.bind_some Option.bind_none List.length_cons List.length_nil List.take_succ_cons List.take_zero List.take_nil List.drop_succ_cons List.drop_zero List.drop_nil List.head?_cons List.map_cons List.map_nil List.getElem?_cons_zero List.getElem?_cons_succ List.cons_append List.nil_append List.append_nil List.length_map List.set_cons_zero List.set_cons_succ Nat.reduceMul eq_self Int.toNat_natCast Int.natCast_nonneg and_self true_and and_true decide_true decide_false Bool.false_eq_true Nat.zero_add Nat.add_zero List.contains_cons List.contains_nil Bool.or_false Bool.false_or beq_self_eq_true Nat.reduceBEq ne_eq not_true_eq_false not_false_eq_true Id.mk.injEq false_and and_false Nat.reduceLT Int.reduceLE Int.reduceLT Int.reduceToNat Int.reduceNeg Int.reduceAdd Nat.le_refl List.length_append beq_true beq_false Bool.not_eq_eq_eq_not or_false false_or dM aj aq aH bd bz ck aU bf aT aZ cP bH
variable {P:Program}
def Kv {α:Type} (R:Ct α) (x:α) (σ:au) (r:AV) (σ':au):Prop:=∃cs ids,r=.agg cs/\R σ'.get cs x ids/\gp σ.next σ'.next ids/\Kept σ σ'
def iq {α:Type} (R:Ct α) (z:Nat) (g:Rows) (a:AV) (xs:List α) (ids:List Id):Prop:=∃o rows is,a=.own o 0 xs.length/\g o=some ⟨true,z,rows⟩/\eE R g rows xs is/\ids=o::is
def Kw {α:Type} (R:Ct α) (z:Nat) (xs:List α) (σ:au) (r:AV) (σ':au):Prop:=∃ids,iq R z σ'.get r xs ids/\gp σ.next σ'.next ids/\Kept σ σ'
theorem iq.frame {α:Type} {R:Ct α} {z:Nat} {g g':Rows} {a:AV} {xs:List α} {ids:List Id} (ok:wW R z) (h:iq R z g a xs ids) (hf:∀i∈ids,g' i=g i):iq R z g' a xs ids:=by
 obtain⟨o,rows,is,h1,h2,h3,rfl⟩:=h
 exact⟨o,rows,is,h1,(hf o (by simp)).trans h2,h3.frame ok fun i hi=>hf i (by simp[hi]),rfl⟩
theorem iq.fz {α:Type} {R:Ct α} {z n:Nat} {e:α->List AV} {g:Rows} {a:AV} {xs:List α} {ids:List Id} (h:iq R z g a xs ids) (hz:∀{cs x ids},R g cs x ids->cK (dM g) n cs=some (e x)):V.fz (dM g) (n+1) a=some (.sl (xs.map e)):=by
 obtain⟨o,rows,is,rfl,h2,h3,rfl⟩:=h
 rw[ig]
 simp only[dM,h2,Option.map_some,if_true]
 rw[if_pos (by rw[h3.len];omega),List.drop_zero,List.take_of_length_le (by rw[h3.len];exact Nat.le_refl _),h3.fz hz];rfl
def lk {α:Type} (e:α->List AV):Ct α:=fun _ cs x ids=>cs=e x/\ids=[]
theorem Ip {α:Type} {e:α->List AV} {z:Nat} (hz:∀x,(e x).length=z) (hc:∀x,(e x).all AV.cell=true) (hs:z<rN):wW (lk e) z where
 frame:=fun h _=>h
 len:=fun h=>by rw[h.1];exact hz _
 cell:=fun h=>by rw[h.1];exact hc _
 live:=fun h i hi=>by rw[h.2]at hi;cases hi
 small:=hs
def nT:Ct eT:=fun g cs t ids=>∃i,cs=[.str t.aE,.own i 0 t.br.length]/\g i=some ⟨true,1,t.br.map aG⟩/\ids=[i]
theorem qK:wW nT 2 where
 frame:=fun⟨i,h1,h2,h3⟩ hf=>⟨i,h1,(hf i (by rw[h3];simp)).trans h2,h3⟩
 len:=fun⟨i,h1,_⟩=>by rw[h1];rfl
 cell:=fun⟨i,h1,_⟩=>by rw[h1];rfl
 live:=fun⟨i,h1,h2,h3⟩ j hj=>by
  rw[h3]at hj
  have:j=i:=by simpa using hj
  subst this
  exact⟨_,h2,rfl,by simp[rN]⟩
 small:=by simp[rN]
theorem Me {g:Rows} {cs:List AV} {t:eT} {ids:List Id} (n:Nat) (h:nT g cs t ids):cK (dM g) (n+2) cs=some (bp t):=by
 obtain⟨i,rfl,h2,_⟩:=h
 have h3:V.fz (dM g) (n+2) (.own i 0 t.br.length)=some (.sl (t.br.map aG)):=gY (e:=aG) (sz:=1) (by simp[dM,h2]) rfl fun x=>by simp[aG,aj,aq,aH]
 simp only[aj,aq,bz,h3,Option.map_some,bp]
theorem L5 {α:Type} {a b:List α} {x y:α} {k:Nat} (hk:a.length=k):(a++x::b).set k y=a++[y]++b:=by subst hk;simp
theorem zY {α:Type} {R:Ct α} {en:α->List AV} {z fk gk:Nat} {zero:List K} (ok:wW R z) (hc:mi P fk=some (tJ fk gk z zero)) (E8:zero.length=z) (hz:∀x,(en x).length=z) (xs:List α) (hlen:xs.length<=1048576)
  (hg:∀x∈xs,∀σ,Call P gk [.agg (en x)] σ (Kv R x σ)) (σ:au):Call P fk [.sl (xs.map en)] σ (Kw R z xs σ):=by
 refine eU hc rfl fun hl=>?_
 try simp only[q]
 clear hl
 have hm:(xs.length:Int)<=((16777216:Nat):Int):=by omega
 have h0:(0:Int)<=(xs.length:Int):=by omega
 (try((repeat(revert hN;revert N;apply Pn.out));refine wk (tw @hm (tw @h0 (tw @Int.le_refl @E8))) ?_;(repeat(refine Pn.mk ?_;intro N hN))))
 refine aO (fun n env st=>∃k:Nat,n=(xs.length)-k/\k<=(xs.length)/\env 4=.int .i64 (k:Int)/\(σ.next+2<=st.next/\(∀y:Id,y.bm<σ.next->st.get y=σ.get y)/\∃rows is,st.get ⟨fk*1000000+1002,σ.next+1⟩=some ⟨true,z,rows++List.replicate (xs.length-k) (zero.map K.av)⟩/\eE R st.get rows (xs.take k) is/\gp (σ.next+2) st.next is)) (xs.length) ⟨0,by omega,by omega,sl @Nat.zero_add,by(try dsimp only);exact⟨by omega,fun y hy=>by
  have h1:=dz hy
  simp only[go_sem, ↓reduceIte,Nat.reduceEqDiff,Nat.reduceAdd,Nat.reduceSub,Nat.reduceLeDiff,reduceCtorEq,h1],[],[],sl @Nat.zero_add,.nil,List.nodup_nil,fun i hi=>by cases hi⟩⟩ ?_
 rintro n_a env_a st_a ⟨k,rfl,ale,a4,ke⟩ dv
 have a0:=dv 0 (by kernel_rfl);have a3:=dv 3 (by kernel_rfl)
 simp only[go_sem, ↓reduceIte,Nat.reduceEqDiff,Nat.reduceAdd,Nat.reduceSub,Nat.reduceLeDiff,reduceCtorEq]at a0 a3
 clear dv
 obtain⟨an,aK,rows,is,ag,aR,aN⟩:=ke
 have si:rows.length=k:=by rw[aR.len,List.length_take];omega
 by_cases hk:(k:Int)<(xs.length:Int)
 ·have cz:∀{e:Env} {gg:Rows} {nx:Nat},(e 4=.int .i64 (IntKind.i64.wrap ((k:Int)+1)))->(σ.next+2<=nx/\(∀y:Id,y.bm<σ.next->gg y=σ.get y)/\∃rows is,gg ⟨fk*1000000+1002,σ.next+1⟩=some ⟨true,z,rows++List.replicate (xs.length-(k+1)) (zero.map K.av)⟩/\eE R gg rows (xs.take (k+1)) is/\gp (σ.next+2) nx is)->∃m0,m0<(xs.length)-k/\∃k:Nat,m0=(xs.length)-k/\k<=(xs.length)/\e 4=.int .i64 (k:Int)/\(σ.next+2<=nx/\(∀y:Id,y.bm<σ.next->gg y=σ.get y)/\∃rows is,gg ⟨fk*1000000+1002,σ.next+1⟩=some ⟨true,z,rows++List.replicate (xs.length-k) (zero.map K.av)⟩/\eE R gg rows (xs.take k) is/\gp (σ.next+2) nx is):=fun x1 x2=>⟨_,by omega,k+1,rfl,by omega,(by rw[x1,az (by omega)]),x2⟩
  have fa:k<xs.length:=by omega
  have eR:(xs.map en)[k]? =some (en xs[k]):=by simp[fa]
  have tt:=hz xs[k]
  have ht:(en xs[k]).take z=en xs[k]:=by rw[<-tt,List.take_length]
  have gZ:=hg _ (List.getElem_mem fa)
  obtain⟨m,ML⟩:∃m,xs.length-k=m+1:=⟨xs.length-k-1,by omega⟩
  rw[ML,List.replicate_succ]at ag
  generalize hex:en xs[k]=c at gZ eR tt ht
  (try((repeat(revert hN;revert N;apply Pn.out));refine wk (tw @a4 (tw @a0 (tw @a3 (tw @hk (tw @eR (tw @tt (tw @ht @Nat.le_refl))))))) ?_;(repeat(refine Pn.mk ?_;intro N hN))))
  refine .inr (aL _ _ _ _ _ (fun r σ1 hq=>?_) (gZ _))
  obtain⟨cs,ids,rfl,hR,hI,hK⟩:=hq
  obtain⟨g1,x1⟩:=σ1
  (try dsimp only at hR hI hK)
  have Ah:=(hK.2 ⟨fk*1000000+1002,σ.next+1⟩ (by(try dsimp only);omega))
  simp only[go_sem, ↓reduceIte,Nat.reduceEqDiff,Nat.reduceAdd,Nat.reduceSub,Nat.reduceLeDiff,reduceCtorEq,ag]at Ah
  have mK:=ok.len hR
  have zd:=ok.cell hR
  have eZ:(rows++zero.map K.av::List.replicate m (zero.map K.av))[k]? =some (zero.map K.av):=by rw[List.getElem?_append_right (by omega),si,Nat.sub_self];rfl
  have dQ:(rows++zero.map K.av::List.replicate m (zero.map K.av)).set k cs=rows++[cs]++List.replicate m (zero.map K.av):=L5 si
  have IC:(zero.map K.av).drop z=[]:=List.drop_of_length_le (by simp[E8])
  have K6:(rows++zero.map K.av::List.replicate m (zero.map K.av)).length=xs.length:=by simp[si];omega
  refine hN _ _ ?_
  clear hN N
  (try((repeat(revert hN;revert N;apply Pn.out));refine wk (tw @a4 (tw @a0 (tw @a3 (tw @hk (tw @Ah (tw @eZ (tw @dQ (tw @K6 (tw @IC (tw @uK (tw @mK (tw @zd (tw @Nat.le_refl @E8))))))))))))) ?_;(repeat(refine Pn.mk ?_;intro N hN))))
  have zi:=hK.1
  have Hr:∀i∈is,(i=⟨fk*1000000+1002,σ.next+1⟩)=False:=fun i hi=>eq_false fun e=>by
   have:=(aN.2 i hi).1
   subst e;(try dsimp only at this);omega
  have Bb:∀i∈ids,(i=⟨fk*1000000+1002,σ.next+1⟩)=False:=fun i hi=>eq_false fun e=>by
   have:=(hI.2 i hi).1
   subst e;(try dsimp only at this);omega
  exact cz (sd (tw @a4 (tw @a0 @a3))) (by(try dsimp only at *);exact⟨by omega,fun y hy=>by
   have h1:=dz hy
   have h2:=hK.2 y (by(try dsimp only);omega)
   have h3:=aK y hy
   simp only[go_sem, ↓reduceIte,Nat.reduceEqDiff,Nat.reduceAdd,Nat.reduceSub,Nat.reduceLeDiff,reduceCtorEq]at h2
   simp only[go_sem, ↓reduceIte,Nat.reduceEqDiff,Nat.reduceAdd,Nat.reduceSub,Nat.reduceLeDiff,reduceCtorEq,h1,h2,h3],rows++[cs],is++ids,by
    rw[show xs.length-(k+1)=m by omega]
    simp only[go_sem, ↓reduceIte,Nat.reduceEqDiff,Nat.reduceAdd,Nat.reduceSub,Nat.reduceLeDiff,reduceCtorEq]<;>rfl,by
    rw[List.take_succ_eq_append_getElem fa]
    refine((aR.frame ok fun i hi=>?_).app (.one (ok.frame hR fun i hi=>?_)))
    ·have h1:=Hr i hi
     have h2:=hK.2 i (by(try dsimp only);have:=(aN.2 i hi).2;omega)
     simp only[go_sem, ↓reduceIte,Nat.reduceEqDiff,Nat.reduceAdd,Nat.reduceSub,Nat.reduceLeDiff,reduceCtorEq]at h2
     simp only[go_sem, ↓reduceIte,Nat.reduceEqDiff,Nat.reduceAdd,Nat.reduceSub,Nat.reduceLeDiff,reduceCtorEq,h1,h2]
    ·have h1:=Bb i hi
     simp only[go_sem, ↓reduceIte,Nat.reduceEqDiff,Nat.reduceAdd,Nat.reduceSub,Nat.reduceLeDiff,reduceCtorEq,h1],(aN.app hI (by(try dsimp only);omega) (by omega) (by(try dsimp only);omega)).wide (Nat.le_refl _) (by(try dsimp only);omega)⟩)
 ·(try((repeat(revert hN;revert N;apply Pn.out));refine wk (tw @a4 (tw @a0 (tw @a3 @hk))) ?_;(repeat(refine Pn.mk ?_;intro N hN))))
  have fa:k=xs.length:=by omega
  subst fa
  rw[Nat.sub_self,List.replicate_zero,List.append_nil]at ag
  rw[List.take_length]at aR
  refine ft (.inl rfl) (vs:=[.own ⟨fk*1000000+1002,σ.next+1⟩ 0 xs.length]) (sd (tw @a4 (tw @a0 @a3))) ?_
  exact⟨_,⟨_,rows,is,rfl,ag,aR,rfl⟩,⟨List.nodup_cons.2 ⟨fun hi=>by have:=(aN.2 _ hi).1;(try dsimp only at this);omega,aN.1⟩,fun i hi=>by
   rcases List.mem_cons.1 hi with rfl|hi
   ·(try dsimp only);omega
   ·have:=aN.2 i hi;(try dsimp only);omega⟩,⟨by(try dsimp only);omega,fun j hj=>aK j hj⟩⟩
end Go.Proofs.YtgoelphibofcmaaGreat.V

namespace Go.Proofs.YtgoelphibofcmaaGreat.V
open Go.RowKit
attribute [local irreducible] eb wpOps gj Call
attribute [local go_sem] aJ fM eP fZ fY cL upd cu K.av cN AV.cells AV.cell rowOf rowsOf part ld rowAt bI bW dD ee gT bL dc ev fU eY dr ej da cZ dO dR bR aX cR bQ cV cU eh ek ei cQ bV db ef bP aP cX cE gS bw cJ bU aW dx bj dE AV.undef bD bF dV ec dI dS cF eu eB cD ep eo cW cY List.getD_cons_zero List.getD_cons_succ List.getD_nil List.all_cons List.all_nil Bool.and_true Bool.true_and Bool.and_self Bool.not_true Bool.not_false Option.map_some Option.map_none Option.bind_some Option.bind_none List.length_cons List.length_nil List.take_succ_cons List.take_zero List.take_nil List.drop_succ_cons List.drop_zero List.drop_nil List.head?_cons List.map_cons List.map_nil List.getElem?_cons_zero List.getElem?_cons_succ List.cons_append List.nil_append List.append_nil List.length_map List.set_cons_zero List.set_cons_succ Nat.reduceMul eq_self Int.toNat_natCast Int.natCast_nonneg and_self true_and and_true decide_true decide_false Bool.false_eq_true Nat.zero_add Nat.add_zero List.contains_cons List.contains_nil Bool.or_false Bool.false_or beq_self_eq_true Nat.reduceBEq ne_eq not_true_eq_false not_false_eq_true Id.mk.injEq false_and and_false Nat.reduceLT Int.reduceLE Int.reduceLT Int.reduceToNat Int.reduceNeg Int.reduceAdd Nat.le_refl List.length_append beq_true beq_false Bool.not_eq_eq_eq_not or_false false_or dM aj aq aH bd bz ck aU bf aT aZ cP bH
theorem iq.kJ {α:Type} {R:Ct α} {z:Nat} {g:Rows} {a:AV} {xs:List α} {ids:List Id} (h:iq R z g a xs ids):∃o,a=.own o 0 xs.length:=by
 obtain⟨o,rows,is,rfl,_⟩:=h;exact⟨o,rfl⟩
theorem JV (xs:List Int) (hlen:xs.length<=1048576) (σ:au):Call Tryz.prog 195 [.sl (xs.map aG)] σ (fun r σ'=>∃i,r=.own i 0 xs.length/\σ'.get i=some ⟨true,1,xs.map aG⟩/\gp σ.next σ'.next [i]/\Kept σ σ'):=by
 refine eU (show mi Tryz.prog 195=some (JX 195 (.int .i64 0)) by kernel_rfl) rfl fun hl=>?_
 try simp only[q]
 clear hl
 obtain⟨en,Dm⟩:∃en:Int->List AV,en=aG:=⟨_,rfl⟩
 rw[<-Dm]
 have hm:(xs.length:Int)<=((16777216:Nat):Int):=by omega
 have h0:(0:Int)<=(xs.length:Int):=by omega
 (try((repeat(revert hN;revert N;apply Pn.out));refine wk (tw @hm (tw @h0 (tw @Int.le_refl (og en [AV.int .i64 0] xs)))) ?_;(repeat(refine Pn.mk ?_;intro N hN))))
 refine aO (fun n env st=>∃k:Nat,n=(xs.length)-k/\k<=(xs.length)/\env 4=.int .i64 (k:Int)/\st.get ⟨195*1000000+1002,σ.next+1⟩=some ⟨true,1,gF en [AV.int .i64 0] xs k⟩/\(σ.next+2<=st.next/\∀y:Id,y.bm<σ.next->st.get y=σ.get y)) (xs.length) ⟨0,by omega,by omega,sl @Nat.zero_add,sl @Nat.zero_add,by(try dsimp only);exact⟨by omega,fun y hy=>by
  have h1:=dz hy
  simp only[go_sem, ↓reduceIte,Nat.reduceEqDiff,Nat.reduceAdd,Nat.reduceSub,Nat.reduceLeDiff,reduceCtorEq,h1]⟩⟩ ?_
 rintro n_a env_a st_a ⟨k,rfl,ale,a4,ag0,ke⟩ dv
 have a0:=dv 0 (by kernel_rfl);have a3:=dv 3 (by kernel_rfl)
 simp only[go_sem, ↓reduceIte,Nat.reduceEqDiff,Nat.reduceAdd,Nat.reduceSub,Nat.reduceLeDiff,reduceCtorEq]at a0 a3
 clear dv
 obtain⟨an,aK⟩:=ke
 by_cases hk:(k:Int)<(xs.length:Int)
 ·have cz:∀{e:Env} {gg:Rows} {nx:Nat},(e 4=.int .i64 (IntKind.i64.wrap ((k:Int)+1)))->(gg ⟨195*1000000+1002,σ.next+1⟩=some ⟨true,1,gF en [AV.int .i64 0] xs (k+1)⟩)->(σ.next+2<=nx/\∀y:Id,y.bm<σ.next->gg y=σ.get y)->∃m0,m0<(xs.length)-k/\∃k:Nat,m0=(xs.length)-k/\k<=(xs.length)/\e 4=.int .i64 (k:Int)/\gg ⟨195*1000000+1002,σ.next+1⟩=some ⟨true,1,gF en [AV.int .i64 0] xs k⟩/\(σ.next+2<=nx/\∀y:Id,y.bm<σ.next->gg y=σ.get y):=fun x1 x2 x3=>⟨_,by omega,k+1,rfl,by omega,(by rw[x1,az (by omega)]),x2,x3⟩
  have fa:k<xs.length:=by omega
  have eR:(xs.map en)[k]? =some [AV.int .i64 xs[k]]:=by simp[fa,Dm,aG]
  have e9:=qf en [AV.int .i64 0] xs fa
  have dQ:=qg en [AV.int .i64 0] xs fa
  rw[show en xs[k]=[AV.int .i64 xs[k]] by rw[Dm];rfl]at dQ
  (try((repeat(revert hN;revert N;apply Pn.out));refine wk (tw @a4 (tw @ag0 (tw @a0 (tw @a3 (tw @hk (tw @eR (tw @e9 @dQ))))))) ?_;(repeat(refine Pn.mk ?_;intro N hN))))
  refine cz ?_ ?_ (by(try dsimp only);exact⟨by omega,fun y hy=>by
   have h1:=dz hy
   have h3:=aK y hy
   simp only[go_sem, ↓reduceIte,Nat.reduceEqDiff,Nat.reduceAdd,Nat.reduceSub,Nat.reduceLeDiff,reduceCtorEq,h1,h3]⟩)
  all_goals simp only[go_sem, ↓reduceIte,Nat.reduceEqDiff,Nat.reduceAdd,Nat.reduceSub,Nat.reduceLeDiff,reduceCtorEq,a4,ag0,a0,a3]
 ·(try((repeat(revert hN;revert N;apply Pn.out));refine wk (tw @a4 (tw @ag0 (tw @a0 (tw @a3 @hk)))) ?_;(repeat(refine Pn.mk ?_;intro N hN))))
  have fa:k=xs.length:=by omega
  subst fa
  refine ft (.inl rfl) (vs:=[.own ⟨195*1000000+1002,σ.next+1⟩ 0 xs.length]) (sd (tw @a4 (tw @ag0 (tw @a0 @a3)))) ?_
  rw[qe]at ag0
  exact⟨_,rfl,ag0,⟨List.nodup_cons.2 ⟨by simp,List.nodup_nil⟩,fun i hi=>by
   rw[List.mem_singleton.1 hi];(try dsimp only);omega⟩,⟨by(try dsimp only);omega,fun j hj=>aK j hj⟩⟩
theorem JY (p:eT) (hs:so p) (σ:au):Call Tryz.prog 162 [.agg (bp p)] σ (Kv nT p σ):=by
 refine eU eJ rfl fun hl=>?_
 clear hl
 (try((repeat(revert hN;revert N;apply Pn.out));refine wk @bp.eq_1 ?_;(repeat(refine Pn.mk ?_;intro N hN))))
 refine .inr (aL _ _ _ _ _ (fun r σ1 hq=>?_) (JV p.br hs _))
 obtain⟨i,rfl,hg,hI,hK⟩:=hq
 obtain⟨g1,x1⟩:=σ1
 (try dsimp only at hg hI hK)
 have hn:=hK.1
 refine hN _ _ ?_
 clear hN N
 have hi:=hI.2 i (by simp)
 have k2:=hK.2 ⟨162000001,σ.next⟩ (by(try dsimp only);omega)
 have k3:=hK.2 ⟨162001000,σ.next+1⟩ (by(try dsimp only);omega)
 simp only[go_sem, ↓reduceIte,Nat.reduceEqDiff,Nat.reduceAdd,Nat.reduceSub,Nat.reduceLeDiff,reduceCtorEq]at k2 k3
 (try((repeat(revert hN;revert N;apply Pn.out));refine wk (tw @bp.eq_1 (tw @k2 @k3)) ?_;(repeat(refine Pn.mk ?_;intro N hN))))
 refine ft (.inl rfl) (vs:=[.agg [.str p.aE,.own i 0 p.br.length]]) (sd @Nat.zero_add) ?_
 refine⟨_,[i],rfl,⟨i,rfl,?_,rfl⟩,⟨hI.1,fun j hj=>?_⟩,⟨?_,fun j hj=>?_⟩⟩
 ·have i2:=dq (b:=i) (a:=⟨162000001,σ.next⟩) (by(try dsimp only at *);omega)
  have i3:=dq (b:=i) (a:=⟨162001000,σ.next+1⟩) (by(try dsimp only at *);omega)
  simp only[go_sem, ↓reduceIte,Nat.reduceEqDiff,Nat.reduceAdd,Nat.reduceSub,Nat.reduceLeDiff,reduceCtorEq,i2,i3,hg]
 ·rw[List.mem_singleton.1 hj]
  (try dsimp only at *);omega
 ·(try dsimp only at *);omega
 ·have h2:=hK.2 j (by(try dsimp only);omega)
  have h1:=dz hj
  simp only[go_sem, ↓reduceIte,Nat.reduceEqDiff,Nat.reduceAdd,Nat.reduceSub,Nat.reduceLeDiff,reduceCtorEq,h1]at h2
  simp only[go_sem, ↓reduceIte,Nat.reduceEqDiff,Nat.reduceAdd,Nat.reduceSub,Nat.reduceLeDiff,reduceCtorEq,h1,h2]
theorem AX:wW (lk bG) 2:=Ip (fun _=>rfl) (fun _=>rfl) (by simp[rN])
theorem xK:wW (lk ad) 3:=Ip (fun _=>rfl) (fun _=>rfl) (by simp[rN])
theorem JT (p:fw) (σ:au):Call Tryz.prog 161 [.agg (bG p)] σ (Kv (lk bG) p σ):=by
 refine eU eJ rfl fun hl=>?_
 clear hl
 (try((repeat(revert hN;revert N;apply Pn.out));refine wk @bG.eq_1 ?_;(repeat(refine Pn.mk ?_;intro N hN))))
 refine ft (.inl rfl) (vs:=[.agg (bG p)]) (sd @bG.eq_1) ?_
 exact⟨_,[],rfl,⟨rfl,rfl⟩,⟨List.nodup_nil,fun i hi=>by cases hi⟩,⟨by(try dsimp only);omega,fun j hj=>by
  have h1:=dz hj
  simp only[go_sem, ↓reduceIte,Nat.reduceEqDiff,Nat.reduceAdd,Nat.reduceSub,Nat.reduceLeDiff,reduceCtorEq,h1]⟩⟩
theorem Eo (p:ae) (σ:au):Call Tryz.prog 104 [.agg (ad p)] σ (Kv (lk ad) p σ):=by
 refine eU eJ rfl fun hl=>?_
 clear hl
 have h:=yE p.bx
 rw[ab]at h
 (repeat(first|((repeat(revert hN;revert N;apply Pn.out));refine wk @ad.eq_1 ?_;(repeat(refine Pn.mk ?_;intro N hN)))|((try apply Or.inl);refine⟨_,j9.x (h) _,?_⟩;refine hN _ _ ?_;clear hN N)))
 refine ft (.inl rfl) (vs:=[.agg (ad p)]) (sd @ad.eq_1) ?_
 exact⟨_,[],rfl,⟨rfl,rfl⟩,⟨List.nodup_nil,fun i hi=>by cases hi⟩,⟨by(try dsimp only);omega,fun j hj=>by
  have h1:=dz hj
  simp only[go_sem, ↓reduceIte,Nat.reduceEqDiff,Nat.reduceAdd,Nat.reduceSub,Nat.reduceLeDiff,reduceCtorEq,h1]⟩⟩
theorem Hd (xs:List fw) (h:xs.length<=1048576) (σ:au):Call Tryz.prog 102 [.sl (xs.map bG)] σ (Kw (lk bG) 2 xs σ):=
 zY AX (show mi Tryz.prog 102=some (tJ 102 161 2 [.str [],.int .i64 0]) by kernel_rfl) rfl (fun _=>rfl) xs h (fun x _ σ=>JT x σ) σ
theorem Hf (xs:List eT) (h:xs.length<=1048576) (hs:∀t∈xs,so t) (σ:au):Call Tryz.prog 103 [.sl (xs.map bp)] σ (Kw nT 2 xs σ):=
 zY qK (show mi Tryz.prog 103=some (tJ 103 162 2 [.str [],.cr]) by kernel_rfl) rfl (fun _=>rfl) xs h (fun x hx σ=>JY x (hs x hx) σ) σ
theorem Cl (xs:List ae) (h:xs.length<=1048576) (σ:au):Call Tryz.prog 62 [.sl (xs.map ad)] σ (Kw (lk ad) 3 xs σ):=
 zY xK (show mi Tryz.prog 62=some (tJ 62 104 3 [.int .i64 0,.int .i64 0,.int .i64 0]) by kernel_rfl) rfl (fun _=>rfl) xs h (fun x _ σ=>Eo x σ) σ
def wV (g:Rows) (v:AV) (a:dK) (ids:List Id):Prop:=∃x,v=.agg [x]/\iq (lk ad) 3 g x a.ah ids
structure yL (g:Rows) (v:AV) (s:aD) (ids:List Id):Prop where
 ex:∃a b c i1 i2 i3,v=.agg [a,b,c,.int .i64 s.ay]/\iq (lk bG) 2 g a s.aB.ax i1/\iq nT 2 g b s.aB.ah i2/\iq (lk ad) 3 g c s.cq.ah i3/\ids=i1++(i2++i3)
theorem wV.frame {g g':Rows} {v:AV} {a:dK} {ids:List Id} (h:wV g v a ids) (hf:∀i∈ids,g' i=g i):wV g' v a ids:=by
 obtain⟨x,h1,h2⟩:=h
 exact⟨x,h1,h2.frame xK hf⟩
theorem yL.frame {g g':Rows} {v:AV} {s:aD} {ids:List Id} (h:yL g v s ids) (hf:∀i∈ids,g' i=g i):yL g' v s ids:=by
 obtain⟨a,b,c,i1,i2,i3,h1,h2,h3,h4,rfl⟩:=h.ex
 exact⟨a,b,c,i1,i2,i3,h1,h2.frame AX fun i hi=>hf i (by simp[hi]),h3.frame qK fun i hi=>hf i (by simp[hi]),h4.frame xK fun i hi=>hf i (by simp[hi]),rfl⟩
theorem wV.fz {g:Rows} {v:AV} {a:dK} {ids:List Id} (n:Nat) (h:wV g v a ids):V.fz (dM g) (n+4) v=some (.agg (aM a)):=by
 obtain⟨x,rfl,h2⟩:=h
 have h3:=h2.fz (n:=n+2) (e:=ad) fun hc=>by rw[hc.1];simp[ad,aj,aq,aH]
 simp only[bf,aj,aq,h3,Option.map_some,aM]
theorem yL.fz {g:Rows} {v:AV} {s:aD} {ids:List Id} (n:Nat) (h:yL g v s ids):V.fz (dM g) (n+5) v=some (.agg (aC s)):=by
 obtain⟨a,b,c,i1,i2,i3,rfl,h2,h3,h4,rfl⟩:=h.ex
 have q1:=h2.fz (n:=n+3) (e:=bG) fun hc=>by rw[hc.1];simp[bG,aj,aq,aH,bz]
 have q2:=h3.fz (n:=n+3) (e:=bp) fun hc=>Me (n+1) hc
 have q3:=h4.fz (n:=n+3) (e:=ad) fun hc=>by rw[hc.1];simp[ad,aj,aq,aH]
 simp only[bf,aj,aq,q1,q2,q3,aH,Option.map_some,aC]
theorem r6 (p:dK) (hs:p.ah.length<=1048576) (σ:au):Call Tryz.prog 18 [.agg (aM p)] σ (fun r σ'=>∃ids,wV σ'.get r p ids/\gp σ.next σ'.next ids/\Kept σ σ'):=by
 refine eU eJ rfl fun hl=>?_
 clear hl
 (try((repeat(revert hN;revert N;apply Pn.out));refine wk @aM.eq_1 ?_;(repeat(refine Pn.mk ?_;intro N hN))))
 refine .inr (aL _ _ _ _ _ (fun r σ1 hq=>?_) (Cl p.ah hs _))
 obtain⟨ids,hR,hI,hK⟩:=hq
 obtain⟨g1,x1⟩:=σ1
 (try dsimp only at hR hI hK)
 have hn:=hK.1
 obtain⟨o,rows,is,rfl,hg,TB,rfl⟩:=hR
 refine hN _ _ ?_
 clear hN N
 have k2:=hK.2 ⟨18000001,σ.next⟩ (by(try dsimp only);omega)
 have k3:=hK.2 ⟨18001000,σ.next+1⟩ (by(try dsimp only);omega)
 simp only[go_sem, ↓reduceIte,Nat.reduceEqDiff,Nat.reduceAdd,Nat.reduceSub,Nat.reduceLeDiff,reduceCtorEq]at k2 k3
 (try((repeat(revert hN;revert N;apply Pn.out));refine wk (tw @aM.eq_1 (tw @k2 @k3)) ?_;(repeat(refine Pn.mk ?_;intro N hN))))
 refine ft (.inl rfl) (vs:=[.agg [.own o 0 p.ah.length]]) (sd @Nat.zero_add) ?_
 have hb:=hI.2
 (try dsimp only at hb hn)
 refine⟨_,⟨_,rfl,iq.frame xK ⟨o,rows,is,rfl,hg,TB,rfl⟩ fun j hj=>?_⟩,⟨hI.1,fun j hj=>?_⟩,⟨?_,fun j hj=>?_⟩⟩
 ·have N9:=hb j hj
  have i2:=dq (b:=j) (a:=⟨18000001,σ.next⟩) (by(try dsimp only);omega)
  have i3:=dq (b:=j) (a:=⟨18001000,σ.next+1⟩) (by(try dsimp only);omega)
  simp only[go_sem, ↓reduceIte,Nat.reduceEqDiff,Nat.reduceAdd,Nat.reduceSub,Nat.reduceLeDiff,reduceCtorEq,i2,i3]
 ·have:=hb j hj
  (try dsimp only);omega
 ·(try dsimp only);omega
 ·have h2:=hK.2 j (by(try dsimp only);omega)
  have h1:=dz hj
  simp only[go_sem, ↓reduceIte,Nat.reduceEqDiff,Nat.reduceAdd,Nat.reduceSub,Nat.reduceLeDiff,reduceCtorEq,h1]at h2
  simp only[go_sem, ↓reduceIte,Nat.reduceEqDiff,Nat.reduceAdd,Nat.reduceSub,Nat.reduceLeDiff,reduceCtorEq,h1,h2]
theorem Cn (p:aw) (hs:HL p) (σ:au):Call Tryz.prog 61 [.agg (aa p)] σ (fun r σ'=>∃a b i1 i2,r=.agg [a,b]/\iq (lk bG) 2 σ'.get a p.ax i1/\iq nT 2 σ'.get b p.ah i2/\gp σ.next σ'.next (i1++i2)/\Kept σ σ'):=by
 refine eU eJ rfl fun hl=>?_
 clear hl
 (try((repeat(revert hN;revert N;apply Pn.out));refine wk @aa.eq_1 ?_;(repeat(refine Pn.mk ?_;intro N hN))))
 refine .inr (aL _ _ _ _ _ (fun r σ1 hq=>?_) (Hd p.ax hs.g _))
 obtain⟨i1,hR,hI,hK⟩:=hq
 obtain⟨g1,x1⟩:=σ1
 (try dsimp only at hR hI hK)
 have hn:=hK.1
 obtain⟨o,rows,is,rfl,hg,TB,rfl⟩:=hR
 have hb:=hI.2
 (try dsimp only at hb hn)
 refine hN _ _ ?_
 clear hN N
 have k1:=hK.2 ⟨61000000,σ.next⟩ (by(try dsimp only);omega)
 have k2:=hK.2 ⟨61000001,σ.next⟩ (by(try dsimp only);omega)
 have k3:=hK.2 ⟨61001000,σ.next+1⟩ (by(try dsimp only);omega)
 simp only[go_sem, ↓reduceIte,Nat.reduceEqDiff,Nat.reduceAdd,Nat.reduceSub,Nat.reduceLeDiff,reduceCtorEq]at k1 k2 k3
 (try((repeat(revert hN;revert N;apply Pn.out));refine wk (tw @aa.eq_1 (tw @k1 (tw @k2 @k3))) ?_;(repeat(refine Pn.mk ?_;intro N hN))))
 refine .inr (aL _ _ _ _ _ (fun r σ2 hq=>?_) (Hf p.ah hs.t hs.s _))
 obtain⟨i2,hS,hJ,hL⟩:=hq
 obtain⟨g2,x2⟩:=σ2
 (try dsimp only at hS hJ hL)
 have Og:=hL.1
 obtain⟨o2,Ry,is2,rfl,N2,hS',rfl⟩:=hS
 have hc:=hJ.2
 (try dsimp only at hc Og)
 refine hN _ _ ?_
 clear hN N
 have l2:=hL.2 ⟨61000001,σ.next⟩ (by(try dsimp only);omega)
 have l3:=hL.2 ⟨61001000,σ.next+1⟩ (by(try dsimp only);omega)
 simp only[go_sem, ↓reduceIte,Nat.reduceEqDiff,Nat.reduceAdd,Nat.reduceSub,Nat.reduceLeDiff,reduceCtorEq,k2,k3]at l2 l3
 (try((repeat(revert hN;revert N;apply Pn.out));refine wk (tw @aa.eq_1 (tw @l2 @l3)) ?_;(repeat(refine Pn.mk ?_;intro N hN))))
 refine ft (.inl rfl) (vs:=[.agg [.own o 0 p.ax.length,.own o2 0 p.ah.length]]) (sd @Nat.zero_add) ?_
 have fr:∀x:Id,σ.next+2<=x.bm->(x=⟨61000001,σ.next⟩)=False/\(x=⟨61001000,σ.next+1⟩)=False:=fun x hx=>⟨(dq (a:=⟨61000001,σ.next⟩) (b:=x) (by(try dsimp only);omega)).2,(dq (a:=⟨61001000,σ.next+1⟩) (b:=x) (by(try dsimp only);omega)).2⟩
 refine⟨_,_,_,_,rfl,iq.frame (g:=g1) AX ⟨o,rows,is,rfl,hg,TB,rfl⟩ fun i hi=>?_,iq.frame (g:=g2) qK ⟨o2,Ry,is2,rfl,N2,hS',rfl⟩ fun i hi=>?_,?_,⟨by(try dsimp only);omega,fun j hj=>?_⟩⟩
 ·have h1:=hb i hi
  have h2:=hL.2 i (by(try dsimp only);omega)
  have h3:=fr i (by omega)
  simp only[go_sem, ↓reduceIte,Nat.reduceEqDiff,Nat.reduceAdd,Nat.reduceSub,Nat.reduceLeDiff,reduceCtorEq,h3]at h2
  simp only[go_sem, ↓reduceIte,Nat.reduceEqDiff,Nat.reduceAdd,Nat.reduceSub,Nat.reduceLeDiff,reduceCtorEq,h2,h3]
 ·have h1:=hc i hi
  have h3:=fr i (by omega)
  simp only[go_sem, ↓reduceIte,Nat.reduceEqDiff,Nat.reduceAdd,Nat.reduceSub,Nat.reduceLeDiff,reduceCtorEq,h3]
 ·(try dsimp only at *)
  exact(hI.app hJ (by omega) (by omega) (by omega)).wide (by omega) (by omega)
 ·have h1:=dz hj
  have h2:=hL.2 j (by(try dsimp only);omega)
  have h3:=hK.2 j (by(try dsimp only);omega)
  simp only[go_sem, ↓reduceIte,Nat.reduceEqDiff,Nat.reduceAdd,Nat.reduceSub,Nat.reduceLeDiff,reduceCtorEq,h1]at h2 h3
  simp only[go_sem, ↓reduceIte,Nat.reduceEqDiff,Nat.reduceAdd,Nat.reduceSub,Nat.reduceLeDiff,reduceCtorEq,h1,h2,h3]
theorem Es (p:aD) (hs:qS p) (σ:au):Call Tryz.prog 17 [.agg (aC p)] σ (fun r σ'=>∃ids,yL σ'.get r p ids/\gp σ.next σ'.next ids/\Kept σ σ'):=by
 refine eU eJ rfl fun hl=>?_
 clear hl
 have t1:=fun σ=>Cn p.aB hs.s σ
 have t2:=fun σ=>r6 p.cq hs.a σ
 rw[aa]at t1
 rw[aM]at t2
 (try((repeat(revert hN;revert N;apply Pn.out));refine wk @aC.eq_1 ?_;(repeat(refine Pn.mk ?_;intro N hN))))
 refine .inr (aL _ _ _ _ _ (fun r σ1 hq=>?_) (t1 _))
 obtain⟨a,b,i1,i2,rfl,hA,hB,hI,hK⟩:=hq
 obtain⟨g1,x1⟩:=σ1
 (try dsimp only at hA hB hI hK)
 have hn:=hK.1
 have hb:=hI.2
 (try dsimp only at hb hn)
 refine hN _ _ ?_
 clear hN N
 have k1:=hK.2 ⟨17000000,σ.next⟩ (by(try dsimp only);omega)
 have k2:=hK.2 ⟨17000001,σ.next⟩ (by(try dsimp only);omega)
 have k3:=hK.2 ⟨17001000,σ.next+1⟩ (by(try dsimp only);omega)
 simp only[go_sem, ↓reduceIte,Nat.reduceEqDiff,Nat.reduceAdd,Nat.reduceSub,Nat.reduceLeDiff,reduceCtorEq]at k1 k2 k3
 obtain⟨oa,rfl⟩:=hA.kJ
 obtain⟨ob,rfl⟩:=hB.kJ
 (try((repeat(revert hN;revert N;apply Pn.out));refine wk (tw @aC.eq_1 (tw @k1 (tw @k2 @k3))) ?_;(repeat(refine Pn.mk ?_;intro N hN))))
 refine .inr (aL _ _ _ _ _ (fun r σ2 hq=>?_) (t2 _))
 obtain⟨i3,hC,hJ,hL⟩:=hq
 obtain⟨g2,x2⟩:=σ2
 (try dsimp only at hC hJ hL)
 have Og:=hL.1
 have hc:=hJ.2
 (try dsimp only at hc Og)
 obtain⟨c,rfl,hC⟩:=hC
 obtain⟨oc,rfl⟩:=hC.kJ
 refine hN _ _ ?_
 clear hN N
 have l1:=hL.2 ⟨17000000,σ.next⟩ (by(try dsimp only);omega)
 have l2:=hL.2 ⟨17000001,σ.next⟩ (by(try dsimp only);omega)
 have l3:=hL.2 ⟨17001000,σ.next+1⟩ (by(try dsimp only);omega)
 simp only[go_sem, ↓reduceIte,Nat.reduceEqDiff,Nat.reduceAdd,Nat.reduceSub,Nat.reduceLeDiff,reduceCtorEq,k1,k2,k3]at l1 l2 l3
 (try((repeat(revert hN;revert N;apply Pn.out));refine wk (tw @aC.eq_1 (tw @l1 (tw @l2 @l3))) ?_;(repeat(refine Pn.mk ?_;intro N hN))))
 refine ft (.inl rfl) (vs:=[.agg [.own oa 0 p.aB.ax.length,.own ob 0 p.aB.ah.length,.own oc 0 p.cq.ah.length,.int .i64 p.ay]]) (sd @Nat.zero_add) ?_
 have fr:∀x:Id,σ.next+2<=x.bm->(x=⟨17000001,σ.next⟩)=False/\(x=⟨17001000,σ.next+1⟩)=False:=fun x hx=>⟨(dq (a:=⟨17000001,σ.next⟩) (b:=x) (by(try dsimp only);omega)).2,(dq (a:=⟨17001000,σ.next+1⟩) (b:=x) (by(try dsimp only);omega)).2⟩
 have fr2:∀i∈i1++i2,g2 i=g1 i:=fun i hi=>by
  have h1:=hb i hi
  have h2:=hL.2 i (by(try dsimp only);omega)
  have h3:=fr i (by omega)
  simp only[go_sem, ↓reduceIte,Nat.reduceEqDiff,Nat.reduceAdd,Nat.reduceSub,Nat.reduceLeDiff,reduceCtorEq,h3]at h2
  exact h2
 refine⟨i1++(i2++i3),⟨_,_,_,i1,i2,i3,rfl,hA.frame AX fun i hi=>?_,hB.frame qK fun i hi=>?_,hC.frame xK fun i hi=>?_,rfl⟩,?_,⟨by(try dsimp only);omega,fun j hj=>?_⟩⟩
 ·have h1:=hb i (by simp[hi])
  have h2:=fr2 i (by simp[hi])
  have h3:=fr i (by omega)
  simp only[go_sem, ↓reduceIte,Nat.reduceEqDiff,Nat.reduceAdd,Nat.reduceSub,Nat.reduceLeDiff,reduceCtorEq,h2,h3]
 ·have h1:=hb i (by simp[hi])
  have h2:=fr2 i (by simp[hi])
  have h3:=fr i (by omega)
  simp only[go_sem, ↓reduceIte,Nat.reduceEqDiff,Nat.reduceAdd,Nat.reduceSub,Nat.reduceLeDiff,reduceCtorEq,h2,h3]
 ·have h1:=hc i hi
  have h3:=fr i (by omega)
  simp only[go_sem, ↓reduceIte,Nat.reduceEqDiff,Nat.reduceAdd,Nat.reduceSub,Nat.reduceLeDiff,reduceCtorEq,h3]
 ·(try dsimp only at *)
  rw[<-List.append_assoc]
  exact(hI.app hJ (by omega) (by omega) (by omega)).wide (by omega) (by omega)
 ·have h1:=dz hj
  have h2:=hL.2 j (by(try dsimp only);omega)
  have h3:=hK.2 j (by(try dsimp only);omega)
  simp only[go_sem, ↓reduceIte,Nat.reduceEqDiff,Nat.reduceAdd,Nat.reduceSub,Nat.reduceLeDiff,reduceCtorEq,h1]at h2 h3
  simp only[go_sem, ↓reduceIte,Nat.reduceEqDiff,Nat.reduceAdd,Nat.reduceSub,Nat.reduceLeDiff,reduceCtorEq,h1,h2,h3]
end Go.Proofs.YtgoelphibofcmaaGreat.V

namespace Go.Proofs.YtgoelphibofcmaaGreat
open Go.RowKit
def kM (n:Int):Bool:=(decide (97<=n)&&decide (n<=122))||(decide (65<=n)&&decide (n<=90))
def k9 (n:Int):Bool:=decide (48<=n)&&decide (n<=57)
def tO (i:Nat) (n:Int):Prop:=kM n=true∨(0<i/\(k9 n=true∨n=95))
def uE (s:ByteArray):Prop:=(1<=s.size/\s.size<=12)/\∀i (h:i<s.size),tO i s[i].toNat
open Classical in
noncomputable def jB (s:ByteArray):Bool:=decide (uE s)
theorem DU {s:ByteArray} (h:uE s):true=jB s:=by simp[jB,h]
theorem dX {s:ByteArray} (h:¬uE s):false=jB s:=by simp[jB,h]
theorem BV {s:ByteArray} {b:Bool} (hb:b=true) (h:uE s):b=jB s:=by simp[jB,h,hb]
theorem rO {s:ByteArray} {b:Bool} (hb:b=false) (h:¬uE s):b=jB s:=by simp[jB,h,hb]
theorem vH (w:World) (n:Int):Calls Tryz.prog 212 #[.int .u8 n] w fun e w'=>e=.returned (.bool (kM n))/\w=w':=by
 go_enter Tryz.func212,Tryz.ntmps212
 go_wp2_with fail
 all_goals
  go_ret
  exact⟨iy (by unfold kM;simp[*];try omega),rfl⟩
theorem FY (w:World) (n:Int):Calls Tryz.prog 213 #[.int .u8 n] w fun e w'=>e=.returned (.bool (k9 n))/\w=w':=by
 go_enter Tryz.func213,Tryz.ntmps213
 go_wp2_with fail
 all_goals
  go_ret
  exact⟨iy (by unfold k9;simp[*];try omega),rfl⟩
theorem Cd (w:World) (s:ByteArray) (hs:s.size<=9223372036854775807):Calls Tryz.prog 189 #[.string s] w fun e w'=>e=.returned (.bool (jB s))/\Below w.heap.size w w':=by
 by_cases h1:1<=s.size
 case neg=>
  go_enter Tryz.func189,Tryz.ntmps189
  go_wp2_with fail
  go_ret
  exact⟨iy (dX fun h=>h1 h.1.1),Below.refl _ _⟩
 by_cases h2:s.size<=12
 case neg=>
  go_enter Tryz.func189,Tryz.ntmps189
  go_wp2_with fail
  go_ret
  exact⟨iy (dX fun h=>h2 h.1.2),Below.refl _ _⟩
 go_enter Tryz.func189,Tryz.ntmps189
 go_wp2_with fail
 refine(vH _ _).mono ?_
 rintro e w' ⟨rfl,rfl⟩
 cases h3:kM s[0].toNat
 ·go_wp2_with fail
  go_ret
  exact⟨iy (dX fun h=>by have:=h.2 0 (by omega);simp only[tO]at this;rw[h3]at this;simp at this),Below.refl _ _⟩
 ·replace h3:=Lib.hid h3
  go_wp2_with fail
  go_loop [3] (fun i=>∃k:Nat,1<=k/\k<=s.size/\i=.int .i64 k/\Hid (∀j (h:j<s.size),j<k->tO j s[j].toNat)) (fun i=>s.size-(intOf i).toNat)
  case atStart=>exact⟨1,by omega,by omega,rfl,Lib.hid fun j h hj=>by
   obtain rfl:j=0:=by omega
   exact .inl h3.out⟩
  case round=>
   obtain⟨k,qN,hk,rfl,dL⟩:=hrel
   by_cases dP:k<s.size
   ·go_wp2_with fail
    refine(vH _ _).mono ?_
    rintro e w' ⟨rfl,rfl⟩
    have la:tO k s[k].toNat∨¬tO k s[k].toNat:=Classical.em _
    cases hl:kM s[k].toNat
    ·go_wp2_with fail
     refine(FY _ _).mono ?_
     rintro e w' ⟨rfl,rfl⟩
     cases hd:k9 s[k].toNat
     ·by_cases uj:(s[k].toNat:Int)=95
      ·have Tj:((s[k].toNat:Int) !=95)=false:=by simp;omega
       replace uj:=Lib.hid uj
       replace hl:=Lib.hid hl
       replace hd:=Lib.hid hd
       go_wp2_with fail
       go_round
       case rel=>exact⟨k+1,by omega,by omega,by go_num,Lib.hid fun j h hj=>by
        by_cases xU:j=k
        ·subst xU;exact .inr ⟨by omega,.inr uj.out⟩
        ·exact dL.out j h (by omega)⟩
       case measure=>simp[intOf];omega
      ·have Tj:((s[k].toNat:Int) !=95)=true:=by simp;omega
       replace uj:=Lib.hid uj
       replace hl:=Lib.hid hl
       replace hd:=Lib.hid hd
       go_wp2_with fail
       go_ret
       exact⟨iy (dX fun h=>by
        have:=h.2 k dP;simp only[tO,hl.out,hd.out]at this;exact uj.out (by simp at this;exact this.2)),Below.refl _ _⟩
     ·replace hl:=Lib.hid hl
      replace hd:=Lib.hid hd
      go_wp2_with fail
      go_round
      case rel=>exact⟨k+1,by omega,by omega,by go_num,Lib.hid fun j h hj=>by
       by_cases xU:j=k
       ·subst xU;exact .inr ⟨by omega,.inl hd.out⟩
       ·exact dL.out j h (by omega)⟩
      case measure=>simp[intOf];omega
    ·replace hl:=Lib.hid hl
     go_wp2_with fail
     go_round
     case rel=>exact⟨k+1,by omega,by omega,by go_num,Lib.hid fun j h hj=>by
      by_cases xU:j=k
      ·subst xU;exact .inl hl.out
      ·exact dL.out j h (by omega)⟩
     case measure=>simp[intOf];omega
   ·go_wp2_with fail
    go_ret
    exact⟨iy (DU ⟨⟨h1,h2⟩,fun i h=>dL.out i h (by omega)⟩),Below.refl _ _⟩
theorem Bu (w:World) (s:ByteArray) (hs:s.size<=9223372036854775807):Calls Tryz.prog 198 #[.string s] w fun e w'=>e=.returned (.bool (jB s))/\w=w':=by
 go_enter Tryz.func198,Tryz.ntmps198
 go_wp2_with fail
 go_loop [8] (fun i=>∃k:Nat,k<=s.size/\i=.int .i64 k/\Hid (∀j (h:j<s.size),j<k->tO j s[j].toNat)) (fun i=>s.size-(intOf i).toNat)
 case atStart=>exact⟨0,by omega,rfl,Lib.hid fun j h hj=>by omega⟩
 case round=>
  obtain⟨k,hk,rfl,dL⟩:=hrel
  by_cases dP:k<s.size
  ·have hc:(s[k].toNat:Int)<48∨(48<=(s[k].toNat:Int)/\(s[k].toNat:Int)<=57)∨(58<=(s[k].toNat:Int)/\(s[k].toNat:Int)<=64)∨(65<=(s[k].toNat:Int)/\(s[k].toNat:Int)<=90)∨(91<=(s[k].toNat:Int)/\(s[k].toNat:Int)<=94)∨(95<=(s[k].toNat:Int)/\(s[k].toNat:Int)<=95)∨(96<=(s[k].toNat:Int)/\(s[k].toNat:Int)<=96)∨(97<=(s[k].toNat:Int)/\(s[k].toNat:Int)<=122)∨123<=(s[k].toNat:Int):=by omega
   by_cases wS:k=0
   ·subst wS
    rcases hc with h|⟨h,h'⟩|⟨h,h'⟩|⟨h,h'⟩|⟨h,h'⟩|⟨h,h'⟩|⟨h,h'⟩|⟨h,h'⟩|h
    ·have uj:((s[0].toNat:Int) !=95)=true:=by simp;try omega
     go_wp2_with fail
     all_goals first
      |(go_ret;exact⟨iy (dX fun hh=>by have:=hh.2 0 dP;simp[tO,kM,k9]at this;omega),rfl⟩)
      |(exfalso;simp_all;done)
      |(exfalso;simp_all;omega)
    ·have uj:((s[0].toNat:Int) !=95)=true:=by simp;try omega
     go_wp2_with fail
     all_goals first
      |(go_ret;exact⟨iy (dX fun hh=>by have:=hh.2 0 dP;simp[tO,kM,k9]at this;omega),rfl⟩)
      |(exfalso;simp_all;done)
      |(exfalso;simp_all;omega)
    ·have uj:((s[0].toNat:Int) !=95)=true:=by simp;try omega
     go_wp2_with fail
     all_goals first
      |(go_ret;exact⟨iy (dX fun hh=>by have:=hh.2 0 dP;simp[tO,kM,k9]at this;omega),rfl⟩)
      |(exfalso;simp_all;done)
      |(exfalso;simp_all;omega)
    ·have uj:((s[0].toNat:Int) !=95)=true:=by simp;try omega
     go_wp2_with fail
     go_round
     case rel=>exact⟨0+1,by omega,by go_num,Lib.hid fun j hj xU=>by
      by_cases IG:j=0
      ·subst IG;simp[tO,kM,k9];omega
      ·exact dL.out j hj (by omega)⟩
     case measure=>simp[intOf];try omega
    ·have uj:((s[0].toNat:Int) !=95)=true:=by simp;try omega
     go_wp2_with fail
     all_goals first
      |(go_ret;exact⟨iy (dX fun hh=>by have:=hh.2 0 dP;simp[tO,kM,k9]at this;omega),rfl⟩)
      |(exfalso;simp_all;done)
      |(exfalso;simp_all;omega)
    ·have uj:((s[0].toNat:Int) !=95)=false:=by simp;try omega
     go_wp2_with fail
     all_goals first
      |(go_ret;exact⟨iy (dX fun hh=>by have:=hh.2 0 dP;simp[tO,kM,k9]at this;omega),rfl⟩)
      |(exfalso;simp_all;done)
      |(exfalso;simp_all;omega)
    ·have uj:((s[0].toNat:Int) !=95)=true:=by simp;try omega
     go_wp2_with fail
     all_goals first
      |(go_ret;exact⟨iy (dX fun hh=>by have:=hh.2 0 dP;simp[tO,kM,k9]at this;omega),rfl⟩)
      |(exfalso;simp_all;done)
      |(exfalso;simp_all;omega)
    ·have uj:((s[0].toNat:Int) !=95)=true:=by simp;try omega
     go_wp2_with fail
     go_round
     case rel=>exact⟨0+1,by omega,by go_num,Lib.hid fun j hj xU=>by
      by_cases IG:j=0
      ·subst IG;simp[tO,kM,k9];omega
      ·exact dL.out j hj (by omega)⟩
     case measure=>simp[intOf];try omega
    ·have uj:((s[0].toNat:Int) !=95)=true:=by simp;try omega
     go_wp2_with fail
     all_goals first
      |(go_ret;exact⟨iy (dX fun hh=>by have:=hh.2 0 dP;simp[tO,kM,k9]at this;omega),rfl⟩)
      |(exfalso;simp_all;done)
      |(exfalso;simp_all;omega)
   ·have hz:((k:Int)==0)=false:=by simpa using wS
    have qN:1<=k:=by omega
    clear wS
    rcases hc with h|⟨h,h'⟩|⟨h,h'⟩|⟨h,h'⟩|⟨h,h'⟩|⟨h,h'⟩|⟨h,h'⟩|⟨h,h'⟩|h
    ·have uj:((s[k].toNat:Int) !=95)=true:=by simp;try omega
     go_wp2_with fail
     all_goals first
      |(go_ret;exact⟨iy (dX fun hh=>by have:=hh.2 k dP;simp[tO,kM,k9]at this;omega),rfl⟩)
      |(exfalso;simp_all;done)
      |(exfalso;simp_all;omega)
    ·have uj:((s[k].toNat:Int) !=95)=true:=by simp;try omega
     go_wp2_with fail
     go_round
     case rel=>exact⟨k+1,by omega,by go_num,Lib.hid fun j hj xU=>by
      by_cases IG:j=k
      ·subst IG;simp[tO,kM,k9];omega
      ·exact dL.out j hj (by omega)⟩
     case measure=>simp[intOf];try omega
    ·have uj:((s[k].toNat:Int) !=95)=true:=by simp;try omega
     go_wp2_with fail
     all_goals first
      |(go_ret;exact⟨iy (dX fun hh=>by have:=hh.2 k dP;simp[tO,kM,k9]at this;omega),rfl⟩)
      |(exfalso;simp_all;done)
      |(exfalso;simp_all;omega)
    ·have uj:((s[k].toNat:Int) !=95)=true:=by simp;try omega
     go_wp2_with fail
     go_round
     case rel=>exact⟨k+1,by omega,by go_num,Lib.hid fun j hj xU=>by
      by_cases IG:j=k
      ·subst IG;simp[tO,kM,k9];omega
      ·exact dL.out j hj (by omega)⟩
     case measure=>simp[intOf];try omega
    ·have uj:((s[k].toNat:Int) !=95)=true:=by simp;try omega
     go_wp2_with fail
     all_goals first
      |(go_ret;exact⟨iy (dX fun hh=>by have:=hh.2 k dP;simp[tO,kM,k9]at this;omega),rfl⟩)
      |(exfalso;simp_all;done)
      |(exfalso;simp_all;omega)
    ·have uj:((s[k].toNat:Int) !=95)=false:=by simp;try omega
     go_wp2_with fail
     go_round
     case rel=>exact⟨k+1,by omega,by go_num,Lib.hid fun j hj xU=>by
      by_cases IG:j=k
      ·subst IG;simp[tO,kM,k9];omega
      ·exact dL.out j hj (by omega)⟩
     case measure=>simp[intOf];try omega
    ·have uj:((s[k].toNat:Int) !=95)=true:=by simp;try omega
     go_wp2_with fail
     all_goals first
      |(go_ret;exact⟨iy (dX fun hh=>by have:=hh.2 k dP;simp[tO,kM,k9]at this;omega),rfl⟩)
      |(exfalso;simp_all;done)
      |(exfalso;simp_all;omega)
    ·have uj:((s[k].toNat:Int) !=95)=true:=by simp;try omega
     go_wp2_with fail
     go_round
     case rel=>exact⟨k+1,by omega,by go_num,Lib.hid fun j hj xU=>by
      by_cases IG:j=k
      ·subst IG;simp[tO,kM,k9];omega
      ·exact dL.out j hj (by omega)⟩
     case measure=>simp[intOf];try omega
    ·have uj:((s[k].toNat:Int) !=95)=true:=by simp;try omega
     go_wp2_with fail
     all_goals first
      |(go_ret;exact⟨iy (dX fun hh=>by have:=hh.2 k dP;simp[tO,kM,k9]at this;omega),rfl⟩)
      |(exfalso;simp_all;done)
      |(exfalso;simp_all;omega)
  ·by_cases h1:1<=s.size
   ·by_cases h2:s.size<=12
    ·go_wp2_with fail
     go_ret
     exact⟨iy (BV (by simp<;>omega) ⟨⟨h1,h2⟩,fun i h=>dL.out i h (by omega)⟩),rfl⟩
    ·go_wp2_with fail
     go_ret
     exact⟨iy (rO (by simp<;>omega) fun h=>h2 h.1.2),rfl⟩
   ·go_wp2_with fail
    go_ret
    exact⟨iy (rO (by simp<;>omega) fun h=>h1 h.1.1),rfl⟩
end Go.Proofs.YtgoelphibofcmaaGreat

namespace Go.Proofs.YtgoelphibofcmaaGreat.V
open Go.RowKit
theorem mixed:Tryz.prog.follows .mixedOrders=true:=by kernel_rfl
variable {P:Program} {w:World} {D:Nat->Prop} {ι:Names}
theorem lH {f:Nat} {args:List AV} {r:AV} {vs0:Array Value} {u0:Value} (ny:∀(w:World) (D:Nat->Prop) (ι:Names) vs,fe P w D ι args vs->vs=vs0) (hr:∀(w:World) (D:Nat->Prop) (ι:Names),dd P w D ι r u0) (Cx:∀g,gi g 6 r=some r)
  (h:∀w,Calls P f vs0 w fun e w'=>e=.returned u0/\Below w.heap.size w w'):ar P f args r:=by
 intro n
 refine fE fun hs D ι w vs S U A=>?_
 have:=ny w D ι vs A
 subst this
 refine(h w).mono ?_
 rintro e w' ⟨rfl,hb⟩
 exact⟨r,_,n,D,ι,u0,rfl,⟨r,Cx _,rfl⟩,Step.stay S hb.block hb.size hb.os hb.tape hb.output (fun _ h=>h) (fun _ h=>.inl h) (fun _ _ h=>h),
  S.stay hb.block hb.size (fun _ h=>h) (fun b hd=>Nat.lt_of_lt_of_le (S.dead b hd) hb.size) (fun _ h=>.inl h) (fun _ _ h=>h),U,Nat.le_refl _,hr _ _ _⟩
theorem Cb {s:ByteArray} {vs:Array Value} (h:fe P w D ι [.str s] vs):vs= #[.string s]:=by
 obtain⟨h1,h2⟩:=h
 obtain⟨u,hu,hr⟩:=h2 0 _ rfl
 rw[fx hr]at hu
 obtain⟨l⟩:=vs
 cases l with
 |nil=>simp at h1
 |cons a l=>cases l with
  |nil=>simp at hu;subst hu;rfl
  |cons b l=>simp at h1
theorem Ft (s:ByteArray) (hs:s.size<=9223372036854775807):ar Tryz.prog 189 [.str s] (.bool (jB s)):=
 lH (fun _ _ _ _=>Cb) (fun _ _ _=>.eO _ _ (.bool _)) (fun g=>fH g 5 _) fun w=>Cd w s hs
theorem Fa (s:ByteArray) (hs:s.size<=9223372036854775807):ar Tryz.prog 198 [.str s] (.bool (jB s)):=
 lH (fun _ _ _ _=>Cb) (fun _ _ _=>.eO _ _ (.bool _)) (fun g=>fH g 5 _) fun w=>(Bu w s hs).mono (by rintro e w' ⟨rfl,rfl⟩;exact⟨rfl,Below.refl _ _⟩)
end Go.Proofs.YtgoelphibofcmaaGreat.V

namespace Go.Proofs.YtgoelphibofcmaaGreat
open Go.RowKit
def tQ (n:Nat):List UInt8:=if h:n=0 then[]else tQ (n / 10)++[UInt8.ofNat (48+n % 10)]
termination_by n
decreasing_by omega
def oF (k:Int):ByteArray:=if k<=0 then⟨#[109,48]⟩else⟨(109::tQ k.toNat).toArray⟩
theorem FZ:tQ 0=[]:=by unfold tQ;simp
theorem H8 {n:Nat} (h:n≠0):tQ n=tQ (n / 10)++[UInt8.ofNat (48+n % 10)]:=by
 conv=>lhs;unfold tQ
 rw[dif_neg h]
theorem xH (c:UInt8) (l:ByteArray):((⟨#[c]⟩++l:ByteArray)).data.toList=c::l.data.toList:=by
 simp[ByteArray.data_append]
theorem AO:∀(m n:Nat),n<10 ^ m->(tQ n).length<=m
 |0,n,h=>by
  have:n=0:=by simpa using h
  subst this;simp[tQ]
 |m+1,n,h=>by
  unfold tQ
  split
  ·simp
  ·have:=AO m (n / 10) (by rw[Nat.pow_succ]at h;omega)
   simp;omega
theorem zA (w:World) (k:Int) (h0:0<=k) (h1:k<=4611686018427387904):
  Calls Tryz.prog 179 #[.int .i64 k] w fun e w'=>e=.returned (.string (oF k))/\Below w.heap.size w w':=by
 by_cases hk:k<=0
 ·go_enter Tryz.func179,Tryz.ntmps179
  go_wp2_with fail
  go_ret
  exact⟨by simp[oF,hk],Below.refl _ _⟩
 ·go_enter Tryz.func179,Tryz.ntmps179
  go_wp2_with fail
  go_loopw [0,3] (fun a s wr=>∃(j:Int) (l:ByteArray),a=.int .i64 j/\s=.string l/\0<=j/\j<=4611686018427387904/\Hid (tQ j.toNat++l.data.toList=tQ k.toNat)/\Below w.heap.size w wr) (fun a _ _=>(intOf a).toNat)
  case atStart=>exact⟨k,⟨#[]⟩,rfl,rfl,h0,h1,Lib.hid (by simp),Below.refl _ _⟩
  case round=>
   obtain⟨j,l,rfl,rfl,PF,hj1,hd,hb⟩:=hrel
   have fP:l.size<=19:=by
    have h1:=congrArg List.length hd.out
    have h2:=AO 19 k.toNat (by omega)
    rw[List.length_append]at h1
    have:l.data.toList.length=l.size:=by rw[Array.length_toList];rfl
    omega
   by_cases hj:0<j
   ·have QG:∀v:Int,(convert 241 9 (.slice (some ⟨wr.heap.size,0,none⟩) 1 1)).run Tryz.prog (wr.alloc (.cells #[.int .u8 v] 5))=.ok (.string ⟨#[UInt8.ofNat v.toNat]⟩) (wr.alloc (.cells #[.int .u8 v] 5)):=by
     intro v
     rw[run_convert_bytes_string _ _ _ 5 _ _ _ Tryz.underlying241 Tryz.underlying5 Tryz.underlying9,run_bytesToString _ _ _ _ [v] (by simp[loadCells,loadCellsFrom,go_sem])]
     rfl
    have hr:=fP
    go_wp2_with fail
    go_roundw
    case rel=>
     refine⟨_,_,rfl,rfl,by omega,by omega,Lib.hid ?_,hb.alloc hb.size _⟩
     rw[<-hd.out,xH,H8 (show j.toNat≠0 by omega),show(j / 10).toNat=j.toNat / 10 by omega,show(48+j % 10).toNat=48+j.toNat % 10 by omega]
     simp
    case measure=>simp[intOf];omega
   ·go_wp2_with fail
    go_ret
    refine⟨?_,hb⟩
    have h1:=hd.out
    rw[show j.toNat=0 by omega,FZ,List.nil_append]at h1
    have h2:(⟨#[109]⟩++l:ByteArray)=oF k:=by
     rw[oF,if_neg (by omega)]
     refine ByteArray.ext (Array.ext' ?_)
     rw[xH,h1]
    rw[h2];rfl
end Go.Proofs.YtgoelphibofcmaaGreat

namespace Go.Proofs.YtgoelphibofcmaaGreat.V
open Go.RowKit
attribute [local irreducible] eb wpOps gj Call
attribute [local go_sem] aJ fM eP fZ fY cL upd cu K.av cN AV.cells AV.cell rowOf rowsOf part ld rowAt bI bW dD ee gT bL dc ev fU eY dr ej da cZ dO dR bR aX cR bQ cV cU eh ek ei cQ bV db ef bP aP cX cE gS bw cJ bU aW dx bj dE AV.undef bD bF dV ec dI dS cF eu eB cD ep eo cW cY List.getD_cons_zero List.getD_cons_succ List.getD_nil List.all_cons List.all_nil Bool.and_true Bool.true_and Bool.and_self Bool.not_true Bool.not_false Option.map_some Option.map_none Option.bind_some Option.bind_none List.length_cons List.length_nil List.take_succ_cons List.take_zero List.take_nil List.drop_succ_cons List.drop_zero List.drop_nil List.head?_cons List.map_cons List.map_nil List.getElem?_cons_zero List.getElem?_cons_succ List.cons_append List.nil_append List.append_nil List.length_map List.set_cons_zero List.set_cons_succ Nat.reduceMul eq_self Int.toNat_natCast Int.natCast_nonneg and_self true_and and_true decide_true decide_false Bool.false_eq_true Nat.zero_add Nat.add_zero List.contains_cons List.contains_nil Bool.or_false Bool.false_or beq_self_eq_true Nat.reduceBEq ne_eq not_true_eq_false not_false_eq_true Id.mk.injEq false_and and_false Nat.reduceLT Int.reduceLE Int.reduceLT Int.reduceToNat Int.reduceNeg Int.reduceAdd Nat.le_refl List.length_append beq_true beq_false Bool.not_eq_eq_eq_not or_false false_or dM aj aq aH bd bz ck aU bf aT aZ cP bH
def pM (σ:au) (ids:List Id) (g:Rows) (n:Nat):Prop:=σ.next<=n/\∀x:Id,x.bm<σ.next->x∉ids->g x=σ.get x
theorem pM.trans {a b:au} {i j:List Id} {g:Rows} {n:Nat} (h:pM a i b.get b.next) (k:pM b j g n):pM a (i++j) g n:=
 ⟨Nat.le_trans h.1 k.1,fun x hx hi=>(k.2 x (Nat.lt_of_lt_of_le hx h.1) fun hc=>hi (by simp[hc])).trans (h.2 x hx fun hc=>hi (by simp[hc]))⟩
theorem pM.sub {a:au} {i j:List Id} {g:Rows} {n:Nat} (h:pM a i g n) (hs:∀x∈i,x∈j):pM a j g n:=⟨h.1,fun x hx hj=>h.2 x hx fun hi=>hj (hs x hi)⟩
theorem rV (l:List (List AV)) (i:Nat) (a b:List AV):(l.set i a).set i b=l.set i b:=List.set_set ..
theorem H9 {l:List Int} {j:Nat} (h:j<l.length):(l.map aG)[j]? =some [.int .i64 l[j]]:=by simp[h,aG]
theorem L0 {P:Program} {w:World} {D:Nat->Prop} {ι:Names} {k:Int} {vs:Array Value} (h:fe P w D ι [.int .i64 k] vs):vs= #[.int .i64 k]:=by
 obtain⟨h1,h2⟩:=h
 obtain⟨u,hu,hr⟩:=h2 0 _ rfl
 rw[dn hr]at hu
 obtain⟨l⟩:=vs
 cases l with
 |nil=>simp at h1
 |cons a l=>cases l with
  |nil=>simp at hu;subst hu;rfl
  |cons b l=>simp at h1
theorem vI (k:Int) (h0:0<=k) (h1:k<=4611686018427387904):ar Tryz.prog 179 [.int .i64 k] (.str (oF k)):=
 lH (vs0:= #[.int .i64 k]) (u0:=.string (oF k)) (fun _ _ _ _=>L0) (fun w D ι=>.eO _ _ (.str _)) (fun g=>KR g 5 _) fun w=>zA w k h0 h1
theorem DQ (i:Id) (l:List Int) (k:Int) (h0:0<=k) (h1:k+l.length<=4611686018427387904) (σ:au) (hv:i.bm<σ.next) (hg:σ.get i=some ⟨true,1,l.map aG⟩):
  Call Tryz.prog 33 [.own i 0 l.length,.int .i64 k] σ (fun r σ'=>r=.int .i64 (k+l.length)/\pM σ [i] σ'.get σ'.next):=by
 refine eU eJ rfl fun hl=>?_
 clear hl
 obtain⟨nn,hn⟩:∃nn,l.length=nn:=⟨_,rfl⟩
 rw[hn]at h1 ⊢
 (try((repeat(revert hN;revert N;apply Pn.out));refine wk @Nat.zero_add ?_;(repeat(refine Pn.mk ?_;intro N hN))))
 refine aO (fun n env st=>∃j:Nat,n=(nn)-j/\j<=(nn)/\env 5=.int .i64 (j:Int)/\env 1=.int .i64 (k+j)/\(pM σ [i] st.get st.next/\∃l':List Int,l'.length=nn/\st.get i=some ⟨true,1,l'.map aG⟩)) (nn) ⟨0,by omega,by omega,sl (tw @Int.add_zero @Int.natCast_zero),sl (tw @Int.add_zero @Int.natCast_zero),by(try dsimp only);exact⟨⟨by(try dsimp only);omega,fun x _ _=>rfl⟩,l,hn,hg⟩⟩ ?_
 rintro n_a env_a st_a ⟨j,rfl,ale,a5,a1,ke⟩ dv
 have a0:=dv 0 (by kernel_rfl)
 simp only[go_sem, ↓reduceIte,Nat.reduceEqDiff,Nat.reduceAdd,Nat.reduceSub,Nat.reduceLeDiff,reduceCtorEq,Int.add_zero,Int.natCast_zero]at a0
 clear dv
 obtain⟨⟨an,aF⟩,l',al,ag⟩:=ke
 by_cases hj:(j:Int)<(nn:Int)
 ·have cz:∀{e:Env} {gg:Rows} {nx:Nat},(e 5=.int .i64 (IntKind.i64.wrap ((j:Int)+1)))->(e 1=.int .i64 (k+(j+1)))->(pM σ [i] gg nx/\∃l':List Int,l'.length=nn/\gg i=some ⟨true,1,l'.map aG⟩)->∃m0,m0<(nn)-j/\∃j:Nat,m0=(nn)-j/\j<=(nn)/\e 5=.int .i64 (j:Int)/\e 1=.int .i64 (k+j)/\(pM σ [i] gg nx/\∃l':List Int,l'.length=nn/\gg i=some ⟨true,1,l'.map aG⟩):=fun x1 x2 x3=>⟨_,by omega,j+1,rfl,by omega,(by rw[x1,az (by omega)]),x2,x3⟩
  have ia:j<l'.length:=by omega
  have eZ:=H9 ia
  have dQ:(l'.map aG).set j [.int .i64 (k+j)]=(l'.set j (k+j)).map aG:=by rw[List.map_set];rfl
  have hw:IntKind.i64.wrap (k+(j:Int)+1)=k+((j:Int)+1):=by rw[bh (by omega)];omega
  (try((repeat(revert hN;revert N;apply Pn.out));refine wk (tw @a5 (tw @a1 (tw @a0 (tw @hj (tw @ag (tw @eZ (tw @dQ @hw))))))) ?_;(repeat(refine Pn.mk ?_;intro N hN))))
  refine cz ?_ ?_ (by(try dsimp only);exact⟨⟨by(try dsimp only);omega,fun x hx hi=>by
   have h2:=aF x hx hi
   have h3:(x=i)=False:=eq_false fun e=>hi (by simp[e])
   simp only[go_sem, ↓reduceIte,Nat.reduceEqDiff,Nat.reduceAdd,Nat.reduceSub,Nat.reduceLeDiff,reduceCtorEq,h2,h3]⟩,l'.set j (k+j),by simp[al],sl @Nat.zero_add⟩)
  all_goals simp only[go_sem, ↓reduceIte,Nat.reduceEqDiff,Nat.reduceAdd,Nat.reduceSub,Nat.reduceLeDiff,reduceCtorEq,a5,a1,a0,hw]
 ·have ia:j=nn:=by omega
  subst ia
  (try((repeat(revert hN;revert N;apply Pn.out));refine wk (tw @a5 (tw @a1 (tw @a0 @hj))) ?_;(repeat(refine Pn.mk ?_;intro N hN))))
  exact ft (.inl rfl) (vs:=[.int .i64 (k+j)]) (sd (tw @a5 (tw @a1 @a0))) ⟨rfl,⟨by(try dsimp only);omega,fun x hx hi=>aF x hx hi⟩⟩
def BS (k:Int) (n:Nat):List ae:=(List.range n).map fun j:Nat=>⟨⟨k+3*(j:Int),k+3*(j:Int)+1⟩,k+3*(j:Int)+2⟩
theorem ik (k:Int) (n:Nat):(BS k n).length=n:=by simp[BS]
theorem Je (k:Int) (n:Nat):BS k (n+1)=BS k n++[⟨⟨k+3*(n:Int),k+3*(n:Int)+1⟩,k+3*(n:Int)+2⟩]:=by simp[BS,List.range_succ]
def ju (k:Int) (l:List ae) (j:Nat):List ae:=BS k j++l.drop j
theorem BT {k:Int} {l:List ae} {j:Nat} (h:j<=l.length):(ju k l j).length=l.length:=by simp[ju,ik];omega
theorem Fk {k:Int} {l:List ae} {j:Nat} (h:j<l.length):((ju k l j).map ad)[j]? =some [.int .i64 l[j].bx.eM,.int .i64 l[j].bx.eI,.int .i64 l[j].bB]:=by
 rw[List.getElem?_map,ju,List.getElem?_append_right (by rw[ik];omega),ik,Nat.sub_self,List.getElem?_drop,Nat.add_zero,List.getElem?_eq_getElem h];rfl
theorem BU {k:Int} {l:List ae} {j:Nat} (h:j<l.length):((ju k l j).map ad).set j [.int .i64 (k+3*(j:Int)),.int .i64 (k+3*(j:Int)+1),.int .i64 (k+3*(j:Int)+2)]=(ju k l (j+1)).map ad:=by
 have:(ju k l j).set j ⟨⟨k+3*(j:Int),k+3*(j:Int)+1⟩,k+3*(j:Int)+2⟩=ju k l (j+1):=by
  rw[ju,List.set_append_right _ _ (by rw[ik];omega),ik,Nat.sub_self,List.drop_eq_getElem_cons h,List.set_cons_zero,ju,Je,List.append_assoc];rfl
 rw[<-this,List.map_set];rfl
theorem zz (i:Id) (l:List ae) (k:Int) (h0:0<=k) (h1:k+3*l.length<=4611686018427387904) (σ:au) (hv:i.bm<σ.next) (hg:σ.get i=some ⟨true,3,l.map ad⟩):
  Call Tryz.prog 77 [.own i 0 l.length,.int .i64 k] σ (fun r σ'=>r=.int .i64 (k+3*l.length)/\pM σ [i] σ'.get σ'.next/\σ'.get i=some ⟨true,3,(BS k l.length).map ad⟩):=by
 refine eU eJ rfl fun hl=>?_
 clear hl
 have hz:ju k l 0=l:=by simp[ju,BS]
 (try((repeat(revert hN;revert N;apply Pn.out));refine wk @Nat.zero_add ?_;(repeat(refine Pn.mk ?_;intro N hN))))
 refine aO (fun n env st=>∃j:Nat,n=(l.length)-j/\j<=(l.length)/\env 5=.int .i64 (j:Int)/\env 1=.int .i64 (k+3*j)/\st.get i=some ⟨true,3,(ju k l j).map ad⟩/\(pM σ [i] st.get st.next)) (l.length) ⟨0,by omega,by omega,sl (tw @Int.add_zero (tw @Int.natCast_zero (tw @Int.mul_zero (tw @hz @hg)))),sl (tw @Int.add_zero (tw @Int.natCast_zero (tw @Int.mul_zero (tw @hz @hg)))),sl (tw @Int.add_zero (tw @Int.natCast_zero (tw @Int.mul_zero (tw @hz @hg)))),by(try dsimp only);exact⟨by(try dsimp only);omega,fun x _ _=>rfl⟩⟩ ?_
 rintro n_a env_a st_a ⟨j,rfl,ale,a5,a1,ag0,ke⟩ dv
 have a0:=dv 0 (by kernel_rfl)
 simp only[go_sem, ↓reduceIte,Nat.reduceEqDiff,Nat.reduceAdd,Nat.reduceSub,Nat.reduceLeDiff,reduceCtorEq,Int.add_zero,Int.natCast_zero,Int.mul_zero,hz,hg]at a0
 clear dv
 obtain⟨an,aF⟩:=ke
 by_cases hj:(j:Int)<(l.length:Int)
 ·have cz:∀{e:Env} {gg:Rows} {nx:Nat},(e 5=.int .i64 (IntKind.i64.wrap ((j:Int)+1)))->(e 1=.int .i64 (k+3*(j+1)))->(gg i=some ⟨true,3,(ju k l (j+1)).map ad⟩)->(pM σ [i] gg nx)->∃m0,m0<(l.length)-j/\∃j:Nat,m0=(l.length)-j/\j<=(l.length)/\e 5=.int .i64 (j:Int)/\e 1=.int .i64 (k+3*j)/\gg i=some ⟨true,3,(ju k l j).map ad⟩/\(pM σ [i] gg nx):=fun x1 x2 x3 x4=>⟨_,by omega,j+1,rfl,by omega,(by rw[x1,az (by omega)]),x2,x3,x4⟩
  have ia:j<l.length:=by omega
  have eZ:=Fk (k:=k) ia
  have dQ:=BU (k:=k) ia
  have mN:IntKind.i64.wrap (k+3*(j:Int)+1)=k+3*(j:Int)+1:=bh (by omega)
  have sL:IntKind.i64.wrap (k+3*(j:Int)+1+1)=k+3*(j:Int)+2:=by rw[bh (by omega)];omega
  have IV:IntKind.i64.wrap (k+3*(j:Int)+2+1)=k+3*((j:Int)+1):=by rw[bh (by omega)];omega
  have hlen:((ju k l j).map ad).length=l.length:=by rw[List.length_map,BT (by omega)]
  have Gh:∀c:List AV,(((ju k l j).map ad).set j c)[j]? =some c:=fun c=>by rw[List.getElem?_set_self (by rw[hlen];exact ia)]
  (try((repeat(revert hN;revert N;apply Pn.out));refine wk (tw @a5 (tw @a1 (tw @ag0 (tw @a0 (tw @hj (tw @eZ (tw @Gh (tw @dQ (tw @mN (tw @sL (tw @IV (tw @hlen @rV)))))))))))) ?_;(repeat(refine Pn.mk ?_;intro N hN))))
  refine cz ?_ ?_ ?_ (by(try dsimp only);exact⟨by(try dsimp only);omega,fun x hx hi=>by
   have h2:=aF x hx hi
   have h3:(x=i)=False:=eq_false fun e=>hi (by simp[e])
   simp only[go_sem, ↓reduceIte,Nat.reduceEqDiff,Nat.reduceAdd,Nat.reduceSub,Nat.reduceLeDiff,reduceCtorEq,h2,h3]⟩)
  all_goals simp only[go_sem, ↓reduceIte,Nat.reduceEqDiff,Nat.reduceAdd,Nat.reduceSub,Nat.reduceLeDiff,reduceCtorEq,a5,a1,ag0,a0,IV,dQ]
 ·have ia:j=l.length:=by omega
  subst ia
  (try((repeat(revert hN;revert N;apply Pn.out));refine wk (tw @a5 (tw @a1 (tw @ag0 (tw @a0 @hj)))) ?_;(repeat(refine Pn.mk ?_;intro N hN))))
  have ki:ju k l l.length=BS k l.length:=by simp[ju]
  rw[ki]at ag0
  exact ft (.inl rfl) (vs:=[.int .i64 (k+3*l.length)]) (sd (tw @a5 (tw @a1 (tw @ag0 @a0)))) ⟨rfl,⟨by(try dsimp only);omega,fun x hx hi=>aF x hx hi⟩,ag0⟩
theorem BJ (i:Id) (l:List fw) (k:Int) (h0:0<=k) (h1:k+2*l.length<=4611686018427387904) (σ:au) (hv:i.bm<σ.next) (hg:σ.get i=some ⟨true,2,l.map bG⟩):
  Call Tryz.prog 131 [.own i 0 l.length,.int .i64 k] σ (fun r σ'=>r=.int .i64 (k+2*l.length)/\pM σ [i] σ'.get σ'.next):=by
 refine eU eJ rfl fun hl=>?_
 clear hl
 obtain⟨nn,hn⟩:∃nn,l.length=nn:=⟨_,rfl⟩
 rw[hn]at h1 ⊢
 (try((repeat(revert hN;revert N;apply Pn.out));refine wk @Nat.zero_add ?_;(repeat(refine Pn.mk ?_;intro N hN))))
 refine aO (fun n env st=>∃j:Nat,n=(nn)-j/\j<=(nn)/\env 5=.int .i64 (j:Int)/\env 1=.int .i64 (k+2*j)/\(pM σ [i] st.get st.next/\∃l':List fw,l'.length=nn/\st.get i=some ⟨true,2,l'.map bG⟩)) (nn) ⟨0,by omega,by omega,sl (tw @Int.add_zero (tw @Int.natCast_zero @Int.mul_zero)),sl (tw @Int.add_zero (tw @Int.natCast_zero @Int.mul_zero)),by(try dsimp only);exact⟨⟨by(try dsimp only);omega,fun x _ _=>rfl⟩,l,hn,hg⟩⟩ ?_
 rintro n_a env_a st_a ⟨j,rfl,ale,a5,a1,ke⟩ dv
 have a0:=dv 0 (by kernel_rfl)
 simp only[go_sem, ↓reduceIte,Nat.reduceEqDiff,Nat.reduceAdd,Nat.reduceSub,Nat.reduceLeDiff,reduceCtorEq,Int.add_zero,Int.natCast_zero,Int.mul_zero]at a0
 clear dv
 obtain⟨⟨an,aF⟩,l',al,ag⟩:=ke
 by_cases hj:(j:Int)<(nn:Int)
 ·have cz:∀{e:Env} {gg:Rows} {nx:Nat},(e 5=.int .i64 (IntKind.i64.wrap ((j:Int)+1)))->(e 1=.int .i64 (k+2*(j+1)))->(pM σ [i] gg nx/\∃l':List fw,l'.length=nn/\gg i=some ⟨true,2,l'.map bG⟩)->∃m0,m0<(nn)-j/\∃j:Nat,m0=(nn)-j/\j<=(nn)/\e 5=.int .i64 (j:Int)/\e 1=.int .i64 (k+2*j)/\(pM σ [i] gg nx/\∃l':List fw,l'.length=nn/\gg i=some ⟨true,2,l'.map bG⟩):=fun x1 x2 x3=>⟨_,by omega,j+1,rfl,by omega,(by rw[x1,az (by omega)]),x2,x3⟩
  have ia:j<l'.length:=by omega
  have eZ:(l'.map bG)[j]? =some [.str l'[j].aE,.int .i64 l'[j].ez]:=by simp[ia,bG]
  have hlen:(l'.map bG).length=nn:=by rw[List.length_map,al]
  have Gh:∀c:List AV,((l'.map bG).set j c)[j]? =some c:=fun c=>by rw[List.getElem?_set_self (by rw[List.length_map];exact ia)]
  have ht:=vI (k+2*(j:Int)) (by omega) (by omega)
  have mN:IntKind.i64.wrap (k+2*(j:Int)+1)=k+2*(j:Int)+1:=bh (by omega)
  have sL:IntKind.i64.wrap (k+2*(j:Int)+1+1)=k+2*((j:Int)+1):=by rw[bh (by omega)];omega
  generalize oF (k+2*(j:Int))=mt at ht
  have dQ:(l'.map bG).set j [.str mt,.int .i64 (k+2*(j:Int)+1)]=(l'.set j ⟨mt,k+2*(j:Int)+1⟩).map bG:=by rw[List.map_set];rfl
  (repeat(first|((repeat(revert hN;revert N;apply Pn.out));refine wk (tw @a5 (tw @a1 (tw @a0 (tw @hj (tw @ag (tw @eZ (tw @Gh (tw @dQ (tw @mN (tw @sL (tw @hlen @rV))))))))))) ?_;(repeat(refine Pn.mk ?_;intro N hN)))|((try apply Or.inl);refine⟨_,ar.x (ht) (sd (tw @a5 (tw @a1 (tw @a0 (tw @hj (tw @ag (tw @eZ (tw @Gh (tw @dQ (tw @mN (tw @sL (tw @hlen @rV)))))))))))),?_⟩;refine hN _ _ ?_;clear hN N)))
  refine cz ?_ ?_ (by(try dsimp only);exact⟨⟨by(try dsimp only);omega,fun x hx hi=>by
   have h2:=aF x hx hi
   have h3:(x=i)=False:=eq_false fun e=>hi (by simp[e])
   simp only[go_sem, ↓reduceIte,Nat.reduceEqDiff,Nat.reduceAdd,Nat.reduceSub,Nat.reduceLeDiff,reduceCtorEq,h2,h3]⟩,l'.set j ⟨mt,k+2*(j:Int)+1⟩,by simp[al],sl @Nat.zero_add⟩)
  all_goals simp only[go_sem, ↓reduceIte,Nat.reduceEqDiff,Nat.reduceAdd,Nat.reduceSub,Nat.reduceLeDiff,reduceCtorEq,a5,a1,a0,sL,dQ]
 ·have ia:j=nn:=by omega
  subst ia
  (try((repeat(revert hN;revert N;apply Pn.out));refine wk (tw @a5 (tw @a1 (tw @a0 @hj))) ?_;(repeat(refine Pn.mk ?_;intro N hN))))
  exact ft (.inl rfl) (vs:=[.int .i64 (k+2*j)]) (sd (tw @a5 (tw @a1 @a0))) ⟨rfl,⟨by(try dsimp only);omega,fun x hx hi=>aF x hx hi⟩⟩
end Go.Proofs.YtgoelphibofcmaaGreat.V

namespace Go.Proofs.YtgoelphibofcmaaGreat.V
open Go.RowKit
attribute [local irreducible] eb wpOps gj Call
attribute [local go_sem] aJ fM eP fZ fY cL upd cu K.av cN AV.cells AV.cell rowOf rowsOf part ld rowAt bI bW dD ee gT bL dc ev fU eY dr ej da cZ dO dR bR aX cR bQ cV cU eh ek ei cQ bV db ef bP aP cX cE gS bw cJ bU aW dx bj dE AV.undef bD bF dV ec dI dS cF eu eB cD ep eo cW cY List.getD_cons_zero List.getD_cons_succ List.getD_nil List.all_cons List.all_nil Bool.and_true Bool.true_and Bool.and_self Bool.not_true Bool.not_false Option.map_some Option.map_none Option.bind_some Option.bind_none List.length_cons List.length_nil List.take_succ_cons List.take_zero List.take_nil List.drop_succ_cons List.drop_zero List.drop_nil List.head?_cons List.map_cons List.map_nil List.getElem?_cons_zero List.getElem?_cons_succ List.cons_append List.nil_append List.append_nil List.length_map List.set_cons_zero List.set_cons_succ Nat.reduceMul eq_self Int.toNat_natCast Int.natCast_nonneg and_self true_and and_true decide_true decide_false Bool.false_eq_true Nat.zero_add Nat.add_zero List.contains_cons List.contains_nil Bool.or_false Bool.false_or beq_self_eq_true Nat.reduceBEq ne_eq not_true_eq_false not_false_eq_true Id.mk.injEq false_and and_false Nat.reduceLT Int.reduceLE Int.reduceLT Int.reduceToNat Int.reduceNeg Int.reduceAdd Nat.le_refl List.length_append beq_true beq_false Bool.not_eq_eq_eq_not or_false false_or dM aj aq aH bd bz ck aU bf aT aZ cP bH
theorem iq.flat {α:Type} {e:α->List AV} {z:Nat} {g:Rows} {a:AV} {xs:List α} {ids:List Id} (h:iq (lk e) z g a xs ids):∃o,a=.own o 0 xs.length/\g o=some ⟨true,z,xs.map e⟩/\ids=[o]:=by
 obtain⟨o,rows,is,h1,h2,h3,rfl⟩:=h
 have:∀{rows:List (List AV)} {xs:List α} {is:List Id},eE (lk e) g rows xs is->rows=xs.map e/\is=[]:=fun h=>by
  induction h with
  |nil=>exact⟨rfl,rfl⟩
  |cons h1 _ ih=>obtain⟨rfl,rfl⟩:=h1;obtain⟨rfl,rfl⟩:=ih;exact⟨rfl,rfl⟩
 obtain⟨rfl,rfl⟩:=this h3
 exact⟨o,h1,h2,rfl⟩
def gw (t:eT):Nat:=1+t.br.length
theorem BL (a:AV) (l:List eT) (ids:List Id) (k:Int) (h0:0<=k) (xV:l.length<=1048576) (h1:k+(l.map gw).sum<=4611686018427387904) (σ:au) (hv:∀i∈ids,i.bm<σ.next) (lN:ids.Nodup) (hg:iq nT 2 σ.get a l ids):
  Call Tryz.prog 132 [a,.int .i64 k] σ (fun r σ'=>r=.int .i64 (k+(l.map gw).sum)/\pM σ ids σ'.get σ'.next):=by
 obtain⟨o,rows,is,rfl,ho,hR,rfl⟩:=hg
 refine eU eJ rfl fun hl=>?_
 clear hl
 have rD:=hv o (by simp)
 have MO:=mc gw l
 (try((repeat(revert hN;revert N;apply Pn.out));refine wk @Nat.zero_add ?_;(repeat(refine Pn.mk ?_;intro N hN))))
 refine aO (fun n env st=>∃j:Nat,n=(l.length)-j/\j<=(l.length)/\env 5=.int .i64 (j:Int)/\env 1=.int .i64 (k+iD gw l j)/\(pM σ (o::is) st.get st.next/\∃pre rest ir,st.get o=some ⟨true,2,pre++rest⟩/\pre.length=j/\eE nT st.get rest (l.drop j) ir/\(o::ir).Nodup/\∀i∈ir,i∈is)) (l.length) ⟨0,by omega,by omega,sl (tw @Int.add_zero (tw @Int.natCast_zero @MO)),sl (tw @Int.add_zero (tw @Int.natCast_zero @MO)),by(try dsimp only);exact⟨⟨by(try dsimp only);omega,fun x _ _=>rfl⟩,[],rows,is,ho,rfl,hR,lN,fun _ h=>h⟩⟩ ?_
 rintro n_a env_a st_a ⟨j,rfl,ale,a5,a1,ke⟩ dv
 have a0:=dv 0 (by kernel_rfl)
 simp only[go_sem, ↓reduceIte,Nat.reduceEqDiff,Nat.reduceAdd,Nat.reduceSub,Nat.reduceLeDiff,reduceCtorEq,Int.add_zero,Int.natCast_zero,MO]at a0
 clear dv
 obtain⟨⟨an,aF⟩,pre,rest,ir,ag,apl,aR,aN,aS⟩:=ke
 by_cases hj:(j:Int)<(l.length:Int)
 ·have cz:∀{e:Env} {gg:Rows} {nx:Nat},(e 5=.int .i64 (IntKind.i64.wrap ((j:Int)+1)))->(e 1=.int .i64 (k+iD gw l (j+1)))->(pM σ (o::is) gg nx/\∃pre rest ir,gg o=some ⟨true,2,pre++rest⟩/\pre.length=(j+1)/\eE nT gg rest (l.drop (j+1)) ir/\(o::ir).Nodup/\∀i∈ir,i∈is)->∃m0,m0<(l.length)-j/\∃j:Nat,m0=(l.length)-j/\j<=(l.length)/\e 5=.int .i64 (j:Int)/\e 1=.int .i64 (k+iD gw l j)/\(pM σ (o::is) gg nx/\∃pre rest ir,gg o=some ⟨true,2,pre++rest⟩/\pre.length=j/\eE nT gg rest (l.drop j) ir/\(o::ir).Nodup/\∀i∈ir,i∈is):=fun x1 x2 x3=>⟨_,by omega,j+1,rfl,by omega,(by rw[x1,az (by omega)]),x2,x3⟩
  have ia:j<l.length:=by omega
  have Ox:=wG gw ia
  have hle:=pW gw l (j+1)
  obtain⟨t,htj⟩:∃t,l[j]=t:=⟨_,rfl⟩
  rw[List.drop_eq_getElem_cons ia,htj]at aR
  rw[htj]at Ox
  cases aR with
  | @cons cs _ ic rs _ i2 hT Qv=>
  obtain⟨i,rfl,hi,rfl⟩:=hT
  rw[List.singleton_append]at aN aS
  obtain⟨n1,n2⟩:=List.nodup_cons.1 aN
  obtain⟨n3,n4⟩:=List.nodup_cons.1 n2
  have PL:(o=i)=False:=eq_false fun e=>n1 (by simp[e])
  have PD:(i=o)=False:=eq_false fun e=>n1 (by simp[e])
  have hiv:i.bm<σ.next:=hv i (by simp[aS i (by simp)])
  have QU:gw t=1+t.br.length:=rfl
  have ht:=vI (k+(iD gw l j:Nat)) (by omega) (by omega)
  have mN:IntKind.i64.wrap (k+(iD gw l j:Nat)+1)=k+(iD gw l j:Nat)+1:=bh (by omega)
  generalize oF (k+(iD gw l j:Nat))=mt at ht
  have eZ:(pre++[.str t.aE,.own i 0 t.br.length]::rs)[j]? =some [.str t.aE,.own i 0 t.br.length]:=by subst apl;simp
  have dQ:(pre++[.str t.aE,.own i 0 t.br.length]::rs).set j [.str mt,.own i 0 t.br.length]=pre++[.str mt,.own i 0 t.br.length]::rs:=by subst apl;simp
  have MG:(pre++[.str mt,.own i 0 t.br.length]::rs)[j]? =some [.str mt,.own i 0 t.br.length]:=by subst apl;simp
  (repeat(first|((repeat(revert hN;revert N;apply Pn.out));refine wk (tw @a5 (tw @a1 (tw @a0 (tw @hj (tw @ag (tw @eZ (tw @dQ (tw @MG (tw @mN (tw @PL (tw @PD @hi))))))))))) ?_;(repeat(refine Pn.mk ?_;intro N hN)))|((try apply Or.inl);refine⟨_,ar.x (ht) (sd (tw @a5 (tw @a1 (tw @a0 (tw @hj (tw @ag (tw @eZ (tw @dQ (tw @MG (tw @mN (tw @PL (tw @PD @hi)))))))))))),?_⟩;refine hN _ _ ?_;clear hN N)))
  refine .inr (aL _ _ _ _ _ (fun r σ1 hq=>?_) (DQ i t.br (k+(iD gw l j:Nat)+1) (by omega) (by omega) _ (by(try dsimp only);omega) (sd (tw @PL (tw @PD @hi)))))
  obtain⟨g1,x1⟩:=σ1
  obtain⟨rfl,xY,tX⟩:=hq
  (try dsimp only at xY tX)
  refine hN _ _ ?_
  clear hN N
  have Ue:k+(iD gw l j:Nat)+1+t.br.length=k+(iD gw l (j+1):Nat):=by omega
  (try((repeat(revert hN;revert N;apply Pn.out));refine wk (tw @a5 (tw @a1 (tw @a0 @Ue))) ?_;(repeat(refine Pn.mk ?_;intro N hN))))
  have gk:∀x:Id,x.bm<σ.next->x≠o->x≠i->g1 x=st_a.get x:=fun x hx h3 h4=>by
   have h2:=tX x (by(try dsimp only);omega) (by simp[h4])
   have h5:=eq_false h3
   simp only[go_sem, ↓reduceIte,Nat.reduceEqDiff,Nat.reduceAdd,Nat.reduceSub,Nat.reduceLeDiff,reduceCtorEq,h5]at h2
   exact h2
  have go:=tX o (by(try dsimp only);omega) (by simp only[List.mem_singleton];exact fun e=>n1 (by simp[e]))
  simp only[go_sem, ↓reduceIte,Nat.reduceEqDiff,Nat.reduceAdd,Nat.reduceSub,Nat.reduceLeDiff,reduceCtorEq]at go
  refine cz ?_ ?_ (by(try dsimp only);exact⟨⟨by(try dsimp only);omega,fun x hx hi=>by
   have h3:x≠o:=fun e=>hi (by simp[e])
   have h4:x≠i:=fun e=>hi (by simp[e,aS i (by simp)])
   rw[gk x hx h3 h4]
   exact aF x hx hi⟩,pre++[[.str mt,.own i 0 t.br.length]],rs,i2,by rw[go];simp,by simp[apl],Qv.frame qK (fun x hx=>gk x (hv x (by simp[aS x (by simp[hx])])) (fun e=>n1 (by simp[<-e,hx])) (fun e=>n3 (by rw[<-e];exact hx))),List.nodup_cons.2 ⟨fun h=>n1 (by simp[h]),n4⟩,fun x hx=>aS x (by simp[hx])⟩)
  all_goals simp only[go_sem, ↓reduceIte,Nat.reduceEqDiff,Nat.reduceAdd,Nat.reduceSub,Nat.reduceLeDiff,reduceCtorEq,a5,a1,a0,Ue]
 ·have ia:j=l.length:=by omega
  subst ia
  have dL:=Cg gw l
  rw[dL]at a1
  (try((repeat(revert hN;revert N;apply Pn.out));refine wk (tw @a5 (tw @a1 (tw @a0 @hj))) ?_;(repeat(refine Pn.mk ?_;intro N hN))))
  exact ft (.inl rfl) (vs:=[.int .i64 (k+(l.map gw).sum)]) (sd (tw @a5 (tw @a1 @a0))) ⟨rfl,⟨by(try dsimp only);omega,fun x hx hi=>aF x hx hi⟩⟩
theorem yg (v:AV) (p:dK) (ids:List Id) (k:Int) (h0:0<=k) (h1:k+3*p.ah.length<=4611686018427387904) (σ:au) (hv:∀i∈ids,i.bm<σ.next) (hg:wV σ.get v p ids):
  Call Tryz.prog 32 [v,.int .i64 k] σ (fun r σ'=>r=.int .i64 (k+3*p.ah.length)/\pM σ ids σ'.get σ'.next):=by
 obtain⟨c,rfl,hc⟩:=hg
 obtain⟨o,rfl,ho,rfl⟩:=hc.flat
 refine eU eJ rfl fun hl=>?_
 clear hl
 have rD:=dz (hv o (by simp))
 have Lc:=hv o (by simp)
 (try((repeat(revert hN;revert N;apply Pn.out));refine wk @Nat.zero_add ?_;(repeat(refine Pn.mk ?_;intro N hN))))
 refine .inr (aL _ _ _ _ _ (fun r σ1 hq=>?_) (zz o p.ah k h0 h1 _ (by(try dsimp only);omega) (sd (tw @rD @ho))))
 obtain⟨g1,x1⟩:=σ1
 obtain⟨rfl,⟨xY,tX⟩,_⟩:=hq
 (try dsimp only at xY tX)
 refine hN _ _ ?_
 clear hN N
 (try((repeat(revert hN;revert N;apply Pn.out));refine wk @Nat.zero_add ?_;(repeat(refine Pn.mk ?_;intro N hN))))
 exact ft (.inl rfl) (vs:=[.int .i64 (k+3*p.ah.length)]) (sd @Nat.zero_add) ⟨rfl,⟨by(try dsimp only);omega,fun x hx hi=>by
  have h2:=tX x (by(try dsimp only);omega) hi
  have h3:=dz hx
  simp only[go_sem, ↓reduceIte,Nat.reduceEqDiff,Nat.reduceAdd,Nat.reduceSub,Nat.reduceLeDiff,reduceCtorEq,h3]at h2
  exact h2⟩⟩
def BI (s:aD):Nat:=2*s.aB.ax.length+(s.aB.ah.map gw).sum+3*s.cq.ah.length
theorem GH (a b:AV) (p:aw) (i1 i2:List Id) (k:Int) (h0:0<=k) (xV:p.ah.length<=1048576) (h1:k+2*p.ax.length+(p.ah.map gw).sum<=4611686018427387904) (σ:au) (hv:∀i∈i1++i2,i.bm<σ.next) (lN:(i1++i2).Nodup)
  (hA:iq (lk bG) 2 σ.get a p.ax i1) (hB:iq nT 2 σ.get b p.ah i2):
  Call Tryz.prog 76 [.agg [a,b],.int .i64 k] σ (fun r σ'=>r=.int .i64 (k+2*p.ax.length+(p.ah.map gw).sum)/\pM σ (i1++i2) σ'.get σ'.next):=by
 obtain⟨_,n2,n3⟩:=List.nodup_append.1 lN
 obtain⟨o,rfl,ho,rfl⟩:=hA.flat
 obtain⟨ob,rfl⟩:=hB.kJ
 refine eU eJ rfl fun hl=>?_
 clear hl
 have Lc:=hv o (by simp)
 have rD:=dz Lc
 (try((repeat(revert hN;revert N;apply Pn.out));refine wk @Nat.zero_add ?_;(repeat(refine Pn.mk ?_;intro N hN))))
 refine .inr (aL _ _ _ _ _ (fun r σ1 hq=>?_) (BJ o p.ax k h0 (by omega) _ (by(try dsimp only);omega) (sd (tw @rD @ho))))
 obtain⟨g1,x1⟩:=σ1
 obtain⟨rfl,xY,tX⟩:=hq
 (try dsimp only at xY tX)
 refine hN _ _ ?_
 clear hN N
 have k1:=tX ⟨76000000,σ.next⟩ (by(try dsimp only);omega) (by simp only[List.mem_singleton];intro e;rw[<-e]at Lc;(try dsimp only at Lc);omega)
 simp only[go_sem, ↓reduceIte,Nat.reduceEqDiff,Nat.reduceAdd,Nat.reduceSub,Nat.reduceLeDiff,reduceCtorEq]at k1
 (try((repeat(revert hN;revert N;apply Pn.out));refine wk @k1 ?_;(repeat(refine Pn.mk ?_;intro N hN))))
 have hf:∀x:Id,x.bm<σ.next->x≠o->g1 x=σ.get x:=fun x hx ho=>by
  have h2:=tX x (by(try dsimp only);omega) (by simp[ho])
  have h3:=dz hx
  simp only[go_sem, ↓reduceIte,Nat.reduceEqDiff,Nat.reduceAdd,Nat.reduceSub,Nat.reduceLeDiff,reduceCtorEq,h3]at h2
  exact h2
 refine .inr (aL _ _ _ _ _ (fun r σ2 hq=>?_) (BL _ p.ah i2 (k+2*p.ax.length) (by omega) xV h1 _ (fun i hi=>by have:=hv i (by simp[hi]);(try dsimp only);omega) n2 (hB.frame qK fun i hi=>hf i (hv i (by simp[hi])) fun e=>n3 o (by simp) i hi e.symm)))
 obtain⟨g2,x2⟩:=σ2
 obtain⟨rfl,Lg,Ai⟩:=hq
 (try dsimp only at Lg Ai)
 refine hN _ _ ?_
 clear hN N
 (try((repeat(revert hN;revert N;apply Pn.out));refine wk @Nat.zero_add ?_;(repeat(refine Pn.mk ?_;intro N hN))))
 exact ft (.inl rfl) (vs:=[.int .i64 (k+2*p.ax.length+(p.ah.map gw).sum)]) (sd @Nat.zero_add) ⟨rfl,⟨by(try dsimp only);omega,fun x hx hi=>(Ai x (by(try dsimp only);omega) fun h=>hi (by simp[h])).trans (hf x hx fun e=>hi (by simp[e]))⟩⟩
theorem GI (v:AV) (p:aD) (ids:List Id) (k:Int) (h0:0<=k) (xV:p.aB.ah.length<=1048576) (h1:k+BI p<=4611686018427387904) (σ:au) (hv:∀i∈ids,i.bm<σ.next) (lN:ids.Nodup) (hg:yL σ.get v p ids):
  Call Tryz.prog 31 [v,.int .i64 k] σ (fun r σ'=>r=.int .i64 (k+BI p)/\pM σ ids σ'.get σ'.next):=by
 obtain⟨a,b,c,i1,i2,i3,rfl,hA,hB,hC,rfl⟩:=hg.ex
 rw[<-List.append_assoc]at lN
 obtain⟨n1,_,n3⟩:=List.nodup_append.1 lN
 obtain⟨oa,rfl⟩:=hA.kJ
 obtain⟨ob,rfl⟩:=hB.kJ
 obtain⟨oc,rfl⟩:=hC.kJ
 have hm:(BI p:Int)=2*p.aB.ax.length+(p.aB.ah.map gw).sum+3*p.cq.ah.length:=by simp[BI]
 refine eU eJ rfl fun hl=>?_
 clear hl
 have Th:∀x∈i1++(i2++i3),bI σ.get ⟨31000000,σ.next⟩ ⟨true,4,[[.own oa 0 p.aB.ax.length,.own ob 0 p.aB.ah.length,.own oc 0 p.cq.ah.length,.int .i64 p.ay]]⟩ x=σ.get x:=fun x hx=>by
  have:=dz (hv x hx)
  simp only[go_sem, ↓reduceIte,Nat.reduceEqDiff,Nat.reduceAdd,Nat.reduceSub,Nat.reduceLeDiff,reduceCtorEq,this]
 (try((repeat(revert hN;revert N;apply Pn.out));refine wk @Nat.zero_add ?_;(repeat(refine Pn.mk ?_;intro N hN))))
 refine .inr (aL _ _ _ _ _ (fun r σ1 hq=>?_) (GH _ _ p.aB i1 i2 k h0 xV (by omega) _ (fun i hi=>by have:=hv i (by rcases List.mem_append.1 hi with h|h<;>simp[h]);(try dsimp only);omega) n1 (hA.frame AX fun i hi=>Th i (by simp[hi])) (hB.frame qK fun i hi=>Th i (by simp[hi]))))
 obtain⟨g1,x1⟩:=σ1
 obtain⟨rfl,xY,tX⟩:=hq
 (try dsimp only at xY tX)
 refine hN _ _ ?_
 clear hN N
 have k1:=tX ⟨31000000,σ.next⟩ (by(try dsimp only);omega) (fun h=>by
  have:=hv ⟨31000000,σ.next⟩ (by rcases List.mem_append.1 h with h|h<;>simp[h])
  (try dsimp only at this);omega)
 simp only[go_sem, ↓reduceIte,Nat.reduceEqDiff,Nat.reduceAdd,Nat.reduceSub,Nat.reduceLeDiff,reduceCtorEq]at k1
 (try((repeat(revert hN;revert N;apply Pn.out));refine wk @k1 ?_;(repeat(refine Pn.mk ?_;intro N hN))))
 refine .inr (aL _ _ _ _ _ (fun r σ2 hq=>?_) (yg _ p.cq i3 (k+2*p.aB.ax.length+(p.aB.ah.map gw).sum) (by omega) (by omega) _ (fun i hi=>by have:=hv i (by simp[hi]);(try dsimp only);omega) ⟨_,rfl,hC.frame xK fun i hi=>?_⟩))
 rotate_left
 ·exact(tX i (by have:=hv i (by simp[hi]);(try dsimp only);omega) fun h=>n3 i h i hi rfl).trans (Th i (by simp[hi]))
 obtain⟨g2,x2⟩:=σ2
 obtain⟨rfl,Lg,Ai⟩:=hq
 (try dsimp only at Lg Ai)
 refine hN _ _ ?_
 clear hN N
 (try((repeat(revert hN;revert N;apply Pn.out));refine wk @Nat.zero_add ?_;(repeat(refine Pn.mk ?_;intro N hN))))
 exact ft (.inl rfl) (vs:=[.int .i64 (k+2*p.aB.ax.length+(p.aB.ah.map gw).sum+3*p.cq.ah.length)]) (sd @Nat.zero_add) ⟨by rw[hm];exact congrArg (AV.int .i64) (by omega),⟨by(try dsimp only);omega,fun x hx hi=>by
  have h2:=Ai x (by(try dsimp only);omega) fun h=>hi (by simp[h])
  have h3:=tX x (by(try dsimp only);omega) fun h=>hi (by rcases List.mem_append.1 h with h|h<;>simp[h])
  have h4:=dz hx
  simp only[go_sem, ↓reduceIte,Nat.reduceEqDiff,Nat.reduceAdd,Nat.reduceSub,Nat.reduceLeDiff,reduceCtorEq,h4]at h3
  exact h2.trans h3⟩⟩
end Go.Proofs.YtgoelphibofcmaaGreat.V

namespace Go.Proofs.YtgoelphibofcmaaGreat.V
open Go.RowKit
def AV.clean:AV->Bool
 | .int .. | .bool _| .str _| .cr| .gI| .iS| .jc| .own .. | .ptr .. | .map .. | .rf _=>true
 | .sl l=>l.isEmpty
 |_=>false
def AV.yV:AV->Bool
 | .agg cs=>cs.all AV.clean
 | .iF cs=>cs.all fun a=>match a with
  | .agg cs=>cs.all AV.clean
  |a=>a.clean
 |a=>a.clean
def yC (ids:List Id) (g g':Rows):Rows:=fun id=>if id∈ids then g' id else g id
theorem r5 {ids:List Id} {g g':Rows} {id:Id} (h:id∈ids):yC ids g g' id=g' id:=if_pos h
theorem ph {ids:List Id} {g g':Rows} {id:Id} (h:id∉ids):yC ids g g' id=g id:=if_neg h
section
variable {P:Program} {w w':World} {D D' D1 D2:Nat->Prop} {ι ι1 ι2:Names}
theorem jJ {a:AV} {v:Value} (hp:a.clean=true) (h:dd P w D1 ι1 a v):dd P w D2 ι1 a v:=by
 cases h with
 |eO a v h=>
  cases h with
  |int=>exact .eO _ _ (.int _ _)
  |bool=>exact .eO _ _ (.bool _)
  |str=>exact .eO _ _ (.str _)
  |cr=>exact .eO _ _ .cr
  |gI=>exact .eO _ _ .gI
  |iS=>exact .eO _ _ .iS
  |jc=>exact .eO _ _ .jc
  |Am a c h=>exact .eO _ _ (.Am a c h)
  |sl rows b o n c sz vs h1 h2 h3=>
   have:rows=[]:=by simpa[AV.clean]using hp
   subst this
   simp only[List.length_nil]at h1
   subst h1
   exact .eO _ _ (.Am _ _ h3)
  |dj=>simp[AV.clean]at hp
  |agg=>simp[AV.clean]at hp
  |fn=>simp[AV.clean]at hp
 |own id off len o cap B h1 h2 h3 h4 h5 h6=>exact .own id off len o cap B h1 h2 h3 h4 h5 h6
 |map id m B h1 h2=>exact .map id m B h1 h2
 |rf id c B h1 h2=>exact .rf id c B h1 h2
 |ptr id i off B h1 h2=>exact .ptr id i off B h1 h2
 |agg=>simp[AV.clean]at hp
 |iF=>simp[AV.clean]at hp
 |fn=>simp[AV.clean]at hp
 |tA=>simp[AV.clean]at hp
theorem lG {cs:List AV} {v:Value} (hc:cs.all AV.clean=true) (h:dd P w D1 ι1 (.agg cs) v):dd P w D2 ι1 (.agg cs) v:=by
 obtain⟨vs,f,rfl,h1,h2,h3,h4⟩:=il h
 rw[List.all_eq_true]at hc
 exact .agg cs vs f h1 h2 h3 fun j a ha=>jJ (hc a (List.mem_of_getElem? ha)) (h4 j a ha)
theorem D5 {a:AV} {v:Value} (hp:a.yV=true) (h:dd P w D1 ι1 a v):dd P w D2 ι1 a v:=by
 cases a with
 |agg cs=>exact lG hp h
 |iF cs=>
  obtain⟨vs,f,rfl,h1,h3,h4⟩:=uv h
  simp only[AV.yV,List.all_eq_true]at hp
  refine .iF cs vs f h1 h3 fun j a ha=>?_
  have:=hp a (List.mem_of_getElem? ha)
  split at this
  ·exact lG this (h4 j _ ha)
  ·exact jJ this (h4 j _ ha)
 |_=>exact jJ hp h
theorem DZ {ag:Bool} {n:Nat} {cs:List AV} {x:AV} {v:Value} (hc:∀a∈cs,a.clean=true) (hp:part ag n cs=some x) (hr:dd P w D1 ι1 x v):dd P w D2 ι1 x v:=by
 unfold part at hp
 split at hp
 ·split at hp
  ·simp only[Option.some.injEq]at hp;subst hp
   exact lG (List.all_eq_true.2 fun a ha=>hc a (List.mem_of_mem_take ha)) hr
  ·cases hp
 ·exact jJ (hc x (List.mem_of_mem_head? hp)) hr
theorem gP.clean {B:sk} {r:Row} (R:gP P w D1 ι1 B r) (h:∀cs∈r.rows,∀a∈cs,a.clean=true):gP P w D2 ι1 B r:=
 ⟨R.sz,R.flat,fun hk=>⟨R.sz,(R.row hk).xz,(R.row hk).fits,(R.row hk).len,R.flat,fun i j cs a hi hj=>by
  obtain⟨v,q1,q2⟩:=(R.row hk).at_ i j cs a hi hj
  exact⟨v,q1,jJ (h cs (List.mem_of_getElem? hi) a (List.mem_of_getElem? hj)) q2⟩⟩,fun m hm=>by
  obtain⟨h1,es,c,h2,h3,h5,h4⟩:=R.map m hm
  refine⟨h1,es,c,h2,h3,h5,fun i cs hi=>?_⟩
  obtain⟨e,kv,vv,q1,q2,q3,q4,q5⟩:=h4 i cs hi
  have hc:=h cs (List.mem_of_getElem? hi)
  exact⟨e,kv,vv,q1,q2,q3,DZ hc q2 q4,jJ (hc vv (List.mem_of_getElem? q3)) q5⟩,fun c hc=>by
  obtain⟨h1,buf,s,q,h2,h3,h4⟩:=R.chan c hc
  refine⟨h1,buf,s,q,h2,h3,fun i cs hi=>?_⟩
  obtain⟨a,u,rfl,q2,q3⟩:=h4 i cs hi
  exact⟨a,u,rfl,q2,jJ (h [a] (List.mem_of_getElem? hi) a (by simp)) q3⟩⟩
def Handed (ids:List Id) (g:Rows):Prop:=∀id∈ids,∃r,g id=some r/\r.w=true/\∀cs∈r.rows,∀a∈cs,a.clean=true
theorem Hk {f:Nat} {args eC:List AV} {g:Rows} {n:Nat} {K:AV->au->Prop} (hv:cK (dM g) 6 args=some eC)
  (h:Sound P f eC ⟨fun _=>none,n⟩ fun r σ'=>∃ids,r.yV=true/\Handed ids σ'.get/\K r ⟨yC ids g σ'.get,σ'.next⟩):Sound P f args ⟨g,n⟩ K:=by
 intro hs D ι w vs S U A
 let E:Nat->Prop:=fun b=>D b∨∃id r B,g id=some r/\ι id=some B/\b=B.b
 have lt:∀id r B,g id=some r->ι id=some B->B.b<w.heap.size:=fun id r B h1 h2=>by
  obtain⟨B',dC,R,_⟩:=S.row id r h1
  rw[h2]at dC;injection dC with dC;subst dC
  exact R.lt
 have S0:gm P w.heap.size E ι (fun _=>none) w:=⟨Nat.le_refl _,fun b hb=>by
  rcases hb with hb|⟨id,r,B,h1,h2,rfl⟩
  ·exact S.dead b hb
  ·exact lt id r B h1 h2,fun id r h=>(by cases h),fun id kI r r' B B' h=>(by cases h)⟩
 obtain⟨l1,l2⟩:=gq hv
 have A':fe P w E ι eC vs:=⟨by rw[A.1,l1],fun j a hj=>by
  obtain⟨a0,k7,hz⟩:=l2 j a hj
  obtain⟨u,hu,hr⟩:=A.2 j a0 k7
  refine⟨u,hu,(rq (D2:=E) (ι2:=ι) (fun b h=>.inl h) (fun id row hg hw=>?_) 6 a0 u a hr hz).1⟩
  unfold dM at hg
  simp only[Option.map_eq_some_iff]at hg
  obtain⟨r,nL,rfl⟩:=hg
  obtain⟨B,hB,R,_,_⟩:=S.row id r nL
  exact⟨B,hB,R.flag true,.inr ⟨id,r,B,nL,hB,rfl⟩⟩⟩
 refine(h w.heap.size E ι w vs S0 U A').mono ?_
 rintro e w' ⟨r0,g',n',D2,ι1,u,rfl,⟨ids,mK,hid,hK⟩,T,S1,U1,hn,hR⟩
 have hb:∀b,b<w.heap.size->w'.heap[b]? =w.heap[b]? :=T.below.block
 have hz:=T.below.size
 have frame:∀{a v},dd P w D ι a v->dd P w' D ι1 a v:=fun h=>h.frame (fun b hd=>hb b (S.dead b hd)) (fun _ h=>h) T.names
 refine⟨r0,_,n',D,ι1,u,rfl,hK,⟨T.below.mono S.lo,fun b hd=>hb b (S.dead b hd),fun _ h=>h,T.names,fun _ h=>.inl h⟩,⟨Nat.le_trans S.lo hz,fun b hd=>Nat.lt_of_lt_of_le (S.dead b hd) hz,fun id r hr=>?_,fun Rj id2 r1 r2 B1 B2 h1 h2 hw Ae pD MD=>?_⟩,U1,hn,D5 mK hR⟩
 ·by_cases hi:id∈ids
  ·rw[r5 hi]at hr
   obtain⟨r',nL,hw,hcr⟩:=hid id hi
   rw[hr]at nL;injection nL with nL;subst nL
   obtain⟨B,hB,R,k1,k2⟩:=S1.row id r hr
   have jT:=k1 hw
   exact⟨B,hB,R.clean hcr,fun _=>Nat.le_trans S.lo jT,fun _ hd=>Nat.lt_irrefl _ (Nat.lt_of_lt_of_le (S.dead _ hd) jT)⟩
  ·rw[ph hi]at hr
   obtain⟨B,hB,R,k1,k2⟩:=S.row id r hr
   have hBl:=lt id r B hr hB
   exact⟨B,T.names _ _ hB,R.frame (hb _ hBl) fun a v h=>frame h,k1,k2⟩
 ·have new:∀{id r B},id∈ids->yC ids g g' id=some r->ι1 id=some B->w.heap.size<=B.b/\g' id=some r/\r.w=true:=fun {id r B} hi hr hB=>by
   rw[r5 hi]at hr
   obtain⟨r',nL,hw,_⟩:=hid id hi
   replace nL:g' id=some r':=nL
   rw[hr]at nL;injection nL with nL;subst nL
   obtain⟨B',dC,_,k1,_⟩:=S1.row id r hr
   rw[hB]at dC;injection dC with dC;subst dC
   exact⟨k1 hw,hr,hw⟩
  have B4:∀{id r B},id∉ids->yC ids g g' id=some r->ι1 id=some B->B.b<w.heap.size/\g id=some r/\ι id=some B:=fun {id r B} hi hr hB=>by
   rw[ph hi]at hr
   obtain⟨B',dC,_⟩:=S.row id r hr
   have:=T.names _ _ dC
   rw[hB]at this;injection this with this;subst this
   exact⟨lt id r _ hr dC,hr,dC⟩
  by_cases i1:Rj∈ids
  ·obtain⟨a1,a2,a3⟩:=new i1 h1 Ae
   by_cases i2:id2∈ids
   ·obtain⟨b1,b2,b3⟩:=new i2 h2 pD
    exact S1.inj Rj id2 r1 r2 B1 B2 a2 b2 hw Ae pD MD
   ·obtain⟨b1,_⟩:=B4 i2 h2 pD
    omega
  ·obtain⟨a1,a2,a3⟩:=B4 i1 h1 Ae
   by_cases i2:id2∈ids
   ·obtain⟨b1,_⟩:=new i2 h2 pD
    omega
   ·obtain⟨b1,b2,b3⟩:=B4 i2 h2 pD
    exact S.inj Rj id2 r1 r2 B1 B2 a2 b2 hw a3 b3 MD
theorem An (hm:P.follows .mixedOrders=true) {f:Nat} {args eC:List AV} {σ:au} {K:AV->au->Prop} (hv:cK (dM σ.get) 6 args=some eC)
  (h:Call P f eC ⟨fun _=>none,σ.next⟩ fun r σ'=>∃ids,r.yV=true/\Handed ids σ'.get/\K r ⟨yC ids σ.get σ'.get,σ'.next⟩):Call P f args σ K:=
 fE (Hk hv (gW hm h))
end
end Go.Proofs.YtgoelphibofcmaaGreat.V

namespace Go.Proofs.YtgoelphibofcmaaGreat.V
open Go.RowKit
inductive nP:List AV->List AV->Prop
 |nil:nP [] []
 |same (a) {l l'}:nP l l'->nP (a::l) (a::l')
 |ptr (cs rest) {l l'}:nP l l'->nP (.dj (cs++rest)::l) (.dj cs::l')
 |cr {l l'}:nP l l'->nP (.cr::l) (.sl []::l')
theorem L2 {P:Program} {w:World} {D:Nat->Prop} {ι:Names} {cs rest:List AV} {v:Value} (h:dd P w D ι (.dj (cs++rest)) v):dd P w D ι (.dj cs) v:=by
 obtain⟨b,o,vs,rfl,h1,h2,h3,h4⟩:=kT h
 exact .eO _ _ (.dj cs b o vs h1 (fun a ha=>h2 a (List.mem_append_left _ ha)) (fun j hj=>h3 j (by rw[List.length_append];omega)) fun j a ha=>h4 j a (by
  have:=(List.getElem?_eq_some_iff.1 ha).1
  rw[List.getElem?_append_left this];exact ha))
theorem L4 {P:Program} {w:World} {D:Nat->Prop} {ι:Names} {v:Value} (h:dd P w D ι .cr v):dd P w D ι (.sl []) v:=by
 cases h with
 |eO _ _ h=>
  cases h with
  |cr=>exact .eO _ _ (.Am none 0 (Nat.zero_le _))
theorem nP.len {l l':List AV} (h:nP l l'):l'.length=l.length:=by induction h<;>simp_all
theorem nP.get {P:Program} {w:World} {D:Nat->Prop} {ι:Names} {l l':List AV} (h:nP l l'):∀{j:Nat} {a':AV},l'[j]? =some a'->∃a,l[j]? =some a/\∀v,dd P w D ι a v->dd P w D ι a' v:=by
 induction h with
 |nil=>intro j a' hj;simp at hj
 |same a _ ih=>
  intro j a' hj
  cases j with
  |zero=>simp at hj;subst hj;exact⟨a,rfl,fun _ h=>h⟩
  |succ j=>exact ih (by simpa using hj)
 |ptr cs rest _ ih=>
  intro j a' hj
  cases j with
  |zero=>simp at hj;subst hj;exact⟨_,rfl,fun _ h=>L2 h⟩
  |succ j=>exact ih (by simpa using hj)
 |cr _ ih=>
  intro j a' hj
  cases j with
  |zero=>simp at hj;subst hj;exact⟨_,rfl,fun _ h=>L4 h⟩
  |succ j=>exact ih (by simpa using hj)
theorem Call.cut {P:Program} (hm:P.follows .mixedOrders=true) {f:Nat} {args eC:List AV} {σ:au} {K:AV->au->Prop} (hc:nP args eC) (h:Call P f eC σ K):Call P f args σ K:=
 fE fun hs D ι w vs S U A=>gW hm h hs D ι w vs S U ⟨by rw[A.1,hc.len],fun j a' hj=>by
  obtain⟨a,ha,hr⟩:=hc.get (P:=P) (w:=w) (D:=D) (ι:=ι) hj
  obtain⟨u,hu,hv⟩:=A.2 j a ha
  exact⟨u,hu,hr u hv⟩⟩
theorem ar.cut {P:Program} (hm:P.follows .mixedOrders=true) {f:Nat} {args eC:List AV} {r:AV} (hc:nP args eC) (h:ar P f eC r):ar P f args r:=fun n=>(h n).cut hm hc
theorem j9.cut {P:Program} (hm:P.follows .mixedOrders=true) {f:Nat} {args eC:List AV} {r:AV} (hc:nP args eC) (h:j9 P f eC r):j9 P f args r:=fun σ=>Call.cut hm hc (h σ)
end Go.Proofs.YtgoelphibofcmaaGreat.V

namespace Go.Proofs.YtgoelphibofcmaaGreat.V
open Go.RowKit
attribute [local irreducible] eb wpOps gj Call
attribute [local go_sem] aJ fM eP fZ fY cL upd cu K.av cN AV.cells AV.cell rowOf rowsOf part ld rowAt bI bW dD ee gT bL dc ev fU eY dr ej da cZ dO dR bR aX cR bQ cV cU eh ek ei cQ bV db ef bP aP cX cE gS bw cJ bU aW dx bj dE AV.undef bD bF dV ec dI dS cF eu eB cD ep eo cW cY List.getD_cons_zero List.getD_cons_succ List.getD_nil List.all_cons List.all_nil Bool.and_true Bool.true_and Bool.and_self Bool.not_true Bool.not_false Option.map_some Option.map_none Option.bind_some Option.bind_none List.length_cons List.length_nil List.take_succ_cons List.take_zero List.take_nil List.drop_succ_cons List.drop_zero List.drop_nil List.head?_cons List.map_cons List.map_nil List.getElem?_cons_zero List.getElem?_cons_succ List.cons_append List.nil_append List.append_nil List.length_map List.set_cons_zero List.set_cons_succ eq_self Int.toNat_natCast Int.natCast_nonneg and_self true_and and_true decide_true decide_false Bool.false_eq_true Nat.zero_add Nat.add_zero List.contains_cons List.contains_nil Bool.or_false Bool.false_or beq_self_eq_true ne_eq not_true_eq_false not_false_eq_true Id.mk.injEq false_and and_false Nat.le_refl List.length_append beq_true beq_false Bool.not_eq_eq_eq_not or_false false_or dM aj aq aH bd bz ck aU bf aT aZ cP bH
section
variable {P:Program} {α:Type} {e:α->List AV} {z:Nat} {g g':Rows} {v:AV} {L:List α} {ids:List Id}
def yJ (e:α->List AV) (z:Nat) (g:Rows) (v:AV) (L:List α) (ids:List Id):Prop:=(L=[]/\v=.cr/\ids=[])∨∃o,v=.own o 0 L.length/\g o=some ⟨true,z,L.map e⟩/\ids=[o]/\0<L.length
def SM (e:α->List AV) (L:List α):AV:=if L.length=0 then .cr else .sl (L.map e)
theorem yJ.frame (h:yJ e z g v L ids) (hf:∀i∈ids,g' i=g i):yJ e z g' v L ids:=by
 rcases h with h|⟨o,h1,h2,rfl,hp⟩
 ·exact .inl h
 ·exact .inr ⟨o,h1,(hf o (by simp)).trans h2,rfl,hp⟩
def lQ (e:α->List AV) (L:List α) (w:AV):Prop:=(w=.cr/\L=[])∨w=.sl (L.map e)
theorem yJ.fz (h:yJ e z g v L ids) (he:∀x g,cK g 5 (e x)=some (e x)):∃w,V.fz (dM g) 6 v=some w/\lQ e L w:=by
 rcases h with⟨rfl,rfl,_⟩|⟨o,rfl,h2,_⟩
 ·exact⟨.cr,aU _ _,.inl ⟨rfl,rfl⟩⟩
 ·exact⟨_,gY (e:=e) (sz:=z) (by simp[dM,h2]) rfl fun x=>he x _,.inr rfl⟩
def uD (P:Program) (f:Nat) (args:List AV) (e:α->List AV) (z:Nat) (L:List α) (c:Int):Prop:=
 ∀n:Nat,Call P f args ⟨fun _=>none,n⟩ (fun r σ'=>∃v ids,r=.iF [v,.int .i64 c]/\yJ e z σ'.get v L ids/\gp n σ'.next ids)
theorem xq (hm:P.follows .mixedOrders=true) {f:Nat} {args:List AV} {σ:au} {K:AV->au->Prop} (h:Call P f args σ K):Call P f args σ (fun r σ'=>K r σ'/\σ.next<=σ'.next):=
 fE fun hs D ι w vs S U A=>(gW hm h hs D ι w vs S U A).mono (by
  rintro e w' ⟨r,g',n',D2,ι1,u,rfl,hK,T,S1,U1,hn,hR⟩
  exact⟨r,g',n',D2,ι1,u,rfl,⟨hK,hn⟩,T,S1,U1,hn,hR⟩)
theorem HA (hm:P.follows .mixedOrders=true) {f:Nat} {args eC:List AV} {σ:au} {c:Int} (mK:∀x,(e x).all AV.clean=true) (h:uD P f eC e z L c) (hv:cK (dM σ.get) 6 args=some eC):
  Call P f args σ (fun r σ'=>∃v ids,r=.iF [v,.int .i64 c]/\yJ e z σ'.get v L ids/\gp σ.next σ'.next ids/\Kept σ σ'):=by
 refine An hm hv (aL _ _ _ _ _ (fun r σ' hq=>?_) (xq hm (h σ.next)))
 obtain⟨⟨v,ids,rfl,ho,hi⟩,hn⟩:=hq
 refine⟨ids,?_,?_,v,ids,rfl,?_,hi,hn,fun j hj=>ph fun hc=>?_⟩
 ·rcases ho with⟨_,rfl,_⟩|⟨o,rfl,_⟩<;>rfl
 ·rcases ho with⟨_,_,rfl⟩|⟨o,_,h2,rfl,_⟩
  ·intro i hi;cases hi
  ·intro i hi
   rw[List.mem_singleton.1 hi]
   refine⟨_,h2,rfl,fun cs dt a ha=>?_⟩
   obtain⟨x,_,rfl⟩:=List.mem_map.1 dt
   have:=mK x
   rw[List.all_eq_true]at this
   exact this a ha
 ·exact ho.frame fun i hi=>r5 hi
 ·have:=(hi.2 j hc).1;omega
theorem uD.s {f:Nat} {args:List AV} {c:Int} (he:∀x g,dZ g 4 (e x)=some (e x)) (h:uD P f args e z L c):ar P f args (.iF [SM e L,.int .i64 c]):=fun n=>
 aL _ _ _ _ _ (fun r σ' hq=>by
  obtain⟨v,ids,rfl,ho,hi⟩:=hq
  rcases ho with⟨rfl,rfl,_⟩|⟨o,rfl,h2,_,hp⟩
  ·exact⟨_,by simp only[e8,bE,cw,kE,eH,Option.map_some];rfl,rfl⟩
  ·have:=fB (e:=e) (n:=4) h2 rfl fun x=>he x _
   exact⟨_,by simp only[e8,bE,cw,this,eH,Option.map_some];rfl,by rw[SM,if_neg (by omega)]⟩) (h n)
theorem B3:lQ e L (SM e L):=by
 unfold SM
 split
 ·rename_i h;exact .inl ⟨rfl,List.eq_nil_of_length_eq_zero h⟩
 ·exact .inr rfl
end
theorem lQ.two {α:Type} {e:α->List AV} {L:List α} {w:AV} (h:lQ e L w):nP [w] [.sl (L.map e)]:=by
 rcases h with⟨rfl,rfl⟩|rfl
 ·exact .cr .nil
 ·exact .same _ .nil
theorem lQ.cut {α:Type} {e:α->List AV} {L:List α} {w:AV} (h:lQ e L w) {l l':List AV} (hl:nP l l'):nP (w::l) (.sl (L.map e)::l'):=by
 rcases h with⟨rfl,rfl⟩|rfl
 ·exact .cr hl
 ·exact .same _ hl
end Go.Proofs.YtgoelphibofcmaaGreat.V

namespace Go.Proofs.YtgoelphibofcmaaGreat.V
open Go.RowKit
attribute [local irreducible] eb wpOps gj Call
attribute [local go_sem] aJ fM eP fZ fY cL upd cu K.av cN AV.cells AV.cell rowOf rowsOf part ld rowAt bI bW dD ee gT bL dc ev fU eY dr ej da cZ dO dR bR aX cR bQ cV cU eh ek ei cQ bV db ef bP aP cX cE gS bw cJ bU aW dx bj dE AV.undef bD bF dV ec dI dS cF eu eB cD ep eo cW cY List.getD_cons_zero List.getD_cons_succ List.getD_nil List.all_cons List.all_nil Bool.and_true Bool.true_and Bool.and_self Bool.not_true Bool.not_false Option.map_some Option.map_none Option.bind_some Option.bind_none List.length_cons List.length_nil List.take_succ_cons List.take_zero List.take_nil List.drop_succ_cons List.drop_zero List.drop_nil List.head?_cons List.map_cons List.map_nil List.getElem?_cons_zero List.getElem?_cons_succ List.cons_append List.nil_append List.append_nil List.length_map List.set_cons_zero List.set_cons_succ Nat.reduceMul eq_self Int.toNat_natCast Int.natCast_nonneg and_self true_and and_true decide_true decide_false Bool.false_eq_true Nat.zero_add Nat.add_zero List.contains_cons List.contains_nil Bool.or_false Bool.false_or beq_self_eq_true Nat.reduceBEq ne_eq not_true_eq_false not_false_eq_true Id.mk.injEq false_and and_false Nat.reduceLT Int.reduceLE Int.reduceLT Int.reduceToNat Int.reduceNeg Int.reduceAdd Nat.le_refl List.length_append beq_true beq_false Bool.not_eq_eq_eq_not or_false false_or dM aj aq aH bd bz ck aU bf aT aZ cP bH
theorem GG (i:Id) (l:List ae) (k:Int) (h0:0<=k) (h1:k+3*l.length<=4611686018427387904) (σ:au) (hv:i.bm<σ.next) (hg:σ.get i=some ⟨true,3,l.map ad⟩):
  Call Tryz.prog 44 [.own i 0 l.length,.int .i64 k] σ (fun r σ'=>r=.int .i64 (k+3*l.length)/\pM σ [i] σ'.get σ'.next/\σ'.get i=some ⟨true,3,(BS k l.length).map ad⟩):=by
 refine eU eJ rfl fun hl=>?_
 clear hl
 have hz:ju k l 0=l:=by simp[ju,BS]
 (try((repeat(revert hN;revert N;apply Pn.out));refine wk @Nat.zero_add ?_;(repeat(refine Pn.mk ?_;intro N hN))))
 refine aO (fun n env st=>∃j:Nat,n=(l.length)-j/\j<=(l.length)/\env 5=.int .i64 (j:Int)/\env 1=.int .i64 (k+3*j)/\st.get i=some ⟨true,3,(ju k l j).map ad⟩/\(pM σ [i] st.get st.next)) (l.length) ⟨0,by omega,by omega,sl (tw @Int.add_zero (tw @Int.natCast_zero (tw @Int.mul_zero (tw @hz @hg)))),sl (tw @Int.add_zero (tw @Int.natCast_zero (tw @Int.mul_zero (tw @hz @hg)))),sl (tw @Int.add_zero (tw @Int.natCast_zero (tw @Int.mul_zero (tw @hz @hg)))),by(try dsimp only);exact⟨by(try dsimp only);omega,fun x _ _=>rfl⟩⟩ ?_
 rintro n_a env_a st_a ⟨j,rfl,ale,a5,a1,ag0,ke⟩ dv
 have a0:=dv 0 (by kernel_rfl)
 simp only[go_sem, ↓reduceIte,Nat.reduceEqDiff,Nat.reduceAdd,Nat.reduceSub,Nat.reduceLeDiff,reduceCtorEq,Int.add_zero,Int.natCast_zero,Int.mul_zero,hz,hg]at a0
 clear dv
 obtain⟨an,aF⟩:=ke
 by_cases hj:(j:Int)<(l.length:Int)
 ·have cz:∀{e:Env} {gg:Rows} {nx:Nat},(e 5=.int .i64 (IntKind.i64.wrap ((j:Int)+1)))->(e 1=.int .i64 (k+3*(j+1)))->(gg i=some ⟨true,3,(ju k l (j+1)).map ad⟩)->(pM σ [i] gg nx)->∃m0,m0<(l.length)-j/\∃j:Nat,m0=(l.length)-j/\j<=(l.length)/\e 5=.int .i64 (j:Int)/\e 1=.int .i64 (k+3*j)/\gg i=some ⟨true,3,(ju k l j).map ad⟩/\(pM σ [i] gg nx):=fun x1 x2 x3 x4=>⟨_,by omega,j+1,rfl,by omega,(by rw[x1,az (by omega)]),x2,x3,x4⟩
  have ia:j<l.length:=by omega
  have eZ:=Fk (k:=k) ia
  have dQ:=BU (k:=k) ia
  have mN:IntKind.i64.wrap (k+3*(j:Int)+1)=k+3*(j:Int)+1:=bh (by omega)
  have sL:IntKind.i64.wrap (k+3*(j:Int)+1+1)=k+3*(j:Int)+2:=by rw[bh (by omega)];omega
  have IV:IntKind.i64.wrap (k+3*(j:Int)+2+1)=k+3*((j:Int)+1):=by rw[bh (by omega)];omega
  have hlen:((ju k l j).map ad).length=l.length:=by rw[List.length_map,BT (by omega)]
  have Gh:∀c:List AV,(((ju k l j).map ad).set j c)[j]? =some c:=fun c=>by rw[List.getElem?_set_self (by rw[hlen];exact ia)]
  (try((repeat(revert hN;revert N;apply Pn.out));refine wk (tw @a5 (tw @a1 (tw @ag0 (tw @a0 (tw @hj (tw @eZ (tw @Gh (tw @dQ (tw @mN (tw @sL (tw @IV (tw @hlen @rV)))))))))))) ?_;(repeat(refine Pn.mk ?_;intro N hN))))
  refine cz ?_ ?_ ?_ (by(try dsimp only);exact⟨by(try dsimp only);omega,fun x hx hi=>by
   have h2:=aF x hx hi
   have h3:(x=i)=False:=eq_false fun e=>hi (by simp[e])
   simp only[go_sem, ↓reduceIte,Nat.reduceEqDiff,Nat.reduceAdd,Nat.reduceSub,Nat.reduceLeDiff,reduceCtorEq,h2,h3]⟩)
  all_goals simp only[go_sem, ↓reduceIte,Nat.reduceEqDiff,Nat.reduceAdd,Nat.reduceSub,Nat.reduceLeDiff,reduceCtorEq,a5,a1,ag0,a0,IV,dQ]
 ·have ia:j=l.length:=by omega
  subst ia
  (try((repeat(revert hN;revert N;apply Pn.out));refine wk (tw @a5 (tw @a1 (tw @ag0 (tw @a0 @hj)))) ?_;(repeat(refine Pn.mk ?_;intro N hN))))
  have ki:ju k l l.length=BS k l.length:=by simp[ju]
  rw[ki]at ag0
  exact ft (.inl rfl) (vs:=[.int .i64 (k+3*l.length)]) (sd (tw @a5 (tw @a1 (tw @ag0 @a0)))) ⟨rfl,⟨by(try dsimp only);omega,fun x hx hi=>aF x hx hi⟩,ag0⟩
theorem OJ (k:Int) {n j:Nat} (h:j<n):((BS k n).map ad)[j]? =some [.int .i64 (k+3*(j:Int)),.int .i64 (k+3*(j:Int)+1),.int .i64 (k+3*(j:Int)+2)]:=by
 simp[BS,h,ad]
theorem Gd (k:Int) (n:Nat) (h0:0<=k) (h1:k+3*n<=4611686018427387904):ar Tryz.prog 45 [.sl ((BS k n).map ad),.int .i64 k] (.int .i64 (k+3*n)):=by
 refine ar.body eJ rfl fun hl n0=>?_
 clear hl
 obtain⟨m,hm⟩:∃m,n=m:=⟨_,rfl⟩
 rw[hm]at h1 ⊢
 (try((repeat(revert hN;revert N;apply Pn.out));refine wk @ik ?_;(repeat(refine Pn.mk ?_;intro N hN))))
 refine aO (fun n env st=>∃j:Nat,n=(m)-j/\j<=(m)/\env 5=.int .i64 (j:Int)/\env 1=.int .i64 (k+3*j)) (m) ⟨0,by omega,by omega,sl (tw @Int.add_zero (tw @Int.natCast_zero (tw @Int.mul_zero @ik))),sl (tw @Int.add_zero (tw @Int.natCast_zero (tw @Int.mul_zero @ik)))⟩ ?_
 rintro n_a env_a st_a ⟨j,rfl,ale,a5,a1⟩ dv
 have a0:=dv 0 (by kernel_rfl)
 simp only[go_sem, ↓reduceIte,Nat.reduceEqDiff,Nat.reduceAdd,Nat.reduceSub,Nat.reduceLeDiff,reduceCtorEq,Int.add_zero,Int.natCast_zero,Int.mul_zero,ik]at a0
 clear dv
 by_cases hj:(j:Int)<(m:Int)
 ·have cz:∀{e:Env},(e 5=.int .i64 (IntKind.i64.wrap ((j:Int)+1)))->(e 1=.int .i64 (k+3*(j+1)))->∃m0,m0<(m)-j/\∃j:Nat,m0=(m)-j/\j<=(m)/\e 5=.int .i64 (j:Int)/\e 1=.int .i64 (k+3*j):=fun x1 x2=>⟨_,by omega,j+1,rfl,by omega,(by rw[x1,az (by omega)]),x2⟩
  have eZ:=OJ k (n:=m) (j:=j) (by omega)
  have mN:IntKind.i64.wrap (k+3*(j:Int)+1)=k+3*(j:Int)+1:=bh (by omega)
  have sL:IntKind.i64.wrap (k+3*(j:Int)+1+1)=k+3*(j:Int)+2:=by rw[bh (by omega)];omega
  have IV:IntKind.i64.wrap (k+3*(j:Int)+2+1)=k+3*((j:Int)+1):=by rw[bh (by omega)];omega
  have e1:decide (k+3*(j:Int)=k+3*(j:Int))=true:=decide_eq_true rfl
  have e2:decide (k+3*(j:Int)+1=k+3*(j:Int)+1)=true:=decide_eq_true rfl
  have e3:decide (k+3*(j:Int)+2=k+3*(j:Int)+2)=true:=decide_eq_true rfl
  (try((repeat(revert hN;revert N;apply Pn.out));refine wk (tw @a5 (tw @a1 (tw @a0 (tw @hj (tw @eZ (tw @mN (tw @sL (tw @IV (tw @ik (tw @e1 (tw @e2 @e3))))))))))) ?_;(repeat(refine Pn.mk ?_;intro N hN))))
  refine cz ?_ ?_
  all_goals simp only[go_sem, ↓reduceIte,Nat.reduceEqDiff,Nat.reduceAdd,Nat.reduceSub,Nat.reduceLeDiff,reduceCtorEq,a5,a1,a0,IV]
 ·have ia:j=m:=by omega
  subst ia
  (try((repeat(revert hN;revert N;apply Pn.out));refine wk (tw @a5 (tw @a1 (tw @a0 (tw @hj @ik)))) ?_;(repeat(refine Pn.mk ?_;intro N hN))))
  exact cC (b:=k+3*(j:Int)) (.inl rfl) (sd (tw @a5 (tw @a1 @a0))) rfl
theorem KP (a b:ae):ar Tryz.prog 26 [.agg (ad a),.agg (ad b)] (.bool (decide (a=b))):=by
 refine ar.body eJ rfl fun hl n0=>?_
 clear hl
 have h:=xI a.bx b.bx
 rw[ab,ab]at h
 by_cases h1:a.bx=b.bx
 ·rw[decide_eq_true h1]at h
  by_cases h2:a.bB=b.bB
  ·have e2:decide (a.bB=b.bB)=true:=decide_eq_true h2
   (repeat(first|((repeat(revert hN;revert N;apply Pn.out));refine wk (tw @ad.eq_1 @e2) ?_;(repeat(refine Pn.mk ?_;intro N hN)))|((try apply Or.inl);refine⟨_,ar.x (h) (sd (tw @ad.eq_1 @e2)),?_⟩;refine hN _ _ ?_;clear hN N)))
   exact aQ (b:=true) (.inl rfl) (sd @Nat.zero_add) (decide_eq_true (by cases a;cases b;simp_all)).symm
  ·have e2:decide (a.bB=b.bB)=false:=decide_eq_false h2
   (repeat(first|((repeat(revert hN;revert N;apply Pn.out));refine wk (tw @ad.eq_1 @e2) ?_;(repeat(refine Pn.mk ?_;intro N hN)))|((try apply Or.inl);refine⟨_,ar.x (h) (sd (tw @ad.eq_1 @e2)),?_⟩;refine hN _ _ ?_;clear hN N)))
   exact aQ (b:=false) (.inl rfl) (sd @Nat.zero_add) (decide_eq_false (by rintro rfl;exact h2 rfl)).symm
 ·rw[decide_eq_false h1]at h
  (repeat(first|((repeat(revert hN;revert N;apply Pn.out));refine wk @ad.eq_1 ?_;(repeat(refine Pn.mk ?_;intro N hN)))|((try apply Or.inl);refine⟨_,ar.x (h) (sd @ad.eq_1),?_⟩;refine hN _ _ ?_;clear hN N)))
  exact aQ (b:=false) (.inl rfl) (sd @Nat.zero_add) (decide_eq_false (by rintro rfl;exact h1 rfl)).symm
theorem Ih (xs ys:List ae):ar Tryz.prog 43 [.sl (xs.map ad),.sl (ys.map ad)] (.bool (decide (xs=ys))):=
 yY (show mi Tryz.prog 43=some (AR 43 26 3) by kernel_rfl) (fun _=>rfl) ve xs ys KP
theorem sD {L:List ae} {v w:AV} (hv:lQ ad L v) (hw:lQ ad L w):ar Tryz.prog 43 [v,w] (.bool true):=by
 have h:=Ih L L
 rw[decide_eq_true rfl]at h
 exact h.cut mixed (hv.cut (hw.cut .nil))
theorem DR (k:Int) (σ:au):Call Tryz.prog 44 [.cr,.int .i64 k] σ (fun r σ'=>r=.int .i64 k/\pM σ [] σ'.get σ'.next):=by
 refine eU eJ rfl fun hl=>?_
 clear hl
 (try((repeat(revert hN;revert N;apply Pn.out));refine wk @Nat.zero_add ?_;(repeat(refine Pn.mk ?_;intro N hN))))
 refine aO (fun n env st=>(env 1=.int .i64 k/\env 5=.int .i64 0/\env 0=.cr)/\σ.next<=st.next/\∀x:Id,st.get x=σ.get x) 0 ⟨⟨sd @Nat.zero_add,sd @Nat.zero_add,sd @Nat.zero_add⟩,by(try dsimp only);omega,fun _=>rfl⟩ ?_
 rintro m e st ⟨⟨a1,a5,a0⟩,an,aF⟩ -
 have d0:decide ((0:Int)<((0:Nat):Int))=false:=rfl
 (try((repeat(revert hN;revert N;apply Pn.out));refine wk (tw @a0 (tw @a1 (tw @a5 @d0))) ?_;(repeat(refine Pn.mk ?_;intro N hN))))
 exact ft (.inl rfl) (vs:=[.int .i64 k]) (sd @a1) ⟨rfl,⟨by(try dsimp only);omega,fun x hx hi=>aF x⟩⟩
theorem DS {v:AV} {L:List ae} {ids:List Id} (k:Int) (h0:0<=k) (h1:k+3*L.length<=4611686018427387904) (σ:au) (hv:∀i∈ids,i.bm<σ.next) (h:yJ ad 3 σ.get v L ids):
  Call Tryz.prog 44 [v,.int .i64 k] σ (fun r σ'=>r=.int .i64 (k+3*L.length)/\pM σ ids σ'.get σ'.next/\yJ ad 3 σ'.get v (BS k L.length) ids):=by
 rcases h with⟨rfl,rfl,rfl⟩|⟨o,rfl,h2,rfl,hp⟩
 ·refine aL _ _ _ _ _ (fun r σ' hq=>?_) (DR k σ)
  obtain⟨rfl,hB⟩:=hq
  exact⟨by simp,hB,.inl ⟨rfl,rfl,rfl⟩⟩
 ·refine aL _ _ _ _ _ (fun r σ' hq=>?_) (GG o L k h0 h1 σ (hv o (by simp)) h2)
  obtain⟨rfl,hB,hg⟩:=hq
  exact⟨rfl,hB,.inr ⟨o,by rw[ik],hg,rfl,by rw[ik];exact hp⟩⟩
theorem vk {w:AV} (k:Int) (n:Nat) (h0:0<=k) (h1:k+3*n<=4611686018427387904) (hw:lQ ad (BS k n) w):ar Tryz.prog 45 [w,.int .i64 k] (.int .i64 (k+3*n)):=
 (Gd k n h0 h1).cut mixed (hw.cut (.same _ .nil))
end Go.Proofs.YtgoelphibofcmaaGreat.V

namespace Go.Proofs.YtgoelphibofcmaaGreat.V
open Go.RowKit
variable {P:Program}
theorem OE (hm:P.follows .mixedOrders=true) {f:Nat} {args:List AV} {vs:Array Value} {w:World} (h:ar P f args (.bool true)) (hA:fe P w (fun b=>b<w.heap.size) (fun _=>none) args vs):
  Calls P f vs w fun e w'=>e=.returned (.bool true)/\Below w.heap.size w w':=by
 have hs:=gW hm (h 0) w.heap.size (fun b=>b<w.heap.size) (fun _=>none) w vs ⟨Nat.le_refl _,fun _ h=>h,fun id r h=>(by cases h),fun id kI r r' B B' h=>(by cases h)⟩ (fun id h=>absurd rfl h) hA
 refine hs.mono ?_
 rintro e w' ⟨r,g',n',D',ι',u,rfl,⟨r',hz,rfl⟩,dH,hsim,_,_,gO⟩
 have hr:r=.bool true:=by
  cases r<;>rw[gi]at hz<;>simp_all
  all_goals (repeat' (split at hz))<;>simp_all
 subst hr
 exact⟨by rw[e6 gO],dH.below⟩
theorem l8 {xs:List AV} {w:World} {D:Nat->Prop} {ι:Names} {a:AV} {v:Value} {vs:Array Value} (h:jw P w D a v) (k:fe P w D ι xs vs):fe P w D ι (a::xs) (#[v]++vs):=
 oM (xs:=[a]) ⟨rfl,fun j b hj=>by
  cases j with
  |zero=>simp at hj;subst hj;exact⟨v,rfl,.eO _ _ h⟩
  |succ j=>simp at hj⟩ k
end Go.Proofs.YtgoelphibofcmaaGreat.V

namespace Go.Proofs.YtgoelphibofcmaaGreat.V
open Go.RowKit
attribute [local irreducible] eb wpOps gj Call
attribute [local go_sem] aJ fM eP fZ fY cL upd cu K.av cN AV.cells AV.cell rowOf rowsOf part ld rowAt bI bW dD ee gT bL dc ev fU eY dr ej da cZ dO dR bR aX cR bQ cV cU eh ek ei cQ bV db ef bP aP cX cE gS bw cJ bU aW dx bj dE AV.undef bD bF dV ec dI dS cF eu eB cD ep eo cW cY List.getD_cons_zero List.getD_cons_succ List.getD_nil List.all_cons List.all_nil Bool.and_true Bool.true_and Bool.and_self Bool.not_true Bool.not_false Option.map_some Option.map_none Option.bind_some Option.bind_none List.length_cons List.length_nil List.take_succ_cons List.take_zero List.take_nil List.drop_succ_cons List.drop_zero List.drop_nil List.head?_cons List.map_cons List.map_nil List.getElem?_cons_zero List.getElem?_cons_succ List.cons_append List.nil_append List.append_nil List.length_map List.set_cons_zero List.set_cons_succ Nat.reduceMul eq_self Int.toNat_natCast Int.natCast_nonneg and_self true_and and_true decide_true decide_false Bool.false_eq_true Nat.zero_add Nat.add_zero List.contains_cons List.contains_nil Bool.or_false Bool.false_or beq_self_eq_true Nat.reduceBEq ne_eq not_true_eq_false not_false_eq_true Id.mk.injEq false_and and_false Nat.reduceLT Int.reduceLE Int.reduceLT Int.reduceToNat Int.reduceNeg Int.reduceAdd Nat.le_refl List.length_append beq_true beq_false Bool.not_eq_eq_eq_not or_false false_or dM aj aq aH bd bz ck aU bf aT aZ cP bH
theorem OV {α:Type} (f:α->Nat) {xs:List α} {x:α} (h:x∈xs):f x<=(xs.map f).sum:=by
 induction xs with
 |nil=>cases h
 |cons y ys ih=>
  simp only[List.map_cons,List.sum_cons]
  rcases List.mem_cons.1 h with rfl|h
  ·omega
  ·have:=ih h;omega
theorem G6 {s:aD} (h:wO s<=1048576):qS s:=by
 unfold wO ub at h
 refine⟨⟨by omega,by omega,fun t ht=>?_⟩,by omega⟩
 have:=OV kd ht
 have h2:t.br.length<=kd t:=by unfold kd;omega
 unfold so
 omega
theorem yX (a:dK):ar Tryz.prog 21 [.agg (aM a),.agg (aM a)] (.bool true):=by
 refine ar.body eJ rfl fun hl n0=>?_
 clear hl
 have h1:=te a.ah a.ah
 rw[decide_eq_true rfl]at h1
 (repeat(first|((repeat(revert hN;revert N;apply Pn.out));refine wk @aM.eq_1 ?_;(repeat(refine Pn.mk ?_;intro N hN)))|((try apply Or.inl);refine⟨_,ar.x (h1) (sd @aM.eq_1),?_⟩;refine hN _ _ ?_;clear hN N)))
 exact aQ (b:=true) (.inl rfl) (sd @Nat.zero_add) rfl
end Go.Proofs.YtgoelphibofcmaaGreat.V

namespace Go.Proofs.YtgoelphibofcmaaGreat.V
open Go.RowKit
attribute [local irreducible] eb wpOps gj Call
attribute [local go_sem] aJ fM eP fZ fY cL upd cu K.av cN AV.cells AV.cell rowOf rowsOf part ld rowAt bI bW dD ee gT bL dc ev fU eY dr ej da cZ dO dR bR aX cR bQ cV cU eh ek ei cQ bV db ef bP aP cX cE gS bw cJ bU aW dx bj dE AV.undef bD bF dV ec dI dS cF eu eB cD ep eo cW cY List.getD_cons_zero List.getD_cons_succ List.getD_nil List.all_cons List.all_nil Bool.and_true Bool.true_and Bool.and_self Bool.not_true Bool.not_false Option.map_some Option.map_none Option.bind_some Option.bind_none List.length_cons List.length_nil List.take_succ_cons List.take_zero List.take_nil List.drop_succ_cons List.drop_zero List.drop_nil List.head?_cons List.map_cons List.map_nil List.getElem?_cons_zero List.getElem?_cons_succ List.cons_append List.nil_append List.append_nil List.length_map List.set_cons_zero List.set_cons_succ eq_self Int.toNat_natCast Int.natCast_nonneg and_self true_and and_true decide_true decide_false Bool.false_eq_true Nat.zero_add Nat.add_zero List.contains_cons List.contains_nil Bool.or_false Bool.false_or beq_self_eq_true ne_eq not_true_eq_false not_false_eq_true Id.mk.injEq false_and and_false Nat.le_refl List.length_append beq_true beq_false Bool.not_eq_eq_eq_not or_false false_or dM aj aq aH bd bz ck aU bf aT aZ cP bH
theorem GU (x:ae) (g:Rows):dZ g 4 (ad x)=some (ad x):=by simp[ad,bE,cw,eH]
theorem G7 {g:Rows} {v w:AV} {s:aD} {a:dK} {i j:List Id} (hX:yL g v s i) (hY:wV g w a j):cK (dM g) 6 [v,w]=some [.agg (aC s),.agg (aM a)]:=by
 simp only[aj,aq,hX.fz 1,hY.fz 2,Option.map_some]
theorem Mb {g:Rows} {v w:AV} {s:aD} {i:List Id} (hX:yL g v s i) (hw:fz (dM g) 6 w=some w):cK (dM g) 6 [v,w]=some [.agg (aC s),w]:=by
 simp only[aj,aq,hX.fz 1,hw,Option.map_some]
theorem KA {g:Rows} {v w:AV} {s:dK} {i:List Id} (hX:wV g v s i) (hw:fz (dM g) 6 w=some w):cK (dM g) 6 [v,w]=some [.agg (aM s),w]:=by
 simp only[aj,aq,hX.fz 2,hw,Option.map_some]
theorem EO (g:Rows) (s:aD):fz g 6 (.agg (aC s))=some (.agg (aC s)):=by simp[aC,bf,aj,aq,ck,aH]
theorem EN (g:Rows) (s:dK):fz g 6 (.agg (aM s))=some (.agg (aM s)):=by simp[aM,bf,aj,aq,ck]
theorem s4 {g:Rows} {v w v' w':AV} (h1:fz g 6 v=some v') (h2:fz g 6 w=some w'):cK g 6 [v,w]=some [v',w']:=by
 simp only[aj,aq,h1,h2,Option.map_some]
theorem LJ (s:aD):BI s<=3*wO s:=by
 have h:∀l:List eT,(l.map gw).sum<=l.length+(l.map kd).sum:=fun l=>by
  induction l with
  |nil=>simp
  |cons t l ih=>simp only[List.map_cons,List.sum_cons,List.length_cons,gw,kd]at *;omega
 have:=h s.aB.ah
 unfold BI wO ub
 omega
theorem gp.not {a b:Nat} {ids:List Id} (h:gp a b ids) {x:Id} (hx:x.bm<a∨b<=x.bm):x∉ids:=fun hc=>by
 have:=h.2 x hc;omega
theorem lQ.fz {α:Type} {e:α->List AV} {L:List α} {w:AV} (h:lQ e L w) (g:Rows):V.fz g 6 w=some w:=by
 rcases h with⟨rfl,rfl⟩|rfl
 ·exact aU _ _
 ·exact ck _ _ _
end Go.Proofs.YtgoelphibofcmaaGreat.V

namespace Go.Proofs.YtgoelphibofcmaaGreat.V
open Go.RowKit
attribute [local irreducible] eb wpOps gj Call
attribute [local go_sem] aJ fM eP fZ fY cL upd cu K.av cN AV.cells AV.cell rowOf rowsOf part ld rowAt bI bW dD ee gT bL dc ev fU eY dr ej da cZ dO dR bR aX cR bQ cV cU eh ek ei cQ bV db ef bP aP cX cE gS bw cJ bU aW dx bj dE AV.undef bD bF dV ec dI dS cF eu eB cD ep eo cW cY List.getD_cons_zero List.getD_cons_succ List.getD_nil List.all_cons List.all_nil Bool.and_true Bool.true_and Bool.and_self Bool.not_true Bool.not_false Option.map_some Option.map_none Option.bind_some Option.bind_none List.length_cons List.length_nil List.take_succ_cons List.take_zero List.take_nil List.drop_succ_cons List.drop_zero List.drop_nil List.head?_cons List.map_cons List.map_nil List.getElem?_cons_zero List.getElem?_cons_succ List.cons_append List.nil_append List.append_nil List.length_map List.set_cons_zero List.set_cons_succ Nat.reduceMul eq_self Int.toNat_natCast Int.natCast_nonneg and_self true_and and_true decide_true decide_false Bool.false_eq_true Nat.zero_add Nat.add_zero List.contains_cons List.contains_nil Bool.or_false Bool.false_or beq_self_eq_true Nat.reduceBEq ne_eq not_true_eq_false not_false_eq_true Id.mk.injEq false_and and_false Nat.reduceLT Int.reduceLE Int.reduceLT Int.reduceToNat Int.reduceNeg Int.reduceAdd Nat.le_refl List.length_append beq_true beq_false Bool.not_eq_eq_eq_not or_false false_or dM aj aq aH bd bz ck aU bf aT aZ cP bH
theorem I5 (Nk:aD->dK->List ae×Int)
  (Q6:∀s a,gD s.aB->qS s->a.ah.length<=1048576->∃w,lQ ad (Nk s a).1 w/\j9 Tryz.prog 41 [.agg (aC s),.agg (aM a)] (.iF [w,.int .i64 (Nk s a).2]))
  (QR:∀s a,gD s.aB->qS s->a.ah.length<=1048576->uD Tryz.prog 42 [.agg (aC s),.agg (aM a)] ad 3 (Nk s a).1 (Nk s a).2)
  (hlen:∀s a,qS s->a.ah.length<=1048576->(Nk s a).1.length<=1152921504606846976)
  (s:aD) (a:dK) (hn:gD s.aB):ar Tryz.prog 9 [.agg (aC s),.agg (aM a)] (.bool true):=by
 refine ar.body eJ rfl fun hl n0=>?_
 clear hl
 have h1:=Em s 1048576 (by omega) (by omega) hn
 by_cases hf:(wO s:Int)<=1048576
 ·rw[im hf]at h1
  have kg:¬(1048576:Int)-(wO s:Int)<0:=by omega
  have h2:=rZ a (1048576-wO s) (by omega) (by omega)
  by_cases hg:(a.ah.length:Int)<=1048576-wO s
  ·rw[im hg]at h2
   have E4:¬(1048576:Int)-(wO s:Int)-(a.ah.length:Int)<0:=by omega
   have sm:=G6 (s:=s) (by omega)
   have am:a.ah.length<=1048576:=by omega
   have t1:=Et s sm
   have t2:=r7 a am
   obtain⟨w,hw,r1⟩:=Q6 s a hn sm am
   have r2:=QR s a hn sm am
   have q1:=C3 s
   have q2:=yX a
   have hL:=hlen s a sm am
   obtain⟨L,hLe⟩:∃L,(Nk s a).1=L:=⟨_,rfl⟩
   obtain⟨c,hc⟩:∃c,(Nk s a).2=c:=⟨_,rfl⟩
   rw[hc]at r1
   rw[hLe,hc]at r2
   rw[hLe]at hw hL
   have IW:=fun σ=>Es s sm σ
   have Rf:=fun σ=>r6 a am σ
   rw[aC]at IW
   rw[aM]at Rf
   have e2:decide (c=c)=true:=by simp
   rw[aC]at h1
   rw[aM]at h2
   (repeat(first|((repeat(revert hN;revert N;apply Pn.out));refine wk (tw @aC.eq_1 (tw @aM.eq_1 (tw @kg @E4))) ?_;(repeat(refine Pn.mk ?_;intro N hN)))|((try apply Or.inl);refine⟨_,ar.x (h1) (sd (tw @aC.eq_1 (tw @aM.eq_1 (tw @kg @E4)))),?_⟩;refine hN _ _ ?_;clear hN N)|((try apply Or.inl);refine⟨_,ar.x (h2) (sd (tw @aC.eq_1 (tw @aM.eq_1 (tw @kg @E4)))),?_⟩;refine hN _ _ ?_;clear hN N)))
   refine⟨_,j9.x (by rw[aC]at t1;exact t1) _,?_⟩
   refine hN _ _ ?_
   clear hN N
   (try((repeat(revert hN;revert N;apply Pn.out));refine wk @aM.eq_1 ?_;(repeat(refine Pn.mk ?_;intro N hN))))
   refine⟨_,j9.x (by rw[aM]at t2;exact t2) _,?_⟩
   refine hN _ _ ?_
   clear hN N
   (try((repeat(revert hN;revert N;apply Pn.out));refine wk @Nat.zero_add ?_;(repeat(refine Pn.mk ?_;intro N hN))))
   refine⟨_,j9.x (by rw[aC,aM]at r1;exact r1) _,?_⟩
   refine hN _ _ ?_
   clear hN N
   (try((repeat(revert hN;revert N;apply Pn.out));refine wk @Nat.zero_add ?_;(repeat(refine Pn.mk ?_;intro N hN))))
   refine .inr (aL _ _ _ _ _ (fun r σ1 hq=>?_) (IW _))
   obtain⟨iX,hX,MA,Qs⟩:=hq
   obtain⟨g1,x1⟩:=σ1
   (try dsimp only at hX MA Qs)
   obtain⟨A,B,C,j1,j2,j3,rfl,hA,hB,hC,rfl⟩:=hX.ex
   obtain⟨oA,rfl⟩:=hA.kJ
   obtain⟨oB,rfl⟩:=hB.kJ
   obtain⟨oC,rfl⟩:=hC.kJ
   clear hA hB hC
   have nX:=Qs.1
   have bX:=MA.2
   (try dsimp only at nX bX)
   have kA:=Qs.2 ⟨9000000,n0⟩ (by(try dsimp only);omega)
   have kB:=Qs.2 ⟨9000001,n0⟩ (by(try dsimp only);omega)
   simp only[go_sem, ↓reduceIte,Nat.reduceEqDiff,Nat.reduceAdd,Nat.reduceSub,Nat.reduceLeDiff,reduceCtorEq]at kA kB
   refine hN _ _ ?_
   clear hN N
   (try((repeat(revert hN;revert N;apply Pn.out));refine wk (tw @kA @kB) ?_;(repeat(refine Pn.mk ?_;intro N hN))))
   refine .inr (aL _ _ _ _ _ (fun r σ2 hq=>?_) (Rf _))
   obtain⟨iY,hY0,Qp,NX⟩:=hq
   obtain⟨g2,x2⟩:=σ2
   (try dsimp only at hY0 Qp NX)
   obtain⟨D,rfl,hD⟩:=hY0
   obtain⟨oD,rfl⟩:=hD.kJ
   have hY:wV g2 (.agg [.own oD 0 a.ah.length]) a iY:=⟨_,rfl,hD⟩
   have nY:=NX.1
   have bY:=Qp.2
   (try dsimp only at nY bY)
   have lA:=NX.2 ⟨9000000,n0⟩ (by(try dsimp only);omega)
   have lB:=NX.2 ⟨9000001,n0⟩ (by(try dsimp only);omega)
   have lX:=NX.2 ⟨9009002,x1⟩ (by(try dsimp only);omega)
   have vA:=dz (i:=⟨9000000,n0⟩) (n:=x1) (by(try dsimp only);omega)
   have vB:=dz (i:=⟨9000001,n0⟩) (n:=x1) (by(try dsimp only);omega)
   simp only[go_sem, ↓reduceIte,Nat.reduceEqDiff,Nat.reduceAdd,Nat.reduceSub,Nat.reduceLeDiff,reduceCtorEq,kA,kB,vA,vB]at lA lB lX
   have TI:=hX.frame (g':=g2) fun i hi=>by
    have h3:=bX i hi
    have h4:=NX.2 i (by(try dsimp only);omega)
    have h5:=dz (i:=i) (n:=x1) (by omega)
    simp only[go_sem, ↓reduceIte,Nat.reduceEqDiff,Nat.reduceAdd,Nat.reduceSub,Nat.reduceLeDiff,reduceCtorEq,h5]at h4
    exact h4
   clear hX Qs NX hD kA kB
   refine hN _ _ ?_
   clear hN N
   have uX:=dz (i:=⟨9009002,x1⟩) (n:=x2) (by(try dsimp only);omega)
   (try((repeat(revert hN;revert N;apply Pn.out));refine wk (tw @lA (tw @lB (tw @lX @uX))) ?_;(repeat(refine Pn.mk ?_;intro N hN))))
   refine .inr (aL _ _ _ _ _ (fun r σ3 hq=>?_) (HA mixed (fun _=>rfl) r2 (G7 (TI.frame fun i hi=>by
    have h5:=dz (i:=i) (n:=x2) (by have:=bX i hi;omega)
    simp only[go_sem, ↓reduceIte,Nat.reduceEqDiff,Nat.reduceAdd,Nat.reduceSub,Nat.reduceLeDiff,reduceCtorEq,h5]) (hY.frame fun i hi=>by
    have h5:=dz (i:=i) (n:=x2) (by have:=bY i hi;omega)
    simp only[go_sem, ↓reduceIte,Nat.reduceEqDiff,Nat.reduceAdd,Nat.reduceSub,Nat.reduceLeDiff,reduceCtorEq,h5]))))
   obtain⟨v,iZ,rfl,hZ,R8,MB⟩:=hq
   obtain⟨g3,x3⟩:=σ3
   (try dsimp only at hZ R8 MB)
   have nZ:=MB.1
   have bZ:=R8.2
   (try dsimp only at nZ bZ)
   have wA:=dz (i:=⟨9000000,n0⟩) (n:=x2) (by(try dsimp only);omega)
   have wB:=dz (i:=⟨9000001,n0⟩) (n:=x2) (by(try dsimp only);omega)
   have mA:=MB.2 ⟨9000000,n0⟩ (by(try dsimp only);omega)
   have mB:=MB.2 ⟨9000001,n0⟩ (by(try dsimp only);omega)
   have mX:=MB.2 ⟨9009002,x1⟩ (by(try dsimp only);omega)
   have mY:=MB.2 ⟨9010002,x2⟩ (by(try dsimp only);omega)
   simp only[go_sem, ↓reduceIte,Nat.reduceEqDiff,Nat.reduceAdd,Nat.reduceSub,Nat.reduceLeDiff,reduceCtorEq,lA,lB,lX,wA,wB,uX]at mA mB mX mY
   have fr3:∀i:Id,i.bm<x2->g3 i=g2 i:=fun i hi=>by
    have h4:=MB.2 i (by(try dsimp only);omega)
    have h5:=dz (i:=i) (n:=x2) hi
    simp only[go_sem, ↓reduceIte,Nat.reduceEqDiff,Nat.reduceAdd,Nat.reduceSub,Nat.reduceLeDiff,reduceCtorEq,h5]at h4
    exact h4
   have TJ:=TI.frame (g':=g3) fun i hi=>fr3 i (by have:=bX i hi;omega)
   have TK:=hY.frame (g':=g3) fun i hi=>fr3 i (by have:=bY i hi;omega)
   clear TI hY MB lA lB lX
   obtain⟨wv,pR,Od⟩:=hZ.fz fun x g=>by simp[ad,aj,aq,aH]
   refine hN _ _ ?_
   clear hN N
   (try((repeat(revert hN;revert N;apply Pn.out));refine wk (tw @mA (tw @mB (tw @mX @mY))) ?_;(repeat(refine Pn.mk ?_;intro N hN))))
   refine .inl ⟨_,ar.x (sD Od hw) (s4 pR (hw.fz _)),?_⟩
   refine hN _ _ ?_
   clear hN N
   (try((repeat(revert hN;revert N;apply Pn.out));refine wk (tw @mA (tw @mB (tw @mX (tw @mY @e2)))) ?_;(repeat(refine Pn.mk ?_;intro N hN))))
   refine⟨_,j9.x (by rw[aC]at t1;exact t1) _,?_⟩
   refine hN _ _ ?_
   clear hN N
   (try((repeat(revert hN;revert N;apply Pn.out));refine wk (tw @mA (tw @mB (tw @mX (tw @mY @e2)))) ?_;(repeat(refine Pn.mk ?_;intro N hN))))
   refine⟨_,ar.x (by rw[aC]at q1;exact q1) (by rw[<-aC];exact Mb TJ (EO _ _)),?_⟩
   refine hN _ _ ?_
   clear hN N
   (try((repeat(revert hN;revert N;apply Pn.out));refine wk (tw @mA (tw @mB (tw @mX (tw @mY @e2)))) ?_;(repeat(refine Pn.mk ?_;intro N hN))))
   refine⟨_,j9.x (by rw[aM]at t2;exact t2) _,?_⟩
   refine hN _ _ ?_
   clear hN N
   (try((repeat(revert hN;revert N;apply Pn.out));refine wk (tw @mA (tw @mB (tw @mX (tw @mY @e2)))) ?_;(repeat(refine Pn.mk ?_;intro N hN))))
   refine⟨_,ar.x (by rw[aM]at q2;exact q2) (by rw[<-aM];exact KA TK (EN _ _)),?_⟩
   refine hN _ _ ?_
   clear hN N
   (try((repeat(revert hN;revert N;apply Pn.out));refine wk (tw @mA (tw @mB (tw @mX (tw @mY @e2)))) ?_;(repeat(refine Pn.mk ?_;intro N hN))))
   have Of:=LJ s
   have hns:=MA.not (x:=⟨9000000,n0⟩) (by(try dsimp only);omega)
   have hnt:=MA.not (x:=⟨9000001,n0⟩) (by(try dsimp only);omega)
   refine .inr (aL _ _ _ _ _ (fun r σ4 hq=>?_) (GI _ s _ 1 (by omega) sm.s.t (by omega) _ (fun i hi=>by have:=bX i hi;(try dsimp only);omega) MA.1 TJ))
   obtain⟨rfl,hM⟩:=hq
   obtain⟨g4,x4⟩:=σ4
   (try dsimp only at hM)
   have nM:=hM.1
   (try dsimp only at nM)
   have pA:=(hM.2 ⟨9000000,n0⟩ (by(try dsimp only);omega) hns).trans mA
   have pB:=(hM.2 ⟨9000001,n0⟩ (by(try dsimp only);omega) hnt).trans mB
   have pY:=(hM.2 ⟨9010002,x2⟩ (by(try dsimp only);omega) (MA.not (by(try dsimp only);omega))).trans mY
   have hY4:=TK.frame (g':=g4) fun i hi=>hM.2 i (by have:=bY i hi;(try dsimp only);omega) (MA.not (by have:=bY i hi;omega))
   have hZ4:=hZ.frame (g':=g4) fun i hi=>hM.2 i (by have:=bZ i hi;(try dsimp only);omega) (MA.not (by have:=bZ i hi;omega))
   clear hM TJ TK hZ mA mB mX mY pR
   refine hN _ _ ?_
   clear hN N
   (try((repeat(revert hN;revert N;apply Pn.out));refine wk (tw @pA (tw @pB @pY)) ?_;(repeat(refine Pn.mk ?_;intro N hN))))
   refine .inr (aL _ _ _ _ _ (fun r σ5 hq=>?_) (yg _ a _ (1+BI s) (by omega) (by omega) _ (fun i hi=>by have:=bY i hi;(try dsimp only);omega) hY4))
   obtain⟨rfl,hM⟩:=hq
   obtain⟨g5,x5⟩:=σ5
   (try dsimp only at hM)
   have nN:=hM.1
   (try dsimp only at nN)
   have rA:=(hM.2 ⟨9000000,n0⟩ (by(try dsimp only);omega) (Qp.not (by(try dsimp only);omega))).trans pA
   have rB:=(hM.2 ⟨9000001,n0⟩ (by(try dsimp only);omega) (Qp.not (by(try dsimp only);omega))).trans pB
   have TL:=hZ4.frame (g':=g5) fun i hi=>hM.2 i (by have:=bZ i hi;(try dsimp only);omega) (Qp.not (by have:=bZ i hi;omega))
   clear hM hY4 hZ4 pA pB pY
   obtain⟨wv5,pR,Od⟩:=TL.fz fun x g=>by simp[ad,aj,aq,aH]
   have e3:decide (1+(BI s:Int)+3*(a.ah.length:Int)<0)=false:=decide_eq_false (by omega)
   refine hN _ _ ?_
   clear hN N
   (try((repeat(revert hN;revert N;apply Pn.out));refine wk (tw @rA (tw @rB @e3)) ?_;(repeat(refine Pn.mk ?_;intro N hN))))
   refine .inl ⟨_,ar.x (sD Od hw) (s4 pR (hw.fz _)),?_⟩
   refine hN _ _ ?_
   clear hN N
   (try((repeat(revert hN;revert N;apply Pn.out));refine wk (tw @rA (tw @rB (tw @e2 @e3))) ?_;(repeat(refine Pn.mk ?_;intro N hN))))
   refine .inr (aL _ _ _ _ _ (fun r σ6 hq=>?_) (DS 1 (by omega) (by omega) _ (fun i hi=>by have:=bZ i hi;(try dsimp only);omega) TL))
   obtain⟨rfl,hM,hZ6⟩:=hq
   obtain⟨g6,x6⟩:=σ6
   (try dsimp only at hM hZ6)
   have sA:=(hM.2 ⟨9000000,n0⟩ (by(try dsimp only);omega) (R8.not (by(try dsimp only);omega))).trans rA
   have sB:=(hM.2 ⟨9000001,n0⟩ (by(try dsimp only);omega) (R8.not (by(try dsimp only);omega))).trans rB
   clear hM TL rA rB pR Od
   obtain⟨wv6,pR,Od⟩:=hZ6.fz fun x g=>by simp[ad,aj,aq,aH]
   have e4:decide (1+3*(L.length:Int)<0)=false:=decide_eq_false (by omega)
   have e5:decide (1+3*(L.length:Int)=1+3*(L.length:Int))=true:=decide_eq_true rfl
   refine hN _ _ ?_
   clear hN N
   (try((repeat(revert hN;revert N;apply Pn.out));refine wk (tw @sA @sB) ?_;(repeat(refine Pn.mk ?_;intro N hN))))
   refine .inl ⟨_,ar.x (vk 1 L.length (by omega) (by omega) Od) (s4 pR (aH _ _ _ _)),?_⟩
   refine hN _ _ ?_
   clear hN N
   (try((repeat(revert hN;revert N;apply Pn.out));refine wk (tw @sA (tw @sB (tw @e4 @e5))) ?_;(repeat(refine Pn.mk ?_;intro N hN))))
   refine⟨_,j9.x (by rw[aC]at t1;exact t1) _,?_⟩
   refine hN _ _ ?_
   clear hN N
   (try((repeat(revert hN;revert N;apply Pn.out));refine wk (tw @sA (tw @sB (tw @e4 @e5))) ?_;(repeat(refine Pn.mk ?_;intro N hN))))
   refine⟨_,j9.x (by rw[aM]at t2;exact t2) _,?_⟩
   refine hN _ _ ?_
   clear hN N
   (try((repeat(revert hN;revert N;apply Pn.out));refine wk (tw @sA (tw @sB (tw @e4 @e5))) ?_;(repeat(refine Pn.mk ?_;intro N hN))))
   refine⟨_,ar.x (by have h:=r2.s GU;rw[aC,aM]at h;exact h) (s4 (by rw[<-aC];exact EO _ _) (by rw[<-aM];exact EN _ _)),?_⟩
   refine hN _ _ ?_
   clear hN N
   (try((repeat(revert hN;revert N;apply Pn.out));refine wk @e2 ?_;(repeat(refine Pn.mk ?_;intro N hN))))
   refine .inl ⟨_,ar.x (sD B3 hw) (s4 (B3.fz _) (hw.fz _)),?_⟩
   refine hN _ _ ?_
   clear hN N
   (try((repeat(revert hN;revert N;apply Pn.out));refine wk @e2 ?_;(repeat(refine Pn.mk ?_;intro N hN))))
   refine .inl ⟨_,ar.x (vk 1 L.length (by omega) (by omega) Od) (s4 pR (aH _ _ _ _)),?_⟩
   refine hN _ _ ?_
   clear hN N
   (try((repeat(revert hN;revert N;apply Pn.out));refine wk (tw @e4 @e5) ?_;(repeat(refine Pn.mk ?_;intro N hN))))
   exact aQ (b:=true) (.inl rfl) (sd @Nat.zero_add) rfl
  ·rw[iE hg]at h2
   rw[aC]at h1
   rw[aM]at h2
   (repeat(first|((repeat(revert hN;revert N;apply Pn.out));refine wk (tw @aC.eq_1 (tw @aM.eq_1 @kg)) ?_;(repeat(refine Pn.mk ?_;intro N hN)))|((try apply Or.inl);refine⟨_,ar.x (h1) (sd (tw @aC.eq_1 (tw @aM.eq_1 @kg))),?_⟩;refine hN _ _ ?_;clear hN N)|((try apply Or.inl);refine⟨_,ar.x (h2) (sd (tw @aC.eq_1 (tw @aM.eq_1 @kg))),?_⟩;refine hN _ _ ?_;clear hN N)))
   exact aQ (b:=true) (.inl rfl) (sd @Nat.zero_add) rfl
 ·rw[iE hf]at h1
  rw[aC]at h1
  (repeat(first|((repeat(revert hN;revert N;apply Pn.out));refine wk (tw @aC.eq_1 @aM.eq_1) ?_;(repeat(refine Pn.mk ?_;intro N hN)))|((try apply Or.inl);refine⟨_,ar.x (h1) (sd (tw @aC.eq_1 @aM.eq_1)),?_⟩;refine hN _ _ ?_;clear hN N)))
  exact aQ (b:=true) (.inl rfl) (sd @Nat.zero_add) rfl
end Go.Proofs.YtgoelphibofcmaaGreat.V

namespace Go.Proofs.YtgoelphibofcmaaGreat.V
open Go.RowKit
attribute [local irreducible] eb wpOps gj Call
attribute [local go_sem] aJ fM eP fZ fY cL upd cu K.av cN AV.cells AV.cell rowOf rowsOf part ld rowAt bI bW dD ee gT bL dc ev fU eY dr ej da cZ dO dR bR aX cR bQ cV cU eh ek ei cQ bV db ef bP aP cX cE gS bw cJ bU aW dx bj dE AV.undef bD bF dV ec dI dS cF eu eB cD ep eo cW cY List.getD_cons_zero List.getD_cons_succ List.getD_nil List.all_cons List.all_nil Bool.and_true Bool.true_and Bool.and_self Bool.not_true Bool.not_false Option.map_some Option.map_none Option.bind_some Option.bind_none List.length_cons List.length_nil List.take_succ_cons List.take_zero List.take_nil List.drop_succ_cons List.drop_zero List.drop_nil List.head?_cons List.map_cons List.map_nil List.getElem?_cons_zero List.getElem?_cons_succ List.cons_append List.nil_append List.append_nil List.length_map List.set_cons_zero List.set_cons_succ Nat.reduceMul eq_self Int.toNat_natCast Int.natCast_nonneg and_self true_and and_true decide_true decide_false Bool.false_eq_true Nat.zero_add Nat.add_zero List.contains_cons List.contains_nil Bool.or_false Bool.false_or beq_self_eq_true Nat.reduceBEq ne_eq not_true_eq_false not_false_eq_true Id.mk.injEq false_and and_false Nat.reduceLT Int.reduceLE Int.reduceLT Int.reduceToNat Int.reduceNeg Int.reduceAdd Nat.le_refl List.length_append beq_true beq_false Bool.not_eq_eq_eq_not or_false false_or dM aj aq aH bd bz ck aU bf aT aZ cP bH
def iJ (n lo hi:Int):Bool:=decide (lo<=n)&&decide (n<=hi)
theorem ea {n lo hi:Int} (h:iJ n lo hi=true):lo<=n/\n<=hi:=by simpa[iJ]using h
theorem jE {n lo hi:Int} (h:lo<=n/\n<=hi):iJ n lo hi=true:=by simpa[iJ]using h
def zI (p:ai):Bool:=iJ p.eM (-60) 60&&iJ p.eI (-60) 60
theorem lx (n lo hi:Int):ar Tryz.prog 137 [.int .i64 n,.int .i64 lo,.int .i64 hi] (.bool (iJ n lo hi)):=by
 refine ar.body eJ rfl fun hl n0=>?_
 clear hl
 by_cases h1:lo<=n
 ·(try((repeat(revert hN;revert N;apply Pn.out));refine wk @h1 ?_;(repeat(refine Pn.mk ?_;intro N hN))))
  exact aQ (b:=decide (n<=hi)) (.inl rfl) (sd @Nat.zero_add) (by simp[iJ,h1])
 ·(try((repeat(revert hN;revert N;apply Pn.out));refine wk @h1 ?_;(repeat(refine Pn.mk ?_;intro N hN))))
  exact aQ (b:=false) (.inl rfl) (sd @Nat.zero_add) (by simp[iJ,h1])
theorem k5 (n lo hi:Int):ar Tryz.prog 141 [.int .i64 n,.int .i64 lo,.int .i64 hi] (.bool (iJ n lo hi)):=by
 refine ar.body eJ rfl fun hl n0=>?_
 clear hl
 by_cases h1:lo<=n
 ·(try((repeat(revert hN;revert N;apply Pn.out));refine wk @h1 ?_;(repeat(refine Pn.mk ?_;intro N hN))))
  exact aQ (b:=decide (n<=hi)) (.inl rfl) (sd @Nat.zero_add) (by simp[iJ,h1])
 ·(try((repeat(revert hN;revert N;apply Pn.out));refine wk @h1 ?_;(repeat(refine Pn.mk ?_;intro N hN))))
  exact aQ (b:=false) (.inl rfl) (sd @Nat.zero_add) (by simp[iJ,h1])
theorem I2 (d:Int):ar Tryz.prog 173 [.int .i64 d] (.bool (iJ d 0 3)):=by
 refine ar.body eJ rfl fun hl n0=>?_
 clear hl
 have h:=lx d 0 3
 (repeat(first|((repeat(revert hN;revert N;apply Pn.out));refine wk @Nat.zero_add ?_;(repeat(refine Pn.mk ?_;intro N hN)))|((try apply Or.inl);refine⟨_,ar.x (h) (sd @Nat.zero_add),?_⟩;refine hN _ _ ?_;clear hN N)))
 exact aQ (b:=iJ d 0 3) (.inl rfl) (sd @Nat.zero_add) rfl
theorem vD (p:ai):ar Tryz.prog 123 [.agg (ab p)] (.bool (zI p)):=by
 refine ar.body eJ rfl fun hl n0=>?_
 clear hl
 have h1:=lx p.eM (-60) 60
 have h2:=lx p.eI (-60) 60
 by_cases q:iJ p.eM (-60) 60=true
 ·rw[q]at h1
  (repeat(first|((repeat(revert hN;revert N;apply Pn.out));refine wk @ab.eq_1 ?_;(repeat(refine Pn.mk ?_;intro N hN)))|((try apply Or.inl);refine⟨_,ar.x (h1) (sd @ab.eq_1),?_⟩;refine hN _ _ ?_;clear hN N)|((try apply Or.inl);refine⟨_,ar.x (h2) (sd @ab.eq_1),?_⟩;refine hN _ _ ?_;clear hN N)))
  exact aQ (b:=iJ p.eI (-60) 60) (.inl rfl) (sd @Nat.zero_add) (by rw[zI,q];rfl)
 ·rw[Bool.not_eq_true]at q
  rw[q]at h1
  (repeat(first|((repeat(revert hN;revert N;apply Pn.out));refine wk @ab.eq_1 ?_;(repeat(refine Pn.mk ?_;intro N hN)))|((try apply Or.inl);refine⟨_,ar.x (h1) (sd @ab.eq_1),?_⟩;refine hN _ _ ?_;clear hN N)|((try apply Or.inl);refine⟨_,ar.x (h2) (sd @ab.eq_1),?_⟩;refine hN _ _ ?_;clear hN N)))
  exact aQ (b:=false) (.inl rfl) (sd @Nat.zero_add) (by rw[zI,q];rfl)
theorem qT (p:ai):ar Tryz.prog 140 [.agg (ab p)] (.bool (zI p)):=by
 refine ar.body eJ rfl fun hl n0=>?_
 clear hl
 have h1:=k5 p.eM (-60) 60
 have h2:=k5 p.eI (-60) 60
 by_cases q:iJ p.eM (-60) 60=true
 ·rw[q]at h1
  (repeat(first|((repeat(revert hN;revert N;apply Pn.out));refine wk @ab.eq_1 ?_;(repeat(refine Pn.mk ?_;intro N hN)))|((try apply Or.inl);refine⟨_,ar.x (h1) (sd @ab.eq_1),?_⟩;refine hN _ _ ?_;clear hN N)|((try apply Or.inl);refine⟨_,ar.x (h2) (sd @ab.eq_1),?_⟩;refine hN _ _ ?_;clear hN N)))
  exact aQ (b:=iJ p.eI (-60) 60) (.inl rfl) (sd @Nat.zero_add) (by rw[zI,q];rfl)
 ·rw[Bool.not_eq_true]at q
  rw[q]at h1
  (repeat(first|((repeat(revert hN;revert N;apply Pn.out));refine wk @ab.eq_1 ?_;(repeat(refine Pn.mk ?_;intro N hN)))|((try apply Or.inl);refine⟨_,ar.x (h1) (sd @ab.eq_1),?_⟩;refine hN _ _ ?_;clear hN N)|((try apply Or.inl);refine⟨_,ar.x (h2) (sd @ab.eq_1),?_⟩;refine hN _ _ ?_;clear hN N)))
  exact aQ (b:=false) (.inl rfl) (sd @Nat.zero_add) (by rw[zI,q];rfl)
def kn (d:Int):Int:=if iJ d 0 3 then(d+2) % 4 else -1
def aY (p:ai) (d:Int):ai:=
 if d=0 then⟨p.eM,p.eI+1⟩else if d=1 then⟨p.eM+1,p.eI⟩else if d=2 then⟨p.eM,p.eI-1⟩else if d=3 then⟨p.eM-1,p.eI⟩else p
def iB (n:Int):Prop:=-4611686018427387904<=n/\n<=4611686018427387904
theorem sO (p:ai) (d:Int) (hd:iJ d 0 3=true) (hx:iB p.eM) (hy:iB p.eI):ar Tryz.prog 122 [.agg (ab p),.int .i64 d] (.agg (ab (aY p d))):=by
 refine ar.body eJ rfl fun hl n0=>?_
 clear hl
 obtain⟨x1,x2⟩:=hx
 obtain⟨y1,y2⟩:=hy
 have w1:IntKind.i64.wrap (p.eM+1)=p.eM+1:=bh (by omega)
 have w2:IntKind.i64.wrap (p.eM-1)=p.eM-1:=bh (by omega)
 have w3:IntKind.i64.wrap (p.eI+1)=p.eI+1:=bh (by omega)
 have w4:IntKind.i64.wrap (p.eI-1)=p.eI-1:=bh (by omega)
 have hb:=ea hd
 have hc:d=0∨d=1∨d=2∨d=3:=by omega
 rcases hc with rfl|rfl|rfl|rfl
 ·(try((repeat(revert hN;revert N;apply Pn.out));refine wk (tw @ab.eq_1 @w3) ?_;(repeat(refine Pn.mk ?_;intro N hN))))
  exact oN (.inl rfl) (vs:=[.agg (ab (aY p 0))]) (by simp only[go_sem, ↓reduceIte,Nat.reduceEqDiff,Nat.reduceAdd,Nat.reduceSub,Nat.reduceLeDiff,reduceCtorEq,fu,iz,ab,aY]) (by simp[fc,ab,gi,dZ])
 ·(try((repeat(revert hN;revert N;apply Pn.out));refine wk (tw @ab.eq_1 @w1) ?_;(repeat(refine Pn.mk ?_;intro N hN))))
  exact oN (.inl rfl) (vs:=[.agg (ab (aY p 1))]) (by simp[fu,iz,ab,aY,ld,rowAt,bI,upd,part]) (by simp[fc,ab,gi,dZ])
 ·(try((repeat(revert hN;revert N;apply Pn.out));refine wk (tw @ab.eq_1 @w4) ?_;(repeat(refine Pn.mk ?_;intro N hN))))
  exact oN (.inl rfl) (vs:=[.agg (ab (aY p 2))]) (by simp[fu,iz,ab,aY,ld,rowAt,bI,upd,part]) (by simp[fc,ab,gi,dZ])
 ·(try((repeat(revert hN;revert N;apply Pn.out));refine wk (tw @ab.eq_1 @w2) ?_;(repeat(refine Pn.mk ?_;intro N hN))))
  exact oN (.inl rfl) (vs:=[.agg (ab (aY p 3))]) (by simp[fu,iz,ab,aY,ld,rowAt,bI,upd,part]) (by simp[fc,ab,gi,dZ])
theorem zH (p p2:ai) (x y:Int) (hx:IntKind.i64.wrap (p.eM+p2.eM)=x) (hy:IntKind.i64.wrap (p.eI+p2.eI)=y):ar Tryz.prog 184 [.agg (ab p),.agg (ab p2)] (.agg [.int .i64 x,.int .i64 y]):=by
 refine ar.body eJ rfl fun hl n0=>?_
 clear hl
 (try((repeat(revert hN;revert N;apply Pn.out));refine wk (tw @ab.eq_1 (tw @hx @hy)) ?_;(repeat(refine Pn.mk ?_;intro N hN))))
 exact oN (.inl rfl) (vs:=[.agg [.int .i64 x,.int .i64 y]]) (by simp only[go_sem, ↓reduceIte,Nat.reduceEqDiff,Nat.reduceAdd,Nat.reduceSub,Nat.reduceLeDiff,reduceCtorEq,fu,iz,ab]) (by simp[fc,gi,dZ])
theorem Eh (p:ai) (d:Int) (hd:iJ d 0 3=true) (hx:iB p.eM) (hy:iB p.eI):ar Tryz.prog 149 [.agg (ab p),.int .i64 d] (.agg (ab (aY p d))):=by
 refine ar.body eJ rfl fun hl n0=>?_
 clear hl
 obtain⟨x1,x2⟩:=hx
 obtain⟨y1,y2⟩:=hy
 have hb:=ea hd
 have hc:d=0∨d=1∨d=2∨d=3:=by omega
 rcases hc with rfl|rfl|rfl|rfl
 ·have h:=zH p ⟨0,1⟩ (p.eM) (p.eI+1) (by rw[bh (by constructor<;>simp only<;>omega)]<;>(try simp only)<;>(try omega)) (by rw[bh (by constructor<;>simp only<;>omega)]<;>(try simp only)<;>(try omega))
  simp only[ab]at h
  (repeat(first|((repeat(revert hN;revert N;apply Pn.out));refine wk @ab.eq_1 ?_;(repeat(refine Pn.mk ?_;intro N hN)))|((try apply Or.inl);refine⟨_,ar.x (h) (sd @ab.eq_1),?_⟩;refine hN _ _ ?_;clear hN N)))
  exact oN (.inl rfl) (vs:=[.agg (ab (aY p 0))]) (by simp[fu,iz,ab,aY,ld,rowAt,bI,upd,part]) (by simp[fc,ab,gi,dZ])
 ·have h:=zH p ⟨1,0⟩ (p.eM+1) (p.eI) (by rw[bh (by constructor<;>simp only<;>omega)]<;>(try simp only)<;>(try omega)) (by rw[bh (by constructor<;>simp only<;>omega)]<;>(try simp only)<;>(try omega))
  simp only[ab]at h
  (repeat(first|((repeat(revert hN;revert N;apply Pn.out));refine wk @ab.eq_1 ?_;(repeat(refine Pn.mk ?_;intro N hN)))|((try apply Or.inl);refine⟨_,ar.x (h) (sd @ab.eq_1),?_⟩;refine hN _ _ ?_;clear hN N)))
  exact oN (.inl rfl) (vs:=[.agg (ab (aY p 1))]) (by simp[fu,iz,ab,aY,ld,rowAt,bI,upd,part]) (by simp[fc,ab,gi,dZ])
 ·have h:=zH p ⟨0,(-1)⟩ (p.eM) (p.eI-1) (by rw[bh (by constructor<;>simp only<;>omega)]<;>(try simp only)<;>(try omega)) (by rw[bh (by constructor<;>simp only<;>omega)]<;>(try simp only)<;>(try omega))
  simp only[ab]at h
  (repeat(first|((repeat(revert hN;revert N;apply Pn.out));refine wk @ab.eq_1 ?_;(repeat(refine Pn.mk ?_;intro N hN)))|((try apply Or.inl);refine⟨_,ar.x (h) (sd @ab.eq_1),?_⟩;refine hN _ _ ?_;clear hN N)))
  exact oN (.inl rfl) (vs:=[.agg (ab (aY p 2))]) (by simp[fu,iz,ab,aY,ld,rowAt,bI,upd,part]) (by simp[fc,ab,gi,dZ])
 ·have h:=zH p ⟨(-1),0⟩ (p.eM-1) (p.eI) (by rw[bh (by constructor<;>simp only<;>omega)]<;>(try simp only)<;>(try omega)) (by rw[bh (by constructor<;>simp only<;>omega)]<;>(try simp only)<;>(try omega))
  simp only[ab]at h
  (repeat(first|((repeat(revert hN;revert N;apply Pn.out));refine wk @ab.eq_1 ?_;(repeat(refine Pn.mk ?_;intro N hN)))|((try apply Or.inl);refine⟨_,ar.x (h) (sd @ab.eq_1),?_⟩;refine hN _ _ ?_;clear hN N)))
  exact oN (.inl rfl) (vs:=[.agg (ab (aY p 3))]) (by simp[fu,iz,ab,aY,ld,rowAt,bI,upd,part]) (by simp[fc,ab,gi,dZ])
theorem DW (d:Int) (hd:iJ d 0 3=true):ar Tryz.prog 153 [.int .i64 d] (.int .i64 (kn d)):=by
 refine ar.body eJ rfl fun hl n0=>?_
 clear hl
 have hb:=ea hd
 have hw:IntKind.i64.wrap (d+2)=d+2:=bh (by omega)
 have ht:Int.tmod (d+2) 4=(d+2) % 4:=Int.tmod_eq_emod_of_nonneg (by omega)
 have h4:¬((4:Int)=0):=by omega
 (try((repeat(revert hN;revert N;apply Pn.out));refine wk (tw @hw (tw @ht @h4)) ?_;(repeat(refine Pn.mk ?_;intro N hN))))
 exact cC (b:=(d+2) % 4) (.inl rfl) (sd @Nat.zero_add) (by rw[kn,if_pos hd])
theorem uG (d:Int) (hd:iJ d 0 3=true):ar Tryz.prog 125 [.int .i64 d] (.int .i64 (kn d)):=by
 refine ar.body eJ rfl fun hl n0=>?_
 clear hl
 have hb:=ea hd
 have hw:IntKind.i64.wrap (d+2)=d+2:=bh (by omega)
 have ht:Int.tmod (d+2) 4=(d+2) % 4:=Int.tmod_eq_emod_of_nonneg (by omega)
 have h4:¬((4:Int)=0):=by omega
 have h:=I2 d
 rw[hd]at h
 (repeat(first|((repeat(revert hN;revert N;apply Pn.out));refine wk (tw @hw (tw @ht @h4)) ?_;(repeat(refine Pn.mk ?_;intro N hN)))|((try apply Or.inl);refine⟨_,ar.x (h) (sd (tw @hw (tw @ht @h4))),?_⟩;refine hN _ _ ?_;clear hN N)))
 exact cC (b:=(d+2) % 4) (.inl rfl) (sd @Nat.zero_add) (by rw[kn,if_pos hd])
end Go.Proofs.YtgoelphibofcmaaGreat.V

namespace Go.Proofs.YtgoelphibofcmaaGreat.V
open Go.RowKit
attribute [local irreducible] eb wpOps gj Call
attribute [local go_sem] aJ fM eP fZ fY cL upd cu K.av cN AV.cells AV.cell rowOf rowsOf part ld rowAt bI bW dD ee gT bL dc ev fU eY dr ej da cZ dO dR bR aX cR bQ cV cU eh ek ei cQ bV db ef bP aP cX cE gS bw cJ bU aW dx bj dE AV.undef bD bF dV ec dI dS cF eu eB cD ep eo cW cY List.getD_cons_zero List.getD_cons_succ List.getD_nil List.all_cons List.all_nil Bool.and_true Bool.true_and Bool.and_self Bool.not_true Bool.not_false Option.map_some Option.map_none Option.bind_some Option.bind_none List.length_cons List.length_nil List.take_succ_cons List.take_zero List.take_nil List.drop_succ_cons List.drop_zero List.drop_nil List.head?_cons List.map_cons List.map_nil List.getElem?_cons_zero List.getElem?_cons_succ List.cons_append List.nil_append List.append_nil List.length_map List.set_cons_zero List.set_cons_succ Nat.reduceMul eq_self Int.toNat_natCast Int.natCast_nonneg and_self true_and and_true decide_true decide_false Bool.false_eq_true Nat.zero_add Nat.add_zero List.contains_cons List.contains_nil Bool.or_false Bool.false_or beq_self_eq_true Nat.reduceBEq ne_eq not_true_eq_false not_false_eq_true Id.mk.injEq false_and and_false Nat.reduceLT Int.reduceLE Int.reduceLT Int.reduceToNat Int.reduceNeg Int.reduceAdd Nat.le_refl List.length_append beq_true beq_false Bool.not_eq_eq_eq_not or_false false_or dM aj aq aH bd bz ck aU bf aT aZ cP bH
def eS (s:aw) (t:Int):Bool:=iJ t 0 ((s.ah.length:Int)-1)
theorem DJ (s:aw) (t:Int):ar Tryz.prog 136 [.dj (aa s),.int .i64 t] (.bool (eS s t)):=by
 refine ar.body eJ rfl fun hl n0=>?_
 have hn:s.ah.length<=9223372036854775807:=by
  have h1:=(hl (.dj (aa s)) (by simp)).BA (a:=.sl (s.ah.map bp)) (by simp[aa])
  simpa using h1.len
 clear hl
 have hw:IntKind.i64.wrap ((s.ah.length:Int)-1)=(s.ah.length:Int)-1:=bh (by omega)
 have h:=lx t 0 ((s.ah.length:Int)-1)
 (repeat(first|((repeat(revert hN;revert N;apply Pn.out));refine wk (tw @aa.eq_1 @hw) ?_;(repeat(refine Pn.mk ?_;intro N hN)))|((try apply Or.inl);refine⟨_,ar.x (h) (sd (tw @aa.eq_1 @hw)),?_⟩;refine hN _ _ ?_;clear hN N)))
 exact aQ (b:=eS s t) (.inl rfl) (by simp only[go_sem, ↓reduceIte,Nat.reduceEqDiff,Nat.reduceAdd,Nat.reduceSub,Nat.reduceLeDiff,reduceCtorEq,eS]) rfl
theorem ya (t n:Int) (h0:0<=n) (h1:n<=9223372036854775807):ar Tryz.prog 139 [.int .i64 t,.int .i64 n] (.bool (iJ t 0 (n-1))):=by
 refine ar.body eJ rfl fun hl n0=>?_
 clear hl
 have hw:IntKind.i64.wrap (n-1)=n-1:=bh (by omega)
 have h:=k5 t 0 (n-1)
 (repeat(first|((repeat(revert hN;revert N;apply Pn.out));refine wk @hw ?_;(repeat(refine Pn.mk ?_;intro N hN)))|((try apply Or.inl);refine⟨_,ar.x (h) (sd @hw),?_⟩;refine hN _ _ ?_;clear hN N)))
 exact aQ (b:=iJ t 0 (n-1)) (.inl rfl) (sd @Nat.zero_add) rfl
theorem IZ (s:aw) (t:Int):ar Tryz.prog 83 [.agg (aa s),.int .i64 t] (.bool (eS s t)):=by
 refine ar.body eJ rfl fun hl n0=>?_
 have hn:s.ah.length<=9223372036854775807:=by
  have h1:=(hl (.agg (aa s)) (by simp)).Ni (a:=.sl (s.ah.map bp)) (by simp[aa])
  simpa using h1.len
 clear hl
 have h:=ya t s.ah.length (by omega) (by omega)
 (repeat(first|((repeat(revert hN;revert N;apply Pn.out));refine wk @aa.eq_1 ?_;(repeat(refine Pn.mk ?_;intro N hN)))|((try apply Or.inl);refine⟨_,ar.x (h) (sd @aa.eq_1),?_⟩;refine hN _ _ ?_;clear hN N)))
 exact aQ (b:=eS s t) (.inl rfl) (by simp only[go_sem, ↓reduceIte,Nat.reduceEqDiff,Nat.reduceAdd,Nat.reduceSub,Nat.reduceLeDiff,reduceCtorEq,eS]) rfl
def zF:eT:=⟨⟨#[]⟩,[]⟩
def dh (s:aw) (t:Int):eT:=s.ah.getD t.toNat zF
def de (t:eT) (d:Int):Int:=t.br.getD d.toNat 0
def ql (s:aw) (g:Int):fw:=s.ax.getD g.toNat ⟨⟨#[]⟩,0⟩
def pK (s:aw) (g:Int):Int:=if g=0 then 0 else(ql s (g-1)).ez
def gL (s:aw) (a d b:Int):Int:=if de (dh s a) d=de (dh s b) (kn d)then pK s (de (dh s a) d)else 0
structure iU (s:aw):Prop where
 pV:∀t∈s.ah,t.br.length=4
 tn:∀t∈s.ah,∀g∈t.br,0<=g/\g<=s.ax.length
theorem getD_map {α β:Type} (e:α->β) {l:List α} {k:Nat} {d:α} (h:k<l.length):(l.map e)[k]? =some (e (l.getD k d)):=by simp[List.getD_eq_getElem?_getD,h]
theorem pS (s:aw) (g:Int) (h0:0<=g) (h1:g<=s.ax.length):ar Tryz.prog 126 [.dj (aa s),.int .i64 g] (.int .i64 (pK s g)):=by
 refine ar.body eJ rfl fun hl n0=>?_
 have hn:s.ax.length<=9223372036854775807:=by
  have h1:=(hl (.dj (aa s)) (by simp)).BA (a:=.sl (s.ax.map bG)) (by simp[aa])
  simpa using h1.len
 clear hl
 by_cases hg:g=0
 ·have e:decide (g=0)=true:=decide_eq_true hg
  (try((repeat(revert hN;revert N;apply Pn.out));refine wk (tw @aa.eq_1 @e) ?_;(repeat(refine Pn.mk ?_;intro N hN))))
  exact cC (b:=0) (.inl rfl) (sd @Nat.zero_add) (by rw[pK,if_pos hg])
 ·have e:decide (g=0)=false:=decide_eq_false hg
  have hw:IntKind.i64.wrap (g-1)=g-1:=bh (by omega)
  have qo:0<=g-1:=by omega
  have eZ:(s.ax.map bG)[(g-1).toNat]? =some (bG (ql s (g-1))):=getD_map bG (by omega)
  (try((repeat(revert hN;revert N;apply Pn.out));refine wk (tw @aa.eq_1 (tw @e (tw @hw (tw @qo (tw @eZ @bG.eq_1))))) ?_;(repeat(refine Pn.mk ?_;intro N hN))))
  exact cC (b:=(ql s (g-1)).ez) (.inl rfl) (sd @Nat.zero_add) (by rw[pK,if_neg hg])
theorem jY {s:aw} {a:Int} (h:eS s a=true):0<=a/\(s.ah.map bp)[a.toNat]? =some (bp (dh s a))/\dh s a∈s.ah:=by
 have h':=ea h
 have dP:a.toNat<s.ah.length:=by omega
 refine⟨h'.1,getD_map bp dP,?_⟩
 unfold dh
 rw[List.getD_eq_getElem?_getD,List.getElem?_eq_getElem dP]
 exact List.getElem_mem dP
theorem kX {t:eT} {d:Int} (h:t.br.length=4) (hd:iJ d 0 3=true):(t.br.map aG)[d.toNat]? =some [.int .i64 (de t d)]:=by
 have:=ea hd
 exact getD_map aG (by omega)
theorem wC {t:eT} {d:Int} (h:t.br.length=4) (hd:iJ d 0 3=true):de t d∈t.br:=by
 have:=ea hd
 have dP:d.toNat<t.br.length:=by omega
 unfold de
 rw[List.getD_eq_getElem?_getD,List.getElem?_eq_getElem dP]
 exact List.getElem_mem dP
theorem qF {d:Int} (hd:iJ d 0 3=true):iJ (kn d) 0 3=true:=by
 have:=ea hd
 refine jE ?_
 rw[kn,if_pos hd];omega
theorem Gu (s:aw) (hF:iU s) (a d b:Int) (ha:eS s a=true) (hb:eS s b=true) (hd:iJ d 0 3=true):ar Tryz.prog 147 [.dj (aa s),.int .i64 a,.int .i64 d,.int .i64 b] (.int .i64 (gL s a d b)):=by
 refine ar.body eJ rfl fun hl n0=>?_
 clear hl
 obtain⟨a0,a1,a2⟩:=jY ha
 obtain⟨b0,b1,b2⟩:=jY hb
 have s1:=kX (hF.pV _ a2) hd
 have s2:=kX (hF.pV _ b2) (qF hd)
 have gl:=hF.tn _ a2 _ (wC (hF.pV _ a2) hd)
 have d0:=(ea hd).1
 have d1:=(ea (qF hd)).1
 have h:=uG d hd
 have hs:=pS s (de (dh s a) d) gl.1 gl.2
 rw[aa]at hs
 by_cases e:de (dh s a) d=de (dh s b) (kn d)
 ·have e':decide (de (dh s a) d=de (dh s b) (kn d))=true:=decide_eq_true e
  (repeat(first|((repeat(revert hN;revert N;apply Pn.out));refine wk (tw @aa.eq_1 (tw @bp.eq_1 (tw @a0 (tw @a1 (tw @b0 (tw @b1 (tw @s1 (tw @s2 (tw @d0 (tw @d1 @e')))))))))) ?_;(repeat(refine Pn.mk ?_;intro N hN)))|((try apply Or.inl);refine⟨_,ar.x (h) (sd (tw @aa.eq_1 (tw @bp.eq_1 (tw @a0 (tw @a1 (tw @b0 (tw @b1 (tw @s1 (tw @s2 (tw @d0 (tw @d1 @e'))))))))))),?_⟩;refine hN _ _ ?_;clear hN N)|((try apply Or.inl);refine⟨_,ar.x (hs) (sd (tw @aa.eq_1 (tw @bp.eq_1 (tw @a0 (tw @a1 (tw @b0 (tw @b1 (tw @s1 (tw @s2 (tw @d0 (tw @d1 @e'))))))))))),?_⟩;refine hN _ _ ?_;clear hN N)))
  exact cC (b:=pK s (de (dh s a) d)) (.inl rfl) (sd @Nat.zero_add) (by rw[gL,if_pos e])
 ·have e':decide (de (dh s a) d=de (dh s b) (kn d))=false:=decide_eq_false e
  (repeat(first|((repeat(revert hN;revert N;apply Pn.out));refine wk (tw @aa.eq_1 (tw @bp.eq_1 (tw @a0 (tw @a1 (tw @b0 (tw @b1 (tw @s1 (tw @s2 (tw @d0 (tw @d1 @e')))))))))) ?_;(repeat(refine Pn.mk ?_;intro N hN)))|((try apply Or.inl);refine⟨_,ar.x (h) (sd (tw @aa.eq_1 (tw @bp.eq_1 (tw @a0 (tw @a1 (tw @b0 (tw @b1 (tw @s1 (tw @s2 (tw @d0 (tw @d1 @e'))))))))))),?_⟩;refine hN _ _ ?_;clear hN N)))
  exact cC (b:=0) (.inl rfl) (sd @Nat.zero_add) (by rw[gL,if_neg e])
theorem Ek (s:aw) (hF:iU s) (a d:Int) (ha:eS s a=true) (hd:iJ d 0 3=true):ar Tryz.prog 185 [.agg (aa s),.int .i64 a,.int .i64 d] (.int .i64 (pK s (de (dh s a) d))):=by
 refine ar.body eJ rfl fun hl n0=>?_
 have hn:s.ax.length<=9223372036854775807:=by
  have h1:=(hl (.agg (aa s)) (by simp)).Ni (a:=.sl (s.ax.map bG)) (by simp[aa])
  simpa using h1.len
 clear hl
 obtain⟨a0,a1,a2⟩:=jY ha
 have s1:=kX (hF.pV _ a2) hd
 have gl:=hF.tn _ a2 _ (wC (hF.pV _ a2) hd)
 have d0:=(ea hd).1
 by_cases hg:de (dh s a) d=0
 ·have e:¬(0<de (dh s a) d):=by omega
  (try((repeat(revert hN;revert N;apply Pn.out));refine wk (tw @aa.eq_1 (tw @bp.eq_1 (tw @a0 (tw @a1 (tw @s1 (tw @d0 @e)))))) ?_;(repeat(refine Pn.mk ?_;intro N hN))))
  exact cC (b:=0) (.inl rfl) (sd @Nat.zero_add) (by rw[pK,if_pos hg])
 ·have e:0<de (dh s a) d:=by omega
  have hw:IntKind.i64.wrap (de (dh s a) d-1)=de (dh s a) d-1:=bh (by omega)
  have qo:0<=de (dh s a) d-1:=by omega
  have eZ:(s.ax.map bG)[(de (dh s a) d-1).toNat]? =some (bG (ql s (de (dh s a) d-1))):=getD_map bG (by omega)
  (try((repeat(revert hN;revert N;apply Pn.out));refine wk (tw @aa.eq_1 (tw @bp.eq_1 (tw @a0 (tw @a1 (tw @s1 (tw @d0 (tw @e (tw @hw (tw @qo (tw @eZ @bG.eq_1)))))))))) ?_;(repeat(refine Pn.mk ?_;intro N hN))))
  exact cC (b:=(ql s (de (dh s a) d-1)).ez) (.inl rfl) (sd @Nat.zero_add) (by rw[pK,if_neg hg])
theorem HZ (s:aw) (hF:iU s) (a d b:Int) (ha:eS s a=true) (hb:eS s b=true) (hd:iJ d 0 3=true):ar Tryz.prog 150 [.agg (aa s),.int .i64 a,.int .i64 d,.int .i64 b] (.int .i64 (gL s a d b)):=by
 refine ar.body eJ rfl fun hl n0=>?_
 clear hl
 obtain⟨a0,a1,a2⟩:=jY ha
 obtain⟨b0,b1,b2⟩:=jY hb
 have s1:=kX (hF.pV _ a2) hd
 have s2:=kX (hF.pV _ b2) (qF hd)
 have d0:=(ea hd).1
 have d1:=(ea (qF hd)).1
 have h:=DW d hd
 have hs:=Ek s hF a d ha hd
 rw[aa]at hs
 by_cases e:de (dh s a) d=de (dh s b) (kn d)
 ·have e':decide (de (dh s a) d=de (dh s b) (kn d))=true:=decide_eq_true e
  (repeat(first|((repeat(revert hN;revert N;apply Pn.out));refine wk (tw @aa.eq_1 (tw @bp.eq_1 (tw @a0 (tw @a1 (tw @b0 (tw @b1 (tw @s1 (tw @s2 (tw @d0 (tw @d1 @e')))))))))) ?_;(repeat(refine Pn.mk ?_;intro N hN)))|((try apply Or.inl);refine⟨_,ar.x (h) (sd (tw @aa.eq_1 (tw @bp.eq_1 (tw @a0 (tw @a1 (tw @b0 (tw @b1 (tw @s1 (tw @s2 (tw @d0 (tw @d1 @e'))))))))))),?_⟩;refine hN _ _ ?_;clear hN N)|((try apply Or.inl);refine⟨_,ar.x (hs) (sd (tw @aa.eq_1 (tw @bp.eq_1 (tw @a0 (tw @a1 (tw @b0 (tw @b1 (tw @s1 (tw @s2 (tw @d0 (tw @d1 @e'))))))))))),?_⟩;refine hN _ _ ?_;clear hN N)))
  exact cC (b:=pK s (de (dh s a) d)) (.inl rfl) (sd @Nat.zero_add) (by rw[gL,if_pos e])
 ·have e':decide (de (dh s a) d=de (dh s b) (kn d))=false:=decide_eq_false e
  (repeat(first|((repeat(revert hN;revert N;apply Pn.out));refine wk (tw @aa.eq_1 (tw @bp.eq_1 (tw @a0 (tw @a1 (tw @b0 (tw @b1 (tw @s1 (tw @s2 (tw @d0 (tw @d1 @e')))))))))) ?_;(repeat(refine Pn.mk ?_;intro N hN)))|((try apply Or.inl);refine⟨_,ar.x (h) (sd (tw @aa.eq_1 (tw @bp.eq_1 (tw @a0 (tw @a1 (tw @b0 (tw @b1 (tw @s1 (tw @s2 (tw @d0 (tw @d1 @e'))))))))))),?_⟩;refine hN _ _ ?_;clear hN N)))
  exact cC (b:=0) (.inl rfl) (sd @Nat.zero_add) (by rw[gL,if_neg e])
end Go.Proofs.YtgoelphibofcmaaGreat.V

namespace Go.Proofs.YtgoelphibofcmaaGreat.V
open Go.RowKit
attribute [local irreducible] eb wpOps gj Call
attribute [local go_sem] aJ fM eP fZ fY cL upd cu K.av cN AV.cells AV.cell rowOf rowsOf part ld rowAt bI bW dD ee gT bL dc ev fU eY dr ej da cZ dO dR bR aX cR bQ cV cU eh ek ei cQ bV db ef bP aP cX cE gS bw cJ bU aW dx bj dE AV.undef bD bF dV ec dI dS cF eu eB cD ep eo cW cY List.getD_cons_zero List.getD_cons_succ List.getD_nil List.all_cons List.all_nil Bool.and_true Bool.true_and Bool.and_self Bool.not_true Bool.not_false Option.map_some Option.map_none Option.bind_some Option.bind_none List.length_cons List.length_nil List.take_succ_cons List.take_zero List.take_nil List.drop_succ_cons List.drop_zero List.drop_nil List.head?_cons List.map_cons List.map_nil List.getElem?_cons_zero List.getElem?_cons_succ List.cons_append List.nil_append List.append_nil List.length_map List.set_cons_zero List.set_cons_succ Nat.reduceMul eq_self Int.toNat_natCast Int.natCast_nonneg and_self true_and and_true decide_true decide_false Bool.false_eq_true Nat.zero_add Nat.add_zero List.contains_cons List.contains_nil Bool.or_false Bool.false_or beq_self_eq_true Nat.reduceBEq ne_eq not_true_eq_false not_false_eq_true Id.mk.injEq false_and and_false Nat.reduceLT Int.reduceLE Int.reduceLT Int.reduceToNat Int.reduceNeg Int.reduceAdd Nat.le_refl List.length_append beq_true beq_false Bool.not_eq_eq_eq_not or_false false_or dM aj aq aH bd bz ck aU bf aT aZ cP bH
def pC (s:aw) (i:Nat):fw:=s.ax.getD i ⟨⟨#[]⟩,0⟩
def oR (s:aw) (i:Nat):eT:=s.ah.getD i zF
def CH (s:aw) (i:Nat):Prop:=jB (pC s i).aE=true/\iJ (pC s i).ez 1 4=true/\∀j,j<i->(pC s j).aE≠(pC s i).aE
def Au (s:aw) (i:Nat):Prop:=jB (oR s i).aE=true/\(oR s i).br.length=4/\(∀j,j<i->(oR s j).aE≠(oR s i).aE)/\∀g∈(oR s i).br,iJ g 0 s.ax.length=true
structure iA (s:aw):Prop where
 tn:s.ax.length<=200
 some:1<=s.ah.length
 yD:s.ah.length<=160
 R0:∀i,i<s.ax.length->CH s i
 tok:∀i,i<s.ah.length->Au s i
noncomputable def qJ (s:aw):Bool:=@decide (iA s) (Classical.propDecidable _)
theorem ma {s:aw}:qJ s=true↔iA s:=by simp[qJ]
theorem fy {s:aw} (h:¬iA s):false=qJ s:=by simp[qJ,h]
theorem Ce {s:aw} (h:iA s):true=qJ s:=by simp[qJ,h]
theorem zW {s:aw} {i:Nat} (h:i<s.ah.length):(s.ah.map bp)[i]? =some (bp (oR s i)):=getD_map bp h
theorem y8 {s:aw} {i:Nat} (h:i<s.ax.length):(s.ax.map bG)[i]? =some (bG (pC s i)):=getD_map bG h
theorem iA.form {s:aw} (h:iA s):iU s:=by
 have key:∀t∈s.ah,∃i,i<s.ah.length/\t=oR s i:=fun t ht=>by
  obtain⟨i,hi,rfl⟩:=List.getElem_of_mem ht
  exact⟨i,hi,by simp[oR,List.getD_eq_getElem?_getD,hi]⟩
 refine⟨fun t ht=>?_,fun t ht g hg=>?_⟩
 ·obtain⟨i,hi,rfl⟩:=key t ht
  exact(h.tok i hi).2.1
 ·obtain⟨i,hi,rfl⟩:=key t ht
  exact ea ((h.tok i hi).2.2.2 g hg)
def dw (l:List ByteArray):List (List AV):=l.map fun n=>[.str n,.bool true]
abbrev mS:MK:=⟨false,[.tS]⟩
theorem yw (n:ByteArray):∀(l:List ByteArray) (i:Nat),∃r,fQ mS [.str n] (dw l) i=some r/\((r=none/\n∉l)∨∃j,r=some (i+j)/\n∈l/\(dw l)[j]? =some [.str n,.bool true])
 |[],i=>⟨none,rfl,.inl ⟨rfl,by simp⟩⟩
 |m::l,i=>by
  obtain⟨r,h1,h2⟩:=yw n l (i+1)
  by_cases h:n=m
  ·subst h
   exact⟨some i,by simp[dw,fQ,eY,fU,MK.ks],.inr ⟨0,rfl,by simp,rfl⟩⟩
  ·refine⟨r,?_,?_⟩
   ·unfold dw at h1 ⊢
    simp only[List.map_cons,fQ,MK.ks,List.length_cons,List.length_nil,Nat.zero_add,List.take_succ_cons,List.take_zero,eY,fU,h,decide_false,Bool.and_true]
    exact h1
   ·rcases h2 with⟨rfl,h2⟩|⟨j,rfl,h2,h3⟩
    ·exact .inl ⟨rfl,by simp[h,h2]⟩
    ·exact .inr ⟨j+1,by congr 1;omega,by simp[h2],by simpa[dw]using h3⟩
theorem wz (n:ByteArray) (l:List ByteArray):(n∉l/\fJ mS (.str n) (dw l)=some none)∨∃j,n∈l/\fJ mS (.str n) (dw l)=some (some j)/\(dw l)[j]? =some [.str n,.bool true]:=by
 obtain⟨r,h1,h2⟩:=yw n l 0
 have e:fJ mS (.str n) (dw l)=some r:=by
  unfold fJ
  rw[if_pos ⟨rfl,rfl,rfl⟩];exact h1
 rcases h2 with⟨rfl,h2⟩|⟨j,rfl,h2,h3⟩
 ·exact .inl ⟨h2,e⟩
 ·exact .inr ⟨j,h2,by rw[e,Nat.zero_add],h3⟩
theorem OT (s:aw) (g:Int):ar Tryz.prog 200 [.int .i64 g,.dj (aa s)] (.bool (!iJ g 0 s.ax.length)):=by
 refine ar.body eJ rfl fun hl n0=>?_
 clear hl
 have h:=k5 g 0 s.ax.length
 (repeat(first|((repeat(revert hN;revert N;apply Pn.out));refine wk @aa.eq_1 ?_;(repeat(refine Pn.mk ?_;intro N hN)))|((try apply Or.inl);refine⟨_,ar.x (h) (sd @aa.eq_1),?_⟩;refine hN _ _ ?_;clear hN N)))
 exact aQ (b:= !iJ g 0 s.ax.length) (.inl rfl) (sd @Nat.zero_add) rfl
theorem KN:P3 aG (fun c=>.int .i64 c) 1 false:=⟨fun _=>rfl,fun _=>rfl,fun x g=>by rw[aj,aH,aq];rfl⟩
theorem L6 (s:aw) (l:List Int) (hl:l.length<=1048576):ar Tryz.prog 199 [.sl (l.map aG),.fn 200 [.dj (aa s)]] (.bool (l.any fun g=> !iJ g 0 s.ax.length)):=
 oe KN (show mi Tryz.prog 199=some (Dh 199 224) by kernel_rfl)
  (show mi Tryz.prog 224=some (vC 224 1 false) by kernel_rfl) l hl _ _ _ rfl (fun g=>by rw[aj,aT,aq];rfl) (fun x _=>OT s x) fun g=>by rw[aj,aT,aq];rfl
theorem vR {α:Type} (f:Nat->α) (n k:Nat) (x:α):x∉(List.range k).map f↔∀j,j<k->f j≠x:=by
 constructor
 ·intro h j hj he
  exact h (List.mem_map.2 ⟨j,List.mem_range.2 hj,he⟩)
 ·intro h hm
  obtain⟨j,hj,he⟩:=List.mem_map.1 hm
  exact h j (List.mem_range.1 hj) he
theorem CO (s:aw) (hn:gD s) (hg:s.ax.length<=1048576) (ht:s.ah.length<=1048576) (hs:∀t∈s.ah,t.br.length<=1048576):ar Tryz.prog 164 [.agg (aa s)] (.bool (qJ s)):=by
 refine ar.body eJ rfl fun hl n0=>?_
 clear hl
 have QO:∀i,i<s.ax.length->(pC s i).aE.size<=9223372036854775807:=fun i hi=>hn.1 _ (by simp[pC,List.getD_eq_getElem?_getD,hi])
 have Q7:∀i,i<s.ah.length->(oR s i).aE.size<=9223372036854775807:=fun i hi=>hn.2 _ (by simp[oR,List.getD_eq_getElem?_getD,hi])
 have xh:∀i,i<s.ah.length->(oR s i).br.length<=1048576:=fun i hi=>hs _ (by simp[oR,List.getD_eq_getElem?_getD,hi])
 have hw:=k5 (s.ah.length:Int) 1 160
 by_cases h1:(200:Int)<(s.ax.length:Int)
 ·(try((repeat(revert hN;revert N;apply Pn.out));refine wk (tw @aa.eq_1 @h1) ?_;(repeat(refine Pn.mk ?_;intro N hN))))
  exact aQ (b:=false) (.inl rfl) (sd @Nat.zero_add) (fy fun h=>by have:=h.tn;omega)
 by_cases h2:iJ (s.ah.length:Int) 1 160=true
 ·have Cv:=ea h2
  rw[h2]at hw
  (repeat(first|((repeat(revert hN;revert N;apply Pn.out));refine wk (tw @aa.eq_1 @h1) ?_;(repeat(refine Pn.mk ?_;intro N hN)))|((try apply Or.inl);refine⟨_,ar.x (hw) (sd (tw @aa.eq_1 @h1)),?_⟩;refine hN _ _ ?_;clear hN N)))
  refine aO (fun n env st=>∃k:Nat,n=(s.ax.length)-k/\k<=(s.ax.length)/\env 24=.int .i64 (k:Int)/\st.get ⟨164000000,n0⟩=some ⟨true,2,[aa s]⟩/\st.get ⟨164003000,n0+1+1⟩=some ⟨true,mS.lJ,dw ((List.range k).map fun i=>(pC s i).aE)⟩/\(∀j:Nat,j<k->CH s j)) (s.ax.length) ⟨0,by omega,by omega,by(try simp only[go_sem, ↓reduceIte,Nat.reduceEqDiff,Nat.reduceAdd,Nat.reduceSub,Nat.reduceLeDiff,reduceCtorEq,aa,List.range_zero,List.map_nil,dw]);try rfl,by(try simp only[go_sem, ↓reduceIte,Nat.reduceEqDiff,Nat.reduceAdd,Nat.reduceSub,Nat.reduceLeDiff,reduceCtorEq,aa,List.range_zero,List.map_nil,dw]);try rfl,by(try simp only[go_sem, ↓reduceIte,Nat.reduceEqDiff,Nat.reduceAdd,Nat.reduceSub,Nat.reduceLeDiff,reduceCtorEq,aa,List.range_zero,List.map_nil,dw]);try rfl,fun _ h=>absurd h (Nat.not_lt_zero _)⟩ ?_
  rintro n_a env_a st_a ⟨k,rfl,ale,a24,ag0,ag1,mv⟩ dv
  have a1:=dv 1 (by kernel_rfl);have a3:=dv 3 (by kernel_rfl);have a22:=dv 22 (by kernel_rfl);have a23:=dv 23 (by kernel_rfl)
  simp only[go_sem, ↓reduceIte,Nat.reduceEqDiff,Nat.reduceAdd,Nat.reduceSub,Nat.reduceLeDiff,reduceCtorEq,aa,List.range_zero,List.map_nil,dw]at a1 a3 a22 a23
  clear dv
  by_cases hk:(k:Int)<(s.ax.length:Int)
  ·have cz:∀{e:Env} {gg:Rows},(e 24=.int .i64 (IntKind.i64.wrap ((k:Int)+1)))->(gg ⟨164000000,n0⟩=some ⟨true,2,[aa s]⟩)->(gg ⟨164003000,n0+1+1⟩=some ⟨true,mS.lJ,dw ((List.range (k+1)).map fun i=>(pC s i).aE)⟩)->(CH s k)->∃m0,m0<(s.ax.length)-k/\∃k:Nat,m0=(s.ax.length)-k/\k<=(s.ax.length)/\e 24=.int .i64 (k:Int)/\gg ⟨164000000,n0⟩=some ⟨true,2,[aa s]⟩/\gg ⟨164003000,n0+1+1⟩=some ⟨true,mS.lJ,dw ((List.range k).map fun i=>(pC s i).aE)⟩/\(∀j:Nat,j<k->CH s j):=fun x1 x2 x3 x4=>⟨_,by omega,k+1,rfl,by omega,(by rw[x1,az (by omega)]),x2,x3,(all_succ mv x4)⟩
   have fa:k<s.ax.length:=by omega
   have eR:=y8 fa
   have qp:=Fa (pC s k).aE (QO k fa)
   have Kp:=k5 (pC s k).ez 1 4
   have Bl:=wz (pC s k).aE ((List.range k).map fun i=>(pC s i).aE)
   rw[vR _ k]at Bl
   have la:(¬CH s k)->¬iA s:=fun h hp=>h (hp.R0 k fa)
   generalize se:pC s k=gl at *
   cases hb:jB gl.aE
   ·rw[hb]at qp
    (repeat(first|((repeat(revert hN;revert N;apply Pn.out));refine wk (tw @a24 (tw @ag0 (tw @ag1 (tw @a1 (tw @a3 (tw @a22 (tw @a23 (tw @hk (tw @eR (tw @bG.eq_1 @aa.eq_1)))))))))) ?_;(repeat(refine Pn.mk ?_;intro N hN)))|((try apply Or.inl);refine⟨_,ar.x (qp) (sd (tw @a24 (tw @ag0 (tw @ag1 (tw @a1 (tw @a3 (tw @a22 (tw @a23 (tw @hk (tw @eR (tw @bG.eq_1 @aa.eq_1))))))))))),?_⟩;refine hN _ _ ?_;clear hN N)))
    exact aQ (b:=false) (.inl rfl) (sd @Nat.zero_add) (fy (la fun h=>by rw[CH,se,hb]at h;cases h.1))
   ·rw[hb]at qp
    rcases Bl with⟨Dn,ml⟩|⟨j,fI,ml,e9⟩
    ·cases dH:iJ gl.ez 1 4
     ·rw[dH]at Kp
      (repeat(first|((repeat(revert hN;revert N;apply Pn.out));refine wk (tw @a24 (tw @ag0 (tw @ag1 (tw @a1 (tw @a3 (tw @a22 (tw @a23 (tw @hk (tw @eR (tw @ml (tw @bG.eq_1 @aa.eq_1))))))))))) ?_;(repeat(refine Pn.mk ?_;intro N hN)))|((try apply Or.inl);refine⟨_,ar.x (qp) (sd (tw @a24 (tw @ag0 (tw @ag1 (tw @a1 (tw @a3 (tw @a22 (tw @a23 (tw @hk (tw @eR (tw @ml (tw @bG.eq_1 @aa.eq_1)))))))))))),?_⟩;refine hN _ _ ?_;clear hN N)|((try apply Or.inl);refine⟨_,ar.x (Kp) (sd (tw @a24 (tw @ag0 (tw @ag1 (tw @a1 (tw @a3 (tw @a22 (tw @a23 (tw @hk (tw @eR (tw @ml (tw @bG.eq_1 @aa.eq_1)))))))))))),?_⟩;refine hN _ _ ?_;clear hN N)))
      exact aQ (b:=false) (.inl rfl) (sd @Nat.zero_add) (fy (la fun h=>by rw[CH,se,dH]at h;cases h.2.1))
     ·rw[dH]at Kp
      have o3:dw ((List.range k).map fun i=>(pC s i).aE)++[[.str gl.aE,.bool true]]=dw (List.map (fun i=>(pC s i).aE) (List.range k++[k])):=by simp[dw,se]
      (repeat(first|((repeat(revert hN;revert N;apply Pn.out));refine wk (tw @a24 (tw @ag0 (tw @ag1 (tw @a1 (tw @a3 (tw @a22 (tw @a23 (tw @hk (tw @eR (tw @ml (tw @bG.eq_1 @aa.eq_1))))))))))) ?_;(repeat(refine Pn.mk ?_;intro N hN)))|((try apply Or.inl);refine⟨_,ar.x (qp) (sd (tw @a24 (tw @ag0 (tw @ag1 (tw @a1 (tw @a3 (tw @a22 (tw @a23 (tw @hk (tw @eR (tw @ml (tw @bG.eq_1 @aa.eq_1)))))))))))),?_⟩;refine hN _ _ ?_;clear hN N)|((try apply Or.inl);refine⟨_,ar.x (Kp) (sd (tw @a24 (tw @ag0 (tw @ag1 (tw @a1 (tw @a3 (tw @a22 (tw @a23 (tw @hk (tw @eR (tw @ml (tw @bG.eq_1 @aa.eq_1)))))))))))),?_⟩;refine hN _ _ ?_;clear hN N)))
      refine cz ?_ ?_ ?_ (⟨by rw[se];exact hb,by rw[se];exact dH,fun j hj=>by rw[se];exact Dn j hj⟩)
      all_goals simp only[go_sem, ↓reduceIte,Nat.reduceEqDiff,Nat.reduceAdd,Nat.reduceSub,Nat.reduceLeDiff,reduceCtorEq,a24,ag0,ag1,a1,a3,a22,a23,ml,o3]
    ·(repeat(first|((repeat(revert hN;revert N;apply Pn.out));refine wk (tw @a24 (tw @ag0 (tw @ag1 (tw @a1 (tw @a3 (tw @a22 (tw @a23 (tw @hk (tw @eR (tw @ml (tw @e9 (tw @bG.eq_1 @aa.eq_1)))))))))))) ?_;(repeat(refine Pn.mk ?_;intro N hN)))|((try apply Or.inl);refine⟨_,ar.x (qp) (sd (tw @a24 (tw @ag0 (tw @ag1 (tw @a1 (tw @a3 (tw @a22 (tw @a23 (tw @hk (tw @eR (tw @ml (tw @e9 (tw @bG.eq_1 @aa.eq_1))))))))))))),?_⟩;refine hN _ _ ?_;clear hN N)))
     exact aQ (b:=false) (.inl rfl) (sd @Nat.zero_add) (fy (la fun h=>by
      rw[CH,se]at h
      obtain⟨i,hi,he⟩:=List.mem_map.1 fI
      exact h.2.2 i (List.mem_range.1 hi) he))
  ·have k8:k=s.ax.length:=by omega
   (try((repeat(revert hN;revert N;apply Pn.out));refine wk (tw @a24 (tw @ag0 (tw @ag1 (tw @a1 (tw @a3 (tw @a22 (tw @a23 (tw @hk @aa.eq_1)))))))) ?_;(repeat(refine Pn.mk ?_;intro N hN))))
   refine aO (fun n env st=>∃j:Nat,n=(s.ah.length)-j/\j<=(s.ah.length)/\env 52=.int .i64 (j:Int)/\st.get ⟨164000000,n0⟩=some ⟨true,2,[aa s]⟩/\st.get ⟨164011000,st_a.next+1⟩=some ⟨true,mS.lJ,dw ((List.range j).map fun i=>(oR s i).aE)⟩/\(∀i:Nat,i<j->Au s i)/\(st_a.next<st.next)) (s.ah.length) ⟨0,by omega,by omega,by(try simp only[go_sem, ↓reduceIte,Nat.reduceEqDiff,Nat.reduceAdd,Nat.reduceSub,Nat.reduceLeDiff,reduceCtorEq,a24,ag0,ag1,a1,a3,a22,a23,aa,List.range_zero,List.map_nil,dw]);try rfl,by(try simp only[go_sem, ↓reduceIte,Nat.reduceEqDiff,Nat.reduceAdd,Nat.reduceSub,Nat.reduceLeDiff,reduceCtorEq,a24,ag0,ag1,a1,a3,a22,a23,aa,List.range_zero,List.map_nil,dw]);try rfl,by(try simp only[go_sem, ↓reduceIte,Nat.reduceEqDiff,Nat.reduceAdd,Nat.reduceSub,Nat.reduceLeDiff,reduceCtorEq,a24,ag0,ag1,a1,a3,a22,a23,aa,List.range_zero,List.map_nil,dw]);try rfl,fun _ h=>absurd h (Nat.not_lt_zero _),(by(try dsimp only);omega)⟩ ?_
   rintro n_b env_b st_b ⟨j,rfl,ble,b52,bg0,bg1,bA0,bI0⟩ eV
   have b1:=eV 1 (by kernel_rfl);have b6:=eV 6 (by kernel_rfl);have CR:=eV 50 (by kernel_rfl);have CT:=eV 51 (by kernel_rfl)
   simp only[go_sem, ↓reduceIte,Nat.reduceEqDiff,Nat.reduceAdd,Nat.reduceSub,Nat.reduceLeDiff,reduceCtorEq,a24,ag0,ag1,a1,a3,a22,a23,aa,List.range_zero,List.map_nil,dw]at b1 b6 CR CT
   clear eV
   by_cases hj:(j:Int)<(s.ah.length:Int)
   ·have fh:∀{e:Env} {gg:Rows} {nx:Nat},(e 52=.int .i64 (IntKind.i64.wrap ((j:Int)+1)))->(gg ⟨164000000,n0⟩=some ⟨true,2,[aa s]⟩)->(gg ⟨164011000,st_a.next+1⟩=some ⟨true,mS.lJ,dw ((List.range (j+1)).map fun i=>(oR s i).aE)⟩)->(Au s j)->(st_a.next<nx)->∃m0,m0<(s.ah.length)-j/\∃j:Nat,m0=(s.ah.length)-j/\j<=(s.ah.length)/\e 52=.int .i64 (j:Int)/\gg ⟨164000000,n0⟩=some ⟨true,2,[aa s]⟩/\gg ⟨164011000,st_a.next+1⟩=some ⟨true,mS.lJ,dw ((List.range j).map fun i=>(oR s i).aE)⟩/\(∀i:Nat,i<j->Au s i)/\(st_a.next<nx):=fun x1 x2 x3 x4 x5=>⟨_,by omega,j+1,rfl,by omega,(by rw[x1,az (by omega)]),x2,x3,(all_succ bA0 x4),x5⟩
    have ia:j<s.ah.length:=by omega
    have oE:=zW ia
    have qp:=Fa (oR s j).aE (Q7 j ia)
    have SE:=L6 s (oR s j).br (xh j ia)
    have Bl:=wz (oR s j).aE ((List.range j).map fun i=>(oR s i).aE)
    rw[vR _ j]at Bl
    have la:(¬Au s j)->¬iA s:=fun h hp=>h (hp.tok j ia)
    have gU:(⟨164011000,st_a.next+1⟩:Id)≠⟨164000000,n0⟩:=by simp
    generalize htd:oR s j=tl at *
    cases hb:jB tl.aE
    ·rw[hb]at qp
     (repeat(first|((repeat(revert hN;revert N;apply Pn.out));refine wk (tw @b52 (tw @bg0 (tw @bg1 (tw @b1 (tw @b6 (tw @CR (tw @CT (tw @hj (tw @oE (tw @bp.eq_1 @aa.eq_1)))))))))) ?_;(repeat(refine Pn.mk ?_;intro N hN)))|((try apply Or.inl);refine⟨_,ar.x (qp) (sd (tw @b52 (tw @bg0 (tw @bg1 (tw @b1 (tw @b6 (tw @CR (tw @CT (tw @hj (tw @oE (tw @bp.eq_1 @aa.eq_1))))))))))),?_⟩;refine hN _ _ ?_;clear hN N)))
     exact aQ (b:=false) (.inl rfl) (sd @Nat.zero_add) (fy (la fun h=>by rw[Au,htd,hb]at h;cases h.1))
    ·rw[hb]at qp
     rcases Bl with⟨Dn,ml⟩|⟨i,fI,ml,e9⟩
     ·by_cases h4:(tl.br.length:Int)=4
      ·have za:decide ((tl.br.length:Int)=4)=true:=decide_eq_true h4
       cases hany:tl.br.any fun g=> !iJ g 0 s.ax.length
       ·rw[hany]at SE
        have o3:dw ((List.range j).map fun i=>(oR s i).aE)++[[.str tl.aE,.bool true]]=dw (List.map (fun i=>(oR s i).aE) (List.range j++[j])):=by simp[dw,htd]
        (repeat(first|((repeat(revert hN;revert N;apply Pn.out));refine wk (tw @b52 (tw @bg0 (tw @bg1 (tw @b1 (tw @b6 (tw @CR (tw @CT (tw @hj (tw @oE (tw @ml (tw @za (tw @bp.eq_1 @aa.eq_1)))))))))))) ?_;(repeat(refine Pn.mk ?_;intro N hN)))|((try apply Or.inl);refine⟨_,ar.x (qp) (sd (tw @b52 (tw @bg0 (tw @bg1 (tw @b1 (tw @b6 (tw @CR (tw @CT (tw @hj (tw @oE (tw @ml (tw @za (tw @bp.eq_1 @aa.eq_1))))))))))))),?_⟩;refine hN _ _ ?_;clear hN N)|((try apply Or.inl);refine⟨_,ar.x (SE) (sd (tw @b52 (tw @bg0 (tw @bg1 (tw @b1 (tw @b6 (tw @CR (tw @CT (tw @hj (tw @oE (tw @ml (tw @za (tw @bp.eq_1 @aa.eq_1))))))))))))),?_⟩;refine hN _ _ ?_;clear hN N)))
        refine fh ?_ ?_ ?_ (⟨by rw[htd];exact hb,by rw[htd];omega,fun i hi=>(by rw[htd];exact Dn i hi),fun g hg=>by rw[htd]at hg;have:=List.any_eq_false.1 hany g hg;simpa using this⟩) (by(try dsimp only);omega)
        all_goals simp only[go_sem, ↓reduceIte,Nat.reduceEqDiff,Nat.reduceAdd,Nat.reduceSub,Nat.reduceLeDiff,reduceCtorEq,b52,bg0,bg1,b1,b6,CR,CT,ml,o3]
       ·rw[hany]at SE
        (repeat(first|((repeat(revert hN;revert N;apply Pn.out));refine wk (tw @b52 (tw @bg0 (tw @bg1 (tw @b1 (tw @b6 (tw @CR (tw @CT (tw @hj (tw @oE (tw @ml (tw @za (tw @bp.eq_1 @aa.eq_1)))))))))))) ?_;(repeat(refine Pn.mk ?_;intro N hN)))|((try apply Or.inl);refine⟨_,ar.x (qp) (sd (tw @b52 (tw @bg0 (tw @bg1 (tw @b1 (tw @b6 (tw @CR (tw @CT (tw @hj (tw @oE (tw @ml (tw @za (tw @bp.eq_1 @aa.eq_1))))))))))))),?_⟩;refine hN _ _ ?_;clear hN N)|((try apply Or.inl);refine⟨_,ar.x (SE) (sd (tw @b52 (tw @bg0 (tw @bg1 (tw @b1 (tw @b6 (tw @CR (tw @CT (tw @hj (tw @oE (tw @ml (tw @za (tw @bp.eq_1 @aa.eq_1))))))))))))),?_⟩;refine hN _ _ ?_;clear hN N)))
        exact aQ (b:=false) (.inl rfl) (sd @Nat.zero_add) (fy (la fun h=>by
         rw[Au,htd]at h
         obtain⟨g,hg,hq⟩:=List.any_eq_true.1 hany
         have:=h.2.2.2 g hg
         rw[this]at hq;cases hq))
      ·have za:decide ((tl.br.length:Int)=4)=false:=decide_eq_false h4
       (repeat(first|((repeat(revert hN;revert N;apply Pn.out));refine wk (tw @b52 (tw @bg0 (tw @bg1 (tw @b1 (tw @b6 (tw @CR (tw @CT (tw @hj (tw @oE (tw @ml (tw @za (tw @bp.eq_1 @aa.eq_1)))))))))))) ?_;(repeat(refine Pn.mk ?_;intro N hN)))|((try apply Or.inl);refine⟨_,ar.x (qp) (sd (tw @b52 (tw @bg0 (tw @bg1 (tw @b1 (tw @b6 (tw @CR (tw @CT (tw @hj (tw @oE (tw @ml (tw @za (tw @bp.eq_1 @aa.eq_1))))))))))))),?_⟩;refine hN _ _ ?_;clear hN N)))
       exact aQ (b:=false) (.inl rfl) (sd @Nat.zero_add) (fy (la fun h=>by rw[Au,htd]at h;have:=h.2.1;omega))
     ·(repeat(first|((repeat(revert hN;revert N;apply Pn.out));refine wk (tw @b52 (tw @bg0 (tw @bg1 (tw @b1 (tw @b6 (tw @CR (tw @CT (tw @hj (tw @oE (tw @ml (tw @e9 (tw @bp.eq_1 @aa.eq_1)))))))))))) ?_;(repeat(refine Pn.mk ?_;intro N hN)))|((try apply Or.inl);refine⟨_,ar.x (qp) (sd (tw @b52 (tw @bg0 (tw @bg1 (tw @b1 (tw @b6 (tw @CR (tw @CT (tw @hj (tw @oE (tw @ml (tw @e9 (tw @bp.eq_1 @aa.eq_1))))))))))))),?_⟩;refine hN _ _ ?_;clear hN N)))
      exact aQ (b:=false) (.inl rfl) (sd @Nat.zero_add) (fy (la fun h=>by
       rw[Au,htd]at h
       obtain⟨i,hi,he⟩:=List.mem_map.1 fI
       exact h.2.2.1 i (List.mem_range.1 hi) he))
   ·(try((repeat(revert hN;revert N;apply Pn.out));refine wk (tw @b52 (tw @bg0 (tw @bg1 (tw @b1 (tw @b6 (tw @CR (tw @CT (tw @hj @aa.eq_1)))))))) ?_;(repeat(refine Pn.mk ?_;intro N hN))))
    exact aQ (b:=true) (.inl rfl) (sd @Nat.zero_add) (Ce ⟨by omega,by omega,by omega,fun i hi=>mv i (by omega),fun i hi=>bA0 i (by omega)⟩)
 ·rw[Bool.not_eq_true]at h2
  rw[h2]at hw
  (repeat(first|((repeat(revert hN;revert N;apply Pn.out));refine wk (tw @aa.eq_1 @h1) ?_;(repeat(refine Pn.mk ?_;intro N hN)))|((try apply Or.inl);refine⟨_,ar.x (hw) (sd (tw @aa.eq_1 @h1)),?_⟩;refine hN _ _ ?_;clear hN N)))
  exact aQ (b:=false) (.inl rfl) (sd @Nat.zero_add) (fy fun h=>by
   have h3:=h.some
   have h4:=h.yD
   rw[jE ⟨by omega,by omega⟩]at h2;cases h2)
end Go.Proofs.YtgoelphibofcmaaGreat.V

namespace Go.Proofs.YtgoelphibofcmaaGreat.V
open Go.RowKit
attribute [local irreducible] eb wpOps gj Call
attribute [local go_sem] aJ fM eP fZ fY cL upd cu K.av cN AV.cells AV.cell rowOf rowsOf part ld rowAt bI bW dD ee gT bL dc ev fU eY dr ej da cZ dO dR bR aX cR bQ cV cU eh ek ei cQ bV db ef bP aP cX cE gS bw cJ bU aW dx bj dE AV.undef bD bF dV ec dI dS cF eu eB cD ep eo cW cY List.getD_cons_zero List.getD_cons_succ List.getD_nil List.all_cons List.all_nil Bool.and_true Bool.true_and Bool.and_self Bool.not_true Bool.not_false Option.map_some Option.map_none Option.bind_some Option.bind_none List.length_cons List.length_nil List.take_succ_cons List.take_zero List.take_nil List.drop_succ_cons List.drop_zero List.drop_nil List.head?_cons List.map_cons List.map_nil List.getElem?_cons_zero List.getElem?_cons_succ List.cons_append List.nil_append List.append_nil List.length_map List.set_cons_zero List.set_cons_succ Nat.reduceMul eq_self Int.toNat_natCast Int.natCast_nonneg and_self true_and and_true decide_true decide_false Bool.false_eq_true Nat.zero_add Nat.add_zero List.contains_cons List.contains_nil Bool.or_false Bool.false_or beq_self_eq_true Nat.reduceBEq ne_eq not_true_eq_false not_false_eq_true Id.mk.injEq false_and and_false Nat.reduceLT Int.reduceLE Int.reduceLT Int.reduceToNat Int.reduceNeg Int.reduceAdd Nat.le_refl List.length_append beq_true beq_false Bool.not_eq_eq_eq_not or_false false_or dM aj aq aH bd bz ck aU bf aT aZ cP bH
theorem ug {α:Type} {p:α->Bool} {xs:List α} {k:Nat} (hk:k<xs.length) (h1:p xs[k]=true) (h2:∀j (h:j<xs.length),j<k->p xs[j]=false):j5 p xs=k:=by
 have:xs.findIdx p=k:=by rw[List.findIdx_eq hk];exact⟨h1,fun j hj=>h2 j (by omega) hj⟩
 rw[j5,this,if_pos hk]
theorem xJ {α:Type} {p:α->Bool} {xs:List α} (h:∀j (h:j<xs.length),p xs[j]=false):j5 p xs= -1:=by
 rw[j5,if_neg]
 rw[List.findIdx_lt_length]
 rintro⟨x,hx,Oo⟩
 obtain⟨j,hj,rfl⟩:=List.getElem_of_mem hx
 rw[h j hj]at Oo;cases Oo
theorem y7 {s:aw} {i:Nat} (h:i<s.ax.length):pC s i=s.ax[i]:=by simp[pC,List.getD_eq_getElem?_getD,h]
theorem zV {s:aw} {i:Nat} (h:i<s.ah.length):oR s i=s.ah[i]:=by simp[oR,List.getD_eq_getElem?_getD,h]
def Ke (s:aw) (n:ByteArray):Int:=j5 (fun g:fw=>decide (g.aE=n)) s.ax
def M6 (s:aw) (n:ByteArray):Int:=j5 (fun t:eT=>decide (t.aE=n)) s.ah
theorem Gv (s:aw) (nm:ByteArray):ar Tryz.prog 190 [.dj (aa s),.str nm] (.int .i64 (Ke s nm+1)):=by
 refine ar.body eJ rfl fun hl n0=>?_
 have hlen:s.ax.length<=9223372036854775807:=by
  have h1:=(hl (.dj (aa s)) (by simp)).BA (a:=.sl (s.ax.map bG)) (by simp[aa])
  simpa using h1.len
 clear hl
 (try((repeat(revert hN;revert N;apply Pn.out));refine wk @aa.eq_1 ?_;(repeat(refine Pn.mk ?_;intro N hN))))
 refine aO (fun n env st=>∃k:Nat,n=(s.ax.length)-k/\k<=(s.ax.length)/\env 5=.int .i64 (k:Int)/\(∀j:Nat,j<k->∀h:j<s.ax.length,decide (s.ax[j].aE=nm)=false)) (s.ax.length) ⟨0,by omega,by omega,sl @aa.eq_1,fun _ h=>absurd h (Nat.not_lt_zero _)⟩ ?_
 rintro n_a env_a st_a ⟨k,rfl,ale,a5,mv⟩ dv
 have a0:=dv 0 (by kernel_rfl);have a1:=dv 1 (by kernel_rfl)
 simp only[go_sem, ↓reduceIte,Nat.reduceEqDiff,Nat.reduceAdd,Nat.reduceSub,Nat.reduceLeDiff,reduceCtorEq,aa]at a0 a1
 clear dv
 by_cases hk:(k:Int)<(s.ax.length:Int)
 ·have cz:∀{e:Env},(e 5=.int .i64 (IntKind.i64.wrap ((k:Int)+1)))->(∀h:k<s.ax.length,decide (s.ax[k].aE=nm)=false)->∃m0,m0<(s.ax.length)-k/\∃k:Nat,m0=(s.ax.length)-k/\k<=(s.ax.length)/\e 5=.int .i64 (k:Int)/\(∀j:Nat,j<k->∀h:j<s.ax.length,decide (s.ax[j].aE=nm)=false):=fun x1 x2=>⟨_,by omega,k+1,rfl,by omega,(by rw[x1,az (by omega)]),(all_succ mv x2)⟩
  have fa:k<s.ax.length:=by omega
  have eR:=y8 fa
  have e:=y7 fa
  cases hd:decide ((pC s k).aE=nm)
  ·have Sk:=of_decide_eq_false hd
   (try((repeat(revert hN;revert N;apply Pn.out));refine wk (tw @a5 (tw @a0 (tw @a1 (tw @hk (tw @eR (tw @Sk (tw @hd (tw @bG.eq_1 @aa.eq_1)))))))) ?_;(repeat(refine Pn.mk ?_;intro N hN))))
   exact cz (sd (tw @a5 (tw @a0 @a1))) (fun _=>by rw[e]at hd;exact hd)
  ·have Sk:=of_decide_eq_true hd
   have hw:IntKind.i64.wrap ((k:Int)+1)=(k:Int)+1:=bh (by omega)
   (try((repeat(revert hN;revert N;apply Pn.out));refine wk (tw @a5 (tw @a0 (tw @a1 (tw @hk (tw @eR (tw @hd (tw @hw (tw @bG.eq_1 @aa.eq_1)))))))) ?_;(repeat(refine Pn.mk ?_;intro N hN))))
   exact cC (b:=(k:Int)+1) (.inl rfl) (sd @Nat.zero_add) (by rw[Ke,ug fa (by rw[e]at hd;exact hd) fun j h hj=>mv j hj h])
 ·(try((repeat(revert hN;revert N;apply Pn.out));refine wk (tw @a5 (tw @a0 (tw @a1 (tw @hk @aa.eq_1)))) ?_;(repeat(refine Pn.mk ?_;intro N hN))))
  exact cC (b:=0) (.inl rfl) (sd @Nat.zero_add) (by rw[Ke,xJ fun j h=>mv j (by omega) h];rfl)
theorem Gw (s:aw) (nm:ByteArray):ar Tryz.prog 191 [.dj (aa s),.str nm] (.int .i64 (M6 s nm)):=by
 refine ar.body eJ rfl fun hl n0=>?_
 have hlen:s.ah.length<=9223372036854775807:=by
  have h1:=(hl (.dj (aa s)) (by simp)).BA (a:=.sl (s.ah.map bp)) (by simp[aa])
  simpa using h1.len
 clear hl
 (try((repeat(revert hN;revert N;apply Pn.out));refine wk @aa.eq_1 ?_;(repeat(refine Pn.mk ?_;intro N hN))))
 refine aO (fun n env st=>∃k:Nat,n=(s.ah.length)-k/\k<=(s.ah.length)/\env 5=.int .i64 (k:Int)/\(∀j:Nat,j<k->∀h:j<s.ah.length,decide (s.ah[j].aE=nm)=false)) (s.ah.length) ⟨0,by omega,by omega,sl @aa.eq_1,fun _ h=>absurd h (Nat.not_lt_zero _)⟩ ?_
 rintro n_a env_a st_a ⟨k,rfl,ale,a5,mv⟩ dv
 have a0:=dv 0 (by kernel_rfl);have a1:=dv 1 (by kernel_rfl)
 simp only[go_sem, ↓reduceIte,Nat.reduceEqDiff,Nat.reduceAdd,Nat.reduceSub,Nat.reduceLeDiff,reduceCtorEq,aa]at a0 a1
 clear dv
 by_cases hk:(k:Int)<(s.ah.length:Int)
 ·have cz:∀{e:Env},(e 5=.int .i64 (IntKind.i64.wrap ((k:Int)+1)))->(∀h:k<s.ah.length,decide (s.ah[k].aE=nm)=false)->∃m0,m0<(s.ah.length)-k/\∃k:Nat,m0=(s.ah.length)-k/\k<=(s.ah.length)/\e 5=.int .i64 (k:Int)/\(∀j:Nat,j<k->∀h:j<s.ah.length,decide (s.ah[j].aE=nm)=false):=fun x1 x2=>⟨_,by omega,k+1,rfl,by omega,(by rw[x1,az (by omega)]),(all_succ mv x2)⟩
  have fa:k<s.ah.length:=by omega
  have eR:=zW fa
  have e:=zV fa
  cases hd:decide ((oR s k).aE=nm)
  ·(try((repeat(revert hN;revert N;apply Pn.out));refine wk (tw @a5 (tw @a0 (tw @a1 (tw @hk (tw @eR (tw @hd (tw @bp.eq_1 @aa.eq_1))))))) ?_;(repeat(refine Pn.mk ?_;intro N hN))))
   exact cz (sd (tw @a5 (tw @a0 @a1))) (fun _=>by rw[e]at hd;exact hd)
  ·(try((repeat(revert hN;revert N;apply Pn.out));refine wk (tw @a5 (tw @a0 (tw @a1 (tw @hk (tw @eR (tw @hd (tw @bp.eq_1 @aa.eq_1))))))) ?_;(repeat(refine Pn.mk ?_;intro N hN))))
   exact cC (b:=(k:Int)) (.inl rfl) (sd @Nat.zero_add) (by rw[M6,ug fa (by rw[e]at hd;exact hd) fun j h hj=>mv j hj h])
 ·(try((repeat(revert hN;revert N;apply Pn.out));refine wk (tw @a5 (tw @a0 (tw @a1 (tw @hk @aa.eq_1)))) ?_;(repeat(refine Pn.mk ?_;intro N hN))))
  exact cC (b:=-1) (.inl rfl) (sd @Nat.zero_add) (by rw[M6,xJ fun j h=>mv j (by omega) h])
theorem NJ {s:aw} {i:Nat} (h:i<s.ax.length):Ke s (pC s i).aE=i↔∀j,j<i->(pC s j).aE≠(pC s i).aE:=by
 constructor
 ·intro he j hj hc
  have gG:j<s.ax.length:=by omega
  have:s.ax.findIdx (fun g:fw=>decide (g.aE=(pC s i).aE))<=j:=by
   rcases Nat.lt_or_ge j (s.ax.findIdx fun g:fw=>decide (g.aE=(pC s i).aE))with dP|qo
   ·have:=List.not_of_lt_findIdx dP
    rw[<-y7 gG]at this
    simp[hc]at this
   ·exact qo
  unfold Ke j5 at he
  split at he<;>omega
 ·intro hd
  exact ug h (by rw[<-y7 h];simp) fun j gG hj=>by rw[<-y7 gG];simpa using hd j hj
theorem OX {s:aw} {i:Nat} (h:i<s.ah.length):M6 s (oR s i).aE=i↔∀j,j<i->(oR s j).aE≠(oR s i).aE:=by
 constructor
 ·intro he j hj hc
  have gG:j<s.ah.length:=by omega
  have:s.ah.findIdx (fun g:eT=>decide (g.aE=(oR s i).aE))<=j:=by
   rcases Nat.lt_or_ge j (s.ah.findIdx fun g:eT=>decide (g.aE=(oR s i).aE))with dP|qo
   ·have:=List.not_of_lt_findIdx dP
    rw[<-zV gG]at this
    simp[hc]at this
   ·exact qo
  unfold M6 j5 at he
  split at he<;>omega
 ·intro hd
  exact ug h (by rw[<-zV h];simp) fun j gG hj=>by rw[<-zV gG];simpa using hd j hj
theorem Lz (s:aw) (hn:gD s) (hg:s.ax.length<=1048576) (ht:s.ah.length<=1048576):ar Tryz.prog 156 [.dj (aa s)] (.bool (qJ s)):=by
 refine ar.body eJ rfl fun hl n0=>?_
 clear hl
 have QO:∀i,i<s.ax.length->(pC s i).aE.size<=9223372036854775807:=fun i hi=>hn.1 _ (by simp[pC,List.getD_eq_getElem?_getD,hi])
 have Q7:∀i,i<s.ah.length->(oR s i).aE.size<=9223372036854775807:=fun i hi=>hn.2 _ (by simp[oR,List.getD_eq_getElem?_getD,hi])
 by_cases h1:(200:Int)<(s.ax.length:Int)
 ·(try((repeat(revert hN;revert N;apply Pn.out));refine wk (tw @aa.eq_1 @h1) ?_;(repeat(refine Pn.mk ?_;intro N hN))))
  exact aQ (b:=false) (.inl rfl) (sd @Nat.zero_add) (fy fun h=>by have:=h.tn;omega)
 by_cases h2:(s.ah.length:Int)<1
 ·(try((repeat(revert hN;revert N;apply Pn.out));refine wk (tw @aa.eq_1 (tw @h1 @h2)) ?_;(repeat(refine Pn.mk ?_;intro N hN))))
  exact aQ (b:=false) (.inl rfl) (sd @Nat.zero_add) (fy fun h=>by have:=h.some;omega)
 by_cases h3:(160:Int)<(s.ah.length:Int)
 ·(try((repeat(revert hN;revert N;apply Pn.out));refine wk (tw @aa.eq_1 (tw @h1 (tw @h2 @h3))) ?_;(repeat(refine Pn.mk ?_;intro N hN))))
  exact aQ (b:=false) (.inl rfl) (sd @Nat.zero_add) (fy fun h=>by have:=h.yD;omega)
 (try((repeat(revert hN;revert N;apply Pn.out));refine wk (tw @aa.eq_1 (tw @h1 (tw @h2 @h3))) ?_;(repeat(refine Pn.mk ?_;intro N hN))))
 refine aO (fun n env st=>∃k:Nat,n=(s.ax.length)-k/\k<=(s.ax.length)/\env 3=.int .i64 (k:Int)/\(∀j:Nat,j<k->CH s j)) (s.ax.length) ⟨0,by omega,by omega,sl @aa.eq_1,fun _ h=>absurd h (Nat.not_lt_zero _)⟩ ?_
 rintro n_a env_a st_a ⟨k,rfl,ale,a3,mv⟩ dv
 have a0:=dv 0 (by kernel_rfl)
 simp only[go_sem, ↓reduceIte,Nat.reduceEqDiff,Nat.reduceAdd,Nat.reduceSub,Nat.reduceLeDiff,reduceCtorEq,aa]at a0
 clear dv
 by_cases hk:(k:Int)<(s.ax.length:Int)
 ·have cz:∀{e:Env},(e 3=.int .i64 (IntKind.i64.wrap ((k:Int)+1)))->(CH s k)->∃m0,m0<(s.ax.length)-k/\∃k:Nat,m0=(s.ax.length)-k/\k<=(s.ax.length)/\e 3=.int .i64 (k:Int)/\(∀j:Nat,j<k->CH s j):=fun x1 x2=>⟨_,by omega,k+1,rfl,by omega,(by rw[x1,az (by omega)]),(all_succ mv x2)⟩
  have fa:k<s.ax.length:=by omega
  have eR:=y8 fa
  have qp:=Ft (pC s k).aE (QO k fa)
  have Kp:=lx (pC s k).ez 1 4
  have Cz:=Gv s (pC s k).aE
  have rC:=NJ fa
  have la:(¬CH s k)->¬iA s:=fun h hp=>h (hp.R0 k fa)
  have hw:IntKind.i64.wrap ((k:Int)+1)=(k:Int)+1:=bh (by omega)
  generalize se:pC s k=gl at *
  cases hb:jB gl.aE
  ·rw[hb]at qp
   (repeat(first|((repeat(revert hN;revert N;apply Pn.out));refine wk (tw @a3 (tw @a0 (tw @hk (tw @eR (tw @bG.eq_1 @aa.eq_1))))) ?_;(repeat(refine Pn.mk ?_;intro N hN)))|((try apply Or.inl);refine⟨_,ar.x (qp) (sd (tw @a3 (tw @a0 (tw @hk (tw @eR (tw @bG.eq_1 @aa.eq_1)))))),?_⟩;refine hN _ _ ?_;clear hN N)))
   exact aQ (b:=false) (.inl rfl) (sd @Nat.zero_add) (fy (la fun h=>by rw[CH,se,hb]at h;cases h.1))
  rw[hb]at qp
  cases dH:iJ gl.ez 1 4
  ·rw[dH]at Kp
   (repeat(first|((repeat(revert hN;revert N;apply Pn.out));refine wk (tw @a3 (tw @a0 (tw @hk (tw @eR (tw @bG.eq_1 @aa.eq_1))))) ?_;(repeat(refine Pn.mk ?_;intro N hN)))|((try apply Or.inl);refine⟨_,ar.x (qp) (sd (tw @a3 (tw @a0 (tw @hk (tw @eR (tw @bG.eq_1 @aa.eq_1)))))),?_⟩;refine hN _ _ ?_;clear hN N)|((try apply Or.inl);refine⟨_,ar.x (Kp) (sd (tw @a3 (tw @a0 (tw @hk (tw @eR (tw @bG.eq_1 @aa.eq_1)))))),?_⟩;refine hN _ _ ?_;clear hN N)))
   exact aQ (b:=false) (.inl rfl) (sd @Nat.zero_add) (fy (la fun h=>by rw[CH,se,dH]at h;cases h.2.1))
  rw[dH]at Kp
  rw[aa]at Cz
  by_cases hq:Ke s gl.aE=(k:Int)
  ·have hd:decide (Ke s gl.aE+1=(k:Int)+1)=true:=decide_eq_true (by omega)
   have tU:decide (Ke s gl.aE=(k:Int))=true:=decide_eq_true hq
   (repeat(first|((repeat(revert hN;revert N;apply Pn.out));refine wk (tw @a3 (tw @a0 (tw @hk (tw @eR (tw @hw (tw @hd (tw @tU (tw @bG.eq_1 @aa.eq_1)))))))) ?_;(repeat(refine Pn.mk ?_;intro N hN)))|((try apply Or.inl);refine⟨_,ar.x (qp) (sd (tw @a3 (tw @a0 (tw @hk (tw @eR (tw @hw (tw @hd (tw @tU (tw @bG.eq_1 @aa.eq_1))))))))),?_⟩;refine hN _ _ ?_;clear hN N)|((try apply Or.inl);refine⟨_,ar.x (Kp) (sd (tw @a3 (tw @a0 (tw @hk (tw @eR (tw @hw (tw @hd (tw @tU (tw @bG.eq_1 @aa.eq_1))))))))),?_⟩;refine hN _ _ ?_;clear hN N)|((try apply Or.inl);refine⟨_,ar.x (Cz) (sd (tw @a3 (tw @a0 (tw @hk (tw @eR (tw @hw (tw @hd (tw @tU (tw @bG.eq_1 @aa.eq_1))))))))),?_⟩;refine hN _ _ ?_;clear hN N)))
   exact cz (sd (tw @a3 (tw @a0 @hw))) (⟨by rw[se];exact hb,by rw[se];exact dH,fun j hj=>by rw[se];exact rC.1 hq j hj⟩)
  ·have hd:decide (Ke s gl.aE+1=(k:Int)+1)=false:=decide_eq_false (by omega)
   have tU:decide (Ke s gl.aE=(k:Int))=false:=decide_eq_false hq
   (repeat(first|((repeat(revert hN;revert N;apply Pn.out));refine wk (tw @a3 (tw @a0 (tw @hk (tw @eR (tw @hw (tw @hd (tw @tU (tw @bG.eq_1 @aa.eq_1)))))))) ?_;(repeat(refine Pn.mk ?_;intro N hN)))|((try apply Or.inl);refine⟨_,ar.x (qp) (sd (tw @a3 (tw @a0 (tw @hk (tw @eR (tw @hw (tw @hd (tw @tU (tw @bG.eq_1 @aa.eq_1))))))))),?_⟩;refine hN _ _ ?_;clear hN N)|((try apply Or.inl);refine⟨_,ar.x (Kp) (sd (tw @a3 (tw @a0 (tw @hk (tw @eR (tw @hw (tw @hd (tw @tU (tw @bG.eq_1 @aa.eq_1))))))))),?_⟩;refine hN _ _ ?_;clear hN N)|((try apply Or.inl);refine⟨_,ar.x (Cz) (sd (tw @a3 (tw @a0 (tw @hk (tw @eR (tw @hw (tw @hd (tw @tU (tw @bG.eq_1 @aa.eq_1))))))))),?_⟩;refine hN _ _ ?_;clear hN N)))
   exact aQ (b:=false) (.inl rfl) (sd @Nat.zero_add) (fy (la fun h=>by
    rw[CH,se]at h
    exact hq (rC.2 h.2.2)))
 ·have k8:k=s.ax.length:=by omega
  (try((repeat(revert hN;revert N;apply Pn.out));refine wk (tw @a3 (tw @a0 (tw @hk @aa.eq_1))) ?_;(repeat(refine Pn.mk ?_;intro N hN))))
  refine aO (fun n env st=>∃j:Nat,n=(s.ah.length)-j/\j<=(s.ah.length)/\env 5=.int .i64 (j:Int)/\(∀i:Nat,i<j->Au s i)) (s.ah.length) ⟨0,by omega,by omega,sl (tw @a3 (tw @a0 @aa.eq_1)),fun _ h=>absurd h (Nat.not_lt_zero _)⟩ ?_
  rintro n_b env_b st_b ⟨j,rfl,ble,b5,bA0⟩ eV
  have b0:=eV 0 (by kernel_rfl)
  simp only[go_sem, ↓reduceIte,Nat.reduceEqDiff,Nat.reduceAdd,Nat.reduceSub,Nat.reduceLeDiff,reduceCtorEq,a3,a0,aa]at b0
  clear eV
  by_cases hj:(j:Int)<(s.ah.length:Int)
  ·have fh:∀{e:Env},(e 5=.int .i64 (IntKind.i64.wrap ((j:Int)+1)))->(Au s j)->∃m0,m0<(s.ah.length)-j/\∃j:Nat,m0=(s.ah.length)-j/\j<=(s.ah.length)/\e 5=.int .i64 (j:Int)/\(∀i:Nat,i<j->Au s i):=fun x1 x2=>⟨_,by omega,j+1,rfl,by omega,(by rw[x1,az (by omega)]),(all_succ bA0 x2)⟩
   have ia:j<s.ah.length:=by omega
   have oE:=zW ia
   have qp:=Ft (oR s j).aE (Q7 j ia)
   have Cz:=Gw s (oR s j).aE
   have rC:=OX ia
   have la:(¬Au s j)->¬iA s:=fun h hp=>h (hp.tok j ia)
   generalize htd:oR s j=tl at *
   cases hb:jB tl.aE
   ·rw[hb]at qp
    (repeat(first|((repeat(revert hN;revert N;apply Pn.out));refine wk (tw @b5 (tw @b0 (tw @hj (tw @oE (tw @bp.eq_1 @aa.eq_1))))) ?_;(repeat(refine Pn.mk ?_;intro N hN)))|((try apply Or.inl);refine⟨_,ar.x (qp) (sd (tw @b5 (tw @b0 (tw @hj (tw @oE (tw @bp.eq_1 @aa.eq_1)))))),?_⟩;refine hN _ _ ?_;clear hN N)))
    exact aQ (b:=false) (.inl rfl) (sd @Nat.zero_add) (fy (la fun h=>by rw[Au,htd,hb]at h;cases h.1))
   rw[hb]at qp
   by_cases h4:(tl.br.length:Int)=4
   ·have za:decide ((tl.br.length:Int)=4)=true:=decide_eq_true h4
    rw[aa]at Cz
    by_cases hq:M6 s tl.aE=(j:Int)
    ·have hd:decide (M6 s tl.aE=(j:Int))=true:=decide_eq_true hq
     (repeat(first|((repeat(revert hN;revert N;apply Pn.out));refine wk (tw @b5 (tw @b0 (tw @hj (tw @oE (tw @za (tw @hd (tw @bp.eq_1 @aa.eq_1))))))) ?_;(repeat(refine Pn.mk ?_;intro N hN)))|((try apply Or.inl);refine⟨_,ar.x (qp) (sd (tw @b5 (tw @b0 (tw @hj (tw @oE (tw @za (tw @hd (tw @bp.eq_1 @aa.eq_1)))))))),?_⟩;refine hN _ _ ?_;clear hN N)|((try apply Or.inl);refine⟨_,ar.x (Cz) (sd (tw @b5 (tw @b0 (tw @hj (tw @oE (tw @za (tw @hd (tw @bp.eq_1 @aa.eq_1)))))))),?_⟩;refine hN _ _ ?_;clear hN N)))
     refine aO (fun n env st=>∃i:Nat,n=(4)-i/\i<=(4)/\env 7=.int .i64 (i:Int)/\st.get ⟨156012007,st_b.next+1⟩=some ⟨true,2,[bp tl]⟩/\(∀x:Nat,x<i->iJ (tl.br.getD x 0) 0 s.ax.length=true)) (4) ⟨0,by omega,by omega,sl (tw @b5 (tw @b0 (tw @bp.eq_1 @aa.eq_1))),sl (tw @b5 (tw @b0 (tw @bp.eq_1 @aa.eq_1))),fun _ h=>absurd h (Nat.not_lt_zero _)⟩ ?_
     rintro n_c env_c st_c ⟨i,rfl,cle,c7,cg0,cA0⟩ iG
     have c0:=iG 0 (by kernel_rfl);have c5:=iG 5 (by kernel_rfl);have c6:=iG 6 (by kernel_rfl)
     simp only[go_sem, ↓reduceIte,Nat.reduceEqDiff,Nat.reduceAdd,Nat.reduceSub,Nat.reduceLeDiff,reduceCtorEq,b5,b0,bp,aa]at c0 c5 c6
     clear iG
     by_cases hi:(i:Int)<4
     ·have gx:∀{e:Env} {gg:Rows},(e 7=.int .i64 (IntKind.i64.wrap ((i:Int)+1)))->(gg ⟨156012007,st_b.next+1⟩=some ⟨true,2,[bp tl]⟩)->(iJ (tl.br.getD i 0) 0 s.ax.length=true)->∃m0,m0<(4)-i/\∃i:Nat,m0=(4)-i/\i<=(4)/\e 7=.int .i64 (i:Int)/\gg ⟨156012007,st_b.next+1⟩=some ⟨true,2,[bp tl]⟩/\(∀x:Nat,x<i->iJ (tl.br.getD x 0) 0 s.ax.length=true):=fun x1 x2 x3=>⟨_,by omega,i+1,rfl,by omega,(by rw[x1,az (by omega)]),x2,(all_succ cA0 x3)⟩
      have fI:i<tl.br.length:=by omega
      have kh:(tl.br.map aG)[i]? =some (aG (tl.br.getD i 0)):=getD_map aG fI
      have pH:tl.br.getD i 0∈tl.br:=by rw[List.getD_eq_getElem?_getD,List.getElem?_eq_getElem fI];exact List.getElem_mem fI
      have II:=lx (tl.br.getD i 0) 0 s.ax.length
      generalize N5:tl.br.getD i 0=gv at *
      cases hv:iJ gv 0 s.ax.length
      ·rw[hv]at II
       (repeat(first|((repeat(revert hN;revert N;apply Pn.out));refine wk (tw @c7 (tw @cg0 (tw @c0 (tw @c5 (tw @c6 (tw @hi (tw @kh (tw @aG.eq_1 (tw @bp.eq_1 @aa.eq_1))))))))) ?_;(repeat(refine Pn.mk ?_;intro N hN)))|((try apply Or.inl);refine⟨_,ar.x (II) (sd (tw @c7 (tw @cg0 (tw @c0 (tw @c5 (tw @c6 (tw @hi (tw @kh (tw @aG.eq_1 (tw @bp.eq_1 @aa.eq_1)))))))))),?_⟩;refine hN _ _ ?_;clear hN N)))
       exact aQ (b:=false) (.inl rfl) (sd @Nat.zero_add) (fy (la fun h=>by
        rw[Au,htd]at h
        have:=h.2.2.2 gv pH
        rw[hv]at this;cases this))
      ·rw[hv]at II
       (repeat(first|((repeat(revert hN;revert N;apply Pn.out));refine wk (tw @c7 (tw @cg0 (tw @c0 (tw @c5 (tw @c6 (tw @hi (tw @kh (tw @aG.eq_1 (tw @bp.eq_1 @aa.eq_1))))))))) ?_;(repeat(refine Pn.mk ?_;intro N hN)))|((try apply Or.inl);refine⟨_,ar.x (II) (sd (tw @c7 (tw @cg0 (tw @c0 (tw @c5 (tw @c6 (tw @hi (tw @kh (tw @aG.eq_1 (tw @bp.eq_1 @aa.eq_1)))))))))),?_⟩;refine hN _ _ ?_;clear hN N)))
       refine gx ?_ ?_ (hv)
       all_goals simp only[go_sem, ↓reduceIte,Nat.reduceEqDiff,Nat.reduceAdd,Nat.reduceSub,Nat.reduceLeDiff,reduceCtorEq,c7,cg0,c0,c5,c6]
     ·have hi4:i=4:=by omega
      (try((repeat(revert hN;revert N;apply Pn.out));refine wk (tw @c7 (tw @cg0 (tw @c0 (tw @c5 (tw @c6 (tw @hi (tw @bp.eq_1 @aa.eq_1))))))) ?_;(repeat(refine Pn.mk ?_;intro N hN))))
      exact fh (sd (tw @b5 (tw @b0 (tw @c7 (tw @cg0 (tw @c0 (tw @c5 @c6))))))) (⟨by rw[htd];exact hb,by rw[htd];omega,fun x hx=>(by rw[htd];exact rC.1 hq x hx),fun g hg=>by
       rw[htd]at hg
       obtain⟨x,hx,rfl⟩:=List.getElem_of_mem hg
       have:=cA0 x (by omega)
       rwa [List.getD_eq_getElem?_getD,List.getElem?_eq_getElem hx]at this⟩)
    ·have hd:decide (M6 s tl.aE=(j:Int))=false:=decide_eq_false hq
     (repeat(first|((repeat(revert hN;revert N;apply Pn.out));refine wk (tw @b5 (tw @b0 (tw @hj (tw @oE (tw @za (tw @hd (tw @bp.eq_1 @aa.eq_1))))))) ?_;(repeat(refine Pn.mk ?_;intro N hN)))|((try apply Or.inl);refine⟨_,ar.x (qp) (sd (tw @b5 (tw @b0 (tw @hj (tw @oE (tw @za (tw @hd (tw @bp.eq_1 @aa.eq_1)))))))),?_⟩;refine hN _ _ ?_;clear hN N)|((try apply Or.inl);refine⟨_,ar.x (Cz) (sd (tw @b5 (tw @b0 (tw @hj (tw @oE (tw @za (tw @hd (tw @bp.eq_1 @aa.eq_1)))))))),?_⟩;refine hN _ _ ?_;clear hN N)))
     exact aQ (b:=false) (.inl rfl) (sd @Nat.zero_add) (fy (la fun h=>by
      rw[Au,htd]at h
      exact hq (rC.2 h.2.2.1)))
   ·have za:decide ((tl.br.length:Int)=4)=false:=decide_eq_false h4
    (repeat(first|((repeat(revert hN;revert N;apply Pn.out));refine wk (tw @b5 (tw @b0 (tw @hj (tw @oE (tw @za (tw @bp.eq_1 @aa.eq_1)))))) ?_;(repeat(refine Pn.mk ?_;intro N hN)))|((try apply Or.inl);refine⟨_,ar.x (qp) (sd (tw @b5 (tw @b0 (tw @hj (tw @oE (tw @za (tw @bp.eq_1 @aa.eq_1))))))),?_⟩;refine hN _ _ ?_;clear hN N)))
    exact aQ (b:=false) (.inl rfl) (sd @Nat.zero_add) (fy (la fun h=>by rw[Au,htd]at h;have:=h.2.1;omega))
  ·(try((repeat(revert hN;revert N;apply Pn.out));refine wk (tw @b5 (tw @b0 (tw @hj @aa.eq_1))) ?_;(repeat(refine Pn.mk ?_;intro N hN))))
   exact aQ (b:=true) (.inl rfl) (sd @Nat.zero_add) (Ce ⟨by omega,by omega,by omega,fun i hi=>mv i (by omega),fun i hi=>bA0 i (by omega)⟩)
end Go.Proofs.YtgoelphibofcmaaGreat.V

namespace Go.Proofs.YtgoelphibofcmaaGreat.V
def km (a b:ai):Bool:=decide (a.eI<b.eI)||(decide (a.eI=b.eI)&&decide (a.eM<b.eM))
theorem uq {a b:ai}:km a b=true↔a.eI<b.eI∨(a.eI=b.eI/\a.eM<b.eM):=by simp[km]
theorem o8 {a b:ai}:km a b=false↔¬(a.eI<b.eI∨(a.eI=b.eI/\a.eM<b.eM)):=by rw[<-uq,Bool.not_eq_true]
theorem vW {a b:ai} (h1:a.eM=b.eM) (h2:a.eI=b.eI):a=b:=by cases a;cases b;simp_all
theorem ij {a b c:ai} (h:km a b=true) (k:km b c=true):km a c=true:=by rw[uq]at *;omega
theorem mO {a:ai}:km a a=false:=by rw[o8];omega
theorem Jb {a b:ai} (h:km a b=true):km b a=false:=by rw[uq]at h;rw[o8];omega
theorem zx {a b:ai} (h:km a b=false) (gU:a≠b):km b a=true:=by
 rw[o8]at h;rw[uq]
 by_cases hy:a.eI=b.eI
 ·by_cases hx:a.eM=b.eM
  ·exact absurd (vW hx hy) gU
  ·omega
 ·omega
def rh (a b:Int):Int:=if a<b then -1 else if b<a then 1 else 0
def LR (a b:Int):Int:=if a=0 then b else a
def pw (a b:ai):Int:=LR (rh a.eI b.eI) (rh a.eM b.eM)
theorem mE (a b:ai):decide (pw a b<0)=km a b:=by
 unfold pw LR rh km
 by_cases h1:a.eI<b.eI
 ·simp[h1]
 ·by_cases h2:b.eI<a.eI
  ·have:¬a.eI=b.eI:=by omega
   simp[h1,h2,this]
  ·have:a.eI=b.eI:=by omega
   by_cases h3:a.eM<b.eM
   ·simp[h1,h2,this,h3]
   ·by_cases h4:b.eM<a.eM<;>simp[h1,h2,this,h3,h4]
theorem FP (a b:ai):(pw a b=0)↔a=b:=by
 cases a;cases b
 unfold pw LR rh
 simp only[ai.mk.injEq]
 split<;>(try split)<;>(try split)<;>(try split)<;>omega
def Jh:ae:=⟨⟨0,0⟩,0⟩
def aV (l:List ae) (i:Nat):ae:=l.getD i Jh
theorem gR {l:List ae} {i:Nat} (h:i<l.length):aV l i=l[i]:=by simp[aV,List.getD_eq_getElem?_getD,h]
theorem kP {l:List ae} {i:Nat} (h:i<l.length):aV l i∈l:=by rw[gR h];exact List.getElem_mem h
def sn (l:List ae):Prop:=∀i j:Nat,i<j->j<l.length->km (aV l i).bx (aV l j).bx=true
def qv (l:List ae) (p:ai):Nat:=l.findIdx fun c=>decide (c.bx=p)
def eK (l:List ae) (p:ai):Int:=if qv l p<l.length then(qv l p:Int)else -1
def rK (l:List ae) (p:ai):Nat:=l.findIdx fun c=> !km c.bx p
theorem zt {l:List ae} {p:ai} {i:Nat} (hi:i<=l.length) (h1:∀x,x<i->km (aV l x).bx p=true) (h2:i<l.length->km (aV l i).bx p=false):rK l p=i:=by
 unfold rK
 by_cases h:i<l.length
 ·rw[List.findIdx_eq h]
  refine⟨by have:=h2 h;rw[gR h]at this;simp[this],fun j hj=>?_⟩
  have:=h1 j hj
  rw[gR (by omega)]at this
  simp[this]
 ·have:i=l.length:=by omega
  subst this
  refine List.findIdx_eq_length_of_false fun x hx=>?_
  obtain⟨j,hj,rfl⟩:=List.getElem_of_mem hx
  have:=h1 j hj
  rw[gR hj]at this
  simp[this]
theorem Fi {l:List ae} {p:ai} (hR:sn l):eK l p=if rK l p<l.length/\(aV l (rK l p)).bx=p then(rK l p:Int)else -1:=by
 by_cases h:∃i,i<l.length/\(aV l i).bx=p
 ·obtain⟨i,hi,hp⟩:=h
  have h1:rK l p=i:=zt (by omega) (fun x hx=>by rw[<-hp];exact hR x i hx hi) fun _=>by rw[hp];exact mO
  have h2:qv l p=i:=by
   rw[qv,List.findIdx_eq hi]
   refine⟨by rw[gR hi]at hp;simpa using hp,fun j hj=>?_⟩
   have:=hR j i hj hi
   rw[hp,gR (by omega)]at this
   simp only[decide_eq_false_iff_not]
   intro hc
   rw[hc,mO]at this
   cases this
  rw[eK,h1,h2,if_pos hi,if_pos ⟨hi,hp⟩]
 ·have h2:¬qv l p<l.length:=by
   rw[qv,List.findIdx_lt_length]
   rintro⟨c,hc,he⟩
   obtain⟨j,hj,rfl⟩:=List.getElem_of_mem hc
   exact h ⟨j,hj,by rw[gR hj];simpa using he⟩
  rw[eK,if_neg h2,if_neg]
  rintro⟨h3,h4⟩
  exact h ⟨_,h3,h4⟩
theorem kj {l:List ae} {p:ai} (h:0<=eK l p):(eK l p).toNat<l.length/\(aV l (eK l p).toNat).bx=p:=by
 unfold eK at h ⊢
 split at h
 ·rename_i hc
  rw[if_pos hc]
  refine⟨by omega,?_⟩
  have:=of_decide_eq_true (List.findIdx_getElem (p:=fun c:ae=>decide (c.bx=p)) (xs:=l) (w:=hc))
  rw[Int.toNat_natCast,gR hc]
  exact this
 ·omega
def gK (l:List ae) (p:ai):Int:=if 0<=eK l p then(aV l (eK l p).toNat).bB else -1
end Go.Proofs.YtgoelphibofcmaaGreat.V

namespace Go.Proofs.YtgoelphibofcmaaGreat.V
open Go.RowKit
attribute [local irreducible] eb wpOps gj Call
attribute [local go_sem] aJ fM eP fZ fY cL upd cu K.av cN AV.cells AV.cell rowOf rowsOf part ld rowAt bI bW dD ee gT bL dc ev fU eY dr ej da cZ dO dR bR aX cR bQ cV cU eh ek ei cQ bV db ef bP aP cX cE gS bw cJ bU aW dx bj dE AV.undef bD bF dV ec dI dS cF eu eB cD ep eo cW cY List.getD_cons_zero List.getD_cons_succ List.getD_nil List.all_cons List.all_nil Bool.and_true Bool.true_and Bool.and_self Bool.not_true Bool.not_false Option.map_some Option.map_none Option.bind_some Option.bind_none List.length_cons List.length_nil List.take_succ_cons List.take_zero List.take_nil List.drop_succ_cons List.drop_zero List.drop_nil List.head?_cons List.map_cons List.map_nil List.getElem?_cons_zero List.getElem?_cons_succ List.cons_append List.nil_append List.append_nil List.length_map List.set_cons_zero List.set_cons_succ Nat.reduceMul eq_self Int.toNat_natCast Int.natCast_nonneg and_self true_and and_true decide_true decide_false Bool.false_eq_true Nat.zero_add Nat.add_zero List.contains_cons List.contains_nil Bool.or_false Bool.false_or beq_self_eq_true Nat.reduceBEq ne_eq not_true_eq_false not_false_eq_true Id.mk.injEq false_and and_false Nat.reduceLT Int.reduceLE Int.reduceLT Int.reduceToNat Int.reduceNeg Int.reduceAdd Nat.le_refl List.length_append beq_true beq_false Bool.not_eq_eq_eq_not or_false false_or dM aj aq aH bd bz ck aU bf aT aZ cP bH
theorem nQ (a b:ai):ar Tryz.prog 160 [.agg (ab a),.agg (ab b)] (.bool (km a b)):=by
 refine ar.body eJ rfl fun hl n0=>?_
 clear hl
 by_cases h0:a.eI<b.eI
 ·(try((repeat(revert hN;revert N;apply Pn.out));refine wk (tw @ab.eq_1 @h0) ?_;(repeat(refine Pn.mk ?_;intro N hN))))
  exact aQ (b:=true) (.inl rfl) (sd @Nat.zero_add) (by simp[km,h0])
 ·by_cases h1:a.eI=b.eI
  ·have h2:¬b.eI<b.eI:=by omega
   (try((repeat(revert hN;revert N;apply Pn.out));refine wk (tw @ab.eq_1 (tw @h1 @h2)) ?_;(repeat(refine Pn.mk ?_;intro N hN))))
   exact aQ (b:=decide (a.eM<b.eM)) (.inl rfl) (sd @Nat.zero_add) (by simp[km,h1])
  ·(try((repeat(revert hN;revert N;apply Pn.out));refine wk (tw @ab.eq_1 (tw @h0 @h1)) ?_;(repeat(refine Pn.mk ?_;intro N hN))))
   exact aQ (b:=false) (.inl rfl) (sd @Nat.zero_add) (by simp[km,h0,h1])
end Go.Proofs.YtgoelphibofcmaaGreat.V

namespace Go.Proofs.YtgoelphibofcmaaGreat.V
open Go.RowKit
attribute [local irreducible] eb wpOps gj Call
attribute [local go_sem] aJ fM eP fZ fY cL upd cu K.av cN AV.cells AV.cell rowOf rowsOf part ld rowAt bI bW dD ee gT bL dc ev fU eY dr ej da cZ dO dR bR aX cR bQ cV cU eh ek ei cQ bV db ef bP aP cX cE gS bw cJ bU aW dx bj dE AV.undef bD bF dV ec dI dS cF eu eB cD ep eo cW cY List.getD_cons_zero List.getD_cons_succ List.getD_nil List.all_cons List.all_nil Bool.and_true Bool.true_and Bool.and_self Bool.not_true Bool.not_false Option.map_some Option.map_none Option.bind_some Option.bind_none List.length_cons List.length_nil List.take_succ_cons List.take_zero List.take_nil List.drop_succ_cons List.drop_zero List.drop_nil List.head?_cons List.map_cons List.map_nil List.getElem?_cons_zero List.getElem?_cons_succ List.cons_append List.nil_append List.append_nil List.length_map List.set_cons_zero List.set_cons_succ Nat.reduceMul eq_self Int.toNat_natCast Int.natCast_nonneg and_self true_and and_true decide_true decide_false Bool.false_eq_true Nat.zero_add Nat.add_zero List.contains_cons List.contains_nil Bool.or_false Bool.false_or beq_self_eq_true Nat.reduceBEq ne_eq not_true_eq_false not_false_eq_true Id.mk.injEq false_and and_false Nat.reduceLT Int.reduceLE Int.reduceLT Int.reduceToNat Int.reduceNeg Int.reduceAdd Nat.le_refl List.length_append beq_true beq_false Bool.not_eq_eq_eq_not or_false false_or dM aj aq aH bd bz ck aU bf aT aZ cP bH
theorem ga {l:List ae} {i:Nat} (h:i<l.length):(l.map ad)[i]? =some (ad (aV l i)):=getD_map ad h
def FF (l:List ae) (i:Nat):Prop:=zI (aV l i).bx=true/\iJ (aV l i).bB 0 159=true/\(0<i->km (aV l (i-1)).bx (aV l i).bx=true)
structure j8 (l:List ae):Prop where
 Cu:l.length<=500
 ok:∀i,i<l.length->FF l i
noncomputable def oq (l:List ae):Bool:=@decide (j8 l) (Classical.propDecidable _)
theorem F5 {l:List ae}:oq l=true↔j8 l:=by simp[oq]
theorem jS {l:List ae} (h:¬j8 l):false=oq l:=by simp[oq,h]
theorem xM {l:List ae} (h:j8 l):true=oq l:=by simp[oq,h]
theorem j8.M1 {l:List ae} (h:j8 l):sn l:=by
 intro i j Dt hj
 induction j with
 |zero=>omega
 |succ j ih=>
  have h1:=(h.ok (j+1) hj).2.2 (by omega)
  rw[Nat.add_sub_cancel]at h1
  by_cases he:i=j
  ·subst he;exact h1
  ·exact ij (ih (by omega) (by omega)) h1
theorem j8.pt {l:List ae} (h:j8 l) {i:Nat} (hi:i<l.length):zI (aV l i).bx=true:=(h.ok i hi).1
theorem sS {p:ai} (h:zI p=true):iB p.eM/\iB p.eI:=by
 unfold zI at h
 simp only[Bool.and_eq_true]at h
 have:=ea h.1;have:=ea h.2
 unfold iB;omega
theorem Gx (l:List ae):ar Tryz.prog 159 [.dj [.sl (l.map ad)]] (.bool (oq l)):=by
 refine ar.body eJ rfl fun hl n0=>?_
 clear hl
 by_cases h1:(500:Int)<(l.length:Int)
 ·(try((repeat(revert hN;revert N;apply Pn.out));refine wk @h1 ?_;(repeat(refine Pn.mk ?_;intro N hN))))
  exact aQ (b:=false) (.inl rfl) (sd @Nat.zero_add) (jS fun h=>by have:=h.Cu;omega)
 (try((repeat(revert hN;revert N;apply Pn.out));refine wk @h1 ?_;(repeat(refine Pn.mk ?_;intro N hN))))
 refine aO (fun n env st=>∃k:Nat,n=(l.length)-k/\k<=(l.length)/\env 3=.int .i64 (k:Int)/\(∀j:Nat,j<k->FF l j)) (l.length) ⟨0,by omega,by omega,sl @Nat.zero_add,fun _ h=>absurd h (Nat.not_lt_zero _)⟩ ?_
 rintro n_a env_a st_a ⟨k,rfl,ale,a3,mv⟩ dv
 have a0:=dv 0 (by kernel_rfl)
 simp only[go_sem, ↓reduceIte,Nat.reduceEqDiff,Nat.reduceAdd,Nat.reduceSub,Nat.reduceLeDiff,reduceCtorEq]at a0
 clear dv
 by_cases hk:(k:Int)<(l.length:Int)
 ·have cz:∀{e:Env},(e 3=.int .i64 (IntKind.i64.wrap ((k:Int)+1)))->(FF l k)->∃m0,m0<(l.length)-k/\∃k:Nat,m0=(l.length)-k/\k<=(l.length)/\e 3=.int .i64 (k:Int)/\(∀j:Nat,j<k->FF l j):=fun x1 x2=>⟨_,by omega,k+1,rfl,by omega,(by rw[x1,az (by omega)]),(all_succ mv x2)⟩
  have fa:k<l.length:=by omega
  have eR:=ga fa
  have la:(¬FF l k)->¬j8 l:=fun h hp=>h (hp.ok k fa)
  have hp:=vD (aV l k).bx
  have ht:=lx (aV l k).bB 0 159
  cases b1:zI (aV l k).bx
  ·rw[b1]at hp
   (repeat(first|((repeat(revert hN;revert N;apply Pn.out));refine wk (tw @a3 (tw @a0 (tw @hk (tw @eR (tw @ad.eq_1 @ab.eq_1))))) ?_;(repeat(refine Pn.mk ?_;intro N hN)))|((try apply Or.inl);refine⟨_,ar.x (hp) (sd (tw @a3 (tw @a0 (tw @hk (tw @eR (tw @ad.eq_1 @ab.eq_1)))))),?_⟩;refine hN _ _ ?_;clear hN N)))
   exact aQ (b:=false) (.inl rfl) (sd @Nat.zero_add) (jS (la fun h=>by rw[FF,b1]at h;cases h.1))
  rw[b1]at hp
  cases b2:iJ (aV l k).bB 0 159
  ·rw[b2]at ht
   (repeat(first|((repeat(revert hN;revert N;apply Pn.out));refine wk (tw @a3 (tw @a0 (tw @hk (tw @eR (tw @ad.eq_1 @ab.eq_1))))) ?_;(repeat(refine Pn.mk ?_;intro N hN)))|((try apply Or.inl);refine⟨_,ar.x (hp) (sd (tw @a3 (tw @a0 (tw @hk (tw @eR (tw @ad.eq_1 @ab.eq_1)))))),?_⟩;refine hN _ _ ?_;clear hN N)|((try apply Or.inl);refine⟨_,ar.x (ht) (sd (tw @a3 (tw @a0 (tw @hk (tw @eR (tw @ad.eq_1 @ab.eq_1)))))),?_⟩;refine hN _ _ ?_;clear hN N)))
   exact aQ (b:=false) (.inl rfl) (sd @Nat.zero_add) (jS (la fun h=>by rw[FF,b2]at h;cases h.2.1))
  rw[b2]at ht
  by_cases h0:(0:Int)<(k:Int)
  ·have sg:=ga (l:=l) (i:=k-1) (by omega)
   have hw:IntKind.i64.wrap ((k:Int)-1)=((k-1:Nat):Int):=by rw[bh (by have:=fa;omega)];omega
   have hq:=nQ (aV l (k-1)).bx (aV l k).bx
   cases b3:km (aV l (k-1)).bx (aV l k).bx
   ·rw[b3]at hq
    (repeat(first|((repeat(revert hN;revert N;apply Pn.out));refine wk (tw @a3 (tw @a0 (tw @hk (tw @eR (tw @sg (tw @h0 (tw @hw (tw @ad.eq_1 @ab.eq_1)))))))) ?_;(repeat(refine Pn.mk ?_;intro N hN)))|((try apply Or.inl);refine⟨_,ar.x (hp) (sd (tw @a3 (tw @a0 (tw @hk (tw @eR (tw @sg (tw @h0 (tw @hw (tw @ad.eq_1 @ab.eq_1))))))))),?_⟩;refine hN _ _ ?_;clear hN N)|((try apply Or.inl);refine⟨_,ar.x (ht) (sd (tw @a3 (tw @a0 (tw @hk (tw @eR (tw @sg (tw @h0 (tw @hw (tw @ad.eq_1 @ab.eq_1))))))))),?_⟩;refine hN _ _ ?_;clear hN N)|((try apply Or.inl);refine⟨_,ar.x (hq) (sd (tw @a3 (tw @a0 (tw @hk (tw @eR (tw @sg (tw @h0 (tw @hw (tw @ad.eq_1 @ab.eq_1))))))))),?_⟩;refine hN _ _ ?_;clear hN N)))
    exact aQ (b:=false) (.inl rfl) (sd @Nat.zero_add) (jS (la fun h=>by have:=h.2.2 (by omega);rw[b3]at this;cases this))
   ·rw[b3]at hq
    (repeat(first|((repeat(revert hN;revert N;apply Pn.out));refine wk (tw @a3 (tw @a0 (tw @hk (tw @eR (tw @sg (tw @h0 (tw @hw (tw @ad.eq_1 @ab.eq_1)))))))) ?_;(repeat(refine Pn.mk ?_;intro N hN)))|((try apply Or.inl);refine⟨_,ar.x (hp) (sd (tw @a3 (tw @a0 (tw @hk (tw @eR (tw @sg (tw @h0 (tw @hw (tw @ad.eq_1 @ab.eq_1))))))))),?_⟩;refine hN _ _ ?_;clear hN N)|((try apply Or.inl);refine⟨_,ar.x (ht) (sd (tw @a3 (tw @a0 (tw @hk (tw @eR (tw @sg (tw @h0 (tw @hw (tw @ad.eq_1 @ab.eq_1))))))))),?_⟩;refine hN _ _ ?_;clear hN N)|((try apply Or.inl);refine⟨_,ar.x (hq) (sd (tw @a3 (tw @a0 (tw @hk (tw @eR (tw @sg (tw @h0 (tw @hw (tw @ad.eq_1 @ab.eq_1))))))))),?_⟩;refine hN _ _ ?_;clear hN N)))
    exact cz (sd (tw @a3 @a0)) (⟨b1,b2,fun _=>b3⟩)
  ·have wS:k=0:=by omega
   (repeat(first|((repeat(revert hN;revert N;apply Pn.out));refine wk (tw @a3 (tw @a0 (tw @hk (tw @eR (tw @h0 (tw @ad.eq_1 @ab.eq_1)))))) ?_;(repeat(refine Pn.mk ?_;intro N hN)))|((try apply Or.inl);refine⟨_,ar.x (hp) (sd (tw @a3 (tw @a0 (tw @hk (tw @eR (tw @h0 (tw @ad.eq_1 @ab.eq_1))))))),?_⟩;refine hN _ _ ?_;clear hN N)|((try apply Or.inl);refine⟨_,ar.x (ht) (sd (tw @a3 (tw @a0 (tw @hk (tw @eR (tw @h0 (tw @ad.eq_1 @ab.eq_1))))))),?_⟩;refine hN _ _ ?_;clear hN N)))
   exact cz (sd (tw @a3 @a0)) (⟨b1,b2,fun h=>by omega⟩)
 ·(try((repeat(revert hN;revert N;apply Pn.out));refine wk (tw @a3 (tw @a0 @hk)) ?_;(repeat(refine Pn.mk ?_;intro N hN))))
  exact aQ (b:=true) (.inl rfl) (sd @Nat.zero_add) (xM ⟨by omega,fun i hi=>mv i (by omega)⟩)
theorem xG (a b:Int):ar Tryz.prog 178 [.int .i64 a,.int .i64 b] (.int .i64 (rh a b)):=by
 have nan:∀x:Int,ar Tryz.prog 208 [.int .i64 x] (.bool false):=fun x=>by
  refine ar.body eJ rfl fun hl n0=>?_
  clear hl
  have e:decide (x=x)=true:=decide_eq_true rfl
  (try((repeat(revert hN;revert N;apply Pn.out));refine wk @e ?_;(repeat(refine Pn.mk ?_;intro N hN))))
  exact aQ (b:=false) (.inl rfl) (sd @Nat.zero_add) rfl
 refine ar.body eJ rfl fun hl n0=>?_
 clear hl
 have ha:=nan a
 have hb:=nan b
 by_cases h1:a<b
 ·(repeat(first|((repeat(revert hN;revert N;apply Pn.out));refine wk @h1 ?_;(repeat(refine Pn.mk ?_;intro N hN)))|((try apply Or.inl);refine⟨_,ar.x (ha) (sd @h1),?_⟩;refine hN _ _ ?_;clear hN N)|((try apply Or.inl);refine⟨_,ar.x (hb) (sd @h1),?_⟩;refine hN _ _ ?_;clear hN N)))
  exact cC (b:=-1) (.inl rfl) (sd @Nat.zero_add) (by rw[rh,if_pos h1])
 by_cases h2:b<a
 ·(repeat(first|((repeat(revert hN;revert N;apply Pn.out));refine wk (tw @h1 @h2) ?_;(repeat(refine Pn.mk ?_;intro N hN)))|((try apply Or.inl);refine⟨_,ar.x (ha) (sd (tw @h1 @h2)),?_⟩;refine hN _ _ ?_;clear hN N)|((try apply Or.inl);refine⟨_,ar.x (hb) (sd (tw @h1 @h2)),?_⟩;refine hN _ _ ?_;clear hN N)))
  exact cC (b:=1) (.inl rfl) (sd @Nat.zero_add) (by rw[rh,if_neg h1,if_pos h2])
 ·(repeat(first|((repeat(revert hN;revert N;apply Pn.out));refine wk (tw @h1 @h2) ?_;(repeat(refine Pn.mk ?_;intro N hN)))|((try apply Or.inl);refine⟨_,ar.x (ha) (sd (tw @h1 @h2)),?_⟩;refine hN _ _ ?_;clear hN N)|((try apply Or.inl);refine⟨_,ar.x (hb) (sd (tw @h1 @h2)),?_⟩;refine hN _ _ ?_;clear hN N)))
  exact cC (b:=0) (.inl rfl) (sd @Nat.zero_add) (by rw[rh,if_neg h1,if_neg h2])
def Hx:List Int->Int
 |[]=>0
 |a::r=>if a=0 then Hx r else a
theorem Jp:∀{l:List Int} {k:Nat} (hk:k<l.length),l[k]≠0->(∀j (h:j<l.length),j<k->l[j]=0)->Hx l=l[k]
 |a::r,0,_,h,_=>by
  have h':a≠0:=h
  rw[Hx,if_neg h'];rfl
 |a::r,k+1,hk,h,h0=>by
  have h':a=0:=h0 0 (by simp) (by omega)
  rw[Hx,if_pos h',Jp (k:=k) (by simpa using hk) h fun j hj xU=>h0 (j+1) (by simpa using hj) (by omega)];rfl
theorem B7:∀{l:List Int},(∀j (h:j<l.length),l[j]=0)->Hx l=0
 |[],_=>rfl
 |a::r,h=>by
  have h':a=0:=h 0 (by simp)
  rw[Hx,if_pos h',B7 fun j hj=>h (j+1) (by simpa using hj)]
theorem LS (a b:Int):Hx [a,b]=LR a b:=by
 unfold LR
 by_cases h:a=0
 ·rw[Hx,if_pos h,if_pos h,Hx,Hx];split<;>simp_all
 ·rw[Hx,if_neg h,if_neg h]
theorem KH (l:List Int):ar Tryz.prog 177 [.sl (l.map aG)] (.int .i64 (Hx l)):=by
 refine ar.body eJ rfl fun hl n0=>?_
 have hlen:l.length<=9223372036854775807:=by simpa using(hl (.sl (l.map aG)) (by simp)).len
 clear hl
 (try((repeat(revert hN;revert N;apply Pn.out));refine wk @Nat.zero_add ?_;(repeat(refine Pn.mk ?_;intro N hN))))
 refine aO (fun n env st=>∃k:Nat,n=(l.length)-k/\k<=(l.length)/\env 8=.int .i64 (k:Int)/\(∀j:Nat,j<k->∀h:j<l.length,l[j]=0)) (l.length) ⟨0,by omega,by omega,sl @Nat.zero_add,fun _ h=>absurd h (Nat.not_lt_zero _)⟩ ?_
 rintro n_a env_a st_a ⟨k,rfl,ale,a8,mv⟩ dv
 have a3:=dv 3 (by kernel_rfl);have a6:=dv 6 (by kernel_rfl);have a7:=dv 7 (by kernel_rfl)
 simp only[go_sem, ↓reduceIte,Nat.reduceEqDiff,Nat.reduceAdd,Nat.reduceSub,Nat.reduceLeDiff,reduceCtorEq]at a3 a6 a7
 clear dv
 by_cases hk:(k:Int)<(l.length:Int)
 ·have cz:∀{e:Env},(e 8=.int .i64 (IntKind.i64.wrap ((k:Int)+1)))->(∀h:k<l.length,l[k]=0)->∃m0,m0<(l.length)-k/\∃k:Nat,m0=(l.length)-k/\k<=(l.length)/\e 8=.int .i64 (k:Int)/\(∀j:Nat,j<k->∀h:j<l.length,l[j]=0):=fun x1 x2=>⟨_,by omega,k+1,rfl,by omega,(by rw[x1,az (by omega)]),(all_succ mv x2)⟩
  have fa:k<l.length:=by omega
  have eR:(l.map aG)[k]? =some (aG l[k]):=by simp[fa]
  generalize hv:l[k]=v at eR
  by_cases h0:v=0
  ·have e:decide (v=0)=true:=decide_eq_true h0
   (try((repeat(revert hN;revert N;apply Pn.out));refine wk (tw @a8 (tw @a3 (tw @a6 (tw @a7 (tw @e (tw @hk (tw @eR @aG.eq_1))))))) ?_;(repeat(refine Pn.mk ?_;intro N hN))))
   exact cz (sd (tw @a8 (tw @a3 (tw @a6 @a7)))) (fun _=>hv.trans h0)
  ·have e:decide (v=0)=false:=decide_eq_false h0
   (try((repeat(revert hN;revert N;apply Pn.out));refine wk (tw @a8 (tw @a3 (tw @a6 (tw @a7 (tw @e (tw @hk (tw @eR @aG.eq_1))))))) ?_;(repeat(refine Pn.mk ?_;intro N hN))))
   exact cC (b:=v) (.inl rfl) (sd @Nat.zero_add) (by rw[Jp fa (by rw[hv];exact h0) fun j h hj=>mv j hj h,hv])
 ·(try((repeat(revert hN;revert N;apply Pn.out));refine wk (tw @a8 (tw @a3 (tw @a6 (tw @a7 @hk)))) ?_;(repeat(refine Pn.mk ?_;intro N hN))))
  exact cC (b:=0) (.inl rfl) (sd @Nat.zero_add) (by rw[B7 fun j h=>mv j (by omega) h])
section
attribute [local go_sem] List.drop_zero List.take_succ_cons List.take_zero List.length_cons List.length_nil ig y5 ot
theorem nv (a b:ai):ar Tryz.prog 130 [.agg (ab a),.agg (ab b)] (.int .i64 (pw a b)):=by
 refine ar.body eJ rfl fun hl n0=>?_
 clear hl
 have h1:=xG a.eI b.eI
 have h2:=xG a.eM b.eM
 have h3:=KH [rh a.eI b.eI,rh a.eM b.eM]
 rw[LS,List.map_cons,List.map_cons,List.map_nil,aG,aG]at h3
 (repeat(first|((repeat(revert hN;revert N;apply Pn.out));refine wk @ab.eq_1 ?_;(repeat(refine Pn.mk ?_;intro N hN)))|((try apply Or.inl);refine⟨_,ar.x (h1) (sd @ab.eq_1),?_⟩;refine hN _ _ ?_;clear hN N)|((try apply Or.inl);refine⟨_,ar.x (h2) (sd @ab.eq_1),?_⟩;refine hN _ _ ?_;clear hN N)|((try apply Or.inl);refine⟨_,ar.x (h3) (sd @ab.eq_1),?_⟩;refine hN _ _ ?_;clear hN N)))
 exact cC (b:=pw a b) (.inl rfl) (by simp only[go_sem, ↓reduceIte,Nat.reduceEqDiff,Nat.reduceAdd,Nat.reduceSub,Nat.reduceLeDiff,reduceCtorEq,pw]) rfl
end
theorem Lq (a b:ai):ar Tryz.prog 201 [.agg (ab a),.agg (ab b)] (.bool (km a b)):=by
 refine ar.body eJ rfl fun hl n0=>?_
 clear hl
 have h1:=nv a b
 rw[ab,ab]at h1
 (repeat(first|((repeat(revert hN;revert N;apply Pn.out));refine wk @ab.eq_1 ?_;(repeat(refine Pn.mk ?_;intro N hN)))|((try apply Or.inl);refine⟨_,ar.x (h1) (sd @ab.eq_1),?_⟩;refine hN _ _ ?_;clear hN N)))
 exact aQ (b:=decide (pw a b<0)) (.inl rfl) (sd @Nat.zero_add) (mE a b)
theorem j4 (t:ae) (p:ai):ar Tryz.prog 143 [.agg (ad t),.agg (ab p)] (.int .i64 (pw t.bx p)):=by
 refine ar.body eJ rfl fun hl n0=>?_
 clear hl
 have h1:=nv t.bx p
 rw[ab,ab]at h1
 (repeat(first|((repeat(revert hN;revert N;apply Pn.out));refine wk (tw @ad.eq_1 @ab.eq_1) ?_;(repeat(refine Pn.mk ?_;intro N hN)))|((try apply Or.inl);refine⟨_,ar.x (h1) (sd (tw @ad.eq_1 @ab.eq_1)),?_⟩;refine hN _ _ ?_;clear hN N)))
 exact cC (b:=pw t.bx p) (.inl rfl) (sd @Nat.zero_add) rfl
theorem Ga (l:List ae):ar Tryz.prog 165 [.agg [.sl (l.map ad)]] (.bool (oq l)):=by
 refine ar.body eJ rfl fun hl n0=>?_
 have hlen:l.length<=9223372036854775807:=by
  have h1:=(hl (.agg [.sl (l.map ad)]) (by simp)).Ni (a:=.sl (l.map ad)) (by simp)
  simpa using h1.len
 clear hl
 (try((repeat(revert hN;revert N;apply Pn.out));refine wk @Nat.zero_add ?_;(repeat(refine Pn.mk ?_;intro N hN))))
 refine aO (fun n env st=>∃k:Nat,n=(l.length)-k/\k<=(l.length)/\env 8=.int .i64 (k:Int)/\st.get ⟨165000000,n0⟩=some ⟨true,1,[[.sl (l.map ad)]]⟩/\(∀j:Nat,j<k->FF l j)) (l.length) ⟨0,by omega,by omega,sl @Nat.zero_add,sl @Nat.zero_add,fun _ h=>absurd h (Nat.not_lt_zero _)⟩ ?_
 rintro n_a env_a st_a ⟨k,rfl,ale,a8,ag0,mv⟩ dv
 have a1:=dv 1 (by kernel_rfl);have a6:=dv 6 (by kernel_rfl);have a7:=dv 7 (by kernel_rfl)
 simp only[go_sem, ↓reduceIte,Nat.reduceEqDiff,Nat.reduceAdd,Nat.reduceSub,Nat.reduceLeDiff,reduceCtorEq]at a1 a6 a7
 clear dv
 by_cases hk:(k:Int)<(l.length:Int)
 ·have cz:∀{e:Env} {gg:Rows},(e 8=.int .i64 (IntKind.i64.wrap ((k:Int)+1)))->(gg ⟨165000000,n0⟩=some ⟨true,1,[[.sl (l.map ad)]]⟩)->(FF l k)->∃m0,m0<(l.length)-k/\∃k:Nat,m0=(l.length)-k/\k<=(l.length)/\e 8=.int .i64 (k:Int)/\gg ⟨165000000,n0⟩=some ⟨true,1,[[.sl (l.map ad)]]⟩/\(∀j:Nat,j<k->FF l j):=fun x1 x2 x3=>⟨_,by omega,k+1,rfl,by omega,(by rw[x1,az (by omega)]),x2,(all_succ mv x3)⟩
  have fa:k<l.length:=by omega
  have eR:=ga fa
  have la:(¬FF l k)->¬j8 l:=fun h hp=>h (hp.ok k fa)
  have hp:=qT (aV l k).bx
  have ht:=ya (aV l k).bB 160 (by omega) (by omega)
  rw[show(160:Int)-1=159 from rfl]at ht
  cases b1:zI (aV l k).bx
  ·rw[b1]at hp
   (repeat(first|((repeat(revert hN;revert N;apply Pn.out));refine wk (tw @a8 (tw @ag0 (tw @a1 (tw @a6 (tw @a7 (tw @hk (tw @eR (tw @ad.eq_1 @ab.eq_1)))))))) ?_;(repeat(refine Pn.mk ?_;intro N hN)))|((try apply Or.inl);refine⟨_,ar.x (hp) (sd (tw @a8 (tw @ag0 (tw @a1 (tw @a6 (tw @a7 (tw @hk (tw @eR (tw @ad.eq_1 @ab.eq_1))))))))),?_⟩;refine hN _ _ ?_;clear hN N)))
   exact aQ (b:=false) (.inl rfl) (sd @Nat.zero_add) (jS (la fun h=>by rw[FF,b1]at h;cases h.1))
  rw[b1]at hp
  cases b2:iJ (aV l k).bB 0 159
  ·rw[b2]at ht
   (repeat(first|((repeat(revert hN;revert N;apply Pn.out));refine wk (tw @a8 (tw @ag0 (tw @a1 (tw @a6 (tw @a7 (tw @hk (tw @eR (tw @ad.eq_1 @ab.eq_1)))))))) ?_;(repeat(refine Pn.mk ?_;intro N hN)))|((try apply Or.inl);refine⟨_,ar.x (hp) (sd (tw @a8 (tw @ag0 (tw @a1 (tw @a6 (tw @a7 (tw @hk (tw @eR (tw @ad.eq_1 @ab.eq_1))))))))),?_⟩;refine hN _ _ ?_;clear hN N)|((try apply Or.inl);refine⟨_,ar.x (ht) (sd (tw @a8 (tw @ag0 (tw @a1 (tw @a6 (tw @a7 (tw @hk (tw @eR (tw @ad.eq_1 @ab.eq_1))))))))),?_⟩;refine hN _ _ ?_;clear hN N)))
   exact aQ (b:=false) (.inl rfl) (sd @Nat.zero_add) (jS (la fun h=>by rw[FF,b2]at h;cases h.2.1))
  rw[b2]at ht
  by_cases h0:(0:Int)<(k:Int)
  ·have sg:=ga (l:=l) (i:=k-1) (by omega)
   have hw:IntKind.i64.wrap ((k:Int)-1)=((k-1:Nat):Int):=by rw[bh (by omega)];omega
   have hq:=Lq (aV l (k-1)).bx (aV l k).bx
   cases b3:km (aV l (k-1)).bx (aV l k).bx
   ·rw[b3]at hq
    (repeat(first|((repeat(revert hN;revert N;apply Pn.out));refine wk (tw @a8 (tw @ag0 (tw @a1 (tw @a6 (tw @a7 (tw @hk (tw @eR (tw @sg (tw @h0 (tw @hw (tw @ad.eq_1 @ab.eq_1))))))))))) ?_;(repeat(refine Pn.mk ?_;intro N hN)))|((try apply Or.inl);refine⟨_,ar.x (hp) (sd (tw @a8 (tw @ag0 (tw @a1 (tw @a6 (tw @a7 (tw @hk (tw @eR (tw @sg (tw @h0 (tw @hw (tw @ad.eq_1 @ab.eq_1)))))))))))),?_⟩;refine hN _ _ ?_;clear hN N)|((try apply Or.inl);refine⟨_,ar.x (ht) (sd (tw @a8 (tw @ag0 (tw @a1 (tw @a6 (tw @a7 (tw @hk (tw @eR (tw @sg (tw @h0 (tw @hw (tw @ad.eq_1 @ab.eq_1)))))))))))),?_⟩;refine hN _ _ ?_;clear hN N)|((try apply Or.inl);refine⟨_,ar.x (hq) (sd (tw @a8 (tw @ag0 (tw @a1 (tw @a6 (tw @a7 (tw @hk (tw @eR (tw @sg (tw @h0 (tw @hw (tw @ad.eq_1 @ab.eq_1)))))))))))),?_⟩;refine hN _ _ ?_;clear hN N)))
    exact aQ (b:=false) (.inl rfl) (sd @Nat.zero_add) (jS (la fun h=>by have:=h.2.2 (by omega);rw[b3]at this;cases this))
   ·rw[b3]at hq
    (repeat(first|((repeat(revert hN;revert N;apply Pn.out));refine wk (tw @a8 (tw @ag0 (tw @a1 (tw @a6 (tw @a7 (tw @hk (tw @eR (tw @sg (tw @h0 (tw @hw (tw @ad.eq_1 @ab.eq_1))))))))))) ?_;(repeat(refine Pn.mk ?_;intro N hN)))|((try apply Or.inl);refine⟨_,ar.x (hp) (sd (tw @a8 (tw @ag0 (tw @a1 (tw @a6 (tw @a7 (tw @hk (tw @eR (tw @sg (tw @h0 (tw @hw (tw @ad.eq_1 @ab.eq_1)))))))))))),?_⟩;refine hN _ _ ?_;clear hN N)|((try apply Or.inl);refine⟨_,ar.x (ht) (sd (tw @a8 (tw @ag0 (tw @a1 (tw @a6 (tw @a7 (tw @hk (tw @eR (tw @sg (tw @h0 (tw @hw (tw @ad.eq_1 @ab.eq_1)))))))))))),?_⟩;refine hN _ _ ?_;clear hN N)|((try apply Or.inl);refine⟨_,ar.x (hq) (sd (tw @a8 (tw @ag0 (tw @a1 (tw @a6 (tw @a7 (tw @hk (tw @eR (tw @sg (tw @h0 (tw @hw (tw @ad.eq_1 @ab.eq_1)))))))))))),?_⟩;refine hN _ _ ?_;clear hN N)))
    refine cz ?_ ?_ (⟨b1,b2,fun _=>b3⟩)
    all_goals simp only[go_sem, ↓reduceIte,Nat.reduceEqDiff,Nat.reduceAdd,Nat.reduceSub,Nat.reduceLeDiff,reduceCtorEq,a8,ag0,a1,a6,a7]
  ·have wS:k=0:=by omega
   (repeat(first|((repeat(revert hN;revert N;apply Pn.out));refine wk (tw @a8 (tw @ag0 (tw @a1 (tw @a6 (tw @a7 (tw @hk (tw @eR (tw @h0 (tw @ad.eq_1 @ab.eq_1))))))))) ?_;(repeat(refine Pn.mk ?_;intro N hN)))|((try apply Or.inl);refine⟨_,ar.x (hp) (sd (tw @a8 (tw @ag0 (tw @a1 (tw @a6 (tw @a7 (tw @hk (tw @eR (tw @h0 (tw @ad.eq_1 @ab.eq_1)))))))))),?_⟩;refine hN _ _ ?_;clear hN N)|((try apply Or.inl);refine⟨_,ar.x (ht) (sd (tw @a8 (tw @ag0 (tw @a1 (tw @a6 (tw @a7 (tw @hk (tw @eR (tw @h0 (tw @ad.eq_1 @ab.eq_1)))))))))),?_⟩;refine hN _ _ ?_;clear hN N)))
   refine cz ?_ ?_ (⟨b1,b2,fun h=>by omega⟩)
   all_goals simp only[go_sem, ↓reduceIte,Nat.reduceEqDiff,Nat.reduceAdd,Nat.reduceSub,Nat.reduceLeDiff,reduceCtorEq,a8,ag0,a1,a6,a7]
 ·(try((repeat(revert hN;revert N;apply Pn.out));refine wk (tw @a8 (tw @ag0 (tw @a1 (tw @a6 (tw @a7 @hk))))) ?_;(repeat(refine Pn.mk ?_;intro N hN))))
  refine aQ (b:=decide ((l.length:Int)<=500)) (.inl rfl) (sd @Nat.zero_add) ?_
  by_cases h5:(l.length:Int)<=500
  ·rw[decide_eq_true h5];exact xM ⟨by omega,fun i hi=>mv i (by omega)⟩
  ·rw[decide_eq_false h5];exact jS fun h=>by have:=h.Cu;omega
end Go.Proofs.YtgoelphibofcmaaGreat.V

namespace Go.Proofs.YtgoelphibofcmaaGreat.V
open Go.RowKit
attribute [local irreducible] eb wpOps gj Call
attribute [local go_sem] aJ fM eP fZ fY cL upd cu K.av cN AV.cells AV.cell rowOf rowsOf part ld rowAt bI bW dD ee gT bL dc ev fU eY dr ej da cZ dO dR bR aX cR bQ cV cU eh ek ei cQ bV db ef bP aP cX cE gS bw cJ bU aW dx bj dE AV.undef bD bF dV ec dI dS cF eu eB cD ep eo cW cY List.getD_cons_zero List.getD_cons_succ List.getD_nil List.all_cons List.all_nil Bool.and_true Bool.true_and Bool.and_self Bool.not_true Bool.not_false Option.map_some Option.map_none Option.bind_some Option.bind_none List.length_cons List.length_nil List.take_succ_cons List.take_zero List.take_nil List.drop_succ_cons List.drop_zero List.drop_nil List.head?_cons List.map_cons List.map_nil List.getElem?_cons_zero List.getElem?_cons_succ List.cons_append List.nil_append List.append_nil List.length_map List.set_cons_zero List.set_cons_succ Nat.reduceMul eq_self Int.toNat_natCast Int.natCast_nonneg and_self true_and and_true decide_true decide_false Bool.false_eq_true Nat.zero_add Nat.add_zero List.contains_cons List.contains_nil Bool.or_false Bool.false_or beq_self_eq_true Nat.reduceBEq ne_eq not_true_eq_false not_false_eq_true Id.mk.injEq false_and and_false Nat.reduceLT Int.reduceLE Int.reduceLT Int.reduceToNat Int.reduceNeg Int.reduceAdd Nat.le_refl List.length_append beq_true beq_false Bool.not_eq_eq_eq_not or_false false_or dM aj aq aH bd bz ck aU bf aT aZ cP bH
theorem FO (cells:List ae) (p:ai) (hR:sn cells) (NM:cells.length<=1048576):
  ar Tryz.prog 142 [.sl (cells.map ad),.agg (ab p),.fn 143 []] (.iF [.int .i64 (rK cells p),.bool (decide (rK cells p<cells.length)&&decide ((aV cells (rK cells p)).bx=p))]):=by
 refine ar.body eJ rfl fun hl n0=>?_
 clear hl
 (try((repeat(revert hN;revert N;apply Pn.out));refine wk @ab.eq_1 ?_;(repeat(refine Pn.mk ?_;intro N hN))))
 refine aO (fun n env st=>∃i j:Nat,n=j-i/\i<=j/\j<=cells.length/\(∀x,x<i->km (aV cells x).bx p=true)/\(∀x,j<=x->x<cells.length->km (aV cells x).bx p=false)/\env 9=.int .i64 i/\env 10=.int .i64 j/\st.get ⟨142000000,n0⟩=some ⟨true,2,[ab p]⟩) cells.length ⟨0,cells.length,by omega,by omega,by omega,fun x h=>by omega,fun x h1 h2=>by omega,by(simp only[go_sem, ↓reduceIte,Nat.reduceEqDiff,Nat.reduceAdd,Nat.reduceSub,Nat.reduceLeDiff,reduceCtorEq])<;>rfl,sd @Nat.zero_add,sd @ab.eq_1⟩ ?_
 rintro n env st ⟨i,j,rfl,Dt,hj,jT,Cy,h9,h10,hg⟩ fr
 have h0:=fr 0 (by kernel_rfl)
 have h2:=fr 2 (by kernel_rfl)
 have h4:=fr 4 (by kernel_rfl)
 have h8:=fr 8 (by kernel_rfl)
 simp only[go_sem, ↓reduceIte,Nat.reduceEqDiff,Nat.reduceAdd,Nat.reduceSub,Nat.reduceLeDiff,reduceCtorEq]at h0 h2 h4 h8
 clear fr
 by_cases dP:(i:Int)<(j:Int)
 ·have e1:IntKind.i64.wrap ((i:Int)+j)=((i+j:Nat):Int):=by rw[bh (by omega)];rfl
  have hm:(i+j) / 2<cells.length:=by omega
  have eZ:(cells.map ad)[(i+j) / 2]? =some (ad (aV cells ((i+j) / 2))):=ga (l:=cells) hm
  have e2:IntKind.i64.wrap ((IntKind.u64.wrap ((i+j:Nat):Int)).fdiv (2 ^ min 1 IntKind.u64.bits))=(((i+j) / 2:Nat):Int):=by
   have h:IntKind.u64.wrap ((i+j:Nat):Int)=((i+j:Nat):Int):=by rw[IntKind.wrap_u64];omega
   rw[h,show min 1 IntKind.u64.bits=1 from rfl,show((2:Int) ^ 1)=2 from rfl,Int.fdiv_eq_ediv_of_nonneg _ (by omega)]
   rw[bh (by omega)];omega
  have Qg:IntKind.i64.wrap ((IntKind.u64.wrap ((i+j:Nat):Int)).fdiv (2 ^ min 1 64))=(((i+j) / 2:Nat):Int):=e2
  have e3:=az (k:=(i+j) / 2) (by omega)
  by_cases hc:pw (aV cells ((i+j) / 2)).bx p<0
  ·have hl:km (aV cells ((i+j) / 2)).bx p=true:=by rw[<-mE];simpa using hc
   (repeat(first|((repeat(revert hN;revert N;apply Pn.out));refine wk (tw @h0 (tw @h2 (tw @h4 (tw @h8 (tw @h9 (tw @h10 (tw @hg (tw @dP (tw @e1 (tw @e2 (tw @Qg (tw @eZ (tw @hc (tw @ad.eq_1 @ab.eq_1)))))))))))))) ?_;(repeat(refine Pn.mk ?_;intro N hN)))|((try apply Or.inl);refine⟨_,ar.x (j4 (aV cells ((i+j) / 2)) p) (sd (tw @h0 (tw @h2 (tw @h4 (tw @h8 (tw @h9 (tw @h10 (tw @hg (tw @dP (tw @e1 (tw @e2 (tw @Qg (tw @eZ (tw @hc (tw @ad.eq_1 @ab.eq_1))))))))))))))),?_⟩;refine hN _ _ ?_;clear hN N)))
   refine⟨_,?_,(i+j) / 2+1,j,rfl,by omega,hj,fun x hx=>?_,Cy,sd @e3,sd @h10,sd (tw @hg @ab.eq_1)⟩
   ·omega
   ·by_cases OB:x=(i+j) / 2
    ·subst OB;exact hl
    ·exact ij (hR x _ (by omega) hm) hl
  ·have hl:km (aV cells ((i+j) / 2)).bx p=false:=by rw[<-mE];simpa using hc
   (repeat(first|((repeat(revert hN;revert N;apply Pn.out));refine wk (tw @h0 (tw @h2 (tw @h4 (tw @h8 (tw @h9 (tw @h10 (tw @hg (tw @dP (tw @e1 (tw @e2 (tw @Qg (tw @eZ (tw @hc (tw @ad.eq_1 @ab.eq_1)))))))))))))) ?_;(repeat(refine Pn.mk ?_;intro N hN)))|((try apply Or.inl);refine⟨_,ar.x (j4 (aV cells ((i+j) / 2)) p) (sd (tw @h0 (tw @h2 (tw @h4 (tw @h8 (tw @h9 (tw @h10 (tw @hg (tw @dP (tw @e1 (tw @e2 (tw @Qg (tw @eZ (tw @hc (tw @ad.eq_1 @ab.eq_1))))))))))))))),?_⟩;refine hN _ _ ?_;clear hN N)))
   refine⟨_,?_,i,(i+j) / 2,rfl,by omega,by omega,jT,fun x h1 h2=>?_,sd @h9,sd (tw @e2 @Qg),sd (tw @hg @ab.eq_1)⟩
   ·omega
   ·by_cases OB:x=(i+j) / 2
    ·subst OB;exact hl
    ·rw[Bool.eq_false_iff]
     intro hc
     have h3:=ij (hR ((i+j) / 2) x (by omega) h2) hc
     rw[hl]at h3;cases h3
 ·have N7:i=j:=by omega
  subst N7
  have Du:rK cells p=i:=zt hj jT fun h=>Cy i (Nat.le_refl _) h
  by_cases hn:(i:Int)<(cells.length:Int)
  ·have fI:i<cells.length:=by omega
   have eZ:(cells.map ad)[i]? =some (ad (aV cells i)):=ga (l:=cells) fI
   have hd:decide (pw (aV cells i).bx p=0)=decide ((aV cells i).bx=p):=by simp only[FP]
   (repeat(first|((repeat(revert hN;revert N;apply Pn.out));refine wk (tw @h0 (tw @h2 (tw @h4 (tw @h8 (tw @h9 (tw @h10 (tw @hg (tw @dP (tw @hn (tw @eZ (tw @ad.eq_1 @ab.eq_1))))))))))) ?_;(repeat(refine Pn.mk ?_;intro N hN)))|((try apply Or.inl);refine⟨_,ar.x (j4 (aV cells i) p) (sd (tw @h0 (tw @h2 (tw @h4 (tw @h8 (tw @h9 (tw @h10 (tw @hg (tw @dP (tw @hn (tw @eZ (tw @ad.eq_1 @ab.eq_1)))))))))))),?_⟩;refine hN _ _ ?_;clear hN N)))
   refine jn (.inl rfl) (r1:=.int .i64 i) (r2:=.bool (decide ((aV cells i).bx=p))) ?_ ?_ ?_
   ·simp only[go_sem, ↓reduceIte,Nat.reduceEqDiff,Nat.reduceAdd,Nat.reduceSub,Nat.reduceLeDiff,reduceCtorEq]
   ·simp only[go_sem, ↓reduceIte,Nat.reduceEqDiff,Nat.reduceAdd,Nat.reduceSub,Nat.reduceLeDiff,reduceCtorEq,hd]
   ·simp only[e8,bE,cw,eH,fH,Option.map_some,Du,fI,decide_true,Bool.true_and]
  ·have fI:¬i<cells.length:=by omega
   (try((repeat(revert hN;revert N;apply Pn.out));refine wk (tw @h0 (tw @h2 (tw @h4 (tw @h8 (tw @h9 (tw @h10 (tw @hg (tw @dP (tw @hn (tw @ad.eq_1 @ab.eq_1)))))))))) ?_;(repeat(refine Pn.mk ?_;intro N hN))))
   refine jn (.inl rfl) (r1:=.int .i64 i) (r2:=.bool false) ?_ ?_ ?_
   ·simp only[go_sem, ↓reduceIte,Nat.reduceEqDiff,Nat.reduceAdd,Nat.reduceSub,Nat.reduceLeDiff,reduceCtorEq]
   ·simp only[go_sem, ↓reduceIte,Nat.reduceEqDiff,Nat.reduceAdd,Nat.reduceSub,Nat.reduceLeDiff,reduceCtorEq]
   ·simp only[e8,bE,cw,eH,fH,Option.map_some,Du,fI,decide_false,Bool.false_and]
theorem GQ (l:List ae) (p:ai) (hR:sn l) (NM:l.length<=1048576):ar Tryz.prog 265 [.agg [.sl (l.map ad)],.agg (ab p)] (.int .i64 (eK l p)):=by
 refine ar.body eJ rfl fun hl n0=>?_
 clear hl
 rw[Fi hR]
 have hb:=FO l p hR NM
 rw[ab]at hb
 cases hf:(decide (rK l p<l.length)&&decide ((aV l (rK l p)).bx=p))
 ·rw[hf]at hb
  (repeat(first|((repeat(revert hN;revert N;apply Pn.out));refine wk @ab.eq_1 ?_;(repeat(refine Pn.mk ?_;intro N hN)))|((try apply Or.inl);refine⟨_,ar.x (hb) (sd @ab.eq_1),?_⟩;refine hN _ _ ?_;clear hN N)))
  exact cC (b:=-1) (.inl rfl) (sd @Nat.zero_add) (by rw[if_neg];intro h;simp[h.1,h.2]at hf)
 ·rw[hf]at hb
  (repeat(first|((repeat(revert hN;revert N;apply Pn.out));refine wk @ab.eq_1 ?_;(repeat(refine Pn.mk ?_;intro N hN)))|((try apply Or.inl);refine⟨_,ar.x (hb) (sd @ab.eq_1),?_⟩;refine hN _ _ ?_;clear hN N)))
  exact cC (b:=(rK l p:Int)) (.inl rfl) (sd @Nat.zero_add) (by rw[if_pos];simpa using hf)
theorem qx (l:List ae) (p:ai) (hR:sn l) (NM:l.length<=1048576):ar Tryz.prog 124 [.dj [.sl (l.map ad)],.agg (ab p)] (.int .i64 (eK l p)):=by
 refine ar.body eJ rfl fun hl n0=>?_
 clear hl
 rw[Fi hR]
 (try((repeat(revert hN;revert N;apply Pn.out));refine wk @ab.eq_1 ?_;(repeat(refine Pn.mk ?_;intro N hN))))
 refine aO (fun n env st=>∃i j:Nat,n=j-i/\i<=j/\j<=l.length/\(∀x,x<i->km (aV l x).bx p=true)/\(∀x,j<=x->x<l.length->km (aV l x).bx p=false)/\env 5=.int .i64 i/\env 6=.int .i64 j/\st.get ⟨124000000,n0⟩=some ⟨true,2,[ab p]⟩) l.length ⟨0,l.length,by omega,by omega,by omega,fun x h=>by omega,fun x h1 h2=>by omega,by(simp only[go_sem, ↓reduceIte,Nat.reduceEqDiff,Nat.reduceAdd,Nat.reduceSub,Nat.reduceLeDiff,reduceCtorEq])<;>rfl,sd @Nat.zero_add,sd @ab.eq_1⟩ ?_
 rintro n env st ⟨i,j,rfl,Dt,hj,jT,Cy,h5,h6,hg⟩ fr
 have h0:=fr 0 (by kernel_rfl)
 have h3:=fr 3 (by kernel_rfl)
 simp only[go_sem, ↓reduceIte,Nat.reduceEqDiff,Nat.reduceAdd,Nat.reduceSub,Nat.reduceLeDiff,reduceCtorEq]at h0 h3
 clear fr
 by_cases dP:(i:Int)<(j:Int)
 ·have e1:IntKind.i64.wrap ((i:Int)+j)=((i+j:Nat):Int):=by rw[bh (by omega)];rfl
  have hm:(i+j) / 2<l.length:=by omega
  have eZ:=ga hm
  have e2:IntKind.i64.wrap (((i+j:Nat):Int).tdiv 2)=(((i+j) / 2:Nat):Int):=by
   rw[Int.tdiv_eq_ediv_of_nonneg (by omega),bh (by omega)];omega
  have e3:=az (k:=(i+j) / 2) (by omega)
  have hq:=nQ (aV l ((i+j) / 2)).bx p
  cases hl:km (aV l ((i+j) / 2)).bx p
  ·rw[hl]at hq
   (repeat(first|((repeat(revert hN;revert N;apply Pn.out));refine wk (tw @h0 (tw @h3 (tw @h5 (tw @h6 (tw @hg (tw @dP (tw @e1 (tw @e2 (tw @eZ (tw @ad.eq_1 @ab.eq_1)))))))))) ?_;(repeat(refine Pn.mk ?_;intro N hN)))|((try apply Or.inl);refine⟨_,ar.x (hq) (sd (tw @h0 (tw @h3 (tw @h5 (tw @h6 (tw @hg (tw @dP (tw @e1 (tw @e2 (tw @eZ (tw @ad.eq_1 @ab.eq_1))))))))))),?_⟩;refine hN _ _ ?_;clear hN N)))
   refine⟨_,?_,i,(i+j) / 2,rfl,by omega,by omega,jT,fun x h1 h2=>?_,sd @h5,sd @e2,sd (tw @hg @ab.eq_1)⟩
   ·omega
   ·by_cases OB:x=(i+j) / 2
    ·subst OB;exact hl
    ·rw[Bool.eq_false_iff]
     intro hc
     have h3:=ij (hR ((i+j) / 2) x (by omega) h2) hc
     rw[hl]at h3;cases h3
  ·rw[hl]at hq
   (repeat(first|((repeat(revert hN;revert N;apply Pn.out));refine wk (tw @h0 (tw @h3 (tw @h5 (tw @h6 (tw @hg (tw @dP (tw @e1 (tw @e2 (tw @eZ (tw @ad.eq_1 @ab.eq_1)))))))))) ?_;(repeat(refine Pn.mk ?_;intro N hN)))|((try apply Or.inl);refine⟨_,ar.x (hq) (sd (tw @h0 (tw @h3 (tw @h5 (tw @h6 (tw @hg (tw @dP (tw @e1 (tw @e2 (tw @eZ (tw @ad.eq_1 @ab.eq_1))))))))))),?_⟩;refine hN _ _ ?_;clear hN N)))
   refine⟨_,?_,(i+j) / 2+1,j,rfl,by omega,hj,fun x hx=>?_,Cy,sd @e3,sd @h6,sd (tw @hg @ab.eq_1)⟩
   ·omega
   ·by_cases OB:x=(i+j) / 2
    ·subst OB;exact hl
    ·exact ij (hR x _ (by omega) hm) hl
 ·have N7:i=j:=by omega
  subst N7
  have Du:rK l p=i:=zt hj jT fun h=>Cy i (Nat.le_refl _) h
  by_cases hn:(i:Int)<(l.length:Int)
  ·have fI:i<l.length:=by omega
   have eZ:=ga fI
   by_cases hp:(aV l i).bx=p
   ·have hx:decide ((aV l i).bx.eM=p.eM)=true:=decide_eq_true (by rw[hp])
    have hy:decide ((aV l i).bx.eI=p.eI)=true:=decide_eq_true (by rw[hp])
    (try((repeat(revert hN;revert N;apply Pn.out));refine wk (tw @h0 (tw @h3 (tw @h5 (tw @h6 (tw @hg (tw @dP (tw @hn (tw @eZ (tw @hx (tw @hy (tw @ad.eq_1 @ab.eq_1))))))))))) ?_;(repeat(refine Pn.mk ?_;intro N hN))))
    exact cC (b:=(i:Int)) (.inl rfl) (sd @Nat.zero_add) (by rw[Du,if_pos ⟨fI,hp⟩])
   ·by_cases hx:(aV l i).bx.eM=p.eM
    ·have tr:decide ((aV l i).bx.eM=p.eM)=true:=decide_eq_true hx
     have SK:decide ((aV l i).bx.eI=p.eI)=false:=decide_eq_false fun h=>hp (vW hx h)
     (try((repeat(revert hN;revert N;apply Pn.out));refine wk (tw @h0 (tw @h3 (tw @h5 (tw @h6 (tw @hg (tw @dP (tw @hn (tw @eZ (tw @tr (tw @SK (tw @ad.eq_1 @ab.eq_1))))))))))) ?_;(repeat(refine Pn.mk ?_;intro N hN))))
     exact cC (b:=-1) (.inl rfl) (sd @Nat.zero_add) (by rw[Du,if_neg fun h=>hp h.2])
    ·have tr:decide ((aV l i).bx.eM=p.eM)=false:=decide_eq_false hx
     (try((repeat(revert hN;revert N;apply Pn.out));refine wk (tw @h0 (tw @h3 (tw @h5 (tw @h6 (tw @hg (tw @dP (tw @hn (tw @eZ (tw @tr (tw @Bool.false_and (tw @ad.eq_1 @ab.eq_1))))))))))) ?_;(repeat(refine Pn.mk ?_;intro N hN))))
     exact cC (b:=-1) (.inl rfl) (sd @Nat.zero_add) (by rw[Du,if_neg fun h=>hp h.2])
  ·have fI:¬i<l.length:=by omega
   (try((repeat(revert hN;revert N;apply Pn.out));refine wk (tw @h0 (tw @h3 (tw @h5 (tw @h6 (tw @hg (tw @dP (tw @hn (tw @ad.eq_1 @ab.eq_1)))))))) ?_;(repeat(refine Pn.mk ?_;intro N hN))))
   exact cC (b:=-1) (.inl rfl) (sd @Nat.zero_add) (by rw[Du,if_neg fun h=>fI h.1])
theorem LB (l:List ae) (p:ai) (hR:sn l) (NM:l.length<=1048576):ar Tryz.prog 98 [.dj [.sl (l.map ad)],.agg (ab p)] (.int .i64 (gK l p)):=by
 refine ar.body eJ rfl fun hl n0=>?_
 clear hl
 have hb:=qx l p hR NM
 by_cases hi:eK l p<0
 ·rw[ab]at hb
  (repeat(first|((repeat(revert hN;revert N;apply Pn.out));refine wk (tw @ab.eq_1 @hi) ?_;(repeat(refine Pn.mk ?_;intro N hN)))|((try apply Or.inl);refine⟨_,ar.x (hb) (sd (tw @ab.eq_1 @hi)),?_⟩;refine hN _ _ ?_;clear hN N)))
  exact cC (b:=-1) (.inl rfl) (sd @Nat.zero_add) (by rw[gK,if_neg (by omega)])
 ·have h0:0<=eK l p:=by omega
  have hg:=ga (kj h0).1
  rw[ab]at hb
  (repeat(first|((repeat(revert hN;revert N;apply Pn.out));refine wk (tw @ab.eq_1 (tw @hi (tw @h0 (tw @hg @ad.eq_1)))) ?_;(repeat(refine Pn.mk ?_;intro N hN)))|((try apply Or.inl);refine⟨_,ar.x (hb) (sd (tw @ab.eq_1 (tw @hi (tw @h0 (tw @hg @ad.eq_1))))),?_⟩;refine hN _ _ ?_;clear hN N)))
  exact cC (b:=(aV l (eK l p).toNat).bB) (.inl rfl) (sd @Nat.zero_add) (by rw[gK,if_pos h0])
def kz (s:aw) (l:List ae):Prop:=j8 l/\∀t∈l,eS s t.bB=true
noncomputable def pr (s:aw) (l:List ae):Bool:=oq l&&l.all fun t=>eS s t.bB
theorem lR {s:aw} {l:List ae}:pr s l=true↔kz s l:=by simp[pr,kz,F5]
theorem C0:P3 ad (fun c=>.agg (ad c)) 3 true:=⟨fun _=>rfl,fun _=>rfl,fun x g=>by simp only[ad,aj,aq,bf,aH,Option.map_some]⟩
theorem GL (s:aw) (t:ae) (hs:s.ah.length<=1048576):ar Tryz.prog 167 [.agg (ad t),.dj (aa s)] (.bool (!eS s t.bB)):=by
 refine ar.body eJ rfl fun hl n0=>?_
 clear hl
 have h:=IZ s t.bB
 rw[aa]at h
 (repeat(first|((repeat(revert hN;revert N;apply Pn.out));refine wk (tw @ad.eq_1 @aa.eq_1) ?_;(repeat(refine Pn.mk ?_;intro N hN)))|((try apply Or.inl);refine⟨_,ar.x (h) (sd (tw @ad.eq_1 @aa.eq_1)),?_⟩;refine hN _ _ ?_;clear hN N)))
 exact aQ (b:= !eS s t.bB) (.inl rfl) (sd @Nat.zero_add) rfl
theorem Mf (s:aw) (l:List ae) (hs:s.ah.length<=1048576) (hl:l.length<=1048576):ar Tryz.prog 166 [.sl (l.map ad),.fn 167 [.dj (aa s)]] (.bool (l.any fun t=> !eS s t.bB)):=
 oe C0 (show mi Tryz.prog 166=some (Dh 166 202) by kernel_rfl)
  (show mi Tryz.prog 202=some (vC 202 3 true) by kernel_rfl) l hl _ _ _ rfl (fun g=>by rw[aj,aT,aq];rfl) (fun x _=>GL s x hs) fun g=>by rw[aj,aT,aq];rfl
theorem Kz {α:Type} (p:α->Bool) (l:List α):(!l.any fun t=> !p t)=l.all p:=by
 induction l with
 |nil=>rfl
 |cons x l ih=>simp only[List.any_cons,List.all_cons,<-ih];cases p x<;>simp
theorem ns (s:aw) (l:List ae) (hn:gD s) (hg:s.ax.length<=1048576) (ht:s.ah.length<=1048576) (hs:∀t∈s.ah,t.br.length<=1048576) (hl:l.length<=1048576):ar Tryz.prog 106 [.agg (aa s),.agg [.sl (l.map ad)]] (.bool (qJ s&&pr s l)):=by
 refine ar.body eJ rfl fun hl n0=>?_
 clear hl
 have h1:=CO s hn hg ht hs
 have h2:=Ga l
 have h3:=Mf s l ht hl
 rw[aa]at h1 h3
 cases b1:qJ s
 ·rw[b1]at h1
  (repeat(first|((repeat(revert hN;revert N;apply Pn.out));refine wk @aa.eq_1 ?_;(repeat(refine Pn.mk ?_;intro N hN)))|((try apply Or.inl);refine⟨_,ar.x (h1) (sd @aa.eq_1),?_⟩;refine hN _ _ ?_;clear hN N)))
  exact aQ (b:=false) (.inl rfl) (sd @Nat.zero_add) rfl
 rw[b1]at h1
 cases b2:oq l
 ·rw[b2]at h2
  (repeat(first|((repeat(revert hN;revert N;apply Pn.out));refine wk @aa.eq_1 ?_;(repeat(refine Pn.mk ?_;intro N hN)))|((try apply Or.inl);refine⟨_,ar.x (h1) (sd @aa.eq_1),?_⟩;refine hN _ _ ?_;clear hN N)|((try apply Or.inl);refine⟨_,ar.x (h2) (sd @aa.eq_1),?_⟩;refine hN _ _ ?_;clear hN N)))
  exact aQ (b:=false) (.inl rfl) (sd @Nat.zero_add) (by rw[pr,b2];rfl)
 rw[b2]at h2
 (repeat(first|((repeat(revert hN;revert N;apply Pn.out));refine wk @aa.eq_1 ?_;(repeat(refine Pn.mk ?_;intro N hN)))|((try apply Or.inl);refine⟨_,ar.x (h1) (sd @aa.eq_1),?_⟩;refine hN _ _ ?_;clear hN N)|((try apply Or.inl);refine⟨_,ar.x (h2) (sd @aa.eq_1),?_⟩;refine hN _ _ ?_;clear hN N)|((try apply Or.inl);refine⟨_,ar.x (h3) (sd @aa.eq_1),?_⟩;refine hN _ _ ?_;clear hN N)))
 exact aQ (b:= !(l.any fun t=> !eS s t.bB)) (.inl rfl) (sd @Nat.zero_add) (by rw[Kz,pr,b2];rfl)
theorem Ff (s:aw) (l:List ae):ar Tryz.prog 97 [.dj (aa s),.dj [.sl (l.map ad)]] (.bool (pr s l)):=by
 refine ar.body eJ rfl fun hl n0=>?_
 have hlen:l.length<=9223372036854775807:=by
  have h1:=(hl (.dj [.sl (l.map ad)]) (by simp)).BA (a:=.sl (l.map ad)) (by simp)
  simpa using h1.len
 clear hl
 have h2:=Gx l
 cases b2:oq l
 ·rw[b2]at h2
  (repeat(first|((repeat(revert hN;revert N;apply Pn.out));refine wk @Nat.zero_add ?_;(repeat(refine Pn.mk ?_;intro N hN)))|((try apply Or.inl);refine⟨_,ar.x (h2) (sd @Nat.zero_add),?_⟩;refine hN _ _ ?_;clear hN N)))
  exact aQ (b:=false) (.inl rfl) (sd @Nat.zero_add) (by rw[pr,b2];rfl)
 rw[b2]at h2
 (repeat(first|((repeat(revert hN;revert N;apply Pn.out));refine wk @Nat.zero_add ?_;(repeat(refine Pn.mk ?_;intro N hN)))|((try apply Or.inl);refine⟨_,ar.x (h2) (sd @Nat.zero_add),?_⟩;refine hN _ _ ?_;clear hN N)))
 refine aO (fun n env st=>∃k:Nat,n=(l.length)-k/\k<=(l.length)/\env 5=.int .i64 (k:Int)/\(∀j:Nat,j<k->eS s (aV l j).bB=true)) (l.length) ⟨0,by omega,by omega,sl @Nat.zero_add,fun _ h=>absurd h (Nat.not_lt_zero _)⟩ ?_
 rintro n_a env_a st_a ⟨k,rfl,ale,a5,mv⟩ dv
 have a0:=dv 0 (by kernel_rfl);have a1:=dv 1 (by kernel_rfl)
 simp only[go_sem, ↓reduceIte,Nat.reduceEqDiff,Nat.reduceAdd,Nat.reduceSub,Nat.reduceLeDiff,reduceCtorEq]at a0 a1
 clear dv
 by_cases hk:(k:Int)<(l.length:Int)
 ·have cz:∀{e:Env},(e 5=.int .i64 (IntKind.i64.wrap ((k:Int)+1)))->(eS s (aV l k).bB=true)->∃m0,m0<(l.length)-k/\∃k:Nat,m0=(l.length)-k/\k<=(l.length)/\e 5=.int .i64 (k:Int)/\(∀j:Nat,j<k->eS s (aV l j).bB=true):=fun x1 x2=>⟨_,by omega,k+1,rfl,by omega,(by rw[x1,az (by omega)]),(all_succ mv x2)⟩
  have fa:k<l.length:=by omega
  have eR:=ga fa
  have ht:=DJ s (aV l k).bB
  cases b3:eS s (aV l k).bB
  ·rw[b3]at ht
   (repeat(first|((repeat(revert hN;revert N;apply Pn.out));refine wk (tw @a5 (tw @a0 (tw @a1 (tw @hk (tw @eR @ad.eq_1))))) ?_;(repeat(refine Pn.mk ?_;intro N hN)))|((try apply Or.inl);refine⟨_,ar.x (ht) (sd (tw @a5 (tw @a0 (tw @a1 (tw @hk (tw @eR @ad.eq_1)))))),?_⟩;refine hN _ _ ?_;clear hN N)))
   exact aQ (b:=false) (.inl rfl) (sd @Nat.zero_add) (by
    have:l.all (fun t=>eS s t.bB)=false:=List.all_eq_false.2 ⟨_,kP fa,by rw[b3];simp⟩
    rw[pr,this,Bool.and_false])
  ·rw[b3]at ht
   (repeat(first|((repeat(revert hN;revert N;apply Pn.out));refine wk (tw @a5 (tw @a0 (tw @a1 (tw @hk (tw @eR @ad.eq_1))))) ?_;(repeat(refine Pn.mk ?_;intro N hN)))|((try apply Or.inl);refine⟨_,ar.x (ht) (sd (tw @a5 (tw @a0 (tw @a1 (tw @hk (tw @eR @ad.eq_1)))))),?_⟩;refine hN _ _ ?_;clear hN N)))
   exact cz (sd (tw @a5 (tw @a0 @a1))) (b3)
 ·(try((repeat(revert hN;revert N;apply Pn.out));refine wk (tw @a5 (tw @a0 (tw @a1 @hk))) ?_;(repeat(refine Pn.mk ?_;intro N hN))))
  exact aQ (b:=true) (.inl rfl) (sd @Nat.zero_add) (by
   have:l.all (fun t=>eS s t.bB)=true:=List.all_eq_true.2 fun t ht=>by
    obtain⟨j,hj,rfl⟩:=List.getElem_of_mem ht
    have:=mv j (by omega)
    rwa [gR hj]at this
   rw[pr,b2,this];rfl)
theorem xj (l:List ae) (hF:j8 l) (i:Nat) (d:Int) (hi:i<l.length) (hd:iJ d 0 3=true):ar Tryz.prog 217 [.dj [.sl (l.map ad)],.int .i64 i,.int .i64 d] (.int .i64 (eK l (aY (aV l i).bx d))):=by
 refine ar.body eJ rfl fun hl n0=>?_
 clear hl
 have hg:=ga hi
 have hp:=sS (hF.pt hi)
 have h1:=sO (aV l i).bx d hd hp.1 hp.2
 have h2:=qx l (aY (aV l i).bx d) hF.M1 (by have:=hF.Cu;omega)
 rw[ab]at h1 h2
 (repeat(first|((repeat(revert hN;revert N;apply Pn.out));refine wk (tw @ad.eq_1 (tw @hg @ab.eq_1)) ?_;(repeat(refine Pn.mk ?_;intro N hN)))|((try apply Or.inl);refine⟨_,ar.x (h1) (sd (tw @ad.eq_1 (tw @hg @ab.eq_1))),?_⟩;refine hN _ _ ?_;clear hN N)|((try apply Or.inl);refine⟨_,ar.x (h2) (sd (tw @ad.eq_1 (tw @hg @ab.eq_1))),?_⟩;refine hN _ _ ?_;clear hN N)))
 exact cC (b:=eK l (aY (aV l i).bx d)) (.inl rfl) (sd @Nat.zero_add) rfl
end Go.Proofs.YtgoelphibofcmaaGreat.V

namespace Go.Proofs.YtgoelphibofcmaaGreat.V
def bi (b:Bool):Int:=if b then 1 else 0
def lK (f:Nat->Int):Nat->Int
 |0=>0
 |n+1=>lK f n+f n
theorem gh {f g:Nat->Int}:∀{n:Nat},(∀i,i<n->f i=g i)->lK f n=lK g n
 |0,_=>rfl
 |n+1,h=>by
  simp only[lK]
  rw[gh fun i hi=>h i (by omega),h n (by omega)]
theorem rY {f g:Nat->Int}:∀{n:Nat},(∀i,i<n->f i<=g i)->lK f n<=lK g n
 |0,_=>Int.le_refl _
 |n+1,h=>by
  simp only[lK]
  have:=rY (n:=n) fun i hi=>h i (by omega)
  have:=h n (by omega)
  omega
theorem jL:∀{n:Nat} {f:Nat->Int},(∀i,i<n->f i=0)->lK f n=0
 |0,_,_=>rfl
 |n+1,f,h=>by
  simp only[lK]
  rw[jL fun i hi=>h i (by omega),h n (by omega)];rfl
theorem pf {f:Nat->Int} {a:Nat} {d:Int}:∀n,lK (fun i=>f i+if i=a then d else 0) n=lK f n+if a<n then d else 0
 |0=>by simp[lK]
 |n+1=>by
  simp only[lK]
  rw[pf n]
  by_cases h:n=a
  ·subst h;simp;omega
  ·rw[if_neg h]
   by_cases h2:a<n
   ·rw[if_pos h2,if_pos (by omega)];omega
   ·rw[if_neg h2,if_neg (by omega)];omega
def lV (n:Nat) (S:Nat->Bool) (f:Nat->Nat->Int):Int:=lK (fun u=>lK (fun v=>if S u&& !S v then f u v else 0) n) n
def bump (f:Nat->Nat->Int) (a b:Nat) (d:Int):Nat->Nat->Int:=fun u v=>f u v+if u=a/\v=b then d else 0
theorem oZ {n:Nat} {S:Nat->Bool} {f:Nat->Nat->Int} {a b:Nat} {d:Int} (ha:a<n) (hb:b<n):lV n S (bump f a b d)=lV n S f+if S a&& !S b then d else 0:=by
 unfold lV
 have h1:∀u,u<n->lK (fun v=>if S u&& !S v then bump f a b d u v else 0) n=lK (fun v=>if S u&& !S v then f u v else 0) n+if u=a then(if S a&& !S b then d else 0)else 0:=by
  intro u hu
  by_cases h:u=a
  ·subst h
   have h2:∀v,v<n->(if S u&& !S v then bump f u b d u v else 0)=(fun v=>if S u&& !S v then f u v else 0) v+if v=b then(if S u&& !S b then d else 0)else 0:=by
    intro v hv
    unfold bump
    by_cases h3:v=b
    ·subst h3;simp only[and_self,if_true];split<;>omega
    ·simp only[h3,and_false,if_false];split<;>omega
   rw[gh h2,pf,if_pos hb,if_pos rfl]
  ·rw[if_neg h,Int.add_zero]
   refine gh fun v hv=>?_
   unfold bump
   simp[h]
 rw[gh h1,pf,if_pos ha]
theorem KK {n:Nat} {S:Nat->Bool} {f c:Nat->Nat->Int} (h:∀u v,u<n->v<n->f u v<=c u v):lV n S f<=lV n S c:=
 rY fun u hu=>rY fun v hv=>by split;exact h u v hu hv;exact Int.le_refl _
theorem KJ {n:Nat} {S:Nat->Bool} {f c:Nat->Nat->Int} (h:∀u v,u<n->v<n->S u=true->S v=false->f u v=c u v):lV n S f=lV n S c:=
 gh fun u hu=>gh fun v hv=>by
  split
  ·rename_i hc
   simp only[Bool.and_eq_true,Bool.not_eq_true']at hc
   exact h u v hu hv hc.1 hc.2
  ·rfl
def kc (f:Nat->Nat->Int) (a b:Nat):Nat->Nat->Int:=bump (bump f a b 1) b a (-1)
theorem FV {n:Nat} {S:Nat->Bool} {f:Nat->Nat->Int} {a b:Nat} (ha:a<n) (hb:b<n):lV n S (kc f a b)=lV n S f+bi (S a)-bi (S b):=by
 unfold kc
 rw[oZ hb ha,oZ ha hb]
 cases S a<;>cases S b<;>simp[bi]<;>omega
def lS (f:Nat->Nat->Int):List Nat->Nat->Nat->Int
 |a::b::r=>lS (kc f a b) (b::r)
 |_=>f
def qP (f c:Nat->Nat->Int):List Nat->Prop
 |a::b::r=>f a b<c a b/\qP f c (b::r)
 |_=>True
theorem Az {n:Nat} {S:Nat->Bool}:∀(r:List Nat) (a:Nat) (f:Nat->Nat->Int),(∀x∈a::r,x<n)->lV n S (lS f (a::r))=lV n S f+bi (S a)-bi (S ((a::r).getLast (by simp)))
 |[],a,f,_=>by simp[lS]
 |b::r,a,f,h=>by
  rw[lS,Az r b (kc f a b) fun x hx=>h x (List.mem_cons_of_mem _ hx),FV (h a (by simp)) (h b (by simp)),List.getLast_cons_cons]
  generalize bi (S b)=q
  omega
theorem qP.less {f g c:Nat->Nat->Int}:∀{p:List Nat},qP f c p->(∀u,u∈p->∀v,g u v<=f u v)->qP g c p
 |[],_,_=>trivial
 |[_],_,_=>trivial
 |a::b::r,h,hl=>⟨Int.lt_of_le_of_lt (hl a (by simp) b) h.1,qP.less (p:=b::r) h.2 fun u hu=>hl u (List.mem_cons_of_mem _ hu)⟩
theorem EG {n:Nat} {c:Nat->Nat->Int}:∀(p:List Nat) (f:Nat->Nat->Int),p.Nodup->qP f c p->(∀u v,u<n->v<n->f u v<=c u v)->∀u v,u<n->v<n->lS f p u v<=c u v
 |[],f,_,_,h=>h
 |[_],f,_,_,h=>h
 |a::b::r,f,hn,hr,h=>by
  rw[lS]
  have nG:a∉b::r:=(List.nodup_cons.1 hn).1
  refine EG (b::r) _ (List.nodup_cons.1 hn).2 (hr.2.less fun u hu v=>?_) fun u v hu hv=>?_
  ·unfold kc bump
   have:u≠a:=by rintro rfl;exact nG hu
   simp only[this,false_and,if_false]
   split<;>omega
  ·have h0:=h u v hu hv
   have h1:=hr.1
   unfold kc bump
   by_cases e:u=a/\v=b
   ·obtain⟨rfl,rfl⟩:=e
    rw[if_pos ⟨rfl,rfl⟩];split<;>omega
   ·rw[if_neg e];split<;>omega
structure ll (n:Nat) (c f:Nat->Nat->Int) (x y:Nat) (val:Int):Prop where
 le:∀u v,u<n->v<n->f u v<=c u v
 cut:∀S:Nat->Bool,S x=true->S y=false->lV n S f=val
theorem ll.zero {n:Nat} {c:Nat->Nat->Int} {x y:Nat} (h:∀u v,u<n->v<n->0<=c u v):ll n c (fun _ _=>0) x y 0:=
 ⟨h,fun S _ _=>jL fun u hu=>jL fun v hv=>by split<;>rfl⟩
theorem ll.congr {n:Nat} {c f g:Nat->Nat->Int} {x y:Nat} {val:Int} (h:ll n c f x y val) (e:∀u v,u<n->v<n->g u v=f u v):ll n c g x y val:=
 ⟨fun u v hu hv=>by rw[e u v hu hv];exact h.le u v hu hv,fun S hx hy=>by
  rw[<-h.cut S hx hy]
  exact gh fun u hu=>gh fun v hv=>by rw[e u v hu hv]⟩
theorem ll.aug {n:Nat} {c f:Nat->Nat->Int} {x y:Nat} {val:Int} (h:ll n c f x y val) {r:List Nat} (hl:(x::r).getLast (by simp)=y) (hn:(x::r).Nodup) (hr:qP f c (x::r)) (hb:∀v∈x::r,v<n):ll n c (lS f (x::r)) x y (val+1):=
 ⟨EG _ _ hn hr h.le,fun S hx hy=>by rw[Az r x f hb,hl,h.cut S hx hy,hx,hy];simp[bi]⟩
theorem ll.bound {n:Nat} {c f:Nat->Nat->Int} {x y:Nat} {val:Int} (h:ll n c f x y val) {S:Nat->Bool} (hx:S x=true) (hy:S y=false):val<=lV n S c:=by
 rw[<-h.cut S hx hy];exact KK h.le
theorem ll.full {n:Nat} {c f:Nat->Nat->Int} {x y:Nat} {val:Int} (h:ll n c f x y val) {S:Nat->Bool} (hx:S x=true) (hy:S y=false) (hS:∀u v,u<n->v<n->S u=true->S v=false->¬f u v<c u v):val=lV n S c:=by
 rw[<-h.cut S hx hy]
 exact KJ fun u v hu hv h1 h2=>by have:=hS u v hu hv h1 h2;have:=h.le u v hu hv;omega
structure PB where
 a:Nat
 b:Nat
 s:Int
 deriving Inhabited
def cm (bs:List PB) (i:Nat):PB:=bs.getD i default
def iW (S:Nat->Bool) (bs:List PB):Int:=(bs.map fun b=>if S b.a=S b.b then 0 else b.s).sum
def nC (c:Nat->Nat->Int) (b:PB):Nat->Nat->Int:=bump (bump c b.a b.b b.s) b.b b.a b.s
def kV (bs:List PB):Nat->Nat->Int:=bs.foldl nC fun _ _=>0
theorem D7 (bs:List PB) (b:PB):kV (bs++[b])=nC (kV bs) b:=by simp[kV]
theorem AM {n:Nat} {S:Nat->Bool}:∀(bs:List PB) (c:Nat->Nat->Int),(∀b∈bs,b.a<n/\b.b<n)->lV n S (bs.foldl nC c)=lV n S c+iW S bs
 |[],c,_=>by simp[iW]
 |b::bs,c,h=>by
  have hb:=h b (by simp)
  rw[List.foldl_cons,AM bs _ fun x hx=>h x (List.mem_cons_of_mem _ hx)]
  unfold nC iW
  rw[oZ hb.2 hb.1,oZ hb.1 hb.2,List.map_cons,List.sum_cons]
  cases S b.a<;>cases S b.b<;>simp<;>omega
theorem AN {n:Nat} {S:Nat->Bool} {bs:List PB} (h:∀b∈bs,b.a<n/\b.b<n):lV n S (kV bs)=iW S bs:=by
 rw[kV,AM bs _ h]
 have:lV n S (fun _ _=>0)=0:=jL fun u hu=>jL fun v hv=>by split<;>rfl
 omega
theorem zN:∀(bs:List PB) (c:Nat->Nat->Int),(∀b∈bs,0<=b.s)->(∀u v,0<=c u v)->∀u v,0<=bs.foldl nC c u v
 |[],c,_,h=>h
 |b::bs,c,hb,h=>by
  rw[List.foldl_cons]
  refine zN bs _ (fun x hx=>hb x (List.mem_cons_of_mem _ hx)) fun u v=>?_
  have:=hb b (by simp);have:=h u v
  unfold nC bump
  split<;>split<;>omega
theorem room_le:∀(bs:List PB) (c:Nat->Nat->Int) (m:Int),(∀b∈bs,b.s<=4)->(∀u v,c u v<=m)->0<=m->∀u v,bs.foldl nC c u v<=m+8*bs.length
 |[],c,m,_,h,_=>fun u v=>by have:=h u v;simp;omega
 |b::bs,c,m,hb,h,h0=>fun u v=>by
  rw[List.foldl_cons]
  have:=room_le bs (nC c b) (m+8) (fun x hx=>hb x (List.mem_cons_of_mem _ hx)) (fun u v=>by
   have:=hb b (by simp);have:=h u v
   unfold nC bump
   split<;>split<;>omega) (by omega) u v
  simp only[List.length_cons];omega
def kC (n:Nat) (bs:List PB) (t:Int):Prop:=∀S:Nat->Bool,S 0=true->(∃y,y<n/\S y=false)->t<=iW S bs
def FT (S:Nat->Bool) (bs:List PB) (f:Nat->Int):Int:=lK (fun i=>f i*(bi (S (cm bs i).a)-bi (S (cm bs i).b))) bs.length
structure jP (bs:List PB) (f:Nat->Int) (x y:Nat) (val:Int):Prop where
 le:∀i,i<bs.length->f i<=(cm bs i).s/\-(cm bs i).s<=f i
 cut:∀S:Nat->Bool,S x=true->S y=false->FT S bs f=val
theorem uQ (S:Nat->Bool):∀bs:List PB,iW S bs=lK (fun i=>if S (cm bs i).a=S (cm bs i).b then 0 else(cm bs i).s) bs.length:=by
 intro bs
 have key:∀n,n<=bs.length->iW S (bs.take n)=lK (fun i=>if S (cm bs i).a=S (cm bs i).b then 0 else(cm bs i).s) n:=by
  intro n
  induction n with
  |zero=>intro _;rfl
  |succ n ih=>
   intro h
   have e:cm bs n=bs[n]:=by simp[cm,List.getD_eq_getElem?_getD,List.getElem?_eq_getElem (show n<bs.length by omega)]
   rw[List.take_succ_eq_append_getElem (by omega),lK,<-ih (by omega),e]
   unfold iW
   rw[List.map_append,List.sum_append]
   simp only[List.map_cons,List.map_nil,List.sum_cons,List.sum_nil,Int.add_zero]
 have:=key bs.length (Nat.le_refl _)
 rwa [List.take_length]at this
theorem jP.bound {bs:List PB} {f:Nat->Int} {x y:Nat} {val:Int} (h:jP bs f x y val) {S:Nat->Bool} (hx:S x=true) (hy:S y=false):val<=iW S bs:=by
 rw[<-h.cut S hx hy,uQ]
 refine rY fun i hi=>?_
 have:=h.le i hi
 cases S (cm bs i).a<;>cases S (cm bs i).b<;>simp[bi]<;>omega
def fC (bs:List PB) (f:Nat->Int) (i u:Nat):Int:=if (cm bs i).a=u then(cm bs i).s-f i else(cm bs i).s+f i
def bK (bs:List PB) (i u:Nat):Nat:=if (cm bs i).a=u then(cm bs i).b else(cm bs i).a
theorem jP.full {bs:List PB} {f:Nat->Int} {x y:Nat} {val:Int} (h:jP bs f x y val) {S:Nat->Bool} (hx:S x=true) (hy:S y=false)
  (hS:∀i,i<bs.length->((cm bs i).a≠(cm bs i).b->(S (cm bs i).a=true->S (cm bs i).b=false->¬0<fC bs f i (cm bs i).a)/\(S (cm bs i).b=true->S (cm bs i).a=false->¬0<fC bs f i (cm bs i).b))):val=iW S bs:=by
 rw[<-h.cut S hx hy,uQ]
 refine gh fun i hi=>?_
 have h1:=h.le i hi
 by_cases nG:(cm bs i).a=(cm bs i).b
 ·rw[nG];simp
 ·have h2:=hS i hi nG
  unfold fC at h2
  rw[if_pos rfl,if_neg nG]at h2
  cases ha:S (cm bs i).a<;>cases hb:S (cm bs i).b<;>rw[ha,hb]at h2<;>simp[bi]at h2 ⊢ <;>omega
def tD (bs:List PB) (f:Nat->Int) (i u:Nat):Nat->Int:=fun j=>f j+if j=i then(if (cm bs i).a=u then 1 else -1)else 0
theorem FU {S:Nat->Bool} {bs:List PB} {f:Nat->Int} {i u:Nat} (hi:i<bs.length) (hu:(cm bs i).a=u∨(cm bs i).b=u):FT S bs (tD bs f i u)=FT S bs f+bi (S u)-bi (S (bK bs i u)):=by
 unfold FT tD
 have e:∀j,j<bs.length->(f j+if j=i then(if (cm bs i).a=u then 1 else -1)else 0)*(bi (S (cm bs j).a)-bi (S (cm bs j).b))=(fun j=>f j*(bi (S (cm bs j).a)-bi (S (cm bs j).b))) j+if j=i then(if (cm bs i).a=u then 1 else -1)*(bi (S (cm bs i).a)-bi (S (cm bs i).b))else 0:=by
  intro j hj
  by_cases h:j=i
  ·subst h;simp only[if_true];rw[Int.add_mul]
  ·simp only[h,if_false];simp
 rw[gh e,pf,if_pos hi]
 unfold bK
 by_cases ha:(cm bs i).a=u
 ·rw[if_pos ha,if_pos ha,ha];omega
 ·rw[if_neg ha,if_neg ha]
  rcases hu with hu|hu
  ·exact absurd hu ha
  ·rw[hu];omega
theorem oH:∀(n:Nat) (l:List Nat),l.Nodup->(∀x∈l,x<n)->l.length<=n
 |0,l,_,h=>by
  cases l with
  |nil=>simp
  |cons x l=>exact absurd (h x (by simp)) (by omega)
 |n+1,l,hn,h=>by
  have h1:=oH n (l.erase n) (hn.erase _) fun x hx=>by
   have h2:=(hn.mem_erase_iff).1 hx
   have h3:=h x h2.2
   have h4:=h2.1
   omega
  rw[List.length_erase]at h1
  split at h1<;>omega
end Go.Proofs.YtgoelphibofcmaaGreat.V

namespace Go.Proofs.YtgoelphibofcmaaGreat.V
def eL (L:Nat->Nat) (b:PB):Nat->Nat:=fun k=>if L k=max (L b.a) (L b.b)then min (L b.a) (L b.b)else L k
def eA (bs:List PB):Nat->Nat:=bs.foldl eL id
theorem vE (bs:List PB) (b:PB):eA (bs++[b])=eL (eA bs) b:=by simp[eA]
structure jx (L:Nat->Nat):Prop where
 le:∀k,L k<=k
 idem:∀k,L (L k)=L k
theorem jx.step {L:Nat->Nat} (h:jx L) (b:PB):jx (eL L b):=by
 have ha:=h.idem b.a
 have hb:=h.idem b.b
 refine⟨fun k=>?_,fun k=>?_⟩
 ·have:=h.le k
  unfold eL
  split<;>omega
 ·have hk:=h.idem k
  have hm:L (min (L b.a) (L b.b))=min (L b.a) (L b.b):=by
   rcases Nat.le_total (L b.a) (L b.b)with h1|h1
   ·rw[Nat.min_eq_left h1,ha]
   ·rw[Nat.min_eq_right h1,hb]
  unfold eL
  by_cases h1:L k=max (L b.a) (L b.b)
  ·rw[if_pos h1,hm];split<;>rfl
  ·rw[if_neg h1,hk,if_neg h1]
theorem vG:∀(bs:List PB) (L:Nat->Nat),jx L->jx (bs.foldl eL L)
 |[],_,h=>h
 |b::bs,L,h=>vG bs _ (h.step b)
theorem tx (bs:List PB):jx (eA bs):=vG bs id ⟨fun _=>Nat.le_refl _,fun _=>rfl⟩
def leads (n:Nat) (L:Nat->Nat):List Nat:=(List.range n).filter fun i=>L i==i
def members (n:Nat) (L:Nat->Nat) (i:Nat):List Nat:=(List.range n).filter fun k=>L k==i
def fq (n:Nat) (L:Nat->Nat):List (List Nat):=(leads n L).map (members n L)
def bJ (L:Nat->Nat) (k:Nat):Nat:=(leads (L k) L).length
theorem gH (n:Nat) (L:Nat->Nat):leads (n+1) L=leads n L++if L n=n then[n]else[]:=by
 unfold leads
 rw[List.range_succ,List.filter_append]
 congr 1
 by_cases h:L n=n<;>simp[h]
theorem jk (n:Nat) (L:Nat->Nat) (i:Nat):members (n+1) L i=members n L i++if L n=i then[n]else[]:=by
 unfold members
 rw[List.range_succ,List.filter_append]
 congr 1
 by_cases h:L n=i<;>simp[h]
theorem mQ {L:Nat->Nat} (h:jx L) {n i:Nat} (hn:n<=i):members n L i=[]:=by
 unfold members
 rw[List.filter_eq_nil_iff]
 intro k hk
 have:=h.le k
 have:=List.mem_range.1 hk
 simp;omega
theorem tz (n:Nat) (L:Nat->Nat):(leads n L).Nodup:=List.nodup_range.filter _
theorem ye {n:Nat} {L:Nat->Nat} {i:Nat}:i∈leads n L↔i<n/\L i=i:=by simp[leads]
theorem ly {n:Nat} {L:Nat->Nat} {i k:Nat}:k∈members n L i↔k<n/\L k=i:=by simp[members]
theorem GC {L:Nat->Nat} {m n:Nat} (h:m<=n):∃r,leads n L=leads m L++r:=by
 obtain⟨d,rfl⟩:=Nat.le.dest h
 clear h
 induction d with
 |zero=>exact⟨[],by simp⟩
 |succ d ih=>
  obtain⟨r,hr⟩:=ih
  exact⟨r++if L (m+d)=m+d then[m+d]else[],by rw[<-Nat.add_assoc,gH,hr,List.append_assoc]⟩
theorem o5 {L:Nat->Nat} (h:jx L) {n k:Nat} (hk:k<n):(leads n L)[bJ L k]? =some (L k):=by
 have h1:=h.le k
 obtain⟨r,hr⟩:=GC (L:=L) (show L k+1<=n by omega)
 rw[hr,gH,if_pos (h.idem k),List.append_assoc]
 unfold bJ
 rw[List.getElem?_append_right (Nat.le_refl _),Nat.sub_self];rfl
theorem jW {L:Nat->Nat} (h:jx L) {n k:Nat} (hk:k<n):bJ L k<(leads n L).length:=(List.getElem?_eq_some_iff.1 (o5 h hk)).1
theorem sQ {L:Nat->Nat} (h:jx L) {n k i:Nat} (hk:k<n) (hi:i<(leads n L).length):k∈members n L (leads n L)[i]↔bJ L k=i:=by
 rw[ly]
 have h1:=o5 h hk
 rw[List.getElem?_eq_getElem (jW h hk)]at h1
 injection h1 with h1
 constructor
 ·rintro⟨_,h2⟩
  rw[<-h1]at h2
  exact(List.getElem_inj (tz n L)).1 h2
 ·rintro rfl
  exact⟨hk,h1.symm⟩
def du (L:Nat->Nat) (bs:List PB):List PB:=bs.filterMap fun b=>if bJ L b.a=bJ L b.b then none else some ⟨bJ L b.a,bJ L b.b,b.s⟩
def eX (L:Nat->Nat) (bs:List PB):List PB:=bs.filterMap fun b=>if bJ L b.a=bJ L b.b then none else some ⟨min (bJ L b.a) (bJ L b.b),max (bJ L b.a) (bJ L b.b),b.s⟩
theorem zO (L:Nat->Nat) (bs:List PB) (b:PB):du L (bs++[b])=du L bs++if bJ L b.a=bJ L b.b then[]else[⟨bJ L b.a,bJ L b.b,b.s⟩]:=by
 unfold du
 rw[List.filterMap_append]
 congr 1
 by_cases h:bJ L b.a=bJ L b.b<;>simp[h]
theorem zP (L:Nat->Nat) (bs:List PB) (b:PB):eX L (bs++[b])=eX L bs++if bJ L b.a=bJ L b.b then[]else[⟨min (bJ L b.a) (bJ L b.b),max (bJ L b.a) (bJ L b.b),b.s⟩]:=by
 unfold eX
 rw[List.filterMap_append]
 congr 1
 by_cases h:bJ L b.a=bJ L b.b<;>simp[h]
theorem sC (S:Nat->Bool) (b:PB) (bs:List PB):iW S (b::bs)=(if S b.a=S b.b then 0 else b.s)+iW S bs:=by simp[iW]
theorem xE (S:Nat->Bool) (L:Nat->Nat):∀bs:List PB,iW S (eX L bs)=iW S (du L bs)
 |[]=>rfl
 |b::bs=>by
  have ih:=xE S L bs
  unfold eX du at ih ⊢
  rw[List.filterMap_cons,List.filterMap_cons]
  by_cases h:bJ L b.a=bJ L b.b
  ·simp only[h,if_true];exact ih
  ·simp only[h,if_false]
   rw[sC,sC,ih]
   congr 1
   simp only
   rcases Nat.le_total (bJ L b.a) (bJ L b.b)with h1|h1
   ·rw[Nat.min_eq_left h1,Nat.max_eq_right h1]
   ·rw[Nat.min_eq_right h1,Nat.max_eq_left h1]
    cases S (bJ L b.a)<;>cases S (bJ L b.b)<;>rfl
theorem Ec {L:Nat->Nat} (h:jx L) {n:Nat} {bs:List PB} (hb:∀b∈bs,b.a<n/\b.b<n):∀b∈du L bs,b.a<(leads n L).length/\b.b<(leads n L).length/\b.a≠b.b/\∃c∈bs,b.s=c.s:=by
 intro b hm
 unfold du at hm
 obtain⟨c,hc,he⟩:=List.mem_filterMap.1 hm
 split at he
 ·cases he
 ·rename_i gU
  simp only[Option.some.injEq]at he
  subst he
  exact⟨jW h (hb c hc).1,jW h (hb c hc).2,gU,c,hc,rfl⟩
theorem Ed {L:Nat->Nat} (h:jx L) {n:Nat} {bs:List PB} (hb:∀b∈bs,b.a<n/\b.b<n):∀b∈eX L bs,b.a<(leads n L).length/\b.b<(leads n L).length/\b.a≠b.b/\∃c∈bs,b.s=c.s:=by
 intro b hm
 unfold eX at hm
 obtain⟨c,hc,he⟩:=List.mem_filterMap.1 hm
 split at he
 ·cases he
 ·rename_i gU
  simp only[Option.some.injEq]at he
  subst he
  have h1:=jW h (hb c hc).1
  have h2:=jW h (hb c hc).2
  refine⟨by simp only;omega,by simp only;omega,by simp only;omega,c,hc,rfl⟩
theorem nf (L:Nat->Nat) (bs:List PB):(du L bs).length<=bs.length/\(eX L bs).length<=bs.length:=⟨List.length_filterMap_le ..,List.length_filterMap_le ..⟩
theorem jF (n:Nat) (L:Nat->Nat):(leads n L).length<=n:=by
 have:=List.length_filter_le (fun i=>L i==i) (List.range n)
 simpa[leads]using this
def aI (t:Int) (bs:List PB):List PB:=bs.filter fun b=>decide (t<=b.s)
def oX (n:Nat) (bs:List PB) (t:Int):Prop:=
 (leads n (eA (aI t bs))).length<=64/\kC (leads n (eA (aI t bs))).length (du (eA (aI t bs)) bs) t
theorem Dv {n:Nat} {L:Nat->Nat} {bs:List PB} {t:Int}:kC n (eX L bs) t↔kC n (du L bs) t:=by
 unfold kC
 constructor<;>intro h S h0 hy<;>have:=h S h0 hy<;>rw[xE]at *<;>exact this
end Go.Proofs.YtgoelphibofcmaaGreat.V
