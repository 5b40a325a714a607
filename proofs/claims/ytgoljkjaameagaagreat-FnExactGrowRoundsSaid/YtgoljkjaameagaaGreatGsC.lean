/- Slices of one's own that grow from an empty one. -/
import Derived.Test.YtgoljkjaameagaaGreatGsB
import Derived.Test.YtgoljkjaameagaaGreatChecked
set_option linter.unusedVariables false
set_option linter.unusedSimpArgs false
set_option maxRecDepth 100000
set_option maxHeartbeats 16000000
namespace Go.Proofs.YtgoljkjaameagaaGreat.V
open Go.RowKit
variable {P:Program} {X:gn} {K:Env->aw->Prop} {env:Env} {σ:aw}
def nN {α:Type} (enc:α->List AV) (sz:Nat) (x:AV) (g:Rows) (S:Id->Prop) (L:List α):Prop:=∃o:Id,S o/\x=.own o 0 L.length/\g o=some ⟨true,sz,L.map enc⟩
section
variable {α:Type} {enc:α->List AV} {sz:Nat} {x:AV} {g g':Rows} {S:Id->Prop} {L L':List α}
theorem nN.cast (h:nN enc sz x g S L) (hL:L'=L):nN enc sz x g S L':=by subst hL;exact h
theorem nN.frame (h:nN enc sz x g S L) (hg:∀o:Id,S o->g' o=g o):nN enc sz x g' S L:=by
 obtain⟨o,h1,h2,h3⟩:=h
 exact⟨o,h1,h2,(hg o h1).trans h3⟩
theorem nN.app (hz:∀a,(enc a).length=sz/\(enc a).all AV.cell=true) (h:nN enc sz x g S L) (id:Id) (hid:S id) (M:List α) (hlen:L.length+M.length<=dz):
  ∃v g',aY g id sz x (M.map enc)=some (v,g')/\nN enc sz v g' S (L++M)/\∀j:Id,¬S j->g' j=g j:=by
 obtain⟨o,h1,rfl,h4⟩:=h
 refine⟨.own id 0 (L.length+(M.map enc).length),bE (cj g o) id ⟨true,sz,L.map enc++M.map enc⟩,?_,⟨id,hid,by simp,by simp[bE]⟩,fun j hj=>?_⟩
 ·have ha:=all_map (l:=M) hz
  simp only[aY,h4,Option.bind_some]
  rw[if_pos ⟨trivial,trivial,by simp,by simpa using hlen,ha⟩]
 ·have e1:¬j=id:=fun h=>hj (h▸hid)
  have e2:¬j=o:=fun h=>hj (h▸h1)
  simp[bE,cj,e1,e2]
theorem TE {draw:Bool} {o:bx} {r:List bx} {x' y:O} {xv:AV} (M:List α) (ho:o.op=.append sz x' y) (hw:aM o.guard env=true) (hx:dc env x'=xv) (hO:nN enc sz xv σ.get S L)
  (hy:bw σ.get (dc env y)=some (M.map enc)) (hz:∀a,(enc a).length=sz/\(enc a).all AV.cell=true) (hid:S ⟨o.site,σ.next⟩) (hlen:L.length+M.length<=dz)
  (next:∀v g',nN enc sz v g' S (L++M)->(∀j:Id,¬S j->g' j=σ.get j)->wpOps X draw r K (upd env o.dst v) ⟨g',σ.next⟩):wpOps X draw (o::r) K env σ:=by
 obtain⟨v,g',h1,h2,h3⟩:=hO.app hz ⟨o.site,σ.next⟩ hid M hlen
 unfold wpOps
 rw[if_pos hw]
 unfold fE
 simp only[ho,fV,hy,hx,Option.bind_some,h1]
 exact next v g' h2 h3
theorem nN.gF {n:Nat} (h:nN enc sz x g S L) (he:∀a,ep g n (enc a)=some (enc a)):gF g (n+1) x=some (.sl (L.map enc)):=by
 obtain⟨o,_,rfl,h3⟩:=h
 exact gq h3 rfl he
end
theorem bH {a b:Id} (h:a.bj<b.bj):(a=b)=False/\(b=a)=False:=by
 constructor<;>(simp only[eq_iff_iff,iff_false];rintro rfl;omega)
theorem Cd {o:Id} {a:Nat} (h:o.site=a) {b v:Nat} (nV:(a==b)=false):(o=⟨b,v⟩)=False:=by
 simp only[eq_iff_iff,iff_false]
 rintro rfl
 simp only at h
 subst h
 simp at nV
def eN (n:Nat):List AV:=[.int .i64 n]
theorem fzN (g:Rows) (n:Nat) (a:Nat):cZ g (n+1) (eN a)=some (eN a):=by simp[eN,aj,ar,aH]
theorem RZ (g:Rows) (n:Nat) (a:Nat):ep g (n+1) (eN a)=some (eN a):=by simp[eN,bW,cF,eO]
def T6:ze (List Nat):=fun g cs x ids=>∃id,cs=[.own id 0 x.length]/\g id=some ⟨true,1,x.map eN⟩/\ids=[id]
theorem Ta:ui T6 1 where
 frame:=fun⟨id,h1,h2,h3⟩ hf=>by subst h3;exact⟨id,h1,(hf id (by simp)).trans h2,rfl⟩
 len:=fun⟨id,h1,_⟩=>by subst h1;rfl
 cell:=fun⟨id,h1,_⟩=>by subst h1;rfl
 live:=fun⟨id,h1,h2,h3⟩ i hi=>by
  subst h3
  have:i=id:=by simpa using hi
  subst this
  exact⟨_,h2,rfl,by simp[tp]⟩
 small:=by simp[tp]
def CC (l:List Nat):List AV:=[.sl (l.map eN)]
theorem Mt {g:Rows} {rows:List (List AV)} {xs:List (List Nat)} {ids:List Id} (n:Nat) (h:dD T6 g rows xs ids):gN g (n+2) rows=some (xs.map CC):=by
 induction h with
 |nil=>rw[gN];rfl
 |cons h1 _ ih=>
  obtain⟨id,rfl,h2,_⟩:=h1
  rw[gN,ih,bW,cF,gq (e:=eN) (sz:=1) h2 rfl fun a=>RZ g n a];rfl
end Go.Proofs.YtgoljkjaameagaaGreat.V

namespace Go.Proofs.YtgoljkjaameagaaGreat.V
open Go.RowKit
attribute [local irreducible] dK wpOps gw Call
attribute [local go_sem] aM fE eM fV fS dc upd cr K.av cI AV.cells AV.cell rowOf rowsOf part ld rowAt bE cj dy dS gU bJ cY ee fQ e6 dp dX cW cV dI dJ bP bc cL bL cP cN dV dY dW cK bU cX dU bK aO cR cC gT bw cG bQ aY dj aZ dz AV.undef bD bG dM dQ dE dG cE ec eh cz ea dZ cQ cU List.getD_cons_zero List.getD_cons_succ List.getD_nil List.all_cons List.all_nil Bool.and_true Bool.true_and Bool.and_self Bool.not_true Bool.not_false Option.map_some Option.map_none Option.bind_some Option.bind_none List.length_cons List.length_nil List.take_succ_cons List.take_zero List.take_nil List.drop_succ_cons List.drop_zero List.drop_nil List.head?_cons List.map_cons List.map_nil List.getElem?_cons_zero List.getElem?_cons_succ List.cons_append List.nil_append List.append_nil List.length_map List.set_cons_zero List.set_cons_succ Nat.reduceMul eq_self Int.toNat_natCast Int.natCast_nonneg and_self true_and and_true decide_true decide_false Bool.false_eq_true Nat.zero_add Nat.add_zero List.contains_cons List.contains_nil Bool.or_false Bool.false_or beq_self_eq_true Nat.reduceBEq ne_eq not_true_eq_false not_false_eq_true Id.mk.injEq false_and and_false Nat.reduceLT Int.reduceLE Int.reduceLT Int.reduceToNat Int.reduceNeg Int.reduceAdd Nat.le_refl List.length_append beq_true beq_false Bool.not_eq_eq_eq_not or_false false_or dH aj ar aH bh bz ck aV bd aX bf cJ bB
variable {P:Program}
def Oe {α:Type} (R:ze α) (x:α) (σ:aw) (r:AV) (σ':aw):Prop:=∃cs ids,r=.agg cs/\R σ'.get cs x ids/\eJ σ.next σ'.next ids/\Kept σ σ'
def gy {α:Type} (R:ze α) (z:Nat) (g:Rows) (a:AV) (xs:List α) (ids:List Id):Prop:=∃o rows is,a=.own o 0 xs.length/\g o=some ⟨true,z,rows⟩/\dD R g rows xs is/\ids=o::is
def Of {α:Type} (R:ze α) (z:Nat) (xs:List α) (σ:aw) (r:AV) (σ':aw):Prop:=∃ids,gy R z σ'.get r xs ids/\eJ σ.next σ'.next ids/\Kept σ σ'
theorem gy.frame {α:Type} {R:ze α} {z:Nat} {g g':Rows} {a:AV} {xs:List α} {ids:List Id} (ok:ui R z) (h:gy R z g a xs ids) (hf:∀i∈ids,g' i=g i):gy R z g' a xs ids:=by
 obtain⟨o,rows,is,h1,h2,h3,rfl⟩:=h
 exact⟨o,rows,is,h1,(hf o (by simp)).trans h2,h3.frame ok fun i hi=>hf i (by simp[hi]),rfl⟩
theorem gy.fz {α:Type} {R:ze α} {z n:Nat} {e:α->List AV} {g:Rows} {a:AV} {xs:List α} {ids:List Id} (h:gy R z g a xs ids) (hz:∀{cs x ids},R g cs x ids->cZ (dH g) n cs=some (e x)):V.fz (dH g) (n+1) a=some (.sl (xs.map e)):=by
 obtain⟨o,rows,is,rfl,h2,h3,rfl⟩:=h
 rw[iy]
 simp only[dH,h2,Option.map_some,if_true]
 rw[if_pos (by rw[h3.len];omega),List.drop_zero,List.take_of_length_le (by rw[h3.len];exact Nat.le_refl _),h3.fz hz];rfl
def mv {α:Type} (e:α->List AV):ze α:=fun _ cs x ids=>cs=e x/\ids=[]
theorem Lw {α:Type} {e:α->List AV} {z:Nat} (hz:∀x,(e x).length=z) (hc:∀x,(e x).all AV.cell=true) (hs:z<tp):ui (mv e) z where
 frame:=fun h _=>h
 len:=fun h=>by rw[h.1];exact hz _
 cell:=fun h=>by rw[h.1];exact hc _
 live:=fun h i hi=>by rw[h.2]at hi;cases hi
 small:=hs
def pq:ze fb:=fun g cs t ids=>∃i,cs=[.str t.aP,.own i 0 t.bV.length]/\g i=some ⟨true,1,t.bV.map aU⟩/\ids=[i]
theorem sn:ui pq 2 where
 frame:=fun⟨i,h1,h2,h3⟩ hf=>⟨i,h1,(hf i (by rw[h3];simp)).trans h2,h3⟩
 len:=fun⟨i,h1,_⟩=>by rw[h1];rfl
 cell:=fun⟨i,h1,_⟩=>by rw[h1];rfl
 live:=fun⟨i,h1,h2,h3⟩ j hj=>by
  rw[h3]at hj
  have:j=i:=by simpa using hj
  subst this
  exact⟨_,h2,rfl,by simp[tp]⟩
 small:=by simp[tp]
theorem Qg {g:Rows} {cs:List AV} {t:fb} {ids:List Id} (n:Nat) (h:pq g cs t ids):cZ (dH g) (n+2) cs=some (bR t):=by
 obtain⟨i,rfl,h2,_⟩:=h
 have h3:V.fz (dH g) (n+2) (.own i 0 t.bV.length)=some (.sl (t.bV.map aU)):=fB (e:=aU) (sz:=1) (by simp[dH,h2]) rfl fun x=>by simp[aU,aj,ar,aH]
 simp only[aj,ar,bz,h3,Option.map_some,bR]
theorem P9 {α:Type} {a b:List α} {x y:α} {k:Nat} (hk:a.length=k):(a++x::b).set k y=a++[y]++b:=by subst hk;simp
theorem Co {α:Type} {R:ze α} {en:α->List AV} {z fk gk:Nat} {zero:List K} (ok:ui R z) (hc:nK P fk=some (wh fk gk z zero)) (HR:zero.length=z) (hz:∀x,(en x).length=z) (xs:List α) (hlen:xs.length<=1048576)
  (hg:∀x∈xs,∀σ,Call P gk [.agg (en x)] σ (Oe R x σ)) (σ:aw):Call P fk [.sl (xs.map en)] σ (Of R z xs σ):=by
 refine eA hc rfl fun hl=>?_
 try simp only[q]
 clear hl
 have hm:(xs.length:Int)<=((16777216:Nat):Int):=ah
 have h0:(0:Int)<=(xs.length:Int):=ah
 (try((repeat(revert hN;revert N;apply Pn.out));refine wk (tw @hm (tw @h0 (tw @Int.le_refl @HR))) ?_;(repeat(refine Pn.mk ?_;intro N hN))))
 refine aQ (fun n env st=>∃k:Nat,n=(xs.length)-k/\k<=(xs.length)/\env 4=.int .i64 (k:Int)/\(σ.next+2<=st.next/\(∀y:Id,y.bj<σ.next->st.get y=σ.get y)/\∃rows is,st.get ⟨fk*1000000+1002,σ.next+1⟩=some ⟨true,z,rows++List.replicate (xs.length-k) (zero.map K.av)⟩/\dD R st.get rows (xs.take k) is/\eJ (σ.next+2) st.next is)) (xs.length) ⟨0,ah,ah,sl @Nat.zero_add,by(try dsimp only);exact⟨ah,fun y hy=>by
  have h1:=db hy
  simp only[go_sem, ↓reduceIte,Nat.reduceEqDiff,Nat.reduceAdd,Nat.reduceSub,Nat.reduceLeDiff,reduceCtorEq,h1],[],[],sl @Nat.zero_add,.nil,List.nodup_nil,fun i hi=>by cases hi⟩⟩ ?_
 rintro n_a env_a st_a ⟨k,rfl,ale,a4,ke⟩ dv
 have a0:=dv 0 (by kernel_rfl);have a3:=dv 3 (by kernel_rfl)
 simp only[go_sem, ↓reduceIte,Nat.reduceEqDiff,Nat.reduceAdd,Nat.reduceSub,Nat.reduceLeDiff,reduceCtorEq]at a0 a3
 clear dv
 obtain⟨an,aK,rows,is,ag,aR,aN⟩:=ke
 have pg:rows.length=k:=by rw[aR.len,List.length_take];omega
 by_cases hk:(k:Int)<(xs.length:Int)
 ·have cq:∀{e:Env} {gg:Rows} {nx:Nat},(e 4=.int .i64 (IntKind.i64.wrap ((k:Int)+1)))->(σ.next+2<=nx/\(∀y:Id,y.bj<σ.next->gg y=σ.get y)/\∃rows is,gg ⟨fk*1000000+1002,σ.next+1⟩=some ⟨true,z,rows++List.replicate (xs.length-(k+1)) (zero.map K.av)⟩/\dD R gg rows (xs.take (k+1)) is/\eJ (σ.next+2) nx is)->∃m0,m0<(xs.length)-k/\∃k:Nat,m0=(xs.length)-k/\k<=(xs.length)/\e 4=.int .i64 (k:Int)/\(σ.next+2<=nx/\(∀y:Id,y.bj<σ.next->gg y=σ.get y)/\∃rows is,gg ⟨fk*1000000+1002,σ.next+1⟩=some ⟨true,z,rows++List.replicate (xs.length-k) (zero.map K.av)⟩/\dD R gg rows (xs.take k) is/\eJ (σ.next+2) nx is):=fun x1 x2=>⟨_,ah,k+1,rfl,ah,(by rw[x1,ay ah]),x2⟩
  have fy:k<xs.length:=ah
  have eP:(xs.map en)[k]? =some (en xs[k]):=by simp[fy]
  have vL:=hz xs[k]
  have ht:(en xs[k]).take z=en xs[k]:=by rw[<-vL,List.take_length]
  have iR:=hg _ (List.getElem_mem fy)
  obtain⟨m,QT⟩:∃m,xs.length-k=m+1:=⟨xs.length-k-1,ah⟩
  rw[QT,List.replicate_succ]at ag
  generalize hex:en xs[k]=c at iR eP vL ht
  (try((repeat(revert hN;revert N;apply Pn.out));refine wk (tw @a4 (tw @a0 (tw @a3 (tw @hk (tw @eP (tw @vL (tw @ht @Nat.le_refl))))))) ?_;(repeat(refine Pn.mk ?_;intro N hN))))
  refine .inr (aI _ _ _ _ _ (fun r σ1 hq=>?_) (iR _))
  obtain⟨cs,ids,rfl,hR,hI,hK⟩:=hq
  obtain⟨g1,x1⟩:=σ1
  (try dsimp only at hR hI hK)
  have CG:=(hK.2 ⟨fk*1000000+1002,σ.next+1⟩ aT)
  simp only[go_sem, ↓reduceIte,Nat.reduceEqDiff,Nat.reduceAdd,Nat.reduceSub,Nat.reduceLeDiff,reduceCtorEq,ag]at CG
  have mO:=ok.len hR
  have By:=ok.cell hR
  have eR:(rows++zero.map K.av::List.replicate m (zero.map K.av))[k]? =some (zero.map K.av):=by rw[List.getElem?_append_right ah,pg,Nat.sub_self];rfl
  have eb:(rows++zero.map K.av::List.replicate m (zero.map K.av)).set k cs=rows++[cs]++List.replicate m (zero.map K.av):=P9 pg
  have LN:(zero.map K.av).drop z=[]:=List.drop_of_length_le (by simp[HR])
  have HM:(rows++zero.map K.av::List.replicate m (zero.map K.av)).length=xs.length:=by simp[pg];omega
  refine hN _ _ ?_
  clear hN N
  (try((repeat(revert hN;revert N;apply Pn.out));refine wk (tw @a4 (tw @a0 (tw @a3 (tw @hk (tw @CG (tw @eR (tw @eb (tw @HM (tw @LN (tw @xp (tw @mO (tw @By (tw @Nat.le_refl @HR))))))))))))) ?_;(repeat(refine Pn.mk ?_;intro N hN))))
  have uF:=hK.1
  have Kv:∀i∈is,(i=⟨fk*1000000+1002,σ.next+1⟩)=False:=fun i hi=>eq_false fun e=>by
   have:=(aN.2 i hi).1
   subst e;(try dsimp only at this);omega
  have Ab:∀i∈ids,(i=⟨fk*1000000+1002,σ.next+1⟩)=False:=fun i hi=>eq_false fun e=>by
   have:=(hI.2 i hi).1
   subst e;(try dsimp only at this);omega
  exact cq (sd (tw @a4 (tw @a0 @a3))) (by(try dsimp only at *);exact⟨ah,fun y hy=>by
   have h1:=db hy
   have h2:=hK.2 y aT
   have h3:=aK y hy
   simp only[go_sem, ↓reduceIte,Nat.reduceEqDiff,Nat.reduceAdd,Nat.reduceSub,Nat.reduceLeDiff,reduceCtorEq]at h2
   simp only[go_sem, ↓reduceIte,Nat.reduceEqDiff,Nat.reduceAdd,Nat.reduceSub,Nat.reduceLeDiff,reduceCtorEq,h1,h2,h3],rows++[cs],is++ids,by
    rw[show xs.length-(k+1)=m by omega]
    simp only[go_sem, ↓reduceIte,Nat.reduceEqDiff,Nat.reduceAdd,Nat.reduceSub,Nat.reduceLeDiff,reduceCtorEq]<;>rfl,by
    rw[List.take_succ_eq_append_getElem fy]
    refine((aR.frame ok fun i hi=>?_).app (.one (ok.frame hR fun i hi=>?_)))
    ·have h1:=Kv i hi
     have h2:=hK.2 i (by(try dsimp only);have:=(aN.2 i hi).2;omega)
     simp only[go_sem, ↓reduceIte,Nat.reduceEqDiff,Nat.reduceAdd,Nat.reduceSub,Nat.reduceLeDiff,reduceCtorEq]at h2
     simp only[go_sem, ↓reduceIte,Nat.reduceEqDiff,Nat.reduceAdd,Nat.reduceSub,Nat.reduceLeDiff,reduceCtorEq,h1,h2]
    ·have h1:=Ab i hi
     simp only[go_sem, ↓reduceIte,Nat.reduceEqDiff,Nat.reduceAdd,Nat.reduceSub,Nat.reduceLeDiff,reduceCtorEq,h1],(aN.app hI aT ah aT).wide (Nat.le_refl _) aT⟩)
 ·(try((repeat(revert hN;revert N;apply Pn.out));refine wk (tw @a4 (tw @a0 (tw @a3 @hk))) ?_;(repeat(refine Pn.mk ?_;intro N hN))))
  have fy:k=xs.length:=ah
  subst fy
  rw[Nat.sub_self,List.replicate_zero,List.append_nil]at ag
  rw[List.take_length]at aR
  refine eS (.inl rfl) (vs:=[.own ⟨fk*1000000+1002,σ.next+1⟩ 0 xs.length]) (sd (tw @a4 (tw @a0 @a3))) ?_
  exact⟨_,⟨_,rows,is,rfl,ag,aR,rfl⟩,⟨List.nodup_cons.2 ⟨fun hi=>by have:=(aN.2 _ hi).1;(try dsimp only at this);omega,aN.1⟩,fun i hi=>by
   rcases List.mem_cons.1 hi with rfl|hi
   ·(try dsimp only);omega
   ·have:=aN.2 i hi;(try dsimp only);omega⟩,⟨aT,fun j hj=>aK j hj⟩⟩
end Go.Proofs.YtgoljkjaameagaaGreat.V

namespace Go.Proofs.YtgoljkjaameagaaGreat.V
open Go.RowKit
attribute [local irreducible] dK wpOps gw Call
attribute [local go_sem] aM fE eM fV fS dc upd cr K.av cI AV.cells AV.cell rowOf rowsOf part ld rowAt bE cj dy dS gU bJ cY ee fQ e6 dp dX cW cV dI dJ bP bc cL bL cP cN dV dY dW cK bU cX dU bK aO cR cC gT bw cG bQ aY dj aZ dz AV.undef bD bG dM dQ dE dG cE ec eh cz ea dZ cQ cU List.getD_cons_zero List.getD_cons_succ List.getD_nil List.all_cons List.all_nil Bool.and_true Bool.true_and Bool.and_self Bool.not_true Bool.not_false Option.map_some Option.map_none Option.bind_some Option.bind_none List.length_cons List.length_nil List.take_succ_cons List.take_zero List.take_nil List.drop_succ_cons List.drop_zero List.drop_nil List.head?_cons List.map_cons List.map_nil List.getElem?_cons_zero List.getElem?_cons_succ List.cons_append List.nil_append List.append_nil List.length_map List.set_cons_zero List.set_cons_succ Nat.reduceMul eq_self Int.toNat_natCast Int.natCast_nonneg and_self true_and and_true decide_true decide_false Bool.false_eq_true Nat.zero_add Nat.add_zero List.contains_cons List.contains_nil Bool.or_false Bool.false_or beq_self_eq_true Nat.reduceBEq ne_eq not_true_eq_false not_false_eq_true Id.mk.injEq false_and and_false Nat.reduceLT Int.reduceLE Int.reduceLT Int.reduceToNat Int.reduceNeg Int.reduceAdd Nat.le_refl List.length_append beq_true beq_false Bool.not_eq_eq_eq_not or_false false_or dH aj ar aH bh bz ck aV bd aX bf cJ bB
theorem gy.mT {α:Type} {R:ze α} {z:Nat} {g:Rows} {a:AV} {xs:List α} {ids:List Id} (h:gy R z g a xs ids):∃o,a=.own o 0 xs.length:=by
 obtain⟨o,rows,is,rfl,_⟩:=h;exact⟨o,rfl⟩
theorem Nv (xs:List Int) (hlen:xs.length<=1048576) (σ:aw):Call Tryz.prog 17 [.sl (xs.map aU)] σ (fun r σ'=>∃i,r=.own i 0 xs.length/\σ'.get i=some ⟨true,1,xs.map aU⟩/\eJ σ.next σ'.next [i]/\Kept σ σ'):=by
 refine eA (show nK Tryz.prog 17=some (Nx 17 (.int .i64 0)) by kernel_rfl) rfl fun hl=>?_
 try simp only[q]
 clear hl
 obtain⟨en,DG⟩:∃en:Int->List AV,en=aU:=⟨_,rfl⟩
 rw[<-DG]
 have hm:(xs.length:Int)<=((16777216:Nat):Int):=ah
 have h0:(0:Int)<=(xs.length:Int):=ah
 (try((repeat(revert hN;revert N;apply Pn.out));refine wk (tw @hm (tw @h0 (tw @Int.le_refl (pG en [AV.int .i64 0] xs)))) ?_;(repeat(refine Pn.mk ?_;intro N hN))))
 refine aQ (fun n env st=>∃k:Nat,n=(xs.length)-k/\k<=(xs.length)/\env 4=.int .i64 (k:Int)/\st.get ⟨17*1000000+1002,σ.next+1⟩=some ⟨true,1,iw en [AV.int .i64 0] xs k⟩/\(σ.next+2<=st.next/\∀y:Id,y.bj<σ.next->st.get y=σ.get y)) (xs.length) ⟨0,ah,ah,sl @Nat.zero_add,sl @Nat.zero_add,by(try dsimp only);exact⟨ah,fun y hy=>by
  have h1:=db hy
  simp only[go_sem, ↓reduceIte,Nat.reduceEqDiff,Nat.reduceAdd,Nat.reduceSub,Nat.reduceLeDiff,reduceCtorEq,h1]⟩⟩ ?_
 rintro n_a env_a st_a ⟨k,rfl,ale,a4,ag0,ke⟩ dv
 have a0:=dv 0 (by kernel_rfl);have a3:=dv 3 (by kernel_rfl)
 simp only[go_sem, ↓reduceIte,Nat.reduceEqDiff,Nat.reduceAdd,Nat.reduceSub,Nat.reduceLeDiff,reduceCtorEq]at a0 a3
 clear dv
 obtain⟨an,aK⟩:=ke
 by_cases hk:(k:Int)<(xs.length:Int)
 ·have cq:∀{e:Env} {gg:Rows} {nx:Nat},(e 4=.int .i64 (IntKind.i64.wrap ((k:Int)+1)))->(gg ⟨17*1000000+1002,σ.next+1⟩=some ⟨true,1,iw en [AV.int .i64 0] xs (k+1)⟩)->(σ.next+2<=nx/\∀y:Id,y.bj<σ.next->gg y=σ.get y)->∃m0,m0<(xs.length)-k/\∃k:Nat,m0=(xs.length)-k/\k<=(xs.length)/\e 4=.int .i64 (k:Int)/\gg ⟨17*1000000+1002,σ.next+1⟩=some ⟨true,1,iw en [AV.int .i64 0] xs k⟩/\(σ.next+2<=nx/\∀y:Id,y.bj<σ.next->gg y=σ.get y):=fun x1 x2 x3=>⟨_,ah,k+1,rfl,ah,(by rw[x1,ay ah]),x2,x3⟩
  have fy:k<xs.length:=ah
  have eP:(xs.map en)[k]? =some [AV.int .i64 xs[k]]:=by simp[fy,DG,aU]
  have fu:=rP en [AV.int .i64 0] xs fy
  have eb:=rQ en [AV.int .i64 0] xs fy
  rw[show en xs[k]=[AV.int .i64 xs[k]] by rw[DG];rfl]at eb
  (try((repeat(revert hN;revert N;apply Pn.out));refine wk (tw @a4 (tw @ag0 (tw @a0 (tw @a3 (tw @hk (tw @eP (tw @fu @eb))))))) ?_;(repeat(refine Pn.mk ?_;intro N hN))))
  refine cq ?_ ?_ (by(try dsimp only);exact⟨ah,fun y hy=>by
   have h1:=db hy
   have h3:=aK y hy
   simp only[go_sem, ↓reduceIte,Nat.reduceEqDiff,Nat.reduceAdd,Nat.reduceSub,Nat.reduceLeDiff,reduceCtorEq,h1,h3]⟩)
  all_goals simp only[go_sem, ↓reduceIte,Nat.reduceEqDiff,Nat.reduceAdd,Nat.reduceSub,Nat.reduceLeDiff,reduceCtorEq,a4,ag0,a0,a3]
 ·(try((repeat(revert hN;revert N;apply Pn.out));refine wk (tw @a4 (tw @ag0 (tw @a0 (tw @a3 @hk)))) ?_;(repeat(refine Pn.mk ?_;intro N hN))))
  have fy:k=xs.length:=ah
  subst fy
  refine eS (.inl rfl) (vs:=[.own ⟨17*1000000+1002,σ.next+1⟩ 0 xs.length]) (sd (tw @a4 (tw @ag0 (tw @a0 @a3)))) ?_
  rw[rO]at ag0
  exact⟨_,rfl,ag0,⟨List.nodup_cons.2 ⟨by simp,List.nodup_nil⟩,fun i hi=>by
   rw[List.mem_singleton.1 hi];(try dsimp only);omega⟩,⟨aT,fun j hj=>aK j hj⟩⟩
theorem Ny (p:fb) (hs:uj p) (σ:aw):Call Tryz.prog 198 [.agg (bR p)] σ (Oe pq p σ):=by
 refine eA eF rfl fun hl=>?_
 clear hl
 (try((repeat(revert hN;revert N;apply Pn.out));refine wk @bR.eq_1 ?_;(repeat(refine Pn.mk ?_;intro N hN))))
 refine .inr (aI _ _ _ _ _ (fun r σ1 hq=>?_) (Nv p.bV hs _))
 obtain⟨i,rfl,hg,hI,hK⟩:=hq
 obtain⟨g1,x1⟩:=σ1
 (try dsimp only at hg hI hK)
 have hn:=hK.1
 refine hN _ _ ?_
 clear hN N
 have hi:=hI.2 i (by simp)
 have k2:=hK.2 ⟨198000001,σ.next⟩ aT
 have k3:=hK.2 ⟨198001000,σ.next+1⟩ aT
 simp only[go_sem, ↓reduceIte,Nat.reduceEqDiff,Nat.reduceAdd,Nat.reduceSub,Nat.reduceLeDiff,reduceCtorEq]at k2 k3
 (try((repeat(revert hN;revert N;apply Pn.out));refine wk (tw @bR.eq_1 (tw @k2 @k3)) ?_;(repeat(refine Pn.mk ?_;intro N hN))))
 refine eS (.inl rfl) (vs:=[.agg [.str p.aP,.own i 0 p.bV.length]]) (sd @Nat.zero_add) ?_
 refine⟨_,[i],rfl,⟨i,rfl,?_,rfl⟩,⟨hI.1,fun j hj=>?_⟩,⟨?_,fun j hj=>?_⟩⟩
 ·have i2:=bH (b:=i) (a:=⟨198000001,σ.next⟩) (by(try dsimp only at *);omega)
  have i3:=bH (b:=i) (a:=⟨198001000,σ.next+1⟩) (by(try dsimp only at *);omega)
  simp only[go_sem, ↓reduceIte,Nat.reduceEqDiff,Nat.reduceAdd,Nat.reduceSub,Nat.reduceLeDiff,reduceCtorEq,i2,i3,hg]
 ·rw[List.mem_singleton.1 hj]
  (try dsimp only at *);omega
 ·(try dsimp only at *);omega
 ·have h2:=hK.2 j aT
  have h1:=db hj
  simp only[go_sem, ↓reduceIte,Nat.reduceEqDiff,Nat.reduceAdd,Nat.reduceSub,Nat.reduceLeDiff,reduceCtorEq,h1]at h2
  simp only[go_sem, ↓reduceIte,Nat.reduceEqDiff,Nat.reduceAdd,Nat.reduceSub,Nat.reduceLeDiff,reduceCtorEq,h1,h2]
theorem Dm:ui (mv cm) 2:=Lw (fun _=>rfl) (fun _=>rfl) (by simp[tp])
theorem Dn:ui (mv ab) 3:=Lw (fun _=>rfl) (fun _=>rfl) (by simp[tp])
theorem Nt (p:gh) (σ:aw):Call Tryz.prog 197 [.agg (cm p)] σ (Oe (mv cm) p σ):=by
 refine eA eF rfl fun hl=>?_
 clear hl
 (try((repeat(revert hN;revert N;apply Pn.out));refine wk @cm.eq_1 ?_;(repeat(refine Pn.mk ?_;intro N hN))))
 refine eS (.inl rfl) (vs:=[.agg (cm p)]) (sd @cm.eq_1) ?_
 exact⟨_,[],rfl,⟨rfl,rfl⟩,⟨List.nodup_nil,fun i hi=>by cases hi⟩,⟨aT,fun j hj=>by
  have h1:=db hj
  simp only[go_sem, ↓reduceIte,Nat.reduceEqDiff,Nat.reduceAdd,Nat.reduceSub,Nat.reduceLeDiff,reduceCtorEq,h1]⟩⟩
theorem G7 (p:aa) (σ:aw):Call Tryz.prog 149 [.agg (ab p)] σ (Oe (mv ab) p σ):=by
 refine eA eF rfl fun hl=>?_
 clear hl
 have h:=AS p.aJ
 rw[ae]at h
 (repeat(first|((repeat(revert hN;revert N;apply Pn.out));refine wk @ab.eq_1 ?_;(repeat(refine Pn.mk ?_;intro N hN)))|((try apply Or.inl);refine⟨_,lv.x (h) _,?_⟩;refine hN _ _ ?_;clear hN N)))
 refine eS (.inl rfl) (vs:=[.agg (ab p)]) (sd @ab.eq_1) ?_
 exact⟨_,[],rfl,⟨rfl,rfl⟩,⟨List.nodup_nil,fun i hi=>by cases hi⟩,⟨aT,fun j hj=>by
  have h1:=db hj
  simp only[go_sem, ↓reduceIte,Nat.reduceEqDiff,Nat.reduceAdd,Nat.reduceSub,Nat.reduceLeDiff,reduceCtorEq,h1]⟩⟩
theorem Kg (xs:List gh) (h:xs.length<=1048576) (σ:aw):Call Tryz.prog 129 [.sl (xs.map cm)] σ (Of (mv cm) 2 xs σ):=
 Co Dm (show nK Tryz.prog 129=some (wh 129 197 2 [.str [],.int .i64 0]) by kernel_rfl) rfl (fun _=>rfl) xs h (fun x _ σ=>Nt x σ) σ
theorem Ki (xs:List fb) (h:xs.length<=1048576) (hs:∀t∈xs,uj t) (σ:aw):Call Tryz.prog 130 [.sl (xs.map bR)] σ (Of pq 2 xs σ):=
 Co sn (show nK Tryz.prog 130=some (wh 130 198 2 [.str [],.bI]) by kernel_rfl) rfl (fun _=>rfl) xs h (fun x hx σ=>Ny x (hs x hx) σ) σ
theorem EO (xs:List aa) (h:xs.length<=1048576) (σ:aw):Call Tryz.prog 80 [.sl (xs.map ab)] σ (Of (mv ab) 3 xs σ):=
 Co Dn (show nK Tryz.prog 80=some (wh 80 149 3 [.int .i64 0,.int .i64 0,.int .i64 0]) by kernel_rfl) rfl (fun _=>rfl) xs h (fun x _ σ=>G7 x σ) σ
def UJ (g:Rows) (v:AV) (a:iP) (ids:List Id):Prop:=∃x,v=.agg [x]/\gy (mv ab) 3 g x a.ai ids
structure CR (g:Rows) (v:AV) (s:aE) (ids:List Id):Prop where
 ex:∃a b c i1 i2 i3,v=.agg [a,b,c,.int .i64 s.az]/\gy (mv cm) 2 g a s.aC.aB i1/\gy pq 2 g b s.aC.ai i2/\gy (mv ab) 3 g c s.bY.ai i3/\ids=i1++(i2++i3)
theorem CR.frame {g g':Rows} {v:AV} {s:aE} {ids:List Id} (h:CR g v s ids) (hf:∀i∈ids,g' i=g i):CR g' v s ids:=by
 obtain⟨a,b,c,i1,i2,i3,h1,h2,h3,h4,rfl⟩:=h.ex
 exact⟨a,b,c,i1,i2,i3,h1,h2.frame Dm fun i hi=>hf i (by simp[hi]),h3.frame sn fun i hi=>hf i (by simp[hi]),h4.frame Dn fun i hi=>hf i (by simp[hi]),rfl⟩
theorem CR.fz {g:Rows} {v:AV} {s:aE} {ids:List Id} (n:Nat) (h:CR g v s ids):V.fz (dH g) (n+5) v=some (.agg (aA s)):=by
 obtain⟨a,b,c,i1,i2,i3,rfl,h2,h3,h4,rfl⟩:=h.ex
 have q1:=h2.fz (n:=n+3) (e:=cm) fun hc=>by rw[hc.1];simp[cm,aj,ar,aH,bz]
 have q2:=h3.fz (n:=n+3) (e:=bR) fun hc=>Qg (n+1) hc
 have q3:=h4.fz (n:=n+3) (e:=ab) fun hc=>by rw[hc.1];simp[ab,aj,ar,aH]
 simp only[bd,aj,ar,q1,q2,q3,aH,Option.map_some,aA]
theorem Cm (p:iP) (hs:p.ai.length<=1048576) (σ:aw):Call Tryz.prog 18 [.agg (eu p)] σ (fun r σ'=>∃ids,UJ σ'.get r p ids/\eJ σ.next σ'.next ids/\Kept σ σ'):=by
 refine eA eF rfl fun hl=>?_
 clear hl
 (try((repeat(revert hN;revert N;apply Pn.out));refine wk @eu.eq_1 ?_;(repeat(refine Pn.mk ?_;intro N hN))))
 refine .inr (aI _ _ _ _ _ (fun r σ1 hq=>?_) (EO p.ai hs _))
 obtain⟨ids,hR,hI,hK⟩:=hq
 obtain⟨g1,x1⟩:=σ1
 (try dsimp only at hR hI hK)
 have hn:=hK.1
 obtain⟨o,rows,is,rfl,hg,Y6,rfl⟩:=hR
 refine hN _ _ ?_
 clear hN N
 have k2:=hK.2 ⟨18000001,σ.next⟩ aT
 have k3:=hK.2 ⟨18001000,σ.next+1⟩ aT
 simp only[go_sem, ↓reduceIte,Nat.reduceEqDiff,Nat.reduceAdd,Nat.reduceSub,Nat.reduceLeDiff,reduceCtorEq]at k2 k3
 (try((repeat(revert hN;revert N;apply Pn.out));refine wk (tw @eu.eq_1 (tw @k2 @k3)) ?_;(repeat(refine Pn.mk ?_;intro N hN))))
 refine eS (.inl rfl) (vs:=[.agg [.own o 0 p.ai.length]]) (sd @Nat.zero_add) ?_
 have hb:=hI.2
 (try dsimp only at hb hn)
 refine⟨_,⟨_,rfl,gy.frame Dn ⟨o,rows,is,rfl,hg,Y6,rfl⟩ fun j hj=>?_⟩,⟨hI.1,fun j hj=>?_⟩,⟨?_,fun j hj=>?_⟩⟩
 ·have Ky:=hb j hj
  have i2:=bH (b:=j) (a:=⟨18000001,σ.next⟩) aT
  have i3:=bH (b:=j) (a:=⟨18001000,σ.next+1⟩) aT
  simp only[go_sem, ↓reduceIte,Nat.reduceEqDiff,Nat.reduceAdd,Nat.reduceSub,Nat.reduceLeDiff,reduceCtorEq,i2,i3]
 ·have:=hb j hj
  (try dsimp only);omega
 ·(try dsimp only);omega
 ·have h2:=hK.2 j aT
  have h1:=db hj
  simp only[go_sem, ↓reduceIte,Nat.reduceEqDiff,Nat.reduceAdd,Nat.reduceSub,Nat.reduceLeDiff,reduceCtorEq,h1]at h2
  simp only[go_sem, ↓reduceIte,Nat.reduceEqDiff,Nat.reduceAdd,Nat.reduceSub,Nat.reduceLeDiff,reduceCtorEq,h1,h2]
theorem ER (p:ax) (hs:KQ p) (σ:aw):Call Tryz.prog 63 [.agg (ad p)] σ (fun r σ'=>∃a b i1 i2,r=.agg [a,b]/\gy (mv cm) 2 σ'.get a p.aB i1/\gy pq 2 σ'.get b p.ai i2/\eJ σ.next σ'.next (i1++i2)/\Kept σ σ'):=by
 refine eA eF rfl fun hl=>?_
 clear hl
 (try((repeat(revert hN;revert N;apply Pn.out));refine wk @ad.eq_1 ?_;(repeat(refine Pn.mk ?_;intro N hN))))
 refine .inr (aI _ _ _ _ _ (fun r σ1 hq=>?_) (Kg p.aB hs.g _))
 obtain⟨i1,hR,hI,hK⟩:=hq
 obtain⟨g1,x1⟩:=σ1
 (try dsimp only at hR hI hK)
 have hn:=hK.1
 obtain⟨o,rows,is,rfl,hg,Y6,rfl⟩:=hR
 have hb:=hI.2
 (try dsimp only at hb hn)
 refine hN _ _ ?_
 clear hN N
 have k1:=hK.2 ⟨63000000,σ.next⟩ aT
 have k2:=hK.2 ⟨63000001,σ.next⟩ aT
 have k3:=hK.2 ⟨63001000,σ.next+1⟩ aT
 simp only[go_sem, ↓reduceIte,Nat.reduceEqDiff,Nat.reduceAdd,Nat.reduceSub,Nat.reduceLeDiff,reduceCtorEq]at k1 k2 k3
 (try((repeat(revert hN;revert N;apply Pn.out));refine wk (tw @ad.eq_1 (tw @k1 (tw @k2 @k3))) ?_;(repeat(refine Pn.mk ?_;intro N hN))))
 refine .inr (aI _ _ _ _ _ (fun r σ2 hq=>?_) (Ki p.ai hs.t hs.s _))
 obtain⟨i2,hS,hJ,hL⟩:=hq
 obtain⟨g2,x2⟩:=σ2
 (try dsimp only at hS hJ hL)
 have Ga:=hL.1
 obtain⟨o2,WA,is2,rfl,Sq,hS',rfl⟩:=hS
 have hc:=hJ.2
 (try dsimp only at hc Ga)
 refine hN _ _ ?_
 clear hN N
 have l2:=hL.2 ⟨63000001,σ.next⟩ aT
 have l3:=hL.2 ⟨63001000,σ.next+1⟩ aT
 simp only[go_sem, ↓reduceIte,Nat.reduceEqDiff,Nat.reduceAdd,Nat.reduceSub,Nat.reduceLeDiff,reduceCtorEq,k2,k3]at l2 l3
 (try((repeat(revert hN;revert N;apply Pn.out));refine wk (tw @ad.eq_1 (tw @l2 @l3)) ?_;(repeat(refine Pn.mk ?_;intro N hN))))
 refine eS (.inl rfl) (vs:=[.agg [.own o 0 p.aB.length,.own o2 0 p.ai.length]]) (sd @Nat.zero_add) ?_
 have fr:∀x:Id,σ.next+2<=x.bj->(x=⟨63000001,σ.next⟩)=False/\(x=⟨63001000,σ.next+1⟩)=False:=fun x hx=>⟨(bH (a:=⟨63000001,σ.next⟩) (b:=x) aT).2,(bH (a:=⟨63001000,σ.next+1⟩) (b:=x) aT).2⟩
 refine⟨_,_,_,_,rfl,gy.frame (g:=g1) Dm ⟨o,rows,is,rfl,hg,Y6,rfl⟩ fun i hi=>?_,gy.frame (g:=g2) sn ⟨o2,WA,is2,rfl,Sq,hS',rfl⟩ fun i hi=>?_,?_,⟨aT,fun j hj=>?_⟩⟩
 ·have h1:=hb i hi
  have h2:=hL.2 i aT
  have h3:=fr i ah
  simp only[go_sem, ↓reduceIte,Nat.reduceEqDiff,Nat.reduceAdd,Nat.reduceSub,Nat.reduceLeDiff,reduceCtorEq,h3]at h2
  simp only[go_sem, ↓reduceIte,Nat.reduceEqDiff,Nat.reduceAdd,Nat.reduceSub,Nat.reduceLeDiff,reduceCtorEq,h2,h3]
 ·have h1:=hc i hi
  have h3:=fr i ah
  simp only[go_sem, ↓reduceIte,Nat.reduceEqDiff,Nat.reduceAdd,Nat.reduceSub,Nat.reduceLeDiff,reduceCtorEq,h3]
 ·(try dsimp only at *)
  exact(hI.app hJ ah ah ah).wide ah ah
 ·have h1:=db hj
  have h2:=hL.2 j aT
  have h3:=hK.2 j aT
  simp only[go_sem, ↓reduceIte,Nat.reduceEqDiff,Nat.reduceAdd,Nat.reduceSub,Nat.reduceLeDiff,reduceCtorEq,h1]at h2 h3
  simp only[go_sem, ↓reduceIte,Nat.reduceEqDiff,Nat.reduceAdd,Nat.reduceSub,Nat.reduceLeDiff,reduceCtorEq,h1,h2,h3]
theorem Ha (p:aE) (hs:vg p) (σ:aw):Call Tryz.prog 16 [.agg (aA p)] σ (fun r σ'=>∃ids,CR σ'.get r p ids/\eJ σ.next σ'.next ids/\Kept σ σ'):=by
 refine eA eF rfl fun hl=>?_
 clear hl
 have t1:=fun σ=>ER p.aC hs.s σ
 have t2:=fun σ=>Cm p.bY hs.a σ
 rw[ad]at t1
 rw[eu]at t2
 (try((repeat(revert hN;revert N;apply Pn.out));refine wk @aA.eq_1 ?_;(repeat(refine Pn.mk ?_;intro N hN))))
 refine .inr (aI _ _ _ _ _ (fun r σ1 hq=>?_) (t1 _))
 obtain⟨a,b,i1,i2,rfl,hA,hB,hI,hK⟩:=hq
 obtain⟨g1,x1⟩:=σ1
 (try dsimp only at hA hB hI hK)
 have hn:=hK.1
 have hb:=hI.2
 (try dsimp only at hb hn)
 refine hN _ _ ?_
 clear hN N
 have k1:=hK.2 ⟨16000000,σ.next⟩ aT
 have k2:=hK.2 ⟨16000001,σ.next⟩ aT
 have k3:=hK.2 ⟨16001000,σ.next+1⟩ aT
 simp only[go_sem, ↓reduceIte,Nat.reduceEqDiff,Nat.reduceAdd,Nat.reduceSub,Nat.reduceLeDiff,reduceCtorEq]at k1 k2 k3
 obtain⟨oa,rfl⟩:=hA.mT
 obtain⟨ob,rfl⟩:=hB.mT
 (try((repeat(revert hN;revert N;apply Pn.out));refine wk (tw @aA.eq_1 (tw @k1 (tw @k2 @k3))) ?_;(repeat(refine Pn.mk ?_;intro N hN))))
 refine .inr (aI _ _ _ _ _ (fun r σ2 hq=>?_) (t2 _))
 obtain⟨i3,hC,hJ,hL⟩:=hq
 obtain⟨g2,x2⟩:=σ2
 (try dsimp only at hC hJ hL)
 have Ga:=hL.1
 have hc:=hJ.2
 (try dsimp only at hc Ga)
 obtain⟨c,rfl,hC⟩:=hC
 obtain⟨oc,rfl⟩:=hC.mT
 refine hN _ _ ?_
 clear hN N
 have l1:=hL.2 ⟨16000000,σ.next⟩ aT
 have l2:=hL.2 ⟨16000001,σ.next⟩ aT
 have l3:=hL.2 ⟨16001000,σ.next+1⟩ aT
 simp only[go_sem, ↓reduceIte,Nat.reduceEqDiff,Nat.reduceAdd,Nat.reduceSub,Nat.reduceLeDiff,reduceCtorEq,k1,k2,k3]at l1 l2 l3
 (try((repeat(revert hN;revert N;apply Pn.out));refine wk (tw @aA.eq_1 (tw @l1 (tw @l2 @l3))) ?_;(repeat(refine Pn.mk ?_;intro N hN))))
 refine eS (.inl rfl) (vs:=[.agg [.own oa 0 p.aC.aB.length,.own ob 0 p.aC.ai.length,.own oc 0 p.bY.ai.length,.int .i64 p.az]]) (sd @Nat.zero_add) ?_
 have fr:∀x:Id,σ.next+2<=x.bj->(x=⟨16000001,σ.next⟩)=False/\(x=⟨16001000,σ.next+1⟩)=False:=fun x hx=>⟨(bH (a:=⟨16000001,σ.next⟩) (b:=x) aT).2,(bH (a:=⟨16001000,σ.next+1⟩) (b:=x) aT).2⟩
 have Ud:∀i∈i1++i2,g2 i=g1 i:=fun i hi=>by
  have h1:=hb i hi
  have h2:=hL.2 i aT
  have h3:=fr i ah
  simp only[go_sem, ↓reduceIte,Nat.reduceEqDiff,Nat.reduceAdd,Nat.reduceSub,Nat.reduceLeDiff,reduceCtorEq,h3]at h2
  exact h2
 refine⟨i1++(i2++i3),⟨_,_,_,i1,i2,i3,rfl,hA.frame Dm fun i hi=>?_,hB.frame sn fun i hi=>?_,hC.frame Dn fun i hi=>?_,rfl⟩,?_,⟨aT,fun j hj=>?_⟩⟩
 ·have h1:=hb i (by simp[hi])
  have h2:=Ud i (by simp[hi])
  have h3:=fr i ah
  simp only[go_sem, ↓reduceIte,Nat.reduceEqDiff,Nat.reduceAdd,Nat.reduceSub,Nat.reduceLeDiff,reduceCtorEq,h2,h3]
 ·have h1:=hb i (by simp[hi])
  have h2:=Ud i (by simp[hi])
  have h3:=fr i ah
  simp only[go_sem, ↓reduceIte,Nat.reduceEqDiff,Nat.reduceAdd,Nat.reduceSub,Nat.reduceLeDiff,reduceCtorEq,h2,h3]
 ·have h1:=hc i hi
  have h3:=fr i ah
  simp only[go_sem, ↓reduceIte,Nat.reduceEqDiff,Nat.reduceAdd,Nat.reduceSub,Nat.reduceLeDiff,reduceCtorEq,h3]
 ·(try dsimp only at *)
  rw[<-List.append_assoc]
  exact(hI.app hJ ah ah ah).wide ah ah
 ·have h1:=db hj
  have h2:=hL.2 j aT
  have h3:=hK.2 j aT
  simp only[go_sem, ↓reduceIte,Nat.reduceEqDiff,Nat.reduceAdd,Nat.reduceSub,Nat.reduceLeDiff,reduceCtorEq,h1]at h2 h3
  simp only[go_sem, ↓reduceIte,Nat.reduceEqDiff,Nat.reduceAdd,Nat.reduceSub,Nat.reduceLeDiff,reduceCtorEq,h1,h2,h3]
end Go.Proofs.YtgoljkjaameagaaGreat.V

namespace Go.Proofs.YtgoljkjaameagaaGreat
open Go.RowKit
def lT (n:Int):Bool:=(decide (97<=n)&&decide (n<=122))||(decide (65<=n)&&decide (n<=90))
def mi (n:Int):Bool:=decide (48<=n)&&decide (n<=57)
def wq (i:Nat) (n:Int):Prop:=lT n=true∨(0<i/\(mi n=true∨n=95))
def xi (s:ByteArray):Prop:=(1<=s.size/\s.size<=12)/\∀i (h:i<s.size),wq i s[i].toNat
open Classical in
noncomputable def kc (s:ByteArray):Bool:=decide (xi s)
theorem Gx {s:ByteArray} (h:xi s):true=kc s:=by simp[kc,h]
theorem eD {s:ByteArray} (h:¬xi s):false=kc s:=by simp[kc,h]
theorem Ep {s:ByteArray} {b:Bool} (hb:b=true) (h:xi s):b=kc s:=by simp[kc,h,hb]
theorem tq {s:ByteArray} {b:Bool} (hb:b=false) (h:¬xi s):b=kc s:=by simp[kc,h,hb]
theorem x8 (w:World) (n:Int):Calls Tryz.prog 285 #[.int .u8 n] w fun e w'=>e=.returned (.bool (lT n))/\w=w':=by
 go_enter Tryz.func285,Tryz.ntmps285
 go_wp2_with fail
 all_goals
  go_ret
  exact⟨jd (by unfold lT;simp[*];try omega),rfl⟩
theorem IJ (w:World) (n:Int):Calls Tryz.prog 286 #[.int .u8 n] w fun e w'=>e=.returned (.bool (mi n))/\w=w':=by
 go_enter Tryz.func286,Tryz.ntmps286
 go_wp2_with fail
 all_goals
  go_ret
  exact⟨jd (by unfold mi;simp[*];try omega),rfl⟩
theorem EH (w:World) (s:ByteArray) (hs:s.size<=9223372036854775807):Calls Tryz.prog 237 #[.string s] w fun e w'=>e=.returned (.bool (kc s))/\Below w.heap.size w w':=by
 by_cases h1:1<=s.size
 case neg=>
  go_enter Tryz.func237,Tryz.ntmps237
  go_wp2_with fail
  go_ret
  exact⟨jd (eD fun h=>h1 h.1.1),Below.refl _ _⟩
 by_cases h2:s.size<=12
 case neg=>
  go_enter Tryz.func237,Tryz.ntmps237
  go_wp2_with fail
  go_ret
  exact⟨jd (eD fun h=>h2 h.1.2),Below.refl _ _⟩
 go_enter Tryz.func237,Tryz.ntmps237
 go_wp2_with fail
 refine(x8 _ _).mono ?_
 rintro e w' ⟨rfl,rfl⟩
 cases h3:lT s[0].toNat
 ·go_wp2_with fail
  go_ret
  exact⟨jd (eD fun h=>by have:=h.2 0 (by omega);simp only[wq]at this;rw[h3]at this;simp at this),Below.refl _ _⟩
 ·replace h3:=Lib.hid h3
  go_wp2_with fail
  go_loop [3] (fun i=>∃k:Nat,1<=k/\k<=s.size/\i=.int .i64 k/\Hid (∀j (h:j<s.size),j<k->wq j s[j].toNat)) (fun i=>s.size-(intOf i).toNat)
  case atStart=>exact⟨1,by omega,by omega,rfl,Lib.hid fun j h hj=>by
   obtain rfl:j=0:=by omega
   exact .inl h3.out⟩
  case round=>
   obtain⟨k,sw,hk,rfl,dP⟩:=hrel
   by_cases ei:k<s.size
   ·go_wp2_with fail
    refine(x8 _ _).mono ?_
    rintro e w' ⟨rfl,rfl⟩
    have k9:wq k s[k].toNat∨¬wq k s[k].toNat:=Classical.em _
    cases hl:lT s[k].toNat
    ·go_wp2_with fail
     refine(IJ _ _).mono ?_
     rintro e w' ⟨rfl,rfl⟩
     cases hd:mi s[k].toNat
     ·by_cases wW:(s[k].toNat:Int)=95
      ·have YJ:((s[k].toNat:Int) !=95)=false:=by simp;omega
       replace wW:=Lib.hid wW
       replace hl:=Lib.hid hl
       replace hd:=Lib.hid hd
       go_wp2_with fail
       go_round
       case rel=>exact⟨k+1,by omega,by omega,by go_num,Lib.hid fun j h hj=>by
        by_cases Ah:j=k
        ·subst Ah;exact .inr ⟨by omega,.inr wW.out⟩
        ·exact dP.out j h (by omega)⟩
       case measure=>simp[intOf];omega
      ·have YJ:((s[k].toNat:Int) !=95)=true:=by simp;omega
       replace wW:=Lib.hid wW
       replace hl:=Lib.hid hl
       replace hd:=Lib.hid hd
       go_wp2_with fail
       go_ret
       exact⟨jd (eD fun h=>by
        have:=h.2 k ei;simp only[wq,hl.out,hd.out]at this;exact wW.out (by simp at this;exact this.2)),Below.refl _ _⟩
     ·replace hl:=Lib.hid hl
      replace hd:=Lib.hid hd
      go_wp2_with fail
      go_round
      case rel=>exact⟨k+1,by omega,by omega,by go_num,Lib.hid fun j h hj=>by
       by_cases Ah:j=k
       ·subst Ah;exact .inr ⟨by omega,.inl hd.out⟩
       ·exact dP.out j h (by omega)⟩
      case measure=>simp[intOf];omega
    ·replace hl:=Lib.hid hl
     go_wp2_with fail
     go_round
     case rel=>exact⟨k+1,by omega,by omega,by go_num,Lib.hid fun j h hj=>by
      by_cases Ah:j=k
      ·subst Ah;exact .inl hl.out
      ·exact dP.out j h (by omega)⟩
     case measure=>simp[intOf];omega
   ·go_wp2_with fail
    go_ret
    exact⟨jd (Gx ⟨⟨h1,h2⟩,fun i h=>dP.out i h (by omega)⟩),Below.refl _ _⟩
theorem DY (w:World) (s:ByteArray) (hs:s.size<=9223372036854775807):Calls Tryz.prog 254 #[.string s] w fun e w'=>e=.returned (.bool (kc s))/\w=w':=by
 go_enter Tryz.func254,Tryz.ntmps254
 go_wp2_with fail
 go_loop [8] (fun i=>∃k:Nat,k<=s.size/\i=.int .i64 k/\Hid (∀j (h:j<s.size),j<k->wq j s[j].toNat)) (fun i=>s.size-(intOf i).toNat)
 case atStart=>exact⟨0,by omega,rfl,Lib.hid fun j h hj=>by omega⟩
 case round=>
  obtain⟨k,hk,rfl,dP⟩:=hrel
  by_cases ei:k<s.size
  ·have hc:(s[k].toNat:Int)<48∨(48<=(s[k].toNat:Int)/\(s[k].toNat:Int)<=57)∨(58<=(s[k].toNat:Int)/\(s[k].toNat:Int)<=64)∨(65<=(s[k].toNat:Int)/\(s[k].toNat:Int)<=90)∨(91<=(s[k].toNat:Int)/\(s[k].toNat:Int)<=94)∨(95<=(s[k].toNat:Int)/\(s[k].toNat:Int)<=95)∨(96<=(s[k].toNat:Int)/\(s[k].toNat:Int)<=96)∨(97<=(s[k].toNat:Int)/\(s[k].toNat:Int)<=122)∨123<=(s[k].toNat:Int):=by omega
   by_cases s8:k=0
   ·subst s8
    rcases hc with h|⟨h,h'⟩|⟨h,h'⟩|⟨h,h'⟩|⟨h,h'⟩|⟨h,h'⟩|⟨h,h'⟩|⟨h,h'⟩|h
    ·have wW:((s[0].toNat:Int) !=95)=true:=by simp;try omega
     go_wp2_with fail
     all_goals first
      |(go_ret;exact⟨jd (eD fun hh=>by have:=hh.2 0 ei;simp[wq,lT,mi]at this;omega),rfl⟩)
      |(exfalso;simp_all;done)
      |(exfalso;simp_all;omega)
    ·have wW:((s[0].toNat:Int) !=95)=true:=by simp;try omega
     go_wp2_with fail
     all_goals first
      |(go_ret;exact⟨jd (eD fun hh=>by have:=hh.2 0 ei;simp[wq,lT,mi]at this;omega),rfl⟩)
      |(exfalso;simp_all;done)
      |(exfalso;simp_all;omega)
    ·have wW:((s[0].toNat:Int) !=95)=true:=by simp;try omega
     go_wp2_with fail
     all_goals first
      |(go_ret;exact⟨jd (eD fun hh=>by have:=hh.2 0 ei;simp[wq,lT,mi]at this;omega),rfl⟩)
      |(exfalso;simp_all;done)
      |(exfalso;simp_all;omega)
    ·have wW:((s[0].toNat:Int) !=95)=true:=by simp;try omega
     go_wp2_with fail
     go_round
     case rel=>exact⟨0+1,by omega,by go_num,Lib.hid fun j hj Ah=>by
      by_cases LV:j=0
      ·subst LV;simp[wq,lT,mi];omega
      ·exact dP.out j hj (by omega)⟩
     case measure=>simp[intOf];try omega
    ·have wW:((s[0].toNat:Int) !=95)=true:=by simp;try omega
     go_wp2_with fail
     all_goals first
      |(go_ret;exact⟨jd (eD fun hh=>by have:=hh.2 0 ei;simp[wq,lT,mi]at this;omega),rfl⟩)
      |(exfalso;simp_all;done)
      |(exfalso;simp_all;omega)
    ·have wW:((s[0].toNat:Int) !=95)=false:=by simp;try omega
     go_wp2_with fail
     all_goals first
      |(go_ret;exact⟨jd (eD fun hh=>by have:=hh.2 0 ei;simp[wq,lT,mi]at this;omega),rfl⟩)
      |(exfalso;simp_all;done)
      |(exfalso;simp_all;omega)
    ·have wW:((s[0].toNat:Int) !=95)=true:=by simp;try omega
     go_wp2_with fail
     all_goals first
      |(go_ret;exact⟨jd (eD fun hh=>by have:=hh.2 0 ei;simp[wq,lT,mi]at this;omega),rfl⟩)
      |(exfalso;simp_all;done)
      |(exfalso;simp_all;omega)
    ·have wW:((s[0].toNat:Int) !=95)=true:=by simp;try omega
     go_wp2_with fail
     go_round
     case rel=>exact⟨0+1,by omega,by go_num,Lib.hid fun j hj Ah=>by
      by_cases LV:j=0
      ·subst LV;simp[wq,lT,mi];omega
      ·exact dP.out j hj (by omega)⟩
     case measure=>simp[intOf];try omega
    ·have wW:((s[0].toNat:Int) !=95)=true:=by simp;try omega
     go_wp2_with fail
     all_goals first
      |(go_ret;exact⟨jd (eD fun hh=>by have:=hh.2 0 ei;simp[wq,lT,mi]at this;omega),rfl⟩)
      |(exfalso;simp_all;done)
      |(exfalso;simp_all;omega)
   ·have hz:((k:Int)==0)=false:=by simpa using s8
    have sw:1<=k:=by omega
    clear s8
    rcases hc with h|⟨h,h'⟩|⟨h,h'⟩|⟨h,h'⟩|⟨h,h'⟩|⟨h,h'⟩|⟨h,h'⟩|⟨h,h'⟩|h
    ·have wW:((s[k].toNat:Int) !=95)=true:=by simp;try omega
     go_wp2_with fail
     all_goals first
      |(go_ret;exact⟨jd (eD fun hh=>by have:=hh.2 k ei;simp[wq,lT,mi]at this;omega),rfl⟩)
      |(exfalso;simp_all;done)
      |(exfalso;simp_all;omega)
    ·have wW:((s[k].toNat:Int) !=95)=true:=by simp;try omega
     go_wp2_with fail
     go_round
     case rel=>exact⟨k+1,by omega,by go_num,Lib.hid fun j hj Ah=>by
      by_cases LV:j=k
      ·subst LV;simp[wq,lT,mi];omega
      ·exact dP.out j hj (by omega)⟩
     case measure=>simp[intOf];try omega
    ·have wW:((s[k].toNat:Int) !=95)=true:=by simp;try omega
     go_wp2_with fail
     all_goals first
      |(go_ret;exact⟨jd (eD fun hh=>by have:=hh.2 k ei;simp[wq,lT,mi]at this;omega),rfl⟩)
      |(exfalso;simp_all;done)
      |(exfalso;simp_all;omega)
    ·have wW:((s[k].toNat:Int) !=95)=true:=by simp;try omega
     go_wp2_with fail
     go_round
     case rel=>exact⟨k+1,by omega,by go_num,Lib.hid fun j hj Ah=>by
      by_cases LV:j=k
      ·subst LV;simp[wq,lT,mi];omega
      ·exact dP.out j hj (by omega)⟩
     case measure=>simp[intOf];try omega
    ·have wW:((s[k].toNat:Int) !=95)=true:=by simp;try omega
     go_wp2_with fail
     all_goals first
      |(go_ret;exact⟨jd (eD fun hh=>by have:=hh.2 k ei;simp[wq,lT,mi]at this;omega),rfl⟩)
      |(exfalso;simp_all;done)
      |(exfalso;simp_all;omega)
    ·have wW:((s[k].toNat:Int) !=95)=false:=by simp;try omega
     go_wp2_with fail
     go_round
     case rel=>exact⟨k+1,by omega,by go_num,Lib.hid fun j hj Ah=>by
      by_cases LV:j=k
      ·subst LV;simp[wq,lT,mi];omega
      ·exact dP.out j hj (by omega)⟩
     case measure=>simp[intOf];try omega
    ·have wW:((s[k].toNat:Int) !=95)=true:=by simp;try omega
     go_wp2_with fail
     all_goals first
      |(go_ret;exact⟨jd (eD fun hh=>by have:=hh.2 k ei;simp[wq,lT,mi]at this;omega),rfl⟩)
      |(exfalso;simp_all;done)
      |(exfalso;simp_all;omega)
    ·have wW:((s[k].toNat:Int) !=95)=true:=by simp;try omega
     go_wp2_with fail
     go_round
     case rel=>exact⟨k+1,by omega,by go_num,Lib.hid fun j hj Ah=>by
      by_cases LV:j=k
      ·subst LV;simp[wq,lT,mi];omega
      ·exact dP.out j hj (by omega)⟩
     case measure=>simp[intOf];try omega
    ·have wW:((s[k].toNat:Int) !=95)=true:=by simp;try omega
     go_wp2_with fail
     all_goals first
      |(go_ret;exact⟨jd (eD fun hh=>by have:=hh.2 k ei;simp[wq,lT,mi]at this;omega),rfl⟩)
      |(exfalso;simp_all;done)
      |(exfalso;simp_all;omega)
  ·by_cases h1:1<=s.size
   ·by_cases h2:s.size<=12
    ·go_wp2_with fail
     go_ret
     exact⟨jd (Ep (by simp<;>omega) ⟨⟨h1,h2⟩,fun i h=>dP.out i h (by omega)⟩),rfl⟩
    ·go_wp2_with fail
     go_ret
     exact⟨jd (tq (by simp<;>omega) fun h=>h2 h.1.2),rfl⟩
   ·go_wp2_with fail
    go_ret
    exact⟨jd (tq (by simp<;>omega) fun h=>h1 h.1.1),rfl⟩
end Go.Proofs.YtgoljkjaameagaaGreat

namespace Go.Proofs.YtgoljkjaameagaaGreat.V
open Go.RowKit
theorem mixed:Tryz.prog.follows .mixedOrders=true:=by kernel_rfl
variable {P:Program} {w:World} {D:Nat->Prop} {ι:Names}
theorem mV {f:Nat} {args:List AV} {r:AV} {vs0:Array Value} {u0:Value} (oN:∀(w:World) (D:Nat->Prop) (ι:Names) vs,fG P w D ι args vs->vs=vs0) (hr:∀(w:World) (D:Nat->Prop) (ι:Names),dd P w D ι r u0) (CF:∀g,gF g 6 r=some r)
  (h:∀w,Calls P f vs0 w fun e w'=>e=.returned u0/\Below w.heap.size w w'):au P f args r:=by
 intro n
 refine fN fun hs D ι w vs S U A=>?_
 have:=oN w D ι vs A
 subst this
 refine(h w).mono ?_
 rintro e w' ⟨rfl,hb⟩
 exact⟨r,_,n,D,ι,u0,rfl,⟨r,CF _,rfl⟩,Step.stay S hb.block hb.size hb.os hb.tape hb.output (fun _ h=>h) (fun _ h=>.inl h) (fun _ _ h=>h),
  S.stay hb.block hb.size (fun _ h=>h) (fun b hd=>Nat.lt_of_lt_of_le (S.dead b hd) hb.size) (fun _ h=>.inl h) (fun _ _ h=>h),U,Nat.le_refl _,hr _ _ _⟩
theorem EE {s:ByteArray} {vs:Array Value} (h:fG P w D ι [.str s] vs):vs= #[.string s]:=by
 obtain⟨h1,h2⟩:=h
 obtain⟨u,hu,hr⟩:=h2 0 _ rfl
 rw[gi hr]at hu
 obtain⟨l⟩:=vs
 cases l with
 |nil=>simp at h1
 |cons a l=>cases l with
  |nil=>simp at hu;subst hu;rfl
  |cons b l=>simp at h1
theorem H9 (s:ByteArray) (hs:s.size<=9223372036854775807):au Tryz.prog 237 [.str s] (.bool (kc s)):=
 mV (fun _ _ _ _=>EE) (fun _ _ _=>.eV _ _ (.bool _)) (fun g=>fW g 5 _) fun w=>EH w s hs
theorem HT (s:ByteArray) (hs:s.size<=9223372036854775807):au Tryz.prog 254 [.str s] (.bool (kc s)):=
 mV (fun _ _ _ _=>EE) (fun _ _ _=>.eV _ _ (.bool _)) (fun g=>fW g 5 _) fun w=>(DY w s hs).mono (by rintro e w' ⟨rfl,rfl⟩;exact⟨rfl,Below.refl _ _⟩)
end Go.Proofs.YtgoljkjaameagaaGreat.V

namespace Go.Proofs.YtgoljkjaameagaaGreat
open Go.RowKit
def wz (n:Nat):List UInt8:=if h:n=0 then[]else wz (n / 10)++[UInt8.ofNat (48+n % 10)]
termination_by n
decreasing_by omega
def pW (k:Int):ByteArray:=if k<=0 then⟨#[109,48]⟩else⟨(109::wz k.toNat).toArray⟩
theorem IK:wz 0=[]:=by unfold wz;simp
theorem Lg {n:Nat} (h:n≠0):wz n=wz (n / 10)++[UInt8.ofNat (48+n % 10)]:=by
 conv=>lhs;unfold wz
 rw[dif_neg h]
theorem zW (c:UInt8) (l:ByteArray):((⟨#[c]⟩++l:ByteArray)).data.toList=c::l.data.toList:=by
 simp[ByteArray.data_append]
theorem Df:∀(m n:Nat),n<10 ^ m->(wz n).length<=m
 |0,n,h=>by
  have:n=0:=by simpa using h
  subst this;simp[wz]
 |m+1,n,h=>by
  unfold wz
  split
  ·simp
  ·have:=Df m (n / 10) (by rw[Nat.pow_succ]at h;omega)
   simp;omega
theorem BS (w:World) (k:Int) (h0:0<=k) (h1:k<=4611686018427387904):
  Calls Tryz.prog 213 #[.int .i64 k] w fun e w'=>e=.returned (.string (pW k))/\Below w.heap.size w w':=by
 by_cases hk:k<=0
 ·go_enter Tryz.func213,Tryz.ntmps213
  go_wp2_with fail
  go_ret
  exact⟨by simp[pW,hk],Below.refl _ _⟩
 ·go_enter Tryz.func213,Tryz.ntmps213
  go_wp2_with fail
  go_loopw [0,3] (fun a s wr=>∃(j:Int) (l:ByteArray),a=.int .i64 j/\s=.string l/\0<=j/\j<=4611686018427387904/\Hid (wz j.toNat++l.data.toList=wz k.toNat)/\Below w.heap.size w wr) (fun a _ _=>(intOf a).toNat)
  case atStart=>exact⟨k,⟨#[]⟩,rfl,rfl,h0,h1,Lib.hid (by simp),Below.refl _ _⟩
  case round=>
   obtain⟨j,l,rfl,rfl,Uj,hj1,hd,hb⟩:=hrel
   have gG:l.size<=19:=by
    have h1:=congrArg List.length hd.out
    have h2:=Df 19 k.toNat (by omega)
    rw[List.length_append]at h1
    have:l.data.toList.length=l.size:=by rw[Array.length_toList];rfl
    omega
   by_cases hj:0<j
   ·have Vv:∀v:Int,(convert 336 9 (.slice (some ⟨wr.heap.size,0,none⟩) 1 1)).run Tryz.prog (wr.alloc (.cells #[.int .u8 v] 5))=.ok (.string ⟨#[UInt8.ofNat v.toNat]⟩) (wr.alloc (.cells #[.int .u8 v] 5)):=by
     intro v
     rw[run_convert_bytes_string _ _ _ 5 _ _ _ Tryz.underlying336 Tryz.underlying5 Tryz.underlying9,run_bytesToString _ _ _ _ [v] (by simp[loadCells,loadCellsFrom,go_sem])]
     rfl
    have hr:=gG
    go_wp2_with fail
    go_roundw
    case rel=>
     refine⟨_,_,rfl,rfl,by omega,by omega,Lib.hid ?_,hb.alloc hb.size _⟩
     rw[<-hd.out,zW,Lg (show j.toNat≠0 by omega),show(j / 10).toNat=j.toNat / 10 by omega,show(48+j % 10).toNat=48+j.toNat % 10 by omega]
     simp
    case measure=>simp[intOf];omega
   ·go_wp2_with fail
    go_ret
    refine⟨?_,hb⟩
    have h1:=hd.out
    rw[show j.toNat=0 by omega,IK,List.nil_append]at h1
    have h2:(⟨#[109]⟩++l:ByteArray)=pW k:=by
     rw[pW,if_neg (by omega)]
     refine ByteArray.ext (Array.ext' ?_)
     rw[zW,h1]
    rw[h2];rfl
end Go.Proofs.YtgoljkjaameagaaGreat

namespace Go.Proofs.YtgoljkjaameagaaGreat.V
open Go.RowKit
attribute [local irreducible] dK wpOps gw Call
attribute [local go_sem] aM fE eM fV fS dc upd cr K.av cI AV.cells AV.cell rowOf rowsOf part ld rowAt bE cj dy dS gU bJ cY ee fQ e6 dp dX cW cV dI dJ bP bc cL bL cP cN dV dY dW cK bU cX dU bK aO cR cC gT bw cG bQ aY dj aZ dz AV.undef bD bG dM dQ dE dG cE ec eh cz ea dZ cQ cU List.getD_cons_zero List.getD_cons_succ List.getD_nil List.all_cons List.all_nil Bool.and_true Bool.true_and Bool.and_self Bool.not_true Bool.not_false Option.map_some Option.map_none Option.bind_some Option.bind_none List.length_cons List.length_nil List.take_succ_cons List.take_zero List.take_nil List.drop_succ_cons List.drop_zero List.drop_nil List.head?_cons List.map_cons List.map_nil List.getElem?_cons_zero List.getElem?_cons_succ List.cons_append List.nil_append List.append_nil List.length_map List.set_cons_zero List.set_cons_succ Nat.reduceMul eq_self Int.toNat_natCast Int.natCast_nonneg and_self true_and and_true decide_true decide_false Bool.false_eq_true Nat.zero_add Nat.add_zero List.contains_cons List.contains_nil Bool.or_false Bool.false_or beq_self_eq_true Nat.reduceBEq ne_eq not_true_eq_false not_false_eq_true Id.mk.injEq false_and and_false Nat.reduceLT Int.reduceLE Int.reduceLT Int.reduceToNat Int.reduceNeg Int.reduceAdd Nat.le_refl List.length_append beq_true beq_false Bool.not_eq_eq_eq_not or_false false_or dH aj ar aH bh bz ck aV bd aX bf cJ bB
def pe (σ:aw) (ids:List Id) (g:Rows) (n:Nat):Prop:=σ.next<=n/\∀x:Id,x.bj<σ.next->x∉ids->g x=σ.get x
theorem qi (l:List (List AV)) (i:Nat) (a b:List AV):(l.set i a).set i b=l.set i b:=List.set_set ..
theorem Li {l:List Int} {j:Nat} (h:j<l.length):(l.map aU)[j]? =some [.int .i64 l[j]]:=by simp[h,aU]
theorem P3 {P:Program} {w:World} {D:Nat->Prop} {ι:Names} {k:Int} {vs:Array Value} (h:fG P w D ι [.int .i64 k] vs):vs= #[.int .i64 k]:=by
 obtain⟨h1,h2⟩:=h
 obtain⟨u,hu,hr⟩:=h2 0 _ rfl
 rw[dq hr]at hu
 obtain⟨l⟩:=vs
 cases l with
 |nil=>simp at h1
 |cons a l=>cases l with
  |nil=>simp at hu;subst hu;rfl
  |cons b l=>simp at h1
theorem yc (k:Int) (h0:0<=k) (h1:k<=4611686018427387904):au Tryz.prog 213 [.int .i64 k] (.str (pW k)):=
 mV (vs0:= #[.int .i64 k]) (u0:=.string (pW k)) (fun _ _ _ _=>P3) (fun w D ι=>.eV _ _ (.str _)) (fun g=>OK g 5 _) fun w=>BS w k h0 h1
theorem Gu (i:Id) (l:List Int) (k:Int) (h0:0<=k) (h1:k+l.length<=4611686018427387904) (σ:aw) (hv:i.bj<σ.next) (hg:σ.get i=some ⟨true,1,l.map aU⟩):
  Call Tryz.prog 24 [.own i 0 l.length,.int .i64 k] σ (fun r σ'=>r=.int .i64 (k+l.length)/\pe σ [i] σ'.get σ'.next):=by
 refine eA eF rfl fun hl=>?_
 clear hl
 obtain⟨nn,hn⟩:∃nn,l.length=nn:=⟨_,rfl⟩
 rw[hn]at h1 ⊢
 (try((repeat(revert hN;revert N;apply Pn.out));refine wk @Nat.zero_add ?_;(repeat(refine Pn.mk ?_;intro N hN))))
 refine aQ (fun n env st=>∃j:Nat,n=(nn)-j/\j<=(nn)/\env 5=.int .i64 (j:Int)/\env 1=.int .i64 (k+j)/\(pe σ [i] st.get st.next/\∃l':List Int,l'.length=nn/\st.get i=some ⟨true,1,l'.map aU⟩)) (nn) ⟨0,ah,ah,sl (tw @Int.add_zero @Int.natCast_zero),sl (tw @Int.add_zero @Int.natCast_zero),by(try dsimp only);exact⟨⟨aT,fun x _ _=>rfl⟩,l,hn,hg⟩⟩ ?_
 rintro n_a env_a st_a ⟨j,rfl,ale,a5,a1,ke⟩ dv
 have a0:=dv 0 (by kernel_rfl)
 simp only[go_sem, ↓reduceIte,Nat.reduceEqDiff,Nat.reduceAdd,Nat.reduceSub,Nat.reduceLeDiff,reduceCtorEq,Int.add_zero,Int.natCast_zero]at a0
 clear dv
 obtain⟨⟨an,aF⟩,l',al,ag⟩:=ke
 by_cases hj:(j:Int)<(nn:Int)
 ·have cq:∀{e:Env} {gg:Rows} {nx:Nat},(e 5=.int .i64 (IntKind.i64.wrap ((j:Int)+1)))->(e 1=.int .i64 (k+(j+1)))->(pe σ [i] gg nx/\∃l':List Int,l'.length=nn/\gg i=some ⟨true,1,l'.map aU⟩)->∃m0,m0<(nn)-j/\∃j:Nat,m0=(nn)-j/\j<=(nn)/\e 5=.int .i64 (j:Int)/\e 1=.int .i64 (k+j)/\(pe σ [i] gg nx/\∃l':List Int,l'.length=nn/\gg i=some ⟨true,1,l'.map aU⟩):=fun x1 x2 x3=>⟨_,ah,j+1,rfl,ah,(by rw[x1,ay ah]),x2,x3⟩
  have ga:j<l'.length:=ah
  have eR:=Li ga
  have eb:(l'.map aU).set j [.int .i64 (k+j)]=(l'.set j (k+j)).map aU:=by rw[List.map_set];rfl
  have hw:IntKind.i64.wrap (k+(j:Int)+1)=k+((j:Int)+1):=by rw[bq ah];omega
  (try((repeat(revert hN;revert N;apply Pn.out));refine wk (tw @a5 (tw @a1 (tw @a0 (tw @hj (tw @ag (tw @eR (tw @eb @hw))))))) ?_;(repeat(refine Pn.mk ?_;intro N hN))))
  refine cq ?_ ?_ (by(try dsimp only);exact⟨⟨aT,fun x hx hi=>by
   have h2:=aF x hx hi
   have h3:(x=i)=False:=eq_false fun e=>hi (by simp[e])
   simp only[go_sem, ↓reduceIte,Nat.reduceEqDiff,Nat.reduceAdd,Nat.reduceSub,Nat.reduceLeDiff,reduceCtorEq,h2,h3]⟩,l'.set j (k+j),by simp[al],sl @Nat.zero_add⟩)
  all_goals simp only[go_sem, ↓reduceIte,Nat.reduceEqDiff,Nat.reduceAdd,Nat.reduceSub,Nat.reduceLeDiff,reduceCtorEq,a5,a1,a0,hw]
 ·have ga:j=nn:=ah
  subst ga
  (try((repeat(revert hN;revert N;apply Pn.out));refine wk (tw @a5 (tw @a1 (tw @a0 @hj))) ?_;(repeat(refine Pn.mk ?_;intro N hN))))
  exact eS (.inl rfl) (vs:=[.int .i64 (k+j)]) (sd (tw @a5 (tw @a1 @a0))) ⟨rfl,⟨aT,fun x hx hi=>aF x hx hi⟩⟩
def ue (k:Int) (n:Nat):List aa:=(List.range n).map fun j:Nat=>⟨⟨k+3*(j:Int),k+3*(j:Int)+1⟩,k+3*(j:Int)+2⟩
theorem fI (k:Int) (n:Nat):(ue k n).length=n:=by simp[ue]
theorem Mw (k:Int) (n:Nat):ue k (n+1)=ue k n++[⟨⟨k+3*(n:Int),k+3*(n:Int)+1⟩,k+3*(n:Int)+2⟩]:=by simp[ue,List.range_succ]
def iI (k:Int) (l:List aa) (j:Nat):List aa:=ue k j++l.drop j
theorem yj {k:Int} {l:List aa} {j:Nat} (h:j<=l.length):(iI k l j).length=l.length:=by simp[iI,fI];omega
theorem BT {k:Int} {l:List aa} {j:Nat} (h:j<l.length):((iI k l j).map ab)[j]? =some [.int .i64 l[j].aJ.eE,.int .i64 l[j].aJ.ez,.int .i64 l[j].br]:=by
 rw[List.getElem?_map,iI,List.getElem?_append_right (by rw[fI];omega),fI,Nat.sub_self,List.getElem?_drop,Nat.add_zero,List.getElem?_eq_getElem h];rfl
theorem yk {k:Int} {l:List aa} {j:Nat} (h:j<l.length):((iI k l j).map ab).set j [.int .i64 (k+3*(j:Int)),.int .i64 (k+3*(j:Int)+1),.int .i64 (k+3*(j:Int)+2)]=(iI k l (j+1)).map ab:=by
 have:(iI k l j).set j ⟨⟨k+3*(j:Int),k+3*(j:Int)+1⟩,k+3*(j:Int)+2⟩=iI k l (j+1):=by
  rw[iI,List.set_append_right _ _ (by rw[fI];omega),fI,Nat.sub_self,List.drop_eq_getElem_cons h,List.set_cons_zero,iI,Mw,List.append_assoc];rfl
 rw[<-this,List.map_set];rfl
theorem BR (i:Id) (l:List aa) (k:Int) (h0:0<=k) (h1:k+3*l.length<=4611686018427387904) (σ:aw) (hv:i.bj<σ.next) (hg:σ.get i=some ⟨true,3,l.map ab⟩):
  Call Tryz.prog 59 [.own i 0 l.length,.int .i64 k] σ (fun r σ'=>r=.int .i64 (k+3*l.length)/\pe σ [i] σ'.get σ'.next/\σ'.get i=some ⟨true,3,(ue k l.length).map ab⟩):=by
 refine eA eF rfl fun hl=>?_
 clear hl
 have hz:iI k l 0=l:=by simp[iI,ue]
 (try((repeat(revert hN;revert N;apply Pn.out));refine wk @Nat.zero_add ?_;(repeat(refine Pn.mk ?_;intro N hN))))
 refine aQ (fun n env st=>∃j:Nat,n=(l.length)-j/\j<=(l.length)/\env 5=.int .i64 (j:Int)/\env 1=.int .i64 (k+3*j)/\st.get i=some ⟨true,3,(iI k l j).map ab⟩/\(pe σ [i] st.get st.next)) (l.length) ⟨0,ah,ah,sl (tw @Int.add_zero (tw @Int.natCast_zero (tw @Int.mul_zero (tw @hz @hg)))),sl (tw @Int.add_zero (tw @Int.natCast_zero (tw @Int.mul_zero (tw @hz @hg)))),sl (tw @Int.add_zero (tw @Int.natCast_zero (tw @Int.mul_zero (tw @hz @hg)))),by(try dsimp only);exact⟨aT,fun x _ _=>rfl⟩⟩ ?_
 rintro n_a env_a st_a ⟨j,rfl,ale,a5,a1,ag0,ke⟩ dv
 have a0:=dv 0 (by kernel_rfl)
 simp only[go_sem, ↓reduceIte,Nat.reduceEqDiff,Nat.reduceAdd,Nat.reduceSub,Nat.reduceLeDiff,reduceCtorEq,Int.add_zero,Int.natCast_zero,Int.mul_zero,hz,hg]at a0
 clear dv
 obtain⟨an,aF⟩:=ke
 by_cases hj:(j:Int)<(l.length:Int)
 ·have cq:∀{e:Env} {gg:Rows} {nx:Nat},(e 5=.int .i64 (IntKind.i64.wrap ((j:Int)+1)))->(e 1=.int .i64 (k+3*(j+1)))->(gg i=some ⟨true,3,(iI k l (j+1)).map ab⟩)->(pe σ [i] gg nx)->∃m0,m0<(l.length)-j/\∃j:Nat,m0=(l.length)-j/\j<=(l.length)/\e 5=.int .i64 (j:Int)/\e 1=.int .i64 (k+3*j)/\gg i=some ⟨true,3,(iI k l j).map ab⟩/\(pe σ [i] gg nx):=fun x1 x2 x3 x4=>⟨_,ah,j+1,rfl,ah,(by rw[x1,ay ah]),x2,x3,x4⟩
  have ga:j<l.length:=ah
  have eR:=BT (k:=k) ga
  have eb:=yk (k:=k) ga
  have jt:IntKind.i64.wrap (k+3*(j:Int)+1)=k+3*(j:Int)+1:=bq ah
  have ml:IntKind.i64.wrap (k+3*(j:Int)+1+1)=k+3*(j:Int)+2:=by rw[bq ah];omega
  have DX:IntKind.i64.wrap (k+3*(j:Int)+2+1)=k+3*((j:Int)+1):=by rw[bq ah];omega
  have hlen:((iI k l j).map ab).length=l.length:=by rw[List.length_map,yj ah]
  have F7:∀c:List AV,(((iI k l j).map ab).set j c)[j]? =some c:=fun c=>by rw[List.getElem?_set_self (by rw[hlen];exact ga)]
  (try((repeat(revert hN;revert N;apply Pn.out));refine wk (tw @a5 (tw @a1 (tw @ag0 (tw @a0 (tw @hj (tw @eR (tw @F7 (tw @eb (tw @jt (tw @ml (tw @DX (tw @hlen @qi)))))))))))) ?_;(repeat(refine Pn.mk ?_;intro N hN))))
  refine cq ?_ ?_ ?_ (by(try dsimp only);exact⟨aT,fun x hx hi=>by
   have h2:=aF x hx hi
   have h3:(x=i)=False:=eq_false fun e=>hi (by simp[e])
   simp only[go_sem, ↓reduceIte,Nat.reduceEqDiff,Nat.reduceAdd,Nat.reduceSub,Nat.reduceLeDiff,reduceCtorEq,h2,h3]⟩)
  all_goals simp only[go_sem, ↓reduceIte,Nat.reduceEqDiff,Nat.reduceAdd,Nat.reduceSub,Nat.reduceLeDiff,reduceCtorEq,a5,a1,ag0,a0,DX,eb]
 ·have ga:j=l.length:=ah
  subst ga
  (try((repeat(revert hN;revert N;apply Pn.out));refine wk (tw @a5 (tw @a1 (tw @ag0 (tw @a0 @hj)))) ?_;(repeat(refine Pn.mk ?_;intro N hN))))
  have jP:iI k l l.length=ue k l.length:=by simp[iI]
  rw[jP]at ag0
  exact eS (.inl rfl) (vs:=[.int .i64 (k+3*l.length)]) (sd (tw @a5 (tw @a1 (tw @ag0 @a0)))) ⟨rfl,⟨aT,fun x hx hi=>aF x hx hi⟩,ag0⟩
theorem Ei (i:Id) (l:List gh) (k:Int) (h0:0<=k) (h1:k+2*l.length<=4611686018427387904) (σ:aw) (hv:i.bj<σ.next) (hg:σ.get i=some ⟨true,2,l.map cm⟩):
  Call Tryz.prog 138 [.own i 0 l.length,.int .i64 k] σ (fun r σ'=>r=.int .i64 (k+2*l.length)/\pe σ [i] σ'.get σ'.next):=by
 refine eA eF rfl fun hl=>?_
 clear hl
 obtain⟨nn,hn⟩:∃nn,l.length=nn:=⟨_,rfl⟩
 rw[hn]at h1 ⊢
 (try((repeat(revert hN;revert N;apply Pn.out));refine wk @Nat.zero_add ?_;(repeat(refine Pn.mk ?_;intro N hN))))
 refine aQ (fun n env st=>∃j:Nat,n=(nn)-j/\j<=(nn)/\env 5=.int .i64 (j:Int)/\env 1=.int .i64 (k+2*j)/\(pe σ [i] st.get st.next/\∃l':List gh,l'.length=nn/\st.get i=some ⟨true,2,l'.map cm⟩)) (nn) ⟨0,ah,ah,sl (tw @Int.add_zero (tw @Int.natCast_zero @Int.mul_zero)),sl (tw @Int.add_zero (tw @Int.natCast_zero @Int.mul_zero)),by(try dsimp only);exact⟨⟨aT,fun x _ _=>rfl⟩,l,hn,hg⟩⟩ ?_
 rintro n_a env_a st_a ⟨j,rfl,ale,a5,a1,ke⟩ dv
 have a0:=dv 0 (by kernel_rfl)
 simp only[go_sem, ↓reduceIte,Nat.reduceEqDiff,Nat.reduceAdd,Nat.reduceSub,Nat.reduceLeDiff,reduceCtorEq,Int.add_zero,Int.natCast_zero,Int.mul_zero]at a0
 clear dv
 obtain⟨⟨an,aF⟩,l',al,ag⟩:=ke
 by_cases hj:(j:Int)<(nn:Int)
 ·have cq:∀{e:Env} {gg:Rows} {nx:Nat},(e 5=.int .i64 (IntKind.i64.wrap ((j:Int)+1)))->(e 1=.int .i64 (k+2*(j+1)))->(pe σ [i] gg nx/\∃l':List gh,l'.length=nn/\gg i=some ⟨true,2,l'.map cm⟩)->∃m0,m0<(nn)-j/\∃j:Nat,m0=(nn)-j/\j<=(nn)/\e 5=.int .i64 (j:Int)/\e 1=.int .i64 (k+2*j)/\(pe σ [i] gg nx/\∃l':List gh,l'.length=nn/\gg i=some ⟨true,2,l'.map cm⟩):=fun x1 x2 x3=>⟨_,ah,j+1,rfl,ah,(by rw[x1,ay ah]),x2,x3⟩
  have ga:j<l'.length:=ah
  have eR:(l'.map cm)[j]? =some [.str l'[j].aP,.int .i64 l'[j].eK]:=by simp[ga,cm]
  have hlen:(l'.map cm).length=nn:=by rw[List.length_map,al]
  have F7:∀c:List AV,((l'.map cm).set j c)[j]? =some c:=fun c=>by rw[List.getElem?_set_self (by rw[List.length_map];exact ga)]
  have ht:=yc (k+2*(j:Int)) ah ah
  have jt:IntKind.i64.wrap (k+2*(j:Int)+1)=k+2*(j:Int)+1:=bq ah
  have ml:IntKind.i64.wrap (k+2*(j:Int)+1+1)=k+2*((j:Int)+1):=by rw[bq ah];omega
  generalize pW (k+2*(j:Int))=mt at ht
  have eb:(l'.map cm).set j [.str mt,.int .i64 (k+2*(j:Int)+1)]=(l'.set j ⟨mt,k+2*(j:Int)+1⟩).map cm:=by rw[List.map_set];rfl
  (repeat(first|((repeat(revert hN;revert N;apply Pn.out));refine wk (tw @a5 (tw @a1 (tw @a0 (tw @hj (tw @ag (tw @eR (tw @F7 (tw @eb (tw @jt (tw @ml (tw @hlen @qi))))))))))) ?_;(repeat(refine Pn.mk ?_;intro N hN)))|((try apply Or.inl);refine⟨_,au.x (ht) (sd (tw @a5 (tw @a1 (tw @a0 (tw @hj (tw @ag (tw @eR (tw @F7 (tw @eb (tw @jt (tw @ml (tw @hlen @qi)))))))))))),?_⟩;refine hN _ _ ?_;clear hN N)))
  refine cq ?_ ?_ (by(try dsimp only);exact⟨⟨aT,fun x hx hi=>by
   have h2:=aF x hx hi
   have h3:(x=i)=False:=eq_false fun e=>hi (by simp[e])
   simp only[go_sem, ↓reduceIte,Nat.reduceEqDiff,Nat.reduceAdd,Nat.reduceSub,Nat.reduceLeDiff,reduceCtorEq,h2,h3]⟩,l'.set j ⟨mt,k+2*(j:Int)+1⟩,by simp[al],sl @Nat.zero_add⟩)
  all_goals simp only[go_sem, ↓reduceIte,Nat.reduceEqDiff,Nat.reduceAdd,Nat.reduceSub,Nat.reduceLeDiff,reduceCtorEq,a5,a1,a0,ml,eb]
 ·have ga:j=nn:=ah
  subst ga
  (try((repeat(revert hN;revert N;apply Pn.out));refine wk (tw @a5 (tw @a1 (tw @a0 @hj))) ?_;(repeat(refine Pn.mk ?_;intro N hN))))
  exact eS (.inl rfl) (vs:=[.int .i64 (k+2*j)]) (sd (tw @a5 (tw @a1 @a0))) ⟨rfl,⟨aT,fun x hx hi=>aF x hx hi⟩⟩
theorem gy.flat {α:Type} {e:α->List AV} {z:Nat} {g:Rows} {a:AV} {xs:List α} {ids:List Id} (h:gy (mv e) z g a xs ids):∃o,a=.own o 0 xs.length/\g o=some ⟨true,z,xs.map e⟩/\ids=[o]:=by
 obtain⟨o,rows,is,h1,h2,h3,rfl⟩:=h
 have:∀{rows:List (List AV)} {xs:List α} {is:List Id},dD (mv e) g rows xs is->rows=xs.map e/\is=[]:=fun h=>by
  induction h with
  |nil=>exact⟨rfl,rfl⟩
  |cons h1 _ ih=>obtain⟨rfl,rfl⟩:=h1;obtain⟨rfl,rfl⟩:=ih;exact⟨rfl,rfl⟩
 obtain⟨rfl,rfl⟩:=this h3
 exact⟨o,h1,h2,rfl⟩
def gZ (t:fb):Nat:=1+t.bV.length
theorem Ej (a:AV) (l:List fb) (ids:List Id) (k:Int) (h0:0<=k) (xT:l.length<=1048576) (h1:k+(l.map gZ).sum<=4611686018427387904) (σ:aw) (hv:∀i∈ids,i.bj<σ.next) (lk:ids.Nodup) (hg:gy pq 2 σ.get a l ids):
  Call Tryz.prog 139 [a,.int .i64 k] σ (fun r σ'=>r=.int .i64 (k+(l.map gZ).sum)/\pe σ ids σ'.get σ'.next):=by
 obtain⟨o,rows,is,rfl,ho,hR,rfl⟩:=hg
 refine eA eF rfl fun hl=>?_
 clear hl
 have sC:=hv o (by simp)
 have DQ:=kz gZ l
 (try((repeat(revert hN;revert N;apply Pn.out));refine wk @Nat.zero_add ?_;(repeat(refine Pn.mk ?_;intro N hN))))
 refine aQ (fun n env st=>∃j:Nat,n=(l.length)-j/\j<=(l.length)/\env 5=.int .i64 (j:Int)/\env 1=.int .i64 (k+gm gZ l j)/\(pe σ (o::is) st.get st.next/\∃pre rest ir,st.get o=some ⟨true,2,pre++rest⟩/\pre.length=j/\dD pq st.get rest (l.drop j) ir/\(o::ir).Nodup/\∀i∈ir,i∈is)) (l.length) ⟨0,ah,ah,sl (tw @Int.add_zero (tw @Int.natCast_zero @DQ)),sl (tw @Int.add_zero (tw @Int.natCast_zero @DQ)),by(try dsimp only);exact⟨⟨aT,fun x _ _=>rfl⟩,[],rows,is,ho,rfl,hR,lk,fun _ h=>h⟩⟩ ?_
 rintro n_a env_a st_a ⟨j,rfl,ale,a5,a1,ke⟩ dv
 have a0:=dv 0 (by kernel_rfl)
 simp only[go_sem, ↓reduceIte,Nat.reduceEqDiff,Nat.reduceAdd,Nat.reduceSub,Nat.reduceLeDiff,reduceCtorEq,Int.add_zero,Int.natCast_zero,DQ]at a0
 clear dv
 obtain⟨⟨an,aF⟩,pre,rest,ir,ag,apl,aR,aN,aS⟩:=ke
 by_cases hj:(j:Int)<(l.length:Int)
 ·have cq:∀{e:Env} {gg:Rows} {nx:Nat},(e 5=.int .i64 (IntKind.i64.wrap ((j:Int)+1)))->(e 1=.int .i64 (k+gm gZ l (j+1)))->(pe σ (o::is) gg nx/\∃pre rest ir,gg o=some ⟨true,2,pre++rest⟩/\pre.length=(j+1)/\dD pq gg rest (l.drop (j+1)) ir/\(o::ir).Nodup/\∀i∈ir,i∈is)->∃m0,m0<(l.length)-j/\∃j:Nat,m0=(l.length)-j/\j<=(l.length)/\e 5=.int .i64 (j:Int)/\e 1=.int .i64 (k+gm gZ l j)/\(pe σ (o::is) gg nx/\∃pre rest ir,gg o=some ⟨true,2,pre++rest⟩/\pre.length=j/\dD pq gg rest (l.drop j) ir/\(o::ir).Nodup/\∀i∈ir,i∈is):=fun x1 x2 x3=>⟨_,ah,j+1,rfl,ah,(by rw[x1,ay ah]),x2,x3⟩
  have ga:j<l.length:=ah
  have Jg:=ox gZ ga
  have hle:=kH gZ l (j+1)
  obtain⟨t,XU⟩:∃t,l[j]=t:=⟨_,rfl⟩
  rw[List.drop_eq_getElem_cons ga,XU]at aR
  rw[XU]at Jg
  cases aR with
  | @cons cs _ ic rs _ i2 hT OX=>
  obtain⟨i,rfl,hi,rfl⟩:=hT
  rw[List.singleton_append]at aN aS
  obtain⟨n1,n2⟩:=List.nodup_cons.1 aN
  obtain⟨n3,n4⟩:=List.nodup_cons.1 n2
  have QU:(o=i)=False:=eq_false fun e=>n1 (by simp[e])
  have QQ:(i=o)=False:=eq_false fun e=>n1 (by simp[e])
  have hiv:i.bj<σ.next:=hv i (by simp[aS i (by simp)])
  have VQ:gZ t=1+t.bV.length:=rfl
  have ht:=yc (k+(gm gZ l j:Nat)) ah ah
  have jt:IntKind.i64.wrap (k+(gm gZ l j:Nat)+1)=k+(gm gZ l j:Nat)+1:=bq ah
  generalize pW (k+(gm gZ l j:Nat))=mt at ht
  have eR:(pre++[.str t.aP,.own i 0 t.bV.length]::rs)[j]? =some [.str t.aP,.own i 0 t.bV.length]:=by subst apl;simp
  have eb:(pre++[.str t.aP,.own i 0 t.bV.length]::rs).set j [.str mt,.own i 0 t.bV.length]=pre++[.str mt,.own i 0 t.bV.length]::rs:=by subst apl;simp
  have QN:(pre++[.str mt,.own i 0 t.bV.length]::rs)[j]? =some [.str mt,.own i 0 t.bV.length]:=by subst apl;simp
  (repeat(first|((repeat(revert hN;revert N;apply Pn.out));refine wk (tw @a5 (tw @a1 (tw @a0 (tw @hj (tw @ag (tw @eR (tw @eb (tw @QN (tw @jt (tw @QU (tw @QQ @hi))))))))))) ?_;(repeat(refine Pn.mk ?_;intro N hN)))|((try apply Or.inl);refine⟨_,au.x (ht) (sd (tw @a5 (tw @a1 (tw @a0 (tw @hj (tw @ag (tw @eR (tw @eb (tw @QN (tw @jt (tw @QU (tw @QQ @hi)))))))))))),?_⟩;refine hN _ _ ?_;clear hN N)))
  refine .inr (aI _ _ _ _ _ (fun r σ1 hq=>?_) (Gu i t.bV (k+(gm gZ l j:Nat)+1) ah ah _ aT (sd (tw @QU (tw @QQ @hi)))))
  obtain⟨g1,x1⟩:=σ1
  obtain⟨rfl,ub,ni⟩:=hq
  (try dsimp only at ub ni)
  refine hN _ _ ?_
  clear hN N
  have QR:k+(gm gZ l j:Nat)+1+t.bV.length=k+(gm gZ l (j+1):Nat):=ah
  (try((repeat(revert hN;revert N;apply Pn.out));refine wk (tw @a5 (tw @a1 (tw @a0 @QR))) ?_;(repeat(refine Pn.mk ?_;intro N hN))))
  have gk:∀x:Id,x.bj<σ.next->x≠o->x≠i->g1 x=st_a.get x:=fun x hx h3 h4=>by
   have h2:=ni x aT (by simp[h4])
   have h5:=eq_false h3
   simp only[go_sem, ↓reduceIte,Nat.reduceEqDiff,Nat.reduceAdd,Nat.reduceSub,Nat.reduceLeDiff,reduceCtorEq,h5]at h2
   exact h2
  have go:=ni o aT (by simp only[List.mem_singleton];exact fun e=>n1 (by simp[e]))
  simp only[go_sem, ↓reduceIte,Nat.reduceEqDiff,Nat.reduceAdd,Nat.reduceSub,Nat.reduceLeDiff,reduceCtorEq]at go
  refine cq ?_ ?_ (by(try dsimp only);exact⟨⟨aT,fun x hx hi=>by
   have h3:x≠o:=fun e=>hi (by simp[e])
   have h4:x≠i:=fun e=>hi (by simp[e,aS i (by simp)])
   rw[gk x hx h3 h4]
   exact aF x hx hi⟩,pre++[[.str mt,.own i 0 t.bV.length]],rs,i2,by rw[go];simp,by simp[apl],OX.frame sn (fun x hx=>gk x (hv x (by simp[aS x (by simp[hx])])) (fun e=>n1 (by simp[<-e,hx])) (fun e=>n3 (by rw[<-e];exact hx))),List.nodup_cons.2 ⟨fun h=>n1 (by simp[h]),n4⟩,fun x hx=>aS x (by simp[hx])⟩)
  all_goals simp only[go_sem, ↓reduceIte,Nat.reduceEqDiff,Nat.reduceAdd,Nat.reduceSub,Nat.reduceLeDiff,reduceCtorEq,a5,a1,a0,QR]
 ·have ga:j=l.length:=ah
  subst ga
  have dP:=tL gZ l
  rw[dP]at a1
  (try((repeat(revert hN;revert N;apply Pn.out));refine wk (tw @a5 (tw @a1 (tw @a0 @hj))) ?_;(repeat(refine Pn.mk ?_;intro N hN))))
  exact eS (.inl rfl) (vs:=[.int .i64 (k+(l.map gZ).sum)]) (sd (tw @a5 (tw @a1 @a0))) ⟨rfl,⟨aT,fun x hx hi=>aF x hx hi⟩⟩
theorem JC (v:AV) (p:iP) (ids:List Id) (k:Int) (h0:0<=k) (h1:k+3*p.ai.length<=4611686018427387904) (σ:aw) (hv:∀i∈ids,i.bj<σ.next) (hg:UJ σ.get v p ids):
  Call Tryz.prog 25 [v,.int .i64 k] σ (fun r σ'=>r=.int .i64 (k+3*p.ai.length)/\pe σ ids σ'.get σ'.next):=by
 obtain⟨c,rfl,hc⟩:=hg
 obtain⟨o,rfl,ho,rfl⟩:=hc.flat
 refine eA eF rfl fun hl=>?_
 clear hl
 have sC:=db (hv o (by simp))
 have O9:=hv o (by simp)
 (try((repeat(revert hN;revert N;apply Pn.out));refine wk @Nat.zero_add ?_;(repeat(refine Pn.mk ?_;intro N hN))))
 refine .inr (aI _ _ _ _ _ (fun r σ1 hq=>?_) (BR o p.ai k h0 h1 _ aT (sd (tw @sC @ho))))
 obtain⟨g1,x1⟩:=σ1
 obtain⟨rfl,⟨ub,ni⟩,_⟩:=hq
 (try dsimp only at ub ni)
 refine hN _ _ ?_
 clear hN N
 (try((repeat(revert hN;revert N;apply Pn.out));refine wk @Nat.zero_add ?_;(repeat(refine Pn.mk ?_;intro N hN))))
 exact eS (.inl rfl) (vs:=[.int .i64 (k+3*p.ai.length)]) (sd @Nat.zero_add) ⟨rfl,⟨aT,fun x hx hi=>by
  have h2:=ni x aT hi
  have h3:=db hx
  simp only[go_sem, ↓reduceIte,Nat.reduceEqDiff,Nat.reduceAdd,Nat.reduceSub,Nat.reduceLeDiff,reduceCtorEq,h3]at h2
  exact h2⟩⟩
def Gs (s:aE):Nat:=2*s.aC.aB.length+(s.aC.ai.map gZ).sum+3*s.bY.ai.length
theorem JH (a b:AV) (p:ax) (i1 i2:List Id) (k:Int) (h0:0<=k) (xT:p.ai.length<=1048576) (h1:k+2*p.aB.length+(p.ai.map gZ).sum<=4611686018427387904) (σ:aw) (hv:∀i∈i1++i2,i.bj<σ.next) (lk:(i1++i2).Nodup)
  (hA:gy (mv cm) 2 σ.get a p.aB i1) (hB:gy pq 2 σ.get b p.ai i2):
  Call Tryz.prog 67 [.agg [a,b],.int .i64 k] σ (fun r σ'=>r=.int .i64 (k+2*p.aB.length+(p.ai.map gZ).sum)/\pe σ (i1++i2) σ'.get σ'.next):=by
 obtain⟨_,n2,n3⟩:=List.nodup_append.1 lk
 obtain⟨o,rfl,ho,rfl⟩:=hA.flat
 obtain⟨ob,rfl⟩:=hB.mT
 refine eA eF rfl fun hl=>?_
 clear hl
 have O9:=hv o (by simp)
 have sC:=db O9
 (try((repeat(revert hN;revert N;apply Pn.out));refine wk @Nat.zero_add ?_;(repeat(refine Pn.mk ?_;intro N hN))))
 refine .inr (aI _ _ _ _ _ (fun r σ1 hq=>?_) (Ei o p.aB k h0 ah _ aT (sd (tw @sC @ho))))
 obtain⟨g1,x1⟩:=σ1
 obtain⟨rfl,ub,ni⟩:=hq
 (try dsimp only at ub ni)
 refine hN _ _ ?_
 clear hN N
 have k1:=ni ⟨67000000,σ.next⟩ aT (by simp only[List.mem_singleton];intro e;rw[<-e]at O9;(try dsimp only at O9);omega)
 simp only[go_sem, ↓reduceIte,Nat.reduceEqDiff,Nat.reduceAdd,Nat.reduceSub,Nat.reduceLeDiff,reduceCtorEq]at k1
 (try((repeat(revert hN;revert N;apply Pn.out));refine wk @k1 ?_;(repeat(refine Pn.mk ?_;intro N hN))))
 have hf:∀x:Id,x.bj<σ.next->x≠o->g1 x=σ.get x:=fun x hx ho=>by
  have h2:=ni x aT (by simp[ho])
  have h3:=db hx
  simp only[go_sem, ↓reduceIte,Nat.reduceEqDiff,Nat.reduceAdd,Nat.reduceSub,Nat.reduceLeDiff,reduceCtorEq,h3]at h2
  exact h2
 refine .inr (aI _ _ _ _ _ (fun r σ2 hq=>?_) (Ej _ p.ai i2 (k+2*p.aB.length) ah xT h1 _ (fun i hi=>by have:=hv i (by simp[hi]);(try dsimp only);omega) n2 (hB.frame sn fun i hi=>hf i (hv i (by simp[hi])) fun e=>n3 o (by simp) i hi e.symm)))
 obtain⟨g2,x2⟩:=σ2
 obtain⟨rfl,DO,za⟩:=hq
 (try dsimp only at DO za)
 refine hN _ _ ?_
 clear hN N
 (try((repeat(revert hN;revert N;apply Pn.out));refine wk @Nat.zero_add ?_;(repeat(refine Pn.mk ?_;intro N hN))))
 exact eS (.inl rfl) (vs:=[.int .i64 (k+2*p.aB.length+(p.ai.map gZ).sum)]) (sd @Nat.zero_add) ⟨rfl,⟨aT,fun x hx hi=>(za x aT fun h=>hi (by simp[h])).trans (hf x hx fun e=>hi (by simp[e]))⟩⟩
theorem JI (v:AV) (p:aE) (ids:List Id) (k:Int) (h0:0<=k) (xT:p.aC.ai.length<=1048576) (h1:k+Gs p<=4611686018427387904) (σ:aw) (hv:∀i∈ids,i.bj<σ.next) (lk:ids.Nodup) (hg:CR σ.get v p ids):
  Call Tryz.prog 23 [v,.int .i64 k] σ (fun r σ'=>r=.int .i64 (k+Gs p)/\pe σ ids σ'.get σ'.next):=by
 obtain⟨a,b,c,i1,i2,i3,rfl,hA,hB,hC,rfl⟩:=hg.ex
 rw[<-List.append_assoc]at lk
 obtain⟨n1,_,n3⟩:=List.nodup_append.1 lk
 obtain⟨oa,rfl⟩:=hA.mT
 obtain⟨ob,rfl⟩:=hB.mT
 obtain⟨oc,rfl⟩:=hC.mT
 have hm:(Gs p:Int)=2*p.aC.aB.length+(p.aC.ai.map gZ).sum+3*p.bY.ai.length:=by simp[Gs]
 refine eA eF rfl fun hl=>?_
 clear hl
 have RV:∀x∈i1++(i2++i3),bE σ.get ⟨23000000,σ.next⟩ ⟨true,4,[[.own oa 0 p.aC.aB.length,.own ob 0 p.aC.ai.length,.own oc 0 p.bY.ai.length,.int .i64 p.az]]⟩ x=σ.get x:=fun x hx=>by
  have:=db (hv x hx)
  simp only[go_sem, ↓reduceIte,Nat.reduceEqDiff,Nat.reduceAdd,Nat.reduceSub,Nat.reduceLeDiff,reduceCtorEq,this]
 (try((repeat(revert hN;revert N;apply Pn.out));refine wk @Nat.zero_add ?_;(repeat(refine Pn.mk ?_;intro N hN))))
 refine .inr (aI _ _ _ _ _ (fun r σ1 hq=>?_) (JH _ _ p.aC i1 i2 k h0 xT ah _ (fun i hi=>by have:=hv i (by rcases List.mem_append.1 hi with h|h<;>simp[h]);(try dsimp only);omega) n1 (hA.frame Dm fun i hi=>RV i (by simp[hi])) (hB.frame sn fun i hi=>RV i (by simp[hi]))))
 obtain⟨g1,x1⟩:=σ1
 obtain⟨rfl,ub,ni⟩:=hq
 (try dsimp only at ub ni)
 refine hN _ _ ?_
 clear hN N
 have k1:=ni ⟨23000000,σ.next⟩ aT (fun h=>by
  have:=hv ⟨23000000,σ.next⟩ (by rcases List.mem_append.1 h with h|h<;>simp[h])
  (try dsimp only at this);omega)
 simp only[go_sem, ↓reduceIte,Nat.reduceEqDiff,Nat.reduceAdd,Nat.reduceSub,Nat.reduceLeDiff,reduceCtorEq]at k1
 (try((repeat(revert hN;revert N;apply Pn.out));refine wk @k1 ?_;(repeat(refine Pn.mk ?_;intro N hN))))
 refine .inr (aI _ _ _ _ _ (fun r σ2 hq=>?_) (JC _ p.bY i3 (k+2*p.aC.aB.length+(p.aC.ai.map gZ).sum) ah ah _ (fun i hi=>by have:=hv i (by simp[hi]);(try dsimp only);omega) ⟨_,rfl,hC.frame Dn fun i hi=>?_⟩))
 rotate_left
 ·exact(ni i (by have:=hv i (by simp[hi]);(try dsimp only);omega) fun h=>n3 i h i hi rfl).trans (RV i (by simp[hi]))
 obtain⟨g2,x2⟩:=σ2
 obtain⟨rfl,DO,za⟩:=hq
 (try dsimp only at DO za)
 refine hN _ _ ?_
 clear hN N
 (try((repeat(revert hN;revert N;apply Pn.out));refine wk @Nat.zero_add ?_;(repeat(refine Pn.mk ?_;intro N hN))))
 exact eS (.inl rfl) (vs:=[.int .i64 (k+2*p.aC.aB.length+(p.aC.ai.map gZ).sum+3*p.bY.ai.length)]) (sd @Nat.zero_add) ⟨by rw[hm];exact congrArg (AV.int .i64) ah,⟨aT,fun x hx hi=>by
  have h2:=za x aT fun h=>hi (by simp[h])
  have h3:=ni x aT fun h=>hi (by rcases List.mem_append.1 h with h|h<;>simp[h])
  have h4:=db hx
  simp only[go_sem, ↓reduceIte,Nat.reduceEqDiff,Nat.reduceAdd,Nat.reduceSub,Nat.reduceLeDiff,reduceCtorEq,h4]at h3
  exact h2.trans h3⟩⟩
end Go.Proofs.YtgoljkjaameagaaGreat.V

namespace Go.Proofs.YtgoljkjaameagaaGreat.V
open Go.RowKit
def AV.clean:AV->Bool
 | .int .. | .bool _| .str _| .bI| .iA| .jo| .jE| .own .. | .ptr .. | .map .. | .sQ _=>true
 | .sl l=>l.isEmpty
 |_=>false
def AV.uw:AV->Bool
 | .agg cs=>cs.all AV.clean
 | .gJ cs=>cs.all fun a=>match a with
  | .agg cs=>cs.all AV.clean
  |a=>a.clean
 |a=>a.clean
def AR (ids:List Id) (g g':Rows):Rows:=fun id=>if id∈ids then g' id else g id
theorem ql {ids:List Id} {g g':Rows} {id:Id} (h:id∈ids):AR ids g g' id=g' id:=if_pos h
theorem lJ {ids:List Id} {g g':Rows} {id:Id} (h:id∉ids):AR ids g g' id=g id:=if_neg h
section
variable {P:Program} {w w':World} {D D' D1 D2:Nat->Prop} {ι ι1 ι2:Names}
theorem kr {a:AV} {v:Value} (hp:a.clean=true) (h:dd P w D1 ι1 a v):dd P w D2 ι1 a v:=by
 cases h with
 |eV a v h=>
  cases h with
  |int=>exact .eV _ _ (.int _ _)
  |bool=>exact .eV _ _ (.bool _)
  |str=>exact .eV _ _ (.str _)
  |bI=>exact .eV _ _ .bI
  |iA=>exact .eV _ _ .iA
  |jo=>exact .eV _ _ .jo
  |jE=>exact .eV _ _ .jE
  |CJ a c h=>exact .eV _ _ (.CJ a c h)
  |sl rows b o n c sz vs h1 h2 h3=>
   have:rows=[]:=by simpa[AV.clean]using hp
   subst this
   simp only[List.length_nil]at h1
   subst h1
   exact .eV _ _ (.CJ _ _ h3)
  |dn=>simp[AV.clean]at hp
  |agg=>simp[AV.clean]at hp
  |fn=>simp[AV.clean]at hp
 |own id off len o cap B h1 h2 h3 h4 h5 h6=>exact .own id off len o cap B h1 h2 h3 h4 h5 h6
 |map id m B h1 h2=>exact .map id m B h1 h2
 |sQ id c B h1 h2=>exact .sQ id c B h1 h2
 |ptr id i off B h1 h2=>exact .ptr id i off B h1 h2
 |agg=>simp[AV.clean]at hp
 |gJ=>simp[AV.clean]at hp
 |fn=>simp[AV.clean]at hp
 |vU=>simp[AV.clean]at hp
theorem mU {cs:List AV} {v:Value} (hc:cs.all AV.clean=true) (h:dd P w D1 ι1 (.agg cs) v):dd P w D2 ι1 (.agg cs) v:=by
 obtain⟨vs,f,rfl,h1,h2,h3,h4⟩:=iY h
 rw[List.all_eq_true]at hc
 exact .agg cs vs f h1 h2 h3 fun j a ha=>kr (hc a (List.mem_of_getElem? ha)) (h4 j a ha)
theorem GJ {a:AV} {v:Value} (hp:a.uw=true) (h:dd P w D1 ι1 a v):dd P w D2 ι1 a v:=by
 cases a with
 |agg cs=>exact mU hp h
 |gJ cs=>
  obtain⟨vs,f,rfl,h1,h3,h4⟩:=w9 h
  simp only[AV.uw,List.all_eq_true]at hp
  refine .gJ cs vs f h1 h3 fun j a ha=>?_
  have:=hp a (List.mem_of_getElem? ha)
  split at this
  ·exact mU this (h4 j _ ha)
  ·exact kr this (h4 j _ ha)
 |_=>exact kr hp h
theorem GG {ag:Bool} {n:Nat} {cs:List AV} {x:AV} {v:Value} (hc:∀a∈cs,a.clean=true) (hp:part ag n cs=some x) (hr:dd P w D1 ι1 x v):dd P w D2 ι1 x v:=by
 unfold part at hp
 split at hp
 ·split at hp
  ·simp only[Option.some.injEq]at hp;subst hp
   exact mU (List.all_eq_true.2 fun a ha=>hc a (List.mem_of_mem_take ha)) hr
  ·cases hp
 ·exact kr (hc x (List.mem_of_mem_head? hp)) hr
theorem iF.clean {B:uf} {r:Row} (R:iF P w D1 ι1 B r) (h:∀cs∈r.rows,∀a∈cs,a.clean=true):iF P w D2 ι1 B r:=
 ⟨R.sz,R.flat,fun hk=>⟨R.sz,(R.row hk).tV,(R.row hk).fits,(R.row hk).len,R.flat,fun i j cs a hi hj=>by
  obtain⟨v,q1,q2⟩:=(R.row hk).at_ i j cs a hi hj
  exact⟨v,q1,kr (h cs (List.mem_of_getElem? hi) a (List.mem_of_getElem? hj)) q2⟩⟩,fun m hm=>by
  obtain⟨h1,es,c,h2,h3,h5,h4⟩:=R.map m hm
  refine⟨h1,es,c,h2,h3,h5,fun i cs hi=>?_⟩
  obtain⟨e,kv,vv,q1,q2,q3,q4,q5⟩:=h4 i cs hi
  have hc:=h cs (List.mem_of_getElem? hi)
  exact⟨e,kv,vv,q1,q2,q3,GG hc q2 q4,kr (hc vv (List.mem_of_getElem? q3)) q5⟩,fun c hc=>by
  obtain⟨h1,buf,s,q,h2,h3,h4⟩:=R.chan c hc
  refine⟨h1,buf,s,q,h2,h3,fun i cs hi=>?_⟩
  obtain⟨a,u,rfl,q2,q3⟩:=h4 i cs hi
  exact⟨a,u,rfl,q2,kr (h [a] (List.mem_of_getElem? hi) a (by simp)) q3⟩⟩
def Handed (ids:List Id) (g:Rows):Prop:=∀id∈ids,∃r,g id=some r/\r.w=true/\∀cs∈r.rows,∀a∈cs,a.clean=true
theorem Kn {f:Nat} {args args':List AV} {g:Rows} {n:Nat} {K:AV->aw->Prop} (hv:cZ (dH g) 6 args=some args')
  (h:Sound P f args' ⟨fun _=>none,n⟩ fun r σ'=>∃ids,r.uw=true/\Handed ids σ'.get/\K r ⟨AR ids g σ'.get,σ'.next⟩):Sound P f args ⟨g,n⟩ K:=by
 intro hs D ι w vs S U A
 let E:Nat->Prop:=fun b=>D b∨∃id r B,g id=some r/\ι id=some B/\b=B.b
 have lt:∀id r B,g id=some r->ι id=some B->B.b<w.heap.size:=fun id r B h1 h2=>by
  obtain⟨B',dL,R,_⟩:=S.row id r h1
  rw[h2]at dL;injection dL with dL;subst dL
  exact R.lt
 have S0:gR P w.heap.size E ι (fun _=>none) w:=⟨Nat.le_refl _,fun b hb=>by
  rcases hb with hb|⟨id,r,B,h1,h2,rfl⟩
  ·exact S.dead b hb
  ·exact lt id r B h1 h2,fun id r h=>(by cases h),fun id kE r r' B B' h=>(by cases h)⟩
 obtain⟨l1,l2⟩:=gW hv
 have A':fG P w E ι args' vs:=⟨by rw[A.1,l1],fun j a hj=>by
  obtain⟨a0,ma,hz⟩:=l2 j a hj
  obtain⟨u,hu,hr⟩:=A.2 j a0 ma
  refine⟨u,hu,(sZ (D2:=E) (ι2:=ι) (fun b h=>.inl h) (fun id row hg hw=>?_) 6 a0 u a hr hz).1⟩
  unfold dH at hg
  simp only[Option.map_eq_some_iff]at hg
  obtain⟨r,pf,rfl⟩:=hg
  obtain⟨B,hB,R,_,_⟩:=S.row id r pf
  exact⟨B,hB,R.flag true,.inr ⟨id,r,B,pf,hB,rfl⟩⟩⟩
 refine(h w.heap.size E ι w vs S0 U A').mono ?_
 rintro e w' ⟨r0,g',n',D2,ι1,u,rfl,⟨ids,mO,hid,hK⟩,T,S1,U1,hn,hR⟩
 have hb:∀b,b<w.heap.size->w'.heap[b]? =w.heap[b]? :=T.below.block
 have hz:=T.below.size
 have frame:∀{a v},dd P w D ι a v->dd P w' D ι1 a v:=fun h=>h.frame (fun b hd=>hb b (S.dead b hd)) (fun _ h=>h) T.names
 refine⟨r0,_,n',D,ι1,u,rfl,hK,⟨T.below.mono S.lo,fun b hd=>hb b (S.dead b hd),fun _ h=>h,T.names,fun _ h=>.inl h⟩,⟨Nat.le_trans S.lo hz,fun b hd=>Nat.lt_of_lt_of_le (S.dead b hd) hz,fun id r hr=>?_,fun Wh id2 r1 r2 B1 B2 h1 h2 hw CD qU QK=>?_⟩,U1,hn,GJ mO hR⟩
 ·by_cases hi:id∈ids
  ·rw[ql hi]at hr
   obtain⟨r',pf,hw,hcr⟩:=hid id hi
   rw[hr]at pf;injection pf with pf;subst pf
   obtain⟨B,hB,R,k1,k2⟩:=S1.row id r hr
   have j6:=k1 hw
   exact⟨B,hB,R.clean hcr,fun _=>Nat.le_trans S.lo j6,fun _ hd=>Nat.lt_irrefl _ (Nat.lt_of_lt_of_le (S.dead _ hd) j6)⟩
  ·rw[lJ hi]at hr
   obtain⟨B,hB,R,k1,k2⟩:=S.row id r hr
   have Xg:=lt id r B hr hB
   exact⟨B,T.names _ _ hB,R.frame (hb _ Xg) fun a v h=>frame h,k1,k2⟩
 ·have new:∀{id r B},id∈ids->AR ids g g' id=some r->ι1 id=some B->w.heap.size<=B.b/\g' id=some r/\r.w=true:=fun {id r B} hi hr hB=>by
   rw[ql hi]at hr
   obtain⟨r',pf,hw,_⟩:=hid id hi
   replace pf:g' id=some r':=pf
   rw[hr]at pf;injection pf with pf;subst pf
   obtain⟨B',dL,_,k1,_⟩:=S1.row id r hr
   rw[hB]at dL;injection dL with dL;subst dL
   exact⟨k1 hw,hr,hw⟩
  have AA:∀{id r B},id∉ids->AR ids g g' id=some r->ι1 id=some B->B.b<w.heap.size/\g id=some r/\ι id=some B:=fun {id r B} hi hr hB=>by
   rw[lJ hi]at hr
   obtain⟨B',dL,_⟩:=S.row id r hr
   have:=T.names _ _ dL
   rw[hB]at this;injection this with this;subst this
   exact⟨lt id r _ hr dL,hr,dL⟩
  by_cases i1:Wh∈ids
  ·obtain⟨a1,a2,a3⟩:=new i1 h1 CD
   by_cases i2:id2∈ids
   ·obtain⟨b1,b2,b3⟩:=new i2 h2 qU
    exact S1.inj Wh id2 r1 r2 B1 B2 a2 b2 hw CD qU QK
   ·obtain⟨b1,_⟩:=AA i2 h2 qU
    omega
  ·obtain⟨a1,a2,a3⟩:=AA i1 h1 CD
   by_cases i2:id2∈ids
   ·obtain⟨b1,_⟩:=new i2 h2 qU
    omega
   ·obtain⟨b1,b2,b3⟩:=AA i2 h2 qU
    exact S.inj Wh id2 r1 r2 B1 B2 a2 b2 hw a3 b3 QK
theorem xg (hm:P.follows .mixedOrders=true) {f:Nat} {args args':List AV} {σ:aw} {K:AV->aw->Prop} (hv:cZ (dH σ.get) 6 args=some args')
  (h:Call P f args' ⟨fun _=>none,σ.next⟩ fun r σ'=>∃ids,r.uw=true/\Handed ids σ'.get/\K r ⟨AR ids σ.get σ'.get,σ'.next⟩):Call P f args σ K:=
 fN (Kn hv (gS hm h))
end
inductive rE:List AV->List AV->Prop
 |nil:rE [] []
 |same (a) {l l'}:rE l l'->rE (a::l) (a::l')
 |ptr (cs rest) {l l'}:rE l l'->rE (.dn (cs++rest)::l) (.dn cs::l')
 |bI {l l'}:rE l l'->rE (.bI::l) (.sl []::l')
theorem P5 {P:Program} {w:World} {D:Nat->Prop} {ι:Names} {cs rest:List AV} {v:Value} (h:dd P w D ι (.dn (cs++rest)) v):dd P w D ι (.dn cs) v:=by
 obtain⟨b,o,vs,rfl,h1,h2,h3,h4⟩:=lY h
 exact .eV _ _ (.dn cs b o vs h1 (fun a ha=>h2 a (List.mem_append_left _ ha)) (fun j hj=>h3 j (by rw[List.length_append];omega)) fun j a ha=>h4 j a (by
  have:=(List.getElem?_eq_some_iff.1 ha).1
  rw[List.getElem?_append_left this];exact ha))
theorem P7 {P:Program} {w:World} {D:Nat->Prop} {ι:Names} {v:Value} (h:dd P w D ι .bI v):dd P w D ι (.sl []) v:=by
 cases h with
 |eV _ _ h=>
  cases h with
  |bI=>exact .eV _ _ (.CJ none 0 (Nat.zero_le _))
theorem rE.len {l l':List AV} (h:rE l l'):l'.length=l.length:=by induction h<;>simp_all
theorem rE.get {P:Program} {w:World} {D:Nat->Prop} {ι:Names} {l l':List AV} (h:rE l l'):∀{j:Nat} {a':AV},l'[j]? =some a'->∃a,l[j]? =some a/\∀v,dd P w D ι a v->dd P w D ι a' v:=by
 induction h with
 |nil=>intro j a' hj;simp at hj
 |same a _ ih=>
  intro j a' hj
  cases j with
  |zero=>simp at hj;subst hj;exact⟨a,rfl,fun _ h=>h⟩
  |succ j=>exact ih (by simpa using hj)
 |ptr cs rest _ ih=>
  intro j a' hj
  cases j with
  |zero=>simp at hj;subst hj;exact⟨_,rfl,fun _ h=>P5 h⟩
  |succ j=>exact ih (by simpa using hj)
 |bI _ ih=>
  intro j a' hj
  cases j with
  |zero=>simp at hj;subst hj;exact⟨_,rfl,fun _ h=>P7 h⟩
  |succ j=>exact ih (by simpa using hj)
theorem Call.cut {P:Program} (hm:P.follows .mixedOrders=true) {f:Nat} {args args':List AV} {σ:aw} {K:AV->aw->Prop} (hc:rE args args') (h:Call P f args' σ K):Call P f args σ K:=
 fN fun hs D ι w vs S U A=>gS hm h hs D ι w vs S U ⟨by rw[A.1,hc.len],fun j a' hj=>by
  obtain⟨a,ha,hr⟩:=hc.get (P:=P) (w:=w) (D:=D) (ι:=ι) hj
  obtain⟨u,hu,hv⟩:=A.2 j a ha
  exact⟨u,hu,hr u hv⟩⟩
theorem au.cut {P:Program} (hm:P.follows .mixedOrders=true) {f:Nat} {args args':List AV} {r:AV} (hc:rE args args') (h:au P f args' r):au P f args r:=fun n=>(h n).cut hm hc
end Go.Proofs.YtgoljkjaameagaaGreat.V

namespace Go.Proofs.YtgoljkjaameagaaGreat.V
open Go.RowKit
attribute [local irreducible] dK wpOps gw Call
attribute [local go_sem] aM fE eM fV fS dc upd cr K.av cI AV.cells AV.cell rowOf rowsOf part ld rowAt bE cj dy dS gU bJ cY ee fQ e6 dp dX cW cV dI dJ bP bc cL bL cP cN dV dY dW cK bU cX dU bK aO cR cC gT bw cG bQ aY dj aZ dz AV.undef bD bG dM dQ dE dG cE ec eh cz ea dZ cQ cU List.getD_cons_zero List.getD_cons_succ List.getD_nil List.all_cons List.all_nil Bool.and_true Bool.true_and Bool.and_self Bool.not_true Bool.not_false Option.map_some Option.map_none Option.bind_some Option.bind_none List.length_cons List.length_nil List.take_succ_cons List.take_zero List.take_nil List.drop_succ_cons List.drop_zero List.drop_nil List.head?_cons List.map_cons List.map_nil List.getElem?_cons_zero List.getElem?_cons_succ List.cons_append List.nil_append List.append_nil List.length_map List.set_cons_zero List.set_cons_succ eq_self Int.toNat_natCast Int.natCast_nonneg and_self true_and and_true decide_true decide_false Bool.false_eq_true Nat.zero_add Nat.add_zero List.contains_cons List.contains_nil Bool.or_false Bool.false_or beq_self_eq_true ne_eq not_true_eq_false not_false_eq_true Id.mk.injEq false_and and_false Nat.le_refl List.length_append beq_true beq_false Bool.not_eq_eq_eq_not or_false false_or dH aj ar aH bh bz ck aV bd aX bf cJ bB
section
variable {P:Program} {α:Type} {e:α->List AV} {z:Nat} {g g':Rows} {v:AV} {L:List α} {ids:List Id}
def Yf (e:α->List AV) (z:Nat) (g:Rows) (v:AV) (L:List α) (ids:List Id):Prop:=(L=[]/\v=.bI/\ids=[])∨∃o,v=.own o 0 L.length/\g o=some ⟨true,z,L.map e⟩/\ids=[o]/\0<L.length
def MA (e:α->List AV) (L:List α):AV:=if L.length=0 then .bI else .sl (L.map e)
def iE (e:α->List AV) (L:List α) (w:AV):Prop:=(w=.bI/\L=[])∨w=.sl (L.map e)
def Yd (P:Program) (f:Nat) (args:List AV) (e:α->List AV) (z:Nat) (L:List α) (c:Int):Prop:=
 ∀n:Nat,Call P f args ⟨fun _=>none,n⟩ (fun r σ'=>∃v ids,r=.gJ [v,.int .i64 c]/\Yf e z σ'.get v L ids/\eJ n σ'.next ids)
theorem ug (hm:P.follows .mixedOrders=true) {f:Nat} {args:List AV} {σ:aw} {K:AV->aw->Prop} (h:Call P f args σ K):Call P f args σ (fun r σ'=>K r σ'/\σ.next<=σ'.next):=
 fN fun hs D ι w vs S U A=>(gS hm h hs D ι w vs S U A).mono (by
  rintro e w' ⟨r,g',n',D2,ι1,u,rfl,hK,T,S1,U1,hn,hR⟩
  exact⟨r,g',n',D2,ι1,u,rfl,⟨hK,hn⟩,T,S1,U1,hn,hR⟩)
theorem Eu:iE e L (MA e L):=by
 unfold MA
 split
 ·rename_i h;exact .inl ⟨rfl,List.eq_nil_of_length_eq_zero h⟩
 ·exact .inr rfl
end
theorem iE.cut {α:Type} {e:α->List AV} {L:List α} {w:AV} (h:iE e L w) {l l':List AV} (hl:rE l l'):rE (w::l) (.sl (L.map e)::l'):=by
 rcases h with⟨rfl,rfl⟩|rfl
 ·exact .bI hl
 ·exact .same _ hl
end Go.Proofs.YtgoljkjaameagaaGreat.V

namespace Go.Proofs.YtgoljkjaameagaaGreat.V
open Go.RowKit
attribute [local irreducible] dK wpOps gw Call
attribute [local go_sem] aM fE eM fV fS dc upd cr K.av cI AV.cells AV.cell rowOf rowsOf part ld rowAt bE cj dy dS gU bJ cY ee fQ e6 dp dX cW cV dI dJ bP bc cL bL cP cN dV dY dW cK bU cX dU bK aO cR cC gT bw cG bQ aY dj aZ dz AV.undef bD bG dM dQ dE dG cE ec eh cz ea dZ cQ cU List.getD_cons_zero List.getD_cons_succ List.getD_nil List.all_cons List.all_nil Bool.and_true Bool.true_and Bool.and_self Bool.not_true Bool.not_false Option.map_some Option.map_none Option.bind_some Option.bind_none List.length_cons List.length_nil List.take_succ_cons List.take_zero List.take_nil List.drop_succ_cons List.drop_zero List.drop_nil List.head?_cons List.map_cons List.map_nil List.getElem?_cons_zero List.getElem?_cons_succ List.cons_append List.nil_append List.append_nil List.length_map List.set_cons_zero List.set_cons_succ Nat.reduceMul eq_self Int.toNat_natCast Int.natCast_nonneg and_self true_and and_true decide_true decide_false Bool.false_eq_true Nat.zero_add Nat.add_zero List.contains_cons List.contains_nil Bool.or_false Bool.false_or beq_self_eq_true Nat.reduceBEq ne_eq not_true_eq_false not_false_eq_true Id.mk.injEq false_and and_false Nat.reduceLT Int.reduceLE Int.reduceLT Int.reduceToNat Int.reduceNeg Int.reduceAdd Nat.le_refl List.length_append beq_true beq_false Bool.not_eq_eq_eq_not or_false false_or dH aj ar aH bh bz ck aV bd aX bf cJ bB
theorem JD (i:Id) (l:List aa) (k:Int) (h0:0<=k) (h1:k+3*l.length<=4611686018427387904) (σ:aw) (hv:i.bj<σ.next) (hg:σ.get i=some ⟨true,3,l.map ab⟩):
  Call Tryz.prog 49 [.own i 0 l.length,.int .i64 k] σ (fun r σ'=>r=.int .i64 (k+3*l.length)/\pe σ [i] σ'.get σ'.next/\σ'.get i=some ⟨true,3,(ue k l.length).map ab⟩):=by
 refine eA eF rfl fun hl=>?_
 clear hl
 have hz:iI k l 0=l:=by simp[iI,ue]
 (try((repeat(revert hN;revert N;apply Pn.out));refine wk @Nat.zero_add ?_;(repeat(refine Pn.mk ?_;intro N hN))))
 refine aQ (fun n env st=>∃j:Nat,n=(l.length)-j/\j<=(l.length)/\env 5=.int .i64 (j:Int)/\env 1=.int .i64 (k+3*j)/\st.get i=some ⟨true,3,(iI k l j).map ab⟩/\(pe σ [i] st.get st.next)) (l.length) ⟨0,ah,ah,sl (tw @Int.add_zero (tw @Int.natCast_zero (tw @Int.mul_zero (tw @hz @hg)))),sl (tw @Int.add_zero (tw @Int.natCast_zero (tw @Int.mul_zero (tw @hz @hg)))),sl (tw @Int.add_zero (tw @Int.natCast_zero (tw @Int.mul_zero (tw @hz @hg)))),by(try dsimp only);exact⟨aT,fun x _ _=>rfl⟩⟩ ?_
 rintro n_a env_a st_a ⟨j,rfl,ale,a5,a1,ag0,ke⟩ dv
 have a0:=dv 0 (by kernel_rfl)
 simp only[go_sem, ↓reduceIte,Nat.reduceEqDiff,Nat.reduceAdd,Nat.reduceSub,Nat.reduceLeDiff,reduceCtorEq,Int.add_zero,Int.natCast_zero,Int.mul_zero,hz,hg]at a0
 clear dv
 obtain⟨an,aF⟩:=ke
 by_cases hj:(j:Int)<(l.length:Int)
 ·have cq:∀{e:Env} {gg:Rows} {nx:Nat},(e 5=.int .i64 (IntKind.i64.wrap ((j:Int)+1)))->(e 1=.int .i64 (k+3*(j+1)))->(gg i=some ⟨true,3,(iI k l (j+1)).map ab⟩)->(pe σ [i] gg nx)->∃m0,m0<(l.length)-j/\∃j:Nat,m0=(l.length)-j/\j<=(l.length)/\e 5=.int .i64 (j:Int)/\e 1=.int .i64 (k+3*j)/\gg i=some ⟨true,3,(iI k l j).map ab⟩/\(pe σ [i] gg nx):=fun x1 x2 x3 x4=>⟨_,ah,j+1,rfl,ah,(by rw[x1,ay ah]),x2,x3,x4⟩
  have ga:j<l.length:=ah
  have eR:=BT (k:=k) ga
  have eb:=yk (k:=k) ga
  have jt:IntKind.i64.wrap (k+3*(j:Int)+1)=k+3*(j:Int)+1:=bq ah
  have ml:IntKind.i64.wrap (k+3*(j:Int)+1+1)=k+3*(j:Int)+2:=by rw[bq ah];omega
  have DX:IntKind.i64.wrap (k+3*(j:Int)+2+1)=k+3*((j:Int)+1):=by rw[bq ah];omega
  have hlen:((iI k l j).map ab).length=l.length:=by rw[List.length_map,yj ah]
  have F7:∀c:List AV,(((iI k l j).map ab).set j c)[j]? =some c:=fun c=>by rw[List.getElem?_set_self (by rw[hlen];exact ga)]
  (try((repeat(revert hN;revert N;apply Pn.out));refine wk (tw @a5 (tw @a1 (tw @ag0 (tw @a0 (tw @hj (tw @eR (tw @F7 (tw @eb (tw @jt (tw @ml (tw @DX (tw @hlen @qi)))))))))))) ?_;(repeat(refine Pn.mk ?_;intro N hN))))
  refine cq ?_ ?_ ?_ (by(try dsimp only);exact⟨aT,fun x hx hi=>by
   have h2:=aF x hx hi
   have h3:(x=i)=False:=eq_false fun e=>hi (by simp[e])
   simp only[go_sem, ↓reduceIte,Nat.reduceEqDiff,Nat.reduceAdd,Nat.reduceSub,Nat.reduceLeDiff,reduceCtorEq,h2,h3]⟩)
  all_goals simp only[go_sem, ↓reduceIte,Nat.reduceEqDiff,Nat.reduceAdd,Nat.reduceSub,Nat.reduceLeDiff,reduceCtorEq,a5,a1,ag0,a0,DX,eb]
 ·have ga:j=l.length:=ah
  subst ga
  (try((repeat(revert hN;revert N;apply Pn.out));refine wk (tw @a5 (tw @a1 (tw @ag0 (tw @a0 @hj)))) ?_;(repeat(refine Pn.mk ?_;intro N hN))))
  have jP:iI k l l.length=ue k l.length:=by simp[iI]
  rw[jP]at ag0
  exact eS (.inl rfl) (vs:=[.int .i64 (k+3*l.length)]) (sd (tw @a5 (tw @a1 (tw @ag0 @a0)))) ⟨rfl,⟨aT,fun x hx hi=>aF x hx hi⟩,ag0⟩
theorem Te (k:Int) {n j:Nat} (h:j<n):((ue k n).map ab)[j]? =some [.int .i64 (k+3*(j:Int)),.int .i64 (k+3*(j:Int)+1),.int .i64 (k+3*(j:Int)+2)]:=by
 simp[ue,h,ab]
theorem I9 (k:Int) (n:Nat) (h0:0<=k) (h1:k+3*n<=4611686018427387904):au Tryz.prog 50 [.sl ((ue k n).map ab),.int .i64 k] (.int .i64 (k+3*n)):=by
 refine au.body eF rfl fun hl n0=>?_
 clear hl
 obtain⟨m,hm⟩:∃m,n=m:=⟨_,rfl⟩
 rw[hm]at h1 ⊢
 (try((repeat(revert hN;revert N;apply Pn.out));refine wk @fI ?_;(repeat(refine Pn.mk ?_;intro N hN))))
 refine aQ (fun n env st=>∃j:Nat,n=(m)-j/\j<=(m)/\env 5=.int .i64 (j:Int)/\env 1=.int .i64 (k+3*j)) (m) ⟨0,ah,ah,sl (tw @Int.add_zero (tw @Int.natCast_zero (tw @Int.mul_zero @fI))),sl (tw @Int.add_zero (tw @Int.natCast_zero (tw @Int.mul_zero @fI)))⟩ ?_
 rintro n_a env_a st_a ⟨j,rfl,ale,a5,a1⟩ dv
 have a0:=dv 0 (by kernel_rfl)
 simp only[go_sem, ↓reduceIte,Nat.reduceEqDiff,Nat.reduceAdd,Nat.reduceSub,Nat.reduceLeDiff,reduceCtorEq,Int.add_zero,Int.natCast_zero,Int.mul_zero,fI]at a0
 clear dv
 by_cases hj:(j:Int)<(m:Int)
 ·have cq:∀{e:Env},(e 5=.int .i64 (IntKind.i64.wrap ((j:Int)+1)))->(e 1=.int .i64 (k+3*(j+1)))->∃m0,m0<(m)-j/\∃j:Nat,m0=(m)-j/\j<=(m)/\e 5=.int .i64 (j:Int)/\e 1=.int .i64 (k+3*j):=fun x1 x2=>⟨_,ah,j+1,rfl,ah,(by rw[x1,ay ah]),x2⟩
  have eR:=Te k (n:=m) (j:=j) ah
  have jt:IntKind.i64.wrap (k+3*(j:Int)+1)=k+3*(j:Int)+1:=bq ah
  have ml:IntKind.i64.wrap (k+3*(j:Int)+1+1)=k+3*(j:Int)+2:=by rw[bq ah];omega
  have DX:IntKind.i64.wrap (k+3*(j:Int)+2+1)=k+3*((j:Int)+1):=by rw[bq ah];omega
  have e1:decide (k+3*(j:Int)=k+3*(j:Int))=true:=decide_eq_true rfl
  have e2:decide (k+3*(j:Int)+1=k+3*(j:Int)+1)=true:=decide_eq_true rfl
  have e3:decide (k+3*(j:Int)+2=k+3*(j:Int)+2)=true:=decide_eq_true rfl
  (try((repeat(revert hN;revert N;apply Pn.out));refine wk (tw @a5 (tw @a1 (tw @a0 (tw @hj (tw @eR (tw @jt (tw @ml (tw @DX (tw @fI (tw @e1 (tw @e2 @e3))))))))))) ?_;(repeat(refine Pn.mk ?_;intro N hN))))
  refine cq ?_ ?_
  all_goals simp only[go_sem, ↓reduceIte,Nat.reduceEqDiff,Nat.reduceAdd,Nat.reduceSub,Nat.reduceLeDiff,reduceCtorEq,a5,a1,a0,DX]
 ·have ga:j=m:=ah
  subst ga
  (try((repeat(revert hN;revert N;apply Pn.out));refine wk (tw @a5 (tw @a1 (tw @a0 (tw @hj @fI)))) ?_;(repeat(refine Pn.mk ?_;intro N hN))))
  exact da (b:=k+3*(j:Int)) (.inl rfl) (sd (tw @a5 (tw @a1 @a0))) rfl
theorem OE (a b:aa):au Tryz.prog 106 [.agg (ab a),.agg (ab b)] (.bool (decide (a=b))):=by
 refine au.body eF rfl fun hl n0=>?_
 clear hl
 have h:=zX a.aJ b.aJ
 rw[ae,ae]at h
 by_cases h1:a.aJ=b.aJ
 ·rw[decide_eq_true h1]at h
  by_cases h2:a.br=b.br
  ·have e2:decide (a.br=b.br)=true:=decide_eq_true h2
   (repeat(first|((repeat(revert hN;revert N;apply Pn.out));refine wk (tw @ab.eq_1 @e2) ?_;(repeat(refine Pn.mk ?_;intro N hN)))|((try apply Or.inl);refine⟨_,au.x (h) (sd (tw @ab.eq_1 @e2)),?_⟩;refine hN _ _ ?_;clear hN N)))
   exact bp (b:=true) (.inl rfl) (sd @Nat.zero_add) (decide_eq_true (by cases a;cases b;simp_all)).symm
  ·have e2:decide (a.br=b.br)=false:=decide_eq_false h2
   (repeat(first|((repeat(revert hN;revert N;apply Pn.out));refine wk (tw @ab.eq_1 @e2) ?_;(repeat(refine Pn.mk ?_;intro N hN)))|((try apply Or.inl);refine⟨_,au.x (h) (sd (tw @ab.eq_1 @e2)),?_⟩;refine hN _ _ ?_;clear hN N)))
   exact bp (b:=false) (.inl rfl) (sd @Nat.zero_add) (decide_eq_false (by rintro rfl;exact h2 rfl)).symm
 ·rw[decide_eq_false h1]at h
  (repeat(first|((repeat(revert hN;revert N;apply Pn.out));refine wk @ab.eq_1 ?_;(repeat(refine Pn.mk ?_;intro N hN)))|((try apply Or.inl);refine⟨_,au.x (h) (sd @ab.eq_1),?_⟩;refine hN _ _ ?_;clear hN N)))
  exact bp (b:=false) (.inl rfl) (sd @Nat.zero_add) (decide_eq_false (by rintro rfl;exact h1 rfl)).symm
theorem Lq (xs ys:List aa):au Tryz.prog 48 [.sl (xs.map ab),.sl (ys.map ab)] (.bool (decide (xs=ys))):=
 Bj (show nK Tryz.prog 48=some (Di 48 106 3) by kernel_rfl) (fun _=>rfl) xN xs ys OE
end Go.Proofs.YtgoljkjaameagaaGreat.V

namespace Go.Proofs.YtgoljkjaameagaaGreat.V
open Go.RowKit
variable {P:Program}
theorem S7 (hm:P.follows .mixedOrders=true) {f:Nat} {args:List AV} {vs:Array Value} {w:World} (h:au P f args (.bool true)) (hA:fG P w (fun b=>b<w.heap.size) (fun _=>none) args vs):
  Calls P f vs w fun e w'=>e=.returned (.bool true)/\Below w.heap.size w w':=by
 have hs:=gS hm (h 0) w.heap.size (fun b=>b<w.heap.size) (fun _=>none) w vs ⟨Nat.le_refl _,fun _ h=>h,fun id r h=>(by cases h),fun id kE r r' B B' h=>(by cases h)⟩ (fun id h=>absurd rfl h) hA
 refine hs.mono ?_
 rintro e w' ⟨r,g',n',D',ι',u,rfl,⟨r',hz,rfl⟩,dC,hsim,_,_,il⟩
 have hr:r=.bool true:=by
  cases r<;>rw[gF]at hz<;>simp_all
  all_goals (repeat' (split at hz))<;>simp_all
 subst hr
 exact⟨by rw[fw il],dC.below⟩
theorem nD {xs:List AV} {w:World} {D:Nat->Prop} {ι:Names} {a:AV} {v:Value} {vs:Array Value} (h:kd P w D a v) (k:fG P w D ι xs vs):fG P w D ι (a::xs) (#[v]++vs):=
 qf (xs:=[a]) ⟨rfl,fun j b hj=>by
  cases j with
  |zero=>simp at hj;subst hj;exact⟨v,rfl,.eV _ _ h⟩
  |succ j=>simp at hj⟩ k
end Go.Proofs.YtgoljkjaameagaaGreat.V

namespace Go.Proofs.YtgoljkjaameagaaGreat.V
open Go.RowKit
attribute [local irreducible] dK wpOps gw Call
attribute [local go_sem] aM fE eM fV fS dc upd cr K.av cI AV.cells AV.cell rowOf rowsOf part ld rowAt bE cj dy dS gU bJ cY ee fQ e6 dp dX cW cV dI dJ bP bc cL bL cP cN dV dY dW cK bU cX dU bK aO cR cC gT bw cG bQ aY dj aZ dz AV.undef bD bG dM dQ dE dG cE ec eh cz ea dZ cQ cU List.getD_cons_zero List.getD_cons_succ List.getD_nil List.all_cons List.all_nil Bool.and_true Bool.true_and Bool.and_self Bool.not_true Bool.not_false Option.map_some Option.map_none Option.bind_some Option.bind_none List.length_cons List.length_nil List.take_succ_cons List.take_zero List.take_nil List.drop_succ_cons List.drop_zero List.drop_nil List.head?_cons List.map_cons List.map_nil List.getElem?_cons_zero List.getElem?_cons_succ List.cons_append List.nil_append List.append_nil List.length_map List.set_cons_zero List.set_cons_succ Nat.reduceMul eq_self Int.toNat_natCast Int.natCast_nonneg and_self true_and and_true decide_true decide_false Bool.false_eq_true Nat.zero_add Nat.add_zero List.contains_cons List.contains_nil Bool.or_false Bool.false_or beq_self_eq_true Nat.reduceBEq ne_eq not_true_eq_false not_false_eq_true Id.mk.injEq false_and and_false Nat.reduceLT Int.reduceLE Int.reduceLT Int.reduceToNat Int.reduceNeg Int.reduceAdd Nat.le_refl List.length_append beq_true beq_false Bool.not_eq_eq_eq_not or_false false_or dH aj ar aH bh bz ck aV bd aX bf cJ bB
theorem Tw {α:Type} (f:α->Nat) {xs:List α} {x:α} (h:x∈xs):f x<=(xs.map f).sum:=by
 induction xs with
 |nil=>cases h
 |cons y ys ih=>
  simp only[List.map_cons,List.sum_cons]
  rcases List.mem_cons.1 h with rfl|h
  ·omega
  ·have:=ih h;omega
theorem Ka {s:aE} (h:EW s<=1048576):vg s:=by
 unfold EW wM at h
 refine⟨⟨ah,ah,fun t ht=>?_⟩,ah⟩
 have:=Tw lu ht
 have h2:t.bV.length<=lu t:=by unfold lu;omega
 unfold uj
 omega
end Go.Proofs.YtgoljkjaameagaaGreat.V

namespace Go.Proofs.YtgoljkjaameagaaGreat.V
open Go.RowKit
attribute [local irreducible] dK wpOps gw Call
attribute [local go_sem] aM fE eM fV fS dc upd cr K.av cI AV.cells AV.cell rowOf rowsOf part ld rowAt bE cj dy dS gU bJ cY ee fQ e6 dp dX cW cV dI dJ bP bc cL bL cP cN dV dY dW cK bU cX dU bK aO cR cC gT bw cG bQ aY dj aZ dz AV.undef bD bG dM dQ dE dG cE ec eh cz ea dZ cQ cU List.getD_cons_zero List.getD_cons_succ List.getD_nil List.all_cons List.all_nil Bool.and_true Bool.true_and Bool.and_self Bool.not_true Bool.not_false Option.map_some Option.map_none Option.bind_some Option.bind_none List.length_cons List.length_nil List.take_succ_cons List.take_zero List.take_nil List.drop_succ_cons List.drop_zero List.drop_nil List.head?_cons List.map_cons List.map_nil List.getElem?_cons_zero List.getElem?_cons_succ List.cons_append List.nil_append List.append_nil List.length_map List.set_cons_zero List.set_cons_succ eq_self Int.toNat_natCast Int.natCast_nonneg and_self true_and and_true decide_true decide_false Bool.false_eq_true Nat.zero_add Nat.add_zero List.contains_cons List.contains_nil Bool.or_false Bool.false_or beq_self_eq_true ne_eq not_true_eq_false not_false_eq_true Id.mk.injEq false_and and_false Nat.le_refl List.length_append beq_true beq_false Bool.not_eq_eq_eq_not or_false false_or dH aj ar aH bh bz ck aV bd aX bf cJ bB
theorem Ic {g:Rows} {v w:AV} {s:aE} {i:List Id} (hX:CR g v s i) (hw:fz (dH g) 6 w=some w):cZ (dH g) 6 [v,w]=some [.agg (aA s),w]:=by
 simp only[aj,ar,hX.fz 1,hw,Option.map_some]
theorem wS (g:Rows) (s:aE):fz g 6 (.agg (aA s))=some (.agg (aA s)):=by simp[aA,bd,aj,ar,ck,aH]
theorem nf {g:Rows} {v w v' w':AV} (h1:fz g 6 v=some v') (h2:fz g 6 w=some w'):cZ g 6 [v,w]=some [v',w']:=by
 simp only[aj,ar,h1,h2,Option.map_some]
theorem PG (s:aE):Gs s<=3*EW s:=by
 have h:∀l:List fb,(l.map gZ).sum<=l.length+(l.map lu).sum:=fun l=>by
  induction l with
  |nil=>simp
  |cons t l ih=>simp only[List.map_cons,List.sum_cons,List.length_cons,gZ,lu]at *;omega
 have:=h s.aC.ai
 unfold Gs EW wM
 omega
theorem eJ.not {a b:Nat} {ids:List Id} (h:eJ a b ids) {x:Id} (hx:x.bj<a∨b<=x.bj):x∉ids:=fun hc=>by
 have:=h.2 x hc;omega
theorem iE.fz {α:Type} {e:α->List AV} {L:List α} {w:AV} (h:iE e L w) (g:Rows):V.fz g 6 w=some w:=by
 rcases h with⟨rfl,rfl⟩|rfl
 ·exact aV _ _
 ·exact ck _ _ _
end Go.Proofs.YtgoljkjaameagaaGreat.V

namespace Go.Proofs.YtgoljkjaameagaaGreat.V
open Go.RowKit
attribute [local irreducible] dK wpOps gw Call
attribute [local go_sem] aM fE eM fV fS dc upd cr K.av cI AV.cells AV.cell rowOf rowsOf part ld rowAt bE cj dy dS gU bJ cY ee fQ e6 dp dX cW cV dI dJ bP bc cL bL cP cN dV dY dW cK bU cX dU bK aO cR cC gT bw cG bQ aY dj aZ dz AV.undef bD bG dM dQ dE dG cE ec eh cz ea dZ cQ cU List.getD_cons_zero List.getD_cons_succ List.getD_nil List.all_cons List.all_nil Bool.and_true Bool.true_and Bool.and_self Bool.not_true Bool.not_false Option.map_some Option.map_none Option.bind_some Option.bind_none List.length_cons List.length_nil List.take_succ_cons List.take_zero List.take_nil List.drop_succ_cons List.drop_zero List.drop_nil List.head?_cons List.map_cons List.map_nil List.getElem?_cons_zero List.getElem?_cons_succ List.cons_append List.nil_append List.append_nil List.length_map List.set_cons_zero List.set_cons_succ Nat.reduceMul eq_self Int.toNat_natCast Int.natCast_nonneg and_self true_and and_true decide_true decide_false Bool.false_eq_true Nat.zero_add Nat.add_zero List.contains_cons List.contains_nil Bool.or_false Bool.false_or beq_self_eq_true Nat.reduceBEq ne_eq not_true_eq_false not_false_eq_true Id.mk.injEq false_and and_false Nat.reduceLT Int.reduceLE Int.reduceLT Int.reduceToNat Int.reduceNeg Int.reduceAdd Nat.le_refl List.length_append beq_true beq_false Bool.not_eq_eq_eq_not or_false false_or dH aj ar aH bh bz ck aV bd aX bf cJ bB
theorem PH (k:Int) {n j:Nat} (h:j<n):((ue k n).map ab)[j]? =some [.int .i64 (k+3*(j:Int)),.int .i64 (k+3*(j:Int)+1),.int .i64 (k+3*(j:Int)+2)]:=by
 simp[ue,h,ab]
theorem LP (k:Int) (n:Nat) (h0:0<=k) (h1:k+3*n<=4611686018427387904):au Tryz.prog 60 [.sl ((ue k n).map ab),.int .i64 k] (.int .i64 (k+3*n)):=by
 refine au.body eF rfl fun hl n0=>?_
 clear hl
 obtain⟨m,hm⟩:∃m,n=m:=⟨_,rfl⟩
 rw[hm]at h1 ⊢
 (try((repeat(revert hN;revert N;apply Pn.out));refine wk @fI ?_;(repeat(refine Pn.mk ?_;intro N hN))))
 refine aQ (fun n env st=>∃j:Nat,n=(m)-j/\j<=(m)/\env 5=.int .i64 (j:Int)/\env 1=.int .i64 (k+3*j)) (m) ⟨0,ah,ah,sl (tw @Int.add_zero (tw @Int.natCast_zero (tw @Int.mul_zero @fI))),sl (tw @Int.add_zero (tw @Int.natCast_zero (tw @Int.mul_zero @fI)))⟩ ?_
 rintro n_a env_a st_a ⟨j,rfl,ale,a5,a1⟩ dv
 have a0:=dv 0 (by kernel_rfl)
 simp only[go_sem, ↓reduceIte,Nat.reduceEqDiff,Nat.reduceAdd,Nat.reduceSub,Nat.reduceLeDiff,reduceCtorEq,Int.add_zero,Int.natCast_zero,Int.mul_zero,fI]at a0
 clear dv
 by_cases hj:(j:Int)<(m:Int)
 ·have cq:∀{e:Env},(e 5=.int .i64 (IntKind.i64.wrap ((j:Int)+1)))->(e 1=.int .i64 (k+3*(j+1)))->∃m0,m0<(m)-j/\∃j:Nat,m0=(m)-j/\j<=(m)/\e 5=.int .i64 (j:Int)/\e 1=.int .i64 (k+3*j):=fun x1 x2=>⟨_,ah,j+1,rfl,ah,(by rw[x1,ay ah]),x2⟩
  have eR:=PH k (n:=m) (j:=j) ah
  have jt:IntKind.i64.wrap (k+3*(j:Int)+1)=k+3*(j:Int)+1:=bq ah
  have ml:IntKind.i64.wrap (k+3*(j:Int)+1+1)=k+3*(j:Int)+2:=by rw[bq ah];omega
  have DX:IntKind.i64.wrap (k+3*(j:Int)+2+1)=k+3*((j:Int)+1):=by rw[bq ah];omega
  have e1:decide (k+3*(j:Int)=k+3*(j:Int))=true:=decide_eq_true rfl
  have e2:decide (k+3*(j:Int)+1=k+3*(j:Int)+1)=true:=decide_eq_true rfl
  have e3:decide (k+3*(j:Int)+2=k+3*(j:Int)+2)=true:=decide_eq_true rfl
  (try((repeat(revert hN;revert N;apply Pn.out));refine wk (tw @a5 (tw @a1 (tw @a0 (tw @hj (tw @eR (tw @jt (tw @ml (tw @DX (tw @fI (tw @e1 (tw @e2 @e3))))))))))) ?_;(repeat(refine Pn.mk ?_;intro N hN))))
  refine cq ?_ ?_
  all_goals simp only[go_sem, ↓reduceIte,Nat.reduceEqDiff,Nat.reduceAdd,Nat.reduceSub,Nat.reduceLeDiff,reduceCtorEq,a5,a1,a0,DX]
 ·have ga:j=m:=ah
  subst ga
  (try((repeat(revert hN;revert N;apply Pn.out));refine wk (tw @a5 (tw @a1 (tw @a0 (tw @hj @fI)))) ?_;(repeat(refine Pn.mk ?_;intro N hN))))
  exact da (b:=k+3*(j:Int)) (.inl rfl) (sd (tw @a5 (tw @a1 @a0))) rfl
theorem JE (k:Int) (σ:aw):Call Tryz.prog 59 [.bI,.int .i64 k] σ (fun r σ'=>r=.int .i64 k/\pe σ [] σ'.get σ'.next):=by
 refine eA eF rfl fun hl=>?_
 clear hl
 (try((repeat(revert hN;revert N;apply Pn.out));refine wk @Nat.zero_add ?_;(repeat(refine Pn.mk ?_;intro N hN))))
 refine aQ (fun n env st=>(env 1=.int .i64 k/\env 5=.int .i64 0/\env 0=.bI)/\σ.next<=st.next/\∀x:Id,st.get x=σ.get x) 0 ⟨⟨sd @Nat.zero_add,sd @Nat.zero_add,sd @Nat.zero_add⟩,aT,fun _=>rfl⟩ ?_
 rintro m e st ⟨⟨a1,a5,a0⟩,an,aF⟩ -
 have d0:decide ((0:Int)<((0:Nat):Int))=false:=rfl
 (try((repeat(revert hN;revert N;apply Pn.out));refine wk (tw @a0 (tw @a1 (tw @a5 @d0))) ?_;(repeat(refine Pn.mk ?_;intro N hN))))
 exact eS (.inl rfl) (vs:=[.int .i64 k]) (sd @a1) ⟨rfl,⟨aT,fun x hx hi=>aF x⟩⟩
theorem Ja {w:AV} (k:Int) (n:Nat) (h0:0<=k) (h1:k+3*n<=4611686018427387904) (hw:iE ab (ue k n) w):au Tryz.prog 60 [w,.int .i64 k] (.int .i64 (k+3*n)):=
 (LP k n h0 h1).cut mixed (hw.cut (.same _ .nil))
theorem OF {L:List aa} {v w:AV} (hv:iE ab L v) (hw:iE ab L w):au Tryz.prog 58 [v,w] (.bool true):=by
 have h:=vn L L
 rw[decide_eq_true rfl]at h
 exact h.cut mixed (hv.cut (hw.cut .nil))
theorem xG {L:List aa} {v w:AV} (hv:iE ab L v) (hw:iE ab L w):au Tryz.prog 22 [.agg [v],.agg [w]] (.bool true):=by
 refine au.body eF rfl fun hl n0=>?_
 clear hl
 have h:=OF hv hw
 rcases hv with⟨rfl,hL⟩|rfl<;>rcases hw with⟨rfl,hL2⟩|rfl
 ·(repeat(first|((repeat(revert hN;revert N;apply Pn.out));refine wk @Nat.zero_add ?_;(repeat(refine Pn.mk ?_;intro N hN)))|((try apply Or.inl);refine⟨_,au.x (h) (sd @Nat.zero_add),?_⟩;refine hN _ _ ?_;clear hN N)))
  exact bp (b:=true) (.inl rfl) (sd @Nat.zero_add) rfl
 ·(repeat(first|((repeat(revert hN;revert N;apply Pn.out));refine wk @Nat.zero_add ?_;(repeat(refine Pn.mk ?_;intro N hN)))|((try apply Or.inl);refine⟨_,au.x (h) (sd @Nat.zero_add),?_⟩;refine hN _ _ ?_;clear hN N)))
  exact bp (b:=true) (.inl rfl) (sd @Nat.zero_add) rfl
 ·(repeat(first|((repeat(revert hN;revert N;apply Pn.out));refine wk @Nat.zero_add ?_;(repeat(refine Pn.mk ?_;intro N hN)))|((try apply Or.inl);refine⟨_,au.x (h) (sd @Nat.zero_add),?_⟩;refine hN _ _ ?_;clear hN N)))
  exact bp (b:=true) (.inl rfl) (sd @Nat.zero_add) rfl
 ·(repeat(first|((repeat(revert hN;revert N;apply Pn.out));refine wk @Nat.zero_add ?_;(repeat(refine Pn.mk ?_;intro N hN)))|((try apply Or.inl);refine⟨_,au.x (h) (sd @Nat.zero_add),?_⟩;refine hN _ _ ?_;clear hN N)))
  exact bp (b:=true) (.inl rfl) (sd @Nat.zero_add) rfl
theorem xR {w:AV} (k:Int) (n:Nat) (h0:0<=k) (h1:k+3*n<=4611686018427387904) (hw:iE ab (ue k n) w):au Tryz.prog 45 [.agg [w],.int .i64 k] (.int .i64 (k+3*n)):=by
 refine au.body eF rfl fun hl n0=>?_
 clear hl
 have h:=Ja k n h0 h1 hw
 have hp:¬k+3*(n:Int)<0:=ah
 rcases hw with⟨rfl,hL⟩|rfl
 ·(repeat(first|((repeat(revert hN;revert N;apply Pn.out));refine wk @hp ?_;(repeat(refine Pn.mk ?_;intro N hN)))|((try apply Or.inl);refine⟨_,au.x (h) (sd @hp),?_⟩;refine hN _ _ ?_;clear hN N)))
  exact da (b:=k+3*(n:Int)) (.inl rfl) (sd @Nat.zero_add) rfl
 ·(repeat(first|((repeat(revert hN;revert N;apply Pn.out));refine wk @hp ?_;(repeat(refine Pn.mk ?_;intro N hN)))|((try apply Or.inl);refine⟨_,au.x (h) (sd @hp),?_⟩;refine hN _ _ ?_;clear hN N)))
  exact da (b:=k+3*(n:Int)) (.inl rfl) (sd @Nat.zero_add) rfl
end Go.Proofs.YtgoljkjaameagaaGreat.V

namespace Go.Proofs.YtgoljkjaameagaaGreat.V
open Go.RowKit
attribute [local irreducible] dK wpOps gw Call
attribute [local go_sem] aM fE eM fV fS dc upd cr K.av cI AV.cells AV.cell rowOf rowsOf part ld rowAt bE cj dy dS gU bJ cY ee fQ e6 dp dX cW cV dI dJ bP bc cL bL cP cN dV dY dW cK bU cX dU bK aO cR cC gT bw cG bQ aY dj aZ dz AV.undef bD bG dM dQ dE dG cE ec eh cz ea dZ cQ cU List.getD_cons_zero List.getD_cons_succ List.getD_nil List.all_cons List.all_nil Bool.and_true Bool.true_and Bool.and_self Bool.not_true Bool.not_false Option.map_some Option.map_none Option.bind_some Option.bind_none List.length_cons List.length_nil List.take_succ_cons List.take_zero List.take_nil List.drop_succ_cons List.drop_zero List.drop_nil List.head?_cons List.map_cons List.map_nil List.getElem?_cons_zero List.getElem?_cons_succ List.cons_append List.nil_append List.append_nil List.length_map List.set_cons_zero List.set_cons_succ eq_self Int.toNat_natCast Int.natCast_nonneg and_self true_and and_true decide_true decide_false Bool.false_eq_true Nat.zero_add Nat.add_zero List.contains_cons List.contains_nil Bool.or_false Bool.false_or beq_self_eq_true ne_eq not_true_eq_false not_false_eq_true Id.mk.injEq false_and and_false Nat.le_refl List.length_append beq_true beq_false Bool.not_eq_eq_eq_not or_false false_or dH aj ar aH bh bz ck aV bd aX bf cJ bB
theorem iE.cell {α:Type} {e:α->List AV} {L:List α} {w:AV} (h:iE e L w):w.cells=[w]/\w.cell=true:=by
 rcases h with⟨rfl,rfl⟩|rfl<;>exact⟨rfl,rfl⟩
theorem mA {g:Rows} {v w:AV} (h:fz g 5 v=some w):fz g 6 (.agg [v])=some (.agg [w]):=by simp only[bd,aj,ar,h,Option.map_some]
theorem iE.Xb {α:Type} {e:α->List AV} {L:List α} {w:AV} (h:iE e L w) (g:Rows):V.fz g 5 w=some w:=by
 rcases h with⟨rfl,rfl⟩|rfl
 ·exact aV _ _
 ·exact ck _ _ _
end Go.Proofs.YtgoljkjaameagaaGreat.V

namespace Go.Proofs.YtgoljkjaameagaaGreat.V
open Go.RowKit
attribute [local irreducible] dK wpOps gw Call
attribute [local go_sem] aM fE eM fV fS dc upd cr K.av cI AV.cells AV.cell rowOf rowsOf part ld rowAt bE cj dy dS gU bJ cY ee fQ e6 dp dX cW cV dI dJ bP bc cL bL cP cN dV dY dW cK bU cX dU bK aO cR cC gT bw cG bQ aY dj aZ dz AV.undef bD bG dM dQ dE dG cE ec eh cz ea dZ cQ cU List.getD_cons_zero List.getD_cons_succ List.getD_nil List.all_cons List.all_nil Bool.and_true Bool.true_and Bool.and_self Bool.not_true Bool.not_false Option.map_some Option.map_none Option.bind_some Option.bind_none List.length_cons List.length_nil List.take_succ_cons List.take_zero List.take_nil List.drop_succ_cons List.drop_zero List.drop_nil List.head?_cons List.map_cons List.map_nil List.getElem?_cons_zero List.getElem?_cons_succ List.cons_append List.nil_append List.append_nil List.length_map List.set_cons_zero List.set_cons_succ Nat.reduceMul eq_self Int.toNat_natCast Int.natCast_nonneg and_self true_and and_true decide_true decide_false Bool.false_eq_true Nat.zero_add Nat.add_zero List.contains_cons List.contains_nil Bool.or_false Bool.false_or beq_self_eq_true Nat.reduceBEq ne_eq not_true_eq_false not_false_eq_true Id.mk.injEq false_and and_false Nat.reduceLT Int.reduceLE Int.reduceLT Int.reduceToNat Int.reduceNeg Int.reduceAdd Nat.le_refl List.length_append beq_true beq_false Bool.not_eq_eq_eq_not or_false false_or dH aj ar aH bh bz ck aV bd aX bf cJ bB
theorem Il {P:Program} {K:AV->Rows->List Id->Prop} (hm:P.follows .mixedOrders=true) {f:Nat} {args args':List AV} {σ:aw}
  (mO:∀r g ids,K r g ids->r.uw=true/\Handed ids g) (j4:∀r g g' ids,K r g ids->(∀i∈ids,g' i=g i)->K r g' ids)
  (h:∀n:Nat,Call P f args' ⟨fun _=>none,n⟩ (fun r σ'=>∃ids,K r σ'.get ids/\eJ n σ'.next ids)) (hv:cZ (dH σ.get) 6 args=some args'):
  Call P f args σ (fun r σ'=>∃ids,K r σ'.get ids/\eJ σ.next σ'.next ids/\Kept σ σ'):=by
 refine xg hm hv (aI _ _ _ _ _ (fun r σ' hq=>?_) (ug hm (h σ.next)))
 obtain⟨⟨ids,hK,hi⟩,hn⟩:=hq
 obtain⟨c1,c2⟩:=mO _ _ _ hK
 exact⟨ids,c1,c2,ids,j4 _ _ _ _ hK (fun i hi=>ql hi),hi,hn,fun j hj=>lJ fun hc=>by have:=(hi.2 j hc).1;omega⟩
theorem eJ.left {a b:Nat} {i j:List Id} (h:eJ a b (i++j)):eJ a b i:=⟨(List.nodup_append.1 h.1).1,fun x hx=>h.2 x (by simp[hx])⟩
theorem eJ.right {a b:Nat} {i j:List Id} (h:eJ a b (i++j)):eJ a b j:=⟨(List.nodup_append.1 h.1).2.1,fun x hx=>h.2 x (by simp[hx])⟩
theorem eJ.apart {a b:Nat} {i j:List Id} (h:eJ a b (i++j)):∀x∈j,x∉i:=fun x hx hi=>(List.nodup_append.1 h.1).2.2 x hi x hx rfl
theorem Handed.app {i j:List Id} {g:Rows} (h:Handed i g) (k:Handed j g):Handed (i++j) g:=fun x hx=>by
 rcases List.mem_append.1 hx with h1|h1
 ·exact h x h1
 ·exact k x h1
theorem Handed.nil {g:Rows}:Handed [] g:=fun x hx=>by cases hx
section
variable {P:Program} {α:Type} {e:α->List AV} {z:Nat} {g g':Rows} {v:AV} {L:List α} {ids:List Id}
def mh (e:α->List AV) (z:Nat) (g:Rows) (v:AV) (L:List α) (ids:List Id):Prop:=(L=[]/\v=.bI/\ids=[])∨∃(o:Id) (J:List α),v=.own o 0 L.length/\g o=some ⟨true,z,(L++J).map e⟩/\ids=[o]/\0<L.length
theorem mh.frame (h:mh e z g v L ids) (hf:∀i∈ids,g' i=g i):mh e z g' v L ids:=by
 rcases h with h|⟨o,J,h1,h2,rfl,hp⟩
 ·exact .inl h
 ·exact .inr ⟨o,J,h1,(hf o (by simp)).trans h2,rfl,hp⟩
def AO (e:α->List AV) (v:AV) (L:List α):AV:=match v with| .bI=>.bI|_=>.sl (L.map e)
theorem mh.x9 (h:mh e z g v L ids):iE e L (AO e v L):=by
 rcases h with⟨rfl,rfl,_⟩|⟨o,J,rfl,_⟩
 ·exact .inl ⟨rfl,rfl⟩
 ·exact .inr rfl
theorem Ds {n:Nat} {o:Id} {J:List α} (h2:g o=some ⟨true,z,(L++J).map e⟩) (he:∀x g,cZ g n (e x)=some (e x)):V.fz (dH g) (n+1) (.own o 0 L.length)=some (.sl (L.map e)):=by
 rw[iy]
 have:dH g o=some ⟨true,z,(L++J).map e⟩:=by simp[dH,h2]
 simp only[this,if_true]
 have h4:((L++J).map e).take L.length=L.map e:=by rw[<-List.map_take,List.take_append_of_le_length (Nat.le_refl _),List.take_length]
 rw[if_pos (by simp),List.drop_zero,h4,nT fun x=>he x _];rfl
theorem mh.LB (h:mh e z g v L ids) {n:Nat} (he:∀x g,cZ g n (e x)=some (e x)):V.fz (dH g) (n+1) v=some (AO e v L):=by
 rcases h with⟨rfl,rfl,_⟩|⟨o,J,rfl,h2,_⟩
 ·exact aV _ _
 ·exact Ds h2 he
theorem mh.cell (h:mh e z g v L ids):v.cells=[v]/\v.cell=true:=by
 rcases h with⟨_,rfl,_⟩|⟨o,J,rfl,_⟩<;>exact⟨rfl,rfl⟩
theorem mh.clean (h:mh e z g v L ids):v.clean=true:=by
 rcases h with⟨_,rfl,_⟩|⟨o,J,rfl,_⟩<;>rfl
theorem mh.hand (h:mh e z g v L ids) (mO:∀x,(e x).all AV.clean=true):Handed ids g:=by
 rcases h with⟨_,_,rfl⟩|⟨o,J,_,h2,rfl,_⟩
 ·exact Handed.nil
 ·intro i hi
  rw[List.mem_singleton.1 hi]
  refine⟨_,h2,rfl,fun cs dx a ha=>?_⟩
  obtain⟨x,_,rfl⟩:=List.mem_map.1 dx
  have:=mO x
  rw[List.all_eq_true]at this
  exact this a ha
theorem mh.s (h:mh e z g v L ids) {n:Nat} (he:∀x g,ep g n (e x)=some (e x)):gF g (n+1) v=some (MA e L):=by
 rcases h with⟨rfl,rfl,_⟩|⟨o,J,rfl,h2,_,hp⟩
 ·rw[kO];rfl
 ·rw[qv (sz:=z) (rows:=(L++J).map e) (rows':=L.map e) h2 (by simp) (by
   have h4:((L++J).map e).take L.length=L.map e:=by rw[<-List.map_take,List.take_append_of_le_length (Nat.le_refl _),List.take_length]
   rw[List.drop_zero,h4,pO fun x=>he x _]),MA,if_neg ah]
end
def uv (a:AV):Bool:=match a with| .agg cs=>cs.all AV.clean|a=>a.clean
theorem FF (cs:List AV):(AV.gJ cs).uw=cs.all uv:=rfl
theorem Iz {a:AV} (h:a.clean=true):uv a=true:=by
 cases a<;>first|exact h|(simp[AV.clean]at h)
theorem FD {a:AV} (h:a.clean=true):uv (.agg [a])=true:=by simp[uv,h]
theorem FE (k:IntKind) (n:Int):uv (.int k n)=true:=rfl
theorem Db (b:Bool):uv (.bool b)=true:=rfl
theorem Vb {g:Rows} {u u':AV} (h0:V.fz g 6 u=some u'):cZ g 6 [u]=some [u']:=by simp only[aj,ar,h0,Option.map_some]
theorem OL {g:Rows} {u v u' v':AV} (h0:V.fz g 6 u=some u') (h1:V.fz g 6 v=some v'):cZ g 6 [u,v]=some [u',v']:=by simp only[aj,ar,h0,h1,Option.map_some]
theorem UY (x:aa):(ab x).all AV.clean=true:=rfl
theorem HE (x:aa) (g:Rows):cZ g 4 (ab x)=some (ab x):=by simp[ab,aj,ar,aH]
theorem RY (x:aa) (g:Rows):ep g 3 (ab x)=some (ab x):=by simp[ab,bW,cF,eO]
theorem zD (i:Id) (l:List aa) (m:Nat) (hm:m<=l.length) (k:Int) (h0:0<=k) (h1:k+3*m<=4611686018427387904) (σ:aw) (hv:i.bj<σ.next) (hg:σ.get i=some ⟨true,3,l.map ab⟩):
  Call Tryz.prog 59 [.own i 0 m,.int .i64 k] σ (fun r σ'=>r=.int .i64 (k+3*m)/\pe σ [i] σ'.get σ'.next/\σ'.get i=some ⟨true,3,(iI k l m).map ab⟩):=by
 refine eA eF rfl fun hl=>?_
 clear hl
 have hz:iI k l 0=l:=by simp[iI,ue]
 (try((repeat(revert hN;revert N;apply Pn.out));refine wk @Nat.zero_add ?_;(repeat(refine Pn.mk ?_;intro N hN))))
 refine aQ (fun n env st=>∃j:Nat,n=(m)-j/\j<=(m)/\env 5=.int .i64 (j:Int)/\env 1=.int .i64 (k+3*j)/\st.get i=some ⟨true,3,(iI k l j).map ab⟩/\(pe σ [i] st.get st.next)) (m) ⟨0,ah,ah,sl (tw @Int.add_zero (tw @Int.natCast_zero (tw @Int.mul_zero (tw @hz @hg)))),sl (tw @Int.add_zero (tw @Int.natCast_zero (tw @Int.mul_zero (tw @hz @hg)))),sl (tw @Int.add_zero (tw @Int.natCast_zero (tw @Int.mul_zero (tw @hz @hg)))),by(try dsimp only);exact⟨aT,fun x _ _=>rfl⟩⟩ ?_
 rintro n_a env_a st_a ⟨j,rfl,ale,a5,a1,ag0,ke⟩ dv
 have a0:=dv 0 (by kernel_rfl)
 simp only[go_sem, ↓reduceIte,Nat.reduceEqDiff,Nat.reduceAdd,Nat.reduceSub,Nat.reduceLeDiff,reduceCtorEq,Int.add_zero,Int.natCast_zero,Int.mul_zero,hz,hg]at a0
 clear dv
 obtain⟨an,aF⟩:=ke
 by_cases hj:(j:Int)<(m:Int)
 ·have cq:∀{e:Env} {gg:Rows} {nx:Nat},(e 5=.int .i64 (IntKind.i64.wrap ((j:Int)+1)))->(e 1=.int .i64 (k+3*(j+1)))->(gg i=some ⟨true,3,(iI k l (j+1)).map ab⟩)->(pe σ [i] gg nx)->∃m0,m0<(m)-j/\∃j:Nat,m0=(m)-j/\j<=(m)/\e 5=.int .i64 (j:Int)/\e 1=.int .i64 (k+3*j)/\gg i=some ⟨true,3,(iI k l j).map ab⟩/\(pe σ [i] gg nx):=fun x1 x2 x3 x4=>⟨_,ah,j+1,rfl,ah,(by rw[x1,ay ah]),x2,x3,x4⟩
  have ga:j<l.length:=ah
  have eR:=BT (k:=k) ga
  have eb:=yk (k:=k) ga
  have jt:IntKind.i64.wrap (k+3*(j:Int)+1)=k+3*(j:Int)+1:=bq ah
  have ml:IntKind.i64.wrap (k+3*(j:Int)+1+1)=k+3*(j:Int)+2:=by rw[bq ah];omega
  have DX:IntKind.i64.wrap (k+3*(j:Int)+2+1)=k+3*((j:Int)+1):=by rw[bq ah];omega
  have hlen:((iI k l j).map ab).length=l.length:=by rw[List.length_map,yj ah]
  have F7:∀c:List AV,(((iI k l j).map ab).set j c)[j]? =some c:=fun c=>by rw[List.getElem?_set_self (by rw[hlen];exact ga)]
  (try((repeat(revert hN;revert N;apply Pn.out));refine wk (tw @a5 (tw @a1 (tw @ag0 (tw @a0 (tw @hj (tw @ga (tw @eR (tw @F7 (tw @eb (tw @jt (tw @ml (tw @DX (tw @hlen @qi))))))))))))) ?_;(repeat(refine Pn.mk ?_;intro N hN))))
  refine cq ?_ ?_ ?_ (by(try dsimp only);exact⟨aT,fun x hx hi=>by
   have h2:=aF x hx hi
   have h3:(x=i)=False:=eq_false fun e=>hi (by simp[e])
   simp only[go_sem, ↓reduceIte,Nat.reduceEqDiff,Nat.reduceAdd,Nat.reduceSub,Nat.reduceLeDiff,reduceCtorEq,h2,h3]⟩)
  all_goals simp only[go_sem, ↓reduceIte,Nat.reduceEqDiff,Nat.reduceAdd,Nat.reduceSub,Nat.reduceLeDiff,reduceCtorEq,a5,a1,ag0,a0,DX,eb]
 ·have ga:j=m:=ah
  subst ga
  (try((repeat(revert hN;revert N;apply Pn.out));refine wk (tw @a5 (tw @a1 (tw @ag0 (tw @a0 @hj)))) ?_;(repeat(refine Pn.mk ?_;intro N hN))))
  exact eS (.inl rfl) (vs:=[.int .i64 (k+3*j)]) (sd (tw @a5 (tw @a1 (tw @ag0 @a0)))) ⟨rfl,⟨aT,fun x hx hi=>aF x hx hi⟩,ag0⟩
theorem Mx {k:Int} {l J:List aa}:iI k (l++J) l.length=ue k l.length++J:=by simp[iI]
theorem Av {v:AV} {L:List aa} {ids:List Id} (k:Int) (h0:0<=k) (h1:k+3*L.length<=4611686018427387904) (σ:aw) (hv:∀i∈ids,i.bj<σ.next) (h:mh ab 3 σ.get v L ids):
  Call Tryz.prog 59 [v,.int .i64 k] σ (fun r σ'=>r=.int .i64 (k+3*L.length)/\pe σ ids σ'.get σ'.next/\mh ab 3 σ'.get v (ue k L.length) ids):=by
 rcases h with⟨rfl,rfl,rfl⟩|⟨o,J,rfl,h2,rfl,hp⟩
 ·refine aI _ _ _ _ _ (fun r σ' hq=>?_) (JE k σ)
  obtain⟨rfl,hB⟩:=hq
  exact⟨by simp,hB,.inl ⟨rfl,rfl,rfl⟩⟩
 ·refine aI _ _ _ _ _ (fun r σ' hq=>?_) (zD o (L++J) L.length (by simp) k h0 h1 σ (hv o (by simp)) h2)
  obtain⟨rfl,hB,hg⟩:=hq
  exact⟨rfl,hB,.inr ⟨o,J,by rw[fI],by rw[hg,Mx],rfl,by rw[fI];exact hp⟩⟩
theorem Gt {v:AV} {L:List aa} {ids:List Id} (k:Int) (h0:0<=k) (h1:k+3*L.length<=4611686018427387904) (σ:aw) (hv:∀i∈ids,i.bj<σ.next) (h:mh ab 3 σ.get v L ids):
  Call Tryz.prog 25 [.agg [v],.int .i64 k] σ (fun r σ'=>r=.int .i64 (k+3*L.length)/\pe σ ids σ'.get σ'.next/\mh ab 3 σ'.get v (ue k L.length) ids):=by
 have j4:=h.frame (g':=bE σ.get ⟨25000000,σ.next⟩ ⟨true,1,[[v]]⟩) fun i hi=>by
  have:=db (hv i hi)
  simp only[go_sem, ↓reduceIte,Nat.reduceEqDiff,Nat.reduceAdd,Nat.reduceSub,Nat.reduceLeDiff,reduceCtorEq,this]
 rcases h with⟨hL,rfl,HL⟩|⟨o,J,rfl,h2,HL,hp⟩
 ·skip
  refine eA eF rfl fun hl=>?_
  clear hl
  (try((repeat(revert hN;revert N;apply Pn.out));refine wk @Nat.zero_add ?_;(repeat(refine Pn.mk ?_;intro N hN))))
  refine .inr (aI _ _ _ _ _ (fun r σ1 hq=>?_) (Av k h0 h1 _ (fun i hi=>by have:=hv i hi;(try dsimp only);omega) j4))
  obtain⟨g1,x1⟩:=σ1
  obtain⟨rfl,⟨ub,ni⟩,hO⟩:=hq
  (try dsimp only at ub ni hO)
  refine hN _ _ ?_
  clear hN N
  (try((repeat(revert hN;revert N;apply Pn.out));refine wk @Nat.zero_add ?_;(repeat(refine Pn.mk ?_;intro N hN))))
  exact eS (.inl rfl) (vs:=[.int .i64 (k+3*L.length)]) (sd @Nat.zero_add) ⟨rfl,⟨aT,fun x hx hi=>by
   have h2:=ni x aT hi
   have h3:=db hx
   simp only[go_sem, ↓reduceIte,Nat.reduceEqDiff,Nat.reduceAdd,Nat.reduceSub,Nat.reduceLeDiff,reduceCtorEq,h3]at h2
   exact h2⟩,hO⟩
 ·skip
  refine eA eF rfl fun hl=>?_
  clear hl
  (try((repeat(revert hN;revert N;apply Pn.out));refine wk @Nat.zero_add ?_;(repeat(refine Pn.mk ?_;intro N hN))))
  refine .inr (aI _ _ _ _ _ (fun r σ1 hq=>?_) (Av k h0 h1 _ (fun i hi=>by have:=hv i hi;(try dsimp only);omega) j4))
  obtain⟨g1,x1⟩:=σ1
  obtain⟨rfl,⟨ub,ni⟩,hO⟩:=hq
  (try dsimp only at ub ni hO)
  refine hN _ _ ?_
  clear hN N
  (try((repeat(revert hN;revert N;apply Pn.out));refine wk @Nat.zero_add ?_;(repeat(refine Pn.mk ?_;intro N hN))))
  exact eS (.inl rfl) (vs:=[.int .i64 (k+3*L.length)]) (sd @Nat.zero_add) ⟨rfl,⟨aT,fun x hx hi=>by
   have h2:=ni x aT hi
   have h3:=db hx
   simp only[go_sem, ↓reduceIte,Nat.reduceEqDiff,Nat.reduceAdd,Nat.reduceSub,Nat.reduceLeDiff,reduceCtorEq,h3]at h2
   exact h2⟩,hO⟩
end Go.Proofs.YtgoljkjaameagaaGreat.V

namespace Go.Proofs.YtgoljkjaameagaaGreat.V
open Go.RowKit
attribute [local irreducible] dK wpOps gw Call
attribute [local go_sem] aM fE eM fV fS dc upd cr K.av cI AV.cells AV.cell rowOf rowsOf part ld rowAt bE cj dy dS gU bJ cY ee fQ e6 dp dX cW cV dI dJ bP bc cL bL cP cN dV dY dW cK bU cX dU bK aO cR cC gT bw cG bQ aY dj aZ dz AV.undef bD bG dM dQ dE dG cE ec eh cz ea dZ cQ cU List.getD_cons_zero List.getD_cons_succ List.getD_nil List.all_cons List.all_nil Bool.and_true Bool.true_and Bool.and_self Bool.not_true Bool.not_false Option.map_some Option.map_none Option.bind_some Option.bind_none List.length_cons List.length_nil List.take_succ_cons List.take_zero List.take_nil List.drop_succ_cons List.drop_zero List.drop_nil List.head?_cons List.map_cons List.map_nil List.getElem?_cons_zero List.getElem?_cons_succ List.cons_append List.nil_append List.append_nil List.length_map List.set_cons_zero List.set_cons_succ eq_self Int.toNat_natCast Int.natCast_nonneg and_self true_and and_true decide_true decide_false Bool.false_eq_true Nat.zero_add Nat.add_zero List.contains_cons List.contains_nil Bool.or_false Bool.false_or beq_self_eq_true ne_eq not_true_eq_false not_false_eq_true Id.mk.injEq false_and and_false Nat.le_refl List.length_append beq_true beq_false Bool.not_eq_eq_eq_not or_false false_or dH aj ar aH bh bz ck aV bd aX bf cJ bB
section
variable {P:Program} {α:Type} {R:ze α} {e:α->List AV} {z:Nat} {g g':Rows} {v:AV} {L:List α} {ids:List Id}
def np (R:ze α) (z:Nat) (g:Rows) (v:AV) (L:List α) (ids:List Id):Prop:=(L=[]/\v=.bI/\ids=[])∨(gy R z g v L ids/\0<L.length)
theorem np.frame (ok:ui R z) (h:np R z g v L ids) (hf:∀i∈ids,g' i=g i):np R z g' v L ids:=by
 rcases h with h|⟨h,hp⟩
 ·exact .inl h
 ·exact .inr ⟨h.frame ok hf,hp⟩
theorem np.x9 (h:np R z g v L ids):iE e L (AO e v L):=by
 rcases h with⟨rfl,rfl,_⟩|⟨⟨o,rows,is,rfl,_⟩,_⟩
 ·exact .inl ⟨rfl,rfl⟩
 ·exact .inr rfl
theorem np.LB (h:np R z g v L ids) {n:Nat} (hz:∀{cs x ids},R g cs x ids->cZ (dH g) n cs=some (e x)):V.fz (dH g) (n+1) v=some (AO e v L):=by
 rcases h with⟨rfl,rfl,_⟩|⟨h,_⟩
 ·exact aV _ _
 ·rw[h.fz hz]
  obtain⟨o,rows,is,rfl,_⟩:=h;rfl
theorem np.clean (h:np R z g v L ids):v.clean=true:=by
 rcases h with⟨_,rfl,_⟩|⟨⟨o,rows,is,rfl,_⟩,_⟩<;>rfl
theorem dD.hand {rows:List (List AV)} (h:dD R g rows L ids) (hc:∀{cs x ids},R g cs x ids->cs.all AV.clean=true/\Handed ids g):(∀cs∈rows,∀a∈cs,a.clean=true)/\Handed ids g:=by
 induction h with
 |nil=>exact⟨fun cs h=>(by cases h),Handed.nil⟩
 |cons h1 _ ih=>
  obtain⟨c1,c2⟩:=hc h1
  refine⟨fun cs dx a ha=>?_,c2.app ih.2⟩
  rcases List.mem_cons.1 dx with rfl|dx
  ·exact List.all_eq_true.1 c1 a ha
  ·exact ih.1 cs dx a ha
theorem np.hand (h:np R z g v L ids) (hc:∀{cs x ids},R g cs x ids->cs.all AV.clean=true/\Handed ids g):Handed ids g:=by
 rcases h with⟨_,_,rfl⟩|⟨⟨o,rows,is,_,h2,h3,rfl⟩,_⟩
 ·exact Handed.nil
 ·obtain⟨c1,c2⟩:=h3.hand hc
  intro i hi
  rcases List.mem_cons.1 hi with rfl|hi
  ·exact⟨_,h2,rfl,c1⟩
  ·exact c2 i hi
theorem dD.gF {n:Nat} {rows:List (List AV)} (h:dD R g rows L ids) (hz:∀{cs x ids},R g cs x ids->ep g n cs=some (e x)):gN g n rows=some (L.map e):=by
 induction h with
 |nil=>rw[gN];rfl
 |cons h1 _ ih=>rw[gN,hz h1,ih];rfl
theorem np.s (h:np R z g v L ids) {n:Nat} (hz:∀{cs x ids},R g cs x ids->ep g n cs=some (e x)):gF g (n+1) v=some (MA e L):=by
 rcases h with⟨rfl,rfl,_⟩|⟨⟨o,rows,is,rfl,h2,h3,_⟩,hp⟩
 ·rw[kO];rfl
 ·rw[qv (sz:=z) (rows:=rows) (rows':=L.map e) h2 (by rw[h3.len];omega) (by
   rw[List.drop_zero,List.take_of_length_le (by rw[h3.len];exact Nat.le_refl _),h3.gF hz]),MA,if_neg ah]
end
def eT (R:List aa):List AV:=[.sl (R.map ab)]
def iu:ze (List aa):=fun g cs R ids=>∃u,cs=[.own u 0 R.length]/\g u=some ⟨true,3,R.map ab⟩/\ids=[u]
theorem qH:ui iu 1 where
 frame:=fun⟨i,h1,h2,h3⟩ hf=>⟨i,h1,(hf i (by rw[h3];simp)).trans h2,h3⟩
 len:=fun⟨i,h1,_⟩=>by rw[h1];rfl
 cell:=fun⟨i,h1,_⟩=>by rw[h1];rfl
 live:=fun⟨i,h1,h2,h3⟩ j hj=>by
  rw[h3]at hj
  have:j=i:=by simpa using hj
  subst this
  exact⟨_,h2,rfl,by simp[tp]⟩
 small:=by simp[tp]
theorem M6 {g:Rows} {cs:List AV} {x:List aa} {ids:List Id} (n:Nat) (h:iu g cs x ids):cZ (dH g) (n+2) cs=some (eT x):=by
 obtain⟨i,rfl,h2,_⟩:=h
 have h3:V.fz (dH g) (n+2) (.own i 0 x.length)=some (.sl (x.map ab)):=fB (e:=ab) (sz:=3) (by simp[dH,h2]) rfl fun y=>by simp[ab,aj,ar,aH]
 simp only[aj,ar,h3,Option.map_some,eT]
theorem J2 {g:Rows} {cs:List AV} {x:List aa} {ids:List Id} (n:Nat) (h:iu g cs x ids):ep g (n+2) cs=some (eT x):=by
 obtain⟨i,rfl,h2,_⟩:=h
 have h3:gF g (n+2) (.own i 0 x.length)=some (.sl (x.map ab)):=gq (e:=ab) h2 rfl fun y=>by simp[ab,bW,cF,eO]
 simp only[bW,cF,h3,Option.map_some,eT]
theorem GN {g:Rows} {cs:List AV} {x:List aa} {ids:List Id} (h:iu g cs x ids):cs.all AV.clean=true/\Handed ids g:=by
 obtain⟨i,rfl,h2,rfl⟩:=h
 refine⟨rfl,fun j hj=>?_⟩
 rw[List.mem_singleton.1 hj]
 refine⟨_,h2,rfl,fun cs dx a ha=>?_⟩
 obtain⟨y,_,rfl⟩:=List.mem_map.1 dx
 exact List.all_eq_true.1 (UY y) a ha
def jG (g:Rows) (v:AV) (L:List (List aa)) (ids:List Id):Prop:=np iu 1 g v L ids
section
variable {g g':Rows} {v:AV} {L:List (List aa)} {ids:List Id}
theorem jG.frame (h:jG g v L ids) (hf:∀i∈ids,g' i=g i):jG g' v L ids:=np.frame qH h hf
theorem jG.x9 (h:jG g v L ids):iE eT L (AO eT v L):=np.x9 h
theorem jG.LB (h:jG g v L ids):V.fz (dH g) 6 v=some (AO eT v L):=np.LB h fun h=>M6 3 h
theorem jG.clean (h:jG g v L ids):v.clean=true:=np.clean h
theorem jG.hand (h:jG g v L ids):Handed ids g:=np.hand h fun h=>GN h
theorem jG.s (h:jG g v L ids):gF g 5 v=some (MA eT L):=np.s h fun h=>J2 2 h
end
end Go.Proofs.YtgoljkjaameagaaGreat.V

namespace Go.Proofs.YtgoljkjaameagaaGreat.V
open Go.RowKit
attribute [local irreducible] dK wpOps gw Call
attribute [local go_sem] aM fE eM fV fS dc upd cr K.av cI AV.cells AV.cell rowOf rowsOf part ld rowAt bE cj dy dS gU bJ cY ee fQ e6 dp dX cW cV dI dJ bP bc cL bL cP cN dV dY dW cK bU cX dU bK aO cR cC gT bw cG bQ aY dj aZ dz AV.undef bD bG dM dQ dE dG cE ec eh cz ea dZ cQ cU List.getD_cons_zero List.getD_cons_succ List.getD_nil List.all_cons List.all_nil Bool.and_true Bool.true_and Bool.and_self Bool.not_true Bool.not_false Option.map_some Option.map_none Option.bind_some Option.bind_none List.length_cons List.length_nil List.take_succ_cons List.take_zero List.take_nil List.drop_succ_cons List.drop_zero List.drop_nil List.head?_cons List.map_cons List.map_nil List.getElem?_cons_zero List.getElem?_cons_succ List.cons_append List.nil_append List.append_nil List.length_map List.set_cons_zero List.set_cons_succ Nat.reduceMul eq_self Int.toNat_natCast Int.natCast_nonneg and_self true_and and_true decide_true decide_false Bool.false_eq_true Nat.zero_add Nat.add_zero List.contains_cons List.contains_nil Bool.or_false Bool.false_or beq_self_eq_true Nat.reduceBEq ne_eq not_true_eq_false not_false_eq_true Id.mk.injEq false_and and_false Nat.reduceLT Int.reduceLE Int.reduceLT Int.reduceToNat Int.reduceNeg Int.reduceAdd Nat.le_refl List.length_append beq_true beq_false Bool.not_eq_eq_eq_not or_false false_or dH aj ar aH bh bz ck aV bd aX bf cJ bB
def lr (R:List aa):Nat:=3*R.length
def la (k:Int):List (List aa)->List (List aa)
 |[]=>[]
 |R::L=>ue k R.length::la (k+3*(R.length:Int)) L
theorem jg:∀(k:Int) (L:List (List aa)),(la k L).length=L.length
 |_,[]=>rfl
 |k,R::L=>by rw[la,List.length_cons,jg,List.length_cons]
theorem yi:∀(k:Int) (A B:List (List aa)),la k (A++B)=la k A++la (k+((A.map lr).sum:Nat)) B
 |k,[],B=>by simp[la]
 |k,R::A,B=>by
  rw[List.cons_append,la,la,yi,List.cons_append]
  congr 3
  simp only[List.map_cons,List.sum_cons,lr];omega
def ll (k:Int) (L:List (List aa)) (j:Nat):List (List aa):=la k (L.take j)++L.drop j
theorem JK {k:Int} {L:List (List aa)} {j:Nat} (h:j<=L.length):(ll k L j).length=L.length:=by
 rw[ll,List.length_append,jg,List.length_take,List.length_drop];omega
theorem JJ {k:Int} {L:List (List aa)} {j:Nat} (h:j<L.length):(ll k L j)[j]? =some L[j]:=by
 rw[ll,List.getElem?_append_right (by rw[jg,List.length_take];omega),jg,List.length_take,List.getElem?_drop,Nat.min_eq_left ah,Nat.sub_self,Nat.add_zero,List.getElem?_eq_getElem h]
theorem JL {k:Int} {L:List (List aa)} {j:Nat} (h:j<L.length):(ll k L j).set j (ue (k+(gm lr L j:Nat)) L[j].length)=ll k L (j+1):=by
 have h1:(la k (L.take j)).length=j:=by rw[jg,List.length_take];omega
 rw[ll,List.drop_eq_getElem_cons h,ll,List.take_succ_eq_append_getElem h,yi,List.append_assoc]
 rw[List.set_append_right _ _ ah,h1,Nat.sub_self,List.set_cons_zero]
 rfl
theorem JG (v:AV) (L:List (List aa)) (ids:List Id) (k:Int) (h0:0<=k) (h1:k+((L.map lr).sum+L.length:Nat)<=4611686018427387904) (σ:aw) (hv:∀i∈ids,i.bj<σ.next) (lk:ids.Nodup) (hg:gy iu 1 σ.get v L ids):
  Call Tryz.prog 43 [v,.int .i64 k] σ (fun r σ'=>r=.int .i64 (k+(L.map lr).sum)/\pe σ ids σ'.get σ'.next/\gy iu 1 σ'.get v (la k L) ids):=by
 obtain⟨o,rows,is,rfl,ho,hR,rfl⟩:=hg
 refine eA eF rfl fun hl=>?_
 clear hl
 have sC:=hv o (by simp)
 have DQ:=kz lr L
 obtain⟨QU,ZG⟩:=List.nodup_cons.1 lk
 have hz:ll k L 0=L:=by simp[ll,la]
 have pg:=hR.len
 (try((repeat(revert hN;revert N;apply Pn.out));refine wk @Nat.zero_add ?_;(repeat(refine Pn.mk ?_;intro N hN))))
 refine aQ (fun n env st=>∃j:Nat,n=(L.length)-j/\j<=(L.length)/\env 5=.int .i64 (j:Int)/\env 1=.int .i64 (k+gm lr L j)/\st.get o=some ⟨true,1,rows⟩/\(pe σ (o::is) st.get st.next/\dD iu st.get rows (ll k L j) is)) (L.length) ⟨0,ah,ah,sl (tw @Int.add_zero (tw @Int.natCast_zero (tw @DQ @ho))),sl (tw @Int.add_zero (tw @Int.natCast_zero (tw @DQ @ho))),sl (tw @Int.add_zero (tw @Int.natCast_zero (tw @DQ @ho))),by(try dsimp only);exact⟨⟨aT,fun x _ _=>rfl⟩,by rw[hz];exact hR⟩⟩ ?_
 rintro n_a env_a st_a ⟨j,rfl,ale,a5,a1,ag0,ke⟩ dv
 have a0:=dv 0 (by kernel_rfl)
 simp only[go_sem, ↓reduceIte,Nat.reduceEqDiff,Nat.reduceAdd,Nat.reduceSub,Nat.reduceLeDiff,reduceCtorEq,Int.add_zero,Int.natCast_zero,DQ,ho]at a0
 clear dv
 obtain⟨⟨an,aF⟩,aR⟩:=ke
 by_cases hj:(j:Int)<(L.length:Int)
 ·have cq:∀{e:Env} {gg:Rows} {nx:Nat},(e 5=.int .i64 (IntKind.i64.wrap ((j:Int)+1)))->(e 1=.int .i64 (k+gm lr L (j+1)))->(gg o=some ⟨true,1,rows⟩)->(pe σ (o::is) gg nx/\dD iu gg rows (ll k L (j+1)) is)->∃m0,m0<(L.length)-j/\∃j:Nat,m0=(L.length)-j/\j<=(L.length)/\e 5=.int .i64 (j:Int)/\e 1=.int .i64 (k+gm lr L j)/\gg o=some ⟨true,1,rows⟩/\(pe σ (o::is) gg nx/\dD iu gg rows (ll k L j) is):=fun x1 x2 x3 x4=>⟨_,ah,j+1,rfl,ah,(by rw[x1,ay ah]),x2,x3,x4⟩
  have ga:j<L.length:=ah
  have Jg:=ox lr ga
  have hle:=kH lr L (j+1)
  have hlen:=JK (k:=k) (L:=L) (j:=j) ah
  have o9:(ll k L j)[j]'ah=L[j]:=by
   have:=JJ (k:=k) ga
   rw[List.getElem?_eq_getElem ah]at this
   exact Option.some.inj this
  obtain⟨cs,ic,NW,hT,n3,Sx,pb⟩:=aR.put qH ZG j ah
  rw[o9]at hT
  have eb:=JL (k:=k) ga
  obtain⟨X,hX⟩:∃X,L[j]=X:=⟨_,rfl⟩
  rw[hX]at hT eb Jg
  obtain⟨i,rfl,hi,rfl⟩:=hT
  have hwx:lr X=3*X.length:=rfl
  have VJ:i∈is:=Sx i (by simp)
  have QQ:i≠o:=fun e=>QU (e▸VJ)
  have hiv:i.bj<σ.next:=hv i (by simp[VJ])
  (try((repeat(revert hN;revert N;apply Pn.out));refine wk (tw @a5 (tw @a1 (tw @ag0 (tw @a0 (tw @hj @NW))))) ?_;(repeat(refine Pn.mk ?_;intro N hN))))
  refine .inr (aI _ _ _ _ _ (fun r σ1 hq=>?_) (JD i X (k+(gm lr L j:Nat)) ah ah _ aT hi))
  obtain⟨g1,x1⟩:=σ1
  obtain⟨rfl,⟨ub,ni⟩,QX⟩:=hq
  (try dsimp only at ub ni QX)
  refine hN _ _ ?_
  clear hN N
  have QR:k+(gm lr L j:Nat)+3*(X.length:Int)=k+(gm lr L (j+1):Nat):=ah
  have go:=(ni o aT (by simp only[List.mem_singleton];exact fun e=>QQ e.symm)).trans ag0
  (try((repeat(revert hN;revert N;apply Pn.out));refine wk (tw @a5 (tw @a1 (tw @ag0 (tw @a0 (tw @QR @go))))) ?_;(repeat(refine Pn.mk ?_;intro N hN))))
  refine cq ?_ ?_ ?_ (by(try dsimp only);exact⟨⟨aT,fun x hx su=>by
   have h4:x≠i:=fun e=>su (by simp[e,VJ])
   rw[ni x aT (by simp[h4])]
   exact aF x hx su⟩,by
    rw[<-eb]
    exact pb _ _ ⟨i,by rw[fI],by rw[QX],rfl⟩ fun x hx CI=>ni x (by have:=hv x (by simp[hx]);(try dsimp only);omega) CI⟩)
  all_goals simp only[go_sem, ↓reduceIte,Nat.reduceEqDiff,Nat.reduceAdd,Nat.reduceSub,Nat.reduceLeDiff,reduceCtorEq,a5,a1,ag0,a0,QR,go]
 ·have ga:j=L.length:=ah
  subst ga
  have dP:=tL lr L
  rw[dP]at a1
  (try((repeat(revert hN;revert N;apply Pn.out));refine wk (tw @a5 (tw @a1 (tw @ag0 (tw @a0 @hj)))) ?_;(repeat(refine Pn.mk ?_;intro N hN))))
  have jP:ll k L L.length=la k L:=by simp[ll]
  rw[jP]at aR
  exact eS (.inl rfl) (vs:=[.int .i64 (k+(L.map lr).sum)]) (sd (tw @a5 (tw @a1 (tw @ag0 @a0)))) ⟨rfl,⟨aT,fun x hx hi=>aF x hx hi⟩,⟨o,rows,is,by rw[jg],ag0,aR,rfl⟩⟩
theorem Gv (k:Int) (σ:aw):Call Tryz.prog 43 [.bI,.int .i64 k] σ (fun r σ'=>r=.int .i64 k/\pe σ [] σ'.get σ'.next):=by
 refine eA eF rfl fun hl=>?_
 clear hl
 (try((repeat(revert hN;revert N;apply Pn.out));refine wk @Nat.zero_add ?_;(repeat(refine Pn.mk ?_;intro N hN))))
 refine aQ (fun n env st=>(env 1=.int .i64 k/\env 5=.int .i64 0/\env 0=.bI)/\σ.next<=st.next/\∀x:Id,st.get x=σ.get x) 0 ⟨⟨sd @Nat.zero_add,sd @Nat.zero_add,sd @Nat.zero_add⟩,aT,fun _=>rfl⟩ ?_
 rintro m e st ⟨⟨a1,a5,a0⟩,an,aF⟩ -
 have d0:decide ((0:Int)<((0:Nat):Int))=false:=rfl
 (try((repeat(revert hN;revert N;apply Pn.out));refine wk (tw @a0 (tw @a1 (tw @a5 @d0))) ?_;(repeat(refine Pn.mk ?_;intro N hN))))
 exact eS (.inl rfl) (vs:=[.int .i64 k]) (sd @a1) ⟨rfl,⟨aT,fun x hx hi=>aF x⟩⟩
theorem JF {v:AV} {L:List (List aa)} {ids:List Id} (k:Int) (h0:0<=k) (h1:k+((L.map lr).sum+L.length:Nat)<=4611686018427387904) (σ:aw) (hv:∀i∈ids,i.bj<σ.next) (lk:ids.Nodup) (h:jG σ.get v L ids):
  Call Tryz.prog 43 [v,.int .i64 k] σ (fun r σ'=>r=.int .i64 (k+(L.map lr).sum)/\pe σ ids σ'.get σ'.next/\jG σ'.get v (la k L) ids):=by
 rcases h with⟨rfl,rfl,rfl⟩|⟨h,hp⟩
 ·refine aI _ _ _ _ _ (fun r σ' hq=>?_) (Gv k σ)
  obtain⟨rfl,hB⟩:=hq
  exact⟨by simp,hB,.inl ⟨rfl,rfl,rfl⟩⟩
 ·refine aI _ _ _ _ _ (fun r σ' hq=>?_) (JG v L ids k h0 h1 σ hv lk h)
  obtain⟨rfl,hB,hg⟩:=hq
  exact⟨rfl,hB,.inr ⟨hg,by rw[jg];exact hp⟩⟩
theorem PI {k:Int} {L:List (List aa)} {j:Nat} (h:j<L.length):((la k L).map eT)[j]? =some [.sl ((ue (k+(gm lr L j:Nat)) L[j].length).map ab)]:=by
 have h1:(la k (L.take j)).length=j:=by rw[jg,List.length_take];omega
 have h2:L=L.take j++L[j]::L.drop (j+1):=by rw[<-List.drop_eq_getElem_cons h,List.take_append_drop]
 have h3:la k L=la k (L.take j)++la (k+(((L.take j).map lr).sum:Nat)) (L[j]::L.drop (j+1)):=by rw[<-yi,<-h2]
 rw[h3,List.map_append,List.getElem?_append_right (by rw[List.length_map,h1];omega),List.length_map,h1,Nat.sub_self,la]
 rfl
theorem Jb (k:Int) (L:List (List aa)) (h0:0<=k) (h1:k+(L.map lr).sum<=4611686018427387904):au Tryz.prog 44 [.sl ((la k L).map eT),.int .i64 k] (.int .i64 (k+(L.map lr).sum)):=by
 refine au.body eF rfl fun hl n0=>?_
 have hL:L.length<=9223372036854775807:=by simpa[jg]using(hl (.sl ((la k L).map eT)) (by simp)).len
 clear hl
 have DQ:=kz lr L
 have ik:((la k L).map eT).length=L.length:=by rw[List.length_map,jg]
 (try((repeat(revert hN;revert N;apply Pn.out));refine wk @ik ?_;(repeat(refine Pn.mk ?_;intro N hN))))
 refine aQ (fun n env st=>∃j:Nat,n=(L.length)-j/\j<=(L.length)/\env 5=.int .i64 (j:Int)/\env 1=.int .i64 (k+gm lr L j)) (L.length) ⟨0,ah,ah,sl (tw @Int.add_zero (tw @Int.natCast_zero (tw @DQ @ik))),sl (tw @Int.add_zero (tw @Int.natCast_zero (tw @DQ @ik)))⟩ ?_
 rintro n_a env_a st_a ⟨j,rfl,ale,a5,a1⟩ dv
 have a0:=dv 0 (by kernel_rfl)
 simp only[go_sem, ↓reduceIte,Nat.reduceEqDiff,Nat.reduceAdd,Nat.reduceSub,Nat.reduceLeDiff,reduceCtorEq,Int.add_zero,Int.natCast_zero,DQ,ik]at a0
 clear dv
 by_cases hj:(j:Int)<(L.length:Int)
 ·have cq:∀{e:Env},(e 5=.int .i64 (IntKind.i64.wrap ((j:Int)+1)))->(e 1=.int .i64 (k+gm lr L (j+1)))->∃m0,m0<(L.length)-j/\∃j:Nat,m0=(L.length)-j/\j<=(L.length)/\e 5=.int .i64 (j:Int)/\e 1=.int .i64 (k+gm lr L j):=fun x1 x2=>⟨_,ah,j+1,rfl,ah,(by rw[x1,ay ah]),x2⟩
  have ga:j<L.length:=ah
  have Jg:=ox lr ga
  have hle:=kH lr L (j+1)
  have eR:=PI (k:=k) ga
  have hwx:lr L[j]=3*L[j].length:=rfl
  have hh:=I9 (k+(gm lr L j:Nat)) L[j].length ah ah
  have QR:k+(gm lr L j:Nat)+3*(L[j].length:Int)=k+(gm lr L (j+1):Nat):=ah
  rw[QR]at hh
  have hp:¬k+((gm lr L (j+1):Nat):Int)<0:=ah
  generalize (ue (k+(gm lr L j:Nat)) L[j].length).map ab=M at eR hh
  (repeat(first|((repeat(revert hN;revert N;apply Pn.out));refine wk (tw @a5 (tw @a1 (tw @a0 (tw @hj (tw @eR (tw @ik @hp)))))) ?_;(repeat(refine Pn.mk ?_;intro N hN)))|((try apply Or.inl);refine⟨_,au.x (hh) (sd (tw @a5 (tw @a1 (tw @a0 (tw @hj (tw @eR (tw @ik @hp))))))),?_⟩;refine hN _ _ ?_;clear hN N)))
  refine cq ?_ ?_
  all_goals simp only[go_sem, ↓reduceIte,Nat.reduceEqDiff,Nat.reduceAdd,Nat.reduceSub,Nat.reduceLeDiff,reduceCtorEq,a5,a1,a0,ik]
 ·have ga:j=L.length:=ah
  subst ga
  have dP:=tL lr L
  rw[dP]at a1
  (try((repeat(revert hN;revert N;apply Pn.out));refine wk (tw @a5 (tw @a1 (tw @a0 (tw @hj @ik)))) ?_;(repeat(refine Pn.mk ?_;intro N hN))))
  exact da (b:=k+(L.map lr).sum) (.inl rfl) (sd (tw @a5 (tw @a1 @a0))) rfl
theorem Ad {w:AV} (k:Int) (L:List (List aa)) (h0:0<=k) (h1:k+(L.map lr).sum<=4611686018427387904) (hw:iE eT (la k L) w):au Tryz.prog 44 [w,.int .i64 k] (.int .i64 (k+(L.map lr).sum)):=
 (Jb k L h0 h1).cut mixed (hw.cut (.same _ .nil))
theorem OG (L:List (List aa)):au Tryz.prog 42 [.sl (L.map eT),.sl (L.map eT)] (.bool true):=by
 refine au.body eF rfl fun hl n0=>?_
 have hL:L.length<=9223372036854775807:=by simpa using(hl (.sl (L.map eT)) (by simp)).len
 clear hl
 have ik:(L.map eT).length=L.length:=by simp
 have d0:decide ((L.length:Int)=(L.length:Int))=true:=decide_eq_true rfl
 (try((repeat(revert hN;revert N;apply Pn.out));refine wk (tw @ik @d0) ?_;(repeat(refine Pn.mk ?_;intro N hN))))
 refine aQ (fun n env st=>∃j:Nat,n=(L.length)-j/\j<=(L.length)/\env 5=.int .i64 (j:Int)) (L.length) ⟨0,ah,ah,sl @ik⟩ ?_
 rintro n_a env_a st_a ⟨j,rfl,ale,a5⟩ dv
 have a0:=dv 0 (by kernel_rfl);have a1:=dv 1 (by kernel_rfl)
 simp only[go_sem, ↓reduceIte,Nat.reduceEqDiff,Nat.reduceAdd,Nat.reduceSub,Nat.reduceLeDiff,reduceCtorEq,ik]at a0 a1
 clear dv
 by_cases hj:(j:Int)<(L.length:Int)
 ·have cq:∀{e:Env},(e 5=.int .i64 (IntKind.i64.wrap ((j:Int)+1)))->∃m0,m0<(L.length)-j/\∃j:Nat,m0=(L.length)-j/\j<=(L.length)/\e 5=.int .i64 (j:Int):=fun x1=>⟨_,ah,j+1,rfl,ah,(by rw[x1,ay ah])⟩
  have ga:j<L.length:=ah
  have eR:(L.map eT)[j]? =some [.sl (L[j].map ab)]:=by simp[ga,eT]
  have hh:=Lq L[j] L[j]
  rw[decide_eq_true rfl]at hh
  generalize L[j].map ab=M at eR hh
  (repeat(first|((repeat(revert hN;revert N;apply Pn.out));refine wk (tw @a5 (tw @a0 (tw @a1 (tw @hj (tw @eR @ik))))) ?_;(repeat(refine Pn.mk ?_;intro N hN)))|((try apply Or.inl);refine⟨_,au.x (hh) (sd (tw @a5 (tw @a0 (tw @a1 (tw @hj (tw @eR @ik)))))),?_⟩;refine hN _ _ ?_;clear hN N)))
  exact cq (sd (tw @a5 (tw @a0 (tw @a1 @ik))))
 ·have ga:j=L.length:=ah
  subst ga
  (try((repeat(revert hN;revert N;apply Pn.out));refine wk (tw @a5 (tw @a0 (tw @a1 (tw @hj @ik)))) ?_;(repeat(refine Pn.mk ?_;intro N hN))))
  exact bp (b:=true) (.inl rfl) (sd @Nat.zero_add) rfl
theorem Bi {L:List (List aa)} {v w:AV} (hv:iE eT L v) (hw:iE eT L w):au Tryz.prog 42 [v,w] (.bool true):=
 (OG L).cut mixed (hv.cut (hw.cut .nil))
theorem PA (Kt:aE->Int->List (List aa)×List aa×Int)
  (V4:∀s m,iq s.aC->vg s->∃w0,∃w1,iE eT (Kt s m).1 w0/\iE ab (Kt s m).2.1 w1/\lv Tryz.prog 40 [.agg (aA s),.int .i64 m] (.gJ [w0,.agg [w1],.int .i64 (Kt s m).2.2]))
  (VK:∀s m,iq s.aC->vg s->∀n:Nat,Call Tryz.prog 41 [.agg (aA s),.int .i64 m] ⟨fun _=>none,n⟩ (fun r σ'=>∃ids,(∃v0 i0,∃v1 i1,r=.gJ [v0,.agg [v1],.int .i64 (Kt s m).2.2]/\jG σ'.get v0 (Kt s m).1 i0/\mh ab 3 σ'.get v1 (Kt s m).2.1 i1/\ids=i0++i1)/\eJ n σ'.next ids))
  (QS:∀s m,iq s.aC->vg s->(((Kt s m).1.map lr).sum+(Kt s m).1.length)<=1099511627776) (VN:∀s m,iq s.aC->vg s->(Kt s m).2.1.length<=1099511627776)
  (s:aE) (m:Int) (hn:iq s.aC):au Tryz.prog 7 [.agg (aA s),.int .i64 m] (.bool true):=by
 refine au.body eF rfl fun hl n0=>?_
 clear hl
 have h1:=G5 s 1048576 ah ah hn
 by_cases Uh:((EW s:Nat):Int)<=1048576
 ·rw[jj Uh]at h1
  have Vz:¬(1048576:Int)-((EW s:Nat):Int)<0:=ah
  have sm:=Ka (s:=s) ah
  have t1:=Hb s sm
  obtain⟨w0,w1,KC,jt,r1⟩:=V4 s m hn sm
  have r2:=VK s m hn sm
  have q1:=FJ s
  have OV:=QS s m hn sm
  have Y4:=VN s m hn sm
  obtain⟨L0,hR0⟩:∃R,(Kt s m).1=R:=⟨_,rfl⟩
  obtain⟨L1,Vl⟩:∃R,(Kt s m).2.1=R:=⟨_,rfl⟩
  obtain⟨c2,OX⟩:∃R,(Kt s m).2.2=R:=⟨_,rfl⟩
  simp only[hR0,Vl,OX]at r1 r2 KC OV jt Y4
  have o1:=fun σ=>Ha s sm σ
  rw[aA]at o1
  have Lh:decide (c2=c2)=true:=by simp
  rw[aA]at h1
  (repeat(first|((repeat(revert hN;revert N;apply Pn.out));refine wk (tw @aA.eq_1 @Vz) ?_;(repeat(refine Pn.mk ?_;intro N hN)))|((try apply Or.inl);refine⟨_,au.x (h1) (sd (tw @aA.eq_1 @Vz)),?_⟩;refine hN _ _ ?_;clear hN N)))
  first
   |refine .inl ⟨_,lv.x (by rw[aA]at t1;exact t1) _,?_⟩
   |refine⟨_,lv.x (by rw[aA]at t1;exact t1) _,?_⟩
  refine hN _ _ ?_
  clear hN N
  (try((repeat(revert hN;revert N;apply Pn.out));refine wk @Nat.zero_add ?_;(repeat(refine Pn.mk ?_;intro N hN))))
  have cw1:=jt.cell.1
  have dw1:=jt.cell.2
  unfold AV.cells at cw1
  unfold AV.cell at dw1
  first
   |refine .inl ⟨_,lv.x (by rw[aA]at r1;exact r1) _,?_⟩
   |refine⟨_,lv.x (by rw[aA]at r1;exact r1) _,?_⟩
  refine hN _ _ ?_
  clear hN N
  (try((repeat(revert hN;revert N;apply Pn.out));refine wk (tw @cw1 @dw1) ?_;(repeat(refine Pn.mk ?_;intro N hN))))
  refine .inr (aI _ _ _ _ _ (fun r' σ1 hq=>?_) (o1 _))
  obtain⟨is,Hs,Ns,Ks⟩:=hq
  obtain⟨g1,x1⟩:=σ1
  (try dsimp only at Hs Ns Ks)
  obtain⟨As,Bs,Cs,j1s,j2s,j3s,rfl,hAs,HH,hCs,-⟩:=Hs.ex
  obtain⟨oAs,rfl⟩:=hAs.mT
  obtain⟨oBs,rfl⟩:=HH.mT
  obtain⟨oCs,rfl⟩:=hCs.mT
  clear hAs HH hCs
  have ns:=Ks.1
  have bs:=Ns.2
  (try dsimp only at ns bs)
  have RS:=Ks.2 ⟨7000000,n0⟩ aT
  have YE:=Ks.2 ⟨7005008,n0+1+1+1+1⟩ aT
  simp only[go_sem, ↓reduceIte,Nat.reduceEqDiff,Nat.reduceAdd,Nat.reduceSub,Nat.reduceLeDiff,reduceCtorEq]at RS YE
  clear Ks
  refine hN _ _ ?_
  clear hN N
  (try((repeat(revert hN;revert N;apply Pn.out));refine wk (tw @RS @YE) ?_;(repeat(refine Pn.mk ?_;intro N hN))))
  refine .inr (aI _ _ _ _ _ (fun r' σ2 hq=>?_) (Il mixed (K:=fun r g ids=>(∃v0 i0,∃v1 i1,r=.gJ [v0,.agg [v1],.int .i64 c2]/\jG g v0 L0 i0/\mh ab 3 g v1 L1 i1/\ids=i0++i1)) (by
   rintro r g ids ⟨v0,i0,v1,i1,rfl,k0,k1,rfl⟩
   exact⟨by simp[FF,Iz k0.clean,FD k1.clean,FE,Db],Handed.app (k0.hand) (k1.hand UY)⟩) (by
   rintro r g g' ids ⟨v0,i0,v1,i1,rfl,k0,k1,rfl⟩ hf
   exact⟨v0,i0,v1,i1,rfl,k0.frame (fun i hi=>hf i (by simp[hi])),k1.frame (fun i hi=>hf i (by simp[hi])),rfl⟩) r2 (OL ((Hs.frame fun i hi=>by
   have h5:=db (i:=i) (n:=x1) (by have:=bs i hi;omega)
   simp only[go_sem, ↓reduceIte,Nat.reduceEqDiff,Nat.reduceAdd,Nat.reduceSub,Nat.reduceLeDiff,reduceCtorEq,h5]).fz 1) (aH _ _ _ _))))
  obtain⟨iZ,⟨v0,iZ0,v1,iZ1,rfl,Z0,Z1,rfl⟩,NZ,KZ⟩:=hq
  obtain⟨g2,x2⟩:=σ2
  (try dsimp only at Z0 Z1 NZ KZ)
  have nZ:=KZ.1
  (try dsimp only at nZ)
  have N0:=NZ.left
  have b0:=N0.2
  (try dsimp only at b0)
  have N1:=NZ.right
  have b1:=N1.2
  (try dsimp only at b1)
  have Ud:∀i:Id,i.bj<x1->g2 i=g1 i:=fun i hi=>by
   have h4:=KZ.2 i aT
   have h5:=db (i:=i) (n:=x1) hi
   simp only[go_sem, ↓reduceIte,Nat.reduceEqDiff,Nat.reduceAdd,Nat.reduceSub,Nat.reduceLeDiff,reduceCtorEq,h5]at h4
   exact h4
  have IT:=(Ud ⟨7000000,n0⟩ aT).trans RS
  have Uc:=(Ud ⟨7005008,n0+1+1+1+1⟩ aT).trans YE
  have IU:=KZ.2 ⟨7006002,x1⟩ aT
  simp only[go_sem, ↓reduceIte,Nat.reduceEqDiff,Nat.reduceAdd,Nat.reduceSub,Nat.reduceLeDiff,reduceCtorEq]at IU
  have Hs:=Hs.frame (g':=g2) fun i hi=>Ud i (by have:=bs i hi;omega)
  clear KZ
  have Yw:=Z1.cell.1
  have Yy:=Z1.cell.2
  unfold AV.cells at Yw
  unfold AV.cell at Yy
  refine hN _ _ ?_
  clear hN N
  (try((repeat(revert hN;revert N;apply Pn.out));refine wk (tw @IT (tw @Uc (tw @IU (tw @Yw @Yy)))) ?_;(repeat(refine Pn.mk ?_;intro N hN))))
  refine .inl ⟨_,au.x (Bi Z0.x9 KC) (nf ((Z0.frame fun i hi=>by
   have h5:=db (i:=i) (n:=x2) (by have:=b0 i hi;omega)
   simp only[go_sem, ↓reduceIte,Nat.reduceEqDiff,Nat.reduceAdd,Nat.reduceSub,Nat.reduceLeDiff,reduceCtorEq,h5]).LB) (KC.fz _)),?_⟩
  refine hN _ _ ?_
  clear hN N
  (try((repeat(revert hN;revert N;apply Pn.out));refine wk (tw @IT (tw @Uc (tw @IU @Lh))) ?_;(repeat(refine Pn.mk ?_;intro N hN))))
  refine .inl ⟨_,au.x (xG Z1.x9 jt) (nf (mA ((Z1.frame fun i hi=>by
   have h5:=db (i:=i) (n:=x2) (by have:=b1 i hi;omega)
   simp only[go_sem, ↓reduceIte,Nat.reduceEqDiff,Nat.reduceAdd,Nat.reduceSub,Nat.reduceLeDiff,reduceCtorEq,h5]).LB HE)) (mA (jt.Xb _))),?_⟩
  refine hN _ _ ?_
  clear hN N
  (try((repeat(revert hN;revert N;apply Pn.out));refine wk (tw @IT (tw @Uc (tw @IU @Lh))) ?_;(repeat(refine Pn.mk ?_;intro N hN))))
  first
   |refine .inl ⟨_,lv.x (by rw[aA]at t1;exact t1) _,?_⟩
   |refine⟨_,lv.x (by rw[aA]at t1;exact t1) _,?_⟩
  refine hN _ _ ?_
  clear hN N
  (try((repeat(revert hN;revert N;apply Pn.out));refine wk (tw @IT (tw @Uc (tw @IU @Lh))) ?_;(repeat(refine Pn.mk ?_;intro N hN))))
  first
   |refine .inl ⟨_,au.x (by rw[aA]at q1;exact q1) (by rw[<-aA];exact Ic (Hs.frame fun i hi=>by
     have h5:=db (i:=i) (n:=x2) (by have:=bs i hi;omega)
     simp only[go_sem, ↓reduceIte,Nat.reduceEqDiff,Nat.reduceAdd,Nat.reduceSub,Nat.reduceLeDiff,reduceCtorEq,h5]) (wS _ _)),?_⟩
   |refine⟨_,au.x (by rw[aA]at q1;exact q1) (by rw[<-aA];exact Ic (Hs.frame fun i hi=>by
     have h5:=db (i:=i) (n:=x2) (by have:=bs i hi;omega)
     simp only[go_sem, ↓reduceIte,Nat.reduceEqDiff,Nat.reduceAdd,Nat.reduceSub,Nat.reduceLeDiff,reduceCtorEq,h5]) (wS _ _)),?_⟩
  refine hN _ _ ?_
  clear hN N
  (try((repeat(revert hN;revert N;apply Pn.out));refine wk (tw @IT (tw @Uc (tw @IU @Lh))) ?_;(repeat(refine Pn.mk ?_;intro N hN))))
  have SF:=PG s
  refine .inr (aI _ _ _ _ _ (fun r' σ3 hq=>?_) (JI _ s _ 1 ah sm.s.t ah _ (fun i hi=>by have:=bs i hi;(try dsimp only);omega) Ns.1 (Hs.frame fun i hi=>by
   have h5:=db (i:=i) (n:=x2) (by have:=bs i hi;omega)
   simp only[go_sem, ↓reduceIte,Nat.reduceEqDiff,Nat.reduceAdd,Nat.reduceSub,Nat.reduceLeDiff,reduceCtorEq,h5])))
  obtain⟨rfl,hM⟩:=hq
  obtain⟨g3,x3⟩:=σ3
  (try dsimp only at hM)
  have nM3:=hM.1
  (try dsimp only at nM3)
  have W8:∀i:Id,i.bj<x2->i∉is->g3 i=g2 i:=fun i hi hx=>by
   have h4:=hM.2 i aT hx
   have h5:=db (i:=i) (n:=x2) hi
   simp only[go_sem, ↓reduceIte,Nat.reduceEqDiff,Nat.reduceAdd,Nat.reduceSub,Nat.reduceLeDiff,reduceCtorEq,h5]at h4
   exact h4
  have OH:=(W8 ⟨7000000,n0⟩ aT (Ns.not aT)).trans IT
  have W7:=(W8 ⟨7005008,n0+1+1+1+1⟩ aT (Ns.not aT)).trans Uc
  have U6:=hM.2 ⟨7007007,x2⟩ aT (Ns.not aT)
  simp only[go_sem, ↓reduceIte,Nat.reduceEqDiff,Nat.reduceAdd,Nat.reduceSub,Nat.reduceLeDiff,reduceCtorEq,Yw,Yy]at U6
  have Z0:=Z0.frame (g':=g3) fun i hi=>W8 i (by have:=b0 i hi;omega) (Ns.not (by have:=b0 i hi;omega))
  have Z1:=Z1.frame (g':=g3) fun i hi=>W8 i (by have:=b1 i hi;omega) (Ns.not (by have:=b1 i hi;omega))
  clear hM
  have e3:decide (1+((Gs s:Nat):Int)<0)=false:=decide_eq_false ah
  refine hN _ _ ?_
  clear hN N
  (try((repeat(revert hN;revert N;apply Pn.out));refine wk (tw @OH (tw @W7 (tw @U6 @e3))) ?_;(repeat(refine Pn.mk ?_;intro N hN))))
  refine .inl ⟨_,au.x (Bi Z0.x9 KC) (nf (Z0.LB) (KC.fz _)),?_⟩
  refine hN _ _ ?_
  clear hN N
  (try((repeat(revert hN;revert N;apply Pn.out));refine wk (tw @OH (tw @W7 (tw @U6 (tw @Lh @e3)))) ?_;(repeat(refine Pn.mk ?_;intro N hN))))
  refine .inl ⟨_,au.x (xG Z1.x9 jt) (nf (mA (Z1.LB HE)) (mA (jt.Xb _))),?_⟩
  refine hN _ _ ?_
  clear hN N
  (try((repeat(revert hN;revert N;apply Pn.out));refine wk (tw @OH (tw @W7 (tw @U6 (tw @Lh @e3)))) ?_;(repeat(refine Pn.mk ?_;intro N hN))))
  refine .inr (aI _ _ _ _ _ (fun r' σ4 hq=>?_) (JF 1 ah ah _ (fun i hi=>by have:=b0 i hi;(try dsimp only);omega) N0.1 Z0))
  obtain⟨rfl,hM,Y0⟩:=hq
  obtain⟨g4,x4⟩:=σ4
  (try dsimp only at hM Y0)
  have nM4:=hM.1
  (try dsimp only at nM4)
  have W9:∀i:Id,i.bj<x3->i∉iZ0->g4 i=g3 i:=fun i hi hx=>hM.2 i aT hx
  have U7:=(W9 ⟨7000000,n0⟩ aT (N0.not aT)).trans OH
  have f4w:=(W9 ⟨7005008,n0+1+1+1+1⟩ aT (N0.not aT)).trans W7
  have f4g:=(W9 ⟨7007007,x2⟩ aT (N0.not aT)).trans U6
  have Z1:=Z1.frame (g':=g4) fun i hi=>W9 i (by have:=b1 i hi;omega) (NZ.apart i hi∘fun hx=>by simp[hx])
  clear hM
  refine hN _ _ ?_
  clear hN N
  (try((repeat(revert hN;revert N;apply Pn.out));refine wk (tw @U7 (tw @f4w @f4g)) ?_;(repeat(refine Pn.mk ?_;intro N hN))))
  refine .inr (aI _ _ _ _ _ (fun r' σ5 hq=>?_) (Gt (1+((L0.map lr).sum:Nat)) ah ah _ (fun i hi=>by have:=b1 i hi;(try dsimp only);omega) Z1))
  obtain⟨rfl,hM,Y1⟩:=hq
  obtain⟨g5,x5⟩:=σ5
  (try dsimp only at hM Y1)
  have nM5:=hM.1
  (try dsimp only at nM5)
  have Xa:∀i:Id,i.bj<x4->i∉iZ1->g5 i=g4 i:=fun i hi hx=>hM.2 i aT hx
  have Bk:=(Xa ⟨7000000,n0⟩ aT (N1.not aT)).trans U7
  have OJ:=(Xa ⟨7005008,n0+1+1+1+1⟩ aT (N1.not aT)).trans f4w
  have OI:=(Xa ⟨7007007,x2⟩ aT (N1.not aT)).trans f4g
  have Y0:=Y0.frame (g':=g5) fun i hi=>Xa i (by have:=b0 i hi;omega) (fun hx=>NZ.apart i hx (by simp[hi]))
  clear hM
  refine hN _ _ ?_
  clear hN N
  (try((repeat(revert hN;revert N;apply Pn.out));refine wk (tw @Bk (tw @OJ @OI)) ?_;(repeat(refine Pn.mk ?_;intro N hN))))
  have Yz:decide (1+(((L0.map lr).sum:Nat):Int)<0)=false:=decide_eq_false ah
  refine .inl ⟨_,au.x (Ad 1 L0 ah ah Y0.x9) (nf (Y0.LB) (aH _ _ _ _)),?_⟩
  refine hN _ _ ?_
  clear hN N
  (try((repeat(revert hN;revert N;apply Pn.out));refine wk (tw @Bk (tw @OJ (tw @OI @Yz))) ?_;(repeat(refine Pn.mk ?_;intro N hN))))
  have YA:decide (1+(((L0.map lr).sum:Nat):Int)+3*(L1.length:Int)<0)=false:=decide_eq_false ah
  refine .inl ⟨_,au.x (xR (1+((L0.map lr).sum:Nat)) L1.length ah ah Y1.x9) (nf (mA (Y1.LB HE)) (aH _ _ _ _)),?_⟩
  refine hN _ _ ?_
  clear hN N
  have e5:decide (1+(((L0.map lr).sum:Nat):Int)+3*(L1.length:Int)=1+(((L0.map lr).sum:Nat):Int)+3*(L1.length:Int))=true:=decide_eq_true rfl
  (try((repeat(revert hN;revert N;apply Pn.out));refine wk (tw @Bk (tw @OJ (tw @OI (tw @YA @e5)))) ?_;(repeat(refine Pn.mk ?_;intro N hN))))
  first
   |refine .inl ⟨_,lv.x (by rw[aA]at t1;exact t1) _,?_⟩
   |refine⟨_,lv.x (by rw[aA]at t1;exact t1) _,?_⟩
  refine hN _ _ ?_
  clear hN N
  (try((repeat(revert hN;revert N;apply Pn.out));refine wk (tw @Bk (tw @OJ (tw @OI (tw @Yz (tw @YA @e5))))) ?_;(repeat(refine Pn.mk ?_;intro N hN))))
  have rs:au Tryz.prog 41 [.agg (aA s),.int .i64 m] (.gJ [MA eT L0,.agg [MA ab L1],.int .i64 c2]):=fun n=>aI _ _ _ _ _ (fun r σ' hq=>by
   obtain⟨ids,⟨v0,i0,v1,i1,rfl,k0,k1,rfl⟩,-⟩:=hq
   exact⟨_,by simp only[fH,bW,cF,Br,k0.s,k1.s (n:=3) RY,eO,fW,Option.map_some]<;>rfl,rfl⟩) (r2 n)
  first
   |refine .inl ⟨_,au.x (by rw[aA]at rs;exact rs) (OL (by rw[<-aA];exact wS _ _) (aH _ _ _ _)),?_⟩
   |refine⟨_,au.x (by rw[aA]at rs;exact rs) (OL (by rw[<-aA];exact wS _ _) (aH _ _ _ _)),?_⟩
  refine hN _ _ ?_
  clear hN N
  have E8:=(Eu (e:=eT) (L:=L0))
  generalize MA eT L0=u0 at E8 ⊢
  have uF:=(Eu (e:=ab) (L:=L1))
  have Yv:=uF.cell.1
  have Yx:=uF.cell.2
  unfold AV.cells at Yv
  unfold AV.cell at Yx
  generalize MA ab L1=u1 at Yv Yx uF ⊢
  (try((repeat(revert hN;revert N;apply Pn.out));refine wk (tw @Bk (tw @OJ (tw @OI (tw @Yv (tw @Yx @Lh))))) ?_;(repeat(refine Pn.mk ?_;intro N hN))))
  refine .inl ⟨_,au.x (Bi E8 KC) (nf (E8.fz _) (KC.fz _)),?_⟩
  refine hN _ _ ?_
  clear hN N
  (try((repeat(revert hN;revert N;apply Pn.out));refine wk (tw @Bk (tw @OJ (tw @OI @Lh))) ?_;(repeat(refine Pn.mk ?_;intro N hN))))
  refine .inl ⟨_,au.x (xG uF jt) (nf (mA (uF.Xb _)) (mA (jt.Xb _))),?_⟩
  refine hN _ _ ?_
  clear hN N
  (try((repeat(revert hN;revert N;apply Pn.out));refine wk (tw @Bk (tw @OJ (tw @OI @Lh))) ?_;(repeat(refine Pn.mk ?_;intro N hN))))
  refine .inl ⟨_,au.x (Ad 1 L0 ah ah Y0.x9) (nf ((Y0.frame fun i hi=>by
   have h5:=db (i:=i) (n:=x5) (by have:=b0 i hi;omega)
   simp only[go_sem, ↓reduceIte,Nat.reduceEqDiff,Nat.reduceAdd,Nat.reduceSub,Nat.reduceLeDiff,reduceCtorEq,h5]).LB) (aH _ _ _ _)),?_⟩
  refine hN _ _ ?_
  clear hN N
  (try((repeat(revert hN;revert N;apply Pn.out));refine wk (tw @Bk (tw @OJ (tw @OI @Yz))) ?_;(repeat(refine Pn.mk ?_;intro N hN))))
  refine .inl ⟨_,au.x (xR (1+((L0.map lr).sum:Nat)) L1.length ah ah Y1.x9) (nf (mA ((Y1.frame fun i hi=>by
   have h5:=db (i:=i) (n:=x5) (by have:=b1 i hi;omega)
   simp only[go_sem, ↓reduceIte,Nat.reduceEqDiff,Nat.reduceAdd,Nat.reduceSub,Nat.reduceLeDiff,reduceCtorEq,h5]).LB HE)) (aH _ _ _ _)),?_⟩
  refine hN _ _ ?_
  clear hN N
  (try((repeat(revert hN;revert N;apply Pn.out));refine wk (tw @Bk (tw @OJ (tw @OI (tw @YA @e5)))) ?_;(repeat(refine Pn.mk ?_;intro N hN))))
  exact bp (b:=true) (.inl rfl) (sd @Nat.zero_add) rfl
 ·rw[jq Uh]at h1
  rw[aA]at h1
  (repeat(first|((repeat(revert hN;revert N;apply Pn.out));refine wk @aA.eq_1 ?_;(repeat(refine Pn.mk ?_;intro N hN)))|((try apply Or.inl);refine⟨_,au.x (h1) (sd @aA.eq_1),?_⟩;refine hN _ _ ?_;clear hN N)))
  exact bp (b:=true) (.inl rfl) (sd @Nat.zero_add) rfl
def iV (n lo hi:Int):Bool:=decide (lo<=n)&&decide (n<=hi)
theorem dB {n lo hi:Int} (h:iV n lo hi=true):lo<=n/\n<=hi:=by simpa[iV]using h
theorem jm {n lo hi:Int} (h:lo<=n/\n<=hi):iV n lo hi=true:=by simpa[iV]using h
def zd (p:aq):Bool:=iV p.eE (-60) 60&&iV p.ez (-60) 60
theorem lD (n lo hi:Int):au Tryz.prog 95 [.int .i64 n,.int .i64 lo,.int .i64 hi] (.bool (iV n lo hi)):=by
 refine au.body eF rfl fun hl n0=>?_
 clear hl
 by_cases h1:lo<=n
 ·(try((repeat(revert hN;revert N;apply Pn.out));refine wk @h1 ?_;(repeat(refine Pn.mk ?_;intro N hN))))
  exact bp (b:=decide (n<=hi)) (.inl rfl) (sd @Nat.zero_add) (by simp[iV,h1])
 ·(try((repeat(revert hN;revert N;apply Pn.out));refine wk @h1 ?_;(repeat(refine Pn.mk ?_;intro N hN))))
  exact bp (b:=false) (.inl rfl) (sd @Nat.zero_add) (by simp[iV,h1])
theorem kX (n lo hi:Int):au Tryz.prog 98 [.int .i64 n,.int .i64 lo,.int .i64 hi] (.bool (iV n lo hi)):=by
 refine au.body eF rfl fun hl n0=>?_
 clear hl
 by_cases h1:lo<=n
 ·(try((repeat(revert hN;revert N;apply Pn.out));refine wk @h1 ?_;(repeat(refine Pn.mk ?_;intro N hN))))
  exact bp (b:=decide (n<=hi)) (.inl rfl) (sd @Nat.zero_add) (by simp[iV,h1])
 ·(try((repeat(revert hN;revert N;apply Pn.out));refine wk @h1 ?_;(repeat(refine Pn.mk ?_;intro N hN))))
  exact bp (b:=false) (.inl rfl) (sd @Nat.zero_add) (by simp[iV,h1])
theorem Mj (d:Int):au Tryz.prog 278 [.int .i64 d] (.bool (iV d 0 3)):=by
 refine au.body eF rfl fun hl n0=>?_
 clear hl
 have h:=lD d 0 3
 (repeat(first|((repeat(revert hN;revert N;apply Pn.out));refine wk @Nat.zero_add ?_;(repeat(refine Pn.mk ?_;intro N hN)))|((try apply Or.inl);refine⟨_,au.x (h) (sd @Nat.zero_add),?_⟩;refine hN _ _ ?_;clear hN N)))
 exact bp (b:=iV d 0 3) (.inl rfl) (sd @Nat.zero_add) rfl
theorem xX (p:aq):au Tryz.prog 222 [.agg (ae p)] (.bool (zd p)):=by
 refine au.body eF rfl fun hl n0=>?_
 clear hl
 have h1:=lD p.eE (-60) 60
 have h2:=lD p.ez (-60) 60
 by_cases q:iV p.eE (-60) 60=true
 ·rw[q]at h1
  (repeat(first|((repeat(revert hN;revert N;apply Pn.out));refine wk @ae.eq_1 ?_;(repeat(refine Pn.mk ?_;intro N hN)))|((try apply Or.inl);refine⟨_,au.x (h1) (sd @ae.eq_1),?_⟩;refine hN _ _ ?_;clear hN N)|((try apply Or.inl);refine⟨_,au.x (h2) (sd @ae.eq_1),?_⟩;refine hN _ _ ?_;clear hN N)))
  exact bp (b:=iV p.ez (-60) 60) (.inl rfl) (sd @Nat.zero_add) (by rw[zd,q];rfl)
 ·rw[Bool.not_eq_true]at q
  rw[q]at h1
  (repeat(first|((repeat(revert hN;revert N;apply Pn.out));refine wk @ae.eq_1 ?_;(repeat(refine Pn.mk ?_;intro N hN)))|((try apply Or.inl);refine⟨_,au.x (h1) (sd @ae.eq_1),?_⟩;refine hN _ _ ?_;clear hN N)|((try apply Or.inl);refine⟨_,au.x (h2) (sd @ae.eq_1),?_⟩;refine hN _ _ ?_;clear hN N)))
  exact bp (b:=false) (.inl rfl) (sd @Nat.zero_add) (by rw[zd,q];rfl)
theorem sJ (p:aq):au Tryz.prog 256 [.agg (ae p)] (.bool (zd p)):=by
 refine au.body eF rfl fun hl n0=>?_
 clear hl
 have h1:=kX p.eE (-60) 60
 have h2:=kX p.ez (-60) 60
 by_cases q:iV p.eE (-60) 60=true
 ·rw[q]at h1
  (repeat(first|((repeat(revert hN;revert N;apply Pn.out));refine wk @ae.eq_1 ?_;(repeat(refine Pn.mk ?_;intro N hN)))|((try apply Or.inl);refine⟨_,au.x (h1) (sd @ae.eq_1),?_⟩;refine hN _ _ ?_;clear hN N)|((try apply Or.inl);refine⟨_,au.x (h2) (sd @ae.eq_1),?_⟩;refine hN _ _ ?_;clear hN N)))
  exact bp (b:=iV p.ez (-60) 60) (.inl rfl) (sd @Nat.zero_add) (by rw[zd,q];rfl)
 ·rw[Bool.not_eq_true]at q
  rw[q]at h1
  (repeat(first|((repeat(revert hN;revert N;apply Pn.out));refine wk @ae.eq_1 ?_;(repeat(refine Pn.mk ?_;intro N hN)))|((try apply Or.inl);refine⟨_,au.x (h1) (sd @ae.eq_1),?_⟩;refine hN _ _ ?_;clear hN N)|((try apply Or.inl);refine⟨_,au.x (h2) (sd @ae.eq_1),?_⟩;refine hN _ _ ?_;clear hN N)))
  exact bp (b:=false) (.inl rfl) (sd @Nat.zero_add) (by rw[zd,q];rfl)
def ko (d:Int):Int:=if iV d 0 3 then(d+2) % 4 else -1
def bt (p:aq) (d:Int):aq:=
 if d=0 then⟨p.eE,p.ez+1⟩else if d=1 then⟨p.eE+1,p.ez⟩else if d=2 then⟨p.eE,p.ez-1⟩else if d=3 then⟨p.eE-1,p.ez⟩else p
def iB (n:Int):Prop:=-4611686018427387904<=n/\n<=4611686018427387904
theorem uK (p:aq) (d:Int) (hd:iV d 0 3=true) (hx:iB p.eE) (hy:iB p.ez):au Tryz.prog 221 [.agg (ae p),.int .i64 d] (.agg (ae (bt p d))):=by
 refine au.body eF rfl fun hl n0=>?_
 clear hl
 obtain⟨x1,x2⟩:=hx
 obtain⟨y1,y2⟩:=hy
 have w1:IntKind.i64.wrap (p.eE+1)=p.eE+1:=bq ah
 have w2:IntKind.i64.wrap (p.eE-1)=p.eE-1:=bq ah
 have w3:IntKind.i64.wrap (p.ez+1)=p.ez+1:=bq ah
 have w4:IntKind.i64.wrap (p.ez-1)=p.ez-1:=bq ah
 have hb:=dB hd
 have hc:d=0∨d=1∨d=2∨d=3:=ah
 rcases hc with rfl|rfl|rfl|rfl
 ·(try((repeat(revert hN;revert N;apply Pn.out));refine wk (tw @ae.eq_1 @w3) ?_;(repeat(refine Pn.mk ?_;intro N hN))))
  exact oP (.inl rfl) (vs:=[.agg (ae (bt p 0))]) (by simp only[go_sem, ↓reduceIte,Nat.reduceEqDiff,Nat.reduceAdd,Nat.reduceSub,Nat.reduceLeDiff,reduceCtorEq,fM,iU,ae,bt]) (by simp[fc,ae,gF,ep])
 ·(try((repeat(revert hN;revert N;apply Pn.out));refine wk (tw @ae.eq_1 @w1) ?_;(repeat(refine Pn.mk ?_;intro N hN))))
  exact oP (.inl rfl) (vs:=[.agg (ae (bt p 1))]) (by simp[fM,iU,ae,bt,ld,rowAt,bE,upd,part]) (by simp[fc,ae,gF,ep])
 ·(try((repeat(revert hN;revert N;apply Pn.out));refine wk (tw @ae.eq_1 @w4) ?_;(repeat(refine Pn.mk ?_;intro N hN))))
  exact oP (.inl rfl) (vs:=[.agg (ae (bt p 2))]) (by simp[fM,iU,ae,bt,ld,rowAt,bE,upd,part]) (by simp[fc,ae,gF,ep])
 ·(try((repeat(revert hN;revert N;apply Pn.out));refine wk (tw @ae.eq_1 @w2) ?_;(repeat(refine Pn.mk ?_;intro N hN))))
  exact oP (.inl rfl) (vs:=[.agg (ae (bt p 3))]) (by simp[fM,iU,ae,bt,ld,rowAt,bE,upd,part]) (by simp[fc,ae,gF,ep])
theorem B4 (p p2:aq) (x y:Int) (hx:IntKind.i64.wrap (p.eE+p2.eE)=x) (hy:IntKind.i64.wrap (p.ez+p2.ez)=y):au Tryz.prog 280 [.agg (ae p),.agg (ae p2)] (.agg [.int .i64 x,.int .i64 y]):=by
 refine au.body eF rfl fun hl n0=>?_
 clear hl
 (try((repeat(revert hN;revert N;apply Pn.out));refine wk (tw @ae.eq_1 (tw @hx @hy)) ?_;(repeat(refine Pn.mk ?_;intro N hN))))
 exact oP (.inl rfl) (vs:=[.agg [.int .i64 x,.int .i64 y]]) (by simp only[go_sem, ↓reduceIte,Nat.reduceEqDiff,Nat.reduceAdd,Nat.reduceSub,Nat.reduceLeDiff,reduceCtorEq,fM,iU,ae]) (by simp[fc,gF,ep])
theorem G0 (p:aq) (d:Int) (hd:iV d 0 3=true) (hx:iB p.eE) (hy:iB p.ez):au Tryz.prog 228 [.agg (ae p),.int .i64 d] (.agg (ae (bt p d))):=by
 refine au.body eF rfl fun hl n0=>?_
 clear hl
 obtain⟨x1,x2⟩:=hx
 obtain⟨y1,y2⟩:=hy
 have hb:=dB hd
 have hc:d=0∨d=1∨d=2∨d=3:=ah
 rcases hc with rfl|rfl|rfl|rfl
 ·have h:=B4 p ⟨0,1⟩ (p.eE) (p.ez+1) (by rw[bq (by constructor<;>simp only<;>omega)]<;>(try simp only)<;>(try omega)) (by rw[bq (by constructor<;>simp only<;>omega)]<;>(try simp only)<;>(try omega))
  simp only[ae]at h
  (repeat(first|((repeat(revert hN;revert N;apply Pn.out));refine wk @ae.eq_1 ?_;(repeat(refine Pn.mk ?_;intro N hN)))|((try apply Or.inl);refine⟨_,au.x (h) (sd @ae.eq_1),?_⟩;refine hN _ _ ?_;clear hN N)))
  exact oP (.inl rfl) (vs:=[.agg (ae (bt p 0))]) (by simp[fM,iU,ae,bt,ld,rowAt,bE,upd,part]) (by simp[fc,ae,gF,ep])
 ·have h:=B4 p ⟨1,0⟩ (p.eE+1) (p.ez) (by rw[bq (by constructor<;>simp only<;>omega)]<;>(try simp only)<;>(try omega)) (by rw[bq (by constructor<;>simp only<;>omega)]<;>(try simp only)<;>(try omega))
  simp only[ae]at h
  (repeat(first|((repeat(revert hN;revert N;apply Pn.out));refine wk @ae.eq_1 ?_;(repeat(refine Pn.mk ?_;intro N hN)))|((try apply Or.inl);refine⟨_,au.x (h) (sd @ae.eq_1),?_⟩;refine hN _ _ ?_;clear hN N)))
  exact oP (.inl rfl) (vs:=[.agg (ae (bt p 1))]) (by simp[fM,iU,ae,bt,ld,rowAt,bE,upd,part]) (by simp[fc,ae,gF,ep])
 ·have h:=B4 p ⟨0,(-1)⟩ (p.eE) (p.ez-1) (by rw[bq (by constructor<;>simp only<;>omega)]<;>(try simp only)<;>(try omega)) (by rw[bq (by constructor<;>simp only<;>omega)]<;>(try simp only)<;>(try omega))
  simp only[ae]at h
  (repeat(first|((repeat(revert hN;revert N;apply Pn.out));refine wk @ae.eq_1 ?_;(repeat(refine Pn.mk ?_;intro N hN)))|((try apply Or.inl);refine⟨_,au.x (h) (sd @ae.eq_1),?_⟩;refine hN _ _ ?_;clear hN N)))
  exact oP (.inl rfl) (vs:=[.agg (ae (bt p 2))]) (by simp[fM,iU,ae,bt,ld,rowAt,bE,upd,part]) (by simp[fc,ae,gF,ep])
 ·have h:=B4 p ⟨(-1),0⟩ (p.eE-1) (p.ez) (by rw[bq (by constructor<;>simp only<;>omega)]<;>(try simp only)<;>(try omega)) (by rw[bq (by constructor<;>simp only<;>omega)]<;>(try simp only)<;>(try omega))
  simp only[ae]at h
  (repeat(first|((repeat(revert hN;revert N;apply Pn.out));refine wk @ae.eq_1 ?_;(repeat(refine Pn.mk ?_;intro N hN)))|((try apply Or.inl);refine⟨_,au.x (h) (sd @ae.eq_1),?_⟩;refine hN _ _ ?_;clear hN N)))
  exact oP (.inl rfl) (vs:=[.agg (ae (bt p 3))]) (by simp[fM,iU,ae,bt,ld,rowAt,bE,upd,part]) (by simp[fc,ae,gF,ep])
theorem GC (d:Int) (hd:iV d 0 3=true):au Tryz.prog 304 [.int .i64 d] (.int .i64 (ko d)):=by
 refine au.body eF rfl fun hl n0=>?_
 clear hl
 have hb:=dB hd
 have hw:IntKind.i64.wrap (d+2)=d+2:=bq ah
 have ht:Int.tmod (d+2) 4=(d+2) % 4:=Int.tmod_eq_emod_of_nonneg ah
 have h4:¬((4:Int)=0):=ah
 (try((repeat(revert hN;revert N;apply Pn.out));refine wk (tw @hw (tw @ht @h4)) ?_;(repeat(refine Pn.mk ?_;intro N hN))))
 exact da (b:=(d+2) % 4) (.inl rfl) (sd @Nat.zero_add) (by rw[ko,if_pos hd])
theorem xk (d:Int) (hd:iV d 0 3=true):au Tryz.prog 224 [.int .i64 d] (.int .i64 (ko d)):=by
 refine au.body eF rfl fun hl n0=>?_
 clear hl
 have hb:=dB hd
 have hw:IntKind.i64.wrap (d+2)=d+2:=bq ah
 have ht:Int.tmod (d+2) 4=(d+2) % 4:=Int.tmod_eq_emod_of_nonneg ah
 have h4:¬((4:Int)=0):=ah
 have h:=Mj d
 rw[hd]at h
 (repeat(first|((repeat(revert hN;revert N;apply Pn.out));refine wk (tw @hw (tw @ht @h4)) ?_;(repeat(refine Pn.mk ?_;intro N hN)))|((try apply Or.inl);refine⟨_,au.x (h) (sd (tw @hw (tw @ht @h4))),?_⟩;refine hN _ _ ?_;clear hN N)))
 exact da (b:=(d+2) % 4) (.inl rfl) (sd @Nat.zero_add) (by rw[ko,if_pos hd])
def eH (s:ax) (t:Int):Bool:=iV t 0 ((s.ai.length:Int)-1)
theorem Gm (s:ax) (t:Int):au Tryz.prog 220 [.dn (ad s),.int .i64 t] (.bool (eH s t)):=by
 refine au.body eF rfl fun hl n0=>?_
 have hn:s.ai.length<=9223372036854775807:=by
  have h1:=(hl (.dn (ad s)) (by simp)).D8 (a:=.sl (s.ai.map bR)) (by simp[ad])
  simpa using h1.len
 clear hl
 have hw:IntKind.i64.wrap ((s.ai.length:Int)-1)=(s.ai.length:Int)-1:=bq ah
 have h:=lD t 0 ((s.ai.length:Int)-1)
 (repeat(first|((repeat(revert hN;revert N;apply Pn.out));refine wk (tw @ad.eq_1 @hw) ?_;(repeat(refine Pn.mk ?_;intro N hN)))|((try apply Or.inl);refine⟨_,au.x (h) (sd (tw @ad.eq_1 @hw)),?_⟩;refine hN _ _ ?_;clear hN N)))
 exact bp (b:=eH s t) (.inl rfl) (by simp only[go_sem, ↓reduceIte,Nat.reduceEqDiff,Nat.reduceAdd,Nat.reduceSub,Nat.reduceLeDiff,reduceCtorEq,eH]) rfl
theorem An (t n:Int) (h0:0<=n) (h1:n<=9223372036854775807):au Tryz.prog 257 [.int .i64 t,.int .i64 n] (.bool (iV t 0 (n-1))):=by
 refine au.body eF rfl fun hl n0=>?_
 clear hl
 have hw:IntKind.i64.wrap (n-1)=n-1:=bq ah
 have h:=kX t 0 (n-1)
 (repeat(first|((repeat(revert hN;revert N;apply Pn.out));refine wk @hw ?_;(repeat(refine Pn.mk ?_;intro N hN)))|((try apply Or.inl);refine⟨_,au.x (h) (sd @hw),?_⟩;refine hN _ _ ?_;clear hN N)))
 exact bp (b:=iV t 0 (n-1)) (.inl rfl) (sd @Nat.zero_add) rfl
theorem Mg (s:ax) (t:Int):au Tryz.prog 203 [.agg (ad s),.int .i64 t] (.bool (eH s t)):=by
 refine au.body eF rfl fun hl n0=>?_
 have hn:s.ai.length<=9223372036854775807:=by
  have h1:=(hl (.agg (ad s)) (by simp)).Rs (a:=.sl (s.ai.map bR)) (by simp[ad])
  simpa using h1.len
 clear hl
 have h:=An t s.ai.length ah ah
 (repeat(first|((repeat(revert hN;revert N;apply Pn.out));refine wk @ad.eq_1 ?_;(repeat(refine Pn.mk ?_;intro N hN)))|((try apply Or.inl);refine⟨_,au.x (h) (sd @ad.eq_1),?_⟩;refine hN _ _ ?_;clear hN N)))
 exact bp (b:=eH s t) (.inl rfl) (by simp only[go_sem, ↓reduceIte,Nat.reduceEqDiff,Nat.reduceAdd,Nat.reduceSub,Nat.reduceLeDiff,reduceCtorEq,eH]) rfl
def BZ:fb:=⟨⟨#[]⟩,[]⟩
def du (s:ax) (t:Int):fb:=s.ai.getD t.toNat BZ
def dt (t:fb) (d:Int):Int:=t.bV.getD d.toNat 0
def rU (s:ax) (g:Int):gh:=s.aB.getD g.toNat ⟨⟨#[]⟩,0⟩
def rf (s:ax) (g:Int):Int:=if g=0 then 0 else(rU s (g-1)).eK
def iH (s:ax) (a d b:Int):Int:=if dt (du s a) d=dt (du s b) (ko d)then rf s (dt (du s a) d)else 0
structure js (s:ax):Prop where
 rD:∀t∈s.ai,t.bV.length=4
 vG:∀t∈s.ai,∀g∈t.bV,0<=g/\g<=s.aB.length
theorem getD_map {α β:Type} (e:α->β) {l:List α} {k:Nat} {d:α} (h:k<l.length):(l.map e)[k]? =some (e (l.getD k d)):=by simp[List.getD_eq_getElem?_getD,h]
theorem rq (s:ax) (g:Int) (h0:0<=g) (h1:g<=s.aB.length):au Tryz.prog 225 [.dn (ad s),.int .i64 g] (.int .i64 (rf s g)):=by
 refine au.body eF rfl fun hl n0=>?_
 have hn:s.aB.length<=9223372036854775807:=by
  have h1:=(hl (.dn (ad s)) (by simp)).D8 (a:=.sl (s.aB.map cm)) (by simp[ad])
  simpa using h1.len
 clear hl
 by_cases hg:g=0
 ·have e:decide (g=0)=true:=decide_eq_true hg
  (try((repeat(revert hN;revert N;apply Pn.out));refine wk (tw @ad.eq_1 @e) ?_;(repeat(refine Pn.mk ?_;intro N hN))))
  exact da (b:=0) (.inl rfl) (sd @Nat.zero_add) (by rw[rf,if_pos hg])
 ·have e:decide (g=0)=false:=decide_eq_false hg
  have hw:IntKind.i64.wrap (g-1)=g-1:=bq ah
  have o9:0<=g-1:=ah
  have eR:(s.aB.map cm)[(g-1).toNat]? =some (cm (rU s (g-1))):=getD_map cm ah
  (try((repeat(revert hN;revert N;apply Pn.out));refine wk (tw @ad.eq_1 (tw @e (tw @hw (tw @o9 (tw @eR @cm.eq_1))))) ?_;(repeat(refine Pn.mk ?_;intro N hN))))
  exact da (b:=(rU s (g-1)).eK) (.inl rfl) (sd @Nat.zero_add) (by rw[rf,if_neg hg])
theorem kV {s:ax} {a:Int} (h:eH s a=true):0<=a/\(s.ai.map bR)[a.toNat]? =some (bR (du s a))/\du s a∈s.ai:=by
 have h':=dB h
 have ei:a.toNat<s.ai.length:=ah
 refine⟨h'.1,getD_map bR ei,?_⟩
 unfold du
 rw[List.getD_eq_getElem?_getD,List.getElem?_eq_getElem ei]
 exact List.getElem_mem ei
theorem l6 {t:fb} {d:Int} (h:t.bV.length=4) (hd:iV d 0 3=true):(t.bV.map aU)[d.toNat]? =some [.int .i64 (dt t d)]:=by
 have:=dB hd
 exact getD_map aU ah
theorem yR {t:fb} {d:Int} (h:t.bV.length=4) (hd:iV d 0 3=true):dt t d∈t.bV:=by
 have:=dB hd
 have ei:d.toNat<t.bV.length:=ah
 unfold dt
 rw[List.getD_eq_getElem?_getD,List.getElem?_eq_getElem ei]
 exact List.getElem_mem ei
theorem sb {d:Int} (hd:iV d 0 3=true):iV (ko d) 0 3=true:=by
 have:=dB hd
 refine jm ?_
 rw[ko,if_pos hd];omega
theorem Jp (s:ax) (hF:js s) (a d b:Int) (ha:eH s a=true) (hb:eH s b=true) (hd:iV d 0 3=true):au Tryz.prog 190 [.dn (ad s),.int .i64 a,.int .i64 d,.int .i64 b] (.int .i64 (iH s a d b)):=by
 refine au.body eF rfl fun hl n0=>?_
 clear hl
 obtain⟨a0,a1,a2⟩:=kV ha
 obtain⟨b0,b1,b2⟩:=kV hb
 have s1:=l6 (hF.rD _ a2) hd
 have s2:=l6 (hF.rD _ b2) (sb hd)
 have gl:=hF.vG _ a2 _ (yR (hF.rD _ a2) hd)
 have d0:=(dB hd).1
 have d1:=(dB (sb hd)).1
 have h:=xk d hd
 have hs:=rq s (dt (du s a) d) gl.1 gl.2
 rw[ad]at hs
 by_cases e:dt (du s a) d=dt (du s b) (ko d)
 ·have e':decide (dt (du s a) d=dt (du s b) (ko d))=true:=decide_eq_true e
  (repeat(first|((repeat(revert hN;revert N;apply Pn.out));refine wk (tw @ad.eq_1 (tw @bR.eq_1 (tw @a0 (tw @a1 (tw @b0 (tw @b1 (tw @s1 (tw @s2 (tw @d0 (tw @d1 @e')))))))))) ?_;(repeat(refine Pn.mk ?_;intro N hN)))|((try apply Or.inl);refine⟨_,au.x (h) (sd (tw @ad.eq_1 (tw @bR.eq_1 (tw @a0 (tw @a1 (tw @b0 (tw @b1 (tw @s1 (tw @s2 (tw @d0 (tw @d1 @e'))))))))))),?_⟩;refine hN _ _ ?_;clear hN N)|((try apply Or.inl);refine⟨_,au.x (hs) (sd (tw @ad.eq_1 (tw @bR.eq_1 (tw @a0 (tw @a1 (tw @b0 (tw @b1 (tw @s1 (tw @s2 (tw @d0 (tw @d1 @e'))))))))))),?_⟩;refine hN _ _ ?_;clear hN N)))
  exact da (b:=rf s (dt (du s a) d)) (.inl rfl) (sd @Nat.zero_add) (by rw[iH,if_pos e])
 ·have e':decide (dt (du s a) d=dt (du s b) (ko d))=false:=decide_eq_false e
  (repeat(first|((repeat(revert hN;revert N;apply Pn.out));refine wk (tw @ad.eq_1 (tw @bR.eq_1 (tw @a0 (tw @a1 (tw @b0 (tw @b1 (tw @s1 (tw @s2 (tw @d0 (tw @d1 @e')))))))))) ?_;(repeat(refine Pn.mk ?_;intro N hN)))|((try apply Or.inl);refine⟨_,au.x (h) (sd (tw @ad.eq_1 (tw @bR.eq_1 (tw @a0 (tw @a1 (tw @b0 (tw @b1 (tw @s1 (tw @s2 (tw @d0 (tw @d1 @e'))))))))))),?_⟩;refine hN _ _ ?_;clear hN N)))
  exact da (b:=0) (.inl rfl) (sd @Nat.zero_add) (by rw[iH,if_neg e])
theorem G3 (s:ax) (hF:js s) (a d:Int) (ha:eH s a=true) (hd:iV d 0 3=true):au Tryz.prog 305 [.agg (ad s),.int .i64 a,.int .i64 d] (.int .i64 (rf s (dt (du s a) d))):=by
 refine au.body eF rfl fun hl n0=>?_
 have hn:s.aB.length<=9223372036854775807:=by
  have h1:=(hl (.agg (ad s)) (by simp)).Rs (a:=.sl (s.aB.map cm)) (by simp[ad])
  simpa using h1.len
 clear hl
 obtain⟨a0,a1,a2⟩:=kV ha
 have s1:=l6 (hF.rD _ a2) hd
 have gl:=hF.vG _ a2 _ (yR (hF.rD _ a2) hd)
 have d0:=(dB hd).1
 by_cases hg:dt (du s a) d=0
 ·have e:¬(0<dt (du s a) d):=ah
  (try((repeat(revert hN;revert N;apply Pn.out));refine wk (tw @ad.eq_1 (tw @bR.eq_1 (tw @a0 (tw @a1 (tw @s1 (tw @d0 @e)))))) ?_;(repeat(refine Pn.mk ?_;intro N hN))))
  exact da (b:=0) (.inl rfl) (sd @Nat.zero_add) (by rw[rf,if_pos hg])
 ·have e:0<dt (du s a) d:=ah
  have hw:IntKind.i64.wrap (dt (du s a) d-1)=dt (du s a) d-1:=bq ah
  have o9:0<=dt (du s a) d-1:=ah
  have eR:(s.aB.map cm)[(dt (du s a) d-1).toNat]? =some (cm (rU s (dt (du s a) d-1))):=getD_map cm ah
  (try((repeat(revert hN;revert N;apply Pn.out));refine wk (tw @ad.eq_1 (tw @bR.eq_1 (tw @a0 (tw @a1 (tw @s1 (tw @d0 (tw @e (tw @hw (tw @o9 (tw @eR @cm.eq_1)))))))))) ?_;(repeat(refine Pn.mk ?_;intro N hN))))
  exact da (b:=(rU s (dt (du s a) d-1)).eK) (.inl rfl) (sd @Nat.zero_add) (by rw[rf,if_neg hg])
theorem K7 (s:ax) (hF:js s) (a d b:Int) (ha:eH s a=true) (hb:eH s b=true) (hd:iV d 0 3=true):au Tryz.prog 261 [.agg (ad s),.int .i64 a,.int .i64 d,.int .i64 b] (.int .i64 (iH s a d b)):=by
 refine au.body eF rfl fun hl n0=>?_
 clear hl
 obtain⟨a0,a1,a2⟩:=kV ha
 obtain⟨b0,b1,b2⟩:=kV hb
 have s1:=l6 (hF.rD _ a2) hd
 have s2:=l6 (hF.rD _ b2) (sb hd)
 have d0:=(dB hd).1
 have d1:=(dB (sb hd)).1
 have h:=GC d hd
 have hs:=G3 s hF a d ha hd
 rw[ad]at hs
 by_cases e:dt (du s a) d=dt (du s b) (ko d)
 ·have e':decide (dt (du s a) d=dt (du s b) (ko d))=true:=decide_eq_true e
  (repeat(first|((repeat(revert hN;revert N;apply Pn.out));refine wk (tw @ad.eq_1 (tw @bR.eq_1 (tw @a0 (tw @a1 (tw @b0 (tw @b1 (tw @s1 (tw @s2 (tw @d0 (tw @d1 @e')))))))))) ?_;(repeat(refine Pn.mk ?_;intro N hN)))|((try apply Or.inl);refine⟨_,au.x (h) (sd (tw @ad.eq_1 (tw @bR.eq_1 (tw @a0 (tw @a1 (tw @b0 (tw @b1 (tw @s1 (tw @s2 (tw @d0 (tw @d1 @e'))))))))))),?_⟩;refine hN _ _ ?_;clear hN N)|((try apply Or.inl);refine⟨_,au.x (hs) (sd (tw @ad.eq_1 (tw @bR.eq_1 (tw @a0 (tw @a1 (tw @b0 (tw @b1 (tw @s1 (tw @s2 (tw @d0 (tw @d1 @e'))))))))))),?_⟩;refine hN _ _ ?_;clear hN N)))
  exact da (b:=rf s (dt (du s a) d)) (.inl rfl) (sd @Nat.zero_add) (by rw[iH,if_pos e])
 ·have e':decide (dt (du s a) d=dt (du s b) (ko d))=false:=decide_eq_false e
  (repeat(first|((repeat(revert hN;revert N;apply Pn.out));refine wk (tw @ad.eq_1 (tw @bR.eq_1 (tw @a0 (tw @a1 (tw @b0 (tw @b1 (tw @s1 (tw @s2 (tw @d0 (tw @d1 @e')))))))))) ?_;(repeat(refine Pn.mk ?_;intro N hN)))|((try apply Or.inl);refine⟨_,au.x (h) (sd (tw @ad.eq_1 (tw @bR.eq_1 (tw @a0 (tw @a1 (tw @b0 (tw @b1 (tw @s1 (tw @s2 (tw @d0 (tw @d1 @e'))))))))))),?_⟩;refine hN _ _ ?_;clear hN N)))
  exact da (b:=0) (.inl rfl) (sd @Nat.zero_add) (by rw[iH,if_neg e])
def qT (s:ax) (i:Nat):gh:=s.aB.getD i ⟨⟨#[]⟩,0⟩
def qk (s:ax) (i:Nat):fb:=s.ai.getD i BZ
def Fk (s:ax) (i:Nat):Prop:=kc (qT s i).aP=true/\iV (qT s i).eK 1 4=true/\∀j,j<i->(qT s j).aP≠(qT s i).aP
def CT (s:ax) (i:Nat):Prop:=kc (qk s i).aP=true/\(qk s i).bV.length=4/\(∀j,j<i->(qk s j).aP≠(qk s i).aP)/\∀g∈(qk s i).bV,iV g 0 s.aB.length=true
structure iG (s:ax):Prop where
 vG:s.aB.length<=200
 some:1<=s.ai.length
 wg:s.ai.length<=160
 Xd:∀i,i<s.aB.length->Fk s i
 tok:∀i,i<s.ai.length->CT s i
noncomputable def tH (s:ax):Bool:=@decide (iG s) (Classical.propDecidable _)
theorem qh {s:ax}:tH s=true↔iG s:=by simp[tH]
theorem gj {s:ax} (h:¬iG s):false=tH s:=by simp[tH,h]
theorem EI {s:ax} (h:iG s):true=tH s:=by simp[tH,h]
theorem Ck {s:ax} {i:Nat} (h:i<s.ai.length):(s.ai.map bR)[i]? =some (bR (qk s i)):=getD_map bR h
theorem Bu {s:ax} {i:Nat} (h:i<s.aB.length):(s.aB.map cm)[i]? =some (cm (qT s i)):=getD_map cm h
theorem iG.form {s:ax} (h:iG s):js s:=by
 have key:∀t∈s.ai,∃i,i<s.ai.length/\t=qk s i:=fun t ht=>by
  obtain⟨i,hi,rfl⟩:=List.getElem_of_mem ht
  exact⟨i,hi,by simp[qk,List.getD_eq_getElem?_getD,hi]⟩
 refine⟨fun t ht=>?_,fun t ht g hg=>?_⟩
 ·obtain⟨i,hi,rfl⟩:=key t ht
  exact(h.tok i hi).2.1
 ·obtain⟨i,hi,rfl⟩:=key t ht
  exact dB ((h.tok i hi).2.2.2 g hg)
def dO (l:List ByteArray):List (List AV):=l.map fun n=>[.str n,.bool true]
abbrev mS:MK:=⟨false,[.tS]⟩
theorem AP (n:ByteArray):∀(l:List ByteArray) (i:Nat),∃r,gH mS [.str n] (dO l) i=some r/\((r=none/\n∉l)∨∃j,r=some (i+j)/\n∈l/\(dO l)[j]? =some [.str n,.bool true])
 |[],i=>⟨none,rfl,.inl ⟨rfl,by simp⟩⟩
 |m::l,i=>by
  obtain⟨r,h1,h2⟩:=AP n l (i+1)
  by_cases h:n=m
  ·subst h
   exact⟨some i,by simp[dO,gH,e6,fQ,MK.ks],.inr ⟨0,rfl,by simp,rfl⟩⟩
  ·refine⟨r,?_,?_⟩
   ·unfold dO at h1 ⊢
    simp only[List.map_cons,gH,MK.ks,List.length_cons,List.length_nil,Nat.zero_add,List.take_succ_cons,List.take_zero,e6,fQ,h,decide_false,Bool.and_true]
    exact h1
   ·rcases h2 with⟨rfl,h2⟩|⟨j,rfl,h2,h3⟩
    ·exact .inl ⟨rfl,by simp[h,h2]⟩
    ·exact .inr ⟨j+1,by congr 1;omega,by simp[h2],by simpa[dO]using h3⟩
theorem yP (n:ByteArray) (l:List ByteArray):(n∉l/\gD mS (.str n) (dO l)=some none)∨∃j,n∈l/\gD mS (.str n) (dO l)=some (some j)/\(dO l)[j]? =some [.str n,.bool true]:=by
 obtain⟨r,h1,h2⟩:=AP n l 0
 have e:gD mS (.str n) (dO l)=some r:=by
  unfold gD
  rw[if_pos ⟨rfl,rfl,rfl⟩];exact h1
 rcases h2 with⟨rfl,h2⟩|⟨j,rfl,h2,h3⟩
 ·exact .inl ⟨h2,e⟩
 ·exact .inr ⟨j,h2,by rw[e,Nat.zero_add],h3⟩
theorem Ts (s:ax) (g:Int):au Tryz.prog 255 [.int .i64 g,.dn (ad s)] (.bool (!iV g 0 s.aB.length)):=by
 refine au.body eF rfl fun hl n0=>?_
 clear hl
 have h:=kX g 0 s.aB.length
 (repeat(first|((repeat(revert hN;revert N;apply Pn.out));refine wk @ad.eq_1 ?_;(repeat(refine Pn.mk ?_;intro N hN)))|((try apply Or.inl);refine⟨_,au.x (h) (sd @ad.eq_1),?_⟩;refine hN _ _ ?_;clear hN N)))
 exact bp (b:= !iV g 0 s.aB.length) (.inl rfl) (sd @Nat.zero_add) rfl
theorem OC:UK aU (fun c=>.int .i64 c) 1 false:=⟨fun _=>rfl,fun _=>rfl,fun x g=>by rw[aj,aH,ar];rfl⟩
theorem Qa (s:ax) (l:List Int) (hl:l.length<=1048576):au Tryz.prog 226 [.sl (l.map aU),.fn 255 [.dn (ad s)]] (.bool (l.any fun g=> !iV g 0 s.aB.length)):=
 pE OC (show nK Tryz.prog 226=some (FZ 226 279) by kernel_rfl)
  (show nK Tryz.prog 279=some (xW 279 1 false) by kernel_rfl) l hl _ _ _ rfl (fun g=>by rw[aj,aX,ar];rfl) (fun x _=>Ts s x) fun g=>by rw[aj,aX,ar];rfl
theorem yn {α:Type} (f:Nat->α) (n k:Nat) (x:α):x∉(List.range k).map f↔∀j,j<k->f j≠x:=by
 constructor
 ·intro h j hj he
  exact h (List.mem_map.2 ⟨j,List.mem_range.2 hj,he⟩)
 ·intro h hm
  obtain⟨j,hj,he⟩:=List.mem_map.1 hm
  exact h j (List.mem_range.1 hj) he
theorem Fs (s:ax) (hn:iq s) (hg:s.aB.length<=1048576) (ht:s.ai.length<=1048576) (hs:∀t∈s.ai,t.bV.length<=1048576):au Tryz.prog 199 [.agg (ad s)] (.bool (tH s)):=by
 refine au.body eF rfl fun hl n0=>?_
 clear hl
 have VG:∀i,i<s.aB.length->(qT s i).aP.size<=9223372036854775807:=fun i hi=>hn.1 _ (by simp[qT,List.getD_eq_getElem?_getD,hi])
 have V5:∀i,i<s.ai.length->(qk s i).aP.size<=9223372036854775807:=fun i hi=>hn.2 _ (by simp[qk,List.getD_eq_getElem?_getD,hi])
 have zx:∀i,i<s.ai.length->(qk s i).bV.length<=1048576:=fun i hi=>hs _ (by simp[qk,List.getD_eq_getElem?_getD,hi])
 have hw:=kX (s.ai.length:Int) 1 160
 by_cases h1:(200:Int)<(s.aB.length:Int)
 ·(try((repeat(revert hN;revert N;apply Pn.out));refine wk (tw @ad.eq_1 @h1) ?_;(repeat(refine Pn.mk ?_;intro N hN))))
  exact bp (b:=false) (.inl rfl) (sd @Nat.zero_add) (gj fun h=>by have:=h.vG;omega)
 by_cases h2:iV (s.ai.length:Int) 1 160=true
 ·have EZ:=dB h2
  rw[h2]at hw
  (repeat(first|((repeat(revert hN;revert N;apply Pn.out));refine wk (tw @ad.eq_1 @h1) ?_;(repeat(refine Pn.mk ?_;intro N hN)))|((try apply Or.inl);refine⟨_,au.x (hw) (sd (tw @ad.eq_1 @h1)),?_⟩;refine hN _ _ ?_;clear hN N)))
  refine aQ (fun n env st=>∃k:Nat,n=(s.aB.length)-k/\k<=(s.aB.length)/\env 24=.int .i64 (k:Int)/\st.get ⟨199000000,n0⟩=some ⟨true,2,[ad s]⟩/\st.get ⟨199003000,n0+1+1⟩=some ⟨true,mS.lq,dO ((List.range k).map fun i=>(qT s i).aP)⟩/\(∀j:Nat,j<k->Fk s j)) (s.aB.length) ⟨0,ah,ah,by(try simp only[go_sem, ↓reduceIte,Nat.reduceEqDiff,Nat.reduceAdd,Nat.reduceSub,Nat.reduceLeDiff,reduceCtorEq,ad,List.range_zero,List.map_nil,dO]);try rfl,by(try simp only[go_sem, ↓reduceIte,Nat.reduceEqDiff,Nat.reduceAdd,Nat.reduceSub,Nat.reduceLeDiff,reduceCtorEq,ad,List.range_zero,List.map_nil,dO]);try rfl,by(try simp only[go_sem, ↓reduceIte,Nat.reduceEqDiff,Nat.reduceAdd,Nat.reduceSub,Nat.reduceLeDiff,reduceCtorEq,ad,List.range_zero,List.map_nil,dO]);try rfl,fun _ h=>absurd h (Nat.not_lt_zero _)⟩ ?_
  rintro n_a env_a st_a ⟨k,rfl,ale,a24,ag0,ag1,nP⟩ dv
  have a1:=dv 1 (by kernel_rfl);have a3:=dv 3 (by kernel_rfl);have a22:=dv 22 (by kernel_rfl);have a23:=dv 23 (by kernel_rfl)
  simp only[go_sem, ↓reduceIte,Nat.reduceEqDiff,Nat.reduceAdd,Nat.reduceSub,Nat.reduceLeDiff,reduceCtorEq,ad,List.range_zero,List.map_nil,dO]at a1 a3 a22 a23
  clear dv
  by_cases hk:(k:Int)<(s.aB.length:Int)
  ·have cq:∀{e:Env} {gg:Rows},(e 24=.int .i64 (IntKind.i64.wrap ((k:Int)+1)))->(gg ⟨199000000,n0⟩=some ⟨true,2,[ad s]⟩)->(gg ⟨199003000,n0+1+1⟩=some ⟨true,mS.lq,dO ((List.range (k+1)).map fun i=>(qT s i).aP)⟩)->(Fk s k)->∃m0,m0<(s.aB.length)-k/\∃k:Nat,m0=(s.aB.length)-k/\k<=(s.aB.length)/\e 24=.int .i64 (k:Int)/\gg ⟨199000000,n0⟩=some ⟨true,2,[ad s]⟩/\gg ⟨199003000,n0+1+1⟩=some ⟨true,mS.lq,dO ((List.range k).map fun i=>(qT s i).aP)⟩/\(∀j:Nat,j<k->Fk s j):=fun x1 x2 x3 x4=>⟨_,ah,k+1,rfl,ah,(by rw[x1,ay ah]),x2,x3,(all_succ nP x4)⟩
   have fy:k<s.aB.length:=ah
   have eP:=Bu fy
   have rX:=HT (qT s k).aP (VG k fy)
   have N9:=kX (qT s k).eK 1 4
   have DR:=yP (qT s k).aP ((List.range k).map fun i=>(qT s i).aP)
   rw[yn _ k]at DR
   have k9:(¬Fk s k)->¬iG s:=fun h hp=>h (hp.Xd k fy)
   generalize tY:qT s k=gl at *
   cases hb:kc gl.aP
   ·rw[hb]at rX
    (repeat(first|((repeat(revert hN;revert N;apply Pn.out));refine wk (tw @a24 (tw @ag0 (tw @ag1 (tw @a1 (tw @a3 (tw @a22 (tw @a23 (tw @hk (tw @eP (tw @cm.eq_1 @ad.eq_1)))))))))) ?_;(repeat(refine Pn.mk ?_;intro N hN)))|((try apply Or.inl);refine⟨_,au.x (rX) (sd (tw @a24 (tw @ag0 (tw @ag1 (tw @a1 (tw @a3 (tw @a22 (tw @a23 (tw @hk (tw @eP (tw @cm.eq_1 @ad.eq_1))))))))))),?_⟩;refine hN _ _ ?_;clear hN N)))
    exact bp (b:=false) (.inl rfl) (sd @Nat.zero_add) (gj (k9 fun h=>by rw[Fk,tY,hb]at h;cases h.1))
   ·rw[hb]at rX
    rcases DR with⟨F3,mj⟩|⟨j,fZ,mj,fu⟩
    ·cases dC:iV gl.eK 1 4
     ·rw[dC]at N9
      (repeat(first|((repeat(revert hN;revert N;apply Pn.out));refine wk (tw @a24 (tw @ag0 (tw @ag1 (tw @a1 (tw @a3 (tw @a22 (tw @a23 (tw @hk (tw @eP (tw @mj (tw @cm.eq_1 @ad.eq_1))))))))))) ?_;(repeat(refine Pn.mk ?_;intro N hN)))|((try apply Or.inl);refine⟨_,au.x (rX) (sd (tw @a24 (tw @ag0 (tw @ag1 (tw @a1 (tw @a3 (tw @a22 (tw @a23 (tw @hk (tw @eP (tw @mj (tw @cm.eq_1 @ad.eq_1)))))))))))),?_⟩;refine hN _ _ ?_;clear hN N)|((try apply Or.inl);refine⟨_,au.x (N9) (sd (tw @a24 (tw @ag0 (tw @ag1 (tw @a1 (tw @a3 (tw @a22 (tw @a23 (tw @hk (tw @eP (tw @mj (tw @cm.eq_1 @ad.eq_1)))))))))))),?_⟩;refine hN _ _ ?_;clear hN N)))
      exact bp (b:=false) (.inl rfl) (sd @Nat.zero_add) (gj (k9 fun h=>by rw[Fk,tY,dC]at h;cases h.2.1))
     ·rw[dC]at N9
      have qx:dO ((List.range k).map fun i=>(qT s i).aP)++[[.str gl.aP,.bool true]]=dO (List.map (fun i=>(qT s i).aP) (List.range k++[k])):=by simp[dO,tY]
      (repeat(first|((repeat(revert hN;revert N;apply Pn.out));refine wk (tw @a24 (tw @ag0 (tw @ag1 (tw @a1 (tw @a3 (tw @a22 (tw @a23 (tw @hk (tw @eP (tw @mj (tw @cm.eq_1 @ad.eq_1))))))))))) ?_;(repeat(refine Pn.mk ?_;intro N hN)))|((try apply Or.inl);refine⟨_,au.x (rX) (sd (tw @a24 (tw @ag0 (tw @ag1 (tw @a1 (tw @a3 (tw @a22 (tw @a23 (tw @hk (tw @eP (tw @mj (tw @cm.eq_1 @ad.eq_1)))))))))))),?_⟩;refine hN _ _ ?_;clear hN N)|((try apply Or.inl);refine⟨_,au.x (N9) (sd (tw @a24 (tw @ag0 (tw @ag1 (tw @a1 (tw @a3 (tw @a22 (tw @a23 (tw @hk (tw @eP (tw @mj (tw @cm.eq_1 @ad.eq_1)))))))))))),?_⟩;refine hN _ _ ?_;clear hN N)))
      refine cq ?_ ?_ ?_ (⟨by rw[tY];exact hb,by rw[tY];exact dC,fun j hj=>by rw[tY];exact F3 j hj⟩)
      all_goals simp only[go_sem, ↓reduceIte,Nat.reduceEqDiff,Nat.reduceAdd,Nat.reduceSub,Nat.reduceLeDiff,reduceCtorEq,a24,ag0,ag1,a1,a3,a22,a23,mj,qx]
    ·(repeat(first|((repeat(revert hN;revert N;apply Pn.out));refine wk (tw @a24 (tw @ag0 (tw @ag1 (tw @a1 (tw @a3 (tw @a22 (tw @a23 (tw @hk (tw @eP (tw @mj (tw @fu (tw @cm.eq_1 @ad.eq_1)))))))))))) ?_;(repeat(refine Pn.mk ?_;intro N hN)))|((try apply Or.inl);refine⟨_,au.x (rX) (sd (tw @a24 (tw @ag0 (tw @ag1 (tw @a1 (tw @a3 (tw @a22 (tw @a23 (tw @hk (tw @eP (tw @mj (tw @fu (tw @cm.eq_1 @ad.eq_1))))))))))))),?_⟩;refine hN _ _ ?_;clear hN N)))
     exact bp (b:=false) (.inl rfl) (sd @Nat.zero_add) (gj (k9 fun h=>by
      rw[Fk,tY]at h
      obtain⟨i,hi,he⟩:=List.mem_map.1 fZ
      exact h.2.2 i (List.mem_range.1 hi) he))
  ·have lj:k=s.aB.length:=ah
   (try((repeat(revert hN;revert N;apply Pn.out));refine wk (tw @a24 (tw @ag0 (tw @ag1 (tw @a1 (tw @a3 (tw @a22 (tw @a23 (tw @hk @ad.eq_1)))))))) ?_;(repeat(refine Pn.mk ?_;intro N hN))))
   refine aQ (fun n env st=>∃j:Nat,n=(s.ai.length)-j/\j<=(s.ai.length)/\env 52=.int .i64 (j:Int)/\st.get ⟨199000000,n0⟩=some ⟨true,2,[ad s]⟩/\st.get ⟨199011000,st_a.next+1⟩=some ⟨true,mS.lq,dO ((List.range j).map fun i=>(qk s i).aP)⟩/\(∀i:Nat,i<j->CT s i)/\(st_a.next<st.next)) (s.ai.length) ⟨0,ah,ah,by(try simp only[go_sem, ↓reduceIte,Nat.reduceEqDiff,Nat.reduceAdd,Nat.reduceSub,Nat.reduceLeDiff,reduceCtorEq,a24,ag0,ag1,a1,a3,a22,a23,ad,List.range_zero,List.map_nil,dO]);try rfl,by(try simp only[go_sem, ↓reduceIte,Nat.reduceEqDiff,Nat.reduceAdd,Nat.reduceSub,Nat.reduceLeDiff,reduceCtorEq,a24,ag0,ag1,a1,a3,a22,a23,ad,List.range_zero,List.map_nil,dO]);try rfl,by(try simp only[go_sem, ↓reduceIte,Nat.reduceEqDiff,Nat.reduceAdd,Nat.reduceSub,Nat.reduceLeDiff,reduceCtorEq,a24,ag0,ag1,a1,a3,a22,a23,ad,List.range_zero,List.map_nil,dO]);try rfl,fun _ h=>absurd h (Nat.not_lt_zero _),aT⟩ ?_
   rintro n_b env_b st_b ⟨j,rfl,ble,b52,bg0,bg1,bA0,bI0⟩ eI
   have b1:=eI 1 (by kernel_rfl);have b6:=eI 6 (by kernel_rfl);have Fw:=eI 50 (by kernel_rfl);have Fx:=eI 51 (by kernel_rfl)
   simp only[go_sem, ↓reduceIte,Nat.reduceEqDiff,Nat.reduceAdd,Nat.reduceSub,Nat.reduceLeDiff,reduceCtorEq,a24,ag0,ag1,a1,a3,a22,a23,ad,List.range_zero,List.map_nil,dO]at b1 b6 Fw Fx
   clear eI
   by_cases hj:(j:Int)<(s.ai.length:Int)
   ·have eZ:∀{e:Env} {gg:Rows} {nx:Nat},(e 52=.int .i64 (IntKind.i64.wrap ((j:Int)+1)))->(gg ⟨199000000,n0⟩=some ⟨true,2,[ad s]⟩)->(gg ⟨199011000,st_a.next+1⟩=some ⟨true,mS.lq,dO ((List.range (j+1)).map fun i=>(qk s i).aP)⟩)->(CT s j)->(st_a.next<nx)->∃m0,m0<(s.ai.length)-j/\∃j:Nat,m0=(s.ai.length)-j/\j<=(s.ai.length)/\e 52=.int .i64 (j:Int)/\gg ⟨199000000,n0⟩=some ⟨true,2,[ad s]⟩/\gg ⟨199011000,st_a.next+1⟩=some ⟨true,mS.lq,dO ((List.range j).map fun i=>(qk s i).aP)⟩/\(∀i:Nat,i<j->CT s i)/\(st_a.next<nx):=fun x1 x2 x3 x4 x5=>⟨_,ah,j+1,rfl,ah,(by rw[x1,ay ah]),x2,x3,(all_succ bA0 x4),x5⟩
    have ga:j<s.ai.length:=ah
    have nj:=Ck ga
    have rX:=HT (qk s j).aP (V5 j ga)
    have XT:=Qa s (qk s j).bV (zx j ga)
    have DR:=yP (qk s j).aP ((List.range j).map fun i=>(qk s i).aP)
    rw[yn _ j]at DR
    have k9:(¬CT s j)->¬iG s:=fun h hp=>h (hp.tok j ga)
    have iD:(⟨199011000,st_a.next+1⟩:Id)≠⟨199000000,n0⟩:=by simp
    generalize htd:qk s j=tl at *
    cases hb:kc tl.aP
    ·rw[hb]at rX
     (repeat(first|((repeat(revert hN;revert N;apply Pn.out));refine wk (tw @b52 (tw @bg0 (tw @bg1 (tw @b1 (tw @b6 (tw @Fw (tw @Fx (tw @hj (tw @nj (tw @bR.eq_1 @ad.eq_1)))))))))) ?_;(repeat(refine Pn.mk ?_;intro N hN)))|((try apply Or.inl);refine⟨_,au.x (rX) (sd (tw @b52 (tw @bg0 (tw @bg1 (tw @b1 (tw @b6 (tw @Fw (tw @Fx (tw @hj (tw @nj (tw @bR.eq_1 @ad.eq_1))))))))))),?_⟩;refine hN _ _ ?_;clear hN N)))
     exact bp (b:=false) (.inl rfl) (sd @Nat.zero_add) (gj (k9 fun h=>by rw[CT,htd,hb]at h;cases h.1))
    ·rw[hb]at rX
     rcases DR with⟨F3,mj⟩|⟨i,fZ,mj,fu⟩
     ·by_cases h4:(tl.bV.length:Int)=4
      ·have Bv:decide ((tl.bV.length:Int)=4)=true:=decide_eq_true h4
       cases hany:tl.bV.any fun g=> !iV g 0 s.aB.length
       ·rw[hany]at XT
        have qx:dO ((List.range j).map fun i=>(qk s i).aP)++[[.str tl.aP,.bool true]]=dO (List.map (fun i=>(qk s i).aP) (List.range j++[j])):=by simp[dO,htd]
        (repeat(first|((repeat(revert hN;revert N;apply Pn.out));refine wk (tw @b52 (tw @bg0 (tw @bg1 (tw @b1 (tw @b6 (tw @Fw (tw @Fx (tw @hj (tw @nj (tw @mj (tw @Bv (tw @bR.eq_1 @ad.eq_1)))))))))))) ?_;(repeat(refine Pn.mk ?_;intro N hN)))|((try apply Or.inl);refine⟨_,au.x (rX) (sd (tw @b52 (tw @bg0 (tw @bg1 (tw @b1 (tw @b6 (tw @Fw (tw @Fx (tw @hj (tw @nj (tw @mj (tw @Bv (tw @bR.eq_1 @ad.eq_1))))))))))))),?_⟩;refine hN _ _ ?_;clear hN N)|((try apply Or.inl);refine⟨_,au.x (XT) (sd (tw @b52 (tw @bg0 (tw @bg1 (tw @b1 (tw @b6 (tw @Fw (tw @Fx (tw @hj (tw @nj (tw @mj (tw @Bv (tw @bR.eq_1 @ad.eq_1))))))))))))),?_⟩;refine hN _ _ ?_;clear hN N)))
        refine eZ ?_ ?_ ?_ (⟨by rw[htd];exact hb,by rw[htd];omega,fun i hi=>(by rw[htd];exact F3 i hi),fun g hg=>by rw[htd]at hg;have:=List.any_eq_false.1 hany g hg;simpa using this⟩) aT
        all_goals simp only[go_sem, ↓reduceIte,Nat.reduceEqDiff,Nat.reduceAdd,Nat.reduceSub,Nat.reduceLeDiff,reduceCtorEq,b52,bg0,bg1,b1,b6,Fw,Fx,mj,qx]
       ·rw[hany]at XT
        (repeat(first|((repeat(revert hN;revert N;apply Pn.out));refine wk (tw @b52 (tw @bg0 (tw @bg1 (tw @b1 (tw @b6 (tw @Fw (tw @Fx (tw @hj (tw @nj (tw @mj (tw @Bv (tw @bR.eq_1 @ad.eq_1)))))))))))) ?_;(repeat(refine Pn.mk ?_;intro N hN)))|((try apply Or.inl);refine⟨_,au.x (rX) (sd (tw @b52 (tw @bg0 (tw @bg1 (tw @b1 (tw @b6 (tw @Fw (tw @Fx (tw @hj (tw @nj (tw @mj (tw @Bv (tw @bR.eq_1 @ad.eq_1))))))))))))),?_⟩;refine hN _ _ ?_;clear hN N)|((try apply Or.inl);refine⟨_,au.x (XT) (sd (tw @b52 (tw @bg0 (tw @bg1 (tw @b1 (tw @b6 (tw @Fw (tw @Fx (tw @hj (tw @nj (tw @mj (tw @Bv (tw @bR.eq_1 @ad.eq_1))))))))))))),?_⟩;refine hN _ _ ?_;clear hN N)))
        exact bp (b:=false) (.inl rfl) (sd @Nat.zero_add) (gj (k9 fun h=>by
         rw[CT,htd]at h
         obtain⟨g,hg,hq⟩:=List.any_eq_true.1 hany
         have:=h.2.2.2 g hg
         rw[this]at hq;cases hq))
      ·have Bv:decide ((tl.bV.length:Int)=4)=false:=decide_eq_false h4
       (repeat(first|((repeat(revert hN;revert N;apply Pn.out));refine wk (tw @b52 (tw @bg0 (tw @bg1 (tw @b1 (tw @b6 (tw @Fw (tw @Fx (tw @hj (tw @nj (tw @mj (tw @Bv (tw @bR.eq_1 @ad.eq_1)))))))))))) ?_;(repeat(refine Pn.mk ?_;intro N hN)))|((try apply Or.inl);refine⟨_,au.x (rX) (sd (tw @b52 (tw @bg0 (tw @bg1 (tw @b1 (tw @b6 (tw @Fw (tw @Fx (tw @hj (tw @nj (tw @mj (tw @Bv (tw @bR.eq_1 @ad.eq_1))))))))))))),?_⟩;refine hN _ _ ?_;clear hN N)))
       exact bp (b:=false) (.inl rfl) (sd @Nat.zero_add) (gj (k9 fun h=>by rw[CT,htd]at h;have:=h.2.1;omega))
     ·(repeat(first|((repeat(revert hN;revert N;apply Pn.out));refine wk (tw @b52 (tw @bg0 (tw @bg1 (tw @b1 (tw @b6 (tw @Fw (tw @Fx (tw @hj (tw @nj (tw @mj (tw @fu (tw @bR.eq_1 @ad.eq_1)))))))))))) ?_;(repeat(refine Pn.mk ?_;intro N hN)))|((try apply Or.inl);refine⟨_,au.x (rX) (sd (tw @b52 (tw @bg0 (tw @bg1 (tw @b1 (tw @b6 (tw @Fw (tw @Fx (tw @hj (tw @nj (tw @mj (tw @fu (tw @bR.eq_1 @ad.eq_1))))))))))))),?_⟩;refine hN _ _ ?_;clear hN N)))
      exact bp (b:=false) (.inl rfl) (sd @Nat.zero_add) (gj (k9 fun h=>by
       rw[CT,htd]at h
       obtain⟨i,hi,he⟩:=List.mem_map.1 fZ
       exact h.2.2.1 i (List.mem_range.1 hi) he))
   ·(try((repeat(revert hN;revert N;apply Pn.out));refine wk (tw @b52 (tw @bg0 (tw @bg1 (tw @b1 (tw @b6 (tw @Fw (tw @Fx (tw @hj @ad.eq_1)))))))) ?_;(repeat(refine Pn.mk ?_;intro N hN))))
    exact bp (b:=true) (.inl rfl) (sd @Nat.zero_add) (EI ⟨ah,ah,ah,fun i hi=>nP i ah,fun i hi=>bA0 i ah⟩)
 ·rw[Bool.not_eq_true]at h2
  rw[h2]at hw
  (repeat(first|((repeat(revert hN;revert N;apply Pn.out));refine wk (tw @ad.eq_1 @h1) ?_;(repeat(refine Pn.mk ?_;intro N hN)))|((try apply Or.inl);refine⟨_,au.x (hw) (sd (tw @ad.eq_1 @h1)),?_⟩;refine hN _ _ ?_;clear hN N)))
  exact bp (b:=false) (.inl rfl) (sd @Nat.zero_add) (gj fun h=>by
   have h3:=h.some
   have h4:=h.wg
   rw[jm ⟨ah,ah⟩]at h2;cases h2)
theorem wU {α:Type} {p:α->Bool} {xs:List α} {k:Nat} (hk:k<xs.length) (h1:p xs[k]=true) (h2:∀j (h:j<xs.length),j<k->p xs[j]=false):k6 p xs=k:=by
 have:xs.findIdx p=k:=by rw[List.findIdx_eq hk];exact⟨h1,fun j hj=>h2 j ah hj⟩
 rw[k6,this,if_pos hk]
theorem zY {α:Type} {p:α->Bool} {xs:List α} (h:∀j (h:j<xs.length),p xs[j]=false):k6 p xs= -1:=by
 rw[k6,if_neg]
 rw[List.findIdx_lt_length]
 rintro⟨x,hx,SL⟩
 obtain⟨j,hj,rfl⟩:=List.getElem_of_mem hx
 rw[h j hj]at SL;cases SL
theorem Bt {s:ax} {i:Nat} (h:i<s.aB.length):qT s i=s.aB[i]:=by simp[qT,List.getD_eq_getElem?_getD,h]
theorem Cj {s:ax} {i:Nat} (h:i<s.ai.length):qk s i=s.ai[i]:=by simp[qk,List.getD_eq_getElem?_getD,h]
def NQ (s:ax) (n:ByteArray):Int:=k6 (fun g:gh=>decide (g.aP=n)) s.aB
def Re (s:ax) (n:ByteArray):Int:=k6 (fun t:fb=>decide (t.aP=n)) s.ai
theorem Jq (s:ax) (nm:ByteArray):au Tryz.prog 238 [.dn (ad s),.str nm] (.int .i64 (NQ s nm+1)):=by
 refine au.body eF rfl fun hl n0=>?_
 have hlen:s.aB.length<=9223372036854775807:=by
  have h1:=(hl (.dn (ad s)) (by simp)).D8 (a:=.sl (s.aB.map cm)) (by simp[ad])
  simpa using h1.len
 clear hl
 (try((repeat(revert hN;revert N;apply Pn.out));refine wk @ad.eq_1 ?_;(repeat(refine Pn.mk ?_;intro N hN))))
 refine aQ (fun n env st=>∃k:Nat,n=(s.aB.length)-k/\k<=(s.aB.length)/\env 5=.int .i64 (k:Int)/\(∀j:Nat,j<k->∀h:j<s.aB.length,decide (s.aB[j].aP=nm)=false)) (s.aB.length) ⟨0,ah,ah,sl @ad.eq_1,fun _ h=>absurd h (Nat.not_lt_zero _)⟩ ?_
 rintro n_a env_a st_a ⟨k,rfl,ale,a5,nP⟩ dv
 have a0:=dv 0 (by kernel_rfl);have a1:=dv 1 (by kernel_rfl)
 simp only[go_sem, ↓reduceIte,Nat.reduceEqDiff,Nat.reduceAdd,Nat.reduceSub,Nat.reduceLeDiff,reduceCtorEq,ad]at a0 a1
 clear dv
 by_cases hk:(k:Int)<(s.aB.length:Int)
 ·have cq:∀{e:Env},(e 5=.int .i64 (IntKind.i64.wrap ((k:Int)+1)))->(∀h:k<s.aB.length,decide (s.aB[k].aP=nm)=false)->∃m0,m0<(s.aB.length)-k/\∃k:Nat,m0=(s.aB.length)-k/\k<=(s.aB.length)/\e 5=.int .i64 (k:Int)/\(∀j:Nat,j<k->∀h:j<s.aB.length,decide (s.aB[j].aP=nm)=false):=fun x1 x2=>⟨_,ah,k+1,rfl,ah,(by rw[x1,ay ah]),(all_succ nP x2)⟩
  have fy:k<s.aB.length:=ah
  have eP:=Bu fy
  have e:=Bt fy
  cases hd:decide ((qT s k).aP=nm)
  ·have Xz:=of_decide_eq_false hd
   (try((repeat(revert hN;revert N;apply Pn.out));refine wk (tw @a5 (tw @a0 (tw @a1 (tw @hk (tw @eP (tw @Xz (tw @hd (tw @cm.eq_1 @ad.eq_1)))))))) ?_;(repeat(refine Pn.mk ?_;intro N hN))))
   exact cq (sd (tw @a5 (tw @a0 @a1))) (fun _=>by rw[e]at hd;exact hd)
  ·have Xz:=of_decide_eq_true hd
   have hw:IntKind.i64.wrap ((k:Int)+1)=(k:Int)+1:=bq ah
   (try((repeat(revert hN;revert N;apply Pn.out));refine wk (tw @a5 (tw @a0 (tw @a1 (tw @hk (tw @eP (tw @hd (tw @hw (tw @cm.eq_1 @ad.eq_1)))))))) ?_;(repeat(refine Pn.mk ?_;intro N hN))))
   exact da (b:=(k:Int)+1) (.inl rfl) (sd @Nat.zero_add) (by rw[NQ,wU fy (by rw[e]at hd;exact hd) fun j h hj=>nP j hj h])
 ·(try((repeat(revert hN;revert N;apply Pn.out));refine wk (tw @a5 (tw @a0 (tw @a1 (tw @hk @ad.eq_1)))) ?_;(repeat(refine Pn.mk ?_;intro N hN))))
  exact da (b:=0) (.inl rfl) (sd @Nat.zero_add) (by rw[NQ,zY fun j h=>nP j ah h];rfl)
theorem Jr (s:ax) (nm:ByteArray):au Tryz.prog 239 [.dn (ad s),.str nm] (.int .i64 (Re s nm)):=by
 refine au.body eF rfl fun hl n0=>?_
 have hlen:s.ai.length<=9223372036854775807:=by
  have h1:=(hl (.dn (ad s)) (by simp)).D8 (a:=.sl (s.ai.map bR)) (by simp[ad])
  simpa using h1.len
 clear hl
 (try((repeat(revert hN;revert N;apply Pn.out));refine wk @ad.eq_1 ?_;(repeat(refine Pn.mk ?_;intro N hN))))
 refine aQ (fun n env st=>∃k:Nat,n=(s.ai.length)-k/\k<=(s.ai.length)/\env 5=.int .i64 (k:Int)/\(∀j:Nat,j<k->∀h:j<s.ai.length,decide (s.ai[j].aP=nm)=false)) (s.ai.length) ⟨0,ah,ah,sl @ad.eq_1,fun _ h=>absurd h (Nat.not_lt_zero _)⟩ ?_
 rintro n_a env_a st_a ⟨k,rfl,ale,a5,nP⟩ dv
 have a0:=dv 0 (by kernel_rfl);have a1:=dv 1 (by kernel_rfl)
 simp only[go_sem, ↓reduceIte,Nat.reduceEqDiff,Nat.reduceAdd,Nat.reduceSub,Nat.reduceLeDiff,reduceCtorEq,ad]at a0 a1
 clear dv
 by_cases hk:(k:Int)<(s.ai.length:Int)
 ·have cq:∀{e:Env},(e 5=.int .i64 (IntKind.i64.wrap ((k:Int)+1)))->(∀h:k<s.ai.length,decide (s.ai[k].aP=nm)=false)->∃m0,m0<(s.ai.length)-k/\∃k:Nat,m0=(s.ai.length)-k/\k<=(s.ai.length)/\e 5=.int .i64 (k:Int)/\(∀j:Nat,j<k->∀h:j<s.ai.length,decide (s.ai[j].aP=nm)=false):=fun x1 x2=>⟨_,ah,k+1,rfl,ah,(by rw[x1,ay ah]),(all_succ nP x2)⟩
  have fy:k<s.ai.length:=ah
  have eP:=Ck fy
  have e:=Cj fy
  cases hd:decide ((qk s k).aP=nm)
  ·(try((repeat(revert hN;revert N;apply Pn.out));refine wk (tw @a5 (tw @a0 (tw @a1 (tw @hk (tw @eP (tw @hd (tw @bR.eq_1 @ad.eq_1))))))) ?_;(repeat(refine Pn.mk ?_;intro N hN))))
   exact cq (sd (tw @a5 (tw @a0 @a1))) (fun _=>by rw[e]at hd;exact hd)
  ·(try((repeat(revert hN;revert N;apply Pn.out));refine wk (tw @a5 (tw @a0 (tw @a1 (tw @hk (tw @eP (tw @hd (tw @bR.eq_1 @ad.eq_1))))))) ?_;(repeat(refine Pn.mk ?_;intro N hN))))
   exact da (b:=(k:Int)) (.inl rfl) (sd @Nat.zero_add) (by rw[Re,wU fy (by rw[e]at hd;exact hd) fun j h hj=>nP j hj h])
 ·(try((repeat(revert hN;revert N;apply Pn.out));refine wk (tw @a5 (tw @a0 (tw @a1 (tw @hk @ad.eq_1)))) ?_;(repeat(refine Pn.mk ?_;intro N hN))))
  exact da (b:=-1) (.inl rfl) (sd @Nat.zero_add) (by rw[Re,zY fun j h=>nP j ah h])
theorem R0 {s:ax} {i:Nat} (h:i<s.aB.length):NQ s (qT s i).aP=i↔∀j,j<i->(qT s j).aP≠(qT s i).aP:=by
 constructor
 ·intro he j hj hc
  have gY:j<s.aB.length:=ah
  have:s.aB.findIdx (fun g:gh=>decide (g.aP=(qT s i).aP))<=j:=by
   rcases Nat.lt_or_ge j (s.aB.findIdx fun g:gh=>decide (g.aP=(qT s i).aP))with ei|o9
   ·have:=List.not_of_lt_findIdx ei
    rw[<-Bt gY]at this
    simp[hc]at this
   ·exact o9
  unfold NQ k6 at he
  split at he<;>omega
 ·intro hd
  exact wU h (by rw[<-Bt h];simp) fun j gY hj=>by rw[<-Bt gY];simpa using hd j hj
theorem Tx {s:ax} {i:Nat} (h:i<s.ai.length):Re s (qk s i).aP=i↔∀j,j<i->(qk s j).aP≠(qk s i).aP:=by
 constructor
 ·intro he j hj hc
  have gY:j<s.ai.length:=ah
  have:s.ai.findIdx (fun g:fb=>decide (g.aP=(qk s i).aP))<=j:=by
   rcases Nat.lt_or_ge j (s.ai.findIdx fun g:fb=>decide (g.aP=(qk s i).aP))with ei|o9
   ·have:=List.not_of_lt_findIdx ei
    rw[<-Cj gY]at this
    simp[hc]at this
   ·exact o9
  unfold Re k6 at he
  split at he<;>omega
 ·intro hd
  exact wU h (by rw[<-Cj h];simp) fun j gY hj=>by rw[<-Cj gY];simpa using hd j hj
theorem Pu (s:ax) (hn:iq s) (hg:s.aB.length<=1048576) (ht:s.ai.length<=1048576):au Tryz.prog 167 [.dn (ad s)] (.bool (tH s)):=by
 refine au.body eF rfl fun hl n0=>?_
 clear hl
 have VG:∀i,i<s.aB.length->(qT s i).aP.size<=9223372036854775807:=fun i hi=>hn.1 _ (by simp[qT,List.getD_eq_getElem?_getD,hi])
 have V5:∀i,i<s.ai.length->(qk s i).aP.size<=9223372036854775807:=fun i hi=>hn.2 _ (by simp[qk,List.getD_eq_getElem?_getD,hi])
 by_cases h1:(200:Int)<(s.aB.length:Int)
 ·(try((repeat(revert hN;revert N;apply Pn.out));refine wk (tw @ad.eq_1 @h1) ?_;(repeat(refine Pn.mk ?_;intro N hN))))
  exact bp (b:=false) (.inl rfl) (sd @Nat.zero_add) (gj fun h=>by have:=h.vG;omega)
 by_cases h2:(s.ai.length:Int)<1
 ·(try((repeat(revert hN;revert N;apply Pn.out));refine wk (tw @ad.eq_1 (tw @h1 @h2)) ?_;(repeat(refine Pn.mk ?_;intro N hN))))
  exact bp (b:=false) (.inl rfl) (sd @Nat.zero_add) (gj fun h=>by have:=h.some;omega)
 by_cases h3:(160:Int)<(s.ai.length:Int)
 ·(try((repeat(revert hN;revert N;apply Pn.out));refine wk (tw @ad.eq_1 (tw @h1 (tw @h2 @h3))) ?_;(repeat(refine Pn.mk ?_;intro N hN))))
  exact bp (b:=false) (.inl rfl) (sd @Nat.zero_add) (gj fun h=>by have:=h.wg;omega)
 (try((repeat(revert hN;revert N;apply Pn.out));refine wk (tw @ad.eq_1 (tw @h1 (tw @h2 @h3))) ?_;(repeat(refine Pn.mk ?_;intro N hN))))
 refine aQ (fun n env st=>∃k:Nat,n=(s.aB.length)-k/\k<=(s.aB.length)/\env 3=.int .i64 (k:Int)/\(∀j:Nat,j<k->Fk s j)) (s.aB.length) ⟨0,ah,ah,sl @ad.eq_1,fun _ h=>absurd h (Nat.not_lt_zero _)⟩ ?_
 rintro n_a env_a st_a ⟨k,rfl,ale,a3,nP⟩ dv
 have a0:=dv 0 (by kernel_rfl)
 simp only[go_sem, ↓reduceIte,Nat.reduceEqDiff,Nat.reduceAdd,Nat.reduceSub,Nat.reduceLeDiff,reduceCtorEq,ad]at a0
 clear dv
 by_cases hk:(k:Int)<(s.aB.length:Int)
 ·have cq:∀{e:Env},(e 3=.int .i64 (IntKind.i64.wrap ((k:Int)+1)))->(Fk s k)->∃m0,m0<(s.aB.length)-k/\∃k:Nat,m0=(s.aB.length)-k/\k<=(s.aB.length)/\e 3=.int .i64 (k:Int)/\(∀j:Nat,j<k->Fk s j):=fun x1 x2=>⟨_,ah,k+1,rfl,ah,(by rw[x1,ay ah]),(all_succ nP x2)⟩
  have fy:k<s.aB.length:=ah
  have eP:=Bu fy
  have rX:=H9 (qT s k).aP (VG k fy)
  have N9:=lD (qT s k).eK 1 4
  have E7:=Jq s (qT s k).aP
  have s7:=R0 fy
  have k9:(¬Fk s k)->¬iG s:=fun h hp=>h (hp.Xd k fy)
  have hw:IntKind.i64.wrap ((k:Int)+1)=(k:Int)+1:=bq ah
  generalize tY:qT s k=gl at *
  cases hb:kc gl.aP
  ·rw[hb]at rX
   (repeat(first|((repeat(revert hN;revert N;apply Pn.out));refine wk (tw @a3 (tw @a0 (tw @hk (tw @eP (tw @cm.eq_1 @ad.eq_1))))) ?_;(repeat(refine Pn.mk ?_;intro N hN)))|((try apply Or.inl);refine⟨_,au.x (rX) (sd (tw @a3 (tw @a0 (tw @hk (tw @eP (tw @cm.eq_1 @ad.eq_1)))))),?_⟩;refine hN _ _ ?_;clear hN N)))
   exact bp (b:=false) (.inl rfl) (sd @Nat.zero_add) (gj (k9 fun h=>by rw[Fk,tY,hb]at h;cases h.1))
  rw[hb]at rX
  cases dC:iV gl.eK 1 4
  ·rw[dC]at N9
   (repeat(first|((repeat(revert hN;revert N;apply Pn.out));refine wk (tw @a3 (tw @a0 (tw @hk (tw @eP (tw @cm.eq_1 @ad.eq_1))))) ?_;(repeat(refine Pn.mk ?_;intro N hN)))|((try apply Or.inl);refine⟨_,au.x (rX) (sd (tw @a3 (tw @a0 (tw @hk (tw @eP (tw @cm.eq_1 @ad.eq_1)))))),?_⟩;refine hN _ _ ?_;clear hN N)|((try apply Or.inl);refine⟨_,au.x (N9) (sd (tw @a3 (tw @a0 (tw @hk (tw @eP (tw @cm.eq_1 @ad.eq_1)))))),?_⟩;refine hN _ _ ?_;clear hN N)))
   exact bp (b:=false) (.inl rfl) (sd @Nat.zero_add) (gj (k9 fun h=>by rw[Fk,tY,dC]at h;cases h.2.1))
  rw[dC]at N9
  rw[ad]at E7
  by_cases hq:NQ s gl.aP=(k:Int)
  ·have hd:decide (NQ s gl.aP+1=(k:Int)+1)=true:=decide_eq_true ah
   have nw:decide (NQ s gl.aP=(k:Int))=true:=decide_eq_true hq
   (repeat(first|((repeat(revert hN;revert N;apply Pn.out));refine wk (tw @a3 (tw @a0 (tw @hk (tw @eP (tw @hw (tw @hd (tw @nw (tw @cm.eq_1 @ad.eq_1)))))))) ?_;(repeat(refine Pn.mk ?_;intro N hN)))|((try apply Or.inl);refine⟨_,au.x (rX) (sd (tw @a3 (tw @a0 (tw @hk (tw @eP (tw @hw (tw @hd (tw @nw (tw @cm.eq_1 @ad.eq_1))))))))),?_⟩;refine hN _ _ ?_;clear hN N)|((try apply Or.inl);refine⟨_,au.x (N9) (sd (tw @a3 (tw @a0 (tw @hk (tw @eP (tw @hw (tw @hd (tw @nw (tw @cm.eq_1 @ad.eq_1))))))))),?_⟩;refine hN _ _ ?_;clear hN N)|((try apply Or.inl);refine⟨_,au.x (E7) (sd (tw @a3 (tw @a0 (tw @hk (tw @eP (tw @hw (tw @hd (tw @nw (tw @cm.eq_1 @ad.eq_1))))))))),?_⟩;refine hN _ _ ?_;clear hN N)))
   exact cq (sd (tw @a3 (tw @a0 @hw))) (⟨by rw[tY];exact hb,by rw[tY];exact dC,fun j hj=>by rw[tY];exact s7.1 hq j hj⟩)
  ·have hd:decide (NQ s gl.aP+1=(k:Int)+1)=false:=decide_eq_false ah
   have nw:decide (NQ s gl.aP=(k:Int))=false:=decide_eq_false hq
   (repeat(first|((repeat(revert hN;revert N;apply Pn.out));refine wk (tw @a3 (tw @a0 (tw @hk (tw @eP (tw @hw (tw @hd (tw @nw (tw @cm.eq_1 @ad.eq_1)))))))) ?_;(repeat(refine Pn.mk ?_;intro N hN)))|((try apply Or.inl);refine⟨_,au.x (rX) (sd (tw @a3 (tw @a0 (tw @hk (tw @eP (tw @hw (tw @hd (tw @nw (tw @cm.eq_1 @ad.eq_1))))))))),?_⟩;refine hN _ _ ?_;clear hN N)|((try apply Or.inl);refine⟨_,au.x (N9) (sd (tw @a3 (tw @a0 (tw @hk (tw @eP (tw @hw (tw @hd (tw @nw (tw @cm.eq_1 @ad.eq_1))))))))),?_⟩;refine hN _ _ ?_;clear hN N)|((try apply Or.inl);refine⟨_,au.x (E7) (sd (tw @a3 (tw @a0 (tw @hk (tw @eP (tw @hw (tw @hd (tw @nw (tw @cm.eq_1 @ad.eq_1))))))))),?_⟩;refine hN _ _ ?_;clear hN N)))
   exact bp (b:=false) (.inl rfl) (sd @Nat.zero_add) (gj (k9 fun h=>by
    rw[Fk,tY]at h
    exact hq (s7.2 h.2.2)))
 ·have lj:k=s.aB.length:=ah
  (try((repeat(revert hN;revert N;apply Pn.out));refine wk (tw @a3 (tw @a0 (tw @hk @ad.eq_1))) ?_;(repeat(refine Pn.mk ?_;intro N hN))))
  refine aQ (fun n env st=>∃j:Nat,n=(s.ai.length)-j/\j<=(s.ai.length)/\env 5=.int .i64 (j:Int)/\(∀i:Nat,i<j->CT s i)) (s.ai.length) ⟨0,ah,ah,sl (tw @a3 (tw @a0 @ad.eq_1)),fun _ h=>absurd h (Nat.not_lt_zero _)⟩ ?_
  rintro n_b env_b st_b ⟨j,rfl,ble,b5,bA0⟩ eI
  have b0:=eI 0 (by kernel_rfl)
  simp only[go_sem, ↓reduceIte,Nat.reduceEqDiff,Nat.reduceAdd,Nat.reduceSub,Nat.reduceLeDiff,reduceCtorEq,a3,a0,ad]at b0
  clear eI
  by_cases hj:(j:Int)<(s.ai.length:Int)
  ·have eZ:∀{e:Env},(e 5=.int .i64 (IntKind.i64.wrap ((j:Int)+1)))->(CT s j)->∃m0,m0<(s.ai.length)-j/\∃j:Nat,m0=(s.ai.length)-j/\j<=(s.ai.length)/\e 5=.int .i64 (j:Int)/\(∀i:Nat,i<j->CT s i):=fun x1 x2=>⟨_,ah,j+1,rfl,ah,(by rw[x1,ay ah]),(all_succ bA0 x2)⟩
   have ga:j<s.ai.length:=ah
   have nj:=Ck ga
   have rX:=H9 (qk s j).aP (V5 j ga)
   have E7:=Jr s (qk s j).aP
   have s7:=Tx ga
   have k9:(¬CT s j)->¬iG s:=fun h hp=>h (hp.tok j ga)
   generalize htd:qk s j=tl at *
   cases hb:kc tl.aP
   ·rw[hb]at rX
    (repeat(first|((repeat(revert hN;revert N;apply Pn.out));refine wk (tw @b5 (tw @b0 (tw @hj (tw @nj (tw @bR.eq_1 @ad.eq_1))))) ?_;(repeat(refine Pn.mk ?_;intro N hN)))|((try apply Or.inl);refine⟨_,au.x (rX) (sd (tw @b5 (tw @b0 (tw @hj (tw @nj (tw @bR.eq_1 @ad.eq_1)))))),?_⟩;refine hN _ _ ?_;clear hN N)))
    exact bp (b:=false) (.inl rfl) (sd @Nat.zero_add) (gj (k9 fun h=>by rw[CT,htd,hb]at h;cases h.1))
   rw[hb]at rX
   by_cases h4:(tl.bV.length:Int)=4
   ·have Bv:decide ((tl.bV.length:Int)=4)=true:=decide_eq_true h4
    rw[ad]at E7
    by_cases hq:Re s tl.aP=(j:Int)
    ·have hd:decide (Re s tl.aP=(j:Int))=true:=decide_eq_true hq
     (repeat(first|((repeat(revert hN;revert N;apply Pn.out));refine wk (tw @b5 (tw @b0 (tw @hj (tw @nj (tw @Bv (tw @hd (tw @bR.eq_1 @ad.eq_1))))))) ?_;(repeat(refine Pn.mk ?_;intro N hN)))|((try apply Or.inl);refine⟨_,au.x (rX) (sd (tw @b5 (tw @b0 (tw @hj (tw @nj (tw @Bv (tw @hd (tw @bR.eq_1 @ad.eq_1)))))))),?_⟩;refine hN _ _ ?_;clear hN N)|((try apply Or.inl);refine⟨_,au.x (E7) (sd (tw @b5 (tw @b0 (tw @hj (tw @nj (tw @Bv (tw @hd (tw @bR.eq_1 @ad.eq_1)))))))),?_⟩;refine hN _ _ ?_;clear hN N)))
     refine aQ (fun n env st=>∃i:Nat,n=(4)-i/\i<=(4)/\env 7=.int .i64 (i:Int)/\st.get ⟨167012007,st_b.next+1⟩=some ⟨true,2,[bR tl]⟩/\(∀x:Nat,x<i->iV (tl.bV.getD x 0) 0 s.aB.length=true)) (4) ⟨0,ah,ah,sl (tw @b5 (tw @b0 (tw @bR.eq_1 @ad.eq_1))),sl (tw @b5 (tw @b0 (tw @bR.eq_1 @ad.eq_1))),fun _ h=>absurd h (Nat.not_lt_zero _)⟩ ?_
     rintro n_c env_c st_c ⟨i,rfl,cle,c7,cg0,cA0⟩ jf
     have c0:=jf 0 (by kernel_rfl);have c5:=jf 5 (by kernel_rfl);have c6:=jf 6 (by kernel_rfl)
     simp only[go_sem, ↓reduceIte,Nat.reduceEqDiff,Nat.reduceAdd,Nat.reduceSub,Nat.reduceLeDiff,reduceCtorEq,b5,b0,bR,ad]at c0 c5 c6
     clear jf
     by_cases hi:(i:Int)<4
     ·have hZ:∀{e:Env} {gg:Rows},(e 7=.int .i64 (IntKind.i64.wrap ((i:Int)+1)))->(gg ⟨167012007,st_b.next+1⟩=some ⟨true,2,[bR tl]⟩)->(iV (tl.bV.getD i 0) 0 s.aB.length=true)->∃m0,m0<(4)-i/\∃i:Nat,m0=(4)-i/\i<=(4)/\e 7=.int .i64 (i:Int)/\gg ⟨167012007,st_b.next+1⟩=some ⟨true,2,[bR tl]⟩/\(∀x:Nat,x<i->iV (tl.bV.getD x 0) 0 s.aB.length=true):=fun x1 x2 x3=>⟨_,ah,i+1,rfl,ah,(by rw[x1,ay ah]),x2,(all_succ cA0 x3)⟩
      have fZ:i<tl.bV.length:=ah
      have jF:(tl.bV.map aU)[i]? =some (aU (tl.bV.getD i 0)):=getD_map aU fZ
      have nY:tl.bV.getD i 0∈tl.bV:=by rw[List.getD_eq_getElem?_getD,List.getElem?_eq_getElem fZ];exact List.getElem_mem fZ
      have LW:=lD (tl.bV.getD i 0) 0 s.aB.length
      generalize Sv:tl.bV.getD i 0=gv at *
      cases hv:iV gv 0 s.aB.length
      ·rw[hv]at LW
       (repeat(first|((repeat(revert hN;revert N;apply Pn.out));refine wk (tw @c7 (tw @cg0 (tw @c0 (tw @c5 (tw @c6 (tw @hi (tw @jF (tw @aU.eq_1 (tw @bR.eq_1 @ad.eq_1))))))))) ?_;(repeat(refine Pn.mk ?_;intro N hN)))|((try apply Or.inl);refine⟨_,au.x (LW) (sd (tw @c7 (tw @cg0 (tw @c0 (tw @c5 (tw @c6 (tw @hi (tw @jF (tw @aU.eq_1 (tw @bR.eq_1 @ad.eq_1)))))))))),?_⟩;refine hN _ _ ?_;clear hN N)))
       exact bp (b:=false) (.inl rfl) (sd @Nat.zero_add) (gj (k9 fun h=>by
        rw[CT,htd]at h
        have:=h.2.2.2 gv nY
        rw[hv]at this;cases this))
      ·rw[hv]at LW
       (repeat(first|((repeat(revert hN;revert N;apply Pn.out));refine wk (tw @c7 (tw @cg0 (tw @c0 (tw @c5 (tw @c6 (tw @hi (tw @jF (tw @aU.eq_1 (tw @bR.eq_1 @ad.eq_1))))))))) ?_;(repeat(refine Pn.mk ?_;intro N hN)))|((try apply Or.inl);refine⟨_,au.x (LW) (sd (tw @c7 (tw @cg0 (tw @c0 (tw @c5 (tw @c6 (tw @hi (tw @jF (tw @aU.eq_1 (tw @bR.eq_1 @ad.eq_1)))))))))),?_⟩;refine hN _ _ ?_;clear hN N)))
       refine hZ ?_ ?_ (hv)
       all_goals simp only[go_sem, ↓reduceIte,Nat.reduceEqDiff,Nat.reduceAdd,Nat.reduceSub,Nat.reduceLeDiff,reduceCtorEq,c7,cg0,c0,c5,c6]
     ·have hi4:i=4:=ah
      (try((repeat(revert hN;revert N;apply Pn.out));refine wk (tw @c7 (tw @cg0 (tw @c0 (tw @c5 (tw @c6 (tw @hi (tw @bR.eq_1 @ad.eq_1))))))) ?_;(repeat(refine Pn.mk ?_;intro N hN))))
      exact eZ (sd (tw @b5 (tw @b0 (tw @c7 (tw @cg0 (tw @c0 (tw @c5 @c6))))))) (⟨by rw[htd];exact hb,by rw[htd];omega,fun x hx=>(by rw[htd];exact s7.1 hq x hx),fun g hg=>by
       rw[htd]at hg
       obtain⟨x,hx,rfl⟩:=List.getElem_of_mem hg
       have:=cA0 x ah
       rwa [List.getD_eq_getElem?_getD,List.getElem?_eq_getElem hx]at this⟩)
    ·have hd:decide (Re s tl.aP=(j:Int))=false:=decide_eq_false hq
     (repeat(first|((repeat(revert hN;revert N;apply Pn.out));refine wk (tw @b5 (tw @b0 (tw @hj (tw @nj (tw @Bv (tw @hd (tw @bR.eq_1 @ad.eq_1))))))) ?_;(repeat(refine Pn.mk ?_;intro N hN)))|((try apply Or.inl);refine⟨_,au.x (rX) (sd (tw @b5 (tw @b0 (tw @hj (tw @nj (tw @Bv (tw @hd (tw @bR.eq_1 @ad.eq_1)))))))),?_⟩;refine hN _ _ ?_;clear hN N)|((try apply Or.inl);refine⟨_,au.x (E7) (sd (tw @b5 (tw @b0 (tw @hj (tw @nj (tw @Bv (tw @hd (tw @bR.eq_1 @ad.eq_1)))))))),?_⟩;refine hN _ _ ?_;clear hN N)))
     exact bp (b:=false) (.inl rfl) (sd @Nat.zero_add) (gj (k9 fun h=>by
      rw[CT,htd]at h
      exact hq (s7.2 h.2.2.1)))
   ·have Bv:decide ((tl.bV.length:Int)=4)=false:=decide_eq_false h4
    (repeat(first|((repeat(revert hN;revert N;apply Pn.out));refine wk (tw @b5 (tw @b0 (tw @hj (tw @nj (tw @Bv (tw @bR.eq_1 @ad.eq_1)))))) ?_;(repeat(refine Pn.mk ?_;intro N hN)))|((try apply Or.inl);refine⟨_,au.x (rX) (sd (tw @b5 (tw @b0 (tw @hj (tw @nj (tw @Bv (tw @bR.eq_1 @ad.eq_1))))))),?_⟩;refine hN _ _ ?_;clear hN N)))
    exact bp (b:=false) (.inl rfl) (sd @Nat.zero_add) (gj (k9 fun h=>by rw[CT,htd]at h;have:=h.2.1;omega))
  ·(try((repeat(revert hN;revert N;apply Pn.out));refine wk (tw @b5 (tw @b0 (tw @hj @ad.eq_1))) ?_;(repeat(refine Pn.mk ?_;intro N hN))))
   exact bp (b:=true) (.inl rfl) (sd @Nat.zero_add) (EI ⟨ah,ah,ah,fun i hi=>nP i ah,fun i hi=>bA0 i ah⟩)
end Go.Proofs.YtgoljkjaameagaaGreat.V

namespace Go.Proofs.YtgoljkjaameagaaGreat.V
def iS (a b:aq):Bool:=decide (a.ez<b.ez)||(decide (a.ez=b.ez)&&decide (a.eE<b.eE))
theorem w8 {a b:aq}:iS a b=true↔a.ez<b.ez∨(a.ez=b.ez/\a.eE<b.eE):=by simp[iS]
theorem nA {a b:aq}:iS a b=false↔¬(a.ez<b.ez∨(a.ez=b.ez/\a.eE<b.eE)):=by rw[<-w8,Bool.not_eq_true]
theorem yy {a b:aq} (h1:a.eE=b.eE) (h2:a.ez=b.ez):a=b:=by cases a;cases b;simp_all
theorem iK {a b c:aq} (h:iS a b=true) (k:iS b c=true):iS a c=true:=by rw[w8]at *;omega
theorem iM {a:aq}:iS a a=false:=by rw[nA];omega
theorem ya {a b:aq} (h:iS a b=true):iS b a=false:=by rw[w8]at h;rw[nA];omega
theorem qz {a b:aq} (h:iS a b=false) (iD:a≠b):iS b a=true:=by
 rw[nA]at h;rw[w8]
 by_cases hy:a.ez=b.ez
 ·by_cases hx:a.eE=b.eE
  ·exact absurd (yy hx hy) iD
  ·omega
 ·omega
def sR (a b:Int):Int:=if a<b then -1 else if b<a then 1 else 0
def PR (a b:Int):Int:=if a=0 then b else a
def pD (a b:aq):Int:=PR (sR a.ez b.ez) (sR a.eE b.eE)
theorem mB (a b:aq):decide (pD a b<0)=iS a b:=by
 unfold pD PR sR iS
 by_cases h1:a.ez<b.ez
 ·simp[h1]
 ·by_cases h2:b.ez<a.ez
  ·have:¬a.ez=b.ez:=ah
   simp[h1,h2,this]
  ·have:a.ez=b.ez:=ah
   by_cases h3:a.eE<b.eE
   ·simp[h1,h2,this,h3]
   ·by_cases h4:b.eE<a.eE<;>simp[h1,h2,this,h3,h4]
theorem IB (a b:aq):(pD a b=0)↔a=b:=by
 cases a;cases b
 unfold pD PR sR
 simp only[aq.mk.injEq]
 split<;>(try split)<;>(try split)<;>(try split)<;>omega
def MB:aa:=⟨⟨0,0⟩,0⟩
def aL (l:List aa) (i:Nat):aa:=l.getD i MB
theorem fa {l:List aa} {i:Nat} (h:i<l.length):aL l i=l[i]:=by simp[aL,List.getD_eq_getElem?_getD,h]
theorem gO {l:List aa} {i:Nat} (h:i<l.length):aL l i∈l:=by rw[fa h];exact List.getElem_mem h
def qS (l:List aa):Prop:=∀i j:Nat,i<j->j<l.length->iS (aL l i).aJ (aL l j).aJ=true
def q9 (l:List aa) (p:aq):Nat:=l.findIdx fun c=>decide (c.aJ=p)
def eG (l:List aa) (p:aq):Int:=if q9 l p<l.length then(q9 l p:Int)else -1
def tj (l:List aa) (p:aq):Nat:=l.findIdx fun c=> !iS c.aJ p
theorem BM {l:List aa} {p:aq} {i:Nat} (hi:i<=l.length) (h1:∀x,x<i->iS (aL l x).aJ p=true) (h2:i<l.length->iS (aL l i).aJ p=false):tj l p=i:=by
 unfold tj
 by_cases h:i<l.length
 ·rw[List.findIdx_eq h]
  refine⟨by have:=h2 h;rw[fa h]at this;simp[this],fun j hj=>?_⟩
  have:=h1 j hj
  rw[fa ah]at this
  simp[this]
 ·have:i=l.length:=ah
  subst this
  refine List.findIdx_eq_length_of_false fun x hx=>?_
  obtain⟨j,hj,rfl⟩:=List.getElem_of_mem hx
  have:=h1 j hj
  rw[fa hj]at this
  simp[this]
theorem HY {l:List aa} {p:aq} (hR:qS l):eG l p=if tj l p<l.length/\(aL l (tj l p)).aJ=p then(tj l p:Int)else -1:=by
 by_cases h:∃i,i<l.length/\(aL l i).aJ=p
 ·obtain⟨i,hi,hp⟩:=h
  have h1:tj l p=i:=BM ah (fun x hx=>by rw[<-hp];exact hR x i hx hi) fun _=>by rw[hp];exact iM
  have h2:q9 l p=i:=by
   rw[q9,List.findIdx_eq hi]
   refine⟨by rw[fa hi]at hp;simpa using hp,fun j hj=>?_⟩
   have:=hR j i hj hi
   rw[hp,fa ah]at this
   simp only[decide_eq_false_iff_not]
   intro hc
   rw[hc,iM]at this
   cases this
  rw[eG,h1,h2,if_pos hi,if_pos ⟨hi,hp⟩]
 ·have h2:¬q9 l p<l.length:=by
   rw[q9,List.findIdx_lt_length]
   rintro⟨c,hc,he⟩
   obtain⟨j,hj,rfl⟩:=List.getElem_of_mem hc
   exact h ⟨j,hj,by rw[fa hj];simpa using he⟩
  rw[eG,if_neg h2,if_neg]
  rintro⟨h3,h4⟩
  exact h ⟨_,h3,h4⟩
theorem lz {l:List aa} {p:aq} (h:0<=eG l p):(eG l p).toNat<l.length/\(aL l (eG l p).toNat).aJ=p:=by
 unfold eG at h ⊢
 split at h
 ·rename_i hc
  rw[if_pos hc]
  refine⟨ah,?_⟩
  have:=of_decide_eq_true (List.findIdx_getElem (p:=fun c:aa=>decide (c.aJ=p)) (xs:=l) (w:=hc))
  rw[Int.toNat_natCast,fa hc]
  exact this
 ·omega
def fU (l:List aa) (p:aq):Int:=if 0<=eG l p then(aL l (eG l p).toNat).br else -1
end Go.Proofs.YtgoljkjaameagaaGreat.V

namespace Go.Proofs.YtgoljkjaameagaaGreat.V
open Go.RowKit
attribute [local irreducible] dK wpOps gw Call
attribute [local go_sem] aM fE eM fV fS dc upd cr K.av cI AV.cells AV.cell rowOf rowsOf part ld rowAt bE cj dy dS gU bJ cY ee fQ e6 dp dX cW cV dI dJ bP bc cL bL cP cN dV dY dW cK bU cX dU bK aO cR cC gT bw cG bQ aY dj aZ dz AV.undef bD bG dM dQ dE dG cE ec eh cz ea dZ cQ cU List.getD_cons_zero List.getD_cons_succ List.getD_nil List.all_cons List.all_nil Bool.and_true Bool.true_and Bool.and_self Bool.not_true Bool.not_false Option.map_some Option.map_none Option.bind_some Option.bind_none List.length_cons List.length_nil List.take_succ_cons List.take_zero List.take_nil List.drop_succ_cons List.drop_zero List.drop_nil List.head?_cons List.map_cons List.map_nil List.getElem?_cons_zero List.getElem?_cons_succ List.cons_append List.nil_append List.append_nil List.length_map List.set_cons_zero List.set_cons_succ Nat.reduceMul eq_self Int.toNat_natCast Int.natCast_nonneg and_self true_and and_true decide_true decide_false Bool.false_eq_true Nat.zero_add Nat.add_zero List.contains_cons List.contains_nil Bool.or_false Bool.false_or beq_self_eq_true Nat.reduceBEq ne_eq not_true_eq_false not_false_eq_true Id.mk.injEq false_and and_false Nat.reduceLT Int.reduceLE Int.reduceLT Int.reduceToNat Int.reduceNeg Int.reduceAdd Nat.le_refl List.length_append beq_true beq_false Bool.not_eq_eq_eq_not or_false false_or dH aj ar aH bh bz ck aV bd aX bf cJ bB
theorem mz (a b:aq):au Tryz.prog 175 [.agg (ae a),.agg (ae b)] (.bool (iS a b)):=by
 refine au.body eF rfl fun hl n0=>?_
 clear hl
 by_cases h0:a.ez<b.ez
 ·(try((repeat(revert hN;revert N;apply Pn.out));refine wk (tw @ae.eq_1 @h0) ?_;(repeat(refine Pn.mk ?_;intro N hN))))
  exact bp (b:=true) (.inl rfl) (sd @Nat.zero_add) (by simp[iS,h0])
 ·by_cases h1:a.ez=b.ez
  ·have h2:¬b.ez<b.ez:=ah
   (try((repeat(revert hN;revert N;apply Pn.out));refine wk (tw @ae.eq_1 (tw @h1 @h2)) ?_;(repeat(refine Pn.mk ?_;intro N hN))))
   exact bp (b:=decide (a.eE<b.eE)) (.inl rfl) (sd @Nat.zero_add) (by simp[iS,h1])
  ·(try((repeat(revert hN;revert N;apply Pn.out));refine wk (tw @ae.eq_1 (tw @h0 @h1)) ?_;(repeat(refine Pn.mk ?_;intro N hN))))
   exact bp (b:=false) (.inl rfl) (sd @Nat.zero_add) (by simp[iS,h0,h1])
theorem fF {l:List aa} {i:Nat} (h:i<l.length):(l.map ab)[i]? =some (ab (aL l i)):=getD_map ab h
def Fo (l:List aa) (i:Nat):Prop:=zd (aL l i).aJ=true/\iV (aL l i).br 0 159=true/\(0<i->iS (aL l (i-1)).aJ (aL l i).aJ=true)
structure lg (l:List aa):Prop where
 zm:l.length<=500
 ok:∀i,i<l.length->Fo l i
noncomputable def pM (l:List aa):Bool:=@decide (lg l) (Classical.propDecidable _)
theorem IX {l:List aa}:pM l=true↔lg l:=by simp[pM]
theorem kN {l:List aa} (h:¬lg l):false=pM l:=by simp[pM,h]
theorem z6 {l:List aa} (h:lg l):true=pM l:=by simp[pM,h]
theorem lg.P8 {l:List aa} (h:lg l):qS l:=by
 intro i j y9 hj
 induction j with
 |zero=>omega
 |succ j ih=>
  have h1:=(h.ok (j+1) hj).2.2 ah
  rw[Nat.add_sub_cancel]at h1
  by_cases he:i=j
  ·subst he;exact h1
  ·exact iK (ih ah ah) h1
theorem lg.pt {l:List aa} (h:lg l) {i:Nat} (hi:i<l.length):zd (aL l i).aJ=true:=(h.ok i hi).1
theorem sf {p:aq} (h:zd p=true):iB p.eE/\iB p.ez:=by
 unfold zd at h
 simp only[Bool.and_eq_true]at h
 have:=dB h.1;have:=dB h.2
 unfold iB;omega
theorem Js (l:List aa):au Tryz.prog 219 [.dn [.sl (l.map ab)]] (.bool (pM l)):=by
 refine au.body eF rfl fun hl n0=>?_
 clear hl
 by_cases h1:(500:Int)<(l.length:Int)
 ·(try((repeat(revert hN;revert N;apply Pn.out));refine wk @h1 ?_;(repeat(refine Pn.mk ?_;intro N hN))))
  exact bp (b:=false) (.inl rfl) (sd @Nat.zero_add) (kN fun h=>by have:=h.zm;omega)
 (try((repeat(revert hN;revert N;apply Pn.out));refine wk @h1 ?_;(repeat(refine Pn.mk ?_;intro N hN))))
 refine aQ (fun n env st=>∃k:Nat,n=(l.length)-k/\k<=(l.length)/\env 3=.int .i64 (k:Int)/\(∀j:Nat,j<k->Fo l j)) (l.length) ⟨0,ah,ah,sl @Nat.zero_add,fun _ h=>absurd h (Nat.not_lt_zero _)⟩ ?_
 rintro n_a env_a st_a ⟨k,rfl,ale,a3,nP⟩ dv
 have a0:=dv 0 (by kernel_rfl)
 simp only[go_sem, ↓reduceIte,Nat.reduceEqDiff,Nat.reduceAdd,Nat.reduceSub,Nat.reduceLeDiff,reduceCtorEq]at a0
 clear dv
 by_cases hk:(k:Int)<(l.length:Int)
 ·have cq:∀{e:Env},(e 3=.int .i64 (IntKind.i64.wrap ((k:Int)+1)))->(Fo l k)->∃m0,m0<(l.length)-k/\∃k:Nat,m0=(l.length)-k/\k<=(l.length)/\e 3=.int .i64 (k:Int)/\(∀j:Nat,j<k->Fo l j):=fun x1 x2=>⟨_,ah,k+1,rfl,ah,(by rw[x1,ay ah]),(all_succ nP x2)⟩
  have fy:k<l.length:=ah
  have eP:=fF fy
  have k9:(¬Fo l k)->¬lg l:=fun h hp=>h (hp.ok k fy)
  have hp:=xX (aL l k).aJ
  have ht:=lD (aL l k).br 0 159
  cases b1:zd (aL l k).aJ
  ·rw[b1]at hp
   (repeat(first|((repeat(revert hN;revert N;apply Pn.out));refine wk (tw @a3 (tw @a0 (tw @hk (tw @eP (tw @ab.eq_1 @ae.eq_1))))) ?_;(repeat(refine Pn.mk ?_;intro N hN)))|((try apply Or.inl);refine⟨_,au.x (hp) (sd (tw @a3 (tw @a0 (tw @hk (tw @eP (tw @ab.eq_1 @ae.eq_1)))))),?_⟩;refine hN _ _ ?_;clear hN N)))
   exact bp (b:=false) (.inl rfl) (sd @Nat.zero_add) (kN (k9 fun h=>by rw[Fo,b1]at h;cases h.1))
  rw[b1]at hp
  cases b2:iV (aL l k).br 0 159
  ·rw[b2]at ht
   (repeat(first|((repeat(revert hN;revert N;apply Pn.out));refine wk (tw @a3 (tw @a0 (tw @hk (tw @eP (tw @ab.eq_1 @ae.eq_1))))) ?_;(repeat(refine Pn.mk ?_;intro N hN)))|((try apply Or.inl);refine⟨_,au.x (hp) (sd (tw @a3 (tw @a0 (tw @hk (tw @eP (tw @ab.eq_1 @ae.eq_1)))))),?_⟩;refine hN _ _ ?_;clear hN N)|((try apply Or.inl);refine⟨_,au.x (ht) (sd (tw @a3 (tw @a0 (tw @hk (tw @eP (tw @ab.eq_1 @ae.eq_1)))))),?_⟩;refine hN _ _ ?_;clear hN N)))
   exact bp (b:=false) (.inl rfl) (sd @Nat.zero_add) (kN (k9 fun h=>by rw[Fo,b2]at h;cases h.2.1))
  rw[b2]at ht
  by_cases h0:(0:Int)<(k:Int)
  ·have ua:=fF (l:=l) (i:=k-1) ah
   have hw:IntKind.i64.wrap ((k:Int)-1)=((k-1:Nat):Int):=by rw[bq (by have:=fy;omega)];omega
   have hq:=mz (aL l (k-1)).aJ (aL l k).aJ
   cases b3:iS (aL l (k-1)).aJ (aL l k).aJ
   ·rw[b3]at hq
    (repeat(first|((repeat(revert hN;revert N;apply Pn.out));refine wk (tw @a3 (tw @a0 (tw @hk (tw @eP (tw @ua (tw @h0 (tw @hw (tw @ab.eq_1 @ae.eq_1)))))))) ?_;(repeat(refine Pn.mk ?_;intro N hN)))|((try apply Or.inl);refine⟨_,au.x (hp) (sd (tw @a3 (tw @a0 (tw @hk (tw @eP (tw @ua (tw @h0 (tw @hw (tw @ab.eq_1 @ae.eq_1))))))))),?_⟩;refine hN _ _ ?_;clear hN N)|((try apply Or.inl);refine⟨_,au.x (ht) (sd (tw @a3 (tw @a0 (tw @hk (tw @eP (tw @ua (tw @h0 (tw @hw (tw @ab.eq_1 @ae.eq_1))))))))),?_⟩;refine hN _ _ ?_;clear hN N)|((try apply Or.inl);refine⟨_,au.x (hq) (sd (tw @a3 (tw @a0 (tw @hk (tw @eP (tw @ua (tw @h0 (tw @hw (tw @ab.eq_1 @ae.eq_1))))))))),?_⟩;refine hN _ _ ?_;clear hN N)))
    exact bp (b:=false) (.inl rfl) (sd @Nat.zero_add) (kN (k9 fun h=>by have:=h.2.2 ah;rw[b3]at this;cases this))
   ·rw[b3]at hq
    (repeat(first|((repeat(revert hN;revert N;apply Pn.out));refine wk (tw @a3 (tw @a0 (tw @hk (tw @eP (tw @ua (tw @h0 (tw @hw (tw @ab.eq_1 @ae.eq_1)))))))) ?_;(repeat(refine Pn.mk ?_;intro N hN)))|((try apply Or.inl);refine⟨_,au.x (hp) (sd (tw @a3 (tw @a0 (tw @hk (tw @eP (tw @ua (tw @h0 (tw @hw (tw @ab.eq_1 @ae.eq_1))))))))),?_⟩;refine hN _ _ ?_;clear hN N)|((try apply Or.inl);refine⟨_,au.x (ht) (sd (tw @a3 (tw @a0 (tw @hk (tw @eP (tw @ua (tw @h0 (tw @hw (tw @ab.eq_1 @ae.eq_1))))))))),?_⟩;refine hN _ _ ?_;clear hN N)|((try apply Or.inl);refine⟨_,au.x (hq) (sd (tw @a3 (tw @a0 (tw @hk (tw @eP (tw @ua (tw @h0 (tw @hw (tw @ab.eq_1 @ae.eq_1))))))))),?_⟩;refine hN _ _ ?_;clear hN N)))
    exact cq (sd (tw @a3 @a0)) (⟨b1,b2,fun _=>b3⟩)
  ·have s8:k=0:=ah
   (repeat(first|((repeat(revert hN;revert N;apply Pn.out));refine wk (tw @a3 (tw @a0 (tw @hk (tw @eP (tw @h0 (tw @ab.eq_1 @ae.eq_1)))))) ?_;(repeat(refine Pn.mk ?_;intro N hN)))|((try apply Or.inl);refine⟨_,au.x (hp) (sd (tw @a3 (tw @a0 (tw @hk (tw @eP (tw @h0 (tw @ab.eq_1 @ae.eq_1))))))),?_⟩;refine hN _ _ ?_;clear hN N)|((try apply Or.inl);refine⟨_,au.x (ht) (sd (tw @a3 (tw @a0 (tw @hk (tw @eP (tw @h0 (tw @ab.eq_1 @ae.eq_1))))))),?_⟩;refine hN _ _ ?_;clear hN N)))
   exact cq (sd (tw @a3 @a0)) (⟨b1,b2,fun h=>ah⟩)
 ·(try((repeat(revert hN;revert N;apply Pn.out));refine wk (tw @a3 (tw @a0 @hk)) ?_;(repeat(refine Pn.mk ?_;intro N hN))))
  exact bp (b:=true) (.inl rfl) (sd @Nat.zero_add) (z6 ⟨ah,fun i hi=>nP i ah⟩)
theorem zV (a b:Int):au Tryz.prog 210 [.int .i64 a,.int .i64 b] (.int .i64 (sR a b)):=by
 have nan:∀x:Int,au Tryz.prog 273 [.int .i64 x] (.bool false):=fun x=>by
  refine au.body eF rfl fun hl n0=>?_
  clear hl
  have e:decide (x=x)=true:=decide_eq_true rfl
  (try((repeat(revert hN;revert N;apply Pn.out));refine wk @e ?_;(repeat(refine Pn.mk ?_;intro N hN))))
  exact bp (b:=false) (.inl rfl) (sd @Nat.zero_add) rfl
 refine au.body eF rfl fun hl n0=>?_
 clear hl
 have ha:=nan a
 have hb:=nan b
 by_cases h1:a<b
 ·(repeat(first|((repeat(revert hN;revert N;apply Pn.out));refine wk @h1 ?_;(repeat(refine Pn.mk ?_;intro N hN)))|((try apply Or.inl);refine⟨_,au.x (ha) (sd @h1),?_⟩;refine hN _ _ ?_;clear hN N)|((try apply Or.inl);refine⟨_,au.x (hb) (sd @h1),?_⟩;refine hN _ _ ?_;clear hN N)))
  exact da (b:=-1) (.inl rfl) (sd @Nat.zero_add) (by rw[sR,if_pos h1])
 by_cases h2:b<a
 ·(repeat(first|((repeat(revert hN;revert N;apply Pn.out));refine wk (tw @h1 @h2) ?_;(repeat(refine Pn.mk ?_;intro N hN)))|((try apply Or.inl);refine⟨_,au.x (ha) (sd (tw @h1 @h2)),?_⟩;refine hN _ _ ?_;clear hN N)|((try apply Or.inl);refine⟨_,au.x (hb) (sd (tw @h1 @h2)),?_⟩;refine hN _ _ ?_;clear hN N)))
  exact da (b:=1) (.inl rfl) (sd @Nat.zero_add) (by rw[sR,if_neg h1,if_pos h2])
 ·(repeat(first|((repeat(revert hN;revert N;apply Pn.out));refine wk (tw @h1 @h2) ?_;(repeat(refine Pn.mk ?_;intro N hN)))|((try apply Or.inl);refine⟨_,au.x (ha) (sd (tw @h1 @h2)),?_⟩;refine hN _ _ ?_;clear hN N)|((try apply Or.inl);refine⟨_,au.x (hb) (sd (tw @h1 @h2)),?_⟩;refine hN _ _ ?_;clear hN N)))
  exact da (b:=0) (.inl rfl) (sd @Nat.zero_add) (by rw[sR,if_neg h1,if_neg h2])
def KD:List Int->Int
 |[]=>0
 |a::r=>if a=0 then KD r else a
theorem MG:∀{l:List Int} {k:Nat} (hk:k<l.length),l[k]≠0->(∀j (h:j<l.length),j<k->l[j]=0)->KD l=l[k]
 |a::r,0,_,h,_=>by
  have h':a≠0:=h
  rw[KD,if_neg h'];rfl
 |a::r,k+1,hk,h,h0=>by
  have h':a=0:=h0 0 (by simp) ah
  rw[KD,if_pos h',MG (k:=k) (by simpa using hk) h fun j hj Ah=>h0 (j+1) (by simpa using hj) ah];rfl
theorem Ez:∀{l:List Int},(∀j (h:j<l.length),l[j]=0)->KD l=0
 |[],_=>rfl
 |a::r,h=>by
  have h':a=0:=h 0 (by simp)
  rw[KD,if_pos h',Ez fun j hj=>h (j+1) (by simpa using hj)]
theorem PS (a b:Int):KD [a,b]=PR a b:=by
 unfold PR
 by_cases h:a=0
 ·rw[KD,if_pos h,if_pos h,KD,KD];split<;>simp_all
 ·rw[KD,if_neg h,if_neg h]
theorem Ow (l:List Int):au Tryz.prog 233 [.sl (l.map aU)] (.int .i64 (KD l)):=by
 refine au.body eF rfl fun hl n0=>?_
 have hlen:l.length<=9223372036854775807:=by simpa using(hl (.sl (l.map aU)) (by simp)).len
 clear hl
 (try((repeat(revert hN;revert N;apply Pn.out));refine wk @Nat.zero_add ?_;(repeat(refine Pn.mk ?_;intro N hN))))
 refine aQ (fun n env st=>∃k:Nat,n=(l.length)-k/\k<=(l.length)/\env 8=.int .i64 (k:Int)/\(∀j:Nat,j<k->∀h:j<l.length,l[j]=0)) (l.length) ⟨0,ah,ah,sl @Nat.zero_add,fun _ h=>absurd h (Nat.not_lt_zero _)⟩ ?_
 rintro n_a env_a st_a ⟨k,rfl,ale,a8,nP⟩ dv
 have a3:=dv 3 (by kernel_rfl);have a6:=dv 6 (by kernel_rfl);have a7:=dv 7 (by kernel_rfl)
 simp only[go_sem, ↓reduceIte,Nat.reduceEqDiff,Nat.reduceAdd,Nat.reduceSub,Nat.reduceLeDiff,reduceCtorEq]at a3 a6 a7
 clear dv
 by_cases hk:(k:Int)<(l.length:Int)
 ·have cq:∀{e:Env},(e 8=.int .i64 (IntKind.i64.wrap ((k:Int)+1)))->(∀h:k<l.length,l[k]=0)->∃m0,m0<(l.length)-k/\∃k:Nat,m0=(l.length)-k/\k<=(l.length)/\e 8=.int .i64 (k:Int)/\(∀j:Nat,j<k->∀h:j<l.length,l[j]=0):=fun x1 x2=>⟨_,ah,k+1,rfl,ah,(by rw[x1,ay ah]),(all_succ nP x2)⟩
  have fy:k<l.length:=ah
  have eP:(l.map aU)[k]? =some (aU l[k]):=by simp[fy]
  generalize hv:l[k]=v at eP
  by_cases h0:v=0
  ·have e:decide (v=0)=true:=decide_eq_true h0
   (try((repeat(revert hN;revert N;apply Pn.out));refine wk (tw @a8 (tw @a3 (tw @a6 (tw @a7 (tw @e (tw @hk (tw @eP @aU.eq_1))))))) ?_;(repeat(refine Pn.mk ?_;intro N hN))))
   exact cq (sd (tw @a8 (tw @a3 (tw @a6 @a7)))) (fun _=>hv.trans h0)
  ·have e:decide (v=0)=false:=decide_eq_false h0
   (try((repeat(revert hN;revert N;apply Pn.out));refine wk (tw @a8 (tw @a3 (tw @a6 (tw @a7 (tw @e (tw @hk (tw @eP @aU.eq_1))))))) ?_;(repeat(refine Pn.mk ?_;intro N hN))))
   exact da (b:=v) (.inl rfl) (sd @Nat.zero_add) (by rw[MG fy (by rw[hv];exact h0) fun j h hj=>nP j hj h,hv])
 ·(try((repeat(revert hN;revert N;apply Pn.out));refine wk (tw @a8 (tw @a3 (tw @a6 (tw @a7 @hk)))) ?_;(repeat(refine Pn.mk ?_;intro N hN))))
  exact da (b:=0) (.inl rfl) (sd @Nat.zero_add) (by rw[Ez fun j h=>nP j ah h])
section
attribute [local go_sem] List.drop_zero List.take_succ_cons List.take_zero List.length_cons List.length_nil iy Bp pN
theorem oK (a b:aq):au Tryz.prog 154 [.agg (ae a),.agg (ae b)] (.int .i64 (pD a b)):=by
 refine au.body eF rfl fun hl n0=>?_
 clear hl
 have h1:=zV a.ez b.ez
 have h2:=zV a.eE b.eE
 have h3:=Ow [sR a.ez b.ez,sR a.eE b.eE]
 rw[PS,List.map_cons,List.map_cons,List.map_nil,aU,aU]at h3
 (repeat(first|((repeat(revert hN;revert N;apply Pn.out));refine wk @ae.eq_1 ?_;(repeat(refine Pn.mk ?_;intro N hN)))|((try apply Or.inl);refine⟨_,au.x (h1) (sd @ae.eq_1),?_⟩;refine hN _ _ ?_;clear hN N)|((try apply Or.inl);refine⟨_,au.x (h2) (sd @ae.eq_1),?_⟩;refine hN _ _ ?_;clear hN N)|((try apply Or.inl);refine⟨_,au.x (h3) (sd @ae.eq_1),?_⟩;refine hN _ _ ?_;clear hN N)))
 exact da (b:=pD a b) (.inl rfl) (by simp only[go_sem, ↓reduceIte,Nat.reduceEqDiff,Nat.reduceAdd,Nat.reduceSub,Nat.reduceLeDiff,reduceCtorEq,pD]) rfl
end
theorem Pk (a b:aq):au Tryz.prog 179 [.agg (ae a),.agg (ae b)] (.bool (iS a b)):=by
 refine au.body eF rfl fun hl n0=>?_
 clear hl
 have h1:=oK a b
 rw[ae,ae]at h1
 (repeat(first|((repeat(revert hN;revert N;apply Pn.out));refine wk @ae.eq_1 ?_;(repeat(refine Pn.mk ?_;intro N hN)))|((try apply Or.inl);refine⟨_,au.x (h1) (sd @ae.eq_1),?_⟩;refine hN _ _ ?_;clear hN N)))
 exact bp (b:=decide (pD a b<0)) (.inl rfl) (sd @Nat.zero_add) (mB a b)
theorem kZ (t:aa) (p:aq):au Tryz.prog 164 [.agg (ab t),.agg (ae p)] (.int .i64 (pD t.aJ p)):=by
 refine au.body eF rfl fun hl n0=>?_
 clear hl
 have h1:=oK t.aJ p
 rw[ae,ae]at h1
 (repeat(first|((repeat(revert hN;revert N;apply Pn.out));refine wk (tw @ab.eq_1 @ae.eq_1) ?_;(repeat(refine Pn.mk ?_;intro N hN)))|((try apply Or.inl);refine⟨_,au.x (h1) (sd (tw @ab.eq_1 @ae.eq_1)),?_⟩;refine hN _ _ ?_;clear hN N)))
 exact da (b:=pD t.aJ p) (.inl rfl) (sd @Nat.zero_add) rfl
theorem I4 (l:List aa):au Tryz.prog 200 [.agg [.sl (l.map ab)]] (.bool (pM l)):=by
 refine au.body eF rfl fun hl n0=>?_
 have hlen:l.length<=9223372036854775807:=by
  have h1:=(hl (.agg [.sl (l.map ab)]) (by simp)).Rs (a:=.sl (l.map ab)) (by simp)
  simpa using h1.len
 clear hl
 (try((repeat(revert hN;revert N;apply Pn.out));refine wk @Nat.zero_add ?_;(repeat(refine Pn.mk ?_;intro N hN))))
 refine aQ (fun n env st=>∃k:Nat,n=(l.length)-k/\k<=(l.length)/\env 8=.int .i64 (k:Int)/\st.get ⟨200000000,n0⟩=some ⟨true,1,[[.sl (l.map ab)]]⟩/\(∀j:Nat,j<k->Fo l j)) (l.length) ⟨0,ah,ah,sl @Nat.zero_add,sl @Nat.zero_add,fun _ h=>absurd h (Nat.not_lt_zero _)⟩ ?_
 rintro n_a env_a st_a ⟨k,rfl,ale,a8,ag0,nP⟩ dv
 have a1:=dv 1 (by kernel_rfl);have a6:=dv 6 (by kernel_rfl);have a7:=dv 7 (by kernel_rfl)
 simp only[go_sem, ↓reduceIte,Nat.reduceEqDiff,Nat.reduceAdd,Nat.reduceSub,Nat.reduceLeDiff,reduceCtorEq]at a1 a6 a7
 clear dv
 by_cases hk:(k:Int)<(l.length:Int)
 ·have cq:∀{e:Env} {gg:Rows},(e 8=.int .i64 (IntKind.i64.wrap ((k:Int)+1)))->(gg ⟨200000000,n0⟩=some ⟨true,1,[[.sl (l.map ab)]]⟩)->(Fo l k)->∃m0,m0<(l.length)-k/\∃k:Nat,m0=(l.length)-k/\k<=(l.length)/\e 8=.int .i64 (k:Int)/\gg ⟨200000000,n0⟩=some ⟨true,1,[[.sl (l.map ab)]]⟩/\(∀j:Nat,j<k->Fo l j):=fun x1 x2 x3=>⟨_,ah,k+1,rfl,ah,(by rw[x1,ay ah]),x2,(all_succ nP x3)⟩
  have fy:k<l.length:=ah
  have eP:=fF fy
  have k9:(¬Fo l k)->¬lg l:=fun h hp=>h (hp.ok k fy)
  have hp:=sJ (aL l k).aJ
  have ht:=An (aL l k).br 160 ah ah
  rw[show(160:Int)-1=159 from rfl]at ht
  cases b1:zd (aL l k).aJ
  ·rw[b1]at hp
   (repeat(first|((repeat(revert hN;revert N;apply Pn.out));refine wk (tw @a8 (tw @ag0 (tw @a1 (tw @a6 (tw @a7 (tw @hk (tw @eP (tw @ab.eq_1 @ae.eq_1)))))))) ?_;(repeat(refine Pn.mk ?_;intro N hN)))|((try apply Or.inl);refine⟨_,au.x (hp) (sd (tw @a8 (tw @ag0 (tw @a1 (tw @a6 (tw @a7 (tw @hk (tw @eP (tw @ab.eq_1 @ae.eq_1))))))))),?_⟩;refine hN _ _ ?_;clear hN N)))
   exact bp (b:=false) (.inl rfl) (sd @Nat.zero_add) (kN (k9 fun h=>by rw[Fo,b1]at h;cases h.1))
  rw[b1]at hp
  cases b2:iV (aL l k).br 0 159
  ·rw[b2]at ht
   (repeat(first|((repeat(revert hN;revert N;apply Pn.out));refine wk (tw @a8 (tw @ag0 (tw @a1 (tw @a6 (tw @a7 (tw @hk (tw @eP (tw @ab.eq_1 @ae.eq_1)))))))) ?_;(repeat(refine Pn.mk ?_;intro N hN)))|((try apply Or.inl);refine⟨_,au.x (hp) (sd (tw @a8 (tw @ag0 (tw @a1 (tw @a6 (tw @a7 (tw @hk (tw @eP (tw @ab.eq_1 @ae.eq_1))))))))),?_⟩;refine hN _ _ ?_;clear hN N)|((try apply Or.inl);refine⟨_,au.x (ht) (sd (tw @a8 (tw @ag0 (tw @a1 (tw @a6 (tw @a7 (tw @hk (tw @eP (tw @ab.eq_1 @ae.eq_1))))))))),?_⟩;refine hN _ _ ?_;clear hN N)))
   exact bp (b:=false) (.inl rfl) (sd @Nat.zero_add) (kN (k9 fun h=>by rw[Fo,b2]at h;cases h.2.1))
  rw[b2]at ht
  by_cases h0:(0:Int)<(k:Int)
  ·have ua:=fF (l:=l) (i:=k-1) ah
   have hw:IntKind.i64.wrap ((k:Int)-1)=((k-1:Nat):Int):=by rw[bq ah];omega
   have hq:=Pk (aL l (k-1)).aJ (aL l k).aJ
   cases b3:iS (aL l (k-1)).aJ (aL l k).aJ
   ·rw[b3]at hq
    (repeat(first|((repeat(revert hN;revert N;apply Pn.out));refine wk (tw @a8 (tw @ag0 (tw @a1 (tw @a6 (tw @a7 (tw @hk (tw @eP (tw @ua (tw @h0 (tw @hw (tw @ab.eq_1 @ae.eq_1))))))))))) ?_;(repeat(refine Pn.mk ?_;intro N hN)))|((try apply Or.inl);refine⟨_,au.x (hp) (sd (tw @a8 (tw @ag0 (tw @a1 (tw @a6 (tw @a7 (tw @hk (tw @eP (tw @ua (tw @h0 (tw @hw (tw @ab.eq_1 @ae.eq_1)))))))))))),?_⟩;refine hN _ _ ?_;clear hN N)|((try apply Or.inl);refine⟨_,au.x (ht) (sd (tw @a8 (tw @ag0 (tw @a1 (tw @a6 (tw @a7 (tw @hk (tw @eP (tw @ua (tw @h0 (tw @hw (tw @ab.eq_1 @ae.eq_1)))))))))))),?_⟩;refine hN _ _ ?_;clear hN N)|((try apply Or.inl);refine⟨_,au.x (hq) (sd (tw @a8 (tw @ag0 (tw @a1 (tw @a6 (tw @a7 (tw @hk (tw @eP (tw @ua (tw @h0 (tw @hw (tw @ab.eq_1 @ae.eq_1)))))))))))),?_⟩;refine hN _ _ ?_;clear hN N)))
    exact bp (b:=false) (.inl rfl) (sd @Nat.zero_add) (kN (k9 fun h=>by have:=h.2.2 ah;rw[b3]at this;cases this))
   ·rw[b3]at hq
    (repeat(first|((repeat(revert hN;revert N;apply Pn.out));refine wk (tw @a8 (tw @ag0 (tw @a1 (tw @a6 (tw @a7 (tw @hk (tw @eP (tw @ua (tw @h0 (tw @hw (tw @ab.eq_1 @ae.eq_1))))))))))) ?_;(repeat(refine Pn.mk ?_;intro N hN)))|((try apply Or.inl);refine⟨_,au.x (hp) (sd (tw @a8 (tw @ag0 (tw @a1 (tw @a6 (tw @a7 (tw @hk (tw @eP (tw @ua (tw @h0 (tw @hw (tw @ab.eq_1 @ae.eq_1)))))))))))),?_⟩;refine hN _ _ ?_;clear hN N)|((try apply Or.inl);refine⟨_,au.x (ht) (sd (tw @a8 (tw @ag0 (tw @a1 (tw @a6 (tw @a7 (tw @hk (tw @eP (tw @ua (tw @h0 (tw @hw (tw @ab.eq_1 @ae.eq_1)))))))))))),?_⟩;refine hN _ _ ?_;clear hN N)|((try apply Or.inl);refine⟨_,au.x (hq) (sd (tw @a8 (tw @ag0 (tw @a1 (tw @a6 (tw @a7 (tw @hk (tw @eP (tw @ua (tw @h0 (tw @hw (tw @ab.eq_1 @ae.eq_1)))))))))))),?_⟩;refine hN _ _ ?_;clear hN N)))
    refine cq ?_ ?_ (⟨b1,b2,fun _=>b3⟩)
    all_goals simp only[go_sem, ↓reduceIte,Nat.reduceEqDiff,Nat.reduceAdd,Nat.reduceSub,Nat.reduceLeDiff,reduceCtorEq,a8,ag0,a1,a6,a7]
  ·have s8:k=0:=ah
   (repeat(first|((repeat(revert hN;revert N;apply Pn.out));refine wk (tw @a8 (tw @ag0 (tw @a1 (tw @a6 (tw @a7 (tw @hk (tw @eP (tw @h0 (tw @ab.eq_1 @ae.eq_1))))))))) ?_;(repeat(refine Pn.mk ?_;intro N hN)))|((try apply Or.inl);refine⟨_,au.x (hp) (sd (tw @a8 (tw @ag0 (tw @a1 (tw @a6 (tw @a7 (tw @hk (tw @eP (tw @h0 (tw @ab.eq_1 @ae.eq_1)))))))))),?_⟩;refine hN _ _ ?_;clear hN N)|((try apply Or.inl);refine⟨_,au.x (ht) (sd (tw @a8 (tw @ag0 (tw @a1 (tw @a6 (tw @a7 (tw @hk (tw @eP (tw @h0 (tw @ab.eq_1 @ae.eq_1)))))))))),?_⟩;refine hN _ _ ?_;clear hN N)))
   refine cq ?_ ?_ (⟨b1,b2,fun h=>ah⟩)
   all_goals simp only[go_sem, ↓reduceIte,Nat.reduceEqDiff,Nat.reduceAdd,Nat.reduceSub,Nat.reduceLeDiff,reduceCtorEq,a8,ag0,a1,a6,a7]
 ·(try((repeat(revert hN;revert N;apply Pn.out));refine wk (tw @a8 (tw @ag0 (tw @a1 (tw @a6 (tw @a7 @hk))))) ?_;(repeat(refine Pn.mk ?_;intro N hN))))
  refine bp (b:=decide ((l.length:Int)<=500)) (.inl rfl) (sd @Nat.zero_add) ?_
  by_cases h5:(l.length:Int)<=500
  ·rw[decide_eq_true h5];exact z6 ⟨ah,fun i hi=>nP i ah⟩
  ·rw[decide_eq_false h5];exact kN fun h=>by have:=h.zm;omega
end Go.Proofs.YtgoljkjaameagaaGreat.V
