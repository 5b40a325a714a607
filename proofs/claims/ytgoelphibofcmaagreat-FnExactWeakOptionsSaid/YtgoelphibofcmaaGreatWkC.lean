/- Slices of one's own that grow from an empty one. -/
import Derived.Test.YtgoelphibofcmaaGreatWkB
import Derived.Test.YtgoelphibofcmaaGreatChecked
import Derived.Test.YtgoelphibofcmaaGreatWkA
set_option linter.unusedVariables false
set_option linter.unusedSimpArgs false
set_option maxRecDepth 100000
set_option maxHeartbeats 16000000
namespace Go.Proofs.YtgoelphibofcmaaGreat.V
open Go.RowKit
variable {P:Program} {X:fE} {K:Env->au->Prop} {env:Env} {σ:au}
def mK {α:Type} (enc:α->List AV) (sz:Nat) (x:AV) (g:Rows) (S:Id->Prop) (L:List α):Prop:=∃o:Id,S o/\x=.own o 0 L.length/\g o=some ⟨true,sz,L.map enc⟩
section
variable {α:Type} {enc:α->List AV} {sz:Nat} {x:AV} {g g':Rows} {S:Id->Prop} {L L':List α}
theorem mK.cast (h:mK enc sz x g S L) (hL:L'=L):mK enc sz x g S L':=by subst hL;exact h
theorem mK.frame (h:mK enc sz x g S L) (hg:∀o:Id,S o->g' o=g o):mK enc sz x g' S L:=by
 obtain⟨o,h1,h2,h3⟩:=h
 exact⟨o,h1,h2,(hg o h1).trans h3⟩
theorem mK.app (hz:∀a,(enc a).length=sz/\(enc a).all AV.cell=true) (h:mK enc sz x g S L) (id:Id) (hid:S id) (M:List α) (hlen:L.length+M.length<=dL):
  ∃v g',aX g id sz x (M.map enc)=some (v,g')/\mK enc sz v g' S (L++M)/\∀j:Id,¬S j->g' j=g j:=by
 obtain⟨o,h1,rfl,h4⟩:=h
 refine⟨.own id 0 (L.length+(M.map enc).length),bJ (cr g o) id ⟨true,sz,L.map enc++M.map enc⟩,?_,⟨id,hid,by simp,by simp[bJ]⟩,fun j hj=>?_⟩
 ·have ha:=all_map (l:=M) hz
  simp only[aX,h4,Option.bind_some]
  rw[if_pos ⟨trivial,trivial,by simp,by simpa using hlen,ha⟩]
 ·have e1:¬j=id:=fun h=>hj (h▸hid)
  have e2:¬j=o:=fun h=>hj (h▸h1)
  simp[bJ,cr,e1,e2]
theorem O8 {draw:Bool} {o:aY} {r:List aY} {x' y:O} {xv:AV} (M:List α) (ho:o.op=.append sz x' y) (hw:aL o.guard env=true) (hx:cK env x'=xv) (hO:mK enc sz xv σ.get S L)
  (hy:bz σ.get (cK env y)=some (M.map enc)) (hz:∀a,(enc a).length=sz/\(enc a).all AV.cell=true) (hid:S ⟨o.site,σ.next⟩) (hlen:L.length+M.length<=dL)
  (next:∀v g',mK enc sz v g' S (L++M)->(∀j:Id,¬S j->g' j=σ.get j)->wpOps X draw r K (upd env o.dst v) ⟨g',σ.next⟩):wpOps X draw (o::r) K env σ:=by
 obtain⟨v,g',h1,h2,h3⟩:=hO.app hz ⟨o.site,σ.next⟩ hid M hlen
 unfold wpOps
 rw[if_pos hw]
 unfold fU
 simp only[ho,gw,hy,hx,Option.bind_some,h1]
 exact next v g' h2 h3
theorem mK.gp {n:Nat} (h:mK enc sz x g S L) (he:∀a,eb g n (enc a)=some (enc a)):gp g (n+1) x=some (.sl (L.map enc)):=by
 obtain⟨o,_,rfl,h3⟩:=h
 exact fY h3 rfl he
end
theorem cP {a b:Id} (h:a.bq<b.bq):(a=b)=False/\(b=a)=False:=by
 constructor<;>(simp only[eq_iff_iff,iff_false];rintro rfl;omega)
theorem Al {o:Id} {a:Nat} (h:o.site=a) {b v:Nat} (tz:(a==b)=false):(o=⟨b,v⟩)=False:=by
 simp only[eq_iff_iff,iff_false]
 rintro rfl
 simp only at h
 subst h
 simp at tz
def eN (n:Nat):List AV:=[.int .i64 n]
theorem fzN (g:Rows) (n:Nat) (a:Nat):cL g (n+1) (eN a)=some (eN a):=by simp[eN,ai,aq,aH]
theorem NM (g:Rows) (n:Nat) (a:Nat):eb g (n+1) (eN a)=some (eN a):=by simp[eN,bB,cz,eO]
def Pw:CL (List Nat):=fun g cs x ids=>∃id,cs=[.own id 0 x.length]/\g id=some ⟨true,1,x.map eN⟩/\ids=[id]
theorem LM:xg Pw 1 where
 frame:=fun⟨id,h1,h2,h3⟩ hf=>by subst h3;exact⟨id,h1,(hf id (by simp)).trans h2,rfl⟩
 len:=fun⟨id,h1,_⟩=>by subst h1;rfl
 cell:=fun⟨id,h1,_⟩=>by subst h1;rfl
 live:=fun⟨id,h1,h2,h3⟩ i hi=>by
  subst h3
  have:i=id:=by simpa using hi
  subst this
  exact⟨_,h2,rfl,by simp[rI]⟩
 small:=by simp[rI]
def AJ (l:List Nat):List AV:=[.sl (l.map eN)]
theorem Jl {g:Rows} {rows:List (List AV)} {xs:List (List Nat)} {ids:List Id} (n:Nat) (h:eD Pw g rows xs ids):gY g (n+2) rows=some (xs.map AJ):=by
 induction h with
 |nil=>rw[gY];rfl
 |cons h1 _ ih=>
  obtain⟨id,rfl,h2,_⟩:=h1
  rw[gY,ih,bB,cz,fY (e:=eN) (sz:=1) h2 rfl fun a=>NM g n a];rfl
end Go.Proofs.YtgoelphibofcmaaGreat.V

namespace Go.Proofs.YtgoelphibofcmaaGreat.V
open Go.RowKit
attribute [local irreducible] dG wpOps gz Call
attribute [local go_sem] aL fU eV gw gr cK upd cw K.av cU AV.cells AV.cell rowOf rowsOf part ld rowAt bJ cr dK ep iC bR dj eF gq fh dz ew dh de ec ee bV bh cX bU cZ cY eu ez ev cW cj di er bS aQ db cG iA bz cN bW aX dn aZ dL AV.undef bG bK ef eo dW ea cJ eE eH cD eB eA da dc List.getD_cons_zero List.getD_cons_succ List.getD_nil List.all_cons List.all_nil Bool.and_true Bool.true_and Bool.and_self Bool.not_true Bool.not_false Option.map_some Option.map_none Option.bind_some Option.bind_none List.length_cons List.length_nil List.take_succ_cons List.take_zero List.take_nil List.drop_succ_cons List.drop_zero List.drop_nil List.head?_cons List.map_cons List.map_nil List.getElem?_cons_zero List.getElem?_cons_succ List.cons_append List.nil_append List.append_nil List.length_map List.set_cons_zero List.set_cons_succ Nat.reduceMul eq_self Int.toNat_natCast Int.natCast_nonneg and_self true_and and_true decide_true decide_false Bool.false_eq_true Nat.zero_add Nat.add_zero List.contains_cons List.contains_nil Bool.or_false Bool.false_or beq_self_eq_true Nat.reduceBEq ne_eq not_true_eq_false not_false_eq_true Id.mk.injEq false_and and_false Nat.reduceLT Int.reduceLE Int.reduceLT Int.reduceToNat Int.reduceNeg Int.reduceAdd Nat.le_refl List.length_append beq_true beq_false Bool.not_eq_eq_eq_not or_false false_or dX ai aq aH bj bE cu aW br aU bp cV bP
variable {P:Program}
def KJ {α:Type} (R:CL α) (x:α) (σ:au) (r:AV) (σ':au):Prop:=∃cs ids,r=.agg cs/\R σ'.get cs x ids/\gy σ.next σ'.next ids/\Kept σ σ'
def iD {α:Type} (R:CL α) (z:Nat) (g:Rows) (a:AV) (xs:List α) (ids:List Id):Prop:=∃o rows is,a=.own o 0 xs.length/\g o=some ⟨true,z,rows⟩/\eD R g rows xs is/\ids=o::is
def KK {α:Type} (R:CL α) (z:Nat) (xs:List α) (σ:au) (r:AV) (σ':au):Prop:=∃ids,iD R z σ'.get r xs ids/\gy σ.next σ'.next ids/\Kept σ σ'
theorem iD.frame {α:Type} {R:CL α} {z:Nat} {g g':Rows} {a:AV} {xs:List α} {ids:List Id} (ok:xg R z) (h:iD R z g a xs ids) (hf:∀i∈ids,g' i=g i):iD R z g' a xs ids:=by
 obtain⟨o,rows,is,h1,h2,h3,rfl⟩:=h
 exact⟨o,rows,is,h1,(hf o (by simp)).trans h2,h3.frame ok fun i hi=>hf i (by simp[hi]),rfl⟩
theorem iD.fz {α:Type} {R:CL α} {z n:Nat} {e:α->List AV} {g:Rows} {a:AV} {xs:List α} {ids:List Id} (h:iD R z g a xs ids) (hz:∀{cs x ids},R g cs x ids->cL (dX g) n cs=some (e x)):V.fz (dX g) (n+1) a=some (.sl (xs.map e)):=by
 obtain⟨o,rows,is,rfl,h2,h3,rfl⟩:=h
 rw[gZ]
 simp only[dX,h2,Option.map_some,if_true]
 rw[if_pos (by rw[h3.len];omega),List.drop_zero,List.take_of_length_le (by rw[h3.len];exact Nat.le_refl _),h3.fz hz];rfl
def lv {α:Type} (e:α->List AV):CL α:=fun _ cs x ids=>cs=e x/\ids=[]
theorem Iu {α:Type} {e:α->List AV} {z:Nat} (hz:∀x,(e x).length=z) (hc:∀x,(e x).all AV.cell=true) (hs:z<rI):xg (lv e) z where
 frame:=fun h _=>h
 len:=fun h=>by rw[h.1];exact hz _
 cell:=fun h=>by rw[h.1];exact hc _
 live:=fun h i hi=>by rw[h.2]at hi;cases hi
 small:=hs
def oe:CL eT:=fun g cs t ids=>∃i,cs=[.str t.aD,.own i 0 t.bt.length]/\g i=some ⟨true,1,t.bt.map bf⟩/\ids=[i]
theorem qL:xg oe 2 where
 frame:=fun⟨i,h1,h2,h3⟩ hf=>⟨i,h1,(hf i (by rw[h3];simp)).trans h2,h3⟩
 len:=fun⟨i,h1,_⟩=>by rw[h1];rfl
 cell:=fun⟨i,h1,_⟩=>by rw[h1];rfl
 live:=fun⟨i,h1,h2,h3⟩ j hj=>by
  rw[h3]at hj
  have:j=i:=by simpa using hj
  subst this
  exact⟨_,h2,rfl,by simp[rI]⟩
 small:=by simp[rI]
theorem Mi {g:Rows} {cs:List AV} {t:eT} {ids:List Id} (n:Nat) (h:oe g cs t ids):cL (dX g) (n+2) cs=some (bx t):=by
 obtain⟨i,rfl,h2,_⟩:=h
 have h3:V.fz (dX g) (n+2) (.own i 0 t.bt.length)=some (.sl (t.bt.map bf)):=ik (e:=bf) (sz:=1) (by simp[dX,h2]) rfl fun x=>by simp[bf,ai,aq,aH]
 simp only[ai,aq,bE,h3,Option.map_some,bx]
theorem Mb {α:Type} {a b:List α} {x y:α} {k:Nat} (hk:a.length=k):(a++x::b).set k y=a++[y]++b:=by subst hk;simp
theorem Au {α:Type} {R:CL α} {en:α->List AV} {z fk gk:Nat} {zero:List K} (ok:xg R z) (hc:lV P fk=some (tQ fk gk z zero)) (HE:zero.length=z) (hz:∀x,(en x).length=z) (xs:List α) (hlen:xs.length<=1048576)
  (hg:∀x∈xs,∀σ,Call P gk [.agg (en x)] σ (KJ R x σ)) (σ:au):Call P fk [.sl (xs.map en)] σ (KK R z xs σ):=by
 refine eW hc rfl fun hl=>?_
 try simp only[q]
 clear hl
 have hm:(xs.length:Int)<=((16777216:Nat):Int):=by omega
 have h0:(0:Int)<=(xs.length:Int):=by omega
 (try((repeat(revert hN;revert N;apply Pn.out));refine wk (tw @hm (tw @h0 (tw @Int.le_refl @HE))) ?_;(repeat(refine Pn.mk ?_;intro N hN))))
 refine aI (fun n env st=>∃k:Nat,n=(xs.length)-k/\k<=(xs.length)/\env 4=.int .i64 (k:Int)/\(σ.next+2<=st.next/\(∀y:Id,y.bq<σ.next->st.get y=σ.get y)/\∃rows is,st.get ⟨fk*1000000+1002,σ.next+1⟩=some ⟨true,z,rows++List.replicate (xs.length-k) (zero.map K.av)⟩/\eD R st.get rows (xs.take k) is/\gy (σ.next+2) st.next is)) (xs.length) ⟨0,by omega,by omega,sl @Nat.zero_add,by(try dsimp only);exact⟨by omega,fun y hy=>by
  have h1:=dq hy
  simp only[go_sem, ↓reduceIte,Nat.reduceEqDiff,Nat.reduceAdd,Nat.reduceSub,Nat.reduceLeDiff,reduceCtorEq,h1],[],[],sl @Nat.zero_add,.nil,List.nodup_nil,fun i hi=>by cases hi⟩⟩ ?_
 rintro n_a env_a st_a ⟨k,rfl,ale,a4,j9⟩ dp
 have a0:=dp 0 (by kernel_rfl);have a3:=dp 3 (by kernel_rfl)
 simp only[go_sem, ↓reduceIte,Nat.reduceEqDiff,Nat.reduceAdd,Nat.reduceSub,Nat.reduceLeDiff,reduceCtorEq]at a0 a3
 clear dp
 obtain⟨an,aK,rows,is,ag,aR,aN⟩:=j9
 have sf:rows.length=k:=by rw[aR.len,List.length_take];omega
 by_cases hk:(k:Int)<(xs.length:Int)
 ·have ck:∀{e:Env} {gg:Rows} {nx:Nat},(e 4=.int .i64 (IntKind.i64.wrap ((k:Int)+1)))->(σ.next+2<=nx/\(∀y:Id,y.bq<σ.next->gg y=σ.get y)/\∃rows is,gg ⟨fk*1000000+1002,σ.next+1⟩=some ⟨true,z,rows++List.replicate (xs.length-(k+1)) (zero.map K.av)⟩/\eD R gg rows (xs.take (k+1)) is/\gy (σ.next+2) nx is)->∃m0,m0<(xs.length)-k/\∃k:Nat,m0=(xs.length)-k/\k<=(xs.length)/\e 4=.int .i64 (k:Int)/\(σ.next+2<=nx/\(∀y:Id,y.bq<σ.next->gg y=σ.get y)/\∃rows is,gg ⟨fk*1000000+1002,σ.next+1⟩=some ⟨true,z,rows++List.replicate (xs.length-k) (zero.map K.av)⟩/\eD R gg rows (xs.take k) is/\gy (σ.next+2) nx is):=fun x1 x2=>⟨_,by omega,k+1,rfl,by omega,(by rw[x1,aA (by omega)]),x2⟩
  have eZ:k<xs.length:=by omega
  have eM:(xs.map en)[k]? =some (en xs[k]):=by simp[eZ]
  have tD:=hz xs[k]
  have ht:(en xs[k]).take z=en xs[k]:=by rw[<-tD,List.take_length]
  have il:=hg _ (List.getElem_mem eZ)
  obtain⟨m,MS⟩:∃m,xs.length-k=m+1:=⟨xs.length-k-1,by omega⟩
  rw[MS,List.replicate_succ]at ag
  generalize hex:en xs[k]=c at il eM tD ht
  (try((repeat(revert hN;revert N;apply Pn.out));refine wk (tw @a4 (tw @a0 (tw @a3 (tw @hk (tw @eM (tw @tD (tw @ht @Nat.le_refl))))))) ?_;(repeat(refine Pn.mk ?_;intro N hN))))
  refine .inr (aG _ _ _ _ _ (fun r σ1 hq=>?_) (il _))
  obtain⟨cs,ids,rfl,hR,hI,hK⟩:=hq
  obtain⟨g1,x1⟩:=σ1
  (try dsimp only at hR hI hK)
  have AL:=(hK.2 ⟨fk*1000000+1002,σ.next+1⟩ (by(try dsimp only);omega))
  simp only[go_sem, ↓reduceIte,Nat.reduceEqDiff,Nat.reduceAdd,Nat.reduceSub,Nat.reduceLeDiff,reduceCtorEq,ag]at AL
  have mT:=ok.len hR
  have zz:=ok.cell hR
  have fb:(rows++zero.map K.av::List.replicate m (zero.map K.av))[k]? =some (zero.map K.av):=by rw[List.getElem?_append_right (by omega),sf,Nat.sub_self];rfl
  have dO:(rows++zero.map K.av::List.replicate m (zero.map K.av)).set k cs=rows++[cs]++List.replicate m (zero.map K.av):=Mb sf
  have IG:(zero.map K.av).drop z=[]:=List.drop_of_length_le (by simp[HE])
  have Lk:(rows++zero.map K.av::List.replicate m (zero.map K.av)).length=xs.length:=by simp[sf];omega
  refine hN _ _ ?_
  clear hN N
  (try((repeat(revert hN;revert N;apply Pn.out));refine wk (tw @a4 (tw @a0 (tw @a3 (tw @hk (tw @AL (tw @fb (tw @dO (tw @Lk (tw @IG (tw @uR (tw @mT (tw @zz (tw @Nat.le_refl @HE))))))))))))) ?_;(repeat(refine Pn.mk ?_;intro N hN))))
  have zD:=hK.1
  have Kv:∀i∈is,(i=⟨fk*1000000+1002,σ.next+1⟩)=False:=fun i hi=>eq_false fun e=>by
   have:=(aN.2 i hi).1
   subst e;(try dsimp only at this);omega
  have Gg:∀i∈ids,(i=⟨fk*1000000+1002,σ.next+1⟩)=False:=fun i hi=>eq_false fun e=>by
   have:=(hI.2 i hi).1
   subst e;(try dsimp only at this);omega
  exact ck (sd (tw @a4 (tw @a0 @a3))) (by(try dsimp only at *);exact⟨by omega,fun y hy=>by
   have h1:=dq hy
   have h2:=hK.2 y (by(try dsimp only);omega)
   have h3:=aK y hy
   simp only[go_sem, ↓reduceIte,Nat.reduceEqDiff,Nat.reduceAdd,Nat.reduceSub,Nat.reduceLeDiff,reduceCtorEq]at h2
   simp only[go_sem, ↓reduceIte,Nat.reduceEqDiff,Nat.reduceAdd,Nat.reduceSub,Nat.reduceLeDiff,reduceCtorEq,h1,h2,h3],rows++[cs],is++ids,by
    rw[show xs.length-(k+1)=m by omega]
    simp only[go_sem, ↓reduceIte,Nat.reduceEqDiff,Nat.reduceAdd,Nat.reduceSub,Nat.reduceLeDiff,reduceCtorEq]<;>rfl,by
    rw[List.take_succ_eq_append_getElem eZ]
    refine((aR.frame ok fun i hi=>?_).app (.one (ok.frame hR fun i hi=>?_)))
    ·have h1:=Kv i hi
     have h2:=hK.2 i (by(try dsimp only);have:=(aN.2 i hi).2;omega)
     simp only[go_sem, ↓reduceIte,Nat.reduceEqDiff,Nat.reduceAdd,Nat.reduceSub,Nat.reduceLeDiff,reduceCtorEq]at h2
     simp only[go_sem, ↓reduceIte,Nat.reduceEqDiff,Nat.reduceAdd,Nat.reduceSub,Nat.reduceLeDiff,reduceCtorEq,h1,h2]
    ·have h1:=Gg i hi
     simp only[go_sem, ↓reduceIte,Nat.reduceEqDiff,Nat.reduceAdd,Nat.reduceSub,Nat.reduceLeDiff,reduceCtorEq,h1],(aN.app hI (by(try dsimp only);omega) (by omega) (by(try dsimp only);omega)).wide (Nat.le_refl _) (by(try dsimp only);omega)⟩)
 ·(try((repeat(revert hN;revert N;apply Pn.out));refine wk (tw @a4 (tw @a0 (tw @a3 @hk))) ?_;(repeat(refine Pn.mk ?_;intro N hN))))
  have eZ:k=xs.length:=by omega
  subst eZ
  rw[Nat.sub_self,List.replicate_zero,List.append_nil]at ag
  rw[List.take_length]at aR
  refine fc (.inl rfl) (vs:=[.own ⟨fk*1000000+1002,σ.next+1⟩ 0 xs.length]) (sd (tw @a4 (tw @a0 @a3))) ?_
  exact⟨_,⟨_,rows,is,rfl,ag,aR,rfl⟩,⟨List.nodup_cons.2 ⟨fun hi=>by have:=(aN.2 _ hi).1;(try dsimp only at this);omega,aN.1⟩,fun i hi=>by
   rcases List.mem_cons.1 hi with rfl|hi
   ·(try dsimp only);omega
   ·have:=aN.2 i hi;(try dsimp only);omega⟩,⟨by(try dsimp only);omega,fun j hj=>aK j hj⟩⟩
end Go.Proofs.YtgoelphibofcmaaGreat.V

namespace Go.Proofs.YtgoelphibofcmaaGreat.V
open Go.RowKit
attribute [local irreducible] dG wpOps gz Call
attribute [local go_sem] aL fU eV gw gr cK upd cw K.av cU AV.cells AV.cell rowOf rowsOf part ld rowAt bJ cr dK ep iC bR dj eF gq fh dz ew dh de ec ee bV bh cX bU cZ cY eu ez ev cW cj di er bS aQ db cG iA bz cN bW aX dn aZ dL AV.undef bG bK ef eo dW ea cJ eE eH cD eB eA da dc List.getD_cons_zero List.getD_cons_succ List.getD_nil List.all_cons List.all_nil Bool.and_true Bool.true_and Bool.and_self Bool.not_true Bool.not_false Option.map_some Option.map_none Option.bind_some Option.bind_none List.length_cons List.length_nil List.take_succ_cons List.take_zero List.take_nil List.drop_succ_cons List.drop_zero List.drop_nil List.head?_cons List.map_cons List.map_nil List.getElem?_cons_zero List.getElem?_cons_succ List.cons_append List.nil_append List.append_nil List.length_map List.set_cons_zero List.set_cons_succ Nat.reduceMul eq_self Int.toNat_natCast Int.natCast_nonneg and_self true_and and_true decide_true decide_false Bool.false_eq_true Nat.zero_add Nat.add_zero List.contains_cons List.contains_nil Bool.or_false Bool.false_or beq_self_eq_true Nat.reduceBEq ne_eq not_true_eq_false not_false_eq_true Id.mk.injEq false_and and_false Nat.reduceLT Int.reduceLE Int.reduceLT Int.reduceToNat Int.reduceNeg Int.reduceAdd Nat.le_refl List.length_append beq_true beq_false Bool.not_eq_eq_eq_not or_false false_or dX ai aq aH bj bE cu aW br aU bp cV bP
theorem iD.kT {α:Type} {R:CL α} {z:Nat} {g:Rows} {a:AV} {xs:List α} {ids:List Id} (h:iD R z g a xs ids):∃o,a=.own o 0 xs.length:=by
 obtain⟨o,rows,is,rfl,_⟩:=h;exact⟨o,rfl⟩
theorem J6 (xs:List Int) (hlen:xs.length<=1048576) (σ:au):Call Tryz.prog 195 [.sl (xs.map bf)] σ (fun r σ'=>∃i,r=.own i 0 xs.length/\σ'.get i=some ⟨true,1,xs.map bf⟩/\gy σ.next σ'.next [i]/\Kept σ σ'):=by
 refine eW (show lV Tryz.prog 195=some (J8 195 (.int .i64 0)) by kernel_rfl) rfl fun hl=>?_
 try simp only[q]
 clear hl
 obtain⟨en,Hv⟩:∃en:Int->List AV,en=bf:=⟨_,rfl⟩
 rw[<-Hv]
 have hm:(xs.length:Int)<=((16777216:Nat):Int):=by omega
 have h0:(0:Int)<=(xs.length:Int):=by omega
 (try((repeat(revert hN;revert N;apply Pn.out));refine wk (tw @hm (tw @h0 (tw @Int.le_refl (oq en [AV.int .i64 0] xs)))) ?_;(repeat(refine Pn.mk ?_;intro N hN))))
 refine aI (fun n env st=>∃k:Nat,n=(xs.length)-k/\k<=(xs.length)/\env 4=.int .i64 (k:Int)/\st.get ⟨195*1000000+1002,σ.next+1⟩=some ⟨true,1,gL en [AV.int .i64 0] xs k⟩/\(σ.next+2<=st.next/\∀y:Id,y.bq<σ.next->st.get y=σ.get y)) (xs.length) ⟨0,by omega,by omega,sl @Nat.zero_add,sl @Nat.zero_add,by(try dsimp only);exact⟨by omega,fun y hy=>by
  have h1:=dq hy
  simp only[go_sem, ↓reduceIte,Nat.reduceEqDiff,Nat.reduceAdd,Nat.reduceSub,Nat.reduceLeDiff,reduceCtorEq,h1]⟩⟩ ?_
 rintro n_a env_a st_a ⟨k,rfl,ale,a4,ag0,j9⟩ dp
 have a0:=dp 0 (by kernel_rfl);have a3:=dp 3 (by kernel_rfl)
 simp only[go_sem, ↓reduceIte,Nat.reduceEqDiff,Nat.reduceAdd,Nat.reduceSub,Nat.reduceLeDiff,reduceCtorEq]at a0 a3
 clear dp
 obtain⟨an,aK⟩:=j9
 by_cases hk:(k:Int)<(xs.length:Int)
 ·have ck:∀{e:Env} {gg:Rows} {nx:Nat},(e 4=.int .i64 (IntKind.i64.wrap ((k:Int)+1)))->(gg ⟨195*1000000+1002,σ.next+1⟩=some ⟨true,1,gL en [AV.int .i64 0] xs (k+1)⟩)->(σ.next+2<=nx/\∀y:Id,y.bq<σ.next->gg y=σ.get y)->∃m0,m0<(xs.length)-k/\∃k:Nat,m0=(xs.length)-k/\k<=(xs.length)/\e 4=.int .i64 (k:Int)/\gg ⟨195*1000000+1002,σ.next+1⟩=some ⟨true,1,gL en [AV.int .i64 0] xs k⟩/\(σ.next+2<=nx/\∀y:Id,y.bq<σ.next->gg y=σ.get y):=fun x1 x2 x3=>⟨_,by omega,k+1,rfl,by omega,(by rw[x1,aA (by omega)]),x2,x3⟩
  have eZ:k<xs.length:=by omega
  have eM:(xs.map en)[k]? =some [AV.int .i64 xs[k]]:=by simp[eZ,Hv,bf]
  have fy:=qh en [AV.int .i64 0] xs eZ
  have dO:=qi en [AV.int .i64 0] xs eZ
  rw[show en xs[k]=[AV.int .i64 xs[k]] by rw[Hv];rfl]at dO
  (try((repeat(revert hN;revert N;apply Pn.out));refine wk (tw @a4 (tw @ag0 (tw @a0 (tw @a3 (tw @hk (tw @eM (tw @fy @dO))))))) ?_;(repeat(refine Pn.mk ?_;intro N hN))))
  refine ck ?_ ?_ (by(try dsimp only);exact⟨by omega,fun y hy=>by
   have h1:=dq hy
   have h3:=aK y hy
   simp only[go_sem, ↓reduceIte,Nat.reduceEqDiff,Nat.reduceAdd,Nat.reduceSub,Nat.reduceLeDiff,reduceCtorEq,h1,h3]⟩)
  all_goals simp only[go_sem, ↓reduceIte,Nat.reduceEqDiff,Nat.reduceAdd,Nat.reduceSub,Nat.reduceLeDiff,reduceCtorEq,a4,ag0,a0,a3]
 ·(try((repeat(revert hN;revert N;apply Pn.out));refine wk (tw @a4 (tw @ag0 (tw @a0 (tw @a3 @hk)))) ?_;(repeat(refine Pn.mk ?_;intro N hN))))
  have eZ:k=xs.length:=by omega
  subst eZ
  refine fc (.inl rfl) (vs:=[.own ⟨195*1000000+1002,σ.next+1⟩ 0 xs.length]) (sd (tw @a4 (tw @ag0 (tw @a0 @a3)))) ?_
  rw[qg]at ag0
  exact⟨_,rfl,ag0,⟨List.nodup_cons.2 ⟨by simp,List.nodup_nil⟩,fun i hi=>by
   rw[List.mem_singleton.1 hi];(try dsimp only);omega⟩,⟨by(try dsimp only);omega,fun j hj=>aK j hj⟩⟩
theorem J9 (p:eT) (hs:sk p) (σ:au):Call Tryz.prog 162 [.agg (bx p)] σ (KJ oe p σ):=by
 refine eW ek rfl fun hl=>?_
 clear hl
 (try((repeat(revert hN;revert N;apply Pn.out));refine wk @bx.eq_1 ?_;(repeat(refine Pn.mk ?_;intro N hN))))
 refine .inr (aG _ _ _ _ _ (fun r σ1 hq=>?_) (J6 p.bt hs _))
 obtain⟨i,rfl,hg,hI,hK⟩:=hq
 obtain⟨g1,x1⟩:=σ1
 (try dsimp only at hg hI hK)
 have hn:=hK.1
 refine hN _ _ ?_
 clear hN N
 have hi:=hI.2 i (by simp)
 have k2:=hK.2 ⟨162000001,σ.next⟩ (by(try dsimp only);omega)
 have k3:=hK.2 ⟨162001000,σ.next+1⟩ (by(try dsimp only);omega)
 simp only[go_sem, ↓reduceIte,Nat.reduceEqDiff,Nat.reduceAdd,Nat.reduceSub,Nat.reduceLeDiff,reduceCtorEq]at k2 k3
 (try((repeat(revert hN;revert N;apply Pn.out));refine wk (tw @bx.eq_1 (tw @k2 @k3)) ?_;(repeat(refine Pn.mk ?_;intro N hN))))
 refine fc (.inl rfl) (vs:=[.agg [.str p.aD,.own i 0 p.bt.length]]) (sd @Nat.zero_add) ?_
 refine⟨_,[i],rfl,⟨i,rfl,?_,rfl⟩,⟨hI.1,fun j hj=>?_⟩,⟨?_,fun j hj=>?_⟩⟩
 ·have i2:=cP (b:=i) (a:=⟨162000001,σ.next⟩) (by(try dsimp only at *);omega)
  have i3:=cP (b:=i) (a:=⟨162001000,σ.next+1⟩) (by(try dsimp only at *);omega)
  simp only[go_sem, ↓reduceIte,Nat.reduceEqDiff,Nat.reduceAdd,Nat.reduceSub,Nat.reduceLeDiff,reduceCtorEq,i2,i3,hg]
 ·rw[List.mem_singleton.1 hj]
  (try dsimp only at *);omega
 ·(try dsimp only at *);omega
 ·have h2:=hK.2 j (by(try dsimp only);omega)
  have h1:=dq hj
  simp only[go_sem, ↓reduceIte,Nat.reduceEqDiff,Nat.reduceAdd,Nat.reduceSub,Nat.reduceLeDiff,reduceCtorEq,h1]at h2
  simp only[go_sem, ↓reduceIte,Nat.reduceEqDiff,Nat.reduceAdd,Nat.reduceSub,Nat.reduceLeDiff,reduceCtorEq,h1,h2]
theorem Bl:xg (lv bD) 2:=Iu (fun _=>rfl) (fun _=>rfl) (by simp[rI])
theorem yd:xg (lv ad) 3:=Iu (fun _=>rfl) (fun _=>rfl) (by simp[rI])
theorem J4 (p:fB) (σ:au):Call Tryz.prog 161 [.agg (bD p)] σ (KJ (lv bD) p σ):=by
 refine eW ek rfl fun hl=>?_
 clear hl
 (try((repeat(revert hN;revert N;apply Pn.out));refine wk @bD.eq_1 ?_;(repeat(refine Pn.mk ?_;intro N hN))))
 refine fc (.inl rfl) (vs:=[.agg (bD p)]) (sd @bD.eq_1) ?_
 exact⟨_,[],rfl,⟨rfl,rfl⟩,⟨List.nodup_nil,fun i hi=>by cases hi⟩,⟨by(try dsimp only);omega,fun j hj=>by
  have h1:=dq hj
  simp only[go_sem, ↓reduceIte,Nat.reduceEqDiff,Nat.reduceAdd,Nat.reduceSub,Nat.reduceLeDiff,reduceCtorEq,h1]⟩⟩
theorem EB (p:ah) (σ:au):Call Tryz.prog 104 [.agg (ad p)] σ (KJ (lv ad) p σ):=by
 refine eW ek rfl fun hl=>?_
 clear hl
 have h:=yW p.aO
 rw[aa]at h
 (repeat(first|((repeat(revert hN;revert N;apply Pn.out));refine wk @ad.eq_1 ?_;(repeat(refine Pn.mk ?_;intro N hN)))|((try apply Or.inl);refine⟨_,km.x (h) _,?_⟩;refine hN _ _ ?_;clear hN N)))
 refine fc (.inl rfl) (vs:=[.agg (ad p)]) (sd @ad.eq_1) ?_
 exact⟨_,[],rfl,⟨rfl,rfl⟩,⟨List.nodup_nil,fun i hi=>by cases hi⟩,⟨by(try dsimp only);omega,fun j hj=>by
  have h1:=dq hj
  simp only[go_sem, ↓reduceIte,Nat.reduceEqDiff,Nat.reduceAdd,Nat.reduceSub,Nat.reduceLeDiff,reduceCtorEq,h1]⟩⟩
theorem Hh (xs:List fB) (h:xs.length<=1048576) (σ:au):Call Tryz.prog 102 [.sl (xs.map bD)] σ (KK (lv bD) 2 xs σ):=
 Au Bl (show lV Tryz.prog 102=some (tQ 102 161 2 [.str [],.int .i64 0]) by kernel_rfl) rfl (fun _=>rfl) xs h (fun x _ σ=>J4 x σ) σ
theorem Hj (xs:List eT) (h:xs.length<=1048576) (hs:∀t∈xs,sk t) (σ:au):Call Tryz.prog 103 [.sl (xs.map bx)] σ (KK oe 2 xs σ):=
 Au qL (show lV Tryz.prog 103=some (tQ 103 162 2 [.str [],.cC]) by kernel_rfl) rfl (fun _=>rfl) xs h (fun x hx σ=>J9 x (hs x hx) σ) σ
theorem CA (xs:List ah) (h:xs.length<=1048576) (σ:au):Call Tryz.prog 62 [.sl (xs.map ad)] σ (KK (lv ad) 3 xs σ):=
 Au yd (show lV Tryz.prog 62=some (tQ 62 104 3 [.int .i64 0,.int .i64 0,.int .i64 0]) by kernel_rfl) rfl (fun _=>rfl) xs h (fun x _ σ=>EB x σ) σ
def xf (g:Rows) (v:AV) (a:dI) (ids:List Id):Prop:=∃x,v=.agg [x]/\iD (lv ad) 3 g x a.ae ids
structure y7 (g:Rows) (v:AV) (s:aM) (ids:List Id):Prop where
 ex:∃a b c i1 i2 i3,v=.agg [a,b,c,.int .i64 s.az]/\iD (lv bD) 2 g a s.ax.aB i1/\iD oe 2 g b s.ax.ae i2/\iD (lv ad) 3 g c s.bF.ae i3/\ids=i1++(i2++i3)
theorem xf.frame {g g':Rows} {v:AV} {a:dI} {ids:List Id} (h:xf g v a ids) (hf:∀i∈ids,g' i=g i):xf g' v a ids:=by
 obtain⟨x,h1,h2⟩:=h
 exact⟨x,h1,h2.frame yd hf⟩
theorem y7.frame {g g':Rows} {v:AV} {s:aM} {ids:List Id} (h:y7 g v s ids) (hf:∀i∈ids,g' i=g i):y7 g' v s ids:=by
 obtain⟨a,b,c,i1,i2,i3,h1,h2,h3,h4,rfl⟩:=h.ex
 exact⟨a,b,c,i1,i2,i3,h1,h2.frame Bl fun i hi=>hf i (by simp[hi]),h3.frame qL fun i hi=>hf i (by simp[hi]),h4.frame yd fun i hi=>hf i (by simp[hi]),rfl⟩
theorem xf.fz {g:Rows} {v:AV} {a:dI} {ids:List Id} (n:Nat) (h:xf g v a ids):V.fz (dX g) (n+4) v=some (.agg (aJ a)):=by
 obtain⟨x,rfl,h2⟩:=h
 have h3:=h2.fz (n:=n+2) (e:=ad) fun hc=>by rw[hc.1];simp[ad,ai,aq,aH]
 simp only[br,ai,aq,h3,Option.map_some,aJ]
theorem y7.fz {g:Rows} {v:AV} {s:aM} {ids:List Id} (n:Nat) (h:y7 g v s ids):V.fz (dX g) (n+5) v=some (.agg (ay s)):=by
 obtain⟨a,b,c,i1,i2,i3,rfl,h2,h3,h4,rfl⟩:=h.ex
 have q1:=h2.fz (n:=n+3) (e:=bD) fun hc=>by rw[hc.1];simp[bD,ai,aq,aH,bE]
 have q2:=h3.fz (n:=n+3) (e:=bx) fun hc=>Mi (n+1) hc
 have q3:=h4.fz (n:=n+3) (e:=ad) fun hc=>by rw[hc.1];simp[ad,ai,aq,aH]
 simp only[br,ai,aq,q1,q2,q3,aH,Option.map_some,ay]
theorem rZ (p:dI) (hs:p.ae.length<=1048576) (σ:au):Call Tryz.prog 18 [.agg (aJ p)] σ (fun r σ'=>∃ids,xf σ'.get r p ids/\gy σ.next σ'.next ids/\Kept σ σ'):=by
 refine eW ek rfl fun hl=>?_
 clear hl
 (try((repeat(revert hN;revert N;apply Pn.out));refine wk @aJ.eq_1 ?_;(repeat(refine Pn.mk ?_;intro N hN))))
 refine .inr (aG _ _ _ _ _ (fun r σ1 hq=>?_) (CA p.ae hs _))
 obtain⟨ids,hR,hI,hK⟩:=hq
 obtain⟨g1,x1⟩:=σ1
 (try dsimp only at hR hI hK)
 have hn:=hK.1
 obtain⟨o,rows,is,rfl,hg,TC,rfl⟩:=hR
 refine hN _ _ ?_
 clear hN N
 have k2:=hK.2 ⟨18000001,σ.next⟩ (by(try dsimp only);omega)
 have k3:=hK.2 ⟨18001000,σ.next+1⟩ (by(try dsimp only);omega)
 simp only[go_sem, ↓reduceIte,Nat.reduceEqDiff,Nat.reduceAdd,Nat.reduceSub,Nat.reduceLeDiff,reduceCtorEq]at k2 k3
 (try((repeat(revert hN;revert N;apply Pn.out));refine wk (tw @aJ.eq_1 (tw @k2 @k3)) ?_;(repeat(refine Pn.mk ?_;intro N hN))))
 refine fc (.inl rfl) (vs:=[.agg [.own o 0 p.ae.length]]) (sd @Nat.zero_add) ?_
 have hb:=hI.2
 (try dsimp only at hb hn)
 refine⟨_,⟨_,rfl,iD.frame yd ⟨o,rows,is,rfl,hg,TC,rfl⟩ fun j hj=>?_⟩,⟨hI.1,fun j hj=>?_⟩,⟨?_,fun j hj=>?_⟩⟩
 ·have T8:=hb j hj
  have i2:=cP (b:=j) (a:=⟨18000001,σ.next⟩) (by(try dsimp only);omega)
  have i3:=cP (b:=j) (a:=⟨18001000,σ.next+1⟩) (by(try dsimp only);omega)
  simp only[go_sem, ↓reduceIte,Nat.reduceEqDiff,Nat.reduceAdd,Nat.reduceSub,Nat.reduceLeDiff,reduceCtorEq,i2,i3]
 ·have:=hb j hj
  (try dsimp only);omega
 ·(try dsimp only);omega
 ·have h2:=hK.2 j (by(try dsimp only);omega)
  have h1:=dq hj
  simp only[go_sem, ↓reduceIte,Nat.reduceEqDiff,Nat.reduceAdd,Nat.reduceSub,Nat.reduceLeDiff,reduceCtorEq,h1]at h2
  simp only[go_sem, ↓reduceIte,Nat.reduceEqDiff,Nat.reduceAdd,Nat.reduceSub,Nat.reduceLeDiff,reduceCtorEq,h1,h2]
theorem CC (p:aw) (hs:HT p) (σ:au):Call Tryz.prog 61 [.agg (ab p)] σ (fun r σ'=>∃a b i1 i2,r=.agg [a,b]/\iD (lv bD) 2 σ'.get a p.aB i1/\iD oe 2 σ'.get b p.ae i2/\gy σ.next σ'.next (i1++i2)/\Kept σ σ'):=by
 refine eW ek rfl fun hl=>?_
 clear hl
 (try((repeat(revert hN;revert N;apply Pn.out));refine wk @ab.eq_1 ?_;(repeat(refine Pn.mk ?_;intro N hN))))
 refine .inr (aG _ _ _ _ _ (fun r σ1 hq=>?_) (Hh p.aB hs.g _))
 obtain⟨i1,hR,hI,hK⟩:=hq
 obtain⟨g1,x1⟩:=σ1
 (try dsimp only at hR hI hK)
 have hn:=hK.1
 obtain⟨o,rows,is,rfl,hg,TC,rfl⟩:=hR
 have hb:=hI.2
 (try dsimp only at hb hn)
 refine hN _ _ ?_
 clear hN N
 have k1:=hK.2 ⟨61000000,σ.next⟩ (by(try dsimp only);omega)
 have k2:=hK.2 ⟨61000001,σ.next⟩ (by(try dsimp only);omega)
 have k3:=hK.2 ⟨61001000,σ.next+1⟩ (by(try dsimp only);omega)
 simp only[go_sem, ↓reduceIte,Nat.reduceEqDiff,Nat.reduceAdd,Nat.reduceSub,Nat.reduceLeDiff,reduceCtorEq]at k1 k2 k3
 (try((repeat(revert hN;revert N;apply Pn.out));refine wk (tw @ab.eq_1 (tw @k1 (tw @k2 @k3))) ?_;(repeat(refine Pn.mk ?_;intro N hN))))
 refine .inr (aG _ _ _ _ _ (fun r σ2 hq=>?_) (Hj p.ae hs.t hs.s _))
 obtain⟨i2,hS,hJ,hL⟩:=hq
 obtain⟨g2,x2⟩:=σ2
 (try dsimp only at hS hJ hL)
 have Ll:=hL.1
 obtain⟨o2,Na,is2,rfl,QP,hS',rfl⟩:=hS
 have hc:=hJ.2
 (try dsimp only at hc Ll)
 refine hN _ _ ?_
 clear hN N
 have l2:=hL.2 ⟨61000001,σ.next⟩ (by(try dsimp only);omega)
 have l3:=hL.2 ⟨61001000,σ.next+1⟩ (by(try dsimp only);omega)
 simp only[go_sem, ↓reduceIte,Nat.reduceEqDiff,Nat.reduceAdd,Nat.reduceSub,Nat.reduceLeDiff,reduceCtorEq,k2,k3]at l2 l3
 (try((repeat(revert hN;revert N;apply Pn.out));refine wk (tw @ab.eq_1 (tw @l2 @l3)) ?_;(repeat(refine Pn.mk ?_;intro N hN))))
 refine fc (.inl rfl) (vs:=[.agg [.own o 0 p.aB.length,.own o2 0 p.ae.length]]) (sd @Nat.zero_add) ?_
 have fr:∀x:Id,σ.next+2<=x.bq->(x=⟨61000001,σ.next⟩)=False/\(x=⟨61001000,σ.next+1⟩)=False:=fun x hx=>⟨(cP (a:=⟨61000001,σ.next⟩) (b:=x) (by(try dsimp only);omega)).2,(cP (a:=⟨61001000,σ.next+1⟩) (b:=x) (by(try dsimp only);omega)).2⟩
 refine⟨_,_,_,_,rfl,iD.frame (g:=g1) Bl ⟨o,rows,is,rfl,hg,TC,rfl⟩ fun i hi=>?_,iD.frame (g:=g2) qL ⟨o2,Na,is2,rfl,QP,hS',rfl⟩ fun i hi=>?_,?_,⟨by(try dsimp only);omega,fun j hj=>?_⟩⟩
 ·have h1:=hb i hi
  have h2:=hL.2 i (by(try dsimp only);omega)
  have h3:=fr i (by omega)
  simp only[go_sem, ↓reduceIte,Nat.reduceEqDiff,Nat.reduceAdd,Nat.reduceSub,Nat.reduceLeDiff,reduceCtorEq,h3]at h2
  simp only[go_sem, ↓reduceIte,Nat.reduceEqDiff,Nat.reduceAdd,Nat.reduceSub,Nat.reduceLeDiff,reduceCtorEq,h2,h3]
 ·have h1:=hc i hi
  have h3:=fr i (by omega)
  simp only[go_sem, ↓reduceIte,Nat.reduceEqDiff,Nat.reduceAdd,Nat.reduceSub,Nat.reduceLeDiff,reduceCtorEq,h3]
 ·(try dsimp only at *)
  exact(hI.app hJ (by omega) (by omega) (by omega)).wide (by omega) (by omega)
 ·have h1:=dq hj
  have h2:=hL.2 j (by(try dsimp only);omega)
  have h3:=hK.2 j (by(try dsimp only);omega)
  simp only[go_sem, ↓reduceIte,Nat.reduceEqDiff,Nat.reduceAdd,Nat.reduceSub,Nat.reduceLeDiff,reduceCtorEq,h1]at h2 h3
  simp only[go_sem, ↓reduceIte,Nat.reduceEqDiff,Nat.reduceAdd,Nat.reduceSub,Nat.reduceLeDiff,reduceCtorEq,h1,h2,h3]
theorem EE (p:aM) (hs:pQ p) (σ:au):Call Tryz.prog 17 [.agg (ay p)] σ (fun r σ'=>∃ids,y7 σ'.get r p ids/\gy σ.next σ'.next ids/\Kept σ σ'):=by
 refine eW ek rfl fun hl=>?_
 clear hl
 have t1:=fun σ=>CC p.ax hs.s σ
 have t2:=fun σ=>rZ p.bF hs.a σ
 rw[ab]at t1
 rw[aJ]at t2
 (try((repeat(revert hN;revert N;apply Pn.out));refine wk @ay.eq_1 ?_;(repeat(refine Pn.mk ?_;intro N hN))))
 refine .inr (aG _ _ _ _ _ (fun r σ1 hq=>?_) (t1 _))
 obtain⟨a,b,i1,i2,rfl,hA,hB,hI,hK⟩:=hq
 obtain⟨g1,x1⟩:=σ1
 (try dsimp only at hA hB hI hK)
 have hn:=hK.1
 have hb:=hI.2
 (try dsimp only at hb hn)
 refine hN _ _ ?_
 clear hN N
 have k1:=hK.2 ⟨17000000,σ.next⟩ (by(try dsimp only);omega)
 have k2:=hK.2 ⟨17000001,σ.next⟩ (by(try dsimp only);omega)
 have k3:=hK.2 ⟨17001000,σ.next+1⟩ (by(try dsimp only);omega)
 simp only[go_sem, ↓reduceIte,Nat.reduceEqDiff,Nat.reduceAdd,Nat.reduceSub,Nat.reduceLeDiff,reduceCtorEq]at k1 k2 k3
 obtain⟨oa,rfl⟩:=hA.kT
 obtain⟨ob,rfl⟩:=hB.kT
 (try((repeat(revert hN;revert N;apply Pn.out));refine wk (tw @ay.eq_1 (tw @k1 (tw @k2 @k3))) ?_;(repeat(refine Pn.mk ?_;intro N hN))))
 refine .inr (aG _ _ _ _ _ (fun r σ2 hq=>?_) (t2 _))
 obtain⟨i3,hC,hJ,hL⟩:=hq
 obtain⟨g2,x2⟩:=σ2
 (try dsimp only at hC hJ hL)
 have Ll:=hL.1
 have hc:=hJ.2
 (try dsimp only at hc Ll)
 obtain⟨c,rfl,hC⟩:=hC
 obtain⟨oc,rfl⟩:=hC.kT
 refine hN _ _ ?_
 clear hN N
 have l1:=hL.2 ⟨17000000,σ.next⟩ (by(try dsimp only);omega)
 have l2:=hL.2 ⟨17000001,σ.next⟩ (by(try dsimp only);omega)
 have l3:=hL.2 ⟨17001000,σ.next+1⟩ (by(try dsimp only);omega)
 simp only[go_sem, ↓reduceIte,Nat.reduceEqDiff,Nat.reduceAdd,Nat.reduceSub,Nat.reduceLeDiff,reduceCtorEq,k1,k2,k3]at l1 l2 l3
 (try((repeat(revert hN;revert N;apply Pn.out));refine wk (tw @ay.eq_1 (tw @l1 (tw @l2 @l3))) ?_;(repeat(refine Pn.mk ?_;intro N hN))))
 refine fc (.inl rfl) (vs:=[.agg [.own oa 0 p.ax.aB.length,.own ob 0 p.ax.ae.length,.own oc 0 p.bF.ae.length,.int .i64 p.az]]) (sd @Nat.zero_add) ?_
 have fr:∀x:Id,σ.next+2<=x.bq->(x=⟨17000001,σ.next⟩)=False/\(x=⟨17001000,σ.next+1⟩)=False:=fun x hx=>⟨(cP (a:=⟨17000001,σ.next⟩) (b:=x) (by(try dsimp only);omega)).2,(cP (a:=⟨17001000,σ.next+1⟩) (b:=x) (by(try dsimp only);omega)).2⟩
 have fr2:∀i∈i1++i2,g2 i=g1 i:=fun i hi=>by
  have h1:=hb i hi
  have h2:=hL.2 i (by(try dsimp only);omega)
  have h3:=fr i (by omega)
  simp only[go_sem, ↓reduceIte,Nat.reduceEqDiff,Nat.reduceAdd,Nat.reduceSub,Nat.reduceLeDiff,reduceCtorEq,h3]at h2
  exact h2
 refine⟨i1++(i2++i3),⟨_,_,_,i1,i2,i3,rfl,hA.frame Bl fun i hi=>?_,hB.frame qL fun i hi=>?_,hC.frame yd fun i hi=>?_,rfl⟩,?_,⟨by(try dsimp only);omega,fun j hj=>?_⟩⟩
 ·have h1:=hb i (by simp[hi])
  have h2:=fr2 i (by simp[hi])
  have h3:=fr i (by omega)
  simp only[go_sem, ↓reduceIte,Nat.reduceEqDiff,Nat.reduceAdd,Nat.reduceSub,Nat.reduceLeDiff,reduceCtorEq,h2,h3]
 ·have h1:=hb i (by simp[hi])
  have h2:=fr2 i (by simp[hi])
  have h3:=fr i (by omega)
  simp only[go_sem, ↓reduceIte,Nat.reduceEqDiff,Nat.reduceAdd,Nat.reduceSub,Nat.reduceLeDiff,reduceCtorEq,h2,h3]
 ·have h1:=hc i hi
  have h3:=fr i (by omega)
  simp only[go_sem, ↓reduceIte,Nat.reduceEqDiff,Nat.reduceAdd,Nat.reduceSub,Nat.reduceLeDiff,reduceCtorEq,h3]
 ·(try dsimp only at *)
  rw[<-List.append_assoc]
  exact(hI.app hJ (by omega) (by omega) (by omega)).wide (by omega) (by omega)
 ·have h1:=dq hj
  have h2:=hL.2 j (by(try dsimp only);omega)
  have h3:=hK.2 j (by(try dsimp only);omega)
  simp only[go_sem, ↓reduceIte,Nat.reduceEqDiff,Nat.reduceAdd,Nat.reduceSub,Nat.reduceLeDiff,reduceCtorEq,h1]at h2 h3
  simp only[go_sem, ↓reduceIte,Nat.reduceEqDiff,Nat.reduceAdd,Nat.reduceSub,Nat.reduceLeDiff,reduceCtorEq,h1,h2,h3]
end Go.Proofs.YtgoelphibofcmaaGreat.V

namespace Go.Proofs.YtgoelphibofcmaaGreat
open Go.RowKit
def kV (n:Int):Bool:=(decide (97<=n)&&decide (n<=122))||(decide (65<=n)&&decide (n<=90))
def lk (n:Int):Bool:=decide (48<=n)&&decide (n<=57)
def tW (i:Nat) (n:Int):Prop:=kV n=true∨(0<i/\(lk n=true∨n=95))
def uO (s:ByteArray):Prop:=(1<=s.size/\s.size<=12)/\∀i (h:i<s.size),tW i s[i].toNat
open Classical in
noncomputable def jJ (s:ByteArray):Bool:=decide (uO s)
theorem D8 {s:ByteArray} (h:uO s):true=jJ s:=by simp[jJ,h]
theorem dU {s:ByteArray} (h:¬uO s):false=jJ s:=by simp[jJ,h]
theorem Cd {s:ByteArray} {b:Bool} (hb:b=true) (h:uO s):b=jJ s:=by simp[jJ,h,hb]
theorem rJ {s:ByteArray} {b:Bool} (hb:b=false) (h:¬uO s):b=jJ s:=by simp[jJ,h,hb]
theorem vY (w:World) (n:Int):Calls Tryz.prog 212 #[.int .u8 n] w fun e w'=>e=.returned (.bool (kV n))/\w=w':=by
 go_enter Tryz.func212,Tryz.ntmps212
 go_wp2_with fail
 all_goals
  go_ret
  exact⟨iE (by unfold kV;simp[*];try omega),rfl⟩
theorem F8 (w:World) (n:Int):Calls Tryz.prog 213 #[.int .u8 n] w fun e w'=>e=.returned (.bool (lk n))/\w=w':=by
 go_enter Tryz.func213,Tryz.ntmps213
 go_wp2_with fail
 all_goals
  go_ret
  exact⟨iE (by unfold lk;simp[*];try omega),rfl⟩
theorem Cr (w:World) (s:ByteArray) (hs:s.size<=9223372036854775807):Calls Tryz.prog 189 #[.string s] w fun e w'=>e=.returned (.bool (jJ s))/\Below w.heap.size w w':=by
 by_cases h1:1<=s.size
 case neg=>
  go_enter Tryz.func189,Tryz.ntmps189
  go_wp2_with fail
  go_ret
  exact⟨iE (dU fun h=>h1 h.1.1),Below.refl _ _⟩
 by_cases h2:s.size<=12
 case neg=>
  go_enter Tryz.func189,Tryz.ntmps189
  go_wp2_with fail
  go_ret
  exact⟨iE (dU fun h=>h2 h.1.2),Below.refl _ _⟩
 go_enter Tryz.func189,Tryz.ntmps189
 go_wp2_with fail
 refine(vY _ _).mono ?_
 rintro e w' ⟨rfl,rfl⟩
 cases h3:kV s[0].toNat
 ·go_wp2_with fail
  go_ret
  exact⟨iE (dU fun h=>by have:=h.2 0 (by omega);simp only[tW]at this;rw[h3]at this;simp at this),Below.refl _ _⟩
 ·replace h3:=Lib.hid h3
  go_wp2_with fail
  go_loop [3] (fun i=>∃k:Nat,1<=k/\k<=s.size/\i=.int .i64 k/\Hid (∀j (h:j<s.size),j<k->tW j s[j].toNat)) (fun i=>s.size-(intOf i).toNat)
  case atStart=>exact⟨1,by omega,by omega,rfl,Lib.hid fun j h hj=>by
   obtain rfl:j=0:=by omega
   exact .inl h3.out⟩
  case round=>
   obtain⟨k,xd,hk,rfl,dJ⟩:=hrel
   by_cases dM:k<s.size
   ·go_wp2_with fail
    refine(vY _ _).mono ?_
    rintro e w' ⟨rfl,rfl⟩
    have ll:tW k s[k].toNat∨¬tW k s[k].toNat:=Classical.em _
    cases hl:kV s[k].toNat
    ·go_wp2_with fail
     refine(F8 _ _).mono ?_
     rintro e w' ⟨rfl,rfl⟩
     cases hd:lk s[k].toNat
     ·by_cases uw:(s[k].toNat:Int)=95
      ·have Tk:((s[k].toNat:Int) !=95)=false:=by simp;omega
       replace uw:=Lib.hid uw
       replace hl:=Lib.hid hl
       replace hd:=Lib.hid hd
       go_wp2_with fail
       go_round
       case rel=>exact⟨k+1,by omega,by omega,by go_num,Lib.hid fun j h hj=>by
        by_cases yk:j=k
        ·subst yk;exact .inr ⟨by omega,.inr uw.out⟩
        ·exact dJ.out j h (by omega)⟩
       case measure=>simp[intOf];omega
      ·have Tk:((s[k].toNat:Int) !=95)=true:=by simp;omega
       replace uw:=Lib.hid uw
       replace hl:=Lib.hid hl
       replace hd:=Lib.hid hd
       go_wp2_with fail
       go_ret
       exact⟨iE (dU fun h=>by
        have:=h.2 k dM;simp only[tW,hl.out,hd.out]at this;exact uw.out (by simp at this;exact this.2)),Below.refl _ _⟩
     ·replace hl:=Lib.hid hl
      replace hd:=Lib.hid hd
      go_wp2_with fail
      go_round
      case rel=>exact⟨k+1,by omega,by omega,by go_num,Lib.hid fun j h hj=>by
       by_cases yk:j=k
       ·subst yk;exact .inr ⟨by omega,.inl hd.out⟩
       ·exact dJ.out j h (by omega)⟩
      case measure=>simp[intOf];omega
    ·replace hl:=Lib.hid hl
     go_wp2_with fail
     go_round
     case rel=>exact⟨k+1,by omega,by omega,by go_num,Lib.hid fun j h hj=>by
      by_cases yk:j=k
      ·subst yk;exact .inl hl.out
      ·exact dJ.out j h (by omega)⟩
     case measure=>simp[intOf];omega
   ·go_wp2_with fail
    go_ret
    exact⟨iE (D8 ⟨⟨h1,h2⟩,fun i h=>dJ.out i h (by omega)⟩),Below.refl _ _⟩
theorem BM (w:World) (s:ByteArray) (hs:s.size<=9223372036854775807):Calls Tryz.prog 198 #[.string s] w fun e w'=>e=.returned (.bool (jJ s))/\w=w':=by
 go_enter Tryz.func198,Tryz.ntmps198
 go_wp2_with fail
 go_loop [8] (fun i=>∃k:Nat,k<=s.size/\i=.int .i64 k/\Hid (∀j (h:j<s.size),j<k->tW j s[j].toNat)) (fun i=>s.size-(intOf i).toNat)
 case atStart=>exact⟨0,by omega,rfl,Lib.hid fun j h hj=>by omega⟩
 case round=>
  obtain⟨k,hk,rfl,dJ⟩:=hrel
  by_cases dM:k<s.size
  ·have hc:(s[k].toNat:Int)<48∨(48<=(s[k].toNat:Int)/\(s[k].toNat:Int)<=57)∨(58<=(s[k].toNat:Int)/\(s[k].toNat:Int)<=64)∨(65<=(s[k].toNat:Int)/\(s[k].toNat:Int)<=90)∨(91<=(s[k].toNat:Int)/\(s[k].toNat:Int)<=94)∨(95<=(s[k].toNat:Int)/\(s[k].toNat:Int)<=95)∨(96<=(s[k].toNat:Int)/\(s[k].toNat:Int)<=96)∨(97<=(s[k].toNat:Int)/\(s[k].toNat:Int)<=122)∨123<=(s[k].toNat:Int):=by omega
   by_cases xc:k=0
   ·subst xc
    rcases hc with h|⟨h,h'⟩|⟨h,h'⟩|⟨h,h'⟩|⟨h,h'⟩|⟨h,h'⟩|⟨h,h'⟩|⟨h,h'⟩|h
    ·have uw:((s[0].toNat:Int) !=95)=true:=by simp;try omega
     go_wp2_with fail
     all_goals first
      |(go_ret;exact⟨iE (dU fun hh=>by have:=hh.2 0 dM;simp[tW,kV,lk]at this;omega),rfl⟩)
      |(exfalso;simp_all;done)
      |(exfalso;simp_all;omega)
    ·have uw:((s[0].toNat:Int) !=95)=true:=by simp;try omega
     go_wp2_with fail
     all_goals first
      |(go_ret;exact⟨iE (dU fun hh=>by have:=hh.2 0 dM;simp[tW,kV,lk]at this;omega),rfl⟩)
      |(exfalso;simp_all;done)
      |(exfalso;simp_all;omega)
    ·have uw:((s[0].toNat:Int) !=95)=true:=by simp;try omega
     go_wp2_with fail
     all_goals first
      |(go_ret;exact⟨iE (dU fun hh=>by have:=hh.2 0 dM;simp[tW,kV,lk]at this;omega),rfl⟩)
      |(exfalso;simp_all;done)
      |(exfalso;simp_all;omega)
    ·have uw:((s[0].toNat:Int) !=95)=true:=by simp;try omega
     go_wp2_with fail
     go_round
     case rel=>exact⟨0+1,by omega,by go_num,Lib.hid fun j hj yk=>by
      by_cases IL:j=0
      ·subst IL;simp[tW,kV,lk];omega
      ·exact dJ.out j hj (by omega)⟩
     case measure=>simp[intOf];try omega
    ·have uw:((s[0].toNat:Int) !=95)=true:=by simp;try omega
     go_wp2_with fail
     all_goals first
      |(go_ret;exact⟨iE (dU fun hh=>by have:=hh.2 0 dM;simp[tW,kV,lk]at this;omega),rfl⟩)
      |(exfalso;simp_all;done)
      |(exfalso;simp_all;omega)
    ·have uw:((s[0].toNat:Int) !=95)=false:=by simp;try omega
     go_wp2_with fail
     all_goals first
      |(go_ret;exact⟨iE (dU fun hh=>by have:=hh.2 0 dM;simp[tW,kV,lk]at this;omega),rfl⟩)
      |(exfalso;simp_all;done)
      |(exfalso;simp_all;omega)
    ·have uw:((s[0].toNat:Int) !=95)=true:=by simp;try omega
     go_wp2_with fail
     all_goals first
      |(go_ret;exact⟨iE (dU fun hh=>by have:=hh.2 0 dM;simp[tW,kV,lk]at this;omega),rfl⟩)
      |(exfalso;simp_all;done)
      |(exfalso;simp_all;omega)
    ·have uw:((s[0].toNat:Int) !=95)=true:=by simp;try omega
     go_wp2_with fail
     go_round
     case rel=>exact⟨0+1,by omega,by go_num,Lib.hid fun j hj yk=>by
      by_cases IL:j=0
      ·subst IL;simp[tW,kV,lk];omega
      ·exact dJ.out j hj (by omega)⟩
     case measure=>simp[intOf];try omega
    ·have uw:((s[0].toNat:Int) !=95)=true:=by simp;try omega
     go_wp2_with fail
     all_goals first
      |(go_ret;exact⟨iE (dU fun hh=>by have:=hh.2 0 dM;simp[tW,kV,lk]at this;omega),rfl⟩)
      |(exfalso;simp_all;done)
      |(exfalso;simp_all;omega)
   ·have hz:((k:Int)==0)=false:=by simpa using xc
    have xd:1<=k:=by omega
    clear xc
    rcases hc with h|⟨h,h'⟩|⟨h,h'⟩|⟨h,h'⟩|⟨h,h'⟩|⟨h,h'⟩|⟨h,h'⟩|⟨h,h'⟩|h
    ·have uw:((s[k].toNat:Int) !=95)=true:=by simp;try omega
     go_wp2_with fail
     all_goals first
      |(go_ret;exact⟨iE (dU fun hh=>by have:=hh.2 k dM;simp[tW,kV,lk]at this;omega),rfl⟩)
      |(exfalso;simp_all;done)
      |(exfalso;simp_all;omega)
    ·have uw:((s[k].toNat:Int) !=95)=true:=by simp;try omega
     go_wp2_with fail
     go_round
     case rel=>exact⟨k+1,by omega,by go_num,Lib.hid fun j hj yk=>by
      by_cases IL:j=k
      ·subst IL;simp[tW,kV,lk];omega
      ·exact dJ.out j hj (by omega)⟩
     case measure=>simp[intOf];try omega
    ·have uw:((s[k].toNat:Int) !=95)=true:=by simp;try omega
     go_wp2_with fail
     all_goals first
      |(go_ret;exact⟨iE (dU fun hh=>by have:=hh.2 k dM;simp[tW,kV,lk]at this;omega),rfl⟩)
      |(exfalso;simp_all;done)
      |(exfalso;simp_all;omega)
    ·have uw:((s[k].toNat:Int) !=95)=true:=by simp;try omega
     go_wp2_with fail
     go_round
     case rel=>exact⟨k+1,by omega,by go_num,Lib.hid fun j hj yk=>by
      by_cases IL:j=k
      ·subst IL;simp[tW,kV,lk];omega
      ·exact dJ.out j hj (by omega)⟩
     case measure=>simp[intOf];try omega
    ·have uw:((s[k].toNat:Int) !=95)=true:=by simp;try omega
     go_wp2_with fail
     all_goals first
      |(go_ret;exact⟨iE (dU fun hh=>by have:=hh.2 k dM;simp[tW,kV,lk]at this;omega),rfl⟩)
      |(exfalso;simp_all;done)
      |(exfalso;simp_all;omega)
    ·have uw:((s[k].toNat:Int) !=95)=false:=by simp;try omega
     go_wp2_with fail
     go_round
     case rel=>exact⟨k+1,by omega,by go_num,Lib.hid fun j hj yk=>by
      by_cases IL:j=k
      ·subst IL;simp[tW,kV,lk];omega
      ·exact dJ.out j hj (by omega)⟩
     case measure=>simp[intOf];try omega
    ·have uw:((s[k].toNat:Int) !=95)=true:=by simp;try omega
     go_wp2_with fail
     all_goals first
      |(go_ret;exact⟨iE (dU fun hh=>by have:=hh.2 k dM;simp[tW,kV,lk]at this;omega),rfl⟩)
      |(exfalso;simp_all;done)
      |(exfalso;simp_all;omega)
    ·have uw:((s[k].toNat:Int) !=95)=true:=by simp;try omega
     go_wp2_with fail
     go_round
     case rel=>exact⟨k+1,by omega,by go_num,Lib.hid fun j hj yk=>by
      by_cases IL:j=k
      ·subst IL;simp[tW,kV,lk];omega
      ·exact dJ.out j hj (by omega)⟩
     case measure=>simp[intOf];try omega
    ·have uw:((s[k].toNat:Int) !=95)=true:=by simp;try omega
     go_wp2_with fail
     all_goals first
      |(go_ret;exact⟨iE (dU fun hh=>by have:=hh.2 k dM;simp[tW,kV,lk]at this;omega),rfl⟩)
      |(exfalso;simp_all;done)
      |(exfalso;simp_all;omega)
  ·by_cases h1:1<=s.size
   ·by_cases h2:s.size<=12
    ·go_wp2_with fail
     go_ret
     exact⟨iE (Cd (by simp<;>omega) ⟨⟨h1,h2⟩,fun i h=>dJ.out i h (by omega)⟩),rfl⟩
    ·go_wp2_with fail
     go_ret
     exact⟨iE (rJ (by simp<;>omega) fun h=>h2 h.1.2),rfl⟩
   ·go_wp2_with fail
    go_ret
    exact⟨iE (rJ (by simp<;>omega) fun h=>h1 h.1.1),rfl⟩
end Go.Proofs.YtgoelphibofcmaaGreat

namespace Go.Proofs.YtgoelphibofcmaaGreat.V
open Go.RowKit
theorem mixed:Tryz.prog.follows .mixedOrders=true:=by kernel_rfl
variable {P:Program} {w:World} {D:Nat->Prop} {ι:Names}
theorem lQ {f:Nat} {args:List AV} {r:AV} {vs0:Array Value} {u0:Value} (nF:∀(w:World) (D:Nat->Prop) (ι:Names) vs,fo P w D ι args vs->vs=vs0) (hr:∀(w:World) (D:Nat->Prop) (ι:Names),cE P w D ι r u0) (CQ:∀g,gp g 6 r=some r)
  (h:∀w,Calls P f vs0 w fun e w'=>e=.returned u0/\Below w.heap.size w w'):aj P f args r:=by
 intro n
 refine gJ fun hs D ι w vs S U A=>?_
 have:=nF w D ι vs A
 subst this
 refine(h w).mono ?_
 rintro e w' ⟨rfl,hb⟩
 exact⟨r,_,n,D,ι,u0,rfl,⟨r,CQ _,rfl⟩,Step.stay S hb.block hb.size hb.os hb.tape hb.output (fun _ h=>h) (fun _ h=>.inl h) (fun _ _ h=>h),
  S.stay hb.block hb.size (fun _ h=>h) (fun b hd=>Nat.lt_of_lt_of_le (S.dead b hd) hb.size) (fun _ h=>.inl h) (fun _ _ h=>h),U,Nat.le_refl _,hr _ _ _⟩
theorem Co {s:ByteArray} {vs:Array Value} (h:fo P w D ι [.str s] vs):vs= #[.string s]:=by
 obtain⟨h1,h2⟩:=h
 obtain⟨u,hu,hr⟩:=h2 0 _ rfl
 rw[fC hr]at hu
 obtain⟨l⟩:=vs
 cases l with
 |nil=>simp at h1
 |cons a l=>cases l with
  |nil=>simp at hu;subst hu;rfl
  |cons b l=>simp at h1
theorem FG (s:ByteArray) (hs:s.size<=9223372036854775807):aj Tryz.prog 189 [.str s] (.bool (jJ s)):=
 lQ (fun _ _ _ _=>Co) (fun _ _ _=>.eP _ _ (.bool _)) (fun g=>fK g 5 _) fun w=>Cr w s hs
theorem Ft (s:ByteArray) (hs:s.size<=9223372036854775807):aj Tryz.prog 198 [.str s] (.bool (jJ s)):=
 lQ (fun _ _ _ _=>Co) (fun _ _ _=>.eP _ _ (.bool _)) (fun g=>fK g 5 _) fun w=>(BM w s hs).mono (by rintro e w' ⟨rfl,rfl⟩;exact⟨rfl,Below.refl _ _⟩)
end Go.Proofs.YtgoelphibofcmaaGreat.V

namespace Go.Proofs.YtgoelphibofcmaaGreat
open Go.RowKit
def tY (n:Nat):List UInt8:=if h:n=0 then[]else tY (n / 10)++[UInt8.ofNat (48+n % 10)]
termination_by n
decreasing_by omega
def oH (k:Int):ByteArray:=if k<=0 then⟨#[109,48]⟩else⟨(109::tY k.toNat).toArray⟩
theorem F9:tY 0=[]:=by unfold tY;simp
theorem Ih {n:Nat} (h:n≠0):tY n=tY (n / 10)++[UInt8.ofNat (48+n % 10)]:=by
 conv=>lhs;unfold tY
 rw[dif_neg h]
theorem x9 (c:UInt8) (l:ByteArray):((⟨#[c]⟩++l:ByteArray)).data.toList=c::l.data.toList:=by
 simp[ByteArray.data_append]
theorem Be:∀(m n:Nat),n<10 ^ m->(tY n).length<=m
 |0,n,h=>by
  have:n=0:=by simpa using h
  subst this;simp[tY]
 |m+1,n,h=>by
  unfold tY
  split
  ·simp
  ·have:=Be m (n / 10) (by rw[Nat.pow_succ]at h;omega)
   simp;omega
theorem zV (w:World) (k:Int) (h0:0<=k) (h1:k<=4611686018427387904):
  Calls Tryz.prog 179 #[.int .i64 k] w fun e w'=>e=.returned (.string (oH k))/\Below w.heap.size w w':=by
 by_cases hk:k<=0
 ·go_enter Tryz.func179,Tryz.ntmps179
  go_wp2_with fail
  go_ret
  exact⟨by simp[oH,hk],Below.refl _ _⟩
 ·go_enter Tryz.func179,Tryz.ntmps179
  go_wp2_with fail
  go_loopw [0,3] (fun a s wr=>∃(j:Int) (l:ByteArray),a=.int .i64 j/\s=.string l/\0<=j/\j<=4611686018427387904/\Hid (tY j.toNat++l.data.toList=tY k.toNat)/\Below w.heap.size w wr) (fun a _ _=>(intOf a).toNat)
  case atStart=>exact⟨k,⟨#[]⟩,rfl,rfl,h0,h1,Lib.hid (by simp),Below.refl _ _⟩
  case round=>
   obtain⟨j,l,rfl,rfl,hj0,hj1,hd,hb⟩:=hrel
   have fS:l.size<=19:=by
    have h1:=congrArg List.length hd.out
    have h2:=Be 19 k.toNat (by omega)
    rw[List.length_append]at h1
    have:l.data.toList.length=l.size:=by rw[Array.length_toList];rfl
    omega
   by_cases hj:0<j
   ·have Sn:∀v:Int,(convert 241 9 (.slice (some ⟨wr.heap.size,0,none⟩) 1 1)).run Tryz.prog (wr.alloc (.cells #[.int .u8 v] 5))=.ok (.string ⟨#[UInt8.ofNat v.toNat]⟩) (wr.alloc (.cells #[.int .u8 v] 5)):=by
     intro v
     rw[run_convert_bytes_string _ _ _ 5 _ _ _ Tryz.underlying241 Tryz.underlying5 Tryz.underlying9,run_bytesToString _ _ _ _ [v] (by simp[loadCells,loadCellsFrom,go_sem])]
     rfl
    have hr:=fS
    go_wp2_with fail
    go_roundw
    case rel=>
     refine⟨_,_,rfl,rfl,by omega,by omega,Lib.hid ?_,hb.alloc hb.size _⟩
     rw[<-hd.out,x9,Ih (show j.toNat≠0 by omega),show(j / 10).toNat=j.toNat / 10 by omega,show(48+j % 10).toNat=48+j.toNat % 10 by omega]
     simp
    case measure=>simp[intOf];omega
   ·go_wp2_with fail
    go_ret
    refine⟨?_,hb⟩
    have h1:=hd.out
    rw[show j.toNat=0 by omega,F9,List.nil_append]at h1
    have h2:(⟨#[109]⟩++l:ByteArray)=oH k:=by
     rw[oH,if_neg (by omega)]
     refine ByteArray.ext (Array.ext' ?_)
     rw[x9,h1]
    rw[h2];rfl
end Go.Proofs.YtgoelphibofcmaaGreat

namespace Go.Proofs.YtgoelphibofcmaaGreat.V
open Go.RowKit
attribute [local irreducible] dG wpOps gz Call
attribute [local go_sem] aL fU eV gw gr cK upd cw K.av cU AV.cells AV.cell rowOf rowsOf part ld rowAt bJ cr dK ep iC bR dj eF gq fh dz ew dh de ec ee bV bh cX bU cZ cY eu ez ev cW cj di er bS aQ db cG iA bz cN bW aX dn aZ dL AV.undef bG bK ef eo dW ea cJ eE eH cD eB eA da dc List.getD_cons_zero List.getD_cons_succ List.getD_nil List.all_cons List.all_nil Bool.and_true Bool.true_and Bool.and_self Bool.not_true Bool.not_false Option.map_some Option.map_none Option.bind_some Option.bind_none List.length_cons List.length_nil List.take_succ_cons List.take_zero List.take_nil List.drop_succ_cons List.drop_zero List.drop_nil List.head?_cons List.map_cons List.map_nil List.getElem?_cons_zero List.getElem?_cons_succ List.cons_append List.nil_append List.append_nil List.length_map List.set_cons_zero List.set_cons_succ Nat.reduceMul eq_self Int.toNat_natCast Int.natCast_nonneg and_self true_and and_true decide_true decide_false Bool.false_eq_true Nat.zero_add Nat.add_zero List.contains_cons List.contains_nil Bool.or_false Bool.false_or beq_self_eq_true Nat.reduceBEq ne_eq not_true_eq_false not_false_eq_true Id.mk.injEq false_and and_false Nat.reduceLT Int.reduceLE Int.reduceLT Int.reduceToNat Int.reduceNeg Int.reduceAdd Nat.le_refl List.length_append beq_true beq_false Bool.not_eq_eq_eq_not or_false false_or dX ai aq aH bj bE cu aW br aU bp cV bP
def pO (σ:au) (ids:List Id) (g:Rows) (n:Nat):Prop:=σ.next<=n/\∀x:Id,x.bq<σ.next->x∉ids->g x=σ.get x
theorem pO.trans {a b:au} {i j:List Id} {g:Rows} {n:Nat} (h:pO a i b.get b.next) (k:pO b j g n):pO a (i++j) g n:=
 ⟨Nat.le_trans h.1 k.1,fun x hx hi=>(k.2 x (Nat.lt_of_lt_of_le hx h.1) fun hc=>hi (by simp[hc])).trans (h.2 x hx fun hc=>hi (by simp[hc]))⟩
theorem pO.sub {a:au} {i j:List Id} {g:Rows} {n:Nat} (h:pO a i g n) (hs:∀x∈i,x∈j):pO a j g n:=⟨h.1,fun x hx hj=>h.2 x hx fun hi=>hj (hs x hi)⟩
theorem rT (l:List (List AV)) (i:Nat) (a b:List AV):(l.set i a).set i b=l.set i b:=List.set_set ..
theorem Ii {l:List Int} {j:Nat} (h:j<l.length):(l.map bf)[j]? =some [.int .i64 l[j]]:=by simp[h,bf]
theorem L6 {P:Program} {w:World} {D:Nat->Prop} {ι:Names} {k:Int} {vs:Array Value} (h:fo P w D ι [.int .i64 k] vs):vs= #[.int .i64 k]:=by
 obtain⟨h1,h2⟩:=h
 obtain⟨u,hu,hr⟩:=h2 0 _ rfl
 rw[dr hr]at hu
 obtain⟨l⟩:=vs
 cases l with
 |nil=>simp at h1
 |cons a l=>cases l with
  |nil=>simp at hu;subst hu;rfl
  |cons b l=>simp at h1
theorem vZ (k:Int) (h0:0<=k) (h1:k<=4611686018427387904):aj Tryz.prog 179 [.int .i64 k] (.str (oH k)):=
 lQ (vs0:= #[.int .i64 k]) (u0:=.string (oH k)) (fun _ _ _ _=>L6) (fun w D ι=>.eP _ _ (.str _)) (fun g=>K4 g 5 _) fun w=>zV w k h0 h1
theorem DZ (i:Id) (l:List Int) (k:Int) (h0:0<=k) (h1:k+l.length<=4611686018427387904) (σ:au) (hv:i.bq<σ.next) (hg:σ.get i=some ⟨true,1,l.map bf⟩):
  Call Tryz.prog 33 [.own i 0 l.length,.int .i64 k] σ (fun r σ'=>r=.int .i64 (k+l.length)/\pO σ [i] σ'.get σ'.next):=by
 refine eW ek rfl fun hl=>?_
 clear hl
 obtain⟨nn,hn⟩:∃nn,l.length=nn:=⟨_,rfl⟩
 rw[hn]at h1 ⊢
 (try((repeat(revert hN;revert N;apply Pn.out));refine wk @Nat.zero_add ?_;(repeat(refine Pn.mk ?_;intro N hN))))
 refine aI (fun n env st=>∃j:Nat,n=(nn)-j/\j<=(nn)/\env 5=.int .i64 (j:Int)/\env 1=.int .i64 (k+j)/\(pO σ [i] st.get st.next/\∃l':List Int,l'.length=nn/\st.get i=some ⟨true,1,l'.map bf⟩)) (nn) ⟨0,by omega,by omega,sl (tw @Int.add_zero @Int.natCast_zero),sl (tw @Int.add_zero @Int.natCast_zero),by(try dsimp only);exact⟨⟨by(try dsimp only);omega,fun x _ _=>rfl⟩,l,hn,hg⟩⟩ ?_
 rintro n_a env_a st_a ⟨j,rfl,ale,a5,a1,j9⟩ dp
 have a0:=dp 0 (by kernel_rfl)
 simp only[go_sem, ↓reduceIte,Nat.reduceEqDiff,Nat.reduceAdd,Nat.reduceSub,Nat.reduceLeDiff,reduceCtorEq,Int.add_zero,Int.natCast_zero]at a0
 clear dp
 obtain⟨⟨an,aF⟩,l',al,ag⟩:=j9
 by_cases hj:(j:Int)<(nn:Int)
 ·have ck:∀{e:Env} {gg:Rows} {nx:Nat},(e 5=.int .i64 (IntKind.i64.wrap ((j:Int)+1)))->(e 1=.int .i64 (k+(j+1)))->(pO σ [i] gg nx/\∃l':List Int,l'.length=nn/\gg i=some ⟨true,1,l'.map bf⟩)->∃m0,m0<(nn)-j/\∃j:Nat,m0=(nn)-j/\j<=(nn)/\e 5=.int .i64 (j:Int)/\e 1=.int .i64 (k+j)/\(pO σ [i] gg nx/\∃l':List Int,l'.length=nn/\gg i=some ⟨true,1,l'.map bf⟩):=fun x1 x2 x3=>⟨_,by omega,j+1,rfl,by omega,(by rw[x1,aA (by omega)]),x2,x3⟩
  have iO:j<l'.length:=by omega
  have fb:=Ii iO
  have dO:(l'.map bf).set j [.int .i64 (k+j)]=(l'.set j (k+j)).map bf:=by rw[List.map_set];rfl
  have hw:IntKind.i64.wrap (k+(j:Int)+1)=k+((j:Int)+1):=by rw[aV (by omega)];omega
  (try((repeat(revert hN;revert N;apply Pn.out));refine wk (tw @a5 (tw @a1 (tw @a0 (tw @hj (tw @ag (tw @fb (tw @dO @hw))))))) ?_;(repeat(refine Pn.mk ?_;intro N hN))))
  refine ck ?_ ?_ (by(try dsimp only);exact⟨⟨by(try dsimp only);omega,fun x hx hi=>by
   have h2:=aF x hx hi
   have h3:(x=i)=False:=eq_false fun e=>hi (by simp[e])
   simp only[go_sem, ↓reduceIte,Nat.reduceEqDiff,Nat.reduceAdd,Nat.reduceSub,Nat.reduceLeDiff,reduceCtorEq,h2,h3]⟩,l'.set j (k+j),by simp[al],sl @Nat.zero_add⟩)
  all_goals simp only[go_sem, ↓reduceIte,Nat.reduceEqDiff,Nat.reduceAdd,Nat.reduceSub,Nat.reduceLeDiff,reduceCtorEq,a5,a1,a0,hw]
 ·have iO:j=nn:=by omega
  subst iO
  (try((repeat(revert hN;revert N;apply Pn.out));refine wk (tw @a5 (tw @a1 (tw @a0 @hj))) ?_;(repeat(refine Pn.mk ?_;intro N hN))))
  exact fc (.inl rfl) (vs:=[.int .i64 (k+j)]) (sd (tw @a5 (tw @a1 @a0))) ⟨rfl,⟨by(try dsimp only);omega,fun x hx hi=>aF x hx hi⟩⟩
def Ca (k:Int) (n:Nat):List ah:=(List.range n).map fun j:Nat=>⟨⟨k+3*(j:Int),k+3*(j:Int)+1⟩,k+3*(j:Int)+2⟩
theorem iv (k:Int) (n:Nat):(Ca k n).length=n:=by simp[Ca]
theorem Jo (k:Int) (n:Nat):Ca k (n+1)=Ca k n++[⟨⟨k+3*(n:Int),k+3*(n:Int)+1⟩,k+3*(n:Int)+2⟩]:=by simp[Ca,List.range_succ]
def jE (k:Int) (l:List ah) (j:Nat):List ah:=Ca k j++l.drop j
theorem Cb {k:Int} {l:List ah} {j:Nat} (h:j<=l.length):(jE k l j).length=l.length:=by simp[jE,iv];omega
theorem FA {k:Int} {l:List ah} {j:Nat} (h:j<l.length):((jE k l j).map ad)[j]? =some [.int .i64 l[j].aO.eY,.int .i64 l[j].aO.eU,.int .i64 l[j].bd]:=by
 rw[List.getElem?_map,jE,List.getElem?_append_right (by rw[iv];omega),iv,Nat.sub_self,List.getElem?_drop,Nat.add_zero,List.getElem?_eq_getElem h];rfl
theorem Cc {k:Int} {l:List ah} {j:Nat} (h:j<l.length):((jE k l j).map ad).set j [.int .i64 (k+3*(j:Int)),.int .i64 (k+3*(j:Int)+1),.int .i64 (k+3*(j:Int)+2)]=(jE k l (j+1)).map ad:=by
 have:(jE k l j).set j ⟨⟨k+3*(j:Int),k+3*(j:Int)+1⟩,k+3*(j:Int)+2⟩=jE k l (j+1):=by
  rw[jE,List.set_append_right _ _ (by rw[iv];omega),iv,Nat.sub_self,List.drop_eq_getElem_cons h,List.set_cons_zero,jE,Jo,List.append_assoc];rfl
 rw[<-this,List.map_set];rfl
theorem zU (i:Id) (l:List ah) (k:Int) (h0:0<=k) (h1:k+3*l.length<=4611686018427387904) (σ:au) (hv:i.bq<σ.next) (hg:σ.get i=some ⟨true,3,l.map ad⟩):
  Call Tryz.prog 77 [.own i 0 l.length,.int .i64 k] σ (fun r σ'=>r=.int .i64 (k+3*l.length)/\pO σ [i] σ'.get σ'.next/\σ'.get i=some ⟨true,3,(Ca k l.length).map ad⟩):=by
 refine eW ek rfl fun hl=>?_
 clear hl
 have hz:jE k l 0=l:=by simp[jE,Ca]
 (try((repeat(revert hN;revert N;apply Pn.out));refine wk @Nat.zero_add ?_;(repeat(refine Pn.mk ?_;intro N hN))))
 refine aI (fun n env st=>∃j:Nat,n=(l.length)-j/\j<=(l.length)/\env 5=.int .i64 (j:Int)/\env 1=.int .i64 (k+3*j)/\st.get i=some ⟨true,3,(jE k l j).map ad⟩/\(pO σ [i] st.get st.next)) (l.length) ⟨0,by omega,by omega,sl (tw @Int.add_zero (tw @Int.natCast_zero (tw @Int.mul_zero (tw @hz @hg)))),sl (tw @Int.add_zero (tw @Int.natCast_zero (tw @Int.mul_zero (tw @hz @hg)))),sl (tw @Int.add_zero (tw @Int.natCast_zero (tw @Int.mul_zero (tw @hz @hg)))),by(try dsimp only);exact⟨by(try dsimp only);omega,fun x _ _=>rfl⟩⟩ ?_
 rintro n_a env_a st_a ⟨j,rfl,ale,a5,a1,ag0,j9⟩ dp
 have a0:=dp 0 (by kernel_rfl)
 simp only[go_sem, ↓reduceIte,Nat.reduceEqDiff,Nat.reduceAdd,Nat.reduceSub,Nat.reduceLeDiff,reduceCtorEq,Int.add_zero,Int.natCast_zero,Int.mul_zero,hz,hg]at a0
 clear dp
 obtain⟨an,aF⟩:=j9
 by_cases hj:(j:Int)<(l.length:Int)
 ·have ck:∀{e:Env} {gg:Rows} {nx:Nat},(e 5=.int .i64 (IntKind.i64.wrap ((j:Int)+1)))->(e 1=.int .i64 (k+3*(j+1)))->(gg i=some ⟨true,3,(jE k l (j+1)).map ad⟩)->(pO σ [i] gg nx)->∃m0,m0<(l.length)-j/\∃j:Nat,m0=(l.length)-j/\j<=(l.length)/\e 5=.int .i64 (j:Int)/\e 1=.int .i64 (k+3*j)/\gg i=some ⟨true,3,(jE k l j).map ad⟩/\(pO σ [i] gg nx):=fun x1 x2 x3 x4=>⟨_,by omega,j+1,rfl,by omega,(by rw[x1,aA (by omega)]),x2,x3,x4⟩
  have iO:j<l.length:=by omega
  have fb:=FA (k:=k) iO
  have dO:=Cc (k:=k) iO
  have mW:IntKind.i64.wrap (k+3*(j:Int)+1)=k+3*(j:Int)+1:=aV (by omega)
  have oF:IntKind.i64.wrap (k+3*(j:Int)+1+1)=k+3*(j:Int)+2:=by rw[aV (by omega)];omega
  have I6:IntKind.i64.wrap (k+3*(j:Int)+2+1)=k+3*((j:Int)+1):=by rw[aV (by omega)];omega
  have hlen:((jE k l j).map ad).length=l.length:=by rw[List.length_map,Cb (by omega)]
  have IJ:∀c:List AV,(((jE k l j).map ad).set j c)[j]? =some c:=fun c=>by rw[List.getElem?_set_self (by rw[hlen];exact iO)]
  (try((repeat(revert hN;revert N;apply Pn.out));refine wk (tw @a5 (tw @a1 (tw @ag0 (tw @a0 (tw @hj (tw @fb (tw @IJ (tw @dO (tw @mW (tw @oF (tw @I6 (tw @hlen @rT)))))))))))) ?_;(repeat(refine Pn.mk ?_;intro N hN))))
  refine ck ?_ ?_ ?_ (by(try dsimp only);exact⟨by(try dsimp only);omega,fun x hx hi=>by
   have h2:=aF x hx hi
   have h3:(x=i)=False:=eq_false fun e=>hi (by simp[e])
   simp only[go_sem, ↓reduceIte,Nat.reduceEqDiff,Nat.reduceAdd,Nat.reduceSub,Nat.reduceLeDiff,reduceCtorEq,h2,h3]⟩)
  all_goals simp only[go_sem, ↓reduceIte,Nat.reduceEqDiff,Nat.reduceAdd,Nat.reduceSub,Nat.reduceLeDiff,reduceCtorEq,a5,a1,ag0,a0,I6,dO]
 ·have iO:j=l.length:=by omega
  subst iO
  (try((repeat(revert hN;revert N;apply Pn.out));refine wk (tw @a5 (tw @a1 (tw @ag0 (tw @a0 @hj)))) ?_;(repeat(refine Pn.mk ?_;intro N hN))))
  have kh:jE k l l.length=Ca k l.length:=by simp[jE]
  rw[kh]at ag0
  exact fc (.inl rfl) (vs:=[.int .i64 (k+3*l.length)]) (sd (tw @a5 (tw @a1 (tw @ag0 @a0)))) ⟨rfl,⟨by(try dsimp only);omega,fun x hx hi=>aF x hx hi⟩,ag0⟩
theorem B3 (i:Id) (l:List fB) (k:Int) (h0:0<=k) (h1:k+2*l.length<=4611686018427387904) (σ:au) (hv:i.bq<σ.next) (hg:σ.get i=some ⟨true,2,l.map bD⟩):
  Call Tryz.prog 131 [.own i 0 l.length,.int .i64 k] σ (fun r σ'=>r=.int .i64 (k+2*l.length)/\pO σ [i] σ'.get σ'.next):=by
 refine eW ek rfl fun hl=>?_
 clear hl
 obtain⟨nn,hn⟩:∃nn,l.length=nn:=⟨_,rfl⟩
 rw[hn]at h1 ⊢
 (try((repeat(revert hN;revert N;apply Pn.out));refine wk @Nat.zero_add ?_;(repeat(refine Pn.mk ?_;intro N hN))))
 refine aI (fun n env st=>∃j:Nat,n=(nn)-j/\j<=(nn)/\env 5=.int .i64 (j:Int)/\env 1=.int .i64 (k+2*j)/\(pO σ [i] st.get st.next/\∃l':List fB,l'.length=nn/\st.get i=some ⟨true,2,l'.map bD⟩)) (nn) ⟨0,by omega,by omega,sl (tw @Int.add_zero (tw @Int.natCast_zero @Int.mul_zero)),sl (tw @Int.add_zero (tw @Int.natCast_zero @Int.mul_zero)),by(try dsimp only);exact⟨⟨by(try dsimp only);omega,fun x _ _=>rfl⟩,l,hn,hg⟩⟩ ?_
 rintro n_a env_a st_a ⟨j,rfl,ale,a5,a1,j9⟩ dp
 have a0:=dp 0 (by kernel_rfl)
 simp only[go_sem, ↓reduceIte,Nat.reduceEqDiff,Nat.reduceAdd,Nat.reduceSub,Nat.reduceLeDiff,reduceCtorEq,Int.add_zero,Int.natCast_zero,Int.mul_zero]at a0
 clear dp
 obtain⟨⟨an,aF⟩,l',al,ag⟩:=j9
 by_cases hj:(j:Int)<(nn:Int)
 ·have ck:∀{e:Env} {gg:Rows} {nx:Nat},(e 5=.int .i64 (IntKind.i64.wrap ((j:Int)+1)))->(e 1=.int .i64 (k+2*(j+1)))->(pO σ [i] gg nx/\∃l':List fB,l'.length=nn/\gg i=some ⟨true,2,l'.map bD⟩)->∃m0,m0<(nn)-j/\∃j:Nat,m0=(nn)-j/\j<=(nn)/\e 5=.int .i64 (j:Int)/\e 1=.int .i64 (k+2*j)/\(pO σ [i] gg nx/\∃l':List fB,l'.length=nn/\gg i=some ⟨true,2,l'.map bD⟩):=fun x1 x2 x3=>⟨_,by omega,j+1,rfl,by omega,(by rw[x1,aA (by omega)]),x2,x3⟩
  have iO:j<l'.length:=by omega
  have fb:(l'.map bD)[j]? =some [.str l'[j].aD,.int .i64 l'[j].eh]:=by simp[iO,bD]
  have hlen:(l'.map bD).length=nn:=by rw[List.length_map,al]
  have IJ:∀c:List AV,((l'.map bD).set j c)[j]? =some c:=fun c=>by rw[List.getElem?_set_self (by rw[List.length_map];exact iO)]
  have ht:=vZ (k+2*(j:Int)) (by omega) (by omega)
  have mW:IntKind.i64.wrap (k+2*(j:Int)+1)=k+2*(j:Int)+1:=aV (by omega)
  have oF:IntKind.i64.wrap (k+2*(j:Int)+1+1)=k+2*((j:Int)+1):=by rw[aV (by omega)];omega
  generalize oH (k+2*(j:Int))=mt at ht
  have dO:(l'.map bD).set j [.str mt,.int .i64 (k+2*(j:Int)+1)]=(l'.set j ⟨mt,k+2*(j:Int)+1⟩).map bD:=by rw[List.map_set];rfl
  (repeat(first|((repeat(revert hN;revert N;apply Pn.out));refine wk (tw @a5 (tw @a1 (tw @a0 (tw @hj (tw @ag (tw @fb (tw @IJ (tw @dO (tw @mW (tw @oF (tw @hlen @rT))))))))))) ?_;(repeat(refine Pn.mk ?_;intro N hN)))|((try apply Or.inl);refine⟨_,aj.x (ht) (sd (tw @a5 (tw @a1 (tw @a0 (tw @hj (tw @ag (tw @fb (tw @IJ (tw @dO (tw @mW (tw @oF (tw @hlen @rT)))))))))))),?_⟩;refine hN _ _ ?_;clear hN N)))
  refine ck ?_ ?_ (by(try dsimp only);exact⟨⟨by(try dsimp only);omega,fun x hx hi=>by
   have h2:=aF x hx hi
   have h3:(x=i)=False:=eq_false fun e=>hi (by simp[e])
   simp only[go_sem, ↓reduceIte,Nat.reduceEqDiff,Nat.reduceAdd,Nat.reduceSub,Nat.reduceLeDiff,reduceCtorEq,h2,h3]⟩,l'.set j ⟨mt,k+2*(j:Int)+1⟩,by simp[al],sl @Nat.zero_add⟩)
  all_goals simp only[go_sem, ↓reduceIte,Nat.reduceEqDiff,Nat.reduceAdd,Nat.reduceSub,Nat.reduceLeDiff,reduceCtorEq,a5,a1,a0,oF,dO]
 ·have iO:j=nn:=by omega
  subst iO
  (try((repeat(revert hN;revert N;apply Pn.out));refine wk (tw @a5 (tw @a1 (tw @a0 @hj))) ?_;(repeat(refine Pn.mk ?_;intro N hN))))
  exact fc (.inl rfl) (vs:=[.int .i64 (k+2*j)]) (sd (tw @a5 (tw @a1 @a0))) ⟨rfl,⟨by(try dsimp only);omega,fun x hx hi=>aF x hx hi⟩⟩
end Go.Proofs.YtgoelphibofcmaaGreat.V

namespace Go.Proofs.YtgoelphibofcmaaGreat.V
open Go.RowKit
attribute [local irreducible] dG wpOps gz Call
attribute [local go_sem] aL fU eV gw gr cK upd cw K.av cU AV.cells AV.cell rowOf rowsOf part ld rowAt bJ cr dK ep iC bR dj eF gq fh dz ew dh de ec ee bV bh cX bU cZ cY eu ez ev cW cj di er bS aQ db cG iA bz cN bW aX dn aZ dL AV.undef bG bK ef eo dW ea cJ eE eH cD eB eA da dc List.getD_cons_zero List.getD_cons_succ List.getD_nil List.all_cons List.all_nil Bool.and_true Bool.true_and Bool.and_self Bool.not_true Bool.not_false Option.map_some Option.map_none Option.bind_some Option.bind_none List.length_cons List.length_nil List.take_succ_cons List.take_zero List.take_nil List.drop_succ_cons List.drop_zero List.drop_nil List.head?_cons List.map_cons List.map_nil List.getElem?_cons_zero List.getElem?_cons_succ List.cons_append List.nil_append List.append_nil List.length_map List.set_cons_zero List.set_cons_succ Nat.reduceMul eq_self Int.toNat_natCast Int.natCast_nonneg and_self true_and and_true decide_true decide_false Bool.false_eq_true Nat.zero_add Nat.add_zero List.contains_cons List.contains_nil Bool.or_false Bool.false_or beq_self_eq_true Nat.reduceBEq ne_eq not_true_eq_false not_false_eq_true Id.mk.injEq false_and and_false Nat.reduceLT Int.reduceLE Int.reduceLT Int.reduceToNat Int.reduceNeg Int.reduceAdd Nat.le_refl List.length_append beq_true beq_false Bool.not_eq_eq_eq_not or_false false_or dX ai aq aH bj bE cu aW br aU bp cV bP
theorem iD.flat {α:Type} {e:α->List AV} {z:Nat} {g:Rows} {a:AV} {xs:List α} {ids:List Id} (h:iD (lv e) z g a xs ids):∃o,a=.own o 0 xs.length/\g o=some ⟨true,z,xs.map e⟩/\ids=[o]:=by
 obtain⟨o,rows,is,h1,h2,h3,rfl⟩:=h
 have:∀{rows:List (List AV)} {xs:List α} {is:List Id},eD (lv e) g rows xs is->rows=xs.map e/\is=[]:=fun h=>by
  induction h with
  |nil=>exact⟨rfl,rfl⟩
  |cons h1 _ ih=>obtain⟨rfl,rfl⟩:=h1;obtain⟨rfl,rfl⟩:=ih;exact⟨rfl,rfl⟩
 obtain⟨rfl,rfl⟩:=this h3
 exact⟨o,h1,h2,rfl⟩
def gE (t:eT):Nat:=1+t.bt.length
theorem B4 (a:AV) (l:List eT) (ids:List Id) (k:Int) (h0:0<=k) (AM:l.length<=1048576) (h1:k+(l.map gE).sum<=4611686018427387904) (σ:au) (hv:∀i∈ids,i.bq<σ.next) (mc:ids.Nodup) (hg:iD oe 2 σ.get a l ids):
  Call Tryz.prog 132 [a,.int .i64 k] σ (fun r σ'=>r=.int .i64 (k+(l.map gE).sum)/\pO σ ids σ'.get σ'.next):=by
 obtain⟨o,rows,is,rfl,ho,hR,rfl⟩:=hg
 refine eW ek rfl fun hl=>?_
 clear hl
 have pK:=hv o (by simp)
 have MX:=mv gE l
 (try((repeat(revert hN;revert N;apply Pn.out));refine wk @Nat.zero_add ?_;(repeat(refine Pn.mk ?_;intro N hN))))
 refine aI (fun n env st=>∃j:Nat,n=(l.length)-j/\j<=(l.length)/\env 5=.int .i64 (j:Int)/\env 1=.int .i64 (k+iI gE l j)/\(pO σ (o::is) st.get st.next/\∃pre rest ir,st.get o=some ⟨true,2,pre++rest⟩/\pre.length=j/\eD oe st.get rest (l.drop j) ir/\(o::ir).Nodup/\∀i∈ir,i∈is)) (l.length) ⟨0,by omega,by omega,sl (tw @Int.add_zero (tw @Int.natCast_zero @MX)),sl (tw @Int.add_zero (tw @Int.natCast_zero @MX)),by(try dsimp only);exact⟨⟨by(try dsimp only);omega,fun x _ _=>rfl⟩,[],rows,is,ho,rfl,hR,mc,fun _ h=>h⟩⟩ ?_
 rintro n_a env_a st_a ⟨j,rfl,ale,a5,a1,j9⟩ dp
 have a0:=dp 0 (by kernel_rfl)
 simp only[go_sem, ↓reduceIte,Nat.reduceEqDiff,Nat.reduceAdd,Nat.reduceSub,Nat.reduceLeDiff,reduceCtorEq,Int.add_zero,Int.natCast_zero,MX]at a0
 clear dp
 obtain⟨⟨an,aF⟩,pre,rest,ir,ag,apl,aR,aN,aS⟩:=j9
 by_cases hj:(j:Int)<(l.length:Int)
 ·have ck:∀{e:Env} {gg:Rows} {nx:Nat},(e 5=.int .i64 (IntKind.i64.wrap ((j:Int)+1)))->(e 1=.int .i64 (k+iI gE l (j+1)))->(pO σ (o::is) gg nx/\∃pre rest ir,gg o=some ⟨true,2,pre++rest⟩/\pre.length=(j+1)/\eD oe gg rest (l.drop (j+1)) ir/\(o::ir).Nodup/\∀i∈ir,i∈is)->∃m0,m0<(l.length)-j/\∃j:Nat,m0=(l.length)-j/\j<=(l.length)/\e 5=.int .i64 (j:Int)/\e 1=.int .i64 (k+iI gE l j)/\(pO σ (o::is) gg nx/\∃pre rest ir,gg o=some ⟨true,2,pre++rest⟩/\pre.length=j/\eD oe gg rest (l.drop j) ir/\(o::ir).Nodup/\∀i∈ir,i∈is):=fun x1 x2 x3=>⟨_,by omega,j+1,rfl,by omega,(by rw[x1,aA (by omega)]),x2,x3⟩
  have iO:j<l.length:=by omega
  have Oy:=wP gE iO
  have hle:=p4 gE l (j+1)
  obtain⟨t,htj⟩:∃t,l[j]=t:=⟨_,rfl⟩
  rw[List.drop_eq_getElem_cons iO,htj]at aR
  rw[htj]at Oy
  cases aR with
  | @cons cs _ ic rs _ i2 hT Qw=>
  obtain⟨i,rfl,hi,rfl⟩:=hT
  rw[List.singleton_append]at aN aS
  obtain⟨n1,n2⟩:=List.nodup_cons.1 aN
  obtain⟨n3,n4⟩:=List.nodup_cons.1 n2
  have PM:(o=i)=False:=eq_false fun e=>n1 (by simp[e])
  have PI:(i=o)=False:=eq_false fun e=>n1 (by simp[e])
  have hiv:i.bq<σ.next:=hv i (by simp[aS i (by simp)])
  have QY:gE t=1+t.bt.length:=rfl
  have ht:=vZ (k+(iI gE l j:Nat)) (by omega) (by omega)
  have mW:IntKind.i64.wrap (k+(iI gE l j:Nat)+1)=k+(iI gE l j:Nat)+1:=aV (by omega)
  generalize oH (k+(iI gE l j:Nat))=mt at ht
  have fb:(pre++[.str t.aD,.own i 0 t.bt.length]::rs)[j]? =some [.str t.aD,.own i 0 t.bt.length]:=by subst apl;simp
  have dO:(pre++[.str t.aD,.own i 0 t.bt.length]::rs).set j [.str mt,.own i 0 t.bt.length]=pre++[.str mt,.own i 0 t.bt.length]::rs:=by subst apl;simp
  have MN:(pre++[.str mt,.own i 0 t.bt.length]::rs)[j]? =some [.str mt,.own i 0 t.bt.length]:=by subst apl;simp
  (repeat(first|((repeat(revert hN;revert N;apply Pn.out));refine wk (tw @a5 (tw @a1 (tw @a0 (tw @hj (tw @ag (tw @fb (tw @dO (tw @MN (tw @mW (tw @PM (tw @PI @hi))))))))))) ?_;(repeat(refine Pn.mk ?_;intro N hN)))|((try apply Or.inl);refine⟨_,aj.x (ht) (sd (tw @a5 (tw @a1 (tw @a0 (tw @hj (tw @ag (tw @fb (tw @dO (tw @MN (tw @mW (tw @PM (tw @PI @hi)))))))))))),?_⟩;refine hN _ _ ?_;clear hN N)))
  refine .inr (aG _ _ _ _ _ (fun r σ1 hq=>?_) (DZ i t.bt (k+(iI gE l j:Nat)+1) (by omega) (by omega) _ (by(try dsimp only);omega) (sd (tw @PM (tw @PI @hi)))))
  obtain⟨g1,x1⟩:=σ1
  obtain⟨rfl,yn,ue⟩:=hq
  (try dsimp only at yn ue)
  refine hN _ _ ?_
  clear hN N
  have Ua:k+(iI gE l j:Nat)+1+t.bt.length=k+(iI gE l (j+1):Nat):=by omega
  (try((repeat(revert hN;revert N;apply Pn.out));refine wk (tw @a5 (tw @a1 (tw @a0 @Ua))) ?_;(repeat(refine Pn.mk ?_;intro N hN))))
  have gk:∀x:Id,x.bq<σ.next->x≠o->x≠i->g1 x=st_a.get x:=fun x hx h3 h4=>by
   have h2:=ue x (by(try dsimp only);omega) (by simp[h4])
   have h5:=eq_false h3
   simp only[go_sem, ↓reduceIte,Nat.reduceEqDiff,Nat.reduceAdd,Nat.reduceSub,Nat.reduceLeDiff,reduceCtorEq,h5]at h2
   exact h2
  have go:=ue o (by(try dsimp only);omega) (by simp only[List.mem_singleton];exact fun e=>n1 (by simp[e]))
  simp only[go_sem, ↓reduceIte,Nat.reduceEqDiff,Nat.reduceAdd,Nat.reduceSub,Nat.reduceLeDiff,reduceCtorEq]at go
  refine ck ?_ ?_ (by(try dsimp only);exact⟨⟨by(try dsimp only);omega,fun x hx hi=>by
   have h3:x≠o:=fun e=>hi (by simp[e])
   have h4:x≠i:=fun e=>hi (by simp[e,aS i (by simp)])
   rw[gk x hx h3 h4]
   exact aF x hx hi⟩,pre++[[.str mt,.own i 0 t.bt.length]],rs,i2,by rw[go];simp,by simp[apl],Qw.frame qL (fun x hx=>gk x (hv x (by simp[aS x (by simp[hx])])) (fun e=>n1 (by simp[<-e,hx])) (fun e=>n3 (by rw[<-e];exact hx))),List.nodup_cons.2 ⟨fun h=>n1 (by simp[h]),n4⟩,fun x hx=>aS x (by simp[hx])⟩)
  all_goals simp only[go_sem, ↓reduceIte,Nat.reduceEqDiff,Nat.reduceAdd,Nat.reduceSub,Nat.reduceLeDiff,reduceCtorEq,a5,a1,a0,Ua]
 ·have iO:j=l.length:=by omega
  subst iO
  have dJ:=Cv gE l
  rw[dJ]at a1
  (try((repeat(revert hN;revert N;apply Pn.out));refine wk (tw @a5 (tw @a1 (tw @a0 @hj))) ?_;(repeat(refine Pn.mk ?_;intro N hN))))
  exact fc (.inl rfl) (vs:=[.int .i64 (k+(l.map gE).sum)]) (sd (tw @a5 (tw @a1 @a0))) ⟨rfl,⟨by(try dsimp only);omega,fun x hx hi=>aF x hx hi⟩⟩
theorem yG (v:AV) (p:dI) (ids:List Id) (k:Int) (h0:0<=k) (h1:k+3*p.ae.length<=4611686018427387904) (σ:au) (hv:∀i∈ids,i.bq<σ.next) (hg:xf σ.get v p ids):
  Call Tryz.prog 32 [v,.int .i64 k] σ (fun r σ'=>r=.int .i64 (k+3*p.ae.length)/\pO σ ids σ'.get σ'.next):=by
 obtain⟨c,rfl,hc⟩:=hg
 obtain⟨o,rfl,ho,rfl⟩:=hc.flat
 refine eW ek rfl fun hl=>?_
 clear hl
 have pK:=dq (hv o (by simp))
 have Lo:=hv o (by simp)
 (try((repeat(revert hN;revert N;apply Pn.out));refine wk @Nat.zero_add ?_;(repeat(refine Pn.mk ?_;intro N hN))))
 refine .inr (aG _ _ _ _ _ (fun r σ1 hq=>?_) (zU o p.ae k h0 h1 _ (by(try dsimp only);omega) (sd (tw @pK @ho))))
 obtain⟨g1,x1⟩:=σ1
 obtain⟨rfl,⟨yn,ue⟩,_⟩:=hq
 (try dsimp only at yn ue)
 refine hN _ _ ?_
 clear hN N
 (try((repeat(revert hN;revert N;apply Pn.out));refine wk @Nat.zero_add ?_;(repeat(refine Pn.mk ?_;intro N hN))))
 exact fc (.inl rfl) (vs:=[.int .i64 (k+3*p.ae.length)]) (sd @Nat.zero_add) ⟨rfl,⟨by(try dsimp only);omega,fun x hx hi=>by
  have h2:=ue x (by(try dsimp only);omega) hi
  have h3:=dq hx
  simp only[go_sem, ↓reduceIte,Nat.reduceEqDiff,Nat.reduceAdd,Nat.reduceSub,Nat.reduceLeDiff,reduceCtorEq,h3]at h2
  exact h2⟩⟩
def BZ (s:aM):Nat:=2*s.ax.aB.length+(s.ax.ae.map gE).sum+3*s.bF.ae.length
theorem GL (a b:AV) (p:aw) (i1 i2:List Id) (k:Int) (h0:0<=k) (AM:p.ae.length<=1048576) (h1:k+2*p.aB.length+(p.ae.map gE).sum<=4611686018427387904) (σ:au) (hv:∀i∈i1++i2,i.bq<σ.next) (mc:(i1++i2).Nodup)
  (hA:iD (lv bD) 2 σ.get a p.aB i1) (hB:iD oe 2 σ.get b p.ae i2):
  Call Tryz.prog 76 [.agg [a,b],.int .i64 k] σ (fun r σ'=>r=.int .i64 (k+2*p.aB.length+(p.ae.map gE).sum)/\pO σ (i1++i2) σ'.get σ'.next):=by
 obtain⟨_,n2,n3⟩:=List.nodup_append.1 mc
 obtain⟨o,rfl,ho,rfl⟩:=hA.flat
 obtain⟨ob,rfl⟩:=hB.kT
 refine eW ek rfl fun hl=>?_
 clear hl
 have Lo:=hv o (by simp)
 have pK:=dq Lo
 (try((repeat(revert hN;revert N;apply Pn.out));refine wk @Nat.zero_add ?_;(repeat(refine Pn.mk ?_;intro N hN))))
 refine .inr (aG _ _ _ _ _ (fun r σ1 hq=>?_) (B3 o p.aB k h0 (by omega) _ (by(try dsimp only);omega) (sd (tw @pK @ho))))
 obtain⟨g1,x1⟩:=σ1
 obtain⟨rfl,yn,ue⟩:=hq
 (try dsimp only at yn ue)
 refine hN _ _ ?_
 clear hN N
 have k1:=ue ⟨76000000,σ.next⟩ (by(try dsimp only);omega) (by simp only[List.mem_singleton];intro e;rw[<-e]at Lo;(try dsimp only at Lo);omega)
 simp only[go_sem, ↓reduceIte,Nat.reduceEqDiff,Nat.reduceAdd,Nat.reduceSub,Nat.reduceLeDiff,reduceCtorEq]at k1
 (try((repeat(revert hN;revert N;apply Pn.out));refine wk @k1 ?_;(repeat(refine Pn.mk ?_;intro N hN))))
 have hf:∀x:Id,x.bq<σ.next->x≠o->g1 x=σ.get x:=fun x hx ho=>by
  have h2:=ue x (by(try dsimp only);omega) (by simp[ho])
  have h3:=dq hx
  simp only[go_sem, ↓reduceIte,Nat.reduceEqDiff,Nat.reduceAdd,Nat.reduceSub,Nat.reduceLeDiff,reduceCtorEq,h3]at h2
  exact h2
 refine .inr (aG _ _ _ _ _ (fun r σ2 hq=>?_) (B4 _ p.ae i2 (k+2*p.aB.length) (by omega) AM h1 _ (fun i hi=>by have:=hv i (by simp[hi]);(try dsimp only);omega) n2 (hB.frame qL fun i hi=>hf i (hv i (by simp[hi])) fun e=>n3 o (by simp) i hi e.symm)))
 obtain⟨g2,x2⟩:=σ2
 obtain⟨rfl,Gm,DJ⟩:=hq
 (try dsimp only at Gm DJ)
 refine hN _ _ ?_
 clear hN N
 (try((repeat(revert hN;revert N;apply Pn.out));refine wk @Nat.zero_add ?_;(repeat(refine Pn.mk ?_;intro N hN))))
 exact fc (.inl rfl) (vs:=[.int .i64 (k+2*p.aB.length+(p.ae.map gE).sum)]) (sd @Nat.zero_add) ⟨rfl,⟨by(try dsimp only);omega,fun x hx hi=>(DJ x (by(try dsimp only);omega) fun h=>hi (by simp[h])).trans (hf x hx fun e=>hi (by simp[e]))⟩⟩
theorem GM (v:AV) (p:aM) (ids:List Id) (k:Int) (h0:0<=k) (AM:p.ax.ae.length<=1048576) (h1:k+BZ p<=4611686018427387904) (σ:au) (hv:∀i∈ids,i.bq<σ.next) (mc:ids.Nodup) (hg:y7 σ.get v p ids):
  Call Tryz.prog 31 [v,.int .i64 k] σ (fun r σ'=>r=.int .i64 (k+BZ p)/\pO σ ids σ'.get σ'.next):=by
 obtain⟨a,b,c,i1,i2,i3,rfl,hA,hB,hC,rfl⟩:=hg.ex
 rw[<-List.append_assoc]at mc
 obtain⟨n1,_,n3⟩:=List.nodup_append.1 mc
 obtain⟨oa,rfl⟩:=hA.kT
 obtain⟨ob,rfl⟩:=hB.kT
 obtain⟨oc,rfl⟩:=hC.kT
 have hm:(BZ p:Int)=2*p.ax.aB.length+(p.ax.ae.map gE).sum+3*p.bF.ae.length:=by simp[BZ]
 refine eW ek rfl fun hl=>?_
 clear hl
 have Ti:∀x∈i1++(i2++i3),bJ σ.get ⟨31000000,σ.next⟩ ⟨true,4,[[.own oa 0 p.ax.aB.length,.own ob 0 p.ax.ae.length,.own oc 0 p.bF.ae.length,.int .i64 p.az]]⟩ x=σ.get x:=fun x hx=>by
  have:=dq (hv x hx)
  simp only[go_sem, ↓reduceIte,Nat.reduceEqDiff,Nat.reduceAdd,Nat.reduceSub,Nat.reduceLeDiff,reduceCtorEq,this]
 (try((repeat(revert hN;revert N;apply Pn.out));refine wk @Nat.zero_add ?_;(repeat(refine Pn.mk ?_;intro N hN))))
 refine .inr (aG _ _ _ _ _ (fun r σ1 hq=>?_) (GL _ _ p.ax i1 i2 k h0 AM (by omega) _ (fun i hi=>by have:=hv i (by rcases List.mem_append.1 hi with h|h<;>simp[h]);(try dsimp only);omega) n1 (hA.frame Bl fun i hi=>Ti i (by simp[hi])) (hB.frame qL fun i hi=>Ti i (by simp[hi]))))
 obtain⟨g1,x1⟩:=σ1
 obtain⟨rfl,yn,ue⟩:=hq
 (try dsimp only at yn ue)
 refine hN _ _ ?_
 clear hN N
 have k1:=ue ⟨31000000,σ.next⟩ (by(try dsimp only);omega) (fun h=>by
  have:=hv ⟨31000000,σ.next⟩ (by rcases List.mem_append.1 h with h|h<;>simp[h])
  (try dsimp only at this);omega)
 simp only[go_sem, ↓reduceIte,Nat.reduceEqDiff,Nat.reduceAdd,Nat.reduceSub,Nat.reduceLeDiff,reduceCtorEq]at k1
 (try((repeat(revert hN;revert N;apply Pn.out));refine wk @k1 ?_;(repeat(refine Pn.mk ?_;intro N hN))))
 refine .inr (aG _ _ _ _ _ (fun r σ2 hq=>?_) (yG _ p.bF i3 (k+2*p.ax.aB.length+(p.ax.ae.map gE).sum) (by omega) (by omega) _ (fun i hi=>by have:=hv i (by simp[hi]);(try dsimp only);omega) ⟨_,rfl,hC.frame yd fun i hi=>?_⟩))
 rotate_left
 ·exact(ue i (by have:=hv i (by simp[hi]);(try dsimp only);omega) fun h=>n3 i h i hi rfl).trans (Ti i (by simp[hi]))
 obtain⟨g2,x2⟩:=σ2
 obtain⟨rfl,Gm,DJ⟩:=hq
 (try dsimp only at Gm DJ)
 refine hN _ _ ?_
 clear hN N
 (try((repeat(revert hN;revert N;apply Pn.out));refine wk @Nat.zero_add ?_;(repeat(refine Pn.mk ?_;intro N hN))))
 exact fc (.inl rfl) (vs:=[.int .i64 (k+2*p.ax.aB.length+(p.ax.ae.map gE).sum+3*p.bF.ae.length)]) (sd @Nat.zero_add) ⟨by rw[hm];exact congrArg (AV.int .i64) (by omega),⟨by(try dsimp only);omega,fun x hx hi=>by
  have h2:=DJ x (by(try dsimp only);omega) fun h=>hi (by simp[h])
  have h3:=ue x (by(try dsimp only);omega) fun h=>hi (by rcases List.mem_append.1 h with h|h<;>simp[h])
  have h4:=dq hx
  simp only[go_sem, ↓reduceIte,Nat.reduceEqDiff,Nat.reduceAdd,Nat.reduceSub,Nat.reduceLeDiff,reduceCtorEq,h4]at h3
  exact h2.trans h3⟩⟩
end Go.Proofs.YtgoelphibofcmaaGreat.V

namespace Go.Proofs.YtgoelphibofcmaaGreat.V
open Go.RowKit
def AV.clean:AV->Bool
 | .int .. | .bool _| .str _| .cC| .gN| .iU| .ji| .own .. | .ptr .. | .map .. | .re _=>true
 | .sl l=>l.isEmpty
 |_=>false
def AV.zg:AV->Bool
 | .agg cs=>cs.all AV.clean
 | .gP cs=>cs.all fun a=>match a with
  | .agg cs=>cs.all AV.clean
  |a=>a.clean
 |a=>a.clean
def yV (ids:List Id) (g g':Rows):Rows:=fun id=>if id∈ids then g' id else g id
theorem wU {ids:List Id} {g g':Rows} {id:Id} (h:id∈ids):yV ids g g' id=g' id:=if_pos h
theorem s7 {ids:List Id} {g g':Rows} {id:Id} (h:id∉ids):yV ids g g' id=g id:=if_neg h
section
variable {P:Program} {w w':World} {D D' D1 D2:Nat->Prop} {ι ι1 ι2:Names}
theorem jQ {a:AV} {v:Value} (hp:a.clean=true) (h:cE P w D1 ι1 a v):cE P w D2 ι1 a v:=by
 cases h with
 |eP a v h=>
  cases h with
  |int=>exact .eP _ _ (.int _ _)
  |bool=>exact .eP _ _ (.bool _)
  |str=>exact .eP _ _ (.str _)
  |cC=>exact .eP _ _ .cC
  |gN=>exact .eP _ _ .gN
  |iU=>exact .eP _ _ .iU
  |ji=>exact .eP _ _ .ji
  |AP a c h=>exact .eP _ _ (.AP a c h)
  |sl rows b o n c sz vs h1 h2 h3=>
   have:rows=[]:=by simpa[AV.clean]using hp
   subst this
   simp only[List.length_nil]at h1
   subst h1
   exact .eP _ _ (.AP _ _ h3)
  |cQ=>simp[AV.clean]at hp
  |agg=>simp[AV.clean]at hp
  |fn=>simp[AV.clean]at hp
 |own id off len o cap B h1 h2 h3 h4 h5 h6=>exact .own id off len o cap B h1 h2 h3 h4 h5 h6
 |map id m B h1 h2=>exact .map id m B h1 h2
 |re id c B h1 h2=>exact .re id c B h1 h2
 |ptr id i off B h1 h2=>exact .ptr id i off B h1 h2
 |agg=>simp[AV.clean]at hp
 |gP=>simp[AV.clean]at hp
 |fn=>simp[AV.clean]at hp
 |sQ=>simp[AV.clean]at hp
theorem lP {cs:List AV} {v:Value} (hc:cs.all AV.clean=true) (h:cE P w D1 ι1 (.agg cs) v):cE P w D2 ι1 (.agg cs) v:=by
 obtain⟨vs,f,rfl,h1,h2,h3,h4⟩:=iP h
 rw[List.all_eq_true]at hc
 exact .agg cs vs f h1 h2 h3 fun j a ha=>jQ (hc a (List.mem_of_getElem? ha)) (h4 j a ha)
theorem Eh {a:AV} {v:Value} (hp:a.zg=true) (h:cE P w D1 ι1 a v):cE P w D2 ι1 a v:=by
 cases a with
 |agg cs=>exact lP hp h
 |gP cs=>
  obtain⟨vs,f,rfl,h1,h3,h4⟩:=uF h
  simp only[AV.zg,List.all_eq_true]at hp
  refine .gP cs vs f h1 h3 fun j a ha=>?_
  have:=hp a (List.mem_of_getElem? ha)
  split at this
  ·exact lP this (h4 j _ ha)
  ·exact jQ this (h4 j _ ha)
 |_=>exact jQ hp h
theorem Ef {ag:Bool} {n:Nat} {cs:List AV} {x:AV} {v:Value} (hc:∀a∈cs,a.clean=true) (hp:part ag n cs=some x) (hr:cE P w D1 ι1 x v):cE P w D2 ι1 x v:=by
 unfold part at hp
 split at hp
 ·split at hp
  ·simp only[Option.some.injEq]at hp;subst hp
   exact lP (List.all_eq_true.2 fun a ha=>hc a (List.mem_of_mem_take ha)) hr
  ·cases hp
 ·exact jQ (hc x (List.mem_of_mem_head? hp)) hr
theorem gI.clean {B:sa} {r:Row} (R:gI P w D1 ι1 B r) (h:∀cs∈r.rows,∀a∈cs,a.clean=true):gI P w D2 ι1 B r:=
 ⟨R.sz,R.flat,fun hk=>⟨R.sz,(R.row hk).xn,(R.row hk).fits,(R.row hk).len,R.flat,fun i j cs a hi hj=>by
  obtain⟨v,q1,q2⟩:=(R.row hk).at_ i j cs a hi hj
  exact⟨v,q1,jQ (h cs (List.mem_of_getElem? hi) a (List.mem_of_getElem? hj)) q2⟩⟩,fun m hm=>by
  obtain⟨h1,es,c,h2,h3,h5,h4⟩:=R.map m hm
  refine⟨h1,es,c,h2,h3,h5,fun i cs hi=>?_⟩
  obtain⟨e,kv,vv,q1,q2,q3,q4,q5⟩:=h4 i cs hi
  have hc:=h cs (List.mem_of_getElem? hi)
  exact⟨e,kv,vv,q1,q2,q3,Ef hc q2 q4,jQ (hc vv (List.mem_of_getElem? q3)) q5⟩,fun c hc=>by
  obtain⟨h1,buf,s,q,h2,h3,h4⟩:=R.chan c hc
  refine⟨h1,buf,s,q,h2,h3,fun i cs hi=>?_⟩
  obtain⟨a,u,rfl,q2,q3⟩:=h4 i cs hi
  exact⟨a,u,rfl,q2,jQ (h [a] (List.mem_of_getElem? hi) a (by simp)) q3⟩⟩
def Handed (ids:List Id) (g:Rows):Prop:=∀id∈ids,∃r,g id=some r/\r.w=true/\∀cs∈r.rows,∀a∈cs,a.clean=true
theorem Ho {f:Nat} {args eK:List AV} {g:Rows} {n:Nat} {K:AV->au->Prop} (hv:cL (dX g) 6 args=some eK)
  (h:Sound P f eK ⟨fun _=>none,n⟩ fun r σ'=>∃ids,r.zg=true/\Handed ids σ'.get/\K r ⟨yV ids g σ'.get,σ'.next⟩):Sound P f args ⟨g,n⟩ K:=by
 intro hs D ι w vs S U A
 let E:Nat->Prop:=fun b=>D b∨∃id r B,g id=some r/\ι id=some B/\b=B.b
 have lt:∀id r B,g id=some r->ι id=some B->B.b<w.heap.size:=fun id r B h1 h2=>by
  obtain⟨B',dC,R,_⟩:=S.row id r h1
  rw[h2]at dC;injection dC with dC;subst dC
  exact R.lt
 have S0:gn P w.heap.size E ι (fun _=>none) w:=⟨Nat.le_refl _,fun b hb=>by
  rcases hb with hb|⟨id,r,B,h1,h2,rfl⟩
  ·exact S.dead b hb
  ·exact lt id r B h1 h2,fun id r h=>(by cases h),fun id jU r r' B B' h=>(by cases h)⟩
 obtain⟨l1,l2⟩:=gD hv
 have A':fo P w E ι eK vs:=⟨by rw[A.1,l1],fun j a hj=>by
  obtain⟨a0,lg,hz⟩:=l2 j a hj
  obtain⟨u,hu,hr⟩:=A.2 j a0 lg
  refine⟨u,hu,(rj (D2:=E) (ι2:=ι) (fun b h=>.inl h) (fun id row hg hw=>?_) 6 a0 u a hr hz).1⟩
  unfold dX at hg
  simp only[Option.map_eq_some_iff]at hg
  obtain⟨r,nT,rfl⟩:=hg
  obtain⟨B,hB,R,_,_⟩:=S.row id r nT
  exact⟨B,hB,R.flag true,.inr ⟨id,r,B,nT,hB,rfl⟩⟩⟩
 refine(h w.heap.size E ι w vs S0 U A').mono ?_
 rintro e w' ⟨r0,g',n',D2,ι1,u,rfl,⟨ids,mT,hid,hK⟩,T,S1,U1,hn,hR⟩
 have hb:∀b,b<w.heap.size->w'.heap[b]? =w.heap[b]? :=T.below.block
 have hz:=T.below.size
 have frame:∀{a v},cE P w D ι a v->cE P w' D ι1 a v:=fun h=>h.frame (fun b hd=>hb b (S.dead b hd)) (fun _ h=>h) T.names
 refine⟨r0,_,n',D,ι1,u,rfl,hK,⟨T.below.mono S.lo,fun b hd=>hb b (S.dead b hd),fun _ h=>h,T.names,fun _ h=>.inl h⟩,⟨Nat.le_trans S.lo hz,fun b hd=>Nat.lt_of_lt_of_le (S.dead b hd) hz,fun id r hr=>?_,fun Rk id2 r1 r2 B1 B2 h1 h2 hw AK pI MJ=>?_⟩,U1,hn,Eh mT hR⟩
 ·by_cases hi:id∈ids
  ·rw[wU hi]at hr
   obtain⟨r',nT,hw,hcr⟩:=hid id hi
   rw[hr]at nT;injection nT with nT;subst nT
   obtain⟨B,hB,R,k1,k2⟩:=S1.row id r hr
   have jM:=k1 hw
   exact⟨B,hB,R.clean hcr,fun _=>Nat.le_trans S.lo jM,fun _ hd=>Nat.lt_irrefl _ (Nat.lt_of_lt_of_le (S.dead _ hd) jM)⟩
  ·rw[s7 hi]at hr
   obtain⟨B,hB,R,k1,k2⟩:=S.row id r hr
   have R8:=lt id r B hr hB
   exact⟨B,T.names _ _ hB,R.frame (hb _ R8) fun a v h=>frame h,k1,k2⟩
 ·have new:∀{id r B},id∈ids->yV ids g g' id=some r->ι1 id=some B->w.heap.size<=B.b/\g' id=some r/\r.w=true:=fun {id r B} hi hr hB=>by
   rw[wU hi]at hr
   obtain⟨r',nT,hw,_⟩:=hid id hi
   replace nT:g' id=some r':=nT
   rw[hr]at nT;injection nT with nT;subst nT
   obtain⟨B',dC,_,k1,_⟩:=S1.row id r hr
   rw[hB]at dC;injection dC with dC;subst dC
   exact⟨k1 hw,hr,hw⟩
  have yL:∀{id r B},id∉ids->yV ids g g' id=some r->ι1 id=some B->B.b<w.heap.size/\g id=some r/\ι id=some B:=fun {id r B} hi hr hB=>by
   rw[s7 hi]at hr
   obtain⟨B',dC,_⟩:=S.row id r hr
   have:=T.names _ _ dC
   rw[hB]at this;injection this with this;subst this
   exact⟨lt id r _ hr dC,hr,dC⟩
  by_cases i1:Rk∈ids
  ·obtain⟨a1,a2,a3⟩:=new i1 h1 AK
   by_cases i2:id2∈ids
   ·obtain⟨b1,b2,b3⟩:=new i2 h2 pI
    exact S1.inj Rk id2 r1 r2 B1 B2 a2 b2 hw AK pI MJ
   ·obtain⟨b1,_⟩:=yL i2 h2 pI
    omega
  ·obtain⟨a1,a2,a3⟩:=yL i1 h1 AK
   by_cases i2:id2∈ids
   ·obtain⟨b1,_⟩:=new i2 h2 pI
    omega
   ·obtain⟨b1,b2,b3⟩:=yL i2 h2 pI
    exact S.inj Rk id2 r1 r2 B1 B2 a2 b2 hw a3 b3 MJ
theorem HK (hm:P.follows .mixedOrders=true) {f:Nat} {args eK:List AV} {σ:au} {K:AV->au->Prop} (hv:cL (dX σ.get) 6 args=some eK)
  (h:Call P f eK ⟨fun _=>none,σ.next⟩ fun r σ'=>∃ids,r.zg=true/\Handed ids σ'.get/\K r ⟨yV ids σ.get σ'.get,σ'.next⟩):Call P f args σ K:=
 gJ (Ho hv (gj hm h))
end
end Go.Proofs.YtgoelphibofcmaaGreat.V

namespace Go.Proofs.YtgoelphibofcmaaGreat.V
open Go.RowKit
inductive nV:List AV->List AV->Prop
 |nil:nV [] []
 |same (a) {l l'}:nV l l'->nV (a::l) (a::l')
 |ptr (cs rest) {l l'}:nV l l'->nV (.cQ (cs++rest)::l) (.cQ cs::l')
 |cC {l l'}:nV l l'->nV (.cC::l) (.sl []::l')
theorem L8 {P:Program} {w:World} {D:Nat->Prop} {ι:Names} {cs rest:List AV} {v:Value} (h:cE P w D ι (.cQ (cs++rest)) v):cE P w D ι (.cQ cs) v:=by
 obtain⟨b,o,vs,rfl,h1,h2,h3,h4⟩:=kZ h
 exact .eP _ _ (.cQ cs b o vs h1 (fun a ha=>h2 a (List.mem_append_left _ ha)) (fun j hj=>h3 j (by rw[List.length_append];omega)) fun j a ha=>h4 j a (by
  have:=(List.getElem?_eq_some_iff.1 ha).1
  rw[List.getElem?_append_left this];exact ha))
theorem Ma {P:Program} {w:World} {D:Nat->Prop} {ι:Names} {v:Value} (h:cE P w D ι .cC v):cE P w D ι (.sl []) v:=by
 cases h with
 |eP _ _ h=>
  cases h with
  |cC=>exact .eP _ _ (.AP none 0 (Nat.zero_le _))
theorem nV.len {l l':List AV} (h:nV l l'):l'.length=l.length:=by induction h<;>simp_all
theorem nV.get {P:Program} {w:World} {D:Nat->Prop} {ι:Names} {l l':List AV} (h:nV l l'):∀{j:Nat} {a':AV},l'[j]? =some a'->∃a,l[j]? =some a/\∀v,cE P w D ι a v->cE P w D ι a' v:=by
 induction h with
 |nil=>intro j a' hj;simp at hj
 |same a _ ih=>
  intro j a' hj
  cases j with
  |zero=>simp at hj;subst hj;exact⟨a,rfl,fun _ h=>h⟩
  |succ j=>exact ih (by simpa using hj)
 |ptr cs rest _ ih=>
  intro j a' hj
  cases j with
  |zero=>simp at hj;subst hj;exact⟨_,rfl,fun _ h=>L8 h⟩
  |succ j=>exact ih (by simpa using hj)
 |cC _ ih=>
  intro j a' hj
  cases j with
  |zero=>simp at hj;subst hj;exact⟨_,rfl,fun _ h=>Ma h⟩
  |succ j=>exact ih (by simpa using hj)
theorem Call.cut {P:Program} (hm:P.follows .mixedOrders=true) {f:Nat} {args eK:List AV} {σ:au} {K:AV->au->Prop} (hc:nV args eK) (h:Call P f eK σ K):Call P f args σ K:=
 gJ fun hs D ι w vs S U A=>gj hm h hs D ι w vs S U ⟨by rw[A.1,hc.len],fun j a' hj=>by
  obtain⟨a,ha,hr⟩:=hc.get (P:=P) (w:=w) (D:=D) (ι:=ι) hj
  obtain⟨u,hu,hv⟩:=A.2 j a ha
  exact⟨u,hu,hr u hv⟩⟩
theorem aj.cut {P:Program} (hm:P.follows .mixedOrders=true) {f:Nat} {args eK:List AV} {r:AV} (hc:nV args eK) (h:aj P f eK r):aj P f args r:=fun n=>(h n).cut hm hc
theorem km.cut {P:Program} (hm:P.follows .mixedOrders=true) {f:Nat} {args eK:List AV} {r:AV} (hc:nV args eK) (h:km P f eK r):km P f args r:=fun σ=>Call.cut hm hc (h σ)
end Go.Proofs.YtgoelphibofcmaaGreat.V

namespace Go.Proofs.YtgoelphibofcmaaGreat.V
open Go.RowKit
attribute [local irreducible] dG wpOps gz Call
attribute [local go_sem] aL fU eV gw gr cK upd cw K.av cU AV.cells AV.cell rowOf rowsOf part ld rowAt bJ cr dK ep iC bR dj eF gq fh dz ew dh de ec ee bV bh cX bU cZ cY eu ez ev cW cj di er bS aQ db cG iA bz cN bW aX dn aZ dL AV.undef bG bK ef eo dW ea cJ eE eH cD eB eA da dc List.getD_cons_zero List.getD_cons_succ List.getD_nil List.all_cons List.all_nil Bool.and_true Bool.true_and Bool.and_self Bool.not_true Bool.not_false Option.map_some Option.map_none Option.bind_some Option.bind_none List.length_cons List.length_nil List.take_succ_cons List.take_zero List.take_nil List.drop_succ_cons List.drop_zero List.drop_nil List.head?_cons List.map_cons List.map_nil List.getElem?_cons_zero List.getElem?_cons_succ List.cons_append List.nil_append List.append_nil List.length_map List.set_cons_zero List.set_cons_succ eq_self Int.toNat_natCast Int.natCast_nonneg and_self true_and and_true decide_true decide_false Bool.false_eq_true Nat.zero_add Nat.add_zero List.contains_cons List.contains_nil Bool.or_false Bool.false_or beq_self_eq_true ne_eq not_true_eq_false not_false_eq_true Id.mk.injEq false_and and_false Nat.le_refl List.length_append beq_true beq_false Bool.not_eq_eq_eq_not or_false false_or dX ai aq aH bj bE cu aW br aU bp cV bP
section
variable {P:Program} {α:Type} {e:α->List AV} {z:Nat} {g g':Rows} {v:AV} {L:List α} {ids:List Id}
def y5 (e:α->List AV) (z:Nat) (g:Rows) (v:AV) (L:List α) (ids:List Id):Prop:=(L=[]/\v=.cC/\ids=[])∨∃o,v=.own o 0 L.length/\g o=some ⟨true,z,L.map e⟩/\ids=[o]/\0<L.length
def SQ (e:α->List AV) (L:List α):AV:=if L.length=0 then .cC else .sl (L.map e)
theorem y5.frame (h:y5 e z g v L ids) (hf:∀i∈ids,g' i=g i):y5 e z g' v L ids:=by
 rcases h with h|⟨o,h1,h2,rfl,hp⟩
 ·exact .inl h
 ·exact .inr ⟨o,h1,(hf o (by simp)).trans h2,rfl,hp⟩
def nw (e:α->List AV) (L:List α) (w:AV):Prop:=(w=.cC/\L=[])∨w=.sl (L.map e)
theorem y5.fz (h:y5 e z g v L ids) (he:∀x g,cL g 5 (e x)=some (e x)):∃w,V.fz (dX g) 6 v=some w/\nw e L w:=by
 rcases h with⟨rfl,rfl,_⟩|⟨o,rfl,h2,_⟩
 ·exact⟨.cC,aW _ _,.inl ⟨rfl,rfl⟩⟩
 ·exact⟨_,ik (e:=e) (sz:=z) (by simp[dX,h2]) rfl fun x=>he x _,.inr rfl⟩
def uN (P:Program) (f:Nat) (args:List AV) (e:α->List AV) (z:Nat) (L:List α) (c:Int):Prop:=
 ∀n:Nat,Call P f args ⟨fun _=>none,n⟩ (fun r σ'=>∃v ids,r=.gP [v,.int .i64 c]/\y5 e z σ'.get v L ids/\gy n σ'.next ids)
theorem FO (hm:P.follows .mixedOrders=true) {f:Nat} {args:List AV} {σ:au} {K:AV->au->Prop} (h:Call P f args σ K):Call P f args σ (fun r σ'=>K r σ'/\σ.next<=σ'.next):=
 gJ fun hs D ι w vs S U A=>(gj hm h hs D ι w vs S U A).mono (by
  rintro e w' ⟨r,g',n',D2,ι1,u,rfl,hK,T,S1,U1,hn,hR⟩
  exact⟨r,g',n',D2,ι1,u,rfl,⟨hK,hn⟩,T,S1,U1,hn,hR⟩)
theorem HJ (hm:P.follows .mixedOrders=true) {f:Nat} {args eK:List AV} {σ:au} {c:Int} (mT:∀x,(e x).all AV.clean=true) (h:uN P f eK e z L c) (hv:cL (dX σ.get) 6 args=some eK):
  Call P f args σ (fun r σ'=>∃v ids,r=.gP [v,.int .i64 c]/\y5 e z σ'.get v L ids/\gy σ.next σ'.next ids/\Kept σ σ'):=by
 refine HK hm hv (aG _ _ _ _ _ (fun r σ' hq=>?_) (FO hm (h σ.next)))
 obtain⟨⟨v,ids,rfl,ho,hi⟩,hn⟩:=hq
 refine⟨ids,?_,?_,v,ids,rfl,?_,hi,hn,fun j hj=>s7 fun hc=>?_⟩
 ·rcases ho with⟨_,rfl,_⟩|⟨o,rfl,_⟩<;>rfl
 ·rcases ho with⟨_,_,rfl⟩|⟨o,_,h2,rfl,_⟩
  ·intro i hi;cases hi
  ·intro i hi
   rw[List.mem_singleton.1 hi]
   refine⟨_,h2,rfl,fun cs dw a ha=>?_⟩
   obtain⟨x,_,rfl⟩:=List.mem_map.1 dw
   have:=mT x
   rw[List.all_eq_true]at this
   exact this a ha
 ·exact ho.frame fun i hi=>wU hi
 ·have:=(hi.2 j hc).1;omega
theorem uN.s {f:Nat} {args:List AV} {c:Int} (he:∀x g,eb g 4 (e x)=some (e x)) (h:uN P f args e z L c):aj P f args (.gP [SQ e L,.int .i64 c]):=fun n=>
 aG _ _ _ _ _ (fun r σ' hq=>by
  obtain⟨v,ids,rfl,ho,hi⟩:=hq
  rcases ho with⟨rfl,rfl,_⟩|⟨o,rfl,h2,_,hp⟩
  ·exact⟨_,by simp only[fj,bB,cz,kP,eO,Option.map_some];rfl,rfl⟩
  ·have:=fY (e:=e) (n:=4) h2 rfl fun x=>he x _
   exact⟨_,by simp only[fj,bB,cz,this,eO,Option.map_some];rfl,by rw[SQ,if_neg (by omega)]⟩) (h n)
theorem Ci:nw e L (SQ e L):=by
 unfold SQ
 split
 ·rename_i h;exact .inl ⟨rfl,List.eq_nil_of_length_eq_zero h⟩
 ·exact .inr rfl
end
theorem nw.two {α:Type} {e:α->List AV} {L:List α} {w:AV} (h:nw e L w):nV [w] [.sl (L.map e)]:=by
 rcases h with⟨rfl,rfl⟩|rfl
 ·exact .cC .nil
 ·exact .same _ .nil
theorem nw.cut {α:Type} {e:α->List AV} {L:List α} {w:AV} (h:nw e L w) {l l':List AV} (hl:nV l l'):nV (w::l) (.sl (L.map e)::l'):=by
 rcases h with⟨rfl,rfl⟩|rfl
 ·exact .cC hl
 ·exact .same _ hl
end Go.Proofs.YtgoelphibofcmaaGreat.V

namespace Go.Proofs.YtgoelphibofcmaaGreat.V
open Go.RowKit
attribute [local irreducible] dG wpOps gz Call
attribute [local go_sem] aL fU eV gw gr cK upd cw K.av cU AV.cells AV.cell rowOf rowsOf part ld rowAt bJ cr dK ep iC bR dj eF gq fh dz ew dh de ec ee bV bh cX bU cZ cY eu ez ev cW cj di er bS aQ db cG iA bz cN bW aX dn aZ dL AV.undef bG bK ef eo dW ea cJ eE eH cD eB eA da dc List.getD_cons_zero List.getD_cons_succ List.getD_nil List.all_cons List.all_nil Bool.and_true Bool.true_and Bool.and_self Bool.not_true Bool.not_false Option.map_some Option.map_none Option.bind_some Option.bind_none List.length_cons List.length_nil List.take_succ_cons List.take_zero List.take_nil List.drop_succ_cons List.drop_zero List.drop_nil List.head?_cons List.map_cons List.map_nil List.getElem?_cons_zero List.getElem?_cons_succ List.cons_append List.nil_append List.append_nil List.length_map List.set_cons_zero List.set_cons_succ Nat.reduceMul eq_self Int.toNat_natCast Int.natCast_nonneg and_self true_and and_true decide_true decide_false Bool.false_eq_true Nat.zero_add Nat.add_zero List.contains_cons List.contains_nil Bool.or_false Bool.false_or beq_self_eq_true Nat.reduceBEq ne_eq not_true_eq_false not_false_eq_true Id.mk.injEq false_and and_false Nat.reduceLT Int.reduceLE Int.reduceLT Int.reduceToNat Int.reduceNeg Int.reduceAdd Nat.le_refl List.length_append beq_true beq_false Bool.not_eq_eq_eq_not or_false false_or dX ai aq aH bj bE cu aW br aU bp cV bP
theorem GK (i:Id) (l:List ah) (k:Int) (h0:0<=k) (h1:k+3*l.length<=4611686018427387904) (σ:au) (hv:i.bq<σ.next) (hg:σ.get i=some ⟨true,3,l.map ad⟩):
  Call Tryz.prog 44 [.own i 0 l.length,.int .i64 k] σ (fun r σ'=>r=.int .i64 (k+3*l.length)/\pO σ [i] σ'.get σ'.next/\σ'.get i=some ⟨true,3,(Ca k l.length).map ad⟩):=by
 refine eW ek rfl fun hl=>?_
 clear hl
 have hz:jE k l 0=l:=by simp[jE,Ca]
 (try((repeat(revert hN;revert N;apply Pn.out));refine wk @Nat.zero_add ?_;(repeat(refine Pn.mk ?_;intro N hN))))
 refine aI (fun n env st=>∃j:Nat,n=(l.length)-j/\j<=(l.length)/\env 5=.int .i64 (j:Int)/\env 1=.int .i64 (k+3*j)/\st.get i=some ⟨true,3,(jE k l j).map ad⟩/\(pO σ [i] st.get st.next)) (l.length) ⟨0,by omega,by omega,sl (tw @Int.add_zero (tw @Int.natCast_zero (tw @Int.mul_zero (tw @hz @hg)))),sl (tw @Int.add_zero (tw @Int.natCast_zero (tw @Int.mul_zero (tw @hz @hg)))),sl (tw @Int.add_zero (tw @Int.natCast_zero (tw @Int.mul_zero (tw @hz @hg)))),by(try dsimp only);exact⟨by(try dsimp only);omega,fun x _ _=>rfl⟩⟩ ?_
 rintro n_a env_a st_a ⟨j,rfl,ale,a5,a1,ag0,j9⟩ dp
 have a0:=dp 0 (by kernel_rfl)
 simp only[go_sem, ↓reduceIte,Nat.reduceEqDiff,Nat.reduceAdd,Nat.reduceSub,Nat.reduceLeDiff,reduceCtorEq,Int.add_zero,Int.natCast_zero,Int.mul_zero,hz,hg]at a0
 clear dp
 obtain⟨an,aF⟩:=j9
 by_cases hj:(j:Int)<(l.length:Int)
 ·have ck:∀{e:Env} {gg:Rows} {nx:Nat},(e 5=.int .i64 (IntKind.i64.wrap ((j:Int)+1)))->(e 1=.int .i64 (k+3*(j+1)))->(gg i=some ⟨true,3,(jE k l (j+1)).map ad⟩)->(pO σ [i] gg nx)->∃m0,m0<(l.length)-j/\∃j:Nat,m0=(l.length)-j/\j<=(l.length)/\e 5=.int .i64 (j:Int)/\e 1=.int .i64 (k+3*j)/\gg i=some ⟨true,3,(jE k l j).map ad⟩/\(pO σ [i] gg nx):=fun x1 x2 x3 x4=>⟨_,by omega,j+1,rfl,by omega,(by rw[x1,aA (by omega)]),x2,x3,x4⟩
  have iO:j<l.length:=by omega
  have fb:=FA (k:=k) iO
  have dO:=Cc (k:=k) iO
  have mW:IntKind.i64.wrap (k+3*(j:Int)+1)=k+3*(j:Int)+1:=aV (by omega)
  have oF:IntKind.i64.wrap (k+3*(j:Int)+1+1)=k+3*(j:Int)+2:=by rw[aV (by omega)];omega
  have I6:IntKind.i64.wrap (k+3*(j:Int)+2+1)=k+3*((j:Int)+1):=by rw[aV (by omega)];omega
  have hlen:((jE k l j).map ad).length=l.length:=by rw[List.length_map,Cb (by omega)]
  have IJ:∀c:List AV,(((jE k l j).map ad).set j c)[j]? =some c:=fun c=>by rw[List.getElem?_set_self (by rw[hlen];exact iO)]
  (try((repeat(revert hN;revert N;apply Pn.out));refine wk (tw @a5 (tw @a1 (tw @ag0 (tw @a0 (tw @hj (tw @fb (tw @IJ (tw @dO (tw @mW (tw @oF (tw @I6 (tw @hlen @rT)))))))))))) ?_;(repeat(refine Pn.mk ?_;intro N hN))))
  refine ck ?_ ?_ ?_ (by(try dsimp only);exact⟨by(try dsimp only);omega,fun x hx hi=>by
   have h2:=aF x hx hi
   have h3:(x=i)=False:=eq_false fun e=>hi (by simp[e])
   simp only[go_sem, ↓reduceIte,Nat.reduceEqDiff,Nat.reduceAdd,Nat.reduceSub,Nat.reduceLeDiff,reduceCtorEq,h2,h3]⟩)
  all_goals simp only[go_sem, ↓reduceIte,Nat.reduceEqDiff,Nat.reduceAdd,Nat.reduceSub,Nat.reduceLeDiff,reduceCtorEq,a5,a1,ag0,a0,I6,dO]
 ·have iO:j=l.length:=by omega
  subst iO
  (try((repeat(revert hN;revert N;apply Pn.out));refine wk (tw @a5 (tw @a1 (tw @ag0 (tw @a0 @hj)))) ?_;(repeat(refine Pn.mk ?_;intro N hN))))
  have kh:jE k l l.length=Ca k l.length:=by simp[jE]
  rw[kh]at ag0
  exact fc (.inl rfl) (vs:=[.int .i64 (k+3*l.length)]) (sd (tw @a5 (tw @a1 (tw @ag0 @a0)))) ⟨rfl,⟨by(try dsimp only);omega,fun x hx hi=>aF x hx hi⟩,ag0⟩
theorem OJ (k:Int) {n j:Nat} (h:j<n):((Ca k n).map ad)[j]? =some [.int .i64 (k+3*(j:Int)),.int .i64 (k+3*(j:Int)+1),.int .i64 (k+3*(j:Int)+2)]:=by
 simp[Ca,h,ad]
theorem Gi (k:Int) (n:Nat) (h0:0<=k) (h1:k+3*n<=4611686018427387904):aj Tryz.prog 45 [.sl ((Ca k n).map ad),.int .i64 k] (.int .i64 (k+3*n)):=by
 refine aj.body ek rfl fun hl n0=>?_
 clear hl
 obtain⟨m,hm⟩:∃m,n=m:=⟨_,rfl⟩
 rw[hm]at h1 ⊢
 (try((repeat(revert hN;revert N;apply Pn.out));refine wk @iv ?_;(repeat(refine Pn.mk ?_;intro N hN))))
 refine aI (fun n env st=>∃j:Nat,n=(m)-j/\j<=(m)/\env 5=.int .i64 (j:Int)/\env 1=.int .i64 (k+3*j)) (m) ⟨0,by omega,by omega,sl (tw @Int.add_zero (tw @Int.natCast_zero (tw @Int.mul_zero @iv))),sl (tw @Int.add_zero (tw @Int.natCast_zero (tw @Int.mul_zero @iv)))⟩ ?_
 rintro n_a env_a st_a ⟨j,rfl,ale,a5,a1⟩ dp
 have a0:=dp 0 (by kernel_rfl)
 simp only[go_sem, ↓reduceIte,Nat.reduceEqDiff,Nat.reduceAdd,Nat.reduceSub,Nat.reduceLeDiff,reduceCtorEq,Int.add_zero,Int.natCast_zero,Int.mul_zero,iv]at a0
 clear dp
 by_cases hj:(j:Int)<(m:Int)
 ·have ck:∀{e:Env},(e 5=.int .i64 (IntKind.i64.wrap ((j:Int)+1)))->(e 1=.int .i64 (k+3*(j+1)))->∃m0,m0<(m)-j/\∃j:Nat,m0=(m)-j/\j<=(m)/\e 5=.int .i64 (j:Int)/\e 1=.int .i64 (k+3*j):=fun x1 x2=>⟨_,by omega,j+1,rfl,by omega,(by rw[x1,aA (by omega)]),x2⟩
  have fb:=OJ k (n:=m) (j:=j) (by omega)
  have mW:IntKind.i64.wrap (k+3*(j:Int)+1)=k+3*(j:Int)+1:=aV (by omega)
  have oF:IntKind.i64.wrap (k+3*(j:Int)+1+1)=k+3*(j:Int)+2:=by rw[aV (by omega)];omega
  have I6:IntKind.i64.wrap (k+3*(j:Int)+2+1)=k+3*((j:Int)+1):=by rw[aV (by omega)];omega
  have e1:decide (k+3*(j:Int)=k+3*(j:Int))=true:=decide_eq_true rfl
  have e2:decide (k+3*(j:Int)+1=k+3*(j:Int)+1)=true:=decide_eq_true rfl
  have e3:decide (k+3*(j:Int)+2=k+3*(j:Int)+2)=true:=decide_eq_true rfl
  (try((repeat(revert hN;revert N;apply Pn.out));refine wk (tw @a5 (tw @a1 (tw @a0 (tw @hj (tw @fb (tw @mW (tw @oF (tw @I6 (tw @iv (tw @e1 (tw @e2 @e3))))))))))) ?_;(repeat(refine Pn.mk ?_;intro N hN))))
  refine ck ?_ ?_
  all_goals simp only[go_sem, ↓reduceIte,Nat.reduceEqDiff,Nat.reduceAdd,Nat.reduceSub,Nat.reduceLeDiff,reduceCtorEq,a5,a1,a0,I6]
 ·have iO:j=m:=by omega
  subst iO
  (try((repeat(revert hN;revert N;apply Pn.out));refine wk (tw @a5 (tw @a1 (tw @a0 (tw @hj @iv)))) ?_;(repeat(refine Pn.mk ?_;intro N hN))))
  exact bL (b:=k+3*(j:Int)) (.inl rfl) (sd (tw @a5 (tw @a1 @a0))) rfl
theorem K2 (a b:ah):aj Tryz.prog 26 [.agg (ad a),.agg (ad b)] (.bool (decide (a=b))):=by
 refine aj.body ek rfl fun hl n0=>?_
 clear hl
 have h:=ya a.aO b.aO
 rw[aa,aa]at h
 by_cases h1:a.aO=b.aO
 ·rw[decide_eq_true h1]at h
  by_cases h2:a.bd=b.bd
  ·have e2:decide (a.bd=b.bd)=true:=decide_eq_true h2
   (repeat(first|((repeat(revert hN;revert N;apply Pn.out));refine wk (tw @ad.eq_1 @e2) ?_;(repeat(refine Pn.mk ?_;intro N hN)))|((try apply Or.inl);refine⟨_,aj.x (h) (sd (tw @ad.eq_1 @e2)),?_⟩;refine hN _ _ ?_;clear hN N)))
   exact aP (b:=true) (.inl rfl) (sd @Nat.zero_add) (decide_eq_true (by cases a;cases b;simp_all)).symm
  ·have e2:decide (a.bd=b.bd)=false:=decide_eq_false h2
   (repeat(first|((repeat(revert hN;revert N;apply Pn.out));refine wk (tw @ad.eq_1 @e2) ?_;(repeat(refine Pn.mk ?_;intro N hN)))|((try apply Or.inl);refine⟨_,aj.x (h) (sd (tw @ad.eq_1 @e2)),?_⟩;refine hN _ _ ?_;clear hN N)))
   exact aP (b:=false) (.inl rfl) (sd @Nat.zero_add) (decide_eq_false (by rintro rfl;exact h2 rfl)).symm
 ·rw[decide_eq_false h1]at h
  (repeat(first|((repeat(revert hN;revert N;apply Pn.out));refine wk @ad.eq_1 ?_;(repeat(refine Pn.mk ?_;intro N hN)))|((try apply Or.inl);refine⟨_,aj.x (h) (sd @ad.eq_1),?_⟩;refine hN _ _ ?_;clear hN N)))
  exact aP (b:=false) (.inl rfl) (sd @Nat.zero_add) (decide_eq_false (by rintro rfl;exact h1 rfl)).symm
theorem Iq (xs ys:List ah):aj Tryz.prog 43 [.sl (xs.map ad),.sl (ys.map ad)] (.bool (decide (xs=ys))):=
 zk (show lV Tryz.prog 43=some (Bh 43 26 3) by kernel_rfl) (fun _=>rfl) vD xs ys K2
theorem sw {L:List ah} {v w:AV} (hv:nw ad L v) (hw:nw ad L w):aj Tryz.prog 43 [v,w] (.bool true):=by
 have h:=Iq L L
 rw[decide_eq_true rfl]at h
 exact h.cut mixed (hv.cut (hw.cut .nil))
theorem D5 (k:Int) (σ:au):Call Tryz.prog 44 [.cC,.int .i64 k] σ (fun r σ'=>r=.int .i64 k/\pO σ [] σ'.get σ'.next):=by
 refine eW ek rfl fun hl=>?_
 clear hl
 (try((repeat(revert hN;revert N;apply Pn.out));refine wk @Nat.zero_add ?_;(repeat(refine Pn.mk ?_;intro N hN))))
 refine aI (fun n env st=>(env 1=.int .i64 k/\env 5=.int .i64 0/\env 0=.cC)/\σ.next<=st.next/\∀x:Id,st.get x=σ.get x) 0 ⟨⟨sd @Nat.zero_add,sd @Nat.zero_add,sd @Nat.zero_add⟩,by(try dsimp only);omega,fun _=>rfl⟩ ?_
 rintro m e st ⟨⟨a1,a5,a0⟩,an,aF⟩ -
 have d0:decide ((0:Int)<((0:Nat):Int))=false:=rfl
 (try((repeat(revert hN;revert N;apply Pn.out));refine wk (tw @a0 (tw @a1 (tw @a5 @d0))) ?_;(repeat(refine Pn.mk ?_;intro N hN))))
 exact fc (.inl rfl) (vs:=[.int .i64 k]) (sd @a1) ⟨rfl,⟨by(try dsimp only);omega,fun x hx hi=>aF x⟩⟩
theorem D6 {v:AV} {L:List ah} {ids:List Id} (k:Int) (h0:0<=k) (h1:k+3*L.length<=4611686018427387904) (σ:au) (hv:∀i∈ids,i.bq<σ.next) (h:y5 ad 3 σ.get v L ids):
  Call Tryz.prog 44 [v,.int .i64 k] σ (fun r σ'=>r=.int .i64 (k+3*L.length)/\pO σ ids σ'.get σ'.next/\y5 ad 3 σ'.get v (Ca k L.length) ids):=by
 rcases h with⟨rfl,rfl,rfl⟩|⟨o,rfl,h2,rfl,hp⟩
 ·refine aG _ _ _ _ _ (fun r σ' hq=>?_) (D5 k σ)
  obtain⟨rfl,hB⟩:=hq
  exact⟨by simp,hB,.inl ⟨rfl,rfl,rfl⟩⟩
 ·refine aG _ _ _ _ _ (fun r σ' hq=>?_) (GK o L k h0 h1 σ (hv o (by simp)) h2)
  obtain⟨rfl,hB,hg⟩:=hq
  exact⟨rfl,hB,.inr ⟨o,by rw[iv],hg,rfl,by rw[iv];exact hp⟩⟩
theorem vJ {w:AV} (k:Int) (n:Nat) (h0:0<=k) (h1:k+3*n<=4611686018427387904) (hw:nw ad (Ca k n) w):aj Tryz.prog 45 [w,.int .i64 k] (.int .i64 (k+3*n)):=
 (Gi k n h0 h1).cut mixed (hw.cut (.same _ .nil))
end Go.Proofs.YtgoelphibofcmaaGreat.V

namespace Go.Proofs.YtgoelphibofcmaaGreat.V
open Go.RowKit
variable {P:Program}
theorem OF (hm:P.follows .mixedOrders=true) {f:Nat} {args:List AV} {vs:Array Value} {w:World} (h:aj P f args (.bool true)) (hA:fo P w (fun b=>b<w.heap.size) (fun _=>none) args vs):
  Calls P f vs w fun e w'=>e=.returned (.bool true)/\Below w.heap.size w w':=by
 have hs:=gj hm (h 0) w.heap.size (fun b=>b<w.heap.size) (fun _=>none) w vs ⟨Nat.le_refl _,fun _ h=>h,fun id r h=>(by cases h),fun id jU r r' B B' h=>(by cases h)⟩ (fun id h=>absurd rfl h) hA
 refine hs.mono ?_
 rintro e w' ⟨r,g',n',D',ι',u,rfl,⟨r',hz,rfl⟩,dB,hsim,_,_,gH⟩
 have hr:r=.bool true:=by
  cases r<;>rw[gp]at hz<;>simp_all
  all_goals (repeat' (split at hz))<;>simp_all
 subst hr
 exact⟨by rw[e9 gH],dB.below⟩
theorem ml {xs:List AV} {w:World} {D:Nat->Prop} {ι:Names} {a:AV} {v:Value} {vs:Array Value} (h:jF P w D a v) (k:fo P w D ι xs vs):fo P w D ι (a::xs) (#[v]++vs):=
 oO (xs:=[a]) ⟨rfl,fun j b hj=>by
  cases j with
  |zero=>simp at hj;subst hj;exact⟨v,rfl,.eP _ _ h⟩
  |succ j=>simp at hj⟩ k
end Go.Proofs.YtgoelphibofcmaaGreat.V

namespace Go.Proofs.YtgoelphibofcmaaGreat.V
open Go.RowKit
attribute [local irreducible] dG wpOps gz Call
attribute [local go_sem] aL fU eV gw gr cK upd cw K.av cU AV.cells AV.cell rowOf rowsOf part ld rowAt bJ cr dK ep iC bR dj eF gq fh dz ew dh de ec ee bV bh cX bU cZ cY eu ez ev cW cj di er bS aQ db cG iA bz cN bW aX dn aZ dL AV.undef bG bK ef eo dW ea cJ eE eH cD eB eA da dc List.getD_cons_zero List.getD_cons_succ List.getD_nil List.all_cons List.all_nil Bool.and_true Bool.true_and Bool.and_self Bool.not_true Bool.not_false Option.map_some Option.map_none Option.bind_some Option.bind_none List.length_cons List.length_nil List.take_succ_cons List.take_zero List.take_nil List.drop_succ_cons List.drop_zero List.drop_nil List.head?_cons List.map_cons List.map_nil List.getElem?_cons_zero List.getElem?_cons_succ List.cons_append List.nil_append List.append_nil List.length_map List.set_cons_zero List.set_cons_succ Nat.reduceMul eq_self Int.toNat_natCast Int.natCast_nonneg and_self true_and and_true decide_true decide_false Bool.false_eq_true Nat.zero_add Nat.add_zero List.contains_cons List.contains_nil Bool.or_false Bool.false_or beq_self_eq_true Nat.reduceBEq ne_eq not_true_eq_false not_false_eq_true Id.mk.injEq false_and and_false Nat.reduceLT Int.reduceLE Int.reduceLT Int.reduceToNat Int.reduceNeg Int.reduceAdd Nat.le_refl List.length_append beq_true beq_false Bool.not_eq_eq_eq_not or_false false_or dX ai aq aH bj bE cu aW br aU bp cV bP
theorem O1 {α:Type} (f:α->Nat) {xs:List α} {x:α} (h:x∈xs):f x<=(xs.map f).sum:=by
 induction xs with
 |nil=>cases h
 |cons y ys ih=>
  simp only[List.map_cons,List.sum_cons]
  rcases List.mem_cons.1 h with rfl|h
  ·omega
  ·have:=ih h;omega
theorem G9 {s:aM} (h:w5 s<=1048576):pQ s:=by
 unfold w5 uh at h
 refine⟨⟨by omega,by omega,fun t ht=>?_⟩,by omega⟩
 have:=O1 kj ht
 have h2:t.bt.length<=kj t:=by unfold kj;omega
 unfold sk
 omega
theorem zj (a:dI):aj Tryz.prog 21 [.agg (aJ a),.agg (aJ a)] (.bool true):=by
 refine aj.body ek rfl fun hl n0=>?_
 clear hl
 have h1:=tn a.ae a.ae
 rw[decide_eq_true rfl]at h1
 (repeat(first|((repeat(revert hN;revert N;apply Pn.out));refine wk @aJ.eq_1 ?_;(repeat(refine Pn.mk ?_;intro N hN)))|((try apply Or.inl);refine⟨_,aj.x (h1) (sd @aJ.eq_1),?_⟩;refine hN _ _ ?_;clear hN N)))
 exact aP (b:=true) (.inl rfl) (sd @Nat.zero_add) rfl
end Go.Proofs.YtgoelphibofcmaaGreat.V

namespace Go.Proofs.YtgoelphibofcmaaGreat.V
open Go.RowKit
attribute [local irreducible] dG wpOps gz Call
attribute [local go_sem] aL fU eV gw gr cK upd cw K.av cU AV.cells AV.cell rowOf rowsOf part ld rowAt bJ cr dK ep iC bR dj eF gq fh dz ew dh de ec ee bV bh cX bU cZ cY eu ez ev cW cj di er bS aQ db cG iA bz cN bW aX dn aZ dL AV.undef bG bK ef eo dW ea cJ eE eH cD eB eA da dc List.getD_cons_zero List.getD_cons_succ List.getD_nil List.all_cons List.all_nil Bool.and_true Bool.true_and Bool.and_self Bool.not_true Bool.not_false Option.map_some Option.map_none Option.bind_some Option.bind_none List.length_cons List.length_nil List.take_succ_cons List.take_zero List.take_nil List.drop_succ_cons List.drop_zero List.drop_nil List.head?_cons List.map_cons List.map_nil List.getElem?_cons_zero List.getElem?_cons_succ List.cons_append List.nil_append List.append_nil List.length_map List.set_cons_zero List.set_cons_succ eq_self Int.toNat_natCast Int.natCast_nonneg and_self true_and and_true decide_true decide_false Bool.false_eq_true Nat.zero_add Nat.add_zero List.contains_cons List.contains_nil Bool.or_false Bool.false_or beq_self_eq_true ne_eq not_true_eq_false not_false_eq_true Id.mk.injEq false_and and_false Nat.le_refl List.length_append beq_true beq_false Bool.not_eq_eq_eq_not or_false false_or dX ai aq aH bj bE cu aW br aU bp cV bP
theorem GW (x:ah) (g:Rows):eb g 4 (ad x)=some (ad x):=by simp[ad,bB,cz,eO]
theorem Ha {g:Rows} {v w:AV} {s:aM} {a:dI} {i j:List Id} (hX:y7 g v s i) (hY:xf g w a j):cL (dX g) 6 [v,w]=some [.agg (ay s),.agg (aJ a)]:=by
 simp only[ai,aq,hX.fz 1,hY.fz 2,Option.map_some]
theorem Mg {g:Rows} {v w:AV} {s:aM} {i:List Id} (hX:y7 g v s i) (hw:fz (dX g) 6 w=some w):cL (dX g) 6 [v,w]=some [.agg (ay s),w]:=by
 simp only[ai,aq,hX.fz 1,hw,Option.map_some]
theorem KN {g:Rows} {v w:AV} {s:dI} {i:List Id} (hX:xf g v s i) (hw:fz (dX g) 6 w=some w):cL (dX g) 6 [v,w]=some [.agg (aJ s),w]:=by
 simp only[ai,aq,hX.fz 2,hw,Option.map_some]
theorem E0 (g:Rows) (s:aM):fz g 6 (.agg (ay s))=some (.agg (ay s)):=by simp[ay,br,ai,aq,cu,aH]
theorem EZ (g:Rows) (s:dI):fz g 6 (.agg (aJ s))=some (.agg (aJ s)):=by simp[aJ,br,ai,aq,cu]
theorem s8 {g:Rows} {v w v' w':AV} (h1:fz g 6 v=some v') (h2:fz g 6 w=some w'):cL g 6 [v,w]=some [v',w']:=by
 simp only[ai,aq,h1,h2,Option.map_some]
theorem LO (s:aM):BZ s<=3*w5 s:=by
 have h:∀l:List eT,(l.map gE).sum<=l.length+(l.map kj).sum:=fun l=>by
  induction l with
  |nil=>simp
  |cons t l ih=>simp only[List.map_cons,List.sum_cons,List.length_cons,gE,kj]at *;omega
 have:=h s.ax.ae
 unfold BZ w5 uh
 omega
theorem gy.not {a b:Nat} {ids:List Id} (h:gy a b ids) {x:Id} (hx:x.bq<a∨b<=x.bq):x∉ids:=fun hc=>by
 have:=h.2 x hc;omega
theorem nw.fz {α:Type} {e:α->List AV} {L:List α} {w:AV} (h:nw e L w) (g:Rows):V.fz g 6 w=some w:=by
 rcases h with⟨rfl,rfl⟩|rfl
 ·exact aW _ _
 ·exact cu _ _ _
end Go.Proofs.YtgoelphibofcmaaGreat.V

namespace Go.Proofs.YtgoelphibofcmaaGreat.V
open Go.RowKit
attribute [local irreducible] dG wpOps gz Call
attribute [local go_sem] aL fU eV gw gr cK upd cw K.av cU AV.cells AV.cell rowOf rowsOf part ld rowAt bJ cr dK ep iC bR dj eF gq fh dz ew dh de ec ee bV bh cX bU cZ cY eu ez ev cW cj di er bS aQ db cG iA bz cN bW aX dn aZ dL AV.undef bG bK ef eo dW ea cJ eE eH cD eB eA da dc List.getD_cons_zero List.getD_cons_succ List.getD_nil List.all_cons List.all_nil Bool.and_true Bool.true_and Bool.and_self Bool.not_true Bool.not_false Option.map_some Option.map_none Option.bind_some Option.bind_none List.length_cons List.length_nil List.take_succ_cons List.take_zero List.take_nil List.drop_succ_cons List.drop_zero List.drop_nil List.head?_cons List.map_cons List.map_nil List.getElem?_cons_zero List.getElem?_cons_succ List.cons_append List.nil_append List.append_nil List.length_map List.set_cons_zero List.set_cons_succ Nat.reduceMul eq_self Int.toNat_natCast Int.natCast_nonneg and_self true_and and_true decide_true decide_false Bool.false_eq_true Nat.zero_add Nat.add_zero List.contains_cons List.contains_nil Bool.or_false Bool.false_or beq_self_eq_true Nat.reduceBEq ne_eq not_true_eq_false not_false_eq_true Id.mk.injEq false_and and_false Nat.reduceLT Int.reduceLE Int.reduceLT Int.reduceToNat Int.reduceNeg Int.reduceAdd Nat.le_refl List.length_append beq_true beq_false Bool.not_eq_eq_eq_not or_false false_or dX ai aq aH bj bE cu aW br aU bp cV bP
theorem Jg (Nu:aM->dI->List ah×Int)
  (Q7:∀s a,fW s.ax->pQ s->a.ae.length<=1048576->∃w,nw ad (Nu s a).1 w/\km Tryz.prog 48 [.agg (ay s),.agg (aJ a)] (.gP [w,.int .i64 (Nu s a).2]))
  (QV:∀s a,fW s.ax->pQ s->a.ae.length<=1048576->uN Tryz.prog 49 [.agg (ay s),.agg (aJ a)] ad 3 (Nu s a).1 (Nu s a).2)
  (hlen:∀s a,pQ s->a.ae.length<=1048576->(Nu s a).1.length<=1152921504606846976)
  (s:aM) (a:dI) (hn:fW s.ax):aj Tryz.prog 11 [.agg (ay s),.agg (aJ a)] (.bool true):=by
 refine aj.body ek rfl fun hl n0=>?_
 clear hl
 have h1:=Ez s 1048576 (by omega) (by omega) hn
 by_cases hf:(w5 s:Int)<=1048576
 ·rw[iz hf]at h1
  have ko:¬(1048576:Int)-(w5 s:Int)<0:=by omega
  have h2:=rX a (1048576-w5 s) (by omega) (by omega)
  by_cases hg:(a.ae.length:Int)<=1048576-w5 s
  ·rw[iz hg]at h2
   have Fg:¬(1048576:Int)-(w5 s:Int)-(a.ae.length:Int)<0:=by omega
   have sm:=G9 (s:=s) (by omega)
   have am:a.ae.length<=1048576:=by omega
   have t1:=EF s sm
   have t2:=r4 a am
   obtain⟨w,hw,r1⟩:=Q7 s a hn sm am
   have r2:=QV s a hn sm am
   have q1:=Dj s
   have q2:=zj a
   have hL:=hlen s a sm am
   obtain⟨L,hLe⟩:∃L,(Nu s a).1=L:=⟨_,rfl⟩
   obtain⟨c,hc⟩:∃c,(Nu s a).2=c:=⟨_,rfl⟩
   rw[hc]at r1
   rw[hLe,hc]at r2
   rw[hLe]at hw hL
   have I7:=fun σ=>EE s sm σ
   have Rg:=fun σ=>rZ a am σ
   rw[ay]at I7
   rw[aJ]at Rg
   have e2:decide (c=c)=true:=by simp
   rw[ay]at h1
   rw[aJ]at h2
   (repeat(first|((repeat(revert hN;revert N;apply Pn.out));refine wk (tw @ay.eq_1 (tw @aJ.eq_1 (tw @ko @Fg))) ?_;(repeat(refine Pn.mk ?_;intro N hN)))|((try apply Or.inl);refine⟨_,aj.x (h1) (sd (tw @ay.eq_1 (tw @aJ.eq_1 (tw @ko @Fg)))),?_⟩;refine hN _ _ ?_;clear hN N)|((try apply Or.inl);refine⟨_,aj.x (h2) (sd (tw @ay.eq_1 (tw @aJ.eq_1 (tw @ko @Fg)))),?_⟩;refine hN _ _ ?_;clear hN N)))
   refine⟨_,km.x (by rw[ay]at t1;exact t1) _,?_⟩
   refine hN _ _ ?_
   clear hN N
   (try((repeat(revert hN;revert N;apply Pn.out));refine wk @aJ.eq_1 ?_;(repeat(refine Pn.mk ?_;intro N hN))))
   refine⟨_,km.x (by rw[aJ]at t2;exact t2) _,?_⟩
   refine hN _ _ ?_
   clear hN N
   (try((repeat(revert hN;revert N;apply Pn.out));refine wk @Nat.zero_add ?_;(repeat(refine Pn.mk ?_;intro N hN))))
   refine⟨_,km.x (by rw[ay,aJ]at r1;exact r1) _,?_⟩
   refine hN _ _ ?_
   clear hN N
   (try((repeat(revert hN;revert N;apply Pn.out));refine wk @Nat.zero_add ?_;(repeat(refine Pn.mk ?_;intro N hN))))
   refine .inr (aG _ _ _ _ _ (fun r σ1 hq=>?_) (I7 _))
   obtain⟨iX,hX,MG,Qv⟩:=hq
   obtain⟨g1,x1⟩:=σ1
   (try dsimp only at hX MG Qv)
   obtain⟨A,B,C,j1,j2,j3,rfl,hA,hB,hC,rfl⟩:=hX.ex
   obtain⟨oA,rfl⟩:=hA.kT
   obtain⟨oB,rfl⟩:=hB.kT
   obtain⟨oC,rfl⟩:=hC.kT
   clear hA hB hC
   have nX:=Qv.1
   have bX:=MG.2
   (try dsimp only at nX bX)
   have kA:=Qv.2 ⟨11000000,n0⟩ (by(try dsimp only);omega)
   have kB:=Qv.2 ⟨11000001,n0⟩ (by(try dsimp only);omega)
   simp only[go_sem, ↓reduceIte,Nat.reduceEqDiff,Nat.reduceAdd,Nat.reduceSub,Nat.reduceLeDiff,reduceCtorEq]at kA kB
   refine hN _ _ ?_
   clear hN N
   (try((repeat(revert hN;revert N;apply Pn.out));refine wk (tw @kA @kB) ?_;(repeat(refine Pn.mk ?_;intro N hN))))
   refine .inr (aG _ _ _ _ _ (fun r σ2 hq=>?_) (Rg _))
   obtain⟨iY,hY0,Qu,N2⟩:=hq
   obtain⟨g2,x2⟩:=σ2
   (try dsimp only at hY0 Qu N2)
   obtain⟨D,rfl,hD⟩:=hY0
   obtain⟨oD,rfl⟩:=hD.kT
   have hY:xf g2 (.agg [.own oD 0 a.ae.length]) a iY:=⟨_,rfl,hD⟩
   have nY:=N2.1
   have bY:=Qu.2
   (try dsimp only at nY bY)
   have lA:=N2.2 ⟨11000000,n0⟩ (by(try dsimp only);omega)
   have lB:=N2.2 ⟨11000001,n0⟩ (by(try dsimp only);omega)
   have lX:=N2.2 ⟨11009002,x1⟩ (by(try dsimp only);omega)
   have vA:=dq (i:=⟨11000000,n0⟩) (n:=x1) (by(try dsimp only);omega)
   have vB:=dq (i:=⟨11000001,n0⟩) (n:=x1) (by(try dsimp only);omega)
   simp only[go_sem, ↓reduceIte,Nat.reduceEqDiff,Nat.reduceAdd,Nat.reduceSub,Nat.reduceLeDiff,reduceCtorEq,kA,kB,vA,vB]at lA lB lX
   have TG:=hX.frame (g':=g2) fun i hi=>by
    have h3:=bX i hi
    have h4:=N2.2 i (by(try dsimp only);omega)
    have h5:=dq (i:=i) (n:=x1) (by omega)
    simp only[go_sem, ↓reduceIte,Nat.reduceEqDiff,Nat.reduceAdd,Nat.reduceSub,Nat.reduceLeDiff,reduceCtorEq,h5]at h4
    exact h4
   clear hX Qv N2 hD kA kB
   refine hN _ _ ?_
   clear hN N
   have uX:=dq (i:=⟨11009002,x1⟩) (n:=x2) (by(try dsimp only);omega)
   (try((repeat(revert hN;revert N;apply Pn.out));refine wk (tw @lA (tw @lB (tw @lX @uX))) ?_;(repeat(refine Pn.mk ?_;intro N hN))))
   refine .inr (aG _ _ _ _ _ (fun r σ3 hq=>?_) (HJ mixed (fun _=>rfl) r2 (Ha (TG.frame fun i hi=>by
    have h5:=dq (i:=i) (n:=x2) (by have:=bX i hi;omega)
    simp only[go_sem, ↓reduceIte,Nat.reduceEqDiff,Nat.reduceAdd,Nat.reduceSub,Nat.reduceLeDiff,reduceCtorEq,h5]) (hY.frame fun i hi=>by
    have h5:=dq (i:=i) (n:=x2) (by have:=bY i hi;omega)
    simp only[go_sem, ↓reduceIte,Nat.reduceEqDiff,Nat.reduceAdd,Nat.reduceSub,Nat.reduceLeDiff,reduceCtorEq,h5]))))
   obtain⟨v,iZ,rfl,hZ,Sc,MH⟩:=hq
   obtain⟨g3,x3⟩:=σ3
   (try dsimp only at hZ Sc MH)
   have nZ:=MH.1
   have bZ:=Sc.2
   (try dsimp only at nZ bZ)
   have wA:=dq (i:=⟨11000000,n0⟩) (n:=x2) (by(try dsimp only);omega)
   have wB:=dq (i:=⟨11000001,n0⟩) (n:=x2) (by(try dsimp only);omega)
   have mA:=MH.2 ⟨11000000,n0⟩ (by(try dsimp only);omega)
   have mB:=MH.2 ⟨11000001,n0⟩ (by(try dsimp only);omega)
   have mX:=MH.2 ⟨11009002,x1⟩ (by(try dsimp only);omega)
   have mY:=MH.2 ⟨11010002,x2⟩ (by(try dsimp only);omega)
   simp only[go_sem, ↓reduceIte,Nat.reduceEqDiff,Nat.reduceAdd,Nat.reduceSub,Nat.reduceLeDiff,reduceCtorEq,lA,lB,lX,wA,wB,uX]at mA mB mX mY
   have fr3:∀i:Id,i.bq<x2->g3 i=g2 i:=fun i hi=>by
    have h4:=MH.2 i (by(try dsimp only);omega)
    have h5:=dq (i:=i) (n:=x2) hi
    simp only[go_sem, ↓reduceIte,Nat.reduceEqDiff,Nat.reduceAdd,Nat.reduceSub,Nat.reduceLeDiff,reduceCtorEq,h5]at h4
    exact h4
   have TH:=TG.frame (g':=g3) fun i hi=>fr3 i (by have:=bX i hi;omega)
   have TI:=hY.frame (g':=g3) fun i hi=>fr3 i (by have:=bY i hi;omega)
   clear TG hY MH lA lB lX
   obtain⟨wv,pV,Of⟩:=hZ.fz fun x g=>by simp[ad,ai,aq,aH]
   refine hN _ _ ?_
   clear hN N
   (try((repeat(revert hN;revert N;apply Pn.out));refine wk (tw @mA (tw @mB (tw @mX @mY))) ?_;(repeat(refine Pn.mk ?_;intro N hN))))
   refine .inl ⟨_,aj.x (sw Of hw) (s8 pV (hw.fz _)),?_⟩
   refine hN _ _ ?_
   clear hN N
   (try((repeat(revert hN;revert N;apply Pn.out));refine wk (tw @mA (tw @mB (tw @mX (tw @mY @e2)))) ?_;(repeat(refine Pn.mk ?_;intro N hN))))
   refine⟨_,km.x (by rw[ay]at t1;exact t1) _,?_⟩
   refine hN _ _ ?_
   clear hN N
   (try((repeat(revert hN;revert N;apply Pn.out));refine wk (tw @mA (tw @mB (tw @mX (tw @mY @e2)))) ?_;(repeat(refine Pn.mk ?_;intro N hN))))
   refine⟨_,aj.x (by rw[ay]at q1;exact q1) (by rw[<-ay];exact Mg TH (E0 _ _)),?_⟩
   refine hN _ _ ?_
   clear hN N
   (try((repeat(revert hN;revert N;apply Pn.out));refine wk (tw @mA (tw @mB (tw @mX (tw @mY @e2)))) ?_;(repeat(refine Pn.mk ?_;intro N hN))))
   refine⟨_,km.x (by rw[aJ]at t2;exact t2) _,?_⟩
   refine hN _ _ ?_
   clear hN N
   (try((repeat(revert hN;revert N;apply Pn.out));refine wk (tw @mA (tw @mB (tw @mX (tw @mY @e2)))) ?_;(repeat(refine Pn.mk ?_;intro N hN))))
   refine⟨_,aj.x (by rw[aJ]at q2;exact q2) (by rw[<-aJ];exact KN TI (EZ _ _)),?_⟩
   refine hN _ _ ?_
   clear hN N
   (try((repeat(revert hN;revert N;apply Pn.out));refine wk (tw @mA (tw @mB (tw @mX (tw @mY @e2)))) ?_;(repeat(refine Pn.mk ?_;intro N hN))))
   have Oh:=LO s
   have hns:=MG.not (x:=⟨11000000,n0⟩) (by(try dsimp only);omega)
   have hnt:=MG.not (x:=⟨11000001,n0⟩) (by(try dsimp only);omega)
   refine .inr (aG _ _ _ _ _ (fun r σ4 hq=>?_) (GM _ s _ 1 (by omega) sm.s.t (by omega) _ (fun i hi=>by have:=bX i hi;(try dsimp only);omega) MG.1 TH))
   obtain⟨rfl,hM⟩:=hq
   obtain⟨g4,x4⟩:=σ4
   (try dsimp only at hM)
   have nM:=hM.1
   (try dsimp only at nM)
   have pA:=(hM.2 ⟨11000000,n0⟩ (by(try dsimp only);omega) hns).trans mA
   have pB:=(hM.2 ⟨11000001,n0⟩ (by(try dsimp only);omega) hnt).trans mB
   have pY:=(hM.2 ⟨11010002,x2⟩ (by(try dsimp only);omega) (MG.not (by(try dsimp only);omega))).trans mY
   have hY4:=TI.frame (g':=g4) fun i hi=>hM.2 i (by have:=bY i hi;(try dsimp only);omega) (MG.not (by have:=bY i hi;omega))
   have hZ4:=hZ.frame (g':=g4) fun i hi=>hM.2 i (by have:=bZ i hi;(try dsimp only);omega) (MG.not (by have:=bZ i hi;omega))
   clear hM TH TI hZ mA mB mX mY pV
   refine hN _ _ ?_
   clear hN N
   (try((repeat(revert hN;revert N;apply Pn.out));refine wk (tw @pA (tw @pB @pY)) ?_;(repeat(refine Pn.mk ?_;intro N hN))))
   refine .inr (aG _ _ _ _ _ (fun r σ5 hq=>?_) (yG _ a _ (1+BZ s) (by omega) (by omega) _ (fun i hi=>by have:=bY i hi;(try dsimp only);omega) hY4))
   obtain⟨rfl,hM⟩:=hq
   obtain⟨g5,x5⟩:=σ5
   (try dsimp only at hM)
   have nN:=hM.1
   (try dsimp only at nN)
   have rA:=(hM.2 ⟨11000000,n0⟩ (by(try dsimp only);omega) (Qu.not (by(try dsimp only);omega))).trans pA
   have rB:=(hM.2 ⟨11000001,n0⟩ (by(try dsimp only);omega) (Qu.not (by(try dsimp only);omega))).trans pB
   have TJ:=hZ4.frame (g':=g5) fun i hi=>hM.2 i (by have:=bZ i hi;(try dsimp only);omega) (Qu.not (by have:=bZ i hi;omega))
   clear hM hY4 hZ4 pA pB pY
   obtain⟨wv5,pV,Of⟩:=TJ.fz fun x g=>by simp[ad,ai,aq,aH]
   have e3:decide (1+(BZ s:Int)+3*(a.ae.length:Int)<0)=false:=decide_eq_false (by omega)
   refine hN _ _ ?_
   clear hN N
   (try((repeat(revert hN;revert N;apply Pn.out));refine wk (tw @rA (tw @rB @e3)) ?_;(repeat(refine Pn.mk ?_;intro N hN))))
   refine .inl ⟨_,aj.x (sw Of hw) (s8 pV (hw.fz _)),?_⟩
   refine hN _ _ ?_
   clear hN N
   (try((repeat(revert hN;revert N;apply Pn.out));refine wk (tw @rA (tw @rB (tw @e2 @e3))) ?_;(repeat(refine Pn.mk ?_;intro N hN))))
   refine .inr (aG _ _ _ _ _ (fun r σ6 hq=>?_) (D6 1 (by omega) (by omega) _ (fun i hi=>by have:=bZ i hi;(try dsimp only);omega) TJ))
   obtain⟨rfl,hM,hZ6⟩:=hq
   obtain⟨g6,x6⟩:=σ6
   (try dsimp only at hM hZ6)
   have sA:=(hM.2 ⟨11000000,n0⟩ (by(try dsimp only);omega) (Sc.not (by(try dsimp only);omega))).trans rA
   have sB:=(hM.2 ⟨11000001,n0⟩ (by(try dsimp only);omega) (Sc.not (by(try dsimp only);omega))).trans rB
   clear hM TJ rA rB pV Of
   obtain⟨wv6,pV,Of⟩:=hZ6.fz fun x g=>by simp[ad,ai,aq,aH]
   have e4:decide (1+3*(L.length:Int)<0)=false:=decide_eq_false (by omega)
   have e5:decide (1+3*(L.length:Int)=1+3*(L.length:Int))=true:=decide_eq_true rfl
   refine hN _ _ ?_
   clear hN N
   (try((repeat(revert hN;revert N;apply Pn.out));refine wk (tw @sA @sB) ?_;(repeat(refine Pn.mk ?_;intro N hN))))
   refine .inl ⟨_,aj.x (vJ 1 L.length (by omega) (by omega) Of) (s8 pV (aH _ _ _ _)),?_⟩
   refine hN _ _ ?_
   clear hN N
   (try((repeat(revert hN;revert N;apply Pn.out));refine wk (tw @sA (tw @sB (tw @e4 @e5))) ?_;(repeat(refine Pn.mk ?_;intro N hN))))
   refine⟨_,km.x (by rw[ay]at t1;exact t1) _,?_⟩
   refine hN _ _ ?_
   clear hN N
   (try((repeat(revert hN;revert N;apply Pn.out));refine wk (tw @sA (tw @sB (tw @e4 @e5))) ?_;(repeat(refine Pn.mk ?_;intro N hN))))
   refine⟨_,km.x (by rw[aJ]at t2;exact t2) _,?_⟩
   refine hN _ _ ?_
   clear hN N
   (try((repeat(revert hN;revert N;apply Pn.out));refine wk (tw @sA (tw @sB (tw @e4 @e5))) ?_;(repeat(refine Pn.mk ?_;intro N hN))))
   refine⟨_,aj.x (by have h:=r2.s GW;rw[ay,aJ]at h;exact h) (s8 (by rw[<-ay];exact E0 _ _) (by rw[<-aJ];exact EZ _ _)),?_⟩
   refine hN _ _ ?_
   clear hN N
   (try((repeat(revert hN;revert N;apply Pn.out));refine wk @e2 ?_;(repeat(refine Pn.mk ?_;intro N hN))))
   refine .inl ⟨_,aj.x (sw Ci hw) (s8 (Ci.fz _) (hw.fz _)),?_⟩
   refine hN _ _ ?_
   clear hN N
   (try((repeat(revert hN;revert N;apply Pn.out));refine wk @e2 ?_;(repeat(refine Pn.mk ?_;intro N hN))))
   refine .inl ⟨_,aj.x (vJ 1 L.length (by omega) (by omega) Of) (s8 pV (aH _ _ _ _)),?_⟩
   refine hN _ _ ?_
   clear hN N
   (try((repeat(revert hN;revert N;apply Pn.out));refine wk (tw @e4 @e5) ?_;(repeat(refine Pn.mk ?_;intro N hN))))
   exact aP (b:=true) (.inl rfl) (sd @Nat.zero_add) rfl
  ·rw[iJ hg]at h2
   rw[ay]at h1
   rw[aJ]at h2
   (repeat(first|((repeat(revert hN;revert N;apply Pn.out));refine wk (tw @ay.eq_1 (tw @aJ.eq_1 @ko)) ?_;(repeat(refine Pn.mk ?_;intro N hN)))|((try apply Or.inl);refine⟨_,aj.x (h1) (sd (tw @ay.eq_1 (tw @aJ.eq_1 @ko))),?_⟩;refine hN _ _ ?_;clear hN N)|((try apply Or.inl);refine⟨_,aj.x (h2) (sd (tw @ay.eq_1 (tw @aJ.eq_1 @ko))),?_⟩;refine hN _ _ ?_;clear hN N)))
   exact aP (b:=true) (.inl rfl) (sd @Nat.zero_add) rfl
 ·rw[iJ hf]at h1
  rw[ay]at h1
  (repeat(first|((repeat(revert hN;revert N;apply Pn.out));refine wk (tw @ay.eq_1 @aJ.eq_1) ?_;(repeat(refine Pn.mk ?_;intro N hN)))|((try apply Or.inl);refine⟨_,aj.x (h1) (sd (tw @ay.eq_1 @aJ.eq_1)),?_⟩;refine hN _ _ ?_;clear hN N)))
  exact aP (b:=true) (.inl rfl) (sd @Nat.zero_add) rfl
end Go.Proofs.YtgoelphibofcmaaGreat.V

namespace Go.Proofs.YtgoelphibofcmaaGreat.V
open Go.RowKit
attribute [local irreducible] dG wpOps gz Call
attribute [local go_sem] aL fU eV gw gr cK upd cw K.av cU AV.cells AV.cell rowOf rowsOf part ld rowAt bJ cr dK ep iC bR dj eF gq fh dz ew dh de ec ee bV bh cX bU cZ cY eu ez ev cW cj di er bS aQ db cG iA bz cN bW aX dn aZ dL AV.undef bG bK ef eo dW ea cJ eE eH cD eB eA da dc List.getD_cons_zero List.getD_cons_succ List.getD_nil List.all_cons List.all_nil Bool.and_true Bool.true_and Bool.and_self Bool.not_true Bool.not_false Option.map_some Option.map_none Option.bind_some Option.bind_none List.length_cons List.length_nil List.take_succ_cons List.take_zero List.take_nil List.drop_succ_cons List.drop_zero List.drop_nil List.head?_cons List.map_cons List.map_nil List.getElem?_cons_zero List.getElem?_cons_succ List.cons_append List.nil_append List.append_nil List.length_map List.set_cons_zero List.set_cons_succ Nat.reduceMul eq_self Int.toNat_natCast Int.natCast_nonneg and_self true_and and_true decide_true decide_false Bool.false_eq_true Nat.zero_add Nat.add_zero List.contains_cons List.contains_nil Bool.or_false Bool.false_or beq_self_eq_true Nat.reduceBEq ne_eq not_true_eq_false not_false_eq_true Id.mk.injEq false_and and_false Nat.reduceLT Int.reduceLE Int.reduceLT Int.reduceToNat Int.reduceNeg Int.reduceAdd Nat.le_refl List.length_append beq_true beq_false Bool.not_eq_eq_eq_not or_false false_or dX ai aq aH bj bE cu aW br aU bp cV bP
def iH (n lo hi:Int):Bool:=decide (lo<=n)&&decide (n<=hi)
theorem dZ {n lo hi:Int} (h:iH n lo hi=true):lo<=n/\n<=hi:=by simpa[iH]using h
theorem js {n lo hi:Int} (h:lo<=n/\n<=hi):iH n lo hi=true:=by simpa[iH]using h
def qH (p:ar):Bool:=iH p.eY (-60) 60&&iH p.eU (-60) 60
theorem kr (n lo hi:Int):aj Tryz.prog 137 [.int .i64 n,.int .i64 lo,.int .i64 hi] (.bool (iH n lo hi)):=by
 refine aj.body ek rfl fun hl n0=>?_
 clear hl
 by_cases h1:lo<=n
 ·(try((repeat(revert hN;revert N;apply Pn.out));refine wk @h1 ?_;(repeat(refine Pn.mk ?_;intro N hN))))
  exact aP (b:=decide (n<=hi)) (.inl rfl) (sd @Nat.zero_add) (by simp[iH,h1])
 ·(try((repeat(revert hN;revert N;apply Pn.out));refine wk @h1 ?_;(repeat(refine Pn.mk ?_;intro N hN))))
  exact aP (b:=false) (.inl rfl) (sd @Nat.zero_add) (by simp[iH,h1])
theorem j8 (n lo hi:Int):aj Tryz.prog 141 [.int .i64 n,.int .i64 lo,.int .i64 hi] (.bool (iH n lo hi)):=by
 refine aj.body ek rfl fun hl n0=>?_
 clear hl
 by_cases h1:lo<=n
 ·(try((repeat(revert hN;revert N;apply Pn.out));refine wk @h1 ?_;(repeat(refine Pn.mk ?_;intro N hN))))
  exact aP (b:=decide (n<=hi)) (.inl rfl) (sd @Nat.zero_add) (by simp[iH,h1])
 ·(try((repeat(revert hN;revert N;apply Pn.out));refine wk @h1 ?_;(repeat(refine Pn.mk ?_;intro N hN))))
  exact aP (b:=false) (.inl rfl) (sd @Nat.zero_add) (by simp[iH,h1])
theorem Jd (d:Int):aj Tryz.prog 173 [.int .i64 d] (.bool (iH d 0 3)):=by
 refine aj.body ek rfl fun hl n0=>?_
 clear hl
 have h:=kr d 0 3
 (repeat(first|((repeat(revert hN;revert N;apply Pn.out));refine wk @Nat.zero_add ?_;(repeat(refine Pn.mk ?_;intro N hN)))|((try apply Or.inl);refine⟨_,aj.x (h) (sd @Nat.zero_add),?_⟩;refine hN _ _ ?_;clear hN N)))
 exact aP (b:=iH d 0 3) (.inl rfl) (sd @Nat.zero_add) rfl
theorem qz (p:ar):aj Tryz.prog 123 [.agg (aa p)] (.bool (qH p)):=by
 refine aj.body ek rfl fun hl n0=>?_
 clear hl
 have h1:=kr p.eY (-60) 60
 have h2:=kr p.eU (-60) 60
 by_cases q:iH p.eY (-60) 60=true
 ·rw[q]at h1
  (repeat(first|((repeat(revert hN;revert N;apply Pn.out));refine wk @aa.eq_1 ?_;(repeat(refine Pn.mk ?_;intro N hN)))|((try apply Or.inl);refine⟨_,aj.x (h1) (sd @aa.eq_1),?_⟩;refine hN _ _ ?_;clear hN N)|((try apply Or.inl);refine⟨_,aj.x (h2) (sd @aa.eq_1),?_⟩;refine hN _ _ ?_;clear hN N)))
  exact aP (b:=iH p.eU (-60) 60) (.inl rfl) (sd @Nat.zero_add) (by rw[qH,q];rfl)
 ·rw[Bool.not_eq_true]at q
  rw[q]at h1
  (repeat(first|((repeat(revert hN;revert N;apply Pn.out));refine wk @aa.eq_1 ?_;(repeat(refine Pn.mk ?_;intro N hN)))|((try apply Or.inl);refine⟨_,aj.x (h1) (sd @aa.eq_1),?_⟩;refine hN _ _ ?_;clear hN N)|((try apply Or.inl);refine⟨_,aj.x (h2) (sd @aa.eq_1),?_⟩;refine hN _ _ ?_;clear hN N)))
  exact aP (b:=false) (.inl rfl) (sd @Nat.zero_add) (by rw[qH,q];rfl)
theorem jj (p:ar):aj Tryz.prog 140 [.agg (aa p)] (.bool (qH p)):=by
 refine aj.body ek rfl fun hl n0=>?_
 clear hl
 have h1:=j8 p.eY (-60) 60
 have h2:=j8 p.eU (-60) 60
 by_cases q:iH p.eY (-60) 60=true
 ·rw[q]at h1
  (repeat(first|((repeat(revert hN;revert N;apply Pn.out));refine wk @aa.eq_1 ?_;(repeat(refine Pn.mk ?_;intro N hN)))|((try apply Or.inl);refine⟨_,aj.x (h1) (sd @aa.eq_1),?_⟩;refine hN _ _ ?_;clear hN N)|((try apply Or.inl);refine⟨_,aj.x (h2) (sd @aa.eq_1),?_⟩;refine hN _ _ ?_;clear hN N)))
  exact aP (b:=iH p.eU (-60) 60) (.inl rfl) (sd @Nat.zero_add) (by rw[qH,q];rfl)
 ·rw[Bool.not_eq_true]at q
  rw[q]at h1
  (repeat(first|((repeat(revert hN;revert N;apply Pn.out));refine wk @aa.eq_1 ?_;(repeat(refine Pn.mk ?_;intro N hN)))|((try apply Or.inl);refine⟨_,aj.x (h1) (sd @aa.eq_1),?_⟩;refine hN _ _ ?_;clear hN N)|((try apply Or.inl);refine⟨_,aj.x (h2) (sd @aa.eq_1),?_⟩;refine hN _ _ ?_;clear hN N)))
  exact aP (b:=false) (.inl rfl) (sd @Nat.zero_add) (by rw[qH,q];rfl)
def sU (d:Int):Int:=if iH d 0 3 then(d+2) % 4 else -1
def cq (p:ar) (d:Int):ar:=
 if d=0 then⟨p.eY,p.eU+1⟩else if d=1 then⟨p.eY+1,p.eU⟩else if d=2 then⟨p.eY,p.eU-1⟩else if d=3 then⟨p.eY-1,p.eU⟩else p
def iB (n:Int):Prop:=-4611686018427387904<=n/\n<=4611686018427387904
theorem sO (p:ar) (d:Int) (hd:iH d 0 3=true) (hx:iB p.eY) (hy:iB p.eU):aj Tryz.prog 122 [.agg (aa p),.int .i64 d] (.agg (aa (cq p d))):=by
 refine aj.body ek rfl fun hl n0=>?_
 clear hl
 obtain⟨x1,x2⟩:=hx
 obtain⟨y1,y2⟩:=hy
 have w1:IntKind.i64.wrap (p.eY+1)=p.eY+1:=aV (by omega)
 have w2:IntKind.i64.wrap (p.eY-1)=p.eY-1:=aV (by omega)
 have w3:IntKind.i64.wrap (p.eU+1)=p.eU+1:=aV (by omega)
 have w4:IntKind.i64.wrap (p.eU-1)=p.eU-1:=aV (by omega)
 have hb:=dZ hd
 have hc:d=0∨d=1∨d=2∨d=3:=by omega
 rcases hc with rfl|rfl|rfl|rfl
 ·(try((repeat(revert hN;revert N;apply Pn.out));refine wk (tw @aa.eq_1 @w3) ?_;(repeat(refine Pn.mk ?_;intro N hN))))
  exact rO (.inl rfl) (vs:=[.agg (aa (cq p 0))]) (by simp only[go_sem, ↓reduceIte,Nat.reduceEqDiff,Nat.reduceAdd,Nat.reduceSub,Nat.reduceLeDiff,reduceCtorEq,fm,ig,aa,cq]) (by simp[fA,aa,gp,eb])
 ·(try((repeat(revert hN;revert N;apply Pn.out));refine wk (tw @aa.eq_1 @w1) ?_;(repeat(refine Pn.mk ?_;intro N hN))))
  exact rO (.inl rfl) (vs:=[.agg (aa (cq p 1))]) (by simp[fm,ig,aa,cq,ld,rowAt,bJ,upd,part]) (by simp[fA,aa,gp,eb])
 ·(try((repeat(revert hN;revert N;apply Pn.out));refine wk (tw @aa.eq_1 @w4) ?_;(repeat(refine Pn.mk ?_;intro N hN))))
  exact rO (.inl rfl) (vs:=[.agg (aa (cq p 2))]) (by simp[fm,ig,aa,cq,ld,rowAt,bJ,upd,part]) (by simp[fA,aa,gp,eb])
 ·(try((repeat(revert hN;revert N;apply Pn.out));refine wk (tw @aa.eq_1 @w2) ?_;(repeat(refine Pn.mk ?_;intro N hN))))
  exact rO (.inl rfl) (vs:=[.agg (aa (cq p 3))]) (by simp[fm,ig,aa,cq,ld,rowAt,bJ,upd,part]) (by simp[fA,aa,gp,eb])
theorem Aa (p p2:ar) (x y:Int) (hx:IntKind.i64.wrap (p.eY+p2.eY)=x) (hy:IntKind.i64.wrap (p.eU+p2.eU)=y):aj Tryz.prog 184 [.agg (aa p),.agg (aa p2)] (.agg [.int .i64 x,.int .i64 y]):=by
 refine aj.body ek rfl fun hl n0=>?_
 clear hl
 (try((repeat(revert hN;revert N;apply Pn.out));refine wk (tw @aa.eq_1 (tw @hx @hy)) ?_;(repeat(refine Pn.mk ?_;intro N hN))))
 exact rO (.inl rfl) (vs:=[.agg [.int .i64 x,.int .i64 y]]) (by simp only[go_sem, ↓reduceIte,Nat.reduceEqDiff,Nat.reduceAdd,Nat.reduceSub,Nat.reduceLeDiff,reduceCtorEq,fm,ig,aa]) (by simp[fA,gp,eb])
theorem wN (p:ar) (d:Int) (hd:iH d 0 3=true) (hx:iB p.eY) (hy:iB p.eU):aj Tryz.prog 149 [.agg (aa p),.int .i64 d] (.agg (aa (cq p d))):=by
 refine aj.body ek rfl fun hl n0=>?_
 clear hl
 obtain⟨x1,x2⟩:=hx
 obtain⟨y1,y2⟩:=hy
 have hb:=dZ hd
 have hc:d=0∨d=1∨d=2∨d=3:=by omega
 rcases hc with rfl|rfl|rfl|rfl
 ·have h:=Aa p ⟨0,1⟩ (p.eY) (p.eU+1) (by rw[aV (by constructor<;>simp only<;>omega)]<;>(try simp only)<;>(try omega)) (by rw[aV (by constructor<;>simp only<;>omega)]<;>(try simp only)<;>(try omega))
  simp only[aa]at h
  (repeat(first|((repeat(revert hN;revert N;apply Pn.out));refine wk @aa.eq_1 ?_;(repeat(refine Pn.mk ?_;intro N hN)))|((try apply Or.inl);refine⟨_,aj.x (h) (sd @aa.eq_1),?_⟩;refine hN _ _ ?_;clear hN N)))
  exact rO (.inl rfl) (vs:=[.agg (aa (cq p 0))]) (by simp[fm,ig,aa,cq,ld,rowAt,bJ,upd,part]) (by simp[fA,aa,gp,eb])
 ·have h:=Aa p ⟨1,0⟩ (p.eY+1) (p.eU) (by rw[aV (by constructor<;>simp only<;>omega)]<;>(try simp only)<;>(try omega)) (by rw[aV (by constructor<;>simp only<;>omega)]<;>(try simp only)<;>(try omega))
  simp only[aa]at h
  (repeat(first|((repeat(revert hN;revert N;apply Pn.out));refine wk @aa.eq_1 ?_;(repeat(refine Pn.mk ?_;intro N hN)))|((try apply Or.inl);refine⟨_,aj.x (h) (sd @aa.eq_1),?_⟩;refine hN _ _ ?_;clear hN N)))
  exact rO (.inl rfl) (vs:=[.agg (aa (cq p 1))]) (by simp[fm,ig,aa,cq,ld,rowAt,bJ,upd,part]) (by simp[fA,aa,gp,eb])
 ·have h:=Aa p ⟨0,(-1)⟩ (p.eY) (p.eU-1) (by rw[aV (by constructor<;>simp only<;>omega)]<;>(try simp only)<;>(try omega)) (by rw[aV (by constructor<;>simp only<;>omega)]<;>(try simp only)<;>(try omega))
  simp only[aa]at h
  (repeat(first|((repeat(revert hN;revert N;apply Pn.out));refine wk @aa.eq_1 ?_;(repeat(refine Pn.mk ?_;intro N hN)))|((try apply Or.inl);refine⟨_,aj.x (h) (sd @aa.eq_1),?_⟩;refine hN _ _ ?_;clear hN N)))
  exact rO (.inl rfl) (vs:=[.agg (aa (cq p 2))]) (by simp[fm,ig,aa,cq,ld,rowAt,bJ,upd,part]) (by simp[fA,aa,gp,eb])
 ·have h:=Aa p ⟨(-1),0⟩ (p.eY-1) (p.eU) (by rw[aV (by constructor<;>simp only<;>omega)]<;>(try simp only)<;>(try omega)) (by rw[aV (by constructor<;>simp only<;>omega)]<;>(try simp only)<;>(try omega))
  simp only[aa]at h
  (repeat(first|((repeat(revert hN;revert N;apply Pn.out));refine wk @aa.eq_1 ?_;(repeat(refine Pn.mk ?_;intro N hN)))|((try apply Or.inl);refine⟨_,aj.x (h) (sd @aa.eq_1),?_⟩;refine hN _ _ ?_;clear hN N)))
  exact rO (.inl rfl) (vs:=[.agg (aa (cq p 3))]) (by simp[fm,ig,aa,cq,ld,rowAt,bJ,upd,part]) (by simp[fA,aa,gp,eb])
theorem Ec (d:Int) (hd:iH d 0 3=true):aj Tryz.prog 153 [.int .i64 d] (.int .i64 (sU d)):=by
 refine aj.body ek rfl fun hl n0=>?_
 clear hl
 have hb:=dZ hd
 have hw:IntKind.i64.wrap (d+2)=d+2:=aV (by omega)
 have ht:Int.tmod (d+2) 4=(d+2) % 4:=Int.tmod_eq_emod_of_nonneg (by omega)
 have h4:¬((4:Int)=0):=by omega
 (try((repeat(revert hN;revert N;apply Pn.out));refine wk (tw @hw (tw @ht @h4)) ?_;(repeat(refine Pn.mk ?_;intro N hN))))
 exact bL (b:=(d+2) % 4) (.inl rfl) (sd @Nat.zero_add) (by rw[sU,if_pos hd])
theorem C4 (d:Int) (hd:iH d 0 3=true):aj Tryz.prog 125 [.int .i64 d] (.int .i64 (sU d)):=by
 refine aj.body ek rfl fun hl n0=>?_
 clear hl
 have hb:=dZ hd
 have hw:IntKind.i64.wrap (d+2)=d+2:=aV (by omega)
 have ht:Int.tmod (d+2) 4=(d+2) % 4:=Int.tmod_eq_emod_of_nonneg (by omega)
 have h4:¬((4:Int)=0):=by omega
 have h:=Jd d
 rw[hd]at h
 (repeat(first|((repeat(revert hN;revert N;apply Pn.out));refine wk (tw @hw (tw @ht @h4)) ?_;(repeat(refine Pn.mk ?_;intro N hN)))|((try apply Or.inl);refine⟨_,aj.x (h) (sd (tw @hw (tw @ht @h4))),?_⟩;refine hN _ _ ?_;clear hN N)))
 exact bL (b:=(d+2) % 4) (.inl rfl) (sd @Nat.zero_add) (by rw[sU,if_pos hd])
end Go.Proofs.YtgoelphibofcmaaGreat.V

namespace Go.Proofs.YtgoelphibofcmaaGreat.V
open Go.RowKit
attribute [local irreducible] dG wpOps gz Call
attribute [local go_sem] aL fU eV gw gr cK upd cw K.av cU AV.cells AV.cell rowOf rowsOf part ld rowAt bJ cr dK ep iC bR dj eF gq fh dz ew dh de ec ee bV bh cX bU cZ cY eu ez ev cW cj di er bS aQ db cG iA bz cN bW aX dn aZ dL AV.undef bG bK ef eo dW ea cJ eE eH cD eB eA da dc List.getD_cons_zero List.getD_cons_succ List.getD_nil List.all_cons List.all_nil Bool.and_true Bool.true_and Bool.and_self Bool.not_true Bool.not_false Option.map_some Option.map_none Option.bind_some Option.bind_none List.length_cons List.length_nil List.take_succ_cons List.take_zero List.take_nil List.drop_succ_cons List.drop_zero List.drop_nil List.head?_cons List.map_cons List.map_nil List.getElem?_cons_zero List.getElem?_cons_succ List.cons_append List.nil_append List.append_nil List.length_map List.set_cons_zero List.set_cons_succ Nat.reduceMul eq_self Int.toNat_natCast Int.natCast_nonneg and_self true_and and_true decide_true decide_false Bool.false_eq_true Nat.zero_add Nat.add_zero List.contains_cons List.contains_nil Bool.or_false Bool.false_or beq_self_eq_true Nat.reduceBEq ne_eq not_true_eq_false not_false_eq_true Id.mk.injEq false_and and_false Nat.reduceLT Int.reduceLE Int.reduceLT Int.reduceToNat Int.reduceNeg Int.reduceAdd Nat.le_refl List.length_append beq_true beq_false Bool.not_eq_eq_eq_not or_false false_or dX ai aq aH bj bE cu aW br aU bp cV bP
def eJ (s:aw) (t:Int):Bool:=iH t 0 ((s.ae.length:Int)-1)
theorem vU (s:aw) (t:Int):aj Tryz.prog 136 [.cQ (ab s),.int .i64 t] (.bool (eJ s t)):=by
 refine aj.body ek rfl fun hl n0=>?_
 have hn:s.ae.length<=9223372036854775807:=by
  have h1:=(hl (.cQ (ab s)) (by simp)).BR (a:=.sl (s.ae.map bx)) (by simp[ab])
  simpa using h1.len
 clear hl
 have hw:IntKind.i64.wrap ((s.ae.length:Int)-1)=(s.ae.length:Int)-1:=aV (by omega)
 have h:=kr t 0 ((s.ae.length:Int)-1)
 (repeat(first|((repeat(revert hN;revert N;apply Pn.out));refine wk (tw @ab.eq_1 @hw) ?_;(repeat(refine Pn.mk ?_;intro N hN)))|((try apply Or.inl);refine⟨_,aj.x (h) (sd (tw @ab.eq_1 @hw)),?_⟩;refine hN _ _ ?_;clear hN N)))
 exact aP (b:=eJ s t) (.inl rfl) (by simp only[go_sem, ↓reduceIte,Nat.reduceEqDiff,Nat.reduceAdd,Nat.reduceSub,Nat.reduceLeDiff,reduceCtorEq,eJ]) rfl
theorem yy (t n:Int) (h0:0<=n) (h1:n<=9223372036854775807):aj Tryz.prog 139 [.int .i64 t,.int .i64 n] (.bool (iH t 0 (n-1))):=by
 refine aj.body ek rfl fun hl n0=>?_
 clear hl
 have hw:IntKind.i64.wrap (n-1)=n-1:=aV (by omega)
 have h:=j8 t 0 (n-1)
 (repeat(first|((repeat(revert hN;revert N;apply Pn.out));refine wk @hw ?_;(repeat(refine Pn.mk ?_;intro N hN)))|((try apply Or.inl);refine⟨_,aj.x (h) (sd @hw),?_⟩;refine hN _ _ ?_;clear hN N)))
 exact aP (b:=iH t 0 (n-1)) (.inl rfl) (sd @Nat.zero_add) rfl
theorem Ja (s:aw) (t:Int):aj Tryz.prog 83 [.agg (ab s),.int .i64 t] (.bool (eJ s t)):=by
 refine aj.body ek rfl fun hl n0=>?_
 have hn:s.ae.length<=9223372036854775807:=by
  have h1:=(hl (.agg (ab s)) (by simp)).Ns (a:=.sl (s.ae.map bx)) (by simp[ab])
  simpa using h1.len
 clear hl
 have h:=yy t s.ae.length (by omega) (by omega)
 (repeat(first|((repeat(revert hN;revert N;apply Pn.out));refine wk @ab.eq_1 ?_;(repeat(refine Pn.mk ?_;intro N hN)))|((try apply Or.inl);refine⟨_,aj.x (h) (sd @ab.eq_1),?_⟩;refine hN _ _ ?_;clear hN N)))
 exact aP (b:=eJ s t) (.inl rfl) (by simp only[go_sem, ↓reduceIte,Nat.reduceEqDiff,Nat.reduceAdd,Nat.reduceSub,Nat.reduceLeDiff,reduceCtorEq,eJ]) rfl
def z6:eT:=⟨⟨#[]⟩,[]⟩
def dv (s:aw) (t:Int):eT:=s.ae.getD t.toNat z6
def du (t:eT) (d:Int):Int:=t.bt.getD d.toNat 0
def qn (s:aw) (g:Int):fB:=s.aB.getD g.toNat ⟨⟨#[]⟩,0⟩
def s5 (s:aw) (g:Int):Int:=if g=0 then 0 else(qn s (g-1)).eh
def gQ (s:aw) (a d b:Int):Int:=if du (dv s a) d=du (dv s b) (sU d)then s5 s (du (dv s a) d)else 0
structure kE (s:aw):Prop where
 wL:∀t∈s.ae,t.bt.length=4
 vG:∀t∈s.ae,∀g∈t.bt,0<=g/\g<=s.aB.length
theorem getD_map {α β:Type} (e:α->β) {l:List α} {k:Nat} {d:α} (h:k<l.length):(l.map e)[k]? =some (e (l.getD k d)):=by simp[List.getD_eq_getElem?_getD,h]
theorem xG (s:aw) (g:Int) (h0:0<=g) (h1:g<=s.aB.length):aj Tryz.prog 126 [.cQ (ab s),.int .i64 g] (.int .i64 (s5 s g)):=by
 refine aj.body ek rfl fun hl n0=>?_
 have hn:s.aB.length<=9223372036854775807:=by
  have h1:=(hl (.cQ (ab s)) (by simp)).BR (a:=.sl (s.aB.map bD)) (by simp[ab])
  simpa using h1.len
 clear hl
 by_cases hg:g=0
 ·have e:decide (g=0)=true:=decide_eq_true hg
  (try((repeat(revert hN;revert N;apply Pn.out));refine wk (tw @ab.eq_1 @e) ?_;(repeat(refine Pn.mk ?_;intro N hN))))
  exact bL (b:=0) (.inl rfl) (sd @Nat.zero_add) (by rw[s5,if_pos hg])
 ·have e:decide (g=0)=false:=decide_eq_false hg
  have hw:IntKind.i64.wrap (g-1)=g-1:=aV (by omega)
  have qq:0<=g-1:=by omega
  have fb:(s.aB.map bD)[(g-1).toNat]? =some (bD (qn s (g-1))):=getD_map bD (by omega)
  (try((repeat(revert hN;revert N;apply Pn.out));refine wk (tw @ab.eq_1 (tw @e (tw @hw (tw @qq (tw @fb @bD.eq_1))))) ?_;(repeat(refine Pn.mk ?_;intro N hN))))
  exact bL (b:=(qn s (g-1)).eh) (.inl rfl) (sd @Nat.zero_add) (by rw[s5,if_neg hg])
theorem oV {s:aw} {a:Int} (h:eJ s a=true):0<=a/\(s.ae.map bx)[a.toNat]? =some (bx (dv s a))/\dv s a∈s.ae:=by
 have h':=dZ h
 have dM:a.toNat<s.ae.length:=by omega
 refine⟨h'.1,getD_map bx dM,?_⟩
 unfold dv
 rw[List.getD_eq_getElem?_getD,List.getElem?_eq_getElem dM]
 exact List.getElem_mem dM
theorem oQ {t:eT} {d:Int} (h:t.bt.length=4) (hd:iH d 0 3=true):(t.bt.map bf)[d.toNat]? =some [.int .i64 (du t d)]:=by
 have:=dZ hd
 exact getD_map bf (by omega)
theorem Ct {t:eT} {d:Int} (h:t.bt.length=4) (hd:iH d 0 3=true):du t d∈t.bt:=by
 have:=dZ hd
 have dM:d.toNat<t.bt.length:=by omega
 unfold du
 rw[List.getD_eq_getElem?_getD,List.getElem?_eq_getElem dM]
 exact List.getElem_mem dM
theorem z7 {d:Int} (hd:iH d 0 3=true):iH (sU d) 0 3=true:=by
 have:=dZ hd
 refine js ?_
 rw[sU,if_pos hd];omega
theorem yC (s:aw) (hF:kE s) (a d b:Int) (ha:eJ s a=true) (hb:eJ s b=true) (hd:iH d 0 3=true):aj Tryz.prog 147 [.cQ (ab s),.int .i64 a,.int .i64 d,.int .i64 b] (.int .i64 (gQ s a d b)):=by
 refine aj.body ek rfl fun hl n0=>?_
 clear hl
 obtain⟨a0,a1,a2⟩:=oV ha
 obtain⟨b0,b1,b2⟩:=oV hb
 have s1:=oQ (hF.wL _ a2) hd
 have s2:=oQ (hF.wL _ b2) (z7 hd)
 have gl:=hF.vG _ a2 _ (Ct (hF.wL _ a2) hd)
 have d0:=(dZ hd).1
 have d1:=(dZ (z7 hd)).1
 have h:=C4 d hd
 have hs:=xG s (du (dv s a) d) gl.1 gl.2
 rw[ab]at hs
 by_cases e:du (dv s a) d=du (dv s b) (sU d)
 ·have e':decide (du (dv s a) d=du (dv s b) (sU d))=true:=decide_eq_true e
  (repeat(first|((repeat(revert hN;revert N;apply Pn.out));refine wk (tw @ab.eq_1 (tw @bx.eq_1 (tw @a0 (tw @a1 (tw @b0 (tw @b1 (tw @s1 (tw @s2 (tw @d0 (tw @d1 @e')))))))))) ?_;(repeat(refine Pn.mk ?_;intro N hN)))|((try apply Or.inl);refine⟨_,aj.x (h) (sd (tw @ab.eq_1 (tw @bx.eq_1 (tw @a0 (tw @a1 (tw @b0 (tw @b1 (tw @s1 (tw @s2 (tw @d0 (tw @d1 @e'))))))))))),?_⟩;refine hN _ _ ?_;clear hN N)|((try apply Or.inl);refine⟨_,aj.x (hs) (sd (tw @ab.eq_1 (tw @bx.eq_1 (tw @a0 (tw @a1 (tw @b0 (tw @b1 (tw @s1 (tw @s2 (tw @d0 (tw @d1 @e'))))))))))),?_⟩;refine hN _ _ ?_;clear hN N)))
  exact bL (b:=s5 s (du (dv s a) d)) (.inl rfl) (sd @Nat.zero_add) (by rw[gQ,if_pos e])
 ·have e':decide (du (dv s a) d=du (dv s b) (sU d))=false:=decide_eq_false e
  (repeat(first|((repeat(revert hN;revert N;apply Pn.out));refine wk (tw @ab.eq_1 (tw @bx.eq_1 (tw @a0 (tw @a1 (tw @b0 (tw @b1 (tw @s1 (tw @s2 (tw @d0 (tw @d1 @e')))))))))) ?_;(repeat(refine Pn.mk ?_;intro N hN)))|((try apply Or.inl);refine⟨_,aj.x (h) (sd (tw @ab.eq_1 (tw @bx.eq_1 (tw @a0 (tw @a1 (tw @b0 (tw @b1 (tw @s1 (tw @s2 (tw @d0 (tw @d1 @e'))))))))))),?_⟩;refine hN _ _ ?_;clear hN N)))
  exact bL (b:=0) (.inl rfl) (sd @Nat.zero_add) (by rw[gQ,if_neg e])
theorem Ew (s:aw) (hF:kE s) (a d:Int) (ha:eJ s a=true) (hd:iH d 0 3=true):aj Tryz.prog 185 [.agg (ab s),.int .i64 a,.int .i64 d] (.int .i64 (s5 s (du (dv s a) d))):=by
 refine aj.body ek rfl fun hl n0=>?_
 have hn:s.aB.length<=9223372036854775807:=by
  have h1:=(hl (.agg (ab s)) (by simp)).Ns (a:=.sl (s.aB.map bD)) (by simp[ab])
  simpa using h1.len
 clear hl
 obtain⟨a0,a1,a2⟩:=oV ha
 have s1:=oQ (hF.wL _ a2) hd
 have gl:=hF.vG _ a2 _ (Ct (hF.wL _ a2) hd)
 have d0:=(dZ hd).1
 by_cases hg:du (dv s a) d=0
 ·have e:¬(0<du (dv s a) d):=by omega
  (try((repeat(revert hN;revert N;apply Pn.out));refine wk (tw @ab.eq_1 (tw @bx.eq_1 (tw @a0 (tw @a1 (tw @s1 (tw @d0 @e)))))) ?_;(repeat(refine Pn.mk ?_;intro N hN))))
  exact bL (b:=0) (.inl rfl) (sd @Nat.zero_add) (by rw[s5,if_pos hg])
 ·have e:0<du (dv s a) d:=by omega
  have hw:IntKind.i64.wrap (du (dv s a) d-1)=du (dv s a) d-1:=aV (by omega)
  have qq:0<=du (dv s a) d-1:=by omega
  have fb:(s.aB.map bD)[(du (dv s a) d-1).toNat]? =some (bD (qn s (du (dv s a) d-1))):=getD_map bD (by omega)
  (try((repeat(revert hN;revert N;apply Pn.out));refine wk (tw @ab.eq_1 (tw @bx.eq_1 (tw @a0 (tw @a1 (tw @s1 (tw @d0 (tw @e (tw @hw (tw @qq (tw @fb @bD.eq_1)))))))))) ?_;(repeat(refine Pn.mk ?_;intro N hN))))
  exact bL (b:=(qn s (du (dv s a) d-1)).eh) (.inl rfl) (sd @Nat.zero_add) (by rw[s5,if_neg hg])
theorem H7 (s:aw) (hF:kE s) (a d b:Int) (ha:eJ s a=true) (hb:eJ s b=true) (hd:iH d 0 3=true):aj Tryz.prog 150 [.agg (ab s),.int .i64 a,.int .i64 d,.int .i64 b] (.int .i64 (gQ s a d b)):=by
 refine aj.body ek rfl fun hl n0=>?_
 clear hl
 obtain⟨a0,a1,a2⟩:=oV ha
 obtain⟨b0,b1,b2⟩:=oV hb
 have s1:=oQ (hF.wL _ a2) hd
 have s2:=oQ (hF.wL _ b2) (z7 hd)
 have d0:=(dZ hd).1
 have d1:=(dZ (z7 hd)).1
 have h:=Ec d hd
 have hs:=Ew s hF a d ha hd
 rw[ab]at hs
 by_cases e:du (dv s a) d=du (dv s b) (sU d)
 ·have e':decide (du (dv s a) d=du (dv s b) (sU d))=true:=decide_eq_true e
  (repeat(first|((repeat(revert hN;revert N;apply Pn.out));refine wk (tw @ab.eq_1 (tw @bx.eq_1 (tw @a0 (tw @a1 (tw @b0 (tw @b1 (tw @s1 (tw @s2 (tw @d0 (tw @d1 @e')))))))))) ?_;(repeat(refine Pn.mk ?_;intro N hN)))|((try apply Or.inl);refine⟨_,aj.x (h) (sd (tw @ab.eq_1 (tw @bx.eq_1 (tw @a0 (tw @a1 (tw @b0 (tw @b1 (tw @s1 (tw @s2 (tw @d0 (tw @d1 @e'))))))))))),?_⟩;refine hN _ _ ?_;clear hN N)|((try apply Or.inl);refine⟨_,aj.x (hs) (sd (tw @ab.eq_1 (tw @bx.eq_1 (tw @a0 (tw @a1 (tw @b0 (tw @b1 (tw @s1 (tw @s2 (tw @d0 (tw @d1 @e'))))))))))),?_⟩;refine hN _ _ ?_;clear hN N)))
  exact bL (b:=s5 s (du (dv s a) d)) (.inl rfl) (sd @Nat.zero_add) (by rw[gQ,if_pos e])
 ·have e':decide (du (dv s a) d=du (dv s b) (sU d))=false:=decide_eq_false e
  (repeat(first|((repeat(revert hN;revert N;apply Pn.out));refine wk (tw @ab.eq_1 (tw @bx.eq_1 (tw @a0 (tw @a1 (tw @b0 (tw @b1 (tw @s1 (tw @s2 (tw @d0 (tw @d1 @e')))))))))) ?_;(repeat(refine Pn.mk ?_;intro N hN)))|((try apply Or.inl);refine⟨_,aj.x (h) (sd (tw @ab.eq_1 (tw @bx.eq_1 (tw @a0 (tw @a1 (tw @b0 (tw @b1 (tw @s1 (tw @s2 (tw @d0 (tw @d1 @e'))))))))))),?_⟩;refine hN _ _ ?_;clear hN N)))
  exact bL (b:=0) (.inl rfl) (sd @Nat.zero_add) (by rw[gQ,if_neg e])
end Go.Proofs.YtgoelphibofcmaaGreat.V

namespace Go.Proofs.YtgoelphibofcmaaGreat.V
open Go.RowKit
attribute [local irreducible] dG wpOps gz Call
attribute [local go_sem] aL fU eV gw gr cK upd cw K.av cU AV.cells AV.cell rowOf rowsOf part ld rowAt bJ cr dK ep iC bR dj eF gq fh dz ew dh de ec ee bV bh cX bU cZ cY eu ez ev cW cj di er bS aQ db cG iA bz cN bW aX dn aZ dL AV.undef bG bK ef eo dW ea cJ eE eH cD eB eA da dc List.getD_cons_zero List.getD_cons_succ List.getD_nil List.all_cons List.all_nil Bool.and_true Bool.true_and Bool.and_self Bool.not_true Bool.not_false Option.map_some Option.map_none Option.bind_some Option.bind_none List.length_cons List.length_nil List.take_succ_cons List.take_zero List.take_nil List.drop_succ_cons List.drop_zero List.drop_nil List.head?_cons List.map_cons List.map_nil List.getElem?_cons_zero List.getElem?_cons_succ List.cons_append List.nil_append List.append_nil List.length_map List.set_cons_zero List.set_cons_succ Nat.reduceMul eq_self Int.toNat_natCast Int.natCast_nonneg and_self true_and and_true decide_true decide_false Bool.false_eq_true Nat.zero_add Nat.add_zero List.contains_cons List.contains_nil Bool.or_false Bool.false_or beq_self_eq_true Nat.reduceBEq ne_eq not_true_eq_false not_false_eq_true Id.mk.injEq false_and and_false Nat.reduceLT Int.reduceLE Int.reduceLT Int.reduceToNat Int.reduceNeg Int.reduceAdd Nat.le_refl List.length_append beq_true beq_false Bool.not_eq_eq_eq_not or_false false_or dX ai aq aH bj bE cu aW br aU bp cV bP
def pH (s:aw) (i:Nat):fB:=s.aB.getD i ⟨⟨#[]⟩,0⟩
def oU (s:aw) (i:Nat):eT:=s.ae.getD i z6
def C1 (s:aw) (i:Nat):Prop:=jJ (pH s i).aD=true/\iH (pH s i).eh 1 4=true/\∀j,j<i->(pH s j).aD≠(pH s i).aD
def AS (s:aw) (i:Nat):Prop:=jJ (oU s i).aD=true/\(oU s i).bt.length=4/\(∀j,j<i->(oU s j).aD≠(oU s i).aD)/\∀g∈(oU s i).bt,iH g 0 s.aB.length=true
structure iF (s:aw):Prop where
 vG:s.aB.length<=200
 some:1<=s.ae.length
 Cz:s.ae.length<=160
 R7:∀i,i<s.aB.length->C1 s i
 tok:∀i,i<s.ae.length->AS s i
noncomputable def qK (s:aw):Bool:=@decide (iF s) (Classical.propDecidable _)
theorem mo {s:aw}:qK s=true↔iF s:=by simp[qK]
theorem fD {s:aw} (h:¬iF s):false=qK s:=by simp[qK,h]
theorem Cs {s:aw} (h:iF s):true=qK s:=by simp[qK,h]
theorem Ar {s:aw} {i:Nat} (h:i<s.ae.length):(s.ae.map bx)[i]? =some (bx (oU s i)):=getD_map bx h
theorem zt {s:aw} {i:Nat} (h:i<s.aB.length):(s.aB.map bD)[i]? =some (bD (pH s i)):=getD_map bD h
theorem iF.form {s:aw} (h:iF s):kE s:=by
 have key:∀t∈s.ae,∃i,i<s.ae.length/\t=oU s i:=fun t ht=>by
  obtain⟨i,hi,rfl⟩:=List.getElem_of_mem ht
  exact⟨i,hi,by simp[oU,List.getD_eq_getElem?_getD,hi]⟩
 refine⟨fun t ht=>?_,fun t ht g hg=>?_⟩
 ·obtain⟨i,hi,rfl⟩:=key t ht
  exact(h.tok i hi).2.1
 ·obtain⟨i,hi,rfl⟩:=key t ht
  exact dZ ((h.tok i hi).2.2.2 g hg)
def dx (l:List ByteArray):List (List AV):=l.map fun n=>[.str n,.bool true]
abbrev mS:MK:=⟨false,[.tS]⟩
theorem yT (n:ByteArray):∀(l:List ByteArray) (i:Nat),∃r,ga mS [.str n] (dx l) i=some r/\((r=none/\n∉l)∨∃j,r=some (i+j)/\n∈l/\(dx l)[j]? =some [.str n,.bool true])
 |[],i=>⟨none,rfl,.inl ⟨rfl,by simp⟩⟩
 |m::l,i=>by
  obtain⟨r,h1,h2⟩:=yT n l (i+1)
  by_cases h:n=m
  ·subst h
   exact⟨some i,by simp[dx,ga,fh,gq,MK.ks],.inr ⟨0,rfl,by simp,rfl⟩⟩
  ·refine⟨r,?_,?_⟩
   ·unfold dx at h1 ⊢
    simp only[List.map_cons,ga,MK.ks,List.length_cons,List.length_nil,Nat.zero_add,List.take_succ_cons,List.take_zero,fh,gq,h,decide_false,Bool.and_true]
    exact h1
   ·rcases h2 with⟨rfl,h2⟩|⟨j,rfl,h2,h3⟩
    ·exact .inl ⟨rfl,by simp[h,h2]⟩
    ·exact .inr ⟨j+1,by congr 1;omega,by simp[h2],by simpa[dx]using h3⟩
theorem wJ (n:ByteArray) (l:List ByteArray):(n∉l/\fM mS (.str n) (dx l)=some none)∨∃j,n∈l/\fM mS (.str n) (dx l)=some (some j)/\(dx l)[j]? =some [.str n,.bool true]:=by
 obtain⟨r,h1,h2⟩:=yT n l 0
 have e:fM mS (.str n) (dx l)=some r:=by
  unfold fM
  rw[if_pos ⟨rfl,rfl,rfl⟩];exact h1
 rcases h2 with⟨rfl,h2⟩|⟨j,rfl,h2,h3⟩
 ·exact .inl ⟨h2,e⟩
 ·exact .inr ⟨j,h2,by rw[e,Nat.zero_add],h3⟩
theorem OZ (s:aw) (g:Int):aj Tryz.prog 200 [.int .i64 g,.cQ (ab s)] (.bool (!iH g 0 s.aB.length)):=by
 refine aj.body ek rfl fun hl n0=>?_
 clear hl
 have h:=j8 g 0 s.aB.length
 (repeat(first|((repeat(revert hN;revert N;apply Pn.out));refine wk @ab.eq_1 ?_;(repeat(refine Pn.mk ?_;intro N hN)))|((try apply Or.inl);refine⟨_,aj.x (h) (sd @ab.eq_1),?_⟩;refine hN _ _ ?_;clear hN N)))
 exact aP (b:= !iH g 0 s.aB.length) (.inl rfl) (sd @Nat.zero_add) rfl
theorem K0:P9 bf (fun c=>.int .i64 c) 1 false:=⟨fun _=>rfl,fun _=>rfl,fun x g=>by rw[ai,aH,aq];rfl⟩
theorem Mc (s:aw) (l:List Int) (hl:l.length<=1048576):aj Tryz.prog 199 [.sl (l.map bf),.fn 200 [.cQ (ab s)]] (.bool (l.any fun g=> !iH g 0 s.aB.length)):=
 kO K0 (show lV Tryz.prog 199=some (zy 199 224) by kernel_rfl)
  (show lV Tryz.prog 224=some (sL 224 1 false) by kernel_rfl) l hl _ _ _ rfl (fun g=>by rw[ai,aU,aq];rfl) (fun x _=>OZ s x) fun g=>by rw[ai,aU,aq];rfl
theorem wg {α:Type} (f:Nat->α) (n k:Nat) (x:α):x∉(List.range k).map f↔∀j,j<k->f j≠x:=by
 constructor
 ·intro h j hj he
  exact h (List.mem_map.2 ⟨j,List.mem_range.2 hj,he⟩)
 ·intro h hm
  obtain⟨j,hj,he⟩:=List.mem_map.1 hm
  exact h j (List.mem_range.1 hj) he
theorem C6 (s:aw) (hn:fW s) (hg:s.aB.length<=1048576) (ht:s.ae.length<=1048576) (hs:∀t∈s.ae,t.bt.length<=1048576):aj Tryz.prog 164 [.agg (ab s)] (.bool (qK s)):=by
 refine aj.body ek rfl fun hl n0=>?_
 clear hl
 have QS:∀i,i<s.aB.length->(pH s i).aD.size<=9223372036854775807:=fun i hi=>hn.1 _ (by simp[pH,List.getD_eq_getElem?_getD,hi])
 have Lw:∀i,i<s.ae.length->(oU s i).aD.size<=9223372036854775807:=fun i hi=>hn.2 _ (by simp[oU,List.getD_eq_getElem?_getD,hi])
 have xE:∀i,i<s.ae.length->(oU s i).bt.length<=1048576:=fun i hi=>hs _ (by simp[oU,List.getD_eq_getElem?_getD,hi])
 have hw:=j8 (s.ae.length:Int) 1 160
 by_cases h1:(200:Int)<(s.aB.length:Int)
 ·(try((repeat(revert hN;revert N;apply Pn.out));refine wk (tw @ab.eq_1 @h1) ?_;(repeat(refine Pn.mk ?_;intro N hN))))
  exact aP (b:=false) (.inl rfl) (sd @Nat.zero_add) (fD fun h=>by have:=h.vG;omega)
 by_cases h2:iH (s.ae.length:Int) 1 160=true
 ·have CN:=dZ h2
  rw[h2]at hw
  (repeat(first|((repeat(revert hN;revert N;apply Pn.out));refine wk (tw @ab.eq_1 @h1) ?_;(repeat(refine Pn.mk ?_;intro N hN)))|((try apply Or.inl);refine⟨_,aj.x (hw) (sd (tw @ab.eq_1 @h1)),?_⟩;refine hN _ _ ?_;clear hN N)))
  refine aI (fun n env st=>∃k:Nat,n=(s.aB.length)-k/\k<=(s.aB.length)/\env 24=.int .i64 (k:Int)/\st.get ⟨164000000,n0⟩=some ⟨true,2,[ab s]⟩/\st.get ⟨164003000,n0+1+1⟩=some ⟨true,mS.nS,dx ((List.range k).map fun i=>(pH s i).aD)⟩/\(∀j:Nat,j<k->C1 s j)) (s.aB.length) ⟨0,by omega,by omega,by(try simp only[go_sem, ↓reduceIte,Nat.reduceEqDiff,Nat.reduceAdd,Nat.reduceSub,Nat.reduceLeDiff,reduceCtorEq,ab,List.range_zero,List.map_nil,dx]);try rfl,by(try simp only[go_sem, ↓reduceIte,Nat.reduceEqDiff,Nat.reduceAdd,Nat.reduceSub,Nat.reduceLeDiff,reduceCtorEq,ab,List.range_zero,List.map_nil,dx]);try rfl,by(try simp only[go_sem, ↓reduceIte,Nat.reduceEqDiff,Nat.reduceAdd,Nat.reduceSub,Nat.reduceLeDiff,reduceCtorEq,ab,List.range_zero,List.map_nil,dx]);try rfl,fun _ h=>absurd h (Nat.not_lt_zero _)⟩ ?_
  rintro n_a env_a st_a ⟨k,rfl,ale,a24,ag0,ag1,lU⟩ dp
  have a1:=dp 1 (by kernel_rfl);have a3:=dp 3 (by kernel_rfl);have a22:=dp 22 (by kernel_rfl);have a23:=dp 23 (by kernel_rfl)
  simp only[go_sem, ↓reduceIte,Nat.reduceEqDiff,Nat.reduceAdd,Nat.reduceSub,Nat.reduceLeDiff,reduceCtorEq,ab,List.range_zero,List.map_nil,dx]at a1 a3 a22 a23
  clear dp
  by_cases hk:(k:Int)<(s.aB.length:Int)
  ·have ck:∀{e:Env} {gg:Rows},(e 24=.int .i64 (IntKind.i64.wrap ((k:Int)+1)))->(gg ⟨164000000,n0⟩=some ⟨true,2,[ab s]⟩)->(gg ⟨164003000,n0+1+1⟩=some ⟨true,mS.nS,dx ((List.range (k+1)).map fun i=>(pH s i).aD)⟩)->(C1 s k)->∃m0,m0<(s.aB.length)-k/\∃k:Nat,m0=(s.aB.length)-k/\k<=(s.aB.length)/\e 24=.int .i64 (k:Int)/\gg ⟨164000000,n0⟩=some ⟨true,2,[ab s]⟩/\gg ⟨164003000,n0+1+1⟩=some ⟨true,mS.nS,dx ((List.range k).map fun i=>(pH s i).aD)⟩/\(∀j:Nat,j<k->C1 s j):=fun x1 x2 x3 x4=>⟨_,by omega,k+1,rfl,by omega,(by rw[x1,aA (by omega)]),x2,x3,(all_succ lU x4)⟩
   have eZ:k<s.aB.length:=by omega
   have eM:=zt eZ
   have se:=Ft (pH s k).aD (QS k eZ)
   have KG:=j8 (pH s k).eh 1 4
   have BG:=wJ (pH s k).aD ((List.range k).map fun i=>(pH s i).aD)
   rw[wg _ k]at BG
   have ll:(¬C1 s k)->¬iF s:=fun h hp=>h (hp.R7 k eZ)
   generalize uB:pH s k=gl at *
   cases hb:jJ gl.aD
   ·rw[hb]at se
    (repeat(first|((repeat(revert hN;revert N;apply Pn.out));refine wk (tw @a24 (tw @ag0 (tw @ag1 (tw @a1 (tw @a3 (tw @a22 (tw @a23 (tw @hk (tw @eM (tw @bD.eq_1 @ab.eq_1)))))))))) ?_;(repeat(refine Pn.mk ?_;intro N hN)))|((try apply Or.inl);refine⟨_,aj.x (se) (sd (tw @a24 (tw @ag0 (tw @ag1 (tw @a1 (tw @a3 (tw @a22 (tw @a23 (tw @hk (tw @eM (tw @bD.eq_1 @ab.eq_1))))))))))),?_⟩;refine hN _ _ ?_;clear hN N)))
    exact aP (b:=false) (.inl rfl) (sd @Nat.zero_add) (fD (ll fun h=>by rw[C1,uB,hb]at h;cases h.1))
   ·rw[hb]at se
    rcases BG with⟨Dy,mH⟩|⟨j,fP,mH,fy⟩
    ·cases dB:iH gl.eh 1 4
     ·rw[dB]at KG
      (repeat(first|((repeat(revert hN;revert N;apply Pn.out));refine wk (tw @a24 (tw @ag0 (tw @ag1 (tw @a1 (tw @a3 (tw @a22 (tw @a23 (tw @hk (tw @eM (tw @mH (tw @bD.eq_1 @ab.eq_1))))))))))) ?_;(repeat(refine Pn.mk ?_;intro N hN)))|((try apply Or.inl);refine⟨_,aj.x (se) (sd (tw @a24 (tw @ag0 (tw @ag1 (tw @a1 (tw @a3 (tw @a22 (tw @a23 (tw @hk (tw @eM (tw @mH (tw @bD.eq_1 @ab.eq_1)))))))))))),?_⟩;refine hN _ _ ?_;clear hN N)|((try apply Or.inl);refine⟨_,aj.x (KG) (sd (tw @a24 (tw @ag0 (tw @ag1 (tw @a1 (tw @a3 (tw @a22 (tw @a23 (tw @hk (tw @eM (tw @mH (tw @bD.eq_1 @ab.eq_1)))))))))))),?_⟩;refine hN _ _ ?_;clear hN N)))
      exact aP (b:=false) (.inl rfl) (sd @Nat.zero_add) (fD (ll fun h=>by rw[C1,uB,dB]at h;cases h.2.1))
     ·rw[dB]at KG
      have jf:dx ((List.range k).map fun i=>(pH s i).aD)++[[.str gl.aD,.bool true]]=dx (List.map (fun i=>(pH s i).aD) (List.range k++[k])):=by simp[dx,uB]
      (repeat(first|((repeat(revert hN;revert N;apply Pn.out));refine wk (tw @a24 (tw @ag0 (tw @ag1 (tw @a1 (tw @a3 (tw @a22 (tw @a23 (tw @hk (tw @eM (tw @mH (tw @bD.eq_1 @ab.eq_1))))))))))) ?_;(repeat(refine Pn.mk ?_;intro N hN)))|((try apply Or.inl);refine⟨_,aj.x (se) (sd (tw @a24 (tw @ag0 (tw @ag1 (tw @a1 (tw @a3 (tw @a22 (tw @a23 (tw @hk (tw @eM (tw @mH (tw @bD.eq_1 @ab.eq_1)))))))))))),?_⟩;refine hN _ _ ?_;clear hN N)|((try apply Or.inl);refine⟨_,aj.x (KG) (sd (tw @a24 (tw @ag0 (tw @ag1 (tw @a1 (tw @a3 (tw @a22 (tw @a23 (tw @hk (tw @eM (tw @mH (tw @bD.eq_1 @ab.eq_1)))))))))))),?_⟩;refine hN _ _ ?_;clear hN N)))
      refine ck ?_ ?_ ?_ (⟨by rw[uB];exact hb,by rw[uB];exact dB,fun j hj=>by rw[uB];exact Dy j hj⟩)
      all_goals simp only[go_sem, ↓reduceIte,Nat.reduceEqDiff,Nat.reduceAdd,Nat.reduceSub,Nat.reduceLeDiff,reduceCtorEq,a24,ag0,ag1,a1,a3,a22,a23,mH,jf]
    ·(repeat(first|((repeat(revert hN;revert N;apply Pn.out));refine wk (tw @a24 (tw @ag0 (tw @ag1 (tw @a1 (tw @a3 (tw @a22 (tw @a23 (tw @hk (tw @eM (tw @mH (tw @fy (tw @bD.eq_1 @ab.eq_1)))))))))))) ?_;(repeat(refine Pn.mk ?_;intro N hN)))|((try apply Or.inl);refine⟨_,aj.x (se) (sd (tw @a24 (tw @ag0 (tw @ag1 (tw @a1 (tw @a3 (tw @a22 (tw @a23 (tw @hk (tw @eM (tw @mH (tw @fy (tw @bD.eq_1 @ab.eq_1))))))))))))),?_⟩;refine hN _ _ ?_;clear hN N)))
     exact aP (b:=false) (.inl rfl) (sd @Nat.zero_add) (fD (ll fun h=>by
      rw[C1,uB]at h
      obtain⟨i,hi,he⟩:=List.mem_map.1 fP
      exact h.2.2 i (List.mem_range.1 hi) he))
  ·have lj:k=s.aB.length:=by omega
   (try((repeat(revert hN;revert N;apply Pn.out));refine wk (tw @a24 (tw @ag0 (tw @ag1 (tw @a1 (tw @a3 (tw @a22 (tw @a23 (tw @hk @ab.eq_1)))))))) ?_;(repeat(refine Pn.mk ?_;intro N hN))))
   refine aI (fun n env st=>∃j:Nat,n=(s.ae.length)-j/\j<=(s.ae.length)/\env 52=.int .i64 (j:Int)/\st.get ⟨164000000,n0⟩=some ⟨true,2,[ab s]⟩/\st.get ⟨164011000,st_a.next+1⟩=some ⟨true,mS.nS,dx ((List.range j).map fun i=>(oU s i).aD)⟩/\(∀i:Nat,i<j->AS s i)/\(st_a.next<st.next)) (s.ae.length) ⟨0,by omega,by omega,by(try simp only[go_sem, ↓reduceIte,Nat.reduceEqDiff,Nat.reduceAdd,Nat.reduceSub,Nat.reduceLeDiff,reduceCtorEq,a24,ag0,ag1,a1,a3,a22,a23,ab,List.range_zero,List.map_nil,dx]);try rfl,by(try simp only[go_sem, ↓reduceIte,Nat.reduceEqDiff,Nat.reduceAdd,Nat.reduceSub,Nat.reduceLeDiff,reduceCtorEq,a24,ag0,ag1,a1,a3,a22,a23,ab,List.range_zero,List.map_nil,dx]);try rfl,by(try simp only[go_sem, ↓reduceIte,Nat.reduceEqDiff,Nat.reduceAdd,Nat.reduceSub,Nat.reduceLeDiff,reduceCtorEq,a24,ag0,ag1,a1,a3,a22,a23,ab,List.range_zero,List.map_nil,dx]);try rfl,fun _ h=>absurd h (Nat.not_lt_zero _),(by(try dsimp only);omega)⟩ ?_
   rintro n_b env_b st_b ⟨j,rfl,ble,b52,bg0,bg1,bA0,bI0⟩ eS
   have b1:=eS 1 (by kernel_rfl);have b6:=eS 6 (by kernel_rfl);have Da:=eS 50 (by kernel_rfl);have Db:=eS 51 (by kernel_rfl)
   simp only[go_sem, ↓reduceIte,Nat.reduceEqDiff,Nat.reduceAdd,Nat.reduceSub,Nat.reduceLeDiff,reduceCtorEq,a24,ag0,ag1,a1,a3,a22,a23,ab,List.range_zero,List.map_nil,dx]at b1 b6 Da Db
   clear eS
   by_cases hj:(j:Int)<(s.ae.length:Int)
   ·have eR:∀{e:Env} {gg:Rows} {nx:Nat},(e 52=.int .i64 (IntKind.i64.wrap ((j:Int)+1)))->(gg ⟨164000000,n0⟩=some ⟨true,2,[ab s]⟩)->(gg ⟨164011000,st_a.next+1⟩=some ⟨true,mS.nS,dx ((List.range (j+1)).map fun i=>(oU s i).aD)⟩)->(AS s j)->(st_a.next<nx)->∃m0,m0<(s.ae.length)-j/\∃j:Nat,m0=(s.ae.length)-j/\j<=(s.ae.length)/\e 52=.int .i64 (j:Int)/\gg ⟨164000000,n0⟩=some ⟨true,2,[ab s]⟩/\gg ⟨164011000,st_a.next+1⟩=some ⟨true,mS.nS,dx ((List.range j).map fun i=>(oU s i).aD)⟩/\(∀i:Nat,i<j->AS s i)/\(st_a.next<nx):=fun x1 x2 x3 x4 x5=>⟨_,by omega,j+1,rfl,by omega,(by rw[x1,aA (by omega)]),x2,x3,(all_succ bA0 x4),x5⟩
    have iO:j<s.ae.length:=by omega
    have pN:=Ar iO
    have se:=Ft (oU s j).aD (Lw j iO)
    have SH:=Mc s (oU s j).bt (xE j iO)
    have BG:=wJ (oU s j).aD ((List.range j).map fun i=>(oU s i).aD)
    rw[wg _ j]at BG
    have ll:(¬AS s j)->¬iF s:=fun h hp=>h (hp.tok j iO)
    have gU:(⟨164011000,st_a.next+1⟩:Id)≠⟨164000000,n0⟩:=by simp
    generalize htd:oU s j=tl at *
    cases hb:jJ tl.aD
    ·rw[hb]at se
     (repeat(first|((repeat(revert hN;revert N;apply Pn.out));refine wk (tw @b52 (tw @bg0 (tw @bg1 (tw @b1 (tw @b6 (tw @Da (tw @Db (tw @hj (tw @pN (tw @bx.eq_1 @ab.eq_1)))))))))) ?_;(repeat(refine Pn.mk ?_;intro N hN)))|((try apply Or.inl);refine⟨_,aj.x (se) (sd (tw @b52 (tw @bg0 (tw @bg1 (tw @b1 (tw @b6 (tw @Da (tw @Db (tw @hj (tw @pN (tw @bx.eq_1 @ab.eq_1))))))))))),?_⟩;refine hN _ _ ?_;clear hN N)))
     exact aP (b:=false) (.inl rfl) (sd @Nat.zero_add) (fD (ll fun h=>by rw[AS,htd,hb]at h;cases h.1))
    ·rw[hb]at se
     rcases BG with⟨Dy,mH⟩|⟨i,fP,mH,fy⟩
     ·by_cases h4:(tl.bt.length:Int)=4
      ·have zw:decide ((tl.bt.length:Int)=4)=true:=decide_eq_true h4
       cases hany:tl.bt.any fun g=> !iH g 0 s.aB.length
       ·rw[hany]at SH
        have jf:dx ((List.range j).map fun i=>(oU s i).aD)++[[.str tl.aD,.bool true]]=dx (List.map (fun i=>(oU s i).aD) (List.range j++[j])):=by simp[dx,htd]
        (repeat(first|((repeat(revert hN;revert N;apply Pn.out));refine wk (tw @b52 (tw @bg0 (tw @bg1 (tw @b1 (tw @b6 (tw @Da (tw @Db (tw @hj (tw @pN (tw @mH (tw @zw (tw @bx.eq_1 @ab.eq_1)))))))))))) ?_;(repeat(refine Pn.mk ?_;intro N hN)))|((try apply Or.inl);refine⟨_,aj.x (se) (sd (tw @b52 (tw @bg0 (tw @bg1 (tw @b1 (tw @b6 (tw @Da (tw @Db (tw @hj (tw @pN (tw @mH (tw @zw (tw @bx.eq_1 @ab.eq_1))))))))))))),?_⟩;refine hN _ _ ?_;clear hN N)|((try apply Or.inl);refine⟨_,aj.x (SH) (sd (tw @b52 (tw @bg0 (tw @bg1 (tw @b1 (tw @b6 (tw @Da (tw @Db (tw @hj (tw @pN (tw @mH (tw @zw (tw @bx.eq_1 @ab.eq_1))))))))))))),?_⟩;refine hN _ _ ?_;clear hN N)))
        refine eR ?_ ?_ ?_ (⟨by rw[htd];exact hb,by rw[htd];omega,fun i hi=>(by rw[htd];exact Dy i hi),fun g hg=>by rw[htd]at hg;have:=List.any_eq_false.1 hany g hg;simpa using this⟩) (by(try dsimp only);omega)
        all_goals simp only[go_sem, ↓reduceIte,Nat.reduceEqDiff,Nat.reduceAdd,Nat.reduceSub,Nat.reduceLeDiff,reduceCtorEq,b52,bg0,bg1,b1,b6,Da,Db,mH,jf]
       ·rw[hany]at SH
        (repeat(first|((repeat(revert hN;revert N;apply Pn.out));refine wk (tw @b52 (tw @bg0 (tw @bg1 (tw @b1 (tw @b6 (tw @Da (tw @Db (tw @hj (tw @pN (tw @mH (tw @zw (tw @bx.eq_1 @ab.eq_1)))))))))))) ?_;(repeat(refine Pn.mk ?_;intro N hN)))|((try apply Or.inl);refine⟨_,aj.x (se) (sd (tw @b52 (tw @bg0 (tw @bg1 (tw @b1 (tw @b6 (tw @Da (tw @Db (tw @hj (tw @pN (tw @mH (tw @zw (tw @bx.eq_1 @ab.eq_1))))))))))))),?_⟩;refine hN _ _ ?_;clear hN N)|((try apply Or.inl);refine⟨_,aj.x (SH) (sd (tw @b52 (tw @bg0 (tw @bg1 (tw @b1 (tw @b6 (tw @Da (tw @Db (tw @hj (tw @pN (tw @mH (tw @zw (tw @bx.eq_1 @ab.eq_1))))))))))))),?_⟩;refine hN _ _ ?_;clear hN N)))
        exact aP (b:=false) (.inl rfl) (sd @Nat.zero_add) (fD (ll fun h=>by
         rw[AS,htd]at h
         obtain⟨g,hg,hq⟩:=List.any_eq_true.1 hany
         have:=h.2.2.2 g hg
         rw[this]at hq;cases hq))
      ·have zw:decide ((tl.bt.length:Int)=4)=false:=decide_eq_false h4
       (repeat(first|((repeat(revert hN;revert N;apply Pn.out));refine wk (tw @b52 (tw @bg0 (tw @bg1 (tw @b1 (tw @b6 (tw @Da (tw @Db (tw @hj (tw @pN (tw @mH (tw @zw (tw @bx.eq_1 @ab.eq_1)))))))))))) ?_;(repeat(refine Pn.mk ?_;intro N hN)))|((try apply Or.inl);refine⟨_,aj.x (se) (sd (tw @b52 (tw @bg0 (tw @bg1 (tw @b1 (tw @b6 (tw @Da (tw @Db (tw @hj (tw @pN (tw @mH (tw @zw (tw @bx.eq_1 @ab.eq_1))))))))))))),?_⟩;refine hN _ _ ?_;clear hN N)))
       exact aP (b:=false) (.inl rfl) (sd @Nat.zero_add) (fD (ll fun h=>by rw[AS,htd]at h;have:=h.2.1;omega))
     ·(repeat(first|((repeat(revert hN;revert N;apply Pn.out));refine wk (tw @b52 (tw @bg0 (tw @bg1 (tw @b1 (tw @b6 (tw @Da (tw @Db (tw @hj (tw @pN (tw @mH (tw @fy (tw @bx.eq_1 @ab.eq_1)))))))))))) ?_;(repeat(refine Pn.mk ?_;intro N hN)))|((try apply Or.inl);refine⟨_,aj.x (se) (sd (tw @b52 (tw @bg0 (tw @bg1 (tw @b1 (tw @b6 (tw @Da (tw @Db (tw @hj (tw @pN (tw @mH (tw @fy (tw @bx.eq_1 @ab.eq_1))))))))))))),?_⟩;refine hN _ _ ?_;clear hN N)))
      exact aP (b:=false) (.inl rfl) (sd @Nat.zero_add) (fD (ll fun h=>by
       rw[AS,htd]at h
       obtain⟨i,hi,he⟩:=List.mem_map.1 fP
       exact h.2.2.1 i (List.mem_range.1 hi) he))
   ·(try((repeat(revert hN;revert N;apply Pn.out));refine wk (tw @b52 (tw @bg0 (tw @bg1 (tw @b1 (tw @b6 (tw @Da (tw @Db (tw @hj @ab.eq_1)))))))) ?_;(repeat(refine Pn.mk ?_;intro N hN))))
    exact aP (b:=true) (.inl rfl) (sd @Nat.zero_add) (Cs ⟨by omega,by omega,by omega,fun i hi=>lU i (by omega),fun i hi=>bA0 i (by omega)⟩)
 ·rw[Bool.not_eq_true]at h2
  rw[h2]at hw
  (repeat(first|((repeat(revert hN;revert N;apply Pn.out));refine wk (tw @ab.eq_1 @h1) ?_;(repeat(refine Pn.mk ?_;intro N hN)))|((try apply Or.inl);refine⟨_,aj.x (hw) (sd (tw @ab.eq_1 @h1)),?_⟩;refine hN _ _ ?_;clear hN N)))
  exact aP (b:=false) (.inl rfl) (sd @Nat.zero_add) (fD fun h=>by
   have h3:=h.some
   have h4:=h.Cz
   rw[js ⟨by omega,by omega⟩]at h2;cases h2)
end Go.Proofs.YtgoelphibofcmaaGreat.V

namespace Go.Proofs.YtgoelphibofcmaaGreat.V
open Go.RowKit
attribute [local irreducible] dG wpOps gz Call
attribute [local go_sem] aL fU eV gw gr cK upd cw K.av cU AV.cells AV.cell rowOf rowsOf part ld rowAt bJ cr dK ep iC bR dj eF gq fh dz ew dh de ec ee bV bh cX bU cZ cY eu ez ev cW cj di er bS aQ db cG iA bz cN bW aX dn aZ dL AV.undef bG bK ef eo dW ea cJ eE eH cD eB eA da dc List.getD_cons_zero List.getD_cons_succ List.getD_nil List.all_cons List.all_nil Bool.and_true Bool.true_and Bool.and_self Bool.not_true Bool.not_false Option.map_some Option.map_none Option.bind_some Option.bind_none List.length_cons List.length_nil List.take_succ_cons List.take_zero List.take_nil List.drop_succ_cons List.drop_zero List.drop_nil List.head?_cons List.map_cons List.map_nil List.getElem?_cons_zero List.getElem?_cons_succ List.cons_append List.nil_append List.append_nil List.length_map List.set_cons_zero List.set_cons_succ Nat.reduceMul eq_self Int.toNat_natCast Int.natCast_nonneg and_self true_and and_true decide_true decide_false Bool.false_eq_true Nat.zero_add Nat.add_zero List.contains_cons List.contains_nil Bool.or_false Bool.false_or beq_self_eq_true Nat.reduceBEq ne_eq not_true_eq_false not_false_eq_true Id.mk.injEq false_and and_false Nat.reduceLT Int.reduceLE Int.reduceLT Int.reduceToNat Int.reduceNeg Int.reduceAdd Nat.le_refl List.length_append beq_true beq_false Bool.not_eq_eq_eq_not or_false false_or dX ai aq aH bj bE cu aW br aU bp cV bP
theorem ur {α:Type} {p:α->Bool} {xs:List α} {k:Nat} (hk:k<xs.length) (h1:p xs[k]=true) (h2:∀j (h:j<xs.length),j<k->p xs[j]=false):kd p xs=k:=by
 have:xs.findIdx p=k:=by rw[List.findIdx_eq hk];exact⟨h1,fun j hj=>h2 j (by omega) hj⟩
 rw[kd,this,if_pos hk]
theorem yc {α:Type} {p:α->Bool} {xs:List α} (h:∀j (h:j<xs.length),p xs[j]=false):kd p xs= -1:=by
 rw[kd,if_neg]
 rw[List.findIdx_lt_length]
 rintro⟨x,hx,Ls⟩
 obtain⟨j,hj,rfl⟩:=List.getElem_of_mem hx
 rw[h j hj]at Ls;cases Ls
theorem zr {s:aw} {i:Nat} (h:i<s.aB.length):pH s i=s.aB[i]:=by simp[pH,List.getD_eq_getElem?_getD,h]
theorem Aq {s:aw} {i:Nat} (h:i<s.ae.length):oU s i=s.ae[i]:=by simp[oU,List.getD_eq_getElem?_getD,h]
def Kt (s:aw) (n:ByteArray):Int:=kd (fun g:fB=>decide (g.aD=n)) s.aB
def Nd (s:aw) (n:ByteArray):Int:=kd (fun t:eT=>decide (t.aD=n)) s.ae
theorem Gy (s:aw) (nm:ByteArray):aj Tryz.prog 190 [.cQ (ab s),.str nm] (.int .i64 (Kt s nm+1)):=by
 refine aj.body ek rfl fun hl n0=>?_
 have hlen:s.aB.length<=9223372036854775807:=by
  have h1:=(hl (.cQ (ab s)) (by simp)).BR (a:=.sl (s.aB.map bD)) (by simp[ab])
  simpa using h1.len
 clear hl
 (try((repeat(revert hN;revert N;apply Pn.out));refine wk @ab.eq_1 ?_;(repeat(refine Pn.mk ?_;intro N hN))))
 refine aI (fun n env st=>∃k:Nat,n=(s.aB.length)-k/\k<=(s.aB.length)/\env 5=.int .i64 (k:Int)/\(∀j:Nat,j<k->∀h:j<s.aB.length,decide (s.aB[j].aD=nm)=false)) (s.aB.length) ⟨0,by omega,by omega,sl @ab.eq_1,fun _ h=>absurd h (Nat.not_lt_zero _)⟩ ?_
 rintro n_a env_a st_a ⟨k,rfl,ale,a5,lU⟩ dp
 have a0:=dp 0 (by kernel_rfl);have a1:=dp 1 (by kernel_rfl)
 simp only[go_sem, ↓reduceIte,Nat.reduceEqDiff,Nat.reduceAdd,Nat.reduceSub,Nat.reduceLeDiff,reduceCtorEq,ab]at a0 a1
 clear dp
 by_cases hk:(k:Int)<(s.aB.length:Int)
 ·have ck:∀{e:Env},(e 5=.int .i64 (IntKind.i64.wrap ((k:Int)+1)))->(∀h:k<s.aB.length,decide (s.aB[k].aD=nm)=false)->∃m0,m0<(s.aB.length)-k/\∃k:Nat,m0=(s.aB.length)-k/\k<=(s.aB.length)/\e 5=.int .i64 (k:Int)/\(∀j:Nat,j<k->∀h:j<s.aB.length,decide (s.aB[j].aD=nm)=false):=fun x1 x2=>⟨_,by omega,k+1,rfl,by omega,(by rw[x1,aA (by omega)]),(all_succ lU x2)⟩
  have eZ:k<s.aB.length:=by omega
  have eM:=zt eZ
  have e:=zr eZ
  cases hd:decide ((pH s k).aD=nm)
  ·have Sp:=of_decide_eq_false hd
   (try((repeat(revert hN;revert N;apply Pn.out));refine wk (tw @a5 (tw @a0 (tw @a1 (tw @hk (tw @eM (tw @Sp (tw @hd (tw @bD.eq_1 @ab.eq_1)))))))) ?_;(repeat(refine Pn.mk ?_;intro N hN))))
   exact ck (sd (tw @a5 (tw @a0 @a1))) (fun _=>by rw[e]at hd;exact hd)
  ·have Sp:=of_decide_eq_true hd
   have hw:IntKind.i64.wrap ((k:Int)+1)=(k:Int)+1:=aV (by omega)
   (try((repeat(revert hN;revert N;apply Pn.out));refine wk (tw @a5 (tw @a0 (tw @a1 (tw @hk (tw @eM (tw @hd (tw @hw (tw @bD.eq_1 @ab.eq_1)))))))) ?_;(repeat(refine Pn.mk ?_;intro N hN))))
   exact bL (b:=(k:Int)+1) (.inl rfl) (sd @Nat.zero_add) (by rw[Kt,ur eZ (by rw[e]at hd;exact hd) fun j h hj=>lU j hj h])
 ·(try((repeat(revert hN;revert N;apply Pn.out));refine wk (tw @a5 (tw @a0 (tw @a1 (tw @hk @ab.eq_1)))) ?_;(repeat(refine Pn.mk ?_;intro N hN))))
  exact bL (b:=0) (.inl rfl) (sd @Nat.zero_add) (by rw[Kt,yc fun j h=>lU j (by omega) h];rfl)
theorem Gz (s:aw) (nm:ByteArray):aj Tryz.prog 191 [.cQ (ab s),.str nm] (.int .i64 (Nd s nm)):=by
 refine aj.body ek rfl fun hl n0=>?_
 have hlen:s.ae.length<=9223372036854775807:=by
  have h1:=(hl (.cQ (ab s)) (by simp)).BR (a:=.sl (s.ae.map bx)) (by simp[ab])
  simpa using h1.len
 clear hl
 (try((repeat(revert hN;revert N;apply Pn.out));refine wk @ab.eq_1 ?_;(repeat(refine Pn.mk ?_;intro N hN))))
 refine aI (fun n env st=>∃k:Nat,n=(s.ae.length)-k/\k<=(s.ae.length)/\env 5=.int .i64 (k:Int)/\(∀j:Nat,j<k->∀h:j<s.ae.length,decide (s.ae[j].aD=nm)=false)) (s.ae.length) ⟨0,by omega,by omega,sl @ab.eq_1,fun _ h=>absurd h (Nat.not_lt_zero _)⟩ ?_
 rintro n_a env_a st_a ⟨k,rfl,ale,a5,lU⟩ dp
 have a0:=dp 0 (by kernel_rfl);have a1:=dp 1 (by kernel_rfl)
 simp only[go_sem, ↓reduceIte,Nat.reduceEqDiff,Nat.reduceAdd,Nat.reduceSub,Nat.reduceLeDiff,reduceCtorEq,ab]at a0 a1
 clear dp
 by_cases hk:(k:Int)<(s.ae.length:Int)
 ·have ck:∀{e:Env},(e 5=.int .i64 (IntKind.i64.wrap ((k:Int)+1)))->(∀h:k<s.ae.length,decide (s.ae[k].aD=nm)=false)->∃m0,m0<(s.ae.length)-k/\∃k:Nat,m0=(s.ae.length)-k/\k<=(s.ae.length)/\e 5=.int .i64 (k:Int)/\(∀j:Nat,j<k->∀h:j<s.ae.length,decide (s.ae[j].aD=nm)=false):=fun x1 x2=>⟨_,by omega,k+1,rfl,by omega,(by rw[x1,aA (by omega)]),(all_succ lU x2)⟩
  have eZ:k<s.ae.length:=by omega
  have eM:=Ar eZ
  have e:=Aq eZ
  cases hd:decide ((oU s k).aD=nm)
  ·(try((repeat(revert hN;revert N;apply Pn.out));refine wk (tw @a5 (tw @a0 (tw @a1 (tw @hk (tw @eM (tw @hd (tw @bx.eq_1 @ab.eq_1))))))) ?_;(repeat(refine Pn.mk ?_;intro N hN))))
   exact ck (sd (tw @a5 (tw @a0 @a1))) (fun _=>by rw[e]at hd;exact hd)
  ·(try((repeat(revert hN;revert N;apply Pn.out));refine wk (tw @a5 (tw @a0 (tw @a1 (tw @hk (tw @eM (tw @hd (tw @bx.eq_1 @ab.eq_1))))))) ?_;(repeat(refine Pn.mk ?_;intro N hN))))
   exact bL (b:=(k:Int)) (.inl rfl) (sd @Nat.zero_add) (by rw[Nd,ur eZ (by rw[e]at hd;exact hd) fun j h hj=>lU j hj h])
 ·(try((repeat(revert hN;revert N;apply Pn.out));refine wk (tw @a5 (tw @a0 (tw @a1 (tw @hk @ab.eq_1)))) ?_;(repeat(refine Pn.mk ?_;intro N hN))))
  exact bL (b:=-1) (.inl rfl) (sd @Nat.zero_add) (by rw[Nd,yc fun j h=>lU j (by omega) h])
theorem NN {s:aw} {i:Nat} (h:i<s.aB.length):Kt s (pH s i).aD=i↔∀j,j<i->(pH s j).aD≠(pH s i).aD:=by
 constructor
 ·intro he j hj hc
  have gR:j<s.aB.length:=by omega
  have:s.aB.findIdx (fun g:fB=>decide (g.aD=(pH s i).aD))<=j:=by
   rcases Nat.lt_or_ge j (s.aB.findIdx fun g:fB=>decide (g.aD=(pH s i).aD))with dM|qq
   ·have:=List.not_of_lt_findIdx dM
    rw[<-zr gR]at this
    simp[hc]at this
   ·exact qq
  unfold Kt kd at he
  split at he<;>omega
 ·intro hd
  exact ur h (by rw[<-zr h];simp) fun j gR hj=>by rw[<-zr gR];simpa using hd j hj
theorem O2 {s:aw} {i:Nat} (h:i<s.ae.length):Nd s (oU s i).aD=i↔∀j,j<i->(oU s j).aD≠(oU s i).aD:=by
 constructor
 ·intro he j hj hc
  have gR:j<s.ae.length:=by omega
  have:s.ae.findIdx (fun g:eT=>decide (g.aD=(oU s i).aD))<=j:=by
   rcases Nat.lt_or_ge j (s.ae.findIdx fun g:eT=>decide (g.aD=(oU s i).aD))with dM|qq
   ·have:=List.not_of_lt_findIdx dM
    rw[<-Aq gR]at this
    simp[hc]at this
   ·exact qq
  unfold Nd kd at he
  split at he<;>omega
 ·intro hd
  exact ur h (by rw[<-Aq h];simp) fun j gR hj=>by rw[<-Aq gR];simpa using hd j hj
theorem LI (s:aw) (hn:fW s) (hg:s.aB.length<=1048576) (ht:s.ae.length<=1048576):aj Tryz.prog 156 [.cQ (ab s)] (.bool (qK s)):=by
 refine aj.body ek rfl fun hl n0=>?_
 clear hl
 have QS:∀i,i<s.aB.length->(pH s i).aD.size<=9223372036854775807:=fun i hi=>hn.1 _ (by simp[pH,List.getD_eq_getElem?_getD,hi])
 have Lw:∀i,i<s.ae.length->(oU s i).aD.size<=9223372036854775807:=fun i hi=>hn.2 _ (by simp[oU,List.getD_eq_getElem?_getD,hi])
 by_cases h1:(200:Int)<(s.aB.length:Int)
 ·(try((repeat(revert hN;revert N;apply Pn.out));refine wk (tw @ab.eq_1 @h1) ?_;(repeat(refine Pn.mk ?_;intro N hN))))
  exact aP (b:=false) (.inl rfl) (sd @Nat.zero_add) (fD fun h=>by have:=h.vG;omega)
 by_cases h2:(s.ae.length:Int)<1
 ·(try((repeat(revert hN;revert N;apply Pn.out));refine wk (tw @ab.eq_1 (tw @h1 @h2)) ?_;(repeat(refine Pn.mk ?_;intro N hN))))
  exact aP (b:=false) (.inl rfl) (sd @Nat.zero_add) (fD fun h=>by have:=h.some;omega)
 by_cases h3:(160:Int)<(s.ae.length:Int)
 ·(try((repeat(revert hN;revert N;apply Pn.out));refine wk (tw @ab.eq_1 (tw @h1 (tw @h2 @h3))) ?_;(repeat(refine Pn.mk ?_;intro N hN))))
  exact aP (b:=false) (.inl rfl) (sd @Nat.zero_add) (fD fun h=>by have:=h.Cz;omega)
 (try((repeat(revert hN;revert N;apply Pn.out));refine wk (tw @ab.eq_1 (tw @h1 (tw @h2 @h3))) ?_;(repeat(refine Pn.mk ?_;intro N hN))))
 refine aI (fun n env st=>∃k:Nat,n=(s.aB.length)-k/\k<=(s.aB.length)/\env 3=.int .i64 (k:Int)/\(∀j:Nat,j<k->C1 s j)) (s.aB.length) ⟨0,by omega,by omega,sl @ab.eq_1,fun _ h=>absurd h (Nat.not_lt_zero _)⟩ ?_
 rintro n_a env_a st_a ⟨k,rfl,ale,a3,lU⟩ dp
 have a0:=dp 0 (by kernel_rfl)
 simp only[go_sem, ↓reduceIte,Nat.reduceEqDiff,Nat.reduceAdd,Nat.reduceSub,Nat.reduceLeDiff,reduceCtorEq,ab]at a0
 clear dp
 by_cases hk:(k:Int)<(s.aB.length:Int)
 ·have ck:∀{e:Env},(e 3=.int .i64 (IntKind.i64.wrap ((k:Int)+1)))->(C1 s k)->∃m0,m0<(s.aB.length)-k/\∃k:Nat,m0=(s.aB.length)-k/\k<=(s.aB.length)/\e 3=.int .i64 (k:Int)/\(∀j:Nat,j<k->C1 s j):=fun x1 x2=>⟨_,by omega,k+1,rfl,by omega,(by rw[x1,aA (by omega)]),(all_succ lU x2)⟩
  have eZ:k<s.aB.length:=by omega
  have eM:=zt eZ
  have se:=FG (pH s k).aD (QS k eZ)
  have KG:=kr (pH s k).eh 1 4
  have CT:=Gy s (pH s k).aD
  have rm:=NN eZ
  have ll:(¬C1 s k)->¬iF s:=fun h hp=>h (hp.R7 k eZ)
  have hw:IntKind.i64.wrap ((k:Int)+1)=(k:Int)+1:=aV (by omega)
  generalize uB:pH s k=gl at *
  cases hb:jJ gl.aD
  ·rw[hb]at se
   (repeat(first|((repeat(revert hN;revert N;apply Pn.out));refine wk (tw @a3 (tw @a0 (tw @hk (tw @eM (tw @bD.eq_1 @ab.eq_1))))) ?_;(repeat(refine Pn.mk ?_;intro N hN)))|((try apply Or.inl);refine⟨_,aj.x (se) (sd (tw @a3 (tw @a0 (tw @hk (tw @eM (tw @bD.eq_1 @ab.eq_1)))))),?_⟩;refine hN _ _ ?_;clear hN N)))
   exact aP (b:=false) (.inl rfl) (sd @Nat.zero_add) (fD (ll fun h=>by rw[C1,uB,hb]at h;cases h.1))
  rw[hb]at se
  cases dB:iH gl.eh 1 4
  ·rw[dB]at KG
   (repeat(first|((repeat(revert hN;revert N;apply Pn.out));refine wk (tw @a3 (tw @a0 (tw @hk (tw @eM (tw @bD.eq_1 @ab.eq_1))))) ?_;(repeat(refine Pn.mk ?_;intro N hN)))|((try apply Or.inl);refine⟨_,aj.x (se) (sd (tw @a3 (tw @a0 (tw @hk (tw @eM (tw @bD.eq_1 @ab.eq_1)))))),?_⟩;refine hN _ _ ?_;clear hN N)|((try apply Or.inl);refine⟨_,aj.x (KG) (sd (tw @a3 (tw @a0 (tw @hk (tw @eM (tw @bD.eq_1 @ab.eq_1)))))),?_⟩;refine hN _ _ ?_;clear hN N)))
   exact aP (b:=false) (.inl rfl) (sd @Nat.zero_add) (fD (ll fun h=>by rw[C1,uB,dB]at h;cases h.2.1))
  rw[dB]at KG
  rw[ab]at CT
  by_cases hq:Kt s gl.aD=(k:Int)
  ·have hd:decide (Kt s gl.aD+1=(k:Int)+1)=true:=decide_eq_true (by omega)
   have uc:decide (Kt s gl.aD=(k:Int))=true:=decide_eq_true hq
   (repeat(first|((repeat(revert hN;revert N;apply Pn.out));refine wk (tw @a3 (tw @a0 (tw @hk (tw @eM (tw @hw (tw @hd (tw @uc (tw @bD.eq_1 @ab.eq_1)))))))) ?_;(repeat(refine Pn.mk ?_;intro N hN)))|((try apply Or.inl);refine⟨_,aj.x (se) (sd (tw @a3 (tw @a0 (tw @hk (tw @eM (tw @hw (tw @hd (tw @uc (tw @bD.eq_1 @ab.eq_1))))))))),?_⟩;refine hN _ _ ?_;clear hN N)|((try apply Or.inl);refine⟨_,aj.x (KG) (sd (tw @a3 (tw @a0 (tw @hk (tw @eM (tw @hw (tw @hd (tw @uc (tw @bD.eq_1 @ab.eq_1))))))))),?_⟩;refine hN _ _ ?_;clear hN N)|((try apply Or.inl);refine⟨_,aj.x (CT) (sd (tw @a3 (tw @a0 (tw @hk (tw @eM (tw @hw (tw @hd (tw @uc (tw @bD.eq_1 @ab.eq_1))))))))),?_⟩;refine hN _ _ ?_;clear hN N)))
   exact ck (sd (tw @a3 (tw @a0 @hw))) (⟨by rw[uB];exact hb,by rw[uB];exact dB,fun j hj=>by rw[uB];exact rm.1 hq j hj⟩)
  ·have hd:decide (Kt s gl.aD+1=(k:Int)+1)=false:=decide_eq_false (by omega)
   have uc:decide (Kt s gl.aD=(k:Int))=false:=decide_eq_false hq
   (repeat(first|((repeat(revert hN;revert N;apply Pn.out));refine wk (tw @a3 (tw @a0 (tw @hk (tw @eM (tw @hw (tw @hd (tw @uc (tw @bD.eq_1 @ab.eq_1)))))))) ?_;(repeat(refine Pn.mk ?_;intro N hN)))|((try apply Or.inl);refine⟨_,aj.x (se) (sd (tw @a3 (tw @a0 (tw @hk (tw @eM (tw @hw (tw @hd (tw @uc (tw @bD.eq_1 @ab.eq_1))))))))),?_⟩;refine hN _ _ ?_;clear hN N)|((try apply Or.inl);refine⟨_,aj.x (KG) (sd (tw @a3 (tw @a0 (tw @hk (tw @eM (tw @hw (tw @hd (tw @uc (tw @bD.eq_1 @ab.eq_1))))))))),?_⟩;refine hN _ _ ?_;clear hN N)|((try apply Or.inl);refine⟨_,aj.x (CT) (sd (tw @a3 (tw @a0 (tw @hk (tw @eM (tw @hw (tw @hd (tw @uc (tw @bD.eq_1 @ab.eq_1))))))))),?_⟩;refine hN _ _ ?_;clear hN N)))
   exact aP (b:=false) (.inl rfl) (sd @Nat.zero_add) (fD (ll fun h=>by
    rw[C1,uB]at h
    exact hq (rm.2 h.2.2)))
 ·have lj:k=s.aB.length:=by omega
  (try((repeat(revert hN;revert N;apply Pn.out));refine wk (tw @a3 (tw @a0 (tw @hk @ab.eq_1))) ?_;(repeat(refine Pn.mk ?_;intro N hN))))
  refine aI (fun n env st=>∃j:Nat,n=(s.ae.length)-j/\j<=(s.ae.length)/\env 5=.int .i64 (j:Int)/\(∀i:Nat,i<j->AS s i)) (s.ae.length) ⟨0,by omega,by omega,sl (tw @a3 (tw @a0 @ab.eq_1)),fun _ h=>absurd h (Nat.not_lt_zero _)⟩ ?_
  rintro n_b env_b st_b ⟨j,rfl,ble,b5,bA0⟩ eS
  have b0:=eS 0 (by kernel_rfl)
  simp only[go_sem, ↓reduceIte,Nat.reduceEqDiff,Nat.reduceAdd,Nat.reduceSub,Nat.reduceLeDiff,reduceCtorEq,a3,a0,ab]at b0
  clear eS
  by_cases hj:(j:Int)<(s.ae.length:Int)
  ·have eR:∀{e:Env},(e 5=.int .i64 (IntKind.i64.wrap ((j:Int)+1)))->(AS s j)->∃m0,m0<(s.ae.length)-j/\∃j:Nat,m0=(s.ae.length)-j/\j<=(s.ae.length)/\e 5=.int .i64 (j:Int)/\(∀i:Nat,i<j->AS s i):=fun x1 x2=>⟨_,by omega,j+1,rfl,by omega,(by rw[x1,aA (by omega)]),(all_succ bA0 x2)⟩
   have iO:j<s.ae.length:=by omega
   have pN:=Ar iO
   have se:=FG (oU s j).aD (Lw j iO)
   have CT:=Gz s (oU s j).aD
   have rm:=O2 iO
   have ll:(¬AS s j)->¬iF s:=fun h hp=>h (hp.tok j iO)
   generalize htd:oU s j=tl at *
   cases hb:jJ tl.aD
   ·rw[hb]at se
    (repeat(first|((repeat(revert hN;revert N;apply Pn.out));refine wk (tw @b5 (tw @b0 (tw @hj (tw @pN (tw @bx.eq_1 @ab.eq_1))))) ?_;(repeat(refine Pn.mk ?_;intro N hN)))|((try apply Or.inl);refine⟨_,aj.x (se) (sd (tw @b5 (tw @b0 (tw @hj (tw @pN (tw @bx.eq_1 @ab.eq_1)))))),?_⟩;refine hN _ _ ?_;clear hN N)))
    exact aP (b:=false) (.inl rfl) (sd @Nat.zero_add) (fD (ll fun h=>by rw[AS,htd,hb]at h;cases h.1))
   rw[hb]at se
   by_cases h4:(tl.bt.length:Int)=4
   ·have zw:decide ((tl.bt.length:Int)=4)=true:=decide_eq_true h4
    rw[ab]at CT
    by_cases hq:Nd s tl.aD=(j:Int)
    ·have hd:decide (Nd s tl.aD=(j:Int))=true:=decide_eq_true hq
     (repeat(first|((repeat(revert hN;revert N;apply Pn.out));refine wk (tw @b5 (tw @b0 (tw @hj (tw @pN (tw @zw (tw @hd (tw @bx.eq_1 @ab.eq_1))))))) ?_;(repeat(refine Pn.mk ?_;intro N hN)))|((try apply Or.inl);refine⟨_,aj.x (se) (sd (tw @b5 (tw @b0 (tw @hj (tw @pN (tw @zw (tw @hd (tw @bx.eq_1 @ab.eq_1)))))))),?_⟩;refine hN _ _ ?_;clear hN N)|((try apply Or.inl);refine⟨_,aj.x (CT) (sd (tw @b5 (tw @b0 (tw @hj (tw @pN (tw @zw (tw @hd (tw @bx.eq_1 @ab.eq_1)))))))),?_⟩;refine hN _ _ ?_;clear hN N)))
     refine aI (fun n env st=>∃i:Nat,n=(4)-i/\i<=(4)/\env 7=.int .i64 (i:Int)/\st.get ⟨156012007,st_b.next+1⟩=some ⟨true,2,[bx tl]⟩/\(∀x:Nat,x<i->iH (tl.bt.getD x 0) 0 s.aB.length=true)) (4) ⟨0,by omega,by omega,sl (tw @b5 (tw @b0 (tw @bx.eq_1 @ab.eq_1))),sl (tw @b5 (tw @b0 (tw @bx.eq_1 @ab.eq_1))),fun _ h=>absurd h (Nat.not_lt_zero _)⟩ ?_
     rintro n_c env_c st_c ⟨i,rfl,cle,c7,cg0,cA0⟩ cfr
     have c0:=cfr 0 (by kernel_rfl);have c5:=cfr 5 (by kernel_rfl);have c6:=cfr 6 (by kernel_rfl)
     simp only[go_sem, ↓reduceIte,Nat.reduceEqDiff,Nat.reduceAdd,Nat.reduceSub,Nat.reduceLeDiff,reduceCtorEq,b5,b0,bx,ab]at c0 c5 c6
     clear cfr
     by_cases hi:(i:Int)<4
     ·have ib:∀{e:Env} {gg:Rows},(e 7=.int .i64 (IntKind.i64.wrap ((i:Int)+1)))->(gg ⟨156012007,st_b.next+1⟩=some ⟨true,2,[bx tl]⟩)->(iH (tl.bt.getD i 0) 0 s.aB.length=true)->∃m0,m0<(4)-i/\∃i:Nat,m0=(4)-i/\i<=(4)/\e 7=.int .i64 (i:Int)/\gg ⟨156012007,st_b.next+1⟩=some ⟨true,2,[bx tl]⟩/\(∀x:Nat,x<i->iH (tl.bt.getD x 0) 0 s.aB.length=true):=fun x1 x2 x3=>⟨_,by omega,i+1,rfl,by omega,(by rw[x1,aA (by omega)]),x2,(all_succ cA0 x3)⟩
      have fP:i<tl.bt.length:=by omega
      have lh:(tl.bt.map bf)[i]? =some (bf (tl.bt.getD i 0)):=getD_map bf fP
      have sJ:tl.bt.getD i 0∈tl.bt:=by rw[List.getD_eq_getElem?_getD,List.getElem?_eq_getElem fP];exact List.getElem_mem fP
      have IM:=kr (tl.bt.getD i 0) 0 s.aB.length
      generalize N9:tl.bt.getD i 0=gv at *
      cases hv:iH gv 0 s.aB.length
      ·rw[hv]at IM
       (repeat(first|((repeat(revert hN;revert N;apply Pn.out));refine wk (tw @c7 (tw @cg0 (tw @c0 (tw @c5 (tw @c6 (tw @hi (tw @lh (tw @bf.eq_1 (tw @bx.eq_1 @ab.eq_1))))))))) ?_;(repeat(refine Pn.mk ?_;intro N hN)))|((try apply Or.inl);refine⟨_,aj.x (IM) (sd (tw @c7 (tw @cg0 (tw @c0 (tw @c5 (tw @c6 (tw @hi (tw @lh (tw @bf.eq_1 (tw @bx.eq_1 @ab.eq_1)))))))))),?_⟩;refine hN _ _ ?_;clear hN N)))
       exact aP (b:=false) (.inl rfl) (sd @Nat.zero_add) (fD (ll fun h=>by
        rw[AS,htd]at h
        have:=h.2.2.2 gv sJ
        rw[hv]at this;cases this))
      ·rw[hv]at IM
       (repeat(first|((repeat(revert hN;revert N;apply Pn.out));refine wk (tw @c7 (tw @cg0 (tw @c0 (tw @c5 (tw @c6 (tw @hi (tw @lh (tw @bf.eq_1 (tw @bx.eq_1 @ab.eq_1))))))))) ?_;(repeat(refine Pn.mk ?_;intro N hN)))|((try apply Or.inl);refine⟨_,aj.x (IM) (sd (tw @c7 (tw @cg0 (tw @c0 (tw @c5 (tw @c6 (tw @hi (tw @lh (tw @bf.eq_1 (tw @bx.eq_1 @ab.eq_1)))))))))),?_⟩;refine hN _ _ ?_;clear hN N)))
       refine ib ?_ ?_ (hv)
       all_goals simp only[go_sem, ↓reduceIte,Nat.reduceEqDiff,Nat.reduceAdd,Nat.reduceSub,Nat.reduceLeDiff,reduceCtorEq,c7,cg0,c0,c5,c6]
     ·have hi4:i=4:=by omega
      (try((repeat(revert hN;revert N;apply Pn.out));refine wk (tw @c7 (tw @cg0 (tw @c0 (tw @c5 (tw @c6 (tw @hi (tw @bx.eq_1 @ab.eq_1))))))) ?_;(repeat(refine Pn.mk ?_;intro N hN))))
      exact eR (sd (tw @b5 (tw @b0 (tw @c7 (tw @cg0 (tw @c0 (tw @c5 @c6))))))) (⟨by rw[htd];exact hb,by rw[htd];omega,fun x hx=>(by rw[htd];exact rm.1 hq x hx),fun g hg=>by
       rw[htd]at hg
       obtain⟨x,hx,rfl⟩:=List.getElem_of_mem hg
       have:=cA0 x (by omega)
       rwa [List.getD_eq_getElem?_getD,List.getElem?_eq_getElem hx]at this⟩)
    ·have hd:decide (Nd s tl.aD=(j:Int))=false:=decide_eq_false hq
     (repeat(first|((repeat(revert hN;revert N;apply Pn.out));refine wk (tw @b5 (tw @b0 (tw @hj (tw @pN (tw @zw (tw @hd (tw @bx.eq_1 @ab.eq_1))))))) ?_;(repeat(refine Pn.mk ?_;intro N hN)))|((try apply Or.inl);refine⟨_,aj.x (se) (sd (tw @b5 (tw @b0 (tw @hj (tw @pN (tw @zw (tw @hd (tw @bx.eq_1 @ab.eq_1)))))))),?_⟩;refine hN _ _ ?_;clear hN N)|((try apply Or.inl);refine⟨_,aj.x (CT) (sd (tw @b5 (tw @b0 (tw @hj (tw @pN (tw @zw (tw @hd (tw @bx.eq_1 @ab.eq_1)))))))),?_⟩;refine hN _ _ ?_;clear hN N)))
     exact aP (b:=false) (.inl rfl) (sd @Nat.zero_add) (fD (ll fun h=>by
      rw[AS,htd]at h
      exact hq (rm.2 h.2.2.1)))
   ·have zw:decide ((tl.bt.length:Int)=4)=false:=decide_eq_false h4
    (repeat(first|((repeat(revert hN;revert N;apply Pn.out));refine wk (tw @b5 (tw @b0 (tw @hj (tw @pN (tw @zw (tw @bx.eq_1 @ab.eq_1)))))) ?_;(repeat(refine Pn.mk ?_;intro N hN)))|((try apply Or.inl);refine⟨_,aj.x (se) (sd (tw @b5 (tw @b0 (tw @hj (tw @pN (tw @zw (tw @bx.eq_1 @ab.eq_1))))))),?_⟩;refine hN _ _ ?_;clear hN N)))
    exact aP (b:=false) (.inl rfl) (sd @Nat.zero_add) (fD (ll fun h=>by rw[AS,htd]at h;have:=h.2.1;omega))
  ·(try((repeat(revert hN;revert N;apply Pn.out));refine wk (tw @b5 (tw @b0 (tw @hj @ab.eq_1))) ?_;(repeat(refine Pn.mk ?_;intro N hN))))
   exact aP (b:=true) (.inl rfl) (sd @Nat.zero_add) (Cs ⟨by omega,by omega,by omega,fun i hi=>lU i (by omega),fun i hi=>bA0 i (by omega)⟩)
end Go.Proofs.YtgoelphibofcmaaGreat.V

namespace Go.Proofs.YtgoelphibofcmaaGreat.V
def kH (a b:ar):Bool:=decide (a.eU<b.eU)||(decide (a.eU=b.eU)&&decide (a.eY<b.eY))
theorem uD {a b:ar}:kH a b=true↔a.eU<b.eU∨(a.eU=b.eU/\a.eY<b.eY):=by simp[kH]
theorem pd {a b:ar}:kH a b=false↔¬(a.eU<b.eU∨(a.eU=b.eU/\a.eY<b.eY)):=by rw[<-uD,Bool.not_eq_true]
theorem Ab {a b:ar} (h1:a.eY=b.eY) (h2:a.eU=b.eU):a=b:=by cases a;cases b;simp_all
theorem iu {a b c:ar} (h:kH a b=true) (k:kH b c=true):kH a c=true:=by rw[uD]at *;omega
theorem rE {a:ar}:kH a a=false:=by rw[pd];omega
theorem Jm {a b:ar} (h:kH a b=true):kH b a=false:=by rw[uD]at h;rw[pd];omega
theorem zR {a b:ar} (h:kH a b=false) (gU:a≠b):kH b a=true:=by
 rw[pd]at h;rw[uD]
 by_cases hy:a.eU=b.eU
 ·by_cases hx:a.eY=b.eY
  ·exact absurd (Ab hx hy) gU
  ·omega
 ·omega
def rf (a b:Int):Int:=if a<b then -1 else if b<a then 1 else 0
def LY (a b:Int):Int:=if a=0 then b else a
def pG (a b:ar):Int:=LY (rf a.eU b.eU) (rf a.eY b.eY)
theorem mO (a b:ar):decide (pG a b<0)=kH a b:=by
 unfold pG LY rf kH
 by_cases h1:a.eU<b.eU
 ·simp[h1]
 ·by_cases h2:b.eU<a.eU
  ·have:¬a.eU=b.eU:=by omega
   simp[h1,h2,this]
  ·have:a.eU=b.eU:=by omega
   by_cases h3:a.eY<b.eY
   ·simp[h1,h2,this,h3]
   ·by_cases h4:b.eY<a.eY<;>simp[h1,h2,this,h3,h4]
theorem F0 (a b:ar):(pG a b=0)↔a=b:=by
 cases a;cases b
 unfold pG LY rf
 simp only[ar.mk.injEq]
 split<;>(try split)<;>(try split)<;>(try split)<;>omega
def Jr:ah:=⟨⟨0,0⟩,0⟩
def aT (l:List ah) (i:Nat):ah:=l.getD i Jr
theorem iw {l:List ah} {i:Nat} (h:i<l.length):aT l i=l[i]:=by simp[aT,List.getD_eq_getElem?_getD,h]
theorem jx {l:List ah} {i:Nat} (h:i<l.length):aT l i∈l:=by rw[iw h];exact List.getElem_mem h
def xi (l:List ah):Prop:=∀i j:Nat,i<j->j<l.length->kH (aT l i).aO (aT l j).aO=true
def qw (l:List ah) (p:ar):Nat:=l.findIdx fun c=>decide (c.aO=p)
def eL (l:List ah) (p:ar):Int:=if qw l p<l.length then(qw l p:Int)else -1
def mi (l:List ah) (p:ar):Nat:=l.findIdx fun c=> !kH c.aO p
theorem zN {l:List ah} {p:ar} {i:Nat} (hi:i<=l.length) (h1:∀x,x<i->kH (aT l x).aO p=true) (h2:i<l.length->kH (aT l i).aO p=false):mi l p=i:=by
 unfold mi
 by_cases h:i<l.length
 ·rw[List.findIdx_eq h]
  refine⟨by have:=h2 h;rw[iw h]at this;simp[this],fun j hj=>?_⟩
  have:=h1 j hj
  rw[iw (by omega)]at this
  simp[this]
 ·have:i=l.length:=by omega
  subst this
  refine List.findIdx_eq_length_of_false fun x hx=>?_
  obtain⟨j,hj,rfl⟩:=List.getElem_of_mem hx
  have:=h1 j hj
  rw[iw hj]at this
  simp[this]
theorem zQ {l:List ah} {p:ar} (hR:xi l):eL l p=if mi l p<l.length/\(aT l (mi l p)).aO=p then(mi l p:Int)else -1:=by
 by_cases h:∃i,i<l.length/\(aT l i).aO=p
 ·obtain⟨i,hi,hp⟩:=h
  have h1:mi l p=i:=zN (by omega) (fun x hx=>by rw[<-hp];exact hR x i hx hi) fun _=>by rw[hp];exact rE
  have h2:qw l p=i:=by
   rw[qw,List.findIdx_eq hi]
   refine⟨by rw[iw hi]at hp;simpa using hp,fun j hj=>?_⟩
   have:=hR j i hj hi
   rw[hp,iw (by omega)]at this
   simp only[decide_eq_false_iff_not]
   intro hc
   rw[hc,rE]at this
   cases this
  rw[eL,h1,h2,if_pos hi,if_pos ⟨hi,hp⟩]
 ·have h2:¬qw l p<l.length:=by
   rw[qw,List.findIdx_lt_length]
   rintro⟨c,hc,he⟩
   obtain⟨j,hj,rfl⟩:=List.getElem_of_mem hc
   exact h ⟨j,hj,by rw[iw hj];simpa using he⟩
  rw[eL,if_neg h2,if_neg]
  rintro⟨h3,h4⟩
  exact h ⟨_,h3,h4⟩
theorem pb {l:List ah} {p:ar} (h:0<=eL l p):(eL l p).toNat<l.length/\(aT l (eL l p).toNat).aO=p:=by
 unfold eL at h ⊢
 split at h
 ·rename_i hc
  rw[if_pos hc]
  refine⟨by omega,?_⟩
  have:=of_decide_eq_true (List.findIdx_getElem (p:=fun c:ah=>decide (c.aO=p)) (xs:=l) (w:=hc))
  rw[Int.toNat_natCast,iw hc]
  exact this
 ·omega
def gW (l:List ah) (p:ar):Int:=if 0<=eL l p then(aT l (eL l p).toNat).bd else -1
end Go.Proofs.YtgoelphibofcmaaGreat.V

namespace Go.Proofs.YtgoelphibofcmaaGreat.V
open Go.RowKit
attribute [local irreducible] dG wpOps gz Call
attribute [local go_sem] aL fU eV gw gr cK upd cw K.av cU AV.cells AV.cell rowOf rowsOf part ld rowAt bJ cr dK ep iC bR dj eF gq fh dz ew dh de ec ee bV bh cX bU cZ cY eu ez ev cW cj di er bS aQ db cG iA bz cN bW aX dn aZ dL AV.undef bG bK ef eo dW ea cJ eE eH cD eB eA da dc List.getD_cons_zero List.getD_cons_succ List.getD_nil List.all_cons List.all_nil Bool.and_true Bool.true_and Bool.and_self Bool.not_true Bool.not_false Option.map_some Option.map_none Option.bind_some Option.bind_none List.length_cons List.length_nil List.take_succ_cons List.take_zero List.take_nil List.drop_succ_cons List.drop_zero List.drop_nil List.head?_cons List.map_cons List.map_nil List.getElem?_cons_zero List.getElem?_cons_succ List.cons_append List.nil_append List.append_nil List.length_map List.set_cons_zero List.set_cons_succ Nat.reduceMul eq_self Int.toNat_natCast Int.natCast_nonneg and_self true_and and_true decide_true decide_false Bool.false_eq_true Nat.zero_add Nat.add_zero List.contains_cons List.contains_nil Bool.or_false Bool.false_or beq_self_eq_true Nat.reduceBEq ne_eq not_true_eq_false not_false_eq_true Id.mk.injEq false_and and_false Nat.reduceLT Int.reduceLE Int.reduceLT Int.reduceToNat Int.reduceNeg Int.reduceAdd Nat.le_refl List.length_append beq_true beq_false Bool.not_eq_eq_eq_not or_false false_or dX ai aq aH bj bE cu aW br aU bp cV bP
theorem nW (a b:ar):aj Tryz.prog 160 [.agg (aa a),.agg (aa b)] (.bool (kH a b)):=by
 refine aj.body ek rfl fun hl n0=>?_
 clear hl
 by_cases h0:a.eU<b.eU
 ·(try((repeat(revert hN;revert N;apply Pn.out));refine wk (tw @aa.eq_1 @h0) ?_;(repeat(refine Pn.mk ?_;intro N hN))))
  exact aP (b:=true) (.inl rfl) (sd @Nat.zero_add) (by simp[kH,h0])
 ·by_cases h1:a.eU=b.eU
  ·have h2:¬b.eU<b.eU:=by omega
   (try((repeat(revert hN;revert N;apply Pn.out));refine wk (tw @aa.eq_1 (tw @h1 @h2)) ?_;(repeat(refine Pn.mk ?_;intro N hN))))
   exact aP (b:=decide (a.eY<b.eY)) (.inl rfl) (sd @Nat.zero_add) (by simp[kH,h1])
  ·(try((repeat(revert hN;revert N;apply Pn.out));refine wk (tw @aa.eq_1 (tw @h0 @h1)) ?_;(repeat(refine Pn.mk ?_;intro N hN))))
   exact aP (b:=false) (.inl rfl) (sd @Nat.zero_add) (by simp[kH,h0,h1])
end Go.Proofs.YtgoelphibofcmaaGreat.V

namespace Go.Proofs.YtgoelphibofcmaaGreat.V
open Go.RowKit
attribute [local irreducible] dG wpOps gz Call
attribute [local go_sem] aL fU eV gw gr cK upd cw K.av cU AV.cells AV.cell rowOf rowsOf part ld rowAt bJ cr dK ep iC bR dj eF gq fh dz ew dh de ec ee bV bh cX bU cZ cY eu ez ev cW cj di er bS aQ db cG iA bz cN bW aX dn aZ dL AV.undef bG bK ef eo dW ea cJ eE eH cD eB eA da dc List.getD_cons_zero List.getD_cons_succ List.getD_nil List.all_cons List.all_nil Bool.and_true Bool.true_and Bool.and_self Bool.not_true Bool.not_false Option.map_some Option.map_none Option.bind_some Option.bind_none List.length_cons List.length_nil List.take_succ_cons List.take_zero List.take_nil List.drop_succ_cons List.drop_zero List.drop_nil List.head?_cons List.map_cons List.map_nil List.getElem?_cons_zero List.getElem?_cons_succ List.cons_append List.nil_append List.append_nil List.length_map List.set_cons_zero List.set_cons_succ Nat.reduceMul eq_self Int.toNat_natCast Int.natCast_nonneg and_self true_and and_true decide_true decide_false Bool.false_eq_true Nat.zero_add Nat.add_zero List.contains_cons List.contains_nil Bool.or_false Bool.false_or beq_self_eq_true Nat.reduceBEq ne_eq not_true_eq_false not_false_eq_true Id.mk.injEq false_and and_false Nat.reduceLT Int.reduceLE Int.reduceLT Int.reduceToNat Int.reduceNeg Int.reduceAdd Nat.le_refl List.length_append beq_true beq_false Bool.not_eq_eq_eq_not or_false false_or dX ai aq aH bj bE cu aW br aU bp cV bP
theorem fN {l:List ah} {i:Nat} (h:i<l.length):(l.map ad)[i]? =some (ad (aT l i)):=getD_map ad h
def FT (l:List ah) (i:Nat):Prop:=qH (aT l i).aO=true/\iH (aT l i).bd 0 159=true/\(0<i->kH (aT l (i-1)).aO (aT l i).aO=true)
structure iW (l:List ah):Prop where
 w8:l.length<=500
 ok:∀i,i<l.length->FT l i
noncomputable def oy (l:List ah):Bool:=@decide (iW l) (Classical.propDecidable _)
theorem sD {l:List ah}:oy l=true↔iW l:=by simp[oy]
theorem jZ {l:List ah} (h:¬iW l):false=oy l:=by simp[oy,h]
theorem yf {l:List ah} (h:iW l):true=oy l:=by simp[oy,h]
theorem iW.M9 {l:List ah} (h:iW l):xi l:=by
 intro i j Fi hj
 induction j with
 |zero=>omega
 |succ j ih=>
  have h1:=(h.ok (j+1) hj).2.2 (by omega)
  rw[Nat.add_sub_cancel]at h1
  by_cases he:i=j
  ·subst he;exact h1
  ·exact iu (ih (by omega) (by omega)) h1
theorem iW.pt {l:List ah} (h:iW l) {i:Nat} (hi:i<l.length):qH (aT l i).aO=true:=(h.ok i hi).1
theorem nk {p:ar} (h:qH p=true):iB p.eY/\iB p.eU:=by
 unfold qH at h
 simp only[Bool.and_eq_true]at h
 have:=dZ h.1;have:=dZ h.2
 unfold iB;omega
theorem GA (l:List ah):aj Tryz.prog 159 [.cQ [.sl (l.map ad)]] (.bool (oy l)):=by
 refine aj.body ek rfl fun hl n0=>?_
 clear hl
 by_cases h1:(500:Int)<(l.length:Int)
 ·(try((repeat(revert hN;revert N;apply Pn.out));refine wk @h1 ?_;(repeat(refine Pn.mk ?_;intro N hN))))
  exact aP (b:=false) (.inl rfl) (sd @Nat.zero_add) (jZ fun h=>by have:=h.w8;omega)
 (try((repeat(revert hN;revert N;apply Pn.out));refine wk @h1 ?_;(repeat(refine Pn.mk ?_;intro N hN))))
 refine aI (fun n env st=>∃k:Nat,n=(l.length)-k/\k<=(l.length)/\env 3=.int .i64 (k:Int)/\(∀j:Nat,j<k->FT l j)) (l.length) ⟨0,by omega,by omega,sl @Nat.zero_add,fun _ h=>absurd h (Nat.not_lt_zero _)⟩ ?_
 rintro n_a env_a st_a ⟨k,rfl,ale,a3,lU⟩ dp
 have a0:=dp 0 (by kernel_rfl)
 simp only[go_sem, ↓reduceIte,Nat.reduceEqDiff,Nat.reduceAdd,Nat.reduceSub,Nat.reduceLeDiff,reduceCtorEq]at a0
 clear dp
 by_cases hk:(k:Int)<(l.length:Int)
 ·have ck:∀{e:Env},(e 3=.int .i64 (IntKind.i64.wrap ((k:Int)+1)))->(FT l k)->∃m0,m0<(l.length)-k/\∃k:Nat,m0=(l.length)-k/\k<=(l.length)/\e 3=.int .i64 (k:Int)/\(∀j:Nat,j<k->FT l j):=fun x1 x2=>⟨_,by omega,k+1,rfl,by omega,(by rw[x1,aA (by omega)]),(all_succ lU x2)⟩
  have eZ:k<l.length:=by omega
  have eM:=fN eZ
  have ll:(¬FT l k)->¬iW l:=fun h hp=>h (hp.ok k eZ)
  have hp:=qz (aT l k).aO
  have ht:=kr (aT l k).bd 0 159
  cases b1:qH (aT l k).aO
  ·rw[b1]at hp
   (repeat(first|((repeat(revert hN;revert N;apply Pn.out));refine wk (tw @a3 (tw @a0 (tw @hk (tw @eM (tw @ad.eq_1 @aa.eq_1))))) ?_;(repeat(refine Pn.mk ?_;intro N hN)))|((try apply Or.inl);refine⟨_,aj.x (hp) (sd (tw @a3 (tw @a0 (tw @hk (tw @eM (tw @ad.eq_1 @aa.eq_1)))))),?_⟩;refine hN _ _ ?_;clear hN N)))
   exact aP (b:=false) (.inl rfl) (sd @Nat.zero_add) (jZ (ll fun h=>by rw[FT,b1]at h;cases h.1))
  rw[b1]at hp
  cases b2:iH (aT l k).bd 0 159
  ·rw[b2]at ht
   (repeat(first|((repeat(revert hN;revert N;apply Pn.out));refine wk (tw @a3 (tw @a0 (tw @hk (tw @eM (tw @ad.eq_1 @aa.eq_1))))) ?_;(repeat(refine Pn.mk ?_;intro N hN)))|((try apply Or.inl);refine⟨_,aj.x (hp) (sd (tw @a3 (tw @a0 (tw @hk (tw @eM (tw @ad.eq_1 @aa.eq_1)))))),?_⟩;refine hN _ _ ?_;clear hN N)|((try apply Or.inl);refine⟨_,aj.x (ht) (sd (tw @a3 (tw @a0 (tw @hk (tw @eM (tw @ad.eq_1 @aa.eq_1)))))),?_⟩;refine hN _ _ ?_;clear hN N)))
   exact aP (b:=false) (.inl rfl) (sd @Nat.zero_add) (jZ (ll fun h=>by rw[FT,b2]at h;cases h.2.1))
  rw[b2]at ht
  by_cases h0:(0:Int)<(k:Int)
  ·have vK:=fN (l:=l) (i:=k-1) (by omega)
   have hw:IntKind.i64.wrap ((k:Int)-1)=((k-1:Nat):Int):=by rw[aV (by have:=eZ;omega)];omega
   have hq:=nW (aT l (k-1)).aO (aT l k).aO
   cases b3:kH (aT l (k-1)).aO (aT l k).aO
   ·rw[b3]at hq
    (repeat(first|((repeat(revert hN;revert N;apply Pn.out));refine wk (tw @a3 (tw @a0 (tw @hk (tw @eM (tw @vK (tw @h0 (tw @hw (tw @ad.eq_1 @aa.eq_1)))))))) ?_;(repeat(refine Pn.mk ?_;intro N hN)))|((try apply Or.inl);refine⟨_,aj.x (hp) (sd (tw @a3 (tw @a0 (tw @hk (tw @eM (tw @vK (tw @h0 (tw @hw (tw @ad.eq_1 @aa.eq_1))))))))),?_⟩;refine hN _ _ ?_;clear hN N)|((try apply Or.inl);refine⟨_,aj.x (ht) (sd (tw @a3 (tw @a0 (tw @hk (tw @eM (tw @vK (tw @h0 (tw @hw (tw @ad.eq_1 @aa.eq_1))))))))),?_⟩;refine hN _ _ ?_;clear hN N)|((try apply Or.inl);refine⟨_,aj.x (hq) (sd (tw @a3 (tw @a0 (tw @hk (tw @eM (tw @vK (tw @h0 (tw @hw (tw @ad.eq_1 @aa.eq_1))))))))),?_⟩;refine hN _ _ ?_;clear hN N)))
    exact aP (b:=false) (.inl rfl) (sd @Nat.zero_add) (jZ (ll fun h=>by have:=h.2.2 (by omega);rw[b3]at this;cases this))
   ·rw[b3]at hq
    (repeat(first|((repeat(revert hN;revert N;apply Pn.out));refine wk (tw @a3 (tw @a0 (tw @hk (tw @eM (tw @vK (tw @h0 (tw @hw (tw @ad.eq_1 @aa.eq_1)))))))) ?_;(repeat(refine Pn.mk ?_;intro N hN)))|((try apply Or.inl);refine⟨_,aj.x (hp) (sd (tw @a3 (tw @a0 (tw @hk (tw @eM (tw @vK (tw @h0 (tw @hw (tw @ad.eq_1 @aa.eq_1))))))))),?_⟩;refine hN _ _ ?_;clear hN N)|((try apply Or.inl);refine⟨_,aj.x (ht) (sd (tw @a3 (tw @a0 (tw @hk (tw @eM (tw @vK (tw @h0 (tw @hw (tw @ad.eq_1 @aa.eq_1))))))))),?_⟩;refine hN _ _ ?_;clear hN N)|((try apply Or.inl);refine⟨_,aj.x (hq) (sd (tw @a3 (tw @a0 (tw @hk (tw @eM (tw @vK (tw @h0 (tw @hw (tw @ad.eq_1 @aa.eq_1))))))))),?_⟩;refine hN _ _ ?_;clear hN N)))
    exact ck (sd (tw @a3 @a0)) (⟨b1,b2,fun _=>b3⟩)
  ·have xc:k=0:=by omega
   (repeat(first|((repeat(revert hN;revert N;apply Pn.out));refine wk (tw @a3 (tw @a0 (tw @hk (tw @eM (tw @h0 (tw @ad.eq_1 @aa.eq_1)))))) ?_;(repeat(refine Pn.mk ?_;intro N hN)))|((try apply Or.inl);refine⟨_,aj.x (hp) (sd (tw @a3 (tw @a0 (tw @hk (tw @eM (tw @h0 (tw @ad.eq_1 @aa.eq_1))))))),?_⟩;refine hN _ _ ?_;clear hN N)|((try apply Or.inl);refine⟨_,aj.x (ht) (sd (tw @a3 (tw @a0 (tw @hk (tw @eM (tw @h0 (tw @ad.eq_1 @aa.eq_1))))))),?_⟩;refine hN _ _ ?_;clear hN N)))
   exact ck (sd (tw @a3 @a0)) (⟨b1,b2,fun h=>by omega⟩)
 ·(try((repeat(revert hN;revert N;apply Pn.out));refine wk (tw @a3 (tw @a0 @hk)) ?_;(repeat(refine Pn.mk ?_;intro N hN))))
  exact aP (b:=true) (.inl rfl) (sd @Nat.zero_add) (yf ⟨by omega,fun i hi=>lU i (by omega)⟩)
theorem x8 (a b:Int):aj Tryz.prog 178 [.int .i64 a,.int .i64 b] (.int .i64 (rf a b)):=by
 have nan:∀x:Int,aj Tryz.prog 208 [.int .i64 x] (.bool false):=fun x=>by
  refine aj.body ek rfl fun hl n0=>?_
  clear hl
  have e:decide (x=x)=true:=decide_eq_true rfl
  (try((repeat(revert hN;revert N;apply Pn.out));refine wk @e ?_;(repeat(refine Pn.mk ?_;intro N hN))))
  exact aP (b:=false) (.inl rfl) (sd @Nat.zero_add) rfl
 refine aj.body ek rfl fun hl n0=>?_
 clear hl
 have ha:=nan a
 have hb:=nan b
 by_cases h1:a<b
 ·(repeat(first|((repeat(revert hN;revert N;apply Pn.out));refine wk @h1 ?_;(repeat(refine Pn.mk ?_;intro N hN)))|((try apply Or.inl);refine⟨_,aj.x (ha) (sd @h1),?_⟩;refine hN _ _ ?_;clear hN N)|((try apply Or.inl);refine⟨_,aj.x (hb) (sd @h1),?_⟩;refine hN _ _ ?_;clear hN N)))
  exact bL (b:=-1) (.inl rfl) (sd @Nat.zero_add) (by rw[rf,if_pos h1])
 by_cases h2:b<a
 ·(repeat(first|((repeat(revert hN;revert N;apply Pn.out));refine wk (tw @h1 @h2) ?_;(repeat(refine Pn.mk ?_;intro N hN)))|((try apply Or.inl);refine⟨_,aj.x (ha) (sd (tw @h1 @h2)),?_⟩;refine hN _ _ ?_;clear hN N)|((try apply Or.inl);refine⟨_,aj.x (hb) (sd (tw @h1 @h2)),?_⟩;refine hN _ _ ?_;clear hN N)))
  exact bL (b:=1) (.inl rfl) (sd @Nat.zero_add) (by rw[rf,if_neg h1,if_pos h2])
 ·(repeat(first|((repeat(revert hN;revert N;apply Pn.out));refine wk (tw @h1 @h2) ?_;(repeat(refine Pn.mk ?_;intro N hN)))|((try apply Or.inl);refine⟨_,aj.x (ha) (sd (tw @h1 @h2)),?_⟩;refine hN _ _ ?_;clear hN N)|((try apply Or.inl);refine⟨_,aj.x (hb) (sd (tw @h1 @h2)),?_⟩;refine hN _ _ ?_;clear hN N)))
  exact bL (b:=0) (.inl rfl) (sd @Nat.zero_add) (by rw[rf,if_neg h1,if_neg h2])
def HF:List Int->Int
 |[]=>0
 |a::r=>if a=0 then HF r else a
theorem Jw:∀{l:List Int} {k:Nat} (hk:k<l.length),l[k]≠0->(∀j (h:j<l.length),j<k->l[j]=0)->HF l=l[k]
 |a::r,0,_,h,_=>by
  have h':a≠0:=h
  rw[HF,if_neg h'];rfl
 |a::r,k+1,hk,h,h0=>by
  have h':a=0:=h0 0 (by simp) (by omega)
  rw[HF,if_pos h',Jw (k:=k) (by simpa using hk) h fun j hj yk=>h0 (j+1) (by simpa using hj) (by omega)];rfl
theorem Ck:∀{l:List Int},(∀j (h:j<l.length),l[j]=0)->HF l=0
 |[],_=>rfl
 |a::r,h=>by
  have h':a=0:=h 0 (by simp)
  rw[HF,if_pos h',Ck fun j hj=>h (j+1) (by simpa using hj)]
theorem LZ (a b:Int):HF [a,b]=LY a b:=by
 unfold LY
 by_cases h:a=0
 ·rw[HF,if_pos h,if_pos h,HF,HF];split<;>simp_all
 ·rw[HF,if_neg h,if_neg h]
theorem KT (l:List Int):aj Tryz.prog 177 [.sl (l.map bf)] (.int .i64 (HF l)):=by
 refine aj.body ek rfl fun hl n0=>?_
 have hlen:l.length<=9223372036854775807:=by simpa using(hl (.sl (l.map bf)) (by simp)).len
 clear hl
 (try((repeat(revert hN;revert N;apply Pn.out));refine wk @Nat.zero_add ?_;(repeat(refine Pn.mk ?_;intro N hN))))
 refine aI (fun n env st=>∃k:Nat,n=(l.length)-k/\k<=(l.length)/\env 8=.int .i64 (k:Int)/\(∀j:Nat,j<k->∀h:j<l.length,l[j]=0)) (l.length) ⟨0,by omega,by omega,sl @Nat.zero_add,fun _ h=>absurd h (Nat.not_lt_zero _)⟩ ?_
 rintro n_a env_a st_a ⟨k,rfl,ale,a8,lU⟩ dp
 have a3:=dp 3 (by kernel_rfl);have a6:=dp 6 (by kernel_rfl);have a7:=dp 7 (by kernel_rfl)
 simp only[go_sem, ↓reduceIte,Nat.reduceEqDiff,Nat.reduceAdd,Nat.reduceSub,Nat.reduceLeDiff,reduceCtorEq]at a3 a6 a7
 clear dp
 by_cases hk:(k:Int)<(l.length:Int)
 ·have ck:∀{e:Env},(e 8=.int .i64 (IntKind.i64.wrap ((k:Int)+1)))->(∀h:k<l.length,l[k]=0)->∃m0,m0<(l.length)-k/\∃k:Nat,m0=(l.length)-k/\k<=(l.length)/\e 8=.int .i64 (k:Int)/\(∀j:Nat,j<k->∀h:j<l.length,l[j]=0):=fun x1 x2=>⟨_,by omega,k+1,rfl,by omega,(by rw[x1,aA (by omega)]),(all_succ lU x2)⟩
  have eZ:k<l.length:=by omega
  have eM:(l.map bf)[k]? =some (bf l[k]):=by simp[eZ]
  generalize hv:l[k]=v at eM
  by_cases h0:v=0
  ·have e:decide (v=0)=true:=decide_eq_true h0
   (try((repeat(revert hN;revert N;apply Pn.out));refine wk (tw @a8 (tw @a3 (tw @a6 (tw @a7 (tw @e (tw @hk (tw @eM @bf.eq_1))))))) ?_;(repeat(refine Pn.mk ?_;intro N hN))))
   exact ck (sd (tw @a8 (tw @a3 (tw @a6 @a7)))) (fun _=>hv.trans h0)
  ·have e:decide (v=0)=false:=decide_eq_false h0
   (try((repeat(revert hN;revert N;apply Pn.out));refine wk (tw @a8 (tw @a3 (tw @a6 (tw @a7 (tw @e (tw @hk (tw @eM @bf.eq_1))))))) ?_;(repeat(refine Pn.mk ?_;intro N hN))))
   exact bL (b:=v) (.inl rfl) (sd @Nat.zero_add) (by rw[Jw eZ (by rw[hv];exact h0) fun j h hj=>lU j hj h,hv])
 ·(try((repeat(revert hN;revert N;apply Pn.out));refine wk (tw @a8 (tw @a3 (tw @a6 (tw @a7 @hk)))) ?_;(repeat(refine Pn.mk ?_;intro N hN))))
  exact bL (b:=0) (.inl rfl) (sd @Nat.zero_add) (by rw[Ck fun j h=>lU j (by omega) h])
section
attribute [local go_sem] List.drop_zero List.take_succ_cons List.take_zero List.length_cons List.length_nil gZ zp lE
theorem nC (a b:ar):aj Tryz.prog 130 [.agg (aa a),.agg (aa b)] (.int .i64 (pG a b)):=by
 refine aj.body ek rfl fun hl n0=>?_
 clear hl
 have h1:=x8 a.eU b.eU
 have h2:=x8 a.eY b.eY
 have h3:=KT [rf a.eU b.eU,rf a.eY b.eY]
 rw[LZ,List.map_cons,List.map_cons,List.map_nil,bf,bf]at h3
 (repeat(first|((repeat(revert hN;revert N;apply Pn.out));refine wk @aa.eq_1 ?_;(repeat(refine Pn.mk ?_;intro N hN)))|((try apply Or.inl);refine⟨_,aj.x (h1) (sd @aa.eq_1),?_⟩;refine hN _ _ ?_;clear hN N)|((try apply Or.inl);refine⟨_,aj.x (h2) (sd @aa.eq_1),?_⟩;refine hN _ _ ?_;clear hN N)|((try apply Or.inl);refine⟨_,aj.x (h3) (sd @aa.eq_1),?_⟩;refine hN _ _ ?_;clear hN N)))
 exact bL (b:=pG a b) (.inl rfl) (by simp only[go_sem, ↓reduceIte,Nat.reduceEqDiff,Nat.reduceAdd,Nat.reduceSub,Nat.reduceLeDiff,reduceCtorEq,pG]) rfl
end
theorem Lz (a b:ar):aj Tryz.prog 201 [.agg (aa a),.agg (aa b)] (.bool (kH a b)):=by
 refine aj.body ek rfl fun hl n0=>?_
 clear hl
 have h1:=nC a b
 rw[aa,aa]at h1
 (repeat(first|((repeat(revert hN;revert N;apply Pn.out));refine wk @aa.eq_1 ?_;(repeat(refine Pn.mk ?_;intro N hN)))|((try apply Or.inl);refine⟨_,aj.x (h1) (sd @aa.eq_1),?_⟩;refine hN _ _ ?_;clear hN N)))
 exact aP (b:=decide (pG a b<0)) (.inl rfl) (sd @Nat.zero_add) (mO a b)
theorem kc (t:ah) (p:ar):aj Tryz.prog 143 [.agg (ad t),.agg (aa p)] (.int .i64 (pG t.aO p)):=by
 refine aj.body ek rfl fun hl n0=>?_
 clear hl
 have h1:=nC t.aO p
 rw[aa,aa]at h1
 (repeat(first|((repeat(revert hN;revert N;apply Pn.out));refine wk (tw @ad.eq_1 @aa.eq_1) ?_;(repeat(refine Pn.mk ?_;intro N hN)))|((try apply Or.inl);refine⟨_,aj.x (h1) (sd (tw @ad.eq_1 @aa.eq_1)),?_⟩;refine hN _ _ ?_;clear hN N)))
 exact bL (b:=pG t.aO p) (.inl rfl) (sd @Nat.zero_add) rfl
theorem sF (l:List ah):aj Tryz.prog 165 [.agg [.sl (l.map ad)]] (.bool (oy l)):=by
 refine aj.body ek rfl fun hl n0=>?_
 have hlen:l.length<=9223372036854775807:=by
  have h1:=(hl (.agg [.sl (l.map ad)]) (by simp)).Ns (a:=.sl (l.map ad)) (by simp)
  simpa using h1.len
 clear hl
 (try((repeat(revert hN;revert N;apply Pn.out));refine wk @Nat.zero_add ?_;(repeat(refine Pn.mk ?_;intro N hN))))
 refine aI (fun n env st=>∃k:Nat,n=(l.length)-k/\k<=(l.length)/\env 8=.int .i64 (k:Int)/\st.get ⟨165000000,n0⟩=some ⟨true,1,[[.sl (l.map ad)]]⟩/\(∀j:Nat,j<k->FT l j)) (l.length) ⟨0,by omega,by omega,sl @Nat.zero_add,sl @Nat.zero_add,fun _ h=>absurd h (Nat.not_lt_zero _)⟩ ?_
 rintro n_a env_a st_a ⟨k,rfl,ale,a8,ag0,lU⟩ dp
 have a1:=dp 1 (by kernel_rfl);have a6:=dp 6 (by kernel_rfl);have a7:=dp 7 (by kernel_rfl)
 simp only[go_sem, ↓reduceIte,Nat.reduceEqDiff,Nat.reduceAdd,Nat.reduceSub,Nat.reduceLeDiff,reduceCtorEq]at a1 a6 a7
 clear dp
 by_cases hk:(k:Int)<(l.length:Int)
 ·have ck:∀{e:Env} {gg:Rows},(e 8=.int .i64 (IntKind.i64.wrap ((k:Int)+1)))->(gg ⟨165000000,n0⟩=some ⟨true,1,[[.sl (l.map ad)]]⟩)->(FT l k)->∃m0,m0<(l.length)-k/\∃k:Nat,m0=(l.length)-k/\k<=(l.length)/\e 8=.int .i64 (k:Int)/\gg ⟨165000000,n0⟩=some ⟨true,1,[[.sl (l.map ad)]]⟩/\(∀j:Nat,j<k->FT l j):=fun x1 x2 x3=>⟨_,by omega,k+1,rfl,by omega,(by rw[x1,aA (by omega)]),x2,(all_succ lU x3)⟩
  have eZ:k<l.length:=by omega
  have eM:=fN eZ
  have ll:(¬FT l k)->¬iW l:=fun h hp=>h (hp.ok k eZ)
  have hp:=jj (aT l k).aO
  have ht:=yy (aT l k).bd 160 (by omega) (by omega)
  rw[show(160:Int)-1=159 from rfl]at ht
  cases b1:qH (aT l k).aO
  ·rw[b1]at hp
   (repeat(first|((repeat(revert hN;revert N;apply Pn.out));refine wk (tw @a8 (tw @ag0 (tw @a1 (tw @a6 (tw @a7 (tw @hk (tw @eM (tw @ad.eq_1 @aa.eq_1)))))))) ?_;(repeat(refine Pn.mk ?_;intro N hN)))|((try apply Or.inl);refine⟨_,aj.x (hp) (sd (tw @a8 (tw @ag0 (tw @a1 (tw @a6 (tw @a7 (tw @hk (tw @eM (tw @ad.eq_1 @aa.eq_1))))))))),?_⟩;refine hN _ _ ?_;clear hN N)))
   exact aP (b:=false) (.inl rfl) (sd @Nat.zero_add) (jZ (ll fun h=>by rw[FT,b1]at h;cases h.1))
  rw[b1]at hp
  cases b2:iH (aT l k).bd 0 159
  ·rw[b2]at ht
   (repeat(first|((repeat(revert hN;revert N;apply Pn.out));refine wk (tw @a8 (tw @ag0 (tw @a1 (tw @a6 (tw @a7 (tw @hk (tw @eM (tw @ad.eq_1 @aa.eq_1)))))))) ?_;(repeat(refine Pn.mk ?_;intro N hN)))|((try apply Or.inl);refine⟨_,aj.x (hp) (sd (tw @a8 (tw @ag0 (tw @a1 (tw @a6 (tw @a7 (tw @hk (tw @eM (tw @ad.eq_1 @aa.eq_1))))))))),?_⟩;refine hN _ _ ?_;clear hN N)|((try apply Or.inl);refine⟨_,aj.x (ht) (sd (tw @a8 (tw @ag0 (tw @a1 (tw @a6 (tw @a7 (tw @hk (tw @eM (tw @ad.eq_1 @aa.eq_1))))))))),?_⟩;refine hN _ _ ?_;clear hN N)))
   exact aP (b:=false) (.inl rfl) (sd @Nat.zero_add) (jZ (ll fun h=>by rw[FT,b2]at h;cases h.2.1))
  rw[b2]at ht
  by_cases h0:(0:Int)<(k:Int)
  ·have vK:=fN (l:=l) (i:=k-1) (by omega)
   have hw:IntKind.i64.wrap ((k:Int)-1)=((k-1:Nat):Int):=by rw[aV (by omega)];omega
   have hq:=Lz (aT l (k-1)).aO (aT l k).aO
   cases b3:kH (aT l (k-1)).aO (aT l k).aO
   ·rw[b3]at hq
    (repeat(first|((repeat(revert hN;revert N;apply Pn.out));refine wk (tw @a8 (tw @ag0 (tw @a1 (tw @a6 (tw @a7 (tw @hk (tw @eM (tw @vK (tw @h0 (tw @hw (tw @ad.eq_1 @aa.eq_1))))))))))) ?_;(repeat(refine Pn.mk ?_;intro N hN)))|((try apply Or.inl);refine⟨_,aj.x (hp) (sd (tw @a8 (tw @ag0 (tw @a1 (tw @a6 (tw @a7 (tw @hk (tw @eM (tw @vK (tw @h0 (tw @hw (tw @ad.eq_1 @aa.eq_1)))))))))))),?_⟩;refine hN _ _ ?_;clear hN N)|((try apply Or.inl);refine⟨_,aj.x (ht) (sd (tw @a8 (tw @ag0 (tw @a1 (tw @a6 (tw @a7 (tw @hk (tw @eM (tw @vK (tw @h0 (tw @hw (tw @ad.eq_1 @aa.eq_1)))))))))))),?_⟩;refine hN _ _ ?_;clear hN N)|((try apply Or.inl);refine⟨_,aj.x (hq) (sd (tw @a8 (tw @ag0 (tw @a1 (tw @a6 (tw @a7 (tw @hk (tw @eM (tw @vK (tw @h0 (tw @hw (tw @ad.eq_1 @aa.eq_1)))))))))))),?_⟩;refine hN _ _ ?_;clear hN N)))
    exact aP (b:=false) (.inl rfl) (sd @Nat.zero_add) (jZ (ll fun h=>by have:=h.2.2 (by omega);rw[b3]at this;cases this))
   ·rw[b3]at hq
    (repeat(first|((repeat(revert hN;revert N;apply Pn.out));refine wk (tw @a8 (tw @ag0 (tw @a1 (tw @a6 (tw @a7 (tw @hk (tw @eM (tw @vK (tw @h0 (tw @hw (tw @ad.eq_1 @aa.eq_1))))))))))) ?_;(repeat(refine Pn.mk ?_;intro N hN)))|((try apply Or.inl);refine⟨_,aj.x (hp) (sd (tw @a8 (tw @ag0 (tw @a1 (tw @a6 (tw @a7 (tw @hk (tw @eM (tw @vK (tw @h0 (tw @hw (tw @ad.eq_1 @aa.eq_1)))))))))))),?_⟩;refine hN _ _ ?_;clear hN N)|((try apply Or.inl);refine⟨_,aj.x (ht) (sd (tw @a8 (tw @ag0 (tw @a1 (tw @a6 (tw @a7 (tw @hk (tw @eM (tw @vK (tw @h0 (tw @hw (tw @ad.eq_1 @aa.eq_1)))))))))))),?_⟩;refine hN _ _ ?_;clear hN N)|((try apply Or.inl);refine⟨_,aj.x (hq) (sd (tw @a8 (tw @ag0 (tw @a1 (tw @a6 (tw @a7 (tw @hk (tw @eM (tw @vK (tw @h0 (tw @hw (tw @ad.eq_1 @aa.eq_1)))))))))))),?_⟩;refine hN _ _ ?_;clear hN N)))
    refine ck ?_ ?_ (⟨b1,b2,fun _=>b3⟩)
    all_goals simp only[go_sem, ↓reduceIte,Nat.reduceEqDiff,Nat.reduceAdd,Nat.reduceSub,Nat.reduceLeDiff,reduceCtorEq,a8,ag0,a1,a6,a7]
  ·have xc:k=0:=by omega
   (repeat(first|((repeat(revert hN;revert N;apply Pn.out));refine wk (tw @a8 (tw @ag0 (tw @a1 (tw @a6 (tw @a7 (tw @hk (tw @eM (tw @h0 (tw @ad.eq_1 @aa.eq_1))))))))) ?_;(repeat(refine Pn.mk ?_;intro N hN)))|((try apply Or.inl);refine⟨_,aj.x (hp) (sd (tw @a8 (tw @ag0 (tw @a1 (tw @a6 (tw @a7 (tw @hk (tw @eM (tw @h0 (tw @ad.eq_1 @aa.eq_1)))))))))),?_⟩;refine hN _ _ ?_;clear hN N)|((try apply Or.inl);refine⟨_,aj.x (ht) (sd (tw @a8 (tw @ag0 (tw @a1 (tw @a6 (tw @a7 (tw @hk (tw @eM (tw @h0 (tw @ad.eq_1 @aa.eq_1)))))))))),?_⟩;refine hN _ _ ?_;clear hN N)))
   refine ck ?_ ?_ (⟨b1,b2,fun h=>by omega⟩)
   all_goals simp only[go_sem, ↓reduceIte,Nat.reduceEqDiff,Nat.reduceAdd,Nat.reduceSub,Nat.reduceLeDiff,reduceCtorEq,a8,ag0,a1,a6,a7]
 ·(try((repeat(revert hN;revert N;apply Pn.out));refine wk (tw @a8 (tw @ag0 (tw @a1 (tw @a6 (tw @a7 @hk))))) ?_;(repeat(refine Pn.mk ?_;intro N hN))))
  refine aP (b:=decide ((l.length:Int)<=500)) (.inl rfl) (sd @Nat.zero_add) ?_
  by_cases h5:(l.length:Int)<=500
  ·rw[decide_eq_true h5];exact yf ⟨by omega,fun i hi=>lU i (by omega)⟩
  ·rw[decide_eq_false h5];exact jZ fun h=>by have:=h.w8;omega
end Go.Proofs.YtgoelphibofcmaaGreat.V

namespace Go.Proofs.YtgoelphibofcmaaGreat.V
open Go.RowKit
attribute [local irreducible] dG wpOps gz Call
attribute [local go_sem] aL fU eV gw gr cK upd cw K.av cU AV.cells AV.cell rowOf rowsOf part ld rowAt bJ cr dK ep iC bR dj eF gq fh dz ew dh de ec ee bV bh cX bU cZ cY eu ez ev cW cj di er bS aQ db cG iA bz cN bW aX dn aZ dL AV.undef bG bK ef eo dW ea cJ eE eH cD eB eA da dc List.getD_cons_zero List.getD_cons_succ List.getD_nil List.all_cons List.all_nil Bool.and_true Bool.true_and Bool.and_self Bool.not_true Bool.not_false Option.map_some Option.map_none Option.bind_some Option.bind_none List.length_cons List.length_nil List.take_succ_cons List.take_zero List.take_nil List.drop_succ_cons List.drop_zero List.drop_nil List.head?_cons List.map_cons List.map_nil List.getElem?_cons_zero List.getElem?_cons_succ List.cons_append List.nil_append List.append_nil List.length_map List.set_cons_zero List.set_cons_succ Nat.reduceMul eq_self Int.toNat_natCast Int.natCast_nonneg and_self true_and and_true decide_true decide_false Bool.false_eq_true Nat.zero_add Nat.add_zero List.contains_cons List.contains_nil Bool.or_false Bool.false_or beq_self_eq_true Nat.reduceBEq ne_eq not_true_eq_false not_false_eq_true Id.mk.injEq false_and and_false Nat.reduceLT Int.reduceLE Int.reduceLT Int.reduceToNat Int.reduceNeg Int.reduceAdd Nat.le_refl List.length_append beq_true beq_false Bool.not_eq_eq_eq_not or_false false_or dX ai aq aH bj bE cu aW br aU bp cV bP
theorem xY (cells:List ah) (p:ar) (hR:xi cells) (Gf:cells.length<=1048576):
  aj Tryz.prog 142 [.sl (cells.map ad),.agg (aa p),.fn 143 []] (.gP [.int .i64 (mi cells p),.bool (decide (mi cells p<cells.length)&&decide ((aT cells (mi cells p)).aO=p))]):=by
 refine aj.body ek rfl fun hl n0=>?_
 clear hl
 (try((repeat(revert hN;revert N;apply Pn.out));refine wk @aa.eq_1 ?_;(repeat(refine Pn.mk ?_;intro N hN))))
 refine aI (fun n env st=>∃i j:Nat,n=j-i/\i<=j/\j<=cells.length/\(∀x,x<i->kH (aT cells x).aO p=true)/\(∀x,j<=x->x<cells.length->kH (aT cells x).aO p=false)/\env 9=.int .i64 i/\env 10=.int .i64 j/\st.get ⟨142000000,n0⟩=some ⟨true,2,[aa p]⟩) cells.length ⟨0,cells.length,by omega,by omega,by omega,fun x h=>by omega,fun x h1 h2=>by omega,by(simp only[go_sem, ↓reduceIte,Nat.reduceEqDiff,Nat.reduceAdd,Nat.reduceSub,Nat.reduceLeDiff,reduceCtorEq])<;>rfl,sd @Nat.zero_add,sd @aa.eq_1⟩ ?_
 rintro n env st ⟨i,j,rfl,Fi,hj,jM,CR,h9,h10,hg⟩ fr
 have h0:=fr 0 (by kernel_rfl)
 have h2:=fr 2 (by kernel_rfl)
 have h4:=fr 4 (by kernel_rfl)
 have h8:=fr 8 (by kernel_rfl)
 simp only[go_sem, ↓reduceIte,Nat.reduceEqDiff,Nat.reduceAdd,Nat.reduceSub,Nat.reduceLeDiff,reduceCtorEq]at h0 h2 h4 h8
 clear fr
 by_cases dM:(i:Int)<(j:Int)
 ·have e1:IntKind.i64.wrap ((i:Int)+j)=((i+j:Nat):Int):=by rw[aV (by omega)];rfl
  have hm:(i+j) / 2<cells.length:=by omega
  have fb:(cells.map ad)[(i+j) / 2]? =some (ad (aT cells ((i+j) / 2))):=fN (l:=cells) hm
  have e2:IntKind.i64.wrap ((IntKind.u64.wrap ((i+j:Nat):Int)).fdiv (2 ^ min 1 IntKind.u64.bits))=(((i+j) / 2:Nat):Int):=by
   have h:IntKind.u64.wrap ((i+j:Nat):Int)=((i+j:Nat):Int):=by rw[IntKind.wrap_u64];omega
   rw[h,show min 1 IntKind.u64.bits=1 from rfl,show((2:Int) ^ 1)=2 from rfl,Int.fdiv_eq_ediv_of_nonneg _ (by omega)]
   rw[aV (by omega)];omega
  have Qm:IntKind.i64.wrap ((IntKind.u64.wrap ((i+j:Nat):Int)).fdiv (2 ^ min 1 64))=(((i+j) / 2:Nat):Int):=e2
  have e3:=aA (k:=(i+j) / 2) (by omega)
  by_cases hc:pG (aT cells ((i+j) / 2)).aO p<0
  ·have hl:kH (aT cells ((i+j) / 2)).aO p=true:=by rw[<-mO];simpa using hc
   (repeat(first|((repeat(revert hN;revert N;apply Pn.out));refine wk (tw @h0 (tw @h2 (tw @h4 (tw @h8 (tw @h9 (tw @h10 (tw @hg (tw @dM (tw @e1 (tw @e2 (tw @Qm (tw @fb (tw @hc (tw @ad.eq_1 @aa.eq_1)))))))))))))) ?_;(repeat(refine Pn.mk ?_;intro N hN)))|((try apply Or.inl);refine⟨_,aj.x (kc (aT cells ((i+j) / 2)) p) (sd (tw @h0 (tw @h2 (tw @h4 (tw @h8 (tw @h9 (tw @h10 (tw @hg (tw @dM (tw @e1 (tw @e2 (tw @Qm (tw @fb (tw @hc (tw @ad.eq_1 @aa.eq_1))))))))))))))),?_⟩;refine hN _ _ ?_;clear hN N)))
   refine⟨_,?_,(i+j) / 2+1,j,rfl,by omega,hj,fun x hx=>?_,CR,sd @e3,sd @h10,sd (tw @hg @aa.eq_1)⟩
   ·omega
   ·by_cases OD:x=(i+j) / 2
    ·subst OD;exact hl
    ·exact iu (hR x _ (by omega) hm) hl
  ·have hl:kH (aT cells ((i+j) / 2)).aO p=false:=by rw[<-mO];simpa using hc
   (repeat(first|((repeat(revert hN;revert N;apply Pn.out));refine wk (tw @h0 (tw @h2 (tw @h4 (tw @h8 (tw @h9 (tw @h10 (tw @hg (tw @dM (tw @e1 (tw @e2 (tw @Qm (tw @fb (tw @hc (tw @ad.eq_1 @aa.eq_1)))))))))))))) ?_;(repeat(refine Pn.mk ?_;intro N hN)))|((try apply Or.inl);refine⟨_,aj.x (kc (aT cells ((i+j) / 2)) p) (sd (tw @h0 (tw @h2 (tw @h4 (tw @h8 (tw @h9 (tw @h10 (tw @hg (tw @dM (tw @e1 (tw @e2 (tw @Qm (tw @fb (tw @hc (tw @ad.eq_1 @aa.eq_1))))))))))))))),?_⟩;refine hN _ _ ?_;clear hN N)))
   refine⟨_,?_,i,(i+j) / 2,rfl,by omega,by omega,jM,fun x h1 h2=>?_,sd @h9,sd (tw @e2 @Qm),sd (tw @hg @aa.eq_1)⟩
   ·omega
   ·by_cases OD:x=(i+j) / 2
    ·subst OD;exact hl
    ·rw[Bool.eq_false_iff]
     intro hc
     have h3:=iu (hR ((i+j) / 2) x (by omega) h2) hc
     rw[hl]at h3;cases h3
 ·have Ob:i=j:=by omega
  subst Ob
  have DF:mi cells p=i:=zN hj jM fun h=>CR i (Nat.le_refl _) h
  by_cases hn:(i:Int)<(cells.length:Int)
  ·have fP:i<cells.length:=by omega
   have fb:(cells.map ad)[i]? =some (ad (aT cells i)):=fN (l:=cells) fP
   have hd:decide (pG (aT cells i).aO p=0)=decide ((aT cells i).aO=p):=by simp only[F0]
   (repeat(first|((repeat(revert hN;revert N;apply Pn.out));refine wk (tw @h0 (tw @h2 (tw @h4 (tw @h8 (tw @h9 (tw @h10 (tw @hg (tw @dM (tw @hn (tw @fb (tw @ad.eq_1 @aa.eq_1))))))))))) ?_;(repeat(refine Pn.mk ?_;intro N hN)))|((try apply Or.inl);refine⟨_,aj.x (kc (aT cells i) p) (sd (tw @h0 (tw @h2 (tw @h4 (tw @h8 (tw @h9 (tw @h10 (tw @hg (tw @dM (tw @hn (tw @fb (tw @ad.eq_1 @aa.eq_1)))))))))))),?_⟩;refine hN _ _ ?_;clear hN N)))
   refine jy (.inl rfl) (r1:=.int .i64 i) (r2:=.bool (decide ((aT cells i).aO=p))) ?_ ?_ ?_
   ·simp only[go_sem, ↓reduceIte,Nat.reduceEqDiff,Nat.reduceAdd,Nat.reduceSub,Nat.reduceLeDiff,reduceCtorEq]
   ·simp only[go_sem, ↓reduceIte,Nat.reduceEqDiff,Nat.reduceAdd,Nat.reduceSub,Nat.reduceLeDiff,reduceCtorEq,hd]
   ·simp only[fj,bB,cz,eO,fK,Option.map_some,DF,fP,decide_true,Bool.true_and]
  ·have fP:¬i<cells.length:=by omega
   (try((repeat(revert hN;revert N;apply Pn.out));refine wk (tw @h0 (tw @h2 (tw @h4 (tw @h8 (tw @h9 (tw @h10 (tw @hg (tw @dM (tw @hn (tw @ad.eq_1 @aa.eq_1)))))))))) ?_;(repeat(refine Pn.mk ?_;intro N hN))))
   refine jy (.inl rfl) (r1:=.int .i64 i) (r2:=.bool false) ?_ ?_ ?_
   ·simp only[go_sem, ↓reduceIte,Nat.reduceEqDiff,Nat.reduceAdd,Nat.reduceSub,Nat.reduceLeDiff,reduceCtorEq]
   ·simp only[go_sem, ↓reduceIte,Nat.reduceEqDiff,Nat.reduceAdd,Nat.reduceSub,Nat.reduceLeDiff,reduceCtorEq]
   ·simp only[fj,bB,cz,eO,fK,Option.map_some,DF,fP,decide_false,Bool.false_and]
theorem GU (l:List ah) (p:ar) (hR:xi l) (Gf:l.length<=1048576):aj Tryz.prog 265 [.agg [.sl (l.map ad)],.agg (aa p)] (.int .i64 (eL l p)):=by
 refine aj.body ek rfl fun hl n0=>?_
 clear hl
 rw[zQ hR]
 have hb:=xY l p hR Gf
 rw[aa]at hb
 cases hf:(decide (mi l p<l.length)&&decide ((aT l (mi l p)).aO=p))
 ·rw[hf]at hb
  (repeat(first|((repeat(revert hN;revert N;apply Pn.out));refine wk @aa.eq_1 ?_;(repeat(refine Pn.mk ?_;intro N hN)))|((try apply Or.inl);refine⟨_,aj.x (hb) (sd @aa.eq_1),?_⟩;refine hN _ _ ?_;clear hN N)))
  exact bL (b:=-1) (.inl rfl) (sd @Nat.zero_add) (by rw[if_neg];intro h;simp[h.1,h.2]at hf)
 ·rw[hf]at hb
  (repeat(first|((repeat(revert hN;revert N;apply Pn.out));refine wk @aa.eq_1 ?_;(repeat(refine Pn.mk ?_;intro N hN)))|((try apply Or.inl);refine⟨_,aj.x (hb) (sd @aa.eq_1),?_⟩;refine hN _ _ ?_;clear hN N)))
  exact bL (b:=(mi l p:Int)) (.inl rfl) (sd @Nat.zero_add) (by rw[if_pos];simpa using hf)
theorem Tb (l:List ah) (p:ar) (hR:xi l) (Gf:l.length<=1048576):aj Tryz.prog 117 [.agg [.sl (l.map ad)],.agg (aa p)] (.int .i64 (gW l p)):=by
 refine aj.body ek rfl fun hl n0=>?_
 clear hl
 have hi:=zQ (l:=l) (p:=p) hR
 have hb:=xY l p hR Gf
 rw[aa]at hb
 cases hf:(decide (mi l p<l.length)&&decide ((aT l (mi l p)).aO=p))
 ·rw[hf]at hb
  (repeat(first|((repeat(revert hN;revert N;apply Pn.out));refine wk @aa.eq_1 ?_;(repeat(refine Pn.mk ?_;intro N hN)))|((try apply Or.inl);refine⟨_,aj.x (hb) (sd @aa.eq_1),?_⟩;refine hN _ _ ?_;clear hN N)))
  exact bL (b:=-1) (.inl rfl) (sd @Nat.zero_add) (by
   have hx:eL l p= -1:=by rw[hi,if_neg (by intro h;simp[h.1,h.2]at hf)]
   rw[gW,hx];rfl)
 ·rw[hf]at hb
  have hc:mi l p<l.length/\(aT l (mi l p)).aO=p:=by simpa using hf
  have hg:=fN hc.1
  (repeat(first|((repeat(revert hN;revert N;apply Pn.out));refine wk (tw @aa.eq_1 (tw @hg @ad.eq_1)) ?_;(repeat(refine Pn.mk ?_;intro N hN)))|((try apply Or.inl);refine⟨_,aj.x (hb) (sd (tw @aa.eq_1 (tw @hg @ad.eq_1))),?_⟩;refine hN _ _ ?_;clear hN N)))
  exact bL (b:=(aT l (mi l p)).bd) (.inl rfl) (sd @Nat.zero_add) (by
   have hx:eL l p=(mi l p:Int):=by rw[hi,if_pos hc]
   rw[gW,hx,if_pos (by omega),Int.toNat_natCast])
theorem mZ (l:List ah) (p:ar) (hR:xi l) (Gf:l.length<=1048576):aj Tryz.prog 124 [.cQ [.sl (l.map ad)],.agg (aa p)] (.int .i64 (eL l p)):=by
 refine aj.body ek rfl fun hl n0=>?_
 clear hl
 rw[zQ hR]
 (try((repeat(revert hN;revert N;apply Pn.out));refine wk @aa.eq_1 ?_;(repeat(refine Pn.mk ?_;intro N hN))))
 refine aI (fun n env st=>∃i j:Nat,n=j-i/\i<=j/\j<=l.length/\(∀x,x<i->kH (aT l x).aO p=true)/\(∀x,j<=x->x<l.length->kH (aT l x).aO p=false)/\env 5=.int .i64 i/\env 6=.int .i64 j/\st.get ⟨124000000,n0⟩=some ⟨true,2,[aa p]⟩) l.length ⟨0,l.length,by omega,by omega,by omega,fun x h=>by omega,fun x h1 h2=>by omega,by(simp only[go_sem, ↓reduceIte,Nat.reduceEqDiff,Nat.reduceAdd,Nat.reduceSub,Nat.reduceLeDiff,reduceCtorEq])<;>rfl,sd @Nat.zero_add,sd @aa.eq_1⟩ ?_
 rintro n env st ⟨i,j,rfl,Fi,hj,jM,CR,h5,h6,hg⟩ fr
 have h0:=fr 0 (by kernel_rfl)
 have h3:=fr 3 (by kernel_rfl)
 simp only[go_sem, ↓reduceIte,Nat.reduceEqDiff,Nat.reduceAdd,Nat.reduceSub,Nat.reduceLeDiff,reduceCtorEq]at h0 h3
 clear fr
 by_cases dM:(i:Int)<(j:Int)
 ·have e1:IntKind.i64.wrap ((i:Int)+j)=((i+j:Nat):Int):=by rw[aV (by omega)];rfl
  have hm:(i+j) / 2<l.length:=by omega
  have fb:=fN hm
  have e2:IntKind.i64.wrap (((i+j:Nat):Int).tdiv 2)=(((i+j) / 2:Nat):Int):=by
   rw[Int.tdiv_eq_ediv_of_nonneg (by omega),aV (by omega)];omega
  have e3:=aA (k:=(i+j) / 2) (by omega)
  have hq:=nW (aT l ((i+j) / 2)).aO p
  cases hl:kH (aT l ((i+j) / 2)).aO p
  ·rw[hl]at hq
   (repeat(first|((repeat(revert hN;revert N;apply Pn.out));refine wk (tw @h0 (tw @h3 (tw @h5 (tw @h6 (tw @hg (tw @dM (tw @e1 (tw @e2 (tw @fb (tw @ad.eq_1 @aa.eq_1)))))))))) ?_;(repeat(refine Pn.mk ?_;intro N hN)))|((try apply Or.inl);refine⟨_,aj.x (hq) (sd (tw @h0 (tw @h3 (tw @h5 (tw @h6 (tw @hg (tw @dM (tw @e1 (tw @e2 (tw @fb (tw @ad.eq_1 @aa.eq_1))))))))))),?_⟩;refine hN _ _ ?_;clear hN N)))
   refine⟨_,?_,i,(i+j) / 2,rfl,by omega,by omega,jM,fun x h1 h2=>?_,sd @h5,sd @e2,sd (tw @hg @aa.eq_1)⟩
   ·omega
   ·by_cases OD:x=(i+j) / 2
    ·subst OD;exact hl
    ·rw[Bool.eq_false_iff]
     intro hc
     have h3:=iu (hR ((i+j) / 2) x (by omega) h2) hc
     rw[hl]at h3;cases h3
  ·rw[hl]at hq
   (repeat(first|((repeat(revert hN;revert N;apply Pn.out));refine wk (tw @h0 (tw @h3 (tw @h5 (tw @h6 (tw @hg (tw @dM (tw @e1 (tw @e2 (tw @fb (tw @ad.eq_1 @aa.eq_1)))))))))) ?_;(repeat(refine Pn.mk ?_;intro N hN)))|((try apply Or.inl);refine⟨_,aj.x (hq) (sd (tw @h0 (tw @h3 (tw @h5 (tw @h6 (tw @hg (tw @dM (tw @e1 (tw @e2 (tw @fb (tw @ad.eq_1 @aa.eq_1))))))))))),?_⟩;refine hN _ _ ?_;clear hN N)))
   refine⟨_,?_,(i+j) / 2+1,j,rfl,by omega,hj,fun x hx=>?_,CR,sd @e3,sd @h6,sd (tw @hg @aa.eq_1)⟩
   ·omega
   ·by_cases OD:x=(i+j) / 2
    ·subst OD;exact hl
    ·exact iu (hR x _ (by omega) hm) hl
 ·have Ob:i=j:=by omega
  subst Ob
  have DF:mi l p=i:=zN hj jM fun h=>CR i (Nat.le_refl _) h
  by_cases hn:(i:Int)<(l.length:Int)
  ·have fP:i<l.length:=by omega
   have fb:=fN fP
   by_cases hp:(aT l i).aO=p
   ·have hx:decide ((aT l i).aO.eY=p.eY)=true:=decide_eq_true (by rw[hp])
    have hy:decide ((aT l i).aO.eU=p.eU)=true:=decide_eq_true (by rw[hp])
    (try((repeat(revert hN;revert N;apply Pn.out));refine wk (tw @h0 (tw @h3 (tw @h5 (tw @h6 (tw @hg (tw @dM (tw @hn (tw @fb (tw @hx (tw @hy (tw @ad.eq_1 @aa.eq_1))))))))))) ?_;(repeat(refine Pn.mk ?_;intro N hN))))
    exact bL (b:=(i:Int)) (.inl rfl) (sd @Nat.zero_add) (by rw[DF,if_pos ⟨fP,hp⟩])
   ·by_cases hx:(aT l i).aO.eY=p.eY
    ·have tC:decide ((aT l i).aO.eY=p.eY)=true:=decide_eq_true hx
     have SN:decide ((aT l i).aO.eU=p.eU)=false:=decide_eq_false fun h=>hp (Ab hx h)
     (try((repeat(revert hN;revert N;apply Pn.out));refine wk (tw @h0 (tw @h3 (tw @h5 (tw @h6 (tw @hg (tw @dM (tw @hn (tw @fb (tw @tC (tw @SN (tw @ad.eq_1 @aa.eq_1))))))))))) ?_;(repeat(refine Pn.mk ?_;intro N hN))))
     exact bL (b:=-1) (.inl rfl) (sd @Nat.zero_add) (by rw[DF,if_neg fun h=>hp h.2])
    ·have tC:decide ((aT l i).aO.eY=p.eY)=false:=decide_eq_false hx
     (try((repeat(revert hN;revert N;apply Pn.out));refine wk (tw @h0 (tw @h3 (tw @h5 (tw @h6 (tw @hg (tw @dM (tw @hn (tw @fb (tw @tC (tw @Bool.false_and (tw @ad.eq_1 @aa.eq_1))))))))))) ?_;(repeat(refine Pn.mk ?_;intro N hN))))
     exact bL (b:=-1) (.inl rfl) (sd @Nat.zero_add) (by rw[DF,if_neg fun h=>hp h.2])
  ·have fP:¬i<l.length:=by omega
   (try((repeat(revert hN;revert N;apply Pn.out));refine wk (tw @h0 (tw @h3 (tw @h5 (tw @h6 (tw @hg (tw @dM (tw @hn (tw @ad.eq_1 @aa.eq_1)))))))) ?_;(repeat(refine Pn.mk ?_;intro N hN))))
   exact bL (b:=-1) (.inl rfl) (sd @Nat.zero_add) (by rw[DF,if_neg fun h=>fP h.1])
theorem Fv (l:List ah) (p:ar) (hR:xi l) (Gf:l.length<=1048576):aj Tryz.prog 98 [.cQ [.sl (l.map ad)],.agg (aa p)] (.int .i64 (gW l p)):=by
 refine aj.body ek rfl fun hl n0=>?_
 clear hl
 have hb:=mZ l p hR Gf
 by_cases hi:eL l p<0
 ·rw[aa]at hb
  (repeat(first|((repeat(revert hN;revert N;apply Pn.out));refine wk (tw @aa.eq_1 @hi) ?_;(repeat(refine Pn.mk ?_;intro N hN)))|((try apply Or.inl);refine⟨_,aj.x (hb) (sd (tw @aa.eq_1 @hi)),?_⟩;refine hN _ _ ?_;clear hN N)))
  exact bL (b:=-1) (.inl rfl) (sd @Nat.zero_add) (by rw[gW,if_neg (by omega)])
 ·have h0:0<=eL l p:=by omega
  have hg:=fN (pb h0).1
  rw[aa]at hb
  (repeat(first|((repeat(revert hN;revert N;apply Pn.out));refine wk (tw @aa.eq_1 (tw @hi (tw @h0 (tw @hg @ad.eq_1)))) ?_;(repeat(refine Pn.mk ?_;intro N hN)))|((try apply Or.inl);refine⟨_,aj.x (hb) (sd (tw @aa.eq_1 (tw @hi (tw @h0 (tw @hg @ad.eq_1))))),?_⟩;refine hN _ _ ?_;clear hN N)))
  exact bL (b:=(aT l (eL l p).toNat).bd) (.inl rfl) (sd @Nat.zero_add) (by rw[gW,if_pos h0])
def lN (s:aw) (l:List ah):Prop:=iW l/\∀t∈l,eJ s t.bd=true
noncomputable def pD (s:aw) (l:List ah):Bool:=oy l&&l.all fun t=>eJ s t.bd
theorem l6 {s:aw} {l:List ah}:pD s l=true↔lN s l:=by simp[pD,lN,sD]
theorem vk:P9 ad (fun c=>.agg (ad c)) 3 true:=⟨fun _=>rfl,fun _=>rfl,fun x g=>by simp only[ad,ai,aq,br,aH,Option.map_some]⟩
theorem GP (s:aw) (t:ah) (hs:s.ae.length<=1048576):aj Tryz.prog 167 [.agg (ad t),.cQ (ab s)] (.bool (!eJ s t.bd)):=by
 refine aj.body ek rfl fun hl n0=>?_
 clear hl
 have h:=Ja s t.bd
 rw[ab]at h
 (repeat(first|((repeat(revert hN;revert N;apply Pn.out));refine wk (tw @ad.eq_1 @ab.eq_1) ?_;(repeat(refine Pn.mk ?_;intro N hN)))|((try apply Or.inl);refine⟨_,aj.x (h) (sd (tw @ad.eq_1 @ab.eq_1)),?_⟩;refine hN _ _ ?_;clear hN N)))
 exact aP (b:= !eJ s t.bd) (.inl rfl) (sd @Nat.zero_add) rfl
theorem Mj (s:aw) (l:List ah) (hs:s.ae.length<=1048576) (hl:l.length<=1048576):aj Tryz.prog 166 [.sl (l.map ad),.fn 167 [.cQ (ab s)]] (.bool (l.any fun t=> !eJ s t.bd)):=
 kO vk (show lV Tryz.prog 166=some (zy 166 202) by kernel_rfl)
  (show lV Tryz.prog 202=some (sL 202 3 true) by kernel_rfl) l hl _ _ _ rfl (fun g=>by rw[ai,aU,aq];rfl) (fun x _=>GP s x hs) fun g=>by rw[ai,aU,aq];rfl
theorem ER {α:Type} (p:α->Bool) (l:List α):(!l.any fun t=> !p t)=l.all p:=by
 induction l with
 |nil=>rfl
 |cons x l ih=>simp only[List.any_cons,List.all_cons,<-ih];cases p x<;>simp
theorem nA (s:aw) (l:List ah) (hn:fW s) (hg:s.aB.length<=1048576) (ht:s.ae.length<=1048576) (hs:∀t∈s.ae,t.bt.length<=1048576) (hl:l.length<=1048576):aj Tryz.prog 106 [.agg (ab s),.agg [.sl (l.map ad)]] (.bool (qK s&&pD s l)):=by
 refine aj.body ek rfl fun hl n0=>?_
 clear hl
 have h1:=C6 s hn hg ht hs
 have h2:=sF l
 have h3:=Mj s l ht hl
 rw[ab]at h1 h3
 cases b1:qK s
 ·rw[b1]at h1
  (repeat(first|((repeat(revert hN;revert N;apply Pn.out));refine wk @ab.eq_1 ?_;(repeat(refine Pn.mk ?_;intro N hN)))|((try apply Or.inl);refine⟨_,aj.x (h1) (sd @ab.eq_1),?_⟩;refine hN _ _ ?_;clear hN N)))
  exact aP (b:=false) (.inl rfl) (sd @Nat.zero_add) rfl
 rw[b1]at h1
 cases b2:oy l
 ·rw[b2]at h2
  (repeat(first|((repeat(revert hN;revert N;apply Pn.out));refine wk @ab.eq_1 ?_;(repeat(refine Pn.mk ?_;intro N hN)))|((try apply Or.inl);refine⟨_,aj.x (h1) (sd @ab.eq_1),?_⟩;refine hN _ _ ?_;clear hN N)|((try apply Or.inl);refine⟨_,aj.x (h2) (sd @ab.eq_1),?_⟩;refine hN _ _ ?_;clear hN N)))
  exact aP (b:=false) (.inl rfl) (sd @Nat.zero_add) (by rw[pD,b2];rfl)
 rw[b2]at h2
 (repeat(first|((repeat(revert hN;revert N;apply Pn.out));refine wk @ab.eq_1 ?_;(repeat(refine Pn.mk ?_;intro N hN)))|((try apply Or.inl);refine⟨_,aj.x (h1) (sd @ab.eq_1),?_⟩;refine hN _ _ ?_;clear hN N)|((try apply Or.inl);refine⟨_,aj.x (h2) (sd @ab.eq_1),?_⟩;refine hN _ _ ?_;clear hN N)|((try apply Or.inl);refine⟨_,aj.x (h3) (sd @ab.eq_1),?_⟩;refine hN _ _ ?_;clear hN N)))
 exact aP (b:= !(l.any fun t=> !eJ s t.bd)) (.inl rfl) (sd @Nat.zero_add) (by rw[ER,pD,b2];rfl)
theorem Fw (s:aw) (l:List ah):aj Tryz.prog 97 [.cQ (ab s),.cQ [.sl (l.map ad)]] (.bool (pD s l)):=by
 refine aj.body ek rfl fun hl n0=>?_
 have hlen:l.length<=9223372036854775807:=by
  have h1:=(hl (.cQ [.sl (l.map ad)]) (by simp)).BR (a:=.sl (l.map ad)) (by simp)
  simpa using h1.len
 clear hl
 have h2:=GA l
 cases b2:oy l
 ·rw[b2]at h2
  (repeat(first|((repeat(revert hN;revert N;apply Pn.out));refine wk @Nat.zero_add ?_;(repeat(refine Pn.mk ?_;intro N hN)))|((try apply Or.inl);refine⟨_,aj.x (h2) (sd @Nat.zero_add),?_⟩;refine hN _ _ ?_;clear hN N)))
  exact aP (b:=false) (.inl rfl) (sd @Nat.zero_add) (by rw[pD,b2];rfl)
 rw[b2]at h2
 (repeat(first|((repeat(revert hN;revert N;apply Pn.out));refine wk @Nat.zero_add ?_;(repeat(refine Pn.mk ?_;intro N hN)))|((try apply Or.inl);refine⟨_,aj.x (h2) (sd @Nat.zero_add),?_⟩;refine hN _ _ ?_;clear hN N)))
 refine aI (fun n env st=>∃k:Nat,n=(l.length)-k/\k<=(l.length)/\env 5=.int .i64 (k:Int)/\(∀j:Nat,j<k->eJ s (aT l j).bd=true)) (l.length) ⟨0,by omega,by omega,sl @Nat.zero_add,fun _ h=>absurd h (Nat.not_lt_zero _)⟩ ?_
 rintro n_a env_a st_a ⟨k,rfl,ale,a5,lU⟩ dp
 have a0:=dp 0 (by kernel_rfl);have a1:=dp 1 (by kernel_rfl)
 simp only[go_sem, ↓reduceIte,Nat.reduceEqDiff,Nat.reduceAdd,Nat.reduceSub,Nat.reduceLeDiff,reduceCtorEq]at a0 a1
 clear dp
 by_cases hk:(k:Int)<(l.length:Int)
 ·have ck:∀{e:Env},(e 5=.int .i64 (IntKind.i64.wrap ((k:Int)+1)))->(eJ s (aT l k).bd=true)->∃m0,m0<(l.length)-k/\∃k:Nat,m0=(l.length)-k/\k<=(l.length)/\e 5=.int .i64 (k:Int)/\(∀j:Nat,j<k->eJ s (aT l j).bd=true):=fun x1 x2=>⟨_,by omega,k+1,rfl,by omega,(by rw[x1,aA (by omega)]),(all_succ lU x2)⟩
  have eZ:k<l.length:=by omega
  have eM:=fN eZ
  have ht:=vU s (aT l k).bd
  cases b3:eJ s (aT l k).bd
  ·rw[b3]at ht
   (repeat(first|((repeat(revert hN;revert N;apply Pn.out));refine wk (tw @a5 (tw @a0 (tw @a1 (tw @hk (tw @eM @ad.eq_1))))) ?_;(repeat(refine Pn.mk ?_;intro N hN)))|((try apply Or.inl);refine⟨_,aj.x (ht) (sd (tw @a5 (tw @a0 (tw @a1 (tw @hk (tw @eM @ad.eq_1)))))),?_⟩;refine hN _ _ ?_;clear hN N)))
   exact aP (b:=false) (.inl rfl) (sd @Nat.zero_add) (by
    have:l.all (fun t=>eJ s t.bd)=false:=List.all_eq_false.2 ⟨_,jx eZ,by rw[b3];simp⟩
    rw[pD,this,Bool.and_false])
  ·rw[b3]at ht
   (repeat(first|((repeat(revert hN;revert N;apply Pn.out));refine wk (tw @a5 (tw @a0 (tw @a1 (tw @hk (tw @eM @ad.eq_1))))) ?_;(repeat(refine Pn.mk ?_;intro N hN)))|((try apply Or.inl);refine⟨_,aj.x (ht) (sd (tw @a5 (tw @a0 (tw @a1 (tw @hk (tw @eM @ad.eq_1)))))),?_⟩;refine hN _ _ ?_;clear hN N)))
   exact ck (sd (tw @a5 (tw @a0 @a1))) (b3)
 ·(try((repeat(revert hN;revert N;apply Pn.out));refine wk (tw @a5 (tw @a0 (tw @a1 @hk))) ?_;(repeat(refine Pn.mk ?_;intro N hN))))
  exact aP (b:=true) (.inl rfl) (sd @Nat.zero_add) (by
   have:l.all (fun t=>eJ s t.bd)=true:=List.all_eq_true.2 fun t ht=>by
    obtain⟨j,hj,rfl⟩:=List.getElem_of_mem ht
    have:=lU j (by omega)
    rwa [iw hj]at this
   rw[pD,b2,this];rfl)
theorem xH (l:List ah) (hF:iW l) (i:Nat) (d:Int) (hi:i<l.length) (hd:iH d 0 3=true):aj Tryz.prog 217 [.cQ [.sl (l.map ad)],.int .i64 i,.int .i64 d] (.int .i64 (eL l (cq (aT l i).aO d))):=by
 refine aj.body ek rfl fun hl n0=>?_
 clear hl
 have hg:=fN hi
 have hp:=nk (hF.pt hi)
 have h1:=sO (aT l i).aO d hd hp.1 hp.2
 have h2:=mZ l (cq (aT l i).aO d) hF.M9 (by have:=hF.w8;omega)
 rw[aa]at h1 h2
 (repeat(first|((repeat(revert hN;revert N;apply Pn.out));refine wk (tw @ad.eq_1 (tw @hg @aa.eq_1)) ?_;(repeat(refine Pn.mk ?_;intro N hN)))|((try apply Or.inl);refine⟨_,aj.x (h1) (sd (tw @ad.eq_1 (tw @hg @aa.eq_1))),?_⟩;refine hN _ _ ?_;clear hN N)|((try apply Or.inl);refine⟨_,aj.x (h2) (sd (tw @ad.eq_1 (tw @hg @aa.eq_1))),?_⟩;refine hN _ _ ?_;clear hN N)))
 exact bL (b:=eL l (cq (aT l i).aO d)) (.inl rfl) (sd @Nat.zero_add) rfl
end Go.Proofs.YtgoelphibofcmaaGreat.V

namespace Go.Proofs.YtgoelphibofcmaaGreat.V
def bi (b:Bool):Int:=if b then 1 else 0
def lS (f:Nat->Int):Nat->Int
 |0=>0
 |n+1=>lS f n+f n
theorem gm {f g:Nat->Int}:∀{n:Nat},(∀i,i<n->f i=g i)->lS f n=lS g n
 |0,_=>rfl
 |n+1,h=>by
  simp only[lS]
  rw[gm fun i hi=>h i (by omega),h n (by omega)]
theorem rW {f g:Nat->Int}:∀{n:Nat},(∀i,i<n->f i<=g i)->lS f n<=lS g n
 |0,_=>Int.le_refl _
 |n+1,h=>by
  simp only[lS]
  have:=rW (n:=n) fun i hi=>h i (by omega)
  have:=h n (by omega)
  omega
theorem jS:∀{n:Nat} {f:Nat->Int},(∀i,i<n->f i=0)->lS f n=0
 |0,_,_=>rfl
 |n+1,f,h=>by
  simp only[lS]
  rw[jS fun i hi=>h i (by omega),h n (by omega)];rfl
theorem pq {f:Nat->Int} {a:Nat} {d:Int}:∀n,lS (fun i=>f i+if i=a then d else 0) n=lS f n+if a<n then d else 0
 |0=>by simp[lS]
 |n+1=>by
  simp only[lS]
  rw[pq n]
  by_cases h:n=a
  ·subst h;simp;omega
  ·rw[if_neg h]
   by_cases h2:a<n
   ·rw[if_pos h2,if_pos (by omega)];omega
   ·rw[if_neg h2,if_neg (by omega)];omega
def ma (n:Nat) (S:Nat->Bool) (f:Nat->Nat->Int):Int:=lS (fun u=>lS (fun v=>if S u&& !S v then f u v else 0) n) n
def bump (f:Nat->Nat->Int) (a b:Nat) (d:Int):Nat->Nat->Int:=fun u v=>f u v+if u=a/\v=b then d else 0
theorem o9 {n:Nat} {S:Nat->Bool} {f:Nat->Nat->Int} {a b:Nat} {d:Int} (ha:a<n) (hb:b<n):ma n S (bump f a b d)=ma n S f+if S a&& !S b then d else 0:=by
 unfold ma
 have h1:∀u,u<n->lS (fun v=>if S u&& !S v then bump f a b d u v else 0) n=lS (fun v=>if S u&& !S v then f u v else 0) n+if u=a then(if S a&& !S b then d else 0)else 0:=by
  intro u hu
  by_cases h:u=a
  ·subst h
   have h2:∀v,v<n->(if S u&& !S v then bump f u b d u v else 0)=(fun v=>if S u&& !S v then f u v else 0) v+if v=b then(if S u&& !S b then d else 0)else 0:=by
    intro v hv
    unfold bump
    by_cases h3:v=b
    ·subst h3;simp only[and_self,if_true];split<;>omega
    ·simp only[h3,and_false,if_false];split<;>omega
   rw[gm h2,pq,if_pos hb,if_pos rfl]
  ·rw[if_neg h,Int.add_zero]
   refine gm fun v hv=>?_
   unfold bump
   simp[h]
 rw[gm h1,pq,if_pos ha]
theorem KX {n:Nat} {S:Nat->Bool} {f c:Nat->Nat->Int} (h:∀u v,u<n->v<n->f u v<=c u v):ma n S f<=ma n S c:=
 rW fun u hu=>rW fun v hv=>by split;exact h u v hu hv;exact Int.le_refl _
theorem KW {n:Nat} {S:Nat->Bool} {f c:Nat->Nat->Int} (h:∀u v,u<n->v<n->S u=true->S v=false->f u v=c u v):ma n S f=ma n S c:=
 gm fun u hu=>gm fun v hv=>by
  split
  ·rename_i hc
   simp only[Bool.and_eq_true,Bool.not_eq_true']at hc
   exact h u v hu hv hc.1 hc.2
  ·rfl
def ki (f:Nat->Nat->Int) (a b:Nat):Nat->Nat->Int:=bump (bump f a b 1) b a (-1)
theorem F5 {n:Nat} {S:Nat->Bool} {f:Nat->Nat->Int} {a b:Nat} (ha:a<n) (hb:b<n):ma n S (ki f a b)=ma n S f+bi (S a)-bi (S b):=by
 unfold ki
 rw[o9 hb ha,o9 ha hb]
 cases S a<;>cases S b<;>simp[bi]<;>omega
def l7 (f:Nat->Nat->Int):List Nat->Nat->Nat->Int
 |a::b::r=>l7 (ki f a b) (b::r)
 |_=>f
def qP (f c:Nat->Nat->Int):List Nat->Prop
 |a::b::r=>f a b<c a b/\qP f c (b::r)
 |_=>True
theorem AY {n:Nat} {S:Nat->Bool}:∀(r:List Nat) (a:Nat) (f:Nat->Nat->Int),(∀x∈a::r,x<n)->ma n S (l7 f (a::r))=ma n S f+bi (S a)-bi (S ((a::r).getLast (by simp)))
 |[],a,f,_=>by simp[l7]
 |b::r,a,f,h=>by
  rw[l7,AY r b (ki f a b) fun x hx=>h x (List.mem_cons_of_mem _ hx),F5 (h a (by simp)) (h b (by simp)),List.getLast_cons_cons]
  generalize bi (S b)=q
  omega
theorem qP.less {f g c:Nat->Nat->Int}:∀{p:List Nat},qP f c p->(∀u,u∈p->∀v,g u v<=f u v)->qP g c p
 |[],_,_=>trivial
 |[_],_,_=>trivial
 |a::b::r,h,hl=>⟨Int.lt_of_le_of_lt (hl a (by simp) b) h.1,qP.less (p:=b::r) h.2 fun u hu=>hl u (List.mem_cons_of_mem _ hu)⟩
theorem ES {n:Nat} {c:Nat->Nat->Int}:∀(p:List Nat) (f:Nat->Nat->Int),p.Nodup->qP f c p->(∀u v,u<n->v<n->f u v<=c u v)->∀u v,u<n->v<n->l7 f p u v<=c u v
 |[],f,_,_,h=>h
 |[_],f,_,_,h=>h
 |a::b::r,f,hn,hr,h=>by
  rw[l7]
  have tz:a∉b::r:=(List.nodup_cons.1 hn).1
  refine ES (b::r) _ (List.nodup_cons.1 hn).2 (hr.2.less fun u hu v=>?_) fun u v hu hv=>?_
  ·unfold ki bump
   have:u≠a:=by rintro rfl;exact tz hu
   simp only[this,false_and,if_false]
   split<;>omega
  ·have h0:=h u v hu hv
   have h1:=hr.1
   unfold ki bump
   by_cases e:u=a/\v=b
   ·obtain⟨rfl,rfl⟩:=e
    rw[if_pos ⟨rfl,rfl⟩];split<;>omega
   ·rw[if_neg e];split<;>omega
structure lx (n:Nat) (c f:Nat->Nat->Int) (x y:Nat) (val:Int):Prop where
 le:∀u v,u<n->v<n->f u v<=c u v
 cut:∀S:Nat->Bool,S x=true->S y=false->ma n S f=val
theorem lx.zero {n:Nat} {c:Nat->Nat->Int} {x y:Nat} (h:∀u v,u<n->v<n->0<=c u v):lx n c (fun _ _=>0) x y 0:=
 ⟨h,fun S _ _=>jS fun u hu=>jS fun v hv=>by split<;>rfl⟩
theorem lx.congr {n:Nat} {c f g:Nat->Nat->Int} {x y:Nat} {val:Int} (h:lx n c f x y val) (e:∀u v,u<n->v<n->g u v=f u v):lx n c g x y val:=
 ⟨fun u v hu hv=>by rw[e u v hu hv];exact h.le u v hu hv,fun S hx hy=>by
  rw[<-h.cut S hx hy]
  exact gm fun u hu=>gm fun v hv=>by rw[e u v hu hv]⟩
theorem lx.aug {n:Nat} {c f:Nat->Nat->Int} {x y:Nat} {val:Int} (h:lx n c f x y val) {r:List Nat} (hl:(x::r).getLast (by simp)=y) (hn:(x::r).Nodup) (hr:qP f c (x::r)) (hb:∀v∈x::r,v<n):lx n c (l7 f (x::r)) x y (val+1):=
 ⟨ES _ _ hn hr h.le,fun S hx hy=>by rw[AY r x f hb,hl,h.cut S hx hy,hx,hy];simp[bi]⟩
theorem lx.bound {n:Nat} {c f:Nat->Nat->Int} {x y:Nat} {val:Int} (h:lx n c f x y val) {S:Nat->Bool} (hx:S x=true) (hy:S y=false):val<=ma n S c:=by
 rw[<-h.cut S hx hy];exact KX h.le
theorem lx.full {n:Nat} {c f:Nat->Nat->Int} {x y:Nat} {val:Int} (h:lx n c f x y val) {S:Nat->Bool} (hx:S x=true) (hy:S y=false) (hS:∀u v,u<n->v<n->S u=true->S v=false->¬f u v<c u v):val=ma n S c:=by
 rw[<-h.cut S hx hy]
 exact KW fun u v hu hv h1 h2=>by have:=hS u v hu hv h1 h2;have:=h.le u v hu hv;omega
structure PB where
 a:Nat
 b:Nat
 s:Int
 deriving Inhabited
def cm (bs:List PB) (i:Nat):PB:=bs.getD i default
def jd (S:Nat->Bool) (bs:List PB):Int:=(bs.map fun b=>if S b.a=S b.b then 0 else b.s).sum
def nJ (c:Nat->Nat->Int) (b:PB):Nat->Nat->Int:=bump (bump c b.a b.b b.s) b.b b.a b.s
def k5 (bs:List PB):Nat->Nat->Int:=bs.foldl nJ fun _ _=>0
theorem Ek (bs:List PB) (b:PB):k5 (bs++[b])=nJ (k5 bs) b:=by simp[k5]
theorem Bc {n:Nat} {S:Nat->Bool}:∀(bs:List PB) (c:Nat->Nat->Int),(∀b∈bs,b.a<n/\b.b<n)->ma n S (bs.foldl nJ c)=ma n S c+jd S bs
 |[],c,_=>by simp[jd]
 |b::bs,c,h=>by
  have hb:=h b (by simp)
  rw[List.foldl_cons,Bc bs _ fun x hx=>h x (List.mem_cons_of_mem _ hx)]
  unfold nJ jd
  rw[o9 hb.2 hb.1,o9 hb.1 hb.2,List.map_cons,List.sum_cons]
  cases S b.a<;>cases S b.b<;>simp<;>omega
theorem Bd {n:Nat} {S:Nat->Bool} {bs:List PB} (h:∀b∈bs,b.a<n/\b.b<n):ma n S (k5 bs)=jd S bs:=by
 rw[k5,Bc bs _ h]
 have:ma n S (fun _ _=>0)=0:=jS fun u hu=>jS fun v hv=>by split<;>rfl
 omega
theorem Ai:∀(bs:List PB) (c:Nat->Nat->Int),(∀b∈bs,0<=b.s)->(∀u v,0<=c u v)->∀u v,0<=bs.foldl nJ c u v
 |[],c,_,h=>h
 |b::bs,c,hb,h=>by
  rw[List.foldl_cons]
  refine Ai bs _ (fun x hx=>hb x (List.mem_cons_of_mem _ hx)) fun u v=>?_
  have:=hb b (by simp);have:=h u v
  unfold nJ bump
  split<;>split<;>omega
theorem room_le:∀(bs:List PB) (c:Nat->Nat->Int) (m:Int),(∀b∈bs,b.s<=4)->(∀u v,c u v<=m)->0<=m->∀u v,bs.foldl nJ c u v<=m+8*bs.length
 |[],c,m,_,h,_=>fun u v=>by have:=h u v;simp;omega
 |b::bs,c,m,hb,h,h0=>fun u v=>by
  rw[List.foldl_cons]
  have:=room_le bs (nJ c b) (m+8) (fun x hx=>hb x (List.mem_cons_of_mem _ hx)) (fun u v=>by
   have:=hb b (by simp);have:=h u v
   unfold nJ bump
   split<;>split<;>omega) (by omega) u v
  simp only[List.length_cons];omega
def kI (n:Nat) (bs:List PB) (t:Int):Prop:=∀S:Nat->Bool,S 0=true->(∃y,y<n/\S y=false)->t<=jd S bs
def F3 (S:Nat->Bool) (bs:List PB) (f:Nat->Int):Int:=lS (fun i=>f i*(bi (S (cm bs i).a)-bi (S (cm bs i).b))) bs.length
structure jX (bs:List PB) (f:Nat->Int) (x y:Nat) (val:Int):Prop where
 le:∀i,i<bs.length->f i<=(cm bs i).s/\-(cm bs i).s<=f i
 cut:∀S:Nat->Bool,S x=true->S y=false->F3 S bs f=val
theorem ve (S:Nat->Bool):∀bs:List PB,jd S bs=lS (fun i=>if S (cm bs i).a=S (cm bs i).b then 0 else(cm bs i).s) bs.length:=by
 intro bs
 have key:∀n,n<=bs.length->jd S (bs.take n)=lS (fun i=>if S (cm bs i).a=S (cm bs i).b then 0 else(cm bs i).s) n:=by
  intro n
  induction n with
  |zero=>intro _;rfl
  |succ n ih=>
   intro h
   have e:cm bs n=bs[n]:=by simp[cm,List.getD_eq_getElem?_getD,List.getElem?_eq_getElem (show n<bs.length by omega)]
   rw[List.take_succ_eq_append_getElem (by omega),lS,<-ih (by omega),e]
   unfold jd
   rw[List.map_append,List.sum_append]
   simp only[List.map_cons,List.map_nil,List.sum_cons,List.sum_nil,Int.add_zero]
 have:=key bs.length (Nat.le_refl _)
 rwa [List.take_length]at this
theorem jX.bound {bs:List PB} {f:Nat->Int} {x y:Nat} {val:Int} (h:jX bs f x y val) {S:Nat->Bool} (hx:S x=true) (hy:S y=false):val<=jd S bs:=by
 rw[<-h.cut S hx hy,ve]
 refine rW fun i hi=>?_
 have:=h.le i hi
 cases S (cm bs i).a<;>cases S (cm bs i).b<;>simp[bi]<;>omega
def fG (bs:List PB) (f:Nat->Int) (i u:Nat):Int:=if (cm bs i).a=u then(cm bs i).s-f i else(cm bs i).s+f i
def bI (bs:List PB) (i u:Nat):Nat:=if (cm bs i).a=u then(cm bs i).b else(cm bs i).a
theorem jX.full {bs:List PB} {f:Nat->Int} {x y:Nat} {val:Int} (h:jX bs f x y val) {S:Nat->Bool} (hx:S x=true) (hy:S y=false)
  (hS:∀i,i<bs.length->((cm bs i).a≠(cm bs i).b->(S (cm bs i).a=true->S (cm bs i).b=false->¬0<fG bs f i (cm bs i).a)/\(S (cm bs i).b=true->S (cm bs i).a=false->¬0<fG bs f i (cm bs i).b))):val=jd S bs:=by
 rw[<-h.cut S hx hy,ve]
 refine gm fun i hi=>?_
 have h1:=h.le i hi
 by_cases tz:(cm bs i).a=(cm bs i).b
 ·rw[tz];simp
 ·have h2:=hS i hi tz
  unfold fG at h2
  rw[if_pos rfl,if_neg tz]at h2
  cases ha:S (cm bs i).a<;>cases hb:S (cm bs i).b<;>rw[ha,hb]at h2<;>simp[bi]at h2 ⊢ <;>omega
def tK (bs:List PB) (f:Nat->Int) (i u:Nat):Nat->Int:=fun j=>f j+if j=i then(if (cm bs i).a=u then 1 else -1)else 0
theorem F4 {S:Nat->Bool} {bs:List PB} {f:Nat->Int} {i u:Nat} (hi:i<bs.length) (hu:(cm bs i).a=u∨(cm bs i).b=u):F3 S bs (tK bs f i u)=F3 S bs f+bi (S u)-bi (S (bI bs i u)):=by
 unfold F3 tK
 have e:∀j,j<bs.length->(f j+if j=i then(if (cm bs i).a=u then 1 else -1)else 0)*(bi (S (cm bs j).a)-bi (S (cm bs j).b))=(fun j=>f j*(bi (S (cm bs j).a)-bi (S (cm bs j).b))) j+if j=i then(if (cm bs i).a=u then 1 else -1)*(bi (S (cm bs i).a)-bi (S (cm bs i).b))else 0:=by
  intro j hj
  by_cases h:j=i
  ·subst h;simp only[if_true];rw[Int.add_mul]
  ·simp only[h,if_false];simp
 rw[gm e,pq,if_pos hi]
 unfold bI
 by_cases ha:(cm bs i).a=u
 ·rw[if_pos ha,if_pos ha,ha];omega
 ·rw[if_neg ha,if_neg ha]
  rcases hu with hu|hu
  ·exact absurd hu ha
  ·rw[hu];omega
theorem oJ:∀(n:Nat) (l:List Nat),l.Nodup->(∀x∈l,x<n)->l.length<=n
 |0,l,_,h=>by
  cases l with
  |nil=>simp
  |cons x l=>exact absurd (h x (by simp)) (by omega)
 |n+1,l,hn,h=>by
  have h1:=oJ n (l.erase n) (hn.erase _) fun x hx=>by
   have h2:=(hn.mem_erase_iff).1 hx
   have h3:=h x h2.2
   have h4:=h2.1
   omega
  rw[List.length_erase]at h1
  split at h1<;>omega
end Go.Proofs.YtgoelphibofcmaaGreat.V

namespace Go.Proofs.YtgoelphibofcmaaGreat.V
def eQ (L:Nat->Nat) (b:PB):Nat->Nat:=fun k=>if L k=max (L b.a) (L b.b)then min (L b.a) (L b.b)else L k
def ei (bs:List PB):Nat->Nat:=bs.foldl eQ id
theorem vV (bs:List PB) (b:PB):ei (bs++[b])=eQ (ei bs) b:=by simp[ei]
structure jG (L:Nat->Nat):Prop where
 le:∀k,L k<=k
 idem:∀k,L (L k)=L k
theorem jG.step {L:Nat->Nat} (h:jG L) (b:PB):jG (eQ L b):=by
 have ha:=h.idem b.a
 have hb:=h.idem b.b
 refine⟨fun k=>?_,fun k=>?_⟩
 ·have:=h.le k
  unfold eQ
  split<;>omega
 ·have hk:=h.idem k
  have hm:L (min (L b.a) (L b.b))=min (L b.a) (L b.b):=by
   rcases Nat.le_total (L b.a) (L b.b)with h1|h1
   ·rw[Nat.min_eq_left h1,ha]
   ·rw[Nat.min_eq_right h1,hb]
  unfold eQ
  by_cases h1:L k=max (L b.a) (L b.b)
  ·rw[if_pos h1,hm];split<;>rfl
  ·rw[if_neg h1,hk,if_neg h1]
theorem vW:∀(bs:List PB) (L:Nat->Nat),jG L->jG (bs.foldl eQ L)
 |[],_,h=>h
 |b::bs,L,h=>vW bs _ (h.step b)
theorem tF (bs:List PB):jG (ei bs):=vW bs id ⟨fun _=>Nat.le_refl _,fun _=>rfl⟩
def leads (n:Nat) (L:Nat->Nat):List Nat:=(List.range n).filter fun i=>L i==i
def members (n:Nat) (L:Nat->Nat) (i:Nat):List Nat:=(List.range n).filter fun k=>L k==i
def fx (n:Nat) (L:Nat->Nat):List (List Nat):=(leads n L).map (members n L)
def bH (L:Nat->Nat) (k:Nat):Nat:=(leads (L k) L).length
theorem gM (n:Nat) (L:Nat->Nat):leads (n+1) L=leads n L++if L n=n then[n]else[]:=by
 unfold leads
 rw[List.range_succ,List.filter_append]
 congr 1
 by_cases h:L n=n<;>simp[h]
theorem ju (n:Nat) (L:Nat->Nat) (i:Nat):members (n+1) L i=members n L i++if L n=i then[n]else[]:=by
 unfold members
 rw[List.range_succ,List.filter_append]
 congr 1
 by_cases h:L n=i<;>simp[h]
theorem nf {L:Nat->Nat} (h:jG L) {n i:Nat} (hn:n<=i):members n L i=[]:=by
 unfold members
 rw[List.filter_eq_nil_iff]
 intro k hk
 have:=h.le k
 have:=List.mem_range.1 hk
 simp;omega
theorem tG (n:Nat) (L:Nat->Nat):(leads n L).Nodup:=List.nodup_range.filter _
theorem yF {n:Nat} {L:Nat->Nat} {i:Nat}:i∈leads n L↔i<n/\L i=i:=by simp[leads]
theorem lI {n:Nat} {L:Nat->Nat} {i k:Nat}:k∈members n L i↔k<n/\L k=i:=by simp[members]
theorem GI {L:Nat->Nat} {m n:Nat} (h:m<=n):∃r,leads n L=leads m L++r:=by
 obtain⟨d,rfl⟩:=Nat.le.dest h
 clear h
 induction d with
 |zero=>exact⟨[],by simp⟩
 |succ d ih=>
  obtain⟨r,hr⟩:=ih
  exact⟨r++if L (m+d)=m+d then[m+d]else[],by rw[<-Nat.add_assoc,gM,hr,List.append_assoc]⟩
theorem pc {L:Nat->Nat} (h:jG L) {n k:Nat} (hk:k<n):(leads n L)[bH L k]? =some (L k):=by
 have h1:=h.le k
 obtain⟨r,hr⟩:=GI (L:=L) (show L k+1<=n by omega)
 rw[hr,gM,if_pos (h.idem k),List.append_assoc]
 unfold bH
 rw[List.getElem?_append_right (Nat.le_refl _),Nat.sub_self];rfl
theorem j5 {L:Nat->Nat} (h:jG L) {n k:Nat} (hk:k<n):bH L k<(leads n L).length:=(List.getElem?_eq_some_iff.1 (pc h hk)).1
theorem sR {L:Nat->Nat} (h:jG L) {n k i:Nat} (hk:k<n) (hi:i<(leads n L).length):k∈members n L (leads n L)[i]↔bH L k=i:=by
 rw[lI]
 have h1:=pc h hk
 rw[List.getElem?_eq_getElem (j5 h hk)]at h1
 injection h1 with h1
 constructor
 ·rintro⟨_,h2⟩
  rw[<-h1]at h2
  exact(List.getElem_inj (tG n L)).1 h2
 ·rintro rfl
  exact⟨hk,h1.symm⟩
def dt (L:Nat->Nat) (bs:List PB):List PB:=bs.filterMap fun b=>if bH L b.a=bH L b.b then none else some ⟨bH L b.a,bH L b.b,b.s⟩
def e8 (L:Nat->Nat) (bs:List PB):List PB:=bs.filterMap fun b=>if bH L b.a=bH L b.b then none else some ⟨min (bH L b.a) (bH L b.b),max (bH L b.a) (bH L b.b),b.s⟩
theorem Aj (L:Nat->Nat) (bs:List PB) (b:PB):dt L (bs++[b])=dt L bs++if bH L b.a=bH L b.b then[]else[⟨bH L b.a,bH L b.b,b.s⟩]:=by
 unfold dt
 rw[List.filterMap_append]
 congr 1
 by_cases h:bH L b.a=bH L b.b<;>simp[h]
theorem Ak (L:Nat->Nat) (bs:List PB) (b:PB):e8 L (bs++[b])=e8 L bs++if bH L b.a=bH L b.b then[]else[⟨min (bH L b.a) (bH L b.b),max (bH L b.a) (bH L b.b),b.s⟩]:=by
 unfold e8
 rw[List.filterMap_append]
 congr 1
 by_cases h:bH L b.a=bH L b.b<;>simp[h]
theorem su (S:Nat->Bool) (b:PB) (bs:List PB):jd S (b::bs)=(if S b.a=S b.b then 0 else b.s)+jd S bs:=by simp[jd]
theorem xZ (S:Nat->Bool) (L:Nat->Nat):∀bs:List PB,jd S (e8 L bs)=jd S (dt L bs)
 |[]=>rfl
 |b::bs=>by
  have ih:=xZ S L bs
  unfold e8 dt at ih ⊢
  rw[List.filterMap_cons,List.filterMap_cons]
  by_cases h:bH L b.a=bH L b.b
  ·simp only[h,if_true];exact ih
  ·simp only[h,if_false]
   rw[su,su,ih]
   congr 1
   simp only
   rcases Nat.le_total (bH L b.a) (bH L b.b)with h1|h1
   ·rw[Nat.min_eq_left h1,Nat.max_eq_right h1]
   ·rw[Nat.min_eq_right h1,Nat.max_eq_left h1]
    cases S (bH L b.a)<;>cases S (bH L b.b)<;>rfl
theorem Eo {L:Nat->Nat} (h:jG L) {n:Nat} {bs:List PB} (hb:∀b∈bs,b.a<n/\b.b<n):∀b∈dt L bs,b.a<(leads n L).length/\b.b<(leads n L).length/\b.a≠b.b/\∃c∈bs,b.s=c.s:=by
 intro b hm
 unfold dt at hm
 obtain⟨c,hc,he⟩:=List.mem_filterMap.1 hm
 split at he
 ·cases he
 ·rename_i gU
  simp only[Option.some.injEq]at he
  subst he
  exact⟨j5 h (hb c hc).1,j5 h (hb c hc).2,gU,c,hc,rfl⟩
theorem Ep {L:Nat->Nat} (h:jG L) {n:Nat} {bs:List PB} (hb:∀b∈bs,b.a<n/\b.b<n):∀b∈e8 L bs,b.a<(leads n L).length/\b.b<(leads n L).length/\b.a≠b.b/\∃c∈bs,b.s=c.s:=by
 intro b hm
 unfold e8 at hm
 obtain⟨c,hc,he⟩:=List.mem_filterMap.1 hm
 split at he
 ·cases he
 ·rename_i gU
  simp only[Option.some.injEq]at he
  subst he
  have h1:=j5 h (hb c hc).1
  have h2:=j5 h (hb c hc).2
  refine⟨by simp only;omega,by simp only;omega,by simp only;omega,c,hc,rfl⟩
theorem nq (L:Nat->Nat) (bs:List PB):(dt L bs).length<=bs.length/\(e8 L bs).length<=bs.length:=⟨List.length_filterMap_le ..,List.length_filterMap_le ..⟩
theorem jN (n:Nat) (L:Nat->Nat):(leads n L).length<=n:=by
 have:=List.length_filter_le (fun i=>L i==i) (List.range n)
 simpa[leads]using this
def aE (t:Int) (bs:List PB):List PB:=bs.filter fun b=>decide (t<=b.s)
def oZ (n:Nat) (bs:List PB) (t:Int):Prop:=
 (leads n (ei (aE t bs))).length<=64/\kI (leads n (ei (aE t bs))).length (dt (ei (aE t bs)) bs) t
theorem DH {n:Nat} {L:Nat->Nat} {bs:List PB} {t:Int}:kI n (e8 L bs) t↔kI n (dt L bs) t:=by
 unfold kI
 constructor<;>intro h S h0 hy<;>have:=h S h0 hy<;>rw[xZ]at *<;>exact this
end Go.Proofs.YtgoelphibofcmaaGreat.V
