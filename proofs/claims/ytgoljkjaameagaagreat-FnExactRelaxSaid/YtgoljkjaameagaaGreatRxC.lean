/- Slices that grow: nil, or a row of one's own. -/
import Derived.Test.YtgoljkjaameagaaGreatRxB
import Derived.Test.YtgoljkjaameagaaGreatChecked
set_option linter.unusedVariables false
set_option linter.unusedSimpArgs false
set_option maxRecDepth 100000
set_option maxHeartbeats 16000000
namespace Go.Proofs.YtgoljkjaameagaaGreat.V
open Go.RowKit
def isApp:gh->Bool
 | .append .. =>true
 |_=>false
variable {P:Program} {X:fy} {K:Env->ar->Prop} {env:Env} {σ:ar}
theorem L8 {draw:Bool} {o:bz} {r:List bz} (_:isApp o.op=false) (h:∀N:AV->ar->Prop,(∀v s,wpOps X draw r K (upd env o.dst v) s->N v s)->if az o.guard env then eQ X draw o env σ N else N .undef σ):wpOps X draw (o::r) K env σ:=Oc h
end Go.Proofs.YtgoljkjaameagaaGreat.V

namespace Go.Proofs.YtgoljkjaameagaaGreat.V
open Go.RowKit
section
variable {α:Type} {enc:α->List AV} {sz:Nat} {g g':Rows} {a:AV} {xs:List α} {ids:List Id}
end
abbrev Bv (α:Type):=Rows->List AV->α->List Id->Prop
structure vI {α:Type} (R:Bv α) (sz:Nat):Prop where
 frame:∀{g g':Rows} {cs x ids},R g cs x ids->(∀i∈ids,g' i=g i)->R g' cs x ids
 len:∀{g cs x ids},R g cs x ids->cs.length=sz
 cell:∀{g cs x ids},R g cs x ids->cs.all AV.cell=true
 live:∀{g cs x ids},R g cs x ids->∀i∈ids,∃r,g i=some r/\r.w=true/\r.sz<s6
 small:sz<s6
inductive ev {α:Type} (R:Bv α) (g:Rows):List (List AV)->List α->List Id->Prop
 |nil:ev R g [] [] []
 |cons {cs x i1 rs xs i2}:R g cs x i1->ev R g rs xs i2->ev R g (cs::rs) (x::xs) (i1++i2)
section
variable {α:Type} {R:Bv α} {sz:Nat} {g g':Rows} {rows r1 r2:List (List AV)} {xs x1 x2:List α} {ids i1 i2:List Id}
theorem ev.len (h:ev R g rows xs ids):rows.length=xs.length:=by
 induction h with
 |nil=>rfl
 |cons _ _ ih=>simp[ih]
theorem ev.frame (ok:vI R sz) (h:ev R g rows xs ids) (hf:∀i∈ids,g' i=g i):ev R g' rows xs ids:=by
 induction h with
 |nil=>exact .nil
 |cons h1 _ ih=>exact .cons (ok.frame h1 fun i hi=>hf i (List.mem_append_left _ hi)) (ih fun i hi=>hf i (List.mem_append_right _ hi))
theorem ev.app (h1:ev R g r1 x1 i1) (h2:ev R g r2 x2 i2):ev R g (r1++r2) (x1++x2) (i1++i2):=by
 induction h1 with
 |nil=>exact h2
 |cons h _ ih=>rw[List.append_assoc];exact .cons h ih
theorem ev.one {cs:List AV} {x:α} (h:R g cs x ids):ev R g [cs] [x] ids:=by
 have:=ev.cons h ev.nil
 rwa [List.append_nil]at this
theorem ev.split (h:ev R g rows xs ids):∀k (hk:k<xs.length),∃r1 cs r2 i1 ic i2,rows=r1++cs::r2/\r1.length=k/\ids=i1++(ic++i2)/\ev R g r1 (xs.take k) i1/\R g cs xs[k] ic/\ev R g r2 (xs.drop (k+1)) i2:=by
 induction h with
 |nil=>intro k hk;simp at hk
 |cons h1 h2 ih=>
  rename_i cs x j1 rs xs j2
  intro k hk
  cases k with
  |zero=>exact⟨[],cs,rs,[],j1,j2,rfl,rfl,rfl,.nil,h1,h2⟩
  |succ k=>
   obtain⟨r1,o5,r2,i1,ic,i2,rfl,hl,rfl,h3,h4,h5⟩:=ih k (by simpa using hk)
   exact⟨cs::r1,o5,r2,j1++i1,ic,i2,rfl,by simp[hl],by rw[List.append_assoc],.cons h1 h3,h4,h5⟩
theorem ev.at_ (h:ev R g rows xs ids) (k:Nat) (hk:k<xs.length):∃cs ic,rows[k]? =some cs/\R g cs xs[k] ic/\∀i∈ic,i∈ids:=by
 obtain⟨r1,cs,r2,i1,ic,i2,rfl,hl,rfl,h3,h4,h5⟩:=h.split k hk
 refine⟨cs,ic,by rw[List.getElem?_append_right (by omega)];simp[hl],h4,fun i hi=>by simp[hi]⟩
theorem ev.fz {n:Nat} {e:α->List AV} (h:ev R g rows xs ids) (hz:∀{cs x ids},R g cs x ids->cI (dd g) n cs=some (e x)):dQ (dd g) n rows=some (xs.map e):=by
 induction h with
 |nil=>rw[dQ];rfl
 |cons h1 _ ih=>rw[dQ,hz h1,ih];rfl
end
section
variable {α:Type} {R:Bv α} {sz:Nat} {g g':Rows} {a:AV} {xs:List α} {ids:List Id}
end
variable {P:Program} {X:fy} {K:Env->ar->Prop} {env:Env} {σ:ar}
def lZ {α:Type} (enc:α->List AV) (sz:Nat) (x:AV) (g:Rows) (S:Id->Prop) (L:List α):Prop:=∃o:Id,S o/\x=.own o 0 L.length/\g o=some ⟨true,sz,L.map enc⟩
section
variable {α:Type} {enc:α->List AV} {sz:Nat} {x:AV} {g g':Rows} {S:Id->Prop} {L L':List α}
theorem lZ.cast (h:lZ enc sz x g S L) (hL:L'=L):lZ enc sz x g S L':=by subst hL;exact h
theorem lZ.frame (h:lZ enc sz x g S L) (hg:∀o:Id,S o->g' o=g o):lZ enc sz x g' S L:=by
 obtain⟨o,h1,h2,h3⟩:=h
 exact⟨o,h1,h2,(hg o h1).trans h3⟩
theorem lZ.app (hz:∀a,(enc a).length=sz/\(enc a).all AV.cell=true) (h:lZ enc sz x g S L) (id:Id) (hid:S id) (M:List α) (hlen:L.length+M.length<=cY):
  ∃v g',aH g id sz x (M.map enc)=some (v,g')/\lZ enc sz v g' S (L++M)/\∀j:Id,¬S j->g' j=g j:=by
 obtain⟨o,h1,rfl,h4⟩:=h
 refine⟨.own id 0 (L.length+(M.map enc).length),bH (bG g o) id ⟨true,sz,L.map enc++M.map enc⟩,?_,⟨id,hid,by simp,by simp[bH]⟩,fun j hj=>?_⟩
 ·have ha:=all_map (l:=M) hz
  simp only[aH,h4,Option.bind_some]
  rw[if_pos ⟨trivial,trivial,by simp,by simpa using hlen,ha⟩]
 ·have e1:¬j=id:=fun h=>hj (h▸hid)
  have e2:¬j=o:=fun h=>hj (h▸h1)
  simp[bH,bG,e1,e2]
theorem Oa {draw:Bool} {o:bz} {r:List bz} {x' y:O} {xv:AV} (M:List α) (ho:o.op=.append sz x' y) (hw:az o.guard env=true) (hx:cJ env x'=xv) (hO:lZ enc sz xv σ.get S L)
  (hy:bd σ.get (cJ env y)=some (M.map enc)) (hz:∀a,(enc a).length=sz/\(enc a).all AV.cell=true) (hid:S ⟨o.site,σ.next⟩) (hlen:L.length+M.length<=cY)
  (next:∀v g',lZ enc sz v g' S (L++M)->(∀j:Id,¬S j->g' j=σ.get j)->wpOps X draw r K (upd env o.dst v) ⟨g',σ.next⟩):wpOps X draw (o::r) K env σ:=by
 obtain⟨v,g',h1,h2,h3⟩:=hO.app hz ⟨o.site,σ.next⟩ hid M hlen
 unfold wpOps
 rw[if_pos hw]
 unfold eQ
 simp only[ho,eY,hy,hx,Option.bind_some,h1]
 exact next v g' h2 h3
theorem lZ.ga {n:Nat} (h:lZ enc sz x g S L) (he:∀a,dR g n (enc a)=some (enc a)):ga g (n+1) x=some (.sl (L.map enc)):=by
 obtain⟨o,_,rfl,h3⟩:=h
 exact eS h3 rfl he
end
theorem du {a b:Id} (h:a.bW<b.bW):(a=b)=False/\(b=a)=False:=by
 constructor<;>(simp only[eq_iff_iff,iff_false];rintro rfl;omega)
theorem za {o:Id} {a:Nat} (h:o.site=a) {b v:Nat} (qk:(a==b)=false):(o=⟨b,v⟩)=False:=by
 simp only[eq_iff_iff,iff_false]
 rintro rfl
 simp only at h
 subst h
 simp at qk
def eN (n:Nat):List AV:=[.int .i64 n]
theorem fzN (g:Rows) (n:Nat) (a:Nat):cI g (n+1) (eN a)=some (eN a):=by simp[eN,ae,ai,ay]
theorem MI (g:Rows) (n:Nat) (a:Nat):dR g (n+1) (eN a)=some (eN a):=by simp[eN,bC,cG,ek]
def Oz:Bv (List Nat):=fun g cs x ids=>∃id,cs=[.own id 0 x.length]/\g id=some ⟨true,1,x.map eN⟩/\ids=[id]
theorem NM:vI Oz 1 where
 frame:=fun⟨id,h1,h2,h3⟩ hf=>by subst h3;exact⟨id,h1,(hf id (by simp)).trans h2,rfl⟩
 len:=fun⟨id,h1,_⟩=>by subst h1;rfl
 cell:=fun⟨id,h1,_⟩=>by subst h1;rfl
 live:=fun⟨id,h1,h2,h3⟩ i hi=>by
  subst h3
  have:i=id:=by simpa using hi
  subst this
  exact⟨_,h2,rfl,by simp[s6]⟩
 small:=by simp[s6]
def zr (l:List Nat):List AV:=[.sl (l.map eN)]
theorem H9 {g:Rows} {rows:List (List AV)} {xs:List (List Nat)} {ids:List Id} (n:Nat) (h:ev Oz g rows xs ids):gJ g (n+2) rows=some (xs.map zr):=by
 induction h with
 |nil=>rw[gJ];rfl
 |cons h1 _ ih=>
  obtain⟨id,rfl,h2,_⟩:=h1
  rw[gJ,ih,bC,cG,eS (e:=eN) (sz:=1) h2 rfl fun a=>MI g n a];rfl
end Go.Proofs.YtgoljkjaameagaaGreat.V

namespace Go.Proofs.YtgoljkjaameagaaGreat.V
open Go.RowKit
attribute [local irreducible] dL wpOps fu Call
attribute [local go_sem] az eQ ec eY eW cJ upd bJ K.av b4 AV.cells AV.cell rowOf rowsOf part ld rowAt bH bG cX dr fR bo cE dD e6 eF cQ dx cC cz db dc br aJ ck bq cq cm dv dy dw cj bx cD dt bp aA cu bQ fQ bd bY bt aH cW aX cY AV.undef bj bl de dn da dj bV dC dE bK dB dz cr cw List.getD_cons_zero List.getD_cons_succ List.getD_nil List.all_cons List.all_nil Bool.and_true Bool.true_and Bool.and_self Bool.not_true Bool.not_false Option.map_some Option.map_none Option.bind_some Option.bind_none List.length_cons List.length_nil List.take_succ_cons List.take_zero List.take_nil List.drop_succ_cons List.drop_zero List.drop_nil List.head?_cons List.map_cons List.map_nil List.getElem?_cons_zero List.getElem?_cons_succ List.cons_append List.nil_append List.append_nil List.length_map List.set_cons_zero List.set_cons_succ Nat.reduceMul eq_self Int.toNat_natCast Int.natCast_nonneg and_self true_and and_true decide_true decide_false Bool.false_eq_true Nat.zero_add Nat.add_zero List.contains_cons List.contains_nil Bool.or_false Bool.false_or beq_self_eq_true Nat.reduceBEq ne_eq not_true_eq_false not_false_eq_true Id.mk.injEq false_and and_false Nat.reduceLT Int.reduceLE Int.reduceLT Int.reduceToNat Int.reduceNeg Int.reduceAdd Nat.le_refl List.length_append beq_true beq_false Bool.not_eq_eq_eq_not or_false false_or dd ae ai ay bh bD aG aM aD aL bZ bm
variable {P:Program}
def Jy {α:Type} (R:Bv α) (x:α) (σ:ar) (r:AV) (σ':ar):Prop:=∃cs ids,r=.agg cs/\R σ'.get cs x ids/\eE σ.next σ'.next ids/\Kept σ σ'
def hZ {α:Type} (R:Bv α) (z:Nat) (g:Rows) (a:AV) (xs:List α) (ids:List Id):Prop:=∃o rows is,a=.own o 0 xs.length/\g o=some ⟨true,z,rows⟩/\ev R g rows xs is/\ids=o::is
def Jz {α:Type} (R:Bv α) (z:Nat) (xs:List α) (σ:ar) (r:AV) (σ':ar):Prop:=∃ids,hZ R z σ'.get r xs ids/\eE σ.next σ'.next ids/\Kept σ σ'
theorem hZ.frame {α:Type} {R:Bv α} {z:Nat} {g g':Rows} {a:AV} {xs:List α} {ids:List Id} (ok:vI R z) (h:hZ R z g a xs ids) (hf:∀i∈ids,g' i=g i):hZ R z g' a xs ids:=by
 obtain⟨o,rows,is,h1,h2,h3,rfl⟩:=h
 exact⟨o,rows,is,h1,(hf o (by simp)).trans h2,h3.frame ok fun i hi=>hf i (by simp[hi]),rfl⟩
theorem hZ.fz {α:Type} {R:Bv α} {z n:Nat} {e:α->List AV} {g:Rows} {a:AV} {xs:List α} {ids:List Id} (h:hZ R z g a xs ids) (hz:∀{cs x ids},R g cs x ids->cI (dd g) n cs=some (e x)):V.fz (dd g) (n+1) a=some (.sl (xs.map e)):=by
 obtain⟨o,rows,is,rfl,h2,h3,rfl⟩:=h
 rw[gi]
 simp only[dd,h2,Option.map_some,if_true]
 rw[if_pos (by rw[h3.len];omega),List.drop_zero,List.take_of_length_le (by rw[h3.len];exact Nat.le_refl _),h3.fz hz];rfl
def kR {α:Type} (e:α->List AV):Bv α:=fun _ cs x ids=>cs=e x/\ids=[]
theorem Hm {α:Type} {e:α->List AV} {z:Nat} (hz:∀x,(e x).length=z) (hc:∀x,(e x).all AV.cell=true) (hs:z<s6):vI (kR e) z where
 frame:=fun h _=>h
 len:=fun h=>by rw[h.1];exact hz _
 cell:=fun h=>by rw[h.1];exact hc _
 live:=fun h i hi=>by rw[h.2]at hi;cases hi
 small:=hs
def ny:Bv eI:=fun g cs t ids=>∃i,cs=[.str t.aC,.own i 0 t.bB.length]/\g i=some ⟨true,1,t.bB.map aT⟩/\ids=[i]
theorem pR:vI ny 2 where
 frame:=fun⟨i,h1,h2,h3⟩ hf=>⟨i,h1,(hf i (by rw[h3];simp)).trans h2,h3⟩
 len:=fun⟨i,h1,_⟩=>by rw[h1];rfl
 cell:=fun⟨i,h1,_⟩=>by rw[h1];rfl
 live:=fun⟨i,h1,h2,h3⟩ j hj=>by
  rw[h3]at hj
  have:j=i:=by simpa using hj
  subst this
  exact⟨_,h2,rfl,by simp[s6]⟩
 small:=by simp[s6]
theorem K7 {g:Rows} {cs:List AV} {t:eI} {ids:List Id} (n:Nat) (h:ny g cs t ids):cI (dd g) (n+2) cs=some (bI t):=by
 obtain⟨i,rfl,h2,_⟩:=h
 have h3:V.fz (dd g) (n+2) (.own i 0 t.bB.length)=some (.sl (t.bB.map aT)):=gx (e:=aT) (sz:=1) (by simp[dd,h2]) rfl fun x=>by simp[aT,ae,ai,ay]
 simp only[ae,ai,bh,h3,Option.map_some,bI]
theorem K0 {α:Type} {a b:List α} {x y:α} {k:Nat} (hk:a.length=k):(a++x::b).set k y=a++[y]++b:=by subst hk;simp
theorem zj {α:Type} {R:Bv α} {en:α->List AV} {z fk gk:Nat} {zero:List K} (ok:vI R z) (hc:lx P fk=some (sM fk gk z zero)) (GF:zero.length=z) (hz:∀x,(en x).length=z) (xs:List α) (hlen:xs.length<=1048576)
  (hg:∀x∈xs,∀σ,Call P gk [.agg (en x)] σ (Jy R x σ)) (σ:ar):Call P fk [.sl (xs.map en)] σ (Jz R z xs σ):=by
 refine eO hc rfl fun hl=>?_
 try simp only[q]
 clear hl
 have hm:(xs.length:Int)<=((16777216:Nat):Int):=by omega
 have h0:(0:Int)<=(xs.length:Int):=by omega
 (try((repeat(revert hN;revert N;apply Pn.out));refine wk (tw @hm (tw @h0 (tw @Int.le_refl @GF))) ?_;(repeat(refine Pn.mk ?_;intro N hN))))
 refine aY (fun n env st=>∃k:Nat,n=(xs.length)-k/\k<=(xs.length)/\env 4=.int .i64 (k:Int)/\(σ.next+2<=st.next/\(∀y:Id,y.bW<σ.next->st.get y=σ.get y)/\∃rows is,st.get ⟨fk*1000000+1002,σ.next+1⟩=some ⟨true,z,rows++List.replicate (xs.length-k) (zero.map K.av)⟩/\ev R st.get rows (xs.take k) is/\eE (σ.next+2) st.next is)) (xs.length) ⟨0,by omega,by omega,sl @Nat.zero_add,by(try dsimp only);exact⟨by omega,fun y hy=>by
  have h1:=ef hy
  simp only[go_sem, ↓reduceIte,Nat.reduceEqDiff,Nat.reduceAdd,Nat.reduceSub,Nat.reduceLeDiff,reduceCtorEq,h1],[],[],sl @Nat.zero_add,.nil,List.nodup_nil,fun i hi=>by cases hi⟩⟩ ?_
 rintro n_a env_a st_a ⟨k,rfl,ale,a4,mJ⟩ dU
 have a0:=dU 0 (by kernel_rfl);have a3:=dU 3 (by kernel_rfl)
 simp only[go_sem, ↓reduceIte,Nat.reduceEqDiff,Nat.reduceAdd,Nat.reduceSub,Nat.reduceLeDiff,reduceCtorEq]at a0 a3
 clear dU
 obtain⟨an,aK,rows,is,ag,aR,aN⟩:=mJ
 have mb:rows.length=k:=by rw[aR.len,List.length_take];omega
 by_cases hk:(k:Int)<(xs.length:Int)
 ·have cK:∀{e:Env} {gg:Rows} {nx:Nat},(e 4=.int .i64 (IntKind.i64.wrap ((k:Int)+1)))->(σ.next+2<=nx/\(∀y:Id,y.bW<σ.next->gg y=σ.get y)/\∃rows is,gg ⟨fk*1000000+1002,σ.next+1⟩=some ⟨true,z,rows++List.replicate (xs.length-(k+1)) (zero.map K.av)⟩/\ev R gg rows (xs.take (k+1)) is/\eE (σ.next+2) nx is)->∃m0,m0<(xs.length)-k/\∃k:Nat,m0=(xs.length)-k/\k<=(xs.length)/\e 4=.int .i64 (k:Int)/\(σ.next+2<=nx/\(∀y:Id,y.bW<σ.next->gg y=σ.get y)/\∃rows is,gg ⟨fk*1000000+1002,σ.next+1⟩=some ⟨true,z,rows++List.replicate (xs.length-k) (zero.map K.av)⟩/\ev R gg rows (xs.take k) is/\eE (σ.next+2) nx is):=fun x1 x2=>⟨_,by omega,k+1,rfl,by omega,(by rw[x1,ax (by omega)]),x2⟩
  have eU:k<xs.length:=by omega
  have ea:(xs.map en)[k]? =some (en xs[k]):=by simp[eU]
  have sD:=hz xs[k]
  have ht:(en xs[k]).take z=en xs[k]:=by rw[<-sD,List.take_length]
  have gQ:=hg _ (List.getElem_mem eU)
  obtain⟨m,LH⟩:∃m,xs.length-k=m+1:=⟨xs.length-k-1,by omega⟩
  rw[LH,List.replicate_succ]at ag
  generalize hex:en xs[k]=c at gQ ea sD ht
  (try((repeat(revert hN;revert N;apply Pn.out));refine wk (tw @a4 (tw @a0 (tw @a3 (tw @hk (tw @ea (tw @sD (tw @ht @Nat.le_refl))))))) ?_;(repeat(refine Pn.mk ?_;intro N hN))))
  refine .inr (aE _ _ _ _ _ (fun r σ1 hq=>?_) (gQ _))
  obtain⟨cs,ids,rfl,hR,hI,hK⟩:=hq
  obtain⟨g1,x1⟩:=σ1
  (try dsimp only at hR hI hK)
  have qU:=(hK.2 ⟨fk*1000000+1002,σ.next+1⟩ (by(try dsimp only);omega))
  simp only[go_sem, ↓reduceIte,Nat.reduceEqDiff,Nat.reduceAdd,Nat.reduceSub,Nat.reduceLeDiff,reduceCtorEq,ag]at qU
  have lI:=ok.len hR
  have yn:=ok.cell hR
  have eT:(rows++zero.map K.av::List.replicate m (zero.map K.av))[k]? =some (zero.map K.av):=by rw[List.getElem?_append_right (by omega),mb,Nat.sub_self];rfl
  have eo:(rows++zero.map K.av::List.replicate m (zero.map K.av)).set k cs=rows++[cs]++List.replicate m (zero.map K.av):=K0 mb
  have Hy:(zero.map K.av).drop z=[]:=List.drop_of_length_le (by simp[GF])
  have Al:(rows++zero.map K.av::List.replicate m (zero.map K.av)).length=xs.length:=by simp[mb];omega
  refine hN _ _ ?_
  clear hN N
  (try((repeat(revert hN;revert N;apply Pn.out));refine wk (tw @a4 (tw @a0 (tw @a3 (tw @hk (tw @qU (tw @eT (tw @eo (tw @Al (tw @Hy (tw @tT (tw @lI (tw @yn (tw @Nat.le_refl @GF))))))))))))) ?_;(repeat(refine Pn.mk ?_;intro N hN))))
  have rK:=hK.1
  have Gy:∀i∈is,(i=⟨fk*1000000+1002,σ.next+1⟩)=False:=fun i hi=>eq_false fun e=>by
   have:=(aN.2 i hi).1
   subst e;(try dsimp only at this);omega
  have Gz:∀i∈ids,(i=⟨fk*1000000+1002,σ.next+1⟩)=False:=fun i hi=>eq_false fun e=>by
   have:=(hI.2 i hi).1
   subst e;(try dsimp only at this);omega
  exact cK (sd (tw @a4 (tw @a0 @a3))) (by(try dsimp only at *);exact⟨by omega,fun y hy=>by
   have h1:=ef hy
   have h2:=hK.2 y (by(try dsimp only);omega)
   have h3:=aK y hy
   simp only[go_sem, ↓reduceIte,Nat.reduceEqDiff,Nat.reduceAdd,Nat.reduceSub,Nat.reduceLeDiff,reduceCtorEq]at h2
   simp only[go_sem, ↓reduceIte,Nat.reduceEqDiff,Nat.reduceAdd,Nat.reduceSub,Nat.reduceLeDiff,reduceCtorEq,h1,h2,h3],rows++[cs],is++ids,by
    rw[show xs.length-(k+1)=m by omega]
    simp only[go_sem, ↓reduceIte,Nat.reduceEqDiff,Nat.reduceAdd,Nat.reduceSub,Nat.reduceLeDiff,reduceCtorEq]<;>rfl,by
    rw[List.take_succ_eq_append_getElem eU]
    refine((aR.frame ok fun i hi=>?_).app (.one (ok.frame hR fun i hi=>?_)))
    ·have h1:=Gy i hi
     have h2:=hK.2 i (by(try dsimp only);have:=(aN.2 i hi).2;omega)
     simp only[go_sem, ↓reduceIte,Nat.reduceEqDiff,Nat.reduceAdd,Nat.reduceSub,Nat.reduceLeDiff,reduceCtorEq]at h2
     simp only[go_sem, ↓reduceIte,Nat.reduceEqDiff,Nat.reduceAdd,Nat.reduceSub,Nat.reduceLeDiff,reduceCtorEq,h1,h2]
    ·have h1:=Gz i hi
     simp only[go_sem, ↓reduceIte,Nat.reduceEqDiff,Nat.reduceAdd,Nat.reduceSub,Nat.reduceLeDiff,reduceCtorEq,h1],(aN.app hI (by(try dsimp only);omega) (by omega) (by(try dsimp only);omega)).wide (Nat.le_refl _) (by(try dsimp only);omega)⟩)
 ·(try((repeat(revert hN;revert N;apply Pn.out));refine wk (tw @a4 (tw @a0 (tw @a3 @hk))) ?_;(repeat(refine Pn.mk ?_;intro N hN))))
  have eU:k=xs.length:=by omega
  subst eU
  rw[Nat.sub_self,List.replicate_zero,List.append_nil]at ag
  rw[List.take_length]at aR
  refine fI (.inl rfl) (vs:=[.own ⟨fk*1000000+1002,σ.next+1⟩ 0 xs.length]) (sd (tw @a4 (tw @a0 @a3))) ?_
  exact⟨_,⟨_,rows,is,rfl,ag,aR,rfl⟩,⟨List.nodup_cons.2 ⟨fun hi=>by have:=(aN.2 _ hi).1;(try dsimp only at this);omega,aN.1⟩,fun i hi=>by
   rcases List.mem_cons.1 hi with rfl|hi
   ·(try dsimp only);omega
   ·have:=aN.2 i hi;(try dsimp only);omega⟩,⟨by(try dsimp only);omega,fun j hj=>aK j hj⟩⟩
end Go.Proofs.YtgoljkjaameagaaGreat.V

namespace Go.Proofs.YtgoljkjaameagaaGreat.V
open Go.RowKit
attribute [local irreducible] dL wpOps fu Call
attribute [local go_sem] az eQ ec eY eW cJ upd bJ K.av b4 AV.cells AV.cell rowOf rowsOf part ld rowAt bH bG cX dr fR bo cE dD e6 eF cQ dx cC cz db dc br aJ ck bq cq cm dv dy dw cj bx cD dt bp aA cu bQ fQ bd bY bt aH cW aX cY AV.undef bj bl de dn da dj bV dC dE bK dB dz cr cw List.getD_cons_zero List.getD_cons_succ List.getD_nil List.all_cons List.all_nil Bool.and_true Bool.true_and Bool.and_self Bool.not_true Bool.not_false Option.map_some Option.map_none Option.bind_some Option.bind_none List.length_cons List.length_nil List.take_succ_cons List.take_zero List.take_nil List.drop_succ_cons List.drop_zero List.drop_nil List.head?_cons List.map_cons List.map_nil List.getElem?_cons_zero List.getElem?_cons_succ List.cons_append List.nil_append List.append_nil List.length_map List.set_cons_zero List.set_cons_succ Nat.reduceMul eq_self Int.toNat_natCast Int.natCast_nonneg and_self true_and and_true decide_true decide_false Bool.false_eq_true Nat.zero_add Nat.add_zero List.contains_cons List.contains_nil Bool.or_false Bool.false_or beq_self_eq_true Nat.reduceBEq ne_eq not_true_eq_false not_false_eq_true Id.mk.injEq false_and and_false Nat.reduceLT Int.reduceLE Int.reduceLT Int.reduceToNat Int.reduceNeg Int.reduceAdd Nat.le_refl List.length_append beq_true beq_false Bool.not_eq_eq_eq_not or_false false_or dd ae ai ay bh bD aG aM aD aL bZ bm
theorem hZ.kj {α:Type} {R:Bv α} {z:Nat} {g:Rows} {a:AV} {xs:List α} {ids:List Id} (h:hZ R z g a xs ids):∃o,a=.own o 0 xs.length:=by
 obtain⟨o,rows,is,rfl,_⟩:=h;exact⟨o,rfl⟩
theorem IW (xs:List Int) (hlen:xs.length<=1048576) (σ:ar):Call Tryz.prog 17 [.sl (xs.map aT)] σ (fun r σ'=>∃i,r=.own i 0 xs.length/\σ'.get i=some ⟨true,1,xs.map aT⟩/\eE σ.next σ'.next [i]/\Kept σ σ'):=by
 refine eO (show lx Tryz.prog 17=some (IY 17 (.int .i64 0)) by kernel_rfl) rfl fun hl=>?_
 try simp only[q]
 clear hl
 obtain⟨en,Jh⟩:∃en:Int->List AV,en=aT:=⟨_,rfl⟩
 rw[<-Jh]
 have hm:(xs.length:Int)<=((16777216:Nat):Int):=by omega
 have h0:(0:Int)<=(xs.length:Int):=by omega
 (try((repeat(revert hN;revert N;apply Pn.out));refine wk (tw @hm (tw @h0 (tw @Int.le_refl (nE en [AV.int .i64 0] xs)))) ?_;(repeat(refine Pn.mk ?_;intro N hN))))
 refine aY (fun n env st=>∃k:Nat,n=(xs.length)-k/\k<=(xs.length)/\env 4=.int .i64 (k:Int)/\st.get ⟨17*1000000+1002,σ.next+1⟩=some ⟨true,1,gw en [AV.int .i64 0] xs k⟩/\(σ.next+2<=st.next/\∀y:Id,y.bW<σ.next->st.get y=σ.get y)) (xs.length) ⟨0,by omega,by omega,sl @Nat.zero_add,sl @Nat.zero_add,by(try dsimp only);exact⟨by omega,fun y hy=>by
  have h1:=ef hy
  simp only[go_sem, ↓reduceIte,Nat.reduceEqDiff,Nat.reduceAdd,Nat.reduceSub,Nat.reduceLeDiff,reduceCtorEq,h1]⟩⟩ ?_
 rintro n_a env_a st_a ⟨k,rfl,ale,a4,ag0,mJ⟩ dU
 have a0:=dU 0 (by kernel_rfl);have a3:=dU 3 (by kernel_rfl)
 simp only[go_sem, ↓reduceIte,Nat.reduceEqDiff,Nat.reduceAdd,Nat.reduceSub,Nat.reduceLeDiff,reduceCtorEq]at a0 a3
 clear dU
 obtain⟨an,aK⟩:=mJ
 by_cases hk:(k:Int)<(xs.length:Int)
 ·have cK:∀{e:Env} {gg:Rows} {nx:Nat},(e 4=.int .i64 (IntKind.i64.wrap ((k:Int)+1)))->(gg ⟨17*1000000+1002,σ.next+1⟩=some ⟨true,1,gw en [AV.int .i64 0] xs (k+1)⟩)->(σ.next+2<=nx/\∀y:Id,y.bW<σ.next->gg y=σ.get y)->∃m0,m0<(xs.length)-k/\∃k:Nat,m0=(xs.length)-k/\k<=(xs.length)/\e 4=.int .i64 (k:Int)/\gg ⟨17*1000000+1002,σ.next+1⟩=some ⟨true,1,gw en [AV.int .i64 0] xs k⟩/\(σ.next+2<=nx/\∀y:Id,y.bW<σ.next->gg y=σ.get y):=fun x1 x2 x3=>⟨_,by omega,k+1,rfl,by omega,(by rw[x1,ax (by omega)]),x2,x3⟩
  have eU:k<xs.length:=by omega
  have ea:(xs.map en)[k]? =some [AV.int .i64 xs[k]]:=by simp[eU,Jh,aT]
  have fV:=pq en [AV.int .i64 0] xs eU
  have eo:=pr en [AV.int .i64 0] xs eU
  rw[show en xs[k]=[AV.int .i64 xs[k]] by rw[Jh];rfl]at eo
  (try((repeat(revert hN;revert N;apply Pn.out));refine wk (tw @a4 (tw @ag0 (tw @a0 (tw @a3 (tw @hk (tw @ea (tw @fV @eo))))))) ?_;(repeat(refine Pn.mk ?_;intro N hN))))
  refine cK ?_ ?_ (by(try dsimp only);exact⟨by omega,fun y hy=>by
   have h1:=ef hy
   have h3:=aK y hy
   simp only[go_sem, ↓reduceIte,Nat.reduceEqDiff,Nat.reduceAdd,Nat.reduceSub,Nat.reduceLeDiff,reduceCtorEq,h1,h3]⟩)
  all_goals simp only[go_sem, ↓reduceIte,Nat.reduceEqDiff,Nat.reduceAdd,Nat.reduceSub,Nat.reduceLeDiff,reduceCtorEq,a4,ag0,a0,a3]
 ·(try((repeat(revert hN;revert N;apply Pn.out));refine wk (tw @a4 (tw @ag0 (tw @a0 (tw @a3 @hk)))) ?_;(repeat(refine Pn.mk ?_;intro N hN))))
  have eU:k=xs.length:=by omega
  subst eU
  refine fI (.inl rfl) (vs:=[.own ⟨17*1000000+1002,σ.next+1⟩ 0 xs.length]) (sd (tw @a4 (tw @ag0 (tw @a0 @a3)))) ?_
  rw[po]at ag0
  exact⟨_,rfl,ag0,⟨List.nodup_cons.2 ⟨by simp,List.nodup_nil⟩,fun i hi=>by
   rw[List.mem_singleton.1 hi];(try dsimp only);omega⟩,⟨by(try dsimp only);omega,fun j hj=>aK j hj⟩⟩
theorem IZ (p:eI) (hs:q9 p) (σ:ar):Call Tryz.prog 198 [.agg (bI p)] σ (Jy ny p σ):=by
 refine eO eb rfl fun hl=>?_
 clear hl
 (try((repeat(revert hN;revert N;apply Pn.out));refine wk @bI.eq_1 ?_;(repeat(refine Pn.mk ?_;intro N hN))))
 refine .inr (aE _ _ _ _ _ (fun r σ1 hq=>?_) (IW p.bB hs _))
 obtain⟨i,rfl,hg,hI,hK⟩:=hq
 obtain⟨g1,x1⟩:=σ1
 (try dsimp only at hg hI hK)
 have hn:=hK.1
 refine hN _ _ ?_
 clear hN N
 have hi:=hI.2 i (by simp)
 have k2:=hK.2 ⟨198000001,σ.next⟩ (by(try dsimp only);omega)
 have k3:=hK.2 ⟨198001000,σ.next+1⟩ (by(try dsimp only);omega)
 simp only[go_sem, ↓reduceIte,Nat.reduceEqDiff,Nat.reduceAdd,Nat.reduceSub,Nat.reduceLeDiff,reduceCtorEq]at k2 k3
 (try((repeat(revert hN;revert N;apply Pn.out));refine wk (tw @bI.eq_1 (tw @k2 @k3)) ?_;(repeat(refine Pn.mk ?_;intro N hN))))
 refine fI (.inl rfl) (vs:=[.agg [.str p.aC,.own i 0 p.bB.length]]) (sd @Nat.zero_add) ?_
 refine⟨_,[i],rfl,⟨i,rfl,?_,rfl⟩,⟨hI.1,fun j hj=>?_⟩,⟨?_,fun j hj=>?_⟩⟩
 ·have i2:=du (b:=i) (a:=⟨198000001,σ.next⟩) (by(try dsimp only at *);omega)
  have i3:=du (b:=i) (a:=⟨198001000,σ.next+1⟩) (by(try dsimp only at *);omega)
  simp only[go_sem, ↓reduceIte,Nat.reduceEqDiff,Nat.reduceAdd,Nat.reduceSub,Nat.reduceLeDiff,reduceCtorEq,i2,i3,hg]
 ·rw[List.mem_singleton.1 hj]
  (try dsimp only at *);omega
 ·(try dsimp only at *);omega
 ·have h2:=hK.2 j (by(try dsimp only);omega)
  have h1:=ef hj
  simp only[go_sem, ↓reduceIte,Nat.reduceEqDiff,Nat.reduceAdd,Nat.reduceSub,Nat.reduceLeDiff,reduceCtorEq,h1]at h2
  simp only[go_sem, ↓reduceIte,Nat.reduceEqDiff,Nat.reduceAdd,Nat.reduceSub,Nat.reduceLeDiff,reduceCtorEq,h1,h2]
theorem z7:vI (kR bU) 2:=Hm (fun _=>rfl) (fun _=>rfl) (by simp[s6])
theorem wV:vI (kR aa) 3:=Hm (fun _=>rfl) (fun _=>rfl) (by simp[s6])
theorem IU (p:fj) (σ:ar):Call Tryz.prog 197 [.agg (bU p)] σ (Jy (kR bU) p σ):=by
 refine eO eb rfl fun hl=>?_
 clear hl
 (try((repeat(revert hN;revert N;apply Pn.out));refine wk @bU.eq_1 ?_;(repeat(refine Pn.mk ?_;intro N hN))))
 refine fI (.inl rfl) (vs:=[.agg (bU p)]) (sd @bU.eq_1) ?_
 exact⟨_,[],rfl,⟨rfl,rfl⟩,⟨List.nodup_nil,fun i hi=>by cases hi⟩,⟨by(try dsimp only);omega,fun j hj=>by
  have h1:=ef hj
  simp only[go_sem, ↓reduceIte,Nat.reduceEqDiff,Nat.reduceAdd,Nat.reduceSub,Nat.reduceLeDiff,reduceCtorEq,h1]⟩⟩
theorem Du (p:ad) (σ:ar):Call Tryz.prog 149 [.agg (aa p)] σ (Jy (kR aa) p σ):=by
 refine eO eb rfl fun hl=>?_
 clear hl
 have h:=xH p.aW
 rw[aj]at h
 (repeat(first|((repeat(revert hN;revert N;apply Pn.out));refine wk @aa.eq_1 ?_;(repeat(refine Pn.mk ?_;intro N hN)))|((try apply Or.inl);refine⟨_,kb.x (h) _,?_⟩;refine hN _ _ ?_;clear hN N)))
 refine fI (.inl rfl) (vs:=[.agg (aa p)]) (sd @aa.eq_1) ?_
 exact⟨_,[],rfl,⟨rfl,rfl⟩,⟨List.nodup_nil,fun i hi=>by cases hi⟩,⟨by(try dsimp only);omega,fun j hj=>by
  have h1:=ef hj
  simp only[go_sem, ↓reduceIte,Nat.reduceEqDiff,Nat.reduceAdd,Nat.reduceSub,Nat.reduceLeDiff,reduceCtorEq,h1]⟩⟩
theorem Gj (xs:List fj) (h:xs.length<=1048576) (σ:ar):Call Tryz.prog 129 [.sl (xs.map bU)] σ (Jz (kR bU) 2 xs σ):=
 zj z7 (show lx Tryz.prog 129=some (sM 129 197 2 [.str [],.int .i64 0]) by kernel_rfl) rfl (fun _=>rfl) xs h (fun x _ σ=>IU x σ) σ
theorem Gl (xs:List eI) (h:xs.length<=1048576) (hs:∀t∈xs,q9 t) (σ:ar):Call Tryz.prog 130 [.sl (xs.map bI)] σ (Jz ny 2 xs σ):=
 zj pR (show lx Tryz.prog 130=some (sM 130 198 2 [.str [],.bP]) by kernel_rfl) rfl (fun _=>rfl) xs h (fun x hx σ=>IZ x (hs x hx) σ) σ
theorem Bm (xs:List ad) (h:xs.length<=1048576) (σ:ar):Call Tryz.prog 80 [.sl (xs.map aa)] σ (Jz (kR aa) 3 xs σ):=
 zj wV (show lx Tryz.prog 80=some (sM 80 149 3 [.int .i64 0,.int .i64 0,.int .i64 0]) by kernel_rfl) rfl (fun _=>rfl) xs h (fun x _ σ=>Du x σ) σ
def xK (g:Rows) (v:AV) (a:dY) (ids:List Id):Prop:=∃x,v=.agg [x]/\hZ (kR aa) 3 g x a.ah ids
structure zC (g:Rows) (v:AV) (s:aU) (ids:List Id):Prop where
 ex:∃a b c i1 i2 i3,v=.agg [a,b,c,.int .i64 s.aB]/\hZ (kR bU) 2 g a s.aV.au i1/\hZ ny 2 g b s.aV.ah i2/\hZ (kR aa) 3 g c s.bf.ah i3/\ids=i1++(i2++i3)
theorem xK.frame {g g':Rows} {v:AV} {a:dY} {ids:List Id} (h:xK g v a ids) (hf:∀i∈ids,g' i=g i):xK g' v a ids:=by
 obtain⟨x,h1,h2⟩:=h
 exact⟨x,h1,h2.frame wV hf⟩
theorem zC.frame {g g':Rows} {v:AV} {s:aU} {ids:List Id} (h:zC g v s ids) (hf:∀i∈ids,g' i=g i):zC g' v s ids:=by
 obtain⟨a,b,c,i1,i2,i3,h1,h2,h3,h4,rfl⟩:=h.ex
 exact⟨a,b,c,i1,i2,i3,h1,h2.frame z7 fun i hi=>hf i (by simp[hi]),h3.frame pR fun i hi=>hf i (by simp[hi]),h4.frame wV fun i hi=>hf i (by simp[hi]),rfl⟩
theorem xK.fz {g:Rows} {v:AV} {a:dY} {ids:List Id} (n:Nat) (h:xK g v a ids):V.fz (dd g) (n+4) v=some (.agg (aO a)):=by
 obtain⟨x,rfl,h2⟩:=h
 have h3:=h2.fz (n:=n+2) (e:=aa) fun hc=>by rw[hc.1];simp[aa,ae,ai,ay]
 simp only[aM,ae,ai,h3,Option.map_some,aO]
theorem zC.fz {g:Rows} {v:AV} {s:aU} {ids:List Id} (n:Nat) (h:zC g v s ids):V.fz (dd g) (n+5) v=some (.agg (ao s)):=by
 obtain⟨a,b,c,i1,i2,i3,rfl,h2,h3,h4,rfl⟩:=h.ex
 have q1:=h2.fz (n:=n+3) (e:=bU) fun hc=>by rw[hc.1];simp[bU,ae,ai,ay,bh]
 have q2:=h3.fz (n:=n+3) (e:=bI) fun hc=>K7 (n+1) hc
 have q3:=h4.fz (n:=n+3) (e:=aa) fun hc=>by rw[hc.1];simp[aa,ae,ai,ay]
 simp only[aM,ae,ai,q1,q2,q3,ay,Option.map_some,ao]
theorem qO (p:dY) (hs:p.ah.length<=1048576) (σ:ar):Call Tryz.prog 18 [.agg (aO p)] σ (fun r σ'=>∃ids,xK σ'.get r p ids/\eE σ.next σ'.next ids/\Kept σ σ'):=by
 refine eO eb rfl fun hl=>?_
 clear hl
 (try((repeat(revert hN;revert N;apply Pn.out));refine wk @aO.eq_1 ?_;(repeat(refine Pn.mk ?_;intro N hN))))
 refine .inr (aE _ _ _ _ _ (fun r σ1 hq=>?_) (Bm p.ah hs _))
 obtain⟨ids,hR,hI,hK⟩:=hq
 obtain⟨g1,x1⟩:=σ1
 (try dsimp only at hR hI hK)
 have hn:=hK.1
 obtain⟨o,rows,is,rfl,hg,SG,rfl⟩:=hR
 refine hN _ _ ?_
 clear hN N
 have k2:=hK.2 ⟨18000001,σ.next⟩ (by(try dsimp only);omega)
 have k3:=hK.2 ⟨18001000,σ.next+1⟩ (by(try dsimp only);omega)
 simp only[go_sem, ↓reduceIte,Nat.reduceEqDiff,Nat.reduceAdd,Nat.reduceSub,Nat.reduceLeDiff,reduceCtorEq]at k2 k3
 (try((repeat(revert hN;revert N;apply Pn.out));refine wk (tw @aO.eq_1 (tw @k2 @k3)) ?_;(repeat(refine Pn.mk ?_;intro N hN))))
 refine fI (.inl rfl) (vs:=[.agg [.own o 0 p.ah.length]]) (sd @Nat.zero_add) ?_
 have hb:=hI.2
 (try dsimp only at hb hn)
 refine⟨_,⟨_,rfl,hZ.frame wV ⟨o,rows,is,rfl,hg,SG,rfl⟩ fun j hj=>?_⟩,⟨hI.1,fun j hj=>?_⟩,⟨?_,fun j hj=>?_⟩⟩
 ·have S7:=hb j hj
  have i2:=du (b:=j) (a:=⟨18000001,σ.next⟩) (by(try dsimp only);omega)
  have i3:=du (b:=j) (a:=⟨18001000,σ.next+1⟩) (by(try dsimp only);omega)
  simp only[go_sem, ↓reduceIte,Nat.reduceEqDiff,Nat.reduceAdd,Nat.reduceSub,Nat.reduceLeDiff,reduceCtorEq,i2,i3]
 ·have:=hb j hj
  (try dsimp only);omega
 ·(try dsimp only);omega
 ·have h2:=hK.2 j (by(try dsimp only);omega)
  have h1:=ef hj
  simp only[go_sem, ↓reduceIte,Nat.reduceEqDiff,Nat.reduceAdd,Nat.reduceSub,Nat.reduceLeDiff,reduceCtorEq,h1]at h2
  simp only[go_sem, ↓reduceIte,Nat.reduceEqDiff,Nat.reduceAdd,Nat.reduceSub,Nat.reduceLeDiff,reduceCtorEq,h1,h2]
theorem Bo (p:aq) (hs:GP p) (σ:ar):Call Tryz.prog 63 [.agg (ab p)] σ (fun r σ'=>∃a b i1 i2,r=.agg [a,b]/\hZ (kR bU) 2 σ'.get a p.au i1/\hZ ny 2 σ'.get b p.ah i2/\eE σ.next σ'.next (i1++i2)/\Kept σ σ'):=by
 refine eO eb rfl fun hl=>?_
 clear hl
 (try((repeat(revert hN;revert N;apply Pn.out));refine wk @ab.eq_1 ?_;(repeat(refine Pn.mk ?_;intro N hN))))
 refine .inr (aE _ _ _ _ _ (fun r σ1 hq=>?_) (Gj p.au hs.g _))
 obtain⟨i1,hR,hI,hK⟩:=hq
 obtain⟨g1,x1⟩:=σ1
 (try dsimp only at hR hI hK)
 have hn:=hK.1
 obtain⟨o,rows,is,rfl,hg,SG,rfl⟩:=hR
 have hb:=hI.2
 (try dsimp only at hb hn)
 refine hN _ _ ?_
 clear hN N
 have k1:=hK.2 ⟨63000000,σ.next⟩ (by(try dsimp only);omega)
 have k2:=hK.2 ⟨63000001,σ.next⟩ (by(try dsimp only);omega)
 have k3:=hK.2 ⟨63001000,σ.next+1⟩ (by(try dsimp only);omega)
 simp only[go_sem, ↓reduceIte,Nat.reduceEqDiff,Nat.reduceAdd,Nat.reduceSub,Nat.reduceLeDiff,reduceCtorEq]at k1 k2 k3
 (try((repeat(revert hN;revert N;apply Pn.out));refine wk (tw @ab.eq_1 (tw @k1 (tw @k2 @k3))) ?_;(repeat(refine Pn.mk ?_;intro N hN))))
 refine .inr (aE _ _ _ _ _ (fun r σ2 hq=>?_) (Gl p.ah hs.t hs.s _))
 obtain⟨i2,hS,hJ,hL⟩:=hq
 obtain⟨g2,x2⟩:=σ2
 (try dsimp only at hS hJ hL)
 have HG:=hL.1
 obtain⟨o2,QQ,is2,rfl,Fo,hS',rfl⟩:=hS
 have hc:=hJ.2
 (try dsimp only at hc HG)
 refine hN _ _ ?_
 clear hN N
 have l2:=hL.2 ⟨63000001,σ.next⟩ (by(try dsimp only);omega)
 have l3:=hL.2 ⟨63001000,σ.next+1⟩ (by(try dsimp only);omega)
 simp only[go_sem, ↓reduceIte,Nat.reduceEqDiff,Nat.reduceAdd,Nat.reduceSub,Nat.reduceLeDiff,reduceCtorEq,k2,k3]at l2 l3
 (try((repeat(revert hN;revert N;apply Pn.out));refine wk (tw @ab.eq_1 (tw @l2 @l3)) ?_;(repeat(refine Pn.mk ?_;intro N hN))))
 refine fI (.inl rfl) (vs:=[.agg [.own o 0 p.au.length,.own o2 0 p.ah.length]]) (sd @Nat.zero_add) ?_
 have fr:∀x:Id,σ.next+2<=x.bW->(x=⟨63000001,σ.next⟩)=False/\(x=⟨63001000,σ.next+1⟩)=False:=fun x hx=>⟨(du (a:=⟨63000001,σ.next⟩) (b:=x) (by(try dsimp only);omega)).2,(du (a:=⟨63001000,σ.next+1⟩) (b:=x) (by(try dsimp only);omega)).2⟩
 refine⟨_,_,_,_,rfl,hZ.frame (g:=g1) z7 ⟨o,rows,is,rfl,hg,SG,rfl⟩ fun i hi=>?_,hZ.frame (g:=g2) pR ⟨o2,QQ,is2,rfl,Fo,hS',rfl⟩ fun i hi=>?_,?_,⟨by(try dsimp only);omega,fun j hj=>?_⟩⟩
 ·have h1:=hb i hi
  have h2:=hL.2 i (by(try dsimp only);omega)
  have h3:=fr i (by omega)
  simp only[go_sem, ↓reduceIte,Nat.reduceEqDiff,Nat.reduceAdd,Nat.reduceSub,Nat.reduceLeDiff,reduceCtorEq,h3]at h2
  simp only[go_sem, ↓reduceIte,Nat.reduceEqDiff,Nat.reduceAdd,Nat.reduceSub,Nat.reduceLeDiff,reduceCtorEq,h2,h3]
 ·have h1:=hc i hi
  have h3:=fr i (by omega)
  simp only[go_sem, ↓reduceIte,Nat.reduceEqDiff,Nat.reduceAdd,Nat.reduceSub,Nat.reduceLeDiff,reduceCtorEq,h3]
 ·(try dsimp only at *)
  exact(hI.app hJ (by omega) (by omega) (by omega)).wide (by omega) (by omega)
 ·have h1:=ef hj
  have h2:=hL.2 j (by(try dsimp only);omega)
  have h3:=hK.2 j (by(try dsimp only);omega)
  simp only[go_sem, ↓reduceIte,Nat.reduceEqDiff,Nat.reduceAdd,Nat.reduceSub,Nat.reduceLeDiff,reduceCtorEq,h1]at h2 h3
  simp only[go_sem, ↓reduceIte,Nat.reduceEqDiff,Nat.reduceAdd,Nat.reduceSub,Nat.reduceLeDiff,reduceCtorEq,h1,h2,h3]
theorem Dx (p:aU) (hs:oY p) (σ:ar):Call Tryz.prog 16 [.agg (ao p)] σ (fun r σ'=>∃ids,zC σ'.get r p ids/\eE σ.next σ'.next ids/\Kept σ σ'):=by
 refine eO eb rfl fun hl=>?_
 clear hl
 have t1:=fun σ=>Bo p.aV hs.s σ
 have t2:=fun σ=>qO p.bf hs.a σ
 rw[ab]at t1
 rw[aO]at t2
 (try((repeat(revert hN;revert N;apply Pn.out));refine wk @ao.eq_1 ?_;(repeat(refine Pn.mk ?_;intro N hN))))
 refine .inr (aE _ _ _ _ _ (fun r σ1 hq=>?_) (t1 _))
 obtain⟨a,b,i1,i2,rfl,hA,hB,hI,hK⟩:=hq
 obtain⟨g1,x1⟩:=σ1
 (try dsimp only at hA hB hI hK)
 have hn:=hK.1
 have hb:=hI.2
 (try dsimp only at hb hn)
 refine hN _ _ ?_
 clear hN N
 have k1:=hK.2 ⟨16000000,σ.next⟩ (by(try dsimp only);omega)
 have k2:=hK.2 ⟨16000001,σ.next⟩ (by(try dsimp only);omega)
 have k3:=hK.2 ⟨16001000,σ.next+1⟩ (by(try dsimp only);omega)
 simp only[go_sem, ↓reduceIte,Nat.reduceEqDiff,Nat.reduceAdd,Nat.reduceSub,Nat.reduceLeDiff,reduceCtorEq]at k1 k2 k3
 obtain⟨oa,rfl⟩:=hA.kj
 obtain⟨ob,rfl⟩:=hB.kj
 (try((repeat(revert hN;revert N;apply Pn.out));refine wk (tw @ao.eq_1 (tw @k1 (tw @k2 @k3))) ?_;(repeat(refine Pn.mk ?_;intro N hN))))
 refine .inr (aE _ _ _ _ _ (fun r σ2 hq=>?_) (t2 _))
 obtain⟨i3,hC,hJ,hL⟩:=hq
 obtain⟨g2,x2⟩:=σ2
 (try dsimp only at hC hJ hL)
 have HG:=hL.1
 have hc:=hJ.2
 (try dsimp only at hc HG)
 obtain⟨c,rfl,hC⟩:=hC
 obtain⟨oc,rfl⟩:=hC.kj
 refine hN _ _ ?_
 clear hN N
 have l1:=hL.2 ⟨16000000,σ.next⟩ (by(try dsimp only);omega)
 have l2:=hL.2 ⟨16000001,σ.next⟩ (by(try dsimp only);omega)
 have l3:=hL.2 ⟨16001000,σ.next+1⟩ (by(try dsimp only);omega)
 simp only[go_sem, ↓reduceIte,Nat.reduceEqDiff,Nat.reduceAdd,Nat.reduceSub,Nat.reduceLeDiff,reduceCtorEq,k1,k2,k3]at l1 l2 l3
 (try((repeat(revert hN;revert N;apply Pn.out));refine wk (tw @ao.eq_1 (tw @l1 (tw @l2 @l3))) ?_;(repeat(refine Pn.mk ?_;intro N hN))))
 refine fI (.inl rfl) (vs:=[.agg [.own oa 0 p.aV.au.length,.own ob 0 p.aV.ah.length,.own oc 0 p.bf.ah.length,.int .i64 p.aB]]) (sd @Nat.zero_add) ?_
 have fr:∀x:Id,σ.next+2<=x.bW->(x=⟨16000001,σ.next⟩)=False/\(x=⟨16001000,σ.next+1⟩)=False:=fun x hx=>⟨(du (a:=⟨16000001,σ.next⟩) (b:=x) (by(try dsimp only);omega)).2,(du (a:=⟨16001000,σ.next+1⟩) (b:=x) (by(try dsimp only);omega)).2⟩
 have MD:∀i∈i1++i2,g2 i=g1 i:=fun i hi=>by
  have h1:=hb i hi
  have h2:=hL.2 i (by(try dsimp only);omega)
  have h3:=fr i (by omega)
  simp only[go_sem, ↓reduceIte,Nat.reduceEqDiff,Nat.reduceAdd,Nat.reduceSub,Nat.reduceLeDiff,reduceCtorEq,h3]at h2
  exact h2
 refine⟨i1++(i2++i3),⟨_,_,_,i1,i2,i3,rfl,hA.frame z7 fun i hi=>?_,hB.frame pR fun i hi=>?_,hC.frame wV fun i hi=>?_,rfl⟩,?_,⟨by(try dsimp only);omega,fun j hj=>?_⟩⟩
 ·have h1:=hb i (by simp[hi])
  have h2:=MD i (by simp[hi])
  have h3:=fr i (by omega)
  simp only[go_sem, ↓reduceIte,Nat.reduceEqDiff,Nat.reduceAdd,Nat.reduceSub,Nat.reduceLeDiff,reduceCtorEq,h2,h3]
 ·have h1:=hb i (by simp[hi])
  have h2:=MD i (by simp[hi])
  have h3:=fr i (by omega)
  simp only[go_sem, ↓reduceIte,Nat.reduceEqDiff,Nat.reduceAdd,Nat.reduceSub,Nat.reduceLeDiff,reduceCtorEq,h2,h3]
 ·have h1:=hc i hi
  have h3:=fr i (by omega)
  simp only[go_sem, ↓reduceIte,Nat.reduceEqDiff,Nat.reduceAdd,Nat.reduceSub,Nat.reduceLeDiff,reduceCtorEq,h3]
 ·(try dsimp only at *)
  rw[<-List.append_assoc]
  exact(hI.app hJ (by omega) (by omega) (by omega)).wide (by omega) (by omega)
 ·have h1:=ef hj
  have h2:=hL.2 j (by(try dsimp only);omega)
  have h3:=hK.2 j (by(try dsimp only);omega)
  simp only[go_sem, ↓reduceIte,Nat.reduceEqDiff,Nat.reduceAdd,Nat.reduceSub,Nat.reduceLeDiff,reduceCtorEq,h1]at h2 h3
  simp only[go_sem, ↓reduceIte,Nat.reduceEqDiff,Nat.reduceAdd,Nat.reduceSub,Nat.reduceLeDiff,reduceCtorEq,h1,h2,h3]
end Go.Proofs.YtgoljkjaameagaaGreat.V

namespace Go.Proofs.YtgoljkjaameagaaGreat
open Go.RowKit
def kn (n:Int):Bool:=(decide (97<=n)&&decide (n<=122))||(decide (65<=n)&&decide (n<=90))
def kM (n:Int):Bool:=decide (48<=n)&&decide (n<=57)
def sQ (i:Nat) (n:Int):Prop:=kn n=true∨(0<i/\(kM n=true∨n=95))
def tO (s:ByteArray):Prop:=(1<=s.size/\s.size<=12)/\∀i (h:i<s.size),sQ i s[i].toNat
open Classical in
noncomputable def js (s:ByteArray):Bool:=decide (tO s)
theorem C0 {s:ByteArray} (h:tO s):true=js s:=by simp[js,h]
theorem dX {s:ByteArray} (h:¬tO s):false=js s:=by simp[js,h]
theorem AX {s:ByteArray} {b:Bool} (hb:b=true) (h:tO s):b=js s:=by simp[js,h,hb]
theorem qy {s:ByteArray} {b:Bool} (hb:b=false) (h:¬tO s):b=js s:=by simp[js,h,hb]
theorem uG (w:World) (n:Int):Calls Tryz.prog 285 #[.int .u8 n] w fun e w'=>e=.returned (.bool (kn n))/\w=w':=by
 go_enter Tryz.func285,Tryz.ntmps285
 go_wp2_with fail
 all_goals
  go_ret
  exact⟨ig (by unfold kn;simp[*];try omega),rfl⟩
theorem E4 (w:World) (n:Int):Calls Tryz.prog 286 #[.int .u8 n] w fun e w'=>e=.returned (.bool (kM n))/\w=w':=by
 go_enter Tryz.func286,Tryz.ntmps286
 go_wp2_with fail
 all_goals
  go_ret
  exact⟨ig (by unfold kM;simp[*];try omega),rfl⟩
theorem Be (w:World) (s:ByteArray) (hs:s.size<=9223372036854775807):Calls Tryz.prog 237 #[.string s] w fun e w'=>e=.returned (.bool (js s))/\Below w.heap.size w w':=by
 by_cases h1:1<=s.size
 case neg=>
  go_enter Tryz.func237,Tryz.ntmps237
  go_wp2_with fail
  go_ret
  exact⟨ig (dX fun h=>h1 h.1.1),Below.refl _ _⟩
 by_cases h2:s.size<=12
 case neg=>
  go_enter Tryz.func237,Tryz.ntmps237
  go_wp2_with fail
  go_ret
  exact⟨ig (dX fun h=>h2 h.1.2),Below.refl _ _⟩
 go_enter Tryz.func237,Tryz.ntmps237
 go_wp2_with fail
 refine(uG _ _).mono ?_
 rintro e w' ⟨rfl,rfl⟩
 cases h3:kn s[0].toNat
 ·go_wp2_with fail
  go_ret
  exact⟨ig (dX fun h=>by have:=h.2 0 (by omega);simp only[sQ]at this;rw[h3]at this;simp at this),Below.refl _ _⟩
 ·replace h3:=Lib.hid h3
  go_wp2_with fail
  go_loop [3] (fun i=>∃k:Nat,1<=k/\k<=s.size/\i=.int .i64 k/\Hid (∀j (h:j<s.size),j<k->sQ j s[j].toNat)) (fun i=>s.size-(intOf i).toNat)
  case atStart=>exact⟨1,by omega,by omega,rfl,Lib.hid fun j h hj=>by
   obtain rfl:j=0:=by omega
   exact .inl h3.out⟩
  case round=>
   obtain⟨k,tx,hk,rfl,dH⟩:=hrel
   by_cases dV:k<s.size
   ·go_wp2_with fail
    refine(uG _ _).mono ?_
    rintro e w' ⟨rfl,rfl⟩
    have lg:sQ k s[k].toNat∨¬sQ k s[k].toNat:=Classical.em _
    cases hl:kn s[k].toNat
    ·go_wp2_with fail
     refine(E4 _ _).mono ?_
     rintro e w' ⟨rfl,rfl⟩
     cases hd:kM s[k].toNat
     ·by_cases tk:(s[k].toNat:Int)=95
      ·have Ss:((s[k].toNat:Int) !=95)=false:=by simp;omega
       replace tk:=Lib.hid tk
       replace hl:=Lib.hid hl
       replace hd:=Lib.hid hd
       go_wp2_with fail
       go_round
       case rel=>exact⟨k+1,by omega,by omega,by go_num,Lib.hid fun j h hj=>by
        by_cases w9:j=k
        ·subst w9;exact .inr ⟨by omega,.inr tk.out⟩
        ·exact dH.out j h (by omega)⟩
       case measure=>simp[intOf];omega
      ·have Ss:((s[k].toNat:Int) !=95)=true:=by simp;omega
       replace tk:=Lib.hid tk
       replace hl:=Lib.hid hl
       replace hd:=Lib.hid hd
       go_wp2_with fail
       go_ret
       exact⟨ig (dX fun h=>by
        have:=h.2 k dV;simp only[sQ,hl.out,hd.out]at this;exact tk.out (by simp at this;exact this.2)),Below.refl _ _⟩
     ·replace hl:=Lib.hid hl
      replace hd:=Lib.hid hd
      go_wp2_with fail
      go_round
      case rel=>exact⟨k+1,by omega,by omega,by go_num,Lib.hid fun j h hj=>by
       by_cases w9:j=k
       ·subst w9;exact .inr ⟨by omega,.inl hd.out⟩
       ·exact dH.out j h (by omega)⟩
      case measure=>simp[intOf];omega
    ·replace hl:=Lib.hid hl
     go_wp2_with fail
     go_round
     case rel=>exact⟨k+1,by omega,by omega,by go_num,Lib.hid fun j h hj=>by
      by_cases w9:j=k
      ·subst w9;exact .inl hl.out
      ·exact dH.out j h (by omega)⟩
     case measure=>simp[intOf];omega
   ·go_wp2_with fail
    go_ret
    exact⟨ig (C0 ⟨⟨h1,h2⟩,fun i h=>dH.out i h (by omega)⟩),Below.refl _ _⟩
theorem Ax (w:World) (s:ByteArray) (hs:s.size<=9223372036854775807):Calls Tryz.prog 254 #[.string s] w fun e w'=>e=.returned (.bool (js s))/\w=w':=by
 go_enter Tryz.func254,Tryz.ntmps254
 go_wp2_with fail
 go_loop [8] (fun i=>∃k:Nat,k<=s.size/\i=.int .i64 k/\Hid (∀j (h:j<s.size),j<k->sQ j s[j].toNat)) (fun i=>s.size-(intOf i).toNat)
 case atStart=>exact⟨0,by omega,rfl,Lib.hid fun j h hj=>by omega⟩
 case round=>
  obtain⟨k,hk,rfl,dH⟩:=hrel
  by_cases dV:k<s.size
  ·have hc:(s[k].toNat:Int)<48∨(48<=(s[k].toNat:Int)/\(s[k].toNat:Int)<=57)∨(58<=(s[k].toNat:Int)/\(s[k].toNat:Int)<=64)∨(65<=(s[k].toNat:Int)/\(s[k].toNat:Int)<=90)∨(91<=(s[k].toNat:Int)/\(s[k].toNat:Int)<=94)∨(95<=(s[k].toNat:Int)/\(s[k].toNat:Int)<=95)∨(96<=(s[k].toNat:Int)/\(s[k].toNat:Int)<=96)∨(97<=(s[k].toNat:Int)/\(s[k].toNat:Int)<=122)∨123<=(s[k].toNat:Int):=by omega
   by_cases tu:k=0
   ·subst tu
    rcases hc with h|⟨h,h'⟩|⟨h,h'⟩|⟨h,h'⟩|⟨h,h'⟩|⟨h,h'⟩|⟨h,h'⟩|⟨h,h'⟩|h
    ·have tk:((s[0].toNat:Int) !=95)=true:=by simp;try omega
     go_wp2_with fail
     all_goals first
      |(go_ret;exact⟨ig (dX fun hh=>by have:=hh.2 0 dV;simp[sQ,kn,kM]at this;omega),rfl⟩)
      |(exfalso;simp_all;done)
      |(exfalso;simp_all;omega)
    ·have tk:((s[0].toNat:Int) !=95)=true:=by simp;try omega
     go_wp2_with fail
     all_goals first
      |(go_ret;exact⟨ig (dX fun hh=>by have:=hh.2 0 dV;simp[sQ,kn,kM]at this;omega),rfl⟩)
      |(exfalso;simp_all;done)
      |(exfalso;simp_all;omega)
    ·have tk:((s[0].toNat:Int) !=95)=true:=by simp;try omega
     go_wp2_with fail
     all_goals first
      |(go_ret;exact⟨ig (dX fun hh=>by have:=hh.2 0 dV;simp[sQ,kn,kM]at this;omega),rfl⟩)
      |(exfalso;simp_all;done)
      |(exfalso;simp_all;omega)
    ·have tk:((s[0].toNat:Int) !=95)=true:=by simp;try omega
     go_wp2_with fail
     go_round
     case rel=>exact⟨0+1,by omega,by go_num,Lib.hid fun j hj w9=>by
      by_cases HE:j=0
      ·subst HE;simp[sQ,kn,kM];omega
      ·exact dH.out j hj (by omega)⟩
     case measure=>simp[intOf];try omega
    ·have tk:((s[0].toNat:Int) !=95)=true:=by simp;try omega
     go_wp2_with fail
     all_goals first
      |(go_ret;exact⟨ig (dX fun hh=>by have:=hh.2 0 dV;simp[sQ,kn,kM]at this;omega),rfl⟩)
      |(exfalso;simp_all;done)
      |(exfalso;simp_all;omega)
    ·have tk:((s[0].toNat:Int) !=95)=false:=by simp;try omega
     go_wp2_with fail
     all_goals first
      |(go_ret;exact⟨ig (dX fun hh=>by have:=hh.2 0 dV;simp[sQ,kn,kM]at this;omega),rfl⟩)
      |(exfalso;simp_all;done)
      |(exfalso;simp_all;omega)
    ·have tk:((s[0].toNat:Int) !=95)=true:=by simp;try omega
     go_wp2_with fail
     all_goals first
      |(go_ret;exact⟨ig (dX fun hh=>by have:=hh.2 0 dV;simp[sQ,kn,kM]at this;omega),rfl⟩)
      |(exfalso;simp_all;done)
      |(exfalso;simp_all;omega)
    ·have tk:((s[0].toNat:Int) !=95)=true:=by simp;try omega
     go_wp2_with fail
     go_round
     case rel=>exact⟨0+1,by omega,by go_num,Lib.hid fun j hj w9=>by
      by_cases HE:j=0
      ·subst HE;simp[sQ,kn,kM];omega
      ·exact dH.out j hj (by omega)⟩
     case measure=>simp[intOf];try omega
    ·have tk:((s[0].toNat:Int) !=95)=true:=by simp;try omega
     go_wp2_with fail
     all_goals first
      |(go_ret;exact⟨ig (dX fun hh=>by have:=hh.2 0 dV;simp[sQ,kn,kM]at this;omega),rfl⟩)
      |(exfalso;simp_all;done)
      |(exfalso;simp_all;omega)
   ·have hz:((k:Int)==0)=false:=by simpa using tu
    have tx:1<=k:=by omega
    clear tu
    rcases hc with h|⟨h,h'⟩|⟨h,h'⟩|⟨h,h'⟩|⟨h,h'⟩|⟨h,h'⟩|⟨h,h'⟩|⟨h,h'⟩|h
    ·have tk:((s[k].toNat:Int) !=95)=true:=by simp;try omega
     go_wp2_with fail
     all_goals first
      |(go_ret;exact⟨ig (dX fun hh=>by have:=hh.2 k dV;simp[sQ,kn,kM]at this;omega),rfl⟩)
      |(exfalso;simp_all;done)
      |(exfalso;simp_all;omega)
    ·have tk:((s[k].toNat:Int) !=95)=true:=by simp;try omega
     go_wp2_with fail
     go_round
     case rel=>exact⟨k+1,by omega,by go_num,Lib.hid fun j hj w9=>by
      by_cases HE:j=k
      ·subst HE;simp[sQ,kn,kM];omega
      ·exact dH.out j hj (by omega)⟩
     case measure=>simp[intOf];try omega
    ·have tk:((s[k].toNat:Int) !=95)=true:=by simp;try omega
     go_wp2_with fail
     all_goals first
      |(go_ret;exact⟨ig (dX fun hh=>by have:=hh.2 k dV;simp[sQ,kn,kM]at this;omega),rfl⟩)
      |(exfalso;simp_all;done)
      |(exfalso;simp_all;omega)
    ·have tk:((s[k].toNat:Int) !=95)=true:=by simp;try omega
     go_wp2_with fail
     go_round
     case rel=>exact⟨k+1,by omega,by go_num,Lib.hid fun j hj w9=>by
      by_cases HE:j=k
      ·subst HE;simp[sQ,kn,kM];omega
      ·exact dH.out j hj (by omega)⟩
     case measure=>simp[intOf];try omega
    ·have tk:((s[k].toNat:Int) !=95)=true:=by simp;try omega
     go_wp2_with fail
     all_goals first
      |(go_ret;exact⟨ig (dX fun hh=>by have:=hh.2 k dV;simp[sQ,kn,kM]at this;omega),rfl⟩)
      |(exfalso;simp_all;done)
      |(exfalso;simp_all;omega)
    ·have tk:((s[k].toNat:Int) !=95)=false:=by simp;try omega
     go_wp2_with fail
     go_round
     case rel=>exact⟨k+1,by omega,by go_num,Lib.hid fun j hj w9=>by
      by_cases HE:j=k
      ·subst HE;simp[sQ,kn,kM];omega
      ·exact dH.out j hj (by omega)⟩
     case measure=>simp[intOf];try omega
    ·have tk:((s[k].toNat:Int) !=95)=true:=by simp;try omega
     go_wp2_with fail
     all_goals first
      |(go_ret;exact⟨ig (dX fun hh=>by have:=hh.2 k dV;simp[sQ,kn,kM]at this;omega),rfl⟩)
      |(exfalso;simp_all;done)
      |(exfalso;simp_all;omega)
    ·have tk:((s[k].toNat:Int) !=95)=true:=by simp;try omega
     go_wp2_with fail
     go_round
     case rel=>exact⟨k+1,by omega,by go_num,Lib.hid fun j hj w9=>by
      by_cases HE:j=k
      ·subst HE;simp[sQ,kn,kM];omega
      ·exact dH.out j hj (by omega)⟩
     case measure=>simp[intOf];try omega
    ·have tk:((s[k].toNat:Int) !=95)=true:=by simp;try omega
     go_wp2_with fail
     all_goals first
      |(go_ret;exact⟨ig (dX fun hh=>by have:=hh.2 k dV;simp[sQ,kn,kM]at this;omega),rfl⟩)
      |(exfalso;simp_all;done)
      |(exfalso;simp_all;omega)
  ·by_cases h1:1<=s.size
   ·by_cases h2:s.size<=12
    ·go_wp2_with fail
     go_ret
     exact⟨ig (AX (by simp<;>omega) ⟨⟨h1,h2⟩,fun i h=>dH.out i h (by omega)⟩),rfl⟩
    ·go_wp2_with fail
     go_ret
     exact⟨ig (qy (by simp<;>omega) fun h=>h2 h.1.2),rfl⟩
   ·go_wp2_with fail
    go_ret
    exact⟨ig (qy (by simp<;>omega) fun h=>h1 h.1.1),rfl⟩
end Go.Proofs.YtgoljkjaameagaaGreat

namespace Go.Proofs.YtgoljkjaameagaaGreat.V
open Go.RowKit
theorem mixed:Tryz.prog.follows .mixedOrders=true:=by kernel_rfl
variable {P:Program} {w:World} {D:Nat->Prop} {ι:Names}
theorem ll {f:Nat} {args:List AV} {r:AV} {vs0:Array Value} {u0:Value} (mM:∀(w:World) (D:Nat->Prop) (ι:Names) vs,eZ P w D ι args vs->vs=vs0) (hr:∀(w:World) (D:Nat->Prop) (ι:Names),cV P w D ι r u0) (tr:∀g,ga g 6 r=some r)
  (h:∀w,Calls P f vs0 w fun e w'=>e=.returned u0/\Below w.heap.size w w'):ak P f args r:=by
 intro n
 refine gr fun hs D ι w vs S U A=>?_
 have:=mM w D ι vs A
 subst this
 refine(h w).mono ?_
 rintro e w' ⟨rfl,hb⟩
 exact⟨r,_,n,D,ι,u0,rfl,⟨r,tr _,rfl⟩,Step.stay S hb.block hb.size hb.os hb.tape hb.output (fun _ h=>h) (fun _ h=>.inl h) (fun _ _ h=>h),
  S.stay hb.block hb.size (fun _ h=>h) (fun b hd=>Nat.lt_of_lt_of_le (S.dead b hd) hb.size) (fun _ h=>.inl h) (fun _ _ h=>h),U,Nat.le_refl _,hr _ _ _⟩
theorem Bc {s:ByteArray} {vs:Array Value} (h:eZ P w D ι [.str s] vs):vs= #[.string s]:=by
 obtain⟨h1,h2⟩:=h
 obtain⟨u,hu,hr⟩:=h2 0 _ rfl
 rw[fq hr]at hu
 obtain⟨l⟩:=vs
 cases l with
 |nil=>simp at h1
 |cons a l=>cases l with
  |nil=>simp at hu;subst hu;rfl
  |cons b l=>simp at h1
theorem Ey (s:ByteArray) (hs:s.size<=9223372036854775807):ak Tryz.prog 237 [.str s] (.bool (js s)):=
 ll (fun _ _ _ _=>Bc) (fun _ _ _=>.eH _ _ (.bool _)) (fun g=>fe g 5 _) fun w=>Be w s hs
theorem Ek (s:ByteArray) (hs:s.size<=9223372036854775807):ak Tryz.prog 254 [.str s] (.bool (js s)):=
 ll (fun _ _ _ _=>Bc) (fun _ _ _=>.eH _ _ (.bool _)) (fun g=>fe g 5 _) fun w=>(Ax w s hs).mono (by rintro e w' ⟨rfl,rfl⟩;exact⟨rfl,Below.refl _ _⟩)
end Go.Proofs.YtgoljkjaameagaaGreat.V

namespace Go.Proofs.YtgoljkjaameagaaGreat
open Go.RowKit
def sS (n:Nat):List UInt8:=if h:n=0 then[]else sS (n / 10)++[UInt8.ofNat (48+n % 10)]
termination_by n
decreasing_by omega
def nT (k:Int):ByteArray:=if k<=0 then⟨#[109,48]⟩else⟨(109::sS k.toNat).toArray⟩
theorem E5:sS 0=[]:=by unfold sS;simp
theorem Hb {n:Nat} (h:n≠0):sS n=sS (n / 10)++[UInt8.ofNat (48+n % 10)]:=by
 conv=>lhs;unfold sS
 rw[dif_neg h]
theorem wT (c:UInt8) (l:ByteArray):((⟨#[c]⟩++l:ByteArray)).data.toList=c::l.data.toList:=by
 simp[ByteArray.data_append]
theorem zT:∀(m n:Nat),n<10 ^ m->(sS n).length<=m
 |0,n,h=>by
  have:n=0:=by simpa using h
  subst this;simp[sS]
 |m+1,n,h=>by
  unfold sS
  split
  ·simp
  ·have:=zT m (n / 10) (by rw[Nat.pow_succ]at h;omega)
   simp;omega
theorem yQ (w:World) (k:Int) (h0:0<=k) (h1:k<=4611686018427387904):
  Calls Tryz.prog 213 #[.int .i64 k] w fun e w'=>e=.returned (.string (nT k))/\Below w.heap.size w w':=by
 by_cases hk:k<=0
 ·go_enter Tryz.func213,Tryz.ntmps213
  go_wp2_with fail
  go_ret
  exact⟨by simp[nT,hk],Below.refl _ _⟩
 ·go_enter Tryz.func213,Tryz.ntmps213
  go_wp2_with fail
  go_loopw [0,3] (fun a s wr=>∃(j:Int) (l:ByteArray),a=.int .i64 j/\s=.string l/\0<=j/\j<=4611686018427387904/\Hid (sS j.toNat++l.data.toList=sS k.toNat)/\Below w.heap.size w wr) (fun a _ _=>(intOf a).toNat)
  case atStart=>exact⟨k,⟨#[]⟩,rfl,rfl,h0,h1,Lib.hid (by simp),Below.refl _ _⟩
  case round=>
   obtain⟨j,l,rfl,rfl,hj0,hj1,hd,hb⟩:=hrel
   have fN:l.size<=19:=by
    have h1:=congrArg List.length hd.out
    have h2:=zT 19 k.toNat (by omega)
    rw[List.length_append]at h1
    have:l.data.toList.length=l.size:=by rw[Array.length_toList];rfl
    omega
   by_cases hj:0<j
   ·have hcv:∀v:Int,(convert 336 9 (.slice (some ⟨wr.heap.size,0,none⟩) 1 1)).run Tryz.prog (wr.alloc (.cells #[.int .u8 v] 5))=.ok (.string ⟨#[UInt8.ofNat v.toNat]⟩) (wr.alloc (.cells #[.int .u8 v] 5)):=by
     intro v
     rw[run_convert_bytes_string _ _ _ 5 _ _ _ Tryz.underlying336 Tryz.underlying5 Tryz.underlying9,run_bytesToString _ _ _ _ [v] (by simp[loadCells,loadCellsFrom,go_sem])]
     rfl
    have hr:=fN
    go_wp2_with fail
    go_roundw
    case rel=>
     refine⟨_,_,rfl,rfl,by omega,by omega,Lib.hid ?_,hb.alloc hb.size _⟩
     rw[<-hd.out,wT,Hb (show j.toNat≠0 by omega),show(j / 10).toNat=j.toNat / 10 by omega,show(48+j % 10).toNat=48+j.toNat % 10 by omega]
     simp
    case measure=>simp[intOf];omega
   ·go_wp2_with fail
    go_ret
    refine⟨?_,hb⟩
    have h1:=hd.out
    rw[show j.toNat=0 by omega,E5,List.nil_append]at h1
    have h2:(⟨#[109]⟩++l:ByteArray)=nT k:=by
     rw[nT,if_neg (by omega)]
     refine ByteArray.ext (Array.ext' ?_)
     rw[wT,h1]
    rw[h2];rfl
end Go.Proofs.YtgoljkjaameagaaGreat

namespace Go.Proofs.YtgoljkjaameagaaGreat.V
open Go.RowKit
attribute [local irreducible] dL wpOps fu Call
attribute [local go_sem] az eQ ec eY eW cJ upd bJ K.av b4 AV.cells AV.cell rowOf rowsOf part ld rowAt bH bG cX dr fR bo cE dD e6 eF cQ dx cC cz db dc br aJ ck bq cq cm dv dy dw cj bx cD dt bp aA cu bQ fQ bd bY bt aH cW aX cY AV.undef bj bl de dn da dj bV dC dE bK dB dz cr cw List.getD_cons_zero List.getD_cons_succ List.getD_nil List.all_cons List.all_nil Bool.and_true Bool.true_and Bool.and_self Bool.not_true Bool.not_false Option.map_some Option.map_none Option.bind_some Option.bind_none List.length_cons List.length_nil List.take_succ_cons List.take_zero List.take_nil List.drop_succ_cons List.drop_zero List.drop_nil List.head?_cons List.map_cons List.map_nil List.getElem?_cons_zero List.getElem?_cons_succ List.cons_append List.nil_append List.append_nil List.length_map List.set_cons_zero List.set_cons_succ Nat.reduceMul eq_self Int.toNat_natCast Int.natCast_nonneg and_self true_and and_true decide_true decide_false Bool.false_eq_true Nat.zero_add Nat.add_zero List.contains_cons List.contains_nil Bool.or_false Bool.false_or beq_self_eq_true Nat.reduceBEq ne_eq not_true_eq_false not_false_eq_true Id.mk.injEq false_and and_false Nat.reduceLT Int.reduceLE Int.reduceLT Int.reduceToNat Int.reduceNeg Int.reduceAdd Nat.le_refl List.length_append beq_true beq_false Bool.not_eq_eq_eq_not or_false false_or dd ae ai ay bh bD aG aM aD aL bZ bm
def sa (σ:ar) (ids:List Id) (g:Rows) (n:Nat):Prop:=σ.next<=n/\∀x:Id,x.bW<σ.next->x∉ids->g x=σ.get x
theorem qI (l:List (List AV)) (i:Nat) (a b:List AV):(l.set i a).set i b=l.set i b:=List.set_set ..
theorem Hc {l:List Int} {j:Nat} (h:j<l.length):(l.map aT)[j]? =some [.int .i64 l[j]]:=by simp[h,aT]
theorem KT {P:Program} {w:World} {D:Nat->Prop} {ι:Names} {k:Int} {vs:Array Value} (h:eZ P w D ι [.int .i64 k] vs):vs= #[.int .i64 k]:=by
 obtain⟨h1,h2⟩:=h
 obtain⟨u,hu,hr⟩:=h2 0 _ rfl
 rw[dh hr]at hu
 obtain⟨l⟩:=vs
 cases l with
 |nil=>simp at h1
 |cons a l=>cases l with
  |nil=>simp at hu;subst hu;rfl
  |cons b l=>simp at h1
theorem uI (k:Int) (h0:0<=k) (h1:k<=4611686018427387904):ak Tryz.prog 213 [.int .i64 k] (.str (nT k)):=
 ll (vs0:= #[.int .i64 k]) (u0:=.string (nT k)) (fun _ _ _ _=>KT) (fun w D ι=>.eH _ _ (.str _)) (fun g=>JV g 5 _) fun w=>yQ w k h0 h1
theorem CY (i:Id) (l:List Int) (k:Int) (h0:0<=k) (h1:k+l.length<=4611686018427387904) (σ:ar) (hv:i.bW<σ.next) (hg:σ.get i=some ⟨true,1,l.map aT⟩):
  Call Tryz.prog 24 [.own i 0 l.length,.int .i64 k] σ (fun r σ'=>r=.int .i64 (k+l.length)/\sa σ [i] σ'.get σ'.next):=by
 refine eO eb rfl fun hl=>?_
 clear hl
 obtain⟨nn,hn⟩:∃nn,l.length=nn:=⟨_,rfl⟩
 rw[hn]at h1 ⊢
 (try((repeat(revert hN;revert N;apply Pn.out));refine wk @Nat.zero_add ?_;(repeat(refine Pn.mk ?_;intro N hN))))
 refine aY (fun n env st=>∃j:Nat,n=(nn)-j/\j<=(nn)/\env 5=.int .i64 (j:Int)/\env 1=.int .i64 (k+j)/\(sa σ [i] st.get st.next/\∃l':List Int,l'.length=nn/\st.get i=some ⟨true,1,l'.map aT⟩)) (nn) ⟨0,by omega,by omega,sl (tw @Int.add_zero @Int.natCast_zero),sl (tw @Int.add_zero @Int.natCast_zero),by(try dsimp only);exact⟨⟨by(try dsimp only);omega,fun x _ _=>rfl⟩,l,hn,hg⟩⟩ ?_
 rintro n_a env_a st_a ⟨j,rfl,ale,a5,a1,mJ⟩ dU
 have a0:=dU 0 (by kernel_rfl)
 simp only[go_sem, ↓reduceIte,Nat.reduceEqDiff,Nat.reduceAdd,Nat.reduceSub,Nat.reduceLeDiff,reduceCtorEq,Int.add_zero,Int.natCast_zero]at a0
 clear dU
 obtain⟨⟨an,aF⟩,l',al,ag⟩:=mJ
 by_cases hj:(j:Int)<(nn:Int)
 ·have cK:∀{e:Env} {gg:Rows} {nx:Nat},(e 5=.int .i64 (IntKind.i64.wrap ((j:Int)+1)))->(e 1=.int .i64 (k+(j+1)))->(sa σ [i] gg nx/\∃l':List Int,l'.length=nn/\gg i=some ⟨true,1,l'.map aT⟩)->∃m0,m0<(nn)-j/\∃j:Nat,m0=(nn)-j/\j<=(nn)/\e 5=.int .i64 (j:Int)/\e 1=.int .i64 (k+j)/\(sa σ [i] gg nx/\∃l':List Int,l'.length=nn/\gg i=some ⟨true,1,l'.map aT⟩):=fun x1 x2 x3=>⟨_,by omega,j+1,rfl,by omega,(by rw[x1,ax (by omega)]),x2,x3⟩
  have iH:j<l'.length:=by omega
  have eT:=Hc iH
  have eo:(l'.map aT).set j [.int .i64 (k+j)]=(l'.set j (k+j)).map aT:=by rw[List.map_set];rfl
  have hw:IntKind.i64.wrap (k+(j:Int)+1)=k+((j:Int)+1):=by rw[bE (by omega)];omega
  (try((repeat(revert hN;revert N;apply Pn.out));refine wk (tw @a5 (tw @a1 (tw @a0 (tw @hj (tw @ag (tw @eT (tw @eo @hw))))))) ?_;(repeat(refine Pn.mk ?_;intro N hN))))
  refine cK ?_ ?_ (by(try dsimp only);exact⟨⟨by(try dsimp only);omega,fun x hx hi=>by
   have h2:=aF x hx hi
   have h3:(x=i)=False:=eq_false fun e=>hi (by simp[e])
   simp only[go_sem, ↓reduceIte,Nat.reduceEqDiff,Nat.reduceAdd,Nat.reduceSub,Nat.reduceLeDiff,reduceCtorEq,h2,h3]⟩,l'.set j (k+j),by simp[al],sl @Nat.zero_add⟩)
  all_goals simp only[go_sem, ↓reduceIte,Nat.reduceEqDiff,Nat.reduceAdd,Nat.reduceSub,Nat.reduceLeDiff,reduceCtorEq,a5,a1,a0,hw]
 ·have iH:j=nn:=by omega
  subst iH
  (try((repeat(revert hN;revert N;apply Pn.out));refine wk (tw @a5 (tw @a1 (tw @a0 @hj))) ?_;(repeat(refine Pn.mk ?_;intro N hN))))
  exact fI (.inl rfl) (vs:=[.int .i64 (k+j)]) (sd (tw @a5 (tw @a1 @a0))) ⟨rfl,⟨by(try dsimp only);omega,fun x hx hi=>aF x hx hi⟩⟩
def zy (k:Int) (n:Nat):List ad:=(List.range n).map fun j:Nat=>⟨⟨k+3*(j:Int),k+3*(j:Int)+1⟩,k+3*(j:Int)+2⟩
theorem gY (k:Int) (n:Nat):(zy k n).length=n:=by simp[zy]
theorem Ic (k:Int) (n:Nat):zy k (n+1)=zy k n++[⟨⟨k+3*(n:Int),k+3*(n:Int)+1⟩,k+3*(n:Int)+2⟩]:=by simp[zy,List.range_succ]
def jb (k:Int) (l:List ad) (j:Nat):List ad:=zy k j++l.drop j
theorem AU {k:Int} {l:List ad} {j:Nat} (h:j<=l.length):(jb k l j).length=l.length:=by simp[jb,gY];omega
theorem Es {k:Int} {l:List ad} {j:Nat} (h:j<l.length):((jb k l j).map aa)[j]? =some [.int .i64 l[j].aW.fE,.int .i64 l[j].aW.e8,.int .i64 l[j].aZ]:=by
 rw[List.getElem?_map,jb,List.getElem?_append_right (by rw[gY];omega),gY,Nat.sub_self,List.getElem?_drop,Nat.add_zero,List.getElem?_eq_getElem h];rfl
theorem AW {k:Int} {l:List ad} {j:Nat} (h:j<l.length):((jb k l j).map aa).set j [.int .i64 (k+3*(j:Int)),.int .i64 (k+3*(j:Int)+1),.int .i64 (k+3*(j:Int)+2)]=(jb k l (j+1)).map aa:=by
 have:(jb k l j).set j ⟨⟨k+3*(j:Int),k+3*(j:Int)+1⟩,k+3*(j:Int)+2⟩=jb k l (j+1):=by
  rw[jb,List.set_append_right _ _ (by rw[gY];omega),gY,Nat.sub_self,List.drop_eq_getElem_cons h,List.set_cons_zero,jb,Ic,List.append_assoc];rfl
 rw[<-this,List.map_set];rfl
theorem yP (i:Id) (l:List ad) (k:Int) (h0:0<=k) (h1:k+3*l.length<=4611686018427387904) (σ:ar) (hv:i.bW<σ.next) (hg:σ.get i=some ⟨true,3,l.map aa⟩):
  Call Tryz.prog 59 [.own i 0 l.length,.int .i64 k] σ (fun r σ'=>r=.int .i64 (k+3*l.length)/\sa σ [i] σ'.get σ'.next/\σ'.get i=some ⟨true,3,(zy k l.length).map aa⟩):=by
 refine eO eb rfl fun hl=>?_
 clear hl
 have hz:jb k l 0=l:=by simp[jb,zy]
 (try((repeat(revert hN;revert N;apply Pn.out));refine wk @Nat.zero_add ?_;(repeat(refine Pn.mk ?_;intro N hN))))
 refine aY (fun n env st=>∃j:Nat,n=(l.length)-j/\j<=(l.length)/\env 5=.int .i64 (j:Int)/\env 1=.int .i64 (k+3*j)/\st.get i=some ⟨true,3,(jb k l j).map aa⟩/\(sa σ [i] st.get st.next)) (l.length) ⟨0,by omega,by omega,sl (tw @Int.add_zero (tw @Int.natCast_zero (tw @Int.mul_zero (tw @hz @hg)))),sl (tw @Int.add_zero (tw @Int.natCast_zero (tw @Int.mul_zero (tw @hz @hg)))),sl (tw @Int.add_zero (tw @Int.natCast_zero (tw @Int.mul_zero (tw @hz @hg)))),by(try dsimp only);exact⟨by(try dsimp only);omega,fun x _ _=>rfl⟩⟩ ?_
 rintro n_a env_a st_a ⟨j,rfl,ale,a5,a1,ag0,mJ⟩ dU
 have a0:=dU 0 (by kernel_rfl)
 simp only[go_sem, ↓reduceIte,Nat.reduceEqDiff,Nat.reduceAdd,Nat.reduceSub,Nat.reduceLeDiff,reduceCtorEq,Int.add_zero,Int.natCast_zero,Int.mul_zero,hz,hg]at a0
 clear dU
 obtain⟨an,aF⟩:=mJ
 by_cases hj:(j:Int)<(l.length:Int)
 ·have cK:∀{e:Env} {gg:Rows} {nx:Nat},(e 5=.int .i64 (IntKind.i64.wrap ((j:Int)+1)))->(e 1=.int .i64 (k+3*(j+1)))->(gg i=some ⟨true,3,(jb k l (j+1)).map aa⟩)->(sa σ [i] gg nx)->∃m0,m0<(l.length)-j/\∃j:Nat,m0=(l.length)-j/\j<=(l.length)/\e 5=.int .i64 (j:Int)/\e 1=.int .i64 (k+3*j)/\gg i=some ⟨true,3,(jb k l j).map aa⟩/\(sa σ [i] gg nx):=fun x1 x2 x3 x4=>⟨_,by omega,j+1,rfl,by omega,(by rw[x1,ax (by omega)]),x2,x3,x4⟩
  have iH:j<l.length:=by omega
  have eT:=Es (k:=k) iH
  have eo:=AW (k:=k) iH
  have mc:IntKind.i64.wrap (k+3*(j:Int)+1)=k+3*(j:Int)+1:=bE (by omega)
  have pG:IntKind.i64.wrap (k+3*(j:Int)+1+1)=k+3*(j:Int)+2:=by rw[bE (by omega)];omega
  have HT:IntKind.i64.wrap (k+3*(j:Int)+2+1)=k+3*((j:Int)+1):=by rw[bE (by omega)];omega
  have hlen:((jb k l j).map aa).length=l.length:=by rw[List.length_map,AU (by omega)]
  have HC:∀c:List AV,(((jb k l j).map aa).set j c)[j]? =some c:=fun c=>by rw[List.getElem?_set_self (by rw[hlen];exact iH)]
  (try((repeat(revert hN;revert N;apply Pn.out));refine wk (tw @a5 (tw @a1 (tw @ag0 (tw @a0 (tw @hj (tw @eT (tw @HC (tw @eo (tw @mc (tw @pG (tw @HT (tw @hlen @qI)))))))))))) ?_;(repeat(refine Pn.mk ?_;intro N hN))))
  refine cK ?_ ?_ ?_ (by(try dsimp only);exact⟨by(try dsimp only);omega,fun x hx hi=>by
   have h2:=aF x hx hi
   have h3:(x=i)=False:=eq_false fun e=>hi (by simp[e])
   simp only[go_sem, ↓reduceIte,Nat.reduceEqDiff,Nat.reduceAdd,Nat.reduceSub,Nat.reduceLeDiff,reduceCtorEq,h2,h3]⟩)
  all_goals simp only[go_sem, ↓reduceIte,Nat.reduceEqDiff,Nat.reduceAdd,Nat.reduceSub,Nat.reduceLeDiff,reduceCtorEq,a5,a1,ag0,a0,HT,eo]
 ·have iH:j=l.length:=by omega
  subst iH
  (try((repeat(revert hN;revert N;apply Pn.out));refine wk (tw @a5 (tw @a1 (tw @ag0 (tw @a0 @hj)))) ?_;(repeat(refine Pn.mk ?_;intro N hN))))
  have kK:jb k l l.length=zy k l.length:=by simp[jb]
  rw[kK]at ag0
  exact fI (.inl rfl) (vs:=[.int .i64 (k+3*l.length)]) (sd (tw @a5 (tw @a1 (tw @ag0 @a0)))) ⟨rfl,⟨by(try dsimp only);omega,fun x hx hi=>aF x hx hi⟩,ag0⟩
theorem AO (i:Id) (l:List fj) (k:Int) (h0:0<=k) (h1:k+2*l.length<=4611686018427387904) (σ:ar) (hv:i.bW<σ.next) (hg:σ.get i=some ⟨true,2,l.map bU⟩):
  Call Tryz.prog 138 [.own i 0 l.length,.int .i64 k] σ (fun r σ'=>r=.int .i64 (k+2*l.length)/\sa σ [i] σ'.get σ'.next):=by
 refine eO eb rfl fun hl=>?_
 clear hl
 obtain⟨nn,hn⟩:∃nn,l.length=nn:=⟨_,rfl⟩
 rw[hn]at h1 ⊢
 (try((repeat(revert hN;revert N;apply Pn.out));refine wk @Nat.zero_add ?_;(repeat(refine Pn.mk ?_;intro N hN))))
 refine aY (fun n env st=>∃j:Nat,n=(nn)-j/\j<=(nn)/\env 5=.int .i64 (j:Int)/\env 1=.int .i64 (k+2*j)/\(sa σ [i] st.get st.next/\∃l':List fj,l'.length=nn/\st.get i=some ⟨true,2,l'.map bU⟩)) (nn) ⟨0,by omega,by omega,sl (tw @Int.add_zero (tw @Int.natCast_zero @Int.mul_zero)),sl (tw @Int.add_zero (tw @Int.natCast_zero @Int.mul_zero)),by(try dsimp only);exact⟨⟨by(try dsimp only);omega,fun x _ _=>rfl⟩,l,hn,hg⟩⟩ ?_
 rintro n_a env_a st_a ⟨j,rfl,ale,a5,a1,mJ⟩ dU
 have a0:=dU 0 (by kernel_rfl)
 simp only[go_sem, ↓reduceIte,Nat.reduceEqDiff,Nat.reduceAdd,Nat.reduceSub,Nat.reduceLeDiff,reduceCtorEq,Int.add_zero,Int.natCast_zero,Int.mul_zero]at a0
 clear dU
 obtain⟨⟨an,aF⟩,l',al,ag⟩:=mJ
 by_cases hj:(j:Int)<(nn:Int)
 ·have cK:∀{e:Env} {gg:Rows} {nx:Nat},(e 5=.int .i64 (IntKind.i64.wrap ((j:Int)+1)))->(e 1=.int .i64 (k+2*(j+1)))->(sa σ [i] gg nx/\∃l':List fj,l'.length=nn/\gg i=some ⟨true,2,l'.map bU⟩)->∃m0,m0<(nn)-j/\∃j:Nat,m0=(nn)-j/\j<=(nn)/\e 5=.int .i64 (j:Int)/\e 1=.int .i64 (k+2*j)/\(sa σ [i] gg nx/\∃l':List fj,l'.length=nn/\gg i=some ⟨true,2,l'.map bU⟩):=fun x1 x2 x3=>⟨_,by omega,j+1,rfl,by omega,(by rw[x1,ax (by omega)]),x2,x3⟩
  have iH:j<l'.length:=by omega
  have eT:(l'.map bU)[j]? =some [.str l'[j].aC,.int .i64 l'[j].eh]:=by simp[iH,bU]
  have hlen:(l'.map bU).length=nn:=by rw[List.length_map,al]
  have HC:∀c:List AV,((l'.map bU).set j c)[j]? =some c:=fun c=>by rw[List.getElem?_set_self (by rw[List.length_map];exact iH)]
  have ht:=uI (k+2*(j:Int)) (by omega) (by omega)
  have mc:IntKind.i64.wrap (k+2*(j:Int)+1)=k+2*(j:Int)+1:=bE (by omega)
  have pG:IntKind.i64.wrap (k+2*(j:Int)+1+1)=k+2*((j:Int)+1):=by rw[bE (by omega)];omega
  generalize nT (k+2*(j:Int))=mt at ht
  have eo:(l'.map bU).set j [.str mt,.int .i64 (k+2*(j:Int)+1)]=(l'.set j ⟨mt,k+2*(j:Int)+1⟩).map bU:=by rw[List.map_set];rfl
  (repeat(first|((repeat(revert hN;revert N;apply Pn.out));refine wk (tw @a5 (tw @a1 (tw @a0 (tw @hj (tw @ag (tw @eT (tw @HC (tw @eo (tw @mc (tw @pG (tw @hlen @qI))))))))))) ?_;(repeat(refine Pn.mk ?_;intro N hN)))|((try apply Or.inl);refine⟨_,ak.x (ht) (sd (tw @a5 (tw @a1 (tw @a0 (tw @hj (tw @ag (tw @eT (tw @HC (tw @eo (tw @mc (tw @pG (tw @hlen @qI)))))))))))),?_⟩;refine hN _ _ ?_;clear hN N)))
  refine cK ?_ ?_ (by(try dsimp only);exact⟨⟨by(try dsimp only);omega,fun x hx hi=>by
   have h2:=aF x hx hi
   have h3:(x=i)=False:=eq_false fun e=>hi (by simp[e])
   simp only[go_sem, ↓reduceIte,Nat.reduceEqDiff,Nat.reduceAdd,Nat.reduceSub,Nat.reduceLeDiff,reduceCtorEq,h2,h3]⟩,l'.set j ⟨mt,k+2*(j:Int)+1⟩,by simp[al],sl @Nat.zero_add⟩)
  all_goals simp only[go_sem, ↓reduceIte,Nat.reduceEqDiff,Nat.reduceAdd,Nat.reduceSub,Nat.reduceLeDiff,reduceCtorEq,a5,a1,a0,pG,eo]
 ·have iH:j=nn:=by omega
  subst iH
  (try((repeat(revert hN;revert N;apply Pn.out));refine wk (tw @a5 (tw @a1 (tw @a0 @hj))) ?_;(repeat(refine Pn.mk ?_;intro N hN))))
  exact fI (.inl rfl) (vs:=[.int .i64 (k+2*j)]) (sd (tw @a5 (tw @a1 @a0))) ⟨rfl,⟨by(try dsimp only);omega,fun x hx hi=>aF x hx hi⟩⟩
theorem hZ.flat {α:Type} {e:α->List AV} {z:Nat} {g:Rows} {a:AV} {xs:List α} {ids:List Id} (h:hZ (kR e) z g a xs ids):∃o,a=.own o 0 xs.length/\g o=some ⟨true,z,xs.map e⟩/\ids=[o]:=by
 obtain⟨o,rows,is,h1,h2,h3,rfl⟩:=h
 have:∀{rows:List (List AV)} {xs:List α} {is:List Id},ev (kR e) g rows xs is->rows=xs.map e/\is=[]:=fun h=>by
  induction h with
  |nil=>exact⟨rfl,rfl⟩
  |cons h1 _ ih=>obtain⟨rfl,rfl⟩:=h1;obtain⟨rfl,rfl⟩:=ih;exact⟨rfl,rfl⟩
 obtain⟨rfl,rfl⟩:=this h3
 exact⟨o,h1,h2,rfl⟩
def gm (t:eI):Nat:=1+t.bB.length
theorem AP (a:AV) (l:List eI) (ids:List Id) (k:Int) (h0:0<=k) (Kb:l.length<=1048576) (h1:k+(l.map gm).sum<=4611686018427387904) (σ:ar) (hv:∀i∈ids,i.bW<σ.next) (lY:ids.Nodup) (hg:hZ ny 2 σ.get a l ids):
  Call Tryz.prog 139 [a,.int .i64 k] σ (fun r σ'=>r=.int .i64 (k+(l.map gm).sum)/\sa σ ids σ'.get σ'.next):=by
 obtain⟨o,rows,is,rfl,ho,hR,rfl⟩:=hg
 refine eO eb rfl fun hl=>?_
 clear hl
 have s4:=hv o (by simp)
 have LM:=lT gm l
 (try((repeat(revert hN;revert N;apply Pn.out));refine wk @Nat.zero_add ?_;(repeat(refine Pn.mk ?_;intro N hN))))
 refine aY (fun n env st=>∃j:Nat,n=(l.length)-j/\j<=(l.length)/\env 5=.int .i64 (j:Int)/\env 1=.int .i64 (k+il gm l j)/\(sa σ (o::is) st.get st.next/\∃pre rest ir,st.get o=some ⟨true,2,pre++rest⟩/\pre.length=j/\ev ny st.get rest (l.drop j) ir/\(o::ir).Nodup/\∀i∈ir,i∈is)) (l.length) ⟨0,by omega,by omega,sl (tw @Int.add_zero (tw @Int.natCast_zero @LM)),sl (tw @Int.add_zero (tw @Int.natCast_zero @LM)),by(try dsimp only);exact⟨⟨by(try dsimp only);omega,fun x _ _=>rfl⟩,[],rows,is,ho,rfl,hR,lY,fun _ h=>h⟩⟩ ?_
 rintro n_a env_a st_a ⟨j,rfl,ale,a5,a1,mJ⟩ dU
 have a0:=dU 0 (by kernel_rfl)
 simp only[go_sem, ↓reduceIte,Nat.reduceEqDiff,Nat.reduceAdd,Nat.reduceSub,Nat.reduceLeDiff,reduceCtorEq,Int.add_zero,Int.natCast_zero,LM]at a0
 clear dU
 obtain⟨⟨an,aF⟩,pre,rest,ir,ag,apl,aR,aN,aS⟩:=mJ
 by_cases hj:(j:Int)<(l.length:Int)
 ·have cK:∀{e:Env} {gg:Rows} {nx:Nat},(e 5=.int .i64 (IntKind.i64.wrap ((j:Int)+1)))->(e 1=.int .i64 (k+il gm l (j+1)))->(sa σ (o::is) gg nx/\∃pre rest ir,gg o=some ⟨true,2,pre++rest⟩/\pre.length=(j+1)/\ev ny gg rest (l.drop (j+1)) ir/\(o::ir).Nodup/\∀i∈ir,i∈is)->∃m0,m0<(l.length)-j/\∃j:Nat,m0=(l.length)-j/\j<=(l.length)/\e 5=.int .i64 (j:Int)/\e 1=.int .i64 (k+il gm l j)/\(sa σ (o::is) gg nx/\∃pre rest ir,gg o=some ⟨true,2,pre++rest⟩/\pre.length=j/\ev ny gg rest (l.drop j) ir/\(o::ir).Nodup/\∀i∈ir,i∈is):=fun x1 x2 x3=>⟨_,by omega,j+1,rfl,by omega,(by rw[x1,ax (by omega)]),x2,x3⟩
  have iH:j<l.length:=by omega
  have Ny:=vg gm iH
  have hle:=pa gm l (j+1)
  obtain⟨t,htj⟩:∃t,l[j]=t:=⟨_,rfl⟩
  rw[List.drop_eq_getElem_cons iH,htj]at aR
  rw[htj]at Ny
  cases aR with
  | @cons cs _ ic rs _ i2 hT M0=>
  obtain⟨i,rfl,hi,rfl⟩:=hT
  rw[List.singleton_append]at aN aS
  obtain⟨n1,n2⟩:=List.nodup_cons.1 aN
  obtain⟨n3,n4⟩:=List.nodup_cons.1 n2
  have OS:(o=i)=False:=eq_false fun e=>n1 (by simp[e])
  have ON:(i=o)=False:=eq_false fun e=>n1 (by simp[e])
  have hiv:i.bW<σ.next:=hv i (by simp[aS i (by simp)])
  have Qe:gm t=1+t.bB.length:=rfl
  have ht:=uI (k+(il gm l j:Nat)) (by omega) (by omega)
  have mc:IntKind.i64.wrap (k+(il gm l j:Nat)+1)=k+(il gm l j:Nat)+1:=bE (by omega)
  generalize nT (k+(il gm l j:Nat))=mt at ht
  have eT:(pre++[.str t.aC,.own i 0 t.bB.length]::rs)[j]? =some [.str t.aC,.own i 0 t.bB.length]:=by subst apl;simp
  have eo:(pre++[.str t.aC,.own i 0 t.bB.length]::rs).set j [.str mt,.own i 0 t.bB.length]=pre++[.str mt,.own i 0 t.bB.length]::rs:=by subst apl;simp
  have Lz:(pre++[.str mt,.own i 0 t.bB.length]::rs)[j]? =some [.str mt,.own i 0 t.bB.length]:=by subst apl;simp
  (repeat(first|((repeat(revert hN;revert N;apply Pn.out));refine wk (tw @a5 (tw @a1 (tw @a0 (tw @hj (tw @ag (tw @eT (tw @eo (tw @Lz (tw @mc (tw @OS (tw @ON @hi))))))))))) ?_;(repeat(refine Pn.mk ?_;intro N hN)))|((try apply Or.inl);refine⟨_,ak.x (ht) (sd (tw @a5 (tw @a1 (tw @a0 (tw @hj (tw @ag (tw @eT (tw @eo (tw @Lz (tw @mc (tw @OS (tw @ON @hi)))))))))))),?_⟩;refine hN _ _ ?_;clear hN N)))
  refine .inr (aE _ _ _ _ _ (fun r σ1 hq=>?_) (CY i t.bB (k+(il gm l j:Nat)+1) (by omega) (by omega) _ (by(try dsimp only);omega) (sd (tw @OS (tw @ON @hi)))))
  obtain⟨g1,x1⟩:=σ1
  obtain⟨rfl,xc,l9⟩:=hq
  (try dsimp only at xc l9)
  refine hN _ _ ?_
  clear hN N
  have Tb:k+(il gm l j:Nat)+1+t.bB.length=k+(il gm l (j+1):Nat):=by omega
  (try((repeat(revert hN;revert N;apply Pn.out));refine wk (tw @a5 (tw @a1 (tw @a0 @Tb))) ?_;(repeat(refine Pn.mk ?_;intro N hN))))
  have gk:∀x:Id,x.bW<σ.next->x≠o->x≠i->g1 x=st_a.get x:=fun x hx h3 h4=>by
   have h2:=l9 x (by(try dsimp only);omega) (by simp[h4])
   have h5:=eq_false h3
   simp only[go_sem, ↓reduceIte,Nat.reduceEqDiff,Nat.reduceAdd,Nat.reduceSub,Nat.reduceLeDiff,reduceCtorEq,h5]at h2
   exact h2
  have go:=l9 o (by(try dsimp only);omega) (by simp only[List.mem_singleton];exact fun e=>n1 (by simp[e]))
  simp only[go_sem, ↓reduceIte,Nat.reduceEqDiff,Nat.reduceAdd,Nat.reduceSub,Nat.reduceLeDiff,reduceCtorEq]at go
  refine cK ?_ ?_ (by(try dsimp only);exact⟨⟨by(try dsimp only);omega,fun x hx hi=>by
   have h3:x≠o:=fun e=>hi (by simp[e])
   have h4:x≠i:=fun e=>hi (by simp[e,aS i (by simp)])
   rw[gk x hx h3 h4]
   exact aF x hx hi⟩,pre++[[.str mt,.own i 0 t.bB.length]],rs,i2,by rw[go];simp,by simp[apl],M0.frame pR (fun x hx=>gk x (hv x (by simp[aS x (by simp[hx])])) (fun e=>n1 (by simp[<-e,hx])) (fun e=>n3 (by rw[<-e];exact hx))),List.nodup_cons.2 ⟨fun h=>n1 (by simp[h]),n4⟩,fun x hx=>aS x (by simp[hx])⟩)
  all_goals simp only[go_sem, ↓reduceIte,Nat.reduceEqDiff,Nat.reduceAdd,Nat.reduceSub,Nat.reduceLeDiff,reduceCtorEq,a5,a1,a0,Tb]
 ·have iH:j=l.length:=by omega
  subst iH
  have dH:=Bi gm l
  rw[dH]at a1
  (try((repeat(revert hN;revert N;apply Pn.out));refine wk (tw @a5 (tw @a1 (tw @a0 @hj))) ?_;(repeat(refine Pn.mk ?_;intro N hN))))
  exact fI (.inl rfl) (vs:=[.int .i64 (k+(l.map gm).sum)]) (sd (tw @a5 (tw @a1 @a0))) ⟨rfl,⟨by(try dsimp only);omega,fun x hx hi=>aF x hx hi⟩⟩
theorem xq (v:AV) (p:dY) (ids:List Id) (k:Int) (h0:0<=k) (h1:k+3*p.ah.length<=4611686018427387904) (σ:ar) (hv:∀i∈ids,i.bW<σ.next) (hg:xK σ.get v p ids):
  Call Tryz.prog 25 [v,.int .i64 k] σ (fun r σ'=>r=.int .i64 (k+3*p.ah.length)/\sa σ ids σ'.get σ'.next):=by
 obtain⟨c,rfl,hc⟩:=hg
 obtain⟨o,rfl,ho,rfl⟩:=hc.flat
 refine eO eb rfl fun hl=>?_
 clear hl
 have s4:=ef (hv o (by simp))
 have Kd:=hv o (by simp)
 (try((repeat(revert hN;revert N;apply Pn.out));refine wk @Nat.zero_add ?_;(repeat(refine Pn.mk ?_;intro N hN))))
 refine .inr (aE _ _ _ _ _ (fun r σ1 hq=>?_) (yP o p.ah k h0 h1 _ (by(try dsimp only);omega) (sd (tw @s4 @ho))))
 obtain⟨g1,x1⟩:=σ1
 obtain⟨rfl,⟨xc,l9⟩,_⟩:=hq
 (try dsimp only at xc l9)
 refine hN _ _ ?_
 clear hN N
 (try((repeat(revert hN;revert N;apply Pn.out));refine wk @Nat.zero_add ?_;(repeat(refine Pn.mk ?_;intro N hN))))
 exact fI (.inl rfl) (vs:=[.int .i64 (k+3*p.ah.length)]) (sd @Nat.zero_add) ⟨rfl,⟨by(try dsimp only);omega,fun x hx hi=>by
  have h2:=l9 x (by(try dsimp only);omega) hi
  have h3:=ef hx
  simp only[go_sem, ↓reduceIte,Nat.reduceEqDiff,Nat.reduceAdd,Nat.reduceSub,Nat.reduceLeDiff,reduceCtorEq,h3]at h2
  exact h2⟩⟩
def AN (s:aU):Nat:=2*s.aV.au.length+(s.aV.ah.map gm).sum+3*s.bf.ah.length
theorem FR (a b:AV) (p:aq) (i1 i2:List Id) (k:Int) (h0:0<=k) (Kb:p.ah.length<=1048576) (h1:k+2*p.au.length+(p.ah.map gm).sum<=4611686018427387904) (σ:ar) (hv:∀i∈i1++i2,i.bW<σ.next) (lY:(i1++i2).Nodup)
  (hA:hZ (kR bU) 2 σ.get a p.au i1) (hB:hZ ny 2 σ.get b p.ah i2):
  Call Tryz.prog 67 [.agg [a,b],.int .i64 k] σ (fun r σ'=>r=.int .i64 (k+2*p.au.length+(p.ah.map gm).sum)/\sa σ (i1++i2) σ'.get σ'.next):=by
 obtain⟨_,n2,n3⟩:=List.nodup_append.1 lY
 obtain⟨o,rfl,ho,rfl⟩:=hA.flat
 obtain⟨ob,rfl⟩:=hB.kj
 refine eO eb rfl fun hl=>?_
 clear hl
 have Kd:=hv o (by simp)
 have s4:=ef Kd
 (try((repeat(revert hN;revert N;apply Pn.out));refine wk @Nat.zero_add ?_;(repeat(refine Pn.mk ?_;intro N hN))))
 refine .inr (aE _ _ _ _ _ (fun r σ1 hq=>?_) (AO o p.au k h0 (by omega) _ (by(try dsimp only);omega) (sd (tw @s4 @ho))))
 obtain⟨g1,x1⟩:=σ1
 obtain⟨rfl,xc,l9⟩:=hq
 (try dsimp only at xc l9)
 refine hN _ _ ?_
 clear hN N
 have k1:=l9 ⟨67000000,σ.next⟩ (by(try dsimp only);omega) (by simp only[List.mem_singleton];intro e;rw[<-e]at Kd;(try dsimp only at Kd);omega)
 simp only[go_sem, ↓reduceIte,Nat.reduceEqDiff,Nat.reduceAdd,Nat.reduceSub,Nat.reduceLeDiff,reduceCtorEq]at k1
 (try((repeat(revert hN;revert N;apply Pn.out));refine wk @k1 ?_;(repeat(refine Pn.mk ?_;intro N hN))))
 have hf:∀x:Id,x.bW<σ.next->x≠o->g1 x=σ.get x:=fun x hx ho=>by
  have h2:=l9 x (by(try dsimp only);omega) (by simp[ho])
  have h3:=ef hx
  simp only[go_sem, ↓reduceIte,Nat.reduceEqDiff,Nat.reduceAdd,Nat.reduceSub,Nat.reduceLeDiff,reduceCtorEq,h3]at h2
  exact h2
 refine .inr (aE _ _ _ _ _ (fun r σ2 hq=>?_) (AP _ p.ah i2 (k+2*p.au.length) (by omega) Kb h1 _ (fun i hi=>by have:=hv i (by simp[hi]);(try dsimp only);omega) n2 (hB.frame pR fun i hi=>hf i (hv i (by simp[hi])) fun e=>n3 o (by simp) i hi e.symm)))
 obtain⟨g2,x2⟩:=σ2
 obtain⟨rfl,Qm,Fv⟩:=hq
 (try dsimp only at Qm Fv)
 refine hN _ _ ?_
 clear hN N
 (try((repeat(revert hN;revert N;apply Pn.out));refine wk @Nat.zero_add ?_;(repeat(refine Pn.mk ?_;intro N hN))))
 exact fI (.inl rfl) (vs:=[.int .i64 (k+2*p.au.length+(p.ah.map gm).sum)]) (sd @Nat.zero_add) ⟨rfl,⟨by(try dsimp only);omega,fun x hx hi=>(Fv x (by(try dsimp only);omega) fun h=>hi (by simp[h])).trans (hf x hx fun e=>hi (by simp[e]))⟩⟩
theorem FT (v:AV) (p:aU) (ids:List Id) (k:Int) (h0:0<=k) (Kb:p.aV.ah.length<=1048576) (h1:k+AN p<=4611686018427387904) (σ:ar) (hv:∀i∈ids,i.bW<σ.next) (lY:ids.Nodup) (hg:zC σ.get v p ids):
  Call Tryz.prog 23 [v,.int .i64 k] σ (fun r σ'=>r=.int .i64 (k+AN p)/\sa σ ids σ'.get σ'.next):=by
 obtain⟨a,b,c,i1,i2,i3,rfl,hA,hB,hC,rfl⟩:=hg.ex
 rw[<-List.append_assoc]at lY
 obtain⟨n1,_,n3⟩:=List.nodup_append.1 lY
 obtain⟨oa,rfl⟩:=hA.kj
 obtain⟨ob,rfl⟩:=hB.kj
 obtain⟨oc,rfl⟩:=hC.kj
 have hm:(AN p:Int)=2*p.aV.au.length+(p.aV.ah.map gm).sum+3*p.bf.ah.length:=by simp[AN]
 refine eO eb rfl fun hl=>?_
 clear hl
 have Sq:∀x∈i1++(i2++i3),bH σ.get ⟨23000000,σ.next⟩ ⟨true,4,[[.own oa 0 p.aV.au.length,.own ob 0 p.aV.ah.length,.own oc 0 p.bf.ah.length,.int .i64 p.aB]]⟩ x=σ.get x:=fun x hx=>by
  have:=ef (hv x hx)
  simp only[go_sem, ↓reduceIte,Nat.reduceEqDiff,Nat.reduceAdd,Nat.reduceSub,Nat.reduceLeDiff,reduceCtorEq,this]
 (try((repeat(revert hN;revert N;apply Pn.out));refine wk @Nat.zero_add ?_;(repeat(refine Pn.mk ?_;intro N hN))))
 refine .inr (aE _ _ _ _ _ (fun r σ1 hq=>?_) (FR _ _ p.aV i1 i2 k h0 Kb (by omega) _ (fun i hi=>by have:=hv i (by rcases List.mem_append.1 hi with h|h<;>simp[h]);(try dsimp only);omega) n1 (hA.frame z7 fun i hi=>Sq i (by simp[hi])) (hB.frame pR fun i hi=>Sq i (by simp[hi]))))
 obtain⟨g1,x1⟩:=σ1
 obtain⟨rfl,xc,l9⟩:=hq
 (try dsimp only at xc l9)
 refine hN _ _ ?_
 clear hN N
 have k1:=l9 ⟨23000000,σ.next⟩ (by(try dsimp only);omega) (fun h=>by
  have:=hv ⟨23000000,σ.next⟩ (by rcases List.mem_append.1 h with h|h<;>simp[h])
  (try dsimp only at this);omega)
 simp only[go_sem, ↓reduceIte,Nat.reduceEqDiff,Nat.reduceAdd,Nat.reduceSub,Nat.reduceLeDiff,reduceCtorEq]at k1
 (try((repeat(revert hN;revert N;apply Pn.out));refine wk @k1 ?_;(repeat(refine Pn.mk ?_;intro N hN))))
 refine .inr (aE _ _ _ _ _ (fun r σ2 hq=>?_) (xq _ p.bf i3 (k+2*p.aV.au.length+(p.aV.ah.map gm).sum) (by omega) (by omega) _ (fun i hi=>by have:=hv i (by simp[hi]);(try dsimp only);omega) ⟨_,rfl,hC.frame wV fun i hi=>?_⟩))
 rotate_left
 ·exact(l9 i (by have:=hv i (by simp[hi]);(try dsimp only);omega) fun h=>n3 i h i hi rfl).trans (Sq i (by simp[hi]))
 obtain⟨g2,x2⟩:=σ2
 obtain⟨rfl,Qm,Fv⟩:=hq
 (try dsimp only at Qm Fv)
 refine hN _ _ ?_
 clear hN N
 (try((repeat(revert hN;revert N;apply Pn.out));refine wk @Nat.zero_add ?_;(repeat(refine Pn.mk ?_;intro N hN))))
 exact fI (.inl rfl) (vs:=[.int .i64 (k+2*p.aV.au.length+(p.aV.ah.map gm).sum+3*p.bf.ah.length)]) (sd @Nat.zero_add) ⟨by rw[hm];exact congrArg (AV.int .i64) (by omega),⟨by(try dsimp only);omega,fun x hx hi=>by
  have h2:=Fv x (by(try dsimp only);omega) fun h=>hi (by simp[h])
  have h3:=l9 x (by(try dsimp only);omega) fun h=>hi (by rcases List.mem_append.1 h with h|h<;>simp[h])
  have h4:=ef hx
  simp only[go_sem, ↓reduceIte,Nat.reduceEqDiff,Nat.reduceAdd,Nat.reduceSub,Nat.reduceLeDiff,reduceCtorEq,h4]at h3
  exact h2.trans h3⟩⟩
end Go.Proofs.YtgoljkjaameagaaGreat.V

namespace Go.Proofs.YtgoljkjaameagaaGreat.V
open Go.RowKit
def AV.clean:AV->Bool
 | .int .. | .bool _| .str _| .bP| .gI| .jc| .jl| .own .. | .ptr .. | .map .. | .rm _=>true
 | .sl l=>l.isEmpty
 |_=>false
def AV.rq:AV->Bool
 | .agg cs=>cs.all AV.clean
 | .ij cs=>cs.all fun a=>match a with
  | .agg cs=>cs.all AV.clean
  |a=>a.clean
 |a=>a.clean
def xG (ids:List Id) (g g':Rows):Rows:=fun id=>if id∈ids then g' id else g id
theorem oi {ids:List Id} {g g':Rows} {id:Id} (h:id∈ids):xG ids g g' id=g' id:=if_pos h
theorem lV {ids:List Id} {g g':Rows} {id:Id} (h:id∉ids):xG ids g g' id=g id:=if_neg h
section
variable {P:Program} {w w':World} {D D' D1 D2:Nat->Prop} {ι ι1 ι2:Names}
theorem jz {a:AV} {v:Value} (hp:a.clean=true) (h:cV P w D1 ι1 a v):cV P w D2 ι1 a v:=by
 cases h with
 |eH a v h=>
  cases h with
  |int=>exact .eH _ _ (.int _ _)
  |bool=>exact .eH _ _ (.bool _)
  |str=>exact .eH _ _ (.str _)
  |bP=>exact .eH _ _ .bP
  |gI=>exact .eH _ _ .gI
  |jc=>exact .eH _ _ .jc
  |jl=>exact .eH _ _ .jl
  |BI a c h=>exact .eH _ _ (.BI a c h)
  |sl rows b o n c sz vs h1 h2 h3=>
   have:rows=[]:=by simpa[AV.clean]using hp
   subst this
   simp only[List.length_nil]at h1
   subst h1
   exact .eH _ _ (.BI _ _ h3)
  |cN=>simp[AV.clean]at hp
  |agg=>simp[AV.clean]at hp
  |fn=>simp[AV.clean]at hp
 |own id off len o cap B h1 h2 h3 h4 h5 h6=>exact .own id off len o cap B h1 h2 h3 h4 h5 h6
 |map id m B h1 h2=>exact .map id m B h1 h2
 |rm id c B h1 h2=>exact .rm id c B h1 h2
 |ptr id i off B h1 h2=>exact .ptr id i off B h1 h2
 |agg=>simp[AV.clean]at hp
 |ij=>simp[AV.clean]at hp
 |fn=>simp[AV.clean]at hp
 |tC=>simp[AV.clean]at hp
theorem lj {cs:List AV} {v:Value} (hc:cs.all AV.clean=true) (h:cV P w D1 ι1 (.agg cs) v):cV P w D2 ι1 (.agg cs) v:=by
 obtain⟨vs,f,rfl,h1,h2,h3,h4⟩:=iA h
 rw[List.all_eq_true]at hc
 exact .agg cs vs f h1 h2 h3 fun j a ha=>jz (hc a (List.mem_of_getElem? ha)) (h4 j a ha)
theorem C8 {a:AV} {v:Value} (hp:a.rq=true) (h:cV P w D1 ι1 a v):cV P w D2 ι1 a v:=by
 cases a with
 |agg cs=>exact lj hp h
 |ij cs=>
  obtain⟨vs,f,rfl,h1,h3,h4⟩:=tE h
  simp only[AV.rq,List.all_eq_true]at hp
  refine .ij cs vs f h1 h3 fun j a ha=>?_
  have:=hp a (List.mem_of_getElem? ha)
  split at this
  ·exact lj this (h4 j _ ha)
  ·exact jz this (h4 j _ ha)
 |_=>exact jz hp h
theorem C5 {ag:Bool} {n:Nat} {cs:List AV} {x:AV} {v:Value} (hc:∀a∈cs,a.clean=true) (hp:part ag n cs=some x) (hr:cV P w D1 ι1 x v):cV P w D2 ι1 x v:=by
 unfold part at hp
 split at hp
 ·split at hp
  ·simp only[Option.some.injEq]at hp;subst hp
   exact lj (List.all_eq_true.2 fun a ha=>hc a (List.mem_of_mem_take ha)) hr
  ·cases hp
 ·exact jz (hc x (List.mem_of_mem_head? hp)) hr
theorem iq.clean {B:r9} {r:Row} (R:iq P w D1 ι1 B r) (h:∀cs∈r.rows,∀a∈cs,a.clean=true):iq P w D2 ι1 B r:=
 ⟨R.sz,R.flat,fun hk=>⟨R.sz,(R.row hk).wL,(R.row hk).fits,(R.row hk).len,R.flat,fun i j cs a hi hj=>by
  obtain⟨v,q1,q2⟩:=(R.row hk).at_ i j cs a hi hj
  exact⟨v,q1,jz (h cs (List.mem_of_getElem? hi) a (List.mem_of_getElem? hj)) q2⟩⟩,fun m hm=>by
  obtain⟨h1,es,c,h2,h3,h5,h4⟩:=R.map m hm
  refine⟨h1,es,c,h2,h3,h5,fun i cs hi=>?_⟩
  obtain⟨e,kv,vv,q1,q2,q3,q4,q5⟩:=h4 i cs hi
  have hc:=h cs (List.mem_of_getElem? hi)
  exact⟨e,kv,vv,q1,q2,q3,C5 hc q2 q4,jz (hc vv (List.mem_of_getElem? q3)) q5⟩,fun c hc=>by
  obtain⟨h1,buf,s,q,h2,h3,h4⟩:=R.chan c hc
  refine⟨h1,buf,s,q,h2,h3,fun i cs hi=>?_⟩
  obtain⟨a,u,rfl,q2,q3⟩:=h4 i cs hi
  exact⟨a,u,rfl,q2,jz (h [a] (List.mem_of_getElem? hi) a (by simp)) q3⟩⟩
def Handed (ids:List Id) (g:Rows):Prop:=∀id∈ids,∃r,g id=some r/\r.w=true/\∀cs∈r.rows,∀a∈cs,a.clean=true
theorem Gq {f:Nat} {args eD:List AV} {g:Rows} {n:Nat} {K:AV->ar->Prop} (hv:cI (dd g) 6 args=some eD)
  (h:Sound P f eD ⟨fun _=>none,n⟩ fun r σ'=>∃ids,r.rq=true/\Handed ids σ'.get/\K r ⟨xG ids g σ'.get,σ'.next⟩):Sound P f args ⟨g,n⟩ K:=by
 intro hs D ι w vs S U A
 let E:Nat->Prop:=fun b=>D b∨∃id r B,g id=some r/\ι id=some B/\b=B.b
 have lt:∀id r B,g id=some r->ι id=some B->B.b<w.heap.size:=fun id r B h1 h2=>by
  obtain⟨B',dJ,R,_⟩:=S.row id r h1
  rw[h2]at dJ;injection dJ with dJ;subst dJ
  exact R.lt
 have S0:gp P w.heap.size E ι (fun _=>none) w:=⟨Nat.le_refl _,fun b hb=>by
  rcases hb with hb|⟨id,r,B,h1,h2,rfl⟩
  ·exact S.dead b hb
  ·exact lt id r B h1 h2,fun id r h=>(by cases h),fun id ki r r' B B' h=>(by cases h)⟩
 obtain⟨l1,l2⟩:=gj hv
 have A':eZ P w E ι eD vs:=⟨by rw[A.1,l1],fun j a hj=>by
  obtain⟨a0,kI,hz⟩:=l2 j a hj
  obtain⟨u,hu,hr⟩:=A.2 j a0 kI
  refine⟨u,hu,(qj (D2:=E) (ι2:=ι) (fun b h=>.inl h) (fun id row hg hw=>?_) 6 a0 u a hr hz).1⟩
  unfold dd at hg
  simp only[Option.map_eq_some_iff]at hg
  obtain⟨r,np,rfl⟩:=hg
  obtain⟨B,hB,R,_,_⟩:=S.row id r np
  exact⟨B,hB,R.flag true,.inr ⟨id,r,B,np,hB,rfl⟩⟩⟩
 refine(h w.heap.size E ι w vs S0 U A').mono ?_
 rintro e w' ⟨r0,g',n',D2,ι1,u,rfl,⟨ids,lI,hid,hK⟩,T,S1,U1,hn,hR⟩
 have hb:∀b,b<w.heap.size->w'.heap[b]? =w.heap[b]? :=T.below.block
 have hz:=T.below.size
 have frame:∀{a v},cV P w D ι a v->cV P w' D ι1 a v:=fun h=>h.frame (fun b hd=>hb b (S.dead b hd)) (fun _ h=>h) T.names
 refine⟨r0,_,n',D,ι1,u,rfl,hK,⟨T.below.mono S.lo,fun b hd=>hb b (S.dead b hd),fun _ h=>h,T.names,fun _ h=>.inl h⟩,⟨Nat.le_trans S.lo hz,fun b hd=>Nat.lt_of_lt_of_le (S.dead b hd) hz,fun id r hr=>?_,fun QB id2 r1 r2 B1 B2 h1 h2 hw zt oU Lu=>?_⟩,U1,hn,C8 lI hR⟩
 ·by_cases hi:id∈ids
  ·rw[oi hi]at hr
   obtain⟨r',np,hw,hcr⟩:=hid id hi
   rw[hr]at np;injection np with np;subst np
   obtain⟨B,hB,R,k1,k2⟩:=S1.row id r hr
   have iv:=k1 hw
   exact⟨B,hB,R.clean hcr,fun _=>Nat.le_trans S.lo iv,fun _ hd=>Nat.lt_irrefl _ (Nat.lt_of_lt_of_le (S.dead _ hd) iv)⟩
  ·rw[lV hi]at hr
   obtain⟨B,hB,R,k1,k2⟩:=S.row id r hr
   have hBl:=lt id r B hr hB
   exact⟨B,T.names _ _ hB,R.frame (hb _ hBl) fun a v h=>frame h,k1,k2⟩
 ·have new:∀{id r B},id∈ids->xG ids g g' id=some r->ι1 id=some B->w.heap.size<=B.b/\g' id=some r/\r.w=true:=fun {id r B} hi hr hB=>by
   rw[oi hi]at hr
   obtain⟨r',np,hw,_⟩:=hid id hi
   replace np:g' id=some r':=np
   rw[hr]at np;injection np with np;subst np
   obtain⟨B',dJ,_,k1,_⟩:=S1.row id r hr
   rw[hB]at dJ;injection dJ with dJ;subst dJ
   exact⟨k1 hw,hr,hw⟩
  have A6:∀{id r B},id∉ids->xG ids g g' id=some r->ι1 id=some B->B.b<w.heap.size/\g id=some r/\ι id=some B:=fun {id r B} hi hr hB=>by
   rw[lV hi]at hr
   obtain⟨B',dJ,_⟩:=S.row id r hr
   have:=T.names _ _ dJ
   rw[hB]at this;injection this with this;subst this
   exact⟨lt id r _ hr dJ,hr,dJ⟩
  by_cases i1:QB∈ids
  ·obtain⟨a1,a2,a3⟩:=new i1 h1 zt
   by_cases i2:id2∈ids
   ·obtain⟨b1,b2,b3⟩:=new i2 h2 oU
    exact S1.inj QB id2 r1 r2 B1 B2 a2 b2 hw zt oU Lu
   ·obtain⟨b1,_⟩:=A6 i2 h2 oU
    omega
  ·obtain⟨a1,a2,a3⟩:=A6 i1 h1 zt
   by_cases i2:id2∈ids
   ·obtain⟨b1,_⟩:=new i2 h2 oU
    omega
   ·obtain⟨b1,b2,b3⟩:=A6 i2 h2 oU
    exact S.inj QB id2 r1 r2 B1 B2 a2 b2 hw a3 b3 Lu
theorem tM (hm:P.follows .mixedOrders=true) {f:Nat} {args eD:List AV} {σ:ar} {K:AV->ar->Prop} (hv:cI (dd σ.get) 6 args=some eD)
  (h:Call P f eD ⟨fun _=>none,σ.next⟩ fun r σ'=>∃ids,r.rq=true/\Handed ids σ'.get/\K r ⟨xG ids σ.get σ'.get,σ'.next⟩):Call P f args σ K:=
 gr (Gq hv (gP hm h))
end
inductive pb:List AV->List AV->Prop
 |nil:pb [] []
 |same (a) {l l'}:pb l l'->pb (a::l) (a::l')
 |ptr (cs rest) {l l'}:pb l l'->pb (.cN (cs++rest)::l) (.cN cs::l')
 |bP {l l'}:pb l l'->pb (.bP::l) (.sl []::l')
theorem KV {P:Program} {w:World} {D:Nat->Prop} {ι:Names} {cs rest:List AV} {v:Value} (h:cV P w D ι (.cN (cs++rest)) v):cV P w D ι (.cN cs) v:=by
 obtain⟨b,o,vs,rfl,h1,h2,h3,h4⟩:=ku h
 exact .eH _ _ (.cN cs b o vs h1 (fun a ha=>h2 a (List.mem_append_left _ ha)) (fun j hj=>h3 j (by rw[List.length_append];omega)) fun j a ha=>h4 j a (by
  have:=(List.getElem?_eq_some_iff.1 ha).1
  rw[List.getElem?_append_left this];exact ha))
theorem KY {P:Program} {w:World} {D:Nat->Prop} {ι:Names} {v:Value} (h:cV P w D ι .bP v):cV P w D ι (.sl []) v:=by
 cases h with
 |eH _ _ h=>
  cases h with
  |bP=>exact .eH _ _ (.BI none 0 (Nat.zero_le _))
theorem pb.len {l l':List AV} (h:pb l l'):l'.length=l.length:=by induction h<;>simp_all
theorem pb.get {P:Program} {w:World} {D:Nat->Prop} {ι:Names} {l l':List AV} (h:pb l l'):∀{j:Nat} {a':AV},l'[j]? =some a'->∃a,l[j]? =some a/\∀v,cV P w D ι a v->cV P w D ι a' v:=by
 induction h with
 |nil=>intro j a' hj;simp at hj
 |same a _ ih=>
  intro j a' hj
  cases j with
  |zero=>simp at hj;subst hj;exact⟨a,rfl,fun _ h=>h⟩
  |succ j=>exact ih (by simpa using hj)
 |ptr cs rest _ ih=>
  intro j a' hj
  cases j with
  |zero=>simp at hj;subst hj;exact⟨_,rfl,fun _ h=>KV h⟩
  |succ j=>exact ih (by simpa using hj)
 |bP _ ih=>
  intro j a' hj
  cases j with
  |zero=>simp at hj;subst hj;exact⟨_,rfl,fun _ h=>KY h⟩
  |succ j=>exact ih (by simpa using hj)
theorem Call.cut {P:Program} (hm:P.follows .mixedOrders=true) {f:Nat} {args eD:List AV} {σ:ar} {K:AV->ar->Prop} (hc:pb args eD) (h:Call P f eD σ K):Call P f args σ K:=
 gr fun hs D ι w vs S U A=>gP hm h hs D ι w vs S U ⟨by rw[A.1,hc.len],fun j a' hj=>by
  obtain⟨a,ha,hr⟩:=hc.get (P:=P) (w:=w) (D:=D) (ι:=ι) hj
  obtain⟨u,hu,hv⟩:=A.2 j a ha
  exact⟨u,hu,hr u hv⟩⟩
theorem ak.cut {P:Program} (hm:P.follows .mixedOrders=true) {f:Nat} {args eD:List AV} {r:AV} (hc:pb args eD) (h:ak P f eD r):ak P f args r:=fun n=>(h n).cut hm hc
end Go.Proofs.YtgoljkjaameagaaGreat.V

namespace Go.Proofs.YtgoljkjaameagaaGreat.V
open Go.RowKit
attribute [local irreducible] dL wpOps fu Call
attribute [local go_sem] az eQ ec eY eW cJ upd bJ K.av b4 AV.cells AV.cell rowOf rowsOf part ld rowAt bH bG cX dr fR bo cE dD e6 eF cQ dx cC cz db dc br aJ ck bq cq cm dv dy dw cj bx cD dt bp aA cu bQ fQ bd bY bt aH cW aX cY AV.undef bj bl de dn da dj bV dC dE bK dB dz cr cw List.getD_cons_zero List.getD_cons_succ List.getD_nil List.all_cons List.all_nil Bool.and_true Bool.true_and Bool.and_self Bool.not_true Bool.not_false Option.map_some Option.map_none Option.bind_some Option.bind_none List.length_cons List.length_nil List.take_succ_cons List.take_zero List.take_nil List.drop_succ_cons List.drop_zero List.drop_nil List.head?_cons List.map_cons List.map_nil List.getElem?_cons_zero List.getElem?_cons_succ List.cons_append List.nil_append List.append_nil List.length_map List.set_cons_zero List.set_cons_succ eq_self Int.toNat_natCast Int.natCast_nonneg and_self true_and and_true decide_true decide_false Bool.false_eq_true Nat.zero_add Nat.add_zero List.contains_cons List.contains_nil Bool.or_false Bool.false_or beq_self_eq_true ne_eq not_true_eq_false not_false_eq_true Id.mk.injEq false_and and_false Nat.le_refl List.length_append beq_true beq_false Bool.not_eq_eq_eq_not or_false false_or dd ae ai ay bh bD aG aM aD aL bZ bm
section
variable {P:Program} {α:Type} {e:α->List AV} {z:Nat} {g g':Rows} {v:AV} {L:List α} {ids:List Id}
def R7 (e:α->List AV) (z:Nat) (g:Rows) (v:AV) (L:List α) (ids:List Id):Prop:=(L=[]/\v=.bP/\ids=[])∨∃o,v=.own o 0 L.length/\g o=some ⟨true,z,L.map e⟩/\ids=[o]/\0<L.length
def LY (e:α->List AV) (L:List α):AV:=if L.length=0 then .bP else .sl (L.map e)
def iK (e:α->List AV) (L:List α) (w:AV):Prop:=(w=.bP/\L=[])∨w=.sl (L.map e)
def R6 (P:Program) (f:Nat) (args:List AV) (e:α->List AV) (z:Nat) (L:List α) (c:Int):Prop:=
 ∀n:Nat,Call P f args ⟨fun _=>none,n⟩ (fun r σ'=>∃v ids,r=.ij [v,.int .i64 c]/\R7 e z σ'.get v L ids/\eE n σ'.next ids)
theorem qZ (hm:P.follows .mixedOrders=true) {f:Nat} {args:List AV} {σ:ar} {K:AV->ar->Prop} (h:Call P f args σ K):Call P f args σ (fun r σ'=>K r σ'/\σ.next<=σ'.next):=
 gr fun hs D ι w vs S U A=>(gP hm h hs D ι w vs S U A).mono (by
  rintro e w' ⟨r,g',n',D2,ι1,u,rfl,hK,T,S1,U1,hn,hR⟩
  exact⟨r,g',n',D2,ι1,u,rfl,⟨hK,hn⟩,T,S1,U1,hn,hR⟩)
theorem A5:iK e L (LY e L):=by
 unfold LY
 split
 ·rename_i h;exact .inl ⟨rfl,List.eq_nil_of_length_eq_zero h⟩
 ·exact .inr rfl
end
theorem iK.cut {α:Type} {e:α->List AV} {L:List α} {w:AV} (h:iK e L w) {l l':List AV} (hl:pb l l'):pb (w::l) (.sl (L.map e)::l'):=by
 rcases h with⟨rfl,rfl⟩|rfl
 ·exact .bP hl
 ·exact .same _ hl
end Go.Proofs.YtgoljkjaameagaaGreat.V

namespace Go.Proofs.YtgoljkjaameagaaGreat.V
open Go.RowKit
attribute [local irreducible] dL wpOps fu Call
attribute [local go_sem] az eQ ec eY eW cJ upd bJ K.av b4 AV.cells AV.cell rowOf rowsOf part ld rowAt bH bG cX dr fR bo cE dD e6 eF cQ dx cC cz db dc br aJ ck bq cq cm dv dy dw cj bx cD dt bp aA cu bQ fQ bd bY bt aH cW aX cY AV.undef bj bl de dn da dj bV dC dE bK dB dz cr cw List.getD_cons_zero List.getD_cons_succ List.getD_nil List.all_cons List.all_nil Bool.and_true Bool.true_and Bool.and_self Bool.not_true Bool.not_false Option.map_some Option.map_none Option.bind_some Option.bind_none List.length_cons List.length_nil List.take_succ_cons List.take_zero List.take_nil List.drop_succ_cons List.drop_zero List.drop_nil List.head?_cons List.map_cons List.map_nil List.getElem?_cons_zero List.getElem?_cons_succ List.cons_append List.nil_append List.append_nil List.length_map List.set_cons_zero List.set_cons_succ Nat.reduceMul eq_self Int.toNat_natCast Int.natCast_nonneg and_self true_and and_true decide_true decide_false Bool.false_eq_true Nat.zero_add Nat.add_zero List.contains_cons List.contains_nil Bool.or_false Bool.false_or beq_self_eq_true Nat.reduceBEq ne_eq not_true_eq_false not_false_eq_true Id.mk.injEq false_and and_false Nat.reduceLT Int.reduceLE Int.reduceLT Int.reduceToNat Int.reduceNeg Int.reduceAdd Nat.le_refl List.length_append beq_true beq_false Bool.not_eq_eq_eq_not or_false false_or dd ae ai ay bh bD aG aM aD aL bZ bm
end Go.Proofs.YtgoljkjaameagaaGreat.V

namespace Go.Proofs.YtgoljkjaameagaaGreat.V
open Go.RowKit
variable {P:Program}
theorem NK (hm:P.follows .mixedOrders=true) {f:Nat} {args:List AV} {vs:Array Value} {w:World} (h:ak P f args (.bool true)) (hA:eZ P w (fun b=>b<w.heap.size) (fun _=>none) args vs):
  Calls P f vs w fun e w'=>e=.returned (.bool true)/\Below w.heap.size w w':=by
 have hs:=gP hm (h 0) w.heap.size (fun b=>b<w.heap.size) (fun _=>none) w vs ⟨Nat.le_refl _,fun _ h=>h,fun id r h=>(by cases h),fun id ki r r' B B' h=>(by cases h)⟩ (fun id h=>absurd rfl h) hA
 refine hs.mono ?_
 rintro e w' ⟨r,g',n',D',ι',u,rfl,⟨r',hz,rfl⟩,er,hsim,_,_,gH⟩
 have hr:r=.bool true:=by
  cases r<;>rw[ga]at hz<;>simp_all
  all_goals (repeat' (split at hz))<;>simp_all
 subst hr
 exact⟨by rw[eP gH],er.below⟩
theorem lP {xs:List AV} {w:World} {D:Nat->Prop} {ι:Names} {a:AV} {v:Value} {vs:Array Value} (h:jK P w D a v) (k:eZ P w D ι xs vs):eZ P w D ι (a::xs) (#[v]++vs):=
 n9 (xs:=[a]) ⟨rfl,fun j b hj=>by
  cases j with
  |zero=>simp at hj;subst hj;exact⟨v,rfl,.eH _ _ h⟩
  |succ j=>simp at hj⟩ k
end Go.Proofs.YtgoljkjaameagaaGreat.V

namespace Go.Proofs.YtgoljkjaameagaaGreat.V
open Go.RowKit
attribute [local irreducible] dL wpOps fu Call
attribute [local go_sem] az eQ ec eY eW cJ upd bJ K.av b4 AV.cells AV.cell rowOf rowsOf part ld rowAt bH bG cX dr fR bo cE dD e6 eF cQ dx cC cz db dc br aJ ck bq cq cm dv dy dw cj bx cD dt bp aA cu bQ fQ bd bY bt aH cW aX cY AV.undef bj bl de dn da dj bV dC dE bK dB dz cr cw List.getD_cons_zero List.getD_cons_succ List.getD_nil List.all_cons List.all_nil Bool.and_true Bool.true_and Bool.and_self Bool.not_true Bool.not_false Option.map_some Option.map_none Option.bind_some Option.bind_none List.length_cons List.length_nil List.take_succ_cons List.take_zero List.take_nil List.drop_succ_cons List.drop_zero List.drop_nil List.head?_cons List.map_cons List.map_nil List.getElem?_cons_zero List.getElem?_cons_succ List.cons_append List.nil_append List.append_nil List.length_map List.set_cons_zero List.set_cons_succ Nat.reduceMul eq_self Int.toNat_natCast Int.natCast_nonneg and_self true_and and_true decide_true decide_false Bool.false_eq_true Nat.zero_add Nat.add_zero List.contains_cons List.contains_nil Bool.or_false Bool.false_or beq_self_eq_true Nat.reduceBEq ne_eq not_true_eq_false not_false_eq_true Id.mk.injEq false_and and_false Nat.reduceLT Int.reduceLE Int.reduceLT Int.reduceToNat Int.reduceNeg Int.reduceAdd Nat.le_refl List.length_append beq_true beq_false Bool.not_eq_eq_eq_not or_false false_or dd ae ai ay bh bD aG aM aD aL bZ bm
theorem N3 {α:Type} (f:α->Nat) {xs:List α} {x:α} (h:x∈xs):f x<=(xs.map f).sum:=by
 induction xs with
 |nil=>cases h
 |cons y ys ih=>
  simp only[List.map_cons,List.sum_cons]
  rcases List.mem_cons.1 h with rfl|h
  ·omega
  ·have:=ih h;omega
theorem Gd {s:aU} (h:vz s<=1048576):oY s:=by
 unfold vz s9 at h
 refine⟨⟨by omega,by omega,fun t ht=>?_⟩,by omega⟩
 have:=N3 j4 ht
 have h2:t.bB.length<=j4 t:=by unfold j4;omega
 unfold q9
 omega
theorem x9 (a:dY):ak Tryz.prog 22 [.agg (aO a),.agg (aO a)] (.bool true):=by
 refine ak.body eb rfl fun hl n0=>?_
 clear hl
 have h1:=nI a.ah a.ah
 rw[decide_eq_true rfl]at h1
 (repeat(first|((repeat(revert hN;revert N;apply Pn.out));refine wk @aO.eq_1 ?_;(repeat(refine Pn.mk ?_;intro N hN)))|((try apply Or.inl);refine⟨_,ak.x (h1) (sd @aO.eq_1),?_⟩;refine hN _ _ ?_;clear hN N)))
 exact aQ (b:=true) (.inl rfl) (sd @Nat.zero_add) rfl
end Go.Proofs.YtgoljkjaameagaaGreat.V

namespace Go.Proofs.YtgoljkjaameagaaGreat.V
open Go.RowKit
attribute [local irreducible] dL wpOps fu Call
attribute [local go_sem] az eQ ec eY eW cJ upd bJ K.av b4 AV.cells AV.cell rowOf rowsOf part ld rowAt bH bG cX dr fR bo cE dD e6 eF cQ dx cC cz db dc br aJ ck bq cq cm dv dy dw cj bx cD dt bp aA cu bQ fQ bd bY bt aH cW aX cY AV.undef bj bl de dn da dj bV dC dE bK dB dz cr cw List.getD_cons_zero List.getD_cons_succ List.getD_nil List.all_cons List.all_nil Bool.and_true Bool.true_and Bool.and_self Bool.not_true Bool.not_false Option.map_some Option.map_none Option.bind_some Option.bind_none List.length_cons List.length_nil List.take_succ_cons List.take_zero List.take_nil List.drop_succ_cons List.drop_zero List.drop_nil List.head?_cons List.map_cons List.map_nil List.getElem?_cons_zero List.getElem?_cons_succ List.cons_append List.nil_append List.append_nil List.length_map List.set_cons_zero List.set_cons_succ eq_self Int.toNat_natCast Int.natCast_nonneg and_self true_and and_true decide_true decide_false Bool.false_eq_true Nat.zero_add Nat.add_zero List.contains_cons List.contains_nil Bool.or_false Bool.false_or beq_self_eq_true ne_eq not_true_eq_false not_false_eq_true Id.mk.injEq false_and and_false Nat.le_refl List.length_append beq_true beq_false Bool.not_eq_eq_eq_not or_false false_or dd ae ai ay bh bD aG aM aD aL bZ bm
theorem K5 {g:Rows} {v w:AV} {s:aU} {i:List Id} (hX:zC g v s i) (hw:fz (dd g) 6 w=some w):cI (dd g) 6 [v,w]=some [.agg (ao s),w]:=by
 simp only[ae,ai,hX.fz 1,hw,Option.map_some]
theorem JD {g:Rows} {v w:AV} {s:dY} {i:List Id} (hX:xK g v s i) (hw:fz (dd g) 6 w=some w):cI (dd g) 6 [v,w]=some [.agg (aO s),w]:=by
 simp only[ae,ai,hX.fz 2,hw,Option.map_some]
theorem x8 (g:Rows) (s:aU):fz g 6 (.agg (ao s))=some (.agg (ao s)):=by simp[ao,aM,ae,ai,bD,ay]
theorem DR (g:Rows) (s:dY):fz g 6 (.agg (aO s))=some (.agg (aO s)):=by simp[aO,aM,ae,ai,bD]
theorem lu {g:Rows} {v w v' w':AV} (h1:fz g 6 v=some v') (h2:fz g 6 w=some w'):cI g 6 [v,w]=some [v',w']:=by
 simp only[ae,ai,h1,h2,Option.map_some]
theorem KA (s:aU):AN s<=3*vz s:=by
 have h:∀l:List eI,(l.map gm).sum<=l.length+(l.map j4).sum:=fun l=>by
  induction l with
  |nil=>simp
  |cons t l ih=>simp only[List.map_cons,List.sum_cons,List.length_cons,gm,j4]at *;omega
 have:=h s.aV.ah
 unfold AN vz s9
 omega
theorem eE.not {a b:Nat} {ids:List Id} (h:eE a b ids) {x:Id} (hx:x.bW<a∨b<=x.bW):x∉ids:=fun hc=>by
 have:=h.2 x hc;omega
theorem iK.fz {α:Type} {e:α->List AV} {L:List α} {w:AV} (h:iK e L w) (g:Rows):V.fz g 6 w=some w:=by
 rcases h with⟨rfl,rfl⟩|rfl
 ·exact aG _ _
 ·exact bD _ _ _
end Go.Proofs.YtgoljkjaameagaaGreat.V

namespace Go.Proofs.YtgoljkjaameagaaGreat.V
open Go.RowKit
attribute [local irreducible] dL wpOps fu Call
attribute [local go_sem] az eQ ec eY eW cJ upd bJ K.av b4 AV.cells AV.cell rowOf rowsOf part ld rowAt bH bG cX dr fR bo cE dD e6 eF cQ dx cC cz db dc br aJ ck bq cq cm dv dy dw cj bx cD dt bp aA cu bQ fQ bd bY bt aH cW aX cY AV.undef bj bl de dn da dj bV dC dE bK dB dz cr cw List.getD_cons_zero List.getD_cons_succ List.getD_nil List.all_cons List.all_nil Bool.and_true Bool.true_and Bool.and_self Bool.not_true Bool.not_false Option.map_some Option.map_none Option.bind_some Option.bind_none List.length_cons List.length_nil List.take_succ_cons List.take_zero List.take_nil List.drop_succ_cons List.drop_zero List.drop_nil List.head?_cons List.map_cons List.map_nil List.getElem?_cons_zero List.getElem?_cons_succ List.cons_append List.nil_append List.append_nil List.length_map List.set_cons_zero List.set_cons_succ Nat.reduceMul eq_self Int.toNat_natCast Int.natCast_nonneg and_self true_and and_true decide_true decide_false Bool.false_eq_true Nat.zero_add Nat.add_zero List.contains_cons List.contains_nil Bool.or_false Bool.false_or beq_self_eq_true Nat.reduceBEq ne_eq not_true_eq_false not_false_eq_true Id.mk.injEq false_and and_false Nat.reduceLT Int.reduceLE Int.reduceLT Int.reduceToNat Int.reduceNeg Int.reduceAdd Nat.le_refl List.length_append beq_true beq_false Bool.not_eq_eq_eq_not or_false false_or dd ae ai ay bh bD aG aM aD aL bZ bm
theorem KB (k:Int) {n j:Nat} (h:j<n):((zy k n).map aa)[j]? =some [.int .i64 (k+3*(j:Int)),.int .i64 (k+3*(j:Int)+1),.int .i64 (k+3*(j:Int)+2)]:=by
 simp[zy,h,aa]
theorem Hz (k:Int) (n:Nat) (h0:0<=k) (h1:k+3*n<=4611686018427387904):ak Tryz.prog 60 [.sl ((zy k n).map aa),.int .i64 k] (.int .i64 (k+3*n)):=by
 refine ak.body eb rfl fun hl n0=>?_
 clear hl
 obtain⟨m,hm⟩:∃m,n=m:=⟨_,rfl⟩
 rw[hm]at h1 ⊢
 (try((repeat(revert hN;revert N;apply Pn.out));refine wk @gY ?_;(repeat(refine Pn.mk ?_;intro N hN))))
 refine aY (fun n env st=>∃j:Nat,n=(m)-j/\j<=(m)/\env 5=.int .i64 (j:Int)/\env 1=.int .i64 (k+3*j)) (m) ⟨0,by omega,by omega,sl (tw @Int.add_zero (tw @Int.natCast_zero (tw @Int.mul_zero @gY))),sl (tw @Int.add_zero (tw @Int.natCast_zero (tw @Int.mul_zero @gY)))⟩ ?_
 rintro n_a env_a st_a ⟨j,rfl,ale,a5,a1⟩ dU
 have a0:=dU 0 (by kernel_rfl)
 simp only[go_sem, ↓reduceIte,Nat.reduceEqDiff,Nat.reduceAdd,Nat.reduceSub,Nat.reduceLeDiff,reduceCtorEq,Int.add_zero,Int.natCast_zero,Int.mul_zero,gY]at a0
 clear dU
 by_cases hj:(j:Int)<(m:Int)
 ·have cK:∀{e:Env},(e 5=.int .i64 (IntKind.i64.wrap ((j:Int)+1)))->(e 1=.int .i64 (k+3*(j+1)))->∃m0,m0<(m)-j/\∃j:Nat,m0=(m)-j/\j<=(m)/\e 5=.int .i64 (j:Int)/\e 1=.int .i64 (k+3*j):=fun x1 x2=>⟨_,by omega,j+1,rfl,by omega,(by rw[x1,ax (by omega)]),x2⟩
  have eT:=KB k (n:=m) (j:=j) (by omega)
  have mc:IntKind.i64.wrap (k+3*(j:Int)+1)=k+3*(j:Int)+1:=bE (by omega)
  have pG:IntKind.i64.wrap (k+3*(j:Int)+1+1)=k+3*(j:Int)+2:=by rw[bE (by omega)];omega
  have HT:IntKind.i64.wrap (k+3*(j:Int)+2+1)=k+3*((j:Int)+1):=by rw[bE (by omega)];omega
  have e1:decide (k+3*(j:Int)=k+3*(j:Int))=true:=decide_eq_true rfl
  have e2:decide (k+3*(j:Int)+1=k+3*(j:Int)+1)=true:=decide_eq_true rfl
  have e3:decide (k+3*(j:Int)+2=k+3*(j:Int)+2)=true:=decide_eq_true rfl
  (try((repeat(revert hN;revert N;apply Pn.out));refine wk (tw @a5 (tw @a1 (tw @a0 (tw @hj (tw @eT (tw @mc (tw @pG (tw @HT (tw @gY (tw @e1 (tw @e2 @e3))))))))))) ?_;(repeat(refine Pn.mk ?_;intro N hN))))
  refine cK ?_ ?_
  all_goals simp only[go_sem, ↓reduceIte,Nat.reduceEqDiff,Nat.reduceAdd,Nat.reduceSub,Nat.reduceLeDiff,reduceCtorEq,a5,a1,a0,HT]
 ·have iH:j=m:=by omega
  subst iH
  (try((repeat(revert hN;revert N;apply Pn.out));refine wk (tw @a5 (tw @a1 (tw @a0 (tw @hj @gY)))) ?_;(repeat(refine Pn.mk ?_;intro N hN))))
  exact bL (b:=k+3*(j:Int)) (.inl rfl) (sd (tw @a5 (tw @a1 @a0))) rfl
theorem FQ (k:Int) (σ:ar):Call Tryz.prog 59 [.bP,.int .i64 k] σ (fun r σ'=>r=.int .i64 k/\sa σ [] σ'.get σ'.next):=by
 refine eO eb rfl fun hl=>?_
 clear hl
 (try((repeat(revert hN;revert N;apply Pn.out));refine wk @Nat.zero_add ?_;(repeat(refine Pn.mk ?_;intro N hN))))
 refine aY (fun n env st=>(env 1=.int .i64 k/\env 5=.int .i64 0/\env 0=.bP)/\σ.next<=st.next/\∀x:Id,st.get x=σ.get x) 0 ⟨⟨sd @Nat.zero_add,sd @Nat.zero_add,sd @Nat.zero_add⟩,by(try dsimp only);omega,fun _=>rfl⟩ ?_
 rintro m e st ⟨⟨a1,a5,a0⟩,an,aF⟩ -
 have d0:decide ((0:Int)<((0:Nat):Int))=false:=rfl
 (try((repeat(revert hN;revert N;apply Pn.out));refine wk (tw @a0 (tw @a1 (tw @a5 @d0))) ?_;(repeat(refine Pn.mk ?_;intro N hN))))
 exact fI (.inl rfl) (vs:=[.int .i64 k]) (sd @a1) ⟨rfl,⟨by(try dsimp only);omega,fun x hx hi=>aF x⟩⟩
theorem rI {w:AV} (k:Int) (n:Nat) (h0:0<=k) (h1:k+3*n<=4611686018427387904) (hw:iK aa (zy k n) w):ak Tryz.prog 60 [w,.int .i64 k] (.int .i64 (k+3*n)):=
 (Hz k n h0 h1).cut mixed (hw.cut (.same _ .nil))
theorem tg {L:List ad} {v w:AV} (hv:iK aa L v) (hw:iK aa L w):ak Tryz.prog 58 [v,w] (.bool true):=by
 have h:=nI L L
 rw[decide_eq_true rfl]at h
 exact h.cut mixed (hv.cut (hw.cut .nil))
theorem uc {L:List ad} {v w:AV} (hv:iK aa L v) (hw:iK aa L w):ak Tryz.prog 22 [.agg [v],.agg [w]] (.bool true):=by
 refine ak.body eb rfl fun hl n0=>?_
 clear hl
 have h:=tg hv hw
 rcases hv with⟨rfl,hL⟩|rfl<;>rcases hw with⟨rfl,hL2⟩|rfl
 ·(repeat(first|((repeat(revert hN;revert N;apply Pn.out));refine wk @Nat.zero_add ?_;(repeat(refine Pn.mk ?_;intro N hN)))|((try apply Or.inl);refine⟨_,ak.x (h) (sd @Nat.zero_add),?_⟩;refine hN _ _ ?_;clear hN N)))
  exact aQ (b:=true) (.inl rfl) (sd @Nat.zero_add) rfl
 ·(repeat(first|((repeat(revert hN;revert N;apply Pn.out));refine wk @Nat.zero_add ?_;(repeat(refine Pn.mk ?_;intro N hN)))|((try apply Or.inl);refine⟨_,ak.x (h) (sd @Nat.zero_add),?_⟩;refine hN _ _ ?_;clear hN N)))
  exact aQ (b:=true) (.inl rfl) (sd @Nat.zero_add) rfl
 ·(repeat(first|((repeat(revert hN;revert N;apply Pn.out));refine wk @Nat.zero_add ?_;(repeat(refine Pn.mk ?_;intro N hN)))|((try apply Or.inl);refine⟨_,ak.x (h) (sd @Nat.zero_add),?_⟩;refine hN _ _ ?_;clear hN N)))
  exact aQ (b:=true) (.inl rfl) (sd @Nat.zero_add) rfl
 ·(repeat(first|((repeat(revert hN;revert N;apply Pn.out));refine wk @Nat.zero_add ?_;(repeat(refine Pn.mk ?_;intro N hN)))|((try apply Or.inl);refine⟨_,ak.x (h) (sd @Nat.zero_add),?_⟩;refine hN _ _ ?_;clear hN N)))
  exact aQ (b:=true) (.inl rfl) (sd @Nat.zero_add) rfl
theorem uq {w:AV} (k:Int) (n:Nat) (h0:0<=k) (h1:k+3*n<=4611686018427387904) (hw:iK aa (zy k n) w):ak Tryz.prog 45 [.agg [w],.int .i64 k] (.int .i64 (k+3*n)):=by
 refine ak.body eb rfl fun hl n0=>?_
 clear hl
 have h:=rI k n h0 h1 hw
 have hp:¬k+3*(n:Int)<0:=by omega
 rcases hw with⟨rfl,hL⟩|rfl
 ·(repeat(first|((repeat(revert hN;revert N;apply Pn.out));refine wk @hp ?_;(repeat(refine Pn.mk ?_;intro N hN)))|((try apply Or.inl);refine⟨_,ak.x (h) (sd @hp),?_⟩;refine hN _ _ ?_;clear hN N)))
  exact bL (b:=k+3*(n:Int)) (.inl rfl) (sd @Nat.zero_add) rfl
 ·(repeat(first|((repeat(revert hN;revert N;apply Pn.out));refine wk @hp ?_;(repeat(refine Pn.mk ?_;intro N hN)))|((try apply Or.inl);refine⟨_,ak.x (h) (sd @hp),?_⟩;refine hN _ _ ?_;clear hN N)))
  exact bL (b:=k+3*(n:Int)) (.inl rfl) (sd @Nat.zero_add) rfl
end Go.Proofs.YtgoljkjaameagaaGreat.V

namespace Go.Proofs.YtgoljkjaameagaaGreat.V
open Go.RowKit
attribute [local irreducible] dL wpOps fu Call
attribute [local go_sem] az eQ ec eY eW cJ upd bJ K.av b4 AV.cells AV.cell rowOf rowsOf part ld rowAt bH bG cX dr fR bo cE dD e6 eF cQ dx cC cz db dc br aJ ck bq cq cm dv dy dw cj bx cD dt bp aA cu bQ fQ bd bY bt aH cW aX cY AV.undef bj bl de dn da dj bV dC dE bK dB dz cr cw List.getD_cons_zero List.getD_cons_succ List.getD_nil List.all_cons List.all_nil Bool.and_true Bool.true_and Bool.and_self Bool.not_true Bool.not_false Option.map_some Option.map_none Option.bind_some Option.bind_none List.length_cons List.length_nil List.take_succ_cons List.take_zero List.take_nil List.drop_succ_cons List.drop_zero List.drop_nil List.head?_cons List.map_cons List.map_nil List.getElem?_cons_zero List.getElem?_cons_succ List.cons_append List.nil_append List.append_nil List.length_map List.set_cons_zero List.set_cons_succ eq_self Int.toNat_natCast Int.natCast_nonneg and_self true_and and_true decide_true decide_false Bool.false_eq_true Nat.zero_add Nat.add_zero List.contains_cons List.contains_nil Bool.or_false Bool.false_or beq_self_eq_true ne_eq not_true_eq_false not_false_eq_true Id.mk.injEq false_and and_false Nat.le_refl List.length_append beq_true beq_false Bool.not_eq_eq_eq_not or_false false_or dd ae ai ay bh bD aG aM aD aL bZ bm
theorem iK.cell {α:Type} {e:α->List AV} {L:List α} {w:AV} (h:iK e L w):w.cells=[w]/\w.cell=true:=by
 rcases h with⟨rfl,rfl⟩|rfl<;>exact⟨rfl,rfl⟩
theorem jF {g:Rows} {v w:AV} (h:fz g 5 v=some w):fz g 6 (.agg [v])=some (.agg [w]):=by simp only[aM,ae,ai,h,Option.map_some]
theorem iK.Rg {α:Type} {e:α->List AV} {L:List α} {w:AV} (h:iK e L w) (g:Rows):V.fz g 5 w=some w:=by
 rcases h with⟨rfl,rfl⟩|rfl
 ·exact aG _ _
 ·exact bD _ _ _
end Go.Proofs.YtgoljkjaameagaaGreat.V

namespace Go.Proofs.YtgoljkjaameagaaGreat.V
open Go.RowKit
attribute [local irreducible] dL wpOps fu Call
attribute [local go_sem] az eQ ec eY eW cJ upd bJ K.av b4 AV.cells AV.cell rowOf rowsOf part ld rowAt bH bG cX dr fR bo cE dD e6 eF cQ dx cC cz db dc br aJ ck bq cq cm dv dy dw cj bx cD dt bp aA cu bQ fQ bd bY bt aH cW aX cY AV.undef bj bl de dn da dj bV dC dE bK dB dz cr cw List.getD_cons_zero List.getD_cons_succ List.getD_nil List.all_cons List.all_nil Bool.and_true Bool.true_and Bool.and_self Bool.not_true Bool.not_false Option.map_some Option.map_none Option.bind_some Option.bind_none List.length_cons List.length_nil List.take_succ_cons List.take_zero List.take_nil List.drop_succ_cons List.drop_zero List.drop_nil List.head?_cons List.map_cons List.map_nil List.getElem?_cons_zero List.getElem?_cons_succ List.cons_append List.nil_append List.append_nil List.length_map List.set_cons_zero List.set_cons_succ Nat.reduceMul eq_self Int.toNat_natCast Int.natCast_nonneg and_self true_and and_true decide_true decide_false Bool.false_eq_true Nat.zero_add Nat.add_zero List.contains_cons List.contains_nil Bool.or_false Bool.false_or beq_self_eq_true Nat.reduceBEq ne_eq not_true_eq_false not_false_eq_true Id.mk.injEq false_and and_false Nat.reduceLT Int.reduceLE Int.reduceLT Int.reduceToNat Int.reduceNeg Int.reduceAdd Nat.le_refl List.length_append beq_true beq_false Bool.not_eq_eq_eq_not or_false false_or dd ae ai ay bh bD aG aM aD aL bZ bm
theorem EI {P:Program} {K:AV->Rows->List Id->Prop} (hm:P.follows .mixedOrders=true) {f:Nat} {args eD:List AV} {σ:ar}
  (lI:∀r g ids,K r g ids->r.rq=true/\Handed ids g) (jY:∀r g g' ids,K r g ids->(∀i∈ids,g' i=g i)->K r g' ids)
  (h:∀n:Nat,Call P f eD ⟨fun _=>none,n⟩ (fun r σ'=>∃ids,K r σ'.get ids/\eE n σ'.next ids)) (hv:cI (dd σ.get) 6 args=some eD):
  Call P f args σ (fun r σ'=>∃ids,K r σ'.get ids/\eE σ.next σ'.next ids/\Kept σ σ'):=by
 refine tM hm hv (aE _ _ _ _ _ (fun r σ' hq=>?_) (qZ hm (h σ.next)))
 obtain⟨⟨ids,hK,hi⟩,hn⟩:=hq
 obtain⟨c1,c2⟩:=lI _ _ _ hK
 exact⟨ids,c1,c2,ids,jY _ _ _ _ hK (fun i hi=>oi hi),hi,hn,fun j hj=>lV fun hc=>by have:=(hi.2 j hc).1;omega⟩
theorem eE.left {a b:Nat} {i j:List Id} (h:eE a b (i++j)):eE a b i:=⟨(List.nodup_append.1 h.1).1,fun x hx=>h.2 x (by simp[hx])⟩
theorem eE.right {a b:Nat} {i j:List Id} (h:eE a b (i++j)):eE a b j:=⟨(List.nodup_append.1 h.1).2.1,fun x hx=>h.2 x (by simp[hx])⟩
theorem eE.apart {a b:Nat} {i j:List Id} (h:eE a b (i++j)):∀x∈j,x∉i:=fun x hx hi=>(List.nodup_append.1 h.1).2.2 x hi x hx rfl
theorem Handed.app {i j:List Id} {g:Rows} (h:Handed i g) (k:Handed j g):Handed (i++j) g:=fun x hx=>by
 rcases List.mem_append.1 hx with h1|h1
 ·exact h x h1
 ·exact k x h1
theorem Handed.nil {g:Rows}:Handed [] g:=fun x hx=>by cases hx
section
variable {P:Program} {α:Type} {e:α->List AV} {z:Nat} {g g':Rows} {v:AV} {L:List α} {ids:List Id}
def jS (e:α->List AV) (z:Nat) (g:Rows) (v:AV) (L:List α) (ids:List Id):Prop:=(L=[]/\v=.bP/\ids=[])∨∃(o:Id) (J:List α),v=.own o 0 L.length/\g o=some ⟨true,z,(L++J).map e⟩/\ids=[o]/\0<L.length
theorem jS.frame (h:jS e z g v L ids) (hf:∀i∈ids,g' i=g i):jS e z g' v L ids:=by
 rcases h with h|⟨o,J,h1,h2,rfl,hp⟩
 ·exact .inl h
 ·exact .inr ⟨o,J,h1,(hf o (by simp)).trans h2,rfl,hp⟩
def L2 (e:α->List AV) (v:AV) (L:List α):AV:=match v with| .bP=>.bP|_=>.sl (L.map e)
theorem jS.AM (h:jS e z g v L ids):iK e L (L2 e v L):=by
 rcases h with⟨rfl,rfl,_⟩|⟨o,J,rfl,_⟩
 ·exact .inl ⟨rfl,rfl⟩
 ·exact .inr rfl
theorem nO {n:Nat} {o:Id} {J:List α} (h2:g o=some ⟨true,z,(L++J).map e⟩) (he:∀x g,cI g n (e x)=some (e x)):V.fz (dd g) (n+1) (.own o 0 L.length)=some (.sl (L.map e)):=by
 rw[gi]
 have:dd g o=some ⟨true,z,(L++J).map e⟩:=by simp[dd,h2]
 simp only[this,if_true]
 have h4:((L++J).map e).take L.length=L.map e:=by rw[<-List.map_take,List.take_append_of_le_length (Nat.le_refl _),List.take_length]
 rw[if_pos (by simp),List.drop_zero,h4,kd fun x=>he x _];rfl
theorem jS.Ls (h:jS e z g v L ids) {n:Nat} (he:∀x g,cI g n (e x)=some (e x)):V.fz (dd g) (n+1) v=some (L2 e v L):=by
 rcases h with⟨rfl,rfl,_⟩|⟨o,J,rfl,h2,_⟩
 ·exact aG _ _
 ·exact nO h2 he
theorem jS.cell (h:jS e z g v L ids):v.cells=[v]/\v.cell=true:=by
 rcases h with⟨_,rfl,_⟩|⟨o,J,rfl,_⟩<;>exact⟨rfl,rfl⟩
theorem jS.clean (h:jS e z g v L ids):v.clean=true:=by
 rcases h with⟨_,rfl,_⟩|⟨o,J,rfl,_⟩<;>rfl
theorem jS.hand (h:jS e z g v L ids) (lI:∀x,(e x).all AV.clean=true):Handed ids g:=by
 rcases h with⟨_,_,rfl⟩|⟨o,J,_,h2,rfl,_⟩
 ·exact Handed.nil
 ·intro i hi
  rw[List.mem_singleton.1 hi]
  refine⟨_,h2,rfl,fun cs di a ha=>?_⟩
  obtain⟨x,_,rfl⟩:=List.mem_map.1 di
  have:=lI x
  rw[List.all_eq_true]at this
  exact this a ha
theorem jS.s (h:jS e z g v L ids) {n:Nat} (he:∀x g,dR g n (e x)=some (e x)):ga g (n+1) v=some (LY e L):=by
 rcases h with⟨rfl,rfl,_⟩|⟨o,J,rfl,h2,_,hp⟩
 ·rw[iV];rfl
 ·rw[qi (sz:=z) (rows:=(L++J).map e) (rows':=L.map e) h2 (by simp) (by
   have h4:((L++J).map e).take L.length=L.map e:=by rw[<-List.map_take,List.take_append_of_le_length (Nat.le_refl _),List.take_length]
   rw[List.drop_zero,h4,nM fun x=>he x _]),LY,if_neg (by omega)]
end
def rn (a:AV):Bool:=match a with| .agg cs=>cs.all AV.clean|a=>a.clean
theorem B9 (cs:List AV):(AV.ij cs).rq=cs.all rn:=rfl
theorem ES {a:AV} (h:a.clean=true):rn a=true:=by
 cases a<;>first|exact h|(simp[AV.clean]at h)
theorem B7 {a:AV} (h:a.clean=true):rn (.agg [a])=true:=by simp[rn,h]
theorem B8 (k:IntKind) (n:Int):rn (.int k n)=true:=rfl
theorem zP (b:Bool):rn (.bool b)=true:=rfl
theorem JW {g:Rows} {u v u' v':AV} (h0:V.fz g 6 u=some u') (h1:V.fz g 6 v=some v'):cI g 6 [u,v]=some [u',v']:=by simp only[ae,ai,h0,h1,Option.map_some]
theorem Pj (x:ad):(aa x).all AV.clean=true:=rfl
theorem D4 (x:ad) (g:Rows):cI g 5 (aa x)=some (aa x):=by simp[aa,ae,ai,ay]
theorem w6 (x:ad) (g:Rows):cI g 4 (aa x)=some (aa x):=by simp[aa,ae,ai,ay]
theorem MH (x:ad) (g:Rows):dR g 4 (aa x)=some (aa x):=by simp[aa,bC,cG,ek]
theorem MG (x:ad) (g:Rows):dR g 3 (aa x)=some (aa x):=by simp[aa,bC,cG,ek]
theorem wi (i:Id) (l:List ad) (m:Nat) (hm:m<=l.length) (k:Int) (h0:0<=k) (h1:k+3*m<=4611686018427387904) (σ:ar) (hv:i.bW<σ.next) (hg:σ.get i=some ⟨true,3,l.map aa⟩):
  Call Tryz.prog 59 [.own i 0 m,.int .i64 k] σ (fun r σ'=>r=.int .i64 (k+3*m)/\sa σ [i] σ'.get σ'.next/\σ'.get i=some ⟨true,3,(jb k l m).map aa⟩):=by
 refine eO eb rfl fun hl=>?_
 clear hl
 have hz:jb k l 0=l:=by simp[jb,zy]
 (try((repeat(revert hN;revert N;apply Pn.out));refine wk @Nat.zero_add ?_;(repeat(refine Pn.mk ?_;intro N hN))))
 refine aY (fun n env st=>∃j:Nat,n=(m)-j/\j<=(m)/\env 5=.int .i64 (j:Int)/\env 1=.int .i64 (k+3*j)/\st.get i=some ⟨true,3,(jb k l j).map aa⟩/\(sa σ [i] st.get st.next)) (m) ⟨0,by omega,by omega,sl (tw @Int.add_zero (tw @Int.natCast_zero (tw @Int.mul_zero (tw @hz @hg)))),sl (tw @Int.add_zero (tw @Int.natCast_zero (tw @Int.mul_zero (tw @hz @hg)))),sl (tw @Int.add_zero (tw @Int.natCast_zero (tw @Int.mul_zero (tw @hz @hg)))),by(try dsimp only);exact⟨by(try dsimp only);omega,fun x _ _=>rfl⟩⟩ ?_
 rintro n_a env_a st_a ⟨j,rfl,ale,a5,a1,ag0,mJ⟩ dU
 have a0:=dU 0 (by kernel_rfl)
 simp only[go_sem, ↓reduceIte,Nat.reduceEqDiff,Nat.reduceAdd,Nat.reduceSub,Nat.reduceLeDiff,reduceCtorEq,Int.add_zero,Int.natCast_zero,Int.mul_zero,hz,hg]at a0
 clear dU
 obtain⟨an,aF⟩:=mJ
 by_cases hj:(j:Int)<(m:Int)
 ·have cK:∀{e:Env} {gg:Rows} {nx:Nat},(e 5=.int .i64 (IntKind.i64.wrap ((j:Int)+1)))->(e 1=.int .i64 (k+3*(j+1)))->(gg i=some ⟨true,3,(jb k l (j+1)).map aa⟩)->(sa σ [i] gg nx)->∃m0,m0<(m)-j/\∃j:Nat,m0=(m)-j/\j<=(m)/\e 5=.int .i64 (j:Int)/\e 1=.int .i64 (k+3*j)/\gg i=some ⟨true,3,(jb k l j).map aa⟩/\(sa σ [i] gg nx):=fun x1 x2 x3 x4=>⟨_,by omega,j+1,rfl,by omega,(by rw[x1,ax (by omega)]),x2,x3,x4⟩
  have iH:j<l.length:=by omega
  have eT:=Es (k:=k) iH
  have eo:=AW (k:=k) iH
  have mc:IntKind.i64.wrap (k+3*(j:Int)+1)=k+3*(j:Int)+1:=bE (by omega)
  have pG:IntKind.i64.wrap (k+3*(j:Int)+1+1)=k+3*(j:Int)+2:=by rw[bE (by omega)];omega
  have HT:IntKind.i64.wrap (k+3*(j:Int)+2+1)=k+3*((j:Int)+1):=by rw[bE (by omega)];omega
  have hlen:((jb k l j).map aa).length=l.length:=by rw[List.length_map,AU (by omega)]
  have HC:∀c:List AV,(((jb k l j).map aa).set j c)[j]? =some c:=fun c=>by rw[List.getElem?_set_self (by rw[hlen];exact iH)]
  (try((repeat(revert hN;revert N;apply Pn.out));refine wk (tw @a5 (tw @a1 (tw @ag0 (tw @a0 (tw @hj (tw @iH (tw @eT (tw @HC (tw @eo (tw @mc (tw @pG (tw @HT (tw @hlen @qI))))))))))))) ?_;(repeat(refine Pn.mk ?_;intro N hN))))
  refine cK ?_ ?_ ?_ (by(try dsimp only);exact⟨by(try dsimp only);omega,fun x hx hi=>by
   have h2:=aF x hx hi
   have h3:(x=i)=False:=eq_false fun e=>hi (by simp[e])
   simp only[go_sem, ↓reduceIte,Nat.reduceEqDiff,Nat.reduceAdd,Nat.reduceSub,Nat.reduceLeDiff,reduceCtorEq,h2,h3]⟩)
  all_goals simp only[go_sem, ↓reduceIte,Nat.reduceEqDiff,Nat.reduceAdd,Nat.reduceSub,Nat.reduceLeDiff,reduceCtorEq,a5,a1,ag0,a0,HT,eo]
 ·have iH:j=m:=by omega
  subst iH
  (try((repeat(revert hN;revert N;apply Pn.out));refine wk (tw @a5 (tw @a1 (tw @ag0 (tw @a0 @hj)))) ?_;(repeat(refine Pn.mk ?_;intro N hN))))
  exact fI (.inl rfl) (vs:=[.int .i64 (k+3*j)]) (sd (tw @a5 (tw @a1 (tw @ag0 @a0)))) ⟨rfl,⟨by(try dsimp only);omega,fun x hx hi=>aF x hx hi⟩,ag0⟩
theorem Ie {k:Int} {l J:List ad}:jb k (l++J) l.length=zy k l.length++J:=by simp[jb]
theorem rS {v:AV} {L:List ad} {ids:List Id} (k:Int) (h0:0<=k) (h1:k+3*L.length<=4611686018427387904) (σ:ar) (hv:∀i∈ids,i.bW<σ.next) (h:jS aa 3 σ.get v L ids):
  Call Tryz.prog 59 [v,.int .i64 k] σ (fun r σ'=>r=.int .i64 (k+3*L.length)/\sa σ ids σ'.get σ'.next/\jS aa 3 σ'.get v (zy k L.length) ids):=by
 rcases h with⟨rfl,rfl,rfl⟩|⟨o,J,rfl,h2,rfl,hp⟩
 ·refine aE _ _ _ _ _ (fun r σ' hq=>?_) (FQ k σ)
  obtain⟨rfl,hB⟩:=hq
  exact⟨by simp,hB,.inl ⟨rfl,rfl,rfl⟩⟩
 ·refine aE _ _ _ _ _ (fun r σ' hq=>?_) (wi o (L++J) L.length (by simp) k h0 h1 σ (hv o (by simp)) h2)
  obtain⟨rfl,hB,hg⟩:=hq
  exact⟨rfl,hB,.inr ⟨o,J,by rw[gY],by rw[hg,Ie],rfl,by rw[gY];exact hp⟩⟩
theorem CX {v:AV} {L:List ad} {ids:List Id} (k:Int) (h0:0<=k) (h1:k+3*L.length<=4611686018427387904) (σ:ar) (hv:∀i∈ids,i.bW<σ.next) (h:jS aa 3 σ.get v L ids):
  Call Tryz.prog 25 [.agg [v],.int .i64 k] σ (fun r σ'=>r=.int .i64 (k+3*L.length)/\sa σ ids σ'.get σ'.next/\jS aa 3 σ'.get v (zy k L.length) ids):=by
 have jY:=h.frame (g':=bH σ.get ⟨25000000,σ.next⟩ ⟨true,1,[[v]]⟩) fun i hi=>by
  have:=ef (hv i hi)
  simp only[go_sem, ↓reduceIte,Nat.reduceEqDiff,Nat.reduceAdd,Nat.reduceSub,Nat.reduceLeDiff,reduceCtorEq,this]
 rcases h with⟨hL,rfl,Ec⟩|⟨o,J,rfl,h2,Ec,hp⟩
 ·skip
  refine eO eb rfl fun hl=>?_
  clear hl
  (try((repeat(revert hN;revert N;apply Pn.out));refine wk @Nat.zero_add ?_;(repeat(refine Pn.mk ?_;intro N hN))))
  refine .inr (aE _ _ _ _ _ (fun r σ1 hq=>?_) (rS k h0 h1 _ (fun i hi=>by have:=hv i hi;(try dsimp only);omega) jY))
  obtain⟨g1,x1⟩:=σ1
  obtain⟨rfl,⟨xc,l9⟩,hO⟩:=hq
  (try dsimp only at xc l9 hO)
  refine hN _ _ ?_
  clear hN N
  (try((repeat(revert hN;revert N;apply Pn.out));refine wk @Nat.zero_add ?_;(repeat(refine Pn.mk ?_;intro N hN))))
  exact fI (.inl rfl) (vs:=[.int .i64 (k+3*L.length)]) (sd @Nat.zero_add) ⟨rfl,⟨by(try dsimp only);omega,fun x hx hi=>by
   have h2:=l9 x (by(try dsimp only);omega) hi
   have h3:=ef hx
   simp only[go_sem, ↓reduceIte,Nat.reduceEqDiff,Nat.reduceAdd,Nat.reduceSub,Nat.reduceLeDiff,reduceCtorEq,h3]at h2
   exact h2⟩,hO⟩
 ·skip
  refine eO eb rfl fun hl=>?_
  clear hl
  (try((repeat(revert hN;revert N;apply Pn.out));refine wk @Nat.zero_add ?_;(repeat(refine Pn.mk ?_;intro N hN))))
  refine .inr (aE _ _ _ _ _ (fun r σ1 hq=>?_) (rS k h0 h1 _ (fun i hi=>by have:=hv i hi;(try dsimp only);omega) jY))
  obtain⟨g1,x1⟩:=σ1
  obtain⟨rfl,⟨xc,l9⟩,hO⟩:=hq
  (try dsimp only at xc l9 hO)
  refine hN _ _ ?_
  clear hN N
  (try((repeat(revert hN;revert N;apply Pn.out));refine wk @Nat.zero_add ?_;(repeat(refine Pn.mk ?_;intro N hN))))
  exact fI (.inl rfl) (vs:=[.int .i64 (k+3*L.length)]) (sd @Nat.zero_add) ⟨rfl,⟨by(try dsimp only);omega,fun x hx hi=>by
   have h2:=l9 x (by(try dsimp only);omega) hi
   have h3:=ef hx
   simp only[go_sem, ↓reduceIte,Nat.reduceEqDiff,Nat.reduceAdd,Nat.reduceSub,Nat.reduceLeDiff,reduceCtorEq,h3]at h2
   exact h2⟩,hO⟩
theorem Kw (GW:aU->dY->List ad×List ad×Int)
  (Qp:∀s a,fm s.aV->oY s->a.ah.length<=1048576->∃w0,∃w1,iK aa (GW s a).1 w0/\iK aa (GW s a).2.1 w1/\kb Tryz.prog 56 [.agg (ao s),.agg (aO a)] (.ij [.agg [w0],w1,.int .i64 (GW s a).2.2]))
  (P8:∀s a,fm s.aV->oY s->a.ah.length<=1048576->∀n:Nat,Call Tryz.prog 57 [.agg (ao s),.agg (aO a)] ⟨fun _=>none,n⟩ (fun r σ'=>∃ids,(∃v0 i0,∃v1 i1,r=.ij [.agg [v0],v1,.int .i64 (GW s a).2.2]/\jS aa 3 σ'.get v0 (GW s a).1 i0/\jS aa 3 σ'.get v1 (GW s a).2.1 i1/\ids=i0++i1)/\eE n σ'.next ids))
  (LG:∀s a,fm s.aV->oY s->a.ah.length<=1048576->(GW s a).1.length<=1099511627776) (Qb:∀s a,fm s.aV->oY s->a.ah.length<=1048576->(GW s a).2.1.length<=1099511627776)
  (s:aU) (a:dY) (hn:fm s.aV):ak Tryz.prog 10 [.agg (ao s),.agg (aO a)] (.bool true):=by
 refine ak.body eb rfl fun hl n0=>?_
 clear hl
 have h1:=Dt s 1048576 (by omega) (by omega) hn
 by_cases PW:((vz s:Nat):Int)<=1048576
 ·rw[gZ PW]at h1
  have Fj:¬(1048576:Int)-((vz s:Nat):Int)<0:=by omega
  have h2:=qM a (1048576-((vz s:Nat):Int)) (by omega) (by omega)
  by_cases Lw:((a.ah.length:Nat):Int)<=1048576-((vz s:Nat):Int)
  ·rw[gZ Lw]at h2
   have M8:¬(1048576:Int)-((vz s:Nat):Int)-((a.ah.length:Nat):Int)<0:=by omega
   have sm:=Gd (s:=s) (by omega)
   have ma:a.ah.length<=1048576:=by omega
   have t1:=Dy s sm
   have t2:=qP a ma
   obtain⟨w0,w1,BF,mc,r1⟩:=Qp s a hn sm ma
   have r2:=P8 s a hn sm ma
   have q1:=Cf s
   have q2:=x9 a
   have PI:=LG s a hn sm ma
   have hL1:=Qb s a hn sm ma
   obtain⟨L0,hR0⟩:∃R,(GW s a).1=R:=⟨_,rfl⟩
   obtain⟨L1,PJ⟩:∃R,(GW s a).2.1=R:=⟨_,rfl⟩
   obtain⟨c2,M0⟩:∃R,(GW s a).2.2=R:=⟨_,rfl⟩
   simp only[hR0,PJ,M0]at r1 r2 BF PI mc hL1
   have o1:=fun σ=>Dx s sm σ
   rw[ao]at o1
   have o2:=fun σ=>qO a ma σ
   rw[aO]at o2
   have E6:decide (c2=c2)=true:=by simp
   rw[ao]at h1
   rw[aO]at h2
   (repeat(first|((repeat(revert hN;revert N;apply Pn.out));refine wk (tw @ao.eq_1 (tw @aO.eq_1 (tw @Fj @M8))) ?_;(repeat(refine Pn.mk ?_;intro N hN)))|((try apply Or.inl);refine⟨_,ak.x (h1) (sd (tw @ao.eq_1 (tw @aO.eq_1 (tw @Fj @M8)))),?_⟩;refine hN _ _ ?_;clear hN N)|((try apply Or.inl);refine⟨_,ak.x (h2) (sd (tw @ao.eq_1 (tw @aO.eq_1 (tw @Fj @M8)))),?_⟩;refine hN _ _ ?_;clear hN N)))
   refine⟨_,kb.x (by rw[ao]at t1;exact t1) _,?_⟩
   refine hN _ _ ?_
   clear hN N
   (try((repeat(revert hN;revert N;apply Pn.out));refine wk (tw @ao.eq_1 @aO.eq_1) ?_;(repeat(refine Pn.mk ?_;intro N hN))))
   refine⟨_,kb.x (by rw[aO]at t2;exact t2) _,?_⟩
   refine hN _ _ ?_
   clear hN N
   (try((repeat(revert hN;revert N;apply Pn.out));refine wk @Nat.zero_add ?_;(repeat(refine Pn.mk ?_;intro N hN))))
   have cw0:=BF.cell.1
   have dw0:=BF.cell.2
   unfold AV.cells at cw0
   unfold AV.cell at dw0
   refine⟨_,kb.x (by rw[ao,aO]at r1;exact r1) _,?_⟩
   refine hN _ _ ?_
   clear hN N
   (try((repeat(revert hN;revert N;apply Pn.out));refine wk (tw @cw0 @dw0) ?_;(repeat(refine Pn.mk ?_;intro N hN))))
   refine .inr (aE _ _ _ _ _ (fun r' σ1 hq=>?_) (o1 _))
   obtain⟨is,Hs,Ns,Ks⟩:=hq
   obtain⟨g1,x1⟩:=σ1
   (try dsimp only at Hs Ns Ks)
   obtain⟨As,Bs,Cs,j1s,j2s,j3s,rfl,hAs,D5,hCs,-⟩:=Hs.ex
   obtain⟨oAs,rfl⟩:=hAs.kj
   obtain⟨oBs,rfl⟩:=D5.kj
   obtain⟨oCs,rfl⟩:=hCs.kj
   clear hAs D5 hCs
   have ns:=Ks.1
   have bs:=Ns.2
   (try dsimp only at ns bs)
   have Mz:=Ks.2 ⟨10000000,n0⟩ (by(try dsimp only);omega)
   have MA:=Ks.2 ⟨10000001,n0⟩ (by(try dsimp only);omega)
   have Sk:=Ks.2 ⟨10008009,n0+1+1+1+1+1+1⟩ (by(try dsimp only);omega)
   simp only[go_sem, ↓reduceIte,Nat.reduceEqDiff,Nat.reduceAdd,Nat.reduceSub,Nat.reduceLeDiff,reduceCtorEq]at Mz MA Sk
   clear Ks
   refine hN _ _ ?_
   clear hN N
   (try((repeat(revert hN;revert N;apply Pn.out));refine wk (tw @Mz (tw @MA @Sk)) ?_;(repeat(refine Pn.mk ?_;intro N hN))))
   refine .inr (aE _ _ _ _ _ (fun r' σ2 hq=>?_) (o2 _))
   obtain⟨ia,Ha,Na,Ka⟩:=hq
   obtain⟨g2,x2⟩:=σ2
   (try dsimp only at Ha Na Ka)
   obtain⟨Da,hDa⟩:=Ha
   obtain⟨rfl,Sx⟩:=hDa
   obtain⟨oDa,rfl⟩:=Sx.kj
   have Ha:xK g2 (.agg [.own oDa 0 a.ah.length]) a ia:=⟨_,rfl,Sx⟩
   clear Sx
   have na:=Ka.1
   have ba:=Na.2
   (try dsimp only at na ba)
   have MD:∀i:Id,i.bW<x1->g2 i=g1 i:=fun i hi=>by
    have h4:=Ka.2 i (by(try dsimp only);omega)
    have h5:=ef (i:=i) (n:=x1) hi
    simp only[go_sem, ↓reduceIte,Nat.reduceEqDiff,Nat.reduceAdd,Nat.reduceSub,Nat.reduceLeDiff,reduceCtorEq,h5]at h4
    exact h4
   have Pq:=(MD ⟨10000000,n0⟩ (by(try dsimp only);omega)).trans Mz
   have Pr:=(MD ⟨10000001,n0⟩ (by(try dsimp only);omega)).trans MA
   have f2w:=(MD ⟨10008009,n0+1+1+1+1+1+1⟩ (by(try dsimp only);omega)).trans Sk
   have MB:=Ka.2 ⟨10009002,x1⟩ (by(try dsimp only);omega)
   simp only[go_sem, ↓reduceIte,Nat.reduceEqDiff,Nat.reduceAdd,Nat.reduceSub,Nat.reduceLeDiff,reduceCtorEq]at MB
   have Hs:=Hs.frame (g':=g2) fun i hi=>MD i (by have:=bs i hi;omega)
   clear Ka
   refine hN _ _ ?_
   clear hN N
   (try((repeat(revert hN;revert N;apply Pn.out));refine wk (tw @Pq (tw @Pr (tw @f2w @MB))) ?_;(repeat(refine Pn.mk ?_;intro N hN))))
   refine .inr (aE _ _ _ _ _ (fun r' σ3 hq=>?_) (EI mixed (K:=fun r g ids=>(∃v0 i0,∃v1 i1,r=.ij [.agg [v0],v1,.int .i64 c2]/\jS aa 3 g v0 L0 i0/\jS aa 3 g v1 L1 i1/\ids=i0++i1)) (by
    rintro r g ids ⟨v0,i0,v1,i1,rfl,k0,k1,rfl⟩
    exact⟨by simp[B9,B7 k0.clean,ES k1.clean,B8,zP],Handed.app (k0.hand Pj) (k1.hand Pj)⟩) (by
    rintro r g g' ids ⟨v0,i0,v1,i1,rfl,k0,k1,rfl⟩ hf
    exact⟨v0,i0,v1,i1,rfl,k0.frame (fun i hi=>hf i (by simp[hi])),k1.frame (fun i hi=>hf i (by simp[hi])),rfl⟩) r2 (JW ((Hs.frame fun i hi=>by
    have h5:=ef (i:=i) (n:=x2) (by have:=bs i hi;omega)
    simp only[go_sem, ↓reduceIte,Nat.reduceEqDiff,Nat.reduceAdd,Nat.reduceSub,Nat.reduceLeDiff,reduceCtorEq,h5]).fz 1) ((Ha.frame fun i hi=>by
    have h5:=ef (i:=i) (n:=x2) (by have:=ba i hi;omega)
    simp only[go_sem, ↓reduceIte,Nat.reduceEqDiff,Nat.reduceAdd,Nat.reduceSub,Nat.reduceLeDiff,reduceCtorEq,h5]).fz 2))))
   obtain⟨iZ,⟨v0,iZ0,v1,iZ1,rfl,Z0,Z1,rfl⟩,NZ,KZ⟩:=hq
   obtain⟨g3,x3⟩:=σ3
   (try dsimp only at Z0 Z1 NZ KZ)
   have nZ:=KZ.1
   (try dsimp only at nZ)
   have N0:=NZ.left
   have b0:=N0.2
   (try dsimp only at b0)
   have N1:=NZ.right
   have b1:=N1.2
   (try dsimp only at b1)
   have OG:∀i:Id,i.bW<x2->g3 i=g2 i:=fun i hi=>by
    have h4:=KZ.2 i (by(try dsimp only);omega)
    have h5:=ef (i:=i) (n:=x2) hi
    simp only[go_sem, ↓reduceIte,Nat.reduceEqDiff,Nat.reduceAdd,Nat.reduceSub,Nat.reduceLeDiff,reduceCtorEq,h5]at h4
    exact h4
   have zW:=(OG ⟨10000000,n0⟩ (by(try dsimp only);omega)).trans Pq
   have zX:=(OG ⟨10000001,n0⟩ (by(try dsimp only);omega)).trans Pr
   have Lp:=(OG ⟨10008009,n0+1+1+1+1+1+1⟩ (by(try dsimp only);omega)).trans f2w
   have Cg:=(OG ⟨10009002,x1⟩ (by(try dsimp only);omega)).trans MB
   have ya:=KZ.2 ⟨10010002,x2⟩ (by(try dsimp only);omega)
   simp only[go_sem, ↓reduceIte,Nat.reduceEqDiff,Nat.reduceAdd,Nat.reduceSub,Nat.reduceLeDiff,reduceCtorEq]at ya
   have Hs:=Hs.frame (g':=g3) fun i hi=>OG i (by have:=bs i hi;omega)
   have Ha:=Ha.frame (g':=g3) fun i hi=>OG i (by have:=ba i hi;omega)
   clear KZ
   have Sg:=Z0.cell.1
   have Si:=Z0.cell.2
   unfold AV.cells at Sg
   unfold AV.cell at Si
   refine hN _ _ ?_
   clear hN N
   (try((repeat(revert hN;revert N;apply Pn.out));refine wk (tw @zW (tw @zX (tw @Lp (tw @Cg (tw @ya (tw @Sg @Si)))))) ?_;(repeat(refine Pn.mk ?_;intro N hN))))
   refine .inl ⟨_,ak.x (uc Z0.AM BF) (lu (jF ((Z0.frame fun i hi=>by
    have h5:=ef (i:=i) (n:=x3) (by have:=b0 i hi;omega)
    simp only[go_sem, ↓reduceIte,Nat.reduceEqDiff,Nat.reduceAdd,Nat.reduceSub,Nat.reduceLeDiff,reduceCtorEq,h5]).Ls w6)) (jF (BF.Rg _))),?_⟩
   refine hN _ _ ?_
   clear hN N
   (try((repeat(revert hN;revert N;apply Pn.out));refine wk (tw @zW (tw @zX (tw @Lp (tw @Cg (tw @ya @E6))))) ?_;(repeat(refine Pn.mk ?_;intro N hN))))
   refine .inl ⟨_,ak.x (tg Z1.AM mc) (lu ((Z1.frame fun i hi=>by
    have h5:=ef (i:=i) (n:=x3) (by have:=b1 i hi;omega)
    simp only[go_sem, ↓reduceIte,Nat.reduceEqDiff,Nat.reduceAdd,Nat.reduceSub,Nat.reduceLeDiff,reduceCtorEq,h5]).Ls D4) (mc.fz _)),?_⟩
   refine hN _ _ ?_
   clear hN N
   (try((repeat(revert hN;revert N;apply Pn.out));refine wk (tw @zW (tw @zX (tw @Lp (tw @Cg (tw @ya @E6))))) ?_;(repeat(refine Pn.mk ?_;intro N hN))))
   refine⟨_,kb.x (by rw[ao]at t1;exact t1) _,?_⟩
   refine hN _ _ ?_
   clear hN N
   (try((repeat(revert hN;revert N;apply Pn.out));refine wk (tw @zW (tw @zX (tw @Lp (tw @Cg (tw @ya @E6))))) ?_;(repeat(refine Pn.mk ?_;intro N hN))))
   refine⟨_,ak.x (by rw[ao]at q1;exact q1) (by rw[<-ao];exact K5 (Hs.frame fun i hi=>by
    have h5:=ef (i:=i) (n:=x3) (by have:=bs i hi;omega)
    simp only[go_sem, ↓reduceIte,Nat.reduceEqDiff,Nat.reduceAdd,Nat.reduceSub,Nat.reduceLeDiff,reduceCtorEq,h5]) (x8 _ _)),?_⟩
   refine hN _ _ ?_
   clear hN N
   (try((repeat(revert hN;revert N;apply Pn.out));refine wk (tw @zW (tw @zX (tw @Lp (tw @Cg (tw @ya @E6))))) ?_;(repeat(refine Pn.mk ?_;intro N hN))))
   refine⟨_,kb.x (by rw[aO]at t2;exact t2) _,?_⟩
   refine hN _ _ ?_
   clear hN N
   (try((repeat(revert hN;revert N;apply Pn.out));refine wk (tw @zW (tw @zX (tw @Lp (tw @Cg (tw @ya @E6))))) ?_;(repeat(refine Pn.mk ?_;intro N hN))))
   refine⟨_,ak.x (by rw[aO]at q2;exact q2) (by rw[<-aO];exact JD (Ha.frame fun i hi=>by
    have h5:=ef (i:=i) (n:=x3) (by have:=ba i hi;omega)
    simp only[go_sem, ↓reduceIte,Nat.reduceEqDiff,Nat.reduceAdd,Nat.reduceSub,Nat.reduceLeDiff,reduceCtorEq,h5]) (DR _ _)),?_⟩
   refine hN _ _ ?_
   clear hN N
   (try((repeat(revert hN;revert N;apply Pn.out));refine wk (tw @zW (tw @zX (tw @Lp (tw @Cg (tw @ya @E6))))) ?_;(repeat(refine Pn.mk ?_;intro N hN))))
   have Nk:=KA s
   refine .inr (aE _ _ _ _ _ (fun r' σ4 hq=>?_) (FT _ s _ 1 (by omega) sm.s.t (by omega) _ (fun i hi=>by have:=bs i hi;(try dsimp only);omega) Ns.1 (Hs.frame fun i hi=>by
    have h5:=ef (i:=i) (n:=x3) (by have:=bs i hi;omega)
    simp only[go_sem, ↓reduceIte,Nat.reduceEqDiff,Nat.reduceAdd,Nat.reduceSub,Nat.reduceLeDiff,reduceCtorEq,h5])))
   obtain⟨rfl,hM⟩:=hq
   obtain⟨g4,x4⟩:=σ4
   (try dsimp only at hM)
   have nM4:=hM.1
   (try dsimp only at nM4)
   have ME:∀i:Id,i.bW<x3->i∉is->g4 i=g3 i:=fun i hi hx=>by
    have h4:=hM.2 i (by(try dsimp only);omega) hx
    have h5:=ef (i:=i) (n:=x3) hi
    simp only[go_sem, ↓reduceIte,Nat.reduceEqDiff,Nat.reduceAdd,Nat.reduceSub,Nat.reduceLeDiff,reduceCtorEq,h5]at h4
    exact h4
   have Ps:=(ME ⟨10000000,n0⟩ (by(try dsimp only);omega) (Ns.not (by(try dsimp only);omega))).trans zW
   have Pt:=(ME ⟨10000001,n0⟩ (by(try dsimp only);omega) (Ns.not (by(try dsimp only);omega))).trans zX
   have f4w:=(ME ⟨10008009,n0+1+1+1+1+1+1⟩ (by(try dsimp only);omega) (Ns.not (by(try dsimp only);omega))).trans Lp
   have Sn:=(ME ⟨10010002,x2⟩ (by(try dsimp only);omega) (Ns.not (by(try dsimp only);omega))).trans ya
   have Sm:=hM.2 ⟨10011007,x3⟩ (by(try dsimp only);omega) (Ns.not (by(try dsimp only);omega))
   simp only[go_sem, ↓reduceIte,Nat.reduceEqDiff,Nat.reduceAdd,Nat.reduceSub,Nat.reduceLeDiff,reduceCtorEq,Sg,Si]at Sm
   have Ha:=Ha.frame (g':=g4) fun i hi=>ME i (by have:=ba i hi;omega) (Ns.not (by have:=ba i hi;omega))
   have Z0:=Z0.frame (g':=g4) fun i hi=>ME i (by have:=b0 i hi;omega) (Ns.not (by have:=b0 i hi;omega))
   have Z1:=Z1.frame (g':=g4) fun i hi=>ME i (by have:=b1 i hi;omega) (Ns.not (by have:=b1 i hi;omega))
   clear hM
   refine hN _ _ ?_
   clear hN N
   (try((repeat(revert hN;revert N;apply Pn.out));refine wk (tw @Ps (tw @Pt (tw @f4w (tw @Sn @Sm)))) ?_;(repeat(refine Pn.mk ?_;intro N hN))))
   refine .inr (aE _ _ _ _ _ (fun r' σ5 hq=>?_) (xq _ a _ (1+AN s) (by omega) (by omega) _ (fun i hi=>by have:=ba i hi;(try dsimp only);omega) Ha))
   obtain⟨rfl,hM⟩:=hq
   obtain⟨g5,x5⟩:=σ5
   (try dsimp only at hM)
   have nM5:=hM.1
   (try dsimp only at nM5)
   have OH:∀i:Id,i.bW<x4->i∉ia->g5 i=g4 i:=fun i hi hx=>hM.2 i (by(try dsimp only);omega) hx
   have JT:=(OH ⟨10000000,n0⟩ (by(try dsimp only);omega) (Na.not (by(try dsimp only);omega))).trans Ps
   have JU:=(OH ⟨10000001,n0⟩ (by(try dsimp only);omega) (Na.not (by(try dsimp only);omega))).trans Pt
   have Rf:=(OH ⟨10008009,n0+1+1+1+1+1+1⟩ (by(try dsimp only);omega) (Na.not (by(try dsimp only);omega))).trans f4w
   have Re:=(OH ⟨10011007,x3⟩ (by(try dsimp only);omega) (Na.not (by(try dsimp only);omega))).trans Sm
   have Z0:=Z0.frame (g':=g5) fun i hi=>OH i (by have:=b0 i hi;omega) (Na.not (by have:=b0 i hi;omega))
   have Z1:=Z1.frame (g':=g5) fun i hi=>OH i (by have:=b1 i hi;omega) (Na.not (by have:=b1 i hi;omega))
   clear hM
   have e3:decide (1+((AN s:Nat):Int)+3*(a.ah.length:Int)<0)=false:=decide_eq_false (by omega)
   refine hN _ _ ?_
   clear hN N
   (try((repeat(revert hN;revert N;apply Pn.out));refine wk (tw @JT (tw @JU (tw @Rf (tw @Re @e3)))) ?_;(repeat(refine Pn.mk ?_;intro N hN))))
   refine .inl ⟨_,ak.x (uc Z0.AM BF) (lu (jF (Z0.Ls w6)) (jF (BF.Rg _))),?_⟩
   refine hN _ _ ?_
   clear hN N
   (try((repeat(revert hN;revert N;apply Pn.out));refine wk (tw @JT (tw @JU (tw @Rf (tw @Re (tw @E6 @e3))))) ?_;(repeat(refine Pn.mk ?_;intro N hN))))
   refine .inl ⟨_,ak.x (tg Z1.AM mc) (lu (Z1.Ls D4) (mc.fz _)),?_⟩
   refine hN _ _ ?_
   clear hN N
   (try((repeat(revert hN;revert N;apply Pn.out));refine wk (tw @JT (tw @JU (tw @Rf (tw @Re (tw @E6 @e3))))) ?_;(repeat(refine Pn.mk ?_;intro N hN))))
   refine .inr (aE _ _ _ _ _ (fun r' σ6 hq=>?_) (CX 1 (by omega) (by omega) _ (fun i hi=>by have:=b0 i hi;(try dsimp only);omega) Z0))
   obtain⟨rfl,hM,Y0⟩:=hq
   obtain⟨g6,x6⟩:=σ6
   (try dsimp only at hM Y0)
   have nM6:=hM.1
   (try dsimp only at nM6)
   have Py:∀i:Id,i.bW<x5->i∉iZ0->g6 i=g5 i:=fun i hi hx=>hM.2 i (by(try dsimp only);omega) hx
   have Pu:=(Py ⟨10000000,n0⟩ (by(try dsimp only);omega) (N0.not (by(try dsimp only);omega))).trans JT
   have Pv:=(Py ⟨10000001,n0⟩ (by(try dsimp only);omega) (N0.not (by(try dsimp only);omega))).trans JU
   have f6w:=(Py ⟨10008009,n0+1+1+1+1+1+1⟩ (by(try dsimp only);omega) (N0.not (by(try dsimp only);omega))).trans Rf
   have f6g:=(Py ⟨10011007,x3⟩ (by(try dsimp only);omega) (N0.not (by(try dsimp only);omega))).trans Re
   have Z1:=Z1.frame (g':=g6) fun i hi=>Py i (by have:=b1 i hi;omega) (NZ.apart i hi∘fun hx=>by simp[hx])
   clear hM
   refine hN _ _ ?_
   clear hN N
   (try((repeat(revert hN;revert N;apply Pn.out));refine wk (tw @Pu (tw @Pv (tw @f6w @f6g))) ?_;(repeat(refine Pn.mk ?_;intro N hN))))
   refine .inr (aE _ _ _ _ _ (fun r' σ7 hq=>?_) (rS (1+3*L0.length) (by omega) (by omega) _ (fun i hi=>by have:=b1 i hi;(try dsimp only);omega) Z1))
   obtain⟨rfl,hM,Y1⟩:=hq
   obtain⟨g7,x7⟩:=σ7
   (try dsimp only at hM Y1)
   have nM7:=hM.1
   (try dsimp only at nM7)
   have Pz:∀i:Id,i.bW<x6->i∉iZ1->g7 i=g6 i:=fun i hi hx=>hM.2 i (by(try dsimp only);omega) hx
   have vQ:=(Pz ⟨10000000,n0⟩ (by(try dsimp only);omega) (N1.not (by(try dsimp only);omega))).trans Pu
   have vR:=(Pz ⟨10000001,n0⟩ (by(try dsimp only);omega) (N1.not (by(try dsimp only);omega))).trans Pv
   have Jd:=(Pz ⟨10008009,n0+1+1+1+1+1+1⟩ (by(try dsimp only);omega) (N1.not (by(try dsimp only);omega))).trans f6w
   have Jc:=(Pz ⟨10011007,x3⟩ (by(try dsimp only);omega) (N1.not (by(try dsimp only);omega))).trans f6g
   have Y0:=Y0.frame (g':=g7) fun i hi=>Pz i (by have:=b0 i hi;omega) (fun hx=>NZ.apart i hx (by simp[hi]))
   clear hM
   refine hN _ _ ?_
   clear hN N
   (try((repeat(revert hN;revert N;apply Pn.out));refine wk (tw @vQ (tw @vR (tw @Jd @Jc))) ?_;(repeat(refine Pn.mk ?_;intro N hN))))
   have Q9:decide (1+3*(L0.length:Int)<0)=false:=decide_eq_false (by omega)
   refine .inl ⟨_,ak.x (uq 1 L0.length (by omega) (by omega) Y0.AM) (lu (jF (Y0.Ls w6)) (ay _ _ _ _)),?_⟩
   refine hN _ _ ?_
   clear hN N
   (try((repeat(revert hN;revert N;apply Pn.out));refine wk (tw @vQ (tw @vR (tw @Jd (tw @Jc @Q9)))) ?_;(repeat(refine Pn.mk ?_;intro N hN))))
   have Ra:decide (1+3*(L0.length:Int)+3*(L1.length:Int)<0)=false:=decide_eq_false (by omega)
   refine .inl ⟨_,ak.x (rI (1+3*L0.length) L1.length (by omega) (by omega) Y1.AM) (lu (Y1.Ls D4) (ay _ _ _ _)),?_⟩
   refine hN _ _ ?_
   clear hN N
   have e5:decide (1+3*(L0.length:Int)+3*(L1.length:Int)=1+3*(L0.length:Int)+3*(L1.length:Int))=true:=decide_eq_true rfl
   (try((repeat(revert hN;revert N;apply Pn.out));refine wk (tw @vQ (tw @vR (tw @Jd (tw @Jc (tw @Ra @e5))))) ?_;(repeat(refine Pn.mk ?_;intro N hN))))
   refine⟨_,kb.x (by rw[ao]at t1;exact t1) _,?_⟩
   refine hN _ _ ?_
   clear hN N
   (try((repeat(revert hN;revert N;apply Pn.out));refine wk (tw @vQ (tw @vR (tw @Jd (tw @Jc (tw @Q9 (tw @Ra @e5)))))) ?_;(repeat(refine Pn.mk ?_;intro N hN))))
   refine⟨_,kb.x (by rw[aO]at t2;exact t2) _,?_⟩
   refine hN _ _ ?_
   clear hN N
   (try((repeat(revert hN;revert N;apply Pn.out));refine wk (tw @vQ (tw @vR (tw @Jd (tw @Jc (tw @Q9 (tw @Ra @e5)))))) ?_;(repeat(refine Pn.mk ?_;intro N hN))))
   have rs:ak Tryz.prog 57 [.agg (ao s),.agg (aO a)] (.ij [.agg [LY aa L0],LY aa L1,.int .i64 c2]):=fun n=>aE _ _ _ _ _ (fun r σ' hq=>by
    obtain⟨ids,⟨v0,i0,v1,i1,rfl,k0,k1,rfl⟩,-⟩:=hq
    exact⟨_,by simp only[eR,bC,cG,yf,k0.s (n:=3) MG,k1.s (n:=4) MH,ek,fe,Option.map_some]<;>rfl,rfl⟩) (r2 n)
   refine⟨_,ak.x (by rw[ao,aO]at rs;exact rs) (JW (by rw[<-ao];exact x8 _ _) (by rw[<-aO];exact DR _ _)),?_⟩
   refine hN _ _ ?_
   clear hN N
   have GB:=(A5 (e:=aa) (L:=L0))
   have Se:=GB.cell.1
   have Sh:=GB.cell.2
   unfold AV.cells at Se
   unfold AV.cell at Sh
   generalize LY aa L0=u0 at Se Sh GB ⊢
   have rK:=(A5 (e:=aa) (L:=L1))
   generalize LY aa L1=u1 at rK ⊢
   (try((repeat(revert hN;revert N;apply Pn.out));refine wk (tw @vQ (tw @vR (tw @Jd (tw @Jc (tw @Se (tw @Sh @E6)))))) ?_;(repeat(refine Pn.mk ?_;intro N hN))))
   refine .inl ⟨_,ak.x (uc GB BF) (lu (jF (GB.Rg _)) (jF (BF.Rg _))),?_⟩
   refine hN _ _ ?_
   clear hN N
   (try((repeat(revert hN;revert N;apply Pn.out));refine wk (tw @vQ (tw @vR (tw @Jd (tw @Jc @E6)))) ?_;(repeat(refine Pn.mk ?_;intro N hN))))
   refine .inl ⟨_,ak.x (tg rK mc) (lu (rK.fz _) (mc.fz _)),?_⟩
   refine hN _ _ ?_
   clear hN N
   (try((repeat(revert hN;revert N;apply Pn.out));refine wk (tw @vQ (tw @vR (tw @Jd (tw @Jc @E6)))) ?_;(repeat(refine Pn.mk ?_;intro N hN))))
   refine .inl ⟨_,ak.x (uq 1 L0.length (by omega) (by omega) Y0.AM) (lu (jF ((Y0.frame fun i hi=>by
    have h5:=ef (i:=i) (n:=x7) (by have:=b0 i hi;omega)
    simp only[go_sem, ↓reduceIte,Nat.reduceEqDiff,Nat.reduceAdd,Nat.reduceSub,Nat.reduceLeDiff,reduceCtorEq,h5]).Ls w6)) (ay _ _ _ _)),?_⟩
   refine hN _ _ ?_
   clear hN N
   (try((repeat(revert hN;revert N;apply Pn.out));refine wk (tw @vQ (tw @vR (tw @Jd (tw @Jc @Q9)))) ?_;(repeat(refine Pn.mk ?_;intro N hN))))
   refine .inl ⟨_,ak.x (rI (1+3*L0.length) L1.length (by omega) (by omega) Y1.AM) (lu ((Y1.frame fun i hi=>by
    have h5:=ef (i:=i) (n:=x7) (by have:=b1 i hi;omega)
    simp only[go_sem, ↓reduceIte,Nat.reduceEqDiff,Nat.reduceAdd,Nat.reduceSub,Nat.reduceLeDiff,reduceCtorEq,h5]).Ls D4) (ay _ _ _ _)),?_⟩
   refine hN _ _ ?_
   clear hN N
   (try((repeat(revert hN;revert N;apply Pn.out));refine wk (tw @vQ (tw @vR (tw @Jd (tw @Jc (tw @Ra @e5))))) ?_;(repeat(refine Pn.mk ?_;intro N hN))))
   exact aQ (b:=true) (.inl rfl) (sd @Nat.zero_add) rfl
  ·rw[im Lw]at h2
   rw[ao]at h1
   rw[aO]at h2
   (repeat(first|((repeat(revert hN;revert N;apply Pn.out));refine wk (tw @ao.eq_1 (tw @aO.eq_1 @Fj)) ?_;(repeat(refine Pn.mk ?_;intro N hN)))|((try apply Or.inl);refine⟨_,ak.x (h1) (sd (tw @ao.eq_1 (tw @aO.eq_1 @Fj))),?_⟩;refine hN _ _ ?_;clear hN N)|((try apply Or.inl);refine⟨_,ak.x (h2) (sd (tw @ao.eq_1 (tw @aO.eq_1 @Fj))),?_⟩;refine hN _ _ ?_;clear hN N)))
   exact aQ (b:=true) (.inl rfl) (sd @Nat.zero_add) rfl
 ·rw[im PW]at h1
  rw[ao]at h1
  (repeat(first|((repeat(revert hN;revert N;apply Pn.out));refine wk (tw @ao.eq_1 @aO.eq_1) ?_;(repeat(refine Pn.mk ?_;intro N hN)))|((try apply Or.inl);refine⟨_,ak.x (h1) (sd (tw @ao.eq_1 @aO.eq_1)),?_⟩;refine hN _ _ ?_;clear hN N)))
  exact aQ (b:=true) (.inl rfl) (sd @Nat.zero_add) rfl
def iI (n lo hi:Int):Bool:=decide (lo<=n)&&decide (n<=hi)
theorem ew {n lo hi:Int} (h:iI n lo hi=true):lo<=n/\n<=hi:=by simpa[iI]using h
theorem mh {n lo hi:Int} (h:lo<=n/\n<=hi):iI n lo hi=true:=by simpa[iI]using h
def F1 (p:aP):Bool:=iI p.fE (-60) 60&&iI p.e8 (-60) 60
theorem kZ (n lo hi:Int):ak Tryz.prog 95 [.int .i64 n,.int .i64 lo,.int .i64 hi] (.bool (iI n lo hi)):=by
 refine ak.body eb rfl fun hl n0=>?_
 clear hl
 by_cases h1:lo<=n
 ·(try((repeat(revert hN;revert N;apply Pn.out));refine wk @h1 ?_;(repeat(refine Pn.mk ?_;intro N hN))))
  exact aQ (b:=decide (n<=hi)) (.inl rfl) (sd @Nat.zero_add) (by simp[iI,h1])
 ·(try((repeat(revert hN;revert N;apply Pn.out));refine wk @h1 ?_;(repeat(refine Pn.mk ?_;intro N hN))))
  exact aQ (b:=false) (.inl rfl) (sd @Nat.zero_add) (by simp[iI,h1])
theorem kG (n lo hi:Int):ak Tryz.prog 98 [.int .i64 n,.int .i64 lo,.int .i64 hi] (.bool (iI n lo hi)):=by
 refine ak.body eb rfl fun hl n0=>?_
 clear hl
 by_cases h1:lo<=n
 ·(try((repeat(revert hN;revert N;apply Pn.out));refine wk @h1 ?_;(repeat(refine Pn.mk ?_;intro N hN))))
  exact aQ (b:=decide (n<=hi)) (.inl rfl) (sd @Nat.zero_add) (by simp[iI,h1])
 ·(try((repeat(revert hN;revert N;apply Pn.out));refine wk @h1 ?_;(repeat(refine Pn.mk ?_;intro N hN))))
  exact aQ (b:=false) (.inl rfl) (sd @Nat.zero_add) (by simp[iI,h1])
theorem HZ (d:Int):ak Tryz.prog 278 [.int .i64 d] (.bool (iI d 0 3)):=by
 refine ak.body eb rfl fun hl n0=>?_
 clear hl
 have h:=kZ d 0 3
 (repeat(first|((repeat(revert hN;revert N;apply Pn.out));refine wk @Nat.zero_add ?_;(repeat(refine Pn.mk ?_;intro N hN)))|((try apply Or.inl);refine⟨_,ak.x (h) (sd @Nat.zero_add),?_⟩;refine hN _ _ ?_;clear hN N)))
 exact aQ (b:=iI d 0 3) (.inl rfl) (sd @Nat.zero_add) rfl
theorem CO (p:aP):ak Tryz.prog 222 [.agg (aj p)] (.bool (F1 p)):=by
 refine ak.body eb rfl fun hl n0=>?_
 clear hl
 have h1:=kZ p.fE (-60) 60
 have h2:=kZ p.e8 (-60) 60
 by_cases q:iI p.fE (-60) 60=true
 ·rw[q]at h1
  (repeat(first|((repeat(revert hN;revert N;apply Pn.out));refine wk @aj.eq_1 ?_;(repeat(refine Pn.mk ?_;intro N hN)))|((try apply Or.inl);refine⟨_,ak.x (h1) (sd @aj.eq_1),?_⟩;refine hN _ _ ?_;clear hN N)|((try apply Or.inl);refine⟨_,ak.x (h2) (sd @aj.eq_1),?_⟩;refine hN _ _ ?_;clear hN N)))
  exact aQ (b:=iI p.e8 (-60) 60) (.inl rfl) (sd @Nat.zero_add) (by rw[F1,q];rfl)
 ·rw[Bool.not_eq_true]at q
  rw[q]at h1
  (repeat(first|((repeat(revert hN;revert N;apply Pn.out));refine wk @aj.eq_1 ?_;(repeat(refine Pn.mk ?_;intro N hN)))|((try apply Or.inl);refine⟨_,ak.x (h1) (sd @aj.eq_1),?_⟩;refine hN _ _ ?_;clear hN N)|((try apply Or.inl);refine⟨_,ak.x (h2) (sd @aj.eq_1),?_⟩;refine hN _ _ ?_;clear hN N)))
  exact aQ (b:=false) (.inl rfl) (sd @Nat.zero_add) (by rw[F1,q];rfl)
theorem xO (p:aP):ak Tryz.prog 256 [.agg (aj p)] (.bool (F1 p)):=by
 refine ak.body eb rfl fun hl n0=>?_
 clear hl
 have h1:=kG p.fE (-60) 60
 have h2:=kG p.e8 (-60) 60
 by_cases q:iI p.fE (-60) 60=true
 ·rw[q]at h1
  (repeat(first|((repeat(revert hN;revert N;apply Pn.out));refine wk @aj.eq_1 ?_;(repeat(refine Pn.mk ?_;intro N hN)))|((try apply Or.inl);refine⟨_,ak.x (h1) (sd @aj.eq_1),?_⟩;refine hN _ _ ?_;clear hN N)|((try apply Or.inl);refine⟨_,ak.x (h2) (sd @aj.eq_1),?_⟩;refine hN _ _ ?_;clear hN N)))
  exact aQ (b:=iI p.e8 (-60) 60) (.inl rfl) (sd @Nat.zero_add) (by rw[F1,q];rfl)
 ·rw[Bool.not_eq_true]at q
  rw[q]at h1
  (repeat(first|((repeat(revert hN;revert N;apply Pn.out));refine wk @aj.eq_1 ?_;(repeat(refine Pn.mk ?_;intro N hN)))|((try apply Or.inl);refine⟨_,ak.x (h1) (sd @aj.eq_1),?_⟩;refine hN _ _ ?_;clear hN N)|((try apply Or.inl);refine⟨_,ak.x (h2) (sd @aj.eq_1),?_⟩;refine hN _ _ ?_;clear hN N)))
  exact aQ (b:=false) (.inl rfl) (sd @Nat.zero_add) (by rw[F1,q];rfl)
def rV (d:Int):Int:=if iI d 0 3 then(d+2) % 4 else -1
def dM (p:aP) (d:Int):aP:=
 if d=0 then⟨p.fE,p.e8+1⟩else if d=1 then⟨p.fE+1,p.e8⟩else if d=2 then⟨p.fE,p.e8-1⟩else if d=3 then⟨p.fE-1,p.e8⟩else p
def iB (n:Int):Prop:=-4611686018427387904<=n/\n<=4611686018427387904
theorem xk (p:aP) (d:Int) (hd:iI d 0 3=true) (hx:iB p.fE) (hy:iB p.e8):ak Tryz.prog 221 [.agg (aj p),.int .i64 d] (.agg (aj (dM p d))):=by
 refine ak.body eb rfl fun hl n0=>?_
 clear hl
 obtain⟨x1,x2⟩:=hx
 obtain⟨y1,y2⟩:=hy
 have w1:IntKind.i64.wrap (p.fE+1)=p.fE+1:=bE (by omega)
 have w2:IntKind.i64.wrap (p.fE-1)=p.fE-1:=bE (by omega)
 have w3:IntKind.i64.wrap (p.e8+1)=p.e8+1:=bE (by omega)
 have w4:IntKind.i64.wrap (p.e8-1)=p.e8-1:=bE (by omega)
 have hb:=ew hd
 have hc:d=0∨d=1∨d=2∨d=3:=by omega
 rcases hc with rfl|rfl|rfl|rfl
 ·(try((repeat(revert hN;revert N;apply Pn.out));refine wk (tw @aj.eq_1 @w3) ?_;(repeat(refine Pn.mk ?_;intro N hN))))
  exact k7 (.inl rfl) (vs:=[.agg (aj (dM p 0))]) (by simp only[go_sem, ↓reduceIte,Nat.reduceEqDiff,Nat.reduceAdd,Nat.reduceSub,Nat.reduceLeDiff,reduceCtorEq,eX,gM,aj,dM]) (by simp[eL,aj,ga,dR])
 ·(try((repeat(revert hN;revert N;apply Pn.out));refine wk (tw @aj.eq_1 @w1) ?_;(repeat(refine Pn.mk ?_;intro N hN))))
  exact k7 (.inl rfl) (vs:=[.agg (aj (dM p 1))]) (by simp[eX,gM,aj,dM,ld,rowAt,bH,upd,part]) (by simp[eL,aj,ga,dR])
 ·(try((repeat(revert hN;revert N;apply Pn.out));refine wk (tw @aj.eq_1 @w4) ?_;(repeat(refine Pn.mk ?_;intro N hN))))
  exact k7 (.inl rfl) (vs:=[.agg (aj (dM p 2))]) (by simp[eX,gM,aj,dM,ld,rowAt,bH,upd,part]) (by simp[eL,aj,ga,dR])
 ·(try((repeat(revert hN;revert N;apply Pn.out));refine wk (tw @aj.eq_1 @w2) ?_;(repeat(refine Pn.mk ?_;intro N hN))))
  exact k7 (.inl rfl) (vs:=[.agg (aj (dM p 3))]) (by simp[eX,gM,aj,dM,ld,rowAt,bH,upd,part]) (by simp[eL,aj,ga,dR])
theorem yV (p p2:aP) (x y:Int) (hx:IntKind.i64.wrap (p.fE+p2.fE)=x) (hy:IntKind.i64.wrap (p.e8+p2.e8)=y):ak Tryz.prog 280 [.agg (aj p),.agg (aj p2)] (.agg [.int .i64 x,.int .i64 y]):=by
 refine ak.body eb rfl fun hl n0=>?_
 clear hl
 (try((repeat(revert hN;revert N;apply Pn.out));refine wk (tw @aj.eq_1 (tw @hx @hy)) ?_;(repeat(refine Pn.mk ?_;intro N hN))))
 exact k7 (.inl rfl) (vs:=[.agg [.int .i64 x,.int .i64 y]]) (by simp only[go_sem, ↓reduceIte,Nat.reduceEqDiff,Nat.reduceAdd,Nat.reduceSub,Nat.reduceLeDiff,reduceCtorEq,eX,gM,aj]) (by simp[eL,ga,dR])
theorem IG (p:aP) (d:Int) (hd:iI d 0 3=true) (hx:iB p.fE) (hy:iB p.e8):ak Tryz.prog 228 [.agg (aj p),.int .i64 d] (.agg (aj (dM p d))):=by
 refine ak.body eb rfl fun hl n0=>?_
 clear hl
 obtain⟨x1,x2⟩:=hx
 obtain⟨y1,y2⟩:=hy
 have hb:=ew hd
 have hc:d=0∨d=1∨d=2∨d=3:=by omega
 rcases hc with rfl|rfl|rfl|rfl
 ·have h:=yV p ⟨0,1⟩ (p.fE) (p.e8+1) (by rw[bE (by constructor<;>simp only<;>omega)]<;>(try simp only)<;>(try omega)) (by rw[bE (by constructor<;>simp only<;>omega)]<;>(try simp only)<;>(try omega))
  simp only[aj]at h
  (repeat(first|((repeat(revert hN;revert N;apply Pn.out));refine wk @aj.eq_1 ?_;(repeat(refine Pn.mk ?_;intro N hN)))|((try apply Or.inl);refine⟨_,ak.x (h) (sd @aj.eq_1),?_⟩;refine hN _ _ ?_;clear hN N)))
  exact k7 (.inl rfl) (vs:=[.agg (aj (dM p 0))]) (by simp[eX,gM,aj,dM,ld,rowAt,bH,upd,part]) (by simp[eL,aj,ga,dR])
 ·have h:=yV p ⟨1,0⟩ (p.fE+1) (p.e8) (by rw[bE (by constructor<;>simp only<;>omega)]<;>(try simp only)<;>(try omega)) (by rw[bE (by constructor<;>simp only<;>omega)]<;>(try simp only)<;>(try omega))
  simp only[aj]at h
  (repeat(first|((repeat(revert hN;revert N;apply Pn.out));refine wk @aj.eq_1 ?_;(repeat(refine Pn.mk ?_;intro N hN)))|((try apply Or.inl);refine⟨_,ak.x (h) (sd @aj.eq_1),?_⟩;refine hN _ _ ?_;clear hN N)))
  exact k7 (.inl rfl) (vs:=[.agg (aj (dM p 1))]) (by simp[eX,gM,aj,dM,ld,rowAt,bH,upd,part]) (by simp[eL,aj,ga,dR])
 ·have h:=yV p ⟨0,(-1)⟩ (p.fE) (p.e8-1) (by rw[bE (by constructor<;>simp only<;>omega)]<;>(try simp only)<;>(try omega)) (by rw[bE (by constructor<;>simp only<;>omega)]<;>(try simp only)<;>(try omega))
  simp only[aj]at h
  (repeat(first|((repeat(revert hN;revert N;apply Pn.out));refine wk @aj.eq_1 ?_;(repeat(refine Pn.mk ?_;intro N hN)))|((try apply Or.inl);refine⟨_,ak.x (h) (sd @aj.eq_1),?_⟩;refine hN _ _ ?_;clear hN N)))
  exact k7 (.inl rfl) (vs:=[.agg (aj (dM p 2))]) (by simp[eX,gM,aj,dM,ld,rowAt,bH,upd,part]) (by simp[eL,aj,ga,dR])
 ·have h:=yV p ⟨(-1),0⟩ (p.fE-1) (p.e8) (by rw[bE (by constructor<;>simp only<;>omega)]<;>(try simp only)<;>(try omega)) (by rw[bE (by constructor<;>simp only<;>omega)]<;>(try simp only)<;>(try omega))
  simp only[aj]at h
  (repeat(first|((repeat(revert hN;revert N;apply Pn.out));refine wk @aj.eq_1 ?_;(repeat(refine Pn.mk ?_;intro N hN)))|((try apply Or.inl);refine⟨_,ak.x (h) (sd @aj.eq_1),?_⟩;refine hN _ _ ?_;clear hN N)))
  exact k7 (.inl rfl) (vs:=[.agg (aj (dM p 3))]) (by simp[eX,gM,aj,dM,ld,rowAt,bH,upd,part]) (by simp[eL,aj,ga,dR])
theorem C2 (d:Int) (hd:iI d 0 3=true):ak Tryz.prog 304 [.int .i64 d] (.int .i64 (rV d)):=by
 refine ak.body eb rfl fun hl n0=>?_
 clear hl
 have hb:=ew hd
 have hw:IntKind.i64.wrap (d+2)=d+2:=bE (by omega)
 have ht:Int.tmod (d+2) 4=(d+2) % 4:=Int.tmod_eq_emod_of_nonneg (by omega)
 have h4:¬((4:Int)=0):=by omega
 (try((repeat(revert hN;revert N;apply Pn.out));refine wk (tw @hw (tw @ht @h4)) ?_;(repeat(refine Pn.mk ?_;intro N hN))))
 exact bL (b:=(d+2) % 4) (.inl rfl) (sd @Nat.zero_add) (by rw[rV,if_pos hd])
theorem BS (d:Int) (hd:iI d 0 3=true):ak Tryz.prog 224 [.int .i64 d] (.int .i64 (rV d)):=by
 refine ak.body eb rfl fun hl n0=>?_
 clear hl
 have hb:=ew hd
 have hw:IntKind.i64.wrap (d+2)=d+2:=bE (by omega)
 have ht:Int.tmod (d+2) 4=(d+2) % 4:=Int.tmod_eq_emod_of_nonneg (by omega)
 have h4:¬((4:Int)=0):=by omega
 have h:=HZ d
 rw[hd]at h
 (repeat(first|((repeat(revert hN;revert N;apply Pn.out));refine wk (tw @hw (tw @ht @h4)) ?_;(repeat(refine Pn.mk ?_;intro N hN)))|((try apply Or.inl);refine⟨_,ak.x (h) (sd (tw @hw (tw @ht @h4))),?_⟩;refine hN _ _ ?_;clear hN N)))
 exact bL (b:=(d+2) % 4) (.inl rfl) (sd @Nat.zero_add) (by rw[rV,if_pos hd])
def fP (s:aq) (t:Int):Bool:=iI t 0 ((s.ah.length:Int)-1)
theorem CP (s:aq) (t:Int):ak Tryz.prog 220 [.cN (ab s),.int .i64 t] (.bool (fP s t)):=by
 refine ak.body eb rfl fun hl n0=>?_
 have hn:s.ah.length<=9223372036854775807:=by
  have h1:=(hl (.cN (ab s)) (by simp)).AE (a:=.sl (s.ah.map bI)) (by simp[ab])
  simpa using h1.len
 clear hl
 have hw:IntKind.i64.wrap ((s.ah.length:Int)-1)=(s.ah.length:Int)-1:=bE (by omega)
 have h:=kZ t 0 ((s.ah.length:Int)-1)
 (repeat(first|((repeat(revert hN;revert N;apply Pn.out));refine wk (tw @ab.eq_1 @hw) ?_;(repeat(refine Pn.mk ?_;intro N hN)))|((try apply Or.inl);refine⟨_,ak.x (h) (sd (tw @ab.eq_1 @hw)),?_⟩;refine hN _ _ ?_;clear hN N)))
 exact aQ (b:=fP s t) (.inl rfl) (by simp only[go_sem, ↓reduceIte,Nat.reduceEqDiff,Nat.reduceAdd,Nat.reduceSub,Nat.reduceLeDiff,reduceCtorEq,fP]) rfl
theorem xj (t n:Int) (h0:0<=n) (h1:n<=9223372036854775807):ak Tryz.prog 257 [.int .i64 t,.int .i64 n] (.bool (iI t 0 (n-1))):=by
 refine ak.body eb rfl fun hl n0=>?_
 clear hl
 have hw:IntKind.i64.wrap (n-1)=n-1:=bE (by omega)
 have h:=kG t 0 (n-1)
 (repeat(first|((repeat(revert hN;revert N;apply Pn.out));refine wk @hw ?_;(repeat(refine Pn.mk ?_;intro N hN)))|((try apply Or.inl);refine⟨_,ak.x (h) (sd @hw),?_⟩;refine hN _ _ ?_;clear hN N)))
 exact aQ (b:=iI t 0 (n-1)) (.inl rfl) (sd @Nat.zero_add) rfl
theorem HX (s:aq) (t:Int):ak Tryz.prog 203 [.agg (ab s),.int .i64 t] (.bool (fP s t)):=by
 refine ak.body eb rfl fun hl n0=>?_
 have hn:s.ah.length<=9223372036854775807:=by
  have h1:=(hl (.agg (ab s)) (by simp)).Mj (a:=.sl (s.ah.map bI)) (by simp[ab])
  simpa using h1.len
 clear hl
 have h:=xj t s.ah.length (by omega) (by omega)
 (repeat(first|((repeat(revert hN;revert N;apply Pn.out));refine wk @ab.eq_1 ?_;(repeat(refine Pn.mk ?_;intro N hN)))|((try apply Or.inl);refine⟨_,ak.x (h) (sd @ab.eq_1),?_⟩;refine hN _ _ ?_;clear hN N)))
 exact aQ (b:=fP s t) (.inl rfl) (by simp only[go_sem, ↓reduceIte,Nat.reduceEqDiff,Nat.reduceAdd,Nat.reduceSub,Nat.reduceLeDiff,reduceCtorEq,fP]) rfl
def yS:eI:=⟨⟨#[]⟩,[]⟩
def dq (s:aq) (t:Int):eI:=s.ah.getD t.toNat yS
def dp (t:eI) (d:Int):Int:=t.bB.getD d.toNat 0
def pB (s:aq) (g:Int):fj:=s.au.getD g.toNat ⟨⟨#[]⟩,0⟩
def r4 (s:aq) (g:Int):Int:=if g=0 then 0 else(pB s (g-1)).eh
def gD (s:aq) (a d b:Int):Int:=if dp (dq s a) d=dp (dq s b) (rV d)then r4 s (dp (dq s a) d)else 0
structure j8 (s:aq):Prop where
 u9:∀t∈s.ah,t.bB.length=4
 uk:∀t∈s.ah,∀g∈t.bB,0<=g/\g<=s.au.length
theorem getD_map {α β:Type} (e:α->β) {l:List α} {k:Nat} {d:α} (h:k<l.length):(l.map e)[k]? =some (e (l.getD k d)):=by simp[List.getD_eq_getElem?_getD,h]
theorem wg (s:aq) (g:Int) (h0:0<=g) (h1:g<=s.au.length):ak Tryz.prog 225 [.cN (ab s),.int .i64 g] (.int .i64 (r4 s g)):=by
 refine ak.body eb rfl fun hl n0=>?_
 have hn:s.au.length<=9223372036854775807:=by
  have h1:=(hl (.cN (ab s)) (by simp)).AE (a:=.sl (s.au.map bU)) (by simp[ab])
  simpa using h1.len
 clear hl
 by_cases hg:g=0
 ·have e:decide (g=0)=true:=decide_eq_true hg
  (try((repeat(revert hN;revert N;apply Pn.out));refine wk (tw @ab.eq_1 @e) ?_;(repeat(refine Pn.mk ?_;intro N hN))))
  exact bL (b:=0) (.inl rfl) (sd @Nat.zero_add) (by rw[r4,if_pos hg])
 ·have e:decide (g=0)=false:=decide_eq_false hg
  have hw:IntKind.i64.wrap (g-1)=g-1:=bE (by omega)
  have oA:0<=g-1:=by omega
  have eT:(s.au.map bU)[(g-1).toNat]? =some (bU (pB s (g-1))):=getD_map bU (by omega)
  (try((repeat(revert hN;revert N;apply Pn.out));refine wk (tw @ab.eq_1 (tw @e (tw @hw (tw @oA (tw @eT @bU.eq_1))))) ?_;(repeat(refine Pn.mk ?_;intro N hN))))
  exact bL (b:=(pB s (g-1)).eh) (.inl rfl) (sd @Nat.zero_add) (by rw[r4,if_neg hg])
theorem oj {s:aq} {a:Int} (h:fP s a=true):0<=a/\(s.ah.map bI)[a.toNat]? =some (bI (dq s a))/\dq s a∈s.ah:=by
 have h':=ew h
 have dV:a.toNat<s.ah.length:=by omega
 refine⟨h'.1,getD_map bI dV,?_⟩
 unfold dq
 rw[List.getD_eq_getElem?_getD,List.getElem?_eq_getElem dV]
 exact List.getElem_mem dV
theorem oe {t:eI} {d:Int} (h:t.bB.length=4) (hd:iI d 0 3=true):(t.bB.map aT)[d.toNat]? =some [.int .i64 (dp t d)]:=by
 have:=ew hd
 exact getD_map aT (by omega)
theorem Bg {t:eI} {d:Int} (h:t.bB.length=4) (hd:iI d 0 3=true):dp t d∈t.bB:=by
 have:=ew hd
 have dV:d.toNat<t.bB.length:=by omega
 unfold dp
 rw[List.getD_eq_getElem?_getD,List.getElem?_eq_getElem dV]
 exact List.getElem_mem dV
theorem yT {d:Int} (hd:iI d 0 3=true):iI (rV d) 0 3=true:=by
 have:=ew hd
 refine mh ?_
 rw[rV,if_pos hd];omega
theorem xl (s:aq) (hF:j8 s) (a d b:Int) (ha:fP s a=true) (hb:fP s b=true) (hd:iI d 0 3=true):ak Tryz.prog 190 [.cN (ab s),.int .i64 a,.int .i64 d,.int .i64 b] (.int .i64 (gD s a d b)):=by
 refine ak.body eb rfl fun hl n0=>?_
 clear hl
 obtain⟨a0,a1,a2⟩:=oj ha
 obtain⟨b0,b1,b2⟩:=oj hb
 have s1:=oe (hF.u9 _ a2) hd
 have s2:=oe (hF.u9 _ b2) (yT hd)
 have gl:=hF.uk _ a2 _ (Bg (hF.u9 _ a2) hd)
 have d0:=(ew hd).1
 have d1:=(ew (yT hd)).1
 have h:=BS d hd
 have hs:=wg s (dp (dq s a) d) gl.1 gl.2
 rw[ab]at hs
 by_cases e:dp (dq s a) d=dp (dq s b) (rV d)
 ·have e':decide (dp (dq s a) d=dp (dq s b) (rV d))=true:=decide_eq_true e
  (repeat(first|((repeat(revert hN;revert N;apply Pn.out));refine wk (tw @ab.eq_1 (tw @bI.eq_1 (tw @a0 (tw @a1 (tw @b0 (tw @b1 (tw @s1 (tw @s2 (tw @d0 (tw @d1 @e')))))))))) ?_;(repeat(refine Pn.mk ?_;intro N hN)))|((try apply Or.inl);refine⟨_,ak.x (h) (sd (tw @ab.eq_1 (tw @bI.eq_1 (tw @a0 (tw @a1 (tw @b0 (tw @b1 (tw @s1 (tw @s2 (tw @d0 (tw @d1 @e'))))))))))),?_⟩;refine hN _ _ ?_;clear hN N)|((try apply Or.inl);refine⟨_,ak.x (hs) (sd (tw @ab.eq_1 (tw @bI.eq_1 (tw @a0 (tw @a1 (tw @b0 (tw @b1 (tw @s1 (tw @s2 (tw @d0 (tw @d1 @e'))))))))))),?_⟩;refine hN _ _ ?_;clear hN N)))
  exact bL (b:=r4 s (dp (dq s a) d)) (.inl rfl) (sd @Nat.zero_add) (by rw[gD,if_pos e])
 ·have e':decide (dp (dq s a) d=dp (dq s b) (rV d))=false:=decide_eq_false e
  (repeat(first|((repeat(revert hN;revert N;apply Pn.out));refine wk (tw @ab.eq_1 (tw @bI.eq_1 (tw @a0 (tw @a1 (tw @b0 (tw @b1 (tw @s1 (tw @s2 (tw @d0 (tw @d1 @e')))))))))) ?_;(repeat(refine Pn.mk ?_;intro N hN)))|((try apply Or.inl);refine⟨_,ak.x (h) (sd (tw @ab.eq_1 (tw @bI.eq_1 (tw @a0 (tw @a1 (tw @b0 (tw @b1 (tw @s1 (tw @s2 (tw @d0 (tw @d1 @e'))))))))))),?_⟩;refine hN _ _ ?_;clear hN N)))
  exact bL (b:=0) (.inl rfl) (sd @Nat.zero_add) (by rw[gD,if_neg e])
theorem Dr (s:aq) (hF:j8 s) (a d:Int) (ha:fP s a=true) (hd:iI d 0 3=true):ak Tryz.prog 305 [.agg (ab s),.int .i64 a,.int .i64 d] (.int .i64 (r4 s (dp (dq s a) d))):=by
 refine ak.body eb rfl fun hl n0=>?_
 have hn:s.au.length<=9223372036854775807:=by
  have h1:=(hl (.agg (ab s)) (by simp)).Mj (a:=.sl (s.au.map bU)) (by simp[ab])
  simpa using h1.len
 clear hl
 obtain⟨a0,a1,a2⟩:=oj ha
 have s1:=oe (hF.u9 _ a2) hd
 have gl:=hF.uk _ a2 _ (Bg (hF.u9 _ a2) hd)
 have d0:=(ew hd).1
 by_cases hg:dp (dq s a) d=0
 ·have e:¬(0<dp (dq s a) d):=by omega
  (try((repeat(revert hN;revert N;apply Pn.out));refine wk (tw @ab.eq_1 (tw @bI.eq_1 (tw @a0 (tw @a1 (tw @s1 (tw @d0 @e)))))) ?_;(repeat(refine Pn.mk ?_;intro N hN))))
  exact bL (b:=0) (.inl rfl) (sd @Nat.zero_add) (by rw[r4,if_pos hg])
 ·have e:0<dp (dq s a) d:=by omega
  have hw:IntKind.i64.wrap (dp (dq s a) d-1)=dp (dq s a) d-1:=bE (by omega)
  have oA:0<=dp (dq s a) d-1:=by omega
  have eT:(s.au.map bU)[(dp (dq s a) d-1).toNat]? =some (bU (pB s (dp (dq s a) d-1))):=getD_map bU (by omega)
  (try((repeat(revert hN;revert N;apply Pn.out));refine wk (tw @ab.eq_1 (tw @bI.eq_1 (tw @a0 (tw @a1 (tw @s1 (tw @d0 (tw @e (tw @hw (tw @oA (tw @eT @bU.eq_1)))))))))) ?_;(repeat(refine Pn.mk ?_;intro N hN))))
  exact bL (b:=(pB s (dp (dq s a) d-1)).eh) (.inl rfl) (sd @Nat.zero_add) (by rw[r4,if_neg hg])
theorem G4 (s:aq) (hF:j8 s) (a d b:Int) (ha:fP s a=true) (hb:fP s b=true) (hd:iI d 0 3=true):ak Tryz.prog 261 [.agg (ab s),.int .i64 a,.int .i64 d,.int .i64 b] (.int .i64 (gD s a d b)):=by
 refine ak.body eb rfl fun hl n0=>?_
 clear hl
 obtain⟨a0,a1,a2⟩:=oj ha
 obtain⟨b0,b1,b2⟩:=oj hb
 have s1:=oe (hF.u9 _ a2) hd
 have s2:=oe (hF.u9 _ b2) (yT hd)
 have d0:=(ew hd).1
 have d1:=(ew (yT hd)).1
 have h:=C2 d hd
 have hs:=Dr s hF a d ha hd
 rw[ab]at hs
 by_cases e:dp (dq s a) d=dp (dq s b) (rV d)
 ·have e':decide (dp (dq s a) d=dp (dq s b) (rV d))=true:=decide_eq_true e
  (repeat(first|((repeat(revert hN;revert N;apply Pn.out));refine wk (tw @ab.eq_1 (tw @bI.eq_1 (tw @a0 (tw @a1 (tw @b0 (tw @b1 (tw @s1 (tw @s2 (tw @d0 (tw @d1 @e')))))))))) ?_;(repeat(refine Pn.mk ?_;intro N hN)))|((try apply Or.inl);refine⟨_,ak.x (h) (sd (tw @ab.eq_1 (tw @bI.eq_1 (tw @a0 (tw @a1 (tw @b0 (tw @b1 (tw @s1 (tw @s2 (tw @d0 (tw @d1 @e'))))))))))),?_⟩;refine hN _ _ ?_;clear hN N)|((try apply Or.inl);refine⟨_,ak.x (hs) (sd (tw @ab.eq_1 (tw @bI.eq_1 (tw @a0 (tw @a1 (tw @b0 (tw @b1 (tw @s1 (tw @s2 (tw @d0 (tw @d1 @e'))))))))))),?_⟩;refine hN _ _ ?_;clear hN N)))
  exact bL (b:=r4 s (dp (dq s a) d)) (.inl rfl) (sd @Nat.zero_add) (by rw[gD,if_pos e])
 ·have e':decide (dp (dq s a) d=dp (dq s b) (rV d))=false:=decide_eq_false e
  (repeat(first|((repeat(revert hN;revert N;apply Pn.out));refine wk (tw @ab.eq_1 (tw @bI.eq_1 (tw @a0 (tw @a1 (tw @b0 (tw @b1 (tw @s1 (tw @s2 (tw @d0 (tw @d1 @e')))))))))) ?_;(repeat(refine Pn.mk ?_;intro N hN)))|((try apply Or.inl);refine⟨_,ak.x (h) (sd (tw @ab.eq_1 (tw @bI.eq_1 (tw @a0 (tw @a1 (tw @b0 (tw @b1 (tw @s1 (tw @s2 (tw @d0 (tw @d1 @e'))))))))))),?_⟩;refine hN _ _ ?_;clear hN N)))
  exact bL (b:=0) (.inl rfl) (sd @Nat.zero_add) (by rw[gD,if_neg e])
def oR (s:aq) (i:Nat):fj:=s.au.getD i ⟨⟨#[]⟩,0⟩
def oh (s:aq) (i:Nat):eI:=s.ah.getD i yS
def BN (s:aq) (i:Nat):Prop:=js (oR s i).aC=true/\iI (oR s i).eh 1 4=true/\∀j,j<i->(oR s j).aC≠(oR s i).aC
def zD (s:aq) (i:Nat):Prop:=js (oh s i).aC=true/\(oh s i).bB.length=4/\(∀j,j<i->(oh s j).aC≠(oh s i).aC)/\∀g∈(oh s i).bB,iI g 0 s.au.length=true
structure iD (s:aq):Prop where
 uk:s.au.length<=200
 some:1<=s.ah.length
 L6:s.ah.length<=160
 Rh:∀i,i<s.au.length->BN s i
 tok:∀i,i<s.ah.length->zD s i
noncomputable def pQ (s:aq):Bool:=@decide (iD s) (Classical.propDecidable _)
theorem lR {s:aq}:pQ s=true↔iD s:=by simp[pQ]
theorem ft {s:aq} (h:¬iD s):false=pQ s:=by simp[pQ,h]
theorem Bf {s:aq} (h:iD s):true=pQ s:=by simp[pQ,h]
theorem zh {s:aq} {i:Nat} (h:i<s.ah.length):(s.ah.map bI)[i]? =some (bI (oh s i)):=getD_map bI h
theorem yh {s:aq} {i:Nat} (h:i<s.au.length):(s.au.map bU)[i]? =some (bU (oR s i)):=getD_map bU h
theorem iD.form {s:aq} (h:iD s):j8 s:=by
 have key:∀t∈s.ah,∃i,i<s.ah.length/\t=oh s i:=fun t ht=>by
  obtain⟨i,hi,rfl⟩:=List.getElem_of_mem ht
  exact⟨i,hi,by simp[oh,List.getD_eq_getElem?_getD,hi]⟩
 refine⟨fun t ht=>?_,fun t ht g hg=>?_⟩
 ·obtain⟨i,hi,rfl⟩:=key t ht
  exact(h.tok i hi).2.1
 ·obtain⟨i,hi,rfl⟩:=key t ht
  exact ew ((h.tok i hi).2.2.2 g hg)
def dF (l:List ByteArray):List (List AV):=l.map fun n=>[.str n,.bool true]
abbrev mS:MK:=⟨false,[.tS]⟩
theorem xE (n:ByteArray):∀(l:List ByteArray) (i:Nat),∃r,ib mS [.str n] (dF l) i=some r/\((r=none/\n∉l)∨∃j,r=some (i+j)/\n∈l/\(dF l)[j]? =some [.str n,.bool true])
 |[],i=>⟨none,rfl,.inl ⟨rfl,by simp⟩⟩
 |m::l,i=>by
  obtain⟨r,h1,h2⟩:=xE n l (i+1)
  by_cases h:n=m
  ·subst h
   exact⟨some i,by simp[dF,ib,eF,e6,MK.ks],.inr ⟨0,rfl,by simp,rfl⟩⟩
  ·refine⟨r,?_,?_⟩
   ·unfold dF at h1 ⊢
    simp only[List.map_cons,ib,MK.ks,List.length_cons,List.length_nil,Nat.zero_add,List.take_succ_cons,List.take_zero,eF,e6,h,decide_false,Bool.and_true]
    exact h1
   ·rcases h2 with⟨rfl,h2⟩|⟨j,rfl,h2,h3⟩
    ·exact .inl ⟨rfl,by simp[h,h2]⟩
    ·exact .inr ⟨j+1,by congr 1;omega,by simp[h2],by simpa[dF]using h3⟩
theorem u7 (n:ByteArray) (l:List ByteArray):(n∉l/\gS mS (.str n) (dF l)=some none)∨∃j,n∈l/\gS mS (.str n) (dF l)=some (some j)/\(dF l)[j]? =some [.str n,.bool true]:=by
 obtain⟨r,h1,h2⟩:=xE n l 0
 have e:gS mS (.str n) (dF l)=some r:=by
  unfold gS
  rw[if_pos ⟨rfl,rfl,rfl⟩];exact h1
 rcases h2 with⟨rfl,h2⟩|⟨j,rfl,h2,h3⟩
 ·exact .inl ⟨h2,e⟩
 ·exact .inr ⟨j,h2,by rw[e,Nat.zero_add],h3⟩
theorem NX (s:aq) (g:Int):ak Tryz.prog 255 [.int .i64 g,.cN (ab s)] (.bool (!iI g 0 s.au.length)):=by
 refine ak.body eb rfl fun hl n0=>?_
 clear hl
 have h:=kG g 0 s.au.length
 (repeat(first|((repeat(revert hN;revert N;apply Pn.out));refine wk @ab.eq_1 ?_;(repeat(refine Pn.mk ?_;intro N hN)))|((try apply Or.inl);refine⟨_,ak.x (h) (sd @ab.eq_1),?_⟩;refine hN _ _ ?_;clear hN N)))
 exact aQ (b:= !iI g 0 s.au.length) (.inl rfl) (sd @Nat.zero_add) rfl
theorem JS:O6 aT (fun c=>.int .i64 c) 1 false:=⟨fun _=>rfl,fun _=>rfl,fun x g=>by rw[ae,ay,ai];rfl⟩
theorem K1 (s:aq) (l:List Int) (hl:l.length<=1048576):ak Tryz.prog 226 [.sl (l.map aT),.fn 255 [.cN (ab s)]] (.bool (l.any fun g=> !iI g 0 s.au.length)):=
 kc JS (show lx Tryz.prog 226=some (ym 226 279) by kernel_rfl)
  (show lx Tryz.prog 279=some (pH 279 1 false) by kernel_rfl) l hl _ _ _ rfl (fun g=>by rw[ae,aD,ai];rfl) (fun x _=>NX s x) fun g=>by rw[ae,aD,ai];rfl
theorem uL {α:Type} (f:Nat->α) (n k:Nat) (x:α):x∉(List.range k).map f↔∀j,j<k->f j≠x:=by
 constructor
 ·intro h j hj he
  exact h (List.mem_map.2 ⟨j,List.mem_range.2 hj,he⟩)
 ·intro h hm
  obtain⟨j,hj,he⟩:=List.mem_map.1 hm
  exact h j (List.mem_range.1 hj) he
theorem BV (s:aq) (hn:fm s) (hg:s.au.length<=1048576) (ht:s.ah.length<=1048576) (hs:∀t∈s.ah,t.bB.length<=1048576):ak Tryz.prog 199 [.agg (ab s)] (.bool (pQ s)):=by
 refine ak.body eb rfl fun hl n0=>?_
 clear hl
 have P5:∀i,i<s.au.length->(oR s i).aC.size<=9223372036854775807:=fun i hi=>hn.1 _ (by simp[oR,List.getD_eq_getElem?_getD,hi])
 have Tz:∀i,i<s.ah.length->(oh s i).aC.size<=9223372036854775807:=fun i hi=>hn.2 _ (by simp[oh,List.getD_eq_getElem?_getD,hi])
 have wb:∀i,i<s.ah.length->(oh s i).bB.length<=1048576:=fun i hi=>hs _ (by simp[oh,List.getD_eq_getElem?_getD,hi])
 have hw:=kG (s.ah.length:Int) 1 160
 by_cases h1:(200:Int)<(s.au.length:Int)
 ·(try((repeat(revert hN;revert N;apply Pn.out));refine wk (tw @ab.eq_1 @h1) ?_;(repeat(refine Pn.mk ?_;intro N hN))))
  exact aQ (b:=false) (.inl rfl) (sd @Nat.zero_add) (ft fun h=>by have:=h.uk;omega)
 by_cases h2:iI (s.ah.length:Int) 1 160=true
 ·have Bz:=ew h2
  rw[h2]at hw
  (repeat(first|((repeat(revert hN;revert N;apply Pn.out));refine wk (tw @ab.eq_1 @h1) ?_;(repeat(refine Pn.mk ?_;intro N hN)))|((try apply Or.inl);refine⟨_,ak.x (hw) (sd (tw @ab.eq_1 @h1)),?_⟩;refine hN _ _ ?_;clear hN N)))
  refine aY (fun n env st=>∃k:Nat,n=(s.au.length)-k/\k<=(s.au.length)/\env 24=.int .i64 (k:Int)/\st.get ⟨199000000,n0⟩=some ⟨true,2,[ab s]⟩/\st.get ⟨199003000,n0+1+1⟩=some ⟨true,mS.y7,dF ((List.range k).map fun i=>(oR s i).aC)⟩/\(∀j:Nat,j<k->BN s j)) (s.au.length) ⟨0,by omega,by omega,by(try simp only[go_sem, ↓reduceIte,Nat.reduceEqDiff,Nat.reduceAdd,Nat.reduceSub,Nat.reduceLeDiff,reduceCtorEq,ab,List.range_zero,List.map_nil,dF]);try rfl,by(try simp only[go_sem, ↓reduceIte,Nat.reduceEqDiff,Nat.reduceAdd,Nat.reduceSub,Nat.reduceLeDiff,reduceCtorEq,ab,List.range_zero,List.map_nil,dF]);try rfl,by(try simp only[go_sem, ↓reduceIte,Nat.reduceEqDiff,Nat.reduceAdd,Nat.reduceSub,Nat.reduceLeDiff,reduceCtorEq,ab,List.range_zero,List.map_nil,dF]);try rfl,fun _ h=>absurd h (Nat.not_lt_zero _)⟩ ?_
  rintro n_a env_a st_a ⟨k,rfl,ale,a24,ag0,ag1,lv⟩ dU
  have a1:=dU 1 (by kernel_rfl);have a3:=dU 3 (by kernel_rfl);have a22:=dU 22 (by kernel_rfl);have a23:=dU 23 (by kernel_rfl)
  simp only[go_sem, ↓reduceIte,Nat.reduceEqDiff,Nat.reduceAdd,Nat.reduceSub,Nat.reduceLeDiff,reduceCtorEq,ab,List.range_zero,List.map_nil,dF]at a1 a3 a22 a23
  clear dU
  by_cases hk:(k:Int)<(s.au.length:Int)
  ·have cK:∀{e:Env} {gg:Rows},(e 24=.int .i64 (IntKind.i64.wrap ((k:Int)+1)))->(gg ⟨199000000,n0⟩=some ⟨true,2,[ab s]⟩)->(gg ⟨199003000,n0+1+1⟩=some ⟨true,mS.y7,dF ((List.range (k+1)).map fun i=>(oR s i).aC)⟩)->(BN s k)->∃m0,m0<(s.au.length)-k/\∃k:Nat,m0=(s.au.length)-k/\k<=(s.au.length)/\e 24=.int .i64 (k:Int)/\gg ⟨199000000,n0⟩=some ⟨true,2,[ab s]⟩/\gg ⟨199003000,n0+1+1⟩=some ⟨true,mS.y7,dF ((List.range k).map fun i=>(oR s i).aC)⟩/\(∀j:Nat,j<k->BN s j):=fun x1 x2 x3 x4=>⟨_,by omega,k+1,rfl,by omega,(by rw[x1,ax (by omega)]),x2,x3,(all_succ lv x4)⟩
   have eU:k<s.au.length:=by omega
   have ea:=yh eU
   have qV:=Ek (oR s k).aC (P5 k eU)
   have Jp:=kG (oR s k).eh 1 4
   have Ar:=u7 (oR s k).aC ((List.range k).map fun i=>(oR s i).aC)
   rw[uL _ k]at Ar
   have lg:(¬BN s k)->¬iD s:=fun h hp=>h (hp.Rh k eU)
   generalize tt:oR s k=gl at *
   cases hb:js gl.aC
   ·rw[hb]at qV
    (repeat(first|((repeat(revert hN;revert N;apply Pn.out));refine wk (tw @a24 (tw @ag0 (tw @ag1 (tw @a1 (tw @a3 (tw @a22 (tw @a23 (tw @hk (tw @ea (tw @bU.eq_1 @ab.eq_1)))))))))) ?_;(repeat(refine Pn.mk ?_;intro N hN)))|((try apply Or.inl);refine⟨_,ak.x (qV) (sd (tw @a24 (tw @ag0 (tw @ag1 (tw @a1 (tw @a3 (tw @a22 (tw @a23 (tw @hk (tw @ea (tw @bU.eq_1 @ab.eq_1))))))))))),?_⟩;refine hN _ _ ?_;clear hN N)))
    exact aQ (b:=false) (.inl rfl) (sd @Nat.zero_add) (ft (lg fun h=>by rw[BN,tt,hb]at h;cases h.1))
   ·rw[hb]at qV
    rcases Ar with⟨Cy,mZ⟩|⟨j,fJ,mZ,fV⟩
    ·cases er:iI gl.eh 1 4
     ·rw[er]at Jp
      (repeat(first|((repeat(revert hN;revert N;apply Pn.out));refine wk (tw @a24 (tw @ag0 (tw @ag1 (tw @a1 (tw @a3 (tw @a22 (tw @a23 (tw @hk (tw @ea (tw @mZ (tw @bU.eq_1 @ab.eq_1))))))))))) ?_;(repeat(refine Pn.mk ?_;intro N hN)))|((try apply Or.inl);refine⟨_,ak.x (qV) (sd (tw @a24 (tw @ag0 (tw @ag1 (tw @a1 (tw @a3 (tw @a22 (tw @a23 (tw @hk (tw @ea (tw @mZ (tw @bU.eq_1 @ab.eq_1)))))))))))),?_⟩;refine hN _ _ ?_;clear hN N)|((try apply Or.inl);refine⟨_,ak.x (Jp) (sd (tw @a24 (tw @ag0 (tw @ag1 (tw @a1 (tw @a3 (tw @a22 (tw @a23 (tw @hk (tw @ea (tw @mZ (tw @bU.eq_1 @ab.eq_1)))))))))))),?_⟩;refine hN _ _ ?_;clear hN N)))
      exact aQ (b:=false) (.inl rfl) (sd @Nat.zero_add) (ft (lg fun h=>by rw[BN,tt,er]at h;cases h.2.1))
     ·rw[er]at Jp
      have vG:dF ((List.range k).map fun i=>(oR s i).aC)++[[.str gl.aC,.bool true]]=dF (List.map (fun i=>(oR s i).aC) (List.range k++[k])):=by simp[dF,tt]
      (repeat(first|((repeat(revert hN;revert N;apply Pn.out));refine wk (tw @a24 (tw @ag0 (tw @ag1 (tw @a1 (tw @a3 (tw @a22 (tw @a23 (tw @hk (tw @ea (tw @mZ (tw @bU.eq_1 @ab.eq_1))))))))))) ?_;(repeat(refine Pn.mk ?_;intro N hN)))|((try apply Or.inl);refine⟨_,ak.x (qV) (sd (tw @a24 (tw @ag0 (tw @ag1 (tw @a1 (tw @a3 (tw @a22 (tw @a23 (tw @hk (tw @ea (tw @mZ (tw @bU.eq_1 @ab.eq_1)))))))))))),?_⟩;refine hN _ _ ?_;clear hN N)|((try apply Or.inl);refine⟨_,ak.x (Jp) (sd (tw @a24 (tw @ag0 (tw @ag1 (tw @a1 (tw @a3 (tw @a22 (tw @a23 (tw @hk (tw @ea (tw @mZ (tw @bU.eq_1 @ab.eq_1)))))))))))),?_⟩;refine hN _ _ ?_;clear hN N)))
      refine cK ?_ ?_ ?_ (⟨by rw[tt];exact hb,by rw[tt];exact er,fun j hj=>by rw[tt];exact Cy j hj⟩)
      all_goals simp only[go_sem, ↓reduceIte,Nat.reduceEqDiff,Nat.reduceAdd,Nat.reduceSub,Nat.reduceLeDiff,reduceCtorEq,a24,ag0,ag1,a1,a3,a22,a23,mZ,vG]
    ·(repeat(first|((repeat(revert hN;revert N;apply Pn.out));refine wk (tw @a24 (tw @ag0 (tw @ag1 (tw @a1 (tw @a3 (tw @a22 (tw @a23 (tw @hk (tw @ea (tw @mZ (tw @fV (tw @bU.eq_1 @ab.eq_1)))))))))))) ?_;(repeat(refine Pn.mk ?_;intro N hN)))|((try apply Or.inl);refine⟨_,ak.x (qV) (sd (tw @a24 (tw @ag0 (tw @ag1 (tw @a1 (tw @a3 (tw @a22 (tw @a23 (tw @hk (tw @ea (tw @mZ (tw @fV (tw @bU.eq_1 @ab.eq_1))))))))))))),?_⟩;refine hN _ _ ?_;clear hN N)))
     exact aQ (b:=false) (.inl rfl) (sd @Nat.zero_add) (ft (lg fun h=>by
      rw[BN,tt]at h
      obtain⟨i,hi,he⟩:=List.mem_map.1 fJ
      exact h.2.2 i (List.mem_range.1 hi) he))
  ·have kJ:k=s.au.length:=by omega
   (try((repeat(revert hN;revert N;apply Pn.out));refine wk (tw @a24 (tw @ag0 (tw @ag1 (tw @a1 (tw @a3 (tw @a22 (tw @a23 (tw @hk @ab.eq_1)))))))) ?_;(repeat(refine Pn.mk ?_;intro N hN))))
   refine aY (fun n env st=>∃j:Nat,n=(s.ah.length)-j/\j<=(s.ah.length)/\env 52=.int .i64 (j:Int)/\st.get ⟨199000000,n0⟩=some ⟨true,2,[ab s]⟩/\st.get ⟨199011000,st_a.next+1⟩=some ⟨true,mS.y7,dF ((List.range j).map fun i=>(oh s i).aC)⟩/\(∀i:Nat,i<j->zD s i)/\(st_a.next<st.next)) (s.ah.length) ⟨0,by omega,by omega,by(try simp only[go_sem, ↓reduceIte,Nat.reduceEqDiff,Nat.reduceAdd,Nat.reduceSub,Nat.reduceLeDiff,reduceCtorEq,a24,ag0,ag1,a1,a3,a22,a23,ab,List.range_zero,List.map_nil,dF]);try rfl,by(try simp only[go_sem, ↓reduceIte,Nat.reduceEqDiff,Nat.reduceAdd,Nat.reduceSub,Nat.reduceLeDiff,reduceCtorEq,a24,ag0,ag1,a1,a3,a22,a23,ab,List.range_zero,List.map_nil,dF]);try rfl,by(try simp only[go_sem, ↓reduceIte,Nat.reduceEqDiff,Nat.reduceAdd,Nat.reduceSub,Nat.reduceLeDiff,reduceCtorEq,a24,ag0,ag1,a1,a3,a22,a23,ab,List.range_zero,List.map_nil,dF]);try rfl,fun _ h=>absurd h (Nat.not_lt_zero _),(by(try dsimp only);omega)⟩ ?_
   rintro n_b env_b st_b ⟨j,rfl,ble,b52,bg0,bg1,bA0,bI0⟩ bfr
   have b1:=bfr 1 (by kernel_rfl);have b6:=bfr 6 (by kernel_rfl);have BY:=bfr 50 (by kernel_rfl);have BZ:=bfr 51 (by kernel_rfl)
   simp only[go_sem, ↓reduceIte,Nat.reduceEqDiff,Nat.reduceAdd,Nat.reduceSub,Nat.reduceLeDiff,reduceCtorEq,a24,ag0,ag1,a1,a3,a22,a23,ab,List.range_zero,List.map_nil,dF]at b1 b6 BY BZ
   clear bfr
   by_cases hj:(j:Int)<(s.ah.length:Int)
   ·have gK:∀{e:Env} {gg:Rows} {nx:Nat},(e 52=.int .i64 (IntKind.i64.wrap ((j:Int)+1)))->(gg ⟨199000000,n0⟩=some ⟨true,2,[ab s]⟩)->(gg ⟨199011000,st_a.next+1⟩=some ⟨true,mS.y7,dF ((List.range (j+1)).map fun i=>(oh s i).aC)⟩)->(zD s j)->(st_a.next<nx)->∃m0,m0<(s.ah.length)-j/\∃j:Nat,m0=(s.ah.length)-j/\j<=(s.ah.length)/\e 52=.int .i64 (j:Int)/\gg ⟨199000000,n0⟩=some ⟨true,2,[ab s]⟩/\gg ⟨199011000,st_a.next+1⟩=some ⟨true,mS.y7,dF ((List.range j).map fun i=>(oh s i).aC)⟩/\(∀i:Nat,i<j->zD s i)/\(st_a.next<nx):=fun x1 x2 x3 x4 x5=>⟨_,by omega,j+1,rfl,by omega,(by rw[x1,ax (by omega)]),x2,x3,(all_succ bA0 x4),x5⟩
    have iH:j<s.ah.length:=by omega
    have nq:=zh iH
    have qV:=Ek (oh s j).aC (Tz j iH)
    have RN:=K1 s (oh s j).bB (wb j iH)
    have Ar:=u7 (oh s j).aC ((List.range j).map fun i=>(oh s i).aC)
    rw[uL _ j]at Ar
    have lg:(¬zD s j)->¬iD s:=fun h hp=>h (hp.tok j iH)
    have gF:(⟨199011000,st_a.next+1⟩:Id)≠⟨199000000,n0⟩:=by simp
    generalize htd:oh s j=tl at *
    cases hb:js tl.aC
    ·rw[hb]at qV
     (repeat(first|((repeat(revert hN;revert N;apply Pn.out));refine wk (tw @b52 (tw @bg0 (tw @bg1 (tw @b1 (tw @b6 (tw @BY (tw @BZ (tw @hj (tw @nq (tw @bI.eq_1 @ab.eq_1)))))))))) ?_;(repeat(refine Pn.mk ?_;intro N hN)))|((try apply Or.inl);refine⟨_,ak.x (qV) (sd (tw @b52 (tw @bg0 (tw @bg1 (tw @b1 (tw @b6 (tw @BY (tw @BZ (tw @hj (tw @nq (tw @bI.eq_1 @ab.eq_1))))))))))),?_⟩;refine hN _ _ ?_;clear hN N)))
     exact aQ (b:=false) (.inl rfl) (sd @Nat.zero_add) (ft (lg fun h=>by rw[zD,htd,hb]at h;cases h.1))
    ·rw[hb]at qV
     rcases Ar with⟨Cy,mZ⟩|⟨i,fJ,mZ,fV⟩
     ·by_cases h4:(tl.bB.length:Int)=4
      ·have yk:decide ((tl.bB.length:Int)=4)=true:=decide_eq_true h4
       cases hany:tl.bB.any fun g=> !iI g 0 s.au.length
       ·rw[hany]at RN
        have vG:dF ((List.range j).map fun i=>(oh s i).aC)++[[.str tl.aC,.bool true]]=dF (List.map (fun i=>(oh s i).aC) (List.range j++[j])):=by simp[dF,htd]
        (repeat(first|((repeat(revert hN;revert N;apply Pn.out));refine wk (tw @b52 (tw @bg0 (tw @bg1 (tw @b1 (tw @b6 (tw @BY (tw @BZ (tw @hj (tw @nq (tw @mZ (tw @yk (tw @bI.eq_1 @ab.eq_1)))))))))))) ?_;(repeat(refine Pn.mk ?_;intro N hN)))|((try apply Or.inl);refine⟨_,ak.x (qV) (sd (tw @b52 (tw @bg0 (tw @bg1 (tw @b1 (tw @b6 (tw @BY (tw @BZ (tw @hj (tw @nq (tw @mZ (tw @yk (tw @bI.eq_1 @ab.eq_1))))))))))))),?_⟩;refine hN _ _ ?_;clear hN N)|((try apply Or.inl);refine⟨_,ak.x (RN) (sd (tw @b52 (tw @bg0 (tw @bg1 (tw @b1 (tw @b6 (tw @BY (tw @BZ (tw @hj (tw @nq (tw @mZ (tw @yk (tw @bI.eq_1 @ab.eq_1))))))))))))),?_⟩;refine hN _ _ ?_;clear hN N)))
        refine gK ?_ ?_ ?_ (⟨by rw[htd];exact hb,by rw[htd];omega,fun i hi=>(by rw[htd];exact Cy i hi),fun g hg=>by rw[htd]at hg;have:=List.any_eq_false.1 hany g hg;simpa using this⟩) (by(try dsimp only);omega)
        all_goals simp only[go_sem, ↓reduceIte,Nat.reduceEqDiff,Nat.reduceAdd,Nat.reduceSub,Nat.reduceLeDiff,reduceCtorEq,b52,bg0,bg1,b1,b6,BY,BZ,mZ,vG]
       ·rw[hany]at RN
        (repeat(first|((repeat(revert hN;revert N;apply Pn.out));refine wk (tw @b52 (tw @bg0 (tw @bg1 (tw @b1 (tw @b6 (tw @BY (tw @BZ (tw @hj (tw @nq (tw @mZ (tw @yk (tw @bI.eq_1 @ab.eq_1)))))))))))) ?_;(repeat(refine Pn.mk ?_;intro N hN)))|((try apply Or.inl);refine⟨_,ak.x (qV) (sd (tw @b52 (tw @bg0 (tw @bg1 (tw @b1 (tw @b6 (tw @BY (tw @BZ (tw @hj (tw @nq (tw @mZ (tw @yk (tw @bI.eq_1 @ab.eq_1))))))))))))),?_⟩;refine hN _ _ ?_;clear hN N)|((try apply Or.inl);refine⟨_,ak.x (RN) (sd (tw @b52 (tw @bg0 (tw @bg1 (tw @b1 (tw @b6 (tw @BY (tw @BZ (tw @hj (tw @nq (tw @mZ (tw @yk (tw @bI.eq_1 @ab.eq_1))))))))))))),?_⟩;refine hN _ _ ?_;clear hN N)))
        exact aQ (b:=false) (.inl rfl) (sd @Nat.zero_add) (ft (lg fun h=>by
         rw[zD,htd]at h
         obtain⟨g,hg,hq⟩:=List.any_eq_true.1 hany
         have:=h.2.2.2 g hg
         rw[this]at hq;cases hq))
      ·have yk:decide ((tl.bB.length:Int)=4)=false:=decide_eq_false h4
       (repeat(first|((repeat(revert hN;revert N;apply Pn.out));refine wk (tw @b52 (tw @bg0 (tw @bg1 (tw @b1 (tw @b6 (tw @BY (tw @BZ (tw @hj (tw @nq (tw @mZ (tw @yk (tw @bI.eq_1 @ab.eq_1)))))))))))) ?_;(repeat(refine Pn.mk ?_;intro N hN)))|((try apply Or.inl);refine⟨_,ak.x (qV) (sd (tw @b52 (tw @bg0 (tw @bg1 (tw @b1 (tw @b6 (tw @BY (tw @BZ (tw @hj (tw @nq (tw @mZ (tw @yk (tw @bI.eq_1 @ab.eq_1))))))))))))),?_⟩;refine hN _ _ ?_;clear hN N)))
       exact aQ (b:=false) (.inl rfl) (sd @Nat.zero_add) (ft (lg fun h=>by rw[zD,htd]at h;have:=h.2.1;omega))
     ·(repeat(first|((repeat(revert hN;revert N;apply Pn.out));refine wk (tw @b52 (tw @bg0 (tw @bg1 (tw @b1 (tw @b6 (tw @BY (tw @BZ (tw @hj (tw @nq (tw @mZ (tw @fV (tw @bI.eq_1 @ab.eq_1)))))))))))) ?_;(repeat(refine Pn.mk ?_;intro N hN)))|((try apply Or.inl);refine⟨_,ak.x (qV) (sd (tw @b52 (tw @bg0 (tw @bg1 (tw @b1 (tw @b6 (tw @BY (tw @BZ (tw @hj (tw @nq (tw @mZ (tw @fV (tw @bI.eq_1 @ab.eq_1))))))))))))),?_⟩;refine hN _ _ ?_;clear hN N)))
      exact aQ (b:=false) (.inl rfl) (sd @Nat.zero_add) (ft (lg fun h=>by
       rw[zD,htd]at h
       obtain⟨i,hi,he⟩:=List.mem_map.1 fJ
       exact h.2.2.1 i (List.mem_range.1 hi) he))
   ·(try((repeat(revert hN;revert N;apply Pn.out));refine wk (tw @b52 (tw @bg0 (tw @bg1 (tw @b1 (tw @b6 (tw @BY (tw @BZ (tw @hj @ab.eq_1)))))))) ?_;(repeat(refine Pn.mk ?_;intro N hN))))
    exact aQ (b:=true) (.inl rfl) (sd @Nat.zero_add) (Bf ⟨by omega,by omega,by omega,fun i hi=>lv i (by omega),fun i hi=>bA0 i (by omega)⟩)
 ·rw[Bool.not_eq_true]at h2
  rw[h2]at hw
  (repeat(first|((repeat(revert hN;revert N;apply Pn.out));refine wk (tw @ab.eq_1 @h1) ?_;(repeat(refine Pn.mk ?_;intro N hN)))|((try apply Or.inl);refine⟨_,ak.x (hw) (sd (tw @ab.eq_1 @h1)),?_⟩;refine hN _ _ ?_;clear hN N)))
  exact aQ (b:=false) (.inl rfl) (sd @Nat.zero_add) (ft fun h=>by
   have h3:=h.some
   have h4:=h.L6
   rw[mh ⟨by omega,by omega⟩]at h2;cases h2)
theorem th {α:Type} {p:α->Bool} {xs:List α} {k:Nat} (hk:k<xs.length) (h1:p xs[k]=true) (h2:∀j (h:j<xs.length),j<k->p xs[j]=false):gV p xs=k:=by
 have:xs.findIdx p=k:=by rw[List.findIdx_eq hk];exact⟨h1,fun j hj=>h2 j (by omega) hj⟩
 rw[gV,this,if_pos hk]
theorem wU {α:Type} {p:α->Bool} {xs:List α} (h:∀j (h:j<xs.length),p xs[j]=false):gV p xs= -1:=by
 rw[gV,if_neg]
 rw[List.findIdx_lt_length]
 rintro⟨x,hx,Fu⟩
 obtain⟨j,hj,rfl⟩:=List.getElem_of_mem hx
 rw[h j hj]at Fu;cases Fu
theorem yg {s:aq} {i:Nat} (h:i<s.au.length):oR s i=s.au[i]:=by simp[oR,List.getD_eq_getElem?_getD,h]
theorem zg {s:aq} {i:Nat} (h:i<s.ah.length):oh s i=s.ah[i]:=by simp[oh,List.getD_eq_getElem?_getD,h]
def Je (s:aq) (n:ByteArray):Int:=gV (fun g:fj=>decide (g.aC=n)) s.au
def L5 (s:aq) (n:ByteArray):Int:=gV (fun t:eI=>decide (t.aC=n)) s.ah
theorem FG (s:aq) (nm:ByteArray):ak Tryz.prog 238 [.cN (ab s),.str nm] (.int .i64 (Je s nm+1)):=by
 refine ak.body eb rfl fun hl n0=>?_
 have hlen:s.au.length<=9223372036854775807:=by
  have h1:=(hl (.cN (ab s)) (by simp)).AE (a:=.sl (s.au.map bU)) (by simp[ab])
  simpa using h1.len
 clear hl
 (try((repeat(revert hN;revert N;apply Pn.out));refine wk @ab.eq_1 ?_;(repeat(refine Pn.mk ?_;intro N hN))))
 refine aY (fun n env st=>∃k:Nat,n=(s.au.length)-k/\k<=(s.au.length)/\env 5=.int .i64 (k:Int)/\(∀j:Nat,j<k->∀h:j<s.au.length,decide (s.au[j].aC=nm)=false)) (s.au.length) ⟨0,by omega,by omega,sl @ab.eq_1,fun _ h=>absurd h (Nat.not_lt_zero _)⟩ ?_
 rintro n_a env_a st_a ⟨k,rfl,ale,a5,lv⟩ dU
 have a0:=dU 0 (by kernel_rfl);have a1:=dU 1 (by kernel_rfl)
 simp only[go_sem, ↓reduceIte,Nat.reduceEqDiff,Nat.reduceAdd,Nat.reduceSub,Nat.reduceLeDiff,reduceCtorEq,ab]at a0 a1
 clear dU
 by_cases hk:(k:Int)<(s.au.length:Int)
 ·have cK:∀{e:Env},(e 5=.int .i64 (IntKind.i64.wrap ((k:Int)+1)))->(∀h:k<s.au.length,decide (s.au[k].aC=nm)=false)->∃m0,m0<(s.au.length)-k/\∃k:Nat,m0=(s.au.length)-k/\k<=(s.au.length)/\e 5=.int .i64 (k:Int)/\(∀j:Nat,j<k->∀h:j<s.au.length,decide (s.au[j].aC=nm)=false):=fun x1 x2=>⟨_,by omega,k+1,rfl,by omega,(by rw[x1,ax (by omega)]),(all_succ lv x2)⟩
  have eU:k<s.au.length:=by omega
  have ea:=yh eU
  have e:=yg eU
  cases hd:decide ((oR s k).aC=nm)
  ·have Ru:=of_decide_eq_false hd
   (try((repeat(revert hN;revert N;apply Pn.out));refine wk (tw @a5 (tw @a0 (tw @a1 (tw @hk (tw @ea (tw @Ru (tw @hd (tw @bU.eq_1 @ab.eq_1)))))))) ?_;(repeat(refine Pn.mk ?_;intro N hN))))
   exact cK (sd (tw @a5 (tw @a0 @a1))) (fun _=>by rw[e]at hd;exact hd)
  ·have Ru:=of_decide_eq_true hd
   have hw:IntKind.i64.wrap ((k:Int)+1)=(k:Int)+1:=bE (by omega)
   (try((repeat(revert hN;revert N;apply Pn.out));refine wk (tw @a5 (tw @a0 (tw @a1 (tw @hk (tw @ea (tw @hd (tw @hw (tw @bU.eq_1 @ab.eq_1)))))))) ?_;(repeat(refine Pn.mk ?_;intro N hN))))
   exact bL (b:=(k:Int)+1) (.inl rfl) (sd @Nat.zero_add) (by rw[Je,th eU (by rw[e]at hd;exact hd) fun j h hj=>lv j hj h])
 ·(try((repeat(revert hN;revert N;apply Pn.out));refine wk (tw @a5 (tw @a0 (tw @a1 (tw @hk @ab.eq_1)))) ?_;(repeat(refine Pn.mk ?_;intro N hN))))
  exact bL (b:=0) (.inl rfl) (sd @Nat.zero_add) (by rw[Je,wU fun j h=>lv j (by omega) h];rfl)
theorem FH (s:aq) (nm:ByteArray):ak Tryz.prog 239 [.cN (ab s),.str nm] (.int .i64 (L5 s nm)):=by
 refine ak.body eb rfl fun hl n0=>?_
 have hlen:s.ah.length<=9223372036854775807:=by
  have h1:=(hl (.cN (ab s)) (by simp)).AE (a:=.sl (s.ah.map bI)) (by simp[ab])
  simpa using h1.len
 clear hl
 (try((repeat(revert hN;revert N;apply Pn.out));refine wk @ab.eq_1 ?_;(repeat(refine Pn.mk ?_;intro N hN))))
 refine aY (fun n env st=>∃k:Nat,n=(s.ah.length)-k/\k<=(s.ah.length)/\env 5=.int .i64 (k:Int)/\(∀j:Nat,j<k->∀h:j<s.ah.length,decide (s.ah[j].aC=nm)=false)) (s.ah.length) ⟨0,by omega,by omega,sl @ab.eq_1,fun _ h=>absurd h (Nat.not_lt_zero _)⟩ ?_
 rintro n_a env_a st_a ⟨k,rfl,ale,a5,lv⟩ dU
 have a0:=dU 0 (by kernel_rfl);have a1:=dU 1 (by kernel_rfl)
 simp only[go_sem, ↓reduceIte,Nat.reduceEqDiff,Nat.reduceAdd,Nat.reduceSub,Nat.reduceLeDiff,reduceCtorEq,ab]at a0 a1
 clear dU
 by_cases hk:(k:Int)<(s.ah.length:Int)
 ·have cK:∀{e:Env},(e 5=.int .i64 (IntKind.i64.wrap ((k:Int)+1)))->(∀h:k<s.ah.length,decide (s.ah[k].aC=nm)=false)->∃m0,m0<(s.ah.length)-k/\∃k:Nat,m0=(s.ah.length)-k/\k<=(s.ah.length)/\e 5=.int .i64 (k:Int)/\(∀j:Nat,j<k->∀h:j<s.ah.length,decide (s.ah[j].aC=nm)=false):=fun x1 x2=>⟨_,by omega,k+1,rfl,by omega,(by rw[x1,ax (by omega)]),(all_succ lv x2)⟩
  have eU:k<s.ah.length:=by omega
  have ea:=zh eU
  have e:=zg eU
  cases hd:decide ((oh s k).aC=nm)
  ·(try((repeat(revert hN;revert N;apply Pn.out));refine wk (tw @a5 (tw @a0 (tw @a1 (tw @hk (tw @ea (tw @hd (tw @bI.eq_1 @ab.eq_1))))))) ?_;(repeat(refine Pn.mk ?_;intro N hN))))
   exact cK (sd (tw @a5 (tw @a0 @a1))) (fun _=>by rw[e]at hd;exact hd)
  ·(try((repeat(revert hN;revert N;apply Pn.out));refine wk (tw @a5 (tw @a0 (tw @a1 (tw @hk (tw @ea (tw @hd (tw @bI.eq_1 @ab.eq_1))))))) ?_;(repeat(refine Pn.mk ?_;intro N hN))))
   exact bL (b:=(k:Int)) (.inl rfl) (sd @Nat.zero_add) (by rw[L5,th eU (by rw[e]at hd;exact hd) fun j h hj=>lv j hj h])
 ·(try((repeat(revert hN;revert N;apply Pn.out));refine wk (tw @a5 (tw @a0 (tw @a1 (tw @hk @ab.eq_1)))) ?_;(repeat(refine Pn.mk ?_;intro N hN))))
  exact bL (b:=-1) (.inl rfl) (sd @Nat.zero_add) (by rw[L5,wU fun j h=>lv j (by omega) h])
theorem MJ {s:aq} {i:Nat} (h:i<s.au.length):Je s (oR s i).aC=i↔∀j,j<i->(oR s j).aC≠(oR s i).aC:=by
 constructor
 ·intro he j hj hc
  have gC:j<s.au.length:=by omega
  have:s.au.findIdx (fun g:fj=>decide (g.aC=(oR s i).aC))<=j:=by
   rcases Nat.lt_or_ge j (s.au.findIdx fun g:fj=>decide (g.aC=(oR s i).aC))with dV|oA
   ·have:=List.not_of_lt_findIdx dV
    rw[<-yg gC]at this
    simp[hc]at this
   ·exact oA
  unfold Je gV at he
  split at he<;>omega
 ·intro hd
  exact th h (by rw[<-yg h];simp) fun j gC hj=>by rw[<-yg gC];simpa using hd j hj
theorem N4 {s:aq} {i:Nat} (h:i<s.ah.length):L5 s (oh s i).aC=i↔∀j,j<i->(oh s j).aC≠(oh s i).aC:=by
 constructor
 ·intro he j hj hc
  have gC:j<s.ah.length:=by omega
  have:s.ah.findIdx (fun g:eI=>decide (g.aC=(oh s i).aC))<=j:=by
   rcases Nat.lt_or_ge j (s.ah.findIdx fun g:eI=>decide (g.aC=(oh s i).aC))with dV|oA
   ·have:=List.not_of_lt_findIdx dV
    rw[<-zg gC]at this
    simp[hc]at this
   ·exact oA
  unfold L5 gV at he
  split at he<;>omega
 ·intro hd
  exact th h (by rw[<-zg h];simp) fun j gC hj=>by rw[<-zg gC];simpa using hd j hj
theorem Ku (s:aq) (hn:fm s) (hg:s.au.length<=1048576) (ht:s.ah.length<=1048576):ak Tryz.prog 167 [.cN (ab s)] (.bool (pQ s)):=by
 refine ak.body eb rfl fun hl n0=>?_
 clear hl
 have P5:∀i,i<s.au.length->(oR s i).aC.size<=9223372036854775807:=fun i hi=>hn.1 _ (by simp[oR,List.getD_eq_getElem?_getD,hi])
 have Tz:∀i,i<s.ah.length->(oh s i).aC.size<=9223372036854775807:=fun i hi=>hn.2 _ (by simp[oh,List.getD_eq_getElem?_getD,hi])
 by_cases h1:(200:Int)<(s.au.length:Int)
 ·(try((repeat(revert hN;revert N;apply Pn.out));refine wk (tw @ab.eq_1 @h1) ?_;(repeat(refine Pn.mk ?_;intro N hN))))
  exact aQ (b:=false) (.inl rfl) (sd @Nat.zero_add) (ft fun h=>by have:=h.uk;omega)
 by_cases h2:(s.ah.length:Int)<1
 ·(try((repeat(revert hN;revert N;apply Pn.out));refine wk (tw @ab.eq_1 (tw @h1 @h2)) ?_;(repeat(refine Pn.mk ?_;intro N hN))))
  exact aQ (b:=false) (.inl rfl) (sd @Nat.zero_add) (ft fun h=>by have:=h.some;omega)
 by_cases h3:(160:Int)<(s.ah.length:Int)
 ·(try((repeat(revert hN;revert N;apply Pn.out));refine wk (tw @ab.eq_1 (tw @h1 (tw @h2 @h3))) ?_;(repeat(refine Pn.mk ?_;intro N hN))))
  exact aQ (b:=false) (.inl rfl) (sd @Nat.zero_add) (ft fun h=>by have:=h.L6;omega)
 (try((repeat(revert hN;revert N;apply Pn.out));refine wk (tw @ab.eq_1 (tw @h1 (tw @h2 @h3))) ?_;(repeat(refine Pn.mk ?_;intro N hN))))
 refine aY (fun n env st=>∃k:Nat,n=(s.au.length)-k/\k<=(s.au.length)/\env 3=.int .i64 (k:Int)/\(∀j:Nat,j<k->BN s j)) (s.au.length) ⟨0,by omega,by omega,sl @ab.eq_1,fun _ h=>absurd h (Nat.not_lt_zero _)⟩ ?_
 rintro n_a env_a st_a ⟨k,rfl,ale,a3,lv⟩ dU
 have a0:=dU 0 (by kernel_rfl)
 simp only[go_sem, ↓reduceIte,Nat.reduceEqDiff,Nat.reduceAdd,Nat.reduceSub,Nat.reduceLeDiff,reduceCtorEq,ab]at a0
 clear dU
 by_cases hk:(k:Int)<(s.au.length:Int)
 ·have cK:∀{e:Env},(e 3=.int .i64 (IntKind.i64.wrap ((k:Int)+1)))->(BN s k)->∃m0,m0<(s.au.length)-k/\∃k:Nat,m0=(s.au.length)-k/\k<=(s.au.length)/\e 3=.int .i64 (k:Int)/\(∀j:Nat,j<k->BN s j):=fun x1 x2=>⟨_,by omega,k+1,rfl,by omega,(by rw[x1,ax (by omega)]),(all_succ lv x2)⟩
  have eU:k<s.au.length:=by omega
  have ea:=yh eU
  have qV:=Ey (oR s k).aC (P5 k eU)
  have Jp:=kZ (oR s k).eh 1 4
  have yu:=FG s (oR s k).aC
  have qn:=MJ eU
  have lg:(¬BN s k)->¬iD s:=fun h hp=>h (hp.Rh k eU)
  have hw:IntKind.i64.wrap ((k:Int)+1)=(k:Int)+1:=bE (by omega)
  generalize tt:oR s k=gl at *
  cases hb:js gl.aC
  ·rw[hb]at qV
   (repeat(first|((repeat(revert hN;revert N;apply Pn.out));refine wk (tw @a3 (tw @a0 (tw @hk (tw @ea (tw @bU.eq_1 @ab.eq_1))))) ?_;(repeat(refine Pn.mk ?_;intro N hN)))|((try apply Or.inl);refine⟨_,ak.x (qV) (sd (tw @a3 (tw @a0 (tw @hk (tw @ea (tw @bU.eq_1 @ab.eq_1)))))),?_⟩;refine hN _ _ ?_;clear hN N)))
   exact aQ (b:=false) (.inl rfl) (sd @Nat.zero_add) (ft (lg fun h=>by rw[BN,tt,hb]at h;cases h.1))
  rw[hb]at qV
  cases er:iI gl.eh 1 4
  ·rw[er]at Jp
   (repeat(first|((repeat(revert hN;revert N;apply Pn.out));refine wk (tw @a3 (tw @a0 (tw @hk (tw @ea (tw @bU.eq_1 @ab.eq_1))))) ?_;(repeat(refine Pn.mk ?_;intro N hN)))|((try apply Or.inl);refine⟨_,ak.x (qV) (sd (tw @a3 (tw @a0 (tw @hk (tw @ea (tw @bU.eq_1 @ab.eq_1)))))),?_⟩;refine hN _ _ ?_;clear hN N)|((try apply Or.inl);refine⟨_,ak.x (Jp) (sd (tw @a3 (tw @a0 (tw @hk (tw @ea (tw @bU.eq_1 @ab.eq_1)))))),?_⟩;refine hN _ _ ?_;clear hN N)))
   exact aQ (b:=false) (.inl rfl) (sd @Nat.zero_add) (ft (lg fun h=>by rw[BN,tt,er]at h;cases h.2.1))
  rw[er]at Jp
  rw[ab]at yu
  by_cases hq:Je s gl.aC=(k:Int)
  ·have hd:decide (Je s gl.aC+1=(k:Int)+1)=true:=decide_eq_true (by omega)
   have sY:decide (Je s gl.aC=(k:Int))=true:=decide_eq_true hq
   (repeat(first|((repeat(revert hN;revert N;apply Pn.out));refine wk (tw @a3 (tw @a0 (tw @hk (tw @ea (tw @hw (tw @hd (tw @sY (tw @bU.eq_1 @ab.eq_1)))))))) ?_;(repeat(refine Pn.mk ?_;intro N hN)))|((try apply Or.inl);refine⟨_,ak.x (qV) (sd (tw @a3 (tw @a0 (tw @hk (tw @ea (tw @hw (tw @hd (tw @sY (tw @bU.eq_1 @ab.eq_1))))))))),?_⟩;refine hN _ _ ?_;clear hN N)|((try apply Or.inl);refine⟨_,ak.x (Jp) (sd (tw @a3 (tw @a0 (tw @hk (tw @ea (tw @hw (tw @hd (tw @sY (tw @bU.eq_1 @ab.eq_1))))))))),?_⟩;refine hN _ _ ?_;clear hN N)|((try apply Or.inl);refine⟨_,ak.x (yu) (sd (tw @a3 (tw @a0 (tw @hk (tw @ea (tw @hw (tw @hd (tw @sY (tw @bU.eq_1 @ab.eq_1))))))))),?_⟩;refine hN _ _ ?_;clear hN N)))
   exact cK (sd (tw @a3 (tw @a0 @hw))) (⟨by rw[tt];exact hb,by rw[tt];exact er,fun j hj=>by rw[tt];exact qn.1 hq j hj⟩)
  ·have hd:decide (Je s gl.aC+1=(k:Int)+1)=false:=decide_eq_false (by omega)
   have sY:decide (Je s gl.aC=(k:Int))=false:=decide_eq_false hq
   (repeat(first|((repeat(revert hN;revert N;apply Pn.out));refine wk (tw @a3 (tw @a0 (tw @hk (tw @ea (tw @hw (tw @hd (tw @sY (tw @bU.eq_1 @ab.eq_1)))))))) ?_;(repeat(refine Pn.mk ?_;intro N hN)))|((try apply Or.inl);refine⟨_,ak.x (qV) (sd (tw @a3 (tw @a0 (tw @hk (tw @ea (tw @hw (tw @hd (tw @sY (tw @bU.eq_1 @ab.eq_1))))))))),?_⟩;refine hN _ _ ?_;clear hN N)|((try apply Or.inl);refine⟨_,ak.x (Jp) (sd (tw @a3 (tw @a0 (tw @hk (tw @ea (tw @hw (tw @hd (tw @sY (tw @bU.eq_1 @ab.eq_1))))))))),?_⟩;refine hN _ _ ?_;clear hN N)|((try apply Or.inl);refine⟨_,ak.x (yu) (sd (tw @a3 (tw @a0 (tw @hk (tw @ea (tw @hw (tw @hd (tw @sY (tw @bU.eq_1 @ab.eq_1))))))))),?_⟩;refine hN _ _ ?_;clear hN N)))
   exact aQ (b:=false) (.inl rfl) (sd @Nat.zero_add) (ft (lg fun h=>by
    rw[BN,tt]at h
    exact hq (qn.2 h.2.2)))
 ·have kJ:k=s.au.length:=by omega
  (try((repeat(revert hN;revert N;apply Pn.out));refine wk (tw @a3 (tw @a0 (tw @hk @ab.eq_1))) ?_;(repeat(refine Pn.mk ?_;intro N hN))))
  refine aY (fun n env st=>∃j:Nat,n=(s.ah.length)-j/\j<=(s.ah.length)/\env 5=.int .i64 (j:Int)/\(∀i:Nat,i<j->zD s i)) (s.ah.length) ⟨0,by omega,by omega,sl (tw @a3 (tw @a0 @ab.eq_1)),fun _ h=>absurd h (Nat.not_lt_zero _)⟩ ?_
  rintro n_b env_b st_b ⟨j,rfl,ble,b5,bA0⟩ bfr
  have b0:=bfr 0 (by kernel_rfl)
  simp only[go_sem, ↓reduceIte,Nat.reduceEqDiff,Nat.reduceAdd,Nat.reduceSub,Nat.reduceLeDiff,reduceCtorEq,a3,a0,ab]at b0
  clear bfr
  by_cases hj:(j:Int)<(s.ah.length:Int)
  ·have gK:∀{e:Env},(e 5=.int .i64 (IntKind.i64.wrap ((j:Int)+1)))->(zD s j)->∃m0,m0<(s.ah.length)-j/\∃j:Nat,m0=(s.ah.length)-j/\j<=(s.ah.length)/\e 5=.int .i64 (j:Int)/\(∀i:Nat,i<j->zD s i):=fun x1 x2=>⟨_,by omega,j+1,rfl,by omega,(by rw[x1,ax (by omega)]),(all_succ bA0 x2)⟩
   have iH:j<s.ah.length:=by omega
   have nq:=zh iH
   have qV:=Ey (oh s j).aC (Tz j iH)
   have yu:=FH s (oh s j).aC
   have qn:=N4 iH
   have lg:(¬zD s j)->¬iD s:=fun h hp=>h (hp.tok j iH)
   generalize htd:oh s j=tl at *
   cases hb:js tl.aC
   ·rw[hb]at qV
    (repeat(first|((repeat(revert hN;revert N;apply Pn.out));refine wk (tw @b5 (tw @b0 (tw @hj (tw @nq (tw @bI.eq_1 @ab.eq_1))))) ?_;(repeat(refine Pn.mk ?_;intro N hN)))|((try apply Or.inl);refine⟨_,ak.x (qV) (sd (tw @b5 (tw @b0 (tw @hj (tw @nq (tw @bI.eq_1 @ab.eq_1)))))),?_⟩;refine hN _ _ ?_;clear hN N)))
    exact aQ (b:=false) (.inl rfl) (sd @Nat.zero_add) (ft (lg fun h=>by rw[zD,htd,hb]at h;cases h.1))
   rw[hb]at qV
   by_cases h4:(tl.bB.length:Int)=4
   ·have yk:decide ((tl.bB.length:Int)=4)=true:=decide_eq_true h4
    rw[ab]at yu
    by_cases hq:L5 s tl.aC=(j:Int)
    ·have hd:decide (L5 s tl.aC=(j:Int))=true:=decide_eq_true hq
     (repeat(first|((repeat(revert hN;revert N;apply Pn.out));refine wk (tw @b5 (tw @b0 (tw @hj (tw @nq (tw @yk (tw @hd (tw @bI.eq_1 @ab.eq_1))))))) ?_;(repeat(refine Pn.mk ?_;intro N hN)))|((try apply Or.inl);refine⟨_,ak.x (qV) (sd (tw @b5 (tw @b0 (tw @hj (tw @nq (tw @yk (tw @hd (tw @bI.eq_1 @ab.eq_1)))))))),?_⟩;refine hN _ _ ?_;clear hN N)|((try apply Or.inl);refine⟨_,ak.x (yu) (sd (tw @b5 (tw @b0 (tw @hj (tw @nq (tw @yk (tw @hd (tw @bI.eq_1 @ab.eq_1)))))))),?_⟩;refine hN _ _ ?_;clear hN N)))
     refine aY (fun n env st=>∃i:Nat,n=(4)-i/\i<=(4)/\env 7=.int .i64 (i:Int)/\st.get ⟨167012007,st_b.next+1⟩=some ⟨true,2,[bI tl]⟩/\(∀x:Nat,x<i->iI (tl.bB.getD x 0) 0 s.au.length=true)) (4) ⟨0,by omega,by omega,sl (tw @b5 (tw @b0 (tw @bI.eq_1 @ab.eq_1))),sl (tw @b5 (tw @b0 (tw @bI.eq_1 @ab.eq_1))),fun _ h=>absurd h (Nat.not_lt_zero _)⟩ ?_
     rintro n_c env_c st_c ⟨i,rfl,cle,c7,cg0,cA0⟩ cfr
     have c0:=cfr 0 (by kernel_rfl);have c5:=cfr 5 (by kernel_rfl);have c6:=cfr 6 (by kernel_rfl)
     simp only[go_sem, ↓reduceIte,Nat.reduceEqDiff,Nat.reduceAdd,Nat.reduceSub,Nat.reduceLeDiff,reduceCtorEq,b5,b0,bI,ab]at c0 c5 c6
     clear cfr
     by_cases hi:(i:Int)<4
     ·have gL:∀{e:Env} {gg:Rows},(e 7=.int .i64 (IntKind.i64.wrap ((i:Int)+1)))->(gg ⟨167012007,st_b.next+1⟩=some ⟨true,2,[bI tl]⟩)->(iI (tl.bB.getD i 0) 0 s.au.length=true)->∃m0,m0<(4)-i/\∃i:Nat,m0=(4)-i/\i<=(4)/\e 7=.int .i64 (i:Int)/\gg ⟨167012007,st_b.next+1⟩=some ⟨true,2,[bI tl]⟩/\(∀x:Nat,x<i->iI (tl.bB.getD x 0) 0 s.au.length=true):=fun x1 x2 x3=>⟨_,by omega,i+1,rfl,by omega,(by rw[x1,ax (by omega)]),x2,(all_succ cA0 x3)⟩
      have fJ:i<tl.bB.length:=by omega
      have mW:(tl.bB.map aT)[i]? =some (aT (tl.bB.getD i 0)):=getD_map aT fJ
      have v7:tl.bB.getD i 0∈tl.bB:=by rw[List.getD_eq_getElem?_getD,List.getElem?_eq_getElem fJ];exact List.getElem_mem fJ
      have HF:=kZ (tl.bB.getD i 0) 0 s.au.length
      generalize Nb:tl.bB.getD i 0=gv at *
      cases hv:iI gv 0 s.au.length
      ·rw[hv]at HF
       (repeat(first|((repeat(revert hN;revert N;apply Pn.out));refine wk (tw @c7 (tw @cg0 (tw @c0 (tw @c5 (tw @c6 (tw @hi (tw @mW (tw @aT.eq_1 (tw @bI.eq_1 @ab.eq_1))))))))) ?_;(repeat(refine Pn.mk ?_;intro N hN)))|((try apply Or.inl);refine⟨_,ak.x (HF) (sd (tw @c7 (tw @cg0 (tw @c0 (tw @c5 (tw @c6 (tw @hi (tw @mW (tw @aT.eq_1 (tw @bI.eq_1 @ab.eq_1)))))))))),?_⟩;refine hN _ _ ?_;clear hN N)))
       exact aQ (b:=false) (.inl rfl) (sd @Nat.zero_add) (ft (lg fun h=>by
        rw[zD,htd]at h
        have:=h.2.2.2 gv v7
        rw[hv]at this;cases this))
      ·rw[hv]at HF
       (repeat(first|((repeat(revert hN;revert N;apply Pn.out));refine wk (tw @c7 (tw @cg0 (tw @c0 (tw @c5 (tw @c6 (tw @hi (tw @mW (tw @aT.eq_1 (tw @bI.eq_1 @ab.eq_1))))))))) ?_;(repeat(refine Pn.mk ?_;intro N hN)))|((try apply Or.inl);refine⟨_,ak.x (HF) (sd (tw @c7 (tw @cg0 (tw @c0 (tw @c5 (tw @c6 (tw @hi (tw @mW (tw @aT.eq_1 (tw @bI.eq_1 @ab.eq_1)))))))))),?_⟩;refine hN _ _ ?_;clear hN N)))
       refine gL ?_ ?_ (hv)
       all_goals simp only[go_sem, ↓reduceIte,Nat.reduceEqDiff,Nat.reduceAdd,Nat.reduceSub,Nat.reduceLeDiff,reduceCtorEq,c7,cg0,c0,c5,c6]
     ·have hi4:i=4:=by omega
      (try((repeat(revert hN;revert N;apply Pn.out));refine wk (tw @c7 (tw @cg0 (tw @c0 (tw @c5 (tw @c6 (tw @hi (tw @bI.eq_1 @ab.eq_1))))))) ?_;(repeat(refine Pn.mk ?_;intro N hN))))
      exact gK (sd (tw @b5 (tw @b0 (tw @c7 (tw @cg0 (tw @c0 (tw @c5 @c6))))))) (⟨by rw[htd];exact hb,by rw[htd];omega,fun x hx=>(by rw[htd];exact qn.1 hq x hx),fun g hg=>by
       rw[htd]at hg
       obtain⟨x,hx,rfl⟩:=List.getElem_of_mem hg
       have:=cA0 x (by omega)
       rwa [List.getD_eq_getElem?_getD,List.getElem?_eq_getElem hx]at this⟩)
    ·have hd:decide (L5 s tl.aC=(j:Int))=false:=decide_eq_false hq
     (repeat(first|((repeat(revert hN;revert N;apply Pn.out));refine wk (tw @b5 (tw @b0 (tw @hj (tw @nq (tw @yk (tw @hd (tw @bI.eq_1 @ab.eq_1))))))) ?_;(repeat(refine Pn.mk ?_;intro N hN)))|((try apply Or.inl);refine⟨_,ak.x (qV) (sd (tw @b5 (tw @b0 (tw @hj (tw @nq (tw @yk (tw @hd (tw @bI.eq_1 @ab.eq_1)))))))),?_⟩;refine hN _ _ ?_;clear hN N)|((try apply Or.inl);refine⟨_,ak.x (yu) (sd (tw @b5 (tw @b0 (tw @hj (tw @nq (tw @yk (tw @hd (tw @bI.eq_1 @ab.eq_1)))))))),?_⟩;refine hN _ _ ?_;clear hN N)))
     exact aQ (b:=false) (.inl rfl) (sd @Nat.zero_add) (ft (lg fun h=>by
      rw[zD,htd]at h
      exact hq (qn.2 h.2.2.1)))
   ·have yk:decide ((tl.bB.length:Int)=4)=false:=decide_eq_false h4
    (repeat(first|((repeat(revert hN;revert N;apply Pn.out));refine wk (tw @b5 (tw @b0 (tw @hj (tw @nq (tw @yk (tw @bI.eq_1 @ab.eq_1)))))) ?_;(repeat(refine Pn.mk ?_;intro N hN)))|((try apply Or.inl);refine⟨_,ak.x (qV) (sd (tw @b5 (tw @b0 (tw @hj (tw @nq (tw @yk (tw @bI.eq_1 @ab.eq_1))))))),?_⟩;refine hN _ _ ?_;clear hN N)))
    exact aQ (b:=false) (.inl rfl) (sd @Nat.zero_add) (ft (lg fun h=>by rw[zD,htd]at h;have:=h.2.1;omega))
  ·(try((repeat(revert hN;revert N;apply Pn.out));refine wk (tw @b5 (tw @b0 (tw @hj @ab.eq_1))) ?_;(repeat(refine Pn.mk ?_;intro N hN))))
   exact aQ (b:=true) (.inl rfl) (sd @Nat.zero_add) (Bf ⟨by omega,by omega,by omega,fun i hi=>lv i (by omega),fun i hi=>bA0 i (by omega)⟩)
end Go.Proofs.YtgoljkjaameagaaGreat.V

namespace Go.Proofs.YtgoljkjaameagaaGreat.V
def lN (a b:aP):Bool:=decide (a.e8<b.e8)||(decide (a.e8=b.e8)&&decide (a.fE<b.fE))
theorem tA {a b:aP}:lN a b=true↔a.e8<b.e8∨(a.e8=b.e8/\a.fE<b.fE):=by simp[lN]
theorem oD {a b:aP}:lN a b=false↔¬(a.e8<b.e8∨(a.e8=b.e8/\a.fE<b.fE)):=by rw[<-tA,Bool.not_eq_true]
theorem It {a b:aP} (h1:a.fE=b.fE) (h2:a.e8=b.e8):a=b:=by cases a;cases b;simp_all
theorem jx {a b c:aP} (h:lN a b=true) (k:lN b c=true):lN a c=true:=by rw[tA]at *;omega
theorem iz {a:aP}:lN a a=false:=by rw[oD];omega
theorem Ia {a b:aP} (h:lN a b=true):lN b a=false:=by rw[tA]at h;rw[oD];omega
theorem Er {a b:aP} (h:lN a b=false) (gF:a≠b):lN b a=true:=by
 rw[oD]at h;rw[tA]
 by_cases hy:a.e8=b.e8
 ·by_cases hx:a.fE=b.fE
  ·exact absurd (It hx hy) gF
  ·omega
 ·omega
def qe (a b:Int):Int:=if a<b then -1 else if b<a then 1 else 0
def KL (a b:Int):Int:=if a=0 then b else a
def qf (a b:aP):Int:=KL (qe a.e8 b.e8) (qe a.fE b.fE)
theorem tf (a b:aP):decide (qf a b<0)=lN a b:=by
 unfold qf KL qe lN
 by_cases h1:a.e8<b.e8
 ·simp[h1]
 ·by_cases h2:b.e8<a.e8
  ·have:¬a.e8=b.e8:=by omega
   simp[h1,h2,this]
  ·have:a.e8=b.e8:=by omega
   by_cases h3:a.fE<b.fE
   ·simp[h1,h2,this,h3]
   ·by_cases h4:b.fE<a.fE<;>simp[h1,h2,this,h3,h4]
theorem EU (a b:aP):(qf a b=0)↔a=b:=by
 cases a;cases b
 unfold qf KL qe
 simp only[aP.mk.injEq]
 split<;>(try split)<;>(try split)<;>(try split)<;>omega
def Ii:ad:=⟨⟨0,0⟩,0⟩
def bc (l:List ad) (i:Nat):ad:=l.getD i Ii
theorem ee {l:List ad} {i:Nat} (h:i<l.length):bc l i=l[i]:=by simp[bc,List.getD_eq_getElem?_getD,h]
theorem iy {l:List ad} {i:Nat} (h:i<l.length):bc l i∈l:=by rw[ee h];exact List.getElem_mem h
def ji (l:List ad):Prop:=∀i j:Nat,i<j->j<l.length->lN (bc l i).aW (bc l j).aW=true
def Az (l:List ad) (p:aP):Nat:=l.findIdx fun c=>decide (c.aW=p)
def eG (l:List ad) (p:aP):Int:=if Az l p<l.length then(Az l p:Int)else -1
def lL (l:List ad) (p:aP):Nat:=l.findIdx fun c=> !lN c.aW p
theorem yM {l:List ad} {p:aP} {i:Nat} (hi:i<=l.length) (h1:∀x,x<i->lN (bc l x).aW p=true) (h2:i<l.length->lN (bc l i).aW p=false):lL l p=i:=by
 unfold lL
 by_cases h:i<l.length
 ·rw[List.findIdx_eq h]
  refine⟨by have:=h2 h;rw[ee h]at this;simp[this],fun j hj=>?_⟩
  have:=h1 j hj
  rw[ee (by omega)]at this
  simp[this]
 ·have:i=l.length:=by omega
  subst this
  refine List.findIdx_eq_length_of_false fun x hx=>?_
  obtain⟨j,hj,rfl⟩:=List.getElem_of_mem hx
  have:=h1 j hj
  rw[ee hj]at this
  simp[this]
theorem yN {l:List ad} {p:aP} (hR:ji l):eG l p=if lL l p<l.length/\(bc l (lL l p)).aW=p then(lL l p:Int)else -1:=by
 by_cases h:∃i,i<l.length/\(bc l i).aW=p
 ·obtain⟨i,hi,hp⟩:=h
  have h1:lL l p=i:=yM (by omega) (fun x hx=>by rw[<-hp];exact hR x i hx hi) fun _=>by rw[hp];exact iz
  have h2:Az l p=i:=by
   rw[Az,List.findIdx_eq hi]
   refine⟨by rw[ee hi]at hp;simpa using hp,fun j hj=>?_⟩
   have:=hR j i hj hi
   rw[hp,ee (by omega)]at this
   simp only[decide_eq_false_iff_not]
   intro hc
   rw[hc,iz]at this
   cases this
  rw[eG,h1,h2,if_pos hi,if_pos ⟨hi,hp⟩]
 ·have h2:¬Az l p<l.length:=by
   rw[Az,List.findIdx_lt_length]
   rintro⟨c,hc,he⟩
   obtain⟨j,hj,rfl⟩:=List.getElem_of_mem hc
   exact h ⟨j,hj,by rw[ee hj];simpa using he⟩
  rw[eG,if_neg h2,if_neg]
  rintro⟨h3,h4⟩
  exact h ⟨_,h3,h4⟩
theorem me {l:List ad} {p:aP} (h:0<=eG l p):(eG l p).toNat<l.length/\(bc l (eG l p).toNat).aW=p:=by
 unfold eG at h ⊢
 split at h
 ·rename_i hc
  rw[if_pos hc]
  refine⟨by omega,?_⟩
  have:=of_decide_eq_true (List.findIdx_getElem (p:=fun c:ad=>decide (c.aW=p)) (xs:=l) (w:=hc))
  rw[Int.toNat_natCast,ee hc]
  exact this
 ·omega
def iE (l:List ad) (p:aP):Int:=if 0<=eG l p then(bc l (eG l p).toNat).aZ else -1
end Go.Proofs.YtgoljkjaameagaaGreat.V

namespace Go.Proofs.YtgoljkjaameagaaGreat.V
open Go.RowKit
attribute [local irreducible] dL wpOps fu Call
attribute [local go_sem] az eQ ec eY eW cJ upd bJ K.av b4 AV.cells AV.cell rowOf rowsOf part ld rowAt bH bG cX dr fR bo cE dD e6 eF cQ dx cC cz db dc br aJ ck bq cq cm dv dy dw cj bx cD dt bp aA cu bQ fQ bd bY bt aH cW aX cY AV.undef bj bl de dn da dj bV dC dE bK dB dz cr cw List.getD_cons_zero List.getD_cons_succ List.getD_nil List.all_cons List.all_nil Bool.and_true Bool.true_and Bool.and_self Bool.not_true Bool.not_false Option.map_some Option.map_none Option.bind_some Option.bind_none List.length_cons List.length_nil List.take_succ_cons List.take_zero List.take_nil List.drop_succ_cons List.drop_zero List.drop_nil List.head?_cons List.map_cons List.map_nil List.getElem?_cons_zero List.getElem?_cons_succ List.cons_append List.nil_append List.append_nil List.length_map List.set_cons_zero List.set_cons_succ Nat.reduceMul eq_self Int.toNat_natCast Int.natCast_nonneg and_self true_and and_true decide_true decide_false Bool.false_eq_true Nat.zero_add Nat.add_zero List.contains_cons List.contains_nil Bool.or_false Bool.false_or beq_self_eq_true Nat.reduceBEq ne_eq not_true_eq_false not_false_eq_true Id.mk.injEq false_and and_false Nat.reduceLT Int.reduceLE Int.reduceLT Int.reduceToNat Int.reduceNeg Int.reduceAdd Nat.le_refl List.length_append beq_true beq_false Bool.not_eq_eq_eq_not or_false false_or dd ae ai ay bh bD aG aM aD aL bZ bm
theorem se (a b:aP):ak Tryz.prog 175 [.agg (aj a),.agg (aj b)] (.bool (lN a b)):=by
 refine ak.body eb rfl fun hl n0=>?_
 clear hl
 by_cases h0:a.e8<b.e8
 ·(try((repeat(revert hN;revert N;apply Pn.out));refine wk (tw @aj.eq_1 @h0) ?_;(repeat(refine Pn.mk ?_;intro N hN))))
  exact aQ (b:=true) (.inl rfl) (sd @Nat.zero_add) (by simp[lN,h0])
 ·by_cases h1:a.e8=b.e8
  ·have h2:¬b.e8<b.e8:=by omega
   (try((repeat(revert hN;revert N;apply Pn.out));refine wk (tw @aj.eq_1 (tw @h1 @h2)) ?_;(repeat(refine Pn.mk ?_;intro N hN))))
   exact aQ (b:=decide (a.fE<b.fE)) (.inl rfl) (sd @Nat.zero_add) (by simp[lN,h1])
  ·(try((repeat(revert hN;revert N;apply Pn.out));refine wk (tw @aj.eq_1 (tw @h0 @h1)) ?_;(repeat(refine Pn.mk ?_;intro N hN))))
   exact aQ (b:=false) (.inl rfl) (sd @Nat.zero_add) (by simp[lN,h0,h1])
theorem fH {l:List ad} {i:Nat} (h:i<l.length):(l.map aa)[i]? =some (aa (bc l i)):=getD_map aa h
def Bw (l:List ad) (i:Nat):Prop:=F1 (bc l i).aW=true/\iI (bc l i).aZ 0 159=true/\(0<i->lN (bc l (i-1)).aW (bc l i).aW=true)
structure jm (l:List ad):Prop where
 sU:l.length<=500
 ok:∀i,i<l.length->Bw l i
noncomputable def nK (l:List ad):Bool:=@decide (jm l) (Classical.propDecidable _)
theorem rC {l:List ad}:nK l=true↔jm l:=by simp[nK]
theorem jN {l:List ad} (h:¬jm l):false=nK l:=by simp[nK,h]
theorem wY {l:List ad} (h:jm l):true=nK l:=by simp[nK,h]
theorem jm.zz {l:List ad} (h:jm l):ji l:=by
 intro i j Fp hj
 induction j with
 |zero=>omega
 |succ j ih=>
  have h1:=(h.ok (j+1) hj).2.2 (by omega)
  rw[Nat.add_sub_cancel]at h1
  by_cases he:i=j
  ·subst he;exact h1
  ·exact jx (ih (by omega) (by omega)) h1
theorem jm.pt {l:List ad} (h:jm l) {i:Nat} (hi:i<l.length):F1 (bc l i).aW=true:=(h.ok i hi).1
theorem yW {p:aP} (h:F1 p=true):iB p.fE/\iB p.e8:=by
 unfold F1 at h
 simp only[Bool.and_eq_true]at h
 have:=ew h.1;have:=ew h.2
 unfold iB;omega
theorem FI (l:List ad):ak Tryz.prog 219 [.cN [.sl (l.map aa)]] (.bool (nK l)):=by
 refine ak.body eb rfl fun hl n0=>?_
 clear hl
 by_cases h1:(500:Int)<(l.length:Int)
 ·(try((repeat(revert hN;revert N;apply Pn.out));refine wk @h1 ?_;(repeat(refine Pn.mk ?_;intro N hN))))
  exact aQ (b:=false) (.inl rfl) (sd @Nat.zero_add) (jN fun h=>by have:=h.sU;omega)
 (try((repeat(revert hN;revert N;apply Pn.out));refine wk @h1 ?_;(repeat(refine Pn.mk ?_;intro N hN))))
 refine aY (fun n env st=>∃k:Nat,n=(l.length)-k/\k<=(l.length)/\env 3=.int .i64 (k:Int)/\(∀j:Nat,j<k->Bw l j)) (l.length) ⟨0,by omega,by omega,sl @Nat.zero_add,fun _ h=>absurd h (Nat.not_lt_zero _)⟩ ?_
 rintro n_a env_a st_a ⟨k,rfl,ale,a3,lv⟩ dU
 have a0:=dU 0 (by kernel_rfl)
 simp only[go_sem, ↓reduceIte,Nat.reduceEqDiff,Nat.reduceAdd,Nat.reduceSub,Nat.reduceLeDiff,reduceCtorEq]at a0
 clear dU
 by_cases hk:(k:Int)<(l.length:Int)
 ·have cK:∀{e:Env},(e 3=.int .i64 (IntKind.i64.wrap ((k:Int)+1)))->(Bw l k)->∃m0,m0<(l.length)-k/\∃k:Nat,m0=(l.length)-k/\k<=(l.length)/\e 3=.int .i64 (k:Int)/\(∀j:Nat,j<k->Bw l j):=fun x1 x2=>⟨_,by omega,k+1,rfl,by omega,(by rw[x1,ax (by omega)]),(all_succ lv x2)⟩
  have eU:k<l.length:=by omega
  have ea:=fH eU
  have lg:(¬Bw l k)->¬jm l:=fun h hp=>h (hp.ok k eU)
  have hp:=CO (bc l k).aW
  have ht:=kZ (bc l k).aZ 0 159
  cases b1:F1 (bc l k).aW
  ·rw[b1]at hp
   (repeat(first|((repeat(revert hN;revert N;apply Pn.out));refine wk (tw @a3 (tw @a0 (tw @hk (tw @ea (tw @aa.eq_1 @aj.eq_1))))) ?_;(repeat(refine Pn.mk ?_;intro N hN)))|((try apply Or.inl);refine⟨_,ak.x (hp) (sd (tw @a3 (tw @a0 (tw @hk (tw @ea (tw @aa.eq_1 @aj.eq_1)))))),?_⟩;refine hN _ _ ?_;clear hN N)))
   exact aQ (b:=false) (.inl rfl) (sd @Nat.zero_add) (jN (lg fun h=>by rw[Bw,b1]at h;cases h.1))
  rw[b1]at hp
  cases b2:iI (bc l k).aZ 0 159
  ·rw[b2]at ht
   (repeat(first|((repeat(revert hN;revert N;apply Pn.out));refine wk (tw @a3 (tw @a0 (tw @hk (tw @ea (tw @aa.eq_1 @aj.eq_1))))) ?_;(repeat(refine Pn.mk ?_;intro N hN)))|((try apply Or.inl);refine⟨_,ak.x (hp) (sd (tw @a3 (tw @a0 (tw @hk (tw @ea (tw @aa.eq_1 @aj.eq_1)))))),?_⟩;refine hN _ _ ?_;clear hN N)|((try apply Or.inl);refine⟨_,ak.x (ht) (sd (tw @a3 (tw @a0 (tw @hk (tw @ea (tw @aa.eq_1 @aj.eq_1)))))),?_⟩;refine hN _ _ ?_;clear hN N)))
   exact aQ (b:=false) (.inl rfl) (sd @Nat.zero_add) (jN (lg fun h=>by rw[Bw,b2]at h;cases h.2.1))
  rw[b2]at ht
  by_cases h0:(0:Int)<(k:Int)
  ·have ur:=fH (l:=l) (i:=k-1) (by omega)
   have hw:IntKind.i64.wrap ((k:Int)-1)=((k-1:Nat):Int):=by rw[bE (by have:=eU;omega)];omega
   have hq:=se (bc l (k-1)).aW (bc l k).aW
   cases b3:lN (bc l (k-1)).aW (bc l k).aW
   ·rw[b3]at hq
    (repeat(first|((repeat(revert hN;revert N;apply Pn.out));refine wk (tw @a3 (tw @a0 (tw @hk (tw @ea (tw @ur (tw @h0 (tw @hw (tw @aa.eq_1 @aj.eq_1)))))))) ?_;(repeat(refine Pn.mk ?_;intro N hN)))|((try apply Or.inl);refine⟨_,ak.x (hp) (sd (tw @a3 (tw @a0 (tw @hk (tw @ea (tw @ur (tw @h0 (tw @hw (tw @aa.eq_1 @aj.eq_1))))))))),?_⟩;refine hN _ _ ?_;clear hN N)|((try apply Or.inl);refine⟨_,ak.x (ht) (sd (tw @a3 (tw @a0 (tw @hk (tw @ea (tw @ur (tw @h0 (tw @hw (tw @aa.eq_1 @aj.eq_1))))))))),?_⟩;refine hN _ _ ?_;clear hN N)|((try apply Or.inl);refine⟨_,ak.x (hq) (sd (tw @a3 (tw @a0 (tw @hk (tw @ea (tw @ur (tw @h0 (tw @hw (tw @aa.eq_1 @aj.eq_1))))))))),?_⟩;refine hN _ _ ?_;clear hN N)))
    exact aQ (b:=false) (.inl rfl) (sd @Nat.zero_add) (jN (lg fun h=>by have:=h.2.2 (by omega);rw[b3]at this;cases this))
   ·rw[b3]at hq
    (repeat(first|((repeat(revert hN;revert N;apply Pn.out));refine wk (tw @a3 (tw @a0 (tw @hk (tw @ea (tw @ur (tw @h0 (tw @hw (tw @aa.eq_1 @aj.eq_1)))))))) ?_;(repeat(refine Pn.mk ?_;intro N hN)))|((try apply Or.inl);refine⟨_,ak.x (hp) (sd (tw @a3 (tw @a0 (tw @hk (tw @ea (tw @ur (tw @h0 (tw @hw (tw @aa.eq_1 @aj.eq_1))))))))),?_⟩;refine hN _ _ ?_;clear hN N)|((try apply Or.inl);refine⟨_,ak.x (ht) (sd (tw @a3 (tw @a0 (tw @hk (tw @ea (tw @ur (tw @h0 (tw @hw (tw @aa.eq_1 @aj.eq_1))))))))),?_⟩;refine hN _ _ ?_;clear hN N)|((try apply Or.inl);refine⟨_,ak.x (hq) (sd (tw @a3 (tw @a0 (tw @hk (tw @ea (tw @ur (tw @h0 (tw @hw (tw @aa.eq_1 @aj.eq_1))))))))),?_⟩;refine hN _ _ ?_;clear hN N)))
    exact cK (sd (tw @a3 @a0)) (⟨b1,b2,fun _=>b3⟩)
  ·have tu:k=0:=by omega
   (repeat(first|((repeat(revert hN;revert N;apply Pn.out));refine wk (tw @a3 (tw @a0 (tw @hk (tw @ea (tw @h0 (tw @aa.eq_1 @aj.eq_1)))))) ?_;(repeat(refine Pn.mk ?_;intro N hN)))|((try apply Or.inl);refine⟨_,ak.x (hp) (sd (tw @a3 (tw @a0 (tw @hk (tw @ea (tw @h0 (tw @aa.eq_1 @aj.eq_1))))))),?_⟩;refine hN _ _ ?_;clear hN N)|((try apply Or.inl);refine⟨_,ak.x (ht) (sd (tw @a3 (tw @a0 (tw @hk (tw @ea (tw @h0 (tw @aa.eq_1 @aj.eq_1))))))),?_⟩;refine hN _ _ ?_;clear hN N)))
   exact cK (sd (tw @a3 @a0)) (⟨b1,b2,fun h=>by omega⟩)
 ·(try((repeat(revert hN;revert N;apply Pn.out));refine wk (tw @a3 (tw @a0 @hk)) ?_;(repeat(refine Pn.mk ?_;intro N hN))))
  exact aQ (b:=true) (.inl rfl) (sd @Nat.zero_add) (wY ⟨by omega,fun i hi=>lv i (by omega)⟩)
theorem wS (a b:Int):ak Tryz.prog 210 [.int .i64 a,.int .i64 b] (.int .i64 (qe a b)):=by
 have nan:∀x:Int,ak Tryz.prog 273 [.int .i64 x] (.bool false):=fun x=>by
  refine ak.body eb rfl fun hl n0=>?_
  clear hl
  have e:decide (x=x)=true:=decide_eq_true rfl
  (try((repeat(revert hN;revert N;apply Pn.out));refine wk @e ?_;(repeat(refine Pn.mk ?_;intro N hN))))
  exact aQ (b:=false) (.inl rfl) (sd @Nat.zero_add) rfl
 refine ak.body eb rfl fun hl n0=>?_
 clear hl
 have ha:=nan a
 have hb:=nan b
 by_cases h1:a<b
 ·(repeat(first|((repeat(revert hN;revert N;apply Pn.out));refine wk @h1 ?_;(repeat(refine Pn.mk ?_;intro N hN)))|((try apply Or.inl);refine⟨_,ak.x (ha) (sd @h1),?_⟩;refine hN _ _ ?_;clear hN N)|((try apply Or.inl);refine⟨_,ak.x (hb) (sd @h1),?_⟩;refine hN _ _ ?_;clear hN N)))
  exact bL (b:=-1) (.inl rfl) (sd @Nat.zero_add) (by rw[qe,if_pos h1])
 by_cases h2:b<a
 ·(repeat(first|((repeat(revert hN;revert N;apply Pn.out));refine wk (tw @h1 @h2) ?_;(repeat(refine Pn.mk ?_;intro N hN)))|((try apply Or.inl);refine⟨_,ak.x (ha) (sd (tw @h1 @h2)),?_⟩;refine hN _ _ ?_;clear hN N)|((try apply Or.inl);refine⟨_,ak.x (hb) (sd (tw @h1 @h2)),?_⟩;refine hN _ _ ?_;clear hN N)))
  exact bL (b:=1) (.inl rfl) (sd @Nat.zero_add) (by rw[qe,if_neg h1,if_pos h2])
 ·(repeat(first|((repeat(revert hN;revert N;apply Pn.out));refine wk (tw @h1 @h2) ?_;(repeat(refine Pn.mk ?_;intro N hN)))|((try apply Or.inl);refine⟨_,ak.x (ha) (sd (tw @h1 @h2)),?_⟩;refine hN _ _ ?_;clear hN N)|((try apply Or.inl);refine⟨_,ak.x (hb) (sd (tw @h1 @h2)),?_⟩;refine hN _ _ ?_;clear hN N)))
  exact bL (b:=0) (.inl rfl) (sd @Nat.zero_add) (by rw[qe,if_neg h1,if_neg h2])
def GG:List Int->Int
 |[]=>0
 |a::r=>if a=0 then GG r else a
theorem Ip:∀{l:List Int} {k:Nat} (hk:k<l.length),l[k]≠0->(∀j (h:j<l.length),j<k->l[j]=0)->GG l=l[k]
 |a::r,0,_,h,_=>by
  have h':a≠0:=h
  rw[GG,if_neg h'];rfl
 |a::r,k+1,hk,h,h0=>by
  have h':a=0:=h0 0 (by simp) (by omega)
  rw[GG,if_pos h',Ip (k:=k) (by simpa using hk) h fun j hj w9=>h0 (j+1) (by simpa using hj) (by omega)];rfl
theorem A7:∀{l:List Int},(∀j (h:j<l.length),l[j]=0)->GG l=0
 |[],_=>rfl
 |a::r,h=>by
  have h':a=0:=h 0 (by simp)
  rw[GG,if_pos h',A7 fun j hj=>h (j+1) (by simpa using hj)]
theorem KM (a b:Int):GG [a,b]=KL a b:=by
 unfold KL
 by_cases h:a=0
 ·rw[GG,if_pos h,if_pos h,GG,GG];split<;>simp_all
 ·rw[GG,if_neg h,if_neg h]
theorem JM (l:List Int):ak Tryz.prog 233 [.sl (l.map aT)] (.int .i64 (GG l)):=by
 refine ak.body eb rfl fun hl n0=>?_
 have hlen:l.length<=9223372036854775807:=by simpa using(hl (.sl (l.map aT)) (by simp)).len
 clear hl
 (try((repeat(revert hN;revert N;apply Pn.out));refine wk @Nat.zero_add ?_;(repeat(refine Pn.mk ?_;intro N hN))))
 refine aY (fun n env st=>∃k:Nat,n=(l.length)-k/\k<=(l.length)/\env 8=.int .i64 (k:Int)/\(∀j:Nat,j<k->∀h:j<l.length,l[j]=0)) (l.length) ⟨0,by omega,by omega,sl @Nat.zero_add,fun _ h=>absurd h (Nat.not_lt_zero _)⟩ ?_
 rintro n_a env_a st_a ⟨k,rfl,ale,a8,lv⟩ dU
 have a3:=dU 3 (by kernel_rfl);have a6:=dU 6 (by kernel_rfl);have a7:=dU 7 (by kernel_rfl)
 simp only[go_sem, ↓reduceIte,Nat.reduceEqDiff,Nat.reduceAdd,Nat.reduceSub,Nat.reduceLeDiff,reduceCtorEq]at a3 a6 a7
 clear dU
 by_cases hk:(k:Int)<(l.length:Int)
 ·have cK:∀{e:Env},(e 8=.int .i64 (IntKind.i64.wrap ((k:Int)+1)))->(∀h:k<l.length,l[k]=0)->∃m0,m0<(l.length)-k/\∃k:Nat,m0=(l.length)-k/\k<=(l.length)/\e 8=.int .i64 (k:Int)/\(∀j:Nat,j<k->∀h:j<l.length,l[j]=0):=fun x1 x2=>⟨_,by omega,k+1,rfl,by omega,(by rw[x1,ax (by omega)]),(all_succ lv x2)⟩
  have eU:k<l.length:=by omega
  have ea:(l.map aT)[k]? =some (aT l[k]):=by simp[eU]
  generalize hv:l[k]=v at ea
  by_cases h0:v=0
  ·have e:decide (v=0)=true:=decide_eq_true h0
   (try((repeat(revert hN;revert N;apply Pn.out));refine wk (tw @a8 (tw @a3 (tw @a6 (tw @a7 (tw @e (tw @hk (tw @ea @aT.eq_1))))))) ?_;(repeat(refine Pn.mk ?_;intro N hN))))
   exact cK (sd (tw @a8 (tw @a3 (tw @a6 @a7)))) (fun _=>hv.trans h0)
  ·have e:decide (v=0)=false:=decide_eq_false h0
   (try((repeat(revert hN;revert N;apply Pn.out));refine wk (tw @a8 (tw @a3 (tw @a6 (tw @a7 (tw @e (tw @hk (tw @ea @aT.eq_1))))))) ?_;(repeat(refine Pn.mk ?_;intro N hN))))
   exact bL (b:=v) (.inl rfl) (sd @Nat.zero_add) (by rw[Ip eU (by rw[hv];exact h0) fun j h hj=>lv j hj h,hv])
 ·(try((repeat(revert hN;revert N;apply Pn.out));refine wk (tw @a8 (tw @a3 (tw @a6 (tw @a7 @hk)))) ?_;(repeat(refine Pn.mk ?_;intro N hN))))
  exact bL (b:=0) (.inl rfl) (sd @Nat.zero_add) (by rw[A7 fun j h=>lv j (by omega) h])
section
attribute [local go_sem] List.drop_zero List.take_succ_cons List.take_zero List.length_cons List.length_nil gi ye nL
theorem mL (a b:aP):ak Tryz.prog 154 [.agg (aj a),.agg (aj b)] (.int .i64 (qf a b)):=by
 refine ak.body eb rfl fun hl n0=>?_
 clear hl
 have h1:=wS a.e8 b.e8
 have h2:=wS a.fE b.fE
 have h3:=JM [qe a.e8 b.e8,qe a.fE b.fE]
 rw[KM,List.map_cons,List.map_cons,List.map_nil,aT,aT]at h3
 (repeat(first|((repeat(revert hN;revert N;apply Pn.out));refine wk @aj.eq_1 ?_;(repeat(refine Pn.mk ?_;intro N hN)))|((try apply Or.inl);refine⟨_,ak.x (h1) (sd @aj.eq_1),?_⟩;refine hN _ _ ?_;clear hN N)|((try apply Or.inl);refine⟨_,ak.x (h2) (sd @aj.eq_1),?_⟩;refine hN _ _ ?_;clear hN N)|((try apply Or.inl);refine⟨_,ak.x (h3) (sd @aj.eq_1),?_⟩;refine hN _ _ ?_;clear hN N)))
 exact bL (b:=qf a b) (.inl rfl) (by simp only[go_sem, ↓reduceIte,Nat.reduceEqDiff,Nat.reduceAdd,Nat.reduceSub,Nat.reduceLeDiff,reduceCtorEq,qf]) rfl
end
theorem Kl (a b:aP):ak Tryz.prog 179 [.agg (aj a),.agg (aj b)] (.bool (lN a b)):=by
 refine ak.body eb rfl fun hl n0=>?_
 clear hl
 have h1:=mL a b
 rw[aj,aj]at h1
 (repeat(first|((repeat(revert hN;revert N;apply Pn.out));refine wk @aj.eq_1 ?_;(repeat(refine Pn.mk ?_;intro N hN)))|((try apply Or.inl);refine⟨_,ak.x (h1) (sd @aj.eq_1),?_⟩;refine hN _ _ ?_;clear hN N)))
 exact aQ (b:=decide (qf a b<0)) (.inl rfl) (sd @Nat.zero_add) (tf a b)
theorem jW (t:ad) (p:aP):ak Tryz.prog 164 [.agg (aa t),.agg (aj p)] (.int .i64 (qf t.aW p)):=by
 refine ak.body eb rfl fun hl n0=>?_
 clear hl
 have h1:=mL t.aW p
 rw[aj,aj]at h1
 (repeat(first|((repeat(revert hN;revert N;apply Pn.out));refine wk (tw @aa.eq_1 @aj.eq_1) ?_;(repeat(refine Pn.mk ?_;intro N hN)))|((try apply Or.inl);refine⟨_,ak.x (h1) (sd (tw @aa.eq_1 @aj.eq_1)),?_⟩;refine hN _ _ ?_;clear hN N)))
 exact bL (b:=qf t.aW p) (.inl rfl) (sd @Nat.zero_add) rfl
theorem rF (l:List ad):ak Tryz.prog 200 [.agg [.sl (l.map aa)]] (.bool (nK l)):=by
 refine ak.body eb rfl fun hl n0=>?_
 have hlen:l.length<=9223372036854775807:=by
  have h1:=(hl (.agg [.sl (l.map aa)]) (by simp)).Mj (a:=.sl (l.map aa)) (by simp)
  simpa using h1.len
 clear hl
 (try((repeat(revert hN;revert N;apply Pn.out));refine wk @Nat.zero_add ?_;(repeat(refine Pn.mk ?_;intro N hN))))
 refine aY (fun n env st=>∃k:Nat,n=(l.length)-k/\k<=(l.length)/\env 8=.int .i64 (k:Int)/\st.get ⟨200000000,n0⟩=some ⟨true,1,[[.sl (l.map aa)]]⟩/\(∀j:Nat,j<k->Bw l j)) (l.length) ⟨0,by omega,by omega,sl @Nat.zero_add,sl @Nat.zero_add,fun _ h=>absurd h (Nat.not_lt_zero _)⟩ ?_
 rintro n_a env_a st_a ⟨k,rfl,ale,a8,ag0,lv⟩ dU
 have a1:=dU 1 (by kernel_rfl);have a6:=dU 6 (by kernel_rfl);have a7:=dU 7 (by kernel_rfl)
 simp only[go_sem, ↓reduceIte,Nat.reduceEqDiff,Nat.reduceAdd,Nat.reduceSub,Nat.reduceLeDiff,reduceCtorEq]at a1 a6 a7
 clear dU
 by_cases hk:(k:Int)<(l.length:Int)
 ·have cK:∀{e:Env} {gg:Rows},(e 8=.int .i64 (IntKind.i64.wrap ((k:Int)+1)))->(gg ⟨200000000,n0⟩=some ⟨true,1,[[.sl (l.map aa)]]⟩)->(Bw l k)->∃m0,m0<(l.length)-k/\∃k:Nat,m0=(l.length)-k/\k<=(l.length)/\e 8=.int .i64 (k:Int)/\gg ⟨200000000,n0⟩=some ⟨true,1,[[.sl (l.map aa)]]⟩/\(∀j:Nat,j<k->Bw l j):=fun x1 x2 x3=>⟨_,by omega,k+1,rfl,by omega,(by rw[x1,ax (by omega)]),x2,(all_succ lv x3)⟩
  have eU:k<l.length:=by omega
  have ea:=fH eU
  have lg:(¬Bw l k)->¬jm l:=fun h hp=>h (hp.ok k eU)
  have hp:=xO (bc l k).aW
  have ht:=xj (bc l k).aZ 160 (by omega) (by omega)
  rw[show(160:Int)-1=159 from rfl]at ht
  cases b1:F1 (bc l k).aW
  ·rw[b1]at hp
   (repeat(first|((repeat(revert hN;revert N;apply Pn.out));refine wk (tw @a8 (tw @ag0 (tw @a1 (tw @a6 (tw @a7 (tw @hk (tw @ea (tw @aa.eq_1 @aj.eq_1)))))))) ?_;(repeat(refine Pn.mk ?_;intro N hN)))|((try apply Or.inl);refine⟨_,ak.x (hp) (sd (tw @a8 (tw @ag0 (tw @a1 (tw @a6 (tw @a7 (tw @hk (tw @ea (tw @aa.eq_1 @aj.eq_1))))))))),?_⟩;refine hN _ _ ?_;clear hN N)))
   exact aQ (b:=false) (.inl rfl) (sd @Nat.zero_add) (jN (lg fun h=>by rw[Bw,b1]at h;cases h.1))
  rw[b1]at hp
  cases b2:iI (bc l k).aZ 0 159
  ·rw[b2]at ht
   (repeat(first|((repeat(revert hN;revert N;apply Pn.out));refine wk (tw @a8 (tw @ag0 (tw @a1 (tw @a6 (tw @a7 (tw @hk (tw @ea (tw @aa.eq_1 @aj.eq_1)))))))) ?_;(repeat(refine Pn.mk ?_;intro N hN)))|((try apply Or.inl);refine⟨_,ak.x (hp) (sd (tw @a8 (tw @ag0 (tw @a1 (tw @a6 (tw @a7 (tw @hk (tw @ea (tw @aa.eq_1 @aj.eq_1))))))))),?_⟩;refine hN _ _ ?_;clear hN N)|((try apply Or.inl);refine⟨_,ak.x (ht) (sd (tw @a8 (tw @ag0 (tw @a1 (tw @a6 (tw @a7 (tw @hk (tw @ea (tw @aa.eq_1 @aj.eq_1))))))))),?_⟩;refine hN _ _ ?_;clear hN N)))
   exact aQ (b:=false) (.inl rfl) (sd @Nat.zero_add) (jN (lg fun h=>by rw[Bw,b2]at h;cases h.2.1))
  rw[b2]at ht
  by_cases h0:(0:Int)<(k:Int)
  ·have ur:=fH (l:=l) (i:=k-1) (by omega)
   have hw:IntKind.i64.wrap ((k:Int)-1)=((k-1:Nat):Int):=by rw[bE (by omega)];omega
   have hq:=Kl (bc l (k-1)).aW (bc l k).aW
   cases b3:lN (bc l (k-1)).aW (bc l k).aW
   ·rw[b3]at hq
    (repeat(first|((repeat(revert hN;revert N;apply Pn.out));refine wk (tw @a8 (tw @ag0 (tw @a1 (tw @a6 (tw @a7 (tw @hk (tw @ea (tw @ur (tw @h0 (tw @hw (tw @aa.eq_1 @aj.eq_1))))))))))) ?_;(repeat(refine Pn.mk ?_;intro N hN)))|((try apply Or.inl);refine⟨_,ak.x (hp) (sd (tw @a8 (tw @ag0 (tw @a1 (tw @a6 (tw @a7 (tw @hk (tw @ea (tw @ur (tw @h0 (tw @hw (tw @aa.eq_1 @aj.eq_1)))))))))))),?_⟩;refine hN _ _ ?_;clear hN N)|((try apply Or.inl);refine⟨_,ak.x (ht) (sd (tw @a8 (tw @ag0 (tw @a1 (tw @a6 (tw @a7 (tw @hk (tw @ea (tw @ur (tw @h0 (tw @hw (tw @aa.eq_1 @aj.eq_1)))))))))))),?_⟩;refine hN _ _ ?_;clear hN N)|((try apply Or.inl);refine⟨_,ak.x (hq) (sd (tw @a8 (tw @ag0 (tw @a1 (tw @a6 (tw @a7 (tw @hk (tw @ea (tw @ur (tw @h0 (tw @hw (tw @aa.eq_1 @aj.eq_1)))))))))))),?_⟩;refine hN _ _ ?_;clear hN N)))
    exact aQ (b:=false) (.inl rfl) (sd @Nat.zero_add) (jN (lg fun h=>by have:=h.2.2 (by omega);rw[b3]at this;cases this))
   ·rw[b3]at hq
    (repeat(first|((repeat(revert hN;revert N;apply Pn.out));refine wk (tw @a8 (tw @ag0 (tw @a1 (tw @a6 (tw @a7 (tw @hk (tw @ea (tw @ur (tw @h0 (tw @hw (tw @aa.eq_1 @aj.eq_1))))))))))) ?_;(repeat(refine Pn.mk ?_;intro N hN)))|((try apply Or.inl);refine⟨_,ak.x (hp) (sd (tw @a8 (tw @ag0 (tw @a1 (tw @a6 (tw @a7 (tw @hk (tw @ea (tw @ur (tw @h0 (tw @hw (tw @aa.eq_1 @aj.eq_1)))))))))))),?_⟩;refine hN _ _ ?_;clear hN N)|((try apply Or.inl);refine⟨_,ak.x (ht) (sd (tw @a8 (tw @ag0 (tw @a1 (tw @a6 (tw @a7 (tw @hk (tw @ea (tw @ur (tw @h0 (tw @hw (tw @aa.eq_1 @aj.eq_1)))))))))))),?_⟩;refine hN _ _ ?_;clear hN N)|((try apply Or.inl);refine⟨_,ak.x (hq) (sd (tw @a8 (tw @ag0 (tw @a1 (tw @a6 (tw @a7 (tw @hk (tw @ea (tw @ur (tw @h0 (tw @hw (tw @aa.eq_1 @aj.eq_1)))))))))))),?_⟩;refine hN _ _ ?_;clear hN N)))
    refine cK ?_ ?_ (⟨b1,b2,fun _=>b3⟩)
    all_goals simp only[go_sem, ↓reduceIte,Nat.reduceEqDiff,Nat.reduceAdd,Nat.reduceSub,Nat.reduceLeDiff,reduceCtorEq,a8,ag0,a1,a6,a7]
  ·have tu:k=0:=by omega
   (repeat(first|((repeat(revert hN;revert N;apply Pn.out));refine wk (tw @a8 (tw @ag0 (tw @a1 (tw @a6 (tw @a7 (tw @hk (tw @ea (tw @h0 (tw @aa.eq_1 @aj.eq_1))))))))) ?_;(repeat(refine Pn.mk ?_;intro N hN)))|((try apply Or.inl);refine⟨_,ak.x (hp) (sd (tw @a8 (tw @ag0 (tw @a1 (tw @a6 (tw @a7 (tw @hk (tw @ea (tw @h0 (tw @aa.eq_1 @aj.eq_1)))))))))),?_⟩;refine hN _ _ ?_;clear hN N)|((try apply Or.inl);refine⟨_,ak.x (ht) (sd (tw @a8 (tw @ag0 (tw @a1 (tw @a6 (tw @a7 (tw @hk (tw @ea (tw @h0 (tw @aa.eq_1 @aj.eq_1)))))))))),?_⟩;refine hN _ _ ?_;clear hN N)))
   refine cK ?_ ?_ (⟨b1,b2,fun h=>by omega⟩)
   all_goals simp only[go_sem, ↓reduceIte,Nat.reduceEqDiff,Nat.reduceAdd,Nat.reduceSub,Nat.reduceLeDiff,reduceCtorEq,a8,ag0,a1,a6,a7]
 ·(try((repeat(revert hN;revert N;apply Pn.out));refine wk (tw @a8 (tw @ag0 (tw @a1 (tw @a6 (tw @a7 @hk))))) ?_;(repeat(refine Pn.mk ?_;intro N hN))))
  refine aQ (b:=decide ((l.length:Int)<=500)) (.inl rfl) (sd @Nat.zero_add) ?_
  by_cases h5:(l.length:Int)<=500
  ·rw[decide_eq_true h5];exact wY ⟨by omega,fun i hi=>lv i (by omega)⟩
  ·rw[decide_eq_false h5];exact jN fun h=>by have:=h.sU;omega
theorem wO (cells:List ad) (p:aP) (hR:ji cells) (Fg:cells.length<=1048576):
  ak Tryz.prog 163 [.sl (cells.map aa),.agg (aj p),.fn 164 []] (.ij [.int .i64 (lL cells p),.bool (decide (lL cells p<cells.length)&&decide ((bc cells (lL cells p)).aW=p))]):=by
 refine ak.body eb rfl fun hl n0=>?_
 clear hl
 (try((repeat(revert hN;revert N;apply Pn.out));refine wk @aj.eq_1 ?_;(repeat(refine Pn.mk ?_;intro N hN))))
 refine aY (fun n env st=>∃i j:Nat,n=j-i/\i<=j/\j<=cells.length/\(∀x,x<i->lN (bc cells x).aW p=true)/\(∀x,j<=x->x<cells.length->lN (bc cells x).aW p=false)/\env 9=.int .i64 i/\env 10=.int .i64 j/\st.get ⟨163000000,n0⟩=some ⟨true,2,[aj p]⟩) cells.length ⟨0,cells.length,by omega,by omega,by omega,fun x h=>by omega,fun x h1 h2=>by omega,by(simp only[go_sem, ↓reduceIte,Nat.reduceEqDiff,Nat.reduceAdd,Nat.reduceSub,Nat.reduceLeDiff,reduceCtorEq])<;>rfl,sd @Nat.zero_add,sd @aj.eq_1⟩ ?_
 rintro n env st ⟨i,j,rfl,Fp,hj,iv,BB,h9,h10,hg⟩ fr
 have h0:=fr 0 (by kernel_rfl)
 have h2:=fr 2 (by kernel_rfl)
 have h4:=fr 4 (by kernel_rfl)
 have h8:=fr 8 (by kernel_rfl)
 simp only[go_sem, ↓reduceIte,Nat.reduceEqDiff,Nat.reduceAdd,Nat.reduceSub,Nat.reduceLeDiff,reduceCtorEq]at h0 h2 h4 h8
 clear fr
 by_cases dV:(i:Int)<(j:Int)
 ·have e1:IntKind.i64.wrap ((i:Int)+j)=((i+j:Nat):Int):=by rw[bE (by omega)];rfl
  have hm:(i+j) / 2<cells.length:=by omega
  have eT:(cells.map aa)[(i+j) / 2]? =some (aa (bc cells ((i+j) / 2))):=fH (l:=cells) hm
  have e2:IntKind.i64.wrap ((IntKind.u64.wrap ((i+j:Nat):Int)).fdiv (2 ^ min 1 IntKind.u64.bits))=(((i+j) / 2:Nat):Int):=by
   have h:IntKind.u64.wrap ((i+j:Nat):Int)=((i+j:Nat):Int):=by rw[IntKind.wrap_u64];omega
   rw[h,show min 1 IntKind.u64.bits=1 from rfl,show((2:Int) ^ 1)=2 from rfl,Int.fdiv_eq_ediv_of_nonneg _ (by omega)]
   rw[bE (by omega)];omega
  have Pk:IntKind.i64.wrap ((IntKind.u64.wrap ((i+j:Nat):Int)).fdiv (2 ^ min 1 64))=(((i+j) / 2:Nat):Int):=e2
  have e3:=ax (k:=(i+j) / 2) (by omega)
  by_cases hc:qf (bc cells ((i+j) / 2)).aW p<0
  ·have hl:lN (bc cells ((i+j) / 2)).aW p=true:=by rw[<-tf];simpa using hc
   (repeat(first|((repeat(revert hN;revert N;apply Pn.out));refine wk (tw @h0 (tw @h2 (tw @h4 (tw @h8 (tw @h9 (tw @h10 (tw @hg (tw @dV (tw @e1 (tw @e2 (tw @Pk (tw @eT (tw @hc (tw @aa.eq_1 @aj.eq_1)))))))))))))) ?_;(repeat(refine Pn.mk ?_;intro N hN)))|((try apply Or.inl);refine⟨_,ak.x (jW (bc cells ((i+j) / 2)) p) (sd (tw @h0 (tw @h2 (tw @h4 (tw @h8 (tw @h9 (tw @h10 (tw @hg (tw @dV (tw @e1 (tw @e2 (tw @Pk (tw @eT (tw @hc (tw @aa.eq_1 @aj.eq_1))))))))))))))),?_⟩;refine hN _ _ ?_;clear hN N)))
   refine⟨_,?_,(i+j) / 2+1,j,rfl,by omega,hj,fun x hx=>?_,BB,sd @e3,sd @h10,sd (tw @hg @aj.eq_1)⟩
   ·omega
   ·by_cases NF:x=(i+j) / 2
    ·subst NF;exact hl
    ·exact jx (hR x _ (by omega) hm) hl
  ·have hl:lN (bc cells ((i+j) / 2)).aW p=false:=by rw[<-tf];simpa using hc
   (repeat(first|((repeat(revert hN;revert N;apply Pn.out));refine wk (tw @h0 (tw @h2 (tw @h4 (tw @h8 (tw @h9 (tw @h10 (tw @hg (tw @dV (tw @e1 (tw @e2 (tw @Pk (tw @eT (tw @hc (tw @aa.eq_1 @aj.eq_1)))))))))))))) ?_;(repeat(refine Pn.mk ?_;intro N hN)))|((try apply Or.inl);refine⟨_,ak.x (jW (bc cells ((i+j) / 2)) p) (sd (tw @h0 (tw @h2 (tw @h4 (tw @h8 (tw @h9 (tw @h10 (tw @hg (tw @dV (tw @e1 (tw @e2 (tw @Pk (tw @eT (tw @hc (tw @aa.eq_1 @aj.eq_1))))))))))))))),?_⟩;refine hN _ _ ?_;clear hN N)))
   refine⟨_,?_,i,(i+j) / 2,rfl,by omega,by omega,iv,fun x h1 h2=>?_,sd @h9,sd (tw @e2 @Pk),sd (tw @hg @aj.eq_1)⟩
   ·omega
   ·by_cases NF:x=(i+j) / 2
    ·subst NF;exact hl
    ·rw[Bool.eq_false_iff]
     intro hc
     have h3:=jx (hR ((i+j) / 2) x (by omega) h2) hc
     rw[hl]at h3;cases h3
 ·have Nf:i=j:=by omega
  subst Nf
  have CD:lL cells p=i:=yM hj iv fun h=>BB i (Nat.le_refl _) h
  by_cases hn:(i:Int)<(cells.length:Int)
  ·have fJ:i<cells.length:=by omega
   have eT:(cells.map aa)[i]? =some (aa (bc cells i)):=fH (l:=cells) fJ
   have hd:decide (qf (bc cells i).aW p=0)=decide ((bc cells i).aW=p):=by simp only[EU]
   (repeat(first|((repeat(revert hN;revert N;apply Pn.out));refine wk (tw @h0 (tw @h2 (tw @h4 (tw @h8 (tw @h9 (tw @h10 (tw @hg (tw @dV (tw @hn (tw @eT (tw @aa.eq_1 @aj.eq_1))))))))))) ?_;(repeat(refine Pn.mk ?_;intro N hN)))|((try apply Or.inl);refine⟨_,ak.x (jW (bc cells i) p) (sd (tw @h0 (tw @h2 (tw @h4 (tw @h8 (tw @h9 (tw @h10 (tw @hg (tw @dV (tw @hn (tw @eT (tw @aa.eq_1 @aj.eq_1)))))))))))),?_⟩;refine hN _ _ ?_;clear hN N)))
   refine jf (.inl rfl) (r1:=.int .i64 i) (r2:=.bool (decide ((bc cells i).aW=p))) ?_ ?_ ?_
   ·simp only[go_sem, ↓reduceIte,Nat.reduceEqDiff,Nat.reduceAdd,Nat.reduceSub,Nat.reduceLeDiff,reduceCtorEq]
   ·simp only[go_sem, ↓reduceIte,Nat.reduceEqDiff,Nat.reduceAdd,Nat.reduceSub,Nat.reduceLeDiff,reduceCtorEq,hd]
   ·simp only[eR,bC,cG,ek,fe,Option.map_some,CD,fJ,decide_true,Bool.true_and]
  ·have fJ:¬i<cells.length:=by omega
   (try((repeat(revert hN;revert N;apply Pn.out));refine wk (tw @h0 (tw @h2 (tw @h4 (tw @h8 (tw @h9 (tw @h10 (tw @hg (tw @dV (tw @hn (tw @aa.eq_1 @aj.eq_1)))))))))) ?_;(repeat(refine Pn.mk ?_;intro N hN))))
   refine jf (.inl rfl) (r1:=.int .i64 i) (r2:=.bool false) ?_ ?_ ?_
   ·simp only[go_sem, ↓reduceIte,Nat.reduceEqDiff,Nat.reduceAdd,Nat.reduceSub,Nat.reduceLeDiff,reduceCtorEq]
   ·simp only[go_sem, ↓reduceIte,Nat.reduceEqDiff,Nat.reduceAdd,Nat.reduceSub,Nat.reduceLeDiff,reduceCtorEq]
   ·simp only[eR,bC,cG,ek,fe,Option.map_some,CD,fJ,decide_false,Bool.false_and]
theorem F0 (l:List ad) (p:aP) (hR:ji l) (Fg:l.length<=1048576):ak Tryz.prog 303 [.agg [.sl (l.map aa)],.agg (aj p)] (.int .i64 (eG l p)):=by
 refine ak.body eb rfl fun hl n0=>?_
 clear hl
 rw[yN hR]
 have hb:=wO l p hR Fg
 rw[aj]at hb
 cases hf:(decide (lL l p<l.length)&&decide ((bc l (lL l p)).aW=p))
 ·rw[hf]at hb
  (repeat(first|((repeat(revert hN;revert N;apply Pn.out));refine wk @aj.eq_1 ?_;(repeat(refine Pn.mk ?_;intro N hN)))|((try apply Or.inl);refine⟨_,ak.x (hb) (sd @aj.eq_1),?_⟩;refine hN _ _ ?_;clear hN N)))
  exact bL (b:=-1) (.inl rfl) (sd @Nat.zero_add) (by rw[if_neg];intro h;simp[h.1,h.2]at hf)
 ·rw[hf]at hb
  (repeat(first|((repeat(revert hN;revert N;apply Pn.out));refine wk @aj.eq_1 ?_;(repeat(refine Pn.mk ?_;intro N hN)))|((try apply Or.inl);refine⟨_,ak.x (hb) (sd @aj.eq_1),?_⟩;refine hN _ _ ?_;clear hN N)))
  exact bL (b:=(lL l p:Int)) (.inl rfl) (sd @Nat.zero_add) (by rw[if_pos];simpa using hf)
theorem Mm (l:List ad) (p:aP) (hR:ji l) (Fg:l.length<=1048576):ak Tryz.prog 244 [.agg [.sl (l.map aa)],.agg (aj p)] (.int .i64 (iE l p)):=by
 refine ak.body eb rfl fun hl n0=>?_
 clear hl
 have hi:=yN (l:=l) (p:=p) hR
 have hb:=wO l p hR Fg
 rw[aj]at hb
 cases hf:(decide (lL l p<l.length)&&decide ((bc l (lL l p)).aW=p))
 ·rw[hf]at hb
  (repeat(first|((repeat(revert hN;revert N;apply Pn.out));refine wk @aj.eq_1 ?_;(repeat(refine Pn.mk ?_;intro N hN)))|((try apply Or.inl);refine⟨_,ak.x (hb) (sd @aj.eq_1),?_⟩;refine hN _ _ ?_;clear hN N)))
  exact bL (b:=-1) (.inl rfl) (sd @Nat.zero_add) (by
   have hx:eG l p= -1:=by rw[hi,if_neg (by intro h;simp[h.1,h.2]at hf)]
   rw[iE,hx];rfl)
 ·rw[hf]at hb
  have hc:lL l p<l.length/\(bc l (lL l p)).aW=p:=by simpa using hf
  have hg:=fH hc.1
  (repeat(first|((repeat(revert hN;revert N;apply Pn.out));refine wk (tw @aj.eq_1 (tw @hg @aa.eq_1)) ?_;(repeat(refine Pn.mk ?_;intro N hN)))|((try apply Or.inl);refine⟨_,ak.x (hb) (sd (tw @aj.eq_1 (tw @hg @aa.eq_1))),?_⟩;refine hN _ _ ?_;clear hN N)))
  exact bL (b:=(bc l (lL l p)).aZ) (.inl rfl) (sd @Nat.zero_add) (by
   have hx:eG l p=(lL l p:Int):=by rw[hi,if_pos hc]
   rw[iE,hx,if_pos (by omega),Int.toNat_natCast])
theorem pK (l:List ad) (p:aP) (hR:ji l) (Fg:l.length<=1048576):ak Tryz.prog 173 [.cN [.sl (l.map aa)],.agg (aj p)] (.int .i64 (eG l p)):=by
 refine ak.body eb rfl fun hl n0=>?_
 clear hl
 rw[yN hR]
 (try((repeat(revert hN;revert N;apply Pn.out));refine wk @aj.eq_1 ?_;(repeat(refine Pn.mk ?_;intro N hN))))
 refine aY (fun n env st=>∃i j:Nat,n=j-i/\i<=j/\j<=l.length/\(∀x,x<i->lN (bc l x).aW p=true)/\(∀x,j<=x->x<l.length->lN (bc l x).aW p=false)/\env 5=.int .i64 i/\env 6=.int .i64 j/\st.get ⟨173000000,n0⟩=some ⟨true,2,[aj p]⟩) l.length ⟨0,l.length,by omega,by omega,by omega,fun x h=>by omega,fun x h1 h2=>by omega,by(simp only[go_sem, ↓reduceIte,Nat.reduceEqDiff,Nat.reduceAdd,Nat.reduceSub,Nat.reduceLeDiff,reduceCtorEq])<;>rfl,sd @Nat.zero_add,sd @aj.eq_1⟩ ?_
 rintro n env st ⟨i,j,rfl,Fp,hj,iv,BB,h5,h6,hg⟩ fr
 have h0:=fr 0 (by kernel_rfl)
 have h3:=fr 3 (by kernel_rfl)
 simp only[go_sem, ↓reduceIte,Nat.reduceEqDiff,Nat.reduceAdd,Nat.reduceSub,Nat.reduceLeDiff,reduceCtorEq]at h0 h3
 clear fr
 by_cases dV:(i:Int)<(j:Int)
 ·have e1:IntKind.i64.wrap ((i:Int)+j)=((i+j:Nat):Int):=by rw[bE (by omega)];rfl
  have hm:(i+j) / 2<l.length:=by omega
  have eT:=fH hm
  have e2:IntKind.i64.wrap (((i+j:Nat):Int).tdiv 2)=(((i+j) / 2:Nat):Int):=by
   rw[Int.tdiv_eq_ediv_of_nonneg (by omega),bE (by omega)];omega
  have e3:=ax (k:=(i+j) / 2) (by omega)
  have hq:=se (bc l ((i+j) / 2)).aW p
  cases hl:lN (bc l ((i+j) / 2)).aW p
  ·rw[hl]at hq
   (repeat(first|((repeat(revert hN;revert N;apply Pn.out));refine wk (tw @h0 (tw @h3 (tw @h5 (tw @h6 (tw @hg (tw @dV (tw @e1 (tw @e2 (tw @eT (tw @aa.eq_1 @aj.eq_1)))))))))) ?_;(repeat(refine Pn.mk ?_;intro N hN)))|((try apply Or.inl);refine⟨_,ak.x (hq) (sd (tw @h0 (tw @h3 (tw @h5 (tw @h6 (tw @hg (tw @dV (tw @e1 (tw @e2 (tw @eT (tw @aa.eq_1 @aj.eq_1))))))))))),?_⟩;refine hN _ _ ?_;clear hN N)))
   refine⟨_,?_,i,(i+j) / 2,rfl,by omega,by omega,iv,fun x h1 h2=>?_,sd @h5,sd @e2,sd (tw @hg @aj.eq_1)⟩
   ·omega
   ·by_cases NF:x=(i+j) / 2
    ·subst NF;exact hl
    ·rw[Bool.eq_false_iff]
     intro hc
     have h3:=jx (hR ((i+j) / 2) x (by omega) h2) hc
     rw[hl]at h3;cases h3
  ·rw[hl]at hq
   (repeat(first|((repeat(revert hN;revert N;apply Pn.out));refine wk (tw @h0 (tw @h3 (tw @h5 (tw @h6 (tw @hg (tw @dV (tw @e1 (tw @e2 (tw @eT (tw @aa.eq_1 @aj.eq_1)))))))))) ?_;(repeat(refine Pn.mk ?_;intro N hN)))|((try apply Or.inl);refine⟨_,ak.x (hq) (sd (tw @h0 (tw @h3 (tw @h5 (tw @h6 (tw @hg (tw @dV (tw @e1 (tw @e2 (tw @eT (tw @aa.eq_1 @aj.eq_1))))))))))),?_⟩;refine hN _ _ ?_;clear hN N)))
   refine⟨_,?_,(i+j) / 2+1,j,rfl,by omega,hj,fun x hx=>?_,BB,sd @e3,sd @h6,sd (tw @hg @aj.eq_1)⟩
   ·omega
   ·by_cases NF:x=(i+j) / 2
    ·subst NF;exact hl
    ·exact jx (hR x _ (by omega) hm) hl
 ·have Nf:i=j:=by omega
  subst Nf
  have CD:lL l p=i:=yM hj iv fun h=>BB i (Nat.le_refl _) h
  by_cases hn:(i:Int)<(l.length:Int)
  ·have fJ:i<l.length:=by omega
   have eT:=fH fJ
   by_cases hp:(bc l i).aW=p
   ·have hx:decide ((bc l i).aW.fE=p.fE)=true:=decide_eq_true (by rw[hp])
    have hy:decide ((bc l i).aW.e8=p.e8)=true:=decide_eq_true (by rw[hp])
    (try((repeat(revert hN;revert N;apply Pn.out));refine wk (tw @h0 (tw @h3 (tw @h5 (tw @h6 (tw @hg (tw @dV (tw @hn (tw @eT (tw @hx (tw @hy (tw @aa.eq_1 @aj.eq_1))))))))))) ?_;(repeat(refine Pn.mk ?_;intro N hN))))
    exact bL (b:=(i:Int)) (.inl rfl) (sd @Nat.zero_add) (by rw[CD,if_pos ⟨fJ,hp⟩])
   ·by_cases hx:(bc l i).aW.fE=p.fE
    ·have vH:decide ((bc l i).aW.fE=p.fE)=true:=decide_eq_true hx
     have hy':decide ((bc l i).aW.e8=p.e8)=false:=decide_eq_false fun h=>hp (It hx h)
     (try((repeat(revert hN;revert N;apply Pn.out));refine wk (tw @h0 (tw @h3 (tw @h5 (tw @h6 (tw @hg (tw @dV (tw @hn (tw @eT (tw @vH (tw @hy' (tw @aa.eq_1 @aj.eq_1))))))))))) ?_;(repeat(refine Pn.mk ?_;intro N hN))))
     exact bL (b:=-1) (.inl rfl) (sd @Nat.zero_add) (by rw[CD,if_neg fun h=>hp h.2])
    ·have vH:decide ((bc l i).aW.fE=p.fE)=false:=decide_eq_false hx
     (try((repeat(revert hN;revert N;apply Pn.out));refine wk (tw @h0 (tw @h3 (tw @h5 (tw @h6 (tw @hg (tw @dV (tw @hn (tw @eT (tw @vH (tw @Bool.false_and (tw @aa.eq_1 @aj.eq_1))))))))))) ?_;(repeat(refine Pn.mk ?_;intro N hN))))
     exact bL (b:=-1) (.inl rfl) (sd @Nat.zero_add) (by rw[CD,if_neg fun h=>hp h.2])
  ·have fJ:¬i<l.length:=by omega
   (try((repeat(revert hN;revert N;apply Pn.out));refine wk (tw @h0 (tw @h3 (tw @h5 (tw @h6 (tw @hg (tw @dV (tw @hn (tw @aa.eq_1 @aj.eq_1)))))))) ?_;(repeat(refine Pn.mk ?_;intro N hN))))
   exact bL (b:=-1) (.inl rfl) (sd @Nat.zero_add) (by rw[CD,if_neg fun h=>fJ h.1])
theorem yG (l:List ad) (p:aP) (hR:ji l) (Fg:l.length<=1048576):ak Tryz.prog 216 [.cN [.sl (l.map aa)],.agg (aj p)] (.int .i64 (iE l p)):=by
 refine ak.body eb rfl fun hl n0=>?_
 clear hl
 have hb:=pK l p hR Fg
 by_cases hi:eG l p<0
 ·rw[aj]at hb
  (repeat(first|((repeat(revert hN;revert N;apply Pn.out));refine wk (tw @aj.eq_1 @hi) ?_;(repeat(refine Pn.mk ?_;intro N hN)))|((try apply Or.inl);refine⟨_,ak.x (hb) (sd (tw @aj.eq_1 @hi)),?_⟩;refine hN _ _ ?_;clear hN N)))
  exact bL (b:=-1) (.inl rfl) (sd @Nat.zero_add) (by rw[iE,if_neg (by omega)])
 ·have h0:0<=eG l p:=by omega
  have hg:=fH (me h0).1
  rw[aj]at hb
  (repeat(first|((repeat(revert hN;revert N;apply Pn.out));refine wk (tw @aj.eq_1 (tw @hi (tw @h0 (tw @hg @aa.eq_1)))) ?_;(repeat(refine Pn.mk ?_;intro N hN)))|((try apply Or.inl);refine⟨_,ak.x (hb) (sd (tw @aj.eq_1 (tw @hi (tw @h0 (tw @hg @aa.eq_1))))),?_⟩;refine hN _ _ ?_;clear hN N)))
  exact bL (b:=(bc l (eG l p).toNat).aZ) (.inl rfl) (sd @Nat.zero_add) (by rw[iE,if_pos h0])
def gN (s:aq) (l:List ad):Prop:=jm l/\∀t∈l,fP s t.aZ=true
noncomputable def oQ (s:aq) (l:List ad):Bool:=nK l&&l.all fun t=>fP s t.aZ
theorem lD {s:aq} {l:List ad}:oQ s l=true↔gN s l:=by simp[oQ,gN,rC]
theorem pw:O6 aa (fun c=>.agg (aa c)) 3 true:=⟨fun _=>rfl,fun _=>rfl,fun x g=>by simp only[aa,ae,ai,aM,ay,Option.map_some]⟩
theorem FW (s:aq) (t:ad) (hs:s.ah.length<=1048576):ak Tryz.prog 202 [.agg (aa t),.cN (ab s)] (.bool (!fP s t.aZ)):=by
 refine ak.body eb rfl fun hl n0=>?_
 clear hl
 have h:=HX s t.aZ
 rw[ab]at h
 (repeat(first|((repeat(revert hN;revert N;apply Pn.out));refine wk (tw @aa.eq_1 @ab.eq_1) ?_;(repeat(refine Pn.mk ?_;intro N hN)))|((try apply Or.inl);refine⟨_,ak.x (h) (sd (tw @aa.eq_1 @ab.eq_1)),?_⟩;refine hN _ _ ?_;clear hN N)))
 exact aQ (b:= !fP s t.aZ) (.inl rfl) (sd @Nat.zero_add) rfl
theorem K8 (s:aq) (l:List ad) (hs:s.ah.length<=1048576) (hl:l.length<=1048576):ak Tryz.prog 201 [.sl (l.map aa),.fn 202 [.cN (ab s)]] (.bool (l.any fun t=> !fP s t.aZ)):=
 kc pw (show lx Tryz.prog 201=some (ym 201 247) by kernel_rfl)
  (show lx Tryz.prog 247=some (pH 247 3 true) by kernel_rfl) l hl _ _ _ rfl (fun g=>by rw[ae,aD,ai];rfl) (fun x _=>FW s x hs) fun g=>by rw[ae,aD,ai];rfl
theorem DK {α:Type} (p:α->Bool) (l:List α):(!l.any fun t=> !p t)=l.all p:=by
 induction l with
 |nil=>rfl
 |cons x l ih=>simp only[List.any_cons,List.all_cons,<-ih];cases p x<;>simp
theorem mH (s:aq) (l:List ad) (hn:fm s) (hg:s.au.length<=1048576) (ht:s.ah.length<=1048576) (hs:∀t∈s.ah,t.bB.length<=1048576) (hl:l.length<=1048576):ak Tryz.prog 131 [.agg (ab s),.agg [.sl (l.map aa)]] (.bool (pQ s&&oQ s l)):=by
 refine ak.body eb rfl fun hl n0=>?_
 clear hl
 have h1:=BV s hn hg ht hs
 have h2:=rF l
 have h3:=K8 s l ht hl
 rw[ab]at h1 h3
 cases b1:pQ s
 ·rw[b1]at h1
  (repeat(first|((repeat(revert hN;revert N;apply Pn.out));refine wk @ab.eq_1 ?_;(repeat(refine Pn.mk ?_;intro N hN)))|((try apply Or.inl);refine⟨_,ak.x (h1) (sd @ab.eq_1),?_⟩;refine hN _ _ ?_;clear hN N)))
  exact aQ (b:=false) (.inl rfl) (sd @Nat.zero_add) rfl
 rw[b1]at h1
 cases b2:nK l
 ·rw[b2]at h2
  (repeat(first|((repeat(revert hN;revert N;apply Pn.out));refine wk @ab.eq_1 ?_;(repeat(refine Pn.mk ?_;intro N hN)))|((try apply Or.inl);refine⟨_,ak.x (h1) (sd @ab.eq_1),?_⟩;refine hN _ _ ?_;clear hN N)|((try apply Or.inl);refine⟨_,ak.x (h2) (sd @ab.eq_1),?_⟩;refine hN _ _ ?_;clear hN N)))
  exact aQ (b:=false) (.inl rfl) (sd @Nat.zero_add) (by rw[oQ,b2];rfl)
 rw[b2]at h2
 (repeat(first|((repeat(revert hN;revert N;apply Pn.out));refine wk @ab.eq_1 ?_;(repeat(refine Pn.mk ?_;intro N hN)))|((try apply Or.inl);refine⟨_,ak.x (h1) (sd @ab.eq_1),?_⟩;refine hN _ _ ?_;clear hN N)|((try apply Or.inl);refine⟨_,ak.x (h2) (sd @ab.eq_1),?_⟩;refine hN _ _ ?_;clear hN N)|((try apply Or.inl);refine⟨_,ak.x (h3) (sd @ab.eq_1),?_⟩;refine hN _ _ ?_;clear hN N)))
 exact aQ (b:= !(l.any fun t=> !fP s t.aZ)) (.inl rfl) (sd @Nat.zero_add) (by rw[DK,oQ,b2];rfl)
theorem Em (s:aq) (l:List ad):ak Tryz.prog 146 [.cN (ab s),.cN [.sl (l.map aa)]] (.bool (oQ s l)):=by
 refine ak.body eb rfl fun hl n0=>?_
 have hlen:l.length<=9223372036854775807:=by
  have h1:=(hl (.cN [.sl (l.map aa)]) (by simp)).AE (a:=.sl (l.map aa)) (by simp)
  simpa using h1.len
 clear hl
 have h2:=FI l
 cases b2:nK l
 ·rw[b2]at h2
  (repeat(first|((repeat(revert hN;revert N;apply Pn.out));refine wk @Nat.zero_add ?_;(repeat(refine Pn.mk ?_;intro N hN)))|((try apply Or.inl);refine⟨_,ak.x (h2) (sd @Nat.zero_add),?_⟩;refine hN _ _ ?_;clear hN N)))
  exact aQ (b:=false) (.inl rfl) (sd @Nat.zero_add) (by rw[oQ,b2];rfl)
 rw[b2]at h2
 (repeat(first|((repeat(revert hN;revert N;apply Pn.out));refine wk @Nat.zero_add ?_;(repeat(refine Pn.mk ?_;intro N hN)))|((try apply Or.inl);refine⟨_,ak.x (h2) (sd @Nat.zero_add),?_⟩;refine hN _ _ ?_;clear hN N)))
 refine aY (fun n env st=>∃k:Nat,n=(l.length)-k/\k<=(l.length)/\env 5=.int .i64 (k:Int)/\(∀j:Nat,j<k->fP s (bc l j).aZ=true)) (l.length) ⟨0,by omega,by omega,sl @Nat.zero_add,fun _ h=>absurd h (Nat.not_lt_zero _)⟩ ?_
 rintro n_a env_a st_a ⟨k,rfl,ale,a5,lv⟩ dU
 have a0:=dU 0 (by kernel_rfl);have a1:=dU 1 (by kernel_rfl)
 simp only[go_sem, ↓reduceIte,Nat.reduceEqDiff,Nat.reduceAdd,Nat.reduceSub,Nat.reduceLeDiff,reduceCtorEq]at a0 a1
 clear dU
 by_cases hk:(k:Int)<(l.length:Int)
 ·have cK:∀{e:Env},(e 5=.int .i64 (IntKind.i64.wrap ((k:Int)+1)))->(fP s (bc l k).aZ=true)->∃m0,m0<(l.length)-k/\∃k:Nat,m0=(l.length)-k/\k<=(l.length)/\e 5=.int .i64 (k:Int)/\(∀j:Nat,j<k->fP s (bc l j).aZ=true):=fun x1 x2=>⟨_,by omega,k+1,rfl,by omega,(by rw[x1,ax (by omega)]),(all_succ lv x2)⟩
  have eU:k<l.length:=by omega
  have ea:=fH eU
  have ht:=CP s (bc l k).aZ
  cases b3:fP s (bc l k).aZ
  ·rw[b3]at ht
   (repeat(first|((repeat(revert hN;revert N;apply Pn.out));refine wk (tw @a5 (tw @a0 (tw @a1 (tw @hk (tw @ea @aa.eq_1))))) ?_;(repeat(refine Pn.mk ?_;intro N hN)))|((try apply Or.inl);refine⟨_,ak.x (ht) (sd (tw @a5 (tw @a0 (tw @a1 (tw @hk (tw @ea @aa.eq_1)))))),?_⟩;refine hN _ _ ?_;clear hN N)))
   exact aQ (b:=false) (.inl rfl) (sd @Nat.zero_add) (by
    have:l.all (fun t=>fP s t.aZ)=false:=List.all_eq_false.2 ⟨_,iy eU,by rw[b3];simp⟩
    rw[oQ,this,Bool.and_false])
  ·rw[b3]at ht
   (repeat(first|((repeat(revert hN;revert N;apply Pn.out));refine wk (tw @a5 (tw @a0 (tw @a1 (tw @hk (tw @ea @aa.eq_1))))) ?_;(repeat(refine Pn.mk ?_;intro N hN)))|((try apply Or.inl);refine⟨_,ak.x (ht) (sd (tw @a5 (tw @a0 (tw @a1 (tw @hk (tw @ea @aa.eq_1)))))),?_⟩;refine hN _ _ ?_;clear hN N)))
   exact cK (sd (tw @a5 (tw @a0 @a1))) (b3)
 ·(try((repeat(revert hN;revert N;apply Pn.out));refine wk (tw @a5 (tw @a0 (tw @a1 @hk))) ?_;(repeat(refine Pn.mk ?_;intro N hN))))
  exact aQ (b:=true) (.inl rfl) (sd @Nat.zero_add) (by
   have:l.all (fun t=>fP s t.aZ)=true:=List.all_eq_true.2 fun t ht=>by
    obtain⟨j,hj,rfl⟩:=List.getElem_of_mem ht
    have:=lv j (by omega)
    rwa [ee hj]at this
   rw[oQ,b2,this];rfl)
theorem wh (l:List ad) (hF:jm l) (i:Nat) (d:Int) (hi:i<l.length) (hd:iI d 0 3=true):ak Tryz.prog 189 [.cN [.sl (l.map aa)],.int .i64 i,.int .i64 d] (.int .i64 (eG l (dM (bc l i).aW d))):=by
 refine ak.body eb rfl fun hl n0=>?_
 clear hl
 have hg:=fH hi
 have hp:=yW (hF.pt hi)
 have h1:=xk (bc l i).aW d hd hp.1 hp.2
 have h2:=pK l (dM (bc l i).aW d) hF.zz (by have:=hF.sU;omega)
 rw[aj]at h1 h2
 (repeat(first|((repeat(revert hN;revert N;apply Pn.out));refine wk (tw @aa.eq_1 (tw @hg @aj.eq_1)) ?_;(repeat(refine Pn.mk ?_;intro N hN)))|((try apply Or.inl);refine⟨_,ak.x (h1) (sd (tw @aa.eq_1 (tw @hg @aj.eq_1))),?_⟩;refine hN _ _ ?_;clear hN N)|((try apply Or.inl);refine⟨_,ak.x (h2) (sd (tw @aa.eq_1 (tw @hg @aj.eq_1))),?_⟩;refine hN _ _ ?_;clear hN N)))
 exact bL (b:=eG l (dM (bc l i).aW d)) (.inl rfl) (sd @Nat.zero_add) rfl
end Go.Proofs.YtgoljkjaameagaaGreat.V
