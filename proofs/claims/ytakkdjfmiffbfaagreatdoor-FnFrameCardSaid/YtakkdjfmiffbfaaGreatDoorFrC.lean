/- The place of a point in an assembly, on both sides. -/
import Derived.Test.YtakkdjfmiffbfaaGreatDoorFrB
import Derived.Test.YtakkdjfmiffbfaaGreatDoorFrA
import Derived.Test.YtakkdjfmiffbfaaGreatDoorChecked
import Derived.Shelf.SlSortCmp.WholeK
import Derived.Shelf.SlSortCmp.NoneTotal
import Derived.Ground.SlsfProg
import Derived.Test.YtakkdjfmiffbfaaGreatDoorProg
import Derived.Maps.RangeRun
set_option linter.unusedVariables false
set_option linter.unusedSimpArgs false
set_option maxRecDepth 100000
set_option maxHeartbeats 16000000
namespace Go.Proofs.YtakkdjfmiffbfaaGreatDoor.V
open Go.RowKit
attribute [local irreducible] dL wpOps ez Call
attribute [local go_sem] ay ew dZ eE eC cY upd bJ K.av bZ AV.cells AV.cell rowOf rowsOf part ld rowAt eO bH bI cX dj eQ bq cF dx eA ed cQ dq cD cC dc de bu aE cm bt cr cq dn dr dp ck bz cE dm br aw cw bQ eP aZ bW bx aD cR aQ cZ AV.undef bd bj dh di c6 da bV dw dz bP du dt cu cz List.getD_cons_zero List.getD_cons_succ List.getD_nil List.all_cons List.all_nil Bool.and_true Bool.true_and Bool.and_self Bool.not_true Bool.not_false Option.map_some Option.map_none Option.bind_some Option.bind_none List.length_cons List.length_nil List.take_succ_cons List.take_zero List.take_nil List.drop_succ_cons List.drop_zero List.drop_nil List.head?_cons List.map_cons List.map_nil List.getElem?_cons_zero List.getElem?_cons_succ List.cons_append List.nil_append List.append_nil List.length_map List.set_cons_zero List.set_cons_succ Nat.reduceMul eq_self Int.toNat_natCast Int.natCast_nonneg and_self true_and and_true decide_true decide_false Bool.false_eq_true Nat.zero_add Nat.add_zero List.contains_cons List.contains_nil Bool.or_false Bool.false_or beq_self_eq_true Nat.reduceBEq ne_eq not_true_eq_false not_false_eq_true Id.mk.injEq false_and and_false Nat.reduceLT Int.reduceLE Int.reduceLT Int.reduceToNat Int.reduceNeg Int.reduceAdd Nat.le_refl List.length_append beq_true beq_false Bool.not_eq_eq_eq_not or_false false_or dW ad ae aL aI bf bR az bc aA aJ cj bh
theorem Gq (cells:List aa) (p:af) (hR:nq cells) (UT:cells.length<=1048576):
  aP Tryz.prog 217 [.sl (cells.map ai),.agg (aj p),.fn 218 []] (.fK [.int .i64 (sD cells p),.bool (decide (sD cells p<cells.length)&&decide ((cP cells (sD cells p)).cG=p))]):=by
 refine aP.body fH rfl fun hl n0=>?_
 clear hl
 (try((repeat(revert hN;revert N;apply Pn.out));refine wk @aj.eq_1 ?_;(repeat(refine Pn.mk ?_;intro N hN))))
 refine cU (fun n env st=>∃i j:Nat,n=j-i/\i<=j/\j<=cells.length/\(∀x,x<i->kR (cP cells x).cG p=true)/\(∀x,j<=x->x<cells.length->kR (cP cells x).cG p=false)/\env 9=.int .i64 i/\env 10=.int .i64 j/\st.get ⟨217000000,n0⟩=some ⟨true,2,[aj p]⟩) cells.length ⟨0,cells.length,ab,ab,ab,fun x h=>ab,fun x h1 h2=>ab,by(simp only[go_sem, ↓reduceIte,Nat.reduceEqDiff,Nat.reduceAdd,Nat.reduceSub,Nat.reduceLeDiff,reduceCtorEq])<;>rfl,sd @Nat.zero_add,sd @aj.eq_1⟩ ?_
 rintro n env st ⟨i,j,rfl,Ab,hj,lx,GW,h9,GP,hg⟩ fr
 have h0:=fr 0 (by kernel_rfl)
 have h2:=fr 2 (by kernel_rfl)
 have h4:=fr 4 (by kernel_rfl)
 have h8:=fr 8 (by kernel_rfl)
 simp only[go_sem, ↓reduceIte,Nat.reduceEqDiff,Nat.reduceAdd,Nat.reduceSub,Nat.reduceLeDiff,reduceCtorEq]at h0 h2 h4 h8
 clear fr
 by_cases eR:(i:Int)<(j:Int)
 ·have e1:IntKind.i64.wrap ((i:Int)+j)=((i+j:Nat):Int):=by rw[dy ab];rfl
  have hm:(i+j) / 2<cells.length:=ab
  have jl:(cells.map ai)[(i+j) / 2]? =some (ai (cP cells ((i+j) / 2))):=jn (l:=cells) hm
  have e2:IntKind.i64.wrap ((IntKind.u64.wrap ((i+j:Nat):Int)).fdiv (2 ^ min 1 IntKind.u64.bits))=(((i+j) / 2:Nat):Int):=by
   have h:IntKind.u64.wrap ((i+j:Nat):Int)=((i+j:Nat):Int):=by rw[IntKind.wrap_u64];omega
   rw[h,show min 1 IntKind.u64.bits=1 from rfl,show((2:Int) ^ 1)=2 from rfl,Int.fdiv_eq_ediv_of_nonneg _ ab]
   rw[dy ab];omega
  have Sg:IntKind.i64.wrap ((IntKind.u64.wrap ((i+j:Nat):Int)).fdiv (2 ^ min 1 64))=(((i+j) / 2:Nat):Int):=e2
  have e3:=cI (k:=(i+j) / 2) ab
  by_cases hc:n9 (cP cells ((i+j) / 2)).cG p<0
  ·have hl:kR (cP cells ((i+j) / 2)).cG p=true:=by rw[<-kX];simpa using hc
   (repeat(first|((repeat(revert hN;revert N;apply Pn.out));refine wk (tw @h0 (tw @h2 (tw @h4 (tw @h8 (tw @h9 (tw @GP (tw @hg (tw @eR (tw @e1 (tw @e2 (tw @Sg (tw @jl (tw @hc (tw @ai.eq_1 @aj.eq_1)))))))))))))) ?_;(repeat(refine Pn.mk ?_;intro N hN)))|((try apply Or.inl);refine⟨_,aP.x (jZ (cP cells ((i+j) / 2)) p) (sd (tw @h0 (tw @h2 (tw @h4 (tw @h8 (tw @h9 (tw @GP (tw @hg (tw @eR (tw @e1 (tw @e2 (tw @Sg (tw @jl (tw @hc (tw @ai.eq_1 @aj.eq_1))))))))))))))),?_⟩;refine hN _ _ ?_;clear hN N)))
   refine⟨_,?_,(i+j) / 2+1,j,rfl,ab,hj,fun x hx=>?_,GW,sd @e3,sd @GP,sd (tw @hg @aj.eq_1)⟩
   ·omega
   ·by_cases LK:x=(i+j) / 2
    ·subst LK;exact hl
    ·exact iu (hR x _ ab hm) hl
  ·have hl:kR (cP cells ((i+j) / 2)).cG p=false:=by rw[<-kX];simpa using hc
   (repeat(first|((repeat(revert hN;revert N;apply Pn.out));refine wk (tw @h0 (tw @h2 (tw @h4 (tw @h8 (tw @h9 (tw @GP (tw @hg (tw @eR (tw @e1 (tw @e2 (tw @Sg (tw @jl (tw @hc (tw @ai.eq_1 @aj.eq_1)))))))))))))) ?_;(repeat(refine Pn.mk ?_;intro N hN)))|((try apply Or.inl);refine⟨_,aP.x (jZ (cP cells ((i+j) / 2)) p) (sd (tw @h0 (tw @h2 (tw @h4 (tw @h8 (tw @h9 (tw @GP (tw @hg (tw @eR (tw @e1 (tw @e2 (tw @Sg (tw @jl (tw @hc (tw @ai.eq_1 @aj.eq_1))))))))))))))),?_⟩;refine hN _ _ ?_;clear hN N)))
   refine⟨_,?_,i,(i+j) / 2,rfl,ab,ab,lx,fun x h1 h2=>?_,sd @h9,sd (tw @e2 @Sg),sd (tw @hg @aj.eq_1)⟩
   ·omega
   ·by_cases LK:x=(i+j) / 2
    ·subst LK;exact hl
    ·rw[Bool.eq_false_iff]
     intro hc
     have h3:=iu (hR ((i+j) / 2) x ab h2) hc
     rw[hl]at h3;cases h3
 ·have WQ:i=j:=ab
  subst WQ
  have Tg:sD cells p=i:=FT hj lx fun h=>GW i (Nat.le_refl _) h
  by_cases hn:(i:Int)<(cells.length:Int)
  ·have iO:i<cells.length:=ab
   have jl:(cells.map ai)[i]? =some (ai (cP cells i)):=jn (l:=cells) iO
   have hd:decide (n9 (cP cells i).cG p=0)=decide ((cP cells i).cG=p):=by simp only[Gu]
   (repeat(first|((repeat(revert hN;revert N;apply Pn.out));refine wk (tw @h0 (tw @h2 (tw @h4 (tw @h8 (tw @h9 (tw @GP (tw @hg (tw @eR (tw @hn (tw @jl (tw @ai.eq_1 @aj.eq_1))))))))))) ?_;(repeat(refine Pn.mk ?_;intro N hN)))|((try apply Or.inl);refine⟨_,aP.x (jZ (cP cells i) p) (sd (tw @h0 (tw @h2 (tw @h4 (tw @h8 (tw @h9 (tw @GP (tw @hg (tw @eR (tw @hn (tw @jl (tw @ai.eq_1 @aj.eq_1)))))))))))),?_⟩;refine hN _ _ ?_;clear hN N)))
   refine l8 (.inl rfl) (r1:=.int .i64 i) (r2:=.bool (decide ((cP cells i).cG=p))) ?_ ?_ ?_
   ·simp only[go_sem, ↓reduceIte,Nat.reduceEqDiff,Nat.reduceAdd,Nat.reduceSub,Nat.reduceLeDiff,reduceCtorEq]
   ·simp only[go_sem, ↓reduceIte,Nat.reduceEqDiff,Nat.reduceAdd,Nat.reduceSub,Nat.reduceLeDiff,reduceCtorEq,hd]
   ·simp only[gp,cV,dH,eW,iI,Option.map_some,Tg,iO,decide_true,Bool.true_and]
  ·have iO:¬i<cells.length:=ab
   (try((repeat(revert hN;revert N;apply Pn.out));refine wk (tw @h0 (tw @h2 (tw @h4 (tw @h8 (tw @h9 (tw @GP (tw @hg (tw @eR (tw @hn (tw @ai.eq_1 @aj.eq_1)))))))))) ?_;(repeat(refine Pn.mk ?_;intro N hN))))
   refine l8 (.inl rfl) (r1:=.int .i64 i) (r2:=.bool false) ?_ ?_ ?_
   ·simp only[go_sem, ↓reduceIte,Nat.reduceEqDiff,Nat.reduceAdd,Nat.reduceSub,Nat.reduceLeDiff,reduceCtorEq]
   ·simp only[go_sem, ↓reduceIte,Nat.reduceEqDiff,Nat.reduceAdd,Nat.reduceSub,Nat.reduceLeDiff,reduceCtorEq]
   ·simp only[gp,cV,dH,eW,iI,Option.map_some,Tg,iO,decide_false,Bool.false_and]
theorem Hy (l:List aa) (p:af) (hR:nq l) (UT:l.length<=1048576):aP Tryz.prog 195 [.agg [.sl (l.map ai)],.agg (aj p)] (.int .i64 (eF l p)):=by
 refine aP.body fH rfl fun hl n0=>?_
 clear hl
 rw[M8 hR]
 have hb:=Gq l p hR UT
 rw[aj]at hb
 cases hf:(decide (sD l p<l.length)&&decide ((cP l (sD l p)).cG=p))
 ·rw[hf]at hb
  (repeat(first|((repeat(revert hN;revert N;apply Pn.out));refine wk @aj.eq_1 ?_;(repeat(refine Pn.mk ?_;intro N hN)))|((try apply Or.inl);refine⟨_,aP.x (hb) (sd @aj.eq_1),?_⟩;refine hN _ _ ?_;clear hN N)))
  exact fx (b:=-1) (.inl rfl) (sd @Nat.zero_add) (by rw[if_neg];intro h;simp[h.1,h.2]at hf)
 ·rw[hf]at hb
  (repeat(first|((repeat(revert hN;revert N;apply Pn.out));refine wk @aj.eq_1 ?_;(repeat(refine Pn.mk ?_;intro N hN)))|((try apply Or.inl);refine⟨_,aP.x (hb) (sd @aj.eq_1),?_⟩;refine hN _ _ ?_;clear hN N)))
  exact fx (b:=(sD l p:Int)) (.inl rfl) (sd @Nat.zero_add) (by rw[if_pos];simpa using hf)
def ju (s:aH) (l:List aa):Prop:=lJ l/\∀t∈l,ef s t.cL=true
noncomputable def A6 (s:aH) (l:List aa):Bool:=pE l&&l.all fun t=>ef s t.cL
theorem uT {s:aH} {l:List aa}:A6 s l=true↔ju s l:=by simp[A6,ju,sb]
theorem Ds:RV ai (fun c=>.agg (ai c)) 3 true:=⟨fun _=>rfl,fun _=>rfl,fun x g=>by simp only[ai,ad,ae,bc,aL,Option.map_some]⟩
theorem Ht (s:aH) (t:aa) (hs:s.ah.length<=1048576):aP Tryz.prog 123 [.agg (ai t),.eT (ao s)] (.bool (!ef s t.cL)):=by
 refine aP.body fH rfl fun hl n0=>?_
 clear hl
 have h:=J5 s t.cL
 rw[ao]at h
 (repeat(first|((repeat(revert hN;revert N;apply Pn.out));refine wk (tw @ai.eq_1 @ao.eq_1) ?_;(repeat(refine Pn.mk ?_;intro N hN)))|((try apply Or.inl);refine⟨_,aP.x (h) (sd (tw @ai.eq_1 @ao.eq_1)),?_⟩;refine hN _ _ ?_;clear hN N)))
 exact dU (b:= !ef s t.cL) (.inl rfl) (sd @Nat.zero_add) rfl
theorem NK (s:aH) (l:List aa) (hs:s.ah.length<=1048576) (hl:l.length<=1048576):aP Tryz.prog 122 [.sl (l.map ai),.fn 123 [.eT (ao s)]] (.bool (l.any fun t=> !ef s t.cL)):=
 ki Ds (show Bh Tryz.prog 122=some (z6 122 162) by kernel_rfl)
  (show Bh Tryz.prog 162=some (sw 162 3 true) by kernel_rfl) l hl _ _ _ rfl (fun g=>by rw[ad,aA,ae];rfl) (fun x _=>Ht s x hs) fun g=>by rw[ad,aA,ae];rfl
theorem LY {α:Type} (p:α->Bool) (l:List α):(!l.any fun t=> !p t)=l.all p:=by
 induction l with
 |nil=>rfl
 |cons x l ih=>simp only[List.any_cons,List.all_cons,<-ih];cases p x<;>simp
theorem tO (s:aH) (l:List aa) (hn:mm s) (hg:s.bU.length<=1048576) (ht:s.ah.length<=1048576) (hs:∀t∈s.ah,t.dM.length<=1048576) (hl:l.length<=1048576):aP Tryz.prog 93 [.agg (ao s),.agg [.sl (l.map ai)]] (.bool (uc s&&A6 s l)):=by
 refine aP.body fH rfl fun hl n0=>?_
 clear hl
 have h1:=uQ s hn hg ht hs
 have h2:=yz l
 have h3:=NK s l ht hl
 rw[ao]at h1 h3
 cases b1:uc s
 ·rw[b1]at h1
  (repeat(first|((repeat(revert hN;revert N;apply Pn.out));refine wk @ao.eq_1 ?_;(repeat(refine Pn.mk ?_;intro N hN)))|((try apply Or.inl);refine⟨_,aP.x (h1) (sd @ao.eq_1),?_⟩;refine hN _ _ ?_;clear hN N)))
  exact dU (b:=false) (.inl rfl) (sd @Nat.zero_add) rfl
 rw[b1]at h1
 cases b2:pE l
 ·rw[b2]at h2
  (repeat(first|((repeat(revert hN;revert N;apply Pn.out));refine wk @ao.eq_1 ?_;(repeat(refine Pn.mk ?_;intro N hN)))|((try apply Or.inl);refine⟨_,aP.x (h1) (sd @ao.eq_1),?_⟩;refine hN _ _ ?_;clear hN N)|((try apply Or.inl);refine⟨_,aP.x (h2) (sd @ao.eq_1),?_⟩;refine hN _ _ ?_;clear hN N)))
  exact dU (b:=false) (.inl rfl) (sd @Nat.zero_add) (by rw[A6,b2];rfl)
 rw[b2]at h2
 (repeat(first|((repeat(revert hN;revert N;apply Pn.out));refine wk @ao.eq_1 ?_;(repeat(refine Pn.mk ?_;intro N hN)))|((try apply Or.inl);refine⟨_,aP.x (h1) (sd @ao.eq_1),?_⟩;refine hN _ _ ?_;clear hN N)|((try apply Or.inl);refine⟨_,aP.x (h2) (sd @ao.eq_1),?_⟩;refine hN _ _ ?_;clear hN N)|((try apply Or.inl);refine⟨_,aP.x (h3) (sd @ao.eq_1),?_⟩;refine hN _ _ ?_;clear hN N)))
 exact dU (b:= !(l.any fun t=> !ef s t.cL)) (.inl rfl) (sd @Nat.zero_add) (by rw[LY,A6,b2];rfl)
end Go.Proofs.YtakkdjfmiffbfaaGreatDoor.V

namespace Go.Proofs.YtakkdjfmiffbfaaGreatDoor.V
open Go.RowKit
variable {P:Program} {X:fU} {K:Env->aq->Prop} {env:Env} {σ:aq}
end Go.Proofs.YtakkdjfmiffbfaaGreatDoor.V

namespace Go.Proofs.YtakkdjfmiffbfaaGreatDoor.V
open Go.RowKit
section
variable {α:Type} {enc:α->List AV} {sz:Nat} {g g':Rows} {a:AV} {xs:List α} {ids:List Id}
end
abbrev Rs (α:Type):=Rows->List AV->α->List Id->Prop
structure OY {α:Type} (R:Rs α) (sz:Nat):Prop where
 frame:∀{g g':Rows} {cs x ids},R g cs x ids->(∀i∈ids,g' i=g i)->R g' cs x ids
 len:∀{g cs x ids},R g cs x ids->cs.length=sz
 cell:∀{g cs x ids},R g cs x ids->cs.all AV.cell=true
 live:∀{g cs x ids},R g cs x ids->∀i∈ids,∃r,g i=some r/\r.w=true/\r.sz<Kk
 small:sz<Kk
inductive gK {α:Type} (R:Rs α) (g:Rows):List (List AV)->List α->List Id->Prop
 |nil:gK R g [] [] []
 |cons {cs x i1 rs xs i2}:R g cs x i1->gK R g rs xs i2->gK R g (cs::rs) (x::xs) (i1++i2)
section
variable {α:Type} {R:Rs α} {sz:Nat} {g g':Rows} {rows r1 r2:List (List AV)} {xs x1 x2:List α} {ids i1 i2:List Id}
theorem gK.len (h:gK R g rows xs ids):rows.length=xs.length:=by
 induction h with
 |nil=>rfl
 |cons _ _ ih=>simp[ih]
theorem gK.frame (ok:OY R sz) (h:gK R g rows xs ids) (hf:∀i∈ids,g' i=g i):gK R g' rows xs ids:=by
 induction h with
 |nil=>exact .nil
 |cons h1 _ ih=>exact .cons (ok.frame h1 fun i hi=>hf i (List.mem_append_left _ hi)) (ih fun i hi=>hf i (List.mem_append_right _ hi))
theorem gK.app (h1:gK R g r1 x1 i1) (h2:gK R g r2 x2 i2):gK R g (r1++r2) (x1++x2) (i1++i2):=by
 induction h1 with
 |nil=>exact h2
 |cons h _ ih=>rw[List.append_assoc];exact .cons h ih
theorem gK.one {cs:List AV} {x:α} (h:R g cs x ids):gK R g [cs] [x] ids:=by
 have:=gK.cons h gK.nil
 rwa [List.append_nil]at this
theorem gK.split (h:gK R g rows xs ids):∀k (hk:k<xs.length),∃r1 cs r2 i1 ic i2,rows=r1++cs::r2/\r1.length=k/\ids=i1++(ic++i2)/\gK R g r1 (xs.take k) i1/\R g cs xs[k] ic/\gK R g r2 (xs.drop (k+1)) i2:=by
 induction h with
 |nil=>intro k hk;simp at hk
 |cons h1 h2 ih=>
  rename_i cs x j1 rs xs j2
  intro k hk
  cases k with
  |zero=>exact⟨[],cs,rs,[],j1,j2,rfl,rfl,rfl,.nil,h1,h2⟩
  |succ k=>
   obtain⟨r1,mA,r2,i1,ic,i2,rfl,hl,rfl,h3,h4,h5⟩:=ih k (by simpa using hk)
   exact⟨cs::r1,mA,r2,j1++i1,ic,i2,rfl,by simp[hl],by rw[List.append_assoc],.cons h1 h3,h4,h5⟩
end
section
variable {α:Type} {R:Rs α} {sz:Nat} {g g':Rows} {a:AV} {xs:List α} {ids:List Id}
end
variable {P:Program} {X:fU} {K:Env->aq->Prop} {env:Env} {σ:aq}
section
variable {α:Type} {enc:α->List AV} {sz:Nat} {x:AV} {g g':Rows} {S:Id->Prop} {L L':List α}
end
theorem dD {a b:Id} (h:a.cW<b.cW):(a=b)=False/\(b=a)=False:=by
 constructor<;>(simp only[eq_iff_iff,iff_false];rintro rfl;omega)
theorem F2 {o:Id} {a:Nat} (h:o.site=a) {b v:Nat} (qQ:(a==b)=false):(o=⟨b,v⟩)=False:=by
 simp only[eq_iff_iff,iff_false]
 rintro rfl
 simp only at h
 subst h
 simp at qQ
def eN (n:Nat):List AV:=[.int .i64 n]
theorem Su (g:Rows) (n:Nat) (a:Nat):fa g (n+1) (eN a)=some (eN a):=by simp[eN,cV,dH,eW]
def VP:Rs (List Nat):=fun g cs x ids=>∃id,cs=[.own id 0 x.length]/\g id=some ⟨true,1,x.map eN⟩/\ids=[id]
theorem TI:OY VP 1 where
 frame:=fun⟨id,h1,h2,h3⟩ hf=>by subst h3;exact⟨id,h1,(hf id (by simp)).trans h2,rfl⟩
 len:=fun⟨id,h1,_⟩=>by subst h1;rfl
 cell:=fun⟨id,h1,_⟩=>by subst h1;rfl
 live:=fun⟨id,h1,h2,h3⟩ i hi=>by
  subst h3
  have:i=id:=by simpa using hi
  subst this
  exact⟨_,h2,rfl,by simp[Kk]⟩
 small:=by simp[Kk]
def I9 (l:List Nat):List AV:=[.sl (l.map eN)]
theorem QL {g:Rows} {rows:List (List AV)} {xs:List (List Nat)} {ids:List Id} (n:Nat) (h:gK VP g rows xs ids):gn g (n+2) rows=some (xs.map I9):=by
 induction h with
 |nil=>rw[gn];rfl
 |cons h1 _ ih=>
  obtain⟨id,rfl,h2,_⟩:=h1
  rw[gn,ih,cV,dH,fN (e:=eN) (sz:=1) h2 rfl fun a=>Su g n a];rfl
end Go.Proofs.YtakkdjfmiffbfaaGreatDoor.V

namespace Go.Proofs.YtakkdjfmiffbfaaGreatDoor.V
def bi (b:Bool):Int:=if b then 1 else 0
def oL (f:Nat->Int):Nat->Int
 |0=>0
 |n+1=>oL f n+f n
theorem jI {f g:Nat->Int}:∀{n:Nat},(∀i,i<n->f i=g i)->oL f n=oL g n
 |0,_=>rfl
 |n+1,h=>by
  simp only[oL]
  rw[jI fun i hi=>h i ab,h n ab]
theorem AH {f g:Nat->Int}:∀{n:Nat},(∀i,i<n->f i<=g i)->oL f n<=oL g n
 |0,_=>Int.le_refl _
 |n+1,h=>by
  simp only[oL]
  have:=AH (n:=n) fun i hi=>h i ab
  have:=h n ab
  omega
theorem me:∀{n:Nat} {f:Nat->Int},(∀i,i<n->f i=0)->oL f n=0
 |0,_,_=>rfl
 |n+1,f,h=>by
  simp only[oL]
  rw[me fun i hi=>h i ab,h n ab];rfl
theorem sS {f:Nat->Int} {a:Nat} {d:Int}:∀n,oL (fun i=>f i+if i=a then d else 0) n=oL f n+if a<n then d else 0
 |0=>by simp[oL]
 |n+1=>by
  simp only[oL]
  rw[sS n]
  by_cases h:n=a
  ·subst h;simp;omega
  ·rw[if_neg h]
   by_cases h2:a<n
   ·rw[if_pos h2,if_pos ab];omega
   ·rw[if_neg h2,if_neg ab];omega
def lO (n:Nat) (S:Nat->Bool) (f:Nat->Nat->Int):Int:=oL (fun u=>oL (fun v=>if S u&& !S v then f u v else 0) n) n
def bump (f:Nat->Nat->Int) (a b:Nat) (d:Int):Nat->Nat->Int:=fun u v=>f u v+if u=a/\v=b then d else 0
theorem oZ {n:Nat} {S:Nat->Bool} {f:Nat->Nat->Int} {a b:Nat} {d:Int} (ha:a<n) (hb:b<n):lO n S (bump f a b d)=lO n S f+if S a&& !S b then d else 0:=by
 unfold lO
 have h1:∀u,u<n->oL (fun v=>if S u&& !S v then bump f a b d u v else 0) n=oL (fun v=>if S u&& !S v then f u v else 0) n+if u=a then(if S a&& !S b then d else 0)else 0:=by
  intro u hu
  by_cases h:u=a
  ·subst h
   have h2:∀v,v<n->(if S u&& !S v then bump f u b d u v else 0)=(fun v=>if S u&& !S v then f u v else 0) v+if v=b then(if S u&& !S b then d else 0)else 0:=by
    intro v hv
    unfold bump
    by_cases h3:v=b
    ·subst h3;simp only[and_self,if_true];split<;>omega
    ·simp only[h3,and_false,if_false];split<;>omega
   rw[jI h2,sS,if_pos hb,if_pos rfl]
  ·rw[if_neg h,Int.add_zero]
   refine jI fun v hv=>?_
   unfold bump
   simp[h]
 rw[jI h1,sS,if_pos ha]
theorem Md {n:Nat} {S:Nat->Bool} {f c:Nat->Nat->Int} (h:∀u v,u<n->v<n->f u v<=c u v):lO n S f<=lO n S c:=
 AH fun u hu=>AH fun v hv=>by split;exact h u v hu hv;exact Int.le_refl _
theorem Mc {n:Nat} {S:Nat->Bool} {f c:Nat->Nat->Int} (h:∀u v,u<n->v<n->S u=true->S v=false->f u v=c u v):lO n S f=lO n S c:=
 jI fun u hu=>jI fun v hv=>by
  split
  ·rename_i hc
   simp only[Bool.and_eq_true,Bool.not_eq_true']at hc
   exact h u v hu hv hc.1 hc.2
  ·rfl
def j8 (f:Nat->Nat->Int) (a b:Nat):Nat->Nat->Int:=bump (bump f a b 1) b a (-1)
theorem Gy {n:Nat} {S:Nat->Bool} {f:Nat->Nat->Int} {a b:Nat} (ha:a<n) (hb:b<n):lO n S (j8 f a b)=lO n S f+bi (S a)-bi (S b):=by
 unfold j8
 rw[oZ hb ha,oZ ha hb]
 cases S a<;>cases S b<;>simp[bi]<;>omega
def lK (f:Nat->Nat->Int):List Nat->Nat->Nat->Int
 |a::b::r=>lK (j8 f a b) (b::r)
 |_=>f
def qv (f c:Nat->Nat->Int):List Nat->Prop
 |a::b::r=>f a b<c a b/\qv f c (b::r)
 |_=>True
theorem A9 {n:Nat} {S:Nat->Bool}:∀(r:List Nat) (a:Nat) (f:Nat->Nat->Int),(∀x∈a::r,x<n)->lO n S (lK f (a::r))=lO n S f+bi (S a)-bi (S ((a::r).getLast (by simp)))
 |[],a,f,_=>by simp[lK]
 |b::r,a,f,h=>by
  rw[lK,A9 r b (j8 f a b) fun x hx=>h x (List.mem_cons_of_mem _ hx),Gy (h a (by simp)) (h b (by simp)),List.getLast_cons_cons]
  generalize bi (S b)=q
  omega
theorem qv.less {f g c:Nat->Nat->Int}:∀{p:List Nat},qv f c p->(∀u,u∈p->∀v,g u v<=f u v)->qv g c p
 |[],_,_=>trivial
 |[_],_,_=>trivial
 |a::b::r,h,hl=>⟨Int.lt_of_le_of_lt (hl a (by simp) b) h.1,qv.less (p:=b::r) h.2 fun u hu=>hl u (List.mem_cons_of_mem _ hu)⟩
theorem E8 {n:Nat} {c:Nat->Nat->Int}:∀(p:List Nat) (f:Nat->Nat->Int),p.Nodup->qv f c p->(∀u v,u<n->v<n->f u v<=c u v)->∀u v,u<n->v<n->lK f p u v<=c u v
 |[],f,_,_,h=>h
 |[_],f,_,_,h=>h
 |a::b::r,f,hn,hr,h=>by
  rw[lK]
  have qQ:a∉b::r:=(List.nodup_cons.1 hn).1
  refine E8 (b::r) _ (List.nodup_cons.1 hn).2 (hr.2.less fun u hu v=>?_) fun u v hu hv=>?_
  ·unfold j8 bump
   have:u≠a:=by rintro rfl;exact qQ hu
   simp only[this,false_and,if_false]
   split<;>omega
  ·have h0:=h u v hu hv
   have h1:=hr.1
   unfold j8 bump
   by_cases e:u=a/\v=b
   ·obtain⟨rfl,rfl⟩:=e
    rw[if_pos ⟨rfl,rfl⟩];split<;>omega
   ·rw[if_neg e];split<;>omega
structure mU (n:Nat) (c f:Nat->Nat->Int) (x y:Nat) (val:Int):Prop where
 le:∀u v,u<n->v<n->f u v<=c u v
 cut:∀S:Nat->Bool,S x=true->S y=false->lO n S f=val
theorem mU.zero {n:Nat} {c:Nat->Nat->Int} {x y:Nat} (h:∀u v,u<n->v<n->0<=c u v):mU n c (fun _ _=>0) x y 0:=
 ⟨h,fun S _ _=>me fun u hu=>me fun v hv=>by split<;>rfl⟩
theorem mU.aug {n:Nat} {c f:Nat->Nat->Int} {x y:Nat} {val:Int} (h:mU n c f x y val) {r:List Nat} (hl:(x::r).getLast (by simp)=y) (hn:(x::r).Nodup) (hr:qv f c (x::r)) (hb:∀v∈x::r,v<n):mU n c (lK f (x::r)) x y (val+1):=
 ⟨E8 _ _ hn hr h.le,fun S hx hy=>by rw[A9 r x f hb,hl,h.cut S hx hy,hx,hy];simp[bi]⟩
theorem mU.bound {n:Nat} {c f:Nat->Nat->Int} {x y:Nat} {val:Int} (h:mU n c f x y val) {S:Nat->Bool} (hx:S x=true) (hy:S y=false):val<=lO n S c:=by
 rw[<-h.cut S hx hy];exact Md h.le
theorem mU.full {n:Nat} {c f:Nat->Nat->Int} {x y:Nat} {val:Int} (h:mU n c f x y val) {S:Nat->Bool} (hx:S x=true) (hy:S y=false) (hS:∀u v,u<n->v<n->S u=true->S v=false->¬f u v<c u v):val=lO n S c:=by
 rw[<-h.cut S hx hy]
 exact Mc fun u v hu hv h1 h2=>by have:=hS u v hu hv h1 h2;have:=h.le u v hu hv;omega
structure PB where
 a:Nat
 b:Nat
 s:Int
 deriving Inhabited
def Dq (S:Nat->Bool) (bs:List PB):Int:=(bs.map fun b=>if S b.a=S b.b then 0 else b.s).sum
def nu (c:Nat->Nat->Int) (b:PB):Nat->Nat->Int:=bump (bump c b.a b.b b.s) b.b b.a b.s
def kK (bs:List PB):Nat->Nat->Int:=bs.foldl nu fun _ _=>0
theorem Ez (bs:List PB) (b:PB):kK (bs++[b])=nu (kK bs) b:=by simp[kK]
theorem Bp {n:Nat} {S:Nat->Bool}:∀(bs:List PB) (c:Nat->Nat->Int),(∀b∈bs,b.a<n/\b.b<n)->lO n S (bs.foldl nu c)=lO n S c+Dq S bs
 |[],c,_=>by simp[Dq]
 |b::bs,c,h=>by
  have hb:=h b (by simp)
  rw[List.foldl_cons,Bp bs _ fun x hx=>h x (List.mem_cons_of_mem _ hx)]
  unfold nu Dq
  rw[oZ hb.2 hb.1,oZ hb.1 hb.2,List.map_cons,List.sum_cons]
  cases S b.a<;>cases S b.b<;>simp<;>omega
theorem Br {n:Nat} {S:Nat->Bool} {bs:List PB} (h:∀b∈bs,b.a<n/\b.b<n):lO n S (kK bs)=Dq S bs:=by
 rw[kK,Bp bs _ h]
 have:lO n S (fun _ _=>0)=0:=me fun u hu=>me fun v hv=>by split<;>rfl
 omega
theorem AA:∀(bs:List PB) (c:Nat->Nat->Int),(∀b∈bs,0<=b.s)->(∀u v,0<=c u v)->∀u v,0<=bs.foldl nu c u v
 |[],c,_,h=>h
 |b::bs,c,hb,h=>by
  rw[List.foldl_cons]
  refine AA bs _ (fun x hx=>hb x (List.mem_cons_of_mem _ hx)) fun u v=>?_
  have:=hb b (by simp);have:=h u v
  unfold nu bump
  split<;>split<;>omega
theorem room_le:∀(bs:List PB) (c:Nat->Nat->Int) (m:Int),(∀b∈bs,b.s<=4)->(∀u v,c u v<=m)->0<=m->∀u v,bs.foldl nu c u v<=m+8*bs.length
 |[],c,m,_,h,_=>fun u v=>by have:=h u v;simp;omega
 |b::bs,c,m,hb,h,h0=>fun u v=>by
  rw[List.foldl_cons]
  have:=room_le bs (nu c b) (m+8) (fun x hx=>hb x (List.mem_cons_of_mem _ hx)) (fun u v=>by
   have:=hb b (by simp);have:=h u v
   unfold nu bump
   split<;>split<;>omega) ab u v
  simp only[List.length_cons];omega
def r5 (n:Nat) (bs:List PB) (t:Int):Prop:=∀S:Nat->Bool,S 0=true->(∃y,y<n/\S y=false)->t<=Dq S bs
theorem rn:∀(n:Nat) (l:List Nat),l.Nodup->(∀x∈l,x<n)->l.length<=n
 |0,l,_,h=>by
  cases l with
  |nil=>simp
  |cons x l=>exact absurd (h x (by simp)) ab
 |n+1,l,hn,h=>by
  have h1:=rn n (l.erase n) (hn.erase _) fun x hx=>by
   have h2:=(hn.mem_erase_iff).1 hx
   have h3:=h x h2.2
   have h4:=h2.1
   omega
  rw[List.length_erase]at h1
  split at h1<;>omega
def jm (L:Nat->Nat) (b:PB):Nat->Nat:=fun k=>if L k=max (L b.a) (L b.b)then min (L b.a) (L b.b)else L k
def fI (bs:List PB):Nat->Nat:=bs.foldl jm id
theorem D9 (bs:List PB) (b:PB):fI (bs++[b])=jm (fI bs) b:=by simp[fI]
structure jM (L:Nat->Nat):Prop where
 le:∀k,L k<=k
 idem:∀k,L (L k)=L k
theorem jM.step {L:Nat->Nat} (h:jM L) (b:PB):jM (jm L b):=by
 have ha:=h.idem b.a
 have hb:=h.idem b.b
 refine⟨fun k=>?_,fun k=>?_⟩
 ·have:=h.le k
  unfold jm
  split<;>omega
 ·have hk:=h.idem k
  have hm:L (min (L b.a) (L b.b))=min (L b.a) (L b.b):=by
   rcases Nat.le_total (L b.a) (L b.b)with h1|h1
   ·rw[Nat.min_eq_left h1,ha]
   ·rw[Nat.min_eq_right h1,hb]
  unfold jm
  by_cases h1:L k=max (L b.a) (L b.b)
  ·rw[if_pos h1,hm];split<;>rfl
  ·rw[if_neg h1,hk,if_neg h1]
theorem wg:∀(bs:List PB) (L:Nat->Nat),jM L->jM (bs.foldl jm L)
 |[],_,h=>h
 |b::bs,L,h=>wg bs _ (h.step b)
theorem Cd (bs:List PB):jM (fI bs):=wg bs id ⟨fun _=>Nat.le_refl _,fun _=>rfl⟩
def leads (n:Nat) (L:Nat->Nat):List Nat:=(List.range n).filter fun i=>L i==i
def members (n:Nat) (L:Nat->Nat) (i:Nat):List Nat:=(List.range n).filter fun k=>L k==i
def iJ (n:Nat) (L:Nat->Nat):List (List Nat):=(leads n L).map (members n L)
def dV (L:Nat->Nat) (k:Nat):Nat:=(leads (L k) L).length
theorem im (n:Nat) (L:Nat->Nat):leads (n+1) L=leads n L++if L n=n then[n]else[]:=by
 unfold leads
 rw[List.range_succ,List.filter_append]
 congr 1
 by_cases h:L n=n<;>simp[h]
theorem kc (n:Nat) (L:Nat->Nat) (i:Nat):members (n+1) L i=members n L i++if L n=i then[n]else[]:=by
 unfold members
 rw[List.range_succ,List.filter_append]
 congr 1
 by_cases h:L n=i<;>simp[h]
theorem Ao {L:Nat->Nat} (h:jM L) {n i:Nat} (hn:n<=i):members n L i=[]:=by
 unfold members
 rw[List.filter_eq_nil_iff]
 intro k hk
 have:=h.le k
 have:=List.mem_range.1 hk
 simp;omega
theorem tC (n:Nat) (L:Nat->Nat):(leads n L).Nodup:=List.nodup_range.filter _
theorem yU {n:Nat} {L:Nat->Nat} {i:Nat}:i∈leads n L↔i<n/\L i=i:=by simp[leads]
theorem oy {n:Nat} {L:Nat->Nat} {i k:Nat}:k∈members n L i↔k<n/\L k=i:=by simp[members]
theorem Hl {L:Nat->Nat} {m n:Nat} (h:m<=n):∃r,leads n L=leads m L++r:=by
 obtain⟨d,rfl⟩:=Nat.le.dest h
 clear h
 induction d with
 |zero=>exact⟨[],by simp⟩
 |succ d ih=>
  obtain⟨r,hr⟩:=ih
  exact⟨r++if L (m+d)=m+d then[m+d]else[],by rw[<-Nat.add_assoc,im,hr,List.append_assoc]⟩
theorem o8 {L:Nat->Nat} (h:jM L) {n k:Nat} (hk:k<n):(leads n L)[dV L k]? =some (L k):=by
 have h1:=h.le k
 obtain⟨r,hr⟩:=Hl (L:=L) (show L k+1<=n by omega)
 rw[hr,im,if_pos (h.idem k),List.append_assoc]
 unfold dV
 rw[List.getElem?_append_right (Nat.le_refl _),Nat.sub_self];rfl
theorem oz {L:Nat->Nat} (h:jM L) {n k:Nat} (hk:k<n):dV L k<(leads n L).length:=(List.getElem?_eq_some_iff.1 (o8 h hk)).1
theorem y4 {L:Nat->Nat} (h:jM L) {n k i:Nat} (hk:k<n) (hi:i<(leads n L).length):k∈members n L (leads n L)[i]↔dV L k=i:=by
 rw[oy]
 have h1:=o8 h hk
 rw[List.getElem?_eq_getElem (oz h hk)]at h1
 injection h1 with h1
 constructor
 ·rintro⟨_,h2⟩
  rw[<-h1]at h2
  exact(List.getElem_inj (tC n L)).1 h2
 ·rintro rfl
  exact⟨hk,h1.symm⟩
def eh (L:Nat->Nat) (bs:List PB):List PB:=bs.filterMap fun b=>if dV L b.a=dV L b.b then none else some ⟨dV L b.a,dV L b.b,b.s⟩
def Nz (L:Nat->Nat) (bs:List PB):List PB:=bs.filterMap fun b=>if dV L b.a=dV L b.b then none else some ⟨min (dV L b.a) (dV L b.b),max (dV L b.a) (dV L b.b),b.s⟩
theorem AD (L:Nat->Nat) (bs:List PB) (b:PB):eh L (bs++[b])=eh L bs++if dV L b.a=dV L b.b then[]else[⟨dV L b.a,dV L b.b,b.s⟩]:=by
 unfold eh
 rw[List.filterMap_append]
 congr 1
 by_cases h:dV L b.a=dV L b.b<;>simp[h]
theorem EE {L:Nat->Nat} (h:jM L) {n:Nat} {bs:List PB} (hb:∀b∈bs,b.a<n/\b.b<n):∀b∈eh L bs,b.a<(leads n L).length/\b.b<(leads n L).length/\b.a≠b.b/\∃c∈bs,b.s=c.s:=by
 intro b hm
 unfold eh at hm
 obtain⟨c,hc,he⟩:=List.mem_filterMap.1 hm
 split at he
 ·cases he
 ·rename_i ig
  simp only[Option.some.injEq]at he
  subst he
  exact⟨oz h (hb c hc).1,oz h (hb c hc).2,ig,c,hc,rfl⟩
theorem xb (L:Nat->Nat) (bs:List PB):(eh L bs).length<=bs.length/\(Nz L bs).length<=bs.length:=⟨List.length_filterMap_le ..,List.length_filterMap_le ..⟩
theorem lR (n:Nat) (L:Nat->Nat):(leads n L).length<=n:=by
 have:=List.length_filter_le (fun i=>L i==i) (List.range n)
 simpa[leads]using this
def cH (t:Int) (bs:List PB):List PB:=bs.filter fun b=>decide (t<=b.s)
def mu (n:Nat) (bs:List PB) (t:Int):Prop:=
 (leads n (fI (cH t bs))).length<=64/\r5 (leads n (fI (cH t bs))).length (eh (fI (cH t bs)) bs) t
end Go.Proofs.YtakkdjfmiffbfaaGreatDoor.V

namespace Go.Proofs.YtakkdjfmiffbfaaGreatDoor.V
open Go.RowKit
attribute [local irreducible] dL wpOps ez Call
attribute [local go_sem] ay ew dZ eE eC cY upd bJ K.av bZ AV.cells AV.cell rowOf rowsOf part ld rowAt eO bH bI cX dj eQ bq cF dx eA ed cQ dq cD cC dc de bu aE cm bt cr cq dn dr dp ck bz cE dm br aw cw bQ eP aZ bW bx aD cR aQ cZ AV.undef bd bj dh di c6 da bV dw dz bP du dt cu cz List.getD_cons_zero List.getD_cons_succ List.getD_nil List.all_cons List.all_nil Bool.and_true Bool.true_and Bool.and_self Bool.not_true Bool.not_false Option.map_some Option.map_none Option.bind_some Option.bind_none List.length_cons List.length_nil List.take_succ_cons List.take_zero List.take_nil List.drop_succ_cons List.drop_zero List.drop_nil List.head?_cons List.map_cons List.map_nil List.getElem?_cons_zero List.getElem?_cons_succ List.cons_append List.nil_append List.append_nil List.length_map List.set_cons_zero List.set_cons_succ Nat.reduceMul eq_self Int.toNat_natCast Int.natCast_nonneg and_self true_and and_true decide_true decide_false Bool.false_eq_true Nat.zero_add Nat.add_zero List.contains_cons List.contains_nil Bool.or_false Bool.false_or beq_self_eq_true Nat.reduceBEq ne_eq not_true_eq_false not_false_eq_true Id.mk.injEq false_and and_false Nat.reduceLT Int.reduceLE Int.reduceLT Int.reduceToNat Int.reduceNeg Int.reduceAdd Nat.le_refl List.length_append beq_true beq_false Bool.not_eq_eq_eq_not or_false false_or dW ad ae aL aI bf bR az bc aA aJ cj bh
def dB (b:PB):List AV:=[.int .i64 b.a,.int .i64 b.b,.int .i64 b.s]
theorem UH:∀b:PB,(dB b).length=3/\(dB b).all AV.cell=true:=fun _=>⟨rfl,rfl⟩
theorem DF (g:Rows) (n:Nat) (b:PB):er g (n+1) (dB b)=some (dB b):=by simp[dB,ad,ae,aL]
theorem Fw (g:Rows) (n:Nat) (b:PB):fa g (n+1) (dB b)=some (dB b):=by simp[dB,cV,dH,eW]
theorem Jb:RV dB (fun c=>.agg (dB c)) 3 true:=⟨fun _=>rfl,fun _=>rfl,fun x g=>by simp only[dB,ad,ae,bc,aL,Option.map_some]⟩
def lu (s:aH) (l:List aa) (i:Nat) (d:Int):List PB:=
 if 0<=eF l (cN (cP l i).cG d)/\0<fV s (cP l i).cL d (cP l (eF l (cN (cP l i).cG d)).toNat).cL then
  [⟨i,(eF l (cN (cP l i).cG d)).toNat,fV s (cP l i).cL d (cP l (eF l (cN (cP l i).cG d)).toNat).cL⟩]else[]
def ik (s:aH) (l:List aa) (i m:Nat):List PB:=(List.range m).flatMap fun j:Nat=>lu s l i (1-(j:Int))
def kW (s:aH) (l:List aa) (n:Nat):List PB:=(List.range n).flatMap fun i=>ik s l i 2
def dP (s:aH) (l:List aa):List PB:=kW s l l.length
theorem lr (s:aH) (l:List aa) (i m:Nat):ik s l i (m+1)=ik s l i m++lu s l i (1-(m:Int)):=by simp[ik,List.range_succ]
theorem zH (s:aH) (l:List aa) (n:Nat):kW s l (n+1)=kW s l n++ik s l n 2:=by simp[kW,List.range_succ]
theorem Dk (s:aH) (l:List aa) (i:Nat) (d:Int):(lu s l i d).length<=1:=by unfold lu;split<;>simp
theorem zG (s:aH) (l:List aa) (i m:Nat):(ik s l i m).length<=m:=by
 induction m with
 |zero=>simp[ik]
 |succ m ih=>rw[lr,List.length_append];have:=Dk s l i (1-(m:Int));omega
theorem Bf (s:aH) (l:List aa) (n:Nat):(kW s l n).length<=2*n:=by
 induction n with
 |zero=>simp[kW]
 |succ n ih=>rw[zH,List.length_append];have:=zG s l n 2;omega
def sB:Id->Prop:=fun o=>o.site=109001000∨o.site=109012006
def fX (f:Nat->Nat) (n:Nat):List (List AV):=(List.range n).map fun i=>eN (f i)
theorem js (f:Nat->Nat) (n:Nat):(fX f n).length=n:=by simp[fX]
theorem iP {f:Nat->Nat} {n i:Nat} (h:i<n):(fX f n)[i]? =some (eN (f i)):=by simp[fX,h]
theorem kf {f g:Nat->Nat} {n:Nat} (h:∀i,i<n->f i=g i):fX f n=fX g n:=List.map_congr_left fun i hi=>by rw[h i (List.mem_range.1 hi)]
theorem uB {f g:Nat->Nat} {n k v:Nat} (hk:k<n) (hv:g k=v) (h:∀i,i<n->i≠k->g i=f i):(fX f n).set k (eN v)=fX g n:=by
 refine List.ext_getElem? fun i=>?_
 rw[List.getElem?_set]
 by_cases hi:k=i
 ·subst hi
  rw[if_pos rfl,js,if_pos hk,iP hk,hv]
 ·rw[if_neg hi]
  by_cases iO:i<n
  ·rw[iP iO,iP iO,h i iO (fun h=>hi h.symm)]
  ·rw[List.getElem?_eq_none (by rw[js];omega),List.getElem?_eq_none (by rw[js];omega)]
theorem CP (n:Nat):List.replicate n [AV.int .i64 0]=fX (fun _=>0) n:=by
 refine List.ext_getElem? fun i=>?_
 by_cases h:i<n
 ·rw[iP h,List.getElem?_replicate,if_pos h];rfl
 ·rw[List.getElem?_eq_none (by simp;omega),List.getElem?_eq_none (by rw[js];omega)]
def ev (cnt:Nat) (L:Nat->Nat) (i m:Nat):Nat->Nat:=fun x=>if dV L x<i then dV L x else if x∈(members cnt L ((leads cnt L).getD i 0)).take m then i else 0
theorem tF (cnt:Nat) (L:Nat->Nat):ev cnt L 0 0=fun _=>0:=by funext x;simp[ev]
theorem CL (t:Int) (bs:List PB) (k:Nat) (h:k<bs.length):cH t (bs.take (k+1))=cH t (bs.take k)++if t<=(bs[k]).s then[bs[k]]else[]:=by
 unfold cH
 rw[List.take_succ_eq_append_getElem h,List.filter_append]
 congr 1
 by_cases h:t<=bs[k].s<;>simp[h]
theorem EN {t:Int} {bs:List PB} {b:PB} (h:b∈cH t bs):b∈bs:=(List.mem_filter.1 h).1
theorem xe (t:Int) (bs:List PB):(cH t bs).length<=bs.length:=List.length_filter_le _ _
end Go.Proofs.YtakkdjfmiffbfaaGreatDoor.V

namespace Go.Proofs.YtakkdjfmiffbfaaGreatDoor.V
section
variable {cnt:Nat} {bs:List PB} {f:Nat->Int} {y:Nat} {out:Nat->Int} {Q:List Nat} {i:Nat}
end
end Go.Proofs.YtakkdjfmiffbfaaGreatDoor.V

namespace Go.Proofs.YtakkdjfmiffbfaaGreatDoor.V
open Go.RowKit
def AV.clean:AV->Bool
 | .int .. | .bool _| .str _| .bB| .gO| .iU| .jd| .iF| .own .. | .ptr .. | .map .. | .qF _=>true
 | .sl l=>l.isEmpty
 |_=>false
def AV.zL:AV->Bool
 | .agg cs=>cs.all AV.clean
 | .fK cs=>cs.all fun a=>match a with
  | .agg cs=>cs.all AV.clean
  |a=>a.clean
 |a=>a.clean
def rM (ids:List Id) (g g':Rows):Rows:=fun id=>if id∈ids then g' id else g id
theorem oP {ids:List Id} {g g':Rows} {id:Id} (h:id∈ids):rM ids g g' id=g' id:=if_pos h
theorem zq {ids:List Id} {g g':Rows} {id:Id} (h:id∉ids):rM ids g g' id=g id:=if_neg h
section
variable {P:Program} {w w':World} {D D' D1 D2:Nat->Prop} {ι ι1 ι2:Names}
theorem jG {a:AV} {v:Value} (hp:a.clean=true) (h:dF P w D1 ι1 a v):dF P w D2 ι1 a v:=by
 cases h with
 |eG a v h=>
  cases h with
  |int=>exact .eG _ _ (.int _ _)
  |bool=>exact .eG _ _ (.bool _)
  |str=>exact .eG _ _ (.str _)
  |bB=>exact .eG _ _ .bB
  |gO=>exact .eG _ _ .gO
  |iU=>exact .eG _ _ .iU
  |jd=>exact .eG _ _ .jd
  |iF=>exact .eG _ _ .iF
  |err=>simp[AV.clean]at hp
  |AU a c h=>exact .eG _ _ (.AU a c h)
  |sl rows b o n c sz vs h1 h2 h3=>
   have:rows=[]:=by simpa[AV.clean]using hp
   subst this
   simp only[List.length_nil]at h1
   subst h1
   exact .eG _ _ (.AU _ _ h3)
  |eT=>simp[AV.clean]at hp
  |agg=>simp[AV.clean]at hp
  |fn=>simp[AV.clean]at hp
 |own id off len o cap B h1 h2 h3 h4 h5 h6=>exact .own id off len o cap B h1 h2 h3 h4 h5 h6
 |map id m B h1 h2=>exact .map id m B h1 h2
 |qF id c B h1 h2=>exact .qF id c B h1 h2
 |ptr id i off B h1 h2=>exact .ptr id i off B h1 h2
 |agg=>simp[AV.clean]at hp
 |fK=>simp[AV.clean]at hp
 |fn=>simp[AV.clean]at hp
 |tD=>simp[AV.clean]at hp
theorem lE {cs:List AV} {v:Value} (hc:cs.all AV.clean=true) (h:dF P w D1 ι1 (.agg cs) v):dF P w D2 ι1 (.agg cs) v:=by
 obtain⟨vs,f,rfl,h1,h2,h3,h4⟩:=iw h
 rw[List.all_eq_true]at hc
 exact .agg cs vs f h1 h2 h3 fun j a ha=>jG (hc a (List.mem_of_getElem? ha)) (h4 j a ha)
theorem Ev {a:AV} {v:Value} (hp:a.zL=true) (h:dF P w D1 ι1 a v):dF P w D2 ι1 a v:=by
 cases a with
 |agg cs=>exact lE hp h
 |fK cs=>
  obtain⟨vs,f,rfl,h1,h3,h4⟩:=uz h
  simp only[AV.zL,List.all_eq_true]at hp
  refine .fK cs vs f h1 h3 fun j a ha=>?_
  have:=hp a (List.mem_of_getElem? ha)
  split at this
  ·exact lE this (h4 j _ ha)
  ·exact jG this (h4 j _ ha)
 |_=>exact jG hp h
theorem Ep {ag:Bool} {n:Nat} {cs:List AV} {x:AV} {v:Value} (hc:∀a∈cs,a.clean=true) (hp:part ag n cs=some x) (hr:dF P w D1 ι1 x v):dF P w D2 ι1 x v:=by
 unfold part at hp
 split at hp
 ·split at hp
  ·simp only[Option.some.injEq]at hp;subst hp
   exact lE (List.all_eq_true.2 fun a ha=>hc a (List.mem_of_mem_take ha)) hr
  ·cases hp
 ·exact jG (hc x (List.mem_of_mem_head? hp)) hr
theorem gD.clean {B:rZ} {r:Row} (R:gD P w D1 ι1 B r) (h:∀cs∈r.rows,∀a∈cs,a.clean=true):gD P w D2 ι1 B r:=
 ⟨R.sz,R.flat,fun hk=>⟨R.sz,(R.row hk).rU,(R.row hk).fits,(R.row hk).len,R.flat,fun i j cs a hi hj=>by
  obtain⟨v,q1,q2⟩:=(R.row hk).at_ i j cs a hi hj
  exact⟨v,q1,jG (h cs (List.mem_of_getElem? hi) a (List.mem_of_getElem? hj)) q2⟩⟩,fun m hm=>by
  obtain⟨h1,es,c,h2,h3,h5,h4⟩:=R.map m hm
  refine⟨h1,es,c,h2,h3,h5,fun i cs hi=>?_⟩
  obtain⟨e,kv,vv,q1,q2,q3,q4,q5⟩:=h4 i cs hi
  have hc:=h cs (List.mem_of_getElem? hi)
  exact⟨e,kv,vv,q1,q2,q3,Ep hc q2 q4,jG (hc vv (List.mem_of_getElem? q3)) q5⟩,fun c hc=>by
  obtain⟨h1,buf,s,q,h2,h3,h4⟩:=R.chan c hc
  refine⟨h1,buf,s,q,h2,h3,fun i cs hi=>?_⟩
  obtain⟨a,u,rfl,q2,q3⟩:=h4 i cs hi
  exact⟨a,u,rfl,q2,jG (h [a] (List.mem_of_getElem? hi) a (by simp)) q3⟩⟩
def Handed (ids:List Id) (g:Rows):Prop:=∀id∈ids,∃r,g id=some r/\r.w=true/\∀cs∈r.rows,∀a∈cs,a.clean=true
end
end Go.Proofs.YtakkdjfmiffbfaaGreatDoor.V

namespace Go.Proofs.YtakkdjfmiffbfaaGreatDoor.V
open Go.RowKit
attribute [local irreducible] dL wpOps ez Call
attribute [local go_sem] ay ew dZ eE eC cY upd bJ K.av bZ AV.cells AV.cell rowOf rowsOf part ld rowAt eO bH bI cX dj eQ bq cF dx eA ed cQ dq cD cC dc de bu aE cm bt cr cq dn dr dp ck bz cE dm br aw cw bQ eP aZ bW bx aD cR aQ cZ AV.undef bd bj dh di c6 da bV dw dz bP du dt cu cz List.getD_cons_zero List.getD_cons_succ List.getD_nil List.all_cons List.all_nil Bool.and_true Bool.true_and Bool.and_self Bool.not_true Bool.not_false Option.map_some Option.map_none Option.bind_some Option.bind_none List.length_cons List.length_nil List.take_succ_cons List.take_zero List.take_nil List.drop_succ_cons List.drop_zero List.drop_nil List.head?_cons List.map_cons List.map_nil List.getElem?_cons_zero List.getElem?_cons_succ List.cons_append List.nil_append List.append_nil List.length_map List.set_cons_zero List.set_cons_succ Nat.reduceMul eq_self Int.toNat_natCast Int.natCast_nonneg and_self true_and and_true decide_true decide_false Bool.false_eq_true Nat.zero_add Nat.add_zero List.contains_cons List.contains_nil Bool.or_false Bool.false_or beq_self_eq_true Nat.reduceBEq ne_eq not_true_eq_false not_false_eq_true Id.mk.injEq false_and and_false Nat.reduceLT Int.reduceLE Int.reduceLT Int.reduceToNat Int.reduceNeg Int.reduceAdd Nat.le_refl List.length_append beq_true beq_false Bool.not_eq_eq_eq_not or_false false_or dW ad ae aL aI bf bR az bc aA aJ cj bh
def pA (P:Program) (f:Nat) (args:List AV) (R:AV->Prop):Prop:=∀n:Nat,Call P f args ⟨fun _=>none,n⟩ fun r0 σ'=>∃r',gE σ'.get 6 r0=some r'/\R r'
theorem GM {P:Program} {f:Nat} {args args':List AV} {g:Rows} {n:Nat} {R:AV->Prop} (hv:er (dW g) 6 args=some args') (h:Sound P f args' ⟨fun _=>none,n⟩ fun r0 σ'=>∃r',gE σ'.get 6 r0=some r'/\R r'):Sound P f args ⟨g,n⟩ fun r σ'=>R r/\σ'=⟨g,n⟩:=by
 intro hs D ι w vs S U A
 refine(x9 (g0:=g) (K:=R) ⟨args',hv,h⟩ (fun _ _ h=>h) S U A).mono ?_
 rintro e w' ⟨r,D',u,rfl,hR,T,S',hr⟩
 exact⟨r,g,n,D',ι,u,rfl,⟨hR,rfl⟩,T,S',U,Nat.le_refl _,hr⟩
theorem pA.x {P:Program} (hm:P.follows .mixedOrders=true) {f:Nat} {args args':List AV} {R:AV->Prop} (h:pA P f args' R) {σ:aq} (hv:er (dW σ.get) 6 args=some args'):Call P f args σ fun r σ'=>R r/\σ'=σ:=
 eV (GM hv (gG hm (h σ.next)))
theorem pA.body {P:Program} {f:Nat} {args:List AV} {R:AV->Prop} {nt na:Nat} {body:VC} {res:List pq} (hf:Bh P f=some ⟨nt,na,body,res⟩) (ha:na=args.length) (h:(∀a∈args,eY a)->∀n:Nat,dL (Call P) body (l9 res fun r0 σ'=>∃r',gE σ'.get 6 r0=some r'/\R r') (bJ args) ⟨fun _=>none,n⟩):pA P f args R:=fun n=>oV hf ha fun hl=>h hl n
def gQ (f:Nat->Int) (n:Nat):List (List AV):=(List.range n).map fun i=>bE (f i)
theorem fy (f:Nat->Int) (n:Nat):(gQ f n).length=n:=by simp[gQ]
theorem fJ {f:Nat->Int} {n i:Nat} (h:i<n):(gQ f n)[i]? =some (bE (f i)):=by simp[gQ,h]
theorem xh {f g:Nat->Int} {n k:Nat} {v:Int} (hk:k<n) (hv:g k=v) (h:∀i,i<n->i≠k->g i=f i):(gQ f n).set k (bE v)=gQ g n:=by
 refine List.ext_getElem? fun i=>?_
 rw[List.getElem?_set]
 by_cases hi:k=i
 ·subst hi
  rw[if_pos rfl,fy,if_pos hk,fJ hk,hv]
 ·rw[if_neg hi]
  by_cases iO:i<n
  ·rw[fJ iO,fJ iO,h i iO (fun h=>hi h.symm)]
  ·rw[List.getElem?_eq_none (by rw[fy];omega),List.getElem?_eq_none (by rw[fy];omega)]
theorem fzI (g:Rows) (n:Nat) (a:Int):er g (n+1) (bE a)=some (bE a):=by simp[bE,ad,ae,aL]
theorem Ss (g:Rows) (n:Nat) (a:Int):fa g (n+1) (bE a)=some (bE a):=by simp[bE,cV,dH,eW]
theorem NI {g:Rows} {f:Nat->Int} {n m:Nat}:eX g (m+1) (gQ f n)=some (gQ f n):=by
 have:gQ f n=((List.range n).map f).map bE:=by simp[gQ]
 rw[this];exact pW fun x=>fzI g m x
end Go.Proofs.YtakkdjfmiffbfaaGreatDoor.V

namespace Go.Proofs.YtakkdjfmiffbfaaGreatDoor.V
open Go.RowKit
attribute [local irreducible] dL wpOps ez Call
attribute [local go_sem] ay ew dZ eE eC cY upd bJ K.av bZ AV.cells AV.cell rowOf rowsOf part ld rowAt eO bH bI cX dj eQ bq cF dx eA ed cQ dq cD cC dc de bu aE cm bt cr cq dn dr dp ck bz cE dm br aw cw bQ eP aZ bW bx aD cR aQ cZ AV.undef bd bj dh di c6 da bV dw dz bP du dt cu cz List.getD_cons_zero List.getD_cons_succ List.getD_nil List.all_cons List.all_nil Bool.and_true Bool.true_and Bool.and_self Bool.not_true Bool.not_false Option.map_some Option.map_none Option.bind_some Option.bind_none List.length_cons List.length_nil List.take_succ_cons List.take_zero List.take_nil List.drop_succ_cons List.drop_zero List.drop_nil List.head?_cons List.map_cons List.map_nil List.getElem?_cons_zero List.getElem?_cons_succ List.cons_append List.nil_append List.append_nil List.length_map List.set_cons_zero List.set_cons_succ eq_self Int.toNat_natCast Int.natCast_nonneg and_self true_and and_true decide_true decide_false Bool.false_eq_true Nat.zero_add Nat.add_zero List.contains_cons List.contains_nil Bool.or_false Bool.false_or beq_self_eq_true ne_eq not_true_eq_false not_false_eq_true Id.mk.injEq false_and and_false Nat.le_refl List.length_append beq_true beq_false Bool.not_eq_eq_eq_not or_false false_or dW ad ae aL aI bf bR az bc aA aJ cj bh
theorem gK.XC {α:Type} {R:Rs α} {sz:Nat} {g:Rows} {rows:List (List AV)} {xs:List α} {ids:List Id} (ok:OY R sz) (h:gK R g rows xs ids) (pI:ids.Nodup) (k:Nat) (hk:k<xs.length):
  ∃cs ic,rows[k]? =some cs/\R g cs xs[k] ic/\(∀i∈ic,i∈ids)/\∀(g':Rows) mA x' RN,R g' mA x' RN->(∀i∈ids,i∉ic->g' i=g i)->RN.Nodup->(∀i∈RN,i∉ids)->∃J0,gK R g' (rows.set k mA) (xs.set k x') J0/\J0.Nodup/\∀i∈J0,i∈RN∨i∈ids:=by
 obtain⟨r1,cs,r2,i1,ic,i2,rfl,rfl,rfl,h3,h4,h5⟩:=h.split k hk
 obtain⟨n1,n2,n3⟩:=List.nodup_append.1 pI
 obtain⟨nc,n5,n4⟩:=List.nodup_append.1 n2
 refine⟨cs,ic,by simp,h4,fun i hi=>by simp[hi],fun g' mA x' RN hR hf Vi iT=>⟨i1++(RN++i2),?_,?_,fun i hi=>?_⟩⟩
 ·have e:xs.set r1.length x'=xs.take r1.length++x'::xs.drop (r1.length+1):=by rw[List.set_eq_take_append_cons_drop,if_pos hk]
  have e2:(r1++cs::r2).set r1.length mA=r1++mA::r2:=by simp
  rw[e,e2]
  refine(h3.frame ok fun i hi=>hf i (by simp[hi]) fun hc=>n3 i hi i (by simp[hc]) rfl).app (.cons hR (h5.frame ok fun i hi=>hf i (by simp[hi]) fun hc=>n4 i hc i hi rfl))
 ·rw[List.nodup_append,List.nodup_append]
  refine⟨n1,⟨Vi,n5,fun x hx y hy he=>?_⟩,fun x hx y hy he=>?_⟩
  ·subst he;exact iT x hx (by simp[hy])
  ·subst he
   rcases List.mem_append.1 hy with hy|hy
   ·exact iT x hy (by simp[hx])
   ·exact n3 x hx x (by simp[hy]) rfl
 ·rcases List.mem_append.1 hi with hi|hi
  ·exact .inr (by simp[hi])
  ·rcases List.mem_append.1 hi with hi|hi
   ·exact .inl hi
   ·exact .inr (by simp[hi])
theorem vK {α:Type} {l:List α} {k:Nat} {x:α} (h:l[k]? =some x) (hk:k<l.length):l[k]=x:=by
 rw[List.getElem?_eq_getElem hk]at h;exact Option.some.inj h
end Go.Proofs.YtakkdjfmiffbfaaGreatDoor.V

namespace Go.Proofs.YtakkdjfmiffbfaaGreatDoor.V
open Go.RowKit
attribute [local irreducible] dL wpOps ez Call
attribute [local go_sem] ay ew dZ eE eC cY upd bJ K.av bZ AV.cells AV.cell rowOf rowsOf part ld rowAt eO bH bI cX dj eQ bq cF dx eA ed cQ dq cD cC dc de bu aE cm bt cr cq dn dr dp ck bz cE dm br aw cw bQ eP aZ bW bx aD cR aQ cZ AV.undef bd bj dh di c6 da bV dw dz bP du dt cu cz List.getD_cons_zero List.getD_cons_succ List.getD_nil List.all_cons List.all_nil Bool.and_true Bool.true_and Bool.and_self Bool.not_true Bool.not_false Option.map_some Option.map_none Option.bind_some Option.bind_none List.length_cons List.length_nil List.take_succ_cons List.take_zero List.take_nil List.drop_succ_cons List.drop_zero List.drop_nil List.head?_cons List.map_cons List.map_nil List.getElem?_cons_zero List.getElem?_cons_succ List.cons_append List.nil_append List.append_nil List.length_map List.set_cons_zero List.set_cons_succ Nat.reduceMul eq_self Int.toNat_natCast Int.natCast_nonneg and_self true_and and_true decide_true decide_false Bool.false_eq_true Nat.zero_add Nat.add_zero List.contains_cons List.contains_nil Bool.or_false Bool.false_or beq_self_eq_true Nat.reduceBEq ne_eq not_true_eq_false not_false_eq_true Id.mk.injEq false_and and_false Nat.reduceLT Int.reduceLE Int.reduceLT Int.reduceToNat Int.reduceNeg Int.reduceAdd Nat.le_refl List.length_append beq_true beq_false Bool.not_eq_eq_eq_not or_false false_or dW ad ae aL aI bf bR az bc aA aJ cj bh
section
variable {cnt:Nat} {bs:List PB} {out:Nat->Int} {f f':Nat->Int} {x v y:Nat}
end
def uF (P:Program) (f:Nat) (args:List AV) (R:AV->Prop):Prop:=∀σ:aq,Call P f args ⟨V.ro σ.get,σ.next⟩ fun r0 σ'=>∃r',V.fz σ'.get 6 r0=some r'/\R r'
theorem DE {P:Program} {f:Nat} {args:List AV} {g:Rows} {n:Nat} {R:AV->Prop} (h:Sound P f args ⟨V.ro g,n⟩ fun r0 σ'=>∃r',V.fz σ'.get 6 r0=some r'/\R r'):Sound P f args ⟨g,n⟩ fun r σ'=>R r/\σ'=⟨g,n⟩:=by
 intro hs D ι w vs S U A
 refine(AZ (g0:=g) (K:=R) h (fun _ _ h=>h) S U A).mono ?_
 rintro e w' ⟨r,D',u,rfl,hR,T,S',hr⟩
 exact⟨r,g,n,D',ι,u,rfl,⟨hR,rfl⟩,T,S',U,Nat.le_refl _,hr⟩
theorem uF.x {P:Program} (hm:P.follows .mixedOrders=true) {f:Nat} {args:List AV} {R:AV->Prop} (h:uF P f args R) {σ:aq}:Call P f args σ fun r σ'=>R r/\σ'=σ:=
 eV (DE (gG hm (h σ)))
theorem uF.body {P:Program} {f:Nat} {args:List AV} {R:AV->Prop} {nt na:Nat} {body:VC} {res:List pq} (hf:Bh P f=some ⟨nt,na,body,res⟩) (ha:na=args.length) (h:(∀a∈args,eY a)->∀σ:aq,dL (Call P) body (l9 res fun r0 σ'=>∃r',V.fz σ'.get 6 r0=some r'/\R r') (bJ args) ⟨V.ro σ.get,σ.next⟩):uF P f args R:=fun σ=>oV hf ha fun hl=>h hl σ
end Go.Proofs.YtakkdjfmiffbfaaGreatDoor.V

namespace Go.Proofs.YtakkdjfmiffbfaaGreatDoor.V
open Go.RowKit
inductive r4:List AV->List AV->Prop
 |nil:r4 [] []
 |same (a) {l l'}:r4 l l'->r4 (a::l) (a::l')
 |ptr (cs rest) {l l'}:r4 l l'->r4 (.eT (cs++rest)::l) (.eT cs::l')
 |bB {l l'}:r4 l l'->r4 (.bB::l) (.sl []::l')
theorem Nt {P:Program} {w:World} {D:Nat->Prop} {ι:Names} {cs rest:List AV} {v:Value} (h:dF P w D ι (.eT (cs++rest)) v):dF P w D ι (.eT cs) v:=by
 obtain⟨b,o,vs,rfl,h1,h2,h3,h4⟩:=kI h
 exact .eG _ _ (.eT cs b o vs h1 (fun a ha=>h2 a (List.mem_append_left _ ha)) (fun j hj=>h3 j (by rw[List.length_append];omega)) fun j a ha=>h4 j a (by
  have:=(List.getElem?_eq_some_iff.1 ha).1
  rw[List.getElem?_append_left this];exact ha))
theorem Nv {P:Program} {w:World} {D:Nat->Prop} {ι:Names} {v:Value} (h:dF P w D ι .bB v):dF P w D ι (.sl []) v:=by
 cases h with
 |eG _ _ h=>
  cases h with
  |bB=>exact .eG _ _ (.AU none 0 (Nat.zero_le _))
theorem r4.len {l l':List AV} (h:r4 l l'):l'.length=l.length:=by induction h<;>simp_all
theorem r4.get {P:Program} {w:World} {D:Nat->Prop} {ι:Names} {l l':List AV} (h:r4 l l'):∀{j:Nat} {a':AV},l'[j]? =some a'->∃a,l[j]? =some a/\∀v,dF P w D ι a v->dF P w D ι a' v:=by
 induction h with
 |nil=>intro j a' hj;simp at hj
 |same a _ ih=>
  intro j a' hj
  cases j with
  |zero=>simp at hj;subst hj;exact⟨a,rfl,fun _ h=>h⟩
  |succ j=>exact ih (by simpa using hj)
 |ptr cs rest _ ih=>
  intro j a' hj
  cases j with
  |zero=>simp at hj;subst hj;exact⟨_,rfl,fun _ h=>Nt h⟩
  |succ j=>exact ih (by simpa using hj)
 |bB _ ih=>
  intro j a' hj
  cases j with
  |zero=>simp at hj;subst hj;exact⟨_,rfl,fun _ h=>Nv h⟩
  |succ j=>exact ih (by simpa using hj)
theorem Call.cut {P:Program} (hm:P.follows .mixedOrders=true) {f:Nat} {args args':List AV} {σ:aq} {K:AV->aq->Prop} (hc:r4 args args') (h:Call P f args' σ K):Call P f args σ K:=
 eV fun hs D ι w vs S U A=>gG hm h hs D ι w vs S U ⟨by rw[A.1,hc.len],fun j a' hj=>by
  obtain⟨a,ha,hr⟩:=hc.get (P:=P) (w:=w) (D:=D) (ι:=ι) hj
  obtain⟨u,hu,hv⟩:=A.2 j a ha
  exact⟨u,hu,hr u hv⟩⟩
theorem aP.cut {P:Program} (hm:P.follows .mixedOrders=true) {f:Nat} {args args':List AV} {r:AV} (hc:r4 args args') (h:aP P f args' r):aP P f args r:=fun n=>(h n).cut hm hc
end Go.Proofs.YtakkdjfmiffbfaaGreatDoor.V

namespace Go.Proofs.YtakkdjfmiffbfaaGreatDoor.V
open Go.RowKit
attribute [local irreducible] dL wpOps ez Call
attribute [local go_sem] ay ew dZ eE eC cY upd bJ K.av bZ AV.cells AV.cell rowOf rowsOf part ld rowAt eO bH bI cX dj eQ bq cF dx eA ed cQ dq cD cC dc de bu aE cm bt cr cq dn dr dp ck bz cE dm br aw cw bQ eP aZ bW bx aD cR aQ cZ AV.undef bd bj dh di c6 da bV dw dz bP du dt cu cz List.getD_cons_zero List.getD_cons_succ List.getD_nil List.all_cons List.all_nil Bool.and_true Bool.true_and Bool.and_self Bool.not_true Bool.not_false Option.map_some Option.map_none Option.bind_some Option.bind_none List.length_cons List.length_nil List.take_succ_cons List.take_zero List.take_nil List.drop_succ_cons List.drop_zero List.drop_nil List.head?_cons List.map_cons List.map_nil List.getElem?_cons_zero List.getElem?_cons_succ List.cons_append List.nil_append List.append_nil List.length_map List.set_cons_zero List.set_cons_succ Nat.reduceMul eq_self Int.toNat_natCast Int.natCast_nonneg and_self true_and and_true decide_true decide_false Bool.false_eq_true Nat.zero_add Nat.add_zero List.contains_cons List.contains_nil Bool.or_false Bool.false_or beq_self_eq_true Nat.reduceBEq ne_eq not_true_eq_false not_false_eq_true Id.mk.injEq false_and and_false Nat.reduceLT Int.reduceLE Int.reduceLT Int.reduceToNat Int.reduceNeg Int.reduceAdd Nat.le_refl List.length_append beq_true beq_false Bool.not_eq_eq_eq_not or_false false_or dW ad ae aL aI bf bR az bc aA aJ cj bh
theorem NG {s:aH} (hS:gj s) (a d:Int):mc s (bp (aW s a) d)<=4:=by
 have hF:=hS.form
 have iO:bp (aW s a) d=0∨(0<=bp (aW s a) d/\bp (aW s a) d<=s.bU.length):=by
  unfold bp aW
  rw[List.getD_eq_getElem?_getD,List.getD_eq_getElem?_getD]
  rcases ht:s.ah[a.toNat]? with _|t
  ·exact .inl (by simp[qg])
  ·have Ty:=List.mem_of_getElem? ht
   simp only[Option.getD_some]
   rcases hg:t.dM[d.toNat]? with _|g
   ·exact .inl rfl
   ·exact .inr (hF.ou t Ty g (List.mem_of_getElem? hg))
 unfold mc
 by_cases h0:bp (aW s a) d=0
 ·rw[if_pos h0];omega
 ·rw[if_neg h0]
  have hk:(bp (aW s a) d-1).toNat<s.bU.length:=ab
  have:=eH (hS.Sx _ hk).2.1
  unfold tj at this
  unfold mE
  omega
theorem Be {s:aH} (hS:gj s) (a d b:Int):fV s a d b<=4:=by
 unfold fV
 split
 ·exact NG hS a d
 ·omega
theorem Gn {s:aH} {l:List aa} (hS:gj s) {i:Nat} (hi:i<l.length) {d:Int}:∀b∈lu s l i d,b.a<l.length/\b.b<l.length/\0<=b.s/\b.s<=4:=by
 intro b hb
 unfold lu at hb
 split at hb
 ·rename_i h
  simp only[List.mem_singleton]at hb
  subst hb
  exact⟨hi,(jL h.1).1,by simp only;omega,Be hS ..⟩
 ·cases hb
theorem Gp {s:aH} {l:List aa} (hS:gj s):∀b∈dP s l,b.a<l.length/\b.b<l.length/\0<=b.s/\b.s<=4:=by
 intro b hb
 simp only[dP,kW,ik,List.mem_flatMap,List.mem_range]at hb
 obtain⟨i,hi,j,_,hb⟩:=hb
 exact Gn hS hi b hb
theorem uW {s:aH} {l:List aa} (hF:lJ l):(dP s l).length<=1000:=by
 have:=Bf s l l.length
 have:=hF.CX
 rw[dP];omega
theorem G3 {n:Nat} {bs:List PB} {t:Int} (h:n<2):r5 n bs t:=fun S h0 ⟨y,hy,hf⟩=>by
 have:y=0:=ab
 subst this;rw[h0]at hf;cases hf
def mz (s:aH) (l:List aa) (t:Int):Nat:=(leads l.length (fI (cH t (dP s l)))).length
noncomputable def tJ (s:aH) (l:List aa) (t:Int):Bool:=@decide (mu l.length (dP s l) t) (Classical.propDecidable _)
theorem xd {s:aH} {l:List aa} {t:Int} {p:Prop} [Decidable p] (h:p↔mu l.length (dP s l) t):decide p=tJ s l t:=by
 letI:=Classical.propDecidable (mu l.length (dP s l) t)
 unfold tJ
 by_cases hp:p
 ·rw[decide_eq_true hp];exact(decide_eq_true (h.1 hp)).symm
 ·rw[decide_eq_false hp];exact(decide_eq_false fun k=>hp (h.2 k)).symm
structure kU (s:ax):Prop where
 set:gj s.ar
 nI:ju s.ar s.dI.ah
 some:1<=s.dI.ah.length
 pz:je s.bD 1 16=true
 holds:mu s.dI.ah.length (dP s.ar s.dI.ah) s.bD
noncomputable def nJ (s:ax):Bool:=@decide (kU s) (Classical.propDecidable _)
theorem rJ {s:ax}:nJ s=true↔kU s:=by simp[nJ]
theorem rK {s:ax} (h:¬kU s):false=nJ s:=by simp[nJ,h]
theorem K7 {s:ax} (h:kU s):true=nJ s:=by simp[nJ,h]
theorem zm {s:aH} {l:List aa} {t:Int}:tJ s l t=true↔mu l.length (dP s l) t:=by simp[tJ]
theorem NF {s:aH} (hS:gj s) (a d:Int):0<=mc s (bp (aW s a) d):=by
 have hF:=hS.form
 have iO:bp (aW s a) d=0∨(0<=bp (aW s a) d/\bp (aW s a) d<=s.bU.length):=by
  unfold bp aW
  rw[List.getD_eq_getElem?_getD,List.getD_eq_getElem?_getD]
  rcases ht:s.ah[a.toNat]? with _|t
  ·exact .inl (by simp[qg])
  ·have Ty:=List.mem_of_getElem? ht
   simp only[Option.getD_some]
   rcases hg:t.dM[d.toNat]? with _|g
   ·exact .inl rfl
   ·exact .inr (hF.ou t Ty g (List.mem_of_getElem? hg))
 unfold mc
 by_cases h0:bp (aW s a) d=0
 ·rw[if_pos h0];omega
 ·rw[if_neg h0]
  have hk:(bp (aW s a) d-1).toNat<s.bU.length:=ab
  have:=eH (hS.Sx _ hk).2.1
  unfold tj at this
  unfold mE
  omega
theorem Bd {s:aH} (hS:gj s) (a d b:Int):0<=fV s a d b/\fV s a d b<=4:=by
 refine⟨?_,Be hS a d b⟩
 unfold fV
 split
 ·exact NF hS a d
 ·omega
def eD (s:aH) (f:af->Int) (p:af) (t:Int):Nat->Int
 |0=>0
 |d+1=>eD s f p t d+if 0<=f (cN p d)then fV s t d (f (cN p d))else 0
def mW (s:aH) (f:af->Int) (p:af) (t:Int):Int:=eD s f p t 4
theorem nV {s:aH} (hS:gj s) (f:af->Int) (p:af) (t:Int):∀d,0<=eD s f p t d/\eD s f p t d<=4*(d:Int)
 |0=>⟨Int.le_refl _,Int.le_refl _⟩
 |d+1=>by
  have:=nV hS f p t d
  have hb:=Bd hS t d (f (cN p d))
  simp only[eD]
  split<;>omega
theorem IJ {s:aH} {l:List aa} (hA:ju s l) {p:af} (h:0<=gJ l p):ef s (gJ l p)=true:=by
 unfold gJ at h ⊢
 split at h
 ·rename_i h0
  rw[if_pos h0]
  exact hA.2 _ (gP (jL h0).1)
 ·omega
theorem Lc {s:aH} {k:Nat} (h:k<s.ah.length):ef s k=true:=by
 unfold ef;exact ly ab
theorem De {s:aH} {l:List aa} (hA:ju s l) (p:af):gJ l p<0↔eF l p<0:=by
 constructor
 ·intro h
  rcases Int.lt_or_le (eF l p) 0 with h0|h0
  ·exact h0
  ·exfalso
   obtain⟨h1,_⟩:=jL h0
   have h2:=(eH (hA.2 _ (gP h1))).1
   rw[gJ,if_pos h0]at h
   omega
 ·intro h
  rw[gJ,if_neg ab];omega
abbrev mP:MK:=⟨true,[.tI,.tI]⟩
theorem Ck (p:af):∀(ts:List aa) (i:Nat),fB mP (aj p) (ts.map ai) i=some (if pw ts p<ts.length then some (i+pw ts p)else none)
 |[],i=>by simp[fB,pw]
 |t::ts,i=>by
  have e:ed mP.ts (aj p) ((ai t).take mP.ks)=some (decide (p=t.cG)):=by
   have h:(p=t.cG)↔(p.fu=t.cG.fu/\p.eZ=t.cG.eZ):=⟨fun h=>by rw[h];exact⟨rfl,rfl⟩,fun h=>Es h.1 h.2⟩
   simp[MK.ks,aj,ai,ed,eA,h]
  have ih:=Ck p ts (i+1)
  rw[List.map_cons]
  unfold fB
  rw[e]
  by_cases h:p=t.cG
  ·rw[decide_eq_true h]
   have h0:pw (t::ts) p=0:=by simp[pw,List.findIdx_cons,h]
   simp[h0]
  ·rw[decide_eq_false h]
   have h0:pw (t::ts) p=pw ts p+1:=by
    simp[pw,List.findIdx_cons,Ne.symm h]
   simp only[ih,h0,List.length_cons,Nat.add_lt_add_iff_right]
   congr 1
   split<;>simp;omega
theorem y3 (ts:List aa) (p:af):fb mP (.agg [.int .i64 p.fu,.int .i64 p.eZ]) (ts.map ai)=some (if 0<=eF ts p then some (eF ts p).toNat else none):=by
 have h:=Ck p ts 0
 unfold fb
 rw[if_pos ⟨rfl,rfl,rfl⟩]
 show fB mP (aj p) _ 0= _
 rw[h]
 unfold eF
 split<;>simp
theorem Hp {ts:List aa} {p:af} (h:0<=eF ts p):fb mP (.agg [.int .i64 p.fu,.int .i64 p.eZ]) (ts.map ai)=some (some (eF ts p).toNat):=by rw[y3,if_pos h]
theorem qe {ts:List aa} {p:af} (h:eF ts p<0):fb mP (.agg [.int .i64 p.fu,.int .i64 p.eZ]) (ts.map ai)=some none:=by rw[y3,if_neg ab]
structure CW (g:Rows) (n:Nat) (c T O:Id) (s:ax) (ts:List aa):Prop where
 row:∃b,g c=some ⟨b,6,[[.sl (s.ar.bU.map ea),.sl (s.ar.ah.map dS),.sl (s.dI.ah.map ai),.int .i64 s.bD,.map T mP,.map O mP]]⟩
 tl:∃b,g T=some ⟨b,mP.j5,ts.map ai⟩
 cv:c.cW<n
 tv:T.cW<n
 ov:O.cW<n
theorem CW.ro {g:Rows} {n:Nat} {c T O:Id} {s:ax} {ts:List aa} (h:CW g n c T O s ts):CW (V.ro g) n c T O s ts:=by
 obtain⟨b,h1⟩:=h.row
 obtain⟨b2,h2⟩:=h.tl
 exact⟨⟨false,by simp[V.ro,h1]⟩,⟨false,by simp[V.ro,h2]⟩,h.cv,h.tv,h.ov⟩
theorem CW.frame {g g':Rows} {n n':Nat} {c T O:Id} {s:ax} {ts:List aa} (h:CW g n c T O s ts) (hn:n<=n') (hc:g' c=g c) (hT:g' T=g T):CW g' n' c T O s ts:=
 ⟨by rw[hc];exact h.row,by rw[hT];exact h.tl,Nat.lt_of_lt_of_le h.cv hn,Nat.lt_of_lt_of_le h.tv hn,Nat.lt_of_lt_of_le h.ov hn⟩
theorem VY {σ:aq} {c T O:Id} {s:ax} {ts:List aa} (h:CW σ.get σ.next c T O s ts) (p:af):Call Tryz.prog 172 [.ptr c 0 0,.agg (aj p)] σ (fun r _=>r=.int .i64 (gJ ts p)):=by
 refine eU fH rfl fun fR=>?_
 clear fR
 obtain⟨b,h1⟩:=h.row
 obtain⟨b2,h2⟩:=h.tl
 have v1:=dE h.cv
 have v2:=dE h.tv
 by_cases h0:0<=eF ts p
 ·have hm:=Hp h0
  have hg:=jn (jL h0).1
  have ho:(some (eF ts p).toNat).isSome=true:=rfl
  (try((repeat(revert hN;revert N;apply Pn.out));refine wk (tw @h1 (tw @h2 (tw @v1 (tw @v2 (tw @hm (tw @hg (tw @ho (tw @aj.eq_1 @ai.eq_1)))))))) ?_;(repeat(refine Pn.mk ?_;intro N hN))))
  exact eK (.inl rfl) (vs:=[.int .i64 (cP ts (eF ts p).toNat).cL]) (sd @Nat.zero_add) (by rw[gJ,if_pos h0];rfl)
 ·have hm:=qe (ts:=ts) (p:=p) ab
  have ho:(none:Option Nat).isSome=false:=rfl
  (try((repeat(revert hN;revert N;apply Pn.out));refine wk (tw @h1 (tw @h2 (tw @v1 (tw @v2 (tw @hm (tw @ho @aj.eq_1)))))) ?_;(repeat(refine Pn.mk ?_;intro N hN))))
  exact eK (.inl rfl) (vs:=[.int .i64 (-1)]) (sd @Nat.zero_add) (by rw[gJ,if_neg h0];rfl)
theorem Pc {σ:aq} {c T O:Id} {s:ax} {ts:List aa} (h:CW σ.get σ.next c T O s ts) (p:af):ez (Call Tryz.prog) 172 [.ptr c 0 0,.agg (aj p)] σ (fun r=>r=.int .i64 (gJ ts p)):=by
 unfold ez PC
 exact Or.inl (aS _ _ _ _ _ (fun r σ' hr=>⟨_,by rw[hr];exact aL _ _ _ _,rfl⟩) (VY (σ:=⟨V.ro σ.get,σ.next⟩) h.ro p))
theorem Gl {σ:aq} (s:aH) (hS:gj s) (F:af->Int) (hF:∀q,0<=F q->ef s (F q)=true) (p:af) (hx:iB p.fu) (hy:iB p.eZ) (t:Int) (ht:ef s t=true) (f:Nat) (first:List AV)
  (BP:∀σ':aq,σ.next<=σ'.next->(∀x:Id,x.cW<σ.next->σ'.get x=σ.get x)->∀q,ez (Call Tryz.prog) f (first++[.agg (aj q)]) σ' (fun r=>r=.int .i64 (F q))):
  Call Tryz.prog 173 [.agg (ao s),.agg (aj p),.int .i64 t,.tD f first] σ (fun r _=>r=.int .i64 (mW s F p t)):=by
 refine eU fH rfl fun fR=>?_
 clear fR
 (try((repeat(revert hN;revert N;apply Pn.out));refine wk (tw @aj.eq_1 @ao.eq_1) ?_;(repeat(refine Pn.mk ?_;intro N hN))))
 refine cU (fun n env st=>∃k:Nat,n=(4)-k/\k<=(4)/\env 12=.int .i64 (k:Int)/\env 9=.int .i64 (eD s F p t k)/\st.get ⟨173000000,σ.next⟩=some ⟨true,2,[ao s]⟩/\st.get ⟨173000001,σ.next⟩=some ⟨true,2,[aj p]⟩/\(σ.next<st.next/\∀x:Id,x.cW<σ.next->st.get x=σ.get x)) (4) ⟨0,ab,ab,sl (tw @aj.eq_1 @ao.eq_1),sl (tw @aj.eq_1 @ao.eq_1),sl (tw @aj.eq_1 @ao.eq_1),sl (tw @aj.eq_1 @ao.eq_1),⟨bL,fun x hx=>by
  have:=dE hx
  simp only[go_sem, ↓reduceIte,Nat.reduceEqDiff,Nat.reduceAdd,Nat.reduceSub,Nat.reduceLeDiff,reduceCtorEq,this]⟩⟩ ?_
 rintro n_a env_a st_a ⟨k,rfl,ale,a12,a9,ag0,ag1,qn⟩ eL
 have a2:=eL 2 (by kernel_rfl);have a3:=eL 3 (by kernel_rfl);have a4:=eL 4 (by kernel_rfl);have a5:=eL 5 (by kernel_rfl)
 simp only[go_sem, ↓reduceIte,Nat.reduceEqDiff,Nat.reduceAdd,Nat.reduceSub,Nat.reduceLeDiff,reduceCtorEq,aj,ao]at a2 a3 a4 a5
 clear eL
 obtain⟨an,eL⟩:=qn
 by_cases hk:(k:Int)<4
 ·have eB:∀{e:Env} {gg:Rows} {nx:Nat},(e 12=.int .i64 (IntKind.i64.wrap ((k:Int)+1)))->(e 9=.int .i64 (eD s F p t (k+1)))->(gg ⟨173000000,σ.next⟩=some ⟨true,2,[ao s]⟩)->(gg ⟨173000001,σ.next⟩=some ⟨true,2,[aj p]⟩)->(σ.next<nx/\∀x:Id,x.cW<σ.next->gg x=σ.get x)->∃m0,m0<(4)-k/\∃k:Nat,m0=(4)-k/\k<=(4)/\e 12=.int .i64 (k:Int)/\e 9=.int .i64 (eD s F p t k)/\gg ⟨173000000,σ.next⟩=some ⟨true,2,[ao s]⟩/\gg ⟨173000001,σ.next⟩=some ⟨true,2,[aj p]⟩/\(σ.next<nx/\∀x:Id,x.cW<σ.next->gg x=σ.get x):=fun x1 x2 x3 x4 x5=>⟨_,ab,k+1,rfl,ab,(by rw[x1,cI ab]),x2,x3,x4,x5⟩
  have ee:=EK p k (ly ab) hx hy
  have iO:=nV hS F p t k
  (repeat(first|((repeat(revert hN;revert N;apply Pn.out));refine wk (tw @a12 (tw @a9 (tw @ag0 (tw @ag1 (tw @a2 (tw @a3 (tw @a4 (tw @a5 (tw @hk @aj.eq_1))))))))) ?_;(repeat(refine Pn.mk ?_;intro N hN)))|((try apply Or.inl);refine⟨_,aP.x (ee) (sd (tw @a12 (tw @a9 (tw @ag0 (tw @ag1 (tw @a2 (tw @a3 (tw @a4 (tw @a5 (tw @hk @aj.eq_1)))))))))),?_⟩;refine hN _ _ ?_;clear hN N)))
  refine .inl ⟨_,BP _ bL (fun x hx=>sd (eL x hx)) (cN p k),?_⟩
  refine hN _ _ ?_
  clear hN N
  by_cases h0:0<=F (cN p k)
  ·have Ie:=IW s hS.form t k (F (cN p k)) ht (hF _ h0) (ly ab)
   have rW:=Bd hS t k (F (cN p k))
   have hw:IntKind.i64.wrap (eD s F p t k+fV s t k (F (cN p k)))=eD s F p t (k+1):=by
    rw[dy ab,eD,if_pos h0]
   rw[ao]at Ie
   (repeat(first|((repeat(revert hN;revert N;apply Pn.out));refine wk (tw @a12 (tw @a9 (tw @ag0 (tw @ag1 (tw @a2 (tw @a3 (tw @a4 (tw @a5 (tw @h0 @ao.eq_1))))))))) ?_;(repeat(refine Pn.mk ?_;intro N hN)))|((try apply Or.inl);refine⟨_,aP.x (Ie) (sd (tw @a12 (tw @a9 (tw @ag0 (tw @ag1 (tw @a2 (tw @a3 (tw @a4 (tw @a5 (tw @h0 @ao.eq_1)))))))))),?_⟩;refine hN _ _ ?_;clear hN N)))
   refine eB ?_ ?_ ?_ ?_ (⟨bL,fun x hx=>by
    have h1:=eL x hx
    simp only[go_sem, ↓reduceIte,Nat.reduceEqDiff,Nat.reduceAdd,Nat.reduceSub,Nat.reduceLeDiff,reduceCtorEq,h1]⟩)
   all_goals simp only[go_sem, ↓reduceIte,Nat.reduceEqDiff,Nat.reduceAdd,Nat.reduceSub,Nat.reduceLeDiff,reduceCtorEq,a12,a9,ag0,ag1,a2,a3,a4,a5,hw,aj,ao]
  ·have hw:eD s F p t (k+1)=eD s F p t k:=by rw[eD,if_neg h0,Int.add_zero]
   (try((repeat(revert hN;revert N;apply Pn.out));refine wk (tw @a12 (tw @a9 (tw @ag0 (tw @ag1 (tw @a2 (tw @a3 (tw @a4 (tw @a5 @h0)))))))) ?_;(repeat(refine Pn.mk ?_;intro N hN))))
   refine eB ?_ ?_ ?_ ?_ (⟨bL,fun x hx=>by
    have h1:=eL x hx
    simp only[go_sem, ↓reduceIte,Nat.reduceEqDiff,Nat.reduceAdd,Nat.reduceSub,Nat.reduceLeDiff,reduceCtorEq,h1]⟩)
   all_goals simp only[go_sem, ↓reduceIte,Nat.reduceEqDiff,Nat.reduceAdd,Nat.reduceSub,Nat.reduceLeDiff,reduceCtorEq,a12,a9,ag0,ag1,a2,a3,a4,a5,hw,aj,ao]
 ·(try((repeat(revert hN;revert N;apply Pn.out));refine wk (tw @a12 (tw @a9 (tw @ag0 (tw @ag1 (tw @a2 (tw @a3 (tw @a4 (tw @a5 @hk)))))))) ?_;(repeat(refine Pn.mk ?_;intro N hN))))
  exact eK (.inl rfl) (vs:=[.int .i64 (eD s F p t k)]) (sd (tw @a12 (tw @a9 (tw @ag0 (tw @ag1 (tw @a2 (tw @a3 (tw @a4 @a5)))))))) (by rw[show k=4 by omega];rfl)
noncomputable def eI (s:ax) (ts:List aa) (p:af) (t:Int):Bool:=za p&&decide (gJ ts p<0)&&decide (s.bD<=mW s.ar (gJ ts) p t)
theorem Gm {σ:aq} {c T O:Id} {s:ax} {ts:List aa} (h:CW σ.get σ.next c T O s ts) (hS:gj s.ar) (hF:∀q,0<=gJ ts q->ef s.ar (gJ ts q)=true) (p:af) (hx:iB p.fu) (hy:iB p.eZ) (t:Int) (ht:ef s.ar t=true):
  ez (Call Tryz.prog) 173 [.agg (ao s.ar),.agg (aj p),.int .i64 t,.tD 172 [.ptr c 0 0]] σ (fun r=>r=.int .i64 (mW s.ar (gJ ts) p t)):=by
 unfold ez PC
 exact Or.inl (aS _ _ _ _ _ (fun r σ' hr=>⟨_,by rw[hr];exact aL _ _ _ _,rfl⟩) (Gl (σ:=⟨V.ro σ.get,σ.next⟩) s.ar hS (gJ ts) hF p hx hy t ht _ _
  (fun σ' hn hk q=>Pc (h.ro.frame hn (hk _ h.cv) (hk _ h.tv)) q)))
theorem PD {σ:aq} {c T O:Id} {s:ax} {ts:List aa} (h:CW σ.get σ.next c T O s ts) (hS:gj s.ar) (hF:∀q,0<=gJ ts q->ef s.ar (gJ ts q)=true) (p:af) (t:Int) (ht:ef s.ar t=true):
  Call Tryz.prog 129 [.ptr c 0 0,.agg (aj p),.int .i64 t] σ (fun r _=>r=.bool (eI s ts p t)):=by
 refine eU fH rfl fun fR=>?_
 clear fR
 obtain⟨b,h1⟩:=h.row
 have v1:=dE h.cv
 have hw:=qy p
 have v2:=dE h.tv
 by_cases h0:za p=true
 ·rw[h0]at hw
  obtain⟨hx,hy⟩:=Ax h0
  by_cases h2:gJ ts p<0
  ·(repeat(first|((repeat(revert hN;revert N;apply Pn.out));refine wk (tw @h1 (tw @v1 (tw @h2 @aj.eq_1))) ?_;(repeat(refine Pn.mk ?_;intro N hN)))|((try apply Or.inl);refine⟨_,aP.x (hw) (sd (tw @h1 (tw @v1 (tw @h2 @aj.eq_1)))),?_⟩;refine hN _ _ ?_;clear hN N)))
   refine⟨_,Pc (h.frame bL (sd @v1) (sd @v2)) p,?_⟩
   refine hN _ _ ?_
   clear hN N
   (repeat(first|((repeat(revert hN;revert N;apply Pn.out));refine wk (tw @h1 (tw @v1 (tw @h2 (tw @aj.eq_1 @ao.eq_1)))) ?_;(repeat(refine Pn.mk ?_;intro N hN)))|((try apply Or.inl);refine⟨_,aP.x (hw) (sd (tw @h1 (tw @v1 (tw @h2 (tw @aj.eq_1 @ao.eq_1))))),?_⟩;refine hN _ _ ?_;clear hN N)))
   refine⟨_,Gm (h.frame bL (sd @v1) (sd @v2)) hS hF p hx hy t ht,?_⟩
   refine hN _ _ ?_
   clear hN N
   have hb:=nV hS (gJ ts) p t 4
   (repeat(first|((repeat(revert hN;revert N;apply Pn.out));refine wk (tw @h1 (tw @v1 (tw @h2 (tw @aj.eq_1 @ao.eq_1)))) ?_;(repeat(refine Pn.mk ?_;intro N hN)))|((try apply Or.inl);refine⟨_,aP.x (hw) (sd (tw @h1 (tw @v1 (tw @h2 (tw @aj.eq_1 @ao.eq_1))))),?_⟩;refine hN _ _ ?_;clear hN N)))
   exact eK (.inl rfl) (vs:=[.bool (decide (s.bD<=mW s.ar (gJ ts) p t))]) (sd @Nat.zero_add) (by rw[show eI s ts p t=decide (s.bD<=mW s.ar (gJ ts) p t) by simp[eI,h0,h2]];rfl)
  ·(repeat(first|((repeat(revert hN;revert N;apply Pn.out));refine wk (tw @h1 (tw @v1 (tw @h2 @aj.eq_1))) ?_;(repeat(refine Pn.mk ?_;intro N hN)))|((try apply Or.inl);refine⟨_,aP.x (hw) (sd (tw @h1 (tw @v1 (tw @h2 @aj.eq_1)))),?_⟩;refine hN _ _ ?_;clear hN N)))
   refine⟨_,Pc (h.frame bL (sd @v1) (sd @v2)) p,?_⟩
   refine hN _ _ ?_
   clear hN N
   (repeat(first|((repeat(revert hN;revert N;apply Pn.out));refine wk (tw @h1 (tw @v1 (tw @h2 @aj.eq_1))) ?_;(repeat(refine Pn.mk ?_;intro N hN)))|((try apply Or.inl);refine⟨_,aP.x (hw) (sd (tw @h1 (tw @v1 (tw @h2 @aj.eq_1)))),?_⟩;refine hN _ _ ?_;clear hN N)))
   exact eK (.inl rfl) (vs:=[.bool false]) (sd @Nat.zero_add) (by rw[show eI s ts p t=false by simp[eI,h2]];rfl)
 ·rw[Bool.not_eq_true]at h0
  rw[h0]at hw
  (repeat(first|((repeat(revert hN;revert N;apply Pn.out));refine wk (tw @h1 (tw @v1 @aj.eq_1)) ?_;(repeat(refine Pn.mk ?_;intro N hN)))|((try apply Or.inl);refine⟨_,aP.x (hw) (sd (tw @h1 (tw @v1 @aj.eq_1))),?_⟩;refine hN _ _ ?_;clear hN N)))
  exact eK (.inl rfl) (vs:=[.bool false]) (sd @Nat.zero_add) (by rw[show eI s ts p t=false by simp[eI,h0]];rfl)
def OW (rows:List (List AV)):Prop:=∀r∈rows,∃(x y:Int) (v:AV),r=[.int .i64 x,.int .i64 y,v]
def NY (σ:aq) (O:Id) (g:Rows) (n:Nat):Prop:=σ.next<=n/\(∀x:Id,x.cW<σ.next->x≠O->g x=σ.get x)/\∃rows,g O=some ⟨true,mP.j5,rows⟩/\OW rows
theorem PE {σ:aq} {c T O:Id} {s:ax} {ts:List aa} (h:CW σ.get σ.next c T O s ts) (hS:gj s.ar) (hF:∀q,0<=gJ ts q->ef s.ar (gJ ts q)=true) (p:af) (t:Int) (ht:ef s.ar t=true):
  ez (Call Tryz.prog) 129 [.ptr c 0 0,.agg (aj p),.int .i64 t] σ (fun r=>r=.bool (eI s ts p t)):=by
 unfold ez PC
 exact Or.inl (aS _ _ _ _ _ (fun r σ' hr=>⟨_,by rw[hr];exact aI _ _ _,rfl⟩) (PD (σ:=⟨V.ro σ.get,σ.next⟩) h.ro hS hF p t ht))
structure lq (g:Rows) (n:Nat) (c T O:Id) (s:ax) (ts:List aa):Prop where
 row:g c=some ⟨true,6,[[.sl (s.ar.bU.map ea),.sl (s.ar.ah.map dS),.sl (s.dI.ah.map ai),.int .i64 s.bD,.map T mP,.map O mP]]⟩
 tl:g T=some ⟨true,mP.j5,ts.map ai⟩
 op:∃rows,g O=some ⟨true,mP.j5,rows⟩/\OW rows
 cv:c.cW<n
 tv:T.cW<n
 ov:O.cW<n
 cT:c≠T
 cO:c≠O
 TO:T≠O
theorem lq.Se {g:Rows} {n:Nat} {c T O:Id} {s:ax} {ts:List aa} (h:lq g n c T O s ts):CW g n c T O s ts:=⟨⟨_,h.row⟩,⟨_,h.tl⟩,h.cv,h.tv,h.ov⟩
theorem lq.look {σ:aq} {g:Rows} {n:Nat} {c T O:Id} {s:ax} {ts:List aa} (h:lq σ.get σ.next c T O s ts) (k:NY σ O g n):lq g n c T O s ts:=
 ⟨(k.2.1 _ h.cv h.cO).trans h.row,(k.2.1 _ h.tv h.TO).trans h.tl,k.2.2,Nat.lt_of_lt_of_le h.cv k.1,Nat.lt_of_lt_of_le h.tv k.1,Nat.lt_of_lt_of_le h.ov k.1,h.cT,h.cO,h.TO⟩
theorem lq.frame {g g':Rows} {n n':Nat} {c T O:Id} {s:ax} {ts:List aa} (h:lq g n c T O s ts) (hn:n<=n') (hf:∀x:Id,x.cW<n->g' x=g x):lq g' n' c T O s ts:=
 ⟨(hf _ h.cv).trans h.row,(hf _ h.tv).trans h.tl,by rw[hf _ h.ov];exact h.op,Nat.lt_of_lt_of_le h.cv hn,Nat.lt_of_lt_of_le h.tv hn,Nat.lt_of_lt_of_le h.ov hn,h.cT,h.cO,h.TO⟩
theorem wc {l:List aa} {p:af}:eF l p<0↔∀t∈l,t.cG≠p:=by
 unfold eF pw
 by_cases h:(l.findIdx fun c=>decide (c.cG=p))<l.length
 ·rw[if_pos h]
  obtain⟨t,ht,h2⟩:=List.findIdx_lt_length.1 h
  exact⟨fun h=>ab,fun h=>absurd (by simpa using h2) (h t ht)⟩
 ·rw[if_neg h]
  exact⟨fun _ t ht e=>h (List.findIdx_lt_length.2 ⟨t,ht,by simp[e]⟩),fun _=>ab⟩
theorem Lb {l:List aa} (h:nq l) {k:Nat} (hk:k<l.length):eF (l.take k) (cP l k).cG<0:=by
 rw[wc]
 intro t ht e
 obtain⟨j,hj,rfl⟩:=List.getElem_of_mem ht
 have LC:j<k:=by rw[List.length_take]at hj;omega
 have:=h j k LC hk
 rw[List.getElem_take]at e
 have e2:cP l j=l[j]'ab:=by unfold cP;rw[List.getD_eq_getElem?_getD,List.getElem?_eq_getElem ab];rfl
 rw[e2,e]at this
 simp[kR]at this
theorem NJ {l:List aa} {k:Nat} (hk:k<l.length):(l.take k).map ai++[[.int .i64 (cP l k).cG.fu,.int .i64 (cP l k).cG.eZ,.int .i64 (cP l k).cL]]=(l.take (k+1)).map ai:=by
 have e2:cP l k=l[k]:=by unfold cP;rw[List.getD_eq_getElem?_getD,List.getElem?_eq_getElem hk];rfl
 rw[List.take_succ_eq_append_getElem hk,List.map_append,e2]
 rfl
theorem gj.N4 {s:aH} {l:List aa} (hA:ju s l):∀q,0<=gJ l q->ef s (gJ l q)=true:=fun _ h=>IJ hA h
end Go.Proofs.YtakkdjfmiffbfaaGreatDoor.V

namespace Go.Proofs.YtakkdjfmiffbfaaGreatDoor.V
open Go.RowKit
def l6:List aa->aa->List aa
 |[],q=>[q]
 |x::r,q=>if kR q.cG x.cG=true then q::x::r else x::l6 r q
theorem lW {q x:aa}:∀{l:List aa},x∈l6 l q↔x=q∨x∈l
 |[]=>by simp[l6]
 |y::r=>by
  have ih:=@lW q x r
  rw[l6]
  split
  ·simp
  ·simp only[List.mem_cons,ih]
   constructor
   ·rintro(h|h|h)<;>simp[h]
   ·rintro(h|h|h)<;>simp[h]
theorem wR (q:aa):∀l:List aa,(l6 l q).length=l.length+1
 |[]=>rfl
 |y::r=>by
  have ih:=wR q r
  rw[l6]
  split
  ·simp
  ·simp[ih]
theorem ma {l:List aa}:nq l↔l.Pairwise fun a b=>kR a.cG b.cG=true:=by
 rw[List.pairwise_iff_getElem]
 constructor
 ·intro h i j hi hj Ab
  have:=h i j Ab hj
  rwa [fj hi,fj hj]at this
 ·intro h i j Ab hj
  have:=h i j ab hj Ab
  rwa [fj ab,fj hj]
theorem lg {l:List aa} {p:af}:eF l p<0↔∀t∈l,t.cG≠p:=wc
theorem KF {q:aa}:∀{l:List aa},nq l->eF l q.cG<0->nq (l6 l q):=by
 intro l
 rw[ma,ma,lg]
 induction l with
 |nil=>intro _ _;exact List.pairwise_singleton _ _
 |cons y r ih=>
  intro h hn
  obtain⟨h1,h2⟩:=List.pairwise_cons.1 h
  rw[l6]
  split
  ·rename_i hl
   refine List.pairwise_cons.2 ⟨fun x hx=>?_,h⟩
   rcases List.mem_cons.1 hx with rfl|hx
   ·exact hl
   ·exact iu hl (h1 x hx)
  ·rename_i hl
   rw[Bool.not_eq_true]at hl
   refine List.pairwise_cons.2 ⟨fun x hx=>?_,ih h2 fun t ht=>hn t (by simp[ht])⟩
   rcases lW.1 hx with rfl|hx
   ·exact uu hl fun e=>hn y (by simp) e.symm
   ·exact h1 x hx
theorem jC (x:aa) (r:List aa) (p:af):gJ (x::r) p=if x.cG=p then x.cL else gJ r p:=by
 unfold gJ eF pw
 rw[List.findIdx_cons]
 by_cases h:x.cG=p
 ·simp[h,cP]
 ·simp only[h,decide_false,cond_false,List.length_cons,Nat.add_lt_add_iff_right,if_false]
  by_cases hl:(r.findIdx fun c=>decide (c.cG=p))<r.length
  ·rw[if_pos hl,if_pos hl,if_pos ab,if_pos ab]
   simp[cP]
  ·rw[if_neg hl,if_neg hl];rfl
theorem A7 {q:aa} (p:af):∀{l:List aa},(∀t∈l,t.cG≠q.cG)->gJ (l6 l q) p=if q.cG=p then q.cL else gJ l p
 |[],_=>by rw[l6,jC]
 |x::r,h=>by
  have ih:=@A7 q p r fun t ht=>h t (by simp[ht])
  rw[l6]
  split
  ·rw[jC]
  ·rw[jC,ih,jC]
   by_cases h1:x.cG=p
   ·have h2:q.cG≠p:=fun e=>h x (by simp) (h1.trans e.symm)
    rw[if_pos h1,if_neg h2,if_pos h1]
   ·rw[if_neg h1,if_neg h1]
theorem qz {q:aa} (p:af):∀{l:List aa},(∀t∈l,t.cG≠q.cG)->gJ (l++[q]) p=if q.cG=p then q.cL else gJ l p
 |[],_=>by rw[List.nil_append,jC]
 |x::r,h=>by
  have ih:=@qz q p r fun t ht=>h t (by simp[ht])
  rw[List.cons_append,jC,ih,jC]
  by_cases h1:x.cG=p
  ·have h2:q.cG≠p:=fun e=>h x (by simp) (h1.trans e.symm)
   rw[if_pos h1,if_neg h2,if_pos h1]
  ·rw[if_neg h1,if_neg h1]
theorem l5 {α:Type} [DecidableEq α]:∀{xs ys:List α},xs.Nodup->(∀x∈xs,x∈ys)->xs.length<=ys.length
 |[],_,_,_=>Nat.zero_le _
 |x::xs,ys,hn,h=>by
  obtain⟨h1,h2⟩:=List.nodup_cons.1 hn
  have hx:=h x (by simp)
  have:=@l5 α _ xs (ys.erase x) h2 fun y hy=>(List.mem_erase_of_ne fun e=>h1 (by rw[<-e];exact hy)).2 (h y (by simp[hy]))
  rw[List.length_erase_of_mem hx]at this
  have:=List.length_pos_of_mem hx
  rw[List.length_cons];omega
theorem HD {l:List aa} (h:nq l):l.Nodup:=by
 rw[ma]at h
 refine List.Pairwise.imp (fun {a b} qQ e=>?_) h
 rw[e,gq]at qQ;cases qQ
abbrev LQ:=List aa×List aa
theorem Jj {s:ax} {l:List aa} (hA:ju s.ar l) {now:List aa} (hs:∀x∈now,x∈l) {p:af} {t:Int} (h:eI s now p t=true):eF now p<0:=by
 rcases Int.lt_or_le (eF now p) 0 with h0|h0
 ·exact h0
 ·exfalso
  obtain⟨h1,_⟩:=jL h0
  have h2:=(eH (hA.2 _ (hs _ (gP h1)))).1
  simp[eI,gJ,h0]at h
  omega
structure IE (s:ax):Prop where
 set:gj s.ar
 nI:ju s.ar s.dI.ah
 some:1<=s.dI.ah.length
 pz:je s.bD 1 16=true
theorem kU.w {s:ax} (h:kU s):IE s:=⟨h.set,h.nI,h.some,h.pz⟩
end Go.Proofs.YtakkdjfmiffbfaaGreatDoor.V

namespace Go.Proofs.YtakkdjfmiffbfaaGreatDoor.V
open Go.RowKit
attribute [local irreducible] dL wpOps ez Call
attribute [local go_sem] ay ew dZ eE eC cY upd bJ K.av bZ AV.cells AV.cell rowOf rowsOf part ld rowAt eO bH bI cX dj eQ bq cF dx eA ed cQ dq cD cC dc de bu aE cm bt cr cq dn dr dp ck bz cE dm br aw cw bQ eP aZ bW bx aD cR aQ cZ AV.undef bd bj dh di c6 da bV dw dz bP du dt cu cz List.getD_cons_zero List.getD_cons_succ List.getD_nil List.all_cons List.all_nil Bool.and_true Bool.true_and Bool.and_self Bool.not_true Bool.not_false Option.map_some Option.map_none Option.bind_some Option.bind_none List.length_cons List.length_nil List.take_succ_cons List.take_zero List.take_nil List.drop_succ_cons List.drop_zero List.drop_nil List.head?_cons List.map_cons List.map_nil List.getElem?_cons_zero List.getElem?_cons_succ List.cons_append List.nil_append List.append_nil List.length_map List.set_cons_zero List.set_cons_succ Nat.reduceMul eq_self Int.toNat_natCast Int.natCast_nonneg and_self true_and and_true decide_true decide_false Bool.false_eq_true Nat.zero_add Nat.add_zero List.contains_cons List.contains_nil Bool.or_false Bool.false_or beq_self_eq_true Nat.reduceBEq ne_eq not_true_eq_false not_false_eq_true Id.mk.injEq false_and and_false Nat.reduceLT Int.reduceLE Int.reduceLT Int.reduceToNat Int.reduceNeg Int.reduceAdd Nat.le_refl List.length_append beq_true beq_false Bool.not_eq_eq_eq_not or_false false_or dW ad ae aL aI bf bR az bc aA aJ cj bh
def IF (t:dR):Prop:=t.dM.length<=1048576
structure R3 (s:aH):Prop where
 g:s.bU.length<=1048576
 t:s.ah.length<=1048576
 s:∀t∈s.ah,IF t
structure ID (y:ax):Prop where
 s:R3 y.ar
 a:y.dI.ah.length<=1048576
variable {P:Program}
end Go.Proofs.YtakkdjfmiffbfaaGreatDoor.V

namespace Go.Proofs.YtakkdjfmiffbfaaGreatDoor.V
open Go.RowKit
attribute [local irreducible] dL wpOps ez Call
attribute [local go_sem] ay ew dZ eE eC cY upd bJ K.av bZ AV.cells AV.cell rowOf rowsOf part ld rowAt eO bH bI cX dj eQ bq cF dx eA ed cQ dq cD cC dc de bu aE cm bt cr cq dn dr dp ck bz cE dm br aw cw bQ eP aZ bW bx aD cR aQ cZ AV.undef bd bj dh di c6 da bV dw dz bP du dt cu cz List.getD_cons_zero List.getD_cons_succ List.getD_nil List.all_cons List.all_nil Bool.and_true Bool.true_and Bool.and_self Bool.not_true Bool.not_false Option.map_some Option.map_none Option.bind_some Option.bind_none List.length_cons List.length_nil List.take_succ_cons List.take_zero List.take_nil List.drop_succ_cons List.drop_zero List.drop_nil List.head?_cons List.map_cons List.map_nil List.getElem?_cons_zero List.getElem?_cons_succ List.cons_append List.nil_append List.append_nil List.length_map List.set_cons_zero List.set_cons_succ Nat.reduceMul eq_self Int.toNat_natCast Int.natCast_nonneg and_self true_and and_true decide_true decide_false Bool.false_eq_true Nat.zero_add Nat.add_zero List.contains_cons List.contains_nil Bool.or_false Bool.false_or beq_self_eq_true Nat.reduceBEq ne_eq not_true_eq_false not_false_eq_true Id.mk.injEq false_and and_false Nat.reduceLT Int.reduceLE Int.reduceLT Int.reduceToNat Int.reduceNeg Int.reduceAdd Nat.le_refl List.length_append beq_true beq_false Bool.not_eq_eq_eq_not or_false false_or dW ad ae aL aI bf bR az bc aA aJ cj bh
end Go.Proofs.YtakkdjfmiffbfaaGreatDoor.V

namespace Go.Proofs.YtakkdjfmiffbfaaGreatDoor
open Go.RowKit
def sa (n:Nat):List UInt8:=if h:n=0 then[]else sa (n / 10)++[UInt8.ofNat (48+n % 10)]
termination_by n
decreasing_by omega
theorem GD:sa 0=[]:=by unfold sa;simp
theorem I8 {n:Nat} (h:n≠0):sa n=sa (n / 10)++[UInt8.ofNat (48+n % 10)]:=by
 conv=>lhs;unfold sa
 rw[dif_neg h]
theorem Gx (c:UInt8) (l:ByteArray):((⟨#[c]⟩++l:ByteArray)).data.toList=c::l.data.toList:=by
 simp[ByteArray.data_append]
theorem Bt:∀(m n:Nat),n<10 ^ m->(sa n).length<=m
 |0,n,h=>by
  have:n=0:=by simpa using h
  subst this;simp[sa]
 |m+1,n,h=>by
  unfold sa
  split
  ·simp
  ·have:=Bt m (n / 10) (by rw[Nat.pow_succ]at h;omega)
   simp;omega
end Go.Proofs.YtakkdjfmiffbfaaGreatDoor

namespace Go.Proofs.YtakkdjfmiffbfaaGreatDoor.V
open Go.RowKit
attribute [local irreducible] dL wpOps ez Call
attribute [local go_sem] ay ew dZ eE eC cY upd bJ K.av bZ AV.cells AV.cell rowOf rowsOf part ld rowAt eO bH bI cX dj eQ bq cF dx eA ed cQ dq cD cC dc de bu aE cm bt cr cq dn dr dp ck bz cE dm br aw cw bQ eP aZ bW bx aD cR aQ cZ AV.undef bd bj dh di c6 da bV dw dz bP du dt cu cz List.getD_cons_zero List.getD_cons_succ List.getD_nil List.all_cons List.all_nil Bool.and_true Bool.true_and Bool.and_self Bool.not_true Bool.not_false Option.map_some Option.map_none Option.bind_some Option.bind_none List.length_cons List.length_nil List.take_succ_cons List.take_zero List.take_nil List.drop_succ_cons List.drop_zero List.drop_nil List.head?_cons List.map_cons List.map_nil List.getElem?_cons_zero List.getElem?_cons_succ List.cons_append List.nil_append List.append_nil List.length_map List.set_cons_zero List.set_cons_succ Nat.reduceMul eq_self Int.toNat_natCast Int.natCast_nonneg and_self true_and and_true decide_true decide_false Bool.false_eq_true Nat.zero_add Nat.add_zero List.contains_cons List.contains_nil Bool.or_false Bool.false_or beq_self_eq_true Nat.reduceBEq ne_eq not_true_eq_false not_false_eq_true Id.mk.injEq false_and and_false Nat.reduceLT Int.reduceLE Int.reduceLT Int.reduceToNat Int.reduceNeg Int.reduceAdd Nat.le_refl List.length_append beq_true beq_false Bool.not_eq_eq_eq_not or_false false_or dW ad ae aL aI bf bR az bc aA aJ cj bh
theorem Nq {P:Program} {w:World} {D:Nat->Prop} {ι:Names} {k:Int} {vs:Array Value} (h:fo P w D ι [.int .i64 k] vs):vs= #[.int .i64 k]:=by
 obtain⟨h1,h2⟩:=h
 obtain⟨u,hu,hr⟩:=h2 0 _ rfl
 rw[dO hr]at hu
 obtain⟨l⟩:=vs
 cases l with
 |nil=>simp at h1
 |cons a l=>cases l with
  |nil=>simp at hu;subst hu;rfl
  |cons b l=>simp at h1
end Go.Proofs.YtakkdjfmiffbfaaGreatDoor.V

namespace Go.Proofs.YtakkdjfmiffbfaaGreatDoor.V
open Go.RowKit
attribute [local irreducible] dL wpOps ez Call
attribute [local go_sem] ay ew dZ eE eC cY upd bJ K.av bZ AV.cells AV.cell rowOf rowsOf part ld rowAt eO bH bI cX dj eQ bq cF dx eA ed cQ dq cD cC dc de bu aE cm bt cr cq dn dr dp ck bz cE dm br aw cw bQ eP aZ bW bx aD cR aQ cZ AV.undef bd bj dh di c6 da bV dw dz bP du dt cu cz List.getD_cons_zero List.getD_cons_succ List.getD_nil List.all_cons List.all_nil Bool.and_true Bool.true_and Bool.and_self Bool.not_true Bool.not_false Option.map_some Option.map_none Option.bind_some Option.bind_none List.length_cons List.length_nil List.take_succ_cons List.take_zero List.take_nil List.drop_succ_cons List.drop_zero List.drop_nil List.head?_cons List.map_cons List.map_nil List.getElem?_cons_zero List.getElem?_cons_succ List.cons_append List.nil_append List.append_nil List.length_map List.set_cons_zero List.set_cons_succ eq_self Int.toNat_natCast Int.natCast_nonneg and_self true_and and_true decide_true decide_false Bool.false_eq_true Nat.zero_add Nat.add_zero List.contains_cons List.contains_nil Bool.or_false Bool.false_or beq_self_eq_true ne_eq not_true_eq_false not_false_eq_true Id.mk.injEq false_and and_false Nat.le_refl List.length_append beq_true beq_false Bool.not_eq_eq_eq_not or_false false_or dW ad ae aL aI bf bR az bc aA aJ cj bh
section
variable {P:Program} {α:Type} {e:α->List AV} {z:Nat} {g g':Rows} {v:AV} {L:List α} {ids:List Id}
def RS (e:α->List AV) (L:List α):AV:=if L.length=0 then .bB else .sl (L.map e)
end
end Go.Proofs.YtakkdjfmiffbfaaGreatDoor.V

namespace Go.Proofs.YtakkdjfmiffbfaaGreatDoor.V
open Go.RowKit
attribute [local irreducible] dL wpOps ez Call
attribute [local go_sem] ay ew dZ eE eC cY upd bJ K.av bZ AV.cells AV.cell rowOf rowsOf part ld rowAt eO bH bI cX dj eQ bq cF dx eA ed cQ dq cD cC dc de bu aE cm bt cr cq dn dr dp ck bz cE dm br aw cw bQ eP aZ bW bx aD cR aQ cZ AV.undef bd bj dh di c6 da bV dw dz bP du dt cu cz List.getD_cons_zero List.getD_cons_succ List.getD_nil List.all_cons List.all_nil Bool.and_true Bool.true_and Bool.and_self Bool.not_true Bool.not_false Option.map_some Option.map_none Option.bind_some Option.bind_none List.length_cons List.length_nil List.take_succ_cons List.take_zero List.take_nil List.drop_succ_cons List.drop_zero List.drop_nil List.head?_cons List.map_cons List.map_nil List.getElem?_cons_zero List.getElem?_cons_succ List.cons_append List.nil_append List.append_nil List.length_map List.set_cons_zero List.set_cons_succ Nat.reduceMul eq_self Int.toNat_natCast Int.natCast_nonneg and_self true_and and_true decide_true decide_false Bool.false_eq_true Nat.zero_add Nat.add_zero List.contains_cons List.contains_nil Bool.or_false Bool.false_or beq_self_eq_true Nat.reduceBEq ne_eq not_true_eq_false not_false_eq_true Id.mk.injEq false_and and_false Nat.reduceLT Int.reduceLE Int.reduceLT Int.reduceToNat Int.reduceNeg Int.reduceAdd Nat.le_refl List.length_append beq_true beq_false Bool.not_eq_eq_eq_not or_false false_or dW ad ae aL aI bf bR az bc aA aJ cj bh
theorem rN {l:List aa} {k:Nat} (hk:k<l.length):l.take (k+1)=l.take k++[cP l k]:=by rw[List.take_succ_eq_append_getElem hk,fj hk]
def nQ (ps:List af) (i:Nat):af:=ps.getD i ⟨0,0⟩
theorem j4 {ps:List af} {i:Nat} (h:i<ps.length):nQ ps i=ps[i]:=by simp[nQ,List.getD_eq_getElem?_getD,h]
theorem FZ {ps:List af} {i:Nat} (h:i<ps.length):nQ ps i∈ps:=by rw[j4 h];exact List.getElem_mem h
theorem Ub {ps:List af} {i:Nat} (h:i<ps.length):(ps.map aj)[i]? =some (aj (nQ ps i)):=by simp[nQ,List.getD_eq_getElem?_getD,h]
def nr (ps:List af):Prop:=ps.Pairwise fun a b=>kR a b=true
theorem nr.at_ {ps:List af} (h:nr ps) {i j:Nat} (Ab:i<j) (hj:j<ps.length):kR (nQ ps i) (nQ ps j)=true:=by
 rw[j4 hj,j4 ab]
 exact List.pairwise_iff_getElem.1 h i j ab hj Ab
def lU (ps:List af) (p:af):Nat:=ps.findIdx fun q=> !kR q p
theorem FV (ps:List af) (p:af):lU ps p<=ps.length:=List.findIdx_le_length
theorem M7 {ps:List af} {p:af} {x:Nat} (h:x<lU ps p):kR (nQ ps x) p=true:=by
 have hx:x<ps.length:=Nat.lt_of_lt_of_le h (FV ps p)
 have:=List.not_of_lt_findIdx h
 rw[j4 hx]
 simpa using this
theorem FU {ps:List af} {p:af} (hR:nr ps) {x:Nat} (h:lU ps p<=x) (hx:x<ps.length):kR (nQ ps x) p=false:=by
 have h0:lU ps p<ps.length:=ab
 have h1:kR (nQ ps (lU ps p)) p=false:=by
  have:=List.findIdx_getElem (p:=fun q=> !kR q p) (xs:=ps) (w:=h0)
  rw[j4 h0]
  have e:(!kR ps[lU ps p] p)=true:=this
  simpa using e
 by_cases he:lU ps p=x
 ·rw[<-he];exact h1
 ·have h2:=hR.at_ (show lU ps p<x by omega) hx
  cases hc:kR (nQ ps x) p
  ·rfl
  ·rw[iu h2 hc]at h1;cases h1
def Et (ps:List af) (p:af):List af:=if lU ps p<ps.length/\nQ ps (lU ps p)=p then ps else ps.take (lU ps p)++p::ps.drop (lU ps p)
theorem KG (ps:List af) (p:af):(Et ps p).length<=ps.length+1:=by
 unfold Et
 have:=FV ps p
 split
 ·omega
 ·simp;omega
theorem Ki (ps:List af) (p x:af):x∈Et ps p↔x=p∨x∈ps:=by
 unfold Et
 split
 ·rename_i h
  refine⟨.inr,fun hx=>hx.elim (fun e=>?_) id⟩
  rw[e,<-h.2];exact FZ h.1
 ·have:x∈ps↔x∈ps.take (lU ps p)++ps.drop (lU ps p):=by rw[List.take_append_drop]
  rw[this]
  simp only[List.mem_append,List.mem_cons]
  constructor
  ·rintro(h|h|h)
   ·exact .inr (.inl h)
   ·exact .inl h
   ·exact .inr (.inr h)
  ·rintro(h|h|h)
   ·exact .inr (.inl h)
   ·exact .inl h
   ·exact .inr (.inr h)
theorem KH {ps:List af} (hR:nr ps) (p:af):nr (Et ps p):=by
 unfold Et
 split
 ·exact hR
 ·rename_i qT
  have hd:∀x∈ps.drop (lU ps p),kR p x=true:=fun x hx=>by
   obtain⟨j,hj,rfl⟩:=List.getElem_of_mem hx
   rw[List.length_drop]at hj
   rw[List.getElem_drop]
   have iZ:lU ps p+j<ps.length:=ab
   have h1:=FU (p:=p) hR (Nat.le_add_right _ j) iZ
   rw[<-j4 iZ]
   refine uu h1 fun he=>?_
   by_cases h0:j=0
   ·subst h0
    exact qT ⟨ab,by simpa using he⟩
   ·have:=hR.at_ (show lU ps p<lU ps p+j by omega) iZ
    rw[he]at this
    have h2:=FU (p:=p) hR (Nat.le_refl _) (show lU ps p<ps.length by omega)
    rw[this]at h2;cases h2
  have ht:∀x∈ps.take (lU ps p),kR x p=true:=fun x hx=>by
   obtain⟨j,hj,rfl⟩:=List.getElem_of_mem hx
   rw[List.length_take]at hj
   rw[List.getElem_take]
   have:=M7 (ps:=ps) (p:=p) (x:=j) ab
   rwa [j4 ab]at this
  refine List.pairwise_append.2 ⟨hR.sublist (List.take_sublist _ _),List.pairwise_cons.2 ⟨hd,hR.sublist (List.drop_sublist _ _)⟩,fun x hx y hy=>?_⟩
  rcases List.mem_cons.1 hy with rfl|hy
  ·exact ht x hx
  ·exact iu (ht x hx) (hd y hy)
theorem F1:∀{ps qs:List af},nr ps->nr qs->(∀x,x∈ps↔x∈qs)->ps=qs
 |[],[],_,_,_=>rfl
 |[],q::qs,_,_,h=>absurd ((h q).2 (by simp)) (by simp)
 |p::ps,[],_,_,h=>absurd ((h p).1 (by simp)) (by simp)
 |p::ps,q::qs,hp,hq,h=>by
  obtain⟨p1,p2⟩:=List.pairwise_cons.1 hp
  obtain⟨q1,q2⟩:=List.pairwise_cons.1 hq
  have e:p=q:=by
   rcases List.mem_cons.1 ((h p).1 (by simp))with e|e
   ·exact e
   ·rcases List.mem_cons.1 ((h q).2 (by simp))with e'|e'
    ·exact e'.symm
    ·have:=Ce (q1 p e)
     rw[p1 q e']at this;cases this
  subst e
  congr 1
  refine F1 p2 q2 fun x=>⟨fun hx=>?_,fun hx=>?_⟩
  ·rcases List.mem_cons.1 ((h x).1 (List.mem_cons_of_mem _ hx))with e|e
   ·subst e;have:=p1 x hx;rw[gq]at this;cases this
   ·exact e
  ·rcases List.mem_cons.1 ((h x).2 (List.mem_cons_of_mem _ hx))with e|e
   ·subst e;have:=q1 x hx;rw[gq]at this;cases this
   ·exact e
end Go.Proofs.YtakkdjfmiffbfaaGreatDoor.V

namespace Go.Proofs.YtakkdjfmiffbfaaGreatDoor.V
open Go.RowKit Go.Shelf Go.Lib Go.Sort
instance:Inhabited af:=⟨⟨0,0⟩⟩
variable {P:Program} {w:World} {D:Nat->Prop} {ι:Names}
theorem oI {vs:Array Value} (h:fo P w D ι [] vs):vs= #[]:=Array.eq_empty_of_size_eq_zero h.1
theorem iv {a:AV} {r:List AV} {vs:Array Value} (h:fo P w D ι (a::r) vs):∃u us,vs=(u::us).toArray/\dF P w D ι a u/\fo P w D ι r us.toArray:=by
 obtain⟨h1,h2⟩:=h
 obtain⟨l⟩:=vs
 cases l with
 |nil=>simp at h1
 |cons u us=>
  obtain⟨u',hu,hr⟩:=h2 0 a rfl
  simp at hu;subst hu
  exact⟨u,us,rfl,hr,by simpa using h1,fun j b hj=>by
   obtain⟨v,hv,nN⟩:=h2 (j+1) b (by simpa using hj)
   exact⟨v,by simpa using hv,nN⟩⟩
def N0:Prop:=∀(rU off cap:Nat) (d:Array af) (w:World),HoldsK fQ 2 w rU off d->rU<w.heap.size->d.size<4611686018427387904->
 Calls Tryz.prog 200 #[.slice (some ⟨rU,off,none⟩) d.size cap,.func (.func 102) #[] #[]] w fun e w'=>e=.returned (.tuple #[])/\∃d' n os,PermIn 0 d.size d d'/\SortedIn (ltOf n9) 0 d.size d'/\w'=sortWorldK fQ 2 w rU off n d' os
def N1:Prop:=∀(p:Option Addr) (cap:Nat) (fv:Value) (w:World),Calls Tryz.prog 200 #[.slice p 0 cap,fv] w fun e w'=>e=.returned (.tuple #[])/\w'=w
theorem Mh (p:af) (j:Nat) (a:AV) (h:(aj p)[j]? =some a) (P:Program) (w:World) (D:Nat->Prop) (ι:Names):dF P w D ι a (fQ p)[j]! :=by
 match j,h with
 |0,h=>simp[aj]at h;subst h;exact .eG _ _ (.int _ _)
 |1,h=>simp[aj]at h;subst h;exact .eG _ _ (.int _ _)
 |j+2,h=>simp[aj]at h
theorem HO (hC:N0) (hN:N1) (ps:List af) (hlen:ps.length<=1048576) (σ:aq) (id:Id) (hg:σ.get id=some ⟨true,2,ps.map aj⟩):
  Call Tryz.prog 200 [.own id 0 ps.length,.fn 102 []] σ fun r σ'=>σ'.next=σ.next/\(∀x,x≠id->σ'.get x=σ.get x)/\∃qs,σ'.get id=some ⟨true,2,qs.map aj⟩/\qs.length=ps.length/\(∀x,x∈qs↔x∈ps)/\∀i j:Nat,i<j->j<qs.length->kR (nQ qs j) (nQ qs i)=false:=by
 refine eV fun hs D ι w vs S U A=>?_
 obtain⟨u1,XM,rfl,h1,h2⟩:=iv A
 obtain⟨u2,XN,h3,h4,h5⟩:=iv h2
 simp at h3;subst h3
 have:=oI h5
 simp at this;subst this
 obtain⟨o,cap,B,rfl,hB,BQ,ho,su,WZ,hk⟩:=iy h1
 obtain⟨Ut,gf,rfl,_,hz,_,_⟩:=sK h4
 have Xu:Ut= #[]:=Array.eq_empty_of_size_eq_zero (by simpa using hz)
 subst Xu
 by_cases h0:ps=[]
 ·subst h0
  refine(hN _ _ _ w).mono ?_
  rintro e w' ⟨rfl,rfl⟩
  exact⟨.fK [],σ.get,σ.next,D,ι,_,rfl,⟨rfl,fun _ _=>rfl,[],hg,rfl,fun x=>Iff.rfl,fun i j _ hj=>by simp at hj⟩,Step.refl _ _ _ _,S,U,Nat.le_refl _,.fK [] #[] (fun _=>Go.undef) rfl (fun j hj=>by simp at hj) (fun j a h=>by simp at h)⟩
 have kq:0<ps.length:=List.length_pos_iff.2 h0
 obtain⟨B',ei,R,lx,pI⟩:=S.row id _ hg
 rw[hB]at ei;injection ei with ei;subst ei
 replace R:=R.row hk
 have e8:B.sz=2:=R.sz
 have AP:o=0:=by rcases ho with h|h<;>omega
 subst AP
 obtain⟨cur,T,hblk,eb,BP⟩:=R.cur
 have vQ:ps.length*2<=B.C:=by simpa using R.fits
 have hH:HoldsK fQ 2 w B.b 0 ps.toArray:=by
  intro t ht
  rw[size_flatK]at ht
  have Vq:t<ps.length*2:=by simpa using ht
  have hi:t / 2<ps.length:=ab
  have Mx:w.frozen? ⟨B.b,0+t,none⟩=false:=by
   simp only[World.frozen?,hblk];simp
  refine⟨?_,Mx⟩
  rw[get_flatK _ _ _ _ ht]
  have hd:(ps.toArray)[t / 2]! =ps[t / 2]:=by simp[getElem!_pos,hi]
  rw[hd]
  have hj:t % 2=0∨t % 2=1:=ab
  have Xl:0+t=(t / 2)*2+t % 2:=ab
  rw[Xl]
  rcases hj with hj|hj
  ·obtain⟨v,hv,hr⟩:=R.at_ (t / 2) 0 (aj ps[t / 2]) _ (by simp[hi]) rfl
   rw[dO hr]at hv
   rw[hj];exact hv
  ·obtain⟨v,hv,hr⟩:=R.at_ (t / 2) 1 (aj ps[t / 2]) _ (by simp[hi]) rfl
   rw[dO hr]at hv
   rw[hj];exact hv
 have nA:B.b<w.heap.size:=(Array.getElem?_eq_some_iff.1 hblk).1
 have Jy:=hC B.b 0 cap ps.toArray w hH nA (by simp;omega)
 rw[show ps.toArray.size=ps.length from by simp]at Jy
 refine Jy.mono ?_
 rintro e w' ⟨rfl,d',m,os,⟨yJ,_,pJ⟩,hsort,rfl⟩
 have Jz:d'.size=ps.length:=by rw[yJ];simp
 have Tr:d'.toList.length=ps.length:=by simpa using Jz
 have hP:d'.toList.Perm ps:=by
  have e1:d'.extract 0 ps.length=d':=by rw[<-Jz];exact Array.extract_size
  have e2:ps.toArray.extract 0 ps.length=ps.toArray:=by
   have:ps.length=ps.toArray.size:=by simp
   rw[this];exact Array.extract_size
  rw[e1,e2]at pJ
  simpa using pJ
 have hF:∀t,t<ps.length*2->(flatK fQ 2 d')[t]! =(fQ d'[t / 2]!)[t % 2]! :=fun t ht=>get_flatK _ _ _ _ (by rw[Jz];exact ht)
 have SB:(flatK fQ 2 d').size=ps.length*2:=by rw[size_flatK,Jz]
 have hw:sortWorldK fQ 2 w B.b 0 m d' os=Go.Sort.grow (Go.Sort.putRow (fun v:Value=>v) (Go.Sort.ahead w m) B.b 0 (flatK fQ 2 d')) os:=rfl
 rw[hw]
 clear hw hH
 generalize flatK fQ 2 d'=Fl at hF SB ⊢
 have qU:=S.put (r':=⟨true,2,d'.toList.map aj⟩) (cur':=Go.Sort.putCells (fun v:Value=>v) 0 Fl cur) hg rfl hB hblk (by simp[Go.Sort.putCells]) rfl rfl (by simpa[Jz]using vQ) (fun cs eb=>by
   obtain⟨x,_,rfl⟩:=List.mem_map.1 eb;rfl) (fun cs eb a ha=>by
   obtain⟨x,_,rfl⟩:=List.mem_map.1 eb
   simp[aj]at ha;rcases ha with rfl|rfl<;>rfl) (fun i j cs a hi hj=>by
   have vU:i<d'.toList.length:=by
    have:=(List.getElem?_eq_some_iff.1 hi).1
    simpa using this
   have Ta:j<2:=by
    have:=List.mem_of_getElem? hi
    obtain⟨x,_,rfl⟩:=List.mem_map.1 this
    exact(List.getElem?_eq_some_iff.1 hj).1
   have P8:cs=aj d'[i]! :=by
    rw[List.getElem?_map,List.getElem?_eq_getElem vU]at hi
    simp at hi
    rw[<-hi,getElem!_pos d' i (by simpa using vU)]
   subst P8
   have G6:i*2+j<ps.length*2:=ab
   refine⟨(fQ d'[i]!)[j]!,?_,Mh _ _ _ hj _ _ _ _⟩
   have mH:i*2+j<cur.size:=by rw[eb];omega
   show(Go.Sort.putCells (fun v:Value=>v) 0 Fl cur)[i*2+j]? = _
   simp only[Go.Sort.putCells,Array.getElem?_mapIdx,Array.getElem?_eq_getElem mH,Option.map_some]
   rw[if_pos ⟨Nat.zero_le _,by rw[SB];omega⟩,Nat.sub_zero,hF _ G6,show(i*2+j) / 2=i from by omega,show(i*2+j) % 2=j from by omega])
 obtain⟨S1,qx⟩:=qU
 have Ae:(Go.Sort.putRow (fun v:Value=>v) (Go.Sort.ahead w m) B.b 0 Fl).heap.size=w.heap.size:=by simp
 have BS:∀k,k<(w.setRow B.b (Go.Sort.putCells (fun v:Value=>v) 0 Fl cur)).heap.size->(Go.Sort.grow (Go.Sort.putRow (fun v:Value=>v) (Go.Sort.ahead w m) B.b 0 Fl) os).heap[k]? =(w.setRow B.b (Go.Sort.putCells (fun v:Value=>v) 0 Fl cur)).heap[k]? :=fun k hk=>by
  have DT:k<w.heap.size:=by simpa using hk
  rw[heap_grow_old _ _ (by rw[Ae];exact DT)]
  simp only[Go.Sort.putRow,Go.Sort.mapBlock,heap_ahead,Array.getElem?_modify]
  by_cases Qe:B.b=k
  ·subst Qe
   rw[setRow_heap w B.b cur _ T _ hblk,if_pos rfl,hblk];rfl
  ·rw[if_neg Qe,setRow_other w B.b k _ (fun h=>Qe h.symm)]
 have nH:(w.setRow B.b (Go.Sort.putCells (fun v:Value=>v) 0 Fl cur)).heap.size<=(Go.Sort.grow (Go.Sort.putRow (fun v:Value=>v) (Go.Sort.ahead w m) B.b 0 Fl) os).heap.size:=by
  rw[size_grow,Ae];simp
 have S2:=S1.stay (D':=D) (ι':=ι) BS nH (fun _ h=>h) (fun b hb=>Nat.lt_of_lt_of_le (S1.dead b hb) nH) (fun _ h=>.inl h) (fun _ _ h=>h)
 have LU:=qx.trans (Step.stay (D':=D) (ι':=ι) S1 BS nH (by simp[Go.Sort.grow,Go.Sort.putRow,Go.Sort.mapBlock,Go.Sort.ahead]) (by simp[Go.Sort.grow,Go.Sort.putRow,Go.Sort.mapBlock,Go.Sort.ahead]) (by simp[Go.Sort.grow,Go.Sort.putRow,Go.Sort.mapBlock,Go.Sort.ahead]) (fun _ h=>h) (fun _ h=>.inl h) (fun _ _ h=>h))
 refine⟨.fK [],bH σ.get id ⟨true,2,d'.toList.map aj⟩,σ.next,D,ι,_,rfl,⟨rfl,fun x hx=>by simp[bH,hx],d'.toList,by simp[bH],Tr,fun x=>hP.mem_iff,fun i j Ab hj=>?_⟩,LU,S2,U,Nat.le_refl _,.fK [] #[] (fun _=>Go.undef) rfl (fun j hj=>by simp at hj) (fun j a h=>by simp at h)⟩
 have h:=hsort i j (Nat.zero_le _) Ab ab
 rw[ltOf,kX]at h
 have e1:d'[j]! =nQ d'.toList j:=by rw[j4 hj,getElem!_pos d' j (by simpa using hj)];rfl
 have hi:i<d'.toList.length:=ab
 have e2:d'[i]! =nQ d'.toList i:=by rw[j4 hi,getElem!_pos d' i (by simpa using hi)];rfl
 rw[<-e1,<-e2];exact h
end Go.Proofs.YtakkdjfmiffbfaaGreatDoor.V

namespace Go.Proofs
open Go.Shelf
def Tryz.EG:Go.Shelf.Ren:=⟨fun|6=>200|15=>177|14=>223|28=>210|29=>188|20=>230|21=>231|22=>232|23=>233|24=>234|25=>235|26=>236|27=>237|46=>241|47=>225|48=>226|49=>242|50=>243|57=>244|n=>n,fun|22=>95|24=>72|25=>177|3=>3|39=>159|0=>0|53=>290|55=>110|4=>4|46=>310|45=>309|50=>299|5=>5|9=>9|66=>328|70=>332|76=>343|77=>344|n=>n,fun|n=>n⟩
theorem Tryz.K2:Go.Proofs.SlLaysF0.n6 Tryz.prog Tryz.EG:={
 mixed:=by kernel_rfl
 f6:=⟨Tryz.f200.name,by decide,Tryz.func200.trans (congrArg some (by kernel_rfl))⟩
 f14:=⟨Tryz.f223.name,by decide,Tryz.func223.trans (congrArg some (by kernel_rfl))⟩
 f15:=Tryz.func177.trans (congrArg some (by kernel_rfl))
 f20:=⟨Tryz.f230.name,by decide,Tryz.func230.trans (congrArg some (by kernel_rfl))⟩
 f21:=⟨Tryz.f231.name,by decide,Tryz.func231.trans (congrArg some (by kernel_rfl))⟩
 f22:=⟨Tryz.f232.name,by decide,Tryz.func232.trans (congrArg some (by kernel_rfl))⟩
 f23:=⟨Tryz.f233.name,by decide,Tryz.func233.trans (congrArg some (by kernel_rfl))⟩
 f24:=⟨Tryz.f234.name,by decide,Tryz.func234.trans (congrArg some (by kernel_rfl))⟩
 f25:=⟨Tryz.f235.name,by decide,Tryz.func235.trans (congrArg some (by kernel_rfl))⟩
 f26:=⟨Tryz.f236.name,by decide,Tryz.func236.trans (congrArg some (by kernel_rfl))⟩
 f27:=⟨Tryz.f237.name,by decide,Tryz.func237.trans (congrArg some (by kernel_rfl))⟩
 f28:=Tryz.func210.trans (congrArg some (by kernel_rfl))
 f29:=Tryz.func188.trans (congrArg some (by kernel_rfl))
 f46:=⟨Tryz.f241.name,by decide,Tryz.func241.trans (congrArg some (by kernel_rfl))⟩
 f47:=Tryz.func225.trans (congrArg some (by kernel_rfl))
 f48:=Tryz.func226.trans (congrArg some (by kernel_rfl))
 f49:=⟨Tryz.f242.name,by decide,Tryz.func242.trans (congrArg some (by kernel_rfl))⟩
 f50:=⟨Tryz.f243.name,by decide,Tryz.func243.trans (congrArg some (by kernel_rfl))⟩
 f57:=⟨Tryz.f244.name,by decide,Tryz.func244.trans (congrArg some (by kernel_rfl))⟩
 t0:=Tryz.underlying0
 a0:=Tryz.isAgg0
 z0:=Tryz.sizeOf0
 v0:=Tryz.zeroValue0
 t3:=Tryz.underlying3
 a3:=Tryz.isAgg3
 z3:=Tryz.sizeOf3
 v3:=Tryz.zeroValue3
 t4:=Tryz.underlying4
 a4:=Tryz.isAgg4
 z4:=Tryz.sizeOf4
 v4:=Tryz.zeroValue4
 t5:=Tryz.underlying5
 a5:=Tryz.isAgg5
 z5:=Tryz.sizeOf5
 v5:=Tryz.zeroValue5
 t9:=Tryz.underlying9
 a9:=Tryz.isAgg9
 z9:=Tryz.sizeOf9
 v9:=Tryz.zeroValue9
 t22:=Tryz.underlying95
 a22:=Tryz.isAgg95
 z22:=Tryz.sizeOf95
 v22:=Tryz.zeroValue95
 t25:=Tryz.underlying177
 a25:=Tryz.isAgg177
 z25:=Tryz.sizeOf177
 v25:=Tryz.zeroValue177
 t39:=Tryz.underlying159
 a39:=Tryz.isAgg159
 z39:=Tryz.sizeOf159
 v39:=Tryz.zeroValue159
 t45:=Tryz.underlying309
 a45:=Tryz.isAgg309
 z45:=Tryz.sizeOf309
 v45:=Tryz.zeroValue309
 t46:=Tryz.underlying310
 a46:=Tryz.isAgg310
 z46:=Tryz.sizeOf310
 v46:=Tryz.zeroValue310
 t50:=Tryz.underlying299
 a50:=Tryz.isAgg299
 z50:=Tryz.sizeOf299
 v50:=Tryz.zeroValue299
 t53:=Tryz.underlying290
 a53:=Tryz.isAgg290
 z53:=Tryz.sizeOf290
 v53:=Tryz.zeroValue290
 t55:=Tryz.underlying110
 a55:=Tryz.isAgg110
 z55:=Tryz.sizeOf110
 v55:=Tryz.zeroValue110
 t66:=Tryz.underlying328
 a66:=Tryz.isAgg328
 z66:=Tryz.sizeOf328
 v66:=Tryz.zeroValue328
 t70:=Tryz.underlying332
 a70:=Tryz.isAgg332
 z70:=Tryz.sizeOf332
 v70:=Tryz.zeroValue332
 t76:=Tryz.underlying343
 a76:=Tryz.isAgg343
 z76:=Tryz.sizeOf343
 v76:=Tryz.zeroValue343
 t77:=Tryz.underlying344
 a77:=Tryz.isAgg344
 z77:=Tryz.sizeOf344
 v77:=Tryz.zeroValue344}
def Tryz.EF:Go.Shelf.Ren:=⟨fun|6=>136|15=>177|14=>176|28=>210|29=>188|20=>202|21=>203|22=>204|23=>205|24=>206|25=>207|26=>208|27=>209|46=>224|47=>225|48=>226|49=>227|50=>228|57=>238|n=>n,fun|22=>29|24=>74|25=>219|3=>3|39=>159|0=>0|53=>290|55=>110|4=>4|46=>310|45=>309|50=>299|5=>5|9=>9|66=>328|70=>332|76=>343|77=>344|n=>n,fun|n=>n⟩
theorem Tryz.K1:Go.Proofs.SlLaysF0.n6 Tryz.prog Tryz.EF:={
 mixed:=by kernel_rfl
 f6:=⟨Tryz.f136.name,by decide,Tryz.func136.trans (congrArg some (by kernel_rfl))⟩
 f14:=⟨Tryz.f176.name,by decide,Tryz.func176.trans (congrArg some (by kernel_rfl))⟩
 f15:=Tryz.func177.trans (congrArg some (by kernel_rfl))
 f20:=⟨Tryz.f202.name,by decide,Tryz.func202.trans (congrArg some (by kernel_rfl))⟩
 f21:=⟨Tryz.f203.name,by decide,Tryz.func203.trans (congrArg some (by kernel_rfl))⟩
 f22:=⟨Tryz.f204.name,by decide,Tryz.func204.trans (congrArg some (by kernel_rfl))⟩
 f23:=⟨Tryz.f205.name,by decide,Tryz.func205.trans (congrArg some (by kernel_rfl))⟩
 f24:=⟨Tryz.f206.name,by decide,Tryz.func206.trans (congrArg some (by kernel_rfl))⟩
 f25:=⟨Tryz.f207.name,by decide,Tryz.func207.trans (congrArg some (by kernel_rfl))⟩
 f26:=⟨Tryz.f208.name,by decide,Tryz.func208.trans (congrArg some (by kernel_rfl))⟩
 f27:=⟨Tryz.f209.name,by decide,Tryz.func209.trans (congrArg some (by kernel_rfl))⟩
 f28:=Tryz.func210.trans (congrArg some (by kernel_rfl))
 f29:=Tryz.func188.trans (congrArg some (by kernel_rfl))
 f46:=⟨Tryz.f224.name,by decide,Tryz.func224.trans (congrArg some (by kernel_rfl))⟩
 f47:=Tryz.func225.trans (congrArg some (by kernel_rfl))
 f48:=Tryz.func226.trans (congrArg some (by kernel_rfl))
 f49:=⟨Tryz.f227.name,by decide,Tryz.func227.trans (congrArg some (by kernel_rfl))⟩
 f50:=⟨Tryz.f228.name,by decide,Tryz.func228.trans (congrArg some (by kernel_rfl))⟩
 f57:=⟨Tryz.f238.name,by decide,Tryz.func238.trans (congrArg some (by kernel_rfl))⟩
 t0:=Tryz.underlying0
 a0:=Tryz.isAgg0
 z0:=Tryz.sizeOf0
 v0:=Tryz.zeroValue0
 t3:=Tryz.underlying3
 a3:=Tryz.isAgg3
 z3:=Tryz.sizeOf3
 v3:=Tryz.zeroValue3
 t4:=Tryz.underlying4
 a4:=Tryz.isAgg4
 z4:=Tryz.sizeOf4
 v4:=Tryz.zeroValue4
 t5:=Tryz.underlying5
 a5:=Tryz.isAgg5
 z5:=Tryz.sizeOf5
 v5:=Tryz.zeroValue5
 t9:=Tryz.underlying9
 a9:=Tryz.isAgg9
 z9:=Tryz.sizeOf9
 v9:=Tryz.zeroValue9
 t22:=Tryz.underlying29
 a22:=Tryz.isAgg29
 z22:=Tryz.sizeOf29
 v22:=Tryz.zeroValue29
 t25:=Tryz.underlying219
 a25:=Tryz.isAgg219
 z25:=Tryz.sizeOf219
 v25:=Tryz.zeroValue219
 t39:=Tryz.underlying159
 a39:=Tryz.isAgg159
 z39:=Tryz.sizeOf159
 v39:=Tryz.zeroValue159
 t45:=Tryz.underlying309
 a45:=Tryz.isAgg309
 z45:=Tryz.sizeOf309
 v45:=Tryz.zeroValue309
 t46:=Tryz.underlying310
 a46:=Tryz.isAgg310
 z46:=Tryz.sizeOf310
 v46:=Tryz.zeroValue310
 t50:=Tryz.underlying299
 a50:=Tryz.isAgg299
 z50:=Tryz.sizeOf299
 v50:=Tryz.zeroValue299
 t53:=Tryz.underlying290
 a53:=Tryz.isAgg290
 z53:=Tryz.sizeOf290
 v53:=Tryz.zeroValue290
 t55:=Tryz.underlying110
 a55:=Tryz.isAgg110
 z55:=Tryz.sizeOf110
 v55:=Tryz.zeroValue110
 t66:=Tryz.underlying328
 a66:=Tryz.isAgg328
 z66:=Tryz.sizeOf328
 v66:=Tryz.zeroValue328
 t70:=Tryz.underlying332
 a70:=Tryz.isAgg332
 z70:=Tryz.sizeOf332
 v70:=Tryz.zeroValue332
 t76:=Tryz.underlying343
 a76:=Tryz.isAgg343
 z76:=Tryz.sizeOf343
 v76:=Tryz.zeroValue343
 t77:=Tryz.underlying344
 a77:=Tryz.isAgg344
 z77:=Tryz.sizeOf344
 v77:=Tryz.zeroValue344}
end Go.Proofs

namespace Go.Proofs.YtakkdjfmiffbfaaGreatDoor.V
open Go.RowKit Go.Shelf Go.Lib Go.Sort
theorem Bo (w:World) (a b:Int):Calls Tryz.prog 139 #[.int .i64 a,.int .i64 b] w fun e w'=>e=.returned (.int .i64 (qG a b))/\w=w':=by
 go_enter Tryz.func139,Tryz.ntmps139
 go_wp2_with go_in
 all_goals
  go_ret
  exact⟨F0 (by unfold qG;split<;>(try split)<;>omega),rfl⟩
theorem Ng (w:World) (a b:Int) (g:Nat) (ha:w.cell? ⟨g,0,none⟩=some (.int .i64 a)) (hb:w.cell? ⟨g,1,none⟩=some (.int .i64 b)):Calls Tryz.prog 138 #[.slice (some ⟨g,0,none⟩) 2 2] w fun e w'=>e=.returned (.int .i64 (Nh a b))/\w=w':=by
 go_enter Tryz.func138,Tryz.ntmps138
 go_wp2_with fail
 go_loop [8] (fun i=>∃k:Nat,k<=2/\i=.int .i64 k/\Hid ((1<=k->a=0)/\(2<=k->b=0))) (fun i=>2-(intOf i).toNat)
 case atStart=>exact⟨0,ab,rfl,Lib.hid ⟨fun h=>ab,fun h=>ab⟩⟩
 case round=>
  obtain⟨k,hk,rfl,hz⟩:=hrel
  have h3:k=0∨k=1∨k=2:=ab
  rcases h3 with rfl|rfl|rfl
  ·go_wp2_with fail
   ·rename_i h
    go_ret
    exact⟨F0 (by unfold Nh;simp_all),rfl⟩
   ·rename_i h
    go_round
    case rel=>exact⟨1,ab,rfl,Lib.hid ⟨fun _=>by simpa using h,fun h=>ab⟩⟩
    case measure=>simp[intOf]
  ·have h0:=hz.out.1 ab
   replace h0:=Lib.hid h0
   go_wp2_with fail
   ·go_ret
    exact⟨F0 (by unfold Nh;rw[if_pos h0.out]),rfl⟩
   ·rename_i h
    go_round
    case rel=>exact⟨2,ab,rfl,Lib.hid ⟨fun _=>h0.out,fun _=>by simpa using h⟩⟩
    case measure=>simp[intOf]
  ·have h0:=Lib.hid (hz.out.1 ab)
   have h1:=Lib.hid (hz.out.2 ab)
   go_wp2_with fail
   go_ret
   exact⟨F0 (by unfold Nh;rw[if_pos h0.out,h1.out]),rfl⟩
def Grown (w w':World):Prop:=∃(q:Nat) (os:Array Obj),w'=Go.Sort.grow (w.drewN q) os
theorem Grown.refl (w:World):Grown w w:=⟨0, #[],by rw[grow_empty];rfl⟩
theorem Grown.alloc {w w':World} (h:Grown w w') (o:Obj):Grown w (w'.alloc o):=by
 obtain⟨q,os,rfl⟩:=h
 exact⟨q,os++ #[o],by rw[alloc_eq_grow,grow_grow]⟩
theorem Grown.drew {w w':World} (h:Grown w w'):Grown w w'.drew:=by
 obtain⟨q,os,rfl⟩:=h
 exact⟨q+1,os,by rw[drew_grow];rfl⟩
theorem Grown.dN {w w':World} (h:Grown w w') (n:Nat):Grown w (w'.drewN n):=by
 obtain⟨q,os,rfl⟩:=h
 exact⟨q+n,os,by
  show Go.Sort.grow ((w.drewN q).drewN n) os=Go.Sort.grow (w.drewN (q+n)) os
  simp[World.drewN,Nat.add_assoc]⟩
theorem mY (w:World) (a b:af):Calls Tryz.prog 102 #[.agg #[.int .i64 a.fu,.int .i64 a.eZ],.agg #[.int .i64 b.fu,.int .i64 b.eZ]] w fun e w'=>e=.returned (.int .i64 (n9 a b))/\Grown w w':=by
 go_enter Tryz.func102,Tryz.ntmps102
 go_wp2_with fail
 go_region_held3 (fun w'=>w'.cell? ⟨w.heap.size,0,none⟩=some (.int .i64 a.fu)/\w'.cell? ⟨w.heap.size,1,none⟩=some (.int .i64 a.eZ)/\
   w'.cell? ⟨w.heap.size+1,0,none⟩=some (.int .i64 b.fu)/\w'.cell? ⟨w.heap.size+1,1,none⟩=some (.int .i64 b.eZ))
  (first|go_keep)
  (first|(go_at_call 139;refine(Bo _ _ _).mono ?_;rintro e w' ⟨rfl,rfl⟩)|(go_at_call 138;refine(Ng _ (qG a.eZ b.eZ) (qG a.fu b.fu) _ (by simp[go_sem]) (by simp[go_sem])).mono ?_;rintro e w' ⟨rfl,rfl⟩))
 go_wp2_with fail
 go_ret
 refine⟨rfl,?_⟩
 repeat(first|(with_reducible exact Grown.refl _)|(refine Grown.alloc ?_ _)|(refine Grown.drew ?_)|(refine Grown.dN ?_ _))
theorem XJ:SWO (ltOf n9) where
 irrefl x:=by rw[ltOf,kX];exact gq
 trans x y z h1 h2:=by rw[ltOf,kX]at *;exact iu h1 h2
 ntrans x y z h1 h2:=by rw[ltOf,kX]at *;rw[lV]at *;omega
theorem Uo:N0:=fun rU off cap d w hH hblk e8=>by
 have eg:∀args w,(callFunc 102 args).run Tryz.prog w=.ok (.enter 102 args) w:=enters_of Tryz.func102 (by kernel_rfl) rfl
 have h:=AnyQ.slices_SortFunc Tryz.K2 2 Tryz.isAgg72 Tryz.sizeOf72 fQ (fun _=>rfl) (fun x v hv=>by simp[fQ]at hv;rcases hv with rfl|rfl<;>rfl) n9 XJ 102 #[] rU off cap d w eg (fun m os dk _ x y=>(mY _ x y).mono fun _ _ ⟨he,q,os',hw⟩=>⟨he,q,os',hw⟩) hH hblk e8
 exact h
theorem OH:N1:=fun p cap fv w=>AnyF.slices_SortFunc_none Tryz.K2 p cap fv w
instance:Inhabited aa:=⟨⟨⟨0,0⟩,0⟩⟩
variable {P:Program} {w:World} {D:Nat->Prop} {ι:Names}
def Gt (a b:aa):Int:=n9 a.cG b.cG
theorem uj (a b:aa):ltOf Gt a b=kR a.cG b.cG:=by rw[ltOf,Gt,kX]
def IB:Prop:=∀(rU off cap:Nat) (d:Array aa) (w:World),HoldsK fq 3 w rU off d->rU<w.heap.size->d.size<4611686018427387904->
 Calls Tryz.prog 136 #[.slice (some ⟨rU,off,none⟩) d.size cap,.func (.func 137) #[] #[]] w fun e w'=>e=.returned (.tuple #[])/\∃d' n os,PermIn 0 d.size d d'/\SortedIn (ltOf Gt) 0 d.size d'/\w'=sortWorldK fq 3 w rU off n d' os
def IC:Prop:=∀(p:Option Addr) (cap:Nat) (fv:Value) (w:World),Calls Tryz.prog 136 #[.slice p 0 cap,fv] w fun e w'=>e=.returned (.tuple #[])/\w'=w
theorem Jc (p:aa) (j:Nat) (a:AV) (h:(ai p)[j]? =some a) (P:Program) (w:World) (D:Nat->Prop) (ι:Names):dF P w D ι a (fq p)[j]! :=by
 match j,h with
 |0,h=>simp[ai]at h;subst h;exact .eG _ _ (.int _ _)
 |1,h=>simp[ai]at h;subst h;exact .eG _ _ (.int _ _)
 |2,h=>simp[ai]at h;subst h;exact .eG _ _ (.int _ _)
 |j+3,h=>simp[ai]at h
theorem HN (hC:IB) (hN:IC) (ps:List aa) (hlen:ps.length<=1048576) (σ:aq) (id:Id) (hg:σ.get id=some ⟨true,3,ps.map ai⟩):
  Call Tryz.prog 136 [.own id 0 ps.length,.fn 137 []] σ fun r σ'=>σ'.next=σ.next/\(∀x,x≠id->σ'.get x=σ.get x)/\∃qs,σ'.get id=some ⟨true,3,qs.map ai⟩/\qs.length=ps.length/\qs.Perm ps/\∀i j:Nat,i<j->j<qs.length->kR (cP qs j).cG (cP qs i).cG=false:=by
 refine eV fun hs D ι w vs S U A=>?_
 obtain⟨u1,XM,rfl,h1,h2⟩:=iv A
 obtain⟨u2,XN,h3,h4,h5⟩:=iv h2
 simp at h3;subst h3
 have:=oI h5
 simp at this;subst this
 obtain⟨o,cap,B,rfl,hB,BQ,ho,su,WZ,hk⟩:=iy h1
 obtain⟨Ut,gf,rfl,_,hz,_,_⟩:=sK h4
 have Xu:Ut= #[]:=Array.eq_empty_of_size_eq_zero (by simpa using hz)
 subst Xu
 by_cases h0:ps=[]
 ·subst h0
  refine(hN _ _ _ w).mono ?_
  rintro e w' ⟨rfl,rfl⟩
  exact⟨.fK [],σ.get,σ.next,D,ι,_,rfl,⟨rfl,fun _ _=>rfl,[],hg,rfl,List.Perm.refl _,fun i j _ hj=>by simp at hj⟩,Step.refl _ _ _ _,S,U,Nat.le_refl _,.fK [] #[] (fun _=>Go.undef) rfl (fun j hj=>by simp at hj) (fun j a h=>by simp at h)⟩
 have kq:0<ps.length:=List.length_pos_iff.2 h0
 obtain⟨B',ei,R,lx,pI⟩:=S.row id _ hg
 rw[hB]at ei;injection ei with ei;subst ei
 replace R:=R.row hk
 have e8:B.sz=3:=R.sz
 have AP:o=0:=by rcases ho with h|h<;>omega
 subst AP
 obtain⟨cur,T,hblk,eb,BP⟩:=R.cur
 have vQ:ps.length*3<=B.C:=by simpa using R.fits
 have hH:HoldsK fq 3 w B.b 0 ps.toArray:=by
  intro t ht
  rw[size_flatK]at ht
  have Vq:t<ps.length*3:=by simpa using ht
  have hi:t / 3<ps.length:=ab
  have Mx:w.frozen? ⟨B.b,0+t,none⟩=false:=by
   simp only[World.frozen?,hblk];simp
  refine⟨?_,Mx⟩
  rw[get_flatK _ _ _ _ ht]
  have hd:(ps.toArray)[t / 3]! =ps[t / 3]:=by simp[getElem!_pos,hi]
  rw[hd]
  have hj:t % 3=0∨t % 3=1∨t % 3=2:=ab
  have Xl:0+t=(t / 3)*3+t % 3:=ab
  rw[Xl]
  rcases hj with hj|hj|hj
  ·obtain⟨v,hv,hr⟩:=R.at_ (t / 3) 0 (ai ps[t / 3]) _ (by simp[hi]) rfl
   rw[dO hr]at hv
   rw[hj];exact hv
  ·obtain⟨v,hv,hr⟩:=R.at_ (t / 3) 1 (ai ps[t / 3]) _ (by simp[hi]) rfl
   rw[dO hr]at hv
   rw[hj];exact hv
  ·obtain⟨v,hv,hr⟩:=R.at_ (t / 3) 2 (ai ps[t / 3]) _ (by simp[hi]) rfl
   rw[dO hr]at hv
   rw[hj];exact hv
 have nA:B.b<w.heap.size:=(Array.getElem?_eq_some_iff.1 hblk).1
 have Jy:=hC B.b 0 cap ps.toArray w hH nA (by simp;omega)
 rw[show ps.toArray.size=ps.length from by simp]at Jy
 refine Jy.mono ?_
 rintro e w' ⟨rfl,d',m,os,⟨yJ,_,pJ⟩,hsort,rfl⟩
 have Jz:d'.size=ps.length:=by rw[yJ];simp
 have Tr:d'.toList.length=ps.length:=by simpa using Jz
 have hP:d'.toList.Perm ps:=by
  have e1:d'.extract 0 ps.length=d':=by rw[<-Jz];exact Array.extract_size
  have e2:ps.toArray.extract 0 ps.length=ps.toArray:=by
   have:ps.length=ps.toArray.size:=by simp
   rw[this];exact Array.extract_size
  rw[e1,e2]at pJ
  simpa using pJ
 have hF:∀t,t<ps.length*3->(flatK fq 3 d')[t]! =(fq d'[t / 3]!)[t % 3]! :=fun t ht=>get_flatK _ _ _ _ (by rw[Jz];exact ht)
 have SB:(flatK fq 3 d').size=ps.length*3:=by rw[size_flatK,Jz]
 have hw:sortWorldK fq 3 w B.b 0 m d' os=Go.Sort.grow (Go.Sort.putRow (fun v:Value=>v) (Go.Sort.ahead w m) B.b 0 (flatK fq 3 d')) os:=rfl
 rw[hw]
 clear hw hH
 generalize flatK fq 3 d'=Fl at hF SB ⊢
 have qU:=S.put (r':=⟨true,3,d'.toList.map ai⟩) (cur':=Go.Sort.putCells (fun v:Value=>v) 0 Fl cur) hg rfl hB hblk (by simp[Go.Sort.putCells]) rfl rfl (by simpa[Jz]using vQ) (fun cs eb=>by
   obtain⟨x,_,rfl⟩:=List.mem_map.1 eb;rfl) (fun cs eb a ha=>by
   obtain⟨x,_,rfl⟩:=List.mem_map.1 eb
   simp[ai]at ha;rcases ha with rfl|rfl|rfl<;>rfl) (fun i j cs a hi hj=>by
   have vU:i<d'.toList.length:=by
    have:=(List.getElem?_eq_some_iff.1 hi).1
    simpa using this
   have Ta:j<3:=by
    have:=List.mem_of_getElem? hi
    obtain⟨x,_,rfl⟩:=List.mem_map.1 this
    exact(List.getElem?_eq_some_iff.1 hj).1
   have P8:cs=ai d'[i]! :=by
    rw[List.getElem?_map,List.getElem?_eq_getElem vU]at hi
    simp at hi
    rw[<-hi,getElem!_pos d' i (by simpa using vU)]
   subst P8
   have G6:i*3+j<ps.length*3:=ab
   refine⟨(fq d'[i]!)[j]!,?_,Jc _ _ _ hj _ _ _ _⟩
   have mH:i*3+j<cur.size:=by rw[eb];omega
   show(Go.Sort.putCells (fun v:Value=>v) 0 Fl cur)[i*3+j]? = _
   simp only[Go.Sort.putCells,Array.getElem?_mapIdx,Array.getElem?_eq_getElem mH,Option.map_some]
   rw[if_pos ⟨Nat.zero_le _,by rw[SB];omega⟩,Nat.sub_zero,hF _ G6,show(i*3+j) / 3=i from by omega,show(i*3+j) % 3=j from by omega])
 obtain⟨S1,qx⟩:=qU
 have Ae:(Go.Sort.putRow (fun v:Value=>v) (Go.Sort.ahead w m) B.b 0 Fl).heap.size=w.heap.size:=by simp
 have BS:∀k,k<(w.setRow B.b (Go.Sort.putCells (fun v:Value=>v) 0 Fl cur)).heap.size->(Go.Sort.grow (Go.Sort.putRow (fun v:Value=>v) (Go.Sort.ahead w m) B.b 0 Fl) os).heap[k]? =(w.setRow B.b (Go.Sort.putCells (fun v:Value=>v) 0 Fl cur)).heap[k]? :=fun k hk=>by
  have DT:k<w.heap.size:=by simpa using hk
  rw[heap_grow_old _ _ (by rw[Ae];exact DT)]
  simp only[Go.Sort.putRow,Go.Sort.mapBlock,heap_ahead,Array.getElem?_modify]
  by_cases Qe:B.b=k
  ·subst Qe
   rw[setRow_heap w B.b cur _ T _ hblk,if_pos rfl,hblk];rfl
  ·rw[if_neg Qe,setRow_other w B.b k _ (fun h=>Qe h.symm)]
 have nH:(w.setRow B.b (Go.Sort.putCells (fun v:Value=>v) 0 Fl cur)).heap.size<=(Go.Sort.grow (Go.Sort.putRow (fun v:Value=>v) (Go.Sort.ahead w m) B.b 0 Fl) os).heap.size:=by
  rw[size_grow,Ae];simp
 have S2:=S1.stay (D':=D) (ι':=ι) BS nH (fun _ h=>h) (fun b hb=>Nat.lt_of_lt_of_le (S1.dead b hb) nH) (fun _ h=>.inl h) (fun _ _ h=>h)
 have LU:=qx.trans (Step.stay (D':=D) (ι':=ι) S1 BS nH (by simp[Go.Sort.grow,Go.Sort.putRow,Go.Sort.mapBlock,Go.Sort.ahead]) (by simp[Go.Sort.grow,Go.Sort.putRow,Go.Sort.mapBlock,Go.Sort.ahead]) (by simp[Go.Sort.grow,Go.Sort.putRow,Go.Sort.mapBlock,Go.Sort.ahead]) (fun _ h=>h) (fun _ h=>.inl h) (fun _ _ h=>h))
 refine⟨.fK [],bH σ.get id ⟨true,3,d'.toList.map ai⟩,σ.next,D,ι,_,rfl,⟨rfl,fun x hx=>by simp[bH,hx],d'.toList,by simp[bH],Tr,hP,fun i j Ab hj=>?_⟩,LU,S2,U,Nat.le_refl _,.fK [] #[] (fun _=>Go.undef) rfl (fun j hj=>by simp at hj) (fun j a h=>by simp at h)⟩
 have h:=hsort i j (Nat.zero_le _) Ab ab
 rw[uj]at h
 have e1:d'[j]! =cP d'.toList j:=by rw[fj hj,getElem!_pos d' j (by simpa using hj)];rfl
 have hi:i<d'.toList.length:=ab
 have e2:d'[i]! =cP d'.toList i:=by rw[fj hi,getElem!_pos d' i (by simpa using hi)];rfl
 rw[<-e1,<-e2];exact h
theorem O1 {w w':World} (h:Grown w w') (os:Array Obj):Grown w (Go.Sort.grow w' os):=by
 obtain⟨q,os0,rfl⟩:=h
 exact⟨q,os0++os,by rw[grow_grow]⟩
theorem L9 (w:World) (a b:aa):Calls Tryz.prog 137 #[.agg #[.int .i64 a.cG.fu,.int .i64 a.cG.eZ,.int .i64 a.cL],.agg #[.int .i64 b.cG.fu,.int .i64 b.cG.eZ,.int .i64 b.cL]] w fun e w'=>e=.returned (.int .i64 (Gt a b))/\Grown w w':=by
 go_enter Tryz.func137,Tryz.ntmps137
 go_wp2_with (first|(go_at_call 102;refine(mY _ a.cG b.cG).mono ?_;rintro e w' ⟨rfl,hG⟩))
 obtain⟨q,os,rfl⟩:=hG
 go_ret
 refine⟨rfl,O1 (Grown.dN ?_ q) os⟩
 repeat(first|(with_reducible exact Grown.refl _)|(refine Grown.alloc ?_ _)|(refine Grown.drew ?_)|(refine Grown.dN ?_ _))
theorem XI:SWO (ltOf Gt) where
 irrefl x:=by rw[uj];exact gq
 trans x y z h1 h2:=by rw[uj]at *;exact iu h1 h2
 ntrans x y z h1 h2:=by rw[uj]at *;rw[lV]at *;omega
theorem Q1:IB:=fun rU off cap d w hH hblk e8=>by
 have eg:∀args w,(callFunc 137 args).run Tryz.prog w=.ok (.enter 137 args) w:=enters_of Tryz.func137 (by kernel_rfl) rfl
 have h:=AnyQ.slices_SortFunc Tryz.K1 3 Tryz.isAgg74 Tryz.sizeOf74 fq (fun _=>rfl) (fun x v hv=>by simp[fq]at hv;rcases hv with rfl|rfl|rfl<;>rfl) Gt XI 137 #[] rU off cap d w eg (fun m os dk _ x y=>(L9 _ x y).mono fun _ _ ⟨he,q,os',hw⟩=>⟨he,q,os',hw⟩) hH hblk e8
 exact h
theorem Q2:IC:=fun p cap fv w=>AnyF.slices_SortFunc_none Tryz.K1 p cap fv w
end Go.Proofs.YtakkdjfmiffbfaaGreatDoor.V

namespace Go.Proofs.YtakkdjfmiffbfaaGreatDoor.V
open Go.RowKit
attribute [local irreducible] dL wpOps ez Call
attribute [local go_sem] ay ew dZ eE eC cY upd bJ K.av bZ AV.cells AV.cell rowOf rowsOf part ld rowAt eO bH bI cX dj eQ bq cF dx eA ed cQ dq cD cC dc de bu aE cm bt cr cq dn dr dp ck bz cE dm br aw cw bQ eP aZ bW bx aD cR aQ cZ AV.undef bd bj dh di c6 da bV dw dz bP du dt cu cz List.getD_cons_zero List.getD_cons_succ List.getD_nil List.all_cons List.all_nil Bool.and_true Bool.true_and Bool.and_self Bool.not_true Bool.not_false Option.map_some Option.map_none Option.bind_some Option.bind_none List.length_cons List.length_nil List.take_succ_cons List.take_zero List.take_nil List.drop_succ_cons List.drop_zero List.drop_nil List.head?_cons List.map_cons List.map_nil List.getElem?_cons_zero List.getElem?_cons_succ List.cons_append List.nil_append List.append_nil List.length_map List.set_cons_zero List.set_cons_succ Nat.reduceMul eq_self Int.toNat_natCast Int.natCast_nonneg and_self true_and and_true decide_true decide_false Bool.false_eq_true Nat.zero_add Nat.add_zero List.contains_cons List.contains_nil Bool.or_false Bool.false_or beq_self_eq_true Nat.reduceBEq ne_eq not_true_eq_false not_false_eq_true Id.mk.injEq false_and and_false Nat.reduceLT Int.reduceLE Int.reduceLT Int.reduceToNat Int.reduceNeg Int.reduceAdd Nat.le_refl List.length_append beq_true beq_false Bool.not_eq_eq_eq_not or_false false_or dW ad ae aL aI bf bR az bc aA aJ cj bh
end Go.Proofs.YtakkdjfmiffbfaaGreatDoor.V

namespace Go.Proofs.YtakkdjfmiffbfaaGreatDoor.V
open Go.RowKit
def CD (m:MK) (it nx ok en:Nat) (id:Id) (B:(Ex->Env->aq->Prop)->Env->aq->Prop) (b b1:Nat) (Q:Ex->Env->aq->Prop):Nat->List (List AV)->Env->aq->Prop
 |0,_,env,σ=>env it=.ptr id 0 0/\Q .normal (upd (upd env (some nx) (.fK [.bool false])) (some ok) (.bool false)) ⟨σ.get,σ.next+1⟩
 |n+1,left,env,σ=>env it=.ptr id 0 0/\∀i cs kv vv,left[i]? =some cs->part m.ka m.ks cs=some kv->cs[m.ks]? =some vv->
   B (aQ b1 (cR (CD m it nx ok en id B b b1 Q n (left.eraseIdx i)) (aQ b Q))) (upd (upd (upd env (some nx) (.fK [.bool true,kv,vv])) (some ok) (.bool true)) (some en) (.fK [kv,vv])) ⟨σ.get,σ.next+1⟩
def HE (m:MK) (tm:O) (site it nx ok en:Nat) (B:(Ex->Env->aq->Prop)->Env->aq->Prop) (b b1:Nat) (Q:Ex->Env->aq->Prop) (env:Env) (σ:aq):Prop:=
 ∃id r,cY env tm=.map id m/\σ.get id=some r/\r.w=true/\CD m it nx ok en ⟨site,σ.next⟩ B b b1 Q r.rows.length r.rows (upd env (some it) (.ptr ⟨site,σ.next⟩ 0 0)) ⟨bH σ.get id {r with w:=false},σ.next+1⟩
variable {P:Program} {w w':World} {D D':Nat->Prop} {ι ι':Names} {hs:Nat} {g:Rows}
theorem jK.DD (hc:∀b x,D b->w'.cell? ⟨b,x,none⟩=w.cell? ⟨b,x,none⟩) (hz:∀(b:Nat) c ty z,w.heap[b]? =some (.cells c ty z)->w'.heap[b]? =w.heap[b]?) {a:AV} {v:Value} (h:jK P w D a v):jK P w' D a v:=by
 induction h with
 |int k n=>exact .int k n
 |bool b=>exact .bool b
 |str s=>exact .str s
 |bB=>exact .bB
 |gO=>exact .gO
 |iU=>exact .iU
 |jd=>exact .jd
 |iF=>exact .iF
 |err g t s a c ty h1 h2 h3 h4 h5=>exact .err g t s a c ty h1 ((hc g 0 h1).trans h2) h3 ((hz _ _ _ _ h4).trans h4) ((World.cell?_of_block (hz _ _ _ _ h4)).trans h5)
 |AU a c h=>exact .AU a c h
 |sl rows b o n c sz vs h1 h2 h3 h4 h5 h5' h6 _ ih=>exact .sl rows b o n c sz vs h1 h2 h3 h4 h5 h5' (fun i j hi hj=>(hc b _ h4).trans (h6 i j hi hj)) ih
 |eT cs b o vs h1 h1' h2 _ ih=>exact .eT cs b o vs h1 h1' (fun j hj=>(hc b _ h1).trans (h2 j hj)) ih
 |agg cs vs f h1 h2 h3 _ ih=>exact .agg cs vs f h1 h2 h3 ih
 |fn f dJ vs g h1 h2 h3 _ ih=>exact .fn f dJ vs g h1 h2 h3 ih
theorem dF.DD (hc:∀b x,D b->w'.cell? ⟨b,x,none⟩=w.cell? ⟨b,x,none⟩) (hz:∀(b:Nat) c ty z,w.heap[b]? =some (.cells c ty z)->w'.heap[b]? =w.heap[b]?) {a:AV} {v:Value} (h:dF P w D ι a v):dF P w' D ι a v:=by
 induction h with
 |eG a v h=>exact .eG a v (h.DD hc hz)
 |map id m B h1 h2=>exact .map id m B h1 h2
 |qF id c B h1 h2=>exact .qF id c B h1 h2
 |own id off len o cap B h1 h2 h3 h4 h5 h6=>exact .own id off len o cap B h1 h2 h3 h4 h5 h6
 |ptr id i off B h1 h2=>exact .ptr id i off B h1 h2
 |agg cs vs f h1 h2 h3 _ ih=>exact .agg cs vs f h1 h2 h3 ih
 |fK cs vs f h1 h2 _ ih=>exact .fK cs vs f h1 h2 ih
 |fn f dJ vs g h1 h2 h3 _ ih=>exact .fn f dJ vs g h1 h2 h3 ih
 |tD f dJ vs g h1 h2 h3 _ ih=>exact .tD f dJ vs g h1 h2 h3 ih
def ml (w:World) (rr:Nat):Prop:=∃m s seen c,w.heap[rr]? =some (.mapIter m s seen c)
theorem ml.cell {rr:Nat} (h:ml w rr) (x:Nat):w.cell? ⟨rr,x,none⟩=none:=by
 obtain⟨m,s,seen,c,h⟩:=h
 simp[World.cell?,h]
theorem gD.Kt {B:rZ} {r:Row} (R:gD P w D ι B r):¬ml w B.b:=by
 rintro⟨m,s,seen,c,h⟩
 cases hk:B.k with
 |none=>obtain⟨c',T,h3,_⟩:=(R.row hk).rU;rw[h]at h3;cases h3
 |some k=>
  cases k with
  |map m=>obtain⟨_,es,c',h3,_⟩:=R.map m hk;rw[h]at h3;cases h3
  |chan c=>obtain⟨_,buf,s',q,h3,_⟩:=R.chan c hk;rw[h]at h3;cases h3
theorem yP {rr:Nat} (h:ml w rr) (h':ml w' rr) (ho:∀b,b≠rr->w'.heap[b]? =w.heap[b]?):(∀{a v},dF P w D ι a v->dF P w' D ι a v):=fun hr=>hr.DD (fun b x _=>by
 by_cases hb:b=rr
 ·subst hb;rw[h.cell,h'.cell]
 ·exact World.cell?_of_block (ho b hb)) (fun b c ty z hb=>ho b fun e=>by
  subst e;obtain⟨m,s,seen,cc,h⟩:=h;rw[h]at hb;cases hb)
theorem fY.iter {rr:Nat} (S:fY P hs D ι g w) (h:ml w rr) (h':ml w' rr) (ho:∀b,b≠rr->w'.heap[b]? =w.heap[b]?) (hz:w'.heap.size=w.heap.size):fY P hs D ι g w':=
 ⟨by rw[hz];exact S.lo,fun b hb=>by rw[hz];exact S.dead b hb,fun id r hg=>by
  obtain⟨B,hB,R,k1,k2⟩:=S.row id r hg
  exact⟨B,hB,R.frame (ho _ fun e=>R.Kt (e▸h)) fun a v hr=>yP h h' ho hr,k1,k2⟩,S.inj⟩
theorem mi {ops:Array Oper} {Q:Exit->Act->World->Prop} {a:Act} {o:Oper} {l:List Oper} {v:Value} (hg:o.guard=none) (fG:(execOp a.eval o).run P w=.ok (.value v) w') (h:wpList P ops Q l (a.put o.dst v) w'):wpList P ops Q (o::l) a w:=by
 unfold wpList
 rw[if_pos (by simp[Region.wanted,hg])]
 exact .inl (by unfold Oper.wp;rw[fG];exact h)
theorem CC {x y:AV} {u v:Value} (h1:dF P w D ι x u) (h2:dF P w D ι y v):dF P w D ι (.fK [x,y]) (.tuple #[u,v]):=
 .fK _ _ (fun j=>if j=0 then u else v) rfl (fun j hj=>by match j,hj with|0,_=>rfl|1,_=>rfl|j+2,hj=>simp at hj;omega) (fun j a ha=>by match j,ha with|0,ha=>simp at ha;subst ha;exact h1|1,ha=>simp at ha;subst ha;exact h2|j+2,ha=>simp at ha)
theorem KM {x y z:AV} {u v t:Value} (h1:dF P w D ι x u) (h2:dF P w D ι y v) (h3:dF P w D ι z t):dF P w D ι (.fK [x,y,z]) (.tuple #[u,v,t]):=
 .fK _ _ (fun j=>if j=0 then u else if j=1 then v else t) rfl (fun j hj=>by match j,hj with|0,_=>rfl|1,_=>rfl|2,_=>rfl|j+3,hj=>simp at hj;omega) (fun j a ha=>by match j,ha with|0,ha=>simp at ha;subst ha;exact h1|1,ha=>simp at ha;subst ha;exact h2|2,ha=>simp at ha;subst ha;exact h3|j+3,ha=>simp at ha)
theorem KL {x:AV} {u:Value} (h1:dF P w D ι x u):dF P w D ι (.fK [x]) (.tuple #[u]):=
 .fK _ _ (fun _=>u) rfl (fun j hj=>by match j,hj with|0,_=>rfl|j+1,hj=>simp at hj) (fun j a ha=>by match j,ha with|0,ha=>simp at ha;subst ha;exact h1|j+1,ha=>simp at ha)
structure NX (P:Program) (w:World) (D:Nat->Prop) (ι:Names) (m:MK) (L:List MapEntry) (left:List (List AV)):Prop where
 len:left.length=L.length
 at_:∀(i:Nat) (cs:List AV),left[i]? =some cs->∃(e:MapEntry) (kv vv:AV),L[i]? =some e/\part m.ka m.ks cs=some kv/\cs[m.ks]? =some vv/\dF P w D ι kv e.key/\dF P w D ι vv e.val
theorem NX.rep {m:MK} {L:List MapEntry} {left:List (List AV)} (h:NX P w D ι m L left) (hr:∀{a v},dF P w D ι a v->dF P w' D' ι' a v):NX P w' D' ι' m L left:=⟨h.len,fun i cs hi=>by
 obtain⟨e,kv,vv,h1,h2,h3,h4,h5⟩:=h.at_ i cs hi
 exact⟨e,kv,vv,h1,h2,h3,hr h4,hr h5⟩⟩
theorem mD {α β:Type} {l:List α} {k:List β} {i j:Nat} {x:α} (hl:l.length=k.length) (h:(l.eraseIdx i)[j]? =some x):∃q:Nat,l[q]? =some x/\(k.eraseIdx i)[j]? =k[q]? :=by
 rw[List.getElem?_eraseIdx]at h
 split at h
 ·rename_i hj;exact⟨j,h,by rw[List.getElem?_eraseIdx,if_pos hj]⟩
 ·rename_i hj;exact⟨j+1,h,by rw[List.getElem?_eraseIdx,if_neg hj]⟩
theorem NX.erase {m:MK} {L:List MapEntry} {left:List (List AV)} (h:NX P w D ι m L left) {i:Nat} (hi:i<L.length):NX P w D ι m (L.eraseIdx i) (left.eraseIdx i):=⟨by
 rw[List.length_eraseIdx,List.length_eraseIdx,h.len],fun j cs hj=>by
 obtain⟨q,hq,he⟩:=mD h.len hj
 obtain⟨e,kv,vv,h1,h2⟩:=h.at_ q cs hq
 exact⟨e,kv,vv,he.trans h1,h2⟩⟩
theorem nf:∀{l:List MapEntry} {i:Nat} {e:MapEntry},(l.map (·.born)).Nodup->l[i]? =some e->l.filter (fun x=>x.born !=e.born)=l.eraseIdx i
 |x::l,0,e,hn,h=>by
  simp at h;subst h
  obtain⟨h1,h2⟩:=List.nodup_cons.1 (show(x.born::l.map (·.born)).Nodup from hn)
  rw[List.filter_cons,if_neg (by simp),List.eraseIdx_cons_zero]
  refine List.filter_eq_self.2 fun y hy=>?_
  have:y.born≠x.born:=fun hc=>h1 (by rw[<-hc];exact List.mem_map_of_mem hy)
  simpa using this
 |x::l,i+1,e,hn,h=>by
  obtain⟨h1,h2⟩:=List.nodup_cons.1 (show(x.born::l.map (·.born)).Nodup from hn)
  simp only[List.getElem?_cons_succ]at h
  have hx:x.born≠e.born:=fun hc=>h1 (by rw[hc];exact List.mem_map_of_mem (List.mem_of_getElem? h))
  rw[List.filter_cons,if_pos (by simpa using hx),List.eraseIdx_cons_succ,nf h2 h]
theorem wh {es:Array MapEntry} {clock:Nat} {seen:Array Nat} {i:Nat} {e:MapEntry} (hs:E4 es clock) (h:(leftOf es seen).toList[i]? =some e):(leftOf es (seen.push e.born)).toList=(leftOf es seen).toList.eraseIdx i:=by
 have hn:((leftOf es seen).toList.map (·.born)).Nodup:=by
  unfold leftOf
  rw[Array.toList_filter]
  exact((List.filter_sublist (p:=fun e=> !seen.contains e.born) (l:=es.toList)).map MapEntry.born).nodup hs.2
 rw[<-nf hn h]
 unfold leftOf
 rw[Array.toList_filter,Array.toList_filter,List.filter_filter]
 refine List.filter_congr fun x _=>?_
 rw[contains_push]
 cases seen.contains x.born<;>cases hb:(x.born==e.born)<;>simp_all
theorem eval_put {a:Act} {d:Nat} {v:Value} (h:d<a.tmps.size):(a.put (some d) v).eval (.tmp d)=v:=by
 simp[Act.put,Act.eval,h]
def KR (ix ie b b1 ok:Nat) (Ek Hv Ej:Oper) (rq:List Oper) (nd:Code):Code:=
 .seq (.region ix #[Ek,Hv] false) (.seq (.cond (.tmp ok) .skip (.exit b)) (.block b1 (.seq (.region ie (Ej::rq).toArray false) nd)))
structure IA (P:Program) (md:List (Nat×Nat)) (nt fid s0 it nx ok en:Nat) (Ek Hv Ej:Oper) (rq:List Oper) (nd:Code) (vE:List cK) (rS:VC):Prop where
 h1:Ek.op=.next (.tmp it) false
 h2:Ek.dst=some nx
 h3:Ek.guard=none
 h4:Hv.op=.extract (.tmp nx) 0
 h5:Hv.dst=some ok
 h6:Hv.guard=none
 h7:Ej.op=.entry (.tmp it)
 h8:Ej.dst=some en
 h9:Ej.guard=none
 RP:nx<nt
 VB:ok<nt
 lt3:en<nt
 ne1:it≠nx
 ne2:it≠ok
 hE:allM (kh P (Ej::rq).toArray nt s0 false false #[] []) rq 1=some vE
 hR:iA P md nt fid nd=some rS
theorem Ey (hm:P.follows .mixedOrders=true) {md:List (Nat×Nat)} {nt fid s0 ix ie b b1 it nx ok en:Nat} {m:MK} {id:Id} {Ek Hv Ej:Oper} {rq:List Oper} {nd:Code} {vE:List cK} {rS:VC}
  (O:IA P md nt fid s0 it nx ok en Ek Hv Ej rq nd vE rS) {rr bm:Nat} {es:Array MapEntry} {clock:Nat} (B5:E4 es clock) {ds:List Deferred} {n0:Nat} {D0:Nat->Prop} {ι0:Names} {w0:World} {Q:Ex->Env->aq->Prop} {Q':Exit->Act->World->Prop}
  (hQ:s4 P hs nt ds Q n0 D0 ι0 w0 Q') (hD0:¬D0 rr) (hrr:hs<=rr) (ig:bm≠rr):
  ∀(n:Nat) (left:List (List AV)) (env:Env) (σ:aq) (a:Act) (w:World) (D:Nat->Prop) (ι:Names) (seen:Array Nat),
   CD m it nx ok en id (dL (Sound P) (.seq (.jo false vE) rS)) b b1 Q n left env σ->St P hs nt D ι env σ a w->a.defers=ds->n0<=σ.next->Step hs D0 ι0 w0 D ι w->
   (∃sz C,ι id=some ⟨rr,sz,C,none⟩)->D rr->D bm->w.heap[rr]? =some (.mapIter (some bm) clock seen clock)->w.heap[bm]? =some (.map es clock)->left.length=n->NX P w D ι m (leftOf es seen).toList left->
   pc P (KR ix ie b b1 ok Ek Hv Ej rq nd) (Exit.inBlock b Q') (n+1) a w:=by
 intro n
 induction n with
 |zero=>
  intro left env σ a w D ι seen hv ee hd Ij T hid Wf Wc hr hb hlen hL
  obtain⟨Ii,hq⟩:=hv
  have ha:a.tmps.getD it undef=.pointer (some ⟨rr,0,none⟩):=by
   have:=ee.env it
   rw[Ii]at this
   obtain⟨B,e,hB,_⟩:=gZ this
   obtain⟨sz,C,hid⟩:=hid
   rw[hid]at hB;injection hB with hB;subst hB
   simpa using e
  have U5:a.eval (.tmp it)=.pointer (some ⟨rr,0,none⟩):=ha
  rcases run_next_at (P:=P) w Ek.type rr bm clock clock seen es clock hr hb B5.1 (Nat.le_refl _)with⟨_,fG⟩|⟨e,he,_⟩
  rotate_left
  ·have h0:(leftOf es seen).toList=[]:=List.eq_nil_of_length_eq_zero (by rw[<-hL.len,hlen])
   rw[h0]at he;simp at he
  have yJ:nx<a.tmps.size:=by rw[ee.size];exact O.RP
  have E2:=iq (iq ee.env (KL (.eG _ _ (.bool false))) (dst:=some nx) (fun d h=>by cases h;exact O.RP) ee.size) (.eG _ _ (.bool false)) (dst:=some ok) (fun d h=>by cases h;exact O.VB) (by rw[fc];exact ee.size)
  show x8 P (.seq _ _) _ a w
  refine lj (jF (wp_region_list ?_))
  refine mi (v:=.tuple #[.bool false]) (w':=w) O.h3 (by simp[execOp,O.h1,U5,fG,Result.andThen]) ?_
  refine mi (v:=.bool false) (w':=w) O.h6 (by rw[O.h2];simp[execOp,O.h4,eval_put yJ,Instr.extract]) ?_
  rw[O.h2,O.h5]
  refine lj (wL (t:=false) (eval_put (by rw[fc,ee.size];exact O.VB)) (jF (wp_exit ?_)))
  show Exit.inBlock b Q' (.exit b) _ _
  simp only[Exit.inBlock,if_true]
  exact hQ .normal _ ⟨σ.get,σ.next+1⟩ _ w D ι hq T ⟨ee.sO,ee.used.next,E2,by rw[fc,fc];exact ee.size⟩ (by rw[put_defers,put_defers];exact hd) (Nat.le_succ_of_le Ij)
 |succ n ih=>
  intro left env σ a w D ι seen hv ee hd Ij T hid Wf Wc hr hb hlen hL
  obtain⟨Ii,hq⟩:=hv
  have ha:a.tmps.getD it undef=.pointer (some ⟨rr,0,none⟩):=by
   have:=ee.env it
   rw[Ii]at this
   obtain⟨B,e,hB,_⟩:=gZ this
   obtain⟨sz,C,hid⟩:=hid
   rw[hid]at hB;injection hB with hB;subst hB
   simpa using e
  have U5:a.eval (.tmp it)=.pointer (some ⟨rr,0,none⟩):=ha
  rcases run_next_at (P:=P) w Ek.type rr bm clock clock seen es clock hr hb B5.1 (Nat.le_refl _)with⟨h0,_⟩|⟨e,he,w1,B6,fG⟩
  ·have:=hL.len
   rw[hlen,Array.length_toList]at this;omega
  obtain⟨i,hi,LB⟩:=List.getElem_of_mem he
  have S9:(leftOf es seen).toList[i]? =some e:=by rw[List.getElem?_eq_getElem hi,LB]
  have qp:i<left.length:=by rw[hL.len];exact hi
  obtain⟨e',kv,vv,q1,q2,q3,q4,q5⟩:=hL.at_ i left[i] (List.getElem?_eq_getElem qp)
  rw[S9]at q1;injection q1 with q1;subst q1
  replace hq:=hq i left[i] kv vv (List.getElem?_eq_getElem qp) q2 q3
  have Qq:w1.heap[rr]? =some (.mapIter (some bm) clock seen clock):=by rcases B6 with rfl|rfl<;>exact hr
  have jc:=MapKept.heap_set (o':=.mapIter (some bm) clock (seen.push e.born) clock) Qq
  obtain⟨w2,tX⟩:∃w2,ChangeMaps.setBlock w1 rr (.mapIter (some bm) clock (seen.push e.born) clock)=w2:=⟨_,rfl⟩
  have ho:∀k,k≠rr->w2.heap[k]? =w.heap[k]? :=fun k hk=>by
   rw[<-tX]
   refine(jc.2 k hk).trans ?_
   rcases B6 with rfl|rfl<;>rfl
  have hz:w2.heap.size=w.heap.size:=by
   rw[<-tX]
   rcases B6 with rfl|rfl<;>simp[ChangeMaps.setBlock]
  have AQ:w2.heap[rr]? =some (.mapIter (some bm) clock (seen.push e.born) clock):=by rw[<-tX];exact jc.1
  have tV:w2.os=w.os/\w2.tape=w.tape/\w2.output=w.output:=by
   rw[<-tX]
   rcases B6 with rfl|rfl<;>exact⟨rfl,rfl,rfl⟩
  rw[tX]at fG
  clear tX jc
  have I1:ml w rr:=⟨_,_,_,_,hr⟩
  have I2:ml w2 rr:=⟨_,_,_,_,AQ⟩
  have rt:∀{a v},dF P w D ι a v->dF P w2 D ι a v:=yP I1 I2 ho
  have S2:=ee.sO.iter I1 I2 ho hz
  have T2:Step hs D0 ι0 w0 D ι w2:=⟨⟨tV.1.trans T.below.os,tV.2.1.trans T.below.tape,tV.2.2.trans T.below.output,by rw[hz];exact T.below.size,fun k hk=>(ho k ab).trans (T.below.block k hk)⟩,fun k hk=>(ho k (fun hc=>hD0 (hc▸hk))).trans (T.xS k hk),T.dead,T.names,T.new⟩
  have DP:w2.heap[bm]? =some (.map es clock):=(ho bm ig).trans hb
  have yJ:nx<a.tmps.size:=by rw[ee.size];exact O.RP
  have E1:db P w2 D ι env a:=fun t=>rt (ee.env t)
  have E2:=iq (iq E1 (KM (.eG _ _ (.bool true)) (rt q4) (rt q5)) (dst:=some nx) (fun d h=>by cases h;exact O.RP) ee.size) (.eG _ _ (.bool true)) (dst:=some ok) (fun d h=>by cases h;exact O.VB) (by rw[fc];exact ee.size)
  have E3:=iq E2 (CC (rt q4) (rt q5)) (dst:=some en) (fun d h=>by cases h;exact O.lt3) (by rw[fc,fc];exact ee.size)
  have Ol:=run_entry_at (P:=P) w2 rr bm clock seen es clock e AQ DP (mem_left he).1 B5.2
  show x8 P (.seq _ _) _ a w
  refine lj (jF (wp_region_list ?_))
  refine mi (v:=.tuple #[.bool true,e.key,e.val]) (w':=w2) O.h3 (by simp[execOp,O.h1,U5,fG,Result.andThen]) ?_
  refine mi (v:=.bool true) (w':=w2) O.h6 (by rw[O.h2];simp[execOp,O.h4,eval_put yJ,Instr.extract]) ?_
  rw[O.h2,O.h5]
  refine lj (wL (t:=true) (eval_put (by rw[fc,ee.size];exact O.VB)) (jF (wp_skip ?_)))
  refine sH (lj (jF (wp_region_list ?_)))
  show wpList P _ _ (Ej::rq) _ _
  have ha3:(((a.put (some nx) (.tuple #[.bool true,e.key,e.val])).put (some ok) (.bool true)).eval (.tmp it))=.pointer (some ⟨rr,0,none⟩):=by
   have n1:=O.ne1
   have n2:=O.ne2
   rw[<-U5]
   simp[Act.put,Act.eval,Array.getD_eq_getD_getElem?,Array.getElem?_setIfInBounds,Ne.symm n1,Ne.symm n2]
  refine mi (v:=.tuple #[e.key,e.val]) (w':=w2) O.h9 (by simp[execOp,O.h7,ha3,Ol,Result.andThen]) ?_
  rw[O.h8]
  refine y7 rq vE 1 _ ⟨σ.get,σ.next+1⟩ _ w2 D ι (fun _=>False) O.hE hq S2 ee.used.next (fun _ h=>h.elim) E3 (by rw[fc,fc,fc];exact ee.size) fun V6 σ3 a3 w3 D3 ι3 hk T3 St3 hd3 WX=>?_
  refine pS hm nd rS O.hR _ V6 σ3 a3 w3 D3 ι3 _ hk St3 fun ex Jd σ4 a4 w4 D4 ι4 JQ T4 VR hd4 WY=>?_
  have WG:a4.defers=ds:=by rw[hd4,hd3,put_defers,put_defers,put_defers];exact hd
  have Vj:n0<=σ4.next:=Nat.le_trans Ij (Nat.le_trans (Nat.le_succ _) (Nat.le_trans WX WY))
  have O5:=T3.trans T4
  have TT:=T2.trans O5
  have TY:CD m it nx ok en id (dL (Sound P) (.seq (.jo false vE) rS)) b b1 Q n (left.eraseIdx i) Jd σ4->pc P (KR ix ie b b1 ok Ek Hv Ej rq nd) (Exit.inBlock b Q') (n+1) a4 w4:=fun hq5=>by
   refine ih (left.eraseIdx i) Jd σ4 a4 w4 D4 ι4 (seen.push e.born) hq5 VR WG Vj TT ?_ (O5.dead _ Wf) (O5.dead _ Wc) ((O5.xS _ Wf).trans AQ) ((O5.xS _ Wc).trans DP) ?_ ?_
   ·obtain⟨sz,C,hid⟩:=hid;exact⟨sz,C,O5.names _ _ hid⟩
   ·rw[List.length_eraseIdx,if_pos qp,hlen];rfl
   ·rw[wh B5 S9]
    exact(hL.erase hi).rep fun hr=>O5.rep (rt hr)
  have out:∀ex,ex≠.normal->Q ex Jd σ4->Q' (UR ex) a4 w4:=fun ex _ h=>hQ ex Jd σ4 a4 w4 D4 ι4 h TT VR WG Vj
  cases ex with
  |normal=>exact TY JQ
  |ret=>exact out .ret (by simp) JQ
  |exit jQ=>
   simp only[aQ]at JQ
   simp only[UR,Exit.inBlock]
   by_cases h1:jQ=b1
   ·rw[if_pos h1]at JQ ⊢
    exact TY JQ
   ·rw[if_neg h1]at JQ ⊢
    simp only[cR,aQ]at JQ
    show Exit.inBlock b Q' (.exit jQ) a4 w4
    simp only[Exit.inBlock]
    by_cases h2:jQ=b
    ·rw[if_pos h2]at JQ ⊢
     exact hQ .normal Jd σ4 a4 w4 D4 ι4 JQ TT VR WG Vj
    ·rw[if_neg h2]at JQ ⊢
     exact out (.exit jQ) (by simp) JQ
def CS (P:Program) (nt:Nat) (c:Code) (W:(Ex->Env->aq->Prop)->Env->aq->Prop):Prop:=
 ∀(hs:Nat) (Q:Ex->Env->aq->Prop) (env:Env) (σ:aq) (a:Act) (w:World) (D:Nat->Prop) (ι:Names) (Q':Exit->Act->World->Prop),W Q env σ->St P hs nt D ι env σ a w->s4 P hs nt a.defers Q σ.next D ι w Q'->x8 P c Q' a w
theorem CS.code (hm:P.follows .mixedOrders=true) {md:List (Nat×Nat)} {nt fid:Nat} {c:Code} {vc:VC} (h:iA P md nt fid c=some vc):CS P nt c (dL (Sound P) vc):=
 fun _ Q env σ a w D ι Q' hv ee hQ=>pS hm c vc h Q env σ a w D ι Q' hv ee hQ
theorem CS.seq {nt:Nat} {x y:Code} {V W:(Ex->Env->aq->Prop)->Env->aq->Prop} (h:CS P nt x V) (k:CS P nt y W):CS P nt (.seq x y) (fun Q=>V (cR (W Q) Q)):=fun hs Q env σ a w D ι Q' hv ee hQ=>by
 refine lj (h hs _ env σ a w D ι _ hv ee fun ex iH σ1 a1 w1 D1 ι1 hq T jx hd hle=>?_)
 cases ex with
 |normal=>exact k hs Q iH σ1 a1 w1 D1 ι1 Q' hq jx (by rw[hd];exact hQ.later T hle)
 |exit id=>exact hQ (.exit id) iH σ1 a1 w1 D1 ι1 hq T jx hd hle
 |ret=>exact hQ .ret iH σ1 a1 w1 D1 ι1 hq T jx hd hle
theorem CS.rng (hm:P.follows .mixedOrders=true) {md:List (Nat×Nat)} {nt fid s0 sA site ia ix ie b b1 it nx ok en:Nat} {m:MK} {Ek Hv Ej Eo:Oper} {KD rq:List Oper} {nd:Code} {vA vE:List cK} {rS:VC} {t k e:TypeId} {tm:Operand} {tm':O}
  (O:IA P md nt fid s0 it nx ok en Ek Hv Ej rq nd vE rS) (h1:Eo.op=.range t tm) (h2:Eo.dst=some it) (h3:Eo.guard=none) (eR:it<nt) (ht:P.underlying t=some (.map k e)) (Ty:cO P tm=some tm') (hA:allM (kh P (KD++[Eo]).toArray nt sA false false #[] []) KD 0=some vA):
  CS P nt (.seq (.region ia (KD++[Eo]).toArray false) (.block b (.loop (KR ix ie b b1 ok Ek Hv Ej rq nd))))
   (fun Q=>wpOps (Sound P) false vA (HE m tm' site it nx ok en (dL (Sound P) (.seq (.jo false vE) rS)) b b1 Q)):=fun hs Q env σ a w D ι Q' hv ee hQ=>by
 refine lj (jF (wp_region_list ?_))
 show wpList P _ _ (KD++[Eo]) a w
 refine wN [Eo] KD vA 0 env σ a w D ι (fun _=>False) hA hv ee.sO ee.used (fun _ h=>h.elim) ee.env ee.size fun iH σ1 a1 w1 D1 ι1 hk T qx Ly GZ=>?_
 obtain⟨id,r,hid,hg,hw,hr⟩:=hk
 have hZ:=dQ qx.env Ty
 rw[hid]at hZ
 obtain⟨B,hv,hB,hk⟩:=Az hZ
 obtain⟨B',ei,R,lx,pI⟩:=qx.sO.row id r hg
 rw[hB]at ei;injection ei with ei;subst ei
 obtain⟨hrsz,es,clock,hb,e8,⟨hlen,B5⟩,hM⟩:=R.map m hk
 have Ib:=R.lt
 have fG:=run_range_map (P:=P) w1 t k e B.b es clock ht hb
 refine mi (v:=.pointer (some ⟨w1.heap.size,0,none⟩)) (w':=w1.alloc (.mapIter (some B.b) clock #[] clock)) h3 (by simp[execOp,h1,hv,fG,Result.andThen]) ?_
 rw[h2]
 obtain⟨w2,tX⟩:∃w2,w1.alloc (.mapIter (some B.b) clock #[] clock)=w2:=⟨_,rfl⟩
 have hblk:∀b,b<w1.heap.size->w2.heap[b]? =w1.heap[b]? :=fun b hb=>by rw[<-tX];exact Below.heap_alloc _ _ _ hb
 have iT:w2.heap[w1.heap.size]? =some (.mapIter (some B.b) clock #[] clock):=by rw[<-tX];exact heap_alloc_new _ _
 have hz:w2.heap.size=w1.heap.size+1:=by rw[<-tX];simp
 have tV:w2.os=w1.os/\w2.tape=w1.tape/\w2.output=w1.output:=by rw[<-tX];exact⟨rfl,rfl,rfl⟩
 rw[tX]
 clear tX fG
 let D2:Nat->Prop:=fun x=>D1 x∨x=B.b∨x=w1.heap.size
 let ι2:Names:=jU ι1 ⟨site,σ1.next⟩ ⟨w1.heap.size,1,0,none⟩
 have jP:ι1 ⟨site,σ1.next⟩=none:=fresh qx.used (fun h=>h)
 have Vn:∀{a v},dF P w1 D1 ι1 a v->dF P w2 D2 ι2 a v:=fun h=>h.frame (fun b hd=>hblk b (qx.sO.dead b hd)) (fun _ h=>.inl h) (fe jP)
 have Cs:∀{j q C},σ1.get j=some q->ι2 j=some C->ι1 j=some C:=fun {j q C} hj hC=>by
  obtain⟨C',tR,_⟩:=qx.sO.row j q hj
  have:=fe (B:=⟨w1.heap.size,1,0,none⟩) jP j C' tR
  have e:=this.symm.trans hC
  injection e with e;rw[<-e];exact tR
 have lt:∀{j q C},σ1.get j=some q->ι1 j=some C->C.b<w1.heap.size:=fun {j q C} hj hC=>by
  obtain⟨C',tR,R',_⟩:=qx.sO.row j q hj
  rw[hC]at tR;injection tR with tR;subst tR
  exact R'.lt
 have PK:∀{j q},bH σ1.get id {r with w:=false} j=some q->∃q0,σ1.get j=some q0/\(q.w=true->q=q0/\j≠id)/\(j=id->q={r with w:=false}/\q0=r)/\(j≠id->q=q0):=fun {j q} h=>by
  unfold bH at h
  split at h
  ·rename_i e
   injection h with h;subst h
   exact⟨r,e▸hg,fun h=>(by cases h),fun _=>⟨rfl,rfl⟩,fun hc=>absurd e hc⟩
  ·rename_i e
   exact⟨q,h,fun _=>⟨rfl,e⟩,fun hc=>absurd hc e,fun _=>rfl⟩
 have S2:fY P hs D2 ι2 (bH σ1.get id {r with w:=false}) w2:=by
  refine⟨by rw[hz];exact Nat.le_succ_of_le qx.sO.lo,fun b hb=>?_,fun j q h=>?_,fun j j' q q' C C' h h' JR hC tR he=>?_⟩
  ·rw[hz]
   rcases hb with hb|rfl|rfl
   ·exact Nat.lt_succ_of_lt (qx.sO.dead b hb)
   ·exact Nat.lt_succ_of_lt Ib
   ·exact Nat.lt_succ_self _
  ·obtain⟨q0,Oo,JR,WO,ig⟩:=PK h
   obtain⟨C,hC,RC,k1,k2⟩:=qx.sO.row j q0 Oo
   have hCl:=lt Oo hC
   refine⟨C,fe jP j C hC,?_,fun RK=>k1 ((JR RK).1▸RK),fun RK hD=>?_⟩
   ·have RF:gD P w2 D2 ι2 C q0:=RC.frame (hblk _ hCl) fun a v h=>Vn h
    by_cases hj:j=id
    ·obtain⟨e1,e2⟩:=WO hj
     rw[e1,<-e2];exact RF.flag false
    ·rw[ig hj];exact RF
   ·obtain⟨e1,e2⟩:=JR RK
    rcases hD with hD|hD|hD
    ·exact k2 (e1▸RK) hD
    ·exact e2 (qx.sO.inj j id q0 r C B Oo hg (e1▸RK) hC hB hD)
    ·omega
  ·obtain⟨q0,Oo,Xe,_⟩:=PK h
   obtain⟨q0',Tq,_⟩:=PK h'
   exact qx.sO.inj j j' q0 q0' C C' Oo Tq ((Xe JR).1▸JR) (Cs Oo hC) (Cs Tq tR) he
 have T2:Step hs D1 ι1 w1 D2 ι2 w2:=⟨⟨tV.1,tV.2.1,tV.2.2,ab,fun k hk=>hblk k (Nat.lt_of_lt_of_le hk qx.sO.lo)⟩,fun b hb=>hblk b (qx.sO.dead b hb),fun _ h=>.inl h,fe jP,fun b hb=>by
  rcases hb with hb|rfl|rfl
  ·exact .inl hb
  ·exact .inr (lx hw)
  ·exact .inr qx.sO.lo⟩
 have E2:db P w2 D2 ι2 (upd iH (some it) (.ptr ⟨site,σ1.next⟩ 0 0)) (a1.put (some it) (.pointer (some ⟨w1.heap.size,0,none⟩))):=
  iq (fun t=>Vn (qx.env t)) (by have:=dF.ptr (P:=P) (w:=w2) (D:=D2) (ι:=ι2) ⟨site,σ1.next⟩ 0 0 ⟨w1.heap.size,1,0,none⟩ (eo _ _ _) rfl;simpa using this) (fun d h=>by cases h;exact eR) qx.size
 have L2:NX P w2 D2 ι2 m (leftOf es #[]).toList r.rows:=by
  have he:(leftOf es #[]).toList=es.toList:=by simp[leftOf]
  rw[he]
  refine⟨by simpa using e8.symm,fun i cs hi=>?_⟩
  obtain⟨Sh,kv,vv,q1,q2,q3,q4,q5⟩:=hM i cs hi
  exact⟨Sh,kv,vv,by simpa using q1,q2,q3,Vn q4,Vn q5⟩
 show x8 P (.block b (.loop (KR ix ie b b1 ok Ek Hv Ej rq nd))) Q' _ w2
 exact sH (Cr (r.rows.length+1) (Ey hm O B5 (ds:=a.defers) (n0:=σ.next) (D0:=D) (ι0:=ι) (w0:=w) hQ
  (fun hc=>by have:=ee.sO.dead _ hc;have:=T.below.size;omega) qx.sO.lo ab r.rows.length r.rows _ ⟨bH σ1.get id {r with w:=false},σ1.next+1⟩ _ w2 D2 ι2 #[] hr
  ⟨S2,qx.used.upd.next,E2,by rw[fc];exact qx.size⟩ (by rw[put_defers];exact Ly) (Nat.le_succ_of_le GZ) (T.trans T2) ⟨1,0,eo _ _ _⟩ (.inr (.inr rfl)) (.inr (.inl rfl)) iT ((hblk _ Ib).trans hb) rfl L2))
theorem CS.fn {f:Nat} {fn:Func} {c:Code} {args:List AV} {σ:aq} {K:AV->aq->Prop} {vr:List pq} {W:(Ex->Env->aq->Prop)->Env->aq->Prop} (Om:P.funcs[f]? =some fn) (hc:fn.body=some c) (hr:fn.results.toList.mapM (Dp P)=some vr) (ha:fn.params.size+fn.nfree=args.length) (hle:fn.params.size+fn.nfree<=fn.ntmps)
  (h:CS P fn.ntmps c W) (hv:W (l9 vr K) (bJ args) σ):Call P f args σ K:=
 eV (uV Om hc hr ha hle fun hs w D ι a Q' ee hQ=>h hs (l9 vr K) (bJ args) σ a w D ι Q' hv ee hQ)
theorem rT (hm:P.follows .mixedOrders=true) {c:VC} {Q Q':Ex->Env->aq->Prop} {env:Env} {σ:aq} (hQ:∀x e s,Q x e s->Q' x e s) (h:dL (Call P) c Q env σ):dL (Sound P) c Q' env σ:=
 jW (fun _ _ _ _ h=>gG hm h) kg c Q Q' env σ hQ h
theorem zk {m:MK} {it nx ok en:Nat} {id:Id} {B B':(Ex->Env->aq->Prop)->Env->aq->Prop} {b b1:Nat} {Q Q':Ex->Env->aq->Prop} (hB:∀R R' e s,(∀x e s,R x e s->R' x e s)->B R e s->B' R' e s) (hQ:∀x e s,Q x e s->Q' x e s):
  ∀(n:Nat) (left:List (List AV)) (env:Env) (σ:aq),CD m it nx ok en id B b b1 Q n left env σ->CD m it nx ok en id B' b b1 Q' n left env σ
 |0,_,env,σ,h=>⟨h.1,hQ _ _ _ h.2⟩
 |n+1,left,env,σ,h=>⟨h.1,fun i cs kv vv h1 h2 h3=>hB _ _ _ _ (fun x e s hx=>by
  have hn:=zk (id:=id) (m:=m) (it:=it) (nx:=nx) (ok:=ok) (en:=en) (b:=b) (b1:=b1) hB hQ n (left.eraseIdx i) e s
  cases x with
  |normal=>exact hn hx
  |ret=>exact hQ _ _ _ hx
  |exit jQ=>
   simp only[aQ]at hx ⊢
   split at hx
   ·rename_i h1;rw[if_pos h1];exact hn hx
   ·rename_i h1
    rw[if_neg h1]
    simp only[cR,aQ]at hx ⊢
    split at hx
    ·rename_i h2;rw[if_pos h2];exact hQ _ _ _ hx
    ·rename_i h2;rw[if_neg h2];exact hQ _ _ _ hx) (h.2 i cs kv vv h1 h2 h3)⟩
theorem HF (hm:P.follows .mixedOrders=true) {m:MK} {tm:O} {site it nx ok en:Nat} {c:VC} {b b1:Nat} {Q Q':Ex->Env->aq->Prop} {env:Env} {σ:aq} (hQ:∀x e s,Q x e s->Q' x e s) (h:HE m tm site it nx ok en (dL (Call P) c) b b1 Q env σ):HE m tm site it nx ok en (dL (Sound P) c) b b1 Q' env σ:=by
 obtain⟨id,r,h1,h2,h3,h4⟩:=h
 exact⟨id,r,h1,h2,h3,zk (B':=dL (Sound P) c) (fun R R' e s hR hb=>rT hm hR hb) hQ _ _ _ _ h4⟩
theorem qi {α:Type}:∀{l:List α} {i:Nat} {x:α},l[i]? =some x->(x::l.eraseIdx i).Perm l
 |y::l,0,x,h=>by simp at h;subst h;exact List.Perm.refl _
 |y::l,i+1,x,h=>by
  simp only[List.getElem?_cons_succ]at h
  rw[List.eraseIdx_cons_succ]
  exact(List.Perm.swap _ _ _).trans ((qi h).cons _)
theorem Uv {m:MK} {tm:O} {site it nx ok en:Nat} {c:VC} {b b1:Nat} {Q:Ex->Env->aq->Prop} {env:Env} {σ:aq} {id:Id} {r:Row} (I:List (List AV)->Env->aq->Prop) (h1:cY env tm=.map id m) (h2:σ.get id=some r) (h3:r.w=true) (Ii:([nx,ok,en]++yc c).contains it=false)
  (h0:I [] (upd env (some it) (.ptr ⟨site,σ.next⟩ 0 0)) ⟨bH σ.get id {r with w:=false},σ.next+1⟩)
  (step:∀pre cs rest e s kv vv,(pre++cs::rest).Perm r.rows->I pre e s->iX ([nx,ok,en]++yc c) (upd env (some it) (.ptr ⟨site,σ.next⟩ 0 0)) e->part m.ka m.ks cs=some kv->cs[m.ks]? =some vv->
   dL (Call P) c (aQ b1 (cR (I (pre++[cs])) (aQ b Q))) (upd (upd (upd e (some nx) (.fK [.bool true,kv,vv])) (some ok) (.bool true)) (some en) (.fK [kv,vv])) ⟨s.get,s.next+1⟩)
  (fin:∀pre e s,pre.Perm r.rows->I pre e s->iX ([nx,ok,en]++yc c) (upd env (some it) (.ptr ⟨site,σ.next⟩ 0 0)) e->Q .normal (upd (upd e (some nx) (.fK [.bool false])) (some ok) (.bool false)) ⟨s.get,s.next+1⟩):
  HE m tm site it nx ok en (dL (Call P) c) b b1 Q env σ:=by
 refine⟨id,r,h1,h2,h3,?_⟩
 have SS:∀e,iX ([nx,ok,en]++yc c) (upd env (some it) (.ptr ⟨site,σ.next⟩ 0 0)) e->e it=.ptr ⟨site,σ.next⟩ 0 0:=fun e h=>by
  rw[h it Ii];simp[upd]
 have key:∀n left pre e s,(pre++left).Perm r.rows->left.length=n->I pre e s->iX ([nx,ok,en]++yc c) (upd env (some it) (.ptr ⟨site,σ.next⟩ 0 0)) e->CD m it nx ok en ⟨site,σ.next⟩ (dL (Call P) c) b b1 Q n left e s:=by
  intro n
  induction n with
  |zero=>
   intro left pre e s hp hl hI hK
   have:left=[]:=List.eq_nil_of_length_eq_zero hl
   subst this
   rw[List.append_nil]at hp
   exact⟨SS e hK,fin pre e s hp hI hK⟩
  |succ n ih=>
   intro left pre e s hp hl hI hK
   refine⟨SS e hK,fun i cs kv vv hi hk hv=>?_⟩
   have qp:=(List.getElem?_eq_some_iff.1 hi).1
   have pJ:(cs::left.eraseIdx i).Perm left:=by
    exact qi hi
   have DW:(pre++cs::left.eraseIdx i).Perm r.rows:=(pJ.append_left pre).trans hp
   have iY:iX ([nx,ok,en]++yc c) (upd env (some it) (.ptr ⟨site,σ.next⟩ 0 0)) (upd (upd (upd e (some nx) (.fK [.bool true,kv,vv])) (some ok) (.bool true)) (some en) (.fK [kv,vv])):=
    ((hK.upd (fun t h=>by cases h;simp)).upd (fun t h=>by cases h;simp)).upd (fun t h=>by cases h;simp)
   refine jW (fun _ _ _ _ h=>h) aS c _ _ _ _ (fun x e' s' hx=>?_) (zu c _ _ _ (fun t ht=>List.mem_append_right _ ht) iY (step pre cs (left.eraseIdx i) e s kv vv DW hI hK hk hv))
   obtain⟨hx,DT⟩:=hx
   have TY:I (pre++[cs]) e' s'->CD m it nx ok en ⟨site,σ.next⟩ (dL (Call P) c) b b1 Q n (left.eraseIdx i) e' s':=fun Wo=>
    ih (left.eraseIdx i) (pre++[cs]) e' s' (by rw[List.append_assoc];exact DW) (by rw[List.length_eraseIdx,if_pos qp];omega) Wo DT
   cases x with
   |normal=>exact TY hx
   |ret=>exact hx
   |exit jQ=>
    simp only[aQ]at hx ⊢
    split at hx
    ·rename_i h1;rw[if_pos h1];exact TY hx
    ·rename_i h1;rw[if_neg h1];exact hx
 exact key _ r.rows [] _ _ (List.Perm.refl _) rfl h0 (iX.refl _ _)
end Go.Proofs.YtakkdjfmiffbfaaGreatDoor.V

namespace Go.Proofs.YtakkdjfmiffbfaaGreatDoor.V
open Go.RowKit
def OX:Code->Code
 | .seq a _=>a
 |c=>c
def Ip:Code->Code
 | .seq _ b=>b
 |c=>c
def VJ:Code->Code
 | .block _ c=>c
 |c=>c
def XQ:Code->Code
 | .loop c=>c
 |c=>c
def UI:Code->List Oper
 | .region _ o _=>o.toList
 |_=>[]
def rg2 (k:Code):Code:=OX (OX (Ip (Ip k)))
def XD (k:Code):Code:=Ip (OX (Ip (Ip k)))
def rgL (k:Code):Code:=XQ (VJ (XD k))
def QW (k:Code):Code:=Ip (Ip (rgL k))
def Rr:Oper:={dst:=none,op:=.nilCheck (.tmp 0),type:=0,pos:= "",after:= #[],guard:=none}
def rgP (k:Code):List Oper:=(UI (rg2 k)).dropLast
def rgO (k:Code):Oper:=(UI (rg2 k)).getLastD Rr
def VF (k:Code) (i:Nat):Oper:=(UI (OX (rgL k))).getD i Rr
def Ud (k:Code):Oper:=(UI (OX (VJ (QW k)))).headD Rr
def Ue (k:Code):List Oper:=(UI (OX (VJ (QW k)))).tail
def rgR (k:Code):Code:=Ip (VJ (QW k))
def Uf (P:Program) (v0 v1:VC) (vA:List cK) (m:MK) (tm:O) (site it nx ok en:Nat) (vE:List cK) (vR:VC) (b b1:Nat) (vT:VC) (Q:Ex->Env->aq->Prop):Env->aq->Prop:=
 dL (Sound P) v0 (cR (dL (Sound P) v1 (cR (wpOps (Sound P) false vA (HE m tm site it nx ok en (dL (Sound P) (.seq (.jo false vE) vR)) b b1 (cR (dL (Sound P) vT Q) Q))) Q)) Q)
def QX (P:Program) (v0 v1:VC) (vA:List cK) (m:MK) (tm:O) (site it nx ok en:Nat) (vE:List cK) (vR:VC) (b b1:Nat) (vT:VC) (Q:Ex->Env->aq->Prop):Env->aq->Prop:=
 dL (Call P) v0 (cR (dL (Call P) v1 (cR (wpOps (Call P) false vA (HE m tm site it nx ok en (dL (Call P) (.seq (.jo false vE) vR)) b b1 (cR (dL (Call P) vT Q) Q))) Q)) Q)
theorem xa {F F':Env->aq->Prop} {Q:Ex->Env->aq->Prop} (h:∀e s,F e s->F' e s):∀x e s,cR F Q x e s->cR F' Q x e s:=fun x e s hx=>by
 cases x with
 |normal=>exact h e s hx
 |ret=>exact hx
 |exit id=>exact hx
theorem KS {P:Program} (hm:P.follows .mixedOrders=true) {v0 v1:VC} {vA:List cK} {m:MK} {tm:O} {site it nx ok en:Nat} {vE:List cK} {vR:VC} {b b1:Nat} {vT:VC} {Q:Ex->Env->aq->Prop} {env:Env} {σ:aq}
  (h:QX P v0 v1 vA m tm site it nx ok en vE vR b b1 vT Q env σ):Uf P v0 v1 vA m tm site it nx ok en vE vR b b1 vT Q env σ:=
 rT hm (xa fun _ _ h=>rT hm (xa fun _ _ h=>kP (fun _ _ _ _ h=>gG hm h) kg (fun _ _ h=>HF hm (xa fun _ _ h=>rT hm (fun _ _ _ h=>h) h) h) _ _ _ h) h) h
noncomputable def Cb:Go.Code:=Tryz.f64.body.getD .skip
def Lg:VC:=(.jo false [⟨(some 2),(.new [.bB]),none,64000000,[]⟩])
def ON:VC:=(.jo false [⟨(some 3),(.gy (.k .bB)),none,64001000,[]⟩])
def OO:List cK:=[⟨(some 6),(.gy (.t 0)),none,64002000,[]⟩,⟨(some 7),(.H8 (.t 6)),none,64002001,[]⟩,⟨(some 8),(.k8 4 (.t 7)),none,64002002,[]⟩,⟨(some 9),(.load false 1 (.t 8)),none,64002003,[]⟩]
def F7:List cK:=[⟨(some 14),(.extract 0 (.t 13)),none,64004001,[]⟩,⟨(some 15),(.extract 1 (.t 13)),none,64004002,[]⟩,⟨(some 4),(.new [(.int .i64 0),(.int .i64 0)]),none,64004003,[]⟩,⟨none,(.store 2 (.t 4) (.t 14)),none,64004004,[]⟩,⟨(some 5),(.gy (.t 15)),none,64004005,[]⟩]
def F8:VC:=(.jo false [⟨(some 16),(.gy (.t 3)),none,64005000,[]⟩,⟨(some 17),(.load true 2 (.t 4)),none,64005001,[]⟩,⟨(some 18),(.gy (.t 5)),none,64005002,[]⟩,⟨(some 19),(.build [(.int .i64 0),(.int .i64 0),(.int .i64 0)] [(0,(2,(.t 17))),(2,(1,(.t 18)))]),none,64005003,[]⟩,⟨(some 20),(.nW 3 1 [(.t 19)]),none,64005004,[]⟩,⟨(some 21),(.append 3 (.t 16) (.t 20)),none,64005005,[]⟩,⟨(some 3),(.gy (.t 21)),none,64005006,[]⟩])
def F9:VC:=(.seq (.jo false [⟨(some 22),(.gy (.t 3)),none,64006000,[]⟩,⟨(some 23),(.call 101 [(.t 22)]),none,64006001,[]⟩,⟨none,(.store 1 (.t 2) (.t 23)),none,64006002,[]⟩]) .ret)
def Gb:List pq:=[(.cell true 1 2)]
def Ld:O:=(.t 9)
theorem TZ:IA Tryz.prog [] Tryz.f64.ntmps 64 64004000 10 11 12 13 (VF Cb 0) (VF Cb 1) (Ud Cb) (Ue Cb) (rgR Cb) F7 F8:=⟨by kernel_rfl,by kernel_rfl,by kernel_rfl,by kernel_rfl,by kernel_rfl,by kernel_rfl,by kernel_rfl,by kernel_rfl,by kernel_rfl,by decide,by decide,by decide,by decide,by decide,by kernel_rfl,by kernel_rfl⟩
theorem Un:Cb=.seq (OX Cb) (.seq (OX (Ip Cb)) (.seq (.seq (.region 2 (rgP Cb++[rgO Cb]).toArray false) (.block 0 (.loop (KR 3 4 0 1 12 (VF Cb 0) (VF Cb 1) (Ud Cb) (Ue Cb) (rgR Cb))))) (Ip (Ip (Ip Cb))))):=by kernel_rfl
theorem Sf (m:MK):CS Tryz.prog Tryz.f64.ntmps Cb (Uf Tryz.prog Lg ON OO m Ld 64002999 10 11 12 13 F7 F8 0 1 F9):=by
 rw[Un]
 exact CS.seq (CS.code (md:=[]) (fid:=64) mixed (by kernel_rfl)) (CS.seq (CS.code (md:=[]) (fid:=64) mixed (by kernel_rfl)) (CS.seq (CS.rng (tm:=.tmp 9) (sA:=64002000) (t:=165) (k:=72) (e:=2) mixed TZ (by kernel_rfl) (by kernel_rfl) (by kernel_rfl) (by decide) (by kernel_rfl) (by kernel_rfl) (by kernel_rfl)) (CS.code (md:=[]) (fid:=64) mixed (by kernel_rfl))))
theorem Uc {args:List AV} {σ:aq} {K:AV->aq->Prop} (ha:args.length=Tryz.f64.params.size) (m:MK) (h:QX Tryz.prog Lg ON OO m Ld 64002999 10 11 12 13 F7 F8 0 1 F9 (l9 Gb K) (bJ args) σ):Call Tryz.prog 64 args σ K:=
 CS.fn Tryz.func64 (by kernel_rfl) (by kernel_rfl) ha.symm (by decide) (Sf m) (KS mixed h)
end Go.Proofs.YtakkdjfmiffbfaaGreatDoor.V

namespace Go.Proofs.YtakkdjfmiffbfaaGreatDoor.V
open Go.RowKit
attribute [local irreducible] dL wpOps ez Call
attribute [local go_sem] ay ew dZ eE eC cY upd bJ K.av bZ AV.cells AV.cell rowOf rowsOf part ld rowAt eO bH bI cX dj eQ bq cF dx eA ed cQ dq cD cC dc de bu aE cm bt cr cq dn dr dp ck bz cE dm br aw cw bQ eP aZ bW bx aD cR aQ cZ AV.undef bd bj dh di c6 da bV dw dz bP du dt cu cz List.getD_cons_zero List.getD_cons_succ List.getD_nil List.all_cons List.all_nil Bool.and_true Bool.true_and Bool.and_self Bool.not_true Bool.not_false Option.map_some Option.map_none Option.bind_some Option.bind_none List.length_cons List.length_nil List.take_succ_cons List.take_zero List.take_nil List.drop_succ_cons List.drop_zero List.drop_nil List.head?_cons List.map_cons List.map_nil List.getElem?_cons_zero List.getElem?_cons_succ List.cons_append List.nil_append List.append_nil List.length_map List.set_cons_zero List.set_cons_succ Nat.reduceMul eq_self Int.toNat_natCast Int.natCast_nonneg and_self true_and and_true decide_true decide_false Bool.false_eq_true Nat.zero_add Nat.add_zero List.contains_cons List.contains_nil Bool.or_false Bool.false_or beq_self_eq_true Nat.reduceBEq ne_eq not_true_eq_false not_false_eq_true Id.mk.injEq false_and and_false Nat.reduceLT Int.reduceLE Int.reduceLT Int.reduceToNat Int.reduceNeg Int.reduceAdd Nat.le_refl List.length_append beq_true beq_false Bool.not_eq_eq_eq_not or_false false_or dW ad ae aL aI bf bR az bc aA aJ cj bh
def dd (L:List af):Nat->List af
 |0=>[]
 |j+1=>if 0<j/\nQ L j=nQ L (j-1)then dd L j else dd L j++[nQ L j]
theorem zj:∀{ps qs:List aa},(ps.Pairwise fun a b=>kR a.cG b.cG=true)->(qs.Pairwise fun a b=>kR a.cG b.cG=true)->(∀x,x∈ps↔x∈qs)->ps=qs
 |[],[],_,_,_=>rfl
 |[],q::qs,_,_,h=>absurd ((h q).2 (by simp)) (by simp)
 |p::ps,[],_,_,h=>absurd ((h p).1 (by simp)) (by simp)
 |p::ps,q::qs,hp,hq,h=>by
  obtain⟨p1,p2⟩:=List.pairwise_cons.1 hp
  obtain⟨q1,q2⟩:=List.pairwise_cons.1 hq
  have e:p=q:=by
   rcases List.mem_cons.1 ((h p).1 (by simp))with e|e
   ·exact e
   ·rcases List.mem_cons.1 ((h q).2 (by simp))with e'|e'
    ·exact e'.symm
    ·have:=Ce (q1 p e)
     rw[p1 q e']at this;cases this
  subst e
  congr 1
  refine zj p2 q2 fun x=>⟨fun hx=>?_,fun hx=>?_⟩
  ·rcases List.mem_cons.1 ((h x).1 (List.mem_cons_of_mem _ hx))with e|e
   ·subst e;have:=p1 x hx;rw[gq]at this;cases this
   ·exact e
  ·rcases List.mem_cons.1 ((h x).2 (List.mem_cons_of_mem _ hx))with e|e
   ·subst e;have:=q1 x hx;rw[gq]at this;cases this
   ·exact e
theorem EH {L qs:List aa} (hR:nq L) (hp:qs.Perm L) (hs:∀i j:Nat,i<j->j<qs.length->kR (cP qs j).cG (cP qs i).cG=false):qs=L:=by
 rw[ma]at hR
 have hd:L.Pairwise fun a b=>a.cG≠b.cG:=hR.imp fun {a b} h e=>by rw[e,gq]at h;cases h
 have hdq:qs.Pairwise fun a b=>a.cG≠b.cG:=hp.symm.pairwise hd fun {a b} h e=>h e.symm
 refine zj ?_ hR fun x=>hp.mem_iff
 rw[List.pairwise_iff_getElem]at hdq ⊢
 intro i j hi hj Ab
 have h1:=hs i j Ab hj
 rw[fj hj,fj hi]at h1
 exact uu h1 fun e=>hdq i j hi hj Ab e.symm
theorem Dr (ps:List aa) (h0:ps≠[]) (hlen:ps.length<=1048576) (σ:aq) (id:Id) (hv:id.cW<σ.next) (hg:σ.get id=some ⟨true,3,ps.map ai⟩):
  Call Tryz.prog 135 [.own id 0 ps.length] σ fun a σ'=>∃o:Id,a=.own o 0 ps.length/\σ'.get o=some ⟨true,3,ps.map ai⟩/\σ.next<=o.cW/\o.cW<σ'.next/\∀x:Id,x.cW<σ.next->σ'.get x=σ.get x:=by
 refine eU fH rfl fun hl=>?_
 clear hl
 have h2:ps.length<=16777216:=ab
 have hm:(ps.map ai).length=ps.length:=by simp
 have v1:=dE hv
 have ht:(ps.map ai).take ps.length=ps.map ai:=by rw[<-hm,List.take_length]
 have ha:(ps.map ai).all (fun c=>c.length==3&&c.all AV.cell)=true:=all_map fun x=>by simp[ai,AV.cell]
 (try((repeat(revert hN;revert N;apply Pn.out));refine wk (tw @hg (tw @h2 (tw @hm (tw @v1 (tw @ht @ha))))) ?_;(repeat(refine Pn.mk ?_;intro N hN))))
 exact eK (vs:=[.own ⟨135003002,σ.next+2⟩ 0 ps.length]) (.inl rfl) (sd @Nat.zero_add) ⟨_,rfl,sd @Nat.zero_add,bL,bL,fun x hx=>by
  have:=dE hx
  simp only[go_sem, ↓reduceIte,Nat.reduceEqDiff,Nat.reduceAdd,Nat.reduceSub,Nat.reduceLeDiff,reduceCtorEq,this]⟩
theorem zB (ps L:List aa) (hlen:ps.length<=1000000) (h0:ps≠[]) (hR:nq L) (hp:ps.Perm L) (σ:aq) (id:Id) (hv:id.cW<σ.next) (hg:σ.get id=some ⟨true,3,ps.map ai⟩):
  Call Tryz.prog 101 [.own id 0 ps.length] σ fun a σ'=>∃o:Id,a=.agg [.own o 0 L.length]/\σ'.get o=some ⟨true,3,L.map ai⟩/\σ.next<=o.cW/\o.cW<σ'.next/\∀x:Id,x.cW<σ.next->σ'.get x=σ.get x:=by
 refine eU fH rfl fun hl=>?_
 clear hl
 have v1:=dE hv
 (try((repeat(revert hN;revert N;apply Pn.out));refine wk (tw @hg @v1) ?_;(repeat(refine Pn.mk ?_;intro N hN))))
 refine .inr (aS _ _ _ _ _ (fun r σ1 hq=>?_) (Dr ps h0 ab ⟨_,_⟩ id bL (sd (tw @v1 @hg))))
 obtain⟨g1,x1⟩:=σ1
 obtain⟨o,rfl,q1,q2,q3,q4⟩:=hq
 (try dsimp only at q1 q2 q3 q4)
 have k2:=q4 ⟨101000000,σ.next⟩ bL
 simp only[go_sem, ↓reduceIte,Nat.reduceEqDiff,Nat.reduceAdd,Nat.reduceSub,Nat.reduceLeDiff,reduceCtorEq]at k2
 refine hN _ _ ?_
 clear hN N
 (try((repeat(revert hN;revert N;apply Pn.out));refine wk @Nat.zero_add ?_;(repeat(refine Pn.mk ?_;intro N hN))))
 refine .inr (aS _ _ _ _ _ (fun r σ2 hq=>?_) (HN Q1 Q2 ps ab ⟨g1,_⟩ o q1))
 obtain⟨g2,x2⟩:=σ2
 obtain⟨u1,u2,ss,u3,u4,u5,u6⟩:=hq
 (try dsimp only at u1 u2 u3)
 have hss:ss=L:=EH hR (u5.trans hp) u6
 rw[hss]at u3 u4
 have o2:(⟨101000000,σ.next⟩:Id)≠o:=fun e=>by rw[<-e]at q2;(try dsimp only at q2);omega
 have k3:=(u2 _ o2).trans k2
 have of:=eq_false (fun e:o=(⟨101000000,σ.next⟩:Id)=>o2 e.symm)
 refine hN _ _ ?_
 clear hN N
 (try((repeat(revert hN;revert N;apply Pn.out));refine wk @k3 ?_;(repeat(refine Pn.mk ?_;intro N hN))))
 exact eK (.inl rfl) (vs:=[.agg [.own o 0 ps.length]]) (sd @Nat.zero_add) ⟨o,by rw[u4];rfl,sd (tw @of @u3),ab,bL,fun x hx=>by
  have h1:x≠o:=fun e=>by rw[e]at hx;omega
  have h2:=u2 x h1
  have h3:=q4 x bL
  have h4:=dE hx
  simp only[go_sem, ↓reduceIte,Nat.reduceEqDiff,Nat.reduceAdd,Nat.reduceSub,Nat.reduceLeDiff,reduceCtorEq,h4]at h3
  simp only[go_sem, ↓reduceIte,Nat.reduceEqDiff,Nat.reduceAdd,Nat.reduceSub,Nat.reduceLeDiff,reduceCtorEq,h4,h2,h3]⟩
def AsI (σ:aq) (T:Id) (ts:List aa) (pre:List (List AV)) (e0:Env) (s0:aq):Prop:=
 ∃l':List aa,pre=l'.map ai/\((l'=[]/\e0 3=.bB)∨∃o:Id,e0 3=.own o 0 l'.length/\s0.get o=some ⟨true,3,l'.map ai⟩/\σ.next<o.cW/\o.cW<s0.next)/\σ.next<s0.next/\(∀x:Id,x.cW<σ.next->x≠T->s0.get x=σ.get x)/\s0.get T=some ⟨false,mP.j5,ts.map ai⟩/\s0.get ⟨64000000,σ.next⟩=some ⟨true,1,[[.bB]]⟩/\e0 2=.ptr ⟨64000000,σ.next⟩ 0 0
theorem Hn (L:List aa) (x:aa):(L++[x]).length=L.length+1:=by rw[List.length_append];rfl
theorem Dd {σ:aq} {c T O:Id} {s:ax} {ts L:List aa} (h:lq σ.get σ.next c T O s ts) (hlen:ts.length<=100000) (h0:ts≠[]) (hR:nq L) (hp:ts.Perm L):
  Call Tryz.prog 64 [.ptr c 0 0] σ (fun r σ'=>∃o:Id,r=.agg [.own o 0 L.length]/\σ'.get o=some ⟨true,3,L.map ai⟩/\σ.next<=o.cW/\o.cW<σ'.next/\σ.next<=σ'.next/\∀x:Id,x.cW<σ.next->x≠T->σ'.get x=σ.get x):=by
 refine Uc rfl mP ?_
 have fS:=h.row
 have G6:=h.tl
 have v1:=dE h.cv
 have v2:=dE h.tv
 unfold QX
 rw[Lg]
 (try((repeat(revert hN;revert N;apply Pn.out));refine wk (tw @fS @v1) ?_;(repeat(refine Pn.mk ?_;intro N hN))))
 refine Ln (Uv (id:=T) (r:=⟨true,mP.j5,ts.map ai⟩) (AsI σ T ts) (sd @Ld.eq_1) (sd (tw @G6 @v2)) rfl (by decide) ?_ ?_ ?_)
 ·have vT:(T=(⟨64000000,σ.next⟩:Id))=False:=eq_false fun e=>by have:=h.tv;rw[e]at this;(try dsimp only at this);omega
  have vT2:((⟨64000000,σ.next⟩:Id)=T)=False:=eq_false fun e=>by have:=h.tv;rw[<-e]at this;(try dsimp only at this);omega
  exact⟨[],rfl,.inl ⟨rfl,sd @Nat.zero_add⟩,bL,fun x hx hT=>by
   have h1:=dE hx
   have h2:=eq_false hT
   simp only[go_sem, ↓reduceIte,Nat.reduceEqDiff,Nat.reduceAdd,Nat.reduceSub,Nat.reduceLeDiff,reduceCtorEq,h1,h2],sd @Nat.zero_add,sd @vT2,sd @Nat.zero_add⟩
 ·rintro pre cs rest e0 s0 kv vv hpp ⟨l',rfl,hout,Ij,jP,hT,h5,e2⟩ hK hpart hvv
  have vZ:cs∈ts.map ai:=hpp.subset (by simp)
  obtain⟨tl,hx,rfl⟩:=List.mem_map.1 vZ
  have Qi:=hpp.length_eq
  simp only[List.length_append,List.length_map,List.length_cons]at Qi
  simp[part,ai,MK.ks]at hpart hvv
  subst hpart hvv
  rw[F7,F8]
  have BN:=h.tv
  have vT:=dE (i:=T) (n:=s0.next) ab
  have v5:=dE (i:=⟨64000000,σ.next⟩) (n:=s0.next) bL
  clear hpp vZ hK
  have G0:l'.map ai++[ai tl]=(l'++[tl]).map ai:=by simp
  have G2:=Hn l' tl
  have qt:(l'++[tl]).map ai=l'.map ai++[[.int .i64 tl.cG.fu,.int .i64 tl.cG.eZ,.int .i64 tl.cL]]:=by rw[List.map_append];rfl
  rcases hout with⟨LH,e3⟩|⟨o,e3,og,on,ov⟩
  ·subst LH
   (try((repeat(revert hN;revert N;apply Pn.out));refine wk (tw @e3 @e2) ?_;(repeat(refine Pn.mk ?_;intro N hN))))
   exact⟨[]++[tl],G0,.inr ⟨⟨64005005,s0.next+1+1⟩,sl @Nat.zero_add,sl @Nat.zero_add,bL,bL⟩,bL,fun y hy QE=>by
    have h1:=dE (i:=y) (n:=s0.next) ab
    have h2:=jP y hy QE
    simp only[go_sem, ↓reduceIte,Nat.reduceEqDiff,Nat.reduceAdd,Nat.reduceSub,Nat.reduceLeDiff,reduceCtorEq,h1,h2],sd (tw @vT @hT),sd (tw @v5 @h5),sd @e2⟩
  ·have vo:=dE ov
   have oT:=dD (a:=T) (b:=o) ab
   have o5:=dD (a:=⟨64000000,σ.next⟩) (b:=o) bL
   have fw:(l'.map ai).length=l'.length:=by simp
   have e1:l'.length<=16777215:=ab
   (try((repeat(revert hN;revert N;apply Pn.out));refine wk (tw @e3 (tw @e2 (tw @og (tw @vo (tw @fw @e1))))) ?_;(repeat(refine Pn.mk ?_;intro N hN))))
   exact⟨l'++[tl],G0,.inr ⟨⟨64005005,s0.next+1+1⟩,by rw[G2];simp only[go_sem, ↓reduceIte,Nat.reduceEqDiff,Nat.reduceAdd,Nat.reduceSub,Nat.reduceLeDiff,reduceCtorEq]<;>rfl,by rw[qt];simp only[go_sem, ↓reduceIte,Nat.reduceEqDiff,Nat.reduceAdd,Nat.reduceSub,Nat.reduceLeDiff,reduceCtorEq]<;>rfl,bL,bL⟩,bL,fun y hy QE=>by
    have h1:=dE (i:=y) (n:=s0.next) ab
    have h2:=jP y hy QE
    have h3:=dD (a:=y) (b:=o) ab
    simp only[go_sem, ↓reduceIte,Nat.reduceEqDiff,Nat.reduceAdd,Nat.reduceSub,Nat.reduceLeDiff,reduceCtorEq,h1,h2,h3],sd (tw @vT (tw @oT @hT)),sd (tw @v5 (tw @o5 @h5)),sd @e2⟩
 ·rintro pre e0 s0 hpp ⟨l',rfl,hout,Ij,jP,hT,h5,e2⟩ hK
  clear hK
  have la:l'.Perm ts:=by
   have:∀{a b:List aa},(a.map ai).Perm (b.map ai)->a.Perm b:=fun {a b} qQ=>by
    have h2:=qQ.map (fun cs:List AV=>match cs with|[.int _ x,.int _ y,.int _ t]=>(⟨⟨x,y⟩,t⟩:aa)|_=>default)
    simpa[List.map_map,Function.comp_def,ai]using h2
   exact this hpp
  have qS:=la.length_eq
  rcases hout with⟨LH,e3⟩|⟨o,e3,og,on,ov⟩
  ·exfalso
   subst LH
   exact h0 (List.eq_nil_of_length_eq_zero qS.symm)
  have ig:l'≠[]:=fun e=>h0 (List.eq_nil_of_length_eq_zero (by rw[<-qS,e];rfl))
  (try((repeat(revert hN;revert N;apply Pn.out));refine wk (tw @F9.eq_1 (tw @Gb.eq_1 (tw @e3 @e2))) ?_;(repeat(refine Pn.mk ?_;intro N hN))))
  refine .inr (aS _ _ _ _ _ (fun r σ1 hq=>?_) (zB l' L ab ig hR (la.trans hp) ⟨s0.get,_⟩ o bL og))
  obtain⟨g1,x1⟩:=σ1
  obtain⟨o2,rfl,q1,q2,q3,q4⟩:=hq
  (try dsimp only at q1 q2 q3 q4)
  have k5:=(q4 ⟨64000000,σ.next⟩ bL).trans h5
  have o25:=dD (a:=⟨64000000,σ.next⟩) (b:=o2) bL
  refine hN _ _ ?_
  clear hN N
  (try((repeat(revert hN;revert N;apply Pn.out));refine wk (tw @F9.eq_1 (tw @Gb.eq_1 (tw @e2 @k5))) ?_;(repeat(refine Pn.mk ?_;intro N hN))))
  exact eK (.inl rfl) (vs:=[.agg [.own o2 0 L.length]]) (by rw[Gb];simp only[gR,jV,go_sem, ↓reduceIte,Nat.reduceEqDiff,Nat.reduceAdd,Nat.reduceSub,Nat.reduceLeDiff,reduceCtorEq,e2]) ⟨o2,rfl,sd (tw @o25 @q1),ab,bL,bL,fun y hy QE=>by
   have h1:=dE (i:=y) (n:=σ.next) hy
   simp only[go_sem, ↓reduceIte,Nat.reduceEqDiff,Nat.reduceAdd,Nat.reduceSub,Nat.reduceLeDiff,reduceCtorEq,h1]
   exact(q4 y ab).trans (jP y hy QE)⟩
theorem lq.three {g g':Rows} {n n':Nat} {c T O:Id} {s:ax} {ts:List aa} (h:lq g n c T O s ts) (hn:n<=n') (hc:g' c=g c) (hT:g' T=g T) (hO:g' O=g O):lq g' n' c T O s ts:=
 ⟨hc.trans h.row,hT.trans h.tl,by rw[hO];exact h.op,Nat.lt_of_lt_of_le h.cv hn,Nat.lt_of_lt_of_le h.tv hn,Nat.lt_of_lt_of_le h.ov hn,h.cT,h.cO,h.TO⟩
theorem zb (q:aa):∀l:List aa,(l++[q]).Perm (l6 l q)
 |[]=>List.Perm.refl _
 |x::l=>by
  have ih:=zb q l
  rw[l6]
  split
  ·exact List.perm_append_comm (l₁:=x::l) (l₂:=[q])
  ·exact ih.cons x
structure qw (s:ax) (S:LQ):Prop where
 at_:∀q,gJ (s.dI.ah++S.1) q=gJ S.2 q
 perm:(s.dI.ah++S.1).Perm S.2
theorem qw.fit {s:ax} {S:LQ} (h:qw s S) (p:af) (t:Int):eI s (s.dI.ah++S.1) p t=eI s S.2 p t:=by
 have e:gJ (s.dI.ah++S.1)=gJ S.2:=funext h.at_
 unfold eI
 rw[e]
theorem qw.no {s:ax} {S:LQ} (h:qw s S) {p:af} (h0:eF S.2 p<0):eF (s.dI.ah++S.1) p<0:=lg.2 fun t ht=>lg.1 h0 t (h.perm.subset ht)
theorem qw.put {s:ax} {S:LQ} (h:qw s S) {x:aa} (h0:eF S.2 x.cG<0):qw s (S.1++[x],l6 S.2 x) where
 at_ q:=by
  show gJ (s.dI.ah++(S.1++[x])) q=gJ (l6 S.2 x) q
  rw[<-List.append_assoc,qz q (lg.1 (h.no h0)),A7 q (lg.1 h0),h.at_]
 perm:=by
  show(s.dI.ah++(S.1++[x])).Perm (l6 S.2 x)
  rw[<-List.append_assoc]
  exact(h.perm.append_right [x]).trans (zb x S.2)
def lZ (l:List aa) (ps:List af) (q:af):List af:=if za q=true/\eF l q<0 then Et ps q else ps
def oA (l:List aa) (ps:List af) (p:af):Nat->List af
 |0=>ps
 |d+1=>lZ l (oA l ps p d) (cN p d)
def oC (l:List aa):Nat->List af
 |0=>[]
 |i+1=>oA l (oC l i) (cP l i).cG 4
def lY (l:List aa):List af:=oC l l.length
theorem Ar {l:List aa} {ps:List af} (h:nr ps) (q:af):nr (lZ l ps q):=by
 unfold lZ;split
 ·exact KH h q
 ·exact h
theorem wH {l:List aa} {ps:List af} (h:nr ps) (p:af):∀d,nr (oA l ps p d)
 |0=>h
 |d+1=>Ar (wH h p d) _
theorem wI (l:List aa):∀i,nr (oC l i)
 |0=>List.Pairwise.nil
 |i+1=>wH (wI l i) _ 4
theorem Aq (l:List aa) (ps:List af) (q:af):(lZ l ps q).length<=ps.length+1:=by
 unfold lZ;split
 ·exact KG ps q
 ·omega
theorem wG (l:List aa) (ps:List af) (p:af):∀d,(oA l ps p d).length<=ps.length+d
 |0=>Nat.le_refl _
 |d+1=>by
  have:=wG l ps p d
  have:=Aq l (oA l ps p d) (cN p d)
  simp only[oA];omega
theorem qf (l:List aa):∀i,(oC l i).length<=i*4
 |0=>Nat.le_refl _
 |i+1=>by
  have:=qf l i
  have:=wG l (oC l i) (cP l i).cG 4
  simp only[oC];omega
theorem wv (l:List aa) (ps:List af) (p:af) (x:af):∀d,x∈oA l ps p d↔x∈ps∨∃k,k<d/\x=cN p (k:Nat)/\za x=true/\eF l x<0
 |0=>⟨.inl,fun h=>h.elim id fun⟨_,h,_⟩=>absurd h (Nat.not_lt_zero _)⟩
 |d+1=>by
  simp only[oA,lZ]
  have ih:=wv l ps p x d
  split
  ·rename_i h
   rw[Ki,ih]
   constructor
   ·rintro(rfl|h1|⟨k,h1,h2⟩)
    ·exact .inr ⟨d,Nat.lt_succ_self _,rfl,h⟩
    ·exact .inl h1
    ·exact .inr ⟨k,ab,h2⟩
   ·rintro(h1|⟨k,h1,h2⟩)
    ·exact .inr (.inl h1)
    ·by_cases hk:k=d
     ·subst hk;exact .inl h2.1
     ·exact .inr (.inr ⟨k,ab,h2⟩)
  ·rename_i h
   rw[ih]
   constructor
   ·rintro(h1|⟨k,h1,h2⟩)
    ·exact .inl h1
    ·exact .inr ⟨k,ab,h2⟩
   ·rintro(h1|⟨k,h1,h2⟩)
    ·exact .inl h1
    ·by_cases hk:k=d
     ·subst hk;rw[h2.1]at h2;exact absurd h2.2 h
     ·exact .inr ⟨k,ab,h2⟩
def Iy (l:List aa) (x:af):Prop:=za x=true/\eF l x<0/\∃i d:Nat,i<l.length/\d<4/\x=cN (cP l i).cG d
theorem wz (l:List aa) (x:af):∀i,x∈oC l i↔∃j d:Nat,j<i/\d<4/\x=cN (cP l j).cG d/\za x=true/\eF l x<0
 |0=>⟨fun h=>(by cases h),fun⟨_,_,h,_⟩=>absurd h (Nat.not_lt_zero _)⟩
 |i+1=>by
  simp only[oC]
  rw[wv,wz l x i]
  constructor
  ·rintro(⟨j,d,h1,h2⟩|⟨d,h1,h2⟩)
   ·exact⟨j,d,ab,h2⟩
   ·exact⟨i,d,Nat.lt_succ_self _,h1,h2⟩
  ·rintro⟨j,d,h1,h2,h3⟩
   by_cases hj:j=i
   ·subst hj;exact .inr ⟨d,h2,h3⟩
   ·exact .inl ⟨j,d,ab,h2,h3⟩
theorem yX (l:List aa) (x:af):x∈lY l↔Iy l x:=by
 unfold lY Iy
 rw[wz]
 exact⟨fun⟨j,d,h1,h2,h3,h4,h5⟩=>⟨h4,h5,j,d,h1,h2,h3⟩,fun⟨h4,h5,j,d,h1,h2,h3⟩=>⟨j,d,h1,h2,h3,h4,h5⟩⟩
structure mV (n:Nat) (px:Nat->Option Nat) (L:Nat->Nat):Prop where
 top:∀k,k<n->px k=none->L k=k
 up:∀k j,k<n->px k=some j->j<k/\L j=L k
theorem mV.root {n:Nat} {px:Nat->Option Nat} {L:Nat->Nat} (h:mV n px L) (hL:jM L) {k:Nat} (hk:k<n) (hr:L k=k):px k=none:=by
 rcases hp:px k with _|j
 ·rfl
 ·obtain⟨h1,h2⟩:=h.up k j hk hp
  have:=hL.le j
  omega
theorem mV.start (n:Nat):mV n (fun _=>none) id:=⟨fun _ _ _=>rfl,fun _ _ _ h=>by cases h⟩
theorem mV.join {n:Nat} {px:Nat->Option Nat} {L:Nat->Nat} (h:mV n px L) (hL:jM L) (b:PB) (eR:min (L b.a) (L b.b)<max (L b.a) (L b.b)):mV n (fun k=>if k=max (L b.a) (L b.b)then some (min (L b.a) (L b.b))else px k) (jm L b):=by
 have ha:=hL.idem b.a
 have hb:=hL.idem b.b
 have G1:L (min (L b.a) (L b.b))=min (L b.a) (L b.b):=by
  rcases Nat.le_total (L b.a) (L b.b)with h|h
  ·rw[Nat.min_eq_left h,ha]
  ·rw[Nat.min_eq_right h,hb]
 have RE:L (max (L b.a) (L b.b))=max (L b.a) (L b.b):=by
  rcases Nat.le_total (L b.a) (L b.b)with h|h
  ·rw[Nat.max_eq_right h,hb]
  ·rw[Nat.max_eq_left h,ha]
 unfold jm
 generalize min (L b.a) (L b.b)=lo at *
 generalize max (L b.a) (L b.b)=hi at *
 refine⟨fun k hk hp=>?_,fun k j hk hp=>?_⟩
 ·by_cases LF:k=hi
  ·rw[if_pos LF]at hp;cases hp
  ·rw[if_neg LF]at hp
   have:=h.top k hk hp
   rw[if_neg ab];exact this
 ·by_cases LF:k=hi
  ·rw[if_pos LF]at hp
   cases hp
   subst LF
   exact⟨eR,by rw[if_neg ab,if_pos RE,G1]⟩
  ·rw[if_neg LF]at hp
   obtain⟨h1,h2⟩:=h.up k j hk hp
   exact⟨h1,by rw[h2]⟩
theorem Ak {L:Nat->Nat} {b:PB} (h:L b.a=L b.b):jm L b=L:=by
 funext k
 unfold jm
 rw[h,Nat.max_self,Nat.min_self]
 split
 ·rename_i h;exact h.symm
 ·rfl
def sn (G:Nat->Id) (px:Nat->Option Nat) (k:Nat):List AV:=[match px k with|none=>.gO|some j=>.ptr (G j) 0 0,.int .i64 (k:Int)]
def tN (g:Rows) (G:Nat->Id) (n:Nat) (px:Nat->Option Nat):Prop:=∀k,k<n->g (G k)=some ⟨true,2,[sn G px k]⟩
theorem tN.frame {g g':Rows} {G:Nat->Id} {n:Nat} {px:Nat->Option Nat} (h:tN g G n px) (hf:∀k,k<n->g' (G k)=g (G k)):tN g' G n px:=fun k hk=>(hf k hk).trans (h k hk)
theorem k9 {G:Nat->Id} {px:Nat->Option Nat} {k:Nat} (h:px k=none):sn G px k=[.gO,.int .i64 (k:Int)]:=by rw[sn,h]
theorem tk {G:Nat->Id} {px:Nat->Option Nat} {k j:Nat} (h:px k=some j):sn G px k=[.ptr (G j) 0 0,.int .i64 (k:Int)]:=by rw[sn,h]
theorem zS (G:Nat->Id) (n:Nat) (px:Nat->Option Nat) (L:Nat->Nat) (h:mV n px L) (k:Nat) (hk:k<n) (σ:aq) (hG:tN σ.get G n px):
  Call Tryz.prog 192 [.ptr (G k) 0 0] σ fun r σ'=>r=.ptr (G (L k)) 0 0/\σ'.get=σ.get/\σ.next<=σ'.next:=by
 refine eU fH rfl fun hl=>?_
 clear hl
 (try((repeat(revert hN;revert N;apply Pn.out));refine wk @Nat.zero_add ?_;(repeat(refine Pn.mk ?_;intro N hN))))
 refine cU (fun m env st=>∃j:Nat,m=j/\j<n/\env 0=.ptr (G j) 0 0/\L j=L k/\st.get=σ.get/\σ.next<=st.next) k ⟨k,rfl,hk,sd @Nat.zero_add,rfl,by(try dsimp only),bL⟩ ?_
 rintro m env_b st_b ⟨j,rfl,hj,b0,hLj,hg,hle⟩ fA
 clear fA
 have fS:=hG m hj
 rcases hp:px m with _|j
 ·rw[k9 hp]at fS
  (try((repeat(revert hN;revert N;apply Pn.out));refine wk (tw @b0 (tw @hg @fS)) ?_;(repeat(refine Pn.mk ?_;intro N hN))))
  exact eK (.inl rfl) (vs:=[.ptr (G m) 0 0]) (sd @Nat.zero_add) ⟨by rw[<-hLj,h.top m hj hp];rfl,by first|trivial|rfl|exact hg,bL⟩
 ·rw[tk hp]at fS
  obtain⟨h1,h2⟩:=h.up m j hj hp
  (try((repeat(revert hN;revert N;apply Pn.out));refine wk (tw @b0 (tw @hg @fS)) ?_;(repeat(refine Pn.mk ?_;intro N hN))))
  exact⟨j,h1,j,rfl,ab,sd @Nat.zero_add,ab,by first|trivial|rfl|exact hg,bL⟩
end Go.Proofs.YtakkdjfmiffbfaaGreatDoor.V

namespace Go.Proofs.YtakkdjfmiffbfaaGreatDoor.V
open Go.RowKit
attribute [local irreducible] dL wpOps ez Call
attribute [local go_sem] ay ew dZ eE eC cY upd bJ K.av bZ AV.cells AV.cell rowOf rowsOf part ld rowAt eO bH bI cX dj eQ bq cF dx eA ed cQ dq cD cC dc de bu aE cm bt cr cq dn dr dp ck bz cE dm br aw cw bQ eP aZ bW bx aD cR aQ cZ AV.undef bd bj dh di c6 da bV dw dz bP du dt cu cz List.getD_cons_zero List.getD_cons_succ List.getD_nil List.all_cons List.all_nil Bool.and_true Bool.true_and Bool.and_self Bool.not_true Bool.not_false Option.map_some Option.map_none Option.bind_some Option.bind_none List.length_cons List.length_nil List.take_succ_cons List.take_zero List.take_nil List.drop_succ_cons List.drop_zero List.drop_nil List.head?_cons List.map_cons List.map_nil List.getElem?_cons_zero List.getElem?_cons_succ List.cons_append List.nil_append List.append_nil List.length_map List.set_cons_zero List.set_cons_succ eq_self Int.toNat_natCast Int.natCast_nonneg and_self true_and and_true decide_true decide_false Bool.false_eq_true Nat.zero_add Nat.add_zero List.contains_cons List.contains_nil Bool.or_false Bool.false_or beq_self_eq_true ne_eq not_true_eq_false not_false_eq_true Id.mk.injEq false_and and_false Nat.le_refl List.length_append beq_true beq_false Bool.not_eq_eq_eq_not or_false false_or dW ad ae aL aI bf bR az bc aA aJ cj bh
abbrev mI:MK:=⟨false,[.tI]⟩
def sy (l:List (Nat×Nat)):List (List AV):=l.map fun p=>[.int .i64 (p.1:Int),.int .i64 (p.2:Int)]
theorem B8 (r:Nat):∀(l:List (Nat×Nat)) (i:Nat),((∀p∈l,p.1≠r)->fB mI [.int .i64 (r:Int)] (sy l) i=some none)/\(∀j v,l[j]? =some (r,v)->(∀x y,x<j->l[x]? =some y->y.1≠r)->fB mI [.int .i64 (r:Int)] (sy l) i=some (some (i+j)))
 |[],i=>⟨fun _=>rfl,fun j v h=>by simp at h⟩
 |p::l,i=>by
  obtain⟨h1,h2⟩:=B8 r l (i+1)
  by_cases h:p.1=r
  ·refine⟨fun hp=>absurd h (hp p (by simp)),fun j v hj hf=>?_⟩
   have RB:j=0:=by
    rcases Nat.eq_zero_or_pos j with h0|h0
    ·exact h0
    ·exact absurd h (hf 0 p h0 (by simp))
   subst RB
   simp[sy,fB,ed,eA,MK.ks,h]
  ·have hd:¬((r:Int)=(p.1:Int)):=ab
   have hd2:¬r=p.1:=fun he=>h he.symm
   have step:fB mI [.int .i64 (r:Int)] (sy (p::l)) i=fB mI [.int .i64 (r:Int)] (sy l) (i+1):=by
    unfold sy
    simp[fB,MK.ks,ed,eA,hd,hd2,h]
   rw[step]
   refine⟨fun hp=>h1 fun q hq=>hp q (by simp[hq]),fun j v hj hf=>?_⟩
   cases j with
   |zero=>simp at hj;rw[hj]at h;exact absurd rfl h
   |succ j=>
    rw[h2 j v (by simpa using hj) fun x y hx hy=>hf (x+1) y ab (by simpa using hy)]
    congr 2;omega
theorem yN {r:Nat} {l:List (Nat×Nat)}:((∀p∈l,p.1≠r)->fb mI (.int .i64 (r:Int)) (sy l)=some none)/\(∀j v,l[j]? =some (r,v)->(∀x y,x<j->l[x]? =some y->y.1≠r)->fb mI (.int .i64 (r:Int)) (sy l)=some (some j)):=by
 have e:fb mI (.int .i64 (r:Int)) (sy l)=fB mI [.int .i64 (r:Int)] (sy l) 0:=by
  unfold fb
  rw[if_pos ⟨rfl,rfl,rfl⟩];rfl
 obtain⟨h1,h2⟩:=B8 r l 0
 rw[e]
 exact⟨h1,fun j v hj hf=>by rw[h2 j v hj hf,Nat.zero_add]⟩
def kA (k:Nat) (L:Nat->Nat):List (List AV):=sy (leads k L).zipIdx
theorem Eb {k:Nat} {L:Nat->Nat} (h:L k=k):kA (k+1) L=kA k L++[[.int .i64 (k:Int),.int .i64 ((leads k L).length:Int)]]:=by
 unfold kA
 rw[im,if_pos h,List.zipIdx_append]
 simp[sy]
theorem Ea {k:Nat} {L:Nat->Nat} (h:L k≠k):kA (k+1) L=kA k L:=by
 unfold kA
 rw[im,if_neg h,List.append_nil]
theorem Hk {k:Nat} {L:Nat->Nat} (h:L k=k):fb mI (.int .i64 (k:Int)) (kA k L)=some none:=by
 refine yN.1 fun p hp=>?_
 have:=List.fst_mem_of_mem_zipIdx hp
 have:=(yU.1 this).1
 omega
theorem yT {n:Nat} {L:Nat->Nat} {x y:Nat} (hx:x<(leads n L).length) (hy:y<(leads n L).length) (h:(leads n L)[x]=(leads n L)[y]):x=y:=by
 have hp:=List.pairwise_iff_getElem.1 (tC n L)
 rcases Nat.lt_trichotomy x y with eR|he|eR
 ·exact absurd h (hp x y hx hy eR)
 ·exact he
 ·exact absurd h.symm (hp y x hy hx eR)
theorem yR {k:Nat} {L:Nat->Nat} (hL:jM L) (h:L k≠k):fb mI (.int .i64 (L k:Int)) (kA k L)=some (some (dV L k))/\(kA k L)[dV L k]? =some [.int .i64 (L k:Int),.int .i64 (dV L k:Int)]/\dV L k<(leads k L).length:=by
 have eR:L k<k:=Nat.lt_of_le_of_ne (hL.le k) h
 have hn:dV L (L k)=dV L k:=by rw[dV,hL.idem,dV]
 have hg:=o8 hL eR
 rw[hn,hL.idem]at hg
 have hl:dV L k<(leads k L).length:=(List.getElem?_eq_some_iff.1 hg).1
 have hz:(leads k L).zipIdx[dV L k]? =some (L k,dV L k):=by simp[List.getElem?_zipIdx,hg]
 refine⟨yN.2 _ _ hz fun x y hx hy=>?_,by unfold kA sy;rw[List.getElem?_map,hz];rfl,hl⟩
 intro he
 rw[List.getElem?_zipIdx]at hy
 have Vx:x<(leads k L).length:=ab
 rw[List.getElem?_eq_getElem Vx]at hy
 simp at hy
 rw[<-hy]at he
 simp at he
 have e2:(leads k L)[dV L k]=L k:=(List.getElem?_eq_some_iff.1 hg).2
 have:=yT Vx hl (he.trans e2.symm)
 omega
def jz (k:Nat) (L:Nat->Nat):List (List Nat):=(leads k L).map (members k L)
theorem pZ (k:Nat) (L:Nat->Nat):(jz k L).length=(leads k L).length:=by simp[jz]
theorem DJ {k:Nat} {L:Nat->Nat} (hL:jM L) (h:L k=k):jz (k+1) L=jz k L++[[k]]:=by
 unfold jz
 rw[im,if_pos h,List.map_append,List.map_cons,List.map_nil,kc,if_pos h,Ao hL (Nat.le_refl k),List.nil_append]
 congr 1
 refine List.map_congr_left fun r hr=>?_
 have:=(yU.1 hr).1
 rw[kc,if_neg ab,List.append_nil]
theorem DK {k:Nat} {L:Nat->Nat} (hL:jM L) (h:L k≠k):(jz k L)[dV L k]? =some (members k L (L k))/\jz (k+1) L=(jz k L).set (dV L k) (members k L (L k)++[k]):=by
 obtain⟨_,_,hl⟩:=yR hL h
 have eR:L k<k:=Nat.lt_of_le_of_ne (hL.le k) h
 have hg:=o8 hL eR
 have hn:dV L (L k)=dV L k:=by rw[dV,hL.idem,dV]
 rw[hn,hL.idem]at hg
 refine⟨by unfold jz;rw[List.getElem?_map,hg];rfl,?_⟩
 unfold jz
 rw[im,if_neg h,List.append_nil]
 refine List.ext_getElem? fun i=>?_
 rw[List.getElem?_set,List.getElem?_map,List.length_map]
 by_cases hi:dV L k=i
 ·subst hi
  rw[if_pos rfl,if_pos hl,hg,Option.map_some,kc,if_pos rfl]
 ·rw[if_neg hi,List.getElem?_map]
  rcases hr:(leads k L)[i]? with _|r
  ·rfl
  ·rw[Option.map_some,Option.map_some,kc,if_neg,List.append_nil]
   rintro rfl
   obtain⟨qp,he⟩:=List.getElem?_eq_some_iff.1 hr
   have e2:(leads k L)[dV L k]=L k:=(List.getElem?_eq_some_iff.1 hg).2
   exact hi (yT hl qp (e2.trans he.symm))
theorem Cg (k:Nat) (L:Nat->Nat) (r:Nat):(members k L r).length<=k:=by
 have:=List.length_filter_le (fun x=>L x==r) (List.range k)
 simpa[members]using this
def Lu (g:Rows) (o:Id) (L:List (List Nat)) (nx:Nat):Prop:=∃rows ids,g o=some ⟨true,1,rows⟩/\gK VP g rows L ids/\ids.Nodup/\(∀i∈ids,i.site=163026008/\i.cW<nx)/\o.site=163025002/\o.cW<nx
theorem Mr {g':Rows} {v v' Im j:Nat} (h1:g' ⟨163025002,v⟩=some ⟨true,1,[[.own ⟨163026008,v'⟩ 0 1]]⟩) (h2:g' ⟨163026008,v'⟩=some ⟨true,1,[eN j]⟩) (hv:v<Im) (nF:v'<Im):Lu g' ⟨163025002,v⟩ [[j]] Im:=
 ⟨_,[⟨163026008,v'⟩],h1,.one ⟨_,rfl,h2,rfl⟩,by simp,fun i hi=>by rw[List.mem_singleton.1 hi];exact⟨rfl,nF⟩,rfl,hv⟩
theorem Lu.new {g:Rows} {o:Id} {L:List (List Nat)} {nx:Nat} (h:Lu g o L nx) (j:Nat):∃rows,g o=some ⟨true,1,rows⟩/\rows.length=L.length/\∀(g':Rows) (v v' Im:Nat),nx<=v'->v<Im->v'<Im->g' ⟨163025002,v⟩=some ⟨true,1,rows++[[.own ⟨163026008,v'⟩ 0 1]]⟩->g' ⟨163026008,v'⟩=some ⟨true,1,[eN j]⟩->(∀i:Id,i.site=163026008->i.cW<nx->g' i=g i)->Lu g' ⟨163025002,v⟩ (L++[[j]]) Im:=by
 obtain⟨rows,ids,h1,h2,h3,h4,h5,h6⟩:=h
 refine⟨rows,h1,h2.len,fun g' v v' Im hv qb MM q1 q2 q3=>⟨_,ids++[⟨163026008,v'⟩],q1,(h2.frame TI fun i hi=>q3 i (h4 i hi).1 (h4 i hi).2).app (.one ⟨_,rfl,q2,rfl⟩),?_,fun i hi=>?_,rfl,qb⟩⟩
 ·refine List.nodup_append.2 ⟨h3,by simp,fun a ha b hb qQ=>?_⟩
  rw[List.mem_singleton.1 hb]at qQ
  have:=(h4 a ha).2
  rw[qQ]at this
  simp only at this
  omega
 ·rcases List.mem_append.1 hi with hi|hi
  ·have:=h4 i hi;exact⟨this.1,ab⟩
  ·rw[List.mem_singleton.1 hi];exact⟨rfl,MM⟩
theorem Lu.add {g:Rows} {o:Id} {L:List (List Nat)} {nx k:Nat} {La:List Nat} (h:Lu g o L nx) (hk:L[k]? =some La) (j:Nat):∃rows id,g o=some ⟨true,1,rows⟩/\rows.length=L.length/\rows[k]? =some [.own id 0 La.length]/\g id=some ⟨true,1,La.map eN⟩/\id.site=163026008/\id.cW<nx/\∀(g':Rows) (v' Im:Nat),nx<=v'->v'<Im->g' o=some ⟨true,1,rows.set k [.own ⟨163026008,v'⟩ 0 (La.length+1)]⟩->g' ⟨163026008,v'⟩=some ⟨true,1,La.map eN++[[.int .i64 (j:Int)]]⟩->(∀i:Id,i.site=163026008->i.cW<nx->(i=id)=False->g' i=g i)->Lu g' o (L.set k (La++[j])) Im:=by
 obtain⟨rows,ids,h1,h2,h3,h4,h5,h6⟩:=h
 have ko:k<L.length:=(List.getElem?_eq_some_iff.1 hk).1
 have hLk:=vK hk ko
 obtain⟨cs,ic,eb,hRv,hic,qU⟩:=h2.XC TI h3 k ko
 rw[hLk]at hRv
 obtain⟨id,rfl,q1,rfl⟩:=hRv
 have hid:=h4 id (hic id (by simp))
 refine⟨rows,id,h1,h2.len,eb,q1,hid.1,hid.2,fun g' v' Im hv qb r1 r2 r3=>?_⟩
 obtain⟨J0,s1,s2,s3⟩:=qU g' [.own ⟨163026008,v'⟩ 0 (La.length+1)] (La++[j]) [⟨163026008,v'⟩] ⟨_,by simp,by rw[r2];simp[eN],rfl⟩ (fun i hi hni=>r3 i (h4 i hi).1 (h4 i hi).2 (by
  simp only[eq_iff_iff,iff_false];rintro rfl;exact hni (by simp))) (by simp) fun i hi hc=>by
   rw[List.mem_singleton.1 hi]at hc
   have:=(h4 _ hc).2
   simp only at this
   omega
 refine⟨_,J0,r1,s1,s2,fun i hi=>?_,h5,ab⟩
 rcases s3 i hi with h|h
 ·rw[List.mem_singleton.1 h];exact⟨rfl,qb⟩
 ·have:=h4 i h;exact⟨this.1,ab⟩
def lI (G:Nat->Id) (n k:Nat):List (List AV):=(List.range n).map fun i=>[if i<k then .ptr (G i) 0 0 else .gO]
theorem mg (G:Nat->Id) (n k:Nat):(lI G n k).length=n:=by simp[lI]
theorem HT (G:Nat->Id) (n:Nat):List.replicate n [AV.gO]=lI G n 0:=by
 refine List.ext_getElem? fun i=>?_
 by_cases h:i<n
 ·rw[List.getElem?_replicate,if_pos h];simp[lI,h]
 ·rw[List.getElem?_eq_none (by simp;omega),List.getElem?_eq_none (by rw[mg];omega)]
theorem xf {G:Nat->Id} {n i:Nat} (h:i<n):(lI G n n)[i]? =some [.ptr (G i) 0 0]:=by simp[lI,h]
theorem K9 {G:Nat->Id} {n k:Nat} (h:k<n):(lI G n k).set k [.ptr (G k) 0 0]=lI G n (k+1):=by
 refine List.ext_getElem? fun i=>?_
 rw[List.getElem?_set,mg]
 by_cases hi:k=i
 ·subst hi;rw[if_pos rfl,if_pos h];simp[lI,h]
 ·rw[if_neg hi]
  by_cases iO:i<n
  ·simp only[lI,List.getElem?_map,List.getElem?_range iO,Option.map_some]
   by_cases C0:i<k
   ·rw[if_pos C0,if_pos ab]
   ·rw[if_neg C0,if_neg ab]
  ·rw[List.getElem?_eq_none (by rw[mg];omega),List.getElem?_eq_none (by rw[mg];omega)]
end Go.Proofs.YtakkdjfmiffbfaaGreatDoor.V

namespace Go.Proofs.YtakkdjfmiffbfaaGreatDoor.V
open Go.RowKit
attribute [local irreducible] dL wpOps ez Call
attribute [local go_sem] ay ew dZ eE eC cY upd bJ K.av bZ AV.cells AV.cell rowOf rowsOf part ld rowAt eO bH bI cX dj eQ bq cF dx eA ed cQ dq cD cC dc de bu aE cm bt cr cq dn dr dp ck bz cE dm br aw cw bQ eP aZ bW bx aD cR aQ cZ AV.undef bd bj dh di c6 da bV dw dz bP du dt cu cz List.getD_cons_zero List.getD_cons_succ List.getD_nil List.all_cons List.all_nil Bool.and_true Bool.true_and Bool.and_self Bool.not_true Bool.not_false Option.map_some Option.map_none Option.bind_some Option.bind_none List.length_cons List.length_nil List.take_succ_cons List.take_zero List.take_nil List.drop_succ_cons List.drop_zero List.drop_nil List.head?_cons List.map_cons List.map_nil List.getElem?_cons_zero List.getElem?_cons_succ List.cons_append List.nil_append List.append_nil List.length_map List.set_cons_zero List.set_cons_succ Nat.reduceMul eq_self Int.toNat_natCast Int.natCast_nonneg and_self true_and and_true decide_true decide_false Bool.false_eq_true Nat.zero_add Nat.add_zero List.contains_cons List.contains_nil Bool.or_false Bool.false_or beq_self_eq_true Nat.reduceBEq ne_eq not_true_eq_false not_false_eq_true Id.mk.injEq false_and and_false Nat.reduceLT Int.reduceLE Int.reduceLT Int.reduceToNat Int.reduceNeg Int.reduceAdd Nat.le_refl List.length_append beq_true beq_false Bool.not_eq_eq_eq_not or_false false_or dW ad ae aL aI bf bR az bc aA aJ cj bh
theorem ga {o:Id} {a:Nat} (h:o.site=a) {b v:Nat} (qQ:(a==b)=false):(o=⟨b,v⟩)=False/\((⟨b,v⟩:Id)=o)=False:=by
 have h1:=F2 h (v:=v) qQ
 refine⟨h1,?_⟩
 simp only[eq_iff_iff,iff_false]at h1 ⊢
 exact fun h=>h1 h.symm
theorem vL (cnt:Nat) (qq:1<=cnt) (hn:cnt<=1048576) (bs:List PB) (hb:∀b∈bs,b.a<cnt/\b.b<cnt) (nA:bs.length<=1048576):aP Tryz.prog 163 [.int .i64 cnt,.sl (bs.map dB)] (.sl ((iJ cnt (fI bs)).map I9)):=by
 intro n0
 refine Ir Pp rfl fun hl=>?_
 simp only[XR,XS,XT]
 try simp only[q]
 clear hl
 have jA:(0:Int)<=(cnt:Int):=ab
 have pF:(cnt:Int)<=((16777216:Nat):Int):=ab
 obtain⟨G,hG⟩:∃G:Nat->Id,G=fun k=>⟨163005004,n0+3+4*k+2⟩:=⟨_,rfl⟩
 have U0:∀k,(G k).site=163005004:=fun k=>by rw[hG]
 have Wj:∀k,(G k).cW=n0+3+4*k+2:=fun k=>by rw[hG]
 have Wh:∀i j,i≠j->(G i=G j)=False:=fun i j h=>by
  simp only[eq_iff_iff,iff_false]
  intro he
  have h1:=Wj i
  rw[he,Wj j]at h1
  omega
 have Mv:∀i s v,(163005004==s)=false->(G i=⟨s,v⟩)=False:=fun i s v h=>F2 (U0 i) h
 have hz:=HT G cnt
 (try((repeat(revert hN;revert N;apply Pn.out));refine wk (tw @jA (tw @pF (tw @Int.le_refl @hz))) ?_;(repeat(refine Pn.mk ?_;intro N hN))))
 refine cU (fun n env st=>∃k:Nat,n=(cnt)-k/\k<=(cnt)/\env 21=.int .i64 (k:Int)/\st.get ⟨163001001,n0+1⟩=some ⟨true,1,lI G cnt k⟩/\(st.next=n0+3+4*k/\∀j:Nat,j<k->st.get (G j)=some ⟨true,2,[[.gO,.int .i64 (j:Int)]]⟩)) (cnt) ⟨0,ab,ab,sl @hz,sl @hz,⟨rfl,fun j hj=>ab⟩⟩ ?_
 rintro n_a env_a st_a ⟨k,rfl,ale,a21,ag0,qn⟩ eL
 have a0:=eL 0 (by kernel_rfl);have a1:=eL 1 (by kernel_rfl);have a5:=eL 5 (by kernel_rfl);have O8:=eL 19 (by kernel_rfl);have a20:=eL 20 (by kernel_rfl)
 simp only[go_sem, ↓reduceIte,Nat.reduceEqDiff,Nat.reduceAdd,Nat.reduceSub,Nat.reduceLeDiff,reduceCtorEq,hz]at a0 a1 a5 O8 a20
 clear eL
 obtain⟨qn,ug⟩:=qn
 by_cases hk:(k:Int)<(cnt:Int)
 ·have eB:∀{e:Env} {gg:Rows} {nx:Nat},(e 21=.int .i64 (IntKind.i64.wrap ((k:Int)+1)))->(gg ⟨163001001,n0+1⟩=some ⟨true,1,lI G cnt (k+1)⟩)->(nx=n0+3+4*(k+1)/\∀j:Nat,j<(k+1)->gg (G j)=some ⟨true,2,[[.gO,.int .i64 (j:Int)]]⟩)->∃m0,m0<(cnt)-k/\∃k:Nat,m0=(cnt)-k/\k<=(cnt)/\e 21=.int .i64 (k:Int)/\gg ⟨163001001,n0+1⟩=some ⟨true,1,lI G cnt k⟩/\(nx=n0+3+4*k/\∀j:Nat,j<k->gg (G j)=some ⟨true,2,[[.gO,.int .i64 (j:Int)]]⟩):=fun x1 x2 x3=>⟨_,ab,k+1,rfl,ab,(by rw[x1,cI ab]),x2,x3⟩
  have jB:k<cnt:=ab
  have tl:=mg G cnt k
  have jc:=K9 (G:=G) jB
  have gV:(lI G cnt k)[k]? =some [.gO]:=by simp[lI,jB]
  have UY:(⟨163005004,st_a.next+1+1⟩:Id)=G k:=by rw[hG,qn]
  have hGf:∀j,j<k->(G j=G k)=False:=fun j hj=>Wh j k ab
  have zZ:∀j,(G j=(⟨163001001,n0+1⟩:Id))=False:=fun j=>Mv j _ _ (by decide)
  have DM:∀j,((⟨163001001,n0+1⟩:Id)=G j)=False:=fun j=>by
   have:=zZ j
   simp only[eq_iff_iff,iff_false]at this ⊢
   exact fun h=>this h.symm
  (try((repeat(revert hN;revert N;apply Pn.out));refine wk (tw @a21 (tw @ag0 (tw @a0 (tw @a1 (tw @a5 (tw @O8 (tw @a20 (tw @hk (tw @tl (tw @UY (tw @zZ (tw @DM (tw @jc @gV))))))))))))) ?_;(repeat(refine Pn.mk ?_;intro N hN))))
  refine eB ?_ ?_ (by
   refine⟨by(try dsimp only)<;>omega,fun j hj=>?_⟩
   by_cases FF:j=k
   ·subst FF;simp only[go_sem, ↓reduceIte,Nat.reduceEqDiff,Nat.reduceAdd,Nat.reduceSub,Nat.reduceLeDiff,reduceCtorEq,UY,zZ,DM]
   ·have hold:=ug j ab
    have ig:=hGf j ab
    simp only[go_sem, ↓reduceIte,Nat.reduceEqDiff,Nat.reduceAdd,Nat.reduceSub,Nat.reduceLeDiff,reduceCtorEq,UY,zZ,DM,ig,hold])
  all_goals simp only[go_sem, ↓reduceIte,Nat.reduceEqDiff,Nat.reduceAdd,Nat.reduceSub,Nat.reduceLeDiff,reduceCtorEq,a21,ag0,a0,a1,a5,O8,a20,UY,zZ,DM,jc]
 have ko:cnt=k:=ab
 subst ko
 (try((repeat(revert hN;revert N;apply Pn.out));refine wk (tw @a21 (tw @ag0 (tw @a0 (tw @a1 (tw @a5 (tw @O8 (tw @a20 @hk))))))) ?_;(repeat(refine Pn.mk ?_;intro N hN))))
 refine cU (fun n env st=>∃i:Nat,n=(bs.length)-i/\i<=(bs.length)/\env 33=.int .i64 (i:Int)/\st.get ⟨163001001,n0+1⟩=some ⟨true,1,lI G cnt cnt⟩/\(n0+3+4*cnt<=st.next)/\(∃px,mV cnt px (fI (bs.take i))/\tN st.get G cnt px)) (bs.length) ⟨0,ab,ab,sl (tw @a21 (tw @ag0 (tw @a0 (tw @a1 (tw @a5 (tw @O8 @a20)))))),sl (tw @a21 (tw @ag0 (tw @a0 (tw @a1 (tw @a5 (tw @O8 @a20)))))),bL,⟨fun _=>none,mV.start cnt,ug⟩⟩ ?_
 rintro n_b env_b st_b ⟨i,rfl,ble,tQ,bg0,bI0,bI1⟩ fA
 have b0:=fA 0 (by kernel_rfl);have b1:=fA 1 (by kernel_rfl);have b5:=fA 5 (by kernel_rfl);have yd:=fA 31 (by kernel_rfl);have s6:=fA 32 (by kernel_rfl)
 simp only[go_sem, ↓reduceIte,Nat.reduceEqDiff,Nat.reduceAdd,Nat.reduceSub,Nat.reduceLeDiff,reduceCtorEq,a21,ag0,a0,a1,a5,O8,a20]at b0 b1 b5 yd s6
 clear fA
 obtain⟨px,LI,UZ⟩:=bI1
 have tl:=mg G cnt cnt
 have SD:∀j v,(G j=(⟨163009002,v⟩:Id))=False:=fun j v=>Mv j _ v (by decide)
 have zZ:∀j v,(G j=(⟨163001001,v⟩:Id))=False:=fun j v=>Mv j _ v (by decide)
 have DM:∀j v,((⟨163001001,v⟩:Id)=G j)=False:=fun j v=>by
  have:=zZ j v
  simp only[eq_iff_iff,iff_false]at this ⊢
  exact fun h=>this h.symm
 have hGn:∀j,j<cnt->(G j).cW<st_b.next:=fun j hj=>by rw[Wj];omega
 by_cases hi:(i:Int)<(bs.length:Int)
 ·have fP:∀{e:Env} {gg:Rows} {nx:Nat},(e 33=.int .i64 (IntKind.i64.wrap ((i:Int)+1)))->(gg ⟨163001001,n0+1⟩=some ⟨true,1,lI G cnt cnt⟩)->(n0+3+4*cnt<=nx)->(∃px,mV cnt px (fI (bs.take (i+1)))/\tN gg G cnt px)->∃m0,m0<(bs.length)-i/\∃i:Nat,m0=(bs.length)-i/\i<=(bs.length)/\e 33=.int .i64 (i:Int)/\gg ⟨163001001,n0+1⟩=some ⟨true,1,lI G cnt cnt⟩/\(n0+3+4*cnt<=nx)/\(∃px,mV cnt px (fI (bs.take i))/\tN gg G cnt px):=fun x1 x2 x3 x4=>⟨_,ab,i+1,rfl,ab,(by rw[x1,cI ab]),x2,x3,x4⟩
  have iO:i<bs.length:=ab
  have DS:(bs.map dB)[i]? =some (dB bs[i]):=by simp[iO]
  have GR:=hb _ (List.getElem_mem iO)
  have pL:bs.take (i+1)=bs.take i++[bs[i]]:=List.take_succ_eq_append_getElem iO
  have FI:fI (bs.take (i+1))=jm (fI (bs.take i)) bs[i]:=by rw[pL,D9]
  have hL:=Cd (bs.take i)
  generalize fI (bs.take i)=L at *
  generalize bs[i]=b at *
  have gA:=xf (G:=G) GR.1
  have gB:=xf (G:=G) GR.2
  have DO:(b.a:Int)<(cnt:Int):=ab
  have rW:(b.b:Int)<(cnt:Int):=ab
  (try((repeat(revert hN;revert N;apply Pn.out));refine wk (tw @tQ (tw @bg0 (tw @b0 (tw @b1 (tw @b5 (tw @yd (tw @s6 (tw @hi (tw @DS (tw @dB.eq_1 (tw @gA (tw @gB (tw @DO (tw @rW @tl)))))))))))))) ?_;(repeat(refine Pn.mk ?_;intro N hN))))
  refine Ra (fun e s=>e 0=.int .i64 cnt/\e 1=.sl (bs.map dB)/\e 5=.own ⟨163001001,n0+1⟩ 0 cnt/\e 31=.sl (bs.map dB)/\e 32=.int .i64 bs.length/\e 33=.int .i64 i/\e 9=.ptr (G (L b.a)) 0 0/\e 10=.ptr (G (L b.b)) 0 0/\(∀j:Id,j.cW<st_b.next->s.get j=st_b.get j)/\st_b.next<=s.next) ?_ ?_
  ·rintro e1 s1 ⟨m0,m1,m5,m31,m32,m33,m9,m10,mf,mn⟩
   refine hN _ _ ?_
   clear hN N
   have mG:tN s1.get G cnt px:=UZ.frame fun k hk=>mf _ (hGn k hk)
   have mt:=(mf ⟨163001001,n0+1⟩ bL).trans bg0
   have WV:L b.a<cnt:=Nat.lt_of_le_of_lt (hL.le _) GR.1
   have Te:L b.b<cnt:=Nat.lt_of_le_of_lt (hL.le _) GR.2
   have ra:=mG _ WV
   have rb:=mG _ Te
   rw[k9 (LI.root hL WV (hL.idem _))]at ra
   rw[k9 (LI.root hL Te (hL.idem _))]at rb
   have put:∀(g':Rows) (lo hi:Nat),hi<cnt->g' (G hi)=some ⟨true,2,[[.ptr (G lo) 0 0,.int .i64 (hi:Int)]]⟩->(∀k,k≠hi->k<cnt->g' (G k)=s1.get (G k))->tN g' G cnt (fun k=>if k=hi then some lo else px k):=fun g' lo hi _ h1 h2 k hk=>by
    by_cases LF:k=hi
    ·subst LF;rw[h1,tk (j:=lo) (if_pos rfl)]
    ·rw[h2 k LF hk,mG k hk]
     unfold sn
     simp only[if_neg LF]
   rcases Nat.lt_trichotomy (L b.a) (L b.b)with eR|heq|eR
   ·have Qj:(L b.a:Int)<(L b.b:Int):=ab
    have hj:=LI.join hL b ab
    rw[Nat.max_eq_right ab,Nat.min_eq_left ab,<-FI]at hj
    (try((repeat(revert hN;revert N;apply Pn.out));refine wk (tw @m0 (tw @m1 (tw @m5 (tw @m31 (tw @m32 (tw @m33 (tw @m9 (tw @m10 (tw @ra (tw @rb @Qj)))))))))) ?_;(repeat(refine Pn.mk ?_;intro N hN))))
    refine fP ?_ ?_ bL (⟨_,hj,put _ _ _ Te (sd @Nat.zero_add) (fun k hk _=>by
     have ig:=Wh k _ hk
     simp only[go_sem, ↓reduceIte,Nat.reduceEqDiff,Nat.reduceAdd,Nat.reduceSub,Nat.reduceLeDiff,reduceCtorEq,ig])⟩)
    all_goals simp only[go_sem, ↓reduceIte,Nat.reduceEqDiff,Nat.reduceAdd,Nat.reduceSub,Nat.reduceLeDiff,reduceCtorEq,m0,m1,m5,m31,m32,m33,mt,zZ,DM]
   ·have qq:¬(L b.a:Int)<(L b.b:Int):=ab
    have pH:¬(L b.b:Int)<(L b.a:Int):=ab
    have Qt:=Ak heq
    rw[Qt]at FI
    (try((repeat(revert hN;revert N;apply Pn.out));refine wk (tw @m0 (tw @m1 (tw @m5 (tw @m31 (tw @m32 (tw @m33 (tw @m9 (tw @m10 (tw @ra (tw @rb (tw @qq @pH))))))))))) ?_;(repeat(refine Pn.mk ?_;intro N hN))))
    refine fP ?_ ?_ bL (⟨_,FI▸LI,mG.frame fun k hk=>rfl⟩)
    all_goals simp only[go_sem, ↓reduceIte,Nat.reduceEqDiff,Nat.reduceAdd,Nat.reduceSub,Nat.reduceLeDiff,reduceCtorEq,m0,m1,m5,m31,m32,m33,mt]
   ·have Qj:(L b.b:Int)<(L b.a:Int):=ab
    have qq:¬(L b.a:Int)<(L b.b:Int):=ab
    have hj:=LI.join hL b ab
    rw[Nat.max_eq_left ab,Nat.min_eq_right ab,<-FI]at hj
    (try((repeat(revert hN;revert N;apply Pn.out));refine wk (tw @m0 (tw @m1 (tw @m5 (tw @m31 (tw @m32 (tw @m33 (tw @m9 (tw @m10 (tw @ra (tw @rb (tw @Qj @qq))))))))))) ?_;(repeat(refine Pn.mk ?_;intro N hN))))
    refine fP ?_ ?_ bL (⟨_,hj,put _ _ _ WV (sd @Nat.zero_add) (fun k hk _=>by
     have ig:=Wh k _ hk
     simp only[go_sem, ↓reduceIte,Nat.reduceEqDiff,Nat.reduceAdd,Nat.reduceSub,Nat.reduceLeDiff,reduceCtorEq,ig])⟩)
    all_goals simp only[go_sem, ↓reduceIte,Nat.reduceEqDiff,Nat.reduceAdd,Nat.reduceSub,Nat.reduceLeDiff,reduceCtorEq,m0,m1,m5,m31,m32,m33,mt,zZ,DM]
  ·intro N hN
   refine xq ?_ ?_<;>(try((repeat(revert hN;revert N;apply Pn.out));refine wk (tw @tQ (tw @bg0 (tw @b0 (tw @b1 (tw @b5 (tw @yd (tw @s6 (tw @hi (tw @DS (tw @dB.eq_1 (tw @gA (tw @gB (tw @DO (tw @rW @tl)))))))))))))) ?_;(repeat(refine Pn.mk ?_;intro N hN))))<;>(try refine xq ?_ ?_)<;>(try((repeat(revert hN;revert N;apply Pn.out));refine wk (tw @tQ (tw @bg0 (tw @b0 (tw @b1 (tw @b5 (tw @yd (tw @s6 (tw @hi (tw @DS (tw @dB.eq_1 (tw @gA (tw @gB (tw @DO (tw @rW @tl)))))))))))))) ?_;(repeat(refine Pn.mk ?_;intro N hN))))<;>(try refine xq ?_ ?_)<;>(try((repeat(revert hN;revert N;apply Pn.out));refine wk (tw @tQ (tw @bg0 (tw @b0 (tw @b1 (tw @b5 (tw @yd (tw @s6 (tw @hi (tw @DS (tw @dB.eq_1 (tw @gA (tw @gB (tw @DO (tw @rW @tl)))))))))))))) ?_;(repeat(refine Pn.mk ?_;intro N hN))))
   all_goals
    refine .inr (aS _ _ _ _ _ (fun r σ1 hq=>?_) (zS G cnt px L LI b.a GR.1 _ (UZ.frame fun k hk=>sd @SD)))
    obtain⟨g1,x1⟩:=σ1
    obtain⟨rfl,xt,GZ⟩:=hq
    (try dsimp only at xt GZ)
    subst xt
    refine hN _ _ ?_
    clear hN N
    (try((repeat(revert hN;revert N;apply Pn.out));refine wk (tw @tQ (tw @bg0 (tw @b0 (tw @b1 (tw @b5 (tw @yd (tw @s6 (tw @hi (tw @DS (tw @dB.eq_1 (tw @gA (tw @gB (tw @DO (tw @rW @tl)))))))))))))) ?_;(repeat(refine Pn.mk ?_;intro N hN))))
    refine .inr (aS _ _ _ _ _ (fun r σ1 hq=>?_) (zS G cnt px L LI b.b GR.2 _ (UZ.frame fun k hk=>sd @SD)))
    obtain⟨g1,x2⟩:=σ1
    obtain⟨rfl,xt,p7⟩:=hq
    (try dsimp only at xt p7)
    subst xt
    refine hN _ _ ?_
    clear hN N
    (try((repeat(revert hN;revert N;apply Pn.out));refine wk (tw @tQ (tw @bg0 (tw @b0 (tw @b1 (tw @b5 (tw @yd (tw @s6 (tw @hi (tw @DS (tw @dB.eq_1 (tw @gA (tw @gB (tw @DO (tw @rW @tl)))))))))))))) ?_;(repeat(refine Pn.mk ?_;intro N hN))))
    exact⟨sd (tw @tQ (tw @bg0 (tw @b0 (tw @b1 (tw @b5 (tw @yd @s6)))))),sd (tw @tQ (tw @bg0 (tw @b0 (tw @b1 (tw @b5 (tw @yd @s6)))))),sd (tw @tQ (tw @bg0 (tw @b0 (tw @b1 (tw @b5 (tw @yd @s6)))))),sd (tw @tQ (tw @bg0 (tw @b0 (tw @b1 (tw @b5 (tw @yd @s6)))))),sd (tw @tQ (tw @bg0 (tw @b0 (tw @b1 (tw @b5 (tw @yd @s6)))))),sd (tw @tQ (tw @bg0 (tw @b0 (tw @b1 (tw @b5 (tw @yd @s6)))))),sd (tw @tQ (tw @bg0 (tw @b0 (tw @b1 (tw @b5 (tw @yd @s6)))))),sd (tw @tQ (tw @bg0 (tw @b0 (tw @b1 (tw @b5 (tw @yd @s6)))))),fun j hj=>by
     have hv:=dE hj
     simp only[go_sem, ↓reduceIte,Nat.reduceEqDiff,Nat.reduceAdd,Nat.reduceSub,Nat.reduceLeDiff,reduceCtorEq,hv],bL⟩
 have qp:i=bs.length:=ab
 subst qp
 rw[List.take_length]at LI
 have hL:=Cd bs
 generalize fI bs=L at *
 (try((repeat(revert hN;revert N;apply Pn.out));refine wk (tw @tQ (tw @bg0 (tw @b0 (tw @b1 (tw @b5 (tw @yd (tw @s6 (tw @hi @tl)))))))) ?_;(repeat(refine Pn.mk ?_;intro N hN))))
 have l0:kA 0 L=[]:=rfl
 have oS:(none:Option Nat).isSome=false:=rfl
 have oT:∀a:Nat,(some a).isSome=true:=fun _=>rfl
 refine cU (fun n env st=>∃x:Nat,n=(cnt)-x/\x<=(cnt)/\env 81=.int .i64 (x:Int)/\st.get ⟨163001001,n0+1⟩=some ⟨true,1,lI G cnt cnt⟩/\st.get ⟨163017000,st_b.next+1+1⟩=some ⟨true,mI.j5,kA x L⟩/\(st_b.next+3<=st.next/\tN st.get G cnt px)/\((x=0/\env 11=.bB)∨∃o:Id,env 11=.own o 0 (leads x L).length/\Lu st.get o (jz x L) st.next)) (cnt) ⟨0,ab,ab,sl (tw @tQ (tw @bg0 (tw @b0 (tw @b1 (tw @b5 (tw @yd (tw @s6 @l0))))))),sl (tw @tQ (tw @bg0 (tw @b0 (tw @b1 (tw @b5 (tw @yd (tw @s6 @l0))))))),sl (tw @tQ (tw @bg0 (tw @b0 (tw @b1 (tw @b5 (tw @yd (tw @s6 @l0))))))),⟨bL,UZ.frame fun k hk=>by(have ig:=Mv k 163017000 (st_b.next+1+1) (by decide));simp only[go_sem, ↓reduceIte,Nat.reduceEqDiff,Nat.reduceAdd,Nat.reduceSub,Nat.reduceLeDiff,reduceCtorEq,ig]⟩,.inl ⟨rfl,sd @Nat.zero_add⟩⟩ ?_
 rintro n_c env_c st_c ⟨x,rfl,cle,c81,cg0,cg1,cI0,cI1⟩ cfr
 have L5:=cfr 12 (by kernel_rfl);have L6:=cfr 79 (by kernel_rfl);have L7:=cfr 80 (by kernel_rfl)
 simp only[go_sem, ↓reduceIte,Nat.reduceEqDiff,Nat.reduceAdd,Nat.reduceSub,Nat.reduceLeDiff,reduceCtorEq,tQ,bg0,b0,b1,b5,yd,s6,l0]at L5 L6 L7
 clear cfr
 obtain⟨BU,R8⟩:=cI0
 have PW:∀j v,(G j=(⟨163017000,v⟩:Id))=False:=fun j v=>Mv j _ v (by decide)
 have PS:∀j v,(G j=(⟨163025002,v⟩:Id))=False:=fun j v=>Mv j _ v (by decide)
 have PU:∀j v,(G j=(⟨163025001,v⟩:Id))=False:=fun j v=>Mv j _ v (by decide)
 have PV:∀j v,(G j=(⟨163026007,v⟩:Id))=False:=fun j v=>Mv j _ v (by decide)
 have PT:∀j v,(G j=(⟨163026008,v⟩:Id))=False:=fun j v=>Mv j _ v (by decide)
 by_cases hx:(x:Int)<(cnt:Int)
 ·have wJ:∀{e:Env} {gg:Rows} {nx:Nat},(e 81=.int .i64 (IntKind.i64.wrap ((x:Int)+1)))->(gg ⟨163001001,n0+1⟩=some ⟨true,1,lI G cnt cnt⟩)->(gg ⟨163017000,st_b.next+1+1⟩=some ⟨true,mI.j5,kA (x+1) L⟩)->(st_b.next+3<=nx/\tN gg G cnt px)->(((x+1)=0/\e 11=.bB)∨∃o:Id,e 11=.own o 0 (leads (x+1) L).length/\Lu gg o (jz (x+1) L) nx)->∃m0,m0<(cnt)-x/\∃x:Nat,m0=(cnt)-x/\x<=(cnt)/\e 81=.int .i64 (x:Int)/\gg ⟨163001001,n0+1⟩=some ⟨true,1,lI G cnt cnt⟩/\gg ⟨163017000,st_b.next+1+1⟩=some ⟨true,mI.j5,kA x L⟩/\(st_b.next+3<=nx/\tN gg G cnt px)/\((x=0/\e 11=.bB)∨∃o:Id,e 11=.own o 0 (leads x L).length/\Lu gg o (jz x L) nx):=fun x1 x2 x3 x4 x5=>⟨_,ab,x+1,rfl,ab,(by rw[x1,cI ab]),x2,x3,x4,x5⟩
  have Xt:x<cnt:=ab
  have gX:=xf (G:=G) Xt
  have hlx:L x<cnt:=Nat.lt_of_le_of_lt (hL.le _) Xt
  have ra:=R8 _ hlx
  rw[k9 (LI.root hL hlx (hL.idem _))]at ra
  have fw:=lR x L
  (try((repeat(revert hN;revert N;apply Pn.out));refine wk (tw @c81 (tw @cg0 (tw @cg1 (tw @L5 (tw @L6 (tw @L7 (tw @hx (tw @gX @tl)))))))) ?_;(repeat(refine Pn.mk ?_;intro N hN))))
  refine .inr (aS _ _ _ _ _ (fun r σ1 hq=>?_) (zS G cnt px L LI x Xt _ (R8.frame fun k hk=>sd @Nat.zero_add)))
  obtain⟨g1,x1⟩:=σ1
  obtain⟨rfl,xt,GZ⟩:=hq
  (try dsimp only at xt GZ)
  subst xt
  refine hN _ _ ?_
  clear hN N
  by_cases hr:L x=x
  ·rw[hr]at ra ⊢
   have la:=Hk hr
   have Vg:(leads (x+1) L).length=(leads x L).length+1:=by rw[im,if_pos hr];simp
   have ML:=Eb hr
   have Vc:=DJ hL hr
   rcases cI1 with⟨rfl,H7⟩|⟨o,H7,cS⟩
   ·have Xg:kA 1 L=[[.int .i64 ((0:Nat):Int),.int .i64 ((0:Nat):Int)]]:=ML
    (try((repeat(revert hN;revert N;apply Pn.out));refine wk (tw @c81 (tw @cg0 (tw @cg1 (tw @L5 (tw @L6 (tw @L7 (tw @H7 (tw @ra (tw @la (tw @l0 (tw @oS (tw @oT (tw @Bool.not_false @Bool.not_true))))))))))))) ?_;(repeat(refine Pn.mk ?_;intro N hN))))
    refine wJ ?_ ?_ ?_ (by(try dsimp only);exact⟨ab,R8.frame fun k hk=>sd (tw @PW (tw @PS (tw @PT (tw @PU @PV))))⟩) (.inr ⟨⟨163025002,x1+1+1+1+1⟩,by simp only[go_sem, ↓reduceIte,Nat.reduceEqDiff,Nat.reduceAdd,Nat.reduceSub,Nat.reduceLeDiff,reduceCtorEq,Vg];rfl,by rw[Vc];exact Mr (v':=x1+1+1+1+1+1) (sd @Nat.zero_add) (sd @eN.eq_1) bL bL⟩)
    all_goals simp only[go_sem, ↓reduceIte,Nat.reduceEqDiff,Nat.reduceAdd,Nat.reduceSub,Nat.reduceLeDiff,reduceCtorEq,c81,cg0,cg1,L5,L6,L7,Xg]
   ·obtain⟨rows,AO,xQ,iT⟩:=cS.new x
    rw[pZ]at xQ
    have tV:o.site=163025002:=by obtain⟨_,_,_,_,_,_,h,_⟩:=cS;exact h
    have RH:o.cW<x1:=by obtain⟨_,_,_,_,_,_,_,h⟩:=cS;omega
    have yL:=dE RH
    have To:=ga (o:=o) tV (b:=163017000) (v:=st_b.next+1+1) (by decide)
    have RG:=ga (o:=o) tV (b:=163001001) (v:=n0+1) (by decide)
    have PX:∀k,(G k=o)=False:=fun k=>by simp only[eq_iff_iff,iff_false];intro h;have h1:=U0 k;rw[h,tV]at h1;cases h1
    have sv:(rows++[[AV.bB]])[(leads x L).length]? =some [.bB]:=by rw[<-xQ];simp
    have nP:∀a:List AV,(rows++[[AV.bB]]).set (leads x L).length a=rows++[a]:=fun a=>by rw[<-xQ];simp
    have e1:(leads x L).length+1<=16777216:=ab
    have e2:((leads x L).length:Int)<(((leads x L).length+1:Nat):Int):=ab
    (try((repeat(revert hN;revert N;apply Pn.out));refine wk (tw @c81 (tw @cg0 (tw @cg1 (tw @L5 (tw @L6 (tw @L7 (tw @H7 (tw @ra (tw @la (tw @AO (tw @xQ (tw @yL (tw @To (tw @sv (tw @nP (tw @e1 (tw @e2 (tw @oS (tw @oT (tw @Bool.not_false @Bool.not_true)))))))))))))))))))) ?_;(repeat(refine Pn.mk ?_;intro N hN))))
    refine wJ ?_ ?_ ?_ (by(try dsimp only);exact⟨ab,R8.frame fun k hk=>sd (tw @PW (tw @PS (tw @PT (tw @PU (tw @PV @PX)))))⟩) (.inr ⟨⟨163025002,x1+1+1+1+1⟩,sd @Vg,by rw[Vc];exact iT _ _ (x1+1+1+1+1+1) _ ab bL bL (sd @nP) (sd @eN.eq_1) (fun j hj hv=>by
     have q1:=dE (i:=j) (n:=x1) ab
     have q2:=ga hj (b:=163017000) (v:=st_b.next+1+1) (by decide)
     have q3:(j=o)=False:=by simp only[eq_iff_iff,iff_false];intro h;rw[h,tV]at hj;cases hj
     simp only[go_sem, ↓reduceIte,Nat.reduceEqDiff,Nat.reduceAdd,Nat.reduceSub,Nat.reduceLeDiff,reduceCtorEq,q1,q2,q3])⟩)
    all_goals simp only[go_sem, ↓reduceIte,Nat.reduceEqDiff,Nat.reduceAdd,Nat.reduceSub,Nat.reduceLeDiff,reduceCtorEq,c81,cg0,cg1,L5,L6,L7,ML,yL,To,RG]
  ·obtain⟨la,JU,eR⟩:=yR hL hr
   obtain⟨JG,Vc⟩:=DK hL hr
   have Vg:(leads (x+1) L).length=(leads x L).length:=by rw[im,if_neg hr];simp
   have Qt:=Ea hr
   rcases cI1 with⟨rfl,H7⟩|⟨o,H7,cS⟩
   ·exact absurd (Nat.le_zero.1 (hL.le 0)) hr
   ·obtain⟨rows,id,AO,xQ,hrk,hid,JI,hidv,WC⟩:=cS.add JG x
    rw[pZ]at xQ
    have tV:o.site=163025002:=by obtain⟨_,_,_,_,_,_,h,_⟩:=cS;exact h
    have RH:o.cW<x1:=by obtain⟨_,_,_,_,_,_,_,h⟩:=cS;omega
    have yL:=dE RH
    have qb:=dE (i:=id) (n:=x1) ab
    have DS:(dV L x:Int)<((leads x L).length:Int):=ab
    have RE:=Cg x L (L x)
    have hma:((members x L (L x)).map eN).length=(members x L (L x)).length:=by simp
    have e1:(members x L (L x)).length+1<=16777216:=ab
    have hoi:(o=id)=False:=by simp only[eq_iff_iff,iff_false];rintro rfl;rw[JI]at tV;cases tV
    have hio:(id=o)=False:=by simp only[eq_iff_iff,iff_false];rintro rfl;rw[JI]at tV;cases tV
    have To:=ga (o:=o) tV (b:=163017000) (v:=st_b.next+1+1) (by decide)
    have RG:=ga (o:=o) tV (b:=163001001) (v:=n0+1) (by decide)
    have hiM:=ga (o:=id) JI (b:=163017000) (v:=st_b.next+1+1) (by decide)
    have hiT:=ga (o:=id) JI (b:=163001001) (v:=n0+1) (by decide)
    have PX:∀k,(G k=o)=False:=fun k=>by simp only[eq_iff_iff,iff_false];intro h;have h1:=U0 k;rw[h,tV]at h1;cases h1
    have Wi:∀k,(G k=id)=False:=fun k=>by simp only[eq_iff_iff,iff_false];intro h;have h1:=U0 k;rw[h,JI]at h1;cases h1
    (try((repeat(revert hN;revert N;apply Pn.out));refine wk (tw @c81 (tw @cg0 (tw @cg1 (tw @L5 (tw @L6 (tw @L7 (tw @H7 (tw @ra (tw @la (tw @JU (tw @AO (tw @xQ (tw @hrk (tw @hid (tw @yL (tw @qb (tw @DS (tw @hma (tw @e1 (tw @hoi (tw @hio (tw @To (tw @RG (tw @hiM (tw @hiT (tw @oS (tw @oT (tw @Bool.not_false @Bool.not_true)))))))))))))))))))))))))))) ?_;(repeat(refine Pn.mk ?_;intro N hN))))
    refine wJ ?_ ?_ ?_ (by(try dsimp only);exact⟨ab,R8.frame fun k hk=>sd (tw @PW (tw @PS (tw @PT (tw @PU (tw @PV (tw @PX @Wi))))))⟩) (.inr ⟨o,sd (tw @Vg @H7),by rw[Vc];exact WC _ (x1+1+1) _ ab bL (sd @Nat.zero_add) (sd (tw @yL (tw @qb (tw @hoi @hio)))) (fun j hj hv mj=>by
     have q1:=dE (i:=j) (n:=x1) ab
     have q2:=ga hj (b:=163017000) (v:=st_b.next+1+1) (by decide)
     have q3:(j=o)=False:=by simp only[eq_iff_iff,iff_false];intro h;rw[h,tV]at hj;cases hj
     simp only[go_sem, ↓reduceIte,Nat.reduceEqDiff,Nat.reduceAdd,Nat.reduceSub,Nat.reduceLeDiff,reduceCtorEq,q1,q2,q3,mj])⟩)
    all_goals simp only[go_sem, ↓reduceIte,Nat.reduceEqDiff,Nat.reduceAdd,Nat.reduceSub,Nat.reduceLeDiff,reduceCtorEq,c81,cg0,cg1,L5,L6,L7,Qt,yL,qb,To,RG,hiM,hiT]
 have Xs:x=cnt:=ab
 rcases cI1 with⟨h0,_⟩|⟨o,H7,rows,ids,AO,hR,_,_,_,_⟩
 ·omega
 have xQ:=hR.len
 rw[pZ]at xQ
 (try((repeat(revert hN;revert N;apply Pn.out));refine wk (tw @c81 (tw @cg0 (tw @cg1 (tw @L5 (tw @L6 (tw @L7 (tw @hx (tw @H7 @AO)))))))) ?_;(repeat(refine Pn.mk ?_;intro N hN))))
 refine zi (.inl rfl) (by simp only[go_sem, ↓reduceIte,Nat.reduceEqDiff,Nat.reduceAdd,Nat.reduceSub,Nat.reduceLeDiff,reduceCtorEq];rfl) ?_
 rw[zY AO ab (rows':=(iJ cnt L).map I9) (by
  rw[List.drop_zero,List.take_of_length_le ab]
  rw[Xs]at hR;exact QL 3 hR)]
end Go.Proofs.YtakkdjfmiffbfaaGreatDoor.V
