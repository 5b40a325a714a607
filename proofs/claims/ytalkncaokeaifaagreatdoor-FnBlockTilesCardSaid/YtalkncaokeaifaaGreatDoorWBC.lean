/- The place of a point in an assembly, on both sides. -/
import Derived.Test.YtalkncaokeaifaaGreatDoorWBB
import Derived.Test.YtalkncaokeaifaaGreatDoorWBA
import Derived.Test.YtalkncaokeaifaaGreatDoorChecked
set_option linter.unusedVariables false
set_option linter.unusedSimpArgs false
set_option maxRecDepth 100000
set_option maxHeartbeats 16000000
namespace Go.Proofs.YtalkncaokeaifaaGreatDoor.V
open Go.RowKit
attribute [local irreducible] dH wpOps eB Call
attribute [local go_sem] ax eo dS ez ev cZ upd bD K.av bR AV.cells AV.cell rowOf rowsOf part ld rowAt eL bz bx cW dj eO bf cC dw er ea cR dq cw cu da db bp aI bZ bj ck cj dn dr dp bW br cz dm bh ar cq bH eM aT bL bq aH cU aQ cX AV.undef aW bd de di cY c6 bJ dv dy bE du dt cm cr List.getD_cons_zero List.getD_cons_succ List.getD_nil List.all_cons List.all_nil Bool.and_true Bool.true_and Bool.and_self Bool.not_true Bool.not_false Option.map_some Option.map_none Option.bind_some Option.bind_none List.length_cons List.length_nil List.take_succ_cons List.take_zero List.take_nil List.drop_succ_cons List.drop_zero List.drop_nil List.head?_cons List.map_cons List.map_nil List.getElem?_cons_zero List.getElem?_cons_succ List.cons_append List.nil_append List.append_nil List.length_map List.set_cons_zero List.set_cons_succ Nat.reduceMul eq_self Int.toNat_natCast Int.natCast_nonneg and_self true_and and_true decide_true decide_false Bool.false_eq_true Nat.zero_add Nat.add_zero List.contains_cons List.contains_nil Bool.or_false Bool.false_or beq_self_eq_true Nat.reduceBEq ne_eq not_true_eq_false not_false_eq_true Id.mk.injEq false_and and_false Nat.reduceLT Int.reduceLE Int.reduceLT Int.reduceToNat Int.reduceNeg Int.reduceAdd Nat.le_refl List.length_append beq_true beq_false Bool.not_eq_eq_eq_not or_false false_or dX ad ae aP aJ bt bI aD aS aA aL bU aZ
theorem yM (cells:List aa) (p:af) (hR:mE cells) (SE:cells.length<=1048576):
  az Tryz.prog 97 [.sl (cells.map ai),.agg (ao p),.fn 98 []] (.fN [.int .i64 (mQ cells p),.bool (decide (mQ cells p<cells.length)&&decide ((cP cells (mQ cells p)).bQ=p))]):=by
 refine az.body fC rfl fun hl n0=>?_
 clear hl
 (try((repeat(revert hN;revert N;apply Pn.out));refine wk @ao.eq_1 ?_;(repeat(refine Pn.mk ?_;intro N hN))))
 refine dc (fun n env st=>∃i j:Nat,n=j-i/\i<=j/\j<=cells.length/\(∀x,x<i->k8 (cP cells x).bQ p=true)/\(∀x,j<=x->x<cells.length->k8 (cP cells x).bQ p=false)/\env 9=.int .i64 i/\env 10=.int .i64 j/\st.get ⟨97000000,n0⟩=some ⟨true,2,[ao p]⟩) cells.length ⟨0,cells.length,ab,ab,ab,fun x h=>ab,fun x h1 h2=>ab,by(simp only[go_sem, ↓reduceIte,Nat.reduceEqDiff,Nat.reduceAdd,Nat.reduceSub,Nat.reduceLeDiff,reduceCtorEq])<;>rfl,sd @Nat.zero_add,sd @ao.eq_1⟩ ?_
 rintro n env st ⟨i,j,rfl,yh,hj,k6,Hr,h9,JY,hg⟩ fr
 have h0:=fr 0 (by kernel_rfl)
 have h2:=fr 2 (by kernel_rfl)
 have h4:=fr 4 (by kernel_rfl)
 have h8:=fr 8 (by kernel_rfl)
 simp only[go_sem, ↓reduceIte,Nat.reduceEqDiff,Nat.reduceAdd,Nat.reduceSub,Nat.reduceLeDiff,reduceCtorEq]at h0 h2 h4 h8
 clear fr
 by_cases eJ:(i:Int)<(j:Int)
 ·have e1:IntKind.i64.wrap ((i:Int)+j)=((i+j:Nat):Int):=by rw[cH ab];rfl
  have hm:(i+j) / 2<cells.length:=ab
  have iK:(cells.map ai)[(i+j) / 2]? =some (ai (cP cells ((i+j) / 2))):=jH (l:=cells) hm
  have e2:IntKind.i64.wrap ((IntKind.u64.wrap ((i+j:Nat):Int)).fdiv (2 ^ min 1 IntKind.u64.bits))=(((i+j) / 2:Nat):Int):=by
   have h:IntKind.u64.wrap ((i+j:Nat):Int)=((i+j:Nat):Int):=by rw[IntKind.wrap_u64];omega
   rw[h,show min 1 IntKind.u64.bits=1 from rfl,show((2:Int) ^ 1)=2 from rfl,Int.fdiv_eq_ediv_of_nonneg _ ab]
   rw[cH ab];omega
  have Tp:IntKind.i64.wrap ((IntKind.u64.wrap ((i+j:Nat):Int)).fdiv (2 ^ min 1 64))=(((i+j) / 2:Nat):Int):=e2
  have e3:=cE (k:=(i+j) / 2) ab
  by_cases hc:om (cP cells ((i+j) / 2)).bQ p<0
  ·have hl:k8 (cP cells ((i+j) / 2)).bQ p=true:=by rw[<-lh];simpa using hc
   (repeat(first|((repeat(revert hN;revert N;apply Pn.out));refine wk (tw @h0 (tw @h2 (tw @h4 (tw @h8 (tw @h9 (tw @JY (tw @hg (tw @eJ (tw @e1 (tw @e2 (tw @Tp (tw @iK (tw @hc (tw @ai.eq_1 @ao.eq_1)))))))))))))) ?_;(repeat(refine Pn.mk ?_;intro N hN)))|((try apply Or.inl);refine⟨_,az.x (jY (cP cells ((i+j) / 2)) p) (sd (tw @h0 (tw @h2 (tw @h4 (tw @h8 (tw @h9 (tw @JY (tw @hg (tw @eJ (tw @e1 (tw @e2 (tw @Tp (tw @iK (tw @hc (tw @ai.eq_1 @ao.eq_1))))))))))))))),?_⟩;refine hN _ _ ?_;clear hN N)))
   refine⟨_,?_,(i+j) / 2+1,j,rfl,ab,hj,fun x hx=>?_,Hr,sd @e3,sd @JY,sd (tw @hg @ao.eq_1)⟩
   ·omega
   ·by_cases Mz:x=(i+j) / 2
    ·subst Mz;exact hl
    ·exact iw (hR x _ ab hm) hl
  ·have hl:k8 (cP cells ((i+j) / 2)).bQ p=false:=by rw[<-lh];simpa using hc
   (repeat(first|((repeat(revert hN;revert N;apply Pn.out));refine wk (tw @h0 (tw @h2 (tw @h4 (tw @h8 (tw @h9 (tw @JY (tw @hg (tw @eJ (tw @e1 (tw @e2 (tw @Tp (tw @iK (tw @hc (tw @ai.eq_1 @ao.eq_1)))))))))))))) ?_;(repeat(refine Pn.mk ?_;intro N hN)))|((try apply Or.inl);refine⟨_,az.x (jY (cP cells ((i+j) / 2)) p) (sd (tw @h0 (tw @h2 (tw @h4 (tw @h8 (tw @h9 (tw @JY (tw @hg (tw @eJ (tw @e1 (tw @e2 (tw @Tp (tw @iK (tw @hc (tw @ai.eq_1 @ao.eq_1))))))))))))))),?_⟩;refine hN _ _ ?_;clear hN N)))
   refine⟨_,?_,i,(i+j) / 2,rfl,ab,ab,k6,fun x h1 h2=>?_,sd @h9,sd (tw @e2 @Tp),sd (tw @hg @ao.eq_1)⟩
   ·omega
   ·by_cases Mz:x=(i+j) / 2
    ·subst Mz;exact hl
    ·rw[Bool.eq_false_iff]
     intro hc
     have h3:=iw (hR ((i+j) / 2) x ab h2) hc
     rw[hl]at h3;cases h3
 ·have X9:i=j:=ab
  subst X9
  have Uz:mQ cells p=i:=Gj hj k6 fun h=>Hr i (Nat.le_refl _) h
  by_cases hn:(i:Int)<(cells.length:Int)
  ·have im:i<cells.length:=ab
   have iK:(cells.map ai)[i]? =some (ai (cP cells i)):=jH (l:=cells) im
   have hd:decide (om (cP cells i).bQ p=0)=decide ((cP cells i).bQ=p):=by simp only[G6]
   (repeat(first|((repeat(revert hN;revert N;apply Pn.out));refine wk (tw @h0 (tw @h2 (tw @h4 (tw @h8 (tw @h9 (tw @JY (tw @hg (tw @eJ (tw @hn (tw @iK (tw @ai.eq_1 @ao.eq_1))))))))))) ?_;(repeat(refine Pn.mk ?_;intro N hN)))|((try apply Or.inl);refine⟨_,az.x (jY (cP cells i) p) (sd (tw @h0 (tw @h2 (tw @h4 (tw @h8 (tw @h9 (tw @JY (tw @hg (tw @eJ (tw @hn (tw @iK (tw @ai.eq_1 @ao.eq_1)))))))))))),?_⟩;refine hN _ _ ?_;clear hN N)))
   refine mj (.inl rfl) (r1:=.int .i64 i) (r2:=.bool (decide ((cP cells i).bQ=p))) ?_ ?_ ?_
   ·simp only[go_sem, ↓reduceIte,Nat.reduceEqDiff,Nat.reduceAdd,Nat.reduceSub,Nat.reduceLeDiff,reduceCtorEq]
   ·simp only[go_sem, ↓reduceIte,Nat.reduceEqDiff,Nat.reduceAdd,Nat.reduceSub,Nat.reduceLeDiff,reduceCtorEq,hd]
   ·simp only[gn,cQ,dD,eV,iI,Option.map_some,Uz,im,decide_true,Bool.true_and]
  ·have im:¬i<cells.length:=ab
   (try((repeat(revert hN;revert N;apply Pn.out));refine wk (tw @h0 (tw @h2 (tw @h4 (tw @h8 (tw @h9 (tw @JY (tw @hg (tw @eJ (tw @hn (tw @ai.eq_1 @ao.eq_1)))))))))) ?_;(repeat(refine Pn.mk ?_;intro N hN))))
   refine mj (.inl rfl) (r1:=.int .i64 i) (r2:=.bool false) ?_ ?_ ?_
   ·simp only[go_sem, ↓reduceIte,Nat.reduceEqDiff,Nat.reduceAdd,Nat.reduceSub,Nat.reduceLeDiff,reduceCtorEq]
   ·simp only[go_sem, ↓reduceIte,Nat.reduceEqDiff,Nat.reduceAdd,Nat.reduceSub,Nat.reduceLeDiff,reduceCtorEq]
   ·simp only[gn,cQ,dD,eV,iI,Option.map_some,Uz,im,decide_false,Bool.false_and]
theorem HX (l:List aa) (p:af) (hR:mE l) (SE:l.length<=1048576):az Tryz.prog 155 [.agg [.sl (l.map ai)],.agg (ao p)] (.int .i64 (ew l p)):=by
 refine az.body fC rfl fun hl n0=>?_
 clear hl
 rw[Gm hR]
 have hb:=yM l p hR SE
 rw[ao]at hb
 cases hf:(decide (mQ l p<l.length)&&decide ((cP l (mQ l p)).bQ=p))
 ·rw[hf]at hb
  (repeat(first|((repeat(revert hN;revert N;apply Pn.out));refine wk @ao.eq_1 ?_;(repeat(refine Pn.mk ?_;intro N hN)))|((try apply Or.inl);refine⟨_,az.x (hb) (sd @ao.eq_1),?_⟩;refine hN _ _ ?_;clear hN N)))
  exact e7 (b:=-1) (.inl rfl) (sd @Nat.zero_add) (by rw[if_neg];intro h;simp[h.1,h.2]at hf)
 ·rw[hf]at hb
  (repeat(first|((repeat(revert hN;revert N;apply Pn.out));refine wk @ao.eq_1 ?_;(repeat(refine Pn.mk ?_;intro N hN)))|((try apply Or.inl);refine⟨_,az.x (hb) (sd @ao.eq_1),?_⟩;refine hN _ _ ?_;clear hN N)))
  exact e7 (b:=(mQ l p:Int)) (.inl rfl) (sd @Nat.zero_add) (by rw[if_pos];simpa using hf)
theorem Xk (l:List aa) (p:af) (hR:mE l) (SE:l.length<=1048576):az Tryz.prog 73 [.agg [.sl (l.map ai)],.agg (ao p)] (.int .i64 (gh l p)):=by
 refine az.body fC rfl fun hl n0=>?_
 clear hl
 have hi:=Gm (l:=l) (p:=p) hR
 have hb:=yM l p hR SE
 rw[ao]at hb
 cases hf:(decide (mQ l p<l.length)&&decide ((cP l (mQ l p)).bQ=p))
 ·rw[hf]at hb
  (repeat(first|((repeat(revert hN;revert N;apply Pn.out));refine wk @ao.eq_1 ?_;(repeat(refine Pn.mk ?_;intro N hN)))|((try apply Or.inl);refine⟨_,az.x (hb) (sd @ao.eq_1),?_⟩;refine hN _ _ ?_;clear hN N)))
  exact e7 (b:=-1) (.inl rfl) (sd @Nat.zero_add) (by
   have hx:ew l p= -1:=by rw[hi,if_neg (by intro h;simp[h.1,h.2]at hf)]
   rw[gh,hx];rfl)
 ·rw[hf]at hb
  have hc:mQ l p<l.length/\(cP l (mQ l p)).bQ=p:=by simpa using hf
  have hg:=jH hc.1
  (repeat(first|((repeat(revert hN;revert N;apply Pn.out));refine wk (tw @ao.eq_1 (tw @hg @ai.eq_1)) ?_;(repeat(refine Pn.mk ?_;intro N hN)))|((try apply Or.inl);refine⟨_,az.x (hb) (sd (tw @ao.eq_1 (tw @hg @ai.eq_1))),?_⟩;refine hN _ _ ?_;clear hN N)))
  exact e7 (b:=(cP l (mQ l p)).cK) (.inl rfl) (sd @Nat.zero_add) (by
   have hx:ew l p=(mQ l p:Int):=by rw[hi,if_pos hc]
   rw[gh,hx,if_pos ab,Int.toNat_natCast])
def gV (s:aO) (l:List aa):Prop:=lR l/\∀t∈l,eA s t.cK=true
noncomputable def xX (s:aO) (l:List aa):Bool:=q9 l&&l.all fun t=>eA s t.cK
theorem oc {s:aO} {l:List aa}:xX s l=true↔gV s l:=by simp[xX,gV,Hh]
theorem DZ:S5 ai (fun c=>.agg (ai c)) 3 true:=⟨fun _=>rfl,fun _=>rfl,fun x g=>by simp only[ai,ad,ae,aS,aP,Option.map_some]⟩
theorem HS (s:aO) (t:aa) (hs:s.ay.length<=1048576):az Tryz.prog 95 [.agg (ai t),.fe (aj s)] (.bool (!eA s t.cK)):=by
 refine az.body fC rfl fun hl n0=>?_
 clear hl
 have h:=KD s t.cK
 rw[aj]at h
 (repeat(first|((repeat(revert hN;revert N;apply Pn.out));refine wk (tw @ai.eq_1 @aj.eq_1) ?_;(repeat(refine Pn.mk ?_;intro N hN)))|((try apply Or.inl);refine⟨_,az.x (h) (sd (tw @ai.eq_1 @aj.eq_1)),?_⟩;refine hN _ _ ?_;clear hN N)))
 exact dQ (b:= !eA s t.cK) (.inl rfl) (sd @Nat.zero_add) rfl
theorem OO (s:aO) (l:List aa) (hs:s.ay.length<=1048576) (hl:l.length<=1048576):az Tryz.prog 94 [.sl (l.map ai),.fn 95 [.fe (aj s)]] (.bool (l.any fun t=> !eA s t.cK)):=
 kq DZ (show BN Tryz.prog 94=some (AD 94 121) by kernel_rfl)
  (show BN Tryz.prog 121=some (sO 121 3 true) by kernel_rfl) l hl _ _ _ rfl (fun g=>by rw[ad,aA,ae];rfl) (fun x _=>HS s x hs) fun g=>by rw[ad,aA,ae];rfl
theorem MP {α:Type} (p:α->Bool) (l:List α):(!l.any fun t=> !p t)=l.all p:=by
 induction l with
 |nil=>rfl
 |cons x l ih=>simp only[List.any_cons,List.all_cons,<-ih];cases p x<;>simp
theorem nj (s:aO) (l:List aa) (hn:j7 s) (hg:s.dx.length<=1048576) (ht:s.ay.length<=1048576) (hs:∀t∈s.ay,t.eD.length<=1048576) (hl:l.length<=1048576):az Tryz.prog 72 [.agg (aj s),.agg [.sl (l.map ai)]] (.bool (s7 s&&xX s l)):=by
 refine az.body fC rfl fun hl n0=>?_
 clear hl
 have h1:=DK s hn hg ht hs
 have h2:=Hn l
 have h3:=OO s l ht hl
 rw[aj]at h1 h3
 cases b1:s7 s
 ·rw[b1]at h1
  (repeat(first|((repeat(revert hN;revert N;apply Pn.out));refine wk @aj.eq_1 ?_;(repeat(refine Pn.mk ?_;intro N hN)))|((try apply Or.inl);refine⟨_,az.x (h1) (sd @aj.eq_1),?_⟩;refine hN _ _ ?_;clear hN N)))
  exact dQ (b:=false) (.inl rfl) (sd @Nat.zero_add) rfl
 rw[b1]at h1
 cases b2:q9 l
 ·rw[b2]at h2
  (repeat(first|((repeat(revert hN;revert N;apply Pn.out));refine wk @aj.eq_1 ?_;(repeat(refine Pn.mk ?_;intro N hN)))|((try apply Or.inl);refine⟨_,az.x (h1) (sd @aj.eq_1),?_⟩;refine hN _ _ ?_;clear hN N)|((try apply Or.inl);refine⟨_,az.x (h2) (sd @aj.eq_1),?_⟩;refine hN _ _ ?_;clear hN N)))
  exact dQ (b:=false) (.inl rfl) (sd @Nat.zero_add) (by rw[xX,b2];rfl)
 rw[b2]at h2
 (repeat(first|((repeat(revert hN;revert N;apply Pn.out));refine wk @aj.eq_1 ?_;(repeat(refine Pn.mk ?_;intro N hN)))|((try apply Or.inl);refine⟨_,az.x (h1) (sd @aj.eq_1),?_⟩;refine hN _ _ ?_;clear hN N)|((try apply Or.inl);refine⟨_,az.x (h2) (sd @aj.eq_1),?_⟩;refine hN _ _ ?_;clear hN N)|((try apply Or.inl);refine⟨_,az.x (h3) (sd @aj.eq_1),?_⟩;refine hN _ _ ?_;clear hN N)))
 exact dQ (b:= !(l.any fun t=> !eA s t.cK)) (.inl rfl) (sd @Nat.zero_add) (by rw[MP,xX,b2];rfl)
end Go.Proofs.YtalkncaokeaifaaGreatDoor.V

namespace Go.Proofs.YtalkncaokeaifaaGreatDoor.V
open Go.RowKit
variable {P:Program} {X:fW} {K:Env->au->Prop} {env:Env} {σ:au}
end Go.Proofs.YtalkncaokeaifaaGreatDoor.V

namespace Go.Proofs.YtalkncaokeaifaaGreatDoor.V
open Go.RowKit
section
variable {α:Type} {enc:α->List AV} {sz:Nat} {g g':Rows} {a:AV} {xs:List α} {ids:List Id}
end
abbrev IZ (α:Type):=Rows->List AV->α->List Id->Prop
structure I0 {α:Type} (R:IZ α) (sz:Nat):Prop where
 frame:∀{g g':Rows} {cs x ids},R g cs x ids->(∀i∈ids,g' i=g i)->R g' cs x ids
 len:∀{g cs x ids},R g cs x ids->cs.length=sz
 cell:∀{g cs x ids},R g cs x ids->cs.all AV.cell=true
 live:∀{g cs x ids},R g cs x ids->∀i∈ids,∃r,g i=some r/\r.w=true/\r.sz<EN
 small:sz<EN
inductive fH {α:Type} (R:IZ α) (g:Rows):List (List AV)->List α->List Id->Prop
 |nil:fH R g [] [] []
 |cons {cs x i1 rs xs i2}:R g cs x i1->fH R g rs xs i2->fH R g (cs::rs) (x::xs) (i1++i2)
section
variable {α:Type} {R:IZ α} {sz:Nat} {g g':Rows} {rows r1 r2:List (List AV)} {xs x1 x2:List α} {ids i1 i2:List Id}
theorem fH.len (h:fH R g rows xs ids):rows.length=xs.length:=by
 induction h with
 |nil=>rfl
 |cons _ _ ih=>simp[ih]
theorem fH.frame (ok:I0 R sz) (h:fH R g rows xs ids) (hf:∀i∈ids,g' i=g i):fH R g' rows xs ids:=by
 induction h with
 |nil=>exact .nil
 |cons h1 _ ih=>exact .cons (ok.frame h1 fun i hi=>hf i (List.mem_append_left _ hi)) (ih fun i hi=>hf i (List.mem_append_right _ hi))
theorem fH.app (h1:fH R g r1 x1 i1) (h2:fH R g r2 x2 i2):fH R g (r1++r2) (x1++x2) (i1++i2):=by
 induction h1 with
 |nil=>exact h2
 |cons h _ ih=>rw[List.append_assoc];exact .cons h ih
theorem fH.one {cs:List AV} {x:α} (h:R g cs x ids):fH R g [cs] [x] ids:=by
 have:=fH.cons h fH.nil
 rwa [List.append_nil]at this
theorem fH.split (h:fH R g rows xs ids):∀k (hk:k<xs.length),∃r1 cs r2 i1 ic i2,rows=r1++cs::r2/\r1.length=k/\ids=i1++(ic++i2)/\fH R g r1 (xs.take k) i1/\R g cs xs[k] ic/\fH R g r2 (xs.drop (k+1)) i2:=by
 induction h with
 |nil=>intro k hk;simp at hk
 |cons h1 h2 ih=>
  rename_i cs x j1 rs xs j2
  intro k hk
  cases k with
  |zero=>exact⟨[],cs,rs,[],j1,j2,rfl,rfl,rfl,.nil,h1,h2⟩
  |succ k=>
   obtain⟨r1,qT,r2,i1,ic,i2,rfl,hl,rfl,h3,h4,h5⟩:=ih k (by simpa using hk)
   exact⟨cs::r1,qT,r2,j1++i1,ic,i2,rfl,by simp[hl],by rw[List.append_assoc],.cons h1 h3,h4,h5⟩
end
section
variable {α:Type} {R:IZ α} {sz:Nat} {g g':Rows} {a:AV} {xs:List α} {ids:List Id}
end
variable {P:Program} {X:fW} {K:Env->au->Prop} {env:Env} {σ:au}
section
variable {α:Type} {enc:α->List AV} {sz:Nat} {x:AV} {g g':Rows} {S:Id->Prop} {L L':List α}
end
theorem dU {a b:Id} (h:a.cV<b.cV):(a=b)=False/\(b=a)=False:=by
 constructor<;>(simp only[eq_iff_iff,iff_false];rintro rfl;omega)
theorem Gy {o:Id} {a:Nat} (h:o.site=a) {b v:Nat} (rj:(a==b)=false):(o=⟨b,v⟩)=False:=by
 simp only[eq_iff_iff,iff_false]
 rintro rfl
 simp only at h
 subst h
 simp at rj
def eN (n:Nat):List AV:=[.int .i64 n]
theorem Tw (g:Rows) (n:Nat) (a:Nat):eU g (n+1) (eN a)=some (eN a):=by simp[eN,cQ,dD,eV]
def Xd:IZ (List Nat):=fun g cs x ids=>∃id,cs=[.own id 0 x.length]/\g id=some ⟨true,1,x.map eN⟩/\ids=[id]
theorem Vb:I0 Xd 1 where
 frame:=fun⟨id,h1,h2,h3⟩ hf=>by subst h3;exact⟨id,h1,(hf id (by simp)).trans h2,rfl⟩
 len:=fun⟨id,h1,_⟩=>by subst h1;rfl
 cell:=fun⟨id,h1,_⟩=>by subst h1;rfl
 live:=fun⟨id,h1,h2,h3⟩ i hi=>by
  subst h3
  have:i=id:=by simpa using hi
  subst this
  exact⟨_,h2,rfl,by simp[EN]⟩
 small:=by simp[EN]
def JG (l:List Nat):List AV:=[.sl (l.map eN)]
theorem RE {g:Rows} {rows:List (List AV)} {xs:List (List Nat)} {ids:List Id} (n:Nat) (h:fH Xd g rows xs ids):fS g (n+2) rows=some (xs.map JG):=by
 induction h with
 |nil=>rw[fS];rfl
 |cons h1 _ ih=>
  obtain⟨id,rfl,h2,_⟩:=h1
  rw[fS,ih,cQ,dD,eT (e:=eN) (sz:=1) h2 rfl fun a=>Tw g n a];rfl
end Go.Proofs.YtalkncaokeaifaaGreatDoor.V

namespace Go.Proofs.YtalkncaokeaifaaGreatDoor.V
def bi (b:Bool):Int:=if b then 1 else 0
def o9 (f:Nat->Int):Nat->Int
 |0=>0
 |n+1=>o9 f n+f n
theorem jK {f g:Nat->Int}:∀{n:Nat},(∀i,i<n->f i=g i)->o9 f n=o9 g n
 |0,_=>rfl
 |n+1,h=>by
  simp only[o9]
  rw[jK fun i hi=>h i ab,h n ab]
theorem Bh {f g:Nat->Int}:∀{n:Nat},(∀i,i<n->f i<=g i)->o9 f n<=o9 g n
 |0,_=>Int.le_refl _
 |n+1,h=>by
  simp only[o9]
  have:=Bh (n:=n) fun i hi=>h i ab
  have:=h n ab
  omega
theorem mo:∀{n:Nat} {f:Nat->Int},(∀i,i<n->f i=0)->o9 f n=0
 |0,_,_=>rfl
 |n+1,f,h=>by
  simp only[o9]
  rw[mo fun i hi=>h i ab,h n ab];rfl
theorem tg {f:Nat->Int} {a:Nat} {d:Int}:∀n,o9 (fun i=>f i+if i=a then d else 0) n=o9 f n+if a<n then d else 0
 |0=>by simp[o9]
 |n+1=>by
  simp only[o9]
  rw[tg n]
  by_cases h:n=a
  ·subst h;simp;omega
  ·rw[if_neg h]
   by_cases h2:a<n
   ·rw[if_pos h2,if_pos ab];omega
   ·rw[if_neg h2,if_neg ab];omega
def lZ (n:Nat) (S:Nat->Bool) (f:Nat->Nat->Int):Int:=o9 (fun u=>o9 (fun v=>if S u&& !S v then f u v else 0) n) n
def bump (f:Nat->Nat->Int) (a b:Nat) (d:Int):Nat->Nat->Int:=fun u v=>f u v+if u=a/\v=b then d else 0
theorem pg {n:Nat} {S:Nat->Bool} {f:Nat->Nat->Int} {a b:Nat} {d:Int} (ha:a<n) (hb:b<n):lZ n S (bump f a b d)=lZ n S f+if S a&& !S b then d else 0:=by
 unfold lZ
 have h1:∀u,u<n->o9 (fun v=>if S u&& !S v then bump f a b d u v else 0) n=o9 (fun v=>if S u&& !S v then f u v else 0) n+if u=a then(if S a&& !S b then d else 0)else 0:=by
  intro u hu
  by_cases h:u=a
  ·subst h
   have h2:∀v,v<n->(if S u&& !S v then bump f u b d u v else 0)=(fun v=>if S u&& !S v then f u v else 0) v+if v=b then(if S u&& !S b then d else 0)else 0:=by
    intro v hv
    unfold bump
    by_cases h3:v=b
    ·subst h3;simp only[and_self,if_true];split<;>omega
    ·simp only[h3,and_false,if_false];split<;>omega
   rw[jK h2,tg,if_pos hb,if_pos rfl]
  ·rw[if_neg h,Int.add_zero]
   refine jK fun v hv=>?_
   unfold bump
   simp[h]
 rw[jK h1,tg,if_pos ha]
theorem M9 {n:Nat} {S:Nat->Bool} {f c:Nat->Nat->Int} (h:∀u v,u<n->v<n->f u v<=c u v):lZ n S f<=lZ n S c:=
 Bh fun u hu=>Bh fun v hv=>by split;exact h u v hu hv;exact Int.le_refl _
theorem M8 {n:Nat} {S:Nat->Bool} {f c:Nat->Nat->Int} (h:∀u v,u<n->v<n->S u=true->S v=false->f u v=c u v):lZ n S f=lZ n S c:=
 jK fun u hu=>jK fun v hv=>by
  split
  ·rename_i hc
   simp only[Bool.and_eq_true,Bool.not_eq_true']at hc
   exact h u v hu hv hc.1 hc.2
  ·rfl
def j6 (f:Nat->Nat->Int) (a b:Nat):Nat->Nat->Int:=bump (bump f a b 1) b a (-1)
theorem G9 {n:Nat} {S:Nat->Bool} {f:Nat->Nat->Int} {a b:Nat} (ha:a<n) (hb:b<n):lZ n S (j6 f a b)=lZ n S f+bi (S a)-bi (S b):=by
 unfold j6
 rw[pg hb ha,pg ha hb]
 cases S a<;>cases S b<;>simp[bi]<;>omega
def lU (f:Nat->Nat->Int):List Nat->Nat->Nat->Int
 |a::b::r=>lU (j6 f a b) (b::r)
 |_=>f
def qI (f c:Nat->Nat->Int):List Nat->Prop
 |a::b::r=>f a b<c a b/\qI f c (b::r)
 |_=>True
theorem BF {n:Nat} {S:Nat->Bool}:∀(r:List Nat) (a:Nat) (f:Nat->Nat->Int),(∀x∈a::r,x<n)->lZ n S (lU f (a::r))=lZ n S f+bi (S a)-bi (S ((a::r).getLast (by simp)))
 |[],a,f,_=>by simp[lU]
 |b::r,a,f,h=>by
  rw[lU,BF r b (j6 f a b) fun x hx=>h x (List.mem_cons_of_mem _ hx),G9 (h a (by simp)) (h b (by simp)),List.getLast_cons_cons]
  generalize bi (S b)=q
  omega
theorem qI.less {f g c:Nat->Nat->Int}:∀{p:List Nat},qI f c p->(∀u,u∈p->∀v,g u v<=f u v)->qI g c p
 |[],_,_=>trivial
 |[_],_,_=>trivial
 |a::b::r,h,hl=>⟨Int.lt_of_le_of_lt (hl a (by simp) b) h.1,qI.less (p:=b::r) h.2 fun u hu=>hl u (List.mem_cons_of_mem _ hu)⟩
theorem FG {n:Nat} {c:Nat->Nat->Int}:∀(p:List Nat) (f:Nat->Nat->Int),p.Nodup->qI f c p->(∀u v,u<n->v<n->f u v<=c u v)->∀u v,u<n->v<n->lU f p u v<=c u v
 |[],f,_,_,h=>h
 |[_],f,_,_,h=>h
 |a::b::r,f,hn,hr,h=>by
  rw[lU]
  have rj:a∉b::r:=(List.nodup_cons.1 hn).1
  refine FG (b::r) _ (List.nodup_cons.1 hn).2 (hr.2.less fun u hu v=>?_) fun u v hu hv=>?_
  ·unfold j6 bump
   have:u≠a:=by rintro rfl;exact rj hu
   simp only[this,false_and,if_false]
   split<;>omega
  ·have h0:=h u v hu hv
   have h1:=hr.1
   unfold j6 bump
   by_cases e:u=a/\v=b
   ·obtain⟨rfl,rfl⟩:=e
    rw[if_pos ⟨rfl,rfl⟩];split<;>omega
   ·rw[if_neg e];split<;>omega
structure nh (n:Nat) (c f:Nat->Nat->Int) (x y:Nat) (val:Int):Prop where
 le:∀u v,u<n->v<n->f u v<=c u v
 cut:∀S:Nat->Bool,S x=true->S y=false->lZ n S f=val
theorem nh.zero {n:Nat} {c:Nat->Nat->Int} {x y:Nat} (h:∀u v,u<n->v<n->0<=c u v):nh n c (fun _ _=>0) x y 0:=
 ⟨h,fun S _ _=>mo fun u hu=>mo fun v hv=>by split<;>rfl⟩
theorem nh.aug {n:Nat} {c f:Nat->Nat->Int} {x y:Nat} {val:Int} (h:nh n c f x y val) {r:List Nat} (hl:(x::r).getLast (by simp)=y) (hn:(x::r).Nodup) (hr:qI f c (x::r)) (hb:∀v∈x::r,v<n):nh n c (lU f (x::r)) x y (val+1):=
 ⟨FG _ _ hn hr h.le,fun S hx hy=>by rw[BF r x f hb,hl,h.cut S hx hy,hx,hy];simp[bi]⟩
theorem nh.bound {n:Nat} {c f:Nat->Nat->Int} {x y:Nat} {val:Int} (h:nh n c f x y val) {S:Nat->Bool} (hx:S x=true) (hy:S y=false):val<=lZ n S c:=by
 rw[<-h.cut S hx hy];exact M9 h.le
theorem nh.full {n:Nat} {c f:Nat->Nat->Int} {x y:Nat} {val:Int} (h:nh n c f x y val) {S:Nat->Bool} (hx:S x=true) (hy:S y=false) (hS:∀u v,u<n->v<n->S u=true->S v=false->¬f u v<c u v):val=lZ n S c:=by
 rw[<-h.cut S hx hy]
 exact M8 fun u v hu hv h1 h2=>by have:=hS u v hu hv h1 h2;have:=h.le u v hu hv;omega
structure PB where
 a:Nat
 b:Nat
 s:Int
 deriving Inhabited
def DW (S:Nat->Bool) (bs:List PB):Int:=(bs.map fun b=>if S b.a=S b.b then 0 else b.s).sum
def nG (c:Nat->Nat->Int) (b:PB):Nat->Nat->Int:=bump (bump c b.a b.b b.s) b.b b.a b.s
def kR (bs:List PB):Nat->Nat->Int:=bs.foldl nG fun _ _=>0
theorem Fa (bs:List PB) (b:PB):kR (bs++[b])=nG (kR bs) b:=by simp[kR]
theorem BV {n:Nat} {S:Nat->Bool}:∀(bs:List PB) (c:Nat->Nat->Int),(∀b∈bs,b.a<n/\b.b<n)->lZ n S (bs.foldl nG c)=lZ n S c+DW S bs
 |[],c,_=>by simp[DW]
 |b::bs,c,h=>by
  have hb:=h b (by simp)
  rw[List.foldl_cons,BV bs _ fun x hx=>h x (List.mem_cons_of_mem _ hx)]
  unfold nG DW
  rw[pg hb.2 hb.1,pg hb.1 hb.2,List.map_cons,List.sum_cons]
  cases S b.a<;>cases S b.b<;>simp<;>omega
theorem BW {n:Nat} {S:Nat->Bool} {bs:List PB} (h:∀b∈bs,b.a<n/\b.b<n):lZ n S (kR bs)=DW S bs:=by
 rw[kR,BV bs _ h]
 have:lZ n S (fun _ _=>0)=0:=mo fun u hu=>mo fun v hv=>by split<;>rfl
 omega
theorem A8:∀(bs:List PB) (c:Nat->Nat->Int),(∀b∈bs,0<=b.s)->(∀u v,0<=c u v)->∀u v,0<=bs.foldl nG c u v
 |[],c,_,h=>h
 |b::bs,c,hb,h=>by
  rw[List.foldl_cons]
  refine A8 bs _ (fun x hx=>hb x (List.mem_cons_of_mem _ hx)) fun u v=>?_
  have:=hb b (by simp);have:=h u v
  unfold nG bump
  split<;>split<;>omega
theorem room_le:∀(bs:List PB) (c:Nat->Nat->Int) (m:Int),(∀b∈bs,b.s<=4)->(∀u v,c u v<=m)->0<=m->∀u v,bs.foldl nG c u v<=m+8*bs.length
 |[],c,m,_,h,_=>fun u v=>by have:=h u v;simp;omega
 |b::bs,c,m,hb,h,h0=>fun u v=>by
  rw[List.foldl_cons]
  have:=room_le bs (nG c b) (m+8) (fun x hx=>hb x (List.mem_cons_of_mem _ hx)) (fun u v=>by
   have:=hb b (by simp);have:=h u v
   unfold nG bump
   split<;>split<;>omega) ab u v
  simp only[List.length_cons];omega
def sv (n:Nat) (bs:List PB) (t:Int):Prop:=∀S:Nat->Bool,S 0=true->(∃y,y<n/\S y=false)->t<=DW S bs
theorem rO:∀(n:Nat) (l:List Nat),l.Nodup->(∀x∈l,x<n)->l.length<=n
 |0,l,_,h=>by
  cases l with
  |nil=>simp
  |cons x l=>exact absurd (h x (by simp)) ab
 |n+1,l,hn,h=>by
  have h1:=rO n (l.erase n) (hn.erase _) fun x hx=>by
   have h2:=(hn.mem_erase_iff).1 hx
   have h3:=h x h2.2
   have h4:=h2.1
   omega
  rw[List.length_erase]at h1
  split at h1<;>omega
def jn (L:Nat->Nat) (b:PB):Nat->Nat:=fun k=>if L k=max (L b.a) (L b.b)then min (L b.a) (L b.b)else L k
def fP (bs:List PB):Nat->Nat:=bs.foldl jn id
theorem EG (bs:List PB) (b:PB):fP (bs++[b])=jn (fP bs) b:=by simp[fP]
structure jN (L:Nat->Nat):Prop where
 le:∀k,L k<=k
 idem:∀k,L (L k)=L k
theorem jN.step {L:Nat->Nat} (h:jN L) (b:PB):jN (jn L b):=by
 have ha:=h.idem b.a
 have hb:=h.idem b.b
 refine⟨fun k=>?_,fun k=>?_⟩
 ·have:=h.le k
  unfold jn
  split<;>omega
 ·have hk:=h.idem k
  have hm:L (min (L b.a) (L b.b))=min (L b.a) (L b.b):=by
   rcases Nat.le_total (L b.a) (L b.b)with h1|h1
   ·rw[Nat.min_eq_left h1,ha]
   ·rw[Nat.min_eq_right h1,hb]
  unfold jn
  by_cases h1:L k=max (L b.a) (L b.b)
  ·rw[if_pos h1,hm];split<;>rfl
  ·rw[if_neg h1,hk,if_neg h1]
theorem wD:∀(bs:List PB) (L:Nat->Nat),jN L->jN (bs.foldl jn L)
 |[],_,h=>h
 |b::bs,L,h=>wD bs _ (h.step b)
theorem CE (bs:List PB):jN (fP bs):=wD bs id ⟨fun _=>Nat.le_refl _,fun _=>rfl⟩
def leads (n:Nat) (L:Nat->Nat):List Nat:=(List.range n).filter fun i=>L i==i
def members (n:Nat) (L:Nat->Nat) (i:Nat):List Nat:=(List.range n).filter fun k=>L k==i
def iJ (n:Nat) (L:Nat->Nat):List (List Nat):=(leads n L).map (members n L)
def dR (L:Nat->Nat) (k:Nat):Nat:=(leads (L k) L).length
theorem iu (n:Nat) (L:Nat->Nat):leads (n+1) L=leads n L++if L n=n then[n]else[]:=by
 unfold leads
 rw[List.range_succ,List.filter_append]
 congr 1
 by_cases h:L n=n<;>simp[h]
theorem kc (n:Nat) (L:Nat->Nat) (i:Nat):members (n+1) L i=members n L i++if L n=i then[n]else[]:=by
 unfold members
 rw[List.range_succ,List.filter_append]
 congr 1
 by_cases h:L n=i<;>simp[h]
theorem AQ {L:Nat->Nat} (h:jN L) {n i:Nat} (hn:n<=i):members n L i=[]:=by
 unfold members
 rw[List.filter_eq_nil_iff]
 intro k hk
 have:=h.le k
 have:=List.mem_range.1 hk
 simp;omega
theorem tV (n:Nat) (L:Nat->Nat):(leads n L).Nodup:=List.nodup_range.filter _
theorem zk {n:Nat} {L:Nat->Nat} {i:Nat}:i∈leads n L↔i<n/\L i=i:=by simp[leads]
theorem oK {n:Nat} {L:Nat->Nat} {i k:Nat}:k∈members n L i↔k<n/\L k=i:=by simp[members]
theorem HL {L:Nat->Nat} {m n:Nat} (h:m<=n):∃r,leads n L=leads m L++r:=by
 obtain⟨d,rfl⟩:=Nat.le.dest h
 clear h
 induction d with
 |zero=>exact⟨[],by simp⟩
 |succ d ih=>
  obtain⟨r,hr⟩:=ih
  exact⟨r++if L (m+d)=m+d then[m+d]else[],by rw[<-Nat.add_assoc,iu,hr,List.append_assoc]⟩
theorem pr {L:Nat->Nat} (h:jN L) {n k:Nat} (hk:k<n):(leads n L)[dR L k]? =some (L k):=by
 have h1:=h.le k
 obtain⟨r,hr⟩:=HL (L:=L) (show L k+1<=n by omega)
 rw[hr,iu,if_pos (h.idem k),List.append_assoc]
 unfold dR
 rw[List.getElem?_append_right (Nat.le_refl _),Nat.sub_self];rfl
theorem oL {L:Nat->Nat} (h:jN L) {n k:Nat} (hk:k<n):dR L k<(leads n L).length:=(List.getElem?_eq_some_iff.1 (pr h hk)).1
theorem zx {L:Nat->Nat} (h:jN L) {n k i:Nat} (hk:k<n) (hi:i<(leads n L).length):k∈members n L (leads n L)[i]↔dR L k=i:=by
 rw[oK]
 have h1:=pr h hk
 rw[List.getElem?_eq_getElem (oL h hk)]at h1
 injection h1 with h1
 constructor
 ·rintro⟨_,h2⟩
  rw[<-h1]at h2
  exact(List.getElem_inj (tV n L)).1 h2
 ·rintro rfl
  exact⟨hk,h1.symm⟩
def ee (L:Nat->Nat) (bs:List PB):List PB:=bs.filterMap fun b=>if dR L b.a=dR L b.b then none else some ⟨dR L b.a,dR L b.b,b.s⟩
def OE (L:Nat->Nat) (bs:List PB):List PB:=bs.filterMap fun b=>if dR L b.a=dR L b.b then none else some ⟨min (dR L b.a) (dR L b.b),max (dR L b.a) (dR L b.b),b.s⟩
theorem Bc (L:Nat->Nat) (bs:List PB) (b:PB):ee L (bs++[b])=ee L bs++if dR L b.a=dR L b.b then[]else[⟨dR L b.a,dR L b.b,b.s⟩]:=by
 unfold ee
 rw[List.filterMap_append]
 congr 1
 by_cases h:dR L b.a=dR L b.b<;>simp[h]
theorem Fg {L:Nat->Nat} (h:jN L) {n:Nat} {bs:List PB} (hb:∀b∈bs,b.a<n/\b.b<n):∀b∈ee L bs,b.a<(leads n L).length/\b.b<(leads n L).length/\b.a≠b.b/\∃c∈bs,b.s=c.s:=by
 intro b hm
 unfold ee at hm
 obtain⟨c,hc,he⟩:=List.mem_filterMap.1 hm
 split at he
 ·cases he
 ·rename_i gZ
  simp only[Option.some.injEq]at he
  subst he
  exact⟨oL h (hb c hc).1,oL h (hb c hc).2,gZ,c,hc,rfl⟩
theorem xx (L:Nat->Nat) (bs:List PB):(ee L bs).length<=bs.length/\(OE L bs).length<=bs.length:=⟨List.length_filterMap_le ..,List.length_filterMap_le ..⟩
theorem l6 (n:Nat) (L:Nat->Nat):(leads n L).length<=n:=by
 have:=List.length_filter_le (fun i=>L i==i) (List.range n)
 simpa[leads]using this
def cF (t:Int) (bs:List PB):List PB:=bs.filter fun b=>decide (t<=b.s)
def mH (n:Nat) (bs:List PB) (t:Int):Prop:=
 (leads n (fP (cF t bs))).length<=64/\sv (leads n (fP (cF t bs))).length (ee (fP (cF t bs)) bs) t
end Go.Proofs.YtalkncaokeaifaaGreatDoor.V

namespace Go.Proofs.YtalkncaokeaifaaGreatDoor.V
open Go.RowKit
attribute [local irreducible] dH wpOps eB Call
attribute [local go_sem] ax eo dS ez ev cZ upd bD K.av bR AV.cells AV.cell rowOf rowsOf part ld rowAt eL bz bx cW dj eO bf cC dw er ea cR dq cw cu da db bp aI bZ bj ck cj dn dr dp bW br cz dm bh ar cq bH eM aT bL bq aH cU aQ cX AV.undef aW bd de di cY c6 bJ dv dy bE du dt cm cr List.getD_cons_zero List.getD_cons_succ List.getD_nil List.all_cons List.all_nil Bool.and_true Bool.true_and Bool.and_self Bool.not_true Bool.not_false Option.map_some Option.map_none Option.bind_some Option.bind_none List.length_cons List.length_nil List.take_succ_cons List.take_zero List.take_nil List.drop_succ_cons List.drop_zero List.drop_nil List.head?_cons List.map_cons List.map_nil List.getElem?_cons_zero List.getElem?_cons_succ List.cons_append List.nil_append List.append_nil List.length_map List.set_cons_zero List.set_cons_succ Nat.reduceMul eq_self Int.toNat_natCast Int.natCast_nonneg and_self true_and and_true decide_true decide_false Bool.false_eq_true Nat.zero_add Nat.add_zero List.contains_cons List.contains_nil Bool.or_false Bool.false_or beq_self_eq_true Nat.reduceBEq ne_eq not_true_eq_false not_false_eq_true Id.mk.injEq false_and and_false Nat.reduceLT Int.reduceLE Int.reduceLT Int.reduceToNat Int.reduceNeg Int.reduceAdd Nat.le_refl List.length_append beq_true beq_false Bool.not_eq_eq_eq_not or_false false_or dX ad ae aP aJ bt bI aD aS aA aL bU aZ
def dz (b:PB):List AV:=[.int .i64 b.a,.int .i64 b.b,.int .i64 b.s]
theorem V8:∀b:PB,(dz b).length=3/\(dz b).all AV.cell=true:=fun _=>⟨rfl,rfl⟩
theorem Ee (g:Rows) (n:Nat) (b:PB):ek g (n+1) (dz b)=some (dz b):=by simp[dz,ad,ae,aP]
theorem FZ (g:Rows) (n:Nat) (b:PB):eU g (n+1) (dz b)=some (dz b):=by simp[dz,cQ,dD,eV]
theorem JJ:S5 dz (fun c=>.agg (dz c)) 3 true:=⟨fun _=>rfl,fun _=>rfl,fun x g=>by simp only[dz,ad,ae,aS,aP,Option.map_some]⟩
def lH (s:aO) (l:List aa) (i:Nat) (d:Int):List PB:=
 if 0<=ew l (cN (cP l i).bQ d)/\0<fX s (cP l i).cK d (cP l (ew l (cN (cP l i).bQ d)).toNat).cK then
  [⟨i,(ew l (cN (cP l i).bQ d)).toNat,fX s (cP l i).cK d (cP l (ew l (cN (cP l i).bQ d)).toNat).cK⟩]else[]
def ig (s:aO) (l:List aa) (i m:Nat):List PB:=(List.range m).flatMap fun j:Nat=>lH s l i (1-(j:Int))
def lf (s:aO) (l:List aa) (n:Nat):List PB:=(List.range n).flatMap fun i=>ig s l i 2
def dL (s:aO) (l:List aa):List PB:=lf s l l.length
theorem lF (s:aO) (l:List aa) (i m:Nat):ig s l i (m+1)=ig s l i m++lH s l i (1-(m:Int)):=by simp[ig,List.range_succ]
theorem Af (s:aO) (l:List aa) (n:Nat):lf s l (n+1)=lf s l n++ig s l n 2:=by simp[lf,List.range_succ]
theorem DS (s:aO) (l:List aa) (i:Nat) (d:Int):(lH s l i d).length<=1:=by unfold lH;split<;>simp
theorem Ae (s:aO) (l:List aa) (i m:Nat):(ig s l i m).length<=m:=by
 induction m with
 |zero=>simp[ig]
 |succ m ih=>rw[lF,List.length_append];have:=DS s l i (1-(m:Int));omega
theorem BJ (s:aO) (l:List aa) (n:Nat):(lf s l n).length<=2*n:=by
 induction n with
 |zero=>simp[lf]
 |succ n ih=>rw[Af,List.length_append];have:=Ae s l n 2;omega
def ga (f:Nat->Nat) (n:Nat):List (List AV):=(List.range n).map fun i=>eN (f i)
theorem js (f:Nat->Nat) (n:Nat):(ga f n).length=n:=by simp[ga]
theorem iP {f:Nat->Nat} {n i:Nat} (h:i<n):(ga f n)[i]? =some (eN (f i)):=by simp[ga,h]
theorem kj {f g:Nat->Nat} {n:Nat} (h:∀i,i<n->f i=g i):ga f n=ga g n:=List.map_congr_left fun i hi=>by rw[h i (List.mem_range.1 hi)]
theorem uS {f g:Nat->Nat} {n k v:Nat} (hk:k<n) (hv:g k=v) (h:∀i,i<n->i≠k->g i=f i):(ga f n).set k (eN v)=ga g n:=by
 refine List.ext_getElem? fun i=>?_
 rw[List.getElem?_set]
 by_cases hi:k=i
 ·subst hi
  rw[if_pos rfl,js,if_pos hk,iP hk,hv]
 ·rw[if_neg hi]
  by_cases im:i<n
  ·rw[iP im,iP im,h i im (fun h=>hi h.symm)]
  ·rw[List.getElem?_eq_none (by rw[js];omega),List.getElem?_eq_none (by rw[js];omega)]
theorem Dg (n:Nat):List.replicate n [AV.int .i64 0]=ga (fun _=>0) n:=by
 refine List.ext_getElem? fun i=>?_
 by_cases h:i<n
 ·rw[iP h,List.getElem?_replicate,if_pos h];rfl
 ·rw[List.getElem?_eq_none (by simp;omega),List.getElem?_eq_none (by rw[js];omega)]
def eu (cnt:Nat) (L:Nat->Nat) (i m:Nat):Nat->Nat:=fun x=>if dR L x<i then dR L x else if x∈(members cnt L ((leads cnt L).getD i 0)).take m then i else 0
theorem tY (cnt:Nat) (L:Nat->Nat):eu cnt L 0 0=fun _=>0:=by funext x;simp[eu]
theorem De (t:Int) (bs:List PB) (k:Nat) (h:k<bs.length):cF t (bs.take (k+1))=cF t (bs.take k)++if t<=(bs[k]).s then[bs[k]]else[]:=by
 unfold cF
 rw[List.take_succ_eq_append_getElem h,List.filter_append]
 congr 1
 by_cases h:t<=bs[k].s<;>simp[h]
theorem Fs {t:Int} {bs:List PB} {b:PB} (h:b∈cF t bs):b∈bs:=(List.mem_filter.1 h).1
theorem xD (t:Int) (bs:List PB):(cF t bs).length<=bs.length:=List.length_filter_le _ _
end Go.Proofs.YtalkncaokeaifaaGreatDoor.V

namespace Go.Proofs.YtalkncaokeaifaaGreatDoor.V
section
variable {cnt:Nat} {bs:List PB} {f:Nat->Int} {y:Nat} {out:Nat->Int} {Q:List Nat} {i:Nat}
end
end Go.Proofs.YtalkncaokeaifaaGreatDoor.V

namespace Go.Proofs.YtalkncaokeaifaaGreatDoor.V
open Go.RowKit
def AV.clean:AV->Bool
 | .int .. | .bool _| .str _| .bP| .gQ| .iS| .jf| .iF| .own .. | .ptr .. | .map .. | .qR _=>true
 | .sl l=>l.isEmpty
 |_=>false
def AV.Ak:AV->Bool
 | .agg cs=>cs.all AV.clean
 | .fN cs=>cs.all fun a=>match a with
  | .agg cs=>cs.all AV.clean
  |a=>a.clean
 |a=>a.clean
def r8 (ids:List Id) (g g':Rows):Rows:=fun id=>if id∈ids then g' id else g id
theorem pa {ids:List Id} {g g':Rows} {id:Id} (h:id∈ids):r8 ids g g' id=g' id:=if_pos h
theorem zQ {ids:List Id} {g g':Rows} {id:Id} (h:id∉ids):r8 ids g g' id=g id:=if_neg h
section
variable {P:Program} {w w':World} {D D' D1 D2:Nat->Prop} {ι ι1 ι2:Names}
theorem jI {a:AV} {v:Value} (hp:a.clean=true) (h:dE P w D1 ι1 a v):dE P w D2 ι1 a v:=by
 cases h with
 |eE a v h=>
  cases h with
  |int=>exact .eE _ _ (.int _ _)
  |bool=>exact .eE _ _ (.bool _)
  |str=>exact .eE _ _ (.str _)
  |bP=>exact .eE _ _ .bP
  |gQ=>exact .eE _ _ .gQ
  |iS=>exact .eE _ _ .iS
  |jf=>exact .eE _ _ .jf
  |iF=>exact .eE _ _ .iF
  |err=>simp[AV.clean]at hp
  |Bd a c h=>exact .eE _ _ (.Bd a c h)
  |sl rows b o n c sz vs h1 h2 h3=>
   have:rows=[]:=by simpa[AV.clean]using hp
   subst this
   simp only[List.length_nil]at h1
   subst h1
   exact .eE _ _ (.Bd _ _ h3)
  |fe=>simp[AV.clean]at hp
  |agg=>simp[AV.clean]at hp
  |fn=>simp[AV.clean]at hp
 |own id off len o cap B h1 h2 h3 h4 h5 h6=>exact .own id off len o cap B h1 h2 h3 h4 h5 h6
 |map id m B h1 h2=>exact .map id m B h1 h2
 |qR id c B h1 h2=>exact .qR id c B h1 h2
 |ptr id i off B h1 h2=>exact .ptr id i off B h1 h2
 |agg=>simp[AV.clean]at hp
 |fN=>simp[AV.clean]at hp
 |fn=>simp[AV.clean]at hp
 |tX=>simp[AV.clean]at hp
theorem lK {cs:List AV} {v:Value} (hc:cs.all AV.clean=true) (h:dE P w D1 ι1 (.agg cs) v):dE P w D2 ι1 (.agg cs) v:=by
 obtain⟨vs,f,rfl,h1,h2,h3,h4⟩:=iy h
 rw[List.all_eq_true]at hc
 exact .agg cs vs f h1 h2 h3 fun j a ha=>jI (hc a (List.mem_of_getElem? ha)) (h4 j a ha)
theorem E7 {a:AV} {v:Value} (hp:a.Ak=true) (h:dE P w D1 ι1 a v):dE P w D2 ι1 a v:=by
 cases a with
 |agg cs=>exact lK hp h
 |fN cs=>
  obtain⟨vs,f,rfl,h1,h3,h4⟩:=uQ h
  simp only[AV.Ak,List.all_eq_true]at hp
  refine .fN cs vs f h1 h3 fun j a ha=>?_
  have:=hp a (List.mem_of_getElem? ha)
  split at this
  ·exact lK this (h4 j _ ha)
  ·exact jI this (h4 j _ ha)
 |_=>exact jI hp h
theorem EY {ag:Bool} {n:Nat} {cs:List AV} {x:AV} {v:Value} (hc:∀a∈cs,a.clean=true) (hp:part ag n cs=some x) (hr:dE P w D1 ι1 x v):dE P w D2 ι1 x v:=by
 unfold part at hp
 split at hp
 ·split at hp
  ·simp only[Option.some.injEq]at hp;subst hp
   exact lK (List.all_eq_true.2 fun a ha=>hc a (List.mem_of_mem_take ha)) hr
  ·cases hp
 ·exact jI (hc x (List.mem_of_mem_head? hp)) hr
theorem gC.clean {B:sr} {r:Row} (R:gC P w D1 ι1 B r) (h:∀cs∈r.rows,∀a∈cs,a.clean=true):gC P w D2 ι1 B r:=
 ⟨R.sz,R.flat,fun hk=>⟨R.sz,(R.row hk).si,(R.row hk).fits,(R.row hk).len,R.flat,fun i j cs a hi hj=>by
  obtain⟨v,q1,q2⟩:=(R.row hk).at_ i j cs a hi hj
  exact⟨v,q1,jI (h cs (List.mem_of_getElem? hi) a (List.mem_of_getElem? hj)) q2⟩⟩,fun m hm=>by
  obtain⟨h1,es,c,h2,h3,h5,h4⟩:=R.map m hm
  refine⟨h1,es,c,h2,h3,h5,fun i cs hi=>?_⟩
  obtain⟨e,kv,vv,q1,q2,q3,q4,q5⟩:=h4 i cs hi
  have hc:=h cs (List.mem_of_getElem? hi)
  exact⟨e,kv,vv,q1,q2,q3,EY hc q2 q4,jI (hc vv (List.mem_of_getElem? q3)) q5⟩,fun c hc=>by
  obtain⟨h1,buf,s,q,h2,h3,h4⟩:=R.chan c hc
  refine⟨h1,buf,s,q,h2,h3,fun i cs hi=>?_⟩
  obtain⟨a,u,rfl,q2,q3⟩:=h4 i cs hi
  exact⟨a,u,rfl,q2,jI (h [a] (List.mem_of_getElem? hi) a (by simp)) q3⟩⟩
def Handed (ids:List Id) (g:Rows):Prop:=∀id∈ids,∃r,g id=some r/\r.w=true/\∀cs∈r.rows,∀a∈cs,a.clean=true
end
end Go.Proofs.YtalkncaokeaifaaGreatDoor.V

namespace Go.Proofs.YtalkncaokeaifaaGreatDoor.V
open Go.RowKit
attribute [local irreducible] dH wpOps eB Call
attribute [local go_sem] ax eo dS ez ev cZ upd bD K.av bR AV.cells AV.cell rowOf rowsOf part ld rowAt eL bz bx cW dj eO bf cC dw er ea cR dq cw cu da db bp aI bZ bj ck cj dn dr dp bW br cz dm bh ar cq bH eM aT bL bq aH cU aQ cX AV.undef aW bd de di cY c6 bJ dv dy bE du dt cm cr List.getD_cons_zero List.getD_cons_succ List.getD_nil List.all_cons List.all_nil Bool.and_true Bool.true_and Bool.and_self Bool.not_true Bool.not_false Option.map_some Option.map_none Option.bind_some Option.bind_none List.length_cons List.length_nil List.take_succ_cons List.take_zero List.take_nil List.drop_succ_cons List.drop_zero List.drop_nil List.head?_cons List.map_cons List.map_nil List.getElem?_cons_zero List.getElem?_cons_succ List.cons_append List.nil_append List.append_nil List.length_map List.set_cons_zero List.set_cons_succ Nat.reduceMul eq_self Int.toNat_natCast Int.natCast_nonneg and_self true_and and_true decide_true decide_false Bool.false_eq_true Nat.zero_add Nat.add_zero List.contains_cons List.contains_nil Bool.or_false Bool.false_or beq_self_eq_true Nat.reduceBEq ne_eq not_true_eq_false not_false_eq_true Id.mk.injEq false_and and_false Nat.reduceLT Int.reduceLE Int.reduceLT Int.reduceToNat Int.reduceNeg Int.reduceAdd Nat.le_refl List.length_append beq_true beq_false Bool.not_eq_eq_eq_not or_false false_or dX ad ae aP aJ bt bI aD aS aA aL bU aZ
def lQ (P:Program) (f:Nat) (args:List AV) (R:AV->Prop):Prop:=∀n:Nat,Call P f args ⟨fun _=>none,n⟩ fun r0 σ'=>∃r',gx σ'.get 6 r0=some r'/\R r'
theorem Hj {P:Program} {f:Nat} {args args':List AV} {g:Rows} {n:Nat} {R:AV->Prop} (hv:ek (dX g) 6 args=some args') (h:Sound P f args' ⟨fun _=>none,n⟩ fun r0 σ'=>∃r',gx σ'.get 6 r0=some r'/\R r'):Sound P f args ⟨g,n⟩ fun r σ'=>R r/\σ'=⟨g,n⟩:=by
 intro hs D ι w vs S U A
 refine(yE (g0:=g) (K:=R) ⟨args',hv,h⟩ (fun _ _ h=>h) S U A).mono ?_
 rintro e w' ⟨r,D',u,rfl,hR,T,S',hr⟩
 exact⟨r,g,n,D',ι,u,rfl,⟨hR,rfl⟩,T,S',U,Nat.le_refl _,hr⟩
theorem lQ.x {P:Program} (hm:P.follows .mixedOrders=true) {f:Nat} {args args':List AV} {R:AV->Prop} (h:lQ P f args' R) {σ:au} (hv:ek (dX σ.get) 6 args=some args'):Call P f args σ fun r σ'=>R r/\σ'=σ:=
 fh (Hj hv (ij hm (h σ.next)))
theorem lQ.body {P:Program} {f:Nat} {args:List AV} {R:AV->Prop} {nt na:Nat} {body:VC} {res:List nZ} (hf:BN P f=some ⟨nt,na,body,res⟩) (ha:na=args.length) (h:(∀a∈args,e8 a)->∀n:Nat,dH (Call P) body (lL res fun r0 σ'=>∃r',gx σ'.get 6 r0=some r'/\R r') (bD args) ⟨fun _=>none,n⟩):lQ P f args R:=fun n=>pe hf ha fun hl=>h hl n
def gS (f:Nat->Int) (n:Nat):List (List AV):=(List.range n).map fun i=>ah (f i)
theorem fI (f:Nat->Int) (n:Nat):(gS f n).length=n:=by simp[gS]
theorem fQ {f:Nat->Int} {n i:Nat} (h:i<n):(gS f n)[i]? =some (ah (f i)):=by simp[gS,h]
theorem xG {f g:Nat->Int} {n k:Nat} {v:Int} (hk:k<n) (hv:g k=v) (h:∀i,i<n->i≠k->g i=f i):(gS f n).set k (ah v)=gS g n:=by
 refine List.ext_getElem? fun i=>?_
 rw[List.getElem?_set]
 by_cases hi:k=i
 ·subst hi
  rw[if_pos rfl,fI,if_pos hk,fQ hk,hv]
 ·rw[if_neg hi]
  by_cases im:i<n
  ·rw[fQ im,fQ im,h i im (fun h=>hi h.symm)]
  ·rw[List.getElem?_eq_none (by rw[fI];omega),List.getElem?_eq_none (by rw[fI];omega)]
theorem fzI (g:Rows) (n:Nat) (a:Int):ek g (n+1) (ah a)=some (ah a):=by simp[ah,ad,ae,aP]
theorem Ef (g:Rows) (n:Nat) (a:Int):eU g (n+1) (ah a)=some (ah a):=by simp[ah,cQ,dD,eV]
theorem OM {g:Rows} {f:Nat->Int} {n m:Nat}:fm g (m+1) (gS f n)=some (gS f n):=by
 have:gS f n=((List.range n).map f).map ah:=by simp[gS]
 rw[this];exact qh fun x=>fzI g m x
end Go.Proofs.YtalkncaokeaifaaGreatDoor.V

namespace Go.Proofs.YtalkncaokeaifaaGreatDoor.V
open Go.RowKit
attribute [local irreducible] dH wpOps eB Call
attribute [local go_sem] ax eo dS ez ev cZ upd bD K.av bR AV.cells AV.cell rowOf rowsOf part ld rowAt eL bz bx cW dj eO bf cC dw er ea cR dq cw cu da db bp aI bZ bj ck cj dn dr dp bW br cz dm bh ar cq bH eM aT bL bq aH cU aQ cX AV.undef aW bd de di cY c6 bJ dv dy bE du dt cm cr List.getD_cons_zero List.getD_cons_succ List.getD_nil List.all_cons List.all_nil Bool.and_true Bool.true_and Bool.and_self Bool.not_true Bool.not_false Option.map_some Option.map_none Option.bind_some Option.bind_none List.length_cons List.length_nil List.take_succ_cons List.take_zero List.take_nil List.drop_succ_cons List.drop_zero List.drop_nil List.head?_cons List.map_cons List.map_nil List.getElem?_cons_zero List.getElem?_cons_succ List.cons_append List.nil_append List.append_nil List.length_map List.set_cons_zero List.set_cons_succ eq_self Int.toNat_natCast Int.natCast_nonneg and_self true_and and_true decide_true decide_false Bool.false_eq_true Nat.zero_add Nat.add_zero List.contains_cons List.contains_nil Bool.or_false Bool.false_or beq_self_eq_true ne_eq not_true_eq_false not_false_eq_true Id.mk.injEq false_and and_false Nat.le_refl List.length_append beq_true beq_false Bool.not_eq_eq_eq_not or_false false_or dX ad ae aP aJ bt bI aD aS aA aL bU aZ
theorem fH.YZ {α:Type} {R:IZ α} {sz:Nat} {g:Rows} {rows:List (List AV)} {xs:List α} {ids:List Id} (ok:I0 R sz) (h:fH R g rows xs ids) (po:ids.Nodup) (k:Nat) (hk:k<xs.length):
  ∃cs ic,rows[k]? =some cs/\R g cs xs[k] ic/\(∀i∈ic,i∈ids)/\∀(g':Rows) qT x' SZ,R g' qT x' SZ->(∀i∈ids,i∉ic->g' i=g i)->SZ.Nodup->(∀i∈SZ,i∉ids)->∃Kv,fH R g' (rows.set k qT) (xs.set k x') Kv/\Kv.Nodup/\∀i∈Kv,i∈SZ∨i∈ids:=by
 obtain⟨r1,cs,r2,i1,ic,i2,rfl,rfl,rfl,h3,h4,h5⟩:=h.split k hk
 obtain⟨n1,n2,n3⟩:=List.nodup_append.1 po
 obtain⟨nc,n5,n4⟩:=List.nodup_append.1 n2
 refine⟨cs,ic,by simp,h4,fun i hi=>by simp[hi],fun g' qT x' SZ hR hf hn' jC=>⟨i1++(SZ++i2),?_,?_,fun i hi=>?_⟩⟩
 ·have e:xs.set r1.length x'=xs.take r1.length++x'::xs.drop (r1.length+1):=by rw[List.set_eq_take_append_cons_drop,if_pos hk]
  have e2:(r1++cs::r2).set r1.length qT=r1++qT::r2:=by simp
  rw[e,e2]
  refine(h3.frame ok fun i hi=>hf i (by simp[hi]) fun hc=>n3 i hi i (by simp[hc]) rfl).app (.cons hR (h5.frame ok fun i hi=>hf i (by simp[hi]) fun hc=>n4 i hc i hi rfl))
 ·rw[List.nodup_append,List.nodup_append]
  refine⟨n1,⟨hn',n5,fun x hx y hy he=>?_⟩,fun x hx y hy he=>?_⟩
  ·subst he;exact jC x hx (by simp[hy])
  ·subst he
   rcases List.mem_append.1 hy with hy|hy
   ·exact jC x hy (by simp[hx])
   ·exact n3 x hx x (by simp[hy]) rfl
 ·rcases List.mem_append.1 hi with hi|hi
  ·exact .inr (by simp[hi])
  ·rcases List.mem_append.1 hi with hi|hi
   ·exact .inl hi
   ·exact .inr (by simp[hi])
theorem vY {α:Type} {l:List α} {k:Nat} {x:α} (h:l[k]? =some x) (hk:k<l.length):l[k]=x:=by
 rw[List.getElem?_eq_getElem hk]at h;exact Option.some.inj h
end Go.Proofs.YtalkncaokeaifaaGreatDoor.V

namespace Go.Proofs.YtalkncaokeaifaaGreatDoor.V
open Go.RowKit
attribute [local irreducible] dH wpOps eB Call
attribute [local go_sem] ax eo dS ez ev cZ upd bD K.av bR AV.cells AV.cell rowOf rowsOf part ld rowAt eL bz bx cW dj eO bf cC dw er ea cR dq cw cu da db bp aI bZ bj ck cj dn dr dp bW br cz dm bh ar cq bH eM aT bL bq aH cU aQ cX AV.undef aW bd de di cY c6 bJ dv dy bE du dt cm cr List.getD_cons_zero List.getD_cons_succ List.getD_nil List.all_cons List.all_nil Bool.and_true Bool.true_and Bool.and_self Bool.not_true Bool.not_false Option.map_some Option.map_none Option.bind_some Option.bind_none List.length_cons List.length_nil List.take_succ_cons List.take_zero List.take_nil List.drop_succ_cons List.drop_zero List.drop_nil List.head?_cons List.map_cons List.map_nil List.getElem?_cons_zero List.getElem?_cons_succ List.cons_append List.nil_append List.append_nil List.length_map List.set_cons_zero List.set_cons_succ Nat.reduceMul eq_self Int.toNat_natCast Int.natCast_nonneg and_self true_and and_true decide_true decide_false Bool.false_eq_true Nat.zero_add Nat.add_zero List.contains_cons List.contains_nil Bool.or_false Bool.false_or beq_self_eq_true Nat.reduceBEq ne_eq not_true_eq_false not_false_eq_true Id.mk.injEq false_and and_false Nat.reduceLT Int.reduceLE Int.reduceLT Int.reduceToNat Int.reduceNeg Int.reduceAdd Nat.le_refl List.length_append beq_true beq_false Bool.not_eq_eq_eq_not or_false false_or dX ad ae aP aJ bt bI aD aS aA aL bU aZ
section
variable {cnt:Nat} {bs:List PB} {out:Nat->Int} {f f':Nat->Int} {x v y:Nat}
end
end Go.Proofs.YtalkncaokeaifaaGreatDoor.V

namespace Go.Proofs.YtalkncaokeaifaaGreatDoor.V
open Go.RowKit
inductive su:List AV->List AV->Prop
 |nil:su [] []
 |same (a) {l l'}:su l l'->su (a::l) (a::l')
 |ptr (cs rest) {l l'}:su l l'->su (.fe (cs++rest)::l) (.fe cs::l')
 |bP {l l'}:su l l'->su (.bP::l) (.sl []::l')
theorem Ou {P:Program} {w:World} {D:Nat->Prop} {ι:Names} {cs rest:List AV} {v:Value} (h:dE P w D ι (.fe (cs++rest)) v):dE P w D ι (.fe cs) v:=by
 obtain⟨b,o,vs,rfl,h1,h2,h3,h4⟩:=kP h
 exact .eE _ _ (.fe cs b o vs h1 (fun a ha=>h2 a (List.mem_append_left _ ha)) (fun j hj=>h3 j (by rw[List.length_append];omega)) fun j a ha=>h4 j a (by
  have:=(List.getElem?_eq_some_iff.1 ha).1
  rw[List.getElem?_append_left this];exact ha))
theorem Ow {P:Program} {w:World} {D:Nat->Prop} {ι:Names} {v:Value} (h:dE P w D ι .bP v):dE P w D ι (.sl []) v:=by
 cases h with
 |eE _ _ h=>
  cases h with
  |bP=>exact .eE _ _ (.Bd none 0 (Nat.zero_le _))
theorem su.len {l l':List AV} (h:su l l'):l'.length=l.length:=by induction h<;>simp_all
theorem su.get {P:Program} {w:World} {D:Nat->Prop} {ι:Names} {l l':List AV} (h:su l l'):∀{j:Nat} {a':AV},l'[j]? =some a'->∃a,l[j]? =some a/\∀v,dE P w D ι a v->dE P w D ι a' v:=by
 induction h with
 |nil=>intro j a' hj;simp at hj
 |same a _ ih=>
  intro j a' hj
  cases j with
  |zero=>simp at hj;subst hj;exact⟨a,rfl,fun _ h=>h⟩
  |succ j=>exact ih (by simpa using hj)
 |ptr cs rest _ ih=>
  intro j a' hj
  cases j with
  |zero=>simp at hj;subst hj;exact⟨_,rfl,fun _ h=>Ou h⟩
  |succ j=>exact ih (by simpa using hj)
 |bP _ ih=>
  intro j a' hj
  cases j with
  |zero=>simp at hj;subst hj;exact⟨_,rfl,fun _ h=>Ow h⟩
  |succ j=>exact ih (by simpa using hj)
theorem Call.cut {P:Program} (hm:P.follows .mixedOrders=true) {f:Nat} {args args':List AV} {σ:au} {K:AV->au->Prop} (hc:su args args') (h:Call P f args' σ K):Call P f args σ K:=
 fh fun hs D ι w vs S U A=>ij hm h hs D ι w vs S U ⟨by rw[A.1,hc.len],fun j a' hj=>by
  obtain⟨a,ha,hr⟩:=hc.get (P:=P) (w:=w) (D:=D) (ι:=ι) hj
  obtain⟨u,hu,hv⟩:=A.2 j a ha
  exact⟨u,hu,hr u hv⟩⟩
theorem az.cut {P:Program} (hm:P.follows .mixedOrders=true) {f:Nat} {args args':List AV} {r:AV} (hc:su args args') (h:az P f args' r):az P f args r:=fun n=>(h n).cut hm hc
end Go.Proofs.YtalkncaokeaifaaGreatDoor.V

namespace Go.Proofs.YtalkncaokeaifaaGreatDoor.V
open Go.RowKit
attribute [local irreducible] dH wpOps eB Call
attribute [local go_sem] ax eo dS ez ev cZ upd bD K.av bR AV.cells AV.cell rowOf rowsOf part ld rowAt eL bz bx cW dj eO bf cC dw er ea cR dq cw cu da db bp aI bZ bj ck cj dn dr dp bW br cz dm bh ar cq bH eM aT bL bq aH cU aQ cX AV.undef aW bd de di cY c6 bJ dv dy bE du dt cm cr List.getD_cons_zero List.getD_cons_succ List.getD_nil List.all_cons List.all_nil Bool.and_true Bool.true_and Bool.and_self Bool.not_true Bool.not_false Option.map_some Option.map_none Option.bind_some Option.bind_none List.length_cons List.length_nil List.take_succ_cons List.take_zero List.take_nil List.drop_succ_cons List.drop_zero List.drop_nil List.head?_cons List.map_cons List.map_nil List.getElem?_cons_zero List.getElem?_cons_succ List.cons_append List.nil_append List.append_nil List.length_map List.set_cons_zero List.set_cons_succ Nat.reduceMul eq_self Int.toNat_natCast Int.natCast_nonneg and_self true_and and_true decide_true decide_false Bool.false_eq_true Nat.zero_add Nat.add_zero List.contains_cons List.contains_nil Bool.or_false Bool.false_or beq_self_eq_true Nat.reduceBEq ne_eq not_true_eq_false not_false_eq_true Id.mk.injEq false_and and_false Nat.reduceLT Int.reduceLE Int.reduceLT Int.reduceToNat Int.reduceNeg Int.reduceAdd Nat.le_refl List.length_append beq_true beq_false Bool.not_eq_eq_eq_not or_false false_or dX ad ae aP aJ bt bI aD aS aA aL bU aZ
theorem OK {s:aO} (hS:gO s) (a d:Int):kg s (cL (cG s a) d)<=4:=by
 have hF:=hS.form
 have im:cL (cG s a) d=0∨(0<=cL (cG s a) d/\cL (cG s a) d<=s.dx.length):=by
  unfold cL cG
  rw[List.getD_eq_getElem?_getD,List.getD_eq_getElem?_getD]
  rcases ht:s.ay[a.toNat]? with _|t
  ·exact .inl (by simp[wU])
  ·have UT:=List.mem_of_getElem? ht
   simp only[Option.getD_some]
   rcases hg:t.eD[d.toNat]? with _|g
   ·exact .inl rfl
   ·exact .inr (hF.tK t UT g (List.mem_of_getElem? hg))
 unfold kg
 by_cases h0:cL (cG s a) d=0
 ·rw[if_pos h0];omega
 ·rw[if_neg h0]
  have hk:(cL (cG s a) d-1).toNat<s.dx.length:=ab
  have:=dZ (hS.Wg _ hk).2.1
  unfold yc at this
  unfold jl
  omega
theorem BI {s:aO} (hS:gO s) (a d b:Int):fX s a d b<=4:=by
 unfold fX
 split
 ·exact OK hS a d
 ·omega
theorem G0 {s:aO} {l:List aa} (hS:gO s) {i:Nat} (hi:i<l.length) {d:Int}:∀b∈lH s l i d,b.a<l.length/\b.b<l.length/\0<=b.s/\b.s<=4:=by
 intro b hb
 unfold lH at hb
 split at hb
 ·rename_i h
  simp only[List.mem_singleton]at hb
  subst hb
  exact⟨hi,(jM h.1).1,by simp only;omega,BI hS ..⟩
 ·cases hb
theorem G1 {s:aO} {l:List aa} (hS:gO s):∀b∈dL s l,b.a<l.length/\b.b<l.length/\0<=b.s/\b.s<=4:=by
 intro b hb
 simp only[dL,lf,ig,List.mem_flatMap,List.mem_range]at hb
 obtain⟨i,hi,j,_,hb⟩:=hb
 exact G0 hS hi b hb
theorem vn {s:aO} {l:List aa} (hF:lR l):(dL s l).length<=1000:=by
 have:=BJ s l l.length
 have:=hF.Dq
 rw[dL];omega
theorem Hw {n:Nat} {bs:List PB} {t:Int} (h:n<2):sv n bs t:=fun S h0 ⟨y,hy,hf⟩=>by
 have:y=0:=ab
 subst this;rw[h0]at hf;cases hf
def mK (s:aO) (l:List aa) (t:Int):Nat:=(leads l.length (fP (cF t (dL s l)))).length
noncomputable def uc (s:aO) (l:List aa) (t:Int):Bool:=@decide (mH l.length (dL s l) t) (Classical.propDecidable _)
theorem xC {s:aO} {l:List aa} {t:Int} {p:Prop} [Decidable p] (h:p↔mH l.length (dL s l) t):decide p=uc s l t:=by
 letI:=Classical.propDecidable (mH l.length (dL s l) t)
 unfold uc
 by_cases hp:p
 ·rw[decide_eq_true hp];exact(decide_eq_true (h.1 hp)).symm
 ·rw[decide_eq_false hp];exact(decide_eq_false fun k=>hp (h.2 k)).symm
structure lE (s:aw):Prop where
 set:gO s.aq
 s6:gV s.aq s.dJ.ay
 some:1<=s.dJ.ay.length
 uz:ir s.bu 1 16=true
 holds:mH s.dJ.ay.length (dL s.aq s.dJ.ay) s.bu
noncomputable def mu (s:aw):Bool:=@decide (lE s) (Classical.propDecidable _)
theorem mv {s:aw}:mu s=true↔lE s:=by simp[mu]
theorem r6 {s:aw} (h:¬lE s):false=mu s:=by simp[mu,h]
theorem LR {s:aw} (h:lE s):true=mu s:=by simp[mu,h]
theorem zN {s:aO} {l:List aa} {t:Int}:uc s l t=true↔mH l.length (dL s l) t:=by simp[uc]
theorem OJ {s:aO} (hS:gO s) (a d:Int):0<=kg s (cL (cG s a) d):=by
 have hF:=hS.form
 have im:cL (cG s a) d=0∨(0<=cL (cG s a) d/\cL (cG s a) d<=s.dx.length):=by
  unfold cL cG
  rw[List.getD_eq_getElem?_getD,List.getD_eq_getElem?_getD]
  rcases ht:s.ay[a.toNat]? with _|t
  ·exact .inl (by simp[wU])
  ·have UT:=List.mem_of_getElem? ht
   simp only[Option.getD_some]
   rcases hg:t.eD[d.toNat]? with _|g
   ·exact .inl rfl
   ·exact .inr (hF.tK t UT g (List.mem_of_getElem? hg))
 unfold kg
 by_cases h0:cL (cG s a) d=0
 ·rw[if_pos h0];omega
 ·rw[if_neg h0]
  have hk:(cL (cG s a) d-1).toNat<s.dx.length:=ab
  have:=dZ (hS.Wg _ hk).2.1
  unfold yc at this
  unfold jl
  omega
theorem BH {s:aO} (hS:gO s) (a d b:Int):0<=fX s a d b/\fX s a d b<=4:=by
 refine⟨?_,BI hS a d b⟩
 unfold fX
 split
 ·exact OJ hS a d
 ·omega
def eC (s:aO) (f:af->Int) (p:af) (t:Int):Nat->Int
 |0=>0
 |d+1=>eC s f p t d+if 0<=f (cN p d)then fX s t d (f (cN p d))else 0
def nn (s:aO) (f:af->Int) (p:af) (t:Int):Int:=eC s f p t 4
theorem od {s:aO} (hS:gO s) (f:af->Int) (p:af) (t:Int):∀d,0<=eC s f p t d/\eC s f p t d<=4*(d:Int)
 |0=>⟨Int.le_refl _,Int.le_refl _⟩
 |d+1=>by
  have:=od hS f p t d
  have hb:=BH hS t d (f (cN p d))
  simp only[eC]
  split<;>omega
theorem BD {s:aO} {l:List aa} (hA:gV s l) {p:af} (h:0<=gh l p):eA s (gh l p)=true:=by
 unfold gh at h ⊢
 split at h
 ·rename_i h0
  rw[if_pos h0]
  exact hA.2 _ (gR (jM h0).1)
 ·omega
noncomputable def xW (s:aw) (l:List aa):Bool:=mu s&&xX s.aq l
theorem Jj {s:aw} {l:List aa}:xW s l=true↔lE s/\gV s.aq l:=by simp[xW,mv,oc]
theorem LX {s:aO} {k:Nat} (h:k<s.ay.length):eA s k=true:=by
 unfold eA;exact jE ab
theorem DM {s:aO} {l:List aa} (hA:gV s l) (p:af):gh l p<0↔ew l p<0:=by
 constructor
 ·intro h
  rcases Int.lt_or_le (ew l p) 0 with h0|h0
  ·exact h0
  ·exfalso
   obtain⟨h1,_⟩:=jM h0
   have h2:=(dZ (hA.2 _ (gR h1))).1
   rw[gh,if_pos h0]at h
   omega
 ·intro h
  rw[gh,if_neg ab];omega
end Go.Proofs.YtalkncaokeaifaaGreatDoor.V

namespace Go.Proofs.YtalkncaokeaifaaGreatDoor.V
open Go.RowKit
def ik (n:Nat):ByteArray:=⟨(if n<10 then[UInt8.ofNat (48+n)]else[UInt8.ofNat (48+n / 10),UInt8.ofNat (48+n % 10)]).toArray⟩
theorem yP {n:Nat} (h:n<10):ik n=⟨#[UInt8.ofNat (48+n)]⟩:=by rw[ik,if_pos h]
theorem DY {n:Nat} (h:n<10):(ik n).size=1:=by rw[yP h];rfl
theorem JF (n:Nat):(ik n).size<=2:=by
 unfold ik
 split<;>simp[ByteArray.size]
def tD (s:ByteArray) (i:Nat):Nat:=((s[i]?).map UInt8.toNat).getD 0
theorem G3 {s:ByteArray} {i:Nat} (h:i<s.size):s[i]? =some s[i]:=by
 rw[getElem?_pos s i h]
theorem vJ {s:ByteArray} {i:Nat} (h:i<s.size):tD s i=s[i].toNat:=by
 rw[tD,G3 h];rfl
def sE (nm pre:ByteArray) (lim:Nat):Int:=if nm.size=pre.size+1/\nm.extract 0 pre.size=pre/\48<=tD nm pre.size/\tD nm pre.size<48+lim then(tD nm pre.size:Int)-48 else -1
theorem Jn {a b:ByteArray} (h:a.data.toList=b.data.toList):a=b:=ByteArray.ext (Array.ext' h)
theorem KS {nm pre:ByteArray} {n:Nat} (h:n<10):nm=pre++ik n↔nm.size=pre.size+1/\nm.extract 0 pre.size=pre/\tD nm pre.size=48+n:=by
 rw[yP h]
 constructor
 ·rintro rfl
  have hs:(pre++(⟨#[UInt8.ofNat (48+n)]⟩:ByteArray)).size=pre.size+1:=by rw[ByteArray.size_append];rfl
  refine⟨hs,?_,?_⟩
  ·rw[ByteArray.extract_append]
   refine Jn ?_
   simp
  ·rw[vJ ab,ByteArray.getElem_append_right (Nat.le_refl _)]
   simp only[Nat.sub_self]
   show(UInt8.ofNat (48+n)).toNat= _
   rw[UInt8.toNat_ofNat']
   omega
 ·rintro⟨h1,h2,h3⟩
  rw[vJ ab]at h3
  refine Jn ?_
  have e:nm.data.toList=nm.data.toList.take pre.size++nm.data.toList.drop pre.size:=(List.take_append_drop _ _).symm
  have Bo:nm.data.toList.take pre.size=pre.data.toList:=by
   have:=congrArg (fun b:ByteArray=>b.data.toList) h2
   simpa using this
  have hl:nm.data.toList.length=pre.size+1:=by rw[<-h1];simp
  have h4:nm.data.toList.drop pre.size=[UInt8.ofNat (48+n)]:=by
   rw[List.drop_eq_getElem_cons ab,List.drop_eq_nil_of_le ab]
   congr 1
   rw[ByteArray.getElem_eq_getElem_data]at h3
   rw[Array.getElem_toList,<-h3]
   simp
  rw[e,Bo,h4]
  simp
theorem B3 {nm pre:ByteArray} {n lim:Nat} (h:n<lim) (hl:lim<=10):nm=pre++ik n↔sE nm pre lim=(n:Int):=by
 rw[KS ab,sE]
 constructor
 ·rintro⟨h1,h2,h3⟩
  rw[if_pos ⟨h1,h2,ab,ab⟩,h3];omega
 ·split
  ·rename_i h5
   intro h6
   exact⟨h5.1,h5.2.1,ab⟩
  ·intro h6;omega
theorem Ng (nm pre:ByteArray) (lim:Nat):sE nm pre lim= -1∨(0<=sE nm pre lim/\sE nm pre lim<lim):=by
 unfold sE
 split
 ·exact .inr ab
 ·exact .inl rfl
theorem Hd {nm pre:ByteArray} {lim:Nat} (hl:lim<=10) (h:∀n,n<lim->nm≠pre++ik n):sE nm pre lim= -1:=by
 rcases Ng nm pre lim with h1|h1
 ·exact h1
 ·exact absurd ((B3 (nm:=nm) (pre:=pre) (n:=(sE nm pre lim).toNat) ab hl).2 ab) (h _ ab)
def Nj (s:aO) (l:List aa) (p:af) (d:Int):ByteArray:=if gh l p<0 then⟨#[]⟩else if cL (cG s (gh l p)) d=0 then⟨#[]⟩else(jl s (cL (cG s (gh l p)) d-1)).dP
end Go.Proofs.YtalkncaokeaifaaGreatDoor.V

namespace Go.Proofs.YtalkncaokeaifaaGreatDoor.V
open Go.RowKit
attribute [local irreducible] dH wpOps eB Call
attribute [local go_sem] ax eo dS ez ev cZ upd bD K.av bR AV.cells AV.cell rowOf rowsOf part ld rowAt eL bz bx cW dj eO bf cC dw er ea cR dq cw cu da db bp aI bZ bj ck cj dn dr dp bW br cz dm bh ar cq bH eM aT bL bq aH cU aQ cX AV.undef aW bd de di cY c6 bJ dv dy bE du dt cm cr List.getD_cons_zero List.getD_cons_succ List.getD_nil List.all_cons List.all_nil Bool.and_true Bool.true_and Bool.and_self Bool.not_true Bool.not_false Option.map_some Option.map_none Option.bind_some Option.bind_none List.length_cons List.length_nil List.take_succ_cons List.take_zero List.take_nil List.drop_succ_cons List.drop_zero List.drop_nil List.head?_cons List.map_cons List.map_nil List.getElem?_cons_zero List.getElem?_cons_succ List.cons_append List.nil_append List.append_nil List.length_map List.set_cons_zero List.set_cons_succ Nat.reduceMul eq_self Int.toNat_natCast Int.natCast_nonneg and_self true_and and_true decide_true decide_false Bool.false_eq_true Nat.zero_add Nat.add_zero List.contains_cons List.contains_nil Bool.or_false Bool.false_or beq_self_eq_true Nat.reduceBEq ne_eq not_true_eq_false not_false_eq_true Id.mk.injEq false_and and_false Nat.reduceLT Int.reduceLE Int.reduceLT Int.reduceToNat Int.reduceNeg Int.reduceAdd Nat.le_refl List.length_append beq_true beq_false Bool.not_eq_eq_eq_not or_false false_or dX ad ae aP aJ bt bI aD aS aA aL bU aZ
def Jf (t:fj):Prop:=t.eD.length<=1048576
structure Ta (s:aO):Prop where
 g:s.dx.length<=1048576
 t:s.ay.length<=1048576
 s:∀t∈s.ay,Jf t
structure yF (y:aw):Prop where
 s:Ta y.aq
 a:y.dJ.ay.length<=1048576
variable {P:Program}
def FC {α:Type} (R:IZ α) (z:Nat) (g:Rows) (a:AV) (xs:List α) (ids:List Id):Prop:=∃o rows is,a=.own o 0 xs.length/\g o=some ⟨true,z,rows⟩/\fH R g rows xs is/\ids=o::is
end Go.Proofs.YtalkncaokeaifaaGreatDoor.V

namespace Go.Proofs.YtalkncaokeaifaaGreatDoor.V
open Go.RowKit
attribute [local irreducible] dH wpOps eB Call
attribute [local go_sem] ax eo dS ez ev cZ upd bD K.av bR AV.cells AV.cell rowOf rowsOf part ld rowAt eL bz bx cW dj eO bf cC dw er ea cR dq cw cu da db bp aI bZ bj ck cj dn dr dp bW br cz dm bh ar cq bH eM aT bL bq aH cU aQ cX AV.undef aW bd de di cY c6 bJ dv dy bE du dt cm cr List.getD_cons_zero List.getD_cons_succ List.getD_nil List.all_cons List.all_nil Bool.and_true Bool.true_and Bool.and_self Bool.not_true Bool.not_false Option.map_some Option.map_none Option.bind_some Option.bind_none List.length_cons List.length_nil List.take_succ_cons List.take_zero List.take_nil List.drop_succ_cons List.drop_zero List.drop_nil List.head?_cons List.map_cons List.map_nil List.getElem?_cons_zero List.getElem?_cons_succ List.cons_append List.nil_append List.append_nil List.length_map List.set_cons_zero List.set_cons_succ Nat.reduceMul eq_self Int.toNat_natCast Int.natCast_nonneg and_self true_and and_true decide_true decide_false Bool.false_eq_true Nat.zero_add Nat.add_zero List.contains_cons List.contains_nil Bool.or_false Bool.false_or beq_self_eq_true Nat.reduceBEq ne_eq not_true_eq_false not_false_eq_true Id.mk.injEq false_and and_false Nat.reduceLT Int.reduceLE Int.reduceLT Int.reduceToNat Int.reduceNeg Int.reduceAdd Nat.le_refl List.length_append beq_true beq_false Bool.not_eq_eq_eq_not or_false false_or dX ad ae aP aJ bt bI aD aS aA aL bU aZ
end Go.Proofs.YtalkncaokeaifaaGreatDoor.V

namespace Go.Proofs.YtalkncaokeaifaaGreatDoor
open Go.RowKit
end Go.Proofs.YtalkncaokeaifaaGreatDoor

namespace Go.Proofs.YtalkncaokeaifaaGreatDoor.V
open Go.RowKit
attribute [local irreducible] dH wpOps eB Call
attribute [local go_sem] ax eo dS ez ev cZ upd bD K.av bR AV.cells AV.cell rowOf rowsOf part ld rowAt eL bz bx cW dj eO bf cC dw er ea cR dq cw cu da db bp aI bZ bj ck cj dn dr dp bW br cz dm bh ar cq bH eM aT bL bq aH cU aQ cX AV.undef aW bd de di cY c6 bJ dv dy bE du dt cm cr List.getD_cons_zero List.getD_cons_succ List.getD_nil List.all_cons List.all_nil Bool.and_true Bool.true_and Bool.and_self Bool.not_true Bool.not_false Option.map_some Option.map_none Option.bind_some Option.bind_none List.length_cons List.length_nil List.take_succ_cons List.take_zero List.take_nil List.drop_succ_cons List.drop_zero List.drop_nil List.head?_cons List.map_cons List.map_nil List.getElem?_cons_zero List.getElem?_cons_succ List.cons_append List.nil_append List.append_nil List.length_map List.set_cons_zero List.set_cons_succ Nat.reduceMul eq_self Int.toNat_natCast Int.natCast_nonneg and_self true_and and_true decide_true decide_false Bool.false_eq_true Nat.zero_add Nat.add_zero List.contains_cons List.contains_nil Bool.or_false Bool.false_or beq_self_eq_true Nat.reduceBEq ne_eq not_true_eq_false not_false_eq_true Id.mk.injEq false_and and_false Nat.reduceLT Int.reduceLE Int.reduceLT Int.reduceToNat Int.reduceNeg Int.reduceAdd Nat.le_refl List.length_append beq_true beq_false Bool.not_eq_eq_eq_not or_false false_or dX ad ae aP aJ bt bI aD aS aA aL bU aZ
end Go.Proofs.YtalkncaokeaifaaGreatDoor.V

namespace Go.Proofs.YtalkncaokeaifaaGreatDoor.V
open Go.RowKit
attribute [local irreducible] dH wpOps eB Call
attribute [local go_sem] ax eo dS ez ev cZ upd bD K.av bR AV.cells AV.cell rowOf rowsOf part ld rowAt eL bz bx cW dj eO bf cC dw er ea cR dq cw cu da db bp aI bZ bj ck cj dn dr dp bW br cz dm bh ar cq bH eM aT bL bq aH cU aQ cX AV.undef aW bd de di cY c6 bJ dv dy bE du dt cm cr List.getD_cons_zero List.getD_cons_succ List.getD_nil List.all_cons List.all_nil Bool.and_true Bool.true_and Bool.and_self Bool.not_true Bool.not_false Option.map_some Option.map_none Option.bind_some Option.bind_none List.length_cons List.length_nil List.take_succ_cons List.take_zero List.take_nil List.drop_succ_cons List.drop_zero List.drop_nil List.head?_cons List.map_cons List.map_nil List.getElem?_cons_zero List.getElem?_cons_succ List.cons_append List.nil_append List.append_nil List.length_map List.set_cons_zero List.set_cons_succ eq_self Int.toNat_natCast Int.natCast_nonneg and_self true_and and_true decide_true decide_false Bool.false_eq_true Nat.zero_add Nat.add_zero List.contains_cons List.contains_nil Bool.or_false Bool.false_or beq_self_eq_true ne_eq not_true_eq_false not_false_eq_true Id.mk.injEq false_and and_false Nat.le_refl List.length_append beq_true beq_false Bool.not_eq_eq_eq_not or_false false_or dX ad ae aP aJ bt bI aD aS aA aL bU aZ
section
variable {P:Program} {α:Type} {e:α->List AV} {z:Nat} {g g':Rows} {v:AV} {L:List α} {ids:List Id}
def N8 (e:α->List AV) (L:List α):AV:=if L.length=0 then .bP else .sl (L.map e)
end
end Go.Proofs.YtalkncaokeaifaaGreatDoor.V

namespace Go.Proofs.YtalkncaokeaifaaGreatDoor.V
open Go.RowKit
attribute [local irreducible] dH wpOps eB Call
attribute [local go_sem] ax eo dS ez ev cZ upd bD K.av bR AV.cells AV.cell rowOf rowsOf part ld rowAt eL bz bx cW dj eO bf cC dw er ea cR dq cw cu da db bp aI bZ bj ck cj dn dr dp bW br cz dm bh ar cq bH eM aT bL bq aH cU aQ cX AV.undef aW bd de di cY c6 bJ dv dy bE du dt cm cr List.getD_cons_zero List.getD_cons_succ List.getD_nil List.all_cons List.all_nil Bool.and_true Bool.true_and Bool.and_self Bool.not_true Bool.not_false Option.map_some Option.map_none Option.bind_some Option.bind_none List.length_cons List.length_nil List.take_succ_cons List.take_zero List.take_nil List.drop_succ_cons List.drop_zero List.drop_nil List.head?_cons List.map_cons List.map_nil List.getElem?_cons_zero List.getElem?_cons_succ List.cons_append List.nil_append List.append_nil List.length_map List.set_cons_zero List.set_cons_succ Nat.reduceMul eq_self Int.toNat_natCast Int.natCast_nonneg and_self true_and and_true decide_true decide_false Bool.false_eq_true Nat.zero_add Nat.add_zero List.contains_cons List.contains_nil Bool.or_false Bool.false_or beq_self_eq_true Nat.reduceBEq ne_eq not_true_eq_false not_false_eq_true Id.mk.injEq false_and and_false Nat.reduceLT Int.reduceLE Int.reduceLT Int.reduceToNat Int.reduceNeg Int.reduceAdd Nat.le_refl List.length_append beq_true beq_false Bool.not_eq_eq_eq_not or_false false_or dX ad ae aP aJ bt bI aD aS aA aL bU aZ
end Go.Proofs.YtalkncaokeaifaaGreatDoor.V

namespace Go.Proofs.YtalkncaokeaifaaGreatDoor.V
open Go.RowKit
variable {P:Program}
theorem mi {xs:List AV} {w:World} {D:Nat->Prop} {ι:Names} {a:AV} {v:Value} {vs:Array Value} (h:jA P w D a v) (k:fE P w D ι xs vs):fE P w D ι (a::xs) (#[v]++vs):=
 oW (xs:=[a]) ⟨rfl,fun j b hj=>by
  cases j with
  |zero=>simp at hj;subst hj;exact⟨v,rfl,.eE _ _ h⟩
  |succ j=>simp at hj⟩ k
end Go.Proofs.YtalkncaokeaifaaGreatDoor.V

namespace Go.Proofs.YtalkncaokeaifaaGreatDoor.V
open Go.RowKit
attribute [local irreducible] dH wpOps eB Call
attribute [local go_sem] ax eo dS ez ev cZ upd bD K.av bR AV.cells AV.cell rowOf rowsOf part ld rowAt eL bz bx cW dj eO bf cC dw er ea cR dq cw cu da db bp aI bZ bj ck cj dn dr dp bW br cz dm bh ar cq bH eM aT bL bq aH cU aQ cX AV.undef aW bd de di cY c6 bJ dv dy bE du dt cm cr List.getD_cons_zero List.getD_cons_succ List.getD_nil List.all_cons List.all_nil Bool.and_true Bool.true_and Bool.and_self Bool.not_true Bool.not_false Option.map_some Option.map_none Option.bind_some Option.bind_none List.length_cons List.length_nil List.take_succ_cons List.take_zero List.take_nil List.drop_succ_cons List.drop_zero List.drop_nil List.head?_cons List.map_cons List.map_nil List.getElem?_cons_zero List.getElem?_cons_succ List.cons_append List.nil_append List.append_nil List.length_map List.set_cons_zero List.set_cons_succ Nat.reduceMul eq_self Int.toNat_natCast Int.natCast_nonneg and_self true_and and_true decide_true decide_false Bool.false_eq_true Nat.zero_add Nat.add_zero List.contains_cons List.contains_nil Bool.or_false Bool.false_or beq_self_eq_true Nat.reduceBEq ne_eq not_true_eq_false not_false_eq_true Id.mk.injEq false_and and_false Nat.reduceLT Int.reduceLE Int.reduceLT Int.reduceToNat Int.reduceNeg Int.reduceAdd Nat.le_refl List.length_append beq_true beq_false Bool.not_eq_eq_eq_not or_false false_or dX ad ae aP aJ bt bI aD aS aA aL bU aZ
end Go.Proofs.YtalkncaokeaifaaGreatDoor.V

namespace Go.Proofs.YtalkncaokeaifaaGreatDoor.V
open Go.RowKit
attribute [local irreducible] dH wpOps eB Call
attribute [local go_sem] ax eo dS ez ev cZ upd bD K.av bR AV.cells AV.cell rowOf rowsOf part ld rowAt eL bz bx cW dj eO bf cC dw er ea cR dq cw cu da db bp aI bZ bj ck cj dn dr dp bW br cz dm bh ar cq bH eM aT bL bq aH cU aQ cX AV.undef aW bd de di cY c6 bJ dv dy bE du dt cm cr List.getD_cons_zero List.getD_cons_succ List.getD_nil List.all_cons List.all_nil Bool.and_true Bool.true_and Bool.and_self Bool.not_true Bool.not_false Option.map_some Option.map_none Option.bind_some Option.bind_none List.length_cons List.length_nil List.take_succ_cons List.take_zero List.take_nil List.drop_succ_cons List.drop_zero List.drop_nil List.head?_cons List.map_cons List.map_nil List.getElem?_cons_zero List.getElem?_cons_succ List.cons_append List.nil_append List.append_nil List.length_map List.set_cons_zero List.set_cons_succ eq_self Int.toNat_natCast Int.natCast_nonneg and_self true_and and_true decide_true decide_false Bool.false_eq_true Nat.zero_add Nat.add_zero List.contains_cons List.contains_nil Bool.or_false Bool.false_or beq_self_eq_true ne_eq not_true_eq_false not_false_eq_true Id.mk.injEq false_and and_false Nat.le_refl List.length_append beq_true beq_false Bool.not_eq_eq_eq_not or_false false_or dX ad ae aP aJ bt bI aD aS aA aL bU aZ
theorem FM (g:Rows) (s:aw):fz g 6 (.agg (eb s))=some (.agg (eb s)):=by simp[eb,aS,ad,ae,bI,aP]
theorem LZ {g:Rows} {v w v' w':AV} (h1:fz g 6 v=some v') (h2:fz g 6 w=some w'):ek g 6 [v,w]=some [v',w']:=by
 simp only[ad,ae,h1,h2,Option.map_some]
end Go.Proofs.YtalkncaokeaifaaGreatDoor.V

namespace Go.Proofs.YtalkncaokeaifaaGreatDoor.V
open Go.RowKit
attribute [local irreducible] dH wpOps eB Call
attribute [local go_sem] ax eo dS ez ev cZ upd bD K.av bR AV.cells AV.cell rowOf rowsOf part ld rowAt eL bz bx cW dj eO bf cC dw er ea cR dq cw cu da db bp aI bZ bj ck cj dn dr dp bW br cz dm bh ar cq bH eM aT bL bq aH cU aQ cX AV.undef aW bd de di cY c6 bJ dv dy bE du dt cm cr List.getD_cons_zero List.getD_cons_succ List.getD_nil List.all_cons List.all_nil Bool.and_true Bool.true_and Bool.and_self Bool.not_true Bool.not_false Option.map_some Option.map_none Option.bind_some Option.bind_none List.length_cons List.length_nil List.take_succ_cons List.take_zero List.take_nil List.drop_succ_cons List.drop_zero List.drop_nil List.head?_cons List.map_cons List.map_nil List.getElem?_cons_zero List.getElem?_cons_succ List.cons_append List.nil_append List.append_nil List.length_map List.set_cons_zero List.set_cons_succ Nat.reduceMul eq_self Int.toNat_natCast Int.natCast_nonneg and_self true_and and_true decide_true decide_false Bool.false_eq_true Nat.zero_add Nat.add_zero List.contains_cons List.contains_nil Bool.or_false Bool.false_or beq_self_eq_true Nat.reduceBEq ne_eq not_true_eq_false not_false_eq_true Id.mk.injEq false_and and_false Nat.reduceLT Int.reduceLE Int.reduceLT Int.reduceToNat Int.reduceNeg Int.reduceAdd Nat.le_refl List.length_append beq_true beq_false Bool.not_eq_eq_eq_not or_false false_or dX ad ae aP aJ bt bI aD aS aA aL bU aZ
def il (b:Int):List AV:=[.int .u8 b]
def pT (g:Rows) (X:Id) (bs:List Int) (A:Nat):Prop:=∃(a:Nat) (z:Int),a<=A/\g X=some ⟨true,3,[[.sl (bs.map il),.int .i64 (a:Int),.int .u64 z]]⟩
theorem pT.mono {g:Rows} {X:Id} {bs:List Int} {A B:Nat} (h:pT g X bs A) (k:A<=B):pT g X bs B:=by
 obtain⟨a,z,h1,h2⟩:=h
 exact⟨a,z,ab,h2⟩
def j8 (X:Id) (σ σ':au):Prop:=σ.next<=σ'.next/\∀i,i≠X->i.cV<σ.next->σ'.get i=σ.get i
theorem wrap_u64 (n:Int):IntKind.u64.wrap n=n % 18446744073709551616:=by
 rw[IntKind.wrap];simp[IntKind.bits,IntKind.signed]
theorem MO (z:Int):0<=IntKind.u64.wrap ((BitVec.ofInt 64 z&&& BitVec.ofInt 64 255).toNat:Int)/\IntKind.u64.wrap ((BitVec.ofInt 64 z&&& BitVec.ofInt 64 255).toNat:Int)<=255:=by
 have h:(BitVec.ofInt 64 z&&& BitVec.ofInt 64 255).toNat<=255:=by
  rw[BitVec.toNat_and]
  exact Nat.and_le_right
 rw[wrap_u64];omega
theorem ve (z:Int):0<=IntKind.i64.wrap (IntKind.u64.wrap ((BitVec.ofInt 64 z&&& BitVec.ofInt 64 255).toNat:Int))/\IntKind.i64.wrap (IntKind.u64.wrap ((BitVec.ofInt 64 z&&& BitVec.ofInt 64 255).toNat:Int))<=255:=by
 obtain⟨h0,h1⟩:=MO z
 rw[cH ab]
 exact⟨h0,h1⟩
theorem tj {v n:Int} (hv:0<=v) (hn:0<n):0<=v.tmod n/\(v.tmod n=0∨v.tmod n<n):=by
 rw[Int.tmod_eq_emod_of_nonneg hv]
 exact⟨Int.emod_nonneg _ ab,.inr (Int.emod_lt_of_pos _ hn)⟩
theorem KV (bs:List Int) (hb:∀b∈bs,0<=b/\b<=255) (iY:bs.length<=4096) (X:Id) (A:Nat) (ha:A<=1073741824) (σ:au) (h:pT σ.get X bs A):
  Call Tryz.prog 59 [.ptr X 0 0] σ fun r σ'=>∃v:Int,r=.int .i64 v/\0<=v/\v<=255/\pT σ'.get X bs (A+1)/\j8 X σ σ':=by
 obtain⟨a,z,XU,hg⟩:=h
 refine eX fC rfl fun fb=>?_
 clear fb
 have fJ:(bs.map il).length=bs.length:=by simp
 have w1:IntKind.i64.wrap ((a:Int)+1)=((a+1:Nat):Int):=(cH ab).trans ab
 by_cases ha:(a:Int)<(bs.length:Int)
 ·have Kb:(bs.map il)[a]? =some [.int .u8 (bs.getD a 0)]:=getD_map il ab
  have Ds:=hb (bs.getD a 0) (by rw[List.getD_eq_getElem?_getD,List.getElem?_eq_getElem (by omega:a<bs.length)];exact List.getElem_mem ab)
  generalize bs.getD a 0=b at Kb Ds
  have w2:IntKind.i64.wrap b=b:=cH ab
  have hle:((a+1:Nat):Int)<=(bs.length:Int):=ab
  (try((repeat(revert hN;revert N;apply Pn.out));refine wk (tw @hg (tw @fJ (tw @ha (tw @Kb (tw @w1 (tw @w2 @hle)))))) ?_;(repeat(refine Pn.mk ?_;intro N hN))))
  exact eK (.inl rfl) (vs:=[.int .i64 b]) (sd @Nat.zero_add) ⟨b,rfl,Ds.1,Ds.2,⟨a+1,_,ab,sl @Nat.zero_add⟩,cD,fun i hi _=>sd @hi⟩
 ·have hle:decide (((a+1:Nat):Int)<=(bs.length:Int))=false:=decide_eq_false ab
  (try((repeat(revert hN;revert N;apply Pn.out));refine wk (tw @hg (tw @fJ (tw @ha (tw @w1 @hle)))) ?_;(repeat(refine Pn.mk ?_;intro N hN))))
  exact eK (.inl rfl) (vs:=[.int .i64 _]) (by simp only[gY,kX,go_sem, ↓reduceIte,Nat.reduceEqDiff,Nat.reduceAdd,Nat.reduceSub,Nat.reduceLeDiff,reduceCtorEq]<;>rfl) ⟨_,rfl,(ve _).1,(ve _).2,⟨a+1,_,ab,sl @Nat.zero_add⟩,cD,fun i hi _=>sd @hi⟩
theorem j8.to {X:Id} {g g':Rows} {n n1 n' m':Nat} (h:j8 X ⟨g,n1⟩ ⟨g',n'⟩) (h1:n<=n1) (h2:n'<=m'):j8 X ⟨g,n⟩ ⟨g',m'⟩:=
 ⟨Nat.le_trans h1 (Nat.le_trans h.1 h2),fun i hi hv=>h.2 i hi (Nat.lt_of_lt_of_le hv h1)⟩
theorem j8.trans {X:Id} {σ1 σ2 σ3:au} (h:j8 X σ1 σ2) (k:j8 X σ2 σ3):j8 X σ1 σ3:=⟨Nat.le_trans h.1 k.1,fun i hi hv=>(k.2 i hi (Nat.lt_of_lt_of_le hv h.1)).trans (h.2 i hi hv)⟩
theorem Lc (bs:List Int) (hb:∀b∈bs,0<=b/\b<=255) (iY:bs.length<=4096) (X:Id) (n:Int) (A:Nat) (ha:A<=1073741000) (σ:au) (h:pT σ.get X bs A):
  Call Tryz.prog 26 [.ptr X 0 0,.int .i64 n] σ fun r σ'=>∃v:Int,r=.int .i64 v/\0<=v/\(v=0∨v<n)/\pT σ'.get X bs (A+2)/\j8 X σ σ':=by
 refine eX fC rfl fun fb=>?_
 clear fb
 by_cases pn:n<=1
 ·(try((repeat(revert hN;revert N;apply Pn.out));refine wk @pn ?_;(repeat(refine Pn.mk ?_;intro N hN))))
  exact eK (.inl rfl) (vs:=[.int .i64 0]) (sd @Nat.zero_add) ⟨0,rfl,ab,.inl rfl,h.mono ab,cD,fun i hi _=>rfl⟩
 ·have Co:(n=0)=False:=eq_false ab
  (try((repeat(revert hN;revert N;apply Pn.out));refine wk @pn ?_;(repeat(refine Pn.mk ?_;intro N hN))))
  refine .inr (bc _ _ _ _ _ (fun r σ1 hq=>?_) (KV bs hb iY X A ab _ h))
  obtain⟨v,rfl,v0,v1,h1,k1⟩:=hq
  refine hN _ _ ?_
  clear hN N
  by_cases h2:(200:Int)<n
  ·(try((repeat(revert hN;revert N;apply Pn.out));refine wk @h2 ?_;(repeat(refine Pn.mk ?_;intro N hN))))
   refine .inr (bc _ _ _ _ _ (fun r σ2 hq=>?_) (KV bs hb iY X (A+1) ab _ h1))
   obtain⟨u,rfl,u0,u1,Bo,k2⟩:=hq
   refine hN _ _ ?_
   clear hN N
   have w1:IntKind.i64.wrap (v*256)=v*256:=cH ab
   have w2:IntKind.i64.wrap (v*256+u)=v*256+u:=cH ab
   (try((repeat(revert hN;revert N;apply Pn.out));refine wk (tw @Co (tw @w1 @w2)) ?_;(repeat(refine Pn.mk ?_;intro N hN))))
   exact eK (.inl rfl) (vs:=[.int .i64 ((v*256+u).tmod n)]) (sd @Nat.zero_add) ⟨_,rfl,(tj ab ab).1,(tj ab ab).2,Bo,(j8.to (k1.trans (j8.to (n:=σ1.next) k2 ab (Nat.le_refl _))) ab cD:j8 X ⟨σ.get,σ.next⟩ ⟨σ2.get,_⟩)⟩
  ·(try((repeat(revert hN;revert N;apply Pn.out));refine wk (tw @h2 @Co) ?_;(repeat(refine Pn.mk ?_;intro N hN))))
   exact eK (.inl rfl) (vs:=[.int .i64 (v.tmod n)]) (sd @Nat.zero_add) ⟨_,rfl,(tj v0 ab).1,(tj v0 ab).2,h1.mono ab,(j8.to k1 ab cD:j8 X ⟨σ.get,σ.next⟩ ⟨σ1.get,_⟩)⟩
theorem zh (bs:List Int) (σ:au):
  Call Tryz.prog 25 [.sl (bs.map il)] σ fun r σ'=>∃X:Id,r=.ptr X 0 0/\σ.next<=X.cV/\X.cV<σ'.next/\pT σ'.get X bs 0/\∀i:Id,i.cV<σ.next->σ'.get i=σ.get i:=by
 refine eX fC rfl fun fb=>?_
 clear fb
 (try((repeat(revert hN;revert N;apply Pn.out));refine wk @Nat.zero_add ?_;(repeat(refine Pn.mk ?_;intro N hN))))
 exact eK (.inl rfl) (vs:=[.ptr ⟨25001002,_⟩ 0 0]) (by simp only[gY,kX,go_sem, ↓reduceIte,Nat.reduceEqDiff,Nat.reduceAdd,Nat.reduceSub,Nat.reduceLeDiff,reduceCtorEq]<;>rfl) ⟨_,rfl,cD,cD,⟨0,0,Nat.le_refl _,sl @Nat.zero_add⟩,fun i hi=>by have hv:=dF hi;simp only[go_sem, ↓reduceIte,Nat.reduceEqDiff,Nat.reduceAdd,Nat.reduceSub,Nat.reduceLeDiff,reduceCtorEq,hv]⟩
end Go.Proofs.YtalkncaokeaifaaGreatDoor.V

namespace Go.Proofs.YtalkncaokeaifaaGreatDoor
open Go.RowKit
end Go.Proofs.YtalkncaokeaifaaGreatDoor
namespace Go.Proofs.YtalkncaokeaifaaGreatDoor.V
open Go.RowKit
theorem tz (a b:ByteArray):(a++b).size=a.size+b.size:=ByteArray.size_append
end Go.Proofs.YtalkncaokeaifaaGreatDoor.V

namespace Go.Proofs.YtalkncaokeaifaaGreatDoor.V
open Go.RowKit
attribute [local irreducible] dH wpOps eB Call
attribute [local go_sem] ax eo dS ez ev cZ upd bD K.av bR AV.cells AV.cell rowOf rowsOf part ld rowAt eL bz bx cW dj eO bf cC dw er ea cR dq cw cu da db bp aI bZ bj ck cj dn dr dp bW br cz dm bh ar cq bH eM aT bL bq aH cU aQ cX AV.undef aW bd de di cY c6 bJ dv dy bE du dt cm cr List.getD_cons_zero List.getD_cons_succ List.getD_nil List.all_cons List.all_nil Bool.and_true Bool.true_and Bool.and_self Bool.not_true Bool.not_false Option.map_some Option.map_none Option.bind_some Option.bind_none List.length_cons List.length_nil List.take_succ_cons List.take_zero List.take_nil List.drop_succ_cons List.drop_zero List.drop_nil List.head?_cons List.map_cons List.map_nil List.getElem?_cons_zero List.getElem?_cons_succ List.cons_append List.nil_append List.append_nil List.length_map List.set_cons_zero List.set_cons_succ Nat.reduceMul eq_self Int.toNat_natCast Int.natCast_nonneg and_self true_and and_true decide_true decide_false Bool.false_eq_true Nat.zero_add Nat.add_zero List.contains_cons List.contains_nil Bool.or_false Bool.false_or beq_self_eq_true Nat.reduceBEq ne_eq not_true_eq_false not_false_eq_true Id.mk.injEq false_and and_false Nat.reduceLT Int.reduceLE Int.reduceLT Int.reduceToNat Int.reduceNeg Int.reduceAdd Nat.le_refl List.length_append beq_true beq_false Bool.not_eq_eq_eq_not or_false false_or dX ad ae aP aJ bt bI aD aS aA aL bU aZ
def nU (ps:List af) (i:Nat):af:=ps.getD i ⟨0,0⟩
theorem j3 {ps:List af} {i:Nat} (h:i<ps.length):nU ps i=ps[i]:=by simp[nU,List.getD_eq_getElem?_getD,h]
theorem Gs {ps:List af} {i:Nat} (h:i<ps.length):nU ps i∈ps:=by rw[j3 h];exact List.getElem_mem h
theorem Vp {ps:List af} {i:Nat} (h:i<ps.length):(ps.map ao)[i]? =some (ao (nU ps i)):=by simp[nU,List.getD_eq_getElem?_getD,h]
def nF (ps:List af):Prop:=ps.Pairwise fun a b=>k8 a b=true
theorem nF.at_ {ps:List af} (h:nF ps) {i j:Nat} (yh:i<j) (hj:j<ps.length):k8 (nU ps i) (nU ps j)=true:=by
 rw[j3 hj,j3 ab]
 exact List.pairwise_iff_getElem.1 h i j ab hj yh
def l8 (ps:List af) (p:af):Nat:=ps.findIdx fun q=> !k8 q p
theorem Gl (ps:List af) (p:af):l8 ps p<=ps.length:=List.findIdx_le_length
theorem N4 {ps:List af} {p:af} {x:Nat} (h:x<l8 ps p):k8 (nU ps x) p=true:=by
 have hx:x<ps.length:=Nat.lt_of_lt_of_le h (Gl ps p)
 have:=List.not_of_lt_findIdx h
 rw[j3 hx]
 simpa using this
theorem Gk {ps:List af} {p:af} (hR:nF ps) {x:Nat} (h:l8 ps p<=x) (hx:x<ps.length):k8 (nU ps x) p=false:=by
 have h0:l8 ps p<ps.length:=ab
 have h1:k8 (nU ps (l8 ps p)) p=false:=by
  have:=List.findIdx_getElem (p:=fun q=> !k8 q p) (xs:=ps) (w:=h0)
  rw[j3 h0]
  have e:(!k8 ps[l8 ps p] p)=true:=this
  simpa using e
 by_cases he:l8 ps p=x
 ·rw[<-he];exact h1
 ·have h2:=hR.at_ (show l8 ps p<x by omega) hx
  cases hc:k8 (nU ps x) p
  ·rfl
  ·rw[iw h2 hc]at h1;cases h1
def E4 (ps:List af) (p:af):List af:=if l8 ps p<ps.length/\nU ps (l8 ps p)=p then ps else ps.take (l8 ps p)++p::ps.drop (l8 ps p)
theorem Lh (ps:List af) (p:af):(E4 ps p).length<=ps.length+1:=by
 unfold E4
 have:=Gl ps p
 split
 ·omega
 ·simp;omega
theorem KQ (ps:List af) (p x:af):x∈E4 ps p↔x=p∨x∈ps:=by
 unfold E4
 split
 ·rename_i h
  refine⟨.inr,fun hx=>hx.elim (fun e=>?_) id⟩
  rw[e,<-h.2];exact Gs h.1
 ·have:x∈ps↔x∈ps.take (l8 ps p)++ps.drop (l8 ps p):=by rw[List.take_append_drop]
  rw[this]
  simp only[List.mem_append,List.mem_cons]
  constructor
  ·rintro(h|h|h)
   ·exact .inr (.inl h)
   ·exact .inl h
   ·exact .inr (.inr h)
  ·rintro(h|h|h)
   ·exact .inr (.inl h)
   ·exact .inl h
   ·exact .inr (.inr h)
theorem Li {ps:List af} (hR:nF ps) (p:af):nF (E4 ps p):=by
 unfold E4
 split
 ·exact hR
 ·rename_i qn
  have hd:∀x∈ps.drop (l8 ps p),k8 p x=true:=fun x hx=>by
   obtain⟨j,hj,rfl⟩:=List.getElem_of_mem hx
   rw[List.length_drop]at hj
   rw[List.getElem_drop]
   have ja:l8 ps p+j<ps.length:=ab
   have h1:=Gk (p:=p) hR (Nat.le_add_right _ j) ja
   rw[<-j3 ja]
   refine uM h1 fun he=>?_
   by_cases h0:j=0
   ·subst h0
    exact qn ⟨ab,by simpa using he⟩
   ·have:=hR.at_ (show l8 ps p<l8 ps p+j by omega) ja
    rw[he]at this
    have h2:=Gk (p:=p) hR (Nat.le_refl _) (show l8 ps p<ps.length by omega)
    rw[this]at h2;cases h2
  have ht:∀x∈ps.take (l8 ps p),k8 x p=true:=fun x hx=>by
   obtain⟨j,hj,rfl⟩:=List.getElem_of_mem hx
   rw[List.length_take]at hj
   rw[List.getElem_take]
   have:=N4 (ps:=ps) (p:=p) (x:=j) ab
   rwa [j3 ab]at this
  refine List.pairwise_append.2 ⟨hR.sublist (List.take_sublist _ _),List.pairwise_cons.2 ⟨hd,hR.sublist (List.drop_sublist _ _)⟩,fun x hx y hy=>?_⟩
  rcases List.mem_cons.1 hy with rfl|hy
  ·exact ht x hx
  ·exact iw (ht x hx) (hd y hy)
theorem Gv:∀{ps qs:List af},nF ps->nF qs->(∀x,x∈ps↔x∈qs)->ps=qs
 |[],[],_,_,_=>rfl
 |[],q::qs,_,_,h=>absurd ((h q).2 (by simp)) (by simp)
 |p::ps,[],_,_,h=>absurd ((h p).1 (by simp)) (by simp)
 |p::ps,q::qs,hp,hq,h=>by
  obtain⟨p1,p2⟩:=List.pairwise_cons.1 hp
  obtain⟨q1,q2⟩:=List.pairwise_cons.1 hq
  have e:p=q:=by
   rcases List.mem_cons.1 ((h p).1 (by simp))with e|e
   ·exact e
   ·rcases List.mem_cons.1 ((h q).2 (by simp))with e'|e'
    ·exact e'.symm
    ·have:=CF (q1 p e)
     rw[p1 q e']at this;cases this
  subst e
  congr 1
  refine Gv p2 q2 fun x=>⟨fun hx=>?_,fun hx=>?_⟩
  ·rcases List.mem_cons.1 ((h x).1 (List.mem_cons_of_mem _ hx))with e|e
   ·subst e;have:=p1 x hx;rw[gz]at this;cases this
   ·exact e
  ·rcases List.mem_cons.1 ((h x).2 (List.mem_cons_of_mem _ hx))with e|e
   ·subst e;have:=q1 x hx;rw[gz]at this;cases this
   ·exact e
end Go.Proofs.YtalkncaokeaifaaGreatDoor.V

namespace Go.Proofs.YtalkncaokeaifaaGreatDoor.V
open Go.RowKit
def Qb (E:Nat->Prop) (n0:Nat) (g:Rows) (n:Nat) (row:List AV) (t:fj) (e:Id):Prop:=row=[.str t.dP,.own e 0 4]/\(t.dP.size<=64/\1<=t.dP.size)/\t.eD.length=4/\E e.site/\n0<=e.cV/\e.cV<n/\g e=some ⟨true,1,t.eD.map ah⟩
def TX (E:Nat->Prop) (n0:Nat) (g:Rows) (n:Nat) (rows:List (List AV)) (Ts:List fj):Prop:=∃es:List Id,es.Nodup/\rows.length=Ts.length/\es.length=Ts.length/\∀(j:Nat) (row:List AV) (t:fj) (e:Id),rows[j]? =some row->Ts[j]? =some t->es[j]? =some e->Qb E n0 g n row t e
section
variable {E:Nat->Prop} {n0:Nat} {g g':Rows} {n n':Nat} {rows:List (List AV)} {Ts:List fj}
theorem TX.frame (h:TX E n0 g n rows Ts) (hn:n<=n') (hf:∀i:Id,E i.site->n0<=i.cV->i.cV<n->g' i=g i):TX E n0 g' n' rows Ts:=by
 obtain⟨es,h1,h2,h3,h4⟩:=h
 refine⟨es,h1,h2,h3,fun j row t e q1 q2 q3=>?_⟩
 obtain⟨a1,a2,a3,a4,a5,a6,a7⟩:=h4 j row t e q1 q2 q3
 exact⟨a1,a2,a3,a4,a5,ab,(hf e a4 a5 a6).trans a7⟩
theorem TX.snoc (h:TX E n0 g n rows Ts) {t:fj} {e:Id} (hn:n<=n') (he:n<=e.cV) (hr:Qb E n0 g n' [.str t.dP,.own e 0 4] t e):TX E n0 g n' (rows++[[.str t.dP,.own e 0 4]]) (Ts++[t]):=by
 obtain⟨es,h1,h2,h3,h4⟩:=h
 refine⟨es++[e],?_,by simp[h2],by simp[h3],fun j row t' e' q1 q2 q3=>?_⟩
 ·refine List.nodup_append.2 ⟨h1,by simp,fun x hx y hy=>?_⟩
  rw[List.mem_singleton.1 hy]
  obtain⟨j,hj,rfl⟩:=List.getElem_of_mem hx
  obtain⟨_,_,_,_,_,a6,_⟩:=h4 j _ _ _ (List.getElem?_eq_getElem ab) (List.getElem?_eq_getElem ab) (List.getElem?_eq_getElem hj)
  intro hc
  rw[hc]at a6
  omega
 ·by_cases hj:j<Ts.length
  ·rw[List.getElem?_append_left ab]at q1 q2 q3
   obtain⟨a1,a2,a3,a4,a5,a6,a7⟩:=h4 j row t' e' q1 q2 q3
   exact⟨a1,a2,a3,a4,a5,ab,a7⟩
  ·have Ut:j=Ts.length:=by
    have:=List.getElem?_eq_some_iff.1 q2
    obtain⟨h,_⟩:=this
    simp at h
    omega
   subst Ut
   rw[<-h2,List.getElem?_concat_length]at q1
   rw[List.getElem?_concat_length]at q2
   rw[<-h3,List.getElem?_concat_length]at q3
   cases q1;cases q2;cases q3
   exact hr
theorem TX.one {t:fj} {e:Id} (hr:Qb E n0 g n [.str t.dP,.own e 0 4] t e):TX E n0 g n [[.str t.dP,.own e 0 4]] [t]:=
 ⟨[e],by simp,rfl,rfl,fun j row t' e' q1 q2 q3=>by
  cases j with
  |zero=>simp at q1 q2 q3;subst q1 q2 q3;exact hr
  |succ j=>simp at q1⟩
theorem TX.len (h:TX E n0 g n rows Ts):rows.length=Ts.length:=by obtain⟨es,h1,h2,h3,h4⟩:=h;exact h2
theorem TX.fz:∀{rows:List (List AV)} {Ts:List fj},TX E n0 g n rows Ts->∀k,fS g (k+2) rows=some (Ts.map eS)
 |[],[],_=>fun k=>by(try simp only[List.map_nil]);rw[fS.eq_def]
 |[],_::_,h=>by have:=h.len;simp at this
 |_::_,[],h=>by have:=h.len;simp at this
 |row::rows,t::Ts,h=>fun k=>by
  obtain⟨es,h1,h2,h3,h4⟩:=h
  match es,h1,h3,h4 with
  |[],_,h3,_=>simp at h3
  |e::es,h1,h3,h4=>
  have ih:=TX.fz (rows:=rows) (Ts:=Ts) ⟨es,(List.nodup_cons.1 h1).2,by simpa using h2,by simpa using h3,fun j row t e q1 q2 q3=>h4 (j+1) row t e (by simpa using q1) (by simpa using q2) (by simpa using q3)⟩ k
  obtain⟨a1,a2,a3,a4,a5,a6,a7⟩:=h4 0 row t e rfl rfl rfl
  subst a1
  have h9:gx g (k+2) (.own e 0 4)=some (.sl (t.eD.map ah)):=by
   rw[<-a3];exact eT (e:=ah) a7 rfl fun x=>Ef g k x
  rw[fS,cQ,jk,cQ,h9,dD,ih]
  rfl
end
end Go.Proofs.YtalkncaokeaifaaGreatDoor.V

namespace Go.Proofs.YtalkncaokeaifaaGreatDoor.V
open Go.RowKit
attribute [local irreducible] dH wpOps eB Call
attribute [local go_sem] ax eo dS ez ev cZ upd bD K.av bR AV.cells AV.cell rowOf rowsOf part ld rowAt eL bz bx cW dj eO bf cC dw er ea cR dq cw cu da db bp aI bZ bj ck cj dn dr dp bW br cz dm bh ar cq bH eM aT bL bq aH cU aQ cX AV.undef aW bd de di cY c6 bJ dv dy bE du dt cm cr List.getD_cons_zero List.getD_cons_succ List.getD_nil List.all_cons List.all_nil Bool.and_true Bool.true_and Bool.and_self Bool.not_true Bool.not_false Option.map_some Option.map_none Option.bind_some Option.bind_none List.length_cons List.length_nil List.take_succ_cons List.take_zero List.take_nil List.drop_succ_cons List.drop_zero List.drop_nil List.head?_cons List.map_cons List.map_nil List.getElem?_cons_zero List.getElem?_cons_succ List.cons_append List.nil_append List.append_nil List.length_map List.set_cons_zero List.set_cons_succ Nat.reduceMul eq_self Int.toNat_natCast Int.natCast_nonneg and_self true_and and_true decide_true decide_false Bool.false_eq_true Nat.zero_add Nat.add_zero List.contains_cons List.contains_nil Bool.or_false Bool.false_or beq_self_eq_true Nat.reduceBEq ne_eq not_true_eq_false not_false_eq_true Id.mk.injEq false_and and_false Nat.reduceLT Int.reduceLE Int.reduceLT Int.reduceToNat Int.reduceNeg Int.reduceAdd Nat.le_refl List.length_append beq_true beq_false Bool.not_eq_eq_eq_not or_false false_or dX ad ae aP aJ bt bI aD aS aA aL bU aZ
abbrev mP:MK:=⟨true,[.tI,.tI]⟩
theorem CL (p:af):∀(ts:List aa) (i:Nat),fK mP (ao p) (ts.map ai) i=some (if pQ ts p<ts.length then some (i+pQ ts p)else none)
 |[],i=>by simp[fK,pQ]
 |t::ts,i=>by
  have e:ea mP.ts (ao p) ((ai t).take mP.ks)=some (decide (p=t.bQ)):=by
   have h:(p=t.bQ)↔(p.fu=t.bQ.fu/\p.eW=t.bQ.eW):=⟨fun h=>by rw[h];exact⟨rfl,rfl⟩,fun h=>E0 h.1 h.2⟩
   simp[MK.ks,ao,ai,ea,er,h]
  have ih:=CL p ts (i+1)
  rw[List.map_cons]
  unfold fK
  rw[e]
  by_cases h:p=t.bQ
  ·rw[decide_eq_true h]
   have h0:pQ (t::ts) p=0:=by simp[pQ,List.findIdx_cons,h]
   simp[h0]
  ·rw[decide_eq_false h]
   have h0:pQ (t::ts) p=pQ ts p+1:=by
    simp[pQ,List.findIdx_cons,Ne.symm h]
   simp only[ih,h0,List.length_cons,Nat.add_lt_add_iff_right]
   congr 1
   split<;>simp;omega
theorem zr (ts:List aa) (p:af):fq mP (.agg [.int .i64 p.fu,.int .i64 p.eW]) (ts.map ai)=some (if 0<=ew ts p then some (ew ts p).toNat else none):=by
 have h:=CL p ts 0
 unfold fq
 rw[if_pos ⟨rfl,rfl,rfl⟩]
 show fK mP (ao p) _ 0= _
 rw[h]
 unfold ew
 split<;>simp
theorem HP {ts:List aa} {p:af} (h:0<=ew ts p):fq mP (.agg [.int .i64 p.fu,.int .i64 p.eW]) (ts.map ai)=some (some (ew ts p).toNat):=by rw[zr,if_pos h]
theorem qt {ts:List aa} {p:af} (h:ew ts p<0):fq mP (.agg [.int .i64 p.fu,.int .i64 p.eW]) (ts.map ai)=some none:=by rw[zr,if_neg ab]
structure Dm (g:Rows) (n:Nat) (c T O:Id) (s:aw) (ts:List aa):Prop where
 row:∃b,g c=some ⟨b,6,[[.sl (s.aq.dx.map eP),.sl (s.aq.ay.map eS),.sl (s.dJ.ay.map ai),.int .i64 s.bu,.map T mP,.map O mP]]⟩
 tl:∃b,g T=some ⟨b,mP.j4,ts.map ai⟩
 cv:c.cV<n
 tv:T.cV<n
 ov:O.cV<n
theorem Dm.ro {g:Rows} {n:Nat} {c T O:Id} {s:aw} {ts:List aa} (h:Dm g n c T O s ts):Dm (V.ro g) n c T O s ts:=by
 obtain⟨b,h1⟩:=h.row
 obtain⟨b2,h2⟩:=h.tl
 exact⟨⟨false,by simp[V.ro,h1]⟩,⟨false,by simp[V.ro,h2]⟩,h.cv,h.tv,h.ov⟩
theorem Dm.frame {g g':Rows} {n n':Nat} {c T O:Id} {s:aw} {ts:List aa} (h:Dm g n c T O s ts) (hn:n<=n') (hc:g' c=g c) (hT:g' T=g T):Dm g' n' c T O s ts:=
 ⟨by rw[hc];exact h.row,by rw[hT];exact h.tl,Nat.lt_of_lt_of_le h.cv hn,Nat.lt_of_lt_of_le h.tv hn,Nat.lt_of_lt_of_le h.ov hn⟩
theorem Xj {σ:au} {c T O:Id} {s:aw} {ts:List aa} (h:Dm σ.get σ.next c T O s ts) (p:af):Call Tryz.prog 137 [.ptr c 0 0,.agg (ao p)] σ (fun r _=>r=.int .i64 (gh ts p)):=by
 refine eX fC rfl fun fb=>?_
 clear fb
 obtain⟨b,h1⟩:=h.row
 obtain⟨b2,h2⟩:=h.tl
 have v1:=dF h.cv
 have v2:=dF h.tv
 by_cases h0:0<=ew ts p
 ·have hm:=HP h0
  have hg:=jH (jM h0).1
  have ho:(some (ew ts p).toNat).isSome=true:=rfl
  (try((repeat(revert hN;revert N;apply Pn.out));refine wk (tw @h1 (tw @h2 (tw @v1 (tw @v2 (tw @hm (tw @hg (tw @ho (tw @ao.eq_1 @ai.eq_1)))))))) ?_;(repeat(refine Pn.mk ?_;intro N hN))))
  exact eK (.inl rfl) (vs:=[.int .i64 (cP ts (ew ts p).toNat).cK]) (sd @Nat.zero_add) (by rw[gh,if_pos h0];rfl)
 ·have hm:=qt (ts:=ts) (p:=p) ab
  have ho:(none:Option Nat).isSome=false:=rfl
  (try((repeat(revert hN;revert N;apply Pn.out));refine wk (tw @h1 (tw @h2 (tw @v1 (tw @v2 (tw @hm (tw @ho @ao.eq_1)))))) ?_;(repeat(refine Pn.mk ?_;intro N hN))))
  exact eK (.inl rfl) (vs:=[.int .i64 (-1)]) (sd @Nat.zero_add) (by rw[gh,if_neg h0];rfl)
theorem Qi {σ:au} {c T O:Id} {s:aw} {ts:List aa} (h:Dm σ.get σ.next c T O s ts) (p:af):eB (Call Tryz.prog) 137 [.ptr c 0 0,.agg (ao p)] σ (fun r=>r=.int .i64 (gh ts p)):=by
 unfold eB PC
 exact Or.inl (bc _ _ _ _ _ (fun r σ' hr=>⟨_,by rw[hr];exact aP _ _ _ _,rfl⟩) (Xj (σ:=⟨V.ro σ.get,σ.next⟩) h.ro p))
theorem GV {σ:au} (s:aO) (hS:gO s) (F:af->Int) (hF:∀q,0<=F q->eA s (F q)=true) (p:af) (hx:iB p.fu) (hy:iB p.eW) (t:Int) (ht:eA s t=true) (f:Nat) (first:List AV)
  (y5:∀σ':au,σ.next<=σ'.next->(∀x:Id,x.cV<σ.next->σ'.get x=σ.get x)->∀q,eB (Call Tryz.prog) f (first++[.agg (ao q)]) σ' (fun r=>r=.int .i64 (F q))):
  Call Tryz.prog 138 [.agg (aj s),.agg (ao p),.int .i64 t,.tX f first] σ (fun r _=>r=.int .i64 (nn s F p t)):=by
 refine eX fC rfl fun fb=>?_
 clear fb
 (try((repeat(revert hN;revert N;apply Pn.out));refine wk (tw @ao.eq_1 @aj.eq_1) ?_;(repeat(refine Pn.mk ?_;intro N hN))))
 refine dc (fun n env st=>∃k:Nat,n=(4)-k/\k<=(4)/\env 12=.int .i64 (k:Int)/\env 9=.int .i64 (eC s F p t k)/\st.get ⟨138000000,σ.next⟩=some ⟨true,2,[aj s]⟩/\st.get ⟨138000001,σ.next⟩=some ⟨true,2,[ao p]⟩/\(σ.next<st.next/\∀x:Id,x.cV<σ.next->st.get x=σ.get x)) (4) ⟨0,ab,ab,sl (tw @ao.eq_1 @aj.eq_1),sl (tw @ao.eq_1 @aj.eq_1),sl (tw @ao.eq_1 @aj.eq_1),sl (tw @ao.eq_1 @aj.eq_1),⟨cD,fun x hx=>by
  have:=dF hx
  simp only[go_sem, ↓reduceIte,Nat.reduceEqDiff,Nat.reduceAdd,Nat.reduceSub,Nat.reduceLeDiff,reduceCtorEq,this]⟩⟩ ?_
 rintro n_a env_a st_a ⟨k,rfl,ale,a12,a9,ag0,ag1,qM⟩ eR
 have a2:=eR 2 (by kernel_rfl);have a3:=eR 3 (by kernel_rfl);have a4:=eR 4 (by kernel_rfl);have a5:=eR 5 (by kernel_rfl)
 simp only[go_sem, ↓reduceIte,Nat.reduceEqDiff,Nat.reduceAdd,Nat.reduceSub,Nat.reduceLeDiff,reduceCtorEq,ao,aj]at a2 a3 a4 a5
 clear eR
 obtain⟨an,eR⟩:=qM
 by_cases hk:(k:Int)<4
 ·have eF:∀{e:Env} {gg:Rows} {nx:Nat},(e 12=.int .i64 (IntKind.i64.wrap ((k:Int)+1)))->(e 9=.int .i64 (eC s F p t (k+1)))->(gg ⟨138000000,σ.next⟩=some ⟨true,2,[aj s]⟩)->(gg ⟨138000001,σ.next⟩=some ⟨true,2,[ao p]⟩)->(σ.next<nx/\∀x:Id,x.cV<σ.next->gg x=σ.get x)->∃m0,m0<(4)-k/\∃k:Nat,m0=(4)-k/\k<=(4)/\e 12=.int .i64 (k:Int)/\e 9=.int .i64 (eC s F p t k)/\gg ⟨138000000,σ.next⟩=some ⟨true,2,[aj s]⟩/\gg ⟨138000001,σ.next⟩=some ⟨true,2,[ao p]⟩/\(σ.next<nx/\∀x:Id,x.cV<σ.next->gg x=σ.get x):=fun x1 x2 x3 x4 x5=>⟨_,ab,k+1,rfl,ab,(by rw[x1,cE ab]),x2,x3,x4,x5⟩
  have ed:=Fo p k (jE ab) hx hy
  have im:=od hS F p t k
  (repeat(first|((repeat(revert hN;revert N;apply Pn.out));refine wk (tw @a12 (tw @a9 (tw @ag0 (tw @ag1 (tw @a2 (tw @a3 (tw @a4 (tw @a5 (tw @hk @ao.eq_1))))))))) ?_;(repeat(refine Pn.mk ?_;intro N hN)))|((try apply Or.inl);refine⟨_,az.x (ed) (sd (tw @a12 (tw @a9 (tw @ag0 (tw @ag1 (tw @a2 (tw @a3 (tw @a4 (tw @a5 (tw @hk @ao.eq_1)))))))))),?_⟩;refine hN _ _ ?_;clear hN N)))
  refine .inl ⟨_,y5 _ cD (fun x hx=>sd (eR x hx)) (cN p k),?_⟩
  refine hN _ _ ?_
  clear hN N
  by_cases h0:0<=F (cN p k)
  ·have IF:=Jy s hS.form t k (F (cN p k)) ht (hF _ h0) (jE ab)
   have qj:=BH hS t k (F (cN p k))
   have hw:IntKind.i64.wrap (eC s F p t k+fX s t k (F (cN p k)))=eC s F p t (k+1):=by
    rw[cH ab,eC,if_pos h0]
   rw[aj]at IF
   (repeat(first|((repeat(revert hN;revert N;apply Pn.out));refine wk (tw @a12 (tw @a9 (tw @ag0 (tw @ag1 (tw @a2 (tw @a3 (tw @a4 (tw @a5 (tw @h0 @aj.eq_1))))))))) ?_;(repeat(refine Pn.mk ?_;intro N hN)))|((try apply Or.inl);refine⟨_,az.x (IF) (sd (tw @a12 (tw @a9 (tw @ag0 (tw @ag1 (tw @a2 (tw @a3 (tw @a4 (tw @a5 (tw @h0 @aj.eq_1)))))))))),?_⟩;refine hN _ _ ?_;clear hN N)))
   refine eF ?_ ?_ ?_ ?_ (⟨cD,fun x hx=>by
    have h1:=eR x hx
    simp only[go_sem, ↓reduceIte,Nat.reduceEqDiff,Nat.reduceAdd,Nat.reduceSub,Nat.reduceLeDiff,reduceCtorEq,h1]⟩)
   all_goals simp only[go_sem, ↓reduceIte,Nat.reduceEqDiff,Nat.reduceAdd,Nat.reduceSub,Nat.reduceLeDiff,reduceCtorEq,a12,a9,ag0,ag1,a2,a3,a4,a5,hw,ao,aj]
  ·have hw:eC s F p t (k+1)=eC s F p t k:=by rw[eC,if_neg h0,Int.add_zero]
   (try((repeat(revert hN;revert N;apply Pn.out));refine wk (tw @a12 (tw @a9 (tw @ag0 (tw @ag1 (tw @a2 (tw @a3 (tw @a4 (tw @a5 @h0)))))))) ?_;(repeat(refine Pn.mk ?_;intro N hN))))
   refine eF ?_ ?_ ?_ ?_ (⟨cD,fun x hx=>by
    have h1:=eR x hx
    simp only[go_sem, ↓reduceIte,Nat.reduceEqDiff,Nat.reduceAdd,Nat.reduceSub,Nat.reduceLeDiff,reduceCtorEq,h1]⟩)
   all_goals simp only[go_sem, ↓reduceIte,Nat.reduceEqDiff,Nat.reduceAdd,Nat.reduceSub,Nat.reduceLeDiff,reduceCtorEq,a12,a9,ag0,ag1,a2,a3,a4,a5,hw,ao,aj]
 ·(try((repeat(revert hN;revert N;apply Pn.out));refine wk (tw @a12 (tw @a9 (tw @ag0 (tw @ag1 (tw @a2 (tw @a3 (tw @a4 (tw @a5 @hk)))))))) ?_;(repeat(refine Pn.mk ?_;intro N hN))))
  exact eK (.inl rfl) (vs:=[.int .i64 (eC s F p t k)]) (sd (tw @a12 (tw @a9 (tw @ag0 (tw @ag1 (tw @a2 (tw @a3 (tw @a4 @a5)))))))) (by rw[show k=4 by omega];rfl)
structure ni (n:Nat) (px:Nat->Option Nat) (L:Nat->Nat):Prop where
 top:∀k,k<n->px k=none->L k=k
 up:∀k j,k<n->px k=some j->j<k/\L j=L k
theorem ni.root {n:Nat} {px:Nat->Option Nat} {L:Nat->Nat} (h:ni n px L) (hL:jN L) {k:Nat} (hk:k<n) (hr:L k=k):px k=none:=by
 rcases hp:px k with _|j
 ·rfl
 ·obtain⟨h1,h2⟩:=h.up k j hk hp
  have:=hL.le j
  omega
theorem ni.start (n:Nat):ni n (fun _=>none) id:=⟨fun _ _ _=>rfl,fun _ _ _ h=>by cases h⟩
theorem ni.join {n:Nat} {px:Nat->Option Nat} {L:Nat->Nat} (h:ni n px L) (hL:jN L) (b:PB) (eJ:min (L b.a) (L b.b)<max (L b.a) (L b.b)):ni n (fun k=>if k=max (L b.a) (L b.b)then some (min (L b.a) (L b.b))else px k) (jn L b):=by
 have ha:=hL.idem b.a
 have hb:=hL.idem b.b
 have Hu:L (min (L b.a) (L b.b))=min (L b.a) (L b.b):=by
  rcases Nat.le_total (L b.a) (L b.b)with h|h
  ·rw[Nat.min_eq_left h,ha]
  ·rw[Nat.min_eq_right h,hb]
 have hmx:L (max (L b.a) (L b.b))=max (L b.a) (L b.b):=by
  rcases Nat.le_total (L b.a) (L b.b)with h|h
  ·rw[Nat.max_eq_right h,hb]
  ·rw[Nat.max_eq_left h,ha]
 unfold jn
 generalize min (L b.a) (L b.b)=lo at *
 generalize max (L b.a) (L b.b)=hi at *
 refine⟨fun k hk hp=>?_,fun k j hk hp=>?_⟩
 ·by_cases Mv:k=hi
  ·rw[if_pos Mv]at hp;cases hp
  ·rw[if_neg Mv]at hp
   have:=h.top k hk hp
   rw[if_neg ab];exact this
 ·by_cases Mv:k=hi
  ·rw[if_pos Mv]at hp
   cases hp
   subst Mv
   exact⟨eJ,by rw[if_neg ab,if_pos hmx,Hu]⟩
  ·rw[if_neg Mv]at hp
   obtain⟨h1,h2⟩:=h.up k j hk hp
   exact⟨h1,by rw[h2]⟩
theorem AN {L:Nat->Nat} {b:PB} (h:L b.a=L b.b):jn L b=L:=by
 funext k
 unfold jn
 rw[h,Nat.max_self,Nat.min_self]
 split
 ·rename_i h;exact h.symm
 ·rfl
def sG (G:Nat->Id) (px:Nat->Option Nat) (k:Nat):List AV:=[match px k with|none=>.gQ|some j=>.ptr (G j) 0 0,.int .i64 (k:Int)]
def ug (g:Rows) (G:Nat->Id) (n:Nat) (px:Nat->Option Nat):Prop:=∀k,k<n->g (G k)=some ⟨true,2,[sG G px k]⟩
theorem ug.frame {g g':Rows} {G:Nat->Id} {n:Nat} {px:Nat->Option Nat} (h:ug g G n px) (hf:∀k,k<n->g' (G k)=g (G k)):ug g' G n px:=fun k hk=>(hf k hk).trans (h k hk)
theorem ll {G:Nat->Id} {px:Nat->Option Nat} {k:Nat} (h:px k=none):sG G px k=[.gQ,.int .i64 (k:Int)]:=by rw[sG,h]
theorem tL {G:Nat->Id} {px:Nat->Option Nat} {k j:Nat} (h:px k=some j):sG G px k=[.ptr (G j) 0 0,.int .i64 (k:Int)]:=by rw[sG,h]
theorem As (G:Nat->Id) (n:Nat) (px:Nat->Option Nat) (L:Nat->Nat) (h:ni n px L) (k:Nat) (hk:k<n) (σ:au) (hG:ug σ.get G n px):
  Call Tryz.prog 152 [.ptr (G k) 0 0] σ fun r σ'=>r=.ptr (G (L k)) 0 0/\σ'.get=σ.get/\σ.next<=σ'.next:=by
 refine eX fC rfl fun hl=>?_
 clear hl
 (try((repeat(revert hN;revert N;apply Pn.out));refine wk @Nat.zero_add ?_;(repeat(refine Pn.mk ?_;intro N hN))))
 refine dc (fun m env st=>∃j:Nat,m=j/\j<n/\env 0=.ptr (G j) 0 0/\L j=L k/\st.get=σ.get/\σ.next<=st.next) k ⟨k,rfl,hk,sd @Nat.zero_add,rfl,by(try dsimp only),cD⟩ ?_
 rintro m env_b st_b ⟨j,rfl,hj,b0,hLj,hg,hle⟩ fG
 clear fG
 have fy:=hG m hj
 rcases hp:px m with _|j
 ·rw[ll hp]at fy
  (try((repeat(revert hN;revert N;apply Pn.out));refine wk (tw @b0 (tw @hg @fy)) ?_;(repeat(refine Pn.mk ?_;intro N hN))))
  exact eK (.inl rfl) (vs:=[.ptr (G m) 0 0]) (sd @Nat.zero_add) ⟨by rw[<-hLj,h.top m hj hp];rfl,by first|trivial|rfl|exact hg,cD⟩
 ·rw[tL hp]at fy
  obtain⟨h1,h2⟩:=h.up m j hj hp
  (try((repeat(revert hN;revert N;apply Pn.out));refine wk (tw @b0 (tw @hg @fy)) ?_;(repeat(refine Pn.mk ?_;intro N hN))))
  exact⟨j,h1,j,rfl,ab,sd @Nat.zero_add,ab,by first|trivial|rfl|exact hg,cD⟩
end Go.Proofs.YtalkncaokeaifaaGreatDoor.V

namespace Go.Proofs.YtalkncaokeaifaaGreatDoor.V
open Go.RowKit
attribute [local irreducible] dH wpOps eB Call
attribute [local go_sem] ax eo dS ez ev cZ upd bD K.av bR AV.cells AV.cell rowOf rowsOf part ld rowAt eL bz bx cW dj eO bf cC dw er ea cR dq cw cu da db bp aI bZ bj ck cj dn dr dp bW br cz dm bh ar cq bH eM aT bL bq aH cU aQ cX AV.undef aW bd de di cY c6 bJ dv dy bE du dt cm cr List.getD_cons_zero List.getD_cons_succ List.getD_nil List.all_cons List.all_nil Bool.and_true Bool.true_and Bool.and_self Bool.not_true Bool.not_false Option.map_some Option.map_none Option.bind_some Option.bind_none List.length_cons List.length_nil List.take_succ_cons List.take_zero List.take_nil List.drop_succ_cons List.drop_zero List.drop_nil List.head?_cons List.map_cons List.map_nil List.getElem?_cons_zero List.getElem?_cons_succ List.cons_append List.nil_append List.append_nil List.length_map List.set_cons_zero List.set_cons_succ eq_self Int.toNat_natCast Int.natCast_nonneg and_self true_and and_true decide_true decide_false Bool.false_eq_true Nat.zero_add Nat.add_zero List.contains_cons List.contains_nil Bool.or_false Bool.false_or beq_self_eq_true ne_eq not_true_eq_false not_false_eq_true Id.mk.injEq false_and and_false Nat.le_refl List.length_append beq_true beq_false Bool.not_eq_eq_eq_not or_false false_or dX ad ae aP aJ bt bI aD aS aA aL bU aZ
abbrev mI:MK:=⟨false,[.tI]⟩
def sP (l:List (Nat×Nat)):List (List AV):=l.map fun p=>[.int .i64 (p.1:Int),.int .i64 (p.2:Int)]
theorem Cz (r:Nat):∀(l:List (Nat×Nat)) (i:Nat),((∀p∈l,p.1≠r)->fK mI [.int .i64 (r:Int)] (sP l) i=some none)/\(∀j v,l[j]? =some (r,v)->(∀x y,x<j->l[x]? =some y->y.1≠r)->fK mI [.int .i64 (r:Int)] (sP l) i=some (some (i+j)))
 |[],i=>⟨fun _=>rfl,fun j v h=>by simp at h⟩
 |p::l,i=>by
  obtain⟨h1,h2⟩:=Cz r l (i+1)
  by_cases h:p.1=r
  ·refine⟨fun hp=>absurd h (hp p (by simp)),fun j v hj hf=>?_⟩
   have Ur:j=0:=by
    rcases Nat.eq_zero_or_pos j with h0|h0
    ·exact h0
    ·exact absurd h (hf 0 p h0 (by simp))
   subst Ur
   simp[sP,fK,ea,er,MK.ks,h]
  ·have hd:¬((r:Int)=(p.1:Int)):=ab
   have F4:¬r=p.1:=fun he=>h he.symm
   have step:fK mI [.int .i64 (r:Int)] (sP (p::l)) i=fK mI [.int .i64 (r:Int)] (sP l) (i+1):=by
    unfold sP
    simp[fK,MK.ks,ea,er,hd,F4,h]
   rw[step]
   refine⟨fun hp=>h1 fun q hq=>hp q (by simp[hq]),fun j v hj hf=>?_⟩
   cases j with
   |zero=>simp at hj;rw[hj]at h;exact absurd rfl h
   |succ j=>
    rw[h2 j v (by simpa using hj) fun x y hx hy=>hf (x+1) y ab (by simpa using hy)]
    congr 2;omega
theorem zd {r:Nat} {l:List (Nat×Nat)}:((∀p∈l,p.1≠r)->fq mI (.int .i64 (r:Int)) (sP l)=some none)/\(∀j v,l[j]? =some (r,v)->(∀x y,x<j->l[x]? =some y->y.1≠r)->fq mI (.int .i64 (r:Int)) (sP l)=some (some j)):=by
 have e:fq mI (.int .i64 (r:Int)) (sP l)=fK mI [.int .i64 (r:Int)] (sP l) 0:=by
  unfold fq
  rw[if_pos ⟨rfl,rfl,rfl⟩];rfl
 obtain⟨h1,h2⟩:=Cz r l 0
 rw[e]
 exact⟨h1,fun j v hj hf=>by rw[h2 j v hj hf,Nat.zero_add]⟩
def kE (k:Nat) (L:Nat->Nat):List (List AV):=sP (leads k L).zipIdx
theorem EJ {k:Nat} {L:Nat->Nat} (h:L k=k):kE (k+1) L=kE k L++[[.int .i64 (k:Int),.int .i64 ((leads k L).length:Int)]]:=by
 unfold kE
 rw[iu,if_pos h,List.zipIdx_append]
 simp[sP]
theorem EI {k:Nat} {L:Nat->Nat} (h:L k≠k):kE (k+1) L=kE k L:=by
 unfold kE
 rw[iu,if_neg h,List.append_nil]
theorem HK {k:Nat} {L:Nat->Nat} (h:L k=k):fq mI (.int .i64 (k:Int)) (kE k L)=some none:=by
 refine zd.1 fun p hp=>?_
 have:=List.fst_mem_of_mem_zipIdx hp
 have:=(zk.1 this).1
 omega
theorem zj {n:Nat} {L:Nat->Nat} {x y:Nat} (hx:x<(leads n L).length) (hy:y<(leads n L).length) (h:(leads n L)[x]=(leads n L)[y]):x=y:=by
 have hp:=List.pairwise_iff_getElem.1 (tV n L)
 rcases Nat.lt_trichotomy x y with eJ|he|eJ
 ·exact absurd h (hp x y hx hy eJ)
 ·exact he
 ·exact absurd h.symm (hp y x hy hx eJ)
theorem zi {k:Nat} {L:Nat->Nat} (hL:jN L) (h:L k≠k):fq mI (.int .i64 (L k:Int)) (kE k L)=some (some (dR L k))/\(kE k L)[dR L k]? =some [.int .i64 (L k:Int),.int .i64 (dR L k:Int)]/\dR L k<(leads k L).length:=by
 have eJ:L k<k:=Nat.lt_of_le_of_ne (hL.le k) h
 have hn:dR L (L k)=dR L k:=by rw[dR,hL.idem,dR]
 have hg:=pr hL eJ
 rw[hn,hL.idem]at hg
 have hl:dR L k<(leads k L).length:=(List.getElem?_eq_some_iff.1 hg).1
 have hz:(leads k L).zipIdx[dR L k]? =some (L k,dR L k):=by simp[List.getElem?_zipIdx,hg]
 refine⟨zd.2 _ _ hz fun x y hx hy=>?_,by unfold kE sP;rw[List.getElem?_map,hz];rfl,hl⟩
 intro he
 rw[List.getElem?_zipIdx]at hy
 have U0:x<(leads k L).length:=ab
 rw[List.getElem?_eq_getElem U0]at hy
 simp at hy
 rw[<-hy]at he
 simp at he
 have e2:(leads k L)[dR L k]=L k:=(List.getElem?_eq_some_iff.1 hg).2
 have:=zj U0 hl (he.trans e2.symm)
 omega
def jB (k:Nat) (L:Nat->Nat):List (List Nat):=(leads k L).map (members k L)
theorem qi (k:Nat) (L:Nat->Nat):(jB k L).length=(leads k L).length:=by simp[jB]
theorem Eh {k:Nat} {L:Nat->Nat} (hL:jN L) (h:L k=k):jB (k+1) L=jB k L++[[k]]:=by
 unfold jB
 rw[iu,if_pos h,List.map_append,List.map_cons,List.map_nil,kc,if_pos h,AQ hL (Nat.le_refl k),List.nil_append]
 congr 1
 refine List.map_congr_left fun r hr=>?_
 have:=(zk.1 hr).1
 rw[kc,if_neg ab,List.append_nil]
theorem Ei {k:Nat} {L:Nat->Nat} (hL:jN L) (h:L k≠k):(jB k L)[dR L k]? =some (members k L (L k))/\jB (k+1) L=(jB k L).set (dR L k) (members k L (L k)++[k]):=by
 obtain⟨_,_,hl⟩:=zi hL h
 have eJ:L k<k:=Nat.lt_of_le_of_ne (hL.le k) h
 have hg:=pr hL eJ
 have hn:dR L (L k)=dR L k:=by rw[dR,hL.idem,dR]
 rw[hn,hL.idem]at hg
 refine⟨by unfold jB;rw[List.getElem?_map,hg];rfl,?_⟩
 unfold jB
 rw[iu,if_neg h,List.append_nil]
 refine List.ext_getElem? fun i=>?_
 rw[List.getElem?_set,List.getElem?_map,List.length_map]
 by_cases hi:dR L k=i
 ·subst hi
  rw[if_pos rfl,if_pos hl,hg,Option.map_some,kc,if_pos rfl]
 ·rw[if_neg hi,List.getElem?_map]
  rcases hr:(leads k L)[i]? with _|r
  ·rfl
  ·rw[Option.map_some,Option.map_some,kc,if_neg,List.append_nil]
   rintro rfl
   obtain⟨pN,he⟩:=List.getElem?_eq_some_iff.1 hr
   have e2:(leads k L)[dR L k]=L k:=(List.getElem?_eq_some_iff.1 hg).2
   exact hi (zj hl pN (e2.trans he.symm))
theorem CH (k:Nat) (L:Nat->Nat) (r:Nat):(members k L r).length<=k:=by
 have:=List.length_filter_le (fun x=>L x==r) (List.range k)
 simpa[members]using this
def Ml (g:Rows) (o:Id) (L:List (List Nat)) (nx:Nat):Prop:=∃rows ids,g o=some ⟨true,1,rows⟩/\fH Xd g rows L ids/\ids.Nodup/\(∀i∈ids,i.site=128026008/\i.cV<nx)/\o.site=128025002/\o.cV<nx
theorem Nn {g':Rows} {v v' IS j:Nat} (h1:g' ⟨128025002,v⟩=some ⟨true,1,[[.own ⟨128026008,v'⟩ 0 1]]⟩) (h2:g' ⟨128026008,v'⟩=some ⟨true,1,[eN j]⟩) (hv:v<IS) (nO:v'<IS):Ml g' ⟨128025002,v⟩ [[j]] IS:=
 ⟨_,[⟨128026008,v'⟩],h1,.one ⟨_,rfl,h2,rfl⟩,by simp,fun i hi=>by rw[List.mem_singleton.1 hi];exact⟨rfl,nO⟩,rfl,hv⟩
theorem Ml.new {g:Rows} {o:Id} {L:List (List Nat)} {nx:Nat} (h:Ml g o L nx) (j:Nat):∃rows,g o=some ⟨true,1,rows⟩/\rows.length=L.length/\∀(g':Rows) (v v' IS:Nat),nx<=v'->v<IS->v'<IS->g' ⟨128025002,v⟩=some ⟨true,1,rows++[[.own ⟨128026008,v'⟩ 0 1]]⟩->g' ⟨128026008,v'⟩=some ⟨true,1,[eN j]⟩->(∀i:Id,i.site=128026008->i.cV<nx->g' i=g i)->Ml g' ⟨128025002,v⟩ (L++[[j]]) IS:=by
 obtain⟨rows,ids,h1,h2,h3,h4,h5,h6⟩:=h
 refine⟨rows,h1,h2.len,fun g' v v' IS hv pq IM q1 q2 q3=>⟨_,ids++[⟨128026008,v'⟩],q1,(h2.frame Vb fun i hi=>q3 i (h4 i hi).1 (h4 i hi).2).app (.one ⟨_,rfl,q2,rfl⟩),?_,fun i hi=>?_,rfl,pq⟩⟩
 ·refine List.nodup_append.2 ⟨h3,by simp,fun a ha b hb rj=>?_⟩
  rw[List.mem_singleton.1 hb]at rj
  have:=(h4 a ha).2
  rw[rj]at this
  simp only at this
  omega
 ·rcases List.mem_append.1 hi with hi|hi
  ·have:=h4 i hi;exact⟨this.1,ab⟩
  ·rw[List.mem_singleton.1 hi];exact⟨rfl,IM⟩
theorem Ml.add {g:Rows} {o:Id} {L:List (List Nat)} {nx k:Nat} {La:List Nat} (h:Ml g o L nx) (hk:L[k]? =some La) (j:Nat):∃rows id,g o=some ⟨true,1,rows⟩/\rows.length=L.length/\rows[k]? =some [.own id 0 La.length]/\g id=some ⟨true,1,La.map eN⟩/\id.site=128026008/\id.cV<nx/\∀(g':Rows) (v' IS:Nat),nx<=v'->v'<IS->g' o=some ⟨true,1,rows.set k [.own ⟨128026008,v'⟩ 0 (La.length+1)]⟩->g' ⟨128026008,v'⟩=some ⟨true,1,La.map eN++[[.int .i64 (j:Int)]]⟩->(∀i:Id,i.site=128026008->i.cV<nx->(i=id)=False->g' i=g i)->Ml g' o (L.set k (La++[j])) IS:=by
 obtain⟨rows,ids,h1,h2,h3,h4,h5,h6⟩:=h
 have mN:k<L.length:=(List.getElem?_eq_some_iff.1 hk).1
 have hLk:=vY hk mN
 obtain⟨cs,ic,dW,hRv,SH,rq⟩:=h2.YZ Vb h3 k mN
 rw[hLk]at hRv
 obtain⟨id,rfl,q1,rfl⟩:=hRv
 have hid:=h4 id (SH id (by simp))
 refine⟨rows,id,h1,h2.len,dW,q1,hid.1,hid.2,fun g' v' IS hv pq r1 r2 r3=>?_⟩
 obtain⟨Kv,s1,s2,s3⟩:=rq g' [.own ⟨128026008,v'⟩ 0 (La.length+1)] (La++[j]) [⟨128026008,v'⟩] ⟨_,by simp,by rw[r2];simp[eN],rfl⟩ (fun i hi Yo=>r3 i (h4 i hi).1 (h4 i hi).2 (by
  simp only[eq_iff_iff,iff_false];rintro rfl;exact Yo (by simp))) (by simp) fun i hi hc=>by
   rw[List.mem_singleton.1 hi]at hc
   have:=(h4 _ hc).2
   simp only at this
   omega
 refine⟨_,Kv,r1,s1,s2,fun i hi=>?_,h5,ab⟩
 rcases s3 i hi with h|h
 ·rw[List.mem_singleton.1 h];exact⟨rfl,pq⟩
 ·have:=h4 i h;exact⟨this.1,ab⟩
def lO (G:Nat->Id) (n k:Nat):List (List AV):=(List.range n).map fun i=>[if i<k then .ptr (G i) 0 0 else .gQ]
theorem mz (G:Nat->Id) (n k:Nat):(lO G n k).length=n:=by simp[lO]
theorem Ik (G:Nat->Id) (n:Nat):List.replicate n [AV.gQ]=lO G n 0:=by
 refine List.ext_getElem? fun i=>?_
 by_cases h:i<n
 ·rw[List.getElem?_replicate,if_pos h];simp[lO,h]
 ·rw[List.getElem?_eq_none (by simp;omega),List.getElem?_eq_none (by rw[mz];omega)]
theorem xE {G:Nat->Id} {n i:Nat} (h:i<n):(lO G n n)[i]? =some [.ptr (G i) 0 0]:=by simp[lO,h]
theorem LU {G:Nat->Id} {n k:Nat} (h:k<n):(lO G n k).set k [.ptr (G k) 0 0]=lO G n (k+1):=by
 refine List.ext_getElem? fun i=>?_
 rw[List.getElem?_set,mz]
 by_cases hi:k=i
 ·subst hi;rw[if_pos rfl,if_pos h];simp[lO,h]
 ·rw[if_neg hi]
  by_cases im:i<n
  ·simp only[lO,List.getElem?_map,List.getElem?_range im,Option.map_some]
   by_cases Dt:i<k
   ·rw[if_pos Dt,if_pos ab]
   ·rw[if_neg Dt,if_neg ab]
  ·rw[List.getElem?_eq_none (by rw[mz];omega),List.getElem?_eq_none (by rw[mz];omega)]
end Go.Proofs.YtalkncaokeaifaaGreatDoor.V

namespace Go.Proofs.YtalkncaokeaifaaGreatDoor.V
open Go.RowKit
attribute [local irreducible] dH wpOps eB Call
attribute [local go_sem] ax eo dS ez ev cZ upd bD K.av bR AV.cells AV.cell rowOf rowsOf part ld rowAt eL bz bx cW dj eO bf cC dw er ea cR dq cw cu da db bp aI bZ bj ck cj dn dr dp bW br cz dm bh ar cq bH eM aT bL bq aH cU aQ cX AV.undef aW bd de di cY c6 bJ dv dy bE du dt cm cr List.getD_cons_zero List.getD_cons_succ List.getD_nil List.all_cons List.all_nil Bool.and_true Bool.true_and Bool.and_self Bool.not_true Bool.not_false Option.map_some Option.map_none Option.bind_some Option.bind_none List.length_cons List.length_nil List.take_succ_cons List.take_zero List.take_nil List.drop_succ_cons List.drop_zero List.drop_nil List.head?_cons List.map_cons List.map_nil List.getElem?_cons_zero List.getElem?_cons_succ List.cons_append List.nil_append List.append_nil List.length_map List.set_cons_zero List.set_cons_succ Nat.reduceMul eq_self Int.toNat_natCast Int.natCast_nonneg and_self true_and and_true decide_true decide_false Bool.false_eq_true Nat.zero_add Nat.add_zero List.contains_cons List.contains_nil Bool.or_false Bool.false_or beq_self_eq_true Nat.reduceBEq ne_eq not_true_eq_false not_false_eq_true Id.mk.injEq false_and and_false Nat.reduceLT Int.reduceLE Int.reduceLT Int.reduceToNat Int.reduceNeg Int.reduceAdd Nat.le_refl List.length_append beq_true beq_false Bool.not_eq_eq_eq_not or_false false_or dX ad ae aP aJ bt bI aD aS aA aL bU aZ
theorem eY {o:Id} {a:Nat} (h:o.site=a) {b v:Nat} (rj:(a==b)=false):(o=⟨b,v⟩)=False/\((⟨b,v⟩:Id)=o)=False:=by
 have h1:=Gy h (v:=v) rj
 refine⟨h1,?_⟩
 simp only[eq_iff_iff,iff_false]at h1 ⊢
 exact fun h=>h1 h.symm
theorem vZ (cnt:Nat) (pn:1<=cnt) (hn:cnt<=1048576) (bs:List PB) (hb:∀b∈bs,b.a<cnt/\b.b<cnt) (iY:bs.length<=1048576):az Tryz.prog 128 [.int .i64 cnt,.sl (bs.map dz)] (.sl ((iJ cnt (fP bs)).map JG)):=by
 intro n0
 refine IW Qr rfl fun hl=>?_
 simp only[Zf,Zg,Zh]
 try simp only[q]
 clear hl
 have jt:(0:Int)<=(cnt:Int):=ab
 have oH:(cnt:Int)<=((16777216:Nat):Int):=ab
 obtain⟨G,hG⟩:∃G:Nat->Id,G=fun k=>⟨128005004,n0+3+4*k+2⟩:=⟨_,rfl⟩
 have Wp:∀k,(G k).site=128005004:=fun k=>by rw[hG]
 have XH:∀k,(G k).cV=n0+3+4*k+2:=fun k=>by rw[hG]
 have XF:∀i j,i≠j->(G i=G j)=False:=fun i j h=>by
  simp only[eq_iff_iff,iff_false]
  intro he
  have h1:=XH i
  rw[he,XH j]at h1
  omega
 have Ns:∀i s v,(128005004==s)=false->(G i=⟨s,v⟩)=False:=fun i s v h=>Gy (Wp i) h
 have hz:=Ik G cnt
 (try((repeat(revert hN;revert N;apply Pn.out));refine wk (tw @jt (tw @oH (tw @Int.le_refl @hz))) ?_;(repeat(refine Pn.mk ?_;intro N hN))))
 refine dc (fun n env st=>∃k:Nat,n=(cnt)-k/\k<=(cnt)/\env 21=.int .i64 (k:Int)/\st.get ⟨128001001,n0+1⟩=some ⟨true,1,lO G cnt k⟩/\(st.next=n0+3+4*k/\∀j:Nat,j<k->st.get (G j)=some ⟨true,2,[[.gQ,.int .i64 (j:Int)]]⟩)) (cnt) ⟨0,ab,ab,sl @hz,sl @hz,⟨rfl,fun j hj=>ab⟩⟩ ?_
 rintro n_a env_a st_a ⟨k,rfl,ale,a21,ag0,qM⟩ eR
 have a0:=eR 0 (by kernel_rfl);have a1:=eR 1 (by kernel_rfl);have a5:=eR 5 (by kernel_rfl);have Qf:=eR 19 (by kernel_rfl);have a20:=eR 20 (by kernel_rfl)
 simp only[go_sem, ↓reduceIte,Nat.reduceEqDiff,Nat.reduceAdd,Nat.reduceSub,Nat.reduceLeDiff,reduceCtorEq,hz]at a0 a1 a5 Qf a20
 clear eR
 obtain⟨qM,xQ⟩:=qM
 by_cases hk:(k:Int)<(cnt:Int)
 ·have eF:∀{e:Env} {gg:Rows} {nx:Nat},(e 21=.int .i64 (IntKind.i64.wrap ((k:Int)+1)))->(gg ⟨128001001,n0+1⟩=some ⟨true,1,lO G cnt (k+1)⟩)->(nx=n0+3+4*(k+1)/\∀j:Nat,j<(k+1)->gg (G j)=some ⟨true,2,[[.gQ,.int .i64 (j:Int)]]⟩)->∃m0,m0<(cnt)-k/\∃k:Nat,m0=(cnt)-k/\k<=(cnt)/\e 21=.int .i64 (k:Int)/\gg ⟨128001001,n0+1⟩=some ⟨true,1,lO G cnt k⟩/\(nx=n0+3+4*k/\∀j:Nat,j<k->gg (G j)=some ⟨true,2,[[.gQ,.int .i64 (j:Int)]]⟩):=fun x1 x2 x3=>⟨_,ab,k+1,rfl,ab,(by rw[x1,cE ab]),x2,x3⟩
  have jv:k<cnt:=ab
  have tl:=mz G cnt k
  have iL:=LU (G:=G) jv
  have je:(lO G cnt k)[k]? =some [.gQ]:=by simp[lO,jv]
  have Wn:(⟨128005004,st_a.next+1+1⟩:Id)=G k:=by rw[hG,qM]
  have hGf:∀j,j<k->(G j=G k)=False:=fun j hj=>XF j k ab
  have AB:∀j,(G j=(⟨128001001,n0+1⟩:Id))=False:=fun j=>Ns j _ _ (by decide)
  have Ek:∀j,((⟨128001001,n0+1⟩:Id)=G j)=False:=fun j=>by
   have:=AB j
   simp only[eq_iff_iff,iff_false]at this ⊢
   exact fun h=>this h.symm
  (try((repeat(revert hN;revert N;apply Pn.out));refine wk (tw @a21 (tw @ag0 (tw @a0 (tw @a1 (tw @a5 (tw @Qf (tw @a20 (tw @hk (tw @tl (tw @Wn (tw @AB (tw @Ek (tw @iL @je))))))))))))) ?_;(repeat(refine Pn.mk ?_;intro N hN))))
  refine eF ?_ ?_ (by
   refine⟨by(try dsimp only)<;>omega,fun j hj=>?_⟩
   by_cases F5:j=k
   ·subst F5;simp only[go_sem, ↓reduceIte,Nat.reduceEqDiff,Nat.reduceAdd,Nat.reduceSub,Nat.reduceLeDiff,reduceCtorEq,Wn,AB,Ek]
   ·have hold:=xQ j ab
    have gZ:=hGf j ab
    simp only[go_sem, ↓reduceIte,Nat.reduceEqDiff,Nat.reduceAdd,Nat.reduceSub,Nat.reduceLeDiff,reduceCtorEq,Wn,AB,Ek,gZ,hold])
  all_goals simp only[go_sem, ↓reduceIte,Nat.reduceEqDiff,Nat.reduceAdd,Nat.reduceSub,Nat.reduceLeDiff,reduceCtorEq,a21,ag0,a0,a1,a5,Qf,a20,Wn,AB,Ek,iL]
 have mN:cnt=k:=ab
 subst mN
 (try((repeat(revert hN;revert N;apply Pn.out));refine wk (tw @a21 (tw @ag0 (tw @a0 (tw @a1 (tw @a5 (tw @Qf (tw @a20 @hk))))))) ?_;(repeat(refine Pn.mk ?_;intro N hN))))
 refine dc (fun n env st=>∃i:Nat,n=(bs.length)-i/\i<=(bs.length)/\env 33=.int .i64 (i:Int)/\st.get ⟨128001001,n0+1⟩=some ⟨true,1,lO G cnt cnt⟩/\(n0+3+4*cnt<=st.next)/\(∃px,ni cnt px (fP (bs.take i))/\ug st.get G cnt px)) (bs.length) ⟨0,ab,ab,sl (tw @a21 (tw @ag0 (tw @a0 (tw @a1 (tw @a5 (tw @Qf @a20)))))),sl (tw @a21 (tw @ag0 (tw @a0 (tw @a1 (tw @a5 (tw @Qf @a20)))))),cD,⟨fun _=>none,ni.start cnt,xQ⟩⟩ ?_
 rintro n_b env_b st_b ⟨i,rfl,ble,lP,bg0,bI0,bI1⟩ fG
 have b0:=fG 0 (by kernel_rfl);have b1:=fG 1 (by kernel_rfl);have b5:=fG 5 (by kernel_rfl);have yI:=fG 31 (by kernel_rfl);have tx:=fG 32 (by kernel_rfl)
 simp only[go_sem, ↓reduceIte,Nat.reduceEqDiff,Nat.reduceAdd,Nat.reduceSub,Nat.reduceLeDiff,reduceCtorEq,a21,ag0,a0,a1,a5,Qf,a20]at b0 b1 b5 yI tx
 clear fG
 obtain⟨px,My,Wo⟩:=bI1
 have tl:=mz G cnt cnt
 have TK:∀j v,(G j=(⟨128009002,v⟩:Id))=False:=fun j v=>Ns j _ v (by decide)
 have AB:∀j v,(G j=(⟨128001001,v⟩:Id))=False:=fun j v=>Ns j _ v (by decide)
 have Ek:∀j v,((⟨128001001,v⟩:Id)=G j)=False:=fun j v=>by
  have:=AB j v
  simp only[eq_iff_iff,iff_false]at this ⊢
  exact fun h=>this h.symm
 have hGn:∀j,j<cnt->(G j).cV<st_b.next:=fun j hj=>by rw[XH];omega
 by_cases hi:(i:Int)<(bs.length:Int)
 ·have gi:∀{e:Env} {gg:Rows} {nx:Nat},(e 33=.int .i64 (IntKind.i64.wrap ((i:Int)+1)))->(gg ⟨128001001,n0+1⟩=some ⟨true,1,lO G cnt cnt⟩)->(n0+3+4*cnt<=nx)->(∃px,ni cnt px (fP (bs.take (i+1)))/\ug gg G cnt px)->∃m0,m0<(bs.length)-i/\∃i:Nat,m0=(bs.length)-i/\i<=(bs.length)/\e 33=.int .i64 (i:Int)/\gg ⟨128001001,n0+1⟩=some ⟨true,1,lO G cnt cnt⟩/\(n0+3+4*cnt<=nx)/\(∃px,ni cnt px (fP (bs.take i))/\ug gg G cnt px):=fun x1 x2 x3 x4=>⟨_,ab,i+1,rfl,ab,(by rw[x1,cE ab]),x2,x3,x4⟩
  have im:i<bs.length:=ab
  have Et:(bs.map dz)[i]? =some (dz bs[i]):=by simp[im]
  have Ho:=hb _ (List.getElem_mem im)
  have tR:bs.take (i+1)=bs.take i++[bs[i]]:=List.take_succ_eq_append_getElem im
  have F8:fP (bs.take (i+1))=jn (fP (bs.take i)) bs[i]:=by rw[tR,EG]
  have hL:=CE (bs.take i)
  generalize fP (bs.take i)=L at *
  generalize bs[i]=b at *
  have gA:=xE (G:=G) Ho.1
  have gB:=xE (G:=G) Ho.2
  have Em:(b.a:Int)<(cnt:Int):=ab
  have qj:(b.b:Int)<(cnt:Int):=ab
  (try((repeat(revert hN;revert N;apply Pn.out));refine wk (tw @lP (tw @bg0 (tw @b0 (tw @b1 (tw @b5 (tw @yI (tw @tx (tw @hi (tw @Et (tw @dz.eq_1 (tw @gA (tw @gB (tw @Em (tw @qj @tl)))))))))))))) ?_;(repeat(refine Pn.mk ?_;intro N hN))))
  refine Sf (fun e s=>e 0=.int .i64 cnt/\e 1=.sl (bs.map dz)/\e 5=.own ⟨128001001,n0+1⟩ 0 cnt/\e 31=.sl (bs.map dz)/\e 32=.int .i64 bs.length/\e 33=.int .i64 i/\e 9=.ptr (G (L b.a)) 0 0/\e 10=.ptr (G (L b.b)) 0 0/\(∀j:Id,j.cV<st_b.next->s.get j=st_b.get j)/\st_b.next<=s.next) ?_ ?_
  ·rintro e1 s1 ⟨m0,m1,m5,m31,m32,m33,m9,m10,mf,mn⟩
   refine hN _ _ ?_
   clear hN N
   have mG:ug s1.get G cnt px:=Wo.frame fun k hk=>mf _ (hGn k hk)
   have mt:=(mf ⟨128001001,n0+1⟩ cD).trans bg0
   have Yd:L b.a<cnt:=Nat.lt_of_le_of_lt (hL.le _) Ho.1
   have Uy:L b.b<cnt:=Nat.lt_of_le_of_lt (hL.le _) Ho.2
   have ra:=mG _ Yd
   have rb:=mG _ Uy
   rw[ll (My.root hL Yd (hL.idem _))]at ra
   rw[ll (My.root hL Uy (hL.idem _))]at rb
   have put:∀(g':Rows) (lo hi:Nat),hi<cnt->g' (G hi)=some ⟨true,2,[[.ptr (G lo) 0 0,.int .i64 (hi:Int)]]⟩->(∀k,k≠hi->k<cnt->g' (G k)=s1.get (G k))->ug g' G cnt (fun k=>if k=hi then some lo else px k):=fun g' lo hi _ h1 h2 k hk=>by
    by_cases Mv:k=hi
    ·subst Mv;rw[h1,tL (j:=lo) (if_pos rfl)]
    ·rw[h2 k Mv hk,mG k hk]
     unfold sG
     simp only[if_neg Mv]
   rcases Nat.lt_trichotomy (L b.a) (L b.b)with eJ|heq|eJ
   ·have Q7:(L b.a:Int)<(L b.b:Int):=ab
    have hj:=My.join hL b ab
    rw[Nat.max_eq_right ab,Nat.min_eq_left ab,<-F8]at hj
    (try((repeat(revert hN;revert N;apply Pn.out));refine wk (tw @m0 (tw @m1 (tw @m5 (tw @m31 (tw @m32 (tw @m33 (tw @m9 (tw @m10 (tw @ra (tw @rb @Q7)))))))))) ?_;(repeat(refine Pn.mk ?_;intro N hN))))
    refine gi ?_ ?_ cD (⟨_,hj,put _ _ _ Uy (sd @Nat.zero_add) (fun k hk _=>by
     have gZ:=XF k _ hk
     simp only[go_sem, ↓reduceIte,Nat.reduceEqDiff,Nat.reduceAdd,Nat.reduceSub,Nat.reduceLeDiff,reduceCtorEq,gZ])⟩)
    all_goals simp only[go_sem, ↓reduceIte,Nat.reduceEqDiff,Nat.reduceAdd,Nat.reduceSub,Nat.reduceLeDiff,reduceCtorEq,m0,m1,m5,m31,m32,m33,mt,AB,Ek]
   ·have pn:¬(L b.a:Int)<(L b.b:Int):=ab
    have Cp:¬(L b.b:Int)<(L b.a:Int):=ab
    have PD:=AN heq
    rw[PD]at F8
    (try((repeat(revert hN;revert N;apply Pn.out));refine wk (tw @m0 (tw @m1 (tw @m5 (tw @m31 (tw @m32 (tw @m33 (tw @m9 (tw @m10 (tw @ra (tw @rb (tw @pn @Cp))))))))))) ?_;(repeat(refine Pn.mk ?_;intro N hN))))
    refine gi ?_ ?_ cD (⟨_,F8▸My,mG.frame fun k hk=>rfl⟩)
    all_goals simp only[go_sem, ↓reduceIte,Nat.reduceEqDiff,Nat.reduceAdd,Nat.reduceSub,Nat.reduceLeDiff,reduceCtorEq,m0,m1,m5,m31,m32,m33,mt]
   ·have Q7:(L b.b:Int)<(L b.a:Int):=ab
    have pn:¬(L b.a:Int)<(L b.b:Int):=ab
    have hj:=My.join hL b ab
    rw[Nat.max_eq_left ab,Nat.min_eq_right ab,<-F8]at hj
    (try((repeat(revert hN;revert N;apply Pn.out));refine wk (tw @m0 (tw @m1 (tw @m5 (tw @m31 (tw @m32 (tw @m33 (tw @m9 (tw @m10 (tw @ra (tw @rb (tw @Q7 @pn))))))))))) ?_;(repeat(refine Pn.mk ?_;intro N hN))))
    refine gi ?_ ?_ cD (⟨_,hj,put _ _ _ Yd (sd @Nat.zero_add) (fun k hk _=>by
     have gZ:=XF k _ hk
     simp only[go_sem, ↓reduceIte,Nat.reduceEqDiff,Nat.reduceAdd,Nat.reduceSub,Nat.reduceLeDiff,reduceCtorEq,gZ])⟩)
    all_goals simp only[go_sem, ↓reduceIte,Nat.reduceEqDiff,Nat.reduceAdd,Nat.reduceSub,Nat.reduceLeDiff,reduceCtorEq,m0,m1,m5,m31,m32,m33,mt,AB,Ek]
  ·intro N hN
   refine xO ?_ ?_<;>(try((repeat(revert hN;revert N;apply Pn.out));refine wk (tw @lP (tw @bg0 (tw @b0 (tw @b1 (tw @b5 (tw @yI (tw @tx (tw @hi (tw @Et (tw @dz.eq_1 (tw @gA (tw @gB (tw @Em (tw @qj @tl)))))))))))))) ?_;(repeat(refine Pn.mk ?_;intro N hN))))<;>(try refine xO ?_ ?_)<;>(try((repeat(revert hN;revert N;apply Pn.out));refine wk (tw @lP (tw @bg0 (tw @b0 (tw @b1 (tw @b5 (tw @yI (tw @tx (tw @hi (tw @Et (tw @dz.eq_1 (tw @gA (tw @gB (tw @Em (tw @qj @tl)))))))))))))) ?_;(repeat(refine Pn.mk ?_;intro N hN))))<;>(try refine xO ?_ ?_)<;>(try((repeat(revert hN;revert N;apply Pn.out));refine wk (tw @lP (tw @bg0 (tw @b0 (tw @b1 (tw @b5 (tw @yI (tw @tx (tw @hi (tw @Et (tw @dz.eq_1 (tw @gA (tw @gB (tw @Em (tw @qj @tl)))))))))))))) ?_;(repeat(refine Pn.mk ?_;intro N hN))))
   all_goals
    refine .inr (bc _ _ _ _ _ (fun r σ1 hq=>?_) (As G cnt px L My b.a Ho.1 _ (Wo.frame fun k hk=>sd @TK)))
    obtain⟨g1,x1⟩:=σ1
    obtain⟨rfl,xR,Ht⟩:=hq
    (try dsimp only at xR Ht)
    subst xR
    refine hN _ _ ?_
    clear hN N
    (try((repeat(revert hN;revert N;apply Pn.out));refine wk (tw @lP (tw @bg0 (tw @b0 (tw @b1 (tw @b5 (tw @yI (tw @tx (tw @hi (tw @Et (tw @dz.eq_1 (tw @gA (tw @gB (tw @Em (tw @qj @tl)))))))))))))) ?_;(repeat(refine Pn.mk ?_;intro N hN))))
    refine .inr (bc _ _ _ _ _ (fun r σ1 hq=>?_) (As G cnt px L My b.b Ho.2 _ (Wo.frame fun k hk=>sd @TK)))
    obtain⟨g1,x2⟩:=σ1
    obtain⟨rfl,xR,qm⟩:=hq
    (try dsimp only at xR qm)
    subst xR
    refine hN _ _ ?_
    clear hN N
    (try((repeat(revert hN;revert N;apply Pn.out));refine wk (tw @lP (tw @bg0 (tw @b0 (tw @b1 (tw @b5 (tw @yI (tw @tx (tw @hi (tw @Et (tw @dz.eq_1 (tw @gA (tw @gB (tw @Em (tw @qj @tl)))))))))))))) ?_;(repeat(refine Pn.mk ?_;intro N hN))))
    exact⟨sd (tw @lP (tw @bg0 (tw @b0 (tw @b1 (tw @b5 (tw @yI @tx)))))),sd (tw @lP (tw @bg0 (tw @b0 (tw @b1 (tw @b5 (tw @yI @tx)))))),sd (tw @lP (tw @bg0 (tw @b0 (tw @b1 (tw @b5 (tw @yI @tx)))))),sd (tw @lP (tw @bg0 (tw @b0 (tw @b1 (tw @b5 (tw @yI @tx)))))),sd (tw @lP (tw @bg0 (tw @b0 (tw @b1 (tw @b5 (tw @yI @tx)))))),sd (tw @lP (tw @bg0 (tw @b0 (tw @b1 (tw @b5 (tw @yI @tx)))))),sd (tw @lP (tw @bg0 (tw @b0 (tw @b1 (tw @b5 (tw @yI @tx)))))),sd (tw @lP (tw @bg0 (tw @b0 (tw @b1 (tw @b5 (tw @yI @tx)))))),fun j hj=>by
     have hv:=dF hj
     simp only[go_sem, ↓reduceIte,Nat.reduceEqDiff,Nat.reduceAdd,Nat.reduceSub,Nat.reduceLeDiff,reduceCtorEq,hv],cD⟩
 have pN:i=bs.length:=ab
 subst pN
 rw[List.take_length]at My
 have hL:=CE bs
 generalize fP bs=L at *
 (try((repeat(revert hN;revert N;apply Pn.out));refine wk (tw @lP (tw @bg0 (tw @b0 (tw @b1 (tw @b5 (tw @yI (tw @tx (tw @hi @tl)))))))) ?_;(repeat(refine Pn.mk ?_;intro N hN))))
 have l0:kE 0 L=[]:=rfl
 have oS:(none:Option Nat).isSome=false:=rfl
 have oT:∀a:Nat,(some a).isSome=true:=fun _=>rfl
 refine dc (fun n env st=>∃x:Nat,n=(cnt)-x/\x<=(cnt)/\env 81=.int .i64 (x:Int)/\st.get ⟨128001001,n0+1⟩=some ⟨true,1,lO G cnt cnt⟩/\st.get ⟨128017000,st_b.next+1+1⟩=some ⟨true,mI.j4,kE x L⟩/\(st_b.next+3<=st.next/\ug st.get G cnt px)/\((x=0/\env 11=.bP)∨∃o:Id,env 11=.own o 0 (leads x L).length/\Ml st.get o (jB x L) st.next)) (cnt) ⟨0,ab,ab,sl (tw @lP (tw @bg0 (tw @b0 (tw @b1 (tw @b5 (tw @yI (tw @tx @l0))))))),sl (tw @lP (tw @bg0 (tw @b0 (tw @b1 (tw @b5 (tw @yI (tw @tx @l0))))))),sl (tw @lP (tw @bg0 (tw @b0 (tw @b1 (tw @b5 (tw @yI (tw @tx @l0))))))),⟨cD,Wo.frame fun k hk=>by(have gZ:=Ns k 128017000 (st_b.next+1+1) (by decide));simp only[go_sem, ↓reduceIte,Nat.reduceEqDiff,Nat.reduceAdd,Nat.reduceSub,Nat.reduceLeDiff,reduceCtorEq,gZ]⟩,.inl ⟨rfl,sd @Nat.zero_add⟩⟩ ?_
 rintro n_c env_c st_c ⟨x,rfl,cle,c81,cg0,cg1,cI0,cI1⟩ cfr
 have M0:=cfr 12 (by kernel_rfl);have M1:=cfr 79 (by kernel_rfl);have M3:=cfr 80 (by kernel_rfl)
 simp only[go_sem, ↓reduceIte,Nat.reduceEqDiff,Nat.reduceAdd,Nat.reduceSub,Nat.reduceLeDiff,reduceCtorEq,lP,bg0,b0,b1,b5,yI,tx,l0]at M0 M1 M3
 clear cfr
 obtain⟨wi,Ti⟩:=cI0
 have QQ:∀j v,(G j=(⟨128017000,v⟩:Id))=False:=fun j v=>Ns j _ v (by decide)
 have QM:∀j v,(G j=(⟨128025002,v⟩:Id))=False:=fun j v=>Ns j _ v (by decide)
 have QO:∀j v,(G j=(⟨128025001,v⟩:Id))=False:=fun j v=>Ns j _ v (by decide)
 have QP:∀j v,(G j=(⟨128026007,v⟩:Id))=False:=fun j v=>Ns j _ v (by decide)
 have QN:∀j v,(G j=(⟨128026008,v⟩:Id))=False:=fun j v=>Ns j _ v (by decide)
 by_cases hx:(x:Int)<(cnt:Int)
 ·have wT:∀{e:Env} {gg:Rows} {nx:Nat},(e 81=.int .i64 (IntKind.i64.wrap ((x:Int)+1)))->(gg ⟨128001001,n0+1⟩=some ⟨true,1,lO G cnt cnt⟩)->(gg ⟨128017000,st_b.next+1+1⟩=some ⟨true,mI.j4,kE (x+1) L⟩)->(st_b.next+3<=nx/\ug gg G cnt px)->(((x+1)=0/\e 11=.bP)∨∃o:Id,e 11=.own o 0 (leads (x+1) L).length/\Ml gg o (jB (x+1) L) nx)->∃m0,m0<(cnt)-x/\∃x:Nat,m0=(cnt)-x/\x<=(cnt)/\e 81=.int .i64 (x:Int)/\gg ⟨128001001,n0+1⟩=some ⟨true,1,lO G cnt cnt⟩/\gg ⟨128017000,st_b.next+1+1⟩=some ⟨true,mI.j4,kE x L⟩/\(st_b.next+3<=nx/\ug gg G cnt px)/\((x=0/\e 11=.bP)∨∃o:Id,e 11=.own o 0 (leads x L).length/\Ml gg o (jB x L) nx):=fun x1 x2 x3 x4 x5=>⟨_,ab,x+1,rfl,ab,(by rw[x1,cE ab]),x2,x3,x4,x5⟩
  have YP:x<cnt:=ab
  have gX:=xE (G:=G) YP
  have hlx:L x<cnt:=Nat.lt_of_le_of_lt (hL.le _) YP
  have ra:=Ti _ hlx
  rw[ll (My.root hL hlx (hL.idem _))]at ra
  have fJ:=l6 x L
  (try((repeat(revert hN;revert N;apply Pn.out));refine wk (tw @c81 (tw @cg0 (tw @cg1 (tw @M0 (tw @M1 (tw @M3 (tw @hx (tw @gX @tl)))))))) ?_;(repeat(refine Pn.mk ?_;intro N hN))))
  refine .inr (bc _ _ _ _ _ (fun r σ1 hq=>?_) (As G cnt px L My x YP _ (Ti.frame fun k hk=>sd @Nat.zero_add)))
  obtain⟨g1,x1⟩:=σ1
  obtain⟨rfl,xR,Ht⟩:=hq
  (try dsimp only at xR Ht)
  subst xR
  refine hN _ _ ?_
  clear hN N
  by_cases hr:L x=x
  ·rw[hr]at ra ⊢
   have lp:=HK hr
   have WC:(leads (x+1) L).length=(leads x L).length+1:=by rw[iu,if_pos hr];simp
   have Py:=EJ hr
   have Wz:=Eh hL hr
   rcases cI1 with⟨rfl,Iz⟩|⟨o,Iz,cS⟩
   ·have Yy:kE 1 L=[[.int .i64 ((0:Nat):Int),.int .i64 ((0:Nat):Int)]]:=Py
    (try((repeat(revert hN;revert N;apply Pn.out));refine wk (tw @c81 (tw @cg0 (tw @cg1 (tw @M0 (tw @M1 (tw @M3 (tw @Iz (tw @ra (tw @lp (tw @l0 (tw @oS (tw @oT (tw @Bool.not_false @Bool.not_true))))))))))))) ?_;(repeat(refine Pn.mk ?_;intro N hN))))
    refine wT ?_ ?_ ?_ (by(try dsimp only);exact⟨ab,Ti.frame fun k hk=>sd (tw @QQ (tw @QM (tw @QN (tw @QO @QP))))⟩) (.inr ⟨⟨128025002,x1+1+1+1+1⟩,by simp only[go_sem, ↓reduceIte,Nat.reduceEqDiff,Nat.reduceAdd,Nat.reduceSub,Nat.reduceLeDiff,reduceCtorEq,WC];rfl,by rw[Wz];exact Nn (v':=x1+1+1+1+1+1) (sd @Nat.zero_add) (sd @eN.eq_1) cD cD⟩)
    all_goals simp only[go_sem, ↓reduceIte,Nat.reduceEqDiff,Nat.reduceAdd,Nat.reduceSub,Nat.reduceLeDiff,reduceCtorEq,c81,cg0,cg1,M0,M1,M3,Yy]
   ·obtain⟨rows,Br,uJ,jC⟩:=cS.new x
    rw[qi]at uJ
    have pX:o.site=128025002:=by obtain⟨_,_,_,_,_,_,h,_⟩:=cS;exact h
    have SQ:o.cV<x1:=by obtain⟨_,_,_,_,_,_,_,h⟩:=cS;omega
    have pP:=dF SQ
    have UJ:=eY (o:=o) pX (b:=128017000) (v:=st_b.next+1+1) (by decide)
    have SP:=eY (o:=o) pX (b:=128001001) (v:=n0+1) (by decide)
    have QR:∀k,(G k=o)=False:=fun k=>by simp only[eq_iff_iff,iff_false];intro h;have h1:=Wp k;rw[h,pX]at h1;cases h1
    have tO:(rows++[[AV.bP]])[(leads x L).length]? =some [.bP]:=by rw[<-uJ];simp
    have nz:∀a:List AV,(rows++[[AV.bP]]).set (leads x L).length a=rows++[a]:=fun a=>by rw[<-uJ];simp
    have e1:(leads x L).length+1<=16777216:=ab
    have e2:((leads x L).length:Int)<(((leads x L).length+1:Nat):Int):=ab
    (try((repeat(revert hN;revert N;apply Pn.out));refine wk (tw @c81 (tw @cg0 (tw @cg1 (tw @M0 (tw @M1 (tw @M3 (tw @Iz (tw @ra (tw @lp (tw @Br (tw @uJ (tw @pP (tw @UJ (tw @tO (tw @nz (tw @e1 (tw @e2 (tw @oS (tw @oT (tw @Bool.not_false @Bool.not_true)))))))))))))))))))) ?_;(repeat(refine Pn.mk ?_;intro N hN))))
    refine wT ?_ ?_ ?_ (by(try dsimp only);exact⟨ab,Ti.frame fun k hk=>sd (tw @QQ (tw @QM (tw @QN (tw @QO (tw @QP @QR)))))⟩) (.inr ⟨⟨128025002,x1+1+1+1+1⟩,sd @WC,by rw[Wz];exact jC _ _ (x1+1+1+1+1+1) _ ab cD cD (sd @nz) (sd @eN.eq_1) (fun j hj hv=>by
     have q1:=dF (i:=j) (n:=x1) ab
     have q2:=eY hj (b:=128017000) (v:=st_b.next+1+1) (by decide)
     have q3:(j=o)=False:=by simp only[eq_iff_iff,iff_false];intro h;rw[h,pX]at hj;cases hj
     simp only[go_sem, ↓reduceIte,Nat.reduceEqDiff,Nat.reduceAdd,Nat.reduceSub,Nat.reduceLeDiff,reduceCtorEq,q1,q2,q3])⟩)
    all_goals simp only[go_sem, ↓reduceIte,Nat.reduceEqDiff,Nat.reduceAdd,Nat.reduceSub,Nat.reduceLeDiff,reduceCtorEq,c81,cg0,cg1,M0,M1,M3,Py,pP,UJ,SP]
  ·obtain⟨lp,Hy,eJ⟩:=zi hL hr
   obtain⟨Kb,Wz⟩:=Ei hL hr
   have WC:(leads (x+1) L).length=(leads x L).length:=by rw[iu,if_neg hr];simp
   have PD:=EI hr
   rcases cI1 with⟨rfl,Iz⟩|⟨o,Iz,cS⟩
   ·exact absurd (Nat.le_zero.1 (hL.le 0)) hr
   ·obtain⟨rows,id,Br,uJ,hrk,hid,Ke,hidv,XV⟩:=cS.add Kb x
    rw[qi]at uJ
    have pX:o.site=128025002:=by obtain⟨_,_,_,_,_,_,h,_⟩:=cS;exact h
    have SQ:o.cV<x1:=by obtain⟨_,_,_,_,_,_,_,h⟩:=cS;omega
    have pP:=dF SQ
    have pq:=dF (i:=id) (n:=x1) ab
    have Et:(dR L x:Int)<((leads x L).length:Int):=ab
    have hmx:=CH x L (L x)
    have hma:((members x L (L x)).map eN).length=(members x L (L x)).length:=by simp
    have e1:(members x L (L x)).length+1<=16777216:=ab
    have hoi:(o=id)=False:=by simp only[eq_iff_iff,iff_false];rintro rfl;rw[Ke]at pX;cases pX
    have hio:(id=o)=False:=by simp only[eq_iff_iff,iff_false];rintro rfl;rw[Ke]at pX;cases pX
    have UJ:=eY (o:=o) pX (b:=128017000) (v:=st_b.next+1+1) (by decide)
    have SP:=eY (o:=o) pX (b:=128001001) (v:=n0+1) (by decide)
    have hiM:=eY (o:=id) Ke (b:=128017000) (v:=st_b.next+1+1) (by decide)
    have hiT:=eY (o:=id) Ke (b:=128001001) (v:=n0+1) (by decide)
    have QR:∀k,(G k=o)=False:=fun k=>by simp only[eq_iff_iff,iff_false];intro h;have h1:=Wp k;rw[h,pX]at h1;cases h1
    have XG:∀k,(G k=id)=False:=fun k=>by simp only[eq_iff_iff,iff_false];intro h;have h1:=Wp k;rw[h,Ke]at h1;cases h1
    (try((repeat(revert hN;revert N;apply Pn.out));refine wk (tw @c81 (tw @cg0 (tw @cg1 (tw @M0 (tw @M1 (tw @M3 (tw @Iz (tw @ra (tw @lp (tw @Hy (tw @Br (tw @uJ (tw @hrk (tw @hid (tw @pP (tw @pq (tw @Et (tw @hma (tw @e1 (tw @hoi (tw @hio (tw @UJ (tw @SP (tw @hiM (tw @hiT (tw @oS (tw @oT (tw @Bool.not_false @Bool.not_true)))))))))))))))))))))))))))) ?_;(repeat(refine Pn.mk ?_;intro N hN))))
    refine wT ?_ ?_ ?_ (by(try dsimp only);exact⟨ab,Ti.frame fun k hk=>sd (tw @QQ (tw @QM (tw @QN (tw @QO (tw @QP (tw @QR @XG))))))⟩) (.inr ⟨o,sd (tw @WC @Iz),by rw[Wz];exact XV _ (x1+1+1) _ ab cD (sd @Nat.zero_add) (sd (tw @pP (tw @pq (tw @hoi @hio)))) (fun j hj hv mC=>by
     have q1:=dF (i:=j) (n:=x1) ab
     have q2:=eY hj (b:=128017000) (v:=st_b.next+1+1) (by decide)
     have q3:(j=o)=False:=by simp only[eq_iff_iff,iff_false];intro h;rw[h,pX]at hj;cases hj
     simp only[go_sem, ↓reduceIte,Nat.reduceEqDiff,Nat.reduceAdd,Nat.reduceSub,Nat.reduceLeDiff,reduceCtorEq,q1,q2,q3,mC])⟩)
    all_goals simp only[go_sem, ↓reduceIte,Nat.reduceEqDiff,Nat.reduceAdd,Nat.reduceSub,Nat.reduceLeDiff,reduceCtorEq,c81,cg0,cg1,M0,M1,M3,PD,pP,pq,UJ,SP,hiM,hiT]
 have YO:x=cnt:=ab
 rcases cI1 with⟨h0,_⟩|⟨o,Iz,rows,ids,Br,hR,_,_,_,_⟩
 ·omega
 have uJ:=hR.len
 rw[qi]at uJ
 (try((repeat(revert hN;revert N;apply Pn.out));refine wk (tw @c81 (tw @cg0 (tw @cg1 (tw @M0 (tw @M1 (tw @M3 (tw @hx (tw @Iz @Br)))))))) ?_;(repeat(refine Pn.mk ?_;intro N hN))))
 refine xl (.inl rfl) (by simp only[go_sem, ↓reduceIte,Nat.reduceEqDiff,Nat.reduceAdd,Nat.reduceSub,Nat.reduceLeDiff,reduceCtorEq];rfl) ?_
 rw[uH Br ab (rows':=(iJ cnt L).map JG) (by
  rw[List.drop_zero,List.take_of_length_le ab]
  rw[YO]at hR;exact RE 3 hR)]
theorem Md (b:PB) (t:Int):az Tryz.prog 131 [.agg (dz b),.fe [.int .i64 t]] (.bool (decide (b.s<t))):=by
 refine az.body fC rfl fun hl n0=>?_
 clear hl
 (try((repeat(revert hN;revert N;apply Pn.out));refine wk @dz.eq_1 ?_;(repeat(refine Pn.mk ?_;intro N hN))))
 exact dQ (b:=decide (b.s<t)) (.inl rfl) (sd @Nat.zero_add) rfl
theorem zb (bs:List PB) (t:Int) (hl:bs.length<=1048576):az Tryz.prog 153 [.sl (bs.map dz),.fn 131 [.fe [.int .i64 t]]] (.int .i64 (oA (fun b:PB=>decide (b.s<t)) bs)):=
 tU JJ (show BN Tryz.prog 153=some (sO 153 3 true) by kernel_rfl) bs hl 131 _ _ (fun x _=>Md x t) fun g=>by simp only[ad,ae,aA,Option.map_some]
theorem JE (bs:List PB) (hp:0<bs.length) (hl:bs.length<=1048576) (σ:au):
  Call Tryz.prog 130 [.sl (bs.map dz)] σ fun r σ'=>∃o:Id,r=.own o 0 bs.length/\σ'.get o=some ⟨true,3,bs.map dz⟩/\σ.next<=o.cV/\o.cV<σ'.next/\∀i:Id,i.cV<σ.next->σ'.get i=σ.get i:=by
 refine eX fC rfl fun hl=>?_
 clear hl
 have hz:=all_map (l:=bs) V8
 obtain⟨b,r,rfl⟩:∃b r,bs=b::r:=by
  cases bs with
  |nil=>simp at hp
  |cons b r=>exact⟨b,r,rfl⟩
 have fJ:(List.map dz (b::r)).length=(b::r).length:=by simp
 have e1:r.length<=16777215:=by simp at hl;omega
 rw[List.map_cons]at hz fJ ⊢
 (try((repeat(revert hN;revert N;apply Pn.out));refine wk (tw @hz (tw @fJ @e1)) ?_;(repeat(refine Pn.mk ?_;intro N hN))))
 refine eK (.inl rfl) (vs:=[.own ⟨130003002,σ.next+1+1⟩ 0 (b::r).length]) (by simp only[gY,kX,go_sem, ↓reduceIte,Nat.reduceEqDiff,Nat.reduceAdd,Nat.reduceSub,Nat.reduceLeDiff,reduceCtorEq,List.length_cons]) ⟨⟨130003002,σ.next+1+1⟩,rfl,sd @Nat.zero_add,cD,cD,fun i hi=>?_⟩
 have hv:=dF hi
 simp only[go_sem, ↓reduceIte,Nat.reduceEqDiff,Nat.reduceAdd,Nat.reduceSub,Nat.reduceLeDiff,reduceCtorEq,hv]
theorem o8 {t:Int} {bs:List PB} {j:Nat} (hj:j<bs.length):cF t (bs.take (j+1))=cF t (bs.take j)++if decide (bs[j].s<t)=true then[]else[bs[j]]:=by
 rw[De t bs j hj]
 congr 1
 by_cases h:bs[j].s<t
 ·rw[if_neg ab,if_pos (decide_eq_true h)]
 ·rw[if_pos ab,if_neg (by simp only[decide_eq_true_eq];exact h)]
theorem ud {t:Int} {bs:List PB} (h:∀b∈bs,¬b.s<t):cF t bs=bs:=by
 unfold cF
 rw[List.filter_eq_self]
 intro b hb
 have:=h b hb
 exact decide_eq_true ab
structure uf (t:Int) (bs:List PB) (j:Nat) (R:List PB):Prop where
 len:R.length=bs.length
 pre:R.take (cF t (bs.take j)).length=cF t (bs.take j)
 post:∀x,j<=x->R[x]? =bs[x]?
 lt:(cF t (bs.take j)).length<j
theorem uf.start {t:Int} {bs:List PB} {i:Nat} (hi:i<bs.length) (hw:bs[i].s<t) (hp:∀x (h:x<i),¬bs[x].s<t):uf t bs (i+1) bs/\(cF t (bs.take (i+1))).length=i:=by
 have h1:cF t (bs.take i)=bs.take i:=ud fun b hb=>by
  obtain⟨x,hx,rfl⟩:=List.getElem_of_mem hb
  rw[List.length_take]at hx
  rw[List.getElem_take]
  exact hp x ab
 have h2:cF t (bs.take (i+1))=bs.take i:=by rw[o8 hi,if_pos (decide_eq_true hw),List.append_nil,h1]
 have h3:(bs.take i).length=i:=by rw[List.length_take];omega
 exact⟨⟨rfl,by rw[h2,h3],fun _ _=>rfl,by rw[h2,h3];omega⟩,by rw[h2,h3]⟩
theorem uf.Zd {t:Int} {bs R:List PB} {j:Nat} (h:uf t bs j R) (hj:j<bs.length) (hw:bs[j].s<t):uf t bs (j+1) R/\(cF t (bs.take (j+1))).length=(cF t (bs.take j)).length:=by
 have h2:cF t (bs.take (j+1))=cF t (bs.take j):=by rw[o8 hj,if_pos (decide_eq_true hw),List.append_nil]
 exact⟨⟨h.len,by rw[h2];exact h.pre,fun x hx=>h.post x ab,by rw[h2];have:=h.lt;omega⟩,by rw[h2]⟩
theorem uf.yn {t:Int} {bs R:List PB} {j:Nat} (h:uf t bs j R) (hj:j<bs.length) (hw:¬bs[j].s<t):uf t bs (j+1) (R.set (cF t (bs.take j)).length bs[j])/\(cF t (bs.take (j+1))).length=(cF t (bs.take j)).length+1:=by
 have h2:cF t (bs.take (j+1))=cF t (bs.take j)++[bs[j]]:=by rw[o8 hj,if_neg (by simp only[decide_eq_true_eq];exact hw)]
 have eJ:=h.lt
 have hlen:=h.len
 have um:=h.pre
 generalize hc:(cF t (bs.take j)).length=c at *
 refine⟨⟨by rw[List.length_set];exact hlen,?_,fun x hx=>?_,by rw[h2,List.length_append,hc];simp;omega⟩,by rw[h2,List.length_append,hc];rfl⟩
 ·rw[h2,List.length_append,hc,List.length_singleton,List.take_succ_eq_append_getElem (by rw[List.length_set];omega),List.getElem_set_self,List.take_set_of_le (Nat.le_refl _),um]
 ·rw[List.getElem?_set_ne ab];exact h.post x ab
theorem uf.at_ {t:Int} {bs R:List PB} {j:Nat} (h:uf t bs j R) (hj:j<bs.length):(R.map dz)[j]? =some (dz bs[j]):=by
 rw[List.getElem?_map,h.post j (Nat.le_refl j),List.getElem?_eq_getElem hj];rfl
theorem D5 {p:PB->Bool} {bs:List PB} (h:¬0<=oA p bs):∀b∈bs,p b=false:=by
 intro b hb
 unfold oA at h
 split at h
 ·omega
 ·rename_i h1
  rw[List.findIdx_lt_length]at h1
  cases hp:p b
  ·rfl
  ·exact absurd ⟨b,hb,hp⟩ h1
theorem D6 {p:PB->Bool} {bs:List PB} (h:0<=oA p bs):∃i,∃hi:i<bs.length,oA p bs=(i:Int)/\p bs[i]=true/\∀x (hx:x<i),p (bs[x]'ab)=false:=by
 unfold oA at h ⊢
 split
 ·rename_i h1
  exact⟨bs.findIdx p,h1,rfl,List.findIdx_getElem,fun x hx=>by simpa using List.not_of_lt_findIdx hx⟩
 ·rename_i h1;rw[if_neg h1]at h;omega
theorem Hb (bs:List PB) (t:Int) (hl:bs.length<=1048576) (o T:Id) (σ:au) (ho:σ.get o=some ⟨true,3,bs.map dz⟩) (hT:σ.get T=some ⟨true,1,[[.int .i64 t]]⟩) (SQ:o.cV<σ.next) (Ck:T.cV<σ.next) (SP:o≠T):
  Call Tryz.prog 129 [.own o 0 bs.length,.fn 131 [.ptr T 0 0]] σ fun r σ'=>∃rows,r=.own o 0 (cF t bs).length/\σ'.get o=some ⟨true,3,rows⟩/\rows.take (cF t bs).length=(cF t bs).map dz/\(cF t bs).length<=rows.length/\σ.next<=σ'.next/\∀i:Id,i.cV<σ.next->i≠o->σ'.get i=σ.get i:=by
 refine eX fC rfl fun fb=>?_
 clear fb
 have Ya:=zb bs t hl
 have hzT:∀(g:Rows),g T=some ⟨true,1,[[.int .i64 t]]⟩->V.fz (dX g) 5 (.ptr T 0 0)=some (.fe [.int .i64 t]):=fun g hg=>Ay (sz:=1) (rows:=[[.int .i64 t]]) (by simp[dX,hg]) rfl (by simp only[List.drop_zero,ad,ae,aP,Option.map_some])
 have sM:∀(g:Rows),g T=some ⟨true,1,[[.int .i64 t]]⟩->g o=some ⟨true,3,bs.map dz⟩->ek (dX g) 6 [.own o 0 bs.length,.fn 131 [.ptr T 0 0]]=some [.sl (bs.map dz),.fn 131 [.fe [.int .i64 t]]]:=fun g h1 h2=>by
  have q1:=kA (g:=dX g) (n:=5) (e:=dz) (sz:=3) (len:=bs.length) (l:=bs) (id:=o) (by simp[dX,h2]) rfl fun b=>Ee _ 4 b
  have q2:=hzT g h1
  simp only[ad,ae,q1,bU,List.all_cons,List.all_nil,AV.cell,Bool.and_true,if_true,q2,Option.map_some]
 have pZ:∀(g:Rows),g T=some ⟨true,1,[[.int .i64 t]]⟩->∀b:PB,ek (dX g) 6 [.agg (dz b),.ptr T 0 0]=some [.agg (dz b),.fe [.int .i64 t]]:=fun g h1 b=>by
  have q3:V.fz (dX g) 6 (.ptr T 0 0)=some (.fe [.int .i64 t]):=Ay (sz:=1) (rows:=[[.int .i64 t]]) (by simp[dX,h1]) rfl (by simp only[List.drop_zero,ad,ae,aP,Option.map_some])
  simp only[ad,ae,aS,Ee,q3,Option.map_some]
 (try((repeat(revert hN;revert N;apply Pn.out));refine wk @Nat.zero_add ?_;(repeat(refine Pn.mk ?_;intro N hN))))
 refine .inl ⟨_,az.x Ya (sM _ hT ho),?_⟩
 refine hN _ _ ?_
 clear hN N
 by_cases h0:0<=oA (fun b:PB=>decide (b.s<t)) bs
 ·obtain⟨i,hi,Mt,hpi,WG⟩:=D6 h0
  rw[Mt]at *
  have ND:decide ((i:Int)= -1)=false:=decide_eq_false ab
  have Rq:IntKind.i64.wrap ((i:Int)+1)=((i+1:Nat):Int):=cE ab
  obtain⟨ed,nz⟩:=uf.start (t:=t) hi (by simpa using hpi) (fun x hx=>by simpa using WG x hx)
  (try((repeat(revert hN;revert N;apply Pn.out));refine wk (tw @ND @Rq) ?_;(repeat(refine Pn.mk ?_;intro N hN))))
  refine dc (fun m env st=>∃(j:Nat) (R:List PB),m=bs.length-j/\env 6=.int .i64 (j:Int)/\env 5=.int .i64 ((cF t (bs.take j)).length:Int)/\st.get o=some ⟨true,3,R.map dz⟩/\uf t bs j R/\j<=bs.length/\σ.next<=st.next/\∀x:Id,x.cV<σ.next->(x=o)=False->st.get x=σ.get x) (bs.length-(i+1)) ⟨i+1,bs,rfl,sd @Rq,sd @nz,sd @ho,ed,ab,cD,fun x _ _=>sd @Nat.zero_add⟩ ?_
  rintro m env_b st_b ⟨j,R,rfl,b6,b5,bg,hD,ja,hle,jz⟩ fG
  have b0:=fG 0 (by kernel_rfl)
  have b1:=fG 1 (by kernel_rfl)
  simp only[go_sem, ↓reduceIte,Nat.reduceEqDiff,Nat.reduceAdd,Nat.reduceSub,Nat.reduceLeDiff,reduceCtorEq]at b0 b1
  clear fG
  have bT:=(jz T Ck (by simp only[eq_iff_iff,iff_false];exact fun h=>SP h.symm)).trans hT
  have rC:=dF (i:=o) (n:=st_b.next) ab
  have YH:=dF (i:=T) (n:=st_b.next) ab
  have hRl:=hD.len
  have XN:(R.map dz).length=bs.length:=by rw[List.length_map,hRl]
  have eJ:=hD.lt
  by_cases hj:(j:Int)<(bs.length:Int)
  ·have pO:j<bs.length:=ab
   have Nw:=hD.at_ pO
   have Ga:=Md bs[j] t
   have WO:IntKind.i64.wrap ((j:Int)+1)=((j+1:Nat):Int):=cE ab
   have hD1:=hD.Zd pO
   have hD2:=hD.yn pO
   generalize bs[j]=b at *
   (try((repeat(revert hN;revert N;apply Pn.out));refine wk (tw @b0 (tw @b1 (tw @b5 (tw @b6 (tw @bg (tw @hj (tw @Nw (tw @dz.eq_1 (tw @rC (tw @YH @XN)))))))))) ?_;(repeat(refine Pn.mk ?_;intro N hN))))
   refine .inl ⟨_,az.x Ga (pZ _ (sd (tw @YH @bT)) b),?_⟩
   refine hN _ _ ?_
   clear hN N
   by_cases hw:b.s<t
   ·obtain⟨XC,XB⟩:=hD1 hw
    have hd:decide (b.s<t)=true:=decide_eq_true hw
    (try((repeat(revert hN;revert N;apply Pn.out));refine wk (tw @b0 (tw @b1 (tw @b5 (tw @b6 (tw @hd @WO))))) ?_;(repeat(refine Pn.mk ?_;intro N hN))))
    refine⟨_,?_,j+1,R,rfl,sd @WO,sd (tw @b5 @XB),sd (tw @bg @rC),XC,ab,cD,fun x hx IP=>?_⟩
    ·omega
    ·have SS:=dF (i:=x) (n:=st_b.next) ab
     have:=jz x hx IP
     simp only[go_sem, ↓reduceIte,Nat.reduceEqDiff,Nat.reduceAdd,Nat.reduceSub,Nat.reduceLeDiff,reduceCtorEq,SS,this]
   ·obtain⟨XC,XB⟩:=hD2 hw
    have hd:decide (b.s<t)=false:=decide_eq_false hw
    have XZ:((cF t (bs.take j)).length:Int)<(bs.length:Int):=ab
    have hwc:IntKind.i64.wrap (((cF t (bs.take j)).length:Int)+1)=(((cF t (bs.take j)).length+1:Nat):Int):=cE ab
    have iL:(R.map dz).set (cF t (bs.take j)).length [.int .i64 (b.a:Int),.int .i64 (b.b:Int),.int .i64 b.s]=(R.set (cF t (bs.take j)).length b).map dz:=by rw[List.map_set];rfl
    have Ps:∃y,(R.map dz)[(cF t (bs.take j)).length]? =some (dz y):=⟨R[(cF t (bs.take j)).length]'ab,by rw[List.getElem?_map,List.getElem?_eq_getElem ab];rfl⟩
    obtain⟨y,Ps⟩:=Ps
    rw[dz]at Ps
    (try((repeat(revert hN;revert N;apply Pn.out));refine wk (tw @b0 (tw @b1 (tw @b5 (tw @b6 (tw @bg (tw @hd (tw @WO (tw @hwc (tw @XZ (tw @iL (tw @Ps (tw @rC (tw @YH @XN))))))))))))) ?_;(repeat(refine Pn.mk ?_;intro N hN))))
    refine⟨_,?_,j+1,_,rfl,sd @WO,sd (tw @hwc @XB),sd @iL,XC,ab,cD,fun x hx IP=>?_⟩
    ·omega
    ·have SS:=dF (i:=x) (n:=st_b.next) ab
     have:=jz x hx IP
     simp only[go_sem, ↓reduceIte,Nat.reduceEqDiff,Nat.reduceAdd,Nat.reduceSub,Nat.reduceLeDiff,reduceCtorEq,SS,this,IP]
  ·have ja:j=bs.length:=ab
   subst ja
   have um:=hD.pre
   rw[List.take_length]at b5 eJ um
   have XZ:((cF t bs).length:Int)<=(bs.length:Int):=ab
   have hcn:(cF t bs).length<=bs.length:=ab
   have qo:(cF t bs).length+(bs.length-(cF t bs).length)=bs.length:=ab
   have nz:=xD t bs
   (try((repeat(revert hN;revert N;apply Pn.out));refine wk (tw @b0 (tw @b1 (tw @b5 (tw @b6 (tw @bg (tw @hj (tw @XN (tw @XZ (tw @hcn (tw @qo (tw @Nat.le_refl (tw @Nat.sub_zero (tw @Int.le_refl @rC))))))))))))) ?_;(repeat(refine Pn.mk ?_;intro N hN))))
   refine eK (.inl rfl) (vs:=[.own o 0 (cF t bs).length]) (sd @Nat.zero_add) ⟨_,rfl,by simp only[go_sem, ↓reduceIte,Nat.reduceEqDiff,Nat.reduceAdd,Nat.reduceSub,Nat.reduceLeDiff,reduceCtorEq];rfl,?_,?_,cD,fun x hx IP=>?_⟩
   ·have hm:List.take (cF t bs).length (List.map dz R)=(cF t bs).map dz:=by rw[<-List.map_take,um]
    rw[hm,List.append_assoc,List.take_append_of_le_length (by simp),List.take_of_length_le (by simp)]
   ·have hm:List.take (cF t bs).length (List.map dz R)=(cF t bs).map dz:=by rw[<-List.map_take,um]
    rw[hm]
    simp only[List.length_append,List.length_map]
    omega
   ·have U3:(x=o)=False:=by simp only[eq_iff_iff,iff_false];exact IP
    have:=jz x hx U3
    simp only[go_sem, ↓reduceIte,Nat.reduceEqDiff,Nat.reduceAdd,Nat.reduceSub,Nat.reduceLeDiff,reduceCtorEq,U3,this]
 ·have hn:=D5 h0
  have ed:=ud (t:=t) (bs:=bs) fun b hb=>by simpa using hn b hb
  have hd:decide (oA (fun b:PB=>decide (b.s<t)) bs= -1)=true:=decide_eq_true (by
   unfold oA at h0 ⊢
   split
   ·rename_i h;rw[if_pos h]at h0;omega
   ·rfl)
  (try((repeat(revert hN;revert N;apply Pn.out));refine wk @hd ?_;(repeat(refine Pn.mk ?_;intro N hN))))
  refine eK (.inl rfl) (vs:=[.own o 0 bs.length]) (sd @Nat.zero_add) ⟨bs.map dz,by rw[ed];rfl,sd @ho,by rw[ed,List.take_of_length_le (by simp)],by rw[ed];simp,cD,fun x _ _=>rfl⟩
def Be (bs:List PB):AV:=if bs=[]then .bP else .sl (bs.map dz)
theorem OG:Be []=.bP:=rfl
theorem Bf {bs:List PB} (h:0<bs.length):Be bs=.sl (bs.map dz):=by
 unfold Be
 rw[if_neg (by rintro rfl;simp at h)]
theorem x8 (cnt:Nat) (pn:1<=cnt) (hn:cnt<=1048576) (bs:List PB) (hb:∀b∈bs,b.a<cnt/\b.b<cnt) (hp:0<bs.length) (iY:bs.length<=1048576) (t:Int):az Tryz.prog 102 [.int .i64 cnt,.sl (bs.map dz),.int .i64 t] (.fN [.int .i64 (leads cnt (fP (cF t bs))).length,Be (ee (fP (cF t bs)) bs)]):=by
 refine az.body fC rfl fun hl n0=>?_
 clear hl
 (try((repeat(revert hN;revert N;apply Pn.out));refine wk @Nat.zero_add ?_;(repeat(refine Pn.mk ?_;intro N hN))))
 refine .inr (bc _ _ _ _ _ (fun r σ1 hq=>?_) (JE bs hp iY _))
 obtain⟨o,rfl,ho,NG,NH,Ui⟩:=hq
 (try dsimp only at ho NG NH Ui)
 refine hN _ _ ?_
 clear hN N
 (try((repeat(revert hN;revert N;apply Pn.out));refine wk @Nat.zero_add ?_;(repeat(refine Pn.mk ?_;intro N hN))))
 refine .inr (bc _ _ _ _ _ (fun r σ2 hq=>?_) (Hb bs t iY o ⟨102000000,n0⟩ _ ho (by rw[Ui _ cD];simp only[go_sem, ↓reduceIte,Nat.reduceEqDiff,Nat.reduceAdd,Nat.reduceSub,Nat.reduceLeDiff,reduceCtorEq]) cD cD (by rintro rfl;simp only at NG;omega)))
 obtain⟨rows,rfl,fy,hrt,uJ,qm,Uj⟩:=hq
 (try dsimp only at qm Uj)
 refine hN _ _ ?_
 clear hN N
 have Mr:=vZ cnt pn hn (cF t bs) (fun b h=>hb b (Fs h)) (by have:=xD t bs;omega)
 have hL:=CE (cF t bs)
 have hz:∀x,ek (dX σ2.get) 6 [.int .i64 x,.own o 0 (cF t bs).length]=some [.int .i64 x,.sl ((cF t bs).map dz)]:=fun x=>by
  have:V.fz (dX σ2.get) 6 (.own o 0 (cF t bs).length)=some (.sl ((cF t bs).map dz)):=by
   rw[pk];simp only[dX,fy,Option.map_some,if_true]
   rw[if_pos ab,List.drop_zero,hrt,qh fun b=>Ee _ 4 b];rfl
  simp only[ad,ae,aP,this,Option.map_some]
 (try((repeat(revert hN;revert N;apply Pn.out));refine wk @Nat.zero_add ?_;(repeat(refine Pn.mk ?_;intro N hN))))
 refine .inl ⟨_,az.x Mr (hz _),?_⟩
 refine hN _ _ ?_
 clear hN N
 generalize fP (cF t bs)=L at *
 have tO:((iJ cnt L).map JG).length=(leads cnt L).length:=by simp[iJ]
 have Ye:=l6 cnt L
 have jt:(0:Int)<=(cnt:Int):=ab
 have oH:(cnt:Int)<=((16777216:Nat):Int):=ab
 have hZ:List.replicate cnt [AV.int .i64 0]=ga (eu cnt L 0 0) cnt:=by rw[Dg,tY]
 (try((repeat(revert hN;revert N;apply Pn.out));refine wk (tw @jt (tw @oH (tw @Int.le_refl (tw @tO @hZ)))) ?_;(repeat(refine Pn.mk ?_;intro N hN))))
 refine dc (fun n env st=>∃i:Nat,n=((leads cnt L).length)-i/\i<=((leads cnt L).length)/\env 27=.int .i64 (i:Int)/\st.get ⟨102002001,σ2.next+1⟩=some ⟨true,1,ga (eu cnt L i 0) cnt⟩/\(σ2.next+1<st.next)) ((leads cnt L).length) ⟨0,ab,ab,sl (tw @hZ @tO),sl (tw @hZ @tO),cD⟩ ?_
 rintro n_c env_c st_c ⟨i,rfl,cle,c27,cg0,cI0⟩ cfr
 have c1:=cfr 1 (by kernel_rfl);have c8:=cfr 8 (by kernel_rfl);have c9:=cfr 9 (by kernel_rfl);have xY:=cfr 25 (by kernel_rfl);have xZ:=cfr 26 (by kernel_rfl)
 simp only[go_sem, ↓reduceIte,Nat.reduceEqDiff,Nat.reduceAdd,Nat.reduceSub,Nat.reduceLeDiff,reduceCtorEq,hZ,tO]at c1 c8 c9 xY xZ
 clear cfr
 by_cases hi:(i:Int)<((leads cnt L).length:Int)
 ·have wT:∀{e:Env} {gg:Rows} {nx:Nat},(e 27=.int .i64 (IntKind.i64.wrap ((i:Int)+1)))->(gg ⟨102002001,σ2.next+1⟩=some ⟨true,1,ga (eu cnt L (i+1) 0) cnt⟩)->(σ2.next+1<nx)->∃m0,m0<((leads cnt L).length)-i/\∃i:Nat,m0=((leads cnt L).length)-i/\i<=((leads cnt L).length)/\e 27=.int .i64 (i:Int)/\gg ⟨102002001,σ2.next+1⟩=some ⟨true,1,ga (eu cnt L i 0) cnt⟩/\(σ2.next+1<nx):=fun x1 x2 x3=>⟨_,ab,i+1,rfl,ab,(by rw[x1,cE ab]),x2,x3⟩
  have im:i<(leads cnt L).length:=ab
  have Et:((iJ cnt L).map JG)[i]? =some (JG (members cnt L (leads cnt L)[i])):=by simp[iJ,im]
  have AF:(leads cnt L).getD i 0=(leads cnt L)[i]:=by simp[List.getD_eq_getElem?_getD,im]
  have Kt:∀m,eu cnt L i m=fun x=>if dR L x<i then dR L x else if x∈(members cnt L (leads cnt L)[i]).take m then i else 0:=fun m=>by unfold eu;rw[AF]
  have Ev:=fun x (hx:x<cnt)=>zx hL (n:=cnt) (k:=x) (i:=i) hx im
  have po:(members cnt L (leads cnt L)[i]).Nodup:=List.nodup_range.filter _
  have NC:∀x∈members cnt L (leads cnt L)[i],x<cnt:=fun x hx=>(oK.1 hx).1
  have hMc:(members cnt L (leads cnt L)[i]).length<=cnt:=by
   have:=List.length_filter_le (fun k=>L k==(leads cnt L)[i]) (List.range cnt)
   simpa[members]using this
  generalize members cnt L (leads cnt L)[i]=M at *
  have Hm:(M.map eN).length=M.length:=by simp
  (try((repeat(revert hN;revert N;apply Pn.out));refine wk (tw @c27 (tw @cg0 (tw @c1 (tw @c8 (tw @c9 (tw @xY (tw @xZ (tw @hi (tw @tO (tw @Et (tw @JG.eq_1 @Hm))))))))))) ?_;(repeat(refine Pn.mk ?_;intro N hN))))
  refine dc (fun n env st=>∃m:Nat,n=(M.length)-m/\m<=(M.length)/\env 34=.int .i64 (m:Int)/\st.get ⟨102002001,σ2.next+1⟩=some ⟨true,1,ga (eu cnt L i m) cnt⟩/\(σ2.next+1<st.next)) (M.length) ⟨0,ab,ab,sl (tw @c27 (tw @cg0 (tw @c1 (tw @c8 (tw @c9 (tw @xY (tw @xZ @Hm))))))),sl (tw @c27 (tw @cg0 (tw @c1 (tw @c8 (tw @c9 (tw @xY (tw @xZ @Hm))))))),cD⟩ ?_
  rintro n_d env_d st_d ⟨m,rfl,dle,d34,dg0,dI0⟩ dfr
  have d1:=dfr 1 (by kernel_rfl);have d8:=dfr 8 (by kernel_rfl);have d9:=dfr 9 (by kernel_rfl);have d10:=dfr 10 (by kernel_rfl);have d25:=dfr 25 (by kernel_rfl);have d26:=dfr 26 (by kernel_rfl);have d27:=dfr 27 (by kernel_rfl);have d32:=dfr 32 (by kernel_rfl);have d33:=dfr 33 (by kernel_rfl)
  simp only[go_sem, ↓reduceIte,Nat.reduceEqDiff,Nat.reduceAdd,Nat.reduceSub,Nat.reduceLeDiff,reduceCtorEq,c27,cg0,c1,c8,c9,xY,xZ,Hm]at d1 d8 d9 d10 d25 d26 d27 d32 d33
  clear dfr
  have tl:=js (eu cnt L i m) cnt
  by_cases hm:(m:Int)<(M.length:Int)
  ·have tZ:∀{e:Env} {gg:Rows} {nx:Nat},(e 34=.int .i64 (IntKind.i64.wrap ((m:Int)+1)))->(gg ⟨102002001,σ2.next+1⟩=some ⟨true,1,ga (eu cnt L i (m+1)) cnt⟩)->(σ2.next+1<nx)->∃m0,m0<(M.length)-m/\∃m:Nat,m0=(M.length)-m/\m<=(M.length)/\e 34=.int .i64 (m:Int)/\gg ⟨102002001,σ2.next+1⟩=some ⟨true,1,ga (eu cnt L i m) cnt⟩/\(σ2.next+1<nx):=fun x1 x2 x3=>⟨_,ab,m+1,rfl,ab,(by rw[x1,cE ab]),x2,x3⟩
   have Hu:m<M.length:=ab
   have uk:(M.map eN)[m]? =some (eN M[m]):=by simp[Hu]
   have EB:=NC _ (List.getElem_mem Hu)
   have PH:(M[m]:Int)<(cnt:Int):=ab
   have HA:=iP (f:=eu cnt L i m) EB
   have iL:(ga (eu cnt L i m) cnt).set M[m] (eN i)=ga (eu cnt L i (m+1)) cnt:=uS EB (by
    have h1:=(Ev _ EB).1 (List.getElem_mem Hu)
    rw[Kt]
    simp only[]
    rw[if_neg ab,if_pos (by rw[List.take_succ_eq_append_getElem Hu];exact List.mem_append_right _ (List.mem_singleton.2 rfl))]) fun x hx gZ=>by
    rw[Kt,Kt]
    simp only[]
    rw[List.take_succ_eq_append_getElem Hu]
    simp only[List.mem_append,List.mem_singleton,gZ,or_false]
   rw[eN]at iL HA
   generalize M[m]=xm at *
   (try((repeat(revert hN;revert N;apply Pn.out));refine wk (tw @d34 (tw @dg0 (tw @d1 (tw @d8 (tw @d9 (tw @d10 (tw @d25 (tw @d26 (tw @d27 (tw @d32 (tw @d33 (tw @hm (tw @hi (tw @uk (tw @Hm (tw @PH (tw @HA (tw @tl (tw @iL @eN.eq_1))))))))))))))))))) ?_;(repeat(refine Pn.mk ?_;intro N hN))))
   refine tZ ?_ ?_ cD
   all_goals simp only[go_sem, ↓reduceIte,Nat.reduceEqDiff,Nat.reduceAdd,Nat.reduceSub,Nat.reduceLeDiff,reduceCtorEq,d34,dg0,d1,d8,d9,d10,d25,d26,d27,d32,d33,iL]
  ·have fJ:m=M.length:=ab
   subst fJ
   have wi:ga (eu cnt L i M.length) cnt=ga (eu cnt L (i+1) 0) cnt:=kj fun x hx=>by
    rw[Kt,List.take_length]
    simp only[eu,List.take_zero,List.not_mem_nil,if_false]
    have h1:=Ev x hx
    by_cases h2:dR L x<i
    ·rw[if_pos h2,if_pos ab]
    ·rw[if_neg h2]
     by_cases h3:x∈M
     ·rw[if_pos h3,if_pos (by have:=h1.1 h3;omega),h1.1 h3]
     ·rw[if_neg h3,if_neg fun h4=>h3 (h1.2 ab)]
   (try((repeat(revert hN;revert N;apply Pn.out));refine wk (tw @d34 (tw @dg0 (tw @d1 (tw @d8 (tw @d9 (tw @d10 (tw @d25 (tw @d26 (tw @d27 (tw @d32 (tw @d33 (tw @hm (tw @hi (tw @tO @Hm)))))))))))))) ?_;(repeat(refine Pn.mk ?_;intro N hN))))
   refine wT ?_ ?_ cD
   all_goals simp only[go_sem, ↓reduceIte,Nat.reduceEqDiff,Nat.reduceAdd,Nat.reduceSub,Nat.reduceLeDiff,reduceCtorEq,c27,cg0,c1,c8,c9,xY,xZ,d34,dg0,d1,d8,d9,d10,d25,d26,d27,d32,d33,wi]
 have pN:i=(leads cnt L).length:=ab
 subst pN
 have Cq:ga (eu cnt L (leads cnt L).length 0) cnt=ga (dR L) cnt:=kj fun x hx=>by rw[eu,if_pos (oL hL hx)]
 rw[Cq]at cg0
 have tl:=js (dR L) cnt
 have Wv:(bs.map dz).length=bs.length:=by simp
 (try((repeat(revert hN;revert N;apply Pn.out));refine wk (tw @c27 (tw @cg0 (tw @c1 (tw @c8 (tw @c9 (tw @xY (tw @xZ (tw @hi (tw @tO @Wv))))))))) ?_;(repeat(refine Pn.mk ?_;intro N hN))))
 have hcn:σ2.next+1<st_c.next:=cI0
 refine dc (fun n env st=>∃j:Nat,n=(bs.length)-j/\j<=(bs.length)/\env 46=.int .i64 (j:Int)/\st.get ⟨102002001,σ2.next+1⟩=some ⟨true,1,ga (dR L) cnt⟩/\(st_c.next<=st.next/\((ee L (bs.take j)=[]/\env 14=.bP)∨∃p:Id,env 14=.own p 0 (ee L (bs.take j)).length/\st.get p=some ⟨true,3,(ee L (bs.take j)).map dz⟩/\st_c.next<=p.cV/\p.cV<st.next/\0<(ee L (bs.take j)).length))) (bs.length) ⟨0,ab,ab,sl (tw @c27 (tw @cg0 (tw @c1 (tw @c8 (tw @c9 (tw @xY (tw @xZ @Wv))))))),sl (tw @c27 (tw @cg0 (tw @c1 (tw @c8 (tw @c9 (tw @xY (tw @xZ @Wv))))))),⟨cD,.inl ⟨rfl,by(simp only[go_sem, ↓reduceIte,Nat.reduceEqDiff,Nat.reduceAdd,Nat.reduceSub,Nat.reduceLeDiff,reduceCtorEq])⟩⟩⟩ ?_
 rintro n_f env_f st_f ⟨j,rfl,fle,f46,fg0,fI0⟩ ffr
 have f1:=ffr 1 (by kernel_rfl);have f8:=ffr 8 (by kernel_rfl);have f9:=ffr 9 (by kernel_rfl);have f44:=ffr 44 (by kernel_rfl);have f45:=ffr 45 (by kernel_rfl)
 simp only[go_sem, ↓reduceIte,Nat.reduceEqDiff,Nat.reduceAdd,Nat.reduceSub,Nat.reduceLeDiff,reduceCtorEq,c27,cg0,c1,c8,c9,xY,xZ,Wv]at f1 f8 f9 f44 f45
 clear ffr
 obtain⟨Pr,fO⟩:=fI0
 have PG:=dF (i:=⟨102002001,σ2.next+1⟩) (n:=st_f.next) cD
 have nz:=(xx L (bs.take j)).1
 rw[List.length_take]at nz
 by_cases hj:(j:Int)<(bs.length:Int)
 ·have KW:∀{e:Env} {gg:Rows} {nx:Nat},(e 46=.int .i64 (IntKind.i64.wrap ((j:Int)+1)))->(gg ⟨102002001,σ2.next+1⟩=some ⟨true,1,ga (dR L) cnt⟩)->(st_c.next<=nx/\((ee L (bs.take (j+1))=[]/\e 14=.bP)∨∃p:Id,e 14=.own p 0 (ee L (bs.take (j+1))).length/\gg p=some ⟨true,3,(ee L (bs.take (j+1))).map dz⟩/\st_c.next<=p.cV/\p.cV<nx/\0<(ee L (bs.take (j+1))).length))->∃m0,m0<(bs.length)-j/\∃j:Nat,m0=(bs.length)-j/\j<=(bs.length)/\e 46=.int .i64 (j:Int)/\gg ⟨102002001,σ2.next+1⟩=some ⟨true,1,ga (dR L) cnt⟩/\(st_c.next<=nx/\((ee L (bs.take j)=[]/\e 14=.bP)∨∃p:Id,e 14=.own p 0 (ee L (bs.take j)).length/\gg p=some ⟨true,3,(ee L (bs.take j)).map dz⟩/\st_c.next<=p.cV/\p.cV<nx/\0<(ee L (bs.take j)).length)):=fun x1 x2 x3=>⟨_,ab,j+1,rfl,ab,(by rw[x1,cE ab]),x2,x3⟩
  have pO:j<bs.length:=ab
  have Nw:(bs.map dz)[j]? =some (dz bs[j]):=by simp[pO]
  have hbj:=hb _ (List.getElem_mem pO)
  have hs:=Bc L (bs.take j) bs[j]
  rw[<-List.take_succ_eq_append_getElem pO]at hs
  generalize bs[j]=b at *
  have hA:=iP (f:=dR L) hbj.1
  have hB:=iP (f:=dR L) hbj.2
  have Em:(b.a:Int)<(cnt:Int):=ab
  have qj:(b.b:Int)<(cnt:Int):=ab
  rw[eN]at hA hB
  have e1:(ee L (bs.take j)).length+1<=16777216:=ab
  have fJ:((ee L (bs.take j)).map dz).length=(ee L (bs.take j)).length:=by simp
  by_cases he:dR L b.a=dR L b.b
  ·rw[if_pos he,List.append_nil]at hs
   have Mp:decide ((dR L b.a:Int)=(dR L b.b:Int))=true:=decide_eq_true (by rw[he])
   (try((repeat(revert hN;revert N;apply Pn.out));refine wk (tw @f46 (tw @fg0 (tw @f1 (tw @f8 (tw @f9 (tw @f44 (tw @f45 (tw @hj (tw @Nw (tw @hA (tw @hB (tw @Em (tw @qj (tw @tl (tw @Mp (tw @PG (tw @dz.eq_1 (tw @Bool.not_true @Bool.not_false)))))))))))))))))) ?_;(repeat(refine Pn.mk ?_;intro N hN))))
   refine KW ?_ ?_ (by(try dsimp only);exact⟨ab,by
    rw[hs]
    rcases fO with⟨h1,h2⟩|⟨p,h1,h2,h3,h4,h5⟩
    ·exact .inl ⟨h1,sd @h2⟩
    ·have UY:=dF h4
     exact .inr ⟨p,sd @h1,sd (tw @h2 @UY),h3,ab,h5⟩⟩)
   all_goals simp only[go_sem, ↓reduceIte,Nat.reduceEqDiff,Nat.reduceAdd,Nat.reduceSub,Nat.reduceLeDiff,reduceCtorEq,f46,fg0,f1,f8,f9,f44,f45,PG]
  ·rw[if_neg he]at hs
   have Mp:decide ((dR L b.a:Int)=(dR L b.b:Int))=false:=decide_eq_false fun h=>he ab
   rcases fO with⟨h1,f14⟩|⟨p,f14,fg,NI,Pv,hp3⟩
   ·rw[h1]at hs
    (try((repeat(revert hN;revert N;apply Pn.out));refine wk (tw @f46 (tw @fg0 (tw @f1 (tw @f8 (tw @f9 (tw @f44 (tw @f45 (tw @f14 (tw @hj (tw @Nw (tw @hA (tw @hB (tw @Em (tw @qj (tw @tl (tw @Mp (tw @PG (tw @dz.eq_1 (tw @Bool.not_true @Bool.not_false))))))))))))))))))) ?_;(repeat(refine Pn.mk ?_;intro N hN))))
    refine KW ?_ ?_ (by(try dsimp only);exact⟨ab,.inr ⟨⟨102017015,st_f.next+1+1+1⟩,by rw[hs];simp only[go_sem, ↓reduceIte,Nat.reduceEqDiff,Nat.reduceAdd,Nat.reduceSub,Nat.reduceLeDiff,reduceCtorEq,List.nil_append,List.length_cons,List.length_nil],by rw[hs];simp only[go_sem, ↓reduceIte,Nat.reduceEqDiff,Nat.reduceAdd,Nat.reduceSub,Nat.reduceLeDiff,reduceCtorEq,dz,List.nil_append,List.map_cons,List.map_nil],cD,cD,by rw[hs];simp⟩⟩)
    all_goals simp only[go_sem, ↓reduceIte,Nat.reduceEqDiff,Nat.reduceAdd,Nat.reduceSub,Nat.reduceLeDiff,reduceCtorEq,f46,fg0,f1,f8,f9,f44,f45,PG]
   ·have x1:=dU (a:=⟨102002001,σ2.next+1⟩) (b:=p) cD
    have UY:=dF Pv
    (try((repeat(revert hN;revert N;apply Pn.out));refine wk (tw @f46 (tw @fg0 (tw @f1 (tw @f8 (tw @f9 (tw @f44 (tw @f45 (tw @f14 (tw @fg (tw @hj (tw @Nw (tw @hA (tw @hB (tw @Em (tw @qj (tw @tl (tw @Mp (tw @x1 (tw @UY (tw @PG (tw @e1 (tw @fJ (tw @dz.eq_1 (tw @Bool.not_true @Bool.not_false)))))))))))))))))))))))) ?_;(repeat(refine Pn.mk ?_;intro N hN))))
    refine KW ?_ ?_ (by(try dsimp only);exact⟨ab,.inr ⟨⟨102017015,st_f.next+1+1+1⟩,by rw[hs,List.length_append];simp only[go_sem, ↓reduceIte,Nat.reduceEqDiff,Nat.reduceAdd,Nat.reduceSub,Nat.reduceLeDiff,reduceCtorEq,List.length_cons,List.length_nil],by rw[hs,List.map_append,List.map_cons,List.map_nil];simp only[go_sem, ↓reduceIte,Nat.reduceEqDiff,Nat.reduceAdd,Nat.reduceSub,Nat.reduceLeDiff,reduceCtorEq,dz],cD,cD,by rw[hs];simp⟩⟩)
    all_goals simp only[go_sem, ↓reduceIte,Nat.reduceEqDiff,Nat.reduceAdd,Nat.reduceSub,Nat.reduceLeDiff,reduceCtorEq,f46,fg0,f1,f8,f9,f44,f45,x1,PG]
 ·have ja:j=bs.length:=ab
  subst ja
  rw[List.take_length]at fO
  rcases fO with⟨h1,f14⟩|⟨p,f14,fg,NI,Pv,hp3⟩
  ·(try((repeat(revert hN;revert N;apply Pn.out));refine wk (tw @f46 (tw @fg0 (tw @f1 (tw @f8 (tw @f9 (tw @f44 (tw @f45 (tw @f14 (tw @hj @tO))))))))) ?_;(repeat(refine Pn.mk ?_;intro N hN))))
   refine mj (.inl rfl) (r1:=.int .i64 ((leads cnt L).length:Int)) (sd @Nat.zero_add) (by simp only[go_sem, ↓reduceIte,Nat.reduceEqDiff,Nat.reduceAdd,Nat.reduceSub,Nat.reduceLeDiff,reduceCtorEq];rfl) ?_
   simp only[gn,cQ,dD,eV,kz,h1,OG,Option.map_some]
  ·(try((repeat(revert hN;revert N;apply Pn.out));refine wk (tw @f46 (tw @fg0 (tw @f1 (tw @f8 (tw @f9 (tw @f44 (tw @f45 (tw @f14 (tw @hj @tO))))))))) ?_;(repeat(refine Pn.mk ?_;intro N hN))))
   refine mj (.inl rfl) (r1:=.int .i64 ((leads cnt L).length:Int)) (sd @Nat.zero_add) (by simp only[go_sem, ↓reduceIte,Nat.reduceEqDiff,Nat.reduceAdd,Nat.reduceSub,Nat.reduceLeDiff,reduceCtorEq];rfl) ?_
   have h1:gx st_f.get 5 (.own p 0 (ee L bs).length)=some (.sl ((ee L bs).map dz)):=eT (sz:=3) fg rfl fun b=>FZ _ 3 b
   simp only[gn,cQ,dD,eV,h1,Bf hp3,Option.map_some]
theorem x7 (cnt:Nat) (pn:1<=cnt) (hn:cnt<=1048576) (t:Int):az Tryz.prog 102 [.int .i64 cnt,.bP,.int .i64 t] (.fN [.int .i64 cnt,.bP]):=by
 refine az.body fC rfl fun hl n0=>?_
 clear hl
 have h1:az Tryz.prog 130 [.bP] .bP:=by
  refine az.body fC rfl fun hl n0=>?_
  clear hl
  (try((repeat(revert hN;revert N;apply Pn.out));refine wk @Nat.zero_add ?_;(repeat(refine Pn.mk ?_;intro N hN))))
  exact xl (.inl rfl) (r0:=.bP) (sd @Nat.zero_add) (kz _ _)
 have h2:az Tryz.prog 129 [.bP,.fn 131 [.fe [.int .i64 t]]] .bP:=by
  have Ya:=(zb [] t (by simp)).cut mixed (.bP (.same _ .nil))
  refine az.body fC rfl fun hl n0=>?_
  clear hl
  (try((repeat(revert hN;revert N;apply Pn.out));refine wk @Nat.zero_add ?_;(repeat(refine Pn.mk ?_;intro N hN))))
  refine .inl ⟨_,az.x Ya (by simp only[ad,ae,aD,bU,aA,List.all_cons,List.all_nil,AV.cell,Bool.and_true,if_true,Option.map_some]),?_⟩
  refine hN _ _ ?_
  clear hN N
  have hd:decide (oA (fun b:PB=>decide (b.s<t)) []= -1)=true:=rfl
  (try((repeat(revert hN;revert N;apply Pn.out));refine wk @hd ?_;(repeat(refine Pn.mk ?_;intro N hN))))
  exact xl (.inl rfl) (r0:=.bP) (sd @Nat.zero_add) (kz _ _)
 have Mr:=(vZ cnt pn hn [] (fun b h=>by cases h) (by simp)).cut mixed (.same _ (.bP .nil))
 (repeat(first|((repeat(revert hN;revert N;apply Pn.out));refine wk @Nat.zero_add ?_;(repeat(refine Pn.mk ?_;intro N hN)))|((try apply Or.inl);refine⟨_,az.x (h1) (sd @Nat.zero_add),?_⟩;refine hN _ _ ?_;clear hN N)))
 refine .inl ⟨_,az.x h2 ?_,?_⟩
 ·have:V.fz (dX (bz (fun _=>none) ⟨102000000,n0⟩ ⟨true,1,[[.int .i64 t]]⟩)) 5 (.ptr ⟨102000000,n0⟩ 0 0)=some (.fe [.int .i64 t]):=Ay (sz:=1) (rows:=[[.int .i64 t]]) (by simp[dX,bz]) rfl (by simp only[List.drop_zero,ad,ae,aP,Option.map_some])
  simp only[ad,ae,aD,bU,this,List.all_cons,List.all_nil,AV.cell,Bool.and_true,if_true,Option.map_some]
 refine hN _ _ ?_
 clear hN N
 have qj:fP ([]:List PB)=id:=rfl
 rw[qj]at Mr
 have hL:jN id:=qj▸CE ([]:List PB)
 have SK:(leads cnt id).length=cnt:=by rw[leads,List.filter_eq_self.2 (fun a _=>by simp)];simp
 generalize (id:Nat->Nat)=L at *
 have tO:((iJ cnt L).map JG).length=(leads cnt L).length:=by simp[iJ]
 have Ye:=l6 cnt L
 have jt:(0:Int)<=(cnt:Int):=ab
 have oH:(cnt:Int)<=((16777216:Nat):Int):=ab
 have hZ:List.replicate cnt [AV.int .i64 0]=ga (eu cnt L 0 0) cnt:=by rw[Dg,tY]
 (repeat(first|((repeat(revert hN;revert N;apply Pn.out));refine wk (tw @jt (tw @oH (tw @Int.le_refl (tw @tO @hZ)))) ?_;(repeat(refine Pn.mk ?_;intro N hN)))|((try apply Or.inl);refine⟨_,az.x (Mr) (sd (tw @jt (tw @oH (tw @Int.le_refl (tw @tO @hZ))))),?_⟩;refine hN _ _ ?_;clear hN N)))
 refine dc (fun n env st=>∃i:Nat,n=((leads cnt L).length)-i/\i<=((leads cnt L).length)/\env 27=.int .i64 (i:Int)/\st.get ⟨102002001,n0+1+1⟩=some ⟨true,1,ga (eu cnt L i 0) cnt⟩/\(n0+1+1<st.next)) ((leads cnt L).length) ⟨0,ab,ab,sl (tw @hZ @tO),sl (tw @hZ @tO),cD⟩ ?_
 rintro n_c env_c st_c ⟨i,rfl,cle,c27,cg0,cI0⟩ cfr
 have c1:=cfr 1 (by kernel_rfl);have c8:=cfr 8 (by kernel_rfl);have c9:=cfr 9 (by kernel_rfl);have xY:=cfr 25 (by kernel_rfl);have xZ:=cfr 26 (by kernel_rfl)
 simp only[go_sem, ↓reduceIte,Nat.reduceEqDiff,Nat.reduceAdd,Nat.reduceSub,Nat.reduceLeDiff,reduceCtorEq,hZ,tO]at c1 c8 c9 xY xZ
 clear cfr
 by_cases hi:(i:Int)<((leads cnt L).length:Int)
 ·have wT:∀{e:Env} {gg:Rows} {nx:Nat},(e 27=.int .i64 (IntKind.i64.wrap ((i:Int)+1)))->(gg ⟨102002001,n0+1+1⟩=some ⟨true,1,ga (eu cnt L (i+1) 0) cnt⟩)->(n0+1+1<nx)->∃m0,m0<((leads cnt L).length)-i/\∃i:Nat,m0=((leads cnt L).length)-i/\i<=((leads cnt L).length)/\e 27=.int .i64 (i:Int)/\gg ⟨102002001,n0+1+1⟩=some ⟨true,1,ga (eu cnt L i 0) cnt⟩/\(n0+1+1<nx):=fun x1 x2 x3=>⟨_,ab,i+1,rfl,ab,(by rw[x1,cE ab]),x2,x3⟩
  have im:i<(leads cnt L).length:=ab
  have Et:((iJ cnt L).map JG)[i]? =some (JG (members cnt L (leads cnt L)[i])):=by simp[iJ,im]
  have AF:(leads cnt L).getD i 0=(leads cnt L)[i]:=by simp[List.getD_eq_getElem?_getD,im]
  have Kt:∀m,eu cnt L i m=fun x=>if dR L x<i then dR L x else if x∈(members cnt L (leads cnt L)[i]).take m then i else 0:=fun m=>by unfold eu;rw[AF]
  have Ev:=fun x (hx:x<cnt)=>zx hL (n:=cnt) (k:=x) (i:=i) hx im
  have po:(members cnt L (leads cnt L)[i]).Nodup:=List.nodup_range.filter _
  have NC:∀x∈members cnt L (leads cnt L)[i],x<cnt:=fun x hx=>(oK.1 hx).1
  have hMc:(members cnt L (leads cnt L)[i]).length<=cnt:=by
   have:=List.length_filter_le (fun k=>L k==(leads cnt L)[i]) (List.range cnt)
   simpa[members]using this
  generalize members cnt L (leads cnt L)[i]=M at *
  have Hm:(M.map eN).length=M.length:=by simp
  (try((repeat(revert hN;revert N;apply Pn.out));refine wk (tw @c27 (tw @cg0 (tw @c1 (tw @c8 (tw @c9 (tw @xY (tw @xZ (tw @hi (tw @tO (tw @Et (tw @JG.eq_1 @Hm))))))))))) ?_;(repeat(refine Pn.mk ?_;intro N hN))))
  refine dc (fun n env st=>∃m:Nat,n=(M.length)-m/\m<=(M.length)/\env 34=.int .i64 (m:Int)/\st.get ⟨102002001,n0+1+1⟩=some ⟨true,1,ga (eu cnt L i m) cnt⟩/\(n0+1+1<st.next)) (M.length) ⟨0,ab,ab,sl (tw @c27 (tw @cg0 (tw @c1 (tw @c8 (tw @c9 (tw @xY (tw @xZ @Hm))))))),sl (tw @c27 (tw @cg0 (tw @c1 (tw @c8 (tw @c9 (tw @xY (tw @xZ @Hm))))))),cD⟩ ?_
  rintro n_d env_d st_d ⟨m,rfl,dle,d34,dg0,dI0⟩ dfr
  have d1:=dfr 1 (by kernel_rfl);have d8:=dfr 8 (by kernel_rfl);have d9:=dfr 9 (by kernel_rfl);have d10:=dfr 10 (by kernel_rfl);have d25:=dfr 25 (by kernel_rfl);have d26:=dfr 26 (by kernel_rfl);have d27:=dfr 27 (by kernel_rfl);have d32:=dfr 32 (by kernel_rfl);have d33:=dfr 33 (by kernel_rfl)
  simp only[go_sem, ↓reduceIte,Nat.reduceEqDiff,Nat.reduceAdd,Nat.reduceSub,Nat.reduceLeDiff,reduceCtorEq,c27,cg0,c1,c8,c9,xY,xZ,Hm]at d1 d8 d9 d10 d25 d26 d27 d32 d33
  clear dfr
  have tl:=js (eu cnt L i m) cnt
  by_cases hm:(m:Int)<(M.length:Int)
  ·have tZ:∀{e:Env} {gg:Rows} {nx:Nat},(e 34=.int .i64 (IntKind.i64.wrap ((m:Int)+1)))->(gg ⟨102002001,n0+1+1⟩=some ⟨true,1,ga (eu cnt L i (m+1)) cnt⟩)->(n0+1+1<nx)->∃m0,m0<(M.length)-m/\∃m:Nat,m0=(M.length)-m/\m<=(M.length)/\e 34=.int .i64 (m:Int)/\gg ⟨102002001,n0+1+1⟩=some ⟨true,1,ga (eu cnt L i m) cnt⟩/\(n0+1+1<nx):=fun x1 x2 x3=>⟨_,ab,m+1,rfl,ab,(by rw[x1,cE ab]),x2,x3⟩
   have Hu:m<M.length:=ab
   have uk:(M.map eN)[m]? =some (eN M[m]):=by simp[Hu]
   have EB:=NC _ (List.getElem_mem Hu)
   have PH:(M[m]:Int)<(cnt:Int):=ab
   have HA:=iP (f:=eu cnt L i m) EB
   have iL:(ga (eu cnt L i m) cnt).set M[m] (eN i)=ga (eu cnt L i (m+1)) cnt:=uS EB (by
    have h1:=(Ev _ EB).1 (List.getElem_mem Hu)
    rw[Kt]
    simp only[]
    rw[if_neg ab,if_pos (by rw[List.take_succ_eq_append_getElem Hu];exact List.mem_append_right _ (List.mem_singleton.2 rfl))]) fun x hx gZ=>by
    rw[Kt,Kt]
    simp only[]
    rw[List.take_succ_eq_append_getElem Hu]
    simp only[List.mem_append,List.mem_singleton,gZ,or_false]
   rw[eN]at iL HA
   generalize M[m]=xm at *
   (try((repeat(revert hN;revert N;apply Pn.out));refine wk (tw @d34 (tw @dg0 (tw @d1 (tw @d8 (tw @d9 (tw @d10 (tw @d25 (tw @d26 (tw @d27 (tw @d32 (tw @d33 (tw @hm (tw @hi (tw @uk (tw @Hm (tw @PH (tw @HA (tw @tl (tw @iL @eN.eq_1))))))))))))))))))) ?_;(repeat(refine Pn.mk ?_;intro N hN))))
   refine tZ ?_ ?_ cD
   all_goals simp only[go_sem, ↓reduceIte,Nat.reduceEqDiff,Nat.reduceAdd,Nat.reduceSub,Nat.reduceLeDiff,reduceCtorEq,d34,dg0,d1,d8,d9,d10,d25,d26,d27,d32,d33,iL]
  ·have fJ:m=M.length:=ab
   subst fJ
   have wi:ga (eu cnt L i M.length) cnt=ga (eu cnt L (i+1) 0) cnt:=kj fun x hx=>by
    rw[Kt,List.take_length]
    simp only[eu,List.take_zero,List.not_mem_nil,if_false]
    have h1:=Ev x hx
    by_cases h2:dR L x<i
    ·rw[if_pos h2,if_pos ab]
    ·rw[if_neg h2]
     by_cases h3:x∈M
     ·rw[if_pos h3,if_pos (by have:=h1.1 h3;omega),h1.1 h3]
     ·rw[if_neg h3,if_neg fun h4=>h3 (h1.2 ab)]
   (try((repeat(revert hN;revert N;apply Pn.out));refine wk (tw @d34 (tw @dg0 (tw @d1 (tw @d8 (tw @d9 (tw @d10 (tw @d25 (tw @d26 (tw @d27 (tw @d32 (tw @d33 (tw @hm (tw @hi (tw @tO @Hm)))))))))))))) ?_;(repeat(refine Pn.mk ?_;intro N hN))))
   refine wT ?_ ?_ cD
   all_goals simp only[go_sem, ↓reduceIte,Nat.reduceEqDiff,Nat.reduceAdd,Nat.reduceSub,Nat.reduceLeDiff,reduceCtorEq,c27,cg0,c1,c8,c9,xY,xZ,d34,dg0,d1,d8,d9,d10,d25,d26,d27,d32,d33,wi]
 have pN:i=(leads cnt L).length:=ab
 subst pN
 have Cq:ga (eu cnt L (leads cnt L).length 0) cnt=ga (dR L) cnt:=kj fun x hx=>by rw[eu,if_pos (oL hL hx)]
 rw[Cq]at cg0
 have tl:=js (dR L) cnt
 (try((repeat(revert hN;revert N;apply Pn.out));refine wk (tw @c27 (tw @cg0 (tw @c1 (tw @c8 (tw @c9 (tw @xY (tw @xZ (tw @hi @tO)))))))) ?_;(repeat(refine Pn.mk ?_;intro N hN))))
 refine dc (fun n env st=>∃j:Nat,n=(0)-j/\j<=(0)/\env 46=.int .i64 (j:Int)/\env 14=.bP) (0) ⟨0,ab,ab,sl (tw @c27 (tw @cg0 (tw @c1 (tw @c8 (tw @c9 (tw @xY @xZ)))))),sl (tw @c27 (tw @cg0 (tw @c1 (tw @c8 (tw @c9 (tw @xY @xZ))))))⟩ ?_
 rintro n_f env_f st_f ⟨j,rfl,fle,f46,f14⟩ ffr
 have f8:=ffr 8 (by kernel_rfl);have f44:=ffr 44 (by kernel_rfl);have f45:=ffr 45 (by kernel_rfl)
 simp only[go_sem, ↓reduceIte,Nat.reduceEqDiff,Nat.reduceAdd,Nat.reduceSub,Nat.reduceLeDiff,reduceCtorEq,c27,cg0,c1,c8,c9,xY,xZ]at f8 f44 f45
 clear ffr
 have hj:¬(j:Int)<((0:Nat):Int):=ab
 (try((repeat(revert hN;revert N;apply Pn.out));refine wk (tw @f46 (tw @f14 (tw @f8 (tw @f44 (tw @f45 (tw @hj @tO)))))) ?_;(repeat(refine Pn.mk ?_;intro N hN))))
 refine mj (.inl rfl) (r1:=.int .i64 ((leads cnt L).length:Int)) (r2:=.bP) (sd @Nat.zero_add) (sd @Nat.zero_add) ?_
 simp only[gn,cQ,dD,eV,kz,SK,Option.map_some]
theorem Am (cnt:Nat) (pn:1<=cnt) (hn:cnt<=1048576) (bs:List PB) (hb:∀b∈bs,b.a<cnt/\b.b<cnt) (iY:bs.length<=1048576) (t:Int):az Tryz.prog 102 [.int .i64 cnt,Be bs,.int .i64 t] (.fN [.int .i64 (leads cnt (fP (cF t bs))).length,Be (ee (fP (cF t bs)) bs)]):=by
 cases bs with
 |nil=>
  have h:=x7 cnt pn hn t
  have SK:(leads cnt (fP (cF t []))).length=cnt:=by
   show(leads cnt id).length=cnt
   rw[leads,List.filter_eq_self.2 (fun a _=>by simp)];simp
  rw[SK]
  exact h
 |cons b r=>
  rw[Bf (by simp)]
  exact x8 cnt pn hn (b::r) hb (by simp) iY t
end Go.Proofs.YtalkncaokeaifaaGreatDoor.V

namespace Go.Proofs.YtalkncaokeaifaaGreatDoor.V
open Go.RowKit
attribute [local irreducible] dH wpOps eB Call
attribute [local go_sem] ax eo dS ez ev cZ upd bD K.av bR AV.cells AV.cell rowOf rowsOf part ld rowAt eL bz bx cW dj eO bf cC dw er ea cR dq cw cu da db bp aI bZ bj ck cj dn dr dp bW br cz dm bh ar cq bH eM aT bL bq aH cU aQ cX AV.undef aW bd de di cY c6 bJ dv dy bE du dt cm cr List.getD_cons_zero List.getD_cons_succ List.getD_nil List.all_cons List.all_nil Bool.and_true Bool.true_and Bool.and_self Bool.not_true Bool.not_false Option.map_some Option.map_none Option.bind_some Option.bind_none List.length_cons List.length_nil List.take_succ_cons List.take_zero List.take_nil List.drop_succ_cons List.drop_zero List.drop_nil List.head?_cons List.map_cons List.map_nil List.getElem?_cons_zero List.getElem?_cons_succ List.cons_append List.nil_append List.append_nil List.length_map List.set_cons_zero List.set_cons_succ Nat.reduceMul eq_self Int.toNat_natCast Int.natCast_nonneg and_self true_and and_true decide_true decide_false Bool.false_eq_true Nat.zero_add Nat.add_zero List.contains_cons List.contains_nil Bool.or_false Bool.false_or beq_self_eq_true Nat.reduceBEq ne_eq not_true_eq_false not_false_eq_true Id.mk.injEq false_and and_false Nat.reduceLT Int.reduceLE Int.reduceLT Int.reduceToNat Int.reduceNeg Int.reduceAdd Nat.le_refl List.length_append beq_true beq_false Bool.not_eq_eq_eq_not or_false false_or dX ad ae aP aJ bt bI aD aS aA aL bU aZ
attribute [local go_sem] GG
section
attribute [-go_sem] cW
theorem N7 (n:Nat) (hn:n<=1048576):az Tryz.prog 205 [.int .u64 1,.int .u64 n] (.fN [.int .u64 0,.int .u64 n]):=by
 refine az.body fC rfl fun hl n0=>?_
 clear hl
 have b1:(BitVec.ofInt 64 (n:Int)&&& BitVec.ofInt 64 4294967295).toNat=n:=by
  rw[BitVec.toNat_and]
  have e1:(BitVec.ofInt 64 (n:Int)).toNat=n:=by rw[BitVec.toNat_ofInt];omega
  have e2:(BitVec.ofInt 64 4294967295).toNat=2 ^ 32-1:=by decide
  rw[e1,e2]
  exact Nat.and_two_pow_sub_one_of_lt_two_pow ab
 have zn:IntKind.u64.wrap (n:Int)=n:=by rw[IntKind.wrap_u64];omega
 have i1:cW .and .u64 (n:Int) 4294967295=some (.int .u64 n):=by
  show some (AV.int .u64 (IntKind.u64.wrap (((BitVec.ofInt 64 (n:Int)&&& BitVec.ofInt 64 4294967295).toNat:Nat):Int)))= _
  rw[b1,zn]
 have i2:cW .and .u64 1 4294967295=some (.int .u64 1):=rfl
 have i3:cW .and .u64 0 4294967295=some (.int .u64 0):=rfl
 have i4:cW .mul .u64 1 (n:Int)=some (.int .u64 n):=by simp only[cW,Int.one_mul,zn]
 have i5:cW .mul .u64 0 (n:Int)=some (.int .u64 0):=by simp only[cW,Int.zero_mul];rfl
 have i6:cW .mul .u64 1 0=some (.int .u64 0):=rfl
 have i7:cW .mul .u64 0 0=some (.int .u64 0):=rfl
 have i8:cW .add .u64 0 0=some (.int .u64 0):=rfl
 have a3:Int.fdiv 1 (2 ^ min 32 64)=0:=by decide
 have a4:Int.fdiv (n:Int) (2 ^ min 32 64)=0:=by
  rw[Int.fdiv_eq_ediv_of_nonneg _ (by decide)]
  have h32:(2:Int) ^ min 32 64=4294967296:=by decide
  exact Int.ediv_eq_zero_of_lt ab ab
 have z1:Int.fdiv 0 (2 ^ min 32 64)=0:=by decide
 (try((repeat(revert hN;revert N;apply Pn.out));refine wk (tw @i1 (tw @i2 (tw @i3 (tw @i4 (tw @i5 (tw @i6 (tw @i7 (tw @i8 (tw @a3 (tw @a4 @z1)))))))))) ?_;(repeat(refine Pn.mk ?_;intro N hN))))
 refine mj (.inl rfl) (r1:=.int .u64 0) (r2:=.int .u64 n) (sd @Nat.zero_add) (sd @Nat.zero_add) ?_
 simp only[gn,cQ,dD,eV,Option.map_some]
end
theorem Vg (n:Nat) (hn:n<=1048576):az Tryz.prog 191 [.int .u64 1,.int .u64 n] (.fN [.int .u64 0,.int .u64 n]):=by
 refine az.body fC rfl fun hl n0=>?_
 clear hl
 have h:=N7 n hn
 (repeat(first|((repeat(revert hN;revert N;apply Pn.out));refine wk @Nat.zero_add ?_;(repeat(refine Pn.mk ?_;intro N hN)))|((try apply Or.inl);refine⟨_,az.x (h) (sd @Nat.zero_add),?_⟩;refine hN _ _ ?_;clear hN N)))
 refine mj (.inl rfl) (r1:=.int .u64 0) (r2:=.int .u64 n) (sd @Nat.zero_add) (sd @Nat.zero_add) ?_
 simp only[gn,cQ,dD,eV,Option.map_some]
theorem Lp (cnt:Nat) (pn:1<=cnt) (hn:cnt<=1048576) (v:Int) (x:Id) (σ:au) (hx:σ.get x=some ⟨true,1,[[.int .i64 v]]⟩) (Rs:x.cV<σ.next):
  Call Tryz.prog 177 [.own x 0 1,.int .i64 cnt] σ fun r σ'=>∃o:Id,r=.own o 0 cnt/\σ'.get o=some ⟨true,1,List.replicate cnt [.int .i64 v]⟩/\σ.next<=o.cV/\o.cV<σ'.next/\∀i:Id,i.cV<σ.next->σ'.get i=σ.get i:=by
 refine eX fC rfl fun hl=>?_
 clear hl
 have h:=Vg cnt hn
 have w1:IntKind.u64.wrap (cnt:Int)=cnt:=by rw[IntKind.wrap_u64];omega
 have w2:IntKind.i64.wrap (cnt:Int)=cnt:=Mf ab
 have w0:IntKind.u64.wrap ((1:Nat):Int)=1:=by decide
 have g1:¬(cnt:Int)<0:=ab
 have g2:¬(9223372036854775807:Int)<cnt:=ab
 have jt:(0:Int)<=(cnt:Int):=ab
 have oH:(cnt:Int)<=((16777216:Nat):Int):=ab
 have SS:=dF Rs
 have uJ:(List.replicate cnt [AV.int .i64 0]).length=cnt:=List.length_replicate
 have m1:min 1 cnt=1:=ab
 (repeat(first|((repeat(revert hN;revert N;apply Pn.out));refine wk (tw @w0 (tw @w1 (tw @w2 (tw @g1 (tw @g2 (tw @jt (tw @oH (tw @Int.le_refl (tw @Nat.le_refl (tw @hx (tw @SS (tw @uJ @m1)))))))))))) ?_;(repeat(refine Pn.mk ?_;intro N hN)))|((try apply Or.inl);refine⟨_,az.x (h) (sd (tw @w0 (tw @w1 (tw @w2 (tw @g1 (tw @g2 (tw @jt (tw @oH (tw @Int.le_refl (tw @Nat.le_refl (tw @hx (tw @SS (tw @uJ @m1))))))))))))),?_⟩;refine hN _ _ ?_;clear hN N)))
 refine dc (fun m env st=>∃k:Nat,m=cnt-k/\1<=k/\k<=cnt/\env 8=.int .i64 (k:Int)/\st.get ⟨177006002,σ.next+1+1+1+1⟩=some ⟨true,1,List.replicate k [.int .i64 v]++List.replicate (cnt-k) [.int .i64 0]⟩/\σ.next+4<st.next/\∀i:Id,i.cV<σ.next->st.get i=σ.get i) (cnt-1) ⟨1,rfl,Nat.le_refl _,pn,by(simp only[go_sem, ↓reduceIte,Nat.reduceEqDiff,Nat.reduceAdd,Nat.reduceSub,Nat.reduceLeDiff,reduceCtorEq,m1])<;>rfl,?_,cD,fun i hi=>?_⟩ ?_
 ·simp only[go_sem, ↓reduceIte,Nat.reduceEqDiff,Nat.reduceAdd,Nat.reduceSub,Nat.reduceLeDiff,reduceCtorEq]
  rw[List.drop_replicate];rfl
 ·have Rp:=dF hi
  simp only[go_sem, ↓reduceIte,Nat.reduceEqDiff,Nat.reduceAdd,Nat.reduceSub,Nat.reduceLeDiff,reduceCtorEq,Rp]
 rintro m env_b st_b ⟨k,rfl,sK,rm,b8,bg,bn,fG⟩ bkp
 have b7:=bkp 7 (by kernel_rfl)
 simp only[go_sem, ↓reduceIte,Nat.reduceEqDiff,Nat.reduceAdd,Nat.reduceSub,Nat.reduceLeDiff,reduceCtorEq]at b7
 clear bkp
 have Ey:(List.replicate k [AV.int .i64 v]++List.replicate (cnt-k) [AV.int .i64 0]).length=cnt:=by simp;omega
 by_cases hk:(k:Int)<(cnt:Int)
 ·have jv:k<cnt:=ab
  have oJ:(k:Int)<=(cnt:Int):=ab
  have hw:IntKind.i64.wrap ((k:Int)+((min k (cnt-k):Nat):Int))=((k+min k (cnt-k):Nat):Int):=by rw[cH ab];omega
  have tR:List.take k (List.replicate k [AV.int .i64 v]++List.replicate (cnt-k) [AV.int .i64 0])=List.replicate k [AV.int .i64 v]:=List.take_left' (by simp)
  have eI:(List.replicate k [AV.int .i64 v]).all (fun c=>c.length==1&&c.all AV.cell)=true:=List.all_eq_true.2 fun c hc=>by rw[List.eq_of_mem_replicate hc];rfl
  have hlr:(List.replicate k [AV.int .i64 v]).length=k:=List.length_replicate
  have YA:k+(cnt-k)=cnt:=ab
  have rq:List.replicate k [AV.int .i64 v]++List.take (min k (cnt-k)) (List.replicate k [AV.int .i64 v])++List.drop (k+min k (cnt-k)) (List.replicate k [AV.int .i64 v]++List.replicate (cnt-k) [AV.int .i64 0])=List.replicate (k+min k (cnt-k)) [AV.int .i64 v]++List.replicate (cnt-(k+min k (cnt-k))) [AV.int .i64 0]:=by
   rw[List.take_replicate,List.drop_append,List.drop_of_length_le (by simp),List.nil_append,hlr,List.drop_replicate,List.replicate_append_replicate]
   congr 2
   ·omega
   ·omega
  (try((repeat(revert hN;revert N;apply Pn.out));refine wk (tw @b7 (tw @b8 (tw @bg (tw @Ey (tw @hk (tw @oJ (tw @rm (tw @hw (tw @jv (tw @Nat.sub_zero (tw @tR (tw @eI (tw @hlr (tw @YA (tw @Nat.le_refl @rq))))))))))))))) ?_;(repeat(refine Pn.mk ?_;intro N hN))))
  refine⟨_,?_,k+min k (cnt-k),rfl,ab,ab,sd @hw,sd @rq,cD,fun i hi=>?_⟩
  ·omega
  ·have Rp:=dF hi
   have:=fG i hi
   simp only[go_sem, ↓reduceIte,Nat.reduceEqDiff,Nat.reduceAdd,Nat.reduceSub,Nat.reduceLeDiff,reduceCtorEq,Rp,this]
 ·have mN:k=cnt:=ab
  subst mN
  (try((repeat(revert hN;revert N;apply Pn.out));refine wk (tw @b7 (tw @b8 (tw @bg (tw @Ey @hk)))) ?_;(repeat(refine Pn.mk ?_;intro N hN))))
  refine eK (.inl rfl) (vs:=[.own ⟨177006002,σ.next+1+1+1+1⟩ 0 k]) (sd @Nat.zero_add) ⟨⟨177006002,σ.next+1+1+1+1⟩,rfl,by simp only[go_sem, ↓reduceIte,Nat.reduceEqDiff,Nat.reduceAdd,Nat.reduceSub,Nat.reduceLeDiff,reduceCtorEq,bg];simp,cD,cD,fun i hi=>fG i hi⟩
end Go.Proofs.YtalkncaokeaifaaGreatDoor.V

namespace Go.Proofs.YtalkncaokeaifaaGreatDoor.V
open Go.RowKit
attribute [local irreducible] dH wpOps eB Call
attribute [local go_sem] ax eo dS ez ev cZ upd bD K.av bR AV.cells AV.cell rowOf rowsOf part ld rowAt eL bz bx cW dj eO bf cC dw er ea cR dq cw cu da db bp aI bZ bj ck cj dn dr dp bW br cz dm bh ar cq bH eM aT bL bq aH cU aQ cX AV.undef aW bd de di cY c6 bJ dv dy bE du dt cm cr List.getD_cons_zero List.getD_cons_succ List.getD_nil List.all_cons List.all_nil Bool.and_true Bool.true_and Bool.and_self Bool.not_true Bool.not_false Option.map_some Option.map_none Option.bind_some Option.bind_none List.length_cons List.length_nil List.take_succ_cons List.take_zero List.take_nil List.drop_succ_cons List.drop_zero List.drop_nil List.head?_cons List.map_cons List.map_nil List.getElem?_cons_zero List.getElem?_cons_succ List.cons_append List.nil_append List.append_nil List.length_map List.set_cons_zero List.set_cons_succ Nat.reduceMul eq_self Int.toNat_natCast Int.natCast_nonneg and_self true_and and_true decide_true decide_false Bool.false_eq_true Nat.zero_add Nat.add_zero List.contains_cons List.contains_nil Bool.or_false Bool.false_or beq_self_eq_true Nat.reduceBEq ne_eq not_true_eq_false not_false_eq_true Id.mk.injEq false_and and_false Nat.reduceLT Int.reduceLE Int.reduceLT Int.reduceToNat Int.reduceNeg Int.reduceAdd Nat.le_refl List.length_append beq_true beq_false Bool.not_eq_eq_eq_not or_false false_or dX ad ae aP aJ bt bI aD aS aA aL bU aZ
def kV (R:Nat->Id) (n k:Nat):List (List AV):=(List.range k).map fun i=>[.own (R i) 0 n]
theorem jU (R:Nat->Id) (n k:Nat):(kV R n k).length=k:=by simp[kV]
theorem r7 {R:Nat->Id} {n k i:Nat} (h:i<k):(kV R n k)[i]? =some [.own (R i) 0 n]:=by simp[kV,h]
theorem th (R:Nat->Id) (n k:Nat):kV R n (k+1)=kV R n k++[[.own (R k) 0 n]]:=by simp[kV,List.range_succ]
def yw (c:Nat->Nat->Int) (n:Nat):List (List AV):=(List.range n).map fun i=>[.sl (gS (c i) n)]
theorem Df {c:Nat->Nat->Int} {n i:Nat} (h:i<n):(yw c n)[i]? =some [.sl (gS (c i) n)]:=by simp[yw,h]
theorem xF (c:Nat->Nat->Int) (n:Nat):(yw c n).length=n:=by simp[yw]
structure GM (X o1 o2:Id) (R1 R2:Nat->Id) (n nb:Nat):Prop where
 sx:X.site=134001001
 s1:o1.site=134004008
 s2:o2.site=134005008
 WW:∀i,i<n->(R1 i).site=134004006
 PR:∀i,i<n->(R2 i).site=134005006
 i1:∀i j,i<n->j<n->R1 i=R1 j->i=j
 i2:∀i j,i<n->j<n->R2 i=R2 j->i=j
 vx:X.cV<nb
 v1:o1.cV<nb
 v2:o2.cV<nb
 Y9:∀i,i<n->(R1 i).cV<nb
 VR:∀i,i<n->(R2 i).cV<nb
structure nW (g:Rows) (X o1 o2:Id) (R1 R2:Nat->Id) (n:Nat) (c f:Nat->Nat->Int):Prop where
 x:g X=some ⟨true,2,[[.own o1 0 n,.own o2 0 n]]⟩
 t1:g o1=some ⟨true,1,kV R1 n n⟩
 t2:g o2=some ⟨true,1,kV R2 n n⟩
 r1:∀i,i<n->g (R1 i)=some ⟨true,1,gS (c i) n⟩
 r2:∀i,i<n->g (R2 i)=some ⟨true,1,gS (f i) n⟩
theorem oi {f:Nat->Nat->Int} {a b:Nat} {d:Int} {n:Nat} (hb:b<n):(gS (f a) n).set b (ah (f a b+d))=gS (bump f a b d a) n:=xG hb (by simp[bump]) fun i _ hi=>by simp[bump,hi]
theorem jQ {f:Nat->Nat->Int} {a b i:Nat} {d:Int} (h:i≠a):bump f a b d i=f i:=by funext v;simp[bump,h]
theorem nW.add {g g':Rows} {X o1 o2:Id} {R1 R2:Nat->Id} {n nb:Nat} {c f:Nat->Nat->Int} (I:GM X o1 o2 R1 R2 n nb) (h:nW g X o1 o2 R1 R2 n c f) (b:PB) (ha:b.a<n) (hb:b.b<n) (hA:b.a≠b.b->g' (R1 b.a)=some ⟨true,1,gS (bump c b.a b.b b.s b.a) n⟩) (hB:g' (R1 b.b)=some ⟨true,1,gS (nG c b b.b) n⟩) (hf:∀i:Id,i.cV<nb->(i=R1 b.a)=False->(i=R1 b.b)=False->g' i=g i):nW g' X o1 o2 R1 R2 n (nG c b) f:=by
 have ne:∀{i:Id} {s:Nat},i.site=s->(s==134004006)=false->∀a,a<n->(i=R1 a)=False:=fun {i s} hi hs a ha=>by
  simp only[eq_iff_iff,iff_false]
  rintro rfl
  rw[I.WW a ha]at hi
  subst hi
  simp at hs
 refine⟨(hf _ I.vx (ne I.sx (by decide) _ ha) (ne I.sx (by decide) _ hb)).trans h.x,(hf _ I.v1 (ne I.s1 (by decide) _ ha) (ne I.s1 (by decide) _ hb)).trans h.t1,(hf _ I.v2 (ne I.s2 (by decide) _ ha) (ne I.s2 (by decide) _ hb)).trans h.t2,fun i hi=>?_,fun i hi=>(hf _ (I.VR i hi) (ne (I.PR i hi) (by decide) _ ha) (ne (I.PR i hi) (by decide) _ hb)).trans (h.r2 i hi)⟩
 by_cases Ms:i=b.b
 ·subst Ms;exact hB
 ·by_cases Q3:i=b.a
  ·subst Q3
   rw[hA Ms,nG,jQ Ms]
  ·rw[nG,jQ Ms,jQ Q3,hf _ (I.Y9 i hi) (by simp only[eq_iff_iff,iff_false];exact fun he=>Q3 (I.i1 i _ hi ha he)) (by simp only[eq_iff_iff,iff_false];exact fun he=>Ms (I.i1 i _ hi hb he))]
   exact h.r1 i hi
def lj (n:Nat) (c f:Nat->Nat->Int):List AV:=[.sl (yw c n),.sl (yw f n)]
theorem GB {g:Rows} {R:Nat->Id} {n k:Nat} {c:Nat->Nat->Int} (h:∀i,i<k->g (R i)=some ⟨true,1,gS (c i) n⟩) (m:Nat):fm (dX g) (m+3) (kV R n k)=some ((List.range k).map fun i=>[.sl (gS (c i) n)]):=by
 induction k with
 |zero=>rw[show kV R n 0=[]from rfl,fm];rfl
 |succ k ih=>
  have e1:V.fz (dX g) (m+3) (.own (R k) 0 n)=some (.sl (gS (c k) n)):=by
   rw[pk];simp only[dX,h k ab,Option.map_some,if_true]
   rw[if_pos (by rw[fI];omega),List.drop_zero,List.take_of_length_le (by rw[fI];omega),OM];rfl
  have app:∀(xs ys:List (List AV)) (W6 V7:List (List AV)),fm (dX g) (m+3) xs=some W6->fm (dX g) (m+3) ys=some V7->fm (dX g) (m+3) (xs++ys)=some (W6++V7):=by
   intro xs
   induction xs with
   |nil=>intro ys W6 V7 h1 h2;rw[fm]at h1;cases h1;exact h2
   |cons a xs ih2=>
    intro ys W6 V7 h1 h2
    rw[fm]at h1
    rw[List.cons_append,fm]
    cases ha:ek (dX g) (m+3) a with
    |none=>simp[ha]at h1
    |some a'=>
     cases hb:fm (dX g) (m+3) xs with
     |none=>simp[ha,hb]at h1
     |some b'=>
      simp[ha,hb]at h1
      subst h1
      rw[ih2 ys b' V7 hb h2];rfl
  rw[th,List.range_succ,List.map_append]
  refine app _ _ _ _ (ih fun i hi=>h i ab) ?_
  rw[fm,ad,ae,e1,fm];rfl
theorem nW.fz {g:Rows} {X o1 o2:Id} {R1 R2:Nat->Id} {n:Nat} {c f:Nat->Nat->Int} (h:nW g X o1 o2 R1 R2 n c f):V.fz (dX g) 6 (.ptr X 0 0)=some (.fe (lj n c f)):=by
 refine Ay (sz:=2) (rows:=[[.own o1 0 n,.own o2 0 n]]) (by simp[dX,h.x]) rfl ?_
 have e1:V.fz (dX g) 5 (.own o1 0 n)=some (.sl (yw c n)):=by
  rw[pk];simp only[dX,h.t1,Option.map_some,if_true]
  rw[if_pos (by rw[jU];omega),List.drop_zero,List.take_of_length_le (by rw[jU];omega)]
  rw[show fm _ 4 _=some (yw c n)from GB h.r1 1];rfl
 have e2:V.fz (dX g) 5 (.own o2 0 n)=some (.sl (yw f n)):=by
  rw[pk];simp only[dX,h.t2,Option.map_some,if_true]
  rw[if_pos (by rw[jU];omega),List.drop_zero,List.take_of_length_le (by rw[jU];omega)]
  rw[show fm _ 4 _=some (yw f n)from GB h.r2 1];rfl
 simp only[List.drop_zero,ad,ae,e1,e2,lj,Option.map_some]
theorem QD (n:Nat) (c f:Nat->Nat->Int) (u v:Nat) (hu:u<n) (hv:v<n):az Tryz.prog 178 [.fe (lj n c f),.int .i64 u,.int .i64 v] (.bool (decide (f u v<c u v))):=by
 refine az.body fC rfl fun hl n0=>?_
 clear hl
 have h1:=Df (c:=c) hu
 have h2:=Df (c:=f) hu
 have h3:=fQ (f:=c u) hv
 have h4:=fQ (f:=f u) hv
 have hui:(u:Int)<(n:Int):=ab
 have Rp:(v:Int)<(n:Int):=ab
 have l1:=xF c n
 have l2:=xF f n
 have l3:=fI (c u) n
 have l4:=fI (f u) n
 rw[ah]at h3 h4
 (try((repeat(revert hN;revert N;apply Pn.out));refine wk (tw @lj.eq_1 (tw @h1 (tw @h2 (tw @h3 (tw @h4 (tw @hui (tw @Rp (tw @l1 (tw @l2 (tw @l3 @l4)))))))))) ?_;(repeat(refine Pn.mk ?_;intro N hN))))
 exact dQ (b:=decide (f u v<c u v)) (.inl rfl) (sd @Nat.zero_add) rfl
theorem Il (n:Nat):List.replicate n [AV.int .i64 0]=gS (fun _=>0) n:=by
 refine List.ext_getElem? fun i=>?_
 by_cases h:i<n
 ·rw[fQ h,List.getElem?_replicate,if_pos h];rfl
 ·rw[List.getElem?_eq_none (by simp;omega),List.getElem?_eq_none (by rw[fI];omega)]
theorem qF {i j:Id} {s t:Nat} (hi:i.site=s) (hj:j.site=t) (h:(s==t)=false):(i=j)=False/\(j=i)=False:=by
 constructor<;>(simp only[eq_iff_iff,iff_false];rintro rfl;rw[hi]at hj;subst hj;simp at h)
theorem CR (cnt:Nat) (pn:1<=cnt) (hn:cnt<=1048576) (bs:List PB) (hb:∀b∈bs,b.a<cnt/\b.b<cnt) (ed:∀b∈bs,0<=b.s/\b.s<=4) (iY:bs.length<=1048576) (σ:au):
  Call Tryz.prog 134 [.int .i64 cnt,.sl (bs.map dz)] σ fun r σ'=>∃X o1 o2 R1 R2,r=.ptr X 0 0/\GM X o1 o2 R1 R2 cnt σ'.next/\σ.next<=σ'.next/\nW σ'.get X o1 o2 R1 R2 cnt (kR bs) (fun _ _=>0)/\∀i:Id,i.cV<σ.next->σ'.get i=σ.get i:=by
 refine eX fC rfl fun hl=>?_
 clear hl
 (try((repeat(revert hN;revert N;apply Pn.out));refine wk @Nat.zero_add ?_;(repeat(refine Pn.mk ?_;intro N hN))))
 obtain⟨X,hX⟩:∃X:Id,X=⟨134001001,σ.next+1⟩:=⟨_,rfl⟩
 obtain⟨R1,XM⟩:∃R:Nat->Id,R=fun k=>⟨134004006,σ.next+3+4*k+1⟩:=⟨_,rfl⟩
 obtain⟨R2,TW⟩:∃R:Nat->Id,R=fun k=>⟨134005006,σ.next+3+4*k+2⟩:=⟨_,rfl⟩
 have sX:X.site=134001001:=by rw[hX]
 have vX:X.cV=σ.next+1:=by rw[hX]
 have s1:∀k,(R1 k).site=134004006:=fun k=>by rw[XM]
 have s2:∀k,(R2 k).site=134005006:=fun k=>by rw[TW]
 have v1:∀k,(R1 k).cV=σ.next+3+4*k+1:=fun k=>by rw[XM]
 have v2:∀k,(R2 k).cV=σ.next+3+4*k+2:=fun k=>by rw[TW]
 have jt:(0:Int)<=(cnt:Int):=ab
 have oH:(cnt:Int)<=((16777216:Nat):Int):=ab
 have hz:=Il cnt
 have t1:kV R1 cnt 0=[]:=rfl
 have t2:kV R2 cnt 0=[]:=rfl
 refine dc (fun n env st=>∃k:Nat,n=(cnt)-k/\k<=(cnt)/\env 11=.int .i64 (k:Int)/\env 5=(.ptr X 0 0)/\(st.next=σ.next+3+4*k/\(∀i:Id,i.cV<σ.next->st.get i=σ.get i)/\∀j,j<k->st.get (R1 j)=some ⟨true,1,gS (fun _=>0) cnt⟩/\st.get (R2 j)=some ⟨true,1,gS (fun _=>0) cnt⟩)/\((k=0/\st.get X=some ⟨true,2,[[.bP,.bP]]⟩)∨∃o1 o2:Id,o1.site=134004008/\o2.site=134005008/\o1.cV<st.next/\o2.cV<st.next/\σ.next<=o1.cV/\σ.next<=o2.cV/\st.get X=some ⟨true,2,[[.own o1 0 k,.own o2 0 k]]⟩/\st.get o1=some ⟨true,1,kV R1 cnt k⟩/\st.get o2=some ⟨true,1,kV R2 cnt k⟩)) (cnt) ⟨0,ab,ab,sl @hX,sl @hX,⟨rfl,fun i hi=>by(have Rp:=dF hi);simp only[go_sem, ↓reduceIte,Nat.reduceEqDiff,Nat.reduceAdd,Nat.reduceSub,Nat.reduceLeDiff,reduceCtorEq,Rp],fun j hj=>absurd hj (Nat.not_lt_zero j)⟩,.inl ⟨rfl,by rw[hX];simp only[go_sem, ↓reduceIte,Nat.reduceEqDiff,Nat.reduceAdd,Nat.reduceSub,Nat.reduceLeDiff,reduceCtorEq]⟩⟩ ?_
 rintro n_a env_a st_a ⟨k,rfl,ale,a11,a5,qM,aI1⟩ eR
 have a0:=eR 0 (by kernel_rfl);have a1:=eR 1 (by kernel_rfl);have xP:=eR 10 (by kernel_rfl)
 simp only[go_sem, ↓reduceIte,Nat.reduceEqDiff,Nat.reduceAdd,Nat.reduceSub,Nat.reduceLeDiff,reduceCtorEq,hX]at a0 a1 xP
 clear eR
 obtain⟨anx,eR,aR⟩:=qM
 have wX:=dF (i:=X) (n:=st_a.next) ab
 by_cases hk:(k:Int)<(cnt:Int)
 ·have eF:∀{e:Env} {gg:Rows} {nx:Nat},(e 11=.int .i64 (IntKind.i64.wrap ((k:Int)+1)))->(e 5=(.ptr X 0 0))->(nx=σ.next+3+4*(k+1)/\(∀i:Id,i.cV<σ.next->gg i=σ.get i)/\∀j,j<(k+1)->gg (R1 j)=some ⟨true,1,gS (fun _=>0) cnt⟩/\gg (R2 j)=some ⟨true,1,gS (fun _=>0) cnt⟩)->(((k+1)=0/\gg X=some ⟨true,2,[[.bP,.bP]]⟩)∨∃o1 o2:Id,o1.site=134004008/\o2.site=134005008/\o1.cV<nx/\o2.cV<nx/\σ.next<=o1.cV/\σ.next<=o2.cV/\gg X=some ⟨true,2,[[.own o1 0 (k+1),.own o2 0 (k+1)]]⟩/\gg o1=some ⟨true,1,kV R1 cnt (k+1)⟩/\gg o2=some ⟨true,1,kV R2 cnt (k+1)⟩)->∃m0,m0<(cnt)-k/\∃k:Nat,m0=(cnt)-k/\k<=(cnt)/\e 11=.int .i64 (k:Int)/\e 5=(.ptr X 0 0)/\(nx=σ.next+3+4*k/\(∀i:Id,i.cV<σ.next->gg i=σ.get i)/\∀j,j<k->gg (R1 j)=some ⟨true,1,gS (fun _=>0) cnt⟩/\gg (R2 j)=some ⟨true,1,gS (fun _=>0) cnt⟩)/\((k=0/\gg X=some ⟨true,2,[[.bP,.bP]]⟩)∨∃o1 o2:Id,o1.site=134004008/\o2.site=134005008/\o1.cV<nx/\o2.cV<nx/\σ.next<=o1.cV/\σ.next<=o2.cV/\gg X=some ⟨true,2,[[.own o1 0 k,.own o2 0 k]]⟩/\gg o1=some ⟨true,1,kV R1 cnt k⟩/\gg o2=some ⟨true,1,kV R2 cnt k⟩):=fun x1 x2 x3 x4=>⟨_,ab,k+1,rfl,ab,(by rw[x1,cE ab]),x2,x3,x4⟩
  have jv:k<cnt:=ab
  have sK:R1 k=⟨134004006,st_a.next+1⟩:=by rw[XM,anx]
  have rm:R2 k=⟨134005006,st_a.next+1+1⟩:=by rw[TW,anx]
  have yl:kV R1 cnt (k+1)=kV R1 cnt k++[[.own ⟨134004006,st_a.next+1⟩ 0 cnt]]:=by rw[th,sK]
  have IK:kV R2 cnt (k+1)=kV R2 cnt k++[[.own ⟨134005006,st_a.next+1+1⟩ 0 cnt]]:=by rw[th,rm]
  rcases aI1 with⟨rfl,Te⟩|⟨o1,o2,so1,so2,vo1,vo2,vn1,vn2,Te,ag1,ag2⟩
  ·(try((repeat(revert hN;revert N;apply Pn.out));refine wk (tw @a11 (tw @a5 (tw @a0 (tw @a1 (tw @xP (tw @hk (tw @wX (tw @Te (tw @jt (tw @oH (tw @Int.le_refl @hz))))))))))) ?_;(repeat(refine Pn.mk ?_;intro N hN))))
   refine eF ?_ ?_ (by
    (try dsimp only)
    refine⟨ab,fun i hi=>?_,fun j hj=>?_⟩
    ·have q1:=dF (i:=i) (n:=st_a.next) ab
     have q2:=dU (a:=i) (b:=X) ab
     have:=eR i hi
     simp only[go_sem, ↓reduceIte,Nat.reduceEqDiff,Nat.reduceAdd,Nat.reduceSub,Nat.reduceLeDiff,reduceCtorEq,q1,q2,this]
    ·by_cases F5:j=0
     ·subst F5
      rw[sK,rm]
      have q1:=eY sX (b:=134004006) (v:=st_a.next+1) (by decide)
      have q2:=eY sX (b:=134005006) (v:=st_a.next+1+1) (by decide)
      simp only[go_sem, ↓reduceIte,Nat.reduceEqDiff,Nat.reduceAdd,Nat.reduceSub,Nat.reduceLeDiff,reduceCtorEq,q1,q2]
     ·obtain⟨r1,r2⟩:=aR j ab
      have q1:=dF (i:=R1 j) (n:=st_a.next) (by rw[v1];omega)
      have q2:=dF (i:=R2 j) (n:=st_a.next) (by rw[v2];omega)
      have q3:=qF (s1 j) sX (by decide)
      have q4:=qF (s2 j) sX (by decide)
      constructor
      ·simp only[go_sem, ↓reduceIte,Nat.reduceEqDiff,Nat.reduceAdd,Nat.reduceSub,Nat.reduceLeDiff,reduceCtorEq,q1,q3,r1]
      ·simp only[go_sem, ↓reduceIte,Nat.reduceEqDiff,Nat.reduceAdd,Nat.reduceSub,Nat.reduceLeDiff,reduceCtorEq,q2,q4,r2]) (.inr ⟨⟨134004008,st_a.next+1⟩,⟨134005008,st_a.next+1+1⟩,rfl,rfl,cD,cD,cD,cD,sd @wX,by rw[yl,t1];simp only[go_sem, ↓reduceIte,Nat.reduceEqDiff,Nat.reduceAdd,Nat.reduceSub,Nat.reduceLeDiff,reduceCtorEq,wX,List.nil_append],by rw[IK,t2];simp only[go_sem, ↓reduceIte,Nat.reduceEqDiff,Nat.reduceAdd,Nat.reduceSub,Nat.reduceLeDiff,reduceCtorEq,wX,List.nil_append]⟩)
   all_goals simp only[go_sem, ↓reduceIte,Nat.reduceEqDiff,Nat.reduceAdd,Nat.reduceSub,Nat.reduceLeDiff,reduceCtorEq,a11,a5,a0,a1,xP,wX]
  ·have l1:=jU R1 cnt k
   have l2:=jU R2 cnt k
   have e1:k+1<=16777216:=ab
   have w1:=dF vo1
   have w2:=dF vo2
   have x1:=qF sX so1 (by decide)
   have x2:=qF sX so2 (by decide)
   have x3:=qF so1 so2 (by decide)
   (try((repeat(revert hN;revert N;apply Pn.out));refine wk (tw @a11 (tw @a5 (tw @a0 (tw @a1 (tw @xP (tw @hk (tw @wX (tw @Te (tw @ag1 (tw @ag2 (tw @l1 (tw @l2 (tw @e1 (tw @w1 (tw @w2 (tw @x1 (tw @x2 (tw @x3 (tw @jt (tw @oH (tw @Int.le_refl @hz))))))))))))))))))))) ?_;(repeat(refine Pn.mk ?_;intro N hN))))
   refine eF ?_ ?_ (by
    (try dsimp only)
    refine⟨ab,fun i hi=>?_,fun j hj=>?_⟩
    ·have q1:=dF (i:=i) (n:=st_a.next) ab
     have q2:=dU (a:=i) (b:=X) ab
     have q3:=dU (a:=i) (b:=o1) ab
     have q4:=dU (a:=i) (b:=o2) ab
     have:=eR i hi
     simp only[go_sem, ↓reduceIte,Nat.reduceEqDiff,Nat.reduceAdd,Nat.reduceSub,Nat.reduceLeDiff,reduceCtorEq,q1,q2,this,q3,q4]
    ·by_cases F5:j=k
     ·subst F5
      rw[sK,rm]
      have q1:=eY sX (b:=134004006) (v:=st_a.next+1) (by decide)
      have q2:=eY sX (b:=134005006) (v:=st_a.next+1+1) (by decide)
      simp only[go_sem, ↓reduceIte,Nat.reduceEqDiff,Nat.reduceAdd,Nat.reduceSub,Nat.reduceLeDiff,reduceCtorEq,q1,q2,w1,w2]
     ·obtain⟨r1,r2⟩:=aR j ab
      have q1:=dF (i:=R1 j) (n:=st_a.next) (by rw[v1];omega)
      have q2:=dF (i:=R2 j) (n:=st_a.next) (by rw[v2];omega)
      have q3:=qF (s1 j) sX (by decide)
      have q4:=qF (s2 j) sX (by decide)
      have q5:=qF (s1 j) so1 (by decide)
      have q6:=qF (s1 j) so2 (by decide)
      have q7:=qF (s2 j) so1 (by decide)
      have q8:=qF (s2 j) so2 (by decide)
      constructor
      ·simp only[go_sem, ↓reduceIte,Nat.reduceEqDiff,Nat.reduceAdd,Nat.reduceSub,Nat.reduceLeDiff,reduceCtorEq,q1,q3,r1,q5,q6]
      ·simp only[go_sem, ↓reduceIte,Nat.reduceEqDiff,Nat.reduceAdd,Nat.reduceSub,Nat.reduceLeDiff,reduceCtorEq,q2,q4,r2,q7,q8]) (.inr ⟨⟨134004008,st_a.next+1⟩,⟨134005008,st_a.next+1+1⟩,rfl,rfl,cD,cD,cD,cD,sd @wX,by rw[yl];simp only[go_sem, ↓reduceIte,Nat.reduceEqDiff,Nat.reduceAdd,Nat.reduceSub,Nat.reduceLeDiff,reduceCtorEq,wX,w1,w2],by rw[IK];simp only[go_sem, ↓reduceIte,Nat.reduceEqDiff,Nat.reduceAdd,Nat.reduceSub,Nat.reduceLeDiff,reduceCtorEq,wX,w1,w2]⟩)
   all_goals simp only[go_sem, ↓reduceIte,Nat.reduceEqDiff,Nat.reduceAdd,Nat.reduceSub,Nat.reduceLeDiff,reduceCtorEq,a11,a5,a0,a1,xP,wX,w1,w2,x1,x2,x3]
 have mN:cnt=k:=ab
 subst mN
 rcases aI1 with⟨h0,_⟩|⟨o1,o2,so1,so2,vo1,vo2,vn1,vn2,Te,ag1,ag2⟩
 ·omega
 (try((repeat(revert hN;revert N;apply Pn.out));refine wk (tw @a11 (tw @a5 (tw @a0 (tw @a1 (tw @xP @hk))))) ?_;(repeat(refine Pn.mk ?_;intro N hN))))
 have I:GM X o1 o2 R1 R2 cnt st_a.next:=⟨sX,so1,so2,fun i _=>s1 i,fun i _=>s2 i,fun i j _ _ h=>by have:=v1 i;rw[h,v1]at this;omega,fun i j _ _ h=>by have:=v2 i;rw[h,v2]at this;omega,ab,vo1,vo2,fun i hi=>by rw[v1];omega,fun i hi=>by rw[v2];omega⟩
 refine dc (fun n env st=>∃i:Nat,n=(bs.length)-i/\i<=(bs.length)/\env 38=.int .i64 (i:Int)/\(st_a.next<=st.next/\(∀x:Id,x.cV<σ.next->st.get x=σ.get x)/\nW st.get X o1 o2 R1 R2 cnt (kR (bs.take i)) (fun _ _=>0))) (bs.length) ⟨0,ab,ab,sl (tw @a11 (tw @a5 (tw @a0 (tw @a1 @xP)))),⟨cD,eR,Te,ag1,ag2,fun j hj=>(aR j hj).1,fun j hj=>(aR j hj).2⟩⟩ ?_
 rintro n_b env_b st_b ⟨i,rfl,ble,GU,bI0⟩ fG
 have b0:=fG 0 (by kernel_rfl);have b1:=fG 1 (by kernel_rfl);have b5:=fG 5 (by kernel_rfl);have SA:=fG 36 (by kernel_rfl);have SB:=fG 37 (by kernel_rfl)
 simp only[go_sem, ↓reduceIte,Nat.reduceEqDiff,Nat.reduceAdd,Nat.reduceSub,Nat.reduceLeDiff,reduceCtorEq,a11,a5,a0,a1,xP]at b0 b1 b5 SA SB
 clear fG
 obtain⟨bn,Qo,bM⟩:=bI0
 by_cases hi:(i:Int)<(bs.length:Int)
 ·have gi:∀{e:Env} {gg:Rows} {nx:Nat},(e 38=.int .i64 (IntKind.i64.wrap ((i:Int)+1)))->(st_a.next<=nx/\(∀x:Id,x.cV<σ.next->gg x=σ.get x)/\nW gg X o1 o2 R1 R2 cnt (kR (bs.take (i+1))) (fun _ _=>0))->∃m0,m0<(bs.length)-i/\∃i:Nat,m0=(bs.length)-i/\i<=(bs.length)/\e 38=.int .i64 (i:Int)/\(st_a.next<=nx/\(∀x:Id,x.cV<σ.next->gg x=σ.get x)/\nW gg X o1 o2 R1 R2 cnt (kR (bs.take i)) (fun _ _=>0)):=fun x1 x2=>⟨_,ab,i+1,rfl,ab,(by rw[x1,cE ab]),x2⟩
  have im:i<bs.length:=ab
  have Et:(bs.map dz)[i]? =some (dz bs[i]):=by simp[im]
  have qj:=hb _ (List.getElem_mem im)
  have hsi:=ed _ (List.getElem_mem im)
  have UR:kR (bs.take (i+1))=nG (kR (bs.take i)) bs[i]:=by rw[List.take_succ_eq_append_getElem im,Fa]
  have tN:=A8 (bs.take i) (fun _ _=>0) (fun b hb=>(ed b (List.mem_of_mem_take hb)).1) (fun _ _=>Int.le_refl _)
  have hle:=room_le (bs.take i) (fun _ _=>0) 0 (fun b hb=>(ed b (List.mem_of_mem_take hb)).2) (fun _ _=>Int.le_refl _) (Int.le_refl _)
  rw[List.length_take]at hle
  have iq:(bs.take i).foldl nG (fun _ _=>0)=kR (bs.take i):=rfl
  rw[iq]at tN hle
  generalize kR (bs.take i)=c at *
  generalize bs[i]=b at *
  obtain⟨ha,sH⟩:=qj
  have gA:=r7 (R:=R1) (n:=cnt) ha
  have gB:=r7 (R:=R1) (n:=cnt) sH
  have rA:=bM.r1 _ ha
  have rB:=bM.r1 _ sH
  have cA:=fQ (f:=c b.a) sH
  have cB:=fQ (f:=c b.b) ha
  have sA:=oi (f:=c) (a:=b.a) (d:=b.s) sH
  have gX:=bM.x
  have g1:=bM.t1
  have Em:(b.a:Int)<(cnt:Int):=ab
  have qj:(b.b:Int)<(cnt:Int):=ab
  have qX:=dF (i:=X) (n:=st_b.next) ab
  have q1:=dF (i:=o1) (n:=st_b.next) ab
  have qA:=dF (i:=R1 b.a) (n:=st_b.next) (by rw[v1];omega)
  have qB:=dF (i:=R1 b.b) (n:=st_b.next) (by rw[v1];omega)
  have xA:=qF sX (s1 b.a) (by decide)
  have xB:=qF sX (s1 b.b) (by decide)
  have yA:=qF so1 (s1 b.a) (by decide)
  have yB:=qF so1 (s1 b.b) (by decide)
  have l1:=jU R1 cnt cnt
  have lA:=fI (c b.a) cnt
  have lB:=fI (c b.b) cnt
  have hAB:=hle b.a b.b
  have hBA:=hle b.b b.a
  have gAB:=tN b.a b.b
  have gBA:=tN b.b b.a
  have wA:IntKind.i64.wrap (c b.a b.b+b.s)=c b.a b.b+b.s:=cH ab
  by_cases rj:b.a=b.b
  ·obtain⟨ba,bb,s⟩:=b
   dsimp only at *
   subst rj
   have Rf:=oi (f:=bump c ba ba s) (a:=ba) (b:=ba) (d:=s) (n:=cnt) ha
   have XY:=fQ (f:=bump c ba ba s ba) ha
   have hv:bump c ba ba s ba ba=c ba ba+s:=by simp[bump]
   have lC:=fI (bump c ba ba s ba) cnt
   have wB:IntKind.i64.wrap (c ba ba+s+s)=c ba ba+s+s:=cH ab
   rw[hv]at Rf XY
   have AE:nG c ⟨ba,ba,s⟩ ba=bump (bump c ba ba s) ba ba s ba:=rfl
   rw[ah]at cA sA Rf XY
   (try((repeat(revert hN;revert N;apply Pn.out));refine wk (tw @GU (tw @b0 (tw @b1 (tw @b5 (tw @SA (tw @SB (tw @hi (tw @Et (tw @dz.eq_1 (tw @gA (tw @rA (tw @cA (tw @sA (tw @gX (tw @g1 (tw @Em (tw @qX (tw @q1 (tw @qA (tw @xA (tw @yA (tw @l1 (tw @lA (tw @wA (tw @Rf (tw @XY (tw @lC @wB))))))))))))))))))))))))))) ?_;(repeat(refine Pn.mk ?_;intro N hN))))
   exact gi (sd (tw @GU (tw @b0 (tw @b1 (tw @b5 (tw @SA @SB)))))) (by
    (try dsimp only)
    refine⟨ab,fun x hx=>?_,?_⟩
    ·have p1:=dF (i:=x) (n:=st_b.next) ab
     have p2:=dU (a:=x) (b:=R1 ba) (by rw[v1];omega)
     have:=Qo x hx
     simp only[go_sem, ↓reduceIte,Nat.reduceEqDiff,Nat.reduceAdd,Nat.reduceSub,Nat.reduceLeDiff,reduceCtorEq,p1,p2,this]
    ·rw[UR]
     refine bM.add I ⟨ba,ba,s⟩ ha ha (fun h=>absurd rfl h) ?_ fun x hx h1 h2=>?_
     ·rw[AE]
      simp only[go_sem, ↓reduceIte,Nat.reduceEqDiff,Nat.reduceAdd,Nat.reduceSub,Nat.reduceLeDiff,reduceCtorEq]
     ·have p1:=dF (i:=x) (n:=st_b.next) ab
      (try dsimp only at h2)
      simp only[go_sem, ↓reduceIte,Nat.reduceEqDiff,Nat.reduceAdd,Nat.reduceSub,Nat.reduceLeDiff,reduceCtorEq,p1,h2])
  ·have gZ:(R1 b.a=R1 b.b)=False:=by simp only[eq_iff_iff,iff_false];exact fun h=>rj (I.i1 _ _ ha sH h)
   have Kj:(R1 b.b=R1 b.a)=False:=by simp only[eq_iff_iff,iff_false];exact fun h=>rj (I.i1 _ _ ha sH h.symm)
   have Q9:bump c b.a b.b b.s b.b=c b.b:=jQ fun h=>rj h.symm
   have Rf:=oi (f:=bump c b.a b.b b.s) (a:=b.b) (b:=b.a) (d:=b.s) (n:=cnt) ha
   rw[Q9]at Rf
   have wB:IntKind.i64.wrap (c b.b b.a+b.s)=c b.b b.a+b.s:=cH ab
   have AE:nG c b b.b=bump (bump c b.a b.b b.s) b.b b.a b.s b.b:=rfl
   rw[ah]at cA cB sA Rf
   (try((repeat(revert hN;revert N;apply Pn.out));refine wk (tw @GU (tw @b0 (tw @b1 (tw @b5 (tw @SA (tw @SB (tw @hi (tw @Et (tw @dz.eq_1 (tw @gA (tw @gB (tw @rA (tw @rB (tw @cA (tw @cB (tw @sA (tw @gX (tw @g1 (tw @Em (tw @qj (tw @qX (tw @q1 (tw @qA (tw @qB (tw @xA (tw @xB (tw @yA (tw @yB (tw @l1 (tw @lA (tw @lB (tw @wA (tw @Rf (tw @wB (tw @gZ @Kj))))))))))))))))))))))))))))))))))) ?_;(repeat(refine Pn.mk ?_;intro N hN))))
   exact gi (sd (tw @GU (tw @b0 (tw @b1 (tw @b5 (tw @SA @SB)))))) (by
    (try dsimp only)
    refine⟨ab,fun x hx=>?_,?_⟩
    ·have p1:=dF (i:=x) (n:=st_b.next) ab
     have p2:=dU (a:=x) (b:=R1 b.b) (by rw[v1];omega)
     have p3:=dU (a:=x) (b:=R1 b.a) (by rw[v1];omega)
     have:=Qo x hx
     simp only[go_sem, ↓reduceIte,Nat.reduceEqDiff,Nat.reduceAdd,Nat.reduceSub,Nat.reduceLeDiff,reduceCtorEq,p1,p2,p3,this]
    ·rw[UR]
     refine bM.add I b ha sH (fun h=>?_) ?_ fun x hx h1 h2=>?_
     ·simp only[go_sem, ↓reduceIte,Nat.reduceEqDiff,Nat.reduceAdd,Nat.reduceSub,Nat.reduceLeDiff,reduceCtorEq,gZ]
     ·rw[AE]
      simp only[go_sem, ↓reduceIte,Nat.reduceEqDiff,Nat.reduceAdd,Nat.reduceSub,Nat.reduceLeDiff,reduceCtorEq,gZ]
     ·have p1:=dF (i:=x) (n:=st_b.next) ab
      simp only[go_sem, ↓reduceIte,Nat.reduceEqDiff,Nat.reduceAdd,Nat.reduceSub,Nat.reduceLeDiff,reduceCtorEq,p1,h1,h2])
 ·have pN:i=bs.length:=ab
  subst pN
  rw[List.take_length]at bM
  (try((repeat(revert hN;revert N;apply Pn.out));refine wk (tw @GU (tw @b0 (tw @b1 (tw @b5 (tw @SA (tw @SB @hi)))))) ?_;(repeat(refine Pn.mk ?_;intro N hN))))
  exact eK (.inl rfl) (vs:=[.ptr X 0 0]) (sd @Nat.zero_add) ⟨X,o1,o2,R1,R2,rfl,⟨I.sx,I.s1,I.s2,I.WW,I.PR,I.i1,I.i2,by have:=I.vx;(try dsimp only);omega,by have:=I.v1;(try dsimp only);omega,by have:=I.v2;(try dsimp only);omega,fun j hj=>by have:=I.Y9 j hj;(try dsimp only);omega,fun j hj=>by have:=I.VR j hj;(try dsimp only);omega⟩,cD,bM,Qo⟩
abbrev KN:MK:=⟨false,[.tS]⟩
structure NE where
 k:ByteArray
 v:Int
def IB (e:NE):List AV:=[.str e.k,.int .i64 e.v]
def CN (E:List NE) (nm:ByteArray):Nat:=E.findIdx fun e=>decide (nm=e.k)
def tW (E:List NE) (nm:ByteArray):Int:=if CN E nm<E.length then(E.getD (CN E nm) ⟨⟨#[]⟩,0⟩).v else 0
theorem CK (nm:ByteArray):∀(E:List NE) (i:Nat),fK KN [.str nm] (E.map IB) i=some (if CN E nm<E.length then some (i+CN E nm)else none)
 |[],i=>by simp[fK,CN]
 |e::E,i=>by
  have h1:ea KN.ts [.str nm] ((IB e).take KN.ks)=some (decide (nm=e.k)):=by simp[MK.ks,IB,ea,er]
  have ih:=CK nm E (i+1)
  rw[List.map_cons]
  unfold fK
  rw[h1]
  by_cases h:nm=e.k
  ·rw[decide_eq_true h]
   have h0:CN (e::E) nm=0:=by simp[CN,List.findIdx_cons,h]
   simp[h0]
  ·rw[decide_eq_false h]
   have h0:CN (e::E) nm=CN E nm+1:=by simp[CN,List.findIdx_cons,h]
   simp only[ih,h0,List.length_cons,Nat.add_lt_add_iff_right]
   congr 1
   split<;>simp;omega
theorem zp (E:List NE) (nm:ByteArray):fq KN (.str nm) (E.map IB)=some (if CN E nm<E.length then some (CN E nm)else none):=by
 have h:=CK nm E 0
 unfold fq
 rw[if_pos ⟨rfl,rfl,rfl⟩]
 show fK KN [.str nm] _ 0= _
 rw[h]
 split<;>simp
theorem zq {E:List NE} {nm:ByteArray} (h:¬CN E nm<E.length):fq KN (.str nm) (E.map IB)=some none:=by rw[zp,if_neg h]
theorem RH (E:List NE) (nm:ByteArray):(∃(i:Nat) (y:ByteArray),fq KN (.str nm) (E.map IB)=some (some i)/\(E.map IB)[i]? =some [.str y,.int .i64 (tW E nm)])∨(fq KN (.str nm) (E.map IB)=some none/\tW E nm=0):=by
 rw[zp]
 unfold tW
 by_cases h:CN E nm<E.length
 ·rw[if_pos h,if_pos h]
  exact .inl ⟨_,_,rfl,getD_map IB h⟩
 ·rw[if_neg h,if_neg h]
  exact .inr ⟨rfl,rfl⟩
def GX (z n0:Nat) (g:Rows) (n:Nat) (v:AV) (L:List gj):Prop:=(L=[]/\v=.bP)∨∃o:Id,v=.own o 0 L.length/\0<L.length/\g o=some ⟨true,2,L.map eP⟩/\o.site=z/\n0<=o.cV/\o.cV<n
theorem GX.frame {z n0:Nat} {g g':Rows} {n n':Nat} {v:AV} {L:List gj} (h:GX z n0 g n v L) (hn:n<=n') (hf:∀i:Id,i.site=z->n0<=i.cV->i.cV<n->g' i=g i):GX z n0 g' n' v L:=by
 rcases h with h|⟨o,h1,h2,h3,h4,h5,h6⟩
 ·exact .inl h
 ·exact .inr ⟨o,h1,h2,(hf o h4 h5 h6).trans h3,h4,h5,ab⟩
theorem GX.cell {z n0:Nat} {g:Rows} {n:Nat} {v:AV} {L:List gj} (h:GX z n0 g n v L):v.cells=[v]/\v.cell=true:=by
 rcases h with⟨_,rfl⟩|⟨o,rfl,_⟩<;>exact⟨rfl,rfl⟩
def TV (zt ze n0:Nat) (g:Rows) (n:Nat) (v:AV) (T:List fj):Prop:=(T=[]/\v=.bP)∨∃(o:Id) (rows:List (List AV)),v=.own o 0 T.length/\0<T.length/\g o=some ⟨true,2,rows⟩/\TX (fun s=>s=ze) n0 g n rows T/\o.site=zt/\n0<=o.cV/\o.cV<n
theorem TV.frame {zt ze n0:Nat} {g g':Rows} {n n':Nat} {v:AV} {T:List fj} (h:TV zt ze n0 g n v T) (hn:n<=n') (hf:∀i:Id,(i.site=zt∨i.site=ze)->n0<=i.cV->i.cV<n->g' i=g i):TV zt ze n0 g' n' v T:=by
 rcases h with h|⟨o,rows,h1,h2,h3,h4,h5,h6,h7⟩
 ·exact .inl h
 ·exact .inr ⟨o,rows,h1,h2,(hf o (.inl h5) h6 h7).trans h3,h4.frame hn fun i a b c=>hf i (.inr a) b c,h5,h6,ab⟩
theorem TV.cell {zt ze n0:Nat} {g:Rows} {n:Nat} {v:AV} {T:List fj} (h:TV zt ze n0 g n v T):v.cells=[v]/\v.cell=true:=by
 rcases h with⟨_,rfl⟩|⟨o,_,rfl,_⟩<;>exact⟨rfl,rfl⟩
def Nb (a:ByteArray):List AV:=[.str a]
structure uB (n0:Nat) (g:Rows) (n:Nat) (B M:Id) (E:List NE) (L:List gj) (T:List fj):Prop where
 row:∃vg vt,g B=some ⟨true,3,[[vg,vt,.map M KN]]⟩/\GX 34000010 n0 g n vg L/\TV 36007008 36005009 n0 g n vt T
 map:g M=some ⟨true,KN.j4,E.map IB⟩
 bs:B.site=33001004
 ms:M.site=33001000
 b0:n0<=B.cV
 b1:B.cV<n
 m0:n0<=M.cV
 m1:M.cV<n
theorem uB.frame {n0:Nat} {g g':Rows} {n n':Nat} {B M:Id} {E:List NE} {L:List gj} {T:List fj} (h:uB n0 g n B M E L T) (hn:n<=n') (hf:∀i:Id,i.cV<n->g' i=g i):uB n0 g' n' B M E L T:=by
 obtain⟨vg,vt,h1,h2,h3⟩:=h.row
 exact⟨⟨vg,vt,(hf B h.b1).trans h1,h2.frame hn fun i _ _ h=>hf i h,h3.frame hn fun i _ _ h=>hf i h⟩,(hf M h.m1).trans h.map,h.bs,h.ms,h.b0,by have:=h.b1;omega,h.m0,by have:=h.m1;omega⟩
section
set_option maxRecDepth 100000
set_option maxHeartbeats 8000000
theorem EO (σ:au):Call Tryz.prog 33 [] σ (fun r σ'=>∃B M:Id,r=.ptr B 0 0/\uB σ.next σ'.get σ'.next B M [⟨⟨#[45]⟩,0⟩] [] []/\σ.next<=σ'.next/\∀x:Id,x.cV<σ.next->σ'.get x=σ.get x):=by
 refine eX fC rfl fun fb=>?_
 clear fb
 have hp:fq KN (.str ⟨#[45]⟩) []=some none:=by
  have:=zq (E:=[]) (nm:=⟨#[45]⟩) (by simp)
  simpa using this
 (try((repeat(revert hN;revert N;apply Pn.out));refine wk @hp ?_;(repeat(refine Pn.mk ?_;intro N hN))))
 exact eK (.inl rfl) (vs:=[.ptr ⟨33001004,σ.next+1⟩ 0 0]) (sd @Nat.zero_add) ⟨⟨33001004,σ.next+1⟩,⟨33001000,σ.next+1⟩,rfl,⟨⟨.bP,.bP,sd @Nat.zero_add,.inl ⟨rfl,rfl⟩,.inl ⟨rfl,rfl⟩⟩,sl @Nat.zero_add,rfl,rfl,cD,cD,cD,cD⟩,cD,fun x hx=>by
  have h9:=dF hx
  simp only[go_sem, ↓reduceIte,Nat.reduceEqDiff,Nat.reduceAdd,Nat.reduceSub,Nat.reduceLeDiff,reduceCtorEq,h9]⟩
theorem uN {n0:Nat} {σ:au} {B M:Id} {E:List NE} {L:List gj} {T:List fj} (h:uB n0 σ.get σ.next B M E L T) (nm:ByteArray) (st:Int) (hL:L.length<=1000) (jC:¬CN E nm<E.length):
  Call Tryz.prog 34 [.ptr B 0 0,.str nm,.int .i64 st] σ (fun r σ'=>r=.fN []/\uB n0 σ'.get σ'.next B M (E++[⟨nm,(L.length:Int)+1⟩]) (L++[⟨nm,st⟩]) T/\σ.next<=σ'.next/\∀x:Id,x.cV<n0->σ'.get x=σ.get x):=by
 refine eX fC rfl fun fb=>?_
 clear fb
 obtain⟨⟨vg,vt,hB,hG,hT⟩,hM,bs,ms,b0,b1,m0,m1⟩:=h
 have vB:=dF b1
 have vM:=dF m1
 have BM:=qF bs ms (by decide)
 have hp:=zq jC
 have tc:=hT.cell
 have fJ:(L.map eP).length=L.length:=by simp
 have ql:L.length<=16777215:=ab
 have hEm:(E++[(⟨nm,(L.length:Int)+1⟩:NE)]).map IB=E.map IB++[[.str nm,.int .i64 ((L.length:Int)+1)]]:=by rw[List.map_append];rfl
 have hLm:(L++[(⟨nm,st⟩:gj)]).map eP=L.map eP++[[.str nm,.int .i64 st]]:=by rw[List.map_append];rfl
 have Ph:(L++[(⟨nm,st⟩:gj)]).length=L.length+1:=by simp
 obtain⟨VO,VP⟩:=tc
 unfold AV.cells at VO
 unfold AV.cell at VP
 rcases hG with⟨rfl,rfl⟩|⟨og,rfl,SF,go,zo,o0,o1⟩
 ·(try((repeat(revert hN;revert N;apply Pn.out));refine wk (tw @hB (tw @hM (tw @vB (tw @vM (tw @BM (tw @hp (tw @VO @VP))))))) ?_;(repeat(refine Pn.mk ?_;intro N hN))))
  exact eK (.inr rfl) (vs:=[]) rfl ⟨rfl,⟨⟨.own ⟨34000010,σ.next⟩ 0 1,vt,sd (tw @vB (tw @BM (tw @VO @VP))),.inr ⟨⟨34000010,σ.next⟩,rfl,by simp,sl (tw @vB @vM),rfl,cD,cD⟩,hT.frame cD fun i hs Pt Eu=>by
    have h9:=dF Eu
    have iB:(i=B)=False:=eq_false fun e=>by subst e;rcases hs with hs|hs<;>rw[bs]at hs<;>revert hs<;>decide
    have iM:(i=M)=False:=eq_false fun e=>by subst e;rcases hs with hs|hs<;>rw[ms]at hs<;>revert hs<;>decide
    simp only[go_sem, ↓reduceIte,Nat.reduceEqDiff,Nat.reduceAdd,Nat.reduceSub,Nat.reduceLeDiff,reduceCtorEq,h9,iB,iM]⟩,by rw[hEm];simp only[go_sem, ↓reduceIte,Nat.reduceEqDiff,Nat.reduceAdd,Nat.reduceSub,Nat.reduceLeDiff,reduceCtorEq,vM,BM]<;>rfl,bs,ms,b0,cD,m0,cD⟩,cD,fun x hx=>by
   have h9:=dF (i:=x) (n:=σ.next) ab
   have xB:=(dU (a:=x) (b:=B) ab).1
   have xM:=(dU (a:=x) (b:=M) ab).1
   simp only[go_sem, ↓reduceIte,Nat.reduceEqDiff,Nat.reduceAdd,Nat.reduceSub,Nat.reduceLeDiff,reduceCtorEq,h9,xB,xM]⟩
 ·have vo:=dF o1
  have oB:=qF zo bs (by decide)
  have oM:=qF zo ms (by decide)
  (try((repeat(revert hN;revert N;apply Pn.out));refine wk (tw @hB (tw @hM (tw @go (tw @vB (tw @vM (tw @vo (tw @BM (tw @oB (tw @oM (tw @hp (tw @VO (tw @VP (tw @fJ @ql))))))))))))) ?_;(repeat(refine Pn.mk ?_;intro N hN))))
  exact eK (.inr rfl) (vs:=[]) rfl ⟨rfl,⟨⟨.own ⟨34000010,σ.next⟩ 0 (L.length+1),vt,sd (tw @vB (tw @BM (tw @oB (tw @VO @VP)))),.inr ⟨⟨34000010,σ.next⟩,by rw[Ph],by simp,by rw[hLm];simp only[go_sem, ↓reduceIte,Nat.reduceEqDiff,Nat.reduceAdd,Nat.reduceSub,Nat.reduceLeDiff,reduceCtorEq,vB,vM,vo]<;>rfl,rfl,cD,cD⟩,hT.frame cD fun i hs Pt Eu=>by
    have h9:=dF Eu
    have iB:(i=B)=False:=eq_false fun e=>by subst e;rcases hs with hs|hs<;>rw[bs]at hs<;>revert hs<;>decide
    have iM:(i=M)=False:=eq_false fun e=>by subst e;rcases hs with hs|hs<;>rw[ms]at hs<;>revert hs<;>decide
    have io:(i=og)=False:=eq_false fun e=>by subst e;rcases hs with hs|hs<;>rw[zo]at hs<;>revert hs<;>decide
    simp only[go_sem, ↓reduceIte,Nat.reduceEqDiff,Nat.reduceAdd,Nat.reduceSub,Nat.reduceLeDiff,reduceCtorEq,h9,iB,iM,io]⟩,by rw[hEm];simp only[go_sem, ↓reduceIte,Nat.reduceEqDiff,Nat.reduceAdd,Nat.reduceSub,Nat.reduceLeDiff,reduceCtorEq,vM,BM,oM]<;>rfl,bs,ms,b0,cD,m0,cD⟩,cD,fun x hx=>by
   have h9:=dF (i:=x) (n:=σ.next) ab
   have xB:=(dU (a:=x) (b:=B) ab).1
   have xM:=(dU (a:=x) (b:=M) ab).1
   have xo:=(dU (a:=x) (b:=og) ab).1
   simp only[go_sem, ↓reduceIte,Nat.reduceEqDiff,Nat.reduceAdd,Nat.reduceSub,Nat.reduceLeDiff,reduceCtorEq,h9,xB,xM,xo]⟩
end
end Go.Proofs.YtalkncaokeaifaaGreatDoor.V
