/- What TileSet.bonds gives, in the small language. -/
import Derived.Test.YtiabgllilcfheaaGreatCmE
import Derived.Test.YtiabgllilcfheaaGreatCmD
import Derived.Test.YtiabgllilcfheaaGreatCmB
import Derived.Maps.OwnIn
import Derived.Maps.AppendAt
set_option linter.unusedVariables false
set_option linter.unusedSimpArgs false
set_option maxRecDepth 100000
set_option maxHeartbeats 16000000
namespace Go.Proofs.YtiabgllilcfheaaGreat.V
open Go.RowKit Go.Shelf
theorem Hm:∀{bs:List PB} {i j:Nat} {b:PB},bs[i]? =some b->j<3->(N1 bs)[i*3+j]? =([.int .i64 b.a,.int .i64 b.b,.int .i64 b.s]:List Value)[j]?
 |c::bs,0,j,b,h,hj=>by
  simp at h;subst h
  simp only[N1,List.flatMap_cons,Nat.zero_mul,Nat.zero_add]
  rw[List.getElem?_append_left (by simpa using hj)]
 |c::bs,i+1,j,b,h,hj=>by
  simp only[List.getElem?_cons_succ]at h
  have:=Hm (bs:=bs) (i:=i) (j:=j) h hj
  simp only[N1,List.flatMap_cons]at this ⊢
  rw[List.getElem?_append_right (by simp;omega),<-this]
  congr 1
  simp;omega
theorem ug {P:Program} {w:World} {D:Nat->Prop} {rows:List (List AV)} {v:Value} (h:ly P w D (.sl rows) v):∃A n c,v=.slice A n c:=by
 cases h with
 |Db a c _=>exact⟨_,_,_,rfl⟩
 |sl=>exact⟨_,_,_,rfl⟩
theorem tt {P:Program} {w:World} {D:Nat->Prop} {ι:Names} {rows:List (List AV)} {v:Value} (h:dy P w D ι (.sl rows) v):ly P w D (.sl rows) v:=by
 cases h with
 |fy _ _ h=>exact h
theorem Po {P:Program} {w:World} {D:Nat->Prop} {l:List aa} {v:Value} (h:ly P w D (.sl (l.map ab)) v):rP w v l:=by
 generalize hr:l.map ab=rows at h
 cases h with
 |Db a c hc=>
  have:l=[]:=by simpa using hr
  subst this
  exact⟨a,c,rfl,⟨Nat.zero_le _,hc⟩,.inl rfl⟩
 |sl _ b o n c sz vs h1 h2 h3 h4 h5 h5' h6 h7=>
  have hn:n=l.length:=by rw[<-h1,<-hr];simp
  subst hn
  refine⟨some ⟨b,o,none⟩,c,rfl,⟨h2,h3⟩,?_⟩
  by_cases hl:l=[]
  ·exact .inl hl
  refine .inr ⟨b,o,rfl,fun i hi=>?_⟩
  have hg:rows[i]? =some (ab (aQ l i)):=by rw[<-hr];exact fR hi
  have e9:sz=3:=by rw[<-h5 _ (List.mem_of_getElem? hg)];rfl
  subst e9
  have k:∀(j:Nat) (x:Int),(ab (aQ l i))[j]? =some (.int .i64 x)->j<3->w.cell? ⟨b,o+(i*3+j),none⟩=some (.int .i64 x):=fun j x hj h3=>by
   have:=h7 i j _ _ hg hj
   rw[h6 i j hi h3,ew (.fy (ι:=fun _=>none) _ _ this)]
  exact⟨k 0 _ rfl ae,k 1 _ rfl ae,k 2 _ rfl ae⟩
theorem Q0:Fx:=by
 intro s l hS hA n
 refine iS ?_
 intro hs D ι w vs S U A
 obtain⟨u0,XE,r0⟩:=A.2 0 _ rfl
 obtain⟨u1,V2,r1⟩:=A.2 1 _ rfl
 have eM:∀b,D b->b<w.heap.size:=S.dead
 obtain⟨v0,f0,rfl,V8,_,Xm,ZC⟩:=jN r0
 obtain⟨v1,f1,rfl,AR,_,hf1,ZD⟩:=jN r1
 have g0:=tt (ZC 0 _ rfl)
 have g1:=tt (ZC 1 _ rfl)
 have a0:=tt (ZD 0 _ rfl)
 obtain⟨Ag,ng,cg,eg⟩:=ug g0
 obtain⟨At,nt,ct,et⟩:=ug g1
 have e0:v0= #[.slice Ag ng cg,.slice At nt ct]:=by
  obtain⟨vl⟩:=v0
  have q0:=Xm 0 (by simp[ad])
  have q1:=Xm 1 (by simp[ad])
  rw[eg]at q0;rw[et]at q1
  match vl,V8 with
  |[a,b],_=>simp at q0 q1;rw[q0,q1]
 have e1:v1= #[f1 0]:=by
  obtain⟨vl⟩:=v1
  have q0:=hf1 0 (by simp)
  match vl,AR with
  |[a],_=>simp at q0;rw[q0]
 subst e0 e1
 have evs:vs= #[.agg #[.slice Ag ng cg,.slice At nt ct],.agg #[f1 0]]:=by
  obtain⟨vl⟩:=vs
  have hz:=A.1
  match vl,hz with
  |[a,b],_=>simp at XE V2;rw[XE,V2]
 subst evs
 have up:∀{a v},ly Tryz.prog w D a v->ly Tryz.prog w (fun b=>b<w.heap.size) a v:=fun h=>h.frame (fun _ _=>rfl) eM
 have hT:ly Tryz.prog w (fun b=>b<w.heap.size) (.agg (ad s)) (.agg #[.slice Ag ng cg,.slice At nt ct]):=
  .agg _ _ f0 V8 (fun a ha=>by simp[ad]at ha;rcases ha with rfl|rfl<;>rfl) Xm (fun j a ha=>by
   match j,ha with
   |0,ha=>simp[ad]at ha;subst ha;exact up g0
   |1,ha=>simp[ad]at ha;subst ha;exact up g1
   |j+2,ha=>simp[ad]at ha)
 refine(callsIn_wide.1 (KQ s l hS.form hA w Ag At ng cg nt ct (f1 0) hT (Po a0))).mono ?_
 rintro e W' ⟨v,rfl,⟨hl,hown⟩,hnil,hB⟩
 have S':iD Tryz.prog hs D ι (fun _=>none) W':=S.stay (fun b hb=>hB.block b hb) hB.size (fun _ h=>h) (fun b hb=>Nat.lt_of_lt_of_le (eM b hb) hB.size) (fun _ h=>.inl h) (fun _ _ h=>h)
 have T:Step hs D ι w D ι W':=Step.stay S (fun b hb=>hB.block b hb) hB.size hB.os hB.tape hB.output (fun _ h=>h) (fun _ h=>.inl h) (fun _ _ h=>h)
 rcases hown with⟨rfl,h0⟩|⟨gb,cap,cur,rfl,VH,hblk,hle,Lk,eD,nE⟩
 ·have Ki:dz s l=[]:=hnil.1 rfl
  exact⟨.ck,_,n,D,ι,_,rfl,⟨.ck,lk _ _,by rw[Ki];rfl⟩,T,S',U,Nat.le_refl _,.fy _ _ .ck⟩
 ·have Ki:dz s l≠[]:=fun h=>by have:=hnil.2 h;cases this
  have jn:ι ⟨0,n⟩=none:=fresh U (fun h=>h)
  have iP:∀{a v},dy Tryz.prog W' D ι a v->dy Tryz.prog W' D (lO ι ⟨0,n⟩ ⟨gb,3,cap*3,none⟩) a v:=fun h=>h.frame (fun _ _=>rfl) (fun _ h=>h) (gm jn)
  have hR:jk Tryz.prog W' D (lO ι ⟨0,n⟩ ⟨gb,3,cap*3,none⟩) ⟨gb,3,cap*3,none⟩ ⟨true,3,(dz s l).map aI⟩:=by
   refine mN.obj ⟨rfl,⟨cur,_,hblk,eD⟩,?_,fun cs hc=>?_,fun cs hc a ha=>?_,fun i j cs a hi hj=>?_⟩ rfl
   ·simp only[List.length_map];exact Nat.mul_le_mul_right 3 hle
   ·obtain⟨b,_,rfl⟩:=List.mem_map.1 hc;rfl
   ·obtain⟨b,_,rfl⟩:=List.mem_map.1 hc
    simp[aI]at ha
    rcases ha with rfl|rfl|rfl<;>rfl
   ·rw[List.getElem?_map]at hi
    simp only[Option.map_eq_some_iff]at hi
    obtain⟨b,hb,rfl⟩:=hi
    have hj3:j<3:=by have:=(List.getElem?_eq_some_iff.1 hj).1;simpa[aI]using this
    have l5:=(List.getElem?_eq_some_iff.1 hb).1
    have hg:=Hm hb hj3
    rw[<-nE,List.getElem?_take,if_pos ae]at hg
    have key:∀x:Value,([.int .i64 b.a,.int .i64 b.b,.int .i64 b.s]:List Value)[j]? =some x->W'.cell? ⟨gb,i*3+j,none⟩=some x:=fun x hx=>by
     rw[hx]at hg
     have e:W'.cell? ⟨gb,i*3+j,none⟩=cur[i*3+j]? :=by
      unfold World.cell?
      rw[show W'.heap[(⟨gb,i*3+j,none⟩:Addr).block]? = _ from hblk]
      rfl
     rw[e,<-Array.getElem?_toList];exact hg
    match j,hj with
    |0,hj=>simp[aI]at hj;subst hj;exact⟨_,key _ rfl,.fy _ _ (.int _ _)⟩
    |1,hj=>simp[aI]at hj;subst hj;exact⟨_,key _ rfl,.fy _ _ (.int _ _)⟩
    |2,hj=>simp[aI]at hj;subst hj;exact⟨_,key _ rfl,.fy _ _ (.int _ _)⟩
    |j+3,hj=>simp[aI]at hj
  have S2:=iD.add (r:=⟨true,3,(dz s l).map aI⟩) S S' jn VH hR
  refine⟨.own ⟨0,n⟩ 0 (dz s l).length,bK (fun _=>none) ⟨0,n⟩ ⟨true,3,(dz s l).map aI⟩,n+1,D,lO ι ⟨0,n⟩ ⟨gb,3,cap*3,none⟩,_,rfl,⟨CK (dz s l),?_,rfl⟩,T.trans (Step.stay S' (fun _ _=>rfl) (Nat.le_refl _) rfl rfl rfl (fun _ h=>h) (fun _ h=>.inl h) (gm jn)),S2,U.upd.next,Nat.le_succ _,.own _ _ _ _ _ _ (eV _ _ _) rfl hle (.inr (by simp)) (by simp) Lk⟩
  unfold CK
  rw[if_neg Ki]
  have hg:(bK (fun _=>none) (⟨0,n⟩:Id) ⟨true,3,(dz s l).map aI⟩:Rows) ⟨0,n⟩=some ⟨true,3,(dz s l).map aI⟩:=by simp[bK]
  have:=eE (n:=5) hg rfl fun b=>xE _ 4 b
  simpa using this
end Go.Proofs.YtiabgllilcfheaaGreat.V

namespace Go.Proofs.YtiabgllilcfheaaGreat.V
open Go.RowKit
attribute [local irreducible] er wpOps fY Call
attribute [local go_sem] aF fC eR fN fK du upd cw K.av cQ AV.cells AV.cell rowOf rowsOf part ld rowAt bK cq dH dX gG bP dd eh fJ fa dw ea db da dM dP bV bd cU bU cW cV dV eb dZ cR bY dc dY bQ aD cY cF gF bD cL bW aY dn bj dI AV.undef bH bJ dQ dW dL dK cK ef eo cz ee ec cX cZ List.getD_cons_zero List.getD_cons_succ List.getD_nil List.all_cons List.all_nil Bool.and_true Bool.true_and Bool.and_self Bool.not_true Bool.not_false Option.map_some Option.map_none Option.bind_some Option.bind_none List.length_cons List.length_nil List.take_succ_cons List.take_zero List.take_nil List.drop_succ_cons List.drop_zero List.drop_nil List.head?_cons List.map_cons List.map_nil List.getElem?_cons_zero List.getElem?_cons_succ List.cons_append List.nil_append List.append_nil List.length_map List.set_cons_zero List.set_cons_succ Nat.reduceMul eq_self Int.toNat_natCast Int.natCast_nonneg and_self true_and and_true decide_true decide_false Bool.false_eq_true Nat.zero_add Nat.add_zero List.contains_cons List.contains_nil Bool.or_false Bool.false_or beq_self_eq_true Nat.reduceBEq ne_eq not_true_eq_false not_false_eq_true Id.mk.injEq false_and and_false Nat.reduceLT Int.reduceLE Int.reduceLT Int.reduceToNat Int.reduceNeg Int.reduceAdd Nat.le_refl List.length_append beq_true beq_false Bool.not_eq_eq_eq_not or_false false_or eu ai aj aP bh bZ cm aW bx aK bf cP bI
theorem tZ (s:aw) (l:List aa) (hn:jj s.aZ) (hm:Di s) (hl:l.length<=1048576):au Tryz.prog 40 [.agg (aH s),.agg [.sl (l.map ab)]] (.int .i64 (if sI s l then 0 else 1)):=by
 refine au.body fF rfl fun jc n0=>?_
 clear jc
 have h1:=zO Q0 s hn hm.s.g hm.s.t hm.s.s hm.a
 have h2:=pf s.aZ l hn hm.s.g hm.s.t hm.s.s hl
 cases b1:lI s
 ·rw[b1]at h1
  rw[aH]at h1 ⊢
  (repeat(first|((repeat(revert hN;revert N;apply Pn.out));refine wk @Nat.zero_add ?_;(repeat(refine Pn.mk ?_;intro N hN)))|((try apply Or.inl);refine⟨_,au.x (h1) (sd @Nat.zero_add),?_⟩;refine hN _ _ ?_;clear hN N)))
  exact dU (b:=1) (.inl rfl) (sd @Nat.zero_add) (by simp[sI,b1])
 have fj:tu s.aZ=true:=nY.2 (qR.1 b1).set
 rw[b1]at h1
 rw[fj,Bool.true_and]at h2
 rw[aH]at h1 ⊢
 rw[ad]at h2
 cases b2:rU s.aZ l
 ·rw[b2]at h2
  (repeat(first|((repeat(revert hN;revert N;apply Pn.out));refine wk @Nat.zero_add ?_;(repeat(refine Pn.mk ?_;intro N hN)))|((try apply Or.inl);refine⟨_,au.x (h1) (sd @Nat.zero_add),?_⟩;refine hN _ _ ?_;clear hN N)|((try apply Or.inl);refine⟨_,au.x (h2) (sd @Nat.zero_add),?_⟩;refine hN _ _ ?_;clear hN N)))
  exact dU (b:=1) (.inl rfl) (sd @Nat.zero_add) (by simp[sI,b1,b2])
 ·rw[b2]at h2
  (repeat(first|((repeat(revert hN;revert N;apply Pn.out));refine wk @Nat.zero_add ?_;(repeat(refine Pn.mk ?_;intro N hN)))|((try apply Or.inl);refine⟨_,au.x (h1) (sd @Nat.zero_add),?_⟩;refine hN _ _ ?_;clear hN N)|((try apply Or.inl);refine⟨_,au.x (h2) (sd @Nat.zero_add),?_⟩;refine hN _ _ ?_;clear hN N)))
  exact dU (b:=0) (.inl rfl) (sd @Nat.zero_add) (by simp[sI,b1,b2])
theorem Pc (lb:List aa) (hb:jz lb) (t:aa):au Tryz.prog 45 [.agg (ab t),.dv [.sl (lb.map ab)]] (.bool (!decide (fe lb t.aV=t.bp))):=by
 refine au.body fF rfl fun hl n0=>?_
 clear hl
 have h:=UU lb t.aV hb.om (by have:=hb.nO;omega)
 (repeat(first|((repeat(revert hN;revert N;apply Pn.out));refine wk (tw @ab.eq_1 @ah.eq_1) ?_;(repeat(refine Pn.mk ?_;intro N hN)))|((try apply Or.inl);refine⟨_,au.x (h) (sd (tw @ab.eq_1 @ah.eq_1)),?_⟩;refine hN _ _ ?_;clear hN N)))
 exact cu (b:= !decide (fe lb t.aV=t.bp)) (.inl rfl) (sd @Nat.zero_add) (by simp)
theorem ow (la lb:List aa) (ha:jz la) (hb:jz lb):au Tryz.prog 13 [.agg [.sl (la.map ab)],.agg [.sl (lb.map ab)]] (.bool (fw la lb)):=by
 refine au.body fF rfl fun hl n0=>?_
 clear hl
 have h1:=vp la
 have h2:=vp lb
 rw[vm.2 ha]at h1
 rw[vm.2 hb]at h2
 have h3:au Tryz.prog 44 [.sl (la.map ab),.fn 45 [.dv [.sl (lb.map ab)]]] (.bool (la.any fun t=> !decide (fe lb t.aV=t.bp))):=
  lX sQ (show BP Tryz.prog 44=some (Cb 44 66) by kernel_rfl)
   (show BP Tryz.prog 66=some (s9 66 3 true) by kernel_rfl) la (by have:=ha.nO;omega) _ _ _ rfl (fun g=>by rw[ai,aK,aj];rfl) (fun x _=>Pc lb hb x) fun g=>by rw[ai,aK,aj];rfl
 (repeat(first|((repeat(revert hN;revert N;apply Pn.out));refine wk @Nat.zero_add ?_;(repeat(refine Pn.mk ?_;intro N hN)))|((try apply Or.inl);refine⟨_,au.x (h1) (sd @Nat.zero_add),?_⟩;refine hN _ _ ?_;clear hN N)|((try apply Or.inl);refine⟨_,au.x (h2) (sd @Nat.zero_add),?_⟩;refine hN _ _ ?_;clear hN N)|((try apply Or.inl);refine⟨_,au.x (h3) (sd @Nat.zero_add),?_⟩;refine hN _ _ ?_;clear hN N)))
 exact cu (b:= !(la.any fun t=> !decide (fe lb t.aV=t.bp))) (.inl rfl) (sd @Nat.zero_add) (by rw[Hi];rfl)
theorem uj (s:aw) (l:List aa) (hn:jj s.aZ) (hm:Di s) (hl:l.length<=1048576):au Tryz.prog 31 [.agg (aH s),.agg [.sl (l.map ab)]] (.int .i64 (sE s l)):=by
 refine au.body fF rfl fun jc n0=>?_
 clear jc
 have h1:=tZ s l hn hm hl
 cases b:sI s l
 ·rw[b]at h1
  rw[aH]at h1 ⊢
  (repeat(first|((repeat(revert hN;revert N;apply Pn.out));refine wk @Nat.zero_add ?_;(repeat(refine Pn.mk ?_;intro N hN)))|((try apply Or.inl);refine⟨_,au.x (h1) (sd @Nat.zero_add),?_⟩;refine hN _ _ ?_;clear hN N)))
  exact dU (b:=1) (.inl rfl) (sd @Nat.zero_add) (by simp[sE,b])
 obtain⟨hP,hA⟩:=qf.1 b
 have h2:=ow s.cj.aq l hP.kQ.1 hA.1
 rw[b]at h1
 rw[aH]at h1 ⊢
 cases b2:fw s.cj.aq l
 ·rw[b2]at h2
  (repeat(first|((repeat(revert hN;revert N;apply Pn.out));refine wk @Nat.zero_add ?_;(repeat(refine Pn.mk ?_;intro N hN)))|((try apply Or.inl);refine⟨_,au.x (h1) (sd @Nat.zero_add),?_⟩;refine hN _ _ ?_;clear hN N)|((try apply Or.inl);refine⟨_,au.x (h2) (sd @Nat.zero_add),?_⟩;refine hN _ _ ?_;clear hN N)))
  exact dU (b:=2) (.inl rfl) (sd @Nat.zero_add) (by simp[sE,b,b2])
 ·rw[b2]at h2
  (repeat(first|((repeat(revert hN;revert N;apply Pn.out));refine wk @Nat.zero_add ?_;(repeat(refine Pn.mk ?_;intro N hN)))|((try apply Or.inl);refine⟨_,au.x (h1) (sd @Nat.zero_add),?_⟩;refine hN _ _ ?_;clear hN N)|((try apply Or.inl);refine⟨_,au.x (h2) (sd @Nat.zero_add),?_⟩;refine hN _ _ ?_;clear hN N)))
  exact dU (b:=0) (.inl rfl) (sd @Nat.zero_add) (by simp[sE,b,b2])
theorem Eo {s:aw} {l:List aa} (hA:gH s.aZ l):∀(n:Nat) (st:iT),pA s l st->pA s l (pP s l n st)
 |0,st,h=>h
 |n+1,st,h=>by
  have h1:=(wc h hA l.length (Nat.le_refl _)).1
  rw[nR]at h1
  rw[pP]
  split
  ·exact h1
  ·exact Eo hA n _ h1
theorem lq {s:aw} {l:List aa} (hP:BE s) (hA:gH s.aZ l) (hW:fw s.cj.aq l=true):pA s l (jl s l):=Eo hA _ _ (rj hP hA hW)
def gL (s:aw) (es:List aa) (i:Nat):List aa:=(es.take i).foldl (fun n x=>iG n x) s.cj.aq
noncomputable def Wn (s:aw) (es:List aa) (i:Nat):Bool:=eU s.aZ (aQ es i).bp&&fW s (gL s es i) (aQ es i).aV (aQ es i).bp
noncomputable def oQ (s:aw) (es:List aa) (i:Nat):Bool:=Wn s es i&&decide ((gL s es i).length<500)
theorem JL (s:aw) (es:List aa):gL s es 0=s.cj.aq:=rfl
theorem vP (s:aw) (es:List aa) {i:Nat} (hi:i<es.length):gL s es (i+1)=iG (gL s es i) (aQ es i):=by
 unfold gL
 rw[Fb hi,List.foldl_append];rfl
theorem NW {s:aw} {l:List aa} (hA:gH s.aZ l) {x:aa} (hlen:l.length<500) (ht:eU s.aZ x.bp=true) (hf:fW s l x.aV x.bp=true) (hs:s.aZ.aq.length<=160):gH s.aZ (iG l x):=by
 have fU:js x.bp 0 159=true:=jo (by have h:=ht;unfold eU at h;have:=eL h;omega)
 have hp:zf x.aV=true:=by simp[fW]at hf;exact hf.1.1
 have h0:eO l x.aV<0:=(BI hA x.aV).1 (by simp[fW]at hf;exact hf.1.2)
 have hR:=EX hA.1.om h0
 refine⟨⟨by rw[ma];omega,fun i xI=>?_⟩,fun t ht2=>?_⟩
 ·rcases jd.1 (fQ xI)with h|h
  ·rw[Dg,h]
   exact⟨hp,fU,fun h1=>by have z:=hR (i-1) i ae xI;rw[h]at z;exact z⟩
  ·obtain⟨j,hj,iv⟩:=List.getElem_of_mem h
   have h1:=hA.1.ok j hj
   rw[Dg,fm hj,iv]at h1
   exact⟨h1.1,h1.2.1,fun h0=>hR _ _ ae xI⟩
 ·rcases jd.1 ht2 with rfl|h
  ·exact ht
  ·exact hA.2 t h
theorem zd {s:aw} (hP:np s) {es:List aa}:∀i,i<=es.length->(∀j,j<i->oQ s es j=true)->gH s.aZ (gL s es i)
 |0,_,_=>hP.kQ
 |i+1,hi,h=>by
  have ih:=zd hP (es:=es) i ae fun j hj=>h j ae
  have hg:=h i ae
  rw[oQ,Bool.and_eq_true,Wn,Bool.and_eq_true]at hg
  rw[vP s es ae]
  exact NW ih (of_decide_eq_true hg.2) hg.1.1 hg.1.2 hP.set.Bw
def AtK (n:Nat) (l:List aa) (x:aa) (r:AV) (σ':ax):Prop:=(500<=l.length/\r=.ib [.agg [.ck],.int .i64 4])∨(l.length<500/\∃o:Id,r=.ib [.agg [.own o 0 (iG l x).length],.int .i64 0]/\σ'.get o=some ⟨true,3,(iG l x).map ab⟩/\n<=o.bt/\o.bt<σ'.next)
theorem EF (l:List aa) (hl:l.length<=1048576) (x:aa) (n0:Nat):Call Tryz.prog 64 [.dv [.sl (l.map ab)],.agg (ab x)] ⟨fun _=>none,n0⟩ (AtK n0 l x):=by
 refine ij fF rfl fun jc=>?_
 clear jc
 by_cases h5:500<=l.length
 ·have hd:((500:Nat):Int)<=(l.length:Int):=ae
  have nr:(500:Int)<=(l.length:Int):=ae
  (try((repeat(revert hN;revert N;apply Pn.out));refine wk (tw @ab.eq_1 (tw @hd @nr)) ?_;(repeat(refine Pn.mk ?_;intro N hN))))
  exact gN (.inl rfl) (vs:=[.agg [.ck],.int .i64 4]) (sd @Nat.zero_add) (.inl ⟨h5,rfl⟩)
 ·have nr:¬(500:Int)<=(l.length:Int):=ae
  (try((repeat(revert hN;revert N;apply Pn.out));refine wk (tw @ab.eq_1 @nr) ?_;(repeat(refine Pn.mk ?_;intro N hN))))
  refine .inr (aA _ _ _ _ _ (fun r σ1 hq=>?_) (NS.val (fun n=>Ez l hl x.aV x.bp n) (by simp only[ai,aj,aK,bx,aP,Option.map_some];rfl)))
  obtain⟨⟨o,rfl,q1,q2,q3⟩,hK⟩:=hq
  obtain⟨g1,x1⟩:=σ1
  (try dsimp only at q1 q2 q3 hK)
  have hx:(⟨x.aV,x.bp⟩:aa)=x:=rfl
  rw[hx]at q1 ⊢
  have k4:=hK.2 ⟨64000001,n0⟩ aU
  simp only[go_sem, ↓reduceIte,Nat.reduceEqDiff,Nat.reduceAdd,Nat.reduceSub,Nat.reduceLeDiff,reduceCtorEq]at k4
  have vo:=dp (a:=⟨64000001,n0⟩) (b:=o) (by(try dsimp only at q2);(try dsimp only);omega)
  refine hN _ _ ?_
  clear hN N
  (try((repeat(revert hN;revert N;apply Pn.out));refine wk @k4 ?_;(repeat(refine Pn.mk ?_;intro N hN))))
  exact gN (.inl rfl) (vs:=[.agg [.own o 0 (iG l x).length],.int .i64 0]) (sd @Nat.zero_add) (.inr ⟨ae,o,rfl,sd (tw @vo @q1),by(try dsimp only at q2);omega,aU⟩)
theorem KG {X o:Id} {l:List aa} {σ:ax} (hl:l.length<=1048576) (x:aa) (hX:σ.get X=some ⟨true,1,[[.own o 0 l.length]]⟩) (ho:σ.get o=some ⟨true,3,l.map ab⟩):
  Call Tryz.prog 64 [.ptr X 0 0,.agg (ab x)] σ (fun r σ'=>AtK σ.next l x r σ'/\Kept σ σ'):=by
 refine Dd mixed (args':=[.dv [.sl (l.map ab)],.agg (ab x)]) (by
  have hp:=xR hX ho
  simp only[ai,aj,hp,Option.map_some,ab,bx,aP]) (aA _ _ _ _ _ (fun r σ' hq=>?_) (Aj mixed (EF l hl x σ.next)))
 obtain⟨hq,hn⟩:=hq
 rcases hq with⟨h5,rfl⟩|⟨h5,o2,rfl,h2,h3,h4⟩
 ·exact⟨[],rfl,fun i hi=>by(cases hi),.inl ⟨h5,rfl⟩,hn,fun j hj=>oc (g':=σ'.get) (List.not_mem_nil)⟩
 ·refine⟨[o2],rfl,fun i hi=>?_,.inr ⟨h5,o2,rfl,(uF (by simp)).trans h2,h3,h4⟩,hn,fun j hj=>oc fun hc=>?_⟩
  ·rw[List.mem_singleton.1 hi]
   exact⟨_,h2,rfl,fun cs eD a ha=>by
    obtain⟨y,_,rfl⟩:=List.mem_map.1 eD
    simp[ab]at ha
    rcases ha with rfl|rfl|rfl<;>rfl⟩
  ·rw[List.mem_singleton.1 hc]at hj;omega
def fx (p:aa->Bool) (l:List aa):List aa:=l.filter fun x=> !p x
theorem Jo (p:aa->Bool) (l:List aa):(fx p l).length<=l.length:=List.length_filter_le _ _
theorem oK {p:aa->Bool} {l:List aa} {j:Nat} (hj:j<l.length):fx p (l.take (j+1))=fx p (l.take j)++if p l[j]=true then[]else[l[j]]:=by
 unfold fx
 rw[List.take_succ_eq_append_getElem hj,List.filter_append]
 congr 1
 cases h:p l[j]<;>simp[h]
theorem yQ {p:aa->Bool} {l:List aa} (h:∀b∈l,p b=false):fx p l=l:=by
 unfold fx
 rw[List.filter_eq_self]
 intro b hb
 rw[h b hb];rfl
structure Kg (p:aa->Bool) (bs:List aa) (j:Nat) (R:List aa):Prop where
 len:R.length=bs.length
 pre:R.take (fx p (bs.take j)).length=fx p (bs.take j)
 post:∀x,j<=x->R[x]? =bs[x]?
 lt:(fx p (bs.take j)).length<j
theorem Kg.start {p:aa->Bool} {bs:List aa} {i:Nat} (hi:i<bs.length) (hw:p bs[i]=true) (hp:∀x (h:x<i),p bs[x]=false):Kg p bs (i+1) bs/\(fx p (bs.take (i+1))).length=i:=by
 have h1:fx p (bs.take i)=bs.take i:=yQ fun b hb=>by
  obtain⟨x,hx,rfl⟩:=List.getElem_of_mem hb
  rw[List.length_take]at hx
  rw[List.getElem_take]
  exact hp x ae
 have h2:fx p (bs.take (i+1))=bs.take i:=by rw[oK hi,if_pos hw,List.append_nil,h1]
 have h3:(bs.take i).length=i:=by rw[List.length_take];omega
 exact⟨⟨rfl,by rw[h2,h3],fun _ _=>rfl,by rw[h2,h3];omega⟩,by rw[h2,h3]⟩
theorem Kg.SJ {p:aa->Bool} {bs R:List aa} {j:Nat} (h:Kg p bs j R) (hj:j<bs.length) (hw:p bs[j]=true):Kg p bs (j+1) R/\(fx p (bs.take (j+1))).length=(fx p (bs.take j)).length:=by
 have h2:fx p (bs.take (j+1))=fx p (bs.take j):=by rw[oK hj,if_pos hw,List.append_nil]
 exact⟨⟨h.len,by rw[h2];exact h.pre,fun x hx=>h.post x ae,by rw[h2];have:=h.lt;omega⟩,by rw[h2]⟩
theorem Kg.sa {p:aa->Bool} {bs R:List aa} {j:Nat} (h:Kg p bs j R) (hj:j<bs.length) (hw:p bs[j]=false):Kg p bs (j+1) (R.set (fx p (bs.take j)).length bs[j])/\(fx p (bs.take (j+1))).length=(fx p (bs.take j)).length+1:=by
 have h2:fx p (bs.take (j+1))=fx p (bs.take j)++[bs[j]]:=by rw[oK hj,hw];rfl
 have eM:=h.lt
 have hlen:=h.len
 have rX:=h.pre
 generalize hc:(fx p (bs.take j)).length=c at *
 refine⟨⟨by rw[List.length_set];exact hlen,?_,fun x hx=>?_,by rw[h2,List.length_append,hc];simp;omega⟩,by rw[h2,List.length_append,hc];rfl⟩
 ·rw[h2,List.length_append,hc,List.length_singleton,List.take_succ_eq_append_getElem (by rw[List.length_set];omega),List.getElem_set_self,List.take_set_of_le (Nat.le_refl _),rX]
 ·rw[List.getElem?_set_ne ae];exact h.post x ae
theorem Kg.at_ {p:aa->Bool} {bs R:List aa} {j:Nat} (h:Kg p bs j R) (hj:j<bs.length):(R.map ab)[j]? =some (ab bs[j]):=by
 rw[List.getElem?_map,h.post j (Nat.le_refl j),List.getElem?_eq_getElem hj];rfl
theorem FQ {p:aa->Bool} {bs:List aa} (h:¬0<=jx p bs):∀b∈bs,p b=false:=by
 intro b hb
 unfold jx at h
 split at h
 ·omega
 ·rename_i h1
  rw[List.findIdx_lt_length]at h1
  cases hp:p b
  ·rfl
  ·exact absurd ⟨b,hb,hp⟩ h1
theorem FR {p:aa->Bool} {bs:List aa} (h:0<=jx p bs):∃i,∃hi:i<bs.length,jx p bs=(i:Int)/\p bs[i]=true/\∀x (hx:x<i),p (bs[x]'ae)=false:=by
 unfold jx at h ⊢
 split
 ·rename_i h1
  exact⟨bs.findIdx p,h1,rfl,List.findIdx_getElem,fun x hx=>by simpa using List.not_of_lt_findIdx hx⟩
 ·rename_i h1;rw[if_neg h1]at h;omega
theorem Iz (ps:List aa) (hp:0<ps.length) (hl:ps.length<=1048576) (σ:ax):
  Call Tryz.prog 33 [.sl (ps.map ab)] σ fun r σ'=>∃o:Id,r=.own o 0 ps.length/\σ'.get o=some ⟨true,3,ps.map ab⟩/\σ.next<=o.bt/\o.bt<σ'.next/\∀i:Id,i.bt<σ.next->σ'.get i=σ.get i:=by
 refine ij fF rfl fun hl=>?_
 clear hl
 have hz:(ps.map ab).all (fun c=>c.length==3&&c.all AV.cell)=true:=all_map fun x=>by simp[ab,AV.cell]
 obtain⟨b,r,rfl⟩:∃b r,ps=b::r:=by
  cases ps with
  |nil=>simp at hp
  |cons b r=>exact⟨b,r,rfl⟩
 have gp:(List.map ab (b::r)).length=(b::r).length:=by simp
 have e1:r.length<=16777215:=by simp at hl;omega
 rw[List.map_cons]at hz gp ⊢
 (try((repeat(revert hN;revert N;apply Pn.out));refine wk (tw @hz (tw @gp @e1)) ?_;(repeat(refine Pn.mk ?_;intro N hN))))
 refine gN (.inl rfl) (vs:=[.own ⟨33003002,σ.next+1+1⟩ 0 (b::r).length]) (by simp only[gS,jD,go_sem, ↓reduceIte,Nat.reduceEqDiff,Nat.reduceAdd,Nat.reduceSub,Nat.reduceLeDiff,reduceCtorEq,List.length_cons]) ⟨⟨33003002,σ.next+1+1⟩,rfl,sd @Nat.zero_add,aU,aU,fun i hi=>?_⟩
 have hv:=dj hi
 simp only[go_sem, ↓reduceIte,Nat.reduceEqDiff,Nat.reduceAdd,Nat.reduceSub,Nat.reduceLeDiff,reduceCtorEq,hv]
def MkT (n:Nat) (L:List aa) (r:AV) (σ':ax):Prop:=∃(o:Id) (J:List aa),r=.agg [.own o 0 L.length]/\σ'.get o=some ⟨true,3,(L++J).map ab⟩/\n<=o.bt/\o.bt<σ'.next
end Go.Proofs.YtiabgllilcfheaaGreat.V

namespace Go.Proofs.YtiabgllilcfheaaGreat.V
open Go.RowKit
attribute [local irreducible] er wpOps fY Call
attribute [local go_sem] aF fC eR fN fK du upd cw K.av cQ AV.cells AV.cell rowOf rowsOf part ld rowAt bK cq dH dX gG bP dd eh fJ fa dw ea db da dM dP bV bd cU bU cW cV dV eb dZ cR bY dc dY bQ aD cY cF gF bD cL bW aY dn bj dI AV.undef bH bJ dQ dW dL dK cK ef eo cz ee ec cX cZ List.getD_cons_zero List.getD_cons_succ List.getD_nil List.all_cons List.all_nil Bool.and_true Bool.true_and Bool.and_self Bool.not_true Bool.not_false Option.map_some Option.map_none Option.bind_some Option.bind_none List.length_cons List.length_nil List.take_succ_cons List.take_zero List.take_nil List.drop_succ_cons List.drop_zero List.drop_nil List.head?_cons List.map_cons List.map_nil List.getElem?_cons_zero List.getElem?_cons_succ List.cons_append List.nil_append List.append_nil List.length_map List.set_cons_zero List.set_cons_succ eq_self Int.toNat_natCast Int.natCast_nonneg and_self true_and and_true decide_true decide_false Bool.false_eq_true Nat.zero_add Nat.add_zero List.contains_cons List.contains_nil Bool.or_false Bool.false_or beq_self_eq_true ne_eq not_true_eq_false not_false_eq_true Id.mk.injEq false_and and_false Nat.le_refl List.length_append beq_true beq_false Bool.not_eq_eq_eq_not or_false false_or eu ai aj aP bh bZ cm aW bx aK bf cP bI
end Go.Proofs.YtiabgllilcfheaaGreat.V

namespace Go.Proofs.YtiabgllilcfheaaGreat.V
open Go.RowKit
attribute [local irreducible] er wpOps fY Call
attribute [local go_sem] aF fC eR fN fK du upd cw K.av cQ AV.cells AV.cell rowOf rowsOf part ld rowAt bK cq dH dX gG bP dd eh fJ fa dw ea db da dM dP bV bd cU bU cW cV dV eb dZ cR bY dc dY bQ aD cY cF gF bD cL bW aY dn bj dI AV.undef bH bJ dQ dW dL dK cK ef eo cz ee ec cX cZ List.getD_cons_zero List.getD_cons_succ List.getD_nil List.all_cons List.all_nil Bool.and_true Bool.true_and Bool.and_self Bool.not_true Bool.not_false Option.map_some Option.map_none Option.bind_some Option.bind_none List.length_cons List.length_nil List.take_succ_cons List.take_zero List.take_nil List.drop_succ_cons List.drop_zero List.drop_nil List.head?_cons List.map_cons List.map_nil List.getElem?_cons_zero List.getElem?_cons_succ List.cons_append List.nil_append List.append_nil List.length_map List.set_cons_zero List.set_cons_succ Nat.reduceMul eq_self Int.toNat_natCast Int.natCast_nonneg and_self true_and and_true decide_true decide_false Bool.false_eq_true Nat.zero_add Nat.add_zero List.contains_cons List.contains_nil Bool.or_false Bool.false_or beq_self_eq_true Nat.reduceBEq ne_eq not_true_eq_false not_false_eq_true Id.mk.injEq false_and and_false Nat.reduceLT Int.reduceLE Int.reduceLT Int.reduceToNat Int.reduceNeg Int.reduceAdd Nat.le_refl List.length_append beq_true beq_false Bool.not_eq_eq_eq_not or_false false_or eu ai aj aP bh bZ cm aW bx aK bf cP bI
def resS (s:aw) (a:List aa):aw:=⟨s.aZ,⟨a⟩,s.aX⟩
structure RepP (s:aw) (r a:List aa):Prop where
 sys:np s
 right:gH s.aZ r
 rR:gH s.aZ a
 wr:fw s.cj.aq r=true
 wa:fw s.cj.aq a=true
def InM (X:Id) (st:iT) (e7:AV) (g:Rows) (n:Nat):Prop:=∃o u:Id,g X=some ⟨true,1,[[.own o 0 st.2.length]]⟩/\g o=some ⟨true,3,st.2.map ab⟩/\e7=.own u 0 st.1.length/\g u=some ⟨true,3,st.1.map ab⟩/\(o=u->False)/\(X=u->False)/\u.bt<n/\(X=o->False)/\o.bt<n/\X.bt<n
end Go.Proofs.YtiabgllilcfheaaGreat.V

namespace Go.Proofs.YtiabgllilcfheaaGreat.V
open Go.RowKit
theorem NX {s:ay} {l m:List aa} (hA:gH s l) (hR:jt m) (hm:∀x∈m,x∈l) (hlen:m.length<=l.length):gH s m:=by
 refine⟨⟨Nat.le_trans hlen hA.1.nO,fun i hi=>?_⟩,fun t ht=>hA.2 t (hm t ht)⟩
 obtain⟨j,hj,iv⟩:=List.getElem_of_mem (hm _ (fQ hi))
 have h1:=hA.1.ok j hj
 rw[Dg,fm hj,iv]at h1
 exact⟨h1.1,h1.2.1,fun h0=>hR _ _ ae hi⟩
theorem Gm {a:List aa} (h:jt a) {i:Nat} (hi:i<a.length):eO a a[i].aV=i:=by
 have h0:0<=eO a a[i].aV:=by
  rcases Int.lt_or_le (eO a a[i].aV) 0 with h0|h0
  ·exact absurd rfl (yN.1 h0 a[i] (List.getElem_mem hi))
  ·exact h0
 obtain⟨h1,h2⟩:=kZ h0
 have h3:(eO a a[i].aV).toNat=i:=by
  rcases Nat.lt_trichotomy (eO a a[i].aV).toNat i with h4|h4|h4
  ·have:=h _ _ h4 hi
   rw[h2,fm hi,jM]at this;cases this
  ·exact h4
  ·have:=h _ _ h4 h1
   rw[h2,fm hi,jM]at this;cases this
 omega
theorem sm {s:ay} (hS:iF s) {f g:ar->Int} (h:∀p,0<=f p->g p=f p) (p:ar) (t:Int):∀d,dr s f p t d<=dr s g p t d
 |0=>Int.le_refl _
 |d+1=>by
  have ih:=sm hS h p t d
  simp only[dr]
  by_cases h0:0<=f (dq p d)
  ·rw[if_pos h0,if_pos (by rw[h _ h0];exact h0),h _ h0];omega
  ·rw[if_neg h0]
   have:=tK hS t d (g (dq p d))
   split<;>omega
theorem at_mem {l:List aa} (hR:jt l) {x:aa} (hx:x∈l):fe l x.aV=x.bp:=by
 obtain⟨j,hj,rfl⟩:=List.getElem_of_mem hx
 have:=Gm hR hj
 unfold fe
 rw[this,if_pos ae,Int.toNat_natCast,fm hj]
theorem Cu {l:List aa} {p:ar} (h:0<=fe l p):∃x∈l,x.aV=p/\x.bp=fe l p:=by
 unfold fe at h ⊢
 split at h
 ·rename_i h0
  obtain⟨h1,h2⟩:=kZ h0
  exact⟨_,fQ h1,h2,by rw[if_pos h0]⟩
 ·omega
theorem Pu {l:List aa} (hR:jt l) {x y:aa} (hx:x∈l) (hy:y∈l) (h:x.aV=y.aV):x=y:=by
 obtain⟨i,hi,rfl⟩:=List.getElem_of_mem hx
 obtain⟨j,hj,rfl⟩:=List.getElem_of_mem hy
 have h1:=Gm hR hi
 have h2:=Gm hR hj
 rw[h]at h1
 have:i=j:=ae
 subst this;rfl
theorem K4 {s:aw} (hS:iF s.aZ) {l l':List aa} (hR':jt l') (h:∀x∈l,x∈l') {p:ar} {t:Int} (hf:fW s l p t=true) (D7:fe l' p<0):fW s l' p t=true:=by
 have oJ:∀q,0<=fe l q->fe l' q=fe l q:=fun q hq=>by
  obtain⟨x,hx,rfl,e⟩:=Cu hq
  rw[<-e];exact at_mem hR' (h x hx)
 have hm:=sm hS oJ p t 4
 simp only[fW,Bool.and_eq_true,decide_eq_true_eq,nL]at hf ⊢
 refine⟨⟨hf.1.1,D7⟩,?_⟩
 first
  |exact decide_eq_true (Int.le_trans (of_decide_eq_true hf.2) hm)
  |exact decide_eq_true (Int.le_trans hf.2 hm)
structure Ap (s:aw) (K M:List aa):Prop where
 om:jt M
 sub:∀x∈M,x∈K
 no:∀x∈K,fW s M x.aV x.bp=false
theorem Ap.in_ {s:aw} (hS:iF s.aZ) {K M l:List aa} (h:Ap s K M) (hK:jt K) (hl:∀x∈l,x∈M) {x:aa} (hx:x∈K) (hf:fW s l x.aV x.bp=true):x∈M:=by
 rcases Int.lt_or_le (fe M x.aV) 0 with h0|h0
 ·have:=K4 hS h.om hl hf h0
  rw[h.no x hx]at this;cases this
 ·obtain⟨y,hy,e,_⟩:=Cu h0
  rw[<-Pu hK (h.sub y hy) hx e];exact hy
theorem zb (s:aw):∀(l:List aa) (st:iT),st.1.length<=(fG s l st).1.length
 |[],_=>Nat.le_refl _
 |x::l,st=>by
  refine Nat.le_trans ?_ (zb s l (fH s st x))
  unfold fH
  split
  ·simp
  ·exact Nat.le_refl _
theorem Bi (s:aw):∀(l:List aa) (st:iT),(fG s l st).1.length=st.1.length->fG s l st=st/\∀x∈l,fW s st.2 x.aV x.bp=false
 |[],_,_=>⟨rfl,fun x hx=>(by cases hx)⟩
 |x::l,st,h=>by
  have h1:=zb s l (fH s st x)
  have h2:fG s (x::l) st=fG s l (fH s st x):=rfl
  rw[h2]at h ⊢
  cases hf:fW s st.2 x.aV x.bp
  ·have e:fH s st x=st:=by unfold fH;rw[if_neg (by rw[hf];simp)]
   rw[e]at h ⊢
   obtain⟨h3,h4⟩:=Bi s l st h
   refine⟨h3,fun y hy=>?_⟩
   rcases List.mem_cons.1 hy with rfl|hy
   ·exact hf
   ·exact h4 y hy
  ·exfalso
   have e:(fH s st x).1.length=st.1.length+1:=by unfold fH;rw[if_pos hf];simp
   omega
theorem HT {s:aw} {l:List aa} (hA:gH s.aZ l):∀(n:Nat) (st:iT),pA s l st->l.length<n+st.1.length->∀x∈l,fW s (pP s l n st).2 x.aV x.bp=false
 |0,st,h,hn=>by have:=h.nO;have:=h.len;omega
 |n+1,st,h,hn=>by
  have h1:=(wc h hA l.length (Nat.le_refl _)).1
  rw[nR]at h1
  rw[pP]
  have hl:=zb s l st
  split
  ·rename_i he
   obtain⟨e1,e2⟩:=Bi s l st he
   rw[e1];exact e2
  ·rename_i he
   exact HT hA n _ h1 ae
theorem uw (s:aw) {x:aa}:∀(l:List aa) (st:iT),x∈st.2->x∈(fG s l st).2
 |[],_,h=>h
 |y::l,st,h=>uw s l (fH s st y) (by
  unfold fH
  split
  ·exact jd.2 (.inr h)
  ·exact h)
theorem yO (s:aw) (l:List aa) {x:aa}:∀(n:Nat) (st:iT),x∈st.2->x∈(pP s l n st).2
 |0,_,h=>h
 |n+1,st,h=>by
  rw[pP]
  split
  ·exact uw s l st h
  ·exact yO s l n _ (uw s l st h)
theorem rh (s:aw) (l:List aa) {x:aa} (h:x∈s.cj.aq):x∈(jl s l).2:=yO s l _ _ h
theorem AX {s:aw} {l:List aa} (hP:BE s) (hA:gH s.aZ l) (hW:fw s.cj.aq l=true):Ap s l (jl s l).2:=
 ⟨(lq hP hA hW).om,(lq hP hA hW).sub,HT hA _ _ (rj hP hA hW) (by simp)⟩
theorem CA {s:aw} (hS:iF s.aZ) {K M:List aa} (hM:Ap s K M) (hK:jt K):∀(l:List aa) (st:iT),(∀x∈st.2,x∈M)->(∀x∈(fG s l st).2,x∈K)->∀x∈(fG s l st).2,x∈M
 |[],st,h,_=>h
 |y::l,st,h,hk=>by
  refine CA hS hM hK l (fH s st y) (fun x hx=>?_) hk
  unfold fH at hx
  split at hx
  ·rename_i hf
   rcases jd.1 hx with rfl|hx
   ·refine hM.in_ hS hK h (hk _ (uw s l _ ?_)) hf
    unfold fH
    rw[if_pos hf];exact jd.2 (.inl rfl)
   ·exact h x hx
  ·exact h x hx
theorem HS {s:aw} (hS:iF s.aZ) {K M l:List aa} (hM:Ap s K M) (hK:jt K):∀(n:Nat) (st:iT),(∀x∈st.2,x∈M)->(∀x∈(pP s l n st).2,x∈K)->∀x∈(pP s l n st).2,x∈M
 |0,st,h,_=>h
 |n+1,st,h,hk=>by
  rw[pP]at hk ⊢
  split at hk
  ·rename_i he
   rw[if_pos he]
   exact CA hS hM hK l st h hk
  ·rename_i he
   rw[if_neg he]
   exact HS hS hM hK n _ (CA hS hM hK l st h fun x hx=>hk x (yO s l n _ hx)) hk
theorem E4 {l l':List aa} (h:jt l) (h':jt l') (hm:∀x,x∈l↔x∈l'):l=l':=by
 rw[nV]at h h'
 induction l generalizing l' with
 |nil=>
  cases l' with
  |nil=>rfl
  |cons y r=>exact absurd ((hm y).2 (by simp)) (by simp)
 |cons x l ih=>
  cases l' with
  |nil=>exact absurd ((hm x).1 (by simp)) (by simp)
  |cons y r=>
   have h1:=List.pairwise_cons.1 h
   have h2:=List.pairwise_cons.1 h'
   have OP:x=y:=by
    rcases List.mem_cons.1 ((hm x).1 (by simp))with e|e
    ·exact e
    ·rcases List.mem_cons.1 ((hm y).2 (by simp))with e2|e2
     ·exact e2.symm
     ·have a1:=h1.1 y e2
      have a2:=h2.1 x e
      have:=jg a1 a2
      rw[jM]at this;cases this
   subst OP
   rw[ih h1.2 h2.2 fun z=>?_]
   constructor
   ·intro hz
    rcases List.mem_cons.1 ((hm z).1 (by simp[hz]))with e|e
    ·subst e;have:=h1.1 z hz;rw[jM]at this;cases this
    ·exact e
   ·intro hz
    rcases List.mem_cons.1 ((hm z).2 (by simp[hz]))with e|e
    ·subst e;have:=h2.1 z hz;rw[jM]at this;cases this
    ·exact e
theorem within_iff {l l':List aa} {s:ay} (hA:gH s l) (hR:jt l'):fw l l'=true↔∀x∈l,x∈l':=by
 unfold fw
 rw[List.all_eq_true]
 constructor
 ·intro h x hx
  have h1:=of_decide_eq_true (h x hx)
  have h2:=(eL (hA.2 x hx)).1
  obtain⟨y,hy,e1,e2⟩:=Cu (l:=l') (p:=x.aV) ae
  have:y=x:=by cases y;cases x;simp_all
  rw[<-this];exact hy
 ·intro h x hx
  exact decide_eq_true (at_mem hR (h x hx))
theorem Gp {s:aw} (hP:BE s) {l:List aa} (hA:gH s.aZ l) (hW:fw s.cj.aq l=true):(jl s (jl s l).2).2=(jl s l).2:=by
 have hI:=lq hP hA hW
 have hAM:=hI.rR hA
 have hWM:fw s.cj.aq (jl s l).2=true:=(within_iff hP.kQ hI.om).2 fun x hx=>rh s l hx
 have hSh:=AX hP hAM hWM
 have hI2:=lq hP hAM hWM
 refine E4 hI2.om hI.om fun x=>⟨fun hx=>hI2.sub x hx,fun hx=>?_⟩
 exact HS hP.set hSh hI.om (l.length+1) ([],s.cj.aq) (fun y hy=>rh s _ hy) (fun y hy=>hy) x hx
theorem EI {x:aa}:∀(es l:List aa),x∈es.foldl (fun n x=>iG n x) l↔x∈l∨x∈es
 |[],l=>by simp
 |e::es,l=>by
  rw[List.foldl_cons,EI es,jd,List.mem_cons]
  constructor
  ·rintro((h|h)|h)<;>simp[h]
  ·rintro(h|h|h)<;>simp[h]
theorem EJ {s:aw} {es:List aa} {i:Nat} {x:aa}:x∈gL s es i↔x∈s.cj.aq∨x∈es.take i:=EI _ _
theorem Bj {s:aw} (hS:iF s.aZ) {K M es:List aa} (hM:Ap s K M) (hK:jt K) (Qp:∀x∈s.cj.aq,x∈M) (YZ:∀x∈es,x∈K) (hg:∀j,j<es.length->oQ s es j=true):∀i,i<=es.length->∀x∈gL s es i,x∈M
 |0,_,x,hx=>Qp x hx
 |i+1,hi,x,hx=>by
  have ih:=Bj hS hM hK Qp YZ hg i ae
  rw[vP s es ae]at hx
  rcases jd.1 hx with rfl|hx
  ·have h1:=hg i ae
   simp only[oQ,Wn,Bool.and_eq_true]at h1
   exact hM.in_ hS hK ih (YZ _ (fQ ae)) h1.1.2
  ·exact ih x hx
end Go.Proofs.YtiabgllilcfheaaGreat.V

namespace Go.Proofs.YtiabgllilcfheaaGreat.V
open Go.RowKit
attribute [local irreducible] er wpOps fY Call
attribute [local go_sem] aF fC eR fN fK du upd cw K.av cQ AV.cells AV.cell rowOf rowsOf part ld rowAt bK cq dH dX gG bP dd eh fJ fa dw ea db da dM dP bV bd cU bU cW cV dV eb dZ cR bY dc dY bQ aD cY cF gF bD cL bW aY dn bj dI AV.undef bH bJ dQ dW dL dK cK ef eo cz ee ec cX cZ List.getD_cons_zero List.getD_cons_succ List.getD_nil List.all_cons List.all_nil Bool.and_true Bool.true_and Bool.and_self Bool.not_true Bool.not_false Option.map_some Option.map_none Option.bind_some Option.bind_none List.length_cons List.length_nil List.take_succ_cons List.take_zero List.take_nil List.drop_succ_cons List.drop_zero List.drop_nil List.head?_cons List.map_cons List.map_nil List.getElem?_cons_zero List.getElem?_cons_succ List.cons_append List.nil_append List.append_nil List.length_map List.set_cons_zero List.set_cons_succ Nat.reduceMul eq_self Int.toNat_natCast Int.natCast_nonneg and_self true_and and_true decide_true decide_false Bool.false_eq_true Nat.zero_add Nat.add_zero List.contains_cons List.contains_nil Bool.or_false Bool.false_or beq_self_eq_true Nat.reduceBEq ne_eq not_true_eq_false not_false_eq_true Id.mk.injEq false_and and_false Nat.reduceLT Int.reduceLE Int.reduceLT Int.reduceToNat Int.reduceNeg Int.reduceAdd Nat.le_refl List.length_append beq_true beq_false Bool.not_eq_eq_eq_not or_false false_or eu ai aj aP bh bZ cm aW bx aK bf cP bI
def Iv (B:ar->Int->Bool) (p:ar):Nat->List aa
 |0=>[]
 |t+1=>if B p (t:Nat)=true then Iv B p t++[⟨p,(t:Nat)⟩]else Iv B p t
def BN (B:ar->Int->Bool) (m:Nat) (ps:List ar):List aa:=ps.flatMap fun p=>Iv B p m
theorem Hk (B:ar->Int->Bool) (p:ar):∀t,(Iv B p t).length<=t
 |0=>by simp[Iv]
 |t+1=>by
  have:=Hk B p t
  rw[Iv]
  split
  ·rw[List.length_append,List.length_singleton];omega
  ·omega
theorem Hl (B:ar->Int->Bool) (m:Nat):∀ps:List ar,(BN B m ps).length<=ps.length*m
 |[]=>by simp[BN]
 |p::ps=>by
  have h:=Hl B m ps
  have h2:=Hk B p m
  unfold BN at *
  rw[List.flatMap_cons,List.length_append,List.length_cons,Nat.add_mul,Nat.one_mul]
  omega
theorem KJ {B:ar->Int->Bool} {m:Nat} {ps:List ar} {k:Nat} (hk:k<ps.length):BN B m (ps.take (k+1))=BN B m (ps.take k)++Iv B (pQ ps k) m:=by
 unfold BN
 rw[List.take_succ_eq_append_getElem hk,List.flatMap_append,oR hk]
 simp
end Go.Proofs.YtiabgllilcfheaaGreat.V

namespace Go.Proofs.YtiabgllilcfheaaGreat.V
open Go.RowKit
def xg (B:ar->Int->Bool) (p:ar):Nat->List Int
 |0=>[]
 |t+1=>if B p (t:Nat)=true then xg B p t++[(t:Int)]else xg B p t
theorem BZ (B:ar->Int->Bool) (p:ar):∀t,(xg B p t).length<=t
 |0=>by simp[xg]
 |t+1=>by
  have:=BZ B p t
  rw[xg]
  split
  ·rw[List.length_append,List.length_singleton];omega
  ·omega
theorem KI (B:ar->Int->Bool) (p:ar):∀t,Iv B p t=(xg B p t).map fun k=>(⟨p,k⟩:aa)
 |0=>rfl
 |t+1=>by
  rw[Iv,xg,KI B p t]
  split<;>simp
theorem AH {B C:ar->Int->Bool} {p:ar} (h:∀t:Nat,B p t=C p t):∀t,xg B p t=xg C p t
 |0=>rfl
 |t+1=>by rw[xg,xg,h t,AH h t]
abbrev En:=ar×AV
def eEn (e:En):List AV:=[.int .i64 e.1.fP,.int .i64 e.1.fE,e.2]
def vQ:List En->ar->AV->List En
 |[],q,v=>[(q,v)]
 |e::es,q,v=>if e.1=q then(q,v)::es else e::vQ es q v
def DD:List En->ar->List En
 |[],_=>[]
 |e::es,q=>if e.1=q then es else e::DD es q
theorem L6 {q:ar} {v:AV} {x:En}:∀{es:List En},x.1≠q->(x∈vQ es q v↔x∈es)
 |[],h=>by
  rw[vQ,List.mem_singleton]
  exact⟨fun e=>absurd (by rw[e]) h,fun e=>by cases e⟩
 |e::es,h=>by
  have ih:=@L6 q v x es h
  rw[vQ]
  split
  ·rename_i he
   rw[List.mem_cons,List.mem_cons]
   exact⟨fun h1=>h1.elim (fun e=>absurd (by rw[e]) h) .inr,fun h1=>h1.elim (fun e'=>absurd (by rw[e'];exact he) h) .inr⟩
  ·rw[List.mem_cons,List.mem_cons,ih]
theorem JO (q:ar) (v:AV):∀es:List En,(q,v)∈vQ es q v
 |[]=>by simp[vQ]
 |e::es=>by
  have ih:=JO q v es
  rw[vQ]
  split
  ·simp
  ·exact List.mem_cons_of_mem _ ih
theorem Eu {q:ar} {v:AV} {p:ar}:∀{es:List En},p∈(vQ es q v).map (·.1)->p=q∨p∈es.map (·.1)
 |[],h=>by simp[vQ]at h;exact .inl h
 |e::es,h=>by
  rw[vQ]at h
  split at h
  ·simp only[List.map_cons,List.mem_cons]at h ⊢
   exact h.imp_right .inr
  ·simp only[List.map_cons,List.mem_cons]at h ⊢
   rcases h with h|h
   ·exact .inr (.inl h)
   ·exact(Eu h).imp_right .inr
theorem GI (q:ar) (v:AV):∀{es:List En},(es.map (·.1)).Nodup->((vQ es q v).map (·.1)).Nodup
 |[],_=>by simp[vQ]
 |e::es,h=>by
  obtain⟨h1,h2⟩:=List.nodup_cons.1 (show(e.1::es.map (·.1)).Nodup from h)
  rw[vQ]
  split
  ·rename_i he
   refine List.nodup_cons.2 ⟨?_,h2⟩
   show q∉_
   rw[<-he];exact h1
  ·rename_i he
   refine List.nodup_cons.2 ⟨fun hc=>?_,GI q v h2⟩
   rcases Eu hc with h3|h3
   ·exact he h3
   ·exact h1 h3
theorem L5 {q:ar} {x:En}:∀{es:List En},x.1≠q->(x∈DD es q↔x∈es)
 |[],_=>Iff.rfl
 |e::es,h=>by
  have ih:=@L5 q x es h
  rw[DD]
  split
  ·rename_i he
   rw[List.mem_cons]
   exact⟨.inr,fun h1=>h1.elim (fun e'=>absurd (by rw[e'];exact he) h) id⟩
  ·rw[List.mem_cons,List.mem_cons,ih]
theorem DE {q:ar}:∀{es:List En},(DD es q).Sublist es
 |[]=>List.Sublist.slnil
 |e::es=>by
  rw[DD]
  split
  ·exact List.sublist_cons_self _ _
  ·exact(DE (es:=es)).cons_cons _
theorem Q7 (q:ar) {es:List En} (h:(es.map (·.1)).Nodup):((DD es q).map (·.1)).Nodup:=((DE (q:=q) (es:=es)).map _).nodup h
theorem N8 {q:ar}:∀{es:List En},(es.map (·.1)).Nodup->∀e∈DD es q,e.1≠q
 |[],_,e,h=>by cases h
 |x::es,hn,e,h=>by
  obtain⟨h1,h2⟩:=List.nodup_cons.1 (show(x.1::es.map (·.1)).Nodup from hn)
  rw[DD]at h
  split at h
  ·rename_i hx
   intro he
   exact h1 (by rw[hx,<-he];exact List.mem_map_of_mem h)
  ·rename_i hx
   rcases List.mem_cons.1 h with rfl|h
   ·exact hx
   ·exact N8 h2 e h
structure OpS (g:Rows) (n:Nat) (es:List En) (fs:ar->List Int) (A:ar->Prop):Prop where
 nodup:(es.map (·.1)).Nodup
 at_:∀q,A q->(fs q=[]/\∀e∈es,e.1≠q)∨(fs q≠[]/\∃o:Id,(q,AV.own o 0 (fs q).length)∈es/\o.bt<n/\g o=some ⟨true,1,(fs q).map aJ⟩)
theorem bind_some {s:ay} {F:ar->Int} {p:ar} {t:Int}:∀d:Nat,0<dr s F p t d->∃k:Nat,k<d/\0<=F (dq p k)
 |0,h=>by simp[dr]at h
 |d+1,h=>by
  by_cases h0:0<=F (dq p d)
  ·exact⟨d,Nat.lt_succ_self d,h0⟩
  ·rw[dr,if_neg h0,Int.add_zero]at h
   obtain⟨k,hk,h1⟩:=bind_some d h
   exact⟨k,Nat.lt_succ_of_lt hk,h1⟩
end Go.Proofs.YtiabgllilcfheaaGreat.V

namespace Go.Proofs.YtiabgllilcfheaaGreat.V
open Go.RowKit
attribute [local irreducible] er wpOps fY Call
attribute [local go_sem] aF fC eR fN fK du upd cw K.av cQ AV.cells AV.cell rowOf rowsOf part ld rowAt bK cq dH dX gG bP dd eh fJ fa dw ea db da dM dP bV bd cU bU cW cV dV eb dZ cR bY dc dY bQ aD cY cF gF bD cL bW aY dn bj dI AV.undef bH bJ dQ dW dL dK cK ef eo cz ee ec cX cZ List.getD_cons_zero List.getD_cons_succ List.getD_nil List.all_cons List.all_nil Bool.and_true Bool.true_and Bool.and_self Bool.not_true Bool.not_false Option.map_some Option.map_none Option.bind_some Option.bind_none List.length_cons List.length_nil List.take_succ_cons List.take_zero List.take_nil List.drop_succ_cons List.drop_zero List.drop_nil List.head?_cons List.map_cons List.map_nil List.getElem?_cons_zero List.getElem?_cons_succ List.cons_append List.nil_append List.append_nil List.length_map List.set_cons_zero List.set_cons_succ Nat.reduceMul eq_self Int.toNat_natCast Int.natCast_nonneg and_self true_and and_true decide_true decide_false Bool.false_eq_true Nat.zero_add Nat.add_zero List.contains_cons List.contains_nil Bool.or_false Bool.false_or beq_self_eq_true Nat.reduceBEq ne_eq not_true_eq_false not_false_eq_true Id.mk.injEq false_and and_false Nat.reduceLT Int.reduceLE Int.reduceLT Int.reduceToNat Int.reduceNeg Int.reduceAdd Nat.le_refl List.length_append beq_true beq_false Bool.not_eq_eq_eq_not or_false false_or eu ai aj aP bh bZ cm aW bx aK bf cP bI
def qx (s:ay) (F:ar->Int) (p:ar) (d:Nat):Int:=if F (dq p d)<0 then 0 else ei (ej s (F (dq p d))) (tp d)
def qy (s:ay) (F:ar->Int) (p:ar) (k:Nat):List Int:=(List.range k).map (qx s F p)
theorem DR (s:ay) (F:ar->Int) (p:ar) (k:Nat):(qy s F p k).length=k:=by simp[qy]
theorem IX (s:ay) (F:ar->Int) (p:ar) (k:Nat):qy s F p (k+1)=qy s F p k++[qx s F p k]:=by simp[qy,List.range_succ]
theorem Ld {s:ay} {F:ar->Int} {p:ar} {k d:Nat} (h:d<k):((qy s F p k).map aJ)[d]? =some [.int .i64 (qx s F p d)]:=by simp[qy,h,aJ]
theorem IS {s:ay} (hF:jV s) {F:ar->Int} (hT:∀q,0<=F q->eU s (F q)=true) {p:ar} {t:Int} (ht:eU s t=true) {d:Nat} (hd:d<4):
  dr s F p t (d+1)=if ei (ej s t) d=qx s F p d then dr s F p t d+sf s (qx s F p d)else dr s F p t d:=by
 rw[dr]
 unfold qx
 by_cases h0:F (dq p d)<0
 ·rw[if_neg ae,if_pos h0]
  have:sf s 0=0:=if_pos rfl
  rw[this,Int.add_zero]
  split<;>rfl
 ·rw[if_pos ae,if_neg h0]
  unfold iI
  split
  ·rename_i e;rw[e]
  ·rw[Int.add_zero]
theorem Oh {s:ay} (hF:jV s) {F:ar->Int} (hT:∀q,0<=F q->eU s (F q)=true) (p:ar) {d:Nat} (hd:d<4):0<=qx s F p d/\qx s F p d<=s.br.length:=by
 unfold qx
 split
 ·exact⟨Int.le_refl _,ae⟩
 ·rename_i h0
  obtain⟨_,_,a2⟩:=lx (hT _ (by omega:0<=F (dq p d)))
  exact hF.wG _ a2 _ (zw (hF.qP _ a2) (tq (jo ae)))
noncomputable def BJ (s:ay) (l:List aa) (T:Int) (p:ar) (t:Int):Bool:=decide (T<=nL s (fe l) p t)
theorem NY {s:aw} {l:List aa} {p:ar} (h:Hh l p) (hA:gH s.aZ l) (t:Int):fW s l p t=BJ s.aZ l s.aX p t:=by
 obtain⟨h1,h2,_⟩:=h
 simp[fW,BJ,h1,(BI hA p).2 h2]
theorem O1 (s:ay) (hS:iF s) (l:List aa) (hA:gH s l) (p:ar) (hx:iB p.fP) (hy:iB p.fE) (T:Int):
  au Tryz.prog 86 [.dv (ad s),.dv [.sl (l.map ab)],.agg (ah p),.int .i64 T] (.sl ((xg (BJ s l T) p s.aq.length).map aJ)):=by
 refine au.body fF rfl fun jc n0=>?_
 clear jc
 have hF:=hS.form
 have NK:=hS.Bw
 have Lg:∀q,0<=fe l q->eU s (fe l q)=true:=iF.KF hA
 (try((repeat(revert hN;revert N;apply Pn.out));refine wk @ah.eq_1 ?_;(repeat(refine Pn.mk ?_;intro N hN))))
 refine bz (fun n env st=>∃k:Nat,n=(4)-k/\k<=(4)/\env 10=.int .i64 (k:Int)/\st.get ⟨86000000,n0⟩=some ⟨true,2,[ah p]⟩/\(n0+2<=st.next/\∃o:Id,env 9=.own o 0 k/\st.get o=some ⟨true,1,(qy s (fe l) p k).map aJ⟩/\n0<o.bt/\o.bt<st.next)) (4) ⟨0,ae,ae,sl @ah.eq_1,sl @ah.eq_1,by(try dsimp only);exact⟨ae,⟨86001000,n0+1⟩,sl @Nat.zero_add,sl @Nat.zero_add,aU,aU⟩⟩ ?_
 rintro n_a env_a st_a ⟨k,rfl,ale,rQ,ag0,oh⟩ eJ
 have a0:=eJ 0 (by kernel_rfl);have a1:=eJ 1 (by kernel_rfl);have a3:=eJ 3 (by kernel_rfl);have a6:=eJ 6 (by kernel_rfl)
 simp only[go_sem, ↓reduceIte,Nat.reduceEqDiff,Nat.reduceAdd,Nat.reduceSub,Nat.reduceLeDiff,reduceCtorEq,ah]at a0 a1 a3 a6
 clear eJ
 obtain⟨an,o,a9,ag,KE,aox⟩:=oh
 have vo:=dj aox
 have vb:=dj (i:=⟨86000000,n0⟩) (n:=st_a.next) aU
 have ob:=dp (a:=⟨86000000,n0⟩) (b:=o) aU
 by_cases hk:(k:Int)<4
 ·have dx:∀{e:Env} {gg:Rows} {nx:Nat},(e 10=.int .i64 (IntKind.i64.wrap ((k:Int)+1)))->(gg ⟨86000000,n0⟩=some ⟨true,2,[ah p]⟩)->(n0+2<=nx/\∃o:Id,e 9=.own o 0 (k+1)/\gg o=some ⟨true,1,(qy s (fe l) p (k+1)).map aJ⟩/\n0<o.bt/\o.bt<nx)->∃m0,m0<(4)-k/\∃k:Nat,m0=(4)-k/\k<=(4)/\e 10=.int .i64 (k:Int)/\gg ⟨86000000,n0⟩=some ⟨true,2,[ah p]⟩/\(n0+2<=nx/\∃o:Id,e 9=.own o 0 k/\gg o=some ⟨true,1,(qy s (fe l) p k).map aJ⟩/\n0<o.bt/\o.bt<nx):=fun x1 x2 x3=>⟨_,ae,k+1,rfl,ae,(by rw[x1,az ae]),x2,x3⟩
  have hd:js (k:Int) 0 3=true:=jo ae
  have ev:=rl p k hd hx hy
  have pI:=xO l (dq p k) hA.1.om (by have:=hA.1.nO;omega)
  rw[ah]at ev pI
  have gp:((qy s (fe l) p k).map aJ).length=k:=by rw[List.length_map,DR]
  have tC:k<=16777215:=ae
  have Nz:=IX s (fe l) p k
  have uP:(qy s (fe l) p (k+1)).map aJ=(qy s (fe l) p k).map aJ++[[.int .i64 (qx s (fe l) p k)]]:=by rw[Nz,List.map_append];rfl
  by_cases h0:fe l (dq p k)<0
  ·have tz:qx s (fe l) p k=0:=if_pos h0
   rw[tz]at uP
   (repeat(first|((repeat(revert hN;revert N;apply Pn.out));refine wk (tw @rQ (tw @ag0 (tw @a0 (tw @a1 (tw @a3 (tw @a6 (tw @hk (tw @a9 (tw @ag (tw @vo (tw @vb (tw @ob (tw @gp (tw @tC (tw @h0 @ah.eq_1))))))))))))))) ?_;(repeat(refine Pn.mk ?_;intro N hN)))|((try apply Or.inl);refine⟨_,au.x (ev) (sd (tw @rQ (tw @ag0 (tw @a0 (tw @a1 (tw @a3 (tw @a6 (tw @hk (tw @a9 (tw @ag (tw @vo (tw @vb (tw @ob (tw @gp (tw @tC (tw @h0 @ah.eq_1)))))))))))))))),?_⟩;refine hN _ _ ?_;clear hN N)|((try apply Or.inl);refine⟨_,au.x (pI) (sd (tw @rQ (tw @ag0 (tw @a0 (tw @a1 (tw @a3 (tw @a6 (tw @hk (tw @a9 (tw @ag (tw @vo (tw @vb (tw @ob (tw @gp (tw @tC (tw @h0 @ah.eq_1)))))))))))))))),?_⟩;refine hN _ _ ?_;clear hN N)))
   refine dx ?_ ?_ (by(try dsimp only);exact⟨ae,⟨86007002,st_a.next+1+1+1⟩,sl @Nat.zero_add,by rw[uP];simp only[go_sem, ↓reduceIte,Nat.reduceEqDiff,Nat.reduceAdd,Nat.reduceSub,Nat.reduceLeDiff,reduceCtorEq]<;>rfl,aU,aU⟩)
   all_goals simp only[go_sem, ↓reduceIte,Nat.reduceEqDiff,Nat.reduceAdd,Nat.reduceSub,Nat.reduceLeDiff,reduceCtorEq,rQ,ag0,a0,a1,a3,a6,vb,ob,ah]
  ·have tz:qx s (fe l) p k=ei (ej s (fe l (dq p k))) (tp k):=if_neg h0
   rw[tz]at uP
   obtain⟨b0,b1,b2⟩:=lx (Lg _ (by omega:0<=fe l (dq p k)))
   have s2:=ml (hF.qP _ b2) (tq hd)
   have d1:=(eL (tq hd)).1
   have eS:=ya k hd
   (repeat(first|((repeat(revert hN;revert N;apply Pn.out));refine wk (tw @rQ (tw @ag0 (tw @a0 (tw @a1 (tw @a3 (tw @a6 (tw @hk (tw @a9 (tw @ag (tw @vo (tw @vb (tw @ob (tw @gp (tw @tC (tw @h0 (tw @b0 (tw @b1 (tw @s2 (tw @d1 (tw @ah.eq_1 (tw @ad.eq_1 @dD.eq_1))))))))))))))))))))) ?_;(repeat(refine Pn.mk ?_;intro N hN)))|((try apply Or.inl);refine⟨_,au.x (ev) (sd (tw @rQ (tw @ag0 (tw @a0 (tw @a1 (tw @a3 (tw @a6 (tw @hk (tw @a9 (tw @ag (tw @vo (tw @vb (tw @ob (tw @gp (tw @tC (tw @h0 (tw @b0 (tw @b1 (tw @s2 (tw @d1 (tw @ah.eq_1 (tw @ad.eq_1 @dD.eq_1)))))))))))))))))))))),?_⟩;refine hN _ _ ?_;clear hN N)|((try apply Or.inl);refine⟨_,au.x (pI) (sd (tw @rQ (tw @ag0 (tw @a0 (tw @a1 (tw @a3 (tw @a6 (tw @hk (tw @a9 (tw @ag (tw @vo (tw @vb (tw @ob (tw @gp (tw @tC (tw @h0 (tw @b0 (tw @b1 (tw @s2 (tw @d1 (tw @ah.eq_1 (tw @ad.eq_1 @dD.eq_1)))))))))))))))))))))),?_⟩;refine hN _ _ ?_;clear hN N)|((try apply Or.inl);refine⟨_,au.x (eS) (sd (tw @rQ (tw @ag0 (tw @a0 (tw @a1 (tw @a3 (tw @a6 (tw @hk (tw @a9 (tw @ag (tw @vo (tw @vb (tw @ob (tw @gp (tw @tC (tw @h0 (tw @b0 (tw @b1 (tw @s2 (tw @d1 (tw @ah.eq_1 (tw @ad.eq_1 @dD.eq_1)))))))))))))))))))))),?_⟩;refine hN _ _ ?_;clear hN N)))
   refine dx ?_ ?_ (by(try dsimp only);exact⟨ae,⟨86008014,st_a.next+1+1+1⟩,sl @Nat.zero_add,by rw[uP];simp only[go_sem, ↓reduceIte,Nat.reduceEqDiff,Nat.reduceAdd,Nat.reduceSub,Nat.reduceLeDiff,reduceCtorEq]<;>rfl,aU,aU⟩)
   all_goals simp only[go_sem, ↓reduceIte,Nat.reduceEqDiff,Nat.reduceAdd,Nat.reduceSub,Nat.reduceLeDiff,reduceCtorEq,rQ,ag0,a0,a1,a3,a6,vb,ob,ah]
 ·have hk4:k=4:=ae
  subst hk4
  (try((repeat(revert hN;revert N;apply Pn.out));refine wk (tw @rQ (tw @ag0 (tw @a0 (tw @a1 (tw @a3 (tw @a6 (tw @hk @ad.eq_1))))))) ?_;(repeat(refine Pn.mk ?_;intro N hN))))
  refine bz (fun n env st=>∃i:Nat,n=(s.aq.length)-i/\i<=(s.aq.length)/\env 13=.int .i64 (i:Int)/\(st_a.next<=st.next/\st.get o=some ⟨true,1,(qy s (fe l) p 4).map aJ⟩/\∃u:Id,env 12=.own u 0 (xg (BJ s l T) p i).length/\st.get u=some ⟨true,1,(xg (BJ s l T) p i).map aJ⟩/\st_a.next<=u.bt/\u.bt<st.next)) (s.aq.length) ⟨0,ae,ae,sl (tw @rQ (tw @ag0 (tw @a0 (tw @a1 (tw @a3 (tw @a6 (tw @a9 @ad.eq_1))))))),by(try dsimp only);exact⟨ae,sd (tw @vo @ag),⟨86009000,st_a.next+1⟩,sl @Nat.zero_add,sl @Nat.zero_add,aU,aU⟩⟩ ?_
  rintro n_b env_b st_b ⟨i,rfl,ble,b13,bI0⟩ eW
  have b0:=eW 0 (by kernel_rfl);have b1:=eW 1 (by kernel_rfl);have b3:=eW 3 (by kernel_rfl);have b9:=eW 9 (by kernel_rfl)
  simp only[go_sem, ↓reduceIte,Nat.reduceEqDiff,Nat.reduceAdd,Nat.reduceSub,Nat.reduceLeDiff,reduceCtorEq,rQ,ag0,a0,a1,a3,a6,a9,ad]at b0 b1 b3 b9
  clear eW
  obtain⟨bn,bo,u,Fp,bu,bum,bux⟩:=bI0
  have vob:=dj (i:=o) (n:=st_b.next) ae
  have vub:=dj bux
  have Lo:=BZ (BJ s l T) p i
  have ou:=dp (a:=o) (b:=u) ae
  by_cases hi:(i:Int)<(s.aq.length:Int)
  ·have fh:∀{e:Env} {gg:Rows} {nx:Nat},(e 13=.int .i64 (IntKind.i64.wrap ((i:Int)+1)))->(st_a.next<=nx/\gg o=some ⟨true,1,(qy s (fe l) p 4).map aJ⟩/\∃u:Id,e 12=.own u 0 (xg (BJ s l T) p (i+1)).length/\gg u=some ⟨true,1,(xg (BJ s l T) p (i+1)).map aJ⟩/\st_a.next<=u.bt/\u.bt<nx)->∃m0,m0<(s.aq.length)-i/\∃i:Nat,m0=(s.aq.length)-i/\i<=(s.aq.length)/\e 13=.int .i64 (i:Int)/\(st_a.next<=nx/\gg o=some ⟨true,1,(qy s (fe l) p 4).map aJ⟩/\∃u:Id,e 12=.own u 0 (xg (BJ s l T) p i).length/\gg u=some ⟨true,1,(xg (BJ s l T) p i).map aJ⟩/\st_a.next<=u.bt/\u.bt<nx):=fun x1 x2=>⟨_,ae,i+1,rfl,ae,(by rw[x1,az ae]),x2⟩
   have fU:i<s.aq.length:=ae
   have htb:=Fc fU
   obtain⟨t0,t1,t2⟩:=lx htb
   rw[Int.toNat_natCast]at t1
   have Ki:dr s (fe l) p i 0=0:=rfl
   (try((repeat(revert hN;revert N;apply Pn.out));refine wk (tw @b13 (tw @b0 (tw @b1 (tw @b3 (tw @b9 @hi))))) ?_;(repeat(refine Pn.mk ?_;intro N hN))))
   refine bz (fun n env st=>∃j:Nat,n=(4)-j/\j<=(4)/\env 15=.int .i64 (j:Int)/\env 14=.int .i64 (dr s (fe l) p i j)/\(st_b.next<=st.next/\∀x:Id,x.bt<st_b.next->st.get x=st_b.get x)) (4) ⟨0,ae,ae,sl (tw @b13 (tw @b0 (tw @b1 (tw @b3 (tw @b9 (tw @a9 (tw @Ki @ad.eq_1))))))),sl (tw @b13 (tw @b0 (tw @b1 (tw @b3 (tw @b9 (tw @a9 (tw @Ki @ad.eq_1))))))),by(try dsimp only);exact⟨ae,fun x hx=>by
    have h1:=dj hx
    simp only[go_sem, ↓reduceIte,Nat.reduceEqDiff,Nat.reduceAdd,Nat.reduceSub,Nat.reduceLeDiff,reduceCtorEq,h1]⟩⟩ ?_
   rintro n_c env_c st_c ⟨j,rfl,cle,c15,c14,cI0⟩ iV
   have c0:=iV 0 (by kernel_rfl);have c3:=iV 3 (by kernel_rfl);have c9:=iV 9 (by kernel_rfl);have qi:=iV 12 (by kernel_rfl);have FJ:=iV 13 (by kernel_rfl)
   simp only[go_sem, ↓reduceIte,Nat.reduceEqDiff,Nat.reduceAdd,Nat.reduceSub,Nat.reduceLeDiff,reduceCtorEq,b13,b0,b1,b3,b9,a9,Ki,ad]at c0 c3 c9 qi FJ
   clear iV
   obtain⟨cn,iV⟩:=cI0
   have go:=(iV o ae).trans bo
   have gu:=(iV u bux).trans bu
   have WD:=dj (i:=o) (n:=st_c.next) ae
   have vuc:=dj (i:=u) (n:=st_c.next) ae
   by_cases hj:(j:Int)<4
   ·have gQ:∀{e:Env} {gg:Rows} {nx:Nat},(e 15=.int .i64 (IntKind.i64.wrap ((j:Int)+1)))->(e 14=.int .i64 (dr s (fe l) p i (j+1)))->(st_b.next<=nx/\∀x:Id,x.bt<st_b.next->gg x=st_b.get x)->∃m0,m0<(4)-j/\∃j:Nat,m0=(4)-j/\j<=(4)/\e 15=.int .i64 (j:Int)/\e 14=.int .i64 (dr s (fe l) p i j)/\(st_b.next<=nx/\∀x:Id,x.bt<st_b.next->gg x=st_b.get x):=fun x1 x2 x3=>⟨_,ae,j+1,rfl,ae,(by rw[x1,az ae]),x2,x3⟩
    have hdj:js (j:Int) 0 3=true:=jo ae
    have Uo:(j:Int)<((4:Nat):Int):=ae
    have s1:=ml (hF.qP _ t2) hdj
    rw[Int.toNat_natCast]at s1
    have VI:=Ld (s:=s) (F:=fe l) (p:=p) (k:=4) (d:=j) ae
    have uN:((qy s (fe l) p 4).map aJ).length=4:=by rw[List.length_map,DR]
    have ev:=IS hF Lg (p:=p) htb (d:=j) ae
    have gK:=jW hS (fe l) p i (j+1)
    have Oq:=jW hS (fe l) p i j
    have jb:=Oh hF Lg p (d:=j) ae
    have XC:=sD s (qx s (fe l) p j) jb.1 jb.2
    rw[ad]at XC
    by_cases he:ei (ej s i) j=qx s (fe l) p j
    ·have HF:decide (ei (ej s i) j=qx s (fe l) p j)=true:=decide_eq_true he
     rw[if_pos he]at ev
     have hw:IntKind.i64.wrap (dr s (fe l) p i j+sf s (qx s (fe l) p j))=dr s (fe l) p i (j+1):=by rw[<-ev,cD ae]
     (repeat(first|((repeat(revert hN;revert N;apply Pn.out));refine wk (tw @c15 (tw @c14 (tw @c0 (tw @c3 (tw @c9 (tw @qi (tw @FJ (tw @hj (tw @Uo (tw @t1 (tw @s1 (tw @VI (tw @go (tw @WD (tw @HF (tw @ad.eq_1 @dD.eq_1)))))))))))))))) ?_;(repeat(refine Pn.mk ?_;intro N hN)))|((try apply Or.inl);refine⟨_,au.x (XC) (sd (tw @c15 (tw @c14 (tw @c0 (tw @c3 (tw @c9 (tw @qi (tw @FJ (tw @hj (tw @Uo (tw @t1 (tw @s1 (tw @VI (tw @go (tw @WD (tw @HF (tw @ad.eq_1 @dD.eq_1))))))))))))))))),?_⟩;refine hN _ _ ?_;clear hN N)))
     refine gQ ?_ ?_ (by(try dsimp only);exact⟨ae,fun x hx=>by exact iV x hx⟩)
     all_goals simp only[go_sem, ↓reduceIte,Nat.reduceEqDiff,Nat.reduceAdd,Nat.reduceSub,Nat.reduceLeDiff,reduceCtorEq,c15,c14,c0,c3,c9,qi,FJ,hw,ad]
    ·have HF:decide (ei (ej s i) j=qx s (fe l) p j)=false:=decide_eq_false he
     rw[if_neg he]at ev
     (try((repeat(revert hN;revert N;apply Pn.out));refine wk (tw @c15 (tw @c14 (tw @c0 (tw @c3 (tw @c9 (tw @qi (tw @FJ (tw @hj (tw @Uo (tw @t1 (tw @s1 (tw @VI (tw @go (tw @WD (tw @HF (tw @ad.eq_1 @dD.eq_1)))))))))))))))) ?_;(repeat(refine Pn.mk ?_;intro N hN))))
     refine gQ ?_ ?_ (by(try dsimp only);exact⟨ae,fun x hx=>by exact iV x hx⟩)
     all_goals simp only[go_sem, ↓reduceIte,Nat.reduceEqDiff,Nat.reduceAdd,Nat.reduceSub,Nat.reduceLeDiff,reduceCtorEq,c15,c14,c0,c3,c9,qi,FJ,ev,ad]
   ·have hj4:j=4:=ae
    subst hj4
    have jB:dr s (fe l) p i 4=nL s (fe l) p i:=rfl
    have rf:xg (BJ s l T) p (i+1)=if BJ s l T p i=true then xg (BJ s l T) p i++[(i:Int)]else xg (BJ s l T) p i:=rfl
    have qz:BJ s l T p i=decide (T<=nL s (fe l) p i):=rfl
    generalize xg (BJ s l T) p i=L at rf Fp bu Lo gu
    cases hb:BJ s l T p i
    ·rw[hb,if_neg (by simp)]at rf
     rw[hb]at qz
     (try((repeat(revert hN;revert N;apply Pn.out));refine wk (tw @c15 (tw @c14 (tw @c0 (tw @c3 (tw @c9 (tw @qi (tw @FJ (tw @hj (tw @jB @qz.symm))))))))) ?_;(repeat(refine Pn.mk ?_;intro N hN))))
     exact fh (sd (tw @b13 (tw @b0 (tw @b1 (tw @b3 (tw @b9 (tw @c15 (tw @c14 (tw @c0 (tw @c3 (tw @c9 (tw @qi (tw @FJ @ad.eq_1))))))))))))) (by(try dsimp only);exact⟨ae,go,⟨u,by rw[rf];simp only[go_sem, ↓reduceIte,Nat.reduceEqDiff,Nat.reduceAdd,Nat.reduceSub,Nat.reduceLeDiff,reduceCtorEq,c15,c14,c0,c3,c9,qi,FJ,Fp],by rw[rf];simp only[go_sem, ↓reduceIte,Nat.reduceEqDiff,Nat.reduceAdd,Nat.reduceSub,Nat.reduceLeDiff,reduceCtorEq,gu],ae,aU⟩⟩)
    ·rw[hb,if_pos rfl]at rf
     rw[hb]at qz
     have gp:(L.map aJ).length=L.length:=by simp
     have W8:L.length<=16777215:=ae
     have wJ:(L++[(i:Int)]).length=L.length+1:=by simp
     have l6:(L++[(i:Int)]).map aJ=L.map aJ++[[.int .i64 i]]:=by rw[List.map_append];rfl
     (try((repeat(revert hN;revert N;apply Pn.out));refine wk (tw @c15 (tw @c14 (tw @c0 (tw @c3 (tw @c9 (tw @qi (tw @FJ (tw @hj (tw @jB (tw @qz.symm (tw @Fp (tw @gu (tw @vuc (tw @gp (tw @W8 (tw @WD @ou)))))))))))))))) ?_;(repeat(refine Pn.mk ?_;intro N hN))))
     exact fh (sd (tw @b13 (tw @b0 (tw @b1 (tw @b3 (tw @b9 (tw @c15 (tw @c14 (tw @c0 (tw @c3 (tw @c9 (tw @qi (tw @FJ @ad.eq_1))))))))))))) (by(try dsimp only);exact⟨ae,sd (tw @go (tw @WD @ou)),⟨⟨86020003,st_c.next+1+1⟩,by rw[rf,wJ];simp only[go_sem, ↓reduceIte,Nat.reduceEqDiff,Nat.reduceAdd,Nat.reduceSub,Nat.reduceLeDiff,reduceCtorEq]<;>rfl,by rw[rf,l6];simp only[go_sem, ↓reduceIte,Nat.reduceEqDiff,Nat.reduceAdd,Nat.reduceSub,Nat.reduceLeDiff,reduceCtorEq]<;>rfl,aU,aU⟩⟩)
  ·have l5:i=s.aq.length:=ae
   subst l5
   (try((repeat(revert hN;revert N;apply Pn.out));refine wk (tw @b13 (tw @b0 (tw @b1 (tw @b3 (tw @b9 (tw @hi @Fp)))))) ?_;(repeat(refine Pn.mk ?_;intro N hN))))
   exact pw (.inl rfl) (vs:=[.own u 0 (xg (BJ s l T) p s.aq.length).length]) (sd @Fp) (by
    simp only[gx]
    exact eE (e:=aJ) (n:=5) bu rfl fun x=>by simp[aJ,bF,cH,eK])
noncomputable def FV (s:aw) (ts:List aa) (q:ar):List Int:=xg (fW s ts) q s.aZ.aq.length
def LookS (σ:ax) (O:Id) (s:aw) (ts:List aa) (A:ar->Prop) (g:Rows) (n:Nat):Prop:=σ.next<=n/\(∀x:Id,x.bt<σ.next->x≠O->g x=σ.get x)/\∃es:List En,g O=some ⟨true,mP.pU,es.map eEn⟩/\OpS g n es (FV s ts) A
theorem ZW:¬mP.pU=1:=by decide
structure CryS (g:Rows) (n:Nat) (c T O:Id) (s:aw) (ts:List aa):Prop where
 o:mB g n c T O s ts
 op:∃es:List En,g O=some ⟨true,mP.pU,es.map eEn⟩/\OpS g n es (FV s ts) (fun _=>True)
end Go.Proofs.YtiabgllilcfheaaGreat.V

namespace Go.Proofs.YtiabgllilcfheaaGreat.V
open Go.RowKit Go.Shelf
attribute [local go_sem] Oper.semAt_some
section
variable {F:Fence} {n:Nat} {P:Program} {ops:Array Oper} {Q:Exit->Act->World->Prop} {rest:List Oper} {a:Act} {w:World} {o:Oper}
end
end Go.Proofs.YtiabgllilcfheaaGreat.V

namespace Go.Proofs.YtiabgllilcfheaaGreat.V
open Go.RowKit
end Go.Proofs.YtiabgllilcfheaaGreat.V

namespace Go.Proofs.YtiabgllilcfheaaGreat.V
open Go.RowKit
attribute [local irreducible] er wpOps fY Call
attribute [local go_sem] aF fC eR fN fK du upd cw K.av cQ AV.cells AV.cell rowOf rowsOf part ld rowAt bK cq dH dX gG bP dd eh fJ fa dw ea db da dM dP bV bd cU bU cW cV dV eb dZ cR bY dc dY bQ aD cY cF gF bD cL bW aY dn bj dI AV.undef bH bJ dQ dW dL dK cK ef eo cz ee ec cX cZ List.getD_cons_zero List.getD_cons_succ List.getD_nil List.all_cons List.all_nil Bool.and_true Bool.true_and Bool.and_self Bool.not_true Bool.not_false Option.map_some Option.map_none Option.bind_some Option.bind_none List.length_cons List.length_nil List.take_succ_cons List.take_zero List.take_nil List.drop_succ_cons List.drop_zero List.drop_nil List.head?_cons List.map_cons List.map_nil List.getElem?_cons_zero List.getElem?_cons_succ List.cons_append List.nil_append List.append_nil List.length_map List.set_cons_zero List.set_cons_succ Nat.reduceMul eq_self Int.toNat_natCast Int.natCast_nonneg and_self true_and and_true decide_true decide_false Bool.false_eq_true Nat.zero_add Nat.add_zero List.contains_cons List.contains_nil Bool.or_false Bool.false_or beq_self_eq_true Nat.reduceBEq ne_eq not_true_eq_false not_false_eq_true Id.mk.injEq false_and and_false Nat.reduceLT Int.reduceLE Int.reduceLT Int.reduceToNat Int.reduceNeg Int.reduceAdd Nat.le_refl List.length_append beq_true beq_false Bool.not_eq_eq_eq_not or_false false_or eu ai aj aP bh bZ cm aW bx aK bf cP bI
def GrP (z m:Nat) (L:List aa) (v:AV) (g:Rows) (n:Nat):Prop:=(L=[]/\v=.ck)∨∃u:Id,v=.own u 0 L.length/\g u=some ⟨true,3,L.map ab⟩/\m<=u.bt/\u.bt<n/\0<L.length/\u.site=z
def oO (p:ar) (ks:List Int) (j:Nat):List aa:=(ks.take j).map fun k=>⟨p,k⟩
theorem JJ {p:ar} {ks:List Int} {j:Nat} (h:j<ks.length):oO p ks (j+1)=oO p ks j++[⟨p,ks.getD j 0⟩]:=by
 unfold oO
 rw[List.take_succ_eq_append_getElem h,List.map_append]
 simp[List.getD_eq_getElem?_getD,h]
theorem Mf (p:ar) (ks:List Int):oO p ks ks.length=ks.map fun k=>(⟨p,k⟩:aa):=by unfold oO;rw[List.take_length]
theorem OV {ks:List Int} {j:Nat} (h:j<ks.length):(ks.map aJ)[j]? =some [.int .i64 (ks.getD j 0)]:=by simp[aJ,List.getD_eq_getElem?_getD,h]
theorem Cl (s:aw) (hP:np s) (l:List aa) (hA:gH s.aZ l):au Tryz.prog 51 [.dv (aH s),.dv [.sl (l.map ab)]] (.sl ((BN (fW s l) s.aZ.aq.length (qH l)).map ab)):=by
 refine au.body fF rfl fun jc n0=>?_
 clear jc
 have hS:=hP.set
 have NK:=hS.Bw
 have F8:=hA.1.nO
 have hlen:=tn l l.length
 have wJ:ft l l.length=qH l:=rfl
 rw[wJ]at hlen
 have hnp:∀x∈qH l,Hh l x:=fun x hx=>(JD l x).1 hx
 have hnv:=fun σ=>Jw l hA.1 σ
 clear wJ
 generalize qH l=ps at hlen hnp hnv ⊢
 (try((repeat(revert hN;revert N;apply Pn.out));refine wk @Nat.zero_add ?_;(repeat(refine Pn.mk ?_;intro N hN))))
 refine .inr (aA _ _ _ _ _ (fun r σ1 hq=>?_) (hnv _))
 obtain⟨g1,x1⟩:=σ1
 obtain⟨o0,rfl,q1,q2,q3,q4,q5⟩:=hq
 (try dsimp only at q1 q2 q3 q4 q5)
 have q6:=q5 ⟨51001000,n0+1⟩ aU trivial
 simp only[go_sem, ↓reduceIte,Nat.reduceEqDiff,Nat.reduceAdd,Nat.reduceSub,Nat.reduceLeDiff,reduceCtorEq]at q6
 have on:n0+2<=o0.bt:=by rcases q4 with h|h;omega;exact absurd trivial h
 clear q4 q5
 refine hN _ _ ?_
 clear hN N
 (try((repeat(revert hN;revert N;apply Pn.out));refine wk (tw @q1 @q6) ?_;(repeat(refine Pn.mk ?_;intro N hN))))
 refine bz (fun n env st=>∃k:Nat,n=(ps.length)-k/\k<=(ps.length)/\env 7=.int .i64 (k:Int)/\st.get o0=some ⟨true,2,ps.map ah⟩/\(∃o:Id,env 5=.own o 0 (BN (fW s l) s.aZ.aq.length (ps.take k)).length/\st.get o=some ⟨true,3,(BN (fW s l) s.aZ.aq.length (ps.take k)).map ab⟩/\o.bt<st.next/\o0.bt<st.next/\o≠o0)) (ps.length) ⟨0,ae,ae,sl (tw @q1 @q6),sl (tw @q1 @q6),by(try dsimp only);exact⟨⟨51001000,n0+1⟩,sl @Nat.zero_add,sl @q6,aU,ae,fun e=>by rw[<-e]at on;(try dsimp only at on);omega⟩⟩ ?_
 rintro n_a env_a st_a ⟨k,rfl,ale,a7,ag0,oh⟩ eJ
 have a0:=eJ 0 (by kernel_rfl);have a1:=eJ 1 (by kernel_rfl);have a6:=eJ 6 (by kernel_rfl)
 simp only[go_sem, ↓reduceIte,Nat.reduceEqDiff,Nat.reduceAdd,Nat.reduceSub,Nat.reduceLeDiff,reduceCtorEq,q1,q6]at a0 a1 a6
 clear eJ
 obtain⟨o,a5,ao,KE,P0,Yf⟩:=oh
 have vo:=dj KE
 have v0:=dj P0
 have VR:=eq_false Yf
 have hoo2:=eq_false (fun e:o0=o=>Yf e.symm)
 have hB:(BN (fW s l) s.aZ.aq.length (ps.take k)).length<=10000*160:=by
  have h2:=Hl (fW s l) s.aZ.aq.length (ps.take k)
  have h3:(ps.take k).length*s.aZ.aq.length<=10000*160:=Nat.mul_le_mul (by rw[List.length_take];omega) NK
  omega
 by_cases hk:(k:Int)<(ps.length:Int)
 ·have dx:∀{e:Env} {gg:Rows} {nx:Nat},(e 7=.int .i64 (IntKind.i64.wrap ((k:Int)+1)))->(gg o0=some ⟨true,2,ps.map ah⟩)->(∃o:Id,e 5=.own o 0 (BN (fW s l) s.aZ.aq.length (ps.take (k+1))).length/\gg o=some ⟨true,3,(BN (fW s l) s.aZ.aq.length (ps.take (k+1))).map ab⟩/\o.bt<nx/\o0.bt<nx/\o≠o0)->∃m0,m0<(ps.length)-k/\∃k:Nat,m0=(ps.length)-k/\k<=(ps.length)/\e 7=.int .i64 (k:Int)/\gg o0=some ⟨true,2,ps.map ah⟩/\(∃o:Id,e 5=.own o 0 (BN (fW s l) s.aZ.aq.length (ps.take k)).length/\gg o=some ⟨true,3,(BN (fW s l) s.aZ.aq.length (ps.take k)).map ab⟩/\o.bt<nx/\o0.bt<nx/\o≠o0):=fun x1 x2 x3=>⟨_,ae,k+1,rfl,ae,(by rw[x1,az ae]),x2,x3⟩
  have iR:k<ps.length:=ae
  have gq:=zh iR
  have s5:=hnp _ (H5 iR)
  obtain⟨hx,hy⟩:=qM s5.1
  have pI:=(O1 s.aZ hS l hA (pQ ps k) hx hy s.aX).cut mixed (.ptr _ [.sl (s.cj.aq.map ab),.int .i64 s.aX] (.same _ (.same _ (.same _ .nil))))
  have hfu:xg (BJ s.aZ l s.aX) (pQ ps k) s.aZ.aq.length=FV s l (pQ ps k):=AH (fun t=>(NY s5 hA t).symm) _
  rw[hfu]at pI
  have Uk:=KJ (B:=fW s l) (m:=s.aZ.aq.length) iR
  have gK:Iv (fW s l) (pQ ps k) s.aZ.aq.length=(FV s l (pQ ps k)).map fun t=>(⟨pQ ps k,t⟩:aa):=KI _ _ _
  rw[gK,<-Mf]at Uk
  have NL:(FV s l (pQ ps k)).length<=160:=by
   have:=BZ (fW s l) (pQ ps k) s.aZ.aq.length
   unfold FV;omega
  have Ut:(ps.map ah).length=ps.length:=by simp
  generalize pQ ps k=q at pI Uk gq NL
  generalize FV s l q=us at pI Uk NL
  generalize BN (fW s l) s.aZ.aq.length (ps.take k)=L at a5 ao hB Uk
  rw[ad]at pI
  (repeat(first|((repeat(revert hN;revert N;apply Pn.out));refine wk (tw @a7 (tw @ag0 (tw @a0 (tw @a1 (tw @a6 (tw @hk (tw @gq (tw @v0 (tw @Ut (tw @aH.eq_1 @ah.eq_1)))))))))) ?_;(repeat(refine Pn.mk ?_;intro N hN)))|((try apply Or.inl);refine⟨_,au.x (pI) (sd (tw @a7 (tw @ag0 (tw @a0 (tw @a1 (tw @a6 (tw @hk (tw @gq (tw @v0 (tw @Ut (tw @aH.eq_1 @ah.eq_1))))))))))),?_⟩;refine hN _ _ ?_;clear hN N)))
  refine bz (fun n env st=>∃j:Nat,n=(us.length)-j/\j<=(us.length)/\env 9=.int .i64 (j:Int)/\st.get o0=some ⟨true,2,ps.map ah⟩/\(∃o:Id,env 5=.own o 0 (L++oO q us j).length/\st.get o=some ⟨true,3,(L++oO q us j).map ab⟩/\o.bt<st.next/\o0.bt<st.next/\o≠o0)) (us.length) ⟨0,ae,ae,sl (tw @a7 (tw @ag0 (tw @a0 (tw @a1 @a6)))),sl (tw @a7 (tw @ag0 (tw @a0 (tw @a1 @a6)))),by(try dsimp only);exact⟨o,by rw[show oO q us 0=[]from rfl,List.append_nil];simp only[go_sem, ↓reduceIte,Nat.reduceEqDiff,Nat.reduceAdd,Nat.reduceSub,Nat.reduceLeDiff,reduceCtorEq,a5],by rw[show oO q us 0=[]from rfl,List.append_nil];simp only[go_sem, ↓reduceIte,Nat.reduceEqDiff,Nat.reduceAdd,Nat.reduceSub,Nat.reduceLeDiff,reduceCtorEq,ao,vo],ae,ae,Yf⟩⟩ ?_
  rintro n_b env_b st_b ⟨j,rfl,ble,b9,bg0,bI0⟩ eW
  have b0:=eW 0 (by kernel_rfl);have b1:=eW 1 (by kernel_rfl);have b6:=eW 6 (by kernel_rfl);have b7:=eW 7 (by kernel_rfl);have b8:=eW 8 (by kernel_rfl)
  simp only[go_sem, ↓reduceIte,Nat.reduceEqDiff,Nat.reduceAdd,Nat.reduceSub,Nat.reduceLeDiff,reduceCtorEq,a7,ag0,a0,a1,a6]at b0 b1 b6 b7 b8
  clear eW
  obtain⟨u,b5,bu,buv,P3,Yk⟩:=bI0
  have kU:(L++oO q us j).length<=16777215:=by
   have:(oO q us j).length<=us.length:=by unfold oO;simp;omega
   rw[List.length_append];omega
  have vu:=dj buv
  have v0b:=dj P3
  have hou:=eq_false Yk
  have VT:=eq_false (fun e:o0=u=>Yk e.symm)
  by_cases hj:(j:Int)<(us.length:Int)
  ·have fh:∀{e:Env} {gg:Rows} {nx:Nat},(e 9=.int .i64 (IntKind.i64.wrap ((j:Int)+1)))->(gg o0=some ⟨true,2,ps.map ah⟩)->(∃o:Id,e 5=.own o 0 (L++oO q us (j+1)).length/\gg o=some ⟨true,3,(L++oO q us (j+1)).map ab⟩/\o.bt<nx/\o0.bt<nx/\o≠o0)->∃m0,m0<(us.length)-j/\∃j:Nat,m0=(us.length)-j/\j<=(us.length)/\e 9=.int .i64 (j:Int)/\gg o0=some ⟨true,2,ps.map ah⟩/\(∃o:Id,e 5=.own o 0 (L++oO q us j).length/\gg o=some ⟨true,3,(L++oO q us j).map ab⟩/\o.bt<nx/\o0.bt<nx/\o≠o0):=fun x1 x2 x3=>⟨_,ae,j+1,rfl,ae,(by rw[x1,az ae]),x2,x3⟩
   have oi:j<us.length:=ae
   have rf:=JJ (p:=q) oi
   have D8:=OV oi
   have zJ:L++oO q us (j+1)=(L++oO q us j)++[⟨q,us.getD j 0⟩]:=by rw[rf,List.append_assoc]
   generalize us.getD j 0=t at D8 zJ
   generalize L++oO q us j=M at b5 bu kU zJ
   have wJ:(M++[(⟨q,t⟩:aa)]).length=M.length+1:=by simp
   have l6:(M++[(⟨q,t⟩:aa)]).map ab=M.map ab++[[.int .i64 q.fP,.int .i64 q.fE,.int .i64 t]]:=by rw[List.map_append];rfl
   have gp:(M.map ab).length=M.length:=by simp
   have hmu:(us.map aJ).length=us.length:=by simp
   (try((repeat(revert hN;revert N;apply Pn.out));refine wk (tw @b9 (tw @bg0 (tw @b0 (tw @b1 (tw @b6 (tw @b7 (tw @b8 (tw @b5 (tw @bu (tw @hj (tw @hk (tw @D8 (tw @gq (tw @vu (tw @v0b (tw @hou (tw @VT (tw @Ut (tw @gp (tw @hmu (tw @kU @ah.eq_1))))))))))))))))))))) ?_;(repeat(refine Pn.mk ?_;intro N hN))))
   refine fh ?_ ?_ (by(try dsimp only);exact⟨⟨51010011,st_b.next+1⟩,by rw[zJ,wJ];simp only[go_sem, ↓reduceIte,Nat.reduceEqDiff,Nat.reduceAdd,Nat.reduceSub,Nat.reduceLeDiff,reduceCtorEq]<;>rfl,by rw[zJ,l6];simp only[go_sem, ↓reduceIte,Nat.reduceEqDiff,Nat.reduceAdd,Nat.reduceSub,Nat.reduceLeDiff,reduceCtorEq]<;>rfl,aU,aU,fun e=>by rw[<-e]at P3;(try dsimp only at P3);omega⟩)
   all_goals simp only[go_sem, ↓reduceIte,Nat.reduceEqDiff,Nat.reduceAdd,Nat.reduceSub,Nat.reduceLeDiff,reduceCtorEq,b9,bg0,b0,b1,b6,b7,b8,v0b,VT]
  ·have hju:j=us.length:=ae
   subst hju
   (try((repeat(revert hN;revert N;apply Pn.out));refine wk (tw @b9 (tw @bg0 (tw @b0 (tw @b1 (tw @b6 (tw @b7 (tw @b8 @hj))))))) ?_;(repeat(refine Pn.mk ?_;intro N hN))))
   refine dx ?_ ?_ (by(try dsimp only);exact⟨u,by rw[Uk];simp only[go_sem, ↓reduceIte,Nat.reduceEqDiff,Nat.reduceAdd,Nat.reduceSub,Nat.reduceLeDiff,reduceCtorEq,b5],by rw[Uk];simp only[go_sem, ↓reduceIte,Nat.reduceEqDiff,Nat.reduceAdd,Nat.reduceSub,Nat.reduceLeDiff,reduceCtorEq,bu],ae,ae,Yk⟩)
   all_goals simp only[go_sem, ↓reduceIte,Nat.reduceEqDiff,Nat.reduceAdd,Nat.reduceSub,Nat.reduceLeDiff,reduceCtorEq,a7,ag0,a0,a1,a6,b9,bg0,b0,b1,b6,b7,b8]
 ·have mU:k=ps.length:=ae
  subst mU
  rw[List.take_length]at a5 ao
  (try((repeat(revert hN;revert N;apply Pn.out));refine wk (tw @a7 (tw @ag0 (tw @a0 (tw @a1 (tw @a6 (tw @hk @a5)))))) ?_;(repeat(refine Pn.mk ?_;intro N hN))))
  exact pw (.inl rfl) (vs:=[.own o 0 (BN (fW s l) s.aZ.aq.length ps).length]) (sd @a5) (by
   simp only[gx]
   exact eE (e:=ab) (n:=5) ao rfl fun x=>DP _ 4 x)
end Go.Proofs.YtiabgllilcfheaaGreat.V

namespace Go.Proofs.YtiabgllilcfheaaGreat.V
open Go.RowKit
theorem BM {B:ar->Int->Bool} {p:ar}:∀{t:Nat} {x:aa},x∈Iv B p t->∃k:Nat,k<t/\x=⟨p,k⟩/\B p k=true
 |0,x,h=>by simp[Iv]at h
 |t+1,x,h=>by
  rw[Iv]at h
  split at h
  ·rename_i hb
   rcases List.mem_append.1 h with h|h
   ·obtain⟨k,hk,h1⟩:=BM h
    exact⟨k,ae,h1⟩
   ·exact⟨t,ae,by simpa using h,hb⟩
  ·obtain⟨k,hk,h1⟩:=BM h
   exact⟨k,ae,h1⟩
theorem N0 {B:ar->Int->Bool} {m:Nat} {ps:List ar} {x:aa} (h:x∈BN B m ps):x.aV∈ps/\∃k:Nat,k<m/\x.bp=k/\B x.aV x.bp=true:=by
 obtain⟨p,hp,hx⟩:=List.mem_flatMap.1 h
 obtain⟨k,hk,rfl,hb⟩:=BM hx
 exact⟨hp,k,hk,rfl,hb⟩
noncomputable def ET (s:aw) (l:List aa):List aa:=BN (fW s l) s.aZ.aq.length (qH l)
def JX (fV:List Int) (d n:Nat):Nat:=if fV.length=0 then 0 else(fV.getD (d % fV.length) 0).toNat % n
theorem Ia {fV:List Int} {d n:Nat} (h:0<n):JX fV d n<n:=by
 unfold JX
 split
 ·exact h
 ·exact Nat.mod_lt _ h
noncomputable def F0 (s:aw) (fV:List Int) (steps:Nat):Nat->List aa->Option (List aa)
 |0,es=>some es
 |f+1,es=>if (ET s (gL s es es.length)).length=0 then some es else if steps<=es.length then some es else if 500<=(gL s es es.length).length then none else F0 s fV steps f (es++[aQ (ET s (gL s es es.length)) (JX fV es.length (ET s (gL s es es.length)).length)])
theorem ze {s:aw} {es ds:List aa} {i:Nat} (h:i<=es.length):gL s (es++ds) i=gL s es i:=by
 unfold gL
 rw[List.take_append_of_le_length h]
theorem Mr (s:aw) (es:List aa) (x:aa):gL s (es++[x]) (es.length+1)=iG (gL s es es.length) x:=by
 rw[vP s (es++[x]) (by simp),ze (Nat.le_refl _)]
 congr 1
 simp[aQ]
theorem Mq {es ds:List aa} {i:Nat} (h:i<es.length):aQ (es++ds) i=aQ es i:=by
 simp[aQ,List.getD_eq_getElem?_getD,List.getElem?_append_left h]
theorem GH {s:aw} {es ds:List aa} {i:Nat} (h:i<es.length):oQ s (es++ds) i=oQ s es i:=by
 unfold oQ Wn
 rw[ze ae,Mq h]
theorem Mh {s:aw} {l:List aa} {x:aa} (h:x∈ET s l):eU s.aZ x.bp=true/\fW s l x.aV x.bp=true:=by
 obtain⟨_,k,hk,e,hf⟩:=N0 h
 refine⟨?_,hf⟩
 rw[e]
 exact jo ae
def pc (s:aw) (es:List aa):Prop:=∀j,j<es.length->oQ s es j=true
theorem pc.nil (s:aw):pc s []:=fun j hj=>by simp at hj
theorem pc.add {s:aw} {es:List aa} (h:pc s es) {x:aa} (hx:x∈ET s (gL s es es.length)) (hl:(gL s es es.length).length<500):pc s (es++[x]):=fun j hj=>by
 rw[List.length_append,List.length_singleton]at hj
 by_cases h0:j<es.length
 ·rw[GH h0];exact h j h0
 ·have e:j=es.length:=ae
  subst e
  obtain⟨h1,h2⟩:=Mh hx
  unfold oQ Wn
  rw[ze (Nat.le_refl _),show aQ (es++[x]) es.length=x by simp[aQ],h1,h2]
  simpa using hl
theorem AK {s:aw} {fV:List Int} {steps:Nat}:∀(f:Nat) (es Vd:List aa),pc s es->es.length<=steps->F0 s fV steps f es=some Vd->pc s Vd/\Vd.length<=steps
 |0,es,Vd,h,hl,he=>by
  rw[F0]at he;injection he with he;subst he
  exact⟨h,hl⟩
 |f+1,es,Vd,h,hl,he=>by
  rw[F0]at he
  split at he
  ·injection he with he;subst he;exact⟨h,hl⟩
  ·split at he
   ·injection he with he;subst he;exact⟨h,hl⟩
   ·split at he
    ·cases he
    ·refine AK f _ _ (h.add (fQ (Ia ae)) ae) ?_ he
     rw[List.length_append,List.length_singleton];omega
noncomputable def DT (s:aw) (fV:List Int) (steps:Nat):Option (List aa):=F0 s fV steps 501 []
theorem IY {s:aw} {fV:List Int} {steps:Nat} {es:List aa} (h:DT s fV steps=some es):pc s es/\es.length<=steps:=AK _ _ _ (pc.nil s) (Nat.zero_le _) h
end Go.Proofs.YtiabgllilcfheaaGreat.V

namespace Go.Proofs.YtiabgllilcfheaaGreat.V
open Go.RowKit
attribute [local irreducible] er wpOps fY Call
attribute [local go_sem] aF fC eR fN fK du upd cw K.av cQ AV.cells AV.cell rowOf rowsOf part ld rowAt bK cq dH dX gG bP dd eh fJ fa dw ea db da dM dP bV bd cU bU cW cV dV eb dZ cR bY dc dY bQ aD cY cF gF bD cL bW aY dn bj dI AV.undef bH bJ dQ dW dL dK cK ef eo cz ee ec cX cZ List.getD_cons_zero List.getD_cons_succ List.getD_nil List.all_cons List.all_nil Bool.and_true Bool.true_and Bool.and_self Bool.not_true Bool.not_false Option.map_some Option.map_none Option.bind_some Option.bind_none List.length_cons List.length_nil List.take_succ_cons List.take_zero List.take_nil List.drop_succ_cons List.drop_zero List.drop_nil List.head?_cons List.map_cons List.map_nil List.getElem?_cons_zero List.getElem?_cons_succ List.cons_append List.nil_append List.append_nil List.length_map List.set_cons_zero List.set_cons_succ Nat.reduceMul eq_self Int.toNat_natCast Int.natCast_nonneg and_self true_and and_true decide_true decide_false Bool.false_eq_true Nat.zero_add Nat.add_zero List.contains_cons List.contains_nil Bool.or_false Bool.false_or beq_self_eq_true Nat.reduceBEq ne_eq not_true_eq_false not_false_eq_true Id.mk.injEq false_and and_false Nat.reduceLT Int.reduceLE Int.reduceLT Int.reduceToNat Int.reduceNeg Int.reduceAdd Nat.le_refl List.length_append beq_true beq_false Bool.not_eq_eq_eq_not or_false false_or eu ai aj aP bh bZ cm aW bx aK bf cP bI
noncomputable def oI (s:aw) (l:List aa):Bool:=fw s.cj.aq l&&decide ((jl s l).2.length=l.length)
noncomputable def wU (s:aw) (l:List aa):Bool×Int:=if sI s l then(oI s l,0)else(false,1)
theorem IZ (s:aw) (hP:np s) (l:List aa) (hA:gH s.aZ l):au Tryz.prog 41 [.agg (aH s),.agg [.sl (s.cj.aq.map ab)],.agg [.sl (l.map ab)]] (.bool (oI s l)):=by
 refine au.body fF rfl fun jc n0=>?_
 clear jc
 have h2:=ow s.cj.aq l hP.kQ.1 hA.1
 cases hW:fw s.cj.aq l
 ·have hb:oI s l=false:=by rw[oI,hW];rfl
  rw[hW]at h2
  rw[hb]
  (repeat(first|((repeat(revert hN;revert N;apply Pn.out));refine wk @aH.eq_1 ?_;(repeat(refine Pn.mk ?_;intro N hN)))|((try apply Or.inl);refine⟨_,au.x (h2) (sd @aH.eq_1),?_⟩;refine hN _ _ ?_;clear hN N)))
  exact cu (b:=false) (.inl rfl) (sd @Nat.zero_add) rfl
 ·have hc:=fun σ=>Ep s hP.w l hA hW σ
  have hb:oI s l=decide (((jl s l).2.length:Int)=(l.length:Int)):=by
   rw[oI,hW,Bool.true_and]
   exact decide_eq_decide.2 ae
  obtain⟨d,hd⟩:∃d,decide (((jl s l).2.length:Int)=(l.length:Int))=d:=⟨_,rfl⟩
  rw[hW]at h2
  rw[hb,hd]
  rw[aH]at hc
  (repeat(first|((repeat(revert hN;revert N;apply Pn.out));refine wk @aH.eq_1 ?_;(repeat(refine Pn.mk ?_;intro N hN)))|((try apply Or.inl);refine⟨_,au.x (h2) (sd @aH.eq_1),?_⟩;refine hN _ _ ?_;clear hN N)))
  refine .inr (aA _ _ _ _ _ (fun r σ1 hq=>?_) (hc _))
  obtain⟨g1,x1⟩:=σ1
  obtain⟨v,o,rfl,hv,ho,ho2,ho3,jn⟩:=hq
  (try dsimp only at hv ho ho2 ho3 jn)
  have k3:=jn ⟨41000002,n0⟩ aU
  simp only[go_sem, ↓reduceIte,Nat.reduceEqDiff,Nat.reduceAdd,Nat.reduceSub,Nat.reduceLeDiff,reduceCtorEq]at k3
  have v3:=dj (i:=⟨41000002,n0⟩) (n:=x1) aU
  refine hN _ _ ?_
  clear hN N
  (try((repeat(revert hN;revert N;apply Pn.out));refine wk (tw @k3 (tw @v3 @hd)) ?_;(repeat(refine Pn.mk ?_;intro N hN))))
  exact cu (b:=d) (.inl rfl) (sd @Nat.zero_add) rfl
theorem BC (s:aw) (l:List aa) (hn:jj s.aZ) (hm:Di s) (hl:l.length<=1048576):au Tryz.prog 11 [.agg (aH s),.agg [.sl (l.map ab)]] (.ib [.bool (wU s l).1,.int .i64 (wU s l).2]):=by
 refine au.body fF rfl fun jc n0=>?_
 clear jc
 have h1:=tZ s l hn hm hl
 cases h0:sI s l
 ·have hr:wU s l=(false,1):=by rw[wU,h0];rfl
  rw[h0]at h1
  simp only[Bool.false_eq_true,if_false]at h1
  rw[hr]
  rw[aH]at h1 ⊢
  (repeat(first|((repeat(revert hN;revert N;apply Pn.out));refine wk @Nat.zero_add ?_;(repeat(refine Pn.mk ?_;intro N hN)))|((try apply Or.inl);refine⟨_,au.x (h1) (sd @Nat.zero_add),?_⟩;refine hN _ _ ?_;clear hN N)))
  exact jL (.inl rfl) (r1:=.bool false) (r2:=.int .i64 1) (sd @Nat.zero_add) (sd @Nat.zero_add) (by simp only[fu,bF,cH,fD,eK,Option.map_some])
 ·have hr:wU s l=(oI s l,0):=by rw[wU,h0];rfl
  obtain⟨hP,hA⟩:=qf.1 h0
  rw[h0]at h1
  simp only[if_true]at h1
  rw[hr]
  have h2:=IZ s hP l hA
  generalize oI s l=d at h2 ⊢
  rw[aH]at h1 h2 ⊢
  (repeat(first|((repeat(revert hN;revert N;apply Pn.out));refine wk @Nat.zero_add ?_;(repeat(refine Pn.mk ?_;intro N hN)))|((try apply Or.inl);refine⟨_,au.x (h1) (sd @Nat.zero_add),?_⟩;refine hN _ _ ?_;clear hN N)|((try apply Or.inl);refine⟨_,au.x (h2) (sd @Nat.zero_add),?_⟩;refine hN _ _ ?_;clear hN N)))
  exact jL (.inl rfl) (r1:=.bool d) (r2:=.int .i64 0) (sd @Nat.zero_add) (sd @Nat.zero_add) (by simp only[fu,bF,cH,fD,eK,Option.map_some])
end Go.Proofs.YtiabgllilcfheaaGreat.V

namespace Go.Proofs.YtiabgllilcfheaaGreat.V
open Go.RowKit
def jT (b:List aa) (x:aa):Bool:= !decide (fe b x.aV=x.bp)
def lV (a b:List aa):List aa:=fx (jT b) a
theorem xQ {a b:List aa} {x:aa}:x∈lV a b↔x∈a/\fe b x.aV=x.bp:=by simp[lV,fx,jT]
theorem BU {a b:List aa} (h:jt a):jt (lV a b):=by
 rw[nV]at h ⊢
 exact List.Pairwise.sublist List.filter_sublist h
theorem Hq (a b:List aa):(lV a b).length<=a.length:=Jo _ _
theorem oE {s:ay} {a b:List aa} (hA:gH s a):gH s (lV a b):=NX hA (BU hA.1.om) (fun _ h=>(xQ.1 h).1) (Hq a b)
theorem Q6 {s:ay} {a b:List aa} (hA:gH s a) {x:aa} (h:x∈lV a b):x∈b:=by
 obtain⟨h1,h2⟩:=xQ.1 h
 have h3:=(eL (hA.2 x h1)).1
 obtain⟨y,hy,e1,e2⟩:=Cu (l:=b) (p:=x.aV) ae
 have:y=x:=by cases y;cases x;simp_all
 rw[<-this];exact hy
theorem KW {a:List aa} (h:jt a):lV a a=a:=List.filter_eq_self.2 fun x hx=>by simp[jT,at_mem h hx]
noncomputable def qk (s:aw) (a b:List aa):List aa:=(jl s (lV a b)).2
structure lg (s:aw) (a:List aa):Prop where
 rR:gH s.aZ a
 kQ:fw s.cj.aq a=true
 grown:(jl s a).2=a
theorem JC {s:aw} (hP:np s) {es:List aa} (hG:pc s es):lg s (gL s es es.length):=by
 have hA:=zd hP (es:=es) es.length (Nat.le_refl _) hG
 have hW:fw s.cj.aq (gL s es es.length)=true:=(within_iff hP.kQ hA.1.om).2 fun x hx=>EJ.2 (.inl hx)
 have hI:=lq hP.w hA hW
 refine⟨hA,hW,E4 hI.om hA.1.om fun x=>⟨fun hx=>hI.sub x hx,fun hx=>?_⟩⟩
 exact Bj hP.set (AX hP.w hA hW) hA.1.om (fun y hy=>rh s _ hy) (fun y hy=>EJ.2 (.inr (by rw[List.take_length];exact hy))) hG es.length (Nat.le_refl _) x hx
theorem lW {s:aw} (hP:np s) {a b:List aa} (hA:lg s a) (hB:lg s b):fw s.cj.aq (lV a b)=true:=
 (within_iff hP.kQ (BU hA.rR.1.om)).2 fun x hx=>xQ.2 ⟨(within_iff hP.kQ hA.rR.1.om).1 hA.kQ x hx,at_mem hB.rR.1.om ((within_iff hP.kQ hB.rR.1.om).1 hB.kQ x hx)⟩
theorem lg.Pj {s:aw} (hP:np s) {a:List aa} (h:lg s a):sE s a=0:=by
 rw[sE,qf.2 ⟨hP,h.rR⟩,h.kQ];rfl
theorem yp {s:aw} (hP:np s) {a b:List aa} (hA:lg s a) (hB:lg s b):gH s.aZ (qk s a b):=(lq hP.w (oE hA.rR) (lW hP hA hB)).rR (oE hA.rR)
theorem Hp {s:aw} (hP:np s) {a b:List aa} (hA:lg s a) (hB:lg s b):fw (qk s a b) a=true/\fw (qk s a b) b=true:=by
 have hI:=lq hP.w (oE (b:=b) hA.rR) (lW hP hA hB)
 have hM:=yp hP hA hB
 exact⟨(within_iff hM hA.rR.1.om).2 fun x hx=>(xQ.1 (hI.sub x hx)).1,(within_iff hM hB.rR.1.om).2 fun x hx=>Q6 hA.rR (hI.sub x hx)⟩
theorem ID {s:aw} (hP:np s) {a b:List aa} (hA:lg s a) (hB:lg s b):wU s (qk s a b)=(true,0):=by
 have hM:=yp hP hA hB
 have hI:=lq hP.w (oE (b:=b) hA.rR) (lW hP hA hB)
 have hW:fw s.cj.aq (qk s a b)=true:=(within_iff hP.kQ hI.om).2 fun x hx=>rh s _ hx
 have h:=Gp hP.w (oE (b:=b) hA.rR) (lW hP hA hB)
 rw[wU,qf.2 ⟨hP,hM⟩,if_pos rfl,oI,hW]
 unfold qk
 rw[h]
 simp
theorem IE {s:aw} {a:List aa} (hA:lg s a):qk s a a=a:=by
 rw[qk,KW hA.rR.1.om,hA.grown]
end Go.Proofs.YtiabgllilcfheaaGreat.V

namespace Go.Proofs.YtiabgllilcfheaaGreat.V
open Go.RowKit
attribute [local irreducible] er wpOps fY Call
attribute [local go_sem] aF fC eR fN fK du upd cw K.av cQ AV.cells AV.cell rowOf rowsOf part ld rowAt bK cq dH dX gG bP dd eh fJ fa dw ea db da dM dP bV bd cU bU cW cV dV eb dZ cR bY dc dY bQ aD cY cF gF bD cL bW aY dn bj dI AV.undef bH bJ dQ dW dL dK cK ef eo cz ee ec cX cZ List.getD_cons_zero List.getD_cons_succ List.getD_nil List.all_cons List.all_nil Bool.and_true Bool.true_and Bool.and_self Bool.not_true Bool.not_false Option.map_some Option.map_none Option.bind_some Option.bind_none List.length_cons List.length_nil List.take_succ_cons List.take_zero List.take_nil List.drop_succ_cons List.drop_zero List.drop_nil List.head?_cons List.map_cons List.map_nil List.getElem?_cons_zero List.getElem?_cons_succ List.cons_append List.nil_append List.append_nil List.length_map List.set_cons_zero List.set_cons_succ Nat.reduceMul eq_self Int.toNat_natCast Int.natCast_nonneg and_self true_and and_true decide_true decide_false Bool.false_eq_true Nat.zero_add Nat.add_zero List.contains_cons List.contains_nil Bool.or_false Bool.false_or beq_self_eq_true Nat.reduceBEq ne_eq not_true_eq_false not_false_eq_true Id.mk.injEq false_and and_false Nat.reduceLT Int.reduceLE Int.reduceLT Int.reduceToNat Int.reduceNeg Int.reduceAdd Nat.le_refl List.length_append beq_true beq_false Bool.not_eq_eq_eq_not or_false false_or eu ai aj aP bh bZ cm aW bx aK bf cP bI
theorem Js (a:List aa) (ha:a.length<=1048576):au Tryz.prog 42 [.dv [.sl (a.map ab)],.dv [.sl (a.map ab)]] (.bool true):=by
 refine au.body fF rfl fun hl n0=>?_
 clear hl
 have gp:(a.map ab).length=a.length:=by simp
 have hd:∀x:Int,decide (x=x)=true:=fun x=>decide_eq_true rfl
 (try((repeat(revert hN;revert N;apply Pn.out));refine wk (tw @gp @hd) ?_;(repeat(refine Pn.mk ?_;intro N hN))))
 refine bz (fun n env st=>∃k:Nat,n=(a.length)-k/\k<=(a.length)/\env 5=.int .i64 (k:Int)) (a.length) ⟨0,ae,ae,sl (tw @gp @hd)⟩ ?_
 rintro n_b env_b st_b ⟨k,rfl,ble,b5⟩ eW
 have b0:=eW 0 (by kernel_rfl);have b1:=eW 1 (by kernel_rfl)
 simp only[go_sem, ↓reduceIte,Nat.reduceEqDiff,Nat.reduceAdd,Nat.reduceSub,Nat.reduceLeDiff,reduceCtorEq,gp,hd]at b0 b1
 clear eW
 by_cases hk:(k:Int)<(a.length:Int)
 ·have fh:∀{e:Env},(e 5=.int .i64 (IntKind.i64.wrap ((k:Int)+1)))->∃m0,m0<(a.length)-k/\∃k:Nat,m0=(a.length)-k/\k<=(a.length)/\e 5=.int .i64 (k:Int):=fun x1=>⟨_,ae,k+1,rfl,ae,(by rw[x1,az ae])⟩
  have gq:=fR (l:=a) (i:=k) ae
  rw[ab]at gq
  (try((repeat(revert hN;revert N;apply Pn.out));refine wk (tw @b5 (tw @b0 (tw @b1 (tw @hk (tw @gq (tw @gp (tw @hd (tw @Bool.and_true @Bool.not_true)))))))) ?_;(repeat(refine Pn.mk ?_;intro N hN))))
  exact fh (sd (tw @b5 (tw @b0 @b1)))
 ·(try((repeat(revert hN;revert N;apply Pn.out));refine wk (tw @b5 (tw @b0 (tw @b1 (tw @hk @gp)))) ?_;(repeat(refine Pn.mk ?_;intro N hN))))
  exact cu (b:=true) (.inl rfl) (sd @Nat.zero_add) rfl
theorem p9 (a:List aa) (ha:a.length<=1048576):au Tryz.prog 12 [.agg [.sl (a.map ab)],.agg [.sl (a.map ab)]] (.bool true):=by
 refine au.body fF rfl fun hl n0=>?_
 clear hl
 have h1:=Js a ha
 (repeat(first|((repeat(revert hN;revert N;apply Pn.out));refine wk @Nat.zero_add ?_;(repeat(refine Pn.mk ?_;intro N hN)))|((try apply Or.inl);refine⟨_,au.x (h1) (sd @Nat.zero_add),?_⟩;refine hN _ _ ?_;clear hN N)))
 exact cu (b:=true) (.inl rfl) (sd @Nat.zero_add) rfl
def X8 (g:Rows) (n0 n:Nat) (v:AV) (L:List aa):Prop:=(L=[]/\v=.ck)∨(0<L.length/\∃o:Id,v=.own o 0 L.length/\g o=some ⟨true,3,L.map ab⟩/\n0<=o.bt/\o.bt<n)
theorem Lc {g:Rows} {B o:Id} {L J:List aa} (hB:g B=some ⟨true,1,[[.own o 0 L.length]]⟩) (ho:g o=some ⟨true,3,(L++J).map ab⟩):V.fz (eu g) 6 (.ptr B 0 0)=some (.dv [.sl (L.map ab)]):=by
 have q1:V.fz (eu g) 5 (.own o 0 L.length)=some (.sl (L.map ab)):=by
  rw[iW]
  have:eu g o=some ⟨true,3,(L++J).map ab⟩:=by simp[eu,ho]
  simp only[this,if_true]
  have h4:((L++J).map ab).take L.length=L.map ab:=by rw[<-List.map_take,List.take_append_of_le_length (Nat.le_refl _),List.take_length]
  rw[if_pos (by simp),List.drop_zero,h4,kF fun x=>by simp only[ab,ai,aj,aP,Option.map_some]];rfl
 exact nq (sz:=1) (rows:=[[.own o 0 L.length]]) (by simp[eu,hB]) rfl (by simp only[List.drop_zero,ai,aj,q1,Option.map_some])
theorem IW {g:Rows} {B:Id} {s:aw} (hB:g B=some ⟨true,4,[aH s]⟩):V.fz (eu g) 6 (.ptr B 0 0)=some (.dv (aH s)):=
 nq (sz:=4) (rows:=[aH s]) (by simp[eu,hB]) rfl (by simp only[aH,List.drop_zero,ai,aj,cm,aP,Option.map_some])
theorem KX {a b:List aa} {i:Nat} (h:i<a.length):lV (a.take (i+1)) b=lV (a.take i) b++if decide (fe b (aQ a i).aV=(aQ a i).bp)=true then[aQ a i]else[]:=by
 unfold lV
 rw[oK h,fm h,jT]
 cases decide (fe b a[i].aV=a[i].bp)<;>rfl
theorem BB (s:aw) (hn:jj s.aZ) (hg:s.aZ.br.length<=1048576) (ht:s.aZ.aq.length<=1048576) (hP:np s) (a b:List aa) (hA:lg s a) (hB:lg s b):Kw Tryz.prog 10 [.agg (aH s),.agg [.sl (a.map ab)],.agg [.sl (b.map ab)]] (.ib [.agg [.sl ((qk s a b).map ab)],.int .i64 0]):=by
 refine Kw.body fF rfl fun hl σ=>?_
 clear hl
 obtain⟨gs,n0⟩:=σ
 (try dsimp only)
 have h1:=A6 s a hn hg ht
 have h2:=A6 s b hn hg ht
 rw[hA.Pj hP]at h1
 rw[hB.Pj hP]at h2
 have fU:=EH s hP.w (lV a b) (oE hA.rR) (lW hP hA hB)
 have I7:=hA.rR.1.nO
 have hfb:=hB.rR.1.nO
 have gp:(a.map ab).length=a.length:=by simp
 rw[aH]at h1 h2
 (repeat(first|((repeat(revert hN;revert N;apply Pn.out));refine wk (tw @aH.eq_1 @gp) ?_;(repeat(refine Pn.mk ?_;intro N hN)))|((try apply Or.inl);refine⟨_,au.x (h1) (sd (tw @aH.eq_1 @gp)),?_⟩;refine hN _ _ ?_;clear hN N)|((try apply Or.inl);refine⟨_,au.x (h2) (sd (tw @aH.eq_1 @gp)),?_⟩;refine hN _ _ ?_;clear hN N)))
 refine bz (fun n env st=>∃i:Nat,n=(a.length)-i/\i<=(a.length)/\env 10=.int .i64 (i:Int)/\st.get ⟨10000000,n0⟩=some ⟨true,4,[aH s]⟩/\st.get ⟨10000001,n0⟩=some ⟨true,1,[[.sl (a.map ab)]]⟩/\st.get ⟨10000002,n0⟩=some ⟨true,1,[[.sl (b.map ab)]]⟩/\st.get ⟨10000003,n0⟩=some ⟨true,1,[[.ck]]⟩/\((n0+7<=st.next/\∃v,st.get ⟨10006001,n0+1+1+1+1+1⟩=some ⟨true,1,[[v]]⟩/\X8 st.get (n0+6) st.next v (lV (a.take i) b)))) (a.length) ⟨0,ae,ae,sl (tw @gp @aH.eq_1),sl (tw @gp @aH.eq_1),sl (tw @gp @aH.eq_1),sl (tw @gp @aH.eq_1),sl (tw @gp @aH.eq_1),by(try dsimp only);exact⟨ae,.ck,sl @Nat.zero_add,.inl ⟨rfl,rfl⟩⟩⟩ ?_
 rintro n_z env_z st_z ⟨i,rfl,zle,z10,zg0,zg1,zg2,zg3,zI0⟩ zfr
 have z3:=zfr 3 (by kernel_rfl);have z4:=zfr 4 (by kernel_rfl);have z5:=zfr 5 (by kernel_rfl);have z6:=zfr 6 (by kernel_rfl);have z9:=zfr 9 (by kernel_rfl)
 simp only[go_sem, ↓reduceIte,Nat.reduceEqDiff,Nat.reduceAdd,Nat.reduceSub,Nat.reduceLeDiff,reduceCtorEq,gp,aH]at z3 z4 z5 z6 z9
 clear zfr
 obtain⟨zN,v,zB,zP⟩:=zI0
 by_cases hi:(i:Int)<(a.length:Int)
 ·have Mb:∀{e:Env} {gg:Rows} {nx:Nat},(e 10=.int .i64 (IntKind.i64.wrap ((i:Int)+1)))->(gg ⟨10000000,n0⟩=some ⟨true,4,[aH s]⟩)->(gg ⟨10000001,n0⟩=some ⟨true,1,[[.sl (a.map ab)]]⟩)->(gg ⟨10000002,n0⟩=some ⟨true,1,[[.sl (b.map ab)]]⟩)->(gg ⟨10000003,n0⟩=some ⟨true,1,[[.ck]]⟩)->((n0+7<=nx/\∃v,gg ⟨10006001,n0+1+1+1+1+1⟩=some ⟨true,1,[[v]]⟩/\X8 gg (n0+6) nx v (lV (a.take (i+1)) b)))->∃m0,m0<(a.length)-i/\∃i:Nat,m0=(a.length)-i/\i<=(a.length)/\e 10=.int .i64 (i:Int)/\gg ⟨10000000,n0⟩=some ⟨true,4,[aH s]⟩/\gg ⟨10000001,n0⟩=some ⟨true,1,[[.sl (a.map ab)]]⟩/\gg ⟨10000002,n0⟩=some ⟨true,1,[[.sl (b.map ab)]]⟩/\gg ⟨10000003,n0⟩=some ⟨true,1,[[.ck]]⟩/\((n0+7<=nx/\∃v,gg ⟨10006001,n0+1+1+1+1+1⟩=some ⟨true,1,[[v]]⟩/\X8 gg (n0+6) nx v (lV (a.take i) b))):=fun x1 x2 x3 x4 x5 x6=>⟨_,ae,i+1,rfl,ae,(by rw[x1,az ae]),x2,x3,x4,x5,x6⟩
  have fU:i<a.length:=ae
  have jb:=fR (l:=a) (i:=i) fU
  have I5:=KX (b:=b) fU
  have pI:=xO b (aQ a i).aV hB.rR.1.om ae
  have pJ:(lV (a.take i) b).length<=i:=Nat.le_trans (Hq _ _) (by rw[List.length_take];omega)
  generalize lV (a.take i) b=L at zP I5 pJ
  generalize aQ a i=x at jb I5 pI
  rw[ab]at jb
  rw[ah]at pI
  cases hd:decide (fe b x.aV=x.bp)
  ·rw[hd]at I5
   (repeat(first|((repeat(revert hN;revert N;apply Pn.out));refine wk (tw @z10 (tw @zg0 (tw @zg1 (tw @zg2 (tw @zg3 (tw @z3 (tw @z4 (tw @z5 (tw @z6 (tw @z9 (tw @hi (tw @gp (tw @jb @hd))))))))))))) ?_;(repeat(refine Pn.mk ?_;intro N hN)))|((try apply Or.inl);refine⟨_,au.x (pI) (sd (tw @z10 (tw @zg0 (tw @zg1 (tw @zg2 (tw @zg3 (tw @z3 (tw @z4 (tw @z5 (tw @z6 (tw @z9 (tw @hi (tw @gp (tw @jb @hd)))))))))))))),?_⟩;refine hN _ _ ?_;clear hN N)))
   refine Mb ?_ ?_ ?_ ?_ ?_ (by(try dsimp only);exact⟨ae,v,zB,by
    rw[I5,if_neg (by decide),List.append_nil]
    rcases zP with h|⟨h0,o,h1,h2,h3,h4⟩
    ·exact .inl h
    ·exact .inr ⟨h0,o,h1,h2,h3,aU⟩⟩)
   all_goals simp only[go_sem, ↓reduceIte,Nat.reduceEqDiff,Nat.reduceAdd,Nat.reduceSub,Nat.reduceLeDiff,reduceCtorEq,z10,zg0,zg1,zg2,zg3,z3,z4,z5,z6,z9]
  ·rw[hd,if_pos rfl]at I5
   have kU:(L.map ab).length=L.length:=by simp
   have hc:L.length<=16777215:=ae
   rcases zP with⟨rfl,rfl⟩|⟨h0,o,rfl,go,k7,oP⟩
   ·(repeat(first|((repeat(revert hN;revert N;apply Pn.out));refine wk (tw @z10 (tw @zg0 (tw @zg1 (tw @zg2 (tw @zg3 (tw @z3 (tw @z4 (tw @z5 (tw @z6 (tw @z9 (tw @hi (tw @gp (tw @jb (tw @hd @zB)))))))))))))) ?_;(repeat(refine Pn.mk ?_;intro N hN)))|((try apply Or.inl);refine⟨_,au.x (pI) (sd (tw @z10 (tw @zg0 (tw @zg1 (tw @zg2 (tw @zg3 (tw @z3 (tw @z4 (tw @z5 (tw @z6 (tw @z9 (tw @hi (tw @gp (tw @jb (tw @hd @zB))))))))))))))),?_⟩;refine hN _ _ ?_;clear hN N)))
    refine Mb ?_ ?_ ?_ ?_ ?_ (by(try dsimp only);exact⟨ae,.own ⟨10011008,st_z.next+1+1⟩ 0 1,sl @Nat.zero_add,by
     rw[I5]
     exact .inr ⟨by simp,⟨10011008,st_z.next+1+1⟩,rfl,sl @Nat.zero_add,aU,aU⟩⟩)
    all_goals simp only[go_sem, ↓reduceIte,Nat.reduceEqDiff,Nat.reduceAdd,Nat.reduceSub,Nat.reduceLeDiff,reduceCtorEq,z10,zg0,zg1,zg2,zg3,z3,z4,z5,z6,z9]
   ·have vo:=dj oP
    have oB:∀s,((o=⟨s,n0+1+1+1+1+1⟩)=False/\((⟨s,n0+1+1+1+1+1⟩:Id)=o)=False)/\(o=⟨s,n0⟩)=False/\((⟨s,n0⟩:Id)=o)=False:=fun s=>⟨⟨eq_false fun e=>by rw[e]at k7;(try dsimp only at k7);omega,eq_false fun e=>by rw[<-e]at k7;(try dsimp only at k7);omega⟩,eq_false fun e=>by rw[e]at k7;(try dsimp only at k7);omega,eq_false fun e=>by rw[<-e]at k7;(try dsimp only at k7);omega⟩
    (repeat(first|((repeat(revert hN;revert N;apply Pn.out));refine wk (tw @z10 (tw @zg0 (tw @zg1 (tw @zg2 (tw @zg3 (tw @z3 (tw @z4 (tw @z5 (tw @z6 (tw @z9 (tw @hi (tw @gp (tw @jb (tw @hd (tw @zB (tw @go (tw @kU (tw @hc (tw @vo @oB))))))))))))))))))) ?_;(repeat(refine Pn.mk ?_;intro N hN)))|((try apply Or.inl);refine⟨_,au.x (pI) (sd (tw @z10 (tw @zg0 (tw @zg1 (tw @zg2 (tw @zg3 (tw @z3 (tw @z4 (tw @z5 (tw @z6 (tw @z9 (tw @hi (tw @gp (tw @jb (tw @hd (tw @zB (tw @go (tw @kU (tw @hc (tw @vo @oB)))))))))))))))))))),?_⟩;refine hN _ _ ?_;clear hN N)))
    refine Mb ?_ ?_ ?_ ?_ ?_ (by(try dsimp only);exact⟨ae,.own ⟨10011008,st_z.next+1+1⟩ 0 (L.length+1),sl @Nat.zero_add,by
     rw[I5]
     exact .inr ⟨by simp,⟨10011008,st_z.next+1+1⟩,by simp,by rw[List.map_append];simp only[go_sem, ↓reduceIte,Nat.reduceEqDiff,Nat.reduceAdd,Nat.reduceSub,Nat.reduceLeDiff,reduceCtorEq,vo,oB]<;>rfl,aU,aU⟩⟩)
    all_goals simp only[go_sem, ↓reduceIte,Nat.reduceEqDiff,Nat.reduceAdd,Nat.reduceSub,Nat.reduceLeDiff,reduceCtorEq,z10,zg0,zg1,zg2,zg3,z3,z4,z5,z6,z9,oB]
 ·have C8:i=a.length:=ae
  subst C8
  rw[List.take_length]at zP
  have Qo:=lW hP hA hB
  have iN:lV a b≠[]:=fun e=>by
   have h0:=hP.w.some
   have:=(within_iff hP.kQ (BU hA.rR.1.om)).1 Qo _ (List.getElem_mem h0)
   rw[e]at this
   cases this
  rcases zP with⟨h,_⟩|⟨h0,o,rfl,go,k7,oP⟩
  ·exact absurd h iN
  (try((repeat(revert hN;revert N;apply Pn.out));refine wk (tw @z10 (tw @zg0 (tw @zg1 (tw @zg2 (tw @zg3 (tw @z3 (tw @z4 (tw @z5 (tw @z6 (tw @z9 (tw @hi (tw @gp @zB)))))))))))) ?_;(repeat(refine Pn.mk ?_;intro N hN))))
  refine .inl ⟨_,au.x fU (by
   have q1:=IW (g:=st_z.get) zg0
   have q2:=Lc (g:=st_z.get) (J:=[]) zB (by rw[List.append_nil];exact go)
   simp only[ai,aj,q1,q2,Option.map_some]),?_⟩
  refine hN _ _ ?_
  clear hN N
  (try((repeat(revert hN;revert N;apply Pn.out));refine wk (tw @z10 (tw @zg0 (tw @zg1 (tw @zg2 (tw @zg3 (tw @z3 (tw @z4 (tw @z5 (tw @z6 @z9))))))))) ?_;(repeat(refine Pn.mk ?_;intro N hN))))
  exact Wr (.inl rfl) (vs:=[.agg [.sl ((qk s a b).map ab)],.int .i64 0]) (by simp only[gS,jD,go_sem, ↓reduceIte,Nat.reduceEqDiff,Nat.reduceAdd,Nat.reduceSub,Nat.reduceLeDiff,reduceCtorEq,z10,zg0,zg1,zg2,zg3,z3,z4,z5,z6,z9]<;>rfl) (by simp only[gx,bI,bx,ai,aj,aP,cm,Option.map_some])
theorem KV (b:List aa) (hb:jz b) (x:aa):au Tryz.prog 34 [.agg (ab x),.dv [.sl (b.map ab)]] (.bool (jT b x)):=by
 refine au.body fF rfl fun hl n0=>?_
 clear hl
 have h:=UU b x.aV hb.om (by have:=hb.nO;omega)
 (repeat(first|((repeat(revert hN;revert N;apply Pn.out));refine wk (tw @ab.eq_1 @ah.eq_1) ?_;(repeat(refine Pn.mk ?_;intro N hN)))|((try apply Or.inl);refine⟨_,au.x (h) (sd (tw @ab.eq_1 @ah.eq_1)),?_⟩;refine hN _ _ ?_;clear hN N)))
 exact cu (b:= !decide (fe b x.aV=x.bp)) (.inl rfl) (sd @Nat.zero_add) rfl
theorem LM (b:List aa) (hb:jz b) (ps:List aa) (hl:ps.length<=1048576):au Tryz.prog 66 [.sl (ps.map ab),.fn 34 [.dv [.sl (b.map ab)]]] (.int .i64 (jx (jT b) ps)):=
 qD sQ (show BP Tryz.prog 66=some (s9 66 3 true) by kernel_rfl) ps hl 34 _ _ (fun x _=>KV b hb x) fun g=>by simp only[ai,aj,aK,Option.map_some]
theorem IM (qs:List aa) (VX:jz qs) (ps X:List aa) (hl:ps.length<=1048576) (o A:Id) (σ:ax) (ho:σ.get o=some ⟨true,3,(ps++X).map ab⟩) (Xp:σ.get A=some ⟨true,1,[[.sl (qs.map ab)]]⟩) (xJ:o.bt<σ.next) (hAv:A.bt<σ.next) (hoA:o≠A):
  Call Tryz.prog 32 [.own o 0 ps.length,.fn 34 [.ptr A 0 0]] σ fun r σ'=>∃J:List aa,r=.own o 0 (fx (jT qs) ps).length/\σ'.get o=some ⟨true,3,(fx (jT qs) ps++J).map ab⟩/\σ.next<=σ'.next/\∀i:Id,i.bt<σ.next->i≠o->σ'.get i=σ.get i:=by
 refine ij fF rfl fun jc=>?_
 clear jc
 have C9:=LM qs VX ps hl
 have hzA:∀(g:Rows) (n:Nat),g A=some ⟨true,1,[[.sl (qs.map ab)]]⟩->V.fz (eu g) (n+1+1) (.ptr A 0 0)=some (.dv [.sl (qs.map ab)]):=fun g n hg=>nq (sz:=1) (rows:=[[.sl (qs.map ab)]]) (by simp[eu,hg]) rfl (by simp only[List.drop_zero,ai,aj,cm,Option.map_some])
 have AR:∀(g:Rows),g A=some ⟨true,1,[[.sl (qs.map ab)]]⟩->g o=some ⟨true,3,(ps++X).map ab⟩->eC (eu g) 6 [.own o 0 ps.length,.fn 34 [.ptr A 0 0]]=some [.sl (ps.map ab),.fn 34 [.dv [.sl (qs.map ab)]]]:=fun g h1 h3=>by
  have q1:V.fz (eu g) 6 (.own o 0 ps.length)=some (.sl (ps.map ab)):=by
   rw[iW]
   have:eu g o=some ⟨true,3,(ps++X).map ab⟩:=by simp[eu,h3]
   simp only[this,if_true]
   have h4:((ps++X).map ab).take ps.length=ps.map ab:=by rw[<-List.map_take,List.take_append_of_le_length (Nat.le_refl _),List.take_length]
   rw[if_pos (by simp),List.drop_zero,h4,kF fun x=>by simp only[ab,ai,aj,aP,Option.map_some]];rfl
  have q2:=hzA g 3 h1
  simp only[ai,aj,q1,cP,List.all_cons,List.all_nil,AV.cell,Bool.and_true,if_true,q2,Option.map_some]
 have sC:∀(g:Rows),g A=some ⟨true,1,[[.sl (qs.map ab)]]⟩->∀b:aa,eC (eu g) 6 [.agg (ab b),.ptr A 0 0]=some [.agg (ab b),.dv [.sl (qs.map ab)]]:=fun g h1 b=>by
  have q2:=hzA g 4 h1
  simp only[ai,aj,bx,ab,aP,q2,Option.map_some]
 have iK:(ps++X).length=ps.length+X.length:=List.length_append
 have nE:∀j,j<=ps.length->(ps++X).take j=ps.take j:=fun j hj=>List.take_append_of_le_length hj
 have kC:∀j (hj:j<ps.length),(ps++X)[j]'(by rw[iK];omega)=ps[j]:=fun j hj=>List.getElem_append_left hj
 (try((repeat(revert hN;revert N;apply Pn.out));refine wk @Nat.zero_add ?_;(repeat(refine Pn.mk ?_;intro N hN))))
 refine .inl ⟨_,au.x C9 (AR _ Xp ho),?_⟩
 refine hN _ _ ?_
 clear hN N
 by_cases h0:0<=jx (jT qs) ps
 ·obtain⟨i,hi,C8,Zw,LB⟩:=FR h0
  rw[C8]at *
  have Ja:decide ((i:Int)= -1)=false:=decide_eq_false ae
  have Qu:IntKind.i64.wrap ((i:Int)+1)=((i+1:Nat):Int):=az ae
  obtain⟨ev,yK⟩:=Kg.start (p:=jT qs) (bs:=ps++X) (i:=i) (by rw[iK];omega) (by rw[kC i hi];exact Zw) (fun x hx=>by rw[kC x ae];exact LB x hx)
  (try((repeat(revert hN;revert N;apply Pn.out));refine wk (tw @Ja @Qu) ?_;(repeat(refine Pn.mk ?_;intro N hN))))
  refine bz (fun m env st=>∃(j:Nat) (R:List aa),m=ps.length-j/\env 6=.int .i64 (j:Int)/\env 5=.int .i64 ((fx (jT qs) (ps.take j)).length:Int)/\st.get o=some ⟨true,3,R.map ab⟩/\Kg (jT qs) (ps++X) j R/\j<=ps.length/\σ.next<=st.next/\∀x:Id,x.bt<σ.next->(x=o)=False->st.get x=σ.get x) (ps.length-(i+1)) ⟨i+1,ps++X,rfl,sd @Qu,by rw[<-nE (i+1) ae];simp only[go_sem, ↓reduceIte,Nat.reduceEqDiff,Nat.reduceAdd,Nat.reduceSub,Nat.reduceLeDiff,reduceCtorEq,yK],sd @ho,ev,ae,aU,fun x _ _=>sd @Nat.zero_add⟩ ?_
  rintro m env_b st_b ⟨j,R,rfl,b6,b5,bg,hD,iv,hle,jn⟩ eW
  have b0:=eW 0 (by kernel_rfl)
  have b1:=eW 1 (by kernel_rfl)
  simp only[go_sem, ↓reduceIte,Nat.reduceEqDiff,Nat.reduceAdd,Nat.reduceSub,Nat.reduceLeDiff,reduceCtorEq]at b0 b1
  clear eW
  have bA:=(jn A hAv (by simp only[eq_iff_iff,iff_false];exact fun h=>hoA h.symm)).trans Xp
  have lp:=dj (i:=o) (n:=st_b.next) ae
  have hvA:=dj (i:=A) (n:=st_b.next) ae
  have Vn:=hD.len
  rw[iK]at Vn
  have RB:(R.map ab).length=ps.length+X.length:=by rw[List.length_map,Vn]
  have eM:=hD.lt
  by_cases hj:(j:Int)<(ps.length:Int)
  ·have oi:j<ps.length:=ae
   have Zb:j<(ps++X).length:=ae
   have D8:=hD.at_ Zb
   have OO:=KV qs VX (ps++X)[j]
   have ON:IntKind.i64.wrap ((j:Int)+1)=((j+1:Nat):Int):=az ae
   have Vi:=hD.SJ Zb
   have Vj:=hD.sa Zb
   rw[nE j ae]at Vi Vj eM
   rw[nE (j+1) ae]at Vi Vj
   generalize (ps++X)[j]=b at *
   (try((repeat(revert hN;revert N;apply Pn.out));refine wk (tw @b0 (tw @b1 (tw @b5 (tw @b6 (tw @bg (tw @hj (tw @D8 (tw @ab.eq_1 (tw @lp (tw @hvA @RB)))))))))) ?_;(repeat(refine Pn.mk ?_;intro N hN))))
   refine .inl ⟨_,au.x OO (sC _ (sd (tw @hvA @bA)) b),?_⟩
   refine hN _ _ ?_
   clear hN N
   cases hw:jT qs b
   ·obtain⟨Rt,Rs⟩:=Vj hw
    have RG:((fx (jT qs) (ps.take j)).length:Int)<(ps.length:Int):=ae
    have V5:IntKind.i64.wrap (((fx (jT qs) (ps.take j)).length:Int)+1)=(((fx (jT qs) (ps.take j)).length+1:Nat):Int):=az ae
    have fj:(R.map ab).set (fx (jT qs) (ps.take j)).length [.int .i64 b.aV.fP,.int .i64 b.aV.fE,.int .i64 b.bp]=(R.set (fx (jT qs) (ps.take j)).length b).map ab:=by rw[List.map_set];rfl
    have Ov:∃y,(R.map ab)[(fx (jT qs) (ps.take j)).length]? =some (ab y):=⟨R[(fx (jT qs) (ps.take j)).length]'ae,by rw[List.getElem?_map,List.getElem?_eq_getElem ae];rfl⟩
    obtain⟨y,Ov⟩:=Ov
    rw[ab]at Ov
    (try((repeat(revert hN;revert N;apply Pn.out));refine wk (tw @b0 (tw @b1 (tw @b5 (tw @b6 (tw @bg (tw @hw (tw @ON (tw @V5 (tw @RG (tw @fj (tw @Ov (tw @lp @RB)))))))))))) ?_;(repeat(refine Pn.mk ?_;intro N hN))))
    refine⟨_,?_,j+1,_,rfl,sd @ON,sd (tw @V5 @Rs),sd @fj,Rt,ae,aU,fun x hx xn=>?_⟩
    ·omega
    ·have NM:=dj (i:=x) (n:=st_b.next) ae
     have:=jn x hx xn
     simp only[go_sem, ↓reduceIte,Nat.reduceEqDiff,Nat.reduceAdd,Nat.reduceSub,Nat.reduceLeDiff,reduceCtorEq,NM,this,xn]
   ·obtain⟨Rt,Rs⟩:=Vi hw
    (try((repeat(revert hN;revert N;apply Pn.out));refine wk (tw @b0 (tw @b1 (tw @b5 (tw @b6 (tw @hw @ON))))) ?_;(repeat(refine Pn.mk ?_;intro N hN))))
    refine⟨_,?_,j+1,R,rfl,sd @ON,sd (tw @b5 @Rs),sd (tw @bg @lp),Rt,ae,aU,fun x hx xn=>?_⟩
    ·omega
    ·have NM:=dj (i:=x) (n:=st_b.next) ae
     have:=jn x hx xn
     simp only[go_sem, ↓reduceIte,Nat.reduceEqDiff,Nat.reduceAdd,Nat.reduceSub,Nat.reduceLeDiff,reduceCtorEq,NM,this]
  ·have iv:j=ps.length:=ae
   subst iv
   have rX:=hD.pre
   rw[nE _ (Nat.le_refl _)]at eM rX
   rw[List.take_length]at b5 eM rX
   have RG:((fx (jT qs) ps).length:Int)<=(ps.length:Int):=ae
   have Ul:(fx (jT qs) ps).length<=ps.length:=ae
   have oJ:(fx (jT qs) ps).length+(ps.length-(fx (jT qs) ps).length)=ps.length:=ae
   have nu:ps.length<=ps.length+X.length:=ae
   (try((repeat(revert hN;revert N;apply Pn.out));refine wk (tw @b0 (tw @b1 (tw @b5 (tw @b6 (tw @bg (tw @hj (tw @RB (tw @RG (tw @Ul (tw @oJ (tw @nu (tw @Nat.le_refl (tw @Nat.sub_zero (tw @Int.le_refl @lp)))))))))))))) ?_;(repeat(refine Pn.mk ?_;intro N hN))))
   have hm:List.take (fx (jT qs) ps).length (List.map ab R)=(fx (jT qs) ps).map ab:=by rw[<-List.map_take,rX]
   have hz9:∀n:Nat,List.replicate n [AV.int .i64 0,AV.int .i64 0,AV.int .i64 0]=(List.replicate n (⟨⟨0,0⟩,0⟩:aa)).map ab:=fun n=>by rw[List.map_replicate];rfl
   refine gN (.inl rfl) (vs:=[.own o 0 (fx (jT qs) ps).length]) (sd @Nat.zero_add) ⟨List.replicate (ps.length-(fx (jT qs) ps).length) ⟨⟨0,0⟩,0⟩++R.drop ps.length,rfl,?_,aU,fun x hx xn=>?_⟩
   ·simp only[go_sem, ↓reduceIte,Nat.reduceEqDiff,Nat.reduceAdd,Nat.reduceSub,Nat.reduceLeDiff,reduceCtorEq]
    rw[hm,hz9,<-List.map_drop,<-List.map_append,<-List.map_append,List.append_assoc]
   ·have LL:(x=o)=False:=by simp only[eq_iff_iff,iff_false];exact xn
    have:=jn x hx LL
    simp only[go_sem, ↓reduceIte,Nat.reduceEqDiff,Nat.reduceAdd,Nat.reduceSub,Nat.reduceLeDiff,reduceCtorEq,LL,this]
 ·have hn:=FQ h0
  have ev:=yQ (p:=jT qs) hn
  have hd:decide (jx (jT qs) ps= -1)=true:=decide_eq_true (by
   unfold jx at h0 ⊢
   split
   ·rename_i h;rw[if_pos h]at h0;omega
   ·rfl)
  (try((repeat(revert hN;revert N;apply Pn.out));refine wk @hd ?_;(repeat(refine Pn.mk ?_;intro N hN))))
  refine gN (.inl rfl) (vs:=[.own o 0 ps.length]) (sd @Nat.zero_add) ⟨X,by rw[ev];rfl,by rw[ev];simp only[go_sem, ↓reduceIte,Nat.reduceEqDiff,Nat.reduceAdd,Nat.reduceSub,Nat.reduceLeDiff,reduceCtorEq,ho],aU,fun x _ _=>rfl⟩
theorem LO (s:aw) (hP:BE s) (l:List aa) (hA:gH s.aZ l) (hW:fw s.cj.aq l=true):au Tryz.prog 36 [.agg (aH s),.agg [.sl (l.map ab)]] (.ib [XN ab (jl s l).1,.agg [.sl ((jl s l).2.map ab)]]):=fun n=>
 aA _ _ _ _ _ (fun r σ' hq=>by
  obtain⟨v,o,rfl,hv,q1,_⟩:=hq
  have h1:gU σ'.get 5 v=some (XN ab (jl s l).1):=by
   rcases hv with⟨e,rfl⟩|⟨u,rfl,g,_,_,_,h0⟩
   ·rw[e];exact lk _ _
   ·rw[XN,if_neg ae]
    exact eE (e:=ab) g rfl fun x=>DP _ 3 x
  have h2:gU σ'.get 4 (.own o 0 (jl s l).2.length)=some (.sl ((jl s l).2.map ab)):=eE (e:=ab) q1 rfl fun x=>DP _ 2 x
  exact⟨_,by simp only[fu,oG,bF,cH,h1,h2,Option.map_some],rfl⟩) (Ep s hP l hA hW ⟨fun _=>none,n⟩)
theorem Of {g:Rows} {o:Id} {L J:List aa} (ho:g o=some ⟨true,3,(L++J).map ab⟩):V.fz (eu g) 6 (.agg [.own o 0 L.length])=some (.agg [.sl (L.map ab)]):=by
 have q1:V.fz (eu g) 5 (.own o 0 L.length)=some (.sl (L.map ab)):=by
  rw[iW]
  have:eu g o=some ⟨true,3,(L++J).map ab⟩:=by simp[eu,ho]
  simp only[this,if_true]
  have h4:((L++J).map ab).take L.length=L.map ab:=by rw[<-List.map_take,List.take_append_of_le_length (Nat.le_refl _),List.take_length]
  rw[if_pos (by simp),List.drop_zero,h4,kF fun x=>by simp only[ab,ai,aj,aP,Option.map_some]];rfl
 simp only[bx,ai,aj,q1,Option.map_some]
theorem tE (s:aw) (hn:jj s.aZ) (hm:Di s) (hP:np s) (a b:List aa) (hA:lg s a) (hB:lg s b):Kw Tryz.prog 9 [.agg (aH s),.agg [.sl (a.map ab)],.agg [.sl (b.map ab)]] (.ib [.agg [.sl ((qk s a b).map ab)],.int .i64 0]):=by
 refine Kw.body fF rfl fun hl σ=>?_
 clear hl
 obtain⟨gs,n0⟩:=σ
 (try dsimp only)
 have I7:=hA.rR.1.nO
 have hfb:=hB.rR.1.nO
 have h1:=uj s a hn hm ae
 have h2:=uj s b hn hm ae
 rw[hA.Pj hP]at h1
 rw[hB.Pj hP]at h2
 have fU:=LO s hP.w (lV a b) (oE hA.rR) (lW hP hA hB)
 have h0:0<a.length:=by
  have h0:=hP.w.some
  have:=(within_iff hP.kQ hA.rR.1.om).1 hA.kQ _ (List.getElem_mem h0)
  exact List.length_pos_of_mem this
 have hc:=fun σ=>Iz a h0 ae σ
 rw[aH]at h1 h2
 (repeat(first|((repeat(revert hN;revert N;apply Pn.out));refine wk @aH.eq_1 ?_;(repeat(refine Pn.mk ?_;intro N hN)))|((try apply Or.inl);refine⟨_,au.x (h1) (sd @aH.eq_1),?_⟩;refine hN _ _ ?_;clear hN N)|((try apply Or.inl);refine⟨_,au.x (h2) (sd @aH.eq_1),?_⟩;refine hN _ _ ?_;clear hN N)))
 refine .inr (aA _ _ _ _ _ (fun r σ1 Fv=>?_) (hc _))
 obtain⟨g1,x1⟩:=σ1
 obtain⟨o,rfl,q1,q2,q3,q4⟩:=Fv
 (try dsimp only at q1 q2 q3 q4)
 have k0:=q4 ⟨9000000,n0⟩ aU
 have k2:=q4 ⟨9000002,n0⟩ aU
 have k3:=q4 ⟨9000003,n0⟩ aU
 simp only[go_sem, ↓reduceIte,Nat.reduceEqDiff,Nat.reduceAdd,Nat.reduceSub,Nat.reduceLeDiff,reduceCtorEq,aH]at k0 k2 k3
 refine hN _ _ ?_
 clear hN N
 (try((repeat(revert hN;revert N;apply Pn.out));refine wk @Nat.zero_add ?_;(repeat(refine Pn.mk ?_;intro N hN))))
 refine .inr (aA _ _ _ _ _ (fun r σ2 Jc=>?_) (IM b hB.rR.1 a [] ae o ⟨9000002,n0⟩ _ (by rw[List.append_nil];exact q1) k2 aU aU (fun e=>by first|(rw[e]at q2;(try dsimp only at q2);omega)|(rw[<-e]at q2;(try dsimp only at q2);omega))))
 obtain⟨g2,x2⟩:=σ2
 obtain⟨J,rfl,u1,u4,u5⟩:=Jc
 (try dsimp only at u1 u4 u5)
 have j0:=(u5 ⟨9000000,n0⟩ aU (fun e=>by first|(rw[e]at q2;(try dsimp only at q2);omega)|(rw[<-e]at q2;(try dsimp only at q2);omega))).trans k0
 have j3:=(u5 ⟨9000003,n0⟩ aU (fun e=>by first|(rw[e]at q2;(try dsimp only at q2);omega)|(rw[<-e]at q2;(try dsimp only at q2);omega))).trans k3
 refine hN _ _ ?_
 clear hN N
 (try((repeat(revert hN;revert N;apply Pn.out));refine wk (tw @j0 @j3) ?_;(repeat(refine Pn.mk ?_;intro N hN))))
 have vo:∀z,(o=(⟨z,x2⟩:Id))=False:=fun z=>eq_false fun e=>by rw[e]at q3;(try dsimp only at q3);omega
 refine .inl ⟨_,au.x fU (by
  have q:=fun g (h:g o=g2 o)=>Of (g:=g) (L:=lV a b) (J:=J) (h.trans u1)
  have q':∀g,g o=g2 o->V.fz (eu g) 6 (.agg [.own o 0 (fx (jT b) a).length])=some (.agg [.sl ((lV a b).map ab)]):=q
  rw[ai,ai,aj,q' _ (sd @vo)]
  simp only[aH,bx,ai,aj,cm,aP,Option.map_some]),?_⟩
 refine hN _ _ ?_
 clear hN N
 have lQ:∀w:AV,XN ab (jl s (lV a b)).1=w->True:=fun _ _=>trivial
 (try((repeat(revert hN;revert N;apply Pn.out));refine wk @j3 ?_;(repeat(refine Pn.mk ?_;intro N hN))))
 exact Wr (.inl rfl) (vs:=[.agg [.sl ((qk s a b).map ab)],.int .i64 0]) (by simp only[gS,jD,go_sem, ↓reduceIte,Nat.reduceEqDiff,Nat.reduceAdd,Nat.reduceSub,Nat.reduceLeDiff,reduceCtorEq,j3]<;>rfl) (by simp only[gx,bI,bx,ai,aj,aP,cm,Option.map_some])
def kA (b:Int):List AV:=[.int .u8 b]
def fM (g:Rows) (X:Id) (bs:List Int) (A:Nat):Prop:=∃(a:Nat) (z:Int),a<=A/\g X=some ⟨true,3,[[.sl (bs.map kA),.int .i64 (a:Int),.int .u64 z]]⟩
theorem fM.mono {g:Rows} {X:Id} {bs:List Int} {A B:Nat} (h:fM g X bs A) (k:A<=B):fM g X bs B:=by
 obtain⟨a,z,h1,h2⟩:=h
 exact⟨a,z,ae,h2⟩
def lz (X:Id) (σ σ':ax):Prop:=σ.next<=σ'.next/\∀i,i≠X->i.bt<σ.next->σ'.get i=σ.get i
theorem wrap_u64 (n:Int):IntKind.u64.wrap n=n % 18446744073709551616:=by
 rw[IntKind.wrap];simp[IntKind.bits,IntKind.signed]
theorem NV (z:Int):0<=IntKind.u64.wrap ((BitVec.ofInt 64 z&&& BitVec.ofInt 64 255).toNat:Int)/\IntKind.u64.wrap ((BitVec.ofInt 64 z&&& BitVec.ofInt 64 255).toNat:Int)<=255:=by
 have h:(BitVec.ofInt 64 z&&& BitVec.ofInt 64 255).toNat<=255:=by
  rw[BitVec.toNat_and]
  exact Nat.and_le_right
 rw[wrap_u64];omega
theorem Dl (z:Int):0<=IntKind.i64.wrap (IntKind.u64.wrap ((BitVec.ofInt 64 z&&& BitVec.ofInt 64 255).toNat:Int))/\IntKind.i64.wrap (IntKind.u64.wrap ((BitVec.ofInt 64 z&&& BitVec.ofInt 64 255).toNat:Int))<=255:=by
 obtain⟨h0,h1⟩:=NV z
 rw[cD ae]
 exact⟨h0,h1⟩
theorem CT {v n:Int} (hv:0<=v) (hn:0<n):0<=v.tmod n/\(v.tmod n=0∨v.tmod n<n):=by
 rw[Int.tmod_eq_emod_of_nonneg hv]
 exact⟨Int.emod_nonneg _ ae,.inr (Int.emod_lt_of_pos _ hn)⟩
theorem Ma (bs:List Int) (hb:∀b∈bs,0<=b/\b<=255) (iK:bs.length<=4096) (X:Id) (A:Nat) (ha:A<=1073741824) (σ:ax) (h:fM σ.get X bs A):
  Call Tryz.prog 65 [.ptr X 0 0] σ fun r σ'=>∃v:Int,r=.int .i64 v/\0<=v/\v<=255/\fM σ'.get X bs (A+1)/\lz X σ σ':=by
 obtain⟨a,z,haA,hg⟩:=h
 refine ij fF rfl fun jc=>?_
 clear jc
 have gp:(bs.map kA).length=bs.length:=by simp
 have w1:IntKind.i64.wrap ((a:Int)+1)=((a+1:Nat):Int):=(cD ae).trans ae
 by_cases ha:(a:Int)<(bs.length:Int)
 ·have Ny:(bs.map kA)[a]? =some [.int .u8 (bs.getD a 0)]:=getD_map kA ae
  have Kj:=hb (bs.getD a 0) (by rw[List.getD_eq_getElem?_getD,List.getElem?_eq_getElem (by omega:a<bs.length)];exact List.getElem_mem ae)
  generalize bs.getD a 0=b at Ny Kj
  have w2:IntKind.i64.wrap b=b:=cD ae
  have hle:((a+1:Nat):Int)<=(bs.length:Int):=ae
  (try((repeat(revert hN;revert N;apply Pn.out));refine wk (tw @hg (tw @gp (tw @ha (tw @Ny (tw @w1 (tw @w2 @hle)))))) ?_;(repeat(refine Pn.mk ?_;intro N hN))))
  exact gN (.inl rfl) (vs:=[.int .i64 b]) (sd @Nat.zero_add) ⟨b,rfl,Kj.1,Kj.2,⟨a+1,_,ae,sl @Nat.zero_add⟩,aU,fun i hi _=>sd @hi⟩
 ·have hle:decide (((a+1:Nat):Int)<=(bs.length:Int))=false:=decide_eq_false ae
  (try((repeat(revert hN;revert N;apply Pn.out));refine wk (tw @hg (tw @gp (tw @ha (tw @w1 @hle)))) ?_;(repeat(refine Pn.mk ?_;intro N hN))))
  exact gN (.inl rfl) (vs:=[.int .i64 _]) (by simp only[gS,jD,go_sem, ↓reduceIte,Nat.reduceEqDiff,Nat.reduceAdd,Nat.reduceSub,Nat.reduceLeDiff,reduceCtorEq]<;>rfl) ⟨_,rfl,(Dl _).1,(Dl _).2,⟨a+1,_,ae,sl @Nat.zero_add⟩,aU,fun i hi _=>sd @hi⟩
theorem lz.to {X:Id} {g g':Rows} {n n1 n' m':Nat} (h:lz X ⟨g,n1⟩ ⟨g',n'⟩) (h1:n<=n1) (h2:n'<=m'):lz X ⟨g,n⟩ ⟨g',m'⟩:=
 ⟨Nat.le_trans h1 (Nat.le_trans h.1 h2),fun i hi hv=>h.2 i hi (Nat.lt_of_lt_of_le hv h1)⟩
theorem lz.trans {X:Id} {σ1 σ2 σ3:ax} (h:lz X σ1 σ2) (k:lz X σ2 σ3):lz X σ1 σ3:=⟨Nat.le_trans h.1 k.1,fun i hi hv=>(k.2 i hi (Nat.lt_of_lt_of_le hv h.1)).trans (h.2 i hi hv)⟩
theorem jq (bs:List Int) (hb:∀b∈bs,0<=b/\b<=255) (iK:bs.length<=4096) (X:Id) (n:Int) (A:Nat) (ha:A<=1073741000) (σ:ax) (h:fM σ.get X bs A):
  Call Tryz.prog 30 [.ptr X 0 0,.int .i64 n] σ fun r σ'=>∃v:Int,r=.int .i64 v/\0<=v/\(v=0∨v<n)/\fM σ'.get X bs (A+2)/\lz X σ σ':=by
 refine ij fF rfl fun jc=>?_
 clear jc
 by_cases vG:n<=1
 ·(try((repeat(revert hN;revert N;apply Pn.out));refine wk @vG ?_;(repeat(refine Pn.mk ?_;intro N hN))))
  exact gN (.inl rfl) (vs:=[.int .i64 0]) (sd @Nat.zero_add) ⟨0,rfl,ae,.inl rfl,h.mono ae,aU,fun i hi _=>rfl⟩
 ·have Ge:(n=0)=False:=eq_false ae
  (try((repeat(revert hN;revert N;apply Pn.out));refine wk @vG ?_;(repeat(refine Pn.mk ?_;intro N hN))))
  refine .inr (aA _ _ _ _ _ (fun r σ1 hq=>?_) (Ma bs hb iK X A ae _ h))
  obtain⟨v,rfl,v0,v1,h1,k1⟩:=hq
  refine hN _ _ ?_
  clear hN N
  by_cases h2:(200:Int)<n
  ·(try((repeat(revert hN;revert N;apply Pn.out));refine wk @h2 ?_;(repeat(refine Pn.mk ?_;intro N hN))))
   refine .inr (aA _ _ _ _ _ (fun r σ2 hq=>?_) (Ma bs hb iK X (A+1) ae _ h1))
   obtain⟨u,rfl,u0,u1,C5,k2⟩:=hq
   refine hN _ _ ?_
   clear hN N
   have w1:IntKind.i64.wrap (v*256)=v*256:=cD ae
   have w2:IntKind.i64.wrap (v*256+u)=v*256+u:=cD ae
   (try((repeat(revert hN;revert N;apply Pn.out));refine wk (tw @Ge (tw @w1 @w2)) ?_;(repeat(refine Pn.mk ?_;intro N hN))))
   exact gN (.inl rfl) (vs:=[.int .i64 ((v*256+u).tmod n)]) (sd @Nat.zero_add) ⟨_,rfl,(CT ae ae).1,(CT ae ae).2,C5,(lz.to (k1.trans (lz.to (n:=σ1.next) k2 ae (Nat.le_refl _))) ae aU:lz X ⟨σ.get,σ.next⟩ ⟨σ2.get,_⟩)⟩
  ·(try((repeat(revert hN;revert N;apply Pn.out));refine wk (tw @h2 @Ge) ?_;(repeat(refine Pn.mk ?_;intro N hN))))
   exact gN (.inl rfl) (vs:=[.int .i64 (v.tmod n)]) (sd @Nat.zero_add) ⟨_,rfl,(CT v0 ae).1,(CT v0 ae).2,h1.mono ae,(lz.to k1 ae aU:lz X ⟨σ.get,σ.next⟩ ⟨σ1.get,_⟩)⟩
theorem y7 (bs:List Int) (hb:∀b∈bs,0<=b/\b<=255) (iK:bs.length<=4096) (X:Id) (n:Int) (A:Nat) (ha:A<=1073741000) (σ:ax) (h:fM σ.get X bs A):
  Call Tryz.prog 22 [.ptr X 0 0,.int .i64 n] σ fun r σ'=>∃b:Bool,r=.bool b/\fM σ'.get X bs (A+2)/\lz X σ σ':=by
 refine ij fF rfl fun jc=>?_
 clear jc
 (try((repeat(revert hN;revert N;apply Pn.out));refine wk @Nat.zero_add ?_;(repeat(refine Pn.mk ?_;intro N hN))))
 refine .inr (aA _ _ _ _ _ (fun r σ1 hq=>?_) (jq bs hb iK X n A ha _ h))
 obtain⟨v,rfl,v0,v1,h1,k1⟩:=hq
 refine hN _ _ ?_
 clear hN N
 (try((repeat(revert hN;revert N;apply Pn.out));refine wk @Nat.zero_add ?_;(repeat(refine Pn.mk ?_;intro N hN))))
 exact gN (.inl rfl) (vs:=[.bool _]) (by simp only[gS,jD,go_sem, ↓reduceIte,Nat.reduceEqDiff,Nat.reduceAdd,Nat.reduceSub,Nat.reduceLeDiff,reduceCtorEq]<;>rfl) ⟨_,rfl,h1,(lz.to k1 ae aU:lz X ⟨σ.get,σ.next⟩ ⟨σ1.get,_⟩)⟩
theorem A4 (bs:List Int) (σ:ax):
  Call Tryz.prog 21 [.sl (bs.map kA)] σ fun r σ'=>∃X:Id,r=.ptr X 0 0/\σ.next<=X.bt/\X.bt<σ'.next/\fM σ'.get X bs 0/\∀i:Id,i.bt<σ.next->σ'.get i=σ.get i:=by
 refine ij fF rfl fun jc=>?_
 clear jc
 (try((repeat(revert hN;revert N;apply Pn.out));refine wk @Nat.zero_add ?_;(repeat(refine Pn.mk ?_;intro N hN))))
 exact gN (.inl rfl) (vs:=[.ptr ⟨21001002,_⟩ 0 0]) (by simp only[gS,jD,go_sem, ↓reduceIte,Nat.reduceEqDiff,Nat.reduceAdd,Nat.reduceSub,Nat.reduceLeDiff,reduceCtorEq]<;>rfl) ⟨_,rfl,aU,aU,⟨0,0,Nat.le_refl _,sl @Nat.zero_add⟩,fun i hi=>by have hv:=dj hi;simp only[go_sem, ↓reduceIte,Nat.reduceEqDiff,Nat.reduceAdd,Nat.reduceSub,Nat.reduceLeDiff,reduceCtorEq,hv]⟩
theorem sj (bs:List Int) (hb:∀b∈bs,0<=b/\b<=255) (iK:bs.length<=4096):
  iQ Tryz.prog 8 [.sl (bs.map kA)] fun r=>∃fV:List Int,r=.sl (fV.map aJ)/\(∀x∈fV,0<=x/\x<=19)/\fV.length<=6:=by
 refine iQ.body fF rfl fun jc n0=>?_
 clear jc
 (try((repeat(revert hN;revert N;apply Pn.out));refine wk @Nat.zero_add ?_;(repeat(refine Pn.mk ?_;intro N hN))))
 refine .inr (aA _ _ _ _ _ (fun r σ1 hq=>?_) (A4 bs _))
 obtain⟨X,rfl,x0,x1,hs,hK⟩:=hq
 clear hK
 refine hN _ _ ?_
 clear hN N
 have vX:=dj x1
 have Ef:fM (bK σ1.get ⟨8002000,σ1.next+1⟩ ⟨true,1,[]⟩) X bs 0:=by
  obtain⟨a,z,h1,h2⟩:=hs
  exact⟨a,z,h1,by simp only[go_sem, ↓reduceIte,Nat.reduceEqDiff,Nat.reduceAdd,Nat.reduceSub,Nat.reduceLeDiff,reduceCtorEq,vX]<;>exact h2⟩
 (try((repeat(revert hN;revert N;apply Pn.out));refine wk @Nat.zero_add ?_;(repeat(refine Pn.mk ?_;intro N hN))))
 refine .inr (aA _ _ _ _ _ (fun r σ2 hq=>?_) (jq bs hb iK X 7 0 ae _ Ef))
 obtain⟨v,rfl,v0,v1,h2,k2⟩:=hq
 have hw:=k2.2 ⟨8002000,σ1.next+1⟩ (fun e=>by rw[<-e]at x1;(try dsimp only at x1);omega) aU
 have OD:=k2.1
 (try dsimp only at OD)
 simp only[go_sem, ↓reduceIte,Nat.reduceEqDiff,Nat.reduceAdd,Nat.reduceSub,Nat.reduceLeDiff,reduceCtorEq]at hw
 obtain⟨m,rfl⟩:=Int.eq_ofNat_of_zero_le v0
 clear vX hs Ef k2
 refine hN _ _ ?_
 clear hN N
 (try((repeat(revert hN;revert N;apply Pn.out));refine wk @Nat.zero_add ?_;(repeat(refine Pn.mk ?_;intro N hN))))
 refine bz (fun m env st=>∃(fV:List Int) (w:Id),env 5=.int .i64 (m:Int)/\env 4=.own w 0 fV.length/\st.get w=some ⟨true,1,fV.map aJ⟩/\fM st.get X bs (2+2*fV.length)/\m+fV.length<=6/\(∀x∈fV,0<=x/\x<=19)/\w.bt<st.next/\X.bt<st.next/\w≠X) m ⟨[],⟨8002000,σ1.next+1⟩,sd @Nat.zero_add,sl @Nat.zero_add,hw,h2,by simp only[List.length_nil];omega,fun x hx=>(by cases hx),aU,aU,fun e=>by rw[<-e]at x1;(try dsimp only at x1);omega⟩ ?_
 rintro m env_b st_b ⟨fV,w,b5,b4,gw,hs,hl,hr,vw,vx,iN⟩ eW
 have b3:=eW 3 (by kernel_rfl)
 simp only[go_sem, ↓reduceIte,Nat.reduceEqDiff,Nat.reduceAdd,Nat.reduceSub,Nat.reduceLeDiff,reduceCtorEq]at b3
 clear eW
 by_cases hm:(0:Int)<(m:Int)
 ·(try((repeat(revert hN;revert N;apply Pn.out));refine wk (tw @b3 (tw @b4 (tw @b5 @hm))) ?_;(repeat(refine Pn.mk ?_;intro N hN))))
  refine .inr (aA _ _ _ _ _ (fun r σ3 hq=>?_) (jq bs hb iK X 20 (2+2*fV.length) ae _ hs))
  obtain⟨u,rfl,u0,u1,h3,k3⟩:=hq
  have gw3:=(k3.2 w iN aU).trans gw
  have Zn:=k3.1
  (try dsimp only at Zn)
  clear k3
  have vw3:=dj (i:=w) (n:=σ3.next) ae
  have vx3:=dj (i:=X) (n:=σ3.next) ae
  have wm:IntKind.i64.wrap ((m:Int)-1)=((m-1:Nat):Int):=(cD ae).trans ae
  refine hN _ _ ?_
  clear hN N
  have Uq:fV.length<=16777215:=ae
  have e1:(X=w)=False/\(w=X)=False:=⟨eq_false fun e=>iN e.symm,eq_false iN⟩
  have OC:(fV++[u]).map aJ=fV.map aJ++[aJ u]:=by simp
  have Zg:(fV++[u]).length=fV.length+1:=by simp
  rw[aJ]at OC
  obtain⟨a,z,hz,gX⟩:=h3
  (try((repeat(revert hN;revert N;apply Pn.out));refine wk (tw @b3 (tw @b4 (tw @b5 (tw @gw3 (tw @vw3 (tw @wm @Uq)))))) ?_;(repeat(refine Pn.mk ?_;intro N hN))))
  refine⟨m-1,ae,fV++[u],⟨8006004,σ3.next⟩,sl @Nat.zero_add,sl @Zg,sl @OC,⟨a,z,by rw[Zg];omega,by simp only[go_sem, ↓reduceIte,Nat.reduceEqDiff,Nat.reduceAdd,Nat.reduceSub,Nat.reduceLeDiff,reduceCtorEq,vx3,e1]<;>exact gX⟩,by rw[Zg];omega,fun x hx=>?_,aU,aU,fun e=>by have:=congrArg Id.bt e;(try dsimp only at this);omega⟩
  rcases List.mem_append.1 hx with h|h
  ·exact hr x h
  ·rw[List.mem_singleton.1 h];omega
 ·(try((repeat(revert hN;revert N;apply Pn.out));refine wk (tw @b3 (tw @b4 (tw @b5 @hm))) ?_;(repeat(refine Pn.mk ?_;intro N hN))))
  exact⟨[.own w 0 fV.length],sd @b4,_,by simp only[gx];exact eE (e:=aJ) gw rfl fun x=>Rf _ _ _,fV,rfl,hr,ae⟩
end Go.Proofs.YtiabgllilcfheaaGreat.V

namespace Go.Proofs.YtiabgllilcfheaaGreat
open Go.RowKit
def jv (k:Int):ByteArray:=if k=0 then⟨#[48]⟩else⟨(vh k.toNat).toArray⟩
theorem DH (w:World) (k:Int) (h0:0<=k) (h1:k<=4611686018427387904):
  Calls Tryz.prog 58 #[.int .i64 k] w fun e w'=>e=.returned (.string (jv k))/\Below w.heap.size w w':=by
 go_enter Tryz.func58,Tryz.ntmps58
 go_wp2_with fail
 go_loopw [4,3] (fun a s wr=>∃(j:Int) (l:ByteArray),a=.int .i64 j/\s=.string l/\0<=j/\j<=4611686018427387904/\Hid (vh j.toNat++l.data.toList=vh k.toNat)/\Below w.heap.size w wr) (fun a _ _=>(intOf a).toNat)
 case atStart=>exact⟨k,⟨#[]⟩,rfl,rfl,h0,h1,Lib.hid (by simp),Below.refl _ _⟩
 case round=>
  obtain⟨j,l,rfl,rfl,Xr,Za,hd,hb⟩:=hrel
  have ik:l.size<=19:=by
   have h1:=congrArg List.length hd.out
   have h2:=yq 19 k.toNat (by omega)
   rw[List.length_append]at h1
   have:l.data.toList.length=l.size:=by rw[Array.length_toList];rfl
   omega
  by_cases hj:j=0
  ·subst hj
   by_cases hk:k=0
   ·go_wp2_with fail
    go_ret
    exact⟨by simp[jv,hk],hb⟩
   ·have HH:¬k<0:=by omega
    go_wp2_with fail
    go_ret
    refine⟨?_,hb⟩
    have h1:=hd.out
    rw[show(0:Int).toNat=0 by rfl,IQ,List.nil_append]at h1
    have h2:l=jv k:=by
     rw[jv,if_neg hk]
     refine ByteArray.ext (Array.ext' ?_)
     rw[h1]
    rw[h2];rfl
  ·have Xj:∀v:Int,(convert 22 9 (.slice (some ⟨wr.heap.size,0,none⟩) 1 1)).run Tryz.prog (wr.alloc (.cells #[.int .u8 v] 5))=.ok (.string ⟨#[UInt8.ofNat v.toNat]⟩) (wr.alloc (.cells #[.int .u8 v] 5)):=by
    intro v
    rw[run_convert_bytes_string _ _ _ 5 _ _ _ Tryz.underlying22 Tryz.underlying5 Tryz.underlying9,run_bytesToString _ _ _ _ [v] (by simp[loadCells,loadCellsFrom,go_sem])]
    rfl
   have hr:=ik
   go_wp2_with fail
   refine⟨⟨_,_,rfl,rfl,by omega,by omega,Lib.hid ?_,hb.alloc hb.size _⟩,by simp[intOf];omega⟩
   rw[<-hd.out,IG,KY (show j.toNat≠0 by omega),show(j / 10).toNat=j.toNat / 10 by omega,show(48+j % 10).toNat=48+j.toNat % 10 by omega]
   simp
end Go.Proofs.YtiabgllilcfheaaGreat
namespace Go.Proofs.YtiabgllilcfheaaGreat.V
open Go.RowKit
theorem nN (k:Int) (h0:0<=k) (h1:k<=4611686018427387904):au Tryz.prog 58 [.int .i64 k] (.str (jv k)):=
 nz (vs0:= #[.int .i64 k]) (u0:=.string (jv k)) (fun _ _ _ _=>Pp) (fun w D ι=>.fy _ _ (.str _)) (fun g=>B5 g 5 _) fun w=>DH w k h0 h1
theorem kc (k:Int) (h1:k<=4611686018427387904):(jv k).size<=20:=by
 unfold jv
 split
 ·decide
 ·have h2:=yq 20 k.toNat ae
  show(vh k.toNat).toArray.size<=20
  simpa using h2
theorem im (a b:ByteArray):(a++b).size=a.size+b.size:=ByteArray.size_append
def nk (E:Nat->Prop) (n0:Nat) (g:Rows) (n:Nat) (e:Id) (c:Nat):Prop:=E e.site/\n0<=e.bt/\e.bt<n/\∃l:List Int,l.length=c/\g e=some ⟨true,1,l.map aJ⟩
theorem nk.frame {E:Nat->Prop} {n0:Nat} {g g':Rows} {n n':Nat} {e:Id} {c:Nat} (h:nk E n0 g n e c) (hn:n<=n') (hf:∀i:Id,E i.site->n0<=i.bt->i.bt<n->g' i=g i):nk E n0 g' n' e c:=by
 obtain⟨h1,h2,h3,l,h4,h5⟩:=h
 exact⟨h1,h2,ae,l,h4,(hf e h1 h2 h3).trans h5⟩
def gI (E:Nat->Prop) (n0:Nat) (g:Rows) (n:Nat) (rows:List (List AV)):Prop:=∀row∈rows,∃(nm:ByteArray) (e:Id),row=[.str nm,.own e 0 4]/\(nm.size<=64/\1<=nm.size)/\nk E n0 g n e 4
theorem gI.frame {E:Nat->Prop} {n0:Nat} {g g':Rows} {n n':Nat} {rows:List (List AV)} (h:gI E n0 g n rows) (hn:n<=n') (hf:∀i:Id,E i.site->n0<=i.bt->i.bt<n->g' i=g i):gI E n0 g' n' rows:=fun row hr=>by
 obtain⟨nm,e,h1,h2,h3⟩:=h row hr
 exact⟨nm,e,h1,h2,h3.frame hn hf⟩
theorem gI.snoc {E:Nat->Prop} {n0:Nat} {g:Rows} {n:Nat} {rows:List (List AV)} (h:gI E n0 g n rows) {nm:ByteArray} {e:Id} (hs:nm.size<=64/\1<=nm.size) (he:nk E n0 g n e 4):gI E n0 g n (rows++[[.str nm,.own e 0 4]]):=fun row hr=>by
 rcases List.mem_append.1 hr with h1|h1
 ·exact h row h1
 ·exact⟨nm,e,List.mem_singleton.1 h1,hs,he⟩
theorem gI.fz {E:Nat->Prop} {n0:Nat} {g:Rows} {n:Nat}:∀{rows:List (List AV)},gI E n0 g n rows->∃L:List jE,L.length=rows.length/\(∀t∈L,t.cI.size<=64)/\∀k,iu g (k+2) rows=some (L.map dD)
 |[],_=>⟨[],rfl,(fun t ht=>nomatch ht),fun k=>by(try simp only[List.map_nil]);rw[iu.eq_def]⟩
 |row::rows,h=>by
  obtain⟨L,h1,h2,h3⟩:=gI.fz (rows:=rows) fun r hr=>h r (List.mem_cons_of_mem _ hr)
  obtain⟨nm,e,h4,h5,h6⟩:=h row List.mem_cons_self
  obtain⟨_,_,_,l,h7,h8⟩:=h6
  subst h4
  refine⟨⟨nm,l⟩::L,by simp[h1],fun t ht=>?_,fun k=>?_⟩
  ·rcases List.mem_cons.1 ht with rfl|ht
   ·exact h5.1
   ·exact h2 t ht
  ·have h9:gU g (k+2) (.own e 0 4)=some (.sl (l.map aJ)):=by
    rw[<-h7];exact eE (e:=aJ) h8 rfl fun x=>Rf g k x
   rw[iu,bF,B5,bF,h9,cH,h3 k]
   rfl
theorem nk.write {E:Nat->Prop} {n0:Nat} {g:Rows} {n:Nat} {e u:Id} {l:List Int} (h:nk E n0 g n u 4) (hl:l.length=4):nk E n0 (bK g e ⟨true,1,l.map aJ⟩) n u 4:=by
 obtain⟨h1,h2,h3,k,h4,h5⟩:=h
 by_cases hu:u=e
 ·subst hu;exact⟨h1,h2,h3,l,hl,by simp[bK]⟩
 ·exact⟨h1,h2,h3,k,h4,by simp[bK,hu,h5]⟩
theorem gI.write {E:Nat->Prop} {n0:Nat} {g:Rows} {n:Nat} {rows:List (List AV)} {e:Id} {l:List Int} (h:gI E n0 g n rows) (hl:l.length=4):gI E n0 (bK g e ⟨true,1,l.map aJ⟩) n rows:=fun row hr=>by
 obtain⟨nm,u,h1,h2,h3⟩:=h row hr
 exact⟨nm,u,h1,h2,h3.write hl⟩
theorem gI.get {E:Nat->Prop} {n0:Nat} {g:Rows} {n:Nat} {rows:List (List AV)} (h:gI E n0 g n rows) {k:Nat} (hk:k<rows.length):∃(nm:ByteArray) (e:Id),rows[k]? =some [.str nm,.own e 0 4]/\nk E n0 g n e 4:=by
 obtain⟨nm,e,h1,_,h3⟩:=h _ (List.getElem_mem hk)
 exact⟨nm,e,by rw[List.getElem?_eq_getElem hk,h1],h3⟩
theorem gI.name {E:Nat->Prop} {n0:Nat} {g:Rows} {n:Nat} {rows:List (List AV)} (h:gI E n0 g n rows) {k:Nat} (hk:k<rows.length):∃(nm:ByteArray) (e:Id),rows[k]? =some [.str nm,.own e 0 4]/\(nm.size<=64/\1<=nm.size)/\nk E n0 g n e 4:=by
 obtain⟨nm,e,h1,h2,h3⟩:=h _ (List.getElem_mem hk)
 exact⟨nm,e,by rw[List.getElem?_eq_getElem hk,h1],h2,h3⟩
theorem vM (c:UInt8) (dt:ByteArray):1<=((⟨#[c]⟩:ByteArray)++dt).size:=by
 rw[im]
 have:(⟨#[c]⟩:ByteArray).size=1:=rfl
 omega
def gZ (n0:Nat) (g:Rows) (n:Nat) (v:AV) (k:Nat):Prop:=(k=0/\v=.ck)∨(0<k/\∃(o:Id) (L:List kE),v=.own o 0 k/\L.length=k/\g o=some ⟨true,2,L.map ez⟩/\(∀x∈L,x.cI.size<=64)/\n0<=o.bt/\o.bt<n)
def hZ (E:Nat->Prop) (n0:Nat) (g:Rows) (n:Nat) (v:AV) (k:Nat):Prop:=(k=0/\v=.ck)∨(0<k/\∃(o:Id) (rows:List (List AV)),v=.own o 0 k/\rows.length=k/\g o=some ⟨true,2,rows⟩/\gI E n0 g n rows/\¬E o.site/\n0<=o.bt/\o.bt<n)
theorem gZ.frame {n0:Nat} {g g':Rows} {n n':Nat} {v:AV} {k:Nat} (h:gZ n0 g n v k) (hn:n<=n') (hf:∀i:Id,n0<=i.bt->i.bt<n->g' i=g i):gZ n0 g' n' v k:=by
 rcases h with h|⟨h0,o,L,h1,h2,h3,h4,h5,h6⟩
 ·exact .inl h
 ·exact .inr ⟨h0,o,L,h1,h2,(hf o h5 h6).trans h3,h4,h5,ae⟩
theorem hZ.frame {E:Nat->Prop} {n0:Nat} {g g':Rows} {n n':Nat} {v:AV} {k:Nat} (h:hZ E n0 g n v k) (hn:n<=n') (hf:∀i:Id,n0<=i.bt->i.bt<n->g' i=g i):hZ E n0 g' n' v k:=by
 rcases h with h|⟨h0,o,L,h1,h2,h3,h4,h5,h6,h7⟩
 ·exact .inl h
 ·exact .inr ⟨h0,o,L,h1,h2,(hf o h6 h7).trans h3,h4.frame hn fun i _ a b=>hf i a b,h5,h6,ae⟩
theorem gZ.fz {n0:Nat} {g:Rows} {n:Nat} {v:AV} {k:Nat} (h:gZ n0 g n v k) (hk:0<k):∃L:List kE,L.length=k/\(∀x∈L,x.cI.size<=64)/\∀j,gU g (j+2) v=some (.sl (L.map ez)):=by
 rcases h with h|⟨h0,o,L,h1,h2,h3,h4,h5,h6⟩
 ·omega
 ·subst h1 h2
  exact⟨L,rfl,h4,fun j=>eE (e:=ez) h3 rfl fun x=>by simp[ez,bF,cH,B5,eK]⟩
theorem hZ.fz {E:Nat->Prop} {n0:Nat} {g:Rows} {n:Nat} {v:AV} {k:Nat} (h:hZ E n0 g n v k) (hk:0<k):∃L:List jE,L.length=k/\(∀x∈L,x.cI.size<=64)/\∀j,gU g (j+3) v=some (.sl (L.map dD)):=by
 rcases h with h|⟨h0,o,rows,h1,h2,h3,h4,h5,h6⟩
 ·omega
 ·obtain⟨L,q1,q2,q3⟩:=h4.fz
  subst h1
  refine⟨L,ae,q2,fun j=>tX h3 ae ?_⟩
  rw[List.drop_zero,List.take_of_length_le ae]
  exact q3 j
theorem gZ.cell {n0:Nat} {g:Rows} {n:Nat} {v:AV} {k:Nat} (h:gZ n0 g n v k):v.cells=[v]/\v.cell=true:=by
 rcases h with⟨_,rfl⟩|⟨_,o,L,rfl,_⟩<;>exact⟨rfl,rfl⟩
theorem hZ.cell {E:Nat->Prop} {n0:Nat} {g:Rows} {n:Nat} {v:AV} {k:Nat} (h:hZ E n0 g n v k):v.cells=[v]/\v.cell=true:=by
 rcases h with⟨_,rfl⟩|⟨_,o,L,rfl,_⟩<;>exact⟨rfl,rfl⟩
theorem gZ.since {n0 n1:Nat} {g:Rows} {n:Nat} {v:AV} {k:Nat} (h:gZ n1 g n v k) (hn:n0<=n1):gZ n0 g n v k:=by
 rcases h with h|⟨h0,o,L,h1,h2,h3,h4,h5,h6⟩
 ·exact .inl h
 ·exact .inr ⟨h0,o,L,h1,h2,h3,h4,ae,h6⟩
theorem hZ.since {E:Nat->Prop} {n0 n1:Nat} {g:Rows} {n:Nat} {v:AV} {k:Nat} (h:hZ E n1 g n v k) (hn:n0<=n1):hZ E n0 g n v k:=by
 rcases h with h|⟨h0,o,L,h1,h2,h3,h4,h5,h6⟩
 ·exact .inl h
 ·exact .inr ⟨h0,o,L,h1,h2,h3,fun row hr=>(by
   obtain⟨nm,e,q1,q2,q3,q4,q5⟩:=h4 row hr
   exact⟨nm,e,q1,q2,q3,ae,q5⟩),h5,ae,h6.2⟩
def qb (n0:Nat) (g:Rows) (n:Nat) (r:AV):Prop:=∃(E:Nat->Prop) (vg vt:AV) (kg kt:Nat) (o:Id) (p:aa) (m:Int),r=.agg [vg,vt,.own o 0 1,.int .i64 m]/\gZ n0 g n vg kg/\hZ E n0 g n vt kt/\0<kg/\0<kt/\kg<=1000/\kt<=1000/\g o=some ⟨true,3,[ab p]⟩/\n0<=o.bt/\o.bt<n
theorem qb.frame {n0:Nat} {g g':Rows} {n n':Nat} {r:AV} (h:qb n0 g n r) (hn:n<=n') (hf:∀i:Id,n0<=i.bt->i.bt<n->g' i=g i):qb n0 g' n' r:=by
 obtain⟨E,vg,vt,kg,kt,o,p,m,h1,h2,h3,h4,h5,h6,h7,h8,h9,DW⟩:=h
 exact⟨E,vg,vt,kg,kt,o,p,m,h1,h2.frame hn hf,h3.frame hn hf,h4,h5,h6,h7,(hf o h9 DW).trans h8,h9,ae⟩
def UQ (s:aw):Prop:=jj s.aZ/\s.aZ.br.length<=1048576/\s.aZ.aq.length<=1048576/\s.cj.aq.length=1
theorem qb.fz {n0:Nat} {g:Rows} {n:Nat} {r:AV} (h:qb n0 g n r):∃s:aw,UQ s/\gU g 6 r=some (.agg (aH s)):=by
 obtain⟨E,vg,vt,kg,kt,o,p,m,h1,h2,h3,h4,h5,h6,h7,h8,h9,DW⟩:=h
 obtain⟨L,a1,a2,a3⟩:=h2.fz h4
 obtain⟨T,b1,b2,b3⟩:=h3.fz h5
 subst h1
 refine⟨⟨⟨L,T⟩,⟨[p]⟩,m⟩,⟨⟨fun x hx=>Nat.le_trans (a2 x hx) (by decide),fun x hx=>Nat.le_trans (b2 x hx) (by decide)⟩,aU,aU,rfl⟩,?_⟩
 have Rn:gU g 5 (.own o 0 1)=some (.sl [ab p]):=eE (e:=ab) (l:=[p]) h8 rfl fun x=>by simp[ab,bF,cH,eK]
 rw[oG,bF,a3 3,bF,b3 2,bF,Rn,bF,eK,cH]
 rfl
end Go.Proofs.YtiabgllilcfheaaGreat.V

namespace Go.Proofs.YtiabgllilcfheaaGreat.V
open Go.RowKit
attribute [local irreducible] er wpOps fY Call
attribute [local go_sem] aF fC eR fN fK du upd cw K.av cQ AV.cells AV.cell rowOf rowsOf part ld rowAt bK cq dH dX gG bP dd eh fJ fa dw ea db da dM dP bV bd cU bU cW cV dV eb dZ cR bY dc dY bQ aD cY cF gF bD cL bW aY dn bj dI AV.undef bH bJ dQ dW dL dK cK ef eo cz ee ec cX cZ List.getD_cons_zero List.getD_cons_succ List.getD_nil List.all_cons List.all_nil Bool.and_true Bool.true_and Bool.and_self Bool.not_true Bool.not_false Option.map_some Option.map_none Option.bind_some Option.bind_none List.length_cons List.length_nil List.take_succ_cons List.take_zero List.take_nil List.drop_succ_cons List.drop_zero List.drop_nil List.head?_cons List.map_cons List.map_nil List.getElem?_cons_zero List.getElem?_cons_succ List.cons_append List.nil_append List.append_nil List.length_map List.set_cons_zero List.set_cons_succ Nat.reduceMul eq_self Int.toNat_natCast Int.natCast_nonneg and_self true_and and_true decide_true decide_false Bool.false_eq_true Nat.zero_add Nat.add_zero List.contains_cons List.contains_nil Bool.or_false Bool.false_or beq_self_eq_true Nat.reduceBEq ne_eq not_true_eq_false not_false_eq_true Id.mk.injEq false_and and_false Nat.reduceLT Int.reduceLE Int.reduceLT Int.reduceToNat Int.reduceNeg Int.reduceAdd Nat.le_refl List.length_append beq_true beq_false Bool.not_eq_eq_eq_not or_false false_or eu ai aj aP bh bZ cm aW bx aK bf cP bI
def x8 (X:Id) (bs:List Int) (A:Nat) (σ:ax) (r:AV) (σ':ax):Prop:=qb σ.next σ'.get σ'.next r/\fM σ'.get X bs (A+1000)/\lz X σ σ'
def gr (s:Nat):Prop:=s=23008006
def uV (v:AV) (s:Nat):Prop:=∀(o:Id) (c:Nat),v=.own o 0 c->o.site=s
theorem Gt (bs:List Int) (hb:∀b∈bs,0<=b/\b<=255) (iK:bs.length<=4096) (X:Id) (A:Nat) (ha:A<=900000) (σ:ax) (h:fM σ.get X bs A) (hX:X.bt<σ.next):
  Call Tryz.prog 23 [.ptr X 0 0] σ (x8 X bs A σ):=by
 refine xX U4 rfl fun jc=>?_
 simp only[Fm,Te,Tf,Tg,Th,Ti,Tj]
 try simp only[q]
 clear jc
 have vX:=dj hX
 (try((repeat(revert hN;revert N;apply Pn.out));refine wk @Nat.zero_add ?_;(repeat(refine Pn.mk ?_;intro N hN))))
 refine .inr (aA _ _ _ _ _ (fun r σ1 hq=>?_) (jq bs hb iK X 2 A ae _ (by
  obtain⟨a,z,q1,q2⟩:=h
  exact⟨a,z,q1,by simp only[go_sem, ↓reduceIte,Nat.reduceEqDiff,Nat.reduceAdd,Nat.reduceSub,Nat.reduceLeDiff,reduceCtorEq,vX]<;>exact q2⟩)))
 obtain⟨v,rfl,v0,v1,h1,hK⟩:=hq
 obtain⟨g1,x1⟩:=σ1
 (try dsimp only at h1)
 have Ko:=hK.1
 (try dsimp only at Ko)
 have lP:=hK.2 ⟨23000000,σ.next⟩ (fun e=>by rw[<-e]at hX;(try dsimp only at hX);omega) aU
 have F5:∀i:Id,i≠X->i.bt<σ.next->g1 i=σ.get i:=fun i hi hv=>(hK.2 i hi aU).trans (by have hv:=dj hv;simp only[go_sem, ↓reduceIte,Nat.reduceEqDiff,Nat.reduceAdd,Nat.reduceSub,Nat.reduceLeDiff,reduceCtorEq,hv])
 simp only[go_sem, ↓reduceIte,Nat.reduceEqDiff,Nat.reduceAdd,Nat.reduceSub,Nat.reduceLeDiff,reduceCtorEq]at lP
 clear hK h
 generalize hz:IntKind.i64.wrap (1+v)=z
 refine hN _ _ ?_
 clear hN N
 (try((repeat(revert hN;revert N;apply Pn.out));refine wk @hz ?_;(repeat(refine Pn.mk ?_;intro N hN))))
 have Wy:=dj (i:=X) (n:=x1) ae
 refine .inr (aA _ _ _ _ _ (fun r σ2 hq=>?_) (jq bs hb iK X 6 (A+2) ae _ (by
  obtain⟨a,z,q1,q2⟩:=h1
  exact⟨a,z,q1,by simp only[go_sem, ↓reduceIte,Nat.reduceEqDiff,Nat.reduceAdd,Nat.reduceSub,Nat.reduceLeDiff,reduceCtorEq,Wy]<;>exact q2⟩)))
 obtain⟨y,rfl,y0,y1,h2,hK⟩:=hq
 obtain⟨g2,x2⟩:=σ2
 (try dsimp only at h2)
 have wL:=hK.1
 (try dsimp only at wL)
 have B6:=hK.2 ⟨23000000,σ.next⟩ (fun e=>by rw[<-e]at hX;(try dsimp only at hX);omega) aU
 have Vf:=hK.2 ⟨23002001,x1+1⟩ (fun e=>by rw[<-e]at hX;(try dsimp only at hX);omega) aU
 have Yr:∀i:Id,i≠X->i.bt<σ.next->g2 i=σ.get i:=fun i hi hv=>(hK.2 i hi aU).trans (by have h8:=dj (i:=i) (n:=x1) ae;have h9:=F5 i hi hv;simp only[go_sem, ↓reduceIte,Nat.reduceEqDiff,Nat.reduceAdd,Nat.reduceSub,Nat.reduceLeDiff,reduceCtorEq,h8,h9])
 simp only[go_sem, ↓reduceIte,Nat.reduceEqDiff,Nat.reduceAdd,Nat.reduceSub,Nat.reduceLeDiff,reduceCtorEq,lP]at B6 Vf
 clear hK h1 F5 lP
 obtain⟨m,hm⟩:∃m:Nat,IntKind.i64.wrap (2+y)=(m:Int):=⟨(2+y).toNat,by rw[cD ae];omega⟩
 have hmb:2<=m/\m<=7:=by
  rw[cD ae]at hm
  omega
 refine hN _ _ ?_
 clear hN N
 (try((repeat(revert hN;revert N;apply Pn.out));refine wk @hm ?_;(repeat(refine Pn.mk ?_;intro N hN))))
 refine bz (fun n env st=>∃k:Nat,n=(m)-k/\k<=(m)/\env 6=.int .i64 (k:Int)/\((fM st.get X bs (A+10+8*k)/\x2<=st.next/\(∀i:Id,i≠X->i≠⟨23002001,x1+1⟩->i.bt<x2->st.get i=g2 i)/\∃vg vt,st.get ⟨23002001,x1+1⟩=some ⟨true,2,[[vg,vt]]⟩/\gZ x2 st.get st.next vg k/\hZ gr x2 st.get st.next vt k/\uV vg 23007008/\uV vt 23013004))) (m) ⟨0,ae,ae,sl (tw @hz @hm),by(try dsimp only);exact⟨h2.mono ae,ae,fun i _ _ _=>rfl,.ck,.ck,Vf,.inl ⟨rfl,rfl⟩,.inl ⟨rfl,rfl⟩,(fun o c e=>by cases e),(fun o c e=>by cases e)⟩⟩ ?_
 rintro n_a env_a st_a ⟨k,rfl,ale,a6,oh⟩ eJ
 have a0:=eJ 0 (by kernel_rfl);have a2:=eJ 2 (by kernel_rfl);have a3:=eJ 3 (by kernel_rfl);have a4:=eJ 4 (by kernel_rfl);have a5:=eJ 5 (by kernel_rfl)
 simp only[go_sem, ↓reduceIte,Nat.reduceEqDiff,Nat.reduceAdd,Nat.reduceSub,Nat.reduceLeDiff,reduceCtorEq,hz,hm]at a0 a2 a3 a4 a5
 clear eJ
 obtain⟨aS,aN,aO,vg,vt,Nr,aG,aT,aGs,aTs⟩:=oh
 by_cases hk:(k:Int)<(m:Int)
 ·have dx:∀{e:Env} {gg:Rows} {nx:Nat},(e 6=.int .i64 (IntKind.i64.wrap ((k:Int)+1)))->((fM gg X bs (A+10+8*(k+1))/\x2<=nx/\(∀i:Id,i≠X->i≠⟨23002001,x1+1⟩->i.bt<x2->gg i=g2 i)/\∃vg vt,gg ⟨23002001,x1+1⟩=some ⟨true,2,[[vg,vt]]⟩/\gZ x2 gg nx vg (k+1)/\hZ gr x2 gg nx vt (k+1)/\uV vg 23007008/\uV vt 23013004))->∃m0,m0<(m)-k/\∃k:Nat,m0=(m)-k/\k<=(m)/\e 6=.int .i64 (k:Int)/\((fM gg X bs (A+10+8*k)/\x2<=nx/\(∀i:Id,i≠X->i≠⟨23002001,x1+1⟩->i.bt<x2->gg i=g2 i)/\∃vg vt,gg ⟨23002001,x1+1⟩=some ⟨true,2,[[vg,vt]]⟩/\gZ x2 gg nx vg k/\hZ gr x2 gg nx vt k/\uV vg 23007008/\uV vt 23013004)):=fun x1 x2=>⟨_,ae,k+1,rfl,ae,(by rw[x1,az ae]),x2⟩
  have sY:=nN (k:Int) ae ae
  have F7:=kc (k:Int) ae
  have iR:k<=16777215:=ae
  generalize jv (k:Int)=dt at sY F7
  have e9:(#[103]:Array UInt8).size+dt.size<=9223372036854775807:=by
   have:(#[103]:Array UInt8).size=1:=rfl
   omega
  have iL:(#[116]:Array UInt8).size+dt.size<=9223372036854775807:=by
   have:(#[116]:Array UInt8).size=1:=rfl
   omega
  have l6:((⟨#[103]⟩:ByteArray)++dt).size<=64:=by
   rw[im]
   have:(⟨#[103]⟩:ByteArray).size=1:=rfl
   omega
  have Ec:((⟨#[116]⟩:ByteArray)++dt).size<=64:=by
   rw[im]
   have:(⟨#[116]⟩:ByteArray).size=1:=rfl
   omega
  obtain⟨ga,na⟩:=st_a
  (try dsimp only at aS aN aO Nr aG aT)
  have UL:=dj (i:=X) (n:=na) ae
  have Ud:k=0->(AV.own ⟨23007008,na+1⟩ 0 1)=.own ⟨23007008,na+1⟩ 0 (k+1):=fun h=>by rw[h]
  rcases aG with⟨k0,rfl⟩|⟨k0,o,L,rfl,hL,go,hs,k7,oP⟩
  (repeat(first|((repeat(revert hN;revert N;apply Pn.out));refine wk (tw @a6 (tw @a0 (tw @a2 (tw @a3 (tw @a4 (tw @a5 (tw @hk (tw @Nr (tw @e9 @iL))))))))) ?_;(repeat(refine Pn.mk ?_;intro N hN)))|((try apply Or.inl);refine⟨_,au.x (sY) (sd (tw @a6 (tw @a0 (tw @a2 (tw @a3 (tw @a4 (tw @a5 (tw @hk (tw @Nr (tw @e9 @iL)))))))))),?_⟩;refine hN _ _ ?_;clear hN N)))
  refine .inr (aA _ _ _ _ _ (fun r σ3 hq=>?_) (y7 bs hb iK X 4 (A+10+8*k) ae _ (by
   obtain⟨za,zz,xM,gX⟩:=aS
   exact⟨za,zz,xM,by simp only[go_sem, ↓reduceIte,Nat.reduceEqDiff,Nat.reduceAdd,Nat.reduceSub,Nat.reduceLeDiff,reduceCtorEq,UL,Wy]<;>exact gX⟩)))
  obtain⟨b,rfl,h3,hK⟩:=hq
  obtain⟨g3,x3⟩:=σ3
  (try dsimp only at h3)
  have Gk:=hK.1
  (try dsimp only at Gk)
  have c4:=hK.2 ⟨23002001,x1+1⟩ (fun e=>by rw[<-e]at hX;(try dsimp only at hX);omega) aU
  have c7:=hK.2 ⟨23008008,na+1+1⟩ (fun e=>by rw[<-e]at hX;(try dsimp only at hX);omega) aU
  have cE:=hK.2 ⟨23008006,na+1+1⟩ (fun e=>by rw[<-e]at hX;(try dsimp only at hX);omega) aU
  have cG:=hK.2 ⟨23007008,na+1⟩ (fun e=>by rw[<-e]at hX;(try dsimp only at hX);omega) aU
  simp only[go_sem, ↓reduceIte,Nat.reduceEqDiff,Nat.reduceAdd,Nat.reduceSub,Nat.reduceLeDiff,reduceCtorEq]at c4 c7 cE cG
  replace cE:∃l:List Int,l.length=4/\g3 ⟨23008006,na+1+1⟩=some ⟨true,1,l.map aJ⟩:=⟨[0,IntKind.i64.wrap ((k:Int)+1),0,(k:Int)],rfl,cE⟩
  replace cG:∃L:List kE,L.length=k+1/\g3 ⟨23007008,na+1⟩=some ⟨true,2,L.map ez⟩/\∀x∈L,x.cI.size<=64:=⟨[⟨(⟨#[103]⟩:ByteArray)++dt,z⟩],by rw[k0];rfl,cG,fun x hx=>by rw[List.mem_singleton.1 hx];exact l6⟩
  have cO:∀i:Id,i≠X->i≠⟨23002001,x1+1⟩->i.bt<na->(i.site≠23007008∨i.bt<x2)->g3 i=ga i:=fun i h1 h2 h3 h4=>(hK.2 i h1 aU).trans (by
   have h8:=dj h3
   have h9:=eq_false h2
   simp only[go_sem, ↓reduceIte,Nat.reduceEqDiff,Nat.reduceAdd,Nat.reduceSub,Nat.reduceLeDiff,reduceCtorEq,h8,h9])
  clear hK
  rw[Ud k0]at c4
  clear k0 Ud
  refine hN _ _ ?_
  clear hN N
  rotate_left 1
  have vo:=dj oP
  have oB:∀s,(o=⟨s,x1+1⟩)=False/\((⟨s,x1+1⟩:Id)=o)=False:=fun s=>⟨eq_false fun e=>by rw[e]at k7;(try dsimp only at k7);omega,eq_false fun e=>by rw[<-e]at k7;(try dsimp only at k7);omega⟩
  have kU:(L.map ez).length=k:=by rw[List.length_map,hL]
  have nX:(X=o)=False:=eq_false fun h=>by rw[<-h]at k7;omega
  (repeat(first|((repeat(revert hN;revert N;apply Pn.out));refine wk (tw @a6 (tw @a0 (tw @a2 (tw @a3 (tw @a4 (tw @a5 (tw @hk (tw @Nr (tw @e9 (tw @iL (tw @go (tw @vo (tw @oB (tw @iR @kU)))))))))))))) ?_;(repeat(refine Pn.mk ?_;intro N hN)))|((try apply Or.inl);refine⟨_,au.x (sY) (sd (tw @a6 (tw @a0 (tw @a2 (tw @a3 (tw @a4 (tw @a5 (tw @hk (tw @Nr (tw @e9 (tw @iL (tw @go (tw @vo (tw @oB (tw @iR @kU))))))))))))))),?_⟩;refine hN _ _ ?_;clear hN N)))
  refine .inr (aA _ _ _ _ _ (fun r σ3 hq=>?_) (y7 bs hb iK X 4 (A+10+8*k) ae _ (by
   obtain⟨za,zz,xM,gX⟩:=aS
   exact⟨za,zz,xM,by simp only[go_sem, ↓reduceIte,Nat.reduceEqDiff,Nat.reduceAdd,Nat.reduceSub,Nat.reduceLeDiff,reduceCtorEq,UL,Wy,nX]<;>exact gX⟩)))
  obtain⟨b,rfl,h3,hK⟩:=hq
  obtain⟨g3,x3⟩:=σ3
  (try dsimp only at h3)
  have Gk:=hK.1
  (try dsimp only at Gk)
  have c4:=hK.2 ⟨23002001,x1+1⟩ (fun e=>by rw[<-e]at hX;(try dsimp only at hX);omega) aU
  have c7:=hK.2 ⟨23008008,na+1+1⟩ (fun e=>by rw[<-e]at hX;(try dsimp only at hX);omega) aU
  have cE:=hK.2 ⟨23008006,na+1+1⟩ (fun e=>by rw[<-e]at hX;(try dsimp only at hX);omega) aU
  have cG:=hK.2 ⟨23007008,na+1⟩ (fun e=>by rw[<-e]at hX;(try dsimp only at hX);omega) aU
  simp only[go_sem, ↓reduceIte,Nat.reduceEqDiff,Nat.reduceAdd,Nat.reduceSub,Nat.reduceLeDiff,reduceCtorEq,oB]at c4 c7 cE cG
  replace cE:∃l:List Int,l.length=4/\g3 ⟨23008006,na+1+1⟩=some ⟨true,1,l.map aJ⟩:=⟨[0,IntKind.i64.wrap ((k:Int)+1),0,(k:Int)],rfl,cE⟩
  replace cG:∃L:List kE,L.length=k+1/\g3 ⟨23007008,na+1⟩=some ⟨true,2,L.map ez⟩/\∀x∈L,x.cI.size<=64:=⟨L++[⟨(⟨#[103]⟩:ByteArray)++dt,z⟩],by simp[hL],by rw[List.map_append];exact cG,fun x hx=>by
   rcases List.mem_append.1 hx with h9|h9
   ·exact hs x h9
   ·rw[List.mem_singleton.1 h9];exact l6⟩
  have cO:∀i:Id,i≠X->i≠⟨23002001,x1+1⟩->i.bt<na->(i.site≠23007008∨i.bt<x2)->g3 i=ga i:=fun i h1 h2 h3 h4=>(hK.2 i h1 aU).trans (by
   have h8:=dj h3
   have h9:=eq_false h2
   have h7:(i=o)=False:=eq_false fun e=>by rw[e]at h4;rcases h4 with h|h;exact h (aGs o _ rfl);omega
   simp only[go_sem, ↓reduceIte,Nat.reduceEqDiff,Nat.reduceAdd,Nat.reduceSub,Nat.reduceLeDiff,reduceCtorEq,h8,h9,h7])
  clear hK
  clear k0 Ud
  refine hN _ _ ?_
  clear hN N
  all_goals
   (try((repeat(revert hN;revert N;apply Pn.out));refine wk (tw @a6 (tw @a0 (tw @a2 (tw @a3 (tw @a4 @a5))))) ?_;(repeat(refine Pn.mk ?_;intro N hN))))
   refine lJ (fun e st=>e 0=.ptr X 0 0/\e 2=.ptr ⟨23000000,σ.next⟩ 0 0/\e 3=.int .i64 z/\e 4=.ptr ⟨23002001,x1+1⟩ 0 0/\e 5=.int .i64 (m:Int)/\e 6=.int .i64 (k:Int)/\e 7=.ptr ⟨23008008,na+1+1⟩ 0 0/\fM st.get X bs (A+10+8*k+4)/\x3<=st.next/\(∀i:Id,i≠X->i≠⟨23008006,na+1+1⟩->i.bt<x3->st.get i=g3 i)/\∃l:List Int,l.length=4/\st.get ⟨23008006,na+1+1⟩=some ⟨true,1,l.map aJ⟩) ?_ ?_
   ·rintro e st ⟨b0,b2,b3,b4,b5,b6,b7,bS,bN,bO,bE⟩
    obtain⟨gb,nb⟩:=st
    (try dsimp only at bS bN bO bE)
    have b8:=(bO ⟨23008008,na+1+1⟩ (fun e=>by rw[<-e]at hX;(try dsimp only at hX);omega) (fun e=>by injection e with e1 _;revert e1;decide) aU).trans c7
    refine hN _ _ ?_
    clear hN N
    (try((repeat(revert hN;revert N;apply Pn.out));refine wk (tw @b0 (tw @b2 (tw @b3 (tw @b4 (tw @b5 (tw @b6 @b7)))))) ?_;(repeat(refine Pn.mk ?_;intro N hN))))
    refine .inr (aA _ _ _ _ _ (fun r σ5 hq=>?_) (y7 bs hb iK X 4 _ ae _ bS))
    clear b
    obtain⟨b,rfl,h5,hK⟩:=hq
    obtain⟨g5,x5⟩:=σ5
    (try dsimp only at h5)
    have V6:=hK.1
    (try dsimp only at V6)
    have p4:=(hK.2 ⟨23002001,x1+1⟩ (fun e=>by rw[<-e]at hX;(try dsimp only at hX);omega) aU).trans ((bO ⟨23002001,x1+1⟩ (fun e=>by rw[<-e]at hX;(try dsimp only at hX);omega) (fun e=>by injection e with e1 _;revert e1;decide) aU).trans c4)
    have p7:=(hK.2 ⟨23008008,na+1+1⟩ (fun e=>by rw[<-e]at hX;(try dsimp only at hX);omega) aU).trans b8
    have pE:∃l:List Int,l.length=4/\g5 ⟨23008006,na+1+1⟩=some ⟨true,1,l.map aJ⟩:=by
     obtain⟨l,hl,gE⟩:=bE
     exact⟨l,hl,(hK.2 ⟨23008006,na+1+1⟩ (fun e=>by rw[<-e]at hX;(try dsimp only at hX);omega) aU).trans gE⟩
    have pO:∀i:Id,i≠X->i≠⟨23008006,na+1+1⟩->i.bt<x3->g5 i=g3 i:=fun i h1 h2 h3=>(hK.2 i h1 aU).trans (bO i h1 h2 h3)
    (try dsimp only at p4 p7)
    clear hK
    refine hN _ _ ?_
    clear hN N
    (try((repeat(revert hN;revert N;apply Pn.out));refine wk @b0 ?_;(repeat(refine Pn.mk ?_;intro N hN))))
    refine lJ (fun e st=>e 0=.ptr X 0 0/\e 2=.ptr ⟨23000000,σ.next⟩ 0 0/\e 3=.int .i64 z/\e 4=.ptr ⟨23002001,x1+1⟩ 0 0/\e 5=.int .i64 (m:Int)/\e 6=.int .i64 (k:Int)/\e 7=.ptr ⟨23008008,na+1+1⟩ 0 0/\fM st.get X bs (A+10+8*k+8)/\x5<=st.next/\(∀i:Id,i≠X->i≠⟨23008006,na+1+1⟩->i.bt<x5->st.get i=g5 i)/\∃l:List Int,l.length=4/\st.get ⟨23008006,na+1+1⟩=some ⟨true,1,l.map aJ⟩) ?_ ?_
    ·rintro e st ⟨r0,r2,r3,r4,r5,r6,r7,rS,rN,rO,rE⟩
     obtain⟨gc,nc⟩:=st
     (try dsimp only at rS rN rO rE)
     have s4:=(rO ⟨23002001,x1+1⟩ (fun e=>by rw[<-e]at hX;(try dsimp only at hX);omega) (fun e=>by injection e with e1 _;revert e1;decide) aU).trans p4
     have s7:=(rO ⟨23008008,na+1+1⟩ (fun e=>by rw[<-e]at hX;(try dsimp only at hX);omega) (fun e=>by injection e with e1 _;revert e1;decide) aU).trans p7
     (try dsimp only at s4 s7)
     have YQ:∀i:Id,i≠X->i≠⟨23008006,na+1+1⟩->i.bt<x3->gc i=g3 i:=fun i h1 h2 h3=>(rO i h1 h2 ae).trans (pO i h1 h2 h3)
     have Xi:∀i:Id,i≠X->i≠⟨23002001,x1+1⟩->i.bt<na->(i.site≠23007008∨i.bt<x2)->gc i=ga i:=fun i h1 h2 h3 h4=>(YQ i h1 (fun e=>by rw[e]at h3;(try dsimp only at h3);omega) ae).trans (cO i h1 h2 h3 h4)
     obtain⟨L,W8,hL2,hL3⟩:=cG
     have rG:=(YQ ⟨23007008,na+1⟩ (fun e=>by rw[<-e]at hX;(try dsimp only at hX);omega) (fun e=>by injection e with e1 _;revert e1;decide) aU).trans hL2
     obtain⟨l,hl,gE⟩:=rE
     have XS:=dj (i:=X) (n:=nc) ae
     have UK:∀s,(X=⟨s,x1+1⟩)=False:=fun s=>eq_false fun e=>by rw[e]at hX;(try dsimp only at hX);omega
     refine hN _ _ ?_
     clear hN N
     rcases aT with⟨k0,rfl⟩|⟨k0,o,rows,rfl,hr,go,hT,hs,k7,oP⟩
     ·(try((repeat(revert hN;revert N;apply Pn.out));refine wk (tw @r0 (tw @r2 (tw @r3 (tw @r4 (tw @r5 (tw @r6 (tw @r7 (tw @s4 @s7)))))))) ?_;(repeat(refine Pn.mk ?_;intro N hN))))
      obtain⟨za,zz,xM,gX⟩:=rS
      have nG:(⟨23007008,na+1⟩:Id).bt<nc:=aU
      exact dx (sd (tw @a6 (tw @a0 (tw @a2 (tw @a3 (tw @a4 (tw @a5 @r6))))))) (by(try dsimp only);exact⟨⟨za,zz,ae,by simp only[go_sem, ↓reduceIte,Nat.reduceEqDiff,Nat.reduceAdd,Nat.reduceSub,Nat.reduceLeDiff,reduceCtorEq,XS,UK]<;>exact gX⟩,ae,fun i h1 h2 h3=>(by
       have h8:=dj (i:=i) (n:=nc) ae
       have h9:=eq_false h2
       simp only[go_sem, ↓reduceIte,Nat.reduceEqDiff,Nat.reduceAdd,Nat.reduceSub,Nat.reduceLeDiff,reduceCtorEq,h8,h9]<;>exact(Xi i h1 h2 ae (.inr h3)).trans (aO i h1 h2 h3)),.own ⟨23007008,na+1⟩ 0 (k+1),.own ⟨23013004,nc⟩ 0 1,sl @Nat.zero_add,.inr ⟨ae,⟨23007008,na+1⟩,L,rfl,W8,by simp only[go_sem, ↓reduceIte,Nat.reduceEqDiff,Nat.reduceAdd,Nat.reduceSub,Nat.reduceLeDiff,reduceCtorEq]<;>exact rG,hL3,aU,aU⟩,.inr ⟨ae,⟨23013004,nc⟩,[[.str ((⟨#[116]⟩:ByteArray)++dt),.own ⟨23008006,na+1+1⟩ 0 4]],by rw[k0],by rw[k0];rfl,sl @Nat.zero_add,fun row fI=>⟨_,⟨23008006,na+1+1⟩,List.mem_singleton.1 fI,⟨Ec,vM _ _⟩,rfl,aU,aU,l,hl,by simp only[go_sem, ↓reduceIte,Nat.reduceEqDiff,Nat.reduceAdd,Nat.reduceSub,Nat.reduceLeDiff,reduceCtorEq]<;>exact gE⟩,by simp[gr],aU,aU⟩,fun o c h=>by cases h;rfl,fun o c h=>by cases h;rfl⟩)
     ·have gco:=(Xi o (fun h=>by rw[h]at k7;omega) (fun h=>by rw[h]at k7;(try dsimp only at k7);omega) oP (.inl (by rw[aTs o _ rfl];decide))).trans go
      have vo:=dj (i:=o) (n:=nc) ae
      have o5:∀s,(o=⟨s,x1+1⟩)=False/\((⟨s,x1+1⟩:Id)=o)=False:=fun s=>⟨eq_false fun e=>by rw[e]at k7;(try dsimp only at k7);omega,eq_false fun e=>by rw[<-e]at k7;(try dsimp only at k7);omega⟩
      (try((repeat(revert hN;revert N;apply Pn.out));refine wk (tw @r0 (tw @r2 (tw @r3 (tw @r4 (tw @r5 (tw @r6 (tw @r7 (tw @s4 (tw @s7 (tw @gco (tw @vo (tw @o5 (tw @hr @iR))))))))))))) ?_;(repeat(refine Pn.mk ?_;intro N hN))))
      obtain⟨za,zz,xM,gX⟩:=rS
      have nG:(⟨23007008,na+1⟩:Id).bt<nc:=aU
      have nGo:((⟨23007008,na+1⟩:Id)=o)=False:=eq_false fun h=>by rw[<-h]at oP;(try dsimp only at oP);omega
      have nEo:((⟨23008006,na+1+1⟩:Id)=o)=False:=eq_false fun h=>by rw[<-h]at oP;(try dsimp only at oP);omega
      have Pa:(X=o)=False:=eq_false fun h=>by rw[<-h]at k7;omega
      have hT2:=hT.frame (g':=gc) (n':=na) (Nat.le_refl _) fun u h1 h2 h3=>Xi u (fun h=>by rw[h]at h2;omega) (fun h=>by rw[h]at h2;(try dsimp only at h2);omega) h3 (.inl (fun h=>by rw[gr,h]at h1;revert h1;decide))
      exact dx (sd (tw @a6 (tw @a0 (tw @a2 (tw @a3 (tw @a4 (tw @a5 @r6))))))) (by(try dsimp only);exact⟨⟨za,zz,ae,by simp only[go_sem, ↓reduceIte,Nat.reduceEqDiff,Nat.reduceAdd,Nat.reduceSub,Nat.reduceLeDiff,reduceCtorEq,XS,UK,Pa]<;>exact gX⟩,ae,fun i h1 h2 h3=>(by
       have h8:=dj (i:=i) (n:=nc) ae
       have h9:=eq_false h2
       have h7:(i=o)=False:=eq_false fun h=>by rw[h]at h3;omega
       simp only[go_sem, ↓reduceIte,Nat.reduceEqDiff,Nat.reduceAdd,Nat.reduceSub,Nat.reduceLeDiff,reduceCtorEq,h8,h9,h7]<;>exact(Xi i h1 h2 ae (.inr h3)).trans (aO i h1 h2 h3)),.own ⟨23007008,na+1⟩ 0 (k+1),.own ⟨23013004,nc⟩ 0 (k+1),sl @Nat.zero_add,.inr ⟨ae,⟨23007008,na+1⟩,L,rfl,W8,by simp only[go_sem, ↓reduceIte,Nat.reduceEqDiff,Nat.reduceAdd,Nat.reduceSub,Nat.reduceLeDiff,reduceCtorEq,nGo]<;>exact rG,hL3,aU,aU⟩,.inr ⟨ae,⟨23013004,nc⟩,rows++[[.str ((⟨#[116]⟩:ByteArray)++dt),.own ⟨23008006,na+1+1⟩ 0 4]],rfl,by simp[hr],sl @Nat.zero_add,(hT2.frame (n':=nc+1+1) ae fun u h1 h2 h3=>(by
       have h8:=dj (i:=u) (n:=nc) ae
       have h9:∀s,(u=⟨s,x1+1⟩)=False:=fun s=>eq_false fun h=>by rw[h]at h2;(try dsimp only at h2);omega
       have h7:(u=o)=False:=eq_false fun h=>hs (by rw[<-h];exact h1)
       simp only[go_sem, ↓reduceIte,Nat.reduceEqDiff,Nat.reduceAdd,Nat.reduceSub,Nat.reduceLeDiff,reduceCtorEq,h8,h9,h7])).snoc (e:=⟨23008006,na+1+1⟩) ⟨Ec,vM _ _⟩ ⟨by simp[gr],aU,aU,l,hl,by simp only[go_sem, ↓reduceIte,Nat.reduceEqDiff,Nat.reduceAdd,Nat.reduceSub,Nat.reduceLeDiff,reduceCtorEq,nEo]<;>exact gE⟩,by simp[gr],aU,aU⟩,fun o c h=>by cases h;rfl,fun o c h=>by cases h;rfl⟩)
    ·intro N hN
     obtain⟨l,hl,gE⟩:=pE
     cases b
     ·(try((repeat(revert hN;revert N;apply Pn.out));refine wk (tw @b0 (tw @b2 (tw @b3 (tw @b4 (tw @b5 (tw @b6 @b7)))))) ?_;(repeat(refine Pn.mk ?_;intro N hN))))
      exact⟨sd (tw @b0 (tw @b2 (tw @b3 (tw @b4 (tw @b5 (tw @b6 @b7)))))),sd (tw @b0 (tw @b2 (tw @b3 (tw @b4 (tw @b5 (tw @b6 @b7)))))),sd (tw @b0 (tw @b2 (tw @b3 (tw @b4 (tw @b5 (tw @b6 @b7)))))),sd (tw @b0 (tw @b2 (tw @b3 (tw @b4 (tw @b5 (tw @b6 @b7)))))),sd (tw @b0 (tw @b2 (tw @b3 (tw @b4 (tw @b5 (tw @b6 @b7)))))),sd (tw @b0 (tw @b2 (tw @b3 (tw @b4 (tw @b5 (tw @b6 @b7)))))),sd (tw @b0 (tw @b2 (tw @b3 (tw @b4 (tw @b5 (tw @b6 @b7)))))),h5.mono ae,aU,fun i _ _ _=>rfl,l,hl,gE⟩
     ·(try((repeat(revert hN;revert N;apply Pn.out));refine wk (tw @b0 (tw @b2 (tw @b3 (tw @b4 (tw @b5 (tw @b6 @b7)))))) ?_;(repeat(refine Pn.mk ?_;intro N hN))))
      refine dS ?_ ?_<;>(try((repeat(revert hN;revert N;apply Pn.out));refine wk (tw @b0 (tw @b2 (tw @b3 (tw @b4 (tw @b5 (tw @b6 (tw @b7 @p7))))))) ?_;(repeat(refine Pn.mk ?_;intro N hN))))
      all_goals
       refine .inr (aA _ _ _ _ _ (fun r σ4 hq=>?_) (jq bs hb iK X (m:Int) _ ae _ h5))
       obtain⟨y,rfl,y0,y1,h4,hK⟩:=hq
       obtain⟨g4,x4⟩:=σ4
       (try dsimp only at h4)
       have Jh:=hK.1
       (try dsimp only at Jh)
       have d7:=(hK.2 ⟨23008008,na+1+1⟩ (fun e=>by rw[<-e]at hX;(try dsimp only at hX);omega) aU).trans p7
       have dE:=(hK.2 ⟨23008006,na+1+1⟩ (fun e=>by rw[<-e]at hX;(try dsimp only at hX);omega) aU).trans gE
       have dO:∀i:Id,i≠X->i.bt<x5->g4 i=g5 i:=fun i h1 h2=>hK.2 i h1 aU
       (try dsimp only at d7 dE)
       clear hK
       have gp:(l.map aJ).length=4:=by rw[List.length_map,hl]
       have fj:∀w:Int,(l.map aJ).set 2 [.int .i64 w]=(l.set 2 w).map aJ:=fun w=>by rw[List.map_set];rfl
       refine hN _ _ ?_
       clear hN N
       have kC:(l.map aJ)[2]? =some [.int .i64 (l.getD 2 0)]:=getD_map aJ ae
       (try((repeat(revert hN;revert N;apply Pn.out));refine wk (tw @b0 (tw @b2 (tw @b3 (tw @b4 (tw @b5 (tw @b6 (tw @b7 (tw @d7 (tw @dE (tw @gp (tw @fj @kC))))))))))) ?_;(repeat(refine Pn.mk ?_;intro N hN))))
       obtain⟨za,zz,xM,gX⟩:=h4
       have UK:∀s,(X=⟨s,na+1+1⟩)=False:=fun s=>eq_false fun e=>by rw[e]at hX;(try dsimp only at hX);omega
       exact⟨sd (tw @b0 (tw @b2 (tw @b3 (tw @b4 (tw @b5 (tw @b6 @b7)))))),sd (tw @b0 (tw @b2 (tw @b3 (tw @b4 (tw @b5 (tw @b6 @b7)))))),sd (tw @b0 (tw @b2 (tw @b3 (tw @b4 (tw @b5 (tw @b6 @b7)))))),sd (tw @b0 (tw @b2 (tw @b3 (tw @b4 (tw @b5 (tw @b6 @b7)))))),sd (tw @b0 (tw @b2 (tw @b3 (tw @b4 (tw @b5 (tw @b6 @b7)))))),sd (tw @b0 (tw @b2 (tw @b3 (tw @b4 (tw @b5 (tw @b6 @b7)))))),sd (tw @b0 (tw @b2 (tw @b3 (tw @b4 (tw @b5 (tw @b6 @b7)))))),⟨za,zz,ae,by simp only[go_sem, ↓reduceIte,Nat.reduceEqDiff,Nat.reduceAdd,Nat.reduceSub,Nat.reduceLeDiff,reduceCtorEq,UK]<;>exact gX⟩,aU,fun i h1 h2 h3=>(by
        have h9:=eq_false h2
        simp only[go_sem, ↓reduceIte,Nat.reduceEqDiff,Nat.reduceAdd,Nat.reduceSub,Nat.reduceLeDiff,reduceCtorEq,h9]<;>exact dO i h1 h3),l.set 2 (IntKind.i64.wrap (1+y)),by rw[List.length_set,hl],sl @Nat.zero_add⟩
   ·intro N hN
    obtain⟨l,hl,gE⟩:=cE
    cases b
    ·(try((repeat(revert hN;revert N;apply Pn.out));refine wk (tw @a6 (tw @a0 (tw @a2 (tw @a3 (tw @a4 @a5))))) ?_;(repeat(refine Pn.mk ?_;intro N hN))))
     exact⟨sd (tw @a6 (tw @a0 (tw @a2 (tw @a3 (tw @a4 @a5))))),sd (tw @a6 (tw @a0 (tw @a2 (tw @a3 (tw @a4 @a5))))),sd (tw @a6 (tw @a0 (tw @a2 (tw @a3 (tw @a4 @a5))))),sd (tw @a6 (tw @a0 (tw @a2 (tw @a3 (tw @a4 @a5))))),sd (tw @a6 (tw @a0 (tw @a2 (tw @a3 (tw @a4 @a5))))),sd (tw @a6 (tw @a0 (tw @a2 (tw @a3 (tw @a4 @a5))))),sd (tw @a6 (tw @a0 (tw @a2 (tw @a3 (tw @a4 @a5))))),h3.mono ae,aU,fun i _ _ _=>rfl,l,hl,gE⟩
    ·(try((repeat(revert hN;revert N;apply Pn.out));refine wk (tw @a6 (tw @a0 (tw @a2 (tw @a3 (tw @a4 @a5))))) ?_;(repeat(refine Pn.mk ?_;intro N hN))))
     refine dS ?_ ?_<;>(try((repeat(revert hN;revert N;apply Pn.out));refine wk (tw @a6 (tw @a0 (tw @a2 (tw @a3 (tw @a4 (tw @a5 @c7)))))) ?_;(repeat(refine Pn.mk ?_;intro N hN))))
     all_goals
      refine .inr (aA _ _ _ _ _ (fun r σ4 hq=>?_) (jq bs hb iK X (m:Int) _ ae _ h3))
      obtain⟨y,rfl,y0,y1,h4,hK⟩:=hq
      obtain⟨g4,x4⟩:=σ4
      (try dsimp only at h4)
      have Jh:=hK.1
      (try dsimp only at Jh)
      have d7:=(hK.2 ⟨23008008,na+1+1⟩ (fun e=>by rw[<-e]at hX;(try dsimp only at hX);omega) aU).trans c7
      have dE:=(hK.2 ⟨23008006,na+1+1⟩ (fun e=>by rw[<-e]at hX;(try dsimp only at hX);omega) aU).trans gE
      have dO:∀i:Id,i≠X->i.bt<x3->g4 i=g3 i:=fun i h1 h2=>hK.2 i h1 aU
      (try dsimp only at d7 dE)
      clear hK
      have gp:(l.map aJ).length=4:=by rw[List.length_map,hl]
      have fj:∀w:Int,(l.map aJ).set 0 [.int .i64 w]=(l.set 0 w).map aJ:=fun w=>by rw[List.map_set];rfl
      refine hN _ _ ?_
      clear hN N
      have kC:(l.map aJ)[0]? =some [.int .i64 (l.getD 0 0)]:=getD_map aJ ae
      (try((repeat(revert hN;revert N;apply Pn.out));refine wk (tw @a6 (tw @a0 (tw @a2 (tw @a3 (tw @a4 (tw @a5 (tw @d7 (tw @dE (tw @gp (tw @fj @kC)))))))))) ?_;(repeat(refine Pn.mk ?_;intro N hN))))
      obtain⟨za,zz,xM,gX⟩:=h4
      have UK:∀s,(X=⟨s,na+1+1⟩)=False:=fun s=>eq_false fun e=>by rw[e]at hX;(try dsimp only at hX);omega
      exact⟨sd (tw @a6 (tw @a0 (tw @a2 (tw @a3 (tw @a4 @a5))))),sd (tw @a6 (tw @a0 (tw @a2 (tw @a3 (tw @a4 @a5))))),sd (tw @a6 (tw @a0 (tw @a2 (tw @a3 (tw @a4 @a5))))),sd (tw @a6 (tw @a0 (tw @a2 (tw @a3 (tw @a4 @a5))))),sd (tw @a6 (tw @a0 (tw @a2 (tw @a3 (tw @a4 @a5))))),sd (tw @a6 (tw @a0 (tw @a2 (tw @a3 (tw @a4 @a5))))),sd (tw @a6 (tw @a0 (tw @a2 (tw @a3 (tw @a4 @a5))))),⟨za,zz,ae,by simp only[go_sem, ↓reduceIte,Nat.reduceEqDiff,Nat.reduceAdd,Nat.reduceSub,Nat.reduceLeDiff,reduceCtorEq,UK]<;>exact gX⟩,aU,fun i h1 h2 h3=>(by
       have h9:=eq_false h2
       simp only[go_sem, ↓reduceIte,Nat.reduceEqDiff,Nat.reduceAdd,Nat.reduceSub,Nat.reduceLeDiff,reduceCtorEq,h9]<;>exact dO i h1 h3),l.set 0 (IntKind.i64.wrap (1+y)),by rw[List.length_set,hl],sl @Nat.zero_add⟩
 ·have hke:k=m:=ae
  subst hke
  (try((repeat(revert hN;revert N;apply Pn.out));refine wk (tw @a6 (tw @a0 (tw @a2 (tw @a3 (tw @a4 (tw @a5 @hk)))))) ?_;(repeat(refine Pn.mk ?_;intro N hN))))
  obtain⟨ga,na⟩:=st_a
  (try dsimp only at aS aN aO Nr aG aT)
  have hvt:dV vt=some k:=by
   rcases aT with⟨h,_⟩|⟨_,o,rows,rfl,_⟩
   ·omega
   ·rfl
  rcases aT with⟨h,_⟩|⟨k0,o,rows,rfl,hr,go,hT,hs,k7,oP⟩
  ·omega
  refine bz (fun n env st=>∃j:Nat,n=(k)-j/\j<=(k)/\env 8=.int .i64 (j:Int)/\((na<=st.next/\(∀i:Id,(i.bt<x2∨¬gr i.site)->i.bt<na->st.get i=ga i)/\gI gr x2 st.get na rows))) (k) ⟨0,ae,ae,sl (tw @a6 (tw @a0 (tw @a2 (tw @a3 (tw @a4 @a5))))),by(try dsimp only);exact⟨ae,fun i _ _=>rfl,hT⟩⟩ ?_
  rintro n_b env_b st_b ⟨j,rfl,ble,b8,bI0⟩ eW
  have b0:=eW 0 (by kernel_rfl);have b2:=eW 2 (by kernel_rfl);have b3:=eW 3 (by kernel_rfl);have b4:=eW 4 (by kernel_rfl);have b5:=eW 5 (by kernel_rfl)
  simp only[go_sem, ↓reduceIte,Nat.reduceEqDiff,Nat.reduceAdd,Nat.reduceSub,Nat.reduceLeDiff,reduceCtorEq,a6,a0,a2,a3,a4,a5]at b0 b2 b3 b4 b5
  clear eW
  obtain⟨bN,bO,bT⟩:=bI0
  have b4':=(bO ⟨23002001,x1+1⟩ (.inl aU) aU).trans Nr
  have bo:=(bO o (.inr hs) oP).trans go
  by_cases hj:(j:Int)<(k:Int)
  ·have fh:∀{e:Env} {gg:Rows} {nx:Nat},(e 8=.int .i64 (IntKind.i64.wrap ((j:Int)+1)))->((na<=nx/\(∀i:Id,(i.bt<x2∨¬gr i.site)->i.bt<na->gg i=ga i)/\gI gr x2 gg na rows))->∃m0,m0<(k)-j/\∃j:Nat,m0=(k)-j/\j<=(k)/\e 8=.int .i64 (j:Int)/\((na<=nx/\(∀i:Id,(i.bt<x2∨¬gr i.site)->i.bt<na->gg i=ga i)/\gI gr x2 gg na rows)):=fun x1 x2=>⟨_,ae,j+1,rfl,ae,(by rw[x1,az ae]),x2⟩
   (try((repeat(revert hN;revert N;apply Pn.out));refine wk (tw @b8 (tw @b0 (tw @b2 (tw @b3 (tw @b4 (tw @b5 (tw @hj (tw @b4' @hvt)))))))) ?_;(repeat(refine Pn.mk ?_;intro N hN))))
   refine bz (fun n env st=>∃d:Nat,n=(4)-d/\d<=(4)/\env 9=.int .i64 (d:Int)/\((na<=st.next/\(∀i:Id,(i.bt<x2∨¬gr i.site)->i.bt<na->st.get i=ga i)/\gI gr x2 st.get na rows))) (4) ⟨0,ae,ae,sl (tw @b8 (tw @b0 (tw @b2 (tw @b3 (tw @b4 @b5))))),by(try dsimp only);exact⟨ae,bO,bT⟩⟩ ?_
   rintro n_c env_c st_c ⟨d,rfl,cle,c9,cI0⟩ iV
   have c0:=iV 0 (by kernel_rfl);have c2:=iV 2 (by kernel_rfl);have c3:=iV 3 (by kernel_rfl);have c4:=iV 4 (by kernel_rfl);have c5:=iV 5 (by kernel_rfl);have c8:=iV 8 (by kernel_rfl)
   simp only[go_sem, ↓reduceIte,Nat.reduceEqDiff,Nat.reduceAdd,Nat.reduceSub,Nat.reduceLeDiff,reduceCtorEq,b8,b0,b2,b3,b4,b5]at c0 c2 c3 c4 c5 c8
   clear iV
   obtain⟨cN,cO,cT⟩:=cI0
   by_cases hd:(d:Int)<4
   ·have gQ:∀{e:Env} {gg:Rows} {nx:Nat},(e 9=.int .i64 (IntKind.i64.wrap ((d:Int)+1)))->((na<=nx/\(∀i:Id,(i.bt<x2∨¬gr i.site)->i.bt<na->gg i=ga i)/\gI gr x2 gg na rows))->∃m0,m0<(4)-d/\∃d:Nat,m0=(4)-d/\d<=(4)/\e 9=.int .i64 (d:Int)/\((na<=nx/\(∀i:Id,(i.bt<x2∨¬gr i.site)->i.bt<na->gg i=ga i)/\gI gr x2 gg na rows)):=fun x1 x2=>⟨_,ae,d+1,rfl,ae,(by rw[x1,az ae]),x2⟩
    have Ud:=(cO ⟨23002001,x1+1⟩ (.inl aU) aU).trans Nr
    have co:=(cO o (.inr hs) oP).trans go
    obtain⟨nm,e,fI,f1,f2,f3,l,hl,gE⟩:=cT.get (k:=j) ae
    have gp:(l.map aJ).length=4:=by rw[List.length_map,hl]
    have kC:(l.map aJ)[d]? =some [.int .i64 (l.getD d 0)]:=getD_map aJ ae
    have fj:∀w:Int,(l.map aJ).set d [.int .i64 w]=(l.set d w).map aJ:=fun w=>by rw[List.map_set];rfl
    have Nx:(d:Int)<((4:Nat):Int):=ae
    by_cases hx:(k:Int)<l.getD d 0
    ·generalize l.getD d 0=w at kC hx
     (try((repeat(revert hN;revert N;apply Pn.out));refine wk (tw @c9 (tw @c0 (tw @c2 (tw @c3 (tw @c4 (tw @c5 (tw @c8 (tw @hd (tw @hj (tw @Ud (tw @co (tw @fI (tw @gE (tw @kC (tw @gp (tw @fj (tw @hx @Nx))))))))))))))))) ?_;(repeat(refine Pn.mk ?_;intro N hN))))
     exact gQ (sd (tw @c9 (tw @c0 (tw @c2 (tw @c3 (tw @c4 (tw @c5 @c8))))))) (by(try dsimp only);exact⟨ae,fun i h1 h2=>(by
      have h7:(i=e)=False:=eq_false fun h=>by rw[h]at h1;rcases h1 with h|h;omega;exact h f1
      simp only[go_sem, ↓reduceIte,Nat.reduceEqDiff,Nat.reduceAdd,Nat.reduceSub,Nat.reduceLeDiff,reduceCtorEq,h7]<;>exact cO i h1 h2),cT.write (by rw[List.length_set,hl])⟩)
    ·generalize l.getD d 0=w at kC hx
     (try((repeat(revert hN;revert N;apply Pn.out));refine wk (tw @c9 (tw @c0 (tw @c2 (tw @c3 (tw @c4 (tw @c5 (tw @c8 (tw @hd (tw @hj (tw @Ud (tw @co (tw @fI (tw @gE (tw @kC (tw @gp (tw @hx @Nx)))))))))))))))) ?_;(repeat(refine Pn.mk ?_;intro N hN))))
     exact gQ (sd (tw @c9 (tw @c0 (tw @c2 (tw @c3 (tw @c4 (tw @c5 @c8))))))) (by(try dsimp only);exact⟨ae,cO,cT⟩)
   ·(try((repeat(revert hN;revert N;apply Pn.out));refine wk (tw @c9 (tw @c0 (tw @c2 (tw @c3 (tw @c4 (tw @c5 (tw @c8 @hd))))))) ?_;(repeat(refine Pn.mk ?_;intro N hN))))
    exact fh (sd (tw @b8 (tw @b0 (tw @b2 (tw @b3 (tw @b4 (tw @b5 (tw @c9 (tw @c0 (tw @c2 (tw @c3 (tw @c4 (tw @c5 @c8))))))))))))) (by(try dsimp only);exact⟨ae,cO,cT⟩)
  ·(try((repeat(revert hN;revert N;apply Pn.out));refine wk (tw @b8 (tw @b0 (tw @b2 (tw @b3 (tw @b4 (tw @b5 (tw @hj (tw @b4' @hvt)))))))) ?_;(repeat(refine Pn.mk ?_;intro N hN))))
   have bS:fM st_b.get X bs (A+10+8*k):=by
    obtain⟨za,zz,xM,gX⟩:=aS
    exact⟨za,zz,xM,(bO X (.inl ae) ae).trans gX⟩
   refine .inr (aA _ _ _ _ _ (fun r σ5 hq=>?_) (y7 bs hb iK X 2 _ ae _ bS))
   obtain⟨b,rfl,h5,hK⟩:=hq
   obtain⟨g5,x5⟩:=σ5
   (try dsimp only at h5)
   have V6:=hK.1
   (try dsimp only at V6)
   have pO:∀i:Id,i≠X->(i.bt<x2∨¬gr i.site)->i.bt<na->g5 i=ga i:=fun i h1 h2 h3=>(hK.2 i h1 aU).trans (bO i h2 h3)
   have pT:gI gr x2 g5 na rows:=bT.frame (Nat.le_refl _) fun u h1 h2 h3=>hK.2 u (fun h=>by rw[h]at h2;omega) aU
   clear hK bS
   have p4:=(pO ⟨23002001,x1+1⟩ (fun e=>by rw[<-e]at hX;(try dsimp only at hX);omega) (.inl aU) aU).trans Nr
   have po:=(pO o (fun h=>by rw[h]at k7;omega) (.inr hs) oP).trans go
   refine hN _ _ ?_
   clear hN N
   (try((repeat(revert hN;revert N;apply Pn.out));refine wk (tw @b8 (tw @b0 (tw @b2 (tw @b3 (tw @b4 @b5))))) ?_;(repeat(refine Pn.mk ?_;intro N hN))))
   refine lJ (fun e st=>e 2=.ptr ⟨23000000,σ.next⟩ 0 0/\e 3=.int .i64 z/\e 4=.ptr ⟨23002001,x1+1⟩ 0 0/\na<=st.next/\(∀i:Id,i≠X->(i.bt<x2∨¬gr i.site)->i.bt<na->st.get i=ga i)/\gI gr x2 st.get na rows/\fM st.get X bs (A+500)) ?_ ?_
   ·rintro e st ⟨r2,r3,r4,rN,rO,rT,rS⟩
    obtain⟨gc,nc⟩:=st
    (try dsimp only at rN rO rT rS)
    have s4:=(rO ⟨23002001,x1+1⟩ (fun e=>by rw[<-e]at hX;(try dsimp only at hX);omega) (.inl aU) aU).trans Nr
    have s2:=(rO ⟨23000000,σ.next⟩ (fun e=>by rw[<-e]at hX;(try dsimp only at hX);omega) (.inl aU) aU).trans ((aO ⟨23000000,σ.next⟩ (fun e=>by rw[<-e]at hX;(try dsimp only at hX);omega) (fun e=>by injection e with e1 _;revert e1;decide) aU).trans B6)
    rcases aG with⟨h,_⟩|⟨_,og,L,rfl,hL,mD,zJ,gv0,gv1⟩
    ·omega
    refine hN _ _ ?_
    clear hN N
    (try((repeat(revert hN;revert N;apply Pn.out));refine wk (tw @r2 (tw @r3 (tw @r4 (tw @s4 @s2)))) ?_;(repeat(refine Pn.mk ?_;intro N hN))))
    obtain⟨za,zz,xM,gX⟩:=rS
    have XS:=dj (i:=X) (n:=nc) ae
    have hG:gZ x2 gc nc (.own og 0 k) k:=.inr ⟨ae,og,L,rfl,hL,(rO og (fun h=>by rw[h]at gv0;omega) (.inr (by rw[aGs og _ rfl];simp[gr])) gv1).trans mD,zJ,ae,ae⟩
    have Vo:hZ gr x2 gc nc (.own o 0 k) k:=.inr ⟨ae,o,rows,rfl,hr,(rO o (fun h=>by rw[h]at k7;omega) (.inr hs) oP).trans go,rT.frame rN fun _ _ _ _=>rfl,hs,ae,ae⟩
    have jn:∀u:Id,x2<=u.bt->u.bt<nc->∀r1 r2,(bK (bK gc ⟨23024002,nc⟩ r1) ⟨23000000,σ.next⟩ r2) u=gc u:=fun u h1 h2 r1 r2=>(by
     have h8:=dj h2
     have h9:∀s,(u=⟨s,σ.next⟩)=False:=fun s=>eq_false fun h=>by rw[h]at h1;(try dsimp only at h1);omega
     simp only[go_sem, ↓reduceIte,Nat.reduceEqDiff,Nat.reduceAdd,Nat.reduceSub,Nat.reduceLeDiff,reduceCtorEq,h8,h9])
    exact gN (.inl rfl) (vs:=[.agg [.own og 0 k,.own o 0 k,.own ⟨23024002,nc⟩ 0 1,.int .i64 z]]) (sd @r2) ⟨⟨gr,.own og 0 k,.own o 0 k,k,k,⟨23024002,nc⟩,⟨⟨0,0⟩,0⟩,z,rfl,(hG.frame aU fun u h1 h2=>jn u h1 h2 _ _).since aU,(Vo.frame aU fun u h1 h2=>jn u h1 h2 _ _).since aU,ae,ae,ae,ae,sl @Nat.zero_add,aU,aU⟩,⟨za,zz,ae,by simp only[go_sem, ↓reduceIte,Nat.reduceEqDiff,Nat.reduceAdd,Nat.reduceSub,Nat.reduceLeDiff,reduceCtorEq,XS,vX]<;>exact gX⟩,aU,fun u h1 h2=>(by
     have h7:=dj h2
     have h8:=dj (i:=u) (n:=nc) ae
     simp only[go_sem, ↓reduceIte,Nat.reduceEqDiff,Nat.reduceAdd,Nat.reduceSub,Nat.reduceLeDiff,reduceCtorEq,h7,h8]<;>exact(rO u h1 (.inl ae) ae).trans ((aO u h1 (fun h=>by rw[h]at h2;(try dsimp only at h2);omega) ae).trans (Yr u h1 h2)))⟩
   ·intro N hN
    cases b
    ·(try((repeat(revert hN;revert N;apply Pn.out));refine wk (tw @b8 (tw @b0 (tw @b2 (tw @b3 (tw @b4 @b5))))) ?_;(repeat(refine Pn.mk ?_;intro N hN))))
     exact⟨sd (tw @b8 (tw @b0 (tw @b2 (tw @b3 (tw @b4 @b5))))),sd (tw @b8 (tw @b0 (tw @b2 (tw @b3 (tw @b4 @b5))))),sd (tw @b8 (tw @b0 (tw @b2 (tw @b3 (tw @b4 @b5))))),aU,pO,pT,h5.mono ae⟩
    ·obtain⟨nm,e,fI,f1,f2,f3,l,hl,gE⟩:=pT.get (k:=k-1) ae
     have gp:(l.map aJ).length=4:=by rw[List.length_map,hl]
     have kC:(l.map aJ)[1]? =some [.int .i64 (l.getD 1 0)]:=getD_map aJ ae
     have fj:∀w:Int,(l.map aJ).set 1 [.int .i64 w]=(l.set 1 w).map aJ:=fun w=>by rw[List.map_set];rfl
     have tD:IntKind.i64.wrap ((k:Int)-1)=((k-1:Nat):Int):=(cD ae).trans ae
     have OB:((k-1:Nat):Int)<(k:Int):=ae
     generalize k-1=kk at fI tD OB
     (try((repeat(revert hN;revert N;apply Pn.out));refine wk (tw @b8 (tw @b0 (tw @b2 (tw @b3 (tw @b4 (tw @b5 (tw @p4 (tw @po (tw @tD (tw @OB (tw @fI (tw @gE (tw @kC (tw @gp @fj)))))))))))))) ?_;(repeat(refine Pn.mk ?_;intro N hN))))
     obtain⟨za,zz,xM,gX⟩:=h5
     have nXe:(X=e)=False:=eq_false fun h=>by rw[<-h]at f2;omega
     exact⟨sd (tw @b8 (tw @b0 (tw @b2 (tw @b3 (tw @b4 @b5))))),sd (tw @b8 (tw @b0 (tw @b2 (tw @b3 (tw @b4 @b5))))),sd (tw @b8 (tw @b0 (tw @b2 (tw @b3 (tw @b4 @b5))))),aU,fun i h0 h1 h2=>(by
      have h7:(i=e)=False:=eq_false fun h=>by rw[h]at h1;rcases h1 with h|h;omega;exact h f1
      simp only[go_sem, ↓reduceIte,Nat.reduceEqDiff,Nat.reduceAdd,Nat.reduceSub,Nat.reduceLeDiff,reduceCtorEq,h7]<;>exact pO i h0 h1 h2),pT.write (by rw[List.length_set,hl]),⟨za,zz,ae,by simp only[go_sem, ↓reduceIte,Nat.reduceEqDiff,Nat.reduceAdd,Nat.reduceSub,Nat.reduceLeDiff,reduceCtorEq,nXe]<;>exact gX⟩⟩
def uU (f:Nat):Prop:=∀(bs:List Int),(∀b∈bs,0<=b/\b<=255)->bs.length<=4096->∀(X:Id) (A:Nat),A<=900000->∀σ:ax,fM σ.get X bs A->X.bt<σ.next->Call Tryz.prog f [.ptr X 0 0] σ (x8 X bs A σ)
theorem qb.parts {n0:Nat} {g:Rows} {n:Nat} {r:AV} (h:qb n0 g n r):∃(vg vt:AV) (o:Id) (m:Int),r=.agg [vg,vt,.own o 0 1,.int .i64 m]/\(vg.cells=[vg]/\vg.cell=true)/\vt.cells=[vt]/\vt.cell=true:=by
 obtain⟨E,vg,vt,kg,kt,o,p,m,h1,h2,h3,_⟩:=h
 exact⟨vg,vt,o,m,h1,h2.cell,h3.cell⟩
theorem FB (hC:uU 25) (hXor:uU 24) (bs:List Int) (hb:∀b∈bs,0<=b/\b<=255) (iK:bs.length<=4096):
  iQ Tryz.prog 6 [.sl (bs.map kA)] fun r=>∃s:aw,UQ s/\r=.agg (aH s):=by
 refine iQ.body fF rfl fun jc n0=>?_
 clear jc
 (try((repeat(revert hN;revert N;apply Pn.out));refine wk @Nat.zero_add ?_;(repeat(refine Pn.mk ?_;intro N hN))))
 refine .inr (aA _ _ _ _ _ (fun r σ1 hq=>?_) (A4 bs _))
 obtain⟨X,rfl,x0,x1,hs,hK⟩:=hq
 obtain⟨g1,n1⟩:=σ1
 (try dsimp only at x0 x1 hs)
 have lP:=hK ⟨6000000,n0⟩ aU
 simp only[go_sem, ↓reduceIte,Nat.reduceEqDiff,Nat.reduceAdd,Nat.reduceSub,Nat.reduceLeDiff,reduceCtorEq]at lP
 (try dsimp only at lP)
 clear hK
 refine hN _ _ ?_
 clear hN N
 (try((repeat(revert hN;revert N;apply Pn.out));refine wk @Nat.zero_add ?_;(repeat(refine Pn.mk ?_;intro N hN))))
 refine .inr (aA _ _ _ _ _ (fun r σ2 hq=>?_) (y7 bs hb iK X 3 0 ae _ hs))
 obtain⟨b,rfl,h2,hK⟩:=hq
 obtain⟨g2,n2⟩:=σ2
 (try dsimp only at h2)
 have wL:=hK.1
 (try dsimp only at wL)
 have B6:=(hK.2 ⟨6000000,n0⟩ (fun e=>by rw[<-e]at x0;(try dsimp only at x0);omega) aU).trans lP
 (try dsimp only at B6)
 clear hK
 refine hN _ _ ?_
 clear hN N
 cases b
 ·(try((repeat(revert hN;revert N;apply Pn.out));refine wk @Nat.zero_add ?_;(repeat(refine Pn.mk ?_;intro N hN))))
  refine .inr (aA _ _ _ _ _ (fun r σ3 hq=>?_) (y7 bs hb iK X 2 2 ae _ h2))
  obtain⟨b,rfl,h3,hK⟩:=hq
  obtain⟨g3,n3⟩:=σ3
  (try dsimp only at h3)
  have Gk:=hK.1
  (try dsimp only at Gk)
  have Ri:=(hK.2 ⟨6000000,n0⟩ (fun e=>by rw[<-e]at x0;(try dsimp only at x0);omega) aU).trans B6
  (try dsimp only at Ri)
  clear hK
  refine hN _ _ ?_
  clear hN N
  cases b
  ·(try((repeat(revert hN;revert N;apply Pn.out));refine wk @Nat.zero_add ?_;(repeat(refine Pn.mk ?_;intro N hN))))
   refine .inr (aA _ _ _ _ _ (fun r σ4 hq=>?_) (hC bs hb iK X _ ae _ h3 aU))
   obtain⟨hS,_,hK⟩:=hq
   obtain⟨g4,x4⟩:=σ4
   (try dsimp only at hS)
   have Jh:=hK.1
   (try dsimp only at Jh)
   have DQ:=(hK.2 ⟨6000000,n0⟩ (fun e=>by rw[<-e]at x0;(try dsimp only at x0);omega) aU).trans Ri
   (try dsimp only at DQ)
   clear hK
   obtain⟨vg,vt,o,m,rfl,⟨c1,c2⟩,c3,c4⟩:=hS.parts
   unfold AV.cells at c1 c3
   unfold AV.cell at c2 c4
   refine hN _ _ ?_
   clear hN N
   (try((repeat(revert hN;revert N;apply Pn.out));refine wk (tw @c1 (tw @c2 (tw @c3 (tw @c4 @DQ)))) ?_;(repeat(refine Pn.mk ?_;intro N hN))))
   have hF:qb (_) (bK g4 ⟨6000000,n0⟩ ⟨true,4,[[vg,vt,.own o 0 1,.int .i64 m]]⟩) x4 (.agg [vg,vt,.own o 0 1,.int .i64 m]):=hS.frame (Nat.le_refl _) fun u h1 h2=>(by
    have h9:∀s,(u=⟨s,n0⟩)=False:=fun s=>eq_false fun h=>by rw[h]at h1;(try dsimp only at h1);omega
    simp only[go_sem, ↓reduceIte,Nat.reduceEqDiff,Nat.reduceAdd,Nat.reduceSub,Nat.reduceLeDiff,reduceCtorEq,h9])
   obtain⟨s,xL,Ef⟩:=hF.fz
   exact⟨[.agg [vg,vt,.own o 0 1,.int .i64 m]],sd (tw @c1 (tw @c2 (tw @c3 @c4))),_,Ef,s,xL,rfl⟩
  ·(try((repeat(revert hN;revert N;apply Pn.out));refine wk @Nat.zero_add ?_;(repeat(refine Pn.mk ?_;intro N hN))))
   refine .inr (aA _ _ _ _ _ (fun r σ4 hq=>?_) (hXor bs hb iK X _ ae _ h3 aU))
   obtain⟨hS,_,hK⟩:=hq
   obtain⟨g4,x4⟩:=σ4
   (try dsimp only at hS)
   have Jh:=hK.1
   (try dsimp only at Jh)
   have DQ:=(hK.2 ⟨6000000,n0⟩ (fun e=>by rw[<-e]at x0;(try dsimp only at x0);omega) aU).trans Ri
   (try dsimp only at DQ)
   clear hK
   obtain⟨vg,vt,o,m,rfl,⟨c1,c2⟩,c3,c4⟩:=hS.parts
   unfold AV.cells at c1 c3
   unfold AV.cell at c2 c4
   refine hN _ _ ?_
   clear hN N
   (try((repeat(revert hN;revert N;apply Pn.out));refine wk (tw @c1 (tw @c2 (tw @c3 (tw @c4 @DQ)))) ?_;(repeat(refine Pn.mk ?_;intro N hN))))
   have hF:qb (_) (bK g4 ⟨6000000,n0⟩ ⟨true,4,[[vg,vt,.own o 0 1,.int .i64 m]]⟩) x4 (.agg [vg,vt,.own o 0 1,.int .i64 m]):=hS.frame (Nat.le_refl _) fun u h1 h2=>(by
    have h9:∀s,(u=⟨s,n0⟩)=False:=fun s=>eq_false fun h=>by rw[h]at h1;(try dsimp only at h1);omega
    simp only[go_sem, ↓reduceIte,Nat.reduceEqDiff,Nat.reduceAdd,Nat.reduceSub,Nat.reduceLeDiff,reduceCtorEq,h9])
   obtain⟨s,xL,Ef⟩:=hF.fz
   exact⟨[.agg [vg,vt,.own o 0 1,.int .i64 m]],sd (tw @c1 (tw @c2 (tw @c3 @c4))),_,Ef,s,xL,rfl⟩
 ·(try((repeat(revert hN;revert N;apply Pn.out));refine wk @Nat.zero_add ?_;(repeat(refine Pn.mk ?_;intro N hN))))
  refine .inr (aA _ _ _ _ _ (fun r σ4 hq=>?_) (Gt bs hb iK X _ ae _ h2 aU))
  obtain⟨hS,_,hK⟩:=hq
  obtain⟨g4,x4⟩:=σ4
  (try dsimp only at hS)
  have Jh:=hK.1
  (try dsimp only at Jh)
  have DQ:=(hK.2 ⟨6000000,n0⟩ (fun e=>by rw[<-e]at x0;(try dsimp only at x0);omega) aU).trans B6
  (try dsimp only at DQ)
  clear hK
  obtain⟨vg,vt,o,m,rfl,⟨c1,c2⟩,c3,c4⟩:=hS.parts
  unfold AV.cells at c1 c3
  unfold AV.cell at c2 c4
  refine hN _ _ ?_
  clear hN N
  (try((repeat(revert hN;revert N;apply Pn.out));refine wk (tw @c1 (tw @c2 (tw @c3 (tw @c4 @DQ)))) ?_;(repeat(refine Pn.mk ?_;intro N hN))))
  have hF:qb (_) (bK g4 ⟨6000000,n0⟩ ⟨true,4,[[vg,vt,.own o 0 1,.int .i64 m]]⟩) x4 (.agg [vg,vt,.own o 0 1,.int .i64 m]):=hS.frame (Nat.le_refl _) fun u h1 h2=>(by
   have h9:∀s,(u=⟨s,n0⟩)=False:=fun s=>eq_false fun h=>by rw[h]at h1;(try dsimp only at h1);omega
   simp only[go_sem, ↓reduceIte,Nat.reduceEqDiff,Nat.reduceAdd,Nat.reduceSub,Nat.reduceLeDiff,reduceCtorEq,h9])
  obtain⟨s,xL,Ef⟩:=hF.fz
  exact⟨[.agg [vg,vt,.own o 0 1,.int .i64 m]],sd (tw @c1 (tw @c2 (tw @c3 @c4))),_,Ef,s,xL,rfl⟩
def ir (s:Nat):Prop:=s=25005000∨s=25013011∨s=25021011∨s=25027015∨s=25029008
def oF (s:Nat):Prop:=s=25004002∨s=25011007∨s=25019007
def qZ (s:Nat):Prop:=s=25006001∨s=25013014∨s=25021014∨s=25027018∨s=25029011
def yU (m j:Nat):Nat:=if j=0 then 0 else m+j
def lR (n0:Nat) (g:Rows) (n:Nat) (B:Id) (a b:Nat):Prop:=∃(og o:Id) (L:List kE) (rows:List (List AV)),g B=some ⟨true,2,[[.own og 0 a,.own o 0 b]]⟩/\L.length=a/\g og=some ⟨true,2,L.map ez⟩/\(∀x∈L,x.cI.size<=64)/\(oF og.site/\n0<=og.bt/\og.bt<n)/\rows.length=b/\g o=some ⟨true,2,rows⟩/\gI ir n0 g n rows/\qZ o.site/\n0<=o.bt/\o.bt<n
theorem lR.later {n0:Nat} {g:Rows} {n n':Nat} {B:Id} {a b:Nat} (h:lR n0 g n B a b) (hn:n<=n'):lR n0 g n' B a b:=by
 obtain⟨og,o,L,rows,h1,h2,h3,h4,⟨h5,h6,h7⟩,h8,h9,DW,Rn,h12,h13⟩:=h
 exact⟨og,o,L,rows,h1,h2,h3,h4,⟨h5,h6,ae⟩,h8,h9,DW.frame hn fun _ _ _ _=>rfl,Rn,h12,ae⟩
theorem BX {a b:Id} (h:oF a.site) (k:qZ b.site):(a=b)=False/\(b=a)=False:=by
 have:a≠b:=fun e=>by rw[e]at h;unfold oF at h;unfold qZ at k;omega
 exact⟨eq_false this,eq_false fun e=>this e.symm⟩
theorem BW {a b:Id} (h:ir a.site) (k:oF b.site):(a=b)=False/\(b=a)=False:=by
 have:a≠b:=fun e=>by rw[e]at h;unfold ir at h;unfold oF at k;omega
 exact⟨eq_false this,eq_false fun e=>this e.symm⟩
theorem sP {a b:Id} (h:ir a.site) (k:qZ b.site):(a=b)=False/\(b=a)=False:=by
 have:a≠b:=fun e=>by rw[e]at h;unfold ir at h;unfold qZ at k;omega
 exact⟨eq_false this,eq_false fun e=>this e.symm⟩
theorem lR.only {n0:Nat} {g:Rows} {n n':Nat} {B X:Id} {a b:Nat} (h:lR n0 g n B a b) {σ':ax} (hK:lz X ⟨g,n'⟩ σ') (hn:n<=n') (hX:X.bt<n0) (hB:B≠X) (hBv:B.bt<n'):lR n0 σ'.get σ'.next B a b:=by
 obtain⟨og,o,L,rows,h1,h2,h3,h4,⟨h5,h6,h7⟩,h8,h9,DW,Rn,h12,h13⟩:=h
 have hx:=hK.1
 (try dsimp only at hx)
 have k:∀i:Id,n0<=i.bt->i.bt<n->σ'.get i=g i:=fun i h1 h2=>hK.2 i (fun e=>by rw[e]at h1;omega) aU
 exact⟨og,o,L,rows,(hK.2 B hB hBv).trans h1,h2,(k og h6 h7).trans h3,h4,⟨h5,h6,ae⟩,h8,(k o h12 h13).trans h9,DW.frame ae fun i _ h1 h2=>k i h1 h2,Rn,h12,ae⟩
theorem lR.put {n0:Nat} {g g':Rows} {n n':Nat} {B og u e:Id} {a b:Nat} {L:List kE} {rows:List (List AV)} {nm:ByteArray} {l:List Int} (hL:L.length=a) (mD:g og=some ⟨true,2,L.map ez⟩) (zJ:∀x∈L,x.cI.size<=64) (sg:oF og.site/\n0<=og.bt/\og.bt<n) (hr:rows.length=b) (hT:gI ir n0 g n rows) (l6:nm.size<=64/\1<=nm.size) (hl:l.length=4)
  (hn:n<=n') (hB:g' B=some ⟨true,2,[[.own og 0 a,.own u 0 (b+1)]]⟩) (hu:g' u=some ⟨true,2,rows++[[.str nm,.own e 0 4]]⟩) (su:qZ u.site/\n0<=u.bt/\u.bt<n') (he:g' e=some ⟨true,1,l.map aJ⟩) (se:ir e.site/\n0<=e.bt/\e.bt<n') (hf:∀i:Id,(ir i.site∨oF i.site)->n0<=i.bt->i.bt<n->g' i=g i):lR n0 g' n' B a (b+1):=
 ⟨og,u,L,rows++[[.str nm,.own e 0 4]],hB,hL,(hf og (.inr sg.1) sg.2.1 sg.2.2).trans mD,zJ,⟨sg.1,sg.2.1,ae⟩,by simp[hr],hu,(hT.frame hn fun i h1 h2 h3=>hf i (.inl h1) h2 h3).snoc l6 ⟨se.1,se.2.1,se.2.2,l,hl,he⟩,su.1,su.2.1,su.2.2⟩
def xZ (X:Id) (bs:List Int) (A:Nat) (σ:ax) (r:AV) (σ':ax):Prop:=∃(og o sd:Id) (G T2:Nat) (p:aa),r=.agg [.own og 0 G,.own o 0 T2,.own sd 0 1,.int .i64 2]/\gZ σ.next σ'.get σ'.next (.own og 0 G) G/\hZ ir σ.next σ'.get σ'.next (.own o 0 T2) T2/\(0<G/\0<T2/\G<=100/\T2<=100)/\σ'.get sd=some ⟨true,3,[ab p]⟩/\(σ.next<=sd.bt/\sd.bt<σ'.next)/\fM σ'.get X bs (A+100)/\lz X σ σ'
theorem xZ.made {X:Id} {bs:List Int} {A:Nat} {σ:ax} {r:AV} {σ':ax} (h:xZ X bs A σ r σ'):x8 X bs A σ r σ':=by
 obtain⟨og,o,sd,G,T2,p,rfl,h1,h2,⟨h3,h4,h5,h6⟩,h7,⟨h8,h9⟩,DW,Rn⟩:=h
 exact⟨⟨ir,.own og 0 G,.own o 0 T2,G,T2,sd,p,2,rfl,h1,h2,h3,h4,ae,ae,h7,h8,h9⟩,DW.mono ae,Rn⟩
theorem wO (bs:List Int) (hb:∀b∈bs,0<=b/\b<=255) (iK:bs.length<=4096) (X:Id) (A:Nat) (ha:A<=900000) (σ:ax) (h:fM σ.get X bs A) (hX:X.bt<σ.next):
  Call Tryz.prog 25 [.ptr X 0 0] σ (xZ X bs A σ):=by
 refine xX U5 rfl fun jc=>?_
 simp only[G9,xr,Ha,Nb,Nc,Nd,Tk,Kc,Kd,Tl,Tm,Tn,To,PR,Tp,Tq,Tr,Hb,xt,Hc,Nf,Ng,Nh,Tt,Ke,Kf,Tu,Tv,Tw,Ty,PS,Tz,TA,TB,si,PT,TC,TD,TE,TF,TG,TH,C0,PU,TI,TJ,TK,TL,TM,TN]
 try simp only[q]
 clear jc
 have vX:=dj hX
 (try((repeat(revert hN;revert N;apply Pn.out));refine wk @Nat.zero_add ?_;(repeat(refine Pn.mk ?_;intro N hN))))
 refine .inr (aA _ _ _ _ _ (fun r σ1 hq=>?_) (jq bs hb iK X 4 A ae _ (by
  obtain⟨a,z,q1,q2⟩:=h
  exact⟨a,z,q1,by simp only[go_sem, ↓reduceIte,Nat.reduceEqDiff,Nat.reduceAdd,Nat.reduceSub,Nat.reduceLeDiff,reduceCtorEq,vX]<;>exact q2⟩)))
 obtain⟨v,rfl,v0,v1,h1,hK⟩:=hq
 obtain⟨g1,x1⟩:=σ1
 (try dsimp only at h1)
 have Ko:=hK.1
 (try dsimp only at Ko)
 have lP:=hK.2 ⟨25000000,σ.next⟩ (fun e=>by rw[<-e]at hX;(try dsimp only at hX);omega) aU
 have F5:∀i:Id,i≠X->i.bt<σ.next->g1 i=σ.get i:=fun i hi hv=>(hK.2 i hi aU).trans (by have hv:=dj hv;simp only[go_sem, ↓reduceIte,Nat.reduceEqDiff,Nat.reduceAdd,Nat.reduceSub,Nat.reduceLeDiff,reduceCtorEq,hv])
 simp only[go_sem, ↓reduceIte,Nat.reduceEqDiff,Nat.reduceAdd,Nat.reduceSub,Nat.reduceLeDiff,reduceCtorEq]at lP
 clear hK h
 obtain⟨m1,Qi⟩:∃m:Nat,IntKind.i64.wrap (1+v)=(m:Int):=⟨(1+v).toNat,by rw[cD ae];omega⟩
 have hmb1:1<=m1/\m1<=4:=by
  rw[cD ae]at Qi
  omega
 refine hN _ _ ?_
 clear hN N
 (try((repeat(revert hN;revert N;apply Pn.out));refine wk @Qi ?_;(repeat(refine Pn.mk ?_;intro N hN))))
 refine .inr (aA _ _ _ _ _ (fun r σ2 hq=>?_) (jq bs hb iK X 4 (A+2) ae _ h1))
 obtain⟨y,rfl,y0,y1,h2,hK⟩:=hq
 obtain⟨g2,x2⟩:=σ2
 (try dsimp only at h2)
 have wL:=hK.1
 (try dsimp only at wL)
 have B6:=(hK.2 ⟨25000000,σ.next⟩ (fun e=>by rw[<-e]at hX;(try dsimp only at hX);omega) aU).trans lP
 have Yr:∀i:Id,i≠X->i.bt<σ.next->g2 i=σ.get i:=fun i hi hv=>(hK.2 i hi aU).trans (F5 i hi hv)
 (try dsimp only at B6)
 clear hK h1 F5 lP
 obtain⟨m2,Ce⟩:∃m:Nat,IntKind.i64.wrap (1+y)=(m:Int):=⟨(1+y).toNat,by rw[cD ae];omega⟩
 have hmb2:1<=m2/\m2<=4:=by
  rw[cD ae]at Ce
  omega
 refine hN _ _ ?_
 clear hN N
 (try((repeat(revert hN;revert N;apply Pn.out));refine wk @Ce ?_;(repeat(refine Pn.mk ?_;intro N hN))))
 have NO:=dj (i:=X) (n:=x2) ae
 refine bz (fun n env st=>∃k:Nat,n=(m1)-k/\k<=(m1)/\env 8=.int .i64 (k:Int)/\env 7=.int .i64 (k:Int)/\((fM st.get X bs (A+4+2*k)/\x2+3<=st.next/\(∀i:Id,i≠X->i.bt<x2->st.get i=g2 i)/\lR (x2+2) st.get st.next ⟨25003001,x2+1⟩ (k+2) (k+1)))) (m1) ⟨0,ae,ae,sl (tw @Qi @Ce),sl (tw @Qi @Ce),by(try dsimp only);exact⟨(by
  obtain⟨za,zz,xM,gX⟩:=h2
  exact⟨za,zz,ae,by simp only[go_sem, ↓reduceIte,Nat.reduceEqDiff,Nat.reduceAdd,Nat.reduceSub,Nat.reduceLeDiff,reduceCtorEq,NO]<;>exact gX⟩),ae,fun i _ hi=>(by
   have h8:=dj hi
   simp only[go_sem, ↓reduceIte,Nat.reduceEqDiff,Nat.reduceAdd,Nat.reduceSub,Nat.reduceLeDiff,reduceCtorEq,h8]),⟨25004002,x2+1+1⟩,⟨25006001,x2+1+1+1+1⟩,[⟨⟨#[122,101,114,111]⟩,1⟩,⟨⟨#[111,110,101]⟩,1⟩],_,sl @Nat.zero_add,rfl,sl @Nat.zero_add,fun x hx=>(by rcases List.mem_cons.1 hx with h|h;rw[h];decide;rw[List.mem_singleton.1 h];decide),⟨.inl rfl,aU,aU⟩,rfl,sl @Nat.zero_add,(fun row fI=>⟨_,⟨25005000,x2+1+1+1⟩,List.mem_singleton.1 fI,⟨by decide,by decide⟩,.inl rfl,aU,aU,[0,0,0,0],rfl,sl @Nat.zero_add⟩:gI ir (x2+2) _ _ [[.str ⟨#[115,101,101,100]⟩,.own ⟨25005000,x2+1+1+1⟩ 0 4]]),.inl rfl,aU,aU⟩⟩ ?_
 rintro n_a env_a st_a ⟨k,rfl,ale,a8,a7,oh⟩ eJ
 have a0:=eJ 0 (by kernel_rfl);have a2:=eJ 2 (by kernel_rfl);have a3:=eJ 3 (by kernel_rfl);have a4:=eJ 4 (by kernel_rfl);have a5:=eJ 5 (by kernel_rfl);have a6:=eJ 6 (by kernel_rfl)
 simp only[go_sem, ↓reduceIte,Nat.reduceEqDiff,Nat.reduceAdd,Nat.reduceSub,Nat.reduceLeDiff,reduceCtorEq,Qi,Ce]at a0 a2 a3 a4 a5 a6
 clear eJ
 have aC:=oh.2.2.2
 obtain⟨aS,aN,aO,og,o,L,rows,aB,hL,mD,zJ,⟨sg,Pd,Pe⟩,hr,go,hT,so,k7,oP⟩:=oh
 by_cases hk:(k:Int)<(m1:Int)
 ·have dx:∀{e:Env} {gg:Rows} {nx:Nat},(e 8=.int .i64 (IntKind.i64.wrap ((k:Int)+1)))->(e 7=.int .i64 ((k+1):Int))->((fM gg X bs (A+4+2*(k+1))/\x2+3<=nx/\(∀i:Id,i≠X->i.bt<x2->gg i=g2 i)/\lR (x2+2) gg nx ⟨25003001,x2+1⟩ ((k+1)+2) ((k+1)+1)))->∃m0,m0<(m1)-k/\∃k:Nat,m0=(m1)-k/\k<=(m1)/\e 8=.int .i64 (k:Int)/\e 7=.int .i64 (k:Int)/\((fM gg X bs (A+4+2*k)/\x2+3<=nx/\(∀i:Id,i≠X->i.bt<x2->gg i=g2 i)/\lR (x2+2) gg nx ⟨25003001,x2+1⟩ (k+2) (k+1))):=fun x1 x2 x3=>⟨_,ae,k+1,rfl,ae,(by rw[x1,az ae]),x2,x3⟩
  have sY:=nN (k:Int) ae ae
  have F7:=kc (k:Int) ae
  generalize jv (k:Int)=dt at sY F7
  have e9:(#[120]:Array UInt8).size+dt.size<=9223372036854775807:=by
   have:(#[120]:Array UInt8).size=1:=rfl
   omega
  have iL:(#[101]:Array UInt8).size+dt.size<=9223372036854775807:=by
   have:(#[101]:Array UInt8).size=1:=rfl
   omega
  have l6:((⟨#[120]⟩:ByteArray)++dt).size<=64:=by
   rw[im]
   have:(⟨#[120]⟩:ByteArray).size=1:=rfl
   omega
  have Ec:((⟨#[101]⟩:ByteArray)++dt).size<=64:=by
   rw[im]
   have:(⟨#[101]⟩:ByteArray).size=1:=rfl
   omega
  obtain⟨ga,na⟩:=st_a
  (try dsimp only at aS aN aO aB mD Pe go hT oP)
  obtain⟨nm,u,fI,f1,f2,f3,l,hl,gE⟩:=hT.get (k:=k) ae
  have uI:=dj Pe
  have vo:=dj oP
  have vu:=dj f3
  have ti:=BX sg so
  have tg:=BW f1 sg
  have th:=sP f1 so
  have nB:∀i:Id,x2+2<=i.bt->∀s,(i=⟨s,x2+1⟩)=False/\((⟨s,x2+1⟩:Id)=i)=False:=fun i hi s=>⟨eq_false fun e=>by rw[e]at hi;(try dsimp only at hi);omega,eq_false fun e=>by rw[<-e]at hi;(try dsimp only at hi);omega⟩
  have qE:=nB og Pd
  have oj:=nB o k7
  have qF:=nB u f2
  have kU:(L.map ez).length=k+2:=by rw[List.length_map,hL]
  have ue:k<=16777213:=ae
  have OB:(k:Int)<((k+1:Nat):Int):=ae
  have gp:(l.map aJ).length=4:=by rw[List.length_map,hl]
  have kC:(l.map aJ)[1]? =some [.int .i64 (l.getD 1 0)]:=getD_map aJ ae
  have fj:∀w:Int,(l.map aJ).set 1 [.int .i64 w]=(l.set 1 w).map aJ:=fun w=>by rw[List.map_set];rfl
  (repeat(first|((repeat(revert hN;revert N;apply Pn.out));refine wk (tw @a8 (tw @a7 (tw @a0 (tw @a2 (tw @a3 (tw @a4 (tw @a5 (tw @a6 (tw @hk (tw @aB (tw @e9 (tw @iL (tw @mD (tw @go (tw @uI (tw @vo (tw @vu (tw @ti (tw @tg (tw @th (tw @qE (tw @oj (tw @qF (tw @kU (tw @ue (tw @OB (tw @fI (tw @gE (tw @kC (tw @gp (tw @fj @hr))))))))))))))))))))))))))))))) ?_;(repeat(refine Pn.mk ?_;intro N hN)))|((try apply Or.inl);refine⟨_,au.x (sY) (sd (tw @a8 (tw @a7 (tw @a0 (tw @a2 (tw @a3 (tw @a4 (tw @a5 (tw @a6 (tw @hk (tw @aB (tw @e9 (tw @iL (tw @mD (tw @go (tw @uI (tw @vo (tw @vu (tw @ti (tw @tg (tw @th (tw @qE (tw @oj (tw @qF (tw @kU (tw @ue (tw @OB (tw @fI (tw @gE (tw @kC (tw @gp (tw @fj @hr)))))))))))))))))))))))))))))))),?_⟩;refine hN _ _ ?_;clear hN N)))
  refine lJ (fun e st=>e 0=.ptr X 0 0/\e 2=env_a 2/\e 3=env_a 3/\e 4=env_a 4/\e 5=env_a 5/\e 6=env_a 6/\e 8=.int .i64 (k:Int)/\fM st.get X bs (A+4+2*(k+1))/\x2+3<=st.next/\(∀i:Id,i≠X->i.bt<x2->st.get i=g2 i)/\lR (x2+2) st.get st.next ⟨25003001,x2+1⟩ (k+3) (k+2)) ?_ ?_
  ·rintro e st ⟨r0,r2,r3,r4,r5,r6,r8,rS,rN,rO,rC⟩
   obtain⟨gc,nc⟩:=st
   (try dsimp only at rS rN rO rC)
   obtain⟨qg,qo,L',rows',rB,_⟩:=id rC
   rw[a2]at r2
   rw[a3]at r3
   rw[a4]at r4
   rw[a5]at r5
   rw[a6]at r6
   refine hN _ _ ?_
   clear hN N
   have w9:IntKind.i64.wrap (((k+2:Nat):Int)-1)=(k:Int)+1:=(cD ae).trans ae
   (try((repeat(revert hN;revert N;apply Pn.out));refine wk (tw @r0 (tw @r2 (tw @r3 (tw @r4 (tw @r5 (tw @r6 (tw @r8 (tw @rB @w9)))))))) ?_;(repeat(refine Pn.mk ?_;intro N hN))))
   refine dx ?_ ?_ (by(try dsimp only);exact⟨rS,ae,rO,rC.later ae⟩)
   all_goals simp only[go_sem, ↓reduceIte,Nat.reduceEqDiff,Nat.reduceAdd,Nat.reduceSub,Nat.reduceLeDiff,reduceCtorEq,a8,a7,a0,a2,a3,a4,a5,a6,r8]
  ·intro N hN
   have ZU:(X=u)=False:=eq_false fun h=>by rw[<-h]at f2;omega
   have ZT:(X=og)=False:=eq_false fun h=>by rw[<-h]at Pd;omega
   have UL:=dj (i:=X) (n:=na) ae
   refine dS ?_ ?_<;>(repeat(first|((repeat(revert hN;revert N;apply Pn.out));refine wk (tw @a8 (tw @a7 (tw @a0 (tw @a2 (tw @a3 (tw @a4 (tw @a5 (tw @a6 (tw @aB (tw @e9 (tw @iL (tw @mD (tw @go (tw @uI (tw @vo (tw @vu (tw @ti (tw @tg (tw @th (tw @qE (tw @oj (tw @qF (tw @kU @hr))))))))))))))))))))))) ?_;(repeat(refine Pn.mk ?_;intro N hN)))|((try apply Or.inl);refine⟨_,au.x (sY) (sd (tw @a8 (tw @a7 (tw @a0 (tw @a2 (tw @a3 (tw @a4 (tw @a5 (tw @a6 (tw @aB (tw @e9 (tw @iL (tw @mD (tw @go (tw @uI (tw @vo (tw @vu (tw @ti (tw @tg (tw @th (tw @qE (tw @oj (tw @qF (tw @kU @hr)))))))))))))))))))))))),?_⟩;refine hN _ _ ?_;clear hN N)))<;>(try refine dS ?_ ?_)<;>(repeat(first|((repeat(revert hN;revert N;apply Pn.out));refine wk (tw @a8 (tw @a7 (tw @a0 (tw @a2 (tw @a3 (tw @a4 (tw @a5 (tw @a6 (tw @aB (tw @e9 (tw @iL (tw @mD (tw @go (tw @uI (tw @vo (tw @vu (tw @ti (tw @tg (tw @th (tw @qE (tw @oj (tw @qF (tw @kU @hr))))))))))))))))))))))) ?_;(repeat(refine Pn.mk ?_;intro N hN)))|((try apply Or.inl);refine⟨_,au.x (sY) (sd (tw @a8 (tw @a7 (tw @a0 (tw @a2 (tw @a3 (tw @a4 (tw @a5 (tw @a6 (tw @aB (tw @e9 (tw @iL (tw @mD (tw @go (tw @uI (tw @vo (tw @vu (tw @ti (tw @tg (tw @th (tw @qE (tw @oj (tw @qF (tw @kU @hr)))))))))))))))))))))))),?_⟩;refine hN _ _ ?_;clear hN N)))<;>(try refine dS ?_ ?_)<;>(repeat(first|((repeat(revert hN;revert N;apply Pn.out));refine wk (tw @a8 (tw @a7 (tw @a0 (tw @a2 (tw @a3 (tw @a4 (tw @a5 (tw @a6 (tw @aB (tw @e9 (tw @iL (tw @mD (tw @go (tw @uI (tw @vo (tw @vu (tw @ti (tw @tg (tw @th (tw @qE (tw @oj (tw @qF (tw @kU @hr))))))))))))))))))))))) ?_;(repeat(refine Pn.mk ?_;intro N hN)))|((try apply Or.inl);refine⟨_,au.x (sY) (sd (tw @a8 (tw @a7 (tw @a0 (tw @a2 (tw @a3 (tw @a4 (tw @a5 (tw @a6 (tw @aB (tw @e9 (tw @iL (tw @mD (tw @go (tw @uI (tw @vo (tw @vu (tw @ti (tw @tg (tw @th (tw @qE (tw @oj (tw @qF (tw @kU @hr)))))))))))))))))))))))),?_⟩;refine hN _ _ ?_;clear hN N)))<;>(try refine dS ?_ ?_)<;>(repeat(first|((repeat(revert hN;revert N;apply Pn.out));refine wk (tw @a8 (tw @a7 (tw @a0 (tw @a2 (tw @a3 (tw @a4 (tw @a5 (tw @a6 (tw @aB (tw @e9 (tw @iL (tw @mD (tw @go (tw @uI (tw @vo (tw @vu (tw @ti (tw @tg (tw @th (tw @qE (tw @oj (tw @qF (tw @kU @hr))))))))))))))))))))))) ?_;(repeat(refine Pn.mk ?_;intro N hN)))|((try apply Or.inl);refine⟨_,au.x (sY) (sd (tw @a8 (tw @a7 (tw @a0 (tw @a2 (tw @a3 (tw @a4 (tw @a5 (tw @a6 (tw @aB (tw @e9 (tw @iL (tw @mD (tw @go (tw @uI (tw @vo (tw @vu (tw @ti (tw @tg (tw @th (tw @qE (tw @oj (tw @qF (tw @kU @hr)))))))))))))))))))))))),?_⟩;refine hN _ _ ?_;clear hN N)))<;>(try refine dS ?_ ?_)<;>(repeat(first|((repeat(revert hN;revert N;apply Pn.out));refine wk (tw @a8 (tw @a7 (tw @a0 (tw @a2 (tw @a3 (tw @a4 (tw @a5 (tw @a6 (tw @aB (tw @e9 (tw @iL (tw @mD (tw @go (tw @uI (tw @vo (tw @vu (tw @ti (tw @tg (tw @th (tw @qE (tw @oj (tw @qF (tw @kU @hr))))))))))))))))))))))) ?_;(repeat(refine Pn.mk ?_;intro N hN)))|((try apply Or.inl);refine⟨_,au.x (sY) (sd (tw @a8 (tw @a7 (tw @a0 (tw @a2 (tw @a3 (tw @a4 (tw @a5 (tw @a6 (tw @aB (tw @e9 (tw @iL (tw @mD (tw @go (tw @uI (tw @vo (tw @vu (tw @ti (tw @tg (tw @th (tw @qE (tw @oj (tw @qF (tw @kU @hr)))))))))))))))))))))))),?_⟩;refine hN _ _ ?_;clear hN N)))<;>(try refine dS ?_ ?_)<;>(repeat(first|((repeat(revert hN;revert N;apply Pn.out));refine wk (tw @a8 (tw @a7 (tw @a0 (tw @a2 (tw @a3 (tw @a4 (tw @a5 (tw @a6 (tw @aB (tw @e9 (tw @iL (tw @mD (tw @go (tw @uI (tw @vo (tw @vu (tw @ti (tw @tg (tw @th (tw @qE (tw @oj (tw @qF (tw @kU @hr))))))))))))))))))))))) ?_;(repeat(refine Pn.mk ?_;intro N hN)))|((try apply Or.inl);refine⟨_,au.x (sY) (sd (tw @a8 (tw @a7 (tw @a0 (tw @a2 (tw @a3 (tw @a4 (tw @a5 (tw @a6 (tw @aB (tw @e9 (tw @iL (tw @mD (tw @go (tw @uI (tw @vo (tw @vu (tw @ti (tw @tg (tw @th (tw @qE (tw @oj (tw @qF (tw @kU @hr)))))))))))))))))))))))),?_⟩;refine hN _ _ ?_;clear hN N)))
   all_goals
    refine .inr (aA _ _ _ _ _ (fun r σ3 hq=>?_) (jq bs hb iK X 2 (A+4+2*k) ae _ (by
     obtain⟨za,zz,xM,gX⟩:=aS
     exact⟨za,zz,xM,by simp only[go_sem, ↓reduceIte,Nat.reduceEqDiff,Nat.reduceAdd,Nat.reduceSub,Nat.reduceLeDiff,reduceCtorEq,UL,NO,ZU,ZT]<;>exact gX⟩)))
    obtain⟨w,rfl,w0,w1,h3,hK⟩:=hq
    obtain⟨g3,x3⟩:=σ3
    (try dsimp only at h3)
    have Gk:=hK.1
    (try dsimp only at Gk)
    have c5:=hK.2 ⟨25003001,x2+1⟩ (fun e=>by rw[<-e]at hX;(try dsimp only at hX);omega) aU
    have cG:=hK.2 ⟨25011007,na+1⟩ (fun e=>by rw[<-e]at hX;(try dsimp only at hX);omega) aU
    have co:=hK.2 o (fun h=>by rw[h]at k7;omega) aU
    simp only[go_sem, ↓reduceIte,Nat.reduceEqDiff,Nat.reduceAdd,Nat.reduceSub,Nat.reduceLeDiff,reduceCtorEq,go,vo,vu,ti,tg,th,qE,oj,qF]at c5 cG co
    refine hN _ _ ?_
    clear hN N
    have Kl:k<=16777214:=ae
    have WC:=dj (i:=o) (n:=x3) ae
    (repeat(first|((repeat(revert hN;revert N;apply Pn.out));refine wk (tw @a8 (tw @a7 (tw @a0 (tw @a2 (tw @a3 (tw @a4 (tw @a5 (tw @a6 (tw @c5 (tw @cG (tw @co (tw @hr (tw @iL (tw @Kl (tw @qE (tw @oj (tw @qF @WC))))))))))))))))) ?_;(repeat(refine Pn.mk ?_;intro N hN)))|((try apply Or.inl);refine⟨_,au.x (sY) (sd (tw @a8 (tw @a7 (tw @a0 (tw @a2 (tw @a3 (tw @a4 (tw @a5 (tw @a6 (tw @c5 (tw @cG (tw @co (tw @hr (tw @iL (tw @Kl (tw @qE (tw @oj (tw @qF @WC)))))))))))))))))),?_⟩;refine hN _ _ ?_;clear hN N)))
    obtain⟨za,zz,xM,gX⟩:=h3
    have Z0:=dj (i:=X) (n:=x3) ae
    have Pa:(X=o)=False:=eq_false fun h=>by rw[<-h]at k7;omega
    have Vo:=(hT.write (e:=u) (l:=l.set 1 ((k+2+1:Nat):Int)) (by rw[List.length_set,hl])).frame (g':=g3) (n':=x3) ae fun i h1 h2 h4=>(hK.2 i (fun h=>by rw[h]at h2;omega) aU).trans (by
     have q1:=dj h4
     have q2:=BW h1 sg
     have q3:=nB i h2
     simp only[go_sem, ↓reduceIte,Nat.reduceEqDiff,Nat.reduceAdd,Nat.reduceSub,Nat.reduceLeDiff,reduceCtorEq,q1,q2,q3])
    have Ys:∀i:Id,i≠X->i.bt<x2->g3 i=g2 i:=fun i h1 h2=>(hK.2 i h1 aU).trans (by
     have q1:=dj (i:=i) (n:=na) ae
     have q2:=dj h2
     have q3:(i=og)=False:=eq_false fun h=>by rw[h]at h2;omega
     have q4:(i=u)=False:=eq_false fun h=>by rw[h]at h2;omega
     simp only[go_sem, ↓reduceIte,Nat.reduceEqDiff,Nat.reduceAdd,Nat.reduceSub,Nat.reduceLeDiff,reduceCtorEq,q1,q2,q3,q4]<;>exact aO i h1 h2)
    exact⟨sd (tw @a8 (tw @a7 (tw @a0 (tw @a2 (tw @a3 (tw @a4 (tw @a5 @a6))))))),sd (tw @a8 (tw @a7 (tw @a0 (tw @a2 (tw @a3 (tw @a4 (tw @a5 @a6))))))),sd (tw @a8 (tw @a7 (tw @a0 (tw @a2 (tw @a3 (tw @a4 (tw @a5 @a6))))))),sd (tw @a8 (tw @a7 (tw @a0 (tw @a2 (tw @a3 (tw @a4 (tw @a5 @a6))))))),sd (tw @a8 (tw @a7 (tw @a0 (tw @a2 (tw @a3 (tw @a4 (tw @a5 @a6))))))),sd (tw @a8 (tw @a7 (tw @a0 (tw @a2 (tw @a3 (tw @a4 (tw @a5 @a6))))))),sd (tw @a8 (tw @a7 (tw @a0 (tw @a2 (tw @a3 (tw @a4 (tw @a5 @a6))))))),⟨za,zz,ae,by simp only[go_sem, ↓reduceIte,Nat.reduceEqDiff,Nat.reduceAdd,Nat.reduceSub,Nat.reduceLeDiff,reduceCtorEq,Z0,NO,Pa]<;>exact gX⟩,aU,fun i h1 h2=>(by
     have q1:=dj (i:=i) (n:=x3) ae
     have q2:=dj h2
     have q3:(i=o)=False:=eq_false fun h=>by rw[h]at h2;omega
     simp only[go_sem, ↓reduceIte,Nat.reduceEqDiff,Nat.reduceAdd,Nat.reduceSub,Nat.reduceLeDiff,reduceCtorEq,q1,q2,q3]<;>exact Ys i h1 h2),⟨25011007,na+1⟩,⟨25013014,x3⟩,L++[⟨(⟨#[120]⟩:ByteArray)++dt,2⟩],rows++[[.str ((⟨#[101]⟩:ByteArray)++dt),.own ⟨25013011,x3⟩ 0 4]],sl @Nat.zero_add,by simp[hL],by
      have q1:((⟨25011007,na+1⟩:Id)=o)=False:=eq_false fun h=>by rw[<-h]at oP;(try dsimp only at oP);omega
      rw[List.map_append];simp only[go_sem, ↓reduceIte,Nat.reduceEqDiff,Nat.reduceAdd,Nat.reduceSub,Nat.reduceLeDiff,reduceCtorEq,q1]<;>exact cG,fun x hx=>(by
      rcases List.mem_append.1 hx with h9|h9
      ·exact zJ x h9
      ·rw[List.mem_singleton.1 h9];exact l6),⟨.inr (.inl rfl),aU,aU⟩,by simp[hr],sl @Nat.zero_add,(Vo.frame aU fun i h1 h2 h4=>(by
       have q1:=dj h4
       have q2:=sP h1 so
       have q3:=nB i h2
       simp only[go_sem, ↓reduceIte,Nat.reduceEqDiff,Nat.reduceAdd,Nat.reduceSub,Nat.reduceLeDiff,reduceCtorEq,q1,q2,q3])).snoc (e:=⟨25013011,x3⟩) ⟨Ec,vM _ _⟩ ⟨.inr (.inl rfl),aU,aU,[IntKind.i64.wrap (1+w),0,0,((k+2+1:Nat):Int)],rfl,by
       have q1:((⟨25013011,x3⟩:Id)=o)=False:=eq_false fun h=>by rw[<-h]at oP;(try dsimp only at oP);omega
       simp only[go_sem, ↓reduceIte,Nat.reduceEqDiff,Nat.reduceAdd,Nat.reduceSub,Nat.reduceLeDiff,reduceCtorEq,q1]<;>rfl⟩,.inr (.inl rfl),aU,aU⟩
 ·have hkm:k=m1:=ae
  subst hkm
  clear aB hL mD zJ sg Pd Pe hr go hT so k7 oP
  obtain⟨ga,na⟩:=st_a
  (try dsimp only at aS aN aO aC)
  (try((repeat(revert hN;revert N;apply Pn.out));refine wk (tw @a8 (tw @a7 (tw @a0 (tw @a2 (tw @a3 (tw @a4 (tw @a5 (tw @a6 @hk)))))))) ?_;(repeat(refine Pn.mk ?_;intro N hN))))
  refine bz (fun n env st=>∃j:Nat,n=(m2)-j/\j<=(m2)/\env 9=.int .i64 (j:Int)/\env 7=.int .i64 (yU k j:Int)/\((fM st.get X bs (A+4+2*k+2*j)/\x2+3<=st.next/\(∀i:Id,i≠X->i.bt<x2->st.get i=g2 i)/\lR (x2+2) st.get st.next ⟨25003001,x2+1⟩ (k+2+j) (k+1+j)))) (m2) ⟨0,ae,ae,sl (tw @a8 (tw @a7 (tw @a0 (tw @a2 (tw @a3 (tw @a4 (tw @a5 (tw @a6 @Ce)))))))),sl (tw @a8 (tw @a7 (tw @a0 (tw @a2 (tw @a3 (tw @a4 (tw @a5 (tw @a6 @Ce)))))))),by(try dsimp only);exact⟨by(try simp only[go_sem, ↓reduceIte,Nat.reduceEqDiff,Nat.reduceAdd,Nat.reduceSub,Nat.reduceLeDiff,reduceCtorEq]);exact aS,ae,aO,aC.later ae⟩⟩ ?_
  rintro n_b env_b st_b ⟨j,rfl,ble,b9,b7,bI0⟩ eW
  have b0:=eW 0 (by kernel_rfl);have b2:=eW 2 (by kernel_rfl);have b4:=eW 4 (by kernel_rfl);have b5:=eW 5 (by kernel_rfl)
  simp only[go_sem, ↓reduceIte,Nat.reduceEqDiff,Nat.reduceAdd,Nat.reduceSub,Nat.reduceLeDiff,reduceCtorEq,a8,a7,a0,a2,a3,a4,a5,a6,Ce]at b0 b2 b4 b5
  clear eW
  have bC:=bI0.2.2.2
  obtain⟨bS,bN,bO,og,o,L,rows,bB,hL,mD,zJ,⟨sg,Pd,Pe⟩,hr,go,hT,so,k7,oP⟩:=bI0
  by_cases hj:(j:Int)<(m2:Int)
  ·have fh:∀{e:Env} {gg:Rows} {nx:Nat},(e 9=.int .i64 (IntKind.i64.wrap ((j:Int)+1)))->(e 7=.int .i64 (yU k (j+1):Int))->((fM gg X bs (A+4+2*k+2*(j+1))/\x2+3<=nx/\(∀i:Id,i≠X->i.bt<x2->gg i=g2 i)/\lR (x2+2) gg nx ⟨25003001,x2+1⟩ (k+2+(j+1)) (k+1+(j+1))))->∃m0,m0<(m2)-j/\∃j:Nat,m0=(m2)-j/\j<=(m2)/\e 9=.int .i64 (j:Int)/\e 7=.int .i64 (yU k j:Int)/\((fM gg X bs (A+4+2*k+2*j)/\x2+3<=nx/\(∀i:Id,i≠X->i.bt<x2->gg i=g2 i)/\lR (x2+2) gg nx ⟨25003001,x2+1⟩ (k+2+j) (k+1+j))):=fun x1 x2 x3=>⟨_,ae,j+1,rfl,ae,(by rw[x1,az ae]),x2,x3⟩
   obtain⟨G,hG⟩:∃G,k+2+j=G:=⟨_,rfl⟩
   obtain⟨TT,Vq⟩:∃T,k+1+j=T:=⟨_,rfl⟩
   obtain⟨z,hz⟩:∃z,yU k j=z:=⟨_,rfl⟩
   rw[hG]at bB hL
   rw[Vq]at bB hr
   rw[hz]at b7
   have hzT:z<TT:=by rw[<-hz,<-Vq];unfold yU;split<;>omega
   have sY:=nN (j:Int) ae ae
   have F7:=kc (j:Int) ae
   generalize jv (j:Int)=dt at sY F7
   have e9:(#[121]:Array UInt8).size+dt.size<=9223372036854775807:=by
    have:(#[121]:Array UInt8).size=1:=rfl
    omega
   have iL:(#[110]:Array UInt8).size+dt.size<=9223372036854775807:=by
    have:(#[110]:Array UInt8).size=1:=rfl
    omega
   have l6:((⟨#[121]⟩:ByteArray)++dt).size<=64:=by
    rw[im]
    have:(⟨#[121]⟩:ByteArray).size=1:=rfl
    omega
   have Ec:((⟨#[110]⟩:ByteArray)++dt).size<=64:=by
    rw[im]
    have:(⟨#[110]⟩:ByteArray).size=1:=rfl
    omega
   obtain⟨gb,nb⟩:=st_b
   (try dsimp only at bS bN bO bB mD Pe go hT oP)
   obtain⟨nm,u,fI,f1,f2,f3,l,hl,gE⟩:=hT.get (k:=z) ae
   have uI:=dj Pe
   have vo:=dj oP
   have vu:=dj f3
   have ti:=BX sg so
   have tg:=BW f1 sg
   have th:=sP f1 so
   have nB:∀i:Id,x2+2<=i.bt->∀s,(i=⟨s,x2+1⟩)=False/\((⟨s,x2+1⟩:Id)=i)=False:=fun i hi s=>⟨eq_false fun e=>by rw[e]at hi;(try dsimp only at hi);omega,eq_false fun e=>by rw[<-e]at hi;(try dsimp only at hi);omega⟩
   have qE:=nB og Pd
   have oj:=nB o k7
   have qF:=nB u f2
   have kU:(L.map ez).length=G:=by rw[List.length_map,hL]
   have ue:G<=16777215:=ae
   have OB:(z:Int)<(TT:Int):=ae
   have V8:(0:Int)<=(z:Int):=ae
   have gp:(l.map aJ).length=4:=by rw[List.length_map,hl]
   have kC:(l.map aJ)[0]? =some [.int .i64 (l.getD 0 0)]:=getD_map aJ ae
   have fj:∀w:Int,(l.map aJ).set 0 [.int .i64 w]=(l.set 0 w).map aJ:=fun w=>by rw[List.map_set];rfl
   (repeat(first|((repeat(revert hN;revert N;apply Pn.out));refine wk (tw @b9 (tw @b7 (tw @b0 (tw @b2 (tw @b4 (tw @b5 (tw @hj (tw @bB (tw @e9 (tw @iL (tw @mD (tw @go (tw @uI (tw @vo (tw @vu (tw @ti (tw @tg (tw @th (tw @qE (tw @oj (tw @qF (tw @kU (tw @ue (tw @OB (tw @fI (tw @gE (tw @kC (tw @gp (tw @fj @hr))))))))))))))))))))))))))))) ?_;(repeat(refine Pn.mk ?_;intro N hN)))|((try apply Or.inl);refine⟨_,au.x (sY) (sd (tw @b9 (tw @b7 (tw @b0 (tw @b2 (tw @b4 (tw @b5 (tw @hj (tw @bB (tw @e9 (tw @iL (tw @mD (tw @go (tw @uI (tw @vo (tw @vu (tw @ti (tw @tg (tw @th (tw @qE (tw @oj (tw @qF (tw @kU (tw @ue (tw @OB (tw @fI (tw @gE (tw @kC (tw @gp (tw @fj @hr)))))))))))))))))))))))))))))),?_⟩;refine hN _ _ ?_;clear hN N)))
   refine lJ (fun e st=>e 0=.ptr X 0 0/\e 2=env_b 2/\e 4=env_b 4/\e 5=env_b 5/\e 9=.int .i64 (j:Int)/\fM st.get X bs (A+4+2*k+2*(j+1))/\x2+3<=st.next/\(∀i:Id,i≠X->i.bt<x2->st.get i=g2 i)/\lR (x2+2) st.get st.next ⟨25003001,x2+1⟩ (G+1) (TT+1)) ?_ ?_
   ·rintro e st ⟨r0,r2,r4,r5,r9,rS,rN,rO,rC⟩
    obtain⟨gc,nc⟩:=st
    (try dsimp only at rS rN rO rC)
    obtain⟨qg,qo,L',rows',rB,_⟩:=id rC
    rw[b2]at r2
    rw[b4]at r4
    rw[b5]at r5
    refine hN _ _ ?_
    clear hN N
    have w9:IntKind.i64.wrap (((TT+1:Nat):Int)-1)=(TT:Int):=(cD ae).trans ae
    have hl9:yU k (j+1)=TT:=by rw[<-Vq];unfold yU;rw[if_neg ae];omega
    (try((repeat(revert hN;revert N;apply Pn.out));refine wk (tw @r0 (tw @r2 (tw @r4 (tw @r5 (tw @r9 (tw @rB @w9)))))) ?_;(repeat(refine Pn.mk ?_;intro N hN))))
    refine fh ?_ ?_ (by(try dsimp only);rw[show k+2+(j+1)=G+1 by omega,show k+1+(j+1)=TT+1 by omega];exact⟨rS,ae,rO,rC.later ae⟩)
    all_goals simp only[go_sem, ↓reduceIte,Nat.reduceEqDiff,Nat.reduceAdd,Nat.reduceSub,Nat.reduceLeDiff,reduceCtorEq,b9,b7,b0,b2,b4,b5,r9,hl9]
   ·intro N hN
    have ZU:(X=u)=False:=eq_false fun h=>by rw[<-h]at f2;omega
    have ZT:(X=og)=False:=eq_false fun h=>by rw[<-h]at Pd;omega
    have UL:=dj (i:=X) (n:=nb) ae
    refine dS ?_ ?_<;>(repeat(first|((repeat(revert hN;revert N;apply Pn.out));refine wk (tw @b9 (tw @b7 (tw @b0 (tw @b2 (tw @b4 (tw @b5 (tw @bB (tw @e9 (tw @iL (tw @mD (tw @go (tw @uI (tw @vo (tw @vu (tw @ti (tw @tg (tw @th (tw @qE (tw @oj (tw @qF (tw @kU @hr))))))))))))))))))))) ?_;(repeat(refine Pn.mk ?_;intro N hN)))|((try apply Or.inl);refine⟨_,au.x (sY) (sd (tw @b9 (tw @b7 (tw @b0 (tw @b2 (tw @b4 (tw @b5 (tw @bB (tw @e9 (tw @iL (tw @mD (tw @go (tw @uI (tw @vo (tw @vu (tw @ti (tw @tg (tw @th (tw @qE (tw @oj (tw @qF (tw @kU @hr)))))))))))))))))))))),?_⟩;refine hN _ _ ?_;clear hN N)))<;>(try refine dS ?_ ?_)<;>(repeat(first|((repeat(revert hN;revert N;apply Pn.out));refine wk (tw @b9 (tw @b7 (tw @b0 (tw @b2 (tw @b4 (tw @b5 (tw @bB (tw @e9 (tw @iL (tw @mD (tw @go (tw @uI (tw @vo (tw @vu (tw @ti (tw @tg (tw @th (tw @qE (tw @oj (tw @qF (tw @kU @hr))))))))))))))))))))) ?_;(repeat(refine Pn.mk ?_;intro N hN)))|((try apply Or.inl);refine⟨_,au.x (sY) (sd (tw @b9 (tw @b7 (tw @b0 (tw @b2 (tw @b4 (tw @b5 (tw @bB (tw @e9 (tw @iL (tw @mD (tw @go (tw @uI (tw @vo (tw @vu (tw @ti (tw @tg (tw @th (tw @qE (tw @oj (tw @qF (tw @kU @hr)))))))))))))))))))))),?_⟩;refine hN _ _ ?_;clear hN N)))<;>(try refine dS ?_ ?_)<;>(repeat(first|((repeat(revert hN;revert N;apply Pn.out));refine wk (tw @b9 (tw @b7 (tw @b0 (tw @b2 (tw @b4 (tw @b5 (tw @bB (tw @e9 (tw @iL (tw @mD (tw @go (tw @uI (tw @vo (tw @vu (tw @ti (tw @tg (tw @th (tw @qE (tw @oj (tw @qF (tw @kU @hr))))))))))))))))))))) ?_;(repeat(refine Pn.mk ?_;intro N hN)))|((try apply Or.inl);refine⟨_,au.x (sY) (sd (tw @b9 (tw @b7 (tw @b0 (tw @b2 (tw @b4 (tw @b5 (tw @bB (tw @e9 (tw @iL (tw @mD (tw @go (tw @uI (tw @vo (tw @vu (tw @ti (tw @tg (tw @th (tw @qE (tw @oj (tw @qF (tw @kU @hr)))))))))))))))))))))),?_⟩;refine hN _ _ ?_;clear hN N)))<;>(try refine dS ?_ ?_)<;>(repeat(first|((repeat(revert hN;revert N;apply Pn.out));refine wk (tw @b9 (tw @b7 (tw @b0 (tw @b2 (tw @b4 (tw @b5 (tw @bB (tw @e9 (tw @iL (tw @mD (tw @go (tw @uI (tw @vo (tw @vu (tw @ti (tw @tg (tw @th (tw @qE (tw @oj (tw @qF (tw @kU @hr))))))))))))))))))))) ?_;(repeat(refine Pn.mk ?_;intro N hN)))|((try apply Or.inl);refine⟨_,au.x (sY) (sd (tw @b9 (tw @b7 (tw @b0 (tw @b2 (tw @b4 (tw @b5 (tw @bB (tw @e9 (tw @iL (tw @mD (tw @go (tw @uI (tw @vo (tw @vu (tw @ti (tw @tg (tw @th (tw @qE (tw @oj (tw @qF (tw @kU @hr)))))))))))))))))))))),?_⟩;refine hN _ _ ?_;clear hN N)))<;>(try refine dS ?_ ?_)<;>(repeat(first|((repeat(revert hN;revert N;apply Pn.out));refine wk (tw @b9 (tw @b7 (tw @b0 (tw @b2 (tw @b4 (tw @b5 (tw @bB (tw @e9 (tw @iL (tw @mD (tw @go (tw @uI (tw @vo (tw @vu (tw @ti (tw @tg (tw @th (tw @qE (tw @oj (tw @qF (tw @kU @hr))))))))))))))))))))) ?_;(repeat(refine Pn.mk ?_;intro N hN)))|((try apply Or.inl);refine⟨_,au.x (sY) (sd (tw @b9 (tw @b7 (tw @b0 (tw @b2 (tw @b4 (tw @b5 (tw @bB (tw @e9 (tw @iL (tw @mD (tw @go (tw @uI (tw @vo (tw @vu (tw @ti (tw @tg (tw @th (tw @qE (tw @oj (tw @qF (tw @kU @hr)))))))))))))))))))))),?_⟩;refine hN _ _ ?_;clear hN N)))<;>(try refine dS ?_ ?_)<;>(repeat(first|((repeat(revert hN;revert N;apply Pn.out));refine wk (tw @b9 (tw @b7 (tw @b0 (tw @b2 (tw @b4 (tw @b5 (tw @bB (tw @e9 (tw @iL (tw @mD (tw @go (tw @uI (tw @vo (tw @vu (tw @ti (tw @tg (tw @th (tw @qE (tw @oj (tw @qF (tw @kU @hr))))))))))))))))))))) ?_;(repeat(refine Pn.mk ?_;intro N hN)))|((try apply Or.inl);refine⟨_,au.x (sY) (sd (tw @b9 (tw @b7 (tw @b0 (tw @b2 (tw @b4 (tw @b5 (tw @bB (tw @e9 (tw @iL (tw @mD (tw @go (tw @uI (tw @vo (tw @vu (tw @ti (tw @tg (tw @th (tw @qE (tw @oj (tw @qF (tw @kU @hr)))))))))))))))))))))),?_⟩;refine hN _ _ ?_;clear hN N)))
    all_goals
     refine .inr (aA _ _ _ _ _ (fun r σ3 hq=>?_) (jq bs hb iK X 2 (A+4+2*k+2*j) ae _ (by
      obtain⟨za,zz,xM,gX⟩:=bS
      exact⟨za,zz,xM,by simp only[go_sem, ↓reduceIte,Nat.reduceEqDiff,Nat.reduceAdd,Nat.reduceSub,Nat.reduceLeDiff,reduceCtorEq,UL,NO,ZU,ZT]<;>exact gX⟩)))
     obtain⟨w,rfl,w0,w1,h3,hK⟩:=hq
     obtain⟨g3,x3⟩:=σ3
     (try dsimp only at h3)
     have Gk:=hK.1
     (try dsimp only at Gk)
     have c5:=hK.2 ⟨25003001,x2+1⟩ (fun e=>by rw[<-e]at hX;(try dsimp only at hX);omega) aU
     have cG:=hK.2 ⟨25019007,nb+1⟩ (fun e=>by rw[<-e]at hX;(try dsimp only at hX);omega) aU
     have co:=hK.2 o (fun h=>by rw[h]at k7;omega) aU
     simp only[go_sem, ↓reduceIte,Nat.reduceEqDiff,Nat.reduceAdd,Nat.reduceSub,Nat.reduceLeDiff,reduceCtorEq,go,vo,vu,ti,tg,th,qE,oj,qF]at c5 cG co
     refine hN _ _ ?_
     clear hN N
     have Kl:TT<=16777215:=ae
     have WC:=dj (i:=o) (n:=x3) ae
     (repeat(first|((repeat(revert hN;revert N;apply Pn.out));refine wk (tw @b9 (tw @b7 (tw @b0 (tw @b2 (tw @b4 (tw @b5 (tw @c5 (tw @cG (tw @co (tw @hr (tw @iL (tw @Kl (tw @qE (tw @oj (tw @qF @WC))))))))))))))) ?_;(repeat(refine Pn.mk ?_;intro N hN)))|((try apply Or.inl);refine⟨_,au.x (sY) (sd (tw @b9 (tw @b7 (tw @b0 (tw @b2 (tw @b4 (tw @b5 (tw @c5 (tw @cG (tw @co (tw @hr (tw @iL (tw @Kl (tw @qE (tw @oj (tw @qF @WC)))))))))))))))),?_⟩;refine hN _ _ ?_;clear hN N)))
     obtain⟨za,zz,xM,gX⟩:=h3
     have Z0:=dj (i:=X) (n:=x3) ae
     have Pa:(X=o)=False:=eq_false fun h=>by rw[<-h]at k7;omega
     have Vo:=(hT.write (e:=u) (l:=l.set 0 ((G+1:Nat):Int)) (by rw[List.length_set,hl])).frame (g':=g3) (n':=x3) ae fun i h1 h2 h4=>(hK.2 i (fun h=>by rw[h]at h2;omega) aU).trans (by
      have q1:=dj h4
      have q2:=BW h1 sg
      have q3:=nB i h2
      simp only[go_sem, ↓reduceIte,Nat.reduceEqDiff,Nat.reduceAdd,Nat.reduceSub,Nat.reduceLeDiff,reduceCtorEq,q1,q2,q3])
     have Ys:∀i:Id,i≠X->i.bt<x2->g3 i=g2 i:=fun i h1 h2=>(hK.2 i h1 aU).trans (by
      have q1:=dj (i:=i) (n:=nb) ae
      have q2:=dj h2
      have q3:(i=og)=False:=eq_false fun h=>by rw[h]at h2;omega
      have q4:(i=u)=False:=eq_false fun h=>by rw[h]at h2;omega
      simp only[go_sem, ↓reduceIte,Nat.reduceEqDiff,Nat.reduceAdd,Nat.reduceSub,Nat.reduceLeDiff,reduceCtorEq,q1,q2,q3,q4]<;>exact bO i h1 h2)
     exact⟨sd (tw @b9 (tw @b7 (tw @b0 (tw @b2 (tw @b4 @b5))))),sd (tw @b9 (tw @b7 (tw @b0 (tw @b2 (tw @b4 @b5))))),sd (tw @b9 (tw @b7 (tw @b0 (tw @b2 (tw @b4 @b5))))),sd (tw @b9 (tw @b7 (tw @b0 (tw @b2 (tw @b4 @b5))))),sd (tw @b9 (tw @b7 (tw @b0 (tw @b2 (tw @b4 @b5))))),⟨za,zz,ae,by simp only[go_sem, ↓reduceIte,Nat.reduceEqDiff,Nat.reduceAdd,Nat.reduceSub,Nat.reduceLeDiff,reduceCtorEq,Z0,NO,Pa]<;>exact gX⟩,aU,fun i h1 h2=>(by
      have q1:=dj (i:=i) (n:=x3) ae
      have q2:=dj h2
      have q3:(i=o)=False:=eq_false fun h=>by rw[h]at h2;omega
      simp only[go_sem, ↓reduceIte,Nat.reduceEqDiff,Nat.reduceAdd,Nat.reduceSub,Nat.reduceLeDiff,reduceCtorEq,q1,q2,q3]<;>exact Ys i h1 h2),⟨25019007,nb+1⟩,⟨25021014,x3⟩,L++[⟨(⟨#[121]⟩:ByteArray)++dt,2⟩],rows++[[.str ((⟨#[110]⟩:ByteArray)++dt),.own ⟨25021011,x3⟩ 0 4]],sl @Nat.zero_add,by simp[hL],by
       have q1:((⟨25019007,nb+1⟩:Id)=o)=False:=eq_false fun h=>by rw[<-h]at oP;(try dsimp only at oP);omega
       rw[List.map_append];simp only[go_sem, ↓reduceIte,Nat.reduceEqDiff,Nat.reduceAdd,Nat.reduceSub,Nat.reduceLeDiff,reduceCtorEq,q1]<;>exact cG,fun x hx=>(by
       rcases List.mem_append.1 hx with h9|h9
       ·exact zJ x h9
       ·rw[List.mem_singleton.1 h9];exact l6),⟨.inr (.inr rfl),aU,aU⟩,by simp[hr],sl @Nat.zero_add,(Vo.frame aU fun i h1 h2 h4=>(by
        have q1:=dj h4
        have q2:=sP h1 so
        have q3:=nB i h2
        simp only[go_sem, ↓reduceIte,Nat.reduceEqDiff,Nat.reduceAdd,Nat.reduceSub,Nat.reduceLeDiff,reduceCtorEq,q1,q2,q3])).snoc (e:=⟨25021011,x3⟩) ⟨Ec,vM _ _⟩ ⟨.inr (.inr (.inl rfl)),aU,aU,[0,IntKind.i64.wrap (1+w),((G+1:Nat):Int),0],rfl,by
        have q1:((⟨25021011,x3⟩:Id)=o)=False:=eq_false fun h=>by rw[<-h]at oP;(try dsimp only at oP);omega
        simp only[go_sem, ↓reduceIte,Nat.reduceEqDiff,Nat.reduceAdd,Nat.reduceSub,Nat.reduceLeDiff,reduceCtorEq,q1]<;>rfl⟩,.inr (.inr (.inl rfl)),aU,aU⟩
  ·have hjm:j=m2:=ae
   subst hjm
   clear bB hL mD zJ sg Pd Pe hr go hT so k7 oP
   obtain⟨gb,nb⟩:=st_b
   (try dsimp only at bS bN bO bC)
   have Vg:(⟨25003001,x2+1⟩:Id)≠X:=fun e=>by rw[<-e]at hX;(try dsimp only at hX);omega
   obtain⟨G,hG⟩:∃G,k+2+j=G:=⟨_,rfl⟩
   obtain⟨TT,Vq⟩:∃T,k+1+j=T:=⟨_,rfl⟩
   rw[hG,Vq]at bC
   obtain⟨A2,hA2⟩:∃A2,A+4+2*k+2*j=A2:=⟨_,rfl⟩
   rw[hA2]at bS
   (try((repeat(revert hN;revert N;apply Pn.out));refine wk (tw @b9 (tw @b7 (tw @b0 (tw @b2 (tw @b4 (tw @b5 @hj)))))) ?_;(repeat(refine Pn.mk ?_;intro N hN))))
   refine bz (fun n env st=>∃i:Nat,n=(4)-i/\i<=(4)/\env 10=.int .i64 (i:Int)/\((fM st.get X bs (A2+4*i)/\x2+3<=st.next/\(∀u:Id,u≠X->u.bt<x2->st.get u=g2 u)/\lR (x2+2) st.get st.next ⟨25003001,x2+1⟩ G (TT+i)))) (4) ⟨0,ae,ae,sl (tw @b9 (tw @b7 (tw @b0 (tw @b2 (tw @b4 @b5))))),by(try dsimp only);exact⟨bS,ae,bO,bC.later ae⟩⟩ ?_
   rintro n_c env_c st_c ⟨i,rfl,cle,iE,cI0⟩ iV
   have c0:=iV 0 (by kernel_rfl);have c2:=iV 2 (by kernel_rfl);have c5:=iV 5 (by kernel_rfl)
   simp only[go_sem, ↓reduceIte,Nat.reduceEqDiff,Nat.reduceAdd,Nat.reduceSub,Nat.reduceLeDiff,reduceCtorEq,b9,b7,b0,b2,b4,b5]at c0 c2 c5
   clear iV
   obtain⟨cS,cN,cO,cC⟩:=cI0
   by_cases hi:(i:Int)<4
   ·have gQ:∀{e:Env} {gg:Rows} {nx:Nat},(e 10=.int .i64 (IntKind.i64.wrap ((i:Int)+1)))->((fM gg X bs (A2+4*(i+1))/\x2+3<=nx/\(∀u:Id,u≠X->u.bt<x2->gg u=g2 u)/\lR (x2+2) gg nx ⟨25003001,x2+1⟩ G (TT+(i+1))))->∃m0,m0<(4)-i/\∃i:Nat,m0=(4)-i/\i<=(4)/\e 10=.int .i64 (i:Int)/\((fM gg X bs (A2+4*i)/\x2+3<=nx/\(∀u:Id,u≠X->u.bt<x2->gg u=g2 u)/\lR (x2+2) gg nx ⟨25003001,x2+1⟩ G (TT+i))):=fun x1 x2=>⟨_,ae,i+1,rfl,ae,(by rw[x1,az ae]),x2⟩
    have sY:=nN (i:Int) ae ae
    have F7:=kc (i:Int) ae
    generalize jv (i:Int)=dt at sY F7
    have e9:(#[114]:Array UInt8).size+dt.size<=9223372036854775807:=by
     have:(#[114]:Array UInt8).size=1:=rfl
     omega
    have l6:((⟨#[114]⟩:ByteArray)++dt).size<=64:=by
     rw[im]
     have:(⟨#[114]⟩:ByteArray).size=1:=rfl
     omega
    obtain⟨gc,nc⟩:=st_c
    (try dsimp only at cS cN cO cC)
    (try((repeat(revert hN;revert N;apply Pn.out));refine wk (tw @iE (tw @c0 (tw @c2 (tw @c5 @hi)))) ?_;(repeat(refine Pn.mk ?_;intro N hN))))
    refine .inr (aA _ _ _ _ _ (fun r σ3 hq=>?_) (jq bs hb iK X 2 (A2+4*i) ae _ cS))
    obtain⟨w,rfl,w0,w1,h3,hK⟩:=hq
    have dC:=cC.only hK aU ae Vg aU
    have Gk:=hK.1
    have dO:∀i:Id,i≠X->i.bt<x2->σ3.get i=g2 i:=fun i h1 h2=>(hK.2 i h1 aU).trans (cO i h1 h2)
    obtain⟨g3,x3⟩:=σ3
    (try dsimp only at h3 dC Gk dO)
    clear hK cS cC cO
    refine hN _ _ ?_
    clear hN N
    have Qn:((i:Nat):Int).tmod 2=((i:Nat):Int).tmod 2:=rfl
    (try((repeat(revert hN;revert N;apply Pn.out));refine wk (tw @iE (tw @c0 (tw @c2 @c5))) ?_;(repeat(refine Pn.mk ?_;intro N hN))))
    refine Il (fun e st=>e 0=.ptr X 0 0/\e 2=env_c 2/\e 5=env_c 5/\e 10=.int .i64 (i:Int)/\fM st.get X bs (A2+4*(i+1))/\x2+3<=st.next/\(∀i:Id,i≠X->i.bt<x2->st.get i=g2 i)/\lR (x2+2) st.get st.next ⟨25003001,x2+1⟩ G (TT+i+1)) ?_ ?_
    ·rintro e st ⟨r0,r2,r5,r10,rS,rN,rO,rC⟩
     obtain⟨gd,nd⟩:=st
     (try dsimp only at rS rN rO rC)
     rw[c2]at r2
     rw[c5]at r5
     refine hN _ _ ?_
     clear hN N
     (try((repeat(revert hN;revert N;apply Pn.out));refine wk (tw @r0 (tw @r2 (tw @r5 @r10))) ?_;(repeat(refine Pn.mk ?_;intro N hN))))
     exact gQ (sd (tw @iE (tw @c0 (tw @c2 (tw @c5 @r10))))) (by(try dsimp only);exact⟨rS,ae,rO,rC.later ae⟩)
    ·intro N hN
     obtain⟨og,o,L,rows,dB,hL,mD,zJ,sg,hr,go,hT,so,k7,oP⟩:=id dC
     have oj:∀s,(o=⟨s,x2+1⟩)=False/\((⟨s,x2+1⟩:Id)=o)=False:=fun s=>⟨eq_false fun e=>by rw[e]at k7;(try dsimp only at k7);omega,eq_false fun e=>by rw[<-e]at k7;(try dsimp only at k7);omega⟩
     have Kl:TT+i<=16777215:=ae
     refine dS ?_ ?_<;>(repeat(first|((repeat(revert hN;revert N;apply Pn.out));refine wk (tw @iE (tw @c0 (tw @c2 (tw @c5 (tw @dB @e9))))) ?_;(repeat(refine Pn.mk ?_;intro N hN)))|((try apply Or.inl);refine⟨_,au.x (sY) (sd (tw @iE (tw @c0 (tw @c2 (tw @c5 (tw @dB @e9)))))),?_⟩;refine hN _ _ ?_;clear hN N)))<;>(try refine dS ?_ ?_)<;>(repeat(first|((repeat(revert hN;revert N;apply Pn.out));refine wk (tw @iE (tw @c0 (tw @c2 (tw @c5 (tw @dB @e9))))) ?_;(repeat(refine Pn.mk ?_;intro N hN)))|((try apply Or.inl);refine⟨_,au.x (sY) (sd (tw @iE (tw @c0 (tw @c2 (tw @c5 (tw @dB @e9)))))),?_⟩;refine hN _ _ ?_;clear hN N)))
     all_goals
      refine .inr (aA _ _ _ _ _ (fun r σ4 hq=>?_) (jq bs hb iK X 2 (A2+4*i+2) ae _ h3))
      obtain⟨w',rfl,w0',w1',h4,hK⟩:=hq
      obtain⟨g4,x4⟩:=σ4
      (try dsimp only at h4)
      have Jh:=hK.1
      (try dsimp only at Jh)
      have P5:=(hK.2 ⟨25003001,x2+1⟩ Vg aU).trans dB
      have Ug:=(hK.2 o (fun h=>by rw[h]at k7;omega) aU).trans go
      have Yu:∀u:Id,x2+2<=u.bt->u.bt<x3->g4 u=g3 u:=fun u h1 h2=>hK.2 u (fun h=>by rw[h]at h1;omega) aU
      have Yt:∀u:Id,u≠X->u.bt<x2->g4 u=g2 u:=fun u h1 h2=>(hK.2 u h1 aU).trans (dO u h1 h2)
      (try dsimp only at P5 Ug)
      clear hK
      refine hN _ _ ?_
      clear hN N
      have vo4:=dj (i:=o) (n:=x4) ae
      (repeat(first|((repeat(revert hN;revert N;apply Pn.out));refine wk (tw @iE (tw @c0 (tw @c2 (tw @c5 (tw @P5 (tw @Ug (tw @hr (tw @e9 (tw @Kl (tw @oj @vo4)))))))))) ?_;(repeat(refine Pn.mk ?_;intro N hN)))|((try apply Or.inl);refine⟨_,au.x (sY) (sd (tw @iE (tw @c0 (tw @c2 (tw @c5 (tw @P5 (tw @Ug (tw @hr (tw @e9 (tw @Kl (tw @oj @vo4))))))))))),?_⟩;refine hN _ _ ?_;clear hN N)))
      obtain⟨za,zz,xM,gX⟩:=h4
      have vX4:=dj (i:=X) (n:=x4) ae
      have Pa:(X=o)=False:=eq_false fun h=>by rw[<-h]at k7;omega
      exact⟨sd (tw @iE (tw @c0 (tw @c2 @c5))),sd (tw @iE (tw @c0 (tw @c2 @c5))),sd (tw @iE (tw @c0 (tw @c2 @c5))),sd (tw @iE (tw @c0 (tw @c2 @c5))),⟨za,zz,ae,by simp only[go_sem, ↓reduceIte,Nat.reduceEqDiff,Nat.reduceAdd,Nat.reduceSub,Nat.reduceLeDiff,reduceCtorEq,vX4,NO,Pa]<;>exact gX⟩,aU,fun u h1 h2=>(by
       have q1:=dj (i:=u) (n:=x4) ae
       have q2:=dj h2
       have q3:(u=o)=False:=eq_false fun h=>by rw[h]at h2;omega
       simp only[go_sem, ↓reduceIte,Nat.reduceEqDiff,Nat.reduceAdd,Nat.reduceSub,Nat.reduceLeDiff,reduceCtorEq,q1,q2,q3]<;>exact Yt u h1 h2),lR.put (u:=⟨25027018,x4⟩) (e:=⟨25027015,x4⟩) (l:=[IntKind.i64.wrap (1+w),IntKind.i64.wrap (1+w'),IntKind.i64.wrap (1+(i:Int).tmod 2),IntKind.i64.wrap (1+IntKind.i64.wrap ((i:Int).tdiv 2))]) hL mD zJ sg hr hT ⟨l6,vM _ _⟩ rfl aU (sl @Nat.zero_add) (sl @Nat.zero_add) ⟨.inr (.inr (.inr (.inl rfl))),aU,aU⟩ (by
        have q1:((⟨25027015,x4⟩:Id)=o)=False:=eq_false fun h=>by rw[<-h]at oP;(try dsimp only at oP);omega
        simp only[go_sem, ↓reduceIte,Nat.reduceEqDiff,Nat.reduceAdd,Nat.reduceSub,Nat.reduceLeDiff,reduceCtorEq,q1]<;>rfl) ⟨.inr (.inr (.inr (.inl rfl))),aU,aU⟩ fun u hs h1 h2=>(by
        have q1:=dj (i:=u) (n:=x4) ae
        have q2:(u=o)=False:=by rcases hs with hs|hs;exact(sP hs so).1;exact(BX hs so).1
        have q3:∀s,(u=⟨s,x2+1⟩)=False:=fun s=>eq_false fun e=>by rw[e]at h1;(try dsimp only at h1);omega
        simp only[go_sem, ↓reduceIte,Nat.reduceEqDiff,Nat.reduceAdd,Nat.reduceSub,Nat.reduceLeDiff,reduceCtorEq,q1,q2,q3]<;>exact Yu u h1 h2)⟩
   ·have hi4:i=4:=ae
    subst hi4
    obtain⟨gc,nc⟩:=st_c
    (try dsimp only at cS cN cO cC)
    (try((repeat(revert hN;revert N;apply Pn.out));refine wk (tw @iE (tw @c0 (tw @c2 (tw @c5 @hi)))) ?_;(repeat(refine Pn.mk ?_;intro N hN))))
    refine .inr (aA _ _ _ _ _ (fun r σ3 hq=>?_) (y7 bs hb iK X 3 (A2+4*4) ae _ cS))
    obtain⟨b,rfl,h3,hK⟩:=hq
    have dC:=cC.only hK aU ae Vg aU
    have Gk:=hK.1
    have dO:∀i:Id,i≠X->i.bt<x2->σ3.get i=g2 i:=fun i h1 h2=>(hK.2 i h1 aU).trans (cO i h1 h2)
    obtain⟨g3,x3⟩:=σ3
    (try dsimp only at h3 dC Gk dO)
    clear hK cS cC cO
    refine hN _ _ ?_
    clear hN N
    (try((repeat(revert hN;revert N;apply Pn.out));refine wk (tw @iE (tw @c0 (tw @c2 @c5))) ?_;(repeat(refine Pn.mk ?_;intro N hN))))
    refine lJ (fun e st=>e 0=.ptr X 0 0/\e 2=env_c 2/\e 5=env_c 5/\fM st.get X bs (A2+30)/\x2+3<=st.next/\(∀u:Id,u≠X->u.bt<x2->st.get u=g2 u)/\∃T2,0<T2/\T2<=100/\lR (x2+2) st.get st.next ⟨25003001,x2+1⟩ G T2) ?_ ?_
    ·rintro e st ⟨r0,r2,r5,rS,rN,rO,T2,t0,t1,rC⟩
     obtain⟨gd,nd⟩:=st
     (try dsimp only at rS rN rO rC)
     rw[c2]at r2
     rw[c5]at r5
     obtain⟨og,o,L,rows,sB,hL,mD,zJ,⟨sg,Pd,Pe⟩,hr,go,hT,so,k7,oP⟩:=id rC
     have s2:=(rO ⟨25000000,σ.next⟩ (fun e=>by rw[<-e]at hX;(try dsimp only at hX);omega) aU).trans B6
     refine hN _ _ ?_
     clear hN N
     (try((repeat(revert hN;revert N;apply Pn.out));refine wk (tw @r0 (tw @r2 (tw @r5 (tw @sB @s2)))) ?_;(repeat(refine Pn.mk ?_;intro N hN))))
     have hnE:¬ir o.site:=fun h=>by have:=(sP h so).1;simp at this
     have YD:gZ (x2+2) gd nd (.own og 0 G) G:=.inr ⟨ae,og,L,rfl,hL,mD,zJ,Pd,Pe⟩
     have Lg:hZ ir (x2+2) gd nd (.own o 0 T2) T2:=.inr ⟨t0,o,rows,rfl,hr,go,hT,hnE,k7,oP⟩
     obtain⟨za,zz,xM,gX⟩:=rS
     have vXd:=dj (i:=X) (n:=nd) ae
     have jn:∀u:Id,x2+2<=u.bt->u.bt<nd->∀r1 r2,(bK (bK gd ⟨25030002,nd⟩ r1) ⟨25000000,σ.next⟩ r2) u=gd u:=fun u h1 h2 r1 r2=>(by
      have h8:=dj h2
      have h9:∀s,(u=⟨s,σ.next⟩)=False:=fun s=>eq_false fun h=>by rw[h]at h1;(try dsimp only at h1);omega
      simp only[go_sem, ↓reduceIte,Nat.reduceEqDiff,Nat.reduceAdd,Nat.reduceSub,Nat.reduceLeDiff,reduceCtorEq,h8,h9])
     exact gN (.inl rfl) (vs:=[.agg [.own og 0 G,.own o 0 T2,.own ⟨25030002,nd⟩ 0 1,.int .i64 2]]) (sd @r2) ⟨og,o,⟨25030002,nd⟩,G,T2,⟨⟨0,0⟩,0⟩,rfl,(YD.frame aU fun u h1 h2=>jn u h1 h2 _ _).since aU,(Lg.frame aU fun u h1 h2=>jn u h1 h2 _ _).since aU,⟨ae,ae,ae,ae⟩,sl @Nat.zero_add,⟨aU,aU⟩,⟨za,zz,ae,by simp only[go_sem, ↓reduceIte,Nat.reduceEqDiff,Nat.reduceAdd,Nat.reduceSub,Nat.reduceLeDiff,reduceCtorEq,vXd,vX]<;>exact gX⟩,aU,fun u h1 h2=>(by
      have h7:=dj h2
      have h8:=dj (i:=u) (n:=nd) ae
      simp only[go_sem, ↓reduceIte,Nat.reduceEqDiff,Nat.reduceAdd,Nat.reduceSub,Nat.reduceLeDiff,reduceCtorEq,h7,h8]<;>exact(rO u h1 ae).trans (Yr u h1 h2))⟩
    ·intro N hN
     cases b
     ·(try((repeat(revert hN;revert N;apply Pn.out));refine wk (tw @iE (tw @c0 (tw @c2 @c5))) ?_;(repeat(refine Pn.mk ?_;intro N hN))))
      exact⟨sd (tw @iE (tw @c0 (tw @c2 @c5))),sd (tw @iE (tw @c0 (tw @c2 @c5))),sd (tw @iE (tw @c0 (tw @c2 @c5))),h3.mono ae,aU,dO,TT+4,ae,ae,dC.later aU⟩
     ·obtain⟨og,o,L,rows,dB,hL,mD,zJ,sg,hr,go,hT,so,k7,oP⟩:=id dC
      have oj:∀s,(o=⟨s,x2+1⟩)=False/\((⟨s,x2+1⟩:Id)=o)=False:=fun s=>⟨eq_false fun e=>by rw[e]at k7;(try dsimp only at k7);omega,eq_false fun e=>by rw[<-e]at k7;(try dsimp only at k7);omega⟩
      have Kl:TT<=16777211:=ae
      (try((repeat(revert hN;revert N;apply Pn.out));refine wk (tw @iE (tw @c0 (tw @c2 (tw @c5 @dB)))) ?_;(repeat(refine Pn.mk ?_;intro N hN))))
      refine dS ?_ ?_<;>(try((repeat(revert hN;revert N;apply Pn.out));refine wk (tw @iE (tw @c0 (tw @c2 (tw @c5 @dB)))) ?_;(repeat(refine Pn.mk ?_;intro N hN))))
      all_goals
       refine .inr (aA _ _ _ _ _ (fun r σ4 hq=>?_) (jq bs hb iK X 2 (A2+4*4+2) ae _ h3))
       obtain⟨w,rfl,w0,w1,h4,hK⟩:=hq
       obtain⟨g4,x4⟩:=σ4
       (try dsimp only at h4)
       have Jh:=hK.1
       (try dsimp only at Jh)
       have P5:=(hK.2 ⟨25003001,x2+1⟩ Vg aU).trans dB
       have Ug:=(hK.2 o (fun h=>by rw[h]at k7;omega) aU).trans go
       have Yu:∀u:Id,x2+2<=u.bt->u.bt<x3->g4 u=g3 u:=fun u h1 h2=>hK.2 u (fun h=>by rw[h]at h1;omega) aU
       have Yt:∀u:Id,u≠X->u.bt<x2->g4 u=g2 u:=fun u h1 h2=>(hK.2 u h1 aU).trans (dO u h1 h2)
       (try dsimp only at P5 Ug)
       clear hK
       refine hN _ _ ?_
       clear hN N
       (try((repeat(revert hN;revert N;apply Pn.out));refine wk (tw @iE (tw @c0 (tw @c2 (tw @c5 @P5)))) ?_;(repeat(refine Pn.mk ?_;intro N hN))))
       (try refine dS ?_ ?_)<;>(try((repeat(revert hN;revert N;apply Pn.out));refine wk (tw @iE (tw @c0 (tw @c2 (tw @c5 @P5)))) ?_;(repeat(refine Pn.mk ?_;intro N hN))))
       all_goals
        refine .inr (aA _ _ _ _ _ (fun r σ5 hq=>?_) (jq bs hb iK X 2 (A2+4*4+2+2) ae _ h4))
        obtain⟨w',rfl,w0',w1',h5,hK⟩:=hq
        obtain⟨g5,x5⟩:=σ5
        (try dsimp only at h5)
        have V6:=hK.1
        (try dsimp only at V6)
        have dB5:=(hK.2 ⟨25003001,x2+1⟩ Vg aU).trans P5
        have go5:=(hK.2 o (fun h=>by rw[h]at k7;omega) aU).trans Ug
        have gT5:∀u:Id,x2+2<=u.bt->u.bt<x3->g5 u=g3 u:=fun u h1 h2=>(hK.2 u (fun h=>by rw[h]at h1;omega) aU).trans (Yu u h1 h2)
        have g5O:∀u:Id,u≠X->u.bt<x2->g5 u=g2 u:=fun u h1 h2=>(hK.2 u h1 aU).trans (Yt u h1 h2)
        (try dsimp only at dB5 go5)
        clear hK
        refine hN _ _ ?_
        clear hN N
        have vo5:=dj (i:=o) (n:=x5) ae
        (try((repeat(revert hN;revert N;apply Pn.out));refine wk (tw @iE (tw @c0 (tw @c2 (tw @c5 (tw @dB5 (tw @go5 (tw @hr (tw @Kl (tw @oj @vo5))))))))) ?_;(repeat(refine Pn.mk ?_;intro N hN))))
        obtain⟨za,zz,xM,gX⟩:=h5
        have vX5:=dj (i:=X) (n:=x5) ae
        have Pa:(X=o)=False:=eq_false fun h=>by rw[<-h]at k7;omega
        exact⟨sd (tw @iE (tw @c0 (tw @c2 @c5))),sd (tw @iE (tw @c0 (tw @c2 @c5))),sd (tw @iE (tw @c0 (tw @c2 @c5))),⟨za,zz,ae,by simp only[go_sem, ↓reduceIte,Nat.reduceEqDiff,Nat.reduceAdd,Nat.reduceSub,Nat.reduceLeDiff,reduceCtorEq,vX5,NO,Pa]<;>exact gX⟩,aU,fun u h1 h2=>(by
         have q1:=dj (i:=u) (n:=x5) ae
         have q2:=dj h2
         have q3:(u=o)=False:=eq_false fun h=>by rw[h]at h2;omega
         simp only[go_sem, ↓reduceIte,Nat.reduceEqDiff,Nat.reduceAdd,Nat.reduceSub,Nat.reduceLeDiff,reduceCtorEq,q1,q2,q3]<;>exact g5O u h1 h2),TT+4+1,ae,ae,lR.put (u:=⟨25029011,x5⟩) (e:=⟨25029008,x5⟩) (nm:=⟨#[114,52]⟩) (l:=[1,2,IntKind.i64.wrap (1+w),IntKind.i64.wrap (1+w')]) hL mD zJ sg hr hT ⟨by decide,by decide⟩ rfl aU (sl @Nat.zero_add) (sl @Nat.zero_add) ⟨.inr (.inr (.inr (.inr rfl))),aU,aU⟩ (by
          have q1:((⟨25029008,x5⟩:Id)=o)=False:=eq_false fun h=>by rw[<-h]at oP;(try dsimp only at oP);omega
          simp only[go_sem, ↓reduceIte,Nat.reduceEqDiff,Nat.reduceAdd,Nat.reduceSub,Nat.reduceLeDiff,reduceCtorEq,q1]<;>rfl) ⟨.inr (.inr (.inr (.inr rfl))),aU,aU⟩ fun u hs h1 h2=>(by
          have q1:=dj (i:=u) (n:=x5) ae
          have q2:(u=o)=False:=by rcases hs with hs|hs;exact(sP hs so).1;exact(BX hs so).1
          have q3:∀s,(u=⟨s,x2+1⟩)=False:=fun s=>eq_false fun e=>by rw[e]at h1;(try dsimp only at h1);omega
          simp only[go_sem, ↓reduceIte,Nat.reduceEqDiff,Nat.reduceAdd,Nat.reduceSub,Nat.reduceLeDiff,reduceCtorEq,q1,q2,q3]<;>exact gT5 u h1 h2)⟩
theorem EG (bs:List Int) (hb:∀b∈bs,0<=b/\b<=255) (iK:bs.length<=4096) (X:Id) (A:Nat) (ha:A<=900000) (σ:ax) (h:fM σ.get X bs A) (hX:X.bt<σ.next):
  Call Tryz.prog 25 [.ptr X 0 0] σ (x8 X bs A σ):=
 aA _ _ _ _ _ (fun _ _ hq=>hq.made) (wO bs hb iK X A ha σ h hX)
end Go.Proofs.YtiabgllilcfheaaGreat.V
