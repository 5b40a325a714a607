/- BreakApart by the reference: the walk. -/
import Derived.Test.YtphenfakmdknlaaGreatBrD
import Derived.Test.YtphenfakmdknlaaGreatBrE
import Derived.Test.YtphenfakmdknlaaGreatBrB
import Derived.Test.YtphenfakmdknlaaGreatChecked
import Derived.ProofKit
import Derived.Deep.Slices
import Derived.ChangeSame
import Derived.Test.YtphenfakmdknlaaGreatRows
import Derived.Test.YtphenfakmdknlaaGreatBrC
import Derived.OpenShut
import Derived.ShutString
import Derived.ChangeOld
import Derived.Below
set_option linter.unusedVariables false
set_option linter.unusedSimpArgs false
set_option maxRecDepth 100000
set_option maxHeartbeats 16000000
namespace Go.Proofs.YtphenfakmdknlaaGreat.V
open Go.RowKit
attribute [local irreducible] dJ wpOps e8 Call
attribute [local go_sem] ax eB dY eJ eI cJ upd bD K.av bW AV.cells AV.cell rowOf rowsOf part ld rowAt bC bx cU de fj bf cC dv eO er cL dm cw cu cZ da bl aI bZ bj ck cj di dn dj bY bo cz dh bh au cq bJ fh aT bV bm aH cS aQ cV AV.undef aV bc db dd cY dc bQ du dw bG dq dp cm cr List.getD_cons_zero List.getD_cons_succ List.getD_nil List.all_cons List.all_nil Bool.and_true Bool.true_and Bool.and_self Bool.not_true Bool.not_false Option.map_some Option.map_none Option.bind_some Option.bind_none List.length_cons List.length_nil List.take_succ_cons List.take_zero List.take_nil List.drop_succ_cons List.drop_zero List.drop_nil List.head?_cons List.map_cons List.map_nil List.getElem?_cons_zero List.getElem?_cons_succ List.cons_append List.nil_append List.append_nil List.length_map List.set_cons_zero List.set_cons_succ Nat.reduceMul eq_self Int.toNat_natCast Int.natCast_nonneg and_self true_and and_true decide_true decide_false Bool.false_eq_true Nat.zero_add Nat.add_zero List.contains_cons List.contains_nil Bool.or_false Bool.false_or beq_self_eq_true Nat.reduceBEq ne_eq not_true_eq_false not_false_eq_true Id.mk.injEq false_and and_false Nat.reduceLT Int.reduceLE Int.reduceLT Int.reduceToNat Int.reduceNeg Int.reduceAdd Nat.le_refl List.length_append beq_true beq_false Bool.not_eq_eq_eq_not or_false false_or dG ab ae az aU bu aC aP aE aJ cD aX
def EB (k:Nat):Prop:=k=23025006∨k=23026006
def NN (v:AV) (g:Rows) (n:Nat) (R:List (List Nat)):Prop:=∃rows,ga EB g n rows R/\(v=.sl rows∨∃o:Id,v=.own o 0 R.length/\g o=some ⟨true,1,rows⟩/\(o.site=23013003∨o.site=23027004)/\o.bR<n)
def J9 (v:AV) (g:Rows) (n:Nat) (R:List (List Nat)):Prop:=∃(o:Id) (rows:List (List AV)),v=.own o 0 R.length/\g o=some ⟨true,1,rows⟩/\ga EB g n rows R/\(o.site=23010000∨o.site=23015003∨o.site=23018003)/\o.bR<n
theorem ga.all {E:Nat->Prop} {g:Rows} {n:Nat} {rows:List (List AV)} {R:List (List Nat)} (h:ga E g n rows R):rows.all (fun c=>c.length==1&&c.all AV.cell)=true:=by
 induction h with
 |nil=>rfl
 |cons h1 _ ih=>
  rw[List.all_cons,ih]
  simp[h1.cell.2]
def fE (R:List (List Nat)) (i:Nat):List (List Nat):=R.filter fun p=>decide (p.headD 0<i)
def tF (D:List (List Nat)) (i:Nat):List (List Nat):=D.filter fun p=>decide (p.headD 0=i)
theorem xI (R:List (List Nat)):fE R 0=[]:=by simp[fE]
theorem Ad {R:List (List Nat)} {n:Nat} (h:∀p∈R,p.headD 0<n):fE R n=R:=List.filter_eq_self.2 fun p hp=>decide_eq_true (h p hp)
theorem uC {α:Type} (f:α->Nat) (i:Nat):∀{R:List α},(R.Pairwise fun p z=>f p<f z)->R.filter (fun p=>decide (f p<i+1))=R.filter (fun p=>decide (f p<i))++R.filter fun p=>decide (f p=i)
 |[],_=>rfl
 |p::R,h=>by
  have h':=List.pairwise_cons.1 h
  have ih:=uC f i h'.2
  rcases Nat.lt_trichotomy (f p) i with h1|h1|h1
  ·rw[List.filter_cons_of_pos (by simp;omega),List.filter_cons_of_pos (by simp;omega),List.filter_cons_of_neg (by simp;omega),ih];rfl
  ·have e1:R.filter (fun p=>decide (f p<i))=[]:=List.filter_eq_nil_iff.2 fun z hz=>by have:=h'.1 z hz;simp;omega
   rw[List.filter_cons_of_pos (by simp;omega),List.filter_cons_of_neg (by simp;omega),List.filter_cons_of_pos (by simp;omega),ih,e1];rfl
  ·have e1:R.filter (fun p=>decide (f p<i))=[]:=List.filter_eq_nil_iff.2 fun z hz=>by have:=h'.1 z hz;simp;omega
   have e2:R.filter (fun p=>decide (f p<i+1))=[]:=List.filter_eq_nil_iff.2 fun z hz=>by have:=h'.1 z hz;simp;omega
   have e3:R.filter (fun p=>decide (f p=i))=[]:=List.filter_eq_nil_iff.2 fun z hz=>by have:=h'.1 z hz;simp;omega
   rw[List.filter_cons_of_neg (by simp;omega),List.filter_cons_of_neg (by simp;omega),List.filter_cons_of_neg (by simp;omega),e1,e2,e3];rfl
theorem xH {R:List (List Nat)} {i:Nat} (h:R.Pairwise fun p z=>p.headD 0<z.headD 0):fE R (i+1)=fE R i++tF R i:=uC (fun p:List Nat=>p.headD 0) i h
theorem yd {α:Type} (f:α->Nat) (i:Nat):∀{D:List α},(D.Pairwise fun p z=>f p≠f z)->D.filter (fun p=>decide (f p=i))=[]∨∃p,p∈D/\f p=i/\D.filter (fun p=>decide (f p=i))=[p]
 |[],_=>.inl rfl
 |z::D,h=>by
  have h':=List.pairwise_cons.1 h
  by_cases hz:f z=i
  ·have e:D.filter (fun p=>decide (f p=i))=[]:=List.filter_eq_nil_iff.2 fun p hp=>by have:=h'.1 p hp;simp;omega
   exact .inr ⟨z,by simp,hz,by rw[List.filter_cons_of_pos (by simp;omega),e]⟩
  ·rw[List.filter_cons_of_neg (by simp;omega)]
   rcases yd f i h'.2 with h|⟨p,h1,h2,h3⟩
   ·exact .inl h
   ·exact .inr ⟨p,by simp[h1],h2,h3⟩
theorem Gj {D:List (List Nat)} (h0:∀p∈D,p≠[]) (ha:D.Pairwise fun p z=>∀x∈p,x∉z):D.Pairwise fun p z=>p.headD 0≠z.headD 0:=by
 have hm:∀{z:List Nat},z≠[]->z.headD 0∈z:=fun {z} hz=>by cases z with|nil=>exact absurd rfl hz|cons a b=>simp
 exact ha.imp_of_mem fun {a b} h1 h2 l7 e=>l7 _ (hm (h0 a h1)) (e▸hm (h0 b h2))
theorem B7 {D:List (List Nat)} (h0:∀p∈D,p≠[]) (ha:D.Pairwise fun p z=>∀x∈p,x∉z) (i:Nat):tF D i=[]∨∃p,p∈D/\p.headD 0=i/\tF D i=[p]:=yd (fun p:List Nat=>p.headD 0) i (Gj h0 ha)
theorem FC {D R:List (List Nat)} (h0:∀p∈D,p≠[]) (ha:D.Pairwise fun p z=>∀x∈p,x∉z) (h0':∀p∈R,p≠[]) (Qd:R.Pairwise fun p z=>∀x∈p,x∉z) (hm:∀p,p∈D↔p∈R) (i:Nat):tF D i=tF R i:=by
 have key:∀p,p∈tF D i↔p∈tF R i:=fun p=>by simp[tF,hm]
 rcases B7 h0 ha i with h|⟨p,_,_,h⟩<;>rcases B7 h0' Qd i with h'|⟨p',_,_,h'⟩
 ·rw[h,h']
 ·have:=(key p').2 (by rw[h'];simp)
  rw[h]at this;cases this
 ·have:=(key p).1 (by rw[h];simp)
  rw[h']at this;cases this
 ·have:=(key p).1 (by rw[h];simp)
  rw[h']at this
  rw[h,h',List.mem_singleton.1 this]
theorem F2 {α:Type} (f:α->Nat) (i:Nat) (p:α):[p].filter (fun p=>decide (f p=i))=if f p=i then[p]else[]:=by
 by_cases h:f p=i
 ·rw[if_pos h,List.filter_cons_of_pos (by simp;omega)];rfl
 ·rw[if_neg h,List.filter_cons_of_neg (by simp;omega)];rfl
theorem JU {D:List (List Nat)} {k:Nat} (hk:k<D.length) (i:Nat):tF (D.take (k+1)) i=tF (D.take k) i++if D[k].headD 0=i then[D[k]]else[]:=by
 unfold tF
 rw[List.take_succ_eq_append_getElem hk,List.filter_append,F2 (fun p:List Nat=>p.headD 0)]
theorem FM {s:ao} {l:List ai}:∀b∈cI s l,b.a≠b.b:=by
 intro b hb
 simp only[cI,fw,eF,List.mem_flatMap,List.mem_range]at hb
 obtain⟨i,hi,j,hj,hb⟩:=hb
 unfold gY at hb
 split at hb
 ·rename_i hc
  rw[List.mem_singleton]at hb
  subst hb
  intro e
  (try dsimp only at e)
  have h2:=(ly hc.1).2
  rw[<-e]at h2
  have Ku:j=0∨j=1:=ad
  have hx:=congrArg br.fZ h2
  have hy:=congrArg br.fC h2
  rcases Ku with rfl|rfl
  ·simp[ej]at hx<;>omega
  ·simp[ej]at hy<;>omega
 ·cases hb
theorem AP (p:List Nat):p.headD 0=p.getD 0 0:=by cases p<;>rfl
theorem Io (D:List (List Nat)) (i:Nat):(tF D i).length<=D.length:=List.length_filter_le _ _
theorem Ae (D:List (List Nat)) (i:Nat):(fE D i).length<=D.length:=List.length_filter_le _ _
def Dc (g0:Rows) (n0:Nat) (v:AV) (g:Rows) (n:Nat) (L:List (List Nat)):Prop:=∃(o:Id) (rows:List (List AV)),v=.own o 0 L.length/\g o=some ⟨true,1,rows⟩/\ga EB g0 n0 rows L/\n0<=o.bR/\o.bR<n
theorem vz (s:ao) (l:List ai) (t:Int) (hn:fR s) (hg:s.ay.length<=1048576) (ht:s.aj.length<=1048576) (h0:ju s l t=0):
  ki Tryz.prog 23 [.agg (aa s),.agg [.sl (l.map ah)],.int .i64 t] (.im [.sl ((qe l.length (cI s l) t).map FV),.int .i64 0]):=by
 obtain⟨q1,q2,q3,q4⟩:=ur h0
 have Oq:=th.1 q1
 have Oh:=xD.1 q2
 have c1:=sO s l hn hg ht
 rw[z8,if_pos ⟨q1,q2⟩]at c1
 have c2:=k6 t
 rw[q3]at c2
 have O9:=(ei q3).1
 have fG:=kW (l:=l) Oq
 have re:=ou (s:=s) Oh.1
 have c3:=Bg s l Oq.form Oh
 have c4:=yV l.length ad (cI s l) (fun b hb=>⟨(fG b hb).1,(fG b hb).2.1⟩) ad
 have fP:(l.map ah).length=l.length:=by simp
 have NY:¬(64:Int)<(l.length:Int):=ad
 have hPg:=pc (n:=l.length) (t:=t) (GP (cI s l)) (yY _) O9
 obtain⟨hR,hS,hA⟩:=rJ (n:=l.length) (bs:=cI s l) (t:=t) (fun b hb=>by have:=fG b hb;omega) O9
 have rE:iS l.length (cI s l):=fun e he=>⟨(fG _ (vE he)).1,(fG _ (vE he)).2.1,FM _ (vE he)⟩
 generalize mI l.length (gn (cI s l))=G at c4 hPg
 generalize qe l.length (cI s l) t=R at hR hS hA ⊢
 generalize cI s l=bs at *
 refine ki.body eL rfl fun wg σ=>?_
 clear wg
 rw[aa]at c1 c3 ⊢
 (repeat(first|((repeat(revert hN;revert N;apply Pn.out));refine wk (tw @fP @NY) ?_;(repeat(refine Pn.mk ?_;intro N hN)))|((try apply Or.inl);refine⟨_,ak.x (c1) (sd (tw @fP @NY)),?_⟩;refine hN _ _ ?_;clear hN N)|((try apply Or.inl);refine⟨_,ak.x (c2) (sd (tw @fP @NY)),?_⟩;refine hN _ _ ?_;clear hN N)|((try apply Or.inl);refine⟨_,ak.x (c3) (sd (tw @fP @NY)),?_⟩;refine hN _ _ ?_;clear hN N)|((try apply Or.inl);refine⟨_,ak.x (c4) (sd (tw @fP @NY)),?_⟩;refine hN _ _ ?_;clear hN N)))
 refine bp (fun m env st=>∃(todo done:List (List Nat)),m=oP todo/\NN (env 10) st.get st.next todo/\J9 (env 11) st.get st.next done/\dZ l.length bs t (todo++done)/\(∀p∈done,ft bs t p)/\st.get ⟨23000001,σ.next⟩=some ⟨true,1,[[.sl (l.map ah)]]⟩/\σ.next<st.next) (oP G) ⟨G,[],rfl,⟨G.map FV,ga.val G,.inl (sd @Nat.zero_add)⟩,⟨⟨23010000,σ.next+1+1+1+1+1+1+1⟩,[],sl @Nat.zero_add,sd @Nat.zero_add,.nil,.inl rfl,cE⟩,by simpa using hPg,by simp,sd @Nat.zero_add,cE⟩ ?_
 rintro m env_b st_b ⟨todo,done,rfl,hT,hD,hP,hSd,hb4,hle⟩ bfr
 have b2:=bfr 2 (by kernel_rfl)
 have b4:=bfr 4 (by kernel_rfl)
 have b9:=bfr 9 (by kernel_rfl)
 simp only[go_sem, ↓reduceIte,Nat.reduceEqDiff,Nat.reduceAdd,Nat.reduceSub,Nat.reduceLeDiff,reduceCtorEq]at b2 b4 b9
 clear bfr
 obtain⟨od,FT,d1,d2,d3,d4,d5⟩:=hD
 have Nu:=dW d5
 have DL:=d3.len
 have w4:=dW (i:=⟨23000001,σ.next⟩) (n:=st_b.next) hle
 have hPn:(todo++done).length<=l.length:=nA hP
 rw[List.length_append]at hPn
 have Nr:done.length<=16777215:=ad
 cases todo with
 |nil=>
  obtain⟨rows,Sa,hv⟩:=hT
  cases Sa
  rw[List.nil_append]at hP
  have iP:=s5 hP hR hSd hS
  have hRl:=nA hR
  obtain⟨gB,hgB⟩:∃gB,gB=st_b.get:=⟨_,rfl⟩
  obtain⟨nB,hnB⟩:∃nB,nB=st_b.next:=⟨_,rfl⟩
  have fW:¬(0:Int)<((0:Nat):Int):=ad
  have OV:¬(0:Int)<0:=ad
  have hz:=xI R
  have e0:env_b 10=.sl []∨∃o:Id,env_b 10=.own o 0 0:=by
   rcases hv with h|⟨o,h,_⟩
   ·exact .inl h
   ·exact .inr ⟨o,h⟩
  rw[<-hgB]at d2 d3 hb4
  rw[<-hnB]at d3 d5 hle Nu w4
  rcases e0 with b10|⟨oT,b10⟩
  all_goals
   (try((repeat(revert hN;revert N;apply Pn.out));refine wk (tw @b2 (tw @b4 (tw @b9 (tw @b10 (tw @fW @OV))))) ?_;(repeat(refine Pn.mk ?_;intro N hN))))
   refine bp (fun n env st=>∃i:Nat,n=(l.length)-i/\i<=(l.length)/\env 19=.int .i64 (i:Int)/\(nB<=st.next/\(∀x:Id,x.bR<nB->st.get x=gB x)/\Dc gB nB (env 18) st.get st.next (fE R i))) (l.length) ⟨0,ad,ad,sl (tw @b4 @d1),by(try dsimp only);rw[hz];exact⟨ad,fun x hx=>(by rw[hnB]at hx;have h9:=dW hx;simp only[go_sem, ↓reduceIte,Nat.reduceEqDiff,Nat.reduceAdd,Nat.reduceSub,Nat.reduceLeDiff,reduceCtorEq,h9,hgB]),⟨23028000,st_b.next+1⟩,[],sl @Nat.zero_add,sl @Nat.zero_add,.nil,cE,cE⟩⟩ ?_
   rintro n_a env_a st_a ⟨i,rfl,ale,a19,aI0⟩ dt
   have a4:=dt 4 (by kernel_rfl);have iM:=dt 11 (by kernel_rfl)
   simp only[go_sem, ↓reduceIte,Nat.reduceEqDiff,Nat.reduceAdd,Nat.reduceSub,Nat.reduceLeDiff,reduceCtorEq,b4,d1]at a4 iM
   clear dt
   obtain⟨an,aF,aO⟩:=aI0
   have ha4:=(aF _ (show(⟨23000001,σ.next⟩:Id).bR<nB from hle)).trans hb4
   have va4:=dW (i:=⟨23000001,σ.next⟩) (n:=st_a.next) cE
   by_cases hi:(i:Int)<(l.length:Int)
   ·have bK:∀{e:Env} {gg:Rows} {nx:Nat},(e 19=.int .i64 (IntKind.i64.wrap ((i:Int)+1)))->(nB<=nx/\(∀x:Id,x.bR<nB->gg x=gB x)/\Dc gB nB (e 18) gg nx (fE R (i+1)))->∃m0,m0<(l.length)-i/\∃i:Nat,m0=(l.length)-i/\i<=(l.length)/\e 19=.int .i64 (i:Int)/\(nB<=nx/\(∀x:Id,x.bR<nB->gg x=gB x)/\Dc gB nB (e 18) gg nx (fE R i)):=fun x1 x2=>⟨_,ad,i+1,rfl,ad,(by rw[x1,aA ad]),x2⟩
    (try((repeat(revert hN;revert N;apply Pn.out));refine wk (tw @a19 (tw @a4 (tw @iM (tw @ha4 (tw @va4 (tw @fP @hi)))))) ?_;(repeat(refine Pn.mk ?_;intro N hN))))
    have jw:fE R i++tF (done.take 0) i=fE R i:=by rw[List.take_zero];simp[tF]
    refine bp (fun n env st=>∃k:Nat,n=(done.length)-k/\k<=(done.length)/\env 20=.int .i64 (k:Int)/\(nB<=st.next/\(∀x:Id,x.bR<nB->st.get x=gB x)/\Dc gB nB (env 18) st.get st.next (fE R i++tF (done.take k) i))) (done.length) ⟨0,ad,ad,sl (tw @a19 (tw @a4 @iM)),by(try dsimp only);rw[jw];exact⟨ad,fun x hx=>(by have h8:=aF x hx;have h9:=dW (i:=x) (n:=st_a.next) ad;simp only[go_sem, ↓reduceIte,Nat.reduceEqDiff,Nat.reduceAdd,Nat.reduceSub,Nat.reduceLeDiff,reduceCtorEq,h8,h9]),(by obtain⟨o,NL,h1,h2,h3,h4,h5⟩:=aO;exact⟨o,NL,sd @h1,(by have h9:=dW h5;simp only[go_sem, ↓reduceIte,Nat.reduceEqDiff,Nat.reduceAdd,Nat.reduceSub,Nat.reduceLeDiff,reduceCtorEq,h9,h2]),h3,h4,ad⟩)⟩⟩ ?_
    rintro n_b env_b st_b ⟨k,rfl,ble,b20,bI0⟩ bfr
    have b4:=bfr 4 (by kernel_rfl);have FD:=bfr 11 (by kernel_rfl);have Lc:=bfr 19 (by kernel_rfl)
    simp only[go_sem, ↓reduceIte,Nat.reduceEqDiff,Nat.reduceAdd,Nat.reduceSub,Nat.reduceLeDiff,reduceCtorEq,a19,a4,iM]at b4 FD Lc
    clear bfr
    obtain⟨bn,bF,bO⟩:=bI0
    obtain⟨o,NL,h1,h2,h3,h4,h5⟩:=bO
    have tV:=(bF od d5).trans d2
    have vbd:=dW (i:=od) (n:=st_b.next) ad
    have vo:=dW h5
    have hlb:=Ae R i
    have qp:=h3.len
    by_cases hk:(k:Int)<(done.length:Int)
    ·have j3:∀{e:Env} {gg:Rows} {nx:Nat},(e 20=.int .i64 (IntKind.i64.wrap ((k:Int)+1)))->(nB<=nx/\(∀x:Id,x.bR<nB->gg x=gB x)/\Dc gB nB (e 18) gg nx (fE R i++tF (done.take (k+1)) i))->∃m0,m0<(done.length)-k/\∃k:Nat,m0=(done.length)-k/\k<=(done.length)/\e 20=.int .i64 (k:Int)/\(nB<=nx/\(∀x:Id,x.bR<nB->gg x=gB x)/\Dc gB nB (e 18) gg nx (fE R i++tF (done.take k) i)):=fun x1 x2=>⟨_,ad,k+1,rfl,ad,(by rw[x1,aA ad]),x2⟩
     have eo:k<done.length:=ad
     obtain⟨p,hp⟩:∃p,done[k]=p:=⟨_,rfl⟩
     obtain⟨v,H3,IW⟩:=d3.get (k:=k) (p:=p) (by rw[List.getElem?_eq_getElem eo,hp])
     have Qp:p∈done:=by rw[<-hp];exact List.getElem_mem eo
     have AZ:0<p.length:=List.length_pos_iff.2 (hP.some p Qp)
     have hg:=oc AZ
     have jM:(p.map eN).length=p.length:=by simp
     have O2:(0:Int)<(p.length:Int):=ad
     have lT:=JU eo i
     rw[hp,AP]at lT
     have RH:=Nat.le_trans (Io (done.take k) i) (by rw[List.length_take];exact Nat.min_le_left _ _)
     have Q8:(fE R i++tF (done.take k) i).length<=16777215:=by rw[List.length_append];omega
     have R9:NL.length<=16777215:=ad
     obtain⟨w,BF,Pd,zM,ua⟩:∃w BF,(v=.sl (p.map eN)∨v=.own w 0 p.length/\BF=⟨true,1,p.map eN⟩)/\gB w=some BF/\w.bR<nB:=by
      rcases IW with h|⟨w,g1,g2,_,g4⟩
      ·exact⟨od,_,.inl h,d2,d5⟩
      ·exact⟨w,_,.inr ⟨g1,rfl⟩,g2,g4⟩
     have hwb:=(bF w ua).trans zM
     have vwb:=dW (i:=w) (n:=st_b.next) ad
     by_cases he:p.getD 0 0=i
     ·have hd:decide (((p.getD 0 0:Nat):Int)=(i:Int))=true:=decide_eq_true ad
      have jg:decide (p.getD 0 0=i)=true:=decide_eq_true he
      rw[if_pos he]at lT
      have hL':fE R i++tF (done.take (k+1)) i=(fE R i++tF (done.take k) i)++[p]:=by rw[lT,List.append_assoc]
      generalize fE R i++tF (done.take k) i=L at *
      rcases Pd with rfl|⟨rfl,rfl⟩
      all_goals
       (try((repeat(revert hN;revert N;apply Pn.out));refine wk (tw @b20 (tw @b4 (tw @FD (tw @Lc (tw @h1 (tw @h2 (tw @tV (tw @vbd (tw @vo (tw @H3 (tw @hwb (tw @vwb (tw @hg (tw @jM (tw @O2 (tw @hd (tw @jg (tw @Q8 (tw @qp (tw @R9 (tw @DL @hk))))))))))))))))))))) ?_;(repeat(refine Pn.mk ?_;intro N hN))))
       exact j3 (sd (tw @b20 (tw @b4 (tw @FD @Lc)))) (by(try dsimp only);exact⟨ad,fun x hx=>(by have h8:=bF x hx;have h9:=dW (i:=x) (n:=st_b.next) ad;have h7:=dE (a:=x) (b:=o) ad;simp only[go_sem, ↓reduceIte,Nat.reduceEqDiff,Nat.reduceAdd,Nat.reduceSub,Nat.reduceLeDiff,reduceCtorEq,h7,h8,h9]),⟨⟨23036006,st_b.next+1+1⟩,_,by rw[hL',List.length_append];simp only[go_sem, ↓reduceIte,Nat.reduceEqDiff,Nat.reduceAdd,Nat.reduceSub,Nat.reduceLeDiff,reduceCtorEq]<;>rfl,sl @Nat.zero_add,by rw[hL'];exact h3.app (.cons IW .nil),cE,cE⟩⟩)
     ·have hd:decide (((p.getD 0 0:Nat):Int)=(i:Int))=false:=decide_eq_false ad
      have jg:decide (p.getD 0 0=i)=false:=decide_eq_false he
      rw[if_neg he,List.append_nil]at lT
      rcases Pd with rfl|⟨rfl,rfl⟩
      all_goals
       (try((repeat(revert hN;revert N;apply Pn.out));refine wk (tw @b20 (tw @b4 (tw @FD (tw @Lc (tw @h1 (tw @h2 (tw @tV (tw @vbd (tw @vo (tw @H3 (tw @hwb (tw @vwb (tw @hg (tw @jM (tw @O2 (tw @hd (tw @jg (tw @DL @hk)))))))))))))))))) ?_;(repeat(refine Pn.mk ?_;intro N hN))))
       exact j3 (sd (tw @b20 (tw @b4 (tw @FD @Lc)))) (by(try dsimp only);exact⟨ad,fun x hx=>(by have h8:=bF x hx;have h9:=dW (i:=x) (n:=st_b.next) ad;simp only[go_sem, ↓reduceIte,Nat.reduceEqDiff,Nat.reduceAdd,Nat.reduceSub,Nat.reduceLeDiff,reduceCtorEq,h8,h9]),(by rw[lT];exact⟨o,NL,sd @h1,(sd (tw @vo @h2)),h3,h4,ad⟩)⟩)
    ·have jz:k=done.length:=ad
     subst jz
     have hLz:fE R i++tF (done.take done.length) i=fE R (i+1):=by rw[List.take_length,xH hA,FC hP.some hP.apart hR.some hR.apart iP]
     (try((repeat(revert hN;revert N;apply Pn.out));refine wk (tw @b20 (tw @b4 (tw @FD (tw @Lc @hk)))) ?_;(repeat(refine Pn.mk ?_;intro N hN))))
     exact bK (sd (tw @b20 (tw @b4 (tw @FD @Lc)))) (by(try dsimp only);exact⟨ad,fun x hx=>(by have h8:=bF x hx;have h9:=dW (i:=x) (n:=st_b.next) ad;simp only[go_sem, ↓reduceIte,Nat.reduceEqDiff,Nat.reduceAdd,Nat.reduceSub,Nat.reduceLeDiff,reduceCtorEq,h8,h9]),(by rw[<-hLz];exact⟨o,NL,sd @h1,(sd (tw @vo @h2)),h3,h4,ad⟩)⟩)
   ·have rQ:i=l.length:=ad
    subst rQ
    have dy:fE R l.length=R:=Ad fun p hp=>by
     have h0:=hR.some p hp
     have:=hR.lt p hp
     cases p with
     |nil=>exact absurd rfl h0
     |cons x r=>exact this x (by simp)
    rw[dy]at aO
    obtain⟨o,NL,h1,h2,h3,h4,h5⟩:=aO
    (try((repeat(revert hN;revert N;apply Pn.out));refine wk (tw @a19 (tw @a4 (tw @iM (tw @h1 (tw @ha4 (tw @va4 (tw @fP @hi))))))) ?_;(repeat(refine Pn.mk ?_;intro N hN))))
    have Cx:=(h3.frame (n':=nB) (g':=st_a.get) (Nat.le_refl _) (fun x _ hx=>aF x hx)).fz 0
    exact uf (.inl rfl) (vs:=[.own o 0 R.length,.int .i64 0]) (sd @h1) (by
     have hl:=h3.len
     have he:V.fz st_a.get 5 (.own o 0 R.length)=some (.sl (R.map FV)):=by
      rw[gm]
      simp only[h2,if_true]
      rw[if_pos ad,List.drop_zero,List.take_of_length_le ad,Cx];rfl
     simp only[eH,aX,ab,ae,he,az,Option.map_some])
 |cons p rest=>
  have R3:=hP.some p (by simp)
  have AZ:0<p.length:=List.length_pos_iff.2 R3
  have lx:=hP.lt p (by simp)
  have IU:=hP.HV p (by simp)
  have hpf:p.length<=l.length:=gS l.length p (IU.imp fun h e=>ad) lx
  obtain⟨rows,Sa,hv⟩:=hT
  cases Sa with
  | @cons v _ rows' _ IW A5=>
   have qp:=A5.len
   have R8:=A5.all
   have lT:rows'.take rest.length=rows':=List.take_of_length_le ad
   have Gv:rest.length<=16777214:=by rw[List.length_cons]at hPn;omega
   have tK:rest.length<=16777216:=ad
   have jM:(p.map eN).length=p.length:=by simp
   have jo:(0:Int)<((rest.length+1:Nat):Int):=ad
   have KB:(0:Int)<(rest.length:Int)+1:=ad
   have LW:(1:Int)<=((rest.length+1:Nat):Int):=ad
   have hrc:(∀cs:List AV,cs∈[v]::rows'->cs.length=1)=True:=eq_true fun cs dx=>by
    rcases List.mem_cons.1 dx with rfl|h
    ·rfl
    ·have:=List.all_eq_true.1 R8 cs h
     simp only[Bool.and_eq_true,beq_iff_eq]at this
     exact this.1
   have Cw:List.drop 1 ([v]::rows')=rows':=rfl
   have KE:rest.length+1-1=rest.length:=ad
   have h1r:1+rest.length<=rest.length+1:=ad
   have hod:=dE (a:=od) (b:=⟨23013003,st_b.next+1+1⟩) cE
   have h1d:((⟨23000001,σ.next⟩:Id)=od)=False:=eq_false fun e=>by
    rw[<-e]at d4
    (try dsimp only at d4)
    revert d4;decide
   have hE:∀x:Id,EB x.site->(x=od)=False:=fun x hx=>eq_false fun e=>by
    subst e
    rcases hx with h|h<;>rw[h]at d4<;>revert d4<;>decide
   obtain⟨oT,rT,hoT,gT,hET⟩:∃oT rT,(env_b 10=.sl ([v]::rows')∨env_b 10=.own oT 0 (rest.length+1)/\rT=⟨true,1,[v]::rows'⟩)/\st_b.get oT=some rT/\oT.bR<st_b.next:=by
    rcases hv with h|⟨o,h1,h2,_,h4⟩
    ·exact⟨od,_,.inl h,d2,d5⟩
    ·exact⟨o,_,.inr ⟨h1,rfl⟩,h2,h4⟩
   obtain⟨w,BF,Pd,zM,ua⟩:∃w BF,(v=.sl (p.map eN)∨v=.own w 0 p.length/\BF=⟨true,1,p.map eN⟩)/\st_b.get w=some BF/\w.bR<st_b.next:=by
    rcases IW with h|⟨w,h1,h2,_,h4⟩
    ·exact⟨od,_,.inl h,d2,d5⟩
    ·exact⟨w,_,.inr ⟨h1,rfl⟩,h2,h4⟩
   have hvT:=dW hET
   have zL:=dW ua
   have xC:∀{g:Rows} {k:Nat} {x:AV} {o':Id} {dr:List (List AV)},ft bs t p->x=.own o' 0 (done.length+1)->g o'=some ⟨true,1,FT++[[v]]⟩->(o'.site=23015003∨o'.site=23018003)->o'.bR<k->st_b.next<=k->(∀x:Id,EB x.site->x.bR<st_b.next->g x=st_b.get x)->J9 x g k (done++[p]):=fun {g k x o' dr} hs hx hg hsi hv hk hf=>⟨o',FT++[[v]],by rw[List.length_append];exact hx,hg,(d3.frame hk hf).app (.cons (IW.frame hk hf) .nil),.inr hsi,hv⟩
   have yE:dZ l.length bs t (rest++(done++[p])):=by
    rw[<-List.append_assoc]
    exact hP.perm (List.perm_append_singleton p (rest++done)).symm
   have OQ:oP rest<oP (p::rest):=by rw[fK];omega
   have IY:ft bs t p->∀z∈done++[p],ft bs t z:=fun h z hz=>by
    rcases List.mem_append.1 hz with h1|h1
    ·exact hSd z h1
    ·rw[List.mem_singleton.1 h1];exact h
   by_cases Gq:(p.length:Int)<2
   ·have L7:ft bs t p:=u7 ad
    rcases hoT with b10|⟨b10,rfl⟩<;>rcases Pd with rfl|⟨rfl,rfl⟩
    all_goals
     (try((repeat(revert hN;revert N;apply Pn.out));refine wk (tw @b2 (tw @b4 (tw @b9 (tw @b10 (tw @d1 (tw @d2 (tw @Nu (tw @gT (tw @hvT (tw @zM (tw @zL (tw @jM (tw @jo (tw @KB (tw @Gq (tw @qp (tw @lT (tw @R8 (tw @Gv (tw @tK (tw @DL (tw @Nr (tw @LW (tw @hrc (tw @Cw (tw @KE @h1r)))))))))))))))))))))))))) ?_;(repeat(refine Pn.mk ?_;intro N hN))))
     refine⟨oP rest,OQ,rest,done++[p],rfl,⟨rows',A5.frame cE (fun x h1 h2=>(by have h9:=dW h2;have h8:=hE x h1;simp only[go_sem, ↓reduceIte,Nat.reduceEqDiff,Nat.reduceAdd,Nat.reduceSub,Nat.reduceLeDiff,reduceCtorEq,h8,h9])),.inr ⟨⟨23013003,st_b.next+1+1⟩,sl @qp,sl @hod,.inl rfl,cE⟩⟩,xC (o':=⟨23015003,st_b.next+1+1+1+1⟩) (dr:=[]) L7 (sl @Nat.zero_add) (sl @Nat.zero_add) (.inl rfl) cE cE (fun x h1 h2=>(by have h9:=dW h2;have h8:=hE x h1;simp only[go_sem, ↓reduceIte,Nat.reduceEqDiff,Nat.reduceAdd,Nat.reduceSub,Nat.reduceLeDiff,reduceCtorEq,h8,h9])),yE,IY L7,sd (tw @w4 (tw @hb4 @h1d)),cE⟩
   ·have Gr:2<=p.length:=ad
    have c5:=yX bs p ad ad
    have ee:∀b∈bs,0<=b.s/\b.s<=4:=fun b hb=>by have:=fG b hb;omega
    have c6:=wD p.length Gr ad (dN p bs) (J0 rE) (Nat.le_trans (qL p bs) ad) (fun e he=>J1 ee _ (vE he))
    have Kz:∀b∈bs,0<=b.s:=fun b hb=>(ee b hb).1
    rcases hoT with b10|⟨b10,rfl⟩<;>rcases Pd with rfl|⟨rfl,rfl⟩
    all_goals
     (try((repeat(revert hN;revert N;apply Pn.out));refine wk (tw @b2 (tw @b4 (tw @b9 (tw @b10 (tw @d1 (tw @d2 (tw @Nu (tw @gT (tw @hvT (tw @zM (tw @zL (tw @jM (tw @jo (tw @KB (tw @Gq (tw @qp (tw @lT (tw @R8 (tw @Gv (tw @tK (tw @DL (tw @Nr (tw @LW (tw @hrc (tw @Cw (tw @KE @h1r)))))))))))))))))))))))))) ?_;(repeat(refine Pn.mk ?_;intro N hN))))
     refine .inl ⟨_,ak.x c5 (Od (bu _ _ _) ((IW.frame (n':=st_b.next) (Nat.le_refl _) (fun x h1 h2=>(by have h9:=dW h2;simp only[go_sem, ↓reduceIte,Nat.reduceEqDiff,Nat.reduceAdd,Nat.reduceSub,Nat.reduceLeDiff,reduceCtorEq,h9]))).fz 3).2),?_⟩
     refine hN _ _ ?_
     clear hN N
     (try((repeat(revert hN;revert N;apply Pn.out));refine wk (tw @b2 (tw @b4 (tw @b9 (tw @d1 (tw @d2 (tw @Nu (tw @zM (tw @zL @jM)))))))) ?_;(repeat(refine Pn.mk ?_;intro N hN))))
     refine .inr (bd _ _ _ _ _ (fun r σ1 hq=>?_) (c6.x mixed))
     obtain⟨⟨dR,l2,rfl,Gc,yH⟩,rfl⟩:=hq
     refine hN _ _ ?_
     clear hN N
     by_cases Ma:t<=dR
     ·have L7:ft bs t p:=(u6 IU AZ).1 ((Gc t).1 Ma)
      (try((repeat(revert hN;revert N;apply Pn.out));refine wk (tw @b2 (tw @b4 (tw @b9 (tw @d1 (tw @d2 (tw @Nu (tw @DL (tw @Nr @Ma)))))))) ?_;(repeat(refine Pn.mk ?_;intro N hN))))
      refine⟨oP rest,OQ,rest,done++[p],rfl,⟨rows',A5.frame cE (fun x h1 h2=>(by have h9:=dW h2;have h8:=hE x h1;simp only[go_sem, ↓reduceIte,Nat.reduceEqDiff,Nat.reduceAdd,Nat.reduceSub,Nat.reduceLeDiff,reduceCtorEq,h8,h9])),.inr ⟨⟨23013003,st_b.next+1+1⟩,sl @qp,sl @hod,.inl rfl,cE⟩⟩,xC (o':=⟨23018003,st_b.next+1+1+1+1+1+1+1⟩) (dr:=[]) L7 (sl @Nat.zero_add) (sl @Nat.zero_add) (.inr rfl) cE cE (fun x h1 h2=>(by have h9:=dW h2;have h8:=hE x h1;simp only[go_sem, ↓reduceIte,Nat.reduceEqDiff,Nat.reduceAdd,Nat.reduceSub,Nat.reduceLeDiff,reduceCtorEq,h8,h9])),yE,IY L7,sd (tw @w4 (tw @hb4 @h1d)),cE⟩
     ·obtain⟨T,k1,k2,k3,k4⟩:=tk IU AZ yH
      have Gh:jD (·∈p) T bs<t:=ad
      have hl2l:l2.length<=p.length:=by
       obtain⟨S,_,_,_,rfl⟩:=yH
       exact Nat.le_trans (List.length_filter_le _ _) (by rw[List.length_range];exact Nat.le_refl _)
      (try((repeat(revert hN;revert N;apply Pn.out));refine wk (tw @b2 (tw @b4 (tw @b9 (tw @d1 (tw @d2 (tw @Nu (tw @DL (tw @Nr @Ma)))))))) ?_;(repeat(refine Pn.mk ?_;intro N hN))))
      refine bp (fun n env st=>∃k:Nat,n=(p.length)-k/\k<=(p.length)/\env 17=.int .i64 (k:Int)/\st.get ⟨23013003,st_b.next+1+1⟩=some ⟨true,1,rows'⟩/\(st_b.next+3<=st.next/\(∀x:Id,x.bR<st_b.next->st.get x=st_b.get x)/\(∃w1:Id,env 15=.own w1 0 ((p.take k).filter (fun x=> !T x)).length/\st.get w1=some ⟨true,1,((p.take k).filter (fun x=> !T x)).map eN⟩/\(w1.site=23019000∨w1.site=23025006)/\((p.take k).filter (fun x=> !T x)≠[]->w1.site=23025006)/\st_b.next<=w1.bR/\w1.bR<st.next)/\(∃w2:Id,env 16=.own w2 0 ((p.take k).filter T).length/\st.get w2=some ⟨true,1,((p.take k).filter T).map eN⟩/\(w2.site=23020000∨w2.site=23026006)/\((p.take k).filter T≠[]->w2.site=23026006)/\st_b.next<=w2.bR/\w2.bR<st.next))) (p.length) ⟨0,ad,ad,sl (tw @b2 (tw @b4 (tw @b9 @d1))),sl (tw @b2 (tw @b4 (tw @b9 @d1))),by(try dsimp only);exact⟨ad,fun x hx=>(by have h9:=dW hx;simp only[go_sem, ↓reduceIte,Nat.reduceEqDiff,Nat.reduceAdd,Nat.reduceSub,Nat.reduceLeDiff,reduceCtorEq,h9]),⟨⟨23019000,st_b.next+1+1+1+1+1+1+1⟩,sl @Nat.zero_add,sl @Nat.zero_add,.inl rfl,fun h=>absurd rfl h,cE,cE⟩,⟨⟨23020000,st_b.next+1+1+1+1+1+1+1+1⟩,sl @Nat.zero_add,sl @Nat.zero_add,.inl rfl,fun h=>absurd rfl h,cE,cE⟩⟩⟩ ?_
      rintro n_a env_a st_a ⟨k,rfl,ale,a17,ag0,aI0⟩ dt
      have a2:=dt 2 (by kernel_rfl);have a4:=dt 4 (by kernel_rfl);have a9:=dt 9 (by kernel_rfl);have iL:=dt 10 (by kernel_rfl);have iM:=dt 11 (by kernel_rfl);have a12:=dt 12 (by kernel_rfl);have Ij:=dt 14 (by kernel_rfl)
      simp only[go_sem, ↓reduceIte,Nat.reduceEqDiff,Nat.reduceAdd,Nat.reduceSub,Nat.reduceLeDiff,reduceCtorEq,b2,b4,b9,d1]at a2 a4 a9 iL iM a12 Ij
      clear dt
      obtain⟨an,aF,⟨w1,o1,q1,s1,t1,r1,u1'⟩,⟨w2,o2,q2,s2,t2,r2,u2'⟩⟩:=aI0
      have u1:=dW u1'
      have u2:=dW u2'
      have MO:(w1=w2)=False/\(w2=w1)=False:=by
       have:w1.site≠w2.site:=by
        rcases s1 with h|h<;>rcases s2 with h'|h'<;>rw[h,h']<;>decide
       exact⟨eq_false fun e=>this (by rw[e]),eq_false fun e=>this (by rw[e])⟩
      have I4:=(aF w ua).trans zM
      have I3:=dW (i:=w) (n:=st_a.next) ad
      have LC:=dW (i:=⟨23013003,st_b.next+1+1⟩) (n:=st_a.next) cE
      have vY:((⟨23013003,st_b.next+1+1⟩:Id)=w1)=False/\((⟨23013003,st_b.next+1+1⟩:Id)=w2)=False:=by
       refine⟨eq_false fun e=>?_,eq_false fun e=>?_⟩
       ·rw[<-e]at s1
        (try dsimp only at s1)
        revert s1;decide
       ·rw[<-e]at s2
        (try dsimp only at s2)
        revert s2;decide
      have Of:=And.intro (eq_false fun e=>vY.1.mp e.symm:(w1=(⟨23013003,st_b.next+1+1⟩:Id))=False) (eq_false fun e=>vY.2.mp e.symm:(w2=(⟨23013003,st_b.next+1+1⟩:Id))=False)
      by_cases hk:(k:Int)<(p.length:Int)
      ·have bK:∀{e:Env} {gg:Rows} {nx:Nat},(e 17=.int .i64 (IntKind.i64.wrap ((k:Int)+1)))->(gg ⟨23013003,st_b.next+1+1⟩=some ⟨true,1,rows'⟩)->(st_b.next+3<=nx/\(∀x:Id,x.bR<st_b.next->gg x=st_b.get x)/\(∃w1:Id,e 15=.own w1 0 ((p.take (k+1)).filter (fun x=> !T x)).length/\gg w1=some ⟨true,1,((p.take (k+1)).filter (fun x=> !T x)).map eN⟩/\(w1.site=23019000∨w1.site=23025006)/\((p.take (k+1)).filter (fun x=> !T x)≠[]->w1.site=23025006)/\st_b.next<=w1.bR/\w1.bR<nx)/\(∃w2:Id,e 16=.own w2 0 ((p.take (k+1)).filter T).length/\gg w2=some ⟨true,1,((p.take (k+1)).filter T).map eN⟩/\(w2.site=23020000∨w2.site=23026006)/\((p.take (k+1)).filter T≠[]->w2.site=23026006)/\st_b.next<=w2.bR/\w2.bR<nx))->∃m0,m0<(p.length)-k/\∃k:Nat,m0=(p.length)-k/\k<=(p.length)/\e 17=.int .i64 (k:Int)/\gg ⟨23013003,st_b.next+1+1⟩=some ⟨true,1,rows'⟩/\(st_b.next+3<=nx/\(∀x:Id,x.bR<st_b.next->gg x=st_b.get x)/\(∃w1:Id,e 15=.own w1 0 ((p.take k).filter (fun x=> !T x)).length/\gg w1=some ⟨true,1,((p.take k).filter (fun x=> !T x)).map eN⟩/\(w1.site=23019000∨w1.site=23025006)/\((p.take k).filter (fun x=> !T x)≠[]->w1.site=23025006)/\st_b.next<=w1.bR/\w1.bR<nx)/\(∃w2:Id,e 16=.own w2 0 ((p.take k).filter T).length/\gg w2=some ⟨true,1,((p.take k).filter T).map eN⟩/\(w2.site=23020000∨w2.site=23026006)/\((p.take k).filter T≠[]->w2.site=23026006)/\st_b.next<=w2.bR/\w2.bR<nx)):=fun x1 x2 x3=>⟨_,ad,k+1,rfl,ad,(by rw[x1,aA ad]),x2,x3⟩
       have eo:k<p.length:=ad
       have hg:=oc eo
       have hc:=GK l2 k ad
       have hT:=k4 k eo
       have v8:=kH eo T
       have wb:=kH eo (fun x=> !T x)
       have sJ:=nJ (p:=p) k T
       have OO:=nJ (p:=p) k (fun x=> !T x)
       cases hb:T (p.getD k 0)
       ·rw[hb]at v8 wb hT
        have hd:decide (k∈l2)=true:=decide_eq_true (hT.2 rfl)
        rw[hd]at hc
        simp only[Bool.not_false,if_true,Bool.false_eq_true,if_false,List.append_nil]at v8 wb
        have pj:((p.take (k+1)).filter (fun x=> !T x)).map eN=((p.take k).filter (fun x=> !T x)).map eN++[[.int .i64 ((p.getD k 0:Nat):Int)]]:=by rw[wb,List.map_append];rfl
        have yJ:((p.take (k+1)).filter (fun x=> !T x)).length=((p.take k).filter (fun x=> !T x)).length+1:=by rw[wb];simp
        have wh:(((p.take k).filter (fun x=> !T x)).map eN).length=((p.take k).filter (fun x=> !T x)).length:=by simp
        have AM:((p.take k).filter (fun x=> !T x)).length<=16777215:=ad
        (repeat(first|((repeat(revert hN;revert N;apply Pn.out));refine wk (tw @a17 (tw @ag0 (tw @a2 (tw @a4 (tw @a9 (tw @iL (tw @iM (tw @a12 (tw @Ij (tw @o1 (tw @o2 (tw @q1 (tw @q2 (tw @u1 (tw @u2 (tw @MO (tw @I4 (tw @I3 (tw @hk (tw @hg (tw @jM (tw @wh (tw @AM (tw @LC @vY)))))))))))))))))))))))) ?_;(repeat(refine Pn.mk ?_;intro N hN)))|((try apply Or.inl);refine⟨_,ak.x (hc) (sd (tw @a17 (tw @ag0 (tw @a2 (tw @a4 (tw @a9 (tw @iL (tw @iM (tw @a12 (tw @Ij (tw @o1 (tw @o2 (tw @q1 (tw @q2 (tw @u1 (tw @u2 (tw @MO (tw @I4 (tw @I3 (tw @hk (tw @hg (tw @jM (tw @wh (tw @AM (tw @LC @vY))))))))))))))))))))))))),?_⟩;refine hN _ _ ?_;clear hN N)))
        refine bK ?_ ?_ (by(try dsimp only);exact⟨ad,fun x hx=>(by have h8:=aF x hx;have h9:=dW (i:=x) (n:=st_a.next) ad;have h7:=dE (a:=x) (b:=w1) ad;simp only[go_sem, ↓reduceIte,Nat.reduceEqDiff,Nat.reduceAdd,Nat.reduceSub,Nat.reduceLeDiff,reduceCtorEq,h7,h8,h9]),⟨⟨23025006,st_a.next+1+1⟩,by rw[yJ];simp only[go_sem, ↓reduceIte,Nat.reduceEqDiff,Nat.reduceAdd,Nat.reduceSub,Nat.reduceLeDiff,reduceCtorEq]<;>rfl,by rw[pj];simp only[go_sem, ↓reduceIte,Nat.reduceEqDiff,Nat.reduceAdd,Nat.reduceSub,Nat.reduceLeDiff,reduceCtorEq]<;>rfl,.inr rfl,fun _=>rfl,cE,cE⟩,⟨w2,by rw[v8];simp only[go_sem, ↓reduceIte,Nat.reduceEqDiff,Nat.reduceAdd,Nat.reduceSub,Nat.reduceLeDiff,reduceCtorEq,o2],by rw[v8];simp only[go_sem, ↓reduceIte,Nat.reduceEqDiff,Nat.reduceAdd,Nat.reduceSub,Nat.reduceLeDiff,reduceCtorEq,u2,MO,q2],s2,fun h=>t2 (by rw[<-v8];exact h),r2,cE⟩⟩)
        all_goals simp only[go_sem, ↓reduceIte,Nat.reduceEqDiff,Nat.reduceAdd,Nat.reduceSub,Nat.reduceLeDiff,reduceCtorEq,a17,ag0,a2,a4,a9,iL,iM,a12,Ij,LC,vY]
       ·rw[hb]at v8 wb hT
        have hd:decide (k∈l2)=false:=decide_eq_false fun h=>by have:=hT.1 h;cases this
        rw[hd]at hc
        simp only[Bool.not_true,if_true,Bool.false_eq_true,if_false,List.append_nil]at v8 wb
        have pj:((p.take (k+1)).filter T).map eN=((p.take k).filter T).map eN++[[.int .i64 ((p.getD k 0:Nat):Int)]]:=by rw[v8,List.map_append];rfl
        have yJ:((p.take (k+1)).filter T).length=((p.take k).filter T).length+1:=by rw[v8];simp
        have wh:(((p.take k).filter T).map eN).length=((p.take k).filter T).length:=by simp
        have AM:((p.take k).filter T).length<=16777215:=ad
        (repeat(first|((repeat(revert hN;revert N;apply Pn.out));refine wk (tw @a17 (tw @ag0 (tw @a2 (tw @a4 (tw @a9 (tw @iL (tw @iM (tw @a12 (tw @Ij (tw @o1 (tw @o2 (tw @q1 (tw @q2 (tw @u1 (tw @u2 (tw @MO (tw @I4 (tw @I3 (tw @hk (tw @hg (tw @jM (tw @wh (tw @AM (tw @LC @vY)))))))))))))))))))))))) ?_;(repeat(refine Pn.mk ?_;intro N hN)))|((try apply Or.inl);refine⟨_,ak.x (hc) (sd (tw @a17 (tw @ag0 (tw @a2 (tw @a4 (tw @a9 (tw @iL (tw @iM (tw @a12 (tw @Ij (tw @o1 (tw @o2 (tw @q1 (tw @q2 (tw @u1 (tw @u2 (tw @MO (tw @I4 (tw @I3 (tw @hk (tw @hg (tw @jM (tw @wh (tw @AM (tw @LC @vY))))))))))))))))))))))))),?_⟩;refine hN _ _ ?_;clear hN N)))
        refine bK ?_ ?_ (by(try dsimp only);exact⟨ad,fun x hx=>(by have h8:=aF x hx;have h9:=dW (i:=x) (n:=st_a.next) ad;have h7:=dE (a:=x) (b:=w2) ad;simp only[go_sem, ↓reduceIte,Nat.reduceEqDiff,Nat.reduceAdd,Nat.reduceSub,Nat.reduceLeDiff,reduceCtorEq,h7,h8,h9]),⟨w1,by rw[wb];simp only[go_sem, ↓reduceIte,Nat.reduceEqDiff,Nat.reduceAdd,Nat.reduceSub,Nat.reduceLeDiff,reduceCtorEq,o1],by rw[wb];simp only[go_sem, ↓reduceIte,Nat.reduceEqDiff,Nat.reduceAdd,Nat.reduceSub,Nat.reduceLeDiff,reduceCtorEq,u1,MO,q1],s1,fun h=>t1 (by rw[<-wb];exact h),r1,cE⟩,⟨⟨23026006,st_a.next+1+1⟩,by rw[yJ];simp only[go_sem, ↓reduceIte,Nat.reduceEqDiff,Nat.reduceAdd,Nat.reduceSub,Nat.reduceLeDiff,reduceCtorEq]<;>rfl,by rw[pj];simp only[go_sem, ↓reduceIte,Nat.reduceEqDiff,Nat.reduceAdd,Nat.reduceSub,Nat.reduceLeDiff,reduceCtorEq]<;>rfl,.inr rfl,fun _=>rfl,cE,cE⟩⟩)
        all_goals simp only[go_sem, ↓reduceIte,Nat.reduceEqDiff,Nat.reduceAdd,Nat.reduceSub,Nat.reduceLeDiff,reduceCtorEq,a17,ag0,a2,a4,a9,iL,iM,a12,Ij,LC,vY]
      ·have jz:k=p.length:=ad
       subst jz
       rw[List.take_length]at o1 q1 t1 o2 q2 t2
       (try((repeat(revert hN;revert N;apply Pn.out));refine wk (tw @a17 (tw @ag0 (tw @a2 (tw @a4 (tw @a9 (tw @iL (tw @iM (tw @a12 (tw @Ij (tw @o1 (tw @o2 (tw @q1 (tw @q2 (tw @u1 (tw @u2 (tw @MO (tw @LC (tw @vY (tw @hk (tw @qp (tw @Gv @tK))))))))))))))))))))) ?_;(repeat(refine Pn.mk ?_;intro N hN))))
       have Rv:p.filter (fun x=> !T x)≠[]:=by
        obtain⟨x,hx,uN⟩:=k2
        exact List.ne_nil_of_mem (List.mem_filter.2 ⟨hx,by rw[uN];rfl⟩)
       have Rw:p.filter T≠[]:=by
        obtain⟨x,hx,uN⟩:=k1
        exact List.ne_nil_of_mem (List.mem_filter.2 ⟨hx,uN⟩)
       have hpp:(rest++[p.filter (fun x=> !T x),p.filter T]).Perm (p.filter T::p.filter (fun x=> !T x)::rest):=List.perm_append_comm.trans (List.Perm.swap _ _ _)
       have lQ:∀x:Id,x.bR<st_b.next->∀(h9:True),st_a.get x=st_b.get x:=fun x hx _=>aF x hx
       have LI:∀x:Id,x.bR<st_b.next->(x=(⟨23013003,st_b.next+1+1⟩:Id))=False:=fun x hx=>(dE (a:=x) (b:=⟨23013003,st_b.next+1+1⟩) cE).1
       have hoa:=aF od d5
       have hoE:=LI od d5
       have voa:=dW (i:=od) (n:=st_a.next) ad
       have h1a:=(aF _ (show(⟨23000001,σ.next⟩:Id).bR<st_b.next from hle)).trans hb4
       have h1v:=dW (i:=⟨23000001,σ.next⟩) (n:=st_a.next) cE
       have hl3:(rest++[p.filter (fun x=> !T x),p.filter T]).length=rest.length+2:=by simp
       refine⟨oP (rest++[p.filter (fun x=> !T x),p.filter T]),by rw[qw hpp];exact sY k1 k2,rest++[p.filter (fun x=> !T x),p.filter T],done,rfl,⟨rows'++[[.own w1 0 (p.filter fun x=> !T x).length],[.own w2 0 (p.filter T).length]],(A5.frame cE (fun x h1 h2=>(by have h9:=dW (i:=x) (n:=st_a.next) ad;have h8:=LI x h2;have h7:=aF x h2;simp only[go_sem, ↓reduceIte,Nat.reduceEqDiff,Nat.reduceAdd,Nat.reduceSub,Nat.reduceLeDiff,reduceCtorEq,h7,h8,h9]))).app (.cons (.inr ⟨w1,rfl,sd (tw @u1 (tw @Of @q1)),.inl (t1 Rv),cE⟩) (.cons (.inr ⟨w2,rfl,sd (tw @u2 (tw @Of @q2)),.inr (t2 Rw),cE⟩) .nil)),.inr ⟨⟨23027004,st_a.next+1⟩,by rw[hl3];simp only[go_sem, ↓reduceIte,Nat.reduceEqDiff,Nat.reduceAdd,Nat.reduceSub,Nat.reduceLeDiff,reduceCtorEq]<;>rfl,sl @Nat.zero_add,.inr rfl,cE⟩⟩,⟨od,FT,sd (tw @a17 (tw @ag0 (tw @a2 (tw @a4 (tw @a9 (tw @iL (tw @iM (tw @a12 @Ij)))))))),sd (tw @hoa (tw @hoE (tw @voa @d2))),d3.frame cE (fun x h1 h2=>(by have h9:=dW (i:=x) (n:=st_a.next) ad;have h8:=LI x h2;have h7:=aF x h2;simp only[go_sem, ↓reduceIte,Nat.reduceEqDiff,Nat.reduceAdd,Nat.reduceSub,Nat.reduceLeDiff,reduceCtorEq,h7,h8,h9])),d4,cE⟩,(hP.split Kz k1 k2 Gh).perm (hpp.symm.append_right done),hSd,sd (tw @h1a @h1v),cE⟩
theorem vq (s:ao) (l:List ai) (t:Int) (hn:fR s) (hg:s.ay.length<=1048576) (ht:s.aj.length<=1048576) (h0:ju s l t≠0):
  ki Tryz.prog 23 [.agg (aa s),.agg [.sl (l.map ah)],.int .i64 t] (.im [.cK,.int .i64 (ju s l t)]):=by
 have c1:=sO s l hn hg ht
 have c2:=k6 t
 have fP:(l.map ah).length=l.length:=by simp
 refine ki.body eL rfl fun wg σ=>?_
 clear wg
 rw[aa]at c1 ⊢
 by_cases b1:nW s=true/\oq s l=true
 ·rw[z8,if_pos b1]at c1
  cases b2:ig t 1 16
  ·rw[b2]at c2
   have hc:ju s l t=2:=by rw[ju,if_pos b1,if_neg];rw[b2];simp
   (repeat(first|((repeat(revert hN;revert N;apply Pn.out));refine wk @aa.eq_1 ?_;(repeat(refine Pn.mk ?_;intro N hN)))|((try apply Or.inl);refine⟨_,ak.x (c1) (sd @aa.eq_1),?_⟩;refine hN _ _ ?_;clear hN N)|((try apply Or.inl);refine⟨_,ak.x (c2) (sd @aa.eq_1),?_⟩;refine hN _ _ ?_;clear hN N)))
   exact uf (.inl rfl) (vs:=[.cK,.int .i64 2]) (sd @Nat.zero_add) (by rw[hc];simp only[eH,aX,ab,ae,aC,az,Option.map_some])
  ·rw[b2]at c2
   have Cq:(64:Int)<(l.length:Int):=by
    by_cases h:l.length<=64
    ·exact absurd (by rw[ju,if_pos b1,if_pos b2,if_pos h]) h0
    ·omega
   have hc:ju s l t=4:=by rw[ju,if_pos b1,if_pos b2,if_neg ad]
   (repeat(first|((repeat(revert hN;revert N;apply Pn.out));refine wk (tw @aa.eq_1 (tw @fP @Cq)) ?_;(repeat(refine Pn.mk ?_;intro N hN)))|((try apply Or.inl);refine⟨_,ak.x (c1) (sd (tw @aa.eq_1 (tw @fP @Cq))),?_⟩;refine hN _ _ ?_;clear hN N)|((try apply Or.inl);refine⟨_,ak.x (c2) (sd (tw @aa.eq_1 (tw @fP @Cq))),?_⟩;refine hN _ _ ?_;clear hN N)))
   exact uf (.inl rfl) (vs:=[.cK,.int .i64 4]) (sd @Nat.zero_add) (by rw[hc];simp only[eH,aX,ab,ae,aC,az,Option.map_some])
 ·rw[z8,if_neg b1]at c1
  have hc:ju s l t=1:=by rw[ju,if_neg b1]
  (repeat(first|((repeat(revert hN;revert N;apply Pn.out));refine wk @aa.eq_1 ?_;(repeat(refine Pn.mk ?_;intro N hN)))|((try apply Or.inl);refine⟨_,ak.x (c1) (sd @aa.eq_1),?_⟩;refine hN _ _ ?_;clear hN N)))
  exact uf (.inl rfl) (vs:=[.cK,.int .i64 1]) (sd @Nat.zero_add) (by rw[hc];simp only[eH,aX,ab,ae,aC,az,Option.map_some])
end Go.Proofs.YtphenfakmdknlaaGreat.V

namespace Go.Proofs.YtphenfakmdknlaaGreat
open Go.ChangeShapes Go.WideShapes Go.ChangeAt Go.RowKit Go.Deep
section
variable {H:Type} {enc:TypeId×Value->H} {P:Program} {w:World}
theorem lj.Pu {α:Type} {rep:World->List Nat->List Value->α->Prop} {sz:Nat} {w:World} {b o len cap:Nat} (mz:Nat->List Value) (fs:Nat->List Nat) (ds:Nat->α) (hc:len<=cap) (hm:cap<=maxLen)
  (hl:∀i,i<len->(mz i).length=sz) (hr:∀i,i<len->rep w (fs i) (mz i) (ds i)) (Ou:∀i,i<len->∀j u,(mz i)[j]? =some u->w.cell? ⟨b,o+(i*sz+j),none⟩=some u):
  lj rep sz w ([b]++((List.range len).map fs).flatten) (.slice (some ⟨b,o,none⟩) len cap) ((List.range len).map ds):=by
 refine⟨(List.range len).map mz,(List.range len).map fs,[b],rfl,⟨some ⟨b,o,none⟩,cap,by simp,by simpa using hc,hm,.inr ⟨b,o,rfl,rfl,fun j u hj=>?_⟩⟩,by simp,by simp,fun i cs f d h1 h2 h3=>?_⟩
 ·have hlen:∀cs∈(List.range len).map mz,cs.length=sz:=fun cs dx=>by
   obtain⟨i,hi,rfl⟩:=List.mem_map.1 dx
   exact hl i (List.mem_range.1 hi)
  have gJ:=(List.getElem?_eq_some_iff.1 hj).1
  have xl:((List.range len).map mz).flatten.length=len*sz:=by
   rw[List.length_flatten,List.map_map]
   have:∀(l:List Nat),(∀i∈l,i<len)->(l.map (List.length∘mz)).sum=l.length*sz:=by
    intro l
    induction l with
    |nil=>intro _;simp
    |cons a l ih=>intro h;rw[List.map_cons,List.sum_cons,ih fun i hi=>h i (List.mem_cons_of_mem _ hi)];simp only[Function.comp,hl a (h a (by simp)),List.length_cons,Nat.add_mul];omega
   rw[this _ fun i hi=>List.mem_range.1 hi,List.length_range]
  rw[xl]at gJ
  have wi:0<sz:=by
   rcases Nat.eq_zero_or_pos sz with h|h
   ·subst h;simp at gJ
   ·exact h
  have hi:j / sz<len:=(Nat.div_lt_iff_lt_mul wi).2 gJ
  have Ky:j % sz<sz:=Nat.mod_lt _ wi
  have IP:j=(j / sz)*sz+j % sz:=by rw[Nat.mul_comm];exact(Nat.div_add_mod j sz).symm
  rw[IP,qY hlen (i:=j / sz) (cs:=mz (j / sz)) (by simp[hi]) Ky]at hj
  rw[IP]
  have:=Ou (j / sz) hi (j % sz) u hj
  rw[<-IP]at this ⊢
  exact this
 ·have hi:i<len:=by
   have:=(List.getElem?_eq_some_iff.1 h1).1
   simpa using this
  simp[hi]at h1 h2 h3
  subst h1 h2 h3
  exact⟨hr i hi,hl i hi⟩
theorem jt (b o k:Nat):(⟨b,o,none⟩:Addr).add k=⟨b,o+k,none⟩:=by
 unfold Addr.add;split
 ·rename_i h;subst h;rfl
 ·rfl
theorem nK {α:Type} {rep:World->List Nat->List Value->α->Prop} {Q:α->Prop} {t e:TypeId} {sz fuel:Nat} {cs:List Value} {x:DataW H×List MemPlace} (ht:P.underlying t=some (.slice e)) (hC:P.cellsOf e=sz) (wi:0<sz)
  (h:DataW.trod enc P w 0 (fun _=>true) true fuel t cs=some x) (hel:∀n oa y,oa.length=sz->DataW.trod enc P w 0 (fun _=>true) true n e oa=some y->∃f d,fD f 0 w.heap.size/\rep w f oa d/\Q d):
  ∃A n c f xs,cs=[.slice A n c]/\fD f 0 w.heap.size/\lj rep sz w f (.slice A n c) xs/\∀d∈xs,Q d:=by
 rcases open_slice ht h with⟨rfl,_⟩|⟨a,len,cap,m,n,D,Pl,rfl,_,hl,hm,wh,_,hi⟩
 ·exact⟨none,0,0,[],[],rfl,fD.nil _ _,lj.nil _ _ _,fun d h=>by cases h⟩
 rw[hC]at hi
 simp only[if_true]at wh
 by_cases h0:len=0
 ·subst h0
  exact⟨some a,0,cap,[],[],rfl,fD.nil _ _,⟨[],[],[],rfl,⟨some a,cap,rfl,Nat.zero_le _,hm,.inl ⟨rfl,rfl⟩⟩,rfl,rfl,fun i cs f d hc=>by simp at hc⟩,fun d h=>by cases h⟩
 obtain⟨b,o,sp⟩:=a
 have cell0:∃v,w.cell? ⟨b,o,sp⟩=some v:=by
  obtain⟨oa,hc,_⟩:=hi 0 (by omega)
  obtain⟨_,kY,Ou⟩:=World.cells?_some hc
  refine⟨oa[0]'(by omega),?_⟩
  have:=Ou 0 wi
  rw[List.getElem?_eq_getElem (by omega)]at this
  simpa[Addr.add]using this
 obtain⟨v0,p9⟩:=cell0
 have hb:b<w.heap.size:=World.block_lt_of_cell? w _ p9
 have Fi:sp=none:=by
  unfold World.cell? at p9
  split at p9
  ·split at p9
   ·cases p9
   ·rename_i h;simpa using h
  ·cases p9
 subst Fi
 have key:∀i,i<len->∃oa f d,oa.length=sz/\fD f 0 w.heap.size/\rep w f oa d/\Q d/\∀j u,oa[j]? =some u->w.cell? ⟨b,o+(i*sz+j),none⟩=some u:=fun i rQ=>by
  obtain⟨oa,hc,htr⟩:=hi i (by omega)
  obtain⟨_,kY,Ou⟩:=World.cells?_some hc
  obtain⟨f,d,h1,h2,h3⟩:=hel n oa _ kY htr
  refine⟨oa,f,d,kY,h1,h2,h3,fun j u hj=>?_⟩
  have gJ:=(List.getElem?_eq_some_iff.1 hj).1
  have:=Ou j (by omega)
  rw[hj]at this
  rw[<-this,Go.Deep.add_add,jt]
 have:Nonempty α:=by
  obtain⟨_,_,d,_⟩:=key 0 (by omega)
  exact⟨d⟩
 let cf:Nat->List Value:=fun i=>if hi:i<len then(key i hi).choose else[]
 let ff:Nat->List Nat:=fun i=>if hi:i<len then(key i hi).choose_spec.choose else[]
 let df:Nat->α:=fun i=>if hi:i<len then(key i hi).choose_spec.choose_spec.choose else Classical.choice this
 have dy:∀i,i<len->(cf i).length=sz/\fD (ff i) 0 w.heap.size/\rep w (ff i) (cf i) (df i)/\Q (df i)/\∀j u,(cf i)[j]? =some u->w.cell? ⟨b,o+(i*sz+j),none⟩=some u:=fun i hi=>by
  have:=(key i hi).choose_spec.choose_spec.choose_spec
  simp only[cf,ff,df,dif_pos hi]
  exact this
 refine⟨some ⟨b,o,none⟩,len,cap,_,(List.range len).map df,rfl,?_,lj.Pu cf ff df hl hm (fun i hi=>(dy i hi).1) (fun i hi=>(dy i hi).2.2.1) (fun i hi=>(dy i hi).2.2.2.2),fun d hd=>?_⟩
 ·intro x hx
  rcases List.mem_append.1 hx with hx|hx
  ·simp at hx;subst hx;exact⟨Nat.zero_le _,hb⟩
  ·obtain⟨l,Nx,Sj⟩:=List.mem_flatten.1 hx
   obtain⟨i,hi,rfl⟩:=List.mem_map.1 Nx
   exact(dy i (List.mem_range.1 hi)).2.1 x Sj
 ·obtain⟨i,hi,rfl⟩:=List.mem_map.1 hd
  exact(dy i (List.mem_range.1 hi)).2.2.2.1
end
section
variable {H:Type} {enc:TypeId×Value->H} {w:World} {fuel:Nat} {cs:List Value} {x:DataW H×List MemPlace}
abbrev TT (enc:TypeId×Value->H) (w:World) (fuel t:Nat) (cs:List Value) (x:DataW H×List MemPlace):Prop:=DataW.trod enc Tryz.prog w 0 (fun _=>true) true fuel t cs=some x
theorem Mw (h:TT enc w fuel 67 cs x):∃A n c f xs,cs=[.slice A n c]/\fD f 0 w.heap.size/\r8 w f (.slice A n c) xs:=by
 obtain⟨A,n,c,f,xs,h1,h2,h3,_⟩:=nK (rep:=B5) (Q:=fun _=>True) Tryz.underlying67 (sz:=1) (by kernel_rfl) (by omega) h fun n oa y hl hy=>by
  obtain⟨b,rfl,_⟩:=DataW.trod_int Tryz.underlying2 hy
  exact⟨[],b,fD.nil _ _,⟨rfl,rfl⟩,trivial⟩
 exact⟨A,n,c,f,xs,h1,h2,h3⟩
theorem ny {t:TypeId} {fs:Array Field} (ht:Tryz.prog.underlying t=some (.struct fs)) (h:TT enc w fuel t cs x):cs.length=Tryz.prog.cellsOf t/\∃n,∀(i:Nat) (f:Field),fs[i]? =some f->∃y,TT enc w n f.type ((cs.drop f.offset).take (Tryz.prog.cellsOf f.type)) y:=by
 obtain⟨xs,n,_,_,hl,Sj,hf⟩:=DataW.trod_struct ht h
 refine⟨hl,n,fun i f hi=>?_⟩
 have rQ:i<xs.length:=by rw[Sj];exact(Array.getElem?_eq_some_iff.1 hi).1
 exact⟨xs[i],(hf i f hi).trans (List.getElem?_eq_getElem rQ)⟩
theorem Mn {l:List Value} (h:l.length=2):∃a b,l=[a,b]:=by
 match l,h with
 |[a,b],_=>exact⟨a,b,rfl⟩
theorem Ss {l:List Value} (h:l.length=3):∃a b c,l=[a,b,c]:=by
 match l,h with
 |[a,b,c],_=>exact⟨a,b,c,rfl⟩
theorem Sr {l:List Value} (h:l.length=1):∃a,l=[a]:=by
 match l,h with
 |[a],_=>exact⟨a,rfl⟩
theorem Jy (h:TT enc w fuel 22 cs x):∃A n c f xs,cs=[.slice A n c]/\fD f 0 w.heap.size/\oX w f (.slice A n c) xs/\∀d∈xs,d.aD.size<=9223372036854775807:=by
 exact nK (rep:=Fx) (Q:=fun d=>d.aD.size<=9223372036854775807) Tryz.underlying22 (sz:=2) (by kernel_rfl) (by omega) h fun n oa y hl hy=>by
  obtain⟨_,m,hf⟩:=ny Tryz.underlying227 hy
  obtain⟨a,b,rfl⟩:=Mn hl
  ·skip
   obtain⟨y0,h0⟩:=hf 0 _ rfl
   obtain⟨y1,h1⟩:=hf 1 _ rfl
   rw[show Tryz.prog.cellsOf _=1 from by kernel_rfl]at h0 h1
   obtain⟨p,e0,_,ws⟩:=DataW.trod_string Tryz.underlying9 h0
   obtain⟨q,e1,_⟩:=DataW.trod_int Tryz.underlying2 h1
   simp at e0 e1
   subst e0 e1
   exact⟨[],⟨p,q⟩,fD.nil _ _,⟨rfl,rfl⟩,by simpa[maxLen]using ws⟩
theorem Jz (h:TT enc w fuel 23 cs x):∃A n c f xs,cs=[.slice A n c]/\fD f 0 w.heap.size/\oY w f (.slice A n c) xs/\∀d∈xs,d.aD.size<=9223372036854775807:=by
 exact nK (rep:=Fy) (Q:=fun d=>d.aD.size<=9223372036854775807) Tryz.underlying23 (sz:=2) (by kernel_rfl) (by omega) h fun n oa y hl hy=>by
  obtain⟨_,m,hf⟩:=ny Tryz.underlying229 hy
  obtain⟨a,b,rfl⟩:=Mn hl
  ·skip
   obtain⟨y0,h0⟩:=hf 0 _ rfl
   obtain⟨y1,h1⟩:=hf 1 _ rfl
   rw[show Tryz.prog.cellsOf _=1 from by kernel_rfl]at h0 h1
   obtain⟨p,e0,_,ws⟩:=DataW.trod_string Tryz.underlying9 h0
   obtain⟨A1,n1,c1,f1,PN,e1,k1,s1⟩:=Mw h1
   simp at e0 e1
   subst e0 e1
   exact⟨_,⟨p,PN⟩,k1,⟨_,f1,rfl,rfl,s1⟩,by simpa[maxLen]using ws⟩
theorem Ez (h:TT enc w fuel 26 cs x):∃A n c f xs,cs=[.slice A n c]/\fD f 0 w.heap.size/\kT w f (.slice A n c) xs:=by
 obtain⟨A,n,c,f,xs,h1,h2,h3,_⟩:=nK (rep:=xt) (Q:=fun _=>True) Tryz.underlying26 (sz:=3) (by kernel_rfl) (by omega) h fun n oa y hl hy=>by
  obtain⟨_,m,hf⟩:=ny Tryz.underlying246 hy
  obtain⟨a,b,c,rfl⟩:=Ss hl
  ·skip
   obtain⟨y0,h0⟩:=hf 0 _ rfl
   obtain⟨y1,h1⟩:=hf 1 _ rfl
   rw[show Tryz.prog.cellsOf _=2 from by kernel_rfl]at h0
   rw[show Tryz.prog.cellsOf _=1 from by kernel_rfl]at h1
   obtain⟨_,m2,OD⟩:=ny Tryz.underlying180 h0
   obtain⟨z0,g0⟩:=OD 0 _ rfl
   obtain⟨z1,g1⟩:=OD 1 _ rfl
   rw[show Tryz.prog.cellsOf _=1 from by kernel_rfl]at g0 g1
   obtain⟨px,e0,_⟩:=DataW.trod_int Tryz.underlying2 g0
   obtain⟨py,e1,_⟩:=DataW.trod_int Tryz.underlying2 g1
   obtain⟨ti,e2,_⟩:=DataW.trod_int Tryz.underlying2 h1
   simp at e0 e1 e2
   subst e0 e1 e2
   exact⟨[],⟨⟨px,py⟩,ti⟩,fD.nil _ _,⟨rfl,rfl⟩,trivial⟩
 exact⟨A,n,c,f,xs,h1,h2,h3⟩
theorem Bt (h:TT enc w fuel 28 cs x):∃A n c f,∃d:dV,cs=[.slice A n c]/\fD f 0 w.heap.size/\kT w f (.slice A n c) d.aj:=by
 obtain⟨hl,m,hf⟩:=ny Tryz.underlying28 h
 rw[show Tryz.prog.cellsOf _=1 from by kernel_rfl]at hl
 obtain⟨a,rfl⟩:=Sr hl
 ·skip
  obtain⟨y0,h0⟩:=hf 0 _ rfl
  rw[show Tryz.prog.cellsOf _=1 from by kernel_rfl]at h0
  obtain⟨A1,n1,c1,f1,PN,e1,k1,s1⟩:=Ez h0
  simp at e1
  subst e1
  exact⟨A1,n1,c1,f1,⟨PN⟩,rfl,k1,s1⟩
end
end Go.Proofs.YtphenfakmdknlaaGreat

namespace Go.Proofs.YtphenfakmdknlaaGreat
open Go.ChangeShapes Go.WideShapes Go.ChangeAt Go.RowKit V
theorem PA:ownKnob Tryz.prog.godebug=none:=by kernel_rfl
theorem Bk:laidOutB Tryz.prog=true:=by kernel_rfl
section
variable {H:Type} {enc:TypeId×Value->H} {w:World} {fuel:Nat} {cs:List Value} {x:DataW H×List MemPlace}
theorem EA (h:TT enc w fuel 25 cs x):∃A0 n0 c0 f0 A1 n1 c1 f1,∃d:ao,cs=[.slice A0 n0 c0,.slice A1 n1 c1]/\fD f0 0 w.heap.size/\oX w f0 (.slice A0 n0 c0) d.ay/\fD f1 0 w.heap.size/\oY w f1 (.slice A1 n1 c1) d.aj/\fR d:=by
 obtain⟨hl,m,hf⟩:=ny Tryz.underlying25 h
 rw[show Tryz.prog.cellsOf _=2 from by kernel_rfl]at hl
 obtain⟨a,b,rfl⟩:=Mn hl
 obtain⟨z0,g0⟩:=hf 0 _ rfl
 obtain⟨z1,g1⟩:=hf 1 _ rfl
 rw[show Tryz.prog.cellsOf _=1 from by kernel_rfl]at g0 g1
 obtain⟨A0,n0,c0,f0,xs0,e0,k0,s0,o0⟩:=Jy g0
 obtain⟨A1,n1,c1,f1,PN,e1,k1,s1,o1⟩:=Jz g1
 simp at e0 e1
 subst e0 e1
 exact⟨A0,n0,c0,f0,A1,n1,c1,f1,⟨xs0,PN⟩,rfl,k0,s0,k1,s1,o0,o1⟩
end
theorem Ju (R:List (List Nat)):R.map FV=(R.map wM).map qV:=by
 rw[List.map_map]
 exact List.map_congr_left fun p _=>by show[_]=[_];rw[G3]
theorem Is (s:ao) (a:dV) (t:Int) (hn:fR s):ak Tryz.prog 4 [.agg (aa s),.agg (aY a),.int .i64 t] (.bool true):=
 Jh (fun s a t=>nP s a.aj t) (fun s a t hn hm hl=>by
  by_cases h0:ju s a.aj t=0
  ·refine⟨.sl ((qe a.aj.length (cI s a.aj) t).map FV),.inr ?_,?_⟩
   ·show AV.sl _=AV.sl _
    unfold nP
    rw[if_pos h0,Ju]
   ·have hb:=vz s a.aj t hn hm.g hm.t h0
    show ki _ _ _ (.im [.sl ((qe a.aj.length (cI s a.aj) t).map FV),.int .i64 (ju s a.aj t)])
    rw[h0];exact hb
  ·refine⟨.cK,.inl ⟨rfl,?_⟩,vq s a.aj t hn hm.g hm.t h0⟩
   unfold nP
   rw[if_neg h0]) (fun s a t hn hm hl n=>bd _ _ _ _ _ (fun r σ' hq=>by
   obtain⟨ids,⟨v0,h1,h2⟩,h3⟩:=hq
   exact⟨ids,⟨v0,ids,h1,h2,rfl⟩,h3⟩) (vp s a.aj t hn hm hl n)) (fun s a t _ _ _=>FN s a.aj t) s a t hn
theorem Ak (os:Os) (started:os.Started) (H:Type) (enc:TypeId×Value->H):
  ReturnsInHanded {} Tryz.checked os 4 .any (Rows.fnExactBreakApartSpec.pre6 enc Tryz.prog Tryz.f4 Rows.fnExactBreakApartRow.domain false) (Rows.fnExactBreakApartSpec.post enc Tryz.prog Tryz.f4 false true false false):=by
 refine returnsInHanded_of_change (C:=Tryz.checked) PA started (by kernel_rfl) Tryz.func4
  (ChangeSpec.witness6 (enc:=enc) (C:=Tryz.checked) false ⟨#[], #[.agg #[.slice none 0 0,.slice none 0 0],.agg #[.slice none 0 0],.int .i64 0],[]⟩ 8 (by kernel_rfl) (by kernel_rfl) (by kernel_rfl) (by kernel_rfl)) ?_
 intro W base args ds gs before KH hW hcnd _
 have nU:∀(j:Nat) t v,Tryz.f4.params[j]? =some t->args[j]? =some v->Value.okWide Tryz.prog W .any base t v:=KH
 have hW':=hW
 obtain⟨p,q,P8,hV,rfl,Cx,kD⟩:=hW
 have hA:DataW.TrodAll enc Tryz.prog W 0 (fun _=>true) true Tryz.f4.params.toList args.toList ds p:=P8
 rw[Tryz.params4]at hA nU
 obtain⟨v0,vs0,d0,ds0,p0,q0,lP,rfl,rfl,h0,r0⟩:=trodAll_cons hA
 obtain⟨v1,vs1,d1,ds1,p1,q1,rfl,rfl,rfl,h1,r1⟩:=trodAll_cons r0
 obtain⟨v2,vs2,d2,ds2,p2,q2,rfl,rfl,rfl,h2,r2⟩:=trodAll_cons r1
 obtain⟨rfl,rfl,rfl⟩:=trodAll_nil r2
 obtain rfl:args= #[v0,v1,v2]:=by cases args;simp_all
 obtain⟨rfl,rfl⟩:=trodVars_none hV
 obtain⟨Nk,rfl,_⟩:=okWide_struct Tryz.underlying25 (nU 0 25 v0 rfl rfl)
 obtain⟨QR,rfl,_⟩:=okWide_struct Tryz.underlying28 (nU 1 28 v1 rfl rfl)
 have k0:=h0
 have k1:=h1
 have k2:=h2
 have lt0:∀x∈p0,x.block<W.heap.size:=by obtain⟨m,hm⟩:=k0;exact DataW.trod_lt m _ _ _ hm
 have lt1:∀x∈p1,x.block<W.heap.size:=by obtain⟨m,hm⟩:=k1;exact DataW.trod_lt m _ _ _ hm
 have lt2:∀x∈p2,x.block<W.heap.size:=by obtain⟨m,hm⟩:=k2;exact DataW.trod_lt m _ _ _ hm
 obtain⟨A0,n0,c0,f0,A1,n1,c1,f1,s,dx,w0,s0,w1,s1,o0⟩:∃A0 n0 c0 f0 A1 n1 c1 f1,∃d:ao,(Value.agg Nk).cells.toList=[.slice A0 n0 c0,.slice A1 n1 c1]/\fD f0 0 W.heap.size/\oX W f0 (.slice A0 n0 c0) d.ay/\fD f1 0 W.heap.size/\oY W f1 (.slice A1 n1 c1) d.aj/\fR d:=by
  obtain⟨fuel,hf⟩:=h0
  exact EA hf
 obtain⟨A3,n3,c3,f3,a,OA,w3,s3⟩:∃A n c f,∃d:dV,(Value.agg QR).cells.toList=[.slice A n c]/\fD f 0 W.heap.size/\kT W f (.slice A n c) d.aj:=by
  obtain⟨fuel,hf⟩:=h1
  exact Bt hf
 obtain⟨m,e1,-,-,-⟩:=open_int Tryz.underlying2 (nU 2 2 v2 rfl rfl) h2
 subst e1
 obtain rfl:Nk= #[.slice A0 n0 c0,.slice A1 n1 c1]:=by
  cases Nk;simp[Value.cells]at dx;subst dx;rfl
 obtain rfl:QR= #[.slice A3 n3 c3]:=by
  cases QR;simp[Value.cells]at OA;subst OA;rfl
 clear P8 KH
 have km:eP Tryz.prog W (fun b=>b<W.heap.size) (fun _=>none) [.agg (aa s),.agg (aY a),.int .i64 m] #[.agg #[.slice A0 n0 c0,.slice A1 n1 c1],.agg #[.slice A3 n3 c3],.int .i64 m]:=by
  have h:=j7 (xx s0 (fun b hb=>(w0 b hb).2) s1 (fun b hb=>(w1 b hb).2)) (j7 (vn s3 (fun b hb=>(w3 b hb).2)) (j7 (.int .i64 m) (⟨rfl,fun j b hj=>by cases j<;>cases hj⟩:eP Tryz.prog W (fun b=>b<W.heap.size) (fun _=>none) [] #[])))
  simpa using h
 have gx:=Mm mixed (Is s a m o0) km
 clear s0 s1 s3 w0 w1 w3 km
 refine(gx.mono fun e W' ⟨he,bel⟩=>?_)
 subst he
 exact⟨_,rfl,_,_,_,[],_,[],hW',trodAll_mk1 (shut_bool Tryz.underlying4 _),(trodAll_cons_mk (Below.trod Bk (by kernel_rfl) (of_decide_eq_true (by kernel_rfl)) k0 bel lt0) (trodAll_cons_mk (Below.trod Bk (by kernel_rfl) (of_decide_eq_true (by kernel_rfl)) k1 bel lt1) (trodAll_cons_mk (Below.trod Bk (by kernel_rfl) (of_decide_eq_true (by kernel_rfl)) k2 bel lt2) trodAll_mk0))),rfl,bel.frame _,fun h=>by cases h⟩
end Go.Proofs.YtphenfakmdknlaaGreat

namespace Go.Proofs.YtphenfakmdknlaaGreat
open Go.ChangeShapes Go.WideShapes Go.ChangeAt Go.RowKit
theorem brN:Tryz.pinned.checked.prog.funcNamed Rows.fnExactBreakApartRow.func=some 4:=by kernel_rfl
theorem brJ:joinedFacts Tryz.pinned.checked.prog 4 Tryz.f4 Rows.fnExactBreakApartSpec Rows.fnExactBreakApartRow=true:=by
 unfold joinedFacts
 repeat(with_reducible refine Bool.and_eq_true_iff.2 ⟨?_,by as_aux_lemma=>kernel_rfl⟩)
 as_aux_lemma=>kernel_rfl
theorem brI:Tryz.f4.isInstance Tryz.pinned.checked.prog Rows.fnExactBreakApartRow.origin Rows.fnExactBreakApartRow.targs:=of_decide_eq_true (by kernel_rfl)
theorem brW:Tryz.f4.isWrapper Tryz.pinned.checked.prog Rows.fnExactBreakApartRow.wrapper Rows.fnExactBreakApartRow.mainSum:=by
 unfold Func.isWrapper;first|(rw[if_pos (by decide+kernel)];kernel_rfl)|(rw[if_neg (by decide+kernel)];exact⟨rfl,rfl⟩)
theorem FO:Rows.fnExactBreakApartRow.holds Tryz.pinned (OpenSpec.ofChange Rows.fnExactBreakApartSpec):=
 OpenClaim.holds_of_wide 4 Tryz.f4 rfl rfl rfl rfl rfl rfl rfl ⟨rfl,rfl,rfl,rfl,rfl⟩ rfl rfl rfl rfl rfl brN Tryz.func4 brJ brI brW
  (fun os started H enc _=>Ak os started H enc)
theorem fnExactBreakApart_proved:Rows.FnExactBreakApartSaid:=FO
end Go.Proofs.YtphenfakmdknlaaGreat
