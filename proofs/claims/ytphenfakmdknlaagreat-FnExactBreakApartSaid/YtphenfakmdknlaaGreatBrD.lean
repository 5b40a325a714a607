/- Groups that bonds connect: plain facts. -/
import Derived.Test.YtphenfakmdknlaaGreatBrC
import Derived.Test.YtphenfakmdknlaaGreatBrB
set_option linter.unusedVariables false
set_option linter.unusedSimpArgs false
set_option maxRecDepth 100000
set_option maxHeartbeats 16000000
namespace Go.Proofs.YtphenfakmdknlaaGreat.V
def eb (L:Nat->Nat) (b:PB):Nat->Nat:=fun k=>if L k=max (L b.a) (L b.b)then min (L b.a) (L b.b)else L k
def gn (bs:List PB):Nat->Nat:=bs.foldl eb id
theorem Bh (bs:List PB) (b:PB):gn (bs++[b])=eb (gn bs) b:=by simp[gn]
structure qO (L:Nat->Nat):Prop where
 le:∀k,L k<=k
 idem:∀k,L (L k)=L k
theorem qO.step {L:Nat->Nat} (h:qO L) (b:PB):qO (eb L b):=by
 have ha:=h.idem b.a
 have hb:=h.idem b.b
 refine⟨fun k=>?_,fun k=>?_⟩
 ·have:=h.le k
  unfold eb
  split<;>omega
 ·have hk:=h.idem k
  have hm:L (min (L b.a) (L b.b))=min (L b.a) (L b.b):=by
   rcases Nat.le_total (L b.a) (L b.b)with h1|h1
   ·rw[Nat.min_eq_left h1,ha]
   ·rw[Nat.min_eq_right h1,hb]
  unfold eb
  by_cases h1:L k=max (L b.a) (L b.b)
  ·rw[if_pos h1,hm];split<;>rfl
  ·rw[if_neg h1,hk,if_neg h1]
theorem sQ:∀(bs:List PB) (L:Nat->Nat),qO L->qO (bs.foldl eb L)
 |[],_,h=>h
 |b::bs,L,h=>sQ bs _ (h.step b)
theorem GP (bs:List PB):qO (gn bs):=sQ bs id ⟨fun _=>Nat.le_refl _,fun _=>rfl⟩
def leads (n:Nat) (L:Nat->Nat):List Nat:=(List.range n).filter fun i=>L i==i
def members (n:Nat) (L:Nat->Nat) (i:Nat):List Nat:=(List.range n).filter fun k=>L k==i
def mI (n:Nat) (L:Nat->Nat):List (List Nat):=(leads n L).map (members n L)
def CP (L:Nat->Nat) (k:Nat):Nat:=(leads (L k) L).length
theorem Bl (n:Nat) (L:Nat->Nat):leads (n+1) L=leads n L++if L n=n then[n]else[]:=by
 unfold leads
 rw[List.range_succ,List.filter_append]
 congr 1
 by_cases h:L n=n<;>simp[h]
theorem wL (n:Nat) (L:Nat->Nat) (i:Nat):members (n+1) L i=members n L i++if L n=i then[n]else[]:=by
 unfold members
 rw[List.range_succ,List.filter_append]
 congr 1
 by_cases h:L n=i<;>simp[h]
theorem pE {L:Nat->Nat} (h:qO L) {n i:Nat} (hn:n<=i):members n L i=[]:=by
 unfold members
 rw[List.filter_eq_nil_iff]
 intro k hk
 have:=h.le k
 have:=List.mem_range.1 hk
 simp;omega
def JP (L:Nat->Nat) (bs:List PB):List PB:=bs.filterMap fun b=>if CP L b.a=CP L b.b then none else some ⟨CP L b.a,CP L b.b,b.s⟩
theorem Dm (S:Nat->Bool) (b:PB) (bs:List PB):fO S (b::bs)=(if S b.a=S b.b then 0 else b.s)+fO S bs:=by simp[fO]
theorem Eh (n:Nat) (L:Nat->Nat):(leads n L).length<=n:=by
 have:=List.length_filter_le (fun i=>L i==i) (List.range n)
 simpa[leads]using this
def gE (t:Int) (bs:List PB):List PB:=bs.filter fun b=>decide (t<=b.s)
def Ii (n:Nat) (bs:List PB) (t:Int):Prop:=
 (leads n (gn (gE t bs))).length<=64/\oi (leads n (gn (gE t bs))).length (JP (gn (gE t bs)) bs) t
end Go.Proofs.YtphenfakmdknlaaGreat.V

namespace Go.Proofs.YtphenfakmdknlaaGreat.V
open Go.RowKit
attribute [local irreducible] dJ wpOps e8 Call
attribute [local go_sem] ax eB dY eJ eI cJ upd bD K.av bW AV.cells AV.cell rowOf rowsOf part ld rowAt bC bx cU de fj bf cC dv eO er cL dm cw cu cZ da bl aI bZ bj ck cj di dn dj bY bo cz dh bh au cq bJ fh aT bV bm aH cS aQ cV AV.undef aV bc db dd cY dc bQ du dw bG dq dp cm cr List.getD_cons_zero List.getD_cons_succ List.getD_nil List.all_cons List.all_nil Bool.and_true Bool.true_and Bool.and_self Bool.not_true Bool.not_false Option.map_some Option.map_none Option.bind_some Option.bind_none List.length_cons List.length_nil List.take_succ_cons List.take_zero List.take_nil List.drop_succ_cons List.drop_zero List.drop_nil List.head?_cons List.map_cons List.map_nil List.getElem?_cons_zero List.getElem?_cons_succ List.cons_append List.nil_append List.append_nil List.length_map List.set_cons_zero List.set_cons_succ Nat.reduceMul eq_self Int.toNat_natCast Int.natCast_nonneg and_self true_and and_true decide_true decide_false Bool.false_eq_true Nat.zero_add Nat.add_zero List.contains_cons List.contains_nil Bool.or_false Bool.false_or beq_self_eq_true Nat.reduceBEq ne_eq not_true_eq_false not_false_eq_true Id.mk.injEq false_and and_false Nat.reduceLT Int.reduceLE Int.reduceLT Int.reduceToNat Int.reduceNeg Int.reduceAdd Nat.le_refl List.length_append beq_true beq_false Bool.not_eq_eq_eq_not or_false false_or dG ab ae az aU bu aC aP aE aJ cD aX
def aZ (b:PB):List AV:=[.int .i64 b.a,.int .i64 b.b,.int .i64 b.s]
theorem P0:∀b:PB,(aZ b).length=3/\(aZ b).all AV.cell=true:=fun _=>⟨rfl,rfl⟩
theorem Cp (g:Rows) (n:Nat) (b:PB):dM g (n+1) (aZ b)=some (aZ b):=by simp[aZ,cN,dC,fV]
def gY (s:ao) (l:List ai) (i:Nat) (d:Int):List PB:=
 if 0<=ew l (ej (bH l i).cG d)/\0<gM s (bH l i).bU d (bH l (ew l (ej (bH l i).cG d)).toNat).bU then
  [⟨i,(ew l (ej (bH l i).cG d)).toNat,gM s (bH l i).bU d (bH l (ew l (ej (bH l i).cG d)).toNat).bU⟩]else[]
def eF (s:ao) (l:List ai) (i m:Nat):List PB:=(List.range m).flatMap fun j:Nat=>gY s l i (1-(j:Int))
def fw (s:ao) (l:List ai) (n:Nat):List PB:=(List.range n).flatMap fun i=>eF s l i 2
def cI (s:ao) (l:List ai):List PB:=fw s l l.length
theorem n9 (s:ao) (l:List ai) (i m:Nat):eF s l i (m+1)=eF s l i m++gY s l i (1-(m:Int)):=by simp[eF,List.range_succ]
theorem o4 (s:ao) (l:List ai) (n:Nat):fw s l (n+1)=fw s l n++eF s l n 2:=by simp[fw,List.range_succ]
theorem Ah (s:ao) (l:List ai) (i:Nat) (d:Int):(gY s l i d).length<=1:=by unfold gY;split<;>simp
theorem o3 (s:ao) (l:List ai) (i m:Nat):(eF s l i m).length<=m:=by
 induction m with
 |zero=>simp[eF]
 |succ m ih=>rw[n9,List.length_append];have:=Ah s l i (1-(m:Int));omega
theorem qR (s:ao) (l:List ai) (n:Nat):(fw s l n).length<=2*n:=by
 induction n with
 |zero=>simp[fw]
 |succ n ih=>rw[o4,List.length_append];have:=o3 s l n 2;omega
def sB:Id->Prop:=fun o=>o.site=89001000∨o.site=89012006
theorem Bg (s:ao) (l:List ai) (hS:jL s) (hA:qc s l):ak Tryz.prog 89 [.dI (aa s),.dI [.sl (l.map ah)]] (.sl ((cI s l).map aZ)):=by
 refine ak.body eL rfl fun hl n0=>?_
 clear hl
 have hF:=hA.1
 have LO:=hF.IB
 (try((repeat(revert hN;revert N;apply Pn.out));refine wk @Nat.zero_add ?_;(repeat(refine Pn.mk ?_;intro N hN))))
 refine bp (fun n env st=>∃k:Nat,n=(l.length)-k/\k<=(l.length)/\env 6=.int .i64 (k:Int)/\(lh aZ 3 (env 5) st.get sB (fw s l k))) (l.length) ⟨0,ad,ad,sl @Nat.zero_add,⟨⟨89001000,n0+1⟩,.inl rfl,by simp only[go_sem, ↓reduceIte,Nat.reduceEqDiff,Nat.reduceAdd,Nat.reduceSub,Nat.reduceLeDiff,reduceCtorEq];rfl,by simp only[go_sem, ↓reduceIte,Nat.reduceEqDiff,Nat.reduceAdd,Nat.reduceSub,Nat.reduceLeDiff,reduceCtorEq];rfl⟩⟩ ?_
 rintro n_a env_a st_a ⟨k,rfl,ale,a6,aI0⟩ dt
 have a0:=dt 0 (by kernel_rfl);have a1:=dt 1 (by kernel_rfl)
 simp only[go_sem, ↓reduceIte,Nat.reduceEqDiff,Nat.reduceAdd,Nat.reduceSub,Nat.reduceLeDiff,reduceCtorEq]at a0 a1
 clear dt
 by_cases hk:(k:Int)<(l.length:Int)
 ·have bK:∀{e:Env} {gg:Rows},(e 6=.int .i64 (IntKind.i64.wrap ((k:Int)+1)))->(lh aZ 3 (e 5) gg sB (fw s l (k+1)))->∃m0,m0<(l.length)-k/\∃k:Nat,m0=(l.length)-k/\k<=(l.length)/\e 6=.int .i64 (k:Int)/\(lh aZ 3 (e 5) gg sB (fw s l k)):=fun x1 x2=>⟨_,ad,k+1,rfl,ad,(by rw[x1,aA ad]),x2⟩
  have eo:k<l.length:=ad
  have eC:=gy eo
  have hul:=qR s l k
  (try((repeat(revert hN;revert N;apply Pn.out));refine wk (tw @a6 (tw @a0 (tw @a1 @hk))) ?_;(repeat(refine Pn.mk ?_;intro N hN))))
  refine bp (fun n env st=>∃m:Nat,n=(2)-m/\m<=(2)/\env 7=(.int .i64 (1-(m:Int)))/\(lh aZ 3 (env 5) st.get sB (fw s l k++eF s l k m))) (2) ⟨0,ad,ad,sl (tw @a6 (tw @a0 @a1)),by(simp only[go_sem, ↓reduceIte,Nat.reduceEqDiff,Nat.reduceAdd,Nat.reduceSub,Nat.reduceLeDiff,reduceCtorEq];exact aI0.cast (by simp[eF]))⟩ ?_
  rintro n_b env_b st_b ⟨m,rfl,ble,b7,bI0⟩ bfr
  have b0:=bfr 0 (by kernel_rfl);have b1:=bfr 1 (by kernel_rfl);have b6:=bfr 6 (by kernel_rfl)
  simp only[go_sem, ↓reduceIte,Nat.reduceEqDiff,Nat.reduceAdd,Nat.reduceSub,Nat.reduceLeDiff,reduceCtorEq,a6,a0,a1]at b0 b1 b6
  clear bfr
  have DL:=o3 s l k m
  have po:=n9 s l k m
  by_cases hm:(m:Int)<2
  ·have j3:∀{e:Env} {gg:Rows},(e 7=(.int .i64 (1-((m+1):Int))))->(lh aZ 3 (e 5) gg sB (fw s l k++eF s l k (m+1)))->∃m0,m0<(2)-m/\∃m:Nat,m0=(2)-m/\m<=(2)/\e 7=(.int .i64 (1-(m:Int)))/\(lh aZ 3 (e 5) gg sB (fw s l k++eF s l k m)):=fun x1 x2=>⟨_,ad,m+1,rfl,ad,x1,x2⟩
   have nR:(0:Int)<=1-(m:Int):=ad
   have hd:ig (1-(m:Int)) 0 3=true:=sM ad
   have hw:IntKind.i64.wrap (1-(m:Int)-1)=1-((m:Int)+1):=by rw[bP ad];omega
   have Qn:=ud l hF k (1-(m:Int)) eo hd
   unfold gY at po
   have hT:=hA.2 _ (mO eo)
   generalize DP:ew l (ej (bH l k).cG (1-(m:Int)))=ix at *
   by_cases hi:ix<0
   ·rw[if_neg ad,List.append_nil]at po
    (repeat(first|((repeat(revert hN;revert N;apply Pn.out));refine wk (tw @b7 (tw @b0 (tw @b1 (tw @b6 (tw @nR (tw @hw @hi)))))) ?_;(repeat(refine Pn.mk ?_;intro N hN)))|((try apply Or.inl);refine⟨_,ak.x (Qn) (sd (tw @b7 (tw @b0 (tw @b1 (tw @b6 (tw @nR (tw @hw @hi))))))),?_⟩;refine hN _ _ ?_;clear hN N)))
    exact j3 (sd (tw @b7 (tw @b0 (tw @b1 (tw @b6 @hw))))) (by(simp only[go_sem, ↓reduceIte,Nat.reduceEqDiff,Nat.reduceAdd,Nat.reduceSub,Nat.reduceLeDiff,reduceCtorEq];exact bI0.cast (by rw[po])))
   ·have Fg:0<=ix:=ad
    have LU:=ly (l:=l) (p:=ej (bH l k).cG (1-(m:Int))) ad
    rw[DP]at LU
    have xn:=gy LU.1
    have tV:=Eb s hS (bH l k).bU (1-(m:Int)) (bH l ix.toNat).bU hT (hA.2 _ (mO LU.1)) hd
    generalize Qg:gM s (bH l k).bU (1-(m:Int)) (bH l ix.toNat).bU=bv at *
    by_cases hb:0<bv
    ·rw[if_pos ⟨Fg,hb⟩]at po
     (repeat(first|((repeat(revert hN;revert N;apply Pn.out));refine wa (tw @b7 (tw @b0 (tw @b1 (tw @b6 (tw @nR (tw @hw (tw @hi (tw @Fg (tw @eC (tw @xn (tw @hb @ah.eq_1))))))))))) ?_;(repeat(refine Pn.mk ?_;intro N hN)))|((try apply Or.inl);refine⟨_,ak.x (Qn) (sd (tw @b7 (tw @b0 (tw @b1 (tw @b6 (tw @nR (tw @hw (tw @hi (tw @Fg (tw @eC (tw @xn (tw @hb @ah.eq_1)))))))))))),?_⟩;refine hN _ _ ?_;clear hN N)|((try apply Or.inl);refine⟨_,ak.x (tV) (sd (tw @b7 (tw @b0 (tw @b1 (tw @b6 (tw @nR (tw @hw (tw @hi (tw @Fg (tw @eC (tw @xn (tw @hb @ah.eq_1)))))))))))),?_⟩;refine hN _ _ ?_;clear hN N)))
     refine MS (enc:=aZ) (S:=sB) (L:=fw s l k++eF s l k m) (xv:=env_b 5) [⟨k,ix.toNat,bv⟩] rfl rfl (sd @Nat.zero_add) (bI0.frame fun o ho=>by rcases ho with ho|ho<;>simp only[go_sem, ↓reduceIte,Nat.reduceEqDiff,Nat.reduceAdd,Nat.reduceSub,Nat.reduceLeDiff,reduceCtorEq,CV ho]) (sd (tw @aZ.eq_1 (Int.toNat_of_nonneg Fg))) P0 (.inr rfl) (by simp only[cV,List.length_append,List.length_cons,List.length_nil];omega) fun v g' hO lQ=>?_
     rw[List.append_assoc,<-po]at hO
     clear lQ
     (try((repeat(revert hN;revert N;apply Pn.out));refine wk (tw @b7 (tw @b0 (tw @b1 (tw @b6 @hw)))) ?_;(repeat(refine Pn.mk ?_;intro N hN))))
     exact j3 (sd (tw @b7 (tw @b0 (tw @b1 (tw @b6 @hw))))) (by(simp only[go_sem, ↓reduceIte,Nat.reduceEqDiff,Nat.reduceAdd,Nat.reduceSub,Nat.reduceLeDiff,reduceCtorEq];exact hO))
    ·rw[if_neg fun h=>hb h.2,List.append_nil]at po
     (repeat(first|((repeat(revert hN;revert N;apply Pn.out));refine wk (tw @b7 (tw @b0 (tw @b1 (tw @b6 (tw @nR (tw @hw (tw @hi (tw @Fg (tw @eC (tw @xn (tw @hb @ah.eq_1))))))))))) ?_;(repeat(refine Pn.mk ?_;intro N hN)))|((try apply Or.inl);refine⟨_,ak.x (Qn) (sd (tw @b7 (tw @b0 (tw @b1 (tw @b6 (tw @nR (tw @hw (tw @hi (tw @Fg (tw @eC (tw @xn (tw @hb @ah.eq_1)))))))))))),?_⟩;refine hN _ _ ?_;clear hN N)|((try apply Or.inl);refine⟨_,ak.x (tV) (sd (tw @b7 (tw @b0 (tw @b1 (tw @b6 (tw @nR (tw @hw (tw @hi (tw @Fg (tw @eC (tw @xn (tw @hb @ah.eq_1)))))))))))),?_⟩;refine hN _ _ ?_;clear hN N)))
     exact j3 (sd (tw @b7 (tw @b0 (tw @b1 (tw @b6 @hw))))) (by(simp only[go_sem, ↓reduceIte,Nat.reduceEqDiff,Nat.reduceAdd,Nat.reduceSub,Nat.reduceLeDiff,reduceCtorEq];exact bI0.cast (by rw[po])))
  ·have Ky:m=2:=ad
   subst Ky
   have ea:¬(0:Int)<=1-((2:Nat):Int):=ad
   (try((repeat(revert hN;revert N;apply Pn.out));refine wk (tw @b7 (tw @b0 (tw @b1 (tw @b6 @ea)))) ?_;(repeat(refine Pn.mk ?_;intro N hN))))
   exact bK (sd (tw @a6 (tw @a0 (tw @a1 (tw @b7 (tw @b0 (tw @b1 @b6))))))) (by(simp only[go_sem, ↓reduceIte,Nat.reduceEqDiff,Nat.reduceAdd,Nat.reduceSub,Nat.reduceLeDiff,reduceCtorEq];exact bI0.cast (by rw[o4])))
 ·have jz:k=l.length:=ad
  (try((repeat(revert hN;revert N;apply Pn.out));refine wk (tw @a6 (tw @a0 (tw @a1 @hk))) ?_;(repeat(refine Pn.mk ?_;intro N hN))))
  exact CR (.inl rfl) (by simp only[go_sem, ↓reduceIte,Nat.reduceEqDiff,Nat.reduceAdd,Nat.reduceSub,Nat.reduceLeDiff,reduceCtorEq];rfl) (by rw[jz]at aI0;exact aI0.fu fun b=>Cp _ _ b)
theorem GM (a b:Nat):ak Tryz.prog 192 [.int .i64 a,.int .i64 b] (.int .i64 (min a b:Nat)):=by
 refine ak.body eL rfl fun hl n0=>?_
 clear hl
 by_cases h:(a:Int)<(b:Int)
 ·(try((repeat(revert hN;revert N;apply Pn.out));refine wk @h ?_;(repeat(refine Pn.mk ?_;intro N hN))))
  exact cH (b:=(a:Int)) (.inl rfl) (sd @Nat.zero_add) ad
 ·(try((repeat(revert hN;revert N;apply Pn.out));refine wk @h ?_;(repeat(refine Pn.mk ?_;intro N hN))))
  exact cH (b:=(b:Int)) (.inl rfl) (sd @Nat.zero_add) ad
theorem GL (a b:Nat):ak Tryz.prog 149 [.int .i64 a,.int .i64 b] (.int .i64 (max a b:Nat)):=by
 refine ak.body eL rfl fun hl n0=>?_
 clear hl
 by_cases h:(b:Int)<(a:Int)
 ·(try((repeat(revert hN;revert N;apply Pn.out));refine wk @h ?_;(repeat(refine Pn.mk ?_;intro N hN))))
  exact cH (b:=(a:Int)) (.inl rfl) (sd @Nat.zero_add) ad
 ·(try((repeat(revert hN;revert N;apply Pn.out));refine wk @h ?_;(repeat(refine Pn.mk ?_;intro N hN))))
  exact cH (b:=(b:Int)) (.inl rfl) (sd @Nat.zero_add) ad
def fY (f:Nat->Nat) (n:Nat):List (List AV):=(List.range n).map fun i=>eN (f i)
theorem jj (f:Nat->Nat) (n:Nat):(fY f n).length=n:=by simp[fY]
theorem gW {f:Nat->Nat} {n i:Nat} (h:i<n):(fY f n)[i]? =some (eN (f i)):=by simp[fY,h]
theorem nI {f g:Nat->Nat} {n:Nat} (h:∀i,i<n->f i=g i):fY f n=fY g n:=List.map_congr_left fun i hi=>by rw[h i (List.mem_range.1 hi)]
theorem w7 {f g:Nat->Nat} {n k v:Nat} (hk:k<n) (hv:g k=v) (h:∀i,i<n->i≠k->g i=f i):(fY f n).set k (eN v)=fY g n:=by
 refine List.ext_getElem? fun i=>?_
 rw[List.getElem?_set]
 by_cases hi:k=i
 ·subst hi
  rw[if_pos rfl,jj,if_pos hk,gW hk,hv]
 ·rw[if_neg hi]
  by_cases gP:i<n
  ·rw[gW gP,gW gP,h i gP (fun h=>hi h.symm)]
  ·rw[List.getElem?_eq_none (by rw[jj];omega),List.getElem?_eq_none (by rw[jj];omega)]
theorem yV (cnt:Nat) (hn:cnt<=1048576) (bs:List PB) (hb:∀b∈bs,b.a<cnt/\b.b<cnt) (re:bs.length<=1048576):ak Tryz.prog 90 [.int .i64 cnt,.sl (bs.map aZ)] (.sl ((mI cnt (gn bs)).map FV)):=by
 refine ak.body eL rfl fun hl n0=>?_
 clear hl
 (try((repeat(revert hN;revert N;apply Pn.out));refine wk @Nat.zero_add ?_;(repeat(refine Pn.mk ?_;intro N hN))))
 refine bp (fun n env st=>∃k:Nat,n=(cnt)-k/\k<=(cnt)/\env 6=.int .i64 (k:Int)/\(∃o:Id,env 5=.own o 0 k/\st.get o=some ⟨true,1,fY id k⟩/\o.bR<st.next)) (cnt) ⟨0,ad,ad,sl @Nat.zero_add,⟨⟨90001000,n0+1⟩,sd @Nat.zero_add,by simp only[go_sem, ↓reduceIte,Nat.reduceEqDiff,Nat.reduceAdd,Nat.reduceSub,Nat.reduceLeDiff,reduceCtorEq];rfl,cE⟩⟩ ?_
 rintro n_a env_a st_a ⟨k,rfl,ale,a6,aI0⟩ dt
 have a0:=dt 0 (by kernel_rfl);have a1:=dt 1 (by kernel_rfl)
 simp only[go_sem, ↓reduceIte,Nat.reduceEqDiff,Nat.reduceAdd,Nat.reduceSub,Nat.reduceLeDiff,reduceCtorEq]at a0 a1
 clear dt
 obtain⟨o,a5,ag,uL⟩:=aI0
 have tl:=jj id k
 have p9:=dW uL
 by_cases hk:(k:Int)<(cnt:Int)
 ·have bK:∀{e:Env} {gg:Rows} {nx:Nat},(e 6=.int .i64 (IntKind.i64.wrap ((k:Int)+1)))->(∃o:Id,e 5=.own o 0 (k+1)/\gg o=some ⟨true,1,fY id (k+1)⟩/\o.bR<nx)->∃m0,m0<(cnt)-k/\∃k:Nat,m0=(cnt)-k/\k<=(cnt)/\e 6=.int .i64 (k:Int)/\(∃o:Id,e 5=.own o 0 k/\gg o=some ⟨true,1,fY id k⟩/\o.bR<nx):=fun x1 x2=>⟨_,ad,k+1,rfl,ad,(by rw[x1,aA ad]),x2⟩
  have eo:k<cnt:=ad
  have e1:k+1<=16777216:=ad
  have qq:fY id k++[[.int .i64 (k:Int)]]=fY id (k+1):=by simp[fY,List.range_succ,eN]
  (try((repeat(revert hN;revert N;apply Pn.out));refine wk (tw @a6 (tw @a0 (tw @a1 (tw @a5 (tw @ag (tw @p9 (tw @hk (tw @tl (tw @e1 @qq))))))))) ?_;(repeat(refine Pn.mk ?_;intro N hN))))
  exact bK (sd (tw @a6 (tw @a0 @a1))) (⟨⟨90005003,st_a.next+1⟩,sd @Nat.zero_add,sd @qq,cE⟩)
 have jz:k=cnt:=ad
 subst jz
 have RT:st_a.get o=some ⟨true,1,fY (gn (bs.take 0)) k⟩:=ag
 clear ag
 (try((repeat(revert hN;revert N;apply Pn.out));refine wk (tw @a6 (tw @a0 (tw @a1 @hk))) ?_;(repeat(refine Pn.mk ?_;intro N hN))))
 refine bp (fun n env st=>∃j:Nat,n=(bs.length)-j/\j<=(bs.length)/\env 7=.int .i64 (j:Int)/\st.get o=some ⟨true,1,fY (gn (bs.take j)) k⟩/\(o.bR<st.next)) (bs.length) ⟨0,ad,ad,sl (tw @a6 (tw @a0 (tw @a1 (tw @a5 @RT)))),sl (tw @a6 (tw @a0 (tw @a1 (tw @a5 @RT)))),cE⟩ ?_
 rintro n_b env_b st_b ⟨j,rfl,ble,b7,bg0,bI0⟩ bfr
 have b0:=bfr 0 (by kernel_rfl);have b1:=bfr 1 (by kernel_rfl);have b5:=bfr 5 (by kernel_rfl)
 simp only[go_sem, ↓reduceIte,Nat.reduceEqDiff,Nat.reduceAdd,Nat.reduceSub,Nat.reduceLeDiff,reduceCtorEq,a6,a0,a1,a5,RT]at b0 b1 b5
 clear bfr
 by_cases hj:(j:Int)<(bs.length:Int)
 ·have j3:∀{e:Env} {gg:Rows} {nx:Nat},(e 7=.int .i64 (IntKind.i64.wrap ((j:Int)+1)))->(gg o=some ⟨true,1,fY (gn (bs.take (j+1))) k⟩)->(o.bR<nx)->∃m0,m0<(bs.length)-j/\∃j:Nat,m0=(bs.length)-j/\j<=(bs.length)/\e 7=.int .i64 (j:Int)/\gg o=some ⟨true,1,fY (gn (bs.take j)) k⟩/\(o.bR<nx):=fun x1 x2 x3=>⟨_,ad,j+1,rfl,ad,(by rw[x1,aA ad]),x2,x3⟩
  have ib:j<bs.length:=ad
  have hgj:(bs.map aZ)[j]? =some (aZ bs[j]):=by simp[ib]
  have hbj:=hb _ (List.getElem_mem ib)
  have lT:bs.take (j+1)=bs.take j++[bs[j]]:=List.take_succ_eq_append_getElem ib
  have po:gn (bs.take (j+1))=eb (gn (bs.take j)) bs[j]:=by rw[lT,Bh]
  generalize gn (bs.take j)=L at *
  generalize bs[j]=b at *
  have hA:=gW (f:=L) hbj.1
  have hB:=gW (f:=L) hbj.2
  have hMn:=GM (L b.a) (L b.b)
  have hMx:=GL (L b.a) (L b.b)
  have tl:=jj L k
  have gN:(b.a:Int)<(k:Int):=ad
  have fG:(b.b:Int)<(k:Int):=ad
  (try((repeat(revert hN;revert N;apply Pn.out));refine wk (tw @b7 (tw @bg0 (tw @b0 (tw @b1 (tw @b5 (tw @hj (tw @hgj (tw @aZ.eq_1 (tw @hA (tw @hB (tw @gN (tw @fG (tw @tl @eN.eq_1))))))))))))) ?_;(repeat(refine Pn.mk ?_;intro N hN))))
  refine bp (fun n env st=>∃i:Nat,n=(k)-i/\i<=(k)/\env 10=.int .i64 (i:Int)/\st.get o=some ⟨true,1,fY (fun x=>if x<i then eb L b x else L x) k⟩/\(o.bR<st.next)) (k) ⟨0,ad,ad,sl (tw @b7 (tw @bg0 (tw @b0 (tw @b1 (tw @b5 @Nat.not_lt_zero))))),sl (tw @b7 (tw @bg0 (tw @b0 (tw @b1 (tw @b5 @Nat.not_lt_zero))))),cE⟩ ?_
  rintro n_c env_c st_c ⟨i,rfl,cle,jR,cg0,cI0⟩ cfr
  have c0:=cfr 0 (by kernel_rfl);have c1:=cfr 1 (by kernel_rfl);have c5:=cfr 5 (by kernel_rfl);have c7:=cfr 7 (by kernel_rfl);have c8:=cfr 8 (by kernel_rfl);have c9:=cfr 9 (by kernel_rfl)
  simp only[go_sem, ↓reduceIte,Nat.reduceEqDiff,Nat.reduceAdd,Nat.reduceSub,Nat.reduceLeDiff,reduceCtorEq,b7,bg0,b0,b1,b5,Nat.not_lt_zero]at c0 c1 c5 c7 c8 c9
  clear cfr
  have hC:=gW (f:=fun x=>if x<i then eb L b x else L x) (n:=k) (i:=i)
  have tc:=jj (fun x=>if x<i then eb L b x else L x) k
  by_cases hi:(i:Int)<(k:Int)
  ·have kF:∀{e:Env} {gg:Rows} {nx:Nat},(e 10=.int .i64 (IntKind.i64.wrap ((i:Int)+1)))->(gg o=some ⟨true,1,fY (fun x=>if x<(i+1)then eb L b x else L x) k⟩)->(o.bR<nx)->∃m0,m0<(k)-i/\∃i:Nat,m0=(k)-i/\i<=(k)/\e 10=.int .i64 (i:Int)/\gg o=some ⟨true,1,fY (fun x=>if x<i then eb L b x else L x) k⟩/\(o.bR<nx):=fun x1 x2 x3=>⟨_,ad,i+1,rfl,ad,(by rw[x1,aA ad]),x2,x3⟩
   have gP:i<k:=ad
   replace hC:=hC gP
   rw[if_neg (Nat.lt_irrefl i)]at hC
   by_cases he:L i=max (L b.a) (L b.b)
   ·have Cw:decide ((L i:Int)=((max (L b.a) (L b.b):Nat):Int))=true:=decide_eq_true (by rw[he])
    have eX:(fY (fun x=>if x<i then eb L b x else L x) k).set i (eN (min (L b.a) (L b.b)))=fY (fun x=>if x<i+1 then eb L b x else L x) k:=w7 gP (by rw[if_pos ad,eb,if_pos he]) fun x hx zN=>by
     by_cases h:x<i
     ·rw[if_pos h,if_pos ad]
     ·rw[if_neg h,if_neg ad]
    rw[eN]at eX hC
    (repeat(first|((repeat(revert hN;revert N;apply Pn.out));refine wk (tw @jR (tw @cg0 (tw @c0 (tw @c1 (tw @c5 (tw @c7 (tw @c8 (tw @c9 (tw @hi (tw @hC (tw @tc (tw @Cw @eX)))))))))))) ?_;(repeat(refine Pn.mk ?_;intro N hN)))|((try apply Or.inl);refine⟨_,ak.x (hMn) (sd (tw @jR (tw @cg0 (tw @c0 (tw @c1 (tw @c5 (tw @c7 (tw @c8 (tw @c9 (tw @hi (tw @hC (tw @tc (tw @Cw @eX))))))))))))),?_⟩;refine hN _ _ ?_;clear hN N)|((try apply Or.inl);refine⟨_,ak.x (hMx) (sd (tw @jR (tw @cg0 (tw @c0 (tw @c1 (tw @c5 (tw @c7 (tw @c8 (tw @c9 (tw @hi (tw @hC (tw @tc (tw @Cw @eX))))))))))))),?_⟩;refine hN _ _ ?_;clear hN N)))
    refine kF ?_ ?_ cE
    all_goals simp only[go_sem, ↓reduceIte,Nat.reduceEqDiff,Nat.reduceAdd,Nat.reduceSub,Nat.reduceLeDiff,reduceCtorEq,jR,cg0,c0,c1,c5,c7,c8,c9]
   ·have Cw:decide ((L i:Int)=((max (L b.a) (L b.b):Nat):Int))=false:=decide_eq_false fun h=>he ad
    have kZ:fY (fun x=>if x<i then eb L b x else L x) k=fY (fun x=>if x<i+1 then eb L b x else L x) k:=nI fun x hx=>by
     by_cases h:x<i
     ·rw[if_pos h,if_pos ad]
     ·by_cases zN:x=i
      ·subst zN;rw[if_neg h,if_pos ad,eb,if_neg he]
      ·rw[if_neg h,if_neg ad]
    rw[eN]at hC
    (repeat(first|((repeat(revert hN;revert N;apply Pn.out));refine wk (tw @jR (tw @cg0 (tw @c0 (tw @c1 (tw @c5 (tw @c7 (tw @c8 (tw @c9 (tw @hi (tw @hC (tw @tc @Cw))))))))))) ?_;(repeat(refine Pn.mk ?_;intro N hN)))|((try apply Or.inl);refine⟨_,ak.x (hMn) (sd (tw @jR (tw @cg0 (tw @c0 (tw @c1 (tw @c5 (tw @c7 (tw @c8 (tw @c9 (tw @hi (tw @hC (tw @tc @Cw)))))))))))),?_⟩;refine hN _ _ ?_;clear hN N)|((try apply Or.inl);refine⟨_,ak.x (hMx) (sd (tw @jR (tw @cg0 (tw @c0 (tw @c1 (tw @c5 (tw @c7 (tw @c8 (tw @c9 (tw @hi (tw @hC (tw @tc @Cw)))))))))))),?_⟩;refine hN _ _ ?_;clear hN N)))
    rw[kZ]at cg0
    refine kF ?_ ?_ cE
    all_goals simp only[go_sem, ↓reduceIte,Nat.reduceEqDiff,Nat.reduceAdd,Nat.reduceSub,Nat.reduceLeDiff,reduceCtorEq,jR,cg0,c0,c1,c5,c7,c8,c9]
  ·have yy:i=k:=ad
   subst yy
   have dy:fY (fun x=>if x<i then eb L b x else L x) i=fY (eb L b) i:=nI fun x hx=>if_pos hx
   rw[dy]at cg0
   rw[<-po]at cg0
   (try((repeat(revert hN;revert N;apply Pn.out));refine wk (tw @jR (tw @cg0 (tw @c0 (tw @c1 (tw @c5 (tw @c7 (tw @c8 (tw @c9 (tw @hi @tc))))))))) ?_;(repeat(refine Pn.mk ?_;intro N hN))))
   refine j3 ?_ ?_ cE
   all_goals simp only[go_sem, ↓reduceIte,Nat.reduceEqDiff,Nat.reduceAdd,Nat.reduceSub,Nat.reduceLeDiff,reduceCtorEq,b7,bg0,b0,b1,b5,jR,cg0,c0,c1,c5,c7,c8,c9]
 have gJ:j=bs.length:=ad
 subst gJ
 rw[List.take_length]at bg0
 have hL:=GP bs
 generalize gn bs=L at *
 have tl:=jj L k
 (try((repeat(revert hN;revert N;apply Pn.out));refine wk (tw @b7 (tw @bg0 (tw @b0 (tw @b1 (tw @b5 @hj))))) ?_;(repeat(refine Pn.mk ?_;intro N hN))))
 have RU:o.bR<st_b.next:=bI0
 refine bp (fun n env st=>∃i:Nat,n=(k)-i/\i<=(k)/\env 12=.int .i64 (i:Int)/\st.get o=some ⟨true,1,fY L k⟩/\(∃oo rows ids,env 11=.own oo 0 rows.length/\st.get oo=some ⟨true,1,rows⟩/\cW Ng st.get rows ((leads i L).map (members k L)) ids/\(∀x∈oo::ids,st_b.next<=x.bR/\x.bR<st.next)/\st_b.next<=st.next/\oo∉ids)) (k) ⟨0,ad,ad,sl (tw @b7 (tw @bg0 (tw @b0 (tw @b1 (tw @b5 (dW RU)))))),sl (tw @b7 (tw @bg0 (tw @b0 (tw @b1 (tw @b5 (dW RU)))))),⟨⟨90016000,st_b.next+1⟩,[],[],by(simp only[go_sem, ↓reduceIte,Nat.reduceEqDiff,Nat.reduceAdd,Nat.reduceSub,Nat.reduceLeDiff,reduceCtorEq])<;>rfl,sd @Nat.zero_add,.nil,fun x hx=>by rw[List.mem_singleton.1 hx];(try dsimp only);omega,cE,by simp⟩⟩ ?_
 rintro n_d env_d st_d ⟨i,rfl,dle,d12,dg0,dI0⟩ dfr
 have d0:=dfr 0 (by kernel_rfl);have d5:=dfr 5 (by kernel_rfl)
 simp only[go_sem, ↓reduceIte,Nat.reduceEqDiff,Nat.reduceAdd,Nat.reduceSub,Nat.reduceLeDiff,reduceCtorEq,b7,bg0,b0,b1,b5,dW RU]at d0 d5
 clear dfr
 obtain⟨oo,rows,ids,d11,dg,hR,l5,hle,OY⟩:=dI0
 have qq:=Bl i L
 have qp:=hR.len
 by_cases hi:(i:Int)<(k:Int)
 ·have KM:∀{e:Env} {gg:Rows} {nx:Nat},(e 12=.int .i64 (IntKind.i64.wrap ((i:Int)+1)))->(gg o=some ⟨true,1,fY L k⟩)->(∃oo rows ids,e 11=.own oo 0 rows.length/\gg oo=some ⟨true,1,rows⟩/\cW Ng gg rows ((leads (i+1) L).map (members k L)) ids/\(∀x∈oo::ids,st_b.next<=x.bR/\x.bR<nx)/\st_b.next<=nx/\oo∉ids)->∃m0,m0<(k)-i/\∃i:Nat,m0=(k)-i/\i<=(k)/\e 12=.int .i64 (i:Int)/\gg o=some ⟨true,1,fY L k⟩/\(∃oo rows ids,e 11=.own oo 0 rows.length/\gg oo=some ⟨true,1,rows⟩/\cW Ng gg rows ((leads i L).map (members k L)) ids/\(∀x∈oo::ids,st_b.next<=x.bR/\x.bR<nx)/\st_b.next<=nx/\oo∉ids):=fun x1 x2 x3=>⟨_,ad,i+1,rfl,ad,(by rw[x1,aA ad]),x2,x3⟩
  have gP:i<k:=ad
  have hC:=gW (f:=L) gP
  have qb:=dW (i:=o) (n:=st_d.next) ad
  have Pa:=dW (i:=oo) (n:=st_d.next) (l5 oo (by simp)).2
  by_cases he:L i=i
  ·rw[if_pos he]at qq
   have Cw:decide ((L i:Int)=(i:Int))=true:=decide_eq_true (by rw[he])
   rw[eN]at hC
   (try((repeat(revert hN;revert N;apply Pn.out));refine wk (tw @d12 (tw @dg0 (tw @d0 (tw @d5 (tw @d11 (tw @dg (tw @hi (tw @hC (tw @tl (tw @Cw (tw @qb @Pa))))))))))) ?_;(repeat(refine Pn.mk ?_;intro N hN))))
   refine bp (fun n env st=>∃m:Nat,n=((k-i))-m/\m<=((k-i))/\env 14=(.int .i64 ((i+m:Nat):Int))/\(∃pp:Id,env 13=.own pp 0 (members (i+m) L i).length/\st.get pp=some ⟨true,1,(members (i+m) L i).map eN⟩/\st_d.next<=pp.bR/\pp.bR<st.next/\(∀x:Id,x.bR<st_d.next->st.get x=st_d.get x)/\st_d.next<=st.next)) ((k-i)) ⟨0,ad,ad,sl (tw @d12 (tw @dg0 (tw @d0 (tw @d5 @d11)))),⟨⟨90021000,st_d.next+1+1⟩,by rw[show members (i+0) L i=[]from pE hL (Nat.le_refl i)];(simp only[go_sem, ↓reduceIte,Nat.reduceEqDiff,Nat.reduceAdd,Nat.reduceSub,Nat.reduceLeDiff,reduceCtorEq])<;>rfl,by rw[show members (i+0) L i=[]from pE hL (Nat.le_refl i)];(simp only[go_sem, ↓reduceIte,Nat.reduceEqDiff,Nat.reduceAdd,Nat.reduceSub,Nat.reduceLeDiff,reduceCtorEq])<;>rfl,cE,cE,fun x hx=>sd (dW hx),cE⟩⟩ ?_
   rintro n_f env_f st_f ⟨m,rfl,fle,f14,fI0⟩ ffr
   have f0:=ffr 0 (by kernel_rfl);have f5:=ffr 5 (by kernel_rfl);have f11:=ffr 11 (by kernel_rfl);have f12:=ffr 12 (by kernel_rfl)
   simp only[go_sem, ↓reduceIte,Nat.reduceEqDiff,Nat.reduceAdd,Nat.reduceSub,Nat.reduceLeDiff,reduceCtorEq,d12,dg0,d0,d5,d11]at f0 f5 f11 f12
   clear ffr
   obtain⟨pp,f13,fg,L2,IT,lQ,yD⟩:=fI0
   have Cy:st_f.get o=some ⟨true,1,fY L k⟩:=(lQ o ad).trans dg0
   have Ry:st_f.get oo=some ⟨true,1,rows⟩:=(lQ oo (l5 oo (by simp)).2).trans dg
   have I2:=dW IT
   have yK:=dW (i:=o) (n:=st_f.next) ad
   have Pb:=dW (i:=oo) (n:=st_f.next) (by have:=(l5 oo (by simp)).2;omega)
   have LY:members (i+(m+1)) L i=members (i+m) L i++if L (i+m)=i then[i+m]else[]:=wL (i+m) L i
   have RJ:(members (i+m) L i).length<=i+m:=by
    have:=List.length_filter_le (fun k=>L k==i) (List.range (i+m))
    simpa[members]using this
   have x1:=dE (a:=o) (b:=pp) ad
   have x2:=dE (a:=oo) (b:=pp) (by have:=(l5 oo (by simp)).2;omega)
   have x3:=dE (a:=o) (b:=oo) (by have:=(l5 oo (by simp)).1;omega)
   by_cases hm:m<k-i
   ·have KN:∀{e:Env} {gg:Rows} {nx:Nat},(e 14=(.int .i64 ((i+(m+1):Nat):Int)))->(∃pp:Id,e 13=.own pp 0 (members (i+(m+1)) L i).length/\gg pp=some ⟨true,1,(members (i+(m+1)) L i).map eN⟩/\st_d.next<=pp.bR/\pp.bR<nx/\(∀x:Id,x.bR<st_d.next->gg x=st_d.get x)/\st_d.next<=nx)->∃m0,m0<((k-i))-m/\∃m:Nat,m0=((k-i))-m/\m<=((k-i))/\e 14=(.int .i64 ((i+m:Nat):Int))/\(∃pp:Id,e 13=.own pp 0 (members (i+m) L i).length/\gg pp=some ⟨true,1,(members (i+m) L i).map eN⟩/\st_d.next<=pp.bR/\pp.bR<nx/\(∀x:Id,x.bR<st_d.next->gg x=st_d.get x)/\st_d.next<=nx):=fun x1 x2=>⟨_,ad,m+1,rfl,ad,x1,x2⟩
    have OR:((i+m:Nat):Int)<(k:Int):=ad
    have Q2:=gW (f:=L) (show i+m<k by omega)
    have hw:IntKind.i64.wrap (((i+m:Nat):Int)+1)=((i+(m+1):Nat):Int):=by rw[bP ad];omega
    rw[eN]at Q2
    by_cases hq:L (i+m)=i
    ·have jg:decide ((L (i+m):Int)=(i:Int))=true:=decide_eq_true (by rw[hq])
     rw[if_pos hq]at LY
     have e1:(members (i+m) L i).length+1<=16777216:=ad
     have fP:((members (i+m) L i).map eN).length=(members (i+m) L i).length:=by simp
     (try((repeat(revert hN;revert N;apply Pn.out));refine wk (tw @f14 (tw @f0 (tw @f5 (tw @f11 (tw @f12 (tw @f13 (tw @fg (tw @Cy (tw @OR (tw @Q2 (tw @tl (tw @jg (tw @I2 (tw @yK (tw @x1 (tw @e1 @fP)))))))))))))))) ?_;(repeat(refine Pn.mk ?_;intro N hN))))
     exact KN (sd (tw @f14 (tw @f0 (tw @f5 (tw @f11 (tw @f12 (tw @Cy (tw @hw (tw @yK @x1))))))))) (⟨⟨90026003,st_f.next+1+1⟩,by rw[LY,List.length_append];simp only[go_sem, ↓reduceIte,Nat.reduceEqDiff,Nat.reduceAdd,Nat.reduceSub,Nat.reduceLeDiff,reduceCtorEq,List.length_cons,List.length_nil],by rw[LY,List.map_append,List.map_cons,List.map_nil];simp only[go_sem, ↓reduceIte,Nat.reduceEqDiff,Nat.reduceAdd,Nat.reduceSub,Nat.reduceLeDiff,reduceCtorEq,eN],cE,cE,fun x hx=>by
      have y1:=lQ x hx
      have y2:=dE (a:=x) (b:=pp) ad
      simp only[go_sem, ↓reduceIte,Nat.reduceEqDiff,Nat.reduceAdd,Nat.reduceSub,Nat.reduceLeDiff,reduceCtorEq,dW (show x.bR<st_f.next by omega),y1,y2],cE⟩)
    ·have jg:decide ((L (i+m):Int)=(i:Int))=false:=decide_eq_false fun h=>hq ad
     rw[if_neg hq,List.append_nil]at LY
     (try((repeat(revert hN;revert N;apply Pn.out));refine wk (tw @f14 (tw @f0 (tw @f5 (tw @f11 (tw @f12 (tw @f13 (tw @fg (tw @Cy (tw @OR (tw @Q2 (tw @tl (tw @jg (tw @I2 (tw @yK @x1)))))))))))))) ?_;(repeat(refine Pn.mk ?_;intro N hN))))
     exact KN (sd (tw @f14 (tw @f0 (tw @f5 (tw @f11 (tw @f12 (tw @Cy @hw))))))) (⟨pp,by rw[LY];simp only[go_sem, ↓reduceIte,Nat.reduceEqDiff,Nat.reduceAdd,Nat.reduceSub,Nat.reduceLeDiff,reduceCtorEq,f13],by rw[LY];simp only[go_sem, ↓reduceIte,Nat.reduceEqDiff,Nat.reduceAdd,Nat.reduceSub,Nat.reduceLeDiff,reduceCtorEq,fg],L2,cE,lQ,cE⟩)
   ·have hmk:i+m=k:=ad
    have OR:¬((i+m:Nat):Int)<(k:Int):=ad
    rw[hmk]at f13 fg RJ
    have e1:rows.length+1<=16777216:=by
     have:=Eh i L
     rw[qp,List.length_map];omega
    (try((repeat(revert hN;revert N;apply Pn.out));refine wk (tw @f14 (tw @f0 (tw @f5 (tw @f11 (tw @f12 (tw @f13 (tw @fg (tw @Cy (tw @Ry (tw @OR (tw @I2 (tw @yK (tw @Pb (tw @x1 (tw @x2 @e1))))))))))))))) ?_;(repeat(refine Pn.mk ?_;intro N hN))))
    refine KM ?_ ?_ (⟨⟨90027003,st_f.next+1⟩,rows++[[.own pp 0 (members k L i).length]],ids++[pp],by rw[List.length_append];simp only[go_sem, ↓reduceIte,Nat.reduceEqDiff,Nat.reduceAdd,Nat.reduceSub,Nat.reduceLeDiff,reduceCtorEq,List.length_cons,List.length_nil],sd @Nat.zero_add,by
      rw[qq,List.map_append]
      refine(hR.frame Su fun x hx=>?_).app (.one ⟨pp,rfl,?_,rfl⟩)
      ·have h1:=l5 x (by simp[hx])
       have y1:=lQ x h1.2
       have y2:=dE (a:=x) (b:=pp) ad
       have y3:(x=oo)=False:=by
        simp only[eq_iff_iff,iff_false]
        rintro rfl
        exact OY hx
       simp only[go_sem, ↓reduceIte,Nat.reduceEqDiff,Nat.reduceAdd,Nat.reduceSub,Nat.reduceLeDiff,reduceCtorEq,dW (show x.bR<st_f.next by omega),y1,y2,y3]
      ·simp only[go_sem, ↓reduceIte,Nat.reduceEqDiff,Nat.reduceAdd,Nat.reduceSub,Nat.reduceLeDiff,reduceCtorEq,I2,x2,fg],fun x hx=>by
      rcases List.mem_cons.1 hx with rfl|hx
      ·(try dsimp only);omega
      ·rcases List.mem_append.1 hx with hx|hx
       ·have:=l5 x (by simp[hx]);(try dsimp only);omega
       ·rw[List.mem_singleton.1 hx];(try dsimp only);omega,cE,fun hc=>by
      rcases List.mem_append.1 hc with hc|hc
      ·have:=(l5 _ (List.mem_cons_of_mem _ hc)).2;(try dsimp only at this);omega
      ·have:=List.mem_singleton.1 hc;rw[<-this]at IT;(try dsimp only at IT);omega⟩)
    all_goals simp only[go_sem, ↓reduceIte,Nat.reduceEqDiff,Nat.reduceAdd,Nat.reduceSub,Nat.reduceLeDiff,reduceCtorEq,f14,f0,f5,f11,f12,Cy,yK,x3]
  ·rw[if_neg he,List.append_nil]at qq
   have Cw:decide ((L i:Int)=(i:Int))=false:=decide_eq_false fun h=>he ad
   rw[eN]at hC
   (try((repeat(revert hN;revert N;apply Pn.out));refine wk (tw @d12 (tw @dg0 (tw @d0 (tw @d5 (tw @d11 (tw @dg (tw @hi (tw @hC (tw @tl (tw @Cw (tw @qb @Pa))))))))))) ?_;(repeat(refine Pn.mk ?_;intro N hN))))
   refine KM ?_ ?_ (⟨oo,rows,ids,sd @d11,sd @dg,by rw[qq];exact hR,fun x hx=>by have:=l5 x hx;(try dsimp only);omega,cE,OY⟩)
   all_goals simp only[go_sem, ↓reduceIte,Nat.reduceEqDiff,Nat.reduceAdd,Nat.reduceSub,Nat.reduceLeDiff,reduceCtorEq,d12,dg0,d0,d5]
 ·have yy:i=k:=ad
  (try((repeat(revert hN;revert N;apply Pn.out));refine wk (tw @d12 (tw @dg0 (tw @d0 (tw @d5 (tw @d11 (tw @dg @hi)))))) ?_;(repeat(refine Pn.mk ?_;intro N hN))))
  refine CR (.inl rfl) (by simp only[go_sem, ↓reduceIte,Nat.reduceEqDiff,Nat.reduceAdd,Nat.reduceSub,Nat.reduceLeDiff,reduceCtorEq];rfl) ?_
  rw[rM dg (by simp) (rows':=(mI k L).map FV) (by rw[List.drop_zero,List.take_of_length_le (Nat.le_refl _)];rw[yy]at hR;exact Mp 3 hR)]
theorem zw (t:Int) (bs:List PB) (k:Nat) (h:k<bs.length):gE t (bs.take (k+1))=gE t (bs.take k)++if t<=(bs[k]).s then[bs[k]]else[]:=by
 unfold gE
 rw[List.take_succ_eq_append_getElem h,List.filter_append]
 congr 1
 by_cases h:t<=bs[k].s<;>simp[h]
end Go.Proofs.YtphenfakmdknlaaGreat.V

namespace Go.Proofs.YtphenfakmdknlaaGreat.V
def zW (bs:List PB) (e v:Nat):Prop:=(bL bs e).a=v∨(bL bs e).b=v
def ij (bs:List PB) (m v:Nat):List Nat:=(List.range m).filter fun i=>(bL bs i).a==v||(bL bs i).b==v
theorem pz {bs:List PB} {m v e:Nat}:e∈ij bs m v↔e<m/\zW bs e v:=by simp[ij,zW]
theorem D4 (bs:List PB) (m v:Nat):ij bs (m+1) v=ij bs m v++if (bL bs m).a=v∨(bL bs m).b=v then[m]else[]:=by
 unfold ij
 rw[List.range_succ,List.filter_append]
 congr 1
 by_cases h:(bL bs m).a=v<;>by_cases h2:(bL bs m).b=v<;>simp[h,h2]
theorem pw (bs:List PB) (m v:Nat):(ij bs m v).length<=m:=by
 have:=List.length_filter_le (fun i=>(bL bs i).a==v||(bL bs i).b==v) (List.range m)
 simpa[ij]using this
def iS (cnt:Nat) (bs:List PB):Prop:=∀e,e<bs.length->(bL bs e).a<cnt/\(bL bs e).b<cnt/\(bL bs e).a≠(bL bs e).b
theorem k8 {cnt:Nat} {bs:List PB} (h:iS cnt bs) {e v:Nat} (he:e<bs.length):bE bs e v<cnt:=by
 have:=h e he;unfold bE;split;exact this.2.1;exact this.1
theorem Hd {cnt:Nat} {bs:List PB} (h:iS cnt bs) {e v:Nat} (he:e<bs.length) (hi:zW bs e v):bE bs e v≠v:=by
 have h1:=(h e he).2.2
 unfold bE
 split
 ·rename_i ha;rw[<-ha];exact fun h=>h1 h.symm
 ·rename_i ha;rcases hi with hi|hi
  ·exact absurd hi ha
  ·rw[<-hi];exact h1
theorem uV {bs:List PB} {e v:Nat}:zW bs e (bE bs e v):=by
 unfold bE zW;split
 ·exact .inr rfl
 ·exact .inl rfl
theorem mN {cnt:Nat} {bs:List PB} (h:iS cnt bs) {e v:Nat} (he:e<bs.length) (hi:zW bs e v):bE bs e (bE bs e v)=v:=by
 have h1:=(h e he).2.2
 unfold bE
 by_cases ha:(bL bs e).a=v
 ·rw[if_pos ha,if_neg h1];exact ha
 ·rw[if_neg ha,if_pos rfl]
  rcases hi with hi|hi
  ·exact absurd hi ha
  ·exact hi
structure om (cnt:Nat) (bs:List PB) (f:Nat->Int) (y:Nat) (out:Nat->Int):Prop where
 lo:∀v,v<cnt->-1<=out v/\out v<=cnt
 first:out y=0
 zero:∀v,v<cnt->out v=0->v=y
 down:∀v,v<cnt->0<out v->∃e,e<bs.length/\zW bs e v/\0<eR bs f e v/\out (bE bs e v)=out v-1
 shut:∀e v,e<bs.length->zW bs e v->0<=out (bE bs e v)->0<eR bs f e v->0<=out v
structure xh (cnt:Nat) (bs:List PB) (f:Nat->Int) (y:Nat) (out:Nat->Int) (Q:List Nat) (i:Nat):Prop where
 nd:Q.Nodup
 lt:∀x∈Q,x<cnt
 iff:∀v,v<cnt->(0<=out v↔v∈Q)
 lo:∀v,v<cnt->-1<=out v
 first:out y=0
 up:∀j (h:j<Q.length),out Q[j]<=j
 zero:∀v,v<cnt->out v=0->v=y
 down:∀v,v<cnt->0<out v->∃e,e<bs.length/\zW bs e v/\0<eR bs f e v/\out (bE bs e v)=out v-1
 shut:∀j (h:j<Q.length),j<i->∀e,e<bs.length->zW bs e Q[j]->0<eR bs f e (bE bs e Q[j])->0<=out (bE bs e Q[j])
section
variable {cnt:Nat} {bs:List PB} {f:Nat->Int} {y:Nat} {out:Nat->Int} {Q:List Nat} {i:Nat}
theorem xh.start (hy:y<cnt):xh cnt bs f y (fun v=>if v=y then 0 else -1) [y] 0 where
 nd:=by simp
 lt:=fun x hx=>by rw[List.mem_singleton.1 hx];exact hy
 iff:=fun v _=>by
  by_cases h:v=y<;>simp[h]
 lo:=fun v _=>by split<;>omega
 first:=if_pos rfl
 up:=fun j h=>by
  have:j=0:=by simp at h;omega
  subst this;simp
 zero:=fun v _ h=>by
  by_cases hv:v=y
  ·exact hv
  ·rw[if_neg hv]at h;omega
 down:=fun v _ h=>by
  by_cases hv:v=y
  ·rw[if_pos hv]at h;omega
  ·rw[if_neg hv]at h;omega
 shut:=fun j h hj=>by omega
theorem xh.len (h:xh cnt bs f y out Q i):Q.length<=cnt:=gS cnt Q h.nd h.lt
theorem xh.visit (h:xh cnt bs f y out Q i) (ok:iS cnt bs) (hi:i<Q.length) {e:Nat} (he:e<bs.length) (nS:zW bs e Q[i]) (fW:out (bE bs e Q[i])<0) (fq:0<eR bs f e (bE bs e Q[i])):
  xh cnt bs f y (fun v=>if v=bE bs e Q[i]then out Q[i]+1 else out v) (Q++[bE bs e Q[i]]) i:=by
 have KG:0<=out Q[i]:=(h.iff _ (h.lt _ (List.getElem_mem hi))).2 (List.getElem_mem hi)
 have hq:=k8 ok (v:=Q[i]) he
 have gQ:=Hd ok he nS
 have Qo:=mN ok he nS
 have RP:bE bs e Q[i]∉Q:=fun hm=>by have:=(h.iff _ hq).2 hm;omega
 have NB:=h.up i hi
 generalize hw:bE bs e Q[i]=w at *
 have qv:∀v,0<=out v->(if v=w then out Q[i]+1 else out v)=out v:=fun v hv=>by
  rw[if_neg];rintro rfl;omega
 have mono:∀v,0<=out v->0<=(if v=w then out Q[i]+1 else out v):=fun v hv=>by rw[qv v hv];exact hv
 refine⟨?_,?_,?_,?_,?_,?_,?_,?_,?_⟩
 ·rw[List.nodup_append]
  exact⟨h.nd,by simp,fun a ha b hb=>by rw[List.mem_singleton.1 hb];rintro rfl;exact RP ha⟩
 ·intro x hx
  rcases List.mem_append.1 hx with hx|hx
  ·exact h.lt x hx
  ·rw[List.mem_singleton.1 hx];exact hq
 ·intro v hv
  by_cases zL:v=w
  ·subst zL;simp;omega
  ·rw[if_neg zL,h.iff v hv];simp[zL]
 ·intro v hv
  by_cases zL:v=w
  ·rw[if_pos zL];omega
  ·rw[if_neg zL];exact h.lo v hv
 ·rw[qv y (by rw[h.first];exact Int.le_refl _)];exact h.first
 ·intro j hj
  by_cases gJ:j<Q.length
  ·rw[List.getElem_append_left gJ,qv _ ((h.iff _ (h.lt _ (List.getElem_mem gJ))).2 (List.getElem_mem gJ))]
   exact h.up j gJ
  ·have IP:j=Q.length:=by simp at hj;omega
   subst IP
   simp
   omega
 ·intro v hv h0
  by_cases zL:v=w
  ·rw[if_pos zL]at h0;omega
  ·rw[if_neg zL]at h0;exact h.zero v hv h0
 ·intro v hv h0
  by_cases zL:v=w
  ·subst zL
   rw[if_pos rfl]
   refine⟨e,he,by rw[<-hw];exact uV,fq,?_⟩
   rw[Qo,qv _ KG];omega
  ·rw[if_neg zL]at h0 ⊢
   obtain⟨e',h1,h2,h3,h4⟩:=h.down v hv h0
   exact⟨e',h1,h2,h3,by rw[qv _ ad];exact h4⟩
 ·intro j hj lR e' IK Kr hr
  have gJ:j<Q.length:=ad
  rw[List.getElem_append_left gJ]at Kr hr ⊢
  exact mono _ (h.shut j gJ lR e' IK Kr hr)
theorem xh.next (h:xh cnt bs f y out Q i) (hi:i<Q.length) (hs:∀e∈ij bs bs.length Q[i],0<eR bs f e (bE bs e Q[i])->0<=out (bE bs e Q[i])):xh cnt bs f y out Q (i+1):=
 ⟨h.nd,h.lt,h.iff,h.lo,h.first,h.up,h.zero,h.down,fun j hj lR e he nS hr=>by
  by_cases IP:j=i
  ·subst IP;exact hs e (pz.2 ⟨he,nS⟩) hr
  ·exact h.shut j hj ad e he nS hr⟩
theorem xh.done (h:xh cnt bs f y out Q i) (ok:iS cnt bs) (hi:Q.length<=i):om cnt bs f y out where
 lo:=fun v hv=>⟨h.lo v hv,by
  by_cases h0:0<=out v
  ·obtain⟨j,hj,rfl⟩:=List.getElem_of_mem ((h.iff v hv).1 h0)
   have:=h.up j hj
   have:=h.len
   omega
  ·omega⟩
 first:=h.first
 zero:=h.zero
 down:=h.down
 shut:=fun e v he nS h0 hr=>by
  obtain⟨j,hj,Nw⟩:=List.getElem_of_mem ((h.iff _ (k8 ok he)).1 h0)
  have h2:=h.shut j hj ad e he (by rw[Nw];exact uV)
  rw[Nw,mN ok he nS]at h2
  exact h2 hr
end
end Go.Proofs.YtphenfakmdknlaaGreat.V

namespace Go.Proofs.YtphenfakmdknlaaGreat.V
open Go.RowKit
attribute [local irreducible] dJ wpOps e8 Call
attribute [local go_sem] ax eB dY eJ eI cJ upd bD K.av bW AV.cells AV.cell rowOf rowsOf part ld rowAt bC bx cU de fj bf cC dv eO er cL dm cw cu cZ da bl aI bZ bj ck cj di dn dj bY bo cz dh bh au cq bJ fh aT bV bm aH cS aQ cV AV.undef aV bc db dd cY dc bQ du dw bG dq dp cm cr List.getD_cons_zero List.getD_cons_succ List.getD_nil List.all_cons List.all_nil Bool.and_true Bool.true_and Bool.and_self Bool.not_true Bool.not_false Option.map_some Option.map_none Option.bind_some Option.bind_none List.length_cons List.length_nil List.take_succ_cons List.take_zero List.take_nil List.drop_succ_cons List.drop_zero List.drop_nil List.head?_cons List.map_cons List.map_nil List.getElem?_cons_zero List.getElem?_cons_succ List.cons_append List.nil_append List.append_nil List.length_map List.set_cons_zero List.set_cons_succ Nat.reduceMul eq_self Int.toNat_natCast Int.natCast_nonneg and_self true_and and_true decide_true decide_false Bool.false_eq_true Nat.zero_add Nat.add_zero List.contains_cons List.contains_nil Bool.or_false Bool.false_or beq_self_eq_true Nat.reduceBEq ne_eq not_true_eq_false not_false_eq_true Id.mk.injEq false_and and_false Nat.reduceLT Int.reduceLE Int.reduceLT Int.reduceToNat Int.reduceNeg Int.reduceAdd Nat.le_refl List.length_append beq_true beq_false Bool.not_eq_eq_eq_not or_false false_or dG ab ae az aU bu aC aP aE aJ cD aX
def kz (P:Program) (f:Nat) (args:List AV) (R:AV->Prop):Prop:=∀n:Nat,Call P f args ⟨fun _=>none,n⟩ fun r0 σ'=>∃r',fu σ'.get 6 r0=some r'/\R r'
theorem DI {P:Program} {f:Nat} {args eA:List AV} {g:Rows} {n:Nat} {R:AV->Prop} (hv:cR (dG g) 6 args=some eA) (h:Sound P f eA ⟨fun _=>none,n⟩ fun r0 σ'=>∃r',fu σ'.get 6 r0=some r'/\R r'):Sound P f args ⟨g,n⟩ fun r σ'=>R r/\σ'=⟨g,n⟩:=by
 intro hs D ι w vs S U A
 refine(uk (g0:=g) (K:=R) ⟨eA,hv,h⟩ (fun _ _ h=>h) S U A).mono ?_
 rintro e w' ⟨r,D',u,rfl,hR,T,S',hr⟩
 exact⟨r,g,n,D',ι,u,rfl,⟨hR,rfl⟩,T,S',U,Nat.le_refl _,hr⟩
theorem kz.x {P:Program} (hm:P.follows .mixedOrders=true) {f:Nat} {args eA:List AV} {R:AV->Prop} (h:kz P f eA R) {σ:ar} (hv:cR (dG σ.get) 6 args=some eA):Call P f args σ fun r σ'=>R r/\σ'=σ:=
 gr (DI hv (gw hm (h σ.next)))
theorem kz.body {P:Program} {f:Nat} {args:List AV} {R:AV->Prop} {nt na:Nat} {body:VC} {res:List nO} (hf:lN P f=some ⟨nt,na,body,res⟩) (ha:na=args.length) (h:(∀a∈args,ep a)->∀n:Nat,dJ (Call P) body (kr res fun r0 σ'=>∃r',fu σ'.get 6 r0=some r'/\R r') (bD args) ⟨fun _=>none,n⟩):kz P f args R:=fun n=>kR hf ha fun hl=>h hl n
def dP (f:Nat->Int) (n:Nat):List (List AV):=(List.range n).map fun i=>aM (f i)
theorem dF (f:Nat->Int) (n:Nat):(dP f n).length=n:=by simp[dP]
theorem dL {f:Nat->Int} {n i:Nat} (h:i<n):(dP f n)[i]? =some (aM (f i)):=by simp[dP,h]
theorem kc {f g:Nat->Int} {n k:Nat} {v:Int} (hk:k<n) (hv:g k=v) (h:∀i,i<n->i≠k->g i=f i):(dP f n).set k (aM v)=dP g n:=by
 refine List.ext_getElem? fun i=>?_
 rw[List.getElem?_set]
 by_cases hi:k=i
 ·subst hi
  rw[if_pos rfl,dF,if_pos hk,dL hk,hv]
 ·rw[if_neg hi]
  by_cases gP:i<n
  ·rw[dL gP,dL gP,h i gP (fun h=>hi h.symm)]
  ·rw[List.getElem?_eq_none (by rw[dF];omega),List.getElem?_eq_none (by rw[dF];omega)]
theorem EX (f:Nat->Int) (n:Nat):dP f (n+1)=dP f n++[aM (f n)]:=by simp[dP,List.range_succ]
theorem fzI (g:Rows) (n:Nat) (a:Int):cR g (n+1) (aM a)=some (aM a):=by simp[aM,ab,ae,az]
theorem QX (g:Rows) (n:Nat) (a:Int):dM g (n+1) (aM a)=some (aM a):=by simp[aM,cN,dC,fV]
theorem HE {g:Rows} {f:Nat->Int} {n m:Nat}:fx g (m+1) (dP f n)=some (dP f n):=by
 have:dP f n=((List.range n).map f).map aM:=by simp[dP]
 rw[this];exact rb fun x=>QX g m x
theorem w6 {g:Rows} {f:Nat->Int} {n m:Nat}:dK g (m+1) (dP f n)=some (dP f n):=by
 have:dP f n=((List.range n).map f).map aM:=by simp[dP]
 rw[this];exact oH fun x=>fzI g m x
def MG (l:List Nat):AV:=if l=[]then .cK else .sl (l.map eN)
def ot (cnt:Nat) (bs:List PB) (m:Nat):List (List AV):=(List.range cnt).map fun v=>[MG (ij bs m v)]
theorem Aa {cnt:Nat} {bs:List PB} {m v:Nat} (h:v<cnt):(ot cnt bs m)[v]? =some [MG (ij bs m v)]:=by simp[ot,h]
def fm (cnt:Nat) (bs:List PB) (f:Nat->Int):List AV:=[.int .i64 cnt,.sl (bs.map aZ),.sl (ot cnt bs bs.length),.sl (dP f bs.length)]
theorem rI {bs:List PB} {e:Nat} (h:e<bs.length):(bs.map aZ)[e]? =some (aZ (bL bs e)):=getD_map aZ h
def Small (bs:List PB) (f:Nat->Int):Prop:=∀e,e<bs.length->(0<=(bL bs e).s/\(bL bs e).s<=4)/\-4<=f e/\f e<=4
theorem Ho (cnt:Nat) (bs:List PB) (f:Nat->Int) (hs:Small bs f) (e v:Nat) (he:e<bs.length):ak Tryz.prog 322 [.dI (fm cnt bs f),.int .i64 v,.int .i64 e] (.im [.int .i64 (eR bs f e v),.int .i64 (bE bs e v)]):=by
 refine ak.body eL rfl fun hl n0=>?_
 clear hl
 have hb:=rI he
 have hf:=dL (f:=f) he
 obtain⟨⟨s0,s1⟩,s2,s3⟩:=hs e he
 have w1:IntKind.i64.wrap ((bL bs e).s-f e)=(bL bs e).s-f e:=bP ad
 have w2:IntKind.i64.wrap ((bL bs e).s+f e)=(bL bs e).s+f e:=bP ad
 unfold eR bE
 generalize bL bs e=b at *
 by_cases h:b.a=v
 ·have hd:decide ((b.a:Int)=(v:Int))=true:=decide_eq_true (by rw[h])
  (try((repeat(revert hN;revert N;apply Pn.out));refine wk (tw @fm.eq_1 (tw @hb (tw @hf (tw @aZ.eq_1 (tw @aM.eq_1 (tw @hd (tw @w1 @w2))))))) ?_;(repeat(refine Pn.mk ?_;intro N hN))))
  refine uZ (.inl rfl) (by simp only[go_sem, ↓reduceIte,Nat.reduceEqDiff,Nat.reduceAdd,Nat.reduceSub,Nat.reduceLeDiff,reduceCtorEq];rfl) (by simp only[go_sem, ↓reduceIte,Nat.reduceEqDiff,Nat.reduceAdd,Nat.reduceSub,Nat.reduceLeDiff,reduceCtorEq];rfl) ?_
  simp only[lr,cN,dC,fV,Option.map_some,if_pos h]
 ·have hd:decide ((b.a:Int)=(v:Int))=false:=decide_eq_false fun hc=>h ad
  (try((repeat(revert hN;revert N;apply Pn.out));refine wk (tw @fm.eq_1 (tw @hb (tw @hf (tw @aZ.eq_1 (tw @aM.eq_1 (tw @hd (tw @w1 @w2))))))) ?_;(repeat(refine Pn.mk ?_;intro N hN))))
  refine uZ (.inl rfl) (by simp only[go_sem, ↓reduceIte,Nat.reduceEqDiff,Nat.reduceAdd,Nat.reduceSub,Nat.reduceLeDiff,reduceCtorEq];rfl) (by simp only[go_sem, ↓reduceIte,Nat.reduceEqDiff,Nat.reduceAdd,Nat.reduceSub,Nat.reduceLeDiff,reduceCtorEq];rfl) ?_
  simp only[lr,cN,dC,fV,Option.map_some,if_neg h]
theorem CX (cnt:Nat) (hn:cnt<=1048576) (bs:List PB) (ok:iS cnt bs) (re:bs.length<=1048576) (f:Nat->Int) (hs:Small bs f) (y:Nat) (hy:y<cnt):
  kz Tryz.prog 280 [.dI (fm cnt bs f),.int .i64 y] fun r=>∃out,r=.sl (dP out cnt)/\om cnt bs f y out:=by
 refine kz.body eL rfl fun hl n0=>?_
 clear hl
 (try((repeat(revert hN;revert N;apply Pn.out));refine wk @fm.eq_1 ?_;(repeat(refine Pn.mk ?_;intro N hN))))
 refine bp (fun n env st=>∃k:Nat,n=(cnt)-k/\k<=(cnt)/\env 6=.int .i64 (k:Int)/\(∃o:Id,env 5=.own o 0 k/\st.get o=some ⟨true,1,dP (fun _=>-1) k⟩/\o.bR<st.next)) (cnt) ⟨0,ad,ad,sl @fm.eq_1,⟨⟨280001000,n0+1⟩,by(simp only[go_sem, ↓reduceIte,Nat.reduceEqDiff,Nat.reduceAdd,Nat.reduceSub,Nat.reduceLeDiff,reduceCtorEq])<;>rfl,by(simp only[go_sem, ↓reduceIte,Nat.reduceEqDiff,Nat.reduceAdd,Nat.reduceSub,Nat.reduceLeDiff,reduceCtorEq])<;>rfl,cE⟩⟩ ?_
 rintro n_a env_a st_a ⟨k,rfl,ale,a6,aI0⟩ dt
 have a0:=dt 0 (by kernel_rfl);have a1:=dt 1 (by kernel_rfl)
 simp only[go_sem, ↓reduceIte,Nat.reduceEqDiff,Nat.reduceAdd,Nat.reduceSub,Nat.reduceLeDiff,reduceCtorEq,fm]at a0 a1
 clear dt
 obtain⟨o,a5,ag,uL⟩:=aI0
 have tl:=dF (fun _=>-1) k
 have p9:=dW uL
 by_cases hk:(k:Int)<(cnt:Int)
 ·have bK:∀{e:Env} {gg:Rows} {nx:Nat},(e 6=.int .i64 (IntKind.i64.wrap ((k:Int)+1)))->(∃o:Id,e 5=.own o 0 (k+1)/\gg o=some ⟨true,1,dP (fun _=>-1) (k+1)⟩/\o.bR<nx)->∃m0,m0<(cnt)-k/\∃k:Nat,m0=(cnt)-k/\k<=(cnt)/\e 6=.int .i64 (k:Int)/\(∃o:Id,e 5=.own o 0 k/\gg o=some ⟨true,1,dP (fun _=>-1) k⟩/\o.bR<nx):=fun x1 x2=>⟨_,ad,k+1,rfl,ad,(by rw[x1,aA ad]),x2⟩
  have e1:k+1<=16777216:=ad
  have qq:dP (fun _=>-1) k++[[.int .i64 (-1)]]=dP (fun _=>-1) (k+1):=(EX _ _).symm
  (try((repeat(revert hN;revert N;apply Pn.out));refine wk (tw @a6 (tw @a0 (tw @a1 (tw @a5 (tw @ag (tw @p9 (tw @hk (tw @tl (tw @e1 (tw @qq @fm.eq_1)))))))))) ?_;(repeat(refine Pn.mk ?_;intro N hN))))
  exact bK (sd (tw @a6 (tw @a0 (tw @a1 @fm.eq_1)))) (⟨⟨280005002,st_a.next+1⟩,sd @Nat.zero_add,sd @qq,cE⟩)
 have jz:k=cnt:=ad
 subst jz
 have Qu:(y:Int)<(k:Int):=ad
 have hym:=dL (f:=fun _=>-1) hy
 have yG:(dP (fun _=>-1) k).set y (aM 0)=dP (fun v=>if v=y then 0 else -1) k:=kc hy (if_pos rfl) fun i _ hi=>if_neg hi
 rw[aM]at yG hym
 (try((repeat(revert hN;revert N;apply Pn.out));refine wk (tw @a6 (tw @a0 (tw @a1 (tw @a5 (tw @ag (tw @p9 (tw @hk (tw @tl (tw @Qu (tw @hym (tw @yG @fm.eq_1))))))))))) ?_;(repeat(refine Pn.mk ?_;intro N hN))))
 refine bp (fun m env st=>∃(i:Nat) (out:Nat->Int) (Q:List Nat) (p:Id),m=k-i/\env 8=.int .i64 (i:Int)/\env 7=.own p 0 Q.length/\st.get p=some ⟨true,1,Q.map eN⟩/\st.get o=some ⟨true,1,dP out k⟩/\o.bR<p.bR/\p.bR<st.next/\xh k bs f y out Q i/\i<=Q.length) k ⟨0,_,[y],⟨280007001,st_a.next+1+1⟩,ad,by(simp only[go_sem, ↓reduceIte,Nat.reduceEqDiff,Nat.reduceAdd,Nat.reduceSub,Nat.reduceLeDiff,reduceCtorEq])<;>rfl,by(simp only[go_sem, ↓reduceIte,Nat.reduceEqDiff,Nat.reduceAdd,Nat.reduceSub,Nat.reduceLeDiff,reduceCtorEq])<;>rfl,by(simp only[go_sem, ↓reduceIte,Nat.reduceEqDiff,Nat.reduceAdd,Nat.reduceSub,Nat.reduceLeDiff,reduceCtorEq])<;>rfl,sd @p9,cE,cE,xh.start hy,by simp⟩ ?_
 rintro n env_b st_b ⟨i,out,Q,p,rfl,b8,b7,bgp,bgo,dX,R3,hB,hiq⟩ bfr
 have b0:=bfr 0 (by kernel_rfl)
 have b5:=bfr 5 (by kernel_rfl)
 simp only[go_sem, ↓reduceIte,Nat.reduceEqDiff,Nat.reduceAdd,Nat.reduceSub,Nat.reduceLeDiff,reduceCtorEq,a6,a0,a1,a5,fm]at b0 b5
 clear bfr
 have hql:=hB.len
 have Qz:=dF out k
 have hqm:(Q.map eN).length=Q.length:=by simp
 have I2:=dW R3
 have qb:=dW (i:=o) (n:=st_b.next) ad
 by_cases hi:(i:Int)<(Q.length:Int)
 ·have gP:i<Q.length:=ad
  have xn:(Q.map eN)[i]? =some (eN Q[i]):=by simp[gP]
  have KG:=hB.lt _ (List.getElem_mem gP)
  obtain⟨vt,Mb⟩:∃vt,vt=Q[i]:=⟨_,rfl⟩
  rw[<-Mb]at xn KG
  have hA:=Aa (cnt:=k) (bs:=bs) (m:=bs.length) KG
  have KF:(vt:Int)<(k:Int):=ad
  have rQ:=pw bs bs.length vt
  have hme:∀x,x<(ij bs bs.length vt).length->(ij bs bs.length vt).getD x 0<bs.length/\zW bs ((ij bs bs.length vt).getD x 0) vt:=fun x hx=>by
   rw[List.getD_eq_getElem?_getD,List.getElem?_eq_getElem hx]
   exact pz.1 (List.getElem_mem hx)
  have hmx:∀e∈ij bs bs.length vt,∃x,x<(ij bs bs.length vt).length/\(ij bs bs.length vt).getD x 0=e:=fun e he=>by
   obtain⟨x,hx,rfl⟩:=List.getElem_of_mem he
   exact⟨x,hx,by rw[List.getD_eq_getElem?_getD,List.getElem?_eq_getElem hx];rfl⟩
  generalize hIn:ij bs bs.length vt=I at *
  unfold MG at hA
  by_cases Q7:I=[]
  ·rw[if_pos Q7]at hA
   have hI1:I.length=0:=by rw[Q7];rfl
   (try((repeat(revert hN;revert N;apply Pn.out));refine wk (tw @b0 (tw @b5 (tw @b7 (tw @b8 (tw @bgp (tw @hi (tw @xn (tw @hqm (tw @eN.eq_1 @fm.eq_1))))))))) ?_;(repeat(refine Pn.mk ?_;intro N hN))))
   refine bp (fun n env st=>∃x:Nat,n=(I.length)-x/\x<=(I.length)/\env 10=.int .i64 (x:Int)/\(∃(gU:Nat->Int) (Q':List Nat) (p':Id),env 7=.own p' 0 Q'.length/\st.get p'=some ⟨true,1,Q'.map eN⟩/\st.get o=some ⟨true,1,dP gU k⟩/\o.bR<p'.bR/\p'.bR<st.next/\xh k bs f y gU Q' i/\(∃h:i<Q'.length,Q'[i]=vt)/\(∀z,z<x->0<eR bs f (I.getD z 0) (bE bs (I.getD z 0) vt)->0<=gU (bE bs (I.getD z 0) vt)))) (I.length) ⟨0,ad,ad,sl (tw @b0 (tw @b5 (tw @b8 @fm.eq_1))),⟨out,Q,p,sd @b7,sd @bgp,sd @bgo,dX,cE,hB,⟨gP,Mb.symm⟩,fun z hz=>ad⟩⟩ ?_
   rintro n_c env_c st_c ⟨x,rfl,cle,jR,cI0⟩ cfr
   have c0:=cfr 0 (by kernel_rfl);have c5:=cfr 5 (by kernel_rfl);have c8:=cfr 8 (by kernel_rfl);have c9:=cfr 9 (by kernel_rfl)
   simp only[go_sem, ↓reduceIte,Nat.reduceEqDiff,Nat.reduceAdd,Nat.reduceSub,Nat.reduceLeDiff,reduceCtorEq,b0,b5,b8,fm]at c0 c5 c8 c9
   clear cfr
   obtain⟨gU,Q',p',c7,FQ,ux,AY,L3,dH,⟨tX,oM⟩,DT⟩:=cI0
   have R4:=dH.len
   have MN:=dF gU k
   have L4:(Q'.map eN).length=Q'.length:=by simp
   have wm:=dW L3
   have k5:=dW (i:=o) (n:=st_c.next) ad
   have x1:=dE AY
   have hx:¬(x:Int)<((0:Nat):Int):=ad
   have hxe:x=I.length:=ad
   have hw:IntKind.i64.wrap ((i:Int)+1)=((i+1:Nat):Int):=aA ad
   (try((repeat(revert hN;revert N;apply Pn.out));refine wk (tw @jR (tw @c0 (tw @c5 (tw @c8 (tw @c9 (tw @c7 (tw @hx (tw @hA (tw @KF @fm.eq_1))))))))) ?_;(repeat(refine Pn.mk ?_;intro N hN))))
   refine⟨_,?_,i+1,gU,Q',p',rfl,sd (tw @jR (tw @c0 (tw @c5 (tw @c8 (tw @c9 @hw))))),sd @c7,sd @FQ,sd @ux,AY,cE,dH.next tX fun e he hr=>?_,ad⟩
   ·omega
   ·rw[oM,hIn]at he
    rw[oM]at hr ⊢
    obtain⟨z,hz,rfl⟩:=hmx e he
    exact DT z ad hr
  ·rw[if_neg Q7]at hA
   have oI:(I.map eN).length=I.length:=by simp
   (try((repeat(revert hN;revert N;apply Pn.out));refine wk (tw @b0 (tw @b5 (tw @b7 (tw @b8 (tw @bgp (tw @hi (tw @xn (tw @hqm (tw @eN.eq_1 @fm.eq_1))))))))) ?_;(repeat(refine Pn.mk ?_;intro N hN))))
   refine bp (fun n env st=>∃x:Nat,n=(I.length)-x/\x<=(I.length)/\env 10=.int .i64 (x:Int)/\(∃(gU:Nat->Int) (Q':List Nat) (p':Id),env 7=.own p' 0 Q'.length/\st.get p'=some ⟨true,1,Q'.map eN⟩/\st.get o=some ⟨true,1,dP gU k⟩/\o.bR<p'.bR/\p'.bR<st.next/\xh k bs f y gU Q' i/\(∃h:i<Q'.length,Q'[i]=vt)/\(∀z,z<x->0<eR bs f (I.getD z 0) (bE bs (I.getD z 0) vt)->0<=gU (bE bs (I.getD z 0) vt)))) (I.length) ⟨0,ad,ad,sl (tw @b0 (tw @b5 (tw @b8 @fm.eq_1))),⟨out,Q,p,sd @b7,sd @bgp,sd @bgo,dX,cE,hB,⟨gP,Mb.symm⟩,fun z hz=>ad⟩⟩ ?_
   rintro n_c env_c st_c ⟨x,rfl,cle,jR,cI0⟩ cfr
   have c0:=cfr 0 (by kernel_rfl);have c5:=cfr 5 (by kernel_rfl);have c8:=cfr 8 (by kernel_rfl);have c9:=cfr 9 (by kernel_rfl)
   simp only[go_sem, ↓reduceIte,Nat.reduceEqDiff,Nat.reduceAdd,Nat.reduceSub,Nat.reduceLeDiff,reduceCtorEq,b0,b5,b8,fm]at c0 c5 c8 c9
   clear cfr
   obtain⟨gU,Q',p',c7,FQ,ux,AY,L3,dH,⟨tX,oM⟩,DT⟩:=cI0
   have R4:=dH.len
   have MN:=dF gU k
   have L4:(Q'.map eN).length=Q'.length:=by simp
   have wm:=dW L3
   have k5:=dW (i:=o) (n:=st_c.next) ad
   have x1:=dE AY
   by_cases hx:(x:Int)<(I.length:Int)
   ·have kF:∀{e:Env} {gg:Rows} {nx:Nat},(e 10=.int .i64 (IntKind.i64.wrap ((x:Int)+1)))->(∃(gU:Nat->Int) (Q':List Nat) (p':Id),e 7=.own p' 0 Q'.length/\gg p'=some ⟨true,1,Q'.map eN⟩/\gg o=some ⟨true,1,dP gU k⟩/\o.bR<p'.bR/\p'.bR<nx/\xh k bs f y gU Q' i/\(∃h:i<Q'.length,Q'[i]=vt)/\(∀z,z<(x+1)->0<eR bs f (I.getD z 0) (bE bs (I.getD z 0) vt)->0<=gU (bE bs (I.getD z 0) vt)))->∃m0,m0<(I.length)-x/\∃x:Nat,m0=(I.length)-x/\x<=(I.length)/\e 10=.int .i64 (x:Int)/\(∃(gU:Nat->Int) (Q':List Nat) (p':Id),e 7=.own p' 0 Q'.length/\gg p'=some ⟨true,1,Q'.map eN⟩/\gg o=some ⟨true,1,dP gU k⟩/\o.bR<p'.bR/\p'.bR<nx/\xh k bs f y gU Q' i/\(∃h:i<Q'.length,Q'[i]=vt)/\(∀z,z<x->0<eR bs f (I.getD z 0) (bE bs (I.getD z 0) vt)->0<=gU (bE bs (I.getD z 0) vt))):=fun x1 x2=>⟨_,ad,x+1,rfl,ad,(by rw[x1,aA ad]),x2⟩
    have hxn:x<I.length:=ad
    have LD:(I.map eN)[x]? =some (eN (I.getD x 0)):=getD_map eN hxn
    obtain⟨he,nS⟩:=hme x hxn
    obtain⟨e,Qi⟩:∃e,e=I.getD x 0:=⟨_,rfl⟩
    rw[<-Qi]at LD he nS
    have gO:=rI he
    have hq:=k8 ok (v:=vt) he
    have Qo:=mN ok he nS
    have L5:=Ho k bs f hs e (bE bs e vt) he
    have OB:=ok e he
    have pq:IntKind.i64.wrap (((bL bs e).a:Int)+((bL bs e).b:Int))=((bL bs e).a:Int)+((bL bs e).b:Int):=bP ad
    have wo:IntKind.i64.wrap (((bL bs e).a:Int)+((bL bs e).b:Int)-(vt:Int))=(bE bs e vt:Int):=by
     rw[bP ad]
     unfold bE
     rcases nS with h1|h1
     ·rw[if_pos h1];omega
     ·rw[if_neg fun h2=>OB.2.2 (h2.trans h1.symm)];omega
    have NA:(bE bs e vt:Int)<(k:Int):=ad
    have LP:=dL (f:=gU) hq
    have wc:=dL (f:=gU) KG
    rw[fm]at L5
    have NB:=dH.up i tX
    rw[oM]at NB
    have jH:=dH.lo vt KG
    have Pe:IntKind.i64.wrap (gU vt+1)=gU vt+1:=bP ad
    rw[aM]at LP wc
    generalize tV:bL bs e=b at *
    by_cases fW:gU (bE bs e vt)<0
    ·by_cases fq:0<eR bs f e (bE bs e vt)
     ·have hV:=dH.visit ok tX (e:=e) he (by rw[oM];exact nS) (by rw[oM];exact fW) (by rw[oM];exact fq)
      rw[oM]at hV
      have eX:(dP gU k).set (bE bs e vt) (aM (gU vt+1))=dP (fun v=>if v=bE bs e vt then gU vt+1 else gU v) k:=kc hq (if_pos rfl) fun v _ hv=>if_neg hv
      rw[aM]at eX
      have e1:Q'.length+1<=16777216:=ad
      (repeat(first|((repeat(revert hN;revert N;apply Pn.out));refine wk (tw @jR (tw @c0 (tw @c5 (tw @c8 (tw @c9 (tw @c7 (tw @FQ (tw @ux (tw @hx (tw @hA (tw @oI (tw @LD (tw @KF (tw @gO (tw @pq (tw @wo (tw @NA (tw @LP (tw @wc (tw @fW (tw @fq (tw @Pe (tw @eX (tw @L4 (tw @MN (tw @wm (tw @k5 (tw @x1 (tw @e1 (tw @eN.eq_1 (tw @aZ.eq_1 @fm.eq_1))))))))))))))))))))))))))))))) ?_;(repeat(refine Pn.mk ?_;intro N hN)))|((try apply Or.inl);refine⟨_,ak.x (L5) (sd (tw @jR (tw @c0 (tw @c5 (tw @c8 (tw @c9 (tw @c7 (tw @FQ (tw @ux (tw @hx (tw @hA (tw @oI (tw @LD (tw @KF (tw @gO (tw @pq (tw @wo (tw @NA (tw @LP (tw @wc (tw @fW (tw @fq (tw @Pe (tw @eX (tw @L4 (tw @MN (tw @wm (tw @k5 (tw @x1 (tw @e1 (tw @eN.eq_1 (tw @aZ.eq_1 @fm.eq_1)))))))))))))))))))))))))))))))),?_⟩;refine hN _ _ ?_;clear hN N)))
      exact kF (sd (tw @jR (tw @c0 (tw @c5 (tw @c8 @c9))))) (⟨_,Q'++[bE bs e vt],⟨280020003,st_c.next+1+1+1+1+1+1⟩,by rw[List.length_append];simp only[go_sem, ↓reduceIte,Nat.reduceEqDiff,Nat.reduceAdd,Nat.reduceSub,Nat.reduceLeDiff,reduceCtorEq,List.length_cons,List.length_nil],by rw[List.map_append,List.map_cons,List.map_nil];simp only[go_sem, ↓reduceIte,Nat.reduceEqDiff,Nat.reduceAdd,Nat.reduceSub,Nat.reduceLeDiff,reduceCtorEq,eN],sd (tw @k5 @x1),cE,cE,hV,⟨by simp;omega,by rw[List.getElem_append_left tX];exact oM⟩,fun z hz hr=>by
       by_cases Pm:z=x
       ·subst Pm
        rw[<-Qi,if_pos rfl]
        have:=(dH.iff vt KG).2 (by rw[<-oM];exact List.getElem_mem tX)
        omega
       ·have:=DT z ad hr
        split
        ·have:=(dH.iff vt KG).2 (by rw[<-oM];exact List.getElem_mem tX)
         omega
        ·exact this⟩)
     ·(repeat(first|((repeat(revert hN;revert N;apply Pn.out));refine wk (tw @jR (tw @c0 (tw @c5 (tw @c8 (tw @c9 (tw @c7 (tw @FQ (tw @ux (tw @hx (tw @hA (tw @oI (tw @LD (tw @KF (tw @gO (tw @pq (tw @wo (tw @NA (tw @LP (tw @fW (tw @fq (tw @MN (tw @wm (tw @k5 (tw @x1 (tw @eN.eq_1 (tw @aZ.eq_1 @fm.eq_1)))))))))))))))))))))))))) ?_;(repeat(refine Pn.mk ?_;intro N hN)))|((try apply Or.inl);refine⟨_,ak.x (L5) (sd (tw @jR (tw @c0 (tw @c5 (tw @c8 (tw @c9 (tw @c7 (tw @FQ (tw @ux (tw @hx (tw @hA (tw @oI (tw @LD (tw @KF (tw @gO (tw @pq (tw @wo (tw @NA (tw @LP (tw @fW (tw @fq (tw @MN (tw @wm (tw @k5 (tw @x1 (tw @eN.eq_1 (tw @aZ.eq_1 @fm.eq_1))))))))))))))))))))))))))),?_⟩;refine hN _ _ ?_;clear hN N)))
      exact kF (sd (tw @jR (tw @c0 (tw @c5 (tw @c8 @c9))))) (⟨gU,Q',p',sd @c7,sd (tw @FQ @wm),sd (tw @ux @k5),AY,cE,dH,⟨tX,oM⟩,fun z hz hr=>by
       by_cases Pm:z=x
       ·subst Pm;rw[<-Qi]at hr;exact absurd hr fq
       ·exact DT z ad hr⟩)
    ·(repeat(first|((repeat(revert hN;revert N;apply Pn.out));refine wk (tw @jR (tw @c0 (tw @c5 (tw @c8 (tw @c9 (tw @c7 (tw @FQ (tw @ux (tw @hx (tw @hA (tw @oI (tw @LD (tw @KF (tw @gO (tw @pq (tw @wo (tw @NA (tw @LP (tw @fW (tw @MN (tw @wm (tw @k5 (tw @x1 (tw @eN.eq_1 (tw @aZ.eq_1 @fm.eq_1))))))))))))))))))))))))) ?_;(repeat(refine Pn.mk ?_;intro N hN)))|((try apply Or.inl);refine⟨_,ak.x (L5) (sd (tw @jR (tw @c0 (tw @c5 (tw @c8 (tw @c9 (tw @c7 (tw @FQ (tw @ux (tw @hx (tw @hA (tw @oI (tw @LD (tw @KF (tw @gO (tw @pq (tw @wo (tw @NA (tw @LP (tw @fW (tw @MN (tw @wm (tw @k5 (tw @x1 (tw @eN.eq_1 (tw @aZ.eq_1 @fm.eq_1)))))))))))))))))))))))))),?_⟩;refine hN _ _ ?_;clear hN N)))
     exact kF (sd (tw @jR (tw @c0 (tw @c5 (tw @c8 @c9))))) (⟨gU,Q',p',sd @c7,sd (tw @FQ @wm),sd (tw @ux @k5),AY,cE,dH,⟨tX,oM⟩,fun z hz hr=>by
      by_cases Pm:z=x
      ·subst Pm;rw[<-Qi];omega
      ·exact DT z ad hr⟩)
   ·have hxe:x=I.length:=ad
    have hw:IntKind.i64.wrap ((i:Int)+1)=((i+1:Nat):Int):=aA ad
    (try((repeat(revert hN;revert N;apply Pn.out));refine wk (tw @jR (tw @c0 (tw @c5 (tw @c8 (tw @c9 (tw @c7 (tw @hx (tw @hA (tw @oI (tw @KF @fm.eq_1)))))))))) ?_;(repeat(refine Pn.mk ?_;intro N hN))))
    refine⟨_,?_,i+1,gU,Q',p',rfl,sd (tw @jR (tw @c0 (tw @c5 (tw @c8 (tw @c9 @hw))))),sd @c7,sd @FQ,sd @ux,AY,cE,dH.next tX fun e he hr=>?_,ad⟩
    ·omega
    ·rw[oM,hIn]at he
     rw[oM]at hr ⊢
     obtain⟨z,hz,rfl⟩:=hmx e he
     exact DT z ad hr
 ·(try((repeat(revert hN;revert N;apply Pn.out));refine wk (tw @b0 (tw @b5 (tw @b7 (tw @b8 (tw @hi @fm.eq_1))))) ?_;(repeat(refine Pn.mk ?_;intro N hN))))
  have lu:fu st_b.get 6 (.own o 0 k)=some (.sl (dP out k)):=rM bgo (by rw[Qz];omega) (by rw[List.drop_zero,List.take_of_length_le (by rw[Qz];omega)];exact HE)
  exact⟨_,rfl,_,by simp only[go_sem, ↓reduceIte,Nat.reduceEqDiff,Nat.reduceAdd,Nat.reduceSub,Nat.reduceLeDiff,reduceCtorEq,eH];exact lu,out,rfl,hB.done ok ad⟩
end Go.Proofs.YtphenfakmdknlaaGreat.V

namespace Go.Proofs.YtphenfakmdknlaaGreat.V
open Go.RowKit
attribute [local irreducible] dJ wpOps e8 Call
attribute [local go_sem] ax eB dY eJ eI cJ upd bD K.av bW AV.cells AV.cell rowOf rowsOf part ld rowAt bC bx cU de fj bf cC dv eO er cL dm cw cu cZ da bl aI bZ bj ck cj di dn dj bY bo cz dh bh au cq bJ fh aT bV bm aH cS aQ cV AV.undef aV bc db dd cY dc bQ du dw bG dq dp cm cr List.getD_cons_zero List.getD_cons_succ List.getD_nil List.all_cons List.all_nil Bool.and_true Bool.true_and Bool.and_self Bool.not_true Bool.not_false Option.map_some Option.map_none Option.bind_some Option.bind_none List.length_cons List.length_nil List.take_succ_cons List.take_zero List.take_nil List.drop_succ_cons List.drop_zero List.drop_nil List.head?_cons List.map_cons List.map_nil List.getElem?_cons_zero List.getElem?_cons_succ List.cons_append List.nil_append List.append_nil List.length_map List.set_cons_zero List.set_cons_succ eq_self Int.toNat_natCast Int.natCast_nonneg and_self true_and and_true decide_true decide_false Bool.false_eq_true Nat.zero_add Nat.add_zero List.contains_cons List.contains_nil Bool.or_false Bool.false_or beq_self_eq_true ne_eq not_true_eq_false not_false_eq_true Id.mk.injEq false_and and_false Nat.le_refl List.length_append beq_true beq_false Bool.not_eq_eq_eq_not or_false false_or dG ab ae az aU bu aC aP aE aJ cD aX
def Nf:tO (List Nat):=fun g cs x ids=>(x=[]/\cs=[.cK]/\ids=[])∨∃id,cs=[.own id 0 x.length]/\0<x.length/\g id=some ⟨true,1,x.map eN⟩/\ids=[id]
theorem KL:nM Nf 1 where
 frame:=fun h hf=>by
  rcases h with h|⟨id,h1,h0,h2,h3⟩
  ·exact .inl h
  ·subst h3;exact .inr ⟨id,h1,h0,(hf id (by simp)).trans h2,rfl⟩
 len:=fun h=>by rcases h with⟨_,h,_⟩|⟨id,h,_⟩<;>subst h<;>rfl
 cell:=fun h=>by rcases h with⟨_,h,_⟩|⟨id,h,_⟩<;>subst h<;>rfl
 live:=fun h i hi=>by
  rcases h with⟨_,_,h⟩|⟨id,h1,h0,h2,h3⟩
  ·subst h;cases hi
  ·subst h3
   have:i=id:=by simpa using hi
   subst this
   exact⟨_,h2,rfl,by simp[l6]⟩
 small:=by simp[l6]
theorem Mq {g:Rows} {rows:List (List AV)} {xs:List (List Nat)} {ids:List Id} (n:Nat) (h:cW Nf g rows xs ids):dK (dG g) (n+2) rows=some (xs.map fun l=>[MG l]):=
 h.fz (fun {cs x ids} h=>by
  rcases h with⟨h0,h1,_⟩|⟨id,h1,h0,h2,_⟩
  ·subst h0 h1;rw[ab,ae,aC];rfl
  ·have gQ:x≠[]:=by rintro rfl;simp at h0
   subst h1
   rw[ab,ae,fF (e:=eN) (sz:=1) (by simp[dG,h2]) rfl fun a=>fzN _ n a]
   simp[MG,gQ])
theorem cW.Sx {α:Type} {R:tO α} {sz:Nat} {g:Rows} {rows:List (List AV)} {xs:List α} {ids:List Id} (ok:nM R sz) (h:cW R g rows xs ids) (kD:ids.Nodup) (k:Nat) (hk:k<xs.length):
  ∃cs ic,rows[k]? =some cs/\R g cs xs[k] ic/\(∀i∈ic,i∈ids)/\∀(g':Rows) oa x' NH,R g' oa x' NH->(∀i∈ids,i∉ic->g' i=g i)->NH.Nodup->(∀i∈NH,i∉ids)->∃GB,cW R g' (rows.set k oa) (xs.set k x') GB/\GB.Nodup/\∀i∈GB,i∈NH∨i∈ids:=by
 obtain⟨r1,cs,r2,i1,ic,i2,rfl,rfl,rfl,h3,h4,h5⟩:=h.split k hk
 obtain⟨n1,n2,n3⟩:=List.nodup_append.1 kD
 obtain⟨nc,n5,n4⟩:=List.nodup_append.1 n2
 refine⟨cs,ic,by simp,h4,fun i hi=>by simp[hi],fun g' oa x' NH hR hf hn' jI=>⟨i1++(NH++i2),?_,?_,fun i hi=>?_⟩⟩
 ·have e:xs.set r1.length x'=xs.take r1.length++x'::xs.drop (r1.length+1):=by rw[List.set_eq_take_append_cons_drop,if_pos hk]
  have e2:(r1++cs::r2).set r1.length oa=r1++oa::r2:=by simp
  rw[e,e2]
  refine(h3.frame ok fun i hi=>hf i (by simp[hi]) fun hc=>n3 i hi i (by simp[hc]) rfl).app (.cons hR (h5.frame ok fun i hi=>hf i (by simp[hi]) fun hc=>n4 i hc i hi rfl))
 ·rw[List.nodup_append,List.nodup_append]
  refine⟨n1,⟨hn',n5,fun x hx y hy he=>?_⟩,fun x hx y hy he=>?_⟩
  ·subst he;exact jI x hx (by simp[hy])
  ·subst he
   rcases List.mem_append.1 hy with hy|hy
   ·exact jI x hy (by simp[hx])
   ·exact n3 x hx x (by simp[hy]) rfl
 ·rcases List.mem_append.1 hi with hi|hi
  ·exact .inr (by simp[hi])
  ·rcases List.mem_append.1 hi with hi|hi
   ·exact .inl hi
   ·exact .inr (by simp[hi])
def oW (A:Id) (lo:Nat) (L:List (List Nat)) (g:Rows) (nx:Nat):Prop:=∃rows ids,g A=some ⟨true,1,rows⟩/\cW Nf g rows L ids/\ids.Nodup/\∀i∈ids,lo<i.bR/\i.bR<nx
def bz (cnt:Nat) (bs:List PB) (A F:Id):List AV:=[.int .i64 cnt,.sl (bs.map aZ),.own A 0 cnt,.own F 0 bs.length]
def ko (cnt:Nat) (bs:List PB) (m:Nat):List (List Nat):=(List.range cnt).map fun v=>ij bs m v
theorem iE (cnt:Nat) (bs:List PB) (m:Nat):(ko cnt bs m).length=cnt:=by simp[ko]
structure mf (cnt:Nat) (bs:List PB) (f:Nat->Int) (X A F:Id) (g:Rows) (nx:Nat):Prop where
 x:g X=some ⟨true,4,[bz cnt bs A F]⟩
 a:oW A F.bR (ko cnt bs bs.length) g nx
 f:g F=some ⟨true,1,dP f bs.length⟩
 xa:X.bR<A.bR
 af:A.bR<F.bR
 fn:F.bR<nx
theorem oW.fz {A:Id} {lo cnt:Nat} {bs:List PB} {m nx n:Nat} {g:Rows} (h:oW A lo (ko cnt bs m) g nx):V.fz (dG g) (n+3) (.own A 0 cnt)=some (.sl (ot cnt bs m)):=by
 obtain⟨rows,ids,h1,h2,_,_⟩:=h
 have hl:=h2.len
 rw[iE]at hl
 rw[gm]
 simp only[dG,h1,Option.map_some,if_true]
 rw[if_pos ad,List.drop_zero,List.take_of_length_le ad]
 have:=Mq n h2
 rw[this]
 simp[ko,ot]
theorem mf.fz {cnt:Nat} {bs:List PB} {f:Nat->Int} {X A F:Id} {g:Rows} {nx:Nat} (h:mf cnt bs f X A F g nx):V.fz (dG g) 6 (.ptr X 0 0)=some (.dI (fm cnt bs f)):=by
 have hF:dG g F=some ⟨true,1,dP f bs.length⟩:=by simp[dG,h.f]
 have hX:dG g X=some ⟨true,4,[bz cnt bs A F]⟩:=by simp[dG,h.x]
 have hf:V.fz (dG g) 5 (.own F 0 bs.length)=some (.sl (dP f bs.length)):=by
  rw[gm]
  simp only[hF,if_true]
  rw[if_pos (by rw[dF];omega),List.drop_zero,List.take_of_length_le (by rw[dF];omega),w6];rfl
 have ha:=h.a.fz (n:=2)
 rw[aJ]
 simp only[hX,if_true,List.getElem?_cons_zero,List.drop_zero,bz,ab,ae,az,bu,ha,hf,Option.map_some,fm]
theorem DZ (cnt:Nat) (bs:List PB):ko cnt bs 0=List.replicate cnt []:=by
 refine List.ext_getElem? fun i=>?_
 simp only[ko,List.getElem?_map,List.getElem?_replicate]
 by_cases h:i<cnt
 ·rw[List.getElem?_range h,if_pos h];rfl
 ·rw[List.getElem?_eq_none (by simpa using h),if_neg h];rfl
theorem u4 (g:Rows):∀n:Nat,cW Nf g (List.replicate n [.cK]) (List.replicate n []) []
 |0=>.nil
 |n+1=>.cons (i1:=[]) (.inl ⟨rfl,rfl,rfl⟩) (u4 g n)
def ub (cnt:Nat) (bs:List PB) (m:Nat):List (List Nat):=(ko cnt bs m).set (bL bs m).a (ij bs m (bL bs m).a++[m])
theorem yQ {cnt:Nat} {bs:List PB} {m v:Nat} (hv:v<cnt) (gQ:(bL bs m).a≠v):(ub cnt bs m)[v]? =some (ij bs m v):=by
 unfold ub
 rw[List.getElem?_set_ne gQ]
 simp[ko,hv]
theorem DY {cnt:Nat} {bs:List PB} {m:Nat} (ha:(bL bs m).a<cnt) (hb:(bL bs m).b<cnt) (gQ:(bL bs m).a≠(bL bs m).b):(ub cnt bs m).set (bL bs m).b (ij bs m (bL bs m).b++[m])=ko cnt bs (m+1):=by
 refine List.ext_getElem? fun i=>?_
 by_cases hi:i<cnt
 ·have hr:(ko cnt bs (m+1))[i]? =some (ij bs (m+1) i):=by simp[ko,hi]
  rw[hr,D4]
  by_cases h1:(bL bs m).b=i
  ·rw[List.getElem?_set,if_pos h1,if_pos (by simp[ub,iE];omega),if_pos (.inr h1),h1]
  ·rw[List.getElem?_set_ne h1]
   by_cases h2:(bL bs m).a=i
   ·unfold ub
    rw[List.getElem?_set,if_pos h2,if_pos (by rw[iE];omega),if_pos (.inl h2),h2]
   ·rw[yQ hi h2,if_neg (fun h=>h.elim h2 h1),List.append_nil]
 ·rw[List.getElem?_eq_none (by simp[ub,iE];omega),List.getElem?_eq_none (by rw[iE];omega)]
theorem mH {α:Type} {l:List α} {k:Nat} {x:α} (h:l[k]? =some x) (hk:k<l.length):l[k]=x:=by
 rw[List.getElem?_eq_getElem hk]at h;exact Option.some.inj h
theorem CN {A K:Id} {lo Px nx k j:Nat} {L:List (List Nat)} {La:List Nat} {g:Rows} {rows:List (List AV)} {ids:List Id} (hR:cW Nf g rows L ids) (kD:ids.Nodup) (l5:∀i∈ids,lo<i.bR/\i.bR<Px) (hA:A.bR<=lo) (hL:L[k]? =some La) (hK1:Px<=K.bR) (Oi:K.bR<nx) (jH:lo<Px):
  ∃cs,rows[k]? =some cs/\((La=[]/\cs=[.cK])∨∃id:Id,cs=[.own id 0 La.length]/\0<La.length/\g id=some ⟨true,1,La.map eN⟩/\id.bR<Px/\lo<id.bR)/\
   ∀g':Rows,g' A=some ⟨true,1,rows.set k [.own K 0 (La.length+1)]⟩->g' K=some ⟨true,1,La.map eN++[[.int .i64 j]]⟩->(∀i:Id,i.bR<Px->(i=A)=False->(∀id,cs=[.own id 0 La.length]->(i=id)=False)->g' i=g i)->oW A lo (L.set k (La++[j])) g' nx:=by
 have hk:k<L.length:=(List.getElem?_eq_some_iff.1 hL).1
 have hLk:=mH hL hk
 obtain⟨cs,ic,dx,Rc,OK,sK⟩:=hR.Sx KL kD k hk
 rw[hLk]at Rc
 refine⟨cs,dx,?_,fun g' h1 h2 h3=>?_⟩
 ·rcases Rc with⟨h1,h2,_⟩|⟨id,h1,h2,h3,h4⟩
  ·exact .inl ⟨h1,h2⟩
  ·subst h4
   have:=l5 id (OK id (by simp))
   exact .inr ⟨id,h1,h2,h3,this.2,this.1⟩
 ·obtain⟨GB,q1,q2,q3⟩:=sK g' [.own K 0 (La.length+1)] (La++[j]) [K] (.inr ⟨K,by simp,by simp,by rw[h2];simp[eN],rfl⟩) (fun i hi hni=>by
   refine h3 i (l5 i hi).2 ?_ fun id hid=>?_
   ·simp only[eq_iff_iff,iff_false];rintro rfl;have:=l5 _ hi;omega
   ·simp only[eq_iff_iff,iff_false]
    rintro rfl
    rcases Rc with⟨_,h4,_⟩|⟨jW,h4,_,_,h5⟩
    ·rw[hid]at h4;cases h4
    ·rw[hid]at h4
     simp only[List.cons.injEq,AV.own.injEq,and_true]at h4
     rw[h5,h4]at hni
     exact hni (by simp)) (by simp) fun i hi hc=>by
   rw[List.mem_singleton.1 hi]at hc;have:=l5 _ hc;omega
  refine⟨_,GB,h1,q1,q2,fun i hi=>?_⟩
  rcases q3 i hi with h|h
  ·rw[List.mem_singleton.1 h];omega
  ·have:=l5 i h;omega
theorem JY {P:Program} {Q:Ex->Env->ar->Prop} {c:VC} {env:Env} {σ:ar} (I:Env->ar->Prop) (h2:∀e s,I e s->Q .normal e s) (h1:∀N':Env->ar->Prop,(∀e s,I e s->N' e s)->dJ (Call P) c (cS N' Q) env σ):dJ (Call P) c Q env σ:=by
 refine kf (fun _ _ _ _ h=>h) bd c _ _ env σ (fun x e s h=>?_) (h1 I fun _ _ h=>h)
 cases x with
 |normal=>exact h2 e s h
 |exit id=>exact h
 |ret=>exact h
end Go.Proofs.YtphenfakmdknlaaGreat.V

namespace Go.Proofs.YtphenfakmdknlaaGreat.V
open Go.RowKit
attribute [local irreducible] dJ wpOps e8 Call
attribute [local go_sem] ax eB dY eJ eI cJ upd bD K.av bW AV.cells AV.cell rowOf rowsOf part ld rowAt bC bx cU de fj bf cC dv eO er cL dm cw cu cZ da bl aI bZ bj ck cj di dn dj bY bo cz dh bh au cq bJ fh aT bV bm aH cS aQ cV AV.undef aV bc db dd cY dc bQ du dw bG dq dp cm cr List.getD_cons_zero List.getD_cons_succ List.getD_nil List.all_cons List.all_nil Bool.and_true Bool.true_and Bool.and_self Bool.not_true Bool.not_false Option.map_some Option.map_none Option.bind_some Option.bind_none List.length_cons List.length_nil List.take_succ_cons List.take_zero List.take_nil List.drop_succ_cons List.drop_zero List.drop_nil List.head?_cons List.map_cons List.map_nil List.getElem?_cons_zero List.getElem?_cons_succ List.cons_append List.nil_append List.append_nil List.length_map List.set_cons_zero List.set_cons_succ Nat.reduceMul eq_self Int.toNat_natCast Int.natCast_nonneg and_self true_and and_true decide_true decide_false Bool.false_eq_true Nat.zero_add Nat.add_zero List.contains_cons List.contains_nil Bool.or_false Bool.false_or beq_self_eq_true Nat.reduceBEq ne_eq not_true_eq_false not_false_eq_true Id.mk.injEq false_and and_false Nat.reduceLT Int.reduceLE Int.reduceLT Int.reduceToNat Int.reduceNeg Int.reduceAdd Nat.le_refl List.length_append beq_true beq_false Bool.not_eq_eq_eq_not or_false false_or dG ab ae az aU bu aC aP aE aJ cD aX
theorem GO (cnt:Nat) (hn:cnt<=1048576) (bs:List PB) (ok:iS cnt bs) (re:bs.length<=1048576) (σ:ar):
  Call Tryz.prog 278 [.int .i64 cnt,.sl (bs.map aZ)] σ fun r σ'=>∃X A F,r=.ptr X 0 0/\σ.next<=X.bR/\mf cnt bs (fun _=>0) X A F σ'.get σ'.next:=by
 refine Fp Li rfl fun hl=>?_
 try simp only[q]
 clear hl
 have jF:(0:Int)<=(cnt:Int):=ad
 have qo:(cnt:Int)<=((16777216:Nat):Int):=ad
 have Ov:(0:Int)<=(bs.length:Int):=ad
 have Ct:(bs.length:Int)<=((16777216:Nat):Int):=ad
 have hz:List.replicate bs.length [AV.int .i64 0]=dP (fun _=>0) bs.length:=by
  refine List.ext_getElem? fun i=>?_
  by_cases h:i<bs.length
  ·rw[dL h,List.getElem?_replicate,if_pos h];rfl
  ·rw[List.getElem?_eq_none (by simp;omega),List.getElem?_eq_none (by rw[dF];omega)]
 (try((repeat(revert hN;revert N;apply Pn.out));refine wk (tw @jF (tw @qo (tw @Ov (tw @Ct (tw @Int.le_refl @hz))))) ?_;(repeat(refine Pn.mk ?_;intro N hN))))
 obtain⟨X,hX⟩:∃X:Id,X=⟨278001003,σ.next+1⟩:=⟨_,rfl⟩
 obtain⟨A,hA⟩:∃X:Id,X=⟨278002002,σ.next+1+1⟩:=⟨_,rfl⟩
 obtain⟨F,hF⟩:∃X:Id,X=⟨278003003,σ.next+1+1+1⟩:=⟨_,rfl⟩
 have hXA:X.bR<A.bR:=by rw[hX,hA];(try dsimp only);omega
 have hAF:A.bR<F.bR:=by rw[hA,hF];(try dsimp only);omega
 have hXs:σ.next<=X.bR:=by rw[hX];(try dsimp only);omega
 refine bp (fun n env st=>∃j:Nat,n=(bs.length)-j/\j<=(bs.length)/\env 6=.int .i64 (j:Int)/\env 5=(.ptr X 0 0)/\st.get X=some ⟨true,4,[bz cnt bs A F]⟩/\st.get F=some ⟨true,1,dP (fun _=>0) bs.length⟩/\(oW A F.bR (ko cnt bs j) st.get st.next/\F.bR<st.next)) (bs.length) ⟨0,ad,ad,by(try simp only[go_sem, ↓reduceIte,Nat.reduceEqDiff,Nat.reduceAdd,Nat.reduceSub,Nat.reduceLeDiff,reduceCtorEq,hX,hF,hA,bz,hz]);try rfl,by(try simp only[go_sem, ↓reduceIte,Nat.reduceEqDiff,Nat.reduceAdd,Nat.reduceSub,Nat.reduceLeDiff,reduceCtorEq,hX,hF,hA,bz,hz]);try rfl,by(try simp only[go_sem, ↓reduceIte,Nat.reduceEqDiff,Nat.reduceAdd,Nat.reduceSub,Nat.reduceLeDiff,reduceCtorEq,hX,hF,hA,bz,hz]);try rfl,by(try simp only[go_sem, ↓reduceIte,Nat.reduceEqDiff,Nat.reduceAdd,Nat.reduceSub,Nat.reduceLeDiff,reduceCtorEq,hX,hF,hA,bz,hz]);try rfl,⟨⟨List.replicate cnt [.cK],[],by rw[hA];(simp only[go_sem, ↓reduceIte,Nat.reduceEqDiff,Nat.reduceAdd,Nat.reduceSub,Nat.reduceLeDiff,reduceCtorEq])<;>rfl,by rw[DZ];exact u4 _ _,List.nodup_nil,fun i hi=>by cases hi⟩,by rw[hF];(try dsimp only);omega⟩⟩ ?_
 rintro n_a env_a st_a ⟨j,rfl,ale,a6,a5,ag0,ag1,aI0⟩ dt
 have a0:=dt 0 (by kernel_rfl);have a1:=dt 1 (by kernel_rfl)
 simp only[go_sem, ↓reduceIte,Nat.reduceEqDiff,Nat.reduceAdd,Nat.reduceSub,Nat.reduceLeDiff,reduceCtorEq,hX,hF,hA,bz,hz]at a0 a1
 clear dt
 obtain⟨⟨rows,ids,ag,hR,kD,l5⟩,hFn⟩:=aI0
 have x1:=dE hXA
 have x2:=dE hAF
 have x3:=dE (a:=X) (b:=F) ad
 have vX:=dW (i:=X) (n:=st_a.next) ad
 have vA:=dW (i:=A) (n:=st_a.next) ad
 have vF:=dW (i:=F) (n:=st_a.next) ad
 by_cases hj:(j:Int)<(bs.length:Int)
 ·have bK:∀{e:Env} {gg:Rows} {nx:Nat},(e 6=.int .i64 (IntKind.i64.wrap ((j:Int)+1)))->(e 5=(.ptr X 0 0))->(gg X=some ⟨true,4,[bz cnt bs A F]⟩)->(gg F=some ⟨true,1,dP (fun _=>0) bs.length⟩)->(oW A F.bR (ko cnt bs (j+1)) gg nx/\F.bR<nx)->∃m0,m0<(bs.length)-j/\∃j:Nat,m0=(bs.length)-j/\j<=(bs.length)/\e 6=.int .i64 (j:Int)/\e 5=(.ptr X 0 0)/\gg X=some ⟨true,4,[bz cnt bs A F]⟩/\gg F=some ⟨true,1,dP (fun _=>0) bs.length⟩/\(oW A F.bR (ko cnt bs j) gg nx/\F.bR<nx):=fun x1 x2 x3 x4 x5=>⟨_,ad,j+1,rfl,ad,(by rw[x1,aA ad]),x2,x3,x4,x5⟩
  have ib:j<bs.length:=ad
  have gO:=rI ib
  obtain⟨ha1,Ow,gQ⟩:=ok j ib
  have gN:((bL bs j).a:Int)<(cnt:Int):=ad
  have fG:((bL bs j).b:Int)<(cnt:Int):=ad
  have yD:=DY (m:=j) ha1 Ow gQ
  have e1:=pw bs j (bL bs j).a
  have e2:=pw bs j (bL bs j).b
  have OG:(ub cnt bs j)[(bL bs j).b]? =some (ij bs j (bL bs j).b):=yQ Ow gQ
  have Rx:(ko cnt bs j)[(bL bs j).a]? =some (ij bs j (bL bs j).a):=by simp[ko,ha1]
  have Q1:ub cnt bs j=(ko cnt bs j).set (bL bs j).a (ij bs j (bL bs j).a++[j]):=rfl
  have Qe:(ub cnt bs j).length=cnt:=by rw[Q1,List.length_set,iE]
  have iu:=hR.len
  rw[iE]at iu
  obtain⟨cs7,iC,Gf,Gt⟩:=CN (A:=A) (K:=⟨278007022,st_a.next+1⟩) (nx:=st_a.next+1+1) (j:=j) hR kD l5 ad Rx cE cE hFn
  rw[<-Q1]at Gt
  obtain⟨c7,rfl⟩:∃c,cs7=[c]:=by
   rcases Gf with⟨_,h⟩|⟨id,h,_⟩<;>exact⟨_,h⟩
  generalize ij bs j (bL bs j).a=La at *
  generalize ij bs j (bL bs j).b=Lb at *
  generalize bL bs j=b at *
  generalize ub cnt bs j=LA at *
  clear Q1
  (try((repeat(revert hN;revert N;apply Pn.out));refine wk (tw @a6 (tw @a5 (tw @ag0 (tw @ag1 (tw @a0 (tw @a1 (tw @hj (tw @gO (tw @aZ.eq_1 (tw @ag (tw @iC (tw @gN (tw @fG (tw @iu (tw @x1 (tw @x2 (tw @x3 (tw @vX (tw @vA (tw @vF @bz.eq_1)))))))))))))))))))) ?_;(repeat(refine Pn.mk ?_;intro N hN))))
  refine BX (fun e s=>e 0=.int .i64 cnt/\e 1=.sl (bs.map aZ)/\e 5=.ptr X 0 0/\e 6=.int .i64 j/\s.get X=some ⟨true,4,[bz cnt bs A F]⟩/\s.get F=some ⟨true,1,dP (fun _=>0) bs.length⟩/\oW A F.bR LA s.get s.next/\F.bR<s.next) ?_ ?_
  ·rintro e1 s1 ⟨m0,m1,m5,m6,mX,mF,⟨PI,ids1,mg,mR,mnd,mver⟩,mn⟩
   refine hN _ _ ?_
   clear hN N
   have iv:=mR.len
   rw[Qe]at iv
   have wX:=dW (i:=X) (n:=s1.next) ad
   have wA:=dW (i:=A) (n:=s1.next) ad
   have wF:=dW (i:=F) (n:=s1.next) ad
   obtain⟨cs8,iD,Gg,Gu⟩:=CN (A:=A) (K:=⟨278008022,s1.next⟩) (nx:=s1.next+1) (j:=j) mR mnd mver ad OG cE cE mn
   rw[yD]at Gu
   obtain⟨c8,rfl⟩:∃c,cs8=[c]:=by
    rcases Gg with⟨_,h⟩|⟨id,h,_⟩<;>exact⟨_,h⟩
   (try((repeat(revert hN;revert N;apply Pn.out));refine wk (tw @m0 (tw @m1 (tw @m5 (tw @m6 (tw @mX (tw @mF (tw @hj (tw @gO (tw @aZ.eq_1 (tw @mg (tw @iD (tw @gN (tw @fG (tw @iv (tw @x1 (tw @x2 (tw @x3 (tw @wX (tw @wA (tw @wF @bz.eq_1)))))))))))))))))))) ?_;(repeat(refine Pn.mk ?_;intro N hN))))
   refine JY (fun e s=>e 0=.int .i64 cnt/\e 1=.sl (bs.map aZ)/\e 5=.ptr X 0 0/\e 6=.int .i64 j/\s.get X=some ⟨true,4,[bz cnt bs A F]⟩/\s.get F=some ⟨true,1,dP (fun _=>0) bs.length⟩/\oW A F.bR (ko cnt bs (j+1)) s.get s.next/\F.bR<s.next) ?_ ?_
   ·rintro e2 s2 ⟨p0,p1,p5,p6,pX,pF,pL,pn⟩
    simp only[cS,aQ]
    refine hN _ _ ?_
    clear hN N
    (try((repeat(revert hN;revert N;apply Pn.out));refine wk (tw @p0 (tw @p1 (tw @p5 @p6))) ?_;(repeat(refine Pn.mk ?_;intro N hN))))
    refine bK ?_ ?_ ?_ ?_ (⟨by obtain⟨r,i,q1,q2,q3,q4⟩:=pL;exact⟨r,i,sd @q1,q2,q3,fun x hx=>by have:=q4 x hx;(try dsimp only);omega⟩,cE⟩)
    all_goals simp only[go_sem, ↓reduceIte,Nat.reduceEqDiff,Nat.reduceAdd,Nat.reduceSub,Nat.reduceLeDiff,reduceCtorEq,p0,p1,p5,p6,pX,pF]
   ·intro N hN
    rcases Gg with⟨Oj,v7⟩|⟨id,v7,hLp,hid,CA,pg⟩
    ·simp only[List.cons.injEq,and_true]at v7
     subst v7
     subst Oj
     refine eE ?_ ?_<;>(try((repeat(revert hN;revert N;apply Pn.out));refine wk (tw @m0 (tw @m1 (tw @m5 (tw @m6 (tw @mX (tw @mF (tw @hj (tw @gO (tw @aZ.eq_1 (tw @mg (tw @iD (tw @gN (tw @fG (tw @iv (tw @x1 (tw @x2 (tw @x3 (tw @wX (tw @wA (tw @wF @bz.eq_1)))))))))))))))))))) ?_;(repeat(refine Pn.mk ?_;intro N hN))))<;>(try refine eE ?_ ?_)<;>(try((repeat(revert hN;revert N;apply Pn.out));refine wk (tw @m0 (tw @m1 (tw @m5 (tw @m6 (tw @mX (tw @mF (tw @hj (tw @gO (tw @aZ.eq_1 (tw @mg (tw @iD (tw @gN (tw @fG (tw @iv (tw @x1 (tw @x2 (tw @x3 (tw @wX (tw @wA (tw @wF @bz.eq_1)))))))))))))))))))) ?_;(repeat(refine Pn.mk ?_;intro N hN))))<;>(try refine eE ?_ ?_)<;>(try((repeat(revert hN;revert N;apply Pn.out));refine wk (tw @m0 (tw @m1 (tw @m5 (tw @m6 (tw @mX (tw @mF (tw @hj (tw @gO (tw @aZ.eq_1 (tw @mg (tw @iD (tw @gN (tw @fG (tw @iv (tw @x1 (tw @x2 (tw @x3 (tw @wX (tw @wA (tw @wF @bz.eq_1)))))))))))))))))))) ?_;(repeat(refine Pn.mk ?_;intro N hN))))<;>(try refine eE ?_ ?_)<;>(try((repeat(revert hN;revert N;apply Pn.out));refine wk (tw @m0 (tw @m1 (tw @m5 (tw @m6 (tw @mX (tw @mF (tw @hj (tw @gO (tw @aZ.eq_1 (tw @mg (tw @iD (tw @gN (tw @fG (tw @iv (tw @x1 (tw @x2 (tw @x3 (tw @wX (tw @wA (tw @wF @bz.eq_1)))))))))))))))))))) ?_;(repeat(refine Pn.mk ?_;intro N hN))))<;>(try refine eE ?_ ?_)<;>(try((repeat(revert hN;revert N;apply Pn.out));refine wk (tw @m0 (tw @m1 (tw @m5 (tw @m6 (tw @mX (tw @mF (tw @hj (tw @gO (tw @aZ.eq_1 (tw @mg (tw @iD (tw @gN (tw @fG (tw @iv (tw @x1 (tw @x2 (tw @x3 (tw @wX (tw @wA (tw @wF @bz.eq_1)))))))))))))))))))) ?_;(repeat(refine Pn.mk ?_;intro N hN))))<;>(try refine eE ?_ ?_)<;>(try((repeat(revert hN;revert N;apply Pn.out));refine wk (tw @m0 (tw @m1 (tw @m5 (tw @m6 (tw @mX (tw @mF (tw @hj (tw @gO (tw @aZ.eq_1 (tw @mg (tw @iD (tw @gN (tw @fG (tw @iv (tw @x1 (tw @x2 (tw @x3 (tw @wX (tw @wA (tw @wF @bz.eq_1)))))))))))))))))))) ?_;(repeat(refine Pn.mk ?_;intro N hN))))
     all_goals
      refine⟨by simp only[go_sem, ↓reduceIte,Nat.reduceEqDiff,Nat.reduceAdd,Nat.reduceSub,Nat.reduceLeDiff,reduceCtorEq,m0,m1,m5,m6,mX,mF,hj,gO,aZ,mg,iD,gN,fG,iv,x1,x2,x3,wX,wA,wF,bz],by simp only[go_sem, ↓reduceIte,Nat.reduceEqDiff,Nat.reduceAdd,Nat.reduceSub,Nat.reduceLeDiff,reduceCtorEq,m0,m1,m5,m6,mX,mF,hj,gO,aZ,mg,iD,gN,fG,iv,x1,x2,x3,wX,wA,wF,bz],by simp only[go_sem, ↓reduceIte,Nat.reduceEqDiff,Nat.reduceAdd,Nat.reduceSub,Nat.reduceLeDiff,reduceCtorEq,m0,m1,m5,m6,mX,mF,hj,gO,aZ,mg,iD,gN,fG,iv,x1,x2,x3,wX,wA,wF,bz],by simp only[go_sem, ↓reduceIte,Nat.reduceEqDiff,Nat.reduceAdd,Nat.reduceSub,Nat.reduceLeDiff,reduceCtorEq,m0,m1,m5,m6,mX,mF,hj,gO,aZ,mg,iD,gN,fG,iv,x1,x2,x3,wX,wA,wF,bz],by simp only[go_sem, ↓reduceIte,Nat.reduceEqDiff,Nat.reduceAdd,Nat.reduceSub,Nat.reduceLeDiff,reduceCtorEq,m0,m1,m5,m6,mX,mF,hj,gO,aZ,mg,iD,gN,fG,iv,x1,x2,x3,wX,wA,wF,bz],by simp only[go_sem, ↓reduceIte,Nat.reduceEqDiff,Nat.reduceAdd,Nat.reduceSub,Nat.reduceLeDiff,reduceCtorEq,m0,m1,m5,m6,mX,mF,hj,gO,aZ,mg,iD,gN,fG,iv,x1,x2,x3,wX,wA,wF,bz],Gu _ (by simp only[go_sem, ↓reduceIte,Nat.reduceEqDiff,Nat.reduceAdd,Nat.reduceSub,Nat.reduceLeDiff,reduceCtorEq,m0,m1,m5,m6,mX,mF,hj,gO,aZ,mg,iD,gN,fG,iv,x1,x2,x3,wX,wA,wF,bz,List.length_nil]) (by simp only[go_sem, ↓reduceIte,Nat.reduceEqDiff,Nat.reduceAdd,Nat.reduceSub,Nat.reduceLeDiff,reduceCtorEq,m0,m1,m5,m6,mX,mF,hj,gO,aZ,mg,iD,gN,fG,iv,x1,x2,x3,wX,wA,wF,bz,List.map_nil,List.nil_append]) (fun i hi LQ gP=>?_),cE⟩
      clear gP
      simp only[go_sem, ↓reduceIte,Nat.reduceEqDiff,Nat.reduceAdd,Nat.reduceSub,Nat.reduceLeDiff,reduceCtorEq,wX,wA,wF,dW hi,LQ]
    ·simp only[List.cons.injEq,and_true]at v7
     subst v7
     have pY:=dW CA
     have y1:=dE (a:=A) (b:=id) ad
     have y2:=dE (a:=F) (b:=id) pg
     have y3:=dE (a:=X) (b:=id) ad
     have e3:Lb.length+1<=16777216:=ad
     have z1:(Lb.map eN).length=Lb.length:=by simp
     refine eE ?_ ?_<;>(try((repeat(revert hN;revert N;apply Pn.out));refine wk (tw @m0 (tw @m1 (tw @m5 (tw @m6 (tw @mX (tw @mF (tw @hj (tw @gO (tw @aZ.eq_1 (tw @mg (tw @iD (tw @gN (tw @fG (tw @iv (tw @x1 (tw @x2 (tw @x3 (tw @wX (tw @wA (tw @wF (tw @bz.eq_1 (tw @hid (tw @pY (tw @y1 (tw @y2 (tw @y3 (tw @e3 @z1))))))))))))))))))))))))))) ?_;(repeat(refine Pn.mk ?_;intro N hN))))<;>(try refine eE ?_ ?_)<;>(try((repeat(revert hN;revert N;apply Pn.out));refine wk (tw @m0 (tw @m1 (tw @m5 (tw @m6 (tw @mX (tw @mF (tw @hj (tw @gO (tw @aZ.eq_1 (tw @mg (tw @iD (tw @gN (tw @fG (tw @iv (tw @x1 (tw @x2 (tw @x3 (tw @wX (tw @wA (tw @wF (tw @bz.eq_1 (tw @hid (tw @pY (tw @y1 (tw @y2 (tw @y3 (tw @e3 @z1))))))))))))))))))))))))))) ?_;(repeat(refine Pn.mk ?_;intro N hN))))<;>(try refine eE ?_ ?_)<;>(try((repeat(revert hN;revert N;apply Pn.out));refine wk (tw @m0 (tw @m1 (tw @m5 (tw @m6 (tw @mX (tw @mF (tw @hj (tw @gO (tw @aZ.eq_1 (tw @mg (tw @iD (tw @gN (tw @fG (tw @iv (tw @x1 (tw @x2 (tw @x3 (tw @wX (tw @wA (tw @wF (tw @bz.eq_1 (tw @hid (tw @pY (tw @y1 (tw @y2 (tw @y3 (tw @e3 @z1))))))))))))))))))))))))))) ?_;(repeat(refine Pn.mk ?_;intro N hN))))<;>(try refine eE ?_ ?_)<;>(try((repeat(revert hN;revert N;apply Pn.out));refine wk (tw @m0 (tw @m1 (tw @m5 (tw @m6 (tw @mX (tw @mF (tw @hj (tw @gO (tw @aZ.eq_1 (tw @mg (tw @iD (tw @gN (tw @fG (tw @iv (tw @x1 (tw @x2 (tw @x3 (tw @wX (tw @wA (tw @wF (tw @bz.eq_1 (tw @hid (tw @pY (tw @y1 (tw @y2 (tw @y3 (tw @e3 @z1))))))))))))))))))))))))))) ?_;(repeat(refine Pn.mk ?_;intro N hN))))<;>(try refine eE ?_ ?_)<;>(try((repeat(revert hN;revert N;apply Pn.out));refine wk (tw @m0 (tw @m1 (tw @m5 (tw @m6 (tw @mX (tw @mF (tw @hj (tw @gO (tw @aZ.eq_1 (tw @mg (tw @iD (tw @gN (tw @fG (tw @iv (tw @x1 (tw @x2 (tw @x3 (tw @wX (tw @wA (tw @wF (tw @bz.eq_1 (tw @hid (tw @pY (tw @y1 (tw @y2 (tw @y3 (tw @e3 @z1))))))))))))))))))))))))))) ?_;(repeat(refine Pn.mk ?_;intro N hN))))<;>(try refine eE ?_ ?_)<;>(try((repeat(revert hN;revert N;apply Pn.out));refine wk (tw @m0 (tw @m1 (tw @m5 (tw @m6 (tw @mX (tw @mF (tw @hj (tw @gO (tw @aZ.eq_1 (tw @mg (tw @iD (tw @gN (tw @fG (tw @iv (tw @x1 (tw @x2 (tw @x3 (tw @wX (tw @wA (tw @wF (tw @bz.eq_1 (tw @hid (tw @pY (tw @y1 (tw @y2 (tw @y3 (tw @e3 @z1))))))))))))))))))))))))))) ?_;(repeat(refine Pn.mk ?_;intro N hN))))
     all_goals
      refine⟨by simp only[go_sem, ↓reduceIte,Nat.reduceEqDiff,Nat.reduceAdd,Nat.reduceSub,Nat.reduceLeDiff,reduceCtorEq,m0,m1,m5,m6,mX,mF,hj,gO,aZ,mg,iD,gN,fG,iv,x1,x2,x3,wX,wA,wF,bz,hid,pY,y1,y2,y3,e3,z1],by simp only[go_sem, ↓reduceIte,Nat.reduceEqDiff,Nat.reduceAdd,Nat.reduceSub,Nat.reduceLeDiff,reduceCtorEq,m0,m1,m5,m6,mX,mF,hj,gO,aZ,mg,iD,gN,fG,iv,x1,x2,x3,wX,wA,wF,bz,hid,pY,y1,y2,y3,e3,z1],by simp only[go_sem, ↓reduceIte,Nat.reduceEqDiff,Nat.reduceAdd,Nat.reduceSub,Nat.reduceLeDiff,reduceCtorEq,m0,m1,m5,m6,mX,mF,hj,gO,aZ,mg,iD,gN,fG,iv,x1,x2,x3,wX,wA,wF,bz,hid,pY,y1,y2,y3,e3,z1],by simp only[go_sem, ↓reduceIte,Nat.reduceEqDiff,Nat.reduceAdd,Nat.reduceSub,Nat.reduceLeDiff,reduceCtorEq,m0,m1,m5,m6,mX,mF,hj,gO,aZ,mg,iD,gN,fG,iv,x1,x2,x3,wX,wA,wF,bz,hid,pY,y1,y2,y3,e3,z1],by simp only[go_sem, ↓reduceIte,Nat.reduceEqDiff,Nat.reduceAdd,Nat.reduceSub,Nat.reduceLeDiff,reduceCtorEq,m0,m1,m5,m6,mX,mF,hj,gO,aZ,mg,iD,gN,fG,iv,x1,x2,x3,wX,wA,wF,bz,hid,pY,y1,y2,y3,e3,z1],by simp only[go_sem, ↓reduceIte,Nat.reduceEqDiff,Nat.reduceAdd,Nat.reduceSub,Nat.reduceLeDiff,reduceCtorEq,m0,m1,m5,m6,mX,mF,hj,gO,aZ,mg,iD,gN,fG,iv,x1,x2,x3,wX,wA,wF,bz,hid,pY,y1,y2,y3,e3,z1],Gu _ (by simp only[go_sem, ↓reduceIte,Nat.reduceEqDiff,Nat.reduceAdd,Nat.reduceSub,Nat.reduceLeDiff,reduceCtorEq,m0,m1,m5,m6,mX,mF,hj,gO,aZ,mg,iD,gN,fG,iv,x1,x2,x3,wX,wA,wF,bz,hid,pY,y1,y2,y3,e3,z1,List.length_nil]) (by simp only[go_sem, ↓reduceIte,Nat.reduceEqDiff,Nat.reduceAdd,Nat.reduceSub,Nat.reduceLeDiff,reduceCtorEq,m0,m1,m5,m6,mX,mF,hj,gO,aZ,mg,iD,gN,fG,iv,x1,x2,x3,wX,wA,wF,bz,hid,pY,y1,y2,y3,e3,z1,List.map_nil,List.nil_append]) (fun i hi LQ gP=>?_),cE⟩
      have gQ:=gP id rfl
      simp only[go_sem, ↓reduceIte,Nat.reduceEqDiff,Nat.reduceAdd,Nat.reduceSub,Nat.reduceLeDiff,reduceCtorEq,wX,wA,wF,dW hi,LQ,gQ]
  ·intro N hN
   rcases Gf with⟨Oj,v7⟩|⟨id,v7,hLp,hid,CA,pg⟩
   ·simp only[List.cons.injEq,and_true]at v7
    subst v7
    subst Oj
    refine eE ?_ ?_<;>(try((repeat(revert hN;revert N;apply Pn.out));refine wk (tw @a6 (tw @a5 (tw @ag0 (tw @ag1 (tw @a0 (tw @a1 (tw @hj (tw @gO (tw @aZ.eq_1 (tw @ag (tw @iC (tw @gN (tw @fG (tw @iu (tw @x1 (tw @x2 (tw @x3 (tw @vX (tw @vA (tw @vF @bz.eq_1)))))))))))))))))))) ?_;(repeat(refine Pn.mk ?_;intro N hN))))<;>(try refine eE ?_ ?_)<;>(try((repeat(revert hN;revert N;apply Pn.out));refine wk (tw @a6 (tw @a5 (tw @ag0 (tw @ag1 (tw @a0 (tw @a1 (tw @hj (tw @gO (tw @aZ.eq_1 (tw @ag (tw @iC (tw @gN (tw @fG (tw @iu (tw @x1 (tw @x2 (tw @x3 (tw @vX (tw @vA (tw @vF @bz.eq_1)))))))))))))))))))) ?_;(repeat(refine Pn.mk ?_;intro N hN))))<;>(try refine eE ?_ ?_)<;>(try((repeat(revert hN;revert N;apply Pn.out));refine wk (tw @a6 (tw @a5 (tw @ag0 (tw @ag1 (tw @a0 (tw @a1 (tw @hj (tw @gO (tw @aZ.eq_1 (tw @ag (tw @iC (tw @gN (tw @fG (tw @iu (tw @x1 (tw @x2 (tw @x3 (tw @vX (tw @vA (tw @vF @bz.eq_1)))))))))))))))))))) ?_;(repeat(refine Pn.mk ?_;intro N hN))))<;>(try refine eE ?_ ?_)<;>(try((repeat(revert hN;revert N;apply Pn.out));refine wk (tw @a6 (tw @a5 (tw @ag0 (tw @ag1 (tw @a0 (tw @a1 (tw @hj (tw @gO (tw @aZ.eq_1 (tw @ag (tw @iC (tw @gN (tw @fG (tw @iu (tw @x1 (tw @x2 (tw @x3 (tw @vX (tw @vA (tw @vF @bz.eq_1)))))))))))))))))))) ?_;(repeat(refine Pn.mk ?_;intro N hN))))<;>(try refine eE ?_ ?_)<;>(try((repeat(revert hN;revert N;apply Pn.out));refine wk (tw @a6 (tw @a5 (tw @ag0 (tw @ag1 (tw @a0 (tw @a1 (tw @hj (tw @gO (tw @aZ.eq_1 (tw @ag (tw @iC (tw @gN (tw @fG (tw @iu (tw @x1 (tw @x2 (tw @x3 (tw @vX (tw @vA (tw @vF @bz.eq_1)))))))))))))))))))) ?_;(repeat(refine Pn.mk ?_;intro N hN))))<;>(try refine eE ?_ ?_)<;>(try((repeat(revert hN;revert N;apply Pn.out));refine wk (tw @a6 (tw @a5 (tw @ag0 (tw @ag1 (tw @a0 (tw @a1 (tw @hj (tw @gO (tw @aZ.eq_1 (tw @ag (tw @iC (tw @gN (tw @fG (tw @iu (tw @x1 (tw @x2 (tw @x3 (tw @vX (tw @vA (tw @vF @bz.eq_1)))))))))))))))))))) ?_;(repeat(refine Pn.mk ?_;intro N hN))))
    all_goals
     refine⟨by simp only[go_sem, ↓reduceIte,Nat.reduceEqDiff,Nat.reduceAdd,Nat.reduceSub,Nat.reduceLeDiff,reduceCtorEq,a6,a5,ag0,ag1,a0,a1,hj,gO,aZ,ag,iC,gN,fG,iu,x1,x2,x3,vX,vA,vF,bz],by simp only[go_sem, ↓reduceIte,Nat.reduceEqDiff,Nat.reduceAdd,Nat.reduceSub,Nat.reduceLeDiff,reduceCtorEq,a6,a5,ag0,ag1,a0,a1,hj,gO,aZ,ag,iC,gN,fG,iu,x1,x2,x3,vX,vA,vF,bz],by simp only[go_sem, ↓reduceIte,Nat.reduceEqDiff,Nat.reduceAdd,Nat.reduceSub,Nat.reduceLeDiff,reduceCtorEq,a6,a5,ag0,ag1,a0,a1,hj,gO,aZ,ag,iC,gN,fG,iu,x1,x2,x3,vX,vA,vF,bz],by simp only[go_sem, ↓reduceIte,Nat.reduceEqDiff,Nat.reduceAdd,Nat.reduceSub,Nat.reduceLeDiff,reduceCtorEq,a6,a5,ag0,ag1,a0,a1,hj,gO,aZ,ag,iC,gN,fG,iu,x1,x2,x3,vX,vA,vF,bz],by simp only[go_sem, ↓reduceIte,Nat.reduceEqDiff,Nat.reduceAdd,Nat.reduceSub,Nat.reduceLeDiff,reduceCtorEq,a6,a5,ag0,ag1,a0,a1,hj,gO,aZ,ag,iC,gN,fG,iu,x1,x2,x3,vX,vA,vF,bz],by simp only[go_sem, ↓reduceIte,Nat.reduceEqDiff,Nat.reduceAdd,Nat.reduceSub,Nat.reduceLeDiff,reduceCtorEq,a6,a5,ag0,ag1,a0,a1,hj,gO,aZ,ag,iC,gN,fG,iu,x1,x2,x3,vX,vA,vF,bz],Gt _ (by simp only[go_sem, ↓reduceIte,Nat.reduceEqDiff,Nat.reduceAdd,Nat.reduceSub,Nat.reduceLeDiff,reduceCtorEq,a6,a5,ag0,ag1,a0,a1,hj,gO,aZ,ag,iC,gN,fG,iu,x1,x2,x3,vX,vA,vF,bz,List.length_nil]) (by simp only[go_sem, ↓reduceIte,Nat.reduceEqDiff,Nat.reduceAdd,Nat.reduceSub,Nat.reduceLeDiff,reduceCtorEq,a6,a5,ag0,ag1,a0,a1,hj,gO,aZ,ag,iC,gN,fG,iu,x1,x2,x3,vX,vA,vF,bz,List.map_nil,List.nil_append]) (fun i hi LQ gP=>?_),cE⟩
     clear gP
     simp only[go_sem, ↓reduceIte,Nat.reduceEqDiff,Nat.reduceAdd,Nat.reduceSub,Nat.reduceLeDiff,reduceCtorEq,vX,vA,vF,dW hi,LQ]
   ·simp only[List.cons.injEq,and_true]at v7
    subst v7
    have pY:=dW CA
    have y1:=dE (a:=A) (b:=id) ad
    have y2:=dE (a:=F) (b:=id) pg
    have y3:=dE (a:=X) (b:=id) ad
    have e3:La.length+1<=16777216:=ad
    have z1:(La.map eN).length=La.length:=by simp
    refine eE ?_ ?_<;>(try((repeat(revert hN;revert N;apply Pn.out));refine wk (tw @a6 (tw @a5 (tw @ag0 (tw @ag1 (tw @a0 (tw @a1 (tw @hj (tw @gO (tw @aZ.eq_1 (tw @ag (tw @iC (tw @gN (tw @fG (tw @iu (tw @x1 (tw @x2 (tw @x3 (tw @vX (tw @vA (tw @vF (tw @bz.eq_1 (tw @hid (tw @pY (tw @y1 (tw @y2 (tw @y3 (tw @e3 @z1))))))))))))))))))))))))))) ?_;(repeat(refine Pn.mk ?_;intro N hN))))<;>(try refine eE ?_ ?_)<;>(try((repeat(revert hN;revert N;apply Pn.out));refine wk (tw @a6 (tw @a5 (tw @ag0 (tw @ag1 (tw @a0 (tw @a1 (tw @hj (tw @gO (tw @aZ.eq_1 (tw @ag (tw @iC (tw @gN (tw @fG (tw @iu (tw @x1 (tw @x2 (tw @x3 (tw @vX (tw @vA (tw @vF (tw @bz.eq_1 (tw @hid (tw @pY (tw @y1 (tw @y2 (tw @y3 (tw @e3 @z1))))))))))))))))))))))))))) ?_;(repeat(refine Pn.mk ?_;intro N hN))))<;>(try refine eE ?_ ?_)<;>(try((repeat(revert hN;revert N;apply Pn.out));refine wk (tw @a6 (tw @a5 (tw @ag0 (tw @ag1 (tw @a0 (tw @a1 (tw @hj (tw @gO (tw @aZ.eq_1 (tw @ag (tw @iC (tw @gN (tw @fG (tw @iu (tw @x1 (tw @x2 (tw @x3 (tw @vX (tw @vA (tw @vF (tw @bz.eq_1 (tw @hid (tw @pY (tw @y1 (tw @y2 (tw @y3 (tw @e3 @z1))))))))))))))))))))))))))) ?_;(repeat(refine Pn.mk ?_;intro N hN))))<;>(try refine eE ?_ ?_)<;>(try((repeat(revert hN;revert N;apply Pn.out));refine wk (tw @a6 (tw @a5 (tw @ag0 (tw @ag1 (tw @a0 (tw @a1 (tw @hj (tw @gO (tw @aZ.eq_1 (tw @ag (tw @iC (tw @gN (tw @fG (tw @iu (tw @x1 (tw @x2 (tw @x3 (tw @vX (tw @vA (tw @vF (tw @bz.eq_1 (tw @hid (tw @pY (tw @y1 (tw @y2 (tw @y3 (tw @e3 @z1))))))))))))))))))))))))))) ?_;(repeat(refine Pn.mk ?_;intro N hN))))<;>(try refine eE ?_ ?_)<;>(try((repeat(revert hN;revert N;apply Pn.out));refine wk (tw @a6 (tw @a5 (tw @ag0 (tw @ag1 (tw @a0 (tw @a1 (tw @hj (tw @gO (tw @aZ.eq_1 (tw @ag (tw @iC (tw @gN (tw @fG (tw @iu (tw @x1 (tw @x2 (tw @x3 (tw @vX (tw @vA (tw @vF (tw @bz.eq_1 (tw @hid (tw @pY (tw @y1 (tw @y2 (tw @y3 (tw @e3 @z1))))))))))))))))))))))))))) ?_;(repeat(refine Pn.mk ?_;intro N hN))))<;>(try refine eE ?_ ?_)<;>(try((repeat(revert hN;revert N;apply Pn.out));refine wk (tw @a6 (tw @a5 (tw @ag0 (tw @ag1 (tw @a0 (tw @a1 (tw @hj (tw @gO (tw @aZ.eq_1 (tw @ag (tw @iC (tw @gN (tw @fG (tw @iu (tw @x1 (tw @x2 (tw @x3 (tw @vX (tw @vA (tw @vF (tw @bz.eq_1 (tw @hid (tw @pY (tw @y1 (tw @y2 (tw @y3 (tw @e3 @z1))))))))))))))))))))))))))) ?_;(repeat(refine Pn.mk ?_;intro N hN))))
    all_goals
     refine⟨by simp only[go_sem, ↓reduceIte,Nat.reduceEqDiff,Nat.reduceAdd,Nat.reduceSub,Nat.reduceLeDiff,reduceCtorEq,a6,a5,ag0,ag1,a0,a1,hj,gO,aZ,ag,iC,gN,fG,iu,x1,x2,x3,vX,vA,vF,bz,hid,pY,y1,y2,y3,e3,z1],by simp only[go_sem, ↓reduceIte,Nat.reduceEqDiff,Nat.reduceAdd,Nat.reduceSub,Nat.reduceLeDiff,reduceCtorEq,a6,a5,ag0,ag1,a0,a1,hj,gO,aZ,ag,iC,gN,fG,iu,x1,x2,x3,vX,vA,vF,bz,hid,pY,y1,y2,y3,e3,z1],by simp only[go_sem, ↓reduceIte,Nat.reduceEqDiff,Nat.reduceAdd,Nat.reduceSub,Nat.reduceLeDiff,reduceCtorEq,a6,a5,ag0,ag1,a0,a1,hj,gO,aZ,ag,iC,gN,fG,iu,x1,x2,x3,vX,vA,vF,bz,hid,pY,y1,y2,y3,e3,z1],by simp only[go_sem, ↓reduceIte,Nat.reduceEqDiff,Nat.reduceAdd,Nat.reduceSub,Nat.reduceLeDiff,reduceCtorEq,a6,a5,ag0,ag1,a0,a1,hj,gO,aZ,ag,iC,gN,fG,iu,x1,x2,x3,vX,vA,vF,bz,hid,pY,y1,y2,y3,e3,z1],by simp only[go_sem, ↓reduceIte,Nat.reduceEqDiff,Nat.reduceAdd,Nat.reduceSub,Nat.reduceLeDiff,reduceCtorEq,a6,a5,ag0,ag1,a0,a1,hj,gO,aZ,ag,iC,gN,fG,iu,x1,x2,x3,vX,vA,vF,bz,hid,pY,y1,y2,y3,e3,z1],by simp only[go_sem, ↓reduceIte,Nat.reduceEqDiff,Nat.reduceAdd,Nat.reduceSub,Nat.reduceLeDiff,reduceCtorEq,a6,a5,ag0,ag1,a0,a1,hj,gO,aZ,ag,iC,gN,fG,iu,x1,x2,x3,vX,vA,vF,bz,hid,pY,y1,y2,y3,e3,z1],Gt _ (by simp only[go_sem, ↓reduceIte,Nat.reduceEqDiff,Nat.reduceAdd,Nat.reduceSub,Nat.reduceLeDiff,reduceCtorEq,a6,a5,ag0,ag1,a0,a1,hj,gO,aZ,ag,iC,gN,fG,iu,x1,x2,x3,vX,vA,vF,bz,hid,pY,y1,y2,y3,e3,z1,List.length_nil]) (by simp only[go_sem, ↓reduceIte,Nat.reduceEqDiff,Nat.reduceAdd,Nat.reduceSub,Nat.reduceLeDiff,reduceCtorEq,a6,a5,ag0,ag1,a0,a1,hj,gO,aZ,ag,iC,gN,fG,iu,x1,x2,x3,vX,vA,vF,bz,hid,pY,y1,y2,y3,e3,z1,List.map_nil,List.nil_append]) (fun i hi LQ gP=>?_),cE⟩
     have gQ:=gP id rfl
     simp only[go_sem, ↓reduceIte,Nat.reduceEqDiff,Nat.reduceAdd,Nat.reduceSub,Nat.reduceLeDiff,reduceCtorEq,vX,vA,vF,dW hi,LQ,gQ]
 ·have gJ:j=bs.length:=ad
  subst gJ
  (try((repeat(revert hN;revert N;apply Pn.out));refine wk (tw @a6 (tw @a5 (tw @ag0 (tw @ag1 (tw @a0 (tw @a1 @hj)))))) ?_;(repeat(refine Pn.mk ?_;intro N hN))))
  exact gI (.inl rfl) (by simp only[fe,iq,go_sem, ↓reduceIte,Nat.reduceEqDiff,Nat.reduceAdd,Nat.reduceSub,Nat.reduceLeDiff,reduceCtorEq];rfl) ⟨X,A,F,rfl,hXs,⟨ag0,⟨rows,ids,ag,hR,kD,fun x hx=>by have:=l5 x hx;(try dsimp only);omega⟩,ag1,hXA,hAF,cE⟩⟩
theorem oW.frame {A:Id} {lo nx KO:Nat} {L:List (List Nat)} {g g':Rows} (h:oW A lo L g nx) (hA:A.bR<nx) (hf:∀i:Id,i.bR<nx->lo<i.bR∨i=A->g' i=g i) (hn:nx<=KO):oW A lo L g' KO:=by
 obtain⟨rows,ids,h1,h2,h3,h4⟩:=h
 refine⟨rows,ids,(hf A hA (.inr rfl)).trans h1,h2.frame KL fun i hi=>hf i (h4 i hi).2 (.inl (h4 i hi).1),h3,fun i hi=>?_⟩
 have:=h4 i hi;omega
theorem mf.frame {cnt:Nat} {bs:List PB} {f:Nat->Int} {X A F:Id} {g g':Rows} {nx KO:Nat} (h:mf cnt bs f X A F g nx) (hf:∀i:Id,i.bR<nx->g' i=g i) (hn:nx<=KO):mf cnt bs f X A F g' KO:=by
 have h1:=h.xa;have h2:=h.af;have h3:=h.fn
 exact⟨(hf X ad).trans h.x,h.a.frame ad (fun i hi _=>hf i hi) hn,(hf F h3).trans h.f,h1,h2,ad⟩
theorem mf.N9 {cnt:Nat} {bs:List PB} {f f':Nat->Int} {X A F:Id} {g g':Rows} {nx KO:Nat} (h:mf cnt bs f X A F g nx) (hF:g' F=some ⟨true,1,dP f' bs.length⟩) (hf:∀i:Id,i.bR<nx->(i=F)=False->g' i=g i) (hn:nx<=KO):mf cnt bs f' X A F g' KO:=by
 have h1:=h.xa;have h2:=h.af;have h3:=h.fn
 refine⟨(hf X ad (dE ad).1).trans h.x,h.a.frame ad (fun i hi jH=>hf i hi ?_) hn,hF,h1,h2,ad⟩
 rcases jH with jH|rfl
 ·exact(dE jH).2
 ·exact(dE h2).1
theorem MA (cnt:Nat) (bs:List PB) (f:Nat->Int) (hs:Small bs f) (e v:Nat) (he:e<bs.length) (X A F:Id) (σ:ar) (nx:Nat) (hS:mf cnt bs f X A F σ.get nx) (hn:nx<=σ.next):
  Call Tryz.prog 323 [.ptr X 0 0,.int .i64 v,.int .i64 e] σ fun r σ'=>mf cnt bs (rj bs f e v) X A F σ'.get nx/\σ.next<=σ'.next/\∀i:Id,(i=F)=False->σ'.get i=σ.get i:=by
 refine gj eL rfl fun hl=>?_
 clear hl
 have hX:=hS.x
 have hF:=hS.f
 have hb:=rI he
 have Rs:=dL (f:=f) he
 have tl:=dF f bs.length
 obtain⟨⟨s0,s1⟩,s2,s3⟩:=hs e he
 have hei:(e:Int)<(bs.length:Int):=ad
 have w1:IntKind.i64.wrap (f e+1)=f e+1:=bP ad
 have w2:IntKind.i64.wrap (f e-1)=f e+-1:=by rw[bP ad];omega
 rw[aM]at Rs
 unfold rj
 by_cases h:(bL bs e).a=v
 ·have eX:(dP f bs.length).set e (aM (f e+1))=dP (fun j=>f j+if j=e then(if (bL bs e).a=v then 1 else -1)else 0) bs.length:=kc he (by rw[if_pos rfl,if_pos h]) fun i _ hi=>by rw[if_neg hi,Int.add_zero]
  rw[aM]at eX
  generalize Qg:bL bs e=b at *
  have hd:decide ((b.a:Int)=(v:Int))=true:=decide_eq_true (by rw[h])
  (try((repeat(revert hN;revert N;apply Pn.out));refine wk (tw @hX (tw @hF (tw @hb (tw @Rs (tw @tl (tw @hei (tw @w1 (tw @eX (tw @hd (tw @aZ.eq_1 @bz.eq_1)))))))))) ?_;(repeat(refine Pn.mk ?_;intro N hN))))
  exact gI (.inr rfl) (vs:=[]) rfl ⟨hS.N9 (sd @Nat.zero_add) (fun i hi gQ=>sd @gQ) (Nat.le_refl _),cE,fun i gQ=>sd @gQ⟩
 ·have eX:(dP f bs.length).set e (aM (f e+-1))=dP (fun j=>f j+if j=e then(if (bL bs e).a=v then 1 else -1)else 0) bs.length:=kc he (by rw[if_pos rfl,if_neg h]) fun i _ hi=>by rw[if_neg hi,Int.add_zero]
  rw[aM]at eX
  generalize Qg:bL bs e=b at *
  have hd:decide ((b.a:Int)=(v:Int))=false:=decide_eq_false fun hc=>h ad
  (try((repeat(revert hN;revert N;apply Pn.out));refine wk (tw @hX (tw @hF (tw @hb (tw @Rs (tw @tl (tw @hei (tw @w2 (tw @eX (tw @hd (tw @aZ.eq_1 @bz.eq_1)))))))))) ?_;(repeat(refine Pn.mk ?_;intro N hN))))
  exact gI (.inr rfl) (vs:=[]) rfl ⟨hS.N9 (sd @Nat.zero_add) (fun i hi gQ=>sd @gQ) (Nat.le_refl _),cE,fun i gQ=>sd @gQ⟩
structure mh (bs:List PB) (out:Nat->Int) (f f':Nat->Int) (x v:Nat):Prop where
 le:∀i,i<bs.length->f' i<=(bL bs i).s/\-(bL bs i).s<=f' i
 cut:∀S:Nat->Bool,Ds S bs f'=Ds S bs f+bi (S x)-bi (S v)
 zg:∀e,e<bs.length->out (bL bs e).a<=out v->out (bL bs e).b<=out v->f' e=f e
section
variable {cnt:Nat} {bs:List PB} {out:Nat->Int} {f f':Nat->Int} {x v y:Nat}
theorem mh.start (h:∀i,i<bs.length->f i<=(bL bs i).s/\-(bL bs i).s<=f i):mh bs out f f x x:=⟨h,fun S=>ad,fun _ _ _ _=>rfl⟩
theorem mh.step (h:mh bs out f f' x v) {e:Nat} (he:e<bs.length) (hi:zW bs e v) (hr:0<eR bs f' e v) (hd:out (bE bs e v)=out v-1):mh bs out f (rj bs f' e v) x (bE bs e v):=by
 refine⟨fun i rQ=>?_,fun S=>?_,fun i rQ ha hb=>?_⟩
 ·have h1:=h.le i rQ
  unfold rj
  by_cases Kq:i=e
  ·subst Kq
   rw[if_pos rfl]
   unfold eR at hr
   split at hr<;>rename_i hc
   ·rw[if_pos hc];omega
   ·rw[if_neg hc];omega
  ·rw[if_neg Kq];omega
 ·rw[Dt he hi,h.cut S];omega
 ·have Kq:i≠e:=by
   rintro rfl
   rcases hi with hi|hi
   ·rw[hi]at ha;omega
   ·rw[hi]at hb;omega
  unfold rj
  rw[if_neg Kq,Int.add_zero]
  exact h.zg i rQ ad ad
theorem mh.goes (h:mh bs out f f' x v) (hs:om cnt bs f y out) (hv:v<cnt) (h0:0<out v):∃e∈ij bs bs.length v,0<eR bs f' e v/\out (bE bs e v)=out v-1:=by
 obtain⟨e,h1,h2,h3,h4⟩:=hs.down v hv h0
 refine⟨e,pz.2 ⟨h1,h2⟩,?_,h4⟩
 have hf:f' e=f e:=by
  refine h.zg e h1 ?_ ?_
  ·unfold bE at h4
   split at h4
   ·rename_i ha;rw[ha];exact Int.le_refl _
   ·omega
  ·unfold bE at h4
   rcases h2 with h2|h2
   ·rw[if_pos h2]at h4;omega
   ·rw[h2];exact Int.le_refl _
 unfold eR at h3 ⊢
 rw[hf];exact h3
theorem mh.done {val:Int} (h:mh bs out f f' x y) (hf:gK bs f x y val):gK bs f' x y (val+1):=
 ⟨h.le,fun S hx hy=>by rw[h.cut S,hf.cut S hx hy,hx,hy];simp[bi]⟩
theorem BM {val:Int} (hs:om cnt bs f y out) (ok:iS cnt bs) (hf:gK bs f x y val) (hx:out x<0):∃S:Nat->Bool,S x=true/\S y=false/\val=fO S bs:=by
 refine⟨fun v=>decide (out v<0),decide_eq_true hx,decide_eq_false (by rw[hs.first];omega),hf.full (decide_eq_true hx) (decide_eq_false (by rw[hs.first];omega)) fun i hi l7=>⟨fun h1 h2 hr=>?_,fun h1 h2 hr=>?_⟩⟩
 ·have IF:=of_decide_eq_true h1
  have uI:=of_decide_eq_false h2
  have:=hs.shut i (bL bs i).a hi (.inl rfl) (by unfold bE;rw[if_pos rfl];omega) hr
  omega
 ·have IF:=of_decide_eq_true h1
  have uI:=of_decide_eq_false h2
  have:=hs.shut i (bL bs i).b hi (.inr rfl) (by unfold bE;rw[if_neg l7];omega) hr
  omega
end
theorem tp {bs:List PB} {f:Nat->Int} (ee:∀e,e<bs.length->0<=(bL bs e).s/\(bL bs e).s<=4) (h:∀i,i<bs.length->f i<=(bL bs i).s/\-(bL bs i).s<=f i):Small bs f:=fun e he=>by
 have:=ee e he;have:=h e he;omega
theorem oW.at_ {A:Id} {lo nx v:Nat} {L:List (List Nat)} {l:List Nat} {g:Rows} (h:oW A lo L g nx) (hv:L[v]? =some l) (hl:0<l.length):∃(rows:List (List AV)) (id:Id),g A=some ⟨true,1,rows⟩/\rows.length=L.length/\rows[v]? =some [.own id 0 l.length]/\g id=some ⟨true,1,l.map eN⟩/\lo<id.bR/\id.bR<nx:=by
 obtain⟨rows,ids,h1,h2,h3,h4⟩:=h
 have hk:v<L.length:=(List.getElem?_eq_some_iff.1 hv).1
 obtain⟨cs,ic,dx,hR,OK⟩:=h2.at_ v hk
 rw[mH hv hk]at hR
 rcases hR with⟨h5,_⟩|⟨id,rfl,_,h6,rfl⟩
 ·subst h5;simp at hl
 ·have:=h4 id (OK id (by simp))
  exact⟨rows,id,h1,h2.len,dx,h6,this.1,this.2⟩
theorem Lz (cnt:Nat) (hn:cnt<=1048576) (bs:List PB) (ok:iS cnt bs) (re:bs.length<=1048576) (ee:∀e,e<bs.length->0<=(bL bs e).s/\(bL bs e).s<=4) (f:Nat->Int) (x y:Nat) (hx:x<cnt) (hy:y<cnt) (I5:x≠y) (val:Int) (hf:gK bs f x y val)
  (X A F:Id) (σ:ar) (nb:Nat) (hS:mf cnt bs f X A F σ.get nb) (yD:nb<=σ.next):
  Call Tryz.prog 279 [.ptr X 0 0,.int .i64 x,.int .i64 y] σ fun r σ'=>∃b f',r=.bool b/\mf cnt bs f' X A F σ'.get nb/\σ.next<=σ'.next/\(∀i:Id,i.bR<nb->(i=F)=False->σ'.get i=σ.get i)/\
   (b=false->f'=f/\∃S:Nat->Bool,S x=true/\S y=false/\val=fO S bs)/\(b=true->gK bs f' x y (val+1)):=by
 refine gj eL rfl fun hl=>?_
 clear hl
 have zN:(x:Int)<(cnt:Int):=ad
 have hz:∀(g:Rows),(∀i:Id,i.bR<nb->g i=σ.get i)->cR (dG g) 6 [.ptr X 0 0,.int .i64 (y:Int)]=some [.dI (fm cnt bs f),.int .i64 y]:=fun g hg=>by
  have:=(hS.frame hg (Nat.le_refl _)).fz
  simp only[ab,ae,this,az,Option.map_some]
 (try((repeat(revert hN;revert N;apply Pn.out));refine wk @Nat.zero_add ?_;(repeat(refine Pn.mk ?_;intro N hN))))
 refine .inr (bd _ _ _ _ _ (fun r σ1 hq=>?_) ((CX cnt hn bs ok re f (tp ee hf.le) y hy).x mixed (hz _ (fun i hi=>rfl))))
 obtain⟨⟨out,rfl,Fi⟩,rfl⟩:=hq
 refine hN _ _ ?_
 clear hN N
 have hox:=dL (f:=out) hx
 have tl:=dF out cnt
 by_cases fW:out x<0
 ·(try((repeat(revert hN;revert N;apply Pn.out));refine wk (tw @hox (tw @fW (tw @zN (tw @tl @aM.eq_1)))) ?_;(repeat(refine Pn.mk ?_;intro N hN))))
  exact gI (.inl rfl) (vs:=[.bool false]) (sd @Nat.zero_add) ⟨false,f,rfl,hS.frame (fun i hi=>rfl) (Nat.le_refl _),cE,fun i _ _=>rfl,fun _=>⟨rfl,BM Fi ok hf fW⟩,fun h=>by cases h⟩
 (try((repeat(revert hN;revert N;apply Pn.out));refine wk (tw @hox (tw @fW (tw @zN (tw @tl @aM.eq_1)))) ?_;(repeat(refine Pn.mk ?_;intro N hN))))
 refine bp (fun m env st=>∃(v:Nat) (f':Nat->Int),m=(out v).toNat/\v<cnt/\0<=out v/\env 8=.int .i64 (v:Int)/\mh bs out f f' x v/\mf cnt bs f' X A F st.get nb/\(∀i:Id,i.bR<nb->(i=F)=False->st.get i=σ.get i)/\σ.next<=st.next) (out x).toNat ⟨x,f,rfl,hx,ad,by(simp only[go_sem, ↓reduceIte,Nat.reduceEqDiff,Nat.reduceAdd,Nat.reduceSub,Nat.reduceLeDiff,reduceCtorEq]),mh.start hf.le,hS.frame (fun i hi=>rfl) (Nat.le_refl _),fun i _ _=>rfl,cE⟩ ?_
 rintro m env_b st_b ⟨v,f',rfl,hv,p9,b8,hW,hN1,lQ,hle⟩ bfr
 have b0:=bfr 0 (by kernel_rfl)
 have b2:=bfr 2 (by kernel_rfl)
 have b7:=bfr 7 (by kernel_rfl)
 simp only[go_sem, ↓reduceIte,Nat.reduceEqDiff,Nat.reduceAdd,Nat.reduceSub,Nat.reduceLeDiff,reduceCtorEq]at b0 b2 b7
 clear bfr
 by_cases Qt:v=y
 ·have hd:decide ((v:Int)=(y:Int))=true:=decide_eq_true (by rw[Qt])
  subst Qt
  (try((repeat(revert hN;revert N;apply Pn.out));refine wk (tw @b0 (tw @b2 (tw @b7 (tw @b8 @hd)))) ?_;(repeat(refine Pn.mk ?_;intro N hN))))
  exact gI (.inl rfl) (vs:=[.bool true]) (sd @Nat.zero_add) ⟨true,f',rfl,hN1,cE,lQ,fun h=>(by cases h),fun _=>hW.done hf⟩
 have hd:decide ((v:Int)=(y:Int))=false:=decide_eq_false fun h=>Qt ad
 have I2:0<out v:=by
  have:=Fi.zero v hv
  rcases Int.lt_or_eq_of_le p9 with h|h
  ·exact h
  ·exact absurd (this h.symm) Qt
 have Ko:=hW.goes Fi hv I2
 have hIm:∀ed∈ij bs bs.length v,ed<bs.length/\zW bs ed v:=fun ed h=>pz.1 h
 have hIL:(ko cnt bs bs.length)[v]? =some (ij bs bs.length v):=by simp[ko,hv]
 have hIl:=pw bs bs.length v
 generalize ij bs bs.length v=I at *
 have hIp:0<I.length:=by
  obtain⟨ed,h,_⟩:=Ko
  exact List.length_pos_of_mem h
 obtain⟨rows,id,hgA,qp,jV,hid,hid1,hid2⟩:=hN1.a.at_ hIL hIp
 rw[iE]at qp
 have hgX:=hN1.x
 have A7:(v:Int)<(cnt:Int):=ad
 have uL:=dL (f:=out) hv
 have pq:IntKind.i64.wrap (out v-1)=out v-1:=bP (by have:=Fi.lo v hv;omega)
 have oI:(I.map eN).length=I.length:=by simp
 have pj:=tp ee hW.le
 have jw:∀(g:Rows),(∀i:Id,i.bR<nb->g i=st_b.get i)->∀ed:Nat,cR (dG g) 6 [.ptr X 0 0,.int .i64 (v:Int),.int .i64 (ed:Int)]=some [.dI (fm cnt bs f'),.int .i64 v,.int .i64 ed]:=fun g hg ed=>by
  have:=(hN1.frame hg (Nat.le_refl _)).fz
  simp only[ab,ae,this,az,Option.map_some]
 rw[aM]at uL
 (try((repeat(revert hN;revert N;apply Pn.out));refine wk (tw @b0 (tw @b2 (tw @b7 (tw @b8 @hd)))) ?_;(repeat(refine Pn.mk ?_;intro N hN))))
 refine bp (fun n env st=>∃k:Nat,n=(I.length)-k/\k<=(I.length)/\env 11=.int .i64 (k:Int)/\(∃(uU Cb:Int),env 9=.int .i64 uU/\env 10=.int .i64 Cb/\((uU<0/\∀z,z<k->¬(0<eR bs f' (I.getD z 0) v/\out (bE bs (I.getD z 0) v)=out v-1))∨∃ed:Nat,ed∈I/\Cb=(ed:Int)/\uU=(bE bs ed v:Int)/\0<eR bs f' ed v/\out (bE bs ed v)=out v-1))/\((∀i:Id,st.get i=st_b.get i)/\st_b.next<=st.next)) (I.length) ⟨0,ad,ad,sl (tw @b0 (tw @b2 (tw @b7 @b8))),⟨-1,0,by(simp only[go_sem, ↓reduceIte,Nat.reduceEqDiff,Nat.reduceAdd,Nat.reduceSub,Nat.reduceLeDiff,reduceCtorEq]),by(simp only[go_sem, ↓reduceIte,Nat.reduceEqDiff,Nat.reduceAdd,Nat.reduceSub,Nat.reduceLeDiff,reduceCtorEq]),.inl ⟨ad,fun z hz=>ad⟩⟩,⟨fun i=>rfl,cE⟩⟩ ?_
 rintro n_c env_c st_c ⟨k,rfl,cle,c11,cI0,cI1⟩ cfr
 have c0:=cfr 0 (by kernel_rfl);have c2:=cfr 2 (by kernel_rfl);have c7:=cfr 7 (by kernel_rfl);have c8:=cfr 8 (by kernel_rfl)
 simp only[go_sem, ↓reduceIte,Nat.reduceEqDiff,Nat.reduceAdd,Nat.reduceSub,Nat.reduceLeDiff,reduceCtorEq,b0,b2,b7,b8]at c0 c2 c7 c8
 clear cfr
 obtain⟨uU,Cb,c9,jR,Ge⟩:=cI0
 obtain⟨kZ,hcn⟩:=cI1
 have AS:=(kZ X).trans hgX
 have AR:=(kZ A).trans hgA
 have AW:=(kZ id).trans hid
 by_cases hk:(k:Int)<(I.length:Int)
 ·have kF:∀{e:Env} {gg:Rows} {nx:Nat},(e 11=.int .i64 (IntKind.i64.wrap ((k:Int)+1)))->(∃(uU Cb:Int),e 9=.int .i64 uU/\e 10=.int .i64 Cb/\((uU<0/\∀z,z<(k+1)->¬(0<eR bs f' (I.getD z 0) v/\out (bE bs (I.getD z 0) v)=out v-1))∨∃ed:Nat,ed∈I/\Cb=(ed:Int)/\uU=(bE bs ed v:Int)/\0<eR bs f' ed v/\out (bE bs ed v)=out v-1))->((∀i:Id,gg i=st_b.get i)/\st_b.next<=nx)->∃m0,m0<(I.length)-k/\∃k:Nat,m0=(I.length)-k/\k<=(I.length)/\e 11=.int .i64 (k:Int)/\(∃(uU Cb:Int),e 9=.int .i64 uU/\e 10=.int .i64 Cb/\((uU<0/\∀z,z<k->¬(0<eR bs f' (I.getD z 0) v/\out (bE bs (I.getD z 0) v)=out v-1))∨∃ed:Nat,ed∈I/\Cb=(ed:Int)/\uU=(bE bs ed v:Int)/\0<eR bs f' ed v/\out (bE bs ed v)=out v-1))/\((∀i:Id,gg i=st_b.get i)/\st_b.next<=nx):=fun x1 x2 x3=>⟨_,ad,k+1,rfl,ad,(by rw[x1,aA ad]),x2,x3⟩
  have eo:k<I.length:=ad
  have eC:(I.map eN)[k]? =some (eN (I.getD k 0)):=getD_map eN eo
  have iP:I.getD k 0∈I:=by rw[List.getD_eq_getElem?_getD,List.getElem?_eq_getElem eo];exact List.getElem_mem eo
  obtain⟨he,nS⟩:=hIm _ iP
  have L5:=Ho cnt bs f' pj (I.getD k 0) v he
  have oU:=jw st_c.get (fun i _=>kZ i) (I.getD k 0)
  have hq:=k8 ok (v:=v) he
  have Ny:=dL (f:=out) hq
  obtain⟨ed,hed⟩:∃ed,ed=I.getD k 0:=⟨_,rfl⟩
  rw[<-hed]at eC he nS L5 oU hq Ny iP
  rw[aM]at Ny
  rw[eN]at eC
  (try((repeat(revert hN;revert N;apply Pn.out));refine wk (tw @c11 (tw @c0 (tw @c2 (tw @c7 (tw @c8 (tw @c9 (tw @jR (tw @hk (tw @AS (tw @AR (tw @AW (tw @jV (tw @qp (tw @A7 (tw @eC (tw @oI @bz.eq_1)))))))))))))))) ?_;(repeat(refine Pn.mk ?_;intro N hN))))
  refine .inl ⟨_,ak.x L5 oU,?_⟩
  refine hN _ _ ?_
  clear hN N
  have stay:∀k',k'=k+1->(¬(0<eR bs f' ed v/\out (bE bs ed v)=out v-1))->((uU<0/\∀z,z<k'->¬(0<eR bs f' (I.getD z 0) v/\out (bE bs (I.getD z 0) v)=out v-1))∨∃ed:Nat,ed∈I/\Cb=(ed:Int)/\uU=(bE bs ed v:Int)/\0<eR bs f' ed v/\out (bE bs ed v)=out v-1):=fun k' Gp lv=>by
   rcases Ge with⟨h1,h2⟩|h
   ·refine .inl ⟨h1,fun z hz=>?_⟩
    by_cases A9:z=k
    ·subst A9;rw[<-hed];exact lv
    ·exact h2 z ad
   ·exact .inr h
  by_cases hr:0<eR bs f' ed v
  ·by_cases Nt:out (bE bs ed v)=out v-1
   ·have jg:decide (out (bE bs ed v)=out v-1)=true:=decide_eq_true Nt
    have found:∃N1:Nat,N1∈I/\(ed:Int)=(N1:Int)/\(bE bs ed v:Int)=(bE bs N1 v:Int)/\0<eR bs f' N1 v/\out (bE bs N1 v)=out v-1:=⟨ed,iP,rfl,rfl,hr,Nt⟩
    by_cases H6:uU<0
    ·(try((repeat(revert hN;revert N;apply Pn.out));refine wk (tw @c11 (tw @c0 (tw @c2 (tw @c7 (tw @c8 (tw @c9 (tw @jR (tw @hk (tw @AS (tw @AR (tw @AW (tw @jV (tw @qp (tw @A7 (tw @eC (tw @oI (tw @hr (tw @Ny (tw @uL (tw @pq (tw @jg (tw @H6 @bz.eq_1)))))))))))))))))))))) ?_;(repeat(refine Pn.mk ?_;intro N hN))))
     exact kF (sd (tw @c11 (tw @c0 (tw @c2 (tw @c7 @c8))))) (⟨_,_,sd @Nat.zero_add,sd @Nat.zero_add,.inr found⟩) (⟨kZ,cE⟩)
    ·by_cases ea:(bE bs ed v:Int)<uU
     ·(try((repeat(revert hN;revert N;apply Pn.out));refine wk (tw @c11 (tw @c0 (tw @c2 (tw @c7 (tw @c8 (tw @c9 (tw @jR (tw @hk (tw @AS (tw @AR (tw @AW (tw @jV (tw @qp (tw @A7 (tw @eC (tw @oI (tw @hr (tw @Ny (tw @uL (tw @pq (tw @jg (tw @H6 (tw @ea @bz.eq_1))))))))))))))))))))))) ?_;(repeat(refine Pn.mk ?_;intro N hN))))
      exact kF (sd (tw @c11 (tw @c0 (tw @c2 (tw @c7 @c8))))) (⟨_,_,sd @Nat.zero_add,sd @Nat.zero_add,.inr found⟩) (⟨kZ,cE⟩)
     ·(try((repeat(revert hN;revert N;apply Pn.out));refine wk (tw @c11 (tw @c0 (tw @c2 (tw @c7 (tw @c8 (tw @c9 (tw @jR (tw @hk (tw @AS (tw @AR (tw @AW (tw @jV (tw @qp (tw @A7 (tw @eC (tw @oI (tw @hr (tw @Ny (tw @uL (tw @pq (tw @jg (tw @H6 (tw @ea @bz.eq_1))))))))))))))))))))))) ?_;(repeat(refine Pn.mk ?_;intro N hN))))
      exact kF (sd (tw @c11 (tw @c0 (tw @c2 (tw @c7 @c8))))) (⟨uU,Cb,sd @c9,sd @jR,by
       rcases Ge with⟨h1,_⟩|h
       ·exact absurd h1 H6
       ·exact .inr h⟩) (⟨kZ,cE⟩)
   ·have jg:decide (out (bE bs ed v)=out v-1)=false:=decide_eq_false Nt
    (try((repeat(revert hN;revert N;apply Pn.out));refine wk (tw @c11 (tw @c0 (tw @c2 (tw @c7 (tw @c8 (tw @c9 (tw @jR (tw @hk (tw @AS (tw @AR (tw @AW (tw @jV (tw @qp (tw @A7 (tw @eC (tw @oI (tw @hr (tw @Ny (tw @uL (tw @pq (tw @jg @bz.eq_1))))))))))))))))))))) ?_;(repeat(refine Pn.mk ?_;intro N hN))))
    exact kF (sd (tw @c11 (tw @c0 (tw @c2 (tw @c7 @c8))))) (⟨uU,Cb,sd @c9,sd @jR,stay _ rfl fun h=>Nt h.2⟩) (⟨kZ,cE⟩)
  ·(try((repeat(revert hN;revert N;apply Pn.out));refine wk (tw @c11 (tw @c0 (tw @c2 (tw @c7 (tw @c8 (tw @c9 (tw @jR (tw @hk (tw @AS (tw @AR (tw @AW (tw @jV (tw @qp (tw @A7 (tw @eC (tw @oI (tw @hr @bz.eq_1))))))))))))))))) ?_;(repeat(refine Pn.mk ?_;intro N hN))))
   exact kF (sd (tw @c11 (tw @c0 (tw @c2 (tw @c7 @c8))))) (⟨uU,Cb,sd @c9,sd @jR,stay _ rfl fun h=>hr h.1⟩) (⟨kZ,cE⟩)
 ·have jz:k=I.length:=ad
  have Ru:∃ed:Nat,ed∈I/\Cb=(ed:Int)/\uU=(bE bs ed v:Int)/\0<eR bs f' ed v/\out (bE bs ed v)=out v-1:=by
   rcases Ge with⟨h1,h2⟩|h
   ·exfalso
    obtain⟨ed,he,hq⟩:=Ko
    obtain⟨z,hz,rfl⟩:=List.getElem_of_mem he
    refine h2 z ad ?_
    rw[List.getD_eq_getElem?_getD,List.getElem?_eq_getElem hz];exact hq
   ·exact h
  obtain⟨ed,iP,rfl,rfl,hr,Nt⟩:=Ru
  obtain⟨he,nS⟩:=hIm _ iP
  (try((repeat(revert hN;revert N;apply Pn.out));refine wk (tw @c11 (tw @c0 (tw @c2 (tw @c7 (tw @c8 (tw @c9 (tw @jR (tw @hk (tw @AS (tw @AR (tw @AW (tw @jV (tw @qp (tw @A7 (tw @oI @bz.eq_1))))))))))))))) ?_;(repeat(refine Pn.mk ?_;intro N hN))))
  refine .inr (bd _ _ _ _ _ (fun r σ1 hq=>?_) (MA cnt bs f' pj ed v he X A F ⟨st_c.get,_⟩ nb (hN1.frame (fun i _=>kZ i) (Nat.le_refl _)) cE))
  obtain⟨Qa,oJ,pe⟩:=hq
  (try dsimp only at oJ pe)
  refine hN _ _ ?_
  clear hN N
  (try((repeat(revert hN;revert N;apply Pn.out));refine wk (tw @c11 (tw @c0 (tw @c2 (tw @c7 (tw @c8 @c9))))) ?_;(repeat(refine Pn.mk ?_;intro N hN))))
  refine⟨_,?_,bE bs ed v,rj bs f' ed v,rfl,k8 ok he,ad,sd @Nat.zero_add,hW.step he nS hr Nt,Qa,fun i hi hF=>by rw[pe i hF,kZ i,lQ i hi hF],cE⟩
  omega
def ku (P:Program) (f:Nat) (args:List AV) (R:AV->Prop):Prop:=∀σ:ar,Call P f args ⟨V.ro σ.get,σ.next⟩ fun r0 σ'=>∃r',V.fz σ'.get 6 r0=some r'/\R r'
theorem AH {P:Program} {f:Nat} {args:List AV} {g:Rows} {n:Nat} {R:AV->Prop} (h:Sound P f args ⟨V.ro g,n⟩ fun r0 σ'=>∃r',V.fz σ'.get 6 r0=some r'/\R r'):Sound P f args ⟨g,n⟩ fun r σ'=>R r/\σ'=⟨g,n⟩:=by
 intro hs D ι w vs S U A
 refine(xq (g0:=g) (K:=R) h (fun _ _ h=>h) S U A).mono ?_
 rintro e w' ⟨r,D',u,rfl,hR,T,S',hr⟩
 exact⟨r,g,n,D',ι,u,rfl,⟨hR,rfl⟩,T,S',U,Nat.le_refl _,hr⟩
theorem ku.x {P:Program} (hm:P.follows .mixedOrders=true) {f:Nat} {args:List AV} {R:AV->Prop} (h:ku P f args R) {σ:ar}:Call P f args σ fun r σ'=>R r/\σ'=σ:=
 gr (AH (gw hm (h σ)))
theorem ku.body {P:Program} {f:Nat} {args:List AV} {R:AV->Prop} {nt na:Nat} {body:VC} {res:List nO} (hf:lN P f=some ⟨nt,na,body,res⟩) (ha:na=args.length) (h:(∀a∈args,ep a)->∀σ:ar,dJ (Call P) body (kr res fun r0 σ'=>∃r',V.fz σ'.get 6 r0=some r'/\R r') (bD args) ⟨V.ro σ.get,σ.next⟩):ku P f args R:=fun σ=>kR hf ha fun hl=>h hl σ
theorem Jk {g:Rows} {rows:List (List AV)} {xs:List (List Nat)} {ids:List Id} (n:Nat) (h:cW Nf g rows xs ids):dK g (n+2) rows=some (xs.map fun l=>[MG l]):=by
 induction h with
 |nil=>rw[dK];rfl
 |cons h1 _ ih=>
  rename_i x _ _ _ _ _
  rcases h1 with⟨h0,h1,_⟩|⟨id,h1,h0,h2,_⟩
  ·subst h0 h1;rw[dK,ih,ab,ae,aC];rfl
  ·have gQ:x≠[]:=by rintro rfl;simp at h0
   subst h1
   rw[dK,ih,ab,ae,fF (e:=eN) (sz:=1) h2 rfl fun a=>fzN _ n a]
   simp[MG,gQ]
theorem mf.fz0 {cnt:Nat} {bs:List PB} {f:Nat->Int} {X A F:Id} {g:Rows} {nx:Nat} (h:mf cnt bs f X A F g nx):V.fz g 5 (.ptr X 0 0)=some (.dI (fm cnt bs f)):=by
 have hf:V.fz g 4 (.own F 0 bs.length)=some (.sl (dP f bs.length)):=by
  rw[gm]
  simp only[h.f,if_true]
  rw[if_pos (by rw[dF];omega),List.drop_zero,List.take_of_length_le (by rw[dF];omega),w6];rfl
 have ha:V.fz g 4 (.own A 0 cnt)=some (.sl (ot cnt bs bs.length)):=by
  obtain⟨rows,ids,h1,h2,_,_⟩:=h.a
  have hl:=h2.len
  rw[iE]at hl
  rw[gm]
  simp only[h1,if_true]
  rw[if_pos ad,List.drop_zero,List.take_of_length_le ad,Jk 1 h2]
  simp[ko,ot]
 rw[aJ]
 simp only[h.x,if_true,List.getElem?_cons_zero,List.drop_zero,bz,ab,ae,az,bu,ha,hf,Option.map_some,fm]
theorem Cc {S:Nat->Bool}:∀bs:List PB,(∀b∈bs,b.s<=4)->fO S bs<=4*bs.length
 |[],_=>by simp[fO]
 |b::bs,h=>by
  rw[Dm]
  have:=Cc (S:=S) bs fun x hx=>h x (List.mem_cons_of_mem _ hx)
  have:=h b (by simp)
  simp only[List.length_cons]
  split<;>omega
theorem gK.zero {bs:List PB} {x y:Nat} (h:∀e,e<bs.length->0<=(bL bs e).s/\(bL bs e).s<=4):gK bs (fun _=>0) x y 0:=
 ⟨fun i hi=>by have:=h i hi;omega,fun S _ _=>je fun i _=>by simp⟩
theorem B9 {bs:List PB} {b:PB} (h:b∈bs):∃e,e<bs.length/\bL bs e=b:=by
 obtain⟨e,he,rfl⟩:=List.getElem_of_mem h
 exact⟨e,he,by simp[bL,List.getD_eq_getElem?_getD,he]⟩
theorem Ef (cnt:Nat) (hn:cnt<=1048576) (bs:List PB) (ok:iS cnt bs) (re:bs.length<=1048576) (ee:∀e,e<bs.length->0<=(bL bs e).s/\(bL bs e).s<=4) (x y:Nat) (hx:x<cnt) (hy:y<cnt) (I5:x≠y):
  ku Tryz.prog 193 [.int .i64 cnt,.sl (bs.map aZ),.int .i64 x,.int .i64 y] fun r=>∃f val,r=.im [.dI (fm cnt bs f),.int .i64 val]/\gK bs f x y val/\∃S:Nat->Bool,S x=true/\S y=false/\val=fO S bs:=by
 refine ku.body eL rfl fun hl σ=>?_
 clear hl
 (try((repeat(revert hN;revert N;apply Pn.out));refine wk @Nat.zero_add ?_;(repeat(refine Pn.mk ?_;intro N hN))))
 refine .inr (bd _ _ _ _ _ (fun r σ1 hq=>?_) (GO cnt hn bs ok re _))
 obtain⟨X,A,F,rfl,hX,hS⟩:=hq
 refine hN _ _ ?_
 clear hN N
 have hS0:∀f val,gK bs f x y val->val<=fO (fun v=>decide (v=x)) bs:=fun f val hf=>hf.bound (decide_eq_true rfl) (decide_eq_false fun h=>I5 h.symm)
 have htot:=Cc (S:=fun v=>decide (v=x)) bs fun b hb=>by
  obtain⟨e,he,rfl⟩:=B9 hb
  exact(ee e he).2
 generalize fO (fun v=>decide (v=x)) bs=T at *
 (try((repeat(revert hN;revert N;apply Pn.out));refine wk @Nat.zero_add ?_;(repeat(refine Pn.mk ?_;intro N hN))))
 refine bp (fun m env st=>∃(f:Nat->Int) (val:Int),m=(T-val).toNat/\0<=val/\env 10=.ptr X 0 0/\env 11=.int .i64 val/\gK bs f x y val/\mf cnt bs f X A F st.get σ1.next/\σ1.next<=st.next) T.toNat ⟨_,0,by simp,ad,by(simp only[go_sem, ↓reduceIte,Nat.reduceEqDiff,Nat.reduceAdd,Nat.reduceSub,Nat.reduceLeDiff,reduceCtorEq]),by(simp only[go_sem, ↓reduceIte,Nat.reduceEqDiff,Nat.reduceAdd,Nat.reduceSub,Nat.reduceLeDiff,reduceCtorEq]),gK.zero ee,hS.frame (fun i hi=>rfl) (Nat.le_refl _),cE⟩ ?_
 rintro m env_b st_b ⟨f,val,rfl,p9,b10,FD,hf,hN1,hle⟩ bfr
 have b2:=bfr 2 (by kernel_rfl)
 have b3:=bfr 3 (by kernel_rfl)
 simp only[go_sem, ↓reduceIte,Nat.reduceEqDiff,Nat.reduceAdd,Nat.reduceSub,Nat.reduceLeDiff,reduceCtorEq]at b2 b3
 clear bfr
 (try((repeat(revert hN;revert N;apply Pn.out));refine wk (tw @b2 (tw @b3 @b10)) ?_;(repeat(refine Pn.mk ?_;intro N hN))))
 refine .inr (bd _ _ _ _ _ (fun r σ2 hq=>?_) (Lz cnt hn bs ok re ee f x y hx hy I5 val hf X A F ⟨st_b.get,_⟩ σ1.next hN1 cE))
 obtain⟨b,f',rfl,Qa,oJ,_,lv,Sn⟩:=hq
 (try dsimp only at oJ)
 refine hN _ _ ?_
 clear hN N
 cases b with
 |true=>
  have mJ:=Sn rfl
  have Ct:=hS0 _ _ hf
  have tH:=hS0 _ _ mJ
  have hw:IntKind.i64.wrap (val+1)=val+1:=bP ad
  (try((repeat(revert hN;revert N;apply Pn.out));refine wk (tw @b10 (tw @FD @hw)) ?_;(repeat(refine Pn.mk ?_;intro N hN))))
  exact⟨_,ad,f',val+1,rfl,ad,sd @b10,sd (tw @FD @hw),mJ,Qa,cE⟩
 |false=>
  obtain⟨rfl,S,h1,h2,h3⟩:=lv rfl
  (try((repeat(revert hN;revert N;apply Pn.out));refine wk (tw @b10 @FD) ?_;(repeat(refine Pn.mk ?_;intro N hN))))
  have hz:=Qa.fz0
  exact⟨[.ptr X 0 0,.int .i64 val],sd @Nat.zero_add,.im [.dI (fm cnt bs f'),.int .i64 val],by simp only[eH,aX,ab,ae,hz,az,Option.map_some],f',val,rfl,hf,S,h1,h2,h3⟩
theorem yW (v1 v2:Int) (l1 l2:List Nat) (h1:l1.length<=1048576) (h2:l2.length<=1048576):
  kz Tryz.prog 195 [.int .i64 v1,.sl (l1.map eN),.int .i64 v2,.sl (l2.map eN)] fun r=>∃b,r=.bool b/\(v1<v2->b=true)/\(v2<v1->b=false):=by
 refine kz.body eL rfl fun hl n0=>?_
 clear hl
 have ret:∀{t:Nat} {env:Env} {σ:ar} {b:Bool} {x:Ex},(x=.ret∨x=.normal)->env t=.bool b->((v1<v2->b=true)/\(v2<v1->b=false))->kr [.tmp t] (fun r0 σ'=>∃r',fu σ'.get 6 r0=some r'/\∃b,r'=.bool b/\(v1<v2->b=true)/\(v2<v1->b=false)) x env σ:=by
  intro t env σ b x hx he hb
  have:∃vs,fe env σ.get [.tmp t]=some vs/\∃r',fu σ.get 6 (eH vs)=some r'/\∃b,r'=.bool b/\(v1<v2->b=true)/\(v2<v1->b=false):=⟨[env t],rfl,.bool b,by rw[he];exact jS _ _ _,b,rfl,hb⟩
  rcases hx with rfl|rfl
  ·exact this
  ·exact this
 have m1:(l1.map eN).length=l1.length:=by simp
 have m2:(l2.map eN).length=l2.length:=by simp
 by_cases hv:v1=v2
 ·have hd:decide (v1=v2)=true:=decide_eq_true hv
  by_cases sJ:(l1.length:Int)=(l2.length:Int)
  ·have jg:decide ((l1.length:Int)=(l2.length:Int))=true:=decide_eq_true sJ
   have Rj:decide (l1.length=l2.length)=true:=decide_eq_true ad
   (try((repeat(revert hN;revert N;apply Pn.out));refine wk (tw @hd (tw @jg (tw @Rj (tw @m1 @m2)))) ?_;(repeat(refine Pn.mk ?_;intro N hN))))
   refine bp (fun n env st=>∃k:Nat,n=(l1.length)-k/\k<=(l1.length)/\env 9=.int .i64 (k:Int)) (l1.length) ⟨0,ad,ad,sl @Nat.zero_add⟩ ?_
   rintro n_a env_a st_a ⟨k,rfl,ale,a9⟩ dt
   have a1:=dt 1 (by kernel_rfl);have a3:=dt 3 (by kernel_rfl)
   simp only[go_sem, ↓reduceIte,Nat.reduceEqDiff,Nat.reduceAdd,Nat.reduceSub,Nat.reduceLeDiff,reduceCtorEq]at a1 a3
   clear dt
   by_cases hk:(k:Int)<(l1.length:Int)
   ·have bK:∀{e:Env},(e 9=.int .i64 (IntKind.i64.wrap ((k:Int)+1)))->∃m0,m0<(l1.length)-k/\∃k:Nat,m0=(l1.length)-k/\k<=(l1.length)/\e 9=.int .i64 (k:Int):=fun x1=>⟨_,ad,k+1,rfl,ad,(by rw[x1,aA ad])⟩
    have g1:(l1.map eN)[k]? =some (eN (l1.getD k 0)):=getD_map eN ad
    have g2:(l2.map eN)[k]? =some (eN (l2.getD k 0)):=getD_map eN ad
    rw[eN]at g1 g2
    by_cases he:((l1.getD k 0:Nat):Int)=((l2.getD k 0:Nat):Int)
    ·have Rk:decide (((l1.getD k 0:Nat):Int)=((l2.getD k 0:Nat):Int))=true:=decide_eq_true he
     have Rl:decide (l1.getD k 0=l2.getD k 0)=true:=decide_eq_true ad
     (try((repeat(revert hN;revert N;apply Pn.out));refine wk (tw @a9 (tw @a1 (tw @a3 (tw @hk (tw @m1 (tw @g1 (tw @g2 (tw @Rk @Rl)))))))) ?_;(repeat(refine Pn.mk ?_;intro N hN))))
     exact bK (sd (tw @a9 (tw @a1 @a3)))
    ·have Rk:decide (((l1.getD k 0:Nat):Int)=((l2.getD k 0:Nat):Int))=false:=decide_eq_false he
     have Rl:decide (l1.getD k 0=l2.getD k 0)=false:=decide_eq_false ad
     (try((repeat(revert hN;revert N;apply Pn.out));refine wk (tw @a9 (tw @a1 (tw @a3 (tw @hk (tw @m1 (tw @g1 (tw @g2 (tw @Rk @Rl)))))))) ?_;(repeat(refine Pn.mk ?_;intro N hN))))
     exact ret (.inl rfl) (by simp only[go_sem, ↓reduceIte,Nat.reduceEqDiff,Nat.reduceAdd,Nat.reduceSub,Nat.reduceLeDiff,reduceCtorEq];rfl) ⟨fun h=>ad,fun h=>ad⟩
   ·(try((repeat(revert hN;revert N;apply Pn.out));refine wk (tw @a9 (tw @a1 (tw @a3 (tw @hk @m1)))) ?_;(repeat(refine Pn.mk ?_;intro N hN))))
    exact ret (b:=false) (.inl rfl) (sd @Nat.zero_add) ⟨fun h=>ad,fun h=>ad⟩
  ·have jg:decide ((l1.length:Int)=(l2.length:Int))=false:=decide_eq_false sJ
   have Rj:decide (l1.length=l2.length)=false:=decide_eq_false ad
   (try((repeat(revert hN;revert N;apply Pn.out));refine wk (tw @hd (tw @jg (tw @Rj (tw @m1 @m2)))) ?_;(repeat(refine Pn.mk ?_;intro N hN))))
   exact ret (.inl rfl) (by simp only[go_sem, ↓reduceIte,Nat.reduceEqDiff,Nat.reduceAdd,Nat.reduceSub,Nat.reduceLeDiff,reduceCtorEq];rfl) ⟨fun h=>ad,fun h=>ad⟩
 ·have hd:decide (v1=v2)=false:=decide_eq_false hv
  (try((repeat(revert hN;revert N;apply Pn.out));refine wk @hd ?_;(repeat(refine Pn.mk ?_;intro N hN))))
  exact ret (b:=decide (v1<v2)) (.inl rfl) (sd @Nat.zero_add) ⟨fun h=>decide_eq_true h,fun h=>decide_eq_false ad⟩
def lg (bs:List PB) (cnt:Nat) (dR:Int) (k:Nat):Prop:=(k=1/\dR= -1)∨(0<=dR/\(∀z,1<=z->z<k->∀S:Nat->Bool,S 0=true->S z=false->dR<=fO S bs)/\∃S:Nat->Bool,S 0=true/\(∃z,z<cnt/\S z=false)/\dR=fO S bs)
theorem gK.nn {bs:List PB} {val:Int} {S:Nat->Bool} (ee:∀e,e<bs.length->0<=(bL bs e).s/\(bL bs e).s<=4) (h:val=fO S bs):0<=val:=by
 rw[h,o8]
 have:=nH (f:=fun _=>0) (g:=fun i=>if S (bL bs i).a=S (bL bs i).b then 0 else(bL bs i).s) (n:=bs.length) fun i hi=>by
  have:=ee i hi
  split<;>omega
 rw[je fun _ _=>rfl]at this
 exact this
theorem lg.done {bs:List PB} {cnt:Nat} {dR:Int} (hc:2<=cnt) (h:lg bs cnt dR cnt) (t:Int):t<=dR↔oi cnt bs t:=by
 rcases h with⟨h,_⟩|⟨_,h1,S,h2,⟨z,hz,jw⟩,h3⟩
 ·omega
 ·constructor
  ·intro ht S h0 ⟨y,hy,hy2⟩
   have:y≠0:=by rintro rfl;rw[h0]at hy2;cases hy2
   have:=h1 y ad hy S h0 hy2
   omega
  ·intro hH
   rw[h3];exact hH S h2 ⟨z,hz,jw⟩
end Go.Proofs.YtphenfakmdknlaaGreat.V

namespace Go.Proofs.YtphenfakmdknlaaGreat.V
def jD (Q:Nat->Prop) [DecidablePred Q] (S:Nat->Bool) (bs:List PB):Int:=(bs.map fun b=>if Q b.a/\Q b.b then(if S b.a=S b.b then 0 else b.s)else 0).sum
theorem uu {P Q:Nat->Prop} [DecidablePred P] [DecidablePred Q] {S:Nat->Bool} (h:∀x,P x->Q x):∀{bs:List PB},(∀b∈bs,0<=b.s)->jD P S bs<=jD Q S bs
 |[],_=>Int.le_refl _
 |b::bs,hs=>by
  have ih:=uu (S:=S) h (bs:=bs) fun x hx=>hs x (List.mem_cons_of_mem _ hx)
  have h0:=hs b List.mem_cons_self
  unfold jD at ih ⊢
  simp only[List.map_cons,List.sum_cons]
  have:(if P b.a/\P b.b then(if S b.a=S b.b then 0 else b.s)else 0)<=(if Q b.a/\Q b.b then(if S b.a=S b.b then 0 else b.s)else 0):=by
   by_cases hp:P b.a/\P b.b
   ·have hq:Q b.a/\Q b.b:=⟨h _ hp.1,h _ hp.2⟩
    rw[if_pos hp,if_pos hq];exact Int.le_refl _
   ·rw[if_neg hp]
    split
    ·split<;>omega
    ·exact Int.le_refl _
  omega
def ft (bs:List PB) (t:Int) (P:List Nat):Prop:=∀S:Nat->Bool,(∃x∈P,S x=true)->(∃y∈P,S y=false)->t<=jD (·∈P) S bs
theorem BH {bs:List PB} {t:Int} {P Q:List Nat} (hs:∀b∈bs,0<=b.s) (hP:ft bs t P) (h:∀x∈P,x∈Q) {S:Nat->Bool} (hc:jD (·∈Q) S bs<t):(∀x∈P,S x=true)∨∀x∈P,S x=false:=by
 by_cases h1:∃x∈P,S x=true
 ·refine .inl fun y hy=>?_
  cases h2:S y
  ·have:=hP S h1 ⟨y,hy,h2⟩
   have:=uu (P:=(·∈P)) (Q:=(·∈Q)) (S:=S) h hs
   omega
  ·rfl
 ·refine .inr fun y hy=>?_
  cases h2:S y
  ·rfl
  ·exact absurd ⟨y,hy,h2⟩ h1
structure dZ (n:Nat) (bs:List PB) (t:Int) (R:List (List Nat)):Prop where
 some:∀p∈R,p≠[]
 HV:∀p∈R,p.Pairwise (· < ·)
 lt:∀p∈R,∀x∈p,x<n
 apart:R.Pairwise fun p q=>∀x∈p,x∉q
 CW:∀P:List Nat,P≠[]->(∀x∈P,x<n)->ft bs t P->∃p∈R,∀x∈P,x∈p
theorem dZ.perm {n:Nat} {bs:List PB} {t:Int} {R R':List (List Nat)} (h:dZ n bs t R) (hp:R.Perm R'):dZ n bs t R':=
 ⟨fun p hm=>h.some p (hp.mem_iff.2 hm),fun p hm=>h.HV p (hp.mem_iff.2 hm),fun p hm=>h.lt p (hp.mem_iff.2 hm),(hp.pairwise_iff fun {a b} l7 x hx hc=>l7 x hc hx).1 h.apart,fun P h1 h2 h3=>by
  obtain⟨p,hm,hq⟩:=h.CW P h1 h2 h3
  exact⟨p,hp.mem_iff.1 hm,hq⟩⟩
theorem dZ.all (n:Nat) (bs:List PB) (t:Int) (h0:0<n):dZ n bs t [List.range n]:=
 ⟨fun p hp=>by rw[List.mem_singleton.1 hp];intro e;have:=congrArg List.length e;simp at this;omega,fun p hp=>by rw[List.mem_singleton.1 hp];exact List.pairwise_lt_range,fun p hp x hx=>by rw[List.mem_singleton.1 hp]at hx;exact List.mem_range.1 hx,List.pairwise_singleton ..,fun P h1 h2 _=>⟨_,List.mem_singleton_self _,fun x hx=>List.mem_range.2 (h2 x hx)⟩⟩
theorem dZ.split {n:Nat} {bs:List PB} {t:Int} {Q:List Nat} {R:List (List Nat)} (hs:∀b∈bs,0<=b.s) (h:dZ n bs t (Q::R)) {S:Nat->Bool} (h1:∃x∈Q,S x=true) (h2:∃y∈Q,S y=false) (hc:jD (·∈Q) S bs<t):dZ n bs t (Q.filter S::Q.filter (fun x=> !S x)::R):=by
 have iP:∀{p},p∈Q.filter S::Q.filter (fun x=> !S x)::R->p=Q.filter S∨p=Q.filter (fun x=> !S x)∨p∈R:=fun hp=>by simpa using hp
 have ha:=List.pairwise_cons.1 h.apart
 refine⟨fun p hp=>?_,fun p hp=>?_,fun p hp x hx=>?_,?_,fun P k1 k2 k3=>?_⟩
 ·rcases iP hp with rfl|rfl|hp
  ·obtain⟨x,hx,hb⟩:=h1
   exact List.ne_nil_of_mem (List.mem_filter.2 ⟨hx,hb⟩)
  ·obtain⟨x,hx,hb⟩:=h2
   exact List.ne_nil_of_mem (List.mem_filter.2 ⟨hx,by rw[hb];rfl⟩)
  ·exact h.some p (by simp[hp])
 ·rcases iP hp with rfl|rfl|hp
  ·exact(h.HV Q (by simp)).filter _
  ·exact(h.HV Q (by simp)).filter _
  ·exact h.HV p (by simp[hp])
 ·rcases iP hp with rfl|rfl|hp
  ·exact h.lt Q (by simp) x (List.mem_filter.1 hx).1
  ·exact h.lt Q (by simp) x (List.mem_filter.1 hx).1
  ·exact h.lt p (by simp[hp]) x hx
 ·refine List.pairwise_cons.2 ⟨fun q hq x hx hy=>?_,List.pairwise_cons.2 ⟨fun q hq x hx hy=>?_,ha.2⟩⟩
  ·have hx:=List.mem_filter.1 hx
   rcases List.mem_cons.1 hq with rfl|hq
   ·have:=(List.mem_filter.1 hy).2
    rw[hx.2]at this;cases this
   ·exact ha.1 q hq x hx.1 hy
  ·exact ha.1 q hq x (List.mem_filter.1 hx).1 hy
 ·obtain⟨p,hp,hq⟩:=h.CW P k1 k2 k3
  rcases List.mem_cons.1 hp with rfl|hp
  ·rcases BH hs k3 hq hc with k|k
   ·exact⟨p.filter S,by simp,fun x hx=>List.mem_filter.2 ⟨hq x hx,k x hx⟩⟩
   ·exact⟨p.filter (fun x=> !S x),by simp,fun x hx=>List.mem_filter.2 ⟨hq x hx,by rw[k x hx];rfl⟩⟩
  ·exact⟨p,by simp[hp],hq⟩
theorem sb:∀{p q:List Nat},p.Pairwise (· < ·)->q.Pairwise (· < ·)->(∀x,x∈p↔x∈q)->p=q
 |[],[],_,_,_=>rfl
 |[],y::q,_,_,h=>absurd ((h y).2 (by simp)) (by simp)
 |x::p,[],_,_,h=>absurd ((h x).1 (by simp)) (by simp)
 |x::p,y::q,hp,hq,h=>by
  have hp:=List.pairwise_cons.1 hp
  have hq:=List.pairwise_cons.1 hq
  have I5:x=y:=by
   rcases List.mem_cons.1 ((h x).1 (by simp))with e|e
   ·exact e
   ·rcases List.mem_cons.1 ((h y).2 (by simp))with e2|e2
    ·exact e2.symm
    ·have:=hp.1 y e2;have:=hq.1 x e;omega
  subst I5
  rw[sb hp.2 hq.2 fun z=>?_]
  constructor
  ·intro hz
   rcases List.mem_cons.1 ((h z).1 (by simp[hz]))with e|e
   ·have:=hp.1 z hz;omega
   ·exact e
  ·intro hz
   rcases List.mem_cons.1 ((h z).2 (by simp[hz]))with e|e
   ·have:=hq.1 z hz;omega
   ·exact e
theorem z7 {R:List (List Nat)} (h:R.Pairwise fun p q=>∀x∈p,x∉q) {p q:List Nat} (hp:p∈R) (hq:q∈R) {x:Nat} (h1:x∈p) (h2:x∈q):p=q:=by
 induction h with
 |nil=>cases hp
 |cons ha _ ih=>
  rcases List.mem_cons.1 hp with e1|k1
  ·rcases List.mem_cons.1 hq with e2|k2
   ·rw[e1,e2]
   ·rw[e1]at h1;exact absurd h2 (ha q k2 x h1)
  ·rcases List.mem_cons.1 hq with e2|k2
   ·rw[e2]at h2;exact absurd h1 (ha p k1 x h2)
   ·exact ih k1 k2
theorem s5 {n:Nat} {bs:List PB} {t:Int} {R R':List (List Nat)} (h:dZ n bs t R) (h':dZ n bs t R') (hs:∀p∈R,ft bs t p) (tL:∀p∈R',ft bs t p) (p:List Nat):p∈R↔p∈R':=by
 have key:∀{R R':List (List Nat)},dZ n bs t R->dZ n bs t R'->(∀p∈R,ft bs t p)->(∀p∈R',ft bs t p)->∀p∈R,p∈R':=by
  intro R R' h h' hs tL p hp
  obtain⟨q,hq,hpq⟩:=h'.CW p (h.some p hp) (h.lt p hp) (hs p hp)
  obtain⟨p2,IT,hqp⟩:=h.CW q (h'.some q hq) (h'.lt q hq) (tL q hq)
  obtain⟨x,hx⟩:=List.exists_mem_of_ne_nil p (h.some p hp)
  have e:p=p2:=z7 h.apart hp IT hx (hqp x (hpq x hx))
  have e2:p=q:=sb (h.HV p hp) (h'.HV q hq) fun y=>⟨hpq y,fun hy=>by rw[e];exact hqp y hy⟩
  rw[e2];exact hq
 exact⟨key h h' hs tL p,key h' h tL hs p⟩
theorem sH:∀{R R':List (List Nat)},(R.Pairwise fun p q=>p.headD 0<q.headD 0)->(R'.Pairwise fun p q=>p.headD 0<q.headD 0)->(∀p,p∈R↔p∈R')->R=R'
 |[],[],_,_,_=>rfl
 |[],y::q,_,_,h=>absurd ((h y).2 (by simp)) (by simp)
 |x::p,[],_,_,h=>absurd ((h x).1 (by simp)) (by simp)
 |x::p,y::q,hp,hq,h=>by
  have hp:=List.pairwise_cons.1 hp
  have hq:=List.pairwise_cons.1 hq
  have I5:x=y:=by
   rcases List.mem_cons.1 ((h x).1 (by simp))with e|e
   ·exact e
   ·rcases List.mem_cons.1 ((h y).2 (by simp))with e2|e2
    ·exact e2.symm
    ·have:=hp.1 y e2;have:=hq.1 x e;omega
  subst I5
  rw[sH hp.2 hq.2 fun z=>?_]
  constructor
  ·intro hz
   rcases List.mem_cons.1 ((h z).1 (by simp[hz]))with e|e
   ·have:=hp.1 z hz;rw[e]at this;omega
   ·exact e
  ·intro hz
   rcases List.mem_cons.1 ((h z).2 (by simp[hz]))with e|e
   ·have:=hq.1 z hz;rw[e]at this;omega
   ·exact e
end Go.Proofs.YtphenfakmdknlaaGreat.V

namespace Go.Proofs.YtphenfakmdknlaaGreat.V
open Go.RowKit
attribute [local irreducible] dJ wpOps e8 Call
attribute [local go_sem] ax eB dY eJ eI cJ upd bD K.av bW AV.cells AV.cell rowOf rowsOf part ld rowAt bC bx cU de fj bf cC dv eO er cL dm cw cu cZ da bl aI bZ bj ck cj di dn dj bY bo cz dh bh au cq bJ fh aT bV bm aH cS aQ cV AV.undef aV bc db dd cY dc bQ du dw bG dq dp cm cr List.getD_cons_zero List.getD_cons_succ List.getD_nil List.all_cons List.all_nil Bool.and_true Bool.true_and Bool.and_self Bool.not_true Bool.not_false Option.map_some Option.map_none Option.bind_some Option.bind_none List.length_cons List.length_nil List.take_succ_cons List.take_zero List.take_nil List.drop_succ_cons List.drop_zero List.drop_nil List.head?_cons List.map_cons List.map_nil List.getElem?_cons_zero List.getElem?_cons_succ List.cons_append List.nil_append List.append_nil List.length_map List.set_cons_zero List.set_cons_succ Nat.reduceMul eq_self Int.toNat_natCast Int.natCast_nonneg and_self true_and and_true decide_true decide_false Bool.false_eq_true Nat.zero_add Nat.add_zero List.contains_cons List.contains_nil Bool.or_false Bool.false_or beq_self_eq_true Nat.reduceBEq ne_eq not_true_eq_false not_false_eq_true Id.mk.injEq false_and and_false Nat.reduceLT Int.reduceLE Int.reduceLT Int.reduceToNat Int.reduceNeg Int.reduceAdd Nat.le_refl List.length_append beq_true beq_false Bool.not_eq_eq_eq_not or_false false_or dG ab ae az aU bu aC aP aE aJ cD aX
theorem tr {f g:Nat->Int}:∀{n:Nat},(∀i,i<n->f i<=g i)->jr f n=jr g n->∀i,i<n->f i=g i
 |0,_,_,i,hi=>absurd hi ad
 |n+1,h,he,i,hi=>by
  simp only[jr]at he
  have h1:=nH (n:=n) fun i hi=>h i ad
  have h2:=h n ad
  by_cases gP:i=n
  ·subst gP;omega
  ·have e:jr f n=jr g n:=ad
   exact tr (n:=n) (fun i hi=>h i ad) e i ad
theorem gK.shut {bs:List PB} {cnt:Nat} {f:Nat->Int} {x y:Nat} {val:Int} (h:gK bs f x y val) (ok:iS cnt bs) {S:Nat->Bool} (hx:S x=true) (hy:S y=false) (hv:val=fO S bs) {e v:Nat} (he:e<bs.length) (hi:zW bs e v) (h1:S v=true) (h2:S (bE bs e v)=false):¬0<eR bs f e v:=by
 have hc:=h.cut S hx hy
 rw[hv,o8]at hc
 have ht:=tr (fun i hi=>by
  have:=h.le i hi
  show f i*(bi (S (bL bs i).a)-bi (S (bL bs i).b))<=if S (bL bs i).a=S (bL bs i).b then 0 else(bL bs i).s
  cases S (bL bs i).a<;>cases S (bL bs i).b<;>simp[bi]<;>omega) hc e he
 have gQ:=(ok e he).2.2
 unfold bE at h2
 unfold eR
 by_cases ha:(bL bs e).a=v
 ·rw[if_pos ha]at h2 ⊢
  rw[ha,h1,h2]at ht
  simp[bi]at ht
  omega
 ·rw[if_neg ha]at h2 ⊢
  have hb:(bL bs e).b=v:=by rcases hi with h|h;exact absurd h ha;exact h
  rw[hb,h1,h2]at ht
  simp[bi]at ht
  omega
theorem ES {cnt:Nat} {bs:List PB} {f:Nat->Int} {x y:Nat} {val:Int} {out:Nat->Int} (hs:om cnt bs f y out) (ok:iS cnt bs) (hf:gK bs f x y val) (Si:x<cnt) (hS:∃S:Nat->Bool,S x=true/\S y=false/\val=fO S bs):out x<0:=by
 obtain⟨S,h1,h2,h3⟩:=hS
 have key:∀k:Nat,∀v,v<cnt->out v=k->S v=false:=by
  intro k
  induction k with
  |zero=>intro v hv h0;rw[hs.zero v hv h0];exact h2
  |succ k ih=>
   intro v hv hk
   obtain⟨e,he,hi,hr,hd⟩:=hs.down v hv ad
   have h4:=ih (bE bs e v) (k8 ok he) ad
   cases h5:S v
   ·rfl
   ·exact absurd hr (hf.shut ok h1 h2 h3 he hi h5 h4)
 rcases Int.lt_or_le (out x) 0 with h|h
 ·exact h
 ·have:=key (out x).toNat x Si ad
  rw[h1]at this;cases this
theorem ER {cnt:Nat} {bs:List PB} {f:Nat->Int} {x y:Nat} {val:Int} {out:Nat->Int} (hs:om cnt bs f y out) (ok:iS cnt bs) (hf:gK bs f x y val) (hx:out x<0):val=fO (fun v=>decide (out v<0)) bs:=by
 refine hf.full (decide_eq_true hx) (decide_eq_false (by rw[hs.first];omega)) fun i hi l7=>⟨fun h1 h2 hr=>?_,fun h1 h2 hr=>?_⟩
 ·have IF:=of_decide_eq_true h1
  have uI:=of_decide_eq_false h2
  have:=hs.shut i (bL bs i).a hi (.inl rfl) (by unfold bE;rw[if_pos rfl];omega) hr
  omega
 ·have IF:=of_decide_eq_true h1
  have uI:=of_decide_eq_false h2
  have:=hs.shut i (bL bs i).b hi (.inr rfl) (by unfold bE;rw[if_neg l7];omega) hr
  omega
theorem pJ (cnt:Nat) (p:Nat->Bool) (k:Nat):(List.range (k+1)).filter p=(List.range k).filter p++if p k then[k]else[]:=by
 rw[List.range_succ,List.filter_append,List.filter_cons,List.filter_nil]
theorem Eg (cnt:Nat) (hn:cnt<=1048576) (bs:List PB) (ok:iS cnt bs) (re:bs.length<=1048576) (f:Nat->Int) (hs:Small bs f) (y:Nat) (hy:y<cnt):
  kz Tryz.prog 194 [.dI (fm cnt bs f),.int .i64 y] fun r=>∃out,om cnt bs f y out/\r=.sl (((List.range cnt).filter fun v=>decide (0<=out v)).map eN):=by
 refine kz.body eL rfl fun hl n0=>?_
 clear hl
 have hz:∀g:Rows,cR (dG g) 6 [.dI (fm cnt bs f),.int .i64 (y:Int)]=some [.dI (fm cnt bs f),.int .i64 y]:=fun g=>by simp only[ab,ae,aE,az,Option.map_some]
 (try((repeat(revert hN;revert N;apply Pn.out));refine wk @Nat.zero_add ?_;(repeat(refine Pn.mk ?_;intro N hN))))
 refine .inr (bd _ _ _ _ _ (fun r σ1 hq=>?_) ((CX cnt hn bs ok re f hs y hy).x mixed (hz _)))
 obtain⟨⟨out,rfl,Fi⟩,rfl⟩:=hq
 refine hN _ _ ?_
 clear hN N
 (try((repeat(revert hN;revert N;apply Pn.out));refine wk @fm.eq_1 ?_;(repeat(refine Pn.mk ?_;intro N hN))))
 refine bp (fun n env st=>∃k:Nat,n=(cnt)-k/\k<=(cnt)/\env 7=.int .i64 (k:Int)/\(∃(o:Id) (l:List Nat),env 6=.own o 0 l.length/\st.get o=some ⟨true,1,l.map eN⟩/\o.bR<st.next/\l=(List.range k).filter fun v=>decide (0<=out v))) (cnt) ⟨0,ad,ad,sl @fm.eq_1,⟨⟨194002000,n0+1+1+1⟩,[],by(simp only[go_sem, ↓reduceIte,Nat.reduceEqDiff,Nat.reduceAdd,Nat.reduceSub,Nat.reduceLeDiff,reduceCtorEq])<;>rfl,by(simp only[go_sem, ↓reduceIte,Nat.reduceEqDiff,Nat.reduceAdd,Nat.reduceSub,Nat.reduceLeDiff,reduceCtorEq])<;>rfl,cE,rfl⟩⟩ ?_
 rintro n_a env_a st_a ⟨k,rfl,ale,a7,aI0⟩ dt
 have a0:=dt 0 (by kernel_rfl);have a5:=dt 5 (by kernel_rfl)
 simp only[go_sem, ↓reduceIte,Nat.reduceEqDiff,Nat.reduceAdd,Nat.reduceSub,Nat.reduceLeDiff,reduceCtorEq,fm]at a0 a5
 clear dt
 obtain⟨o,l,a6,ag,uL,sJ⟩:=aI0
 have CB:l.length<=k:=by rw[sJ];exact Nat.le_trans (List.length_filter_le _ _) (by rw[List.length_range];exact Nat.le_refl _)
 have H8:=pJ cnt (fun v=>decide (0<=out v)) k
 have p9:=dW uL
 have fP:(l.map eN).length=l.length:=by simp
 by_cases hk:(k:Int)<(cnt:Int)
 ·have bK:∀{e:Env} {gg:Rows} {nx:Nat},(e 7=.int .i64 (IntKind.i64.wrap ((k:Int)+1)))->(∃(o:Id) (l:List Nat),e 6=.own o 0 l.length/\gg o=some ⟨true,1,l.map eN⟩/\o.bR<nx/\l=(List.range (k+1)).filter fun v=>decide (0<=out v))->∃m0,m0<(cnt)-k/\∃k:Nat,m0=(cnt)-k/\k<=(cnt)/\e 7=.int .i64 (k:Int)/\(∃(o:Id) (l:List Nat),e 6=.own o 0 l.length/\gg o=some ⟨true,1,l.map eN⟩/\o.bR<nx/\l=(List.range k).filter fun v=>decide (0<=out v)):=fun x1 x2=>⟨_,ad,k+1,rfl,ad,(by rw[x1,aA ad]),x2⟩
  have rE:=dL (f:=out) (show k<cnt by omega)
  rw[aM]at rE
  have e1:l.length+1<=16777216:=ad
  by_cases h0:0<=out k
  ·(try((repeat(revert hN;revert N;apply Pn.out));refine wk (tw @a7 (tw @a0 (tw @a5 (tw @a6 (tw @ag (tw @p9 (tw @hk (tw @rE (tw @h0 (tw @e1 (tw @fP @fm.eq_1))))))))))) ?_;(repeat(refine Pn.mk ?_;intro N hN))))
   exact bK (sd (tw @a7 (tw @a0 (tw @a5 @fm.eq_1)))) (⟨⟨194007003,st_a.next+1+1⟩,l++[k],by rw[List.length_append];simp only[go_sem, ↓reduceIte,Nat.reduceEqDiff,Nat.reduceAdd,Nat.reduceSub,Nat.reduceLeDiff,reduceCtorEq,List.length_cons,List.length_nil],by rw[List.map_append,List.map_cons,List.map_nil];simp only[go_sem, ↓reduceIte,Nat.reduceEqDiff,Nat.reduceAdd,Nat.reduceSub,Nat.reduceLeDiff,reduceCtorEq,eN],cE,by rw[H8,if_pos (decide_eq_true h0),<-sJ]⟩)
  ·(try((repeat(revert hN;revert N;apply Pn.out));refine wk (tw @a7 (tw @a0 (tw @a5 (tw @a6 (tw @ag (tw @p9 (tw @hk (tw @rE (tw @h0 (tw @fP @fm.eq_1)))))))))) ?_;(repeat(refine Pn.mk ?_;intro N hN))))
   exact bK (sd (tw @a7 (tw @a0 (tw @a5 @fm.eq_1)))) (⟨o,l,sd @a6,sd @ag,cE,by rw[H8,if_neg (by simpa using h0),List.append_nil];exact sJ⟩)
 ·(try((repeat(revert hN;revert N;apply Pn.out));refine wk (tw @a7 (tw @a0 (tw @a5 (tw @a6 (tw @hk @fm.eq_1))))) ?_;(repeat(refine Pn.mk ?_;intro N hN))))
  have lu:fu st_a.get 6 (.own o 0 l.length)=some (.sl (l.map eN)):=fa ag rfl fun b=>IC _ 4 b
  exact⟨_,rfl,_,by simp only[go_sem, ↓reduceIte,Nat.reduceEqDiff,Nat.reduceAdd,Nat.reduceSub,Nat.reduceLeDiff,reduceCtorEq,eH];exact lu,out,Fi,by rw[sJ,show k=cnt by omega]⟩
def nY (cnt:Nat) (bs:List PB) (dR:Int) (l:List Nat):Prop:=∃S:Nat->Bool,S 0=true/\(∃z,z<cnt/\S z=false)/\dR=fO S bs/\l=(List.range cnt).filter fun v=> !S v
theorem wD (cnt:Nat) (h2:2<=cnt) (hn:cnt<=1048576) (bs:List PB) (ok:iS cnt bs) (re:bs.length<=1048576) (ee:∀e,e<bs.length->0<=(bL bs e).s/\(bL bs e).s<=4):
  ku Tryz.prog 91 [.int .i64 cnt,.sl (bs.map aZ)] fun r=>∃dR l,r=.im [.int .i64 dR,.sl (l.map eN)]/\(∀t:Int,t<=dR↔oi cnt bs t)/\nY cnt bs dR l:=by
 refine ku.body eL rfl fun hl σ=>?_
 clear hl
 (try((repeat(revert hN;revert N;apply Pn.out));refine wk @Nat.zero_add ?_;(repeat(refine Pn.mk ?_;intro N hN))))
 have z0:∀(g:Rows) (id:Id),g id=some ⟨true,1,[]⟩->V.fz (dG g) 6 (.own id 0 0)=some (.sl (([]:List Nat).map eN))/\V.fz g 5 (.own id 0 0)=some (.sl (([]:List Nat).map eN)):=fun g id h=>by
  have h':dG g id=some ⟨true,1,[]⟩:=by simp[dG,h]
  constructor
  ·rw[gm];simp only[h',if_true];rw[if_pos (by simp)];simp[mE]
  ·rw[gm];simp only[h,if_true];rw[if_pos (by simp)];simp[mE]
 refine bp (fun m env st=>∃(k:Nat) (dR:Int) (l:List Nat) (p:AV),m=cnt-k/\1<=k/\k<=cnt/\env 8=.int .i64 (k:Int)/\env 6=.int .i64 dR/\env 7=p/\V.fz (dG st.get) 6 p=some (.sl (l.map eN))/\V.fz st.get 5 p=some (.sl (l.map eN))/\l.length<=cnt/\(0<=dR->nY cnt bs dR l)/\lg bs cnt dR k) (cnt-1) ⟨1,-1,[],.own ⟨91002000,σ.next+1+1⟩ 0 0,rfl,ad,ad,by(simp only[go_sem, ↓reduceIte,Nat.reduceEqDiff,Nat.reduceAdd,Nat.reduceSub,Nat.reduceLeDiff,reduceCtorEq])<;>rfl,by(simp only[go_sem, ↓reduceIte,Nat.reduceEqDiff,Nat.reduceAdd,Nat.reduceSub,Nat.reduceLeDiff,reduceCtorEq])<;>rfl,by(simp only[go_sem, ↓reduceIte,Nat.reduceEqDiff,Nat.reduceAdd,Nat.reduceSub,Nat.reduceLeDiff,reduceCtorEq])<;>rfl,(z0 _ _ (sd @Nat.zero_add)).1,(z0 _ _ (sd @Nat.zero_add)).2,by simp,fun h=>absurd h ad,.inl ⟨rfl,rfl⟩⟩ ?_
 rintro m env_b st_b ⟨k,dR,l,p,rfl,rD,rR,b8,b6,b7,uO,jw,hl,hSd,hB⟩ bfr
 have b0:=bfr 0 (by kernel_rfl)
 have b1:=bfr 1 (by kernel_rfl)
 simp only[go_sem, ↓reduceIte,Nat.reduceEqDiff,Nat.reduceAdd,Nat.reduceSub,Nat.reduceLeDiff,reduceCtorEq]at b0 b1
 clear bfr z0
 by_cases hk:(k:Int)<(cnt:Int)
 ·have eo:k<cnt:=ad
  have hFl:=Ef cnt hn bs ok re ee 0 k ad eo ad
  rw[show(((0:Nat):Int))=0 from rfl]at hFl
  (try((repeat(revert hN;revert N;apply Pn.out));refine wk (tw @b0 (tw @b1 (tw @b6 (tw @b7 (tw @b8 @hk))))) ?_;(repeat(refine Pn.mk ?_;intro N hN))))
  refine .inr (bd _ _ _ _ _ (fun r σ1 hq=>?_) (hFl.x mixed))
  obtain⟨⟨f,val,rfl,hf,S,Qb,Qc,Oo⟩,rfl⟩:=hq
  refine hN _ _ ?_
  clear hN N
  have pj:=tp ee hf.le
  have nU:=gK.nn (val:=val) ee Oo
  (try((repeat(revert hN;revert N;apply Pn.out));refine wk (tw @b0 (tw @b1 (tw @b6 (tw @b7 @b8)))) ?_;(repeat(refine Pn.mk ?_;intro N hN))))
  refine .inr (bd _ _ _ _ _ (fun r σ1 hq=>?_) ((Eg cnt hn bs ok re f pj k eo).x mixed (by simp only[ab,ae,aE,az,Option.map_some])))
  obtain⟨⟨out,Fi,rfl⟩,rfl⟩:=hq
  have OE:=ES Fi ok hf ad ⟨S,Qb,Qc,Oo⟩
  have Np:nY cnt bs val ((List.range cnt).filter fun v=>decide (0<=out v)):=⟨fun v=>decide (out v<0),decide_eq_true OE,⟨k,eo,decide_eq_false (by rw[Fi.first];omega)⟩,ER Fi ok hf OE,List.filter_congr fun v _=>by rw[<-decide_not];exact decide_eq_decide.2 ad⟩
  have xo:((List.range cnt).filter fun v=>decide (0<=out v)).length<=cnt:=Nat.le_trans (List.length_filter_le _ _) (by rw[List.length_range];exact Nat.le_refl _)
  generalize ((List.range cnt).filter fun v=>decide (0<=out v))=l' at Np xo ⊢
  refine hN _ _ ?_
  clear hN N
  have hw:IntKind.i64.wrap ((k:Int)+1)=((k+1:Nat):Int):=aA ad
  have HM:(∀z,1<=z->z<k->∀S:Nat->Bool,S 0=true->S z=false->val<=fO S bs)->lg bs cnt val (k+1):=fun h=>.inr ⟨nU,fun z uO jw S' h0 h1=>by
   by_cases oU:z=k
   ·subst oU;exact hf.bound h0 h1
   ·exact h z uO ad S' h0 h1,S,Qb,⟨k,eo,Qc⟩,Oo⟩
  by_cases fW:dR<0
  ·have tG:k=1:=by
    rcases hB with⟨h,_⟩|⟨h,_⟩
    ·exact h
    ·omega
   (try((repeat(revert hN;revert N;apply Pn.out));refine wk (tw @b0 (tw @b1 (tw @b6 (tw @b7 (tw @b8 (tw @fW @hw)))))) ?_;(repeat(refine Pn.mk ?_;intro N hN))))
   refine⟨_,?_,k+1,val,l',.sl (l'.map eN),rfl,ad,ad,sd (tw @b8 @hw),sd @Nat.zero_add,sd @Nat.zero_add,bu _ _ _,bu _ _ _,xo,fun _=>Np,HM fun z h1 h2=>ad⟩
   omega
  ·have tG:(∀z,1<=z->z<k->∀S:Nat->Bool,S 0=true->S z=false->dR<=fO S bs)/\∃S:Nat->Bool,S 0=true/\(∃z,z<cnt/\S z=false)/\dR=fO S bs:=by
    rcases hB with⟨_,h⟩|⟨_,h⟩
    ·omega
    ·exact h
   (try((repeat(revert hN;revert N;apply Pn.out));refine wk (tw @b0 (tw @b1 (tw @b6 (tw @b7 (tw @b8 (tw @fW @hw)))))) ?_;(repeat(refine Pn.mk ?_;intro N hN))))
   refine .inr (bd _ _ _ _ _ (fun r σ1 hq=>?_) ((yW val dR l' l ad ad).x mixed (by simp only[ab,ae,bu,az,uO,Option.map_some])))
   obtain⟨⟨b,rfl,Ct,tH⟩,rfl⟩:=hq
   refine hN _ _ ?_
   clear hN N
   cases b with
   |true=>
    have ND:val<=dR:=by
     rcases Int.lt_or_le dR val with h|h
     ·exact absurd (tH h) (by simp)
     ·exact h
    (try((repeat(revert hN;revert N;apply Pn.out));refine wk (tw @b0 (tw @b1 (tw @b6 (tw @b7 (tw @b8 @hw))))) ?_;(repeat(refine Pn.mk ?_;intro N hN))))
    refine⟨_,?_,k+1,val,l',.sl (l'.map eN),rfl,ad,ad,sd (tw @b8 @hw),sd @Nat.zero_add,sd @Nat.zero_add,bu _ _ _,bu _ _ _,xo,fun _=>Np,HM fun z h1 h2 S' h3 h4=>by have:=tG.1 z h1 h2 S' h3 h4;omega⟩
    omega
   |false=>
    have ND:dR<=val:=by
     rcases Int.lt_or_le val dR with h|h
     ·exact absurd (Ct h) (by simp)
     ·exact h
    (try((repeat(revert hN;revert N;apply Pn.out));refine wk (tw @b0 (tw @b1 (tw @b6 (tw @b7 (tw @b8 @hw))))) ?_;(repeat(refine Pn.mk ?_;intro N hN))))
    refine⟨_,?_,k+1,dR,l,p,rfl,ad,ad,sd (tw @b8 @hw),sd @b6,sd @b7,uO,jw,hl,hSd,.inr ⟨ad,fun z h1 h2 S' h3 h4=>?_,tG.2⟩⟩
    ·omega
    ·by_cases oU:z=k
     ·subst oU;have:=hf.bound h3 h4;omega
     ·exact tG.1 z h1 ad S' h3 h4
 ·have jz:k=cnt:=ad
  (try((repeat(revert hN;revert N;apply Pn.out));refine wk (tw @b0 (tw @b1 (tw @b6 (tw @b7 (tw @b8 @hk))))) ?_;(repeat(refine Pn.mk ?_;intro N hN))))
  exact⟨[.int .i64 dR,p],sd @Nat.zero_add,.im [.int .i64 dR,.sl (l.map eN)],by simp only[eH,aX,ab,ae,jw,az,Option.map_some],dR,l,rfl,lg.done h2 (jz▸hB),hSd (by
   rcases hB with⟨h3,_⟩|⟨h3,_⟩
   ·omega
   ·exact h3)⟩
def l8 (p:List Nat) (x:Nat):Int:=if x∈p then(p.idxOf x:Int)else -1
theorem My {p:List Nat} {k:Nat} (hk:k<p.length) {x:Nat} (h:p.getD k 0=x) (lv:∀j,j<k->p.getD j 0≠x):l8 p x=k:=by
 have hx:x∈p:=by rw[<-h,List.getD_eq_getElem?_getD,List.getElem?_eq_getElem hk];exact List.getElem_mem hk
 have h1:p.idxOf x=k:=by
  have hi:=List.idxOf_lt_length_iff.2 hx
  have hg:p[p.idxOf x]=x:=List.getElem_idxOf hi
  rcases Nat.lt_trichotomy (p.idxOf x) k with h2|h2|h2
  ·exact absurd (by rw[List.getD_eq_getElem?_getD,List.getElem?_eq_getElem hi];exact hg) (lv _ h2)
  ·exact h2
  ·have:=List.not_of_lt_findIdx (p:=(·==x)) (xs:=p) (i:=k) h2
   rw[List.getD_eq_getElem?_getD,List.getElem?_eq_getElem hk]at h
   simp at h this
   exact absurd h this
 rw[l8,if_pos hx,h1]
theorem Mz {p:List Nat} {x:Nat} (lv:∀j,j<p.length->p.getD j 0≠x):l8 p x= -1:=by
 rw[l8,if_neg]
 intro hx
 obtain⟨j,hj,rfl⟩:=List.getElem_of_mem hx
 exact lv j hj (by rw[List.getD_eq_getElem?_getD,List.getElem?_eq_getElem hj];rfl)
theorem mQ {p:List Nat} {x:Nat}:0<=l8 p x↔x∈p:=by
 unfold l8
 split
 ·rename_i h;exact⟨fun _=>h,fun _=>ad⟩
 ·rename_i h;exact⟨fun h2=>absurd h2 ad,fun h2=>absurd h2 h⟩
theorem oc {p:List Nat} {k:Nat} (hk:k<p.length):(p.map eN)[k]? =some [.int .i64 ((p.getD k 0:Nat):Int)]:=getD_map eN hk
theorem sP (p:List Nat) (x:Nat) (hl:p.length<=1048576):ak Tryz.prog 196 [.sl (p.map eN),.int .i64 (x:Int)] (.int .i64 (l8 p x)):=by
 refine ak.body eL rfl fun wg n0=>?_
 clear wg
 have fP:(p.map eN).length=p.length:=by simp
 (try((repeat(revert hN;revert N;apply Pn.out));refine wk @Nat.zero_add ?_;(repeat(refine Pn.mk ?_;intro N hN))))
 refine bp (fun n env st=>∃k:Nat,n=(p.length)-k/\k<=(p.length)/\env 5=.int .i64 (k:Int)/\(∀j:Nat,j<k->p.getD j 0≠x)) (p.length) ⟨0,ad,ad,sl @Nat.zero_add,fun _ h=>absurd h (Nat.not_lt_zero _)⟩ ?_
 rintro n_a env_a st_a ⟨k,rfl,ale,a5,aA0⟩ dt
 have a0:=dt 0 (by kernel_rfl);have a1:=dt 1 (by kernel_rfl)
 simp only[go_sem, ↓reduceIte,Nat.reduceEqDiff,Nat.reduceAdd,Nat.reduceSub,Nat.reduceLeDiff,reduceCtorEq]at a0 a1
 clear dt
 by_cases hk:(k:Int)<(p.length:Int)
 ·have bK:∀{e:Env},(e 5=.int .i64 (IntKind.i64.wrap ((k:Int)+1)))->(p.getD k 0≠x)->∃m0,m0<(p.length)-k/\∃k:Nat,m0=(p.length)-k/\k<=(p.length)/\e 5=.int .i64 (k:Int)/\(∀j:Nat,j<k->p.getD j 0≠x):=fun x1 x2=>⟨_,ad,k+1,rfl,ad,(by rw[x1,aA ad]),(all_succ aA0 x2)⟩
  have eo:k<p.length:=ad
  have hg:=oc eo
  by_cases he:p.getD k 0=x
  ·have hd:decide (((p.getD k 0:Nat):Int)=(x:Int))=true:=decide_eq_true (by rw[he])
   have jg:decide (p.getD k 0=x)=true:=decide_eq_true he
   (try((repeat(revert hN;revert N;apply Pn.out));refine wk (tw @a5 (tw @a0 (tw @a1 (tw @hk (tw @fP (tw @hg (tw @hd @jg))))))) ?_;(repeat(refine Pn.mk ?_;intro N hN))))
   exact cH (b:=k) (.inl rfl) (sd (tw @a5 (tw @a0 @a1))) (My eo he fun j hj=>aA0 j hj).symm
  ·have hd:decide (((p.getD k 0:Nat):Int)=(x:Int))=false:=decide_eq_false ad
   have jg:decide (p.getD k 0=x)=false:=decide_eq_false he
   (try((repeat(revert hN;revert N;apply Pn.out));refine wk (tw @a5 (tw @a0 (tw @a1 (tw @hk (tw @fP (tw @hg (tw @hd @jg))))))) ?_;(repeat(refine Pn.mk ?_;intro N hN))))
   exact bK (sd (tw @a5 (tw @a0 @a1))) (he)
 ·(try((repeat(revert hN;revert N;apply Pn.out));refine wk (tw @a5 (tw @a0 (tw @a1 (tw @hk @fP)))) ?_;(repeat(refine Pn.mk ?_;intro N hN))))
  exact cH (b:=-1) (.inl rfl) (sd @Nat.zero_add) (Mz fun j hj=>aA0 j ad).symm
def dN (p:List Nat):List PB->List PB
 |[]=>[]
 |b::bs=>if 0<=l8 p b.a/\0<=l8 p b.b then⟨(l8 p b.a).toNat,(l8 p b.b).toNat,b.s⟩::dN p bs else dN p bs
theorem qK (p:List Nat):∀(bs cs:List PB),dN p (bs++cs)=dN p bs++dN p cs
 |[],cs=>rfl
 |b::bs,cs=>by
  rw[List.cons_append,dN,dN,qK p bs cs]
  split<;>rfl
theorem qL (p:List Nat):∀bs:List PB,(dN p bs).length<=bs.length
 |[]=>Nat.le_refl _
 |b::bs=>by
  have:=qL p bs
  rw[dN]
  split<;>simp only[List.length_cons]<;>omega
theorem MM {bs:List PB} {k:Nat} (hk:k<bs.length):bs.take (k+1)=bs.take k++[bL bs k]:=by
 rw[List.take_succ_eq_append_getElem hk]
 simp[bL,List.getD_eq_getElem?_getD,List.getElem?_eq_getElem hk]
theorem FU {bs:List PB} {k:Nat} (hk:k<bs.length):(bs.map aZ)[k]? =some (aZ (bL bs k)):=by
 rw[List.getElem?_map,List.getElem?_eq_getElem hk]
 simp[bL,List.getD_eq_getElem?_getD,List.getElem?_eq_getElem hk]
theorem yX (bs:List PB) (p:List Nat) (hb:bs.length<=1048576) (hl:p.length<=1048576):ak Tryz.prog 92 [.sl (bs.map aZ),.sl (p.map eN)] (.sl ((dN p bs).map aZ)):=by
 refine ak.body eL rfl fun wg n0=>?_
 clear wg
 have fP:(bs.map aZ).length=bs.length:=by simp
 (try((repeat(revert hN;revert N;apply Pn.out));refine wk @Nat.zero_add ?_;(repeat(refine Pn.mk ?_;intro N hN))))
 refine bp (fun n env st=>∃k:Nat,n=(bs.length)-k/\k<=(bs.length)/\env 6=.int .i64 (k:Int)/\(∃o:Id,env 5=.own o 0 (dN p (bs.take k)).length/\st.get o=some ⟨true,3,(dN p (bs.take k)).map aZ⟩/\o.bR<st.next)) (bs.length) ⟨0,ad,ad,sl @Nat.zero_add,⟨⟨92001000,n0+1⟩,by simp only[go_sem, ↓reduceIte,Nat.reduceEqDiff,Nat.reduceAdd,Nat.reduceSub,Nat.reduceLeDiff,reduceCtorEq,List.take_zero,dN]<;>rfl,by simp only[go_sem, ↓reduceIte,Nat.reduceEqDiff,Nat.reduceAdd,Nat.reduceSub,Nat.reduceLeDiff,reduceCtorEq,List.take_zero,dN]<;>rfl,cE⟩⟩ ?_
 rintro n_a env_a st_a ⟨k,rfl,ale,a6,aI0⟩ dt
 have a0:=dt 0 (by kernel_rfl);have a1:=dt 1 (by kernel_rfl)
 simp only[go_sem, ↓reduceIte,Nat.reduceEqDiff,Nat.reduceAdd,Nat.reduceSub,Nat.reduceLeDiff,reduceCtorEq]at a0 a1
 clear dt
 obtain⟨o,a5,ag,uL⟩:=aI0
 have p9:=dW uL
 by_cases hk:(k:Int)<(bs.length:Int)
 ·have bK:∀{e:Env} {gg:Rows} {nx:Nat},(e 6=.int .i64 (IntKind.i64.wrap ((k:Int)+1)))->(∃o:Id,e 5=.own o 0 (dN p (bs.take (k+1))).length/\gg o=some ⟨true,3,(dN p (bs.take (k+1))).map aZ⟩/\o.bR<nx)->∃m0,m0<(bs.length)-k/\∃k:Nat,m0=(bs.length)-k/\k<=(bs.length)/\e 6=.int .i64 (k:Int)/\(∃o:Id,e 5=.own o 0 (dN p (bs.take k)).length/\gg o=some ⟨true,3,(dN p (bs.take k)).map aZ⟩/\o.bR<nx):=fun x1 x2=>⟨_,ad,k+1,rfl,ad,(by rw[x1,aA ad]),x2⟩
  have eo:k<bs.length:=ad
  have hg:=FU eo
  have RH:=qL p (bs.take k)
  rw[List.length_take]at RH
  have ee:dN p (bs.take (k+1))=dN p (bs.take k)++dN p [bL bs k]:=by rw[MM eo,qK]
  rw[dN,dN]at ee
  generalize dN p (bs.take k)=L at a5 ag RH ee
  generalize bL bs k=b at hg ee
  rw[aZ]at hg
  have p1:=sP p b.a hl
  have p2:=sP p b.b hl
  have LJ:(L.map aZ).length=L.length:=by simp
  have e1:L.length<=16777215:=ad
  by_cases h1:0<=l8 p b.a
  ·by_cases h2:0<=l8 p b.b
   ·rw[if_pos ⟨h1,h2⟩]at ee
    obtain⟨i1,j1⟩:∃i:Nat,l8 p b.a=i:=⟨(l8 p b.a).toNat,ad⟩
    obtain⟨i2,j2⟩:∃i:Nat,l8 p b.b=i:=⟨(l8 p b.b).toNat,ad⟩
    rw[j1,j2,Int.toNat_natCast,Int.toNat_natCast]at ee
    rw[j1]at p1 h1
    rw[j2]at p2 h2
    (repeat(first|((repeat(revert hN;revert N;apply Pn.out));refine wk (tw @a6 (tw @a0 (tw @a1 (tw @a5 (tw @ag (tw @p9 (tw @hk (tw @fP (tw @hg (tw @h1 (tw @h2 (tw @LJ @e1)))))))))))) ?_;(repeat(refine Pn.mk ?_;intro N hN)))|((try apply Or.inl);refine⟨_,ak.x (p1) (sd (tw @a6 (tw @a0 (tw @a1 (tw @a5 (tw @ag (tw @p9 (tw @hk (tw @fP (tw @hg (tw @h1 (tw @h2 (tw @LJ @e1))))))))))))),?_⟩;refine hN _ _ ?_;clear hN N)|((try apply Or.inl);refine⟨_,ak.x (p2) (sd (tw @a6 (tw @a0 (tw @a1 (tw @a5 (tw @ag (tw @p9 (tw @hk (tw @fP (tw @hg (tw @h1 (tw @h2 (tw @LJ @e1))))))))))))),?_⟩;refine hN _ _ ?_;clear hN N)))
    exact bK (sd (tw @a6 (tw @a0 @a1))) (⟨⟨92008010,st_a.next+1+1+1+1⟩,by rw[ee,List.length_append];simp only[go_sem, ↓reduceIte,Nat.reduceEqDiff,Nat.reduceAdd,Nat.reduceSub,Nat.reduceLeDiff,reduceCtorEq,List.length_cons,List.length_nil],by rw[ee,List.map_append,List.map_cons,List.map_nil];simp only[go_sem, ↓reduceIte,Nat.reduceEqDiff,Nat.reduceAdd,Nat.reduceSub,Nat.reduceLeDiff,reduceCtorEq,aZ],cE⟩)
   ·rw[if_neg fun h=>h2 h.2,List.append_nil]at ee
    (repeat(first|((repeat(revert hN;revert N;apply Pn.out));refine wk (tw @a6 (tw @a0 (tw @a1 (tw @a5 (tw @ag (tw @p9 (tw @hk (tw @fP (tw @hg (tw @h1 @h2)))))))))) ?_;(repeat(refine Pn.mk ?_;intro N hN)))|((try apply Or.inl);refine⟨_,ak.x (p1) (sd (tw @a6 (tw @a0 (tw @a1 (tw @a5 (tw @ag (tw @p9 (tw @hk (tw @fP (tw @hg (tw @h1 @h2))))))))))),?_⟩;refine hN _ _ ?_;clear hN N)|((try apply Or.inl);refine⟨_,ak.x (p2) (sd (tw @a6 (tw @a0 (tw @a1 (tw @a5 (tw @ag (tw @p9 (tw @hk (tw @fP (tw @hg (tw @h1 @h2))))))))))),?_⟩;refine hN _ _ ?_;clear hN N)))
    exact bK (sd (tw @a6 (tw @a0 @a1))) (⟨o,by rw[ee];simp only[go_sem, ↓reduceIte,Nat.reduceEqDiff,Nat.reduceAdd,Nat.reduceSub,Nat.reduceLeDiff,reduceCtorEq,a5],by rw[ee];simp only[go_sem, ↓reduceIte,Nat.reduceEqDiff,Nat.reduceAdd,Nat.reduceSub,Nat.reduceLeDiff,reduceCtorEq,ag],cE⟩)
  ·rw[if_neg fun h=>h1 h.1,List.append_nil]at ee
   (repeat(first|((repeat(revert hN;revert N;apply Pn.out));refine wk (tw @a6 (tw @a0 (tw @a1 (tw @a5 (tw @ag (tw @p9 (tw @hk (tw @fP (tw @hg @h1))))))))) ?_;(repeat(refine Pn.mk ?_;intro N hN)))|((try apply Or.inl);refine⟨_,ak.x (p1) (sd (tw @a6 (tw @a0 (tw @a1 (tw @a5 (tw @ag (tw @p9 (tw @hk (tw @fP (tw @hg @h1)))))))))),?_⟩;refine hN _ _ ?_;clear hN N)|((try apply Or.inl);refine⟨_,ak.x (p2) (sd (tw @a6 (tw @a0 (tw @a1 (tw @a5 (tw @ag (tw @p9 (tw @hk (tw @fP (tw @hg @h1)))))))))),?_⟩;refine hN _ _ ?_;clear hN N)))
   exact bK (sd (tw @a6 (tw @a0 @a1))) (⟨o,by rw[ee];simp only[go_sem, ↓reduceIte,Nat.reduceEqDiff,Nat.reduceAdd,Nat.reduceSub,Nat.reduceLeDiff,reduceCtorEq,a5],by rw[ee];simp only[go_sem, ↓reduceIte,Nat.reduceEqDiff,Nat.reduceAdd,Nat.reduceSub,Nat.reduceLeDiff,reduceCtorEq,ag],cE⟩)
 ·rw[List.take_of_length_le (show bs.length<=k by omega)]at a5 ag
  (try((repeat(revert hN;revert N;apply Pn.out));refine wk (tw @a6 (tw @a0 (tw @a1 (tw @a5 (tw @hk @fP))))) ?_;(repeat(refine Pn.mk ?_;intro N hN))))
  have lu:fu st_a.get 6 (.own o 0 (dN p bs).length)=some (.sl ((dN p bs).map aZ)):=fa ag rfl fun b=>by simp[aZ,cN,dC,fV]
  exact mU (.inl rfl) (vs:=[.own o 0 (dN p bs).length]) (sd @a5) lu
end Go.Proofs.YtphenfakmdknlaaGreat.V

namespace Go.Proofs.YtphenfakmdknlaaGreat.V
theorem sk {Q:Nat->Prop} [DecidablePred Q] {S S':Nat->Bool} (h:∀x,Q x->S x=S' x):∀bs:List PB,jD Q S bs=jD Q S' bs
 |[]=>rfl
 |b::bs=>by
  have ih:=sk h bs
  unfold jD at ih ⊢
  simp only[List.map_cons,List.sum_cons]
  rw[ih]
  by_cases hp:Q b.a/\Q b.b
  ·rw[if_pos hp,if_pos hp,h _ hp.1,h _ hp.2]
  ·rw[if_neg hp,if_neg hp]
theorem xO {Q:Nat->Prop} [DecidablePred Q] {S:Nat->Bool}:∀bs:List PB,jD Q (fun x=> !S x) bs=jD Q S bs
 |[]=>rfl
 |b::bs=>by
  have ih:=xO (Q:=Q) (S:=S) bs
  unfold jD at ih ⊢
  simp only[List.map_cons,List.sum_cons]
  rw[ih]
  have e:(if (!S b.a)=(!S b.b)then(0:Int)else b.s)=if S b.a=S b.b then 0 else b.s:=by
   by_cases h:S b.a=S b.b
   ·rw[if_pos h,if_pos (by rw[h])]
   ·rw[if_neg h,if_neg (fun h2=>h (by simpa using h2))]
  by_cases hq:Q b.a/\Q b.b
  ·rw[if_pos hq,if_pos hq,e]
  ·rw[if_neg hq,if_neg hq]
theorem nq (p:List Nat) (S:Nat->Bool):∀bs:List PB,fO S (dN p bs)=jD (·∈p) (fun x=>S (l8 p x).toNat) bs
 |[]=>rfl
 |b::bs=>by
  have ih:=nq p S bs
  rw[dN]
  unfold jD at ih ⊢
  simp only[List.map_cons,List.sum_cons]
  by_cases h:0<=l8 p b.a/\0<=l8 p b.b
  ·have h':b.a∈p/\b.b∈p:=⟨mQ.1 h.1,mQ.1 h.2⟩
   rw[if_pos h,if_pos h',<-ih]
   simp[fO]
  ·have h':¬(b.a∈p/\b.b∈p):=fun h2=>h ⟨mQ.2 h2.1,mQ.2 h2.2⟩
   rw[if_neg h,if_neg h',ih,Int.zero_add]
theorem iI {p:List Nat} {x:Nat} (h:x∈p):(l8 p x).toNat=p.idxOf x/\p.idxOf x<p.length/\p.getD (p.idxOf x) 0=x:=by
 have hi:=List.idxOf_lt_length_iff.2 h
 have hg:p[p.idxOf x]=x:=List.getElem_idxOf hi
 refine⟨by rw[l8,if_pos h,Int.toNat_natCast],hi,?_⟩
 rw[List.getD_eq_getElem?_getD,List.getElem?_eq_getElem hi]
 exact hg
theorem rS {p:List Nat} (h:p.Pairwise (· < ·)) {j:Nat} (hj:j<p.length):p.idxOf (p.getD j 0)=j:=by
 have hm:p.getD j 0∈p:=by rw[List.getD_eq_getElem?_getD,List.getElem?_eq_getElem hj];exact List.getElem_mem hj
 obtain⟨_,h2,h3⟩:=iI hm
 rw[List.getD_eq_getElem?_getD,List.getD_eq_getElem?_getD,List.getElem?_eq_getElem hj,List.getElem?_eq_getElem (by rw[List.getD_eq_getElem?_getD,List.getElem?_eq_getElem hj]at h2;exact h2)]at h3
 rw[List.getD_eq_getElem?_getD,List.getElem?_eq_getElem hj]at h2 ⊢
 simp only[Option.getD_some]at h2 h3 ⊢
 rw[List.pairwise_iff_getElem]at h
 rcases Nat.lt_trichotomy (p.idxOf p[j]) j with h4|h4|h4
 ·have:=h _ _ h2 hj h4;omega
 ·exact h4
 ·have:=h _ _ hj h2 h4;omega
theorem J0 {p:List Nat} {n:Nat} {bs:List PB} (ok:iS n bs):iS p.length (dN p bs):=by
 have key:∀b∈dN p bs,b.a<p.length/\b.b<p.length/\b.a≠b.b:=by
  have hb:∀b∈bs,b.a≠b.b:=fun b hb=>by
   obtain⟨e,he,rfl⟩:=B9 hb
   exact(ok e he).2.2
  clear ok
  induction bs with
  |nil=>intro b hb;cases hb
  |cons c bs ih=>
   intro b hm
   rw[dN]at hm
   split at hm
   ·rename_i hc
    rcases List.mem_cons.1 hm with rfl|hm
    ·obtain⟨a1,a2,a3⟩:=iI (mQ.1 hc.1)
     obtain⟨b1,b2,b3⟩:=iI (mQ.1 hc.2)
     refine⟨by rw[a1];exact a2,by rw[b1];exact b2,fun e=>?_⟩
     (try dsimp only at e)
     rw[a1,b1]at e
     rw[e,b3]at a3
     exact hb c (by simp) a3.symm
    ·exact ih (fun b tH=>hb b (by simp[tH])) b hm
   ·exact ih (fun b tH=>hb b (by simp[tH])) b hm
 intro e he
 exact key _ (by simp[bL,List.getD_eq_getElem?_getD,List.getElem?_eq_getElem he])
theorem J1 {p:List Nat} {bs:List PB} (h:∀b∈bs,0<=b.s/\b.s<=4):∀b∈dN p bs,0<=b.s/\b.s<=4:=by
 induction bs with
 |nil=>intro b hb;cases hb
 |cons c bs ih=>
  intro b hm
  rw[dN]at hm
  split at hm
  ·rcases List.mem_cons.1 hm with rfl|hm
   ·exact h c (by simp)
   ·exact ih (fun b tH=>h b (by simp[tH])) b hm
  ·exact ih (fun b tH=>h b (by simp[tH])) b hm
theorem u6 {p:List Nat} {bs:List PB} {t:Int} (hp:p.Pairwise (· < ·)) (h0:0<p.length):oi p.length (dN p bs) t↔ft bs t p:=by
 constructor
 ·intro h S ⟨x,hx,uN⟩ ⟨y,hy,Me⟩
  obtain⟨a1,a2,a3⟩:=iI hx
  obtain⟨b1,b2,b3⟩:=iI hy
  have e:∀T:Nat->Bool,fO (fun i=>T (p.getD i 0)) (dN p bs)=jD (·∈p) T bs:=fun T=>by
   rw[nq]
   exact sk (fun z hz=>by
    obtain⟨c1,c2,c3⟩:=iI hz
    show T (p.getD (l8 p z).toNat 0)=T z
    rw[c1,c3]) bs
  cases hs:S (p.getD 0 0)
  ·have:=h (fun i=> !S (p.getD i 0)) (by show(!S (p.getD 0 0))=true;rw[hs];rfl) ⟨_,a2,by rw[a3,uN];rfl⟩
   rw[e fun x=> !S x,xO]at this
   exact this
  ·have:=h (fun i=>S (p.getD i 0)) hs ⟨_,b2,by rw[b3];exact Me⟩
   rw[e S]at this
   exact this
 ·intro h S wi ⟨y,hy,Me⟩
  rw[nq]
  have hm:∀j,j<p.length->p.getD j 0∈p:=fun j hj=>by rw[List.getD_eq_getElem?_getD,List.getElem?_eq_getElem hj];exact List.getElem_mem hj
  exact h _ ⟨p.getD 0 0,hm 0 h0,by rw[(iI (hm 0 h0)).1,rS hp h0];exact wi⟩ ⟨p.getD y 0,hm y hy,by rw[(iI (hm y hy)).1,rS hp hy];exact Me⟩
theorem tk {p l:List Nat} {bs:List PB} {dR:Int} (hp:p.Pairwise (· < ·)) (h0:0<p.length) (h:nY p.length (dN p bs) dR l):∃T:Nat->Bool,(∃x∈p,T x=true)/\(∃y∈p,T y=false)/\dR=jD (·∈p) T bs/\∀j,j<p.length->(j∈l↔T (p.getD j 0)=false):=by
 obtain⟨S,h1,⟨z,hz,uO⟩,h2,rfl⟩:=h
 have hm:∀j,j<p.length->p.getD j 0∈p:=fun j hj=>by rw[List.getD_eq_getElem?_getD,List.getElem?_eq_getElem hj];exact List.getElem_mem hj
 have hv:∀j,j<p.length->S (l8 p (p.getD j 0)).toNat=S j:=fun j hj=>by rw[(iI (hm j hj)).1,rS hp hj]
 refine⟨fun x=>S (l8 p x).toNat,⟨p.getD 0 0,hm 0 h0,by show S (l8 p (p.getD 0 0)).toNat=true;rw[hv 0 h0];exact h1⟩,⟨p.getD z 0,hm z hz,by show S (l8 p (p.getD z 0)).toNat=false;rw[hv z hz];exact uO⟩,by rw[h2,nq],fun j hj=>?_⟩
 show _↔S (l8 p (p.getD j 0)).toNat=false
 rw[hv j hj]
 simp[List.mem_filter,hj]
theorem uv {Q:Nat->Prop} [DecidablePred Q] {S:Nat->Bool}:∀{bs:List PB},(∀b∈bs,S b.a=S b.b)->jD Q S bs=0
 |[],_=>rfl
 |b::bs,h=>by
  have ih:=uv (Q:=Q) (bs:=bs) fun x hx=>h x (List.mem_cons_of_mem _ hx)
  unfold jD at ih ⊢
  simp only[List.map_cons,List.sum_cons]
  rw[ih,h b List.mem_cons_self]
  split<;>simp
theorem Bj (L:Nat->Nat) (b:PB):eb L b b.a=eb L b b.b:=by
 unfold eb
 rcases Nat.le_total (L b.a) (L b.b)with h|h
 ·rw[Nat.max_eq_right h,Nat.min_eq_left h]
  rw[if_pos (rfl:L b.b=L b.b)]
  split<;>rfl
 ·rw[Nat.max_eq_left h,Nat.min_eq_right h]
  rw[if_pos (rfl:L b.a=L b.a)]
  split<;>rfl
theorem y4:∀(bs:List PB) (L:Nat->Nat) {x y:Nat},L x=L y->bs.foldl eb L x=bs.foldl eb L y
 |[],_,_,_,h=>h
 |b::bs,L,x,y,h=>y4 bs _ (by unfold eb;rw[h])
theorem yZ:∀(bs:List PB) (L:Nat->Nat),∀b∈bs,bs.foldl eb L b.a=bs.foldl eb L b.b
 |[],_,b,hb=>by cases hb
 |c::bs,L,b,hb=>by
  rw[List.foldl_cons]
  rcases List.mem_cons.1 hb with rfl|hb
  ·exact y4 bs _ (Bj L b)
  ·exact yZ bs _ b hb
theorem yY (bs:List PB):∀b∈bs,gn bs b.a=gn bs b.b:=yZ bs id
theorem pc {n:Nat} {bs:List PB} {t:Int} (hL:qO (gn bs)) (tV:∀b∈bs,gn bs b.a=gn bs b.b) (ht:1<=t):dZ n bs t (mI n (gn bs)):=by
 generalize gn bs=L at *
 have hm:∀{p},p∈mI n L->∃i,i<n/\L i=i/\p=members n L i:=fun {p} hp=>by
  obtain⟨i,hi,rfl⟩:=List.mem_map.1 hp
  have:=List.mem_filter.1 hi
  exact⟨i,List.mem_range.1 this.1,by simpa using this.2,rfl⟩
 have iP:∀{x i},x∈members n L i↔x<n/\L x=i:=fun {x i}=>by simp[members]
 refine⟨fun p hp=>?_,fun p hp=>?_,fun p hp x hx=>?_,?_,fun P h1 h2 h3=>?_⟩
 ·obtain⟨i,hi,hL,rfl⟩:=hm hp
  exact List.ne_nil_of_mem (iP.2 ⟨hi,hL⟩)
 ·obtain⟨i,hi,hL,rfl⟩:=hm hp
  exact List.pairwise_lt_range.filter _
 ·obtain⟨i,hi,hL,rfl⟩:=hm hp
  exact(iP.1 hx).1
 ·refine List.pairwise_map.2 ((List.nodup_range.filter _).imp fun {a b} l7 x hx hy=>l7 ?_)
  rw[<-(iP.1 hx).2,<-(iP.1 hy).2]
 ·obtain⟨x,hx⟩:=List.exists_mem_of_ne_nil P h1
  refine⟨members n L (L x),List.mem_map.2 ⟨L x,List.mem_filter.2 ⟨List.mem_range.2 ?_,by simp[hL.idem]⟩,rfl⟩,fun y hy=>iP.2 ⟨h2 y hy,?_⟩⟩
  ·have:=hL.le x;have:=h2 x hx;omega
  ·have hz:jD (·∈P) (fun v=>L v==L x) bs=0:=uv fun b hb=>by rw[tV b hb]
   by_cases h:L y=L x
   ·exact h
   ·have:=h3 (fun v=>L v==L x) ⟨x,hx,by simp⟩ ⟨y,hy,by simp[h]⟩
    omega
end Go.Proofs.YtphenfakmdknlaaGreat.V

namespace Go.Proofs.YtphenfakmdknlaaGreat.V
open Go.RowKit
attribute [local irreducible] dJ wpOps e8 Call
attribute [local go_sem] ax eB dY eJ eI cJ upd bD K.av bW AV.cells AV.cell rowOf rowsOf part ld rowAt bC bx cU de fj bf cC dv eO er cL dm cw cu cZ da bl aI bZ bj ck cj di dn dj bY bo cz dh bh au cq bJ fh aT bV bm aH cS aQ cV AV.undef aV bc db dd cY dc bQ du dw bG dq dp cm cr List.getD_cons_zero List.getD_cons_succ List.getD_nil List.all_cons List.all_nil Bool.and_true Bool.true_and Bool.and_self Bool.not_true Bool.not_false Option.map_some Option.map_none Option.bind_some Option.bind_none List.length_cons List.length_nil List.take_succ_cons List.take_zero List.take_nil List.drop_succ_cons List.drop_zero List.drop_nil List.head?_cons List.map_cons List.map_nil List.getElem?_cons_zero List.getElem?_cons_succ List.cons_append List.nil_append List.append_nil List.length_map List.set_cons_zero List.set_cons_succ Nat.reduceMul eq_self Int.toNat_natCast Int.natCast_nonneg and_self true_and and_true decide_true decide_false Bool.false_eq_true Nat.zero_add Nat.add_zero List.contains_cons List.contains_nil Bool.or_false Bool.false_or beq_self_eq_true Nat.reduceBEq ne_eq not_true_eq_false not_false_eq_true Id.mk.injEq false_and and_false Nat.reduceLT Int.reduceLE Int.reduceLT Int.reduceToNat Int.reduceNeg Int.reduceAdd Nat.le_refl List.length_append beq_true beq_false Bool.not_eq_eq_eq_not or_false false_or dG ab ae az aU bu aC aP aE aJ cD aX
theorem JT {s:ao} (hS:lV s) (a d:Int):tq s (dO (dQ s a) d)<=4:=by
 have hF:=hS.form
 have gP:dO (dQ s a) d=0∨(0<=dO (dQ s a) d/\dO (dQ s a) d<=s.ay.length):=by
  unfold dO dQ
  rw[List.getD_eq_getElem?_getD,List.getD_eq_getElem?_getD]
  rcases ht:s.aj[a.toNat]? with _|t
  ·exact .inl (by simp[Bp])
  ·have htm:=List.mem_of_getElem? ht
   simp only[Option.getD_some]
   rcases hg:t.bB[d.toNat]? with _|g
   ·exact .inl rfl
   ·exact .inr (hF.uH t htm g (List.mem_of_getElem? hg))
 unfold tq
 by_cases h0:dO (dQ s a) d=0
 ·rw[if_pos h0];omega
 ·rw[if_neg h0]
  have hk:(dO (dQ s a) d-1).toNat<s.ay.length:=ad
  have:=ei (hS.QY _ hk).2.1
  unfold oe at this
  unfold qm
  omega
theorem FJ {s:ao} (hS:lV s) (a d b:Int):gM s a d b<=4:=by
 unfold gM
 split
 ·exact JT hS a d
 ·omega
theorem Di {s:ao} {l:List ai} (hS:lV s) {i:Nat} (hi:i<l.length) {d:Int}:∀b∈gY s l i d,b.a<l.length/\b.b<l.length/\0<=b.s/\b.s<=4:=by
 intro b hb
 unfold gY at hb
 split at hb
 ·rename_i h
  simp only[List.mem_singleton]at hb
  subst hb
  exact⟨hi,(ly h.1).1,by simp only;omega,FJ hS ..⟩
 ·cases hb
theorem kW {s:ao} {l:List ai} (hS:lV s):∀b∈cI s l,b.a<l.length/\b.b<l.length/\0<=b.s/\b.s<=4:=by
 intro b hb
 simp only[cI,fw,eF,List.mem_flatMap,List.mem_range]at hb
 obtain⟨i,hi,j,_,hb⟩:=hb
 exact Di hS hi b hb
theorem ou {s:ao} {l:List ai} (hF:jP l):(cI s l).length<=1000:=by
 have:=qR s l l.length
 have:=hF.IB
 rw[cI];omega
theorem vE {bs:List PB} {e:Nat} (h:e<bs.length):bL bs e∈bs:=by
 rw[bL,List.getD_eq_getElem?_getD,List.getElem?_eq_getElem h];exact List.getElem_mem h
theorem k6 (t:Int):ak Tryz.prog 88 [.int .i64 t] (.bool (ig t 1 16)):=by
 refine ak.body eL rfl fun hl n0=>?_
 clear hl
 have h:=kE t 1 16
 (repeat(first|((repeat(revert hN;revert N;apply Pn.out));refine wk @Nat.zero_add ?_;(repeat(refine Pn.mk ?_;intro N hN)))|((try apply Or.inl);refine⟨_,ak.x (h) (sd @Nat.zero_add),?_⟩;refine hN _ _ ?_;clear hN N)))
 exact bt (b:=ig t 1 16) (.inl rfl) (sd @Nat.zero_add) rfl
structure QJ (s:eT):Prop where
 set:lV s.iU
 Sy:qc s.iU s.gH.aj
 some:1<=s.gH.aj.length
 SA:ig s.eK 1 16=true
 holds:Ii s.gH.aj.length (cI s.iU s.gH.aj) s.eK
def xJ (s:ao) (f:br->Int) (p:br) (t:Int):Nat->Int
 |0=>0
 |d+1=>xJ s f p t d+if 0<=f (ej p d)then gM s t d (f (ej p d))else 0
def NR (s:ao) (f:br->Int) (p:br) (t:Int):Int:=xJ s f p t 4
def C7 (la lb:List ai):Bool:=la.all fun t=>decide (Dg lb t.cG=t.bU)
abbrev mP:MK:=⟨true,[.tI,.tI]⟩
structure Cry (g:Rows) (n:Nat) (c T O:Id) (s:eT) (ts:List ai):Prop where
 row:∃b,g c=some ⟨b,6,[[.sl (s.iU.ay.map bS),.sl (s.iU.aj.map bI),.sl (s.gH.aj.map ah),.int .i64 s.eK,.map T mP,.map O mP]]⟩
 tl:∃b,g T=some ⟨b,mP.zO,ts.map ah⟩
 cv:c.bR<n
 tv:T.bR<n
 ov:O.bR<n
noncomputable def Lv (s:eT) (ts:List ai) (p:br) (t:Int):Bool:=EE p&&decide (Dg ts p<0)&&decide (s.eK<=NR s.iU (Dg ts) p t)
def OW (rows:List (List AV)):Prop:=∀r∈rows,∃(x y:Int) (v:AV),r=[.int .i64 x,.int .i64 y,v]
def LookK (σ:ar) (O:Id) (g:Rows) (n:Nat):Prop:=σ.next<=n/\(∀x:Id,x.bR<σ.next->x≠O->g x=σ.get x)/\∃rows,g O=some ⟨true,mP.zO,rows⟩/\OW rows
structure QE (g:Rows) (n:Nat) (c T O:Id) (s:eT) (ts:List ai):Prop where
 row:g c=some ⟨true,6,[[.sl (s.iU.ay.map bS),.sl (s.iU.aj.map bI),.sl (s.gH.aj.map ah),.int .i64 s.eK,.map T mP,.map O mP]]⟩
 tl:g T=some ⟨true,mP.zO,ts.map ah⟩
 op:∃rows,g O=some ⟨true,mP.zO,rows⟩/\OW rows
 cv:c.bR<n
 tv:T.bR<n
 ov:O.bR<n
 cT:c≠T
 cO:c≠O
 TO:T≠O
theorem yO {l:List ai} {p:br}:ew l p<0↔∀t∈l,t.cG≠p:=by
 unfold ew yP
 by_cases h:(l.findIdx fun c=>decide (c.cG=p))<l.length
 ·rw[if_pos h]
  obtain⟨t,ht,h2⟩:=List.findIdx_lt_length.1 h
  exact⟨fun h=>ad,fun h=>absurd (by simpa using h2) (h t ht)⟩
 ·rw[if_neg h]
  exact⟨fun _ t ht e=>h (List.findIdx_lt_length.2 ⟨t,ht,by simp[e]⟩),fun _=>ad⟩
end Go.Proofs.YtphenfakmdknlaaGreat.V

namespace Go.Proofs.YtphenfakmdknlaaGreat.V
open Go.RowKit
def pI:List ai->ai->List ai
 |[],q=>[q]
 |x::r,q=>if nV q.cG x.cG=true then q::x::r else x::pI r q
theorem y9 {q x:ai}:∀{l:List ai},x∈pI l q↔x=q∨x∈l
 |[]=>by simp[pI]
 |y::r=>by
  have ih:=@y9 q x r
  rw[pI]
  split
  ·simp
  ·simp only[List.mem_cons,ih]
   constructor
   ·rintro(h|h|h)<;>simp[h]
   ·rintro(h|h|h)<;>simp[h]
theorem Hi (q:ai):∀l:List ai,(pI l q).length=l.length+1
 |[]=>rfl
 |y::r=>by
  have ih:=Hi q r
  rw[pI]
  split
  ·simp
  ·simp[ih]
theorem mV {l:List ai}:mi l↔l.Pairwise fun a b=>nV a.cG b.cG=true:=by
 rw[List.pairwise_iff_getElem]
 constructor
 ·intro h i j hi hj DO
  have:=h i j DO hj
  rwa [eQ hi,eQ hj]at this
 ·intro h i j DO hj
  have:=h i j ad hj DO
  rwa [eQ ad,eQ hj]
theorem wq {l:List ai} {p:br}:ew l p<0↔∀t∈l,t.cG≠p:=yO
theorem PD {q:ai}:∀{l:List ai},mi l->ew l q.cG<0->mi (pI l q):=by
 intro l
 rw[mV,mV,wq]
 induction l with
 |nil=>intro _ _;exact List.pairwise_singleton _ _
 |cons y r ih=>
  intro h hn
  obtain⟨h1,h2⟩:=List.pairwise_cons.1 h
  rw[pI]
  split
  ·rename_i hl
   refine List.pairwise_cons.2 ⟨fun x hx=>?_,h⟩
   rcases List.mem_cons.1 hx with rfl|hx
   ·exact hl
   ·exact jN hl (h1 x hx)
  ·rename_i hl
   rw[Bool.not_eq_true]at hl
   refine List.pairwise_cons.2 ⟨fun x hx=>?_,ih h2 fun t ht=>hn t (by simp[ht])⟩
   rcases y9.1 hx with rfl|hx
   ·exact Jl hl fun e=>hn y (by simp) e.symm
   ·exact h1 x hx
theorem iY (x:ai) (r:List ai) (p:br):Dg (x::r) p=if x.cG=p then x.bU else Dg r p:=by
 unfold Dg ew yP
 rw[List.findIdx_cons]
 by_cases h:x.cG=p
 ·simp[h,bH]
 ·simp only[h,decide_false,cond_false,List.length_cons,Nat.add_lt_add_iff_right,if_false]
  by_cases hl:(r.findIdx fun c=>decide (c.cG=p))<r.length
  ·rw[if_pos hl,if_pos hl,if_pos ad,if_pos ad]
   simp[bH]
  ·rw[if_neg hl,if_neg hl];rfl
theorem FB {q:ai} (p:br):∀{l:List ai},(∀t∈l,t.cG≠q.cG)->Dg (pI l q) p=if q.cG=p then q.bU else Dg l p
 |[],_=>by rw[pI,iY]
 |x::r,h=>by
  have ih:=@FB q p r fun t ht=>h t (by simp[ht])
  rw[pI]
  split
  ·rw[iY]
  ·rw[iY,ih,iY]
   by_cases h1:x.cG=p
   ·have h2:q.cG≠p:=fun e=>h x (by simp) (h1.trans e.symm)
    rw[if_pos h1,if_neg h2,if_pos h1]
   ·rw[if_neg h1,if_neg h1]
theorem Im {q:ai} (p:br):∀{l:List ai},(∀t∈l,t.cG≠q.cG)->Dg (l++[q]) p=if q.cG=p then q.bU else Dg l p
 |[],_=>by rw[List.nil_append,iY]
 |x::r,h=>by
  have ih:=@Im q p r fun t ht=>h t (by simp[ht])
  rw[List.cons_append,iY,ih,iY]
  by_cases h1:x.cG=p
  ·have h2:q.cG≠p:=fun e=>h x (by simp) (h1.trans e.symm)
   rw[if_pos h1,if_neg h2,if_pos h1]
  ·rw[if_neg h1,if_neg h1]
theorem Ev {α:Type} [DecidableEq α]:∀{xs ys:List α},xs.Nodup->(∀x∈xs,x∈ys)->xs.length<=ys.length
 |[],_,_,_=>Nat.zero_le _
 |x::xs,ys,hn,h=>by
  obtain⟨h1,h2⟩:=List.nodup_cons.1 hn
  have hx:=h x (by simp)
  have:=@Ev α _ xs (ys.erase x) h2 fun y hy=>(List.mem_erase_of_ne fun e=>h1 (by rw[<-e];exact hy)).2 (h y (by simp[hy]))
  rw[List.length_erase_of_mem hx]at this
  have:=List.length_pos_of_mem hx
  rw[List.length_cons];omega
theorem NJ {l:List ai} (h:mi l):l.Nodup:=by
 rw[mV]at h
 refine List.Pairwise.imp (fun {a b} l7 e=>?_) h
 rw[e,pB]at l7;cases l7
abbrev zV:=List ai×List ai
noncomputable def Qv (s:eT) (st:zV) (x:ai):zV:=if Lv s st.2 x.cG x.bU=true then(st.1++[x],pI st.2 x)else st
structure InsI (s:eT) (l:List ai) (st:zV):Prop where
 PG:mi st.2
 sub:∀x∈st.2,x∈l
 done:∀x∈st.1,x∈l
 len:st.2.length=s.gH.aj.length+st.1.length
theorem N8 {s:eT} {l:List ai} (hA:qc s.iU l) {now:List ai} (hs:∀x∈now,x∈l) {p:br} {t:Int} (h:Lv s now p t=true):ew now p<0:=by
 rcases Int.lt_or_le (ew now p) 0 with h0|h0
 ·exact h0
 ·exfalso
  obtain⟨h1,_⟩:=ly h0
  have h2:=(ei (hA.2 _ (hs _ (mO h1)))).1
  simp[Lv,Dg,h0]at h
  omega
structure SysW (s:eT):Prop where
 set:lV s.iU
 Sy:qc s.iU s.gH.aj
 some:1<=s.gH.aj.length
 SA:ig s.eK 1 16=true
end Go.Proofs.YtphenfakmdknlaaGreat.V

namespace Go.Proofs.YtphenfakmdknlaaGreat.V
open Go.RowKit
attribute [local irreducible] dJ wpOps e8 Call
attribute [local go_sem] ax eB dY eJ eI cJ upd bD K.av bW AV.cells AV.cell rowOf rowsOf part ld rowAt bC bx cU de fj bf cC dv eO er cL dm cw cu cZ da bl aI bZ bj ck cj di dn dj bY bo cz dh bh au cq bJ fh aT bV bm aH cS aQ cV AV.undef aV bc db dd cY dc bQ du dw bG dq dp cm cr List.getD_cons_zero List.getD_cons_succ List.getD_nil List.all_cons List.all_nil Bool.and_true Bool.true_and Bool.and_self Bool.not_true Bool.not_false Option.map_some Option.map_none Option.bind_some Option.bind_none List.length_cons List.length_nil List.take_succ_cons List.take_zero List.take_nil List.drop_succ_cons List.drop_zero List.drop_nil List.head?_cons List.map_cons List.map_nil List.getElem?_cons_zero List.getElem?_cons_succ List.cons_append List.nil_append List.append_nil List.length_map List.set_cons_zero List.set_cons_succ Nat.reduceMul eq_self Int.toNat_natCast Int.natCast_nonneg and_self true_and and_true decide_true decide_false Bool.false_eq_true Nat.zero_add Nat.add_zero List.contains_cons List.contains_nil Bool.or_false Bool.false_or beq_self_eq_true Nat.reduceBEq ne_eq not_true_eq_false not_false_eq_true Id.mk.injEq false_and and_false Nat.reduceLT Int.reduceLE Int.reduceLT Int.reduceToNat Int.reduceNeg Int.reduceAdd Nat.le_refl List.length_append beq_true beq_false Bool.not_eq_eq_eq_not or_false false_or dG ab ae az aU bu aC aP aE aJ cD aX
noncomputable def z8 (s:ao) (l:List ai):Int:=if nW s=true/\oq s l=true then 0 else 1
theorem sO (s:ao) (l:List ai) (hn:fR s) (hg:s.ay.length<=1048576) (ht:s.aj.length<=1048576):ak Tryz.prog 87 [.dI (aa s),.dI [.sl (l.map ah)]] (.int .i64 (z8 s l)):=by
 refine ak.body eL rfl fun hl n0=>?_
 clear hl
 have h1:=Jf s hn hg ht
 have h2:=Jg s l
 cases b1:nW s
 ·rw[b1]at h1
  (repeat(first|((repeat(revert hN;revert N;apply Pn.out));refine wk @Nat.zero_add ?_;(repeat(refine Pn.mk ?_;intro N hN)))|((try apply Or.inl);refine⟨_,ak.x (h1) (sd @Nat.zero_add),?_⟩;refine hN _ _ ?_;clear hN N)))
  exact cH (b:=1) (.inl rfl) (sd @Nat.zero_add) (by rw[z8,if_neg (by rw[b1];simp)])
 rw[b1]at h1
 cases b2:oq s l
 ·rw[b2]at h2
  (repeat(first|((repeat(revert hN;revert N;apply Pn.out));refine wk @Nat.zero_add ?_;(repeat(refine Pn.mk ?_;intro N hN)))|((try apply Or.inl);refine⟨_,ak.x (h1) (sd @Nat.zero_add),?_⟩;refine hN _ _ ?_;clear hN N)|((try apply Or.inl);refine⟨_,ak.x (h2) (sd @Nat.zero_add),?_⟩;refine hN _ _ ?_;clear hN N)))
  exact cH (b:=1) (.inl rfl) (sd @Nat.zero_add) (by rw[z8,if_neg (by rw[b2];simp)])
 ·rw[b2]at h2
  (repeat(first|((repeat(revert hN;revert N;apply Pn.out));refine wk @Nat.zero_add ?_;(repeat(refine Pn.mk ?_;intro N hN)))|((try apply Or.inl);refine⟨_,ak.x (h1) (sd @Nat.zero_add),?_⟩;refine hN _ _ ?_;clear hN N)|((try apply Or.inl);refine⟨_,ak.x (h2) (sd @Nat.zero_add),?_⟩;refine hN _ _ ?_;clear hN N)))
  exact cH (b:=0) (.inl rfl) (sd @Nat.zero_add) (by rw[z8,if_pos ⟨b1,b2⟩])
theorem GK (p:List Nat) (x:Nat) (hl:p.length<=1048576):ak Tryz.prog 93 [.sl (p.map eN),.int .i64 (x:Int)] (.bool (decide (x∈p))):=by
 refine ak.body eL rfl fun wg n0=>?_
 clear wg
 have fP:(p.map eN).length=p.length:=by simp
 (try((repeat(revert hN;revert N;apply Pn.out));refine wk @Nat.zero_add ?_;(repeat(refine Pn.mk ?_;intro N hN))))
 refine bp (fun n env st=>∃k:Nat,n=(p.length)-k/\k<=(p.length)/\env 5=.int .i64 (k:Int)/\(∀j:Nat,j<k->p.getD j 0≠x)) (p.length) ⟨0,ad,ad,sl @Nat.zero_add,fun _ h=>absurd h (Nat.not_lt_zero _)⟩ ?_
 rintro n_a env_a st_a ⟨k,rfl,ale,a5,aA0⟩ dt
 have a0:=dt 0 (by kernel_rfl);have a1:=dt 1 (by kernel_rfl)
 simp only[go_sem, ↓reduceIte,Nat.reduceEqDiff,Nat.reduceAdd,Nat.reduceSub,Nat.reduceLeDiff,reduceCtorEq]at a0 a1
 clear dt
 by_cases hk:(k:Int)<(p.length:Int)
 ·have bK:∀{e:Env},(e 5=.int .i64 (IntKind.i64.wrap ((k:Int)+1)))->(p.getD k 0≠x)->∃m0,m0<(p.length)-k/\∃k:Nat,m0=(p.length)-k/\k<=(p.length)/\e 5=.int .i64 (k:Int)/\(∀j:Nat,j<k->p.getD j 0≠x):=fun x1 x2=>⟨_,ad,k+1,rfl,ad,(by rw[x1,aA ad]),(all_succ aA0 x2)⟩
  have eo:k<p.length:=ad
  have hg:=oc eo
  by_cases he:p.getD k 0=x
  ·have hd:decide (((p.getD k 0:Nat):Int)=(x:Int))=true:=decide_eq_true (by rw[he])
   have jg:decide (p.getD k 0=x)=true:=decide_eq_true he
   (try((repeat(revert hN;revert N;apply Pn.out));refine wk (tw @a5 (tw @a0 (tw @a1 (tw @hk (tw @fP (tw @hg (tw @hd @jg))))))) ?_;(repeat(refine Pn.mk ?_;intro N hN))))
   exact bt (b:=true) (.inl rfl) (sd (tw @a5 (tw @a0 @a1))) (decide_eq_true (by rw[<-he,List.getD_eq_getElem?_getD,List.getElem?_eq_getElem eo];exact List.getElem_mem eo)).symm
  ·have hd:decide (((p.getD k 0:Nat):Int)=(x:Int))=false:=decide_eq_false ad
   have jg:decide (p.getD k 0=x)=false:=decide_eq_false he
   (try((repeat(revert hN;revert N;apply Pn.out));refine wk (tw @a5 (tw @a0 (tw @a1 (tw @hk (tw @fP (tw @hg (tw @hd @jg))))))) ?_;(repeat(refine Pn.mk ?_;intro N hN))))
   exact bK (sd (tw @a5 (tw @a0 @a1))) (he)
 ·(try((repeat(revert hN;revert N;apply Pn.out));refine wk (tw @a5 (tw @a0 (tw @a1 (tw @hk @fP)))) ?_;(repeat(refine Pn.mk ?_;intro N hN))))
  exact bt (b:=false) (.inl rfl) (sd @Nat.zero_add) (decide_eq_false (fun hx=>by
   obtain⟨j,hj,rfl⟩:=List.getElem_of_mem hx
   exact aA0 j ad (by rw[List.getD_eq_getElem?_getD,List.getElem?_eq_getElem hj];rfl))).symm
def PV (E:Nat->Prop) (g:Rows) (n:Nat) (v:AV) (p:List Nat):Prop:=v=.sl (p.map eN)∨∃o:Id,v=.own o 0 p.length/\g o=some ⟨true,1,p.map eN⟩/\E o.site/\o.bR<n
theorem PV.frame {E:Nat->Prop} {g g':Rows} {n n':Nat} {v:AV} {p:List Nat} (h:PV E g n v p) (hn:n<=n') (hf:∀o:Id,E o.site->o.bR<n->g' o=g o):PV E g' n' v p:=by
 rcases h with h|⟨o,h1,h2,h3,h4⟩
 ·exact .inl h
 ·exact .inr ⟨o,h1,(hf o h3 h4).trans h2,h3,ad⟩
theorem PV.fz {E:Nat->Prop} {g:Rows} {n:Nat} {v:AV} {p:List Nat} (h:PV E g n v p) (k:Nat):V.fz g (k+3) v=some (.sl (p.map eN))/\fz (dG g) (k+3) v=some (.sl (p.map eN)):=by
 rcases h with rfl|⟨o,rfl,h2,_⟩
 ·exact⟨bu _ _ _,bu _ _ _⟩
 ·exact⟨fF h2 rfl fun x=>by simp[eN,ab,ae,az],fF (sz:=1) (by simp[dG,h2]) rfl fun x=>by simp[eN,ab,ae,az]⟩
theorem PV.cell {E:Nat->Prop} {g:Rows} {n:Nat} {v:AV} {p:List Nat} (h:PV E g n v p):v.cells=[v]/\v.cell=true:=by
 rcases h with rfl|⟨o,rfl,_⟩<;>exact⟨rfl,rfl⟩
inductive ga (E:Nat->Prop) (g:Rows) (n:Nat):List (List AV)->List (List Nat)->Prop
 |nil:ga E g n [] []
 |cons {v p rows R}:PV E g n v p->ga E g n rows R->ga E g n ([v]::rows) (p::R)
theorem ga.frame {E:Nat->Prop} {g g':Rows} {n n':Nat} {rows:List (List AV)} {R:List (List Nat)} (h:ga E g n rows R) (hn:n<=n') (hf:∀o:Id,E o.site->o.bR<n->g' o=g o):ga E g' n' rows R:=by
 induction h with
 |nil=>exact .nil
 |cons h1 _ ih=>exact .cons (h1.frame hn hf) ih
theorem ga.len {E:Nat->Prop} {g:Rows} {n:Nat} {rows:List (List AV)} {R:List (List Nat)} (h:ga E g n rows R):rows.length=R.length:=by
 induction h with
 |nil=>rfl
 |cons _ _ ih=>simp[ih]
theorem ga.app {E:Nat->Prop} {g:Rows} {n:Nat} {rows rows':List (List AV)} {R R':List (List Nat)} (h:ga E g n rows R) (h':ga E g n rows' R'):ga E g n (rows++rows') (R++R'):=by
 induction h with
 |nil=>exact h'
 |cons h1 _ ih=>exact .cons h1 ih
theorem ga.val {E:Nat->Prop} {g:Rows} {n:Nat}:∀R:List (List Nat),ga E g n (R.map FV) R
 |[]=>.nil
 |p::R=>.cons (.inl rfl) (ga.val R)
theorem ga.get {E:Nat->Prop} {g:Rows} {n:Nat} {rows:List (List AV)} {R:List (List Nat)} (h:ga E g n rows R):∀{k:Nat} {p:List Nat},R[k]? =some p->∃v,rows[k]? =some [v]/\PV E g n v p:=by
 induction h with
 |nil=>intro k p hk;simp at hk
 |cons h1 _ ih=>
  intro k p hk
  cases k with
  |zero=>simp at hk;subst hk;exact⟨_,rfl,h1⟩
  |succ k=>exact ih (by simpa using hk)
theorem ga.fz {E:Nat->Prop} {g:Rows} {n:Nat} {rows:List (List AV)} {R:List (List Nat)} (h:ga E g n rows R) (k:Nat):dK g (k+4) rows=some (R.map FV):=by
 induction h with
 |nil=>rw[dK];rfl
 |cons h1 _ ih=>
  have h2:=(h1.fz (k+1)).1
  rw[dK,ab,h2,ae,ih];rfl
structure ParOk (n:Nat) (px:Nat->Option Nat) (L:Nat->Nat):Prop where
 top:∀k,k<n->px k=none->L k=k
 up:∀k j,k<n->px k=some j->j<k/\L j=L k
def LB (G:Nat->Id) (px:Nat->Option Nat) (k:Nat):List AV:=[match px k with|none=>.iR|some j=>.ptr (G j) 0 0,.int .i64 (k:Int)]
def GrpS (g:Rows) (G:Nat->Id) (n:Nat) (px:Nat->Option Nat):Prop:=∀k,k<n->g (G k)=some ⟨true,2,[LB G px k]⟩
end Go.Proofs.YtphenfakmdknlaaGreat.V

namespace Go.Proofs.YtphenfakmdknlaaGreat.V
open Go.RowKit
attribute [local irreducible] dJ wpOps e8 Call
attribute [local go_sem] ax eB dY eJ eI cJ upd bD K.av bW AV.cells AV.cell rowOf rowsOf part ld rowAt bC bx cU de fj bf cC dv eO er cL dm cw cu cZ da bl aI bZ bj ck cj di dn dj bY bo cz dh bh au cq bJ fh aT bV bm aH cS aQ cV AV.undef aV bc db dd cY dc bQ du dw bG dq dp cm cr List.getD_cons_zero List.getD_cons_succ List.getD_nil List.all_cons List.all_nil Bool.and_true Bool.true_and Bool.and_self Bool.not_true Bool.not_false Option.map_some Option.map_none Option.bind_some Option.bind_none List.length_cons List.length_nil List.take_succ_cons List.take_zero List.take_nil List.drop_succ_cons List.drop_zero List.drop_nil List.head?_cons List.map_cons List.map_nil List.getElem?_cons_zero List.getElem?_cons_succ List.cons_append List.nil_append List.append_nil List.length_map List.set_cons_zero List.set_cons_succ eq_self Int.toNat_natCast Int.natCast_nonneg and_self true_and and_true decide_true decide_false Bool.false_eq_true Nat.zero_add Nat.add_zero List.contains_cons List.contains_nil Bool.or_false Bool.false_or beq_self_eq_true ne_eq not_true_eq_false not_false_eq_true Id.mk.injEq false_and and_false Nat.le_refl List.length_append beq_true beq_false Bool.not_eq_eq_eq_not or_false false_or dG ab ae az aU bu aC aP aE aJ cD aX
def GSt (g:Rows) (o:Id) (L:List (List Nat)) (nx:Nat):Prop:=∃rows ids,g o=some ⟨true,1,rows⟩/\cW Ng g rows L ids/\ids.Nodup/\(∀i∈ids,i.site=354026008/\i.bR<nx)/\o.site=354025002/\o.bR<nx
end Go.Proofs.YtphenfakmdknlaaGreat.V

namespace Go.Proofs.YtphenfakmdknlaaGreat.V
open Go.RowKit
attribute [local irreducible] dJ wpOps e8 Call
attribute [local go_sem] ax eB dY eJ eI cJ upd bD K.av bW AV.cells AV.cell rowOf rowsOf part ld rowAt bC bx cU de fj bf cC dv eO er cL dm cw cu cZ da bl aI bZ bj ck cj di dn dj bY bo cz dh bh au cq bJ fh aT bV bm aH cS aQ cV AV.undef aV bc db dd cY dc bQ du dw bG dq dp cm cr List.getD_cons_zero List.getD_cons_succ List.getD_nil List.all_cons List.all_nil Bool.and_true Bool.true_and Bool.and_self Bool.not_true Bool.not_false Option.map_some Option.map_none Option.bind_some Option.bind_none List.length_cons List.length_nil List.take_succ_cons List.take_zero List.take_nil List.drop_succ_cons List.drop_zero List.drop_nil List.head?_cons List.map_cons List.map_nil List.getElem?_cons_zero List.getElem?_cons_succ List.cons_append List.nil_append List.append_nil List.length_map List.set_cons_zero List.set_cons_succ Nat.reduceMul eq_self Int.toNat_natCast Int.natCast_nonneg and_self true_and and_true decide_true decide_false Bool.false_eq_true Nat.zero_add Nat.add_zero List.contains_cons List.contains_nil Bool.or_false Bool.false_or beq_self_eq_true Nat.reduceBEq ne_eq not_true_eq_false not_false_eq_true Id.mk.injEq false_and and_false Nat.reduceLT Int.reduceLE Int.reduceLT Int.reduceToNat Int.reduceNeg Int.reduceAdd Nat.le_refl List.length_append beq_true beq_false Bool.not_eq_eq_eq_not or_false false_or dG ab ae az aU bu aC aP aE aJ cD aX
theorem fy {o:Id} {a:Nat} (h:o.site=a) {b v:Nat} (l7:(a==b)=false):(o=⟨b,v⟩)=False/\((⟨b,v⟩:Id)=o)=False:=by
 have h1:=CV h (v:=v) l7
 refine⟨h1,?_⟩
 simp only[eq_iff_iff,iff_false]at h1 ⊢
 exact fun h=>h1 h.symm
theorem KS {t:Int} {bs:List PB} {j:Nat} (hj:j<bs.length):gE t (bs.take (j+1))=gE t (bs.take j)++if decide (bs[j].s<t)=true then[]else[bs[j]]:=by
 rw[zw t bs j hj]
 congr 1
 by_cases h:bs[j].s<t
 ·rw[if_neg ad,if_pos (decide_eq_true h)]
 ·rw[if_pos ad,if_neg (by simp only[decide_eq_true_eq];exact h)]
theorem KR {t:Int} {bs:List PB} (h:∀b∈bs,¬b.s<t):gE t bs=bs:=by
 unfold gE
 rw[List.filter_eq_self]
 intro b hb
 have:=h b hb
 exact decide_eq_true ad
structure DelP (t:Int) (bs:List PB) (j:Nat) (R:List PB):Prop where
 len:R.length=bs.length
 pre:R.take (gE t (bs.take j)).length=gE t (bs.take j)
 post:∀x,j<=x->R[x]? =bs[x]?
 lt:(gE t (bs.take j)).length<j
def JR (bs:List PB):AV:=if bs=[]then .cK else .sl (bs.map aZ)
theorem JS {bs:List PB} (h:0<bs.length):JR bs=.sl (bs.map aZ):=by
 unfold JR
 rw[if_neg (by rintro rfl;simp at h)]
end Go.Proofs.YtphenfakmdknlaaGreat.V

namespace Go.Proofs.YtphenfakmdknlaaGreat.V
open Go.RowKit
attribute [local irreducible] dJ wpOps e8 Call
attribute [local go_sem] ax eB dY eJ eI cJ upd bD K.av bW AV.cells AV.cell rowOf rowsOf part ld rowAt bC bx cU de fj bf cC dv eO er cL dm cw cu cZ da bl aI bZ bj ck cj di dn dj bY bo cz dh bh au cq bJ fh aT bV bm aH cS aQ cV AV.undef aV bc db dd cY dc bQ du dw bG dq dp cm cr List.getD_cons_zero List.getD_cons_succ List.getD_nil List.all_cons List.all_nil Bool.and_true Bool.true_and Bool.and_self Bool.not_true Bool.not_false Option.map_some Option.map_none Option.bind_some Option.bind_none List.length_cons List.length_nil List.take_succ_cons List.take_zero List.take_nil List.drop_succ_cons List.drop_zero List.drop_nil List.head?_cons List.map_cons List.map_nil List.getElem?_cons_zero List.getElem?_cons_succ List.cons_append List.nil_append List.append_nil List.length_map List.set_cons_zero List.set_cons_succ Nat.reduceMul eq_self Int.toNat_natCast Int.natCast_nonneg and_self true_and and_true decide_true decide_false Bool.false_eq_true Nat.zero_add Nat.add_zero List.contains_cons List.contains_nil Bool.or_false Bool.false_or beq_self_eq_true Nat.reduceBEq ne_eq not_true_eq_false not_false_eq_true Id.mk.injEq false_and and_false Nat.reduceLT Int.reduceLE Int.reduceLT Int.reduceToNat Int.reduceNeg Int.reduceAdd Nat.le_refl List.length_append beq_true beq_false Bool.not_eq_eq_eq_not or_false false_or dG ab ae az aU bu aC aP aE aJ cD aX
attribute [local go_sem] C0
section
attribute [-go_sem] cU
theorem Jt (n:Nat) (hn:n<=1048576):ak Tryz.prog 378 [.int .u64 1,.int .u64 n] (.im [.int .u64 0,.int .u64 n]):=by
 refine ak.body eL rfl fun hl n0=>?_
 clear hl
 have b1:(BitVec.ofInt 64 (n:Int)&&& BitVec.ofInt 64 4294967295).toNat=n:=by
  rw[BitVec.toNat_and]
  have e1:(BitVec.ofInt 64 (n:Int)).toNat=n:=by rw[BitVec.toNat_ofInt];omega
  have e2:(BitVec.ofInt 64 4294967295).toNat=2 ^ 32-1:=by decide
  rw[e1,e2]
  exact Nat.and_two_pow_sub_one_of_lt_two_pow ad
 have zn:IntKind.u64.wrap (n:Int)=n:=by rw[IntKind.wrap_u64];omega
 have i1:cU .and .u64 (n:Int) 4294967295=some (.int .u64 n):=by
  show some (AV.int .u64 (IntKind.u64.wrap (((BitVec.ofInt 64 (n:Int)&&& BitVec.ofInt 64 4294967295).toNat:Nat):Int)))= _
  rw[b1,zn]
 have i2:cU .and .u64 1 4294967295=some (.int .u64 1):=rfl
 have i3:cU .and .u64 0 4294967295=some (.int .u64 0):=rfl
 have i4:cU .mul .u64 1 (n:Int)=some (.int .u64 n):=by simp only[cU,Int.one_mul,zn]
 have i5:cU .mul .u64 0 (n:Int)=some (.int .u64 0):=by simp only[cU,Int.zero_mul];rfl
 have i6:cU .mul .u64 1 0=some (.int .u64 0):=rfl
 have i7:cU .mul .u64 0 0=some (.int .u64 0):=rfl
 have i8:cU .add .u64 0 0=some (.int .u64 0):=rfl
 have a3:Int.fdiv 1 (2 ^ min 32 64)=0:=by decide
 have a4:Int.fdiv (n:Int) (2 ^ min 32 64)=0:=by
  rw[Int.fdiv_eq_ediv_of_nonneg _ (by decide)]
  have h32:(2:Int) ^ min 32 64=4294967296:=by decide
  exact Int.ediv_eq_zero_of_lt ad ad
 have z1:Int.fdiv 0 (2 ^ min 32 64)=0:=by decide
 (try((repeat(revert hN;revert N;apply Pn.out));refine wk (tw @i1 (tw @i2 (tw @i3 (tw @i4 (tw @i5 (tw @i6 (tw @i7 (tw @i8 (tw @a3 (tw @a4 @z1)))))))))) ?_;(repeat(refine Pn.mk ?_;intro N hN))))
 refine uZ (.inl rfl) (r1:=.int .u64 0) (r2:=.int .u64 n) (sd @Nat.zero_add) (sd @Nat.zero_add) ?_
 simp only[lr,cN,dC,fV,Option.map_some]
end
theorem Pv (n:Nat) (hn:n<=1048576):ak Tryz.prog 370 [.int .u64 1,.int .u64 n] (.im [.int .u64 0,.int .u64 n]):=by
 refine ak.body eL rfl fun hl n0=>?_
 clear hl
 have h:=Jt n hn
 (repeat(first|((repeat(revert hN;revert N;apply Pn.out));refine wk @Nat.zero_add ?_;(repeat(refine Pn.mk ?_;intro N hN)))|((try apply Or.inl);refine⟨_,ak.x (h) (sd @Nat.zero_add),?_⟩;refine hN _ _ ?_;clear hN N)))
 refine uZ (.inl rfl) (r1:=.int .u64 0) (r2:=.int .u64 n) (sd @Nat.zero_add) (sd @Nat.zero_add) ?_
 simp only[lr,cN,dC,fV,Option.map_some]
theorem Hl (cnt:Nat) (DQ:1<=cnt) (hn:cnt<=1048576) (v:Int) (x:Id) (σ:ar) (hx:σ.get x=some ⟨true,1,[[.int .i64 v]]⟩) (Sk:x.bR<σ.next):
  Call Tryz.prog 350 [.own x 0 1,.int .i64 cnt] σ fun r σ'=>∃o:Id,r=.own o 0 cnt/\σ'.get o=some ⟨true,1,List.replicate cnt [.int .i64 v]⟩/\σ.next<=o.bR/\o.bR<σ'.next/\∀i:Id,i.bR<σ.next->σ'.get i=σ.get i:=by
 refine gj eL rfl fun hl=>?_
 clear hl
 have h:=Pv cnt hn
 have w1:IntKind.u64.wrap (cnt:Int)=cnt:=by rw[IntKind.wrap_u64];omega
 have w2:IntKind.i64.wrap (cnt:Int)=cnt:=HR ad
 have w0:IntKind.u64.wrap ((1:Nat):Int)=1:=by decide
 have g1:¬(cnt:Int)<0:=ad
 have g2:¬(9223372036854775807:Int)<cnt:=ad
 have jF:(0:Int)<=(cnt:Int):=ad
 have qo:(cnt:Int)<=((16777216:Nat):Int):=ad
 have hvx:=dW Sk
 have qp:(List.replicate cnt [AV.int .i64 0]).length=cnt:=List.length_replicate
 have m1:min 1 cnt=1:=ad
 (repeat(first|((repeat(revert hN;revert N;apply Pn.out));refine wk (tw @w0 (tw @w1 (tw @w2 (tw @g1 (tw @g2 (tw @jF (tw @qo (tw @Int.le_refl (tw @Nat.le_refl (tw @hx (tw @hvx (tw @qp @m1)))))))))))) ?_;(repeat(refine Pn.mk ?_;intro N hN)))|((try apply Or.inl);refine⟨_,ak.x (h) (sd (tw @w0 (tw @w1 (tw @w2 (tw @g1 (tw @g2 (tw @jF (tw @qo (tw @Int.le_refl (tw @Nat.le_refl (tw @hx (tw @hvx (tw @qp @m1))))))))))))),?_⟩;refine hN _ _ ?_;clear hN N)))
 refine bp (fun m env st=>∃k:Nat,m=cnt-k/\1<=k/\k<=cnt/\env 8=.int .i64 (k:Int)/\st.get ⟨350006002,σ.next+1+1+1+1⟩=some ⟨true,1,List.replicate k [.int .i64 v]++List.replicate (cnt-k) [.int .i64 0]⟩/\σ.next+4<st.next/\∀i:Id,i.bR<σ.next->st.get i=σ.get i) (cnt-1) ⟨1,rfl,Nat.le_refl _,DQ,by(simp only[go_sem, ↓reduceIte,Nat.reduceEqDiff,Nat.reduceAdd,Nat.reduceSub,Nat.reduceLeDiff,reduceCtorEq,m1])<;>rfl,?_,cE,fun i hi=>?_⟩ ?_
 ·simp only[go_sem, ↓reduceIte,Nat.reduceEqDiff,Nat.reduceAdd,Nat.reduceSub,Nat.reduceLeDiff,reduceCtorEq]
  rw[List.drop_replicate];rfl
 ·have A7:=dW hi
  simp only[go_sem, ↓reduceIte,Nat.reduceEqDiff,Nat.reduceAdd,Nat.reduceSub,Nat.reduceLeDiff,reduceCtorEq,A7]
 rintro m env_b st_b ⟨k,rfl,rD,rR,b8,bg,bn,bfr⟩ bkp
 have b7:=bkp 7 (by kernel_rfl)
 simp only[go_sem, ↓reduceIte,Nat.reduceEqDiff,Nat.reduceAdd,Nat.reduceSub,Nat.reduceLeDiff,reduceCtorEq]at b7
 clear bkp
 have O5:(List.replicate k [AV.int .i64 v]++List.replicate (cnt-k) [AV.int .i64 0]).length=cnt:=by simp;omega
 by_cases hk:(k:Int)<(cnt:Int)
 ·have eo:k<cnt:=ad
  have tJ:(k:Int)<=(cnt:Int):=ad
  have hw:IntKind.i64.wrap ((k:Int)+((min k (cnt-k):Nat):Int))=((k+min k (cnt-k):Nat):Int):=by rw[bP ad];omega
  have lT:List.take k (List.replicate k [AV.int .i64 v]++List.replicate (cnt-k) [AV.int .i64 0])=List.replicate k [AV.int .i64 v]:=List.take_left' (by simp)
  have dy:(List.replicate k [AV.int .i64 v]).all (fun c=>c.length==1&&c.all AV.cell)=true:=List.all_eq_true.2 fun c hc=>by rw[List.eq_of_mem_replicate hc];rfl
  have OO:(List.replicate k [AV.int .i64 v]).length=k:=List.length_replicate
  have DU:k+(cnt-k)=cnt:=ad
  have sK:List.replicate k [AV.int .i64 v]++List.take (min k (cnt-k)) (List.replicate k [AV.int .i64 v])++List.drop (k+min k (cnt-k)) (List.replicate k [AV.int .i64 v]++List.replicate (cnt-k) [AV.int .i64 0])=List.replicate (k+min k (cnt-k)) [AV.int .i64 v]++List.replicate (cnt-(k+min k (cnt-k))) [AV.int .i64 0]:=by
   rw[List.take_replicate,List.drop_append,List.drop_of_length_le (by simp),List.nil_append,OO,List.drop_replicate,List.replicate_append_replicate]
   congr 2
   ·omega
   ·omega
  (try((repeat(revert hN;revert N;apply Pn.out));refine wk (tw @b7 (tw @b8 (tw @bg (tw @O5 (tw @hk (tw @tJ (tw @rR (tw @hw (tw @eo (tw @Nat.sub_zero (tw @lT (tw @dy (tw @OO (tw @DU (tw @Nat.le_refl @sK))))))))))))))) ?_;(repeat(refine Pn.mk ?_;intro N hN))))
  refine⟨_,?_,k+min k (cnt-k),rfl,ad,ad,sd @hw,sd @sK,cE,fun i hi=>?_⟩
  ·omega
  ·have A7:=dW hi
   have:=bfr i hi
   simp only[go_sem, ↓reduceIte,Nat.reduceEqDiff,Nat.reduceAdd,Nat.reduceSub,Nat.reduceLeDiff,reduceCtorEq,A7,this]
 ·have jz:k=cnt:=ad
  subst jz
  (try((repeat(revert hN;revert N;apply Pn.out));refine wk (tw @b7 (tw @b8 (tw @bg (tw @O5 @hk)))) ?_;(repeat(refine Pn.mk ?_;intro N hN))))
  refine gI (.inl rfl) (vs:=[.own ⟨350006002,σ.next+1+1+1+1⟩ 0 k]) (sd @Nat.zero_add) ⟨⟨350006002,σ.next+1+1+1+1⟩,rfl,by simp only[go_sem, ↓reduceIte,Nat.reduceEqDiff,Nat.reduceAdd,Nat.reduceSub,Nat.reduceLeDiff,reduceCtorEq,bg];simp,cE,cE,fun i hi=>bfr i hi⟩
end Go.Proofs.YtphenfakmdknlaaGreat.V

namespace Go.Proofs.YtphenfakmdknlaaGreat.V
open Go.RowKit
attribute [local irreducible] dJ wpOps e8 Call
attribute [local go_sem] ax eB dY eJ eI cJ upd bD K.av bW AV.cells AV.cell rowOf rowsOf part ld rowAt bC bx cU de fj bf cC dv eO er cL dm cw cu cZ da bl aI bZ bj ck cj di dn dj bY bo cz dh bh au cq bJ fh aT bV bm aH cS aQ cV AV.undef aV bc db dd cY dc bQ du dw bG dq dp cm cr List.getD_cons_zero List.getD_cons_succ List.getD_nil List.all_cons List.all_nil Bool.and_true Bool.true_and Bool.and_self Bool.not_true Bool.not_false Option.map_some Option.map_none Option.bind_some Option.bind_none List.length_cons List.length_nil List.take_succ_cons List.take_zero List.take_nil List.drop_succ_cons List.drop_zero List.drop_nil List.head?_cons List.map_cons List.map_nil List.getElem?_cons_zero List.getElem?_cons_succ List.cons_append List.nil_append List.append_nil List.length_map List.set_cons_zero List.set_cons_succ Nat.reduceMul eq_self Int.toNat_natCast Int.natCast_nonneg and_self true_and and_true decide_true decide_false Bool.false_eq_true Nat.zero_add Nat.add_zero List.contains_cons List.contains_nil Bool.or_false Bool.false_or beq_self_eq_true Nat.reduceBEq ne_eq not_true_eq_false not_false_eq_true Id.mk.injEq false_and and_false Nat.reduceLT Int.reduceLE Int.reduceLT Int.reduceToNat Int.reduceNeg Int.reduceAdd Nat.le_refl List.length_append beq_true beq_false Bool.not_eq_eq_eq_not or_false false_or dG ab ae az aU bu aC aP aE aJ cD aX
def kb (R:Nat->Id) (n k:Nat):List (List AV):=(List.range k).map fun i=>[.own (R i) 0 n]
theorem js (R:Nat->Id) (n k:Nat):(kb R n k).length=k:=by simp[kb]
theorem pV {R:Nat->Id} {n k i:Nat} (h:i<k):(kb R n k)[i]? =some [.own (R i) 0 n]:=by simp[kb,h]
theorem qF (R:Nat->Id) (n k:Nat):kb R n (k+1)=kb R n k++[[.own (R k) 0 n]]:=by simp[kb,List.range_succ]
def ui (c:Nat->Nat->Int) (n:Nat):List (List AV):=(List.range n).map fun i=>[.sl (dP (c i) n)]
theorem zz {c:Nat->Nat->Int} {n i:Nat} (h:i<n):(ui c n)[i]? =some [.sl (dP (c i) n)]:=by simp[ui,h]
theorem pU (c:Nat->Nat->Int) (n:Nat):(ui c n).length=n:=by simp[ui]
structure Fv (X o1 o2:Id) (R1 R2:Nat->Id) (n nb:Nat):Prop where
 sx:X.site=324001001
 s1:o1.site=324004008
 s2:o2.site=324005008
 Qy:∀i,i<n->(R1 i).site=324004006
 KP:∀i,i<n->(R2 i).site=324005006
 i1:∀i j,i<n->j<n->R1 i=R1 j->i=j
 i2:∀i j,i<n->j<n->R2 i=R2 j->i=j
 vx:X.bR<nb
 v1:o1.bR<nb
 v2:o2.bR<nb
 SB:∀i,i<n->(R1 i).bR<nb
 PM:∀i,i<n->(R2 i).bR<nb
structure me (g:Rows) (X o1 o2:Id) (R1 R2:Nat->Id) (n:Nat) (c f:Nat->Nat->Int):Prop where
 x:g X=some ⟨true,2,[[.own o1 0 n,.own o2 0 n]]⟩
 t1:g o1=some ⟨true,1,kb R1 n n⟩
 t2:g o2=some ⟨true,1,kb R2 n n⟩
 r1:∀i,i<n->g (R1 i)=some ⟨true,1,dP (c i) n⟩
 r2:∀i,i<n->g (R2 i)=some ⟨true,1,dP (f i) n⟩
theorem mo {f:Nat->Nat->Int} {a b:Nat} {d:Int} {n:Nat} (hb:b<n):(dP (f a) n).set b (aM (f a b+d))=dP (bump f a b d a) n:=kc hb (by simp[bump]) fun i _ hi=>by simp[bump,hi]
theorem jl {f:Nat->Nat->Int} {a b i:Nat} {d:Int} (h:i≠a):bump f a b d i=f i:=by funext v;simp[bump,h]
theorem me.add {g g':Rows} {X o1 o2:Id} {R1 R2:Nat->Id} {n nb:Nat} {c f:Nat->Nat->Int} (I:Fv X o1 o2 R1 R2 n nb) (h:me g X o1 o2 R1 R2 n c f) (b:PB) (ha:b.a<n) (hb:b.b<n) (hA:b.a≠b.b->g' (R1 b.a)=some ⟨true,1,dP (bump c b.a b.b b.s b.a) n⟩) (hB:g' (R1 b.b)=some ⟨true,1,dP (lW c b b.b) n⟩) (hf:∀i:Id,i.bR<nb->(i=R1 b.a)=False->(i=R1 b.b)=False->g' i=g i):me g' X o1 o2 R1 R2 n (lW c b) f:=by
 have ne:∀{i:Id} {s:Nat},i.site=s->(s==324004006)=false->∀a,a<n->(i=R1 a)=False:=fun {i s} hi hs a ha=>by
  simp only[eq_iff_iff,iff_false]
  rintro rfl
  rw[I.Qy a ha]at hi
  subst hi
  simp at hs
 refine⟨(hf _ I.vx (ne I.sx (by decide) _ ha) (ne I.sx (by decide) _ hb)).trans h.x,(hf _ I.v1 (ne I.s1 (by decide) _ ha) (ne I.s1 (by decide) _ hb)).trans h.t1,(hf _ I.v2 (ne I.s2 (by decide) _ ha) (ne I.s2 (by decide) _ hb)).trans h.t2,fun i hi=>?_,fun i hi=>(hf _ (I.PM i hi) (ne (I.KP i hi) (by decide) _ ha) (ne (I.KP i hi) (by decide) _ hb)).trans (h.r2 i hi)⟩
 by_cases H4:i=b.b
 ·subst H4;exact hB
 ·by_cases LR:i=b.a
  ·subst LR
   rw[hA H4,lW,jl H4]
  ·rw[lW,jl H4,jl LR,hf _ (I.SB i hi) (by simp only[eq_iff_iff,iff_false];exact fun he=>LR (I.i1 i _ hi ha he)) (by simp only[eq_iff_iff,iff_false];exact fun he=>H4 (I.i1 i _ hi hb he))]
   exact h.r1 i hi
def fo (n:Nat) (c f:Nat->Nat->Int):List AV:=[.sl (ui c n),.sl (ui f n)]
theorem CZ {g:Rows} {R:Nat->Id} {n k:Nat} {c:Nat->Nat->Int} (h:∀i,i<k->g (R i)=some ⟨true,1,dP (c i) n⟩) (m:Nat):dK (dG g) (m+3) (kb R n k)=some ((List.range k).map fun i=>[.sl (dP (c i) n)]):=by
 induction k with
 |zero=>rw[show kb R n 0=[]from rfl,dK];rfl
 |succ k ih=>
  have e1:V.fz (dG g) (m+3) (.own (R k) 0 n)=some (.sl (dP (c k) n)):=by
   rw[gm];simp only[dG,h k ad,Option.map_some,if_true]
   rw[if_pos (by rw[dF];omega),List.drop_zero,List.take_of_length_le (by rw[dF];omega),w6];rfl
  have app:∀(xs ys:List (List AV)) (QB PZ:List (List AV)),dK (dG g) (m+3) xs=some QB->dK (dG g) (m+3) ys=some PZ->dK (dG g) (m+3) (xs++ys)=some (QB++PZ):=by
   intro xs
   induction xs with
   |nil=>intro ys QB PZ h1 h2;rw[dK]at h1;cases h1;exact h2
   |cons a xs Pp=>
    intro ys QB PZ h1 h2
    rw[dK]at h1
    rw[List.cons_append,dK]
    cases ha:cR (dG g) (m+3) a with
    |none=>simp[ha]at h1
    |some a'=>
     cases hb:dK (dG g) (m+3) xs with
     |none=>simp[ha,hb]at h1
     |some b'=>
      simp[ha,hb]at h1
      subst h1
      rw[Pp ys b' PZ hb h2];rfl
  rw[qF,List.range_succ,List.map_append]
  refine app _ _ _ _ (ih fun i hi=>h i ad) ?_
  rw[dK,ab,ae,e1,dK];rfl
theorem me.fz {g:Rows} {X o1 o2:Id} {R1 R2:Nat->Id} {n:Nat} {c f:Nat->Nat->Int} (h:me g X o1 o2 R1 R2 n c f):V.fz (dG g) 6 (.ptr X 0 0)=some (.dI (fo n c f)):=by
 refine Lx (sz:=2) (rows:=[[.own o1 0 n,.own o2 0 n]]) (by simp[dG,h.x]) rfl ?_
 have e1:V.fz (dG g) 5 (.own o1 0 n)=some (.sl (ui c n)):=by
  rw[gm];simp only[dG,h.t1,Option.map_some,if_true]
  rw[if_pos (by rw[js];omega),List.drop_zero,List.take_of_length_le (by rw[js];omega)]
  rw[show dK _ 4 _=some (ui c n)from CZ h.r1 1];rfl
 have e2:V.fz (dG g) 5 (.own o2 0 n)=some (.sl (ui f n)):=by
  rw[gm];simp only[dG,h.t2,Option.map_some,if_true]
  rw[if_pos (by rw[js];omega),List.drop_zero,List.take_of_length_le (by rw[js];omega)]
  rw[show dK _ 4 _=some (ui f n)from CZ h.r2 1];rfl
 simp only[List.drop_zero,ab,ae,e1,e2,fo,Option.map_some]
theorem Lw (n:Nat) (c f:Nat->Nat->Int) (u v:Nat) (hu:u<n) (hv:v<n):ak Tryz.prog 351 [.dI (fo n c f),.int .i64 u,.int .i64 v] (.bool (decide (f u v<c u v))):=by
 refine ak.body eL rfl fun hl n0=>?_
 clear hl
 have h1:=zz (c:=c) hu
 have h2:=zz (c:=f) hu
 have h3:=dL (f:=c u) hv
 have h4:=dL (f:=f u) hv
 have hui:(u:Int)<(n:Int):=ad
 have A7:(v:Int)<(n:Int):=ad
 have l1:=pU c n
 have l2:=pU f n
 have l3:=dF (c u) n
 have l4:=dF (f u) n
 rw[aM]at h3 h4
 (try((repeat(revert hN;revert N;apply Pn.out));refine wk (tw @fo.eq_1 (tw @h1 (tw @h2 (tw @h3 (tw @h4 (tw @hui (tw @A7 (tw @l1 (tw @l2 (tw @l3 @l4)))))))))) ?_;(repeat(refine Pn.mk ?_;intro N hN))))
 exact bt (b:=decide (f u v<c u v)) (.inl rfl) (sd @Nat.zero_add) rfl
theorem EY (n:Nat):List.replicate n [AV.int .i64 0]=dP (fun _=>0) n:=by
 refine List.ext_getElem? fun i=>?_
 by_cases h:i<n
 ·rw[dL h,List.getElem?_replicate,if_pos h];rfl
 ·rw[List.getElem?_eq_none (by simp;omega),List.getElem?_eq_none (by rw[dF];omega)]
theorem uh {i j:Id} {s t:Nat} (hi:i.site=s) (hj:j.site=t) (h:(s==t)=false):(i=j)=False/\(j=i)=False:=by
 constructor<;>(simp only[eq_iff_iff,iff_false];rintro rfl;rw[hi]at hj;subst hj;simp at h)
theorem zf (cnt:Nat) (DQ:1<=cnt) (hn:cnt<=1048576) (bs:List PB) (hb:∀b∈bs,b.a<cnt/\b.b<cnt) (ee:∀b∈bs,0<=b.s/\b.s<=4) (re:bs.length<=1048576) (σ:ar):
  Call Tryz.prog 324 [.int .i64 cnt,.sl (bs.map aZ)] σ fun r σ'=>∃X o1 o2 R1 R2,r=.ptr X 0 0/\Fv X o1 o2 R1 R2 cnt σ'.next/\σ.next<=σ'.next/\me σ'.get X o1 o2 R1 R2 cnt (eM bs) (fun _ _=>0)/\∀i:Id,i.bR<σ.next->σ'.get i=σ.get i:=by
 refine gj eL rfl fun hl=>?_
 clear hl
 (try((repeat(revert hN;revert N;apply Pn.out));refine wk @Nat.zero_add ?_;(repeat(refine Pn.mk ?_;intro N hN))))
 obtain⟨X,hX⟩:∃X:Id,X=⟨324001001,σ.next+1⟩:=⟨_,rfl⟩
 obtain⟨R1,LK⟩:∃R:Nat->Id,R=fun k=>⟨324004006,σ.next+3+4*k+1⟩:=⟨_,rfl⟩
 obtain⟨R2,Om⟩:∃R:Nat->Id,R=fun k=>⟨324005006,σ.next+3+4*k+2⟩:=⟨_,rfl⟩
 have sX:X.site=324001001:=by rw[hX]
 have vX:X.bR=σ.next+1:=by rw[hX]
 have s1:∀k,(R1 k).site=324004006:=fun k=>by rw[LK]
 have s2:∀k,(R2 k).site=324005006:=fun k=>by rw[Om]
 have v1:∀k,(R1 k).bR=σ.next+3+4*k+1:=fun k=>by rw[LK]
 have v2:∀k,(R2 k).bR=σ.next+3+4*k+2:=fun k=>by rw[Om]
 have jF:(0:Int)<=(cnt:Int):=ad
 have qo:(cnt:Int)<=((16777216:Nat):Int):=ad
 have hz:=EY cnt
 have t1:kb R1 cnt 0=[]:=rfl
 have t2:kb R2 cnt 0=[]:=rfl
 refine bp (fun n env st=>∃k:Nat,n=(cnt)-k/\k<=(cnt)/\env 11=.int .i64 (k:Int)/\env 5=(.ptr X 0 0)/\(st.next=σ.next+3+4*k/\(∀i:Id,i.bR<σ.next->st.get i=σ.get i)/\∀j,j<k->st.get (R1 j)=some ⟨true,1,dP (fun _=>0) cnt⟩/\st.get (R2 j)=some ⟨true,1,dP (fun _=>0) cnt⟩)/\((k=0/\st.get X=some ⟨true,2,[[.cK,.cK]]⟩)∨∃o1 o2:Id,o1.site=324004008/\o2.site=324005008/\o1.bR<st.next/\o2.bR<st.next/\σ.next<=o1.bR/\σ.next<=o2.bR/\st.get X=some ⟨true,2,[[.own o1 0 k,.own o2 0 k]]⟩/\st.get o1=some ⟨true,1,kb R1 cnt k⟩/\st.get o2=some ⟨true,1,kb R2 cnt k⟩)) (cnt) ⟨0,ad,ad,sl @hX,sl @hX,⟨rfl,fun i hi=>by(have A7:=dW hi);simp only[go_sem, ↓reduceIte,Nat.reduceEqDiff,Nat.reduceAdd,Nat.reduceSub,Nat.reduceLeDiff,reduceCtorEq,A7],fun j hj=>absurd hj (Nat.not_lt_zero j)⟩,.inl ⟨rfl,by rw[hX];simp only[go_sem, ↓reduceIte,Nat.reduceEqDiff,Nat.reduceAdd,Nat.reduceSub,Nat.reduceLeDiff,reduceCtorEq]⟩⟩ ?_
 rintro n_a env_a st_a ⟨k,rfl,ale,iM,a5,aI0,aI1⟩ dt
 have a0:=dt 0 (by kernel_rfl);have a1:=dt 1 (by kernel_rfl);have iL:=dt 10 (by kernel_rfl)
 simp only[go_sem, ↓reduceIte,Nat.reduceEqDiff,Nat.reduceAdd,Nat.reduceSub,Nat.reduceLeDiff,reduceCtorEq,hX]at a0 a1 iL
 clear dt
 obtain⟨anx,dt,aR⟩:=aI0
 have wX:=dW (i:=X) (n:=st_a.next) ad
 by_cases hk:(k:Int)<(cnt:Int)
 ·have bK:∀{e:Env} {gg:Rows} {nx:Nat},(e 11=.int .i64 (IntKind.i64.wrap ((k:Int)+1)))->(e 5=(.ptr X 0 0))->(nx=σ.next+3+4*(k+1)/\(∀i:Id,i.bR<σ.next->gg i=σ.get i)/\∀j,j<(k+1)->gg (R1 j)=some ⟨true,1,dP (fun _=>0) cnt⟩/\gg (R2 j)=some ⟨true,1,dP (fun _=>0) cnt⟩)->(((k+1)=0/\gg X=some ⟨true,2,[[.cK,.cK]]⟩)∨∃o1 o2:Id,o1.site=324004008/\o2.site=324005008/\o1.bR<nx/\o2.bR<nx/\σ.next<=o1.bR/\σ.next<=o2.bR/\gg X=some ⟨true,2,[[.own o1 0 (k+1),.own o2 0 (k+1)]]⟩/\gg o1=some ⟨true,1,kb R1 cnt (k+1)⟩/\gg o2=some ⟨true,1,kb R2 cnt (k+1)⟩)->∃m0,m0<(cnt)-k/\∃k:Nat,m0=(cnt)-k/\k<=(cnt)/\e 11=.int .i64 (k:Int)/\e 5=(.ptr X 0 0)/\(nx=σ.next+3+4*k/\(∀i:Id,i.bR<σ.next->gg i=σ.get i)/\∀j,j<k->gg (R1 j)=some ⟨true,1,dP (fun _=>0) cnt⟩/\gg (R2 j)=some ⟨true,1,dP (fun _=>0) cnt⟩)/\((k=0/\gg X=some ⟨true,2,[[.cK,.cK]]⟩)∨∃o1 o2:Id,o1.site=324004008/\o2.site=324005008/\o1.bR<nx/\o2.bR<nx/\σ.next<=o1.bR/\σ.next<=o2.bR/\gg X=some ⟨true,2,[[.own o1 0 k,.own o2 0 k]]⟩/\gg o1=some ⟨true,1,kb R1 cnt k⟩/\gg o2=some ⟨true,1,kb R2 cnt k⟩):=fun x1 x2 x3 x4=>⟨_,ad,k+1,rfl,ad,(by rw[x1,aA ad]),x2,x3,x4⟩
  have eo:k<cnt:=ad
  have rD:R1 k=⟨324004006,st_a.next+1⟩:=by rw[LK,anx]
  have rR:R2 k=⟨324005006,st_a.next+1+1⟩:=by rw[Om,anx]
  have DS:kb R1 cnt (k+1)=kb R1 cnt k++[[.own ⟨324004006,st_a.next+1⟩ 0 cnt]]:=by rw[qF,rD]
  have IX:kb R2 cnt (k+1)=kb R2 cnt k++[[.own ⟨324005006,st_a.next+1+1⟩ 0 cnt]]:=by rw[qF,rR]
  rcases aI1 with⟨rfl,NO⟩|⟨o1,o2,so1,so2,vo1,vo2,vn1,vn2,NO,ag1,ag2⟩
  ·(try((repeat(revert hN;revert N;apply Pn.out));refine wk (tw @iM (tw @a5 (tw @a0 (tw @a1 (tw @iL (tw @hk (tw @wX (tw @NO (tw @jF (tw @qo (tw @Int.le_refl @hz))))))))))) ?_;(repeat(refine Pn.mk ?_;intro N hN))))
   refine bK ?_ ?_ (by
    (try dsimp only)
    refine⟨ad,fun i hi=>?_,fun j hj=>?_⟩
    ·have q1:=dW (i:=i) (n:=st_a.next) ad
     have q2:=dE (a:=i) (b:=X) ad
     have:=dt i hi
     simp only[go_sem, ↓reduceIte,Nat.reduceEqDiff,Nat.reduceAdd,Nat.reduceSub,Nat.reduceLeDiff,reduceCtorEq,q1,q2,this]
    ·by_cases uK:j=0
     ·subst uK
      rw[rD,rR]
      have q1:=fy sX (b:=324004006) (v:=st_a.next+1) (by decide)
      have q2:=fy sX (b:=324005006) (v:=st_a.next+1+1) (by decide)
      simp only[go_sem, ↓reduceIte,Nat.reduceEqDiff,Nat.reduceAdd,Nat.reduceSub,Nat.reduceLeDiff,reduceCtorEq,q1,q2]
     ·obtain⟨r1,r2⟩:=aR j ad
      have q1:=dW (i:=R1 j) (n:=st_a.next) (by rw[v1];omega)
      have q2:=dW (i:=R2 j) (n:=st_a.next) (by rw[v2];omega)
      have q3:=uh (s1 j) sX (by decide)
      have q4:=uh (s2 j) sX (by decide)
      constructor
      ·simp only[go_sem, ↓reduceIte,Nat.reduceEqDiff,Nat.reduceAdd,Nat.reduceSub,Nat.reduceLeDiff,reduceCtorEq,q1,q3,r1]
      ·simp only[go_sem, ↓reduceIte,Nat.reduceEqDiff,Nat.reduceAdd,Nat.reduceSub,Nat.reduceLeDiff,reduceCtorEq,q2,q4,r2]) (.inr ⟨⟨324004008,st_a.next+1⟩,⟨324005008,st_a.next+1+1⟩,rfl,rfl,cE,cE,cE,cE,sd @wX,by rw[DS,t1];simp only[go_sem, ↓reduceIte,Nat.reduceEqDiff,Nat.reduceAdd,Nat.reduceSub,Nat.reduceLeDiff,reduceCtorEq,wX,List.nil_append],by rw[IX,t2];simp only[go_sem, ↓reduceIte,Nat.reduceEqDiff,Nat.reduceAdd,Nat.reduceSub,Nat.reduceLeDiff,reduceCtorEq,wX,List.nil_append]⟩)
   all_goals simp only[go_sem, ↓reduceIte,Nat.reduceEqDiff,Nat.reduceAdd,Nat.reduceSub,Nat.reduceLeDiff,reduceCtorEq,iM,a5,a0,a1,iL,wX]
  ·have l1:=js R1 cnt k
   have l2:=js R2 cnt k
   have e1:k+1<=16777216:=ad
   have w1:=dW vo1
   have w2:=dW vo2
   have x1:=uh sX so1 (by decide)
   have x2:=uh sX so2 (by decide)
   have x3:=uh so1 so2 (by decide)
   (try((repeat(revert hN;revert N;apply Pn.out));refine wk (tw @iM (tw @a5 (tw @a0 (tw @a1 (tw @iL (tw @hk (tw @wX (tw @NO (tw @ag1 (tw @ag2 (tw @l1 (tw @l2 (tw @e1 (tw @w1 (tw @w2 (tw @x1 (tw @x2 (tw @x3 (tw @jF (tw @qo (tw @Int.le_refl @hz))))))))))))))))))))) ?_;(repeat(refine Pn.mk ?_;intro N hN))))
   refine bK ?_ ?_ (by
    (try dsimp only)
    refine⟨ad,fun i hi=>?_,fun j hj=>?_⟩
    ·have q1:=dW (i:=i) (n:=st_a.next) ad
     have q2:=dE (a:=i) (b:=X) ad
     have q3:=dE (a:=i) (b:=o1) ad
     have q4:=dE (a:=i) (b:=o2) ad
     have:=dt i hi
     simp only[go_sem, ↓reduceIte,Nat.reduceEqDiff,Nat.reduceAdd,Nat.reduceSub,Nat.reduceLeDiff,reduceCtorEq,q1,q2,this,q3,q4]
    ·by_cases uK:j=k
     ·subst uK
      rw[rD,rR]
      have q1:=fy sX (b:=324004006) (v:=st_a.next+1) (by decide)
      have q2:=fy sX (b:=324005006) (v:=st_a.next+1+1) (by decide)
      simp only[go_sem, ↓reduceIte,Nat.reduceEqDiff,Nat.reduceAdd,Nat.reduceSub,Nat.reduceLeDiff,reduceCtorEq,q1,q2,w1,w2]
     ·obtain⟨r1,r2⟩:=aR j ad
      have q1:=dW (i:=R1 j) (n:=st_a.next) (by rw[v1];omega)
      have q2:=dW (i:=R2 j) (n:=st_a.next) (by rw[v2];omega)
      have q3:=uh (s1 j) sX (by decide)
      have q4:=uh (s2 j) sX (by decide)
      have q5:=uh (s1 j) so1 (by decide)
      have q6:=uh (s1 j) so2 (by decide)
      have q7:=uh (s2 j) so1 (by decide)
      have q8:=uh (s2 j) so2 (by decide)
      constructor
      ·simp only[go_sem, ↓reduceIte,Nat.reduceEqDiff,Nat.reduceAdd,Nat.reduceSub,Nat.reduceLeDiff,reduceCtorEq,q1,q3,r1,q5,q6]
      ·simp only[go_sem, ↓reduceIte,Nat.reduceEqDiff,Nat.reduceAdd,Nat.reduceSub,Nat.reduceLeDiff,reduceCtorEq,q2,q4,r2,q7,q8]) (.inr ⟨⟨324004008,st_a.next+1⟩,⟨324005008,st_a.next+1+1⟩,rfl,rfl,cE,cE,cE,cE,sd @wX,by rw[DS];simp only[go_sem, ↓reduceIte,Nat.reduceEqDiff,Nat.reduceAdd,Nat.reduceSub,Nat.reduceLeDiff,reduceCtorEq,wX,w1,w2],by rw[IX];simp only[go_sem, ↓reduceIte,Nat.reduceEqDiff,Nat.reduceAdd,Nat.reduceSub,Nat.reduceLeDiff,reduceCtorEq,wX,w1,w2]⟩)
   all_goals simp only[go_sem, ↓reduceIte,Nat.reduceEqDiff,Nat.reduceAdd,Nat.reduceSub,Nat.reduceLeDiff,reduceCtorEq,iM,a5,a0,a1,iL,wX,w1,w2,x1,x2,x3]
 have jz:cnt=k:=ad
 subst jz
 rcases aI1 with⟨h0,_⟩|⟨o1,o2,so1,so2,vo1,vo2,vn1,vn2,NO,ag1,ag2⟩
 ·omega
 (try((repeat(revert hN;revert N;apply Pn.out));refine wk (tw @iM (tw @a5 (tw @a0 (tw @a1 (tw @iL @hk))))) ?_;(repeat(refine Pn.mk ?_;intro N hN))))
 have I:Fv X o1 o2 R1 R2 cnt st_a.next:=⟨sX,so1,so2,fun i _=>s1 i,fun i _=>s2 i,fun i j _ _ h=>by have:=v1 i;rw[h,v1]at this;omega,fun i j _ _ h=>by have:=v2 i;rw[h,v2]at this;omega,ad,vo1,vo2,fun i hi=>by rw[v1];omega,fun i hi=>by rw[v2];omega⟩
 refine bp (fun n env st=>∃i:Nat,n=(bs.length)-i/\i<=(bs.length)/\env 38=.int .i64 (i:Int)/\(st_a.next<=st.next/\(∀x:Id,x.bR<σ.next->st.get x=σ.get x)/\me st.get X o1 o2 R1 R2 cnt (eM (bs.take i)) (fun _ _=>0))) (bs.length) ⟨0,ad,ad,sl (tw @iM (tw @a5 (tw @a0 (tw @a1 @iL)))),⟨cE,dt,NO,ag1,ag2,fun j hj=>(aR j hj).1,fun j hj=>(aR j hj).2⟩⟩ ?_
 rintro n_b env_b st_b ⟨i,rfl,ble,b38,bI0⟩ bfr
 have b0:=bfr 0 (by kernel_rfl);have b1:=bfr 1 (by kernel_rfl);have b5:=bfr 5 (by kernel_rfl);have Ni:=bfr 36 (by kernel_rfl);have Nj:=bfr 37 (by kernel_rfl)
 simp only[go_sem, ↓reduceIte,Nat.reduceEqDiff,Nat.reduceAdd,Nat.reduceSub,Nat.reduceLeDiff,reduceCtorEq,iM,a5,a0,a1,iL]at b0 b1 b5 Ni Nj
 clear bfr
 obtain⟨bn,Ld,bM⟩:=bI0
 by_cases hi:(i:Int)<(bs.length:Int)
 ·have j3:∀{e:Env} {gg:Rows} {nx:Nat},(e 38=.int .i64 (IntKind.i64.wrap ((i:Int)+1)))->(st_a.next<=nx/\(∀x:Id,x.bR<σ.next->gg x=σ.get x)/\me gg X o1 o2 R1 R2 cnt (eM (bs.take (i+1))) (fun _ _=>0))->∃m0,m0<(bs.length)-i/\∃i:Nat,m0=(bs.length)-i/\i<=(bs.length)/\e 38=.int .i64 (i:Int)/\(st_a.next<=nx/\(∀x:Id,x.bR<σ.next->gg x=σ.get x)/\me gg X o1 o2 R1 R2 cnt (eM (bs.take i)) (fun _ _=>0)):=fun x1 x2=>⟨_,ad,i+1,rfl,ad,(by rw[x1,aA ad]),x2⟩
  have gP:i<bs.length:=ad
  have xn:(bs.map aZ)[i]? =some (aZ bs[i]):=by simp[gP]
  have fG:=hb _ (List.getElem_mem gP)
  have hsi:=ee _ (List.getElem_mem gP)
  have qq:eM (bs.take (i+1))=lW (eM (bs.take i)) bs[i]:=by rw[List.take_succ_eq_append_getElem gP,BC]
  have nR:=wT (bs.take i) (fun _ _=>0) (fun b hb=>(ee b (List.mem_of_mem_take hb)).1) (fun _ _=>Int.le_refl _)
  have hle:=room_le (bs.take i) (fun _ _=>0) 0 (fun b hb=>(ee b (List.mem_of_mem_take hb)).2) (fun _ _=>Int.le_refl _) (Int.le_refl _)
  rw[List.length_take]at hle
  have fq:(bs.take i).foldl lW (fun _ _=>0)=eM (bs.take i):=rfl
  rw[fq]at nR hle
  generalize eM (bs.take i)=c at *
  generalize bs[i]=b at *
  obtain⟨ha,qn⟩:=fG
  have gA:=pV (R:=R1) (n:=cnt) ha
  have gB:=pV (R:=R1) (n:=cnt) qn
  have rA:=bM.r1 _ ha
  have rB:=bM.r1 _ qn
  have cA:=dL (f:=c b.a) qn
  have cB:=dL (f:=c b.b) ha
  have sA:=mo (f:=c) (a:=b.a) (d:=b.s) qn
  have gX:=bM.x
  have g1:=bM.t1
  have gN:(b.a:Int)<(cnt:Int):=ad
  have fG:(b.b:Int)<(cnt:Int):=ad
  have qX:=dW (i:=X) (n:=st_b.next) ad
  have q1:=dW (i:=o1) (n:=st_b.next) ad
  have qA:=dW (i:=R1 b.a) (n:=st_b.next) (by rw[v1];omega)
  have qB:=dW (i:=R1 b.b) (n:=st_b.next) (by rw[v1];omega)
  have xA:=uh sX (s1 b.a) (by decide)
  have xB:=uh sX (s1 b.b) (by decide)
  have yA:=uh so1 (s1 b.a) (by decide)
  have yB:=uh so1 (s1 b.b) (by decide)
  have l1:=js R1 cnt cnt
  have lA:=dF (c b.a) cnt
  have lB:=dF (c b.b) cnt
  have hAB:=hle b.a b.b
  have hBA:=hle b.b b.a
  have gAB:=nR b.a b.b
  have gBA:=nR b.b b.a
  have wA:IntKind.i64.wrap (c b.a b.b+b.s)=c b.a b.b+b.s:=bP ad
  by_cases l7:b.a=b.b
  ·obtain⟨ba,bb,s⟩:=b
   dsimp only at *
   subst l7
   have L6:=mo (f:=bump c ba ba s) (a:=ba) (b:=ba) (d:=s) (n:=cnt) ha
   have Rg:=dL (f:=bump c ba ba s ba) ha
   have hv:bump c ba ba s ba ba=c ba ba+s:=by simp[bump]
   have lC:=dF (bump c ba ba s ba) cnt
   have wB:IntKind.i64.wrap (c ba ba+s+s)=c ba ba+s+s:=bP ad
   rw[hv]at L6 Rg
   have lu:lW c ⟨ba,ba,s⟩ ba=bump (bump c ba ba s) ba ba s ba:=rfl
   rw[aM]at cA sA L6 Rg
   (try((repeat(revert hN;revert N;apply Pn.out));refine wk (tw @b38 (tw @b0 (tw @b1 (tw @b5 (tw @Ni (tw @Nj (tw @hi (tw @xn (tw @aZ.eq_1 (tw @gA (tw @rA (tw @cA (tw @sA (tw @gX (tw @g1 (tw @gN (tw @qX (tw @q1 (tw @qA (tw @xA (tw @yA (tw @l1 (tw @lA (tw @wA (tw @L6 (tw @Rg (tw @lC @wB))))))))))))))))))))))))))) ?_;(repeat(refine Pn.mk ?_;intro N hN))))
   exact j3 (sd (tw @b38 (tw @b0 (tw @b1 (tw @b5 (tw @Ni @Nj)))))) (by
    (try dsimp only)
    refine⟨ad,fun x hx=>?_,?_⟩
    ·have p1:=dW (i:=x) (n:=st_b.next) ad
     have p2:=dE (a:=x) (b:=R1 ba) (by rw[v1];omega)
     have:=Ld x hx
     simp only[go_sem, ↓reduceIte,Nat.reduceEqDiff,Nat.reduceAdd,Nat.reduceSub,Nat.reduceLeDiff,reduceCtorEq,p1,p2,this]
    ·rw[qq]
     refine bM.add I ⟨ba,ba,s⟩ ha ha (fun h=>absurd rfl h) ?_ fun x hx h1 h2=>?_
     ·rw[lu]
      simp only[go_sem, ↓reduceIte,Nat.reduceEqDiff,Nat.reduceAdd,Nat.reduceSub,Nat.reduceLeDiff,reduceCtorEq]
     ·have p1:=dW (i:=x) (n:=st_b.next) ad
      (try dsimp only at h2)
      simp only[go_sem, ↓reduceIte,Nat.reduceEqDiff,Nat.reduceAdd,Nat.reduceSub,Nat.reduceLeDiff,reduceCtorEq,p1,h2])
  ·have gQ:(R1 b.a=R1 b.b)=False:=by simp only[eq_iff_iff,iff_false];exact fun h=>l7 (I.i1 _ _ ha qn h)
   have Gs:(R1 b.b=R1 b.a)=False:=by simp only[eq_iff_iff,iff_false];exact fun h=>l7 (I.i1 _ _ ha qn h.symm)
   have LZ:bump c b.a b.b b.s b.b=c b.b:=jl fun h=>l7 h.symm
   have L6:=mo (f:=bump c b.a b.b b.s) (a:=b.b) (b:=b.a) (d:=b.s) (n:=cnt) ha
   rw[LZ]at L6
   have wB:IntKind.i64.wrap (c b.b b.a+b.s)=c b.b b.a+b.s:=bP ad
   have lu:lW c b b.b=bump (bump c b.a b.b b.s) b.b b.a b.s b.b:=rfl
   rw[aM]at cA cB sA L6
   (try((repeat(revert hN;revert N;apply Pn.out));refine wk (tw @b38 (tw @b0 (tw @b1 (tw @b5 (tw @Ni (tw @Nj (tw @hi (tw @xn (tw @aZ.eq_1 (tw @gA (tw @gB (tw @rA (tw @rB (tw @cA (tw @cB (tw @sA (tw @gX (tw @g1 (tw @gN (tw @fG (tw @qX (tw @q1 (tw @qA (tw @qB (tw @xA (tw @xB (tw @yA (tw @yB (tw @l1 (tw @lA (tw @lB (tw @wA (tw @L6 (tw @wB (tw @gQ @Gs))))))))))))))))))))))))))))))))))) ?_;(repeat(refine Pn.mk ?_;intro N hN))))
   exact j3 (sd (tw @b38 (tw @b0 (tw @b1 (tw @b5 (tw @Ni @Nj)))))) (by
    (try dsimp only)
    refine⟨ad,fun x hx=>?_,?_⟩
    ·have p1:=dW (i:=x) (n:=st_b.next) ad
     have p2:=dE (a:=x) (b:=R1 b.b) (by rw[v1];omega)
     have p3:=dE (a:=x) (b:=R1 b.a) (by rw[v1];omega)
     have:=Ld x hx
     simp only[go_sem, ↓reduceIte,Nat.reduceEqDiff,Nat.reduceAdd,Nat.reduceSub,Nat.reduceLeDiff,reduceCtorEq,p1,p2,p3,this]
    ·rw[qq]
     refine bM.add I b ha qn (fun h=>?_) ?_ fun x hx h1 h2=>?_
     ·simp only[go_sem, ↓reduceIte,Nat.reduceEqDiff,Nat.reduceAdd,Nat.reduceSub,Nat.reduceLeDiff,reduceCtorEq,gQ]
     ·rw[lu]
      simp only[go_sem, ↓reduceIte,Nat.reduceEqDiff,Nat.reduceAdd,Nat.reduceSub,Nat.reduceLeDiff,reduceCtorEq,gQ]
     ·have p1:=dW (i:=x) (n:=st_b.next) ad
      simp only[go_sem, ↓reduceIte,Nat.reduceEqDiff,Nat.reduceAdd,Nat.reduceSub,Nat.reduceLeDiff,reduceCtorEq,p1,h1,h2])
 ·have rQ:i=bs.length:=ad
  subst rQ
  rw[List.take_length]at bM
  (try((repeat(revert hN;revert N;apply Pn.out));refine wk (tw @b38 (tw @b0 (tw @b1 (tw @b5 (tw @Ni (tw @Nj @hi)))))) ?_;(repeat(refine Pn.mk ?_;intro N hN))))
  exact gI (.inl rfl) (vs:=[.ptr X 0 0]) (sd @Nat.zero_add) ⟨X,o1,o2,R1,R2,rfl,⟨I.sx,I.s1,I.s2,I.Qy,I.KP,I.i1,I.i2,by have:=I.vx;(try dsimp only);omega,by have:=I.v1;(try dsimp only);omega,by have:=I.v2;(try dsimp only);omega,fun j hj=>by have:=I.SB j hj;(try dsimp only);omega,fun j hj=>by have:=I.PM j hj;(try dsimp only);omega⟩,cE,bM,Ld⟩
end Go.Proofs.YtphenfakmdknlaaGreat.V

namespace Go.Proofs.YtphenfakmdknlaaGreat.V
structure Bq (n:Nat) (c f:Nat->Nat->Int) (x:Nat) (par:Nat->Int) (Q:List Nat) (i:Nat):Prop where
 nodup:Q.Nodup
 lt:∀v∈Q,v<n
 root:par x=(x:Int)
 mem:x∈Q
 iff:∀v,v<n->(0<=par v↔v∈Q)
 up:∀v∈Q,v≠x->∃u,u∈Q/\par v=(u:Int)/\Q.idxOf u<Q.idxOf v/\f u v<c u v
 done:∀j (_:j<i) (hl:j<Q.length) (v:Nat),v<n->f Q[j] v<c Q[j] v->v∈Q
 ile:i<=Q.length
section
variable {n:Nat} {c f:Nat->Nat->Int} {x:Nat} {par:Nat->Int} {Q:List Nat} {i:Nat}
theorem Bq.len (h:Bq n c f x par Q i):Q.length<=n:=gS n Q h.nodup h.lt
theorem Bq.start (hx:x<n):Bq n c f x (fun v=>if v=x then(x:Int)else -1) [x] 0:=by
 refine⟨by simp,fun v hv=>by simp at hv;omega,by simp,by simp,fun v hv=>?_,fun v hv gQ=>absurd (by simpa using hv) gQ,fun j hj=>ad,by simp⟩
 by_cases h:v=x
 ·simp[h]
 ·simp[h]
theorem Bq.visit (h:Bq n c f x par Q i) (hi:i<Q.length) {v:Nat} (hv:v<n) (hp:par v<0) (hr:f Q[i] v<c Q[i] v):Bq n c f x (fun w=>if w=v then(Q[i]:Int)else par w) (Q++[v]) i:=by
 have Sg:v∉Q:=fun hm=>by have:=(h.iff v hv).2 hm;omega
 have Sk:x≠v:=fun e=>Sg (e▸h.mem)
 have we:∀u∈Q,(Q++[v]).idxOf u=Q.idxOf u:=fun u hu=>by rw[List.idxOf_append,if_pos hu]
 have sI:(Q++[v]).idxOf v=Q.length:=by rw[List.idxOf_append,if_neg Sg];simp
 refine⟨?_,fun w hw=>?_,by simp only[if_neg Sk];exact h.root,by simp[h.mem],fun w hw=>?_,fun w hw gQ=>?_,fun j hj hl w hw A5=>?_,by simp;omega⟩
 ·refine List.nodup_append.2 ⟨h.nodup,by simp,fun a ha b hb=>?_⟩
  rw[List.mem_singleton.1 hb]
  rintro rfl;exact Sg ha
 ·rcases List.mem_append.1 hw with hw|hw
  ·exact h.lt w hw
  ·rw[List.mem_singleton.1 hw];exact hv
 ·by_cases ua:w=v
  ·subst ua;simp
  ·rw[if_neg ua,h.iff w hw];simp[ua]
 ·by_cases ua:w=v
  ·subst ua
   refine⟨Q[i],by simp,by simp,?_,hr⟩
   rw[we _ (List.getElem_mem hi),sI]
   exact List.idxOf_lt_length_of_mem (List.getElem_mem hi)
  ·have hwQ:w∈Q:=by
    rcases List.mem_append.1 hw with hw|hw
    ·exact hw
    ·exact absurd (List.mem_singleton.1 hw) ua
   obtain⟨u,h1,h2,h3,h4⟩:=h.up w hwQ gQ
   exact⟨u,by simp[h1],by rw[if_neg ua];exact h2,by rw[we u h1,we w hwQ];exact h3,h4⟩
 ·have gJ:j<Q.length:=by have:=h.ile;omega
  rw[List.getElem_append_left gJ]at A5
  exact List.mem_append_left _ (h.done j hj gJ w hw A5)
theorem Bq.next (h:Bq n c f x par Q i) (hi:i<Q.length) (dy:∀v,v<n->f Q[i] v<c Q[i] v->0<=par v):Bq n c f x par Q (i+1):=by
 refine⟨h.nodup,h.lt,h.root,h.mem,h.iff,h.up,fun j hj hl v hv hr=>?_,ad⟩
 by_cases lR:j=i
 ·subst lR;exact(h.iff v hv).1 (dy v hv hr)
 ·exact h.done j ad hl v hv hr
theorem Bq.cut (h:Bq n c f x par Q Q.length) {y:Nat} (hy:y<n) (hp:par y<0):∃S:Nat->Bool,S x=true/\S y=false/\∀u v,u<n->v<n->S u=true->S v=false->¬f u v<c u v:=by
 refine⟨fun v=>decide (v∈Q),by simp[h.mem],?_,fun u v hu hv h1 h2 hr=>?_⟩
 ·have:y∉Q:=fun hm=>by have:=(h.iff y hy).2 hm;omega
  simp[this]
 ·simp only[decide_eq_true_eq,decide_eq_false_iff_not]at h1 h2
  obtain⟨j,hj,rfl⟩:=List.getElem_of_mem h1
  exact h2 (h.done j hj hj v hv hr)
def rY (c f:Nat->Nat->Int) (Q:List Nat) (y k:Nat) (out:List Nat):Prop:=∃rest,out.reverse=k::rest/\(k::rest).getLast (by simp)=y/\kS f c (k::rest)/\(k::rest).Pairwise (fun a b=>Q.idxOf a<Q.idxOf b)/\∀v∈k::rest,v∈Q
theorem rY.start {y:Nat} (hy:y∈Q):rY c f Q y y [y]:=⟨[],rfl,rfl,trivial,by simp,by simpa using hy⟩
theorem rY.step {y k u:Nat} {out:List Nat} (h:rY c f Q y k out) (hu:u∈Q) (hi:Q.idxOf u<Q.idxOf k) (hr:f u k<c u k):rY c f Q y u (out++[u]):=by
 obtain⟨rest,h1,h2,h3,h4,h5⟩:=h
 refine⟨k::rest,by rw[List.reverse_append,h1];rfl,by rw[List.getLast_cons (by simp)];exact h2,⟨hr,h3⟩,?_,?_⟩
 ·refine List.pairwise_cons.2 ⟨fun b hb=>?_,h4⟩
  rcases List.mem_cons.1 hb with rfl|hb
  ·exact hi
  ·have:=(List.pairwise_cons.1 h4).1 b hb;omega
 ·intro v hv
  rcases List.mem_cons.1 hv with rfl|hv
  ·exact hu
  ·exact h5 v hv
theorem rY.len {y k:Nat} {out:List Nat} (h:rY c f Q y k out) (hq:∀v∈Q,v<n):out.length<=n:=by
 obtain⟨rest,h1,_,_,h4,h5⟩:=h
 rw[<-List.length_reverse,h1]
 refine gS n _ (h4.imp fun ea he=>?_) fun v hv=>hq v (h5 v hv)
 subst he;omega
structure tQ (n:Nat) (c f:Nat->Nat->Int) (x y:Nat) (p:List Nat):Prop where
 QA:∃r,p=x::r/\(x::r).getLast (by simp)=y
 nodup:p.Nodup
 room:kS f c p
 lt:∀v∈p,v<n
theorem rY.QA {y:Nat} {out:List Nat} (h:rY c f Q y x out) (hq:∀v∈Q,v<n):tQ n c f x y out.reverse:=by
 obtain⟨rest,h1,h2,h3,h4,h5⟩:=h
 rw[h1]
 exact⟨⟨rest,rfl,h2⟩,h4.imp fun ea he=>by subst he;omega,h3,fun v hv=>hq v (h5 v hv)⟩
end
end Go.Proofs.YtphenfakmdknlaaGreat.V

namespace Go.Proofs.YtphenfakmdknlaaGreat.V
open Go.RowKit
attribute [local irreducible] dJ wpOps e8 Call
attribute [local go_sem] ax eB dY eJ eI cJ upd bD K.av bW AV.cells AV.cell rowOf rowsOf part ld rowAt bC bx cU de fj bf cC dv eO er cL dm cw cu cZ da bl aI bZ bj ck cj di dn dj bY bo cz dh bh au cq bJ fh aT bV bm aH cS aQ cV AV.undef aV bc db dd cY dc bQ du dw bG dq dp cm cr List.getD_cons_zero List.getD_cons_succ List.getD_nil List.all_cons List.all_nil Bool.and_true Bool.true_and Bool.and_self Bool.not_true Bool.not_false Option.map_some Option.map_none Option.bind_some Option.bind_none List.length_cons List.length_nil List.take_succ_cons List.take_zero List.take_nil List.drop_succ_cons List.drop_zero List.drop_nil List.head?_cons List.map_cons List.map_nil List.getElem?_cons_zero List.getElem?_cons_succ List.cons_append List.nil_append List.append_nil List.length_map List.set_cons_zero List.set_cons_succ Nat.reduceMul eq_self Int.toNat_natCast Int.natCast_nonneg and_self true_and and_true decide_true decide_false Bool.false_eq_true Nat.zero_add Nat.add_zero List.contains_cons List.contains_nil Bool.or_false Bool.false_or beq_self_eq_true Nat.reduceBEq ne_eq not_true_eq_false not_false_eq_true Id.mk.injEq false_and and_false Nat.reduceLT Int.reduceLE Int.reduceLT Int.reduceToNat Int.reduceNeg Int.reduceAdd Nat.le_refl List.length_append beq_true beq_false Bool.not_eq_eq_eq_not or_false false_or dG ab ae az aU bu aC aP aE aJ cD aX
def kQ (l:List Nat) (i x:Nat):Nat:=if x<i∨l.length-i<=x then l.getD (l.length-1-x) 0 else l.getD x 0
theorem vd (l:List Nat):l.map eN=fY (fun x=>l.getD x 0) l.length:=by
 refine List.ext_getElem? fun i=>?_
 by_cases h:i<l.length
 ·rw[gW h,List.getElem?_map,List.getElem?_eq_getElem h];simp[List.getD_eq_getElem?_getD,h]
 ·rw[List.getElem?_eq_none (by simp;omega),List.getElem?_eq_none (by rw[jj];omega)]
theorem EJ (l:List Nat):fY (kQ l 0) l.length=l.map eN:=by
 rw[vd]
 exact nI fun x hx=>by unfold kQ;rw[if_neg ad]
theorem Hn (l:List Nat) {i:Nat} (h:l.length<=2*i+1) (hi:i<=l.length):fY (kQ l i) l.length=l.reverse.map eN:=by
 rw[vd l.reverse,List.length_reverse]
 refine nI fun x hx=>?_
 have hr:l.reverse.getD x 0=l.getD (l.length-1-x) 0:=by
  rw[List.getD_eq_getElem?_getD,List.getElem?_reverse hx,List.getD_eq_getElem?_getD]
 rw[hr]
 unfold kQ
 by_cases hc:x<i∨l.length-i<=x
 ·rw[if_pos hc]
 ·rw[if_neg hc]
  have:x=l.length-1-x:=ad
  rw[<-this]
theorem EK (l:List Nat) (hp:0<l.length) (hl:l.length<=1048576) (o:Id) (σ:ar) (ho:σ.get o=some ⟨true,1,l.map eN⟩) (uL:o.bR<σ.next):
  Call Tryz.prog 352 [.own o 0 l.length] σ fun r σ'=>σ'.get o=some ⟨true,1,l.reverse.map eN⟩/\σ.next<=σ'.next/\∀i:Id,i.bR<σ.next->(i=o)=False->σ'.get i=σ.get i:=by
 refine gj eL rfl fun wg=>?_
 clear wg
 rw[<-EJ]at ho
 have Fk:IntKind.i64.wrap ((l.length:Int)-1)=((l.length-1:Nat):Int):=by rw[bP ad];omega
 (try((repeat(revert hN;revert N;apply Pn.out));refine wk @Fk ?_;(repeat(refine Pn.mk ?_;intro N hN))))
 refine bp (fun m env st=>∃i:Nat,m=l.length-i/\2*i<=l.length+1/\i<=l.length/\env 2=.int .i64 (i:Int)/\env 3=.int .i64 ((l.length:Int)-1-i)/\st.get o=some ⟨true,1,fY (kQ l i) l.length⟩/\σ.next<=st.next/\∀x:Id,x.bR<σ.next->(x=o)=False->st.get x=σ.get x) l.length ⟨0,rfl,ad,ad,by(simp only[go_sem, ↓reduceIte,Nat.reduceEqDiff,Nat.reduceAdd,Nat.reduceSub,Nat.reduceLeDiff,reduceCtorEq])<;>rfl,by(simp only[go_sem, ↓reduceIte,Nat.reduceEqDiff,Nat.reduceAdd,Nat.reduceSub,Nat.reduceLeDiff,reduceCtorEq,Fk]);congr 1;omega,ho,cE,fun x _ _=>rfl⟩ ?_
 rintro m env_b st_b ⟨i,rfl,pg,rQ,b2,b3,bg,bn,bfr⟩ bkp
 have b0:=bkp 0 (by kernel_rfl)
 simp only[go_sem, ↓reduceIte,Nat.reduceEqDiff,Nat.reduceAdd,Nat.reduceSub,Nat.reduceLeDiff,reduceCtorEq]at b0
 clear bkp
 have tl:=jj (kQ l i) l.length
 have qb:=dW (i:=o) (n:=st_b.next) ad
 by_cases hi:(i:Int)<(l.length:Int)-1-i
 ·have gP:i<l.length:=ad
  obtain⟨j,hj⟩:∃j,j=l.length-1-i:=⟨_,rfl⟩
  have ib:j<l.length:=ad
  have IP:(l.length:Int)-1-i=(j:Int):=ad
  rw[IP]at b3 hi
  have g1:=gW (f:=kQ l i) gP
  have g2:=gW (f:=kQ l i) ib
  have e1:kQ l i i=l.getD i 0:=by unfold kQ;rw[if_neg ad]
  have e2:kQ l i j=l.getD j 0:=by unfold kQ;rw[if_neg ad]
  have KD:(fY (kQ l i) l.length).set i (eN (l.getD j 0))=fY (fun x=>if x=i then l.getD j 0 else kQ l i x) l.length:=w7 gP (if_pos rfl) fun x _ hx=>if_neg hx
  have Gy:(fY (fun x=>if x=i then l.getD j 0 else kQ l i x) l.length).set j (eN (l.getD i 0))=fY (kQ l (i+1)) l.length:=w7 ib (by unfold kQ;rw[if_pos ad];congr 1;omega) fun x hx NF=>by
   by_cases zN:x=i
   ·rw[if_pos zN];unfold kQ;rw[if_pos ad];congr 1;omega
   ·rw[if_neg zN];unfold kQ
    by_cases hc:x<i∨l.length-i<=x
    ·rw[if_pos hc,if_pos ad]
    ·rw[if_neg hc,if_neg ad]
  have Qz:=jj (fun x=>if x=i then l.getD j 0 else kQ l i x) l.length
  have g3:=gW (f:=fun x=>if x=i then l.getD j 0 else kQ l i x) ib
  rw[e1]at g1
  rw[e2]at g2
  rw[if_neg ad,e2]at g3
  rw[eN]at g1 g2 g3 KD Gy
  have OL:(i:Int)<(l.length:Int):=ad
  have lR:(j:Int)<(l.length:Int):=ad
  have pq:IntKind.i64.wrap ((i:Int)+1)=((i+1:Nat):Int):=aA ad
  have wo:IntKind.i64.wrap ((j:Int)-1)=(l.length:Int)-1-((i+1:Nat):Int):=by rw[bP ad];omega
  (try((repeat(revert hN;revert N;apply Pn.out));refine wk (tw @b0 (tw @b2 (tw @b3 (tw @bg (tw @hi (tw @OL (tw @lR (tw @g1 (tw @g2 (tw @g3 (tw @KD (tw @Gy (tw @tl (tw @Qz (tw @qb (tw @pq @wo)))))))))))))))) ?_;(repeat(refine Pn.mk ?_;intro N hN))))
  refine⟨_,?_,i+1,rfl,ad,ad,sd @pq,sd @wo,sd @Gy,cE,fun x hx Ph=>?_⟩
  ·omega
  ·have:=bfr x hx Ph
   simp only[go_sem, ↓reduceIte,Nat.reduceEqDiff,Nat.reduceAdd,Nat.reduceSub,Nat.reduceLeDiff,reduceCtorEq,Ph,this]
 ·rw[Hn l ad rQ]at bg
  (try((repeat(revert hN;revert N;apply Pn.out));refine wk (tw @b0 (tw @b2 (tw @b3 (tw @bg @hi)))) ?_;(repeat(refine Pn.mk ?_;intro N hN))))
  exact gI (.inr rfl) (vs:=[]) (by simp only[fe,go_sem, ↓reduceIte,Nat.reduceEqDiff,Nat.reduceAdd,Nat.reduceSub,Nat.reduceLeDiff,reduceCtorEq]) ⟨bg,cE,bfr⟩
end Go.Proofs.YtphenfakmdknlaaGreat.V
